/- TopSeason: part 7 of 16: Rt2 But Grid Outs Wsh Lim0 -/
import Derived.Test.YtnnhnkpoekbahaaGreatPart05
import Derived.Test.YtnnhnkpoekbahaaGreatPart00
import Derived.Test.YtnnhnkpoekbahaaGreatPart03
import Derived.Test.YtnnhnkpoekbahaaGreatPart04
import Derived.Test.YtnnhnkpoekbahaaGreatPart02
import Derived.Maps.AppendAt
import Derived.Defers
namespace Go.Proofs.YtnnhnkpoekbahaaGreat
open Go.RowKit
set_option maxHeartbeats 400000
set_option linter.unusedSimpArgs false
set_option linter.unusedVariables false
set_option maxRecDepth 100000
theorem f160_c (t a b : Nat) (w : World) (ht : t ≤ 9007199254740992) (hb : b ≤ 2305843009213693952) (hab : a ≤ b) (h0 : 0 < b) : Calls Tryz.prog 160 #[.int .i64 t, .int .i64 a, .int .i64 b] w fun e w' => e = .returned (.int .i64 ((t * a / b : Nat) : Int)) /\ Bl w w' := by
 have u1 : IntKind.u64.wrap (t : Int) = (t : Int) := wrapU_of t (by unfold U; omega)
 have u2 : IntKind.u64.wrap (a : Int) = (a : Int) := wrapU_of a (by unfold U; omega)
 have u3 : IntKind.u64.wrap (b : Int) = (b : Int) := wrapU_of b (by unfold U; omega)
 have hlt : t * a / 18446744073709551616 < b := by
  rw [Nat.div_lt_iff_lt_mul (by omega)]
  have h1 : t * a ≤ t * b := Nat.mul_le_mul_left t hab
  have h2 : t * b < 18446744073709551616 * b := Nat.mul_lt_mul_of_pos_right (by omega) h0
  rw [Nat.mul_comm b]
  omega
 have hq : divQ (t * a / 18446744073709551616) (t * a % 18446744073709551616) b = t * a / b := by
  unfold divQ
  have : t * a / 18446744073709551616 * 18446744073709551616 + t * a % 18446744073709551616 = t * a := by omega
  rw [this]
 have hle : t * a / b ≤ t := by
  rw [Nat.div_le_iff_le_mul_add_pred h0]
  have h1 : t * a ≤ t * b := Nat.mul_le_mul_left t hab
  rw [Nat.mul_comm b]
  omega
 have T133 := HD (fun W => Tryz.bits_Mul64 t a (by omega) (by omega) W)
 have T199 := HD (fun W => f199_c (t * a / 18446744073709551616) (t * a % 18446744073709551616) b hlt (by unfold U; omega) (by unfold U; omega) W)
 have u4 : IntKind.i64.wrap ((t * a / b : Nat) : Int) = ((t * a / b : Nat) : Int) := IntWalk.i64_in _ (by omega)
 rw [hq] at T199
 generalize divR (t * a / 18446744073709551616) (t * a % 18446744073709551616) b = r at T199
 generalize t * a / 18446744073709551616 = hi at T133 T199
 generalize t * a % 18446744073709551616 = lo at T133 T199
 clear hlt hq hle
 generalize t * a / b = q at T199 u4
 go_enter Tryz.func160, Tryz.ntmps160
 go_wp2_with fail
 refine (T133.out _).mono ?_
 rintro e w1 ⟨rfl, rfl⟩
 go_wp2_with fail
 refine (T199.out _).mono ?_
 rintro e w1 ⟨rfl, hw1⟩
 obtain ⟨hchw1, hfhw1, hzhw1⟩ := Bl.rules hw1; (try simp only [aZ, cZ, dZ, nZ] at hzhw1)
 go_wp2_with fail
 go_ret
 exact ⟨rfl, bz⟩
structure OwnSt (base : Nat) (w : World) (s : St) : Prop where
 vol : Own1 IV 3 base w s.vol
 pond : Own1 IV 3 base w s.pond
 set : Own1 IV 3 base w s.set
 on : Own1 BV 4 base w s.on
 ne : ∀ g, s.vol.val.ownBlock = some g -> s.pond.val.ownBlock ≠ some g /\ s.set.val.ownBlock ≠ some g /\ s.on.val.ownBlock ≠ some g
 ne2 : ∀ g, s.pond.val.ownBlock = some g -> s.set.val.ownBlock ≠ some g /\ s.on.val.ownBlock ≠ some g
def RCopy (s : St) (w : World) (e : Ending) (w' : World) : Prop := ∃ s' : St, e = .returned s'.val /\ s'.vol.xs = s.vol.xs /\ s'.pond.xs = s.pond.xs /\ s'.set.xs = s.set.xs /\ s'.on.xs = s.on.xs /\ OwnSt w.heap.size w' s' /\ Bl w w'
theorem Own1.mono {α : Type} {f : α -> Value} {e : TypeId} {base base' : Nat} {w : World} {s : Sl α} (h : Own1 f e base w s) (hb : base' ≤ base) : Own1 f e base' w s := ⟨h.1, h.2.imp id fun ⟨g, cap, cur, h1, h2, h3⟩ => ⟨g, cap, cur, h1, by omega, h3⟩⟩
set_option maxHeartbeats 2000000 in
theorem f116_c (s : St) (w : World) (ht : InSt w s) (h1 : s.vol.xs.length ≤ 400) (h2 : s.pond.xs.length ≤ 400) (h3 : s.set.xs.length ≤ 400) : Calls Tryz.prog 116 #[s.val] w (RCopy s w) := by
 have T1 := HD (fun W (hb : Bl w W) => f109_c s.vol W (InI.up ht.vol hb) (by omega))
 have T2 := HD (fun W (hb : Bl w W) => f109_c s.pond W (InI.up ht.pond hb) (by omega))
 have T3 := HD (fun W (hb : Bl w W) => f109_c s.set W (InI.up ht.set hb) (by omega))
 have T4 := HD (fun W (hb : Bl w W) => f154_c s.on W (InB.up ht.on hb))
 clear ht h1 h2 h3
 obtain ⟨sv, sp, ss, so⟩ := s
 simp only at T1 T2 T3 T4
 show Calls Tryz.prog 116 #[.agg #[sv.val, sp.val, ss.val, so.val]] w (RCopy ⟨sv, sp, ss, so⟩ w)
 go_enter Tryz.func116, Tryz.ntmps116
 go_wp2_with fail
 obtain ⟨W0, hW0⟩ : ∃ X, X = ((w.alloc (Obj.cells #[sv.val, sp.val, ss.val, so.val] 31)).alloc (Obj.cells #[.slice none 0 0, .slice none 0 0, .slice none 0 0, .slice none 0 0] 31)) := ⟨_, rfl⟩
 have hB0 : Bl w W0 := by rw [hW0]; exact bz
 have q0 : W0.cell? ⟨w.heap.size, 0, none⟩ = some (sv.val) := by rw [hW0]; simp [go_sem]
 have q1 : W0.cell? ⟨w.heap.size, 1, none⟩ = some (sp.val) := by rw [hW0]; simp [go_sem]
 have q2 : W0.cell? ⟨w.heap.size, 2, none⟩ = some (ss.val) := by rw [hW0]; simp [go_sem]
 have q3 : W0.cell? ⟨w.heap.size, 3, none⟩ = some (so.val) := by rw [hW0]; simp [go_sem]
 have r0 : W0.cell? ⟨w.heap.size + 1, 0, none⟩ = some (.slice none 0 0) := by rw [hW0]; simp [go_sem]
 have r1 : W0.cell? ⟨w.heap.size + 1, 1, none⟩ = some (.slice none 0 0) := by rw [hW0]; simp [go_sem]
 have r2 : W0.cell? ⟨w.heap.size + 1, 2, none⟩ = some (.slice none 0 0) := by rw [hW0]; simp [go_sem]
 have r3 : W0.cell? ⟨w.heap.size + 1, 3, none⟩ = some (.slice none 0 0) := by rw [hW0]; simp [go_sem]
 have f0 : W0.frozen? ⟨w.heap.size + 1, 0, none⟩ = false := by rw [hW0]; simp [go_sem]
 have f1 : W0.frozen? ⟨w.heap.size + 1, 1, none⟩ = false := by rw [hW0]; simp [go_sem]
 have f2 : W0.frozen? ⟨w.heap.size + 1, 2, none⟩ = false := by rw [hW0]; simp [go_sem]
 have f3 : W0.frozen? ⟨w.heap.size + 1, 3, none⟩ = false := by rw [hW0]; simp [go_sem]
 have zz : w.heap.size + 1 < W0.heap.size := by rw [hW0]; simp
 rw [<- hW0]
 clear hW0
 go_region_held3 (fun w' => Bl w w' /\ w'.cell? ⟨w.heap.size, 0, none⟩ = some (sv.val) /\ w'.cell? ⟨w.heap.size, 1, none⟩ = some (sp.val) /\ w'.cell? ⟨w.heap.size, 2, none⟩ = some (ss.val) /\ w'.cell? ⟨w.heap.size, 3, none⟩ = some (so.val)) (refine ⟨bz, ?_, ?_, ?_, ?_⟩ <;> (repeat (refine keepSet ?_ (by simp; done))) <;> first | exact Bl.keep (a := W0) bz q0 | exact Bl.keep (a := W0) bz q1 | exact Bl.keep (a := W0) bz q2 | exact Bl.keep (a := W0) bz q3) (first
  | (go_at_call 109; refine (T1.out _ (Bl.trans hB0 bz)).mono ?_; rintro e w1 ⟨⟨A1, c1, x1⟩, he1, hx1, hO1, hw1⟩; obtain rfl : e = .returned (.slice A1 x1.length c1) := he1; obtain rfl : x1 = sv.xs := hx1)
  | (go_at_call 109; refine (T2.out _ (Bl.trans hB0 bz)).mono ?_; rintro e w2 ⟨⟨A2, c2, x2⟩, he2, hx2, hO2, hw2⟩; obtain rfl : e = .returned (.slice A2 x2.length c2) := he2; obtain rfl : x2 = sp.xs := hx2)
  | (go_at_call 109; refine (T3.out _ (Bl.trans hB0 bz)).mono ?_; rintro e w3 ⟨⟨A3, c3, x3⟩, he3, hx3, hO3, hw3⟩; obtain rfl : e = .returned (.slice A3 x3.length c3) := he3; obtain rfl : x3 = ss.xs := hx3)
  | (go_at_call 154; refine (T4.out _ (Bl.trans hB0 bz)).mono ?_; rintro e w4 ⟨⟨A4, c4, x4⟩, he4, hx4, hO4, hw4⟩; obtain rfl : e = .returned (.slice A4 x4.length c4) := he4; obtain rfl : x4 = so.xs := hx4; have s0 : w4.cell? ⟨w.heap.size + 1, 0, none⟩ = some (.slice none 0 0) := Bl.keep (a := W0) bz r0; have t0 : w4.frozen? ⟨w.heap.size + 1, 0, none⟩ = false := Bl.keepF (a := W0) bz r0 f0; have s1 : w4.cell? ⟨w.heap.size + 1, 1, none⟩ = some (.slice none 0 0) := Bl.keep (a := W0) bz r1; have t1 : w4.frozen? ⟨w.heap.size + 1, 1, none⟩ = false := Bl.keepF (a := W0) bz r1 f1; have s2 : w4.cell? ⟨w.heap.size + 1, 2, none⟩ = some (.slice none 0 0) := Bl.keep (a := W0) bz r2; have t2 : w4.frozen? ⟨w.heap.size + 1, 2, none⟩ = false := Bl.keepF (a := W0) bz r2 f2; have s3 : w4.cell? ⟨w.heap.size + 1, 3, none⟩ = some (.slice none 0 0) := Bl.keep (a := W0) bz r3; have t3 : w4.frozen? ⟨w.heap.size + 1, 3, none⟩ = false := Bl.keepF (a := W0) bz r3 f3))
 have hsz1 : W0.heap.size ≤ w1.heap.size := hw1.size
 have hsz2 := hw2.size
 have hsz3 := hw3.size
 have hsz4 := hw4.size
 have L1 := HD hO1.lt
 have L2 := HD hO2.lt
 have L3 := HD hO3.lt
 have L4 := HD hO4.lt
 have hB4 : Bl w w4 := bz
 have hOwn : Hid (OwnSt w.heap.size ((((w4.setCell ⟨w.heap.size + 1, 0, none⟩ (.slice A1 sv.xs.length c1)).setCell ⟨w.heap.size + 1, 1, none⟩ (.slice A2 sp.xs.length c2)).setCell ⟨w.heap.size + 1, 2, none⟩ (.slice A3 ss.xs.length c3)).setCell ⟨w.heap.size + 1, 3, none⟩ (.slice A4 so.xs.length c4)) ⟨⟨A1, c1, sv.xs⟩, ⟨A2, c2, sp.xs⟩, ⟨A3, c3, ss.xs⟩, ⟨A4, c4, so.xs⟩⟩) := by
  have hne : ∀ {α : Type} (s : Sl α), (∀ g, s.val.ownBlock = some g -> w.heap.size + 1 < g) -> ∀ j, s.val.ownBlock ≠ some (⟨w.heap.size + 1, j, none⟩ : Addr).block := fun s h j e => by
   have := h _ e; simp only at this; omega
  have G1 : ∀ g, (⟨A1, c1, sv.xs⟩ : Sl Int).val.ownBlock = some g -> W0.heap.size ≤ g /\ g < w1.heap.size := L1.out
  have G2 : ∀ g, (⟨A2, c2, sp.xs⟩ : Sl Int).val.ownBlock = some g -> w1.heap.size ≤ g /\ g < w2.heap.size := L2.out
  have G3 : ∀ g, (⟨A3, c3, ss.xs⟩ : Sl Int).val.ownBlock = some g -> w2.heap.size ≤ g /\ g < w3.heap.size := L3.out
  have G4 : ∀ g, (⟨A4, c4, so.xs⟩ : Sl Bool).val.ownBlock = some g -> w3.heap.size ≤ g /\ g < w4.heap.size := L4.out
  have n1 := hne (⟨A1, c1, sv.xs⟩ : Sl Int) (fun g h => by have := G1 g h; omega)
  have n2 := hne (⟨A2, c2, sp.xs⟩ : Sl Int) (fun g h => by have := G2 g h; omega)
  have n3 := hne (⟨A3, c3, ss.xs⟩ : Sl Int) (fun g h => by have := G3 g h; omega)
  have n4 := hne (⟨A4, c4, so.xs⟩ : Sl Bool) (fun g h => by have := G4 g h; omega)
  refine ⟨?_, ?_, ?_, ?_, ?_, ?_⟩
  ·exact ((((Own1.mono (hO1.bl (hw2.trans (hw3.trans hw4))) (show w.heap.size ≤ W0.heap.size by omega)).other (n1 0) _).other (n1 1) _).other (n1 2) _).other (n1 3) _
  ·exact ((((Own1.mono (hO2.bl (hw3.trans hw4)) (by omega)).other (n2 0) _).other (n2 1) _).other (n2 2) _).other (n2 3) _
  ·exact ((((Own1.mono (hO3.bl hw4) (by omega)).other (n3 0) _).other (n3 1) _).other (n3 2) _).other (n3 3) _
  ·exact ((((Own1.mono hO4 (by omega)).other (n4 0) _).other (n4 1) _).other (n4 2) _).other (n4 3) _
  ·intro g hg
   have := G1 g hg
   exact ⟨fun e => by have := G2 g e; omega, fun e => by have := G3 g e; omega, fun e => by have := G4 g e; omega⟩
  ·intro g hg
   have := G2 g hg
   exact ⟨fun e => by have := G3 g e; omega, fun e => by have := G4 g e; omega⟩
 have hB5 : Bl w ((((w4.setCell ⟨w.heap.size + 1, 0, none⟩ (.slice A1 sv.xs.length c1)).setCell ⟨w.heap.size + 1, 1, none⟩ (.slice A2 sp.xs.length c2)).setCell ⟨w.heap.size + 1, 2, none⟩ (.slice A3 ss.xs.length c3)).setCell ⟨w.heap.size + 1, 3, none⟩ (.slice A4 so.xs.length c4)) := bz
 clear hO1 hO2 hO3 hO4 hw1 hw2 hw3 hw4 L1 L2 L3 L4 hB4 hsz1 hsz2 hsz3 hsz4 T1 T2 T3 T4
 go_wp2_with fail
 exact bodyPost_ret (v := .agg #[.slice A1 sv.xs.length c1, .slice A2 sp.xs.length c2, .slice A3 ss.xs.length c3, .slice A4 so.xs.length c4]) (by simp [results, Tryz.results116, go_sem, *]; try exact ⟨rfl, rfl⟩) rfl ⟨⟨⟨A1, c1, sv.xs⟩, ⟨A2, c2, sp.xs⟩, ⟨A3, c3, ss.xs⟩, ⟨A4, c4, so.xs⟩⟩, rfl, rfl, rfl, rfl, rfl, hOwn.out, hB5⟩
structure But (L : List Nat) (w w' : World) : Prop where
 os : w'.os = w.os
 tape : w'.tape = w.tape
 output : w'.output = w.output
 size : w.heap.size ≤ w'.heap.size
 block : ∀ k, k < w.heap.size -> k ∉ L -> w'.heap[k]? = w.heap[k]?
theorem But.of {L : List Nat} {w w' : World} (h : Bl w w') : But L w w' := ⟨h.os, h.tape, h.output, h.size, fun k hk _ => h.block k hk⟩
theorem But.refl (L : List Nat) (w : World) : But L w w := But.of (Bl.refl w)
theorem But.trans {L : List Nat} {a b c : World} (h : But L a b) (g : But L b c) : But L a c := ⟨g.os.trans h.os, g.tape.trans h.tape, g.output.trans h.output, Nat.le_trans h.size g.size, fun k hk hn => (g.block k (Nat.lt_of_lt_of_le hk h.size) hn).trans (h.block k hk hn)⟩
theorem But.set {L : List Nat} {a b : World} (h : But L a b) (p : Addr) (u : Value) (hp : p.block ∈ L \/ a.heap.size ≤ p.block) : But L a (b.setCell p u) := by
 refine ⟨h.os, h.tape, h.output, by simpa [cZ] using h.size, fun k hk hn => ?_⟩
 have hne : k ≠ p.block := by
  rcases hp with h1 | h1
  ·exact fun e => hn (e ▸ h1)
  ·omega
 exact (Below.heap_setCell b p u k hne).trans (h.block k hk hn)
theorem But.bl {L : List Nat} {w0 w w' : World} (h0 : Bl w0 w) (h : But L w w') (hL : ∀ k ∈ L, w0.heap.size ≤ k) : Bl w0 w' := by
 refine Below.trans h0 (show Below w0.heap.size w w' from ⟨h.os, h.tape, h.output, h.size, fun k hk => ?_⟩)
 exact h.block k (Nat.lt_of_lt_of_le hk h0.size) (fun hm => by have := hL k hm; omega)
theorem But.cell {L : List Nat} {w w' : World} (h : But L w w') {b o : Nat} {v : Value} (hc : w.cell? ⟨b, o, none⟩ = some v) (hn : b ∉ L) : w'.cell? ⟨b, o, none⟩ = some v :=
 (World.cell?_of_block (w := w) (h.block b (by have := cell_lt hc; simpa using this) hn)).trans hc
theorem But.own {L : List Nat} {w w' : World} {α : Type} {f : α -> Value} {e : TypeId} {base : Nat} {s : Sl α} (h : But L w w') (ho : Own1 f e base w s) (hn : ∀ g, s.val.ownBlock = some g -> g ∉ L) : Own1 f e base w' s :=
 ho.block (fun g hg => h.block g (ho.lt g hg).2 (hn g hg))
theorem But.more {L M : List Nat} {w w' : World} (h : But L w w') (hs : ∀ k ∈ L, k ∈ M) : But M w w' := ⟨h.os, h.tape, h.output, h.size, fun k hk hn => h.block k hk (fun hm => hn (hs k hm))⟩
theorem wp_append_own_at {P : Program} (w : World) {o : Oper} {a : Act} {K : Act -> World -> Prop} {Q : Exit -> Act -> World -> Prop} (s x : Operand) (t : TypeId)
 (ho : o.op = .call { callee := .builtin .append, args := #[s, x], argTypes := #[t, t] })
 (base : Nat) (e : TypeId) (i : TypeInfo) (z : Value) (size bytes : Nat) (ht : P.underlying t = some (.slice e)) (hi : P.info? e = some i) (hz : i.zero = some z)
 (hsize : i.size = size) (hby : i.bytes = bytes) (hzs : z.cells.size = size) (hsz : 0 < size)
 (v : Value) (n : Nat) (xs : List Value) (hs : a.eval s = v) (hown : w.ownsRow base e size v n xs)
 (ad : Addr) (m c : Nat) (news : List Value) (hx : a.eval x = .slice (some ad) m c) (hl : news.length = m * size) (hnews : ∀ j u, news[j]? = some u -> w.cell? (ad.add j) = some u) (h1 : ∀ u ∈ news, u.oneCell' = true)
 (h63 : n + m ≤ maxLen) (hbytes : (n + m) * bytes ≤ 140737488355328) (hbase : base ≤ w.heap.size)
 (h : ∀ v' w', w'.ownsRow base e size v' (n + m) (xs ++ news) -> w.grownBy w' v.ownBlock -> (v'.ownBlock = v.ownBlock \/ v'.ownBlock = some w.heap.size) -> K (a.put o.dst v') w') : o.wp P a w K Q := by
 obtain ⟨v', w', hr, h2, h3, _, h5⟩ := run_append_own_at (P := P) w base t o.type e i z size bytes ht hi hz hsize hby hzs hsz v n xs hown ad m c news hl hnews h1 h63 hbytes hbase
 unfold Oper.wp execOp
 simp only [ho, resolve, invoke, builtin, Sem.run_bind, Sem.run_pure, Result.andThen_ok, List.map_toArray, List.map_cons, List.map_nil, hs, hx, hr]
 exact h v' w' h2 h3 h5
def SV (s : Sl Int) : Value := s.val
structure Grid (base : Nat) (w : World) (g c : Nat) (L : List (Sl Int)) : Prop where
 out : Own1 SV 28 base w ⟨some ⟨g, 0, none⟩, c, L⟩
 row : ∀ i (h : i < L.length), Own1 IV 3 base w L[i]
 ng : ∀ i (h : i < L.length), L[i].val.ownBlock ≠ some g
 ne : ∀ i j (hi : i < L.length) (hj : j < L.length), i ≠ j -> ∀ b, L[i].val.ownBlock = some b -> L[j].val.ownBlock ≠ some b
theorem Grid.bl {base : Nat} {w w' : World} {g c : Nat} {L : List (Sl Int)} (h : Grid base w g c L) (hb : Bl w w') : Grid base w' g c L := ⟨h.out.bl hb, fun i hi => (h.row i hi).bl hb, h.ng, h.ne⟩
theorem Grid.step {base : Nat} {w w5 : World} {g c : Nat} {L : List (Sl Int)} (h : Grid base w g c L) {a : Nat} (ha : a < L.length) {x : Int} {v' : Value}
 (hown : w5.ownsRow base 3 1 v' (L[a].xs.length + 1) (L[a].xs.map IV ++ [IV x])) (hgr : w.grownBy w5 L[a].val.ownBlock) (hat : v'.ownBlock = L[a].val.ownBlock \/ (∃ m, v'.ownBlock = some m /\ w.heap.size ≤ m)) :
 ∃ s' : Sl Int, v' = s'.val /\ s'.xs = L[a].xs ++ [x] /\ Grid base (w5.setCell ⟨g, a, none⟩ s'.val) g c (L.set a s') := by
 obtain ⟨s', hv, hx, hO⟩ := Own1.ofRow (f := IV) (xs := L[a].xs ++ [x]) (v := v') (by simpa using hown)
 subst hv
 have hgw : g < w.heap.size := (h.out.lt g rfl).2
 have hsg : s'.val.ownBlock ≠ some g := fun e => by
  rcases hat with h1 | ⟨m, h1, h2⟩
  ·exact h.ng a ha (h1 ▸ e)
  ·rw [h1] at e; simp only [Option.some.injEq] at e; omega
 have hold : ∀ j (hj : j < L.length), j ≠ a -> ∀ b, L[j].val.ownBlock = some b -> s'.val.ownBlock ≠ some b := fun j hj hja b hb e => by
  rcases hat with h1 | ⟨m, h1, h2⟩
  ·exact h.ne j a hj ha hja b hb (h1 ▸ e)
  ·rw [h1] at e; simp only [Option.some.injEq] at e
   have := ((h.row j hj).lt b hb).2
   omega
 refine ⟨s', rfl, hx, ?_, ?_, ?_, ?_⟩
 ·have h1 : Own1 SV 28 base w5 ⟨some ⟨g, 0, none⟩, c, L⟩ := World.ownsRow.kept h.out hgr (.inr (fun e => h.ng a ha e.symm))
  exact h1.set a s'
 ·intro i hi
  have hi' : i < L.length := by simpa using hi
  by_cases hia : i = a
  ·subst hia
   rw [List.getElem_set_self]
   exact hO.other hsg _
  ·rw [List.getElem_set_ne (fun e => hia e.symm)]
   have h1 : Own1 IV 3 base w5 L[i] := by
    refine World.ownsRow.kept (h.row i hi') hgr ?_
    cases hb : L[i].val.ownBlock with
    | none => exact .inl rfl
    | some b => exact .inr (fun e => h.ne i a hi' ha hia b hb e.symm)
   exact h1.other (h.ng i hi') _
 ·intro i hi
  have hi' : i < L.length := by simpa using hi
  by_cases hia : i = a
  ·subst hia
   rw [List.getElem_set_self]
   exact hsg
  ·rw [List.getElem_set_ne (fun e => hia e.symm)]
   exact h.ng i hi'
 ·intro i j hi hj hij b hb
  have hi' : i < L.length := by simpa using hi
  have hj' : j < L.length := by simpa using hj
  by_cases hia : i = a
  ·subst hia
   rw [List.getElem_set_self] at hb
   rw [List.getElem_set_ne (fun e => hij e)]
   exact fun e => hold j hj' (fun e => hij e.symm) b e hb
  ·rw [List.getElem_set_ne (fun e => hia e.symm)] at hb
   by_cases hja : j = a
   ·subst hja
    rw [List.getElem_set_self]
    exact hold i hi' hia b hb
   ·rw [List.getElem_set_ne (fun e => hja e.symm)]
    exact h.ne i j hi' hj' hij b hb
def outsE (es : List (Int × Int)) (i : Nat) : Nat -> List Int
 | 0 => []
 | k + 1 => if (es[k]!).1 = (i : Int) then outsE es i k ++ [(k : Int)] else outsE es i k
def edgesN (n : Net) : List (Int × Int) := n.links.xs.map (fun x => (ndIx n x.src, ndIx n x.dst))
def InG (w : World) (s : Sl (Sl Int)) : Prop := s.Ok (fun x => [SV x]) 1 OkI w.heap.size w
theorem InG.up {w w' : World} {s : Sl (Sl Int)} (h : InG w s) (hb : Bl w w') : InG w' s := Sl.Ok.up h hb fun _ _ h => InI.up h hb
theorem Grid.ok {base : Nat} {w : World} {g c : Nat} {L : List (Sl Int)} (h : Grid base w g c L) (h1 : L.length ≤ 140737488351232) (h2 : ∀ i (h : i < L.length), L[i].xs.length ≤ 140737488351232) : InG w ⟨some ⟨g, 0, none⟩, c, L⟩ :=
 Own1.ok h.out h1 (fun x hx => by
  obtain ⟨i, hi, rfl⟩ := List.getElem_of_mem hx
  exact Own1.ok (h.row i hi) (h2 i hi) (fun _ _ => trivial))
def ROuts (n : Net) (w : World) (e : Ending) (w' : World) : Prop := ∃ (G : Sl (Sl Int)) (E : Sl (Int × Int)), e = .returned (.tuple #[G.val, E.val]) /\ (InG w' G /\ New w G /\ ∀ i (h : i < G.xs.length), New w G.xs[i]) /\ (InE w' E /\ New w E) /\ G.xs.length = n.nodes.xs.length /\ (∀ i (h : i < G.xs.length), G.xs[i].xs = outsE (edgesN n) i n.links.xs.length) /\ E.xs = edgesN n /\ Bl w w'
theorem i28 : ∃ i, Tryz.prog.info? 28 = some i /\ i.zero = some (.slice none 0 0) /\ i.size = 1 /\ i.bytes = 24 := info_of (by kernel_rfl)
theorem u101 : Tryz.prog.underlying 101 = some (.slice 28) := by kernel_rfl
theorem grown_cell {w w' : World} {row : Option Nat} (hg : w.grownBy w' row) {b o : Nat} {v : Value} (hc : w.cell? ⟨b, o, none⟩ = some v) (hne : row ≠ some b) : w'.cell? ⟨b, o, none⟩ = some v :=
 (World.cell?_of_block (w := w) (hg.block b (by have := cell_lt hc; simpa using this) (fun e => hne e.symm))).trans hc
theorem grown_fro {w w' : World} {row : Option Nat} (hg : w.grownBy w' row) {b o : Nat} {v : Value} (hc : w.cell? ⟨b, o, none⟩ = some v) (hf : w.frozen? ⟨b, o, none⟩ = false) (hne : row ≠ some b) : w'.frozen? ⟨b, o, none⟩ = false :=
 (World.frozen?_of_block (w := w) (hg.block b (by have := cell_lt hc; simpa using this) (fun e => hne e.symm))).trans hf
theorem But.grown {L : List Nat} {a b c : World} {row : Option Nat} (h : But L a b) (hg : b.grownBy c row) (hr : ∀ k, row = some k -> a.heap.size ≤ k) : But L a c :=
 ⟨hg.os.trans h.os, hg.tape.trans h.tape, hg.output.trans h.output, Nat.le_trans h.size hg.size, fun k hk hn => (hg.block k (Nat.lt_of_lt_of_le hk h.size) (fun e => by have := hr k e.symm; omega)).trans (h.block k hk hn)⟩
theorem InE.but {w w' : World} {g : Nat} {E : Sl (Int × Int)} (h : InE w E) (hb : But [g] w w') (hne : ∀ b off, E.A = some ⟨b, off, none⟩ -> E.xs ≠ [] -> b ≠ g) : InE w' E where
 cap := h.cap
 room := h.room
 place := fun he => by
  obtain ⟨b, off, hA, hB, hw, hc⟩ := h.place he
  exact ⟨b, off, hA, Nat.lt_of_lt_of_le hw hb.size, Nat.lt_of_lt_of_le hw hb.size, fun i hi j v hv => hb.cell (hc i hi j v hv) (by simpa using hne b off hA he)⟩
 each := fun _ _ => trivial
theorem Own1.full {α : Type} {f : α -> Value} {e : TypeId} {base g c : Nat} {w : World} {xs : List α} (h : Own1 f e base w ⟨some ⟨g, 0, none⟩, c, xs⟩) (hc : c = xs.length) {o : Nat} {v : Value} (hv : w.cell? ⟨g, o, none⟩ = some v) : ∃ x ∈ xs, v = f x := by
 rcases h.2 with ⟨h', _⟩ | ⟨g', cap', cur, h', _, hg, _, _, hs, htake⟩
 ·simp [Sl.val] at h'
 ·simp only [Sl.val, Value.slice.injEq, Option.some.injEq, Addr.mk.injEq, and_true, true_and] at h'
  obtain ⟨rfl, rfl⟩ := h'
  have h1 : w.cell? ⟨g, o, none⟩ = cur[o]? := cell_of_row w g o cur e (0, 0) hg
  rw [hv] at h1
  have h2 : cur.toList = xs.map f := by
   rw [<- htake, List.take_of_length_le]
   rw [Array.length_toList, hs, hc]
   exact Nat.le_refl _
  have h3 : (xs.map f)[o]? = some v := by rw [<- h2]; simpa using h1.symm
  have h4 := List.mem_of_getElem? h3
  rw [List.mem_map] at h4
  obtain ⟨x, hx, rfl⟩ := h4
  exact ⟨x, hx, rfl⟩
set_option maxHeartbeats 4000000 in
theorem f121_core (A A2 : Option Addr) (c c2 : Nat) (xs : List Nd) (ls : List Lk) (w : World) (es : List (Int × Int))
 (hN : InNet w ⟨⟨A, c, xs⟩, ⟨A2, c2, ls⟩⟩) (hx : xs.length ≤ 300) (hl : ls.length ≤ 400) (hes : es.length = ls.length)
 (hsrc : ∀ k (h : k < es.length), ∃ a : Nat, a < xs.length /\ (es[k]).1 = (a : Int))
 (T161 : ∀ W, Bl w W -> Calls Tryz.prog 161 #[.agg #[.slice A xs.length c, .slice A2 ls.length c2]] W fun e w' => ∃ s : Sl (Int × Int), e = .returned (.tuple #[s.val, .int .i64 0]) /\ (InE w' s /\ New W s) /\ s.xs = es /\ Bl W w')
 (R : Ending -> World -> Prop)
 (hR : ∀ (G : Sl (Sl Int)) (E : Sl (Int × Int)) w', (InG w' G /\ New w G /\ ∀ i (h : i < G.xs.length), New w G.xs[i]) -> (InE w' E /\ New w E) -> G.xs.length = xs.length -> (∀ i (h : i < G.xs.length), G.xs[i].xs = outsE es i ls.length) -> E.xs = es -> Bl w w' -> R (.returned (.tuple #[G.val, E.val])) w') :
 Calls Tryz.prog 121 #[.agg #[.slice A xs.length c, .slice A2 ls.length c2]] w R := by
 have T161h := HD T161
 have hRh := HD hR
 have hsrch := HD hsrc
 have hesh := HD hes
 clear hN hR hsrc hes T161
 obtain ⟨i0, hi, hz0, hz1, hz2⟩ := i28
 have HI := HD (And.intro hi (And.intro hz0 (And.intro hz1 hz2)))
 obtain ⟨i1, hi1, hz01, hz11, hz21⟩ := i3
 have HJ := HD (And.intro hi1 (And.intro hz01 (And.intro hz11 hz21)))
 clear hi hz0 hz1 hz2 hi1 hz01 hz11 hz21
 have HU := HD u28
 go_enter Tryz.func121, Tryz.ntmps121
 go_wp2_with (at_make; refine wpList_make_full _ rfl _ _ 101 rfl w.heap.size 28 i0 (.slice none 0 0) 1 u101 HI.out.1 HI.out.2.1 HI.out.2.2.1 .i64 .i64 _ _ xs.length rfl rfl rfl rfl (by rw [HI.out.2.2.2]; omega) (by unfold maxLen; omega) (by simp) ?_)
 intro w1 hown hgr
 have hB1 : Bl w w1 := Bl.grown bz hgr (fun g hg => by cases hg)
 have hrep : (madeCells #[Value.slice none 0 0] xs.length).toList = (List.replicate xs.length (⟨none, 0, []⟩ : Sl Int)).map SV := by
  rw [toList_madeCells_one, List.map_replicate]
  rfl
 rw [hrep] at hown
 have hG0 := HD (show Grid w.heap.size w1 (w.heap.size + 1) xs.length (List.replicate xs.length (⟨none, 0, []⟩ : Sl Int)) from by
  refine ⟨?_, ?_, ?_, ?_⟩
  ·unfold Own1
   simp only [Sl.val, List.length_replicate]
   simpa using hown
  ·intro i hi; rw [List.getElem_replicate]; exact Own1.nil
  ·intro i hi; rw [List.getElem_replicate]; simp [Sl.val, Value.ownBlock]
  ·intro i j hi hj _ b hb; rw [List.getElem_replicate] at hb; simp [Sl.val, Value.ownBlock] at hb)
 have b0 : w1.cell? ⟨w.heap.size, 0, none⟩ = some (.slice A xs.length c) := by
  rw [World.cell?_of_block (w := w.alloc (Obj.cells #[.slice A xs.length c, .slice A2 ls.length c2] 25)) (hgr.block _ (by simp) (by simp))]
  simp [go_sem]
 have b1 : w1.cell? ⟨w.heap.size, 1, none⟩ = some (.slice A2 ls.length c2) := by
  rw [World.cell?_of_block (w := w.alloc (Obj.cells #[.slice A xs.length c, .slice A2 ls.length c2] 25)) (hgr.block _ (by simp) (by simp))]
  simp [go_sem]
 clear hown hgr hrep
 go_wp2_with fail
 refine (T161h.out _ hB1).mono ?_
 rintro e w2 ⟨⟨EA, ec, ex⟩, he, ⟨hE, hEn⟩, hx0, hw2⟩
 obtain rfl : e = .returned (.tuple #[.slice EA ex.length ec, .int .i64 0]) := he
 simp only at hx0
 subst hx0
 have hEr := hE.room
 have hEh := HD hE
 have hEnh := HD (New.up hEn hB1)
 have hB2 : Bl w w2 := hB1.trans hw2
 have hG2 := HD (hG0.out.bl hw2)
 have hbE := HD (fun b off (hA : EA = some ⟨b, off, none⟩) (hne : ex ≠ []) => show b ≠ w.heap.size + 1 from fun e => by
  subst e
  obtain ⟨b', off', hA', _, _, hc⟩ := hE.place hne
  simp only at hA'
  rw [hA] at hA'
  simp only [Option.some.injEq, Addr.mk.injEq, and_true] at hA'
  obtain ⟨rfl, rfl⟩ := hA'
  have hpos : 0 < ex.length := List.length_pos_iff.mpr hne
  obtain ⟨x, _, hx⟩ := hG2.out.out.full (by simp) (hc 0 hpos 0 _ rfl)
  simp [SV, Sl.val] at hx)
 simp only at hEr
 clear hEn T161h hE hw2 hB1 hG0 b0 b1
 go_wp2_with fail
 go_loopg [20] ex.length (fun gg s20 wr => ∃ (kk : Nat) (L : List (Sl Int)), kk ≤ ex.length /\ ex.length - kk ≤ gg /\ s20 = .int .i64 kk /\ Aside (Bl w wr) /\ Aside (But [w.heap.size + 1] w2 wr) /\ Aside (∀ i (h : i < L.length) b, L[i].val.ownBlock = some b -> w2.heap.size ≤ b) /\ Aside (Grid w.heap.size wr (w.heap.size + 1) xs.length L) /\ Aside (L.length = xs.length) /\ Aside (∀ i (h : i < L.length), L[i].xs = outsE ex i kk /\ L[i].xs.length ≤ kk))
 case atStart => exact ⟨0, List.replicate xs.length (⟨none, 0, []⟩ : Sl Int), Nat.zero_le _, by omega, rfl, hB2, But.refl _ _, aside (fun i h b hb => by rw [List.getElem_replicate] at hb; simp [Sl.val, Value.ownBlock] at hb), hG2.out, aside (by simp), aside (fun i h => by rw [List.getElem_replicate]; exact ⟨rfl, Nat.le_refl _⟩)⟩
 case round =>
  clear hB2 hG2
  obtain ⟨kk, L, hkk, hg, rfl, BW, BU, RB, GG, LL, PP⟩ := hrel
  have EE := HD (InE.but hEh.out BU.out hbE.out)
  have BW' := BW.out
  by_cases hlt : kk < ex.length
  ·have hltz : (kk : Int) < (ex.length : Int) := by omega
   have hkz : (0 : Int) ≤ (kk : Int) := by omega
   obtain ⟨bE, offE, hA, _, _, hc⟩ := EE.out.place (by intro e; simp only at e; rw [e] at hlt; simp at hlt)
   simp only at hA hc
   subst hA
   obtain ⟨a, ha, hsa⟩ := hsrch.out kk hlt
   have e0 : wr.cell? ⟨bE, offE + kk * 2, none⟩ = some (.int .i64 a) := by rw [<- hsa]; exact hc kk hlt 0 _ rfl
   obtain ⟨d, hd⟩ : ∃ d, d = (ex[kk]).2 := ⟨_, rfl⟩
   have e1 : wr.cell? ⟨bE, offE + kk * 2 + 1, none⟩ = some (.int .i64 d) := by rw [hd]; exact hc kk hlt 1 _ rfl
   have hLa : a < L.length := by have := LL.out; omega
   have haz : (a : Int) < (xs.length : Int) := by omega
   have ha0 : (0 : Int) ≤ (a : Int) := by omega
   have hstep : Hid (∀ s' : Sl Int, s'.xs = L[a].xs ++ [(kk : Int)] -> ∀ i (h : i < (L.set a s').length), (L.set a s')[i].xs = outsE ex i (kk + 1) /\ (L.set a s')[i].xs.length ≤ kk + 1) := fun s' hs' i hi => by
    have hi' : i < L.length := by simpa using hi
    have he : (ex[kk]!).1 = (a : Int) := by rw [getElem!_pos ex kk hlt, hsa]
    have hp := PP.out i hi'
    simp only [outsE, he]
    by_cases hia : i = a
    ·subst hia
     rw [List.getElem_set_self, hs', if_pos rfl, hp.1]
     refine ⟨rfl, ?_⟩
     rw [<- hp.1, List.length_append]
     simp only [List.length_cons, List.length_nil]
     omega
    ·rw [List.getElem_set_ne (fun e => hia e.symm), if_neg (by omega)]
     exact ⟨hp.1, by omega⟩
   have hlen1 := HD ((PP.out a hLa).2)
   have hrl := HD (GG.out.row a hLa).lt
   have hzr : w.heap.size + 1 < wr.heap.size := (GG.out.out.lt _ rfl).2
   clear hc hsa hd PP
   go_wp2_with fail
   obtain ⟨W0, hW0⟩ : ∃ X, X = (wr.alloc (Obj.cells #[.int .i64 a, .int .i64 d] 206)) := ⟨_, rfl⟩
   have hB0 : Bl wr W0 := by rw [hW0]; exact bz
   have q0 : W0.cell? ⟨wr.heap.size, 0, none⟩ = some (.int .i64 a) := by rw [hW0]; simp [go_sem]
   have zq : wr.heap.size < W0.heap.size := by rw [hW0]; simp
   rw [<- hW0]
   clear hW0
   have hBW0 : Bl w W0 := BW'.trans hB0
   have hG := HD (GG.out.bl hB0)
   have c0 : W0.cell? ⟨w.heap.size + 1, a, none⟩ = some (L[a].val) := hG.out.out.cell a hLa
   have f0 : W0.frozen? ⟨w.heap.size + 1, a, none⟩ = false := hG.out.out.fro a
   have hBU0 := HD (BU.out.trans (But.of hB0))
   have hRB := HD RB.out
   have hng := HD (hG.out.ng a hLa)
   have hzg := (hG.out.out.lt _ rfl).2
   have hLLh := HD LL.out
   clear e0 e1 BW EE GG LL BU RB
   refine wp_region_held_drew (S := (fun w' => Bl w w' /\ w'.cell? ⟨wr.heap.size, 0, none⟩ = some (.int .i64 a))) (by kernel_rfl) ?_ (fun hHeld => ?_)
   ·(try dsimp only)
    ((refine ⟨(by first | assumption | exact bz), ?_⟩; (repeat (refine keepSet ?_ (by simp; omega))); first | assumption | exact Bl.keep (a := W0) bz q0))
   refine tk 0 { dst := some 25, op := .move (.tmp 4), type := 101, pos := "routing.go:99", after := #[], guard := none } ?_
   (try simp only [Act.put, lA, lB, lC])
   refine tk 1 { dst := some 26, op := .indexAddr 206 (.tmp 8) (.const (.int .i64 0)), type := 0, pos := "routing.go:99", after := #[], guard := none } ?_
   (try simp only [Act.put, lA, lB, lC])
   refine tk 2 { dst := some 27, op := .load 3 (.tmp 26), type := 3, pos := "routing.go:99", after := #[{ on := 1, ground := .data }], guard := none } ?_
   (try simp only [Act.put, lA, lB, lC])
   refine tk 3 { dst := some 28, op := .move (.tmp 4), type := 101, pos := "routing.go:99", after := #[], guard := none } ?_
   (try simp only [Act.put, lA, lB, lC])
   refine tk 4 { dst := some 29, op := .indexAddr 206 (.tmp 8) (.const (.int .i64 0)), type := 0, pos := "routing.go:99", after := #[], guard := none } ?_
   (try simp only [Act.put, lA, lB, lC])
   refine tk 5 { dst := some 30, op := .load 3 (.tmp 29), type := 3, pos := "routing.go:99", after := #[{ on := 4, ground := .data }], guard := none } ?_
   (try simp only [Act.put, lA, lB, lC])
   refine tk 6 { dst := some 31, op := .indexAddr 101 (.tmp 28) (.tmp 30), type := 0, pos := "routing.go:99", after := #[{ on := 3, ground := .data }, { on := 5, ground := .data }], guard := none } ?_
   (try simp only [Act.put, lA, lB, lC])
   refine tk 8 { dst := some 33, op := .move (.tmp 7), type := 3, pos := "routing.go:99", after := #[], guard := none } ?_
   (try simp only [Act.put, lA, lB, lC])
   refine wpAnyH_ready (rs := [7, 9]) (by kernel_rfl) (by simp) ?_
   refine AllReadyH.cons (o := { dst := some 32, op := .load 28 (.tmp 31), type := 28, pos := "routing.go:99", after := #[{ on := 6, ground := .data }], guard := none }) rfl (fun K hK => ?_) ?_
   ·go_simp
    refine hK.out _ _ ?_ (fun hHeld => ?_)
    ·(try dsimp only)
     ((refine ⟨(by first | assumption | exact bz), ?_⟩; (repeat (refine keepSet ?_ (by simp; omega))); first | assumption | exact Bl.keep (a := W0) bz q0))
    clear hK K
    (try simp only [Act.put, lA, lB, lC])
    refine wpAnyH_ready (rs := [9]) (by kernel_rfl) (by simp) ?_
    refine AllReadyH.cons (o := { dst := some 34, op := .buildSlice 28 1 #[(0, .tmp 33)], type := 28, pos := "routing.go:99", after := #[{ on := 8, ground := .data }], guard := none }) rfl (fun K hK => ?_) ?_
    ·go_simp
     refine hK.out _ _ ?_ (fun hHeld => ?_)
     ·(try dsimp only)
      ((refine ⟨(by first | assumption | exact bz), ?_⟩; (repeat (refine keepSet ?_ (by simp; omega))); first | assumption | exact Bl.keep (a := W0) bz q0))
     clear hK K
     (try simp only [Act.put, lA, lB, lC])
     refine wpAnyH_ready (rs := [10]) (by kernel_rfl) (by simp) ?_
     refine AllReadyH.cons (o := { dst := some 35, op := .call { callee := .builtin .append, args := #[.tmp 32, .tmp 34], argTypes := #[28, 28] }, type := 28, pos := "routing.go:99", after := #[{ on := 7, ground := .data }, { on := 9, ground := .data }], guard := none }) rfl (fun K hK => ?_) ?_
     ·(rw [if_pos (by rfl)]; refine wp_append_own_at _ _ _ 28 rfl w.heap.size 3 i1 (.int .i64 0) 1 8 HU.out HJ.out.1 HJ.out.2.1 HJ.out.2.2.1 HJ.out.2.2.2 rfl (by decide) _ _ _ rfl (World.ownsRow.alloc (World.ownsRow.drew (hG.out.row a hLa)) _) _ 1 1 [.int .i64 kk] rfl rfl (cell_one_new _ _ _) (by intro u hu; simp at hu; subst hu; rfl) (by have h1 := hlen1.out; have h2 := hesh.out; unfold maxLen; omega) (by have h1 := hlen1.out; have h2 := hesh.out; omega) (by have h3 := hBW0.size; simp; omega) ?_; intro v' w5 hown' hgr hat; obtain ⟨s', rfl, hs', hGs⟩ := Grid.step (x := (kk : Int)) (hG.out.bl (show Bl W0 ((W0.drew).alloc (Obj.cells #[.int .i64 kk] 3)) from bz)) hLa hown' hgr (hat.imp id (fun h => ⟨_, h, Nat.le_refl _⟩)); have hB5 : Bl w w5 := Bl.grown (show Bl w ((W0.drew).alloc (Obj.cells #[.int .i64 kk] 3)) from bz) hgr (fun g hg => by have := ((hG.out.row a hLa).lt g hg).1; omega); have hnr : L[a].val.ownBlock ≠ some wr.heap.size := (fun e => by have := (hrl.out _ e).2; omega); have hBw : Bl W0 ((W0.drew).alloc (Obj.cells #[.int .i64 kk] 3)) := bz; have q5 := grown_cell hgr (hBw.keep q0) hnr; have c5 := grown_cell hgr (hBw.keep c0) hng.out; have f5 := grown_fro hgr (hBw.keep c0) (hBw.keepF c0 f0) hng.out; have hGh := HD hGs; have hxh := HD (hstep.out s' hs'); have hbu5 : But [w.heap.size + 1] w2 w5 := (But.grown (hBU0.out.trans (But.of hBw)) hgr (hRB.out a hLa)); have hath := HD (show ∀ b, s'.val.ownBlock = some b -> w2.heap.size ≤ b from fun b hb => hat.elim (fun h => hRB.out a hLa b (h ▸ hb)) (fun h => by rw [h] at hb; simp only [Option.some.injEq] at hb; have := hBU0.out.size; simp at hb; omega)); clear hGs hs' hgr hat hown')
      refine hK.out _ _ ?_ (fun hHeld => ?_)
      ·(try dsimp only)
       ((refine ⟨(by first | assumption | exact bz), ?_⟩; (repeat (refine keepSet ?_ (by simp; omega))); first | assumption | exact Bl.keep (a := W0) bz q0))
      clear hK K
      (try simp only [Act.put, lA, lB, lC])
      refine tk 11 { dst := some 36, op := .indexAddr 101 (.tmp 25) (.tmp 27), type := 0, pos := "routing.go:99", after := #[{ on := 0, ground := .data }, { on := 2, ground := .data }, { on := 0, ground := .phase }, { on := 1, ground := .phase }, { on := 2, ground := .phase }, { on := 3, ground := .phase }, { on := 4, ground := .phase }, { on := 5, ground := .phase }, { on := 6, ground := .phase }, { on := 7, ground := .phase }, { on := 8, ground := .phase }, { on := 9, ground := .phase }, { on := 10, ground := .phase }], guard := none } ?_
      (try simp only [Act.put, lA, lB, lC])
      refine wpAnyH_ready (rs := [12]) (by kernel_rfl) (by simp) ?_
      refine AllReadyH.cons (o := { dst := none, op := .store 28 (.tmp 36) (.tmp 35), type := 0, pos := "routing.go:99", after := #[{ on := 11, ground := .data }, { on := 10, ground := .data }, { on := 10, ground := .chain }, { on := 0, ground := .phase }, { on := 1, ground := .phase }, { on := 2, ground := .phase }, { on := 3, ground := .phase }, { on := 4, ground := .phase }, { on := 5, ground := .phase }, { on := 6, ground := .phase }, { on := 7, ground := .phase }, { on := 8, ground := .phase }, { on := 9, ground := .phase }, { on := 10, ground := .phase }], guard := none }) rfl (fun K hK => ?_) ?_
      ·go_simp
       refine hK.out _ _ ?_ (fun hHeld => ?_)
       ·(try dsimp only)
        ((refine ⟨(by first | assumption | exact bz), ?_⟩; (repeat (refine keepSet ?_ (by simp; omega))); first | assumption | exact Bl.keep (a := W0) bz q0))
       clear hK K
       (try simp only [Act.put, lA, lB, lC])
       refine wpAnyH_done (by kernel_rfl) ?_ _
       have hB6 : Bl w (w5.setCell ⟨w.heap.size + 1, a, none⟩ s'.val) := Bl.setCell hB5 (by simp only; omega) _
       have hE6 := HD (show But [w.heap.size + 1] w2 (w5.setCell ⟨w.heap.size + 1, a, none⟩ s'.val) from hbu5.set _ _ (.inl (by simp)))
       have hR6 : Hid (∀ i (h : i < (L.set a s').length) b, (L.set a s')[i].val.ownBlock = some b -> w2.heap.size ≤ b) := fun i hi b hb => by
        by_cases hia : i = a
        ·subst hia
         rw [List.getElem_set_self] at hb
         exact hath.out b hb
        ·rw [List.getElem_set_ne (fun e => hia e.symm)] at hb
         exact hRB.out i (by simpa using hi) b hb
       have hL6 := HD (show (L.set a s').length = xs.length by rw [List.length_set]; exact hLLh.out)
       clear q5 c5 f5 hB5 hbu5
       go_wp2_with fail
       go_roundg (ex.length - (kk + 1))
       case measure => omega
       case rel => exact ⟨kk + 1, L.set a s', by omega, by omega, by go_num, hB6, hE6.out, hR6.out, hGh.out, hL6.out, hxh.out⟩
      exact AllReadyH.nil
     exact AllReadyH.nil
    exact AllReadyH.nil
   refine AllReadyH.cons (o := { dst := some 34, op := .buildSlice 28 1 #[(0, .tmp 33)], type := 28, pos := "routing.go:99", after := #[{ on := 8, ground := .data }], guard := none }) rfl (fun K hK => ?_) ?_
   ·go_simp
    refine hK.out _ _ ?_ (fun hHeld => ?_)
    ·(try dsimp only)
     ((refine ⟨(by first | assumption | exact bz), ?_⟩; (repeat (refine keepSet ?_ (by simp; omega))); first | assumption | exact Bl.keep (a := W0) bz q0))
    clear hK K
    (try simp only [Act.put, lA, lB, lC])
    refine wpAnyH_ready (rs := [7]) (by kernel_rfl) (by simp) ?_
    refine AllReadyH.cons (o := { dst := some 32, op := .load 28 (.tmp 31), type := 28, pos := "routing.go:99", after := #[{ on := 6, ground := .data }], guard := none }) rfl (fun K hK => ?_) ?_
    ·go_simp
     refine hK.out _ _ ?_ (fun hHeld => ?_)
     ·(try dsimp only)
      ((refine ⟨(by first | assumption | exact bz), ?_⟩; (repeat (refine keepSet ?_ (by simp; omega))); first | assumption | exact Bl.keep (a := W0) bz q0))
     clear hK K
     (try simp only [Act.put, lA, lB, lC])
     refine wpAnyH_ready (rs := [10]) (by kernel_rfl) (by simp) ?_
     refine AllReadyH.cons (o := { dst := some 35, op := .call { callee := .builtin .append, args := #[.tmp 32, .tmp 34], argTypes := #[28, 28] }, type := 28, pos := "routing.go:99", after := #[{ on := 7, ground := .data }, { on := 9, ground := .data }], guard := none }) rfl (fun K hK => ?_) ?_
     ·(rw [if_pos (by rfl)]; refine wp_append_own_at _ _ _ 28 rfl w.heap.size 3 i1 (.int .i64 0) 1 8 HU.out HJ.out.1 HJ.out.2.1 HJ.out.2.2.1 HJ.out.2.2.2 rfl (by decide) _ _ _ rfl (World.ownsRow.alloc (World.ownsRow.drew (hG.out.row a hLa)) _) _ 1 1 [.int .i64 kk] rfl rfl (cell_one_new _ _ _) (by intro u hu; simp at hu; subst hu; rfl) (by have h1 := hlen1.out; have h2 := hesh.out; unfold maxLen; omega) (by have h1 := hlen1.out; have h2 := hesh.out; omega) (by have h3 := hBW0.size; simp; omega) ?_; intro v' w5 hown' hgr hat; obtain ⟨s', rfl, hs', hGs⟩ := Grid.step (x := (kk : Int)) (hG.out.bl (show Bl W0 ((W0.drew).alloc (Obj.cells #[.int .i64 kk] 3)) from bz)) hLa hown' hgr (hat.imp id (fun h => ⟨_, h, Nat.le_refl _⟩)); have hB5 : Bl w w5 := Bl.grown (show Bl w ((W0.drew).alloc (Obj.cells #[.int .i64 kk] 3)) from bz) hgr (fun g hg => by have := ((hG.out.row a hLa).lt g hg).1; omega); have hnr : L[a].val.ownBlock ≠ some wr.heap.size := (fun e => by have := (hrl.out _ e).2; omega); have hBw : Bl W0 ((W0.drew).alloc (Obj.cells #[.int .i64 kk] 3)) := bz; have q5 := grown_cell hgr (hBw.keep q0) hnr; have c5 := grown_cell hgr (hBw.keep c0) hng.out; have f5 := grown_fro hgr (hBw.keep c0) (hBw.keepF c0 f0) hng.out; have hGh := HD hGs; have hxh := HD (hstep.out s' hs'); have hbu5 : But [w.heap.size + 1] w2 w5 := (But.grown (hBU0.out.trans (But.of hBw)) hgr (hRB.out a hLa)); have hath := HD (show ∀ b, s'.val.ownBlock = some b -> w2.heap.size ≤ b from fun b hb => hat.elim (fun h => hRB.out a hLa b (h ▸ hb)) (fun h => by rw [h] at hb; simp only [Option.some.injEq] at hb; have := hBU0.out.size; simp at hb; omega)); clear hGs hs' hgr hat hown')
      refine hK.out _ _ ?_ (fun hHeld => ?_)
      ·(try dsimp only)
       ((refine ⟨(by first | assumption | exact bz), ?_⟩; (repeat (refine keepSet ?_ (by simp; omega))); first | assumption | exact Bl.keep (a := W0) bz q0))
      clear hK K
      (try simp only [Act.put, lA, lB, lC])
      refine tk 11 { dst := some 36, op := .indexAddr 101 (.tmp 25) (.tmp 27), type := 0, pos := "routing.go:99", after := #[{ on := 0, ground := .data }, { on := 2, ground := .data }, { on := 0, ground := .phase }, { on := 1, ground := .phase }, { on := 2, ground := .phase }, { on := 3, ground := .phase }, { on := 4, ground := .phase }, { on := 5, ground := .phase }, { on := 6, ground := .phase }, { on := 7, ground := .phase }, { on := 8, ground := .phase }, { on := 9, ground := .phase }, { on := 10, ground := .phase }], guard := none } ?_
      (try simp only [Act.put, lA, lB, lC])
      refine wpAnyH_ready (rs := [12]) (by kernel_rfl) (by simp) ?_
      refine AllReadyH.cons (o := { dst := none, op := .store 28 (.tmp 36) (.tmp 35), type := 0, pos := "routing.go:99", after := #[{ on := 11, ground := .data }, { on := 10, ground := .data }, { on := 10, ground := .chain }, { on := 0, ground := .phase }, { on := 1, ground := .phase }, { on := 2, ground := .phase }, { on := 3, ground := .phase }, { on := 4, ground := .phase }, { on := 5, ground := .phase }, { on := 6, ground := .phase }, { on := 7, ground := .phase }, { on := 8, ground := .phase }, { on := 9, ground := .phase }, { on := 10, ground := .phase }], guard := none }) rfl (fun K hK => ?_) ?_
      ·go_simp
       refine hK.out _ _ ?_ (fun hHeld => ?_)
       ·(try dsimp only)
        ((refine ⟨(by first | assumption | exact bz), ?_⟩; (repeat (refine keepSet ?_ (by simp; omega))); first | assumption | exact Bl.keep (a := W0) bz q0))
       clear hK K
       (try simp only [Act.put, lA, lB, lC])
       refine wpAnyH_done (by kernel_rfl) ?_ _
       have hB6 : Bl w (w5.setCell ⟨w.heap.size + 1, a, none⟩ s'.val) := Bl.setCell hB5 (by simp only; omega) _
       have hE6 := HD (show But [w.heap.size + 1] w2 (w5.setCell ⟨w.heap.size + 1, a, none⟩ s'.val) from hbu5.set _ _ (.inl (by simp)))
       have hR6 : Hid (∀ i (h : i < (L.set a s').length) b, (L.set a s')[i].val.ownBlock = some b -> w2.heap.size ≤ b) := fun i hi b hb => by
        by_cases hia : i = a
        ·subst hia
         rw [List.getElem_set_self] at hb
         exact hath.out b hb
        ·rw [List.getElem_set_ne (fun e => hia e.symm)] at hb
         exact hRB.out i (by simpa using hi) b hb
       have hL6 := HD (show (L.set a s').length = xs.length by rw [List.length_set]; exact hLLh.out)
       clear q5 c5 f5 hB5 hbu5
       go_wp2_with fail
       go_roundg (ex.length - (kk + 1))
       case measure => omega
       case rel => exact ⟨kk + 1, L.set a s', by omega, by omega, by go_num, hB6, hE6.out, hR6.out, hGh.out, hL6.out, hxh.out⟩
      exact AllReadyH.nil
     exact AllReadyH.nil
    exact AllReadyH.nil
   exact AllReadyH.nil
  ·have hltz : ¬ (kk : Int) < (ex.length : Int) := by omega
   have hkl : kk = ls.length := by have := hesh.out; omega
   have hfin := HD (hRh.out ⟨some ⟨w.heap.size + 1, 0, none⟩, xs.length, L⟩ ⟨EA, ec, ex⟩ wr ⟨GG.out.ok (by have := LL.out; omega) (fun i h => by have := (PP.out i h).2; omega), fun g hg => (GG.out.out.lt g hg).1, fun i h g hg => ((GG.out.row i h).lt g hg).1⟩ ⟨EE.out, hEnh.out⟩ LL.out (fun i h => by rw [<- hkl]; exact (PP.out i h).1) rfl BW')
   have hLL := LL.out
   go_wp2_with fail
   have h9 := hfin.out
   simp only [Sl.val, hLL] at h9
   exact h9
theorem f121_c (n : Net) (w : World) (hs : InNet w n) (hb : netB n = true) : Calls Tryz.prog 121 #[n.val] w (ROuts n w) := by
 have hn := (netB_iff n).mp hb
 obtain ⟨⟨A, c, xs⟩, ⟨A2, c2, ls⟩⟩ := n
 refine f121_core A A2 c c2 xs ls w (edgesN ⟨⟨A, c, xs⟩, ⟨A2, c2, ls⟩⟩) hs hn.1 hn.2.1 (by simp [edgesN]) (fun k hk => ?_) (fun W hw => ?_) _ (fun G E w' h1 h2 h3 h4 h5 h6 => ⟨G, E, rfl, h1, h2, h3, h4, h5, h6⟩)
 ·have hk' : k < ls.length := by simpa [edgesN] using hk
  have he := (lk_ends hb k hk').1
  rcases ix_range (fun y : Nd => y.name == ls[k].src) xs with h | ⟨i, hi, hI⟩
  ·exact absurd he (by unfold ndIx; simp only at h ⊢; omega)
  ·refine ⟨i, hi, ?_⟩
   simp only [edgesN, List.getElem_map]
   exact hI
 ·refine (f161_c ⟨⟨A, c, xs⟩, ⟨A2, c2, ls⟩⟩ W (InNet.up hs hw)).mono ?_
  rintro e w' ⟨s, rfl, h1, h2, h3⟩
  exact ⟨s, by rw [if_pos hb], h1, h2 hb, h3⟩
theorem f156_d (po pn pe : Nat) (q : Int) (v1 v2 : Value) (u : FrameMode) (w : World) (h1 : w.cell? ⟨po, 0, none⟩ = some v1) (h2 : w.cell? ⟨pn, 0, none⟩ = some v2) (h3 : w.cell? ⟨pe, 0, none⟩ = some (.int .i64 q)) (f1 : w.frozen? ⟨po, 0, none⟩ = false) (f2 : w.frozen? ⟨pn, 0, none⟩ = false) (hne : po ≠ pn) :
 CallsD Tryz.prog 156 #[.pointer (some ⟨pe, 0, none⟩), .pointer (some ⟨po, 0, none⟩), .pointer (some ⟨pn, 0, none⟩)] u w fun e u' w' => u' = u /\ (e = .returned (.tuple #[]) /\ w' = if q = 0 then w else (w.setCell ⟨po, 0, none⟩ (.slice none 0 0)).setCell ⟨pn, 0, none⟩ (.slice none 0 0)) := by
 by_cases hq : q = 0
 ·have hqb : (q != 0) = false := by simpa using hq
  rw [if_pos hq]
  clear hq
  go_enter_d Tryz.func156, Tryz.ntmps156
  go_wp2_with fail
  go_end0
  exact ⟨rfl, rfl⟩
 ·have hqb : (q != 0) = true := by simpa using hq
  rw [if_neg hq]
  have g2 : (w.setCell ⟨po, 0, none⟩ (.slice none 0 0)).cell? ⟨pn, 0, none⟩ = some v2 := keepSet h2 (fun e => hne e.symm)
  go_enter_d Tryz.func156, Tryz.ntmps156
  go_wp2_with fail
  go_end0
  exact ⟨rfl, rfl⟩
def RWi (ls : List Lk) (w : World) (e : Ending) (w' : World) : Prop := ∃ (s : Sl Int) (o : Sl Bool) (q : Int), e = .returned (.tuple #[s.val, o.val, .int .i64 q]) /\ (InI w' s /\ New w s) /\ (InB w' o /\ New w o) /\ (q = 0 -> s.xs.length = ls.length /\ (∀ x ∈ s.xs, 0 ≤ x /\ x ≤ 1125899906842624) /\ o.xs.length = ls.length /\ ∀ i (h : i < o.xs.length) (h2 : i < ls.length), o.xs[i] = true -> ls[i].kind = 4) /\ Bl w w'
theorem OkT.but {α : Type} {enc : α -> List Value} {k : Nat} {w w' : World} {s : Sl α} {L : List Nat} (h : s.Ok enc k okT w.heap.size w) (hb : But L w w') (hn : ∀ g, s.val.ownBlock = some g -> g ∉ L) : s.Ok enc k okT w'.heap.size w' where
 cap := h.cap
 room := h.room
 place := fun he => by
  obtain ⟨b, off, hA, hB, hw, hc⟩ := h.place he
  exact ⟨b, off, hA, Nat.lt_of_lt_of_le hB hb.size, Nat.lt_of_lt_of_le hw hb.size, fun i hi j v hv => hb.cell (hc i hi j v hv) (hn b (by simp only [Sl.val, hA]; rfl))⟩
 each := fun _ _ => trivial
theorem door_no (ls : List Lk) (w X : World) (tmps : Array Value) (b2 b3 b4 : Nat) (v1 v2 : Value) (q : Int) (hq : ¬ q = 0) (t8 : tmps[8]? = some (.pointer (some ⟨b2, 0, none⟩))) (t9 : tmps[9]? = some (.pointer (some ⟨b3, 0, none⟩))) (t10 : tmps[10]? = some (.pointer (some ⟨b4, 0, none⟩)))
 (h1 : X.cell? ⟨b2, 0, none⟩ = some v1) (h2 : X.cell? ⟨b3, 0, none⟩ = some v2) (h3 : X.cell? ⟨b4, 0, none⟩ = some (.int .i64 q)) (f1 : X.frozen? ⟨b2, 0, none⟩ = false) (f2 : X.frozen? ⟨b3, 0, none⟩ = false) (n1 : b2 ≠ b3) (n2 : b4 ≠ b2) (n3 : b4 ≠ b3) (hb : Bl w X) (l2 : w.heap.size ≤ b2) (l3 : w.heap.size ≤ b3) :
 bodyPostD Tryz.prog Tryz.f119 (RWi ls w) Exit.ret { tmps := tmps, defers := [{ target := .fn (.func 156) #[.pointer (some ⟨b4, 0, none⟩), .pointer (some ⟨b2, 0, none⟩), .pointer (some ⟨b3, 0, none⟩)], args := #[] }] } X := by
 refine leaves_cons (f := 156) (args := #[.pointer (some ⟨b4, 0, none⟩), .pointer (some ⟨b2, 0, none⟩), .pointer (some ⟨b3, 0, none⟩)]) (by simp) (by simp [go_sem]) ?_
 refine (f156_d b2 b3 b4 q v1 v2 .returning X h1 h2 h3 f1 f2 n1).mono ?_
 rintro e u' w'' ⟨hu, he, hw⟩
 rw [if_neg hq] at hw
 subst hu he hw
 have g1 : ((X.setCell ⟨b2, 0, none⟩ (.slice none 0 0)).setCell ⟨b3, 0, none⟩ (.slice none 0 0)).cell? ⟨b2, 0, none⟩ = some (.slice none 0 0) := keepSet (by simp [go_sem, *]) n1
 have g2 : ((X.setCell ⟨b2, 0, none⟩ (.slice none 0 0)).setCell ⟨b3, 0, none⟩ (.slice none 0 0)).cell? ⟨b3, 0, none⟩ = some (.slice none 0 0) := by
  have := keepSet (p := ⟨b2, 0, none⟩) (u := .slice none 0 0) h2 (fun e => n1 e.symm)
  simp [go_sem, *]
 have g3 : ((X.setCell ⟨b2, 0, none⟩ (.slice none 0 0)).setCell ⟨b3, 0, none⟩ (.slice none 0 0)).cell? ⟨b4, 0, none⟩ = some (.int .i64 q) := keepSet (keepSet h3 n2) n3
 have hB : Bl w ((X.setCell ⟨b2, 0, none⟩ (.slice none 0 0)).setCell ⟨b3, 0, none⟩ (.slice none 0 0)) := Bl.setCell (Bl.setCell hb l2 _) l3 _
 generalize ((X.setCell ⟨b2, 0, none⟩ (.slice none 0 0)).setCell ⟨b3, 0, none⟩ (.slice none 0 0)) = F at *
 refine ⟨.tuple #[.slice none 0 0, .slice none 0 0, .int .i64 q], ?_, ⟨⟨none, 0, []⟩, ⟨none, 0, []⟩, q, rfl, ⟨InI_nil _, New.nil⟩, ⟨InB_nil _, New.nil⟩, fun h => absurd h hq, hB⟩⟩
 simp [results, Tryz.results119, go_sem, t8, t9, t10, g1, g2, g3]
theorem door_ok (ls : List Lk) (w X : World) (tmps : Array Value) (b2 b3 b4 : Nat) (s : Sl Int) (o : Sl Bool) (t8 : tmps[8]? = some (.pointer (some ⟨b2, 0, none⟩))) (t9 : tmps[9]? = some (.pointer (some ⟨b3, 0, none⟩))) (t10 : tmps[10]? = some (.pointer (some ⟨b4, 0, none⟩)))
 (h1 : X.cell? ⟨b2, 0, none⟩ = some s.val) (h2 : X.cell? ⟨b3, 0, none⟩ = some o.val) (h3 : X.cell? ⟨b4, 0, none⟩ = some (.int .i64 0)) (f1 : X.frozen? ⟨b2, 0, none⟩ = false) (f2 : X.frozen? ⟨b3, 0, none⟩ = false) (n1 : b2 ≠ b3) (hb : Bl w X) (hi : InI X s /\ New w s) (ho : InB X o /\ New w o)
 (hk : s.xs.length = ls.length /\ (∀ x ∈ s.xs, 0 ≤ x /\ x ≤ 1125899906842624) /\ o.xs.length = ls.length /\ ∀ i (h : i < o.xs.length) (h2 : i < ls.length), o.xs[i] = true -> ls[i].kind = 4) :
 bodyPostD Tryz.prog Tryz.f119 (RWi ls w) Exit.ret { tmps := tmps, defers := [{ target := .fn (.func 156) #[.pointer (some ⟨b4, 0, none⟩), .pointer (some ⟨b2, 0, none⟩), .pointer (some ⟨b3, 0, none⟩)], args := #[] }] } X := by
 refine leaves_cons (f := 156) (args := #[.pointer (some ⟨b4, 0, none⟩), .pointer (some ⟨b2, 0, none⟩), .pointer (some ⟨b3, 0, none⟩)]) (by simp) (by simp [go_sem]) ?_
 refine (f156_d b2 b3 b4 0 _ _ .returning X h1 h2 h3 f1 f2 n1).mono ?_
 rintro e u' w'' ⟨hu, he, hw⟩
 rw [if_pos rfl] at hw
 subst hu he hw
 refine ⟨.tuple #[s.val, o.val, .int .i64 0], ?_, ⟨s, o, 0, rfl, hi, ho, fun _ => hk, hb⟩⟩
 simp [results, Tryz.results119, go_sem, t8, t9, t10, h1, h2, h3]
set_option maxHeartbeats 4000000 in
theorem f119_c (n : Net) (l : Sl Sec) (s : St) (sec : Int) (w : World) (hs : InNet w n) (hl : InSecs w l) (ht : InSt w s) (hlen : n.links.xs.length ≤ 400) : Calls Tryz.prog 119 #[n.val, l.val, s.val, .int .i64 sec] w (RWi n.links.xs w) := by
 have T80 := HD (fun W (hb : Bl w W) => f80_c n s.vol W (InNet.up hs hb) (InI.up ht.vol hb))
 have T157 := HD (fun W lv (hv : InI W lv) (hb : Bl w W) => f157_c n s lv W (InNet.up hs hb) (InSt.up ht hb) hv)
 have T158 := HD (fun W lv (o : Sl Bool) (hv : InI W lv) (ho : InB W o) (hb : Bl w W) => f158_c n l lv ⟨s.vol, s.pond, s.set, o⟩ W (InNet.up hs hb) (InSecs.up hl hb) hv ⟨InI.up ht.vol hb, InI.up ht.pond hb, InI.up ht.set hb, ho⟩)
 clear hs hl ht
 have hmf : ∀ (fn : Fn) (first cap : Array Value) (w : World), (Instr.makeFunc fn first cap).run Tryz.prog w = .ok (.func fn first cap) w := fun _ _ _ _ => rfl
 obtain ⟨⟨A, c, xs⟩, ⟨A2, c2, ls⟩⟩ := n
 obtain ⟨sv, sp, ss, so⟩ := s
 simp only at hlen
 show Calls Tryz.prog 119 #[.agg #[.slice A xs.length c, .slice A2 ls.length c2], l.val, .agg #[sv.val, sp.val, ss.val, so.val], .int .i64 sec] w (RWi ls w)
 obtain ⟨i0, hi, hz0, hz1, hz2⟩ := i3
 have HI := HD (And.intro hi (And.intro hz0 (And.intro hz1 hz2)))
 have HU := HD u28
 clear hi hz0 hz1 hz2
 go_enter_defers Tryz.func119, Tryz.ntmps119
 go_wp2_with fail
 refine (T80.out _ bz).mono ?_
 rintro e w1 ⟨s1, q1, rfl, ⟨h1, h1n⟩, _, hw1⟩
 have h1N : Hid (∀ g, s1.val.ownBlock = some g -> g ∉ [w.heap.size + 1, w.heap.size + 2, w.heap.size + 3, w.heap.size + 4]) := fun g hg => by have := h1n g hg; simp at this ⊢; omega
 have an0 : w1.cell? ⟨w.heap.size, 0, none⟩ = some (.slice A xs.length c) := hw1.keep (by simp [go_sem])
 have an1 : w1.cell? ⟨w.heap.size, 1, none⟩ = some (.slice A2 ls.length c2) := hw1.keep (by simp [go_sem])
 have as0 : w1.cell? ⟨w.heap.size + 1, 0, none⟩ = some (sv.val) := hw1.keep (by simp [go_sem])
 have as1 : w1.cell? ⟨w.heap.size + 1, 1, none⟩ = some (sp.val) := hw1.keep (by simp [go_sem])
 have as2 : w1.cell? ⟨w.heap.size + 1, 2, none⟩ = some (ss.val) := hw1.keep (by simp [go_sem])
 have as3 : w1.cell? ⟨w.heap.size + 1, 3, none⟩ = some (so.val) := hw1.keep (by simp [go_sem])
 have aou : w1.cell? ⟨w.heap.size + 2, 0, none⟩ = some (.slice none 0 0) := hw1.keep (by simp [go_sem])
 have aon : w1.cell? ⟨w.heap.size + 3, 0, none⟩ = some (.slice none 0 0) := hw1.keep (by simp [go_sem])
 have aee : w1.cell? ⟨w.heap.size + 4, 0, none⟩ = some (.int .i64 0) := hw1.keep (by simp [go_sem])
 have fas3 : w1.frozen? ⟨w.heap.size + 1, 3, none⟩ = false := hw1.keepF (by simp [go_sem]; rfl) (by simp [go_sem])
 have faou : w1.frozen? ⟨w.heap.size + 2, 0, none⟩ = false := hw1.keepF (by simp [go_sem]; rfl) (by simp [go_sem])
 have faon : w1.frozen? ⟨w.heap.size + 3, 0, none⟩ = false := hw1.keepF (by simp [go_sem]; rfl) (by simp [go_sem])
 have faee : w1.frozen? ⟨w.heap.size + 4, 0, none⟩ = false := hw1.keepF (by simp [go_sem]; rfl) (by simp [go_sem])
 have hB1 : Bl w w1 := bz
 have h1h := HD h1
 have hz1 : w.heap.size + 4 < w1.heap.size := by have := hw1.size; simp at this; omega
 clear h1 h1n hw1 T80
 have hBx : Bl w (w1.setCell ⟨w.heap.size + 4, 0, none⟩ (.int .i64 q1)) := Bl.setCell hB1 (by simp only; omega) _
 by_cases hq1 : q1 = 0
 case neg =>
  have hqb : (q1 != 0) = true := by simpa using hq1
  have x1 := keepSet (p := ⟨w.heap.size + 4, 0, none⟩) (u := .int .i64 q1) aou (by simp)
  have x2 := keepSet (p := ⟨w.heap.size + 4, 0, none⟩) (u := .int .i64 q1) aon (by simp)
  have x3 : (w1.setCell ⟨w.heap.size + 4, 0, none⟩ (.int .i64 q1)).cell? ⟨w.heap.size + 4, 0, none⟩ = some (.int .i64 q1) := by simp [go_sem, *]
  have x4 : (w1.setCell ⟨w.heap.size + 4, 0, none⟩ (.int .i64 q1)).frozen? ⟨w.heap.size + 2, 0, none⟩ = false := by simp [go_sem, *]
  have x5 : (w1.setCell ⟨w.heap.size + 4, 0, none⟩ (.int .i64 q1)).frozen? ⟨w.heap.size + 3, 0, none⟩ = false := by simp [go_sem, *]
  go_wp2_with fail
  exact door_no ls w _ _ (w.heap.size + 2) (w.heap.size + 3) (w.heap.size + 4) _ _ q1 hq1 rfl rfl rfl x1 x2 x3 x4 x5 (by omega) (by omega) (by omega) hBx (by omega) (by omega)
 subst hq1
 have bn0 : (w1.setCell ⟨w.heap.size + 4, 0, none⟩ (.int .i64 0)).cell? ⟨w.heap.size, 0, none⟩ = some (.slice A xs.length c) := keepSet an0 (by simp)
 have bn1 : (w1.setCell ⟨w.heap.size + 4, 0, none⟩ (.int .i64 0)).cell? ⟨w.heap.size, 1, none⟩ = some (.slice A2 ls.length c2) := keepSet an1 (by simp)
 have bs0 : (w1.setCell ⟨w.heap.size + 4, 0, none⟩ (.int .i64 0)).cell? ⟨w.heap.size + 1, 0, none⟩ = some (sv.val) := keepSet as0 (by simp)
 have bs1 : (w1.setCell ⟨w.heap.size + 4, 0, none⟩ (.int .i64 0)).cell? ⟨w.heap.size + 1, 1, none⟩ = some (sp.val) := keepSet as1 (by simp)
 have bs2 : (w1.setCell ⟨w.heap.size + 4, 0, none⟩ (.int .i64 0)).cell? ⟨w.heap.size + 1, 2, none⟩ = some (ss.val) := keepSet as2 (by simp)
 have bs3 : (w1.setCell ⟨w.heap.size + 4, 0, none⟩ (.int .i64 0)).cell? ⟨w.heap.size + 1, 3, none⟩ = some (so.val) := keepSet as3 (by simp)
 have bou : (w1.setCell ⟨w.heap.size + 4, 0, none⟩ (.int .i64 0)).cell? ⟨w.heap.size + 2, 0, none⟩ = some (.slice none 0 0) := keepSet aou (by simp)
 have bon : (w1.setCell ⟨w.heap.size + 4, 0, none⟩ (.int .i64 0)).cell? ⟨w.heap.size + 3, 0, none⟩ = some (.slice none 0 0) := keepSet aon (by simp)
 have bee : (w1.setCell ⟨w.heap.size + 4, 0, none⟩ (.int .i64 0)).cell? ⟨w.heap.size + 4, 0, none⟩ = some (.int .i64 0) := by simp [go_sem, *]
 have fbs3 : (w1.setCell ⟨w.heap.size + 4, 0, none⟩ (.int .i64 0)).frozen? ⟨w.heap.size + 1, 3, none⟩ = false := by simp [go_sem, *]
 have fbou : (w1.setCell ⟨w.heap.size + 4, 0, none⟩ (.int .i64 0)).frozen? ⟨w.heap.size + 2, 0, none⟩ = false := by simp [go_sem, *]
 have fbon : (w1.setCell ⟨w.heap.size + 4, 0, none⟩ (.int .i64 0)).frozen? ⟨w.heap.size + 3, 0, none⟩ = false := by simp [go_sem, *]
 have fbee : (w1.setCell ⟨w.heap.size + 4, 0, none⟩ (.int .i64 0)).frozen? ⟨w.heap.size + 4, 0, none⟩ = false := by simp [go_sem, *]
 have hI1 := HD (show InI (w1.setCell ⟨w.heap.size + 4, 0, none⟩ (.int .i64 0)) s1 from OkT.but h1h.out ((But.refl [w.heap.size + 1, w.heap.size + 2, w.heap.size + 3, w.heap.size + 4] w1).set ⟨w.heap.size + 4, 0, none⟩ (.int .i64 0) (.inl (by simp))) h1N.out)
 have hzX : w.heap.size + 4 < (w1.setCell ⟨w.heap.size + 4, 0, none⟩ (.int .i64 0)).heap.size := by simp; omega
 go_wp2_with fail
 clear an0 an1 as0 as1 as2 as3 aou aon aee fas3 faou faon faee h1h hB1 hz1
 generalize (w1.setCell ⟨w.heap.size + 4, 0, none⟩ (.int .i64 0)) = X1 at *
 refine (T157.out _ s1 hI1.out hBx).mono ?_
 rintro e w2 ⟨⟨OA, oc, ox⟩, q2, he, ⟨ho, hon⟩, hq2, hw2⟩
 obtain rfl : e = .returned (.tuple #[.slice OA ox.length oc, .int .i64 q2]) := he
 have hoN : Hid (∀ g, (⟨OA, oc, ox⟩ : Sl Bool).val.ownBlock = some g -> g ∉ [w.heap.size + 1, w.heap.size + 2, w.heap.size + 3, w.heap.size + 4]) := fun g hg => by have := hon g hg; simp at this ⊢; omega
 have hoW := HD (New.up hon hBx)
 have hB2 : Bl w w2 := hBx.trans hw2
 have hz2 : w.heap.size + 4 < w2.heap.size := by have := hw2.size; omega
 have cn0 : w2.cell? ⟨w.heap.size, 0, none⟩ = some (.slice A xs.length c) := hw2.keep bn0
 have cn1 : w2.cell? ⟨w.heap.size, 1, none⟩ = some (.slice A2 ls.length c2) := hw2.keep bn1
 have cs0 : w2.cell? ⟨w.heap.size + 1, 0, none⟩ = some (sv.val) := hw2.keep bs0
 have cs1 : w2.cell? ⟨w.heap.size + 1, 1, none⟩ = some (sp.val) := hw2.keep bs1
 have cs2 : w2.cell? ⟨w.heap.size + 1, 2, none⟩ = some (ss.val) := hw2.keep bs2
 have cs3 : w2.cell? ⟨w.heap.size + 1, 3, none⟩ = some (so.val) := hw2.keep bs3
 have cou : w2.cell? ⟨w.heap.size + 2, 0, none⟩ = some (.slice none 0 0) := hw2.keep bou
 have con : w2.cell? ⟨w.heap.size + 3, 0, none⟩ = some (.slice none 0 0) := hw2.keep bon
 have cee : w2.cell? ⟨w.heap.size + 4, 0, none⟩ = some (.int .i64 0) := hw2.keep bee
 have fcs3 : w2.frozen? ⟨w.heap.size + 1, 3, none⟩ = false := hw2.keepF bs3 fbs3
 have fcou : w2.frozen? ⟨w.heap.size + 2, 0, none⟩ = false := hw2.keepF bou fbou
 have fcon : w2.frozen? ⟨w.heap.size + 3, 0, none⟩ = false := hw2.keepF bon fbon
 have fcee : w2.frozen? ⟨w.heap.size + 4, 0, none⟩ = false := hw2.keepF bee fbee
 have hI2 := HD (hI1.out.up hw2)
 have hoh := HD ho
 have hq2h := HD hq2
 clear ho hon hq2 hw2 T157 hI1 hBx hzX
 clear bn0 bn1 bs0 bs1 bs2 bs3 bou bon bee fbs3 fbou fbon fbee
 have dn0 : (w2.setCell ⟨w.heap.size + 3, 0, none⟩ (.slice OA ox.length oc)).cell? ⟨w.heap.size, 0, none⟩ = some (.slice A xs.length c) := keepSet cn0 (by simp)
 have dn1 : (w2.setCell ⟨w.heap.size + 3, 0, none⟩ (.slice OA ox.length oc)).cell? ⟨w.heap.size, 1, none⟩ = some (.slice A2 ls.length c2) := keepSet cn1 (by simp)
 have ds0 : (w2.setCell ⟨w.heap.size + 3, 0, none⟩ (.slice OA ox.length oc)).cell? ⟨w.heap.size + 1, 0, none⟩ = some (sv.val) := keepSet cs0 (by simp)
 have ds1 : (w2.setCell ⟨w.heap.size + 3, 0, none⟩ (.slice OA ox.length oc)).cell? ⟨w.heap.size + 1, 1, none⟩ = some (sp.val) := keepSet cs1 (by simp)
 have ds2 : (w2.setCell ⟨w.heap.size + 3, 0, none⟩ (.slice OA ox.length oc)).cell? ⟨w.heap.size + 1, 2, none⟩ = some (ss.val) := keepSet cs2 (by simp)
 have ds3 : (w2.setCell ⟨w.heap.size + 3, 0, none⟩ (.slice OA ox.length oc)).cell? ⟨w.heap.size + 1, 3, none⟩ = some (so.val) := keepSet cs3 (by simp)
 have dou : (w2.setCell ⟨w.heap.size + 3, 0, none⟩ (.slice OA ox.length oc)).cell? ⟨w.heap.size + 2, 0, none⟩ = some (.slice none 0 0) := keepSet cou (by simp)
 have don : (w2.setCell ⟨w.heap.size + 3, 0, none⟩ (.slice OA ox.length oc)).cell? ⟨w.heap.size + 3, 0, none⟩ = some (.slice OA ox.length oc) := by simp [go_sem, *]
 have dee : (w2.setCell ⟨w.heap.size + 3, 0, none⟩ (.slice OA ox.length oc)).cell? ⟨w.heap.size + 4, 0, none⟩ = some (.int .i64 0) := keepSet cee (by simp)
 have fds3 : (w2.setCell ⟨w.heap.size + 3, 0, none⟩ (.slice OA ox.length oc)).frozen? ⟨w.heap.size + 1, 3, none⟩ = false := by simp [go_sem, *]
 have fdou : (w2.setCell ⟨w.heap.size + 3, 0, none⟩ (.slice OA ox.length oc)).frozen? ⟨w.heap.size + 2, 0, none⟩ = false := by simp [go_sem, *]
 have fdon : (w2.setCell ⟨w.heap.size + 3, 0, none⟩ (.slice OA ox.length oc)).frozen? ⟨w.heap.size + 3, 0, none⟩ = false := by simp [go_sem, *]
 have fdee : (w2.setCell ⟨w.heap.size + 3, 0, none⟩ (.slice OA ox.length oc)).frozen? ⟨w.heap.size + 4, 0, none⟩ = false := by simp [go_sem, *]
 have en0 : ((w2.setCell ⟨w.heap.size + 3, 0, none⟩ (.slice OA ox.length oc)).setCell ⟨w.heap.size + 4, 0, none⟩ (.int .i64 q2)).cell? ⟨w.heap.size, 0, none⟩ = some (.slice A xs.length c) := keepSet dn0 (by simp)
 have en1 : ((w2.setCell ⟨w.heap.size + 3, 0, none⟩ (.slice OA ox.length oc)).setCell ⟨w.heap.size + 4, 0, none⟩ (.int .i64 q2)).cell? ⟨w.heap.size, 1, none⟩ = some (.slice A2 ls.length c2) := keepSet dn1 (by simp)
 have es0 : ((w2.setCell ⟨w.heap.size + 3, 0, none⟩ (.slice OA ox.length oc)).setCell ⟨w.heap.size + 4, 0, none⟩ (.int .i64 q2)).cell? ⟨w.heap.size + 1, 0, none⟩ = some (sv.val) := keepSet ds0 (by simp)
 have es1 : ((w2.setCell ⟨w.heap.size + 3, 0, none⟩ (.slice OA ox.length oc)).setCell ⟨w.heap.size + 4, 0, none⟩ (.int .i64 q2)).cell? ⟨w.heap.size + 1, 1, none⟩ = some (sp.val) := keepSet ds1 (by simp)
 have es2 : ((w2.setCell ⟨w.heap.size + 3, 0, none⟩ (.slice OA ox.length oc)).setCell ⟨w.heap.size + 4, 0, none⟩ (.int .i64 q2)).cell? ⟨w.heap.size + 1, 2, none⟩ = some (ss.val) := keepSet ds2 (by simp)
 have es3 : ((w2.setCell ⟨w.heap.size + 3, 0, none⟩ (.slice OA ox.length oc)).setCell ⟨w.heap.size + 4, 0, none⟩ (.int .i64 q2)).cell? ⟨w.heap.size + 1, 3, none⟩ = some (so.val) := keepSet ds3 (by simp)
 have eou : ((w2.setCell ⟨w.heap.size + 3, 0, none⟩ (.slice OA ox.length oc)).setCell ⟨w.heap.size + 4, 0, none⟩ (.int .i64 q2)).cell? ⟨w.heap.size + 2, 0, none⟩ = some (.slice none 0 0) := keepSet dou (by simp)
 have eon : ((w2.setCell ⟨w.heap.size + 3, 0, none⟩ (.slice OA ox.length oc)).setCell ⟨w.heap.size + 4, 0, none⟩ (.int .i64 q2)).cell? ⟨w.heap.size + 3, 0, none⟩ = some (.slice OA ox.length oc) := keepSet don (by simp)
 have eee : ((w2.setCell ⟨w.heap.size + 3, 0, none⟩ (.slice OA ox.length oc)).setCell ⟨w.heap.size + 4, 0, none⟩ (.int .i64 q2)).cell? ⟨w.heap.size + 4, 0, none⟩ = some (.int .i64 q2) := by simp [go_sem, *]
 have fes3 : ((w2.setCell ⟨w.heap.size + 3, 0, none⟩ (.slice OA ox.length oc)).setCell ⟨w.heap.size + 4, 0, none⟩ (.int .i64 q2)).frozen? ⟨w.heap.size + 1, 3, none⟩ = false := by simp [go_sem, *]
 have feou : ((w2.setCell ⟨w.heap.size + 3, 0, none⟩ (.slice OA ox.length oc)).setCell ⟨w.heap.size + 4, 0, none⟩ (.int .i64 q2)).frozen? ⟨w.heap.size + 2, 0, none⟩ = false := by simp [go_sem, *]
 have feon : ((w2.setCell ⟨w.heap.size + 3, 0, none⟩ (.slice OA ox.length oc)).setCell ⟨w.heap.size + 4, 0, none⟩ (.int .i64 q2)).frozen? ⟨w.heap.size + 3, 0, none⟩ = false := by simp [go_sem, *]
 have feee : ((w2.setCell ⟨w.heap.size + 3, 0, none⟩ (.slice OA ox.length oc)).setCell ⟨w.heap.size + 4, 0, none⟩ (.int .i64 q2)).frozen? ⟨w.heap.size + 4, 0, none⟩ = false := by simp [go_sem, *]
 have hBx : Bl w ((w2.setCell ⟨w.heap.size + 3, 0, none⟩ (.slice OA ox.length oc)).setCell ⟨w.heap.size + 4, 0, none⟩ (.int .i64 q2)) := Bl.setCell (Bl.setCell hB2 (by simp only; omega) _) (by simp only; omega) _
 have hbu : But [w.heap.size + 1, w.heap.size + 2, w.heap.size + 3, w.heap.size + 4] w2 ((w2.setCell ⟨w.heap.size + 3, 0, none⟩ (.slice OA ox.length oc)).setCell ⟨w.heap.size + 4, 0, none⟩ (.int .i64 q2)) := ((But.refl [w.heap.size + 1, w.heap.size + 2, w.heap.size + 3, w.heap.size + 4] w2).set ⟨w.heap.size + 3, 0, none⟩ _ (.inl (by simp))).set ⟨w.heap.size + 4, 0, none⟩ _ (.inl (by simp))
 by_cases hqq : q2 = 0
 case neg =>
  have hqb : (q2 != 0) = true := by simpa using hqq
  go_wp2_with fail
  exact door_no ls w _ _ (w.heap.size + 2) (w.heap.size + 3) (w.heap.size + 4) _ _ q2 hqq rfl rfl rfl eou eon eee feou feon (by omega) (by omega) (by omega) hBx (by omega) (by omega)
 subst hqq
 have hI2x := HD (OkT.but hI2.out hbu h1N.out)
 have hox := HD (OkT.but hoh.out hbu hoN.out)
 have hkind := HD (hq2h.out rfl)
 clear hI2 hoh hB2 hbu hq2h
 have gn0 : (((w2.setCell ⟨w.heap.size + 3, 0, none⟩ (.slice OA ox.length oc)).setCell ⟨w.heap.size + 4, 0, none⟩ (.int .i64 0)).setCell ⟨w.heap.size + 1, 3, none⟩ (.slice OA ox.length oc)).cell? ⟨w.heap.size, 0, none⟩ = some (.slice A xs.length c) := keepSet en0 (by simp)
 have gn1 : (((w2.setCell ⟨w.heap.size + 3, 0, none⟩ (.slice OA ox.length oc)).setCell ⟨w.heap.size + 4, 0, none⟩ (.int .i64 0)).setCell ⟨w.heap.size + 1, 3, none⟩ (.slice OA ox.length oc)).cell? ⟨w.heap.size, 1, none⟩ = some (.slice A2 ls.length c2) := keepSet en1 (by simp)
 have gs0 : (((w2.setCell ⟨w.heap.size + 3, 0, none⟩ (.slice OA ox.length oc)).setCell ⟨w.heap.size + 4, 0, none⟩ (.int .i64 0)).setCell ⟨w.heap.size + 1, 3, none⟩ (.slice OA ox.length oc)).cell? ⟨w.heap.size + 1, 0, none⟩ = some (sv.val) := by simp [go_sem, *]
 have gs1 : (((w2.setCell ⟨w.heap.size + 3, 0, none⟩ (.slice OA ox.length oc)).setCell ⟨w.heap.size + 4, 0, none⟩ (.int .i64 0)).setCell ⟨w.heap.size + 1, 3, none⟩ (.slice OA ox.length oc)).cell? ⟨w.heap.size + 1, 1, none⟩ = some (sp.val) := by simp [go_sem, *]
 have gs2 : (((w2.setCell ⟨w.heap.size + 3, 0, none⟩ (.slice OA ox.length oc)).setCell ⟨w.heap.size + 4, 0, none⟩ (.int .i64 0)).setCell ⟨w.heap.size + 1, 3, none⟩ (.slice OA ox.length oc)).cell? ⟨w.heap.size + 1, 2, none⟩ = some (ss.val) := by simp [go_sem, *]
 have gs3 : (((w2.setCell ⟨w.heap.size + 3, 0, none⟩ (.slice OA ox.length oc)).setCell ⟨w.heap.size + 4, 0, none⟩ (.int .i64 0)).setCell ⟨w.heap.size + 1, 3, none⟩ (.slice OA ox.length oc)).cell? ⟨w.heap.size + 1, 3, none⟩ = some (.slice OA ox.length oc) := by simp [go_sem, *]
 have gou : (((w2.setCell ⟨w.heap.size + 3, 0, none⟩ (.slice OA ox.length oc)).setCell ⟨w.heap.size + 4, 0, none⟩ (.int .i64 0)).setCell ⟨w.heap.size + 1, 3, none⟩ (.slice OA ox.length oc)).cell? ⟨w.heap.size + 2, 0, none⟩ = some (.slice none 0 0) := keepSet eou (by simp)
 have gon : (((w2.setCell ⟨w.heap.size + 3, 0, none⟩ (.slice OA ox.length oc)).setCell ⟨w.heap.size + 4, 0, none⟩ (.int .i64 0)).setCell ⟨w.heap.size + 1, 3, none⟩ (.slice OA ox.length oc)).cell? ⟨w.heap.size + 3, 0, none⟩ = some (.slice OA ox.length oc) := keepSet eon (by simp)
 have gee : (((w2.setCell ⟨w.heap.size + 3, 0, none⟩ (.slice OA ox.length oc)).setCell ⟨w.heap.size + 4, 0, none⟩ (.int .i64 0)).setCell ⟨w.heap.size + 1, 3, none⟩ (.slice OA ox.length oc)).cell? ⟨w.heap.size + 4, 0, none⟩ = some (.int .i64 0) := keepSet eee (by simp)
 have fgs3 : (((w2.setCell ⟨w.heap.size + 3, 0, none⟩ (.slice OA ox.length oc)).setCell ⟨w.heap.size + 4, 0, none⟩ (.int .i64 0)).setCell ⟨w.heap.size + 1, 3, none⟩ (.slice OA ox.length oc)).frozen? ⟨w.heap.size + 1, 3, none⟩ = false := by simp [go_sem, *]
 have fgou : (((w2.setCell ⟨w.heap.size + 3, 0, none⟩ (.slice OA ox.length oc)).setCell ⟨w.heap.size + 4, 0, none⟩ (.int .i64 0)).setCell ⟨w.heap.size + 1, 3, none⟩ (.slice OA ox.length oc)).frozen? ⟨w.heap.size + 2, 0, none⟩ = false := by simp [go_sem, *]
 have fgon : (((w2.setCell ⟨w.heap.size + 3, 0, none⟩ (.slice OA ox.length oc)).setCell ⟨w.heap.size + 4, 0, none⟩ (.int .i64 0)).setCell ⟨w.heap.size + 1, 3, none⟩ (.slice OA ox.length oc)).frozen? ⟨w.heap.size + 3, 0, none⟩ = false := by simp [go_sem, *]
 have fgee : (((w2.setCell ⟨w.heap.size + 3, 0, none⟩ (.slice OA ox.length oc)).setCell ⟨w.heap.size + 4, 0, none⟩ (.int .i64 0)).setCell ⟨w.heap.size + 1, 3, none⟩ (.slice OA ox.length oc)).frozen? ⟨w.heap.size + 4, 0, none⟩ = false := by simp [go_sem, *]
 have hB3 : Bl w (((w2.setCell ⟨w.heap.size + 3, 0, none⟩ (.slice OA ox.length oc)).setCell ⟨w.heap.size + 4, 0, none⟩ (.int .i64 0)).setCell ⟨w.heap.size + 1, 3, none⟩ (.slice OA ox.length oc)) := Bl.setCell hBx (by simp only; omega) _
 have hbu : But [w.heap.size + 1, w.heap.size + 2, w.heap.size + 3, w.heap.size + 4] ((w2.setCell ⟨w.heap.size + 3, 0, none⟩ (.slice OA ox.length oc)).setCell ⟨w.heap.size + 4, 0, none⟩ (.int .i64 0)) (((w2.setCell ⟨w.heap.size + 3, 0, none⟩ (.slice OA ox.length oc)).setCell ⟨w.heap.size + 4, 0, none⟩ (.int .i64 0)).setCell ⟨w.heap.size + 1, 3, none⟩ (.slice OA ox.length oc)) := (But.refl [w.heap.size + 1, w.heap.size + 2, w.heap.size + 3, w.heap.size + 4] _).set ⟨w.heap.size + 1, 3, none⟩ _ (.inl (by simp))
 have hI3 := HD (OkT.but hI2x.out hbu h1N.out)
 have ho3 := HD (OkT.but hox.out hbu hoN.out)
 have hz3 : w.heap.size + 4 < (((w2.setCell ⟨w.heap.size + 3, 0, none⟩ (.slice OA ox.length oc)).setCell ⟨w.heap.size + 4, 0, none⟩ (.int .i64 0)).setCell ⟨w.heap.size + 1, 3, none⟩ (.slice OA ox.length oc)).heap.size := by simp; omega
 clear hI2x hox hbu hBx
 go_wp2_with fail
 clear cn0 cn1 cs0 cs1 cs2 cs3 cou con cee fcs3 fcou fcon fcee
 clear dn0 dn1 ds0 ds1 ds2 ds3 dou don dee fds3 fdou fdon fdee
 clear en0 en1 es0 es1 es2 es3 eou eon eee fes3 feou feon feee hz2
 generalize (((w2.setCell ⟨w.heap.size + 3, 0, none⟩ (.slice OA ox.length oc)).setCell ⟨w.heap.size + 4, 0, none⟩ (.int .i64 0)).setCell ⟨w.heap.size + 1, 3, none⟩ (.slice OA ox.length oc)) = X3 at *
 refine (T158.out _ s1 ⟨OA, oc, ox⟩ hI3.out ho3.out hB3).mono ?_
 rintro e w3 ⟨⟨FA, fc, fx⟩, q3, he, ⟨h3, h3n⟩, hlen3, hnil3, hw3⟩
 obtain rfl : e = .returned (.tuple #[.slice FA fx.length fc, .int .i64 q3]) := he
 have h3N : Hid (∀ g, (⟨FA, fc, fx⟩ : Sl Int).val.ownBlock = some g -> g ∉ [w.heap.size + 1, w.heap.size + 2, w.heap.size + 3, w.heap.size + 4]) := fun g hg => by have := h3n g hg; simp at this ⊢; omega
 have hB4 : Bl w w3 := hB3.trans hw3
 have hz4 : w.heap.size + 4 < w3.heap.size := by have := hw3.size; omega
 have hn0 : w3.cell? ⟨w.heap.size, 0, none⟩ = some (.slice A xs.length c) := hw3.keep gn0
 have hn1 : w3.cell? ⟨w.heap.size, 1, none⟩ = some (.slice A2 ls.length c2) := hw3.keep gn1
 have hs0 : w3.cell? ⟨w.heap.size + 1, 0, none⟩ = some (sv.val) := hw3.keep gs0
 have hs1 : w3.cell? ⟨w.heap.size + 1, 1, none⟩ = some (sp.val) := hw3.keep gs1
 have hs2 : w3.cell? ⟨w.heap.size + 1, 2, none⟩ = some (ss.val) := hw3.keep gs2
 have hs3 : w3.cell? ⟨w.heap.size + 1, 3, none⟩ = some (.slice OA ox.length oc) := hw3.keep gs3
 have hou : w3.cell? ⟨w.heap.size + 2, 0, none⟩ = some (.slice none 0 0) := hw3.keep gou
 have hon : w3.cell? ⟨w.heap.size + 3, 0, none⟩ = some (.slice OA ox.length oc) := hw3.keep gon
 have hee : w3.cell? ⟨w.heap.size + 4, 0, none⟩ = some (.int .i64 0) := hw3.keep gee
 have fhs3 : w3.frozen? ⟨w.heap.size + 1, 3, none⟩ = false := hw3.keepF gs3 fgs3
 have fhou : w3.frozen? ⟨w.heap.size + 2, 0, none⟩ = false := hw3.keepF gou fgou
 have fhon : w3.frozen? ⟨w.heap.size + 3, 0, none⟩ = false := hw3.keepF gon fgon
 have fhee : w3.frozen? ⟨w.heap.size + 4, 0, none⟩ = false := hw3.keepF gee fgee
 have hI4 := HD h3
 have ho4 := HD (InB.up (s := ⟨OA, oc, ox⟩) ho3.out hw3)
 have hl3 := HD hlen3
 have hn3 := HD hnil3
 have hfr := h3.room
 simp only at hfr
 clear h3 h3n hlen3 hnil3 hw3 hI3 ho3 hB3 hz3 T158
 clear gn0 gn1 gs0 gs1 gs2 gs3 gou gon gee fgs3 fgou fgon fgee
 have i1 : (w3.setCell ⟨w.heap.size + 4, 0, none⟩ (.int .i64 q3)).cell? ⟨w.heap.size + 2, 0, none⟩ = some (.slice none 0 0) := keepSet hou (by simp)
 have i2 : (w3.setCell ⟨w.heap.size + 4, 0, none⟩ (.int .i64 q3)).cell? ⟨w.heap.size + 3, 0, none⟩ = some (.slice OA ox.length oc) := keepSet hon (by simp)
 have i3 : (w3.setCell ⟨w.heap.size + 4, 0, none⟩ (.int .i64 q3)).cell? ⟨w.heap.size + 4, 0, none⟩ = some (.int .i64 q3) := by simp [go_sem, *]
 have i4 : (w3.setCell ⟨w.heap.size + 4, 0, none⟩ (.int .i64 q3)).frozen? ⟨w.heap.size + 2, 0, none⟩ = false := by simp [go_sem, *]
 have i5 : (w3.setCell ⟨w.heap.size + 4, 0, none⟩ (.int .i64 q3)).frozen? ⟨w.heap.size + 3, 0, none⟩ = false := by simp [go_sem, *]
 have i6 : (w3.setCell ⟨w.heap.size + 4, 0, none⟩ (.int .i64 q3)).frozen? ⟨w.heap.size + 4, 0, none⟩ = false := by simp [go_sem, *]
 have hBx : Bl w (w3.setCell ⟨w.heap.size + 4, 0, none⟩ (.int .i64 q3)) := Bl.setCell hB4 (by simp only; omega) _
 have hbu : But [w.heap.size + 1, w.heap.size + 2, w.heap.size + 3, w.heap.size + 4] w3 (w3.setCell ⟨w.heap.size + 4, 0, none⟩ (.int .i64 q3)) := (But.refl [w.heap.size + 1, w.heap.size + 2, w.heap.size + 3, w.heap.size + 4] w3).set ⟨w.heap.size + 4, 0, none⟩ _ (.inl (by simp))
 have hI5 := HD (OkT.but hI4.out hbu h3N.out)
 have ho5 := HD (OkT.but ho4.out hbu hoN.out)
 have hz5 : w.heap.size + 4 < (w3.setCell ⟨w.heap.size + 4, 0, none⟩ (.int .i64 q3)).heap.size := by simp; omega
 clear hbu hI4 ho4
 go_wp2_with fail
 clear hn0 hn1 hs0 hs1 hs2 hs3 hou hon hee fhs3 fhou fhon fhee hz4 hB4
 generalize (w3.setCell ⟨w.heap.size + 4, 0, none⟩ (.int .i64 q3)) = X4 at *
 go_loopg [47] fx.length (fun gg s47 wr => ∃ (kk : Nat) (s : Sl Int) (z : Int), kk ≤ fx.length /\ fx.length - kk ≤ gg /\ s47 = .int .i64 kk /\ Aside (Bl w wr) /\ Aside (But [w.heap.size + 1, w.heap.size + 2, w.heap.size + 3, w.heap.size + 4] X4 wr) /\ Aside (wr.cell? ⟨w.heap.size + 2, 0, none⟩ = some s.val) /\ Aside (wr.cell? ⟨w.heap.size + 3, 0, none⟩ = some (.slice OA ox.length oc)) /\ Aside (wr.cell? ⟨w.heap.size + 4, 0, none⟩ = some (.int .i64 z)) /\ Aside (wr.frozen? ⟨w.heap.size + 2, 0, none⟩ = false) /\ Aside (wr.frozen? ⟨w.heap.size + 3, 0, none⟩ = false) /\ Aside (wr.frozen? ⟨w.heap.size + 4, 0, none⟩ = false) /\ Aside (Own encI 1 3 X4.heap.size wr s) /\ Aside (s.xs.length = kk) /\ Aside (∀ x ∈ s.xs, 0 ≤ x /\ x ≤ 1125899906842624) /\ Aside (z = q3 \/ (z = 0 /\ fx ≠ [])))
 case atStart => exact ⟨0, ⟨none, 0, []⟩, q3, Nat.zero_le _, by omega, rfl, hBx, But.refl _ _, aside i1, aside i2, aside i3, aside i4, aside i5, aside i6, Own.nil, aside rfl, aside (fun x hx => by cases hx), aside (.inl rfl)⟩
 case round =>
  have hBX := HD hBx
  clear hBx i1 i2 i3 i4 i5 i6
  obtain ⟨kk, s, z, hkk, hg, rfl, BW, BU, C2, C3, C4, F2, F3, F4, OW, SL, SP, ZZ⟩ := hrel
  have BW' := BW.out
  have BU' := BU.out
  have C2' := C2.out
  have C3' := C3.out
  have C4' := C4.out
  have F2' := F2.out
  have F3' := F3.out
  have F4' := F4.out
  have SL' := SL.out
  clear BW BU C2 C3 C4 F2 F3 F4 SL
  have zr : w.heap.size + 4 < wr.heap.size := by have := BU'.size; omega
  by_cases hlt : kk < fx.length
  ·have hltz : (kk : Int) < (fx.length : Int) := by omega
   have hkz : (0 : Int) ≤ (kk : Int) := by omega
   have hfx : fx.length ≤ 400 := by
    by_cases h : q3 = 0
    ·have := hl3.out h; omega
    ·have := hn3.out h; rw [this] at hlt; simp at hlt
   have hIr := OkT.but hI5.out BU' h3N.out
   obtain ⟨b, off, hA, _, _, hc⟩ := hIr.place (by intro e; simp only at e; rw [e] at hlt; simp at hlt)
   simp only at hA hc
   subst hA
   have hc0 := hc kk hlt 0 _ rfl
   generalize fx[kk] = v at hc0
   have e0 : wr.cell? ⟨b, off + kk, none⟩ = some (.int .i64 v) := by rwa [Nat.mul_one] at hc0
   clear hc hc0 hIr
   go_wp2_with fail
   refine (f159_c v sec _).mono ?_
   rintro e w5 ⟨qq, zv, rfl, hqv, hw5⟩
   have c2 := hw5.keep C2'
   have c3 := hw5.keep C3'
   have c4 := hw5.keep C4'
   have d2 := hw5.keepF C2' F2'
   have d3 := hw5.keepF C3' F3'
   have d4 := hw5.keepF C4' F4'
   have hbw5 : But [w.heap.size + 1, w.heap.size + 2, w.heap.size + 3, w.heap.size + 4] X4 w5 := BU'.trans (But.of hw5)
   have hBw5 : Bl w w5 := BW'.trans hw5
   have zr5 : w.heap.size + 4 < w5.heap.size := by have := hw5.size; omega
   have hOw5 := HD (Own.bl OW.out hw5)
   have hqvh := HD hqv
   have hX4z := BU'.size
   have hw5z := hw5.size
   clear C2' C3' C4' F2' F3' F4' BW' BU' e0 hw5 hqv OW
   have x2 : (w5.setCell ⟨w.heap.size + 4, 0, none⟩ (.int .i64 zv)).cell? ⟨w.heap.size + 2, 0, none⟩ = some s.val := keepSet c2 (by simp)
   have x3 : (w5.setCell ⟨w.heap.size + 4, 0, none⟩ (.int .i64 zv)).cell? ⟨w.heap.size + 3, 0, none⟩ = some (.slice OA ox.length oc) := keepSet c3 (by simp)
   have x4 : (w5.setCell ⟨w.heap.size + 4, 0, none⟩ (.int .i64 zv)).cell? ⟨w.heap.size + 4, 0, none⟩ = some (.int .i64 zv) := by simp [go_sem, *]
   have y2 : (w5.setCell ⟨w.heap.size + 4, 0, none⟩ (.int .i64 zv)).frozen? ⟨w.heap.size + 2, 0, none⟩ = false := by simp [go_sem, *]
   have y3 : (w5.setCell ⟨w.heap.size + 4, 0, none⟩ (.int .i64 zv)).frozen? ⟨w.heap.size + 3, 0, none⟩ = false := by simp [go_sem, *]
   have y4 : (w5.setCell ⟨w.heap.size + 4, 0, none⟩ (.int .i64 zv)).frozen? ⟨w.heap.size + 4, 0, none⟩ = false := by simp [go_sem, *]
   have hB6 : Bl w (w5.setCell ⟨w.heap.size + 4, 0, none⟩ (.int .i64 zv)) := Bl.setCell hBw5 (by simp only; omega) _
   by_cases hz : zv = 0
   case neg =>
    have hzb : (zv != 0) = true := by simpa using hz
    go_wp2_with fail
    exact door_no ls w _ _ (w.heap.size + 2) (w.heap.size + 3) (w.heap.size + 4) _ _ zv hz rfl rfl rfl x2 x3 x4 y2 y3 (by omega) (by omega) (by omega) hB6 (by omega) (by omega)
   subst hz
   have hOw6 := HD (show Own encI 1 3 X4.heap.size (w5.setCell ⟨w.heap.size + 4, 0, none⟩ (.int .i64 0)) s from ownsRow_setCell_other hOw5.out (fun e => by have := hOw5.out.ge _ e; simp only at this; omega) _)
   have hbw6 : But [w.heap.size + 1, w.heap.size + 2, w.heap.size + 3, w.heap.size + 4] X4 (w5.setCell ⟨w.heap.size + 4, 0, none⟩ (.int .i64 0)) := hbw5.set ⟨w.heap.size + 4, 0, none⟩ _ (.inl (by simp))
   have hz6 : w.heap.size + 4 < (w5.setCell ⟨w.heap.size + 4, 0, none⟩ (.int .i64 0)).heap.size := by simp; omega
   have hX6 : X4.heap.size ≤ (w5.setCell ⟨w.heap.size + 4, 0, none⟩ (.int .i64 0)).heap.size := by simp; omega
   go_wp2_with (at_builtin; refine wpList_append_own _ rfl _ _ 28 rfl X4.heap.size 3 i0 (.int .i64 0) 1 8 HU.out HI.out.1 HI.out.2.1 HI.out.2.2.1 HI.out.2.2.2 rfl (by decide) _ _ _ rfl (World.ownsRow.alloc hOw6.out _) _ 1 1 [.int .i64 qq] rfl rfl ?c1 ?c2 ?c3 ?c4 ?c5 ?_)
   try case c1 =>
    intro j u hj
    match j, hj with
    | 0, hj => simp at hj; subst hj; simp [Addr.add, go_sem]
   try case c2 => first | rfl | (intro u hu; simp at hu; subst hu; rfl)
   try case c3 => unfold maxLen; omega
   try case c4 => omega
   try case c5 => first | omega | (simp; omega)
   intro v' w7 hown' hgrow _
   obtain ⟨⟨SA, sc, sx⟩, hv', hs', hO'⟩ := Own.push (enc := encI) (k := 1) (e := 3) (base := X4.heap.size) (w := w7) (s := s) (x := qq) (v := v') (by rw [SL']; exact hown')
   obtain rfl : v' = .slice SA sx.length sc := hv'
   have hgrow' : ((w5.setCell ⟨w.heap.size + 4, 0, none⟩ (.int .i64 0)).alloc (Obj.cells #[.int .i64 qq] 3)).grownBy w7 s.val.ownBlock := hgrow
   have hrow : ∀ g, s.val.ownBlock = some g -> X4.heap.size ≤ g := hOw6.out.ge
   have hal : Bl (w5.setCell ⟨w.heap.size + 4, 0, none⟩ (.int .i64 0)) ((w5.setCell ⟨w.heap.size + 4, 0, none⟩ (.int .i64 0)).alloc (Obj.cells #[.int .i64 qq] 3)) := bz
   have hr2 : s.val.ownBlock ≠ some (w.heap.size + 2) := fun e => by have := hrow _ e; omega
   have hr3 : s.val.ownBlock ≠ some (w.heap.size + 3) := fun e => by have := hrow _ e; omega
   have hr4 : s.val.ownBlock ≠ some (w.heap.size + 4) := fun e => by have := hrow _ e; omega
   have p2 := grown_cell hgrow' (hal.keep x2) hr2
   have p3 := grown_cell hgrow' (hal.keep x3) hr3
   have p4 := grown_cell hgrow' (hal.keep x4) hr4
   have r2 := grown_fro hgrow' (hal.keep x2) (hal.keepF x2 y2) hr2
   have r3 := grown_fro hgrow' (hal.keep x3) (hal.keepF x3 y3) hr3
   have r4 := grown_fro hgrow' (hal.keep x4) (hal.keepF x4 y4) hr4
   have hbw7 : But [w.heap.size + 1, w.heap.size + 2, w.heap.size + 3, w.heap.size + 4] X4 w7 := But.grown (hbw6.trans (But.of hal)) hgrow' hrow
   have t2 : (w7.setCell ⟨w.heap.size + 2, 0, none⟩ (.slice SA sx.length sc)).cell? ⟨w.heap.size + 2, 0, none⟩ = some (.slice SA sx.length sc) := by simp [go_sem, *]
   have t3 : (w7.setCell ⟨w.heap.size + 2, 0, none⟩ (.slice SA sx.length sc)).cell? ⟨w.heap.size + 3, 0, none⟩ = some (.slice OA ox.length oc) := keepSet p3 (by simp)
   have t4 : (w7.setCell ⟨w.heap.size + 2, 0, none⟩ (.slice SA sx.length sc)).cell? ⟨w.heap.size + 4, 0, none⟩ = some (.int .i64 0) := keepSet p4 (by simp)
   have v2 : (w7.setCell ⟨w.heap.size + 2, 0, none⟩ (.slice SA sx.length sc)).frozen? ⟨w.heap.size + 2, 0, none⟩ = false := by simp [go_sem, *]
   have v3 : (w7.setCell ⟨w.heap.size + 2, 0, none⟩ (.slice SA sx.length sc)).frozen? ⟨w.heap.size + 3, 0, none⟩ = false := by simp [go_sem, *]
   have v4 : (w7.setCell ⟨w.heap.size + 2, 0, none⟩ (.slice SA sx.length sc)).frozen? ⟨w.heap.size + 4, 0, none⟩ = false := by simp [go_sem, *]
   have hbw8 : But [w.heap.size + 1, w.heap.size + 2, w.heap.size + 3, w.heap.size + 4] X4 (w7.setCell ⟨w.heap.size + 2, 0, none⟩ (.slice SA sx.length sc)) := hbw7.set ⟨w.heap.size + 2, 0, none⟩ _ (.inl (by simp))
   have hB8 : Bl w (w7.setCell ⟨w.heap.size + 2, 0, none⟩ (.slice SA sx.length sc)) := But.bl hBX.out hbw8 (fun k hk => by simp at hk; omega)
   have hO8 := HD (show Own encI 1 3 X4.heap.size (w7.setCell ⟨w.heap.size + 2, 0, none⟩ (.slice SA sx.length sc)) ⟨SA, sc, sx⟩ from ownsRow_setCell_other hO' (fun e => by have := hO'.ge _ e; simp only at this; omega) _)
   have hL8 := HD (show sx.length = kk + 1 by simp only at hs'; rw [hs', List.length_append, SL']; rfl)
   have hP8 : Hid (∀ x ∈ sx, 0 ≤ x /\ x ≤ 1125899906842624) := fun x hx => by
    simp only at hs'
    rw [hs', List.mem_append] at hx
    rcases hx with h | h
    ·exact SP.out x h
    ·simp only [List.mem_singleton] at h
     rw [h]
     first | exact hqvh.out trivial | exact hqvh.out rfl
   have hne : Hid (fx ≠ []) := fun e => by rw [e] at hlt; simp at hlt
   clear hown' hgrow hgrow' hO' hs' hbw7 hbw6 hal hOw6 hOw5
   go_wp2_with fail
   go_roundg (fx.length - (kk + 1))
   case measure => omega
   case rel => exact ⟨kk + 1, ⟨SA, sc, sx⟩, 0, by omega, by omega, by go_num, hB8, hbw8, t2, t3, t4, v2, v3, v4, hO8.out, hL8.out, hP8.out, aside (.inr ⟨rfl, hne.out⟩)⟩
  ·have hltz : ¬ (kk : Int) < (fx.length : Int) := by omega
   have hkk' : kk = fx.length := by omega
   by_cases hz : z = 0
   ·have hq3 : q3 = 0 := by
     rcases ZZ.out with h | h
     ·omega
     ·exact Classical.byContradiction fun hn => h.2 (hn3.out hn)
    have hfin := HD (hl3.out hq3)
    subst hz
    go_wp2_with fail
    exact door_ok ls w _ _ (w.heap.size + 2) (w.heap.size + 3) (w.heap.size + 4) s ⟨OA, oc, ox⟩ rfl rfl rfl C2' C3' C4' F2' F3' (by omega) BW' ⟨Own.ok OW.out (fun _ => rfl) (by omega) (fun _ _ => trivial), New.own OW.out hBX.out.size⟩ ⟨OkT.but ho5.out BU' hoN.out, hoW.out⟩ ⟨by have := hfin.out; first | omega | (simp only at this; omega), SP.out, hkind.out.1, hkind.out.2⟩
   ·go_wp2_with fail
    exact door_no ls w _ _ (w.heap.size + 2) (w.heap.size + 3) (w.heap.size + 4) _ _ z hz rfl rfl rfl C2' C3' C4' F2' F3' (by omega) (by omega) (by omega) BW' (by omega) (by omega)
def sumAt (q : List Int) (l : List Int) : Int := (l.map (fun k => q[k.toNat]!)).sum
theorem outsE_mem {es : List (Int × Int)} {i : Nat} : ∀ {m : Nat} {x : Int}, x ∈ outsE es i m -> ∃ k : Nat, k < m /\ x = (k : Int) /\ (es[k]!).1 = (i : Int)
 | 0, x, h => by simp [outsE] at h
 | m + 1, x, h => by
  simp only [outsE] at h
  split at h
  ·rename_i hs
   rw [List.mem_append] at h
   rcases h with h | h
   ·obtain ⟨k, h1, h2, h3⟩ := outsE_mem h
    exact ⟨k, by omega, h2, h3⟩
   ·simp only [List.mem_singleton] at h
    exact ⟨m, by omega, h, hs⟩
  ·obtain ⟨k, h1, h2, h3⟩ := outsE_mem h
   exact ⟨k, by omega, h2, h3⟩
theorem outsE_nodup {es : List (Int × Int)} {i : Nat} : ∀ (m : Nat), (outsE es i m).Nodup
 | 0 => by simp [outsE]
 | m + 1 => by
  simp only [outsE]
  split
  ·rw [List.nodup_append]
   refine ⟨outsE_nodup m, by simp, ?_⟩
   intro a ha b hb e
   simp only [List.mem_singleton] at hb
   obtain ⟨k, h1, h2, _⟩ := outsE_mem ha
   omega
  ·exact outsE_nodup m
theorem outsE_len {es : List (Int × Int)} {i : Nat} : ∀ (m : Nat), (outsE es i m).length ≤ m
 | 0 => by simp [outsE]
 | m + 1 => by
  have := outsE_len (es := es) (i := i) m
  simp only [outsE]
  split
  ·simp; omega
  ·omega
theorem getI_set_ne {l : List Int} {k i : Nat} {x : Int} (h : i ≠ k) : (l.set k x)[i]! = l[i]! := by
 simp only [List.getElem!_eq_getElem?_getD, List.getElem?_set_ne (fun e => h e.symm)]
theorem getI_set_self {l : List Int} {k : Nat} {x : Int} (h : k < l.length) : (l.set k x)[k]! = x := by
 rw [getElem!_pos (l.set k x) k (by simpa using h), List.getElem_set_self]
theorem sumAt_congr {q q' : List Int} {l : List Int} (h : ∀ x ∈ l, q[x.toNat]! = q'[x.toNat]!) : sumAt q l = sumAt q' l := by
 unfold sumAt
 rw [List.map_congr_left h]
theorem sumAt_app (q : List Int) (a b : List Int) : sumAt q (a ++ b) = sumAt q a + sumAt q b := by
 unfold sumAt
 rw [List.map_append, List.sum_append]
def smN (ws : List Int) (rx : List Int) : Nat -> Nat
 | 0 => 0
 | j + 1 => smN ws rx j + (ws[(rx[j]!).toNat]!).toNat
theorem smN_eq {ws rx : List Int} (h : ∀ x ∈ rx, 0 ≤ ws[x.toNat]!) : ∀ (j : Nat), j ≤ rx.length -> ((smN ws rx j : Nat) : Int) = sumAt ws (rx.take j)
 | 0, _ => by simp [smN, sumAt]
 | j + 1, hj => by
  have h1 := smN_eq h j (by omega)
  rw [List.take_succ_eq_append_getElem (by omega), sumAt_app, <- h1]
  have h2 : rx[j]! = rx[j] := getElem!_pos rx j (by omega)
  have h3 := h rx[j] (List.getElem_mem _)
  simp only [smN, h2, sumAt, List.map_cons, List.map_nil, List.sum_cons, List.sum_nil]
  omega
theorem smN_bound {ws rx : List Int} (h : ∀ x ∈ rx, ws[x.toNat]! ≤ 1125899906842624) : ∀ (j : Nat), j ≤ rx.length -> smN ws rx j ≤ j * 1125899906842624
 | 0, _ => by simp [smN]
 | j + 1, hj => by
  have h1 := smN_bound h j (by omega)
  have h2 : rx[j]! = rx[j] := getElem!_pos rx j (by omega)
  have h3 := h rx[j] (List.getElem_mem _)
  simp only [smN, h2]
  omega
theorem smN_mono {ws rx : List Int} (j d : Nat) : smN ws rx j ≤ smN ws rx (j + d) := by
 induction d with
 | zero => exact Nat.le_refl _
 | succ d ih => show smN ws rx j ≤ smN ws rx (j + d) + _; omega
def shareN (H S b : Nat) : Int := ((H * b / S : Nat) : Int)
theorem share_mono {H S a b : Nat} (h : a ≤ b) : shareN H S a ≤ shareN H S b := by
 unfold shareN
 have := Nat.div_le_div_right (c := S) (Nat.mul_le_mul_left H h)
 omega
theorem share_le {H S b : Nat} (h : b ≤ S) (h0 : 0 < S) : shareN H S b ≤ (H : Int) := by
 unfold shareN
 have : H * b / S ≤ H := by
  rw [Nat.div_le_iff_le_mul_add_pred h0, Nat.mul_comm S]
  have := Nat.mul_le_mul_left H h
  omega
 omega
theorem row_step {q q2 rx : List Int} {j : Nat} {x : Int} (hj : j < rx.length) (hnd : rx.Nodup) (hmem : ∀ y ∈ rx, ∃ k : Nat, k < q2.length /\ y = (k : Int)) (hx : 0 ≤ x)
 (h1 : ∀ k : Nat, k < q2.length -> ((k : Int) ∉ rx.take j -> q2[k]! = q[k]!) /\ 0 ≤ q2[k]!) {d : Int} (h2 : sumAt q2 (rx.take j) = d) :
 (∀ k : Nat, k < q2.length -> ((k : Int) ∉ rx.take (j + 1) -> (q2.set (rx[j]).toNat x)[k]! = q[k]!) /\ 0 ≤ (q2.set (rx[j]).toNat x)[k]!) /\ sumAt (q2.set (rx[j]).toNat x) (rx.take (j + 1)) = d + x := by
 obtain ⟨k0, hk0, he⟩ := hmem rx[j] (List.getElem_mem _)
 have hk : (rx[j]).toNat = k0 := by omega
 rw [hk, List.take_succ_eq_append_getElem hj]
 refine ⟨fun k hkl => ⟨fun hn => ?_, ?_⟩, ?_⟩
 ·rw [List.mem_append, not_or] at hn
  have hne : k ≠ k0 := fun e => hn.2 (by rw [List.mem_singleton, he, e])
  rw [getI_set_ne hne]
  exact (h1 k hkl).1 hn.1
 ·by_cases e : k = k0
  ·subst e; rw [getI_set_self hkl]; exact hx
  ·rw [getI_set_ne e]; exact (h1 k hkl).2
 ·rw [sumAt_app]
  have h3 : sumAt (q2.set k0 x) (rx.take j) = sumAt q2 (rx.take j) := sumAt_congr (fun y hy => by
   obtain ⟨k, _, hyk⟩ := hmem y (List.mem_of_mem_take hy)
   have : k ≠ k0 := fun e => by
    have hnd' := hnd
    obtain ⟨i, hi, hyi⟩ := List.getElem_of_mem hy
    rw [List.getElem_take] at hyi
    have hil : i < j := by simp at hi; omega
    exact (List.pairwise_iff_getElem.mp hnd') i j (by omega) hj hil (by rw [hyi, he, hyk, e])
   rw [hyk, Int.toNat_natCast, getI_set_ne this])
  rw [h3, h2]
  simp only [sumAt, List.map_cons, List.map_nil, List.sum_cons, List.sum_nil, he, Int.toNat_natCast, getI_set_self hk0]
  omega
def LimInv (es : List (Int × Int)) (hs ws q : List Int) (kk : Nat) : Prop := q.length = ws.length /\ (∀ k, k < ws.length -> 0 ≤ q[k]!) /\ (∀ i, i < kk -> sumAt q (outsE es i ws.length) ≤ hs[i]!) /\ (∀ k : Nat, k < ws.length -> (kk : Int) ≤ (es[k]!).1 -> q[k]! = ws[k]!)
theorem LimInv.skip {es : List (Int × Int)} {hs ws q : List Int} {kk : Nat} (h : LimInv es hs ws q kk) (hsum : sumAt ws (outsE es kk ws.length) ≤ hs[kk]!) : LimInv es hs ws q (kk + 1) := by
 obtain ⟨h1, h2, h3, h4⟩ := h
 refine ⟨h1, h2, fun i hi => ?_, fun k hk hke => h4 k hk (by omega)⟩
 rcases Nat.lt_or_ge i kk with h | h
 ·exact h3 i h
 ·have : i = kk := by omega
  subst this
  rw [sumAt_congr (q' := ws) (fun x hx => by
   obtain ⟨k, hk, rfl, hke⟩ := outsE_mem hx
   rw [Int.toNat_natCast]
   exact h4 k hk (by omega))]
  exact hsum
theorem LimInv.cut {es : List (Int × Int)} {hs ws q q2 : List Int} {kk : Nat} (h : LimInv es hs ws q kk) (hl : q2.length = ws.length)
 (h1 : ∀ k : Nat, k < q2.length -> ((k : Int) ∉ outsE es kk ws.length -> q2[k]! = q[k]!) /\ 0 ≤ q2[k]!) (hsum : sumAt q2 (outsE es kk ws.length) ≤ hs[kk]!) : LimInv es hs ws q2 (kk + 1) := by
 obtain ⟨g1, g2, g3, g4⟩ := h
 refine ⟨hl, fun k hk => (h1 k (by omega)).2, fun i hi => ?_, fun k hk hke => ?_⟩
 ·rcases Nat.lt_or_ge i kk with h | h
  ·rw [sumAt_congr (q' := q) (fun x hx => by
    obtain ⟨k, hk, rfl, hke⟩ := outsE_mem hx
    rw [Int.toNat_natCast]
    refine (h1 k (by omega)).1 (fun hm => ?_)
    obtain ⟨k', _, he, hke'⟩ := outsE_mem hm
    have : k' = k := by omega
    subst this
    omega)]
   exact g3 i h
  ·have : i = kk := by omega
   subst this
   exact hsum
 ·rw [(h1 k (by omega)).1 (fun hm => by
   obtain ⟨k', _, he, hke'⟩ := outsE_mem hm
   have : k' = k := by omega
   subst this
   omega)]
  exact g4 k hk (by omega)
end Go.Proofs.YtnnhnkpoekbahaaGreat
