/- TopSeason: part 6 of 16: Rul Own2 Set Rt1 Rt2 But Grid -/
import Derived.Test.YtnnhnkpoekbahaaGreatPart01
import Derived.Test.YtnnhnkpoekbahaaGreatPart03
import Derived.Test.YtnnhnkpoekbahaaGreatPart00
import Derived.Test.YtnnhnkpoekbahaaGreatPart02
import Derived.Test.YtnnhnkpoekbahaaGreatPart04
import Derived.Laws.OwnMore
import Derived.OneCell
import Derived.Maps.AppendAt
namespace Go.Proofs.YtnnhnkpoekbahaaGreat
open Go.RowKit
set_option maxHeartbeats 400000
set_option linter.unusedSimpArgs false
set_option linter.unusedVariables false
set_option maxRecDepth 100000
theorem e191 (args : Array Value) (w : World) : (callFunc 191 args).run Tryz.prog w = .ok (.enter 191 args) w := enters_of Tryz.func191 (by kernel_rfl) rfl args w
theorem f191_c (x : Sec) (q : Nat) (nm : ByteArray) (w : World) (h : w.cell? ⟨q, 0, none⟩ = some (.string nm)) : Calls Tryz.prog 191 #[x.val, .pointer (some ⟨q, 0, none⟩)] w fun e w' => e = .returned (.bool (x.name == nm)) /\ Bl w w' := by
 have hq := cell_lt h
 simp only at hq
 go_enter Tryz.func191, Tryz.ntmps191
 go_wp2_with fail
 go_ret
 exact ⟨ret_bool (beq_toListBytes _ _).symm, bz⟩
theorem f153_c (l : Sl Sec) (nm : ByteArray) (w : World) (hl : InSecs w l) : Calls Tryz.prog 153 #[l.val, .string nm] w fun e w' => ∃ q z : Int, e = .returned (.tuple #[.int .i64 q, .int .i64 z]) /\ Bl w w' := by
 have T48 := HD (fun W (hb : Bl w W) => f48_c l W (InSecs.up hl hb))
 have T26 := HD (fun W (q : Nat) (hb : Bl w W) (hc : W.cell? ⟨q, 0, none⟩ = some (.string nm)) => f26_c l W.heap.size 191 #[.pointer (some ⟨q, 0, none⟩)] (fun y : Sec => y.name == nm) W (InSecs.up hl hb) (fun W' y _ hb' => f191_c y q nm W' (hb'.keep hc)) e191)
 clear hl
 go_enter Tryz.func153, Tryz.ntmps153
 go_wp2_with fail
 refine (T48.out _ bz).mono ?_
 rintro e w1 ⟨b0, _, _, rfl, hw1⟩
 clear T48
 obtain ⟨hchw1, hfhw1, hzhw1⟩ := Bl.rules hw1; (try simp only [aZ, cZ, dZ, nZ] at hzhw1)
 have z1 : w.heap.size < w1.heap.size := by omega
 cases b0
 ·go_wp2_with fail
  exact bodyPost_ret (v := .tuple #[.int .i64 0, .int .i64 1]) (by simp [results, Tryz.results153, go_sem, *]; try exact ⟨rfl, rfl⟩) rfl ⟨0, 1, rfl, bz⟩
 ·go_wp2_with fail
  refine (T26.out _ _ bz (by simp [go_sem, *])).mono ?_
  rintro e w2 ⟨rfl, hw2⟩
  clear T26
  generalize ix (fun y : Sec => y.name == nm) l.xs = i
  by_cases hi : 0 ≤ i
  ·go_wp2_with fail
   exact bodyPost_ret (v := .tuple #[.int .i64 i, .int .i64 0]) (by simp [results, Tryz.results153, go_sem, *]; try exact ⟨rfl, rfl⟩) rfl ⟨i, 0, rfl, bz⟩
  ·go_wp2_with fail
   exact bodyPost_ret (v := .tuple #[.int .i64 0, .int .i64 9]) (by simp [results, Tryz.results153, go_sem, *]; try exact ⟨rfl, rfl⟩) rfl ⟨0, 9, rfl, bz⟩
theorem e108 (args : Array Value) (w : World) : (callFunc 108 args).run Tryz.prog w = .ok (.enter 108 args) w := enters_of Tryz.func108 (by kernel_rfl) rfl args w
theorem f108_c (s : Int) (w : World) : Calls Tryz.prog 108 #[.int .i64 s] w fun e w' => e = .returned (.bool (!inR 0 1000 s)) /\ Bl w w' := by
 go_enter Tryz.func108, Tryz.ntmps108
 go_wp2_with fail
 refine (f102_c _ _ _ _).mono ?_
 rintro e w2 ⟨rfl, rfl⟩
 go_wp2_with fail
 go_ret
 exact ⟨rfl, bz⟩
def intMap (f : ByteArray -> Option Value) : Prop := ∀ a, f a = none \/ ∃ v : Int, f a = some (.int .i64 v)
def valI : Option Value -> Int
 | some (.int _ v) => v
 | _ => 0
theorem intMap.get {f : ByteArray -> Option Value} (h : intMap f) (a : ByteArray) : (f a).getD (.int .i64 0) = .int .i64 (valI (f a)) := by
 rcases h a with e | ⟨v, e⟩
 ·rw [e]; rfl
 ·rw [e]; rfl
theorem zeroInt (w : World) : (zeroValue 3).run Tryz.prog w = .ok (.int .i64 0) w := by kernel_rfl
theorem u172 : Tryz.prog.underlying 172 = some (.map 9 3) := by kernel_rfl
def condB (f : ByteArray -> Option Value) (c : Cond) : Bool := decide (c.level ≤ valI (f c.node)) == c.below
theorem e152 (args : Array Value) (w : World) : (callFunc 152 args).run Tryz.prog w = .ok (.enter 152 args) w := enters_of Tryz.func152 (by kernel_rfl) rfl args w
theorem f152_c (c : Cond) (q m : Nat) (f : ByteArray -> Option Value) (w : World) (M : MapAt KS w m f) (hf : intMap f) (h : w.cell? ⟨q, 0, none⟩ = some (.map (some m))) : Calls Tryz.prog 152 #[c.val, .pointer (some ⟨q, 0, none⟩)] w fun e w' => e = .returned (.bool (condB f c)) /\ Bl w w' := by
 have hq := cell_lt h
 simp only at hq
 have L : Sem.run Tryz.prog (Instr.lookup 172 (.map (some m)) (.string c.node) false) (w.alloc (Obj.cells #[.string c.node, .bool c.below, .int .i64 c.level] 184)) = .ok (.int .i64 (valI (f c.node))) (w.alloc (Obj.cells #[.string c.node, .bool c.below, .int .i64 c.level] 184)) := by
  have := (M.keep (show Bl w (w.alloc (Obj.cells #[.string c.node, .bool c.below, .int .i64 c.level] 184)) from bz)).lookup u172 u9 (zeroInt _) c.node false
  rw [hf.get] at this
  exact this
 have KF := HD (show condB f c = (decide (c.level ≤ valI (f c.node)) == c.below) from rfl)
 generalize valI (f c.node) = v at L KF
 clear M hf
 go_enter Tryz.func152, Tryz.ntmps152
 go_wp2_with fail
 go_ret
 exact ⟨ret_bool KF.out.symm, bz⟩
theorem f110_c (r : Rul) (m : Nat) (f : ByteArray -> Option Value) (w : World) (hr : InRul w r) (M : MapAt KS w m f) (hf : intMap f) : Calls Tryz.prog 110 #[r.val, .map (some m)] w fun e w' => ∃ b, e = .returned (.bool b) /\ Bl w w' := by
 have T := HD (fun W (q : Nat) (hb : Bl w W) (hc : W.cell? ⟨q, 0, none⟩ = some (.map (some m))) => f151_c r.cond W.heap.size 152 #[.pointer (some ⟨q, 0, none⟩)] (condB f) W (InRul.up hr hb) (fun W' y _ hb' => f152_c y q m f W' (M.keep (hb.trans hb')) hf (hb'.keep hc)) e152)
 clear hr M hf
 go_enter Tryz.func110, Tryz.ntmps110
 go_wp2_with fail
 refine (T.out _ _ bz (by simp [go_sem])).mono ?_
 rintro e w1 ⟨rfl, hw1⟩
 clear T
 go_wp2_with fail
 go_ret
 exact ⟨_, rfl, bz⟩
def RRul (r : Rul) (w : World) (e : Ending) (w' : World) : Prop := ∃ b, (b = true -> inR 0 1000 r.set = true) /\ e = .returned (.bool b) /\ Bl w w'
set_option maxHeartbeats 2000000 in
theorem f74_c (r : Rul) (w : World) (hs : InRul w r) : Calls Tryz.prog 74 #[r.val] w (RRul r w) := by
 have hS := HD hs
 have hroom := hs.room
 clear hs
 obtain ⟨nm, ⟨A, c, xs⟩, lk, st⟩ := r
 simp only at hroom
 show Calls Tryz.prog 74 #[.agg #[.string nm, .slice A xs.length c, .string lk, .int .i64 st]] w (RRul ⟨nm, ⟨A, c, xs⟩, lk, st⟩ w)
 have hfalse : ∀ w', Bl w w' -> RRul ⟨nm, ⟨A, c, xs⟩, lk, st⟩ w (.returned (.bool false)) w' := fun w' hb => ⟨false, fun h => (by cases h), rfl, hb⟩
 go_enter Tryz.func74, Tryz.ntmps74
 go_wp2_with fail
 refine (name_c nm _).mono ?_
 rintro e w1 ⟨rfl, rfl⟩
 cases g1 : nameB nm
 ·go_wp2_with fail
  go_ret
  exact hfalse _ bz
 go_wp2_with fail
 refine (name_c lk _).mono ?_
 rintro e w1 ⟨rfl, rfl⟩
 cases g2 : nameB lk
 ·go_wp2_with fail
  go_ret
  exact hfalse _ bz
 by_cases h20 : xs.length ≤ 20
 case neg =>
  have h20' : 20 < xs.length := by omega
  go_wp2_with fail
  go_ret
  exact hfalse _ bz
 have h20' : ¬ 20 < xs.length := by omega
 go_wp2_with fail
 refine (f102_c _ _ _ _).mono ?_
 rintro e w1 ⟨rfl, rfl⟩
 cases g3 : inR 0 1000 st
 ·go_wp2_with fail
  go_ret
  exact hfalse _ bz
 have hG := HD g3
 go_wp2_with fail
 go_loopg [30] xs.length (fun gg s30 wr => ∃ (kk : Nat), kk ≤ xs.length /\ xs.length - kk ≤ gg /\ s30 = .int .i64 kk /\ Aside (Bl w wr))
 case atStart => exact ⟨0, Nat.zero_le _, by omega, rfl, bz⟩
 case round =>
  obtain ⟨kk, hkk, hg, rfl, BW⟩ := hrel
  have BW' := BW.out
  by_cases hlt : kk < xs.length
  ·have hltz : (kk : Int) < (xs.length : Int) := by omega
   have hkz : (0 : Int) ≤ (kk : Int) := by omega
   obtain ⟨b, off, hA, _, _, _⟩ := (InRul.up hS.out (Bl.refl w)).place (by intro e; simp only at e; rw [e] at hlt; simp at hlt)
   simp only at hA
   subst hA
   have hc := Sl.Ok.cells hS.out rfl wr BW' kk hlt
   simp only at hc
   generalize xs[kk] = y at hc
   have e0 : wr.cell? ⟨b, off + kk * 3, none⟩ = some (.string y.node) := hc 0 _ rfl
   have e1 : wr.cell? ⟨b, off + kk * 3 + 1, none⟩ = some (.bool y.below) := hc 1 _ rfl
   have e2 : wr.cell? ⟨b, off + kk * 3 + 2, none⟩ = some (.int .i64 y.level) := hc 2 _ rfl
   clear hc
   go_wp2_with fail
   refine (name_c y.node _).mono ?_
   rintro e w3 ⟨rfl, rfl⟩
   cases nameB y.node
   ·go_wp2_with fail
    go_ret
    exact hfalse _ bz
   go_wp2_with fail
   refine (f102_c y.level (-4194304) 4194304 _).mono ?_
   rintro e w3 ⟨rfl, rfl⟩
   have hbw3 : Bl w (wr.alloc (Obj.cells #[.string y.node, .bool y.below, .int .i64 y.level] 184)) := bz
   cases inR (-4194304) 4194304 y.level
   ·go_wp2_with fail
    go_ret
    exact hfalse _ bz
   go_wp2_with fail
   go_roundg (xs.length - (kk + 1))
   case measure => omega
   case rel => exact ⟨kk + 1, by omega, by omega, by go_num, hbw3⟩
  ·have hltz : ¬ (kk : Int) < (xs.length : Int) := by omega
   go_wp2_with fail
   go_ret
   exact ⟨true, fun _ => hG.out, rfl, BW'⟩
def RRuls (xs : List Rul) (w : World) (e : Ending) (w' : World) : Prop := ∃ b, (xs = [] -> b = true) /\ (b = true -> xs.length ≤ 60 /\ ∀ x ∈ xs, inR 0 1000 x.set = true) /\ e = .returned (.bool b) /\ Bl w w'
set_option maxHeartbeats 2000000 in
theorem f49_c (s : Sl Rul) (w : World) (hs : InRuls w s) : Calls Tryz.prog 49 #[s.val] w (RRuls s.xs w) := by
 have hr := hs.room
 obtain ⟨A, c, xs⟩ := s
 simp only at hr
 have hmm := @run_makeMap Tryz.prog
 by_cases h40 : xs.length ≤ 60
 ·have h40' : ¬ 60 < xs.length := by omega
  by_cases h0 : xs = []
  ·subst h0
   clear hs
   show Calls Tryz.prog 49 #[.slice A 0 c] w (RRuls [] w)
   go_enter Tryz.func49, Tryz.ntmps49
   go_wp2
   refine wp_loop_rounds 1 ?_
   rw [rounds_succ]
   go_wp2
   go_ret
   exact ⟨true, by simp, by simp, rfl, bz⟩
  ·obtain ⟨b, off, hA, hB, hw, hc⟩ := hs.place h0
   simp only at hA
   subst hA
   have hrow := fun W hb i hi => Sl.Ok.cells hs rfl W hb i hi
   have heach := HD (fun W (hb : Bl w W) x (hx : x ∈ xs) => f74_c x W (InRul.up (hs.each x hx) hb))
   clear hs hc h0
   simp only at hrow
   show Calls Tryz.prog 49 #[.slice (some ⟨b, off, none⟩) xs.length c] w (RRuls xs w)
   go_enter Tryz.func49, Tryz.ntmps49
   go_wp2_with fail
   go_loopg [12] xs.length (fun gg s12 wr => ∃ (kk : Nat) (f : ByteArray -> Option Value), kk ≤ xs.length /\ xs.length - kk ≤ gg /\ s12 = .int .i64 kk /\ Aside (Bl w wr) /\ Aside (MapAt KS wr w.heap.size f) /\ Aside (boolMap f) /\ Aside (∀ j (h : j < xs.length), j < kk -> inR 0 1000 xs[j].set = true))
   case atStart => exact ⟨0, fun _ => none, Nat.zero_le _, by omega, rfl, bz, MapAt.made KS w, fun a => .inl rfl, aside (fun j _ h => by omega)⟩
   case round =>
    obtain ⟨kk, f, hkk, hg, rfl, BW, M, hf, hP⟩ := hrel
    by_cases hlt : kk < xs.length
    ·have hltz : (kk : Int) < (xs.length : Int) := by omega
     have hc := hrow wr BW.out kk (by omega)
     have hmem := HD (List.getElem_mem hlt)
     have hstep : Hid (inR 0 1000 xs[kk].set = true -> ∀ j (h : j < xs.length), j < kk + 1 -> inR 0 1000 xs[j].set = true) := fun h j hj hk => by
      rcases Nat.lt_or_ge j kk with h1 | h1
      ·exact hP.out j hj h1
      ·have : j = kk := by omega
       subst this; exact h
     generalize xs[kk] = y at hc hstep hmem
     have c0 : wr.cell? ⟨b, off + kk * 4, none⟩ = some (.string y.name) := hc 0 _ rfl
     have c1 : wr.cell? ⟨b, off + kk * 4 + 1, none⟩ = some y.cond.val := hc 1 _ rfl
     have c2 : wr.cell? ⟨b, off + kk * 4 + 2, none⟩ = some (.string y.link) := hc 2 _ rfl
     have c3 : wr.cell? ⟨b, off + kk * 4 + 3, none⟩ = some (.int .i64 y.set) := hc 3 _ rfl
     have hne : Hid (xs ≠ []) := fun e => by rw [e] at hlt; simp at hlt
     clear hc hrow
     go_wp2_with fail
     have BW' := BW.out
     refine (heach.out _ bz y hmem.out).mono ?_
     rintro e w2 ⟨bq, hq0, rfl, hw2⟩
     have hq := HD hq0
     clear hq0
     obtain ⟨hchw2, hfhw2, hzhw2⟩ := Bl.rules hw2; (try simp only [aZ, cZ, dZ, nZ] at hzhw2)
     cases bq
     ·go_wp2
      go_ret
      exact ⟨false, fun e => absurd e hne.out, fun h => (by cases h), rfl, bz⟩
     ·have hP2 := HD (hstep.out (hq.out rfl))
      have M2 := M.out.keep (show Bl wr w2 from bz)
      obtain ⟨bb, hbb⟩ := hf.out.get y.name
      have L : Sem.run Tryz.prog (Instr.lookup 157 (.map (some w.heap.size)) (.string y.name) false) w2 = .ok (.bool bb) w2 := by
       have := M2.lookup u157 u9 (zeroBool _) y.name false
       rw [hbb] at this
       exact this
      clear hbb
      have zw : w.heap.size < wr.heap.size := M.out.lt
      have zw2 : wr.heap.size < w2.heap.size := by omega
      cases bb
      ·obtain ⟨w3, hrun, M3, hO⟩ := M2.store u157 u9 y.name (.bool true)
       have hrun' : Sem.run Tryz.prog (Instr.mapUpdate 157 (.map (some w.heap.size)) (.string y.name) (.bool true)) w2 = .ok () w3 := hrun
       clear hrun
       have hB3 : Bl w w3 := Only.bl bz hO (Nat.le_refl _)
       have hM3 := HD M3
       have hf3 := HD (hf.out.upd y.name true)
       clear M2 M3 hO
       go_wp2_with fail
       go_roundg (xs.length - (kk + 1))
       case measure => omega
       case rel => exact ⟨kk + 1, _, by omega, by omega, by go_num, hB3, hM3.out, hf3.out, hP2.out⟩
      ·clear M2
       go_wp2
       go_ret
       exact ⟨false, fun e => absurd e hne.out, fun h => (by cases h), rfl, bz⟩
    ·have hltz : ¬ (kk : Int) < (xs.length : Int) := by omega
     have hall : Hid (∀ x ∈ xs, inR 0 1000 x.set = true) := fun x hx => by
      obtain ⟨j, hj, rfl⟩ := List.getElem_of_mem hx
      exact hP.out j hj (by omega)
     clear hrow
     go_wp2
     go_ret
     exact ⟨true, fun _ => rfl, fun _ => ⟨h40, hall.out⟩, rfl, BW.out⟩
 ·have h40' : 60 < xs.length := by omega
  have hs3 : Hid (xs ≠ []) := fun e => by rw [e] at h40'; simp at h40'
  clear hs
  show Calls Tryz.prog 49 #[.slice A xs.length c] w (RRuls xs w)
  go_enter Tryz.func49, Tryz.ntmps49
  go_wp2
  go_ret
  exact ⟨false, fun e => absurd e hs3, fun h => (by cases h), rfl, bz⟩
theorem flat1 {α : Type} (f : α -> Value) : ∀ l : List α, l.flatMap (fun x => [f x]) = l.map f
 | [] => rfl
 | x :: l => by simp [flat1 f l]
def Own1 {α : Type} (f : α -> Value) (e : TypeId) (base : Nat) (w : World) (s : Sl α) : Prop := w.ownsRow base e 1 s.val s.xs.length (s.xs.map f)
theorem Own1.own {α : Type} {f : α -> Value} {e : TypeId} {base : Nat} {w : World} {s : Sl α} (h : Own1 f e base w s) : Own (fun x => [f x]) 1 e base w s := by unfold Own; rw [flat1]; exact h
theorem Own1.of {α : Type} {f : α -> Value} {e : TypeId} {base : Nat} {w : World} {s : Sl α} (h : Own (fun x => [f x]) 1 e base w s) : Own1 f e base w s := by unfold Own at h; rw [flat1] at h; exact h
theorem Own1.ptr {α : Type} {f : α -> Value} {e : TypeId} {base : Nat} {w : World} {s : Sl α} (h : Own1 f e base w s) (hne : s.xs ≠ []) : ∃ g, s.A = some ⟨g, 0, none⟩ /\ base ≤ g /\ g < w.heap.size := by
 rcases h.2 with ⟨_, hn⟩ | ⟨g, cap, cur, hv, hb, hgw, _⟩
 ·exact absurd (List.eq_nil_of_length_eq_zero hn) hne
 ·refine ⟨g, ?_, hb, (Array.getElem?_eq_some_iff.1 hgw).1⟩
  have := hv
  simp only [Sl.val, Value.slice.injEq] at this
  exact this.1
theorem Own1.lt {α : Type} {f : α -> Value} {e : TypeId} {base : Nat} {w : World} {s : Sl α} (h : Own1 f e base w s) : ∀ g, s.val.ownBlock = some g -> base ≤ g /\ g < w.heap.size := World.ownsRow.lt h
theorem Own1.cell {α : Type} {f : α -> Value} {e : TypeId} {base g c : Nat} {w : World} {xs : List α} (h : Own1 f e base w ⟨some ⟨g, 0, none⟩, c, xs⟩) (k : Nat) (hk : k < xs.length) : w.cell? ⟨g, k, none⟩ = some (f xs[k]) := by
 have := World.ownsRow.cellAt h k (by simpa using hk)
 rw [this]; simp [hk]
theorem Own1.fro {α : Type} {f : α -> Value} {e : TypeId} {base g c : Nat} {w : World} {xs : List α} (h : Own1 f e base w ⟨some ⟨g, 0, none⟩, c, xs⟩) (k : Nat) : w.frozen? ⟨g, k, none⟩ = false := World.ownsRow.frozenAt h k
theorem Own1.set {α : Type} {f : α -> Value} {e : TypeId} {base g c : Nat} {w : World} {xs : List α} (h : Own1 f e base w ⟨some ⟨g, 0, none⟩, c, xs⟩) (k : Nat) (x : α) : Own1 f e base (w.setCell ⟨g, k, none⟩ (f x)) ⟨some ⟨g, 0, none⟩, c, xs.set k x⟩ := by
 have := (World.ownsRow.stored h k (f x)).1
 unfold Own1
 simp only [Sl.val, List.length_set, List.map_set]
 exact this
theorem Own1.other {α : Type} {f : α -> Value} {e : TypeId} {base : Nat} {w : World} {s : Sl α} (h : Own1 f e base w s) {a : Addr} (ha : s.val.ownBlock ≠ some a.block) (u : Value) : Own1 f e base (w.setCell a u) s := ownsRow_setCell_other h ha u
theorem Own1.bl {α : Type} {f : α -> Value} {e : TypeId} {base : Nat} {w w' : World} {s : Sl α} (h : Own1 f e base w s) (hb : Bl w w') : Own1 f e base w' s := Own1.of (Own.bl h.own hb)
theorem Own1.ok {α : Type} {f : α -> Value} {e : TypeId} {base : Nat} {w : World} {s : Sl α} {good : Nat -> World -> α -> Prop} (h : Own1 f e base w s) (hr : s.xs.length ≤ 140737488351232) (hg : ∀ x ∈ s.xs, good w.heap.size w x) : s.Ok (fun x => [f x]) 1 good w.heap.size w := Own.ok h.own (fun _ => rfl) hr hg
theorem Own1.nil {α : Type} {f : α -> Value} {e : TypeId} {base : Nat} {w : World} : Own1 f e base w (⟨none, 0, []⟩ : Sl α) := ⟨by simp, .inl ⟨rfl, rfl⟩⟩
theorem Own1.ofRow {α : Type} {f : α -> Value} {e : TypeId} {base : Nat} {w : World} {v : Value} {xs : List α} (h : w.ownsRow base e 1 v xs.length (xs.map f)) : ∃ s : Sl α, v = s.val /\ s.xs = xs /\ Own1 f e base w s := by
 have h' := h
 rcases h.2 with ⟨hv, hn⟩ | ⟨g, cap, cur, hv, rest⟩
 ·have hx := List.eq_nil_of_length_eq_zero hn
  subst hx
  exact ⟨⟨none, 0, []⟩, hv, rfl, Own1.nil⟩
 ·refine ⟨⟨some ⟨g, 0, none⟩, cap, xs⟩, hv, rfl, ?_⟩
  rw [hv] at h'
  exact h'
def IV (x : Int) : Value := .int .i64 x
def BV (x : Bool) : Value := .bool x
theorem f109_c (s : Sl Int) (w : World) (hs : InI w s) (hr : s.xs.length ≤ 1000000) : Calls Tryz.prog 109 #[s.val] w fun e w' => ∃ s' : Sl Int, e = .returned s'.val /\ s'.xs = s.xs /\ Own1 IV 3 w.heap.size w' s' /\ Bl w w' := by
 obtain ⟨A, c, xs⟩ := s
 simp only at hr
 by_cases h0 : xs = []
 ·subst h0
  cases A with
  | none =>
   refine (Tryz.slices_Clone_int_nil 0 c w).mono ?_
   rintro e w' ⟨rfl, rfl⟩
   exact ⟨⟨none, 0, []⟩, rfl, rfl, Own1.nil, Bl.refl _⟩
  | some a =>
   refine (Tryz.slices_Clone_int_zero a c w).mono ?_
   rintro e w' ⟨v, rfl, hv, _, hb⟩
   obtain ⟨s', rfl, hx, hO⟩ := Own1.ofRow (f := IV) (xs := []) hv
   exact ⟨s', rfl, hx, hO, hb⟩
 ·obtain ⟨b, off, hA, _, _, hc⟩ := hs.place h0
  simp only at hA hc
  subst hA
  refine (Tryz.slices_Clone_int b off xs.length c xs w (Nat.le_refl _) (by omega) (fun j hj => ?_)).mono ?_
  ·have := hc j hj 0 (.int .i64 xs[j]) rfl
   rw [Nat.mul_one] at this
   rw [List.getD_eq_getElem?_getD, List.getElem?_eq_getElem hj]
   exact this
  ·rintro e w' ⟨v, rfl, hv, _, hb⟩
   rw [List.take_length] at hv
   obtain ⟨s', rfl, hx, hO⟩ := Own1.ofRow (f := IV) hv
   exact ⟨s', rfl, hx, hO, hb⟩
theorem f154_0 (a : Addr) (c : Nat) (w : World) : Calls Tryz.prog 154 #[.slice (some a) 0 c] w fun e w' => ∃ s' : Sl Bool, e = .returned s'.val /\ s'.xs = [] /\ Own1 BV 4 w.heap.size w' s' /\ Bl w w' := by
 obtain ⟨i0, hi, hz0, hz1, hz2⟩ : ∃ i, Tryz.prog.info? 4 = some i /\ i.zero = some (.bool false) /\ i.size = 1 /\ i.bytes = 1 := info_of (by kernel_rfl)
 have t22 : Tryz.prog.underlying 29 = some (.slice 4) := by kernel_rfl
 have q22 : ∀ (w : World) (a : Option Addr) (n c n' c' : Nat), (binOp .eql 29 (.slice a n c) (.slice none n' c')).run Tryz.prog w = .ok (.bool a.isNone) w := fun w a n c n' c' => Lib.run_eql_slice_nil w _ _ a n c n' c' t22
 go_enter Tryz.func154, Tryz.ntmps154
 go_wp2_with (at_builtin; refine wpList_append_own _ rfl _ _ 29 rfl w.heap.size 4 i0 (.bool false) 1 1 t22 hi hz0 hz1 hz2 rfl (by decide) _ _ _ rfl (World.ownsRow_made w #[] 0 (Nat.le_refl _) (Nat.zero_le _) rfl) a 0 c [] rfl rfl (by intro j u hj; simp at hj) (by intro u hu; simp at hu) (by decide) (by decide) (by simp) ?_)
 intro v' w5 hown hgrow hnil
 go_wp2
 go_ret
 obtain ⟨s', rfl, hx, hO⟩ := Own1.ofRow (f := BV) (xs := []) (by simpa using hown)
 exact ⟨s', rfl, hx, hO, ((Below.refl _ w).alloc (Nat.le_refl _) _).grown hgrow (by simp) (by intro k hk; simp [Value.ownBlock] at hk; omega)⟩
theorem f154_c (s : Sl Bool) (w : World) (hs : InB w s) : Calls Tryz.prog 154 #[s.val] w fun e w' => ∃ s' : Sl Bool, e = .returned s'.val /\ s'.xs = s.xs /\ Own1 BV 4 w.heap.size w' s' /\ Bl w w' := by
 have hr := hs.room
 obtain ⟨A, c, xs⟩ := s
 simp only at hr
 by_cases hx : xs = []
 ·subst hx
  cases A with
  | none =>
   refine (Tryz.slices_Clone_nil_f154 0 c w).mono ?_
   rintro e w' ⟨rfl, rfl⟩
   exact ⟨⟨none, 0, []⟩, rfl, rfl, Own1.nil, Bl.refl _⟩
  | some a => exact f154_0 a c w
 ·obtain ⟨b, off, hA, _, _, hc⟩ := hs.place hx
  simp only at hA hc
  subst hA
  obtain ⟨i0, hi, hz0, hz1, hz2⟩ : ∃ i, Tryz.prog.info? 4 = some i /\ i.zero = some (.bool false) /\ i.size = 1 /\ i.bytes = 1 := info_of (by kernel_rfl)
  refine (Tryz.slices_Clone_f154 i0 (.bool false) 1 1 hi hz0 hz1 hz2 rfl (by decide) (fun w => Tryz.sizeOf4 w) b off xs.length c (xs.map BV) w (by simp) (by unfold maxLen; omega) (by omega) (fun j u hj => ?_) (fun u hu => ?_)).mono ?_
  ·rw [List.getElem?_map] at hj
   cases hjj : xs[j]? with
   | none => rw [hjj] at hj; cases hj
   | some x =>
    rw [hjj] at hj
    obtain ⟨hlt, rfl⟩ := List.getElem?_eq_some_iff.mp hjj
    have := hc j hlt 0 (.bool xs[j]) rfl
    rw [Nat.mul_one] at this
    simp only [Option.map_some, Option.some.injEq] at hj
    subst hj
    exact this
  ·rw [List.mem_map] at hu
   obtain ⟨x, _, rfl⟩ := hu
   rfl
  ·rintro e w' ⟨v, rfl, hv, _, hb⟩
   obtain ⟨s', rfl, hx, hO⟩ := Own1.ofRow (f := BV) hv
   exact ⟨s', rfl, hx, hO, hb⟩
theorem u144 : Tryz.prog.underlying 144 = some (.map 3 4) := by kernel_rfl
theorem u3 : Tryz.prog.underlying 3 = some KI.desc := by kernel_rfl
def RSet (m : Nat) (w : World) (e : Ending) (w' : World) : Prop := ∃ (s : Sl Int) (q : Int), e = .returned (.tuple #[s.val, .int .i64 q]) /\ (InI w' s /\ New w s) /\ (q = 0 -> s.xs.length = m /\ ∀ x ∈ s.xs, inR 0 1000 x = true) /\ Bl w w'
theorem RSet.no {m : Nat} {w w' : World} {q : Int} (hq : ¬ q = 0) (hb : Bl w w') : RSet m w (.returned (.tuple #[.slice none 0 0, .int .i64 q])) w' := ⟨⟨none, 0, []⟩, q, rfl, ⟨InI_nil _, New.nil⟩, fun h => absurd h hq, hb⟩
def linkMap (m : Nat) (f : ByteArray -> Option Value) : Prop := ∀ a, f a = none \/ ∃ k : Nat, k < m /\ f a = some (.int .i64 k)
theorem linkMap.get {m : Nat} {f : ByteArray -> Option Value} (h : linkMap m f) (a : ByteArray) (hs : (f a).isSome = true) : ∃ k : Nat, k < m /\ f a = some (.int .i64 k) := by
 rcases h a with e | e
 ·rw [e] at hs; cases hs
 ·exact e
theorem linkMap.two {m : Nat} {f : ByteArray -> Option Value} (h : linkMap m f) (a : ByteArray) : ∃ v : Int, (f a).getD (.int .i64 0) = .int .i64 v := by
 rcases h a with e | ⟨k, _, e⟩
 ·exact ⟨0, by rw [e]; rfl⟩
 ·exact ⟨k, by rw [e]; rfl⟩
theorem linkMap.upd {m : Nat} {f : ByteArray -> Option Value} (h : linkMap m f) (a : ByteArray) (k : Nat) (hk : k < m) : linkMap m (upd f a (.int .i64 k)) := fun c => by
 by_cases e : c = a
 ·subst e; exact .inr ⟨k, hk, upd_same _ _ _⟩
 ·rw [upd_ne _ _ _ e]; exact h c
theorem intMap.upd {f : ByteArray -> Option Value} (h : intMap f) (a : ByteArray) (v : Int) : intMap (upd f a (.int .i64 v)) := fun c => by
 by_cases e : c = a
 ·subst e; exact .inr ⟨v, upd_same _ _ _⟩
 ·rw [upd_ne _ _ _ e]; exact h c
theorem intMap.two {f : ByteArray -> Option Value} (h : intMap f) (a : ByteArray) : ∃ v : Int, (f a).getD (.int .i64 0) = .int .i64 v := ⟨_, h.get a⟩
def boolMapI (f : Int -> Option Value) : Prop := ∀ a, f a = none \/ ∃ b, f a = some (.bool b)
theorem boolMapI.get {f : Int -> Option Value} (h : boolMapI f) (a : Int) : ∃ b, (f a).getD (.bool false) = .bool b := by
 rcases h a with e | ⟨b, e⟩
 ·exact ⟨false, by rw [e]; rfl⟩
 ·exact ⟨b, by rw [e]; rfl⟩
theorem boolMapI.upd {f : Int -> Option Value} (h : boolMapI f) (a : Int) (b : Bool) : boolMapI (upd f a (.bool b)) := fun c => by
 by_cases e : c = a
 ·subst e; exact .inr ⟨b, upd_same _ _ _⟩
 ·rw [upd_ne _ _ _ e]; exact h c
theorem MapAt.setCell {κ : Type} {K : Keys κ} {w : World} {b : Nat} {f : κ -> Option Value} (h : MapAt K w b f) (a : Addr) (u : Value) (hne : b ≠ a.block) : MapAt K (w.setCell a u) b f := by
 obtain ⟨es, clock, hb, r⟩ := h
 exact ⟨es, clock, (Below.heap_setCell w a u b hne).trans hb, r⟩
theorem Own1.block {α : Type} {f : α -> Value} {e : TypeId} {base : Nat} {w w' : World} {s : Sl α} (h : Own1 f e base w s) (hb : ∀ g, s.val.ownBlock = some g -> w'.heap[g]? = w.heap[g]?) : Own1 f e base w' s := by
 refine ⟨h.1, h.2.imp id fun ⟨g, cap, cur, hv, hb', hgw, rest⟩ => ⟨g, cap, cur, hv, hb', ?_, rest⟩⟩
 rw [hb g (by rw [hv]; rfl)]; exact hgw
set_option maxHeartbeats 4000000 in
theorem f81_core (RA A A2 LA BA : Option Addr) (rc c c2 lc bc : Nat) (rs : List Rul) (xs : List Nd) (ls : List Lk) (lvs bs : List Int) (w : World) (NB : Bool)
 (hl : InRuls w ⟨RA, rc, rs⟩) (hs : InNet w ⟨⟨A, c, xs⟩, ⟨A2, c2, ls⟩⟩) (hv : InI w ⟨LA, lc, lvs⟩) (hbf : InI w ⟨BA, bc, bs⟩)
 (T54 : ∀ W, Bl w W -> Calls Tryz.prog 54 #[.agg #[.slice A xs.length c, .slice A2 ls.length c2]] W fun e w' => e = .returned (.bool NB) /\ Bl W w')
 (hL : NB = true -> xs.length ≤ 300 /\ ls.length ≤ 400) :
 Calls Tryz.prog 81 #[.slice RA rs.length rc, .agg #[.slice A xs.length c, .slice A2 ls.length c2], .slice LA lvs.length lc, .slice BA bs.length bc] w (RSet ls.length w) := by
 have hR := HD hl
 have hS := HD hs
 have hV := HD hv
 have hB := HD hbf
 have T49 := HD (fun W (hb : Bl w W) => f49_c ⟨RA, rc, rs⟩ W (InRuls.up hl hb))
 have T107 := HD (fun W (hb : Bl w W) => f107_c ⟨BA, bc, bs⟩ W.heap.size 108 #[] (fun s => !inR 0 1000 s) W (InI.up hbf hb) (fun W' y _ hb' => f108_c y W') e108)
 have T109 := HD (fun W (hb : Bl w W) => f109_c ⟨BA, bc, bs⟩ W (InI.up hbf hb))
 have T54 := HD T54
 have hr := hl.room
 have hmm := @run_makeMap Tryz.prog
 have hU := HD (And.intro u172 u9)
 have hU2 := HD (And.intro u144 u3)
 simp only at hr
 clear hl hs hv hbf
 go_enter Tryz.func81, Tryz.ntmps81
 go_wp2_with fail
 refine (T49.out _ bz).mono ?_
 rintro e w1 ⟨b0, _, hR0, rfl, hw1⟩
 have hR1 := HD hR0
 clear T49 hR0
 obtain ⟨hchw1, hfhw1, hzhw1⟩ := Bl.rules hw1; (try simp only [aZ, cZ, dZ, nZ] at hzhw1)
 have zv0 : w.heap.size < w1.heap.size := by omega
 cases b0
 case false =>
  go_wp2_with fail
  exact bodyPost_ret (v := .tuple #[.slice none 0 0, .int .i64 1]) (by simp [results, Tryz.results81, go_sem, *]; try exact ⟨rfl, rfl⟩) rfl (RSet.no (by omega) bz)
 go_wp2_with fail
 refine (T54.out _ bz).mono ?_
 rintro e w2 ⟨rfl, hw2⟩
 clear T54
 obtain ⟨hchw2, hfhw2, hzhw2⟩ := Bl.rules hw2; (try simp only [aZ, cZ, dZ, nZ] at hzhw2)
 have zy0 : w.heap.size < w2.heap.size := by omega
 cases hb : NB
 case false =>
  go_wp2_with fail
  exact bodyPost_ret (v := .tuple #[.slice none 0 0, .int .i64 1]) (by simp [results, Tryz.results81, go_sem, *]; try exact ⟨rfl, rfl⟩) rfl (RSet.no (by omega) bz)
 obtain ⟨hl1, hl2⟩ := hL hb
 by_cases hq1 : lvs.length = xs.length
 case neg =>
  have hq1b : ((lvs.length : Int) != (xs.length : Int)) = true := by simp; omega
  go_wp2_with fail
  exact bodyPost_ret (v := .tuple #[.slice none 0 0, .int .i64 3]) (by simp [results, Tryz.results81, go_sem, *]; try exact ⟨rfl, rfl⟩) rfl (RSet.no (by omega) bz)
 have hq1b : ((lvs.length : Int) != (xs.length : Int)) = false := by simp; omega
 by_cases hq2 : bs.length = ls.length
 case neg =>
  have hq2b : ((bs.length : Int) != (ls.length : Int)) = true := by simp; omega
  have hq1 := HD hq1
  go_wp2_with fail
  exact bodyPost_ret (v := .tuple #[.slice none 0 0, .int .i64 3]) (by simp [results, Tryz.results81, go_sem, *]; try exact ⟨rfl, rfl⟩) rfl (RSet.no (by omega) bz)
 have hq2b : ((bs.length : Int) != (ls.length : Int)) = false := by simp; omega
 have hq1h := HD hq1
 have hq2h := HD hq2
 clear hq1 hq2
 go_wp2_with fail
 refine (T107.out _ bz).mono ?_
 rintro e w3 ⟨rfl, hw3⟩
 clear T107
 obtain ⟨hchw3, hfhw3, hzhw3⟩ := Bl.rules hw3; (try simp only [aZ, cZ, dZ, nZ] at hzhw3)
 have zx0 : w.heap.size < w3.heap.size := by omega
 cases hst : bs.any (fun s => !inR 0 1000 s)
 case true =>
  go_wp2_with fail
  exact bodyPost_ret (v := .tuple #[.slice none 0 0, .int .i64 2]) (by simp [results, Tryz.results81, go_sem, *]; try exact ⟨rfl, rfl⟩) rfl (RSet.no (by omega) bz)
 have hst' : Hid (∀ x ∈ bs, inR 0 1000 x = true) := fun x hx => by
  have h := (List.any_eq_false.mp hst) x hx
  simpa using h
 have hB3 : Bl w w3 := bz
 have b0 : w3.cell? ⟨w.heap.size, 0, none⟩ = some (.slice A xs.length c) := by simp [go_sem, *]
 have b1 : w3.cell? ⟨w.heap.size, 1, none⟩ = some (.slice A2 ls.length c2) := by simp [go_sem, *]
 clear hw1 hchw1 hfhw1 hzhw1 hw2 hchw2 hfhw2 hzhw2 hw3 hchw3 hfhw3 hzhw3 zv0 zy0 hb hL hq1b hq2b hst
 have hBm : Bl w3 (w3.alloc (Obj.map #[] 0)) := bz
 go_wp2_with fail
 have M0 := MapAt.made KS w3
 have zm1 : w.heap.size ≤ w3.heap.size := by omega
 have zm1' : w.heap.size ≠ w3.heap.size := by omega
 go_loopg [60] xs.length (fun gg s60 wr => ∃ (kk : Nat) (f : ByteArray -> Option Value), kk ≤ xs.length /\ xs.length - kk ≤ gg /\ s60 = .int .i64 kk /\ Aside (Bl w wr) /\ Aside (wr.cell? ⟨w.heap.size, 0, none⟩ = some (.slice A xs.length c)) /\ Aside (wr.cell? ⟨w.heap.size, 1, none⟩ = some (.slice A2 ls.length c2)) /\ Aside (MapAt KS wr w3.heap.size f) /\ Aside (intMap f))
 case atStart => exact ⟨0, fun _ => none, Nat.zero_le _, by omega, rfl, hB3.trans hBm, aside (hBm.keep b0), aside (hBm.keep b1), M0, fun a => .inl rfl⟩
 case round =>
  obtain ⟨kk, f, hkk, hg, rfl, BW, C0, C1, M, hf⟩ := hrel
  clear M0 hB3 hBm b0 b1
  have BW' := BW.out
  have C0' := C0.out
  have C1' := C1.out
  clear BW C0 C1
  by_cases hlt : kk < xs.length
  ·have hltz : (kk : Int) < (xs.length : Int) := by omega
   have hkz : (0 : Int) ≤ (kk : Int) := by omega
   obtain ⟨b, off, hA, _, _, _⟩ := hS.out.nodes.place (by intro e; simp only at e; rw [e] at hlt; simp at hlt)
   simp only at hA
   subst hA
   have hc := Sl.Ok.cells hS.out.nodes rfl wr BW' kk hlt
   have hlv : kk < lvs.length := by have := hq1h.out; omega
   have hlvz : (kk : Int) < (lvs.length : Int) := by omega
   obtain ⟨b3, off3, hA3, _, _, _⟩ := hV.out.place (by intro e; simp only at e; rw [e] at hlv; simp at hlv)
   simp only at hA3
   subst hA3
   have hcv := HD (fun W (hb : Bl w W) => Sl.Ok.cells hV.out rfl W hb kk hlv 0 _ rfl)
   simp only at hc hcv
   generalize xs[kk] = y at hc
   generalize lvs[kk] = v at hcv
   have e0 : wr.cell? ⟨b, off + kk * 9, none⟩ = some (.string y.name) := hc 0 _ rfl
   have e1 : wr.cell? ⟨b, off + kk * 9 + 1, none⟩ = some (.int .i64 y.kind) := hc 1 _ rfl
   have e2 : wr.cell? ⟨b, off + kk * 9 + 2, none⟩ = some (.int .i64 y.px) := hc 2 _ rfl
   have e3 : wr.cell? ⟨b, off + kk * 9 + 3, none⟩ = some (.int .i64 y.py) := hc 3 _ rfl
   have e4 : wr.cell? ⟨b, off + kk * 9 + 4, none⟩ = some (.int .i64 y.inv) := hc 4 _ rfl
   have e5 : wr.cell? ⟨b, off + kk * 9 + 5, none⟩ = some (.int .i64 y.gnd) := hc 5 _ rfl
   have e6 : wr.cell? ⟨b, off + kk * 9 + 6, none⟩ = some (y.shape.val) := hc 6 _ rfl
   have e7 : wr.cell? ⟨b, off + kk * 9 + 7, none⟩ = some (.bool y.prot) := hc 7 _ rfl
   have e8 : wr.cell? ⟨b, off + kk * 9 + 8, none⟩ = some (.int .i64 y.res) := hc 8 _ rfl
   clear hc
   go_wp2_with fail
   have hB0 : Bl wr (wr.alloc (Obj.cells #[.string y.name, .int .i64 y.kind, .int .i64 y.px, .int .i64 y.py, .int .i64 y.inv, .int .i64 y.gnd, y.shape.val, .bool y.prot, .int .i64 y.res] 41)) := bz
   have p0 : ∀ z : Later (wr.alloc (Obj.cells #[.string y.name, .int .i64 y.kind, .int .i64 y.px, .int .i64 y.py, .int .i64 y.inv, .int .i64 y.gnd, y.shape.val, .bool y.prot, .int .i64 y.res] 41)), z.at'.cell? ⟨wr.heap.size, 0, none⟩ = some (.string y.name) := fun z => z.keep (by simp [go_sem])
   generalize (wr.alloc (Obj.cells #[.string y.name, .int .i64 y.kind, .int .i64 y.px, .int .i64 y.py, .int .i64 y.inv, .int .i64 y.gnd, y.shape.val, .bool y.prot, .int .i64 y.res] 41)) = W0 at *
   have hBW0 : Bl w W0 := Bl.trans BW' hB0
   have pv : ∀ z : Later W0, z.at'.cell? ⟨b3, off3 + kk, none⟩ = some (.int .i64 v) := fun z => by have := hcv.out z.at' (Bl.trans hBW0 z.bl); rwa [Nat.mul_one] at this
   clear e0 e1 e2 e3 e4 e5 e6 e7 e8
   refine wp_region_later_tail 7 (by kernel_rfl) (by kernel_rfl) ?_
   simp only [List.take_succ_cons, List.take_zero, List.drop_succ_cons, List.drop_zero]
   repeat (go_big_quiet_step (fail))
   refine wpQuiet_nil ?_
   intro w4 hB4
   have hBw4 : Bl wr w4 := Bl.trans hB0 hB4
   obtain ⟨w5, hrun, M5, hO⟩ := (M.out.keep hBw4).store hU.out.1 hU.out.2 y.name (.int .i64 v)
   have hrun' : Sem.run Tryz.prog (Instr.mapUpdate 172 (.map (some w3.heap.size)) (.string y.name) (.int .i64 v)) w4 = .ok () w5 := hrun
   clear hrun
   have hB5 : Bl w w5 := Only.bl (BW'.trans hBw4) hO zm1
   have d0 : w5.cell? ⟨w.heap.size, 0, none⟩ = some (.slice (some ⟨b, off, none⟩) xs.length c) := (hO.cell _ _ zm1').trans (hBw4.keep C0')
   have d1 : w5.cell? ⟨w.heap.size, 1, none⟩ = some (.slice A2 ls.length c2) := (hO.cell _ _ zm1').trans (hBw4.keep C1')
   have hM5 := HD M5
   have hf5 := HD (hf.out.upd y.name v)
   clear M5 hO p0 pv
   go_wp2_with fail
   go_roundg (xs.length - (kk + 1))
   case measure => omega
   case rel => exact ⟨kk + 1, _, by omega, by omega, by go_num, hB5, aside d0, aside d1, hM5.out, hf5.out⟩
  ·have hltz : ¬ (kk : Int) < (xs.length : Int) := by omega
   clear hkk hg hlt
   have M0 := M.out
   have hf1 := HD hf.out
   clear M hf
   have zr1 : w3.heap.size < wr.heap.size := M0.lt
   have zr0 : w.heap.size < wr.heap.size := by omega
   have hBm : Bl wr (wr.alloc (Obj.map #[] 0)) := bz
   go_wp2_with fail
   obtain ⟨wo, rfl⟩ : ∃ wo : World, wo = wr := ⟨_, rfl⟩
   have zm2 : w.heap.size ≤ wo.heap.size := by omega
   have zm2' : w.heap.size ≠ wo.heap.size := by omega
   have zm12 : w3.heap.size ≠ wo.heap.size := by omega
   go_loopg [77] ls.length (fun gg s77 wr => ∃ (kk : Nat) (g : ByteArray -> Option Value), kk ≤ ls.length /\ ls.length - kk ≤ gg /\ s77 = .int .i64 kk /\ Aside (Bl w wr) /\ Aside (MapAt KS wr w3.heap.size f) /\ Aside (MapAt KS wr wo.heap.size g) /\ Aside (linkMap ls.length g))
   case atStart => exact ⟨0, fun _ => none, Nat.zero_le _, by omega, rfl, BW'.trans hBm, M0.keep hBm, MapAt.made KS wo, fun a => .inl rfl⟩
   case round =>
    clear M0 hBm BW' C0' C1'
    obtain ⟨kk, g, hkk, hg, rfl, BW, M, M2, hgl⟩ := hrel
    have BW' := BW.out
    clear BW
    by_cases hlt : kk < ls.length
    ·have hltz : (kk : Int) < (ls.length : Int) := by omega
     have hkz : (0 : Int) ≤ (kk : Int) := by omega
     obtain ⟨b, off, hA, _, _, _⟩ := hS.out.links.place (by intro e; simp only at e; rw [e] at hlt; simp at hlt)
     simp only at hA
     subst hA
     have hc := Sl.Ok.cells hS.out.links rfl wr BW' kk hlt
     simp only at hc
     generalize ls[kk] = y at hc
     have e0 : wr.cell? ⟨b, off + kk * 11, none⟩ = some (.string y.name) := hc 0 _ rfl
     have e1 : wr.cell? ⟨b, off + kk * 11 + 1, none⟩ = some (.string y.src) := hc 1 _ rfl
     have e2 : wr.cell? ⟨b, off + kk * 11 + 2, none⟩ = some (.string y.dst) := hc 2 _ rfl
     have e3 : wr.cell? ⟨b, off + kk * 11 + 3, none⟩ = some (.int .i64 y.kind) := hc 3 _ rfl
     have e4 : wr.cell? ⟨b, off + kk * 11 + 4, none⟩ = some (.int .i64 y.len) := hc 4 _ rfl
     have e5 : wr.cell? ⟨b, off + kk * 11 + 5, none⟩ = some (.int .i64 y.up) := hc 5 _ rfl
     have e6 : wr.cell? ⟨b, off + kk * 11 + 6, none⟩ = some (.int .i64 y.down) := hc 6 _ rfl
     have e7 : wr.cell? ⟨b, off + kk * 11 + 7, none⟩ = some (.string y.sec) := hc 7 _ rfl
     have e8 : wr.cell? ⟨b, off + kk * 11 + 8, none⟩ = some (.int .i64 y.wid) := hc 8 _ rfl
     have e9 : wr.cell? ⟨b, off + kk * 11 + 9, none⟩ = some (.int .i64 y.hgt) := hc 9 _ rfl
     have e10 : wr.cell? ⟨b, off + kk * 11 + 10, none⟩ = some (y.curve.val) := hc 10 _ rfl
     clear hc
     have hBw4 : Bl wr (wr.alloc (Obj.cells #[.string y.name, .string y.src, .string y.dst, .int .i64 y.kind, .int .i64 y.len, .int .i64 y.up, .int .i64 y.down, .string y.sec, .int .i64 y.wid, .int .i64 y.hgt, y.curve.val] 45)) := bz
     obtain ⟨w5, hrun, M5, hO⟩ := (M2.out.keep hBw4).store hU.out.1 hU.out.2 y.name (.int .i64 kk)
     have hrun' : Sem.run Tryz.prog (Instr.mapUpdate 172 (.map (some wo.heap.size)) (.string y.name) (.int .i64 kk)) (wr.alloc (Obj.cells #[.string y.name, .string y.src, .string y.dst, .int .i64 y.kind, .int .i64 y.len, .int .i64 y.up, .int .i64 y.down, .string y.sec, .int .i64 y.wid, .int .i64 y.hgt, y.curve.val] 45)) = .ok () w5 := hrun
     clear hrun
     have hB5 : Bl w w5 := Only.bl (BW'.trans hBw4) hO zm2
     have hM1 := HD ((M.out.keep hBw4).only hO zm12)
     have hM5 := HD M5
     have hg5 := HD (hgl.out.upd y.name kk hlt)
     clear M5 hO hBw4
     go_wp2_with fail
     go_roundg (ls.length - (kk + 1))
     case measure => omega
     case rel => exact ⟨kk + 1, _, by omega, by omega, by go_num, hB5, hM1.out, hM5.out, hg5.out⟩
    ·have hltz : ¬ (kk : Int) < (ls.length : Int) := by omega
     clear hkk hg hlt
     have M1 := M.out
     have M2' := M2.out
     have hgl' := HD hgl.out
     clear M M2 hgl
     go_wp2_with fail
     obtain ⟨wp, rfl⟩ : ∃ wp : World, wp = wr := ⟨_, rfl⟩
     go_loopg [89] rs.length (fun gg s89 wr => ∃ (kk : Nat), kk ≤ rs.length /\ rs.length - kk ≤ gg /\ s89 = .int .i64 kk /\ Aside (Bl w wr) /\ Aside (MapAt KS wr w3.heap.size f) /\ Aside (MapAt KS wr wo.heap.size g) /\ Aside (∀ j (h : j < rs.length), j < kk -> (g rs[j].link).isSome = true))
     case atStart => exact ⟨0, Nat.zero_le _, by omega, rfl, BW', M1, M2', aside (fun j _ h => absurd h (by omega))⟩
     case round =>
      clear M1 M2' BW'
      obtain ⟨kk, hkk, hg, rfl, BW, M, M2, hP⟩ := hrel
      have BW' := BW.out
      clear BW
      by_cases hlt : kk < rs.length
      ·have hltz : (kk : Int) < (rs.length : Int) := by omega
       have hkz : (0 : Int) ≤ (kk : Int) := by omega
       obtain ⟨b, off, hA, _, _, _⟩ := hR.out.place (by intro e; simp only at e; rw [e] at hlt; simp at hlt)
       simp only at hA
       subst hA
       have hc := Sl.Ok.cells hR.out rfl wr BW' kk hlt
       have hgood := HD (fun W (hb : Bl w W) => (InRuls.up hR.out hb).each rs[kk] (List.getElem_mem _))
       have hstep : Hid ((g rs[kk].link).isSome = true -> ∀ j (h : j < rs.length), j < kk + 1 -> (g rs[j].link).isSome = true) := fun h j hj hk => by
        rcases Nat.lt_or_ge j kk with h1 | h1
        ·exact hP.out j hj h1
        ·have : j = kk := by omega
         subst this; exact h
       simp only at hc
       generalize rs[kk] = y at hc hgood hstep
       obtain ⟨yn, ⟨CA, cc, cds⟩, yl, ys⟩ := y
       have hroomc := (hgood.out w (Bl.refl w)).room
       simp only at hroomc hc hstep
       have e0 : wr.cell? ⟨b, off + kk * 4, none⟩ = some (.string yn) := hc 0 _ rfl
       have e1 : wr.cell? ⟨b, off + kk * 4 + 1, none⟩ = some (.slice CA cds.length cc) := hc 1 _ rfl
       have e2 : wr.cell? ⟨b, off + kk * 4 + 2, none⟩ = some (.string yl) := hc 2 _ rfl
       have e3 : wr.cell? ⟨b, off + kk * 4 + 3, none⟩ = some (.int .i64 ys) := hc 3 _ rfl
       clear hc
       have hBw4 : Bl wr (wr.alloc (Obj.cells #[.string yn, .slice CA cds.length cc, .string yl, .int .i64 ys] 50)) := bz
       obtain ⟨v2, hv2⟩ := hgl'.out.two yl
       obtain ⟨bb, hbb⟩ : ∃ bb, bb = (g yl).isSome := ⟨_, rfl⟩
       have L : Sem.run Tryz.prog (Instr.lookup 172 (.map (some wo.heap.size)) (.string yl) true) (wr.alloc (Obj.cells #[.string yn, .slice CA cds.length cc, .string yl, .int .i64 ys] 50)) = .ok (.tuple #[.int .i64 v2, .bool bb]) (wr.alloc (Obj.cells #[.string yn, .slice CA cds.length cc, .string yl, .int .i64 ys] 50)) := by
        have := (M2.out.keep hBw4).lookup hU.out.1 hU.out.2 (zeroInt _) yl true
        rw [hv2, <- hbb] at this
        exact this
       have hbbh := HD hbb
       clear hv2 hbb
       go_wp2_with fail
       have hBw4' : Bl w (wr.alloc (Obj.cells #[.string yn, .slice CA cds.length cc, .string yl, .int .i64 ys] 50)) := BW'.trans hBw4
       have hM1 := HD (M.out.keep hBw4)
       have hM2 := HD (M2.out.keep hBw4)
       clear M M2 e0 e1 e2 e3 L hBw4 BW'
       obtain ⟨wq, rfl⟩ : ∃ wq : World, wq = wr := ⟨_, rfl⟩
       go_loopg [19, 103] cds.length (fun gg s19 s103 wr => ∃ (k2 : Nat) (b2 : Bool), k2 ≤ cds.length /\ cds.length - k2 ≤ gg /\ s103 = .int .i64 k2 /\ s19 = .bool b2 /\ Aside (b2 = true -> (g yl).isSome = true) /\ Aside (Bl w wr) /\ Aside (MapAt KS wr w3.heap.size f) /\ Aside (MapAt KS wr wo.heap.size g))
       case atStart => exact ⟨0, bb, Nat.zero_le _, by omega, rfl, rfl, aside (fun h => hbbh.out ▸ h), hBw4', hM1.out, hM2.out⟩
       case round =>
        clear hM1 hM2 hBw4' hbbh
        obtain ⟨k2, b2, hk2, hg2, rfl, rfl, hb2, BW, M, M2⟩ := hrel
        have BW' := BW.out
        clear BW
        by_cases hlt2 : k2 < cds.length
        ·have hltz2 : (k2 : Int) < (cds.length : Int) := by omega
         have hkz2 : (0 : Int) ≤ (k2 : Int) := by omega
         obtain ⟨b5, off5, hA5, _, _, _⟩ := (hgood.out w (Bl.refl w)).place (by intro e; simp only at e; rw [e] at hlt2; simp at hlt2)
         simp only at hA5
         subst hA5
         have hc := Sl.Ok.cells (hgood.out w (Bl.refl w)) rfl wr BW' k2 hlt2
         simp only at hc
         generalize cds[k2] = z at hc
         have e0 : wr.cell? ⟨b5, off5 + k2 * 3, none⟩ = some (.string z.node) := hc 0 _ rfl
         have e1 : wr.cell? ⟨b5, off5 + k2 * 3 + 1, none⟩ = some (.bool z.below) := hc 1 _ rfl
         have e2 : wr.cell? ⟨b5, off5 + k2 * 3 + 2, none⟩ = some (.int .i64 z.level) := hc 2 _ rfl
         clear hc
         have hBw5 : Bl wr (wr.alloc (Obj.cells #[.string z.node, .bool z.below, .int .i64 z.level] 184)) := bz
         obtain ⟨v2, hv2⟩ := hf1.out.two z.node
         obtain ⟨b3, hb3⟩ : ∃ b3, b3 = (f z.node).isSome := ⟨_, rfl⟩
         have L : Sem.run Tryz.prog (Instr.lookup 172 (.map (some w3.heap.size)) (.string z.node) true) (wr.alloc (Obj.cells #[.string z.node, .bool z.below, .int .i64 z.level] 184)) = .ok (.tuple #[.int .i64 v2, .bool b3]) (wr.alloc (Obj.cells #[.string z.node, .bool z.below, .int .i64 z.level] 184)) := by
          have := (M.out.keep hBw5).lookup hU.out.1 hU.out.2 (zeroInt _) z.node true
          rw [hv2, <- hb3] at this
          exact this
         clear hv2 hb3
         have hB5 := BW'.trans hBw5
         have hM1 := HD (M.out.keep hBw5)
         have hM2 := HD (M2.out.keep hBw5)
         have hb22 := HD hb2.out
         clear M M2 hBw5 hb2
         cases b2
         ·go_wp2_with fail
          go_roundg (cds.length - (k2 + 1))
          case measure => omega
          case rel => exact ⟨k2 + 1, false, by omega, by omega, by go_num, rfl, hb22.out, hB5, hM1.out, hM2.out⟩
         ·go_wp2_with fail
          go_roundg (cds.length - (k2 + 1))
          case measure => omega
          case rel => exact ⟨k2 + 1, b3, by omega, by omega, by go_num, rfl, aside (fun _ => (by first | exact hb22.out trivial | exact hb22.out rfl)), hB5, hM1.out, hM2.out⟩
        ·have hltz2 : ¬ (k2 : Int) < (cds.length : Int) := by omega
         cases b2
         ·go_wp2_with fail
          exact bodyPost_ret (v := .tuple #[.slice none 0 0, .int .i64 9]) (by simp [results, Tryz.results81, go_sem, *]; try exact ⟨rfl, rfl⟩) rfl (RSet.no (by omega) BW')
         ·go_wp2_with fail
          go_roundg (rs.length - (kk + 1))
          case measure => omega
          case rel => exact ⟨kk + 1, by omega, by omega, by go_num, BW', M.out, M2.out, aside (hstep.out (by first | exact hb2.out trivial | exact hb2.out rfl))⟩
      ·have hltz : ¬ (kk : Int) < (rs.length : Int) := by omega
       have hall : Hid (∀ j (h : j < rs.length), (g rs[j].link).isSome = true) := fun j h => hP.out j h (by omega)
       clear hkk hg hlt hP
       have M1 := M.out
       have M2' := M2.out
       clear M M2
       go_wp2_with fail
       obtain ⟨wq, rfl⟩ : ∃ wq : World, wq = wr := ⟨_, rfl⟩
       refine (T109.out _ BW' (by have := hq2h.out; show bs.length ≤ 1000000; omega)).mono ?_
       rintro e w6 ⟨⟨OA, oc, oxs⟩, he, hx, hO, hw6⟩
       obtain rfl : e = .returned (.slice OA oxs.length oc) := he
       simp only at hx
       subst hx
       have hB6 : Bl w w6 := BW'.trans hw6
       have hBm : Bl w6 (w6.alloc (Obj.map #[] 0)) := bz
       have zq3 : w3.heap.size < wq.heap.size := M1.lt
       have zqo : wo.heap.size < wq.heap.size := M2'.lt
       have zq6 : wq.heap.size ≤ w6.heap.size := hw6.size
       have hOlt := HD (fun (g0 : Nat) (h1 : OA = some ⟨g0, 0, none⟩) (h2 : oxs ≠ []) => show g0 < w6.heap.size from by
        obtain ⟨g, h3, _, h4⟩ := hO.ptr h2
        simp only at h3
        rw [h1] at h3
        simp only [Option.some.injEq, Addr.mk.injEq, and_true] at h3
        omega)
       have hO' := HD (hO.bl hBm)
       have hM1 := HD ((M1.keep hw6).keep hBm)
       have hM2 := HD ((M2'.keep hw6).keep hBm)
       have hB6m := hB6.trans hBm
       clear T109 hO M1 M2' BW' hw6 hB6 hBm
       go_wp2_with fail
       go_loopg [127] rs.length (fun gg s127 wr => ∃ (kk : Nat) (os : List Int) (h : Int -> Option Value), kk ≤ rs.length /\ rs.length - kk ≤ gg /\ s127 = .int .i64 kk /\ Aside (Bl w wr) /\ Aside (MapAt KS wr w3.heap.size f) /\ Aside (MapAt KS wr wo.heap.size g) /\ Aside (MapAt KI wr w6.heap.size h) /\ Aside (boolMapI h) /\ Aside (Own1 IV 3 wq.heap.size wr ⟨OA, oc, os⟩) /\ Aside (os.length = oxs.length) /\ Aside (∀ x ∈ os, inR 0 1000 x = true))
       case atStart => exact ⟨0, oxs, fun _ => none, Nat.zero_le _, by omega, rfl, hB6m, hM1.out, hM2.out, MapAt.made KI w6, fun a => .inl rfl, hO'.out, rfl, hst'.out⟩
       case round =>
        clear hB6m hM1 hM2 hO' hst'
        obtain ⟨kk, os, h, hkk, hg, rfl, BW, M, M2, M3, hh, OW, OL, OP⟩ := hrel
        have BW' := BW.out
        clear BW
        by_cases hlt : kk < rs.length
        ·have hltz : (kk : Int) < (rs.length : Int) := by omega
         have hkz : (0 : Int) ≤ (kk : Int) := by omega
         obtain ⟨b, off, hA, _, _, _⟩ := hR.out.place (by intro e; simp only at e; rw [e] at hlt; simp at hlt)
         simp only at hA
         subst hA
         have hc := Sl.Ok.cells hR.out rfl wr BW' kk hlt
         have hgood := HD (fun W (hb : Bl w W) => (InRuls.up hR.out hb).each rs[kk] (List.getElem_mem _))
         have hset := HD ((hR1.out (by first | trivial | rfl)).2 rs[kk] (List.getElem_mem _))
         have hsome := HD (hall.out kk hlt)
         simp only at hc hset
         generalize rs[kk] = y at hc hgood hsome hset
         have e0 : wr.cell? ⟨b, off + kk * 4, none⟩ = some (.string y.name) := hc 0 _ rfl
         have e1 : wr.cell? ⟨b, off + kk * 4 + 1, none⟩ = some (y.cond.val) := hc 1 _ rfl
         have e2 : wr.cell? ⟨b, off + kk * 4 + 2, none⟩ = some (.string y.link) := hc 2 _ rfl
         have e3 : wr.cell? ⟨b, off + kk * 4 + 3, none⟩ = some (.int .i64 y.set) := hc 3 _ rfl
         clear hc
         have zw6 : w6.heap.size < wr.heap.size := M3.out.lt
         have hBw4 : Bl wr (wr.alloc (Obj.cells #[.string y.name, y.cond.val, .string y.link, .int .i64 y.set] 50)) := bz
         have T110 := HD (fun W (hb : Bl wr W) => f110_c y w3.heap.size f W (hgood.out W (BW'.trans hb)) (M.out.keep hb) hf1.out)
         go_wp2_with fail
         refine (T110.out _ hBw4).mono ?_
         rintro e w7 ⟨bq, rfl, hw7⟩
         clear T110
         have hB7 : Bl wr w7 := hBw4.trans hw7
         have hB7w : Bl w w7 := BW'.trans hB7
         have r2 : w7.cell? ⟨wr.heap.size, 2, none⟩ = some (.string y.link) := hw7.keep (by simp [go_sem])
         have r3 : w7.cell? ⟨wr.heap.size, 3, none⟩ = some (.int .i64 y.set) := hw7.keep (by simp [go_sem])
         have M7 := HD (M.out.keep hB7)
         have M72 := HD (M2.out.keep hB7)
         have M73 := M3.out.keep hB7
         have O7 := OW.out.bl hB7
         have hh' := HD hh.out
         have zz7 : wr.heap.size < w7.heap.size := by have := hw7.size; simp at this; omega
         clear e0 e1 e2 e3 M M2 M3 OW hBw4 hw7 hh
         cases bq
         ·have M73 := HD M73
          have O7 := HD O7
          go_wp2_with fail
          go_roundg (rs.length - (kk + 1))
          case measure => omega
          case rel => exact ⟨kk + 1, os, h, by omega, by omega, by go_num, hB7w, M7.out, M72.out, M73.out, hh'.out, O7.out, OL.out, OP.out⟩
         ·obtain ⟨k, hk, hgk⟩ := hgl'.out.get y.link hsome.out
          have L : Sem.run Tryz.prog (Instr.lookup 172 (.map (some wo.heap.size)) (.string y.link) false) w7 = .ok (.int .i64 k) w7 := by
           have := M72.out.lookup hU.out.1 hU.out.2 (zeroInt _) y.link false
           rw [hgk] at this
           exact this
          have hkb : k < oxs.length := by have := hq2h.out; omega
          have hko : k < os.length := by have := OL.out; omega
          have hkbz : (k : Int) < (oxs.length : Int) := by omega
          have hk0 : (0 : Int) ≤ (k : Int) := by omega
          obtain ⟨g0, hgA, hg0, hg1⟩ := O7.ptr (by intro e; simp only at e; rw [e] at hko; simp at hko)
          simp only at hgA
          subst hgA
          have hv0 := O7.cell k hko
          have hfr := O7.fro k
          obtain ⟨v0, hvv⟩ : ∃ v0, v0 = os[k] := ⟨_, rfl⟩
          rw [<- hvv] at hv0
          have hv1 : w7.cell? ⟨g0, k, none⟩ = some (.int .i64 v0) := hv0
          obtain ⟨b4, hb4⟩ := hh'.out.get (k : Int)
          have pl : ∀ z : Later w7, Sem.run Tryz.prog (Instr.lookup 144 (.map (some w6.heap.size)) (.int .i64 k) false) z.at' = .ok (.bool b4) z.at' := fun z => by
           have := (M73.keep z.bl).lookup hU2.out.1 hU2.out.2 (zeroBool _) (k : Int) false
           rw [hb4] at this
           exact this
          have p0 : ∀ z : Later w7, z.at'.cell? ⟨g0, k, none⟩ = some (.int .i64 v0) := fun z => z.keep hv1
          have p1 : ∀ z : Later w7, z.at'.cell? ⟨wr.heap.size, 3, none⟩ = some (.int .i64 y.set) := fun z => z.keep r3
          have O7h := HD O7
          have M73h := HD M73
          have hg0h := hOlt.out g0 rfl (by intro e; rw [e] at hkb; simp at hkb)
          clear hgk hv0 hvv hb4 O7 M73
          go_wp2_with fail
          by_cases hvq : v0 = y.set
          case neg =>
           have hvb : (v0 != y.set) = true := by simpa using hvq
           cases b4
           all_goals
            refine wp_region_later (by kernel_rfl) (by kernel_rfl) ?_
            repeat (go_big_quiet_step (fail))
            refine wpQuiet_nil ?_
            intro w8 hB78
           case true =>
            have hB8w : Bl w w8 := hB7w.trans hB78
            go_wp2_with fail
            exact bodyPost_ret (v := .tuple #[.slice none 0 0, .int .i64 26]) (by simp [results, Tryz.results81, go_sem, *]; try exact ⟨rfl, rfl⟩) rfl (RSet.no (by omega) hB8w)
           case false =>
            have hB8 : Bl wr w8 := hB7.trans hB78
            have hB8w : Bl w w8 := BW'.trans hB8
            have O8 := O7h.out.bl hB78
            have c0 : w8.cell? ⟨g0, k, none⟩ = some (.int .i64 v0) := hB78.keep hv1
            have c1 : w8.frozen? ⟨g0, k, none⟩ = false := O8.fro k
            have c2 : w8.cell? ⟨wr.heap.size, 3, none⟩ = some (.int .i64 y.set) := hB78.keep r3
            have O9 := HD (O8.set k y.set)
            have M93 := (M73h.out.keep hB78).setCell ⟨g0, k, none⟩ (.int .i64 y.set) (by simp only; omega)
            obtain ⟨w9, hrun, M9, hQ⟩ := M93.store hU2.out.1 hU2.out.2 (k : Int) (.bool true)
            have hrun' : Sem.run Tryz.prog (Instr.mapUpdate 144 (.map (some w6.heap.size)) (.int .i64 k) (.bool true)) (w8.setCell ⟨g0, k, none⟩ (.int .i64 y.set)) = .ok () w9 := hrun
            have hB9 : Bl w w9 := Only.bl (Bl.setCell hB8w (by simp only; omega) _) hQ (by omega)
            have hM1 := HD (((M7.out.keep hB78).setCell ⟨g0, k, none⟩ (.int .i64 y.set) (by simp only; omega)).only hQ (by omega))
            have hM2 := HD (((M72.out.keep hB78).setCell ⟨g0, k, none⟩ (.int .i64 y.set) (by simp only; omega)).only hQ (by omega))
            have hM3 := HD M9
            have hh9 := HD (hh'.out.upd (k : Int) true)
            have hO9 := HD (Own1.block O9.out (w' := w9) (fun g hg => hQ.block g (by simp [Value.ownBlock] at hg; omega)))
            have hL9 := HD (show (os.set k y.set).length = oxs.length by rw [List.length_set]; exact OL.out)
            have hP9 : Hid (∀ x ∈ os.set k y.set, inR 0 1000 x = true) := fun x hx => by
             rcases List.mem_or_eq_of_mem_set hx with h1 | h1
             ·exact OP.out x h1
             ·rw [h1]; exact hset.out
            clear hrun M93 M9 hQ O8 pl p0 p1
            go_wp2_with fail
            go_roundg (rs.length - (kk + 1))
            case measure => omega
            case rel => exact ⟨kk + 1, _, _, by omega, by omega, by go_num, hB9, hM1.out, hM2.out, hM3.out, hh9.out, hO9.out, hL9.out, hP9.out⟩
          case pos =>
           have hvb : (v0 != y.set) = false := by simpa using hvq
           clear hvq
           cases b4
           all_goals
            refine wp_region_later (by kernel_rfl) (by kernel_rfl) ?_
            repeat (go_big_quiet_step (fail))
            refine wpQuiet_nil ?_
            intro w8 hB78
            have hB8 : Bl wr w8 := hB7.trans hB78
            have hB8w : Bl w w8 := BW'.trans hB8
            have O8 := O7h.out.bl hB78
            have c0 : w8.cell? ⟨g0, k, none⟩ = some (.int .i64 v0) := hB78.keep hv1
            have c1 : w8.frozen? ⟨g0, k, none⟩ = false := O8.fro k
            have c2 : w8.cell? ⟨wr.heap.size, 3, none⟩ = some (.int .i64 y.set) := hB78.keep r3
            have O9 := HD (O8.set k y.set)
            have M93 := (M73h.out.keep hB78).setCell ⟨g0, k, none⟩ (.int .i64 y.set) (by simp only; omega)
            obtain ⟨w9, hrun, M9, hQ⟩ := M93.store hU2.out.1 hU2.out.2 (k : Int) (.bool true)
            have hrun' : Sem.run Tryz.prog (Instr.mapUpdate 144 (.map (some w6.heap.size)) (.int .i64 k) (.bool true)) (w8.setCell ⟨g0, k, none⟩ (.int .i64 y.set)) = .ok () w9 := hrun
            have hB9 : Bl w w9 := Only.bl (Bl.setCell hB8w (by simp only; omega) _) hQ (by omega)
            have hM1 := HD (((M7.out.keep hB78).setCell ⟨g0, k, none⟩ (.int .i64 y.set) (by simp only; omega)).only hQ (by omega))
            have hM2 := HD (((M72.out.keep hB78).setCell ⟨g0, k, none⟩ (.int .i64 y.set) (by simp only; omega)).only hQ (by omega))
            have hM3 := HD M9
            have hh9 := HD (hh'.out.upd (k : Int) true)
            have hO9 := HD (Own1.block O9.out (w' := w9) (fun g hg => hQ.block g (by simp [Value.ownBlock] at hg; omega)))
            have hL9 := HD (show (os.set k y.set).length = oxs.length by rw [List.length_set]; exact OL.out)
            have hP9 : Hid (∀ x ∈ os.set k y.set, inR 0 1000 x = true) := fun x hx => by
             rcases List.mem_or_eq_of_mem_set hx with h1 | h1
             ·exact OP.out x h1
             ·rw [h1]; exact hset.out
            clear hrun M93 M9 hQ O8 pl p0 p1
            go_wp2_with fail
            go_roundg (rs.length - (kk + 1))
            case measure => omega
            case rel => exact ⟨kk + 1, _, _, by omega, by omega, by go_num, hB9, hM1.out, hM2.out, hM3.out, hh9.out, hO9.out, hL9.out, hP9.out⟩
        ·have hltz : ¬ (kk : Int) < (rs.length : Int) := by omega
         go_wp2_with fail
         have hlen : os.length = oxs.length := OL.out
         rw [<- hlen]
         exact bodyPost_ret (v := .tuple #[.slice OA os.length oc, .int .i64 0]) (by simp [results, Tryz.results81, go_sem, *]; try exact ⟨rfl, rfl⟩) rfl ⟨⟨OA, oc, os⟩, 0, rfl, ⟨Own1.ok OW.out (by have := OL.out; have := hq2h.out; simp only; omega) (fun _ _ => trivial), fun g hg => by have := (OW.out.lt g hg).1; omega⟩, fun _ => ⟨by have := hq2h.out; simp only; omega, OP.out⟩, BW'⟩
theorem f81_c (l : Sl Rul) (n : Net) (lv bf : Sl Int) (w : World) (hl : InRuls w l) (hs : InNet w n) (hv : InI w lv) (hb : InI w bf) : Calls Tryz.prog 81 #[l.val, n.val, lv.val, bf.val] w (RSet n.links.xs.length w) := by
 obtain ⟨RA, rc, rs⟩ := l
 obtain ⟨⟨A, c, xs⟩, ⟨A2, c2, ls⟩⟩ := n
 obtain ⟨LA, lc, lvs⟩ := lv
 obtain ⟨BA, bc, bs⟩ := bf
 exact f81_core RA A A2 LA BA rc c c2 lc bc rs xs ls lvs bs w (netB ⟨⟨A, c, xs⟩, ⟨A2, c2, ls⟩⟩) hl hs hv hb (fun W h => f54_c _ W (InNet.up hs h)) (fun h => ⟨((netB_iff _).mp h).1, ((netB_iff _).mp h).2.1⟩)
def RBl (w : World) (e : Ending) (w' : World) : Prop := ∃ b, e = .returned (.bool b) /\ Bl w w'
def RBif (Q : Prop) (w : World) (e : Ending) (w' : World) : Prop := ∃ b, e = .returned (.bool b) /\ (b = true -> Q) /\ Bl w w'
def RInts (base : World) (n : Nat) (f : Nat -> Int) (w : World) (e : Ending) (w' : World) : Prop := ∃ s' : Sl Int, e = .returned s'.val /\ s'.xs.length = n /\ (∀ i, i < n -> s'.xs[i]! = f i) /\ Own1 IV 3 base.heap.size w' s' /\ Bl w w'
theorem f112_c (n : Net) (l : Sl Sec) (s : St) (w : World) (hs : InNet w n) (hl : InSecs w l) (ht : InSt w s) : Calls Tryz.prog 112 #[n.val, l.val, s.val] w (RBif (stateB n s = true) w) := by
 have T48 := HD (fun W (hb : Bl w W) => f48_c l W (InSecs.up hl hb))
 have T50 := HD (fun W (hb : Bl w W) => f50_c n s W (InNet.up hs hb) (InSt.up ht hb))
 clear hs hl ht
 go_enter Tryz.func112, Tryz.ntmps112
 go_wp2_with fail
 refine (T50.out _ bz).mono ?_
 rintro e w1 ⟨rfl, hw1⟩
 cases hb : stateB n s
 ·go_wp2_with fail
  go_ret
  exact ⟨false, rfl, fun h => (by cases h), bz⟩
 ·go_wp2_with fail
  refine (T48.out _ bz).mono ?_
  rintro e w2 ⟨b0, _, _, rfl, hw2⟩
  go_wp2_with fail
  go_ret
  exact ⟨b0, rfl, fun _ => hb, bz⟩
set_option maxHeartbeats 2000000 in
theorem f115_c (n : Net) (l : Sl Sec) (w : World) (hs : InNet w n) (hl : InSecs w l) : Calls Tryz.prog 115 #[n.val, l.val] w (RBl w) := by
 have T153 := HD (fun W nm (hb : Bl w W) => f153_c l nm W (InSecs.up hl hb))
 have hS := HD hs
 have hr := hs.links.room
 clear hs hl
 obtain ⟨⟨A, c, xs⟩, ⟨A2, c2, ls⟩⟩ := n
 simp only at hr
 show Calls Tryz.prog 115 #[.agg #[.slice A xs.length c, .slice A2 ls.length c2], l.val] w (RBl w)
 go_enter Tryz.func115, Tryz.ntmps115
 go_wp2_with fail
 go_loopg [12] ls.length (fun gg s12 wr => ∃ (kk : Nat), kk ≤ ls.length /\ ls.length - kk ≤ gg /\ s12 = .int .i64 kk /\ Aside (Bl w wr))
 case atStart => exact ⟨0, Nat.zero_le _, by omega, rfl, bz⟩
 case round =>
  obtain ⟨kk, hkk, hg, rfl, BW⟩ := hrel
  have BW' := BW.out
  by_cases hlt : kk < ls.length
  ·have hltz : (kk : Int) < (ls.length : Int) := by omega
   have hkz : (0 : Int) ≤ (kk : Int) := by omega
   obtain ⟨b, off, hA, _, _, _⟩ := hS.out.links.place (by intro e; simp only at e; rw [e] at hlt; simp at hlt)
   simp only at hA
   subst hA
   have hc := Sl.Ok.cells hS.out.links rfl wr BW' kk hlt
   simp only at hc
   generalize ls[kk] = y at hc
   have e0 : wr.cell? ⟨b, off + kk * 11, none⟩ = some (.string y.name) := hc 0 _ rfl
   have e1 : wr.cell? ⟨b, off + kk * 11 + 1, none⟩ = some (.string y.src) := hc 1 _ rfl
   have e2 : wr.cell? ⟨b, off + kk * 11 + 2, none⟩ = some (.string y.dst) := hc 2 _ rfl
   have e3 : wr.cell? ⟨b, off + kk * 11 + 3, none⟩ = some (.int .i64 y.kind) := hc 3 _ rfl
   have e4 : wr.cell? ⟨b, off + kk * 11 + 4, none⟩ = some (.int .i64 y.len) := hc 4 _ rfl
   have e5 : wr.cell? ⟨b, off + kk * 11 + 5, none⟩ = some (.int .i64 y.up) := hc 5 _ rfl
   have e6 : wr.cell? ⟨b, off + kk * 11 + 6, none⟩ = some (.int .i64 y.down) := hc 6 _ rfl
   have e7 : wr.cell? ⟨b, off + kk * 11 + 7, none⟩ = some (.string y.sec) := hc 7 _ rfl
   have e8 : wr.cell? ⟨b, off + kk * 11 + 8, none⟩ = some (.int .i64 y.wid) := hc 8 _ rfl
   have e9 : wr.cell? ⟨b, off + kk * 11 + 9, none⟩ = some (.int .i64 y.hgt) := hc 9 _ rfl
   have e10 : wr.cell? ⟨b, off + kk * 11 + 10, none⟩ = some (y.curve.val) := hc 10 _ rfl
   clear hc
   have hBw4 : Bl w (wr.alloc (Obj.cells #[.string y.name, .string y.src, .string y.dst, .int .i64 y.kind, .int .i64 y.len, .int .i64 y.up, .int .i64 y.down, .string y.sec, .int .i64 y.wid, .int .i64 y.hgt, y.curve.val] 45)) := Bl.trans BW' bz
   cases hk : (y.kind == 1)
   ·have hk2 : (y.kind != 1) = true := by simp [bne, hk]
    go_wp2_with fail
    go_roundg (ls.length - (kk + 1))
    case measure => omega
    case rel => exact ⟨kk + 1, by omega, by omega, by go_num, hBw4⟩
   ·have hk2 : (y.kind != 1) = false := by simp [bne, hk]
    go_wp2_with fail
    refine (T153.out _ y.sec hBw4).mono ?_
    rintro e w1 ⟨q, z, rfl, hw1⟩
    have hB1 : Bl w w1 := hBw4.trans hw1
    by_cases hz : z = 0
    ·have hzb : (z != 0) = false := by simpa using hz
     clear hz
     go_wp2_with fail
     go_roundg (ls.length - (kk + 1))
     case measure => omega
     case rel => exact ⟨kk + 1, by omega, by omega, by go_num, hB1⟩
    ·have hzb : (z != 0) = true := by simpa using hz
     go_wp2_with fail
     go_ret
     exact ⟨false, rfl, hB1⟩
  ·have hltz : ¬ (kk : Int) < (ls.length : Int) := by omega
   go_wp2_with fail
   go_ret
   exact ⟨true, rfl, BW'⟩
theorem get!_set {l : List Int} {k i : Nat} {x : Int} (hi : i < l.length) : (l.set k x)[i]! = if i = k then x else l[i]! := by
 rw [getElem!_pos (l.set k x) i (by simpa using hi), List.getElem_set]
 by_cases h : i = k
 ·subst h; simp
 ·have : ¬ k = i := fun e => h e.symm
  simp [h, this, getElem!_pos l i hi]
set_option maxHeartbeats 2000000 in
theorem f117_c (s : St) (w : World) (ht : InSt w s) (hl : s.pond.xs.length = s.vol.xs.length) (hn : s.vol.xs.length ≤ 300) (hb : ∀ i, i < s.vol.xs.length -> 0 ≤ s.vol.xs[i]! /\ s.vol.xs[i]! ≤ 1125899906842624 /\ 0 ≤ s.pond.xs[i]! /\ s.pond.xs[i]! ≤ 1125899906842624) :
 Calls Tryz.prog 117 #[s.val] w (RInts w s.vol.xs.length (fun i => s.vol.xs[i]! + s.pond.xs[i]!) w) := by
 have hT := HD ht
 have T109 := HD (fun W (hb : Bl w W) => f109_c s.vol W (InI.up ht.vol hb) (by omega))
 have hbh := HD hb
 have hlh := HD hl
 clear ht hb hl
 obtain ⟨⟨V, cv, vs⟩, ⟨Pn, cp, ps⟩, ⟨Sn, cs, ss⟩, ⟨On, co, os⟩⟩ := s
 simp only at hn
 show Calls Tryz.prog 117 #[.agg #[.slice V vs.length cv, .slice Pn ps.length cp, .slice Sn ss.length cs, .slice On os.length co]] w (RInts w vs.length (fun i => vs[i]! + ps[i]!) w)
 obtain ⟨ff, hff⟩ : ∃ ff : Nat -> Int, ff = fun i => vs[i]! + ps[i]! := ⟨_, rfl⟩
 rw [<- hff]
 have hffh := HD (fun i => congrFun hff i)
 clear hff
 go_enter Tryz.func117, Tryz.ntmps117
 go_wp2_with fail
 refine (T109.out _ bz).mono ?_
 rintro e w1 ⟨⟨OA, oc, oxs⟩, he, hx, hO0, hw1⟩
 obtain rfl : e = .returned (.slice OA oxs.length oc) := he
 simp only at hx
 subst hx
 have hB1 : Bl w w1 := bz
 have hO := HD (show Own1 IV 3 w.heap.size w1 ⟨OA, oc, oxs⟩ from ⟨hO0.1, hO0.2.imp id fun ⟨g, cap, cur, h1, h2, h3⟩ => ⟨g, cap, cur, h1, by simp at h2; omega, h3⟩⟩)
 have b1 : w1.cell? ⟨w.heap.size, 1, none⟩ = some (.slice Pn ps.length cp) := hw1.keep (by simp [go_sem])
 have zz : w.heap.size < w1.heap.size := by have := hw1.size; simp at this; omega
 have hneq : Hid (∀ g, OA = some ⟨g, 0, none⟩ -> oxs ≠ [] -> w.heap.size < g) := fun g h1 h2 => by
  obtain ⟨g', h3, h4, _⟩ := hO0.ptr h2
  simp only at h3
  rw [h1] at h3
  simp only [Option.some.injEq, Addr.mk.injEq, and_true] at h3
  simp at h4
  omega
 clear T109 hO0 hw1
 go_wp2_with fail
 go_loopg [12] ps.length (fun gg s12 wr => ∃ (kk : Nat) (qs : List Int), kk ≤ ps.length /\ ps.length - kk ≤ gg /\ s12 = .int .i64 kk /\ Aside (Bl w wr) /\ Aside (Own1 IV 3 w.heap.size wr ⟨OA, oc, qs⟩) /\ Aside (qs.length = oxs.length) /\ Aside (∀ i, i < oxs.length -> qs[i]! = if i < kk then oxs[i]! + ps[i]! else oxs[i]!))
 case atStart => exact ⟨0, oxs, Nat.zero_le _, by omega, rfl, hB1, hO.out, rfl, aside (fun i _ => by simp)⟩
 case round =>
  clear hB1 hO b1 zz
  obtain ⟨kk, qs, hkk, hg, rfl, BW, OW, QL, QP⟩ := hrel
  have BW' := BW.out
  by_cases hlt : kk < ps.length
  ·have hltz : (kk : Int) < (ps.length : Int) := by omega
   have hkz : (0 : Int) ≤ (kk : Int) := by omega
   have hlh' := hlh.out
   have hko : kk < oxs.length := by omega
   have hkoz : (kk : Int) < (oxs.length : Int) := by omega
   have hkq : kk < qs.length := by have := QL.out; omega
   clear hlh'
   obtain ⟨b, off, hA, _, _, _⟩ := hT.out.pond.place (by intro e; simp only at e; rw [e] at hlt; simp at hlt)
   simp only at hA
   subst hA
   have hc := Sl.Ok.cells hT.out.pond rfl wr BW' kk hlt 0 _ rfl
   have hbk := hbh.out kk hko
   have hq1 := QP.out kk hko
   rw [if_neg (Nat.lt_irrefl _)] at hq1
   have hstep : Hid (∀ i, i < oxs.length -> (qs.set kk (oxs[kk]! + ps[kk]!))[i]! = if i < kk + 1 then oxs[i]! + ps[i]! else oxs[i]!) := fun i hi => by
    rw [get!_set (by have := QL.out; omega)]
    by_cases h1 : i = kk
    ·subst h1; simp
    ·rw [if_neg h1, QP.out i hi]
     by_cases h2 : i < kk
     ·simp [h2, show i < kk + 1 by omega]
     ·simp [h2, show ¬ i < kk + 1 by omega]
   obtain ⟨g, hgA, hg0, hg1⟩ := OW.out.ptr (by intro e; simp only at e; rw [e] at hkq; simp at hkq)
   simp only at hgA
   subst hgA
   have hv0 := OW.out.cell kk hkq
   have hfr := OW.out.fro kk
   have hgn := hneq.out g rfl (by intro e; rw [e] at hko; simp at hko)
   rw [<- getElem!_pos qs kk hkq, hq1] at hv0
   rw [<- getElem!_pos ps kk hlt] at hc
   generalize oxs[kk]! = v0 at hv0 hbk hstep
   generalize ps[kk]! = v1 at hc hbk hstep
   have e0 : wr.cell? ⟨b, off + kk, none⟩ = some (.int .i64 v1) := by rwa [Nat.mul_one] at hc
   have e1 : wr.cell? ⟨g, kk, none⟩ = some (.int .i64 v0) := hv0
   have hwp : IntKind.i64.wrap (v0 + v1) = v0 + v1 := IntWalk.i64_in _ (by omega)
   have hB5 : Bl w (wr.setCell ⟨g, kk, none⟩ (.int .i64 (v0 + v1))) := Bl.setCell BW' (by simp only; omega) _
   have hO5 := HD (OW.out.set kk (v0 + v1))
   have hL5 := HD (show (qs.set kk (v0 + v1)).length = oxs.length by rw [List.length_set]; exact QL.out)
   clear hc hv0 hq1 QP
   go_wp2_with fail
   go_roundg (ps.length - (kk + 1))
   case measure => omega
   case rel => exact ⟨kk + 1, _, by omega, by omega, by go_num, hB5, hO5.out, hL5.out, hstep.out⟩
  ·have hltz : ¬ (kk : Int) < (ps.length : Int) := by omega
   have hlen : qs.length = oxs.length := QL.out
   have hlh' := hlh.out
   have hkl : kk = oxs.length := by omega
   clear hlh'
   have hQ := HD (fun i (hi : i < oxs.length) => (QP.out i hi).trans (if_pos (by omega)))
   go_wp2_with fail
   go_ret
   rw [<- hlen]
   exact ⟨⟨OA, oc, qs⟩, rfl, rfl, fun i hi => (hQ.out i (by omega)).trans (hffh.out i).symm, OW.out, BW'⟩
theorem f160_c (t a b : Nat) (w : World) (ht : t ≤ 9007199254740992) (hb : b ≤ 2305843009213693952) (hab : a ≤ b) (h0 : 0 < b) : Calls Tryz.prog 160 #[.int .i64 t, .int .i64 a, .int .i64 b] w fun e w' => e = .returned (.int .i64 ((t * a / b : Nat) : Int)) /\ Bl w w' := by
 have u1 : IntKind.u64.wrap (t : Int) = (t : Int) := wrapU_of t (by unfold U; omega)
 have u2 : IntKind.u64.wrap (a : Int) = (a : Int) := wrapU_of a (by unfold U; omega)
 have u3 : IntKind.u64.wrap (b : Int) = (b : Int) := wrapU_of b (by unfold U; omega)
 have hlt : t * a / 18446744073709551616 < b := by
  rw [Nat.div_lt_iff_lt_mul (by omega)]
  have h1 : t * a ≤ t * b := Nat.mul_le_mul_left t hab
  have h2 : t * b < 18446744073709551616 * b := Nat.mul_lt_mul_of_pos_right (by omega) h0
  rw [Nat.mul_comm b]
  omega
 have hq : divQ (t * a / 18446744073709551616) (t * a % 18446744073709551616) b = t * a / b := by
  unfold divQ
  have : t * a / 18446744073709551616 * 18446744073709551616 + t * a % 18446744073709551616 = t * a := by omega
  rw [this]
 have hle : t * a / b ≤ t := by
  rw [Nat.div_le_iff_le_mul_add_pred h0]
  have h1 : t * a ≤ t * b := Nat.mul_le_mul_left t hab
  rw [Nat.mul_comm b]
  omega
 have T133 := HD (fun W => Tryz.bits_Mul64 t a (by omega) (by omega) W)
 have T199 := HD (fun W => f199_c (t * a / 18446744073709551616) (t * a % 18446744073709551616) b hlt (by unfold U; omega) (by unfold U; omega) W)
 have u4 : IntKind.i64.wrap ((t * a / b : Nat) : Int) = ((t * a / b : Nat) : Int) := IntWalk.i64_in _ (by omega)
 rw [hq] at T199
 generalize divR (t * a / 18446744073709551616) (t * a % 18446744073709551616) b = r at T199
 generalize t * a / 18446744073709551616 = hi at T133 T199
 generalize t * a % 18446744073709551616 = lo at T133 T199
 clear hlt hq hle
 generalize t * a / b = q at T199 u4
 go_enter Tryz.func160, Tryz.ntmps160
 go_wp2_with fail
 refine (T133.out _).mono ?_
 rintro e w1 ⟨rfl, rfl⟩
 go_wp2_with fail
 refine (T199.out _).mono ?_
 rintro e w1 ⟨rfl, hw1⟩
 obtain ⟨hchw1, hfhw1, hzhw1⟩ := Bl.rules hw1; (try simp only [aZ, cZ, dZ, nZ] at hzhw1)
 go_wp2_with fail
 go_ret
 exact ⟨rfl, bz⟩
structure OwnSt (base : Nat) (w : World) (s : St) : Prop where
 vol : Own1 IV 3 base w s.vol
 pond : Own1 IV 3 base w s.pond
 set : Own1 IV 3 base w s.set
 on : Own1 BV 4 base w s.on
 ne : ∀ g, s.vol.val.ownBlock = some g -> s.pond.val.ownBlock ≠ some g /\ s.set.val.ownBlock ≠ some g /\ s.on.val.ownBlock ≠ some g
 ne2 : ∀ g, s.pond.val.ownBlock = some g -> s.set.val.ownBlock ≠ some g /\ s.on.val.ownBlock ≠ some g
def RCopy (s : St) (w : World) (e : Ending) (w' : World) : Prop := ∃ s' : St, e = .returned s'.val /\ s'.vol.xs = s.vol.xs /\ s'.pond.xs = s.pond.xs /\ s'.set.xs = s.set.xs /\ s'.on.xs = s.on.xs /\ OwnSt w.heap.size w' s' /\ Bl w w'
theorem Own1.mono {α : Type} {f : α -> Value} {e : TypeId} {base base' : Nat} {w : World} {s : Sl α} (h : Own1 f e base w s) (hb : base' ≤ base) : Own1 f e base' w s := ⟨h.1, h.2.imp id fun ⟨g, cap, cur, h1, h2, h3⟩ => ⟨g, cap, cur, h1, by omega, h3⟩⟩
set_option maxHeartbeats 2000000 in
theorem f116_c (s : St) (w : World) (ht : InSt w s) (h1 : s.vol.xs.length ≤ 400) (h2 : s.pond.xs.length ≤ 400) (h3 : s.set.xs.length ≤ 400) : Calls Tryz.prog 116 #[s.val] w (RCopy s w) := by
 have T1 := HD (fun W (hb : Bl w W) => f109_c s.vol W (InI.up ht.vol hb) (by omega))
 have T2 := HD (fun W (hb : Bl w W) => f109_c s.pond W (InI.up ht.pond hb) (by omega))
 have T3 := HD (fun W (hb : Bl w W) => f109_c s.set W (InI.up ht.set hb) (by omega))
 have T4 := HD (fun W (hb : Bl w W) => f154_c s.on W (InB.up ht.on hb))
 clear ht h1 h2 h3
 obtain ⟨sv, sp, ss, so⟩ := s
 simp only at T1 T2 T3 T4
 show Calls Tryz.prog 116 #[.agg #[sv.val, sp.val, ss.val, so.val]] w (RCopy ⟨sv, sp, ss, so⟩ w)
 go_enter Tryz.func116, Tryz.ntmps116
 go_wp2_with fail
 obtain ⟨W0, hW0⟩ : ∃ X, X = ((w.alloc (Obj.cells #[sv.val, sp.val, ss.val, so.val] 31)).alloc (Obj.cells #[.slice none 0 0, .slice none 0 0, .slice none 0 0, .slice none 0 0] 31)) := ⟨_, rfl⟩
 have hB0 : Bl w W0 := by rw [hW0]; exact bz
 have q0 : W0.cell? ⟨w.heap.size, 0, none⟩ = some (sv.val) := by rw [hW0]; simp [go_sem]
 have q1 : W0.cell? ⟨w.heap.size, 1, none⟩ = some (sp.val) := by rw [hW0]; simp [go_sem]
 have q2 : W0.cell? ⟨w.heap.size, 2, none⟩ = some (ss.val) := by rw [hW0]; simp [go_sem]
 have q3 : W0.cell? ⟨w.heap.size, 3, none⟩ = some (so.val) := by rw [hW0]; simp [go_sem]
 have r0 : W0.cell? ⟨w.heap.size + 1, 0, none⟩ = some (.slice none 0 0) := by rw [hW0]; simp [go_sem]
 have r1 : W0.cell? ⟨w.heap.size + 1, 1, none⟩ = some (.slice none 0 0) := by rw [hW0]; simp [go_sem]
 have r2 : W0.cell? ⟨w.heap.size + 1, 2, none⟩ = some (.slice none 0 0) := by rw [hW0]; simp [go_sem]
 have r3 : W0.cell? ⟨w.heap.size + 1, 3, none⟩ = some (.slice none 0 0) := by rw [hW0]; simp [go_sem]
 have f0 : W0.frozen? ⟨w.heap.size + 1, 0, none⟩ = false := by rw [hW0]; simp [go_sem]
 have f1 : W0.frozen? ⟨w.heap.size + 1, 1, none⟩ = false := by rw [hW0]; simp [go_sem]
 have f2 : W0.frozen? ⟨w.heap.size + 1, 2, none⟩ = false := by rw [hW0]; simp [go_sem]
 have f3 : W0.frozen? ⟨w.heap.size + 1, 3, none⟩ = false := by rw [hW0]; simp [go_sem]
 have zz : w.heap.size + 1 < W0.heap.size := by rw [hW0]; simp
 rw [<- hW0]
 clear hW0
 go_region_held3 (fun w' => Bl w w' /\ w'.cell? ⟨w.heap.size, 0, none⟩ = some (sv.val) /\ w'.cell? ⟨w.heap.size, 1, none⟩ = some (sp.val) /\ w'.cell? ⟨w.heap.size, 2, none⟩ = some (ss.val) /\ w'.cell? ⟨w.heap.size, 3, none⟩ = some (so.val)) (refine ⟨bz, ?_, ?_, ?_, ?_⟩ <;> (repeat (refine keepSet ?_ (by simp; done))) <;> first | exact Bl.keep (a := W0) bz q0 | exact Bl.keep (a := W0) bz q1 | exact Bl.keep (a := W0) bz q2 | exact Bl.keep (a := W0) bz q3) (first
  | (go_at_call 109; refine (T1.out _ (Bl.trans hB0 bz)).mono ?_; rintro e w1 ⟨⟨A1, c1, x1⟩, he1, hx1, hO1, hw1⟩; obtain rfl : e = .returned (.slice A1 x1.length c1) := he1; obtain rfl : x1 = sv.xs := hx1)
  | (go_at_call 109; refine (T2.out _ (Bl.trans hB0 bz)).mono ?_; rintro e w2 ⟨⟨A2, c2, x2⟩, he2, hx2, hO2, hw2⟩; obtain rfl : e = .returned (.slice A2 x2.length c2) := he2; obtain rfl : x2 = sp.xs := hx2)
  | (go_at_call 109; refine (T3.out _ (Bl.trans hB0 bz)).mono ?_; rintro e w3 ⟨⟨A3, c3, x3⟩, he3, hx3, hO3, hw3⟩; obtain rfl : e = .returned (.slice A3 x3.length c3) := he3; obtain rfl : x3 = ss.xs := hx3)
  | (go_at_call 154; refine (T4.out _ (Bl.trans hB0 bz)).mono ?_; rintro e w4 ⟨⟨A4, c4, x4⟩, he4, hx4, hO4, hw4⟩; obtain rfl : e = .returned (.slice A4 x4.length c4) := he4; obtain rfl : x4 = so.xs := hx4; have s0 : w4.cell? ⟨w.heap.size + 1, 0, none⟩ = some (.slice none 0 0) := Bl.keep (a := W0) bz r0; have t0 : w4.frozen? ⟨w.heap.size + 1, 0, none⟩ = false := Bl.keepF (a := W0) bz r0 f0; have s1 : w4.cell? ⟨w.heap.size + 1, 1, none⟩ = some (.slice none 0 0) := Bl.keep (a := W0) bz r1; have t1 : w4.frozen? ⟨w.heap.size + 1, 1, none⟩ = false := Bl.keepF (a := W0) bz r1 f1; have s2 : w4.cell? ⟨w.heap.size + 1, 2, none⟩ = some (.slice none 0 0) := Bl.keep (a := W0) bz r2; have t2 : w4.frozen? ⟨w.heap.size + 1, 2, none⟩ = false := Bl.keepF (a := W0) bz r2 f2; have s3 : w4.cell? ⟨w.heap.size + 1, 3, none⟩ = some (.slice none 0 0) := Bl.keep (a := W0) bz r3; have t3 : w4.frozen? ⟨w.heap.size + 1, 3, none⟩ = false := Bl.keepF (a := W0) bz r3 f3))
 have hsz1 : W0.heap.size ≤ w1.heap.size := hw1.size
 have hsz2 := hw2.size
 have hsz3 := hw3.size
 have hsz4 := hw4.size
 have L1 := HD hO1.lt
 have L2 := HD hO2.lt
 have L3 := HD hO3.lt
 have L4 := HD hO4.lt
 have hB4 : Bl w w4 := bz
 have hOwn : Hid (OwnSt w.heap.size ((((w4.setCell ⟨w.heap.size + 1, 0, none⟩ (.slice A1 sv.xs.length c1)).setCell ⟨w.heap.size + 1, 1, none⟩ (.slice A2 sp.xs.length c2)).setCell ⟨w.heap.size + 1, 2, none⟩ (.slice A3 ss.xs.length c3)).setCell ⟨w.heap.size + 1, 3, none⟩ (.slice A4 so.xs.length c4)) ⟨⟨A1, c1, sv.xs⟩, ⟨A2, c2, sp.xs⟩, ⟨A3, c3, ss.xs⟩, ⟨A4, c4, so.xs⟩⟩) := by
  have hne : ∀ {α : Type} (s : Sl α), (∀ g, s.val.ownBlock = some g -> w.heap.size + 1 < g) -> ∀ j, s.val.ownBlock ≠ some (⟨w.heap.size + 1, j, none⟩ : Addr).block := fun s h j e => by
   have := h _ e; simp only at this; omega
  have G1 : ∀ g, (⟨A1, c1, sv.xs⟩ : Sl Int).val.ownBlock = some g -> W0.heap.size ≤ g /\ g < w1.heap.size := L1.out
  have G2 : ∀ g, (⟨A2, c2, sp.xs⟩ : Sl Int).val.ownBlock = some g -> w1.heap.size ≤ g /\ g < w2.heap.size := L2.out
  have G3 : ∀ g, (⟨A3, c3, ss.xs⟩ : Sl Int).val.ownBlock = some g -> w2.heap.size ≤ g /\ g < w3.heap.size := L3.out
  have G4 : ∀ g, (⟨A4, c4, so.xs⟩ : Sl Bool).val.ownBlock = some g -> w3.heap.size ≤ g /\ g < w4.heap.size := L4.out
  have n1 := hne (⟨A1, c1, sv.xs⟩ : Sl Int) (fun g h => by have := G1 g h; omega)
  have n2 := hne (⟨A2, c2, sp.xs⟩ : Sl Int) (fun g h => by have := G2 g h; omega)
  have n3 := hne (⟨A3, c3, ss.xs⟩ : Sl Int) (fun g h => by have := G3 g h; omega)
  have n4 := hne (⟨A4, c4, so.xs⟩ : Sl Bool) (fun g h => by have := G4 g h; omega)
  refine ⟨?_, ?_, ?_, ?_, ?_, ?_⟩
  ·exact ((((Own1.mono (hO1.bl (hw2.trans (hw3.trans hw4))) (show w.heap.size ≤ W0.heap.size by omega)).other (n1 0) _).other (n1 1) _).other (n1 2) _).other (n1 3) _
  ·exact ((((Own1.mono (hO2.bl (hw3.trans hw4)) (by omega)).other (n2 0) _).other (n2 1) _).other (n2 2) _).other (n2 3) _
  ·exact ((((Own1.mono (hO3.bl hw4) (by omega)).other (n3 0) _).other (n3 1) _).other (n3 2) _).other (n3 3) _
  ·exact ((((Own1.mono hO4 (by omega)).other (n4 0) _).other (n4 1) _).other (n4 2) _).other (n4 3) _
  ·intro g hg
   have := G1 g hg
   exact ⟨fun e => by have := G2 g e; omega, fun e => by have := G3 g e; omega, fun e => by have := G4 g e; omega⟩
  ·intro g hg
   have := G2 g hg
   exact ⟨fun e => by have := G3 g e; omega, fun e => by have := G4 g e; omega⟩
 have hB5 : Bl w ((((w4.setCell ⟨w.heap.size + 1, 0, none⟩ (.slice A1 sv.xs.length c1)).setCell ⟨w.heap.size + 1, 1, none⟩ (.slice A2 sp.xs.length c2)).setCell ⟨w.heap.size + 1, 2, none⟩ (.slice A3 ss.xs.length c3)).setCell ⟨w.heap.size + 1, 3, none⟩ (.slice A4 so.xs.length c4)) := bz
 clear hO1 hO2 hO3 hO4 hw1 hw2 hw3 hw4 L1 L2 L3 L4 hB4 hsz1 hsz2 hsz3 hsz4 T1 T2 T3 T4
 go_wp2_with fail
 exact bodyPost_ret (v := .agg #[.slice A1 sv.xs.length c1, .slice A2 sp.xs.length c2, .slice A3 ss.xs.length c3, .slice A4 so.xs.length c4]) (by simp [results, Tryz.results116, go_sem, *]; try exact ⟨rfl, rfl⟩) rfl ⟨⟨⟨A1, c1, sv.xs⟩, ⟨A2, c2, sp.xs⟩, ⟨A3, c3, ss.xs⟩, ⟨A4, c4, so.xs⟩⟩, rfl, rfl, rfl, rfl, rfl, hOwn.out, hB5⟩
structure But (L : List Nat) (w w' : World) : Prop where
 os : w'.os = w.os
 tape : w'.tape = w.tape
 output : w'.output = w.output
 size : w.heap.size ≤ w'.heap.size
 block : ∀ k, k < w.heap.size -> k ∉ L -> w'.heap[k]? = w.heap[k]?
theorem But.of {L : List Nat} {w w' : World} (h : Bl w w') : But L w w' := ⟨h.os, h.tape, h.output, h.size, fun k hk _ => h.block k hk⟩
theorem But.refl (L : List Nat) (w : World) : But L w w := But.of (Bl.refl w)
theorem But.trans {L : List Nat} {a b c : World} (h : But L a b) (g : But L b c) : But L a c := ⟨g.os.trans h.os, g.tape.trans h.tape, g.output.trans h.output, Nat.le_trans h.size g.size, fun k hk hn => (g.block k (Nat.lt_of_lt_of_le hk h.size) hn).trans (h.block k hk hn)⟩
theorem But.set {L : List Nat} {a b : World} (h : But L a b) (p : Addr) (u : Value) (hp : p.block ∈ L \/ a.heap.size ≤ p.block) : But L a (b.setCell p u) := by
 refine ⟨h.os, h.tape, h.output, by simpa [cZ] using h.size, fun k hk hn => ?_⟩
 have hne : k ≠ p.block := by
  rcases hp with h1 | h1
  ·exact fun e => hn (e ▸ h1)
  ·omega
 exact (Below.heap_setCell b p u k hne).trans (h.block k hk hn)
theorem But.bl {L : List Nat} {w0 w w' : World} (h0 : Bl w0 w) (h : But L w w') (hL : ∀ k ∈ L, w0.heap.size ≤ k) : Bl w0 w' := by
 refine Below.trans h0 (show Below w0.heap.size w w' from ⟨h.os, h.tape, h.output, h.size, fun k hk => ?_⟩)
 exact h.block k (Nat.lt_of_lt_of_le hk h0.size) (fun hm => by have := hL k hm; omega)
theorem But.cell {L : List Nat} {w w' : World} (h : But L w w') {b o : Nat} {v : Value} (hc : w.cell? ⟨b, o, none⟩ = some v) (hn : b ∉ L) : w'.cell? ⟨b, o, none⟩ = some v :=
 (World.cell?_of_block (w := w) (h.block b (by have := cell_lt hc; simpa using this) hn)).trans hc
theorem But.own {L : List Nat} {w w' : World} {α : Type} {f : α -> Value} {e : TypeId} {base : Nat} {s : Sl α} (h : But L w w') (ho : Own1 f e base w s) (hn : ∀ g, s.val.ownBlock = some g -> g ∉ L) : Own1 f e base w' s :=
 ho.block (fun g hg => h.block g (ho.lt g hg).2 (hn g hg))
theorem But.more {L M : List Nat} {w w' : World} (h : But L w w') (hs : ∀ k ∈ L, k ∈ M) : But M w w' := ⟨h.os, h.tape, h.output, h.size, fun k hk hn => h.block k hk (fun hm => hn (hs k hm))⟩
theorem wp_append_own_at {P : Program} (w : World) {o : Oper} {a : Act} {K : Act -> World -> Prop} {Q : Exit -> Act -> World -> Prop} (s x : Operand) (t : TypeId)
 (ho : o.op = .call { callee := .builtin .append, args := #[s, x], argTypes := #[t, t] })
 (base : Nat) (e : TypeId) (i : TypeInfo) (z : Value) (size bytes : Nat) (ht : P.underlying t = some (.slice e)) (hi : P.info? e = some i) (hz : i.zero = some z)
 (hsize : i.size = size) (hby : i.bytes = bytes) (hzs : z.cells.size = size) (hsz : 0 < size)
 (v : Value) (n : Nat) (xs : List Value) (hs : a.eval s = v) (hown : w.ownsRow base e size v n xs)
 (ad : Addr) (m c : Nat) (news : List Value) (hx : a.eval x = .slice (some ad) m c) (hl : news.length = m * size) (hnews : ∀ j u, news[j]? = some u -> w.cell? (ad.add j) = some u) (h1 : ∀ u ∈ news, u.oneCell' = true)
 (h63 : n + m ≤ maxLen) (hbytes : (n + m) * bytes ≤ 140737488355328) (hbase : base ≤ w.heap.size)
 (h : ∀ v' w', w'.ownsRow base e size v' (n + m) (xs ++ news) -> w.grownBy w' v.ownBlock -> (v'.ownBlock = v.ownBlock \/ v'.ownBlock = some w.heap.size) -> K (a.put o.dst v') w') : o.wp P a w K Q := by
 obtain ⟨v', w', hr, h2, h3, _, h5⟩ := run_append_own_at (P := P) w base t o.type e i z size bytes ht hi hz hsize hby hzs hsz v n xs hown ad m c news hl hnews h1 h63 hbytes hbase
 unfold Oper.wp execOp
 simp only [ho, resolve, invoke, builtin, Sem.run_bind, Sem.run_pure, Result.andThen_ok, List.map_toArray, List.map_cons, List.map_nil, hs, hx, hr]
 exact h v' w' h2 h3 h5
def SV (s : Sl Int) : Value := s.val
structure Grid (base : Nat) (w : World) (g c : Nat) (L : List (Sl Int)) : Prop where
 out : Own1 SV 28 base w ⟨some ⟨g, 0, none⟩, c, L⟩
 row : ∀ i (h : i < L.length), Own1 IV 3 base w L[i]
 ng : ∀ i (h : i < L.length), L[i].val.ownBlock ≠ some g
 ne : ∀ i j (hi : i < L.length) (hj : j < L.length), i ≠ j -> ∀ b, L[i].val.ownBlock = some b -> L[j].val.ownBlock ≠ some b
theorem Grid.bl {base : Nat} {w w' : World} {g c : Nat} {L : List (Sl Int)} (h : Grid base w g c L) (hb : Bl w w') : Grid base w' g c L := ⟨h.out.bl hb, fun i hi => (h.row i hi).bl hb, h.ng, h.ne⟩
theorem Grid.step {base : Nat} {w w5 : World} {g c : Nat} {L : List (Sl Int)} (h : Grid base w g c L) {a : Nat} (ha : a < L.length) {x : Int} {v' : Value}
 (hown : w5.ownsRow base 3 1 v' (L[a].xs.length + 1) (L[a].xs.map IV ++ [IV x])) (hgr : w.grownBy w5 L[a].val.ownBlock) (hat : v'.ownBlock = L[a].val.ownBlock \/ (∃ m, v'.ownBlock = some m /\ w.heap.size ≤ m)) :
 ∃ s' : Sl Int, v' = s'.val /\ s'.xs = L[a].xs ++ [x] /\ Grid base (w5.setCell ⟨g, a, none⟩ s'.val) g c (L.set a s') := by
 obtain ⟨s', hv, hx, hO⟩ := Own1.ofRow (f := IV) (xs := L[a].xs ++ [x]) (v := v') (by simpa using hown)
 subst hv
 have hgw : g < w.heap.size := (h.out.lt g rfl).2
 have hsg : s'.val.ownBlock ≠ some g := fun e => by
  rcases hat with h1 | ⟨m, h1, h2⟩
  ·exact h.ng a ha (h1 ▸ e)
  ·rw [h1] at e; simp only [Option.some.injEq] at e; omega
 have hold : ∀ j (hj : j < L.length), j ≠ a -> ∀ b, L[j].val.ownBlock = some b -> s'.val.ownBlock ≠ some b := fun j hj hja b hb e => by
  rcases hat with h1 | ⟨m, h1, h2⟩
  ·exact h.ne j a hj ha hja b hb (h1 ▸ e)
  ·rw [h1] at e; simp only [Option.some.injEq] at e
   have := ((h.row j hj).lt b hb).2
   omega
 refine ⟨s', rfl, hx, ?_, ?_, ?_, ?_⟩
 ·have h1 : Own1 SV 28 base w5 ⟨some ⟨g, 0, none⟩, c, L⟩ := World.ownsRow.kept h.out hgr (.inr (fun e => h.ng a ha e.symm))
  exact h1.set a s'
 ·intro i hi
  have hi' : i < L.length := by simpa using hi
  by_cases hia : i = a
  ·subst hia
   rw [List.getElem_set_self]
   exact hO.other hsg _
  ·rw [List.getElem_set_ne (fun e => hia e.symm)]
   have h1 : Own1 IV 3 base w5 L[i] := by
    refine World.ownsRow.kept (h.row i hi') hgr ?_
    cases hb : L[i].val.ownBlock with
    | none => exact .inl rfl
    | some b => exact .inr (fun e => h.ne i a hi' ha hia b hb e.symm)
   exact h1.other (h.ng i hi') _
 ·intro i hi
  have hi' : i < L.length := by simpa using hi
  by_cases hia : i = a
  ·subst hia
   rw [List.getElem_set_self]
   exact hsg
  ·rw [List.getElem_set_ne (fun e => hia e.symm)]
   exact h.ng i hi'
 ·intro i j hi hj hij b hb
  have hi' : i < L.length := by simpa using hi
  have hj' : j < L.length := by simpa using hj
  by_cases hia : i = a
  ·subst hia
   rw [List.getElem_set_self] at hb
   rw [List.getElem_set_ne (fun e => hij e)]
   exact fun e => hold j hj' (fun e => hij e.symm) b e hb
  ·rw [List.getElem_set_ne (fun e => hia e.symm)] at hb
   by_cases hja : j = a
   ·subst hja
    rw [List.getElem_set_self]
    exact hold i hi' hia b hb
   ·rw [List.getElem_set_ne (fun e => hja e.symm)]
    exact h.ne i j hi' hj' hij b hb
def outsE (es : List (Int × Int)) (i : Nat) : Nat -> List Int
 | 0 => []
 | k + 1 => if (es[k]!).1 = (i : Int) then outsE es i k ++ [(k : Int)] else outsE es i k
def edgesN (n : Net) : List (Int × Int) := n.links.xs.map (fun x => (ndIx n x.src, ndIx n x.dst))
def InG (w : World) (s : Sl (Sl Int)) : Prop := s.Ok (fun x => [SV x]) 1 OkI w.heap.size w
theorem InG.up {w w' : World} {s : Sl (Sl Int)} (h : InG w s) (hb : Bl w w') : InG w' s := Sl.Ok.up h hb fun _ _ h => InI.up h hb
theorem Grid.ok {base : Nat} {w : World} {g c : Nat} {L : List (Sl Int)} (h : Grid base w g c L) (h1 : L.length ≤ 140737488351232) (h2 : ∀ i (h : i < L.length), L[i].xs.length ≤ 140737488351232) : InG w ⟨some ⟨g, 0, none⟩, c, L⟩ :=
 Own1.ok h.out h1 (fun x hx => by
  obtain ⟨i, hi, rfl⟩ := List.getElem_of_mem hx
  exact Own1.ok (h.row i hi) (h2 i hi) (fun _ _ => trivial))
def ROuts (n : Net) (w : World) (e : Ending) (w' : World) : Prop := ∃ (G : Sl (Sl Int)) (E : Sl (Int × Int)), e = .returned (.tuple #[G.val, E.val]) /\ (InG w' G /\ New w G /\ ∀ i (h : i < G.xs.length), New w G.xs[i]) /\ (InE w' E /\ New w E) /\ G.xs.length = n.nodes.xs.length /\ (∀ i (h : i < G.xs.length), G.xs[i].xs = outsE (edgesN n) i n.links.xs.length) /\ E.xs = edgesN n /\ Bl w w'
end Go.Proofs.YtnnhnkpoekbahaaGreat
