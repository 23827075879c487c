/- TopSeason: part 8 of 16: Stl Stp0 Stp1 Stl2 -/
import Derived.Test.YtnnhnkpoekbahaaGreatPart05
import Derived.Test.YtnnhnkpoekbahaaGreatPart06
namespace Go.Proofs.YtnnhnkpoekbahaaGreat
open Go.RowKit
set_option maxHeartbeats 400000
set_option linter.unusedSimpArgs false
set_option linter.unusedVariables false
set_option maxRecDepth 100000
instance : Inhabited Nd := ⟨⟨emptyS, 0, 0, 0, 0, 0, nilK, false, 0⟩⟩
def heldF (xs : List Nd) (hs : List Int) (i : Nat) : Int := if xs[i]!.kind = 3 then 0 else hs[i]!
def volF (xs : List Nd) (hs : List Int) (i : Nat) : Int := min (heldF xs hs i) (capN xs[i]!)
def pondF (xs : List Nd) (hs : List Int) (i : Nat) : Int := heldF xs hs i - volF xs hs i
theorem set_self {l : List Int} {k : Nat} {x : Int} (hk : k < l.length) (h : l[k]! = x) : l.set k x = l := by
 apply List.ext_getElem (by simp)
 intro i h1 h2
 rw [List.getElem_set]
 by_cases e : k = i
 ·subst e; rw [if_pos rfl, <- h, getElem!_pos l k h2]
 ·rw [if_neg e]
def RSettle (xs : List Nd) (hs : List Int) (gh gv gp ch cv cp : Nat) (w0 w : World) (e : Ending) (w' : World) : Prop :=
 ∃ (b : Bool) (hs' vs' ps' : List Int), e = .returned (.bool b) /\ hs'.length = xs.length /\ vs'.length = xs.length /\ ps'.length = xs.length /\
  (∀ i, i < xs.length -> hs'[i]! = heldF xs hs i /\ vs'[i]! = volF xs hs i /\ ps'[i]! = pondF xs hs i) /\
  (b = true -> ∀ i, i < xs.length -> pondF xs hs i ≤ 1125899906842624) /\
  Own1 IV 3 w0.heap.size w' ⟨some ⟨gh, 0, none⟩, ch, hs'⟩ /\ Own1 IV 3 w0.heap.size w' ⟨some ⟨gv, 0, none⟩, cv, vs'⟩ /\ Own1 IV 3 w0.heap.size w' ⟨some ⟨gp, 0, none⟩, cp, ps'⟩ /\
  But [gh, gv, gp] w w' /\ Bl w0 w'
set_option maxHeartbeats 4000000 in
theorem f118_core (A A2 : Option Addr) (c c2 : Nat) (xs : List Nd) (ls : List Lk) (p gh gv gp ch cv cp : Nat) (hs vs ps : List Int) (w0 w : World)
 (hN : InNet w0 ⟨⟨A, c, xs⟩, ⟨A2, c2, ls⟩⟩) (h0 : Bl w0 w)
 (hok : ∀ i, i < xs.length -> nodeB xs[i]! = true /\ 0 ≤ hs[i]! /\ hs[i]! ≤ 4611686018427387904 /\ 0 ≤ capN xs[i]!)
 (hp0 : w.cell? ⟨p, 0, none⟩ = some (.slice (some ⟨gv, 0, none⟩) vs.length cv)) (hp1 : w.cell? ⟨p, 1, none⟩ = some (.slice (some ⟨gp, 0, none⟩) ps.length cp))
 (hb0 : w0.heap.size ≤ p)
 (OH : Own1 IV 3 w0.heap.size w ⟨some ⟨gh, 0, none⟩, ch, hs⟩) (OV : Own1 IV 3 w0.heap.size w ⟨some ⟨gv, 0, none⟩, cv, vs⟩) (OP : Own1 IV 3 w0.heap.size w ⟨some ⟨gp, 0, none⟩, cp, ps⟩)
 (hl1 : hs.length = xs.length) (hl2 : vs.length = xs.length) (hl3 : ps.length = xs.length)
 (n1 : gh ≠ gv) (n2 : gh ≠ gp) (n3 : gv ≠ gp) (n4 : p ≠ gh) (n5 : p ≠ gv) (n6 : p ≠ gp) :
 Calls Tryz.prog 118 #[.agg #[.slice A xs.length c, .slice A2 ls.length c2], .pointer (some ⟨p, 0, none⟩), .slice (some ⟨gh, 0, none⟩) hs.length ch] w (RSettle xs hs gh gv gp ch cv cp w0 w) := by
 have hS := HD hN
 have hr := hN.nodes.room
 have hokh := HD hok
 have hpz := cell_lt hp0
 have hzh := OH.lt gh rfl
 have hzv := OV.lt gv rfl
 have hzp := OP.lt gp rfl
 have T155 := HD (fun W (x : Nd) (hx : x ∈ xs) (hb : Bl w0 W) => f155_c x W ((InNet.up hN hb).nodes.each x hx))
 simp only at hr hpz
 clear hN hok
 have l1 := HD hl1
 have l2 := HD hl2
 have l3 := HD hl3
 have h0h := HD h0
 have OHh := HD OH
 have OVh := HD OV
 have OPh := HD OP
 obtain ⟨R, hR⟩ : ∃ R, R = RSettle xs hs gh gv gp ch cv cp w0 w := ⟨_, rfl⟩
 rw [<- hR]
 have hRh := HD hR
 clear hl1 hl2 hl3 h0 OH OV OP hR
 go_enter Tryz.func118, Tryz.ntmps118
 go_wp2_with fail
 have hBx : Bl w (w.alloc (Obj.cells #[.slice A xs.length c, .slice A2 ls.length c2] 25)) := bz
 go_loopg [7, 15] xs.length (fun gg s7 s15 wr => ∃ (kk : Nat) (b : Bool) (hq vq pq : List Int), kk ≤ xs.length /\ xs.length - kk ≤ gg /\ s15 = .int .i64 kk /\ s7 = .bool b /\ Aside (Bl w0 wr) /\ Aside (But [gh, gv, gp] w wr) /\ Aside (Own1 IV 3 w0.heap.size wr ⟨some ⟨gh, 0, none⟩, ch, hq⟩) /\ Aside (Own1 IV 3 w0.heap.size wr ⟨some ⟨gv, 0, none⟩, cv, vq⟩) /\ Aside (Own1 IV 3 w0.heap.size wr ⟨some ⟨gp, 0, none⟩, cp, pq⟩) /\ Aside (hq.length = xs.length /\ vq.length = xs.length /\ pq.length = xs.length) /\ Aside (∀ i, i < xs.length -> (i < kk -> hq[i]! = heldF xs hs i /\ vq[i]! = volF xs hs i /\ pq[i]! = pondF xs hs i) /\ (kk ≤ i -> hq[i]! = hs[i]!)) /\ Aside (b = true -> ∀ i, i < kk -> pondF xs hs i ≤ 1125899906842624))
 case atStart => exact ⟨0, true, hs, vs, ps, Nat.zero_le _, by omega, rfl, rfl, h0h.out.trans hBx, But.of hBx, OHh.out.bl hBx, OVh.out.bl hBx, OPh.out.bl hBx, ⟨l1.out, l2.out, l3.out⟩, aside (fun i _ => ⟨fun h => by omega, fun _ => rfl⟩), aside (fun _ i h => by omega)⟩
 case round =>
  clear hBx
  obtain ⟨kk, b, hq, vq, pq, hkk, hg, rfl, rfl, BW, BU, OH, OV, OP, LL, PP, FF⟩ := hrel
  have BW' := BW.out
  have BU' := BU.out
  have c0 := BU'.cell hp0 (by simp; omega)
  have c1 := BU'.cell hp1 (by simp; omega)
  have zp : p < wr.heap.size := by have := BU'.size; omega
  have zh : gh < wr.heap.size := by have := BU'.size; omega
  have zv : gv < wr.heap.size := by have := BU'.size; omega
  have zpp : gp < wr.heap.size := by have := BU'.size; omega
  by_cases hlt : kk < xs.length
  ·have hltz : (kk : Int) < (xs.length : Int) := by omega
   have hkz : (0 : Int) ≤ (kk : Int) := by omega
   have kh : (kk : Int) < (hs.length : Int) := by have := l1.out; omega
   have kv : (kk : Int) < (vs.length : Int) := by have := l2.out; omega
   have kp : (kk : Int) < (ps.length : Int) := by have := l3.out; omega
   have qh : kk < hq.length := by have := LL.out.1; omega
   have qv : kk < vq.length := by have := LL.out.2.1; omega
   have qp : kk < pq.length := by have := LL.out.2.2; omega
   obtain ⟨b0, off, hA, _, _, _⟩ := hS.out.nodes.place (by intro e; simp only at e; rw [e] at hlt; simp at hlt)
   simp only at hA
   subst hA
   have hc := Sl.Ok.cells hS.out.nodes rfl wr BW' kk hlt
   simp only at hc
   obtain ⟨y, hy⟩ : ∃ y, y = xs[kk] := ⟨_, rfl⟩
   have hyb : xs[kk]! = y := by rw [getElem!_pos xs kk hlt, hy]
   have hok1 := hokh.out kk hlt
   rw [hyb] at hok1
   have T := HD (fun W (hb : Bl w0 W) => T155.out W y (hy ▸ List.getElem_mem hlt) hb)
   rw [<- hy] at hc
   have hq0 := (PP.out kk hlt).2 (Nat.le_refl _)
   have hH := HD (show heldF xs hs kk = if y.kind = 3 then 0 else hs[kk]! by unfold heldF; rw [hyb])
   have hV := HD (show volF xs hs kk = min (heldF xs hs kk) (capN y) by unfold volF; rw [hyb])
   have hP : Hid (pondF xs hs kk = heldF xs hs kk - volF xs hs kk) := rfl
   have hstep : Hid (∀ H V P, heldF xs hs kk = H -> volF xs hs kk = V -> pondF xs hs kk = P -> ∀ i, i < xs.length -> (i < kk + 1 -> (hq.set kk H)[i]! = heldF xs hs i /\ (vq.set kk V)[i]! = volF xs hs i /\ (pq.set kk P)[i]! = pondF xs hs i) /\ (kk + 1 ≤ i -> (hq.set kk H)[i]! = hs[i]!)) := fun H V P e1 e2 e3 i hi => by
    have hi1 : i < hq.length := by have := LL.out.1; omega
    have hi2 : i < vq.length := by have := LL.out.2.1; omega
    have hi3 : i < pq.length := by have := LL.out.2.2; omega
    rw [get!_set hi1, get!_set hi2, get!_set hi3]
    by_cases h1 : i = kk
    ·subst h1
     simp only [if_true]
     exact ⟨fun _ => ⟨e1.symm, e2.symm, e3.symm⟩, fun h => by omega⟩
    ·simp only [if_neg h1]
     exact ⟨fun h => (PP.out i hi).1 (by omega), fun h => (PP.out i hi).2 (by omega)⟩
   have hqe := HD (set_self qh hq0)
   have hff : Hid (b = true -> pondF xs hs kk ≤ 1125899906842624 -> ∀ i, i < kk + 1 -> pondF xs hs i ≤ 1125899906842624) := fun hb hk i hi => by
    rcases Nat.lt_or_ge i kk with h1 | h1
    ·exact FF.out hb i h1
    ·have : i = kk := by omega
     subst this; exact hk
   have hv0 := OH.out.cell kk qh
   rw [<- getElem!_pos hq kk qh, hq0] at hv0
   have hv1 : wr.cell? ⟨gh, kk, none⟩ = some (.int .i64 hs[kk]!) := hv0
   have hv2 := OV.out.cell kk qv
   have hv3 := OP.out.cell kk qp
   generalize hs[kk]! = h at hv1 hok1 hH hqe
   generalize vq[kk] = v at hv2
   generalize pq[kk] = p3 at hv3
   have hv2' : wr.cell? ⟨gv, kk, none⟩ = some (.int .i64 v) := hv2
   have hv3' : wr.cell? ⟨gp, kk, none⟩ = some (.int .i64 p3) := hv3
   have hnb : nodeB y = true := hok1.1
   have hnbh := HD hnb
   obtain ⟨_, hk0, hk1, hk2⟩ := hok1
   have T' : Hid (∀ W, Bl w0 W -> Calls Tryz.prog 155 #[y.val] W fun e w' => e = .returned (.tuple #[.int .i64 (capN y), .int .i64 0]) /\ Bl W w') := fun W hb => by
    have := T.out W hb
    rw [hnbh.out, if_pos rfl] at this
    exact this
   have T155' := T'
   generalize capN y = cap at T' hV hk2
   have e0 : wr.cell? ⟨b0, off + kk * 9, none⟩ = some (.string y.name) := hc 0 _ rfl
   have e1 : wr.cell? ⟨b0, off + kk * 9 + 1, none⟩ = some (.int .i64 y.kind) := hc 1 _ rfl
   have e2 : wr.cell? ⟨b0, off + kk * 9 + 2, none⟩ = some (.int .i64 y.px) := hc 2 _ rfl
   have e3 : wr.cell? ⟨b0, off + kk * 9 + 3, none⟩ = some (.int .i64 y.py) := hc 3 _ rfl
   have e4 : wr.cell? ⟨b0, off + kk * 9 + 4, none⟩ = some (.int .i64 y.inv) := hc 4 _ rfl
   have e5 : wr.cell? ⟨b0, off + kk * 9 + 5, none⟩ = some (.int .i64 y.gnd) := hc 5 _ rfl
   have e6 : wr.cell? ⟨b0, off + kk * 9 + 6, none⟩ = some (y.shape.val) := hc 6 _ rfl
   have e7 : wr.cell? ⟨b0, off + kk * 9 + 7, none⟩ = some (.bool y.prot) := hc 7 _ rfl
   have e8 : wr.cell? ⟨b0, off + kk * 9 + 8, none⟩ = some (.int .i64 y.res) := hc 8 _ rfl
   clear hc hv0 hv2 hv3 hq0 T hnb hy hyb T155' PP FF hS
   have hBW0 : Bl w0 (wr.alloc (Obj.cells #[.string y.name, .int .i64 y.kind, .int .i64 y.px, .int .i64 y.py, .int .i64 y.inv, .int .i64 y.gnd, y.shape.val, .bool y.prot, .int .i64 y.res] 41)) := Bl.trans BW' bz
   have hBUr : Bl wr (wr.alloc (Obj.cells #[.string y.name, .int .i64 y.kind, .int .i64 y.px, .int .i64 y.py, .int .i64 y.inv, .int .i64 y.gnd, y.shape.val, .bool y.prot, .int .i64 y.res] 41)) := bz
   go_wp2_with fail
   refine (T'.out _ hBW0).mono ?_
   rintro e w1 ⟨rfl, hw1⟩
   have hB1 : Bl wr w1 := hBUr.trans hw1
   have k1 : w1.cell? ⟨wr.heap.size, 1, none⟩ = some (.int .i64 y.kind) := hw1.keep (by simp [go_sem])
   have O1 := OH.out.bl hB1
   have O2 := OV.out.bl hB1
   have O3 := OP.out.bl hB1
   have u1 := hB1.keep hv1
   have u2 := hB1.keep hv2'
   have u3 := hB1.keep hv3'
   have u4 := hB1.keep c0
   have u5 := hB1.keep c1
   have m1 := O1.fro kk
   have m2 := O2.fro kk
   have m3 := O3.fro kk
   have hzr : wr.heap.size < w1.heap.size := by have := hw1.size; simp at this; omega
   have O1h := HD O1
   have O2h := HD O2
   have O3h := HD O3
   have hB1w : Bl w0 w1 := BW'.trans hB1
   have hU1 : But [gh, gv, gp] w w1 := BU'.trans (But.of hB1)
   clear e0 e1 e2 e3 e4 e5 e6 e7 e8 hv1 hv2' hv3' c0 c1 O1 O2 O3 hw1 T' hBW0 hBUr
   cases hk : (y.kind == 3)
   ·have hHH : heldF xs hs kk = h := by rw [hH.out, if_neg (by simpa using hk)]
    have LL3 := HD (show (hq.set kk h).length = xs.length /\ (vq.set kk (min h cap)).length = xs.length /\ (pq.set kk (h - min h cap)).length = xs.length by simp only [List.length_set]; exact LL.out)
    obtain ⟨X, hX⟩ : ∃ X, X = w1 := ⟨_, rfl⟩
    have OX1 := HD (show Own1 IV 3 w0.heap.size w1 ⟨some ⟨gh, 0, none⟩, ch, hq.set kk h⟩ by rw [hqe.out]; exact O1h.out)
    have OX2 := O2h
    have OX3 := O3h
    have hBX := hB1w
    have hUX := hU1
    have x1 := u1
    have x2 := u2
    have x3 := u3
    have x4 := u4
    have x5 := u5
    go_wp2_with fail
    clear u1 u2 u3 u4 u5 m1 m2 m3 k1 O1h O2h O3h hB1w hU1 hB1 hzr
    rw [<- hX] at *
    clear hX
    have qX0 : ∀ z : Later X, z.at'.cell? ⟨p, 0, none⟩ = some (.slice (some ⟨gv, 0, none⟩) vs.length cv) := fun z => z.keep x4
    have qX1 : ∀ z : Later X, z.at'.cell? ⟨gh, kk, none⟩ = some (.int .i64 h) := fun z => z.keep x1
    have hHv := HD (show heldF xs hs kk = h from hHH)
    have hVv := HD (show volF xs hs kk = min h cap from by rw [hV.out, hHv.out])
    have hPv := HD (show pondF xs hs kk = h - min h cap from by rw [hP.out, hVv.out, hHv.out])
    clear hHH
    refine wp_region_later_tail 12 (by kernel_rfl) (by kernel_rfl) ?_
    simp only [List.take_succ_cons, List.take_zero, List.drop_succ_cons, List.drop_zero]
    repeat (go_big_quiet_step (fail))
    refine wpQuiet_nil ?_
    intro w3 hB3
    have y1 := hB3.keep x1
    have y2 := hB3.keep x2
    have y3 := hB3.keep x3
    have y4 := hB3.keep x4
    have y5 := hB3.keep x5
    have OY1 := OX1.out.bl hB3
    have OY2 := OX2.out.bl hB3
    have OY3 := OX3.out.bl hB3
    have f2 := OY2.fro kk
    have n3' : gp ≠ gv := fun e => n3 e.symm
    have OZ1 := OY1.other (a := ⟨gv, kk, none⟩) (by simp [Value.ownBlock]; exact n1) (.int .i64 (min h cap))
    have OZ2 : Own1 IV 3 w0.heap.size (w3.setCell ⟨gv, kk, none⟩ (.int .i64 (min h cap))) ⟨some ⟨gv, 0, none⟩, cv, vq.set kk (min h cap)⟩ := OY2.set kk (min h cap)
    have OZ3 := OY3.other (a := ⟨gv, kk, none⟩) (by simp [Value.ownBlock]; exact n3') (.int .i64 (min h cap))
    have hBz : Bl w0 (w3.setCell ⟨gv, kk, none⟩ (.int .i64 (min h cap))) := Bl.setCell (hBX.trans hB3) (by simp only; omega) _
    have hUz : But [gh, gv, gp] w (w3.setCell ⟨gv, kk, none⟩ (.int .i64 (min h cap))) := (hUX.trans (But.of hB3)).set _ _ (.inl (by simp))
    have z1 : (w3.setCell ⟨gv, kk, none⟩ (.int .i64 (min h cap))).cell? ⟨gh, kk, none⟩ = some (.int .i64 h) := keepSet y1 (by simp only; omega)
    have z2 : (w3.setCell ⟨gv, kk, none⟩ (.int .i64 (min h cap))).cell? ⟨gv, kk, none⟩ = some (.int .i64 (min h cap)) := by simp [go_sem, *]
    have z3 : (w3.setCell ⟨gv, kk, none⟩ (.int .i64 (min h cap))).cell? ⟨gp, kk, none⟩ = some (.int .i64 p3) := keepSet y3 (by simp only; omega)
    have z4 : (w3.setCell ⟨gv, kk, none⟩ (.int .i64 (min h cap))).cell? ⟨p, 0, none⟩ = some (.slice (some ⟨gv, 0, none⟩) vs.length cv) := keepSet y4 (by simp only; omega)
    have z5 : (w3.setCell ⟨gv, kk, none⟩ (.int .i64 (min h cap))).cell? ⟨p, 1, none⟩ = some (.slice (some ⟨gp, 0, none⟩) ps.length cp) := keepSet y5 (by simp only; omega)
    have OZ1 := HD OZ1
    have OZ2 := HD OZ2
    have OZ3 := HD OZ3
    clear qX0 qX1 OY1 OY2 OY3 hBX hUX hB3 x1 x2 x3 x4 x5 OX1 OX2 OX3
    go_wp2_with fail
    clear y1 y2 y3 y4 y5 f2
    generalize (w3.setCell ⟨gv, kk, none⟩ (.int .i64 (min h cap))) = Y at *
    have qY0 : ∀ z : Later Y, z.at'.cell? ⟨p, 0, none⟩ = some (.slice (some ⟨gv, 0, none⟩) vs.length cv) := fun z => z.keep z4
    have qY1 : ∀ z : Later Y, z.at'.cell? ⟨p, 1, none⟩ = some (.slice (some ⟨gp, 0, none⟩) ps.length cp) := fun z => z.keep z5
    have qY2 : ∀ z : Later Y, z.at'.cell? ⟨gh, kk, none⟩ = some (.int .i64 h) := fun z => z.keep z1
    have qY3 : ∀ z : Later Y, z.at'.cell? ⟨gv, kk, none⟩ = some (.int .i64 (min h cap)) := fun z => z.keep z2
    have hwp : IntKind.i64.wrap (h - min h cap) = h - min h cap := IntWalk.i64_in _ (by omega)
    refine wp_region_later_tail 18 (by kernel_rfl) (by kernel_rfl) ?_
    simp only [List.take_succ_cons, List.take_zero, List.drop_succ_cons, List.drop_zero]
    repeat (go_big_quiet_step (fail))
    refine wpQuiet_nil ?_
    intro w4 hB4
    have y3 := hB4.keep z3
    have y4 := hB4.keep z4
    have y5 := hB4.keep z5
    have OY1 := OZ1.out.bl hB4
    have OY2 := OZ2.out.bl hB4
    have OY3 := OZ3.out.bl hB4
    have f3 := OY3.fro kk
    have hBf : Bl w0 (w4.setCell ⟨gp, kk, none⟩ (.int .i64 (h - min h cap))) := Bl.setCell (hBz.trans hB4) (by simp only; omega) _
    have hUf : But [gh, gv, gp] w (w4.setCell ⟨gp, kk, none⟩ (.int .i64 (h - min h cap))) := (hUz.trans (But.of hB4)).set _ _ (.inl (by simp))
    have t5 : (w4.setCell ⟨gp, kk, none⟩ (.int .i64 (h - min h cap))).cell? ⟨p, 1, none⟩ = some (.slice (some ⟨gp, 0, none⟩) ps.length cp) := keepSet y5 (by simp only; omega)
    have t3 : (w4.setCell ⟨gp, kk, none⟩ (.int .i64 (h - min h cap))).cell? ⟨gp, kk, none⟩ = some (.int .i64 (h - min h cap)) := by simp [go_sem, *]
    have OF1 := HD (OY1.other (a := ⟨gp, kk, none⟩) (by simp [Value.ownBlock]; exact n2) (.int .i64 (h - min h cap)))
    have OF2 := HD (OY2.other (a := ⟨gp, kk, none⟩) (by simp [Value.ownBlock]; exact n3) (.int .i64 (h - min h cap)))
    have OF3 := HD (show Own1 IV 3 w0.heap.size (w4.setCell ⟨gp, kk, none⟩ (.int .i64 (h - min h cap))) ⟨some ⟨gp, 0, none⟩, cp, pq.set kk (h - min h cap)⟩ from OY3.set kk (h - min h cap))
    have hst := HD (hstep.out _ _ _ hHv.out hVv.out hPv.out)
    clear qY0 qY1 qY2 qY3 z1 z2 z3 z4 z5 hBz hUz OY1 OY2 OY3 OZ1 OZ2 OZ3 hstep
    cases b
    ·go_wp2_with fail
     go_roundg (xs.length - (kk + 1))
     case measure => omega
     case rel => exact ⟨kk + 1, false, _, _, _, by omega, by omega, by go_num, rfl, hBf, hUf, OF1.out, OF2.out, OF3.out, LL3.out, hst.out, aside (fun h => by cases h)⟩
    ·by_cases hle : h - min h cap ≤ 1125899906842624
     ·have hFF := HD (hff.out (by first | rfl | trivial) (by rw [hPv.out]; exact hle))
      go_wp2_with fail
      go_roundg (xs.length - (kk + 1))
      case measure => omega
      case rel => exact ⟨kk + 1, true, _, _, _, by omega, by omega, by go_num, rfl, hBf, hUf, OF1.out, OF2.out, OF3.out, LL3.out, hst.out, aside (fun _ => hFF.out)⟩
     ·go_wp2_with fail
      go_roundg (xs.length - (kk + 1))
      case measure => omega
      case rel => exact ⟨kk + 1, false, _, _, _, by omega, by omega, by go_num, rfl, hBf, hUf, OF1.out, OF2.out, OF3.out, LL3.out, hst.out, aside (fun h => by cases h)⟩
   ·have hHH : heldF xs hs kk = 0 := by rw [hH.out, if_pos (by simpa using hk)]
    have LL3 := HD (show (hq.set kk 0).length = xs.length /\ (vq.set kk (min 0 cap)).length = xs.length /\ (pq.set kk (0 - min 0 cap)).length = xs.length by simp only [List.length_set]; exact LL.out)
    have n1' : gv ≠ gh := fun e => n1 e.symm
    have n2' : gp ≠ gh := fun e => n2 e.symm
    have OX1 := HD (show Own1 IV 3 w0.heap.size (w1.setCell ⟨gh, kk, none⟩ (.int .i64 0)) ⟨some ⟨gh, 0, none⟩, ch, hq.set kk 0⟩ from O1h.out.set kk 0)
    have OX2 := HD (O2h.out.other (a := ⟨gh, kk, none⟩) (by simp [Value.ownBlock]; exact n1') (.int .i64 0))
    have OX3 := HD (O3h.out.other (a := ⟨gh, kk, none⟩) (by simp [Value.ownBlock]; exact n2') (.int .i64 0))
    have hBX : Bl w0 (w1.setCell ⟨gh, kk, none⟩ (.int .i64 0)) := Bl.setCell hB1w (by simp only; omega) _
    have hUX : But [gh, gv, gp] w (w1.setCell ⟨gh, kk, none⟩ (.int .i64 0)) := hU1.set _ _ (.inl (by simp))
    have x1 : (w1.setCell ⟨gh, kk, none⟩ (.int .i64 0)).cell? ⟨gh, kk, none⟩ = some (.int .i64 0) := by simp [go_sem, *]
    have x2 : (w1.setCell ⟨gh, kk, none⟩ (.int .i64 0)).cell? ⟨gv, kk, none⟩ = some (.int .i64 v) := keepSet u2 (by simp only; omega)
    have x3 : (w1.setCell ⟨gh, kk, none⟩ (.int .i64 0)).cell? ⟨gp, kk, none⟩ = some (.int .i64 p3) := keepSet u3 (by simp only; omega)
    have x4 : (w1.setCell ⟨gh, kk, none⟩ (.int .i64 0)).cell? ⟨p, 0, none⟩ = some (.slice (some ⟨gv, 0, none⟩) vs.length cv) := keepSet u4 (by simp only; omega)
    have x5 : (w1.setCell ⟨gh, kk, none⟩ (.int .i64 0)).cell? ⟨p, 1, none⟩ = some (.slice (some ⟨gp, 0, none⟩) ps.length cp) := keepSet u5 (by simp only; omega)
    go_wp2_with fail
    clear u1 u2 u3 u4 u5 m1 m2 m3 k1 O1h O2h O3h hB1w hU1 hB1 hzr
    generalize (w1.setCell ⟨gh, kk, none⟩ (.int .i64 0)) = X at *
    obtain ⟨h9, hh9⟩ : ∃ h9 : Int, h9 = 0 := ⟨0, rfl⟩
    rw [<- hh9] at x1 hHH OX1 LL3
    clear hk0 hk1
    have hk0 : 0 ≤ h9 := by omega
    have hk1 : h9 ≤ 4611686018427387904 := by omega
    clear hh9
    have qX0 : ∀ z : Later X, z.at'.cell? ⟨p, 0, none⟩ = some (.slice (some ⟨gv, 0, none⟩) vs.length cv) := fun z => z.keep x4
    have qX1 : ∀ z : Later X, z.at'.cell? ⟨gh, kk, none⟩ = some (.int .i64 h9) := fun z => z.keep x1
    have hHv := HD (show heldF xs hs kk = h9 from hHH)
    have hVv := HD (show volF xs hs kk = min h9 cap from by rw [hV.out, hHv.out])
    have hPv := HD (show pondF xs hs kk = h9 - min h9 cap from by rw [hP.out, hVv.out, hHv.out])
    clear hHH
    refine wp_region_later_tail 12 (by kernel_rfl) (by kernel_rfl) ?_
    simp only [List.take_succ_cons, List.take_zero, List.drop_succ_cons, List.drop_zero]
    repeat (go_big_quiet_step (fail))
    refine wpQuiet_nil ?_
    intro w3 hB3
    have y1 := hB3.keep x1
    have y2 := hB3.keep x2
    have y3 := hB3.keep x3
    have y4 := hB3.keep x4
    have y5 := hB3.keep x5
    have OY1 := OX1.out.bl hB3
    have OY2 := OX2.out.bl hB3
    have OY3 := OX3.out.bl hB3
    have f2 := OY2.fro kk
    have n3' : gp ≠ gv := fun e => n3 e.symm
    have OZ1 := OY1.other (a := ⟨gv, kk, none⟩) (by simp [Value.ownBlock]; exact n1) (.int .i64 (min h9 cap))
    have OZ2 : Own1 IV 3 w0.heap.size (w3.setCell ⟨gv, kk, none⟩ (.int .i64 (min h9 cap))) ⟨some ⟨gv, 0, none⟩, cv, vq.set kk (min h9 cap)⟩ := OY2.set kk (min h9 cap)
    have OZ3 := OY3.other (a := ⟨gv, kk, none⟩) (by simp [Value.ownBlock]; exact n3') (.int .i64 (min h9 cap))
    have hBz : Bl w0 (w3.setCell ⟨gv, kk, none⟩ (.int .i64 (min h9 cap))) := Bl.setCell (hBX.trans hB3) (by simp only; omega) _
    have hUz : But [gh, gv, gp] w (w3.setCell ⟨gv, kk, none⟩ (.int .i64 (min h9 cap))) := (hUX.trans (But.of hB3)).set _ _ (.inl (by simp))
    have z1 : (w3.setCell ⟨gv, kk, none⟩ (.int .i64 (min h9 cap))).cell? ⟨gh, kk, none⟩ = some (.int .i64 h9) := keepSet y1 (by simp only; omega)
    have z2 : (w3.setCell ⟨gv, kk, none⟩ (.int .i64 (min h9 cap))).cell? ⟨gv, kk, none⟩ = some (.int .i64 (min h9 cap)) := by simp [go_sem, *]
    have z3 : (w3.setCell ⟨gv, kk, none⟩ (.int .i64 (min h9 cap))).cell? ⟨gp, kk, none⟩ = some (.int .i64 p3) := keepSet y3 (by simp only; omega)
    have z4 : (w3.setCell ⟨gv, kk, none⟩ (.int .i64 (min h9 cap))).cell? ⟨p, 0, none⟩ = some (.slice (some ⟨gv, 0, none⟩) vs.length cv) := keepSet y4 (by simp only; omega)
    have z5 : (w3.setCell ⟨gv, kk, none⟩ (.int .i64 (min h9 cap))).cell? ⟨p, 1, none⟩ = some (.slice (some ⟨gp, 0, none⟩) ps.length cp) := keepSet y5 (by simp only; omega)
    have OZ1 := HD OZ1
    have OZ2 := HD OZ2
    have OZ3 := HD OZ3
    clear qX0 qX1 OY1 OY2 OY3 hBX hUX hB3 x1 x2 x3 x4 x5 OX1 OX2 OX3
    go_wp2_with fail
    clear y1 y2 y3 y4 y5 f2
    generalize (w3.setCell ⟨gv, kk, none⟩ (.int .i64 (min h9 cap))) = Y at *
    have qY0 : ∀ z : Later Y, z.at'.cell? ⟨p, 0, none⟩ = some (.slice (some ⟨gv, 0, none⟩) vs.length cv) := fun z => z.keep z4
    have qY1 : ∀ z : Later Y, z.at'.cell? ⟨p, 1, none⟩ = some (.slice (some ⟨gp, 0, none⟩) ps.length cp) := fun z => z.keep z5
    have qY2 : ∀ z : Later Y, z.at'.cell? ⟨gh, kk, none⟩ = some (.int .i64 h9) := fun z => z.keep z1
    have qY3 : ∀ z : Later Y, z.at'.cell? ⟨gv, kk, none⟩ = some (.int .i64 (min h9 cap)) := fun z => z.keep z2
    have hwp : IntKind.i64.wrap (h9 - min h9 cap) = h9 - min h9 cap := IntWalk.i64_in _ (by omega)
    refine wp_region_later_tail 18 (by kernel_rfl) (by kernel_rfl) ?_
    simp only [List.take_succ_cons, List.take_zero, List.drop_succ_cons, List.drop_zero]
    repeat (go_big_quiet_step (fail))
    refine wpQuiet_nil ?_
    intro w4 hB4
    have y3 := hB4.keep z3
    have y4 := hB4.keep z4
    have y5 := hB4.keep z5
    have OY1 := OZ1.out.bl hB4
    have OY2 := OZ2.out.bl hB4
    have OY3 := OZ3.out.bl hB4
    have f3 := OY3.fro kk
    have hBf : Bl w0 (w4.setCell ⟨gp, kk, none⟩ (.int .i64 (h9 - min h9 cap))) := Bl.setCell (hBz.trans hB4) (by simp only; omega) _
    have hUf : But [gh, gv, gp] w (w4.setCell ⟨gp, kk, none⟩ (.int .i64 (h9 - min h9 cap))) := (hUz.trans (But.of hB4)).set _ _ (.inl (by simp))
    have t5 : (w4.setCell ⟨gp, kk, none⟩ (.int .i64 (h9 - min h9 cap))).cell? ⟨p, 1, none⟩ = some (.slice (some ⟨gp, 0, none⟩) ps.length cp) := keepSet y5 (by simp only; omega)
    have t3 : (w4.setCell ⟨gp, kk, none⟩ (.int .i64 (h9 - min h9 cap))).cell? ⟨gp, kk, none⟩ = some (.int .i64 (h9 - min h9 cap)) := by simp [go_sem, *]
    have OF1 := HD (OY1.other (a := ⟨gp, kk, none⟩) (by simp [Value.ownBlock]; exact n2) (.int .i64 (h9 - min h9 cap)))
    have OF2 := HD (OY2.other (a := ⟨gp, kk, none⟩) (by simp [Value.ownBlock]; exact n3) (.int .i64 (h9 - min h9 cap)))
    have OF3 := HD (show Own1 IV 3 w0.heap.size (w4.setCell ⟨gp, kk, none⟩ (.int .i64 (h9 - min h9 cap))) ⟨some ⟨gp, 0, none⟩, cp, pq.set kk (h9 - min h9 cap)⟩ from OY3.set kk (h9 - min h9 cap))
    have hst := HD (hstep.out _ _ _ hHv.out hVv.out hPv.out)
    clear qY0 qY1 qY2 qY3 z1 z2 z3 z4 z5 hBz hUz OY1 OY2 OY3 OZ1 OZ2 OZ3 hstep
    cases b
    ·go_wp2_with fail
     go_roundg (xs.length - (kk + 1))
     case measure => omega
     case rel => exact ⟨kk + 1, false, _, _, _, by omega, by omega, by go_num, rfl, hBf, hUf, OF1.out, OF2.out, OF3.out, LL3.out, hst.out, aside (fun h => by cases h)⟩
    ·by_cases hle : h9 - min h9 cap ≤ 1125899906842624
     ·have hFF := HD (hff.out (by first | rfl | trivial) (by rw [hPv.out]; exact hle))
      go_wp2_with fail
      go_roundg (xs.length - (kk + 1))
      case measure => omega
      case rel => exact ⟨kk + 1, true, _, _, _, by omega, by omega, by go_num, rfl, hBf, hUf, OF1.out, OF2.out, OF3.out, LL3.out, hst.out, aside (fun _ => hFF.out)⟩
     ·go_wp2_with fail
      go_roundg (xs.length - (kk + 1))
      case measure => omega
      case rel => exact ⟨kk + 1, false, _, _, _, by omega, by omega, by go_num, rfl, hBf, hUf, OF1.out, OF2.out, OF3.out, LL3.out, hst.out, aside (fun h => by cases h)⟩
  ·have hltz : ¬ (kk : Int) < (xs.length : Int) := by omega
   have hkk' : kk = xs.length := by omega
   go_wp2_with fail
   rw [hRh.out]
   exact ⟨b, hq, vq, pq, rfl, LL.out.1, LL.out.2.1, LL.out.2.2, fun i hi => (PP.out i hi).1 (by omega), fun hb i hi => FF.out hb i (by omega), OH.out, OV.out, OP.out, BU', BW'⟩
theorem e111 (args : Array Value) (w : World) : (callFunc 111 args).run Tryz.prog w = .ok (.enter 111 args) w := enters_of Tryz.func111 (by kernel_rfl) rfl args w
theorem e113 (args : Array Value) (w : World) : (callFunc 113 args).run Tryz.prog w = .ok (.enter 113 args) w := enters_of Tryz.func113 (by kernel_rfl) rfl args w
theorem f113_c (v : Int) (w : World) : Calls Tryz.prog 113 #[.int .i64 v] w fun e w' => e = .returned (.bool (!(decide (0 ≤ v) && decide (v ≤ 1125899906842624)))) /\ Bl w w' := by
 go_enter Tryz.func113, Tryz.ntmps113
 go_wp2_with fail
 refine (f114_c _ _ _).mono ?_
 rintro e w1 ⟨rfl, rfl⟩
 go_wp2_with fail
 go_ret
 exact ⟨rfl, bz⟩
theorem f111_c (q : Int) (w : World) : Calls Tryz.prog 111 #[.int .i64 q] w fun e w' => e = .returned (.tuple #[.agg #[.slice none 0 0, .slice none 0 0, .slice none 0 0, .slice none 0 0], .agg #[.int .i64 0, .int .i64 0, .slice none 0 0], .int .i64 q]) /\ Bl w w' := by
 go_enter Tryz.func111, Tryz.ntmps111
 go_wp2_with fail
 exact bodyPost_ret (v := .tuple #[.agg #[.slice none 0 0, .slice none 0 0, .slice none 0 0, .slice none 0 0], .agg #[.int .i64 0, .int .i64 0, .slice none 0 0], .int .i64 q]) (by simp [results, Tryz.results111, go_sem, *]; try exact ⟨rfl, rfl⟩) rfl ⟨rfl, bz⟩
def outS (es : List (Int × Int)) (p : List Int) (i : Nat) (m : Nat) : Int := sumTo (fun k => if (es[k]!).1 = (i : Int) then p[k]! else 0) m
def inS (es : List (Int × Int)) (p : List Int) (i : Nat) (m : Nat) : Int := sumTo (fun k => if (es[k]!).2 = (i : Int) then p[k]! else 0) m
def kd (xs : List Nd) (i : Nat) : Int := (xs[i]!).kind
def wentS (xs : List Nd) (es : List (Int × Int)) (p : List Int) (m : Nat) : Int := sumTo (fun k => if kd xs (es[k]!).2.toNat = 3 then p[k]! else 0) m
def cameS (xs : List Nd) (inf : List Int) (m : Nat) : Int := sumTo (fun i => if kd xs i = 3 then inf[i]! else 0) m
def holdK (xs : List Nd) (es : List (Int × Int)) (p : List Int) (hA : Nat -> Int) (k i : Nat) : Int := hA i - outS es p i k + (if kd xs i = 3 then 0 else inS es p i k)
structure StepOk (n : Net) (s s' : St) (inf : List Int) (g : Led) : Prop where
 il : inf.length = n.nodes.xs.length
 ib : ∀ i, i < inf.length -> 0 ≤ inf[i]! /\ inf[i]! ≤ 1125899906842624
 ok : StateOk n s'
 pl : g.pass.xs.length = n.links.xs.length
 pb : ∀ k, k < n.links.xs.length -> 0 ≤ g.pass.xs[k]! /\ g.pass.xs[k]! ≤ 9007199254740992
 bal : ∀ i, i < n.nodes.xs.length -> kd n.nodes.xs i ≠ 3 -> s'.vol.xs[i]! + s'.pond.xs[i]! = s.vol.xs[i]! + s.pond.xs[i]! + inf[i]! - outS (edgesN n) g.pass.xs i n.links.xs.length + inS (edgesN n) g.pass.xs i n.links.xs.length
 inn : g.inn = sumTo (fun i => inf[i]!) n.nodes.xs.length
 out : g.out = cameS n.nodes.xs inf n.nodes.xs.length + wentS n.nodes.xs (edgesN n) g.pass.xs n.links.xs.length
theorem sumAt_outsE (es : List (Int × Int)) (p : List Int) (i : Nat) : ∀ m, sumAt p (outsE es i m) = outS es p i m
 | 0 => rfl
 | m + 1 => by
  have ih := sumAt_outsE es p i m
  simp only [outsE, outS, sumTo] at ih ⊢
  split
  ·rw [sumAt_app, ih]
   simp [sumAt]
  ·rw [ih]; omega
theorem sumTo_nonneg {f : Nat -> Int} : ∀ (k : Nat), (∀ i, i < k -> 0 ≤ f i) -> 0 ≤ sumTo f k
 | 0, _ => Int.le_refl _
 | k + 1, h => by
  have h1 := sumTo_nonneg k (fun i hi => h i (by omega))
  have h2 := h k (by omega)
  simp only [sumTo]; omega
theorem sumTo_mono {f : Nat -> Int} {k : Nat} : ∀ (d : Nat), (∀ i, i < k + d -> 0 ≤ f i) -> sumTo f k ≤ sumTo f (k + d)
 | 0, _ => Int.le_refl _
 | d + 1, h => by
  have h1 := sumTo_mono (f := f) (k := k) d (fun i hi => h i (by omega))
  have h2 := h (k + d) (by omega)
  show _ ≤ sumTo f (k + d) + f (k + d)
  omega
theorem outS_bound {es : List (Int × Int)} {p : List Int} {m : Nat} (hp : ∀ k, k < m -> 0 ≤ p[k]!) {i k : Nat} (hk : k ≤ m) : 0 ≤ outS es p i k /\ outS es p i k ≤ outS es p i m := by
 have h : ∀ j, j < m -> 0 ≤ (fun k => if (es[k]!).1 = (i : Int) then p[k]! else 0) j := fun j hj => by
  have := hp j hj
  dsimp only
  split <;> omega
 refine ⟨sumTo_nonneg k (fun j hj => h j (by omega)), ?_⟩
 have := sumTo_mono (k := k) (m - k) (fun j hj => h j (by omega))
 rwa [show k + (m - k) = m by omega] at this
theorem inS_bound {es : List (Int × Int)} {p : List Int} {m : Nat} (hp : ∀ k, k < m -> 0 ≤ p[k]! /\ p[k]! ≤ 9007199254740992) {i k : Nat} (hk : k ≤ m) : 0 ≤ inS es p i k /\ inS es p i k ≤ k * 9007199254740992 := by
 refine sumTo_bound k (fun j hj => ?_)
 have := hp j (by omega)
 constructor <;> (split <;> omega)
theorem wentS_bound {xs : List Nd} {es : List (Int × Int)} {p : List Int} {m : Nat} (hp : ∀ k, k < m -> 0 ≤ p[k]! /\ p[k]! ≤ 9007199254740992) {k : Nat} (hk : k ≤ m) : 0 ≤ wentS xs es p k /\ wentS xs es p k ≤ k * 9007199254740992 := by
 refine sumTo_bound k (fun j hj => ?_)
 have := hp j (by omega)
 constructor <;> (split <;> omega)
theorem cameS_bound {xs : List Nd} {inf : List Int} {m : Nat} (hp : ∀ k, k < m -> 0 ≤ inf[k]! /\ inf[k]! ≤ 1125899906842624) {k : Nat} (hk : k ≤ m) : 0 ≤ cameS xs inf k /\ cameS xs inf k ≤ k * 1125899906842624 := by
 refine sumTo_bound k (fun j hj => ?_)
 have := hp j (by omega)
 constructor <;> (split <;> omega)
theorem pass_le {es : List (Int × Int)} {p : List Int} {m : Nat} (hp : ∀ k, k < m -> 0 ≤ p[k]!) {k i : Nat} (hk : k < m) (he : (es[k]!).1 = (i : Int)) : p[k]! ≤ outS es p i m := by
 have h1 := (outS_bound (es := es) hp (i := i) (k := k + 1) (by omega)).2
 have h2 := (outS_bound (es := es) hp (i := i) (k := k) (by omega)).1
 have e : outS es p i (k + 1) = outS es p i k + p[k]! := by
  show outS es p i k + (if (es[k]!).1 = (i : Int) then p[k]! else 0) = _
  rw [if_pos he]
 omega
theorem holdK_bound {xs : List Nd} {es : List (Int × Int)} {p : List Int} {hA : Nat -> Int} {m : Nat} (hm : m ≤ 400) (hp : ∀ k, k < m -> 0 ≤ p[k]! /\ p[k]! ≤ 9007199254740992) {i k : Nat} (hk : k ≤ m) (h1 : 0 ≤ hA i /\ hA i ≤ 9007199254740992) (h2 : outS es p i m ≤ hA i) :
 0 ≤ holdK xs es p hA k i /\ holdK xs es p hA k i ≤ 4503599627370496000 := by
 have g1 := outS_bound (es := es) (fun k hk => (hp k hk).1) (i := i) hk
 have g2 := inS_bound (es := es) hp (i := i) hk
 unfold holdK
 split <;> omega
theorem holdK_zero (xs : List Nd) (es : List (Int × Int)) (p : List Int) (hA : Nat -> Int) (i : Nat) : holdK xs es p hA 0 i = hA i := by
 simp [holdK, outS, inS, sumTo]
theorem holdK_step {xs : List Nd} {es : List (Int × Int)} {p : List Int} {hA : Nat -> Int} {k a d : Nat} (ha : (es[k]!).1 = (a : Int)) (hd : (es[k]!).2 = (d : Int)) {hq : List Int} {nn : Nat} (hl : hq.length = nn) (hh : ∀ i, i < nn -> hq[i]! = holdK xs es p hA k i) (hdn : d < nn) :
 (kd xs d = 3 -> ∀ i, i < nn -> (hq.set a (hq[a]! - p[k]!))[i]! = holdK xs es p hA (k + 1) i) /\
 (kd xs d ≠ 3 -> ∀ i, i < nn -> ((hq.set a (hq[a]! - p[k]!)).set d ((hq.set a (hq[a]! - p[k]!))[d]! + p[k]!))[i]! = holdK xs es p hA (k + 1) i) := by
 have e1 : ∀ i, outS es p i (k + 1) = outS es p i k + (if a = i then p[k]! else 0) := fun i => by
  show outS es p i k + (if (es[k]!).1 = (i : Int) then p[k]! else 0) = _
  rw [ha]
  by_cases h : a = i
  ·subst h; simp
  ·rw [if_neg h, if_neg (by omega)]
 have e2 : ∀ i, inS es p i (k + 1) = inS es p i k + (if d = i then p[k]! else 0) := fun i => by
  show inS es p i k + (if (es[k]!).2 = (i : Int) then p[k]! else 0) = _
  rw [hd]
  by_cases h : d = i
  ·subst h; simp
  ·rw [if_neg h, if_neg (by omega)]
 have g : ∀ i, i < nn -> (hq.set a (hq[a]! - p[k]!))[i]! = holdK xs es p hA k i - (if a = i then p[k]! else 0) := fun i hi => by
  rw [get!_set (by omega)]
  by_cases h : i = a
  ·subst h; rw [if_pos rfl, if_pos rfl, hh i hi]
  ·rw [if_neg h, if_neg (fun e => h e.symm), hh i hi]; omega
 refine ⟨fun h3 i hi => ?_, fun h3 i hi => ?_⟩
 ·rw [g i hi]
  unfold holdK
  rw [e1, e2]
  by_cases h : d = i
  ·subst h; rw [if_pos h3, if_pos h3]; omega
  ·rw [if_neg h]; split <;> omega
 ·rw [get!_set (by simpa using (by omega : i < hq.length)), g i hi, g d hdn]
  unfold holdK
  rw [e1, e2]
  by_cases h : i = d
  ·subst h
   by_cases ha' : a = i <;> simp [ha', h3] <;> omega
  ·have h' : ¬ d = i := fun e => h e.symm
   by_cases ha' : a = i <;> by_cases h4 : kd xs i = 3 <;> simp [ha', h4, h, h'] <;> omega
theorem stepOk_of {A A2 : Option Addr} {c c2 : Nat} {xs : List Nd} {ls : List Lk} {sv sp ss : Sl Int} {so : Sl Bool} {ex : List (Int × Int)} {is h2 hs8 hq vs13 ps13 sx qx : List Int} {nx : List Bool} {VA PA SA NA QA : Option Addr} {vc pc sc nc qc : Nat} {gi go g2 : Int}
 (hok : StateOk ⟨⟨A, c, xs⟩, ⟨A2, c2, ls⟩⟩ ⟨sv, sp, ss, so⟩) (hex : ex = edgesN ⟨⟨A, c, xs⟩, ⟨A2, c2, ls⟩⟩) (hil : is.length = xs.length) (hib : ∀ i, i < is.length -> 0 ≤ is[i]! /\ is[i]! ≤ 1125899906842624)
 (hv : vs13.length = xs.length) (hp : ps13.length = xs.length) (hsl : sx.length = ls.length) (hnl : nx.length = ls.length) (hql : qx.length = ls.length) (hpb : ∀ k, k < ls.length -> 0 ≤ qx[k]! /\ qx[k]! ≤ 9007199254740992)
 (hkd : ∀ i (h : i < nx.length) (h2 : i < ls.length), nx[i] = true -> ls[i].kind = 4) (hsx : sx = ss.xs)
 (hpt : ∀ i, i < xs.length -> vs13[i]! = volF xs h2 i /\ ps13[i]! = pondF xs h2 i) (hfit : ∀ i, i < xs.length -> pondF xs h2 i ≤ 1125899906842624)
 (hHP : ∀ i, i < xs.length -> h2[i]! = holdK xs ex qx (fun i => hs8[i]!) ls.length i) (hs8b : ∀ i, i < xs.length -> hs8[i]! = (if kd xs i = 3 then 0 else hq[i]!))
 (hQX : ∀ i, i < xs.length -> hq[i]! = if kd xs i ≠ 3 then sv.xs[i]! + sp.xs[i]! + is[i]! else sv.xs[i]! + sp.xs[i]!)
 (hGI : gi = sumTo (fun i => is[i]!) xs.length) (hGO : go = cameS xs is xs.length) (hG2 : g2 = go + wentS xs ex qx ls.length)
 (hcap : ∀ i, i < xs.length -> 0 ≤ capN xs[i]! /\ capN xs[i]! ≤ 1125899906842624) (hh2 : ∀ i, i < xs.length -> 0 ≤ h2[i]!) :
 StepOk ⟨⟨A, c, xs⟩, ⟨A2, c2, ls⟩⟩ ⟨sv, sp, ss, so⟩ ⟨⟨VA, vc, vs13⟩, ⟨PA, pc, ps13⟩, ⟨SA, sc, sx⟩, ⟨NA, nc, nx⟩⟩ is ⟨gi, g2, ⟨QA, qc, qx⟩⟩ where
 il := hil
 ib := hib
 ok := by
  refine ⟨hok.1, hv, hp, hsl, hnl, fun k h h1 h2' => ?_, fun k h h1 h2' => ?_⟩
  ·have e1 := (hpt k h).1
   have e2 := (hpt k h).2
   have hf := hfit k h
   have hc := hcap k h
   have hh := hh2 k h
   simp only at h h1 h2'
   rw [getElem!_pos vs13 k h1] at e1
   rw [getElem!_pos ps13 k h2'] at e2
   have hv0 : volF xs h2 k = min (heldF xs h2 k) (capN xs[k]!) := rfl
   have hp0 : pondF xs h2 k = heldF xs h2 k - volF xs h2 k := rfl
   have hh0 : heldF xs h2 k = if xs[k]!.kind = 3 then 0 else h2[k]! := rfl
   have hx : xs[k]! = xs[k] := getElem!_pos xs k h
   rw [hx] at hc hv0 hh0
   show inR 0 (capN xs[k]) vs13[k] = true /\ inR 0 1125899906842624 ps13[k] = true /\ (xs[k].kind = 3 -> ps13[k] = 0)
   rw [inR_iff, inR_iff, e1, e2]
   have hge : 0 ≤ heldF xs h2 k := by rw [hh0]; split <;> omega
   refine ⟨by omega, by omega, fun h3 => ?_⟩
   rw [if_pos h3] at hh0
   omega
  ·simp only at h h1 h2'
   subst hsx
   have h4 := (hok.2.2.2.2.2.2 k h h1 (by have := hok.2.2.2.2.1; simp only at this ⊢; omega)).1
   exact ⟨h4, hkd k h2' h⟩
 pl := hql
 pb := hpb
 bal := fun i hi h3 => by
  show vs13[i]! + ps13[i]! = sv.xs[i]! + sp.xs[i]! + is[i]! - outS _ qx i ls.length + inS _ qx i ls.length
  have h3' : ¬ kd xs i = 3 := h3
  rw [(hpt i hi).1, (hpt i hi).2, <- hex]
  have hp0 : pondF xs h2 i = heldF xs h2 i - volF xs h2 i := rfl
  have hh0 : heldF xs h2 i = if kd xs i = 3 then 0 else h2[i]! := rfl
  have e1 : h2[i]! = hs8[i]! - outS ex qx i ls.length + (if kd xs i = 3 then 0 else inS ex qx i ls.length) := hHP i hi
  have e2 := hs8b i hi
  have e3 := hQX i hi
  rw [if_neg h3'] at e1 e2 hh0
  rw [if_pos h3] at e3
  omega
 inn := hGI
 out := by
  show g2 = cameS xs is xs.length + wentS xs (edgesN _) qx ls.length
  rw [<- hex, hG2, hGO]
def NewSt (w : World) (s : St) : Prop := New w s.vol /\ New w s.pond /\ New w s.set /\ New w s.on
def RStep (n : Net) (s : St) (inf : List Int) (w : World) (e : Ending) (w' : World) : Prop := ∃ (s' : St) (g : Led) (q : Int), e = .returned (.tuple #[s'.val, g.val, .int .i64 q]) /\ (InSt w' s' /\ NewSt w s') /\ (InLed w' g /\ New w g.pass) /\ (q = 0 -> StepOk n s s' inf g) /\ Bl w w'
theorem RStep.no {n : Net} {s : St} {inf : List Int} {w w' : World} {q : Int} (hq : ¬ q = 0) (hb : Bl w w') : RStep n s inf w (.returned (.tuple #[.agg #[.slice none 0 0, .slice none 0 0, .slice none 0 0, .slice none 0 0], .agg #[.int .i64 0, .int .i64 0, .slice none 0 0], .int .i64 q])) w' :=
 ⟨⟨⟨none, 0, []⟩, ⟨none, 0, []⟩, ⟨none, 0, []⟩, ⟨none, 0, []⟩⟩, ⟨0, 0, ⟨none, 0, []⟩⟩, q, rfl, ⟨⟨InI_nil _, InI_nil _, InI_nil _, InB_nil _⟩, New.nil, New.nil, New.nil, New.nil⟩, ⟨InI_nil _, New.nil⟩, fun h => absurd h hq, hb⟩
theorem setSame {w : World} {p : Addr} {u : Value} (h : (w.cell? p).isSome = true) : (w.setCell p u).cell? p = some u := by
 obtain ⟨v, hv⟩ := Option.isSome_iff_exists.1 h
 simp [go_sem, hv]
theorem setOff {w : World} {b o o' : Nat} {u : Value} (h : o ≠ o') : (w.setCell ⟨b, o, none⟩ u).cell? ⟨b, o', none⟩ = w.cell? ⟨b, o', none⟩ := by
 simp [go_sem, h]
theorem setBlk' {w : World} {b b' o o' : Nat} {u : Value} (h : b' ≠ b) : (w.setCell ⟨b, o, none⟩ u).cell? ⟨b', o', none⟩ = w.cell? ⟨b', o', none⟩ := World.cell?_of_block (w := w) (Below.heap_setCell w _ u b' h)
theorem res_set (X Y : World) (b2 b3 : Nat) (v0 v1 v2 v3 g0 g1 g2 : Value) (hY : Y = (((((((X.setCell ⟨b2, 0, none⟩ v0).setCell ⟨b2, 1, none⟩ v1).setCell ⟨b2, 2, none⟩ v2).setCell ⟨b2, 3, none⟩ v3).setCell ⟨b3, 0, none⟩ g0).setCell ⟨b3, 1, none⟩ g1).setCell ⟨b3, 2, none⟩ g2)) (hne : b2 ≠ b3) (h0 : (X.cell? ⟨b2, 0, none⟩).isSome = true) (h1 : (X.cell? ⟨b2, 1, none⟩).isSome = true) (h2 : (X.cell? ⟨b2, 2, none⟩).isSome = true) (h3 : (X.cell? ⟨b2, 3, none⟩).isSome = true) (k0 : (X.cell? ⟨b3, 0, none⟩).isSome = true) (k1 : (X.cell? ⟨b3, 1, none⟩).isSome = true) (k2 : (X.cell? ⟨b3, 2, none⟩).isSome = true) :
 Y.cell? ⟨b2, 0, none⟩ = some v0 /\ Y.cell? ⟨b2, 1, none⟩ = some v1 /\ Y.cell? ⟨b2, 2, none⟩ = some v2 /\ Y.cell? ⟨b2, 3, none⟩ = some v3 /\ Y.cell? ⟨b3, 0, none⟩ = some g0 /\ Y.cell? ⟨b3, 1, none⟩ = some g1 /\ Y.cell? ⟨b3, 2, none⟩ = some g2 := by
 subst hY
 have hne' : b3 ≠ b2 := fun e => hne e.symm
 refine ⟨?_, ?_, ?_, ?_, ?_, ?_, ?_⟩
 all_goals
  repeat (first | rw [setBlk' hne] | rw [setBlk' hne'] | rw [setOff (by decide)])
  refine setSame ?_
  repeat (first | rw [setBlk' hne] | rw [setBlk' hne'] | rw [setOff (by decide)])
  assumption
theorem ret82 (R : Ending -> World -> Prop) (tmps : Array Value) (b2 b3 : Nat) (v0 v1 v2 v3 g0 g1 g2 q : Value) (X : World) (t10 : tmps[10]? = some (.pointer (some ⟨b2, 0, none⟩))) (t11 : tmps[11]? = some (.pointer (some ⟨b3, 0, none⟩))) (t12 : tmps[12]? = some q)
 (hc : X.cell? ⟨b2, 0, none⟩ = some v0 /\ X.cell? ⟨b2, 1, none⟩ = some v1 /\ X.cell? ⟨b2, 2, none⟩ = some v2 /\ X.cell? ⟨b2, 3, none⟩ = some v3 /\ X.cell? ⟨b3, 0, none⟩ = some g0 /\ X.cell? ⟨b3, 1, none⟩ = some g1 /\ X.cell? ⟨b3, 2, none⟩ = some g2)
 (h : R (.returned (.tuple #[.agg #[v0, v1, v2, v3], .agg #[g0, g1, g2], q])) X) : bodyPost Tryz.prog Tryz.f82 R Exit.ret { tmps := tmps, defers := [] } X := by
 obtain ⟨c0, c1, c2, c3, d0, d1, d2⟩ := hc
 exact bodyPost_ret (v := .tuple #[.agg #[v0, v1, v2, v3], .agg #[g0, g1, g2], q]) (by simp [results, Tryz.results82, go_sem, t10, t11, t12, c0, c1, c2, c3, d0, d1, d2]; try exact ⟨rfl, rfl⟩) rfl h
def RSet2 (xs : List Nd) (H V P : Sl Int) (L : List Nat) (w0 w : World) (e : Ending) (w' : World) : Prop :=
 ∃ (b : Bool) (hs' vs' ps' : List Int), e = .returned (.bool b) /\ hs'.length = xs.length /\ vs'.length = xs.length /\ ps'.length = xs.length /\
  (∀ i, i < xs.length -> hs'[i]! = heldF xs H.xs i /\ vs'[i]! = volF xs H.xs i /\ ps'[i]! = pondF xs H.xs i) /\
  (b = true -> ∀ i, i < xs.length -> pondF xs H.xs i ≤ 1125899906842624) /\
  Own1 IV 3 w0.heap.size w' ⟨H.A, H.cap, hs'⟩ /\ Own1 IV 3 w0.heap.size w' ⟨V.A, V.cap, vs'⟩ /\ Own1 IV 3 w0.heap.size w' ⟨P.A, P.cap, ps'⟩ /\
  But L w w' /\ Bl w0 w'
theorem f118_nil (A A2 : Option Addr) (c c2 p : Nat) (ls : List Lk) (H : Sl Int) (w : World) : Calls Tryz.prog 118 #[.agg #[.slice A 0 c, .slice A2 ls.length c2], .pointer (some ⟨p, 0, none⟩), H.val] w fun e w' => e = .returned (.bool true) /\ Bl w w' := by
 go_enter Tryz.func118, Tryz.ntmps118
 go_wp2_with fail
 refine wp_loop_rounds 1 ?_
 rw [rounds_succ]
 go_wp2_with fail
 go_ret
 exact ⟨rfl, bz⟩
theorem f118_g (n : Net) (p : Nat) (H V P : Sl Int) (L : List Nat) (w0 w : World)
 (hN : InNet w0 n) (h0 : Bl w0 w)
 (hok : ∀ i, i < n.nodes.xs.length -> nodeB n.nodes.xs[i]! = true /\ 0 ≤ H.xs[i]! /\ H.xs[i]! ≤ 4611686018427387904 /\ 0 ≤ capN n.nodes.xs[i]!)
 (hp0 : w.cell? ⟨p, 0, none⟩ = some V.val) (hp1 : w.cell? ⟨p, 1, none⟩ = some P.val) (hb0 : w0.heap.size ≤ p)
 (OH : Own1 IV 3 w0.heap.size w H) (OV : Own1 IV 3 w0.heap.size w V) (OP : Own1 IV 3 w0.heap.size w P)
 (hl1 : H.xs.length = n.nodes.xs.length) (hl2 : V.xs.length = n.nodes.xs.length) (hl3 : P.xs.length = n.nodes.xs.length)
 (n1 : ∀ g, H.val.ownBlock = some g -> V.val.ownBlock ≠ some g /\ P.val.ownBlock ≠ some g /\ p ≠ g /\ g ∈ L)
 (n2 : ∀ g, V.val.ownBlock = some g -> P.val.ownBlock ≠ some g /\ p ≠ g /\ g ∈ L) (n3 : ∀ g, P.val.ownBlock = some g -> p ≠ g /\ g ∈ L) :
 Calls Tryz.prog 118 #[n.val, .pointer (some ⟨p, 0, none⟩), H.val] w (RSet2 n.nodes.xs H V P L w0 w) := by
 obtain ⟨⟨A, c, xs⟩, ⟨A2, c2, ls⟩⟩ := n
 obtain ⟨HA, hc, hs⟩ := H
 obtain ⟨VA, vc, vs⟩ := V
 obtain ⟨PA, pc, ps⟩ := P
 simp only at hok hl1 hl2 hl3
 by_cases hx : xs = []
 ·subst hx
  simp only [List.length_nil] at hl1 hl2 hl3
  have e1 := List.eq_nil_of_length_eq_zero hl1
  have e2 := List.eq_nil_of_length_eq_zero hl2
  have e3 := List.eq_nil_of_length_eq_zero hl3
  subst e1 e2 e3
  refine (f118_nil A A2 c c2 p ls ⟨HA, hc, []⟩ w).mono ?_
  rintro e w' ⟨rfl, hb⟩
  exact ⟨true, [], [], [], rfl, rfl, rfl, rfl, fun i hi => by simp at hi, fun _ i hi => by simp at hi, OH.bl hb, OV.bl hb, OP.bl hb, But.of hb, h0.trans hb⟩
 ·have hpos : 0 < xs.length := List.length_pos_iff.mpr hx
  obtain ⟨gh, hA1, _, _⟩ := OH.ptr (by intro e; simp only at e; rw [e] at hl1; simp at hl1; omega)
  obtain ⟨gv, hA2, _, _⟩ := OV.ptr (by intro e; simp only at e; rw [e] at hl2; simp at hl2; omega)
  obtain ⟨gp, hA3, _, _⟩ := OP.ptr (by intro e; simp only at e; rw [e] at hl3; simp at hl3; omega)
  simp only at hA1 hA2 hA3
  subst hA1 hA2 hA3
  have m1 := n1 gh rfl
  have m2 := n2 gv rfl
  have m3 := n3 gp rfl
  have k1 : gh ≠ gv := fun e => m1.1 (by simp [Sl.val, Value.ownBlock, e])
  have k2 : gh ≠ gp := fun e => m1.2.1 (by simp [Sl.val, Value.ownBlock, e])
  have k3 : gv ≠ gp := fun e => m2.1 (by simp [Sl.val, Value.ownBlock, e])
  refine (f118_core A A2 c c2 xs ls p gh gv gp hc vc pc hs vs ps w0 w hN h0 hok hp0 hp1 hb0 OH OV OP hl1 hl2 hl3 k1 k2 k3 m1.2.2.1 m2.2.1 m3.1).mono ?_
  rintro e w' ⟨b, hs', vs', ps', h1, h2, h3, h4, h5, h6, h7, h8, h9, h10, h11⟩
  exact ⟨b, hs', vs', ps', h1, h2, h3, h4, h5, h6, h7, h8, h9, h10.more (fun k hk => by
   simp only [List.mem_cons, List.not_mem_nil, or_false] at hk
   rcases hk with rfl | rfl | rfl
   ·exact m1.2.2.2
   ·exact m2.2.2
   ·exact m3.2), h11⟩
end Go.Proofs.YtnnhnkpoekbahaaGreat
