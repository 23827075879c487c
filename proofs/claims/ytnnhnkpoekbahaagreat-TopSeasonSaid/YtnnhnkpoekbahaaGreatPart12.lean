/- TopSeason: part 13 of 16: Prt Rep Bst Sm3 Pin -/
import Derived.Test.YtnnhnkpoekbahaaGreatPart11
import Derived.Test.YtnnhnkpoekbahaaGreatPart10
import Derived.Test.YtnnhnkpoekbahaaGreatPart04
import Derived.Test.YtnnhnkpoekbahaaGreatPart09
import Derived.Laws.CopyOwn
import Derived.Deep.DeepCutAuto
namespace Go.Proofs.YtnnhnkpoekbahaaGreat
open Go.RowKit
set_option maxHeartbeats 400000
set_option linter.unusedSimpArgs false
set_option linter.unusedVariables false
set_option maxRecDepth 100000
theorem field133_0 (a b : Value) (w : World) : Sem.run Tryz.prog (Instr.field 133 (.agg #[a, b]) 0) w = .ok a w := by kernel_rfl
set_option maxHeartbeats 4000000 in
theorem f30_c (n : Net) (nm : Sl ByteArray) (s s' : St) (inf : Sl Int) (g : Led) (w : World) (hN : InNet w n) (hM : InS w nm) (ht : InSt w s) (ht' : InSt w s') (hI : InI w inf) (hg : InLed w g) (h : Given n s s' inf.xs g) (hst : StepOk n s s' inf.xs g)
 (hn : ∀ y ∈ nm.xs, 0 ≤ ndIx n y) (hp : nm.xs.Pairwise (fun a b => ndIx n a ≠ ndIx n b)) :
 Calls Tryz.prog 30 #[n.val, nm.val, s.val, s'.val, inf.val, g.val] w fun e w' => e = .returned (.tuple #[.int .i64 0, .int .i64 0]) /\ Bl w w' := by
 have T57 := HD (fun W (hb : Bl w W) => f57_c n s s' inf g W (InNet.up hN hb) (InSt.up ht hb) (InSt.up ht' hb) (InI.up hI hb) (InLed.up hg hb) h)
 have T58 := HD (fun W (hb : Bl w W) (ins : Sl Bool) (hB : InB W ins) (hl : ins.xs.length = n.nodes.xs.length) => f58_c n ins s s' inf g.pass g W (InNet.up hN hb) hB (InSt.up ht hb) (InSt.up ht' hb) (InI.up hI hb) (InLed.up hg hb) h.ok hst rfl hl)
 have hnb := h.ok.1
 have hx := ((netB_iff n).mp hnb).1
 have T56 : Hid (∀ W y, Bl w W -> 0 ≤ ndIx n y -> Calls Tryz.prog 56 #[n.val, .string y] W fun e w' => e = .returned (.tuple #[.int .i64 (ndIx n y), .int .i64 0]) /\ Bl W w') := fun W y hb h0 => by
  have := f56_c n y W (InNet.up hN hb)
  unfold ndErr at this
  rw [if_pos hnb, if_neg (by omega)] at this
  exact this
 have hMh := HD hM
 have hrm := hM.room
 have hnh := HD hn
 have hph := HD hp
 have hrg : Hid (∀ y, 0 ≤ ndIx n y -> ∃ i : Nat, i < n.nodes.xs.length /\ ndIx n y = (i : Int)) := fun y hy => by
  rcases ix_range (fun z : Nd => z.name == y) n.nodes.xs with h1 | ⟨i, hi, h1⟩
  ·have : ndIx n y = -1 := h1
   omega
  ·exact ⟨i, hi, h1⟩
 obtain ⟨N, hN0⟩ : ∃ N : ByteArray -> Int, N = ndIx n := ⟨_, rfl⟩
 rw [<- hN0] at hnh hph hrg T56
 obtain ⟨lost, hlost⟩ : ∃ f : Sl Bool -> Int, f = fun ins => lostA n ins.xs inf.xs g.pass.xs := ⟨_, rfl⟩
 have T58' : Hid (∀ W, Bl w W -> ∀ ins : Sl Bool, InB W ins -> ins.xs.length = n.nodes.xs.length -> Calls Tryz.prog 58 #[n.val, ins.val, s.val, s'.val, inf.val, g.pass.val] W fun e w' => e = .returned (.agg #[.int .i64 0, .int .i64 (lost ins)]) /\ Bl W w') := by subst hlost; exact T58
 clear T58 hN hM ht ht' hI hg h hst hn hp hnb hN0 hlost
 obtain ⟨⟨A, c, xs⟩, ⟨A2, c2, ls⟩⟩ := n
 obtain ⟨⟨VA, vc, vs⟩, ⟨PA, pc, ps⟩, ⟨SA, sc, ss⟩, ⟨OA, oc, os⟩⟩ := s
 obtain ⟨⟨VA', vc', vs'⟩, ⟨PA', pc', ps'⟩, ⟨SA', sc', ss'⟩, ⟨OA', oc', os'⟩⟩ := s'
 obtain ⟨IA, ic, is⟩ := inf
 obtain ⟨gi, go, ⟨GA, gc, gs⟩⟩ := g
 obtain ⟨MA, mc, ms⟩ := nm
 simp only at hx hrm
 obtain ⟨i0, hi, hz0, hz1, hz2⟩ := i4
 have HJ := HD (And.intro hi (And.intro hz0 (And.intro hz1 hz2)))
 have HU := HD u29
 have hf0 := field133_0
 clear hi hz0 hz1 hz2
 show Calls Tryz.prog 30 #[.agg #[.slice A xs.length c, .slice A2 ls.length c2], .slice MA ms.length mc, .agg #[.slice VA vs.length vc, .slice PA ps.length pc, .slice SA ss.length sc, .slice OA os.length oc], .agg #[.slice VA' vs'.length vc', .slice PA' ps'.length pc', .slice SA' ss'.length sc', .slice OA' os'.length oc'], .slice IA is.length ic, .agg #[.int .i64 gi, .int .i64 go, .slice GA gs.length gc]] w _
 go_enter Tryz.func30, Tryz.ntmps30
 go_wp2_with fail
 refine (T57.out _ bz).mono ?_
 rintro e w1 ⟨rfl, hw1⟩
 have a0 : w1.cell? ⟨w.heap.size, 0, none⟩ = some (.slice A xs.length c) := hw1.keep (by simp [go_sem])
 have a1 : w1.cell? ⟨w.heap.size, 1, none⟩ = some (.slice A2 ls.length c2) := hw1.keep (by simp [go_sem])
 have a2 : w1.cell? ⟨w.heap.size + 1, 0, none⟩ = some (.slice VA vs.length vc) := hw1.keep (by simp [go_sem])
 have a3 : w1.cell? ⟨w.heap.size + 1, 1, none⟩ = some (.slice PA ps.length pc) := hw1.keep (by simp [go_sem])
 have a4 : w1.cell? ⟨w.heap.size + 1, 2, none⟩ = some (.slice SA ss.length sc) := hw1.keep (by simp [go_sem])
 have a5 : w1.cell? ⟨w.heap.size + 1, 3, none⟩ = some (.slice OA os.length oc) := hw1.keep (by simp [go_sem])
 have a6 : w1.cell? ⟨w.heap.size + 2, 0, none⟩ = some (.slice VA' vs'.length vc') := hw1.keep (by simp [go_sem])
 have a7 : w1.cell? ⟨w.heap.size + 2, 1, none⟩ = some (.slice PA' ps'.length pc') := hw1.keep (by simp [go_sem])
 have a8 : w1.cell? ⟨w.heap.size + 2, 2, none⟩ = some (.slice SA' ss'.length sc') := hw1.keep (by simp [go_sem])
 have a9 : w1.cell? ⟨w.heap.size + 2, 3, none⟩ = some (.slice OA' os'.length oc') := hw1.keep (by simp [go_sem])
 have a10 : w1.cell? ⟨w.heap.size + 3, 2, none⟩ = some (.slice GA gs.length gc) := hw1.keep (by simp [go_sem])
 have hB1 : Bl w w1 := bz
 have z1 : w.heap.size + 3 < w1.heap.size := by have := hw1.size; simp at this; omega
 clear hw1 T57
 go_wp2_with (at_make; refine wpList_make_full _ rfl _ _ 29 rfl w.heap.size 4 i0 (.bool false) 1 HU.out HJ.out.1 HJ.out.2.1 HJ.out.2.2.1 .i64 .i64 _ _ xs.length rfl rfl rfl rfl (by rw [HJ.out.2.2.2]; omega) (by unfold maxLen; omega) (by omega) ?_)
 intro w2 hown hgr
 have hB12 : Bl w1 w2 := Bl.grown (Bl.refl _) hgr (fun g hg => by cases hg)
 have hrep : (madeCells #[Value.bool false] xs.length).toList = (List.replicate xs.length false).map BV := by
  rw [toList_madeCells_one, List.map_replicate]
  rfl
 rw [hrep] at hown
 have hO1 := HD (show Own1 BV 4 w.heap.size w2 ⟨some ⟨w1.heap.size, 0, none⟩, xs.length, List.replicate xs.length false⟩ from by
  unfold Own1
  simp only [Sl.val, List.length_replicate]
  simpa using hown)
 have b0 : w2.cell? ⟨w.heap.size, 0, none⟩ = some (.slice A xs.length c) := hB12.keep a0
 have b1 : w2.cell? ⟨w.heap.size, 1, none⟩ = some (.slice A2 ls.length c2) := hB12.keep a1
 have b2 : w2.cell? ⟨w.heap.size + 1, 0, none⟩ = some (.slice VA vs.length vc) := hB12.keep a2
 have b3 : w2.cell? ⟨w.heap.size + 1, 1, none⟩ = some (.slice PA ps.length pc) := hB12.keep a3
 have b4 : w2.cell? ⟨w.heap.size + 1, 2, none⟩ = some (.slice SA ss.length sc) := hB12.keep a4
 have b5 : w2.cell? ⟨w.heap.size + 1, 3, none⟩ = some (.slice OA os.length oc) := hB12.keep a5
 have b6 : w2.cell? ⟨w.heap.size + 2, 0, none⟩ = some (.slice VA' vs'.length vc') := hB12.keep a6
 have b7 : w2.cell? ⟨w.heap.size + 2, 1, none⟩ = some (.slice PA' ps'.length pc') := hB12.keep a7
 have b8 : w2.cell? ⟨w.heap.size + 2, 2, none⟩ = some (.slice SA' ss'.length sc') := hB12.keep a8
 have b9 : w2.cell? ⟨w.heap.size + 2, 3, none⟩ = some (.slice OA' os'.length oc') := hB12.keep a9
 have b10 : w2.cell? ⟨w.heap.size + 3, 2, none⟩ = some (.slice GA gs.length gc) := hB12.keep a10
 have hB2 : Bl w w2 := hB1.trans hB12
 have z2 : w.heap.size + 3 < w2.heap.size := by have := hB12.size; omega
 clear a0 a1 a2 a3 a4 a5 a6 a7 a8 a9 a10
 have hrow : Hid (∀ j (hj : j < ms.length), 0 ≤ N ms[j]) := fun j hj => hnh.out _ (List.getElem_mem hj)
 clear hown hgr hrep hB12 hB1 hnh
 generalize w1.heap.size = sb at *
 go_wp2_with fail
 go_loopg [16, 36] ms.length (fun gg s16 s36 wr => ∃ (kk : Nat) (q : List Bool), kk ≤ ms.length /\ ms.length - kk ≤ gg /\ s16 = .bool false /\ s36 = .int .i64 kk /\ Aside (Bl w wr) /\ Aside (w.heap.size + 3 < wr.heap.size) /\ Aside (wr.cell? ⟨w.heap.size, 0, none⟩ = some (.slice A xs.length c)) /\ Aside (wr.cell? ⟨w.heap.size, 1, none⟩ = some (.slice A2 ls.length c2)) /\ Aside (wr.cell? ⟨w.heap.size + 1, 0, none⟩ = some (.slice VA vs.length vc)) /\ Aside (wr.cell? ⟨w.heap.size + 1, 1, none⟩ = some (.slice PA ps.length pc)) /\ Aside (wr.cell? ⟨w.heap.size + 1, 2, none⟩ = some (.slice SA ss.length sc)) /\ Aside (wr.cell? ⟨w.heap.size + 1, 3, none⟩ = some (.slice OA os.length oc)) /\ Aside (wr.cell? ⟨w.heap.size + 2, 0, none⟩ = some (.slice VA' vs'.length vc')) /\ Aside (wr.cell? ⟨w.heap.size + 2, 1, none⟩ = some (.slice PA' ps'.length pc')) /\ Aside (wr.cell? ⟨w.heap.size + 2, 2, none⟩ = some (.slice SA' ss'.length sc')) /\ Aside (wr.cell? ⟨w.heap.size + 2, 3, none⟩ = some (.slice OA' os'.length oc')) /\ Aside (wr.cell? ⟨w.heap.size + 3, 2, none⟩ = some (.slice GA gs.length gc)) /\ Aside (Own1 BV 4 w.heap.size wr ⟨some ⟨sb, 0, none⟩, xs.length, q⟩) /\ Aside (q.length = xs.length) /\ Aside (∀ j (hj : j < ms.length), kk ≤ j -> q[(N ms[j]).toNat]! = false))
 case atStart => exact ⟨0, _, Nat.zero_le _, by omega, rfl, rfl, hB2, aside z2, aside b0, aside b1, aside b2, aside b3, aside b4, aside b5, aside b6, aside b7, aside b8, aside b9, aside b10, hO1.out, aside (by simp), aside (fun j hj _ => by simp [List.getElem!_eq_getElem?_getD, List.getElem?_replicate]; split <;> rfl)⟩
 case round =>
  clear b0 b1 b2 b3 b4 b5 b6 b7 b8 b9 b10
  clear hO1 hB2 z2
  obtain ⟨kk, q, hkk, hg, rfl, rfl, BW, Z, N0, N1, N2, N3, N4, N5, N6, N7, N8, N9, N10, OW, QL, QF⟩ := hrel
  have BW' := BW.out
  have Z' := Z.out
  have cc0 := N0.out
  have cc1 := N1.out
  have cc2 := N2.out
  have cc3 := N3.out
  have cc4 := N4.out
  have cc5 := N5.out
  have cc6 := N6.out
  have cc7 := N7.out
  have cc8 := N8.out
  have cc9 := N9.out
  have cc10 := N10.out
  clear N0 N1 N2 N3 N4 N5 N6 N7 N8 N9 N10 BW Z
  by_cases hlt : kk < ms.length
  ·have hltz : (kk : Int) < (ms.length : Int) := by omega
   have hkz : (0 : Int) ≤ (kk : Int) := by omega
   obtain ⟨bM, oM, hMA, _, _, _⟩ := hMh.out.place (by intro e; simp only at e; rw [e] at hlt; simp at hlt)
   simp only at hMA
   subst hMA
   have hc := Sl.Ok.cells hMh.out rfl wr BW' kk hlt 0 _ rfl
   have hy0 := hrow.out kk hlt
   have hq0 := QF.out kk hlt (Nat.le_refl _)
   have hrest : Hid (∀ j (hj : j < ms.length), kk + 1 ≤ j -> N ms[j] ≠ N ms[kk]) := fun j hj hk e => (List.pairwise_iff_getElem.mp hph.out) kk j hlt hj (by omega) e.symm
   have hrow2 := HD (fun j (hj : j < ms.length) => hrow.out j hj)
   generalize ms[kk] = y at hc hy0 hq0 hrest
   have e0 : wr.cell? ⟨bM, oM + kk, none⟩ = some (.string y) := by rwa [Nat.mul_one] at hc
   obtain ⟨i, hi, hNi⟩ := hrg.out y hy0
   try simp only at hi
   have hNh := HD hNi
   rw [hNi, Int.toNat_natCast] at hq0
   have T1 := T56.out
   clear hc hNi
   go_wp2_with fail
   refine (T1 _ y BW' hy0).mono ?_
   rintro e w3 ⟨rfl, hw3⟩
   rw [hNh.out]
   clear T1
   have d0 : w3.cell? ⟨w.heap.size, 0, none⟩ = some (.slice A xs.length c) := hw3.keep cc0
   have d1 : w3.cell? ⟨w.heap.size, 1, none⟩ = some (.slice A2 ls.length c2) := hw3.keep cc1
   have d2 : w3.cell? ⟨w.heap.size + 1, 0, none⟩ = some (.slice VA vs.length vc) := hw3.keep cc2
   have d3 : w3.cell? ⟨w.heap.size + 1, 1, none⟩ = some (.slice PA ps.length pc) := hw3.keep cc3
   have d4 : w3.cell? ⟨w.heap.size + 1, 2, none⟩ = some (.slice SA ss.length sc) := hw3.keep cc4
   have d5 : w3.cell? ⟨w.heap.size + 1, 3, none⟩ = some (.slice OA os.length oc) := hw3.keep cc5
   have d6 : w3.cell? ⟨w.heap.size + 2, 0, none⟩ = some (.slice VA' vs'.length vc') := hw3.keep cc6
   have d7 : w3.cell? ⟨w.heap.size + 2, 1, none⟩ = some (.slice PA' ps'.length pc') := hw3.keep cc7
   have d8 : w3.cell? ⟨w.heap.size + 2, 2, none⟩ = some (.slice SA' ss'.length sc') := hw3.keep cc8
   have d9 : w3.cell? ⟨w.heap.size + 2, 3, none⟩ = some (.slice OA' os'.length oc') := hw3.keep cc9
   have d10 : w3.cell? ⟨w.heap.size + 3, 2, none⟩ = some (.slice GA gs.length gc) := hw3.keep cc10
   have hB3 : Bl w w3 := BW'.trans hw3
   have z3 : w.heap.size + 3 < w3.heap.size := by have := hw3.size; omega
   have O3 := OW.out.bl hw3
   have hiq : i < q.length := by have := QL.out; omega
   have hiz : (0 : Int) ≤ (i : Int) := by omega
   have hix : (i : Int) < (xs.length : Int) := by omega
   have eO : w3.cell? ⟨sb, i, none⟩ = some (.bool false) := by
    have h1 := O3.cell i hiq
    rw [getElem!_pos q i hiq] at hq0
    rw [hq0] at h1
    exact h1
   have fO := O3.fro i
   have zsb : w.heap.size ≤ sb := (O3.lt sb rfl).1
   have hsb3 : w.heap.size + 3 < sb := by assumption
   have O4 := HD (show Own1 BV 4 w.heap.size (w3.setCell ⟨sb, i, none⟩ (.bool true)) ⟨some ⟨sb, 0, none⟩, xs.length, q.set i true⟩ from O3.set i true)
   have g0 : (w3.setCell ⟨sb, i, none⟩ (.bool true)).cell? ⟨w.heap.size, 0, none⟩ = some (.slice A xs.length c) := (setBlk' (by omega)).trans d0
   have g1 : (w3.setCell ⟨sb, i, none⟩ (.bool true)).cell? ⟨w.heap.size, 1, none⟩ = some (.slice A2 ls.length c2) := (setBlk' (by omega)).trans d1
   have g2 : (w3.setCell ⟨sb, i, none⟩ (.bool true)).cell? ⟨w.heap.size + 1, 0, none⟩ = some (.slice VA vs.length vc) := (setBlk' (by omega)).trans d2
   have g3 : (w3.setCell ⟨sb, i, none⟩ (.bool true)).cell? ⟨w.heap.size + 1, 1, none⟩ = some (.slice PA ps.length pc) := (setBlk' (by omega)).trans d3
   have g4 : (w3.setCell ⟨sb, i, none⟩ (.bool true)).cell? ⟨w.heap.size + 1, 2, none⟩ = some (.slice SA ss.length sc) := (setBlk' (by omega)).trans d4
   have g5 : (w3.setCell ⟨sb, i, none⟩ (.bool true)).cell? ⟨w.heap.size + 1, 3, none⟩ = some (.slice OA os.length oc) := (setBlk' (by omega)).trans d5
   have g6 : (w3.setCell ⟨sb, i, none⟩ (.bool true)).cell? ⟨w.heap.size + 2, 0, none⟩ = some (.slice VA' vs'.length vc') := (setBlk' (by omega)).trans d6
   have g7 : (w3.setCell ⟨sb, i, none⟩ (.bool true)).cell? ⟨w.heap.size + 2, 1, none⟩ = some (.slice PA' ps'.length pc') := (setBlk' (by omega)).trans d7
   have g8 : (w3.setCell ⟨sb, i, none⟩ (.bool true)).cell? ⟨w.heap.size + 2, 2, none⟩ = some (.slice SA' ss'.length sc') := (setBlk' (by omega)).trans d8
   have g9 : (w3.setCell ⟨sb, i, none⟩ (.bool true)).cell? ⟨w.heap.size + 2, 3, none⟩ = some (.slice OA' os'.length oc') := (setBlk' (by omega)).trans d9
   have g10 : (w3.setCell ⟨sb, i, none⟩ (.bool true)).cell? ⟨w.heap.size + 3, 2, none⟩ = some (.slice GA gs.length gc) := (setBlk' (by omega)).trans d10
   have hB4 : Bl w (w3.setCell ⟨sb, i, none⟩ (.bool true)) := Bl.setCell hB3 (by simp only; omega) _
   have z4 : w.heap.size + 3 < (w3.setCell ⟨sb, i, none⟩ (.bool true)).heap.size := by rw [cZ]; exact z3
   have QL4 := HD (show (q.set i true).length = xs.length from by rw [List.length_set]; exact QL.out)
   have QF4 := HD (show ∀ j (hj : j < ms.length), kk + 1 ≤ j -> (q.set i true)[(N ms[j]).toNat]! = false from fun j hj hk => by
    have h1 := hrest.out j hj hk
    have h2 := hrow2.out j hj
    rw [hNh.out] at h1
    rw [List.getElem!_eq_getElem?_getD, List.getElem?_set, if_neg (by omega), <- List.getElem!_eq_getElem?_getD]
    exact QF.out j hj (by omega))
   clear O3 OW hq0 hrest hrow2 QL QF
   clear cc0 cc1 cc2 cc3 cc4 cc5 cc6 cc7 cc8 cc9 cc10
   go_wp2_with fail
   go_roundg (ms.length - (kk + 1))
   case measure => omega
   case rel => exact ⟨kk + 1, q.set i true, by omega, by omega, rfl, by go_num, hB4, aside z4, aside g0, aside g1, aside g2, aside g3, aside g4, aside g5, aside g6, aside g7, aside g8, aside g9, aside g10, O4.out, QL4.out, QF4.out⟩
  ·have hltz : ¬ (kk : Int) < (ms.length : Int) := by omega
   have hIB := HD (show InB wr ⟨some ⟨sb, 0, none⟩, xs.length, q⟩ from Own1.ok OW.out (by have := QL.out; simp only; omega) (fun _ _ => trivial))
   have hqx := QL.out
   have T1 := T58'.out wr BW' ⟨some ⟨sb, 0, none⟩, xs.length, q⟩ hIB.out hqx
   have T2 : Hid (Calls Tryz.prog 58 #[.agg #[.slice A xs.length c, .slice A2 ls.length c2], .slice (some ⟨sb, 0, none⟩) xs.length xs.length, .agg #[.slice VA vs.length vc, .slice PA ps.length pc, .slice SA ss.length sc, .slice OA os.length oc], .agg #[.slice VA' vs'.length vc', .slice PA' ps'.length pc', .slice SA' ss'.length sc', .slice OA' os'.length oc'], .slice IA is.length ic, .slice GA gs.length gc] wr fun e w' => e = .returned (.agg #[.int .i64 0, .int .i64 (lost ⟨some ⟨sb, 0, none⟩, xs.length, q⟩)]) /\ Bl wr w') := by
    have h1 := T1
    simp only [Sl.val] at h1
    rw [hqx] at h1
    exact h1
   generalize lost ⟨some ⟨sb, 0, none⟩, xs.length, q⟩ = lo at T2
   clear T1 hqx QL QF OW hIB
   go_wp2_with fail
   refine T2.out.mono ?_
   rintro e w5 ⟨rfl, hw5⟩
   go_wp2_with fail
   exact bodyPost_ret (v := .tuple #[.int .i64 0, .int .i64 0]) (by simp [results, Tryz.results30, go_sem, *]; try exact ⟨rfl, rfl⟩) rfl ⟨rfl, BW'.trans hw5⟩
def TF (n m : Nat) : List Bool := List.replicate n true ++ List.replicate (m - n) false
theorem TF_len {n m : Nat} (h : n ≤ m) : (TF n m).length = m := by simp [TF]; omega
theorem TF_all (m : Nat) : TF m m = List.replicate m true := by simp [TF]
theorem TF_zero (m : Nat) : TF 0 m = List.replicate m false := by simp [TF]
theorem splice_mid {α : Type} (A B C cs : List α) (h : B.length = cs.length) : splice (A ++ (B ++ C)) A.length cs = A ++ (cs ++ C) := by
 unfold splice
 rw [List.take_left, <- h, <- List.length_append, <- List.append_assoc A B C, List.drop_left]
theorem TF_map (n m : Nat) : (TF n m).map BV = List.replicate n (.bool true) ++ List.replicate (m - n) (.bool false) := by simp [TF, BV]
theorem TF_splice {n k m : Nat} (h : n + k ≤ m) : splice ((TF n m).map BV) n (List.replicate k (.bool true)) = (TF (n + k) m).map BV := by
 rw [TF_map, TF_map]
 have e : List.replicate (m - n) (Value.bool false) = List.replicate k (.bool false) ++ List.replicate (m - (n + k)) (.bool false) := by
  rw [List.replicate_append_replicate, show k + (m - (n + k)) = m - n by omega]
 rw [e]
 have h1 := splice_mid (List.replicate n (Value.bool true)) (List.replicate k (.bool false)) (List.replicate (m - (n + k)) (.bool false)) (List.replicate k (.bool true)) (by simp)
 rw [List.length_replicate] at h1
 rw [h1, <- List.append_assoc, List.replicate_append_replicate]
theorem own_cells {base : Nat} {w : World} {g : Nat} {xs : List Bool} (h : Own1 BV 4 base w ⟨some ⟨g, 0, none⟩, xs.length, xs⟩) : w.heap[g]? = some (.cells (xs.map BV).toArray 4 (0, 0)) := by
 rcases h.2 with ⟨hv, _⟩ | ⟨g', cap, cur, hv, _, hg, _, _, hs, ht⟩
 ·simp [Sl.val] at hv
 ·simp only [Sl.val, Value.slice.injEq, Option.some.injEq, Addr.mk.injEq] at hv
  obtain ⟨⟨rfl, _⟩, _, rfl⟩ := hv
  rw [hg]
  have : cur = (xs.map BV).toArray := by
   rw [<- ht, List.take_of_length_le (by simp [hs])]
  rw [this]
theorem own_of_cells {base : Nat} {w : World} {g : Nat} {xs : List Bool} (h : w.heap[g]? = some (.cells (xs.map BV).toArray 4 (0, 0))) (hb : base ≤ g) (hl : xs.length ≤ 1000) : Own1 BV 4 base w ⟨some ⟨g, 0, none⟩, xs.length, xs⟩ := by
 refine ⟨by simp, .inr ⟨g, xs.length, _, rfl, hb, h, Nat.le_refl _, by unfold maxLen; omega, by simp, by simp [List.take_of_length_le]⟩⟩
theorem cells_get {w : World} {g n m : Nat} (h : w.heap[g]? = some (.cells ((TF n m).map BV).toArray 4 (0, 0))) {j : Nat} (hj : j < n) : w.cell? ⟨g, j, none⟩ = some (.bool true) := by
 simp [World.cell?, h, TF, List.getElem?_append, hj, BV]
set_option maxHeartbeats 2000000 in
theorem f59_c (p m : Nat) (w : World) (hm : m ≤ 300) (hc : w.cell? ⟨p, 0, none⟩ = some (.bool true)) : Calls Tryz.prog 59 #[.slice (some ⟨p, 0, none⟩) 1 1, .int .i64 m] w fun e w' => ∃ s : Sl Bool, e = .returned s.val /\ s.xs = List.replicate m true /\ InB w' s /\ Bl w w' := by
 obtain ⟨R, hR⟩ : ∃ R : Ending -> World -> Prop, R = fun e w' => ∃ s : Sl Bool, e = .returned s.val /\ s.xs = List.replicate m true /\ InB w' s /\ Bl w w' := ⟨_, rfl⟩
 rw [<- hR]
 have hRh := HD hR
 clear hR
 have T90 : Hid (∀ W, Calls Tryz.prog 90 #[.int .u64 1, .int .u64 m] W fun e w' => e = .returned (.tuple #[.int .u64 0, .int .u64 m]) /\ w' = W) := fun W => by
  have h := Tryz.bits_Mul 1 m (by omega) (by omega) W
  rw [Nat.one_mul, Nat.div_eq_of_lt (by omega), Nat.mod_eq_of_lt (by omega)] at h
  exact h
 obtain ⟨i0, hi, hz0, hz1, hz2⟩ := i4
 have HJ := HD (And.intro hi (And.intro hz0 (And.intro hz1 hz2)))
 have HU := HD u29
 have hsz : Hid ((Tryz.prog.info? 4).map (·.size) = some 1) := (by rw [hi]; simp [hz1] : (Tryz.prog.info? 4).map (·.size) = some 1)
 have hp := cell_lt hc
 simp only at hp
 have m0 : (0 : Int) ≤ (m : Int) := by omega
 have m1 : IntKind.u64.wrap (m : Int) = (m : Int) := by first | exact IntWalk.u64_in _ (by omega) (by omega) | exact IntWalk.u64_in _ (by omega)
 have m2 : IntKind.i64.wrap (m : Int) = (m : Int) := IntWalk.i64_in _ (by omega)
 have m3 : ¬ (9223372036854775807 : Int) < (m : Int) := by omega
 clear hi hz0 hz1 hz2
 go_enter Tryz.func59, Tryz.ntmps59
 go_wp2_with fail
 refine (T90.out _).mono ?_
 rintro e w1 ⟨rfl, rfl⟩
 go_wp2_with (at_make; refine wpList_make_full _ rfl _ _ 29 rfl w1.heap.size 4 i0 (.bool false) 1 HU.out HJ.out.1 HJ.out.2.1 HJ.out.2.2.1 .i64 .i64 _ _ m rfl rfl rfl rfl (by rw [HJ.out.2.2.2]; omega) (by unfold maxLen; omega) (by omega) ?_)
 intro w2 hown hgr
 have hrep : (madeCells #[Value.bool false] m).toList = (TF 0 m).map BV := by
  rw [toList_madeCells_one, TF_zero, List.map_replicate]
  rfl
 rw [hrep] at hown
 have hO : Own1 BV 4 w1.heap.size w2 ⟨some ⟨w1.heap.size, 0, none⟩, (TF 0 m).length, TF 0 m⟩ := by
  unfold Own1
  simp only [Sl.val, TF_len (Nat.zero_le m)]
  simpa using hown
 have hg2 := HD (own_cells hO)
 have hB2 : Bl w1 w2 := Bl.grown (Bl.refl _) hgr (fun g hg => by cases hg)
 have hcp := HD (hB2.keep hc)
 have hz2 : w1.heap.size < w2.heap.size := (hO.lt _ rfl).2
 obtain ⟨n0, hn0⟩ : ∃ n0, n0 = min 1 m := ⟨_, rfl⟩
 have hn1 : n0 ≤ 1 /\ n0 ≤ m /\ (n0 = 0 -> m = 0) := by omega
 have hnm : Hid (n0 = Nat.min 1 m) := hn0
 clear hown hgr hrep hO hn0
 go_wp2_with (refine wpList_copy_splice rfl (.tmp 31) (.tmp 32) 29 29 rfl 4 HU.out hsz.out (some ⟨w1.heap.size, 0, none⟩) (some ⟨p, 0, none⟩) m m 1 1 rfl rfl w1.heap.size 0 ((TF 0 m).map BV) 4 hg2.out (List.replicate n0 (.bool true)) ?k1 ?k2 ?k3 ?k4 w1.heap.size w1 hB2 (Nat.le_refl _) ?_)
 case k1 => rw [List.length_replicate]; exact hnm.out
 case k2 =>
  intro hpos j v hj
  rw [List.getElem?_replicate] at hj
  split at hj
  ·have hj0 : j = 0 := by omega
   subst hj0
   simp only [Option.some.injEq] at hj
   subst hj
   exact hcp.out
  ·cases hj
 case k3 => simp [TF_len (Nat.zero_le m)]; omega
 case k4 => intro v hv; rw [List.eq_of_mem_replicate hv]; rfl
 intro w3 hg3 hb3
 have hg3' : Hid (w3.heap[w1.heap.size]? = some (.cells ((TF n0 m).map BV).toArray 4 (0, 0))) := by
  have h := hg3.out
  rw [TF_splice (by omega), Nat.zero_add] at h
  exact h
 have hB3 : Bl w1 w3 := hb3
 clear hg3 hb3 hB2 hg2 hcp hz2 hnm
 go_wp2_with fail
 go_loopg [8] m (fun gg s8 wr => ∃ n : Nat, n ≤ m /\ m - n ≤ gg /\ s8 = .int .i64 n /\ (n = 0 -> m = 0) /\ Aside (Bl w1 wr) /\ Aside (wr.heap[w1.heap.size]? = some (.cells ((TF n m).map BV).toArray 4 (0, 0))))
 case atStart => exact ⟨n0, by omega, by omega, by simp [goInt], by omega, hB3, hg3'.out⟩
 case round =>
  clear hg3' hB3
  obtain ⟨n, hn, hg, rfl, hz, BW, CE⟩ := hrel
  have BW' := BW.out
  by_cases hlt : n < m
  ·have hltz : (n : Int) < (m : Int) := by omega
   have hn0' : (0 : Int) ≤ (n : Int) := by omega
   have hle : (n : Int) ≤ (m : Int) := by omega
   obtain ⟨k, hk⟩ : ∃ k, k = min n (m - n) := ⟨_, rfl⟩
   have hkm : Hid (k = Nat.min n (m - n)) := hk
   have hk1 : 1 ≤ k /\ n + k ≤ m /\ k ≤ n := by omega
   have hwr : IntKind.i64.wrap ((n : Int) + (k : Int)) = (n : Int) + (k : Int) := IntWalk.i64_in _ (by omega)
   clear hk
   have hmn : ¬ m = n := by omega
   have hlen : Hid ((List.replicate k (Value.bool true)).length = Nat.min n (m - n)) := (by rw [List.length_replicate]; exact hkm.out : (List.replicate k (Value.bool true)).length = Nat.min n (m - n))
   have hsrc : Hid (∀ j v, (List.replicate k (Value.bool true))[j]? = some v -> wr.cell? ((⟨w1.heap.size, 0, none⟩ : Addr).add j) = some v) := fun j v hj => by
    rw [List.getElem?_replicate] at hj
    split at hj
    ·simp only [Option.some.injEq] at hj
     subst hj
     have h8 := cells_get CE.out (j := j) (by omega)
     by_cases hj0 : j = 0
     ·subst hj0; simpa [Addr.add] using h8
     ·simpa [Addr.add, hj0] using h8
    ·cases hj
   have hfit : Hid (n + (List.replicate k (Value.bool true)).length ≤ ((TF n m).map BV).length) := (by simp [TF_len hn]; omega : n + (List.replicate k (Value.bool true)).length ≤ ((TF n m).map BV).length)
   have hone : Hid (∀ v ∈ List.replicate k (Value.bool true), v.oneCell' = true) := fun v hv => by rw [List.eq_of_mem_replicate hv]; rfl
   go_wp2_with fail
   go_region_held3 (fun w' => True) (trivial) ((refine step_copy_splice rfl (.tmp 41) (.tmp 44) 29 29 rfl 4 HU.out hsz.out (some ⟨w1.heap.size, n, none⟩) (some ⟨w1.heap.size, 0, none⟩) (m - n) (m - n) n m rfl rfl w1.heap.size n ((TF n m).map BV) 4 CE.out (List.replicate k (.bool true)) hlen.out (fun _ => ⟨rfl, _, rfl, hsrc.out⟩) hfit.out hone.out w1.heap.size w1 (Bl.drew BW') (Nat.le_refl _) ?_; intro wx hg4 hb4))
   have hge : Hid (wx.heap[w1.heap.size]? = some (.cells ((TF (n + k) m).map BV).toArray 4 (0, 0))) := by
    have h := hg4.out
    rw [TF_splice (by omega)] at h
    exact h
   have hBe : Bl w1 wx := hb4
   have hrl : Hid ((List.replicate k (Value.bool true)).length = k) := (by simp : (List.replicate k (Value.bool true)).length = k)
   clear hg4 hb4
   go_wp2_with fail
   go_roundg (m - (n + k))
   case measure => omega
   case rel => exact ⟨n + k, by omega, by omega, by go_num, by omega, hBe, hge.out⟩
  ·have hltz : ¬ (n : Int) < (m : Int) := by omega
   have hnm : n = m := by omega
   subst hnm
   have hfin := HD (show R (.returned (.slice (some ⟨w1.heap.size, 0, none⟩) n n)) wr from by
    rw [hRh.out]
    have h := own_of_cells (base := w1.heap.size) CE.out (Nat.le_refl _) (by rw [TF_len (Nat.le_refl n)]; omega)
    refine ⟨⟨some ⟨w1.heap.size, 0, none⟩, (TF n n).length, TF n n⟩, by simp only [Sl.val]; rw [TF_len (Nat.le_refl n)], TF_all n, Own1.ok h (by simp only; rw [TF_len (Nat.le_refl n)]; omega) (fun _ _ => trivial), BW'⟩)
   go_wp2_with fail
   exact hfin.out
theorem lost_all {n : Net} {s s' : St} {inf : List Int} {g : Led} (hb : netB n = true) (h : StepOk n s s' inf g) : lostA n (List.replicate n.nodes.xs.length true) inf g.pass.xs = g.out := by
 have hr : ∀ i, i < n.nodes.xs.length -> (List.replicate n.nodes.xs.length true)[i]! = true := fun i hi => by rw [getElem!_pos _ i (by simpa using hi)]; simp
 rw [h.out]
 unfold lostA
 congr 1
 ·refine sumTo_congr _ (fun i hi => ?_)
  unfold lN
  rw [if_pos (hr i hi)]
 ·refine sumTo_congr _ (fun k hk => ?_)
  unfold lE
  rw [if_pos (hr _ (edges_at hb hk).2.2.2.1)]
  rfl
theorem held_sum {n : Net} {s : St} (h : StateOk n s) : heldS s = sumTo (fun i => s.vol.xs[i]!) s.vol.xs.length + sumTo (fun i => s.pond.xs[i]!) s.pond.xs.length := by
 unfold heldS
 rw [sumTo_add, h.2.2.1, h.2.1]
def RAcc (lost : Int) (w : World) (ab : Nat) (X : World) : Prop := w.heap.size ≤ ab /\ Bl w X /\ X.cell? ⟨ab, 0, none⟩ = some (.int .i64 0) /\ X.cell? ⟨ab, 1, none⟩ = some (.int .i64 lost)
set_option maxHeartbeats 8000000 in
theorem f29_c (n : Net) (s s' : St) (inf : Sl Int) (g : Led) (w : World) (hN : InNet w n) (ht : InSt w s) (ht' : InSt w s') (hI : InI w inf) (hg : InLed w g) (h : Given n s s' inf.xs g) (hst : StepOk n s s' inf.xs g) :
 Calls Tryz.prog 29 #[n.val, s.val, s'.val, inf.val, g.val] w fun e w' => e = .returned (.tuple #[.bool true, .int .i64 0, .int .i64 0]) /\ Bl w w' := by
 have T57 := HD (fun W (hb : Bl w W) => f57_c n s s' inf g W (InNet.up hN hb) (InSt.up ht hb) (InSt.up ht' hb) (InI.up hI hb) (InLed.up hg hb) h)
 have T58 : Hid (∀ W, Bl w W -> ∀ ins : Sl Bool, InB W ins -> ins.xs = List.replicate n.nodes.xs.length true -> Calls Tryz.prog 58 #[n.val, ins.val, s.val, s'.val, inf.val, g.pass.val] W fun e w' => e = .returned (.agg #[.int .i64 0, .int .i64 g.out]) /\ Bl W w') := fun W hb ins hB hx => by
  have h1 := f58_c n ins s s' inf g.pass g W (InNet.up hN hb) hB (InSt.up ht hb) (InSt.up ht' hb) (InI.up hI hb) (InLed.up hg hb) h.ok hst rfl (by rw [hx]; simp)
  rw [hx, lost_all h.ok.1 hst] at h1
  exact h1
 have hx3 := ((netB_iff n).mp h.ok.1).1
 have b1 : ∀ i, i < s.vol.xs.length -> _ := state_bounds h.ok
 have b2 : ∀ i, i < s'.vol.xs.length -> _ := state_bounds h.ok'
 have l1 := h.ok.2.1
 have l2 := h.ok.2.2.1
 have l3 := h.ok'.2.1
 have l4 := h.ok'.2.2.1
 have l5 := h.il
 have T60a := HD (fun W (hb : Bl w W) => f60_c s.vol W (InI.up ht.vol hb) (by omega) (fun i hi => ⟨(b1 i (by omega)).1, (b1 i (by omega)).2.1⟩))
 have T60b := HD (fun W (hb : Bl w W) => f60_c s.pond W (InI.up ht.pond hb) (by omega) (fun i hi => (b1 i (by omega)).2.2))
 have T60c := HD (fun W (hb : Bl w W) => f60_c s'.vol W (InI.up ht'.vol hb) (by omega) (fun i hi => ⟨(b2 i (by omega)).1, (b2 i (by omega)).2.1⟩))
 have T60d := HD (fun W (hb : Bl w W) => f60_c s'.pond W (InI.up ht'.pond hb) (by omega) (fun i hi => (b2 i (by omega)).2.2))
 have T60e : Hid (∀ W, Bl w W -> Calls Tryz.prog 60 #[inf.val] W fun e w' => e = .returned (.int .i64 g.inn) /\ Bl W w') := fun W hb => by
  have h1 := f60_c inf W (InI.up hI hb) (by omega) (fun i hi => hst.ib i hi)
  rw [l5, <- hst.inn] at h1
  exact h1
 have hlaw := whole_law h.ok hst
 rw [held_sum h.ok, held_sum h.ok'] at hlaw
 have hi1 := inn_bound hst
 have ho1 := out_bound h.ok hst
 have q1 := sumTo_bound (f := fun i => s.vol.xs[i]!) (m := 1125899906842624) s.vol.xs.length (fun i hi => ⟨(b1 i (by omega)).1, (b1 i (by omega)).2.1⟩)
 have q2 := sumTo_bound (f := fun i => s.pond.xs[i]!) (m := 1125899906842624) s.pond.xs.length (fun i hi => (b1 i (by omega)).2.2)
 have q3 := sumTo_bound (f := fun i => s'.vol.xs[i]!) (m := 1125899906842624) s'.vol.xs.length (fun i hi => ⟨(b2 i (by omega)).1, (b2 i (by omega)).2.1⟩)
 have q4 := sumTo_bound (f := fun i => s'.pond.xs[i]!) (m := 1125899906842624) s'.pond.xs.length (fun i hi => (b2 i (by omega)).2.2)
 generalize sumTo (fun i => s.vol.xs[i]!) s.vol.xs.length = v1 at *
 generalize sumTo (fun i => s.pond.xs[i]!) s.pond.xs.length = v2 at *
 generalize sumTo (fun i => s'.vol.xs[i]!) s'.vol.xs.length = v3 at *
 generalize sumTo (fun i => s'.pond.xs[i]!) s'.pond.xs.length = v4 at *
 clear b1 b2 hN ht ht' hI hg h hst
 obtain ⟨⟨A, c, xs⟩, ⟨A2, c2, ls⟩⟩ := n
 obtain ⟨⟨VA, vc, vs⟩, ⟨PA, pc, ps⟩, ⟨SA, sc, ss⟩, ⟨OA, oc, os⟩⟩ := s
 obtain ⟨⟨VA', vc', vs'⟩, ⟨PA', pc', ps'⟩, ⟨SA', sc', ss'⟩, ⟨OA', oc', os'⟩⟩ := s'
 obtain ⟨IA, ic, is⟩ := inf
 obtain ⟨gi, go, ⟨GA, gc, gs⟩⟩ := g
 simp only at hlaw hi1 ho1 q1 q2 q3 q4 l1 l2 l3 l4 l5 hx3
 have r1 : IntKind.i64.wrap (v1 + v2) = v1 + v2 := IntWalk.i64_in _ (by omega)
 have r2 : IntKind.i64.wrap (v1 + v2 + gi) = v1 + v2 + gi := IntWalk.i64_in _ (by omega)
 have r3 : IntKind.i64.wrap (v1 + v2 + gi - v3) = v1 + v2 + gi - v3 := IntWalk.i64_in _ (by omega)
 have r4 : IntKind.i64.wrap (v1 + v2 + gi - v3 - v4) = v1 + v2 + gi - v3 - v4 := IntWalk.i64_in _ (by omega)
 have r5 : IntKind.i64.wrap (v1 + v2 + gi - v3 - v4 - go) = v1 + v2 + gi - v3 - v4 - go := IntWalk.i64_in _ (by omega)
 have hz : Hid (v1 + v2 + gi - v3 - v4 - go = 0) := (by omega : v1 + v2 + gi - v3 - v4 - go = 0)
 clear hlaw hi1 ho1 q1 q2 q3 q4 l1 l2 l3 l4 l5
 show Calls Tryz.prog 29 #[.agg #[.slice A xs.length c, .slice A2 ls.length c2], .agg #[.slice VA vs.length vc, .slice PA ps.length pc, .slice SA ss.length sc, .slice OA os.length oc], .agg #[.slice VA' vs'.length vc', .slice PA' ps'.length pc', .slice SA' ss'.length sc', .slice OA' os'.length oc'], .slice IA is.length ic, .agg #[.int .i64 gi, .int .i64 go, .slice GA gs.length gc]] w _
 go_enter Tryz.func29, Tryz.ntmps29
 go_wp2_with fail
 refine (T57.out _ bz).mono ?_
 rintro e w1 ⟨rfl, hw1⟩
 have a0 : w1.cell? ⟨w.heap.size, 0, none⟩ = some (.slice A xs.length c) := hw1.keep (by simp [go_sem])
 have a1 : w1.cell? ⟨w.heap.size, 1, none⟩ = some (.slice A2 ls.length c2) := hw1.keep (by simp [go_sem])
 have a2 : w1.cell? ⟨w.heap.size + 1, 0, none⟩ = some (.slice VA vs.length vc) := hw1.keep (by simp [go_sem])
 have a3 : w1.cell? ⟨w.heap.size + 1, 1, none⟩ = some (.slice PA ps.length pc) := hw1.keep (by simp [go_sem])
 have a4 : w1.cell? ⟨w.heap.size + 1, 2, none⟩ = some (.slice SA ss.length sc) := hw1.keep (by simp [go_sem])
 have a5 : w1.cell? ⟨w.heap.size + 1, 3, none⟩ = some (.slice OA os.length oc) := hw1.keep (by simp [go_sem])
 have a6 : w1.cell? ⟨w.heap.size + 2, 0, none⟩ = some (.slice VA' vs'.length vc') := hw1.keep (by simp [go_sem])
 have a7 : w1.cell? ⟨w.heap.size + 2, 1, none⟩ = some (.slice PA' ps'.length pc') := hw1.keep (by simp [go_sem])
 have a8 : w1.cell? ⟨w.heap.size + 2, 2, none⟩ = some (.slice SA' ss'.length sc') := hw1.keep (by simp [go_sem])
 have a9 : w1.cell? ⟨w.heap.size + 2, 3, none⟩ = some (.slice OA' os'.length oc') := hw1.keep (by simp [go_sem])
 have a10 : w1.cell? ⟨w.heap.size + 3, 0, none⟩ = some (.int .i64 gi) := hw1.keep (by simp [go_sem])
 have a11 : w1.cell? ⟨w.heap.size + 3, 1, none⟩ = some (.int .i64 go) := hw1.keep (by simp [go_sem])
 have a12 : w1.cell? ⟨w.heap.size + 3, 2, none⟩ = some (.slice GA gs.length gc) := hw1.keep (by simp [go_sem])
 have hB1 : Bl w w1 := bz
 have z1 : w.heap.size + 3 < w1.heap.size := by have := hw1.size; simp at this; omega
 have T58' := HD (fun W (hb : Bl w1 W) (ins : Sl Bool) hB hx => T58.out W (hB1.trans hb) ins hB hx)
 clear hw1 T57 T58
 go_upto_region 4 with fail
 go_cut [14] (fun s14 wx => ∃ ab : Nat, s14 = .pointer (some ⟨ab, 0, none⟩) /\ Aside (RAcc go w1 ab wx))
 case first =>
  go_region_held3 (fun w' => w'.cell? ⟨w.heap.size, 0, none⟩ = some (.slice A xs.length c) /\ w'.cell? ⟨w.heap.size, 1, none⟩ = some (.slice A2 ls.length c2) /\ w'.cell? ⟨w.heap.size + 1, 0, none⟩ = some (.slice VA vs.length vc) /\ w'.cell? ⟨w.heap.size + 1, 1, none⟩ = some (.slice PA ps.length pc) /\ w'.cell? ⟨w.heap.size + 1, 2, none⟩ = some (.slice SA ss.length sc) /\ w'.cell? ⟨w.heap.size + 1, 3, none⟩ = some (.slice OA os.length oc) /\ w'.cell? ⟨w.heap.size + 2, 0, none⟩ = some (.slice VA' vs'.length vc') /\ w'.cell? ⟨w.heap.size + 2, 1, none⟩ = some (.slice PA' ps'.length pc') /\ w'.cell? ⟨w.heap.size + 2, 2, none⟩ = some (.slice SA' ss'.length sc') /\ w'.cell? ⟨w.heap.size + 2, 3, none⟩ = some (.slice OA' os'.length oc') /\ w'.cell? ⟨w.heap.size + 3, 2, none⟩ = some (.slice GA gs.length gc)) ((exact (fun (hh : Bl w1 _) => (⟨Bl.keep (a := w1) hh a0, Bl.keep (a := w1) hh a1, Bl.keep (a := w1) hh a2, Bl.keep (a := w1) hh a3, Bl.keep (a := w1) hh a4, Bl.keep (a := w1) hh a5, Bl.keep (a := w1) hh a6, Bl.keep (a := w1) hh a7, Bl.keep (a := w1) hh a8, Bl.keep (a := w1) hh a9, Bl.keep (a := w1) hh a12⟩)) Bq)) (first
   | (go_at_call 59; refine (f59_c _ xs.length _ (by omega) (by first | (simp [go_sem]; done) | (simp [go_sem, *]; done))).mono ?_; rintro e w5 ⟨⟨BA, bc, bs⟩, he5, hx5, hI5, hw5⟩; obtain rfl : e = .returned (.slice BA bs.length bc) := he5; have hI5h := HD hI5; have hx5h := HD hx5; clear hI5 hx5; obtain ⟨hc5, hf5, hz5⟩ := Bl.rules hw5; (try simp only [aZ, cZ, dZ, nZ] at hz5); (have y0 : w1.heap.size ≤ w5.heap.size := by omega); (try have y1 : w1.heap.size < w5.heap.size := by omega); (try have y2 : w1.heap.size + 1 < w5.heap.size := by omega))
   | (go_at_call 58; refine (T58'.out _ Bq ⟨BA, bc, bs⟩ (InB.up hI5h.out Bq) hx5h.out).mono ?_; rintro e w6 ⟨rfl, hw6⟩; have hw6h := HD hw6; obtain ⟨hc6, hf6, hz6⟩ := Bl.rules hw6; (try simp only [aZ, cZ, dZ, nZ] at hz6); (have y3 : w5.heap.size ≤ w6.heap.size := by omega); (try have y4 : w5.heap.size < w6.heap.size := by omega); (try have y6 : w1.heap.size < w6.heap.size := by omega); (try have y7 : w1.heap.size + 1 < w6.heap.size := by omega)))
  all_goals (go_wp2_with fail)
  all_goals go_meet
  all_goals (case rel => (refine ⟨_, rfl, aside ⟨by (try simp only [aZ]); omega, Bq, ?c0, ?c1⟩⟩; (case c0 => first | (simp [go_sem]; done) | (refine (setOff (by decide)).trans (setSame ?_); refine (congrArg Option.isSome (hc6 _ _ (by (try simp only [aZ]); omega))).trans ?_; simp [go_sem, *])); (case c1 => first | (simp [go_sem]; done) | (refine setSame ?_; refine (congrArg Option.isSome (setOff (by decide))).trans ?_; refine (congrArg Option.isSome (hc6 _ _ (by (try simp only [aZ]); omega))).trans ?_; simp [go_sem, *]))))
 case rest =>
  obtain ⟨ab, rfl, RA⟩ := hcut
  obtain ⟨hab, hBc0, k0, k1⟩ := RA.out
  have b0 : wc.cell? ⟨w.heap.size, 0, none⟩ = some (.slice A xs.length c) := hBc0.keep a0
  have b1 : wc.cell? ⟨w.heap.size, 1, none⟩ = some (.slice A2 ls.length c2) := hBc0.keep a1
  have b2 : wc.cell? ⟨w.heap.size + 1, 0, none⟩ = some (.slice VA vs.length vc) := hBc0.keep a2
  have b3 : wc.cell? ⟨w.heap.size + 1, 1, none⟩ = some (.slice PA ps.length pc) := hBc0.keep a3
  have b4 : wc.cell? ⟨w.heap.size + 1, 2, none⟩ = some (.slice SA ss.length sc) := hBc0.keep a4
  have b5 : wc.cell? ⟨w.heap.size + 1, 3, none⟩ = some (.slice OA os.length oc) := hBc0.keep a5
  have b6 : wc.cell? ⟨w.heap.size + 2, 0, none⟩ = some (.slice VA' vs'.length vc') := hBc0.keep a6
  have b7 : wc.cell? ⟨w.heap.size + 2, 1, none⟩ = some (.slice PA' ps'.length pc') := hBc0.keep a7
  have b8 : wc.cell? ⟨w.heap.size + 2, 2, none⟩ = some (.slice SA' ss'.length sc') := hBc0.keep a8
  have b9 : wc.cell? ⟨w.heap.size + 2, 3, none⟩ = some (.slice OA' os'.length oc') := hBc0.keep a9
  have b10 : wc.cell? ⟨w.heap.size + 3, 0, none⟩ = some (.int .i64 gi) := hBc0.keep a10
  have b11 : wc.cell? ⟨w.heap.size + 3, 1, none⟩ = some (.int .i64 go) := hBc0.keep a11
  have b12 : wc.cell? ⟨w.heap.size + 3, 2, none⟩ = some (.slice GA gs.length gc) := hBc0.keep a12
  have hBc : Bl w wc := hB1.trans hBc0
  clear RA k0 hab hBc0 hB1 z1 T58'
  clear a0 a1 a2 a3 a4 a5 a6 a7 a8 a9 a10 a11 a12
  go_upto_region 5 with fail
  have p2 : ∀ z : Later wc, z.at'.cell? ⟨w.heap.size + 1, 0, none⟩ = some (.slice VA vs.length vc) := fun z => z.keep b2
  have p3 : ∀ z : Later wc, z.at'.cell? ⟨w.heap.size + 1, 1, none⟩ = some (.slice PA ps.length pc) := fun z => z.keep b3
  have p10 : ∀ z : Later wc, z.at'.cell? ⟨w.heap.size + 3, 0, none⟩ = some (.int .i64 gi) := fun z => z.keep b10
  have p6 : ∀ z : Later wc, z.at'.cell? ⟨w.heap.size + 2, 0, none⟩ = some (.slice VA' vs'.length vc') := fun z => z.keep b6
  have p7 : ∀ z : Later wc, z.at'.cell? ⟨w.heap.size + 2, 1, none⟩ = some (.slice PA' ps'.length pc') := fun z => z.keep b7
  have p11 : ∀ z : Later wc, z.at'.cell? ⟨w.heap.size + 3, 1, none⟩ = some (.int .i64 go) := fun z => z.keep b11
  refine wp_region_later (by kernel_rfl) (by kernel_rfl) ?_
  repeat (go_big_quiet_step (first | ((go_at_call 60; with_reducible exact Calls.later (T60a.out _ (hBc.trans (Later.bl _))))) | ((go_at_call 60; with_reducible exact Calls.later (T60b.out _ (hBc.trans (Later.bl _))))) | ((go_at_call 60; with_reducible exact Calls.later (T60c.out _ (hBc.trans (Later.bl _))))) | ((go_at_call 60; with_reducible exact Calls.later (T60d.out _ (hBc.trans (Later.bl _)))))))
  refine wpQuiet_nil ?_
  intro w7 hB7
  have d10 : w7.cell? ⟨w.heap.size + 3, 0, none⟩ = some (.int .i64 gi) := hB7.keep b10
  have d11 : w7.cell? ⟨w.heap.size + 3, 1, none⟩ = some (.int .i64 go) := hB7.keep b11
  have kk1 := hB7.keep k1
  have hBd : Bl w w7 := hBc.trans hB7
  have he : (v1 + v2 + gi - v3 - v4 - go == 0) = true := by rw [hz.out]; rfl
  clear p2 p3 p10 p6 p7 p11 hB7 hBc T60a T60b T60c T60d k1
  clear b0 b1 b2 b3 b4 b5 b6 b7 b8 b9 b10 b11 b12
  go_upto_region 6 with fail
  have p10 : ∀ z : Later w7, z.at'.cell? ⟨w.heap.size + 3, 0, none⟩ = some (.int .i64 gi) := fun z => z.keep d10
  have p11 : ∀ z : Later w7, z.at'.cell? ⟨w.heap.size + 3, 1, none⟩ = some (.int .i64 go) := fun z => z.keep d11
  have p12 : ∀ z : Later w7, z.at'.cell? ⟨ab, 1, none⟩ = some (.int .i64 go) := fun z => z.keep kk1
  refine wp_region_later (by kernel_rfl) (by kernel_rfl) ?_
  repeat (go_big_quiet_step (first | ((go_at_call 60; with_reducible exact Calls.later (T60e.out _ (hBd.trans (Later.bl _)))))))
  refine wpQuiet_nil ?_
  intro w8 hB8
  clear p10 p11 p12
  go_wp2_with fail
  exact bodyPost_ret (v := .tuple #[.bool true, .int .i64 (v1 + v2 + gi - v3 - v4 - go), .int .i64 0]) (by simp [results, Tryz.results29, go_sem, *]) rfl ⟨by rw [hz.out], hBd.trans hB8⟩
theorem Sl.InI_at2 {w : World} {A : Option Addr} {c : Nat} {xs : List Int} (h : InI w ⟨A, c, xs⟩) (hne : 0 < xs.length) : ∃ b off, A = some ⟨b, off, none⟩ /\ ∀ W, Bl w W -> ∀ k, k < xs.length -> W.cell? ⟨b, off + k, none⟩ = some (.int .i64 (xs[k]!)) := by
 obtain ⟨b, off, hA, _, _, _⟩ := h.place (by intro e; simp only at e; rw [e] at hne; simp at hne)
 simp only at hA
 subst hA
 refine ⟨b, off, rfl, fun W hb k hk => ?_⟩
 have := Sl.Ok.cells h rfl W hb k hk 0 _ rfl
 simp only at this
 rw [getElem!_pos xs k hk]
 rwa [Nat.mul_one] at this
set_option maxHeartbeats 8000000 in
theorem f32_core (A A2 LA : Option Addr) (c c2 lc : Nat) (xs : List Nd) (ls : List Lk) (gs : List Led) (fs : List Infl) (x : St) (ss : List St) (w : World) (hN : InNet w ⟨⟨A, c, xs⟩, ⟨A2, c2, ls⟩⟩) (hl : InLeds w ⟨LA, lc, gs⟩) (hrun : RunOk ⟨⟨A, c, xs⟩, ⟨A2, c2, ls⟩⟩ fs x ss gs) (hx : StateOk ⟨⟨A, c, xs⟩, ⟨A2, c2, ls⟩⟩ x) (h4 : gs.length ≤ 10000) :
 Calls Tryz.prog 32 #[.agg #[.slice A xs.length c, .slice A2 ls.length c2], .slice LA gs.length lc] w (RSum ⟨⟨A, c, xs⟩, ⟨A2, c2, ls⟩⟩ gs w) := by
 have T62 := HD (fun W (h : Bl w W) => f62_c ⟨⟨A, c, xs⟩, ⟨A2, c2, ls⟩⟩ ⟨LA, lc, gs⟩ W (InNet.up hN h) (InLeds.up hl h) hx.1 (run_ledB hrun hx) h4)
 have T63 := HD (fun W (h : Bl w W) (g : Led) (hg : InLed W g) => f63_c ⟨⟨A, c, xs⟩, ⟨A2, c2, ls⟩⟩ g W (InNet.up hN h) hg)
 have hll := hl.room
 have hlh := HD hl
 have hL4 := ((netB_iff _).mp hx.1).2.1
 simp only at hll hL4
 have hgl := hrun.1
 have hst := HD (fun k (hk : k < gs.length) hf => sum_step hrun hx hk hf)
 have hfl := HD (fun k (hk : k ≤ gs.length) A' c' => ledB_flood hrun hx (k := k) (by omega) A' c')
 have hmono := HD (fun k d (hk : k + d ≤ gs.length) => flood_later hrun hx (k := k) d (by omega))
 obtain ⟨n, hn⟩ : ∃ n, n = (⟨⟨A, c, xs⟩, ⟨A2, c2, ls⟩⟩ : Net) := ⟨_, rfl⟩
 have hln : Hid (n.links.xs.length = ls.length) := (by rw [hn] : n.links.xs.length = ls.length)
 simp only at hfl hmono
 obtain ⟨R, hR⟩ : ∃ R, R = RSum ⟨⟨A, c, xs⟩, ⟨A2, c2, ls⟩⟩ gs w := ⟨_, rfl⟩
 rw [<- hR]
 have hRh := HD hR
 have hnh := HD hn
 clear hR hn hN hl hrun hx h4 hgl
 obtain ⟨i1, hi1, hz01, hz11, hz21⟩ := i3
 have HJ := HD (And.intro hi1 (And.intro hz01 (And.intro hz11 hz21)))
 have HU := HD u28
 clear hi1 hz01 hz11 hz21
 go_enter Tryz.func32, Tryz.ntmps32
 go_wp2_with fail
 refine (T62.out _ bz).mono ?_
 rintro e w1 ⟨rfl, hw1⟩
 have an0 : w1.cell? ⟨w.heap.size, 0, none⟩ = some (.slice A xs.length c) := hw1.keep (by simp [go_sem])
 have an1 : w1.cell? ⟨w.heap.size, 1, none⟩ = some (.slice A2 ls.length c2) := hw1.keep (by simp [go_sem])
 have ar0 : w1.cell? ⟨w.heap.size + 1, 0, none⟩ = some (.int .i64 0) := hw1.keep (by simp [go_sem])
 have ar1 : w1.cell? ⟨w.heap.size + 1, 1, none⟩ = some (.int .i64 0) := hw1.keep (by simp [go_sem])
 have ar2 : w1.cell? ⟨w.heap.size + 1, 2, none⟩ = some (.slice none 0 0) := hw1.keep (by simp [go_sem])
 have afr0 : w1.frozen? ⟨w.heap.size + 1, 0, none⟩ = false := hw1.keepF (by simp [go_sem]; rfl) (by simp [go_sem])
 have afr1 : w1.frozen? ⟨w.heap.size + 1, 1, none⟩ = false := hw1.keepF (by simp [go_sem]; rfl) (by simp [go_sem])
 have afr2 : w1.frozen? ⟨w.heap.size + 1, 2, none⟩ = false := hw1.keepF (by simp [go_sem]; rfl) (by simp [go_sem])
 have hB1 : Bl w w1 := bz
 have z1 : w.heap.size + 1 < w1.heap.size := by have := hw1.size; simp at this; omega
 clear hw1 T62
 go_wp2_with (at_make; refine wpList_make_full _ rfl _ _ 28 rfl w.heap.size 3 i1 (.int .i64 0) 1 HU.out HJ.out.1 HJ.out.2.1 HJ.out.2.2.1 .i64 .i64 _ _ ls.length rfl rfl rfl rfl (by rw [HJ.out.2.2.2]; omega) (by unfold maxLen; omega) (by omega) ?_)
 intro w2 hown hgr
 have hB12 : Bl w1 w2 := Bl.grown (Bl.refl _) hgr (fun g hg => by cases hg)
 have hrep : (madeCells #[Value.int .i64 0] ls.length).toList = (PL gs ls.length 0).map IV := by
  rw [toList_madeCells_one, PL_zero, List.map_replicate]
  rfl
 rw [hrep] at hown
 have hO1 := HD (show Own1 IV 3 w.heap.size w2 ⟨some ⟨w1.heap.size, 0, none⟩, ls.length, PL gs ls.length 0⟩ from by
  unfold Own1
  simp only [Sl.val, PL_len]
  simpa using hown)
 have bn0 : w2.cell? ⟨w.heap.size, 0, none⟩ = some (.slice A xs.length c) := hB12.keep an0
 have bn1 : w2.cell? ⟨w.heap.size, 1, none⟩ = some (.slice A2 ls.length c2) := hB12.keep an1
 have br0 : w2.cell? ⟨w.heap.size + 1, 0, none⟩ = some (.int .i64 0) := hB12.keep ar0
 have br1 : w2.cell? ⟨w.heap.size + 1, 1, none⟩ = some (.int .i64 0) := hB12.keep ar1
 have br2 : w2.cell? ⟨w.heap.size + 1, 2, none⟩ = some (.slice none 0 0) := hB12.keep ar2
 have bfr0 : w2.frozen? ⟨w.heap.size + 1, 0, none⟩ = false := hB12.keepF ar0 afr0
 have bfr1 : w2.frozen? ⟨w.heap.size + 1, 1, none⟩ = false := hB12.keepF ar1 afr1
 have bfr2 : w2.frozen? ⟨w.heap.size + 1, 2, none⟩ = false := hB12.keepF ar2 afr2
 have hB2 : Bl w w2 := hB1.trans hB12
 have z2 : w1.heap.size < w2.heap.size := (hO1.out.lt _ rfl).2
 have zs0 : (⟨some ⟨w1.heap.size, 0, none⟩, ls.length, PL gs ls.length 0⟩ : Sl Int).val.ownBlock = some w1.heap.size := rfl
 clear hown hgr hrep hB12 hB1 an0 an1 ar0 ar1 ar2 afr0 afr1 afr2 zs0
 go_wp2_with fail
 have hB3 : Bl w2 (w2.alloc (Obj.cells #[.int .i64 0, .int .i64 0, .slice (some ⟨w1.heap.size, 0, none⟩) ls.length ls.length] 90)) := bz
 have hO3 := HD (hO1.out.bl hB3)
 have bo0 : (w2.alloc (Obj.cells #[.int .i64 0, .int .i64 0, .slice (some ⟨w1.heap.size, 0, none⟩) ls.length ls.length] 90)).cell? ⟨w2.heap.size, 0, none⟩ = some (.int .i64 (cameT gs 0)) := by simp [go_sem, cameT, sumTo]
 have bo1 : (w2.alloc (Obj.cells #[.int .i64 0, .int .i64 0, .slice (some ⟨w1.heap.size, 0, none⟩) ls.length ls.length] 90)).cell? ⟨w2.heap.size, 1, none⟩ = some (.int .i64 (leftT gs 0)) := by simp [go_sem, leftT, sumTo]
 have bo2 : (w2.alloc (Obj.cells #[.int .i64 0, .int .i64 0, .slice (some ⟨w1.heap.size, 0, none⟩) ls.length ls.length] 90)).cell? ⟨w2.heap.size, 2, none⟩ = some (.slice (some ⟨w1.heap.size, 0, none⟩) ls.length ls.length) := by simp [go_sem]
 have bfo0 : (w2.alloc (Obj.cells #[.int .i64 0, .int .i64 0, .slice (some ⟨w1.heap.size, 0, none⟩) ls.length ls.length] 90)).frozen? ⟨w2.heap.size, 0, none⟩ = false := by simp [go_sem]
 have bfo1 : (w2.alloc (Obj.cells #[.int .i64 0, .int .i64 0, .slice (some ⟨w1.heap.size, 0, none⟩) ls.length ls.length] 90)).frozen? ⟨w2.heap.size, 1, none⟩ = false := by simp [go_sem]
 have dn0 : (w2.alloc (Obj.cells #[.int .i64 0, .int .i64 0, .slice (some ⟨w1.heap.size, 0, none⟩) ls.length ls.length] 90)).cell? ⟨w.heap.size, 0, none⟩ = some (.slice A xs.length c) := hB3.keep bn0
 have dn1 : (w2.alloc (Obj.cells #[.int .i64 0, .int .i64 0, .slice (some ⟨w1.heap.size, 0, none⟩) ls.length ls.length] 90)).cell? ⟨w.heap.size, 1, none⟩ = some (.slice A2 ls.length c2) := hB3.keep bn1
 have dr0 : (w2.alloc (Obj.cells #[.int .i64 0, .int .i64 0, .slice (some ⟨w1.heap.size, 0, none⟩) ls.length ls.length] 90)).cell? ⟨w.heap.size + 1, 0, none⟩ = some (.int .i64 0) := hB3.keep br0
 have dr1 : (w2.alloc (Obj.cells #[.int .i64 0, .int .i64 0, .slice (some ⟨w1.heap.size, 0, none⟩) ls.length ls.length] 90)).cell? ⟨w.heap.size + 1, 1, none⟩ = some (.int .i64 0) := hB3.keep br1
 have dr2 : (w2.alloc (Obj.cells #[.int .i64 0, .int .i64 0, .slice (some ⟨w1.heap.size, 0, none⟩) ls.length ls.length] 90)).cell? ⟨w.heap.size + 1, 2, none⟩ = some (.slice none 0 0) := hB3.keep br2
 have dfr0 : (w2.alloc (Obj.cells #[.int .i64 0, .int .i64 0, .slice (some ⟨w1.heap.size, 0, none⟩) ls.length ls.length] 90)).frozen? ⟨w.heap.size + 1, 0, none⟩ = false := hB3.keepF br0 bfr0
 have dfr1 : (w2.alloc (Obj.cells #[.int .i64 0, .int .i64 0, .slice (some ⟨w1.heap.size, 0, none⟩) ls.length ls.length] 90)).frozen? ⟨w.heap.size + 1, 1, none⟩ = false := hB3.keepF br1 bfr1
 have dfr2 : (w2.alloc (Obj.cells #[.int .i64 0, .int .i64 0, .slice (some ⟨w1.heap.size, 0, none⟩) ls.length ls.length] 90)).frozen? ⟨w.heap.size + 1, 2, none⟩ = false := hB3.keepF br2 bfr2
 have hB4 : Bl w (w2.alloc (Obj.cells #[.int .i64 0, .int .i64 0, .slice (some ⟨w1.heap.size, 0, none⟩) ls.length ls.length] 90)) := hB2.trans hB3
 have z3 : w2.heap.size < (w2.alloc (Obj.cells #[.int .i64 0, .int .i64 0, .slice (some ⟨w1.heap.size, 0, none⟩) ls.length ls.length] 90)).heap.size := by simp
 clear hO1 bn0 bn1 br0 br1 br2 bfr0 bfr1 bfr2 hB2 hB3
 generalize (w2.alloc (Obj.cells #[.int .i64 0, .int .i64 0, .slice (some ⟨w1.heap.size, 0, none⟩) ls.length ls.length] 90)) = w3 at *
 generalize w2.heap.size = ob at *
 generalize w1.heap.size = sb at *
 go_loopg [26] gs.length (fun gg s26 wr => ∃ (kk : Nat), kk ≤ gs.length /\ gs.length - kk ≤ gg /\ s26 = .int .i64 kk /\ Aside (Bl w wr) /\ Aside (ob < wr.heap.size) /\ Aside (floodB ls.length gs kk = false) /\ Aside (wr.cell? ⟨w.heap.size, 0, none⟩ = some (.slice A xs.length c)) /\ Aside (wr.cell? ⟨w.heap.size, 1, none⟩ = some (.slice A2 ls.length c2)) /\ Aside (wr.cell? ⟨w.heap.size + 1, 0, none⟩ = some (.int .i64 0)) /\ Aside (wr.cell? ⟨w.heap.size + 1, 1, none⟩ = some (.int .i64 0)) /\ Aside (wr.cell? ⟨w.heap.size + 1, 2, none⟩ = some (.slice none 0 0)) /\ Aside (wr.cell? ⟨ob, 0, none⟩ = some (.int .i64 (cameT gs kk))) /\ Aside (wr.cell? ⟨ob, 1, none⟩ = some (.int .i64 (leftT gs kk))) /\ Aside (wr.cell? ⟨ob, 2, none⟩ = some (.slice (some ⟨sb, 0, none⟩) ls.length ls.length)) /\ Aside (wr.frozen? ⟨w.heap.size + 1, 0, none⟩ = false) /\ Aside (wr.frozen? ⟨w.heap.size + 1, 1, none⟩ = false) /\ Aside (wr.frozen? ⟨w.heap.size + 1, 2, none⟩ = false) /\ Aside (wr.frozen? ⟨ob, 0, none⟩ = false) /\ Aside (wr.frozen? ⟨ob, 1, none⟩ = false) /\ Aside (Own1 IV 3 w.heap.size wr ⟨some ⟨sb, 0, none⟩, ls.length, PL gs ls.length kk⟩))
 case atStart => exact ⟨0, Nat.zero_le _, by omega, rfl, hB4, aside z3, aside (flood_zero _ _), aside dn0, aside dn1, aside dr0, aside dr1, aside dr2, aside bo0, aside bo1, aside bo2, aside dfr0, aside dfr1, aside dfr2, aside bfo0, aside bfo1, hO3.out⟩
 case round =>
  clear dn0 dn1 dr0 dr1 dr2 bo0 bo1 bo2 dfr0 dfr1 dfr2 bfo0 bfo1 hO3 hB4 z3
  obtain ⟨kk, hkk, hg, rfl, BW, Z, NF, N0, N1, R0, R1, R2, O0, O1, O2, FR0, FR1, FR2, FO0, FO1, OW⟩ := hrel
  have BW' := BW.out
  have Z' := Z.out
  have cn0 := N0.out
  have cn1 := N1.out
  have cr0 := R0.out
  have cr1 := R1.out
  have cr2 := R2.out
  have co0 := O0.out
  have co1 := O1.out
  have co2 := O2.out
  have cfr0 := FR0.out
  have cfr1 := FR1.out
  have cfr2 := FR2.out
  have cfo0 := FO0.out
  have cfo1 := FO1.out
  clear N0 N1 R0 R1 R2 O0 O1 O2 FR0 FR1 FR2 FO0 FO1
  by_cases hlt : kk < gs.length
  ·have hltz : (kk : Int) < (gs.length : Int) := by omega
   have hkz : (0 : Int) ≤ (kk : Int) := by omega
   obtain ⟨bG, offG, hGA, _, _, _⟩ := hlh.out.place (by intro e; simp only at e; rw [e] at hlt; simp at hlt)
   simp only at hGA
   subst hGA
   have hcg := Sl.Ok.cells hlh.out rfl wr BW' kk hlt
   simp only at hcg
   have hgood := HD (fun W (h : Bl w W) => (InLeds.up hlh.out h).each gs[kk] (List.getElem_mem _))
   have hs0 := hst.out kk hlt NF.out
   have hC1 := HD hs0.c1
   have hL1 := HD hs0.l1
   have hcb := hs0.cb
   have hlb := hs0.lb
   have hib := hs0.ib
   have hob := hs0.ob
   have hpl := HD hs0.pl
   have hps := HD hs0.ps
   clear hs0
   simp only at hpl hps
   generalize gs[kk] = y at hcg hgood hC1 hL1 hib hob hpl hps
   obtain ⟨yi, yo, ⟨YA, yc, ys⟩⟩ := y
   simp only at hC1 hL1 hib hob hpl hps
   generalize hca : cameT gs kk = ca at *
   generalize hle : leftT gs kk = le at *
   clear hca hle
   have w1_ : IntKind.i64.wrap (ca + yi) = ca + yi := IntWalk.i64_in _ (by omega)
   have w2_ : IntKind.i64.wrap (le + yo) = le + yo := IntWalk.i64_in _ (by omega)
   have f0 : wr.cell? ⟨bG, offG + kk * 3, none⟩ = some (.int .i64 yi) := hcg 0 _ rfl
   have f1 : wr.cell? ⟨bG, offG + kk * 3 + 1, none⟩ = some (.int .i64 yo) := hcg 1 _ rfl
   have f2 : wr.cell? ⟨bG, offG + kk * 3 + 2, none⟩ = some (.slice YA ys.length yc) := hcg 2 _ rfl
   have rn0 : (wr.setCell ⟨ob, 0, none⟩ (.int .i64 (ca + yi))).cell? ⟨w.heap.size, 0, none⟩ = some (.slice A xs.length c) := (setBlk' (by omega)).trans cn0
   have rn1 : (wr.setCell ⟨ob, 0, none⟩ (.int .i64 (ca + yi))).cell? ⟨w.heap.size, 1, none⟩ = some (.slice A2 ls.length c2) := (setBlk' (by omega)).trans cn1
   have rr0 : (wr.setCell ⟨ob, 0, none⟩ (.int .i64 (ca + yi))).cell? ⟨w.heap.size + 1, 0, none⟩ = some (.int .i64 0) := (setBlk' (by omega)).trans cr0
   have rr1 : (wr.setCell ⟨ob, 0, none⟩ (.int .i64 (ca + yi))).cell? ⟨w.heap.size + 1, 1, none⟩ = some (.int .i64 0) := (setBlk' (by omega)).trans cr1
   have rr2 : (wr.setCell ⟨ob, 0, none⟩ (.int .i64 (ca + yi))).cell? ⟨w.heap.size + 1, 2, none⟩ = some (.slice none 0 0) := (setBlk' (by omega)).trans cr2
   have ro0 : (wr.setCell ⟨ob, 0, none⟩ (.int .i64 (ca + yi))).cell? ⟨ob, 0, none⟩ = some (.int .i64 (ca + yi)) := setSame (by rw [co0]; rfl)
   have ro1 : (wr.setCell ⟨ob, 0, none⟩ (.int .i64 (ca + yi))).cell? ⟨ob, 1, none⟩ = some (.int .i64 (le)) := (setOff (by decide)).trans co1
   have ro2 : (wr.setCell ⟨ob, 0, none⟩ (.int .i64 (ca + yi))).cell? ⟨ob, 2, none⟩ = some (.slice (some ⟨sb, 0, none⟩) ls.length ls.length) := (setOff (by decide)).trans co2
   have rfr0 : (wr.setCell ⟨ob, 0, none⟩ (.int .i64 (ca + yi))).frozen? ⟨w.heap.size + 1, 0, none⟩ = false := by simp [go_sem, cfr0]
   have rfr1 : (wr.setCell ⟨ob, 0, none⟩ (.int .i64 (ca + yi))).frozen? ⟨w.heap.size + 1, 1, none⟩ = false := by simp [go_sem, cfr1]
   have rfr2 : (wr.setCell ⟨ob, 0, none⟩ (.int .i64 (ca + yi))).frozen? ⟨w.heap.size + 1, 2, none⟩ = false := by simp [go_sem, cfr2]
   have rfo0 : (wr.setCell ⟨ob, 0, none⟩ (.int .i64 (ca + yi))).frozen? ⟨ob, 0, none⟩ = false := by simp [go_sem, cfo0]
   have rfo1 : (wr.setCell ⟨ob, 0, none⟩ (.int .i64 (ca + yi))).frozen? ⟨ob, 1, none⟩ = false := by simp [go_sem, cfo1]
   have vn0 : ((wr.setCell ⟨ob, 0, none⟩ (.int .i64 (ca + yi))).setCell ⟨ob, 1, none⟩ (.int .i64 (le + yo))).cell? ⟨w.heap.size, 0, none⟩ = some (.slice A xs.length c) := (setBlk' (by omega)).trans rn0
   have vn1 : ((wr.setCell ⟨ob, 0, none⟩ (.int .i64 (ca + yi))).setCell ⟨ob, 1, none⟩ (.int .i64 (le + yo))).cell? ⟨w.heap.size, 1, none⟩ = some (.slice A2 ls.length c2) := (setBlk' (by omega)).trans rn1
   have vr0 : ((wr.setCell ⟨ob, 0, none⟩ (.int .i64 (ca + yi))).setCell ⟨ob, 1, none⟩ (.int .i64 (le + yo))).cell? ⟨w.heap.size + 1, 0, none⟩ = some (.int .i64 0) := (setBlk' (by omega)).trans rr0
   have vr1 : ((wr.setCell ⟨ob, 0, none⟩ (.int .i64 (ca + yi))).setCell ⟨ob, 1, none⟩ (.int .i64 (le + yo))).cell? ⟨w.heap.size + 1, 1, none⟩ = some (.int .i64 0) := (setBlk' (by omega)).trans rr1
   have vr2 : ((wr.setCell ⟨ob, 0, none⟩ (.int .i64 (ca + yi))).setCell ⟨ob, 1, none⟩ (.int .i64 (le + yo))).cell? ⟨w.heap.size + 1, 2, none⟩ = some (.slice none 0 0) := (setBlk' (by omega)).trans rr2
   have vo0 : ((wr.setCell ⟨ob, 0, none⟩ (.int .i64 (ca + yi))).setCell ⟨ob, 1, none⟩ (.int .i64 (le + yo))).cell? ⟨ob, 0, none⟩ = some (.int .i64 (ca + yi)) := (setOff (by decide)).trans ro0
   have vo1 : ((wr.setCell ⟨ob, 0, none⟩ (.int .i64 (ca + yi))).setCell ⟨ob, 1, none⟩ (.int .i64 (le + yo))).cell? ⟨ob, 1, none⟩ = some (.int .i64 (le + yo)) := setSame (by rw [ro1]; rfl)
   have vo2 : ((wr.setCell ⟨ob, 0, none⟩ (.int .i64 (ca + yi))).setCell ⟨ob, 1, none⟩ (.int .i64 (le + yo))).cell? ⟨ob, 2, none⟩ = some (.slice (some ⟨sb, 0, none⟩) ls.length ls.length) := (setOff (by decide)).trans ro2
   have vfr0 : ((wr.setCell ⟨ob, 0, none⟩ (.int .i64 (ca + yi))).setCell ⟨ob, 1, none⟩ (.int .i64 (le + yo))).frozen? ⟨w.heap.size + 1, 0, none⟩ = false := by simp [go_sem, rfr0]
   have vfr1 : ((wr.setCell ⟨ob, 0, none⟩ (.int .i64 (ca + yi))).setCell ⟨ob, 1, none⟩ (.int .i64 (le + yo))).frozen? ⟨w.heap.size + 1, 1, none⟩ = false := by simp [go_sem, rfr1]
   have vfr2 : ((wr.setCell ⟨ob, 0, none⟩ (.int .i64 (ca + yi))).setCell ⟨ob, 1, none⟩ (.int .i64 (le + yo))).frozen? ⟨w.heap.size + 1, 2, none⟩ = false := by simp [go_sem, rfr2]
   have vfo0 : ((wr.setCell ⟨ob, 0, none⟩ (.int .i64 (ca + yi))).setCell ⟨ob, 1, none⟩ (.int .i64 (le + yo))).frozen? ⟨ob, 0, none⟩ = false := by simp [go_sem, rfo0]
   have vfo1 : ((wr.setCell ⟨ob, 0, none⟩ (.int .i64 (ca + yi))).setCell ⟨ob, 1, none⟩ (.int .i64 (le + yo))).frozen? ⟨ob, 1, none⟩ = false := by simp [go_sem, rfo1]
   have hBa : Bl ((wr.setCell ⟨ob, 0, none⟩ (.int .i64 (ca + yi))).setCell ⟨ob, 1, none⟩ (.int .i64 (le + yo))) (((wr.setCell ⟨ob, 0, none⟩ (.int .i64 (ca + yi))).setCell ⟨ob, 1, none⟩ (.int .i64 (le + yo))).alloc (Obj.cells #[.int .i64 yi, .int .i64 yo, .slice YA ys.length yc] 90)) := bz
   have un0 : (((wr.setCell ⟨ob, 0, none⟩ (.int .i64 (ca + yi))).setCell ⟨ob, 1, none⟩ (.int .i64 (le + yo))).alloc (Obj.cells #[.int .i64 yi, .int .i64 yo, .slice YA ys.length yc] 90)).cell? ⟨w.heap.size, 0, none⟩ = some (.slice A xs.length c) := hBa.keep vn0
   have un1 : (((wr.setCell ⟨ob, 0, none⟩ (.int .i64 (ca + yi))).setCell ⟨ob, 1, none⟩ (.int .i64 (le + yo))).alloc (Obj.cells #[.int .i64 yi, .int .i64 yo, .slice YA ys.length yc] 90)).cell? ⟨w.heap.size, 1, none⟩ = some (.slice A2 ls.length c2) := hBa.keep vn1
   have ur0 : (((wr.setCell ⟨ob, 0, none⟩ (.int .i64 (ca + yi))).setCell ⟨ob, 1, none⟩ (.int .i64 (le + yo))).alloc (Obj.cells #[.int .i64 yi, .int .i64 yo, .slice YA ys.length yc] 90)).cell? ⟨w.heap.size + 1, 0, none⟩ = some (.int .i64 0) := hBa.keep vr0
   have ur1 : (((wr.setCell ⟨ob, 0, none⟩ (.int .i64 (ca + yi))).setCell ⟨ob, 1, none⟩ (.int .i64 (le + yo))).alloc (Obj.cells #[.int .i64 yi, .int .i64 yo, .slice YA ys.length yc] 90)).cell? ⟨w.heap.size + 1, 1, none⟩ = some (.int .i64 0) := hBa.keep vr1
   have ur2 : (((wr.setCell ⟨ob, 0, none⟩ (.int .i64 (ca + yi))).setCell ⟨ob, 1, none⟩ (.int .i64 (le + yo))).alloc (Obj.cells #[.int .i64 yi, .int .i64 yo, .slice YA ys.length yc] 90)).cell? ⟨w.heap.size + 1, 2, none⟩ = some (.slice none 0 0) := hBa.keep vr2
   have uo0 : (((wr.setCell ⟨ob, 0, none⟩ (.int .i64 (ca + yi))).setCell ⟨ob, 1, none⟩ (.int .i64 (le + yo))).alloc (Obj.cells #[.int .i64 yi, .int .i64 yo, .slice YA ys.length yc] 90)).cell? ⟨ob, 0, none⟩ = some (.int .i64 (ca + yi)) := hBa.keep vo0
   have uo1 : (((wr.setCell ⟨ob, 0, none⟩ (.int .i64 (ca + yi))).setCell ⟨ob, 1, none⟩ (.int .i64 (le + yo))).alloc (Obj.cells #[.int .i64 yi, .int .i64 yo, .slice YA ys.length yc] 90)).cell? ⟨ob, 1, none⟩ = some (.int .i64 (le + yo)) := hBa.keep vo1
   have uo2 : (((wr.setCell ⟨ob, 0, none⟩ (.int .i64 (ca + yi))).setCell ⟨ob, 1, none⟩ (.int .i64 (le + yo))).alloc (Obj.cells #[.int .i64 yi, .int .i64 yo, .slice YA ys.length yc] 90)).cell? ⟨ob, 2, none⟩ = some (.slice (some ⟨sb, 0, none⟩) ls.length ls.length) := hBa.keep vo2
   have ufr0 : (((wr.setCell ⟨ob, 0, none⟩ (.int .i64 (ca + yi))).setCell ⟨ob, 1, none⟩ (.int .i64 (le + yo))).alloc (Obj.cells #[.int .i64 yi, .int .i64 yo, .slice YA ys.length yc] 90)).frozen? ⟨w.heap.size + 1, 0, none⟩ = false := hBa.keepF vr0 vfr0
   have ufr1 : (((wr.setCell ⟨ob, 0, none⟩ (.int .i64 (ca + yi))).setCell ⟨ob, 1, none⟩ (.int .i64 (le + yo))).alloc (Obj.cells #[.int .i64 yi, .int .i64 yo, .slice YA ys.length yc] 90)).frozen? ⟨w.heap.size + 1, 1, none⟩ = false := hBa.keepF vr1 vfr1
   have ufr2 : (((wr.setCell ⟨ob, 0, none⟩ (.int .i64 (ca + yi))).setCell ⟨ob, 1, none⟩ (.int .i64 (le + yo))).alloc (Obj.cells #[.int .i64 yi, .int .i64 yo, .slice YA ys.length yc] 90)).frozen? ⟨w.heap.size + 1, 2, none⟩ = false := hBa.keepF vr2 vfr2
   have ufo0 : (((wr.setCell ⟨ob, 0, none⟩ (.int .i64 (ca + yi))).setCell ⟨ob, 1, none⟩ (.int .i64 (le + yo))).alloc (Obj.cells #[.int .i64 yi, .int .i64 yo, .slice YA ys.length yc] 90)).frozen? ⟨ob, 0, none⟩ = false := hBa.keepF vo0 vfo0
   have ufo1 : (((wr.setCell ⟨ob, 0, none⟩ (.int .i64 (ca + yi))).setCell ⟨ob, 1, none⟩ (.int .i64 (le + yo))).alloc (Obj.cells #[.int .i64 yi, .int .i64 yo, .slice YA ys.length yc] 90)).frozen? ⟨ob, 1, none⟩ = false := hBa.keepF vo1 vfo1
   have j2 : (((wr.setCell ⟨ob, 0, none⟩ (.int .i64 (ca + yi))).setCell ⟨ob, 1, none⟩ (.int .i64 (le + yo))).alloc (Obj.cells #[.int .i64 yi, .int .i64 yo, .slice YA ys.length yc] 90)).cell? ⟨wr.heap.size, 2, none⟩ = some (.slice YA ys.length yc) := by simp [go_sem]
   have hB5 : Bl w (((wr.setCell ⟨ob, 0, none⟩ (.int .i64 (ca + yi))).setCell ⟨ob, 1, none⟩ (.int .i64 (le + yo))).alloc (Obj.cells #[.int .i64 yi, .int .i64 yo, .slice YA ys.length yc] 90)) := Bl.trans (Bl.setCell (Bl.setCell BW' (by simp only; omega) _) (by simp only; omega) _) hBa
   have hO5 := HD (((OW.out.other (a := ⟨ob, 0, none⟩) (by simp [Value.ownBlock]; omega) (.int .i64 (ca + yi))).other (a := ⟨ob, 1, none⟩) (by simp [Value.ownBlock]; omega) (.int .i64 (le + yo))).bl hBa)
   have z5 : wr.heap.size < (((wr.setCell ⟨ob, 0, none⟩ (.int .i64 (ca + yi))).setCell ⟨ob, 1, none⟩ (.int .i64 (le + yo))).alloc (Obj.cells #[.int .i64 yi, .int .i64 yo, .slice YA ys.length yc] 90)).heap.size := by simp
   clear rn0 rn1 rr0 rr1 rr2 ro0 ro1 ro2 rfr0 rfr1 rfr2 rfo0 rfo1
   clear vn0 vn1 vr0 vr1 vr2 vo0 vo1 vo2 vfr0 vfr1 vfr2 vfo0 vfo1
   clear hcg OW BW
   go_wp2_with fail
   clear cn0 cn1 cr0 cr1 cr2 co0 co1 co2 cfr0 cfr1 cfr2 cfo0 cfo1
   clear f0 f1 f2 hBa BW'
   generalize (((wr.setCell ⟨ob, 0, none⟩ (.int .i64 (ca + yi))).setCell ⟨ob, 1, none⟩ (.int .i64 (le + yo))).alloc (Obj.cells #[.int .i64 yi, .int .i64 yo, .slice YA ys.length yc] 90)) = W4 at *
   have zo : ob < wr.heap.size := Z'
   clear Z'
   generalize wr.heap.size = vb at *
   have hm0 : PL gs ls.length kk = PM gs ls.length kk 0 := (PM_zero _ _ _).symm
   rw [hm0] at hO5
   clear hm0
   have hys : ys.length = ls.length := hpl.out
   go_loopg [45] ys.length (fun gg s45 wr => ∃ (jj : Nat), jj ≤ ys.length /\ ys.length - jj ≤ gg /\ s45 = .int .i64 jj /\ Aside (Bl w wr) /\ Aside (vb < wr.heap.size) /\ Aside (wr.cell? ⟨w.heap.size, 0, none⟩ = some (.slice A xs.length c)) /\ Aside (wr.cell? ⟨w.heap.size, 1, none⟩ = some (.slice A2 ls.length c2)) /\ Aside (wr.cell? ⟨w.heap.size + 1, 0, none⟩ = some (.int .i64 0)) /\ Aside (wr.cell? ⟨w.heap.size + 1, 1, none⟩ = some (.int .i64 0)) /\ Aside (wr.cell? ⟨w.heap.size + 1, 2, none⟩ = some (.slice none 0 0)) /\ Aside (wr.cell? ⟨ob, 0, none⟩ = some (.int .i64 (ca + yi))) /\ Aside (wr.cell? ⟨ob, 1, none⟩ = some (.int .i64 (le + yo))) /\ Aside (wr.cell? ⟨ob, 2, none⟩ = some (.slice (some ⟨sb, 0, none⟩) ls.length ls.length)) /\ Aside (wr.frozen? ⟨w.heap.size + 1, 0, none⟩ = false) /\ Aside (wr.frozen? ⟨w.heap.size + 1, 1, none⟩ = false) /\ Aside (wr.frozen? ⟨w.heap.size + 1, 2, none⟩ = false) /\ Aside (wr.frozen? ⟨ob, 0, none⟩ = false) /\ Aside (wr.frozen? ⟨ob, 1, none⟩ = false) /\ Aside (Own1 IV 3 w.heap.size wr ⟨some ⟨sb, 0, none⟩, ls.length, PM gs ls.length kk jj⟩))
   case atStart => exact ⟨0, Nat.zero_le _, by omega, rfl, hB5, aside z5, aside un0, aside un1, aside ur0, aside ur1, aside ur2, aside uo0, aside uo1, aside uo2, aside ufr0, aside ufr1, aside ufr2, aside ufo0, aside ufo1, hO5.out⟩
   case round =>
    clear un0 un1 ur0 ur1 ur2 uo0 uo1 uo2 ufr0 ufr1 ufr2 ufo0 ufo1 hO5 hB5 z5 j2
    obtain ⟨jj, hjj, hgj, rfl, BW, Z, N0, N1, R0, R1, R2, O0, O1, O2, FR0, FR1, FR2, FO0, FO1, OW⟩ := hrel
    have BW' := BW.out
    have Z' := Z.out
    have cn0 := N0.out
    have cn1 := N1.out
    have cr0 := R0.out
    have cr1 := R1.out
    have cr2 := R2.out
    have co0 := O0.out
    have co1 := O1.out
    have co2 := O2.out
    have cfr0 := FR0.out
    have cfr1 := FR1.out
    have cfr2 := FR2.out
    have cfo0 := FO0.out
    have cfo1 := FO1.out
    clear N0 N1 R0 R1 R2 O0 O1 O2 FR0 FR1 FR2 FO0 FO1
    by_cases hjl : jj < ys.length
    ·have hjz : (jj : Int) < (ys.length : Int) := by omega
     have hj0 : (0 : Int) ≤ (jj : Int) := by omega
     have hjL : (jj : Int) < (ls.length : Int) := by omega
     obtain ⟨bY, oY, hYA, CY⟩ := Sl.InI_at2 (hgood.out w (Bl.refl w)) (by omega)
     subst hYA
     have ey := CY wr BW' jj hjl
     have hp := hps.out jj (by omega)
     have hql : Hid (jj < (PM gs ls.length kk jj).length) := (by rw [PM_len]; omega : jj < (PM gs ls.length kk jj).length)
     have eo := OW.out.cell jj hql.out
     rw [PM_get, if_neg (by omega)] at eo
     have fo := OW.out.fro jj
     obtain ⟨hp1, hp2, hp3, hp4, hp5⟩ := hp
     have hpn := HD hp1
     clear hp1 CY
     generalize ys[jj]! = yv at *
     generalize hpp : passT gs jj kk = pv at *
     clear hpp
     have eo' : wr.cell? ⟨sb, jj, none⟩ = some (.int .i64 pv) := eo
     have hwp : IntKind.i64.wrap (pv + yv) = pv + yv := IntWalk.i64_in _ (by omega)
     have O6 := HD (show Own1 IV 3 w.heap.size (wr.setCell ⟨sb, jj, none⟩ (.int .i64 (pv + yv))) ⟨some ⟨sb, 0, none⟩, ls.length, PM gs ls.length kk (jj + 1)⟩ from by
      have := OW.out.set jj (pv + yv)
      rw [<- hpn.out, PM_set, hpn.out] at this
      exact this)
     have mn0 : (wr.setCell ⟨sb, jj, none⟩ (.int .i64 (pv + yv))).cell? ⟨w.heap.size, 0, none⟩ = some (.slice A xs.length c) := (setBlk' (by omega)).trans cn0
     have mn1 : (wr.setCell ⟨sb, jj, none⟩ (.int .i64 (pv + yv))).cell? ⟨w.heap.size, 1, none⟩ = some (.slice A2 ls.length c2) := (setBlk' (by omega)).trans cn1
     have mr0 : (wr.setCell ⟨sb, jj, none⟩ (.int .i64 (pv + yv))).cell? ⟨w.heap.size + 1, 0, none⟩ = some (.int .i64 0) := (setBlk' (by omega)).trans cr0
     have mr1 : (wr.setCell ⟨sb, jj, none⟩ (.int .i64 (pv + yv))).cell? ⟨w.heap.size + 1, 1, none⟩ = some (.int .i64 0) := (setBlk' (by omega)).trans cr1
     have mr2 : (wr.setCell ⟨sb, jj, none⟩ (.int .i64 (pv + yv))).cell? ⟨w.heap.size + 1, 2, none⟩ = some (.slice none 0 0) := (setBlk' (by omega)).trans cr2
     have mo0 : (wr.setCell ⟨sb, jj, none⟩ (.int .i64 (pv + yv))).cell? ⟨ob, 0, none⟩ = some (.int .i64 (ca + yi)) := (setBlk' (by omega)).trans co0
     have mo1 : (wr.setCell ⟨sb, jj, none⟩ (.int .i64 (pv + yv))).cell? ⟨ob, 1, none⟩ = some (.int .i64 (le + yo)) := (setBlk' (by omega)).trans co1
     have mo2 : (wr.setCell ⟨sb, jj, none⟩ (.int .i64 (pv + yv))).cell? ⟨ob, 2, none⟩ = some (.slice (some ⟨sb, 0, none⟩) ls.length ls.length) := (setBlk' (by omega)).trans co2
     have mfr0 : (wr.setCell ⟨sb, jj, none⟩ (.int .i64 (pv + yv))).frozen? ⟨w.heap.size + 1, 0, none⟩ = false := by simp [go_sem, cfr0]
     have mfr1 : (wr.setCell ⟨sb, jj, none⟩ (.int .i64 (pv + yv))).frozen? ⟨w.heap.size + 1, 1, none⟩ = false := by simp [go_sem, cfr1]
     have mfr2 : (wr.setCell ⟨sb, jj, none⟩ (.int .i64 (pv + yv))).frozen? ⟨w.heap.size + 1, 2, none⟩ = false := by simp [go_sem, cfr2]
     have mfo0 : (wr.setCell ⟨sb, jj, none⟩ (.int .i64 (pv + yv))).frozen? ⟨ob, 0, none⟩ = false := by simp [go_sem, cfo0]
     have mfo1 : (wr.setCell ⟨sb, jj, none⟩ (.int .i64 (pv + yv))).frozen? ⟨ob, 1, none⟩ = false := by simp [go_sem, cfo1]
     have hB6 : Bl w (wr.setCell ⟨sb, jj, none⟩ (.int .i64 (pv + yv))) := Bl.setCell BW' (by simp only; omega) _
     have z6 : vb < (wr.setCell ⟨sb, jj, none⟩ (.int .i64 (pv + yv))).heap.size := by rw [cZ]; exact Z'
     clear eo hp2 hp3 hp4 hp5 OW
     go_wp2_with fail
     go_roundg (ys.length - (jj + 1))
     case measure => omega
     case rel => exact ⟨jj + 1, by omega, by omega, by go_num, hB6, aside z6, aside mn0, aside mn1, aside mr0, aside mr1, aside mr2, aside mo0, aside mo1, aside mo2, aside mfr0, aside mfr1, aside mfr2, aside mfo0, aside mfo1, O6.out⟩
    ·have hjz : ¬ (jj : Int) < (ys.length : Int) := by omega
     have hjl2 : jj = ys.length := by omega
     subst hjl2
     have O7 := HD (show Own1 IV 3 w.heap.size wr ⟨some ⟨sb, 0, none⟩, ls.length, PL gs ls.length (kk + 1)⟩ from by
      have := OW.out
      rw [hys, PM_all] at this
      exact this)
     have hLg := HD (show InLed wr ⟨ca + yi, le + yo, ⟨some ⟨sb, 0, none⟩, ls.length, PL gs ls.length (kk + 1)⟩⟩ from Own1.ok O7.out (by simp only; rw [PL_len]; omega) (fun _ _ => trivial))
     have T1 := T63.out wr BW' ⟨ca + yi, le + yo, ⟨some ⟨sb, 0, none⟩, ls.length, PL gs ls.length (kk + 1)⟩⟩ hLg.out
     have hfk := hfl.out (kk + 1) (by omega) (some ⟨sb, 0, none⟩) ls.length
     rw [hC1.out, hL1.out] at hfk
     rw [hfk] at T1
     have hT1 : Hid (Calls Tryz.prog 63 #[.agg #[.slice A xs.length c, .slice A2 ls.length c2], .agg #[.int .i64 (ca + yi), .int .i64 (le + yo), .slice (some ⟨sb, 0, none⟩) ls.length ls.length]] wr fun e w' => e = .returned (.bool (!floodB ls.length gs (kk + 1))) /\ Bl wr w') := by
      have := T1
      simp only [Led.val, Sl.val, PL_len] at this
      exact this
     clear T1 hfk OW
     go_wp2_with fail
     refine hT1.out.mono ?_
     rintro e w7 ⟨rfl, hw7⟩
     have hB7 : Bl w w7 := BW'.trans hw7
     have z7 : ob < w7.heap.size := by have := hw7.size; omega
     have O8 := HD (O7.out.bl hw7)
     have tn0 : w7.cell? ⟨w.heap.size, 0, none⟩ = some (.slice A xs.length c) := hw7.keep cn0
     have tn1 : w7.cell? ⟨w.heap.size, 1, none⟩ = some (.slice A2 ls.length c2) := hw7.keep cn1
     have tr0 : w7.cell? ⟨w.heap.size + 1, 0, none⟩ = some (.int .i64 0) := hw7.keep cr0
     have tr1 : w7.cell? ⟨w.heap.size + 1, 1, none⟩ = some (.int .i64 0) := hw7.keep cr1
     have tr2 : w7.cell? ⟨w.heap.size + 1, 2, none⟩ = some (.slice none 0 0) := hw7.keep cr2
     have to0 : w7.cell? ⟨ob, 0, none⟩ = some (.int .i64 (ca + yi)) := hw7.keep co0
     have to1 : w7.cell? ⟨ob, 1, none⟩ = some (.int .i64 (le + yo)) := hw7.keep co1
     have to2 : w7.cell? ⟨ob, 2, none⟩ = some (.slice (some ⟨sb, 0, none⟩) ls.length ls.length) := hw7.keep co2
     have tfr0 : w7.frozen? ⟨w.heap.size + 1, 0, none⟩ = false := hw7.keepF cr0 cfr0
     have tfr1 : w7.frozen? ⟨w.heap.size + 1, 1, none⟩ = false := hw7.keepF cr1 cfr1
     have tfr2 : w7.frozen? ⟨w.heap.size + 1, 2, none⟩ = false := hw7.keepF cr2 cfr2
     have tfo0 : w7.frozen? ⟨ob, 0, none⟩ = false := hw7.keepF co0 cfo0
     have tfo1 : w7.frozen? ⟨ob, 1, none⟩ = false := hw7.keepF co1 cfo1
     clear cn0 cn1 cr0 cr1 cr2 co0 co1 co2 cfr0 cfr1 cfr2 cfo0 cfo1
     clear hw7
     cases hf : floodB ls.length gs (kk + 1)
     ·have hfh := HD hf
      clear hf
      go_wp2_with fail
      go_roundg (gs.length - (kk + 1))
      case measure => omega
      case rel => exact ⟨kk + 1, by omega, by omega, by go_num, hB7, aside z7, hfh.out, aside tn0, aside tn1, aside tr0, aside tr1, aside tr2, aside (by rw [hC1.out]; exact to0), aside (by rw [hL1.out]; exact to1), aside to2, aside tfr0, aside tfr1, aside tfr2, aside tfo0, aside tfo1, O8.out⟩
     ·have hff := HD (hmono.out (kk + 1) (gs.length - (kk + 1)) (by omega) hf)
      have hfin : Hid (∀ W, Bl w W -> R (.returned (.tuple #[.agg #[.int .i64 0, .int .i64 0, .slice none 0 0], .int .i64 5])) W) := fun W hW => by
       rw [hRh.out]
       have h1 := hff.out
       rw [show kk + 1 + (gs.length - (kk + 1)) = gs.length by omega] at h1
       exact ⟨gz, 5, rfl, fun _ => rfl, fun e => (by have e' : floodB ls.length gs gs.length = false := e; rw [h1] at e'; cases e'), hW⟩
      clear hf
      go_wp2_with fail
      refine ret32 _ _ (w.heap.size + 1) (.int .i64 0) (.int .i64 0) (.slice none 0 0) _ _ rfl rfl ?_ ?_ ?_ ?_
      ·exact (setOff (by decide)).trans ((setOff (by decide)).trans (setSame (by rw [tr0]; rfl)))
      ·exact (setOff (by decide)).trans (setSame (by rw [setOff (by decide), tr1]; rfl))
      ·exact setSame (by rw [setOff (by decide), setOff (by decide), tr2]; rfl)
      ·exact hfin.out _ (Bl.setCell (Bl.setCell (Bl.setCell hB7 (by simp only; omega) _) (by simp only; omega) _) (by simp only; omega) _)
  ·have hltz : ¬ (kk : Int) < (gs.length : Int) := by omega
   have hkl : kk = gs.length := by omega
   subst hkl
   have hfin : Hid (∀ W, Bl w W -> R (.returned (.tuple #[.agg #[.int .i64 (cameT gs gs.length), .int .i64 (leftT gs gs.length), .slice (some ⟨sb, 0, none⟩) ls.length ls.length], .int .i64 0])) W) := fun W hW => by
    rw [hRh.out]
    exact ⟨⟨cameT gs gs.length, leftT gs gs.length, ⟨some ⟨sb, 0, none⟩, ls.length, PL gs ls.length gs.length⟩⟩, 0, by simp only [Sl.val, Led.val, PL_len], fun e => (by have e' : floodB ls.length gs gs.length = true := e; rw [NF.out] at e'; cases e'), fun _ => ⟨rfl, rfl, rfl⟩, hW⟩
   generalize cameT gs gs.length = ca at *
   generalize leftT gs gs.length = le at *
   have NF' := HD NF.out
   clear NF
   go_wp2_with fail
   refine ret32 _ _ (w.heap.size + 1) (.int .i64 ca) (.int .i64 le) (.slice (some ⟨sb, 0, none⟩) ls.length ls.length) _ _ rfl rfl ?_ ?_ ?_ ?_
   ·exact (setOff (by decide)).trans ((setOff (by decide)).trans (setSame (by rw [cr0]; rfl)))
   ·exact (setOff (by decide)).trans (setSame (by rw [setOff (by decide), cr1]; rfl))
   ·exact setSame (by rw [setOff (by decide), setOff (by decide), cr2]; rfl)
   ·exact hfin.out _ (Bl.setCell (Bl.setCell (Bl.setCell BW' (by simp only; omega) _) (by simp only; omega) _) (by simp only; omega) _)
theorem f32_c (n : Net) (l : Sl Led) (fs : List Infl) (x : St) (ss : List St) (w : World) (hN : InNet w n) (hl : InLeds w l) (hrun : RunOk n fs x ss l.xs) (hx : StateOk n x) (h4 : l.xs.length ≤ 10000) : Calls Tryz.prog 32 #[n.val, l.val] w (RSum n l.xs w) := by
 obtain ⟨⟨A, c, xs⟩, ⟨A2, c2, ls⟩⟩ := n
 obtain ⟨LA, lc, gs⟩ := l
 exact f32_core A A2 LA c c2 lc xs ls gs fs x ss w hN hl hrun hx h4
def preL (F : Nat -> Int) (m k : Nat) : List Int := (List.range m).map (fun i => if i < k then F i else 0)
theorem preL_len (F : Nat -> Int) (m k : Nat) : (preL F m k).length = m := by simp [preL]
theorem preL_get (F : Nat -> Int) (m k i : Nat) (h : i < (preL F m k).length) : (preL F m k)[i] = if i < k then F i else 0 := by simp [preL]
theorem preL_zero (F : Nat -> Int) (m : Nat) : preL F m 0 = List.replicate m 0 := by
 refine List.ext_getElem (by simp [preL]) (fun i h1 h2 => ?_)
 rw [preL_get, if_neg (by omega)]
 simp
theorem preL_set (F : Nat -> Int) (m k : Nat) : (preL F m k).set k (F k) = preL F m (k + 1) := by
 refine List.ext_getElem (by simp [preL]) (fun i h1 h2 => ?_)
 rw [preL_get, List.getElem_set]
 by_cases h : k = i
 ·subst h
  rw [if_pos rfl, if_pos (by omega)]
 ·rw [if_neg h, preL_get]
  by_cases h3 : i < k
  ·rw [if_pos h3, if_pos (by omega)]
  ·rw [if_neg h3, if_neg (by omega)]
theorem preL_set0 (F : Nat -> Int) (m k : Nat) : (preL F m k).set k 0 = preL F m k := by
 refine List.ext_getElem (by simp [preL]) (fun i h1 h2 => ?_)
 rw [preL_get, List.getElem_set]
 by_cases h : k = i
 ·subst h
  rw [if_pos rfl, if_neg (by omega)]
 ·rw [if_neg h, preL_get]
theorem preL_all {L : List Int} {m : Nat} (h : L.length = m) : preL (fun i => L[i]!) m m = L := by
 refine List.ext_getElem (by simp [preL, h]) (fun i h1 h2 => ?_)
 rw [preL_get, if_pos (by rw [preL_len] at h1; exact h1), getElem!_pos L i h2]
theorem at_nil {n : Net} {k i : Nat} (hi : i < n.nodes.xs.length) : (atL n k [])[i]! = 0 := by
 unfold atL
 rw [List.foldl_nil, getElem!_pos _ i (by simpa using hi)]
 simp
set_option maxHeartbeats 8000000 in
theorem f28_core (A A2 FA : Option Addr) (c c2 fc : Nat) (xs : List Nd) (ls : List Lk) (fs : List Infl) (k : Nat) (w : World) (hN : InNet w ⟨⟨A, c, xs⟩, ⟨A2, c2, ls⟩⟩) (hF : InInfls w ⟨FA, fc, fs⟩) (hb : netB ⟨⟨A, c, xs⟩, ⟨A2, c2, ls⟩⟩ = true)
 (hx : xs.length ≤ 300) (hio : InflOk ⟨⟨A, c, xs⟩, ⟨A2, c2, ls⟩⟩ fs) (hbd : ∀ i, i < xs.length -> 0 ≤ (atL ⟨⟨A, c, xs⟩, ⟨A2, c2, ls⟩⟩ k fs)[i]! /\ (atL ⟨⟨A, c, xs⟩, ⟨A2, c2, ls⟩⟩ k fs)[i]! ≤ 1125899906842624) : Calls Tryz.prog 28 #[.agg #[.slice A xs.length c, .slice A2 ls.length c2], .slice FA fs.length fc, .int .i64 k] w (RAt ⟨⟨A, c, xs⟩, ⟨A2, c2, ls⟩⟩ k fs w) := by
 have hNh := HD hN
 have hFh := HD hF
 have hr := hF.room
 have hbh := HD hb
 simp only at hr
 obtain ⟨F, hFe⟩ : ∃ F : Nat -> Int, F = fun i => (atL ⟨⟨A, c, xs⟩, ⟨A2, c2, ls⟩⟩ k fs)[i]! := ⟨_, rfl⟩
 obtain ⟨G, hGe⟩ : ∃ G : Nat -> Nat -> Int, G = fun i j => (atL ⟨⟨A, c, xs⟩, ⟨A2, c2, ls⟩⟩ k (fs.take j))[i]! := ⟨_, rfl⟩
 have hstep : Hid (∀ i j (hi : i < xs.length) (hj : j < fs.length), (fs[j].node = xs[i].name -> k < fs[j].vols.xs.length -> G i j = 0 /\ G i (j + 1) = fs[j].vols.xs[k]! /\ 0 ≤ fs[j].vols.xs[k]! /\ fs[j].vols.xs[k]! ≤ 1125899906842624) /\ (¬ (fs[j].node = xs[i].name /\ k < fs[j].vols.xs.length) -> G i (j + 1) = G i j)) := fun i j hi hj => by
  obtain ⟨h1, h2⟩ := at_step hb k hio hi hj
  subst hGe
  refine ⟨fun a b => ?_, h2⟩
  obtain ⟨p, q, r⟩ := h1 a b
  have := hbd i hi
  rw [r] at this
  exact ⟨p, q, this⟩
 have hG0 : Hid (∀ i, i < xs.length -> G i 0 = 0) := fun i hi => by subst hGe; exact at_nil hi
 have hGe' : Hid (∀ i, G i fs.length = F i) := fun i => by subst hGe hFe; show (atL _ k (fs.take fs.length))[i]! = _; rw [List.take_length]
 have hall := HD (show preL F xs.length xs.length = atL ⟨⟨A, c, xs⟩, ⟨A2, c2, ls⟩⟩ k fs from by subst hFe; exact preL_all (atL_len _ _ _))
 obtain ⟨R, hR⟩ : ∃ R, R = RAt ⟨⟨A, c, xs⟩, ⟨A2, c2, ls⟩⟩ k fs w := ⟨_, rfl⟩
 rw [<- hR]
 have hRh := HD hR
 clear hR hN hF hb hio hbd hFe hGe
 obtain ⟨i1, hi1, hz01, hz11, hz21⟩ := i3
 have HJ := HD (And.intro hi1 (And.intro hz01 (And.intro hz11 hz21)))
 have HU := HD u28
 clear hi1 hz01 hz11 hz21
 go_enter Tryz.func28, Tryz.ntmps28
 go_wp2_with (at_make; refine wpList_make_full _ rfl _ _ 28 rfl w.heap.size 3 i1 (.int .i64 0) 1 HU.out HJ.out.1 HJ.out.2.1 HJ.out.2.2.1 .i64 .i64 _ _ xs.length rfl rfl rfl rfl (by rw [HJ.out.2.2.2]; omega) (by unfold maxLen; omega) (by simp) ?_)
 intro w1 hown hgr
 have hB1 : Bl w w1 := Bl.grown bz hgr (fun g hg => by cases hg)
 have hrep : (madeCells #[Value.int .i64 0] xs.length).toList = (preL F xs.length 0).map IV := by
  rw [toList_madeCells_one, preL_zero, List.map_replicate]
  rfl
 rw [hrep] at hown
 have hO1 := HD (show Own1 IV 3 w.heap.size w1 ⟨some ⟨w.heap.size + 1, 0, none⟩, xs.length, preL F xs.length 0⟩ from by
  unfold Own1
  simp only [Sl.val, preL_len]
  simpa using hown)
 have b0 : w1.cell? ⟨w.heap.size, 0, none⟩ = some (.slice A xs.length c) := by
  rw [World.cell?_of_block (w := w.alloc (Obj.cells #[.slice A xs.length c, .slice A2 ls.length c2] 25)) (hgr.block _ (by simp) (by simp))]
  simp [go_sem]
 have z1 : w.heap.size + 1 < w1.heap.size := (hO1.out.lt _ rfl).2
 clear hown hgr hrep
 go_wp2_with fail
 go_loopg [19] xs.length (fun gg s19 wr => ∃ (kk : Nat), kk ≤ xs.length /\ xs.length - kk ≤ gg /\ s19 = .int .i64 kk /\ Aside (Bl w wr) /\ Aside (w.heap.size + 1 < wr.heap.size) /\ Aside (Own1 IV 3 w.heap.size wr ⟨some ⟨w.heap.size + 1, 0, none⟩, xs.length, preL F xs.length kk⟩))
 case atStart => exact ⟨0, Nat.zero_le _, by omega, rfl, hB1, aside z1, hO1.out⟩
 case round =>
  clear hB1 z1 b0 hO1
  obtain ⟨kk, hkk, hg, rfl, BW, Z, OW⟩ := hrel
  have BW' := BW.out
  have Z' := Z.out
  by_cases hlt : kk < xs.length
  ·have hltz : (kk : Int) < (xs.length : Int) := by omega
   have hkz : (0 : Int) ≤ (kk : Int) := by omega
   obtain ⟨bN, offN, hA, _, _, _⟩ := hNh.out.nodes.place (by intro e; simp only at e; rw [e] at hlt; simp at hlt)
   simp only at hA
   subst hA
   have hc := Sl.Ok.cells hNh.out.nodes rfl wr BW' kk hlt
   simp only at hc
   have hst := HD (fun j (hj : j < fs.length) => hstep.out kk j hlt hj)
   have hg0 := HD (hG0.out kk hlt)
   generalize xs[kk] = y at hc hst
   have e0 : wr.cell? ⟨bN, offN + kk * 9, none⟩ = some (.string y.name) := hc 0 _ rfl; have e1 : wr.cell? ⟨bN, offN + kk * 9 + 1, none⟩ = some (.int .i64 y.kind) := hc 1 _ rfl; have e2 : wr.cell? ⟨bN, offN + kk * 9 + 2, none⟩ = some (.int .i64 y.px) := hc 2 _ rfl; have e3 : wr.cell? ⟨bN, offN + kk * 9 + 3, none⟩ = some (.int .i64 y.py) := hc 3 _ rfl; have e4 : wr.cell? ⟨bN, offN + kk * 9 + 4, none⟩ = some (.int .i64 y.inv) := hc 4 _ rfl; have e5 : wr.cell? ⟨bN, offN + kk * 9 + 5, none⟩ = some (.int .i64 y.gnd) := hc 5 _ rfl; have e6 : wr.cell? ⟨bN, offN + kk * 9 + 6, none⟩ = some (y.shape.val) := hc 6 _ rfl; have e7 : wr.cell? ⟨bN, offN + kk * 9 + 7, none⟩ = some (.bool y.prot) := hc 7 _ rfl; have e8 : wr.cell? ⟨bN, offN + kk * 9 + 8, none⟩ = some (.int .i64 y.res) := hc 8 _ rfl
   have hBa : Bl wr (wr.alloc (Obj.cells #[.string y.name, .int .i64 y.kind, .int .i64 y.px, .int .i64 y.py, .int .i64 y.inv, .int .i64 y.gnd, y.shape.val, .bool y.prot, .int .i64 y.res] 41)) := bz
   have k0 : (wr.alloc (Obj.cells #[.string y.name, .int .i64 y.kind, .int .i64 y.px, .int .i64 y.py, .int .i64 y.inv, .int .i64 y.gnd, y.shape.val, .bool y.prot, .int .i64 y.res] 41)).cell? ⟨wr.heap.size, 0, none⟩ = some (.string y.name) := by simp [go_sem]
   have hBw : Bl w (wr.alloc (Obj.cells #[.string y.name, .int .i64 y.kind, .int .i64 y.px, .int .i64 y.py, .int .i64 y.inv, .int .i64 y.gnd, y.shape.val, .bool y.prot, .int .i64 y.res] 41)) := BW'.trans hBa
   have zk : wr.heap.size < (wr.alloc (Obj.cells #[.string y.name, .int .i64 y.kind, .int .i64 y.px, .int .i64 y.py, .int .i64 y.inv, .int .i64 y.gnd, y.shape.val, .bool y.prot, .int .i64 y.res] 41)).heap.size := by simp
   have hO2 := HD (OW.out.bl hBa)
   clear hc
   go_wp2_with fail
   clear e0 e1 e2 e3 e4 e5 e6 e7 e8 OW BW hBa
   generalize (wr.alloc (Obj.cells #[.string y.name, .int .i64 y.kind, .int .i64 y.px, .int .i64 y.py, .int .i64 y.inv, .int .i64 y.gnd, y.shape.val, .bool y.prot, .int .i64 y.res] 41)) = W0 at *
   have hob : w.heap.size + 1 < wr.heap.size := by assumption
   generalize wr.heap.size = ob at *
   go_loopg [26] fs.length (fun gg s26 wr => ∃ (jj : Nat), jj ≤ fs.length /\ fs.length - jj ≤ gg /\ s26 = .int .i64 jj /\ Aside (Bl w wr) /\ Aside (ob < wr.heap.size) /\ Aside (wr.cell? ⟨ob, 0, none⟩ = some (.string y.name)) /\ Aside (Own1 IV 3 w.heap.size wr ⟨some ⟨w.heap.size + 1, 0, none⟩, xs.length, (preL F xs.length kk).set kk (G kk jj)⟩))
   case atStart => exact ⟨0, Nat.zero_le _, by omega, rfl, hBw, aside zk, aside k0, aside (by rw [hg0.out, preL_set0]; exact hO2.out)⟩
   case round =>
    clear k0 hBw zk hO2
    obtain ⟨jj, hjj, hgi, rfl, BI, ZI, KI_, OI⟩ := hrel
    have BI' := BI.out
    have ZI' := ZI.out
    have KI' := KI_.out
    by_cases hjl : jj < fs.length
    ·have hjz : (jj : Int) < (fs.length : Int) := by omega
     have hj0 : (0 : Int) ≤ (jj : Int) := by omega
     obtain ⟨bF, offF, hFA, _, _, _⟩ := hFh.out.place (by intro e; simp only at e; rw [e] at hjl; simp at hjl)
     simp only at hFA
     subst hFA
     have hcf := Sl.Ok.cells hFh.out rfl wr BI' jj hjl
     simp only at hcf
     have hgood := HD (fun W (h : Bl w W) => (InInfls.up hFh.out h).each fs[jj] (List.getElem_mem _))
     have hs2 := HD (hst.out jj hjl)
     have hql : Hid (kk < ((preL F xs.length kk).set kk (G kk jj)).length) := (by rw [List.length_set, preL_len]; exact hlt : kk < ((preL F xs.length kk).set kk (G kk jj)).length)
     have hqv : Hid (((preL F xs.length kk).set kk (G kk jj))[kk]'hql.out = G kk jj) := (by rw [List.getElem_set_self] : ((preL F xs.length kk).set kk (G kk jj))[kk]'hql.out = G kk jj)
     have hqs : Hid (∀ v, ((preL F xs.length kk).set kk (G kk jj)).set kk v = (preL F xs.length kk).set kk v) := fun v => by rw [List.set_set]
     have hqe0 : (preL F xs.length kk).set kk (G kk jj) = (preL F xs.length kk).set kk (G kk jj) := rfl
     generalize hqq : (preL F xs.length kk).set kk (G kk jj) = q at OI hql hqv hqs
     have hqe := HD hqq.symm
     clear hqq hqe0
     generalize G kk jj = gv at hs2 hqv hqe
     generalize fs[jj] = f at hcf hgood hs2
     obtain ⟨yn, ⟨YA, yc, ys⟩⟩ := f
     try simp only at hs2
     have f0 : wr.cell? ⟨bF, offF + jj * 2, none⟩ = some (.string yn) := hcf 0 _ rfl
     have f1 : wr.cell? ⟨bF, offF + jj * 2 + 1, none⟩ = some (.slice YA ys.length yc) := hcf 1 _ rfl
     have hBa : Bl wr (wr.alloc (Obj.cells #[.string yn, .slice YA ys.length yc] 54)) := bz
     have hBw : Bl w (wr.alloc (Obj.cells #[.string yn, .slice YA ys.length yc] 54)) := BI'.trans hBa
     have zz : ob < (wr.alloc (Obj.cells #[.string yn, .slice YA ys.length yc] 54)).heap.size := by simp; omega
     have kk0 := hBa.keep KI'
     have O5 := HD (OI.out.bl hBa)
     clear hcf OI BI ZI KI_
     by_cases hn : yn = y.name
     ·have bt : (yn.toList == y.name.toList) = true := by rw [hn]; simp
      by_cases hkl : k < ys.length
      ·have hklz : (k : Int) < (ys.length : Int) := by omega
       have hk0 : (0 : Int) ≤ (k : Int) := by omega
       obtain ⟨g0, g1, g2, g3⟩ := hs2.out.1 hn hkl
       obtain ⟨bY, offY, hAY, _, _, _⟩ := (hgood.out w (Bl.refl w)).place (by intro e; simp only at e; rw [e] at hkl; simp at hkl)
       simp only at hAY
       subst hAY
       have HY := HD (fun W (hb : Bl w W) => (show W.cell? ⟨bY, offY + k, none⟩ = some (.int .i64 (ys[k]!)) from by
        have := Sl.Ok.cells (hgood.out w (Bl.refl w)) rfl W hb k hkl 0 _ rfl
        simp only at this
        rw [<- getElem!_pos ys k hkl, Nat.mul_one] at this
        exact this))
       generalize ys[k]! = v at HY g1 g2 g3
       have hGv := HD g1
       subst g0
       have hwv : IntKind.i64.wrap v = v := IntWalk.i64_in _ (by omega)
       have hkx : (kk : Int) < (xs.length : Int) := by omega
       clear hn hs2 g1 g2 g3
       have z5 : w.heap.size + 1 < (wr.alloc (Obj.cells #[.string yn, .slice (some ⟨bY, offY, none⟩) ys.length yc] 54)).heap.size := by simp; omega
       have e5 : (wr.alloc (Obj.cells #[.string yn, .slice (some ⟨bY, offY, none⟩) ys.length yc] 54)).cell? ⟨w.heap.size + 1, kk, none⟩ = some (.int .i64 0) := by
        have := O5.out.cell kk hql.out
        rw [hqv.out] at this
        exact this
       have ey : (wr.alloc (Obj.cells #[.string yn, .slice (some ⟨bY, offY, none⟩) ys.length yc] 54)).cell? ⟨wr.heap.size, 1, none⟩ = some (.slice (some ⟨bY, offY, none⟩) ys.length yc) := by simp [go_sem]
       go_wp2_with fail
       clear f0 f1 KI'
       generalize (wr.alloc (Obj.cells #[.string yn, .slice (some ⟨bY, offY, none⟩) ys.length yc] 54)) = W5 at *
       have p0 : ∀ z : Later W5, z.at'.cell? ⟨w.heap.size + 1, kk, none⟩ = some (.int .i64 0) := fun z => z.keep e5
       have p1 : ∀ z : Later W5, z.at'.cell? ⟨wr.heap.size, 1, none⟩ = some (.slice (some ⟨bY, offY, none⟩) ys.length yc) := fun z => z.keep ey
       have p2 : ∀ z : Later W5, z.at'.cell? ⟨bY, offY + k, none⟩ = some (.int .i64 v) := fun z => HY.out z.at' (hBw.trans z.bl)
       refine wp_region_later_tail 11 (by kernel_rfl) (by kernel_rfl) ?_
       simp only [List.take_succ_cons, List.take_zero, List.drop_succ_cons, List.drop_zero]
       repeat (go_big_quiet_step (fail))
       refine wpQuiet_nil ?_
       intro w6 hB6
       clear p0 p1 p2
       have e6 := hB6.keep e5
       have fr6 := (O5.out.bl hB6).fro kk
       have k6 := hB6.keep kk0
       have O7 := HD (show Own1 IV 3 w.heap.size (w6.setCell ⟨w.heap.size + 1, kk, none⟩ (.int .i64 v)) ⟨some ⟨w.heap.size + 1, 0, none⟩, xs.length, (preL F xs.length kk).set kk v⟩ from by
        have := (O5.out.bl hB6).set kk v
        rw [hqs.out] at this
        exact this)
       have hB7 : Bl w (w6.setCell ⟨w.heap.size + 1, kk, none⟩ (.int .i64 v)) := Bl.setCell (hBw.trans hB6) (by simp only; omega) _
       have z7 : ob < (w6.setCell ⟨w.heap.size + 1, kk, none⟩ (.int .i64 v)).heap.size := by have := hB6.size; rw [cZ]; omega
       have k7 : (w6.setCell ⟨w.heap.size + 1, kk, none⟩ (.int .i64 v)).cell? ⟨ob, 0, none⟩ = some (.string y.name) := (setBlk' (by omega)).trans k6
       clear O5
       go_wp2_with fail
       go_roundg (fs.length - (jj + 1))
       case measure => omega
       case rel => exact ⟨jj + 1, by omega, by omega, by go_num, hB7, aside z7, aside k7, aside (by rw [hGv.out]; exact O7.out)⟩
      ·have hklz : ¬ (k : Int) < (ys.length : Int) := by omega
       have hG := HD (hs2.out.2 (fun h => hkl h.2))
       clear hn hs2 hkl
       go_wp2_with fail
       go_roundg (fs.length - (jj + 1))
       case measure => omega
       case rel => exact ⟨jj + 1, by omega, by omega, by go_num, hBw, aside zz, aside kk0, aside (by rw [hG.out, <- hqe.out]; exact O5.out)⟩
     ·have bt : (yn.toList == y.name.toList) = false := by rw [<- beq_toListBytes, beqBA]; simp [hn]
      have hG := HD (hs2.out.2 (fun h => hn h.1))
      clear hn hs2
      go_wp2_with fail
      go_roundg (fs.length - (jj + 1))
      case measure => omega
      case rel => exact ⟨jj + 1, by omega, by omega, by go_num, hBw, aside zz, aside kk0, aside (by rw [hG.out, <- hqe.out]; exact O5.out)⟩
    ·have hjz : ¬ (jj : Int) < (fs.length : Int) := by omega
     have hjl2 : jj = fs.length := by omega
     subst hjl2
     have O9 := HD (show Own1 IV 3 w.heap.size wr ⟨some ⟨w.heap.size + 1, 0, none⟩, xs.length, preL F xs.length (kk + 1)⟩ from by
      have := OI.out
      rw [hGe'.out, preL_set] at this
      exact this)
     have z9 : w.heap.size + 1 < wr.heap.size := by omega
     go_wp2_with fail
     go_roundg (xs.length - (kk + 1))
     case measure => omega
     case rel => exact ⟨kk + 1, by omega, by omega, by go_num, BI', aside z9, O9.out⟩
  ·have hltz : ¬ (kk : Int) < (xs.length : Int) := by omega
   have hkl : kk = xs.length := by omega
   subst hkl
   have hfin := HD (show R (.returned (.slice (some ⟨w.heap.size + 1, 0, none⟩) xs.length xs.length)) wr from by
    rw [hRh.out]
    have h1 := OW.out
    rw [hall.out] at h1
    refine ⟨⟨some ⟨w.heap.size + 1, 0, none⟩, xs.length, atL ⟨⟨A, c, xs⟩, ⟨A2, c2, ls⟩⟩ k fs⟩, by simp only [Sl.val]; rw [atL_len], rfl, ⟨Own1.ok h1 (by simp only; rw [atL_len]; simp only; omega) (fun _ _ => trivial), fun g hg => (h1.lt g hg).1⟩, BW'⟩)
   go_wp2_with fail
   exact hfin.out
theorem f28_c (n : Net) (l : Sl Infl) (k : Nat) (w : World) (hN : InNet w n) (hF : InInfls w l) (hb : netB n = true) (hio : InflOk n l.xs) (hbd : ∀ i, i < n.nodes.xs.length -> 0 ≤ (atL n k l.xs)[i]! /\ (atL n k l.xs)[i]! ≤ 1125899906842624) : Calls Tryz.prog 28 #[n.val, l.val, .int .i64 k] w (RAt n k l.xs w) := by
 have hn := ((netB_iff n).mp hb).1
 obtain ⟨⟨A, c, xs⟩, ⟨A2, c2, ls⟩⟩ := n
 obtain ⟨FA, fc, fs⟩ := l
 exact f28_core A A2 FA c c2 fc xs ls fs k w hN hF hb hn hio hbd
end Go.Proofs.YtnnhnkpoekbahaaGreat
