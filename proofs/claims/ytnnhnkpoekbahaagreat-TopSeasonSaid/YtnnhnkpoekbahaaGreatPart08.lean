/- TopSeason: part 9 of 16: Stp -/
import Derived.Test.YtnnhnkpoekbahaaGreatPart07
namespace Go.Proofs.YtnnhnkpoekbahaaGreat
open Go.RowKit
set_option maxHeartbeats 400000
set_option linter.unusedSimpArgs false
set_option linter.unusedVariables false
set_option maxRecDepth 100000
theorem cellDrew (w : World) (a : Addr) : w.drew.cell? a = w.cell? a := rfl
theorem But.fro {L : List Nat} {w w' : World} (h : But L w w') {b o : Nat} {v : Value} (hc : w.cell? ⟨b, o, none⟩ = some v) (hf : w.frozen? ⟨b, o, none⟩ = false) (hn : b ∉ L) : w'.frozen? ⟨b, o, none⟩ = false :=
 (World.frozen?_of_block (w := w) (h.block b (by have := cell_lt hc; simpa using this) hn)).trans hf
theorem isSome_of {α : Type} {o : Option α} {v : α} (h : o = some v) : o.isSome = true := by rw [h]; rfl
theorem res_drew {Y : World} {b2 b3 : Nat} {v0 v1 v2 v3 g0 g1 g2 : Value} (h : Y.cell? ⟨b2, 0, none⟩ = some v0 /\ Y.cell? ⟨b2, 1, none⟩ = some v1 /\ Y.cell? ⟨b2, 2, none⟩ = some v2 /\ Y.cell? ⟨b2, 3, none⟩ = some v3 /\ Y.cell? ⟨b3, 0, none⟩ = some g0 /\ Y.cell? ⟨b3, 1, none⟩ = some g1 /\ Y.cell? ⟨b3, 2, none⟩ = some g2) :
 Y.drew.cell? ⟨b2, 0, none⟩ = some v0 /\ Y.drew.cell? ⟨b2, 1, none⟩ = some v1 /\ Y.drew.cell? ⟨b2, 2, none⟩ = some v2 /\ Y.drew.cell? ⟨b2, 3, none⟩ = some v3 /\ Y.drew.cell? ⟨b3, 0, none⟩ = some g0 /\ Y.drew.cell? ⟨b3, 1, none⟩ = some g1 /\ Y.drew.cell? ⟨b3, 2, none⟩ = some g2 := h
set_option maxHeartbeats 8000000 in
theorem f82_core (A A2 IA : Option Addr) (c c2 ic : Nat) (xs : List Nd) (ls : List Lk) (is : List Int) (l : Sl Sec) (sv sp ss : Sl Int) (so : Sl Bool) (sec : Int) (w : World)
 (hN : InNet w ⟨⟨A, c, xs⟩, ⟨A2, c2, ls⟩⟩) (hl : InSecs w l) (ht : InSt w ⟨sv, sp, ss, so⟩) (hI : InI w ⟨IA, ic, is⟩) :
 Calls Tryz.prog 82 #[.agg #[.slice A xs.length c, .slice A2 ls.length c2], l.val, .agg #[sv.val, sp.val, ss.val, so.val], .slice IA is.length ic, .int .i64 sec] w (RStep ⟨⟨A, c, xs⟩, ⟨A2, c2, ls⟩⟩ ⟨sv, sp, ss, so⟩ is w) := by
 have T112 := HD (fun W (hb : Bl w W) => f112_c ⟨⟨A, c, xs⟩, ⟨A2, c2, ls⟩⟩ l ⟨sv, sp, ss, so⟩ W (InNet.up hN hb) (InSecs.up hl hb) (InSt.up ht hb))
 have T107 := HD (fun W (hb : Bl w W) => f107_c ⟨IA, ic, is⟩ W.heap.size 113 #[] (fun v => !(decide (0 ≤ v) && decide (v ≤ 1125899906842624))) W (InI.up hI hb) (fun W' y _ hb' => f113_c y W') e113)
 have T115 := HD (fun W (hb : Bl w W) => f115_c ⟨⟨A, c, xs⟩, ⟨A2, c2, ls⟩⟩ l W (InNet.up hN hb) (InSecs.up hl hb))
 have hNh := HD hN
 have hlh := HD hl
 have hth := HD ht
 have hIh := HD hI
 have E111 := HD e111
 clear hN hl ht hI
 go_enter Tryz.func82, Tryz.ntmps82
 go_wp2_with fail
 refine (T112.out _ bz).mono ?_
 rintro e w1 ⟨b0, rfl, hb0, hw1⟩
 have hb0h := HD hb0
 clear hb0 T112
 have an0 : w1.cell? ⟨w.heap.size, 0, none⟩ = some (.slice A xs.length c) := hw1.keep (by simp [go_sem])
 have an1 : w1.cell? ⟨w.heap.size, 1, none⟩ = some (.slice A2 ls.length c2) := hw1.keep (by simp [go_sem])
 have as0 : w1.cell? ⟨w.heap.size + 1, 0, none⟩ = some (sv.val) := hw1.keep (by simp [go_sem])
 have as1 : w1.cell? ⟨w.heap.size + 1, 1, none⟩ = some (sp.val) := hw1.keep (by simp [go_sem])
 have as2 : w1.cell? ⟨w.heap.size + 1, 2, none⟩ = some (ss.val) := hw1.keep (by simp [go_sem])
 have as3 : w1.cell? ⟨w.heap.size + 1, 3, none⟩ = some (so.val) := hw1.keep (by simp [go_sem])
 have au0 : w1.cell? ⟨w.heap.size + 2, 0, none⟩ = some (.slice none 0 0) := hw1.keep (by simp [go_sem])
 have au1 : w1.cell? ⟨w.heap.size + 2, 1, none⟩ = some (.slice none 0 0) := hw1.keep (by simp [go_sem])
 have au2 : w1.cell? ⟨w.heap.size + 2, 2, none⟩ = some (.slice none 0 0) := hw1.keep (by simp [go_sem])
 have au3 : w1.cell? ⟨w.heap.size + 2, 3, none⟩ = some (.slice none 0 0) := hw1.keep (by simp [go_sem])
 have av0 : w1.cell? ⟨w.heap.size + 3, 0, none⟩ = some (.int .i64 0) := hw1.keep (by simp [go_sem])
 have av1 : w1.cell? ⟨w.heap.size + 3, 1, none⟩ = some (.int .i64 0) := hw1.keep (by simp [go_sem])
 have av2 : w1.cell? ⟨w.heap.size + 3, 2, none⟩ = some (.slice none 0 0) := hw1.keep (by simp [go_sem])
 have fau0 : w1.frozen? ⟨w.heap.size + 2, 0, none⟩ = false := hw1.keepF (by simp [go_sem]; rfl) (by simp [go_sem])
 have fau1 : w1.frozen? ⟨w.heap.size + 2, 1, none⟩ = false := hw1.keepF (by simp [go_sem]; rfl) (by simp [go_sem])
 have fau2 : w1.frozen? ⟨w.heap.size + 2, 2, none⟩ = false := hw1.keepF (by simp [go_sem]; rfl) (by simp [go_sem])
 have fau3 : w1.frozen? ⟨w.heap.size + 2, 3, none⟩ = false := hw1.keepF (by simp [go_sem]; rfl) (by simp [go_sem])
 have fav0 : w1.frozen? ⟨w.heap.size + 3, 0, none⟩ = false := hw1.keepF (by simp [go_sem]; rfl) (by simp [go_sem])
 have fav1 : w1.frozen? ⟨w.heap.size + 3, 1, none⟩ = false := hw1.keepF (by simp [go_sem]; rfl) (by simp [go_sem])
 have fav2 : w1.frozen? ⟨w.heap.size + 3, 2, none⟩ = false := hw1.keepF (by simp [go_sem]; rfl) (by simp [go_sem])
 have hB1 : Bl w w1 := bz
 have z1 : w.heap.size + 3 < w1.heap.size := by have := hw1.size; simp at this; omega
 clear hw1
 cases b0
 case false =>
  go_wp2_with fail
  refine (f111_c 1 _).mono ?_
  rintro e wf ⟨rfl, hwf⟩
  have Fu0 : wf.cell? ⟨w.heap.size + 2, 0, none⟩ = some (.slice none 0 0) := hwf.keep au0
  have Fu1 : wf.cell? ⟨w.heap.size + 2, 1, none⟩ = some (.slice none 0 0) := hwf.keep au1
  have Fu2 : wf.cell? ⟨w.heap.size + 2, 2, none⟩ = some (.slice none 0 0) := hwf.keep au2
  have Fu3 : wf.cell? ⟨w.heap.size + 2, 3, none⟩ = some (.slice none 0 0) := hwf.keep au3
  have Fv0 : wf.cell? ⟨w.heap.size + 3, 0, none⟩ = some (.int .i64 0) := hwf.keep av0
  have Fv1 : wf.cell? ⟨w.heap.size + 3, 1, none⟩ = some (.int .i64 0) := hwf.keep av1
  have Fv2 : wf.cell? ⟨w.heap.size + 3, 2, none⟩ = some (.slice none 0 0) := hwf.keep av2
  have fFu0 : wf.frozen? ⟨w.heap.size + 2, 0, none⟩ = false := hwf.keepF au0 fau0
  have fFu1 : wf.frozen? ⟨w.heap.size + 2, 1, none⟩ = false := hwf.keepF au1 fau1
  have fFu2 : wf.frozen? ⟨w.heap.size + 2, 2, none⟩ = false := hwf.keepF au2 fau2
  have fFu3 : wf.frozen? ⟨w.heap.size + 2, 3, none⟩ = false := hwf.keepF au3 fau3
  have fFv0 : wf.frozen? ⟨w.heap.size + 3, 0, none⟩ = false := hwf.keepF av0 fav0
  have fFv1 : wf.frozen? ⟨w.heap.size + 3, 1, none⟩ = false := hwf.keepF av1 fav1
  have fFv2 : wf.frozen? ⟨w.heap.size + 3, 2, none⟩ = false := hwf.keepF av2 fav2
  have hBf : Bl w wf := Bl.trans hB1 hwf
  clear hwf
  clear an0 an1 as0 as1 as2 as3 au0 au1 au2 au3 av0 av1 av2 fau0 fau1 fau2 fau3 fav0 fav1 fav2
  go_wp2_with fail
  have hrs := res_set wf _ (w.heap.size + 2) (w.heap.size + 3) (.slice none 0 0) (.slice none 0 0) (.slice none 0 0) (.slice none 0 0) (.int .i64 0) (.int .i64 0) (.slice none 0 0) rfl (by omega) (by rw [Fu0]; rfl) (by rw [Fu1]; rfl) (by rw [Fu2]; rfl) (by rw [Fu3]; rfl) (by rw [Fv0]; rfl) (by rw [Fv1]; rfl) (by rw [Fv2]; rfl)
  exact ret82 _ _ (w.heap.size + 2) (w.heap.size + 3) _ _ _ _ _ _ _ _ _ rfl rfl rfl hrs (RStep.no (by omega) (Bl.setCell (Bl.setCell (Bl.setCell (Bl.setCell (Bl.setCell (Bl.setCell (Bl.setCell hBf (by simp only; omega) _) (by simp only; omega) _) (by simp only; omega) _) (by simp only; omega) _) (by simp only; omega) _) (by simp only; omega) _) (by simp only; omega) _))
 have hokh := HD ((stateB_iff _ _).mp (hb0h.out rfl))
 have hxl := HD (show xs.length ≤ 300 from ((netB_iff _).mp hokh.out.1).1)
 have hll := HD (show ls.length ≤ 400 from ((netB_iff _).mp hokh.out.1).2.1)
 clear hb0h
 by_cases hq1 : is.length = xs.length
 case neg =>
  have hq1b : ((is.length : Int) != (xs.length : Int)) = true := by simp; omega
  go_wp2_with fail
  refine (f111_c 3 _).mono ?_
  rintro e wf ⟨rfl, hwf⟩
  have Fu0 : wf.cell? ⟨w.heap.size + 2, 0, none⟩ = some (.slice none 0 0) := hwf.keep au0
  have Fu1 : wf.cell? ⟨w.heap.size + 2, 1, none⟩ = some (.slice none 0 0) := hwf.keep au1
  have Fu2 : wf.cell? ⟨w.heap.size + 2, 2, none⟩ = some (.slice none 0 0) := hwf.keep au2
  have Fu3 : wf.cell? ⟨w.heap.size + 2, 3, none⟩ = some (.slice none 0 0) := hwf.keep au3
  have Fv0 : wf.cell? ⟨w.heap.size + 3, 0, none⟩ = some (.int .i64 0) := hwf.keep av0
  have Fv1 : wf.cell? ⟨w.heap.size + 3, 1, none⟩ = some (.int .i64 0) := hwf.keep av1
  have Fv2 : wf.cell? ⟨w.heap.size + 3, 2, none⟩ = some (.slice none 0 0) := hwf.keep av2
  have fFu0 : wf.frozen? ⟨w.heap.size + 2, 0, none⟩ = false := hwf.keepF au0 fau0
  have fFu1 : wf.frozen? ⟨w.heap.size + 2, 1, none⟩ = false := hwf.keepF au1 fau1
  have fFu2 : wf.frozen? ⟨w.heap.size + 2, 2, none⟩ = false := hwf.keepF au2 fau2
  have fFu3 : wf.frozen? ⟨w.heap.size + 2, 3, none⟩ = false := hwf.keepF au3 fau3
  have fFv0 : wf.frozen? ⟨w.heap.size + 3, 0, none⟩ = false := hwf.keepF av0 fav0
  have fFv1 : wf.frozen? ⟨w.heap.size + 3, 1, none⟩ = false := hwf.keepF av1 fav1
  have fFv2 : wf.frozen? ⟨w.heap.size + 3, 2, none⟩ = false := hwf.keepF av2 fav2
  have hBf : Bl w wf := Bl.trans hB1 hwf
  clear hwf
  clear an0 an1 as0 as1 as2 as3 au0 au1 au2 au3 av0 av1 av2 fau0 fau1 fau2 fau3 fav0 fav1 fav2
  go_wp2_with fail
  have hrs := res_set wf _ (w.heap.size + 2) (w.heap.size + 3) (.slice none 0 0) (.slice none 0 0) (.slice none 0 0) (.slice none 0 0) (.int .i64 0) (.int .i64 0) (.slice none 0 0) rfl (by omega) (by rw [Fu0]; rfl) (by rw [Fu1]; rfl) (by rw [Fu2]; rfl) (by rw [Fu3]; rfl) (by rw [Fv0]; rfl) (by rw [Fv1]; rfl) (by rw [Fv2]; rfl)
  exact ret82 _ _ (w.heap.size + 2) (w.heap.size + 3) _ _ _ _ _ _ _ _ _ rfl rfl rfl hrs (RStep.no (by omega) (Bl.setCell (Bl.setCell (Bl.setCell (Bl.setCell (Bl.setCell (Bl.setCell (Bl.setCell hBf (by simp only; omega) _) (by simp only; omega) _) (by simp only; omega) _) (by simp only; omega) _) (by simp only; omega) _) (by simp only; omega) _) (by simp only; omega) _))
 have hq1b : ((is.length : Int) != (xs.length : Int)) = false := by simp; omega
 have hq1h := HD hq1
 clear hq1
 go_wp2_with fail
 refine (T107.out _ hB1).mono ?_
 rintro e w2 ⟨rfl, hw2⟩
 clear T107 hq1b
 have bn0 : w2.cell? ⟨w.heap.size, 0, none⟩ = some (.slice A xs.length c) := hw2.keep an0
 have bn1 : w2.cell? ⟨w.heap.size, 1, none⟩ = some (.slice A2 ls.length c2) := hw2.keep an1
 have bs0 : w2.cell? ⟨w.heap.size + 1, 0, none⟩ = some (sv.val) := hw2.keep as0
 have bs1 : w2.cell? ⟨w.heap.size + 1, 1, none⟩ = some (sp.val) := hw2.keep as1
 have bs2 : w2.cell? ⟨w.heap.size + 1, 2, none⟩ = some (ss.val) := hw2.keep as2
 have bs3 : w2.cell? ⟨w.heap.size + 1, 3, none⟩ = some (so.val) := hw2.keep as3
 have bu0 : w2.cell? ⟨w.heap.size + 2, 0, none⟩ = some (.slice none 0 0) := hw2.keep au0
 have bu1 : w2.cell? ⟨w.heap.size + 2, 1, none⟩ = some (.slice none 0 0) := hw2.keep au1
 have bu2 : w2.cell? ⟨w.heap.size + 2, 2, none⟩ = some (.slice none 0 0) := hw2.keep au2
 have bu3 : w2.cell? ⟨w.heap.size + 2, 3, none⟩ = some (.slice none 0 0) := hw2.keep au3
 have bv0 : w2.cell? ⟨w.heap.size + 3, 0, none⟩ = some (.int .i64 0) := hw2.keep av0
 have bv1 : w2.cell? ⟨w.heap.size + 3, 1, none⟩ = some (.int .i64 0) := hw2.keep av1
 have bv2 : w2.cell? ⟨w.heap.size + 3, 2, none⟩ = some (.slice none 0 0) := hw2.keep av2
 have fbu0 : w2.frozen? ⟨w.heap.size + 2, 0, none⟩ = false := hw2.keepF au0 fau0
 have fbu1 : w2.frozen? ⟨w.heap.size + 2, 1, none⟩ = false := hw2.keepF au1 fau1
 have fbu2 : w2.frozen? ⟨w.heap.size + 2, 2, none⟩ = false := hw2.keepF au2 fau2
 have fbu3 : w2.frozen? ⟨w.heap.size + 2, 3, none⟩ = false := hw2.keepF au3 fau3
 have fbv0 : w2.frozen? ⟨w.heap.size + 3, 0, none⟩ = false := hw2.keepF av0 fav0
 have fbv1 : w2.frozen? ⟨w.heap.size + 3, 1, none⟩ = false := hw2.keepF av1 fav1
 have fbv2 : w2.frozen? ⟨w.heap.size + 3, 2, none⟩ = false := hw2.keepF av2 fav2
 have hB2 : Bl w w2 := hB1.trans hw2
 have z2 : w.heap.size + 3 < w2.heap.size := by have := hw2.size; omega
 clear hw2 hB1 z1
 clear an0 an1 as0 as1 as2 as3 au0 au1 au2 au3 av0 av1 av2 fau0 fau1 fau2 fau3 fav0 fav1 fav2
 cases hany : is.any (fun v => !(decide (0 ≤ v) && decide (v ≤ 1125899906842624)))
 case true =>
  go_wp2_with fail
  refine (f111_c 2 _).mono ?_
  rintro e wf ⟨rfl, hwf⟩
  have Fu0 : wf.cell? ⟨w.heap.size + 2, 0, none⟩ = some (.slice none 0 0) := hwf.keep bu0
  have Fu1 : wf.cell? ⟨w.heap.size + 2, 1, none⟩ = some (.slice none 0 0) := hwf.keep bu1
  have Fu2 : wf.cell? ⟨w.heap.size + 2, 2, none⟩ = some (.slice none 0 0) := hwf.keep bu2
  have Fu3 : wf.cell? ⟨w.heap.size + 2, 3, none⟩ = some (.slice none 0 0) := hwf.keep bu3
  have Fv0 : wf.cell? ⟨w.heap.size + 3, 0, none⟩ = some (.int .i64 0) := hwf.keep bv0
  have Fv1 : wf.cell? ⟨w.heap.size + 3, 1, none⟩ = some (.int .i64 0) := hwf.keep bv1
  have Fv2 : wf.cell? ⟨w.heap.size + 3, 2, none⟩ = some (.slice none 0 0) := hwf.keep bv2
  have fFu0 : wf.frozen? ⟨w.heap.size + 2, 0, none⟩ = false := hwf.keepF bu0 fbu0
  have fFu1 : wf.frozen? ⟨w.heap.size + 2, 1, none⟩ = false := hwf.keepF bu1 fbu1
  have fFu2 : wf.frozen? ⟨w.heap.size + 2, 2, none⟩ = false := hwf.keepF bu2 fbu2
  have fFu3 : wf.frozen? ⟨w.heap.size + 2, 3, none⟩ = false := hwf.keepF bu3 fbu3
  have fFv0 : wf.frozen? ⟨w.heap.size + 3, 0, none⟩ = false := hwf.keepF bv0 fbv0
  have fFv1 : wf.frozen? ⟨w.heap.size + 3, 1, none⟩ = false := hwf.keepF bv1 fbv1
  have fFv2 : wf.frozen? ⟨w.heap.size + 3, 2, none⟩ = false := hwf.keepF bv2 fbv2
  have hBf : Bl w wf := Bl.trans hB2 hwf
  clear hwf
  clear bn0 bn1 bs0 bs1 bs2 bs3 bu0 bu1 bu2 bu3 bv0 bv1 bv2 fbu0 fbu1 fbu2 fbu3 fbv0 fbv1 fbv2
  go_wp2_with fail
  have hrs := res_set wf _ (w.heap.size + 2) (w.heap.size + 3) (.slice none 0 0) (.slice none 0 0) (.slice none 0 0) (.slice none 0 0) (.int .i64 0) (.int .i64 0) (.slice none 0 0) rfl (by omega) (by rw [Fu0]; rfl) (by rw [Fu1]; rfl) (by rw [Fu2]; rfl) (by rw [Fu3]; rfl) (by rw [Fv0]; rfl) (by rw [Fv1]; rfl) (by rw [Fv2]; rfl)
  exact ret82 _ _ (w.heap.size + 2) (w.heap.size + 3) _ _ _ _ _ _ _ _ _ rfl rfl rfl hrs (RStep.no (by omega) (Bl.setCell (Bl.setCell (Bl.setCell (Bl.setCell (Bl.setCell (Bl.setCell (Bl.setCell hBf (by simp only; omega) _) (by simp only; omega) _) (by simp only; omega) _) (by simp only; omega) _) (by simp only; omega) _) (by simp only; omega) _) (by simp only; omega) _))
 have hib : Hid (∀ i, i < is.length -> 0 ≤ is[i]! /\ is[i]! ≤ 1125899906842624) := fun i hi => by
  have h := (List.any_eq_false.mp hany) is[i] (List.getElem_mem hi)
  rw [getElem!_pos is i hi]
  simpa using h
 clear hany
 by_cases hs1 : sec < 1
 ·go_wp2_with fail
  refine (f111_c 2 _).mono ?_
  rintro e wf ⟨rfl, hwf⟩
  have Fu0 : wf.cell? ⟨w.heap.size + 2, 0, none⟩ = some (.slice none 0 0) := hwf.keep bu0
  have Fu1 : wf.cell? ⟨w.heap.size + 2, 1, none⟩ = some (.slice none 0 0) := hwf.keep bu1
  have Fu2 : wf.cell? ⟨w.heap.size + 2, 2, none⟩ = some (.slice none 0 0) := hwf.keep bu2
  have Fu3 : wf.cell? ⟨w.heap.size + 2, 3, none⟩ = some (.slice none 0 0) := hwf.keep bu3
  have Fv0 : wf.cell? ⟨w.heap.size + 3, 0, none⟩ = some (.int .i64 0) := hwf.keep bv0
  have Fv1 : wf.cell? ⟨w.heap.size + 3, 1, none⟩ = some (.int .i64 0) := hwf.keep bv1
  have Fv2 : wf.cell? ⟨w.heap.size + 3, 2, none⟩ = some (.slice none 0 0) := hwf.keep bv2
  have fFu0 : wf.frozen? ⟨w.heap.size + 2, 0, none⟩ = false := hwf.keepF bu0 fbu0
  have fFu1 : wf.frozen? ⟨w.heap.size + 2, 1, none⟩ = false := hwf.keepF bu1 fbu1
  have fFu2 : wf.frozen? ⟨w.heap.size + 2, 2, none⟩ = false := hwf.keepF bu2 fbu2
  have fFu3 : wf.frozen? ⟨w.heap.size + 2, 3, none⟩ = false := hwf.keepF bu3 fbu3
  have fFv0 : wf.frozen? ⟨w.heap.size + 3, 0, none⟩ = false := hwf.keepF bv0 fbv0
  have fFv1 : wf.frozen? ⟨w.heap.size + 3, 1, none⟩ = false := hwf.keepF bv1 fbv1
  have fFv2 : wf.frozen? ⟨w.heap.size + 3, 2, none⟩ = false := hwf.keepF bv2 fbv2
  have hBf : Bl w wf := Bl.trans hB2 hwf
  clear hwf
  clear bn0 bn1 bs0 bs1 bs2 bs3 bu0 bu1 bu2 bu3 bv0 bv1 bv2 fbu0 fbu1 fbu2 fbu3 fbv0 fbv1 fbv2
  go_wp2_with fail
  have hrs := res_set wf _ (w.heap.size + 2) (w.heap.size + 3) (.slice none 0 0) (.slice none 0 0) (.slice none 0 0) (.slice none 0 0) (.int .i64 0) (.int .i64 0) (.slice none 0 0) rfl (by omega) (by rw [Fu0]; rfl) (by rw [Fu1]; rfl) (by rw [Fu2]; rfl) (by rw [Fu3]; rfl) (by rw [Fv0]; rfl) (by rw [Fv1]; rfl) (by rw [Fv2]; rfl)
  exact ret82 _ _ (w.heap.size + 2) (w.heap.size + 3) _ _ _ _ _ _ _ _ _ rfl rfl rfl hrs (RStep.no (by omega) (Bl.setCell (Bl.setCell (Bl.setCell (Bl.setCell (Bl.setCell (Bl.setCell (Bl.setCell hBf (by simp only; omega) _) (by simp only; omega) _) (by simp only; omega) _) (by simp only; omega) _) (by simp only; omega) _) (by simp only; omega) _) (by simp only; omega) _))
 by_cases hs2 : 86400 < sec
 ·go_wp2_with fail
  refine (f111_c 2 _).mono ?_
  rintro e wf ⟨rfl, hwf⟩
  have Fu0 : wf.cell? ⟨w.heap.size + 2, 0, none⟩ = some (.slice none 0 0) := hwf.keep bu0
  have Fu1 : wf.cell? ⟨w.heap.size + 2, 1, none⟩ = some (.slice none 0 0) := hwf.keep bu1
  have Fu2 : wf.cell? ⟨w.heap.size + 2, 2, none⟩ = some (.slice none 0 0) := hwf.keep bu2
  have Fu3 : wf.cell? ⟨w.heap.size + 2, 3, none⟩ = some (.slice none 0 0) := hwf.keep bu3
  have Fv0 : wf.cell? ⟨w.heap.size + 3, 0, none⟩ = some (.int .i64 0) := hwf.keep bv0
  have Fv1 : wf.cell? ⟨w.heap.size + 3, 1, none⟩ = some (.int .i64 0) := hwf.keep bv1
  have Fv2 : wf.cell? ⟨w.heap.size + 3, 2, none⟩ = some (.slice none 0 0) := hwf.keep bv2
  have fFu0 : wf.frozen? ⟨w.heap.size + 2, 0, none⟩ = false := hwf.keepF bu0 fbu0
  have fFu1 : wf.frozen? ⟨w.heap.size + 2, 1, none⟩ = false := hwf.keepF bu1 fbu1
  have fFu2 : wf.frozen? ⟨w.heap.size + 2, 2, none⟩ = false := hwf.keepF bu2 fbu2
  have fFu3 : wf.frozen? ⟨w.heap.size + 2, 3, none⟩ = false := hwf.keepF bu3 fbu3
  have fFv0 : wf.frozen? ⟨w.heap.size + 3, 0, none⟩ = false := hwf.keepF bv0 fbv0
  have fFv1 : wf.frozen? ⟨w.heap.size + 3, 1, none⟩ = false := hwf.keepF bv1 fbv1
  have fFv2 : wf.frozen? ⟨w.heap.size + 3, 2, none⟩ = false := hwf.keepF bv2 fbv2
  have hBf : Bl w wf := Bl.trans hB2 hwf
  clear hwf
  clear bn0 bn1 bs0 bs1 bs2 bs3 bu0 bu1 bu2 bu3 bv0 bv1 bv2 fbu0 fbu1 fbu2 fbu3 fbv0 fbv1 fbv2
  go_wp2_with fail
  have hrs := res_set wf _ (w.heap.size + 2) (w.heap.size + 3) (.slice none 0 0) (.slice none 0 0) (.slice none 0 0) (.slice none 0 0) (.int .i64 0) (.int .i64 0) (.slice none 0 0) rfl (by omega) (by rw [Fu0]; rfl) (by rw [Fu1]; rfl) (by rw [Fu2]; rfl) (by rw [Fu3]; rfl) (by rw [Fv0]; rfl) (by rw [Fv1]; rfl) (by rw [Fv2]; rfl)
  exact ret82 _ _ (w.heap.size + 2) (w.heap.size + 3) _ _ _ _ _ _ _ _ _ rfl rfl rfl hrs (RStep.no (by omega) (Bl.setCell (Bl.setCell (Bl.setCell (Bl.setCell (Bl.setCell (Bl.setCell (Bl.setCell hBf (by simp only; omega) _) (by simp only; omega) _) (by simp only; omega) _) (by simp only; omega) _) (by simp only; omega) _) (by simp only; omega) _) (by simp only; omega) _))
 go_wp2_with fail
 refine (T115.out _ hB2).mono ?_
 rintro e w3 ⟨bq, rfl, hw3⟩
 have cn0 : w3.cell? ⟨w.heap.size, 0, none⟩ = some (.slice A xs.length c) := hw3.keep bn0
 have cn1 : w3.cell? ⟨w.heap.size, 1, none⟩ = some (.slice A2 ls.length c2) := hw3.keep bn1
 have cs0 : w3.cell? ⟨w.heap.size + 1, 0, none⟩ = some (sv.val) := hw3.keep bs0
 have cs1 : w3.cell? ⟨w.heap.size + 1, 1, none⟩ = some (sp.val) := hw3.keep bs1
 have cs2 : w3.cell? ⟨w.heap.size + 1, 2, none⟩ = some (ss.val) := hw3.keep bs2
 have cs3 : w3.cell? ⟨w.heap.size + 1, 3, none⟩ = some (so.val) := hw3.keep bs3
 have cu0 : w3.cell? ⟨w.heap.size + 2, 0, none⟩ = some (.slice none 0 0) := hw3.keep bu0
 have cu1 : w3.cell? ⟨w.heap.size + 2, 1, none⟩ = some (.slice none 0 0) := hw3.keep bu1
 have cu2 : w3.cell? ⟨w.heap.size + 2, 2, none⟩ = some (.slice none 0 0) := hw3.keep bu2
 have cu3 : w3.cell? ⟨w.heap.size + 2, 3, none⟩ = some (.slice none 0 0) := hw3.keep bu3
 have cv0 : w3.cell? ⟨w.heap.size + 3, 0, none⟩ = some (.int .i64 0) := hw3.keep bv0
 have cv1 : w3.cell? ⟨w.heap.size + 3, 1, none⟩ = some (.int .i64 0) := hw3.keep bv1
 have cv2 : w3.cell? ⟨w.heap.size + 3, 2, none⟩ = some (.slice none 0 0) := hw3.keep bv2
 have fcu0 : w3.frozen? ⟨w.heap.size + 2, 0, none⟩ = false := hw3.keepF bu0 fbu0
 have fcu1 : w3.frozen? ⟨w.heap.size + 2, 1, none⟩ = false := hw3.keepF bu1 fbu1
 have fcu2 : w3.frozen? ⟨w.heap.size + 2, 2, none⟩ = false := hw3.keepF bu2 fbu2
 have fcu3 : w3.frozen? ⟨w.heap.size + 2, 3, none⟩ = false := hw3.keepF bu3 fbu3
 have fcv0 : w3.frozen? ⟨w.heap.size + 3, 0, none⟩ = false := hw3.keepF bv0 fbv0
 have fcv1 : w3.frozen? ⟨w.heap.size + 3, 1, none⟩ = false := hw3.keepF bv1 fbv1
 have fcv2 : w3.frozen? ⟨w.heap.size + 3, 2, none⟩ = false := hw3.keepF bv2 fbv2
 have hB3 : Bl w w3 := hB2.trans hw3
 have z3 : w.heap.size + 3 < w3.heap.size := by have := hw3.size; omega
 clear hw3 hB2 z2 T115
 clear bn0 bn1 bs0 bs1 bs2 bs3 bu0 bu1 bu2 bu3 bv0 bv1 bv2 fbu0 fbu1 fbu2 fbu3 fbv0 fbv1 fbv2
 cases bq
 case false =>
  go_wp2_with fail
  refine (f111_c 9 _).mono ?_
  rintro e wf ⟨rfl, hwf⟩
  have Fu0 : wf.cell? ⟨w.heap.size + 2, 0, none⟩ = some (.slice none 0 0) := hwf.keep cu0
  have Fu1 : wf.cell? ⟨w.heap.size + 2, 1, none⟩ = some (.slice none 0 0) := hwf.keep cu1
  have Fu2 : wf.cell? ⟨w.heap.size + 2, 2, none⟩ = some (.slice none 0 0) := hwf.keep cu2
  have Fu3 : wf.cell? ⟨w.heap.size + 2, 3, none⟩ = some (.slice none 0 0) := hwf.keep cu3
  have Fv0 : wf.cell? ⟨w.heap.size + 3, 0, none⟩ = some (.int .i64 0) := hwf.keep cv0
  have Fv1 : wf.cell? ⟨w.heap.size + 3, 1, none⟩ = some (.int .i64 0) := hwf.keep cv1
  have Fv2 : wf.cell? ⟨w.heap.size + 3, 2, none⟩ = some (.slice none 0 0) := hwf.keep cv2
  have fFu0 : wf.frozen? ⟨w.heap.size + 2, 0, none⟩ = false := hwf.keepF cu0 fcu0
  have fFu1 : wf.frozen? ⟨w.heap.size + 2, 1, none⟩ = false := hwf.keepF cu1 fcu1
  have fFu2 : wf.frozen? ⟨w.heap.size + 2, 2, none⟩ = false := hwf.keepF cu2 fcu2
  have fFu3 : wf.frozen? ⟨w.heap.size + 2, 3, none⟩ = false := hwf.keepF cu3 fcu3
  have fFv0 : wf.frozen? ⟨w.heap.size + 3, 0, none⟩ = false := hwf.keepF cv0 fcv0
  have fFv1 : wf.frozen? ⟨w.heap.size + 3, 1, none⟩ = false := hwf.keepF cv1 fcv1
  have fFv2 : wf.frozen? ⟨w.heap.size + 3, 2, none⟩ = false := hwf.keepF cv2 fcv2
  have hBf : Bl w wf := Bl.trans hB3 hwf
  clear hwf
  clear cn0 cn1 cs0 cs1 cs2 cs3 cu0 cu1 cu2 cu3 cv0 cv1 cv2 fcu0 fcu1 fcu2 fcu3 fcv0 fcv1 fcv2
  go_wp2_with fail
  have hrs := res_set wf _ (w.heap.size + 2) (w.heap.size + 3) (.slice none 0 0) (.slice none 0 0) (.slice none 0 0) (.slice none 0 0) (.int .i64 0) (.int .i64 0) (.slice none 0 0) rfl (by omega) (by rw [Fu0]; rfl) (by rw [Fu1]; rfl) (by rw [Fu2]; rfl) (by rw [Fu3]; rfl) (by rw [Fv0]; rfl) (by rw [Fv1]; rfl) (by rw [Fv2]; rfl)
  exact ret82 _ _ (w.heap.size + 2) (w.heap.size + 3) _ _ _ _ _ _ _ _ _ rfl rfl rfl hrs (RStep.no (by omega) (Bl.setCell (Bl.setCell (Bl.setCell (Bl.setCell (Bl.setCell (Bl.setCell (Bl.setCell hBf (by simp only; omega) _) (by simp only; omega) _) (by simp only; omega) _) (by simp only; omega) _) (by simp only; omega) _) (by simp only; omega) _) (by simp only; omega) _))
 have T116 := HD (fun W (hb : Bl w W) => f116_c ⟨sv, sp, ss, so⟩ W (InSt.up hth.out hb) (by have := hokh.out.2.1; have := hxl.out; simp only at *; omega) (by have := hokh.out.2.2.1; have := hxl.out; simp only at *; omega) (by have := hokh.out.2.2.2.1; have := hll.out; simp only at *; omega))
 have T117 := HD (fun W (hb : Bl w W) => f117_c ⟨sv, sp, ss, so⟩ W (InSt.up hth.out hb) (by have := hokh.out.2.1; have := hokh.out.2.2.1; simp only at *; omega) (by have := hokh.out.2.1; have := hxl.out; simp only at *; omega) (fun i hi => state_bounds hokh.out i hi))
 go_wp2_with fail
 refine (T116.out _ hB3).mono ?_
 rintro e w4 ⟨⟨⟨VA, vc, vx⟩, ⟨PA, pc, px⟩, ⟨SA, sc, sx⟩, ⟨OA, oc, ox⟩⟩, he, hvx, hpx, hsx, hox, hOs, hw4⟩
 obtain rfl : e = .returned (.agg #[.slice VA vx.length vc, .slice PA px.length pc, .slice SA sx.length sc, .slice OA ox.length oc]) := he
 simp only at hvx hpx hsx hox
 have dn0 : w4.cell? ⟨w.heap.size, 0, none⟩ = some (.slice A xs.length c) := hw4.keep cn0
 have dn1 : w4.cell? ⟨w.heap.size, 1, none⟩ = some (.slice A2 ls.length c2) := hw4.keep cn1
 have ds0 : w4.cell? ⟨w.heap.size + 1, 0, none⟩ = some (sv.val) := hw4.keep cs0
 have ds1 : w4.cell? ⟨w.heap.size + 1, 1, none⟩ = some (sp.val) := hw4.keep cs1
 have ds2 : w4.cell? ⟨w.heap.size + 1, 2, none⟩ = some (ss.val) := hw4.keep cs2
 have ds3 : w4.cell? ⟨w.heap.size + 1, 3, none⟩ = some (so.val) := hw4.keep cs3
 have du0 : w4.cell? ⟨w.heap.size + 2, 0, none⟩ = some (.slice none 0 0) := hw4.keep cu0
 have du1 : w4.cell? ⟨w.heap.size + 2, 1, none⟩ = some (.slice none 0 0) := hw4.keep cu1
 have du2 : w4.cell? ⟨w.heap.size + 2, 2, none⟩ = some (.slice none 0 0) := hw4.keep cu2
 have du3 : w4.cell? ⟨w.heap.size + 2, 3, none⟩ = some (.slice none 0 0) := hw4.keep cu3
 have dv0 : w4.cell? ⟨w.heap.size + 3, 0, none⟩ = some (.int .i64 0) := hw4.keep cv0
 have dv1 : w4.cell? ⟨w.heap.size + 3, 1, none⟩ = some (.int .i64 0) := hw4.keep cv1
 have dv2 : w4.cell? ⟨w.heap.size + 3, 2, none⟩ = some (.slice none 0 0) := hw4.keep cv2
 have fdu0 : w4.frozen? ⟨w.heap.size + 2, 0, none⟩ = false := hw4.keepF cu0 fcu0
 have fdu1 : w4.frozen? ⟨w.heap.size + 2, 1, none⟩ = false := hw4.keepF cu1 fcu1
 have fdu2 : w4.frozen? ⟨w.heap.size + 2, 2, none⟩ = false := hw4.keepF cu2 fcu2
 have fdu3 : w4.frozen? ⟨w.heap.size + 2, 3, none⟩ = false := hw4.keepF cu3 fcu3
 have fdv0 : w4.frozen? ⟨w.heap.size + 3, 0, none⟩ = false := hw4.keepF cv0 fcv0
 have fdv1 : w4.frozen? ⟨w.heap.size + 3, 1, none⟩ = false := hw4.keepF cv1 fcv1
 have fdv2 : w4.frozen? ⟨w.heap.size + 3, 2, none⟩ = false := hw4.keepF cv2 fcv2
 have hB4 : Bl w w4 := hB3.trans hw4
 have z4 : w.heap.size + 3 < w4.heap.size := by have := hw4.size; omega
 have hw4z := hw4.size
 have hB4s := HD (show OwnSt w.heap.size w4 ⟨⟨VA, vc, vx⟩, ⟨PA, pc, px⟩, ⟨SA, sc, sx⟩, ⟨OA, oc, ox⟩⟩ from ⟨Own1.mono hOs.vol (by have := hB3.size; omega), Own1.mono hOs.pond (by have := hB3.size; omega), Own1.mono hOs.set (by have := hB3.size; omega), Own1.mono hOs.on (by have := hB3.size; omega), hOs.ne, hOs.ne2⟩)
 have hlt4 := HD (And.intro (fun g hg => (hOs.vol.lt g hg).2) (And.intro (fun g hg => (hOs.pond.lt g hg).2) (And.intro (fun g hg => (hOs.set.lt g hg).2) (fun g hg => (hOs.on.lt g hg).2))))
 have hge3 := HD (And.intro (fun g hg => (hOs.vol.lt g hg).1) (And.intro (fun g hg => (hOs.pond.lt g hg).1) (And.intro (fun g hg => (hOs.set.lt g hg).1) (fun g hg => (hOs.on.lt g hg).1))))
 have hvxh := HD hvx
 have hpxh := HD hpx
 have hsxh := HD hsx
 have hoxh := HD hox
 clear hw4 hB3 T116 hOs hvx hpx hsx hox
 clear cn0 cn1 cs0 cs1 cs2 cs3 cu0 cu1 cu2 cu3 cv0 cv1 cv2 fcu0 fcu1 fcu2 fcu3 fcv0 fcv1 fcv2
 have hB5 : Bl w4 (w4.alloc (Obj.cells #[.slice VA vx.length vc, .slice PA px.length pc, .slice SA sx.length sc, .slice OA ox.length oc] 31)) := bz
 have en0 : (w4.alloc (Obj.cells #[.slice VA vx.length vc, .slice PA px.length pc, .slice SA sx.length sc, .slice OA ox.length oc] 31)).cell? ⟨w.heap.size, 0, none⟩ = some (.slice A xs.length c) := hB5.keep dn0
 have en1 : (w4.alloc (Obj.cells #[.slice VA vx.length vc, .slice PA px.length pc, .slice SA sx.length sc, .slice OA ox.length oc] 31)).cell? ⟨w.heap.size, 1, none⟩ = some (.slice A2 ls.length c2) := hB5.keep dn1
 have es0 : (w4.alloc (Obj.cells #[.slice VA vx.length vc, .slice PA px.length pc, .slice SA sx.length sc, .slice OA ox.length oc] 31)).cell? ⟨w.heap.size + 1, 0, none⟩ = some (sv.val) := hB5.keep ds0
 have es1 : (w4.alloc (Obj.cells #[.slice VA vx.length vc, .slice PA px.length pc, .slice SA sx.length sc, .slice OA ox.length oc] 31)).cell? ⟨w.heap.size + 1, 1, none⟩ = some (sp.val) := hB5.keep ds1
 have es2 : (w4.alloc (Obj.cells #[.slice VA vx.length vc, .slice PA px.length pc, .slice SA sx.length sc, .slice OA ox.length oc] 31)).cell? ⟨w.heap.size + 1, 2, none⟩ = some (ss.val) := hB5.keep ds2
 have es3 : (w4.alloc (Obj.cells #[.slice VA vx.length vc, .slice PA px.length pc, .slice SA sx.length sc, .slice OA ox.length oc] 31)).cell? ⟨w.heap.size + 1, 3, none⟩ = some (so.val) := hB5.keep ds3
 have eu0 : (w4.alloc (Obj.cells #[.slice VA vx.length vc, .slice PA px.length pc, .slice SA sx.length sc, .slice OA ox.length oc] 31)).cell? ⟨w.heap.size + 2, 0, none⟩ = some (.slice none 0 0) := hB5.keep du0
 have eu1 : (w4.alloc (Obj.cells #[.slice VA vx.length vc, .slice PA px.length pc, .slice SA sx.length sc, .slice OA ox.length oc] 31)).cell? ⟨w.heap.size + 2, 1, none⟩ = some (.slice none 0 0) := hB5.keep du1
 have eu2 : (w4.alloc (Obj.cells #[.slice VA vx.length vc, .slice PA px.length pc, .slice SA sx.length sc, .slice OA ox.length oc] 31)).cell? ⟨w.heap.size + 2, 2, none⟩ = some (.slice none 0 0) := hB5.keep du2
 have eu3 : (w4.alloc (Obj.cells #[.slice VA vx.length vc, .slice PA px.length pc, .slice SA sx.length sc, .slice OA ox.length oc] 31)).cell? ⟨w.heap.size + 2, 3, none⟩ = some (.slice none 0 0) := hB5.keep du3
 have ev0 : (w4.alloc (Obj.cells #[.slice VA vx.length vc, .slice PA px.length pc, .slice SA sx.length sc, .slice OA ox.length oc] 31)).cell? ⟨w.heap.size + 3, 0, none⟩ = some (.int .i64 0) := hB5.keep dv0
 have ev1 : (w4.alloc (Obj.cells #[.slice VA vx.length vc, .slice PA px.length pc, .slice SA sx.length sc, .slice OA ox.length oc] 31)).cell? ⟨w.heap.size + 3, 1, none⟩ = some (.int .i64 0) := hB5.keep dv1
 have ev2 : (w4.alloc (Obj.cells #[.slice VA vx.length vc, .slice PA px.length pc, .slice SA sx.length sc, .slice OA ox.length oc] 31)).cell? ⟨w.heap.size + 3, 2, none⟩ = some (.slice none 0 0) := hB5.keep dv2
 have feu0 : (w4.alloc (Obj.cells #[.slice VA vx.length vc, .slice PA px.length pc, .slice SA sx.length sc, .slice OA ox.length oc] 31)).frozen? ⟨w.heap.size + 2, 0, none⟩ = false := hB5.keepF du0 fdu0
 have feu1 : (w4.alloc (Obj.cells #[.slice VA vx.length vc, .slice PA px.length pc, .slice SA sx.length sc, .slice OA ox.length oc] 31)).frozen? ⟨w.heap.size + 2, 1, none⟩ = false := hB5.keepF du1 fdu1
 have feu2 : (w4.alloc (Obj.cells #[.slice VA vx.length vc, .slice PA px.length pc, .slice SA sx.length sc, .slice OA ox.length oc] 31)).frozen? ⟨w.heap.size + 2, 2, none⟩ = false := hB5.keepF du2 fdu2
 have feu3 : (w4.alloc (Obj.cells #[.slice VA vx.length vc, .slice PA px.length pc, .slice SA sx.length sc, .slice OA ox.length oc] 31)).frozen? ⟨w.heap.size + 2, 3, none⟩ = false := hB5.keepF du3 fdu3
 have fev0 : (w4.alloc (Obj.cells #[.slice VA vx.length vc, .slice PA px.length pc, .slice SA sx.length sc, .slice OA ox.length oc] 31)).frozen? ⟨w.heap.size + 3, 0, none⟩ = false := hB5.keepF dv0 fdv0
 have fev1 : (w4.alloc (Obj.cells #[.slice VA vx.length vc, .slice PA px.length pc, .slice SA sx.length sc, .slice OA ox.length oc] 31)).frozen? ⟨w.heap.size + 3, 1, none⟩ = false := hB5.keepF dv1 fdv1
 have fev2 : (w4.alloc (Obj.cells #[.slice VA vx.length vc, .slice PA px.length pc, .slice SA sx.length sc, .slice OA ox.length oc] 31)).frozen? ⟨w.heap.size + 3, 2, none⟩ = false := hB5.keepF dv2 fdv2
 have ep0 : (w4.alloc (Obj.cells #[.slice VA vx.length vc, .slice PA px.length pc, .slice SA sx.length sc, .slice OA ox.length oc] 31)).cell? ⟨w4.heap.size, 0, none⟩ = some (.slice VA vx.length vc) := by simp [go_sem]
 have ep1 : (w4.alloc (Obj.cells #[.slice VA vx.length vc, .slice PA px.length pc, .slice SA sx.length sc, .slice OA ox.length oc] 31)).cell? ⟨w4.heap.size, 1, none⟩ = some (.slice PA px.length pc) := by simp [go_sem]
 have ep2 : (w4.alloc (Obj.cells #[.slice VA vx.length vc, .slice PA px.length pc, .slice SA sx.length sc, .slice OA ox.length oc] 31)).cell? ⟨w4.heap.size, 2, none⟩ = some (.slice SA sx.length sc) := by simp [go_sem]
 have ep3 : (w4.alloc (Obj.cells #[.slice VA vx.length vc, .slice PA px.length pc, .slice SA sx.length sc, .slice OA ox.length oc] 31)).cell? ⟨w4.heap.size, 3, none⟩ = some (.slice OA ox.length oc) := by simp [go_sem]
 have fep0 : (w4.alloc (Obj.cells #[.slice VA vx.length vc, .slice PA px.length pc, .slice SA sx.length sc, .slice OA ox.length oc] 31)).frozen? ⟨w4.heap.size, 0, none⟩ = false := by simp [go_sem]
 have fep1 : (w4.alloc (Obj.cells #[.slice VA vx.length vc, .slice PA px.length pc, .slice SA sx.length sc, .slice OA ox.length oc] 31)).frozen? ⟨w4.heap.size, 1, none⟩ = false := by simp [go_sem]
 have fep2 : (w4.alloc (Obj.cells #[.slice VA vx.length vc, .slice PA px.length pc, .slice SA sx.length sc, .slice OA ox.length oc] 31)).frozen? ⟨w4.heap.size, 2, none⟩ = false := by simp [go_sem]
 have fep3 : (w4.alloc (Obj.cells #[.slice VA vx.length vc, .slice PA px.length pc, .slice SA sx.length sc, .slice OA ox.length oc] 31)).frozen? ⟨w4.heap.size, 3, none⟩ = false := by simp [go_sem]
 have hB5w : Bl w (w4.alloc (Obj.cells #[.slice VA vx.length vc, .slice PA px.length pc, .slice SA sx.length sc, .slice OA ox.length oc] 31)) := hB4.trans hB5
 have zz5 : w4.heap.size < (w4.alloc (Obj.cells #[.slice VA vx.length vc, .slice PA px.length pc, .slice SA sx.length sc, .slice OA ox.length oc] 31)).heap.size := by simp
 have hOs5 := HD (show OwnSt w.heap.size (w4.alloc (Obj.cells #[.slice VA vx.length vc, .slice PA px.length pc, .slice SA sx.length sc, .slice OA ox.length oc] 31)) ⟨⟨VA, vc, vx⟩, ⟨PA, pc, px⟩, ⟨SA, sc, sx⟩, ⟨OA, oc, ox⟩⟩ from ⟨hB4s.out.vol.bl hB5, hB4s.out.pond.bl hB5, hB4s.out.set.bl hB5, hB4s.out.on.bl hB5, hB4s.out.ne, hB4s.out.ne2⟩)
 go_wp2_with fail
 clear dn0 dn1 ds0 ds1 ds2 ds3 du0 du1 du2 du3 dv0 dv1 dv2 fdu0 fdu1 fdu2 fdu3 fdv0 fdv1 fdv2 hB5 hB4 hB4s
 generalize (w4.alloc (Obj.cells #[.slice VA vx.length vc, .slice PA px.length pc, .slice SA sx.length sc, .slice OA ox.length oc] 31)) = W5 at *
 refine (T117.out _ hB5w).mono ?_
 rintro e w6 ⟨⟨HA, hc, hx⟩, he, hhl, hhx, hHo, hw6⟩
 obtain rfl : e = .returned (.slice HA hx.length hc) := he
 simp only at hhl hhx
 have gn0 : w6.cell? ⟨w.heap.size, 0, none⟩ = some (.slice A xs.length c) := hw6.keep en0
 have gn1 : w6.cell? ⟨w.heap.size, 1, none⟩ = some (.slice A2 ls.length c2) := hw6.keep en1
 have gs0 : w6.cell? ⟨w.heap.size + 1, 0, none⟩ = some (sv.val) := hw6.keep es0
 have gs1 : w6.cell? ⟨w.heap.size + 1, 1, none⟩ = some (sp.val) := hw6.keep es1
 have gs2 : w6.cell? ⟨w.heap.size + 1, 2, none⟩ = some (ss.val) := hw6.keep es2
 have gs3 : w6.cell? ⟨w.heap.size + 1, 3, none⟩ = some (so.val) := hw6.keep es3
 have gu0 : w6.cell? ⟨w.heap.size + 2, 0, none⟩ = some (.slice none 0 0) := hw6.keep eu0
 have gu1 : w6.cell? ⟨w.heap.size + 2, 1, none⟩ = some (.slice none 0 0) := hw6.keep eu1
 have gu2 : w6.cell? ⟨w.heap.size + 2, 2, none⟩ = some (.slice none 0 0) := hw6.keep eu2
 have gu3 : w6.cell? ⟨w.heap.size + 2, 3, none⟩ = some (.slice none 0 0) := hw6.keep eu3
 have gv0 : w6.cell? ⟨w.heap.size + 3, 0, none⟩ = some (.int .i64 0) := hw6.keep ev0
 have gv1 : w6.cell? ⟨w.heap.size + 3, 1, none⟩ = some (.int .i64 0) := hw6.keep ev1
 have gv2 : w6.cell? ⟨w.heap.size + 3, 2, none⟩ = some (.slice none 0 0) := hw6.keep ev2
 have fgu0 : w6.frozen? ⟨w.heap.size + 2, 0, none⟩ = false := hw6.keepF eu0 feu0
 have fgu1 : w6.frozen? ⟨w.heap.size + 2, 1, none⟩ = false := hw6.keepF eu1 feu1
 have fgu2 : w6.frozen? ⟨w.heap.size + 2, 2, none⟩ = false := hw6.keepF eu2 feu2
 have fgu3 : w6.frozen? ⟨w.heap.size + 2, 3, none⟩ = false := hw6.keepF eu3 feu3
 have fgv0 : w6.frozen? ⟨w.heap.size + 3, 0, none⟩ = false := hw6.keepF ev0 fev0
 have fgv1 : w6.frozen? ⟨w.heap.size + 3, 1, none⟩ = false := hw6.keepF ev1 fev1
 have fgv2 : w6.frozen? ⟨w.heap.size + 3, 2, none⟩ = false := hw6.keepF ev2 fev2
 have gp0 := hw6.keep ep0
 have gp1 := hw6.keep ep1
 have gp2 := hw6.keep ep2
 have gp3 := hw6.keep ep3
 have fgp0 := hw6.keepF ep0 fep0
 have fgp1 := hw6.keepF ep1 fep1
 have fgp2 := hw6.keepF ep2 fep2
 have fgp3 := hw6.keepF ep3 fep3
 have hB6 : Bl w w6 := hB5w.trans hw6
 have z6 : w4.heap.size < w6.heap.size := by have := hw6.size; omega
 have hHnew := HD (show ∀ g, (⟨HA, hc, hx⟩ : Sl Int).val.ownBlock = some g -> W5.heap.size ≤ g from fun g hg => (hHo.lt g hg).1)
 have hW5z := hw6.size
 have hHo6 := HD (show Own1 IV 3 w.heap.size w6 ⟨HA, hc, hx⟩ from Own1.mono hHo (by have := hB5w.size; omega))
 have hOs6 := HD (show OwnSt w.heap.size w6 ⟨⟨VA, vc, vx⟩, ⟨PA, pc, px⟩, ⟨SA, sc, sx⟩, ⟨OA, oc, ox⟩⟩ from ⟨hOs5.out.vol.bl hw6, hOs5.out.pond.bl hw6, hOs5.out.set.bl hw6, hOs5.out.on.bl hw6, hOs5.out.ne, hOs5.out.ne2⟩)
 have hOslt := HD (show (∀ g, (⟨VA, vc, vx⟩ : Sl Int).val.ownBlock = some g -> g < w4.heap.size) /\ (∀ g, (⟨PA, pc, px⟩ : Sl Int).val.ownBlock = some g -> g < w4.heap.size) /\ (∀ g, (⟨SA, sc, sx⟩ : Sl Int).val.ownBlock = some g -> g < w4.heap.size) /\ (∀ g, (⟨OA, oc, ox⟩ : Sl Bool).val.ownBlock = some g -> g < w4.heap.size) from hlt4.out)
 have hhlh := HD hhl
 have hhxh := HD hhx
 clear en0 en1 es0 es1 es2 es3 eu0 eu1 eu2 eu3 ev0 ev1 ev2 feu0 feu1 feu2 feu3 fev0 fev1 fev2 ep0 ep1 ep2 ep3 fep0 fep1 fep2 fep3 hw6 T117 hhl hhx hHo hB5w hOs5
 have hBX : Bl w6 (w6.alloc (Obj.cells #[.int .i64 0, .int .i64 0, .slice none 0 0] 90)) := bz
 have hn0 : (w6.alloc (Obj.cells #[.int .i64 0, .int .i64 0, .slice none 0 0] 90)).cell? ⟨w.heap.size, 0, none⟩ = some (.slice A xs.length c) := hBX.keep gn0
 have hn1 : (w6.alloc (Obj.cells #[.int .i64 0, .int .i64 0, .slice none 0 0] 90)).cell? ⟨w.heap.size, 1, none⟩ = some (.slice A2 ls.length c2) := hBX.keep gn1
 have hs0 : (w6.alloc (Obj.cells #[.int .i64 0, .int .i64 0, .slice none 0 0] 90)).cell? ⟨w.heap.size + 1, 0, none⟩ = some (sv.val) := hBX.keep gs0
 have hs1 : (w6.alloc (Obj.cells #[.int .i64 0, .int .i64 0, .slice none 0 0] 90)).cell? ⟨w.heap.size + 1, 1, none⟩ = some (sp.val) := hBX.keep gs1
 have hs2 : (w6.alloc (Obj.cells #[.int .i64 0, .int .i64 0, .slice none 0 0] 90)).cell? ⟨w.heap.size + 1, 2, none⟩ = some (ss.val) := hBX.keep gs2
 have hs3 : (w6.alloc (Obj.cells #[.int .i64 0, .int .i64 0, .slice none 0 0] 90)).cell? ⟨w.heap.size + 1, 3, none⟩ = some (so.val) := hBX.keep gs3
 have hu0 : (w6.alloc (Obj.cells #[.int .i64 0, .int .i64 0, .slice none 0 0] 90)).cell? ⟨w.heap.size + 2, 0, none⟩ = some (.slice none 0 0) := hBX.keep gu0
 have hu1 : (w6.alloc (Obj.cells #[.int .i64 0, .int .i64 0, .slice none 0 0] 90)).cell? ⟨w.heap.size + 2, 1, none⟩ = some (.slice none 0 0) := hBX.keep gu1
 have hu2 : (w6.alloc (Obj.cells #[.int .i64 0, .int .i64 0, .slice none 0 0] 90)).cell? ⟨w.heap.size + 2, 2, none⟩ = some (.slice none 0 0) := hBX.keep gu2
 have hu3 : (w6.alloc (Obj.cells #[.int .i64 0, .int .i64 0, .slice none 0 0] 90)).cell? ⟨w.heap.size + 2, 3, none⟩ = some (.slice none 0 0) := hBX.keep gu3
 have hv0 : (w6.alloc (Obj.cells #[.int .i64 0, .int .i64 0, .slice none 0 0] 90)).cell? ⟨w.heap.size + 3, 0, none⟩ = some (.int .i64 0) := hBX.keep gv0
 have hv1 : (w6.alloc (Obj.cells #[.int .i64 0, .int .i64 0, .slice none 0 0] 90)).cell? ⟨w.heap.size + 3, 1, none⟩ = some (.int .i64 0) := hBX.keep gv1
 have hv2 : (w6.alloc (Obj.cells #[.int .i64 0, .int .i64 0, .slice none 0 0] 90)).cell? ⟨w.heap.size + 3, 2, none⟩ = some (.slice none 0 0) := hBX.keep gv2
 have fhu0 : (w6.alloc (Obj.cells #[.int .i64 0, .int .i64 0, .slice none 0 0] 90)).frozen? ⟨w.heap.size + 2, 0, none⟩ = false := hBX.keepF gu0 fgu0
 have fhu1 : (w6.alloc (Obj.cells #[.int .i64 0, .int .i64 0, .slice none 0 0] 90)).frozen? ⟨w.heap.size + 2, 1, none⟩ = false := hBX.keepF gu1 fgu1
 have fhu2 : (w6.alloc (Obj.cells #[.int .i64 0, .int .i64 0, .slice none 0 0] 90)).frozen? ⟨w.heap.size + 2, 2, none⟩ = false := hBX.keepF gu2 fgu2
 have fhu3 : (w6.alloc (Obj.cells #[.int .i64 0, .int .i64 0, .slice none 0 0] 90)).frozen? ⟨w.heap.size + 2, 3, none⟩ = false := hBX.keepF gu3 fgu3
 have fhv0 : (w6.alloc (Obj.cells #[.int .i64 0, .int .i64 0, .slice none 0 0] 90)).frozen? ⟨w.heap.size + 3, 0, none⟩ = false := hBX.keepF gv0 fgv0
 have fhv1 : (w6.alloc (Obj.cells #[.int .i64 0, .int .i64 0, .slice none 0 0] 90)).frozen? ⟨w.heap.size + 3, 1, none⟩ = false := hBX.keepF gv1 fgv1
 have fhv2 : (w6.alloc (Obj.cells #[.int .i64 0, .int .i64 0, .slice none 0 0] 90)).frozen? ⟨w.heap.size + 3, 2, none⟩ = false := hBX.keepF gv2 fgv2
 have hp0 := hBX.keep gp0
 have hp1 := hBX.keep gp1
 have hp2 := hBX.keep gp2
 have hp3 := hBX.keep gp3
 have fhp0 := hBX.keepF gp0 fgp0
 have fhp1 := hBX.keepF gp1 fgp1
 have fhp2 := hBX.keepF gp2 fgp2
 have fhp3 := hBX.keepF gp3 fgp3
 have hg0 : (w6.alloc (Obj.cells #[.int .i64 0, .int .i64 0, .slice none 0 0] 90)).cell? ⟨w6.heap.size, 0, none⟩ = some (.int .i64 0) := by simp [go_sem]
 have hg1 : (w6.alloc (Obj.cells #[.int .i64 0, .int .i64 0, .slice none 0 0] 90)).cell? ⟨w6.heap.size, 1, none⟩ = some (.int .i64 0) := by simp [go_sem]
 have hg2 : (w6.alloc (Obj.cells #[.int .i64 0, .int .i64 0, .slice none 0 0] 90)).cell? ⟨w6.heap.size, 2, none⟩ = some (.slice none 0 0) := by simp [go_sem]
 have fhg0 : (w6.alloc (Obj.cells #[.int .i64 0, .int .i64 0, .slice none 0 0] 90)).frozen? ⟨w6.heap.size, 0, none⟩ = false := by simp [go_sem]
 have fhg1 : (w6.alloc (Obj.cells #[.int .i64 0, .int .i64 0, .slice none 0 0] 90)).frozen? ⟨w6.heap.size, 1, none⟩ = false := by simp [go_sem]
 have fhg2 : (w6.alloc (Obj.cells #[.int .i64 0, .int .i64 0, .slice none 0 0] 90)).frozen? ⟨w6.heap.size, 2, none⟩ = false := by simp [go_sem]
 have hBXw : Bl w (w6.alloc (Obj.cells #[.int .i64 0, .int .i64 0, .slice none 0 0] 90)) := hB6.trans hBX
 have hHoX := HD (show Own1 IV 3 w.heap.size (w6.alloc (Obj.cells #[.int .i64 0, .int .i64 0, .slice none 0 0] 90)) ⟨HA, hc, hx⟩ from hHo6.out.bl hBX)
 have hOsX := HD (show OwnSt w.heap.size (w6.alloc (Obj.cells #[.int .i64 0, .int .i64 0, .slice none 0 0] 90)) ⟨⟨VA, vc, vx⟩, ⟨PA, pc, px⟩, ⟨SA, sc, sx⟩, ⟨OA, oc, ox⟩⟩ from ⟨hOs6.out.vol.bl hBX, hOs6.out.pond.bl hBX, hOs6.out.set.bl hBX, hOs6.out.on.bl hBX, hOs6.out.ne, hOs6.out.ne2⟩)
 have zX : w6.heap.size < (w6.alloc (Obj.cells #[.int .i64 0, .int .i64 0, .slice none 0 0] 90)).heap.size := by simp
 obtain ⟨gh, hgh1, hgh2, hgh3⟩ : ∃ gh, W5.heap.size ≤ gh /\ gh ≤ w6.heap.size /\ (hx ≠ [] -> HA = some ⟨gh, 0, none⟩ /\ gh < w6.heap.size) := by
  by_cases h : hx = []
  ·exact ⟨w6.heap.size, hW5z, Nat.le_refl _, fun h' => absurd h h'⟩
  ·obtain ⟨g, h1, h2, h3⟩ := hHo6.out.ptr h
   have := hHnew.out g (by simp only at h1; simp [Sl.val, h1, Value.ownBlock])
   exact ⟨g, this, by omega, fun _ => ⟨h1, h3⟩⟩
 have hgh3h := HD hgh3
 have hHlt := HD (show ∀ g, HA.map (·.block) = some g -> g < w6.heap.size from fun g hg => (hHo6.out.lt g (by cases HA with | none => simp at hg | some a => simpa [Sl.val, Value.ownBlock] using hg)).2)
 have hisl := hIh.out.room
 simp only at hisl
 go_wp2_with fail
 clear gn0 gn1 gs0 gs1 gs2 gs3 gu0 gu1 gu2 gu3 gv0 gv1 gv2 fgu0 fgu1 fgu2 fgu3 fgv0 fgv1 fgv2 gp0 gp1 gp2 gp3 fgp0 fgp1 fgp2 fgp3 hBX hB6 hHo6 hOs6 hgh3
 generalize (w6.alloc (Obj.cells #[.int .i64 0, .int .i64 0, .slice none 0 0] 90)) = X at *
 go_loopg [82] is.length (fun gg s82 wr => ∃ (kk : Nat) (hq : List Int) (gi go : Int), kk ≤ is.length /\ is.length - kk ≤ gg /\ s82 = .int .i64 kk /\ Aside (Bl w wr) /\ Aside (But [w6.heap.size, gh] X wr) /\ Aside (wr.cell? ⟨w6.heap.size, 0, none⟩ = some (.int .i64 gi)) /\ Aside (wr.cell? ⟨w6.heap.size, 1, none⟩ = some (.int .i64 go)) /\ Aside (wr.cell? ⟨w6.heap.size, 2, none⟩ = some (.slice none 0 0)) /\ Aside (wr.frozen? ⟨w6.heap.size, 0, none⟩ = false) /\ Aside (wr.frozen? ⟨w6.heap.size, 1, none⟩ = false) /\ Aside (wr.frozen? ⟨w6.heap.size, 2, none⟩ = false) /\ Aside (Own1 IV 3 w.heap.size wr ⟨HA, hc, hq⟩) /\ Aside (hq.length = hx.length) /\ Aside (∀ i, i < hx.length -> hq[i]! = if i < kk /\ kd xs i ≠ 3 then hx[i]! + is[i]! else hx[i]!) /\ Aside (gi = sumTo (fun i => is[i]!) kk) /\ Aside (go = cameS xs is kk))
 case atStart => exact ⟨0, hx, 0, 0, Nat.zero_le _, by omega, rfl, hBXw, But.refl _ _, aside hg0, aside hg1, aside hg2, aside fhg0, aside fhg1, aside fhg2, hHoX.out, rfl, aside (fun i _ => by rw [if_neg (fun h => by omega)]), rfl, rfl⟩
 case round =>
  clear hg0 hg1 hg2 fhg0 fhg1 fhg2 hHoX
  obtain ⟨kk, hq, gi, go, hkk, hg, rfl, BW, BU, C0, C1, C2, F0, F1, F2, OW, QL, QP, GI, GO⟩ := hrel
  have BW' := BW.out
  by_cases hlt : kk < is.length
  ·have hltz : (kk : Int) < (is.length : Int) := by omega
   have hkz : (0 : Int) ≤ (kk : Int) := by omega
   have C0' := C0.out
   have C1' := C1.out
   have F0' := F0.out
   have F1' := F1.out
   have hn0 := BU.out.cell hn0 (by simp; omega)
   obtain ⟨bI, offI, hA, _, _, _⟩ := hIh.out.place (by intro e; simp only at e; rw [e] at hlt; simp at hlt)
   simp only at hA
   subst hA
   have hcI := Sl.Ok.cells hIh.out rfl wr BW' kk hlt 0 _ rfl
   simp only at hcI
   rw [<- getElem!_pos is kk hlt, Nat.mul_one] at hcI
   have hkx : kk < xs.length := by have := hq1h.out; omega
   have hkxz : (kk : Int) < (xs.length : Int) := by omega
   obtain ⟨bN, offN, hAN, _, _, _⟩ := hNh.out.nodes.place (by intro e; simp only at e; rw [e] at hkx; simp at hkx)
   simp only at hAN
   subst hAN
   have hcn := Sl.Ok.cells hNh.out.nodes rfl wr BW' kk hkx
   simp only at hcn
   have ek : wr.cell? ⟨bN, offN + kk * 9 + 1, none⟩ = some (.int .i64 (kd xs kk)) := by
    have := hcn 1 _ rfl
    unfold kd
    rw [getElem!_pos xs kk hkx]
    exact this
   have hxl' := hxl.out
   have hib1 := hib.out kk hlt
   have hGI := GI.out
   have hGO := GO.out
   have hgib := sumTo_bound (f := fun i => is[i]!) (m := 1125899906842624) kk (fun i hi => hib.out i (by omega))
   have hgob := cameS_bound (xs := xs) (inf := is) (m := is.length) hib.out (k := kk) (by omega)
   rw [<- hGI] at hgib
   rw [<- hGO] at hgob
   have hisx := hq1h.out
   have hGI1 : Hid (gi + is[kk]! = sumTo (fun i => is[i]!) (kk + 1)) := by rw [hGI]; rfl
   have hGO1 : Hid (kd xs kk = 3 -> go + is[kk]! = cameS xs is (kk + 1)) := fun h => by rw [hGO]; show _ = cameS xs is kk + (if kd xs kk = 3 then is[kk]! else 0); rw [if_pos h]
   have hGO2 : Hid (kd xs kk ≠ 3 -> go = cameS xs is (kk + 1)) := fun h => by rw [hGO]; show _ = cameS xs is kk + (if kd xs kk = 3 then is[kk]! else 0); rw [if_neg h]; omega
   have hwg : IntKind.i64.wrap (gi + is[kk]!) = gi + is[kk]! := IntWalk.i64_in _ (by omega)
   have hwo : IntKind.i64.wrap (go + is[kk]!) = go + is[kk]! := IntWalk.i64_in _ (by omega)
   have hkq : kk < hq.length := by have h1 := QL.out; have h2 := hhlh.out; have h3 := hokh.out.2.1; simp only at h3; omega
   have hkhx : kk < hx.length := by have h1 := QL.out; omega
   have hkhz : (kk : Int) < (hx.length : Int) := by omega
   obtain ⟨hHA, hghlt⟩ := hgh3h.out (by intro e; rw [e] at hkhx; simp at hkhx)
   have hhv := QP.out kk hkhx
   rw [if_neg (fun h => by omega)] at hhv
   have hhb : 0 ≤ hx[kk]! /\ hx[kk]! ≤ 2251799813685248 := by
    have h1 := hhxh.out kk (by have h2 := hhlh.out; omega)
    have h2 := state_bounds hokh.out kk (by have h3 := hokh.out.2.1; have h4 := hxl.out; simp only at h3; show kk < sv.xs.length; omega)
    have h2' : 0 ≤ sv.xs[kk]! /\ sv.xs[kk]! ≤ 1125899906842624 /\ 0 ≤ sp.xs[kk]! /\ sp.xs[kk]! ≤ 1125899906842624 := h2
    have h1' : hx[kk]! = sv.xs[kk]! + sp.xs[kk]! := h1
    omega
   have hQP := HD QP.out
   have hQL := HD QL.out
   generalize hv : is[kk]! = v at hcI hib1 hGI1 hGO1 hwg hwo
   have hv := HD hv
   have eI : wr.cell? ⟨bI, offI + kk, none⟩ = some (.int .i64 v) := hcI
   clear hisx hcI hcn hGI hGO GI GO C0 C1 F0 F1 hgib QP QL
   cases hk : (kd xs kk == 3)
   ·have hkk3 : kd xs kk ≠ 3 := by simpa using hk
    have hkk3 := HD hkk3
    subst hHA
    have hv0 := OW.out.cell kk hkq
    rw [<- getElem!_pos hq kk hkq, hhv] at hv0
    have eh0 : wr.cell? ⟨gh, kk, none⟩ = some (.int .i64 (hx[kk]!)) := hv0
    have fh0 := OW.out.fro kk
    have hstep : Hid (∀ i, i < hx.length -> (hq.set kk (hx[kk]! + v))[i]! = if i < kk + 1 /\ kd xs i ≠ 3 then hx[i]! + is[i]! else hx[i]!) := fun i hi => by
     rw [get!_set (by have := hQL.out; omega)]
     by_cases h1 : i = kk
     ·subst h1; rw [if_pos rfl, if_pos ⟨by omega, hkk3.out⟩, hv.out]
     ·rw [if_neg h1, hQP.out i hi]
      by_cases h2 : i < kk
      ·simp [h2, show i < kk + 1 by omega]
      ·simp [h2, show ¬ i < kk + 1 by omega]
    generalize hx[kk]! = hv9 at eh0 hhb hstep
    have hwh : IntKind.i64.wrap (hv9 + v) = hv9 + v := IntWalk.i64_in _ (by omega)
    clear hv0 hhv
    have W1 : ∀ o, o ≠ 0 -> (wr.setCell ⟨w6.heap.size, 0, none⟩ (.int .i64 (gi + v))).cell? ⟨w6.heap.size, o, none⟩ = wr.cell? ⟨w6.heap.size, o, none⟩ := fun o ho => setOff (fun e => ho e.symm)
    have hng : gh ≠ w6.heap.size := by omega
    have hY0 : ((wr.setCell ⟨w6.heap.size, 0, none⟩ (.int .i64 (gi + v))).setCell ⟨gh, kk, none⟩ (.int .i64 (hv9 + v))).cell? ⟨w6.heap.size, 0, none⟩ = some (.int .i64 (gi + v)) := (setBlk' (fun e => hng e.symm)).trans (setSame (by rw [C0']; rfl))
    have hY1 : ((wr.setCell ⟨w6.heap.size, 0, none⟩ (.int .i64 (gi + v))).setCell ⟨gh, kk, none⟩ (.int .i64 (hv9 + v))).cell? ⟨w6.heap.size, 1, none⟩ = some (.int .i64 go) := (setBlk' (fun e => hng e.symm)).trans ((W1 1 (by omega)).trans C1')
    have hY2 : ((wr.setCell ⟨w6.heap.size, 0, none⟩ (.int .i64 (gi + v))).setCell ⟨gh, kk, none⟩ (.int .i64 (hv9 + v))).cell? ⟨w6.heap.size, 2, none⟩ = some (.slice none 0 0) := (setBlk' (fun e => hng e.symm)).trans ((W1 2 (by omega)).trans C2.out)
    have hZ0 : ((wr.setCell ⟨w6.heap.size, 0, none⟩ (.int .i64 (gi + v))).setCell ⟨gh, kk, none⟩ (.int .i64 (hv9 + v))).frozen? ⟨w6.heap.size, 0, none⟩ = false := by simp [go_sem, F0']
    have hZ1 : ((wr.setCell ⟨w6.heap.size, 0, none⟩ (.int .i64 (gi + v))).setCell ⟨gh, kk, none⟩ (.int .i64 (hv9 + v))).frozen? ⟨w6.heap.size, 1, none⟩ = false := by simp [go_sem, F1']
    have hZ2 : ((wr.setCell ⟨w6.heap.size, 0, none⟩ (.int .i64 (gi + v))).setCell ⟨gh, kk, none⟩ (.int .i64 (hv9 + v))).frozen? ⟨w6.heap.size, 2, none⟩ = false := by simp [go_sem, F2.out]
    have hB8 : Bl w ((wr.setCell ⟨w6.heap.size, 0, none⟩ (.int .i64 (gi + v))).setCell ⟨gh, kk, none⟩ (.int .i64 (hv9 + v))) := Bl.setCell (Bl.setCell BW' (by simp only; omega) _) (by simp only; omega) _
    have hU8 := HD (show But [w6.heap.size, gh] X ((wr.setCell ⟨w6.heap.size, 0, none⟩ (.int .i64 (gi + v))).setCell ⟨gh, kk, none⟩ (.int .i64 (hv9 + v))) from (BU.out.set _ _ (.inl (by simp))).set _ _ (.inl (by simp)))
    have hO8 := HD (show Own1 IV 3 w.heap.size ((wr.setCell ⟨w6.heap.size, 0, none⟩ (.int .i64 (gi + v))).setCell ⟨gh, kk, none⟩ (.int .i64 (hv9 + v))) ⟨some ⟨gh, 0, none⟩, hc, hq.set kk (hv9 + v)⟩ from (OW.out.other (a := ⟨w6.heap.size, 0, none⟩) (by simp [Sl.val, Value.ownBlock]; exact hng) _).set kk _)
    have hL8 := HD (show (hq.set kk (hv9 + v)).length = hx.length by rw [List.length_set]; exact hQL.out)
    have eh0' : (wr.setCell ⟨w6.heap.size, 0, none⟩ (.int .i64 (gi + v))).cell? ⟨gh, kk, none⟩ = some (.int .i64 hv9) := (setBlk' hng).trans eh0
    have fh0' : (wr.setCell ⟨w6.heap.size, 0, none⟩ (.int .i64 (gi + v))).frozen? ⟨gh, kk, none⟩ = false := by simp [go_sem, fh0]
    have hn0' : (wr.setCell ⟨w6.heap.size, 0, none⟩ (.int .i64 (gi + v))).cell? ⟨w.heap.size, 0, none⟩ = some (.slice (some ⟨bN, offN, none⟩) xs.length c) := (setBlk' (by omega)).trans hn0
    have ek' : (wr.setCell ⟨w6.heap.size, 0, none⟩ (.int .i64 (gi + v))).cell? ⟨bN, offN + kk * 9 + 1, none⟩ = some (.int .i64 (kd xs kk)) := (setBlk' (by have := (InNet.up hNh.out (Bl.refl w)).nodes.place (by intro e; simp only at e; rw [e] at hkx; simp at hkx); obtain ⟨b', o', h1, h2, _⟩ := this; simp only [Option.some.injEq, Addr.mk.injEq, and_true] at h1; omega)).trans ek
    have hg8 := HD (hGO2.out hkk3.out)
    clear W1
    go_wp2_with fail
    go_roundg (is.length - (kk + 1))
    case measure => omega
    case rel => exact ⟨kk + 1, _, gi + v, go, by omega, by omega, by go_num, hB8, hU8.out, hY0, hY1, hY2, hZ0, hZ1, hZ2, hO8.out, hL8.out, hstep.out, hGI1.out, hg8.out⟩
   ·have hkk3 : kd xs kk = 3 := by simpa using hk
    subst hHA
    have hkk3 := HD hkk3
    have hstep : Hid (∀ i, i < hx.length -> hq[i]! = if i < kk + 1 /\ kd xs i ≠ 3 then hx[i]! + is[i]! else hx[i]!) := fun i hi => by
     rw [hQP.out i hi]
     by_cases h1 : i = kk
     ·subst h1; rw [if_neg (fun h => h.2 hkk3.out), if_neg (fun h => h.2 hkk3.out)]
     ·by_cases h2 : i < kk
      ·simp [h2, show i < kk + 1 by omega]
      ·simp [h2, show ¬ i < kk + 1 by omega]
    have hY0 : ((wr.setCell ⟨w6.heap.size, 0, none⟩ (.int .i64 (gi + v))).setCell ⟨w6.heap.size, 1, none⟩ (.int .i64 (go + v))).cell? ⟨w6.heap.size, 0, none⟩ = some (.int .i64 (gi + v)) := (setOff (by decide)).trans (setSame (by rw [C0']; rfl))
    have hY1 : ((wr.setCell ⟨w6.heap.size, 0, none⟩ (.int .i64 (gi + v))).setCell ⟨w6.heap.size, 1, none⟩ (.int .i64 (go + v))).cell? ⟨w6.heap.size, 1, none⟩ = some (.int .i64 (go + v)) := setSame (by rw [setOff (by decide), C1']; rfl)
    have hY2 : ((wr.setCell ⟨w6.heap.size, 0, none⟩ (.int .i64 (gi + v))).setCell ⟨w6.heap.size, 1, none⟩ (.int .i64 (go + v))).cell? ⟨w6.heap.size, 2, none⟩ = some (.slice none 0 0) := (setOff (by decide)).trans ((setOff (by decide)).trans C2.out)
    have hZ0 : ((wr.setCell ⟨w6.heap.size, 0, none⟩ (.int .i64 (gi + v))).setCell ⟨w6.heap.size, 1, none⟩ (.int .i64 (go + v))).frozen? ⟨w6.heap.size, 0, none⟩ = false := by simp [go_sem, F0']
    have hZ1 : ((wr.setCell ⟨w6.heap.size, 0, none⟩ (.int .i64 (gi + v))).setCell ⟨w6.heap.size, 1, none⟩ (.int .i64 (go + v))).frozen? ⟨w6.heap.size, 1, none⟩ = false := by simp [go_sem, F1']
    have hZ2 : ((wr.setCell ⟨w6.heap.size, 0, none⟩ (.int .i64 (gi + v))).setCell ⟨w6.heap.size, 1, none⟩ (.int .i64 (go + v))).frozen? ⟨w6.heap.size, 2, none⟩ = false := by simp [go_sem, F2.out]
    have hB8 : Bl w ((wr.setCell ⟨w6.heap.size, 0, none⟩ (.int .i64 (gi + v))).setCell ⟨w6.heap.size, 1, none⟩ (.int .i64 (go + v))) := Bl.setCell (Bl.setCell BW' (by simp only; omega) _) (by simp only; omega) _
    have hU8 := HD (show But [w6.heap.size, gh] X ((wr.setCell ⟨w6.heap.size, 0, none⟩ (.int .i64 (gi + v))).setCell ⟨w6.heap.size, 1, none⟩ (.int .i64 (go + v))) from (BU.out.set _ _ (.inl (by simp))).set _ _ (.inl (by simp)))
    have hng : gh ≠ w6.heap.size := by omega
    have hnp : (⟨some ⟨gh, 0, none⟩, hc, hq⟩ : Sl Int).val.ownBlock ≠ some w6.heap.size := by simp [Sl.val, Value.ownBlock]; exact hng
    have hO8 := HD (show Own1 IV 3 w.heap.size ((wr.setCell ⟨w6.heap.size, 0, none⟩ (.int .i64 (gi + v))).setCell ⟨w6.heap.size, 1, none⟩ (.int .i64 (go + v))) ⟨some ⟨gh, 0, none⟩, hc, hq⟩ from (OW.out.other (a := ⟨w6.heap.size, 0, none⟩) hnp _).other (a := ⟨w6.heap.size, 1, none⟩) hnp _)
    have hn0' : (wr.setCell ⟨w6.heap.size, 0, none⟩ (.int .i64 (gi + v))).cell? ⟨w.heap.size, 0, none⟩ = some (.slice (some ⟨bN, offN, none⟩) xs.length c) := (setBlk' (by omega)).trans hn0
    have ek' : (wr.setCell ⟨w6.heap.size, 0, none⟩ (.int .i64 (gi + v))).cell? ⟨bN, offN + kk * 9 + 1, none⟩ = some (.int .i64 (kd xs kk)) := (setBlk' (by have := (InNet.up hNh.out (Bl.refl w)).nodes.place (by intro e; simp only at e; rw [e] at hkx; simp at hkx); obtain ⟨b', o', h1, h2, _⟩ := this; simp only [Option.some.injEq, Addr.mk.injEq, and_true] at h1; omega)).trans ek
    have p1 : (wr.setCell ⟨w6.heap.size, 0, none⟩ (.int .i64 (gi + v))).cell? ⟨w6.heap.size, 1, none⟩ = some (.int .i64 go) := (setOff (by decide)).trans C1'
    have p1f : (wr.setCell ⟨w6.heap.size, 0, none⟩ (.int .i64 (gi + v))).frozen? ⟨w6.heap.size, 1, none⟩ = false := by simp [go_sem, F1']
    have hg8 := HD (hGO1.out hkk3.out)
    go_wp2_with fail
    go_roundg (is.length - (kk + 1))
    case measure => omega
    case rel => exact ⟨kk + 1, _, gi + v, go + v, by omega, by omega, by go_num, hB8, hU8.out, hY0, hY1, hY2, hZ0, hZ1, hZ2, hO8.out, hQL.out, hstep.out, hGI1.out, hg8.out⟩
  ·have hltz : ¬ (kk : Int) < (is.length : Int) := by omega
   have hkk' : kk = xs.length := by have := hq1h.out; omega
   have hQX := HD (fun i (hi : i < xs.length) => show hq[i]! = if kd xs i ≠ 3 then sv.xs[i]! + sp.xs[i]! + is[i]! else sv.xs[i]! + sp.xs[i]! from by
    have h1 := QP.out i (by have h2 := hhlh.out; have h3 := hokh.out.2.1; simp only at h3; omega)
    have h4 : hx[i]! = sv.xs[i]! + sp.xs[i]! := hhxh.out i (by have h3 := hokh.out.2.1; simp only at h3; omega)
    rw [h1, h4]
    by_cases h5 : kd xs i = 3
    ·rw [if_neg (fun h => h.2 h5), if_neg (fun h => h h5)]
    ·rw [if_pos ⟨by omega, h5⟩, if_pos h5])
   have hGI := HD (show gi = sumTo (fun i => is[i]!) xs.length by rw [<- hkk']; exact GI.out)
   have hGO := HD (show go = cameS xs is xs.length by rw [<- hkk']; exact GO.out)
   have hhl2 := HD (show hx.length = xs.length by have h2 := hhlh.out; have h3 := hokh.out.2.1; simp only at h3; omega)
   have hql := HD (show hq.length = xs.length by have h1 := QL.out; have h2 := hhlh.out; have h3 := hokh.out.2.1; simp only at h3; omega)
   have kn0 : wr.cell? ⟨w.heap.size, 0, none⟩ = some (.slice A xs.length c) := BU.out.cell hn0 (by simp; omega)
   have kn1 : wr.cell? ⟨w.heap.size, 1, none⟩ = some (.slice A2 ls.length c2) := BU.out.cell hn1 (by simp; omega)
   have ks0 : wr.cell? ⟨w.heap.size + 1, 0, none⟩ = some (sv.val) := BU.out.cell hs0 (by simp; omega)
   have ks1 : wr.cell? ⟨w.heap.size + 1, 1, none⟩ = some (sp.val) := BU.out.cell hs1 (by simp; omega)
   have ks2 : wr.cell? ⟨w.heap.size + 1, 2, none⟩ = some (ss.val) := BU.out.cell hs2 (by simp; omega)
   have ks3 : wr.cell? ⟨w.heap.size + 1, 3, none⟩ = some (so.val) := BU.out.cell hs3 (by simp; omega)
   have ku0 : wr.cell? ⟨w.heap.size + 2, 0, none⟩ = some (.slice none 0 0) := BU.out.cell hu0 (by simp; omega)
   have ku1 : wr.cell? ⟨w.heap.size + 2, 1, none⟩ = some (.slice none 0 0) := BU.out.cell hu1 (by simp; omega)
   have ku2 : wr.cell? ⟨w.heap.size + 2, 2, none⟩ = some (.slice none 0 0) := BU.out.cell hu2 (by simp; omega)
   have ku3 : wr.cell? ⟨w.heap.size + 2, 3, none⟩ = some (.slice none 0 0) := BU.out.cell hu3 (by simp; omega)
   have kv0 : wr.cell? ⟨w.heap.size + 3, 0, none⟩ = some (.int .i64 0) := BU.out.cell hv0 (by simp; omega)
   have kv1 : wr.cell? ⟨w.heap.size + 3, 1, none⟩ = some (.int .i64 0) := BU.out.cell hv1 (by simp; omega)
   have kv2 : wr.cell? ⟨w.heap.size + 3, 2, none⟩ = some (.slice none 0 0) := BU.out.cell hv2 (by simp; omega)
   have fku0 : wr.frozen? ⟨w.heap.size + 2, 0, none⟩ = false := (World.frozen?_of_block (w := X) (BU.out.block _ (by have := cell_lt hu0; simpa using this) (by simp; omega))).trans fhu0
   have fku1 : wr.frozen? ⟨w.heap.size + 2, 1, none⟩ = false := (World.frozen?_of_block (w := X) (BU.out.block _ (by have := cell_lt hu1; simpa using this) (by simp; omega))).trans fhu1
   have fku2 : wr.frozen? ⟨w.heap.size + 2, 2, none⟩ = false := (World.frozen?_of_block (w := X) (BU.out.block _ (by have := cell_lt hu2; simpa using this) (by simp; omega))).trans fhu2
   have fku3 : wr.frozen? ⟨w.heap.size + 2, 3, none⟩ = false := (World.frozen?_of_block (w := X) (BU.out.block _ (by have := cell_lt hu3; simpa using this) (by simp; omega))).trans fhu3
   have fkv0 : wr.frozen? ⟨w.heap.size + 3, 0, none⟩ = false := (World.frozen?_of_block (w := X) (BU.out.block _ (by have := cell_lt hv0; simpa using this) (by simp; omega))).trans fhv0
   have fkv1 : wr.frozen? ⟨w.heap.size + 3, 1, none⟩ = false := (World.frozen?_of_block (w := X) (BU.out.block _ (by have := cell_lt hv1; simpa using this) (by simp; omega))).trans fhv1
   have fkv2 : wr.frozen? ⟨w.heap.size + 3, 2, none⟩ = false := (World.frozen?_of_block (w := X) (BU.out.block _ (by have := cell_lt hv2; simpa using this) (by simp; omega))).trans fhv2
   have kp0 := BU.out.cell hp0 (by simp; omega)
   have kp1 := BU.out.cell hp1 (by simp; omega)
   have kp2 := BU.out.cell hp2 (by simp; omega)
   have kp3 := BU.out.cell hp3 (by simp; omega)
   have fkp0 : wr.frozen? ⟨w4.heap.size, 0, none⟩ = false := (World.frozen?_of_block (w := X) (BU.out.block _ (by have := cell_lt hp0; simpa using this) (by simp; omega))).trans fhp0
   have fkp1 : wr.frozen? ⟨w4.heap.size, 1, none⟩ = false := (World.frozen?_of_block (w := X) (BU.out.block _ (by have := cell_lt hp1; simpa using this) (by simp; omega))).trans fhp1
   have fkp2 : wr.frozen? ⟨w4.heap.size, 2, none⟩ = false := (World.frozen?_of_block (w := X) (BU.out.block _ (by have := cell_lt hp2; simpa using this) (by simp; omega))).trans fhp2
   have fkp3 : wr.frozen? ⟨w4.heap.size, 3, none⟩ = false := (World.frozen?_of_block (w := X) (BU.out.block _ (by have := cell_lt hp3; simpa using this) (by simp; omega))).trans fhp3
   have hg0 := C0.out
   have hg1 := C1.out
   have hg2 := C2.out
   have fg0 := F0.out
   have fg1 := F1.out
   have fg2 := F2.out
   have hHo7 := HD OW.out
   have hBU7 := HD BU.out
   clear C0 C1 C2 F0 F1 F2 OW QL QP GI GO BW BU hkk' hkk hg hlt
   have hcap := HD (fun i (hi : i < xs.length) => show nodeB xs[i]! = true /\ 0 ≤ capN xs[i]! /\ capN xs[i]! ≤ 1125899906842624 from by
    have h1 := (((netB_iff _).mp hokh.out.1).2.2.1 i hi).1
    simp only at h1
    have h2 := hokh.out.2.2.2.2.2.1 i hi (by have h3 := hokh.out.2.1; simp only at h3 ⊢; omega) (by have h3 := hokh.out.2.2.1; simp only at h3 ⊢; omega)
    simp only at h2
    rw [inR_iff] at h2
    rw [getElem!_pos xs i hi]
    exact ⟨h1, by omega, capN_le h1⟩)
   have hqb := HD (fun i (hi : i < xs.length) => show 0 ≤ hq[i]! /\ hq[i]! ≤ 4503599627370496 from by
    have h1 := hQX.out i hi
    have h2 : 0 ≤ sv.xs[i]! /\ sv.xs[i]! ≤ 1125899906842624 /\ 0 ≤ sp.xs[i]! /\ sp.xs[i]! ≤ 1125899906842624 := state_bounds hokh.out i (by have h3 := hokh.out.2.1; simp only at h3; show i < sv.xs.length; omega)
    have h3 := hib.out i (by have := hq1h.out; omega)
    split at h1 <;> omega)
   have hvl := HD (show vx.length = xs.length by have h1 := hvxh.out; have h3 := hokh.out.2.1; simp only at h3; rw [h1]; exact h3)
   have hpl := HD (show px.length = xs.length by have h1 := hpxh.out; have h3 := hokh.out.2.2.1; simp only at h3; rw [h1]; exact h3)
   obtain ⟨L, hLV, hLP, hLH, hLn⟩ : ∃ L : List Nat, (∀ g, (⟨VA, vc, vx⟩ : Sl Int).val.ownBlock = some g -> g ∈ L) /\ (∀ g, (⟨PA, pc, px⟩ : Sl Int).val.ownBlock = some g -> g ∈ L) /\ (∀ g, (⟨HA, hc, hq⟩ : Sl Int).val.ownBlock = some g -> g ∈ L) /\ ∀ g ∈ L, w3.heap.size ≤ g /\ g ≠ w4.heap.size /\ g ≠ w6.heap.size /\ g < w6.heap.size /\ ((⟨VA, vc, vx⟩ : Sl Int).val.ownBlock = some g \/ (⟨PA, pc, px⟩ : Sl Int).val.ownBlock = some g \/ W5.heap.size ≤ g) := by
    refine ⟨(VA.map (·.block)).toList ++ (PA.map (·.block)).toList ++ (HA.map (·.block)).toList, ?_, ?_, ?_, ?_⟩
    ·intro g hg; cases VA <;> simp [Sl.val, Value.ownBlock] at hg ⊢; simp [hg]
    ·intro g hg; cases PA <;> simp [Sl.val, Value.ownBlock] at hg ⊢; simp [hg]
    ·intro g hg; cases HA <;> simp [Sl.val, Value.ownBlock] at hg ⊢; simp [hg]
    ·intro g hg
     simp only [List.mem_append, Option.mem_toList] at hg
     rcases hg with (hg | hg) | hg
     ·have e : (⟨VA, vc, vx⟩ : Sl Int).val.ownBlock = some g := by cases VA <;> simp [Sl.val, Value.ownBlock] at hg ⊢; exact hg
      have h1 := hge3.out.1 g e
      have h2 := hOslt.out.1 g e
      exact ⟨h1, by omega, by omega, by omega, .inl e⟩
     ·have e : (⟨PA, pc, px⟩ : Sl Int).val.ownBlock = some g := by cases PA <;> simp [Sl.val, Value.ownBlock] at hg ⊢; exact hg
      have h1 := hge3.out.2.1 g e
      have h2 := hOslt.out.2.1 g e
      exact ⟨h1, by omega, by omega, by omega, .inr (.inl e)⟩
     ·have h1 := hHlt.out g hg
      have h2 := hHnew.out g (by cases HA <;> simp [Sl.val, Value.ownBlock] at hg ⊢; exact hg)
      exact ⟨by omega, by omega, by omega, by omega, .inr (.inr h2)⟩
   have T118 := HD (f118_g ⟨⟨A, c, xs⟩, ⟨A2, c2, ls⟩⟩ w4.heap.size ⟨HA, hc, hq⟩ ⟨VA, vc, vx⟩ ⟨PA, pc, px⟩ L w wr hNh.out BW' (fun i hi => ⟨(hcap.out i hi).1, (hqb.out i hi).1, by have h := (hqb.out i hi).2; show hq[i]! ≤ 4611686018427387904; omega, (hcap.out i hi).2.1⟩) kp0 kp1 (by omega) hHo7.out
    (hBU7.out.own hOsX.out.vol (fun g hg => by have h1 := hOslt.out.1 g hg; simp; omega)) (hBU7.out.own hOsX.out.pond (fun g hg => by have h1 := hOslt.out.2.1 g hg; simp; omega)) hql.out hvl.out hpl.out
    (fun g hg => by
     have h1 := hHnew.out g (by cases HA <;> simp [Sl.val, Value.ownBlock] at hg ⊢; exact hg)
     refine ⟨fun e => by have := hOslt.out.1 g e; omega, fun e => by have := hOslt.out.2.1 g e; omega, by omega, hLH g hg⟩)
    (fun g hg => ⟨(hOsX.out.ne g hg).1, by have := hOslt.out.1 g hg; omega, hLV g hg⟩) (fun g hg => ⟨by have := hOslt.out.2.1 g hg; omega, hLP g hg⟩))
   have hSO := HD (show Own1 IV 3 w.heap.size wr ⟨SA, sc, sx⟩ /\ Own1 BV 4 w.heap.size wr ⟨OA, oc, ox⟩ from ⟨hBU7.out.own hOsX.out.set (fun g hg => by have h1 := hOslt.out.2.2.1 g hg; simp; omega), hBU7.out.own hOsX.out.on (fun g hg => by have h1 := hOslt.out.2.2.2 g hg; simp; omega)⟩)
   have hLh := HD hLn
   have hql' := hql.out
   rw [show (⟨HA, hc, hq⟩ : Sl Int).val = .slice HA hx.length hc from by simp only [Sl.val]; rw [hql', hhl2.out]] at T118
   clear hql' hLn
   have hzwr := hBU7.out.size
   go_wp2_with fail
   refine T118.out.mono ?_
   rintro e w8 ⟨b8, hs8, vs8, ps8, rfl, hh8, hv8, hp8, hpt8, hfit8, hOH8, hOV8, hOP8, hBU8, hBl8⟩
   simp only at hh8 hv8 hp8 hpt8 hfit8
   have mn0 : w8.cell? ⟨w.heap.size, 0, none⟩ = some (.slice A xs.length c) := hBU8.cell kn0 (fun h => by have := hLh.out _ h; omega)
   have mn1 : w8.cell? ⟨w.heap.size, 1, none⟩ = some (.slice A2 ls.length c2) := hBU8.cell kn1 (fun h => by have := hLh.out _ h; omega)
   have ms0 : w8.cell? ⟨w.heap.size + 1, 0, none⟩ = some (sv.val) := hBU8.cell ks0 (fun h => by have := hLh.out _ h; omega)
   have ms1 : w8.cell? ⟨w.heap.size + 1, 1, none⟩ = some (sp.val) := hBU8.cell ks1 (fun h => by have := hLh.out _ h; omega)
   have ms2 : w8.cell? ⟨w.heap.size + 1, 2, none⟩ = some (ss.val) := hBU8.cell ks2 (fun h => by have := hLh.out _ h; omega)
   have ms3 : w8.cell? ⟨w.heap.size + 1, 3, none⟩ = some (so.val) := hBU8.cell ks3 (fun h => by have := hLh.out _ h; omega)
   have mu0 : w8.cell? ⟨w.heap.size + 2, 0, none⟩ = some (.slice none 0 0) := hBU8.cell ku0 (fun h => by have := hLh.out _ h; omega)
   have mu1 : w8.cell? ⟨w.heap.size + 2, 1, none⟩ = some (.slice none 0 0) := hBU8.cell ku1 (fun h => by have := hLh.out _ h; omega)
   have mu2 : w8.cell? ⟨w.heap.size + 2, 2, none⟩ = some (.slice none 0 0) := hBU8.cell ku2 (fun h => by have := hLh.out _ h; omega)
   have mu3 : w8.cell? ⟨w.heap.size + 2, 3, none⟩ = some (.slice none 0 0) := hBU8.cell ku3 (fun h => by have := hLh.out _ h; omega)
   have mv0 : w8.cell? ⟨w.heap.size + 3, 0, none⟩ = some (.int .i64 0) := hBU8.cell kv0 (fun h => by have := hLh.out _ h; omega)
   have mv1 : w8.cell? ⟨w.heap.size + 3, 1, none⟩ = some (.int .i64 0) := hBU8.cell kv1 (fun h => by have := hLh.out _ h; omega)
   have mv2 : w8.cell? ⟨w.heap.size + 3, 2, none⟩ = some (.slice none 0 0) := hBU8.cell kv2 (fun h => by have := hLh.out _ h; omega)
   have fmu0 : w8.frozen? ⟨w.heap.size + 2, 0, none⟩ = false := hBU8.fro ku0 fku0 (fun h => by have := hLh.out _ h; omega)
   have fmu1 : w8.frozen? ⟨w.heap.size + 2, 1, none⟩ = false := hBU8.fro ku1 fku1 (fun h => by have := hLh.out _ h; omega)
   have fmu2 : w8.frozen? ⟨w.heap.size + 2, 2, none⟩ = false := hBU8.fro ku2 fku2 (fun h => by have := hLh.out _ h; omega)
   have fmu3 : w8.frozen? ⟨w.heap.size + 2, 3, none⟩ = false := hBU8.fro ku3 fku3 (fun h => by have := hLh.out _ h; omega)
   have fmv0 : w8.frozen? ⟨w.heap.size + 3, 0, none⟩ = false := hBU8.fro kv0 fkv0 (fun h => by have := hLh.out _ h; omega)
   have fmv1 : w8.frozen? ⟨w.heap.size + 3, 1, none⟩ = false := hBU8.fro kv1 fkv1 (fun h => by have := hLh.out _ h; omega)
   have fmv2 : w8.frozen? ⟨w.heap.size + 3, 2, none⟩ = false := hBU8.fro kv2 fkv2 (fun h => by have := hLh.out _ h; omega)
   have mp0 := hBU8.cell kp0 (fun h => by have := hLh.out _ h; omega)
   have mp1 := hBU8.cell kp1 (fun h => by have := hLh.out _ h; omega)
   have mp2 := hBU8.cell kp2 (fun h => by have := hLh.out _ h; omega)
   have mp3 := hBU8.cell kp3 (fun h => by have := hLh.out _ h; omega)
   have fmp0 := hBU8.fro kp0 fkp0 (fun h => by have := hLh.out _ h; omega)
   have fmp1 := hBU8.fro kp1 fkp1 (fun h => by have := hLh.out _ h; omega)
   have fmp2 := hBU8.fro kp2 fkp2 (fun h => by have := hLh.out _ h; omega)
   have fmp3 := hBU8.fro kp3 fkp3 (fun h => by have := hLh.out _ h; omega)
   have mg0 := hBU8.cell hg0 (fun h => by have := hLh.out _ h; omega)
   have mg1 := hBU8.cell hg1 (fun h => by have := hLh.out _ h; omega)
   have mg2 := hBU8.cell hg2 (fun h => by have := hLh.out _ h; omega)
   have fmg0 := hBU8.fro hg0 fg0 (fun h => by have := hLh.out _ h; omega)
   have fmg1 := hBU8.fro hg1 fg1 (fun h => by have := hLh.out _ h; omega)
   have fmg2 := hBU8.fro hg2 fg2 (fun h => by have := hLh.out _ h; omega)
   have hLs := HD (show (∀ g ∈ L, (⟨SA, sc, sx⟩ : Sl Int).val.ownBlock ≠ some g /\ (⟨OA, oc, ox⟩ : Sl Bool).val.ownBlock ≠ some g) from fun g hm => by
    obtain ⟨_, _, _, _, h1 | h1 | h1⟩ := hLh.out g hm
    ·exact ⟨(hOsX.out.ne g h1).2.1, (hOsX.out.ne g h1).2.2⟩
    ·exact ⟨(hOsX.out.ne2 g h1).1, (hOsX.out.ne2 g h1).2⟩
    ·exact ⟨fun e => by have := hOslt.out.2.2.1 g e; omega, fun e => by have := hOslt.out.2.2.2 g e; omega⟩)
   have hS8 := HD (hBU8.own hSO.out.1 (fun g hg hm => (hLs.out g hm).1 hg))
   have hO8 := HD (hBU8.own hSO.out.2 (fun g hg hm => (hLs.out g hm).2 hg))
   have z8 : w6.heap.size < w8.heap.size := by have := hBU8.size; omega
   have hOH := HD hOH8
   have hOV := HD hOV8
   have hOP := HD hOP8
   have hpt := HD hpt8
   have hfit := HD hfit8
   clear kn0 kn1 ks0 ks1 ks2 ks3 ku0 ku1 ku2 ku3 kv0 kv1 kv2 fku0 fku1 fku2 fku3 fkv0 fkv1 fkv2 kp0 kp1 kp2 kp3 fkp0 fkp1 fkp2 fkp3 hg0 hg1 hg2 fg0 fg1 fg2 hOH8 hOV8 hOP8 hpt8 hfit8 hBU8 BW' T118 hzwr
   cases b8
   case false =>
    go_wp2_with fail
    refine (f111_c 5 _).mono ?_
    rintro e wf ⟨rfl, hwf⟩
    have Fu0 : wf.cell? ⟨w.heap.size + 2, 0, none⟩ = some (.slice none 0 0) := hwf.keep mu0
    have Fu1 : wf.cell? ⟨w.heap.size + 2, 1, none⟩ = some (.slice none 0 0) := hwf.keep mu1
    have Fu2 : wf.cell? ⟨w.heap.size + 2, 2, none⟩ = some (.slice none 0 0) := hwf.keep mu2
    have Fu3 : wf.cell? ⟨w.heap.size + 2, 3, none⟩ = some (.slice none 0 0) := hwf.keep mu3
    have Fv0 : wf.cell? ⟨w.heap.size + 3, 0, none⟩ = some (.int .i64 0) := hwf.keep mv0
    have Fv1 : wf.cell? ⟨w.heap.size + 3, 1, none⟩ = some (.int .i64 0) := hwf.keep mv1
    have Fv2 : wf.cell? ⟨w.heap.size + 3, 2, none⟩ = some (.slice none 0 0) := hwf.keep mv2
    have fFu0 : wf.frozen? ⟨w.heap.size + 2, 0, none⟩ = false := hwf.keepF mu0 fmu0
    have fFu1 : wf.frozen? ⟨w.heap.size + 2, 1, none⟩ = false := hwf.keepF mu1 fmu1
    have fFu2 : wf.frozen? ⟨w.heap.size + 2, 2, none⟩ = false := hwf.keepF mu2 fmu2
    have fFu3 : wf.frozen? ⟨w.heap.size + 2, 3, none⟩ = false := hwf.keepF mu3 fmu3
    have fFv0 : wf.frozen? ⟨w.heap.size + 3, 0, none⟩ = false := hwf.keepF mv0 fmv0
    have fFv1 : wf.frozen? ⟨w.heap.size + 3, 1, none⟩ = false := hwf.keepF mv1 fmv1
    have fFv2 : wf.frozen? ⟨w.heap.size + 3, 2, none⟩ = false := hwf.keepF mv2 fmv2
    have hBf : Bl w wf := Bl.trans hBl8 hwf
    clear hwf
    clear mn0 mn1 ms0 ms1 ms2 ms3 mu0 mu1 mu2 mu3 mv0 mv1 mv2 fmu0 fmu1 fmu2 fmu3 fmv0 fmv1 fmv2
    go_wp2_with fail
    have hrs := res_set wf _ (w.heap.size + 2) (w.heap.size + 3) (.slice none 0 0) (.slice none 0 0) (.slice none 0 0) (.slice none 0 0) (.int .i64 0) (.int .i64 0) (.slice none 0 0) rfl (by omega) (by rw [Fu0]; rfl) (by rw [Fu1]; rfl) (by rw [Fu2]; rfl) (by rw [Fu3]; rfl) (by rw [Fv0]; rfl) (by rw [Fv1]; rfl) (by rw [Fv2]; rfl)
    exact ret82 _ _ (w.heap.size + 2) (w.heap.size + 3) _ _ _ _ _ _ _ _ _ rfl rfl rfl hrs (RStep.no (by omega) (Bl.setCell (Bl.setCell (Bl.setCell (Bl.setCell (Bl.setCell (Bl.setCell (Bl.setCell hBf (by simp only; omega) _) (by simp only; omega) _) (by simp only; omega) _) (by simp only; omega) _) (by simp only; omega) _) (by simp only; omega) _) (by simp only; omega) _))
   have T119 := f119_c ⟨⟨A, c, xs⟩, ⟨A2, c2, ls⟩⟩ l ⟨⟨VA, vc, vs8⟩, ⟨PA, pc, ps8⟩, ⟨SA, sc, sx⟩, ⟨OA, oc, ox⟩⟩ sec w8 (InNet.up hNh.out hBl8) (InSecs.up hlh.out hBl8)
    ⟨Own1.ok hOV.out (by have := hxl.out; simp only; omega) (fun _ _ => trivial), Own1.ok hOP.out (by have := hxl.out; simp only; omega) (fun _ _ => trivial), Own1.ok hS8.out (by have h1 := hsxh.out; have h2 := hokh.out.2.2.2.1; have h3 := hll.out; simp only at h1 h2 ⊢; rw [h1]; omega) (fun _ _ => trivial), Own1.ok hO8.out (by have h1 := hoxh.out; have h2 := hokh.out.2.2.2.2.1; have h3 := hll.out; simp only at h1 h2 ⊢; rw [h1]; omega) (fun _ _ => trivial)⟩ hll.out
   rw [show (⟨⟨VA, vc, vs8⟩, ⟨PA, pc, ps8⟩, ⟨SA, sc, sx⟩, ⟨OA, oc, ox⟩⟩ : St).val = .agg #[.slice VA vx.length vc, .slice PA px.length pc, .slice SA sx.length sc, .slice OA ox.length oc] from by have h1 := hvl.out; have h2 := hpl.out; simp only [St.val, Sl.val]; rw [hv8, hp8, h1, h2]] at T119
   have T119 := HD T119
   have hh8h := HD hh8
   have hv8h := HD hv8
   have hp8h := HD hp8
   clear hh8 hv8 hp8
   go_wp2_with fail
   refine T119.out.mono ?_
   rintro e w9 ⟨⟨WA, wc, wx⟩, ⟨NA, nc, nx⟩, q9, he, ⟨hw, hwn⟩, ⟨ho, hon⟩, hq9, hw9⟩
   obtain rfl : e = .returned (.tuple #[.slice WA wx.length wc, .slice NA nx.length nc, .int .i64 q9]) := he
   have on0 : w9.cell? ⟨w.heap.size, 0, none⟩ = some (.slice A xs.length c) := hw9.keep mn0
   have on1 : w9.cell? ⟨w.heap.size, 1, none⟩ = some (.slice A2 ls.length c2) := hw9.keep mn1
   have os0 : w9.cell? ⟨w.heap.size + 1, 0, none⟩ = some (sv.val) := hw9.keep ms0
   have os1 : w9.cell? ⟨w.heap.size + 1, 1, none⟩ = some (sp.val) := hw9.keep ms1
   have os2 : w9.cell? ⟨w.heap.size + 1, 2, none⟩ = some (ss.val) := hw9.keep ms2
   have os3 : w9.cell? ⟨w.heap.size + 1, 3, none⟩ = some (so.val) := hw9.keep ms3
   have ou0 : w9.cell? ⟨w.heap.size + 2, 0, none⟩ = some (.slice none 0 0) := hw9.keep mu0
   have ou1 : w9.cell? ⟨w.heap.size + 2, 1, none⟩ = some (.slice none 0 0) := hw9.keep mu1
   have ou2 : w9.cell? ⟨w.heap.size + 2, 2, none⟩ = some (.slice none 0 0) := hw9.keep mu2
   have ou3 : w9.cell? ⟨w.heap.size + 2, 3, none⟩ = some (.slice none 0 0) := hw9.keep mu3
   have ov0 : w9.cell? ⟨w.heap.size + 3, 0, none⟩ = some (.int .i64 0) := hw9.keep mv0
   have ov1 : w9.cell? ⟨w.heap.size + 3, 1, none⟩ = some (.int .i64 0) := hw9.keep mv1
   have ov2 : w9.cell? ⟨w.heap.size + 3, 2, none⟩ = some (.slice none 0 0) := hw9.keep mv2
   have fou0 : w9.frozen? ⟨w.heap.size + 2, 0, none⟩ = false := hw9.keepF mu0 fmu0
   have fou1 : w9.frozen? ⟨w.heap.size + 2, 1, none⟩ = false := hw9.keepF mu1 fmu1
   have fou2 : w9.frozen? ⟨w.heap.size + 2, 2, none⟩ = false := hw9.keepF mu2 fmu2
   have fou3 : w9.frozen? ⟨w.heap.size + 2, 3, none⟩ = false := hw9.keepF mu3 fmu3
   have fov0 : w9.frozen? ⟨w.heap.size + 3, 0, none⟩ = false := hw9.keepF mv0 fmv0
   have fov1 : w9.frozen? ⟨w.heap.size + 3, 1, none⟩ = false := hw9.keepF mv1 fmv1
   have fov2 : w9.frozen? ⟨w.heap.size + 3, 2, none⟩ = false := hw9.keepF mv2 fmv2
   have op0 := hw9.keep mp0
   have op1 := hw9.keep mp1
   have op2 := hw9.keep mp2
   have op3 := hw9.keep mp3
   have fop0 := hw9.keepF mp0 fmp0
   have fop1 := hw9.keepF mp1 fmp1
   have fop2 := hw9.keepF mp2 fmp2
   have fop3 := hw9.keepF mp3 fmp3
   have og0 := hw9.keep mg0
   have og1 := hw9.keep mg1
   have og2 := hw9.keep mg2
   have fog0 := hw9.keepF mg0 fmg0
   have fog1 := hw9.keepF mg1 fmg1
   have fog2 := hw9.keepF mg2 fmg2
   have hB9 : Bl w w9 := hBl8.trans hw9
   have z9 : w6.heap.size < w9.heap.size := by have := hw9.size; omega
   have hOH9 := HD (hOH.out.bl hw9)
   have hOV9 := HD (hOV.out.bl hw9)
   have hOP9 := HD (hOP.out.bl hw9)
   have hS9 := HD (hS8.out.bl hw9)
   have hwI := HD hw
   have hoI := HD ho
   have hwN := HD (show ∀ g, (⟨WA, wc, wx⟩ : Sl Int).val.ownBlock = some g -> w8.heap.size ≤ g from hwn)
   have hoN := HD (show ∀ g, (⟨NA, nc, nx⟩ : Sl Bool).val.ownBlock = some g -> w8.heap.size ≤ g from hon)
   have hq9h := HD hq9
   have hw8z := hw9.size
   clear mn0 mn1 ms0 ms1 ms2 ms3 mu0 mu1 mu2 mu3 mv0 mv1 mv2 fmu0 fmu1 fmu2 fmu3 fmv0 fmv1 fmv2 mp0 mp1 mp2 mp3 fmp0 fmp1 fmp2 fmp3 mg0 mg1 mg2 fmg0 fmg1 fmg2 hw hwn ho hon hq9 hw9 hOH hOV hOP hS8 hO8 hBl8 T119
   by_cases hz9 : q9 = 0
   case neg =>
    have hz9b : (q9 != 0) = true := by simpa using hz9
    go_wp2_with fail
    refine (f111_c q9 _).mono ?_
    rintro e wf ⟨rfl, hwf⟩
    have Fu0 : wf.cell? ⟨w.heap.size + 2, 0, none⟩ = some (.slice none 0 0) := hwf.keep ou0
    have Fu1 : wf.cell? ⟨w.heap.size + 2, 1, none⟩ = some (.slice none 0 0) := hwf.keep ou1
    have Fu2 : wf.cell? ⟨w.heap.size + 2, 2, none⟩ = some (.slice none 0 0) := hwf.keep ou2
    have Fu3 : wf.cell? ⟨w.heap.size + 2, 3, none⟩ = some (.slice none 0 0) := hwf.keep ou3
    have Fv0 : wf.cell? ⟨w.heap.size + 3, 0, none⟩ = some (.int .i64 0) := hwf.keep ov0
    have Fv1 : wf.cell? ⟨w.heap.size + 3, 1, none⟩ = some (.int .i64 0) := hwf.keep ov1
    have Fv2 : wf.cell? ⟨w.heap.size + 3, 2, none⟩ = some (.slice none 0 0) := hwf.keep ov2
    have fFu0 : wf.frozen? ⟨w.heap.size + 2, 0, none⟩ = false := hwf.keepF ou0 fou0
    have fFu1 : wf.frozen? ⟨w.heap.size + 2, 1, none⟩ = false := hwf.keepF ou1 fou1
    have fFu2 : wf.frozen? ⟨w.heap.size + 2, 2, none⟩ = false := hwf.keepF ou2 fou2
    have fFu3 : wf.frozen? ⟨w.heap.size + 2, 3, none⟩ = false := hwf.keepF ou3 fou3
    have fFv0 : wf.frozen? ⟨w.heap.size + 3, 0, none⟩ = false := hwf.keepF ov0 fov0
    have fFv1 : wf.frozen? ⟨w.heap.size + 3, 1, none⟩ = false := hwf.keepF ov1 fov1
    have fFv2 : wf.frozen? ⟨w.heap.size + 3, 2, none⟩ = false := hwf.keepF ov2 fov2
    have hBf : Bl w wf := Bl.trans hB9 hwf
    clear hwf
    clear on0 on1 os0 os1 os2 os3 ou0 ou1 ou2 ou3 ov0 ov1 ov2 fou0 fou1 fou2 fou3 fov0 fov1 fov2
    go_wp2_with fail
    have hrs := res_set wf _ (w.heap.size + 2) (w.heap.size + 3) (.slice none 0 0) (.slice none 0 0) (.slice none 0 0) (.slice none 0 0) (.int .i64 0) (.int .i64 0) (.slice none 0 0) rfl (by omega) (by rw [Fu0]; rfl) (by rw [Fu1]; rfl) (by rw [Fu2]; rfl) (by rw [Fu3]; rfl) (by rw [Fv0]; rfl) (by rw [Fv1]; rfl) (by rw [Fv2]; rfl)
    exact ret82 _ _ (w.heap.size + 2) (w.heap.size + 3) _ _ _ _ _ _ _ _ _ rfl rfl rfl hrs (RStep.no hz9 (Bl.setCell (Bl.setCell (Bl.setCell (Bl.setCell (Bl.setCell (Bl.setCell (Bl.setCell hBf (by simp only; omega) _) (by simp only; omega) _) (by simp only; omega) _) (by simp only; omega) _) (by simp only; omega) _) (by simp only; omega) _) (by simp only; omega) _))
   subst hz9
   have hB10 : Bl w (w9.setCell ⟨w4.heap.size, 3, none⟩ (.slice NA nx.length nc)) := Bl.setCell hB9 (by simp only; omega) _
   have hu10 : But [w4.heap.size, w6.heap.size] w9 (w9.setCell ⟨w4.heap.size, 3, none⟩ (.slice NA nx.length nc)) := (But.refl _ _).set _ _ (.inl (by simp))
   have xn0 := hu10.cell on0 (by simp; omega)
   have xn1 := hu10.cell on1 (by simp; omega)
   have hHne := HD (show ∀ g, HA.map (·.block) = some g -> W5.heap.size ≤ g /\ g < w6.heap.size from fun g hg => ⟨hHnew.out g (by cases HA <;> simp [Sl.val, Value.ownBlock] at hg ⊢; exact hg), hHlt.out g hg⟩)
   have hHob := HD (show ∀ (hs9 : List Int) g, (⟨HA, hc, hs9⟩ : Sl Int).val.ownBlock = some g -> g ∉ [w4.heap.size, w6.heap.size] from fun hs9 g hg hm => by
    have h1 := hHne.out g (by cases HA <;> simp [Sl.val, Value.ownBlock] at hg ⊢; exact hg)
    simp at hm; omega)
   have hVob := HD (show ∀ (vs9 : List Int) g, (⟨VA, vc, vs9⟩ : Sl Int).val.ownBlock = some g -> g ∉ [w4.heap.size, w6.heap.size] /\ (∀ g', HA.map (·.block) = some g' -> g ≠ g') from fun vs9 g hg => by
    have h1 := hOslt.out.1 g (by cases VA <;> simp [Sl.val, Value.ownBlock] at hg ⊢; exact hg)
    exact ⟨fun hm => by simp at hm; omega, fun g' hg' => by have := hHne.out g' hg'; omega⟩)
   have hPob := HD (show ∀ (vs9 : List Int) g, (⟨PA, pc, vs9⟩ : Sl Int).val.ownBlock = some g -> g ∉ [w4.heap.size, w6.heap.size] /\ (∀ g', HA.map (·.block) = some g' -> g ≠ g') from fun vs9 g hg => by
    have h1 := hOslt.out.2.1 g (by cases PA <;> simp [Sl.val, Value.ownBlock] at hg ⊢; exact hg)
    exact ⟨fun hm => by simp at hm; omega, fun g' hg' => by have := hHne.out g' hg'; omega⟩)
   have hOH10 := HD (hu10.own hOH9.out (hHob.out _))
   have xp0 : (w9.setCell ⟨w4.heap.size, 3, none⟩ (.slice NA nx.length nc)).cell? ⟨w4.heap.size, 0, none⟩ = some (.slice VA vx.length vc) := (setOff (by decide)).trans op0
   have xp1 : (w9.setCell ⟨w4.heap.size, 3, none⟩ (.slice NA nx.length nc)).cell? ⟨w4.heap.size, 1, none⟩ = some (.slice PA px.length pc) := (setOff (by decide)).trans op1
   have xp2 : (w9.setCell ⟨w4.heap.size, 3, none⟩ (.slice NA nx.length nc)).cell? ⟨w4.heap.size, 2, none⟩ = some (.slice SA sx.length sc) := (setOff (by decide)).trans op2
   have xp3 : (w9.setCell ⟨w4.heap.size, 3, none⟩ (.slice NA nx.length nc)).cell? ⟨w4.heap.size, 3, none⟩ = some (.slice NA nx.length nc) := setSame (by rw [op3]; rfl)
   have hqq := HD (hq9h.out (by first | rfl | trivial))
   have hs8b := HD (fun i (hi : i < xs.length) => show hs8[i]! = (if kd xs i = 3 then 0 else hq[i]!) /\ 0 ≤ hs8[i]! /\ hs8[i]! ≤ 4503599627370496 from by
    have h1 := (hpt.out i hi).1
    have h2 := hqb.out i hi
    have h3 : heldF xs hq i = if kd xs i = 3 then 0 else hq[i]! := rfl
    rw [h3] at h1
    refine ⟨h1, ?_⟩
    split at h1 <;> omega)
   have hwx := HD hqq.out.1
   have T120 := f120_c ⟨⟨A, c, xs⟩, ⟨A2, c2, ls⟩⟩ ⟨HA, hc, hs8⟩ ⟨WA, wc, wx⟩ (w9.setCell ⟨w4.heap.size, 3, none⟩ (.slice NA nx.length nc)) (InNet.up hNh.out hB10) hokh.out.1 (Own1.ok hOH10.out (by have := hxl.out; have := hh8h.out; simp only; omega) (fun _ _ => trivial)) (OkT.but hwI.out hu10 (fun g hg => by have := hwN.out g hg; simp; omega)) hwx.out hh8h.out
    (fun i hi => by have h1 := hs8b.out i (by have := hh8h.out; simp only at hi; omega); show 0 ≤ hs8[i]! /\ hs8[i]! ≤ _; omega)
    (fun k hk => by simp only at hk ⊢; rw [getElem!_pos wx k hk]; exact hqq.out.2.1 _ (List.getElem_mem _))
   rw [show (⟨HA, hc, hs8⟩ : Sl Int).val = .slice HA hx.length hc from by have h1 := hh8h.out; have h2 := hhl2.out; simp only [Sl.val]; rw [h1, h2]] at T120
   have T120 := HD T120
   have z10 : w6.heap.size < (w9.setCell ⟨w4.heap.size, 3, none⟩ (.slice NA nx.length nc)).heap.size := by simp; omega
   have xg2 : (w9.setCell ⟨w4.heap.size, 3, none⟩ (.slice NA nx.length nc)).cell? ⟨w6.heap.size, 2, none⟩ = some (.slice none 0 0) := (setBlk' (by omega)).trans og2
   have fxg2 : (w9.setCell ⟨w4.heap.size, 3, none⟩ (.slice NA nx.length nc)).frozen? ⟨w6.heap.size, 2, none⟩ = false := by simp [go_sem, fog2]
   have xg0 : (w9.setCell ⟨w4.heap.size, 3, none⟩ (.slice NA nx.length nc)).cell? ⟨w6.heap.size, 0, none⟩ = some (.int .i64 gi) := (setBlk' (by omega)).trans og0
   have xg1 : (w9.setCell ⟨w4.heap.size, 3, none⟩ (.slice NA nx.length nc)).cell? ⟨w6.heap.size, 1, none⟩ = some (.int .i64 go) := (setBlk' (by omega)).trans og1
   have fxg0 : (w9.setCell ⟨w4.heap.size, 3, none⟩ (.slice NA nx.length nc)).frozen? ⟨w6.heap.size, 0, none⟩ = false := by simp [go_sem, fog0]
   have fxg1 : (w9.setCell ⟨w4.heap.size, 3, none⟩ (.slice NA nx.length nc)).frozen? ⟨w6.heap.size, 1, none⟩ = false := by simp [go_sem, fog1]
   go_wp2_with fail
   refine T120.out.mono ?_
   rintro e w10 ⟨⟨QA, qc, qx⟩, he, ⟨hQI, hQN⟩, hLI, hw10⟩
   obtain rfl : e = .returned (.slice QA qx.length qc) := he
   have rg0 := hw10.keep xg0
   have rp0 := hw10.keep xp0
   have rp1 := hw10.keep xp1
   have rp2 := hw10.keep xp2
   have rp3 := hw10.keep xp3
   have rg1 := hw10.keep xg1
   have rg2 := hw10.keep xg2
   have frg0 := hw10.keepF xg0 fxg0
   have frg1 := hw10.keepF xg1 fxg1
   have frg2 := hw10.keepF xg2 fxg2
   have z10' : w6.heap.size < w10.heap.size := by have := hw10.size; omega
   have yp0 : (w10.setCell ⟨w6.heap.size, 2, none⟩ (.slice QA qx.length qc)).cell? ⟨w4.heap.size, 0, none⟩ = some (.slice VA vx.length vc) := (setBlk' (by omega)).trans rp0
   have yp1 : (w10.setCell ⟨w6.heap.size, 2, none⟩ (.slice QA qx.length qc)).cell? ⟨w4.heap.size, 1, none⟩ = some (.slice PA px.length pc) := (setBlk' (by omega)).trans rp1
   have yp2 : (w10.setCell ⟨w6.heap.size, 2, none⟩ (.slice QA qx.length qc)).cell? ⟨w4.heap.size, 2, none⟩ = some (.slice SA sx.length sc) := (setBlk' (by omega)).trans rp2
   have yp3 : (w10.setCell ⟨w6.heap.size, 2, none⟩ (.slice QA qx.length qc)).cell? ⟨w4.heap.size, 3, none⟩ = some (.slice NA nx.length nc) := (setBlk' (by omega)).trans rp3
   have yg0 : (w10.setCell ⟨w6.heap.size, 2, none⟩ (.slice QA qx.length qc)).cell? ⟨w6.heap.size, 0, none⟩ = some (.int .i64 gi) := (setOff (by decide)).trans rg0
   have yg1 : (w10.setCell ⟨w6.heap.size, 2, none⟩ (.slice QA qx.length qc)).cell? ⟨w6.heap.size, 1, none⟩ = some (.int .i64 go) := (setOff (by decide)).trans rg1
   have yg2 : (w10.setCell ⟨w6.heap.size, 2, none⟩ (.slice QA qx.length qc)).cell? ⟨w6.heap.size, 2, none⟩ = some (.slice QA qx.length qc) := setSame (by rw [rg2]; rfl)
   have fyg0 : (w10.setCell ⟨w6.heap.size, 2, none⟩ (.slice QA qx.length qc)).frozen? ⟨w6.heap.size, 0, none⟩ = false := by simp [go_sem, frg0]
   have fyg1 : (w10.setCell ⟨w6.heap.size, 2, none⟩ (.slice QA qx.length qc)).frozen? ⟨w6.heap.size, 1, none⟩ = false := by simp [go_sem, frg1]
   have fyg2 : (w10.setCell ⟨w6.heap.size, 2, none⟩ (.slice QA qx.length qc)).frozen? ⟨w6.heap.size, 2, none⟩ = false := by simp [go_sem, frg2]
   have hB11 : Bl w (w10.setCell ⟨w6.heap.size, 2, none⟩ (.slice QA qx.length qc)) := Bl.setCell (hB10.trans hw10) (by simp only; omega) _
   have hv11 : But [w4.heap.size, w6.heap.size] w10 (w10.setCell ⟨w6.heap.size, 2, none⟩ (.slice QA qx.length qc)) := (But.refl _ _).set _ _ (.inl (by simp))
   have hu11 := HD ((hu10.trans (But.of hw10)).trans hv11)
   have yn0 := hu11.out.cell on0 (by simp; omega)
   have yn1 := hu11.out.cell on1 (by simp; omega)
   have hQ11 := HD (OkT.but hQI hv11 (fun g hg => by have := hQN g hg; simp at this ⊢; omega))
   have hQN11 := HD (show ∀ g, (⟨QA, qc, qx⟩ : Sl Int).val.ownBlock = some g -> w9.heap.size ≤ g from fun g hg => by have := hQN g hg; simp at this; exact this)
   have hOH11 := HD (hv11.own (hOH10.out.bl hw10) (hHob.out _))
   have hLIh := HD hLI
   have z11 : w6.heap.size < (w10.setCell ⟨w6.heap.size, 2, none⟩ (.slice QA qx.length qc)).heap.size := by simp; omega
   have T121 := HD (f121_c ⟨⟨A, c, xs⟩, ⟨A2, c2, ls⟩⟩ (w10.setCell ⟨w6.heap.size, 2, none⟩ (.slice QA qx.length qc)) (InNet.up hNh.out hB11) hokh.out.1)
   go_wp2_with fail
   clear xp0 xp1 xp2 xp3 rp0 rp1 rp2 rp3 xn0 xn1 xg0 xg1 xg2 fxg0 fxg1 fxg2 rg0 rg1 rg2 frg0 frg1 frg2 hQI hQN hLI T120 hB10 hu10 hv11 hOH10 z10 z10'
   generalize (w10.setCell ⟨w6.heap.size, 2, none⟩ (.slice QA qx.length qc)) = X11 at *
   refine T121.out.mono ?_
   rintro e w11 ⟨⟨GA, gc, gx⟩, ⟨EA, ec, ex⟩, he, _, ⟨hE, hEN⟩, _, _, hex, hw11⟩
   obtain rfl : e = .returned (.tuple #[.slice GA gx.length gc, .slice EA ex.length ec]) := he
   simp only at hex
   have zn0 := hw11.keep yn0
   have zn1 := hw11.keep yn1
   have zp0 := hw11.keep yp0
   have zp1 := hw11.keep yp1
   have zp2 := hw11.keep yp2
   have zp3 := hw11.keep yp3
   have zg0 := hw11.keep yg0
   have zg1 := hw11.keep yg1
   have zg2 := hw11.keep yg2
   have fzg0 := hw11.keepF yg0 fyg0
   have fzg1 := hw11.keepF yg1 fyg1
   have fzg2 := hw11.keepF yg2 fyg2
   have hB12 : Bl w w11 := hB11.trans hw11
   have hu12 := HD (hu11.out.trans (But.of hw11))
   have hQ12 := HD (InI.up (s := ⟨QA, qc, qx⟩) hQ11.out hw11)
   have hOH12 := HD (hOH11.out.bl hw11)
   have hE12 := HD hE
   have hEN12 := HD (show ∀ g, (⟨EA, ec, ex⟩ : Sl (Int × Int)).val.ownBlock = some g -> w6.heap.size < g from fun g hg => by have := hEN g hg; omega)
   have hexh := HD hex
   have z12 : w6.heap.size < w11.heap.size := by have := hw11.size; omega
   have hw11z := hu12.out.size
   have hqr := hQ12.out.room
   simp only at hqr
   clear yp0 yp1 yp2 yp3 yn0 yn1 yg0 yg1 yg2 fyg0 fyg1 fyg2 hB11 hu11 hQ11 hOH11 hE hEN hex hw11 T121 z11
   have hql2 := HD (show qx.length = ls.length from hLIh.out.1.trans hwx.out)
   have hexl := HD (show ex.length = ls.length by rw [hexh.out]; simp [edgesN])
   have hends := HD (fun k (hk : k < ls.length) => show ∃ a d : Nat, a < xs.length /\ d < xs.length /\ (ex[k]!).1 = (a : Int) /\ (ex[k]!).2 = (d : Int) from by
    have he := lk_ends hokh.out.1 k hk
    have h1 : ex[k]! = (ndIx ⟨⟨A, c, xs⟩, ⟨A2, c2, ls⟩⟩ ls[k].src, ndIx ⟨⟨A, c, xs⟩, ⟨A2, c2, ls⟩⟩ ls[k].dst) := by
     rw [getElem!_pos ex k (by have := hexl.out; omega)]
     simp only [hexh.out, edgesN, List.getElem_map]
    rcases ix_range (fun y : Nd => y.name == ls[k].src) xs with h | ⟨a, ha, hI⟩
    ·exact absurd he.1 (by unfold ndIx; simp only at h ⊢; omega)
    rcases ix_range (fun y : Nd => y.name == ls[k].dst) xs with h | ⟨d, hd, hJ⟩
    ·exact absurd he.2 (by unfold ndIx; simp only at h ⊢; omega)
    exact ⟨a, d, ha, hd, by rw [h1]; exact hI, by rw [h1]; exact hJ⟩)
   have hout := HD (fun i (hi : i < xs.length) => show outS ex qx i ls.length ≤ hs8[i]! from by
    have h1 := hLIh.out.2.2.1 i hi
    rw [<- hexh.out, sumAt_outsE] at h1
    have h2 : wx.length = ls.length := hwx.out
    rw [h2] at h1
    exact h1)
   have hp0 := HD (fun k (hk : k < ls.length) => show 0 ≤ qx[k]! from hLIh.out.2.1 k (by have h2 : wx.length = ls.length := hwx.out; omega))
   have hpb := HD (fun k (hk : k < ls.length) => show 0 ≤ qx[k]! /\ qx[k]! ≤ 9007199254740992 from by
    obtain ⟨a, d, ha, hd, h1, h2⟩ := hends.out k hk
    have h3 := pass_le (es := ex) (p := qx) (m := ls.length) hp0.out hk h1
    have h4 := hout.out a ha
    have h5 := (hs8b.out a ha).2
    exact ⟨hp0.out k hk, by omega⟩)
   have hLQ := HD (show ∀ g, (⟨QA, qc, qx⟩ : Sl Int).val.ownBlock = some g -> g ∉ w6.heap.size :: (HA.map (·.block)).toList from fun g hg hm => by
    have h1 := hQN11.out g hg
    simp only [List.mem_cons, Option.mem_toList] at hm
    rcases hm with h | h
    ·omega
    ·have := hHne.out g h; omega)
   have hLE := HD (show ∀ g, (⟨EA, ec, ex⟩ : Sl (Int × Int)).val.ownBlock = some g -> g ∉ w6.heap.size :: (HA.map (·.block)).toList from fun g hg hm => by
    have h1 := hEN12.out g hg
    simp only [List.mem_cons, Option.mem_toList] at hm
    rcases hm with h | h
    ·omega
    ·have := hHne.out g h; omega)
   have hLn := HD (show ∀ g ∈ w6.heap.size :: (HA.map (·.block)).toList, w4.heap.size < g /\ g ≤ w6.heap.size from fun g hm => by
    simp only [List.mem_cons, Option.mem_toList] at hm
    rcases hm with h | h
    ·omega
    ·have := hHne.out g h; omega)
   obtain ⟨L3, hL3⟩ : ∃ L3, L3 = w6.heap.size :: (HA.map (·.block)).toList := ⟨_, rfl⟩
   have hL3m := HD (show w6.heap.size ∈ L3 by rw [hL3]; simp)
   have hL3h := HD (show ∀ g, HA = some ⟨g, 0, none⟩ -> g ∈ L3 from fun g hg => by rw [hL3, hg]; simp)
   rw [<- hL3] at hLQ hLE hLn
   clear hL3
   go_wp2_with fail
   go_loopg [153] qx.length (fun gg s153 wr => ∃ (kk : Nat) (h2 : List Int) (g2 : Int), kk ≤ qx.length /\ qx.length - kk ≤ gg /\ s153 = .int .i64 kk /\ Aside (Bl w wr) /\ Aside (But L3 w11 wr) /\ Aside (wr.cell? ⟨w6.heap.size, 0, none⟩ = some (.int .i64 gi)) /\ Aside (wr.cell? ⟨w6.heap.size, 1, none⟩ = some (.int .i64 g2)) /\ Aside (wr.cell? ⟨w6.heap.size, 2, none⟩ = some (.slice QA qx.length qc)) /\ Aside (wr.frozen? ⟨w6.heap.size, 0, none⟩ = false) /\ Aside (wr.frozen? ⟨w6.heap.size, 1, none⟩ = false) /\ Aside (wr.frozen? ⟨w6.heap.size, 2, none⟩ = false) /\ Aside (Own1 IV 3 w.heap.size wr ⟨HA, hc, h2⟩) /\ Aside (h2.length = xs.length) /\ Aside (∀ i, i < xs.length -> h2[i]! = holdK xs ex qx (fun i => hs8[i]!) kk i) /\ Aside (g2 = go + wentS xs ex qx kk))
   case atStart => exact ⟨0, hs8, go, Nat.zero_le _, by omega, rfl, hB12, But.refl _ _, aside zg0, aside zg1, aside zg2, aside fzg0, aside fzg1, aside fzg2, hOH12.out, hh8h.out, aside (fun i _ => (holdK_zero _ _ _ _ _).symm), aside (by simp [wentS, sumTo])⟩
   case round =>
    clear zg0 zg1 zg2 fzg0 fzg1 fzg2 hOH12 hB12
    obtain ⟨kk, h2, g2, hkk, hg, rfl, BW, BU, C0, C1, C2, F0, F1, F2, OW, HL, HP, GO⟩ := hrel
    have BW' := BW.out
    by_cases hlt : kk < qx.length
    ·have hltz : (kk : Int) < (qx.length : Int) := by omega
     have hkz : (0 : Int) ≤ (kk : Int) := by omega
     have hkl : kk < ls.length := by have := hql2.out; omega
     have C1' := C1.out
     have F1' := F1.out
     have yn0 := BU.out.cell zn0 (fun h => by have := hLn.out _ h; omega)
     obtain ⟨bQ, offQ, hAQ, _, _, hcQ⟩ := (OkT.but hQ12.out BU.out hLQ.out).place (by intro e; simp only at e; rw [e] at hlt; simp at hlt)
     simp only at hAQ hcQ
     subst hAQ
     have eQ : wr.cell? ⟨bQ, offQ + kk, none⟩ = some (.int .i64 (qx[kk]!)) := by
      have := hcQ kk hlt 0 _ rfl
      rw [<- getElem!_pos qx kk hlt, Nat.mul_one] at this
      exact this
     have hke : kk < ex.length := by have := hexl.out; omega
     have hkez : (kk : Int) < (ex.length : Int) := by omega
     obtain ⟨bE, offE, hAE, _, _, hcE⟩ := (OkT.but hE12.out BU.out hLE.out).place (by intro e; simp only at e; rw [e] at hke; simp at hke)
     simp only at hAE hcE
     subst hAE
     obtain ⟨a, d, ha, hd, hea, hed⟩ := hends.out kk hkl
     have eE0 : wr.cell? ⟨bE, offE + kk * 2, none⟩ = some (.int .i64 a) := by
      have := hcE kk hke 0 _ rfl
      rw [<- hea, getElem!_pos ex kk hke]
      exact this
     have eE1 : wr.cell? ⟨bE, offE + kk * 2 + 1, none⟩ = some (.int .i64 d) := by
      have := hcE kk hke 1 _ rfl
      rw [<- hed, getElem!_pos ex kk hke]
      exact this
     have hah : a < h2.length := by have := HL.out; omega
     have hdh : d < h2.length := by have := HL.out; omega
     have haz : (a : Int) < (hx.length : Int) := by have := hhl2.out; omega
     have hdz : (d : Int) < (hx.length : Int) := by have := hhl2.out; omega
     have hdxz : (d : Int) < (xs.length : Int) := by omega
     have ha0 : (0 : Int) ≤ (a : Int) := by omega
     have hd0 : (0 : Int) ≤ (d : Int) := by omega
     obtain ⟨hHA, hghlt⟩ := hgh3h.out (by intro e; rw [e] at haz; simp at haz; omega)
     have hmem := hL3h.out gh hHA
     subst hHA
     have va0 := OW.out.cell a hah
     rw [<- getElem!_pos h2 a hah] at va0
     have eH : wr.cell? ⟨gh, a, none⟩ = some (.int .i64 (h2[a]!)) := va0
     have fH := OW.out.fro a
     obtain ⟨bN, offN, hAN, _, hNb, _⟩ := hNh.out.nodes.place (by intro e; simp only at e; rw [e] at hd; simp at hd)
     simp only at hAN
     subst hAN
     have ek : wr.cell? ⟨bN, offN + d * 9 + 1, none⟩ = some (.int .i64 (kd xs d)) := by
      have := Sl.Ok.cells hNh.out.nodes rfl wr BW' d hd 1 _ rfl
      simp only at this
      unfold kd
      rw [getElem!_pos xs d hd]
      exact this
     have hpk := hpb.out kk hkl
     have hvb : 0 ≤ h2[a]! /\ h2[a]! ≤ 4503599627370496000 := by rw [HP.out a ha]; exact holdK_bound hll.out hpb.out (by omega) ⟨(hs8b.out a ha).2.1, by have := (hs8b.out a ha).2.2; omega⟩ (hout.out a ha)
     have hdb : 0 ≤ h2[d]! /\ h2[d]! ≤ 4503599627370496000 := by rw [HP.out d hd]; exact holdK_bound hll.out hpb.out (by omega) ⟨(hs8b.out d hd).2.1, by have := (hs8b.out d hd).2.2; omega⟩ (hout.out d hd)
     have hgob := cameS_bound (xs := xs) (inf := is) (m := is.length) hib.out (k := is.length) (Nat.le_refl _)
     have hwb := wentS_bound (xs := xs) (es := ex) hpb.out (k := kk) (by omega)
     have hg2 : g2 = go + wentS xs ex qx kk := GO.out
     have hgo2 : go = cameS xs is xs.length := hGO.out
     have hgoz : 0 ≤ go /\ go ≤ 360287970189639680 := by have h1 := hq1h.out; have h2 := hxl.out; rw [h1] at hgob; rw [hgo2]; omega
     have hst := HD (holdK_step (xs := xs) (es := ex) (p := qx) (hA := fun i => hs8[i]!) (k := kk) (a := a) (d := d) hea hed (hq := h2) HL.out HP.out hd)
     have hwent : Hid (wentS xs ex qx (kk + 1) = wentS xs ex qx kk + (if kd xs d = 3 then qx[kk]! else 0)) := by show wentS xs ex qx kk + (if kd xs ((ex[kk]!).2.toNat) = 3 then _ else _) = _; rw [hed, Int.toNat_natCast]
     have hll' := hll.out
     have hg2z : 0 ≤ g2 /\ g2 ≤ 4611686018427387904 := by omega
     have hg2h := HD hg2
     generalize hpv : qx[kk]! = pv at eQ hpk hst hwent
     have hd2 : Hid ((h2.set a (h2[a]! - pv))[d]! = if d = a then h2[a]! - pv else h2[d]!) := get!_set hdh
     have hHLh := HD HL.out
     have hvd : -9007199254740992 ≤ (h2.set a (h2[a]! - pv))[d]! /\ (h2.set a (h2[a]! - pv))[d]! ≤ 4503599627370496000 := by rw [hd2.out]; split <;> omega
     have hws : IntKind.i64.wrap (h2[a]! - pv) = h2[a]! - pv := IntWalk.i64_in _ (by omega)
     have hB1 : Bl w (wr.setCell ⟨gh, a, none⟩ (.int .i64 (h2[a]! - pv))) := Bl.setCell BW' (by simp only; omega) _
     have hU1 : But L3 w11 (wr.setCell ⟨gh, a, none⟩ (.int .i64 (h2[a]! - pv))) := BU.out.set _ _ (.inl hmem)
     have hO1 : Own1 IV 3 w.heap.size (wr.setCell ⟨gh, a, none⟩ (.int .i64 (h2[a]! - pv))) ⟨some ⟨gh, 0, none⟩, hc, h2.set a (h2[a]! - pv)⟩ := OW.out.set a _
     have hngp : w6.heap.size ≠ gh := by omega
     have k0 : (wr.setCell ⟨gh, a, none⟩ (.int .i64 (h2[a]! - pv))).cell? ⟨w6.heap.size, 0, none⟩ = some (.int .i64 gi) := (setBlk' hngp).trans C0.out
     have k1 : (wr.setCell ⟨gh, a, none⟩ (.int .i64 (h2[a]! - pv))).cell? ⟨w6.heap.size, 1, none⟩ = some (.int .i64 g2) := (setBlk' hngp).trans C1'
     have k2 : (wr.setCell ⟨gh, a, none⟩ (.int .i64 (h2[a]! - pv))).cell? ⟨w6.heap.size, 2, none⟩ = some (.slice (some ⟨bQ, offQ, none⟩) qx.length qc) := (setBlk' hngp).trans C2.out
     have kf0 : (wr.setCell ⟨gh, a, none⟩ (.int .i64 (h2[a]! - pv))).frozen? ⟨w6.heap.size, 0, none⟩ = false := by simp [go_sem, F0.out]
     have kf1 : (wr.setCell ⟨gh, a, none⟩ (.int .i64 (h2[a]! - pv))).frozen? ⟨w6.heap.size, 1, none⟩ = false := by simp [go_sem, F1']
     have kf2 : (wr.setCell ⟨gh, a, none⟩ (.int .i64 (h2[a]! - pv))).frozen? ⟨w6.heap.size, 2, none⟩ = false := by simp [go_sem, F2.out]
     have kn0 : (wr.setCell ⟨gh, a, none⟩ (.int .i64 (h2[a]! - pv))).cell? ⟨w.heap.size, 0, none⟩ = some (.slice (some ⟨bN, offN, none⟩) xs.length c) := (setBlk' (by omega)).trans yn0
     have kek : (wr.setCell ⟨gh, a, none⟩ (.int .i64 (h2[a]! - pv))).cell? ⟨bN, offN + d * 9 + 1, none⟩ = some (.int .i64 (kd xs d)) := (setBlk' (by omega)).trans ek
     have kE1 : (wr.setCell ⟨gh, a, none⟩ (.int .i64 (h2[a]! - pv))).cell? ⟨bE, offE + kk * 2 + 1, none⟩ = some (.int .i64 d) := (setBlk' (fun e => by
      have h1 := hLE.out bE rfl
      rw [e] at h1; exact h1 hmem)).trans eE1
     have hvd0 := hO1.cell d (by simpa using hdh)
     rw [<- getElem!_pos (h2.set a (h2[a]! - pv)) d (by simpa using hdh)] at hvd0
     have kd0 : (wr.setCell ⟨gh, a, none⟩ (.int .i64 (h2[a]! - pv))).cell? ⟨gh, d, none⟩ = some (.int .i64 ((h2.set a (h2[a]! - pv))[d]!)) := hvd0
     have kdf := hO1.fro d
     have hO1h := HD hO1
     have hU1h := HD hU1
     clear hcQ hcE va0 hvd0 hO1 hU1 hea hed hg2 hgo2 hgob hwb GO HL HP C0 C1 C2 F0 F1 F2 OW BU hdb
     generalize hh3 : h2.set a (h2[a]! - pv) = h3 at kd0 hvd hst hO1h hd2
     have hh3h := HD hh3
     have h3l := HD (show h3.length = xs.length by rw [<- hh3, List.length_set]; exact hHLh.out)
     clear hh3
     generalize h2[a]! = va at *
     generalize h3[d]! = vd at *
     cases hk : (kd xs d == 3)
     ·have hk3 := HD (show kd xs d ≠ 3 by simpa using hk)
      have hwd : IntKind.i64.wrap (vd + pv) = vd + pv := IntWalk.i64_in _ (by omega)
      have l0 : ((wr.setCell ⟨gh, a, none⟩ (.int .i64 (va - pv))).setCell ⟨gh, d, none⟩ (.int .i64 (vd + pv))).cell? ⟨w6.heap.size, 0, none⟩ = some (.int .i64 gi) := (setBlk' hngp).trans k0
      have l1 : ((wr.setCell ⟨gh, a, none⟩ (.int .i64 (va - pv))).setCell ⟨gh, d, none⟩ (.int .i64 (vd + pv))).cell? ⟨w6.heap.size, 1, none⟩ = some (.int .i64 g2) := (setBlk' hngp).trans k1
      have l2 : ((wr.setCell ⟨gh, a, none⟩ (.int .i64 (va - pv))).setCell ⟨gh, d, none⟩ (.int .i64 (vd + pv))).cell? ⟨w6.heap.size, 2, none⟩ = some (.slice (some ⟨bQ, offQ, none⟩) qx.length qc) := (setBlk' hngp).trans k2
      have lf0 : ((wr.setCell ⟨gh, a, none⟩ (.int .i64 (va - pv))).setCell ⟨gh, d, none⟩ (.int .i64 (vd + pv))).frozen? ⟨w6.heap.size, 0, none⟩ = false := by simp [go_sem, kf0]
      have lf1 : ((wr.setCell ⟨gh, a, none⟩ (.int .i64 (va - pv))).setCell ⟨gh, d, none⟩ (.int .i64 (vd + pv))).frozen? ⟨w6.heap.size, 1, none⟩ = false := by simp [go_sem, kf1]
      have lf2 : ((wr.setCell ⟨gh, a, none⟩ (.int .i64 (va - pv))).setCell ⟨gh, d, none⟩ (.int .i64 (vd + pv))).frozen? ⟨w6.heap.size, 2, none⟩ = false := by simp [go_sem, kf2]
      have hB2 : Bl w ((wr.setCell ⟨gh, a, none⟩ (.int .i64 (va - pv))).setCell ⟨gh, d, none⟩ (.int .i64 (vd + pv))) := Bl.setCell hB1 (by simp only; omega) _
      have hU2 := HD (show But L3 w11 ((wr.setCell ⟨gh, a, none⟩ (.int .i64 (va - pv))).setCell ⟨gh, d, none⟩ (.int .i64 (vd + pv))) from hU1h.out.set _ _ (.inl hmem))
      have hO2 := HD (show Own1 IV 3 w.heap.size ((wr.setCell ⟨gh, a, none⟩ (.int .i64 (va - pv))).setCell ⟨gh, d, none⟩ (.int .i64 (vd + pv))) ⟨some ⟨gh, 0, none⟩, hc, h3.set d (vd + pv)⟩ from hO1h.out.set d _)
      have hL2 := HD (show (h3.set d (vd + pv)).length = xs.length by rw [List.length_set]; exact h3l.out)
      have hP2 := HD (hst.out.2 hk3.out)
      have hG2 := HD (show g2 = go + wentS xs ex qx (kk + 1) by rw [hwent.out, if_neg hk3.out, hg2h.out]; omega)
      go_wp2_with fail
      go_roundg (qx.length - (kk + 1))
      case measure => omega
      case rel => exact ⟨kk + 1, _, g2, by omega, by omega, by go_num, hB2, hU2.out, l0, l1, l2, lf0, lf1, lf2, hO2.out, hL2.out, hP2.out, hG2.out⟩
     ·have hk3 := HD (show kd xs d = 3 by simpa using hk)
      have hwd : IntKind.i64.wrap (g2 + pv) = g2 + pv := IntWalk.i64_in _ (by omega)
      have l0 : ((wr.setCell ⟨gh, a, none⟩ (.int .i64 (va - pv))).setCell ⟨w6.heap.size, 1, none⟩ (.int .i64 (g2 + pv))).cell? ⟨w6.heap.size, 0, none⟩ = some (.int .i64 gi) := (setOff (by decide)).trans k0
      have l1 : ((wr.setCell ⟨gh, a, none⟩ (.int .i64 (va - pv))).setCell ⟨w6.heap.size, 1, none⟩ (.int .i64 (g2 + pv))).cell? ⟨w6.heap.size, 1, none⟩ = some (.int .i64 (g2 + pv)) := setSame (by rw [k1]; rfl)
      have l2 : ((wr.setCell ⟨gh, a, none⟩ (.int .i64 (va - pv))).setCell ⟨w6.heap.size, 1, none⟩ (.int .i64 (g2 + pv))).cell? ⟨w6.heap.size, 2, none⟩ = some (.slice (some ⟨bQ, offQ, none⟩) qx.length qc) := (setOff (by decide)).trans k2
      have lf0 : ((wr.setCell ⟨gh, a, none⟩ (.int .i64 (va - pv))).setCell ⟨w6.heap.size, 1, none⟩ (.int .i64 (g2 + pv))).frozen? ⟨w6.heap.size, 0, none⟩ = false := by simp [go_sem, kf0]
      have lf1 : ((wr.setCell ⟨gh, a, none⟩ (.int .i64 (va - pv))).setCell ⟨w6.heap.size, 1, none⟩ (.int .i64 (g2 + pv))).frozen? ⟨w6.heap.size, 1, none⟩ = false := by simp [go_sem, kf1]
      have lf2 : ((wr.setCell ⟨gh, a, none⟩ (.int .i64 (va - pv))).setCell ⟨w6.heap.size, 1, none⟩ (.int .i64 (g2 + pv))).frozen? ⟨w6.heap.size, 2, none⟩ = false := by simp [go_sem, kf2]
      have hB2 : Bl w ((wr.setCell ⟨gh, a, none⟩ (.int .i64 (va - pv))).setCell ⟨w6.heap.size, 1, none⟩ (.int .i64 (g2 + pv))) := Bl.setCell hB1 (by simp only; omega) _
      have hU2 := HD (show But L3 w11 ((wr.setCell ⟨gh, a, none⟩ (.int .i64 (va - pv))).setCell ⟨w6.heap.size, 1, none⟩ (.int .i64 (g2 + pv))) from hU1h.out.set _ _ (.inl hL3m.out))
      have hO2 := HD (show Own1 IV 3 w.heap.size ((wr.setCell ⟨gh, a, none⟩ (.int .i64 (va - pv))).setCell ⟨w6.heap.size, 1, none⟩ (.int .i64 (g2 + pv))) ⟨some ⟨gh, 0, none⟩, hc, h3⟩ from hO1h.out.other (by simp [Sl.val, Value.ownBlock]; omega) _)
      have hP2 := HD (hst.out.1 hk3.out)
      have hG2 := HD (show g2 + pv = go + wentS xs ex qx (kk + 1) by rw [hwent.out, if_pos hk3.out, hg2h.out]; omega)
      go_wp2_with fail
      go_roundg (qx.length - (kk + 1))
      case measure => omega
      case rel => exact ⟨kk + 1, _, g2 + pv, by omega, by omega, by go_num, hB2, hU2.out, l0, l1, l2, lf0, lf1, lf2, hO2.out, h3l.out, hP2.out, hG2.out⟩
    ·have hltz : ¬ (kk : Int) < (qx.length : Int) := by omega
     have hkm : kk = ls.length := by have := hql2.out; omega
     have hHP := HD (show ∀ i, i < xs.length -> h2[i]! = holdK xs ex qx (fun i => hs8[i]!) ls.length i from by rw [<- hkm]; exact HP.out)
     have hG2 := HD (show g2 = go + wentS xs ex qx ls.length by rw [<- hkm]; exact GO.out)
     have hHL := HD HL.out
     have hhb2 := HD (fun i (hi : i < xs.length) => show 0 ≤ h2[i]! /\ h2[i]! ≤ 4503599627370496000 from by rw [hHP.out i hi]; exact holdK_bound hll.out hpb.out (Nat.le_refl _) ⟨(hs8b.out i hi).2.1, by have := (hs8b.out i hi).2.2; omega⟩ (hout.out i hi))
     have tn0 : wr.cell? ⟨w.heap.size, 0, none⟩ = some (.slice A xs.length c) := BU.out.cell (hu12.out.cell on0 (by simp; omega)) (fun h => by have := hLn.out _ h; omega)
     have tn1 : wr.cell? ⟨w.heap.size, 1, none⟩ = some (.slice A2 ls.length c2) := BU.out.cell (hu12.out.cell on1 (by simp; omega)) (fun h => by have := hLn.out _ h; omega)
     have ts0 : wr.cell? ⟨w.heap.size + 1, 0, none⟩ = some (sv.val) := BU.out.cell (hu12.out.cell os0 (by simp; omega)) (fun h => by have := hLn.out _ h; omega)
     have ts1 : wr.cell? ⟨w.heap.size + 1, 1, none⟩ = some (sp.val) := BU.out.cell (hu12.out.cell os1 (by simp; omega)) (fun h => by have := hLn.out _ h; omega)
     have ts2 : wr.cell? ⟨w.heap.size + 1, 2, none⟩ = some (ss.val) := BU.out.cell (hu12.out.cell os2 (by simp; omega)) (fun h => by have := hLn.out _ h; omega)
     have ts3 : wr.cell? ⟨w.heap.size + 1, 3, none⟩ = some (so.val) := BU.out.cell (hu12.out.cell os3 (by simp; omega)) (fun h => by have := hLn.out _ h; omega)
     have tu0 : wr.cell? ⟨w.heap.size + 2, 0, none⟩ = some (.slice none 0 0) := BU.out.cell (hu12.out.cell ou0 (by simp; omega)) (fun h => by have := hLn.out _ h; omega)
     have tu1 : wr.cell? ⟨w.heap.size + 2, 1, none⟩ = some (.slice none 0 0) := BU.out.cell (hu12.out.cell ou1 (by simp; omega)) (fun h => by have := hLn.out _ h; omega)
     have tu2 : wr.cell? ⟨w.heap.size + 2, 2, none⟩ = some (.slice none 0 0) := BU.out.cell (hu12.out.cell ou2 (by simp; omega)) (fun h => by have := hLn.out _ h; omega)
     have tu3 : wr.cell? ⟨w.heap.size + 2, 3, none⟩ = some (.slice none 0 0) := BU.out.cell (hu12.out.cell ou3 (by simp; omega)) (fun h => by have := hLn.out _ h; omega)
     have tv0 : wr.cell? ⟨w.heap.size + 3, 0, none⟩ = some (.int .i64 0) := BU.out.cell (hu12.out.cell ov0 (by simp; omega)) (fun h => by have := hLn.out _ h; omega)
     have tv1 : wr.cell? ⟨w.heap.size + 3, 1, none⟩ = some (.int .i64 0) := BU.out.cell (hu12.out.cell ov1 (by simp; omega)) (fun h => by have := hLn.out _ h; omega)
     have tv2 : wr.cell? ⟨w.heap.size + 3, 2, none⟩ = some (.slice none 0 0) := BU.out.cell (hu12.out.cell ov2 (by simp; omega)) (fun h => by have := hLn.out _ h; omega)
     have ftu0 : wr.frozen? ⟨w.heap.size + 2, 0, none⟩ = false := BU.out.fro (hu12.out.cell ou0 (by simp; omega)) (hu12.out.fro ou0 fou0 (by simp; omega)) (fun h => by have := hLn.out _ h; omega)
     have ftu1 : wr.frozen? ⟨w.heap.size + 2, 1, none⟩ = false := BU.out.fro (hu12.out.cell ou1 (by simp; omega)) (hu12.out.fro ou1 fou1 (by simp; omega)) (fun h => by have := hLn.out _ h; omega)
     have ftu2 : wr.frozen? ⟨w.heap.size + 2, 2, none⟩ = false := BU.out.fro (hu12.out.cell ou2 (by simp; omega)) (hu12.out.fro ou2 fou2 (by simp; omega)) (fun h => by have := hLn.out _ h; omega)
     have ftu3 : wr.frozen? ⟨w.heap.size + 2, 3, none⟩ = false := BU.out.fro (hu12.out.cell ou3 (by simp; omega)) (hu12.out.fro ou3 fou3 (by simp; omega)) (fun h => by have := hLn.out _ h; omega)
     have ftv0 : wr.frozen? ⟨w.heap.size + 3, 0, none⟩ = false := BU.out.fro (hu12.out.cell ov0 (by simp; omega)) (hu12.out.fro ov0 fov0 (by simp; omega)) (fun h => by have := hLn.out _ h; omega)
     have ftv1 : wr.frozen? ⟨w.heap.size + 3, 1, none⟩ = false := BU.out.fro (hu12.out.cell ov1 (by simp; omega)) (hu12.out.fro ov1 fov1 (by simp; omega)) (fun h => by have := hLn.out _ h; omega)
     have ftv2 : wr.frozen? ⟨w.heap.size + 3, 2, none⟩ = false := BU.out.fro (hu12.out.cell ov2 (by simp; omega)) (hu12.out.fro ov2 fov2 (by simp; omega)) (fun h => by have := hLn.out _ h; omega)
     have tp0 := BU.out.cell zp0 (fun h => by have := hLn.out _ h; omega)
     have tp1 := BU.out.cell zp1 (fun h => by have := hLn.out _ h; omega)
     have tp2 := BU.out.cell zp2 (fun h => by have := hLn.out _ h; omega)
     have tp3 := BU.out.cell zp3 (fun h => by have := hLn.out _ h; omega)
     have tg0 := C0.out
     have tg1 := C1.out
     have tg2 := C2.out
     have hLnV := HD (show ∀ (vs9 : List Int) g, (⟨VA, vc, vs9⟩ : Sl Int).val.ownBlock = some g -> g ∉ L3 from fun vs9 g hg hm => by
      have h1 := hOslt.out.1 g (by cases VA <;> simp [Sl.val, Value.ownBlock] at hg ⊢; exact hg)
      have := hLn.out g hm; omega)
     have hLnP := HD (show ∀ (vs9 : List Int) g, (⟨PA, pc, vs9⟩ : Sl Int).val.ownBlock = some g -> g ∉ L3 from fun vs9 g hg hm => by
      have h1 := hOslt.out.2.1 g (by cases PA <;> simp [Sl.val, Value.ownBlock] at hg ⊢; exact hg)
      have := hLn.out g hm; omega)
     have hOV12 := HD (BU.out.own (hu12.out.own hOV9.out (fun g hg => (hVob.out _ g hg).1)) (hLnV.out _))
     have hOP12 := HD (BU.out.own (hu12.out.own hOP9.out (fun g hg => (hPob.out _ g hg).1)) (hLnP.out _))
     have hOS12 := HD (BU.out.own (hu12.out.own hS9.out (fun g hg => by have h1 := hOslt.out.2.2.1 g hg; simp; omega)) (fun g hg hm => by have h1 := hOslt.out.2.2.1 g hg; have := hLn.out g hm; omega))
     have hNI := HD (OkT.but (OkT.but hoI.out hu12.out (fun g hg => by have := hoN.out g hg; simp; omega)) BU.out (fun g hg hm => by have := hoN.out g hg; have := hLn.out g hm; omega))
     have hQI := HD (OkT.but hQ12.out BU.out hLQ.out)
     have hOH13 := HD OW.out
     have T118 := HD (f118_g ⟨⟨A, c, xs⟩, ⟨A2, c2, ls⟩⟩ w4.heap.size ⟨HA, hc, h2⟩ ⟨VA, vc, vs8⟩ ⟨PA, pc, ps8⟩ L w wr hNh.out BW' (fun i hi => ⟨(hcap.out i hi).1, (hhb2.out i hi).1, by have h := (hhb2.out i hi).2; show h2[i]! ≤ 4611686018427387904; omega, (hcap.out i hi).2.1⟩)
      (by have h1 := hvl.out; have h3 := hv8h.out; simp only [Sl.val]; rw [h3, <- h1]; exact tp0) (by have h1 := hpl.out; have h3 := hp8h.out; simp only [Sl.val]; rw [h3, <- h1]; exact tp1) (by omega) hOH13.out hOV12.out hOP12.out hHL.out hv8h.out hp8h.out
      (fun g hg => by
       have h1 := hHne.out g (by cases HA <;> simp [Sl.val, Value.ownBlock] at hg ⊢; exact hg)
       refine ⟨fun e => (hVob.out _ g e).2 g (by cases HA <;> simp [Sl.val, Value.ownBlock] at hg ⊢; exact hg) rfl, fun e => (hPob.out _ g e).2 g (by cases HA <;> simp [Sl.val, Value.ownBlock] at hg ⊢; exact hg) rfl, by omega, hLH g (by cases HA <;> simp [Sl.val, Value.ownBlock] at hg ⊢; exact hg)⟩)
      (fun g hg => ⟨fun e => (hOsX.out.ne g (by cases VA <;> simp [Sl.val, Value.ownBlock] at hg ⊢; exact hg)).1 (by cases PA <;> simp [Sl.val, Value.ownBlock] at e ⊢; exact e), by have := hOslt.out.1 g (by cases VA <;> simp [Sl.val, Value.ownBlock] at hg ⊢; exact hg); omega, hLV g (by cases VA <;> simp [Sl.val, Value.ownBlock] at hg ⊢; exact hg)⟩)
      (fun g hg => ⟨by have := hOslt.out.2.1 g (by cases PA <;> simp [Sl.val, Value.ownBlock] at hg ⊢; exact hg); omega, hLP g (by cases PA <;> simp [Sl.val, Value.ownBlock] at hg ⊢; exact hg)⟩))
     rw [show (⟨HA, hc, h2⟩ : Sl Int).val = .slice HA hx.length hc from by have h1 := hHL.out; have h3 := hhl2.out; simp only [Sl.val]; rw [h1, h3]] at T118
     have hzwr := BU.out.size
     clear C0 C1 C2 F0 F1 F2 OW HL HP GO BU BW
     go_wp2_with fail
     refine T118.out.mono ?_
     rintro e w13 ⟨b13, hs13, vs13, ps13, rfl, hh13, hv13, hp13, hpt13, hfit13, hOH14, hOV14, hOP14, hBU13, hBl13⟩
     simp only at hh13 hv13 hp13 hpt13 hfit13
     have mn0 : w13.cell? ⟨w.heap.size, 0, none⟩ = some (.slice A xs.length c) := hBU13.cell tn0 (fun h => by have := hLh.out _ h; omega)
     have mn1 : w13.cell? ⟨w.heap.size, 1, none⟩ = some (.slice A2 ls.length c2) := hBU13.cell tn1 (fun h => by have := hLh.out _ h; omega)
     have ms0 : w13.cell? ⟨w.heap.size + 1, 0, none⟩ = some (sv.val) := hBU13.cell ts0 (fun h => by have := hLh.out _ h; omega)
     have ms1 : w13.cell? ⟨w.heap.size + 1, 1, none⟩ = some (sp.val) := hBU13.cell ts1 (fun h => by have := hLh.out _ h; omega)
     have ms2 : w13.cell? ⟨w.heap.size + 1, 2, none⟩ = some (ss.val) := hBU13.cell ts2 (fun h => by have := hLh.out _ h; omega)
     have ms3 : w13.cell? ⟨w.heap.size + 1, 3, none⟩ = some (so.val) := hBU13.cell ts3 (fun h => by have := hLh.out _ h; omega)
     have mu0 : w13.cell? ⟨w.heap.size + 2, 0, none⟩ = some (.slice none 0 0) := hBU13.cell tu0 (fun h => by have := hLh.out _ h; omega)
     have mu1 : w13.cell? ⟨w.heap.size + 2, 1, none⟩ = some (.slice none 0 0) := hBU13.cell tu1 (fun h => by have := hLh.out _ h; omega)
     have mu2 : w13.cell? ⟨w.heap.size + 2, 2, none⟩ = some (.slice none 0 0) := hBU13.cell tu2 (fun h => by have := hLh.out _ h; omega)
     have mu3 : w13.cell? ⟨w.heap.size + 2, 3, none⟩ = some (.slice none 0 0) := hBU13.cell tu3 (fun h => by have := hLh.out _ h; omega)
     have mv0 : w13.cell? ⟨w.heap.size + 3, 0, none⟩ = some (.int .i64 0) := hBU13.cell tv0 (fun h => by have := hLh.out _ h; omega)
     have mv1 : w13.cell? ⟨w.heap.size + 3, 1, none⟩ = some (.int .i64 0) := hBU13.cell tv1 (fun h => by have := hLh.out _ h; omega)
     have mv2 : w13.cell? ⟨w.heap.size + 3, 2, none⟩ = some (.slice none 0 0) := hBU13.cell tv2 (fun h => by have := hLh.out _ h; omega)
     have fmu0 : w13.frozen? ⟨w.heap.size + 2, 0, none⟩ = false := hBU13.fro tu0 ftu0 (fun h => by have := hLh.out _ h; omega)
     have fmu1 : w13.frozen? ⟨w.heap.size + 2, 1, none⟩ = false := hBU13.fro tu1 ftu1 (fun h => by have := hLh.out _ h; omega)
     have fmu2 : w13.frozen? ⟨w.heap.size + 2, 2, none⟩ = false := hBU13.fro tu2 ftu2 (fun h => by have := hLh.out _ h; omega)
     have fmu3 : w13.frozen? ⟨w.heap.size + 2, 3, none⟩ = false := hBU13.fro tu3 ftu3 (fun h => by have := hLh.out _ h; omega)
     have fmv0 : w13.frozen? ⟨w.heap.size + 3, 0, none⟩ = false := hBU13.fro tv0 ftv0 (fun h => by have := hLh.out _ h; omega)
     have fmv1 : w13.frozen? ⟨w.heap.size + 3, 1, none⟩ = false := hBU13.fro tv1 ftv1 (fun h => by have := hLh.out _ h; omega)
     have fmv2 : w13.frozen? ⟨w.heap.size + 3, 2, none⟩ = false := hBU13.fro tv2 ftv2 (fun h => by have := hLh.out _ h; omega)
     have mp0 := hBU13.cell tp0 (fun h => by have := hLh.out _ h; omega)
     have mp1 := hBU13.cell tp1 (fun h => by have := hLh.out _ h; omega)
     have mp2 := hBU13.cell tp2 (fun h => by have := hLh.out _ h; omega)
     have mp3 := hBU13.cell tp3 (fun h => by have := hLh.out _ h; omega)
     have mg0 := hBU13.cell tg0 (fun h => by have := hLh.out _ h; omega)
     have mg1 := hBU13.cell tg1 (fun h => by have := hLh.out _ h; omega)
     have mg2 := hBU13.cell tg2 (fun h => by have := hLh.out _ h; omega)
     have hOS14 := HD (hBU13.own hOS12.out (fun g hg hm => (hLs.out g hm).1 hg))
     have hNI14 := HD (OkT.but hNI.out hBU13 (fun g hg hm => by have h1 := hoN.out g hg; have := hLh.out g hm; omega))
     have hQI14 := HD (OkT.but hQI.out hBU13 (fun g hg hm => by have h1 := hQN11.out g hg; have := hLh.out g hm; omega))
     have hOVh := HD hOV14
     have hOPh := HD hOP14
     have z13 : w6.heap.size < w13.heap.size := by have := hBU13.size; omega
     have hpt := HD hpt13
     have hfit := HD hfit13
     have hv13h := HD hv13
     have hp13h := HD hp13
     clear tn0 tn1 ts0 ts1 ts2 ts3 tu0 tu1 tu2 tu3 tv0 tv1 tv2 ftu0 ftu1 ftu2 ftu3 ftv0 ftv1 ftv2 on0 on1 os0 os1 os2 os3 ou0 ou1 ou2 ou3 ov0 ov1 ov2 fou0 fou1 fou2 fou3 fov0 fov1 fov2 tp0 tp1 tp2 tp3 tg0 tg1 tg2 zp0 zp1 zp2 zp3 op0 op1 op2 op3 hOV14 hOP14 hOH14 hpt13 hfit13 hBU13 T118 hzwr hh13 hv13 hp13
     cases b13
     case false =>
      go_wp2_with fail
      refine (f111_c 5 _).mono ?_
      rintro e wf ⟨rfl, hwf⟩
      have Fu0 : wf.cell? ⟨w.heap.size + 2, 0, none⟩ = some (.slice none 0 0) := hwf.keep mu0
      have Fu1 : wf.cell? ⟨w.heap.size + 2, 1, none⟩ = some (.slice none 0 0) := hwf.keep mu1
      have Fu2 : wf.cell? ⟨w.heap.size + 2, 2, none⟩ = some (.slice none 0 0) := hwf.keep mu2
      have Fu3 : wf.cell? ⟨w.heap.size + 2, 3, none⟩ = some (.slice none 0 0) := hwf.keep mu3
      have Fv0 : wf.cell? ⟨w.heap.size + 3, 0, none⟩ = some (.int .i64 0) := hwf.keep mv0
      have Fv1 : wf.cell? ⟨w.heap.size + 3, 1, none⟩ = some (.int .i64 0) := hwf.keep mv1
      have Fv2 : wf.cell? ⟨w.heap.size + 3, 2, none⟩ = some (.slice none 0 0) := hwf.keep mv2
      have fFu0 : wf.frozen? ⟨w.heap.size + 2, 0, none⟩ = false := hwf.keepF mu0 fmu0
      have fFu1 : wf.frozen? ⟨w.heap.size + 2, 1, none⟩ = false := hwf.keepF mu1 fmu1
      have fFu2 : wf.frozen? ⟨w.heap.size + 2, 2, none⟩ = false := hwf.keepF mu2 fmu2
      have fFu3 : wf.frozen? ⟨w.heap.size + 2, 3, none⟩ = false := hwf.keepF mu3 fmu3
      have fFv0 : wf.frozen? ⟨w.heap.size + 3, 0, none⟩ = false := hwf.keepF mv0 fmv0
      have fFv1 : wf.frozen? ⟨w.heap.size + 3, 1, none⟩ = false := hwf.keepF mv1 fmv1
      have fFv2 : wf.frozen? ⟨w.heap.size + 3, 2, none⟩ = false := hwf.keepF mv2 fmv2
      have hBf : Bl w wf := Bl.trans hBl13 hwf
      clear hwf
      clear mn0 mn1 ms0 ms1 ms2 ms3 mu0 mu1 mu2 mu3 mv0 mv1 mv2 fmu0 fmu1 fmu2 fmu3 fmv0 fmv1 fmv2
      go_wp2_with fail
      have hrs := res_set wf _ (w.heap.size + 2) (w.heap.size + 3) (.slice none 0 0) (.slice none 0 0) (.slice none 0 0) (.slice none 0 0) (.int .i64 0) (.int .i64 0) (.slice none 0 0) rfl (by omega) (by rw [Fu0]; rfl) (by rw [Fu1]; rfl) (by rw [Fu2]; rfl) (by rw [Fu3]; rfl) (by rw [Fv0]; rfl) (by rw [Fv1]; rfl) (by rw [Fv2]; rfl)
      exact ret82 _ _ (w.heap.size + 2) (w.heap.size + 3) _ _ _ _ _ _ _ _ _ rfl rfl rfl hrs (RStep.no (by omega) (Bl.setCell (Bl.setCell (Bl.setCell (Bl.setCell (Bl.setCell (Bl.setCell (Bl.setCell hBf (by simp only; omega) _) (by simp only; omega) _) (by simp only; omega) _) (by simp only; omega) _) (by simp only; omega) _) (by simp only; omega) _) (by simp only; omega) _))
     go_wp2_with fail
     have dq0 : w13.drew.cell? ⟨w4.heap.size, 0, none⟩ = some (.slice VA vx.length vc) := mp0
     have dq1 : w13.drew.cell? ⟨w4.heap.size, 1, none⟩ = some (.slice PA px.length pc) := mp1
     have dq2 : w13.drew.cell? ⟨w4.heap.size, 2, none⟩ = some (.slice SA sx.length sc) := mp2
     have dq3 : w13.drew.cell? ⟨w4.heap.size, 3, none⟩ = some (.slice NA nx.length nc) := mp3
     have dq4 : w13.drew.cell? ⟨w6.heap.size, 0, none⟩ = some (.int .i64 gi) := mg0
     have dq5 : w13.drew.cell? ⟨w6.heap.size, 1, none⟩ = some (.int .i64 g2) := mg1
     have dq6 : w13.drew.cell? ⟨w6.heap.size, 2, none⟩ = some (.slice QA qx.length qc) := mg2
     have nn1 : w4.heap.size ≠ w.heap.size + 1 + 1 := by omega
     have nn2 : w4.heap.size ≠ w.heap.size + 1 + 1 + 1 := by omega
     have nn3 : w6.heap.size ≠ w.heap.size + 1 + 1 := by omega
     have nn4 : w6.heap.size ≠ w.heap.size + 1 + 1 + 1 := by omega
     go_region_held3 (fun w' => w'.cell? ⟨w4.heap.size, 0, none⟩ = some (.slice VA vx.length vc) /\ w'.cell? ⟨w4.heap.size, 1, none⟩ = some (.slice PA px.length pc) /\ w'.cell? ⟨w4.heap.size, 2, none⟩ = some (.slice SA sx.length sc) /\ w'.cell? ⟨w4.heap.size, 3, none⟩ = some (.slice NA nx.length nc) /\ w'.cell? ⟨w6.heap.size, 0, none⟩ = some (.int .i64 gi) /\ w'.cell? ⟨w6.heap.size, 1, none⟩ = some (.int .i64 g2) /\ w'.cell? ⟨w6.heap.size, 2, none⟩ = some (.slice QA qx.length qc)) ((refine ⟨?_, ?_, ?_, ?_, ?_, ?_, ?_⟩ <;> (try rw [cellDrew]) <;> (repeat (with_reducible refine keepSet ?_ (by first | exact nn1 | exact nn2 | exact nn3 | exact nn4))) <;> first | (with_reducible assumption) | (with_reducible exact mp0) | (with_reducible exact mp1) | (with_reducible exact mp2) | (with_reducible exact mp3) | (with_reducible exact mg0) | (with_reducible exact mg1) | (with_reducible exact mg2))) (fail)
     clear nn1 nn2 nn3 nn4 dq0 dq1 dq2 dq3 dq4 dq5 dq6
     rename_i K aK hSS
     clear hSS
     refine aK _ _ ?_
     refine wp_ret ?_
     have hrs := res_set w13 _ (w.heap.size + 1 + 1) (w.heap.size + 1 + 1 + 1) (.slice VA vx.length vc) (.slice PA px.length pc) (.slice SA sx.length sc) (.slice NA nx.length nc) (.int .i64 gi) (.int .i64 g2) (.slice QA qx.length qc) rfl (by omega) (isSome_of mu0) (isSome_of mu1) (isSome_of mu2) (isSome_of mu3) (isSome_of mv0) (isSome_of mv1) (isSome_of mv2)
     have hbx : But [w.heap.size + 1 + 1, w.heap.size + 1 + 1 + 1] w13 (((((((w13.setCell ⟨w.heap.size + 1 + 1, 0, none⟩ (.slice VA vx.length vc)).setCell ⟨w.heap.size + 1 + 1, 1, none⟩ (.slice PA px.length pc)).setCell ⟨w.heap.size + 1 + 1, 2, none⟩ (.slice SA sx.length sc)).setCell ⟨w.heap.size + 1 + 1, 3, none⟩ (.slice NA nx.length nc)).setCell ⟨w.heap.size + 1 + 1 + 1, 0, none⟩ (.int .i64 gi)).setCell ⟨w.heap.size + 1 + 1 + 1, 1, none⟩ (.int .i64 g2)).setCell ⟨w.heap.size + 1 + 1 + 1, 2, none⟩ (.slice QA qx.length qc)) := (But.set (But.set (But.set (But.set (But.set (But.set (But.set (But.refl _ _) _ _ (.inl (by simp))) _ _ (.inl (by simp))) _ _ (.inl (by simp))) _ _ (.inl (by simp))) _ _ (.inl (by simp))) _ _ (.inl (by simp))) _ _ (.inl (by simp)))
     have hbx := But.trans hbx (But.of (Bl.drew (Bl.refl _)))
     have hbl : Bl w (((((((w13.setCell ⟨w.heap.size + 1 + 1, 0, none⟩ (.slice VA vx.length vc)).setCell ⟨w.heap.size + 1 + 1, 1, none⟩ (.slice PA px.length pc)).setCell ⟨w.heap.size + 1 + 1, 2, none⟩ (.slice SA sx.length sc)).setCell ⟨w.heap.size + 1 + 1, 3, none⟩ (.slice NA nx.length nc)).setCell ⟨w.heap.size + 1 + 1 + 1, 0, none⟩ (.int .i64 gi)).setCell ⟨w.heap.size + 1 + 1 + 1, 1, none⟩ (.int .i64 g2)).setCell ⟨w.heap.size + 1 + 1 + 1, 2, none⟩ (.slice QA qx.length qc)).drew := Bl.drew (Bl.setCell (Bl.setCell (Bl.setCell (Bl.setCell (Bl.setCell (Bl.setCell (Bl.setCell hBl13 (by simp only; omega) _) (by simp only; omega) _) (by simp only; omega) _) (by simp only; omega) _) (by simp only; omega) _) (by simp only; omega) _) (by simp only; omega) _)
     refine ret82 _ _ (w.heap.size + 1 + 1) (w.heap.size + 1 + 1 + 1) _ _ _ _ _ _ _ (.int .i64 0) _ rfl rfl rfl (res_drew hrs) ?_
     have hw3z : w.heap.size + 3 < w3.heap.size := z3
     have hnV : ∀ (q : List Int) g, (⟨VA, vc, q⟩ : Sl Int).val.ownBlock = some g -> w3.heap.size ≤ g := fun q g hg => hge3.out.1 g (by cases VA <;> simp [Sl.val, Value.ownBlock] at hg ⊢; exact hg)
     have hnP : ∀ (q : List Int) g, (⟨PA, pc, q⟩ : Sl Int).val.ownBlock = some g -> w3.heap.size ≤ g := fun q g hg => hge3.out.2.1 g (by cases PA <;> simp [Sl.val, Value.ownBlock] at hg ⊢; exact hg)
     have hnS : ∀ g, (⟨SA, sc, sx⟩ : Sl Int).val.ownBlock = some g -> w3.heap.size ≤ g := fun g hg => hge3.out.2.2.1 g hg
     have hnN : ∀ g, (⟨NA, nc, nx⟩ : Sl Bool).val.ownBlock = some g -> w8.heap.size ≤ g := hoN.out
     have hnQ : ∀ g, (⟨QA, qc, qx⟩ : Sl Int).val.ownBlock = some g -> w9.heap.size ≤ g := hQN11.out
     have hsl : sx.length = ls.length := by have h1 := hsxh.out; have h2 := hokh.out.2.2.2.1; simp only at h1 h2; rw [h1]; exact h2
     have hxl' := hxl.out
     have hll' := hll.out
     have hv13' := hv13h.out
     have hp13' := hp13h.out
     have hql' := hql2.out
     have hnl : nx.length = ls.length := hqq.out.2.2.1
     have hlw : w.heap.size ≤ w3.heap.size := by omega
     have hl8 : w3.heap.size ≤ w8.heap.size := by omega
     refine ⟨⟨⟨VA, vc, vs13⟩, ⟨PA, pc, ps13⟩, ⟨SA, sc, sx⟩, ⟨NA, nc, nx⟩⟩, ⟨gi, g2, ⟨QA, qc, qx⟩⟩, 0, ?_, ⟨⟨?_, ?_, ?_, ?_⟩, ?_, ?_, ?_, ?_⟩, ⟨?_, ?_⟩, fun _ => ?_, ?_⟩
     ·have h1 := hvl.out
      have h2 := hpl.out
      simp only [St.val, Sl.val, Led.val, hv13', hp13', h1, h2]
     ·exact Own1.ok (hbx.own hOVh.out (fun g hg => by have := hnV _ g hg; simp; omega)) (by simp only; omega) (fun _ _ => trivial)
     ·exact Own1.ok (hbx.own hOPh.out (fun g hg => by have := hnP _ g hg; simp; omega)) (by simp only; omega) (fun _ _ => trivial)
     ·exact Own1.ok (hbx.own hOS14.out (fun g hg => by have := hnS g hg; simp; omega)) (by simp only; omega) (fun _ _ => trivial)
     ·exact OkT.but hNI14.out hbx (fun g hg => by have := hnN g hg; simp; omega)
     ·exact fun g hg => Nat.le_trans hlw (hnV _ g hg)
     ·exact fun g hg => Nat.le_trans hlw (hnP _ g hg)
     ·exact fun g hg => Nat.le_trans hlw (hnS g hg)
     ·exact fun g hg => Nat.le_trans hlw (Nat.le_trans hl8 (hnN g hg))
     ·exact OkT.but hQI14.out hbx (fun g hg => by have := hnQ g hg; simp; omega)
     ·exact fun g hg => by have := hnQ g hg; omega
     ·refine stepOk_of (xs := xs) (ls := ls) (ex := ex) (h2 := h2) (hs8 := hs8) (hq := hq) hokh.out hexh.out hq1h.out hib.out hv13' hp13' hsl hnl hql' hpb.out hqq.out.2.2.2 ?_ (fun i hi => (hpt.out i hi).2) (hfit.out (by first | rfl | trivial)) hHP.out (fun i hi => (hs8b.out i hi).1) hQX.out hGI.out hGO.out hG2.out (fun i hi => (hcap.out i hi).2) (fun i hi => (hhb2.out i hi).1)
      exact hsxh.out
     ·exact hbl
theorem f82_c (n : Net) (l : Sl Sec) (s : St) (inf : Sl Int) (sec : Int) (w : World) (hN : InNet w n) (hl : InSecs w l) (ht : InSt w s) (hI : InI w inf) : Calls Tryz.prog 82 #[n.val, l.val, s.val, inf.val, .int .i64 sec] w (RStep n s inf.xs w) := by
 obtain ⟨⟨A, c, xs⟩, ⟨A2, c2, ls⟩⟩ := n
 obtain ⟨sv, sp, ss, so⟩ := s
 obtain ⟨IA, ic, is⟩ := inf
 exact f82_core A A2 IA c c2 ic xs ls is l sv sp ss so sec w hN hl ht hI
end Go.Proofs.YtnnhnkpoekbahaaGreat
