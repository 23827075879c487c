/- TopSeason: part 10 of 16: Ctl Wrs Bal0 At Pla Wrg Two -/
import Derived.Test.YtnnhnkpoekbahaaGreatPart08
import Derived.Test.YtnnhnkpoekbahaaGreatPart07
import Derived.Test.YtnnhnkpoekbahaaGreatPart01
import Derived.Test.YtnnhnkpoekbahaaGreatPart06
import Derived.Test.YtnnhnkpoekbahaaGreatPart05
namespace Go.Proofs.YtnnhnkpoekbahaaGreat
open Go.RowKit
set_option maxHeartbeats 400000
set_option linter.unusedSimpArgs false
set_option linter.unusedVariables false
set_option maxRecDepth 100000
theorem ret52 (R : Ending -> World -> Prop) (tmps : Array Value) (b2 b3 : Nat) (v0 v1 v2 v3 g0 g1 g2 q : Value) (X : World) (t10 : tmps[12]? = some (.pointer (some ⟨b2, 0, none⟩))) (t11 : tmps[13]? = some (.pointer (some ⟨b3, 0, none⟩))) (t12 : tmps[14]? = some q)
 (hc : X.cell? ⟨b2, 0, none⟩ = some v0 /\ X.cell? ⟨b2, 1, none⟩ = some v1 /\ X.cell? ⟨b2, 2, none⟩ = some v2 /\ X.cell? ⟨b2, 3, none⟩ = some v3 /\ X.cell? ⟨b3, 0, none⟩ = some g0 /\ X.cell? ⟨b3, 1, none⟩ = some g1 /\ X.cell? ⟨b3, 2, none⟩ = some g2)
 (h : R (.returned (.tuple #[.agg #[v0, v1, v2, v3], .agg #[g0, g1, g2], q])) X) : bodyPost Tryz.prog Tryz.f52 R Exit.ret { tmps := tmps, defers := [] } X := by
 obtain ⟨c0, c1, c2, c3, d0, d1, d2⟩ := hc
 exact bodyPost_ret (v := .tuple #[.agg #[v0, v1, v2, v3], .agg #[g0, g1, g2], q]) (by simp [results, Tryz.results52, go_sem, t10, t11, t12, c0, c1, c2, c3, d0, d1, d2]; try exact ⟨rfl, rfl⟩) rfl h
theorem StepOk.set {n : Net} {v p s s2 : Sl Int} {o : Sl Bool} {inf : List Int} {s' : St} {g : Led} (h : StepOk n ⟨v, p, s, o⟩ s' inf g) : StepOk n ⟨v, p, s2, o⟩ s' inf g := ⟨h.il, h.ib, h.ok, h.pl, h.pb, h.bal, h.inn, h.out⟩
theorem InSt.but {L : List Nat} {w w' : World} {s : St} (h : InSt w s) (hb : But L w w') (h0 : ∀ g, s.vol.val.ownBlock = some g -> g ∉ L) (h1 : ∀ g, s.pond.val.ownBlock = some g -> g ∉ L) (h2 : ∀ g, s.set.val.ownBlock = some g -> g ∉ L) (h3 : ∀ g, s.on.val.ownBlock = some g -> g ∉ L) : InSt w' s :=
 ⟨OkT.but h.vol hb h0, OkT.but h.pond hb h1, OkT.but h.set hb h2, OkT.but h.on hb h3⟩
set_option maxHeartbeats 8000000 in
theorem f52_core (A A2 IA : Option Addr) (c c2 ic : Nat) (xs : List Nd) (ls : List Lk) (is : List Int) (l : Sl Sec) (rl : Sl Rul) (sv sp ss : Sl Int) (so : Sl Bool) (sec : Int) (w : World)
 (hN : InNet w ⟨⟨A, c, xs⟩, ⟨A2, c2, ls⟩⟩) (hl : InSecs w l) (hr : InRuls w rl) (ht : InSt w ⟨sv, sp, ss, so⟩) (hI : InI w ⟨IA, ic, is⟩) :
 Calls Tryz.prog 52 #[.agg #[.slice A xs.length c, .slice A2 ls.length c2], l.val, rl.val, .agg #[sv.val, sp.val, ss.val, so.val], .slice IA is.length ic, .int .i64 sec] w (RStep ⟨⟨A, c, xs⟩, ⟨A2, c2, ls⟩⟩ ⟨sv, sp, ss, so⟩ is w) := by
 have T48 := HD (fun W (hb : Bl w W) => f48_c l W (InSecs.up hl hb))
 have T49 := HD (fun W (hb : Bl w W) => f49_c rl W (InRuls.up hr hb))
 have T50 := HD (fun W (hb : Bl w W) => f50_c ⟨⟨A, c, xs⟩, ⟨A2, c2, ls⟩⟩ ⟨sv, sp, ss, so⟩ W (InNet.up hN hb) (InSt.up ht hb))
 have T80 := HD (fun W (hb : Bl w W) => f80_c ⟨⟨A, c, xs⟩, ⟨A2, c2, ls⟩⟩ sv W (InNet.up hN hb) (InI.up ht.vol hb))
 have T81 := HD (fun W (hb : Bl w W) lv (hv : InI W lv) => f81_c rl ⟨⟨A, c, xs⟩, ⟨A2, c2, ls⟩⟩ lv ss W (InRuls.up hr hb) (InNet.up hN hb) hv (InI.up ht.set hb))
 have T82 := HD (fun W (hb : Bl w W) st (hv : InI W st) => f82_c ⟨⟨A, c, xs⟩, ⟨A2, c2, ls⟩⟩ l ⟨sv, sp, st, so⟩ ⟨IA, ic, is⟩ sec W (InNet.up hN hb) (InSecs.up hl hb) ⟨InI.up ht.vol hb, InI.up ht.pond hb, hv, InB.up ht.on hb⟩ (InI.up hI hb))
 clear hN hl hr ht hI
 go_enter Tryz.func52, Tryz.ntmps52
 go_wp2_with fail
 refine (T48.out _ bz).mono ?_
 rintro e w1 ⟨b0, hb00, hb01, rfl, hw1⟩
 clear T48 hb00 hb01
 have an0 : w1.cell? ⟨w.heap.size, 0, none⟩ = some (.slice A xs.length c) := hw1.keep (by simp [go_sem])
 have an1 : w1.cell? ⟨w.heap.size, 1, none⟩ = some (.slice A2 ls.length c2) := hw1.keep (by simp [go_sem])
 have as0 : w1.cell? ⟨w.heap.size + 1, 0, none⟩ = some (sv.val) := hw1.keep (by simp [go_sem])
 have as1 : w1.cell? ⟨w.heap.size + 1, 1, none⟩ = some (sp.val) := hw1.keep (by simp [go_sem])
 have as2 : w1.cell? ⟨w.heap.size + 1, 2, none⟩ = some (ss.val) := hw1.keep (by simp [go_sem])
 have as3 : w1.cell? ⟨w.heap.size + 1, 3, none⟩ = some (so.val) := hw1.keep (by simp [go_sem])
 have au0 : w1.cell? ⟨w.heap.size + 2, 0, none⟩ = some (.slice none 0 0) := hw1.keep (by simp [go_sem])
 have au1 : w1.cell? ⟨w.heap.size + 2, 1, none⟩ = some (.slice none 0 0) := hw1.keep (by simp [go_sem])
 have au2 : w1.cell? ⟨w.heap.size + 2, 2, none⟩ = some (.slice none 0 0) := hw1.keep (by simp [go_sem])
 have au3 : w1.cell? ⟨w.heap.size + 2, 3, none⟩ = some (.slice none 0 0) := hw1.keep (by simp [go_sem])
 have av0 : w1.cell? ⟨w.heap.size + 3, 0, none⟩ = some (.int .i64 0) := hw1.keep (by simp [go_sem])
 have av1 : w1.cell? ⟨w.heap.size + 3, 1, none⟩ = some (.int .i64 0) := hw1.keep (by simp [go_sem])
 have av2 : w1.cell? ⟨w.heap.size + 3, 2, none⟩ = some (.slice none 0 0) := hw1.keep (by simp [go_sem])
 have fau0 : w1.frozen? ⟨w.heap.size + 2, 0, none⟩ = false := hw1.keepF (by simp [go_sem]; rfl) (by simp [go_sem])
 have fau1 : w1.frozen? ⟨w.heap.size + 2, 1, none⟩ = false := hw1.keepF (by simp [go_sem]; rfl) (by simp [go_sem])
 have fau2 : w1.frozen? ⟨w.heap.size + 2, 2, none⟩ = false := hw1.keepF (by simp [go_sem]; rfl) (by simp [go_sem])
 have fau3 : w1.frozen? ⟨w.heap.size + 2, 3, none⟩ = false := hw1.keepF (by simp [go_sem]; rfl) (by simp [go_sem])
 have fav0 : w1.frozen? ⟨w.heap.size + 3, 0, none⟩ = false := hw1.keepF (by simp [go_sem]; rfl) (by simp [go_sem])
 have fav1 : w1.frozen? ⟨w.heap.size + 3, 1, none⟩ = false := hw1.keepF (by simp [go_sem]; rfl) (by simp [go_sem])
 have fav2 : w1.frozen? ⟨w.heap.size + 3, 2, none⟩ = false := hw1.keepF (by simp [go_sem]; rfl) (by simp [go_sem])
 have fas2 : w1.frozen? ⟨w.heap.size + 1, 2, none⟩ = false := hw1.keepF (by simp [go_sem]; rfl) (by simp [go_sem])
 have hB1 : Bl w w1 := bz
 have z1 : w.heap.size + 3 < w1.heap.size := by have := hw1.size; simp at this; omega
 clear hw1
 cases b0
 case false =>
  go_wp2_with fail
  have hrs := res_set w1 _ (w.heap.size + 2) (w.heap.size + 3) (.slice none 0 0) (.slice none 0 0) (.slice none 0 0) (.slice none 0 0) (.int .i64 0) (.int .i64 0) (.slice none 0 0) rfl (by omega) (by rw [au0]; rfl) (by rw [au1]; rfl) (by rw [au2]; rfl) (by rw [au3]; rfl) (by rw [av0]; rfl) (by rw [av1]; rfl) (by rw [av2]; rfl)
  exact ret52 _ _ (w.heap.size + 2) (w.heap.size + 3) _ _ _ _ _ _ _ _ _ rfl rfl rfl hrs (RStep.no (by omega) (Bl.setCell (Bl.setCell (Bl.setCell (Bl.setCell (Bl.setCell (Bl.setCell (Bl.setCell hB1 (by simp only; omega) _) (by simp only; omega) _) (by simp only; omega) _) (by simp only; omega) _) (by simp only; omega) _) (by simp only; omega) _) (by simp only; omega) _))
 go_wp2_with fail
 refine (T49.out _ hB1).mono ?_
 rintro e w2 ⟨b1, hb10, hb11, rfl, hw2⟩
 clear T49 hb10 hb11
 have bn0 : w2.cell? ⟨w.heap.size, 0, none⟩ = some (.slice A xs.length c) := hw2.keep an0
 have bn1 : w2.cell? ⟨w.heap.size, 1, none⟩ = some (.slice A2 ls.length c2) := hw2.keep an1
 have bs0 : w2.cell? ⟨w.heap.size + 1, 0, none⟩ = some (sv.val) := hw2.keep as0
 have bs1 : w2.cell? ⟨w.heap.size + 1, 1, none⟩ = some (sp.val) := hw2.keep as1
 have bs2 : w2.cell? ⟨w.heap.size + 1, 2, none⟩ = some (ss.val) := hw2.keep as2
 have bs3 : w2.cell? ⟨w.heap.size + 1, 3, none⟩ = some (so.val) := hw2.keep as3
 have bu0 : w2.cell? ⟨w.heap.size + 2, 0, none⟩ = some (.slice none 0 0) := hw2.keep au0
 have bu1 : w2.cell? ⟨w.heap.size + 2, 1, none⟩ = some (.slice none 0 0) := hw2.keep au1
 have bu2 : w2.cell? ⟨w.heap.size + 2, 2, none⟩ = some (.slice none 0 0) := hw2.keep au2
 have bu3 : w2.cell? ⟨w.heap.size + 2, 3, none⟩ = some (.slice none 0 0) := hw2.keep au3
 have bv0 : w2.cell? ⟨w.heap.size + 3, 0, none⟩ = some (.int .i64 0) := hw2.keep av0
 have bv1 : w2.cell? ⟨w.heap.size + 3, 1, none⟩ = some (.int .i64 0) := hw2.keep av1
 have bv2 : w2.cell? ⟨w.heap.size + 3, 2, none⟩ = some (.slice none 0 0) := hw2.keep av2
 have fbu0 : w2.frozen? ⟨w.heap.size + 2, 0, none⟩ = false := hw2.keepF au0 fau0
 have fbu1 : w2.frozen? ⟨w.heap.size + 2, 1, none⟩ = false := hw2.keepF au1 fau1
 have fbu2 : w2.frozen? ⟨w.heap.size + 2, 2, none⟩ = false := hw2.keepF au2 fau2
 have fbu3 : w2.frozen? ⟨w.heap.size + 2, 3, none⟩ = false := hw2.keepF au3 fau3
 have fbv0 : w2.frozen? ⟨w.heap.size + 3, 0, none⟩ = false := hw2.keepF av0 fav0
 have fbv1 : w2.frozen? ⟨w.heap.size + 3, 1, none⟩ = false := hw2.keepF av1 fav1
 have fbv2 : w2.frozen? ⟨w.heap.size + 3, 2, none⟩ = false := hw2.keepF av2 fav2
 have fbs2 : w2.frozen? ⟨w.heap.size + 1, 2, none⟩ = false := hw2.keepF as2 fas2
 have hB2 : Bl w w2 := hB1.trans hw2
 have z2 : w.heap.size + 3 < w2.heap.size := by have := hw2.size; omega
 clear hw2 hB1 z1
 clear an0 an1 as0 as1 as2 as3 au0 au1 au2 au3 av0 av1 av2 fau0 fau1 fau2 fau3 fav0 fav1 fav2 fas2
 cases b1
 case false =>
  go_wp2_with fail
  have hrs := res_set w2 _ (w.heap.size + 2) (w.heap.size + 3) (.slice none 0 0) (.slice none 0 0) (.slice none 0 0) (.slice none 0 0) (.int .i64 0) (.int .i64 0) (.slice none 0 0) rfl (by omega) (by rw [bu0]; rfl) (by rw [bu1]; rfl) (by rw [bu2]; rfl) (by rw [bu3]; rfl) (by rw [bv0]; rfl) (by rw [bv1]; rfl) (by rw [bv2]; rfl)
  exact ret52 _ _ (w.heap.size + 2) (w.heap.size + 3) _ _ _ _ _ _ _ _ _ rfl rfl rfl hrs (RStep.no (by omega) (Bl.setCell (Bl.setCell (Bl.setCell (Bl.setCell (Bl.setCell (Bl.setCell (Bl.setCell hB2 (by simp only; omega) _) (by simp only; omega) _) (by simp only; omega) _) (by simp only; omega) _) (by simp only; omega) _) (by simp only; omega) _) (by simp only; omega) _))
 go_wp2_with fail
 refine (T50.out _ hB2).mono ?_
 rintro e w3 ⟨rfl, hw3⟩
 clear T50
 generalize hsb : stateB ⟨⟨A, c, xs⟩, ⟨A2, c2, ls⟩⟩ ⟨sv, sp, ss, so⟩ = b2
 clear hsb
 have cn0 : w3.cell? ⟨w.heap.size, 0, none⟩ = some (.slice A xs.length c) := hw3.keep bn0
 have cn1 : w3.cell? ⟨w.heap.size, 1, none⟩ = some (.slice A2 ls.length c2) := hw3.keep bn1
 have cs0 : w3.cell? ⟨w.heap.size + 1, 0, none⟩ = some (sv.val) := hw3.keep bs0
 have cs1 : w3.cell? ⟨w.heap.size + 1, 1, none⟩ = some (sp.val) := hw3.keep bs1
 have cs2 : w3.cell? ⟨w.heap.size + 1, 2, none⟩ = some (ss.val) := hw3.keep bs2
 have cs3 : w3.cell? ⟨w.heap.size + 1, 3, none⟩ = some (so.val) := hw3.keep bs3
 have cu0 : w3.cell? ⟨w.heap.size + 2, 0, none⟩ = some (.slice none 0 0) := hw3.keep bu0
 have cu1 : w3.cell? ⟨w.heap.size + 2, 1, none⟩ = some (.slice none 0 0) := hw3.keep bu1
 have cu2 : w3.cell? ⟨w.heap.size + 2, 2, none⟩ = some (.slice none 0 0) := hw3.keep bu2
 have cu3 : w3.cell? ⟨w.heap.size + 2, 3, none⟩ = some (.slice none 0 0) := hw3.keep bu3
 have cv0 : w3.cell? ⟨w.heap.size + 3, 0, none⟩ = some (.int .i64 0) := hw3.keep bv0
 have cv1 : w3.cell? ⟨w.heap.size + 3, 1, none⟩ = some (.int .i64 0) := hw3.keep bv1
 have cv2 : w3.cell? ⟨w.heap.size + 3, 2, none⟩ = some (.slice none 0 0) := hw3.keep bv2
 have fcu0 : w3.frozen? ⟨w.heap.size + 2, 0, none⟩ = false := hw3.keepF bu0 fbu0
 have fcu1 : w3.frozen? ⟨w.heap.size + 2, 1, none⟩ = false := hw3.keepF bu1 fbu1
 have fcu2 : w3.frozen? ⟨w.heap.size + 2, 2, none⟩ = false := hw3.keepF bu2 fbu2
 have fcu3 : w3.frozen? ⟨w.heap.size + 2, 3, none⟩ = false := hw3.keepF bu3 fbu3
 have fcv0 : w3.frozen? ⟨w.heap.size + 3, 0, none⟩ = false := hw3.keepF bv0 fbv0
 have fcv1 : w3.frozen? ⟨w.heap.size + 3, 1, none⟩ = false := hw3.keepF bv1 fbv1
 have fcv2 : w3.frozen? ⟨w.heap.size + 3, 2, none⟩ = false := hw3.keepF bv2 fbv2
 have fcs2 : w3.frozen? ⟨w.heap.size + 1, 2, none⟩ = false := hw3.keepF bs2 fbs2
 have hB3 : Bl w w3 := hB2.trans hw3
 have z3 : w.heap.size + 3 < w3.heap.size := by have := hw3.size; omega
 clear hw3 hB2 z2
 clear bn0 bn1 bs0 bs1 bs2 bs3 bu0 bu1 bu2 bu3 bv0 bv1 bv2 fbu0 fbu1 fbu2 fbu3 fbv0 fbv1 fbv2 fbs2
 cases b2
 case false =>
  go_wp2_with fail
  have hrs := res_set w3 _ (w.heap.size + 2) (w.heap.size + 3) (.slice none 0 0) (.slice none 0 0) (.slice none 0 0) (.slice none 0 0) (.int .i64 0) (.int .i64 0) (.slice none 0 0) rfl (by omega) (by rw [cu0]; rfl) (by rw [cu1]; rfl) (by rw [cu2]; rfl) (by rw [cu3]; rfl) (by rw [cv0]; rfl) (by rw [cv1]; rfl) (by rw [cv2]; rfl)
  exact ret52 _ _ (w.heap.size + 2) (w.heap.size + 3) _ _ _ _ _ _ _ _ _ rfl rfl rfl hrs (RStep.no (by omega) (Bl.setCell (Bl.setCell (Bl.setCell (Bl.setCell (Bl.setCell (Bl.setCell (Bl.setCell hB3 (by simp only; omega) _) (by simp only; omega) _) (by simp only; omega) _) (by simp only; omega) _) (by simp only; omega) _) (by simp only; omega) _) (by simp only; omega) _))
 go_wp2_with fail
 refine (T80.out _ hB3).mono ?_
 rintro e w4 ⟨⟨LA, lc, lvs⟩, q4, he4, ⟨hI4, -⟩, -, hw4⟩
 obtain rfl : e = .returned (.tuple #[.slice LA lvs.length lc, .int .i64 q4]) := he4
 clear T80
 have hI4 := HD hI4
 have dn0 : w4.cell? ⟨w.heap.size, 0, none⟩ = some (.slice A xs.length c) := hw4.keep cn0
 have dn1 : w4.cell? ⟨w.heap.size, 1, none⟩ = some (.slice A2 ls.length c2) := hw4.keep cn1
 have ds0 : w4.cell? ⟨w.heap.size + 1, 0, none⟩ = some (sv.val) := hw4.keep cs0
 have ds1 : w4.cell? ⟨w.heap.size + 1, 1, none⟩ = some (sp.val) := hw4.keep cs1
 have ds2 : w4.cell? ⟨w.heap.size + 1, 2, none⟩ = some (ss.val) := hw4.keep cs2
 have ds3 : w4.cell? ⟨w.heap.size + 1, 3, none⟩ = some (so.val) := hw4.keep cs3
 have du0 : w4.cell? ⟨w.heap.size + 2, 0, none⟩ = some (.slice none 0 0) := hw4.keep cu0
 have du1 : w4.cell? ⟨w.heap.size + 2, 1, none⟩ = some (.slice none 0 0) := hw4.keep cu1
 have du2 : w4.cell? ⟨w.heap.size + 2, 2, none⟩ = some (.slice none 0 0) := hw4.keep cu2
 have du3 : w4.cell? ⟨w.heap.size + 2, 3, none⟩ = some (.slice none 0 0) := hw4.keep cu3
 have dv0 : w4.cell? ⟨w.heap.size + 3, 0, none⟩ = some (.int .i64 0) := hw4.keep cv0
 have dv1 : w4.cell? ⟨w.heap.size + 3, 1, none⟩ = some (.int .i64 0) := hw4.keep cv1
 have dv2 : w4.cell? ⟨w.heap.size + 3, 2, none⟩ = some (.slice none 0 0) := hw4.keep cv2
 have fdu0 : w4.frozen? ⟨w.heap.size + 2, 0, none⟩ = false := hw4.keepF cu0 fcu0
 have fdu1 : w4.frozen? ⟨w.heap.size + 2, 1, none⟩ = false := hw4.keepF cu1 fcu1
 have fdu2 : w4.frozen? ⟨w.heap.size + 2, 2, none⟩ = false := hw4.keepF cu2 fcu2
 have fdu3 : w4.frozen? ⟨w.heap.size + 2, 3, none⟩ = false := hw4.keepF cu3 fcu3
 have fdv0 : w4.frozen? ⟨w.heap.size + 3, 0, none⟩ = false := hw4.keepF cv0 fcv0
 have fdv1 : w4.frozen? ⟨w.heap.size + 3, 1, none⟩ = false := hw4.keepF cv1 fcv1
 have fdv2 : w4.frozen? ⟨w.heap.size + 3, 2, none⟩ = false := hw4.keepF cv2 fcv2
 have fds2 : w4.frozen? ⟨w.heap.size + 1, 2, none⟩ = false := hw4.keepF cs2 fcs2
 have hB4 : Bl w w4 := hB3.trans hw4
 have z4 : w.heap.size + 3 < w4.heap.size := by have := hw4.size; omega
 clear hw4 hB3 z3
 clear cn0 cn1 cs0 cs1 cs2 cs3 cu0 cu1 cu2 cu3 cv0 cv1 cv2 fcu0 fcu1 fcu2 fcu3 fcv0 fcv1 fcv2 fcs2
 by_cases hq4 : q4 = 0
 case neg =>
  have hq4b : (q4 != 0) = true := by simpa using hq4
  have hq4h := HD hq4
  clear hq4
  go_wp2_with fail
  have hrs := res_set w4 _ (w.heap.size + 2) (w.heap.size + 3) (.slice none 0 0) (.slice none 0 0) (.slice none 0 0) (.slice none 0 0) (.int .i64 0) (.int .i64 0) (.slice none 0 0) rfl (by omega) (by rw [du0]; rfl) (by rw [du1]; rfl) (by rw [du2]; rfl) (by rw [du3]; rfl) (by rw [dv0]; rfl) (by rw [dv1]; rfl) (by rw [dv2]; rfl)
  exact ret52 _ _ (w.heap.size + 2) (w.heap.size + 3) _ _ _ _ _ _ _ _ _ rfl rfl rfl hrs (RStep.no hq4h.out (Bl.setCell (Bl.setCell (Bl.setCell (Bl.setCell (Bl.setCell (Bl.setCell (Bl.setCell hB4 (by simp only; omega) _) (by simp only; omega) _) (by simp only; omega) _) (by simp only; omega) _) (by simp only; omega) _) (by simp only; omega) _) (by simp only; omega) _))
 subst hq4
 go_wp2_with fail
 refine (T81.out _ hB4 ⟨LA, lc, lvs⟩ hI4.out).mono ?_
 rintro e w5 ⟨⟨SA, sc, sts⟩, q5, he5, ⟨hI5, hN5⟩, -, hw5⟩
 obtain rfl : e = .returned (.tuple #[.slice SA sts.length sc, .int .i64 q5]) := he5
 clear T81 hI4
 have hI5 := HD hI5
 have hG5 : Hid (∀ g, (⟨SA, sc, sts⟩ : Sl Int).val.ownBlock = some g -> w.heap.size + 3 < g) := fun g hg => by have := hN5 g hg; omega
 clear hN5
 have en0 : w5.cell? ⟨w.heap.size, 0, none⟩ = some (.slice A xs.length c) := hw5.keep dn0
 have en1 : w5.cell? ⟨w.heap.size, 1, none⟩ = some (.slice A2 ls.length c2) := hw5.keep dn1
 have es0 : w5.cell? ⟨w.heap.size + 1, 0, none⟩ = some (sv.val) := hw5.keep ds0
 have es1 : w5.cell? ⟨w.heap.size + 1, 1, none⟩ = some (sp.val) := hw5.keep ds1
 have es2 : w5.cell? ⟨w.heap.size + 1, 2, none⟩ = some (ss.val) := hw5.keep ds2
 have es3 : w5.cell? ⟨w.heap.size + 1, 3, none⟩ = some (so.val) := hw5.keep ds3
 have eu0 : w5.cell? ⟨w.heap.size + 2, 0, none⟩ = some (.slice none 0 0) := hw5.keep du0
 have eu1 : w5.cell? ⟨w.heap.size + 2, 1, none⟩ = some (.slice none 0 0) := hw5.keep du1
 have eu2 : w5.cell? ⟨w.heap.size + 2, 2, none⟩ = some (.slice none 0 0) := hw5.keep du2
 have eu3 : w5.cell? ⟨w.heap.size + 2, 3, none⟩ = some (.slice none 0 0) := hw5.keep du3
 have ev0 : w5.cell? ⟨w.heap.size + 3, 0, none⟩ = some (.int .i64 0) := hw5.keep dv0
 have ev1 : w5.cell? ⟨w.heap.size + 3, 1, none⟩ = some (.int .i64 0) := hw5.keep dv1
 have ev2 : w5.cell? ⟨w.heap.size + 3, 2, none⟩ = some (.slice none 0 0) := hw5.keep dv2
 have feu0 : w5.frozen? ⟨w.heap.size + 2, 0, none⟩ = false := hw5.keepF du0 fdu0
 have feu1 : w5.frozen? ⟨w.heap.size + 2, 1, none⟩ = false := hw5.keepF du1 fdu1
 have feu2 : w5.frozen? ⟨w.heap.size + 2, 2, none⟩ = false := hw5.keepF du2 fdu2
 have feu3 : w5.frozen? ⟨w.heap.size + 2, 3, none⟩ = false := hw5.keepF du3 fdu3
 have fev0 : w5.frozen? ⟨w.heap.size + 3, 0, none⟩ = false := hw5.keepF dv0 fdv0
 have fev1 : w5.frozen? ⟨w.heap.size + 3, 1, none⟩ = false := hw5.keepF dv1 fdv1
 have fev2 : w5.frozen? ⟨w.heap.size + 3, 2, none⟩ = false := hw5.keepF dv2 fdv2
 have fes2 : w5.frozen? ⟨w.heap.size + 1, 2, none⟩ = false := hw5.keepF ds2 fds2
 have hB5 : Bl w w5 := hB4.trans hw5
 have z5 : w.heap.size + 3 < w5.heap.size := by have := hw5.size; omega
 clear hw5 hB4 z4
 clear dn0 dn1 ds0 ds1 ds2 ds3 du0 du1 du2 du3 dv0 dv1 dv2 fdu0 fdu1 fdu2 fdu3 fdv0 fdv1 fdv2 fds2
 by_cases hq5 : q5 = 0
 case neg =>
  have hq5b : (q5 != 0) = true := by simpa using hq5
  have hq5h := HD hq5
  clear hq5
  go_wp2_with fail
  have hrs := res_set w5 _ (w.heap.size + 2) (w.heap.size + 3) (.slice none 0 0) (.slice none 0 0) (.slice none 0 0) (.slice none 0 0) (.int .i64 0) (.int .i64 0) (.slice none 0 0) rfl (by omega) (by rw [eu0]; rfl) (by rw [eu1]; rfl) (by rw [eu2]; rfl) (by rw [eu3]; rfl) (by rw [ev0]; rfl) (by rw [ev1]; rfl) (by rw [ev2]; rfl)
  exact ret52 _ _ (w.heap.size + 2) (w.heap.size + 3) _ _ _ _ _ _ _ _ _ rfl rfl rfl hrs (RStep.no hq5h.out (Bl.setCell (Bl.setCell (Bl.setCell (Bl.setCell (Bl.setCell (Bl.setCell (Bl.setCell hB5 (by simp only; omega) _) (by simp only; omega) _) (by simp only; omega) _) (by simp only; omega) _) (by simp only; omega) _) (by simp only; omega) _) (by simp only; omega) _))
 subst hq5
 have zs : (w5.cell? ⟨w.heap.size + 1, 2, none⟩).isSome = true := by rw [es2]; rfl
 have gn0 : (w5.setCell ⟨w.heap.size + 1, 2, none⟩ (.slice SA sts.length sc)).cell? ⟨w.heap.size, 0, none⟩ = some (.slice A xs.length c) := (setBlk' (by omega)).trans en0
 have gn1 : (w5.setCell ⟨w.heap.size + 1, 2, none⟩ (.slice SA sts.length sc)).cell? ⟨w.heap.size, 1, none⟩ = some (.slice A2 ls.length c2) := (setBlk' (by omega)).trans en1
 have gs0 : (w5.setCell ⟨w.heap.size + 1, 2, none⟩ (.slice SA sts.length sc)).cell? ⟨w.heap.size + 1, 0, none⟩ = some (sv.val) := (setOff (by decide)).trans es0
 have gs1 : (w5.setCell ⟨w.heap.size + 1, 2, none⟩ (.slice SA sts.length sc)).cell? ⟨w.heap.size + 1, 1, none⟩ = some (sp.val) := (setOff (by decide)).trans es1
 have gs2 : (w5.setCell ⟨w.heap.size + 1, 2, none⟩ (.slice SA sts.length sc)).cell? ⟨w.heap.size + 1, 2, none⟩ = some (.slice SA sts.length sc) := setSame zs
 have gs3 : (w5.setCell ⟨w.heap.size + 1, 2, none⟩ (.slice SA sts.length sc)).cell? ⟨w.heap.size + 1, 3, none⟩ = some (so.val) := (setOff (by decide)).trans es3
 have gu0 : (w5.setCell ⟨w.heap.size + 1, 2, none⟩ (.slice SA sts.length sc)).cell? ⟨w.heap.size + 2, 0, none⟩ = some (.slice none 0 0) := (setBlk' (by omega)).trans eu0
 have gu1 : (w5.setCell ⟨w.heap.size + 1, 2, none⟩ (.slice SA sts.length sc)).cell? ⟨w.heap.size + 2, 1, none⟩ = some (.slice none 0 0) := (setBlk' (by omega)).trans eu1
 have gu2 : (w5.setCell ⟨w.heap.size + 1, 2, none⟩ (.slice SA sts.length sc)).cell? ⟨w.heap.size + 2, 2, none⟩ = some (.slice none 0 0) := (setBlk' (by omega)).trans eu2
 have gu3 : (w5.setCell ⟨w.heap.size + 1, 2, none⟩ (.slice SA sts.length sc)).cell? ⟨w.heap.size + 2, 3, none⟩ = some (.slice none 0 0) := (setBlk' (by omega)).trans eu3
 have gv0 : (w5.setCell ⟨w.heap.size + 1, 2, none⟩ (.slice SA sts.length sc)).cell? ⟨w.heap.size + 3, 0, none⟩ = some (.int .i64 0) := (setBlk' (by omega)).trans ev0
 have gv1 : (w5.setCell ⟨w.heap.size + 1, 2, none⟩ (.slice SA sts.length sc)).cell? ⟨w.heap.size + 3, 1, none⟩ = some (.int .i64 0) := (setBlk' (by omega)).trans ev1
 have gv2 : (w5.setCell ⟨w.heap.size + 1, 2, none⟩ (.slice SA sts.length sc)).cell? ⟨w.heap.size + 3, 2, none⟩ = some (.slice none 0 0) := (setBlk' (by omega)).trans ev2
 have fgu0 : (w5.setCell ⟨w.heap.size + 1, 2, none⟩ (.slice SA sts.length sc)).frozen? ⟨w.heap.size + 2, 0, none⟩ = false := by simp [go_sem, feu0]
 have fgu1 : (w5.setCell ⟨w.heap.size + 1, 2, none⟩ (.slice SA sts.length sc)).frozen? ⟨w.heap.size + 2, 1, none⟩ = false := by simp [go_sem, feu1]
 have fgu2 : (w5.setCell ⟨w.heap.size + 1, 2, none⟩ (.slice SA sts.length sc)).frozen? ⟨w.heap.size + 2, 2, none⟩ = false := by simp [go_sem, feu2]
 have fgu3 : (w5.setCell ⟨w.heap.size + 1, 2, none⟩ (.slice SA sts.length sc)).frozen? ⟨w.heap.size + 2, 3, none⟩ = false := by simp [go_sem, feu3]
 have fgv0 : (w5.setCell ⟨w.heap.size + 1, 2, none⟩ (.slice SA sts.length sc)).frozen? ⟨w.heap.size + 3, 0, none⟩ = false := by simp [go_sem, fev0]
 have fgv1 : (w5.setCell ⟨w.heap.size + 1, 2, none⟩ (.slice SA sts.length sc)).frozen? ⟨w.heap.size + 3, 1, none⟩ = false := by simp [go_sem, fev1]
 have fgv2 : (w5.setCell ⟨w.heap.size + 1, 2, none⟩ (.slice SA sts.length sc)).frozen? ⟨w.heap.size + 3, 2, none⟩ = false := by simp [go_sem, fev2]
 have hB6 : Bl w (w5.setCell ⟨w.heap.size + 1, 2, none⟩ (.slice SA sts.length sc)) := Bl.setCell hB5 (by simp only; omega) _
 have hI6 := HD (show InI (w5.setCell ⟨w.heap.size + 1, 2, none⟩ (.slice SA sts.length sc)) ⟨SA, sc, sts⟩ from OkT.but hI5.out (But.set (But.refl [w.heap.size + 1] w5) _ _ (.inl (by simp))) (fun g hg => by have := hG5.out g hg; simp; omega))
 have z6 : w.heap.size + 3 < (w5.setCell ⟨w.heap.size + 1, 2, none⟩ (.slice SA sts.length sc)).heap.size := by rw [cZ]; exact z5
 go_wp2_with fail
 refine (T82.out _ hB6 ⟨SA, sc, sts⟩ hI6.out).mono ?_
 rintro e w7 ⟨⟨⟨VA, vc, vs⟩, ⟨PA, pc, ps⟩, ⟨TA, tc, ts⟩, ⟨NA, nc, nx⟩⟩, ⟨gi, go, ⟨QA, qc, qs⟩⟩, q, he7, ⟨hIs, hNs⟩, ⟨hIg, hNg⟩, hok, hw7⟩
 obtain rfl : e = .returned (.tuple #[.agg #[.slice VA vs.length vc, .slice PA ps.length pc, .slice TA ts.length tc, .slice NA nx.length nc], .agg #[.int .i64 gi, .int .i64 go, .slice QA qs.length qc], .int .i64 q]) := he7
 have hn0 : w7.cell? ⟨w.heap.size, 0, none⟩ = some (.slice A xs.length c) := hw7.keep gn0
 have hn1 : w7.cell? ⟨w.heap.size, 1, none⟩ = some (.slice A2 ls.length c2) := hw7.keep gn1
 have hs0 : w7.cell? ⟨w.heap.size + 1, 0, none⟩ = some (sv.val) := hw7.keep gs0
 have hs1 : w7.cell? ⟨w.heap.size + 1, 1, none⟩ = some (sp.val) := hw7.keep gs1
 have hs2 : w7.cell? ⟨w.heap.size + 1, 2, none⟩ = some (.slice SA sts.length sc) := hw7.keep gs2
 have hs3 : w7.cell? ⟨w.heap.size + 1, 3, none⟩ = some (so.val) := hw7.keep gs3
 have hu0 : w7.cell? ⟨w.heap.size + 2, 0, none⟩ = some (.slice none 0 0) := hw7.keep gu0
 have hu1 : w7.cell? ⟨w.heap.size + 2, 1, none⟩ = some (.slice none 0 0) := hw7.keep gu1
 have hu2 : w7.cell? ⟨w.heap.size + 2, 2, none⟩ = some (.slice none 0 0) := hw7.keep gu2
 have hu3 : w7.cell? ⟨w.heap.size + 2, 3, none⟩ = some (.slice none 0 0) := hw7.keep gu3
 have hv0 : w7.cell? ⟨w.heap.size + 3, 0, none⟩ = some (.int .i64 0) := hw7.keep gv0
 have hv1 : w7.cell? ⟨w.heap.size + 3, 1, none⟩ = some (.int .i64 0) := hw7.keep gv1
 have hv2 : w7.cell? ⟨w.heap.size + 3, 2, none⟩ = some (.slice none 0 0) := hw7.keep gv2
 have fhu0 : w7.frozen? ⟨w.heap.size + 2, 0, none⟩ = false := hw7.keepF gu0 fgu0
 have fhu1 : w7.frozen? ⟨w.heap.size + 2, 1, none⟩ = false := hw7.keepF gu1 fgu1
 have fhu2 : w7.frozen? ⟨w.heap.size + 2, 2, none⟩ = false := hw7.keepF gu2 fgu2
 have fhu3 : w7.frozen? ⟨w.heap.size + 2, 3, none⟩ = false := hw7.keepF gu3 fgu3
 have fhv0 : w7.frozen? ⟨w.heap.size + 3, 0, none⟩ = false := hw7.keepF gv0 fgv0
 have fhv1 : w7.frozen? ⟨w.heap.size + 3, 1, none⟩ = false := hw7.keepF gv1 fgv1
 have fhv2 : w7.frozen? ⟨w.heap.size + 3, 2, none⟩ = false := hw7.keepF gv2 fgv2
 have hB7 : Bl w w7 := hB6.trans hw7
 have z7 : w.heap.size + 3 < w7.heap.size := by have := hw7.size; omega
 have hIsh := HD hIs
 have hIgh := HD hIg
 have hokh := HD hok
 have hZ := HD z6
 have hNsh := HD hNs
 have hNgh := HD hNg
 clear hIs hIg hok hNs hNg hw7 hB6 z6 hB5 z5 zs T82 hI6 hI5
 clear en0 en1 es0 es1 es2 es3 eu0 eu1 eu2 eu3 ev0 ev1 ev2 feu0 feu1 feu2 feu3 fev0 fev1 fev2 fes2
 clear gn0 gn1 gs0 gs1 gs2 gs3 gu0 gu1 gu2 gu3 gv0 gv1 gv2 fgu0 fgu1 fgu2 fgu3 fgv0 fgv1 fgv2
 go_wp2_with fail
 have hrs := res_set w7 _ (w.heap.size + 2) (w.heap.size + 3) (.slice VA vs.length vc) (.slice PA ps.length pc) (.slice TA ts.length tc) (.slice NA nx.length nc) (.int .i64 gi) (.int .i64 go) (.slice QA qs.length qc) rfl (by omega) (by rw [hu0]; rfl) (by rw [hu1]; rfl) (by rw [hu2]; rfl) (by rw [hu3]; rfl) (by rw [hv0]; rfl) (by rw [hv1]; rfl) (by rw [hv2]; rfl)
 have hbx : But [w.heap.size + 2, w.heap.size + 3] w7 (((((((w7.setCell ⟨w.heap.size + 2, 0, none⟩ (.slice VA vs.length vc)).setCell ⟨w.heap.size + 2, 1, none⟩ (.slice PA ps.length pc)).setCell ⟨w.heap.size + 2, 2, none⟩ (.slice TA ts.length tc)).setCell ⟨w.heap.size + 2, 3, none⟩ (.slice NA nx.length nc)).setCell ⟨w.heap.size + 3, 0, none⟩ (.int .i64 gi)).setCell ⟨w.heap.size + 3, 1, none⟩ (.int .i64 go)).setCell ⟨w.heap.size + 3, 2, none⟩ (.slice QA qs.length qc)) := (But.set (But.set (But.set (But.set (But.set (But.set (But.set (But.refl _ _) _ _ (.inl (by simp))) _ _ (.inl (by simp))) _ _ (.inl (by simp))) _ _ (.inl (by simp))) _ _ (.inl (by simp))) _ _ (.inl (by simp))) _ _ (.inl (by simp)))
 refine ret52 _ _ (w.heap.size + 2) (w.heap.size + 3) _ _ _ _ _ _ _ (.int .i64 q) _ rfl rfl rfl hrs ?_
 have hz5 := hZ.out
 rw [cZ] at hz5
 exact ⟨⟨⟨VA, vc, vs⟩, ⟨PA, pc, ps⟩, ⟨TA, tc, ts⟩, ⟨NA, nc, nx⟩⟩, ⟨gi, go, ⟨QA, qc, qs⟩⟩, q, rfl, ⟨InSt.but hIsh.out hbx (fun g hg => by have h1 := hNsh.out.1 g hg; rw [cZ] at h1; simp; omega) (fun g hg => by have h1 := hNsh.out.2.1 g hg; rw [cZ] at h1; simp; omega) (fun g hg => by have h1 := hNsh.out.2.2.1 g hg; rw [cZ] at h1; simp; omega) (fun g hg => by have h1 := hNsh.out.2.2.2 g hg; rw [cZ] at h1; simp; omega), (fun g hg => by have h1 := hNsh.out.1 g hg; rw [cZ] at h1; omega), (fun g hg => by have h1 := hNsh.out.2.1 g hg; rw [cZ] at h1; omega), (fun g hg => by have h1 := hNsh.out.2.2.1 g hg; rw [cZ] at h1; omega), (fun g hg => by have h1 := hNsh.out.2.2.2 g hg; rw [cZ] at h1; omega)⟩, ⟨OkT.but hIgh.out hbx (fun g hg => by have h1 := hNgh.out g hg; rw [cZ] at h1; simp; omega), (fun g hg => by have h1 := hNgh.out g hg; rw [cZ] at h1; omega)⟩, fun e => StepOk.set (hokh.out e), (Bl.setCell (Bl.setCell (Bl.setCell (Bl.setCell (Bl.setCell (Bl.setCell (Bl.setCell hB7 (by simp only; omega) _) (by simp only; omega) _) (by simp only; omega) _) (by simp only; omega) _) (by simp only; omega) _) (by simp only; omega) _) (by simp only; omega) _)⟩
theorem f52_c (n : Net) (l : Sl Sec) (rl : Sl Rul) (s : St) (inf : Sl Int) (sec : Int) (w : World) (hN : InNet w n) (hl : InSecs w l) (hr : InRuls w rl) (ht : InSt w s) (hI : InI w inf) : Calls Tryz.prog 52 #[n.val, l.val, rl.val, s.val, inf.val, .int .i64 sec] w (RStep n s inf.xs w) := by
 obtain ⟨⟨A, c, xs⟩, ⟨A2, c2, ls⟩⟩ := n
 obtain ⟨sv, sp, ss, so⟩ := s
 obtain ⟨IA, ic, is⟩ := inf
 exact f52_core A A2 IA c c2 ic xs ls is l rl sv sp ss so sec w hN hl hr ht hI
def rankE (v : Int) : Int := if v = 4 then 0 else if v = 10 then 1 else if v = 9 then 2 else -1
theorem f79_c (b : Nat) (v : Int) (w : World) (h0 : w.cell? ⟨b, 0, none⟩ = some (.int .i64 4)) (h1 : w.cell? ⟨b, 1, none⟩ = some (.int .i64 10)) (h2 : w.cell? ⟨b, 2, none⟩ = some (.int .i64 9)) :
 Calls Tryz.prog 79 #[.slice (some ⟨b, 0, none⟩) 3 3, .int .i64 v] w fun e w' => e = .returned (.int .i64 (rankE v)) /\ w = w' := by
 by_cases q4 : v = 4
 ·subst q4
  go_enter Tryz.func79, Tryz.ntmps79
  go_wp2_with fail
  refine wp_loop_rounds 4 ?_
  rw [rounds_succ]
  go_wp2_with fail
  go_ret
  exact ⟨rfl, rfl⟩
 by_cases q10 : v = 10
 ·subst q10
  go_enter Tryz.func79, Tryz.ntmps79
  go_wp2_with fail
  refine wp_loop_rounds 4 ?_
  rw [rounds_succ]
  go_wp2_with fail
  rw [rounds_succ]
  go_wp2_with fail
  go_ret
  exact ⟨rfl, rfl⟩
 by_cases q9 : v = 9
 ·subst q9
  go_enter Tryz.func79, Tryz.ntmps79
  go_wp2_with fail
  refine wp_loop_rounds 4 ?_
  rw [rounds_succ]
  go_wp2_with fail
  rw [rounds_succ]
  go_wp2_with fail
  rw [rounds_succ]
  go_wp2_with fail
  go_ret
  exact ⟨rfl, rfl⟩
 ·have hr : Hid (rankE v = -1) := (by unfold rankE; rw [if_neg q4, if_neg q10, if_neg q9] : rankE v = -1)
  have b4 : (v == 4) = false := by simpa using q4
  have b10 : (v == 10) = false := by simpa using q10
  have b9 : (v == 9) = false := by simpa using q9
  clear q4 q10 q9
  go_enter Tryz.func79, Tryz.ntmps79
  go_wp2_with fail
  refine wp_loop_rounds 4 ?_
  rw [rounds_succ]
  go_wp2_with fail
  rw [rounds_succ]
  go_wp2_with fail
  rw [rounds_succ]
  go_wp2_with fail
  rw [rounds_succ]
  go_wp2_with fail
  go_ret
  exact ⟨ret_int hr.out.symm, rfl⟩
def RWorse (b : Nat) (w : World) (e : Ending) (w' : World) : Prop := ∃ v : Int, e = .returned (.tuple #[]) /\ w'.cell? ⟨b, 0, none⟩ = some (.int .i64 v) /\ w'.frozen? ⟨b, 0, none⟩ = false /\ (v = 4 \/ v = 10 \/ v = 9) /\ But [b] w w'
theorem f78_c (f ev : Int) (b : Nat) (w : World) (hc : w.cell? ⟨b, 0, none⟩ = some (.int .i64 ev)) (hf : w.frozen? ⟨b, 0, none⟩ = false) (h1 : f = 4 \/ f = 10 \/ f = 9) (h2 : ev = 0 \/ ev = 4 \/ ev = 10 \/ ev = 9) :
 Calls Tryz.prog 78 #[.int .i64 f, .pointer (some ⟨b, 0, none⟩)] w (RWorse b w) := by
 have hbw := cell_lt hc
 simp only at hbw
 have hev : Hid (¬ rankE ev < rankE f -> ev = 4 \/ ev = 10 \/ ev = 9) := fun h => by
  rcases h2 with e | e
  ·subst e
   exfalso
   apply h
   rcases h1 with e | e | e <;> subst e <;> decide
  ·exact e
 have h1h := HD h1
 clear h1 h2
 have T := HD (fun W v => f79_c w.heap.size v W)
 generalize hre : rankE ev = re at *
 generalize hrf : rankE f = rf at *
 have hreh := HD hre
 have hrfh := HD hrf
 clear hre hrf
 go_enter Tryz.func78, Tryz.ntmps78
 go_wp2_with fail
 have p0 : ∀ z : Later (w.alloc (Obj.cells #[.int .i64 4, .int .i64 10, .int .i64 9] 61)), z.at'.cell? ⟨w.heap.size, 0, none⟩ = some (.int .i64 4) := fun z => z.keep (by simp [go_sem])
 have p1 : ∀ z : Later (w.alloc (Obj.cells #[.int .i64 4, .int .i64 10, .int .i64 9] 61)), z.at'.cell? ⟨w.heap.size, 1, none⟩ = some (.int .i64 10) := fun z => z.keep (by simp [go_sem])
 have p2 : ∀ z : Later (w.alloc (Obj.cells #[.int .i64 4, .int .i64 10, .int .i64 9] 61)), z.at'.cell? ⟨w.heap.size, 2, none⟩ = some (.int .i64 9) := fun z => z.keep (by simp [go_sem])
 have hB0 : Bl w (w.alloc (Obj.cells #[.int .i64 4, .int .i64 10, .int .i64 9] 61)) := bz
 have pb : ∀ z : Later (w.alloc (Obj.cells #[.int .i64 4, .int .i64 10, .int .i64 9] 61)), z.at'.cell? ⟨b, 0, none⟩ = some (.int .i64 ev) := fun z => z.keep (hB0.keep hc)
 refine wp_region_later (by kernel_rfl) (by kernel_rfl) ?_
 repeat (go_big_quiet_step ((go_at_call 79; (with_reducible exact Calls.later_same (T.out _ _ (p0 _) (p1 _) (p2 _))))))
 refine wpQuiet_nil ?_
 intro w3 hB3
 have hB : Bl w w3 := hB0.trans hB3
 have q0 := hB.keep hc
 have q1 := hB.keepF hc hf
 rw [hreh.out, hrfh.out]
 clear p0 p1 p2 pb hB0 hB3
 by_cases hr : re < rf
 ·go_wp2_with fail
  refine ⟨rfl, .tuple #[], by simp [results, Tryz.results78, go_sem], ?_⟩
  refine ⟨f, rfl, setSame (by rw [q0]; rfl), by simp [go_sem, q1], h1h.out, (But.of hB).set _ _ (.inl (by simp))⟩
 ·have h9 := HD (hev (by omega))
  go_wp2_with fail
  refine ⟨rfl, .tuple #[], by simp [results, Tryz.results78, go_sem], ?_⟩
  exact ⟨ev, rfl, q0, q1, h9.out, But.of hB⟩
theorem sumTo_add (f g : Nat -> Int) : ∀ k, sumTo (fun i => f i + g i) k = sumTo f k + sumTo g k
 | 0 => rfl
 | k + 1 => by simp only [sumTo]; rw [sumTo_add f g k]; omega
theorem sumTo_sub (f g : Nat -> Int) : ∀ k, sumTo (fun i => f i - g i) k = sumTo f k - sumTo g k
 | 0 => rfl
 | k + 1 => by simp only [sumTo]; rw [sumTo_sub f g k]; omega
theorem sumTo_zero : ∀ k, sumTo (fun _ => 0) k = 0
 | 0 => rfl
 | k + 1 => by simp only [sumTo]; rw [sumTo_zero k]; rfl
theorem sumTo_swap (f : Nat -> Nat -> Int) (L : Nat) : ∀ m, sumTo (fun i => sumTo (f i) L) m = sumTo (fun k => sumTo (fun i => f i k) m) L
 | 0 => by
  show (0 : Int) = sumTo (fun _ => 0) L
  rw [sumTo_zero]
 | m + 1 => by
  show sumTo (fun i => sumTo (f i) L) m + sumTo (f m) L = sumTo (fun k => sumTo (fun i => f i k) m + f m k) L
  rw [sumTo_swap f L m, sumTo_add]
theorem sumTo_pick (e : Nat) (g : Nat -> Int) : ∀ m, sumTo (fun i => if (e : Int) = (i : Int) then g i else 0) m = if e < m then g e else 0
 | 0 => rfl
 | m + 1 => by
  show sumTo (fun i => if (e : Int) = (i : Int) then g i else 0) m + (if (e : Int) = (m : Int) then g m else 0) = _
  rw [sumTo_pick e g m]
  by_cases h : e = m
  ·subst h; simp
  ·by_cases h2 : e < m
   ·rw [if_pos h2, if_neg (by omega), if_pos (by omega)]; omega
   ·rw [if_neg h2, if_neg (by omega), if_neg (by omega)]; omega
theorem sumTo_if (c : Bool) (f : Nat -> Int) (k : Nat) : (if c = true then sumTo f k else 0) = sumTo (fun i => if c = true then f i else 0) k := by
 cases c
 ·simp [sumTo_zero]
 ·simp
def edA (n : Net) (k : Nat) : Nat := ((edgesN n)[k]!).1.toNat
def edD (n : Net) (k : Nat) : Nat := ((edgesN n)[k]!).2.toNat
theorem edges_at {n : Net} (h : netB n = true) {k : Nat} (hk : k < n.links.xs.length) :
 ((edgesN n)[k]!).1 = (edA n k : Int) /\ ((edgesN n)[k]!).2 = (edD n k : Int) /\ edA n k < n.nodes.xs.length /\ edD n k < n.nodes.xs.length /\ kd n.nodes.xs (edA n k) ≠ 3 := by
 have h1 := (((netB_iff n).mp h).2.2.2 k hk).2.2
 have e : (edgesN n)[k]! = (ndIx n n.links.xs[k].src, ndIx n n.links.xs[k].dst) := by
  rw [getElem!_pos _ k (by simpa [edgesN] using hk)]
  simp [edgesN]
 unfold edA edD
 rw [e]
 simp only [lkB, Bool.and_eq_true, decide_eq_true_eq, Bool.not_eq_true', beq_eq_false_iff_ne, ne_eq] at h1
 obtain ⟨⟨h2, h3⟩, h4⟩ := h1
 have r1 := ix_range (fun y : Nd => y.name == n.links.xs[k].src) n.nodes.xs
 have r2 := ix_range (fun y : Nd => y.name == n.links.xs[k].dst) n.nodes.xs
 have d1 : ix (fun y : Nd => y.name == n.links.xs[k].src) n.nodes.xs = ndIx n n.links.xs[k].src := rfl
 have d2 : ix (fun y : Nd => y.name == n.links.xs[k].dst) n.nodes.xs = ndIx n n.links.xs[k].dst := rfl
 rw [d1] at r1
 rw [d2] at r2
 rcases r1 with r1 | ⟨i, hi, r1⟩
 ·omega
 rcases r2 with r2 | ⟨j, hj, r2⟩
 ·omega
 rw [kindAt_of n r1 hi] at h4
 rw [r1, r2]
 refine ⟨by simp, by simp, by simpa using hi, by simpa using hj, ?_⟩
 intro h5
 refine h4 ?_
 rw [Int.toNat_natCast] at h5
 unfold kd at h5
 rwa [getElem!_pos _ i hi] at h5
def crossE (P : Nat -> Bool) (a d : Nat) (p : Int) : Int := if P d && !P a then p else if P a && !P d then -p else 0
def nodeT (s s' : St) (inf : List Int) (i : Nat) : Int := s.vol.xs[i]! + s.pond.xs[i]! + inf[i]! - s'.vol.xs[i]! - s'.pond.xs[i]!
theorem outfall_zero {n : Net} {s : St} (h : StateOk n s) {i : Nat} (hi : i < n.nodes.xs.length) (hk : kd n.nodes.xs i = 3) : s.vol.xs[i]! = 0 /\ s.pond.xs[i]! = 0 := by
 have h1 : i < s.vol.xs.length := by have := h.2.1; omega
 have h2 : i < s.pond.xs.length := by have := h.2.2.1; omega
 obtain ⟨a, b, c⟩ := h.2.2.2.2.2.1 i hi h1 h2
 have hk' : n.nodes.xs[i].kind = 3 := by
  have := hk
  unfold kd at this
  rwa [getElem!_pos _ i hi] at this
 rw [inR_iff] at a
 have hc : capN n.nodes.xs[i] = 0 := by simp [capN, hk']
 rw [getElem!_pos _ i h1, getElem!_pos _ i h2]
 exact ⟨by omega, c hk'⟩
theorem part_law {n : Net} {s s' : St} {inf : List Int} {g : Led} (hs : StateOk n s) (h : StepOk n s s' inf g) (P : Nat -> Bool) :
 sumTo (fun i => if P i = true then nodeT s s' inf i else 0) n.nodes.xs.length + sumTo (fun k => crossE P (edA n k) (edD n k) (g.pass.xs[k]!)) n.links.xs.length =
 sumTo (fun i => if P i = true then (if kd n.nodes.xs i = 3 then inf[i]! else 0) else 0) n.nodes.xs.length + sumTo (fun k => if P (edD n k) = true then (if kd n.nodes.xs (edD n k) = 3 then g.pass.xs[k]! else 0) else 0) n.links.xs.length := by
 have hn := hs.1
 have E1 : ∀ i, i < n.nodes.xs.length -> (if P i = true then nodeT s s' inf i else 0) = (if P i = true then (if kd n.nodes.xs i = 3 then inf[i]! else 0) else 0) + ((if P i = true then outS (edgesN n) g.pass.xs i n.links.xs.length else 0) - (if P i = true then (if kd n.nodes.xs i = 3 then 0 else inS (edgesN n) g.pass.xs i n.links.xs.length) else 0)) := fun i hi => by
  cases hp : P i
  ·simp
  ·simp only [if_true]
   by_cases h3 : kd n.nodes.xs i = 3
   ·obtain ⟨a, b⟩ := outfall_zero hs hi h3
    obtain ⟨a', b'⟩ := outfall_zero h.ok hi h3
    have ho : outS (edgesN n) g.pass.xs i n.links.xs.length = 0 := by
     unfold outS
     rw [sumTo_congr (g := fun _ => 0) _ (fun k hk => ?_), sumTo_zero]
     obtain ⟨q1, q2, q3, q4, q5⟩ := edges_at hn hk
     rw [if_neg]
     intro e
     rw [q1] at e
     have : edA n k = i := by omega
     rw [this] at q5
     exact q5 h3
    rw [if_pos h3, if_pos h3, ho]
    unfold nodeT
    omega
   ·have hb := h.bal i hi h3
    rw [if_neg h3, if_neg h3]
    unfold nodeT
    omega
 rw [sumTo_congr _ E1, sumTo_add, sumTo_sub]
 have E2 : sumTo (fun i => if P i = true then outS (edgesN n) g.pass.xs i n.links.xs.length else 0) n.nodes.xs.length = sumTo (fun k => if P (edA n k) = true then g.pass.xs[k]! else 0) n.links.xs.length := by
  unfold outS
  rw [sumTo_congr (g := fun i => sumTo (fun k => if P i = true then (if ((edgesN n)[k]!).1 = (i : Int) then g.pass.xs[k]! else 0) else 0) n.links.xs.length) _ (fun i _ => sumTo_if (P i) _ _), sumTo_swap]
  refine sumTo_congr _ (fun k hk => ?_)
  obtain ⟨q1, q2, q3, q4, q5⟩ := edges_at hn hk
  rw [sumTo_congr (g := fun i => if (edA n k : Int) = (i : Int) then (if P i = true then g.pass.xs[k]! else 0) else 0) _ (fun i _ => by rw [q1]; by_cases hh : (edA n k : Int) = (i : Int) <;> cases P i <;> simp [hh]), sumTo_pick, if_pos q3]
 have E3 : sumTo (fun i => if P i = true then (if kd n.nodes.xs i = 3 then 0 else inS (edgesN n) g.pass.xs i n.links.xs.length) else 0) n.nodes.xs.length = sumTo (fun k => if P (edD n k) = true then (if kd n.nodes.xs (edD n k) = 3 then 0 else g.pass.xs[k]!) else 0) n.links.xs.length := by
  unfold inS
  rw [sumTo_congr (g := fun i => sumTo (fun k => if ((edgesN n)[k]!).2 = (i : Int) then (if P i = true then (if kd n.nodes.xs i = 3 then 0 else g.pass.xs[k]!) else 0) else 0) n.links.xs.length) _ (fun i _ => ?_), sumTo_swap]
  ·refine sumTo_congr _ (fun k hk => ?_)
   obtain ⟨q1, q2, q3, q4, q5⟩ := edges_at hn hk
   rw [sumTo_congr (g := fun i => if (edD n k : Int) = (i : Int) then (if P i = true then (if kd n.nodes.xs i = 3 then 0 else g.pass.xs[k]!) else 0) else 0) _ (fun i _ => by rw [q2]), sumTo_pick, if_pos q4]
  ·cases P i
   ·simp [sumTo_zero]
   ·by_cases h3 : kd n.nodes.xs i = 3
    ·simp [h3, sumTo_zero]
    ·simp [h3]
 rw [E2, E3]
 have E4 : sumTo (fun k => crossE P (edA n k) (edD n k) (g.pass.xs[k]!)) n.links.xs.length = sumTo (fun k => (if P (edD n k) = true then (if kd n.nodes.xs (edD n k) = 3 then g.pass.xs[k]! else 0) else 0) + (if P (edD n k) = true then (if kd n.nodes.xs (edD n k) = 3 then 0 else g.pass.xs[k]!) else 0) - (if P (edA n k) = true then g.pass.xs[k]! else 0)) n.links.xs.length := by
  refine sumTo_congr _ (fun k hk => ?_)
  unfold crossE
  cases P (edA n k) <;> cases P (edD n k) <;> by_cases h3 : kd n.nodes.xs (edD n k) = 3 <;> simp [h3]
 rw [E4, sumTo_sub, sumTo_add]
 omega
theorem whole_law {n : Net} {s s' : St} {inf : List Int} {g : Led} (hs : StateOk n s) (h : StepOk n s s' inf g) : heldS s' + g.out = heldS s + g.inn := by
 have hp := part_law hs h (fun _ => true)
 have e1 : s.vol.xs.length = n.nodes.xs.length := hs.2.1
 have e2 : s'.vol.xs.length = n.nodes.xs.length := h.ok.2.1
 unfold heldS
 rw [e1, e2, h.inn, h.out]
 unfold cameS wentS
 rw [sumTo_congr (g := fun k => 0) n.links.xs.length (fun k _ => by simp [crossE]), sumTo_zero] at hp
 simp only [if_true] at hp
 have e3 : sumTo (fun i => nodeT s s' inf i) n.nodes.xs.length = sumTo (fun i => s.vol.xs[i]! + s.pond.xs[i]!) n.nodes.xs.length + sumTo (fun i => inf[i]!) n.nodes.xs.length - sumTo (fun i => s'.vol.xs[i]! + s'.pond.xs[i]!) n.nodes.xs.length := by
  rw [<- sumTo_add, <- sumTo_sub]
  exact sumTo_congr _ (fun i _ => by unfold nodeT; omega)
 rw [e3] at hp
 have e4 : sumTo (fun k => if kd n.nodes.xs ((edgesN n)[k]!).2.toNat = 3 then g.pass.xs[k]! else 0) n.links.xs.length = sumTo (fun k => if kd n.nodes.xs (edD n k) = 3 then g.pass.xs[k]! else 0) n.links.xs.length := rfl
 rw [e4]
 omega
theorem held_bound {n : Net} {s : St} (h : StateOk n s) : 0 ≤ heldS s /\ heldS s ≤ n.nodes.xs.length * 2251799813685248 := by
 unfold heldS
 rw [<- h.2.1]
 refine sumTo_bound _ (fun i hi => ?_)
 have := state_bounds h i hi
 omega
theorem inn_bound {n : Net} {s s' : St} {inf : List Int} {g : Led} (h : StepOk n s s' inf g) : 0 ≤ g.inn /\ g.inn ≤ n.nodes.xs.length * 1125899906842624 := by
 rw [h.inn]
 exact sumTo_bound _ (fun i hi => h.ib i (by rw [h.il]; exact hi))
theorem out_bound {n : Net} {s s' : St} {inf : List Int} {g : Led} (hs : StateOk n s) (h : StepOk n s s' inf g) : 0 ≤ g.out /\ g.out ≤ n.nodes.xs.length * 3377699720527872 := by
 have h1 := whole_law hs h
 have h2 := held_bound hs
 have h3 := held_bound h.ok
 have h4 := inn_bound h
 constructor
 ·rw [h.out]
  have a := cameS_bound (xs := n.nodes.xs) (m := n.nodes.xs.length) (fun k hk => h.ib k (by rw [h.il]; exact hk)) (Nat.le_refl _)
  have b := wentS_bound (xs := n.nodes.xs) (es := edgesN n) (m := n.links.xs.length) h.pb (Nat.le_refl _)
  omega
 ·omega
def atOne (n : Net) (k : Nat) (o : List Int) (x : Infl) : List Int := if 0 ≤ ndIx n x.node /\ k < x.vols.xs.length then o.set (ndIx n x.node).toNat (x.vols.xs[k]!) else o
def atL (n : Net) (k : Nat) (l : List Infl) : List Int := l.foldl (atOne n k) (List.replicate n.nodes.xs.length 0)
def RAt (n : Net) (k : Nat) (l : List Infl) (w : World) (e : Ending) (w' : World) : Prop := ∃ s' : Sl Int, e = .returned s'.val /\ s'.xs = atL n k l /\ (InI w' s' /\ New w s') /\ Bl w w'
theorem atOne_len (n : Net) (k : Nat) (o : List Int) (x : Infl) : (atOne n k o x).length = o.length := by unfold atOne; split <;> simp
set_option maxHeartbeats 4000000 in
theorem f53_core (A A2 FA : Option Addr) (c c2 fc : Nat) (xs : List Nd) (ls : List Lk) (fs : List Infl) (k : Nat) (w : World) (hN : InNet w ⟨⟨A, c, xs⟩, ⟨A2, c2, ls⟩⟩) (hF : InInfls w ⟨FA, fc, fs⟩) (hb : netB ⟨⟨A, c, xs⟩, ⟨A2, c2, ls⟩⟩ = true)
 (hx : xs.length ≤ 300) : Calls Tryz.prog 53 #[.agg #[.slice A xs.length c, .slice A2 ls.length c2], .slice FA fs.length fc, .int .i64 k] w (RAt ⟨⟨A, c, xs⟩, ⟨A2, c2, ls⟩⟩ k fs w) := by
 have T56 := HD (fun W nm (h : Bl w W) => f56_c ⟨⟨A, c, xs⟩, ⟨A2, c2, ls⟩⟩ nm W (InNet.up hN h))
 have hFh := HD hF
 have hr := hF.room
 have hbh := HD hb
 simp only at hr
 clear hN hF hb
 obtain ⟨R, hR⟩ : ∃ R, R = RAt ⟨⟨A, c, xs⟩, ⟨A2, c2, ls⟩⟩ k fs w := ⟨_, rfl⟩
 rw [<- hR]
 have hRh := HD hR
 clear hR
 obtain ⟨i1, hi1, hz01, hz11, hz21⟩ := i3
 have HJ := HD (And.intro hi1 (And.intro hz01 (And.intro hz11 hz21)))
 have HU := HD u28
 clear hi1 hz01 hz11 hz21
 go_enter Tryz.func53, Tryz.ntmps53
 go_wp2_with (at_make; refine wpList_make_full _ rfl _ _ 28 rfl w.heap.size 3 i1 (.int .i64 0) 1 HU.out HJ.out.1 HJ.out.2.1 HJ.out.2.2.1 .i64 .i64 _ _ xs.length rfl rfl rfl rfl (by rw [HJ.out.2.2.2]; omega) (by unfold maxLen; omega) (by simp) ?_)
 intro w1 hown hgr
 have hB1 : Bl w w1 := Bl.grown bz hgr (fun g hg => by cases hg)
 have hrep : (madeCells #[Value.int .i64 0] xs.length).toList = (List.replicate xs.length (0 : Int)).map IV := by
  rw [toList_madeCells_one, List.map_replicate]
  rfl
 rw [hrep] at hown
 have hO1 := HD (show Own1 IV 3 w.heap.size w1 ⟨some ⟨w.heap.size + 1, 0, none⟩, xs.length, List.replicate xs.length (0 : Int)⟩ from by
  unfold Own1
  simp only [Sl.val, List.length_replicate]
  simpa using hown)
 have b0 : w1.cell? ⟨w.heap.size, 0, none⟩ = some (.slice A xs.length c) := by
  rw [World.cell?_of_block (w := w.alloc (Obj.cells #[.slice A xs.length c, .slice A2 ls.length c2] 25)) (hgr.block _ (by simp) (by simp))]
  simp [go_sem]
 have b1 : w1.cell? ⟨w.heap.size, 1, none⟩ = some (.slice A2 ls.length c2) := by
  rw [World.cell?_of_block (w := w.alloc (Obj.cells #[.slice A xs.length c, .slice A2 ls.length c2] 25)) (hgr.block _ (by simp) (by simp))]
  simp [go_sem]
 have z1 : w.heap.size + 1 < w1.heap.size := (hO1.out.lt _ rfl).2
 clear hown hgr hrep
 go_wp2_with fail
 go_loopg [18] fs.length (fun gg s18 wr => ∃ (kk : Nat), kk ≤ fs.length /\ fs.length - kk ≤ gg /\ s18 = .int .i64 kk /\ Aside (Bl w wr) /\ Aside (w.heap.size + 1 < wr.heap.size) /\ Aside (wr.cell? ⟨w.heap.size, 0, none⟩ = some (.slice A xs.length c)) /\ Aside (wr.cell? ⟨w.heap.size, 1, none⟩ = some (.slice A2 ls.length c2)) /\ Aside (Own1 IV 3 w.heap.size wr ⟨some ⟨w.heap.size + 1, 0, none⟩, xs.length, (fs.take kk).foldl (atOne ⟨⟨A, c, xs⟩, ⟨A2, c2, ls⟩⟩ k) (List.replicate xs.length 0)⟩) /\ Aside (((fs.take kk).foldl (atOne ⟨⟨A, c, xs⟩, ⟨A2, c2, ls⟩⟩ k) (List.replicate xs.length 0)).length = xs.length))
 case atStart => exact ⟨0, Nat.zero_le _, by omega, rfl, hB1, aside z1, aside b0, aside b1, hO1.out, aside (by simp)⟩
 case round =>
  clear hB1 z1 b0 b1 hO1
  obtain ⟨kk, hkk, hg, rfl, BW, Z, C0, C1, OW, OL⟩ := hrel
  have BW' := BW.out
  have Z' := Z.out
  have Z0 : w.heap.size < wr.heap.size := by omega
  have C0' := C0.out
  have C1' := C1.out
  by_cases hlt : kk < fs.length
  ·have hltz : (kk : Int) < (fs.length : Int) := by omega
   have hkz : (0 : Int) ≤ (kk : Int) := by omega
   obtain ⟨bF, offF, hA, _, _, _⟩ := hFh.out.place (by intro e; simp only at e; rw [e] at hlt; simp at hlt)
   simp only at hA
   subst hA
   have hc := Sl.Ok.cells hFh.out rfl wr BW' kk hlt
   have hgood := HD (fun W (h : Bl w W) => (InInfls.up hFh.out h).each fs[kk] (List.getElem_mem _))
   simp only at hc
   have htk : Hid ((fs.take (kk + 1)).foldl (atOne ⟨⟨A, c, xs⟩, ⟨A2, c2, ls⟩⟩ k) (List.replicate xs.length 0) = atOne ⟨⟨A, c, xs⟩, ⟨A2, c2, ls⟩⟩ k ((fs.take kk).foldl (atOne ⟨⟨A, c, xs⟩, ⟨A2, c2, ls⟩⟩ k) (List.replicate xs.length 0)) fs[kk]) := by
    rw [List.take_succ_eq_append_getElem hlt, List.foldl_append]; rfl
   generalize hq : (fs.take kk).foldl (atOne ⟨⟨A, c, xs⟩, ⟨A2, c2, ls⟩⟩ k) (List.replicate xs.length 0) = q at OW OL htk
   clear hq
   generalize fs[kk] = y at hc hgood htk
   obtain ⟨yn, ⟨YA, yc, ys⟩⟩ := y
   have e0 : wr.cell? ⟨bF, offF + kk * 2, none⟩ = some (.string yn) := hc 0 _ rfl
   have e1 : wr.cell? ⟨bF, offF + kk * 2 + 1, none⟩ = some (.slice YA ys.length yc) := hc 1 _ rfl
   have hBa : Bl wr (wr.alloc (Obj.cells #[.string yn, .slice YA ys.length yc] 54)) := bz
   have hBaw : Bl w (wr.alloc (Obj.cells #[.string yn, .slice YA ys.length yc] 54)) := BW'.trans hBa
   have hnd := HD (show ndErr ⟨⟨A, c, xs⟩, ⟨A2, c2, ls⟩⟩ yn = if ndIx ⟨⟨A, c, xs⟩, ⟨A2, c2, ls⟩⟩ yn < 0 then .tuple #[.int .i64 0, .int .i64 9] else .tuple #[.int .i64 (ndIx ⟨⟨A, c, xs⟩, ⟨A2, c2, ls⟩⟩ yn), .int .i64 0] from by unfold ndErr; rw [if_pos hbh.out])
   clear hc
   go_wp2_with fail
   refine (T56.out _ yn hBaw).mono ?_
   rintro e w5 ⟨rfl, hw5⟩
   rw [hnd.out]
   have a0 := hw5.keep (hBa.keep C0')
   have a1 := hw5.keep (hBa.keep C1')
   have p1 : w5.cell? ⟨wr.heap.size, 1, none⟩ = some (.slice YA ys.length yc) := hw5.keep (by simp [go_sem])
   have hB5 : Bl w w5 := hBaw.trans hw5
   have z5 : w.heap.size + 1 < w5.heap.size := by have := hw5.size; simp at this; omega
   have O5 := OW.out.bl (hBa.trans hw5)
   have hOL := HD OL.out
   clear e0 e1 C0' C1' OW C0 C1 Z BW hBa hBaw
   rcases ix_range (fun z : Nd => z.name == yn) xs with h | ⟨i, hi, hI⟩
   ·have hI : ndIx ⟨⟨A, c, xs⟩, ⟨A2, c2, ls⟩⟩ yn = -1 := h
    rw [hI, if_pos (by omega)]
    have hsame := HD (show atOne ⟨⟨A, c, xs⟩, ⟨A2, c2, ls⟩⟩ k q ⟨yn, ⟨YA, yc, ys⟩⟩ = q by unfold atOne; rw [if_neg (fun h => by have := h.1; simp only at this; omega)])
    have O5 := HD O5
    clear h hI
    go_wp2_with fail
    go_roundg (fs.length - (kk + 1))
    case measure => omega
    case rel => exact ⟨kk + 1, by omega, by omega, by go_num, hB5, aside z5, aside a0, aside a1, by rw [htk.out, hsame.out]; exact O5.out, by rw [htk.out, hsame.out]; exact hOL.out⟩
   ·have hI : ndIx ⟨⟨A, c, xs⟩, ⟨A2, c2, ls⟩⟩ yn = (i : Int) := hI
    rw [hI, if_neg (by omega)]
    by_cases hkl : k < ys.length
    ·have hklz : (k : Int) < (ys.length : Int) := by omega
     have hk0 : (0 : Int) ≤ (k : Int) := by omega
     have hi0 : (0 : Int) ≤ (i : Int) := by omega
     have hiz : (i : Int) < (xs.length : Int) := by omega
     obtain ⟨bY, offY, hAY, _, _, _⟩ := (hgood.out w (Bl.refl w)).place (by intro e; simp only at e; rw [e] at hkl; simp at hkl)
     simp only at hAY
     subst hAY
     have eY : w5.cell? ⟨bY, offY + k, none⟩ = some (.int .i64 (ys[k]!)) := by
      have := Sl.Ok.cells (hgood.out w (Bl.refl w)) rfl w5 hB5 k hkl 0 _ rfl
      simp only at this
      rw [<- getElem!_pos ys k hkl, Nat.mul_one] at this
      exact this
     have hiq : i < q.length := by have := hOL.out; omega
     have eO := O5.cell i hiq
     have fO := O5.fro i
     generalize q[i] = v0 at eO
     have eO' : w5.cell? ⟨w.heap.size + 1, i, none⟩ = some (.int .i64 v0) := eO
     have hset := HD (show atOne ⟨⟨A, c, xs⟩, ⟨A2, c2, ls⟩⟩ k q ⟨yn, ⟨some ⟨bY, offY, none⟩, yc, ys⟩⟩ = q.set i (ys[k]!) by unfold atOne; simp only; rw [hI, if_pos ⟨by omega, hkl⟩, Int.toNat_natCast])
     generalize ys[k]! = v at eY hset
     have O6 := HD (show Own1 IV 3 w.heap.size (w5.setCell ⟨w.heap.size + 1, i, none⟩ (.int .i64 v)) ⟨some ⟨w.heap.size + 1, 0, none⟩, xs.length, q.set i v⟩ from O5.set i _)
     have hB6 : Bl w (w5.setCell ⟨w.heap.size + 1, i, none⟩ (.int .i64 v)) := Bl.setCell hB5 (by simp only; omega) _
     have c0 : (w5.setCell ⟨w.heap.size + 1, i, none⟩ (.int .i64 v)).cell? ⟨w.heap.size, 0, none⟩ = some (.slice A xs.length c) := keepSet a0 (by simp)
     have c1 : (w5.setCell ⟨w.heap.size + 1, i, none⟩ (.int .i64 v)).cell? ⟨w.heap.size, 1, none⟩ = some (.slice A2 ls.length c2) := keepSet a1 (by simp)
     have z6 : w.heap.size + 1 < (w5.setCell ⟨w.heap.size + 1, i, none⟩ (.int .i64 v)).heap.size := by simp; omega
     clear hI O5 eO
     go_wp2_with fail
     go_roundg (fs.length - (kk + 1))
     case measure => omega
     case rel => exact ⟨kk + 1, by omega, by omega, by go_num, hB6, aside z6, aside c0, aside c1, by rw [htk.out, hset.out]; exact O6.out, by rw [htk.out, hset.out, List.length_set]; exact hOL.out⟩
    ·have hklz : ¬ (k : Int) < (ys.length : Int) := by omega
     have hsame := HD (show atOne ⟨⟨A, c, xs⟩, ⟨A2, c2, ls⟩⟩ k q ⟨yn, ⟨YA, yc, ys⟩⟩ = q by unfold atOne; rw [if_neg (fun h => hkl h.2)])
     have O5 := HD O5
     clear hI
     go_wp2_with fail
     go_roundg (fs.length - (kk + 1))
     case measure => omega
     case rel => exact ⟨kk + 1, by omega, by omega, by go_num, hB5, aside z5, aside a0, aside a1, by rw [htk.out, hsame.out]; exact O5.out, by rw [htk.out, hsame.out]; exact hOL.out⟩
  ·have hltz : ¬ (kk : Int) < (fs.length : Int) := by omega
   have hkl : kk = fs.length := by omega
   subst hkl
   have hfin := HD (show RAt ⟨⟨A, c, xs⟩, ⟨A2, c2, ls⟩⟩ k fs w (.returned (.slice (some ⟨w.heap.size + 1, 0, none⟩) xs.length xs.length)) wr from by
    have h1 := OW.out
    have h2 := OL.out
    rw [List.take_length] at h1 h2
    refine ⟨⟨some ⟨w.heap.size + 1, 0, none⟩, xs.length, _⟩, by simp only [Sl.val]; rw [h2], rfl, ⟨Own1.ok h1 (by simp only; omega) (fun _ _ => trivial), fun g hg => (h1.lt g hg).1⟩, BW'⟩)
   go_wp2_with fail
   rw [hRh.out]
   exact hfin.out
theorem f53_c (n : Net) (l : Sl Infl) (k : Nat) (w : World) (hN : InNet w n) (hF : InInfls w l) (hb : netB n = true) : Calls Tryz.prog 53 #[n.val, l.val, .int .i64 k] w (RAt n k l.xs w) := by
 have hn := ((netB_iff n).mp hb).1
 obtain ⟨⟨A, c, xs⟩, ⟨A2, c2, ls⟩⟩ := n
 obtain ⟨FA, fc, fs⟩ := l
 exact f53_core A A2 FA c c2 fc xs ls fs k w hN hF hb hn
theorem MapAt.made' {κ : Type} (K : Keys κ) (w : World) {b : Nat} (hb : b = w.heap.size) : MapAt K (w.alloc (.map #[] 0)) b (fun _ => none) := by subst hb; exact MapAt.made K w
theorem beqB (a b : ByteArray) : (a == b) = true ↔ a = b := by rw [beqBA]; simp
def InflOk (n : Net) (l : List Infl) : Prop := (∀ x ∈ l, 0 ≤ ndIx n x.node) /\ l.Pairwise (fun a b => a.node ≠ b.node) /\ ∀ x ∈ l, x.vols.xs.length ≤ 10000
theorem ndIx_iff {n : Net} (h : netB n = true) {i : Nat} (hi : i < n.nodes.xs.length) (nm : ByteArray) : ndIx n nm = (i : Int) ↔ n.nodes.xs[i].name = nm := by
 constructor
 ·intro e
  rcases ix_cases (fun y : Nd => y.name == nm) n.nodes.xs with ⟨h1, _⟩ | ⟨k, hk, h1, h2, _⟩
  ·have : ndIx n nm = -1 := h1
   omega
  ·have : ndIx n nm = (k : Int) := h1
   have hki : k = i := by omega
   subst hki
   exact (beqB _ _).mp h2
 ·intro e
  rw [<- e]
  exact (((netB_iff n).mp h).2.2.1 i hi).2
theorem at_keep {n : Net} (h : netB n = true) (k : Nat) {i : Nat} (hi : i < n.nodes.xs.length) : ∀ (l : List Infl) (o : List Int), (∀ f ∈ l, f.node = n.nodes.xs[i].name -> ¬ k < f.vols.xs.length) -> (l.foldl (atOne n k) o)[i]! = o[i]!
 | [], o, _ => rfl
 | f :: l, o, hf => by
  rw [List.foldl_cons, at_keep h k hi l _ (fun f' hf' => hf f' (by simp [hf']))]
  unfold atOne
  split
  ·rename_i hh
   have hne : ¬ (ndIx n f.node).toNat = i := fun e => by
    have e2 : ndIx n f.node = (i : Int) := by omega
    exact hf f (by simp) ((ndIx_iff h hi f.node).mp e2).symm hh.2
   simp only [List.getElem!_eq_getElem?_getD, List.getElem?_set, if_neg hne]
  ·rfl
theorem atL_len (n : Net) (k : Nat) (l : List Infl) : (atL n k l).length = n.nodes.xs.length := by
 unfold atL
 have : ∀ (l : List Infl) (o : List Int), (l.foldl (atOne n k) o).length = o.length := by
  intro l
  induction l with
  | nil => intro o; rfl
  | cons f l ih => intro o; rw [List.foldl_cons, ih, atOne_len]
 rw [this]; simp
theorem at_step {n : Net} (h : netB n = true) (k : Nat) {l : List Infl} (hl : InflOk n l) {i j : Nat} (hi : i < n.nodes.xs.length) (hj : j < l.length) :
 (l[j].node = n.nodes.xs[i].name -> k < l[j].vols.xs.length -> (atL n k (l.take j))[i]! = 0 /\ (atL n k (l.take (j + 1)))[i]! = l[j].vols.xs[k]! /\ (atL n k l)[i]! = l[j].vols.xs[k]!) /\
 (¬ (l[j].node = n.nodes.xs[i].name /\ k < l[j].vols.xs.length) -> (atL n k (l.take (j + 1)))[i]! = (atL n k (l.take j))[i]!) := by
 have hpw := List.pairwise_iff_getElem.mp hl.2.1
 have htk : l.take (j + 1) = l.take j ++ [l[j]] := List.take_succ_eq_append_getElem hj
 have h0 : (List.replicate n.nodes.xs.length (0 : Int))[i]! = 0 := by
  rw [getElem!_pos _ i (by simpa using hi)]; simp
 constructor
 ·intro hn hk
  have hix : ndIx n l[j].node = (i : Int) := (ndIx_iff h hi _).mpr hn.symm
  have hval : ∀ o : List Int, o.length = n.nodes.xs.length -> (atOne n k o l[j])[i]! = l[j].vols.xs[k]! := fun o ho => by
   unfold atOne
   rw [if_pos ⟨by omega, hk⟩, hix, Int.toNat_natCast, getElem!_pos _ i (by simp; omega)]
   simp
  have hlen : (atL n k (l.take j)).length = n.nodes.xs.length := atL_len _ _ _
  have e1 : (atL n k (l.take (j + 1)))[i]! = l[j].vols.xs[k]! := by
   unfold atL at hlen ⊢
   rw [htk, List.foldl_append]
   exact hval _ hlen
  refine ⟨?_, e1, ?_⟩
  ·unfold atL
   rw [at_keep h k hi _ _ (fun f hf e => ?_), h0]
   exfalso
   obtain ⟨a, ha, rfl⟩ := List.getElem_of_mem hf
   simp only [List.length_take] at ha
   rw [List.getElem_take] at e
   exact hpw a j (by omega) hj (by omega) (by rw [e, hn])
  ·have : atL n k l = (l.drop (j + 1)).foldl (atOne n k) (atL n k (l.take (j + 1))) := by
    unfold atL
    rw [<- List.foldl_append, List.take_append_drop]
   rw [this, at_keep h k hi _ _ (fun f hf e => ?_), e1]
   exfalso
   obtain ⟨a, ha, rfl⟩ := List.getElem_of_mem hf
   simp only [List.length_drop] at ha
   rw [List.getElem_drop] at e
   exact hpw j (j + 1 + a) hj (by omega) (by omega) (by rw [e, hn])
 ·intro hno
  unfold atL
  rw [htk, List.foldl_append]
  exact at_keep h k hi [l[j]] _ (fun f hf e hk => hno (by simp only [List.mem_singleton] at hf; subst hf; exact ⟨e, hk⟩))
def prevS (x : St) (ss : List St) : Nat -> St
 | 0 => x
 | k + 1 => ss.getD k x
def gz : Led := ⟨0, 0, ⟨none, 0, []⟩⟩
def RunOk (n : Net) (fs : List Infl) (x : St) (ss : List St) (gs : List Led) : Prop := gs.length = ss.length /\ ∀ k, k < ss.length -> StepOk n (prevS x ss k) (ss.getD k x) (atL n k fs) (gs.getD k gz)
theorem RunOk.nil (n : Net) (fs : List Infl) (x : St) : RunOk n fs x [] [] := ⟨rfl, fun k hk => absurd hk (Nat.not_lt_zero _)⟩
theorem prevS_app (x s' : St) (ss : List St) {k : Nat} (hk : k ≤ ss.length) : prevS x (ss ++ [s']) k = prevS x ss k := by
 cases k with
 | zero => rfl
 | succ k => simp only [prevS, List.getD_eq_getElem?_getD]; rw [List.getElem?_append_left (by omega)]
theorem RunOk.push {n : Net} {fs : List Infl} {x s' : St} {ss : List St} {gs : List Led} {g : Led} (h : RunOk n fs x ss gs) (hs : StepOk n (prevS x ss ss.length) s' (atL n ss.length fs) g) : RunOk n fs x (ss ++ [s']) (gs ++ [g]) := by
 refine ⟨by simp [h.1], fun k hk => ?_⟩
 simp only [List.length_append, List.length_cons, List.length_nil] at hk
 rw [prevS_app x s' ss (by omega)]
 by_cases hlt : k < ss.length
 ·have := h.2 k hlt
  simp only [List.getD_eq_getElem?_getD] at this ⊢
  rw [List.getElem?_append_left hlt, List.getElem?_append_left (by rw [h.1]; exact hlt)]
  exact this
 ·have hk2 : k = ss.length := by omega
  subst hk2
  have e1 : (ss ++ [s']).getD ss.length x = s' := by simp [List.getD_eq_getElem?_getD]
  have e2 : (gs ++ [g]).getD ss.length gz = g := by rw [<- h.1]; simp [List.getD_eq_getElem?_getD]
  rw [e1, e2]
  exact hs
theorem RunOk.state {n : Net} {fs : List Infl} {x : St} {ss : List St} {gs : List Led} (h : RunOk n fs x ss gs) (hx : StateOk n x) {k : Nat} (hk : k ≤ ss.length) : StateOk n (prevS x ss k) := by
 cases k with
 | zero => exact hx
 | succ k => exact (h.2 k hk).ok
def cameT (gs : List Led) (k : Nat) : Int := sumTo (fun j => (gs.getD j gz).inn) k
def leftT (gs : List Led) (k : Nat) : Int := sumTo (fun j => (gs.getD j gz).out) k
def passT (gs : List Led) (i k : Nat) : Int := sumTo (fun j => (gs.getD j gz).pass.xs[i]!) k
theorem run_law {n : Net} {fs : List Infl} {x : St} {ss : List St} {gs : List Led} (h : RunOk n fs x ss gs) (hx : StateOk n x) : ∀ k, k ≤ ss.length -> heldS (prevS x ss k) + leftT gs k = heldS x + cameT gs k
 | 0, _ => by simp [leftT, cameT, sumTo, prevS]
 | k + 1, hk => by
  have ih := run_law h hx k (by omega)
  have h1 := whole_law (h.state hx (by omega : k ≤ ss.length)) (h.2 k hk)
  have e : prevS x ss (k + 1) = ss.getD k x := rfl
  have e1 : leftT gs (k + 1) = leftT gs k + (gs.getD k gz).out := rfl
  have e2 : cameT gs (k + 1) = cameT gs k + (gs.getD k gz).inn := rfl
  rw [e, e1, e2]
  omega
theorem came_bound {n : Net} {fs : List Infl} {x : St} {ss : List St} {gs : List Led} (h : RunOk n fs x ss gs) {k : Nat} (hk : k ≤ ss.length) : 0 ≤ cameT gs k /\ cameT gs k ≤ (k : Int) * (n.nodes.xs.length * 1125899906842624) :=
 sumTo_bound k (fun j hj => inn_bound (h.2 j (by omega)))
theorem left_bound {n : Net} {fs : List Infl} {x : St} {ss : List St} {gs : List Led} (h : RunOk n fs x ss gs) (hx : StateOk n x) {k : Nat} (hk : k ≤ ss.length) : 0 ≤ leftT gs k /\ leftT gs k ≤ n.nodes.xs.length * 2251799813685248 + (k : Int) * (n.nodes.xs.length * 1125899906842624) := by
 have h1 := run_law h hx k hk
 have h2 := held_bound hx
 have h3 := held_bound (h.state hx hk)
 have h4 := came_bound h hk
 refine ⟨(sumTo_bound (m := n.nodes.xs.length * 3377699720527872) k (fun j hj => out_bound (h.state hx (by omega)) (h.2 j (by omega)))).1, by omega⟩
theorem pass_bound {n : Net} {fs : List Infl} {x : St} {ss : List St} {gs : List Led} (h : RunOk n fs x ss gs) {i k : Nat} (hk : k ≤ ss.length) (hi : i < n.links.xs.length) : 0 ≤ passT gs i k /\ passT gs i k ≤ (k : Int) * 9007199254740992 :=
 sumTo_bound k (fun j hj => (h.2 j (by omega)).pb i hi)
def floodB (L : Nat) (gs : List Led) (k : Nat) : Bool := decide (1152921504606846976 < cameT gs k) || decide (1152921504606846976 < leftT gs k) || (List.range L).any (fun i => decide (9007199254740992 < passT gs i k))
theorem flood_iff (L : Nat) (gs : List Led) (k : Nat) : floodB L gs k = true ↔ 1152921504606846976 < cameT gs k \/ 1152921504606846976 < leftT gs k \/ ∃ i, i < L /\ 9007199254740992 < passT gs i k := by
 simp [floodB, or_assoc]
theorem flood_mono {n : Net} {fs : List Infl} {x : St} {ss : List St} {gs : List Led} (h : RunOk n fs x ss gs) (hx : StateOk n x) {k : Nat} (hk : k < ss.length) (hf : floodB n.links.xs.length gs k = true) : floodB n.links.xs.length gs (k + 1) = true := by
 rw [flood_iff] at hf ⊢
 have e1 : leftT gs (k + 1) = leftT gs k + (gs.getD k gz).out := rfl
 have e2 : cameT gs (k + 1) = cameT gs k + (gs.getD k gz).inn := rfl
 have b1 := out_bound (h.state hx (by omega)) (h.2 k hk)
 have b2 := inn_bound (h.2 k hk)
 rcases hf with hf | hf | ⟨i, hi, hf⟩
 ·exact .inl (by omega)
 ·exact .inr (.inl (by omega))
 ·refine .inr (.inr ⟨i, hi, ?_⟩)
  have e3 : passT gs i (k + 1) = passT gs i k + (gs.getD k gz).pass.xs[i]! := rfl
  have := (h.2 k hk).pb i hi
  omega
theorem flood_zero (L : Nat) (gs : List Led) : floodB L gs 0 = false := by
 cases h : floodB L gs 0
 ·rfl
 ·rw [flood_iff] at h
  simp [cameT, leftT, passT, sumTo] at h
noncomputable def seenF (l : List Infl) : ByteArray -> Option Value := fun a => open Classical in if ∃ x ∈ l, x.node = a then some (.bool true) else none
theorem seenF_nil : seenF [] = fun _ => none := by
 funext a
 unfold seenF
 rw [if_neg (by simp)]
theorem seenF_app (l : List Infl) (x : Infl) : upd (seenF l) x.node (.bool true) = seenF (l ++ [x]) := by
 funext a
 by_cases ha : a = x.node
 ·rw [ha, upd_same]
  unfold seenF
  rw [if_pos ⟨x, by simp, rfl⟩]
 ·rw [upd_ne _ _ _ ha]
  unfold seenF
  by_cases h : ∃ y ∈ l, y.node = a
  ·obtain ⟨y, hy, e⟩ := h
   rw [if_pos ⟨y, hy, e⟩, if_pos ⟨y, by simp [hy], e⟩]
  ·rw [if_neg h, if_neg]
   rintro ⟨y, hy, e⟩
   rcases List.mem_append.mp hy with hy | hy
   ·exact h ⟨y, hy, e⟩
   ·simp only [List.mem_singleton] at hy
    subst hy
    exact ha e.symm
theorem seenF_cases (l : List Infl) (a : ByteArray) : (((seenF l) a).getD (.bool false) = .bool false /\ ∀ y ∈ l, y.node ≠ a) \/ ((seenF l) a).getD (.bool false) = .bool true := by
 unfold seenF
 by_cases h : ∃ y ∈ l, y.node = a
 ·rw [if_pos h]; exact .inr rfl
 ·rw [if_neg h]; exact .inl ⟨rfl, fun y hy e => h ⟨y, hy, e⟩⟩
theorem InflOk.nil (n : Net) : InflOk n [] := ⟨by simp, List.Pairwise.nil, by simp⟩
theorem InflOk.push {n : Net} {l : List Infl} {x : Infl} (h : InflOk n l) (h1 : 0 ≤ ndIx n x.node) (h2 : ∀ y ∈ l, y.node ≠ x.node) (h3 : x.vols.xs.length ≤ 10000) : InflOk n (l ++ [x]) := by
 refine ⟨?_, ?_, ?_⟩
 ·intro y hy
  rcases List.mem_append.mp hy with hy | hy
  ·exact h.1 y hy
  ·simp only [List.mem_singleton] at hy; subst hy; exact h1
 ·rw [List.pairwise_append]
  refine ⟨h.2.1, by simp, fun a ha b hb => ?_⟩
  simp only [List.mem_singleton] at hb
  subst hb
  exact h2 a ha
 ·intro y hy
  rcases List.mem_append.mp hy with hy | hy
  ·exact h.2.2 y hy
  ·simp only [List.mem_singleton] at hy; subst hy; exact h3
theorem MapAt.but {κ : Type} {K : Keys κ} {w w' : World} {b : Nat} {f : κ -> Option Value} {L : List Nat} (h : MapAt K w b f) (hb : But L w w') (hn : b ∉ L) : MapAt K w' b f := by
 have hlt := h.lt
 obtain ⟨es, clock, he, r⟩ := h
 exact ⟨es, clock, (hb.block b hlt hn).trans he, r⟩
def evOk (v : Int) : Prop := v = 0 \/ v = 4 \/ v = 10 \/ v = 9
theorem evOk.of {v : Int} (h : v = 4 \/ v = 10 \/ v = 9) : evOk v := .inr h
def RWrong (n : Net) (l : List Infl) (w : World) (e : Ending) (w' : World) : Prop := ∃ q : Int, e = .returned (.int .i64 q) /\ (q = 0 -> InflOk n l) /\ (l = [] -> q = 0) /\ Bl w w'
set_option maxHeartbeats 8000000 in
theorem f51_core (A A2 FA : Option Addr) (c c2 fc : Nat) (xs : List Nd) (ls : List Lk) (fs : List Infl) (w : World) (hN : InNet w ⟨⟨A, c, xs⟩, ⟨A2, c2, ls⟩⟩) (hF : InInfls w ⟨FA, fc, fs⟩) (hb : netB ⟨⟨A, c, xs⟩, ⟨A2, c2, ls⟩⟩ = true) :
 Calls Tryz.prog 51 #[.agg #[.slice A xs.length c, .slice A2 ls.length c2], .slice FA fs.length fc] w (RWrong ⟨⟨A, c, xs⟩, ⟨A2, c2, ls⟩⟩ fs w) := by
 have T56 : Hid (∀ W nm, Bl w W -> Calls Tryz.prog 56 #[.agg #[.slice A xs.length c, .slice A2 ls.length c2], .string nm] W fun e w' => e = .returned (ndErr ⟨⟨A, c, xs⟩, ⟨A2, c2, ls⟩⟩ nm) /\ Bl W w') := fun W nm (h : Bl w W) => f56_c ⟨⟨A, c, xs⟩, ⟨A2, c2, ls⟩⟩ nm W (InNet.up hN h)
 have hFh := HD hF
 have hr := hF.room
 have hbh := HD hb
 simp only at hr
 clear hN hF hb
 have hmm := @run_makeMap Tryz.prog
 have hU := HD (And.intro u157 u9)
 obtain ⟨N, hNe⟩ : ∃ N, N = (⟨⟨A, c, xs⟩, ⟨A2, c2, ls⟩⟩ : Net) := ⟨_, rfl⟩
 rw [<- hNe] at hbh ⊢
 have hNE := HD hNe
 obtain ⟨R, hR⟩ : ∃ R, R = RWrong N fs w := ⟨_, rfl⟩
 rw [<- hR]
 have hRh := HD hR
 clear hR
 rw [<- hNe] at T56
 clear hNe
 go_enter Tryz.func51, Tryz.ntmps51
 go_wp2_with fail
 go_loopg [16] fs.length (fun gg s16 wr => ∃ (kk : Nat) (ev : Int), kk ≤ fs.length /\ fs.length - kk ≤ gg /\ s16 = .int .i64 kk /\ Aside (Bl w wr) /\ Aside (wr.cell? ⟨w.heap.size, 0, none⟩ = some (.slice A xs.length c)) /\ Aside (wr.cell? ⟨w.heap.size, 1, none⟩ = some (.slice A2 ls.length c2)) /\ Aside (wr.cell? ⟨w.heap.size + 1, 0, none⟩ = some (.int .i64 ev)) /\ Aside (wr.frozen? ⟨w.heap.size + 1, 0, none⟩ = false) /\ Aside (MapAt KS wr (w.heap.size + 2) (seenF (fs.take kk))) /\ Aside (evOk ev) /\ Aside (ev = 0 -> InflOk N (fs.take kk)) /\ Aside (kk = 0 -> ev = 0))
 case atStart => exact ⟨0, 0, Nat.zero_le _, by omega, rfl, bz, aside (by simp [go_sem]), aside (by simp [go_sem]), aside (by simp [go_sem]), aside (by simp [go_sem]), by rw [List.take_zero, seenF_nil]; exact MapAt.made' KS _ (by simp), .inl rfl, fun _ => InflOk.nil _, fun _ => rfl⟩
 case round =>
  obtain ⟨kk, ev, hkk, hg, rfl, BW, C0, C1, E0, FE, M, EV, IQ, EZ⟩ := hrel
  have BW' := BW.out
  have C0' := C0.out
  have C1' := C1.out
  have E0' := E0.out
  have FE' := FE.out
  have zm : w.heap.size + 2 < wr.heap.size := M.out.lt
  have Z0 : w.heap.size < wr.heap.size := by omega
  have Z1 : w.heap.size + 1 < wr.heap.size := by omega
  by_cases hlt : kk < fs.length
  ·have hltz : (kk : Int) < (fs.length : Int) := by omega
   have hkz : (0 : Int) ≤ (kk : Int) := by omega
   obtain ⟨bF, offF, hA, _, _, _⟩ := hFh.out.place (by intro e; simp only at e; rw [e] at hlt; simp at hlt)
   simp only at hA
   subst hA
   have hc := Sl.Ok.cells hFh.out rfl wr BW' kk hlt
   simp only at hc
   have htk := HD (List.take_succ_eq_append_getElem hlt)
   have hsn := HD (seenF_cases (fs.take kk) fs[kk].node)
   have hpu := HD (fun (h : InflOk N (fs.take kk)) (h1 : 0 ≤ ndIx N fs[kk].node) (h2 : ∀ y ∈ fs.take kk, y.node ≠ fs[kk].node) (h3 : fs[kk].vols.xs.length ≤ 10000) => InflOk.push h h1 h2 h3)
   have hse := HD (seenF_app (fs.take kk) fs[kk])
   generalize hq : fs.take kk = q at M IQ htk hsn hpu hse
   clear hq
   generalize fs[kk] = y at hc htk hsn hpu hse
   obtain ⟨yn, ⟨YA, yc, ys⟩⟩ := y
   have e0 : wr.cell? ⟨bF, offF + kk * 2, none⟩ = some (.string yn) := hc 0 _ rfl
   have e1 : wr.cell? ⟨bF, offF + kk * 2 + 1, none⟩ = some (.slice YA ys.length yc) := hc 1 _ rfl
   have hBa : Bl wr (wr.alloc (Obj.cells #[.string yn, .slice YA ys.length yc] 54)) := bz
   have hBaw : Bl w (wr.alloc (Obj.cells #[.string yn, .slice YA ys.length yc] 54)) := BW'.trans hBa
   have hnd := HD (show ndErr N yn = if ndIx N yn < 0 then .tuple #[.int .i64 0, .int .i64 9] else .tuple #[.int .i64 (ndIx N yn), .int .i64 0] from by unfold ndErr; rw [if_pos hbh.out])
   clear hc
   go_wp2_with fail
   refine (T56.out _ yn hBaw).mono ?_
   rintro e w5 ⟨rfl, hw5⟩
   rw [hnd.out]
   have aC0 := hw5.keep (hBa.keep C0')
   have aC1 := hw5.keep (hBa.keep C1')
   have aE := hw5.keep (hBa.keep E0')
   have aFE := hw5.keepF (hBa.keep E0') (hBa.keepF E0' FE')
   have ay0 : w5.cell? ⟨wr.heap.size, 0, none⟩ = some (.string yn) := hw5.keep (by simp [go_sem])
   have ay1 : w5.cell? ⟨wr.heap.size, 1, none⟩ = some (.slice YA ys.length yc) := hw5.keep (by simp [go_sem])
   have aB : Bl w w5 := hBaw.trans hw5
   have az : wr.heap.size < w5.heap.size := by have := hw5.size; simp at this; omega
   have aM := HD (M.out.keep (hBa.trans hw5))
   have EVh := HD EV.out
   have IOh := HD IQ.out
   clear e0 e1 C0' C1' E0' FE' M EV IQ C0 C1 E0 FE BW hBa hBaw hw5 hnd
   try simp only at htk hsn hpu hse
   rcases Int.lt_or_le (ndIx N yn) 0 with hix | hix
   ·rw [if_pos hix]
    clear hix
    go_wp2_with fail
    refine (f78_c 9 ev (w.heap.size + 1) w5 aE aFE (by omega) EVh.out).mono ?_
    rintro e w6_ ⟨v6, rfl, k6E, k6FE, k6V, k6Bt⟩
    have k6C0 := k6Bt.cell aC0 (by first | (simp; done) | (simp; omega))
    have k6C1 := k6Bt.cell aC1 (by first | (simp; done) | (simp; omega))
    have k6y0 := k6Bt.cell ay0 (by first | (simp; done) | (simp; omega))
    have k6y1 := k6Bt.cell ay1 (by first | (simp; done) | (simp; omega))
    have k6B : Bl w w6_ := But.bl aB k6Bt (by simp)
    have k6z : wr.heap.size < w6_.heap.size := by have := k6Bt.size; omega
    have k6M := HD (aM.out.but k6Bt (by simp))
    have k6Vh := HD (evOk.of k6V)
    have k6Nh : Hid (¬ v6 = 0) := (by omega : ¬ v6 = 0)
    clear k6Bt k6V aC0 aC1 aE aFE ay0 ay1 aB az aM
    rcases hsn.out with ⟨hs, hns⟩ | hs
    ·have L : Sem.run Tryz.prog (Instr.lookup 157 (.map (some (w.heap.size + 2))) (.string yn) false) w6_ = .ok (.bool false) w6_ := by
      have := k6M.out.lookup hU.out.1 hU.out.2 (zeroBool _) yn false
      rw [hs] at this
      exact this
     clear hs
     have good2 := HD hns
     clear hns
     obtain ⟨w7_, hrun, m7M0, hO⟩ := k6M.out.store hU.out.1 hU.out.2 yn (.bool true)
     have hrun' : Sem.run Tryz.prog (Instr.mapUpdate 157 (.map (some (w.heap.size + 2))) (.string yn) (.bool true)) w6_ = .ok () w7_ := hrun
     have m7C0 := (hO.cell _ _ (by omega)).trans k6C0
     have m7C1 := (hO.cell _ _ (by omega)).trans k6C1
     have m7y0 := (hO.cell _ _ (by omega)).trans k6y0
     have m7y1 := (hO.cell _ _ (by omega)).trans k6y1
     have m7E := (hO.cell _ _ (by omega)).trans k6E
     have m7FE := (hO.frozen _ _ (by omega)).trans k6FE
     have m7B : Bl w w7_ := Only.bl k6B hO (by omega)
     have m7z : wr.heap.size < w7_.heap.size := by have := hO.size; omega
     have m7M := HD (show MapAt KS w7_ (w.heap.size + 2) (seenF (fs.take (kk + 1))) from by rw [htk.out, <- hse.out]; exact m7M0)
     clear hrun hO m7M0 k6M
     by_cases hll : ys.length ≤ 10000
     ·have hllz : ¬ (10000 : Int) < (ys.length : Int) := by omega
      have good3 := HD hll
      go_wp2_with fail
      go_roundg (fs.length - (kk + 1))
      case measure => omega
      case rel => exact ⟨kk + 1, v6, by omega, by omega, by go_num, m7B, aside m7C0, aside m7C1, aside m7E, aside m7FE, m7M.out, k6Vh.out, aside (fun e => absurd e k6Nh.out), fun e => by omega⟩
     ·have hllz : (10000 : Int) < (ys.length : Int) := by omega
      go_wp2_with fail
      clear hrun'
      refine (f78_c 4 v6 (w.heap.size + 1) w7_ m7E m7FE (by omega) k6Vh.out).mono ?_
      rintro e w8_ ⟨v8, rfl, k8E, k8FE, k8V, k8Bt⟩
      have k8C0 := k8Bt.cell m7C0 (by first | (simp; done) | (simp; omega))
      have k8C1 := k8Bt.cell m7C1 (by first | (simp; done) | (simp; omega))
      have k8y0 := k8Bt.cell m7y0 (by first | (simp; done) | (simp; omega))
      have k8y1 := k8Bt.cell m7y1 (by first | (simp; done) | (simp; omega))
      have k8B : Bl w w8_ := But.bl m7B k8Bt (by simp)
      have k8z : wr.heap.size < w8_.heap.size := by have := k8Bt.size; omega
      have k8M := HD (m7M.out.but k8Bt (by simp))
      have k8Vh := HD (evOk.of k8V)
      have k8Nh : Hid (¬ v8 = 0) := (by omega : ¬ v8 = 0)
      clear k8Bt k8V m7C0 m7C1 m7E m7FE m7y0 m7y1 m7B m7z m7M
      go_wp2_with fail
      go_roundg (fs.length - (kk + 1))
      case measure => omega
      case rel => exact ⟨kk + 1, v8, by omega, by omega, by go_num, k8B, aside k8C0, aside k8C1, aside k8E, aside k8FE, k8M.out, k8Vh.out, aside (fun e => absurd e k8Nh.out), fun e => by omega⟩
    ·have L : Sem.run Tryz.prog (Instr.lookup 157 (.map (some (w.heap.size + 2))) (.string yn) false) w6_ = .ok (.bool true) w6_ := by
      have := k6M.out.lookup hU.out.1 hU.out.2 (zeroBool _) yn false
      rw [hs] at this
      exact this
     clear hs
     go_wp2_with fail
     clear L
     refine (f78_c 10 v6 (w.heap.size + 1) w6_ k6E k6FE (by omega) k6Vh.out).mono ?_
     rintro e w9_ ⟨v9, rfl, k9E, k9FE, k9V, k9Bt⟩
     have k9C0 := k9Bt.cell k6C0 (by first | (simp; done) | (simp; omega))
     have k9C1 := k9Bt.cell k6C1 (by first | (simp; done) | (simp; omega))
     have k9y0 := k9Bt.cell k6y0 (by first | (simp; done) | (simp; omega))
     have k9y1 := k9Bt.cell k6y1 (by first | (simp; done) | (simp; omega))
     have k9B : Bl w w9_ := But.bl k6B k9Bt (by simp)
     have k9z : wr.heap.size < w9_.heap.size := by have := k9Bt.size; omega
     have k9M := HD (k6M.out.but k9Bt (by simp))
     have k9Vh := HD (evOk.of k9V)
     have k9Nh : Hid (¬ v9 = 0) := (by omega : ¬ v9 = 0)
     clear k9Bt k9V k6C0 k6C1 k6E k6FE k6y0 k6y1 k6B k6z k6M
     obtain ⟨w10_, hrun, m10M0, hO⟩ := k9M.out.store hU.out.1 hU.out.2 yn (.bool true)
     have hrun' : Sem.run Tryz.prog (Instr.mapUpdate 157 (.map (some (w.heap.size + 2))) (.string yn) (.bool true)) w9_ = .ok () w10_ := hrun
     have m10C0 := (hO.cell _ _ (by omega)).trans k9C0
     have m10C1 := (hO.cell _ _ (by omega)).trans k9C1
     have m10y0 := (hO.cell _ _ (by omega)).trans k9y0
     have m10y1 := (hO.cell _ _ (by omega)).trans k9y1
     have m10E := (hO.cell _ _ (by omega)).trans k9E
     have m10FE := (hO.frozen _ _ (by omega)).trans k9FE
     have m10B : Bl w w10_ := Only.bl k9B hO (by omega)
     have m10z : wr.heap.size < w10_.heap.size := by have := hO.size; omega
     have m10M := HD (show MapAt KS w10_ (w.heap.size + 2) (seenF (fs.take (kk + 1))) from by rw [htk.out, <- hse.out]; exact m10M0)
     clear hrun hO m10M0 k9M
     by_cases hll : ys.length ≤ 10000
     ·have hllz : ¬ (10000 : Int) < (ys.length : Int) := by omega
      have good3 := HD hll
      go_wp2_with fail
      go_roundg (fs.length - (kk + 1))
      case measure => omega
      case rel => exact ⟨kk + 1, v9, by omega, by omega, by go_num, m10B, aside m10C0, aside m10C1, aside m10E, aside m10FE, m10M.out, k9Vh.out, aside (fun e => absurd e k9Nh.out), fun e => by omega⟩
     ·have hllz : (10000 : Int) < (ys.length : Int) := by omega
      go_wp2_with fail
      clear hrun'
      refine (f78_c 4 v9 (w.heap.size + 1) w10_ m10E m10FE (by omega) k9Vh.out).mono ?_
      rintro e w11_ ⟨v11, rfl, k11E, k11FE, k11V, k11Bt⟩
      have k11C0 := k11Bt.cell m10C0 (by first | (simp; done) | (simp; omega))
      have k11C1 := k11Bt.cell m10C1 (by first | (simp; done) | (simp; omega))
      have k11y0 := k11Bt.cell m10y0 (by first | (simp; done) | (simp; omega))
      have k11y1 := k11Bt.cell m10y1 (by first | (simp; done) | (simp; omega))
      have k11B : Bl w w11_ := But.bl m10B k11Bt (by simp)
      have k11z : wr.heap.size < w11_.heap.size := by have := k11Bt.size; omega
      have k11M := HD (m10M.out.but k11Bt (by simp))
      have k11Vh := HD (evOk.of k11V)
      have k11Nh : Hid (¬ v11 = 0) := (by omega : ¬ v11 = 0)
      clear k11Bt k11V m10C0 m10C1 m10E m10FE m10y0 m10y1 m10B m10z m10M
      go_wp2_with fail
      go_roundg (fs.length - (kk + 1))
      case measure => omega
      case rel => exact ⟨kk + 1, v11, by omega, by omega, by go_num, k11B, aside k11C0, aside k11C1, aside k11E, aside k11FE, k11M.out, k11Vh.out, aside (fun e => absurd e k11Nh.out), fun e => by omega⟩
   ·rw [if_neg (by omega)]
    have good1 := HD hix
    have hix0 : ¬ ndIx N yn < 0 := by omega
    rcases hsn.out with ⟨hs, hns⟩ | hs
    ·have L : Sem.run Tryz.prog (Instr.lookup 157 (.map (some (w.heap.size + 2))) (.string yn) false) w5 = .ok (.bool false) w5 := by
      have := aM.out.lookup hU.out.1 hU.out.2 (zeroBool _) yn false
      rw [hs] at this
      exact this
     clear hs
     have good2 := HD hns
     clear hns
     obtain ⟨w12_, hrun, m12M0, hO⟩ := aM.out.store hU.out.1 hU.out.2 yn (.bool true)
     have hrun' : Sem.run Tryz.prog (Instr.mapUpdate 157 (.map (some (w.heap.size + 2))) (.string yn) (.bool true)) w5 = .ok () w12_ := hrun
     have m12C0 := (hO.cell _ _ (by omega)).trans aC0
     have m12C1 := (hO.cell _ _ (by omega)).trans aC1
     have m12y0 := (hO.cell _ _ (by omega)).trans ay0
     have m12y1 := (hO.cell _ _ (by omega)).trans ay1
     have m12E := (hO.cell _ _ (by omega)).trans aE
     have m12FE := (hO.frozen _ _ (by omega)).trans aFE
     have m12B : Bl w w12_ := Only.bl aB hO (by omega)
     have m12z : wr.heap.size < w12_.heap.size := by have := hO.size; omega
     have m12M := HD (show MapAt KS w12_ (w.heap.size + 2) (seenF (fs.take (kk + 1))) from by rw [htk.out, <- hse.out]; exact m12M0)
     clear hrun hO m12M0 aM
     by_cases hll : ys.length ≤ 10000
     ·have hllz : ¬ (10000 : Int) < (ys.length : Int) := by omega
      have good3 := HD hll
      go_wp2_with fail
      go_roundg (fs.length - (kk + 1))
      case measure => omega
      case rel => exact ⟨kk + 1, ev, by omega, by omega, by go_num, m12B, aside m12C0, aside m12C1, aside m12E, aside m12FE, m12M.out, EVh.out, aside (fun e => by rw [htk.out]; exact hpu.out (IOh.out e) good1.out good2.out good3.out), fun e => by omega⟩
     ·have hllz : (10000 : Int) < (ys.length : Int) := by omega
      go_wp2_with fail
      clear hrun'
      refine (f78_c 4 ev (w.heap.size + 1) w12_ m12E m12FE (by omega) EVh.out).mono ?_
      rintro e w13_ ⟨v13, rfl, k13E, k13FE, k13V, k13Bt⟩
      have k13C0 := k13Bt.cell m12C0 (by first | (simp; done) | (simp; omega))
      have k13C1 := k13Bt.cell m12C1 (by first | (simp; done) | (simp; omega))
      have k13y0 := k13Bt.cell m12y0 (by first | (simp; done) | (simp; omega))
      have k13y1 := k13Bt.cell m12y1 (by first | (simp; done) | (simp; omega))
      have k13B : Bl w w13_ := But.bl m12B k13Bt (by simp)
      have k13z : wr.heap.size < w13_.heap.size := by have := k13Bt.size; omega
      have k13M := HD (m12M.out.but k13Bt (by simp))
      have k13Vh := HD (evOk.of k13V)
      have k13Nh : Hid (¬ v13 = 0) := (by omega : ¬ v13 = 0)
      clear k13Bt k13V m12C0 m12C1 m12E m12FE m12y0 m12y1 m12B m12z m12M
      go_wp2_with fail
      go_roundg (fs.length - (kk + 1))
      case measure => omega
      case rel => exact ⟨kk + 1, v13, by omega, by omega, by go_num, k13B, aside k13C0, aside k13C1, aside k13E, aside k13FE, k13M.out, k13Vh.out, aside (fun e => absurd e k13Nh.out), fun e => by omega⟩
    ·have L : Sem.run Tryz.prog (Instr.lookup 157 (.map (some (w.heap.size + 2))) (.string yn) false) w5 = .ok (.bool true) w5 := by
      have := aM.out.lookup hU.out.1 hU.out.2 (zeroBool _) yn false
      rw [hs] at this
      exact this
     clear hs
     go_wp2_with fail
     clear L
     refine (f78_c 10 ev (w.heap.size + 1) w5 aE aFE (by omega) EVh.out).mono ?_
     rintro e w14_ ⟨v14, rfl, k14E, k14FE, k14V, k14Bt⟩
     have k14C0 := k14Bt.cell aC0 (by first | (simp; done) | (simp; omega))
     have k14C1 := k14Bt.cell aC1 (by first | (simp; done) | (simp; omega))
     have k14y0 := k14Bt.cell ay0 (by first | (simp; done) | (simp; omega))
     have k14y1 := k14Bt.cell ay1 (by first | (simp; done) | (simp; omega))
     have k14B : Bl w w14_ := But.bl aB k14Bt (by simp)
     have k14z : wr.heap.size < w14_.heap.size := by have := k14Bt.size; omega
     have k14M := HD (aM.out.but k14Bt (by simp))
     have k14Vh := HD (evOk.of k14V)
     have k14Nh : Hid (¬ v14 = 0) := (by omega : ¬ v14 = 0)
     clear k14Bt k14V aC0 aC1 aE aFE ay0 ay1 aB az aM
     obtain ⟨w15_, hrun, m15M0, hO⟩ := k14M.out.store hU.out.1 hU.out.2 yn (.bool true)
     have hrun' : Sem.run Tryz.prog (Instr.mapUpdate 157 (.map (some (w.heap.size + 2))) (.string yn) (.bool true)) w14_ = .ok () w15_ := hrun
     have m15C0 := (hO.cell _ _ (by omega)).trans k14C0
     have m15C1 := (hO.cell _ _ (by omega)).trans k14C1
     have m15y0 := (hO.cell _ _ (by omega)).trans k14y0
     have m15y1 := (hO.cell _ _ (by omega)).trans k14y1
     have m15E := (hO.cell _ _ (by omega)).trans k14E
     have m15FE := (hO.frozen _ _ (by omega)).trans k14FE
     have m15B : Bl w w15_ := Only.bl k14B hO (by omega)
     have m15z : wr.heap.size < w15_.heap.size := by have := hO.size; omega
     have m15M := HD (show MapAt KS w15_ (w.heap.size + 2) (seenF (fs.take (kk + 1))) from by rw [htk.out, <- hse.out]; exact m15M0)
     clear hrun hO m15M0 k14M
     by_cases hll : ys.length ≤ 10000
     ·have hllz : ¬ (10000 : Int) < (ys.length : Int) := by omega
      have good3 := HD hll
      go_wp2_with fail
      go_roundg (fs.length - (kk + 1))
      case measure => omega
      case rel => exact ⟨kk + 1, v14, by omega, by omega, by go_num, m15B, aside m15C0, aside m15C1, aside m15E, aside m15FE, m15M.out, k14Vh.out, aside (fun e => absurd e k14Nh.out), fun e => by omega⟩
     ·have hllz : (10000 : Int) < (ys.length : Int) := by omega
      go_wp2_with fail
      clear hrun'
      refine (f78_c 4 v14 (w.heap.size + 1) w15_ m15E m15FE (by omega) k14Vh.out).mono ?_
      rintro e w16_ ⟨v16, rfl, k16E, k16FE, k16V, k16Bt⟩
      have k16C0 := k16Bt.cell m15C0 (by first | (simp; done) | (simp; omega))
      have k16C1 := k16Bt.cell m15C1 (by first | (simp; done) | (simp; omega))
      have k16y0 := k16Bt.cell m15y0 (by first | (simp; done) | (simp; omega))
      have k16y1 := k16Bt.cell m15y1 (by first | (simp; done) | (simp; omega))
      have k16B : Bl w w16_ := But.bl m15B k16Bt (by simp)
      have k16z : wr.heap.size < w16_.heap.size := by have := k16Bt.size; omega
      have k16M := HD (m15M.out.but k16Bt (by simp))
      have k16Vh := HD (evOk.of k16V)
      have k16Nh : Hid (¬ v16 = 0) := (by omega : ¬ v16 = 0)
      clear k16Bt k16V m15C0 m15C1 m15E m15FE m15y0 m15y1 m15B m15z m15M
      go_wp2_with fail
      go_roundg (fs.length - (kk + 1))
      case measure => omega
      case rel => exact ⟨kk + 1, v16, by omega, by omega, by go_num, k16B, aside k16C0, aside k16C1, aside k16E, aside k16FE, k16M.out, k16Vh.out, aside (fun e => absurd e k16Nh.out), fun e => by omega⟩
  ·have hltz : ¬ (kk : Int) < (fs.length : Int) := by omega
   have hkl : kk = fs.length := by omega
   subst hkl
   have hfin := HD (show R (.returned (.int .i64 ev)) wr from by
    rw [hRh.out]
    refine ⟨ev, rfl, fun e => by have := IQ.out e; rwa [List.take_length] at this, fun e => EZ.out (by rw [e]; rfl), BW'⟩)
   go_wp2_with fail
   exact hfin.out
theorem f51_c (n : Net) (l : Sl Infl) (w : World) (hN : InNet w n) (hF : InInfls w l) (hb : netB n = true) : Calls Tryz.prog 51 #[n.val, l.val] w (RWrong n l.xs w) := by
 obtain ⟨⟨A, c, xs⟩, ⟨A2, c2, ls⟩⟩ := n
 obtain ⟨FA, fc, fs⟩ := l
 exact f51_core A A2 FA c c2 fc xs ls fs w hN hF hb
def Off {α : Type} (b : Option Nat) (s : Sl α) : Prop := s.xs ≠ [] -> ∀ g, b = some g -> s.val.ownBlock ≠ some g
theorem Off.none {α : Type} (s : Sl α) : Off none s := fun _ g h => by cases h
theorem off_new {α : Type} {w : World} {b : Option Nat} {s : Sl α} (h : New w s) (hb : ∀ g, b = some g -> g < w.heap.size) : Off b s := fun _ g hg e => by
 have h1 := h g e
 have h2 := hb g hg
 omega
theorem okT_lt {α : Type} {enc : α -> List Value} {k : Nat} {w : World} {s : Sl α} {good : Nat -> World -> α -> Prop} (h : s.Ok enc k good w.heap.size w) (hne : s.xs ≠ []) {g : Nat} (hg : s.val.ownBlock = some g) : g < w.heap.size := by
 obtain ⟨b, off, hA, hB, _⟩ := h.place hne
 simp only [Sl.val, hA, Value.ownBlock, Option.some.injEq] at hg
 omega
theorem off_grown {α : Type} {enc : α -> List Value} {k : Nat} {w : World} {s : Sl α} {good : Nat -> World -> α -> Prop} {b v : Option Nat} (h : s.Ok enc k good w.heap.size w) (ho : Off b s) (hv : v = b \/ v = some w.heap.size) : Off v s := by
 rcases hv with rfl | rfl
 ·exact ho
 ·intro hne g hg e
  have := okT_lt h hne e
  simp only [Option.some.injEq] at hg
  omega
theorem ok_grown {α : Type} {enc : α -> List Value} {k : Nat} {w w' : World} {s : Sl α} {b : Option Nat} (h : s.Ok enc k okT w.heap.size w) (ho : Off b s) (hg : w.grownBy w' b) : s.Ok enc k okT w'.heap.size w' where
 cap := h.cap
 room := h.room
 place := fun hne => by
  obtain ⟨g, off, hA, hB, hw, hc⟩ := h.place hne
  refine ⟨g, off, hA, Nat.lt_of_lt_of_le hw hg.size, Nat.lt_of_lt_of_le hw hg.size, fun i hi j v hv => ?_⟩
  have : w'.cell? ⟨g, off + i * k + j, none⟩ = w.cell? ⟨g, off + i * k + j, none⟩ := World.cell?_of_block (w := w) (hg.block g hw (fun e => ho hne g e.symm (by simp [Sl.val, hA, Value.ownBlock])))
  rw [this]
  exact hc i hi j v hv
 each := fun x hx => trivial
structure Part (α : Type) where
 rd : World -> α -> Prop
 off : Option Nat -> α -> Prop
 grown : ∀ {w w' : World} {x : α} {b : Option Nat}, rd w x -> off b x -> w.grownBy w' b -> rd w' x
 new : ∀ {w : World} {x : α} {b v : Option Nat}, rd w x -> off b x -> (v = b \/ v = some w.heap.size) -> off v x
 up : ∀ {w w' : World} {x : α}, rd w x -> Bl w w' -> rd w' x
 none : ∀ x, off none x
def partT : Part St where
 rd := InSt
 off b x := Off b x.vol /\ Off b x.pond /\ Off b x.set /\ Off b x.on
 grown := fun h o g => ⟨ok_grown h.vol o.1 g, ok_grown h.pond o.2.1 g, ok_grown h.set o.2.2.1 g, ok_grown h.on o.2.2.2 g⟩
 new := fun h o v => ⟨off_grown h.vol o.1 v, off_grown h.pond o.2.1 v, off_grown h.set o.2.2.1 v, off_grown h.on o.2.2.2 v⟩
 up := InSt.up
 none := fun x => ⟨Off.none _, Off.none _, Off.none _, Off.none _⟩
def partG : Part Led where
 rd := InLed
 off b x := Off b x.pass
 grown := fun h o g => ok_grown h o g
 new := fun h o v => off_grown h o v
 up := InLed.up
 none := fun x => Off.none _
structure Two {α β : Type} (PA : Part α) (PB : Part β) (ea : α -> List Value) (ka : Nat) (ta : TypeId) (eb : β -> List Value) (kb : Nat) (tb : TypeId) (base : Nat) (w : World) (S : Sl α) (G : Sl β) : Prop where
 oa : Own ea ka ta base w S
 ob : Own eb kb tb base w G
 ra : ∀ x ∈ S.xs, PA.rd w x /\ PA.off S.val.ownBlock x /\ PA.off G.val.ownBlock x
 rb : ∀ x ∈ G.xs, PB.rd w x /\ PB.off S.val.ownBlock x /\ PB.off G.val.ownBlock x
 ne : ∀ b, S.val.ownBlock = some b -> G.val.ownBlock ≠ some b
 fa : ∀ x ∈ S.xs, ∀ b, b < base -> PA.off (some b) x
 fb : ∀ x ∈ G.xs, ∀ b, b < base -> PB.off (some b) x
theorem But.toGrown {b : Nat} {w w' : World} (h : But [b] w w') : w.grownBy w' (some b) := ⟨h.os, h.tape, h.output, h.size, fun k hk hn => h.block k hk (fun hm => hn (by simp at hm; rw [hm]))⟩
section
variable {α β : Type} {PA : Part α} {PB : Part β} {ea : α -> List Value} {ka : Nat} {ta : TypeId} {eb : β -> List Value} {kb : Nat} {tb : TypeId} {base : Nat} {w w' : World} {S : Sl α} {G : Sl β}
theorem Two.nil : Two PA PB ea ka ta eb kb tb base w ⟨none, 0, []⟩ ⟨none, 0, []⟩ := ⟨Own.nil, Own.nil, fun x hx => by simp at hx, fun x hx => by simp at hx, fun b hb => by simp [Sl.val, Value.ownBlock] at hb, fun x hx => by simp at hx, fun x hx => by simp at hx⟩
theorem Two.bl (h : Two PA PB ea ka ta eb kb tb base w S G) (hb : Bl w w') : Two PA PB ea ka ta eb kb tb base w' S G := ⟨h.oa.bl hb, h.ob.bl hb, fun x hx => ⟨PA.up (h.ra x hx).1 hb, (h.ra x hx).2⟩, fun x hx => ⟨PB.up (h.rb x hx).1 hb, (h.rb x hx).2⟩, h.ne, h.fa, h.fb⟩
theorem Two.lt (h : Two PA PB ea ka ta eb kb tb base w S G) : (∀ g, S.val.ownBlock = some g -> g < w.heap.size) /\ (∀ g, G.val.ownBlock = some g -> g < w.heap.size) := ⟨fun g hg => (World.ownsRow.lt h.oa g hg).2, fun g hg => (World.ownsRow.lt h.ob g hg).2⟩
theorem Two.pushA (h : Two PA PB ea ka ta eb kb tb base w S G) {x : α} (hx : PA.rd w x) (h1 : PA.off S.val.ownBlock x) (h2 : PA.off G.val.ownBlock x) (h0 : ∀ b, b < base -> PA.off (some b) x) {v : Value}
 (hown : w'.ownsRow base ta ka v (S.xs.length + 1) (S.xs.flatMap ea ++ ea x)) (hg : w.grownBy w' S.val.ownBlock) (hv : v.ownBlock = S.val.ownBlock \/ v.ownBlock = some w.heap.size) :
 ∃ S' : Sl α, v = S'.val /\ S'.xs = S.xs ++ [x] /\ Two PA PB ea ka ta eb kb tb base w' S' G /\ (S'.val.ownBlock = S.val.ownBlock \/ S'.val.ownBlock = some w.heap.size) := by
 obtain ⟨S', rfl, hx', hO⟩ := Own.push hown
 have hl := h.lt
 have hG : G.val.ownBlock = Option.none \/ G.val.ownBlock ≠ S.val.ownBlock := by
  cases hgb : G.val.ownBlock with
  | none => exact .inl rfl
  | some b => exact .inr (fun e => h.ne b e.symm hgb)
 refine ⟨S', rfl, hx', ⟨hO, World.ownsRow.kept h.ob hg hG, ?_, ?_, ?_, ?_, h.fb⟩, hv⟩
 ·intro y hy
  rw [hx'] at hy
  rcases List.mem_append.mp hy with hy | hy
  ·obtain ⟨a, b, c⟩ := h.ra y hy
   exact ⟨PA.grown a b hg, PA.new a b hv, c⟩
  ·simp only [List.mem_singleton] at hy
   subst hy
   exact ⟨PA.grown hx h1 hg, PA.new hx h1 hv, h2⟩
 ·intro y hy
  obtain ⟨a, b, c⟩ := h.rb y hy
  exact ⟨PB.grown a b hg, PB.new a b hv, c⟩
 ·intro b hb e
  rcases hv with hv | hv
  ·exact h.ne b (hv ▸ hb) e
  ·rw [hv] at hb
   simp only [Option.some.injEq] at hb
   have := hl.2 b e
   omega
 ·intro y hy
  rw [hx'] at hy
  rcases List.mem_append.mp hy with hy | hy
  ·exact h.fa y hy
  ·simp only [List.mem_singleton] at hy
   subst hy
   exact h0
theorem Two.pushB (h : Two PA PB ea ka ta eb kb tb base w S G) {x : β} (hx : PB.rd w x) (h1 : PB.off S.val.ownBlock x) (h2 : PB.off G.val.ownBlock x) (h0 : ∀ b, b < base -> PB.off (some b) x) {v : Value}
 (hown : w'.ownsRow base tb kb v (G.xs.length + 1) (G.xs.flatMap eb ++ eb x)) (hg : w.grownBy w' G.val.ownBlock) (hv : v.ownBlock = G.val.ownBlock \/ v.ownBlock = some w.heap.size) :
 ∃ G' : Sl β, v = G'.val /\ G'.xs = G.xs ++ [x] /\ Two PA PB ea ka ta eb kb tb base w' S G' := by
 obtain ⟨G', rfl, hx', hO⟩ := Own.push hown
 have hl := h.lt
 have hS : S.val.ownBlock = Option.none \/ S.val.ownBlock ≠ G.val.ownBlock := by
  cases hgb : S.val.ownBlock with
  | none => exact .inl rfl
  | some b => exact .inr (fun e => h.ne b hgb e.symm)
 refine ⟨G', rfl, hx', ⟨World.ownsRow.kept h.oa hg hS, hO, ?_, ?_, ?_, h.fa, ?_⟩⟩
 ·intro y hy
  obtain ⟨a, b, c⟩ := h.ra y hy
  exact ⟨PA.grown a c hg, b, PA.new a c hv⟩
 ·intro y hy
  rw [hx'] at hy
  rcases List.mem_append.mp hy with hy | hy
  ·obtain ⟨a, b, c⟩ := h.rb y hy
   exact ⟨PB.grown a c hg, b, PB.new a c hv⟩
  ·simp only [List.mem_singleton] at hy
   subst hy
   exact ⟨PB.grown hx h2 hg, h1, PB.new hx h2 hv⟩
 ·intro b hb e
  rcases hv with hv | hv
  ·exact h.ne b hb (hv ▸ e)
  ·rw [hv] at e
   simp only [Option.some.injEq] at e
   have := hl.1 b hb
   omega
 ·intro y hy
  rw [hx'] at hy
  rcases List.mem_append.mp hy with hy | hy
  ·exact h.fb y hy
  ·simp only [List.mem_singleton] at hy
   subst hy
   exact h0
theorem Two.set (h : Two PA PB ea ka ta eb kb tb base w S G) {b : Nat} (hb : b < base) (hX : But [b] w w') : Two PA PB ea ka ta eb kb tb base w' S G := by
 have hg := hX.toGrown
 have hS : S.val.ownBlock = Option.none \/ S.val.ownBlock ≠ some b := by
  cases hgb : S.val.ownBlock with
  | none => exact .inl rfl
  | some c => exact .inr (fun e => by have := h.oa.ge c hgb; simp only [Option.some.injEq] at e; omega)
 have hG : G.val.ownBlock = Option.none \/ G.val.ownBlock ≠ some b := by
  cases hgb : G.val.ownBlock with
  | none => exact .inl rfl
  | some c => exact .inr (fun e => by have := h.ob.ge c hgb; simp only [Option.some.injEq] at e; omega)
 exact ⟨World.ownsRow.kept h.oa hg hS, World.ownsRow.kept h.ob hg hG, fun x hx => ⟨PA.grown (h.ra x hx).1 (h.fa x hx b hb) hg, (h.ra x hx).2⟩, fun x hx => ⟨PB.grown (h.rb x hx).1 (h.fb x hx b hb) hg, (h.rb x hx).2⟩, h.ne, h.fa, h.fb⟩
end
end Go.Proofs.YtnnhnkpoekbahaaGreat
