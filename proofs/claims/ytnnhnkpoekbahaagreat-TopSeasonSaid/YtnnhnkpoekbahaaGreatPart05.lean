/- TopSeason: part 6 of 16: Lnk8 Rul Own2 Set Rt1 -/
import Derived.Test.YtnnhnkpoekbahaaGreatPart04
import Derived.Test.YtnnhnkpoekbahaaGreatPart01
import Derived.Test.YtnnhnkpoekbahaaGreatPart03
import Derived.Test.YtnnhnkpoekbahaaGreatPart00
import Derived.Laws.OwnMore
import Derived.OneCell
namespace Go.Proofs.YtnnhnkpoekbahaaGreat
open Go.RowKit
set_option maxHeartbeats 400000
set_option linter.unusedSimpArgs false
set_option linter.unusedVariables false
set_option maxRecDepth 100000
theorem i4 : ∃ i, Tryz.prog.info? 4 = some i /\ i.zero = some (.bool false) /\ i.size = 1 /\ i.bytes = 1 := info_of (by kernel_rfl)
theorem u29 : Tryz.prog.underlying 29 = some (.slice 4) := by kernel_rfl
theorem InB_nil (w : World) : InB w ⟨none, 0, []⟩ := ⟨Nat.le_refl _, by simp, fun e => absurd rfl e, fun _ h => by cases h⟩
def ROn (ls : List Lk) (w : World) (e : Ending) (w' : World) : Prop := ∃ (s : Sl Bool) (q : Int), e = .returned (.tuple #[s.val, .int .i64 q]) /\ (InB w' s /\ New w s) /\ (q = 0 -> s.xs.length = ls.length /\ ∀ i (h : i < s.xs.length) (h2 : i < ls.length), s.xs[i] = true -> ls[i].kind = 4) /\ Bl w w'
theorem ROn.no {ls : List Lk} {w w' : World} {q : Int} (hq : ¬ q = 0) (hb : Bl w w') : ROn ls w (.returned (.tuple #[.slice none 0 0, .int .i64 q])) w' := ⟨⟨none, 0, []⟩, q, rfl, ⟨InB_nil _, New.nil⟩, fun h => absurd h hq, hb⟩
set_option maxHeartbeats 2000000 in
theorem f157_core (A A2 V Pn Sn On LA : Option Addr) (c c2 cv cp cs co lc : Nat) (lv : List Int) (xs : List Nd) (ls : List Lk) (vs ps ss : List Int) (os : List Bool) (w : World) (SB : Bool)
 (hs : InNet w ⟨⟨A, c, xs⟩, ⟨A2, c2, ls⟩⟩) (ht : InSt w ⟨⟨V, cv, vs⟩, ⟨Pn, cp, ps⟩, ⟨Sn, cs, ss⟩, ⟨On, co, os⟩⟩) (hv : InI w ⟨LA, lc, lv⟩)
 (T50 : ∀ W, Bl w W -> Calls Tryz.prog 50 #[.agg #[.slice A xs.length c, .slice A2 ls.length c2], .agg #[.slice V vs.length cv, .slice Pn ps.length cp, .slice Sn ss.length cs, .slice On os.length co]] W fun e w' => e = .returned (.bool SB) /\ Bl W w')
 (T193 : ∀ W, Bl w W -> Calls Tryz.prog 193 #[.agg #[.slice A xs.length c, .slice A2 ls.length c2], .slice LA lv.length lc] W fun e w' => ∃ z : Int, e = .returned (.int .i64 z) /\ (z = 0 -> lv.length = xs.length) /\ Bl W w')
 (T194 : ∀ W (k : Nat) (h : k < ls.length), SB = true -> Bl w W -> Calls Tryz.prog 194 #[.agg #[.slice A xs.length c, .slice A2 ls.length c2], ls[k].val] W fun e w' => ∃ (i j : Nat), i < xs.length /\ e = .returned (.tuple #[.int .i64 i, .int .i64 j]) /\ Bl W w')
 (hL : SB = true -> ls.length ≤ 400 /\ os.length = ls.length) :
 Calls Tryz.prog 157 #[.agg #[.slice A xs.length c, .slice A2 ls.length c2], .agg #[.slice V vs.length cv, .slice Pn ps.length cp, .slice Sn ss.length cs, .slice On os.length co], .slice LA lv.length lc] w (ROn ls w) := by
 have hS := HD hs
 have hT := HD ht
 have hV := HD hv
 have hr := hs.links.room
 have hr3 := hv.room
 have hr4 := ht.on.room
 have T50 := HD T50
 have T193 := HD T193
 have T194 := HD T194
 have hL := HD hL
 simp only at hr hr3 hr4
 clear hs ht hv
 obtain ⟨i0, hi, hz0, hz1, hz2⟩ := i4
 have HI := HD (And.intro hi (And.intro hz0 (And.intro hz1 hz2)))
 clear hi hz0 hz1 hz2
 go_enter Tryz.func157, Tryz.ntmps157
 go_wp2_with fail
 refine (T50.out _ bz).mono ?_
 rintro e w2 ⟨rfl, hw2⟩
 clear T50
 obtain ⟨hchw2, hfhw2, hzhw2⟩ := Bl.rules hw2; (try simp only [aZ, cZ, dZ, nZ] at hzhw2)
 have zy0 : w.heap.size < w2.heap.size := by omega
 have zy1 : w.heap.size + 1 < w2.heap.size := by omega
 cases hb : SB
 case false =>
  go_wp2_with fail
  exact bodyPost_ret (v := .tuple #[.slice none 0 0, .int .i64 1]) (by simp [results, Tryz.results157, go_sem, *]; try exact ⟨rfl, rfl⟩) rfl (ROn.no (by omega) bz)
 obtain ⟨hl1, hl3⟩ := hL.out hb
 go_wp2_with fail
 refine (T193.out _ bz).mono ?_
 rintro e w3 ⟨z, rfl, hz, hw3⟩
 clear T193
 obtain ⟨hchw3, hfhw3, hzhw3⟩ := Bl.rules hw3; (try simp only [aZ, cZ, dZ, nZ] at hzhw3)
 have zx0 : w.heap.size < w3.heap.size := by omega
 have zx1 : w.heap.size + 1 < w3.heap.size := by omega
 by_cases hz0 : z = 0
 case neg =>
  have hzn : (z != 0) = true := by simpa using hz0
  go_wp2_with fail
  exact bodyPost_ret (v := .tuple #[.slice none 0 0, .int .i64 z]) (by simp [results, Tryz.results157, go_sem, *]; try exact ⟨rfl, rfl⟩) rfl (ROn.no hz0 bz)
 have hlvx := HD (hz hz0)
 clear hz
 subst hz0
 have hB4 : Bl w w3 := bz
 have T194 := HD (fun W k h => T194.out W k h hb)
 have b0 : w3.cell? ⟨w.heap.size, 0, none⟩ = some (.slice A xs.length c) := by simp [go_sem, *]
 have b1 : w3.cell? ⟨w.heap.size, 1, none⟩ = some (.slice A2 ls.length c2) := by simp [go_sem, *]
 have b4 : w3.cell? ⟨w.heap.size + 1, 3, none⟩ = some (.slice On os.length co) := by simp [go_sem, *]
 clear hw2 hchw2 hfhw2 hzhw2 hw3 hchw3 hfhw3 hzhw3 zy0 zy1 zx0 hb hL
 go_wp2_with fail
 go_loopg [9, 29] ls.length (fun gg s9 s29 wr => ∃ (kk : Nat) (s : Sl Bool), kk ≤ ls.length /\ ls.length - kk ≤ gg /\ s29 = .int .i64 kk /\ s9 = s.val /\ Aside (Bl w wr) /\ Aside (w.heap.size + 1 < wr.heap.size) /\ Aside (wr.cell? ⟨w.heap.size, 0, none⟩ = some (.slice A xs.length c)) /\ Aside (wr.cell? ⟨w.heap.size, 1, none⟩ = some (.slice A2 ls.length c2)) /\ Aside (wr.cell? ⟨w.heap.size + 1, 3, none⟩ = some (.slice On os.length co)) /\ Aside (Own encB 1 4 (w.heap.size + 2) wr s) /\ Aside (s.xs.length = kk) /\ Aside (∀ i (h : i < s.xs.length) (h2 : i < ls.length), s.xs[i] = true -> ls[i].kind = 4))
 case atStart => exact ⟨0, ⟨none, 0, []⟩, Nat.zero_le _, by omega, rfl, rfl, hB4, aside zx1, aside b0, aside b1, aside b4, Own.nil, aside rfl, aside (fun i h => absurd h (by simp))⟩
 case round =>
  clear hB4 zx1 b0 b1 b4
  obtain ⟨kk, s, hkk, hg, rfl, rfl, BW, Z, C0, C1, C4, OW, SL, PR⟩ := hrel
  have BW' := BW.out
  have Z' := Z.out
  have C0' := C0.out
  have C1' := C1.out
  have C4' := C4.out
  have SL' := SL.out
  have Z0' : w.heap.size < wr.heap.size := by omega
  clear BW Z C0 C1 C4 SL
  by_cases hlt : kk < ls.length
  ·have hltz : (kk : Int) < (ls.length : Int) := by omega
   have hkz : (0 : Int) ≤ (kk : Int) := by omega
   have hlo : kk < os.length := by omega
   obtain ⟨b, off, hA, _, _, _⟩ := hS.out.links.place (by intro e; simp only at e; rw [e] at hlt; simp at hlt)
   obtain ⟨b4, off4, hA4, _, _, _⟩ := hT.out.on.place (by intro e; simp only at e; rw [e] at hlo; simp at hlo)
   simp only at hA hA4
   subst hA hA4
   have hc := Sl.Ok.cells hS.out.links rfl wr BW' kk hlt
   have hco := HD (fun W (hb : Bl w W) => Sl.Ok.cells hT.out.on rfl W hb kk hlo 0 _ rfl)
   have T := HD (fun W => T194.out W kk hlt)
   have hgood := HD (fun W (hb : Bl w W) => (InNet.up hS.out hb).links.each ls[kk] (List.getElem_mem _))
   simp only at hc hco
   have hkd := HD (show ∀ s' : Sl Bool, ∀ bb : Bool, s'.xs = s.xs ++ [bb] -> (bb = true -> ls[kk].kind = 4) -> (∀ i (h : i < s'.xs.length) (h2 : i < ls.length), s'.xs[i] = true -> ls[i].kind = 4) from by
    intro s' bb h1 h2 i hi hi2 ht
    have hi' : i < kk + 1 := by rw [h1] at hi; simpa [SL'] using hi
    rcases Nat.lt_or_ge i kk with h | h
    ·refine PR.out i (by omega) hi2 ?_
     simp only [h1] at ht
     rw [List.getElem_append_left (by omega)] at ht
     exact ht
    ·have : i = kk := by omega
     subst this
     refine h2 ?_
     simp only [h1] at ht
     rw [List.getElem_append_right (by omega)] at ht
     simpa using ht)
   generalize ls[kk] = y at hc T hkd hgood
   generalize os[kk] = von at hco
   have e0 : wr.cell? ⟨b, off + kk * 11, none⟩ = some (.string y.name) := hc 0 _ rfl
   have e1 : wr.cell? ⟨b, off + kk * 11 + 1, none⟩ = some (.string y.src) := hc 1 _ rfl
   have e2 : wr.cell? ⟨b, off + kk * 11 + 2, none⟩ = some (.string y.dst) := hc 2 _ rfl
   have e3 : wr.cell? ⟨b, off + kk * 11 + 3, none⟩ = some (.int .i64 y.kind) := hc 3 _ rfl
   have e4 : wr.cell? ⟨b, off + kk * 11 + 4, none⟩ = some (.int .i64 y.len) := hc 4 _ rfl
   have e5 : wr.cell? ⟨b, off + kk * 11 + 5, none⟩ = some (.int .i64 y.up) := hc 5 _ rfl
   have e6 : wr.cell? ⟨b, off + kk * 11 + 6, none⟩ = some (.int .i64 y.down) := hc 6 _ rfl
   have e7 : wr.cell? ⟨b, off + kk * 11 + 7, none⟩ = some (.string y.sec) := hc 7 _ rfl
   have e8 : wr.cell? ⟨b, off + kk * 11 + 8, none⟩ = some (.int .i64 y.wid) := hc 8 _ rfl
   have e9 : wr.cell? ⟨b, off + kk * 11 + 9, none⟩ = some (.int .i64 y.hgt) := hc 9 _ rfl
   have e10 : wr.cell? ⟨b, off + kk * 11 + 10, none⟩ = some (y.curve.val) := hc 10 _ rfl
   clear hc
   by_cases hk4 : y.kind = 4
   ·have hk4b : (y.kind == 4) = true := by simpa using hk4
    have hk4h := HD hk4
    clear hk4
    go_wp2_with fail
    refine (T.out _ (Bl.trans BW' bz)).mono ?_
    rintro e w4 ⟨i, j, hi, rfl, hw4⟩
    have hB0 : Bl wr w4 := bz
    obtain ⟨hchw4, hfhw4, hzhw4⟩ := Bl.rules hw4; (try simp only [aZ, cZ, dZ, nZ] at hzhw4)
    have zq : wr.heap.size < w4.heap.size := by omega
    have hilv : i < lv.length := by have := hlvx.out; omega
    have hilz : (i : Int) < (lv.length : Int) := by omega
    have hiz : (0 : Int) ≤ (i : Int) := by omega
    obtain ⟨b5, off5, hA5, _, _, _⟩ := hV.out.place (by intro e; simp only at e; rw [e] at hilv; simp at hilv)
    simp only at hA5
    subst hA5
    have hcl := HD (fun W (hb : Bl w W) => Sl.Ok.cells hV.out rfl W hb i hilv 0 _ rfl)
    simp only at hcl
    generalize lv[i] = vlv at hcl
    have q0 : w4.cell? ⟨wr.heap.size, 0, none⟩ = some (.string y.name) := by simp [go_sem, *]
    have q1 : w4.cell? ⟨wr.heap.size, 1, none⟩ = some (.string y.src) := by simp [go_sem, *]
    have q2 : w4.cell? ⟨wr.heap.size, 2, none⟩ = some (.string y.dst) := by simp [go_sem, *]
    have q3 : w4.cell? ⟨wr.heap.size, 3, none⟩ = some (.int .i64 y.kind) := by simp [go_sem, *]
    have q4 : w4.cell? ⟨wr.heap.size, 4, none⟩ = some (.int .i64 y.len) := by simp [go_sem, *]
    have q5 : w4.cell? ⟨wr.heap.size, 5, none⟩ = some (.int .i64 y.up) := by simp [go_sem, *]
    have q6 : w4.cell? ⟨wr.heap.size, 6, none⟩ = some (.int .i64 y.down) := by simp [go_sem, *]
    have q7 : w4.cell? ⟨wr.heap.size, 7, none⟩ = some (.string y.sec) := by simp [go_sem, *]
    have q8 : w4.cell? ⟨wr.heap.size, 8, none⟩ = some (.int .i64 y.wid) := by simp [go_sem, *]
    have q9 : w4.cell? ⟨wr.heap.size, 9, none⟩ = some (.int .i64 y.hgt) := by simp [go_sem, *]
    have q10 : w4.cell? ⟨wr.heap.size, 10, none⟩ = some (y.curve.val) := by simp [go_sem, *]
    have d0 : w4.cell? ⟨w.heap.size, 0, none⟩ = some (.slice A xs.length c) := hB0.keep C0'
    have d1 : w4.cell? ⟨w.heap.size, 1, none⟩ = some (.slice (some ⟨b, off, none⟩) ls.length c2) := hB0.keep C1'
    have d2 : w4.cell? ⟨w.heap.size + 1, 3, none⟩ = some (.slice (some ⟨b4, off4, none⟩) os.length co) := hB0.keep C4'
    have hBW0 : Bl w w4 := Bl.trans BW' hB0
    have q11 : w4.cell? ⟨b4, off4 + kk, none⟩ = some (.bool von) := by have := hco.out w4 hBW0; rwa [Nat.mul_one] at this
    have q12 : w4.cell? ⟨b5, off5 + i, none⟩ = some (.int .i64 vlv) := by have := hcl.out w4 hBW0; rwa [Nat.mul_one] at this
    clear e0 e1 e2 e3 e4 e5 e6 e7 e8 e9 e10 C0' C1' C4' hchw4 hfhw4
    go_wp2_with fail
    go_region_held3 (fun w' => Bl w4 w' /\ w'.cell? ⟨w.heap.size, 0, none⟩ = some (.slice A xs.length c) /\ w'.cell? ⟨w.heap.size, 1, none⟩ = some (.slice (some ⟨b, off, none⟩) ls.length c2) /\ w'.cell? ⟨w.heap.size + 1, 3, none⟩ = some (.slice (some ⟨b4, off4, none⟩) os.length co) /\ w'.cell? ⟨wr.heap.size, 0, none⟩ = some (.string y.name) /\ w'.cell? ⟨wr.heap.size, 1, none⟩ = some (.string y.src) /\ w'.cell? ⟨wr.heap.size, 2, none⟩ = some (.string y.dst) /\ w'.cell? ⟨wr.heap.size, 3, none⟩ = some (.int .i64 y.kind) /\ w'.cell? ⟨wr.heap.size, 4, none⟩ = some (.int .i64 y.len) /\ w'.cell? ⟨wr.heap.size, 5, none⟩ = some (.int .i64 y.up) /\ w'.cell? ⟨wr.heap.size, 6, none⟩ = some (.int .i64 y.down) /\ w'.cell? ⟨wr.heap.size, 7, none⟩ = some (.string y.sec) /\ w'.cell? ⟨wr.heap.size, 8, none⟩ = some (.int .i64 y.wid) /\ w'.cell? ⟨wr.heap.size, 9, none⟩ = some (.int .i64 y.hgt) /\ w'.cell? ⟨wr.heap.size, 10, none⟩ = some (y.curve.val) /\ w'.cell? ⟨b4, off4 + kk, none⟩ = some (.bool von) /\ w'.cell? ⟨b5, off5 + i, none⟩ = some (.int .i64 vlv)) (refine ⟨bz, Bl.keep (a := w4) bz d0, Bl.keep (a := w4) bz d1, Bl.keep (a := w4) bz d2, Bl.keep (a := w4) bz q0, Bl.keep (a := w4) bz q1, Bl.keep (a := w4) bz q2, Bl.keep (a := w4) bz q3, Bl.keep (a := w4) bz q4, Bl.keep (a := w4) bz q5, Bl.keep (a := w4) bz q6, Bl.keep (a := w4) bz q7, Bl.keep (a := w4) bz q8, Bl.keep (a := w4) bz q9, Bl.keep (a := w4) bz q10, Bl.keep (a := w4) bz q11, Bl.keep (a := w4) bz q12⟩) (first
     | (go_at_call 195; refine (f195_c y von vlv _ (hgood.out _ (Bl.trans hBW0 bz))).mono ?_; rintro e w' ⟨bq, zv, rfl, hwl⟩))
    have hSS : Bl w4 w' /\ w'.cell? ⟨w.heap.size, 0, none⟩ = some (.slice A xs.length c) /\ w'.cell? ⟨w.heap.size, 1, none⟩ = some (.slice (some ⟨b, off, none⟩) ls.length c2) /\ w'.cell? ⟨w.heap.size + 1, 3, none⟩ = some (.slice (some ⟨b4, off4, none⟩) os.length co) /\ w'.cell? ⟨wr.heap.size, 0, none⟩ = some (.string y.name) /\ w'.cell? ⟨wr.heap.size, 1, none⟩ = some (.string y.src) /\ w'.cell? ⟨wr.heap.size, 2, none⟩ = some (.string y.dst) /\ w'.cell? ⟨wr.heap.size, 3, none⟩ = some (.int .i64 y.kind) /\ w'.cell? ⟨wr.heap.size, 4, none⟩ = some (.int .i64 y.len) /\ w'.cell? ⟨wr.heap.size, 5, none⟩ = some (.int .i64 y.up) /\ w'.cell? ⟨wr.heap.size, 6, none⟩ = some (.int .i64 y.down) /\ w'.cell? ⟨wr.heap.size, 7, none⟩ = some (.string y.sec) /\ w'.cell? ⟨wr.heap.size, 8, none⟩ = some (.int .i64 y.wid) /\ w'.cell? ⟨wr.heap.size, 9, none⟩ = some (.int .i64 y.hgt) /\ w'.cell? ⟨wr.heap.size, 10, none⟩ = some (y.curve.val) /\ w'.cell? ⟨b4, off4 + kk, none⟩ = some (.bool von) /\ w'.cell? ⟨b5, off5 + i, none⟩ = some (.int .i64 vlv) := by assumption
    have hBw' : Bl wr w' := Bl.trans hB0 hSS.1
    have hbw' : Bl w w' := Bl.trans BW' hBw'
    have f0 := hSS.1.keep d0
    have f1 := hSS.1.keep d1
    have f2 := hSS.1.keep d2
    have hzw : w.heap.size + 1 < w'.heap.size := by have := hSS.1.size; omega
    clear hSS q0 q1 q2 q3 q4 q5 q6 q7 q8 q9 q10 q11 q12 d0 d1 d2 hwl
    by_cases hz0 : zv = 0
    ·subst hz0
     have hOw := HD (Own.bl OW.out hBw')
     go_wp2_with (at_builtin; refine wpList_append_own _ rfl _ _ 29 rfl (w.heap.size + 2) 4 i0 (.bool false) 1 1 u29 HI.out.1 HI.out.2.1 HI.out.2.2.1 HI.out.2.2.2 rfl (by decide) _ _ _ rfl (World.ownsRow.alloc hOw.out _) ⟨w'.heap.size, 0, none⟩ 1 1 [.bool bq] rfl rfl ?c1 ?c2 ?c3 ?c4 ?c5 ?_)
     try case c1 =>
      intro j u hj
      match j, hj with
      | 0, hj => simp at hj; subst hj; simp [Addr.add, go_sem]
     case c2 => first | rfl | (intro u hu; simp at hu; subst hu; rfl)
     case c3 => unfold maxLen; omega
     case c4 => omega
     case c5 => first | omega | (simp; omega)
     intro v' w5 hown' hgrow _
     obtain ⟨s', rfl, hs', hO'⟩ := Own.push (enc := encB) (k := 1) (e := 4) (base := w.heap.size + 2) (w := w5) (s := s) (x := bq) (v := v') (by rw [SL']; exact hown')
     have hOa := HD (World.ownsRow.alloc hOw.out (Obj.cells #[.bool bq] 4))
     have hB5 : Bl w w5 := Bl.grown (Bl.alloc hbw' _) hgrow (fun g hg => by have := (World.ownsRow.lt hOw.out g hg).1; omega)
     have hz5 : w.heap.size + 1 < w5.heap.size := by have := hgrow.size; simp at this; omega
     have g0 : w5.cell? ⟨w.heap.size, 0, none⟩ = some (.slice A xs.length c) := (Own.kept (s := s) hOa.out hgrow _ _ (by omega) (by simp; omega)).trans ((Bl.alloc (Bl.refl _) _).keep f0)
     have g1 : w5.cell? ⟨w.heap.size, 1, none⟩ = some (.slice (some ⟨b, off, none⟩) ls.length c2) := (Own.kept (s := s) hOa.out hgrow _ _ (by omega) (by simp; omega)).trans ((Bl.alloc (Bl.refl _) _).keep f1)
     have g2 : w5.cell? ⟨w.heap.size + 1, 3, none⟩ = some (.slice (some ⟨b4, off4, none⟩) os.length co) := (Own.kept (s := s) hOa.out hgrow _ _ (by omega) (by simp; omega)).trans ((Bl.alloc (Bl.refl _) _).keep f2)
     have hX := HD (show s'.xs.length = kk + 1 by rw [hs', List.length_append, SL']; rfl)
     have hP := HD (hkd.out s' bq hs' (fun _ => hk4h.out))
     have hOO := HD hO'
     clear hown' hgrow hO' hs' f0 f1 f2
     go_wp2_with fail
     go_roundg (ls.length - (kk + 1))
     case measure => omega
     case rel => exact ⟨kk + 1, s', by omega, by omega, by go_num, rfl, hB5, aside hz5, aside g0, aside g1, aside g2, hOO.out, hX.out, hP.out⟩
    ·have hz1 : (zv != 0) = true := by simpa using hz0
     go_wp2_with fail
     exact bodyPost_ret (v := .tuple #[.slice none 0 0, .int .i64 zv]) (by simp [results, Tryz.results157, go_sem, *]; try exact ⟨rfl, rfl⟩) rfl (ROn.no hz0 bz)
   ·have hk4b : (y.kind == 4) = false := by simpa using hk4
    have hBw' : Bl wr (wr.alloc (Obj.cells #[.string y.name, .string y.src, .string y.dst, .int .i64 y.kind, .int .i64 y.len, .int .i64 y.up, .int .i64 y.down, .string y.sec, .int .i64 y.wid, .int .i64 y.hgt, y.curve.val] 45)) := bz
    have hbw' : Bl w (wr.alloc (Obj.cells #[.string y.name, .string y.src, .string y.dst, .int .i64 y.kind, .int .i64 y.len, .int .i64 y.up, .int .i64 y.down, .string y.sec, .int .i64 y.wid, .int .i64 y.hgt, y.curve.val] 45)) := Bl.trans BW' hBw'
    have hzw : w.heap.size + 1 < (wr.alloc (Obj.cells #[.string y.name, .string y.src, .string y.dst, .int .i64 y.kind, .int .i64 y.len, .int .i64 y.up, .int .i64 y.down, .string y.sec, .int .i64 y.wid, .int .i64 y.hgt, y.curve.val] 45)).heap.size := by simp; omega
    have f0 : (wr.alloc (Obj.cells #[.string y.name, .string y.src, .string y.dst, .int .i64 y.kind, .int .i64 y.len, .int .i64 y.up, .int .i64 y.down, .string y.sec, .int .i64 y.wid, .int .i64 y.hgt, y.curve.val] 45)).cell? ⟨w.heap.size, 0, none⟩ = some (.slice A xs.length c) := hBw'.keep C0'
    have f1 : (wr.alloc (Obj.cells #[.string y.name, .string y.src, .string y.dst, .int .i64 y.kind, .int .i64 y.len, .int .i64 y.up, .int .i64 y.down, .string y.sec, .int .i64 y.wid, .int .i64 y.hgt, y.curve.val] 45)).cell? ⟨w.heap.size, 1, none⟩ = some (.slice (some ⟨b, off, none⟩) ls.length c2) := hBw'.keep C1'
    have f2 : (wr.alloc (Obj.cells #[.string y.name, .string y.src, .string y.dst, .int .i64 y.kind, .int .i64 y.len, .int .i64 y.up, .int .i64 y.down, .string y.sec, .int .i64 y.wid, .int .i64 y.hgt, y.curve.val] 45)).cell? ⟨w.heap.size + 1, 3, none⟩ = some (.slice (some ⟨b4, off4, none⟩) os.length co) := hBw'.keep C4'
    have hOw := HD (Own.bl OW.out hBw')
    go_wp2_with (at_builtin; refine wpList_append_own _ rfl _ _ 29 rfl (w.heap.size + 2) 4 i0 (.bool false) 1 1 u29 HI.out.1 HI.out.2.1 HI.out.2.2.1 HI.out.2.2.2 rfl (by decide) _ _ _ rfl (World.ownsRow.alloc hOw.out _) ⟨wr.heap.size + 1, 0, none⟩ 1 1 [.bool false] rfl rfl ?c1 ?c2 ?c3 ?c4 ?c5 ?_)
    try case c1 =>
     intro j u hj
     match j, hj with
     | 0, hj => simp at hj; subst hj; simp [Addr.add, go_sem]
    case c2 => first | rfl | (intro u hu; simp at hu; subst hu; rfl)
    case c3 => unfold maxLen; omega
    case c4 => omega
    case c5 => first | omega | (simp; omega)
    intro v' w5 hown' hgrow _
    obtain ⟨s', rfl, hs', hO'⟩ := Own.push (enc := encB) (k := 1) (e := 4) (base := w.heap.size + 2) (w := w5) (s := s) (x := false) (v := v') (by rw [SL']; exact hown')
    have hOa := HD (World.ownsRow.alloc hOw.out (Obj.cells #[.bool false] 4))
    have hB5 : Bl w w5 := Bl.grown (Bl.alloc hbw' _) hgrow (fun g hg => by have := (World.ownsRow.lt hOw.out g hg).1; omega)
    have hz5 : w.heap.size + 1 < w5.heap.size := by have := hgrow.size; simp at this; omega
    have g0 : w5.cell? ⟨w.heap.size, 0, none⟩ = some (.slice A xs.length c) := (Own.kept (s := s) hOa.out hgrow _ _ (by omega) (by simp; omega)).trans ((Bl.alloc (Bl.refl _) _).keep f0)
    have g1 : w5.cell? ⟨w.heap.size, 1, none⟩ = some (.slice (some ⟨b, off, none⟩) ls.length c2) := (Own.kept (s := s) hOa.out hgrow _ _ (by omega) (by simp; omega)).trans ((Bl.alloc (Bl.refl _) _).keep f1)
    have g2 : w5.cell? ⟨w.heap.size + 1, 3, none⟩ = some (.slice (some ⟨b4, off4, none⟩) os.length co) := (Own.kept (s := s) hOa.out hgrow _ _ (by omega) (by simp; omega)).trans ((Bl.alloc (Bl.refl _) _).keep f2)
    have hX := HD (show s'.xs.length = kk + 1 by rw [hs', List.length_append, SL']; rfl)
    have hP := HD (hkd.out s' false hs' (fun h => by cases h))
    have hOO := HD hO'
    clear hown' hgrow hO' hs' f0 f1 f2
    go_wp2_with fail
    go_roundg (ls.length - (kk + 1))
    case measure => omega
    case rel => exact ⟨kk + 1, s', by omega, by omega, by go_num, rfl, hB5, aside hz5, aside g0, aside g1, aside g2, hOO.out, hX.out, hP.out⟩
  ·have hltz : ¬ (kk : Int) < (ls.length : Int) := by omega
   have hk : kk = ls.length := by omega
   go_wp2_with fail
   exact bodyPost_ret (v := .tuple #[s.val, .int .i64 0]) (by simp [results, Tryz.results157, go_sem, *]; try exact ⟨rfl, rfl⟩) rfl ⟨s, 0, rfl, ⟨Own.ok OW.out (fun _ => rfl) (by omega) (fun _ _ => trivial), New.own OW.out (by omega)⟩, fun _ => ⟨by omega, PR.out⟩, BW'⟩
theorem f157_c (n : Net) (s : St) (lv : Sl Int) (w : World) (hs : InNet w n) (ht : InSt w s) (hv : InI w lv) : Calls Tryz.prog 157 #[n.val, s.val, lv.val] w (ROn n.links.xs w) := by
 obtain ⟨⟨A, c, xs⟩, ⟨A2, c2, ls⟩⟩ := n
 obtain ⟨⟨V, cv, vs⟩, ⟨Pn, cp, ps⟩, ⟨Sn, cs, ss⟩, ⟨On, co, os⟩⟩ := s
 obtain ⟨LA, lc, lv⟩ := lv
 refine f157_core A A2 V Pn Sn On LA c c2 cv cp cs co lc lv xs ls vs ps ss os w (stateB ⟨⟨A, c, xs⟩, ⟨A2, c2, ls⟩⟩ ⟨⟨V, cv, vs⟩, ⟨Pn, cp, ps⟩, ⟨Sn, cs, ss⟩, ⟨On, co, os⟩⟩) hs ht hv
  (fun W hb => f50_c _ _ W (InNet.up hs hb) (InSt.up ht hb)) (fun W hb => f193_c ⟨⟨A, c, xs⟩, ⟨A2, c2, ls⟩⟩ ⟨LA, lc, lv⟩ W (InNet.up hs hb) (InI.up hv hb))
  (fun W k h hSB hb => ?_) (fun hSB => ?_)
 ·have hok := (stateB_iff _ _).mp hSB
  have he := lk_ends hok.1 k h
  refine (f194_c ⟨⟨A, c, xs⟩, ⟨A2, c2, ls⟩⟩ ls[k] W (InNet.up hs hb)).mono ?_
  rintro e w' ⟨rfl, hw'⟩
  rcases ix_range (fun y : Nd => y.name == ls[k].src) xs with h | ⟨i, hi, hI⟩
  ·exact absurd he.1 (by unfold ndIx; simp only at h ⊢; omega)
  rcases ix_range (fun y : Nd => y.name == ls[k].dst) xs with h | ⟨j, hj, hJ⟩
  ·exact absurd he.2 (by unfold ndIx; simp only at h ⊢; omega)
  exact ⟨i, j, hi, by unfold ndIx; simp only; rw [hI, hJ], hw'⟩
 ·have hok := (stateB_iff _ _).mp hSB
  exact ⟨((netB_iff _).mp hok.1).2.1, hok.2.2.2.2.1⟩
theorem e191 (args : Array Value) (w : World) : (callFunc 191 args).run Tryz.prog w = .ok (.enter 191 args) w := enters_of Tryz.func191 (by kernel_rfl) rfl args w
theorem f191_c (x : Sec) (q : Nat) (nm : ByteArray) (w : World) (h : w.cell? ⟨q, 0, none⟩ = some (.string nm)) : Calls Tryz.prog 191 #[x.val, .pointer (some ⟨q, 0, none⟩)] w fun e w' => e = .returned (.bool (x.name == nm)) /\ Bl w w' := by
 have hq := cell_lt h
 simp only at hq
 go_enter Tryz.func191, Tryz.ntmps191
 go_wp2_with fail
 go_ret
 exact ⟨ret_bool (beq_toListBytes _ _).symm, bz⟩
theorem f153_c (l : Sl Sec) (nm : ByteArray) (w : World) (hl : InSecs w l) : Calls Tryz.prog 153 #[l.val, .string nm] w fun e w' => ∃ q z : Int, e = .returned (.tuple #[.int .i64 q, .int .i64 z]) /\ Bl w w' := by
 have T48 := HD (fun W (hb : Bl w W) => f48_c l W (InSecs.up hl hb))
 have T26 := HD (fun W (q : Nat) (hb : Bl w W) (hc : W.cell? ⟨q, 0, none⟩ = some (.string nm)) => f26_c l W.heap.size 191 #[.pointer (some ⟨q, 0, none⟩)] (fun y : Sec => y.name == nm) W (InSecs.up hl hb) (fun W' y _ hb' => f191_c y q nm W' (hb'.keep hc)) e191)
 clear hl
 go_enter Tryz.func153, Tryz.ntmps153
 go_wp2_with fail
 refine (T48.out _ bz).mono ?_
 rintro e w1 ⟨b0, _, _, rfl, hw1⟩
 clear T48
 obtain ⟨hchw1, hfhw1, hzhw1⟩ := Bl.rules hw1; (try simp only [aZ, cZ, dZ, nZ] at hzhw1)
 have z1 : w.heap.size < w1.heap.size := by omega
 cases b0
 ·go_wp2_with fail
  exact bodyPost_ret (v := .tuple #[.int .i64 0, .int .i64 1]) (by simp [results, Tryz.results153, go_sem, *]; try exact ⟨rfl, rfl⟩) rfl ⟨0, 1, rfl, bz⟩
 ·go_wp2_with fail
  refine (T26.out _ _ bz (by simp [go_sem, *])).mono ?_
  rintro e w2 ⟨rfl, hw2⟩
  clear T26
  generalize ix (fun y : Sec => y.name == nm) l.xs = i
  by_cases hi : 0 ≤ i
  ·go_wp2_with fail
   exact bodyPost_ret (v := .tuple #[.int .i64 i, .int .i64 0]) (by simp [results, Tryz.results153, go_sem, *]; try exact ⟨rfl, rfl⟩) rfl ⟨i, 0, rfl, bz⟩
  ·go_wp2_with fail
   exact bodyPost_ret (v := .tuple #[.int .i64 0, .int .i64 9]) (by simp [results, Tryz.results153, go_sem, *]; try exact ⟨rfl, rfl⟩) rfl ⟨0, 9, rfl, bz⟩
theorem e108 (args : Array Value) (w : World) : (callFunc 108 args).run Tryz.prog w = .ok (.enter 108 args) w := enters_of Tryz.func108 (by kernel_rfl) rfl args w
theorem f108_c (s : Int) (w : World) : Calls Tryz.prog 108 #[.int .i64 s] w fun e w' => e = .returned (.bool (!inR 0 1000 s)) /\ Bl w w' := by
 go_enter Tryz.func108, Tryz.ntmps108
 go_wp2_with fail
 refine (f102_c _ _ _ _).mono ?_
 rintro e w2 ⟨rfl, rfl⟩
 go_wp2_with fail
 go_ret
 exact ⟨rfl, bz⟩
def intMap (f : ByteArray -> Option Value) : Prop := ∀ a, f a = none \/ ∃ v : Int, f a = some (.int .i64 v)
def valI : Option Value -> Int
 | some (.int _ v) => v
 | _ => 0
theorem intMap.get {f : ByteArray -> Option Value} (h : intMap f) (a : ByteArray) : (f a).getD (.int .i64 0) = .int .i64 (valI (f a)) := by
 rcases h a with e | ⟨v, e⟩
 ·rw [e]; rfl
 ·rw [e]; rfl
theorem zeroInt (w : World) : (zeroValue 3).run Tryz.prog w = .ok (.int .i64 0) w := by kernel_rfl
theorem u172 : Tryz.prog.underlying 172 = some (.map 9 3) := by kernel_rfl
def condB (f : ByteArray -> Option Value) (c : Cond) : Bool := decide (c.level ≤ valI (f c.node)) == c.below
theorem e152 (args : Array Value) (w : World) : (callFunc 152 args).run Tryz.prog w = .ok (.enter 152 args) w := enters_of Tryz.func152 (by kernel_rfl) rfl args w
theorem f152_c (c : Cond) (q m : Nat) (f : ByteArray -> Option Value) (w : World) (M : MapAt KS w m f) (hf : intMap f) (h : w.cell? ⟨q, 0, none⟩ = some (.map (some m))) : Calls Tryz.prog 152 #[c.val, .pointer (some ⟨q, 0, none⟩)] w fun e w' => e = .returned (.bool (condB f c)) /\ Bl w w' := by
 have hq := cell_lt h
 simp only at hq
 have L : Sem.run Tryz.prog (Instr.lookup 172 (.map (some m)) (.string c.node) false) (w.alloc (Obj.cells #[.string c.node, .bool c.below, .int .i64 c.level] 184)) = .ok (.int .i64 (valI (f c.node))) (w.alloc (Obj.cells #[.string c.node, .bool c.below, .int .i64 c.level] 184)) := by
  have := (M.keep (show Bl w (w.alloc (Obj.cells #[.string c.node, .bool c.below, .int .i64 c.level] 184)) from bz)).lookup u172 u9 (zeroInt _) c.node false
  rw [hf.get] at this
  exact this
 have KF := HD (show condB f c = (decide (c.level ≤ valI (f c.node)) == c.below) from rfl)
 generalize valI (f c.node) = v at L KF
 clear M hf
 go_enter Tryz.func152, Tryz.ntmps152
 go_wp2_with fail
 go_ret
 exact ⟨ret_bool KF.out.symm, bz⟩
theorem f110_c (r : Rul) (m : Nat) (f : ByteArray -> Option Value) (w : World) (hr : InRul w r) (M : MapAt KS w m f) (hf : intMap f) : Calls Tryz.prog 110 #[r.val, .map (some m)] w fun e w' => ∃ b, e = .returned (.bool b) /\ Bl w w' := by
 have T := HD (fun W (q : Nat) (hb : Bl w W) (hc : W.cell? ⟨q, 0, none⟩ = some (.map (some m))) => f151_c r.cond W.heap.size 152 #[.pointer (some ⟨q, 0, none⟩)] (condB f) W (InRul.up hr hb) (fun W' y _ hb' => f152_c y q m f W' (M.keep (hb.trans hb')) hf (hb'.keep hc)) e152)
 clear hr M hf
 go_enter Tryz.func110, Tryz.ntmps110
 go_wp2_with fail
 refine (T.out _ _ bz (by simp [go_sem])).mono ?_
 rintro e w1 ⟨rfl, hw1⟩
 clear T
 go_wp2_with fail
 go_ret
 exact ⟨_, rfl, bz⟩
def RRul (r : Rul) (w : World) (e : Ending) (w' : World) : Prop := ∃ b, (b = true -> inR 0 1000 r.set = true) /\ e = .returned (.bool b) /\ Bl w w'
set_option maxHeartbeats 2000000 in
theorem f74_c (r : Rul) (w : World) (hs : InRul w r) : Calls Tryz.prog 74 #[r.val] w (RRul r w) := by
 have hS := HD hs
 have hroom := hs.room
 clear hs
 obtain ⟨nm, ⟨A, c, xs⟩, lk, st⟩ := r
 simp only at hroom
 show Calls Tryz.prog 74 #[.agg #[.string nm, .slice A xs.length c, .string lk, .int .i64 st]] w (RRul ⟨nm, ⟨A, c, xs⟩, lk, st⟩ w)
 have hfalse : ∀ w', Bl w w' -> RRul ⟨nm, ⟨A, c, xs⟩, lk, st⟩ w (.returned (.bool false)) w' := fun w' hb => ⟨false, fun h => (by cases h), rfl, hb⟩
 go_enter Tryz.func74, Tryz.ntmps74
 go_wp2_with fail
 refine (name_c nm _).mono ?_
 rintro e w1 ⟨rfl, rfl⟩
 cases g1 : nameB nm
 ·go_wp2_with fail
  go_ret
  exact hfalse _ bz
 go_wp2_with fail
 refine (name_c lk _).mono ?_
 rintro e w1 ⟨rfl, rfl⟩
 cases g2 : nameB lk
 ·go_wp2_with fail
  go_ret
  exact hfalse _ bz
 by_cases h20 : xs.length ≤ 20
 case neg =>
  have h20' : 20 < xs.length := by omega
  go_wp2_with fail
  go_ret
  exact hfalse _ bz
 have h20' : ¬ 20 < xs.length := by omega
 go_wp2_with fail
 refine (f102_c _ _ _ _).mono ?_
 rintro e w1 ⟨rfl, rfl⟩
 cases g3 : inR 0 1000 st
 ·go_wp2_with fail
  go_ret
  exact hfalse _ bz
 have hG := HD g3
 go_wp2_with fail
 go_loopg [30] xs.length (fun gg s30 wr => ∃ (kk : Nat), kk ≤ xs.length /\ xs.length - kk ≤ gg /\ s30 = .int .i64 kk /\ Aside (Bl w wr))
 case atStart => exact ⟨0, Nat.zero_le _, by omega, rfl, bz⟩
 case round =>
  obtain ⟨kk, hkk, hg, rfl, BW⟩ := hrel
  have BW' := BW.out
  by_cases hlt : kk < xs.length
  ·have hltz : (kk : Int) < (xs.length : Int) := by omega
   have hkz : (0 : Int) ≤ (kk : Int) := by omega
   obtain ⟨b, off, hA, _, _, _⟩ := (InRul.up hS.out (Bl.refl w)).place (by intro e; simp only at e; rw [e] at hlt; simp at hlt)
   simp only at hA
   subst hA
   have hc := Sl.Ok.cells hS.out rfl wr BW' kk hlt
   simp only at hc
   generalize xs[kk] = y at hc
   have e0 : wr.cell? ⟨b, off + kk * 3, none⟩ = some (.string y.node) := hc 0 _ rfl
   have e1 : wr.cell? ⟨b, off + kk * 3 + 1, none⟩ = some (.bool y.below) := hc 1 _ rfl
   have e2 : wr.cell? ⟨b, off + kk * 3 + 2, none⟩ = some (.int .i64 y.level) := hc 2 _ rfl
   clear hc
   go_wp2_with fail
   refine (name_c y.node _).mono ?_
   rintro e w3 ⟨rfl, rfl⟩
   cases nameB y.node
   ·go_wp2_with fail
    go_ret
    exact hfalse _ bz
   go_wp2_with fail
   refine (f102_c y.level (-4194304) 4194304 _).mono ?_
   rintro e w3 ⟨rfl, rfl⟩
   have hbw3 : Bl w (wr.alloc (Obj.cells #[.string y.node, .bool y.below, .int .i64 y.level] 184)) := bz
   cases inR (-4194304) 4194304 y.level
   ·go_wp2_with fail
    go_ret
    exact hfalse _ bz
   go_wp2_with fail
   go_roundg (xs.length - (kk + 1))
   case measure => omega
   case rel => exact ⟨kk + 1, by omega, by omega, by go_num, hbw3⟩
  ·have hltz : ¬ (kk : Int) < (xs.length : Int) := by omega
   go_wp2_with fail
   go_ret
   exact ⟨true, fun _ => hG.out, rfl, BW'⟩
def RRuls (xs : List Rul) (w : World) (e : Ending) (w' : World) : Prop := ∃ b, (xs = [] -> b = true) /\ (b = true -> xs.length ≤ 60 /\ ∀ x ∈ xs, inR 0 1000 x.set = true) /\ e = .returned (.bool b) /\ Bl w w'
set_option maxHeartbeats 2000000 in
theorem f49_c (s : Sl Rul) (w : World) (hs : InRuls w s) : Calls Tryz.prog 49 #[s.val] w (RRuls s.xs w) := by
 have hr := hs.room
 obtain ⟨A, c, xs⟩ := s
 simp only at hr
 have hmm := @run_makeMap Tryz.prog
 by_cases h40 : xs.length ≤ 60
 ·have h40' : ¬ 60 < xs.length := by omega
  by_cases h0 : xs = []
  ·subst h0
   clear hs
   show Calls Tryz.prog 49 #[.slice A 0 c] w (RRuls [] w)
   go_enter Tryz.func49, Tryz.ntmps49
   go_wp2
   refine wp_loop_rounds 1 ?_
   rw [rounds_succ]
   go_wp2
   go_ret
   exact ⟨true, by simp, by simp, rfl, bz⟩
  ·obtain ⟨b, off, hA, hB, hw, hc⟩ := hs.place h0
   simp only at hA
   subst hA
   have hrow := fun W hb i hi => Sl.Ok.cells hs rfl W hb i hi
   have heach := HD (fun W (hb : Bl w W) x (hx : x ∈ xs) => f74_c x W (InRul.up (hs.each x hx) hb))
   clear hs hc h0
   simp only at hrow
   show Calls Tryz.prog 49 #[.slice (some ⟨b, off, none⟩) xs.length c] w (RRuls xs w)
   go_enter Tryz.func49, Tryz.ntmps49
   go_wp2_with fail
   go_loopg [12] xs.length (fun gg s12 wr => ∃ (kk : Nat) (f : ByteArray -> Option Value), kk ≤ xs.length /\ xs.length - kk ≤ gg /\ s12 = .int .i64 kk /\ Aside (Bl w wr) /\ Aside (MapAt KS wr w.heap.size f) /\ Aside (boolMap f) /\ Aside (∀ j (h : j < xs.length), j < kk -> inR 0 1000 xs[j].set = true))
   case atStart => exact ⟨0, fun _ => none, Nat.zero_le _, by omega, rfl, bz, MapAt.made KS w, fun a => .inl rfl, aside (fun j _ h => by omega)⟩
   case round =>
    obtain ⟨kk, f, hkk, hg, rfl, BW, M, hf, hP⟩ := hrel
    by_cases hlt : kk < xs.length
    ·have hltz : (kk : Int) < (xs.length : Int) := by omega
     have hc := hrow wr BW.out kk (by omega)
     have hmem := HD (List.getElem_mem hlt)
     have hstep : Hid (inR 0 1000 xs[kk].set = true -> ∀ j (h : j < xs.length), j < kk + 1 -> inR 0 1000 xs[j].set = true) := fun h j hj hk => by
      rcases Nat.lt_or_ge j kk with h1 | h1
      ·exact hP.out j hj h1
      ·have : j = kk := by omega
       subst this; exact h
     generalize xs[kk] = y at hc hstep hmem
     have c0 : wr.cell? ⟨b, off + kk * 4, none⟩ = some (.string y.name) := hc 0 _ rfl
     have c1 : wr.cell? ⟨b, off + kk * 4 + 1, none⟩ = some y.cond.val := hc 1 _ rfl
     have c2 : wr.cell? ⟨b, off + kk * 4 + 2, none⟩ = some (.string y.link) := hc 2 _ rfl
     have c3 : wr.cell? ⟨b, off + kk * 4 + 3, none⟩ = some (.int .i64 y.set) := hc 3 _ rfl
     have hne : Hid (xs ≠ []) := fun e => by rw [e] at hlt; simp at hlt
     clear hc hrow
     go_wp2_with fail
     have BW' := BW.out
     refine (heach.out _ bz y hmem.out).mono ?_
     rintro e w2 ⟨bq, hq0, rfl, hw2⟩
     have hq := HD hq0
     clear hq0
     obtain ⟨hchw2, hfhw2, hzhw2⟩ := Bl.rules hw2; (try simp only [aZ, cZ, dZ, nZ] at hzhw2)
     cases bq
     ·go_wp2
      go_ret
      exact ⟨false, fun e => absurd e hne.out, fun h => (by cases h), rfl, bz⟩
     ·have hP2 := HD (hstep.out (hq.out rfl))
      have M2 := M.out.keep (show Bl wr w2 from bz)
      obtain ⟨bb, hbb⟩ := hf.out.get y.name
      have L : Sem.run Tryz.prog (Instr.lookup 157 (.map (some w.heap.size)) (.string y.name) false) w2 = .ok (.bool bb) w2 := by
       have := M2.lookup u157 u9 (zeroBool _) y.name false
       rw [hbb] at this
       exact this
      clear hbb
      have zw : w.heap.size < wr.heap.size := M.out.lt
      have zw2 : wr.heap.size < w2.heap.size := by omega
      cases bb
      ·obtain ⟨w3, hrun, M3, hO⟩ := M2.store u157 u9 y.name (.bool true)
       have hrun' : Sem.run Tryz.prog (Instr.mapUpdate 157 (.map (some w.heap.size)) (.string y.name) (.bool true)) w2 = .ok () w3 := hrun
       clear hrun
       have hB3 : Bl w w3 := Only.bl bz hO (Nat.le_refl _)
       have hM3 := HD M3
       have hf3 := HD (hf.out.upd y.name true)
       clear M2 M3 hO
       go_wp2_with fail
       go_roundg (xs.length - (kk + 1))
       case measure => omega
       case rel => exact ⟨kk + 1, _, by omega, by omega, by go_num, hB3, hM3.out, hf3.out, hP2.out⟩
      ·clear M2
       go_wp2
       go_ret
       exact ⟨false, fun e => absurd e hne.out, fun h => (by cases h), rfl, bz⟩
    ·have hltz : ¬ (kk : Int) < (xs.length : Int) := by omega
     have hall : Hid (∀ x ∈ xs, inR 0 1000 x.set = true) := fun x hx => by
      obtain ⟨j, hj, rfl⟩ := List.getElem_of_mem hx
      exact hP.out j hj (by omega)
     clear hrow
     go_wp2
     go_ret
     exact ⟨true, fun _ => rfl, fun _ => ⟨h40, hall.out⟩, rfl, BW.out⟩
 ·have h40' : 60 < xs.length := by omega
  have hs3 : Hid (xs ≠ []) := fun e => by rw [e] at h40'; simp at h40'
  clear hs
  show Calls Tryz.prog 49 #[.slice A xs.length c] w (RRuls xs w)
  go_enter Tryz.func49, Tryz.ntmps49
  go_wp2
  go_ret
  exact ⟨false, fun e => absurd e hs3, fun h => (by cases h), rfl, bz⟩
theorem flat1 {α : Type} (f : α -> Value) : ∀ l : List α, l.flatMap (fun x => [f x]) = l.map f
 | [] => rfl
 | x :: l => by simp [flat1 f l]
def Own1 {α : Type} (f : α -> Value) (e : TypeId) (base : Nat) (w : World) (s : Sl α) : Prop := w.ownsRow base e 1 s.val s.xs.length (s.xs.map f)
theorem Own1.own {α : Type} {f : α -> Value} {e : TypeId} {base : Nat} {w : World} {s : Sl α} (h : Own1 f e base w s) : Own (fun x => [f x]) 1 e base w s := by unfold Own; rw [flat1]; exact h
theorem Own1.of {α : Type} {f : α -> Value} {e : TypeId} {base : Nat} {w : World} {s : Sl α} (h : Own (fun x => [f x]) 1 e base w s) : Own1 f e base w s := by unfold Own at h; rw [flat1] at h; exact h
theorem Own1.ptr {α : Type} {f : α -> Value} {e : TypeId} {base : Nat} {w : World} {s : Sl α} (h : Own1 f e base w s) (hne : s.xs ≠ []) : ∃ g, s.A = some ⟨g, 0, none⟩ /\ base ≤ g /\ g < w.heap.size := by
 rcases h.2 with ⟨_, hn⟩ | ⟨g, cap, cur, hv, hb, hgw, _⟩
 ·exact absurd (List.eq_nil_of_length_eq_zero hn) hne
 ·refine ⟨g, ?_, hb, (Array.getElem?_eq_some_iff.1 hgw).1⟩
  have := hv
  simp only [Sl.val, Value.slice.injEq] at this
  exact this.1
theorem Own1.lt {α : Type} {f : α -> Value} {e : TypeId} {base : Nat} {w : World} {s : Sl α} (h : Own1 f e base w s) : ∀ g, s.val.ownBlock = some g -> base ≤ g /\ g < w.heap.size := World.ownsRow.lt h
theorem Own1.cell {α : Type} {f : α -> Value} {e : TypeId} {base g c : Nat} {w : World} {xs : List α} (h : Own1 f e base w ⟨some ⟨g, 0, none⟩, c, xs⟩) (k : Nat) (hk : k < xs.length) : w.cell? ⟨g, k, none⟩ = some (f xs[k]) := by
 have := World.ownsRow.cellAt h k (by simpa using hk)
 rw [this]; simp [hk]
theorem Own1.fro {α : Type} {f : α -> Value} {e : TypeId} {base g c : Nat} {w : World} {xs : List α} (h : Own1 f e base w ⟨some ⟨g, 0, none⟩, c, xs⟩) (k : Nat) : w.frozen? ⟨g, k, none⟩ = false := World.ownsRow.frozenAt h k
theorem Own1.set {α : Type} {f : α -> Value} {e : TypeId} {base g c : Nat} {w : World} {xs : List α} (h : Own1 f e base w ⟨some ⟨g, 0, none⟩, c, xs⟩) (k : Nat) (x : α) : Own1 f e base (w.setCell ⟨g, k, none⟩ (f x)) ⟨some ⟨g, 0, none⟩, c, xs.set k x⟩ := by
 have := (World.ownsRow.stored h k (f x)).1
 unfold Own1
 simp only [Sl.val, List.length_set, List.map_set]
 exact this
theorem Own1.other {α : Type} {f : α -> Value} {e : TypeId} {base : Nat} {w : World} {s : Sl α} (h : Own1 f e base w s) {a : Addr} (ha : s.val.ownBlock ≠ some a.block) (u : Value) : Own1 f e base (w.setCell a u) s := ownsRow_setCell_other h ha u
theorem Own1.bl {α : Type} {f : α -> Value} {e : TypeId} {base : Nat} {w w' : World} {s : Sl α} (h : Own1 f e base w s) (hb : Bl w w') : Own1 f e base w' s := Own1.of (Own.bl h.own hb)
theorem Own1.ok {α : Type} {f : α -> Value} {e : TypeId} {base : Nat} {w : World} {s : Sl α} {good : Nat -> World -> α -> Prop} (h : Own1 f e base w s) (hr : s.xs.length ≤ 140737488351232) (hg : ∀ x ∈ s.xs, good w.heap.size w x) : s.Ok (fun x => [f x]) 1 good w.heap.size w := Own.ok h.own (fun _ => rfl) hr hg
theorem Own1.nil {α : Type} {f : α -> Value} {e : TypeId} {base : Nat} {w : World} : Own1 f e base w (⟨none, 0, []⟩ : Sl α) := ⟨by simp, .inl ⟨rfl, rfl⟩⟩
theorem Own1.ofRow {α : Type} {f : α -> Value} {e : TypeId} {base : Nat} {w : World} {v : Value} {xs : List α} (h : w.ownsRow base e 1 v xs.length (xs.map f)) : ∃ s : Sl α, v = s.val /\ s.xs = xs /\ Own1 f e base w s := by
 have h' := h
 rcases h.2 with ⟨hv, hn⟩ | ⟨g, cap, cur, hv, rest⟩
 ·have hx := List.eq_nil_of_length_eq_zero hn
  subst hx
  exact ⟨⟨none, 0, []⟩, hv, rfl, Own1.nil⟩
 ·refine ⟨⟨some ⟨g, 0, none⟩, cap, xs⟩, hv, rfl, ?_⟩
  rw [hv] at h'
  exact h'
def IV (x : Int) : Value := .int .i64 x
def BV (x : Bool) : Value := .bool x
theorem f109_c (s : Sl Int) (w : World) (hs : InI w s) (hr : s.xs.length ≤ 1000000) : Calls Tryz.prog 109 #[s.val] w fun e w' => ∃ s' : Sl Int, e = .returned s'.val /\ s'.xs = s.xs /\ Own1 IV 3 w.heap.size w' s' /\ Bl w w' := by
 obtain ⟨A, c, xs⟩ := s
 simp only at hr
 by_cases h0 : xs = []
 ·subst h0
  cases A with
  | none =>
   refine (Tryz.slices_Clone_int_nil 0 c w).mono ?_
   rintro e w' ⟨rfl, rfl⟩
   exact ⟨⟨none, 0, []⟩, rfl, rfl, Own1.nil, Bl.refl _⟩
  | some a =>
   refine (Tryz.slices_Clone_int_zero a c w).mono ?_
   rintro e w' ⟨v, rfl, hv, _, hb⟩
   obtain ⟨s', rfl, hx, hO⟩ := Own1.ofRow (f := IV) (xs := []) hv
   exact ⟨s', rfl, hx, hO, hb⟩
 ·obtain ⟨b, off, hA, _, _, hc⟩ := hs.place h0
  simp only at hA hc
  subst hA
  refine (Tryz.slices_Clone_int b off xs.length c xs w (Nat.le_refl _) (by omega) (fun j hj => ?_)).mono ?_
  ·have := hc j hj 0 (.int .i64 xs[j]) rfl
   rw [Nat.mul_one] at this
   rw [List.getD_eq_getElem?_getD, List.getElem?_eq_getElem hj]
   exact this
  ·rintro e w' ⟨v, rfl, hv, _, hb⟩
   rw [List.take_length] at hv
   obtain ⟨s', rfl, hx, hO⟩ := Own1.ofRow (f := IV) hv
   exact ⟨s', rfl, hx, hO, hb⟩
theorem f154_0 (a : Addr) (c : Nat) (w : World) : Calls Tryz.prog 154 #[.slice (some a) 0 c] w fun e w' => ∃ s' : Sl Bool, e = .returned s'.val /\ s'.xs = [] /\ Own1 BV 4 w.heap.size w' s' /\ Bl w w' := by
 obtain ⟨i0, hi, hz0, hz1, hz2⟩ : ∃ i, Tryz.prog.info? 4 = some i /\ i.zero = some (.bool false) /\ i.size = 1 /\ i.bytes = 1 := info_of (by kernel_rfl)
 have t22 : Tryz.prog.underlying 29 = some (.slice 4) := by kernel_rfl
 have q22 : ∀ (w : World) (a : Option Addr) (n c n' c' : Nat), (binOp .eql 29 (.slice a n c) (.slice none n' c')).run Tryz.prog w = .ok (.bool a.isNone) w := fun w a n c n' c' => Lib.run_eql_slice_nil w _ _ a n c n' c' t22
 go_enter Tryz.func154, Tryz.ntmps154
 go_wp2_with (at_builtin; refine wpList_append_own _ rfl _ _ 29 rfl w.heap.size 4 i0 (.bool false) 1 1 t22 hi hz0 hz1 hz2 rfl (by decide) _ _ _ rfl (World.ownsRow_made w #[] 0 (Nat.le_refl _) (Nat.zero_le _) rfl) a 0 c [] rfl rfl (by intro j u hj; simp at hj) (by intro u hu; simp at hu) (by decide) (by decide) (by simp) ?_)
 intro v' w5 hown hgrow hnil
 go_wp2
 go_ret
 obtain ⟨s', rfl, hx, hO⟩ := Own1.ofRow (f := BV) (xs := []) (by simpa using hown)
 exact ⟨s', rfl, hx, hO, ((Below.refl _ w).alloc (Nat.le_refl _) _).grown hgrow (by simp) (by intro k hk; simp [Value.ownBlock] at hk; omega)⟩
theorem f154_c (s : Sl Bool) (w : World) (hs : InB w s) : Calls Tryz.prog 154 #[s.val] w fun e w' => ∃ s' : Sl Bool, e = .returned s'.val /\ s'.xs = s.xs /\ Own1 BV 4 w.heap.size w' s' /\ Bl w w' := by
 have hr := hs.room
 obtain ⟨A, c, xs⟩ := s
 simp only at hr
 by_cases hx : xs = []
 ·subst hx
  cases A with
  | none =>
   refine (Tryz.slices_Clone_nil_f154 0 c w).mono ?_
   rintro e w' ⟨rfl, rfl⟩
   exact ⟨⟨none, 0, []⟩, rfl, rfl, Own1.nil, Bl.refl _⟩
  | some a => exact f154_0 a c w
 ·obtain ⟨b, off, hA, _, _, hc⟩ := hs.place hx
  simp only at hA hc
  subst hA
  obtain ⟨i0, hi, hz0, hz1, hz2⟩ : ∃ i, Tryz.prog.info? 4 = some i /\ i.zero = some (.bool false) /\ i.size = 1 /\ i.bytes = 1 := info_of (by kernel_rfl)
  refine (Tryz.slices_Clone_f154 i0 (.bool false) 1 1 hi hz0 hz1 hz2 rfl (by decide) (fun w => Tryz.sizeOf4 w) b off xs.length c (xs.map BV) w (by simp) (by unfold maxLen; omega) (by omega) (fun j u hj => ?_) (fun u hu => ?_)).mono ?_
  ·rw [List.getElem?_map] at hj
   cases hjj : xs[j]? with
   | none => rw [hjj] at hj; cases hj
   | some x =>
    rw [hjj] at hj
    obtain ⟨hlt, rfl⟩ := List.getElem?_eq_some_iff.mp hjj
    have := hc j hlt 0 (.bool xs[j]) rfl
    rw [Nat.mul_one] at this
    simp only [Option.map_some, Option.some.injEq] at hj
    subst hj
    exact this
  ·rw [List.mem_map] at hu
   obtain ⟨x, _, rfl⟩ := hu
   rfl
  ·rintro e w' ⟨v, rfl, hv, _, hb⟩
   obtain ⟨s', rfl, hx, hO⟩ := Own1.ofRow (f := BV) hv
   exact ⟨s', rfl, hx, hO, hb⟩
theorem u144 : Tryz.prog.underlying 144 = some (.map 3 4) := by kernel_rfl
theorem u3 : Tryz.prog.underlying 3 = some KI.desc := by kernel_rfl
def RSet (m : Nat) (w : World) (e : Ending) (w' : World) : Prop := ∃ (s : Sl Int) (q : Int), e = .returned (.tuple #[s.val, .int .i64 q]) /\ (InI w' s /\ New w s) /\ (q = 0 -> s.xs.length = m /\ ∀ x ∈ s.xs, inR 0 1000 x = true) /\ Bl w w'
theorem RSet.no {m : Nat} {w w' : World} {q : Int} (hq : ¬ q = 0) (hb : Bl w w') : RSet m w (.returned (.tuple #[.slice none 0 0, .int .i64 q])) w' := ⟨⟨none, 0, []⟩, q, rfl, ⟨InI_nil _, New.nil⟩, fun h => absurd h hq, hb⟩
def linkMap (m : Nat) (f : ByteArray -> Option Value) : Prop := ∀ a, f a = none \/ ∃ k : Nat, k < m /\ f a = some (.int .i64 k)
theorem linkMap.get {m : Nat} {f : ByteArray -> Option Value} (h : linkMap m f) (a : ByteArray) (hs : (f a).isSome = true) : ∃ k : Nat, k < m /\ f a = some (.int .i64 k) := by
 rcases h a with e | e
 ·rw [e] at hs; cases hs
 ·exact e
theorem linkMap.two {m : Nat} {f : ByteArray -> Option Value} (h : linkMap m f) (a : ByteArray) : ∃ v : Int, (f a).getD (.int .i64 0) = .int .i64 v := by
 rcases h a with e | ⟨k, _, e⟩
 ·exact ⟨0, by rw [e]; rfl⟩
 ·exact ⟨k, by rw [e]; rfl⟩
theorem linkMap.upd {m : Nat} {f : ByteArray -> Option Value} (h : linkMap m f) (a : ByteArray) (k : Nat) (hk : k < m) : linkMap m (upd f a (.int .i64 k)) := fun c => by
 by_cases e : c = a
 ·subst e; exact .inr ⟨k, hk, upd_same _ _ _⟩
 ·rw [upd_ne _ _ _ e]; exact h c
theorem intMap.upd {f : ByteArray -> Option Value} (h : intMap f) (a : ByteArray) (v : Int) : intMap (upd f a (.int .i64 v)) := fun c => by
 by_cases e : c = a
 ·subst e; exact .inr ⟨v, upd_same _ _ _⟩
 ·rw [upd_ne _ _ _ e]; exact h c
theorem intMap.two {f : ByteArray -> Option Value} (h : intMap f) (a : ByteArray) : ∃ v : Int, (f a).getD (.int .i64 0) = .int .i64 v := ⟨_, h.get a⟩
def boolMapI (f : Int -> Option Value) : Prop := ∀ a, f a = none \/ ∃ b, f a = some (.bool b)
theorem boolMapI.get {f : Int -> Option Value} (h : boolMapI f) (a : Int) : ∃ b, (f a).getD (.bool false) = .bool b := by
 rcases h a with e | ⟨b, e⟩
 ·exact ⟨false, by rw [e]; rfl⟩
 ·exact ⟨b, by rw [e]; rfl⟩
theorem boolMapI.upd {f : Int -> Option Value} (h : boolMapI f) (a : Int) (b : Bool) : boolMapI (upd f a (.bool b)) := fun c => by
 by_cases e : c = a
 ·subst e; exact .inr ⟨b, upd_same _ _ _⟩
 ·rw [upd_ne _ _ _ e]; exact h c
theorem MapAt.setCell {κ : Type} {K : Keys κ} {w : World} {b : Nat} {f : κ -> Option Value} (h : MapAt K w b f) (a : Addr) (u : Value) (hne : b ≠ a.block) : MapAt K (w.setCell a u) b f := by
 obtain ⟨es, clock, hb, r⟩ := h
 exact ⟨es, clock, (Below.heap_setCell w a u b hne).trans hb, r⟩
theorem Own1.block {α : Type} {f : α -> Value} {e : TypeId} {base : Nat} {w w' : World} {s : Sl α} (h : Own1 f e base w s) (hb : ∀ g, s.val.ownBlock = some g -> w'.heap[g]? = w.heap[g]?) : Own1 f e base w' s := by
 refine ⟨h.1, h.2.imp id fun ⟨g, cap, cur, hv, hb', hgw, rest⟩ => ⟨g, cap, cur, hv, hb', ?_, rest⟩⟩
 rw [hb g (by rw [hv]; rfl)]; exact hgw
set_option maxHeartbeats 4000000 in
theorem f81_core (RA A A2 LA BA : Option Addr) (rc c c2 lc bc : Nat) (rs : List Rul) (xs : List Nd) (ls : List Lk) (lvs bs : List Int) (w : World) (NB : Bool)
 (hl : InRuls w ⟨RA, rc, rs⟩) (hs : InNet w ⟨⟨A, c, xs⟩, ⟨A2, c2, ls⟩⟩) (hv : InI w ⟨LA, lc, lvs⟩) (hbf : InI w ⟨BA, bc, bs⟩)
 (T54 : ∀ W, Bl w W -> Calls Tryz.prog 54 #[.agg #[.slice A xs.length c, .slice A2 ls.length c2]] W fun e w' => e = .returned (.bool NB) /\ Bl W w')
 (hL : NB = true -> xs.length ≤ 300 /\ ls.length ≤ 400) :
 Calls Tryz.prog 81 #[.slice RA rs.length rc, .agg #[.slice A xs.length c, .slice A2 ls.length c2], .slice LA lvs.length lc, .slice BA bs.length bc] w (RSet ls.length w) := by
 have hR := HD hl
 have hS := HD hs
 have hV := HD hv
 have hB := HD hbf
 have T49 := HD (fun W (hb : Bl w W) => f49_c ⟨RA, rc, rs⟩ W (InRuls.up hl hb))
 have T107 := HD (fun W (hb : Bl w W) => f107_c ⟨BA, bc, bs⟩ W.heap.size 108 #[] (fun s => !inR 0 1000 s) W (InI.up hbf hb) (fun W' y _ hb' => f108_c y W') e108)
 have T109 := HD (fun W (hb : Bl w W) => f109_c ⟨BA, bc, bs⟩ W (InI.up hbf hb))
 have T54 := HD T54
 have hr := hl.room
 have hmm := @run_makeMap Tryz.prog
 have hU := HD (And.intro u172 u9)
 have hU2 := HD (And.intro u144 u3)
 simp only at hr
 clear hl hs hv hbf
 go_enter Tryz.func81, Tryz.ntmps81
 go_wp2_with fail
 refine (T49.out _ bz).mono ?_
 rintro e w1 ⟨b0, _, hR0, rfl, hw1⟩
 have hR1 := HD hR0
 clear T49 hR0
 obtain ⟨hchw1, hfhw1, hzhw1⟩ := Bl.rules hw1; (try simp only [aZ, cZ, dZ, nZ] at hzhw1)
 have zv0 : w.heap.size < w1.heap.size := by omega
 cases b0
 case false =>
  go_wp2_with fail
  exact bodyPost_ret (v := .tuple #[.slice none 0 0, .int .i64 1]) (by simp [results, Tryz.results81, go_sem, *]; try exact ⟨rfl, rfl⟩) rfl (RSet.no (by omega) bz)
 go_wp2_with fail
 refine (T54.out _ bz).mono ?_
 rintro e w2 ⟨rfl, hw2⟩
 clear T54
 obtain ⟨hchw2, hfhw2, hzhw2⟩ := Bl.rules hw2; (try simp only [aZ, cZ, dZ, nZ] at hzhw2)
 have zy0 : w.heap.size < w2.heap.size := by omega
 cases hb : NB
 case false =>
  go_wp2_with fail
  exact bodyPost_ret (v := .tuple #[.slice none 0 0, .int .i64 1]) (by simp [results, Tryz.results81, go_sem, *]; try exact ⟨rfl, rfl⟩) rfl (RSet.no (by omega) bz)
 obtain ⟨hl1, hl2⟩ := hL hb
 by_cases hq1 : lvs.length = xs.length
 case neg =>
  have hq1b : ((lvs.length : Int) != (xs.length : Int)) = true := by simp; omega
  go_wp2_with fail
  exact bodyPost_ret (v := .tuple #[.slice none 0 0, .int .i64 3]) (by simp [results, Tryz.results81, go_sem, *]; try exact ⟨rfl, rfl⟩) rfl (RSet.no (by omega) bz)
 have hq1b : ((lvs.length : Int) != (xs.length : Int)) = false := by simp; omega
 by_cases hq2 : bs.length = ls.length
 case neg =>
  have hq2b : ((bs.length : Int) != (ls.length : Int)) = true := by simp; omega
  have hq1 := HD hq1
  go_wp2_with fail
  exact bodyPost_ret (v := .tuple #[.slice none 0 0, .int .i64 3]) (by simp [results, Tryz.results81, go_sem, *]; try exact ⟨rfl, rfl⟩) rfl (RSet.no (by omega) bz)
 have hq2b : ((bs.length : Int) != (ls.length : Int)) = false := by simp; omega
 have hq1h := HD hq1
 have hq2h := HD hq2
 clear hq1 hq2
 go_wp2_with fail
 refine (T107.out _ bz).mono ?_
 rintro e w3 ⟨rfl, hw3⟩
 clear T107
 obtain ⟨hchw3, hfhw3, hzhw3⟩ := Bl.rules hw3; (try simp only [aZ, cZ, dZ, nZ] at hzhw3)
 have zx0 : w.heap.size < w3.heap.size := by omega
 cases hst : bs.any (fun s => !inR 0 1000 s)
 case true =>
  go_wp2_with fail
  exact bodyPost_ret (v := .tuple #[.slice none 0 0, .int .i64 2]) (by simp [results, Tryz.results81, go_sem, *]; try exact ⟨rfl, rfl⟩) rfl (RSet.no (by omega) bz)
 have hst' : Hid (∀ x ∈ bs, inR 0 1000 x = true) := fun x hx => by
  have h := (List.any_eq_false.mp hst) x hx
  simpa using h
 have hB3 : Bl w w3 := bz
 have b0 : w3.cell? ⟨w.heap.size, 0, none⟩ = some (.slice A xs.length c) := by simp [go_sem, *]
 have b1 : w3.cell? ⟨w.heap.size, 1, none⟩ = some (.slice A2 ls.length c2) := by simp [go_sem, *]
 clear hw1 hchw1 hfhw1 hzhw1 hw2 hchw2 hfhw2 hzhw2 hw3 hchw3 hfhw3 hzhw3 zv0 zy0 hb hL hq1b hq2b hst
 have hBm : Bl w3 (w3.alloc (Obj.map #[] 0)) := bz
 go_wp2_with fail
 have M0 := MapAt.made KS w3
 have zm1 : w.heap.size ≤ w3.heap.size := by omega
 have zm1' : w.heap.size ≠ w3.heap.size := by omega
 go_loopg [60] xs.length (fun gg s60 wr => ∃ (kk : Nat) (f : ByteArray -> Option Value), kk ≤ xs.length /\ xs.length - kk ≤ gg /\ s60 = .int .i64 kk /\ Aside (Bl w wr) /\ Aside (wr.cell? ⟨w.heap.size, 0, none⟩ = some (.slice A xs.length c)) /\ Aside (wr.cell? ⟨w.heap.size, 1, none⟩ = some (.slice A2 ls.length c2)) /\ Aside (MapAt KS wr w3.heap.size f) /\ Aside (intMap f))
 case atStart => exact ⟨0, fun _ => none, Nat.zero_le _, by omega, rfl, hB3.trans hBm, aside (hBm.keep b0), aside (hBm.keep b1), M0, fun a => .inl rfl⟩
 case round =>
  obtain ⟨kk, f, hkk, hg, rfl, BW, C0, C1, M, hf⟩ := hrel
  clear M0 hB3 hBm b0 b1
  have BW' := BW.out
  have C0' := C0.out
  have C1' := C1.out
  clear BW C0 C1
  by_cases hlt : kk < xs.length
  ·have hltz : (kk : Int) < (xs.length : Int) := by omega
   have hkz : (0 : Int) ≤ (kk : Int) := by omega
   obtain ⟨b, off, hA, _, _, _⟩ := hS.out.nodes.place (by intro e; simp only at e; rw [e] at hlt; simp at hlt)
   simp only at hA
   subst hA
   have hc := Sl.Ok.cells hS.out.nodes rfl wr BW' kk hlt
   have hlv : kk < lvs.length := by have := hq1h.out; omega
   have hlvz : (kk : Int) < (lvs.length : Int) := by omega
   obtain ⟨b3, off3, hA3, _, _, _⟩ := hV.out.place (by intro e; simp only at e; rw [e] at hlv; simp at hlv)
   simp only at hA3
   subst hA3
   have hcv := HD (fun W (hb : Bl w W) => Sl.Ok.cells hV.out rfl W hb kk hlv 0 _ rfl)
   simp only at hc hcv
   generalize xs[kk] = y at hc
   generalize lvs[kk] = v at hcv
   have e0 : wr.cell? ⟨b, off + kk * 9, none⟩ = some (.string y.name) := hc 0 _ rfl
   have e1 : wr.cell? ⟨b, off + kk * 9 + 1, none⟩ = some (.int .i64 y.kind) := hc 1 _ rfl
   have e2 : wr.cell? ⟨b, off + kk * 9 + 2, none⟩ = some (.int .i64 y.px) := hc 2 _ rfl
   have e3 : wr.cell? ⟨b, off + kk * 9 + 3, none⟩ = some (.int .i64 y.py) := hc 3 _ rfl
   have e4 : wr.cell? ⟨b, off + kk * 9 + 4, none⟩ = some (.int .i64 y.inv) := hc 4 _ rfl
   have e5 : wr.cell? ⟨b, off + kk * 9 + 5, none⟩ = some (.int .i64 y.gnd) := hc 5 _ rfl
   have e6 : wr.cell? ⟨b, off + kk * 9 + 6, none⟩ = some (y.shape.val) := hc 6 _ rfl
   have e7 : wr.cell? ⟨b, off + kk * 9 + 7, none⟩ = some (.bool y.prot) := hc 7 _ rfl
   have e8 : wr.cell? ⟨b, off + kk * 9 + 8, none⟩ = some (.int .i64 y.res) := hc 8 _ rfl
   clear hc
   go_wp2_with fail
   have hB0 : Bl wr (wr.alloc (Obj.cells #[.string y.name, .int .i64 y.kind, .int .i64 y.px, .int .i64 y.py, .int .i64 y.inv, .int .i64 y.gnd, y.shape.val, .bool y.prot, .int .i64 y.res] 41)) := bz
   have p0 : ∀ z : Later (wr.alloc (Obj.cells #[.string y.name, .int .i64 y.kind, .int .i64 y.px, .int .i64 y.py, .int .i64 y.inv, .int .i64 y.gnd, y.shape.val, .bool y.prot, .int .i64 y.res] 41)), z.at'.cell? ⟨wr.heap.size, 0, none⟩ = some (.string y.name) := fun z => z.keep (by simp [go_sem])
   generalize (wr.alloc (Obj.cells #[.string y.name, .int .i64 y.kind, .int .i64 y.px, .int .i64 y.py, .int .i64 y.inv, .int .i64 y.gnd, y.shape.val, .bool y.prot, .int .i64 y.res] 41)) = W0 at *
   have hBW0 : Bl w W0 := Bl.trans BW' hB0
   have pv : ∀ z : Later W0, z.at'.cell? ⟨b3, off3 + kk, none⟩ = some (.int .i64 v) := fun z => by have := hcv.out z.at' (Bl.trans hBW0 z.bl); rwa [Nat.mul_one] at this
   clear e0 e1 e2 e3 e4 e5 e6 e7 e8
   refine wp_region_later_tail 7 (by kernel_rfl) (by kernel_rfl) ?_
   simp only [List.take_succ_cons, List.take_zero, List.drop_succ_cons, List.drop_zero]
   repeat (go_big_quiet_step (fail))
   refine wpQuiet_nil ?_
   intro w4 hB4
   have hBw4 : Bl wr w4 := Bl.trans hB0 hB4
   obtain ⟨w5, hrun, M5, hO⟩ := (M.out.keep hBw4).store hU.out.1 hU.out.2 y.name (.int .i64 v)
   have hrun' : Sem.run Tryz.prog (Instr.mapUpdate 172 (.map (some w3.heap.size)) (.string y.name) (.int .i64 v)) w4 = .ok () w5 := hrun
   clear hrun
   have hB5 : Bl w w5 := Only.bl (BW'.trans hBw4) hO zm1
   have d0 : w5.cell? ⟨w.heap.size, 0, none⟩ = some (.slice (some ⟨b, off, none⟩) xs.length c) := (hO.cell _ _ zm1').trans (hBw4.keep C0')
   have d1 : w5.cell? ⟨w.heap.size, 1, none⟩ = some (.slice A2 ls.length c2) := (hO.cell _ _ zm1').trans (hBw4.keep C1')
   have hM5 := HD M5
   have hf5 := HD (hf.out.upd y.name v)
   clear M5 hO p0 pv
   go_wp2_with fail
   go_roundg (xs.length - (kk + 1))
   case measure => omega
   case rel => exact ⟨kk + 1, _, by omega, by omega, by go_num, hB5, aside d0, aside d1, hM5.out, hf5.out⟩
  ·have hltz : ¬ (kk : Int) < (xs.length : Int) := by omega
   clear hkk hg hlt
   have M0 := M.out
   have hf1 := HD hf.out
   clear M hf
   have zr1 : w3.heap.size < wr.heap.size := M0.lt
   have zr0 : w.heap.size < wr.heap.size := by omega
   have hBm : Bl wr (wr.alloc (Obj.map #[] 0)) := bz
   go_wp2_with fail
   obtain ⟨wo, rfl⟩ : ∃ wo : World, wo = wr := ⟨_, rfl⟩
   have zm2 : w.heap.size ≤ wo.heap.size := by omega
   have zm2' : w.heap.size ≠ wo.heap.size := by omega
   have zm12 : w3.heap.size ≠ wo.heap.size := by omega
   go_loopg [77] ls.length (fun gg s77 wr => ∃ (kk : Nat) (g : ByteArray -> Option Value), kk ≤ ls.length /\ ls.length - kk ≤ gg /\ s77 = .int .i64 kk /\ Aside (Bl w wr) /\ Aside (MapAt KS wr w3.heap.size f) /\ Aside (MapAt KS wr wo.heap.size g) /\ Aside (linkMap ls.length g))
   case atStart => exact ⟨0, fun _ => none, Nat.zero_le _, by omega, rfl, BW'.trans hBm, M0.keep hBm, MapAt.made KS wo, fun a => .inl rfl⟩
   case round =>
    clear M0 hBm BW' C0' C1'
    obtain ⟨kk, g, hkk, hg, rfl, BW, M, M2, hgl⟩ := hrel
    have BW' := BW.out
    clear BW
    by_cases hlt : kk < ls.length
    ·have hltz : (kk : Int) < (ls.length : Int) := by omega
     have hkz : (0 : Int) ≤ (kk : Int) := by omega
     obtain ⟨b, off, hA, _, _, _⟩ := hS.out.links.place (by intro e; simp only at e; rw [e] at hlt; simp at hlt)
     simp only at hA
     subst hA
     have hc := Sl.Ok.cells hS.out.links rfl wr BW' kk hlt
     simp only at hc
     generalize ls[kk] = y at hc
     have e0 : wr.cell? ⟨b, off + kk * 11, none⟩ = some (.string y.name) := hc 0 _ rfl
     have e1 : wr.cell? ⟨b, off + kk * 11 + 1, none⟩ = some (.string y.src) := hc 1 _ rfl
     have e2 : wr.cell? ⟨b, off + kk * 11 + 2, none⟩ = some (.string y.dst) := hc 2 _ rfl
     have e3 : wr.cell? ⟨b, off + kk * 11 + 3, none⟩ = some (.int .i64 y.kind) := hc 3 _ rfl
     have e4 : wr.cell? ⟨b, off + kk * 11 + 4, none⟩ = some (.int .i64 y.len) := hc 4 _ rfl
     have e5 : wr.cell? ⟨b, off + kk * 11 + 5, none⟩ = some (.int .i64 y.up) := hc 5 _ rfl
     have e6 : wr.cell? ⟨b, off + kk * 11 + 6, none⟩ = some (.int .i64 y.down) := hc 6 _ rfl
     have e7 : wr.cell? ⟨b, off + kk * 11 + 7, none⟩ = some (.string y.sec) := hc 7 _ rfl
     have e8 : wr.cell? ⟨b, off + kk * 11 + 8, none⟩ = some (.int .i64 y.wid) := hc 8 _ rfl
     have e9 : wr.cell? ⟨b, off + kk * 11 + 9, none⟩ = some (.int .i64 y.hgt) := hc 9 _ rfl
     have e10 : wr.cell? ⟨b, off + kk * 11 + 10, none⟩ = some (y.curve.val) := hc 10 _ rfl
     clear hc
     have hBw4 : Bl wr (wr.alloc (Obj.cells #[.string y.name, .string y.src, .string y.dst, .int .i64 y.kind, .int .i64 y.len, .int .i64 y.up, .int .i64 y.down, .string y.sec, .int .i64 y.wid, .int .i64 y.hgt, y.curve.val] 45)) := bz
     obtain ⟨w5, hrun, M5, hO⟩ := (M2.out.keep hBw4).store hU.out.1 hU.out.2 y.name (.int .i64 kk)
     have hrun' : Sem.run Tryz.prog (Instr.mapUpdate 172 (.map (some wo.heap.size)) (.string y.name) (.int .i64 kk)) (wr.alloc (Obj.cells #[.string y.name, .string y.src, .string y.dst, .int .i64 y.kind, .int .i64 y.len, .int .i64 y.up, .int .i64 y.down, .string y.sec, .int .i64 y.wid, .int .i64 y.hgt, y.curve.val] 45)) = .ok () w5 := hrun
     clear hrun
     have hB5 : Bl w w5 := Only.bl (BW'.trans hBw4) hO zm2
     have hM1 := HD ((M.out.keep hBw4).only hO zm12)
     have hM5 := HD M5
     have hg5 := HD (hgl.out.upd y.name kk hlt)
     clear M5 hO hBw4
     go_wp2_with fail
     go_roundg (ls.length - (kk + 1))
     case measure => omega
     case rel => exact ⟨kk + 1, _, by omega, by omega, by go_num, hB5, hM1.out, hM5.out, hg5.out⟩
    ·have hltz : ¬ (kk : Int) < (ls.length : Int) := by omega
     clear hkk hg hlt
     have M1 := M.out
     have M2' := M2.out
     have hgl' := HD hgl.out
     clear M M2 hgl
     go_wp2_with fail
     obtain ⟨wp, rfl⟩ : ∃ wp : World, wp = wr := ⟨_, rfl⟩
     go_loopg [89] rs.length (fun gg s89 wr => ∃ (kk : Nat), kk ≤ rs.length /\ rs.length - kk ≤ gg /\ s89 = .int .i64 kk /\ Aside (Bl w wr) /\ Aside (MapAt KS wr w3.heap.size f) /\ Aside (MapAt KS wr wo.heap.size g) /\ Aside (∀ j (h : j < rs.length), j < kk -> (g rs[j].link).isSome = true))
     case atStart => exact ⟨0, Nat.zero_le _, by omega, rfl, BW', M1, M2', aside (fun j _ h => absurd h (by omega))⟩
     case round =>
      clear M1 M2' BW'
      obtain ⟨kk, hkk, hg, rfl, BW, M, M2, hP⟩ := hrel
      have BW' := BW.out
      clear BW
      by_cases hlt : kk < rs.length
      ·have hltz : (kk : Int) < (rs.length : Int) := by omega
       have hkz : (0 : Int) ≤ (kk : Int) := by omega
       obtain ⟨b, off, hA, _, _, _⟩ := hR.out.place (by intro e; simp only at e; rw [e] at hlt; simp at hlt)
       simp only at hA
       subst hA
       have hc := Sl.Ok.cells hR.out rfl wr BW' kk hlt
       have hgood := HD (fun W (hb : Bl w W) => (InRuls.up hR.out hb).each rs[kk] (List.getElem_mem _))
       have hstep : Hid ((g rs[kk].link).isSome = true -> ∀ j (h : j < rs.length), j < kk + 1 -> (g rs[j].link).isSome = true) := fun h j hj hk => by
        rcases Nat.lt_or_ge j kk with h1 | h1
        ·exact hP.out j hj h1
        ·have : j = kk := by omega
         subst this; exact h
       simp only at hc
       generalize rs[kk] = y at hc hgood hstep
       obtain ⟨yn, ⟨CA, cc, cds⟩, yl, ys⟩ := y
       have hroomc := (hgood.out w (Bl.refl w)).room
       simp only at hroomc hc hstep
       have e0 : wr.cell? ⟨b, off + kk * 4, none⟩ = some (.string yn) := hc 0 _ rfl
       have e1 : wr.cell? ⟨b, off + kk * 4 + 1, none⟩ = some (.slice CA cds.length cc) := hc 1 _ rfl
       have e2 : wr.cell? ⟨b, off + kk * 4 + 2, none⟩ = some (.string yl) := hc 2 _ rfl
       have e3 : wr.cell? ⟨b, off + kk * 4 + 3, none⟩ = some (.int .i64 ys) := hc 3 _ rfl
       clear hc
       have hBw4 : Bl wr (wr.alloc (Obj.cells #[.string yn, .slice CA cds.length cc, .string yl, .int .i64 ys] 50)) := bz
       obtain ⟨v2, hv2⟩ := hgl'.out.two yl
       obtain ⟨bb, hbb⟩ : ∃ bb, bb = (g yl).isSome := ⟨_, rfl⟩
       have L : Sem.run Tryz.prog (Instr.lookup 172 (.map (some wo.heap.size)) (.string yl) true) (wr.alloc (Obj.cells #[.string yn, .slice CA cds.length cc, .string yl, .int .i64 ys] 50)) = .ok (.tuple #[.int .i64 v2, .bool bb]) (wr.alloc (Obj.cells #[.string yn, .slice CA cds.length cc, .string yl, .int .i64 ys] 50)) := by
        have := (M2.out.keep hBw4).lookup hU.out.1 hU.out.2 (zeroInt _) yl true
        rw [hv2, <- hbb] at this
        exact this
       have hbbh := HD hbb
       clear hv2 hbb
       go_wp2_with fail
       have hBw4' : Bl w (wr.alloc (Obj.cells #[.string yn, .slice CA cds.length cc, .string yl, .int .i64 ys] 50)) := BW'.trans hBw4
       have hM1 := HD (M.out.keep hBw4)
       have hM2 := HD (M2.out.keep hBw4)
       clear M M2 e0 e1 e2 e3 L hBw4 BW'
       obtain ⟨wq, rfl⟩ : ∃ wq : World, wq = wr := ⟨_, rfl⟩
       go_loopg [19, 103] cds.length (fun gg s19 s103 wr => ∃ (k2 : Nat) (b2 : Bool), k2 ≤ cds.length /\ cds.length - k2 ≤ gg /\ s103 = .int .i64 k2 /\ s19 = .bool b2 /\ Aside (b2 = true -> (g yl).isSome = true) /\ Aside (Bl w wr) /\ Aside (MapAt KS wr w3.heap.size f) /\ Aside (MapAt KS wr wo.heap.size g))
       case atStart => exact ⟨0, bb, Nat.zero_le _, by omega, rfl, rfl, aside (fun h => hbbh.out ▸ h), hBw4', hM1.out, hM2.out⟩
       case round =>
        clear hM1 hM2 hBw4' hbbh
        obtain ⟨k2, b2, hk2, hg2, rfl, rfl, hb2, BW, M, M2⟩ := hrel
        have BW' := BW.out
        clear BW
        by_cases hlt2 : k2 < cds.length
        ·have hltz2 : (k2 : Int) < (cds.length : Int) := by omega
         have hkz2 : (0 : Int) ≤ (k2 : Int) := by omega
         obtain ⟨b5, off5, hA5, _, _, _⟩ := (hgood.out w (Bl.refl w)).place (by intro e; simp only at e; rw [e] at hlt2; simp at hlt2)
         simp only at hA5
         subst hA5
         have hc := Sl.Ok.cells (hgood.out w (Bl.refl w)) rfl wr BW' k2 hlt2
         simp only at hc
         generalize cds[k2] = z at hc
         have e0 : wr.cell? ⟨b5, off5 + k2 * 3, none⟩ = some (.string z.node) := hc 0 _ rfl
         have e1 : wr.cell? ⟨b5, off5 + k2 * 3 + 1, none⟩ = some (.bool z.below) := hc 1 _ rfl
         have e2 : wr.cell? ⟨b5, off5 + k2 * 3 + 2, none⟩ = some (.int .i64 z.level) := hc 2 _ rfl
         clear hc
         have hBw5 : Bl wr (wr.alloc (Obj.cells #[.string z.node, .bool z.below, .int .i64 z.level] 184)) := bz
         obtain ⟨v2, hv2⟩ := hf1.out.two z.node
         obtain ⟨b3, hb3⟩ : ∃ b3, b3 = (f z.node).isSome := ⟨_, rfl⟩
         have L : Sem.run Tryz.prog (Instr.lookup 172 (.map (some w3.heap.size)) (.string z.node) true) (wr.alloc (Obj.cells #[.string z.node, .bool z.below, .int .i64 z.level] 184)) = .ok (.tuple #[.int .i64 v2, .bool b3]) (wr.alloc (Obj.cells #[.string z.node, .bool z.below, .int .i64 z.level] 184)) := by
          have := (M.out.keep hBw5).lookup hU.out.1 hU.out.2 (zeroInt _) z.node true
          rw [hv2, <- hb3] at this
          exact this
         clear hv2 hb3
         have hB5 := BW'.trans hBw5
         have hM1 := HD (M.out.keep hBw5)
         have hM2 := HD (M2.out.keep hBw5)
         have hb22 := HD hb2.out
         clear M M2 hBw5 hb2
         cases b2
         ·go_wp2_with fail
          go_roundg (cds.length - (k2 + 1))
          case measure => omega
          case rel => exact ⟨k2 + 1, false, by omega, by omega, by go_num, rfl, hb22.out, hB5, hM1.out, hM2.out⟩
         ·go_wp2_with fail
          go_roundg (cds.length - (k2 + 1))
          case measure => omega
          case rel => exact ⟨k2 + 1, b3, by omega, by omega, by go_num, rfl, aside (fun _ => (by first | exact hb22.out trivial | exact hb22.out rfl)), hB5, hM1.out, hM2.out⟩
        ·have hltz2 : ¬ (k2 : Int) < (cds.length : Int) := by omega
         cases b2
         ·go_wp2_with fail
          exact bodyPost_ret (v := .tuple #[.slice none 0 0, .int .i64 9]) (by simp [results, Tryz.results81, go_sem, *]; try exact ⟨rfl, rfl⟩) rfl (RSet.no (by omega) BW')
         ·go_wp2_with fail
          go_roundg (rs.length - (kk + 1))
          case measure => omega
          case rel => exact ⟨kk + 1, by omega, by omega, by go_num, BW', M.out, M2.out, aside (hstep.out (by first | exact hb2.out trivial | exact hb2.out rfl))⟩
      ·have hltz : ¬ (kk : Int) < (rs.length : Int) := by omega
       have hall : Hid (∀ j (h : j < rs.length), (g rs[j].link).isSome = true) := fun j h => hP.out j h (by omega)
       clear hkk hg hlt hP
       have M1 := M.out
       have M2' := M2.out
       clear M M2
       go_wp2_with fail
       obtain ⟨wq, rfl⟩ : ∃ wq : World, wq = wr := ⟨_, rfl⟩
       refine (T109.out _ BW' (by have := hq2h.out; show bs.length ≤ 1000000; omega)).mono ?_
       rintro e w6 ⟨⟨OA, oc, oxs⟩, he, hx, hO, hw6⟩
       obtain rfl : e = .returned (.slice OA oxs.length oc) := he
       simp only at hx
       subst hx
       have hB6 : Bl w w6 := BW'.trans hw6
       have hBm : Bl w6 (w6.alloc (Obj.map #[] 0)) := bz
       have zq3 : w3.heap.size < wq.heap.size := M1.lt
       have zqo : wo.heap.size < wq.heap.size := M2'.lt
       have zq6 : wq.heap.size ≤ w6.heap.size := hw6.size
       have hOlt := HD (fun (g0 : Nat) (h1 : OA = some ⟨g0, 0, none⟩) (h2 : oxs ≠ []) => show g0 < w6.heap.size from by
        obtain ⟨g, h3, _, h4⟩ := hO.ptr h2
        simp only at h3
        rw [h1] at h3
        simp only [Option.some.injEq, Addr.mk.injEq, and_true] at h3
        omega)
       have hO' := HD (hO.bl hBm)
       have hM1 := HD ((M1.keep hw6).keep hBm)
       have hM2 := HD ((M2'.keep hw6).keep hBm)
       have hB6m := hB6.trans hBm
       clear T109 hO M1 M2' BW' hw6 hB6 hBm
       go_wp2_with fail
       go_loopg [127] rs.length (fun gg s127 wr => ∃ (kk : Nat) (os : List Int) (h : Int -> Option Value), kk ≤ rs.length /\ rs.length - kk ≤ gg /\ s127 = .int .i64 kk /\ Aside (Bl w wr) /\ Aside (MapAt KS wr w3.heap.size f) /\ Aside (MapAt KS wr wo.heap.size g) /\ Aside (MapAt KI wr w6.heap.size h) /\ Aside (boolMapI h) /\ Aside (Own1 IV 3 wq.heap.size wr ⟨OA, oc, os⟩) /\ Aside (os.length = oxs.length) /\ Aside (∀ x ∈ os, inR 0 1000 x = true))
       case atStart => exact ⟨0, oxs, fun _ => none, Nat.zero_le _, by omega, rfl, hB6m, hM1.out, hM2.out, MapAt.made KI w6, fun a => .inl rfl, hO'.out, rfl, hst'.out⟩
       case round =>
        clear hB6m hM1 hM2 hO' hst'
        obtain ⟨kk, os, h, hkk, hg, rfl, BW, M, M2, M3, hh, OW, OL, OP⟩ := hrel
        have BW' := BW.out
        clear BW
        by_cases hlt : kk < rs.length
        ·have hltz : (kk : Int) < (rs.length : Int) := by omega
         have hkz : (0 : Int) ≤ (kk : Int) := by omega
         obtain ⟨b, off, hA, _, _, _⟩ := hR.out.place (by intro e; simp only at e; rw [e] at hlt; simp at hlt)
         simp only at hA
         subst hA
         have hc := Sl.Ok.cells hR.out rfl wr BW' kk hlt
         have hgood := HD (fun W (hb : Bl w W) => (InRuls.up hR.out hb).each rs[kk] (List.getElem_mem _))
         have hset := HD ((hR1.out (by first | trivial | rfl)).2 rs[kk] (List.getElem_mem _))
         have hsome := HD (hall.out kk hlt)
         simp only at hc hset
         generalize rs[kk] = y at hc hgood hsome hset
         have e0 : wr.cell? ⟨b, off + kk * 4, none⟩ = some (.string y.name) := hc 0 _ rfl
         have e1 : wr.cell? ⟨b, off + kk * 4 + 1, none⟩ = some (y.cond.val) := hc 1 _ rfl
         have e2 : wr.cell? ⟨b, off + kk * 4 + 2, none⟩ = some (.string y.link) := hc 2 _ rfl
         have e3 : wr.cell? ⟨b, off + kk * 4 + 3, none⟩ = some (.int .i64 y.set) := hc 3 _ rfl
         clear hc
         have zw6 : w6.heap.size < wr.heap.size := M3.out.lt
         have hBw4 : Bl wr (wr.alloc (Obj.cells #[.string y.name, y.cond.val, .string y.link, .int .i64 y.set] 50)) := bz
         have T110 := HD (fun W (hb : Bl wr W) => f110_c y w3.heap.size f W (hgood.out W (BW'.trans hb)) (M.out.keep hb) hf1.out)
         go_wp2_with fail
         refine (T110.out _ hBw4).mono ?_
         rintro e w7 ⟨bq, rfl, hw7⟩
         clear T110
         have hB7 : Bl wr w7 := hBw4.trans hw7
         have hB7w : Bl w w7 := BW'.trans hB7
         have r2 : w7.cell? ⟨wr.heap.size, 2, none⟩ = some (.string y.link) := hw7.keep (by simp [go_sem])
         have r3 : w7.cell? ⟨wr.heap.size, 3, none⟩ = some (.int .i64 y.set) := hw7.keep (by simp [go_sem])
         have M7 := HD (M.out.keep hB7)
         have M72 := HD (M2.out.keep hB7)
         have M73 := M3.out.keep hB7
         have O7 := OW.out.bl hB7
         have hh' := HD hh.out
         have zz7 : wr.heap.size < w7.heap.size := by have := hw7.size; simp at this; omega
         clear e0 e1 e2 e3 M M2 M3 OW hBw4 hw7 hh
         cases bq
         ·have M73 := HD M73
          have O7 := HD O7
          go_wp2_with fail
          go_roundg (rs.length - (kk + 1))
          case measure => omega
          case rel => exact ⟨kk + 1, os, h, by omega, by omega, by go_num, hB7w, M7.out, M72.out, M73.out, hh'.out, O7.out, OL.out, OP.out⟩
         ·obtain ⟨k, hk, hgk⟩ := hgl'.out.get y.link hsome.out
          have L : Sem.run Tryz.prog (Instr.lookup 172 (.map (some wo.heap.size)) (.string y.link) false) w7 = .ok (.int .i64 k) w7 := by
           have := M72.out.lookup hU.out.1 hU.out.2 (zeroInt _) y.link false
           rw [hgk] at this
           exact this
          have hkb : k < oxs.length := by have := hq2h.out; omega
          have hko : k < os.length := by have := OL.out; omega
          have hkbz : (k : Int) < (oxs.length : Int) := by omega
          have hk0 : (0 : Int) ≤ (k : Int) := by omega
          obtain ⟨g0, hgA, hg0, hg1⟩ := O7.ptr (by intro e; simp only at e; rw [e] at hko; simp at hko)
          simp only at hgA
          subst hgA
          have hv0 := O7.cell k hko
          have hfr := O7.fro k
          obtain ⟨v0, hvv⟩ : ∃ v0, v0 = os[k] := ⟨_, rfl⟩
          rw [<- hvv] at hv0
          have hv1 : w7.cell? ⟨g0, k, none⟩ = some (.int .i64 v0) := hv0
          obtain ⟨b4, hb4⟩ := hh'.out.get (k : Int)
          have pl : ∀ z : Later w7, Sem.run Tryz.prog (Instr.lookup 144 (.map (some w6.heap.size)) (.int .i64 k) false) z.at' = .ok (.bool b4) z.at' := fun z => by
           have := (M73.keep z.bl).lookup hU2.out.1 hU2.out.2 (zeroBool _) (k : Int) false
           rw [hb4] at this
           exact this
          have p0 : ∀ z : Later w7, z.at'.cell? ⟨g0, k, none⟩ = some (.int .i64 v0) := fun z => z.keep hv1
          have p1 : ∀ z : Later w7, z.at'.cell? ⟨wr.heap.size, 3, none⟩ = some (.int .i64 y.set) := fun z => z.keep r3
          have O7h := HD O7
          have M73h := HD M73
          have hg0h := hOlt.out g0 rfl (by intro e; rw [e] at hkb; simp at hkb)
          clear hgk hv0 hvv hb4 O7 M73
          go_wp2_with fail
          by_cases hvq : v0 = y.set
          case neg =>
           have hvb : (v0 != y.set) = true := by simpa using hvq
           cases b4
           all_goals
            refine wp_region_later (by kernel_rfl) (by kernel_rfl) ?_
            repeat (go_big_quiet_step (fail))
            refine wpQuiet_nil ?_
            intro w8 hB78
           case true =>
            have hB8w : Bl w w8 := hB7w.trans hB78
            go_wp2_with fail
            exact bodyPost_ret (v := .tuple #[.slice none 0 0, .int .i64 26]) (by simp [results, Tryz.results81, go_sem, *]; try exact ⟨rfl, rfl⟩) rfl (RSet.no (by omega) hB8w)
           case false =>
            have hB8 : Bl wr w8 := hB7.trans hB78
            have hB8w : Bl w w8 := BW'.trans hB8
            have O8 := O7h.out.bl hB78
            have c0 : w8.cell? ⟨g0, k, none⟩ = some (.int .i64 v0) := hB78.keep hv1
            have c1 : w8.frozen? ⟨g0, k, none⟩ = false := O8.fro k
            have c2 : w8.cell? ⟨wr.heap.size, 3, none⟩ = some (.int .i64 y.set) := hB78.keep r3
            have O9 := HD (O8.set k y.set)
            have M93 := (M73h.out.keep hB78).setCell ⟨g0, k, none⟩ (.int .i64 y.set) (by simp only; omega)
            obtain ⟨w9, hrun, M9, hQ⟩ := M93.store hU2.out.1 hU2.out.2 (k : Int) (.bool true)
            have hrun' : Sem.run Tryz.prog (Instr.mapUpdate 144 (.map (some w6.heap.size)) (.int .i64 k) (.bool true)) (w8.setCell ⟨g0, k, none⟩ (.int .i64 y.set)) = .ok () w9 := hrun
            have hB9 : Bl w w9 := Only.bl (Bl.setCell hB8w (by simp only; omega) _) hQ (by omega)
            have hM1 := HD (((M7.out.keep hB78).setCell ⟨g0, k, none⟩ (.int .i64 y.set) (by simp only; omega)).only hQ (by omega))
            have hM2 := HD (((M72.out.keep hB78).setCell ⟨g0, k, none⟩ (.int .i64 y.set) (by simp only; omega)).only hQ (by omega))
            have hM3 := HD M9
            have hh9 := HD (hh'.out.upd (k : Int) true)
            have hO9 := HD (Own1.block O9.out (w' := w9) (fun g hg => hQ.block g (by simp [Value.ownBlock] at hg; omega)))
            have hL9 := HD (show (os.set k y.set).length = oxs.length by rw [List.length_set]; exact OL.out)
            have hP9 : Hid (∀ x ∈ os.set k y.set, inR 0 1000 x = true) := fun x hx => by
             rcases List.mem_or_eq_of_mem_set hx with h1 | h1
             ·exact OP.out x h1
             ·rw [h1]; exact hset.out
            clear hrun M93 M9 hQ O8 pl p0 p1
            go_wp2_with fail
            go_roundg (rs.length - (kk + 1))
            case measure => omega
            case rel => exact ⟨kk + 1, _, _, by omega, by omega, by go_num, hB9, hM1.out, hM2.out, hM3.out, hh9.out, hO9.out, hL9.out, hP9.out⟩
          case pos =>
           have hvb : (v0 != y.set) = false := by simpa using hvq
           clear hvq
           cases b4
           all_goals
            refine wp_region_later (by kernel_rfl) (by kernel_rfl) ?_
            repeat (go_big_quiet_step (fail))
            refine wpQuiet_nil ?_
            intro w8 hB78
            have hB8 : Bl wr w8 := hB7.trans hB78
            have hB8w : Bl w w8 := BW'.trans hB8
            have O8 := O7h.out.bl hB78
            have c0 : w8.cell? ⟨g0, k, none⟩ = some (.int .i64 v0) := hB78.keep hv1
            have c1 : w8.frozen? ⟨g0, k, none⟩ = false := O8.fro k
            have c2 : w8.cell? ⟨wr.heap.size, 3, none⟩ = some (.int .i64 y.set) := hB78.keep r3
            have O9 := HD (O8.set k y.set)
            have M93 := (M73h.out.keep hB78).setCell ⟨g0, k, none⟩ (.int .i64 y.set) (by simp only; omega)
            obtain ⟨w9, hrun, M9, hQ⟩ := M93.store hU2.out.1 hU2.out.2 (k : Int) (.bool true)
            have hrun' : Sem.run Tryz.prog (Instr.mapUpdate 144 (.map (some w6.heap.size)) (.int .i64 k) (.bool true)) (w8.setCell ⟨g0, k, none⟩ (.int .i64 y.set)) = .ok () w9 := hrun
            have hB9 : Bl w w9 := Only.bl (Bl.setCell hB8w (by simp only; omega) _) hQ (by omega)
            have hM1 := HD (((M7.out.keep hB78).setCell ⟨g0, k, none⟩ (.int .i64 y.set) (by simp only; omega)).only hQ (by omega))
            have hM2 := HD (((M72.out.keep hB78).setCell ⟨g0, k, none⟩ (.int .i64 y.set) (by simp only; omega)).only hQ (by omega))
            have hM3 := HD M9
            have hh9 := HD (hh'.out.upd (k : Int) true)
            have hO9 := HD (Own1.block O9.out (w' := w9) (fun g hg => hQ.block g (by simp [Value.ownBlock] at hg; omega)))
            have hL9 := HD (show (os.set k y.set).length = oxs.length by rw [List.length_set]; exact OL.out)
            have hP9 : Hid (∀ x ∈ os.set k y.set, inR 0 1000 x = true) := fun x hx => by
             rcases List.mem_or_eq_of_mem_set hx with h1 | h1
             ·exact OP.out x h1
             ·rw [h1]; exact hset.out
            clear hrun M93 M9 hQ O8 pl p0 p1
            go_wp2_with fail
            go_roundg (rs.length - (kk + 1))
            case measure => omega
            case rel => exact ⟨kk + 1, _, _, by omega, by omega, by go_num, hB9, hM1.out, hM2.out, hM3.out, hh9.out, hO9.out, hL9.out, hP9.out⟩
        ·have hltz : ¬ (kk : Int) < (rs.length : Int) := by omega
         go_wp2_with fail
         have hlen : os.length = oxs.length := OL.out
         rw [<- hlen]
         exact bodyPost_ret (v := .tuple #[.slice OA os.length oc, .int .i64 0]) (by simp [results, Tryz.results81, go_sem, *]; try exact ⟨rfl, rfl⟩) rfl ⟨⟨OA, oc, os⟩, 0, rfl, ⟨Own1.ok OW.out (by have := OL.out; have := hq2h.out; simp only; omega) (fun _ _ => trivial), fun g hg => by have := (OW.out.lt g hg).1; omega⟩, fun _ => ⟨by have := hq2h.out; simp only; omega, OP.out⟩, BW'⟩
theorem f81_c (l : Sl Rul) (n : Net) (lv bf : Sl Int) (w : World) (hl : InRuls w l) (hs : InNet w n) (hv : InI w lv) (hb : InI w bf) : Calls Tryz.prog 81 #[l.val, n.val, lv.val, bf.val] w (RSet n.links.xs.length w) := by
 obtain ⟨RA, rc, rs⟩ := l
 obtain ⟨⟨A, c, xs⟩, ⟨A2, c2, ls⟩⟩ := n
 obtain ⟨LA, lc, lvs⟩ := lv
 obtain ⟨BA, bc, bs⟩ := bf
 exact f81_core RA A A2 LA BA rc c c2 lc bc rs xs ls lvs bs w (netB ⟨⟨A, c, xs⟩, ⟨A2, c2, ls⟩⟩) hl hs hv hb (fun W h => f54_c _ W (InNet.up hs h)) (fun h => ⟨((netB_iff _).mp h).1, ((netB_iff _).mp h).2.1⟩)
def RBl (w : World) (e : Ending) (w' : World) : Prop := ∃ b, e = .returned (.bool b) /\ Bl w w'
def RBif (Q : Prop) (w : World) (e : Ending) (w' : World) : Prop := ∃ b, e = .returned (.bool b) /\ (b = true -> Q) /\ Bl w w'
def RInts (base : World) (n : Nat) (f : Nat -> Int) (w : World) (e : Ending) (w' : World) : Prop := ∃ s' : Sl Int, e = .returned s'.val /\ s'.xs.length = n /\ (∀ i, i < n -> s'.xs[i]! = f i) /\ Own1 IV 3 base.heap.size w' s' /\ Bl w w'
theorem f112_c (n : Net) (l : Sl Sec) (s : St) (w : World) (hs : InNet w n) (hl : InSecs w l) (ht : InSt w s) : Calls Tryz.prog 112 #[n.val, l.val, s.val] w (RBif (stateB n s = true) w) := by
 have T48 := HD (fun W (hb : Bl w W) => f48_c l W (InSecs.up hl hb))
 have T50 := HD (fun W (hb : Bl w W) => f50_c n s W (InNet.up hs hb) (InSt.up ht hb))
 clear hs hl ht
 go_enter Tryz.func112, Tryz.ntmps112
 go_wp2_with fail
 refine (T50.out _ bz).mono ?_
 rintro e w1 ⟨rfl, hw1⟩
 cases hb : stateB n s
 ·go_wp2_with fail
  go_ret
  exact ⟨false, rfl, fun h => (by cases h), bz⟩
 ·go_wp2_with fail
  refine (T48.out _ bz).mono ?_
  rintro e w2 ⟨b0, _, _, rfl, hw2⟩
  go_wp2_with fail
  go_ret
  exact ⟨b0, rfl, fun _ => hb, bz⟩
set_option maxHeartbeats 2000000 in
theorem f115_c (n : Net) (l : Sl Sec) (w : World) (hs : InNet w n) (hl : InSecs w l) : Calls Tryz.prog 115 #[n.val, l.val] w (RBl w) := by
 have T153 := HD (fun W nm (hb : Bl w W) => f153_c l nm W (InSecs.up hl hb))
 have hS := HD hs
 have hr := hs.links.room
 clear hs hl
 obtain ⟨⟨A, c, xs⟩, ⟨A2, c2, ls⟩⟩ := n
 simp only at hr
 show Calls Tryz.prog 115 #[.agg #[.slice A xs.length c, .slice A2 ls.length c2], l.val] w (RBl w)
 go_enter Tryz.func115, Tryz.ntmps115
 go_wp2_with fail
 go_loopg [12] ls.length (fun gg s12 wr => ∃ (kk : Nat), kk ≤ ls.length /\ ls.length - kk ≤ gg /\ s12 = .int .i64 kk /\ Aside (Bl w wr))
 case atStart => exact ⟨0, Nat.zero_le _, by omega, rfl, bz⟩
 case round =>
  obtain ⟨kk, hkk, hg, rfl, BW⟩ := hrel
  have BW' := BW.out
  by_cases hlt : kk < ls.length
  ·have hltz : (kk : Int) < (ls.length : Int) := by omega
   have hkz : (0 : Int) ≤ (kk : Int) := by omega
   obtain ⟨b, off, hA, _, _, _⟩ := hS.out.links.place (by intro e; simp only at e; rw [e] at hlt; simp at hlt)
   simp only at hA
   subst hA
   have hc := Sl.Ok.cells hS.out.links rfl wr BW' kk hlt
   simp only at hc
   generalize ls[kk] = y at hc
   have e0 : wr.cell? ⟨b, off + kk * 11, none⟩ = some (.string y.name) := hc 0 _ rfl
   have e1 : wr.cell? ⟨b, off + kk * 11 + 1, none⟩ = some (.string y.src) := hc 1 _ rfl
   have e2 : wr.cell? ⟨b, off + kk * 11 + 2, none⟩ = some (.string y.dst) := hc 2 _ rfl
   have e3 : wr.cell? ⟨b, off + kk * 11 + 3, none⟩ = some (.int .i64 y.kind) := hc 3 _ rfl
   have e4 : wr.cell? ⟨b, off + kk * 11 + 4, none⟩ = some (.int .i64 y.len) := hc 4 _ rfl
   have e5 : wr.cell? ⟨b, off + kk * 11 + 5, none⟩ = some (.int .i64 y.up) := hc 5 _ rfl
   have e6 : wr.cell? ⟨b, off + kk * 11 + 6, none⟩ = some (.int .i64 y.down) := hc 6 _ rfl
   have e7 : wr.cell? ⟨b, off + kk * 11 + 7, none⟩ = some (.string y.sec) := hc 7 _ rfl
   have e8 : wr.cell? ⟨b, off + kk * 11 + 8, none⟩ = some (.int .i64 y.wid) := hc 8 _ rfl
   have e9 : wr.cell? ⟨b, off + kk * 11 + 9, none⟩ = some (.int .i64 y.hgt) := hc 9 _ rfl
   have e10 : wr.cell? ⟨b, off + kk * 11 + 10, none⟩ = some (y.curve.val) := hc 10 _ rfl
   clear hc
   have hBw4 : Bl w (wr.alloc (Obj.cells #[.string y.name, .string y.src, .string y.dst, .int .i64 y.kind, .int .i64 y.len, .int .i64 y.up, .int .i64 y.down, .string y.sec, .int .i64 y.wid, .int .i64 y.hgt, y.curve.val] 45)) := Bl.trans BW' bz
   cases hk : (y.kind == 1)
   ·have hk2 : (y.kind != 1) = true := by simp [bne, hk]
    go_wp2_with fail
    go_roundg (ls.length - (kk + 1))
    case measure => omega
    case rel => exact ⟨kk + 1, by omega, by omega, by go_num, hBw4⟩
   ·have hk2 : (y.kind != 1) = false := by simp [bne, hk]
    go_wp2_with fail
    refine (T153.out _ y.sec hBw4).mono ?_
    rintro e w1 ⟨q, z, rfl, hw1⟩
    have hB1 : Bl w w1 := hBw4.trans hw1
    by_cases hz : z = 0
    ·have hzb : (z != 0) = false := by simpa using hz
     clear hz
     go_wp2_with fail
     go_roundg (ls.length - (kk + 1))
     case measure => omega
     case rel => exact ⟨kk + 1, by omega, by omega, by go_num, hB1⟩
    ·have hzb : (z != 0) = true := by simpa using hz
     go_wp2_with fail
     go_ret
     exact ⟨false, rfl, hB1⟩
  ·have hltz : ¬ (kk : Int) < (ls.length : Int) := by omega
   go_wp2_with fail
   go_ret
   exact ⟨true, rfl, BW'⟩
theorem get!_set {l : List Int} {k i : Nat} {x : Int} (hi : i < l.length) : (l.set k x)[i]! = if i = k then x else l[i]! := by
 rw [getElem!_pos (l.set k x) i (by simpa using hi), List.getElem_set]
 by_cases h : i = k
 ·subst h; simp
 ·have : ¬ k = i := fun e => h e.symm
  simp [h, this, getElem!_pos l i hi]
set_option maxHeartbeats 2000000 in
theorem f117_c (s : St) (w : World) (ht : InSt w s) (hl : s.pond.xs.length = s.vol.xs.length) (hn : s.vol.xs.length ≤ 300) (hb : ∀ i, i < s.vol.xs.length -> 0 ≤ s.vol.xs[i]! /\ s.vol.xs[i]! ≤ 1125899906842624 /\ 0 ≤ s.pond.xs[i]! /\ s.pond.xs[i]! ≤ 1125899906842624) :
 Calls Tryz.prog 117 #[s.val] w (RInts w s.vol.xs.length (fun i => s.vol.xs[i]! + s.pond.xs[i]!) w) := by
 have hT := HD ht
 have T109 := HD (fun W (hb : Bl w W) => f109_c s.vol W (InI.up ht.vol hb) (by omega))
 have hbh := HD hb
 have hlh := HD hl
 clear ht hb hl
 obtain ⟨⟨V, cv, vs⟩, ⟨Pn, cp, ps⟩, ⟨Sn, cs, ss⟩, ⟨On, co, os⟩⟩ := s
 simp only at hn
 show Calls Tryz.prog 117 #[.agg #[.slice V vs.length cv, .slice Pn ps.length cp, .slice Sn ss.length cs, .slice On os.length co]] w (RInts w vs.length (fun i => vs[i]! + ps[i]!) w)
 obtain ⟨ff, hff⟩ : ∃ ff : Nat -> Int, ff = fun i => vs[i]! + ps[i]! := ⟨_, rfl⟩
 rw [<- hff]
 have hffh := HD (fun i => congrFun hff i)
 clear hff
 go_enter Tryz.func117, Tryz.ntmps117
 go_wp2_with fail
 refine (T109.out _ bz).mono ?_
 rintro e w1 ⟨⟨OA, oc, oxs⟩, he, hx, hO0, hw1⟩
 obtain rfl : e = .returned (.slice OA oxs.length oc) := he
 simp only at hx
 subst hx
 have hB1 : Bl w w1 := bz
 have hO := HD (show Own1 IV 3 w.heap.size w1 ⟨OA, oc, oxs⟩ from ⟨hO0.1, hO0.2.imp id fun ⟨g, cap, cur, h1, h2, h3⟩ => ⟨g, cap, cur, h1, by simp at h2; omega, h3⟩⟩)
 have b1 : w1.cell? ⟨w.heap.size, 1, none⟩ = some (.slice Pn ps.length cp) := hw1.keep (by simp [go_sem])
 have zz : w.heap.size < w1.heap.size := by have := hw1.size; simp at this; omega
 have hneq : Hid (∀ g, OA = some ⟨g, 0, none⟩ -> oxs ≠ [] -> w.heap.size < g) := fun g h1 h2 => by
  obtain ⟨g', h3, h4, _⟩ := hO0.ptr h2
  simp only at h3
  rw [h1] at h3
  simp only [Option.some.injEq, Addr.mk.injEq, and_true] at h3
  simp at h4
  omega
 clear T109 hO0 hw1
 go_wp2_with fail
 go_loopg [12] ps.length (fun gg s12 wr => ∃ (kk : Nat) (qs : List Int), kk ≤ ps.length /\ ps.length - kk ≤ gg /\ s12 = .int .i64 kk /\ Aside (Bl w wr) /\ Aside (Own1 IV 3 w.heap.size wr ⟨OA, oc, qs⟩) /\ Aside (qs.length = oxs.length) /\ Aside (∀ i, i < oxs.length -> qs[i]! = if i < kk then oxs[i]! + ps[i]! else oxs[i]!))
 case atStart => exact ⟨0, oxs, Nat.zero_le _, by omega, rfl, hB1, hO.out, rfl, aside (fun i _ => by simp)⟩
 case round =>
  clear hB1 hO b1 zz
  obtain ⟨kk, qs, hkk, hg, rfl, BW, OW, QL, QP⟩ := hrel
  have BW' := BW.out
  by_cases hlt : kk < ps.length
  ·have hltz : (kk : Int) < (ps.length : Int) := by omega
   have hkz : (0 : Int) ≤ (kk : Int) := by omega
   have hlh' := hlh.out
   have hko : kk < oxs.length := by omega
   have hkoz : (kk : Int) < (oxs.length : Int) := by omega
   have hkq : kk < qs.length := by have := QL.out; omega
   clear hlh'
   obtain ⟨b, off, hA, _, _, _⟩ := hT.out.pond.place (by intro e; simp only at e; rw [e] at hlt; simp at hlt)
   simp only at hA
   subst hA
   have hc := Sl.Ok.cells hT.out.pond rfl wr BW' kk hlt 0 _ rfl
   have hbk := hbh.out kk hko
   have hq1 := QP.out kk hko
   rw [if_neg (Nat.lt_irrefl _)] at hq1
   have hstep : Hid (∀ i, i < oxs.length -> (qs.set kk (oxs[kk]! + ps[kk]!))[i]! = if i < kk + 1 then oxs[i]! + ps[i]! else oxs[i]!) := fun i hi => by
    rw [get!_set (by have := QL.out; omega)]
    by_cases h1 : i = kk
    ·subst h1; simp
    ·rw [if_neg h1, QP.out i hi]
     by_cases h2 : i < kk
     ·simp [h2, show i < kk + 1 by omega]
     ·simp [h2, show ¬ i < kk + 1 by omega]
   obtain ⟨g, hgA, hg0, hg1⟩ := OW.out.ptr (by intro e; simp only at e; rw [e] at hkq; simp at hkq)
   simp only at hgA
   subst hgA
   have hv0 := OW.out.cell kk hkq
   have hfr := OW.out.fro kk
   have hgn := hneq.out g rfl (by intro e; rw [e] at hko; simp at hko)
   rw [<- getElem!_pos qs kk hkq, hq1] at hv0
   rw [<- getElem!_pos ps kk hlt] at hc
   generalize oxs[kk]! = v0 at hv0 hbk hstep
   generalize ps[kk]! = v1 at hc hbk hstep
   have e0 : wr.cell? ⟨b, off + kk, none⟩ = some (.int .i64 v1) := by rwa [Nat.mul_one] at hc
   have e1 : wr.cell? ⟨g, kk, none⟩ = some (.int .i64 v0) := hv0
   have hwp : IntKind.i64.wrap (v0 + v1) = v0 + v1 := IntWalk.i64_in _ (by omega)
   have hB5 : Bl w (wr.setCell ⟨g, kk, none⟩ (.int .i64 (v0 + v1))) := Bl.setCell BW' (by simp only; omega) _
   have hO5 := HD (OW.out.set kk (v0 + v1))
   have hL5 := HD (show (qs.set kk (v0 + v1)).length = oxs.length by rw [List.length_set]; exact QL.out)
   clear hc hv0 hq1 QP
   go_wp2_with fail
   go_roundg (ps.length - (kk + 1))
   case measure => omega
   case rel => exact ⟨kk + 1, _, by omega, by omega, by go_num, hB5, hO5.out, hL5.out, hstep.out⟩
  ·have hltz : ¬ (kk : Int) < (ps.length : Int) := by omega
   have hlen : qs.length = oxs.length := QL.out
   have hlh' := hlh.out
   have hkl : kk = oxs.length := by omega
   clear hlh'
   have hQ := HD (fun i (hi : i < oxs.length) => (QP.out i hi).trans (if_pos (by omega)))
   go_wp2_with fail
   go_ret
   rw [<- hlen]
   exact ⟨⟨OA, oc, qs⟩, rfl, rfl, fun i hi => (hQ.out i (by omega)).trans (hffh.out i).symm, OW.out, BW'⟩
end Go.Proofs.YtnnhnkpoekbahaaGreat
