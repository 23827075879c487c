/- TopSeason: part 14 of 16: Clo -/
import Derived.Test.YtnnhnkpoekbahaaGreatPart10
import Derived.Test.YtnnhnkpoekbahaaGreatPart11
import Derived.Test.YtnnhnkpoekbahaaGreatPart12
namespace Go.Proofs.YtnnhnkpoekbahaaGreat
open Go.RowKit
set_option maxHeartbeats 400000
set_option linter.unusedSimpArgs false
set_option linter.unusedVariables false
set_option maxRecDepth 100000
theorem u97 : Tryz.prog.underlying 97 = some (.map 3 3) := by kernel_rfl
def partS : Part ByteArray where
 rd _ _ := True
 off _ _ := True
 grown := fun _ _ _ => trivial
 new := fun _ _ _ => trivial
 up := fun _ _ => trivial
 none := fun _ => trivial
set_option maxHeartbeats 16000000 in
theorem f15_core (A A2 FA : Option Addr) (c c2 fc : Nat) (xs : List Nd) (ls : List Lk) (fs : List Infl) (l : Sl Sec) (rl : Sl Rul) (x : St) (sec st set : Int) (w : World)
 (hN : InNet w ⟨⟨A, c, xs⟩, ⟨A2, c2, ls⟩⟩) (hl : InSecs w l) (hr : InRuls w rl) (ht : InSt w x) (hF : InInfls w ⟨FA, fc, fs⟩) (h1000 : st ≤ 1000) (h8000 : 0 ≤ st -> st.toNat * (xs.length + ls.length) ≤ 8000) (hset : 0 ≤ set /\ set ≤ 65535) (h80 : xs.length ≤ 80) :
 Calls Tryz.prog 15 #[.agg #[.slice A xs.length c, .slice A2 ls.length c2], l.val, rl.val, .agg #[x.vol.val, x.pond.val, x.set.val, x.on.val], .slice FA fs.length fc, .int .i64 sec, .int .i64 st, .int .u16 set] w fun e w' => e = .returned (.bool true) /\ Bl w w' := by
 have T19 := HD (fun W (hb : Bl w W) => f19_c ⟨⟨A, c, xs⟩, ⟨A2, c2, ls⟩⟩ l rl x ⟨FA, fc, fs⟩ sec st W (InNet.up hN hb) (InSecs.up hl hb) (InRuls.up hr hb) (InSt.up ht hb) (InInfls.up hF hb))
 have hNh := HD hN
 have hxh := HD ht
 have hFh := HD hF
 obtain ⟨R, hR⟩ : ∃ R : Ending -> World -> Prop, R = fun e w' => e = .returned (.bool true) /\ Bl w w' := ⟨_, rfl⟩
 rw [<- hR]
 have hRh : Hid (∀ W, Bl w W -> R (.returned (.bool true)) W) := fun W hW => by rw [hR]; exact ⟨rfl, hW⟩
 obtain ⟨j9, hi, hz0, hz1, hz2⟩ := i9
 have HJ := HD (And.intro hi (And.intro hz0 (And.intro hz1 hz2)))
 have HU70 := HD u70
 have HU97 := HD u97
 have HU3 := HD u3
 clear hN hl hr ht hF hR hi hz0 hz1 hz2
 go_enter Tryz.func15, Tryz.ntmps15
 go_wp2_with fail
 refine (T19.out _ bz).mono ?_
 rintro e w1 ⟨⟨SA, sc, sx⟩, ⟨GA, gc, gx⟩, q, he, hS1, hG1, hqn, hqz, hw1⟩
 obtain rfl : e = .returned (.tuple #[.slice SA sx.length sc, .slice GA gx.length gc, .int .i64 q]) := he
 have an0 : w1.cell? ⟨w.heap.size, 0, none⟩ = some (.slice A xs.length c) := hw1.keep (by simp [go_sem])
 have an1 : w1.cell? ⟨w.heap.size, 1, none⟩ = some (.slice A2 ls.length c2) := hw1.keep (by simp [go_sem])
 have ax0 : w1.cell? ⟨w.heap.size + 1, 0, none⟩ = some (x.vol.val) := hw1.keep (by simp [go_sem])
 have ax1 : w1.cell? ⟨w.heap.size + 1, 1, none⟩ = some (x.pond.val) := hw1.keep (by simp [go_sem])
 have ax2 : w1.cell? ⟨w.heap.size + 1, 2, none⟩ = some (x.set.val) := hw1.keep (by simp [go_sem])
 have ax3 : w1.cell? ⟨w.heap.size + 1, 3, none⟩ = some (x.on.val) := hw1.keep (by simp [go_sem])
 have hB1 : Bl w w1 := bz
 have z1 : w.heap.size + 1 < w1.heap.size := by have := hw1.size; simp at this; omega
 have hS1h := HD hS1
 have hG1h := HD hG1
 clear hw1 T19 hS1 hG1
 by_cases hq : q = 0
 case neg =>
  obtain ⟨h1, h2⟩ := hqn hq
  simp only at h1 h2
  subst h1
  subst h2
  have hqb : (q != 0) = true := by simpa using hq
  clear hqn hqz hq
  go_wp2_with fail
  first | exact hRh.out _ hB1 | exact bodyPost_ret (v := .bool true) (by simp [results, Tryz.results15, go_sem, *]) rfl (hRh.out _ hB1)
 obtain ⟨hs0, hs1, hsl, hok, hio, hro⟩ := hqz hq
 simp only at hsl hro
 have hgl : gx.length = sx.length := hro.1
 have hst : st = (sx.length : Int) := by omega
 subst hst
 subst hq
 have h8 := HD (show sx.length * (xs.length + ls.length) ≤ 8000 from by have := h8000 hs0; rwa [Int.toNat_natCast] at this)
 have hs3 : sx.length ≤ 1000 := by omega
 have hgb : ((gx.length : Int) != (sx.length : Int)) = false := by rw [hgl]; simp
 have hglh := HD hgl
 have hokh := HD hok
 have hioh := HD hio
 have hroh := HD hro
 have hlen := HD (show xs.length ≤ 300 /\ ls.length ≤ 400 from ⟨((netB_iff _).mp hok.1).1, ((netB_iff _).mp hok.1).2.1⟩)
 have hx3 : xs.length ≤ 300 := hlen.out.1
 have hl4 : ls.length ≤ 400 := hlen.out.2
 clear hqn hqz hok hio hro hgl h8000 h1000 hsl hs0 hs1
 go_wp2_with fail
 go_loopg [20, 21, 95] xs.length (fun gg s20 s21 s95 wr => ∃ (kk : Nat) (p r : Sl ByteArray) (P : Nat -> Bool), kk ≤ xs.length /\ xs.length - kk ≤ gg /\ s20 = p.val /\ s21 = r.val /\ s95 = .int .i64 kk /\ Aside (Bl w1 wr) /\ Aside (p.xs = selL xs P kk) /\ Aside (r.xs = selL xs (fun i => !P i) kk) /\ Aside (Two partS partS encS 1 9 encS 1 9 w1.heap.size wr p r))
 case atStart => exact ⟨0, ⟨none, 0, []⟩, ⟨none, 0, []⟩, fun _ => false, Nat.zero_le _, by omega, rfl, rfl, rfl, Bl.refl _, rfl, rfl, Two.nil⟩
 case round => as_aux_lemma =>
  obtain ⟨kk, p, r, P, hkk, hg, rfl, rfl, rfl, BW, PX, RX, TW⟩ := hrel
  have BW' := BW.out
  by_cases hlt : kk < xs.length
  ·have hltz : (kk : Int) < (xs.length : Int) := by omega
   have hkz : (0 : Int) ≤ (kk : Int) := by omega
   obtain ⟨bN, offN, hA, _, _, _⟩ := hNh.out.nodes.place (by intro e; simp only at e; rw [e] at hlt; simp at hlt)
   simp only at hA
   subst hA
   have hc := Sl.Ok.cells hNh.out.nodes rfl wr (hB1.trans BW') kk hlt
   simp only at hc
   have hnm := HD (getElem!_pos xs kk hlt)
   have hps : p.xs.length ≤ 300 := by rw [PX.out]; have := selL_len xs P kk; have := hlen.out.1; omega
   have hrs : r.xs.length ≤ 300 := by rw [RX.out]; have := selL_len xs (fun i => !P i) kk; have := hlen.out.1; omega
   generalize xs[kk] = y at hc hnm
   have e0 : wr.cell? ⟨bN, offN + kk * 9, none⟩ = some (.string y.name) := hc 0 _ rfl; have e1 : wr.cell? ⟨bN, offN + kk * 9 + 1, none⟩ = some (.int .i64 y.kind) := hc 1 _ rfl; have e2 : wr.cell? ⟨bN, offN + kk * 9 + 2, none⟩ = some (.int .i64 y.px) := hc 2 _ rfl; have e3 : wr.cell? ⟨bN, offN + kk * 9 + 3, none⟩ = some (.int .i64 y.py) := hc 3 _ rfl; have e4 : wr.cell? ⟨bN, offN + kk * 9 + 4, none⟩ = some (.int .i64 y.inv) := hc 4 _ rfl; have e5 : wr.cell? ⟨bN, offN + kk * 9 + 5, none⟩ = some (.int .i64 y.gnd) := hc 5 _ rfl; have e6 : wr.cell? ⟨bN, offN + kk * 9 + 6, none⟩ = some (y.shape.val) := hc 6 _ rfl; have e7 : wr.cell? ⟨bN, offN + kk * 9 + 7, none⟩ = some (.bool y.prot) := hc 7 _ rfl; have e8 : wr.cell? ⟨bN, offN + kk * 9 + 8, none⟩ = some (.int .i64 y.res) := hc 8 _ rfl
   clear hc
   have hBa : Bl wr (wr.alloc (Obj.cells #[.string y.name, .int .i64 y.kind, .int .i64 y.px, .int .i64 y.py, .int .i64 y.inv, .int .i64 y.gnd, y.shape.val, .bool y.prot, .int .i64 y.res] 41)) := bz
   have k0 : (wr.alloc (Obj.cells #[.string y.name, .int .i64 y.kind, .int .i64 y.px, .int .i64 y.py, .int .i64 y.inv, .int .i64 y.gnd, y.shape.val, .bool y.prot, .int .i64 y.res] 41)).cell? ⟨wr.heap.size, 0, none⟩ = some (.string y.name) := by simp [go_sem]
   have TA := HD (TW.out.bl hBa)
   have hBA : Bl w1 (wr.alloc (Obj.cells #[.string y.name, .int .i64 y.kind, .int .i64 y.px, .int .i64 y.py, .int .i64 y.inv, .int .i64 y.gnd, y.shape.val, .bool y.prot, .int .i64 y.res] 41)) := BW'.trans hBa
   go_wp2_with (at_builtin; first | (refine wpList_append_own_at _ rfl (.tmp 107) (.tmp 110) 70 rfl w1.heap.size 9 j9 (.string ⟨#[]⟩) 1 16 HU70.out HJ.out.1 HJ.out.2.1 HJ.out.2.2.1 HJ.out.2.2.2 rfl (by decide) p.val p.xs.length (p.xs.flatMap encS) rfl (World.ownsRow.alloc TA.out.oa _) _ 1 1 (encS y.name) rfl rfl ?c1 ?c2 ?c3 ?c4 ?c5 ?_) | (refine wpList_append_own_at _ rfl (.tmp 112) (.tmp 115) 70 rfl w1.heap.size 9 j9 (.string ⟨#[]⟩) 1 16 HU70.out HJ.out.1 HJ.out.2.1 HJ.out.2.2.1 HJ.out.2.2.2 rfl (by decide) r.val r.xs.length (r.xs.flatMap encS) rfl (World.ownsRow.alloc TA.out.ob _) _ 1 1 (encS y.name) rfl rfl ?d1 ?d2 ?d3 ?d4 ?d5 ?_))
   case c1 => intro j u hj; match j, hj with | 0, hj => (simp [encS] at hj; subst hj; simp [Addr.add, go_sem])
   case c2 => intro u hu; simp [encS] at hu; subst hu; rfl
   case c3 => unfold maxLen; omega
   case c4 => omega
   case c5 => have hs9 := hBA.size; simp; simp at hs9; omega
   ·intro v5 w5 hown5 hgr5 hnil5 hat5
    have hB5 : Bl w1 w5 := Bl.grown (Bl.alloc hBA _) hgr5 (fun g hg => (World.ownsRow.lt TA.out.oa g hg).1)
    obtain ⟨s5, hv5, hx5, T5, _⟩ := Two.pushA (TA.out.bl (show Bl (wr.alloc (Obj.cells #[.string y.name, .int .i64 y.kind, .int .i64 y.px, .int .i64 y.py, .int .i64 y.inv, .int .i64 y.gnd, y.shape.val, .bool y.prot, .int .i64 y.res] 41)) ((wr.alloc (Obj.cells #[.string y.name, .int .i64 y.kind, .int .i64 y.px, .int .i64 y.py, .int .i64 y.inv, .int .i64 y.gnd, y.shape.val, .bool y.prot, .int .i64 y.res] 41)).alloc (Obj.cells #[.string y.name] 9)) from bz)) (x := y.name) trivial trivial trivial (fun _ _ => trivial) hown5 hgr5 (hat5.imp id (fun h => by rw [h]; simp))
    subst hv5
    have T5h := HD T5
    have hp5 := HD (show s5.xs = selL xs (fun i => if i = kk then true else P i) (kk + 1) from by rw [selL_step, if_pos (by simp), hnm.out, hx5, PX.out, selL_congr xs (P := fun i => if i = kk then true else P i) (Q := P) (fun i hi => by simp; omega)])
    have hr5 := HD (show r.xs = selL xs (fun i => !(fun i => if i = kk then true else P i) i) (kk + 1) from by rw [selL_step, if_neg (by simp), RX.out]; exact selL_congr xs (fun i hi => by (have h9 : ¬ i = kk := by omega); simp [h9]))
    clear hown5 hgr5 hnil5 hat5 T5 hx5
    go_wp2_with fail
    go_roundg (xs.length - (kk + 1))
    case measure => omega
    case rel => exact ⟨kk + 1, s5, r, _, by omega, by omega, rfl, rfl, by go_num, hB5, hp5.out, hr5.out, T5h.out⟩
   case d1 => intro j u hj; match j, hj with | 0, hj => (simp [encS] at hj; subst hj; simp [Addr.add, go_sem])
   case d2 => intro u hu; simp [encS] at hu; subst hu; rfl
   case d3 => unfold maxLen; omega
   case d4 => omega
   case d5 => have hs9 := hBA.size; simp; simp at hs9; omega
   ·intro v5 w5 hown5 hgr5 hnil5 hat5
    have hB5 : Bl w1 w5 := Bl.grown (Bl.alloc hBA _) hgr5 (fun g hg => (World.ownsRow.lt TA.out.ob g hg).1)
    obtain ⟨s5, hv5, hx5, T5⟩ := Two.pushB (TA.out.bl (show Bl (wr.alloc (Obj.cells #[.string y.name, .int .i64 y.kind, .int .i64 y.px, .int .i64 y.py, .int .i64 y.inv, .int .i64 y.gnd, y.shape.val, .bool y.prot, .int .i64 y.res] 41)) ((wr.alloc (Obj.cells #[.string y.name, .int .i64 y.kind, .int .i64 y.px, .int .i64 y.py, .int .i64 y.inv, .int .i64 y.gnd, y.shape.val, .bool y.prot, .int .i64 y.res] 41)).alloc (Obj.cells #[.string y.name] 9)) from bz)) (x := y.name) trivial trivial trivial (fun _ _ => trivial) hown5 hgr5 (hat5.imp id (fun h => by rw [h]; simp))
    subst hv5
    have T5h := HD T5
    have hp5 := HD (show p.xs = selL xs (fun i => if i = kk then false else P i) (kk + 1) from by rw [selL_step, if_neg (by simp), PX.out]; exact selL_congr xs (fun i hi => by (have h9 : ¬ i = kk := by omega); simp [h9]))
    have hr5 := HD (show s5.xs = selL xs (fun i => !(fun i => if i = kk then false else P i) i) (kk + 1) from by rw [selL_step, if_pos (by simp), hnm.out, hx5, RX.out, selL_congr xs (P := fun i => !(fun i => if i = kk then false else P i) i) (Q := fun i => !P i) (fun i hi => by (have h9 : ¬ i = kk := by omega); simp [h9])])
    clear hown5 hgr5 hnil5 hat5 T5 hx5
    go_wp2_with fail
    go_roundg (xs.length - (kk + 1))
    case measure => omega
    case rel => exact ⟨kk + 1, p, s5, _, by omega, by omega, rfl, rfl, by go_num, hB5, hp5.out, hr5.out, T5h.out⟩
  ·have hltz : ¬ (kk : Int) < (xs.length : Int) := by omega
   have hkl : kk = xs.length := by omega
   subst hkl
   have hBw1 : Bl w1 wr := BW'
   have hIp := HD (show InS wr p from Own.ok2 TW.out.oa (fun _ => rfl) (by rw [PX.out]; have := selL_len xs P xs.length; omega) (fun _ _ => trivial))
   have hIr := HD (show InS wr r from Own.ok2 TW.out.ob (fun _ => rfl) (by rw [RX.out]; have := selL_len xs (fun i => !P i) xs.length; omega) (fun _ _ => trivial))
   obtain ⟨PA, pc, ps⟩ := p
   obtain ⟨QA, qc, qs⟩ := r
   have hPX : ps = selL xs P xs.length := PX.out
   have hQX : qs = selL xs (fun i => !P i) xs.length := RX.out
   have hpl : ps.length ≤ 300 := by rw [hPX]; have := selL_len xs P xs.length; omega
   have hql : qs.length ≤ 300 := by rw [hQX]; have := selL_len xs (fun i => !P i) xs.length; omega
   have hndx : Hid (∀ v, v ∈ ps \/ v ∈ qs -> 0 ≤ ndIx ⟨⟨A, c, xs⟩, ⟨A2, c2, ls⟩⟩ v) := fun v hv => by
    have : ∃ i, i < xs.length /\ (xs[i]!).name = v := by
     rcases hv with hv | hv
     ·rw [hPX, mem_sel] at hv; obtain ⟨i, h1, _, h2⟩ := hv; exact ⟨i, h1, h2⟩
     ·rw [hQX, mem_sel] at hv; obtain ⟨i, h1, _, h2⟩ := hv; exact ⟨i, h1, h2⟩
    obtain ⟨i, h1, h2⟩ := this
    rw [getElem!_pos xs i h1] at h2
    have := (ndIx_iff hokh.out.1 h1 v).mpr h2
    omega
   have T27a := HD (fun W (hb : Bl wr W) => f27_c ⟨⟨A, c, xs⟩, ⟨A2, c2, ls⟩⟩ ⟨QA, qc, qs⟩ ⟨PA, pc, ps⟩ W (InNet.up hNh.out ((hB1.trans BW').trans hb)) (InS.up hIr.out hb) (InS.up hIp.out hb) hokh.out.1 (by simp only; omega) (fun y hy => hndx.out y (by rcases List.mem_append.mp hy with h | h; exact .inr h; exact .inl h)))
   have T27b := HD (fun W (hb : Bl wr W) => f27_c ⟨⟨A, c, xs⟩, ⟨A2, c2, ls⟩⟩ ⟨PA, pc, ps⟩ ⟨QA, qc, qs⟩ W (InNet.up hNh.out ((hB1.trans BW').trans hb)) (InS.up hIp.out hb) (InS.up hIr.out hb) hokh.out.1 (by simp only; omega) (fun y hy => hndx.out y (by rcases List.mem_append.mp hy with h | h; exact .inl h; exact .inr h)))
   have hPXh := HD hPX
   have hQXh := HD hQX
   have bn0 : wr.cell? ⟨w.heap.size, 0, none⟩ = some (.slice A xs.length c) := BW'.keep an0
   have bn1 : wr.cell? ⟨w.heap.size, 1, none⟩ = some (.slice A2 ls.length c2) := BW'.keep an1
   have bx0 : wr.cell? ⟨w.heap.size + 1, 0, none⟩ = some (x.vol.val) := BW'.keep ax0
   have bx1 : wr.cell? ⟨w.heap.size + 1, 1, none⟩ = some (x.pond.val) := BW'.keep ax1
   have bx2 : wr.cell? ⟨w.heap.size + 1, 2, none⟩ = some (x.set.val) := BW'.keep ax2
   have bx3 : wr.cell? ⟨w.heap.size + 1, 3, none⟩ = some (x.on.val) := BW'.keep ax3
   have hBr : Bl w wr := hB1.trans BW'
   have hzr : w1.heap.size ≤ wr.heap.size := BW'.size
   clear hPX hQX hg hkk hlt PX RX TW BW
   clear an0 an1 ax0 ax1 ax2 ax3
   go_wp2_with fail
   refine (T27a.out _ (Bl.refl _)).mono ?_
   rintro e w2 ⟨⟨IA, ic, is⟩, he2, hx2, hI2, hw2⟩
   obtain rfl : e = .returned (.tuple #[.slice IA is.length ic, .int .i64 0]) := he2
   have hI2h := HD hI2
   have hx2h := HD hx2
   have cn0 : w2.cell? ⟨w.heap.size, 0, none⟩ = some (.slice A xs.length c) := hw2.keep bn0
   have cn1 : w2.cell? ⟨w.heap.size, 1, none⟩ = some (.slice A2 ls.length c2) := hw2.keep bn1
   have cx0 : w2.cell? ⟨w.heap.size + 1, 0, none⟩ = some (x.vol.val) := hw2.keep bx0
   have cx1 : w2.cell? ⟨w.heap.size + 1, 1, none⟩ = some (x.pond.val) := hw2.keep bx1
   have cx2 : w2.cell? ⟨w.heap.size + 1, 2, none⟩ = some (x.set.val) := hw2.keep bx2
   have cx3 : w2.cell? ⟨w.heap.size + 1, 3, none⟩ = some (x.on.val) := hw2.keep bx3
   clear hI2 hx2
   clear bn0 bn1 bx0 bx1 bx2 bx3
   go_wp2_with fail
   refine (T27b.out _ hw2).mono ?_
   rintro e w3 ⟨⟨OA, oc, os⟩, he3, hx3', hI3, hw3⟩
   obtain rfl : e = .returned (.tuple #[.slice OA os.length oc, .int .i64 0]) := he3
   have hI3h := HD hI3
   have hx3h := HD hx3'
   have dn0 : w3.cell? ⟨w.heap.size, 0, none⟩ = some (.slice A xs.length c) := hw3.keep cn0
   have dn1 : w3.cell? ⟨w.heap.size, 1, none⟩ = some (.slice A2 ls.length c2) := hw3.keep cn1
   have dx0 : w3.cell? ⟨w.heap.size + 1, 0, none⟩ = some (x.vol.val) := hw3.keep cx0
   have dx1 : w3.cell? ⟨w.heap.size + 1, 1, none⟩ = some (x.pond.val) := hw3.keep cx1
   have dx2 : w3.cell? ⟨w.heap.size + 1, 2, none⟩ = some (x.set.val) := hw3.keep cx2
   have dx3 : w3.cell? ⟨w.heap.size + 1, 3, none⟩ = some (x.on.val) := hw3.keep cx3
   have hw23 := HD hw3
   have hB3r : Bl wr w3 := hw2.trans hw3
   have hB3 : Bl w w3 := hBr.trans hB3r
   have hz3 : w.heap.size + 1 < w3.heap.size := by have h1 := hB3r.size; omega
   clear hI3 hx3' hw2 hw3 T27a T27b
   clear cn0 cn1 cx0 cx1 cx2 cx3
   have hS3 := HD (InSts.up hS1h.out (hBw1.trans hB3r))
   have hG3 := HD (InLeds.up hG1h.out (hBw1.trans hB3r))
   have hp3 := HD (InS.up hIp.out hB3r)
   have hi3 := HD (InS.up hI2h.out hw23.out)
   have hx3' := HD (InSt.up hxh.out hB3)
   clear hS1h hG1h hIp hIr hI2h hw23
   have hBW1 : Bl w3 (w3.alloc (Obj.cells #[x.vol.val, x.pond.val, x.set.val, x.on.val] 31)) := bz
   have e0 : (w3.alloc (Obj.cells #[x.vol.val, x.pond.val, x.set.val, x.on.val] 31)).cell? ⟨w3.heap.size, 0, none⟩ = some x.vol.val := by simp [go_sem]
   have ef0 : (w3.alloc (Obj.cells #[x.vol.val, x.pond.val, x.set.val, x.on.val] 31)).frozen? ⟨w3.heap.size, 0, none⟩ = false := by simp [go_sem]
   have e1 : (w3.alloc (Obj.cells #[x.vol.val, x.pond.val, x.set.val, x.on.val] 31)).cell? ⟨w3.heap.size, 1, none⟩ = some x.pond.val := by simp [go_sem]
   have ef1 : (w3.alloc (Obj.cells #[x.vol.val, x.pond.val, x.set.val, x.on.val] 31)).frozen? ⟨w3.heap.size, 1, none⟩ = false := by simp [go_sem]
   have e2 : (w3.alloc (Obj.cells #[x.vol.val, x.pond.val, x.set.val, x.on.val] 31)).cell? ⟨w3.heap.size, 2, none⟩ = some x.set.val := by simp [go_sem]
   have ef2 : (w3.alloc (Obj.cells #[x.vol.val, x.pond.val, x.set.val, x.on.val] 31)).frozen? ⟨w3.heap.size, 2, none⟩ = false := by simp [go_sem]
   have e3 : (w3.alloc (Obj.cells #[x.vol.val, x.pond.val, x.set.val, x.on.val] 31)).cell? ⟨w3.heap.size, 3, none⟩ = some x.on.val := by simp [go_sem]
   have ef3 : (w3.alloc (Obj.cells #[x.vol.val, x.pond.val, x.set.val, x.on.val] 31)).frozen? ⟨w3.heap.size, 3, none⟩ = false := by simp [go_sem]
   have zW1 : w3.heap.size < (w3.alloc (Obj.cells #[x.vol.val, x.pond.val, x.set.val, x.on.val] 31)).heap.size := by simp
   go_wp2_with fail
   go_loopg [141] sx.length (fun gg s141 wr => ∃ (kk : Nat), kk ≤ sx.length /\ sx.length - kk ≤ gg /\ s141 = .int .i64 kk /\ Aside (Bl w3 wr) /\ Aside (w3.heap.size < wr.heap.size) /\ Aside (wr.cell? ⟨w3.heap.size, 0, none⟩ = some (prevS x sx kk).vol.val) /\ Aside (wr.cell? ⟨w3.heap.size, 1, none⟩ = some (prevS x sx kk).pond.val) /\ Aside (wr.cell? ⟨w3.heap.size, 2, none⟩ = some (prevS x sx kk).set.val) /\ Aside (wr.cell? ⟨w3.heap.size, 3, none⟩ = some (prevS x sx kk).on.val) /\ Aside (wr.frozen? ⟨w3.heap.size, 0, none⟩ = false) /\ Aside (wr.frozen? ⟨w3.heap.size, 1, none⟩ = false) /\ Aside (wr.frozen? ⟨w3.heap.size, 2, none⟩ = false) /\ Aside (wr.frozen? ⟨w3.heap.size, 3, none⟩ = false))
   case atStart => exact ⟨0, Nat.zero_le _, by omega, rfl, hBW1, aside zW1, aside e0, aside e1, aside e2, aside e3, aside ef0, aside ef1, aside ef2, aside ef3⟩
   case round => as_aux_lemma =>
    clear hBW1 e0 e1 e2 e3 ef0 ef1 ef2 ef3 zW1
    obtain ⟨kk, hkk, hg, rfl, BW, Z, E0, E1, E2, E3, FE0, FE1, FE2, FE3⟩ := hrel
    have BW' := BW.out
    have Z' := Z.out
    by_cases hlt : kk < sx.length
    ·have hltz : (kk : Int) < (sx.length : Int) := by omega
     have hkz : (0 : Int) ≤ (kk : Int) := by omega
     have hltg : kk < gx.length := by have := hglh.out; omega
     have hltgz : (kk : Int) < (gx.length : Int) := by omega
     have hprev := HD (prev_in hx3'.out hS3.out hkk)
     have hokp := HD (hroh.out.state hokh.out hkk)
     have hstep : Hid (StepOk ⟨⟨A, c, xs⟩, ⟨A2, c2, ls⟩⟩ (prevS x sx kk) sx[kk] (atL ⟨⟨A, c, xs⟩, ⟨A2, c2, ls⟩⟩ kk fs) gx[kk]) := by
      have h := hroh.out.2 kk hlt
      rw [List.getD_eq_getElem?_getD, List.getElem?_eq_getElem hlt, List.getD_eq_getElem?_getD, List.getElem?_eq_getElem hltg] at h
      exact h
     have hnext := HD (show prevS x sx (kk + 1) = sx[kk] from by show sx.getD kk x = _; rw [List.getD_eq_getElem?_getD, List.getElem?_eq_getElem hlt]; rfl)
     obtain ⟨bS, offS, hSA, _, _, _⟩ := hS3.out.place (by intro e; simp only at e; rw [e] at hlt; simp at hlt)
     simp only at hSA
     subst hSA
     obtain ⟨bG, offG, hGA, _, _, _⟩ := hG3.out.place (by intro e; simp only at e; rw [e] at hltg; simp at hltg)
     simp only at hGA
     subst hGA
     have hcS := Sl.Ok.cells hS3.out rfl wr BW' kk hlt
     have hcG := HD (fun W (hb : Bl w3 W) => Sl.Ok.cells hG3.out rfl W hb kk hltg)
     have hzin := HD (hS3.out.each sx[kk] (List.getElem_mem _))
     have hgin := HD (hG3.out.each gx[kk] (List.getElem_mem _))
     simp only at hcS
     generalize prevS x sx kk = y at E0 E1 E2 E3 hprev hokp hstep
     generalize sx[kk] = z at hcS hzin hstep hnext
     generalize gx[kk] = g at hcG hgin hstep
     obtain ⟨⟨VA, vc, vs⟩, ⟨DA, dc, ds⟩, ⟨TA, tc, ts⟩, ⟨NA, nc, ns⟩⟩ := y
     obtain ⟨⟨VA', vc', vs'⟩, ⟨DA', dc', ds'⟩, ⟨TA', tc', ts'⟩, ⟨NA', nc', ns'⟩⟩ := z
     obtain ⟨gi, go, ⟨KA, kc, ks⟩⟩ := g
     have f0 : wr.cell? ⟨w3.heap.size, 0, none⟩ = some (.slice VA vs.length vc) := E0.out
     have f1 : wr.cell? ⟨w3.heap.size, 1, none⟩ = some (.slice DA ds.length dc) := E1.out
     have f2 : wr.cell? ⟨w3.heap.size, 2, none⟩ = some (.slice TA ts.length tc) := E2.out
     have f3 : wr.cell? ⟨w3.heap.size, 3, none⟩ = some (.slice NA ns.length nc) := E3.out
     have s0 : wr.cell? ⟨bS, offS + kk * 4, none⟩ = some (.slice VA' vs'.length vc') := hcS 0 _ rfl
     have s1 : wr.cell? ⟨bS, offS + kk * 4 + 1, none⟩ = some (.slice DA' ds'.length dc') := hcS 1 _ rfl
     have s2 : wr.cell? ⟨bS, offS + kk * 4 + 2, none⟩ = some (.slice TA' ts'.length tc') := hcS 2 _ rfl
     have s3 : wr.cell? ⟨bS, offS + kk * 4 + 3, none⟩ = some (.slice NA' ns'.length nc') := hcS 3 _ rfl
     have T28 := HD (fun W (hb : Bl w3 W) => f28_c ⟨⟨A, c, xs⟩, ⟨A2, c2, ls⟩⟩ ⟨FA, fc, fs⟩ kk W (InNet.up hNh.out (hB3.trans hb)) (InInfls.up hFh.out (hB3.trans hb)) hokh.out.1 hioh.out (fun i hi => hstep.out.ib i (by rw [hstep.out.il]; exact hi)))
     have hBa : Bl wr (wr.alloc (Obj.cells #[.slice VA' vs'.length vc', .slice DA' ds'.length dc', .slice TA' ts'.length tc', .slice NA' ns'.length nc'] 31)) := bz
     have hB3a : Bl w3 (wr.alloc (Obj.cells #[.slice VA' vs'.length vc', .slice DA' ds'.length dc', .slice TA' ts'.length tc', .slice NA' ns'.length nc'] 31)) := BW'.trans hBa
     have gn0 : (wr.alloc (Obj.cells #[.slice VA' vs'.length vc', .slice DA' ds'.length dc', .slice TA' ts'.length tc', .slice NA' ns'.length nc'] 31)).cell? ⟨w.heap.size, 0, none⟩ = some (.slice A xs.length c) := hB3a.keep dn0
     have gn1 : (wr.alloc (Obj.cells #[.slice VA' vs'.length vc', .slice DA' ds'.length dc', .slice TA' ts'.length tc', .slice NA' ns'.length nc'] 31)).cell? ⟨w.heap.size, 1, none⟩ = some (.slice A2 ls.length c2) := hB3a.keep dn1
     have gx0 : (wr.alloc (Obj.cells #[.slice VA' vs'.length vc', .slice DA' ds'.length dc', .slice TA' ts'.length tc', .slice NA' ns'.length nc'] 31)).cell? ⟨w.heap.size + 1, 0, none⟩ = some (x.vol.val) := hB3a.keep dx0
     have gx1 : (wr.alloc (Obj.cells #[.slice VA' vs'.length vc', .slice DA' ds'.length dc', .slice TA' ts'.length tc', .slice NA' ns'.length nc'] 31)).cell? ⟨w.heap.size + 1, 1, none⟩ = some (x.pond.val) := hB3a.keep dx1
     have gx2 : (wr.alloc (Obj.cells #[.slice VA' vs'.length vc', .slice DA' ds'.length dc', .slice TA' ts'.length tc', .slice NA' ns'.length nc'] 31)).cell? ⟨w.heap.size + 1, 2, none⟩ = some (x.set.val) := hB3a.keep dx2
     have gx3 : (wr.alloc (Obj.cells #[.slice VA' vs'.length vc', .slice DA' ds'.length dc', .slice TA' ts'.length tc', .slice NA' ns'.length nc'] 31)).cell? ⟨w.heap.size + 1, 3, none⟩ = some (x.on.val) := hB3a.keep dx3
     clear hcS E0 E1 E2 E3 BW Z
     go_wp2_with fail
     refine (T28.out _ hB3a).mono ?_
     rintro e w5 ⟨⟨LA, lc, lv⟩, he5, hx5, ⟨hI5, -⟩, hw5⟩
     obtain rfl : e = .returned (.slice LA lv.length lc) := he5
     have hI5h := HD hI5
     have hx5h := HD hx5
     clear hI5 hx5 T28
     have hB5 : Bl wr w5 := hBa.trans hw5
     have hB35 : Bl w3 w5 := BW'.trans hB5
     have hz5 : wr.heap.size < w5.heap.size := by have := hw5.size; simp at this; omega
     have hn0 : w5.cell? ⟨w.heap.size, 0, none⟩ = some (.slice A xs.length c) := hw5.keep gn0
     have hn1 : w5.cell? ⟨w.heap.size, 1, none⟩ = some (.slice A2 ls.length c2) := hw5.keep gn1
     have hx0 : w5.cell? ⟨w.heap.size + 1, 0, none⟩ = some (x.vol.val) := hw5.keep gx0
     have hx1 : w5.cell? ⟨w.heap.size + 1, 1, none⟩ = some (x.pond.val) := hw5.keep gx1
     have hx2 : w5.cell? ⟨w.heap.size + 1, 2, none⟩ = some (x.set.val) := hw5.keep gx2
     have hx3 : w5.cell? ⟨w.heap.size + 1, 3, none⟩ = some (x.on.val) := hw5.keep gx3
     have u0 : w5.cell? ⟨w3.heap.size, 0, none⟩ = some (.slice VA vs.length vc) := hB5.keep f0
     have u1 : w5.cell? ⟨w3.heap.size, 1, none⟩ = some (.slice DA ds.length dc) := hB5.keep f1
     have u2 : w5.cell? ⟨w3.heap.size, 2, none⟩ = some (.slice TA ts.length tc) := hB5.keep f2
     have u3 : w5.cell? ⟨w3.heap.size, 3, none⟩ = some (.slice NA ns.length nc) := hB5.keep f3
     have v0 : w5.cell? ⟨wr.heap.size, 0, none⟩ = some (.slice VA' vs'.length vc') := hw5.keep (by simp [go_sem])
     have v1 : w5.cell? ⟨wr.heap.size, 1, none⟩ = some (.slice DA' ds'.length dc') := hw5.keep (by simp [go_sem])
     have v2 : w5.cell? ⟨wr.heap.size, 2, none⟩ = some (.slice TA' ts'.length tc') := hw5.keep (by simp [go_sem])
     have v3 : w5.cell? ⟨wr.heap.size, 3, none⟩ = some (.slice NA' ns'.length nc') := hw5.keep (by simp [go_sem])
     have uf0 : w5.frozen? ⟨w3.heap.size, 0, none⟩ = false := hB5.keepF f0 FE0.out
     have uf1 : w5.frozen? ⟨w3.heap.size, 1, none⟩ = false := hB5.keepF f1 FE1.out
     have uf2 : w5.frozen? ⟨w3.heap.size, 2, none⟩ = false := hB5.keepF f2 FE2.out
     have uf3 : w5.frozen? ⟨w3.heap.size, 3, none⟩ = false := hB5.keepF f3 FE3.out
     have k0 : w5.cell? ⟨bG, offG + kk * 3, none⟩ = some (.int .i64 gi) := hcG.out w5 hB35 0 _ rfl
     have k1 : w5.cell? ⟨bG, offG + kk * 3 + 1, none⟩ = some (.int .i64 go) := hcG.out w5 hB35 1 _ rfl
     have k2 : w5.cell? ⟨bG, offG + kk * 3 + 2, none⟩ = some (.slice KA ks.length kc) := hcG.out w5 hB35 2 _ rfl
     clear gn0 gn1 gx0 gx1 gx2 gx3
     clear f0 f1 f2 f3 s0 s1 s2 s3 FE0 FE1 FE2 FE3 hw5 hBa hB3a
     have hstp : Hid (StepOk ⟨⟨A, c, xs⟩, ⟨A2, c2, ls⟩⟩ ⟨⟨VA, vc, vs⟩, ⟨DA, dc, ds⟩, ⟨TA, tc, ts⟩, ⟨NA, nc, ns⟩⟩ ⟨⟨VA', vc', vs'⟩, ⟨DA', dc', ds'⟩, ⟨TA', tc', ts'⟩, ⟨NA', nc', ns'⟩⟩ lv ⟨gi, go, ⟨KA, kc, ks⟩⟩) := by
      have hlv : lv = atL ⟨⟨A, c, xs⟩, ⟨A2, c2, ls⟩⟩ kk fs := hx5h.out
      rw [hlv]
      exact hstep.out
     have T29 := HD (fun W (hb : Bl w5 W) => f29_c ⟨⟨A, c, xs⟩, ⟨A2, c2, ls⟩⟩ ⟨⟨VA, vc, vs⟩, ⟨DA, dc, ds⟩, ⟨TA, tc, ts⟩, ⟨NA, nc, ns⟩⟩ ⟨⟨VA', vc', vs'⟩, ⟨DA', dc', ds'⟩, ⟨TA', tc', ts'⟩, ⟨NA', nc', ns'⟩⟩ ⟨LA, lc, lv⟩ ⟨gi, go, ⟨KA, kc, ks⟩⟩ W (InNet.up hNh.out ((hB3.trans hB35).trans hb)) (InSt.up hprev.out (hB35.trans hb)) (InSt.up hzin.out (hB35.trans hb)) (InI.up hI5h.out hb) (InLed.up hgin.out (hB35.trans hb)) (given_of hokp.out hstp.out) hstp.out)
     have T30 := HD (fun W (hb : Bl w5 W) => f30_c ⟨⟨A, c, xs⟩, ⟨A2, c2, ls⟩⟩ ⟨PA, pc, ps⟩ ⟨⟨VA, vc, vs⟩, ⟨DA, dc, ds⟩, ⟨TA, tc, ts⟩, ⟨NA, nc, ns⟩⟩ ⟨⟨VA', vc', vs'⟩, ⟨DA', dc', ds'⟩, ⟨TA', tc', ts'⟩, ⟨NA', nc', ns'⟩⟩ ⟨LA, lc, lv⟩ ⟨gi, go, ⟨KA, kc, ks⟩⟩ W (InNet.up hNh.out ((hB3.trans hB35).trans hb)) (InS.up hp3.out (hB35.trans hb)) (InSt.up hprev.out (hB35.trans hb)) (InSt.up hzin.out (hB35.trans hb)) (InI.up hI5h.out hb) (InLed.up hgin.out (hB35.trans hb)) (given_of hokp.out hstp.out) hstp.out (fun v hv => hndx.out v (.inl hv)) (by simp only; rw [hPXh.out]; exact sel_pairwise (n := ⟨⟨A, c, xs⟩, ⟨A2, c2, ls⟩⟩) hokh.out.1 P))
     clear hstep
     go_upto_region 23 with fail
     have qn0 := hn0
     have qn1 := hn1
     have qu0 := u0
     have qu1 := u1
     have qu2 := u2
     have qu3 := u3
     have qv0 := v0
     have qv1 := v1
     have qv2 := v2
     have qv3 := v3
     have qk0 := k0
     have qk1 := k1
     have qk2 := k2
     have qf0 := uf0
     have qf1 := uf1
     have qf2 := uf2
     have qf3 := uf3
     clear u0 u1 u2 u3 v0 v1 v2 v3 k0 k1 k2 uf0 uf1 uf2 uf3
     clear hn0 hn1 hx0 hx1 hx2 hx3
     have pn0 : ∀ z : Later w5, z.at'.cell? ⟨w.heap.size, 0, none⟩ = some (.slice A xs.length c) := fun z => z.keep qn0
     have pn1 : ∀ z : Later w5, z.at'.cell? ⟨w.heap.size, 1, none⟩ = some (.slice A2 ls.length c2) := fun z => z.keep qn1
     have pu0 : ∀ z : Later w5, z.at'.cell? ⟨w3.heap.size, 0, none⟩ = some (.slice VA vs.length vc) := fun z => z.keep qu0
     have pu1 : ∀ z : Later w5, z.at'.cell? ⟨w3.heap.size, 1, none⟩ = some (.slice DA ds.length dc) := fun z => z.keep qu1
     have pu2 : ∀ z : Later w5, z.at'.cell? ⟨w3.heap.size, 2, none⟩ = some (.slice TA ts.length tc) := fun z => z.keep qu2
     have pu3 : ∀ z : Later w5, z.at'.cell? ⟨w3.heap.size, 3, none⟩ = some (.slice NA ns.length nc) := fun z => z.keep qu3
     have pv0 : ∀ z : Later w5, z.at'.cell? ⟨wr.heap.size, 0, none⟩ = some (.slice VA' vs'.length vc') := fun z => z.keep qv0
     have pv1 : ∀ z : Later w5, z.at'.cell? ⟨wr.heap.size, 1, none⟩ = some (.slice DA' ds'.length dc') := fun z => z.keep qv1
     have pv2 : ∀ z : Later w5, z.at'.cell? ⟨wr.heap.size, 2, none⟩ = some (.slice TA' ts'.length tc') := fun z => z.keep qv2
     have pv3 : ∀ z : Later w5, z.at'.cell? ⟨wr.heap.size, 3, none⟩ = some (.slice NA' ns'.length nc') := fun z => z.keep qv3
     have pk0 : ∀ z : Later w5, z.at'.cell? ⟨bG, offG + kk * 3, none⟩ = some (.int .i64 gi) := fun z => z.keep qk0
     have pk1 : ∀ z : Later w5, z.at'.cell? ⟨bG, offG + kk * 3 + 1, none⟩ = some (.int .i64 go) := fun z => z.keep qk1
     have pk2 : ∀ z : Later w5, z.at'.cell? ⟨bG, offG + kk * 3 + 2, none⟩ = some (.slice KA ks.length kc) := fun z => z.keep qk2
     refine wp_region_later (by kernel_rfl) (by kernel_rfl) ?_
     repeat (go_big_quiet_step (first | ((go_at_call 29; with_reducible exact Calls.later (T29.out _ (Later.bl _))))))
     refine wpQuiet_nil ?_
     intro w6 hB6
     clear pn0 pn1 pu0 pu1 pu2 pu3 pv0 pv1 pv2 pv3 pk0 pk1 pk2
     have rn0 : w6.cell? ⟨w.heap.size, 0, none⟩ = some (.slice A xs.length c) := hB6.keep qn0
     have rn1 : w6.cell? ⟨w.heap.size, 1, none⟩ = some (.slice A2 ls.length c2) := hB6.keep qn1
     have ru0 : w6.cell? ⟨w3.heap.size, 0, none⟩ = some (.slice VA vs.length vc) := hB6.keep qu0
     have ru1 : w6.cell? ⟨w3.heap.size, 1, none⟩ = some (.slice DA ds.length dc) := hB6.keep qu1
     have ru2 : w6.cell? ⟨w3.heap.size, 2, none⟩ = some (.slice TA ts.length tc) := hB6.keep qu2
     have ru3 : w6.cell? ⟨w3.heap.size, 3, none⟩ = some (.slice NA ns.length nc) := hB6.keep qu3
     have rv0 : w6.cell? ⟨wr.heap.size, 0, none⟩ = some (.slice VA' vs'.length vc') := hB6.keep qv0
     have rv1 : w6.cell? ⟨wr.heap.size, 1, none⟩ = some (.slice DA' ds'.length dc') := hB6.keep qv1
     have rv2 : w6.cell? ⟨wr.heap.size, 2, none⟩ = some (.slice TA' ts'.length tc') := hB6.keep qv2
     have rv3 : w6.cell? ⟨wr.heap.size, 3, none⟩ = some (.slice NA' ns'.length nc') := hB6.keep qv3
     have rk0 : w6.cell? ⟨bG, offG + kk * 3, none⟩ = some (.int .i64 gi) := hB6.keep qk0
     have rk1 : w6.cell? ⟨bG, offG + kk * 3 + 1, none⟩ = some (.int .i64 go) := hB6.keep qk1
     have rk2 : w6.cell? ⟨bG, offG + kk * 3 + 2, none⟩ = some (.slice KA ks.length kc) := hB6.keep qk2
     have rf0 : w6.frozen? ⟨w3.heap.size, 0, none⟩ = false := hB6.keepF qu0 qf0
     have rf1 : w6.frozen? ⟨w3.heap.size, 1, none⟩ = false := hB6.keepF qu1 qf1
     have rf2 : w6.frozen? ⟨w3.heap.size, 2, none⟩ = false := hB6.keepF qu2 qf2
     have rf3 : w6.frozen? ⟨w3.heap.size, 3, none⟩ = false := hB6.keepF qu3 qf3
     clear qn0 qn1 qu0 qu1 qu2 qu3 qv0 qv1 qv2 qv3 qk0 qk1 qk2 qf0 qf1 qf2 qf3
     clear T29
     go_upto_region 24 with fail
     have T30w := HD (fun W (hb : Bl w6 W) => T30.out W (hB6.trans hb))
     have pn0 : ∀ z : Later w6, z.at'.cell? ⟨w.heap.size, 0, none⟩ = some (.slice A xs.length c) := fun z => z.keep rn0
     have pn1 : ∀ z : Later w6, z.at'.cell? ⟨w.heap.size, 1, none⟩ = some (.slice A2 ls.length c2) := fun z => z.keep rn1
     have pu0 : ∀ z : Later w6, z.at'.cell? ⟨w3.heap.size, 0, none⟩ = some (.slice VA vs.length vc) := fun z => z.keep ru0
     have pu1 : ∀ z : Later w6, z.at'.cell? ⟨w3.heap.size, 1, none⟩ = some (.slice DA ds.length dc) := fun z => z.keep ru1
     have pu2 : ∀ z : Later w6, z.at'.cell? ⟨w3.heap.size, 2, none⟩ = some (.slice TA ts.length tc) := fun z => z.keep ru2
     have pu3 : ∀ z : Later w6, z.at'.cell? ⟨w3.heap.size, 3, none⟩ = some (.slice NA ns.length nc) := fun z => z.keep ru3
     have pv0 : ∀ z : Later w6, z.at'.cell? ⟨wr.heap.size, 0, none⟩ = some (.slice VA' vs'.length vc') := fun z => z.keep rv0
     have pv1 : ∀ z : Later w6, z.at'.cell? ⟨wr.heap.size, 1, none⟩ = some (.slice DA' ds'.length dc') := fun z => z.keep rv1
     have pv2 : ∀ z : Later w6, z.at'.cell? ⟨wr.heap.size, 2, none⟩ = some (.slice TA' ts'.length tc') := fun z => z.keep rv2
     have pv3 : ∀ z : Later w6, z.at'.cell? ⟨wr.heap.size, 3, none⟩ = some (.slice NA' ns'.length nc') := fun z => z.keep rv3
     have pk0 : ∀ z : Later w6, z.at'.cell? ⟨bG, offG + kk * 3, none⟩ = some (.int .i64 gi) := fun z => z.keep rk0
     have pk1 : ∀ z : Later w6, z.at'.cell? ⟨bG, offG + kk * 3 + 1, none⟩ = some (.int .i64 go) := fun z => z.keep rk1
     have pk2 : ∀ z : Later w6, z.at'.cell? ⟨bG, offG + kk * 3 + 2, none⟩ = some (.slice KA ks.length kc) := fun z => z.keep rk2
     refine wp_region_later (by kernel_rfl) (by kernel_rfl) ?_
     repeat (go_big_quiet_step (first | ((go_at_call 30; with_reducible exact Calls.later (T30w.out _ (Later.bl _))))))
     refine wpQuiet_nil ?_
     intro w7 hB7
     clear pn0 pn1 pu0 pu1 pu2 pu3 pv0 pv1 pv2 pv3 pk0 pk1 pk2
     have tn0 : w7.cell? ⟨w.heap.size, 0, none⟩ = some (.slice A xs.length c) := hB7.keep rn0
     have tn1 : w7.cell? ⟨w.heap.size, 1, none⟩ = some (.slice A2 ls.length c2) := hB7.keep rn1
     have tu0 : w7.cell? ⟨w3.heap.size, 0, none⟩ = some (.slice VA vs.length vc) := hB7.keep ru0
     have tu1 : w7.cell? ⟨w3.heap.size, 1, none⟩ = some (.slice DA ds.length dc) := hB7.keep ru1
     have tu2 : w7.cell? ⟨w3.heap.size, 2, none⟩ = some (.slice TA ts.length tc) := hB7.keep ru2
     have tu3 : w7.cell? ⟨w3.heap.size, 3, none⟩ = some (.slice NA ns.length nc) := hB7.keep ru3
     have tv0 : w7.cell? ⟨wr.heap.size, 0, none⟩ = some (.slice VA' vs'.length vc') := hB7.keep rv0
     have tv1 : w7.cell? ⟨wr.heap.size, 1, none⟩ = some (.slice DA' ds'.length dc') := hB7.keep rv1
     have tv2 : w7.cell? ⟨wr.heap.size, 2, none⟩ = some (.slice TA' ts'.length tc') := hB7.keep rv2
     have tv3 : w7.cell? ⟨wr.heap.size, 3, none⟩ = some (.slice NA' ns'.length nc') := hB7.keep rv3
     have tk0 : w7.cell? ⟨bG, offG + kk * 3, none⟩ = some (.int .i64 gi) := hB7.keep rk0
     have tk1 : w7.cell? ⟨bG, offG + kk * 3 + 1, none⟩ = some (.int .i64 go) := hB7.keep rk1
     have tk2 : w7.cell? ⟨bG, offG + kk * 3 + 2, none⟩ = some (.slice KA ks.length kc) := hB7.keep rk2
     have tf0 : w7.frozen? ⟨w3.heap.size, 0, none⟩ = false := hB7.keepF ru0 rf0
     have tf1 : w7.frozen? ⟨w3.heap.size, 1, none⟩ = false := hB7.keepF ru1 rf1
     have tf2 : w7.frozen? ⟨w3.heap.size, 2, none⟩ = false := hB7.keepF ru2 rf2
     have tf3 : w7.frozen? ⟨w3.heap.size, 3, none⟩ = false := hB7.keepF ru3 rf3
     clear rn0 rn1 ru0 ru1 ru2 ru3 rv0 rv1 rv2 rv3 rk0 rk1 rk2 rf0 rf1 rf2 rf3
     clear T30 T30w
     have hkl : ((ks.length : Int) != (ls.length : Int)) = false := by have := hstp.out.pl; simp only at this; rw [this]; simp
     go_upto_region 25 with fail
     have pn1 : ∀ z : Later w7, z.at'.cell? ⟨w.heap.size, 1, none⟩ = some (.slice A2 ls.length c2) := fun z => z.keep tn1
     have pk2 : ∀ z : Later w7, z.at'.cell? ⟨bG, offG + kk * 3 + 2, none⟩ = some (.slice KA ks.length kc) := fun z => z.keep tk2
     refine wp_region_later (by kernel_rfl) (by kernel_rfl) ?_
     repeat (go_big_quiet_step (fail))
     refine wpQuiet_nil ?_
     intro w8 hB8
     clear pn1 pk2
     have mn0 : w8.cell? ⟨w.heap.size, 0, none⟩ = some (.slice A xs.length c) := hB8.keep tn0
     have mn1 : w8.cell? ⟨w.heap.size, 1, none⟩ = some (.slice A2 ls.length c2) := hB8.keep tn1
     have mu0 : w8.cell? ⟨w3.heap.size, 0, none⟩ = some (.slice VA vs.length vc) := hB8.keep tu0
     have mu1 : w8.cell? ⟨w3.heap.size, 1, none⟩ = some (.slice DA ds.length dc) := hB8.keep tu1
     have mu2 : w8.cell? ⟨w3.heap.size, 2, none⟩ = some (.slice TA ts.length tc) := hB8.keep tu2
     have mu3 : w8.cell? ⟨w3.heap.size, 3, none⟩ = some (.slice NA ns.length nc) := hB8.keep tu3
     have mv0 : w8.cell? ⟨wr.heap.size, 0, none⟩ = some (.slice VA' vs'.length vc') := hB8.keep tv0
     have mv1 : w8.cell? ⟨wr.heap.size, 1, none⟩ = some (.slice DA' ds'.length dc') := hB8.keep tv1
     have mv2 : w8.cell? ⟨wr.heap.size, 2, none⟩ = some (.slice TA' ts'.length tc') := hB8.keep tv2
     have mv3 : w8.cell? ⟨wr.heap.size, 3, none⟩ = some (.slice NA' ns'.length nc') := hB8.keep tv3
     have mk0 : w8.cell? ⟨bG, offG + kk * 3, none⟩ = some (.int .i64 gi) := hB8.keep tk0
     have mk1 : w8.cell? ⟨bG, offG + kk * 3 + 1, none⟩ = some (.int .i64 go) := hB8.keep tk1
     have mk2 : w8.cell? ⟨bG, offG + kk * 3 + 2, none⟩ = some (.slice KA ks.length kc) := hB8.keep tk2
     have mf0 : w8.frozen? ⟨w3.heap.size, 0, none⟩ = false := hB8.keepF tu0 tf0
     have mf1 : w8.frozen? ⟨w3.heap.size, 1, none⟩ = false := hB8.keepF tu1 tf1
     have mf2 : w8.frozen? ⟨w3.heap.size, 2, none⟩ = false := hB8.keepF tu2 tf2
     have mf3 : w8.frozen? ⟨w3.heap.size, 3, none⟩ = false := hB8.keepF tu3 tf3
     clear tn0 tn1 tu0 tu1 tu2 tu3 tv0 tv1 tv2 tv3 tk0 tk1 tk2 tf0 tf1 tf2 tf3
     clear hkl
     have hB58 : Bl w5 w8 := (hB6.trans hB7).trans hB8
     have hB38 : Bl w3 w8 := hB35.trans hB58
     have hz8 : wr.heap.size < w8.heap.size := by have := hB58.size; omega
     have hI8 := HD (InI.up hI5h.out hB58)
     clear hB6 hB7 hB8 hB5 hB58 hI5h hB35 hz5
     have hbV := HD (fun i (hi : i < xs.length) => state_bounds hokp.out i (by have := hokp.out.2.1; simp only at this ⊢; omega))
     have hbW := HD (fun i (hi : i < xs.length) => state_bounds hstp.out.ok i (by have := hstp.out.ok.2.1; simp only at this ⊢; omega))
     have hbL := HD (fun i (hi : i < xs.length) => hstp.out.ib i (by have := hstp.out.il; simp only at this; omega))
     have hbK := HD (fun k (hk : k < ls.length) => hstp.out.pb k hk)
     have lV : vs.length = xs.length := hokp.out.2.1
     have lD : ds.length = xs.length := hokp.out.2.2.1
     have lV' : vs'.length = xs.length := hstp.out.ok.2.1
     have lD' : ds'.length = xs.length := hstp.out.ok.2.2.1
     have lL : lv.length = xs.length := hstp.out.il
     have lK : ks.length = ls.length := hstp.out.pl
     have hlens := HD (And.intro lV (And.intro lD (And.intro lV' (And.intro lD' (And.intro lL lK)))))
     simp only at hbV hbW hbL hbK
     obtain ⟨SN, hSN⟩ : ∃ f : Nat -> Int, f = fun i => if P i = true then vs[i]! + ds[i]! + lv[i]! - vs'[i]! - ds'[i]! else 0 := ⟨_, rfl⟩
     obtain ⟨EN, hEN⟩ : ∃ f : Nat -> Int, f = fun k => crossE P (edA ⟨⟨A, c, xs⟩, ⟨A2, c2, ls⟩⟩ k) (edD ⟨⟨A, c, xs⟩, ⟨A2, c2, ls⟩⟩ k) (ks[k]!) := ⟨_, rfl⟩
     obtain ⟨GN, hGN⟩ : ∃ f : Nat -> Int, f = goneN ⟨⟨A, c, xs⟩, ⟨A2, c2, ls⟩⟩ P lv ks := ⟨_, rfl⟩
     have hHL := HD (show sumTo SN xs.length + sumTo EN ls.length = sumTo GN xs.length from by subst hSN hEN hGN; exact hand_law hokp.out hstp.out P)
     have bSN : Hid (∀ i, i < xs.length -> -3377699720527872 ≤ SN i /\ SN i ≤ 3377699720527872) := fun i hi => by
      have h1 := hbV.out i hi
      have h2 := hbW.out i hi
      have h3 := hbL.out i hi
      subst hSN
      simp only
      split <;> omega
     have bEN : Hid (∀ k, k < ls.length -> -9007199254740992 ≤ EN k /\ EN k ≤ 9007199254740992) := fun k hk => by
      have h1 := hbK.out k hk
      subst hEN
      simp only
      unfold crossE
      split
      ·omega
      ·split <;> omega
     have hSNh := HD hSN
     have hENh := HD hEN
     have hGNh := HD hGN
     have T31p : Hid (∀ W, Bl w8 W -> ∀ j, j < xs.length -> Calls Tryz.prog 31 #[.slice PA ps.length pc, .string (xs[j]!).name] W fun e w' => e = .returned (.bool (P j)) /\ Bl W w') := fun W hb j hj => by
      have h := f31_c ⟨PA, pc, ps⟩ (xs[j]!).name W (InS.up hp3.out (hB38.trans hb))
      have h2 := sel_name (n := ⟨⟨A, c, xs⟩, ⟨A2, c2, ls⟩⟩) hokh.out.1 P hj
      simp only at h h2
      rw [hPXh.out, h2] at h
      rw [hPXh.out]
      exact h
     have hvb : w3.heap.size < wr.heap.size := Z'
     clear hSN hEN hGN lV lD lV' lD' lL lK BW' Z' hkk
     generalize wr.heap.size = vb at *
     go_wp2_with fail
     go_loopg [37, 205] xs.length (fun gg s37 s205 wr => ∃ (jj : Nat), jj ≤ xs.length /\ xs.length - jj ≤ gg /\ s37 = .int .i64 (sumTo SN jj) /\ s205 = .int .i64 jj /\ Aside (Bl w8 wr))
     case atStart => exact ⟨0, Nat.zero_le _, by omega, rfl, rfl, Bl.refl _⟩
     case round => as_aux_lemma =>
      obtain ⟨jj, hjj, hgj, rfl, rfl, BI⟩ := hrel
      have BI' := BI.out
      by_cases hjl : jj < xs.length
      ·have hjz : (jj : Int) < (xs.length : Int) := by omega
       have hj0 : (0 : Int) ≤ (jj : Int) := by omega
       obtain ⟨bN, offN, hA, _, _, _⟩ := hNh.out.nodes.place (by intro e; simp only at e; rw [e] at hjl; simp at hjl)
       simp only at hA
       subst hA
       have hBI : Bl w wr := (hB3.trans hB38).trans BI'
       have hcN := Sl.Ok.cells hNh.out.nodes rfl wr hBI jj hjl
       simp only at hcN
       have T31 := T31p.out
       have hnm := getElem!_pos xs jj hjl
       have hnmh := HD hnm
       have hSt : Hid (sumTo SN (jj + 1) = sumTo SN jj + (if P jj = true then vs[jj]! + ds[jj]! + lv[jj]! - vs'[jj]! - ds'[jj]! else 0)) := (by show sumTo SN jj + SN jj = _; rw [hSNh.out] : sumTo SN (jj + 1) = _)
       have bS := sumTo_abs jj (fun i hi => bSN.out i (by omega))
       have T31j := HD (fun W hb => T31 W hb jj hjl)
       rw [hnm] at T31j
       generalize xs[jj] = nd at hcN T31j
       have e0 : wr.cell? ⟨bN, offN + jj * 9, none⟩ = some (.string nd.name) := hcN 0 _ rfl; have e1 : wr.cell? ⟨bN, offN + jj * 9 + 1, none⟩ = some (.int .i64 nd.kind) := hcN 1 _ rfl; have e2 : wr.cell? ⟨bN, offN + jj * 9 + 2, none⟩ = some (.int .i64 nd.px) := hcN 2 _ rfl; have e3 : wr.cell? ⟨bN, offN + jj * 9 + 3, none⟩ = some (.int .i64 nd.py) := hcN 3 _ rfl; have e4 : wr.cell? ⟨bN, offN + jj * 9 + 4, none⟩ = some (.int .i64 nd.inv) := hcN 4 _ rfl; have e5 : wr.cell? ⟨bN, offN + jj * 9 + 5, none⟩ = some (.int .i64 nd.gnd) := hcN 5 _ rfl; have e6 : wr.cell? ⟨bN, offN + jj * 9 + 6, none⟩ = some (nd.shape.val) := hcN 6 _ rfl; have e7 : wr.cell? ⟨bN, offN + jj * 9 + 7, none⟩ = some (.bool nd.prot) := hcN 7 _ rfl; have e8 : wr.cell? ⟨bN, offN + jj * 9 + 8, none⟩ = some (.int .i64 nd.res) := hcN 8 _ rfl
       have hBa : Bl wr (wr.alloc (Obj.cells #[.string nd.name, .int .i64 nd.kind, .int .i64 nd.px, .int .i64 nd.py, .int .i64 nd.inv, .int .i64 nd.gnd, nd.shape.val, .bool nd.prot, .int .i64 nd.res] 41)) := bz
       have hB8a : Bl w8 (wr.alloc (Obj.cells #[.string nd.name, .int .i64 nd.kind, .int .i64 nd.px, .int .i64 nd.py, .int .i64 nd.inv, .int .i64 nd.gnd, nd.shape.val, .bool nd.prot, .int .i64 nd.res] 41)) := BI'.trans hBa
       clear hcN T31 hnm
       go_wp2_with fail
       refine (T31j.out _ hB8a).mono ?_
       rintro e w9 ⟨rfl, hw9⟩
       have hB89 : Bl w8 w9 := hB8a.trans hw9
       clear e0 e1 e2 e3 e4 e5 e6 e7 e8 hBa hB8a hw9 T31j hBI BI BI'
       cases hP : P jj
       case false =>
        have hS2 := HD (show sumTo SN (jj + 1) = sumTo SN jj from by rw [hSt.out, if_neg (by rw [hP]; decide)]; omega)
        clear hSt hP
        generalize sumTo SN jj = sm at *
        go_wp2_with fail
        go_roundg (xs.length - (jj + 1))
        case measure => omega
        case rel => exact ⟨jj + 1, by omega, by omega, by rw [hS2.out], by go_num, hB89⟩
       case true =>
        have b1 := hbV.out jj hjl
        have b2 := hbW.out jj hjl
        have b3 := hbL.out jj hjl
        obtain ⟨bV, oV, hVA, CV⟩ := Sl.InI_at (InI.up hprev.out.vol hB38) (by have := hlens.out; omega)
        subst hVA
        obtain ⟨bD, oD, hDA, CD⟩ := Sl.InI_at (InI.up hprev.out.pond hB38) (by have := hlens.out; omega)
        subst hDA
        obtain ⟨bVp, oVp, hVpA, CVp⟩ := Sl.InI_at (InI.up hzin.out.vol hB38) (by have := hlens.out; omega)
        subst hVpA
        obtain ⟨bDp, oDp, hDpA, CDp⟩ := Sl.InI_at (InI.up hzin.out.pond hB38) (by have := hlens.out; omega)
        subst hDpA
        obtain ⟨bL_, oL_, hLA_, CL_⟩ := Sl.InI_at hI8.out (by have := hlens.out; omega)
        subst hLA_
        have hS2 := HD (show sumTo SN (jj + 1) = sumTo SN jj + (vs[jj]! + ds[jj]! + lv[jj]! - vs'[jj]! - ds'[jj]!) from by rw [hSt.out, if_pos hP])
        clear hSt hP
        have pV : ∀ z : Later w9, z.at'.cell? ⟨bV, oV + jj, none⟩ = some (.int .i64 (vs[jj]!)) := fun z => CV z.at' (hB89.trans z.bl) jj (by have := hlens.out; omega)
        have zV : (jj : Int) < (vs.length : Int) := by have := hlens.out; omega
        have pD : ∀ z : Later w9, z.at'.cell? ⟨bD, oD + jj, none⟩ = some (.int .i64 (ds[jj]!)) := fun z => CD z.at' (hB89.trans z.bl) jj (by have := hlens.out; omega)
        have zD : (jj : Int) < (ds.length : Int) := by have := hlens.out; omega
        have pVp : ∀ z : Later w9, z.at'.cell? ⟨bVp, oVp + jj, none⟩ = some (.int .i64 (vs'[jj]!)) := fun z => CVp z.at' (hB89.trans z.bl) jj (by have := hlens.out; omega)
        have zVp : (jj : Int) < (vs'.length : Int) := by have := hlens.out; omega
        have pDp : ∀ z : Later w9, z.at'.cell? ⟨bDp, oDp + jj, none⟩ = some (.int .i64 (ds'[jj]!)) := fun z => CDp z.at' (hB89.trans z.bl) jj (by have := hlens.out; omega)
        have zDp : (jj : Int) < (ds'.length : Int) := by have := hlens.out; omega
        have pL_ : ∀ z : Later w9, z.at'.cell? ⟨bL_, oL_ + jj, none⟩ = some (.int .i64 (lv[jj]!)) := fun z => CL_ z.at' (hB89.trans z.bl) jj (by have := hlens.out; omega)
        have zL_ : (jj : Int) < (lv.length : Int) := by have := hlens.out; omega
        have pu0 : ∀ z : Later w9, z.at'.cell? ⟨w3.heap.size, 0, none⟩ = some (.slice (some ⟨bV, oV, none⟩) vs.length vc) := fun z => z.keep (hB89.keep mu0)
        have pv0 : ∀ z : Later w9, z.at'.cell? ⟨vb, 0, none⟩ = some (.slice (some ⟨bVp, oVp, none⟩) vs'.length vc') := fun z => z.keep (hB89.keep mv0)
        have pu1 : ∀ z : Later w9, z.at'.cell? ⟨w3.heap.size, 1, none⟩ = some (.slice (some ⟨bD, oD, none⟩) ds.length dc) := fun z => z.keep (hB89.keep mu1)
        have pv1 : ∀ z : Later w9, z.at'.cell? ⟨vb, 1, none⟩ = some (.slice (some ⟨bDp, oDp, none⟩) ds'.length dc') := fun z => z.keep (hB89.keep mv1)
        generalize vs[jj]! = a1 at *
        generalize ds[jj]! = a2 at *
        generalize lv[jj]! = a3 at *
        generalize vs'[jj]! = a4 at *
        generalize ds'[jj]! = a5 at *
        generalize sumTo SN jj = sm at *
        have g1 : IntKind.i64.wrap (a1 + a2) = a1 + a2 := IntWalk.i64_in _ (by omega)
        have g2 : IntKind.i64.wrap (a1 + a2 + a3) = a1 + a2 + a3 := IntWalk.i64_in _ (by omega)
        have g3 : IntKind.i64.wrap (a1 + a2 + a3 - a4) = a1 + a2 + a3 - a4 := IntWalk.i64_in _ (by omega)
        have g4 : IntKind.i64.wrap (a1 + a2 + a3 - a4 - a5) = a1 + a2 + a3 - a4 - a5 := IntWalk.i64_in _ (by omega)
        have g5 : IntKind.i64.wrap (sm + (a1 + a2 + a3 - a4 - a5)) = sm + (a1 + a2 + a3 - a4 - a5) := IntWalk.i64_in _ (by omega)
        clear CV CD CVp CDp CL_ b1 b2 b3
        go_wp2_with fail
        refine wp_region_later (by kernel_rfl) (by kernel_rfl) ?_
        repeat (go_big_quiet_step (fail))
        refine wpQuiet_nil ?_
        intro w10 hB10
        have hB810 : Bl w8 w10 := hB89.trans hB10
        clear pV pD pVp pDp pL_ pu0 pu1 pv0 pv1
        go_wp2_with fail
        go_roundg (xs.length - (jj + 1))
        case measure => omega
        case rel => exact ⟨jj + 1, by omega, by omega, by rw [hS2.out], by go_num, hB810⟩
      ·have hjz : ¬ (jj : Int) < (xs.length : Int) := by omega
       have hjl2 : jj = xs.length := by omega
       subst hjl2
       have hB8b : Bl w8 wr := BI.out
       have n0a := hB8b.keep mn0
       have n1a := hB8b.keep mn1
       have T31i : Hid (∀ W, Bl w8 W -> ∀ k (hk : k < ls.length), Calls Tryz.prog 31 #[.slice IA is.length ic, .string ls[k].name] W fun e w' => e = .returned (.bool (!P (edA ⟨⟨A, c, xs⟩, ⟨A2, c2, ls⟩⟩ k) && P (edD ⟨⟨A, c, xs⟩, ⟨A2, c2, ls⟩⟩ k))) /\ Bl W w') := fun W hb k hk => by
        have h := f31_c ⟨IA, ic, is⟩ ls[k].name W (InS.up hi3.out (hB38.trans hb))
        have h2 := cut_name (n := ⟨⟨A, c, xs⟩, ⟨A2, c2, ls⟩⟩) hokh.out.1 (fun i => !P i) P hk
        have h3 : is = cutL ls qs ps := hx2h.out
        simp only at h h2
        rw [hPXh.out, hQXh.out] at h3
        rw [h3, h2] at h
        rw [h3]
        exact h
       have T31o : Hid (∀ W, Bl w8 W -> ∀ k (hk : k < ls.length), Calls Tryz.prog 31 #[.slice OA os.length oc, .string ls[k].name] W fun e w' => e = .returned (.bool (P (edA ⟨⟨A, c, xs⟩, ⟨A2, c2, ls⟩⟩ k) && !P (edD ⟨⟨A, c, xs⟩, ⟨A2, c2, ls⟩⟩ k))) /\ Bl W w') := fun W hb k hk => by
        have h := f31_c ⟨OA, oc, os⟩ ls[k].name W (InS.up hI3h.out (hB38.trans hb))
        have h2 := cut_name (n := ⟨⟨A, c, xs⟩, ⟨A2, c2, ls⟩⟩) hokh.out.1 P (fun i => !P i) hk
        have h3 : os = cutL ls ps qs := hx3h.out
        simp only at h h2
        rw [hPXh.out, hQXh.out] at h3
        rw [h3, h2] at h
        rw [h3]
        exact h
       have bS := sumTo_abs xs.length (fun i hi => bSN.out i hi)
       generalize sumTo SN xs.length = sN at *
       clear hgj hjj hjl BI
       go_wp2_with fail
       go_loopg [37, 248] ls.length (fun gg s37 s248 wr => ∃ (ii : Nat), ii ≤ ls.length /\ ls.length - ii ≤ gg /\ s37 = .int .i64 (sN + sumTo EN ii) /\ s248 = .int .i64 ii /\ Aside (Bl w8 wr))
       case atStart => exact ⟨0, Nat.zero_le _, by omega, by rw [show sumTo EN 0 = 0 from rfl, Int.add_zero], rfl, hB8b⟩
       case round => as_aux_lemma =>
        clear hB8b n0a n1a
        obtain ⟨ii, hii, hgi, rfl, rfl, BI⟩ := hrel
        have BI' := BI.out
        have bE := sumTo_abs ii (fun k hk => bEN.out k (by omega))
        by_cases hil : ii < ls.length
        ·have hiz : (ii : Int) < (ls.length : Int) := by omega
         have hi0 : (0 : Int) ≤ (ii : Int) := by omega
         obtain ⟨bL, offL, hA2, _, _, _⟩ := hNh.out.links.place (by intro e; simp only at e; rw [e] at hil; simp at hil)
         simp only at hA2
         subst hA2
         obtain ⟨bK, oK, hKA, CK⟩ := Sl.InI_at (show InI w3 ⟨KA, kc, ks⟩ from hgin.out) (by have := hlens.out; omega)
         subst hKA
         have hcL := Sl.Ok.cells hNh.out.links rfl wr ((hB3.trans hB38).trans BI') ii hil
         simp only at hcL
         have hzk : (ii : Int) < (ks.length : Int) := by have := hlens.out; omega
         have bq := hbK.out ii hil
         have hEt : Hid (sumTo EN (ii + 1) = sumTo EN ii + crossE P (edA ⟨⟨A, c, xs⟩, ⟨some ⟨bL, offL, none⟩, c2, ls⟩⟩ ii) (edD ⟨⟨A, c, xs⟩, ⟨some ⟨bL, offL, none⟩, c2, ls⟩⟩ ii) (ks[ii]!)) := (by show sumTo EN ii + EN ii = _; rw [hENh.out] : sumTo EN (ii + 1) = _)
         have t1 := T31i.out
         have t2 := T31o.out
         have T31a := HD (fun W hb => t1 W hb ii hil)
         have T31b := HD (fun W hb => t2 W hb ii hil)
         clear t1 t2
         generalize edA ⟨⟨A, c, xs⟩, ⟨some ⟨bL, offL, none⟩, c2, ls⟩⟩ ii = na at hEt T31a T31b
         generalize edD ⟨⟨A, c, xs⟩, ⟨some ⟨bL, offL, none⟩, c2, ls⟩⟩ ii = nb at hEt T31a T31b
         have eK := CK wr (hB38.trans BI') ii (by have := hlens.out; omega)
         have eG := BI'.keep mk2
         generalize ks[ii]! = pk at hEt eK bq
         generalize sumTo EN ii = sE at *
         generalize ls[ii] = y at hcL T31a T31b
         have g1 : IntKind.i64.wrap (sN + sE + pk) = sN + sE + pk := IntWalk.i64_in _ (by omega)
         have g2 : IntKind.i64.wrap (sN + sE - pk) = sN + sE - pk := IntWalk.i64_in _ (by omega)
         have e0 : wr.cell? ⟨bL, offL + ii * 11, none⟩ = some (.string y.name) := hcL 0 _ rfl; have e1 : wr.cell? ⟨bL, offL + ii * 11 + 1, none⟩ = some (.string y.src) := hcL 1 _ rfl; have e2 : wr.cell? ⟨bL, offL + ii * 11 + 2, none⟩ = some (.string y.dst) := hcL 2 _ rfl; have e3 : wr.cell? ⟨bL, offL + ii * 11 + 3, none⟩ = some (.int .i64 y.kind) := hcL 3 _ rfl; have e4 : wr.cell? ⟨bL, offL + ii * 11 + 4, none⟩ = some (.int .i64 y.len) := hcL 4 _ rfl; have e5 : wr.cell? ⟨bL, offL + ii * 11 + 5, none⟩ = some (.int .i64 y.up) := hcL 5 _ rfl; have e6 : wr.cell? ⟨bL, offL + ii * 11 + 6, none⟩ = some (.int .i64 y.down) := hcL 6 _ rfl; have e7 : wr.cell? ⟨bL, offL + ii * 11 + 7, none⟩ = some (.string y.sec) := hcL 7 _ rfl; have e8 : wr.cell? ⟨bL, offL + ii * 11 + 8, none⟩ = some (.int .i64 y.wid) := hcL 8 _ rfl; have e9 : wr.cell? ⟨bL, offL + ii * 11 + 9, none⟩ = some (.int .i64 y.hgt) := hcL 9 _ rfl; have e10 : wr.cell? ⟨bL, offL + ii * 11 + 10, none⟩ = some (y.curve.val) := hcL 10 _ rfl
         have hBa : Bl wr (wr.alloc (Obj.cells #[.string y.name, .string y.src, .string y.dst, .int .i64 y.kind, .int .i64 y.len, .int .i64 y.up, .int .i64 y.down, .string y.sec, .int .i64 y.wid, .int .i64 y.hgt, y.curve.val] 45)) := bz
         have hB8a : Bl w8 (wr.alloc (Obj.cells #[.string y.name, .string y.src, .string y.dst, .int .i64 y.kind, .int .i64 y.len, .int .i64 y.up, .int .i64 y.down, .string y.sec, .int .i64 y.wid, .int .i64 y.hgt, y.curve.val] 45)) := BI'.trans hBa
         have kn : (wr.alloc (Obj.cells #[.string y.name, .string y.src, .string y.dst, .int .i64 y.kind, .int .i64 y.len, .int .i64 y.up, .int .i64 y.down, .string y.sec, .int .i64 y.wid, .int .i64 y.hgt, y.curve.val] 45)).cell? ⟨wr.heap.size, 0, none⟩ = some (.string y.name) := by simp [go_sem]
         have eGa := hBa.keep eG
         have eKa := hBa.keep eK
         clear hcL CK
         go_wp2_with fail
         refine (T31a.out _ hB8a).mono ?_
         rintro e w9 ⟨rfl, hw9⟩
         have kn9 := hw9.keep kn
         have hB89 : Bl w8 w9 := hB8a.trans hw9
         clear e0 e1 e2 e3 e4 e5 e6 e7 e8 e9 e10 hBa hB8a hw9 eG eK eGa eKa kn BI BI' T31a
         cases hA_ : P na
         case false =>
          cases hD_ : P nb
          case false =>
           have hS2 := HD (show sN + sumTo EN (ii + 1) = sN + sE from by rw [hEt.out]; simp [crossE, hA_, hD_])
           rw [hA_, hD_] at T31b
           clear hEt hA_ hD_
           go_wp2_with fail
           refine (T31b.out _ hB89).mono ?_
           rintro e w10 ⟨rfl, hw10⟩
           have hB810 : Bl w8 w10 := hB89.trans hw10
           go_wp2_with fail
           go_roundg (ls.length - (ii + 1))
           case measure => omega
           case rel => exact ⟨ii + 1, by omega, by omega, by rw [hS2.out], by go_num, hB810⟩
          case true =>
           have hS2 := HD (show sN + sumTo EN (ii + 1) = sN + sE + pk from by rw [hEt.out]; simp [crossE, hA_, hD_]; omega)
           rw [hA_, hD_] at T31b
           clear hEt hA_ hD_
           go_wp2_with fail
           refine (T31b.out _ hB89).mono ?_
           rintro e w10 ⟨rfl, hw10⟩
           have hB810 : Bl w8 w10 := hB89.trans hw10
           go_wp2_with fail
           go_roundg (ls.length - (ii + 1))
           case measure => omega
           case rel => exact ⟨ii + 1, by omega, by omega, by rw [hS2.out], by go_num, hB810⟩
         case true =>
          cases hD_ : P nb
          case false =>
           have hS2 := HD (show sN + sumTo EN (ii + 1) = sN + sE - pk from by rw [hEt.out]; simp [crossE, hA_, hD_]; omega)
           rw [hA_, hD_] at T31b
           clear hEt hA_ hD_
           go_wp2_with fail
           refine (T31b.out _ hB89).mono ?_
           rintro e w10 ⟨rfl, hw10⟩
           have hB810 : Bl w8 w10 := hB89.trans hw10
           go_wp2_with fail
           go_roundg (ls.length - (ii + 1))
           case measure => omega
           case rel => exact ⟨ii + 1, by omega, by omega, by rw [hS2.out], by go_num, hB810⟩
          case true =>
           have hS2 := HD (show sN + sumTo EN (ii + 1) = sN + sE from by rw [hEt.out]; simp [crossE, hA_, hD_])
           rw [hA_, hD_] at T31b
           clear hEt hA_ hD_
           go_wp2_with fail
           refine (T31b.out _ hB89).mono ?_
           rintro e w10 ⟨rfl, hw10⟩
           have hB810 : Bl w8 w10 := hB89.trans hw10
           go_wp2_with fail
           go_roundg (ls.length - (ii + 1))
           case measure => omega
           case rel => exact ⟨ii + 1, by omega, by omega, by rw [hS2.out], by go_num, hB810⟩
        ·have hiz : ¬ (ii : Int) < (ls.length : Int) := by omega
         have hil2 : ii = ls.length := by omega
         subst hil2
         have hB8c : Bl w8 wr := BI.out
         have n0b := hB8c.keep mn0
         have n1b := hB8c.keep mn1
         generalize sN + sumTo EN ls.length = sH at *
         clear T31i T31o bS bE hgi hii hil BI BI'
         have bGN : Hid (∀ jj, jj ≤ xs.length -> 0 ≤ sumTo GN jj /\ sumTo GN jj ≤ 5000000000000000000) := fun jj hj => by
          rw [hGNh.out]
          exact gone_bound (n := ⟨⟨A, c, xs⟩, ⟨A2, c2, ls⟩⟩) hokh.out.1 P (fun i hi => hbL.out i hi) (fun k hk => hbK.out k hk) hj
         have gNs : Hid (∀ jj, jj < xs.length -> sumTo GN (jj + 1) = sumTo GN jj + (if P jj = true then (if kd xs jj = 3 then lv[jj]! + sumTo (fun k => if edD ⟨⟨A, c, xs⟩, ⟨A2, c2, ls⟩⟩ k = jj then ks[k]! else 0) ls.length else 0) else 0)) := fun jj hj => by
          show sumTo GN jj + GN jj = _
          rw [hGNh.out]
          rfl
         have hdn : Hid (∀ k (hk : k < ls.length) j (hj : j < xs.length), (ls[k].dst.toList == (xs[j]!).name.toList) = decide (edD ⟨⟨A, c, xs⟩, ⟨A2, c2, ls⟩⟩ k = j)) := fun k hk j hj => by
          rw [<- beq_toListBytes, beqBA]
          have h1 := (src_name (n := ⟨⟨A, c, xs⟩, ⟨A2, c2, ls⟩⟩) hokh.out.1 hk).2
          simp only at h1
          rw [h1]
          by_cases hh : edD ⟨⟨A, c, xs⟩, ⟨A2, c2, ls⟩⟩ k = j
          ·subst hh; simp
          ·rw [decide_eq_false hh, decide_eq_false]
           intro e
           exact hh (name_inj (n := ⟨⟨A, c, xs⟩, ⟨A2, c2, ls⟩⟩) hokh.out.1 (edges_at (n := ⟨⟨A, c, xs⟩, ⟨A2, c2, ls⟩⟩) hokh.out.1 hk).2.2.2.1 hj e)
         have hED : Hid (∀ k, k < ls.length -> edD ⟨⟨A, c, xs⟩, ⟨A2, c2, ls⟩⟩ k < xs.length) := fun k hk => (edges_at (n := ⟨⟨A, c, xs⟩, ⟨A2, c2, ls⟩⟩) hokh.out.1 hk).2.2.2.1
         obtain ⟨ED, hEDe⟩ : ∃ f : Nat -> Nat, f = edD ⟨⟨A, c, xs⟩, ⟨A2, c2, ls⟩⟩ := ⟨_, rfl⟩
         rw [<- hEDe] at gNs hdn hED
         clear hEDe
         go_wp2_with fail
         go_loopg [43, 279] xs.length (fun gg s43 s279 wr => ∃ (jj : Nat), jj ≤ xs.length /\ xs.length - jj ≤ gg /\ s43 = .int .i64 (sumTo GN jj) /\ s279 = .int .i64 jj /\ Aside (Bl w8 wr))
         case atStart => exact ⟨0, Nat.zero_le _, by omega, rfl, rfl, hB8c⟩
         case round => as_aux_lemma =>
          clear hB8c n0b n1b
          obtain ⟨jj, hjj, hgj, rfl, rfl, BI⟩ := hrel
          have BI' := BI.out
          by_cases hjl : jj < xs.length
          ·have hjz : (jj : Int) < (xs.length : Int) := by omega
           have hj0 : (0 : Int) ≤ (jj : Int) := by omega
           obtain ⟨bN, offN, hA, _, _, _⟩ := hNh.out.nodes.place (by intro e; simp only at e; rw [e] at hjl; simp at hjl)
           simp only at hA
           subst hA
           have hcN := Sl.Ok.cells hNh.out.nodes rfl wr ((hB3.trans hB38).trans BI') jj hjl
           simp only at hcN
           have T31 := T31p.out
           have hnm := getElem!_pos xs jj hjl
           have hnmh := HD hnm
           have hkd : kd xs jj = xs[jj].kind := by unfold kd; rw [hnm]
           have hGt : Hid (sumTo GN (jj + 1) = sumTo GN jj + (if P jj = true then (if xs[jj].kind = 3 then lv[jj]! + sumTo (fun k => if ED k = jj then ks[k]! else 0) ls.length else 0) else 0)) := by
            have h := gNs.out jj hjl
            rw [hkd] at h
            exact h
           have bG0 := bGN.out jj (by omega)
           have bG1 := bGN.out (jj + 1) (by omega)
           have T31j := HD (fun W hb => T31 W hb jj hjl)
           have hdj := HD (fun k (hk : k < ls.length) => hdn.out k hk jj hjl)
           rw [hnm] at T31j hdj
           generalize xs[jj] = nd at hcN T31j hGt hdj
           have e0 : wr.cell? ⟨bN, offN + jj * 9, none⟩ = some (.string nd.name) := hcN 0 _ rfl; have e1 : wr.cell? ⟨bN, offN + jj * 9 + 1, none⟩ = some (.int .i64 nd.kind) := hcN 1 _ rfl; have e2 : wr.cell? ⟨bN, offN + jj * 9 + 2, none⟩ = some (.int .i64 nd.px) := hcN 2 _ rfl; have e3 : wr.cell? ⟨bN, offN + jj * 9 + 3, none⟩ = some (.int .i64 nd.py) := hcN 3 _ rfl; have e4 : wr.cell? ⟨bN, offN + jj * 9 + 4, none⟩ = some (.int .i64 nd.inv) := hcN 4 _ rfl; have e5 : wr.cell? ⟨bN, offN + jj * 9 + 5, none⟩ = some (.int .i64 nd.gnd) := hcN 5 _ rfl; have e6 : wr.cell? ⟨bN, offN + jj * 9 + 6, none⟩ = some (nd.shape.val) := hcN 6 _ rfl; have e7 : wr.cell? ⟨bN, offN + jj * 9 + 7, none⟩ = some (.bool nd.prot) := hcN 7 _ rfl; have e8 : wr.cell? ⟨bN, offN + jj * 9 + 8, none⟩ = some (.int .i64 nd.res) := hcN 8 _ rfl
           have hBa : Bl wr (wr.alloc (Obj.cells #[.string nd.name, .int .i64 nd.kind, .int .i64 nd.px, .int .i64 nd.py, .int .i64 nd.inv, .int .i64 nd.gnd, nd.shape.val, .bool nd.prot, .int .i64 nd.res] 41)) := bz
           have hB8a : Bl w8 (wr.alloc (Obj.cells #[.string nd.name, .int .i64 nd.kind, .int .i64 nd.px, .int .i64 nd.py, .int .i64 nd.inv, .int .i64 nd.gnd, nd.shape.val, .bool nd.prot, .int .i64 nd.res] 41)) := BI'.trans hBa
           have kn : (wr.alloc (Obj.cells #[.string nd.name, .int .i64 nd.kind, .int .i64 nd.px, .int .i64 nd.py, .int .i64 nd.inv, .int .i64 nd.gnd, nd.shape.val, .bool nd.prot, .int .i64 nd.res] 41)).cell? ⟨wr.heap.size, 0, none⟩ = some (.string nd.name) := by simp [go_sem]
           have zn : wr.heap.size < (wr.alloc (Obj.cells #[.string nd.name, .int .i64 nd.kind, .int .i64 nd.px, .int .i64 nd.py, .int .i64 nd.inv, .int .i64 nd.gnd, nd.shape.val, .bool nd.prot, .int .i64 nd.res] 41)).heap.size := by simp
           clear hcN T31 hnm hkd BI
           cases hk3 : (nd.kind == 3)
           case false =>
            have hS2 := HD (show sumTo GN (jj + 1) = sumTo GN jj from by rw [hGt.out, if_neg (show ¬ nd.kind = 3 by simpa using hk3)]; cases P jj <;> simp)
            clear hGt bG0 bG1
            generalize sumTo GN jj = sm at *
            go_wp2_with fail
            go_roundg (xs.length - (jj + 1))
            case measure => omega
            case rel => exact ⟨jj + 1, by omega, by omega, by rw [hS2.out], by go_num, hB8a⟩
           case true =>
            go_wp2_with fail
            refine (T31j.out _ hB8a).mono ?_
            rintro e w9 ⟨rfl, hw9⟩
            have hB89 : Bl w8 w9 := hB8a.trans hw9
            have kn9 := hw9.keep kn
            have zn9 : wr.heap.size < w9.heap.size := by have := hw9.size; omega
            clear e0 e1 e2 e3 e4 e5 e6 e7 e8 hBa hB8a hw9 T31j kn zn BI'
            cases hP : P jj
            case false =>
             have hS2 := HD (show sumTo GN (jj + 1) = sumTo GN jj from by rw [hGt.out, if_neg (by rw [hP]; decide)]; omega)
             clear hGt hP bG0 bG1
             generalize sumTo GN jj = sm at *
             go_wp2_with fail
             go_roundg (xs.length - (jj + 1))
             case measure => omega
             case rel => exact ⟨jj + 1, by omega, by omega, by rw [hS2.out], by go_num, hB89⟩
            case true =>
             have hS2 := HD (show sumTo GN (jj + 1) = sumTo GN jj + (lv[jj]! + sumTo (fun k => if ED k = jj then ks[k]! else 0) ls.length) from by rw [hGt.out, if_pos hP, if_pos (show nd.kind = 3 by simpa using hk3)])
             have b3 := hbL.out jj hjl
             obtain ⟨bL_, oL_, hLA_, CL_⟩ := Sl.InI_at hI8.out (by have := hlens.out; omega)
             subst hLA_
             have eL := CL_ w9 hB89 jj (by have := hlens.out; omega)
             have zL : (jj : Int) < (lv.length : Int) := by have := hlens.out; omega
             obtain ⟨FK, hFK⟩ : ∃ f : Nat -> Int, f = fun k => if ED k = jj then ks[k]! else 0 := ⟨_, rfl⟩
             rw [<- hFK] at hS2
             have bFK : Hid (∀ k, k < ls.length -> 0 ≤ FK k /\ FK k ≤ 9007199254740992) := fun k hk => by have h1 := hbK.out k hk; subst hFK; simp only; split <;> omega
             have hFKh := HD hFK
             rw [hS2.out] at bG1
             clear hGt hP hFK CL_
             generalize lv[jj]! = lj at *
             generalize sumTo GN jj = sm at *
             have g1 : IntKind.i64.wrap (sm + lj) = sm + lj := IntWalk.i64_in _ (by omega)
             have mn1c := hB89.keep mn1
             go_wp2_with fail
             clear eL zL g1 mn1c
             generalize wr.heap.size = nbk at *
             go_loopg [43, 302] ls.length (fun gg s43 s302 wr => ∃ (ii : Nat), ii ≤ ls.length /\ ls.length - ii ≤ gg /\ s43 = .int .i64 (sm + lj + sumTo FK ii) /\ s302 = .int .i64 ii /\ Aside (Bl w8 wr) /\ Aside (nbk < wr.heap.size) /\ Aside (wr.cell? ⟨nbk, 0, none⟩ = some (.string nd.name)))
             case atStart => exact ⟨0, Nat.zero_le _, by omega, by rw [show sumTo FK 0 = 0 from rfl, Int.add_zero], rfl, hB89, aside zn9, aside kn9⟩
             case round =>
              clear hB89 zn9 kn9
              obtain ⟨ii, hii, hgi, rfl, rfl, BI, ZN, KN⟩ := hrel
              have BI' := BI.out
              have ZN' := ZN.out
              have KN' := KN.out
              by_cases hil : ii < ls.length
              ·have hiz : (ii : Int) < (ls.length : Int) := by omega
               have hi0 : (0 : Int) ≤ (ii : Int) := by omega
               obtain ⟨bL, offL, hA2, _, _, _⟩ := hNh.out.links.place (by intro e; simp only at e; rw [e] at hil; simp at hil)
               simp only at hA2
               subst hA2
               obtain ⟨bK, oK, hKA, CK⟩ := Sl.InI_at (show InI w3 ⟨KA, kc, ks⟩ from hgin.out) (by have := hlens.out; omega)
               subst hKA
               have hcL := Sl.Ok.cells hNh.out.links rfl wr ((hB3.trans hB38).trans BI') ii hil
               simp only at hcL
               have hzk : (ii : Int) < (ks.length : Int) := by have := hlens.out; omega
               have bq := hbK.out ii hil
               have hd := hdj.out ii hil
               have hFt : Hid (sumTo FK (ii + 1) = sumTo FK ii + (if ED ii = jj then ks[ii]! else 0)) := (by show sumTo FK ii + FK ii = _; rw [hFKh.out] : sumTo FK (ii + 1) = _)
               have bF := sumTo_bound ii (fun k hk => bFK.out k (by omega))
               have eK := CK wr (hB38.trans BI') ii (by have := hlens.out; omega)
               have eG := BI'.keep mk2
               generalize ks[ii]! = pk at hFt eK bq
               generalize sumTo FK ii = sE at *
               generalize ls[ii] = y at hcL hd
               have e0 : wr.cell? ⟨bL, offL + ii * 11, none⟩ = some (.string y.name) := hcL 0 _ rfl; have e1 : wr.cell? ⟨bL, offL + ii * 11 + 1, none⟩ = some (.string y.src) := hcL 1 _ rfl; have e2 : wr.cell? ⟨bL, offL + ii * 11 + 2, none⟩ = some (.string y.dst) := hcL 2 _ rfl; have e3 : wr.cell? ⟨bL, offL + ii * 11 + 3, none⟩ = some (.int .i64 y.kind) := hcL 3 _ rfl; have e4 : wr.cell? ⟨bL, offL + ii * 11 + 4, none⟩ = some (.int .i64 y.len) := hcL 4 _ rfl; have e5 : wr.cell? ⟨bL, offL + ii * 11 + 5, none⟩ = some (.int .i64 y.up) := hcL 5 _ rfl; have e6 : wr.cell? ⟨bL, offL + ii * 11 + 6, none⟩ = some (.int .i64 y.down) := hcL 6 _ rfl; have e7 : wr.cell? ⟨bL, offL + ii * 11 + 7, none⟩ = some (.string y.sec) := hcL 7 _ rfl; have e8 : wr.cell? ⟨bL, offL + ii * 11 + 8, none⟩ = some (.int .i64 y.wid) := hcL 8 _ rfl; have e9 : wr.cell? ⟨bL, offL + ii * 11 + 9, none⟩ = some (.int .i64 y.hgt) := hcL 9 _ rfl; have e10 : wr.cell? ⟨bL, offL + ii * 11 + 10, none⟩ = some (y.curve.val) := hcL 10 _ rfl
               have hBa : Bl wr (wr.alloc (Obj.cells #[.string y.name, .string y.src, .string y.dst, .int .i64 y.kind, .int .i64 y.len, .int .i64 y.up, .int .i64 y.down, .string y.sec, .int .i64 y.wid, .int .i64 y.hgt, y.curve.val] 45)) := bz
               have hB8a : Bl w8 (wr.alloc (Obj.cells #[.string y.name, .string y.src, .string y.dst, .int .i64 y.kind, .int .i64 y.len, .int .i64 y.up, .int .i64 y.down, .string y.sec, .int .i64 y.wid, .int .i64 y.hgt, y.curve.val] 45)) := BI'.trans hBa
               have knA := hBa.keep KN'
               have zA : nbk < (wr.alloc (Obj.cells #[.string y.name, .string y.src, .string y.dst, .int .i64 y.kind, .int .i64 y.len, .int .i64 y.up, .int .i64 y.down, .string y.sec, .int .i64 y.wid, .int .i64 y.hgt, y.curve.val] 45)).heap.size := by simp; omega
               have eKA := hBa.keep eK
               have eGA := hBa.keep eG
               have g2 : IntKind.i64.wrap (sm + lj + sE + pk) = sm + lj + sE + pk := IntWalk.i64_in _ (by omega)
               clear hcL CK BI ZN KN
               by_cases hh : ED ii = jj
               ·have hb : (y.dst.toList == nd.name.toList) = true := by rw [hd]; simp [hh]
                have hS3 := HD (show sm + lj + sumTo FK (ii + 1) = sm + lj + sE + pk from by rw [hFt.out, if_pos hh]; omega)
                clear hd hFt hh
                go_wp2_with fail
                go_roundg (ls.length - (ii + 1))
                case measure => omega
                case rel => exact ⟨ii + 1, by omega, by omega, by rw [hS3.out], by go_num, hB8a, aside zA, aside knA⟩
               ·have hb : (y.dst.toList == nd.name.toList) = false := by rw [hd]; simp [hh]
                have hS3 := HD (show sm + lj + sumTo FK (ii + 1) = sm + lj + sE from by rw [hFt.out, if_neg hh]; omega)
                clear hd hFt hh
                go_wp2_with fail
                go_roundg (ls.length - (ii + 1))
                case measure => omega
                case rel => exact ⟨ii + 1, by omega, by omega, by rw [hS3.out], by go_num, hB8a, aside zA, aside knA⟩
              ·have hiz : ¬ (ii : Int) < (ls.length : Int) := by omega
               have hil2 : ii = ls.length := by omega
               subst hil2
               have hBe : Bl w8 wr := BI.out
               have hS4 := HD (show sumTo GN (jj + 1) = sm + lj + sumTo FK ls.length from by rw [hS2.out]; omega)
               clear bG1 BI ZN KN hgi hii hil
               generalize sumTo FK ls.length = sF at *
               go_wp2_with fail
               go_roundg (xs.length - (jj + 1))
               case measure => omega
               case rel => exact ⟨jj + 1, by omega, by omega, by rw [hS4.out], by go_num, hBe⟩
          ·have hjz : ¬ (jj : Int) < (xs.length : Int) := by omega
           have hjl2 : jj = xs.length := by omega
           subst hjl2
           have hB8d : Bl w8 wr := BI.out
           have hHb : (sH != sumTo GN xs.length) = false := by rw [hHL.out]; simp
           have w_u0 := hB8d.keep mu0
           have w_u1 := hB8d.keep mu1
           have w_u2 := hB8d.keep mu2
           have w_u3 := hB8d.keep mu3
           have w_v0 := hB8d.keep mv0
           have w_v1 := hB8d.keep mv1
           have w_v2 := hB8d.keep mv2
           have w_v3 := hB8d.keep mv3
           have w_f0 := hB8d.keepF mu0 mf0
           have w_f1 := hB8d.keepF mu1 mf1
           have w_f2 := hB8d.keepF mu2 mf2
           have w_f3 := hB8d.keepF mu3 mf3
           have y0 : ((((wr.setCell ⟨w3.heap.size, 0, none⟩ (.slice VA' vs'.length vc')).setCell ⟨w3.heap.size, 1, none⟩ (.slice DA' ds'.length dc')).setCell ⟨w3.heap.size, 2, none⟩ (.slice TA' ts'.length tc')).setCell ⟨w3.heap.size, 3, none⟩ (.slice NA' ns'.length nc')).cell? ⟨w3.heap.size, 0, none⟩ = some (.slice VA' vs'.length vc') := (setOff (by decide)).trans ((setOff (by decide)).trans ((setOff (by decide)).trans (setSame (by rw [w_u0]; rfl))))
           have yf0 : ((((wr.setCell ⟨w3.heap.size, 0, none⟩ (.slice VA' vs'.length vc')).setCell ⟨w3.heap.size, 1, none⟩ (.slice DA' ds'.length dc')).setCell ⟨w3.heap.size, 2, none⟩ (.slice TA' ts'.length tc')).setCell ⟨w3.heap.size, 3, none⟩ (.slice NA' ns'.length nc')).frozen? ⟨w3.heap.size, 0, none⟩ = false := by simp [go_sem, w_f0]
           have y1 : ((((wr.setCell ⟨w3.heap.size, 0, none⟩ (.slice VA' vs'.length vc')).setCell ⟨w3.heap.size, 1, none⟩ (.slice DA' ds'.length dc')).setCell ⟨w3.heap.size, 2, none⟩ (.slice TA' ts'.length tc')).setCell ⟨w3.heap.size, 3, none⟩ (.slice NA' ns'.length nc')).cell? ⟨w3.heap.size, 1, none⟩ = some (.slice DA' ds'.length dc') := (setOff (by decide)).trans ((setOff (by decide)).trans (setSame (by rw [setOff (by decide), w_u1]; rfl)))
           have yf1 : ((((wr.setCell ⟨w3.heap.size, 0, none⟩ (.slice VA' vs'.length vc')).setCell ⟨w3.heap.size, 1, none⟩ (.slice DA' ds'.length dc')).setCell ⟨w3.heap.size, 2, none⟩ (.slice TA' ts'.length tc')).setCell ⟨w3.heap.size, 3, none⟩ (.slice NA' ns'.length nc')).frozen? ⟨w3.heap.size, 1, none⟩ = false := by simp [go_sem, w_f1]
           have y2 : ((((wr.setCell ⟨w3.heap.size, 0, none⟩ (.slice VA' vs'.length vc')).setCell ⟨w3.heap.size, 1, none⟩ (.slice DA' ds'.length dc')).setCell ⟨w3.heap.size, 2, none⟩ (.slice TA' ts'.length tc')).setCell ⟨w3.heap.size, 3, none⟩ (.slice NA' ns'.length nc')).cell? ⟨w3.heap.size, 2, none⟩ = some (.slice TA' ts'.length tc') := (setOff (by decide)).trans (setSame (by rw [setOff (by decide), setOff (by decide), w_u2]; rfl))
           have yf2 : ((((wr.setCell ⟨w3.heap.size, 0, none⟩ (.slice VA' vs'.length vc')).setCell ⟨w3.heap.size, 1, none⟩ (.slice DA' ds'.length dc')).setCell ⟨w3.heap.size, 2, none⟩ (.slice TA' ts'.length tc')).setCell ⟨w3.heap.size, 3, none⟩ (.slice NA' ns'.length nc')).frozen? ⟨w3.heap.size, 2, none⟩ = false := by simp [go_sem, w_f2]
           have y3 : ((((wr.setCell ⟨w3.heap.size, 0, none⟩ (.slice VA' vs'.length vc')).setCell ⟨w3.heap.size, 1, none⟩ (.slice DA' ds'.length dc')).setCell ⟨w3.heap.size, 2, none⟩ (.slice TA' ts'.length tc')).setCell ⟨w3.heap.size, 3, none⟩ (.slice NA' ns'.length nc')).cell? ⟨w3.heap.size, 3, none⟩ = some (.slice NA' ns'.length nc') := setSame (by rw [setOff (by decide), setOff (by decide), setOff (by decide), w_u3]; rfl)
           have yf3 : ((((wr.setCell ⟨w3.heap.size, 0, none⟩ (.slice VA' vs'.length vc')).setCell ⟨w3.heap.size, 1, none⟩ (.slice DA' ds'.length dc')).setCell ⟨w3.heap.size, 2, none⟩ (.slice TA' ts'.length tc')).setCell ⟨w3.heap.size, 3, none⟩ (.slice NA' ns'.length nc')).frozen? ⟨w3.heap.size, 3, none⟩ = false := by simp [go_sem, w_f3]
           have hBX : Bl w3 ((((wr.setCell ⟨w3.heap.size, 0, none⟩ (.slice VA' vs'.length vc')).setCell ⟨w3.heap.size, 1, none⟩ (.slice DA' ds'.length dc')).setCell ⟨w3.heap.size, 2, none⟩ (.slice TA' ts'.length tc')).setCell ⟨w3.heap.size, 3, none⟩ (.slice NA' ns'.length nc')) := Bl.setCell (Bl.setCell (Bl.setCell (Bl.setCell (hB38.trans hB8d) (by simp only; omega) _) (by simp only; omega) _) (by simp only; omega) _) (by simp only; omega) _
           have zX : w3.heap.size < ((((wr.setCell ⟨w3.heap.size, 0, none⟩ (.slice VA' vs'.length vc')).setCell ⟨w3.heap.size, 1, none⟩ (.slice DA' ds'.length dc')).setCell ⟨w3.heap.size, 2, none⟩ (.slice TA' ts'.length tc')).setCell ⟨w3.heap.size, 3, none⟩ (.slice NA' ns'.length nc')).heap.size := by have h1 := hB8d.size; simp only [cZ]; omega
           clear hHL BI hgj hjj hjl bGN gNs
           generalize sumTo GN xs.length = sG at *
           go_wp2_with fail
           go_roundg (sx.length - (kk + 1))
           case measure => omega
           case rel => exact ⟨kk + 1, by omega, by omega, by go_num, hBX, aside zX, aside (by rw [hnext.out]; exact y0), aside (by rw [hnext.out]; exact y1), aside (by rw [hnext.out]; exact y2), aside (by rw [hnext.out]; exact y3), aside yf0, aside yf1, aside yf2, aside yf3⟩
    ·as_aux_lemma =>
     have hltz : ¬ (kk : Int) < (sx.length : Int) := by omega
     have hkl : kk = sx.length := by omega
     subst hkl
     have hbig := HD (fun k (hk : k ≤ sx.length) => came_big (n := ⟨⟨A, c, xs⟩, ⟨A2, c2, ls⟩⟩) hroh.out hokh.out h8.out h80 hk)
     have T32 := HD (fun W (hb : Bl w3 W) => f32_c ⟨⟨A, c, xs⟩, ⟨A2, c2, ls⟩⟩ ⟨GA, gc, gx⟩ fs x sx W (InNet.up hNh.out (hB3.trans hb)) (InLeds.up hG3.out hb) hroh.out hokh.out (by have := hglh.out; simp only; omega))
     have T33a : Hid (∀ W, Bl w3 W -> Calls Tryz.prog 33 #[.agg #[.slice A xs.length c, .slice A2 ls.length c2], .agg #[x.vol.val, x.pond.val, x.set.val, x.on.val]] W fun e w' => e = .returned (.tuple #[.int .i64 (heldS x), .int .i64 0]) /\ Bl W w') := fun W hb => by
      have h := f33_c ⟨⟨A, c, xs⟩, ⟨A2, c2, ls⟩⟩ x W (InNet.up hNh.out (hB3.trans hb)) (InSt.up hx3'.out hb)
      rw [if_pos ((stateB_iff _ _).mpr hokh.out)] at h
      exact h
     have T33b : Hid (∀ W, Bl w3 W -> Calls Tryz.prog 33 #[.agg #[.slice A xs.length c, .slice A2 ls.length c2], .agg #[(prevS x sx sx.length).vol.val, (prevS x sx sx.length).pond.val, (prevS x sx sx.length).set.val, (prevS x sx sx.length).on.val]] W fun e w' => e = .returned (.tuple #[.int .i64 (heldS (prevS x sx sx.length)), .int .i64 0]) /\ Bl W w') := fun W hb => by
      have h := f33_c ⟨⟨A, c, xs⟩, ⟨A2, c2, ls⟩⟩ (prevS x sx sx.length) W (InNet.up hNh.out (hB3.trans hb)) (InSt.up (prev_in hx3'.out hS3.out (Nat.le_refl _)) hb)
      rw [if_pos ((stateB_iff _ _).mpr (hroh.out.state hokh.out (Nat.le_refl _)))] at h
      exact h
     have hlawE := HD (hbig.out sx.length (Nat.le_refl _))
     generalize prevS x sx sx.length = yl at *
     have f0 := E0.out
     have f1 := E1.out
     have f2 := E2.out
     have f3 := E3.out
     clear E0 E1 E2 E3 FE0 FE1 FE2 FE3 BW Z hg hkk hlt
     have gn0 : wr.cell? ⟨w.heap.size, 0, none⟩ = some (.slice A xs.length c) := BW'.keep dn0
     have gn1 : wr.cell? ⟨w.heap.size, 1, none⟩ = some (.slice A2 ls.length c2) := BW'.keep dn1
     have gx0 : wr.cell? ⟨w.heap.size + 1, 0, none⟩ = some (x.vol.val) := BW'.keep dx0
     have gx1 : wr.cell? ⟨w.heap.size + 1, 1, none⟩ = some (x.pond.val) := BW'.keep dx1
     have gx2 : wr.cell? ⟨w.heap.size + 1, 2, none⟩ = some (x.set.val) := BW'.keep dx2
     have gx3 : wr.cell? ⟨w.heap.size + 1, 3, none⟩ = some (x.on.val) := BW'.keep dx3
     go_wp2_with fail
     refine (T32.out _ BW').mono ?_
     rintro e w5 ⟨⟨ti, to_, ⟨KA, kc, ks⟩⟩, q5, he5, hq5a, hq5b, hw5⟩
     obtain rfl : e = .returned (.tuple #[.agg #[.int .i64 ti, .int .i64 to_, .slice KA ks.length kc], .int .i64 q5]) := he5
     have hq5 := HD (And.intro hq5a hq5b)
     clear hq5a hq5b T32
     have hn0 : w5.cell? ⟨w.heap.size, 0, none⟩ = some (.slice A xs.length c) := hw5.keep gn0
     have hn1 : w5.cell? ⟨w.heap.size, 1, none⟩ = some (.slice A2 ls.length c2) := hw5.keep gn1
     have hx0 : w5.cell? ⟨w.heap.size + 1, 0, none⟩ = some (x.vol.val) := hw5.keep gx0
     have hx1 : w5.cell? ⟨w.heap.size + 1, 1, none⟩ = some (x.pond.val) := hw5.keep gx1
     have hx2 : w5.cell? ⟨w.heap.size + 1, 2, none⟩ = some (x.set.val) := hw5.keep gx2
     have hx3 : w5.cell? ⟨w.heap.size + 1, 3, none⟩ = some (x.on.val) := hw5.keep gx3
     have i0 := hw5.keep f0
     have i1 := hw5.keep f1
     have i2 := hw5.keep f2
     have i3 := hw5.keep f3
     have hB5 : Bl w3 w5 := BW'.trans hw5
     have z5 : w3.heap.size < w5.heap.size := by have := hw5.size; omega
     clear f0 f1 f2 f3 hw5
     clear gn0 gn1 gx0 gx1 gx2 gx3
     have hBa : Bl w5 (w5.alloc (Obj.cells #[.int .i64 ti, .int .i64 to_, .slice KA ks.length kc] 90)) := bz
     have hB5a : Bl w3 (w5.alloc (Obj.cells #[.int .i64 ti, .int .i64 to_, .slice KA ks.length kc] 90)) := hB5.trans hBa
     have jn0 : (w5.alloc (Obj.cells #[.int .i64 ti, .int .i64 to_, .slice KA ks.length kc] 90)).cell? ⟨w.heap.size, 0, none⟩ = some (.slice A xs.length c) := hBa.keep hn0
     have jn1 : (w5.alloc (Obj.cells #[.int .i64 ti, .int .i64 to_, .slice KA ks.length kc] 90)).cell? ⟨w.heap.size, 1, none⟩ = some (.slice A2 ls.length c2) := hBa.keep hn1
     have jx0 : (w5.alloc (Obj.cells #[.int .i64 ti, .int .i64 to_, .slice KA ks.length kc] 90)).cell? ⟨w.heap.size + 1, 0, none⟩ = some (x.vol.val) := hBa.keep hx0
     have jx1 : (w5.alloc (Obj.cells #[.int .i64 ti, .int .i64 to_, .slice KA ks.length kc] 90)).cell? ⟨w.heap.size + 1, 1, none⟩ = some (x.pond.val) := hBa.keep hx1
     have jx2 : (w5.alloc (Obj.cells #[.int .i64 ti, .int .i64 to_, .slice KA ks.length kc] 90)).cell? ⟨w.heap.size + 1, 2, none⟩ = some (x.set.val) := hBa.keep hx2
     have jx3 : (w5.alloc (Obj.cells #[.int .i64 ti, .int .i64 to_, .slice KA ks.length kc] 90)).cell? ⟨w.heap.size + 1, 3, none⟩ = some (x.on.val) := hBa.keep hx3
     have ia0 := hBa.keep i0
     have ia1 := hBa.keep i1
     have ia2 := hBa.keep i2
     have ia3 := hBa.keep i3
     have t0 : (w5.alloc (Obj.cells #[.int .i64 ti, .int .i64 to_, .slice KA ks.length kc] 90)).cell? ⟨w5.heap.size, 0, none⟩ = some (.int .i64 ti) := by simp [go_sem]
     have t1 : (w5.alloc (Obj.cells #[.int .i64 ti, .int .i64 to_, .slice KA ks.length kc] 90)).cell? ⟨w5.heap.size, 1, none⟩ = some (.int .i64 to_) := by simp [go_sem]
     go_wp2_with fail
     refine (T33a.out _ hB5a).mono ?_
     rintro e w6 ⟨rfl, hw6⟩
     have kn0 : w6.cell? ⟨w.heap.size, 0, none⟩ = some (.slice A xs.length c) := hw6.keep jn0
     have kn1 : w6.cell? ⟨w.heap.size, 1, none⟩ = some (.slice A2 ls.length c2) := hw6.keep jn1
     have kx0 : w6.cell? ⟨w.heap.size + 1, 0, none⟩ = some (x.vol.val) := hw6.keep jx0
     have kx1 : w6.cell? ⟨w.heap.size + 1, 1, none⟩ = some (x.pond.val) := hw6.keep jx1
     have kx2 : w6.cell? ⟨w.heap.size + 1, 2, none⟩ = some (x.set.val) := hw6.keep jx2
     have kx3 : w6.cell? ⟨w.heap.size + 1, 3, none⟩ = some (x.on.val) := hw6.keep jx3
     have ib0 := hw6.keep ia0
     have ib1 := hw6.keep ia1
     have ib2 := hw6.keep ia2
     have ib3 := hw6.keep ia3
     have t60 := hw6.keep t0
     have t61 := hw6.keep t1
     have hB6 : Bl w3 w6 := hB5a.trans hw6
     have z6 : w5.heap.size < w6.heap.size := by have := hw6.size; simp at this; omega
     clear hw6 hBa hB5a t0 t1 i0 i1 i2 i3 ia0 ia1 ia2 ia3 hB5 T33a
     clear hn0 hn1 hx0 hx1 hx2 hx3
     clear jn0 jn1 jx0 jx1 jx2 jx3
     go_wp2_with fail
     refine (T33b.out _ hB6).mono ?_
     rintro e w7 ⟨rfl, hw7⟩
     have t70 := hw7.keep t60
     have t71 := hw7.keep t61
     have hB7 : Bl w3 w7 := hB6.trans hw7
     have z7 : w5.heap.size < w7.heap.size := by have := hw7.size; omega
     clear hw7 t60 t61 ib0 ib1 ib2 ib3 hB6 T33b z6
     clear kn0 kn1 kx0 kx1 kx2 kx3
     have hmm := @run_makeMap Tryz.prog
     have hgx3 : gx.length ≤ 1000 := by have := hglh.out; omega
     have hB78 : Bl w7 (w7.alloc (Obj.map #[] 0)) := bz
     have M8 := HD (MapAt.made' KI w7 (b := w7.heap.size) rfl)
     go_wp2_with fail
     go_loopg [52, 53, 54, 350] gx.length (fun gg s52 s53 s54 s350 wr => ∃ (kk : Nat) (f : Int -> Option Value), kk ≤ gx.length /\ gx.length - kk ≤ gg /\ s52 = .int .i64 (cameT gx kk) /\ s53 = .int .i64 (leftT gx kk) /\ s54 = .bool (floodB ls.length gx kk) /\ s350 = .int .i64 kk /\ Aside (Bl w7 wr) /\ Aside (MapAt KI wr w7.heap.size f) /\ Aside (∀ i, i < ls.length -> (f (i : Int)).getD (.int .i64 0) = .int .i64 (passT gx i kk)))
     case atStart => exact ⟨0, fun _ => none, Nat.zero_le _, by omega, rfl, rfl, by rw [flood_zero], rfl, hB78, M8.out, aside (fun i _ => rfl)⟩
     case round => as_aux_lemma =>
      clear hB78 M8
      obtain ⟨kk, f, hkk, hg, rfl, rfl, rfl, rfl, BW, MM, FF⟩ := hrel
      have BW' := BW.out
      by_cases hlt : kk < gx.length
      ·have hltz : (kk : Int) < (gx.length : Int) := by omega
       have hkz : (0 : Int) ≤ (kk : Int) := by omega
       obtain ⟨bG, offG, hGA, _, _, _⟩ := hG3.out.place (by intro e; simp only at e; rw [e] at hlt; simp at hlt)
       simp only at hGA
       subst hGA
       have hcG := Sl.Ok.cells hG3.out rfl wr (hB7.trans BW') kk hlt
       simp only at hcG
       have hlt2 : kk < sx.length := by have := hglh.out; omega
       have hsk := hroh.out.2 kk hlt2
       rw [show gx.getD kk gz = gx[kk] from by rw [List.getD_eq_getElem?_getD, List.getElem?_eq_getElem hlt]; rfl] at hsk
       have hC1 := HD (show cameT gx (kk + 1) = cameT gx kk + gx[kk].inn from by show cameT gx kk + (gx.getD kk gz).inn = _; rw [List.getD_eq_getElem?_getD, List.getElem?_eq_getElem hlt]; rfl)
       have hL1 := HD (show leftT gx (kk + 1) = leftT gx kk + gx[kk].out from by show leftT gx kk + (gx.getD kk gz).out = _; rw [List.getD_eq_getElem?_getD, List.getElem?_eq_getElem hlt]; rfl)
       have hP1 : Hid (∀ i, passT gx i (kk + 1) = passT gx i kk + gx[kk].pass.xs[i]!) := fun i => by show passT gx i kk + (gx.getD kk gz).pass.xs[i]! = _; rw [List.getD_eq_getElem?_getD, List.getElem?_eq_getElem hlt]; rfl
       have hPL := HD hsk.pl
       have hPb : Hid (∀ i, i < ls.length -> 0 ≤ passT gx i kk /\ passT gx i kk ≤ 9007199254740992000 /\ 0 ≤ passT gx i (kk + 1) /\ passT gx i (kk + 1) ≤ 9007199254740992000) := fun i hi => by
        have a := pass_bound hroh.out (i := i) (k := kk) (by omega) hi
        have b := pass_bound hroh.out (i := i) (k := kk + 1) (by omega) hi
        omega
       have hb0 := hbig.out kk (by omega)
       have hb1 := hbig.out (kk + 1) (by omega)
       have hfin := HD (flB_all hroh.out hokh.out hlt2)
       have hgin := HD (hG3.out.each gx[kk] (List.getElem_mem _))
       simp only at hPL hfin
       rw [hC1.out, hL1.out] at hb1
       clear hsk
       generalize gx[kk] = y at hcG hC1 hL1 hP1 hPL hb1 hgin
       obtain ⟨yi, yo, ⟨KA, kc, ks⟩⟩ := y
       simp only at hC1 hL1 hP1 hPL hb1
       obtain ⟨b0, hb0e⟩ : ∃ b, b = floodB ls.length gx kk := ⟨_, rfl⟩
       rw [<- hb0e] at hfin ⊢
       have hfl0 : Hid (flB gx b0 kk 0 = (b0 || decide (1152921504606846976 < cameT gx kk + yi) || decide (1152921504606846976 < leftT gx kk + yo))) := by
        show flB gx b0 kk 0 = _
        unfold flB
        rw [hC1.out, hL1.out]
        simp
       clear hb0e
       generalize cameT gx kk = ca at *
       generalize leftT gx kk = le at *
       have e0 : wr.cell? ⟨bG, offG + kk * 3, none⟩ = some (.int .i64 yi) := hcG 0 _ rfl
       have e1 : wr.cell? ⟨bG, offG + kk * 3 + 1, none⟩ = some (.int .i64 yo) := hcG 1 _ rfl
       have e2 : wr.cell? ⟨bG, offG + kk * 3 + 2, none⟩ = some (.slice KA ks.length kc) := hcG 2 _ rfl
       have g1 : IntKind.i64.wrap (ca + yi) = ca + yi := IntWalk.i64_in _ (by omega)
       have g2 : IntKind.i64.wrap (le + yo) = le + yo := IntWalk.i64_in _ (by omega)
       have hBa : Bl wr (wr.alloc (Obj.cells #[.int .i64 yi, .int .i64 yo, .slice KA ks.length kc] 90)) := bz
       have hB7a : Bl w7 (wr.alloc (Obj.cells #[.int .i64 yi, .int .i64 yo, .slice KA ks.length kc] 90)) := BW'.trans hBa
       have k0 : (wr.alloc (Obj.cells #[.int .i64 yi, .int .i64 yo, .slice KA ks.length kc] 90)).cell? ⟨wr.heap.size, 0, none⟩ = some (.int .i64 yi) := by simp [go_sem]
       have k1 : (wr.alloc (Obj.cells #[.int .i64 yi, .int .i64 yo, .slice KA ks.length kc] 90)).cell? ⟨wr.heap.size, 1, none⟩ = some (.int .i64 yo) := by simp [go_sem]
       have k2 : (wr.alloc (Obj.cells #[.int .i64 yi, .int .i64 yo, .slice KA ks.length kc] 90)).cell? ⟨wr.heap.size, 2, none⟩ = some (.slice KA ks.length kc) := by simp [go_sem]
       have MA := HD (MM.out.keep hBa)
       go_upto_region 67 with fail
       clear e0 e1 e2 hcG MM BW BW' hBa
       generalize (wr.alloc (Obj.cells #[.int .i64 yi, .int .i64 yo, .slice KA ks.length kc] 90)) = W4 at *
       generalize wr.heap.size = vb at *
       have p0 : ∀ z : Later W4, z.at'.cell? ⟨vb, 0, none⟩ = some (.int .i64 yi) := fun z => z.keep k0
       have p1 : ∀ z : Later W4, z.at'.cell? ⟨vb, 1, none⟩ = some (.int .i64 yo) := fun z => z.keep k1
       refine wp_region_later (by kernel_rfl) (by kernel_rfl) ?_
       repeat (go_big_quiet_step (fail))
       refine wpQuiet_nil ?_
       intro w9 hB9
       clear p0 p1
       have k29 := hB9.keep k2
       have hB79 : Bl w7 w9 := hB7a.trans hB9
       have M9 := HD (MA.out.keep hB9)
       clear k0 k1 k2 MA hB7a hB9 hb0
       go_upto_region 68 with fail
       go_cut [54] (fun s54 wx => s54 = .bool (flB gx b0 kk 0) /\ Aside (Bl w9 wx))
       case first =>
        cases b0
        case true =>
         go_wp2_with fail
         go_meet
         case rel => exact ⟨by rw [hfl0.out]; simp, Bl.refl _⟩
        case false =>
         by_cases h1 : 1152921504606846976 < ca + yi
         ·go_wp2_with fail
          go_meet
          case rel => exact ⟨by rw [hfl0.out]; simp [h1], Bl.refl _⟩
         ·by_cases h2 : 1152921504606846976 < le + yo
          ·go_wp2_with fail
           go_meet
           case rel => exact ⟨by rw [hfl0.out]; simp [h1, h2], Bl.refl _⟩
          ·go_wp2_with fail
           go_meet
           case rel => exact ⟨by rw [hfl0.out]; simp [h1, h2], Bl.refl _⟩
       case rest =>
        obtain ⟨rfl, hBc⟩ := hcut
        have hB7c : Bl w7 wc := hB79.trans hBc.out
        have Mc := HD (M9.out.keep hBc.out)
        have k2c := hBc.out.keep k29
        clear hBc k29 hB79 M9 hfl0
        have hkl : ks.length = ls.length := hPL.out
        go_wp2_with fail
        go_loopg [54, 374] ks.length (fun gg s54 s374 wr => ∃ (ii : Nat) (f : Int -> Option Value), ii ≤ ks.length /\ ks.length - ii ≤ gg /\ s54 = .bool (flB gx b0 kk ii) /\ s374 = .int .i64 ii /\ Aside (Bl w7 wr) /\ Aside (MapAt KI wr w7.heap.size f) /\ Aside (∀ j, j < ls.length -> (f (j : Int)).getD (.int .i64 0) = .int .i64 (if j < ii then passT gx j (kk + 1) else passT gx j kk)))
        case atStart => exact ⟨0, f, Nat.zero_le _, by omega, rfl, rfl, hB7c, Mc.out, aside (fun j hj => by rw [if_neg (by omega)]; exact FF.out j hj)⟩
        case round => as_aux_lemma =>
         clear hB7c Mc k2c FF
         obtain ⟨ii, f, hii, hgi, rfl, rfl, BI, MI, FI⟩ := hrel
         have BI' := BI.out
         by_cases hil : ii < ks.length
         ·have hiz : (ii : Int) < (ks.length : Int) := by omega
          have hi0 : (0 : Int) ≤ (ii : Int) := by omega
          obtain ⟨bK, oK, hKA, CK⟩ := Sl.InI_at (show InI w3 ⟨KA, kc, ks⟩ from hgin.out) (by omega)
          subst hKA
          have eK := CK wr (hB7.trans BI') ii hil
          have hp := hP1.out ii
          have hb := hPb.out ii (by omega)
          have hf0 := FI.out ii (by omega)
          rw [if_neg (by omega)] at hf0
          generalize ks[ii]! = pk at eK hp
          generalize hpo : passT gx ii kk = po at hp hb hf0
          rw [hp] at hb
          have g3 : IntKind.i64.wrap (po + pk) = po + pk := IntWalk.i64_in _ (by omega)
          have L1 : Sem.run Tryz.prog (Instr.lookup 97 (.map (some w7.heap.size)) (.int .i64 ii) false) wr = .ok (.int .i64 po) wr := by
           have := MI.out.lookup HU97.out HU3.out (zeroInt _) (ii : Int) false
           rw [hf0] at this
           exact this
          obtain ⟨w10, hrun, M10, hO⟩ := MI.out.store HU97.out HU3.out (ii : Int) (.int .i64 (po + pk))
          have hrun' : Sem.run Tryz.prog (Instr.mapUpdate 97 (.map (some w7.heap.size)) (.int .i64 ii) (.int .i64 (po + pk))) wr = .ok () w10 := hrun
          have L2 : Sem.run Tryz.prog (Instr.lookup 97 (.map (some w7.heap.size)) (.int .i64 ii) false) w10 = .ok (.int .i64 (po + pk)) w10 := by
           have := M10.lookup HU97.out HU3.out (zeroInt _) (ii : Int) false
           rw [upd_same] at this
           exact this
          have hB10 : Bl w7 w10 := Only.bl BI' hO (Nat.le_refl _)
          have hF10 : Hid (∀ j, j < ls.length -> ((upd f (ii : Int) (.int .i64 (po + pk))) (j : Int)).getD (.int .i64 0) = .int .i64 (if j < ii + 1 then passT gx j (kk + 1) else passT gx j kk)) := fun j hj => by
           by_cases hj2 : j = ii
           ·subst hj2
            rw [upd_same, if_pos (by omega), hp]
            rfl
           ·rw [upd_ne _ _ _ (by omega), FI.out j hj]
            by_cases hj3 : j < ii
            ·rw [if_pos hj3, if_pos (by omega)]
            ·rw [if_neg hj3, if_neg (by omega)]
          have M10h := HD M10
          have hst := HD (flB_step gx b0 kk ii)
          rw [hp] at hst
          clear hrun M10 hO MI FI CK hpo hf0 hp BI BI'
          generalize flB gx b0 kk ii = bb at *
          cases bb
          case true =>
           go_wp2_with fail
           go_roundg (ks.length - (ii + 1))
           case measure => omega
           case rel => exact ⟨ii + 1, _, by omega, by omega, by rw [hst.out]; simp, by go_num, hB10, M10h.out, hF10.out⟩
          case false =>
           by_cases h1 : 9007199254740992 < po + pk
           ·go_wp2_with fail
            go_roundg (ks.length - (ii + 1))
            case measure => omega
            case rel => exact ⟨ii + 1, _, by omega, by omega, by rw [hst.out]; simp [h1], by go_num, hB10, M10h.out, hF10.out⟩
           ·go_wp2_with fail
            go_roundg (ks.length - (ii + 1))
            case measure => omega
            case rel => exact ⟨ii + 1, _, by omega, by omega, by rw [hst.out]; simp [h1], by go_num, hB10, M10h.out, hF10.out⟩
         ·have hiz : ¬ (ii : Int) < (ks.length : Int) := by omega
          have hil2 : ii = ks.length := by omega
          subst hil2
          have hF11 : Hid (∀ i, i < ls.length -> (f (i : Int)).getD (.int .i64 0) = .int .i64 (passT gx i (kk + 1))) := fun i hi => by
           rw [FI.out i hi, if_pos (by omega)]
          rw [hkl, hfin.out]
          go_wp2_with fail
          go_roundg (gx.length - (kk + 1))
          case measure => omega
          case rel => exact ⟨kk + 1, f, by omega, by omega, by rw [hC1.out], by rw [hL1.out], rfl, by go_num, BI', MI.out, hF11.out⟩
      ·have hltz : ¬ (kk : Int) < (gx.length : Int) := by omega
       have hkl : kk = gx.length := by omega
       subst hkl
       have hlaw := hlawE.out
       rw [<- hglh.out] at hlaw
       have t0 := BW'.keep t70
       have t1 := BW'.keep t71
       have hBe : Bl w wr := hB3.trans (hB7.trans BW')
       obtain ⟨hqa, hqb⟩ := hq5.out
       have hqa : floodB ls.length gx gx.length = true -> q5 = 5 := hqa
       have hqb : floodB ls.length gx gx.length = false -> q5 = 0 /\ ti = cameT gx gx.length /\ to_ = leftT gx gx.length := hqb
       have hRe := hRh.out _ hBe
       clear BW MM FF BW' hg hkk hlt
       generalize cameT gx gx.length = ca at *
       generalize leftT gx gx.length = le at *
       have g1 : IntKind.i64.wrap (heldS yl + le) = heldS yl + le := IntWalk.i64_in _ (by omega)
       have g2 : IntKind.i64.wrap (heldS x + ca) = heldS x + ca := IntWalk.i64_in _ (by omega)
       have g3 : (heldS yl + le != heldS x + ca) = false := by rw [hlaw.2.2.2.2.1]; simp
       clear hlaw
       cases hfl : floodB ls.length gx gx.length
       case true =>
        have h5 := hqa hfl
        subst h5
        clear hqa hqb hfl
        go_wp2_with fail
        first | exact hRe | exact bodyPost_ret (v := .bool true) (by simp [results, Tryz.results15, go_sem, *]) rfl hRe
       case false =>
        obtain ⟨h5, h6, h7⟩ := hqb hfl
        subst h5
        subst h6
        subst h7
        clear hqa hqb hfl
        go_wp2_with fail
        first | exact hRe | exact bodyPost_ret (v := .bool true) (by simp [results, Tryz.results15, go_sem, *]) rfl hRe
end Go.Proofs.YtnnhnkpoekbahaaGreat
