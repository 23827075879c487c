/- TopSeason: part 15 of 16: Cls Top Awk0 Awk1 Awk2 Iter Awk3 Awk4 Awk5 Awk6 Awk7 Awk8 -/
import Derived.Test.YtnnhnkpoekbahaaGreatPart03
import Derived.Test.YtnnhnkpoekbahaaGreatPart13
import Derived.Test.YtnnhnkpoekbahaaGreatPart10
import Derived.Test.YtnnhnkpoekbahaaGreatPart01
import Derived.Shelf.SlIterI.Nil
import Derived.Shelf.SortM.Plain
import Derived.Shelf.SortM.SortNone
import Derived.Ground.GgzProg
import Derived.Ground.SlgmProg
import Derived.Test.YtnnhnkpoekbahaaGreatProg
import Derived.Maps.OwnSet
namespace Go.Proofs.YtnnhnkpoekbahaaGreat
open Go.RowKit
set_option maxHeartbeats 400000
set_option linter.unusedSimpArgs false
set_option linter.unusedVariables false
set_option maxRecDepth 100000
theorem e6 (args : Array Value) (w : World) : (callFunc 6 args).run Tryz.prog w = .ok (.enter 6 args) w := enters_of Tryz.func6 (by kernel_rfl) rfl args w
theorem f6_c (y : Nd) (w : World) : Calls Tryz.prog 6 #[y.val] w fun e w' => e = .returned (.bool (decide (100 < y.shape.xs.length))) /\ Bl w w' := by
 obtain ⟨a, b, c, d, f, g, ⟨A, cp, xs⟩, p, q⟩ := y
 show Calls Tryz.prog 6 #[.agg #[.string a, .int .i64 b, .int .i64 c, .int .i64 d, .int .i64 f, .int .i64 g, .slice A xs.length cp, .bool p, .int .i64 q]] w _
 by_cases h : 100 < xs.length
 ·have h1 : (100 : Int) < (xs.length : Int) := by omega
  go_enter Tryz.func6, Tryz.ntmps6
  go_wp2_with fail
  go_ret
  exact ⟨ret_bool (by simp [h]), bz⟩
 ·have h1 : ¬ (100 : Int) < (xs.length : Int) := by omega
  go_enter Tryz.func6, Tryz.ntmps6
  go_wp2_with fail
  go_ret
  exact ⟨ret_bool (by simp [h]), bz⟩
theorem e8 (args : Array Value) (w : World) : (callFunc 8 args).run Tryz.prog w = .ok (.enter 8 args) w := enters_of Tryz.func8 (by kernel_rfl) rfl args w
theorem f8_c (y : Lk) (w : World) : Calls Tryz.prog 8 #[y.val] w fun e w' => e = .returned (.bool (decide (100 < y.curve.xs.length))) /\ Bl w w' := by
 obtain ⟨a, b, c, d, f, g, i, j, k, l, ⟨A, cp, xs⟩⟩ := y
 show Calls Tryz.prog 8 #[.agg #[.string a, .string b, .string c, .int .i64 d, .int .i64 f, .int .i64 g, .int .i64 i, .string j, .int .i64 k, .int .i64 l, .slice A xs.length cp]] w _
 by_cases h : 100 < xs.length
 ·have h1 : (100 : Int) < (xs.length : Int) := by omega
  go_enter Tryz.func8, Tryz.ntmps8
  go_wp2_with fail
  go_ret
  exact ⟨ret_bool (by simp [h]), bz⟩
 ·have h1 : ¬ (100 : Int) < (xs.length : Int) := by omega
  go_enter Tryz.func8, Tryz.ntmps8
  go_wp2_with fail
  go_ret
  exact ⟨ret_bool (by simp [h]), bz⟩
theorem e10 (args : Array Value) (w : World) : (callFunc 10 args).run Tryz.prog w = .ok (.enter 10 args) w := enters_of Tryz.func10 (by kernel_rfl) rfl args w
theorem f10_c (y : Rul) (w : World) : Calls Tryz.prog 10 #[y.val] w fun e w' => e = .returned (.bool (decide (20 < y.cond.xs.length))) /\ Bl w w' := by
 obtain ⟨a, ⟨A, cp, xs⟩, c, d⟩ := y
 show Calls Tryz.prog 10 #[.agg #[.string a, .slice A xs.length cp, .string c, .int .i64 d]] w _
 by_cases h : 20 < xs.length
 ·have h1 : (20 : Int) < (xs.length : Int) := by omega
  go_enter Tryz.func10, Tryz.ntmps10
  go_wp2_with fail
  go_ret
  exact ⟨ret_bool (by simp [h]), bz⟩
 ·have h1 : ¬ (20 : Int) < (xs.length : Int) := by omega
  go_enter Tryz.func10, Tryz.ntmps10
  go_wp2_with fail
  go_ret
  exact ⟨ret_bool (by simp [h]), bz⟩
theorem e12 (args : Array Value) (w : World) : (callFunc 12 args).run Tryz.prog w = .ok (.enter 12 args) w := enters_of Tryz.func12 (by kernel_rfl) rfl args w
theorem f12_c (y : Infl) (w : World) : Calls Tryz.prog 12 #[y.val] w fun e w' => e = .returned (.bool (decide (1000 < y.vols.xs.length))) /\ Bl w w' := by
 obtain ⟨a, ⟨A, cp, xs⟩⟩ := y
 show Calls Tryz.prog 12 #[.agg #[.string a, .slice A xs.length cp]] w _
 by_cases h : 1000 < xs.length
 ·have h1 : (1000 : Int) < (xs.length : Int) := by omega
  go_enter Tryz.func12, Tryz.ntmps12
  go_wp2_with fail
  go_ret
  exact ⟨ret_bool (by simp [h]), bz⟩
 ·have h1 : ¬ (1000 : Int) < (xs.length : Int) := by omega
  go_enter Tryz.func12, Tryz.ntmps12
  go_wp2_with fail
  go_ret
  exact ⟨ret_bool (by simp [h]), bz⟩
theorem e14 (args : Array Value) (w : World) : (callFunc 14 args).run Tryz.prog w = .ok (.enter 14 args) w := enters_of Tryz.func14 (by kernel_rfl) rfl args w
theorem f14_c (y : Sec) (w : World) : Calls Tryz.prog 14 #[y.val] w fun e w' => e = .returned (.bool (decide (100 < y.area.xs.length) || decide (100 < y.conv.xs.length))) /\ Bl w w' := by
 obtain ⟨a, b, c, ⟨A, cp, xs⟩, ⟨A2, cp2, ys⟩⟩ := y
 show Calls Tryz.prog 14 #[.agg #[.string a, .int .i64 b, .int .i64 c, .slice A xs.length cp, .slice A2 ys.length cp2]] w _
 by_cases h : 100 < xs.length
 ·have h1 : (100 : Int) < (xs.length : Int) := by omega
  go_enter Tryz.func14, Tryz.ntmps14
  go_wp2_with fail
  go_ret
  exact ⟨ret_bool (by simp [h]), bz⟩
 ·have h1 : ¬ (100 : Int) < (xs.length : Int) := by omega
  by_cases h2 : 100 < ys.length
  ·have h3 : (100 : Int) < (ys.length : Int) := by omega
   go_enter Tryz.func14, Tryz.ntmps14
   go_wp2_with fail
   go_ret
   exact ⟨ret_bool (by simp [h, h2]), bz⟩
  ·have h3 : ¬ (100 : Int) < (ys.length : Int) := by omega
   go_enter Tryz.func14, Tryz.ntmps14
   go_wp2_with fail
   go_ret
   exact ⟨ret_bool (by simp [h, h2]), bz⟩
theorem f15_c (n : Net) (l : Sl Sec) (rl : Sl Rul) (x : St) (fs : Sl Infl) (sec st set : Int) (w : World) (hN : InNet w n) (hl : InSecs w l) (hr : InRuls w rl) (ht : InSt w x) (hF : InInfls w fs) (h1000 : st ≤ 1000) (h8000 : 0 ≤ st -> st.toNat * (n.nodes.xs.length + n.links.xs.length) ≤ 8000) (hset : 0 ≤ set /\ set ≤ 65535) (h80 : n.nodes.xs.length ≤ 80) :
 Calls Tryz.prog 15 #[n.val, l.val, rl.val, x.val, fs.val, .int .i64 sec, .int .i64 st, .int .u16 set] w fun e w' => e = .returned (.bool true) /\ Bl w w' := by
 obtain ⟨⟨A, c, xs⟩, ⟨A2, c2, ls⟩⟩ := n
 obtain ⟨FA, fc, fs⟩ := fs
 exact f15_core A A2 FA c c2 fc xs ls fs l rl x sec st set w hN hl hr ht hF h1000 h8000 hset h80
set_option maxHeartbeats 8000000 in
theorem f3_of (T4 : ∀ W, Calls Tryz.prog 4 #[] W fun e w' => e = .returned (.bool true) /\ Bl W w') (n : Net) (l : Sl Sec) (rl : Sl Rul) (x : St) (fs : Sl Infl) (sec st set : Int) (w : World) (hN : InNet w n) (hl : InSecs w l) (hr : InRuls w rl) (ht : InSt w x) (hF : InInfls w fs) (hset : 0 ≤ set /\ set ≤ 65535) :
 Calls Tryz.prog 3 #[n.val, l.val, rl.val, x.val, fs.val, .int .i64 sec, .int .i64 st, .int .u16 set] w fun e w' => e = .returned (.bool true) /\ Bl w w' := by
 have T4h := HD T4
 have T5 := HD (fun W (hb : Bl w W) => f5_c n.nodes W.heap.size 6 #[] (fun y => decide (100 < y.shape.xs.length)) W (InNet.up hN hb).nodes (fun W' y _ hb' => f6_c y W') e6)
 have T7 := HD (fun W (hb : Bl w W) => f7_c n.links W.heap.size 8 #[] (fun y => decide (100 < y.curve.xs.length)) W (InNet.up hN hb).links (fun W' y _ hb' => f8_c y W') e8)
 have T9 := HD (fun W (hb : Bl w W) => f9_c rl W.heap.size 10 #[] (fun y => decide (20 < y.cond.xs.length)) W (InRuls.up hr hb) (fun W' y _ hb' => f10_c y W') e10)
 have T11 := HD (fun W (hb : Bl w W) => f11_c fs W.heap.size 12 #[] (fun y => decide (1000 < y.vols.xs.length)) W (InInfls.up hF hb) (fun W' y _ hb' => f12_c y W') e12)
 have T13 := HD (fun W (hb : Bl w W) => f13_c l W.heap.size 14 #[] (fun y => decide (100 < y.area.xs.length) || decide (100 < y.conv.xs.length)) W (InSecs.up hl hb) (fun W' y _ hb' => f14_c y W') e14)
 have T15 := HD (fun W (hb : Bl w W) h1 h2 h3 => f15_c n l rl x fs sec st set W (InNet.up hN hb) (InSecs.up hl hb) (InRuls.up hr hb) (InSt.up ht hb) (InInfls.up hF hb) h1 h2 hset h3)
 clear hN hl hr ht hF T4
 obtain ⟨⟨A, c, xs⟩, ⟨A2, c2, ls⟩⟩ := n
 obtain ⟨LA, lc, cs⟩ := l
 obtain ⟨RA, rc, rs⟩ := rl
 obtain ⟨FA, fc, fs⟩ := fs
 simp only at T5 T7 T9 T11 T13 T15
 generalize xs.any (fun y => decide (100 < y.shape.xs.length)) = b5 at T5
 generalize ls.any (fun y => decide (100 < y.curve.xs.length)) = b7 at T7
 generalize rs.any (fun y => decide (20 < y.cond.xs.length)) = b9 at T9
 generalize fs.any (fun y => decide (1000 < y.vols.xs.length)) = b11 at T11
 generalize cs.any (fun y => decide (100 < y.area.xs.length) || decide (100 < y.conv.xs.length)) = b13 at T13
 show Calls Tryz.prog 3 #[.agg #[.slice A xs.length c, .slice A2 ls.length c2], .slice LA cs.length lc, .slice RA rs.length rc, .agg #[x.vol.val, x.pond.val, x.set.val, x.on.val], .slice FA fs.length fc, .int .i64 sec, .int .i64 st, .int .u16 set] w _
 obtain ⟨R, hR⟩ : ∃ R : Ending -> World -> Prop, R = fun e w' => e = .returned (.bool true) /\ Bl w w' := ⟨_, rfl⟩
 rw [<- hR]
 have hRh : Hid (∀ W, Bl w W -> R (.returned (.bool true)) W) := fun W hW => by rw [hR]; exact ⟨rfl, hW⟩
 clear hR
 go_enter Tryz.func3, Tryz.ntmps3
 go_wp2_with fail
 refine (T4h.out _).mono ?_
 rintro e w1 ⟨rfl, hw1⟩
 have an0 : w1.cell? ⟨w.heap.size, 0, none⟩ = some (.slice A xs.length c) := hw1.keep (by simp [go_sem])
 have an1 : w1.cell? ⟨w.heap.size, 1, none⟩ = some (.slice A2 ls.length c2) := hw1.keep (by simp [go_sem])
 have ax0 : w1.cell? ⟨w.heap.size + 1, 0, none⟩ = some (x.vol.val) := hw1.keep (by simp [go_sem])
 have ax1 : w1.cell? ⟨w.heap.size + 1, 1, none⟩ = some (x.pond.val) := hw1.keep (by simp [go_sem])
 have ax2 : w1.cell? ⟨w.heap.size + 1, 2, none⟩ = some (x.set.val) := hw1.keep (by simp [go_sem])
 have ax3 : w1.cell? ⟨w.heap.size + 1, 3, none⟩ = some (x.on.val) := hw1.keep (by simp [go_sem])
 have hB1 : Bl w w1 := bz
 clear hw1
 by_cases hc0 : (80 : Int) < (xs.length : Int)
 case pos =>
  go_wp2_with fail
  first | exact hRh.out _ hB1 | exact bodyPost_ret (v := .bool true) (by simp [results, Tryz.results3, go_sem, *]) rfl (hRh.out _ hB1)
 by_cases hc1 : (80 : Int) < (ls.length : Int)
 case pos =>
  go_wp2_with fail
  first | exact hRh.out _ hB1 | exact bodyPost_ret (v := .bool true) (by simp [results, Tryz.results3, go_sem, *]) rfl (hRh.out _ hB1)
 by_cases hc2 : (40 : Int) < (cs.length : Int)
 case pos =>
  go_wp2_with fail
  first | exact hRh.out _ hB1 | exact bodyPost_ret (v := .bool true) (by simp [results, Tryz.results3, go_sem, *]) rfl (hRh.out _ hB1)
 by_cases hc3 : (60 : Int) < (rs.length : Int)
 case pos =>
  go_wp2_with fail
  first | exact hRh.out _ hB1 | exact bodyPost_ret (v := .bool true) (by simp [results, Tryz.results3, go_sem, *]) rfl (hRh.out _ hB1)
 by_cases hc4 : (80 : Int) < (fs.length : Int)
 case pos =>
  go_wp2_with fail
  first | exact hRh.out _ hB1 | exact bodyPost_ret (v := .bool true) (by simp [results, Tryz.results3, go_sem, *]) rfl (hRh.out _ hB1)
 by_cases hc5 : (1000 : Int) < st
 case pos =>
  go_wp2_with fail
  first | exact hRh.out _ hB1 | exact bodyPost_ret (v := .bool true) (by simp [results, Tryz.results3, go_sem, *]) rfl (hRh.out _ hB1)
 have gs : IntKind.i64.wrap ((ls.length : Int) + (xs.length : Int)) = (ls.length : Int) + (xs.length : Int) := IntWalk.i64_in _ (by omega)
 obtain ⟨pr, hpr⟩ : ∃ p, p = IntKind.i64.wrap (st * ((ls.length : Int) + (xs.length : Int))) := ⟨_, rfl⟩
 have hpx : Hid (pr = IntKind.i64.wrap (st * ((ls.length : Int) + (xs.length : Int)))) := hpr
 have hpe : IntKind.i64.wrap (st * ((ls.length : Int) + (xs.length : Int))) = pr := hpr.symm
 clear hpr
 by_cases hc6 : (8000 : Int) < pr
 case pos =>
  go_wp2_with fail
  first | exact hRh.out _ hB1 | exact bodyPost_ret (v := .bool true) (by simp [results, Tryz.results3, go_sem, *]) rfl (hRh.out _ hB1)
 go_wp2_with fail
 refine (T5.out _ hB1).mono ?_
 rintro e w2 ⟨rfl, hw2⟩
 have bn0 : w2.cell? ⟨w.heap.size, 0, none⟩ = some (.slice A xs.length c) := hw2.keep an0
 have bn1 : w2.cell? ⟨w.heap.size, 1, none⟩ = some (.slice A2 ls.length c2) := hw2.keep an1
 have bx0 : w2.cell? ⟨w.heap.size + 1, 0, none⟩ = some (x.vol.val) := hw2.keep ax0
 have bx1 : w2.cell? ⟨w.heap.size + 1, 1, none⟩ = some (x.pond.val) := hw2.keep ax1
 have bx2 : w2.cell? ⟨w.heap.size + 1, 2, none⟩ = some (x.set.val) := hw2.keep ax2
 have bx3 : w2.cell? ⟨w.heap.size + 1, 3, none⟩ = some (x.on.val) := hw2.keep ax3
 have hB2 : Bl w w2 := hB1.trans hw2
 clear hw2 T5
 clear an0 an1 ax0 ax1 ax2 ax3
 cases b5
 case true =>
  go_wp2_with fail
  first | exact hRh.out _ hB2 | exact bodyPost_ret (v := .bool true) (by simp [results, Tryz.results3, go_sem, *]) rfl (hRh.out _ hB2)
 go_wp2_with fail
 refine (T7.out _ hB2).mono ?_
 rintro e w3 ⟨rfl, hw3⟩
 have cn0 : w3.cell? ⟨w.heap.size, 0, none⟩ = some (.slice A xs.length c) := hw3.keep bn0
 have cn1 : w3.cell? ⟨w.heap.size, 1, none⟩ = some (.slice A2 ls.length c2) := hw3.keep bn1
 have cx0 : w3.cell? ⟨w.heap.size + 1, 0, none⟩ = some (x.vol.val) := hw3.keep bx0
 have cx1 : w3.cell? ⟨w.heap.size + 1, 1, none⟩ = some (x.pond.val) := hw3.keep bx1
 have cx2 : w3.cell? ⟨w.heap.size + 1, 2, none⟩ = some (x.set.val) := hw3.keep bx2
 have cx3 : w3.cell? ⟨w.heap.size + 1, 3, none⟩ = some (x.on.val) := hw3.keep bx3
 have hB3 : Bl w w3 := hB2.trans hw3
 clear hw3 T7
 clear bn0 bn1 bx0 bx1 bx2 bx3
 cases b7
 case true =>
  go_wp2_with fail
  first | exact hRh.out _ hB3 | exact bodyPost_ret (v := .bool true) (by simp [results, Tryz.results3, go_sem, *]) rfl (hRh.out _ hB3)
 go_wp2_with fail
 refine (T9.out _ hB3).mono ?_
 rintro e w4 ⟨rfl, hw4⟩
 have dn0 : w4.cell? ⟨w.heap.size, 0, none⟩ = some (.slice A xs.length c) := hw4.keep cn0
 have dn1 : w4.cell? ⟨w.heap.size, 1, none⟩ = some (.slice A2 ls.length c2) := hw4.keep cn1
 have dx0 : w4.cell? ⟨w.heap.size + 1, 0, none⟩ = some (x.vol.val) := hw4.keep cx0
 have dx1 : w4.cell? ⟨w.heap.size + 1, 1, none⟩ = some (x.pond.val) := hw4.keep cx1
 have dx2 : w4.cell? ⟨w.heap.size + 1, 2, none⟩ = some (x.set.val) := hw4.keep cx2
 have dx3 : w4.cell? ⟨w.heap.size + 1, 3, none⟩ = some (x.on.val) := hw4.keep cx3
 have hB4 : Bl w w4 := hB3.trans hw4
 clear hw4 T9
 clear cn0 cn1 cx0 cx1 cx2 cx3
 cases b9
 case true =>
  go_wp2_with fail
  first | exact hRh.out _ hB4 | exact bodyPost_ret (v := .bool true) (by simp [results, Tryz.results3, go_sem, *]) rfl (hRh.out _ hB4)
 go_wp2_with fail
 refine (T11.out _ hB4).mono ?_
 rintro e w5 ⟨rfl, hw5⟩
 have en0 : w5.cell? ⟨w.heap.size, 0, none⟩ = some (.slice A xs.length c) := hw5.keep dn0
 have en1 : w5.cell? ⟨w.heap.size, 1, none⟩ = some (.slice A2 ls.length c2) := hw5.keep dn1
 have ex0 : w5.cell? ⟨w.heap.size + 1, 0, none⟩ = some (x.vol.val) := hw5.keep dx0
 have ex1 : w5.cell? ⟨w.heap.size + 1, 1, none⟩ = some (x.pond.val) := hw5.keep dx1
 have ex2 : w5.cell? ⟨w.heap.size + 1, 2, none⟩ = some (x.set.val) := hw5.keep dx2
 have ex3 : w5.cell? ⟨w.heap.size + 1, 3, none⟩ = some (x.on.val) := hw5.keep dx3
 have hB5 : Bl w w5 := hB4.trans hw5
 clear hw5 T11
 clear dn0 dn1 dx0 dx1 dx2 dx3
 cases b11
 case true =>
  go_wp2_with fail
  first | exact hRh.out _ hB5 | exact bodyPost_ret (v := .bool true) (by simp [results, Tryz.results3, go_sem, *]) rfl (hRh.out _ hB5)
 go_wp2_with fail
 refine (T13.out _ hB5).mono ?_
 rintro e w6 ⟨rfl, hw6⟩
 have fn0 : w6.cell? ⟨w.heap.size, 0, none⟩ = some (.slice A xs.length c) := hw6.keep en0
 have fn1 : w6.cell? ⟨w.heap.size, 1, none⟩ = some (.slice A2 ls.length c2) := hw6.keep en1
 have fx0 : w6.cell? ⟨w.heap.size + 1, 0, none⟩ = some (x.vol.val) := hw6.keep ex0
 have fx1 : w6.cell? ⟨w.heap.size + 1, 1, none⟩ = some (x.pond.val) := hw6.keep ex1
 have fx2 : w6.cell? ⟨w.heap.size + 1, 2, none⟩ = some (x.set.val) := hw6.keep ex2
 have fx3 : w6.cell? ⟨w.heap.size + 1, 3, none⟩ = some (x.on.val) := hw6.keep ex3
 have hB6 : Bl w w6 := hB5.trans hw6
 clear hw6 T13
 clear en0 en1 ex0 ex1 ex2 ex3
 cases b13
 case true =>
  go_wp2_with fail
  first | exact hRh.out _ hB6 | exact bodyPost_ret (v := .bool true) (by simp [results, Tryz.results3, go_sem, *]) rfl (hRh.out _ hB6)
 go_wp2_with fail
 refine (T15.out _ hB6 (by omega) (fun h0 => ?_) (by omega)).mono ?_
 ·have h1 := hpx.out
  have h2 : 0 ≤ st * ((ls.length : Int) + (xs.length : Int)) := Int.mul_nonneg h0 (by omega)
  have h3 : st * ((ls.length : Int) + (xs.length : Int)) ≤ 1000 * 160 := Int.mul_le_mul (by omega) (by omega) (by omega) (by omega)
  rw [IntWalk.i64_in _ (by omega)] at h1
  have h4 : ((st.toNat * (xs.length + ls.length) : Nat) : Int) = st * ((ls.length : Int) + (xs.length : Int)) := by
   rw [Int.natCast_mul, Int.natCast_add, Int.toNat_of_nonneg h0, Int.add_comm (ls.length : Int)]
  omega
 ·rintro e w7 ⟨rfl, hw7⟩
  go_wp2_with fail
  first | exact hRh.out _ (hB6.trans hw7) | exact bodyPost_ret (v := .bool true) (by simp [results, Tryz.results3, go_sem, *]) rfl (hRh.out _ (hB6.trans hw7))
def net0 : Net := ⟨⟨none, 0, []⟩, ⟨none, 0, []⟩⟩
def st0 : St := ⟨⟨none, 0, []⟩, ⟨none, 0, []⟩, ⟨none, 0, []⟩, ⟨none, 0, []⟩⟩
theorem net0_ok : netB net0 = true := (netB_iff net0).mpr ⟨by simp [net0], by simp [net0], fun i hi => absurd hi (by simp [net0]), fun i hi => absurd hi (by simp [net0])⟩
theorem st0_ok : StateOk net0 st0 := ⟨net0_ok, rfl, rfl, rfl, rfl, fun k h => absurd h (by simp [net0]), fun k h => absurd h (by simp [net0])⟩
theorem net0_in (w : World) : InNet w net0 := ⟨⟨by simp [net0], by simp [net0], fun h => absurd rfl h, fun x hx => by simp [net0] at hx⟩, ⟨by simp [net0], by simp [net0], fun h => absurd rfl h, fun x hx => by simp [net0] at hx⟩⟩
theorem st0_in (w : World) : InSt w st0 := ⟨InI_nil w, InI_nil w, InI_nil w, InB_nil w⟩
theorem ok_nil {α : Type} {enc : α -> List Value} {k : Nat} {good : Nat -> World -> α -> Prop} {B : Nat} {w : World} : (⟨none, 0, []⟩ : Sl α).Ok enc k good B w := ⟨by simp, by simp, fun h => absurd rfl h, fun x hx => by simp at hx⟩
set_option maxHeartbeats 2000000 in
theorem f19_awake (w : World) : Calls Tryz.prog 19 #[.agg #[.slice none 0 0, .slice none 0 0], .slice none 0 0, .slice none 0 0, .agg #[.slice none 0 0, .slice none 0 0, .slice none 0 0, .slice none 0 0], .slice none 0 0, .int .i64 60, .int .i64 0] w fun e w' => e = .returned (.tuple #[.slice none 0 0, .slice none 0 0, .int .i64 0]) /\ Bl w w' := by
 have T48 := HD (fun W => f48_c ⟨none, 0, []⟩ W ok_nil)
 have T49 := HD (fun W => f49_c ⟨none, 0, []⟩ W ok_nil)
 have T50 := HD (fun W => f50_c net0 st0 W (net0_in W) (st0_in W))
 rw [(stateB_iff net0 st0).mpr st0_ok] at T50
 have T51 := HD (fun W => f51_c net0 ⟨none, 0, []⟩ W (net0_in W) ok_nil net0_ok)
 obtain ⟨R, hR⟩ : ∃ R : Ending -> World -> Prop, R = fun e w' => e = .returned (.tuple #[.slice none 0 0, .slice none 0 0, .int .i64 0]) /\ Bl w w' := ⟨_, rfl⟩
 rw [<- hR]
 have hRh : Hid (∀ W, Bl w W -> R (.returned (.tuple #[.slice none 0 0, .slice none 0 0, .int .i64 0])) W) := fun W hW => by rw [hR]; exact ⟨rfl, hW⟩
 clear hR
 go_enter Tryz.func19, Tryz.ntmps19
 go_wp2_with fail
 refine (T48.out _).mono ?_
 rintro e w1 ⟨b0, h0, -, rfl, hw1⟩
 obtain rfl : b0 = true := h0 rfl
 clear h0
 go_wp2_with fail
 refine (T49.out _).mono ?_
 rintro e w2 ⟨b1, h1, -, rfl, hw2⟩
 obtain rfl : b1 = true := h1 rfl
 clear h1
 have hB1 : Bl w w1 := bz
 have hB2 : Bl w w2 := hB1.trans hw2
 have a00 : w2.cell? ⟨w.heap.size, 0, none⟩ = some (.slice none 0 0) := hw2.keep (hw1.keep (by simp [go_sem]))
 have a01 : w2.cell? ⟨w.heap.size, 1, none⟩ = some (.slice none 0 0) := hw2.keep (hw1.keep (by simp [go_sem]))
 have a10 : w2.cell? ⟨w.heap.size + 1, 0, none⟩ = some (.slice none 0 0) := hw2.keep (hw1.keep (by simp [go_sem]))
 have a11 : w2.cell? ⟨w.heap.size + 1, 1, none⟩ = some (.slice none 0 0) := hw2.keep (hw1.keep (by simp [go_sem]))
 have a12 : w2.cell? ⟨w.heap.size + 1, 2, none⟩ = some (.slice none 0 0) := hw2.keep (hw1.keep (by simp [go_sem]))
 have a13 : w2.cell? ⟨w.heap.size + 1, 3, none⟩ = some (.slice none 0 0) := hw2.keep (hw1.keep (by simp [go_sem]))
 clear hw1 hw2 hB1
 go_wp2_with fail
 refine (T50.out _).mono ?_
 rintro e w3 ⟨rfl, hw3⟩
 have hB3 : Bl w w3 := hB2.trans hw3
 have b00 := hw3.keep a00
 have b01 := hw3.keep a01
 clear hw3 hB2 a00 a01 a10 a11 a12 a13
 go_wp2_with fail
 refine (T51.out _).mono ?_
 rintro e w4 ⟨q, rfl, -, hq, hw4⟩
 obtain rfl : q = 0 := hq rfl
 have hB4 : Bl w w4 := hB3.trans hw4
 clear hq hw4 hB3 b00 b01
 go_wp2_with fail
 refine wp_loop_rounds 1 ?_
 rw [rounds_succ]
 go_wp2_with fail
 first | exact hRh.out _ hB4 | exact bodyPost_ret (v := .tuple #[.slice none 0 0, .slice none 0 0, .int .i64 0]) (by simp [results, Tryz.results19, go_sem, *]) rfl (hRh.out _ hB4)
theorem f20_1 (a o a2 o2 c c2 : Nat) (v : Int) (w : World) (h1 : w.cell? ⟨a, o, none⟩ = some (.int .i64 v)) (h2 : w.cell? ⟨a2, o2, none⟩ = some (.int .i64 v)) : Calls Tryz.prog 20 #[.slice (some ⟨a, o, none⟩) 1 c, .slice (some ⟨a2, o2, none⟩) 1 c2] w fun e w' => e = .returned (.bool true) /\ Bl w w' := by
 go_enter Tryz.func20, Tryz.ntmps20
 go_wp2_with fail
 refine wp_loop_rounds 2 ?_
 rw [rounds_succ]
 go_wp2_with fail
 have p1 : ∀ z : Later w, z.at'.cell? ⟨a, o, none⟩ = some (.int .i64 v) := fun z => z.keep h1
 have p2 : ∀ z : Later w, z.at'.cell? ⟨a2, o2, none⟩ = some (.int .i64 v) := fun z => z.keep h2
 refine wp_region_later (by kernel_rfl) (by kernel_rfl) ?_
 repeat (go_big_quiet_step (fail))
 refine wpQuiet_nil ?_
 intro w3 hB3
 go_wp2_with fail
 rw [rounds_succ]
 go_wp2_with fail
 go_ret
 exact ⟨rfl, hB3⟩
theorem f21_1 (a o a2 o2 c c2 : Nat) (v : ByteArray) (w : World) (h1 : w.cell? ⟨a, o, none⟩ = some (.string v)) (h2 : w.cell? ⟨a2, o2, none⟩ = some (.string v)) : Calls Tryz.prog 21 #[.slice (some ⟨a, o, none⟩) 1 c, .slice (some ⟨a2, o2, none⟩) 1 c2] w fun e w' => e = .returned (.bool true) /\ Bl w w' := by
 go_enter Tryz.func21, Tryz.ntmps21
 go_wp2_with fail
 refine wp_loop_rounds 2 ?_
 rw [rounds_succ]
 go_wp2_with fail
 have p1 : ∀ z : Later w, z.at'.cell? ⟨a, o, none⟩ = some (.string v) := fun z => z.keep h1
 have p2 : ∀ z : Later w, z.at'.cell? ⟨a2, o2, none⟩ = some (.string v) := fun z => z.keep h2
 refine wp_region_later (by kernel_rfl) (by kernel_rfl) ?_
 repeat (go_big_quiet_step (fail))
 refine wpQuiet_nil ?_
 intro w3 hB3
 go_wp2_with fail
 rw [rounds_succ]
 go_wp2_with fail
 go_ret
 exact ⟨rfl, hB3⟩
theorem f45_c (v : Int) (w : World) (h1 : 33 ≤ v) (h2 : v ≤ 126) : Calls Tryz.prog 45 #[.int .u8 v] w fun e w' => e = .returned (.bool false) /\ Bl w w' := by
 have n1 : ¬ v < 33 := by omega
 have n2 : ¬ 126 < v := by omega
 go_enter Tryz.func45, Tryz.ntmps45
 go_wp2_with fail
 go_ret
 exact ⟨rfl, bz⟩
theorem f71_1 (b o c : Nat) (v : Int) (w : World) (hc : w.cell? ⟨b, o, none⟩ = some (.int .u8 v)) (h1 : 33 ≤ v) (h2 : v ≤ 126) : Calls Tryz.prog 71 #[.slice (some ⟨b, o, none⟩) 1 c, .func (.func 45) #[] #[]] w fun e w' => e = .returned (.int .i64 (-1)) /\ Bl w w' := by
 go_enter Tryz.func71, Tryz.ntmps71
 go_wp2_with fail
 refine wp_loop_rounds 2 ?_
 rw [rounds_succ]
 go_wp2_with (go_at_call 45; refine (f45_c v _ h1 h2).mono ?_; rintro e w1 ⟨rfl, hw1⟩)
 rw [rounds_succ]
 go_wp2_with fail
 go_ret
 exact ⟨rfl, hw1⟩
theorem f44_1 (b o c : Nat) (v : Int) (w : World) (hc : w.cell? ⟨b, o, none⟩ = some (.int .u8 v)) (h1 : 33 ≤ v) (h2 : v ≤ 126) : Calls Tryz.prog 44 #[.slice (some ⟨b, o, none⟩) 1 c, .func (.func 45) #[] #[]] w fun e w' => e = .returned (.bool false) /\ Bl w w' := by
 go_enter Tryz.func44, Tryz.ntmps44
 go_wp2_with fail
 refine (f71_1 b o c v w hc h1 h2).mono ?_
 rintro e w1 ⟨rfl, hw1⟩
 go_wp2_with fail
 go_ret
 exact ⟨rfl, hw1⟩
theorem f47_c (s : ByteArray) (q : Nat) (w : World) (hc : w.cell? ⟨q, 0, none⟩ = some (.int .i64 3)) (hs : s.size = 1) : Calls Tryz.prog 47 #[.string s, .pointer (some ⟨q, 0, none⟩)] w fun e w' => e = .returned (.bool false) /\ Bl w w' := by
 go_enter Tryz.func47, Tryz.ntmps47
 go_wp2_with fail
 go_ret
 exact ⟨ret_bool (by simp [hs]), bz⟩
theorem conv_one (b : UInt8) (W : World) : ∃ c W', (convert 9 118 (.string ⟨#[b]⟩)).run Tryz.prog W = .ok (.slice (some ⟨W.heap.size, 0, none⟩) 1 c) W' /\ W'.cell? ⟨W.heap.size, 0, none⟩ = some (.int .u8 b.toNat) /\ Bl W W' := by
 refine ⟨_, _, run_bytes_of_string (P := Tryz.prog) W 9 118 5 ⟨#[b]⟩ (by kernel_rfl) (by kernel_rfl) (by kernel_rfl), ?_, ?_⟩
 ·have hb : ∀ (C : Array Value) (m : Nat × Nat), (W.drew.alloc (.cells C 5 m)).heap[W.heap.size]? = some (.cells C 5 m) := fun C m => by
   show (W.heap.push (.cells C 5 m))[W.heap.size]? = _
   simp
  unfold World.cell?
  rw [hb]
  simp [bytesRow, Array.getElem?_append]
 ·exact bz
theorem app_one (x : ByteArray) (a : Addr) (c : Nat) (W : World) (h : W.cell? a = some (.string x)) : ∃ c' W', (Builtin.append_ #[70, 70] 70 #[.slice none 0 0, .slice (some a) 1 c]).run Tryz.prog W = .ok (.slice (some ⟨W.heap.size, 0, none⟩) 1 c') W' /\ W'.cell? ⟨W.heap.size, 0, none⟩ = some (.string x) /\ W'.frozen? ⟨W.heap.size, 0, none⟩ = false /\ Bl W W' := by
 obtain ⟨i0, hi, hz0, hz1, hz2⟩ := i9
 refine ⟨_, _, run_append_nil (P := Tryz.prog) (w := W) 70 70 9 i0 (.string ⟨#[]⟩) u70 hi hz0 a 1 c [.string x] (by simp [hz1]) ?_ (by omega) (by omega) (by rw [hz2]; omega), ?_, ?_, ?_⟩
 ·intro j v hj
  match j, hj with
  | 0, hj => simp at hj; subst hj; rw [show a.add 0 = a by simp [Addr.add]]; exact h
 ·have hb : ∀ (C : Array Value), (W.drew.alloc (.cells C 9)).heap[W.heap.size]? = some (.cells C 9) := fun C => by
   show (W.heap.push (.cells C 9))[W.heap.size]? = _
   simp
  unfold World.cell?
  rw [hb]
  simp [Array.getElem?_append]
 ·have hb : ∀ (C : Array Value), (W.drew.alloc (.cells C 9)).heap[W.heap.size]? = some (.cells C 9) := fun C => by
   show (W.heap.push (.cells C 9))[W.heap.size]? = _
   simp
  unfold World.frozen?
  rw [hb]
  rfl
 ·exact bz
theorem f72_2 (p c q : Nat) (v1 v2 : ByteArray) (w : World) (h1 : w.cell? ⟨p, 0, none⟩ = some (.string v1)) (h2 : w.cell? ⟨p, 1, none⟩ = some (.string v2)) (hc : w.cell? ⟨q, 0, none⟩ = some (.int .i64 3)) (s1 : v1.size = 1) (s2 : v2.size = 1) : Calls Tryz.prog 72 #[.slice (some ⟨p, 0, none⟩) 2 c, .func (.func 47) #[] #[.pointer (some ⟨q, 0, none⟩)]] w fun e w' => e = .returned (.int .i64 (-1)) /\ Bl w w' := by
 have T := HD (fun W s => f47_c s q W)
 go_enter Tryz.func72, Tryz.ntmps72
 go_wp2_with fail
 refine wp_loop_rounds 3 ?_
 rw [rounds_succ]
 go_wp2_with (go_at_call 47; refine (T.out _ _ hc s1).mono ?_; rintro e w1 ⟨rfl, hw1⟩)
 have h2' := hw1.keep h2
 have hc' := hw1.keep hc
 rw [rounds_succ]
 go_wp2_with (go_at_call 47; refine (T.out _ _ hc' s2).mono ?_; rintro e w2 ⟨rfl, hw2⟩)
 rw [rounds_succ]
 go_wp2_with fail
 go_ret
 exact ⟨rfl, hw1.trans hw2⟩
theorem f46_2 (p c q : Nat) (v1 v2 : ByteArray) (w : World) (h1 : w.cell? ⟨p, 0, none⟩ = some (.string v1)) (h2 : w.cell? ⟨p, 1, none⟩ = some (.string v2)) (hc : w.cell? ⟨q, 0, none⟩ = some (.int .i64 3)) (s1 : v1.size = 1) (s2 : v2.size = 1) : Calls Tryz.prog 46 #[.slice (some ⟨p, 0, none⟩) 2 c, .func (.func 47) #[] #[.pointer (some ⟨q, 0, none⟩)]] w fun e w' => e = .returned (.bool false) /\ Bl w w' := by
 go_enter Tryz.func46, Tryz.ntmps46
 go_wp2_with fail
 refine (f72_2 p c q v1 v2 w h1 h2 hc s1 s2).mono ?_
 rintro e w1 ⟨rfl, hw1⟩
 go_wp2_with fail
 go_ret
 exact ⟨rfl, hw1⟩
set_option maxHeartbeats 2000000 in
theorem f18_ex (p : Nat) (w : World) (h1 : w.cell? ⟨p, 0, none⟩ = some (.string ⟨#[97]⟩)) (h2 : w.cell? ⟨p, 1, none⟩ = some (.string ⟨#[98]⟩)) : Calls Tryz.prog 18 #[.slice (some ⟨p, 0, none⟩) 2 2, .int .i64 3] w fun e w' => ∃ b c, e = .returned (.tuple #[.slice (some ⟨b, 0, none⟩) 1 c, .int .i64 0]) /\ w'.cell? ⟨b, 0, none⟩ = some (.string ⟨#[97, 32, 98]⟩) /\ Bl w w' := by
 obtain ⟨R, hR⟩ : ∃ R : Ending -> World -> Prop, R = fun e w' => ∃ b c, e = .returned (.tuple #[.slice (some ⟨b, 0, none⟩) 1 c, .int .i64 0]) /\ w'.cell? ⟨b, 0, none⟩ = some (.string ⟨#[97, 32, 98]⟩) /\ Bl w w' := ⟨_, rfl⟩
 rw [<- hR]
 have hRh : Hid (∀ W b c, W.cell? ⟨b, 0, none⟩ = some (.string ⟨#[97, 32, 98]⟩) -> Bl w W -> R (.returned (.tuple #[.slice (some ⟨b, 0, none⟩) 1 c, .int .i64 0])) W) := fun W b c hc hW => by rw [hR]; exact ⟨b, c, rfl, hc, hW⟩
 clear hR
 have hp := cell_lt h1
 simp only at hp
 go_enter Tryz.func18, Tryz.ntmps18
 go_wp2_with fail
 refine wp_loop_rounds 3 ?_
 have hb0 : Bl w (w.alloc (.cells #[.int .i64 3] 3)) := bz
 obtain ⟨c1, w1, he, hc1, hw1⟩ := conv_one 97 (w.alloc (.cells #[.int .i64 3] 3))
 have h3 : w1.cell? ⟨w.heap.size, 0, none⟩ = some (.int .i64 3) := hw1.keep (by simp [go_sem])
 have h1' := hw1.keep (hb0.keep h1)
 have h2' := hw1.keep (hb0.keep h2)
 have hB1 : Bl w w1 := hb0.trans hw1
 have hz1 := hw1.size
 rw [show (w.alloc (.cells #[.int .i64 3] 3)).heap.size = w.heap.size + 1 by simp] at he hc1 hz1
 have hb1 := cell_lt hc1
 simp only at hb1
 clear hb0 hw1
 rw [rounds_succ]
 go_wp2_with fail
 refine (f44_1 _ _ _ _ _ hc1 (by decide) (by decide)).mono ?_
 rintro e w2 ⟨rfl, hw2⟩
 have g3 := hw2.keep h3
 have g1 := hw2.keep h1'
 have g2 := hw2.keep h2'
 have hB2 : Bl w w2 := hB1.trans hw2
 have hs2 := hw2.size
 clear hw2 h3 h1' h2' hB1 hc1
 obtain ⟨c2, w3, he2, hc2, hw3⟩ := conv_one 98 w2
 have k3 := hw3.keep g3
 have k1 := hw3.keep g1
 have k2 := hw3.keep g2
 have hB3 : Bl w w3 := hB2.trans hw3
 have hs3 := hw3.size
 clear hw3
 go_wp2_with fail
 rw [rounds_succ]
 clear he
 go_wp2_with fail
 clear g3 g1 g2 hB2 he2
 refine (f44_1 _ _ _ _ _ hc2 (by decide) (by decide)).mono ?_
 rintro e w4 ⟨rfl, hw4⟩
 have g3 := hw4.keep k3
 have g1 := hw4.keep k1
 have g2 := hw4.keep k2
 have hB4 : Bl w w4 := hB3.trans hw4
 have hs4 := hw4.size
 clear hw4 hc2 k3 k1 k2 hB3
 go_wp2_with fail
 rw [rounds_succ]
 go_wp2_with fail
 refine (f46_2 _ _ _ _ _ _ g1 g2 g3 (by decide) (by decide)).mono ?_
 rintro e w5 ⟨rfl, hw5⟩
 have k3 := hw5.keep g3
 have k1 := hw5.keep g1
 have k2 := hw5.keep g2
 have hB5 : Bl w w5 := hB4.trans hw5
 have hs5 := hw5.size
 clear hw5 g1 g2 g3 hB4
 go_wp2_with fail
 refine wp_loop_rounds 3 ?_
 rw [rounds_succ]
 go_wp2_with fail
 refine wp_region_later (by kernel_rfl) (by kernel_rfl) ?_
 repeat (go_big_quiet_step (fail))
 refine wpQuiet_nil ?_
 intro w6 hw6
 have g3 := hw6.keep k3
 have g1 := hw6.keep k1
 have g2 := hw6.keep k2
 have hB6 : Bl w w6 := hB5.trans hw6
 have hs6 := hB6.size
 clear hw6 k1 k2 k3 hB5
 obtain ⟨c7, w7, he7, hc7, hf7, hw7⟩ := app_one ⟨#[97]⟩ ⟨w6.heap.size, 0, none⟩ 1 (w6.alloc (.cells #[.string ⟨#[97]⟩] 9)) (by simp [go_sem])
 have hw67 : Bl w6 w7 := (bz : Bl w6 (w6.alloc (.cells #[.string ⟨#[97]⟩] 9))).trans hw7
 rw [show (w6.alloc (.cells #[.string ⟨#[97]⟩] 9)).heap.size = w6.heap.size + 1 by simp] at he7 hc7 hf7
 clear hw7
 go_wp2_with (at_builtin; refine wpList_append_run rfl _ _ _ rfl _ _ he7 ?_)
 have k3 := hw67.keep g3
 have k1 := hw67.keep g1
 have k2 := hw67.keep g2
 have hB7 : Bl w w7 := hB6.trans hw67
 clear hw67 he7 g1 g2 g3 hB6
 rw [rounds_succ]
 go_wp2_with fail
 have p1 : ∀ z : Later w7, z.at'.cell? ⟨w6.heap.size + 1, 0, none⟩ = some (.string ⟨#[97]⟩) := fun z => z.keep hc7
 have p2 : ∀ z : Later w7, z.at'.cell? ⟨w.heap.size, 0, none⟩ = some (.int .i64 3) := fun z => z.keep k3
 refine wp_region_later (by kernel_rfl) (by kernel_rfl) ?_
 repeat (go_big_quiet_step (fail))
 refine wpQuiet_nil ?_
 intro w8 hw8
 clear p1 p2
 have f1 := hw8.keep hc7
 have f2 := hw8.keepF hc7 hf7
 have hB8 : Bl w w8 := hB7.trans hw8
 clear hw8 k1 k2 k3 hB7 hc7
 go_wp2_with fail
 rw [rounds_succ]
 go_wp2_with fail
 have hfin := hRh.out (w8.setCell ⟨w6.heap.size + 1, 0, none⟩ (.string (⟨#[97]⟩ ++ (⟨#[32]⟩ ++ ⟨#[98]⟩)))) (w6.heap.size + 1) c7 (by
  rw [show (⟨#[97]⟩ ++ (⟨#[32]⟩ ++ ⟨#[98]⟩) : ByteArray) = ⟨#[97, 32, 98]⟩ by decide]
  simp [go_sem, f1]) (Bl.setCell hB8 (by simp only; omega) _)
 first | exact hfin | exact bodyPost_ret (v := .tuple #[.slice (some ⟨w6.heap.size + 1, 0, none⟩) 1 c7, .int .i64 0]) (by simp [results, Tryz.results18, go_sem, *]) rfl hfin | trace_state
end Go.Proofs.YtnnhnkpoekbahaaGreat
namespace Go.Proofs
open Go.Shelf
def Tryz.keysA_ren : Go.Shelf.Ren := ⟨fun | 7 => 67 | 10 => 98 | n => n, fun | 23 => 144 | 26 => 3 | 3 => 4 | 28 => 147 | 0 => 0 | 27 => 146 | 33 => 159 | 4 => 4 | n => n, fun | n => n⟩
theorem Tryz.keysA : Go.Proofs.SlLaysZI.n7 Tryz.prog Tryz.keysA_ren := {
 mixed := by kernel_rfl
 f7 := ⟨Tryz.f67.name, by decide, Tryz.func67.trans (congrArg some (by kernel_rfl))⟩
 f10 := ⟨Tryz.f98.name, by decide, Tryz.func98.trans (congrArg some (by kernel_rfl))⟩
 t0 := Tryz.underlying0
 a0 := Tryz.isAgg0
 z0 := Tryz.sizeOf0
 v0 := Tryz.zeroValue0
 t4 := Tryz.underlying4
 a4 := Tryz.isAgg4
 z4 := Tryz.sizeOf4
 v4 := Tryz.zeroValue4
 t23 := Tryz.underlying144
 a23 := Tryz.isAgg144
 z23 := Tryz.sizeOf144
 v23 := Tryz.zeroValue144
 t26 := Tryz.underlying3
 a26 := Tryz.isAgg3
 z26 := Tryz.sizeOf3
 v26 := Tryz.zeroValue3
 t27 := Tryz.underlying146
 a27 := Tryz.isAgg146
 z27 := Tryz.sizeOf146
 v27 := Tryz.zeroValue146
 t28 := Tryz.underlying147
 a28 := Tryz.isAgg147
 z28 := Tryz.sizeOf147
 v28 := Tryz.zeroValue147
 t33 := Tryz.underlying159
 a33 := Tryz.isAgg159
 z33 := Tryz.sizeOf159
 v33 := Tryz.zeroValue159 }
def Tryz.sortedA_ren : Go.Shelf.Ren := ⟨fun | 6 => 66 | 8 => 96 | 9 => 97 | 11 => 142 | 13 => 144 | 12 => 143 | 23 => 182 | 24 => 183 | 14 => 173 | 15 => 174 | 16 => 175 | 17 => 176 | 18 => 177 | 19 => 178 | 20 => 179 | 21 => 180 | 22 => 181 | 25 => 205 | 26 => 206 | 27 => 207 | 28 => 208 | 29 => 209 | 30 => 210 | 31 => 220 | n => n, fun | 26 => 3 | 28 => 147 | 24 => 28 | 0 => 0 | 3 => 3 | 37 => 84 | 48 => 213 | 50 => 216 | 4 => 4 | 40 => 261 | 39 => 260 | 45 => 106 | 5 => 5 | 9 => 9 | 51 => 284 | 55 => 288 | 57 => 294 | 58 => 115 | 33 => 159 | n => n, fun | n => n⟩
theorem Tryz.sortedA : Go.Proofs.SlLaysZI.n6 Tryz.prog Tryz.sortedA_ren := {
 mixed := by kernel_rfl
 f6 := ⟨Tryz.f66.name, by decide, Tryz.func66.trans (congrArg some (by kernel_rfl))⟩
 f8 := ⟨Tryz.f96.name, by decide, Tryz.func96.trans (congrArg some (by kernel_rfl))⟩
 f11 := ⟨Tryz.f142.name, by decide, Tryz.func142.trans (congrArg some (by kernel_rfl))⟩
 t0 := Tryz.underlying0
 a0 := Tryz.isAgg0
 z0 := Tryz.sizeOf0
 v0 := Tryz.zeroValue0
 t24 := Tryz.underlying28
 a24 := Tryz.isAgg28
 z24 := Tryz.sizeOf28
 v24 := Tryz.zeroValue28
 t26 := Tryz.underlying3
 a26 := Tryz.isAgg3
 z26 := Tryz.sizeOf3
 v26 := Tryz.zeroValue3
 t28 := Tryz.underlying147
 a28 := Tryz.isAgg147
 z28 := Tryz.sizeOf147
 v28 := Tryz.zeroValue147
 i26 := by kernel_rfl }
def Tryz.sortA_ren : Go.Shelf.Ren := ⟨fun | 5 => 97 | 8 => 144 | 7 => 143 | 19 => 182 | 20 => 183 | 10 => 173 | 11 => 174 | 12 => 175 | 13 => 176 | 14 => 177 | 15 => 178 | 16 => 179 | 17 => 180 | 18 => 181 | 30 => 205 | 31 => 206 | 32 => 207 | 33 => 208 | 34 => 209 | 35 => 210 | 40 => 220 | n => n, fun | 23 => 28 | 25 => 3 | 3 => 3 | 32 => 84 | 22 => 28 | 0 => 0 | 44 => 213 | 46 => 216 | 4 => 4 | 36 => 261 | 35 => 260 | 41 => 106 | 5 => 5 | 9 => 9 | 53 => 284 | 57 => 288 | 63 => 294 | 64 => 115 | n => n, fun | n => n⟩
theorem Tryz.sortA : Go.Proofs.SlLaysM.n5 Tryz.prog Tryz.sortA_ren := {
 mixed := by kernel_rfl
 f5 := ⟨Tryz.f97.name, by decide, Tryz.func97.trans (congrArg some (by kernel_rfl))⟩
 f7 := ⟨Tryz.f143.name, by decide, Tryz.func143.trans (congrArg some (by kernel_rfl))⟩
 f8 := Tryz.func144.trans (congrArg some (by kernel_rfl))
 f10 := ⟨Tryz.f173.name, by decide, Tryz.func173.trans (congrArg some (by kernel_rfl))⟩
 f11 := ⟨Tryz.f174.name, by decide, Tryz.func174.trans (congrArg some (by kernel_rfl))⟩
 f12 := ⟨Tryz.f175.name, by decide, Tryz.func175.trans (congrArg some (by kernel_rfl))⟩
 f13 := ⟨Tryz.f176.name, by decide, Tryz.func176.trans (congrArg some (by kernel_rfl))⟩
 f14 := ⟨Tryz.f177.name, by decide, Tryz.func177.trans (congrArg some (by kernel_rfl))⟩
 f15 := ⟨Tryz.f178.name, by decide, Tryz.func178.trans (congrArg some (by kernel_rfl))⟩
 f16 := ⟨Tryz.f179.name, by decide, Tryz.func179.trans (congrArg some (by kernel_rfl))⟩
 f17 := ⟨Tryz.f180.name, by decide, Tryz.func180.trans (congrArg some (by kernel_rfl))⟩
 f18 := ⟨Tryz.f181.name, by decide, Tryz.func181.trans (congrArg some (by kernel_rfl))⟩
 f19 := Tryz.func182.trans (congrArg some (by kernel_rfl))
 f20 := Tryz.func183.trans (congrArg some (by kernel_rfl))
 f30 := ⟨Tryz.f205.name, by decide, Tryz.func205.trans (congrArg some (by kernel_rfl))⟩
 f31 := Tryz.func206.trans (congrArg some (by kernel_rfl))
 f32 := Tryz.func207.trans (congrArg some (by kernel_rfl))
 f33 := ⟨Tryz.f208.name, by decide, Tryz.func208.trans (congrArg some (by kernel_rfl))⟩
 f34 := ⟨Tryz.f209.name, by decide, Tryz.func209.trans (congrArg some (by kernel_rfl))⟩
 f35 := ⟨Tryz.f210.name, by decide, Tryz.func210.trans (congrArg some (by kernel_rfl))⟩
 f40 := ⟨Tryz.f220.name, by decide, Tryz.func220.trans (congrArg some (by kernel_rfl))⟩
 t0 := Tryz.underlying0
 a0 := Tryz.isAgg0
 z0 := Tryz.sizeOf0
 v0 := Tryz.zeroValue0
 t3 := Tryz.underlying3
 a3 := Tryz.isAgg3
 z3 := Tryz.sizeOf3
 v3 := Tryz.zeroValue3
 t4 := Tryz.underlying4
 a4 := Tryz.isAgg4
 z4 := Tryz.sizeOf4
 v4 := Tryz.zeroValue4
 t5 := Tryz.underlying5
 a5 := Tryz.isAgg5
 z5 := Tryz.sizeOf5
 v5 := Tryz.zeroValue5
 t9 := Tryz.underlying9
 a9 := Tryz.isAgg9
 z9 := Tryz.sizeOf9
 v9 := Tryz.zeroValue9
 t22 := Tryz.underlying28
 a22 := Tryz.isAgg28
 z22 := Tryz.sizeOf28
 v22 := Tryz.zeroValue28
 t23 := Tryz.underlying28
 a23 := Tryz.isAgg28
 z23 := Tryz.sizeOf28
 v23 := Tryz.zeroValue28
 t25 := Tryz.underlying3
 a25 := Tryz.isAgg3
 z25 := Tryz.sizeOf3
 v25 := Tryz.zeroValue3
 t32 := Tryz.underlying84
 a32 := Tryz.isAgg84
 z32 := Tryz.sizeOf84
 v32 := Tryz.zeroValue84
 t35 := Tryz.underlying260
 a35 := Tryz.isAgg260
 z35 := Tryz.sizeOf260
 v35 := Tryz.zeroValue260
 t36 := Tryz.underlying261
 a36 := Tryz.isAgg261
 z36 := Tryz.sizeOf261
 v36 := Tryz.zeroValue261
 t41 := Tryz.underlying106
 a41 := Tryz.isAgg106
 z41 := Tryz.sizeOf106
 v41 := Tryz.zeroValue106
 t44 := Tryz.underlying213
 a44 := Tryz.isAgg213
 z44 := Tryz.sizeOf213
 v44 := Tryz.zeroValue213
 t46 := Tryz.underlying216
 a46 := Tryz.isAgg216
 z46 := Tryz.sizeOf216
 v46 := Tryz.zeroValue216
 t53 := Tryz.underlying284
 a53 := Tryz.isAgg284
 z53 := Tryz.sizeOf284
 v53 := Tryz.zeroValue284
 t57 := Tryz.underlying288
 a57 := Tryz.isAgg288
 z57 := Tryz.sizeOf288
 v57 := Tryz.zeroValue288
 t63 := Tryz.underlying294
 a63 := Tryz.isAgg294
 z63 := Tryz.sizeOf294
 v63 := Tryz.zeroValue294
 t64 := Tryz.underlying115
 a64 := Tryz.isAgg115
 z64 := Tryz.sizeOf115
 v64 := Tryz.zeroValue115 }
theorem Tryz.sortsA (m : Nat) : AnyZI.SortsIn Tryz.prog Tryz.sortedA_ren Go.Fence.wide m :=
 ⟨fun blk off cap ss W hH hblk hsz => callsIn_wide.2 (AnyM.slices_Sort_int Tryz.sortA blk off cap ss W hH hblk hsz),
  fun p cap W => callsIn_wide.2 (AnyM.slices_Sort_int_none Tryz.sortA p cap W)⟩
end Go.Proofs
namespace Go.Proofs.YtnnhnkpoekbahaaGreat
open Go.RowKit
set_option maxHeartbeats 400000
set_option linter.unusedSimpArgs false
set_option linter.unusedVariables false
set_option maxRecDepth 100000
open Go.Maps Go.Sort in
theorem f66_keys {H : Type} (b q nn : Nat) (D0 : DataW H) (R : Value -> Option (DataW H × List MemPlace)) (w : World) (hc : w.cell? ⟨q, 0, none⟩ = some (.map (some b))) (hown : w.ownsMap Tryz.prog 3 R b nn D0) (hmax : Maps.size D0 ≤ maxLen) (hbytes : Maps.size D0 * 8 ≤ 140737488355328) :
 Calls Tryz.prog 66 #[.func (.func 98) #[] #[.pointer (some ⟨q, 0, none⟩)]] w fun e w' => ∃ (v : Value) (ss : List Int), e = .returned v /\ ss.Perm (intKeys D0) /\
  w'.ownsRow w.heap.size 3 1 v ss.length ((ss.mergeSort (fun x y => decide (x ≤ y))).map encZ) /\ (v = .slice none 0 0 ↔ ss = []) /\ Bl w w' := by
 have hq := cell_lt hc
 simp only at hq
 have hseq : SeqGives Fence.wide 2 Tryz.prog 98 #[.pointer (some ⟨q, 0, none⟩)] encZ (fun ss => ss.Perm (intKeys D0)) (Maps.size D0) w :=
  AnyZI.keys_gives (ρ := Tryz.keysA_ren) { Tryz.keysA with } Fence.wide _ trivial rfl (by omega) q b nn D0 _ hq hc hown
 have cS := AnyZI.sorted_in Tryz.sortedA Fence.wide 5 trivial trivial trivial trivial rfl (by omega) (Tryz.sortsA _) (enters_of Tryz.func97 (by kernel_rfl) rfl) 98 #[.pointer (some ⟨q, 0, none⟩)] trivial (enters_of Tryz.func98 (by kernel_rfl) rfl) _ _ hmax hbytes _ hseq
 change CallsIn _ _ Tryz.prog 66 _ _ _ at cS
 exact (callsIn_wide (n := 5)).1 cS
theorem f67_c (mb : Option Nat) (w : World) : Calls Tryz.prog 67 #[.map mb] w fun e w' => e = .returned (.func (.func 98) #[] #[.pointer (some ⟨w.heap.size, 0, none⟩)]) /\ w' = w.alloc (.cells #[.map mb] 144) :=
 (callsIn_wide (n := 5)).1 (AnyZI.keys_in Tryz.keysA Fence.wide 5 trivial rfl mb w)
theorem app1 {α : Type} (f : α -> Value) (hf : ∀ x, (f x).oneCell' = true) {t e : TypeId} {z : Value} {bytes : Nat} (ht : Tryz.prog.underlying t = some (.slice e)) (hi : ∃ i, Tryz.prog.info? e = some i /\ i.zero = some z /\ i.size = 1 /\ i.bytes = bytes) (hby : bytes ≤ 1000) (hz : z.cells.size = 1)
 {base : Nat} {W : World} {s : Sl α} (hO : Own1 f e base W s) (hbase : base ≤ W.heap.size) (hl : s.xs.length ≤ 100000) (a : Addr) (c : Nat) (x : α) (hc : W.cell? a = some (f x)) :
 ∃ s' : Sl α, ∃ W', (Builtin.append_ #[t, t] t #[s.val, .slice (some a) 1 c]).run Tryz.prog W = .ok s'.val W' /\ s'.xs = s.xs ++ [x] /\ Own1 f e base W' s' /\ W.grownBy W' s.val.ownBlock := by
 obtain ⟨i, hi, hz0, hz1, hz2⟩ := hi
 obtain ⟨v', w', h1, h2, h3, _⟩ := run_append_own_at (P := Tryz.prog) W base t t e i z 1 bytes ht hi hz0 hz1 hz2 hz (by decide) s.val s.xs.length (s.xs.map f) hO a 1 c [f x] rfl
  (fun j u hj => by
   match j, hj with
   | 0, hj => simp at hj; subst hj; rw [show a.add 0 = a by simp [Addr.add]]; exact hc)
  (fun u hu => by simp at hu; subst hu; exact hf x) (by unfold maxLen; omega) (by have : (s.xs.length + 1) * bytes ≤ 100001 * 1000 := Nat.mul_le_mul (by omega) hby; omega) hbase
 obtain ⟨s', rfl, hx, hO'⟩ := Own1.ofRow (f := f) (e := e) (base := base) (w := w') (v := v') (xs := s.xs ++ [x]) (by simpa using h2)
 exact ⟨s', w', h1, hx, hO', h3⟩
def planV (bi br bp : Nat) : Value := .agg #[.int .i64 5, .int .i64 10, .int .i64 0, .slice (some ⟨bi, 0, none⟩) 1 1, .slice (some ⟨br, 0, none⟩) 2 2, .slice (some ⟨bp, 0, none⟩) 1 1, .int .i64 1]
theorem f93_t (a b c : Int) (w : World) (h1 : b ≤ a) (h2 : a ≤ c) : Calls Tryz.prog 93 #[.int .i64 a, .int .i64 b, .int .i64 c] w fun e w' => e = .returned (.bool true) /\ w' = w := by
 go_enter Tryz.func93, Tryz.ntmps93
 go_wp2_with fail
 go_ret
 exact ⟨ret_bool (by simp [h1, h2]), rfl⟩
structure PlanAt (w : World) (bi br bp : Nat) : Prop where
 i0 : w.cell? ⟨bi, 0, none⟩ = some (.int .i64 3)
 r0 : w.cell? ⟨br, 0, none⟩ = some (.int .i64 0)
 r1 : w.cell? ⟨br, 1, none⟩ = some (.int .i64 4)
 p0 : w.cell? ⟨bp, 0, none⟩ = some (.int .i64 0)
 p1 : w.cell? ⟨bp, 1, none⟩ = some (.int .i64 2)
theorem PlanAt.keep {w w' : World} {bi br bp : Nat} (h : PlanAt w bi br bp) (hb : Bl w w') : PlanAt w' bi br bp := ⟨hb.keep h.i0, hb.keep h.r0, hb.keep h.r1, hb.keep h.p0, hb.keep h.p1⟩
def pens (bp : Nat) : Sl Knot := ⟨some ⟨bp, 0, none⟩, 1, [⟨0, 2⟩]⟩
theorem PlanAt.pen {w : World} {bi br bp : Nat} (h : PlanAt w bi br bp) : InK w (pens bp) := by
 have hlt := cell_lt h.p0
 simp only at hlt
 refine ⟨by simp [pens], by simp [pens], fun _ => ⟨bp, 0, rfl, hlt, hlt, ?_⟩, fun _ _ => trivial⟩
 intro i hi j v hj
 have hi0 : i = 0 := by simp [pens] at hi; exact hi
 subst hi0
 match j, hj with
 | 0, hj => simp [pens, encK] at hj; subst hj; exact h.p0
 | 1, hj => simp [pens, encK] at hj; subst hj; exact h.p1
theorem pens_tab (bp : Nat) : tabB (pens bp).xs = true := tabB_true (by simp [pens]) (by simp [pens]) (fun j hj => by
 have : j = 0 := by simp [pens] at hj; exact hj
 subst this
 show knotOk [⟨0, 2⟩] 0 = true
 decide)
set_option maxHeartbeats 2000000 in
theorem f64_ex (bi br bp : Nat) (w : World) (h : PlanAt w bi br bp) : Calls Tryz.prog 64 #[planV bi br bp] w fun e w' => e = .returned (.bool true) /\ Bl w w' := by
 have T94 : Hid (∀ W, Bl w W -> Calls Tryz.prog 94 #[.slice (some ⟨bp, 0, none⟩) 1 1] W fun e w' => e = .returned (.bool true) /\ Bl W w') := fun W hb => by
  have := f94_c (pens bp) W ((h.keep hb).pen)
  rw [pens_tab] at this
  exact this
 obtain ⟨i0, r0, r1, p0, p1⟩ := h
 unfold planV
 go_enter Tryz.func64, Tryz.ntmps64
 go_wp2_with (go_at_call 93; refine (f93_t _ _ _ _ (by decide) (by decide)).mono ?_; rintro e w' ⟨rfl, rfl⟩)
 refine (T94.out _ bz).mono ?_
 rintro e w1 ⟨rfl, hw1⟩
 have hB1 : Bl w w1 := bz
 have b0 : w1.cell? ⟨w.heap.size, 0, none⟩ = some (.int .i64 5) := hw1.keep (by simp [go_sem])
 have b1 : w1.cell? ⟨w.heap.size, 1, none⟩ = some (.int .i64 10) := hw1.keep (by simp [go_sem])
 have b2 : w1.cell? ⟨w.heap.size, 2, none⟩ = some (.int .i64 0) := hw1.keep (by simp [go_sem])
 have b3 : w1.cell? ⟨w.heap.size, 3, none⟩ = some (.slice (some ⟨bi, 0, none⟩) 1 1) := hw1.keep (by simp [go_sem])
 have b4 : w1.cell? ⟨w.heap.size, 4, none⟩ = some (.slice (some ⟨br, 0, none⟩) 2 2) := hw1.keep (by simp [go_sem])
 have b5 : w1.cell? ⟨w.heap.size, 5, none⟩ = some (.slice (some ⟨bp, 0, none⟩) 1 1) := hw1.keep (by simp [go_sem])
 have b6 : w1.cell? ⟨w.heap.size, 6, none⟩ = some (.int .i64 1) := hw1.keep (by simp [go_sem])
 have ki0 := hB1.keep i0
 have kr0 := hB1.keep r0
 have kr1 := hB1.keep r1
 have kp0 := hB1.keep p0
 have kp1 := hB1.keep p1
 clear hw1 i0 r0 r1 p0 p1
 go_wp2_with fail
 refine wp_loop_rounds 2 ?_
 rw [rounds_succ]
 go_wp2_with (go_at_call 93; refine (f93_t _ _ _ _ (by decide) (by decide)).mono ?_; rintro e w' ⟨rfl, rfl⟩)
 rw [rounds_succ]
 go_wp2_with fail
 refine wp_loop_rounds 3 ?_
 rw [rounds_succ]
 go_wp2_with (go_at_call 93; refine (f93_t _ _ _ _ (by decide) (by decide)).mono ?_; rintro e w' ⟨rfl, rfl⟩)
 rw [rounds_succ]
 go_wp2_with (go_at_call 93; refine (f93_t _ _ _ _ (by decide) (by decide)).mono ?_; rintro e w' ⟨rfl, rfl⟩)
 rw [rounds_succ]
 go_wp2_with fail
 go_ret
 exact ⟨rfl, hB1⟩
def tankCells (bi br bp bc cc : Nat) : List Value := [.int .i64 5, .int .i64 10, .int .i64 0, .slice (some ⟨bi, 0, none⟩) 1 1, .slice (some ⟨br, 0, none⟩) 2 2, .slice (some ⟨bp, 0, none⟩) 1 1, .int .i64 1, .slice (some ⟨bc, 0, none⟩) 2 cc]
structure TankAt (w : World) (t bi br bp bc cc : Nat) : Prop where
 pl : PlanAt w bi br bp
 box : ∀ k (hk : k < 8), w.cell? ⟨t, k, none⟩ = some ((tankCells bi br bp bc cc)[k])
 c0 : w.cell? ⟨bc, 0, none⟩ = some (.int .i64 2)
 c1 : w.cell? ⟨bc, 1, none⟩ = some (.int .i64 2)
theorem TankAt.keep {w w' : World} {t bi br bp bc cc : Nat} (h : TankAt w t bi br bp bc cc) (hb : Bl w w') : TankAt w' t bi br bp bc cc := ⟨h.pl.keep hb, fun k hk => hb.keep (h.box k hk), hb.keep h.c0, hb.keep h.c1⟩
set_option maxHeartbeats 2000000 in
theorem f38_ex (t bi br bp bc cc : Nat) (i : Nat) (r a : Int) (w : World) (h : TankAt w t bi br bp bc cc) (hi : i = 0 /\ r = 0 /\ a = 8 \/ i = 1 /\ r = 4 /\ a = 4) : Calls Tryz.prog 38 #[.pointer (some ⟨t, 0, none⟩), .int .i64 5, .int .i64 0, .int .i64 i] w fun e w' => e = .returned (.tuple #[.int .i64 a, .int .i64 2, .bool true]) /\ Bl w w' := by
 have hr : w.cell? ⟨br, i, none⟩ = some (.int .i64 r) := by
  rcases hi with ⟨rfl, rfl, _⟩ | ⟨rfl, rfl, _⟩
  ·exact h.pl.r0
  ·exact h.pl.r1
 have hc : w.cell? ⟨bc, i, none⟩ = some (.int .i64 2) := by
  rcases hi with ⟨rfl, rfl, _⟩ | ⟨rfl, rfl, _⟩
  ·exact h.c0
  ·exact h.c1
 have b1 := h.box 1 (by omega)
 have b2 := h.box 2 (by omega)
 have b3 := h.box 3 (by omega)
 have b4 := h.box 4 (by omega)
 have b6 := h.box 6 (by omega)
 have b7 := h.box 7 (by omega)
 have i0 := h.pl.i0
 simp only [tankCells, List.getElem_cons_succ, List.getElem_cons_zero] at b1 b2 b3 b4 b6 b7
 clear h
 have p0 : ∀ z : Later w, z.at'.cell? ⟨br, i, none⟩ = some (.int .i64 r) := fun z => z.keep hr
 have p1 : ∀ z : Later w, z.at'.cell? ⟨bc, i, none⟩ = some (.int .i64 2) := fun z => z.keep hc
 have p2 : ∀ z : Later w, z.at'.cell? ⟨bi, 0, none⟩ = some (.int .i64 3) := fun z => z.keep i0
 have p3 : ∀ z : Later w, z.at'.cell? ⟨t, 1, none⟩ = some (.int .i64 10) := fun z => z.keep b1
 have p4 : ∀ z : Later w, z.at'.cell? ⟨t, 2, none⟩ = some (.int .i64 0) := fun z => z.keep b2
 have p5 : ∀ z : Later w, z.at'.cell? ⟨t, 3, none⟩ = some (.slice (some ⟨bi, 0, none⟩) 1 1) := fun z => z.keep b3
 have p6 : ∀ z : Later w, z.at'.cell? ⟨t, 4, none⟩ = some (.slice (some ⟨br, 0, none⟩) 2 2) := fun z => z.keep b4
 have p7 : ∀ z : Later w, z.at'.cell? ⟨t, 6, none⟩ = some (.int .i64 1) := fun z => z.keep b6
 have p8 : ∀ z : Later w, z.at'.cell? ⟨t, 7, none⟩ = some (.slice (some ⟨bc, 0, none⟩) 2 cc) := fun z => z.keep b7
 rcases hi with ⟨rfl, rfl, rfl⟩ | ⟨rfl, rfl, rfl⟩
 iterate 2
  ·go_enter Tryz.func38, Tryz.ntmps38
   go_wp2_with fail
   refine wp_region_later (by kernel_rfl) (by kernel_rfl) ?_
   repeat (go_big_quiet_step (fail))
   refine wpQuiet_nil ?_
   intro w1 hw1
   have q0 := hw1.keep hr
   have q1 := hw1.keep hc
   have q2 := hw1.keep i0
   have q3 := hw1.keep b1
   have q4 := hw1.keep b2
   have q5 := hw1.keep b3
   have q6 := hw1.keep b4
   have q7 := hw1.keep b6
   have q8 := hw1.keep b7
   clear p0 p1 p2 p3 p4 p5 p6 p7 p8
   have p0 := fun (z : Later w1) => z.keep q0
   have p1 := fun (z : Later w1) => z.keep q1
   have p2 := fun (z : Later w1) => z.keep q2
   have p3 := fun (z : Later w1) => z.keep q3
   have p4 := fun (z : Later w1) => z.keep q4
   have p5 := fun (z : Later w1) => z.keep q5
   have p6 := fun (z : Later w1) => z.keep q6
   have p7 := fun (z : Later w1) => z.keep q7
   have p8 := fun (z : Later w1) => z.keep q8
   go_wp2_with fail
   refine wp_region_later (by kernel_rfl) (by kernel_rfl) ?_
   repeat (go_big_quiet_step (fail))
   refine wpQuiet_nil ?_
   intro w2 hw2
   go_wp2_with fail
   first | exact bodyPost_ret (v := .tuple #[.int .i64 8, .int .i64 2, .bool true]) (by simp [results, Tryz.results38, go_sem, *]; try exact ⟨rfl, rfl⟩) rfl ⟨rfl, hw1.trans hw2⟩ | exact bodyPost_ret (v := .tuple #[.int .i64 4, .int .i64 2, .bool true]) (by simp [results, Tryz.results38, go_sem, *]; try exact ⟨rfl, rfl⟩) rfl ⟨rfl, hw1.trans hw2⟩
set_option maxHeartbeats 2000000 in
theorem f34_ex (bi br bp : Nat) (w : World) (h : PlanAt w bi br bp) : Calls Tryz.prog 34 #[planV bi br bp] w fun e w' => ∃ t bc cc, e = .returned (.tuple #[.pointer (some ⟨t, 0, none⟩), .bool true]) /\ TankAt w' t bi br bp bc cc /\ Bl w w' := by
 have T64 : Hid (∀ W, Bl w W -> Calls Tryz.prog 64 #[planV bi br bp] W fun e w' => e = .returned (.bool true) /\ Bl W w') := fun W hb => f64_ex bi br bp W (h.keep hb)
 have T65 : Hid (∀ W x, Bl w W -> Calls Tryz.prog 65 #[.slice (some ⟨bp, 0, none⟩) 1 1, .int .i64 x] W fun e w' => e = .returned (.tuple #[.int .i64 2, .int .i64 0]) /\ Bl W w') := fun W x hb => by
  refine (f65_c (pens bp) x W ((h.keep hb).pen) (pens_tab bp)).mono ?_
  rintro e w' ⟨n, h1, he, hb'⟩
  obtain rfl : n = 2 := h1 rfl
  exact ⟨he, hb'⟩
 have hh := HD h
 obtain ⟨R, hR⟩ : ∃ R : Ending -> World -> Prop, R = fun e w' => ∃ t bc cc, e = .returned (.tuple #[.pointer (some ⟨t, 0, none⟩), .bool true]) /\ TankAt w' t bi br bp bc cc /\ Bl w w' := ⟨_, rfl⟩
 rw [<- hR]
 have hRh := HD hR
 clear hR h
 unfold planV at T64 ⊢
 go_enter Tryz.func34, Tryz.ntmps34
 go_wp2_with fail
 refine (T64.out _ bz).mono ?_
 rintro e w1 ⟨rfl, hw1⟩
 have hB1 : Bl w w1 := bz
 have b0 : w1.cell? ⟨w.heap.size, 0, none⟩ = some (.int .i64 5) := hw1.keep (by simp [go_sem])
 have b1 : w1.cell? ⟨w.heap.size, 1, none⟩ = some (.int .i64 10) := hw1.keep (by simp [go_sem])
 have b2 : w1.cell? ⟨w.heap.size, 2, none⟩ = some (.int .i64 0) := hw1.keep (by simp [go_sem])
 have b3 : w1.cell? ⟨w.heap.size, 3, none⟩ = some (.slice (some ⟨bi, 0, none⟩) 1 1) := hw1.keep (by simp [go_sem])
 have b4 : w1.cell? ⟨w.heap.size, 4, none⟩ = some (.slice (some ⟨br, 0, none⟩) 2 2) := hw1.keep (by simp [go_sem])
 have b5 : w1.cell? ⟨w.heap.size, 5, none⟩ = some (.slice (some ⟨bp, 0, none⟩) 1 1) := hw1.keep (by simp [go_sem])
 have b6 : w1.cell? ⟨w.heap.size, 6, none⟩ = some (.int .i64 1) := hw1.keep (by simp [go_sem])
 have z1 : w.heap.size < w1.heap.size := by have := hw1.size; simp at this; omega
 clear hw1
 have hl1 := hh.out.keep hB1
 have r0 := hl1.r0
 have r1 := hl1.r1
 clear hl1
 obtain ⟨X1, hX1⟩ : ∃ X, X = w1.alloc (.cells #[.int .i64 5, .int .i64 10, .int .i64 0, .slice (some ⟨bi, 0, none⟩) 1 1, .slice (some ⟨br, 0, none⟩) 2 2, .slice (some ⟨bp, 0, none⟩) 1 1, .int .i64 1, .slice none 0 0] 142) := ⟨_, rfl⟩
 have hBX : Bl w1 X1 := by rw [hX1]; exact Bl.alloc (Bl.refl _) _
 have hXs : X1.heap.size = w1.heap.size + 1 := by rw [hX1]; simp
 have d0 : X1.cell? ⟨w1.heap.size, 0, none⟩ = some (.int .i64 5) := by rw [hX1]; simp [go_sem]
 have d1 : X1.cell? ⟨w1.heap.size, 1, none⟩ = some (.int .i64 10) := by rw [hX1]; simp [go_sem]
 have d2 : X1.cell? ⟨w1.heap.size, 2, none⟩ = some (.int .i64 0) := by rw [hX1]; simp [go_sem]
 have d3 : X1.cell? ⟨w1.heap.size, 3, none⟩ = some (.slice (some ⟨bi, 0, none⟩) 1 1) := by rw [hX1]; simp [go_sem]
 have d4 : X1.cell? ⟨w1.heap.size, 4, none⟩ = some (.slice (some ⟨br, 0, none⟩) 2 2) := by rw [hX1]; simp [go_sem]
 have d5 : X1.cell? ⟨w1.heap.size, 5, none⟩ = some (.slice (some ⟨bp, 0, none⟩) 1 1) := by rw [hX1]; simp [go_sem]
 have d6 : X1.cell? ⟨w1.heap.size, 6, none⟩ = some (.int .i64 1) := by rw [hX1]; simp [go_sem]
 have d7 : X1.cell? ⟨w1.heap.size, 7, none⟩ = some (.slice none 0 0) := by rw [hX1]; simp [go_sem]
 have df : X1.frozen? ⟨w1.heap.size, 7, none⟩ = false := by rw [hX1]; simp [go_sem]
 go_wp2_with fail
 rw [<- hX1]
 clear hX1
 have hBX0 : Bl w X1 := hB1.trans hBX
 have O0 : Own1 IV 3 (w1.heap.size + 1) X1 (⟨none, 0, []⟩ : Sl Int) := Own1.nil
 have e5 := hBX.keep b5
 clear b0 b1 b2 b3 b4 b5 b6 hBX
 refine wp_loop_rounds 3 ?_
 have zX : X1.heap.size ≥ w1.heap.size + 1 := by omega
 rw [rounds_succ]
 have r00 := (hh.out.keep hBX0).r0
 have r10 := (hh.out.keep hBX0).r1
 go_wp2_with fail
 clear r00 r10
 refine (T65.out _ _ hBX0).mono ?_
 rintro e A0 ⟨rfl, hA0⟩
 have x00 := hA0.keep d0
 have x01 := hA0.keep d1
 have x02 := hA0.keep d2
 have x03 := hA0.keep d3
 have x04 := hA0.keep d4
 have x05 := hA0.keep d5
 have x06 := hA0.keep d6
 have x07 := hA0.keep d7
 have xf0 := hA0.keepF d7 df
 have xe0 := hA0.keep e5
 have xB0 : Bl w A0 := hBX0.trans hA0
 have zA0 : A0.heap.size ≥ w1.heap.size + 1 := by have := hA0.size; omega
 obtain ⟨⟨SA0, sc0, sx0⟩, G0, heG0, hxG0, hoG0, hgG0⟩ := app1 IV (fun _ => rfl) u28 i3 (by omega) rfl (Own1.bl (O0.bl hA0) (Bl.alloc (Bl.refl _) (.cells #[.int .i64 2] 3))) (by simp; omega) (by simp) ⟨A0.heap.size, 0, none⟩ 1 2 (by simp [go_sem, IV])
 obtain rfl : sx0 = [2] := hxG0
 have hn0 := (Own1.lt (O0.bl hA0))
 clear hA0 O0 hBX0 df e5 zX d0 d1 d2 d3 d4 d5 d6 d7
 have hne0 : ∀ b, b < w1.heap.size + 1 -> (Sl.val (⟨none, 0, []⟩ : Sl Int)).ownBlock ≠ some b := fun b hb hh => by have := (hn0 b hh).1; omega
 have yB0 : Bl w G0 := Bl.grown (Bl.alloc xB0 _) hgG0 (fun g hg => by have := (hn0 g hg).1; omega)
 have y00 := grown_cell hgG0 ((Bl.alloc (Bl.refl _) (.cells #[.int .i64 2] 3)).keep x00) (hne0 _ (by omega))
 have y01 := grown_cell hgG0 ((Bl.alloc (Bl.refl _) (.cells #[.int .i64 2] 3)).keep x01) (hne0 _ (by omega))
 have y02 := grown_cell hgG0 ((Bl.alloc (Bl.refl _) (.cells #[.int .i64 2] 3)).keep x02) (hne0 _ (by omega))
 have y03 := grown_cell hgG0 ((Bl.alloc (Bl.refl _) (.cells #[.int .i64 2] 3)).keep x03) (hne0 _ (by omega))
 have y04 := grown_cell hgG0 ((Bl.alloc (Bl.refl _) (.cells #[.int .i64 2] 3)).keep x04) (hne0 _ (by omega))
 have y05 := grown_cell hgG0 ((Bl.alloc (Bl.refl _) (.cells #[.int .i64 2] 3)).keep x05) (hne0 _ (by omega))
 have y06 := grown_cell hgG0 ((Bl.alloc (Bl.refl _) (.cells #[.int .i64 2] 3)).keep x06) (hne0 _ (by omega))
 have y07 := grown_cell hgG0 ((Bl.alloc (Bl.refl _) (.cells #[.int .i64 2] 3)).keep x07) (hne0 _ (by omega))
 have ye0 := grown_cell hgG0 ((Bl.alloc (Bl.refl _) (.cells #[.int .i64 2] 3)).keep xe0) (hne0 _ (by omega))
 have yf0 := grown_fro hgG0 ((Bl.alloc (Bl.refl _) (.cells #[.int .i64 2] 3)).keep x07) ((Bl.alloc (Bl.refl _) (.cells #[.int .i64 2] 3)).keepF x07 xf0) (hne0 _ (by omega))
 have zG0 : G0.heap.size ≥ w1.heap.size + 1 := by have := hgG0.size; simp at this; omega
 clear hgG0
 go_wp2_with (at_builtin; refine wpList_append_run rfl _ _ _ rfl _ _ heG0 ?_)
 clear heG0 x00 x01 x02 x03 x04 x05 x06 x07 xf0 xe0 xB0 zA0 hne0 hn0
 obtain ⟨X2, hX2⟩ : ∃ X, X = G0.setCell ⟨w1.heap.size, 7, none⟩ (.slice SA0 1 sc0) := ⟨_, rfl⟩
 rw [<- hX2]
 have d20 : X2.cell? ⟨w1.heap.size, 0, none⟩ = some (.int .i64 5) := by rw [hX2]; simp [go_sem, y00]
 have d21 : X2.cell? ⟨w1.heap.size, 1, none⟩ = some (.int .i64 10) := by rw [hX2]; simp [go_sem, y01]
 have d22 : X2.cell? ⟨w1.heap.size, 2, none⟩ = some (.int .i64 0) := by rw [hX2]; simp [go_sem, y02]
 have d23 : X2.cell? ⟨w1.heap.size, 3, none⟩ = some (.slice (some ⟨bi, 0, none⟩) 1 1) := by rw [hX2]; simp [go_sem, y03]
 have d24 : X2.cell? ⟨w1.heap.size, 4, none⟩ = some (.slice (some ⟨br, 0, none⟩) 2 2) := by rw [hX2]; simp [go_sem, y04]
 have d25 : X2.cell? ⟨w1.heap.size, 5, none⟩ = some (.slice (some ⟨bp, 0, none⟩) 1 1) := by rw [hX2]; simp [go_sem, y05]
 have d26 : X2.cell? ⟨w1.heap.size, 6, none⟩ = some (.int .i64 1) := by rw [hX2]; simp [go_sem, y06]
 have d27 : X2.cell? ⟨w1.heap.size, 7, none⟩ = some (.slice SA0 1 sc0) := by rw [hX2]; simp [go_sem, y07]
 have f2 : X2.frozen? ⟨w1.heap.size, 7, none⟩ = false := by rw [hX2]; simp [go_sem, yf0]
 have e2 : X2.cell? ⟨w.heap.size, 5, none⟩ = some (.slice (some ⟨bp, 0, none⟩) 1 1) := by rw [hX2]; simp [go_sem, ye0]
 have o2 : Own1 IV 3 (w1.heap.size + 1) X2 ⟨SA0, sc0, [2]⟩ := by rw [hX2]; exact Own1.other hoG0 (fun hh => by have := (Own1.lt hoG0 _ hh).1; simp only at this; omega) _
 have hBX2 : Bl w X2 := by rw [hX2]; exact Bl.setCell yB0 (by simp only; omega) _
 have zX2 : X2.heap.size ≥ w1.heap.size + 1 := by rw [hX2]; simp; omega
 clear hX2 hoG0 yB0 zG0 yf0 ye0 y00 y01 y02 y03 y04 y05 y06 y07
 rw [rounds_succ]
 have r01 := (hh.out.keep hBX2).r0
 have r11 := (hh.out.keep hBX2).r1
 go_wp2_with fail
 clear r01 r11
 refine (T65.out _ _ hBX2).mono ?_
 rintro e A1 ⟨rfl, hA1⟩
 have x10 := hA1.keep d20
 have x11 := hA1.keep d21
 have x12 := hA1.keep d22
 have x13 := hA1.keep d23
 have x14 := hA1.keep d24
 have x15 := hA1.keep d25
 have x16 := hA1.keep d26
 have x17 := hA1.keep d27
 have xf1 := hA1.keepF d27 f2
 have xe1 := hA1.keep e2
 have xB1 : Bl w A1 := hBX2.trans hA1
 have zA1 : A1.heap.size ≥ w1.heap.size + 1 := by have := hA1.size; omega
 obtain ⟨⟨SA1, sc1, sx1⟩, G1, heG1, hxG1, hoG1, hgG1⟩ := app1 IV (fun _ => rfl) u28 i3 (by omega) rfl (Own1.bl (o2.bl hA1) (Bl.alloc (Bl.refl _) (.cells #[.int .i64 2] 3))) (by simp; omega) (by simp) ⟨A1.heap.size, 0, none⟩ 1 2 (by simp [go_sem, IV])
 obtain rfl : sx1 = [2, 2] := hxG1
 have hn1 := (Own1.lt (o2.bl hA1))
 clear hA1 o2 hBX2 f2 e2 zX2 d20 d21 d22 d23 d24 d25 d26 d27
 have hne1 : ∀ b, b < w1.heap.size + 1 -> (Sl.val (⟨SA0, sc0, [2]⟩ : Sl Int)).ownBlock ≠ some b := fun b hb hh => by have := (hn1 b hh).1; omega
 have yB1 : Bl w G1 := Bl.grown (Bl.alloc xB1 _) hgG1 (fun g hg => by have := (hn1 g hg).1; omega)
 have y10 := grown_cell hgG1 ((Bl.alloc (Bl.refl _) (.cells #[.int .i64 2] 3)).keep x10) (hne1 _ (by omega))
 have y11 := grown_cell hgG1 ((Bl.alloc (Bl.refl _) (.cells #[.int .i64 2] 3)).keep x11) (hne1 _ (by omega))
 have y12 := grown_cell hgG1 ((Bl.alloc (Bl.refl _) (.cells #[.int .i64 2] 3)).keep x12) (hne1 _ (by omega))
 have y13 := grown_cell hgG1 ((Bl.alloc (Bl.refl _) (.cells #[.int .i64 2] 3)).keep x13) (hne1 _ (by omega))
 have y14 := grown_cell hgG1 ((Bl.alloc (Bl.refl _) (.cells #[.int .i64 2] 3)).keep x14) (hne1 _ (by omega))
 have y15 := grown_cell hgG1 ((Bl.alloc (Bl.refl _) (.cells #[.int .i64 2] 3)).keep x15) (hne1 _ (by omega))
 have y16 := grown_cell hgG1 ((Bl.alloc (Bl.refl _) (.cells #[.int .i64 2] 3)).keep x16) (hne1 _ (by omega))
 have y17 := grown_cell hgG1 ((Bl.alloc (Bl.refl _) (.cells #[.int .i64 2] 3)).keep x17) (hne1 _ (by omega))
 have ye1 := grown_cell hgG1 ((Bl.alloc (Bl.refl _) (.cells #[.int .i64 2] 3)).keep xe1) (hne1 _ (by omega))
 have yf1 := grown_fro hgG1 ((Bl.alloc (Bl.refl _) (.cells #[.int .i64 2] 3)).keep x17) ((Bl.alloc (Bl.refl _) (.cells #[.int .i64 2] 3)).keepF x17 xf1) (hne1 _ (by omega))
 have zG1 : G1.heap.size ≥ w1.heap.size + 1 := by have := hgG1.size; simp at this; omega
 clear hgG1
 go_wp2_with (at_builtin; refine wpList_append_run rfl _ _ _ rfl _ _ heG1 ?_)
 clear heG1 x10 x11 x12 x13 x14 x15 x16 x17 xf1 xe1 xB1 zA1 hne1 hn1
 obtain ⟨X3, hX3⟩ : ∃ X, X = G1.setCell ⟨w1.heap.size, 7, none⟩ (.slice SA1 2 sc1) := ⟨_, rfl⟩
 rw [<- hX3]
 have d30 : X3.cell? ⟨w1.heap.size, 0, none⟩ = some (.int .i64 5) := by rw [hX3]; simp [go_sem, y10]
 have d31 : X3.cell? ⟨w1.heap.size, 1, none⟩ = some (.int .i64 10) := by rw [hX3]; simp [go_sem, y11]
 have d32 : X3.cell? ⟨w1.heap.size, 2, none⟩ = some (.int .i64 0) := by rw [hX3]; simp [go_sem, y12]
 have d33 : X3.cell? ⟨w1.heap.size, 3, none⟩ = some (.slice (some ⟨bi, 0, none⟩) 1 1) := by rw [hX3]; simp [go_sem, y13]
 have d34 : X3.cell? ⟨w1.heap.size, 4, none⟩ = some (.slice (some ⟨br, 0, none⟩) 2 2) := by rw [hX3]; simp [go_sem, y14]
 have d35 : X3.cell? ⟨w1.heap.size, 5, none⟩ = some (.slice (some ⟨bp, 0, none⟩) 1 1) := by rw [hX3]; simp [go_sem, y15]
 have d36 : X3.cell? ⟨w1.heap.size, 6, none⟩ = some (.int .i64 1) := by rw [hX3]; simp [go_sem, y16]
 have d37 : X3.cell? ⟨w1.heap.size, 7, none⟩ = some (.slice SA1 2 sc1) := by rw [hX3]; simp [go_sem, y17]
 have f3 : X3.frozen? ⟨w1.heap.size, 7, none⟩ = false := by rw [hX3]; simp [go_sem, yf1]
 have e3 : X3.cell? ⟨w.heap.size, 5, none⟩ = some (.slice (some ⟨bp, 0, none⟩) 1 1) := by rw [hX3]; simp [go_sem, ye1]
 have o3 : Own1 IV 3 (w1.heap.size + 1) X3 ⟨SA1, sc1, [2, 2]⟩ := by rw [hX3]; exact Own1.other hoG1 (fun hh => by have := (Own1.lt hoG1 _ hh).1; simp only at this; omega) _
 have hBX3 : Bl w X3 := by rw [hX3]; exact Bl.setCell yB1 (by simp only; omega) _
 have zX3 : X3.heap.size ≥ w1.heap.size + 1 := by rw [hX3]; simp; omega
 clear hX3 hoG1 yB1 zG1 yf1 ye1 y10 y11 y12 y13 y14 y15 y16 y17
 rw [rounds_succ]
 go_wp2_with fail
 obtain ⟨gc, hgc, -, -⟩ := Own1.ptr o3 (by simp)
 simp only at hgc
 subst hgc
 have hT : TankAt X3 w1.heap.size bi br bp gc sc1 := ⟨hh.out.keep hBX3, fun k hk => by
  match k, hk with
  | 0, _ => exact d30
  | 1, _ => exact d31
  | 2, _ => exact d32
  | 3, _ => exact d33
  | 4, _ => exact d34
  | 5, _ => exact d35
  | 6, _ => exact d36
  | 7, _ => exact d37, Own1.cell o3 0 (by simp), Own1.cell o3 1 (by simp)⟩
 have hfin : R (.returned (.tuple #[.pointer (some ⟨w1.heap.size, 0, none⟩), .bool true])) X3 := by rw [hRh.out]; exact ⟨_, _, _, rfl, hT, hBX3⟩
 first | exact hfin | exact bodyPost_ret (v := .tuple #[.pointer (some ⟨w1.heap.size, 0, none⟩), .bool true]) (by simp [results, Tryz.results34, go_sem, *]; try exact ⟨rfl, rfl⟩) rfl hfin | trace_state
open Go.Maps Go.Sort
abbrev D0m : DataW Unit := .map []
abbrev D1m : DataW Unit := D0m.put (.int .i64 8) (.lit (.bool true))
abbrev D2m : DataW Unit := D1m.put (.int .i64 4) (.lit (.bool true))
theorem keys84 : intKeys D2m = [4, 8] := by rfl
theorem size84 : Maps.size D2m = 2 := by rfl
noncomputable abbrev RBo : Value -> Option (DataW Unit × List MemPlace) := plainElem Tryz.prog 4
theorem owns_keep {H : Type} {k : TypeId} {R : Value -> Option (DataW H × List MemPlace)} {b n : Nat} {D : DataW H} {w w' : World} (h : w.ownsMap Tryz.prog k R b n D) (hb : Bl w w') : w'.ownsMap Tryz.prog k R b n D := by
 have hlt := h.lt
 obtain ⟨es, clock, he, r⟩ := h
 exact ⟨es, clock, (Below.block hb b hlt).trans he, r⟩
theorem uu4 : Tryz.prog.underlying 4 = some .bool := by kernel_rfl
theorem f66_84 (b q nn : Nat) (w : World) (hc : w.cell? ⟨q, 0, none⟩ = some (.map (some b))) (hown : w.ownsMap Tryz.prog 3 RBo b nn D2m) :
 Calls Tryz.prog 66 #[.func (.func 98) #[] #[.pointer (some ⟨q, 0, none⟩)]] w fun e w' => ∃ g cap, e = .returned (.slice (some ⟨g, 0, none⟩) 2 cap) /\ w.heap.size ≤ g /\ w'.cell? ⟨g, 0, none⟩ = some (.int .i64 4) /\ w'.cell? ⟨g, 1, none⟩ = some (.int .i64 8) /\ Bl w w' := by
 refine (f66_keys b q nn D2m RBo w hc hown (by rw [size84]; decide) (by rw [size84]; decide)).mono ?_
 rintro e w' ⟨v, ss, rfl, hp, hrow, hnil, hB⟩
 rw [keys84] at hp
 have hl : ss.length = 2 := hp.length_eq
 have hm : ss.mergeSort (fun x y => decide (x ≤ y)) = [4, 8] := by
  have := mergeSort_of_perm_i hp
  rw [show (fun x y : Int => decide (x ≤ y)) = leI from rfl, this]
  exact List.mergeSort_of_pairwise (by simp [leI])
 rw [hm, hl] at hrow
 have hr := hrow
 rcases hrow.2 with ⟨h1, h2⟩ | ⟨g, cap, cur, rfl, hge, _⟩
 ·cases h2
 ·have c0 := World.ownsRow.cellAt hr 0 (by decide)
  have c1 := World.ownsRow.cellAt hr 1 (by decide)
  exact ⟨g, cap, rfl, hge, c0, c1, hB⟩
def SA3 (x : Addr × Nat × Nat) : Value := .slice (some x.1) x.2.1 x.2.2
structure ListsAt (w : World) (g a s ca sc : Nat) : Prop where
 l0 : w.cell? ⟨g, 0, none⟩ = some (.slice (some ⟨a, 0, none⟩) 1 ca)
 l1 : w.cell? ⟨g, 1, none⟩ = some (.slice (some ⟨s, 0, none⟩) 2 sc)
 a0 : w.cell? ⟨a, 0, none⟩ = some (.int .i64 5)
 s0 : w.cell? ⟨s, 0, none⟩ = some (.int .i64 4)
 s1 : w.cell? ⟨s, 1, none⟩ = some (.int .i64 8)
theorem ListsAt.keep {w w' : World} {g a s ca sc : Nat} (h : ListsAt w g a s ca sc) (hb : Bl w w') : ListsAt w' g a s ca sc := ⟨hb.keep h.l0, hb.keep h.l1, hb.keep h.a0, hb.keep h.s0, hb.keep h.s1⟩
set_option maxHeartbeats 4000000 in
theorem f35_ex (t bi br bp bc cc : Nat) (w : World) (h : TankAt w t bi br bp bc cc) : Calls Tryz.prog 35 #[.pointer (some ⟨t, 0, none⟩), .int .i64 0, .int .i64 5] w fun e w' => ∃ g a s c ca sc, e = .returned (.tuple #[.slice (some ⟨g, 0, none⟩) 2 c, .bool true]) /\ ListsAt w' g a s ca sc /\ Bl w w' := by
 have hh := HD h
 have T38 : Hid (∀ W, Bl w W -> ∀ (i : Nat) (r a : Int), (i = 0 /\ r = 0 /\ a = 8 \/ i = 1 /\ r = 4 /\ a = 4) -> Calls Tryz.prog 38 #[.pointer (some ⟨t, 0, none⟩), .int .i64 5, .int .i64 0, .int .i64 i] W fun e w' => e = .returned (.tuple #[.int .i64 a, .int .i64 2, .bool true]) /\ Bl W w') := fun W hb i r a hi => f38_ex t bi br bp bc cc i r a W (hh.out.keep hb) hi
 obtain ⟨R, hR⟩ : ∃ R : Ending -> World -> Prop, R = fun e w' => ∃ g a s c ca sc, e = .returned (.tuple #[.slice (some ⟨g, 0, none⟩) 2 c, .bool true]) /\ ListsAt w' g a s ca sc /\ Bl w w' := ⟨_, rfl⟩
 rw [<- hR]
 have hRh := HD hR
 clear hR h
 have t3 := hh.out.box 3 (by omega)
 have t4 := hh.out.box 4 (by omega)
 simp only [tankCells, List.getElem_cons_succ, List.getElem_cons_zero] at t3 t4
 have hmm := @run_makeMap Tryz.prog
 go_enter Tryz.func35, Tryz.ntmps35
 go_wp2_with fail
 obtain ⟨X1, hX1⟩ : ∃ X, X = (w.alloc (.cells #[.int .i64 5] 3)).alloc (.cells #[.slice (some ⟨w.heap.size, 0, none⟩) 1 1] 28) := ⟨_, rfl⟩
 have hB1 : Bl w X1 := by rw [hX1]; exact bz
 have a0 : X1.cell? ⟨w.heap.size, 0, none⟩ = some (.int .i64 5) := by rw [hX1]; simp [go_sem]
 have b0 : X1.cell? ⟨w.heap.size + 1, 0, none⟩ = some (.slice (some ⟨w.heap.size, 0, none⟩) 1 1) := by rw [hX1]; simp [go_sem]
 have O1 : Own1 SA3 28 (w.heap.size + 1) X1 ⟨some ⟨w.heap.size + 1, 0, none⟩, 1, [(⟨w.heap.size, 0, none⟩, 1, 1)]⟩ := by
  rw [hX1]
  refine ⟨rfl, .inr ⟨w.heap.size + 1, 1, #[.slice (some ⟨w.heap.size, 0, none⟩) 1 1], rfl, Nat.le_refl _, ?_, Nat.le_refl _, by decide, rfl, rfl⟩⟩
  have := heap_alloc_new (w.alloc (.cells #[.int .i64 5] 3)) (.cells #[.slice (some ⟨w.heap.size, 0, none⟩) 1 1] 28)
  simpa using this
 have z1 : X1.heap.size = w.heap.size + 2 := by rw [hX1]; simp
 rw [<- hX1]
 clear hX1
 have t31 := hB1.keep t3
 have t41 := hB1.keep t4
 refine wp_loop_rounds 2 ?_
 rw [rounds_succ]
 have hBM : Bl X1 (X1.alloc (.map #[] 0)) := bz
 have M0 := World.ownsMap_made X1 Tryz.prog 3 RBo
 have t32 := hBM.keep t31
 have t42 := hBM.keep t41
 have a1 := hBM.keep a0
 have b1 := hBM.keep b0
 have zM : (X1.alloc (.map #[] 0)).heap.size = w.heap.size + 3 := by simp; omega
 rw [z1] at M0
 go_wp2_with fail
 refine wp_loop_rounds 2 ?_
 rw [rounds_succ]
 go_wp2_with fail
 refine wp_loop_rounds 3 ?_
 rw [rounds_succ]
 go_wp2_with fail
 have a0h := HD a0
 clear a0 b0 t31 t41 t32 t42 a1 b1
 refine (T38.out _ (hB1.trans hBM) 0 0 8 (.inl ⟨rfl, rfl, rfl⟩)).mono ?_
 rintro e w2 ⟨rfl, hw2⟩
 obtain ⟨w3, he3, M3, hg3⟩ := World.ownsMap.update (owns_keep M0 hw2) (int_keyed u3) u144 (by decide) (key := .int .i64 8) (val := .bool true) (keyOf_int_mk u3 (by decide)) (plainElem_bool uu4 true)
 have hBX3 : Bl X1 w3 := Bl.grown (hBM.trans hw2) hg3 (fun k hk => by cases hk; omega)
 clear hw2 hg3 M0 hBM
 go_wp2_with fail
 clear he3
 rw [rounds_succ]
 go_wp2_with fail
 refine (T38.out _ (hB1.trans hBX3) 1 4 4 (.inr ⟨rfl, rfl, rfl⟩)).mono ?_
 rintro e w4 ⟨rfl, hw4⟩
 obtain ⟨w5, he5, M5, hg5⟩ := World.ownsMap.update (owns_keep M3 hw4) (int_keyed u3) u144 (by decide) (key := .int .i64 4) (val := .bool true) (keyOf_int_mk u3 (by decide)) (plainElem_bool uu4 true)
 have hBX5 : Bl X1 w5 := Bl.grown (hBX3.trans hw4) hg5 (fun k hk => by cases hk; omega)
 clear hw4 hg5 M3 hBX3
 go_wp2_with fail
 clear he5
 rw [rounds_succ]
 go_wp2_with fail
 rw [rounds_succ]
 have hlen : Sem.run Tryz.prog (Builtin.len_ #[144] 3 #[.map (some (w.heap.size + 2))]) w5 = .ok (.int .i64 2) w5 := World.ownsMap.len M5 u144 3
 go_wp2_with fail
 refine (f67_c (some (w.heap.size + 2)) w5).mono ?_
 rintro e w6 ⟨rfl, rfl⟩
 go_wp2_with fail
 refine (f66_84 (w.heap.size + 2) w5.heap.size _ _ (by simp [go_sem]) (owns_keep M5 (Bl.alloc (Bl.refl _) _))).mono ?_
 rintro e w7 ⟨gs, cs, rfl, hge, s0, s1, hw7⟩
 have z5 := hBX5.size
 simp only [aZ] at hge
 have hBX7 : Bl X1 w7 := (Bl.alloc hBX5 _).trans hw7
 have zz7 : X1.heap.size ≤ w7.heap.size := hBX7.size
 clear hw7 hBX5 M5 hlen
 obtain ⟨⟨A8, c8, l8⟩, w8, he8, hx8, ho8, hg8⟩ := app1 SA3 (fun _ => rfl) u101 i28 (by omega) rfl (Own1.bl (O1.bl hBX7) (Bl.alloc (Bl.refl _) (.cells #[.slice (some ⟨gs, 0, none⟩) 2 cs] 28))) (by simp; omega) (by simp) ⟨w7.heap.size, 0, none⟩ 1 (⟨gs, 0, none⟩, 2, cs) (by simp [go_sem, SA3])
 obtain rfl : l8 = [(⟨w.heap.size, 0, none⟩, 1, 1), (⟨gs, 0, none⟩, 2, cs)] := hx8
 have hgs := cell_lt s0
 simp only at hgs
 have hB8 : Bl w w8 := Bl.grown (Bl.alloc (hB1.trans hBX7) _) hg8 (fun g hg => by simp [Value.ownBlock] at hg; omega)
 go_wp2_with (at_builtin; refine wpList_append_run rfl _ _ _ rfl _ _ he8 ?_)
 obtain ⟨g8, hA8, -, -⟩ := Own1.ptr ho8 (by simp)
 simp only at hA8
 subst hA8
 have hl : ListsAt w8 g8 w.heap.size gs 1 cs := by
  have hne : ∀ b, b ≠ w.heap.size + 1 -> (Sl.val (⟨some ⟨w.heap.size + 1, 0, none⟩, 1, [(⟨w.heap.size, 0, none⟩, 1, 1)]⟩ : Sl (Addr × Nat × Nat))).ownBlock ≠ some b := fun b hb hh => by simp [Value.ownBlock] at hh; omega
  exact ⟨Own1.cell ho8 0 (by simp), Own1.cell ho8 1 (by simp), grown_cell hg8 ((Bl.alloc hBX7 _).keep a0h.out) (hne _ (by omega)), grown_cell hg8 ((Bl.alloc (Bl.refl _) _).keep s0) (hne _ (by omega)), grown_cell hg8 ((Bl.alloc (Bl.refl _) _).keep s1) (hne _ (by omega))⟩
 have t38 := hB8.keep t3
 have hfin : R (.returned (.tuple #[.slice (some ⟨g8, 0, none⟩) 2 c8, .bool true])) w8 := by rw [hRh.out]; exact ⟨_, _, _, _, _, _, rfl, hl, hB8⟩
 rw [rounds_succ]
 clear he8 hg8
 go_wp2_with fail
 first | exact hfin | exact bodyPost_ret (v := .tuple #[.slice (some ⟨g8, 0, none⟩) 2 c8, .bool true]) (by simp [results, Tryz.results35, go_sem, *]; try exact ⟨rfl, rfl⟩) rfl hfin | trace_state
set_option maxHeartbeats 4000000 in
theorem f37_ex (t bi br bp bc cc mb : Nat) (f : Int -> Option Value) (w : World) (h : TankAt w t bi br bp bc cc) (hm : MapAt KI w mb f) (f8 : f 8 = some (.int .i64 0)) (f4 : f 4 = some (.int .i64 0)) : Calls Tryz.prog 37 #[.pointer (some ⟨t, 0, none⟩), .int .i64 0, .int .i64 5, .map (some mb)] w fun e w' => e = .returned (.tuple #[.int .i64 0, .int .i64 2, .bool true]) /\ Bl w w' := by
 have hh := HD h
 have mm := HD hm
 have T38 : Hid (∀ W, Bl w W -> ∀ (i : Nat) (r a : Int), (i = 0 /\ r = 0 /\ a = 8 \/ i = 1 /\ r = 4 /\ a = 4) -> Calls Tryz.prog 38 #[.pointer (some ⟨t, 0, none⟩), .int .i64 5, .int .i64 0, .int .i64 i] W fun e w' => e = .returned (.tuple #[.int .i64 a, .int .i64 2, .bool true]) /\ Bl W w') := fun W hb i r a hi => f38_ex t bi br bp bc cc i r a W (hh.out.keep hb) hi
 have L : Hid (∀ W, Bl w W -> ∀ x : Int, f x = some (.int .i64 0) -> Sem.run Tryz.prog (Instr.lookup 97 (.map (some mb)) (.int .i64 x) true) W = .ok (.tuple #[.int .i64 0, .bool true]) W) := fun W hb x hx => by
  have := (mm.out.keep hb).lookup u97 u3 (zeroInt _) x true
  rw [hx] at this
  exact this
 obtain ⟨R, hR⟩ : ∃ R : Ending -> World -> Prop, R = fun e w' => e = .returned (.tuple #[.int .i64 0, .int .i64 2, .bool true]) /\ Bl w w' := ⟨_, rfl⟩
 rw [<- hR]
 have hRh := HD hR
 clear hR h hm
 have t4 := hh.out.box 4 (by omega)
 simp only [tankCells, List.getElem_cons_succ, List.getElem_cons_zero] at t4
 have F8 := HD f8
 have F4 := HD f4
 clear f8 f4
 go_enter Tryz.func37, Tryz.ntmps37
 go_wp2_with fail
 refine wp_loop_rounds 3 ?_
 rw [rounds_succ]
 go_wp2_with fail
 refine (T38.out _ (Bl.refl _) 0 0 8 (.inl ⟨rfl, rfl, rfl⟩)).mono ?_
 rintro e w2 ⟨rfl, hw2⟩
 have l2 := L.out _ hw2 8 F8.out
 go_wp2_with fail
 clear l2
 rw [rounds_succ]
 go_wp2_with fail
 refine (T38.out _ hw2 1 4 4 (.inr ⟨rfl, rfl, rfl⟩)).mono ?_
 rintro e w3 ⟨rfl, hw3⟩
 have hB3 : Bl w w3 := hw2.trans hw3
 have l3 := L.out _ hB3 4 F4.out
 clear hw2 hw3
 go_wp2_with fail
 clear l3
 rw [rounds_succ]
 have hfin : R (.returned (.tuple #[.int .i64 0, .int .i64 2, .bool true])) w3 := by rw [hRh.out]; exact ⟨rfl, hB3⟩
 go_wp2_with fail
 first | exact hfin | exact bodyPost_ret (v := .tuple #[.int .i64 0, .int .i64 2, .bool true]) (by simp [results, Tryz.results37, go_sem, *]; try exact ⟨rfl, rfl⟩) rfl hfin | trace_state
theorem MapAt.setC {κ : Type} {K : Keys κ} {w : World} {b : Nat} {f : κ -> Option Value} (h : MapAt K w b f) {a : Addr} (hne : b ≠ a.block) (v : Value) : MapAt K (w.setCell a v) b f := by
 obtain ⟨es, clock, he, r⟩ := h
 refine ⟨es, clock, ?_, r⟩
 rw [<- he]
 simp only [World.setCell, Array.getElem?_modify]
 rw [if_neg (by omega)]
theorem u104 : Tryz.prog.underlying 104 = some (.slice 97) := by kernel_rfl
theorem i97 : ∃ i, Tryz.prog.info? 97 = some i /\ i.zero = some (.map none) /\ i.size = 1 /\ i.bytes = 8 := info_of (by kernel_rfl)
theorem make2 (w : World) : Sem.run Tryz.prog (Instr.makeSlice 104 (.int .i64 2) (.int .i64 2)) w = .ok (.slice (some ⟨w.heap.size, 0, none⟩) 2 2) (w.alloc (.cells #[.map none, .map none] 97)) := by
 obtain ⟨i, hi, h0, h1, h2⟩ := i97
 have := run_make (P := Tryz.prog) w 104 97 i (.map none) u104 hi h0 .i64 .i64 2 2 (by decide) (by decide) (by rw [h2]; decide) (by decide)
 rw [h1, show madeCells (Value.map none).cells ((2 : Int).toNat * 1) = #[.map none, .map none] from by
  unfold madeCells
  rw [show Array.range (Int.toNat 2 * 1) = #[0, 1] by decide, show (Value.map none).cells = #[.map none] by simp [Value.cells]]
  simp] at this
 exact this
set_option maxHeartbeats 4000000 in
theorem f36_ex (t bi br bp bc cc g a s c ca sc : Nat) (w : World) (h : TankAt w t bi br bp bc cc) (hl : ListsAt w g a s ca sc) : Calls Tryz.prog 36 #[.pointer (some ⟨t, 0, none⟩), .int .i64 0, .slice (some ⟨g, 0, none⟩) 2 c] w fun e w' => ∃ o m0 m1 f0 f1, e = .returned (.slice (some ⟨o, 0, none⟩) 2 2) /\ w'.cell? ⟨o, 0, none⟩ = some (.map (some m0)) /\ w'.cell? ⟨o, 1, none⟩ = some (.map (some m1)) /\ MapAt KI w' m0 f0 /\ MapAt KI w' m1 f1 /\ f0 5 = some (.int .i64 2) /\ f1 8 = some (.int .i64 0) /\ f1 4 = some (.int .i64 0) /\ Bl w w' := by
 have hh := HD h
 have hlh := HD hl
 obtain ⟨R, hR⟩ : ∃ R : Ending -> World -> Prop, R = fun e w' => ∃ o m0 m1 f0 f1, e = .returned (.slice (some ⟨o, 0, none⟩) 2 2) /\ w'.cell? ⟨o, 0, none⟩ = some (.map (some m0)) /\ w'.cell? ⟨o, 1, none⟩ = some (.map (some m1)) /\ MapAt KI w' m0 f0 /\ MapAt KI w' m1 f1 /\ f0 5 = some (.int .i64 2) /\ f1 8 = some (.int .i64 0) /\ f1 4 = some (.int .i64 0) /\ Bl w w' := ⟨_, rfl⟩
 rw [<- hR]
 have hRh := HD hR
 clear hR h hl
 have l0 := hlh.out.l0
 have l1 := hlh.out.l1
 have a0 := hlh.out.a0
 have s0 := hlh.out.s0
 have s1 := hlh.out.s1
 have hmk : Sem.run Tryz.prog (Instr.makeSlice 104 (.int .i64 2) (.int .i64 2)) w = .ok (.slice (some ⟨w.heap.size, 0, none⟩) 2 2) (w.alloc (.cells #[.map none, .map none] 97)) := make2 w
 obtain ⟨X1, hX1⟩ : ∃ X, X = w.alloc (.cells #[.map none, .map none] 97) := ⟨_, rfl⟩
 rw [<- hX1] at hmk
 have hB1 : Bl w X1 := by rw [hX1]; exact bz
 have o0 : X1.cell? ⟨w.heap.size, 0, none⟩ = some (.map none) := by rw [hX1]; simp [go_sem]
 have o1 : X1.cell? ⟨w.heap.size, 1, none⟩ = some (.map none) := by rw [hX1]; simp [go_sem]
 have of0 : X1.frozen? ⟨w.heap.size, 0, none⟩ = false := by rw [hX1]; simp [go_sem]
 have of1 : X1.frozen? ⟨w.heap.size, 1, none⟩ = false := by rw [hX1]; simp [go_sem]
 have z1 : X1.heap.size = w.heap.size + 1 := by rw [hX1]; simp
 clear hX1
 have hmm := @run_makeMap Tryz.prog
 have l11 := hB1.keep l1
 have hg := cell_lt l1
 have hg1 := cell_lt l11
 simp only at hg hg1
 go_enter Tryz.func36, Tryz.ntmps36
 go_wp2_with fail
 obtain ⟨X2, hX2⟩ : ∃ X, X = (X1.setCell ⟨w.heap.size, 1, none⟩ (.map (some (w.heap.size + 1)))).alloc (.map #[] 0) := ⟨_, rfl⟩
 rw [<- hX2]
 have M2 : MapAt KI X2 (w.heap.size + 1) (fun _ => none) := by rw [hX2]; exact MapAt.made' KI _ (by simp; omega)
 have hB2 : Bl w X2 := by rw [hX2]; exact Bl.alloc (Bl.setCell hB1 (by simp only; omega) _) _
 have p0 : X2.cell? ⟨w.heap.size, 0, none⟩ = some (.map none) := by rw [hX2]; exact (Bl.alloc (Bl.refl _) _).keep (by simp [go_sem, o0])
 have p1 : X2.cell? ⟨w.heap.size, 1, none⟩ = some (.map (some (w.heap.size + 1))) := by rw [hX2]; exact (Bl.alloc (Bl.refl _) _).keep (by simp [go_sem, o1])
 have pf0 : X2.frozen? ⟨w.heap.size, 0, none⟩ = false := by rw [hX2]; exact (Bl.alloc (Bl.refl _) _).keepF (v := .map none) (by simp [go_sem, o0]) (by simp [go_sem, of0])
 have z2 : X2.heap.size = w.heap.size + 2 := by rw [hX2]; simp; omega
 clear hX2 o0 o1 of0 of1 hB1 l11 hg1 z1 X1 hmk
 have s02 := hB2.keep s0
 refine wp_loop_rounds 3 ?_
 rw [rounds_succ]
 obtain ⟨X3, he3, M3, hO3⟩ := MapAt.store M2 u97 u3 (4 : Int) (.int .i64 0)
 have he3' : Sem.run Tryz.prog (Instr.mapUpdate 97 (.map (some (w.heap.size + 1))) (.int .i64 4) (.int .i64 0)) X2 = .ok () X3 := he3
 have hB3 : Bl w X3 := Only.bl hB2 hO3 (by omega)
 have q0 : X3.cell? ⟨w.heap.size, 0, none⟩ = some (.map none) := by rw [hO3.cell _ _ (by omega)]; exact p0
 have q1 : X3.cell? ⟨w.heap.size, 1, none⟩ = some (.map (some (w.heap.size + 1))) := by rw [hO3.cell _ _ (by omega)]; exact p1
 have qf0 : X3.frozen? ⟨w.heap.size, 0, none⟩ = false := by rw [hO3.frozen _ _ (by omega)]; exact pf0
 have z3 : X3.heap.size = w.heap.size + 2 := by rw [hO3.size]; exact z2
 clear he3 hO3
 go_wp2_with fail
 clear he3' M2 hB2 p0 p1 pf0 s02
 have s13 := hB3.keep s1
 obtain ⟨X4, he4, M4, hO4⟩ := MapAt.store M3 u97 u3 (8 : Int) (.int .i64 0)
 have he4' : Sem.run Tryz.prog (Instr.mapUpdate 97 (.map (some (w.heap.size + 1))) (.int .i64 8) (.int .i64 0)) X3 = .ok () X4 := he4
 have hB4 : Bl w X4 := Only.bl hB3 hO4 (by omega)
 have p0 : X4.cell? ⟨w.heap.size, 0, none⟩ = some (.map none) := by rw [hO4.cell _ _ (by omega)]; exact q0
 have p1 : X4.cell? ⟨w.heap.size, 1, none⟩ = some (.map (some (w.heap.size + 1))) := by rw [hO4.cell _ _ (by omega)]; exact q1
 have pf0 : X4.frozen? ⟨w.heap.size, 0, none⟩ = false := by rw [hO4.frozen _ _ (by omega)]; exact qf0
 have z4 : X4.heap.size = w.heap.size + 2 := by rw [hO4.size]; exact z3
 clear he4 hO4
 rw [rounds_succ]
 go_wp2_with fail
 clear he4' M3 hB3 q0 q1 qf0 s13 z3 z2
 rw [rounds_succ]
 have l04 := hB4.keep l0
 have hg4 : g < w.heap.size + 2 := by omega
 go_wp2_with fail
 refine wp_loop_rounds 2 ?_
 rw [rounds_succ]
 have a04 := hB4.keep a0
 have hga := cell_lt a0
 simp only at hga
 have hga4 : a < w.heap.size + 2 := by omega
 go_wp2_with fail
 obtain ⟨X5, hX5⟩ : ∃ X, X = (X4.setCell ⟨w.heap.size, 0, none⟩ (.map (some (w.heap.size + 2)))).alloc (.map #[] 0) := ⟨_, rfl⟩
 rw [<- hX5]
 have M5 := HD (show MapAt KI X5 (w.heap.size + 1) _ from by rw [hX5]; exact (M4.setC (a := ⟨w.heap.size, 0, none⟩) (by simp only; omega) _).keep (Bl.alloc (Bl.refl _) _))
 have N5 : MapAt KI X5 (w.heap.size + 2) (fun _ => none) := by rw [hX5]; exact MapAt.made' KI _ (by simp; omega)
 have hB5 : Bl w X5 := by rw [hX5]; exact Bl.alloc (Bl.setCell hB4 (by simp only; omega) _) _
 have r0 : X5.cell? ⟨w.heap.size, 0, none⟩ = some (.map (some (w.heap.size + 2))) := by rw [hX5]; exact (Bl.alloc (Bl.refl _) _).keep (by simp [go_sem, p0])
 have r1 : X5.cell? ⟨w.heap.size, 1, none⟩ = some (.map (some (w.heap.size + 1))) := by rw [hX5]; exact (Bl.alloc (Bl.refl _) _).keep (by simp [go_sem, p1])
 have z5 : X5.heap.size = w.heap.size + 3 := by rw [hX5]; simp; omega
 clear hX5 p0 p1 pf0 hB4 l04 hg4 hga4 z4 M4 a04
 have a05 := hB5.keep a0
 refine wp_loop_rounds 2 ?_
 rw [rounds_succ]
 go_wp2_with fail
 refine (f37_ex t bi br bp bc cc (w.heap.size + 1) _ X5 (hh.out.keep hB5) M5.out (upd_same _ _ _) (by rw [upd_ne _ _ _ (by decide)]; exact upd_same _ _ _)).mono ?_
 rintro e X6 ⟨rfl, hw6⟩
 have q0 := hw6.keep r0
 have q1 := hw6.keep r1
 have M6 := M5.out.keep hw6
 have N6 := N5.keep hw6
 have hB6 := hB5.trans hw6
 clear hw6 r0 r1 N5 hB5 a05 z5
 obtain ⟨X7, he7, N7, hO7⟩ := MapAt.store N6 u97 u3 (5 : Int) (.int .i64 2)
 have he7' : Sem.run Tryz.prog (Instr.mapUpdate 97 (.map (some (w.heap.size + 2))) (.int .i64 5) (.int .i64 2)) X6 = .ok () X7 := he7
 have hB7 : Bl w X7 := Only.bl hB6 hO7 (by omega)
 have p0 : X7.cell? ⟨w.heap.size, 0, none⟩ = some (.map (some (w.heap.size + 2))) := by rw [hO7.cell _ _ (by omega)]; exact q0
 have p1 : X7.cell? ⟨w.heap.size, 1, none⟩ = some (.map (some (w.heap.size + 1))) := by rw [hO7.cell _ _ (by omega)]; exact q1
 have M7 := M6.only hO7 (by omega)
 have hfin : R (.returned (.slice (some ⟨w.heap.size, 0, none⟩) 2 2)) X7 := by rw [hRh.out]; exact ⟨_, _, _, _, _, rfl, p0, p1, N7, M7, upd_same _ _ _, upd_same _ _ _, (by rw [upd_ne _ _ _ (by decide)]; exact upd_same _ _ _), hB7⟩
 clear he7 hO7 M6 N6 M7 N7 M5
 go_wp2_with fail
 clear he7'
 rw [rounds_succ]
 go_wp2_with fail
 rw [rounds_succ]
 go_wp2_with fail
 first | exact hfin | exact bodyPost_ret (v := .slice (some ⟨w.heap.size, 0, none⟩) 2 2) (by simp [results, Tryz.results36, go_sem, *]) rfl hfin | trace_state
set_option maxHeartbeats 4000000 in
theorem f16_ex (bi br bp : Nat) (w : World) (h : PlanAt w bi br bp) : Calls Tryz.prog 16 #[planV bi br bp] w fun e w' => ∃ b c, e = .returned (.tuple #[.int .i64 2, .slice (some ⟨b, 0, none⟩) 1 c, .int .i64 0]) /\ w'.cell? ⟨b, 0, none⟩ = some (.int .i64 0) /\ Bl w w' := by
 have hh := HD h
 have T34 : Hid (∀ W, Bl w W -> Calls Tryz.prog 34 #[planV bi br bp] W fun e w' => ∃ t bc cc, e = .returned (.tuple #[.pointer (some ⟨t, 0, none⟩), .bool true]) /\ TankAt w' t bi br bp bc cc /\ Bl W w') := fun W hb => f34_ex bi br bp W (h.keep hb)
 obtain ⟨R, hR⟩ : ∃ R : Ending -> World -> Prop, R = fun e w' => ∃ b c, e = .returned (.tuple #[.int .i64 2, .slice (some ⟨b, 0, none⟩) 1 c, .int .i64 0]) /\ w'.cell? ⟨b, 0, none⟩ = some (.int .i64 0) /\ Bl w w' := ⟨_, rfl⟩
 rw [<- hR]
 have hRh := HD hR
 clear hR h
 unfold planV at T34 ⊢
 go_enter Tryz.func16, Tryz.ntmps16
 go_wp2_with fail
 refine (T34.out _ bz).mono ?_
 rintro e w1 ⟨t, bc, cc, rfl, hT1, hw1⟩
 have hB1 : Bl w w1 := bz
 have b0 : w1.cell? ⟨w.heap.size, 0, none⟩ = some (.int .i64 5) := hw1.keep (by simp [go_sem])
 have b3 : w1.cell? ⟨w.heap.size, 3, none⟩ = some (.slice (some ⟨bi, 0, none⟩) 1 1) := hw1.keep (by simp [go_sem])
 have b4 : w1.cell? ⟨w.heap.size, 4, none⟩ = some (.slice (some ⟨br, 0, none⟩) 2 2) := hw1.keep (by simp [go_sem])
 have z1 : w.heap.size < w1.heap.size := by have := hw1.size; simp at this; omega
 clear hw1
 go_wp2_with fail
 refine (f35_ex t bi br bp bc cc w1 hT1).mono ?_
 rintro e w2 ⟨g, a, s, c, ca, sc, rfl, hL2, hw2⟩
 have hT2 := hT1.keep hw2
 have hB2 := hB1.trans hw2
 have c0 := hw2.keep b0
 have c3 := hw2.keep b3
 have c4 := hw2.keep b4
 clear hT1 hB1 b0 b3 b4 hw2
 go_wp2_with fail
 refine (f36_ex t bi br bp bc cc g a s c ca sc w2 hT2 hL2).mono ?_
 rintro e w3 ⟨o, m0, m1, f0, f1, rfl, o0, o1, M0, M1, v5, v8, v4, hw3⟩
 have hT3 := HD (hT2.keep hw3)
 have hB3 := hB2.trans hw3
 have b0 := hw3.keep c0
 have b3 := hw3.keep c3
 have b4 := hw3.keep c4
 clear hT2 hL2 hB2 c0 c3 c4 hw3
 have M1h := HD M1
 have V8 := HD v8
 have V4 := HD v4
 have p0 := fun (z : Later w3) => z.keep o0
 have p1 := fun (z : Later w3) => z.keep b0
 have p2 : ∀ z : Later w3, Sem.run Tryz.prog (Instr.lookup 97 (.map (some m0)) (.int .i64 5) true) z.at' = .ok (.tuple #[.int .i64 2, .bool true]) z.at' := fun z => by
  have := (M0.keep z.bl).lookup u97 u3 (zeroInt _) (5 : Int) true
  rw [v5] at this
  exact this
 clear M0 M1 v5 v8 v4
 go_wp2_with fail
 refine wp_region_later (by kernel_rfl) (by kernel_rfl) ?_
 repeat (go_big_quiet_step (fail))
 refine wpQuiet_nil ?_
 intro w4 hw4
 have hB4 := hB3.trans hw4
 have q1 := hw4.keep o1
 have c0 := hw4.keep b0
 have c3 := hw4.keep b3
 have c4 := hw4.keep b4
 have hT4 := HD (hT3.out.keep hw4)
 have M4 := HD (M1h.out.keep hw4)
 clear p0 p1 p2 o0 o1 b0 b3 b4 hB3 hw4 hT3 M1h
 go_wp2_with fail
 refine wp_loop_rounds 2 ?_
 rw [rounds_succ]
 go_wp2_with fail
 refine (f37_ex t bi br bp bc cc m1 f1 w4 hT4.out M4.out V8.out V4.out).mono ?_
 rintro e w5 ⟨rfl, hw5⟩
 have hB5 := hB4.trans hw5
 have b4 := hw5.keep c4
 have r0 := (hh.out.keep hB5).r0
 have z5 : w.heap.size < w5.heap.size := by have := hw5.size; have := cell_lt c0; simp only at this; omega
 have hT5 := HD (hT4.out.keep hw5)
 clear c0 c3 c4 q1 hT4 M4 hB4 hw5
 obtain ⟨⟨A6, c6, l6⟩, w6, he6, hx6, ho6, hg6⟩ := app1 IV (fun _ => rfl) u28 i3 (by omega) rfl (base := w5.heap.size) (W := w5.alloc (.cells #[.int .i64 0] 3)) (s := ⟨none, 0, []⟩) Own1.nil (by simp) (by simp) ⟨w5.heap.size, 0, none⟩ 1 0 (by simp [go_sem, IV])
 obtain rfl : l6 = [0] := hx6
 obtain ⟨g6, hA6, hge6, -⟩ := Own1.ptr ho6 (by simp)
 simp only at hA6
 subst hA6
 have d6 := Own1.cell ho6 0 (by simp)
 have hB56 : Bl w5 w6 := Bl.grown (Bl.alloc (Bl.refl _) _) hg6 (fun k hk => by cases hk)
 clear hg6 ho6
 have hB6 := hB5.trans hB56
 have hT6 := HD (hT5.out.keep hB56)
 go_wp2_with (at_builtin; refine wpList_append_run rfl _ _ _ rfl _ _ he6 ?_)
 clear he6 hB56 hT5 b4 r0 hB5
 refine (f38_ex t bi br bp bc cc 0 0 8 w6 hT6.out (.inl ⟨rfl, rfl, rfl⟩)).mono ?_
 rintro e w7 ⟨rfl, hw7⟩
 have hfin : R (.returned (.tuple #[.int .i64 2, .slice (some ⟨g6, 0, none⟩) 1 c6, .int .i64 0])) w7 := by rw [hRh.out]; exact ⟨_, _, rfl, hw7.keep d6, hB6.trans hw7⟩
 clear hw7 d6 hB6 hT6
 go_wp2_with fail
 rw [rounds_succ]
 go_wp2_with fail
 first | exact hfin | exact bodyPost_ret (v := .tuple #[.int .i64 2, .slice (some ⟨g6, 0, none⟩) 1 c6, .int .i64 0]) (by simp [results, Tryz.results16, go_sem, *]; try exact ⟨rfl, rfl⟩) rfl hfin | trace_state
def jobV (bl le fl fa ro se : Nat) : Value := .agg #[.slice (some ⟨bl, 0, none⟩) 1 1, .slice (some ⟨le, 0, none⟩) 1 1, .slice (some ⟨fl, 0, none⟩) 1 1, .slice (some ⟨fa, 0, none⟩) 1 1, .slice (some ⟨ro, 0, none⟩) 1 1, .slice (some ⟨se, 0, none⟩) 1 1]
structure JobAt (w : World) (bl le fl fa ro se ar co : Nat) : Prop where
 j_bl : w.cell? ⟨bl, 0, none⟩ = some (.int .i64 (-1))
 j_le : w.cell? ⟨le, 0, none⟩ = some (.int .i64 7)
 j_fl : w.cell? ⟨fl, 0, none⟩ = some (.int .i64 0)
 j_fa : w.cell? ⟨fa, 0, none⟩ = some (.int .i64 0)
 j_ro : w.cell? ⟨ro, 0, none⟩ = some (.int .i64 100)
 j_s0 : w.cell? ⟨se, 0, none⟩ = some (.string ⟨#[115]⟩)
 j_s1 : w.cell? ⟨se, 1, none⟩ = some (.int .i64 100)
 j_s2 : w.cell? ⟨se, 2, none⟩ = some (.int .i64 3)
 j_s3 : w.cell? ⟨se, 3, none⟩ = some (.slice (some ⟨ar, 0, none⟩) 2 2)
 j_s4 : w.cell? ⟨se, 4, none⟩ = some (.slice (some ⟨co, 0, none⟩) 2 2)
 j_a0 : w.cell? ⟨ar, 0, none⟩ = some (.int .i64 0)
 j_a1 : w.cell? ⟨ar, 1, none⟩ = some (.int .i64 0)
 j_a2 : w.cell? ⟨ar, 2, none⟩ = some (.int .i64 100)
 j_a3 : w.cell? ⟨ar, 3, none⟩ = some (.int .i64 9)
 j_c0 : w.cell? ⟨co, 0, none⟩ = some (.int .i64 0)
 j_c1 : w.cell? ⟨co, 1, none⟩ = some (.int .i64 0)
 j_c2 : w.cell? ⟨co, 2, none⟩ = some (.int .i64 100)
 j_c3 : w.cell? ⟨co, 3, none⟩ = some (.int .i64 9)
theorem JobAt.keep {w w' : World} {bl le fl fa ro se ar co : Nat} (h : JobAt w bl le fl fa ro se ar co) (hb : Bl w w') : JobAt w' bl le fl fa ro se ar co := ⟨hb.keep h.j_bl, hb.keep h.j_le, hb.keep h.j_fl, hb.keep h.j_fa, hb.keep h.j_ro, hb.keep h.j_s0, hb.keep h.j_s1, hb.keep h.j_s2, hb.keep h.j_s3, hb.keep h.j_s4, hb.keep h.j_a0, hb.keep h.j_a1, hb.keep h.j_a2, hb.keep h.j_a3, hb.keep h.j_c0, hb.keep h.j_c1, hb.keep h.j_c2, hb.keep h.j_c3⟩
def kn (b : Nat) : Sl Knot := ⟨some ⟨b, 0, none⟩, 2, [⟨0, 0⟩, ⟨100, 9⟩]⟩
def sec0 (ar co : Nat) : Sec := ⟨⟨#[115]⟩, 100, 3, kn ar, kn co⟩
def secs0 (se ar co : Nat) : Sl Sec := ⟨some ⟨se, 0, none⟩, 1, [sec0 ar co]⟩
theorem kn_in {w : World} {b : Nat} (h0 : w.cell? ⟨b, 0, none⟩ = some (.int .i64 0)) (h1 : w.cell? ⟨b, 1, none⟩ = some (.int .i64 0)) (h2 : w.cell? ⟨b, 2, none⟩ = some (.int .i64 100)) (h3 : w.cell? ⟨b, 3, none⟩ = some (.int .i64 9)) : InK w (kn b) := by
 have hlt := cell_lt h0
 simp only at hlt
 refine ⟨by simp [kn], by simp [kn], fun _ => ⟨b, 0, rfl, hlt, hlt, ?_⟩, fun _ _ => trivial⟩
 intro i hi j v hj
 have hi2 : i < 2 := by simpa [kn] using hi
 rcases (by omega : i = 0 \/ i = 1) with rfl | rfl
 ·match j, hj with
  | 0, hj => simp [kn, encK] at hj; subst hj; exact h0
  | 1, hj => simp [kn, encK] at hj; subst hj; exact h1
 ·match j, hj with
  | 0, hj => simp [kn, encK] at hj; subst hj; exact h2
  | 1, hj => simp [kn, encK] at hj; subst hj; exact h3
theorem JobAt.sec {w : World} {bl le fl fa ro se ar co : Nat} (h : JobAt w bl le fl fa ro se ar co) : InSec w (sec0 ar co) := ⟨kn_in h.j_a0 h.j_a1 h.j_a2 h.j_a3, kn_in h.j_c0 h.j_c1 h.j_c2 h.j_c3⟩
theorem JobAt.secs {w : World} {bl le fl fa ro se ar co : Nat} (h : JobAt w bl le fl fa ro se ar co) : InSecs w (secs0 se ar co) := by
 have hlt := cell_lt h.j_s0
 simp only at hlt
 refine ⟨by simp [secs0], by simp [secs0], fun _ => ⟨se, 0, rfl, hlt, hlt, ?_⟩, fun x hx => ?_⟩
 ·intro i hi j v hj
  have hi0 : i = 0 := by simp [secs0] at hi; exact hi
  subst hi0
  match j, hj with
  | 0, hj => simp [secs0, sec0, encC] at hj; subst hj; exact h.j_s0
  | 1, hj => simp [secs0, sec0, encC] at hj; subst hj; exact h.j_s1
  | 2, hj => simp [secs0, sec0, encC] at hj; subst hj; exact h.j_s2
  | 3, hj => simp [secs0, sec0, encC, kn] at hj; subst hj; exact h.j_s3
  | 4, hj => simp [secs0, sec0, encC, kn] at hj; subst hj; exact h.j_s4
 ·simp [secs0] at hx
  subst hx
  exact h.sec
theorem sec0_ok (ar co : Nat) : secB (sec0 ar co) = true := by
 show (_ && _) = true
 rfl
theorem f68_t (a b c : Int) (w : World) (h1 : b ≤ a) (h2 : a ≤ c) : Calls Tryz.prog 68 #[.int .i64 a, .int .i64 b, .int .i64 c] w fun e w' => e = .returned (.bool true) /\ w' = w := by
 go_enter Tryz.func68, Tryz.ntmps68
 go_wp2_with fail
 go_ret
 exact ⟨ret_bool (by simp [h1, h2]), rfl⟩
set_option maxHeartbeats 2000000 in
theorem f39_ex (bl le fl fa ro se ar co : Nat) (w : World) (h : JobAt w bl le fl fa ro se ar co) : Calls Tryz.prog 39 #[jobV bl le fl fa ro se] w fun e w' => e = .returned (.bool true) /\ Bl w w' := by
 have T48 : Hid (∀ W, Bl w W -> Calls Tryz.prog 48 #[.slice (some ⟨se, 0, none⟩) 1 1] W fun e w' => e = .returned (.bool true) /\ Bl W w') := fun W hb => by
  refine (f48_c (secs0 se ar co) W ((h.keep hb).secs)).mono ?_
  rintro e w' ⟨b, -, h1, he, hb'⟩
  obtain rfl : b = true := h1 _ rfl (sec0_ok ar co)
  exact ⟨he, hb'⟩
 have hh := HD h
 clear h
 unfold jobV
 go_enter Tryz.func39, Tryz.ntmps39
 go_wp2_with fail
 refine (T48.out _ bz).mono ?_
 rintro e w1 ⟨rfl, hw1⟩
 have hB1 : Bl w w1 := bz
 have b0 : w1.cell? ⟨w.heap.size, 0, none⟩ = some (.slice (some ⟨bl, 0, none⟩) 1 1) := hw1.keep (by simp [go_sem])
 have b1 : w1.cell? ⟨w.heap.size, 1, none⟩ = some (.slice (some ⟨le, 0, none⟩) 1 1) := hw1.keep (by simp [go_sem])
 have b2 : w1.cell? ⟨w.heap.size, 2, none⟩ = some (.slice (some ⟨fl, 0, none⟩) 1 1) := hw1.keep (by simp [go_sem])
 have b3 : w1.cell? ⟨w.heap.size, 3, none⟩ = some (.slice (some ⟨fa, 0, none⟩) 1 1) := hw1.keep (by simp [go_sem])
 have b4 : w1.cell? ⟨w.heap.size, 4, none⟩ = some (.slice (some ⟨ro, 0, none⟩) 1 1) := hw1.keep (by simp [go_sem])
 have b5 : w1.cell? ⟨w.heap.size, 5, none⟩ = some (.slice (some ⟨se, 0, none⟩) 1 1) := hw1.keep (by simp [go_sem])
 clear hw1
 have hJ := hh.out.keep hB1
 have k0 := hJ.j_bl
 have k1 := hJ.j_le
 have k2 := hJ.j_fl
 have k3 := hJ.j_fa
 have k4 := hJ.j_ro
 clear hJ
 go_wp2_with fail
 refine wp_loop_rounds 2 ?_
 rw [rounds_succ]
 go_wp2_with (go_at_call 68; refine (f68_t _ _ _ _ (by decide) (by decide)).mono ?_; rintro e w' ⟨rfl, rfl⟩)
 rw [rounds_succ]
 go_wp2_with fail
 go_ret
 exact ⟨rfl, hB1⟩
end Go.Proofs.YtnnhnkpoekbahaaGreat
