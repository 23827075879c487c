/- Proved: for every input sewershedtop.TopSeason returns true, and each argument reads behind the call as it read before it. Conditions: none. (The last of 16 parts: Awk9 Zero Awk10 Awk11 Awk12 Arg Fin.) -/
import Derived.Test.YtnnhnkpoekbahaaGreatPart14
import Derived.Test.YtnnhnkpoekbahaaGreatPart01
import Derived.Test.YtnnhnkpoekbahaaGreatPart02
import Derived.Test.YtnnhnkpoekbahaaGreatPart00
import Derived.Deep.DeepCutAuto
import Derived.Deep.RegionHeld3
import Derived.ProofKit
import Derived.SizedLaws
import Derived.Lib.SmallJoins
import Derived.OpenShut
import Derived.ShutString
import Derived.ChangeOld
import Derived.Below
namespace Go.Proofs.YtnnhnkpoekbahaaGreat
open Go.RowKit
set_option maxHeartbeats 400000
set_option linter.unusedSimpArgs false
set_option linter.unusedVariables false
set_option maxRecDepth 100000
structure TreeAt (w : World) (t bl le fl fa ro se ar co A B F fc : Nat) : Prop where
 job : JobAt w bl le fl fa ro se ar co
 t0 : w.cell? ⟨t, 0, none⟩ = some (.slice (some ⟨bl, 0, none⟩) 1 1)
 t1 : w.cell? ⟨t, 1, none⟩ = some (.slice (some ⟨le, 0, none⟩) 1 1)
 t2 : w.cell? ⟨t, 2, none⟩ = some (.slice (some ⟨fl, 0, none⟩) 1 1)
 t3 : w.cell? ⟨t, 3, none⟩ = some (.slice (some ⟨fa, 0, none⟩) 1 1)
 t4 : w.cell? ⟨t, 4, none⟩ = some (.slice (some ⟨ro, 0, none⟩) 1 1)
 t5 : w.cell? ⟨t, 5, none⟩ = some (.slice (some ⟨se, 0, none⟩) 1 1)
 t6 : w.cell? ⟨t, 6, none⟩ = some (.slice (some ⟨A, 0, none⟩) 1 1)
 t7 : w.cell? ⟨t, 7, none⟩ = some (.slice (some ⟨B, 0, none⟩) 1 1)
 A0 : w.cell? ⟨A, 0, none⟩ = some (.slice (some ⟨F, 0, none⟩) 1 fc)
 F0 : w.cell? ⟨F, 0, none⟩ = some (.bool true)
 B0 : w.cell? ⟨B, 0, none⟩ = some (.slice none 0 0)
theorem TreeAt.keep {w w' : World} {t bl le fl fa ro se ar co A B F fc : Nat} (h : TreeAt w t bl le fl fa ro se ar co A B F fc) (hb : Bl w w') : TreeAt w' t bl le fl fa ro se ar co A B F fc := ⟨h.job.keep hb, hb.keep h.t0, hb.keep h.t1, hb.keep h.t2, hb.keep h.t3, hb.keep h.t4, hb.keep h.t5, hb.keep h.t6, hb.keep h.t7, hb.keep h.A0, hb.keep h.F0, hb.keep h.B0⟩
set_option maxHeartbeats 2000000 in
theorem f43_ex (t bl le fl fa ro se ar co A B F fc v vc : Nat) (w : World) (h : TreeAt w t bl le fl fa ro se ar co A B F fc) (hv : w.cell? ⟨v, 0, none⟩ = some (.int .i64 21)) : Calls Tryz.prog 43 #[.pointer (some ⟨t, 0, none⟩), .slice (some ⟨v, 0, none⟩) 1 vc, .int .i64 0, .int .i64 4194304] w fun e w' => e = .returned (.tuple #[.int .i64 21, .int .i64 0]) /\ Bl w w' := by
 obtain ⟨R, hR⟩ : ∃ R : Ending -> World -> Prop, R = fun e w' => e = .returned (.tuple #[.int .i64 21, .int .i64 0]) /\ Bl w w' := ⟨_, rfl⟩
 rw [<- hR]
 have hfin : R (.returned (.tuple #[.int .i64 21, .int .i64 0])) w := by rw [hR]; exact ⟨rfl, Bl.refl _⟩
 clear hR
 have t5 := h.t5
 have t6 := h.t6
 have a0 := h.A0
 have f0 := h.F0
 have s1 := h.job.j_s1
 clear h
 go_enter Tryz.func43, Tryz.ntmps43
 go_wp2_with fail
 refine wp_loop_rounds 2 ?_
 rw [rounds_succ]
 go_wp2_with fail
 rw [rounds_succ]
 go_wp2_with fail
 first | exact hfin | exact bodyPost_ret (v := .tuple #[.int .i64 21, .int .i64 0]) (by simp [results, Tryz.results43, go_sem, *]; try exact ⟨rfl, rfl⟩) rfl hfin | trace_state
set_option maxHeartbeats 2000000 in
theorem f70_ex (t bl le fl fa ro se ar co A B F fc : Nat) (u : Value) (w : World) (h : TreeAt w t bl le fl fa ro se ar co A B F fc) : Calls Tryz.prog 70 #[.pointer (some ⟨t, 0, none⟩), u, .int .i64 0, .int .i64 0] w fun e w' => e = .returned (.int .i64 21) /\ Bl w w' := by
 have hh := HD h
 have p0 := fun (z : Later w) => z.keep h.t1
 have p1 := fun (z : Later w) => z.keep h.t5
 have p2 := fun (z : Later w) => z.keep h.job.j_s2
 have p3 := fun (z : Later w) => z.keep h.job.j_le
 clear h
 go_enter Tryz.func70, Tryz.ntmps70
 go_wp2_with fail
 refine wp_region_later (by kernel_rfl) (by kernel_rfl) ?_
 repeat (go_big_quiet_step (fail))
 refine wpQuiet_nil ?_
 intro w1 hw1
 have t7 := hw1.keep hh.out.t7
 have b0 := hw1.keep hh.out.B0
 clear p0 p1 p2 p3
 go_wp2_with fail
 refine wp_loop_rounds 1 ?_
 rw [rounds_succ]
 go_wp2_with fail
 go_ret
 exact ⟨rfl, hw1⟩
set_option maxHeartbeats 2000000 in
theorem f42_ex (t bl le fl fa ro se ar co A B F fc o v vc : Nat) (w : World) (h : TreeAt w t bl le fl fa ro se ar co A B F fc) (ho : w.cell? ⟨o, 0, none⟩ = some (.slice (some ⟨v, 0, none⟩) 1 vc)) (hv : w.cell? ⟨v, 0, none⟩ = some (.int .i64 21)) : Calls Tryz.prog 42 #[.pointer (some ⟨t, 0, none⟩), .slice (some ⟨o, 0, none⟩) 1 1] w fun e w' => e = .returned (.int .i64 21) /\ Bl w w' := by
 have T43 := HD (f43_ex t bl le fl fa ro se ar co A B F fc v vc w h hv)
 have t0 := h.t0
 have b0 := h.job.j_bl
 clear h
 go_enter Tryz.func42, Tryz.ntmps42
 go_wp2_with fail
 refine wp_loop_rounds 2 ?_
 rw [rounds_succ]
 go_wp2_with fail
 refine T43.out.mono ?_
 rintro e w1 ⟨rfl, hw1⟩
 go_wp2_with fail
 rw [rounds_succ]
 go_wp2_with fail
 go_ret
 exact ⟨rfl, hw1⟩
theorem make1b (w : World) : Sem.run Tryz.prog (Instr.makeSlice 101 (.int .i64 1) (.int .i64 1)) w = .ok (.slice (some ⟨w.heap.size, 0, none⟩) 1 1) (w.alloc (.cells #[.slice none 0 0] 28)) := by
 obtain ⟨i, hi, h0, h1, h2⟩ := i28
 have := run_make (P := Tryz.prog) w 101 28 i (.slice none 0 0) u101 hi h0 .i64 .i64 1 1 (by decide) (by decide) (by rw [h2]; decide) (by decide)
 rw [h1, show madeCells (Value.slice none 0 0).cells ((1 : Int).toNat * 1) = #[.slice none 0 0] from by
  unfold madeCells
  rw [show Array.range (Int.toNat 1 * 1) = #[0] by decide, show (Value.slice none 0 0).cells = #[.slice none 0 0] by simp [Value.cells]]
  simp] at this
 exact this
set_option maxHeartbeats 2000000 in
theorem f41_ex (t bl le fl fa ro se ar co A B F fc : Nat) (w : World) (h : TreeAt w t bl le fl fa ro se ar co A B F fc) : Calls Tryz.prog 41 #[.pointer (some ⟨t, 0, none⟩)] w fun e w' => ∃ o v vc, e = .returned (.slice (some ⟨o, 0, none⟩) 1 1) /\ w'.cell? ⟨o, 0, none⟩ = some (.slice (some ⟨v, 0, none⟩) 1 vc) /\ w'.cell? ⟨v, 0, none⟩ = some (.int .i64 21) /\ Bl w w' := by
 have hh := HD h
 have T70 : Hid (∀ W u, Bl w W -> Calls Tryz.prog 70 #[.pointer (some ⟨t, 0, none⟩), u, .int .i64 0, .int .i64 0] W fun e w' => e = .returned (.int .i64 21) /\ Bl W w') := fun W u hb => f70_ex t bl le fl fa ro se ar co A B F fc u W (hh.out.keep hb)
 obtain ⟨R, hR⟩ : ∃ R : Ending -> World -> Prop, R = fun e w' => ∃ o v vc, e = .returned (.slice (some ⟨o, 0, none⟩) 1 1) /\ w'.cell? ⟨o, 0, none⟩ = some (.slice (some ⟨v, 0, none⟩) 1 vc) /\ w'.cell? ⟨v, 0, none⟩ = some (.int .i64 21) /\ Bl w w' := ⟨_, rfl⟩
 rw [<- hR]
 have hRh := HD hR
 clear hR h
 have hmk : Sem.run Tryz.prog (Instr.makeSlice 101 (.int .i64 1) (.int .i64 1)) w = .ok (.slice (some ⟨w.heap.size, 0, none⟩) 1 1) (w.alloc (.cells #[.slice none 0 0] 28)) := make1b w
 obtain ⟨X1, hX1⟩ : ∃ X, X = w.alloc (.cells #[.slice none 0 0] 28) := ⟨_, rfl⟩
 rw [<- hX1] at hmk
 have hB1 : Bl w X1 := by rw [hX1]; exact bz
 have o0 : X1.cell? ⟨w.heap.size, 0, none⟩ = some (.slice none 0 0) := by rw [hX1]; simp [go_sem]
 have of0 : X1.frozen? ⟨w.heap.size, 0, none⟩ = false := by rw [hX1]; simp [go_sem]
 have z1 : X1.heap.size = w.heap.size + 1 := by rw [hX1]; simp
 clear hX1
 have t0 := hh.out.t0
 have t5 := hB1.keep hh.out.t5
 have t6 := hB1.keep hh.out.t6
 have a0 := hB1.keep hh.out.A0
 have f0 := hB1.keep hh.out.F0
 go_enter Tryz.func41, Tryz.ntmps41
 go_wp2_with fail
 refine wp_loop_rounds 2 ?_
 rw [rounds_succ]
 go_wp2_with fail
 refine wp_loop_rounds 2 ?_
 rw [rounds_succ]
 go_wp2_with fail
 refine (T70.out _ _ hB1).mono ?_
 rintro e w2 ⟨rfl, hw2⟩
 have o2 := hw2.keep o0
 have of2 := hw2.keepF o0 of0
 have hB2 := hB1.trans hw2
 have z2 : w.heap.size < w2.heap.size := by have := hw2.size; omega
 clear o0 of0 hw2 hB1 t5 t6 a0 f0
 obtain ⟨⟨A6, c6, l6⟩, w3, he3, hx3, ho3, hg3⟩ := app1 IV (fun _ => rfl) u28 i3 (by omega) rfl (base := w2.heap.size) (W := w2.alloc (.cells #[.int .i64 21] 3)) (s := ⟨none, 0, []⟩) Own1.nil (by simp) (by simp) ⟨w2.heap.size, 0, none⟩ 1 21 (by simp [go_sem, IV])
 obtain rfl : l6 = [21] := hx3
 obtain ⟨g6, hA6, hge6, -⟩ := Own1.ptr ho3 (by simp)
 simp only at hA6
 subst hA6
 have hB23 : Bl w2 w3 := Bl.grown (Bl.alloc (Bl.refl _) _) hg3 (fun k hk => by cases hk)
 have o3 := hB23.keep o2
 have of3 := hB23.keepF o2 of2
 have d6 := Own1.cell ho3 0 (by simp)
 have hfin : R (.returned (.slice (some ⟨w.heap.size, 0, none⟩) 1 1)) (w3.setCell ⟨w.heap.size, 0, none⟩ (.slice (some ⟨g6, 0, none⟩) 1 c6)) := by
  rw [hRh.out]
  exact ⟨_, g6, c6, rfl, by simp [go_sem, o3], (Own1.cell (Own1.other ho3 (a := ⟨w.heap.size, 0, none⟩) (by simp [Value.ownBlock]; omega) _) 0 (by simp)), Bl.setCell (hB2.trans hB23) (by simp only; omega) _⟩
 clear hg3 ho3 hB23 hB2
 go_wp2_with (at_builtin; refine wpList_append_run rfl _ _ _ rfl _ _ he3 ?_)
 clear he3 o2 of2
 rw [rounds_succ]
 go_wp2_with fail
 rw [rounds_succ]
 go_wp2_with fail
 first | exact hfin | exact bodyPost_ret (v := .slice (some ⟨w.heap.size, 0, none⟩) 1 1) (by simp [results, Tryz.results41, go_sem, *]) rfl hfin | trace_state
theorem f185_0 (xh xl : Nat) (h2 : U xl) (w : World) : Calls Tryz.prog 185 #[.agg #[.int .u64 xh, .int .u64 xl], .int .i64 0] w fun e w' => e = .returned (.agg #[.int .u64 0, .int .u64 0]) /\ Bl w w' := by
 go_enter Tryz.func185, Tryz.ntmps185
 go_wp2_with fail
 refine (Tryz.bits_Mul64 xl 0 h2 (by decide) _).mono ?_
 rintro e w1 ⟨rfl, hw⟩
 subst hw
 simp only [Nat.mul_zero, Nat.zero_div, Nat.zero_mod]
 go_wp2
 exact bodyPost_ret (v := .agg #[.int .u64 0, .int .u64 0]) (by simp [results, Tryz.results185, go_sem, *]) rfl ⟨rfl, bz⟩
theorem f186_0 (w : World) : Calls Tryz.prog 186 #[.agg #[.int .u64 0, .int .u64 0], .int .i64 7] w fun e w' => e = .returned (.agg #[.int .u64 0, .int .u64 0]) /\ Bl w w' := by
 go_enter Tryz.func186, Tryz.ntmps186
 go_wp2_with fail
 go_quiet (fail)
 go_wp2_with fail
 refine (f199_c 0 0 7 (by decide) (by unfold U; decide) (by unfold U; decide) _).mono ?_
 rintro e w9 ⟨rfl, hwd⟩
 obtain ⟨hchwd, hfhwd, hzhwd⟩ := Bl.rules hwd; (try simp only [aZ, cZ, dZ, nZ] at hzhwd)
 rw [show divQ 0 0 7 = 0 by decide, show divR 0 0 7 = 0 by decide]
 have hz1 : w.heap.size + 1 < w9.heap.size := by omega
 go_wp2
 exact bodyPost_ret (v := .agg #[.int .u64 0, .int .u64 0]) (by simp [results, Tryz.results186, go_sem, *]) rfl ⟨rfl, bz⟩
theorem sq_pos {b : Nat} (hb : 0 < b) : 0 < b * b / 18446744073709551616 \/ b * b / 18446744073709551616 = 0 /\ 0 < b * b % 18446744073709551616 := by
 have := Nat.mul_pos hb hb
 omega
set_option maxHeartbeats 1000000 in
theorem f187_0 (w : World) : Calls Tryz.prog 187 #[.agg #[.int .u64 0, .int .u64 0]] w fun e w' => e = .returned (.int .i64 0) /\ Bl w w' := by
 go_enter Tryz.func187, Tryz.ntmps187
 go_wp2_with fail
 go_loopg [3, 4] 63 (fun gg s3 s4 wr => ∃ (bit : Nat), (bit = 0 \/ ∃ j, j < 63 /\ j < gg /\ Aside (bit = 2 ^ j)) /\ s3 = .int .u64 0 /\ s4 = .int .u64 bit /\ Aside (Bl w wr) /\ Aside (wr.cell? ⟨w.heap.size, 0, none⟩ = some (.int .u64 0)) /\ Aside (wr.cell? ⟨w.heap.size, 1, none⟩ = some (.int .u64 0)))
 case atStart => exact ⟨4611686018427387904, .inr ⟨62, by omega, by omega, by show _ = _; decide⟩, rfl, rfl, bz, (by show _ = _; simp [go_sem]), (by show _ = _; simp [go_sem])⟩
 case round =>
  obtain ⟨bit, hb, rfl, rfl, BW, C0, C1⟩ := hrel
  rcases hb with rfl | ⟨j, hj, hjg, HB⟩
  ·go_wp2_with fail
   go_ret
   exact ⟨rfl, BW.out⟩
  ·have hbp : 0 < bit := by rw [HB.out]; exact Nat.two_pow_pos j
   have hbz : (0 : Int) < (bit : Int) := by omega
   have hbl : bit < 2 ^ 63 := by rw [HB.out]; exact Nat.pow_lt_pow_right (by decide) hj
   have hU : U bit := by unfold U; have : (2 : Nat) ^ 63 < 18446744073709551616 := by decide
                         omega
   have eor : bits .or .u64 (0 : Int) (bit : Int) = (bit : Int) := by
    have := bits_or_u64_nat 0 bit (by omega) (by omega)
    rwa [Nat.zero_or] at this
   clear hbl
   have hsize := BW.out.size
   have c0 : wr.cell? ⟨w.heap.size, 0, none⟩ = some (.int .u64 0) := C0.out
   have c1 : wr.cell? ⟨w.heap.size, 1, none⟩ = some (.int .u64 0) := C1.out
   have hsq := sq_pos hbp
   go_wp2_with fail
   refine (Tryz.bits_Mul64 _ _ hU hU _).mono ?_
   rintro e w1 ⟨rfl, hw⟩
   subst hw
   generalize bit * bit / 18446744073709551616 = mh at hsq
   generalize bit * bit % 18446744073709551616 = ml at hsq
   rcases hsq with hm | ⟨rfl, hm⟩
   ·have t1 : ((mh : Int) == 0) = false := by simp; omega
    have t2 : ¬ (mh : Int) < 0 := by omega
    have t3 : ¬ mh = 0 := by omega
    have t4 : decide ((mh : Int) < 0) = false := by simp
    go_wp2_with fail
    rcases half_pow bit j HB.out with h2 | ⟨i, hi, h2⟩
    ·go_roundg j
     case measure => omega
     case rel => exact ⟨bit / 2, .inl h2, rfl, rfl, BW, C0, C1⟩
    ·go_roundg j
     case measure => omega
     case rel => exact ⟨bit / 2, .inr ⟨i, by omega, by omega, h2⟩, rfl, rfl, BW, C0, C1⟩
   ·have t1 : decide ((ml : Int) ≤ 0) = false := by simp; omega
    have t2 : ¬ (ml : Int) ≤ 0 := by omega
    have t3 : ¬ ml = 0 := by omega
    go_wp2_with fail
    rcases half_pow bit j HB.out with h2 | ⟨i, hi, h2⟩
    ·go_roundg j
     case measure => omega
     case rel => exact ⟨bit / 2, .inl h2, rfl, rfl, BW, C0, C1⟩
    ·go_roundg j
     case measure => omega
     case rel => exact ⟨bit / 2, .inr ⟨i, by omega, by omega, h2⟩, rfl, rfl, BW, C0, C1⟩
theorem f146_0 (s : Sec) (depth : Int) (w : World) (hs : InSec w s) (ht : tabB s.conv.xs = true) :
 Calls Tryz.prog 146 #[s.val, .int .i64 depth, .int .i64 0, .int .i64 7] w fun e w' => e = .returned (.tuple #[.int .i64 0, .int .i64 0]) /\ Bl w w' := by
 have A := HD (fun W (hb : Bl w W) => f65_c s.conv depth W (InK.up hs.conv hb) ht)
 clear hs ht
 go_enter Tryz.func146, Tryz.ntmps146
 go_wp2_with fail
 refine (A.out _ bz).mono ?_
 rintro e w1 ⟨n, hn, rfl, hw1⟩
 clear hn A
 go_wp2_with fail
 refine (f184_c _ _ _).mono ?_
 rintro e w2 ⟨p1, p2, u1, u2, rfl, hw2⟩
 go_wp2_with fail
 refine (f185_0 _ _ u2 _).mono ?_
 rintro e w3 ⟨rfl, hw3⟩
 go_wp2_with fail
 refine (f186_0 _).mono ?_
 rintro e w4 ⟨rfl, hw4⟩
 go_wp2_with fail
 refine (f187_0 _).mono ?_
 rintro e w5 ⟨rfl, hw5⟩
 go_wp2
 go_ret2
 exact ⟨rfl, bz⟩
set_option maxHeartbeats 2000000 in
theorem f69_0 (s : Sec) (w : World) (hs : InSec w s) (a1 : secB s = true) (a2 : 0 ≤ s.hgt) : Calls Tryz.prog 69 #[s.val, .int .i64 0, .int .i64 7] w fun e w' => e = .returned (.tuple #[.int .i64 0, .int .i64 0]) /\ Bl w w' := by
 have T99 : Hid (∀ W, Bl w W -> Calls Tryz.prog 99 #[s.val, .int .i64 s.hgt, .int .i64 0, .int .i64 7] W fun e w' => e = .returned (.tuple #[.int .i64 0, .int .i64 0]) /\ Bl W w') := fun W hb => by
  have hs' := InSec.up hs hb
  clear hs hb
  have A := HD (fun W' (hb : Bl W W') => f73_c s W' (InSec.up hs' hb))
  have ht : tabB s.conv.xs = true := by
   have h := a1
   unfold secB curveB at h
   simp only [Bool.and_eq_true] at h
   exact h.2.1.1.1.1
  have B := HD (fun W' (hb : Bl W W') => f146_0 s s.hgt W' (InSec.up hs' hb) ht)
  have a4 : (inR 0 4194304 (0 : Int) && inR 1 16777216 (7 : Int)) = true := by decide
  clear hs' ht
  go_enter Tryz.func99, Tryz.ntmps99
  go_wp2_with fail
  refine (A.out _ (by repeat first | exact Bl.refl _ | refine Bl.alloc ?_ _)).mono ?_
  rintro e w1 ⟨rfl, hw1⟩
  obtain ⟨hchw1, hfhw1, hzhw1⟩ := Bl.rules hw1; (try simp only [aZ, cZ, dZ, nZ] at hzhw1)
  have zz : W.heap.size < w1.heap.size := by omega
  go_wp2_with fail
  refine (f145_c' _ _ _).mono ?_
  rintro e w2 ⟨rfl, rfl⟩
  rw [a4]
  go_wp2_with fail
  refine (B.out _ bz).mono ?_
  rintro e w3 ⟨rfl, hw3⟩
  obtain ⟨hchw3, hfhw3, hzhw3⟩ := Bl.rules hw3; (try simp only [aZ, cZ, dZ, nZ] at hzhw3)
  go_wp2_with fail
  go_ret2
  exact ⟨rfl, bz⟩
 clear hs a1 a2
 go_enter Tryz.func69, Tryz.ntmps69
 go_wp2_with fail
 refine (T99.out _ bz).mono ?_
 rintro e w1 ⟨rfl, hw1⟩
 go_wp2
 go_ret2
 exact ⟨rfl, bz⟩
theorem u150 : Tryz.prog.underlying 150 = some (.slice 29) := by kernel_rfl
theorem i29 : ∃ i, Tryz.prog.info? 29 = some i /\ i.zero = some (.slice none 0 0) /\ i.size = 1 /\ i.bytes = 24 := info_of (by kernel_rfl)
theorem make1c (w : World) : Sem.run Tryz.prog (Instr.makeSlice 150 (.int .i64 1) (.int .i64 1)) w = .ok (.slice (some ⟨w.heap.size, 0, none⟩) 1 1) (w.alloc (.cells #[.slice none 0 0] 29)) := by
 obtain ⟨i, hi, h0, h1, h2⟩ := i29
 have := run_make (P := Tryz.prog) w 150 29 i (.slice none 0 0) u150 hi h0 .i64 .i64 1 1 (by decide) (by decide) (by rw [h2]; decide) (by decide)
 rw [h1, show madeCells (Value.slice none 0 0).cells ((1 : Int).toNat * 1) = #[.slice none 0 0] from by
  unfold madeCells
  rw [show Array.range (Int.toNat 1 * 1) = #[0] by decide, show (Value.slice none 0 0).cells = #[.slice none 0 0] by simp [Value.cells]]
  simp] at this
 exact this
structure RTree (X0 : World) (bl le fl fa ro se t A B : Nat) (X : World) : Prop where
 bw : Bl X0 X
 zt : X0.heap.size ≤ t /\ X0.heap.size ≤ A /\ X0.heap.size ≤ B /\ t < X.heap.size /\ A < X.heap.size /\ B < X.heap.size
 ne : t ≠ A /\ t ≠ B /\ A ≠ B
 t0 : X.cell? ⟨t, 0, none⟩ = some (.slice (some ⟨bl, 0, none⟩) 1 1)
 t1 : X.cell? ⟨t, 1, none⟩ = some (.slice (some ⟨le, 0, none⟩) 1 1)
 t2 : X.cell? ⟨t, 2, none⟩ = some (.slice (some ⟨fl, 0, none⟩) 1 1)
 t3 : X.cell? ⟨t, 3, none⟩ = some (.slice (some ⟨fa, 0, none⟩) 1 1)
 t4 : X.cell? ⟨t, 4, none⟩ = some (.slice (some ⟨ro, 0, none⟩) 1 1)
 t5 : X.cell? ⟨t, 5, none⟩ = some (.slice (some ⟨se, 0, none⟩) 1 1)
 t6 : X.cell? ⟨t, 6, none⟩ = some (.slice (some ⟨A, 0, none⟩) 1 1)
 t7 : X.cell? ⟨t, 7, none⟩ = some (.slice (some ⟨B, 0, none⟩) 1 1)
 A0 : X.cell? ⟨A, 0, none⟩ = some (.slice none 0 0)
 Af : X.frozen? ⟨A, 0, none⟩ = false
 B0 : X.cell? ⟨B, 0, none⟩ = some (.slice none 0 0)
structure SPA (w6 : World) (A : Nat) (X : World) : Prop where
 bw : But [A] w6 X
 a : (X.cell? ⟨A, 0, none⟩).isSome = true
 f : X.frozen? ⟨A, 0, none⟩ = false
theorem SPA.bl {w6 X Y : World} {A : Nat} (h : SPA w6 A X) (hb : Bl X Y) : SPA w6 A Y := by
 obtain ⟨v, hv⟩ := Option.isSome_iff_exists.1 h.a
 exact ⟨h.bw.trans (But.of hb), by rw [hb.keep hv]; rfl, hb.keepF hv h.f⟩
theorem SPA.alloc {w6 X : World} {A : Nat} (h : SPA w6 A X) (o : Obj) : SPA w6 A (X.alloc o) := h.bl (Bl.alloc (Bl.refl _) o)
theorem SPA.drew {w6 X : World} {A : Nat} (h : SPA w6 A X) : SPA w6 A X.drew := h.bl (Bl.drew (Bl.refl _))
theorem SPA.set {w6 X : World} {A : Nat} (h : SPA w6 A X) (v : Value) : SPA w6 A (X.setCell ⟨A, 0, none⟩ v) :=
 ⟨h.bw.set _ _ (.inl (by simp)), by rw [setSame h.a]; rfl, by simp [go_sem, h.f]⟩
theorem treeEnd {w wc w6 w8 : World} {X0 : World} {bl le fl fa ro se ar co t A B g8 c8 : Nat} (hh : JobAt w bl le fl fa ro se ar co) (hT : RTree X0 bl le fl fa ro se t A B wc) (hX0 : w.heap.size < X0.heap.size) (hB06 : Bl w w6) (hBc6 : Bl wc w6) (h8 : SPA w6 A w8) (hge8 : w6.heap.size ≤ g8)
 (hO8 : Own1 BV 4 w6.heap.size w8 ⟨some ⟨g8, 0, none⟩, c8, [true]⟩) : TreeAt (w8.setCell ⟨A, 0, none⟩ (.slice (some ⟨g8, 0, none⟩) 1 c8)) t bl le fl fa ro se ar co A B g8 c8 /\ Bl w (w8.setCell ⟨A, 0, none⟩ (.slice (some ⟨g8, 0, none⟩) 1 c8)) := by
 have h9 := h8.set (.slice (some ⟨g8, 0, none⟩) 1 c8)
 have hb : Bl w (w8.setCell ⟨A, 0, none⟩ (.slice (some ⟨g8, 0, none⟩) 1 c8)) := But.bl hB06 h9.bw (fun k hk => by
  obtain rfl : k = A := by simpa using hk
  have := hT.zt.2.1
  omega)
 have ht : t ∉ [A] := by have := hT.ne.1; simpa using this
 have hB : B ∉ [A] := by have := hT.ne.2.2; simp; exact fun e => this e.symm
 have hA6 : A < w6.heap.size := by have := hT.zt.2.2.2.2.1; have := hBc6.size; omega
 have f8 := Own1.cell hO8 0 (by simp)
 simp [BV] at f8
 exact ⟨⟨hh.keep hb, h9.bw.cell (hBc6.keep hT.t0) ht, h9.bw.cell (hBc6.keep hT.t1) ht, h9.bw.cell (hBc6.keep hT.t2) ht, h9.bw.cell (hBc6.keep hT.t3) ht, h9.bw.cell (hBc6.keep hT.t4) ht, h9.bw.cell (hBc6.keep hT.t5) ht, h9.bw.cell (hBc6.keep hT.t6) ht, h9.bw.cell (hBc6.keep hT.t7) ht,
  setSame h8.a, by (have hne : g8 ≠ A := by omega); simp [go_sem, f8, hne], h9.bw.cell (hBc6.keep hT.B0) hB⟩, hb⟩
set_option maxHeartbeats 8000000 in
theorem f40_ex (bl le fl fa ro se ar co : Nat) (w : World) (h : JobAt w bl le fl fa ro se ar co) : Calls Tryz.prog 40 #[jobV bl le fl fa ro se] w fun e w' => ∃ t A B F fc, e = .returned (.pointer (some ⟨t, 0, none⟩)) /\ TreeAt w' t bl le fl fa ro se ar co A B F fc /\ Bl w w' := by
 have hh := HD h
 clear h
 obtain ⟨R, hR⟩ : ∃ R : Ending -> World -> Prop, R = fun e w' => ∃ t A B F fc, e = .returned (.pointer (some ⟨t, 0, none⟩)) /\ TreeAt w' t bl le fl fa ro se ar co A B F fc /\ Bl w w' := ⟨_, rfl⟩
 rw [<- hR]
 have hRh := HD hR
 clear hR
 unfold jobV
 obtain ⟨X0, hX0⟩ : ∃ X, X = w.alloc (.cells #[.slice (some ⟨bl, 0, none⟩) 1 1, .slice (some ⟨le, 0, none⟩) 1 1, .slice (some ⟨fl, 0, none⟩) 1 1, .slice (some ⟨fa, 0, none⟩) 1 1, .slice (some ⟨ro, 0, none⟩) 1 1, .slice (some ⟨se, 0, none⟩) 1 1] 69) := ⟨_, rfl⟩
 have b0 : X0.cell? ⟨w.heap.size, 0, none⟩ = some (.slice (some ⟨bl, 0, none⟩) 1 1) := by rw [hX0]; simp [go_sem]
 have b1 : X0.cell? ⟨w.heap.size, 1, none⟩ = some (.slice (some ⟨le, 0, none⟩) 1 1) := by rw [hX0]; simp [go_sem]
 have b2 : X0.cell? ⟨w.heap.size, 2, none⟩ = some (.slice (some ⟨fl, 0, none⟩) 1 1) := by rw [hX0]; simp [go_sem]
 have b3 : X0.cell? ⟨w.heap.size, 3, none⟩ = some (.slice (some ⟨fa, 0, none⟩) 1 1) := by rw [hX0]; simp [go_sem]
 have b4 : X0.cell? ⟨w.heap.size, 4, none⟩ = some (.slice (some ⟨ro, 0, none⟩) 1 1) := by rw [hX0]; simp [go_sem]
 have b5 : X0.cell? ⟨w.heap.size, 5, none⟩ = some (.slice (some ⟨se, 0, none⟩) 1 1) := by rw [hX0]; simp [go_sem]
 have z0 : X0.heap.size = w.heap.size + 1 := by rw [hX0]; simp
 have hB0 : Bl w X0 := by rw [hX0]; exact bz
 have hma := make1c
 have hmb := make1b
 have HU := HD u29
 obtain ⟨i0, hi4, hz40, hz41, hz42⟩ := i4
 have HJ := HD (And.intro hi4 (And.intro hz40 (And.intro hz41 hz42)))
 clear hi4 hz40 hz41 hz42
 have T69 : Hid (∀ W, Bl w W -> Calls Tryz.prog 69 #[.agg #[.string ⟨#[115]⟩, .int .i64 100, .int .i64 3, .slice (some ⟨ar, 0, none⟩) 2 2, .slice (some ⟨co, 0, none⟩) 2 2], .int .i64 0, .int .i64 7] W fun e w' => e = .returned (.tuple #[.int .i64 0, .int .i64 0]) /\ Bl W w') := fun W hb =>
  f69_0 (sec0 ar co) W ((hh.out.keep hb).sec) (sec0_ok ar co) (by show (0 : Int) ≤ 100; decide)
 go_enter Tryz.func40, Tryz.ntmps40
 go_upto_region 1 with fail
 rw [<- hX0]
 clear hX0
 go_cut [3] (fun s3 wx => ∃ t A B : Nat, s3 = .pointer (some ⟨t, 0, none⟩) /\ Aside (RTree X0 bl le fl fa ro se t A B wx))
 case first =>
  go_region_held3 (fun w' => w'.cell? ⟨w.heap.size, 0, none⟩ = some (.slice (some ⟨bl, 0, none⟩) 1 1) /\ w'.cell? ⟨w.heap.size, 1, none⟩ = some (.slice (some ⟨le, 0, none⟩) 1 1) /\ w'.cell? ⟨w.heap.size, 2, none⟩ = some (.slice (some ⟨fl, 0, none⟩) 1 1) /\ w'.cell? ⟨w.heap.size, 3, none⟩ = some (.slice (some ⟨fa, 0, none⟩) 1 1) /\ w'.cell? ⟨w.heap.size, 4, none⟩ = some (.slice (some ⟨ro, 0, none⟩) 1 1) /\ w'.cell? ⟨w.heap.size, 5, none⟩ = some (.slice (some ⟨se, 0, none⟩) 1 1)) ((exact (fun (hh : Bl X0 _) => (⟨Bl.keep (a := X0) hh b0, Bl.keep (a := X0) hh b1, Bl.keep (a := X0) hh b2, Bl.keep (a := X0) hh b3, Bl.keep (a := X0) hh b4, Bl.keep (a := X0) hh b5⟩)) Bq)) (fail)
  all_goals (go_wp2_with fail)
  all_goals go_meet
  case rel => exact ⟨w.heap.size + 1 + 1 + 1, w.heap.size + 1, w.heap.size + 1 + 1, rfl, aside ⟨Bq, by (simp [z0]; try omega), by omega, by simp [go_sem, z0], by simp [go_sem, z0], by simp [go_sem, z0], by simp [go_sem, z0], by simp [go_sem, z0], by simp [go_sem, z0], by simp [go_sem, z0], by simp [go_sem, z0], by simp [go_sem, z0], by simp [go_sem, z0], by simp [go_sem, z0]⟩⟩
  case rel => exact ⟨w.heap.size + 1 + 1 + 1, w.heap.size + 1 + 1, w.heap.size + 1, rfl, aside ⟨Bq, by (simp [z0]; try omega), by omega, by simp [go_sem, z0], by simp [go_sem, z0], by simp [go_sem, z0], by simp [go_sem, z0], by simp [go_sem, z0], by simp [go_sem, z0], by simp [go_sem, z0], by simp [go_sem, z0], by simp [go_sem, z0], by simp [go_sem, z0], by simp [go_sem, z0]⟩⟩
 case rest =>
  obtain ⟨t, A, B, rfl, RT⟩ := hcut
  have hT := HD RT.out
  have hBc : Bl w wc := hB0.trans RT.out.bw
  have d0 := RT.out.bw.keep b0
  have d1 := RT.out.bw.keep b1
  have d2 := RT.out.bw.keep b2
  have d3 := RT.out.bw.keep b3
  have d4 := RT.out.bw.keep b4
  have d5 := RT.out.bw.keep b5
  clear RT hma hmb
  have hJ := HD (hh.out.keep hBc)
  have e0 := hJ.out.j_bl
  have s0 := hJ.out.j_s0
  have s1 := hJ.out.j_s1
  have s2 := hJ.out.j_s2
  have s3 := hJ.out.j_s3
  have s4 := hJ.out.j_s4
  go_wp2_with fail
  refine wp_loop_rounds 2 ?_
  rw [rounds_succ]
  go_wp2_with fail
  refine wp_loop_rounds 2 ?_
  rw [rounds_succ]
  go_upto_region 10 with fail
  obtain ⟨W0, hW0⟩ : ∃ X, X = wc.alloc (.cells #[.string ⟨#[115]⟩, .int .i64 100, .int .i64 3, .slice (some ⟨ar, 0, none⟩) 2 2, .slice (some ⟨co, 0, none⟩) 2 2] 58) := ⟨_, rfl⟩
  rw [<- hW0]
  have hBW : Bl wc W0 := by rw [hW0]; exact bz
  have q0 : W0.cell? ⟨wc.heap.size, 0, none⟩ = some (.string ⟨#[115]⟩) := by rw [hW0]; simp [go_sem]
  have q1 : W0.cell? ⟨wc.heap.size, 1, none⟩ = some (.int .i64 100) := by rw [hW0]; simp [go_sem]
  have q2 : W0.cell? ⟨wc.heap.size, 2, none⟩ = some (.int .i64 3) := by rw [hW0]; simp [go_sem]
  have q3 : W0.cell? ⟨wc.heap.size, 3, none⟩ = some (.slice (some ⟨ar, 0, none⟩) 2 2) := by rw [hW0]; simp [go_sem]
  have q4 : W0.cell? ⟨wc.heap.size, 4, none⟩ = some (.slice (some ⟨co, 0, none⟩) 2 2) := by rw [hW0]; simp [go_sem]
  have zW : W0.heap.size = wc.heap.size + 1 := by rw [hW0]; simp
  clear hW0 b0 b1 b2 b3 b4 b5 hB0 e0 s0 s1 s2 s3 s4
  have hB0 : Bl w W0 := hBc.trans hBW
  have q5 := hBW.keep d0
  have q6 := hBW.keep d1
  have q7 := hBW.keep d2
  have q8 := hBW.keep d3
  have q9 := hBW.keep d4
  have q10 := hBW.keep d5
  have q11 := hBW.keep hJ.out.j_le
  have q12 := hBW.keep hJ.out.j_fa
  have q13 := hBW.keep hJ.out.j_fl
  have q14 := hBW.keep hJ.out.j_ro
  clear d0 d1 d2 d3 d4 d5 hBc
  go_region_held3 (fun w' => w'.cell? ⟨wc.heap.size, 0, none⟩ = some (.string ⟨#[115]⟩) /\ w'.cell? ⟨wc.heap.size, 1, none⟩ = some (.int .i64 100) /\ w'.cell? ⟨wc.heap.size, 2, none⟩ = some (.int .i64 3) /\ w'.cell? ⟨wc.heap.size, 3, none⟩ = some (.slice (some ⟨ar, 0, none⟩) 2 2) /\ w'.cell? ⟨wc.heap.size, 4, none⟩ = some (.slice (some ⟨co, 0, none⟩) 2 2) /\ w'.cell? ⟨w.heap.size, 1, none⟩ = some (.slice (some ⟨le, 0, none⟩) 1 1) /\ w'.cell? ⟨w.heap.size, 3, none⟩ = some (.slice (some ⟨fa, 0, none⟩) 1 1) /\ w'.cell? ⟨le, 0, none⟩ = some (.int .i64 7) /\ w'.cell? ⟨fa, 0, none⟩ = some (.int .i64 0)) ((exact (fun (hh : Bl W0 _) => (⟨Bl.keep (a := W0) hh q0, Bl.keep (a := W0) hh q1, Bl.keep (a := W0) hh q2, Bl.keep (a := W0) hh q3, Bl.keep (a := W0) hh q4, Bl.keep (a := W0) hh q6, Bl.keep (a := W0) hh q8, Bl.keep (a := W0) hh q11, Bl.keep (a := W0) hh q12⟩)) Bq)) (first
   | (go_at_call 69; refine (T69.out _ Bq).mono ?_; rintro e w6 ⟨rfl, hw6⟩; obtain ⟨hc6, hf6, hz6⟩ := Bl.rules hw6; (try simp only [aZ, cZ, dZ, nZ] at hz6); have hB6 : Bl W0 w6 := Bq))
  clear hc6 hf6 hw6
  have hB06 : Bl w w6 := hB0.trans hB6
  have hBc6 : Bl wc w6 := hBW.trans hB6
  have t6 := hBc6.keep hT.out.t6
  have a0 := hBc6.keep hT.out.A0
  have af := hBc6.keepF hT.out.A0 hT.out.Af
  have r1 := hB6.keep q1
  have r7 := hB6.keep q7
  have r9 := hB6.keep q9
  have r13 := hB6.keep q13
  have r14 := hB6.keep q14
  have zA : A < w6.heap.size := by have := cell_lt a0; simpa using this
  have zt : t < w6.heap.size := by have := cell_lt t6; simpa using this
  have hne := hT.out.ne
  have hnA : A ≠ t := fun e => hne.1 e.symm
  have hzA0 : w.heap.size < A := by have := hT.out.zt.2.1; omega
  clear q0 q1 q2 q3 q4 q5 q6 q7 q8 q9 q10 q11 q12 q13 q14 hB6 hB0 hBW zW
  have zw6 : wc.heap.size < w6.heap.size := by have := cell_lt r1; simpa using this
  have hzw := hT.out.zt.2.2.2.2.1
  have sp6 : SPA w6 A w6 := ⟨But.refl _ _, by rw [a0]; rfl, af⟩
  have hfl := cell_lt hJ.out.j_fl
  have hro := cell_lt hJ.out.j_ro
  have hflw := cell_lt hh.out.j_fl
  have hrow := cell_lt hh.out.j_ro
  simp only at hfl hro hflw hrow
  have ht6 : t ∉ [A] := by simp; exact hne.1
  have hr1 : wc.heap.size ∉ [A] := by simp; omega
  have hr7 : w.heap.size ∉ [A] := by simp; omega
  have hr9 : w.heap.size ∉ [A] := by simp; omega
  have hr13 : fl ∉ [A] := by simp; omega
  have hr14 : ro ∉ [A] := by simp; omega
  go_upto_region 11 with fail
  refine wp_region_held_drew (S := (fun w' => SPA w6 A w' /\ w'.cell? ⟨t, 6, none⟩ = some (.slice (some ⟨A, 0, none⟩) 1 1) /\ w'.cell? ⟨wc.heap.size, 1, none⟩ = some (.int .i64 100) /\ w'.cell? ⟨w.heap.size, 2, none⟩ = some (.slice (some ⟨fl, 0, none⟩) 1 1) /\ w'.cell? ⟨w.heap.size, 4, none⟩ = some (.slice (some ⟨ro, 0, none⟩) 1 1) /\ w'.cell? ⟨fl, 0, none⟩ = some (.int .i64 0) /\ w'.cell? ⟨ro, 0, none⟩ = some (.int .i64 100))) (by kernel_rfl) ?_ (fun hHeld => ?_)
  ·(try dsimp only)
   ((exact (fun (hh : SPA w6 A _) => (⟨hh, hh.bw.cell t6 ht6, hh.bw.cell r1 hr1, hh.bw.cell r7 hr7, hh.bw.cell r9 hr9, hh.bw.cell r13 hr13, hh.bw.cell r14 hr14⟩)) (by repeat (first | (with_reducible assumption) | (with_reducible refine SPA.alloc ?_ _) | (with_reducible refine SPA.drew ?_) | (with_reducible refine SPA.set ?_ _)))))
  refine tk 0 ?_
  (try simp only [Act.put, lA, lB, lC])
  refine tk 1 ?_
  (try simp only [Act.put, lA, lB, lC])
  refine tk 2 ?_
  (try simp only [Act.put, lA, lB, lC])
  refine tk 3 ?_
  (try simp only [Act.put, lA, lB, lC])
  refine tk 4 ?_
  (try simp only [Act.put, lA, lB, lC])
  refine tk 5 ?_
  (try simp only [Act.put, lA, lB, lC])
  refine tk 6 ?_
  (try simp only [Act.put, lA, lB, lC])
  refine tk 7 ?_
  (try simp only [Act.put, lA, lB, lC])
  refine tk 8 ?_
  (try simp only [Act.put, lA, lB, lC])
  refine tk 9 ?_
  (try simp only [Act.put, lA, lB, lC])
  refine tk 10 ?_
  (try simp only [Act.put, lA, lB, lC])
  refine tk 12 ?_
  (try simp only [Act.put, lA, lB, lC])
  refine tk 13 ?_
  (try simp only [Act.put, lA, lB, lC])
  refine tk 14 ?_
  (try simp only [Act.put, lA, lB, lC])
  refine tk 15 ?_
  (try simp only [Act.put, lA, lB, lC])
  refine tk 16 ?_
  (try simp only [Act.put, lA, lB, lC])
  refine tk 17 ?_
  (try simp only [Act.put, lA, lB, lC])
  refine tk 18 ?_
  (try simp only [Act.put, lA, lB, lC])
  refine tk 19 ?_
  (try simp only [Act.put, lA, lB, lC])
  refine tk 20 ?_
  (try simp only [Act.put, lA, lB, lC])
  refine tk 21 ?_
  (try simp only [Act.put, lA, lB, lC])
  refine tk 22 ?_
  (try simp only [Act.put, lA, lB, lC])
  refine tk 23 ?_
  (try simp only [Act.put, lA, lB, lC])
  refine tk 24 ?_
  (try simp only [Act.put, lA, lB, lC])
  refine tk 25 ?_
  (try simp only [Act.put, lA, lB, lC])
  refine tk 26 ?_
  (try simp only [Act.put, lA, lB, lC])
  refine tk 27 ?_
  (try simp only [Act.put, lA, lB, lC])
  refine tk 28 ?_
  (try simp only [Act.put, lA, lB, lC])
  refine tk 29 ?_
  (try simp only [Act.put, lA, lB, lC])
  refine tk 30 ?_
  (try simp only [Act.put, lA, lB, lC])
  refine tk 31 ?_
  (try simp only [Act.put, lA, lB, lC])
  refine tk 32 ?_
  (try simp only [Act.put, lA, lB, lC])
  refine tk 33 ?_
  (try simp only [Act.put, lA, lB, lC])
  refine tk 34 ?_
  (try simp only [Act.put, lA, lB, lC])
  refine tk 35 ?_
  (try simp only [Act.put, lA, lB, lC])
  refine tk 36 ?_
  (try simp only [Act.put, lA, lB, lC])
  refine wpAnyH_ready (rs := [11, 37]) (by kernel_rfl) (by simp) ?_
  refine tc (fun K hK => ?_) ?_
  ·go_simp
   refine hK.out _ _ ?_ (fun hHeld => ?_)
   ·(try dsimp only)
    ((exact (fun (hh : SPA w6 A _) => (⟨hh, hh.bw.cell t6 ht6, hh.bw.cell r1 hr1, hh.bw.cell r7 hr7, hh.bw.cell r9 hr9, hh.bw.cell r13 hr13, hh.bw.cell r14 hr14⟩)) (by repeat (first | (with_reducible assumption) | (with_reducible refine SPA.alloc ?_ _) | (with_reducible refine SPA.drew ?_) | (with_reducible refine SPA.set ?_ _)))))
   clear hK K
   (try simp only [Act.put, lA, lB, lC])
   refine wpAnyH_ready (rs := [37]) (by kernel_rfl) (by simp) ?_
   refine tc (fun K hK => ?_) ?_
   ·go_simp
    refine hK.out _ _ ?_ (fun hHeld => ?_)
    ·(try dsimp only)
     ((exact (fun (hh : SPA w6 A _) => (⟨hh, hh.bw.cell t6 ht6, hh.bw.cell r1 hr1, hh.bw.cell r7 hr7, hh.bw.cell r9 hr9, hh.bw.cell r13 hr13, hh.bw.cell r14 hr14⟩)) (by repeat (first | (with_reducible assumption) | (with_reducible refine SPA.alloc ?_ _) | (with_reducible refine SPA.drew ?_) | (with_reducible refine SPA.set ?_ _)))))
    clear hK K
    (try simp only [Act.put, lA, lB, lC])
    refine wpAnyH_ready (rs := [38]) (by kernel_rfl) (by simp) ?_
    refine tc (fun K hK => ?_) ?_
    ·(rw [if_pos (by rfl)]; refine wp_append_own_at _ _ _ 29 rfl w6.heap.size 4 i0 (.bool false) 1 1 HU.out HJ.out.1 HJ.out.2.1 HJ.out.2.2.1 HJ.out.2.2.2 rfl (by decide) _ _ _ rfl (World.ownsRow_nil _ _ _ _) _ 1 1 [.bool true] rfl rfl (cell_one_new _ _ _) (by intro u hu; simp at hu; subst hu; rfl) (by unfold maxLen; omega) (by omega) (by (try simp only [aZ, dZ]); omega) ?_; intro v' w8 hown8 hgr8 hat8; obtain ⟨⟨A8, c8, l8⟩, hv8, hx8, hO8⟩ := Own1.ofRow (f := BV) (e := 4) (base := w6.heap.size) (w := w8) (v := v') (xs := [true]) hown8; obtain rfl : l8 = [true] := hx8; obtain ⟨g8, hA8, hge8, hlt8⟩ := Own1.ptr hO8 (by simp); simp only at hA8; subst hA8; subst hv8; have hs8 : SPA w6 A w8 := SPA.bl (by repeat (first | assumption | refine SPA.alloc ?_ _ | refine SPA.drew ?_)) (Bl.grown (Bl.refl _) hgr8 (fun g hg => by cases hg)); obtain ⟨v9, hv9⟩ := Option.isSome_iff_exists.1 hs8.a; have af9 := hs8.f; have zz8 := hs8.bw.size)
     refine hK.out _ _ ?_ (fun hHeld => ?_)
     ·(try dsimp only)
      ((exact (fun (hh : SPA w6 A _) => (⟨hh, hh.bw.cell t6 ht6, hh.bw.cell r1 hr1, hh.bw.cell r7 hr7, hh.bw.cell r9 hr9, hh.bw.cell r13 hr13, hh.bw.cell r14 hr14⟩)) (by repeat (first | (with_reducible assumption) | (with_reducible refine SPA.alloc ?_ _) | (with_reducible refine SPA.drew ?_) | (with_reducible refine SPA.set ?_ _)))))
     clear hK K
     (try simp only [Act.put, lA, lB, lC])
     refine tk 39 ?_
     (try simp only [Act.put, lA, lB, lC])
     refine wpAnyH_ready (rs := [40]) (by kernel_rfl) (by simp) ?_
     refine tc (fun K hK => ?_) ?_
     ·go_simp
      refine hK.out _ _ ?_ (fun hHeld => ?_)
      ·(try dsimp only)
       ((exact (fun (hh : SPA w6 A _) => (⟨hh, hh.bw.cell t6 ht6, hh.bw.cell r1 hr1, hh.bw.cell r7 hr7, hh.bw.cell r9 hr9, hh.bw.cell r13 hr13, hh.bw.cell r14 hr14⟩)) (by repeat (first | (with_reducible assumption) | (with_reducible refine SPA.alloc ?_ _) | (with_reducible refine SPA.drew ?_) | (with_reducible refine SPA.set ?_ _)))))
      clear hK K
      (try simp only [Act.put, lA, lB, lC])
      refine wpAnyH_done (by kernel_rfl) ?_ _
      have hE := treeEnd hh.out hT.out (by omega) hB06 hBc6 hs8 hge8 hO8
      have hfin : R (.returned (.pointer (some ⟨t, 0, none⟩))) (w8.setCell ⟨A, 0, none⟩ (.slice (some ⟨g8, 0, none⟩) 1 c8)) := by
       rw [hRh.out]
       exact ⟨t, A, B, g8, c8, rfl, hE.1, hE.2⟩
      clear hE hgr8 hat8 hown8 hO8 hs8 hv9 af9 zz8
      go_wp2_with fail
      rw [rounds_succ]
      go_wp2_with fail
      rw [rounds_succ]
      go_wp2_with fail
      first | exact hfin | exact bodyPost_ret (v := .pointer (some ⟨t, 0, none⟩)) (by simp [results, Tryz.results40, go_sem, *]; try exact ⟨rfl, rfl⟩) rfl hfin
     exact AllReadyH.nil
    exact AllReadyH.nil
   exact AllReadyH.nil
  refine tc (fun K hK => ?_) ?_
  ·go_simp
   refine hK.out _ _ ?_ (fun hHeld => ?_)
   ·(try dsimp only)
    ((exact (fun (hh : SPA w6 A _) => (⟨hh, hh.bw.cell t6 ht6, hh.bw.cell r1 hr1, hh.bw.cell r7 hr7, hh.bw.cell r9 hr9, hh.bw.cell r13 hr13, hh.bw.cell r14 hr14⟩)) (by repeat (first | (with_reducible assumption) | (with_reducible refine SPA.alloc ?_ _) | (with_reducible refine SPA.drew ?_) | (with_reducible refine SPA.set ?_ _)))))
   clear hK K
   (try simp only [Act.put, lA, lB, lC])
   refine wpAnyH_ready (rs := [11]) (by kernel_rfl) (by simp) ?_
   refine tc (fun K hK => ?_) ?_
   ·go_simp
    refine hK.out _ _ ?_ (fun hHeld => ?_)
    ·(try dsimp only)
     ((exact (fun (hh : SPA w6 A _) => (⟨hh, hh.bw.cell t6 ht6, hh.bw.cell r1 hr1, hh.bw.cell r7 hr7, hh.bw.cell r9 hr9, hh.bw.cell r13 hr13, hh.bw.cell r14 hr14⟩)) (by repeat (first | (with_reducible assumption) | (with_reducible refine SPA.alloc ?_ _) | (with_reducible refine SPA.drew ?_) | (with_reducible refine SPA.set ?_ _)))))
    clear hK K
    (try simp only [Act.put, lA, lB, lC])
    refine wpAnyH_ready (rs := [38]) (by kernel_rfl) (by simp) ?_
    refine tc (fun K hK => ?_) ?_
    ·(rw [if_pos (by rfl)]; refine wp_append_own_at _ _ _ 29 rfl w6.heap.size 4 i0 (.bool false) 1 1 HU.out HJ.out.1 HJ.out.2.1 HJ.out.2.2.1 HJ.out.2.2.2 rfl (by decide) _ _ _ rfl (World.ownsRow_nil _ _ _ _) _ 1 1 [.bool true] rfl rfl (cell_one_new _ _ _) (by intro u hu; simp at hu; subst hu; rfl) (by unfold maxLen; omega) (by omega) (by (try simp only [aZ, dZ]); omega) ?_; intro v' w8 hown8 hgr8 hat8; obtain ⟨⟨A8, c8, l8⟩, hv8, hx8, hO8⟩ := Own1.ofRow (f := BV) (e := 4) (base := w6.heap.size) (w := w8) (v := v') (xs := [true]) hown8; obtain rfl : l8 = [true] := hx8; obtain ⟨g8, hA8, hge8, hlt8⟩ := Own1.ptr hO8 (by simp); simp only at hA8; subst hA8; subst hv8; have hs8 : SPA w6 A w8 := SPA.bl (by repeat (first | assumption | refine SPA.alloc ?_ _ | refine SPA.drew ?_)) (Bl.grown (Bl.refl _) hgr8 (fun g hg => by cases hg)); obtain ⟨v9, hv9⟩ := Option.isSome_iff_exists.1 hs8.a; have af9 := hs8.f; have zz8 := hs8.bw.size)
     refine hK.out _ _ ?_ (fun hHeld => ?_)
     ·(try dsimp only)
      ((exact (fun (hh : SPA w6 A _) => (⟨hh, hh.bw.cell t6 ht6, hh.bw.cell r1 hr1, hh.bw.cell r7 hr7, hh.bw.cell r9 hr9, hh.bw.cell r13 hr13, hh.bw.cell r14 hr14⟩)) (by repeat (first | (with_reducible assumption) | (with_reducible refine SPA.alloc ?_ _) | (with_reducible refine SPA.drew ?_) | (with_reducible refine SPA.set ?_ _)))))
     clear hK K
     (try simp only [Act.put, lA, lB, lC])
     refine tk 39 ?_
     (try simp only [Act.put, lA, lB, lC])
     refine wpAnyH_ready (rs := [40]) (by kernel_rfl) (by simp) ?_
     refine tc (fun K hK => ?_) ?_
     ·go_simp
      refine hK.out _ _ ?_ (fun hHeld => ?_)
      ·(try dsimp only)
       ((exact (fun (hh : SPA w6 A _) => (⟨hh, hh.bw.cell t6 ht6, hh.bw.cell r1 hr1, hh.bw.cell r7 hr7, hh.bw.cell r9 hr9, hh.bw.cell r13 hr13, hh.bw.cell r14 hr14⟩)) (by repeat (first | (with_reducible assumption) | (with_reducible refine SPA.alloc ?_ _) | (with_reducible refine SPA.drew ?_) | (with_reducible refine SPA.set ?_ _)))))
      clear hK K
      (try simp only [Act.put, lA, lB, lC])
      refine wpAnyH_done (by kernel_rfl) ?_ _
      have hE := treeEnd hh.out hT.out (by omega) hB06 hBc6 hs8 hge8 hO8
      have hfin : R (.returned (.pointer (some ⟨t, 0, none⟩))) (w8.setCell ⟨A, 0, none⟩ (.slice (some ⟨g8, 0, none⟩) 1 c8)) := by
       rw [hRh.out]
       exact ⟨t, A, B, g8, c8, rfl, hE.1, hE.2⟩
      clear hE hgr8 hat8 hown8 hO8 hs8 hv9 af9 zz8
      go_wp2_with fail
      rw [rounds_succ]
      go_wp2_with fail
      rw [rounds_succ]
      go_wp2_with fail
      first | exact hfin | exact bodyPost_ret (v := .pointer (some ⟨t, 0, none⟩)) (by simp [results, Tryz.results40, go_sem, *]; try exact ⟨rfl, rfl⟩) rfl hfin
     exact AllReadyH.nil
    exact AllReadyH.nil
   exact AllReadyH.nil
  exact AllReadyH.nil
theorem make1i (w : World) : Sem.run Tryz.prog (Instr.makeSlice 28 (.int .i64 1) (.int .i64 1)) w = .ok (.slice (some ⟨w.heap.size, 0, none⟩) 1 1) (w.alloc (.cells #[.int .i64 0] 3)) := by
 obtain ⟨i, hi, h0, h1, h2⟩ := i3
 have := run_make (P := Tryz.prog) w 28 3 i (.int .i64 0) u28 hi h0 .i64 .i64 1 1 (by decide) (by decide) (by rw [h2]; decide) (by decide)
 rw [h1, show madeCells (Value.int .i64 0).cells ((1 : Int).toNat * 1) = #[.int .i64 0] from by
  unfold madeCells
  rw [show Array.range (Int.toNat 1 * 1) = #[0] by decide, show (Value.int .i64 0).cells = #[.int .i64 0] by simp [Value.cells]]
  simp] at this
 exact this
set_option maxHeartbeats 2000000 in
theorem f17_of (T40 : ∀ (bl le fl fa ro se ar co : Nat) (w : World), JobAt w bl le fl fa ro se ar co -> Calls Tryz.prog 40 #[jobV bl le fl fa ro se] w fun e w' => ∃ t A B F fc, e = .returned (.pointer (some ⟨t, 0, none⟩)) /\ TreeAt w' t bl le fl fa ro se ar co A B F fc /\ Bl w w')
 (bl le fl fa ro se ar co : Nat) (w : World) (h : JobAt w bl le fl fa ro se ar co) : Calls Tryz.prog 17 #[jobV bl le fl fa ro se] w fun e w' => ∃ b c, e = .returned (.tuple #[.int .i64 21, .slice (some ⟨b, 0, none⟩) 1 c, .int .i64 0]) /\ w'.cell? ⟨b, 0, none⟩ = some (.int .i64 0) /\ Bl w w' := by
 have hh := HD h
 clear h
 obtain ⟨R, hR⟩ : ∃ R : Ending -> World -> Prop, R = fun e w' => ∃ b c, e = .returned (.tuple #[.int .i64 21, .slice (some ⟨b, 0, none⟩) 1 c, .int .i64 0]) /\ w'.cell? ⟨b, 0, none⟩ = some (.int .i64 0) /\ Bl w w' := ⟨_, rfl⟩
 rw [<- hR]
 have hRh := HD hR
 clear hR
 have T40 := HD (T40 bl le fl fa ro se ar co)
 obtain ⟨X0, hX0⟩ : ∃ X, X = w.alloc (.cells #[.slice (some ⟨bl, 0, none⟩) 1 1, .slice (some ⟨le, 0, none⟩) 1 1, .slice (some ⟨fl, 0, none⟩) 1 1, .slice (some ⟨fa, 0, none⟩) 1 1, .slice (some ⟨ro, 0, none⟩) 1 1, .slice (some ⟨se, 0, none⟩) 1 1] 69) := ⟨_, rfl⟩
 have b0 : X0.cell? ⟨w.heap.size, 0, none⟩ = some (.slice (some ⟨bl, 0, none⟩) 1 1) := by rw [hX0]; simp [go_sem]
 have b1 : X0.cell? ⟨w.heap.size, 1, none⟩ = some (.slice (some ⟨le, 0, none⟩) 1 1) := by rw [hX0]; simp [go_sem]
 have b2 : X0.cell? ⟨w.heap.size, 2, none⟩ = some (.slice (some ⟨fl, 0, none⟩) 1 1) := by rw [hX0]; simp [go_sem]
 have b3 : X0.cell? ⟨w.heap.size, 3, none⟩ = some (.slice (some ⟨fa, 0, none⟩) 1 1) := by rw [hX0]; simp [go_sem]
 have b4 : X0.cell? ⟨w.heap.size, 4, none⟩ = some (.slice (some ⟨ro, 0, none⟩) 1 1) := by rw [hX0]; simp [go_sem]
 have b5 : X0.cell? ⟨w.heap.size, 5, none⟩ = some (.slice (some ⟨se, 0, none⟩) 1 1) := by rw [hX0]; simp [go_sem]
 have z0 : X0.heap.size = w.heap.size + 1 := by rw [hX0]; simp
 have hB0 : Bl w X0 := by rw [hX0]; exact bz
 have T39 := HD (f39_ex bl le fl fa ro se ar co X0 (hh.out.keep hB0))
 have hBX := HD hB0
 clear hB0
 unfold jobV at T39 T40 ⊢
 go_enter Tryz.func17, Tryz.ntmps17
 go_upto_region 1 with fail
 rw [<- hX0]
 clear hX0
 go_wp2_with fail
 refine T39.out.mono ?_
 rintro e w1 ⟨rfl, hw1⟩
 clear T39
 have c0 := hw1.keep b0
 have c1 := hw1.keep b1
 have c2 := hw1.keep b2
 have c3 := hw1.keep b3
 have c4 := hw1.keep b4
 have c5 := hw1.keep b5
 have z1 : w.heap.size < w1.heap.size := by have := hw1.size; omega
 have hB1 := HD (hBX.out.trans hw1)
 clear b0 b1 b2 b3 b4 b5 z0 hw1 hBX
 go_wp2_with fail
 refine (T40.out w1 (hh.out.keep hB1.out)).mono ?_
 rintro e w2 ⟨t, A, B, F, fc, rfl, ht, hw2⟩
 have T41 := HD (f41_ex t bl le fl fa ro se ar co A B F fc w2 ht)
 have hT := HD ht
 have d0 := hw2.keep c0
 have z2 : w.heap.size < w2.heap.size := by have := hw2.size; omega
 have hB2 := HD (hB1.out.trans hw2)
 clear ht T40 hw2 c0 c1 c2 c3 c4 c5 z1 hB1
 go_wp2_with fail
 refine T41.out.mono ?_
 rintro e w3 ⟨o, v, vc, rfl, ho, hv, hw3⟩
 have T42 := HD (f42_ex t bl le fl fa ro se ar co A B F fc o v vc w3 (hT.out.keep hw3) ho hv)
 have e0 := hw3.keep d0
 have hT3 := HD (hT.out.keep hw3)
 have z3 : w.heap.size < w3.heap.size := by have := hw3.size; omega
 have hB3 := HD (hB2.out.trans hw3)
 have ho3 := HD ho
 have hv3 := HD hv
 clear T41 hw3 hT z2 d0 hB2 ho hv
 go_wp2_with fail
 refine T42.out.mono ?_
 rintro e w4 ⟨rfl, hw4⟩
 have g0 := hw4.keep e0
 have hT4 := HD (hT3.out.keep hw4)
 have z4 : w.heap.size < w4.heap.size := by have := hw4.size; omega
 have hB4 := HD (hB3.out.trans hw4)
 have ho4 := HD (hw4.keep ho3.out)
 have hv4 := HD (hw4.keep hv3.out)
 clear T42 hw4 hT3 z3 e0 hB3 ho3 hv3
 have hmk := make1i w4
 obtain ⟨X5, hX5⟩ : ∃ X, X = w4.alloc (.cells #[.int .i64 0] 3) := ⟨_, rfl⟩
 rw [<- hX5] at hmk
 have hB45 : Bl w4 X5 := by rw [hX5]; exact bz
 have p0 : X5.cell? ⟨w4.heap.size, 0, none⟩ = some (.int .i64 0) := by rw [hX5]; simp [go_sem]
 have pf0 : X5.frozen? ⟨w4.heap.size, 0, none⟩ = false := by rw [hX5]; simp [go_sem]
 have z5 : X5.heap.size = w4.heap.size + 1 := by rw [hX5]; simp
 clear hX5
 have g1 := hB45.keep g0
 have o5 := hB45.keep ho4.out
 have l5 := hB45.keep hT4.out.job.j_bl
 have T43 := HD (f43_ex t bl le fl fa ro se ar co A B F fc v vc X5 (hT4.out.keep hB45) (hB45.keep hv4.out))
 have hB5 := HD (hB4.out.trans hB45)
 clear hT4 hB4 ho4 hv4 hB45
 go_wp2_with fail
 clear hmk g0
 refine wp_loop_rounds 2 ?_
 rw [rounds_succ]
 go_wp2_with fail
 refine T43.out.mono ?_
 rintro e w6 ⟨rfl, hw6⟩
 have q0 := hw6.keep p0
 have qf0 := hw6.keepF p0 pf0
 have z6 : w4.heap.size < w6.heap.size := by have := hw6.size; omega
 have hfin : R (.returned (.tuple #[.int .i64 21, .slice (some ⟨w4.heap.size, 0, none⟩) 1 1, .int .i64 0])) (w6.setCell ⟨w4.heap.size, 0, none⟩ (.int .i64 0)) := by
  rw [hRh.out]
  exact ⟨_, _, rfl, by simp [go_sem, q0], Bl.setCell (hB5.out.trans hw6) (by simp only; omega) _⟩
 clear p0 pf0 g1 o5 l5 z5 T43 hB5 hw6
 go_wp2_with fail
 rw [rounds_succ]
 go_wp2_with fail
 first | exact hfin | exact bodyPost_ret (v := .tuple #[.int .i64 21, .slice (some ⟨w4.heap.size, 0, none⟩) 1 1, .int .i64 0]) (by simp [results, Tryz.results17, go_sem, *]; try exact ⟨rfl, rfl⟩) rfl hfin
set_option maxHeartbeats 4000000 in
theorem f4_of (T17 : ∀ (bl le fl fa ro se ar co : Nat) (w : World), JobAt w bl le fl fa ro se ar co -> Calls Tryz.prog 17 #[jobV bl le fl fa ro se] w fun e w' => ∃ b c, e = .returned (.tuple #[.int .i64 21, .slice (some ⟨b, 0, none⟩) 1 c, .int .i64 0]) /\ w'.cell? ⟨b, 0, none⟩ = some (.int .i64 0) /\ Bl w w')
 (w : World) : Calls Tryz.prog 4 #[] w fun e w' => e = .returned (.bool true) /\ Bl w w' := by
 obtain ⟨R, hR⟩ : ∃ R : Ending -> World -> Prop, R = fun e w' => e = .returned (.bool true) /\ Bl w w' := ⟨_, rfl⟩
 rw [<- hR]
 have hRh := HD hR
 clear hR
 have T17 := HD T17
 go_enter Tryz.func4, Tryz.ntmps4
 go_wp2_with fail
 refine (f16_ex w.heap.size (w.heap.size + 1) (w.heap.size + 1 + 1) _ (by constructor <;> simp [go_sem])).mono ?_
 rintro e w1 ⟨b1, c1, rfl, p1, hw1⟩
 have hB1 : Bl w w1 := Bl.trans (by repeat first | exact Bl.refl _ | refine Bl.alloc ?_ _) hw1
 have hB1h := HD hB1
 have P1 := HD p1
 clear hw1 hB1 p1
 go_wp2_with fail
 refine (T17.out _ _ _ _ _ _ w1.heap.size (w1.heap.size + 1) _ (by constructor <;> simp [go_sem])).mono ?_
 rintro e w2 ⟨b2, c2, rfl, p2, hw2⟩
 have hB12 : Bl w1 w2 := Bl.trans bz hw2
 have hB2 := HD (hB1h.out.trans hB12)
 have P12 := HD (hB12.keep P1.out)
 have P2 := HD p2
 clear hw2 hB12 p2 P1 T17 hB1h
 go_wp2_with fail
 refine (f18_ex w2.heap.size _ (by simp [go_sem]) (by simp [go_sem])).mono ?_
 rintro e w3 ⟨b3, c3, rfl, p3, hw3⟩
 have hB23 : Bl w2 w3 := Bl.trans bz hw3
 have hB3 := HD (hB2.out.trans hB23)
 have P13 := HD (hB23.keep P12.out)
 have P23 := HD (hB23.keep P2.out)
 have P3 := HD p3
 clear hw3 hB23 p3 P12 P2 hB2
 go_wp2_with fail
 refine (f19_awake _).mono ?_
 rintro e w4 ⟨rfl, hw4⟩
 have hB4 := HD (hB3.out.trans hw4)
 have P14 := HD (hw4.keep P13.out)
 have P24 := HD (hw4.keep P23.out)
 have P34 := HD (hw4.keep P3.out)
 clear hw4 hB3 P13 P23 P3
 go_wp2_with fail
 refine (f20_1 b1 0 w4.heap.size 0 c1 1 0 _ (Bl.keep (a := w4) bz P14.out) (by simp [go_sem])).mono ?_
 rintro e w5 ⟨rfl, hw5⟩
 have hB45 : Bl w4 w5 := Bl.trans bz hw5
 have hB5 := HD (hB4.out.trans hB45)
 have P25 := HD (hB45.keep P24.out)
 have P35 := HD (hB45.keep P34.out)
 clear hw5 hB45 P24 P34 P14 hB4
 go_wp2_with fail
 refine (f20_1 b2 0 w5.heap.size 0 c2 1 0 _ (Bl.keep (a := w5) bz P25.out) (by simp [go_sem])).mono ?_
 rintro e w6 ⟨rfl, hw6⟩
 have hB56 : Bl w5 w6 := Bl.trans bz hw6
 have hB6 := HD (hB5.out.trans hB56)
 have P36 := HD (hB56.keep P35.out)
 clear hw6 hB56 P25 P35 hB5
 go_wp2_with fail
 refine (f21_1 b3 0 w6.heap.size 0 c3 1 _ _ (Bl.keep (a := w6) bz P36.out) (by simp [go_sem])).mono ?_
 rintro e w7 ⟨rfl, hw7⟩
 have hB67 : Bl w6 w7 := Bl.trans bz hw7
 have hfin : R (.returned (.bool true)) w7 := by
  rw [hRh.out]
  exact ⟨rfl, hB6.out.trans hB67⟩
 clear hw7 hB67 P36 hB6
 go_wp2_with fail
 first | exact hfin | exact bodyPost_ret (v := .bool true) (by simp [results, Tryz.results4, go_sem, *]; try exact ⟨rfl, rfl⟩) rfl hfin
open Go.ChangeShapes Go.WideShapes Go.ChangeAt
theorem list_choice {α : Type} {p : Nat -> α -> Prop} : ∀ n : Nat, (∀ i, i < n -> ∃ x, p i x) -> ∃ xs : List α, xs.length = n /\ ∀ i (h : i < xs.length), p i xs[i]
 | 0, _ => ⟨[], rfl, fun i h => absurd h (by simp)⟩
 | n + 1, h => by
  obtain ⟨xs, hl, hx⟩ := list_choice n (fun i hi => h i (by omega))
  obtain ⟨x, hp⟩ := h n (by omega)
  refine ⟨xs ++ [x], by simp [hl], fun i hi => ?_⟩
  by_cases hin : i < xs.length
  ·rw [List.getElem_append_left hin]; exact hx i hin
  ·have : i = n := by simp at hi; omega
   subst this
   rw [List.getElem_append_right (by omega)]
   simpa [hl] using hp
theorem list2 {α : Type} {cs : List α} (h : cs.length = 2) : ∃ c0 c1, cs = [c0, c1] := by
 match cs, h with
 | [c0, c1], _ => exact ⟨c0, c1, rfl⟩
theorem list3 {α : Type} {cs : List α} (h : cs.length = 3) : ∃ c0 c1 c2, cs = [c0, c1, c2] := by
 match cs, h with
 | [c0, c1, c2], _ => exact ⟨c0, c1, c2, rfl⟩
theorem list4 {α : Type} {cs : List α} (h : cs.length = 4) : ∃ c0 c1 c2 c3, cs = [c0, c1, c2, c3] := by
 match cs, h with
 | [c0, c1, c2, c3], _ => exact ⟨c0, c1, c2, c3, rfl⟩
theorem list5 {α : Type} {cs : List α} (h : cs.length = 5) : ∃ c0 c1 c2 c3 c4, cs = [c0, c1, c2, c3, c4] := by
 match cs, h with
 | [c0, c1, c2, c3, c4], _ => exact ⟨c0, c1, c2, c3, c4, rfl⟩
theorem list9 {α : Type} {cs : List α} (h : cs.length = 9) : ∃ c0 c1 c2 c3 c4 c5 c6 c7 c8, cs = [c0, c1, c2, c3, c4, c5, c6, c7, c8] := by
 match cs, h with
 | [c0, c1, c2, c3, c4, c5, c6, c7, c8], _ => exact ⟨c0, c1, c2, c3, c4, c5, c6, c7, c8, rfl⟩
theorem list11 {α : Type} {cs : List α} (h : cs.length = 11) : ∃ c0 c1 c2 c3 c4 c5 c6 c7 c8 c9 c10, cs = [c0, c1, c2, c3, c4, c5, c6, c7, c8, c9, c10] := by
 match cs, h with
 | [c0, c1, c2, c3, c4, c5, c6, c7, c8, c9, c10], _ => exact ⟨c0, c1, c2, c3, c4, c5, c6, c7, c8, c9, c10, rfl⟩
theorem cells41 : Tryz.prog.cellsOf 41 = 9 := by kernel_rfl
theorem pos41 : 0 < Tryz.prog.bytesOf 41 := of_decide_eq_true (by kernel_rfl)
theorem cells45 : Tryz.prog.cellsOf 45 = 11 := by kernel_rfl
theorem pos45 : 0 < Tryz.prog.bytesOf 45 := of_decide_eq_true (by kernel_rfl)
theorem cells9 : Tryz.prog.cellsOf 9 = 1 := by kernel_rfl
theorem cells3 : Tryz.prog.cellsOf 3 = 1 := by kernel_rfl
theorem pos3 : 0 < Tryz.prog.bytesOf 3 := of_decide_eq_true (by kernel_rfl)
theorem cells37 : Tryz.prog.cellsOf 37 = 2 := by kernel_rfl
theorem cells39 : Tryz.prog.cellsOf 39 = 1 := by kernel_rfl
theorem cells4 : Tryz.prog.cellsOf 4 = 1 := by kernel_rfl
theorem pos4 : 0 < Tryz.prog.bytesOf 4 := of_decide_eq_true (by kernel_rfl)
theorem cells64 : Tryz.prog.cellsOf 64 = 2 := by kernel_rfl
theorem pos64 : 0 < Tryz.prog.bytesOf 64 := of_decide_eq_true (by kernel_rfl)
theorem cells58 : Tryz.prog.cellsOf 58 = 5 := by kernel_rfl
theorem pos58 : 0 < Tryz.prog.bytesOf 58 := of_decide_eq_true (by kernel_rfl)
theorem cells50 : Tryz.prog.cellsOf 50 = 4 := by kernel_rfl
theorem pos50 : 0 < Tryz.prog.bytesOf 50 := of_decide_eq_true (by kernel_rfl)
theorem cells48 : Tryz.prog.cellsOf 48 = 1 := by kernel_rfl
theorem cells184 : Tryz.prog.cellsOf 184 = 3 := by kernel_rfl
theorem pos184 : 0 < Tryz.prog.bytesOf 184 := of_decide_eq_true (by kernel_rfl)
theorem cells31 : Tryz.prog.cellsOf 31 = 4 := by kernel_rfl
theorem cells28 : Tryz.prog.cellsOf 28 = 1 := by kernel_rfl
theorem cells54 : Tryz.prog.cellsOf 54 = 2 := by kernel_rfl
theorem pos54 : 0 < Tryz.prog.bytesOf 54 := of_decide_eq_true (by kernel_rfl)
theorem cells25 : Tryz.prog.cellsOf 25 = 2 := by kernel_rfl
section
variable {H : Type} {enc : TypeId × Value -> H} {w : World} {base : Nat} {spare : Nat -> Bool} {held : Bool}
def Light {H : Type} (t : TypeId) (d : DataW H) : Prop := ∀ m ∈ d.weights Tryz.prog t, m ≤ reachBytes
theorem light_of {ts : List TypeId} {ds : List (DataW H)} (h : (DataW.weightsEach Tryz.prog ts ds).all (· ≤ reachBytes) = true) {j : Nat} {t : TypeId} {d : DataW H} (ht : ts[j]? = some t) (hd : ds[j]? = some d) : Light t d := fun m hm => by
 simpa using List.all_eq_true.1 h _ (DataW.weights_mem_each ht hd m hm)
theorem weightsAll_mem {e : TypeId} : ∀ {l : List (DataW H)} {d : DataW H}, d ∈ l -> ∀ n ∈ d.weights Tryz.prog e, n ∈ DataW.weightsAll Tryz.prog e l
 | d' :: r, d, hd, n, hn => by
  simp only [DataW.weightsAll, List.mem_append]
  rcases List.mem_cons.1 hd with rfl | h
  ·exact Or.inl hn
  ·exact Or.inr (weightsAll_mem h n hn)
theorem light_slice {t e : TypeId} {l r : List (DataW H)} (hu : Tryz.prog.underlying t = some (.slice e)) (h : Light t (.slice l r)) : (l.length + r.length) * Tryz.prog.bytesOf e ≤ reachBytes /\ ∀ d ∈ l, Light e d := by
 unfold Light at h
 simp only [DataW.weights, hu, List.mem_cons, List.mem_append] at h
 exact ⟨h _ (.inl rfl), fun d hd m hm => h m (.inr (.inl (weightsAll_mem hd m hm)))⟩
theorem light_struct {t : TypeId} {fs : Array Field} {ps : List (DataW H)} (hu : Tryz.prog.underlying t = some (.struct fs)) (h : Light t (.agg ps)) {i : Nat} {f : Field} {d : DataW H} (hf : fs[i]? = some f) (hd : ps[i]? = some d) : Light f.type d := by
 unfold Light at h
 simp only [DataW.weights, hu] at h
 exact fun m hm => h m (DataW.weights_mem_each (j := i) (by simp [hf]) hd m hm)
theorem sl_open {α : Type} {ec : α -> List Value} {k : Nat} {good : Nat -> World -> α -> Prop} {t e : TypeId} (ht : Tryz.prog.underlying t = some (.slice e)) (hk : Tryz.prog.cellsOf e = k) (hk0 : 0 < k) (hb : 0 < Tryz.prog.bytesOf e)
 (dec : ∀ {n : Nat} {cs : List Value} {y : DataW H × List MemPlace}, DataW.trod enc Tryz.prog w base spare held n e cs = some y -> Light e y.1 -> ∃ x : α, ec x = cs /\ good w.heap.size w x) {fuel : Nat} {cs : List Value} {r : DataW H × List MemPlace} (h : DataW.trod enc Tryz.prog w base spare held fuel t cs = some r) (hL : Light t r.1) :
 ∃ s : Sl α, cs = [s.val] /\ s.Ok ec k good w.heap.size w := by
 rcases DataW.trod_slice ht h with ⟨rfl, -⟩ | ⟨a, len, cap, elems, rest, n, -, rfl, rfl, -, hle, hcap, hlen, hel, -, -⟩
 ·exact ⟨⟨none, 0, []⟩, rfl, ⟨by simp, by simp, fun h => absurd rfl h, fun x hx => by cases hx⟩⟩
 ·obtain ⟨hL1, hL2⟩ := light_slice ht hL
  have hroom : elems.length ≤ 140737488351232 := by
   have h1 := Nat.mul_le_mul_left (elems.length + rest.length) hb
   simp only [List.length_map, Nat.mul_one] at hL1 h1
   unfold reachBytes at hL1
   omega
  rw [hk] at hel
  obtain ⟨xs, hxl, hx⟩ := list_choice (p := fun i (x : α) => good w.heap.size w x /\ (ec x).length = k /\ ∀ (j : Nat) (v : Value), (ec x)[j]? = some v -> w.cell? ((a.add (i * k)).add j) = some v) len (fun i hi => by
   have h1 := hel i hi
   rw [List.getElem?_eq_getElem (show i < elems.length by omega)] at h1
   simp only [Option.bind_eq_some_iff] at h1
   obtain ⟨cs1, hc, hy⟩ := h1
   obtain ⟨x, rfl, hg⟩ := dec hy (hL2 _ (List.mem_map.2 ⟨_, List.getElem_mem _, rfl⟩))
   obtain ⟨-, hcl, hcc⟩ := World.cells?_some hc
   refine ⟨x, hg, hcl, fun j v hj => ?_⟩
   rw [hcc j (by have := (List.getElem?_eq_some_iff.1 hj).1; omega), hj])
  refine ⟨⟨some a, cap, xs⟩, by simp [Sl.val, hxl], ⟨by simp only; omega, by simp only; omega, fun hne => ?_, fun x hx' => ?_⟩⟩
  ·have h0 : 0 < xs.length := List.length_pos_iff.2 hne
   obtain ⟨-, hl0, hc0⟩ := hx 0 h0
   have hv := hc0 0 ((ec xs[0])[0]'(by omega)) (List.getElem?_eq_getElem _)
   obtain ⟨b, off, sp⟩ := a
   have hsp : sp = none := by simpa [Addr.add] using World.cell?_spot hv
   subst hsp
   have hb : b < w.heap.size := by have := cell_lt hv; simpa [Addr.add] using this
   exact ⟨b, off, rfl, hb, hb, fun i hi j v hj => by have := (hx i hi).2.2 j v hj; rw [add_plain, add_plain] at this; exact this⟩
  ·obtain ⟨i, hi, rfl⟩ := List.mem_iff_getElem.1 hx'
   exact (hx i hi).1
theorem dec_I {n : Nat} {cs : List Value} {y : DataW H × List MemPlace} (h : DataW.trod enc Tryz.prog w base spare held n 3 cs = some y) (_ : Light 3 y.1) : ∃ x : Int, encI x = cs /\ okT w.heap.size w x := by
 obtain ⟨x, rfl, -, -⟩ := DataW.trod_int Tryz.underlying3 h
 exact ⟨x, rfl, trivial⟩
theorem dec_B {n : Nat} {cs : List Value} {y : DataW H × List MemPlace} (h : DataW.trod enc Tryz.prog w base spare held n 4 cs = some y) (_ : Light 4 y.1) : ∃ x : Bool, encB x = cs /\ okT w.heap.size w x := by
 obtain ⟨x, rfl, -⟩ := DataW.trod_bool Tryz.underlying4 h
 exact ⟨x, rfl, trivial⟩
theorem dec_P {n t : Nat} (ht : t = 37 \/ t = 64) {cs : List Value} {y : DataW H × List MemPlace} (h : DataW.trod enc Tryz.prog w base spare held n t cs = some y) : ∃ a b : Int, cs = [.int .i64 a, .int .i64 b] := by
 rcases ht with rfl | rfl
 ·obtain ⟨y0, y1, n, -, hl, h0, h1⟩ := trod_struct2 Tryz.underlying37 h
  rw [cells37] at hl
  obtain ⟨c0, c1, rfl⟩ := list2 hl
  obtain ⟨a, e0, -, -⟩ := DataW.trod_int Tryz.underlying3 h0
  obtain ⟨b, e1, -, -⟩ := DataW.trod_int Tryz.underlying3 h1
  simp [cells3] at e0 e1
  subst e0 e1
  exact ⟨a, b, rfl⟩
 ·obtain ⟨y0, y1, n, -, hl, h0, h1⟩ := trod_struct2 Tryz.underlying64 h
  rw [cells64] at hl
  obtain ⟨c0, c1, rfl⟩ := list2 hl
  obtain ⟨a, e0, -, -⟩ := DataW.trod_int Tryz.underlying3 h0
  obtain ⟨b, e1, -, -⟩ := DataW.trod_int Tryz.underlying3 h1
  simp [cells3] at e0 e1
  subst e0 e1
  exact ⟨a, b, rfl⟩
theorem dec_K {n : Nat} {cs : List Value} {y : DataW H × List MemPlace} (h : DataW.trod enc Tryz.prog w base spare held n 64 cs = some y) (_ : Light 64 y.1) : ∃ x : Knot, encK x = cs /\ okT w.heap.size w x := by
 obtain ⟨a, b, rfl⟩ := dec_P (.inr rfl) h
 exact ⟨⟨a, b⟩, rfl, trivial⟩
theorem dec_D {n : Nat} {cs : List Value} {y : DataW H × List MemPlace} (h : DataW.trod enc Tryz.prog w base spare held n 184 cs = some y) (hL : Light 184 y.1) : ∃ x : Cond, encD x = cs /\ okT w.heap.size w x := by
 obtain ⟨xs, n, -, rfl, hl, hlen, hf⟩ := DataW.trod_struct Tryz.underlying184 h
 rw [cells184] at hl
 obtain ⟨c0, c1, c2, rfl⟩ := list3 hl
 have hlen : xs.length = 3 := hlen
 have h0 : DataW.trod enc Tryz.prog w base spare held n 9 [c0] = some (xs[0]'(by omega)) := by
  have := hf 0 _ rfl
  rw [List.getElem?_eq_getElem (show 0 < xs.length by omega)] at this
  simpa [cells9] using this
 obtain ⟨s0, e0, -, -⟩ := DataW.trod_string Tryz.underlying9 h0
 simp at e0
 subst e0
 have h1 : DataW.trod enc Tryz.prog w base spare held n 4 [c1] = some (xs[1]'(by omega)) := by
  have := hf 1 _ rfl
  rw [List.getElem?_eq_getElem (show 1 < xs.length by omega)] at this
  simpa [cells4] using this
 obtain ⟨s1, e1, -⟩ := DataW.trod_bool Tryz.underlying4 h1
 simp at e1
 subst e1
 have h2 : DataW.trod enc Tryz.prog w base spare held n 3 [c2] = some (xs[2]'(by omega)) := by
  have := hf 2 _ rfl
  rw [List.getElem?_eq_getElem (show 2 < xs.length by omega)] at this
  simpa [cells3] using this
 obtain ⟨s2, e2, -, -⟩ := DataW.trod_int Tryz.underlying3 h2
 simp at e2
 subst e2
 exact ⟨⟨s0, s1, s2⟩, rfl, trivial⟩
theorem dec_N {n : Nat} {cs : List Value} {y : DataW H × List MemPlace} (h : DataW.trod enc Tryz.prog w base spare held n 41 cs = some y) (hL : Light 41 y.1) : ∃ x : Nd, encN x = cs /\ okN w.heap.size w x := by
 obtain ⟨xs, n, -, rfl, hl, hlen, hf⟩ := DataW.trod_struct Tryz.underlying41 h
 rw [cells41] at hl
 obtain ⟨c0, c1, c2, c3, c4, c5, c6, c7, c8, rfl⟩ := list9 hl
 have hlen : xs.length = 8 := hlen
 have h0 : DataW.trod enc Tryz.prog w base spare held n 9 [c0] = some (xs[0]'(by omega)) := by
  have := hf 0 _ rfl
  rw [List.getElem?_eq_getElem (show 0 < xs.length by omega)] at this
  simpa [cells9] using this
 obtain ⟨s0, e0, -, -⟩ := DataW.trod_string Tryz.underlying9 h0
 simp at e0
 subst e0
 have h1 : DataW.trod enc Tryz.prog w base spare held n 3 [c1] = some (xs[1]'(by omega)) := by
  have := hf 1 _ rfl
  rw [List.getElem?_eq_getElem (show 1 < xs.length by omega)] at this
  simpa [cells3] using this
 obtain ⟨s1, e1, -, -⟩ := DataW.trod_int Tryz.underlying3 h1
 simp at e1
 subst e1
 have h2 : DataW.trod enc Tryz.prog w base spare held n 37 [c2, c3] = some (xs[2]'(by omega)) := by
  have := hf 2 _ rfl
  rw [List.getElem?_eq_getElem (show 2 < xs.length by omega)] at this
  simpa [cells37] using this
 obtain ⟨p2, s2, e2⟩ := dec_P (.inl rfl) h2
 simp at e2
 obtain ⟨rfl, rfl⟩ := e2
 have h3 : DataW.trod enc Tryz.prog w base spare held n 3 [c4] = some (xs[3]'(by omega)) := by
  have := hf 3 _ rfl
  rw [List.getElem?_eq_getElem (show 3 < xs.length by omega)] at this
  simpa [cells3] using this
 obtain ⟨s3, e3, -, -⟩ := DataW.trod_int Tryz.underlying3 h3
 simp at e3
 subst e3
 have h4 : DataW.trod enc Tryz.prog w base spare held n 3 [c5] = some (xs[4]'(by omega)) := by
  have := hf 4 _ rfl
  rw [List.getElem?_eq_getElem (show 4 < xs.length by omega)] at this
  simpa [cells3] using this
 obtain ⟨s4, e4, -, -⟩ := DataW.trod_int Tryz.underlying3 h4
 simp at e4
 subst e4
 have h5 : DataW.trod enc Tryz.prog w base spare held n 39 [c6] = some (xs[5]'(by omega)) := by
  have := hf 5 _ rfl
  rw [List.getElem?_eq_getElem (show 5 < xs.length by omega)] at this
  simpa [cells39] using this
 obtain ⟨s5, e5, o5⟩ := sl_open Tryz.underlying39 cells64 (by decide) pos64 (fun h g => dec_K h g) h5 (light_struct Tryz.underlying41 hL (i := 5) rfl (by rw [List.getElem?_map, List.getElem?_eq_getElem (show 5 < xs.length by omega)]; rfl))
 simp at e5
 subst e5
 have h6 : DataW.trod enc Tryz.prog w base spare held n 4 [c7] = some (xs[6]'(by omega)) := by
  have := hf 6 _ rfl
  rw [List.getElem?_eq_getElem (show 6 < xs.length by omega)] at this
  simpa [cells4] using this
 obtain ⟨s6, e6, -⟩ := DataW.trod_bool Tryz.underlying4 h6
 simp at e6
 subst e6
 have h7 : DataW.trod enc Tryz.prog w base spare held n 3 [c8] = some (xs[7]'(by omega)) := by
  have := hf 7 _ rfl
  rw [List.getElem?_eq_getElem (show 7 < xs.length by omega)] at this
  simpa [cells3] using this
 obtain ⟨s7, e7, -, -⟩ := DataW.trod_int Tryz.underlying3 h7
 simp at e7
 subst e7
 exact ⟨⟨s0, s1, p2, s2, s3, s4, s5, s6, s7⟩, rfl, o5⟩
theorem dec_Lk {n : Nat} {cs : List Value} {y : DataW H × List MemPlace} (h : DataW.trod enc Tryz.prog w base spare held n 45 cs = some y) (hL : Light 45 y.1) : ∃ x : Lk, encL x = cs /\ okL w.heap.size w x := by
 obtain ⟨xs, n, -, rfl, hl, hlen, hf⟩ := DataW.trod_struct Tryz.underlying45 h
 rw [cells45] at hl
 obtain ⟨c0, c1, c2, c3, c4, c5, c6, c7, c8, c9, c10, rfl⟩ := list11 hl
 have hlen : xs.length = 11 := hlen
 have h0 : DataW.trod enc Tryz.prog w base spare held n 9 [c0] = some (xs[0]'(by omega)) := by
  have := hf 0 _ rfl
  rw [List.getElem?_eq_getElem (show 0 < xs.length by omega)] at this
  simpa [cells9] using this
 obtain ⟨s0, e0, -, -⟩ := DataW.trod_string Tryz.underlying9 h0
 simp at e0
 subst e0
 have h1 : DataW.trod enc Tryz.prog w base spare held n 9 [c1] = some (xs[1]'(by omega)) := by
  have := hf 1 _ rfl
  rw [List.getElem?_eq_getElem (show 1 < xs.length by omega)] at this
  simpa [cells9] using this
 obtain ⟨s1, e1, -, -⟩ := DataW.trod_string Tryz.underlying9 h1
 simp at e1
 subst e1
 have h2 : DataW.trod enc Tryz.prog w base spare held n 9 [c2] = some (xs[2]'(by omega)) := by
  have := hf 2 _ rfl
  rw [List.getElem?_eq_getElem (show 2 < xs.length by omega)] at this
  simpa [cells9] using this
 obtain ⟨s2, e2, -, -⟩ := DataW.trod_string Tryz.underlying9 h2
 simp at e2
 subst e2
 have h3 : DataW.trod enc Tryz.prog w base spare held n 3 [c3] = some (xs[3]'(by omega)) := by
  have := hf 3 _ rfl
  rw [List.getElem?_eq_getElem (show 3 < xs.length by omega)] at this
  simpa [cells3] using this
 obtain ⟨s3, e3, -, -⟩ := DataW.trod_int Tryz.underlying3 h3
 simp at e3
 subst e3
 have h4 : DataW.trod enc Tryz.prog w base spare held n 3 [c4] = some (xs[4]'(by omega)) := by
  have := hf 4 _ rfl
  rw [List.getElem?_eq_getElem (show 4 < xs.length by omega)] at this
  simpa [cells3] using this
 obtain ⟨s4, e4, -, -⟩ := DataW.trod_int Tryz.underlying3 h4
 simp at e4
 subst e4
 have h5 : DataW.trod enc Tryz.prog w base spare held n 3 [c5] = some (xs[5]'(by omega)) := by
  have := hf 5 _ rfl
  rw [List.getElem?_eq_getElem (show 5 < xs.length by omega)] at this
  simpa [cells3] using this
 obtain ⟨s5, e5, -, -⟩ := DataW.trod_int Tryz.underlying3 h5
 simp at e5
 subst e5
 have h6 : DataW.trod enc Tryz.prog w base spare held n 3 [c6] = some (xs[6]'(by omega)) := by
  have := hf 6 _ rfl
  rw [List.getElem?_eq_getElem (show 6 < xs.length by omega)] at this
  simpa [cells3] using this
 obtain ⟨s6, e6, -, -⟩ := DataW.trod_int Tryz.underlying3 h6
 simp at e6
 subst e6
 have h7 : DataW.trod enc Tryz.prog w base spare held n 9 [c7] = some (xs[7]'(by omega)) := by
  have := hf 7 _ rfl
  rw [List.getElem?_eq_getElem (show 7 < xs.length by omega)] at this
  simpa [cells9] using this
 obtain ⟨s7, e7, -, -⟩ := DataW.trod_string Tryz.underlying9 h7
 simp at e7
 subst e7
 have h8 : DataW.trod enc Tryz.prog w base spare held n 3 [c8] = some (xs[8]'(by omega)) := by
  have := hf 8 _ rfl
  rw [List.getElem?_eq_getElem (show 8 < xs.length by omega)] at this
  simpa [cells3] using this
 obtain ⟨s8, e8, -, -⟩ := DataW.trod_int Tryz.underlying3 h8
 simp at e8
 subst e8
 have h9 : DataW.trod enc Tryz.prog w base spare held n 3 [c9] = some (xs[9]'(by omega)) := by
  have := hf 9 _ rfl
  rw [List.getElem?_eq_getElem (show 9 < xs.length by omega)] at this
  simpa [cells3] using this
 obtain ⟨s9, e9, -, -⟩ := DataW.trod_int Tryz.underlying3 h9
 simp at e9
 subst e9
 have h10 : DataW.trod enc Tryz.prog w base spare held n 39 [c10] = some (xs[10]'(by omega)) := by
  have := hf 10 _ rfl
  rw [List.getElem?_eq_getElem (show 10 < xs.length by omega)] at this
  simpa [cells39] using this
 obtain ⟨s10, e10, o10⟩ := sl_open Tryz.underlying39 cells64 (by decide) pos64 (fun h g => dec_K h g) h10 (light_struct Tryz.underlying45 hL (i := 10) rfl (by rw [List.getElem?_map, List.getElem?_eq_getElem (show 10 < xs.length by omega)]; rfl))
 simp at e10
 subst e10
 exact ⟨⟨s0, s1, s2, s3, s4, s5, s6, s7, s8, s9, s10⟩, rfl, o10⟩
theorem dec_C {n : Nat} {cs : List Value} {y : DataW H × List MemPlace} (h : DataW.trod enc Tryz.prog w base spare held n 58 cs = some y) (hL : Light 58 y.1) : ∃ x : Sec, encC x = cs /\ okC w.heap.size w x := by
 obtain ⟨xs, n, -, rfl, hl, hlen, hf⟩ := DataW.trod_struct Tryz.underlying58 h
 rw [cells58] at hl
 obtain ⟨c0, c1, c2, c3, c4, rfl⟩ := list5 hl
 have hlen : xs.length = 5 := hlen
 have h0 : DataW.trod enc Tryz.prog w base spare held n 9 [c0] = some (xs[0]'(by omega)) := by
  have := hf 0 _ rfl
  rw [List.getElem?_eq_getElem (show 0 < xs.length by omega)] at this
  simpa [cells9] using this
 obtain ⟨s0, e0, -, -⟩ := DataW.trod_string Tryz.underlying9 h0
 simp at e0
 subst e0
 have h1 : DataW.trod enc Tryz.prog w base spare held n 3 [c1] = some (xs[1]'(by omega)) := by
  have := hf 1 _ rfl
  rw [List.getElem?_eq_getElem (show 1 < xs.length by omega)] at this
  simpa [cells3] using this
 obtain ⟨s1, e1, -, -⟩ := DataW.trod_int Tryz.underlying3 h1
 simp at e1
 subst e1
 have h2 : DataW.trod enc Tryz.prog w base spare held n 3 [c2] = some (xs[2]'(by omega)) := by
  have := hf 2 _ rfl
  rw [List.getElem?_eq_getElem (show 2 < xs.length by omega)] at this
  simpa [cells3] using this
 obtain ⟨s2, e2, -, -⟩ := DataW.trod_int Tryz.underlying3 h2
 simp at e2
 subst e2
 have h3 : DataW.trod enc Tryz.prog w base spare held n 39 [c3] = some (xs[3]'(by omega)) := by
  have := hf 3 _ rfl
  rw [List.getElem?_eq_getElem (show 3 < xs.length by omega)] at this
  simpa [cells39] using this
 obtain ⟨s3, e3, o3⟩ := sl_open Tryz.underlying39 cells64 (by decide) pos64 (fun h g => dec_K h g) h3 (light_struct Tryz.underlying58 hL (i := 3) rfl (by rw [List.getElem?_map, List.getElem?_eq_getElem (show 3 < xs.length by omega)]; rfl))
 simp at e3
 subst e3
 have h4 : DataW.trod enc Tryz.prog w base spare held n 39 [c4] = some (xs[4]'(by omega)) := by
  have := hf 4 _ rfl
  rw [List.getElem?_eq_getElem (show 4 < xs.length by omega)] at this
  simpa [cells39] using this
 obtain ⟨s4, e4, o4⟩ := sl_open Tryz.underlying39 cells64 (by decide) pos64 (fun h g => dec_K h g) h4 (light_struct Tryz.underlying58 hL (i := 4) rfl (by rw [List.getElem?_map, List.getElem?_eq_getElem (show 4 < xs.length by omega)]; rfl))
 simp at e4
 subst e4
 exact ⟨⟨s0, s1, s2, s3, s4⟩, rfl, ⟨o3, o4⟩⟩
theorem dec_R {n : Nat} {cs : List Value} {y : DataW H × List MemPlace} (h : DataW.trod enc Tryz.prog w base spare held n 50 cs = some y) (hL : Light 50 y.1) : ∃ x : Rul, encR x = cs /\ okR w.heap.size w x := by
 obtain ⟨xs, n, -, rfl, hl, hlen, hf⟩ := DataW.trod_struct Tryz.underlying50 h
 rw [cells50] at hl
 obtain ⟨c0, c1, c2, c3, rfl⟩ := list4 hl
 have hlen : xs.length = 4 := hlen
 have h0 : DataW.trod enc Tryz.prog w base spare held n 9 [c0] = some (xs[0]'(by omega)) := by
  have := hf 0 _ rfl
  rw [List.getElem?_eq_getElem (show 0 < xs.length by omega)] at this
  simpa [cells9] using this
 obtain ⟨s0, e0, -, -⟩ := DataW.trod_string Tryz.underlying9 h0
 simp at e0
 subst e0
 have h1 : DataW.trod enc Tryz.prog w base spare held n 48 [c1] = some (xs[1]'(by omega)) := by
  have := hf 1 _ rfl
  rw [List.getElem?_eq_getElem (show 1 < xs.length by omega)] at this
  simpa [cells48] using this
 obtain ⟨s1, e1, o1⟩ := sl_open Tryz.underlying48 cells184 (by decide) pos184 (fun h g => dec_D h g) h1 (light_struct Tryz.underlying50 hL (i := 1) rfl (by rw [List.getElem?_map, List.getElem?_eq_getElem (show 1 < xs.length by omega)]; rfl))
 simp at e1
 subst e1
 have h2 : DataW.trod enc Tryz.prog w base spare held n 9 [c2] = some (xs[2]'(by omega)) := by
  have := hf 2 _ rfl
  rw [List.getElem?_eq_getElem (show 2 < xs.length by omega)] at this
  simpa [cells9] using this
 obtain ⟨s2, e2, -, -⟩ := DataW.trod_string Tryz.underlying9 h2
 simp at e2
 subst e2
 have h3 : DataW.trod enc Tryz.prog w base spare held n 3 [c3] = some (xs[3]'(by omega)) := by
  have := hf 3 _ rfl
  rw [List.getElem?_eq_getElem (show 3 < xs.length by omega)] at this
  simpa [cells3] using this
 obtain ⟨s3, e3, -, -⟩ := DataW.trod_int Tryz.underlying3 h3
 simp at e3
 subst e3
 exact ⟨⟨s0, s1, s2, s3⟩, rfl, o1⟩
theorem dec_F {n : Nat} {cs : List Value} {y : DataW H × List MemPlace} (h : DataW.trod enc Tryz.prog w base spare held n 54 cs = some y) (hL : Light 54 y.1) : ∃ x : Infl, encF x = cs /\ okF w.heap.size w x := by
 obtain ⟨xs, n, -, rfl, hl, hlen, hf⟩ := DataW.trod_struct Tryz.underlying54 h
 rw [cells54] at hl
 obtain ⟨c0, c1, rfl⟩ := list2 hl
 have hlen : xs.length = 2 := hlen
 have h0 : DataW.trod enc Tryz.prog w base spare held n 9 [c0] = some (xs[0]'(by omega)) := by
  have := hf 0 _ rfl
  rw [List.getElem?_eq_getElem (show 0 < xs.length by omega)] at this
  simpa [cells9] using this
 obtain ⟨s0, e0, -, -⟩ := DataW.trod_string Tryz.underlying9 h0
 simp at e0
 subst e0
 have h1 : DataW.trod enc Tryz.prog w base spare held n 28 [c1] = some (xs[1]'(by omega)) := by
  have := hf 1 _ rfl
  rw [List.getElem?_eq_getElem (show 1 < xs.length by omega)] at this
  simpa [cells28] using this
 obtain ⟨s1, e1, o1⟩ := sl_open Tryz.underlying28 cells3 (by decide) pos3 (fun h g => dec_I h g) h1 (light_struct Tryz.underlying54 hL (i := 1) rfl (by rw [List.getElem?_map, List.getElem?_eq_getElem (show 1 < xs.length by omega)]; rfl))
 simp at e1
 subst e1
 exact ⟨⟨s0, s1⟩, rfl, o1⟩
end
open Go.ChangeShapes Go.WideShapes Go.ChangeAt Go.Joins
theorem f17_ex (bl le fl fa ro se ar co : Nat) (w : World) (h : JobAt w bl le fl fa ro se ar co) : Calls Tryz.prog 17 #[jobV bl le fl fa ro se] w fun e w' => ∃ b c, e = .returned (.tuple #[.int .i64 21, .slice (some ⟨b, 0, none⟩) 1 c, .int .i64 0]) /\ w'.cell? ⟨b, 0, none⟩ = some (.int .i64 0) /\ Bl w w' := f17_of f40_ex bl le fl fa ro se ar co w h
theorem f3_c (n : Net) (l : Sl Sec) (rl : Sl Rul) (x : St) (fs : Sl Infl) (sec st set : Int) (w : World) (hN : InNet w n) (hl : InSecs w l) (hr : InRuls w rl) (ht : InSt w x) (hF : InInfls w fs) (hset : 0 ≤ set /\ set ≤ 65535) :
 Calls Tryz.prog 3 #[n.val, l.val, rl.val, x.val, fs.val, .int .i64 sec, .int .i64 st, .int .u16 set] w fun e w' => e = .returned (.bool true) /\ Bl w w' :=
 f3_of (f4_of f17_ex) n l rl x fs sec st set w hN hl hr ht hF hset
theorem own : ownKnob Tryz.prog.godebug = none := by kernel_rfl
theorem laidOut : laidOutB Tryz.prog = true := by kernel_rfl
set_option maxHeartbeats 1600000 in
theorem lifted (os : Os) (started : os.Started) (H : Type) (enc : TypeId × Value -> H) :
 ReturnsInHanded {} Tryz.checked os 3 .any (Rows.topSeasonSpec.pre6 enc Tryz.prog Tryz.f3 Rows.topSeasonRow.domain false) (Rows.topSeasonSpec.post enc Tryz.prog Tryz.f3 false true false false) := by
 refine returnsInHanded_of_change_sized (C := Tryz.checked) own started (by kernel_rfl) Tryz.func3
  (ChangeSpec.witness6 (enc := enc) (C := Tryz.checked) false ⟨#[], #[.agg #[.slice none 0 0, .slice none 0 0], .slice none 0 0, .slice none 0 0, .agg #[.slice none 0 0, .slice none 0 0, .slice none 0 0, .slice none 0 0], .slice none 0 0, .int .i64 0, .int .i64 0, .int .u16 0], []⟩ 8 (by kernel_rfl) (by kernel_rfl) (by kernel_rfl) (by kernel_rfl)) ?_
 intro W base args ds gs before hval0 hW hcnd hsz0 _
 have hsz : (DataW.weightsEach Tryz.prog (Tryz.f3.params.toList ++ Rows.topSeasonSpec.plain.varTypes Tryz.prog) (ds ++ gs)).all (· ≤ reachBytes) = true := hsz0
 have hval : ∀ (j : Nat) t v, Tryz.f3.params[j]? = some t -> args[j]? = some v -> Value.okWide Tryz.prog W .any base t v := hval0
 have hW' := hW
 obtain ⟨p, q, hA0, hV, rfl, hfz, hnd⟩ := hW
 have hA : DataW.TrodAll enc Tryz.prog W 0 (fun _ => true) true Tryz.f3.params.toList args.toList ds p := hA0
 rw [Tryz.params3] at hA hval hsz
 obtain ⟨v0, vs0, d0, ds0, p0, q0, hargs, rfl, rfl, h0, r0⟩ := trodAll_cons hA
 obtain ⟨v1, vs1, d1, ds1, p1, q1, rfl, rfl, rfl, h1, r1⟩ := trodAll_cons r0
 obtain ⟨v2, vs2, d2, ds2, p2, q2, rfl, rfl, rfl, h2, r2⟩ := trodAll_cons r1
 obtain ⟨v3, vs3, d3, ds3, p3, q3, rfl, rfl, rfl, h3, r3⟩ := trodAll_cons r2
 obtain ⟨v4, vs4, d4, ds4, p4, q4, rfl, rfl, rfl, h4, r4⟩ := trodAll_cons r3
 obtain ⟨v5, vs5, d5, ds5, p5, q5, rfl, rfl, rfl, h5, r5⟩ := trodAll_cons r4
 obtain ⟨v6, vs6, d6, ds6, p6, q6, rfl, rfl, rfl, h6, r6⟩ := trodAll_cons r5
 obtain ⟨v7, vs7, d7, ds7, p7, q7, rfl, rfl, rfl, h7, r7⟩ := trodAll_cons r6
 obtain ⟨rfl, rfl, rfl⟩ := trodAll_nil r7
 obtain rfl : args = #[v0, v1, v2, v3, v4, v5, v6, v7] := by cases args; simp_all
 obtain ⟨rfl, rfl⟩ := trodVars_none hV
 have k0 := h0
 have lt0 : ∀ x ∈ p0, x.block < W.heap.size := by obtain ⟨m, hm⟩ := k0; exact DataW.trod_lt m _ _ _ hm
 have k1 := h1
 have lt1 : ∀ x ∈ p1, x.block < W.heap.size := by obtain ⟨m, hm⟩ := k1; exact DataW.trod_lt m _ _ _ hm
 have k2 := h2
 have lt2 : ∀ x ∈ p2, x.block < W.heap.size := by obtain ⟨m, hm⟩ := k2; exact DataW.trod_lt m _ _ _ hm
 have k3 := h3
 have lt3 : ∀ x ∈ p3, x.block < W.heap.size := by obtain ⟨m, hm⟩ := k3; exact DataW.trod_lt m _ _ _ hm
 have k4 := h4
 have lt4 : ∀ x ∈ p4, x.block < W.heap.size := by obtain ⟨m, hm⟩ := k4; exact DataW.trod_lt m _ _ _ hm
 have g0 : Light 25 d0 := light_of hsz (j := 0) rfl rfl
 have g1 : Light 26 d1 := light_of hsz (j := 1) rfl rfl
 have g2 : Light 27 d2 := light_of hsz (j := 2) rfl rfl
 have g3 : Light 31 d3 := light_of hsz (j := 3) rfl rfl
 have g4 : Light 32 d4 := light_of hsz (j := 4) rfl rfl
 obtain ⟨x0, x1, y0, y1, m0, rfl, rfl, -, e0, e1⟩ := open_agg2 Tryz.underlying25 (by kernel_rfl) cells25 (hval 0 25 v0 rfl rfl) h0
 obtain ⟨s0, z0, o0⟩ := sl_open Tryz.underlying22 cells41 (by decide) pos41 (fun h g => dec_N h g) e0 (light_struct Tryz.underlying25 g0 (i := 0) rfl rfl)
 obtain ⟨s1, z1, o1⟩ := sl_open Tryz.underlying23 cells45 (by decide) pos45 (fun h g => dec_Lk h g) e1 (light_struct Tryz.underlying25 g0 (i := 1) rfl rfl)
 obtain ⟨a1, l1, c1, rfl⟩ := okWide_slice Tryz.underlying26 (hval 1 26 v1 rfl rfl)
 obtain ⟨n1, h1⟩ := h1
 obtain ⟨s2, z2, o2⟩ := sl_open Tryz.underlying26 cells58 (by decide) pos58 (fun h g => dec_C h g) h1 g1
 obtain ⟨a2, l2, c2, rfl⟩ := okWide_slice Tryz.underlying27 (hval 2 27 v2 rfl rfl)
 obtain ⟨n2, h2⟩ := h2
 obtain ⟨s3, z3, o3⟩ := sl_open Tryz.underlying27 cells50 (by decide) pos50 (fun h g => dec_R h g) h2 g2
 obtain ⟨x4, x5, x6, x7, y4, y5, y6, y7, m4, rfl, rfl, -, e4, e5, e6, e7⟩ := open_agg4 Tryz.underlying31 (by kernel_rfl) cells31 (hval 3 31 v3 rfl rfl) h3
 obtain ⟨s4, z4, o4⟩ := sl_open Tryz.underlying28 cells3 (by decide) pos3 (fun h g => dec_I h g) e4 (light_struct Tryz.underlying31 g3 (i := 0) rfl rfl)
 obtain ⟨s5, z5, o5⟩ := sl_open Tryz.underlying28 cells3 (by decide) pos3 (fun h g => dec_I h g) e5 (light_struct Tryz.underlying31 g3 (i := 1) rfl rfl)
 obtain ⟨s6, z6, o6⟩ := sl_open Tryz.underlying28 cells3 (by decide) pos3 (fun h g => dec_I h g) e6 (light_struct Tryz.underlying31 g3 (i := 2) rfl rfl)
 obtain ⟨s7, z7, o7⟩ := sl_open Tryz.underlying29 cells4 (by decide) pos4 (fun h g => dec_B h g) e7 (light_struct Tryz.underlying31 g3 (i := 3) rfl rfl)
 obtain ⟨a8, l8, c8, rfl⟩ := okWide_slice Tryz.underlying32 (hval 4 32 v4 rfl rfl)
 obtain ⟨n8, h4⟩ := h4
 obtain ⟨s8, z8, o8⟩ := sl_open Tryz.underlying32 cells54 (by decide) pos54 (fun h g => dec_F h g) h4 g4
 obtain ⟨b5, rfl, rfl, rfl, w5⟩ := open_int Tryz.underlying3 (hval 5 3 v5 rfl rfl) h5
 obtain ⟨b6, rfl, rfl, rfl, w6⟩ := open_int Tryz.underlying3 (hval 6 3 v6 rfl rfl) h6
 obtain ⟨b7, rfl, rfl, rfl, w7⟩ := open_int Tryz.underlying33 (hval 7 33 v7 rfl rfl) h7
 obtain rfl : x0 = s0.val := by simpa using z0
 obtain rfl : x1 = s1.val := by simpa using z1
 have z2' : Value.slice a1 l1 c1 = s2.val := by simpa [Value.cells] using z2
 have z3' : Value.slice a2 l2 c2 = s3.val := by simpa [Value.cells] using z3
 obtain rfl : x4 = s4.val := by simpa using z4
 obtain rfl : x5 = s5.val := by simpa using z5
 obtain rfl : x6 = s6.val := by simpa using z6
 obtain rfl : x7 = s7.val := by simpa using z7
 have z8' : Value.slice a8 l8 c8 = s8.val := by simpa [Value.cells] using z8
 have T := f3_c ⟨s0, s1⟩ s2 s3 ⟨s4, s5, s6, s7⟩ s8 b5 b6 b7 W ⟨o0, o1⟩ o2 o3 ⟨o4, o5, o6, o7⟩ o8 (bounds_u16 w7)
 rw [<- z2', <- z3', <- z8'] at T
 clear hA0 hval0
 refine T.mono fun e W' ⟨he, hb⟩ => ?_
 have bel : Below W.heap.size W W' := hb
 subst he
 exact ⟨_, rfl, _, _, _, [], _, [], hW', trodAll_mk1 (shut_bool Tryz.underlying4 _),
  (trodAll_cons_mk (Below.trod laidOut (by kernel_rfl) (of_decide_eq_true (by kernel_rfl)) k0 bel lt0)
  (trodAll_cons_mk (Below.trod laidOut (by kernel_rfl) (of_decide_eq_true (by kernel_rfl)) k1 bel lt1)
  (trodAll_cons_mk (Below.trod laidOut (by kernel_rfl) (of_decide_eq_true (by kernel_rfl)) k2 bel lt2)
  (trodAll_cons_mk (Below.trod laidOut (by kernel_rfl) (of_decide_eq_true (by kernel_rfl)) k3 bel lt3)
  (trodAll_cons_mk (Below.trod laidOut (by kernel_rfl) (of_decide_eq_true (by kernel_rfl)) k4 bel lt4)
  (trodAll_cons_mk (shut_int Tryz.underlying3 w5) (trodAll_cons_mk (shut_int Tryz.underlying3 w6) (trodAll_cons_mk (shut_int Tryz.underlying33 w7) trodAll_mk0)))))))), rfl, bel.frame _, fun h => by cases h⟩
theorem over : Rows.topSeasonRow.holds Tryz.pinned (OpenSpec.ofChange Rows.topSeasonSpec) :=
 OpenClaim.holds_of_wide 3 Tryz.f3 rfl rfl rfl rfl rfl rfl rfl ⟨rfl, rfl, rfl, rfl, rfl⟩ rfl rfl rfl rfl rfl (by kernel_rfl) Tryz.func3 (by kernel_rfl)
  (of_decide_eq_true (by kernel_rfl)) (by unfold Func.isWrapper; first | (rw [if_pos (by decide +kernel)]; kernel_rfl) | (rw [if_neg (by decide +kernel)]; exact ⟨rfl, rfl⟩))
  (fun os started H enc _ => lifted os started H enc)
theorem topSeason_holds : Rows.TopSeasonSaid := over
end Go.Proofs.YtnnhnkpoekbahaaGreat
