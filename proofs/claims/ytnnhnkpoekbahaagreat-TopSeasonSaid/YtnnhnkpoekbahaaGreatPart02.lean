/- TopSeason: part 3 of 16: Net Net2 Net3 Held Net4 Net5 Net6 -/
import Derived.Test.YtnnhnkpoekbahaaGreatPart01
import Derived.Test.YtnnhnkpoekbahaaGreatPart00
import Derived.Deep.RegionHeld3
namespace Go.Proofs.YtnnhnkpoekbahaaGreat
open Go.RowKit
set_option maxHeartbeats 400000
set_option linter.unusedSimpArgs false
set_option linter.unusedVariables false
set_option maxRecDepth 100000
def levB (n : Int) : Bool := inR (-4194304) 4194304 n
def outB (n : Int) : Bool := decide (n < -4194304) || decide (4194304 < n)
theorem outB_levB (n : Int) : outB n = !levB n := by
 unfold outB levB inR
 rw [Bool.eq_iff_iff]; simp; try omega
theorem e162 (args : Array Value) (w : World) : (callFunc 162 args).run Tryz.prog w = .ok (.enter 162 args) w := enters_of Tryz.func162 (by kernel_rfl) rfl args w
theorem f162_c (n : Int) (w : World) : Calls Tryz.prog 162 #[.int .i64 n] w fun e w' => e = .returned (.bool (outB n)) /\ w = w' := by
 go_enter Tryz.func162, Tryz.ntmps162
 go_wp2
 all_goals
  go_ret
  exact ⟨ret_bool (by unfold outB; (try rw [Bool.eq_iff_iff]); (try simp); (try omega)), rfl⟩
theorem asks162 (xs : List Int) (w : World) : Asks 162 #[] (fun y => .int .i64 y) outB xs w :=
 fun W x _ _ => (f162_c x W).mono fun e w' ⟨h1, h2⟩ => ⟨h1, h2 ▸ Bl.refl _⟩
theorem f123_c (s : Sl Int) (w : World) (hs : InI w s) : Calls Tryz.prog 123 #[s.val] w fun e w' => e = .returned (.bool (!s.xs.any outB)) /\ Bl w w' := by
 have A := HD (f107_c s w.heap.size 162 #[] outB w hs (asks162 _ _) e162)
 clear hs
 go_enter Tryz.func123, Tryz.ntmps123
 go_wp2_with fail
 refine A.out.mono ?_
 rintro e w1 ⟨rfl, hw1⟩
 go_wp2
 go_ret
 exact ⟨rfl, bz⟩
theorem InI_new (w : World) (b : Nat) (l : List Int) (h : ∀ j (hj : j < l.length), w.cell? ⟨b, j, none⟩ = some (.int .i64 l[j])) (hb : b < w.heap.size) (hl : l.length ≤ 140737488351232) (c : Nat) (hc : l.length ≤ c) : InI w ⟨some ⟨b, 0, none⟩, c, l⟩ where
 cap := hc
 room := hl
 place := fun _ => ⟨b, 0, rfl, hb, hb, fun i hi j v hv => by
  have e : j = 0 := by
   unfold encI at hv
   cases j with
   | zero => rfl
   | succ j => simp at hv
  subst e
  simp [encI] at hv
  rw [show 0 + i * 1 + 0 = i by omega, h i hi, hv]⟩
 each := fun _ _ => trivial
theorem lev1_c (w : World) (b c : Nat) (n : Int) (hc : 1 ≤ c) (h : w.cell? ⟨b, 0, none⟩ = some (.int .i64 n)) : Calls Tryz.prog 123 #[.slice (some ⟨b, 0, none⟩) 1 c] w fun e w' => e = .returned (.bool (levB n)) /\ Bl w w' :=
 (f123_c ⟨some ⟨b, 0, none⟩, c, [n]⟩ w (InI_new w b [n] (fun j hj => by
  have hj' : j < 1 := hj
  obtain rfl : j = 0 := by omega
  exact h) (cell_lt h) (by simp) c hc)).mono fun e w' ⟨h1, h2⟩ => ⟨h1.trans (ret_bool (by simp [outB_levB])), h2⟩
theorem lev2_c (w : World) (b c : Nat) (n m : Int) (hc : 2 ≤ c) (h : w.cell? ⟨b, 0, none⟩ = some (.int .i64 n)) (h' : w.cell? ⟨b, 1, none⟩ = some (.int .i64 m)) : Calls Tryz.prog 123 #[.slice (some ⟨b, 0, none⟩) 2 c] w fun e w' => e = .returned (.bool (levB n && levB m)) /\ Bl w w' :=
 (f123_c ⟨some ⟨b, 0, none⟩, c, [n, m]⟩ w (InI_new w b [n, m] (fun j hj => by
  have hj' : j < 2 := hj
  rcases (show j = 0 \/ j = 1 by omega) with rfl | rfl
  ·exact h
  ·exact h') (cell_lt h) (by simp) c hc)).mono fun e w' ⟨h1, h2⟩ => ⟨h1.trans (ret_bool (by simp [outB_levB])), h2⟩
set_option maxHeartbeats 2000000 in
theorem f124_c (s : Sl Knot) (h : Int) (w : World) (hs : InK w s) : Calls Tryz.prog 124 #[s.val, .int .i64 h] w fun e w' => e = .returned (.bool (curveB s.xs h 1125899906842624)) /\ Bl w w' := by
 cases ht : tabB s.xs
 ·have h1 := HD (f94_c s w hs)
  rw [ht] at h1
  have hn := HD (show curveB s.xs h 1125899906842624 = false by simp [curveB, ht])
  clear hs ht
  go_enter Tryz.func124, Tryz.ntmps124
  go_wp2_with fail
  refine h1.out.mono ?_
  rintro e w1 ⟨rfl, hw1⟩
  go_wp2
  go_ret
  exact ⟨ret_bool hn.out.symm, bz⟩
 ·have h1 := HD (f94_c s w hs)
  rw [ht] at h1
  have hl : 1 ≤ s.xs.length /\ s.xs.length ≤ 100 := by simp only [tabB, Bool.and_eq_true, decide_eq_true_eq] at ht; exact ht.1
  obtain ⟨A, c, xs⟩ := s
  simp only at hl ht
  have h0 : xs ≠ [] := by intro e; rw [e] at hl; simp at hl
  obtain ⟨b, off, hA, hB, hw, hc⟩ := hs.place h0
  simp only at hA
  subst hA
  have hrow := fun W hb i hi => Sl.Ok.cells hs rfl W hb i hi
  obtain ⟨hl1, hl2⟩ := hl
  simp only at hrow
  have H := HD hrow
  have hn := HD (show curveB xs h 1125899906842624 = (decide (xs[0]!.x = 0) && decide (xs[0]!.y = 0) && decide (xs[xs.length - 1]!.x = h) && decide (xs[xs.length - 1]!.y ≤ 1125899906842624)) by simp [curveB, ht])
  clear hs ht hc h0 hrow
  show Calls Tryz.prog 124 #[.slice (some ⟨b, off, none⟩) xs.length c, .int .i64 h] w _
  go_enter Tryz.func124, Tryz.ntmps124
  go_wp2_with fail
  refine h1.out.mono ?_
  rintro e w1 ⟨rfl, hw1⟩
  have hbw : Bl w w1 := bz
  have iw1 : IntKind.i64.wrap ((xs.length : Int) - 1) = (xs.length : Int) - 1 := IntWalk.i64_in _ (by omega)
  have iw2 : (0 : Int) ≤ (xs.length : Int) - 1 := by omega
  have iw3 : (1 : Int) ≤ (xs.length : Int) := by omega
  have iw4 : ((xs.length : Int) - 1).toNat = xs.length - 1 := by omega
  have iw5 : (xs.length : Int) - 1 < (xs.length : Int) := by omega
  have iw6 : (0 : Int) < (xs.length : Int) := by omega
  have hb1 : b < w1.heap.size := by have := hbw.size; omega
  have n0 : ∀ o j, (w1.alloc o).cell? ⟨b, j, none⟩ = w1.cell? ⟨b, j, none⟩ := fun o j => ((Bl.refl w1).alloc o).cell (p := ⟨b, j, none⟩) hb1
  have hc := H.out w1 hbw (xs.length - 1) (by omega)
  have hd := H.out w1 hbw 0 (by omega)
  have e1 : xs[xs.length - 1]! = xs[xs.length - 1] := getElem!_pos xs _ (by omega)
  have e2 : xs[0]! = xs[0] := getElem!_pos xs _ (by omega)
  rw [e1, e2] at hn
  clear e1 e2
  generalize xs[xs.length - 1] = z at hc hn
  generalize xs[0] = y at hd hn
  have c0 : w1.cell? ⟨b, off + (xs.length - 1) * 2, none⟩ = some (.int .i64 z.x) := hc 0 _ rfl
  have c1 : w1.cell? ⟨b, off + (xs.length - 1) * 2 + 1, none⟩ = some (.int .i64 z.y) := hc 1 _ rfl
  have d0 : w1.cell? ⟨b, off, none⟩ = some (.int .i64 y.x) := by have := hd 0 _ rfl; simpa using this
  have d1 : w1.cell? ⟨b, off + 1, none⟩ = some (.int .i64 y.y) := by have := hd 1 _ rfl; simpa using this
  clear hc hd
  by_cases hy : y.x = 0 /\ y.y = 0
  ·obtain ⟨hy1, hy2⟩ := hy
   have q1 : (y.x == 0) = true := by simpa using hy1
   have q2 : (y.y == 0) = true := by simpa using hy2
   by_cases hz : z.x = h
   ·have q3 : (z.x == h) = true := by simpa using hz
    have hf := HD (show curveB xs h 1125899906842624 = decide (z.y ≤ 1125899906842624) by rw [hn.out]; simp [hy1, hy2, hz])
    clear hn hy1 hy2 hz
    go_wp2_with fail
    go_ret
    exact ⟨ret_bool hf.out.symm, bz⟩
   ·have q3 : (z.x == h) = false := by simpa using hz
    have hf := HD (show curveB xs h 1125899906842624 = false by rw [hn.out]; simp [hy1, hy2, hz])
    clear hn hy1 hy2 hz
    go_wp2_with fail
    go_ret
    exact ⟨ret_bool hf.out.symm, bz⟩
  ·have hf := HD (show curveB xs h 1125899906842624 = false by rw [hn.out]; simp; intro a b; exact absurd ⟨a, b⟩ hy)
   clear hn
   by_cases hy1 : y.x = 0
   ·have hy2 : y.y ≠ 0 := fun e => hy ⟨hy1, e⟩
    have q1 : (y.x == 0) = true := by simpa using hy1
    have q2 : (y.y == 0) = false := by simpa using hy2
    clear hy hy1 hy2
    go_wp2_with fail
    go_ret
    exact ⟨ret_bool hf.out.symm, bz⟩
   ·have q1 : (y.x == 0) = false := by simpa using hy1
    clear hy hy1
    go_wp2_with fail
    go_ret
    exact ⟨ret_bool hf.out.symm, bz⟩
def nodeB (x : Nd) : Bool := nameB x.name && inR (-16777216) 16777216 x.px && inR (-16777216) 16777216 x.py && (levB x.inv && levB x.gnd) &&
 (if x.kind = 1 \/ x.kind = 2 then decide (x.inv < x.gnd) && curveB x.shape.xs (x.gnd - x.inv) 1125899906842624 && !(decide (x.kind = 1) && x.prot) && (if x.prot then inR 0 x.shape.xs[x.shape.xs.length - 1]!.y x.res else decide (x.res = 0))
  else if x.kind = 3 then decide (x.inv ≤ x.gnd) && decide (x.shape.xs.length = 0) && !x.prot && decide (x.res = 0) else false)
set_option maxHeartbeats 4000000 in
theorem f83_c (x : Nd) (w : World) (hs : InNd w x) : Calls Tryz.prog 83 #[x.val] w fun e w' => e = .returned (.bool (nodeB x)) /\ Bl w w' := by
 have A := HD (fun W (hb : Bl w W) d => f124_c x.shape d W (InK.up hs hb))
 cases h1 : nameB x.name
 ·have AF := HD (show nodeB x = false by simp [nodeB, h1])
  go_enter Tryz.func83, Tryz.ntmps83
  go_wp2_with fail
  refine (name_c _ _).mono ?_
  rintro e w1 ⟨rfl, rfl⟩
  rw [h1]
  go_wp2_with fail
  go_ret
  exact ⟨ret_bool AF.out.symm, bz⟩
 ·cases h2 : inR (-16777216) 16777216 x.px
  ·have AF := HD (show nodeB x = false by simp [nodeB, h2])
   go_enter Tryz.func83, Tryz.ntmps83
   go_wp2_with fail
   refine (name_c _ _).mono ?_
   rintro e w1 ⟨rfl, rfl⟩
   rw [h1]
   go_wp2_with fail
   refine (f122_c _ _ _ _).mono ?_
   rintro e w1 ⟨rfl, rfl⟩
   rw [h2]
   go_wp2_with fail
   go_ret
   exact ⟨ret_bool AF.out.symm, bz⟩
  ·cases h3 : inR (-16777216) 16777216 x.py
   ·have AF := HD (show nodeB x = false by simp [nodeB, h3])
    go_enter Tryz.func83, Tryz.ntmps83
    go_wp2_with fail
    refine (name_c _ _).mono ?_
    rintro e w1 ⟨rfl, rfl⟩
    rw [h1]
    go_wp2_with fail
    refine (f122_c _ _ _ _).mono ?_
    rintro e w1 ⟨rfl, rfl⟩
    rw [h2]
    go_wp2_with fail
    refine (f122_c _ _ _ _).mono ?_
    rintro e w1 ⟨rfl, rfl⟩
    rw [h3]
    go_wp2_with fail
    go_ret
    exact ⟨ret_bool AF.out.symm, bz⟩
   ·have hl : (levB x.inv && levB x.gnd) = false \/ (levB x.inv && levB x.gnd) = true /\ -4194304 ≤ x.inv /\ x.inv ≤ 4194304 /\ -4194304 ≤ x.gnd /\ x.gnd ≤ 4194304 := by
     cases h : (levB x.inv && levB x.gnd)
     ·exact .inl rfl
     ·simp only [Bool.and_eq_true] at h
      exact .inr ⟨rfl, (inR_true h.1).1, (inR_true h.1).2, (inR_true h.2).1, (inR_true h.2).2⟩
    go_enter Tryz.func83, Tryz.ntmps83
    go_wp2_with fail
    refine (name_c _ _).mono ?_
    rintro e w1 ⟨rfl, rfl⟩
    rw [h1]
    go_wp2_with fail
    refine (f122_c _ _ _ _).mono ?_
    rintro e w1 ⟨rfl, rfl⟩
    rw [h2]
    go_wp2_with fail
    refine (f122_c _ _ _ _).mono ?_
    rintro e w1 ⟨rfl, rfl⟩
    rw [h3]
    go_wp2_with fail
    refine (lev2_c _ _ _ x.inv x.gnd (by omega) (by simp [go_sem]) (by simp [go_sem])).mono ?_
    rintro e w2 ⟨rfl, hw2⟩
    obtain ⟨hchw2, hfhw2, hzhw2⟩ := Bl.rules hw2; (try simp only [aZ, cZ, dZ, nZ] at hzhw2)
    have z0 : w.heap.size < w2.heap.size := by omega
    rcases hl with hl | ⟨hl, g1, g2, g3, g4⟩
    ·have AF := HD (show nodeB x = false by simp [nodeB, hl])
     rw [hl]
     go_wp2_with fail
     go_ret
     exact ⟨ret_bool AF.out.symm, bz⟩
    ·have NB := HD (show nodeB x = (if x.kind = 1 \/ x.kind = 2 then decide (x.inv < x.gnd) && curveB x.shape.xs (x.gnd - x.inv) 1125899906842624 && !(decide (x.kind = 1) && x.prot) && (if x.prot then inR 0 x.shape.xs[x.shape.xs.length - 1]!.y x.res else decide (x.res = 0))
      else if x.kind = 3 then decide (x.inv ≤ x.gnd) && decide (x.shape.xs.length = 0) && !x.prot && decide (x.res = 0) else false) by simp only [nodeB, h1, h2, h3, hl, Bool.true_and])
     rw [hl]
     by_cases k12 : x.kind = 1 \/ x.kind = 2
     ·rw [if_pos k12] at NB
      by_cases hig : x.inv < x.gnd
      ·have hig' : ¬ x.gnd ≤ x.inv := by omega
       cases hc : curveB x.shape.xs (x.gnd - x.inv) 1125899906842624
       ·have AF := HD (show nodeB x = false by rw [NB.out, hc]; simp)
        clear NB
        rcases k12 with k | k
        ·have q1 : (x.kind == 1) = true := by simpa using k
         clear k
         go_wp2_with fail
         refine (A.out _ bz _).mono ?_
         rintro e w3 ⟨rfl, hw3⟩
         rw [hc]
         go_wp2_with fail
         go_ret
         exact ⟨ret_bool AF.out.symm, bz⟩
        ·have q1 : (x.kind == 1) = false := by simp [k]
         have q2 : (x.kind == 2) = true := by simpa using k
         clear k
         go_wp2_with fail
         refine (A.out _ bz _).mono ?_
         rintro e w3 ⟨rfl, hw3⟩
         rw [hc]
         go_wp2_with fail
         go_ret
         exact ⟨ret_bool AF.out.symm, bz⟩
       ·have NB2 := HD (show nodeB x = (!(decide (x.kind = 1) && x.prot) && (if x.prot then inR 0 x.shape.xs[x.shape.xs.length - 1]!.y x.res else decide (x.res = 0))) by rw [NB.out, hc]; simp [hig])
        clear NB
        have hl1 : 1 ≤ x.shape.xs.length := by
         unfold curveB tabB at hc
         simp only [Bool.and_eq_true, decide_eq_true_eq] at hc
         exact hc.1.1.1.1.1.1
        cases hp : x.prot
        ·have AF := HD (show nodeB x = (x.res == 0) by rw [NB2.out, hp]; simp; rfl)
         clear NB2
         rcases k12 with k | k
         ·have q1 : (x.kind == 1) = true := by simpa using k
          clear k
          go_wp2_with fail
          refine (A.out _ bz _).mono ?_
          rintro e w3 ⟨rfl, hw3⟩
          rw [hc]
          obtain ⟨hchw3, hfhw3, hzhw3⟩ := Bl.rules hw3; (try simp only [aZ, cZ, dZ, nZ] at hzhw3)
          have z1 : w.heap.size < w3.heap.size := by omega
          go_wp2_with fail
          go_ret
          exact ⟨ret_bool AF.out.symm, bz⟩
         ·have q1 : (x.kind == 1) = false := by simp [k]
          have q2 : (x.kind == 2) = true := by simpa using k
          clear k
          go_wp2_with fail
          refine (A.out _ bz _).mono ?_
          rintro e w3 ⟨rfl, hw3⟩
          rw [hc]
          obtain ⟨hchw3, hfhw3, hzhw3⟩ := Bl.rules hw3; (try simp only [aZ, cZ, dZ, nZ] at hzhw3)
          have z1 : w.heap.size < w3.heap.size := by omega
          go_wp2_with fail
          go_ret
          exact ⟨ret_bool AF.out.symm, bz⟩
        ·rcases k12 with k | k
         ·have AF := HD (show nodeB x = false by rw [NB2.out, hp]; simp [k])
          clear NB2
          have q1 : (x.kind == 1) = true := by simpa using k
          clear k
          go_wp2_with fail
          refine (A.out _ bz _).mono ?_
          rintro e w3 ⟨rfl, hw3⟩
          rw [hc]
          obtain ⟨hchw3, hfhw3, hzhw3⟩ := Bl.rules hw3; (try simp only [aZ, cZ, dZ, nZ] at hzhw3)
          have z1 : w.heap.size < w3.heap.size := by omega
          go_wp2_with fail
          go_ret
          exact ⟨ret_bool AF.out.symm, bz⟩
         ·have AF := HD (show nodeB x = inR 0 x.shape.xs[x.shape.xs.length - 1]!.y x.res by rw [NB2.out, hp]; simp [k])
          clear NB2
          have q1 : (x.kind == 1) = false := by simp [k]
          have q2 : (x.kind == 2) = true := by simpa using k
          clear k
          go_wp2_with fail
          refine (A.out _ bz _).mono ?_
          rintro e w3 ⟨rfl, hw3⟩
          rw [hc]
          obtain ⟨hchw3, hfhw3, hzhw3⟩ := Bl.rules hw3; (try simp only [aZ, cZ, dZ, nZ] at hzhw3)
          have z1 : w.heap.size < w3.heap.size := by omega
          go_wp2_with fail
          have hne : x.shape.xs ≠ [] := by intro e; rw [e] at hl1; simp at hl1
          obtain ⟨b, off, hA, hB, hw, hcc⟩ := hs.place hne
          have hbw : Bl w w3 := bz
          have hd := Sl.Ok.cells hs hA w3 hbw (x.shape.xs.length - 1) (by omega)
          have e1 : x.shape.xs[x.shape.xs.length - 1]! = x.shape.xs[x.shape.xs.length - 1] := getElem!_pos _ _ (by omega)
          rw [e1] at AF
          clear e1
          generalize x.shape.xs[x.shape.xs.length - 1] = z at hd AF
          have d1 : w3.cell? ⟨b, off + (x.shape.xs.length - 1) * 2 + 1, none⟩ = some (.int .i64 z.y) := hd 1 _ rfl
          have c6 : w3.cell? ⟨w.heap.size, 6, none⟩ = some (.slice (some ⟨b, off, none⟩) x.shape.xs.length x.shape.cap) := by rw [hchw3 _ _ (by omega), hchw2 _ _ (by simp only [aZ]; omega), <- hA]; simp [go_sem]
          have c8 : w3.cell? ⟨w.heap.size, 8, none⟩ = some (.int .i64 x.res) := by rw [hchw3 _ _ (by omega), hchw2 _ _ (by simp only [aZ]; omega)]; simp [go_sem]
          have iw1 : IntKind.i64.wrap ((x.shape.xs.length : Int) - 1) = (x.shape.xs.length : Int) - 1 := IntWalk.i64_in _ (by have := hs.room; omega)
          have iw2 : (0 : Int) ≤ (x.shape.xs.length : Int) - 1 := by omega
          have iw3 : (1 : Int) ≤ (x.shape.xs.length : Int) := by omega
          have iw4 : ((x.shape.xs.length : Int) - 1).toNat = x.shape.xs.length - 1 := by omega
          have iw5 : (x.shape.xs.length : Int) - 1 < (x.shape.xs.length : Int) := by omega
          clear hd hcc hs A hne hc hl1 hchw3 hchw2 hfhw3 hfhw2
          go_quiet ((go_at_call 122; exact Calls.quiet_of_same ((f122_c _ _ _ _).mono fun _ _ ⟨h1, h2⟩ => ⟨h1, h2.symm⟩)))
          go_wp2_with fail
          go_ret
          exact ⟨ret_bool AF.out.symm, bz⟩
      ·have hig' : x.gnd ≤ x.inv := by omega
       have AF := HD (show nodeB x = false by rw [NB.out]; simp [hig])
       clear NB hig
       rcases k12 with k | k
       ·have q1 : (x.kind == 1) = true := by simpa using k
        clear k
        go_wp2_with fail
        go_ret
        exact ⟨ret_bool AF.out.symm, bz⟩
       ·have q1 : (x.kind == 1) = false := by simp [k]
        have q2 : (x.kind == 2) = true := by simpa using k
        clear k
        go_wp2_with fail
        go_ret
        exact ⟨ret_bool AF.out.symm, bz⟩
     ·by_cases k3 : x.kind = 3
      ·rw [if_neg k12, if_pos k3] at NB
       have q1 : (x.kind == 1) = false := by simp; omega
       have q2 : (x.kind == 2) = false := by simp; omega
       have q3 : (x.kind == 3) = true := by simpa using k3
       clear k12 k3
       by_cases hig : x.inv ≤ x.gnd
       ·by_cases hs0 : x.shape.xs.length = 0
        ·cases hp : x.prot
         ·have AF := HD (show nodeB x = (x.res == 0) by rw [NB.out, hp]; simp [hig, hs0]; rfl)
          have q4 : ((x.shape.xs.length : Int) == 0) = true := by simp [hs0]
          clear NB hs0
          go_wp2_with fail
          go_ret
          exact ⟨ret_bool AF.out.symm, bz⟩
         ·have AF := HD (show nodeB x = false by rw [NB.out, hp]; simp)
          have q4 : ((x.shape.xs.length : Int) == 0) = true := by simp [hs0]
          clear NB hs0
          go_wp2_with fail
          go_ret
          exact ⟨ret_bool AF.out.symm, bz⟩
        ·have AF := HD (show nodeB x = false by rw [NB.out]; simp [hs0])
         have q4 : ((x.shape.xs.length : Int) == 0) = false := by simpa using hs0
         clear NB hs0
         go_wp2_with fail
         go_ret
         exact ⟨ret_bool AF.out.symm, bz⟩
       ·have hig' : x.gnd < x.inv := by omega
        have AF := HD (show nodeB x = false by rw [NB.out]; simp [hig])
        clear NB hig
        go_wp2_with fail
        go_ret
        exact ⟨ret_bool AF.out.symm, bz⟩
      ·have q1 : (x.kind == 1) = false := by simp; omega
       have q2 : (x.kind == 2) = false := by simp; omega
       have q3 : (x.kind == 3) = false := by simp; omega
       have AF := HD (show nodeB x = false by rw [NB.out, if_neg k12, if_neg k3])
       clear k12 k3
       go_wp2_with fail
       go_ret
       exact ⟨ret_bool AF.out.symm, bz⟩
def emptyS : ByteArray := ⟨#[]⟩
def nilK : Sl Knot := ⟨none, 0, []⟩
def plainL (x : Lk) : Lk :=
 if x.kind = 1 then { x with wid := 0, hgt := 0, curve := nilK }
 else if x.kind = 2 then { x with len := 0, down := 0, sec := emptyS, hgt := 0, curve := nilK }
 else if x.kind = 3 then { x with len := 0, down := 0, sec := emptyS, curve := nilK }
 else if x.kind = 4 then { x with len := 0, sec := emptyS, wid := 0, hgt := 0 }
 else { x with len := 0, down := 0, sec := emptyS, wid := 0, hgt := 0, curve := nilK }
set_option maxHeartbeats 4000000 in
theorem f127_c (x : Lk) (w : World) : Calls Tryz.prog 127 #[x.val] w fun e w' => e = .returned (plainL x).val /\ Bl w w' := by
 by_cases k1 : x.kind = 1
 ·have q1 : (x.kind == 1) = true := by simpa using k1
  have hp := HD (show plainL x = { x with wid := 0, hgt := 0, curve := nilK } by simp only [plainL, if_pos k1])
  clear k1
  go_enter Tryz.func127, Tryz.ntmps127
  go_wp2_with fail
  go_region_held3 (fun w' => w'.cell? ⟨w.heap.size, 4, none⟩ = some (.int .i64 x.len) /\ w'.cell? ⟨w.heap.size, 6, none⟩ = some (.int .i64 x.down) /\ w'.cell? ⟨w.heap.size, 7, none⟩ = some (.string x.sec)) (go_keep) (fail)
  all_goals go_wp2_with fail
  all_goals exact bodyPost_ret (v := (Lk.mk x.name x.src x.dst x.kind x.len x.up x.down x.sec 0 0 nilK).val) (by simp [results, Tryz.results127, go_sem, nilK]) rfl ⟨by rw [hp.out], bz⟩
 ·by_cases k2 : x.kind = 2
  ·have q1 : (x.kind == 1) = false := by simpa using k1
   have q2 : (x.kind == 2) = true := by simpa using k2
   have hp := HD (show plainL x = { x with len := 0, down := 0, sec := emptyS, hgt := 0, curve := nilK } by simp only [plainL, if_neg k1, if_pos k2])
   clear k1 k2
   go_enter Tryz.func127, Tryz.ntmps127
   go_wp2_with fail
   exact bodyPost_ret (v := (Lk.mk x.name x.src x.dst x.kind 0 x.up 0 emptyS x.wid 0 nilK).val) (by simp [results, Tryz.results127, go_sem, nilK, emptyS]) rfl ⟨by rw [hp.out], bz⟩
  ·by_cases k3 : x.kind = 3
   ·have q1 : (x.kind == 1) = false := by simpa using k1
    have q2 : (x.kind == 2) = false := by simpa using k2
    have q3 : (x.kind == 3) = true := by simpa using k3
    have hp := HD (show plainL x = { x with len := 0, down := 0, sec := emptyS, curve := nilK } by simp only [plainL, if_neg k1, if_neg k2, if_pos k3])
    clear k1 k2 k3
    go_enter Tryz.func127, Tryz.ntmps127
    go_wp2_with fail
    go_region_held3 (fun w' => w'.cell? ⟨w.heap.size, 8, none⟩ = some (.int .i64 x.wid) /\ w'.cell? ⟨w.heap.size, 9, none⟩ = some (.int .i64 x.hgt)) (go_keep) (fail)
    all_goals go_wp2_with fail
    all_goals exact bodyPost_ret (v := (Lk.mk x.name x.src x.dst x.kind 0 x.up 0 emptyS x.wid x.hgt nilK).val) (by simp [results, Tryz.results127, go_sem, nilK, emptyS]) rfl ⟨by rw [hp.out], bz⟩
   ·by_cases k4 : x.kind = 4
    ·have q1 : (x.kind == 1) = false := by simpa using k1
     have q2 : (x.kind == 2) = false := by simpa using k2
     have q3 : (x.kind == 3) = false := by simpa using k3
     have q4 : (x.kind == 4) = true := by simpa using k4
     have hp := HD (show plainL x = { x with len := 0, sec := emptyS, wid := 0, hgt := 0 } by simp only [plainL, if_neg k1, if_neg k2, if_neg k3, if_pos k4])
     clear k1 k2 k3 k4
     go_enter Tryz.func127, Tryz.ntmps127
     go_wp2_with fail
     go_region_held3 (fun w' => w'.cell? ⟨w.heap.size, 6, none⟩ = some (.int .i64 x.down) /\ w'.cell? ⟨w.heap.size, 10, none⟩ = some x.curve.val) (go_keep) (fail)
     all_goals go_wp2_with fail
     all_goals exact bodyPost_ret (v := (Lk.mk x.name x.src x.dst x.kind 0 x.up x.down emptyS 0 0 x.curve).val) (by simp [results, Tryz.results127, go_sem, nilK, emptyS]) rfl ⟨by rw [hp.out], bz⟩
    ·have q1 : (x.kind == 1) = false := by simpa using k1
     have q2 : (x.kind == 2) = false := by simpa using k2
     have q3 : (x.kind == 3) = false := by simpa using k3
     have q4 : (x.kind == 4) = false := by simpa using k4
     have hp := HD (show plainL x = { x with len := 0, down := 0, sec := emptyS, wid := 0, hgt := 0, curve := nilK } by simp only [plainL, if_neg k1, if_neg k2, if_neg k3, if_neg k4])
     clear k1 k2 k3 k4
     go_enter Tryz.func127, Tryz.ntmps127
     go_wp2_with fail
     exact bodyPost_ret (v := (Lk.mk x.name x.src x.dst x.kind 0 x.up 0 emptyS 0 0 nilK).val) (by simp [results, Tryz.results127, go_sem, nilK, emptyS]) rfl ⟨by rw [hp.out], bz⟩
def eqAt (xs ys : List Knot) (i : Nat) : Bool := (xs[i]!.x == ys[i]!.x) && (xs[i]!.y == ys[i]!.y)
def eqK (xs ys : List Knot) : Bool := decide (xs.length = ys.length) && (List.range xs.length).all (eqAt xs ys)
theorem eqK_true {xs ys : List Knot} (h1 : xs.length = ys.length) (h : ∀ j, j < xs.length -> eqAt xs ys j = true) : eqK xs ys = true := by
 simp only [eqK, Bool.and_eq_true, decide_eq_true_eq, List.all_eq_true, List.mem_range]
 exact ⟨h1, h⟩
theorem eqK_false {xs ys : List Knot} (j : Nat) (hj : j < xs.length) (h : eqAt xs ys j = false) : eqK xs ys = false := by
 rw [Bool.eq_false_iff]
 intro ht
 simp only [eqK, Bool.and_eq_true, decide_eq_true_eq, List.all_eq_true, List.mem_range] at ht
 rw [ht.2 j hj] at h; cases h
set_option maxHeartbeats 4000000 in
theorem f163_c (s t : Sl Knot) (w : World) (hs : InK w s) (ht : InK w t) : Calls Tryz.prog 163 #[s.val, t.val] w fun e w' => e = .returned (.bool (eqK s.xs t.xs)) /\ Bl w w' := by
 have hr := hs.room
 obtain ⟨A, c, xs⟩ := s
 obtain ⟨B, d, ys⟩ := t
 simp only at hr
 by_cases hl : xs.length = ys.length
 ·by_cases h0 : xs = []
  ·subst h0
   have hy : ys = [] := List.length_eq_zero_iff.1 hl.symm
   subst hy
   clear hs ht hl
   show Calls Tryz.prog 163 #[.slice A 0 c, .slice B 0 d] w _
   go_enter Tryz.func163, Tryz.ntmps163
   go_wp2
   refine wp_loop_rounds 1 ?_
   rw [rounds_succ]
   go_wp2
   go_ret
   exact ⟨rfl, bz⟩
  ·have h0' : ys ≠ [] := by intro e; rw [e] at hl; exact h0 (List.length_eq_zero_iff.1 hl)
   obtain ⟨b, off, hA, hB, hw, hc⟩ := hs.place h0
   obtain ⟨b', off', hA', hB', hw', hc'⟩ := ht.place h0'
   simp only at hA hA'
   subst hA
   subst hA'
   have hrow := fun W hb i hi => Sl.Ok.cells hs rfl W hb i hi
   have hrow' := fun W hb i hi => Sl.Ok.cells ht rfl W hb i hi
   simp only at hrow hrow'
   have HL := HD hl
   have hl1 : ((xs.length : Int) == (ys.length : Int)) = true := by simp [hl]
   have hl2 : ((xs.length : Int) != (ys.length : Int)) = false := by simp [hl]
   clear hs ht hc hc' h0 h0' hl
   show Calls Tryz.prog 163 #[.slice (some ⟨b, off, none⟩) xs.length c, .slice (some ⟨b', off', none⟩) ys.length d] w _
   go_enter Tryz.func163, Tryz.ntmps163
   go_wp2_with fail
   go_loopg [13] xs.length (fun gg s13 wr => ∃ kk : Nat, kk ≤ xs.length /\ xs.length - kk ≤ gg /\ s13 = .int .i64 kk /\ Aside (Bl w wr) /\ Aside (∀ j, j < kk -> eqAt xs ys j = true))
   case atStart => exact ⟨0, Nat.zero_le _, by omega, rfl, Bl.refl w, fun j hj => absurd hj (Nat.not_lt_zero _)⟩
   case round =>
    obtain ⟨kk, hkk, hg, rfl, BW, A⟩ := hrel
    by_cases hlt : kk < xs.length
    ·have hlt' : kk < ys.length := by rw [<- HL.out]; exact hlt
     have hltz : (kk : Int) < (xs.length : Int) := by omega
     have hltz' : (kk : Int) < (ys.length : Int) := by omega
     have hge : (0 : Int) ≤ (kk : Int) := by omega
     have BW1 := BW.out
     have hc := hrow wr BW1 kk hlt
     have hc' := hrow' wr BW1 kk hlt'
     have KO : eqAt xs ys kk = ((xs[kk].x == ys[kk].x) && (xs[kk].y == ys[kk].y)) := by
      unfold eqAt
      rw [getElem!_pos xs kk hlt, getElem!_pos ys kk hlt']
     generalize xs[kk] = y at hc KO
     generalize ys[kk] = z at hc' KO
     have c0 : wr.cell? ⟨b, off + kk * 2, none⟩ = some (.int .i64 y.x) := hc 0 _ rfl
     have c1 : wr.cell? ⟨b, off + kk * 2 + 1, none⟩ = some (.int .i64 y.y) := hc 1 _ rfl
     have d0 : wr.cell? ⟨b', off' + kk * 2, none⟩ = some (.int .i64 z.x) := hc' 0 _ rfl
     have d1 : wr.cell? ⟨b', off' + kk * 2 + 1, none⟩ = some (.int .i64 z.y) := hc' 1 _ rfl
     clear hc hc' hrow hrow'
     have hcase : ((y.x == z.x) = false /\ eqAt xs ys kk = false) \/ ((y.x == z.x) = true /\ (y.y == z.y) = false /\ eqAt xs ys kk = false) \/ ((y.x == z.x) = true /\ (y.y == z.y) = true /\ eqAt xs ys kk = true) := by
      rw [KO]; cases (y.x == z.x) <;> cases (y.y == z.y) <;> simp
     clear KO
     rcases hcase with ⟨h1, KF⟩ | ⟨h1, h2, KF⟩ | ⟨h1, h2, KF⟩
     all_goals
      have HF := HD KF
      clear KF
      go_wp2_with fail
      go_quiet (fail)
      go_wp2_with fail
     ·go_ret
      exact ⟨ret_bool (eqK_false kk hlt HF).symm, bz⟩
     ·go_ret
      exact ⟨ret_bool (eqK_false kk hlt HF).symm, bz⟩
     ·go_roundg (xs.length - (kk + 1))
      case measure => omega
      case rel =>
       refine ⟨kk + 1, by omega, by omega, by go_num, bz, (show Aside _ from fun j hj => ?_)⟩
       by_cases e : j = kk
       ·subst e; exact HF
       ·exact A.out j (by omega)
    ·have hltz : ¬ (kk : Int) < (xs.length : Int) := by omega
     have : kk = xs.length := by omega
     subst this
     have hn := HD (eqK_true HL.out A.out)
     clear hrow hrow'
     go_wp2
     go_ret
     exact ⟨ret_bool hn.out.symm, BW.out⟩
 ·have hl1 : ((xs.length : Int) == (ys.length : Int)) = false := by simp; omega
  have hl2 : ((xs.length : Int) != (ys.length : Int)) = true := by simp; omega
  have hf := HD (show eqK xs ys = false by simp [eqK, hl])
  clear hs ht hl
  show Calls Tryz.prog 163 #[.slice A xs.length c, .slice B ys.length d] w _
  go_enter Tryz.func163, Tryz.ntmps163
  go_wp2_with fail
  go_ret
  exact ⟨ret_bool hf.out.symm, bz⟩
def sameB (a b : Lk) : Bool := (a.name == b.name) && (a.src == b.src) && (a.dst == b.dst) && (a.kind == b.kind) && (a.len == b.len) && (a.up == b.up) && (a.down == b.down) && (a.sec == b.sec) && (a.wid == b.wid) && (a.hgt == b.hgt) && eqK a.curve.xs b.curve.xs
set_option maxHeartbeats 4000000 in
theorem f126_c (a b : Lk) (w : World) (hs : InLk w a) (ht : InLk w b) (e1 : a.name = b.name) (e2 : a.src = b.src) (e3 : a.dst = b.dst) (e4 : a.kind = b.kind) (e5 : a.up = b.up) : Calls Tryz.prog 126 #[a.val, b.val] w fun e w' => e = .returned (.bool (sameB a b)) /\ Bl w w' := by
 have A := HD (fun W (hb : Bl w W) => f163_c a.curve b.curve W (InK.up hs hb) (InK.up ht hb))
 obtain ⟨n1, n2, n3, n4, n5, n6, n7, n8, n9, n10, n11⟩ := a
 obtain ⟨m1, m2, m3, m4, m5, m6, m7, m8, m9, m10, m11⟩ := b
 simp only at e1 e2 e3 e4 e5 A
 subst e1 e2 e3 e4 e5
 clear hs ht
 go_enter Tryz.func126, Tryz.ntmps126
 go_wp2_with fail
 ·refine (A.out _ bz).mono ?_
  rintro e w1 ⟨rfl, hw1⟩
  clear A
  go_wp2_with fail
  go_ret
  exact ⟨ret_bool (by simp [sameB, beq_toListBytes, *]), bz⟩
 all_goals
  clear A
  go_ret
  exact ⟨ret_bool (by simp [sameB, beq_toListBytes, *]), bz⟩
theorem lA {α : Type} (l : List α) (i : Nat) (a : α) : l.toArray.setIfInBounds i a = (l.set i a).toArray := by simp
theorem lB {α : Type} (x : α) (l : List α) (a : α) : (x :: l).set 0 a = a :: l := rfl
theorem lC {α : Type} (x : α) (l : List α) (i : Nat) (a : α) : (x :: l).set (i + 1) a = x :: l.set i a := rfl
section
variable {P : Program} {md : Region.Mode} {ops : Array Oper} {Q : Exit -> Act -> World -> Prop} {S : World -> Prop} {fuel : Nat} {listed : Array Bool} {a : Act} {w : World}
theorem tk (i : Nat) {oi : Oper} {v : Value} (h : wpAnyH P md ops Q S fuel (listed.setIfInBounds i true) (a.put oi.dst v) w) (hi : ops[i]? = some oi := by (simp only [List.getElem?_toArray, List.getElem?_cons_succ, List.getElem?_cons_zero]; exact rfl)) (hs : Region.noSelect ops = true := by kernel_rfl) (hf : Region.free md ops listed i = true := by kernel_rfl)
 (hr : (Region.ready md ops listed).contains i = true := by kernel_rfl) (hQ : ∀ c a w, Q (.panic c) (a.put oi.dst v) w -> Q (.panic c) a w := by exact fun _ _ _ h => h) (h1 : Region.wanted oi (yielded ops a.tmps) = true := by rfl)
 (h2 : ∀ w, S w -> (execOp a.eval oi).run P w = .ok (.value v) w := by (intro w hSw; (try dsimp only at hSw); go_simp; (try with_reducible rfl))) (hS : S w := by assumption) : wpAnyH P md ops Q S (fuel + 1) listed a w :=
 wpAnyH_take hi hs hf hr hQ (.inl ⟨h1, h2⟩) hS h
theorem tu (i : Nat) {oi : Oper} (h : wpAnyH P md ops Q S fuel (listed.setIfInBounds i true) (a.put oi.dst undef) w) (hi : ops[i]? = some oi := by (simp only [List.getElem?_toArray, List.getElem?_cons_succ, List.getElem?_cons_zero]; exact rfl)) (hs : Region.noSelect ops = true := by kernel_rfl) (hf : Region.free md ops listed i = true := by kernel_rfl)
 (hr : (Region.ready md ops listed).contains i = true := by kernel_rfl) (hQ : ∀ c a w, Q (.panic c) (a.put oi.dst undef) w -> Q (.panic c) a w := by exact fun _ _ _ h => h) (h1 : Region.wanted oi (yielded ops a.tmps) = false := by rfl)
 (hS : S w := by assumption) : wpAnyH P md ops Q S (fuel + 1) listed a w :=
 wpAnyH_take hi hs hf hr hQ (.inr ⟨h1, rfl⟩) hS h
theorem tc {i : Nat} {o : Oper} {rs : List Nat}
 (h : ∀ K' : Act -> World -> Prop, Shut (∀ a w, S w -> (S w -> wpAnyH P md ops Q S fuel (listed.setIfInBounds i true) a w) -> K' a w) -> if Region.wanted o (yielded ops a.tmps) = true then Oper.wp P o a w K' Q else K' (a.put o.dst undef) w)
 (hs : AllReadyH P md ops Q S fuel listed a w rs) (ho : ops[i]? = some o := by (simp only [List.getElem?_toArray, List.getElem?_cons_succ, List.getElem?_cons_zero]; exact rfl)) : AllReadyH P md ops Q S fuel listed a w (i :: rs) := AllReadyH.cons ho h hs
end
theorem plainL_parts (x : Lk) : (plainL x).name = x.name /\ (plainL x).src = x.src /\ (plainL x).dst = x.dst /\ (plainL x).kind = x.kind /\ (plainL x).up = x.up /\ ((plainL x).curve = x.curve \/ (plainL x).curve = nilK) := by
 unfold plainL
 split
 ·exact ⟨rfl, rfl, rfl, rfl, rfl, .inr rfl⟩
 ·split
  ·exact ⟨rfl, rfl, rfl, rfl, rfl, .inr rfl⟩
  ·split
   ·exact ⟨rfl, rfl, rfl, rfl, rfl, .inr rfl⟩
   ·split
    ·exact ⟨rfl, rfl, rfl, rfl, rfl, .inl rfl⟩
    ·exact ⟨rfl, rfl, rfl, rfl, rfl, .inr rfl⟩
theorem InK_nil (w : World) : InK w nilK := ⟨by simp [nilK], by simp [nilK], fun h => absurd rfl h, fun x hx => by simp [nilK] at hx⟩
theorem InLk_plain {w : World} {x : Lk} (h : InLk w x) : InLk w (plainL x) := by
 rcases (plainL_parts x).2.2.2.2.2 with e | e
 ·show InK w (plainL x).curve
  rw [e]; exact h
 ·show InK w (plainL x).curve
  rw [e]; exact InK_nil w
theorem same_c (x : Lk) (w : World) (hs : InLk w x) : Calls Tryz.prog 126 #[x.val, (plainL x).val] w fun e w' => e = .returned (.bool (sameB x (plainL x))) /\ Bl w w' :=
 have h := plainL_parts x
 f126_c x (plainL x) w hs (InLk_plain hs) h.1.symm h.2.1.symm h.2.2.1.symm h.2.2.2.1.symm h.2.2.2.2.1.symm
def knotOut (k : Knot) : Bool := !(inR 0 4194304 k.x && inR 0 1099511627776 k.y)
def kindB (x : Lk) : Bool :=
 if x.kind = 1 then inR 1 16777216 x.len && levB x.down && nameB x.sec
 else if x.kind = 2 then inR 1 1048576 x.wid
 else if x.kind = 3 then inR 1 32768 x.wid && inR 1 32768 x.hgt
 else if x.kind = 4 then levB x.down && decide (x.down < x.up) && tabB x.curve.xs && !x.curve.xs.any knotOut
 else false
def linkB (x : Lk) : Bool := nameB x.name && nameB x.src && nameB x.dst && !(x.src == x.dst) && levB x.up && sameB x (plainL x) && kindB x
theorem e129 (args : Array Value) (w : World) : (callFunc 129 args).run Tryz.prog w = .ok (.enter 129 args) w := enters_of Tryz.func129 (by kernel_rfl) rfl args w
theorem f129_c (k : Knot) (w : World) : Calls Tryz.prog 129 #[k.val] w fun e w' => e = .returned (.bool (knotOut k)) /\ Bl w w' := by
 cases h1 : inR 0 4194304 k.x <;> cases h2 : inR 0 1099511627776 k.y
 all_goals
  have hf : knotOut k = !(inR 0 4194304 k.x && inR 0 1099511627776 k.y) := rfl
  rw [h1, h2] at hf
  have HF := HD hf; clear hf
  go_enter Tryz.func129, Tryz.ntmps129
  go_wp2_with fail
  refine (f122_c _ _ _ _).mono ?_
  rintro e w1 ⟨rfl, rfl⟩
  rw [h1]
  go_wp2_with fail
 all_goals try
  (refine (f122_c _ _ _ _).mono ?_
   rintro e w1 ⟨rfl, rfl⟩
   rw [h2]
   go_wp2_with fail)
 all_goals
  go_ret
  exact ⟨ret_bool HF.out.symm, bz⟩
theorem asks129 (xs : List Knot) (w : World) : Asks 129 #[] (fun y => .agg #[.int .i64 y.x, .int .i64 y.y]) knotOut xs w :=
 fun W x _ _ => f129_c x W
set_option maxHeartbeats 4000000 in
theorem f85_1 (x : Lk) (w : World) (hs : InLk w x) (h1 : nameB x.name = true) (h2 : nameB x.src = true) (h3 : nameB x.dst = true) (h4 : (x.src == x.dst) = false) (h5 : levB x.up = true) (h6 : sameB x (plainL x) = true) : Calls Tryz.prog 85 #[x.val] w fun e w' => e = .returned (.bool (kindB x)) /\ Bl w w' := by
 have h4' : (x.src.toList == x.dst.toList) = false := by rw [<- beq_toListBytes]; exact h4
 have h4'' : ¬ x.src.toList = x.dst.toList := by simpa using h4'
 go_enter Tryz.func85, Tryz.ntmps85
 go_wp2_with fail
 obtain ⟨W0, hW0⟩ : ∃ X, X = (w.alloc (Obj.cells #[.string x.name, .string x.src, .string x.dst, .int .i64 x.kind, .int .i64 x.len, .int .i64 x.up, .int .i64 x.down, .string x.sec, .int .i64 x.wid, .int .i64 x.hgt, x.curve.val] 45)) := ⟨_, rfl⟩
 have q0 : W0.cell? ⟨w.heap.size, 0, none⟩ = some (.string x.name) := by rw [hW0]; simp [go_sem]
 have q1 : W0.cell? ⟨w.heap.size, 1, none⟩ = some (.string x.src) := by rw [hW0]; simp [go_sem]
 have q2 : W0.cell? ⟨w.heap.size, 2, none⟩ = some (.string x.dst) := by rw [hW0]; simp [go_sem]
 have q3 : W0.cell? ⟨w.heap.size, 3, none⟩ = some (.int .i64 x.kind) := by rw [hW0]; simp [go_sem]
 have q4 : W0.cell? ⟨w.heap.size, 4, none⟩ = some (.int .i64 x.len) := by rw [hW0]; simp [go_sem]
 have q5 : W0.cell? ⟨w.heap.size, 5, none⟩ = some (.int .i64 x.up) := by rw [hW0]; simp [go_sem]
 have q6 : W0.cell? ⟨w.heap.size, 6, none⟩ = some (.int .i64 x.down) := by rw [hW0]; simp [go_sem]
 have q7 : W0.cell? ⟨w.heap.size, 7, none⟩ = some (.string x.sec) := by rw [hW0]; simp [go_sem]
 have q8 : W0.cell? ⟨w.heap.size, 8, none⟩ = some (.int .i64 x.wid) := by rw [hW0]; simp [go_sem]
 have q9 : W0.cell? ⟨w.heap.size, 9, none⟩ = some (.int .i64 x.hgt) := by rw [hW0]; simp [go_sem]
 have q10 : W0.cell? ⟨w.heap.size, 10, none⟩ = some (x.curve.val) := by rw [hW0]; simp [go_sem]
 have hB0 : Bl w W0 := by rw [hW0]; exact bz
 have hz0 : w.heap.size < W0.heap.size := by rw [hW0]; simp
 rw [<- hW0]
 clear hW0
 go_region_held3 (fun w' => Bl W0 w' /\ w'.cell? ⟨w.heap.size, 0, none⟩ = some (.string x.name) /\ w'.cell? ⟨w.heap.size, 1, none⟩ = some (.string x.src) /\ w'.cell? ⟨w.heap.size, 2, none⟩ = some (.string x.dst) /\ w'.cell? ⟨w.heap.size, 3, none⟩ = some (.int .i64 x.kind) /\ w'.cell? ⟨w.heap.size, 4, none⟩ = some (.int .i64 x.len) /\ w'.cell? ⟨w.heap.size, 5, none⟩ = some (.int .i64 x.up) /\ w'.cell? ⟨w.heap.size, 6, none⟩ = some (.int .i64 x.down) /\ w'.cell? ⟨w.heap.size, 7, none⟩ = some (.string x.sec) /\ w'.cell? ⟨w.heap.size, 8, none⟩ = some (.int .i64 x.wid) /\ w'.cell? ⟨w.heap.size, 9, none⟩ = some (.int .i64 x.hgt) /\ w'.cell? ⟨w.heap.size, 10, none⟩ = some (x.curve.val)) (refine ⟨bz, Bl.keep (a := W0) bz q0, Bl.keep (a := W0) bz q1, Bl.keep (a := W0) bz q2, Bl.keep (a := W0) bz q3, Bl.keep (a := W0) bz q4, Bl.keep (a := W0) bz q5, Bl.keep (a := W0) bz q6, Bl.keep (a := W0) bz q7, Bl.keep (a := W0) bz q8, Bl.keep (a := W0) bz q9, Bl.keep (a := W0) bz q10⟩) (first
  | (go_at_call 100; refine (name_c _ _).mono ?_; rintro e w' ⟨rfl, rfl⟩)
  | (go_at_call 123; refine (lev1_c _ _ _ x.up (by omega) (by simp [go_sem])).mono ?_; rintro e w' ⟨rfl, hwl⟩)
  | (go_at_call 127; refine (f127_c x _).mono ?_; rintro e w' ⟨rfl, hwp⟩)
  | (go_at_call 126; refine (same_c x _ (InLk.up hs bz)).mono ?_; rintro e w' ⟨rfl, hws⟩))
 have hS : Bl W0 w' /\ w'.cell? ⟨w.heap.size, 0, none⟩ = some (.string x.name) /\ w'.cell? ⟨w.heap.size, 1, none⟩ = some (.string x.src) /\ w'.cell? ⟨w.heap.size, 2, none⟩ = some (.string x.dst) /\ w'.cell? ⟨w.heap.size, 3, none⟩ = some (.int .i64 x.kind) /\ w'.cell? ⟨w.heap.size, 4, none⟩ = some (.int .i64 x.len) /\ w'.cell? ⟨w.heap.size, 5, none⟩ = some (.int .i64 x.up) /\ w'.cell? ⟨w.heap.size, 6, none⟩ = some (.int .i64 x.down) /\ w'.cell? ⟨w.heap.size, 7, none⟩ = some (.string x.sec) /\ w'.cell? ⟨w.heap.size, 8, none⟩ = some (.int .i64 x.wid) /\ w'.cell? ⟨w.heap.size, 9, none⟩ = some (.int .i64 x.hgt) /\ w'.cell? ⟨w.heap.size, 10, none⟩ = some (x.curve.val) := by assumption
 obtain ⟨hBw, c0, c1, c2, c3, c4, c5, c6, c7, c8, c9, c10⟩ := hS
 have hBW : Bl w w' := Bl.trans hB0 hBw
 have hzw : w.heap.size < w'.heap.size := cell_lt c0
 have T := HD (fun W (hb : Bl w W) => f94_c x.curve W (InK.up hs hb))
 have T2 := HD (fun W (hb : Bl w W) => f128_c x.curve W.heap.size 129 #[] knotOut W (InK.up hs hb) (asks129 _ _) e129)
 clear hwl hwp hws hBw hB0 q0 q1 q2 q3 q4 q5 q6 q7 q8 q9 q10 hz0 h1 h2 h3 h4 h4' h4'' h5 h6 hs
 by_cases k1 : x.kind = 1
 ·have q1 : (x.kind == 1) = true := by simpa using k1
  have K := HD (show kindB x = (inR 1 16777216 x.len && levB x.down && nameB x.sec) by simp only [kindB, if_pos k1])
  clear k1
  cases g1 : inR 1 16777216 x.len
  ·have KF := HD (show kindB x = false by rw [K.out, g1]; rfl)
   go_wp2_with fail
   refine (f122_c _ _ _ _).mono ?_
   rintro e w1 ⟨rfl, rfl⟩
   rw [g1]
   go_wp2_with fail
   go_ret
   exact ⟨ret_bool KF.out.symm, bz⟩
  ·cases g2 : levB x.down
   ·have KF := HD (show kindB x = false by rw [K.out, g1, g2]; rfl)
    go_wp2_with fail
    refine (f122_c _ _ _ _).mono ?_
    rintro e w1 ⟨rfl, rfl⟩
    rw [g1]
    go_wp2_with fail
    refine (lev1_c _ _ _ x.down (by omega) (by simp [go_sem])).mono ?_
    rintro e w1 ⟨rfl, hw1⟩
    rw [g2]
    obtain ⟨hchw1, hfhw1, hzhw1⟩ := Bl.rules hw1; (try simp only [aZ, cZ, dZ, nZ] at hzhw1)
    go_wp2_with fail
    go_ret
    exact ⟨ret_bool KF.out.symm, bz⟩
   ·have KF := HD (show kindB x = nameB x.sec by rw [K.out, g1, g2]; rfl)
    go_wp2_with fail
    refine (f122_c _ _ _ _).mono ?_
    rintro e w1 ⟨rfl, rfl⟩
    rw [g1]
    go_wp2_with fail
    refine (lev1_c _ _ _ x.down (by omega) (by simp [go_sem])).mono ?_
    rintro e w1 ⟨rfl, hw1⟩
    rw [g2]
    obtain ⟨hchw1, hfhw1, hzhw1⟩ := Bl.rules hw1; (try simp only [aZ, cZ, dZ, nZ] at hzhw1)
    have zz : w.heap.size < w'.heap.size + 1 := by omega
    go_wp2_with fail
    refine (name_c _ _).mono ?_
    rintro e w2 ⟨rfl, rfl⟩
    go_wp2_with fail
    go_ret
    exact ⟨ret_bool KF.out.symm, bz⟩
 ·by_cases k2 : x.kind = 2
  ·have q1 : (x.kind == 1) = false := by simpa using k1
   have q2 : (x.kind == 2) = true := by simpa using k2
   have KF := HD (show kindB x = inR 1 1048576 x.wid by simp only [kindB, if_neg k1, if_pos k2])
   clear k1 k2
   go_wp2_with fail
   refine (f122_c _ _ _ _).mono ?_
   rintro e w1 ⟨rfl, rfl⟩
   go_wp2_with fail
   go_ret
   exact ⟨ret_bool KF.out.symm, bz⟩
  ·by_cases k3 : x.kind = 3
   ·have q1 : (x.kind == 1) = false := by simpa using k1
    have q2 : (x.kind == 2) = false := by simpa using k2
    have q3 : (x.kind == 3) = true := by simpa using k3
    have K := HD (show kindB x = (inR 1 32768 x.wid && inR 1 32768 x.hgt) by simp only [kindB, if_neg k1, if_neg k2, if_pos k3])
    clear k1 k2 k3
    cases g1 : inR 1 32768 x.wid
    ·have KF := HD (show kindB x = false by rw [K.out, g1]; rfl)
     go_wp2_with fail
     refine (f122_c _ _ _ _).mono ?_
     rintro e w1 ⟨rfl, rfl⟩
     rw [g1]
     go_wp2_with fail
     go_ret
     exact ⟨ret_bool KF.out.symm, bz⟩
    ·have KF := HD (show kindB x = inR 1 32768 x.hgt by rw [K.out, g1]; rfl)
     go_wp2_with fail
     refine (f122_c _ _ _ _).mono ?_
     rintro e w1 ⟨rfl, rfl⟩
     rw [g1]
     go_wp2_with fail
     refine (f122_c _ _ _ _).mono ?_
     rintro e w1 ⟨rfl, rfl⟩
     go_wp2_with fail
     go_ret
     exact ⟨ret_bool KF.out.symm, bz⟩
   ·by_cases k4 : x.kind = 4
    ·have q1 : (x.kind == 1) = false := by simpa using k1
     have q2 : (x.kind == 2) = false := by simpa using k2
     have q3 : (x.kind == 3) = false := by simpa using k3
     have q4 : (x.kind == 4) = true := by simpa using k4
     have K := HD (show kindB x = (levB x.down && decide (x.down < x.up) && tabB x.curve.xs && !x.curve.xs.any knotOut) by simp only [kindB, if_neg k1, if_neg k2, if_neg k3, if_pos k4])
     clear k1 k2 k3 k4
     have hcase : (levB x.down = false /\ kindB x = false) \/ (levB x.down = true /\ ¬ x.down < x.up /\ kindB x = false) \/ (levB x.down = true /\ x.down < x.up /\ tabB x.curve.xs = false /\ kindB x = false) \/ (levB x.down = true /\ x.down < x.up /\ tabB x.curve.xs = true /\ kindB x = !x.curve.xs.any knotOut) := by
      rw [K.out]; cases levB x.down <;> by_cases h : x.down < x.up <;> cases tabB x.curve.xs <;> simp [h]
     clear K
     rcases hcase with ⟨g1, KF⟩ | ⟨g1, g2, KF⟩ | ⟨g1, g2, g3, KF⟩ | ⟨g1, g2, g3, KF⟩
     all_goals
      have HF := HD KF
      clear KF
      go_wp2_with fail
      refine (lev1_c _ _ _ x.down (by omega) (by simp [go_sem])).mono ?_
      rintro e w1 ⟨rfl, hw1⟩
      rw [g1]
      obtain ⟨hchw1, hfhw1, hzhw1⟩ := Bl.rules hw1; (try simp only [aZ, cZ, dZ, nZ] at hzhw1)
      have zz : w.heap.size < w'.heap.size + 1 := by omega
      go_wp2_with fail
     ·go_ret
      exact ⟨ret_bool HF.out.symm, bz⟩
     ·go_ret
      exact ⟨ret_bool HF.out.symm, bz⟩
     ·refine (T.out _ bz).mono ?_
      rintro e w2 ⟨rfl, hw2⟩
      rw [g3]
      obtain ⟨hchw2, hfhw2, hzhw2⟩ := Bl.rules hw2; (try simp only [aZ, cZ, dZ, nZ] at hzhw2)
      go_wp2_with fail
      go_ret
      exact ⟨ret_bool HF.out.symm, bz⟩
     ·refine (T.out _ bz).mono ?_
      rintro e w2 ⟨rfl, hw2⟩
      rw [g3]
      obtain ⟨hchw2, hfhw2, hzhw2⟩ := Bl.rules hw2; (try simp only [aZ, cZ, dZ, nZ] at hzhw2)
      have zz2 : w.heap.size < w1.heap.size := by omega
      have zz3 : w.heap.size < w2.heap.size := by omega
      go_wp2_with fail
      refine (T2.out _ bz).mono ?_
      rintro e w3 ⟨rfl, hw3⟩
      go_wp2_with fail
      go_ret
      exact ⟨ret_bool HF.out.symm, bz⟩
    ·have q1 : (x.kind == 1) = false := by simpa using k1
     have q2 : (x.kind == 2) = false := by simpa using k2
     have q3 : (x.kind == 3) = false := by simpa using k3
     have q4 : (x.kind == 4) = false := by simpa using k4
     have KF := HD (show kindB x = false by simp only [kindB, if_neg k1, if_neg k2, if_neg k3, if_neg k4])
     clear k1 k2 k3 k4
     go_wp2_with fail
     go_ret
     exact ⟨ret_bool KF.out.symm, bz⟩
set_option maxHeartbeats 4000000 in
theorem f85_f1 (x : Lk) (w : World) (hs : InLk w x) (h1 : nameB x.name = false) : Calls Tryz.prog 85 #[x.val] w fun e w' => e = .returned (.bool false) /\ Bl w w' := by
 go_enter Tryz.func85, Tryz.ntmps85
 go_wp2_with fail
 obtain ⟨W0, hW0⟩ : ∃ X, X = (w.alloc (Obj.cells #[.string x.name, .string x.src, .string x.dst, .int .i64 x.kind, .int .i64 x.len, .int .i64 x.up, .int .i64 x.down, .string x.sec, .int .i64 x.wid, .int .i64 x.hgt, x.curve.val] 45)) := ⟨_, rfl⟩
 have q0 : W0.cell? ⟨w.heap.size, 0, none⟩ = some (.string x.name) := by rw [hW0]; simp [go_sem]
 have q1 : W0.cell? ⟨w.heap.size, 1, none⟩ = some (.string x.src) := by rw [hW0]; simp [go_sem]
 have q2 : W0.cell? ⟨w.heap.size, 2, none⟩ = some (.string x.dst) := by rw [hW0]; simp [go_sem]
 have q3 : W0.cell? ⟨w.heap.size, 3, none⟩ = some (.int .i64 x.kind) := by rw [hW0]; simp [go_sem]
 have q4 : W0.cell? ⟨w.heap.size, 4, none⟩ = some (.int .i64 x.len) := by rw [hW0]; simp [go_sem]
 have q5 : W0.cell? ⟨w.heap.size, 5, none⟩ = some (.int .i64 x.up) := by rw [hW0]; simp [go_sem]
 have q6 : W0.cell? ⟨w.heap.size, 6, none⟩ = some (.int .i64 x.down) := by rw [hW0]; simp [go_sem]
 have q7 : W0.cell? ⟨w.heap.size, 7, none⟩ = some (.string x.sec) := by rw [hW0]; simp [go_sem]
 have q8 : W0.cell? ⟨w.heap.size, 8, none⟩ = some (.int .i64 x.wid) := by rw [hW0]; simp [go_sem]
 have q9 : W0.cell? ⟨w.heap.size, 9, none⟩ = some (.int .i64 x.hgt) := by rw [hW0]; simp [go_sem]
 have q10 : W0.cell? ⟨w.heap.size, 10, none⟩ = some (x.curve.val) := by rw [hW0]; simp [go_sem]
 have hB0 : Bl w W0 := by rw [hW0]; exact bz
 have hz0 : w.heap.size < W0.heap.size := by rw [hW0]; simp
 rw [<- hW0]
 clear hW0
 have p0 : ∀ y : Later W0, y.at'.cell? ⟨w.heap.size, 0, none⟩ = some (.string x.name) := fun y => y.keep q0
 have p1 : ∀ y : Later W0, y.at'.cell? ⟨w.heap.size, 1, none⟩ = some (.string x.src) := fun y => y.keep q1
 have p2 : ∀ y : Later W0, y.at'.cell? ⟨w.heap.size, 2, none⟩ = some (.string x.dst) := fun y => y.keep q2
 have p3 : ∀ y : Later W0, y.at'.cell? ⟨w.heap.size, 3, none⟩ = some (.int .i64 x.kind) := fun y => y.keep q3
 have p4 : ∀ y : Later W0, y.at'.cell? ⟨w.heap.size, 4, none⟩ = some (.int .i64 x.len) := fun y => y.keep q4
 have p5 : ∀ y : Later W0, y.at'.cell? ⟨w.heap.size, 5, none⟩ = some (.int .i64 x.up) := fun y => y.keep q5
 have p6 : ∀ y : Later W0, y.at'.cell? ⟨w.heap.size, 6, none⟩ = some (.int .i64 x.down) := fun y => y.keep q6
 have p7 : ∀ y : Later W0, y.at'.cell? ⟨w.heap.size, 7, none⟩ = some (.string x.sec) := fun y => y.keep q7
 have p8 : ∀ y : Later W0, y.at'.cell? ⟨w.heap.size, 8, none⟩ = some (.int .i64 x.wid) := fun y => y.keep q8
 have p9 : ∀ y : Later W0, y.at'.cell? ⟨w.heap.size, 9, none⟩ = some (.int .i64 x.hgt) := fun y => y.keep q9
 have p10 : ∀ y : Later W0, y.at'.cell? ⟨w.heap.size, 10, none⟩ = some (x.curve.val) := fun y => y.keep q10
 clear q0 q1 q2 q3 q4 q5 q6 q7 q8 q9 q10
 refine wp_region_later (by kernel_rfl) (by kernel_rfl) ?_
 repeat (go_big_quiet_step ((go_at_call 100; (with_reducible exact Calls.later_same (name_c _ _)))))
 refine wpQuiet_nil ?_
 intro w' hW
 have hBW : Bl w w' := Bl.trans hB0 hW
 clear p0 p1 p2 p3 p4 p5 p6 p7 p8 p9 p10
 go_wp2_with fail
 go_ret
 exact ⟨ret_bool rfl, bz⟩
set_option maxHeartbeats 4000000 in
theorem f85_f2 (x : Lk) (w : World) (hs : InLk w x) (h1 : nameB x.name = true) (h2 : nameB x.src = false) : Calls Tryz.prog 85 #[x.val] w fun e w' => e = .returned (.bool false) /\ Bl w w' := by
 go_enter Tryz.func85, Tryz.ntmps85
 go_wp2_with fail
 obtain ⟨W0, hW0⟩ : ∃ X, X = (w.alloc (Obj.cells #[.string x.name, .string x.src, .string x.dst, .int .i64 x.kind, .int .i64 x.len, .int .i64 x.up, .int .i64 x.down, .string x.sec, .int .i64 x.wid, .int .i64 x.hgt, x.curve.val] 45)) := ⟨_, rfl⟩
 have q0 : W0.cell? ⟨w.heap.size, 0, none⟩ = some (.string x.name) := by rw [hW0]; simp [go_sem]
 have q1 : W0.cell? ⟨w.heap.size, 1, none⟩ = some (.string x.src) := by rw [hW0]; simp [go_sem]
 have q2 : W0.cell? ⟨w.heap.size, 2, none⟩ = some (.string x.dst) := by rw [hW0]; simp [go_sem]
 have q3 : W0.cell? ⟨w.heap.size, 3, none⟩ = some (.int .i64 x.kind) := by rw [hW0]; simp [go_sem]
 have q4 : W0.cell? ⟨w.heap.size, 4, none⟩ = some (.int .i64 x.len) := by rw [hW0]; simp [go_sem]
 have q5 : W0.cell? ⟨w.heap.size, 5, none⟩ = some (.int .i64 x.up) := by rw [hW0]; simp [go_sem]
 have q6 : W0.cell? ⟨w.heap.size, 6, none⟩ = some (.int .i64 x.down) := by rw [hW0]; simp [go_sem]
 have q7 : W0.cell? ⟨w.heap.size, 7, none⟩ = some (.string x.sec) := by rw [hW0]; simp [go_sem]
 have q8 : W0.cell? ⟨w.heap.size, 8, none⟩ = some (.int .i64 x.wid) := by rw [hW0]; simp [go_sem]
 have q9 : W0.cell? ⟨w.heap.size, 9, none⟩ = some (.int .i64 x.hgt) := by rw [hW0]; simp [go_sem]
 have q10 : W0.cell? ⟨w.heap.size, 10, none⟩ = some (x.curve.val) := by rw [hW0]; simp [go_sem]
 have hB0 : Bl w W0 := by rw [hW0]; exact bz
 have hz0 : w.heap.size < W0.heap.size := by rw [hW0]; simp
 rw [<- hW0]
 clear hW0
 have p0 : ∀ y : Later W0, y.at'.cell? ⟨w.heap.size, 0, none⟩ = some (.string x.name) := fun y => y.keep q0
 have p1 : ∀ y : Later W0, y.at'.cell? ⟨w.heap.size, 1, none⟩ = some (.string x.src) := fun y => y.keep q1
 have p2 : ∀ y : Later W0, y.at'.cell? ⟨w.heap.size, 2, none⟩ = some (.string x.dst) := fun y => y.keep q2
 have p3 : ∀ y : Later W0, y.at'.cell? ⟨w.heap.size, 3, none⟩ = some (.int .i64 x.kind) := fun y => y.keep q3
 have p4 : ∀ y : Later W0, y.at'.cell? ⟨w.heap.size, 4, none⟩ = some (.int .i64 x.len) := fun y => y.keep q4
 have p5 : ∀ y : Later W0, y.at'.cell? ⟨w.heap.size, 5, none⟩ = some (.int .i64 x.up) := fun y => y.keep q5
 have p6 : ∀ y : Later W0, y.at'.cell? ⟨w.heap.size, 6, none⟩ = some (.int .i64 x.down) := fun y => y.keep q6
 have p7 : ∀ y : Later W0, y.at'.cell? ⟨w.heap.size, 7, none⟩ = some (.string x.sec) := fun y => y.keep q7
 have p8 : ∀ y : Later W0, y.at'.cell? ⟨w.heap.size, 8, none⟩ = some (.int .i64 x.wid) := fun y => y.keep q8
 have p9 : ∀ y : Later W0, y.at'.cell? ⟨w.heap.size, 9, none⟩ = some (.int .i64 x.hgt) := fun y => y.keep q9
 have p10 : ∀ y : Later W0, y.at'.cell? ⟨w.heap.size, 10, none⟩ = some (x.curve.val) := fun y => y.keep q10
 clear q0 q1 q2 q3 q4 q5 q6 q7 q8 q9 q10
 refine wp_region_later (by kernel_rfl) (by kernel_rfl) ?_
 repeat (go_big_quiet_step ((go_at_call 100; (with_reducible exact Calls.later_same (name_c _ _)))))
 refine wpQuiet_nil ?_
 intro w' hW
 have hBW : Bl w w' := Bl.trans hB0 hW
 clear p0 p1 p2 p3 p4 p5 p6 p7 p8 p9 p10
 go_wp2_with fail
 go_ret
 exact ⟨ret_bool rfl, bz⟩
set_option maxHeartbeats 4000000 in
theorem f85_f3 (x : Lk) (w : World) (hs : InLk w x) (h1 : nameB x.name = true) (h2 : nameB x.src = true) (h3 : nameB x.dst = false) : Calls Tryz.prog 85 #[x.val] w fun e w' => e = .returned (.bool false) /\ Bl w w' := by
 go_enter Tryz.func85, Tryz.ntmps85
 go_wp2_with fail
 obtain ⟨W0, hW0⟩ : ∃ X, X = (w.alloc (Obj.cells #[.string x.name, .string x.src, .string x.dst, .int .i64 x.kind, .int .i64 x.len, .int .i64 x.up, .int .i64 x.down, .string x.sec, .int .i64 x.wid, .int .i64 x.hgt, x.curve.val] 45)) := ⟨_, rfl⟩
 have q0 : W0.cell? ⟨w.heap.size, 0, none⟩ = some (.string x.name) := by rw [hW0]; simp [go_sem]
 have q1 : W0.cell? ⟨w.heap.size, 1, none⟩ = some (.string x.src) := by rw [hW0]; simp [go_sem]
 have q2 : W0.cell? ⟨w.heap.size, 2, none⟩ = some (.string x.dst) := by rw [hW0]; simp [go_sem]
 have q3 : W0.cell? ⟨w.heap.size, 3, none⟩ = some (.int .i64 x.kind) := by rw [hW0]; simp [go_sem]
 have q4 : W0.cell? ⟨w.heap.size, 4, none⟩ = some (.int .i64 x.len) := by rw [hW0]; simp [go_sem]
 have q5 : W0.cell? ⟨w.heap.size, 5, none⟩ = some (.int .i64 x.up) := by rw [hW0]; simp [go_sem]
 have q6 : W0.cell? ⟨w.heap.size, 6, none⟩ = some (.int .i64 x.down) := by rw [hW0]; simp [go_sem]
 have q7 : W0.cell? ⟨w.heap.size, 7, none⟩ = some (.string x.sec) := by rw [hW0]; simp [go_sem]
 have q8 : W0.cell? ⟨w.heap.size, 8, none⟩ = some (.int .i64 x.wid) := by rw [hW0]; simp [go_sem]
 have q9 : W0.cell? ⟨w.heap.size, 9, none⟩ = some (.int .i64 x.hgt) := by rw [hW0]; simp [go_sem]
 have q10 : W0.cell? ⟨w.heap.size, 10, none⟩ = some (x.curve.val) := by rw [hW0]; simp [go_sem]
 have hB0 : Bl w W0 := by rw [hW0]; exact bz
 have hz0 : w.heap.size < W0.heap.size := by rw [hW0]; simp
 rw [<- hW0]
 clear hW0
 have p0 : ∀ y : Later W0, y.at'.cell? ⟨w.heap.size, 0, none⟩ = some (.string x.name) := fun y => y.keep q0
 have p1 : ∀ y : Later W0, y.at'.cell? ⟨w.heap.size, 1, none⟩ = some (.string x.src) := fun y => y.keep q1
 have p2 : ∀ y : Later W0, y.at'.cell? ⟨w.heap.size, 2, none⟩ = some (.string x.dst) := fun y => y.keep q2
 have p3 : ∀ y : Later W0, y.at'.cell? ⟨w.heap.size, 3, none⟩ = some (.int .i64 x.kind) := fun y => y.keep q3
 have p4 : ∀ y : Later W0, y.at'.cell? ⟨w.heap.size, 4, none⟩ = some (.int .i64 x.len) := fun y => y.keep q4
 have p5 : ∀ y : Later W0, y.at'.cell? ⟨w.heap.size, 5, none⟩ = some (.int .i64 x.up) := fun y => y.keep q5
 have p6 : ∀ y : Later W0, y.at'.cell? ⟨w.heap.size, 6, none⟩ = some (.int .i64 x.down) := fun y => y.keep q6
 have p7 : ∀ y : Later W0, y.at'.cell? ⟨w.heap.size, 7, none⟩ = some (.string x.sec) := fun y => y.keep q7
 have p8 : ∀ y : Later W0, y.at'.cell? ⟨w.heap.size, 8, none⟩ = some (.int .i64 x.wid) := fun y => y.keep q8
 have p9 : ∀ y : Later W0, y.at'.cell? ⟨w.heap.size, 9, none⟩ = some (.int .i64 x.hgt) := fun y => y.keep q9
 have p10 : ∀ y : Later W0, y.at'.cell? ⟨w.heap.size, 10, none⟩ = some (x.curve.val) := fun y => y.keep q10
 clear q0 q1 q2 q3 q4 q5 q6 q7 q8 q9 q10
 refine wp_region_later (by kernel_rfl) (by kernel_rfl) ?_
 repeat (go_big_quiet_step ((go_at_call 100; (with_reducible exact Calls.later_same (name_c _ _)))))
 refine wpQuiet_nil ?_
 intro w' hW
 have hBW : Bl w w' := Bl.trans hB0 hW
 clear p0 p1 p2 p3 p4 p5 p6 p7 p8 p9 p10
 go_wp2_with fail
 go_ret
 exact ⟨ret_bool rfl, bz⟩
set_option maxHeartbeats 4000000 in
theorem f85_f4 (x : Lk) (w : World) (hs : InLk w x) (h1 : nameB x.name = true) (h2 : nameB x.src = true) (h3 : nameB x.dst = true) (h4 : (x.src == x.dst) = true) : Calls Tryz.prog 85 #[x.val] w fun e w' => e = .returned (.bool false) /\ Bl w w' := by
 have h4' : (x.src.toList == x.dst.toList) = true := by rw [<- beq_toListBytes]; exact h4
 have h4'' : x.src.toList = x.dst.toList := by simpa using h4'
 go_enter Tryz.func85, Tryz.ntmps85
 go_wp2_with fail
 obtain ⟨W0, hW0⟩ : ∃ X, X = (w.alloc (Obj.cells #[.string x.name, .string x.src, .string x.dst, .int .i64 x.kind, .int .i64 x.len, .int .i64 x.up, .int .i64 x.down, .string x.sec, .int .i64 x.wid, .int .i64 x.hgt, x.curve.val] 45)) := ⟨_, rfl⟩
 have q0 : W0.cell? ⟨w.heap.size, 0, none⟩ = some (.string x.name) := by rw [hW0]; simp [go_sem]
 have q1 : W0.cell? ⟨w.heap.size, 1, none⟩ = some (.string x.src) := by rw [hW0]; simp [go_sem]
 have q2 : W0.cell? ⟨w.heap.size, 2, none⟩ = some (.string x.dst) := by rw [hW0]; simp [go_sem]
 have q3 : W0.cell? ⟨w.heap.size, 3, none⟩ = some (.int .i64 x.kind) := by rw [hW0]; simp [go_sem]
 have q4 : W0.cell? ⟨w.heap.size, 4, none⟩ = some (.int .i64 x.len) := by rw [hW0]; simp [go_sem]
 have q5 : W0.cell? ⟨w.heap.size, 5, none⟩ = some (.int .i64 x.up) := by rw [hW0]; simp [go_sem]
 have q6 : W0.cell? ⟨w.heap.size, 6, none⟩ = some (.int .i64 x.down) := by rw [hW0]; simp [go_sem]
 have q7 : W0.cell? ⟨w.heap.size, 7, none⟩ = some (.string x.sec) := by rw [hW0]; simp [go_sem]
 have q8 : W0.cell? ⟨w.heap.size, 8, none⟩ = some (.int .i64 x.wid) := by rw [hW0]; simp [go_sem]
 have q9 : W0.cell? ⟨w.heap.size, 9, none⟩ = some (.int .i64 x.hgt) := by rw [hW0]; simp [go_sem]
 have q10 : W0.cell? ⟨w.heap.size, 10, none⟩ = some (x.curve.val) := by rw [hW0]; simp [go_sem]
 have hB0 : Bl w W0 := by rw [hW0]; exact bz
 have hz0 : w.heap.size < W0.heap.size := by rw [hW0]; simp
 rw [<- hW0]
 clear hW0
 have p0 : ∀ y : Later W0, y.at'.cell? ⟨w.heap.size, 0, none⟩ = some (.string x.name) := fun y => y.keep q0
 have p1 : ∀ y : Later W0, y.at'.cell? ⟨w.heap.size, 1, none⟩ = some (.string x.src) := fun y => y.keep q1
 have p2 : ∀ y : Later W0, y.at'.cell? ⟨w.heap.size, 2, none⟩ = some (.string x.dst) := fun y => y.keep q2
 have p3 : ∀ y : Later W0, y.at'.cell? ⟨w.heap.size, 3, none⟩ = some (.int .i64 x.kind) := fun y => y.keep q3
 have p4 : ∀ y : Later W0, y.at'.cell? ⟨w.heap.size, 4, none⟩ = some (.int .i64 x.len) := fun y => y.keep q4
 have p5 : ∀ y : Later W0, y.at'.cell? ⟨w.heap.size, 5, none⟩ = some (.int .i64 x.up) := fun y => y.keep q5
 have p6 : ∀ y : Later W0, y.at'.cell? ⟨w.heap.size, 6, none⟩ = some (.int .i64 x.down) := fun y => y.keep q6
 have p7 : ∀ y : Later W0, y.at'.cell? ⟨w.heap.size, 7, none⟩ = some (.string x.sec) := fun y => y.keep q7
 have p8 : ∀ y : Later W0, y.at'.cell? ⟨w.heap.size, 8, none⟩ = some (.int .i64 x.wid) := fun y => y.keep q8
 have p9 : ∀ y : Later W0, y.at'.cell? ⟨w.heap.size, 9, none⟩ = some (.int .i64 x.hgt) := fun y => y.keep q9
 have p10 : ∀ y : Later W0, y.at'.cell? ⟨w.heap.size, 10, none⟩ = some (x.curve.val) := fun y => y.keep q10
 clear q0 q1 q2 q3 q4 q5 q6 q7 q8 q9 q10
 refine wp_region_later (by kernel_rfl) (by kernel_rfl) ?_
 repeat (go_big_quiet_step ((go_at_call 100; (with_reducible exact Calls.later_same (name_c _ _)))))
 refine wpQuiet_nil ?_
 intro w' hW
 have hBW : Bl w w' := Bl.trans hB0 hW
 clear p0 p1 p2 p3 p4 p5 p6 p7 p8 p9 p10
 go_wp2_with fail
 go_ret
 exact ⟨ret_bool rfl, bz⟩
set_option maxHeartbeats 4000000 in
theorem f85_f5 (x : Lk) (w : World) (hs : InLk w x) (h1 : nameB x.name = true) (h2 : nameB x.src = true) (h3 : nameB x.dst = true) (h4 : (x.src == x.dst) = false) (h5 : levB x.up = false) : Calls Tryz.prog 85 #[x.val] w fun e w' => e = .returned (.bool false) /\ Bl w w' := by
 have h4' : (x.src.toList == x.dst.toList) = false := by rw [<- beq_toListBytes]; exact h4
 have h4'' : ¬ x.src.toList = x.dst.toList := by simpa using h4'
 go_enter Tryz.func85, Tryz.ntmps85
 go_wp2_with fail
 obtain ⟨W0, hW0⟩ : ∃ X, X = (w.alloc (Obj.cells #[.string x.name, .string x.src, .string x.dst, .int .i64 x.kind, .int .i64 x.len, .int .i64 x.up, .int .i64 x.down, .string x.sec, .int .i64 x.wid, .int .i64 x.hgt, x.curve.val] 45)) := ⟨_, rfl⟩
 have q0 : W0.cell? ⟨w.heap.size, 0, none⟩ = some (.string x.name) := by rw [hW0]; simp [go_sem]
 have q1 : W0.cell? ⟨w.heap.size, 1, none⟩ = some (.string x.src) := by rw [hW0]; simp [go_sem]
 have q2 : W0.cell? ⟨w.heap.size, 2, none⟩ = some (.string x.dst) := by rw [hW0]; simp [go_sem]
 have q3 : W0.cell? ⟨w.heap.size, 3, none⟩ = some (.int .i64 x.kind) := by rw [hW0]; simp [go_sem]
 have q4 : W0.cell? ⟨w.heap.size, 4, none⟩ = some (.int .i64 x.len) := by rw [hW0]; simp [go_sem]
 have q5 : W0.cell? ⟨w.heap.size, 5, none⟩ = some (.int .i64 x.up) := by rw [hW0]; simp [go_sem]
 have q6 : W0.cell? ⟨w.heap.size, 6, none⟩ = some (.int .i64 x.down) := by rw [hW0]; simp [go_sem]
 have q7 : W0.cell? ⟨w.heap.size, 7, none⟩ = some (.string x.sec) := by rw [hW0]; simp [go_sem]
 have q8 : W0.cell? ⟨w.heap.size, 8, none⟩ = some (.int .i64 x.wid) := by rw [hW0]; simp [go_sem]
 have q9 : W0.cell? ⟨w.heap.size, 9, none⟩ = some (.int .i64 x.hgt) := by rw [hW0]; simp [go_sem]
 have q10 : W0.cell? ⟨w.heap.size, 10, none⟩ = some (x.curve.val) := by rw [hW0]; simp [go_sem]
 have hB0 : Bl w W0 := by rw [hW0]; exact bz
 have hz0 : w.heap.size < W0.heap.size := by rw [hW0]; simp
 rw [<- hW0]
 clear hW0
 refine wp_region_held_drew (S := (fun w' => Bl W0 w' /\ w'.cell? ⟨w.heap.size, 0, none⟩ = some (.string x.name) /\ w'.cell? ⟨w.heap.size, 1, none⟩ = some (.string x.src) /\ w'.cell? ⟨w.heap.size, 2, none⟩ = some (.string x.dst) /\ w'.cell? ⟨w.heap.size, 3, none⟩ = some (.int .i64 x.kind) /\ w'.cell? ⟨w.heap.size, 4, none⟩ = some (.int .i64 x.len) /\ w'.cell? ⟨w.heap.size, 5, none⟩ = some (.int .i64 x.up) /\ w'.cell? ⟨w.heap.size, 6, none⟩ = some (.int .i64 x.down) /\ w'.cell? ⟨w.heap.size, 7, none⟩ = some (.string x.sec) /\ w'.cell? ⟨w.heap.size, 8, none⟩ = some (.int .i64 x.wid) /\ w'.cell? ⟨w.heap.size, 9, none⟩ = some (.int .i64 x.hgt) /\ w'.cell? ⟨w.heap.size, 10, none⟩ = some (x.curve.val))) (by kernel_rfl) ?_ (fun hHeld => ?_)
 ·(try dsimp only)
  (refine ⟨bz, Bl.keep (a := W0) bz q0, Bl.keep (a := W0) bz q1, Bl.keep (a := W0) bz q2, Bl.keep (a := W0) bz q3, Bl.keep (a := W0) bz q4, Bl.keep (a := W0) bz q5, Bl.keep (a := W0) bz q6, Bl.keep (a := W0) bz q7, Bl.keep (a := W0) bz q8, Bl.keep (a := W0) bz q9, Bl.keep (a := W0) bz q10⟩)
 refine tk 0 ?_
 (try simp only [Act.put, lA, lB, lC])
 refine tk 1 ?_
 (try simp only [Act.put, lA, lB, lC])
 refine wpAnyH_ready (rs := [2]) (by kernel_rfl) (by simp) ?_
 refine tc (fun K hK => ?_) ?_
 ·(go_simp; (first | (go_at_call 100; refine (name_c _ _).mono ?_; rintro e w' ⟨rfl, rfl⟩) | (go_at_call 123; refine (lev1_c _ _ _ x.up (by omega) (by simp [go_sem])).mono ?_; rintro e w' ⟨rfl, hwl⟩)); (try (go_wp2_with fail)))
  refine hK.out _ _ ?_ (fun hHeld => ?_)
  ·(try dsimp only)
   (refine ⟨bz, Bl.keep (a := W0) bz q0, Bl.keep (a := W0) bz q1, Bl.keep (a := W0) bz q2, Bl.keep (a := W0) bz q3, Bl.keep (a := W0) bz q4, Bl.keep (a := W0) bz q5, Bl.keep (a := W0) bz q6, Bl.keep (a := W0) bz q7, Bl.keep (a := W0) bz q8, Bl.keep (a := W0) bz q9, Bl.keep (a := W0) bz q10⟩)
  clear hK K
  (try simp only [Act.put, lA, lB, lC])
  refine tk 3 ?_
  (try simp only [Act.put, lA, lB, lC])
  refine tk 4 ?_
  (try simp only [Act.put, lA, lB, lC])
  refine tk 5 ?_
  (try simp only [Act.put, lA, lB, lC])
  refine tk 6 ?_
  (try simp only [Act.put, lA, lB, lC])
  refine wpAnyH_ready (rs := [7]) (by kernel_rfl) (by simp) ?_
  refine tc (fun K hK => ?_) ?_
  ·(go_simp; (first | (go_at_call 100; refine (name_c _ _).mono ?_; rintro e w' ⟨rfl, rfl⟩) | (go_at_call 123; refine (lev1_c _ _ _ x.up (by omega) (by simp [go_sem])).mono ?_; rintro e w' ⟨rfl, hwl⟩)); (try (go_wp2_with fail)))
   refine hK.out _ _ ?_ (fun hHeld => ?_)
   ·(try dsimp only)
    (refine ⟨bz, Bl.keep (a := W0) bz q0, Bl.keep (a := W0) bz q1, Bl.keep (a := W0) bz q2, Bl.keep (a := W0) bz q3, Bl.keep (a := W0) bz q4, Bl.keep (a := W0) bz q5, Bl.keep (a := W0) bz q6, Bl.keep (a := W0) bz q7, Bl.keep (a := W0) bz q8, Bl.keep (a := W0) bz q9, Bl.keep (a := W0) bz q10⟩)
   clear hK K
   (try simp only [Act.put, lA, lB, lC])
   refine tk 8 ?_
   (try simp only [Act.put, lA, lB, lC])
   refine tk 9 ?_
   (try simp only [Act.put, lA, lB, lC])
   refine tk 10 ?_
   (try simp only [Act.put, lA, lB, lC])
   refine tk 11 ?_
   (try simp only [Act.put, lA, lB, lC])
   refine tk 12 ?_
   (try simp only [Act.put, lA, lB, lC])
   refine wpAnyH_ready (rs := [13]) (by kernel_rfl) (by simp) ?_
   refine tc (fun K hK => ?_) ?_
   ·(go_simp; (first | (go_at_call 100; refine (name_c _ _).mono ?_; rintro e w' ⟨rfl, rfl⟩) | (go_at_call 123; refine (lev1_c _ _ _ x.up (by omega) (by simp [go_sem])).mono ?_; rintro e w' ⟨rfl, hwl⟩)); (try (go_wp2_with fail)))
    refine hK.out _ _ ?_ (fun hHeld => ?_)
    ·(try dsimp only)
     (refine ⟨bz, Bl.keep (a := W0) bz q0, Bl.keep (a := W0) bz q1, Bl.keep (a := W0) bz q2, Bl.keep (a := W0) bz q3, Bl.keep (a := W0) bz q4, Bl.keep (a := W0) bz q5, Bl.keep (a := W0) bz q6, Bl.keep (a := W0) bz q7, Bl.keep (a := W0) bz q8, Bl.keep (a := W0) bz q9, Bl.keep (a := W0) bz q10⟩)
    clear hK K
    (try simp only [Act.put, lA, lB, lC])
    refine tk 14 ?_
    (try simp only [Act.put, lA, lB, lC])
    refine tk 15 ?_
    (try simp only [Act.put, lA, lB, lC])
    refine tk 16 ?_
    (try simp only [Act.put, lA, lB, lC])
    refine tk 17 ?_
    (try simp only [Act.put, lA, lB, lC])
    refine tk 18 ?_
    (try simp only [Act.put, lA, lB, lC])
    refine tk 19 ?_
    (try simp only [Act.put, lA, lB, lC])
    refine tk 20 ?_
    (try simp only [Act.put, lA, lB, lC])
    refine tk 21 ?_
    (try simp only [Act.put, lA, lB, lC])
    refine tk 22 ?_
    (try simp only [Act.put, lA, lB, lC])
    refine tk 23 ?_
    (try simp only [Act.put, lA, lB, lC])
    refine tk 24 ?_
    (try simp only [Act.put, lA, lB, lC])
    refine tk 25 ?_
    (try simp only [Act.put, lA, lB, lC])
    refine wpAnyH_ready (rs := [26]) (by kernel_rfl) (by simp) ?_
    refine tc (fun K hK => ?_) ?_
    ·go_simp
     refine hK.out _ _ ?_ (fun hHeld => ?_)
     ·(try dsimp only)
      (refine ⟨bz, Bl.keep (a := W0) bz q0, Bl.keep (a := W0) bz q1, Bl.keep (a := W0) bz q2, Bl.keep (a := W0) bz q3, Bl.keep (a := W0) bz q4, Bl.keep (a := W0) bz q5, Bl.keep (a := W0) bz q6, Bl.keep (a := W0) bz q7, Bl.keep (a := W0) bz q8, Bl.keep (a := W0) bz q9, Bl.keep (a := W0) bz q10⟩)
     clear hK K
     (try simp only [Act.put, lA, lB, lC])
     refine wpAnyH_ready (rs := [27]) (by kernel_rfl) (by simp) ?_
     refine tc (fun K hK => ?_) ?_
     ·(go_simp; (first | (go_at_call 100; refine (name_c _ _).mono ?_; rintro e w' ⟨rfl, rfl⟩) | (go_at_call 123; refine (lev1_c _ _ _ x.up (by omega) (by simp [go_sem])).mono ?_; rintro e w' ⟨rfl, hwl⟩)); (try (go_wp2_with fail)))
      refine hK.out _ _ ?_ (fun hHeld => ?_)
      ·(try dsimp only)
       (refine ⟨bz, Bl.keep (a := W0) bz q0, Bl.keep (a := W0) bz q1, Bl.keep (a := W0) bz q2, Bl.keep (a := W0) bz q3, Bl.keep (a := W0) bz q4, Bl.keep (a := W0) bz q5, Bl.keep (a := W0) bz q6, Bl.keep (a := W0) bz q7, Bl.keep (a := W0) bz q8, Bl.keep (a := W0) bz q9, Bl.keep (a := W0) bz q10⟩)
      clear hK K
      (try simp only [Act.put, lA, lB, lC])
      refine tk 28 ?_
      (try simp only [Act.put, lA, lB, lC])
      refine tk 29 ?_
      (try simp only [Act.put, lA, lB, lC])
      refine tk 30 ?_
      (try simp only [Act.put, lA, lB, lC])
      refine tu 31 ?_
      (try simp only [Act.put, lA, lB, lC])
      refine tu 32 ?_
      (try simp only [Act.put, lA, lB, lC])
      refine tu 33 ?_
      (try simp only [Act.put, lA, lB, lC])
      refine tu 34 ?_
      (try simp only [Act.put, lA, lB, lC])
      refine tu 35 ?_
      (try simp only [Act.put, lA, lB, lC])
      refine tk 36 ?_
      (try simp only [Act.put, lA, lB, lC])
      refine wpAnyH_done (by kernel_rfl) ?_ _
      have hS : Bl W0 w' /\ w'.cell? ⟨w.heap.size, 0, none⟩ = some (.string x.name) /\ w'.cell? ⟨w.heap.size, 1, none⟩ = some (.string x.src) /\ w'.cell? ⟨w.heap.size, 2, none⟩ = some (.string x.dst) /\ w'.cell? ⟨w.heap.size, 3, none⟩ = some (.int .i64 x.kind) /\ w'.cell? ⟨w.heap.size, 4, none⟩ = some (.int .i64 x.len) /\ w'.cell? ⟨w.heap.size, 5, none⟩ = some (.int .i64 x.up) /\ w'.cell? ⟨w.heap.size, 6, none⟩ = some (.int .i64 x.down) /\ w'.cell? ⟨w.heap.size, 7, none⟩ = some (.string x.sec) /\ w'.cell? ⟨w.heap.size, 8, none⟩ = some (.int .i64 x.wid) /\ w'.cell? ⟨w.heap.size, 9, none⟩ = some (.int .i64 x.hgt) /\ w'.cell? ⟨w.heap.size, 10, none⟩ = some (x.curve.val) := by assumption
      have hBW : Bl w w' := Bl.trans hB0 hS.1
      clear hS
      go_wp2_with fail
      go_ret
      exact ⟨ret_bool rfl, bz⟩
     exact AllReadyH.nil
    exact AllReadyH.nil
   exact AllReadyH.nil
  exact AllReadyH.nil
 exact AllReadyH.nil
set_option maxHeartbeats 4000000 in
theorem f85_f6 (x : Lk) (w : World) (hs : InLk w x) (h1 : nameB x.name = true) (h2 : nameB x.src = true) (h3 : nameB x.dst = true) (h4 : (x.src == x.dst) = false) (h5 : levB x.up = true) (h6 : sameB x (plainL x) = false) : Calls Tryz.prog 85 #[x.val] w fun e w' => e = .returned (.bool false) /\ Bl w w' := by
 have h4' : (x.src.toList == x.dst.toList) = false := by rw [<- beq_toListBytes]; exact h4
 have h4'' : ¬ x.src.toList = x.dst.toList := by simpa using h4'
 go_enter Tryz.func85, Tryz.ntmps85
 go_wp2_with fail
 obtain ⟨W0, hW0⟩ : ∃ X, X = (w.alloc (Obj.cells #[.string x.name, .string x.src, .string x.dst, .int .i64 x.kind, .int .i64 x.len, .int .i64 x.up, .int .i64 x.down, .string x.sec, .int .i64 x.wid, .int .i64 x.hgt, x.curve.val] 45)) := ⟨_, rfl⟩
 have q0 : W0.cell? ⟨w.heap.size, 0, none⟩ = some (.string x.name) := by rw [hW0]; simp [go_sem]
 have q1 : W0.cell? ⟨w.heap.size, 1, none⟩ = some (.string x.src) := by rw [hW0]; simp [go_sem]
 have q2 : W0.cell? ⟨w.heap.size, 2, none⟩ = some (.string x.dst) := by rw [hW0]; simp [go_sem]
 have q3 : W0.cell? ⟨w.heap.size, 3, none⟩ = some (.int .i64 x.kind) := by rw [hW0]; simp [go_sem]
 have q4 : W0.cell? ⟨w.heap.size, 4, none⟩ = some (.int .i64 x.len) := by rw [hW0]; simp [go_sem]
 have q5 : W0.cell? ⟨w.heap.size, 5, none⟩ = some (.int .i64 x.up) := by rw [hW0]; simp [go_sem]
 have q6 : W0.cell? ⟨w.heap.size, 6, none⟩ = some (.int .i64 x.down) := by rw [hW0]; simp [go_sem]
 have q7 : W0.cell? ⟨w.heap.size, 7, none⟩ = some (.string x.sec) := by rw [hW0]; simp [go_sem]
 have q8 : W0.cell? ⟨w.heap.size, 8, none⟩ = some (.int .i64 x.wid) := by rw [hW0]; simp [go_sem]
 have q9 : W0.cell? ⟨w.heap.size, 9, none⟩ = some (.int .i64 x.hgt) := by rw [hW0]; simp [go_sem]
 have q10 : W0.cell? ⟨w.heap.size, 10, none⟩ = some (x.curve.val) := by rw [hW0]; simp [go_sem]
 have hB0 : Bl w W0 := by rw [hW0]; exact bz
 have hz0 : w.heap.size < W0.heap.size := by rw [hW0]; simp
 rw [<- hW0]
 clear hW0
 first | (go_region_held3 (fun w' => Bl W0 w' /\ w'.cell? ⟨w.heap.size, 0, none⟩ = some (.string x.name) /\ w'.cell? ⟨w.heap.size, 1, none⟩ = some (.string x.src) /\ w'.cell? ⟨w.heap.size, 2, none⟩ = some (.string x.dst) /\ w'.cell? ⟨w.heap.size, 3, none⟩ = some (.int .i64 x.kind) /\ w'.cell? ⟨w.heap.size, 4, none⟩ = some (.int .i64 x.len) /\ w'.cell? ⟨w.heap.size, 5, none⟩ = some (.int .i64 x.up) /\ w'.cell? ⟨w.heap.size, 6, none⟩ = some (.int .i64 x.down) /\ w'.cell? ⟨w.heap.size, 7, none⟩ = some (.string x.sec) /\ w'.cell? ⟨w.heap.size, 8, none⟩ = some (.int .i64 x.wid) /\ w'.cell? ⟨w.heap.size, 9, none⟩ = some (.int .i64 x.hgt) /\ w'.cell? ⟨w.heap.size, 10, none⟩ = some (x.curve.val)) (refine ⟨bz, Bl.keep (a := W0) bz q0, Bl.keep (a := W0) bz q1, Bl.keep (a := W0) bz q2, Bl.keep (a := W0) bz q3, Bl.keep (a := W0) bz q4, Bl.keep (a := W0) bz q5, Bl.keep (a := W0) bz q6, Bl.keep (a := W0) bz q7, Bl.keep (a := W0) bz q8, Bl.keep (a := W0) bz q9, Bl.keep (a := W0) bz q10⟩) (first
  | (go_at_call 100; refine (name_c _ _).mono ?_; rintro e w' ⟨rfl, rfl⟩)
  | (go_at_call 123; refine (lev1_c _ _ _ x.up (by omega) (by simp [go_sem])).mono ?_; rintro e w' ⟨rfl, hwl⟩)
  | (go_at_call 127; refine (f127_c x _).mono ?_; rintro e w' ⟨rfl, hwp⟩)
  | (go_at_call 126; refine (same_c x _ (InLk.up hs bz)).mono ?_; rintro e w' ⟨rfl, hws⟩))) | fail
 all_goals
 have hS : Bl W0 w' /\ w'.cell? ⟨w.heap.size, 0, none⟩ = some (.string x.name) /\ w'.cell? ⟨w.heap.size, 1, none⟩ = some (.string x.src) /\ w'.cell? ⟨w.heap.size, 2, none⟩ = some (.string x.dst) /\ w'.cell? ⟨w.heap.size, 3, none⟩ = some (.int .i64 x.kind) /\ w'.cell? ⟨w.heap.size, 4, none⟩ = some (.int .i64 x.len) /\ w'.cell? ⟨w.heap.size, 5, none⟩ = some (.int .i64 x.up) /\ w'.cell? ⟨w.heap.size, 6, none⟩ = some (.int .i64 x.down) /\ w'.cell? ⟨w.heap.size, 7, none⟩ = some (.string x.sec) /\ w'.cell? ⟨w.heap.size, 8, none⟩ = some (.int .i64 x.wid) /\ w'.cell? ⟨w.heap.size, 9, none⟩ = some (.int .i64 x.hgt) /\ w'.cell? ⟨w.heap.size, 10, none⟩ = some (x.curve.val) := by assumption
 have hBW : Bl w w' := Bl.trans hB0 hS.1
 clear hS
 go_wp2_with fail
 go_ret
 exact ⟨ret_bool rfl, bz⟩
theorem f85_c (x : Lk) (w : World) (hs : InLk w x) : Calls Tryz.prog 85 #[x.val] w fun e w' => e = .returned (.bool (linkB x)) /\ Bl w w' := by
 have E : linkB x = (nameB x.name && nameB x.src && nameB x.dst && !(x.src == x.dst) && levB x.up && sameB x (plainL x) && kindB x) := rfl
 rw [E]
 cases h1 : nameB x.name
 ·exact f85_f1 x w hs h1
 cases h2 : nameB x.src
 ·exact f85_f2 x w hs h1 h2
 cases h3 : nameB x.dst
 ·exact f85_f3 x w hs h1 h2 h3
 cases h4 : (x.src == x.dst)
 ·cases h5 : levB x.up
  ·exact f85_f5 x w hs h1 h2 h3 h4 h5
  cases h6 : sameB x (plainL x)
  ·exact f85_f6 x w hs h1 h2 h3 h4 h5 h6
  exact f85_1 x w hs h1 h2 h3 h4 h5 h6
 ·exact f85_f4 x w hs h1 h2 h3 h4
theorem e125 (args : Array Value) (w : World) : (callFunc 125 args).run Tryz.prog w = .ok (.enter 125 args) w := enters_of Tryz.func125 (by kernel_rfl) rfl args w
theorem e130 (args : Array Value) (w : World) : (callFunc 130 args).run Tryz.prog w = .ok (.enter 130 args) w := enters_of Tryz.func130 (by kernel_rfl) rfl args w
theorem f125_c (x : Nd) (q : Nat) (nm : ByteArray) (w : World) (h : w.cell? ⟨q, 0, none⟩ = some (.string nm)) : Calls Tryz.prog 125 #[x.val, .pointer (some ⟨q, 0, none⟩)] w fun e w' => e = .returned (.bool (x.name == nm)) /\ Bl w w' := by
 have hq := cell_lt h
 simp only at hq
 go_enter Tryz.func125, Tryz.ntmps125
 go_wp2_with fail
 go_ret
 exact ⟨ret_bool (beq_toListBytes _ _).symm, bz⟩
theorem f130_c (x : Lk) (q : Nat) (nm : ByteArray) (w : World) (h : w.cell? ⟨q, 0, none⟩ = some (.string nm)) : Calls Tryz.prog 130 #[x.val, .pointer (some ⟨q, 0, none⟩)] w fun e w' => e = .returned (.bool (x.name == nm)) /\ Bl w w' := by
 have hq := cell_lt h
 simp only at hq
 go_enter Tryz.func130, Tryz.ntmps130
 go_wp2_with fail
 go_ret
 exact ⟨ret_bool (beq_toListBytes _ _).symm, bz⟩
def ndIx (n : Net) (nm : ByteArray) : Int := ix (fun y : Nd => y.name == nm) n.nodes.xs
def lkIx (n : Net) (nm : ByteArray) : Int := ix (fun y : Lk => y.name == nm) n.links.xs
theorem f84_c (n : Net) (nm : ByteArray) (w : World) (hs : InNet w n) : Calls Tryz.prog 84 #[n.val, .string nm] w fun e w' => e = .returned (.int .i64 (ndIx n nm)) /\ Bl w w' := by
 have T := HD (fun W (q : Nat) (hb : Bl w W) (hc : W.cell? ⟨q, 0, none⟩ = some (.string nm)) => f22_c n.nodes W.heap.size 125 #[.pointer (some ⟨q, 0, none⟩)] (fun y : Nd => y.name == nm) W (InNet.up hs hb).nodes (fun W' x _ hb' => f125_c x q nm W' (hb'.keep hc)) e125)
 clear hs
 go_enter Tryz.func84, Tryz.ntmps84
 go_wp2_with fail
 refine (T.out _ _ bz (by simp [go_sem])).mono ?_
 rintro e w1 ⟨rfl, hw1⟩
 clear T
 go_wp2_with fail
 go_ret
 exact ⟨rfl, bz⟩
theorem f86_c (n : Net) (nm : ByteArray) (w : World) (hs : InNet w n) : Calls Tryz.prog 86 #[n.val, .string nm] w fun e w' => e = .returned (.int .i64 (lkIx n nm)) /\ Bl w w' := by
 have T := HD (fun W (q : Nat) (hb : Bl w W) (hc : W.cell? ⟨q, 0, none⟩ = some (.string nm)) => f23_c n.links W.heap.size 130 #[.pointer (some ⟨q, 0, none⟩)] (fun y : Lk => y.name == nm) W (InNet.up hs hb).links (fun W' x _ hb' => f130_c x q nm W' (hb'.keep hc)) e130)
 clear hs
 go_enter Tryz.func86, Tryz.ntmps86
 go_wp2_with fail
 refine (T.out _ _ bz (by simp [go_sem])).mono ?_
 rintro e w1 ⟨rfl, hw1⟩
 clear T
 go_wp2_with fail
 go_ret
 exact ⟨rfl, bz⟩
theorem f88_c (n : Net) (i : Int) (w : World) : Calls Tryz.prog 88 #[n.val, .int .i64 i] w fun e w' => e = .returned (.tuple #[.int .i64 (if i < 0 then 0 else i), .int .i64 (if i < 0 then 9 else 0)]) /\ Bl w w' := by
 by_cases h : i < 0
 ·go_enter Tryz.func88, Tryz.ntmps88
  go_wp2_with fail
  exact bodyPost_ret (v := .tuple #[.int .i64 0, .int .i64 9]) (by simp [results, Tryz.results88, go_sem, *]; try exact ⟨rfl, rfl⟩) rfl ⟨by simp [h], bz⟩
 ·go_enter Tryz.func88, Tryz.ntmps88
  go_wp2_with fail
  exact bodyPost_ret (v := .tuple #[.int .i64 i, .int .i64 0]) (by simp [results, Tryz.results88, go_sem, *]; try exact ⟨rfl, rfl⟩) rfl ⟨by simp [h], bz⟩
theorem aside {p : Prop} (h : p) : Aside p := h
def kindAt (n : Net) (i : Int) : Int := (n.nodes.xs[i.toNat]?.map Nd.kind).getD 0
def lkB (n : Net) (x : Lk) : Bool := decide (0 ≤ ndIx n x.src) && decide (0 ≤ ndIx n x.dst) && !(kindAt n (ndIx n x.src) == 3)
def netB (n : Net) : Bool := decide (n.nodes.xs.length ≤ 300) && decide (n.links.xs.length ≤ 400) && decide (∀ (i : Nat) (h : i < n.nodes.xs.length), nodeB n.nodes.xs[i] = true /\ ndIx n n.nodes.xs[i].name = (i : Int)) && decide (∀ (i : Nat) (h : i < n.links.xs.length), linkB n.links.xs[i] = true /\ lkIx n n.links.xs[i].name = (i : Int) /\ lkB n n.links.xs[i] = true)
set_option maxHeartbeats 4000000 in
theorem f54_core (A A2 : Option Addr) (c c2 : Nat) (xs : List Nd) (ls : List Lk) (w : World) (hs : InNet w ⟨⟨A, c, xs⟩, ⟨A2, c2, ls⟩⟩) (NI LI : ByteArray -> Int) (R : Bool)
 (T84 : ∀ W, Bl w W -> ∀ nm, Calls Tryz.prog 84 #[.agg #[.slice A xs.length c, .slice A2 ls.length c2], .string nm] W fun e w' => e = .returned (.int .i64 (NI nm)) /\ Bl W w')
 (T86 : ∀ W, Bl w W -> ∀ nm, Calls Tryz.prog 86 #[.agg #[.slice A xs.length c, .slice A2 ls.length c2], .string nm] W fun e w' => e = .returned (.int .i64 (LI nm)) /\ Bl W w')
 (hNI : ∀ nm, NI nm = -1 \/ ∃ k : Nat, k < xs.length /\ NI nm = (k : Int))
 (F1 : 300 < xs.length -> R = false) (F2 : 400 < ls.length -> R = false)
 (F3 : ∀ k (h : k < xs.length), nodeB xs[k] = false -> R = false) (F4 : ∀ k (h : k < xs.length), NI xs[k].name ≠ (k : Int) -> R = false)
 (F5 : ∀ k (h : k < ls.length), linkB ls[k] = false -> R = false) (F6 : ∀ k (h : k < ls.length), LI ls[k].name ≠ (k : Int) -> R = false)
 (F7 : ∀ k (h : k < ls.length), NI ls[k].src = -1 -> R = false) (F8 : ∀ k (h : k < ls.length), NI ls[k].dst = -1 -> R = false)
 (F9 : ∀ k (h : k < ls.length) m (hm : m < xs.length), NI ls[k].src = (m : Int) -> xs[m].kind = 3 -> R = false)
 (FT : xs.length ≤ 300 -> ls.length ≤ 400 -> (∀ k (h : k < xs.length), nodeB xs[k] = true /\ NI xs[k].name = (k : Int)) -> (∀ k (h : k < ls.length), linkB ls[k] = true /\ LI ls[k].name = (k : Int) /\ NI ls[k].src ≠ -1 /\ NI ls[k].dst ≠ -1 /\ ∀ m (hm : m < xs.length), NI ls[k].src = (m : Int) -> xs[m].kind ≠ 3) -> R = true) :
 Calls Tryz.prog 54 #[.agg #[.slice A xs.length c, .slice A2 ls.length c2]] w fun e w' => e = .returned (.bool R) /\ Bl w w' := by
 have hr1 := hs.nodes.room
 have hr2 := hs.links.room
 have HT84 := HD T84
 have HT86 := HD T86
 have HN := HD hNI
 have G1 := HD F1
 have G2 := HD F2
 have G3 := HD F3
 have G4 := HD F4
 have G5 := HD F5
 have G6 := HD F6
 have G7 := HD F7
 have G8 := HD F8
 have G9 := HD F9
 have GT := HD FT
 have heN := HD (fun W (hb : Bl w W) x (hx : x ∈ xs) => f83_c x W (InNd.up (hs.nodes.each x hx) hb))
 have heL := HD (fun W (hb : Bl w W) x (hx : x ∈ ls) => f85_c x W (InLk.up (hs.links.each x hx) hb))
 have hS := HD hs
 clear T84 T86 hNI F1 F2 F3 F4 F5 F6 F7 F8 F9 FT hs
 simp only at hr1 hr2
 by_cases h3 : 300 < xs.length
 ·have KF := HD (G1.out h3)
  have h3' : (300 : Int) < (xs.length : Int) := by omega
  go_enter Tryz.func54, Tryz.ntmps54
  go_wp2_with fail
  go_ret
  exact ⟨ret_bool KF.out.symm, bz⟩
 have h3' : ¬ (300 : Int) < (xs.length : Int) := by omega
 by_cases h4 : 400 < ls.length
 ·have KF := HD (G2.out h4)
  have h4' : (400 : Int) < (ls.length : Int) := by omega
  go_enter Tryz.func54, Tryz.ntmps54
  go_wp2_with fail
  go_ret
  exact ⟨ret_bool KF.out.symm, bz⟩
 have h4' : ¬ (400 : Int) < (ls.length : Int) := by omega
 go_enter Tryz.func54, Tryz.ntmps54
 go_wp2_with fail
 go_loopg [21] xs.length (fun gg s21 wr => ∃ (kk : Nat), kk ≤ xs.length /\ xs.length - kk ≤ gg /\ s21 = .int .i64 kk /\ Aside (Bl w wr) /\ Aside (w.heap.size < wr.heap.size) /\ Aside (wr.cell? ⟨w.heap.size, 0, none⟩ = some (.slice A xs.length c)) /\ Aside (wr.cell? ⟨w.heap.size, 1, none⟩ = some (.slice A2 ls.length c2)) /\ Aside (∀ k (h : k < kk) (h' : k < xs.length), nodeB xs[k] = true /\ NI xs[k].name = (k : Int)))
 case atStart => exact ⟨0, Nat.zero_le _, by omega, rfl, bz, aside (by simp), aside (by simp [go_sem]), aside (by simp [go_sem]), fun k h => by omega⟩
 case round =>
  obtain ⟨kk, hkk, hg, rfl, BW, Z, C0, C1, AN⟩ := hrel
  have BW' := BW.out
  have Z' := Z.out
  have C0' := C0.out
  have C1' := C1.out
  by_cases hlt : kk < xs.length
  ·have hltz : (kk : Int) < (xs.length : Int) := by omega
   obtain ⟨b, off, hA, hB, hw, hc0⟩ := hS.out.nodes.place (by intro e; simp only at e; rw [e] at hlt; simp at hlt)
   simp only at hA hc0
   subst hA
   have hc := Sl.Ok.cells hS.out.nodes rfl wr BW' kk hlt
   have hmem := HD (List.getElem_mem hlt)
   have g3 := HD (G3.out kk hlt)
   have g4 := HD (G4.out kk hlt)
   have gA : Hid (nodeB xs[kk] = true -> NI xs[kk].name = (kk : Int) -> ∀ k (h : k < kk + 1) (h' : k < xs.length), nodeB xs[k] = true /\ NI xs[k].name = (k : Int)) := HD (fun e1 e2 k h h' => by
    by_cases e : k = kk
    ·subst e; exact ⟨e1, e2⟩
    ·exact AN.out k (by omega) h')
   simp only at hc hmem
   generalize xs[kk] = y at hc hmem g3 g4 gA
   have c0 : wr.cell? ⟨b, off + kk * 9, none⟩ = some (.string y.name) := hc 0 _ rfl
   have c1 : wr.cell? ⟨b, off + kk * 9 + 1, none⟩ = some (.int .i64 y.kind) := hc 1 _ rfl
   have c2 : wr.cell? ⟨b, off + kk * 9 + 2, none⟩ = some (.int .i64 y.px) := hc 2 _ rfl
   have c3 : wr.cell? ⟨b, off + kk * 9 + 3, none⟩ = some (.int .i64 y.py) := hc 3 _ rfl
   have c4 : wr.cell? ⟨b, off + kk * 9 + 4, none⟩ = some (.int .i64 y.inv) := hc 4 _ rfl
   have c5 : wr.cell? ⟨b, off + kk * 9 + 5, none⟩ = some (.int .i64 y.gnd) := hc 5 _ rfl
   have c6 : wr.cell? ⟨b, off + kk * 9 + 6, none⟩ = some y.shape.val := hc 6 _ rfl
   have c7 : wr.cell? ⟨b, off + kk * 9 + 7, none⟩ = some (.bool y.prot) := hc 7 _ rfl
   have c8 : wr.cell? ⟨b, off + kk * 9 + 8, none⟩ = some (.int .i64 y.res) := hc 8 _ rfl
   clear hc hc0 hw hB
   go_wp2_with fail
   refine (heN.out _ bz y hmem.out).mono ?_
   rintro e w2 ⟨rfl, hw2⟩
   obtain ⟨hchw2, hfhw2, hzhw2⟩ := Bl.rules hw2; (try simp only [aZ, cZ, dZ, nZ] at hzhw2)
   have z2 : wr.heap.size < w2.heap.size := by omega
   have z3 : w.heap.size < w2.heap.size := by omega
   cases hq : nodeB y
   ·have KF := HD (g3.out hq)
    go_wp2_with fail
    go_ret
    exact ⟨ret_bool KF.out.symm, bz⟩
   ·go_wp2_with fail
    refine (HT84.out _ bz y.name).mono ?_
    rintro e w3 ⟨rfl, hw3⟩
    obtain ⟨hchw3, hfhw3, hzhw3⟩ := Bl.rules hw3; (try simp only [aZ, cZ, dZ, nZ] at hzhw3)
    by_cases hn : NI y.name = (kk : Int)
    ·have hA2 := HD (gA.out hq hn)
     go_wp2_with fail
     go_roundg (xs.length - (kk + 1))
     case measure => omega
     case rel => exact ⟨kk + 1, by omega, by omega, by go_num, bz, aside (by omega), aside (by simp [*, go_sem]), aside (by simp [*, go_sem]), hA2.out⟩
    ·have KF := HD (g4.out hn)
     have hn' : (NI y.name == (kk : Int)) = false := by simpa using hn
     go_wp2_with fail
     go_ret
     exact ⟨ret_bool KF.out.symm, bz⟩
  ·have hltz : ¬ (kk : Int) < (xs.length : Int) := by omega
   have : kk = xs.length := by omega
   subst this
   have hAN := HD AN.out
   clear AN BW Z C0 C1 hkk hg hlt hltz
   go_wp2_with fail
   go_loopg [41] ls.length (fun gg s41 wr => ∃ (kk : Nat), kk ≤ ls.length /\ ls.length - kk ≤ gg /\ s41 = .int .i64 kk /\ Aside (Bl w wr) /\ Aside (w.heap.size < wr.heap.size) /\ Aside (wr.cell? ⟨w.heap.size, 0, none⟩ = some (.slice A xs.length c)) /\ Aside (wr.cell? ⟨w.heap.size, 1, none⟩ = some (.slice A2 ls.length c2)) /\ Aside (∀ k (h : k < kk) (h' : k < ls.length), linkB ls[k] = true /\ LI ls[k].name = (k : Int) /\ NI ls[k].src ≠ -1 /\ NI ls[k].dst ≠ -1 /\ ∀ m (hm : m < xs.length), NI ls[k].src = (m : Int) -> xs[m].kind ≠ 3))
   case atStart => exact ⟨0, Nat.zero_le _, by omega, rfl, bz, aside Z', aside C0', aside C1', fun k h => by omega⟩
   case round =>
    clear BW' Z' C0' C1'
    obtain ⟨kk, hkk, hg, rfl, BW, Z, C0, C1, AN⟩ := hrel
    have BW' := BW.out
    have Z' := Z.out
    have C0' := C0.out
    have C1' := C1.out
    by_cases hlt : kk < ls.length
    ·have hltz : (kk : Int) < (ls.length : Int) := by omega
     obtain ⟨b, off, hA, hB, hw, hc0⟩ := hS.out.links.place (by intro e; simp only at e; rw [e] at hlt; simp at hlt)
     simp only at hA hc0
     subst hA
     have hc := Sl.Ok.cells hS.out.links rfl wr BW' kk hlt
     have hmem := HD (List.getElem_mem hlt)
     have g5 := HD (G5.out kk hlt)
     have g6 := HD (G6.out kk hlt)
     have g7 := HD (G7.out kk hlt)
     have g8 := HD (G8.out kk hlt)
     have g9 := HD (G9.out kk hlt)
     have gA : Hid (linkB ls[kk] = true -> LI ls[kk].name = (kk : Int) -> NI ls[kk].src ≠ -1 -> NI ls[kk].dst ≠ -1 -> (∀ m (hm : m < xs.length), NI ls[kk].src = (m : Int) -> xs[m].kind ≠ 3) -> ∀ k (h : k < kk + 1) (h' : k < ls.length), linkB ls[k] = true /\ LI ls[k].name = (k : Int) /\ NI ls[k].src ≠ -1 /\ NI ls[k].dst ≠ -1 /\ ∀ m (hm : m < xs.length), NI ls[k].src = (m : Int) -> xs[m].kind ≠ 3) := HD (fun e1 e2 e3 e4 e5 k h h' => by
      by_cases e : k = kk
      ·subst e; exact ⟨e1, e2, e3, e4, e5⟩
      ·exact AN.out k (by omega) h')
     simp only at hc hmem
     generalize ls[kk] = y at hc hmem g5 g6 g7 g8 g9 gA
     have c0 : wr.cell? ⟨b, off + kk * 11, none⟩ = some (.string y.name) := hc 0 _ rfl
     have c1 : wr.cell? ⟨b, off + kk * 11 + 1, none⟩ = some (.string y.src) := hc 1 _ rfl
     have c2 : wr.cell? ⟨b, off + kk * 11 + 2, none⟩ = some (.string y.dst) := hc 2 _ rfl
     have c3 : wr.cell? ⟨b, off + kk * 11 + 3, none⟩ = some (.int .i64 y.kind) := hc 3 _ rfl
     have c4 : wr.cell? ⟨b, off + kk * 11 + 4, none⟩ = some (.int .i64 y.len) := hc 4 _ rfl
     have c5 : wr.cell? ⟨b, off + kk * 11 + 5, none⟩ = some (.int .i64 y.up) := hc 5 _ rfl
     have c6 : wr.cell? ⟨b, off + kk * 11 + 6, none⟩ = some (.int .i64 y.down) := hc 6 _ rfl
     have c7 : wr.cell? ⟨b, off + kk * 11 + 7, none⟩ = some (.string y.sec) := hc 7 _ rfl
     have c8 : wr.cell? ⟨b, off + kk * 11 + 8, none⟩ = some (.int .i64 y.wid) := hc 8 _ rfl
     have c9 : wr.cell? ⟨b, off + kk * 11 + 9, none⟩ = some (.int .i64 y.hgt) := hc 9 _ rfl
     have c10 : wr.cell? ⟨b, off + kk * 11 + 10, none⟩ = some y.curve.val := hc 10 _ rfl
     clear hc hc0 hw hB
     go_wp2_with fail
     refine (heL.out _ bz y hmem.out).mono ?_
     rintro e w2 ⟨rfl, hw2⟩
     obtain ⟨hchw2, hfhw2, hzhw2⟩ := Bl.rules hw2; (try simp only [aZ, cZ, dZ, nZ] at hzhw2)
     have z2 : wr.heap.size < w2.heap.size := by omega
     have z3 : w.heap.size < w2.heap.size := by omega
     cases hq : linkB y
     ·have KF := HD (g5.out hq)
      go_wp2_with fail
      go_ret
      exact ⟨ret_bool KF.out.symm, bz⟩
     ·go_wp2_with fail
      refine (HT86.out _ bz y.name).mono ?_
      rintro e w3 ⟨rfl, hw3⟩
      obtain ⟨hchw3, hfhw3, hzhw3⟩ := Bl.rules hw3; (try simp only [aZ, cZ, dZ, nZ] at hzhw3)
      have z4 : wr.heap.size < w3.heap.size := by omega
      have z5 : w.heap.size < w3.heap.size := by omega
      by_cases hn : LI y.name = (kk : Int)
      ·go_wp2_with fail
       refine (HT84.out _ bz y.src).mono ?_
       rintro e w4 ⟨rfl, hw4⟩
       obtain ⟨hchw4, hfhw4, hzhw4⟩ := Bl.rules hw4; (try simp only [aZ, cZ, dZ, nZ] at hzhw4)
       have z6 : wr.heap.size < w4.heap.size := by omega
       have z7 : w.heap.size < w4.heap.size := by omega
       rcases HN.out y.src with hsr | ⟨m, hm, hsr⟩
       ·have KF := HD (g7.out hsr)
        rw [hsr]
        go_wp2_with fail
        go_ret
        exact ⟨ret_bool KF.out.symm, bz⟩
       ·have hsr1 := HD (show NI y.src ≠ -1 by rw [hsr]; omega)
        have hsr0 := HD hsr
        rw [hsr]
        clear hsr
        have m0 : ¬ (m : Int) < 0 := by omega
        have m1 : (0 : Int) ≤ (m : Int) := by omega
        have m2 : (m : Int) < (xs.length : Int) := by omega
        go_wp2_with fail
        refine (HT84.out _ bz y.dst).mono ?_
        rintro e w5 ⟨rfl, hw5⟩
        obtain ⟨hchw5, hfhw5, hzhw5⟩ := Bl.rules hw5; (try simp only [aZ, cZ, dZ, nZ] at hzhw5)
        have z8 : wr.heap.size < w5.heap.size := by omega
        have z9 : w.heap.size < w5.heap.size := by omega
        rcases HN.out y.dst with hds | ⟨m', hm', hds⟩
        ·have KF := HD (g8.out hds)
         rw [hds]
         go_wp2_with fail
         go_ret
         exact ⟨ret_bool KF.out.symm, bz⟩
        ·have hds1 := HD (show NI y.dst ≠ -1 by rw [hds]; omega)
         rw [hds]
         clear hds
         have m3 : ¬ (m' : Int) < 0 := by omega
         obtain ⟨bn, offn, hAn, hBn, hwn, hcn⟩ := hS.out.nodes.place (by intro e; simp only at e; rw [e] at hm; simp at hm)
         simp only at hAn hcn
         subst hAn
         have hB5 : Bl w w5 := bz
         have kc : w5.cell? ⟨bn, offn + m * 9 + 1, none⟩ = some (.int .i64 xs[m].kind) := Sl.Ok.cells hS.out.nodes rfl w5 hB5 m hm 1 _ rfl
         have g9' := HD (g9.out m hm hsr0.out)
         have gK : Hid (xs[m].kind ≠ 3 -> ∀ m' (hm : m' < xs.length), NI y.src = (m' : Int) -> xs[m'].kind ≠ 3) := HD (fun e m' hm' h => by
          have : m' = m := by have := hsr0.out.symm.trans h; omega
          subst this; exact e)
         generalize xs[m].kind = kd at kc g9' gK
         clear hcn hBn hwn
         by_cases hk3 : kd = 3
         ·have KF := HD (g9'.out hk3)
          subst hk3
          go_wp2_with fail
          go_ret
          exact ⟨ret_bool KF.out.symm, bz⟩
         ·have hk3' : (kd == 3) = false := by simpa using hk3
          have hA2 := HD (gA.out hq hn hsr1.out hds1.out (gK.out hk3))
          go_wp2_with fail
          go_roundg (ls.length - (kk + 1))
          case measure => omega
          case rel => exact ⟨kk + 1, by omega, by omega, by go_num, bz, aside (by omega), aside (by simp [*, go_sem]), aside (by simp [*, go_sem]), hA2.out⟩
      ·have KF := HD (g6.out hn)
       have hn' : (LI y.name == (kk : Int)) = false := by simpa using hn
       go_wp2_with fail
       go_ret
       exact ⟨ret_bool KF.out.symm, bz⟩
    ·have hltz : ¬ (kk : Int) < (ls.length : Int) := by omega
     have : kk = ls.length := by omega
     subst this
     have KT := HD (GT.out (by omega) (by omega) (fun k h => hAN.out k h h) (fun k h => AN.out k h h))
     go_wp2_with fail
     go_ret
     exact ⟨ret_bool KT.out.symm, BW'⟩
theorem ix_range {α : Type} (p : α -> Bool) (l : List α) : ix p l = -1 \/ ∃ k : Nat, k < l.length /\ ix p l = (k : Int) := by
 rcases ix_cases p l with h | ⟨k, hk, h, _⟩
 ·exact .inl h.1
 ·exact .inr ⟨k, hk, h⟩
theorem kindAt_of (n : Net) {i : Int} {m : Nat} (h : i = (m : Int)) (hm : m < n.nodes.xs.length) : kindAt n i = n.nodes.xs[m].kind := by
 subst h; simp [kindAt, hm]
theorem netB_iff (n : Net) : netB n = true ↔ n.nodes.xs.length ≤ 300 /\ n.links.xs.length ≤ 400 /\ (∀ (i : Nat) (h : i < n.nodes.xs.length), nodeB n.nodes.xs[i] = true /\ ndIx n n.nodes.xs[i].name = (i : Int)) /\ (∀ (i : Nat) (h : i < n.links.xs.length), linkB n.links.xs[i] = true /\ lkIx n n.links.xs[i].name = (i : Int) /\ lkB n n.links.xs[i] = true) := by
 simp [netB, and_assoc]
theorem netB_no {n : Net} (h : ¬ (n.nodes.xs.length ≤ 300 /\ n.links.xs.length ≤ 400 /\ (∀ (i : Nat) (h : i < n.nodes.xs.length), nodeB n.nodes.xs[i] = true /\ ndIx n n.nodes.xs[i].name = (i : Int)) /\ (∀ (i : Nat) (h : i < n.links.xs.length), linkB n.links.xs[i] = true /\ lkIx n n.links.xs[i].name = (i : Int) /\ lkB n n.links.xs[i] = true))) : netB n = false := by
 cases hb : netB n
 ·rfl
 ·exact absurd ((netB_iff n).mp hb) h
theorem f54_c (n : Net) (w : World) (hs : InNet w n) : Calls Tryz.prog 54 #[n.val] w fun e w' => e = .returned (.bool (netB n)) /\ Bl w w' := by
 obtain ⟨⟨A, c, xs⟩, ⟨A2, c2, ls⟩⟩ := n
 refine f54_core A A2 c c2 xs ls w hs (ndIx ⟨⟨A, c, xs⟩, ⟨A2, c2, ls⟩⟩) (lkIx ⟨⟨A, c, xs⟩, ⟨A2, c2, ls⟩⟩) (netB ⟨⟨A, c, xs⟩, ⟨A2, c2, ls⟩⟩) (fun W hb nm => f84_c _ nm W (InNet.up hs hb)) (fun W hb nm => f86_c _ nm W (InNet.up hs hb)) (fun nm => ix_range _ _)
  (fun h => netB_no fun q => by have := q.1; simp only at this; omega) (fun h => netB_no fun q => by have := q.2.1; simp only at this; omega)
  (fun k h e => netB_no fun q => by have := (q.2.2.1 k h).1; simp only at this; rw [e] at this; cases this)
  (fun k h e => netB_no fun q => e (q.2.2.1 k h).2)
  (fun k h e => netB_no fun q => by have := (q.2.2.2 k h).1; simp only at this; rw [e] at this; cases this)
  (fun k h e => netB_no fun q => e (q.2.2.2 k h).2.1)
  (fun k h e => netB_no fun q => by have := (q.2.2.2 k h).2.2; simp only [lkB, Bool.and_eq_true, decide_eq_true_eq] at this; rw [e] at this; omega)
  (fun k h e => netB_no fun q => by have := (q.2.2.2 k h).2.2; simp only [lkB, Bool.and_eq_true, decide_eq_true_eq] at this; rw [e] at this; omega)
  (fun k h m hm e e3 => netB_no fun q => by
   have := (q.2.2.2 k h).2.2
   simp only [lkB, Bool.and_eq_true, decide_eq_true_eq] at this
   rw [kindAt_of _ e hm] at this
   simp only at this
   rw [e3] at this
   simp at this)
  (fun h1 h2 h3 h4 => (netB_iff _).mpr ⟨h1, h2, h3, fun k h => ⟨(h4 k h).1, (h4 k h).2.1, ?_⟩⟩)
 obtain ⟨_, _, s1, s2, s3⟩ := h4 k h
 rcases ix_range (fun y : Nd => y.name == ls[k].src) xs with e | ⟨m, hm, e⟩
 ·exact absurd e s1
 ·rcases ix_range (fun y : Nd => y.name == ls[k].dst) xs with e' | ⟨m', hm', e'⟩
  ·exact absurd e' s2
  ·have := s3 m hm e
   simp only [lkB, Bool.and_eq_true, decide_eq_true_eq]
   refine ⟨⟨?_, ?_⟩, ?_⟩
   ·show 0 ≤ ix _ _
    rw [e]; omega
   ·show 0 ≤ ix _ _
    rw [e']; omega
   ·rw [kindAt_of (n := ⟨⟨A, c, xs⟩, ⟨A2, c2, ls⟩⟩) (i := ndIx ⟨⟨A, c, xs⟩, ⟨A2, c2, ls⟩⟩ ls[k].src) e hm]
    simpa using this
end Go.Proofs.YtnnhnkpoekbahaaGreat
