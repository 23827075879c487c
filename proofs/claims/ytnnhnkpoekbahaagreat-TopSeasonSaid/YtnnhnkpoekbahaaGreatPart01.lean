/- TopSeason: part 2 of 16: Ix Tab Tab2 Tab3 Cat Mp Cat2 -/
import Derived.Test.YtnnhnkpoekbahaaGreatPart00
import Derived.Deep.RegionHeld3
import Derived.Maps.OwnOps
namespace Go.Proofs.YtnnhnkpoekbahaaGreat
open Go.RowKit
def ixFrom {α : Type} (p : α -> Bool) : List α -> Nat -> Int
 | [], _ => -1
 | x :: l, k => if p x then (k : Int) else ixFrom p l (k + 1)
def ix {α : Type} (p : α -> Bool) (l : List α) : Int := ixFrom p l 0
theorem ixFrom_hit {α : Type} (p : α -> Bool) : ∀ (l : List α) (m k : Nat) (h : k < l.length), p l[k] = true -> (∀ j (hj : j < k), p (l[j]'(by omega)) = false) -> ixFrom p l m = ((m + k : Nat) : Int) := by
 intro l
 induction l with
 | nil => intro m k h; simp at h
 | cons x l ih =>
  intro m k h hp hm
  cases k with
  | zero => simp at hp; simp [ixFrom, hp]
  | succ k =>
   have h0 := hm 0 (by omega)
   simp at h0
   have := ih (m + 1) k (by simpa using h) (by simpa using hp) (fun j hj => by simpa using hm (j + 1) (by omega))
   simp only [ixFrom, h0]
   rw [if_neg (by simp), this]
   omega
theorem ixFrom_miss {α : Type} (p : α -> Bool) : ∀ (l : List α) (m : Nat), (∀ x ∈ l, p x = false) -> ixFrom p l m = -1 := by
 intro l
 induction l with
 | nil => intros; rfl
 | cons x l ih =>
  intro m h
  simp only [ixFrom, h x (by simp)]
  rw [if_neg (by simp)]
  exact ih _ fun y hy => h y (by simp [hy])
theorem ix_hit {α : Type} (p : α -> Bool) (l : List α) (k : Nat) (h : k < l.length) (hp : p l[k] = true) (hm : ∀ j (hj : j < k), p (l[j]'(by omega)) = false) : ix p l = (k : Int) := by
 have := ixFrom_hit p l 0 k h hp hm
 simpa [ix] using this
theorem ix_miss {α : Type} (p : α -> Bool) (l : List α) (h : ∀ x ∈ l, p x = false) : ix p l = -1 := ixFrom_miss p l 0 h
theorem ixFrom_cases {α : Type} (p : α -> Bool) : ∀ (l : List α) (m : Nat), (ixFrom p l m = -1 /\ ∀ x ∈ l, p x = false) \/ ∃ k, ∃ h : k < l.length, ixFrom p l m = ((m + k : Nat) : Int) /\ p l[k] = true /\ ∀ j (hj : j < k), p (l[j]'(by omega)) = false := by
 intro l
 induction l with
 | nil => intro m; left; exact ⟨rfl, by simp⟩
 | cons x l ih =>
  intro m
  cases hx : p x with
  | true =>
   right
   refine ⟨0, by simp, ?_, by simpa using hx, fun j hj => by omega⟩
   simp [ixFrom, hx]
  | false =>
   rcases ih (m + 1) with ⟨h1, h2⟩ | ⟨k, hk, h1, h2, h3⟩
   ·left
    refine ⟨by simp [ixFrom, hx, h1], ?_⟩
    intro y hy
    rcases List.mem_cons.1 hy with rfl | hy
    ·exact hx
    ·exact h2 y hy
   ·right
    refine ⟨k + 1, by simpa using hk, ?_, by simpa using h2, ?_⟩
    ·simp only [ixFrom, hx]; rw [if_neg (by simp), h1]; omega
    ·intro j hj
     cases j with
     | zero => simpa using hx
     | succ j => simpa using h3 j (by omega)
theorem ix_cases {α : Type} (p : α -> Bool) (l : List α) : (ix p l = -1 /\ ∀ x ∈ l, p x = false) \/ ∃ k, ∃ h : k < l.length, ix p l = (k : Int) /\ p l[k] = true /\ ∀ j (hj : j < k), p (l[j]'(by omega)) = false := by
 rcases ixFrom_cases p l 0 with h | ⟨k, hk, h1, h2⟩
 ·exact .inl h
 ·exact .inr ⟨k, hk, by simpa [ix] using h1, h2⟩
def Asks {α : Type} (g : Nat) (lb : Array Value) (enc : α -> Value) (p : α -> Bool) (xs : List α) (w : World) : Prop :=
 ∀ (W : World) (x : α), x ∈ xs -> Bl w W -> Calls Tryz.prog g (#[enc x] ++ lb) W fun e w' => e = .returned (.bool (p x)) /\ Bl W w'
theorem Sl.Ok.cells {α : Type} {enc : α -> List Value} {k : Nat} {good : Nat -> World -> α -> Prop} {B : Nat} {w : World} {s : Sl α} (h : s.Ok enc k good B w) {b off : Nat}
 (hA : s.A = some ⟨b, off, none⟩) (W : World) (hb : Bl w W) (i : Nat) (hi : i < s.xs.length) (j : Nat) (v : Value) (hv : (enc s.xs[i])[j]? = some v) : W.cell? ⟨b, off + i * k + j, none⟩ = some v := by
 obtain ⟨b', off', hA', hB, hw, hc⟩ := h.place (by intro e; rw [e] at hi; simp at hi)
 rw [hA] at hA'
 obtain ⟨rfl, rfl⟩ : b = b' /\ off = off' := by simpa using hA'
 rw [hb.cell (p := ⟨b, off + i * k + j, none⟩) hw]
 exact hc i hi j v hv
theorem any_ix {α : Type} (p : α -> Bool) (l : List α) : l.any p = decide (0 ≤ ix p l) := by
 rcases ix_cases p l with ⟨h1, h2⟩ | ⟨k, hk, h1, h2, _⟩
 ·rw [h1]; simpa using h2
 ·rw [h1]
  have : l.any p = true := by rw [List.any_eq_true]; exact ⟨l[k], List.getElem_mem _, h2⟩
  rw [this]; simp
set_option maxHeartbeats 1000000 in
theorem f22_c (s : Sl Nd) (B g : Nat) (lb : Array Value) (p : Nd -> Bool) (w : World) (hs : s.Ok encN 9 okN B w)
 (hp : Asks g lb (fun y => .agg #[.string y.name, .int .i64 y.kind, .int .i64 y.px, .int .i64 y.py, .int .i64 y.inv, .int .i64 y.gnd, y.shape.val, .bool y.prot, .int .i64 y.res]) p s.xs w) (eg : ∀ args w, (callFunc g args).run Tryz.prog w = .ok (.enter g args) w) :
 Calls Tryz.prog 22 #[s.val, .func (.func g) #[] lb] w fun e w' => e = .returned (.int .i64 (ix p s.xs)) /\ Bl w w' := by
 have hr := hs.room
 obtain ⟨A, c, xs⟩ := s
 simp only at hr hp
 by_cases h0 : xs = []
 ·subst h0
  clear hp hs
  show Calls Tryz.prog 22 #[.slice A 0 c, .func (.func g) #[] lb] w _
  go_enter Tryz.func22, Tryz.ntmps22
  go_wp2
  refine wp_loop_rounds 1 ?_
  rw [rounds_succ]
  go_wp2
  go_ret
  exact ⟨rfl, Bl.refl _⟩
 ·obtain ⟨b, off, hA, hB, hw, hc⟩ := hs.place h0
  simp only at hA
  subst hA
  have hrow := fun W hb i hi => Sl.Ok.cells hs rfl W hb i hi
  clear hs hc h0
  simp only at hrow
  show Calls Tryz.prog 22 #[.slice (some ⟨b, off, none⟩) xs.length c, .func (.func g) #[] lb] w _
  go_enter Tryz.func22, Tryz.ntmps22
  go_wp2
  go_loopg [5, 8] xs.length (fun gg _ s8 wr => ∃ kk : Nat, kk ≤ xs.length /\ xs.length - kk ≤ gg /\ s8 = .int .i64 kk /\ Aside (Bl w wr) /\ Aside (∀ j (hj : j < xs.length), j < kk -> p xs[j] = false))
  case atStart => exact ⟨0, Nat.zero_le _, by omega, rfl, Bl.refl w, fun j _ hj => absurd hj (Nat.not_lt_zero _)⟩
  case round =>
   obtain ⟨kk, hkk, hg, rfl, BW, A⟩ := hrel
   by_cases hlt : kk < xs.length
   ·have hltz : (kk : Int) < (xs.length : Int) := by omega
    have hc := hrow wr BW.out kk (by omega)
    have hcall := hp wr xs[kk] (List.getElem_mem _) BW.out
    clear hrow hp
    dsimp only at hcall
    generalize hy : xs[kk] = y at hc hcall
    have Y := HD hy; clear hy
    have c0 : wr.cell? ⟨b, off + kk * 9, none⟩ = some (.string y.name) := hc 0 _ rfl
    have c1 : wr.cell? ⟨b, off + kk * 9 + 1, none⟩ = some (.int .i64 y.kind) := hc 1 _ rfl
    have c2 : wr.cell? ⟨b, off + kk * 9 + 2, none⟩ = some (.int .i64 y.px) := hc 2 _ rfl
    have c3 : wr.cell? ⟨b, off + kk * 9 + 3, none⟩ = some (.int .i64 y.py) := hc 3 _ rfl
    have c4 : wr.cell? ⟨b, off + kk * 9 + 4, none⟩ = some (.int .i64 y.inv) := hc 4 _ rfl
    have c5 : wr.cell? ⟨b, off + kk * 9 + 5, none⟩ = some (.int .i64 y.gnd) := hc 5 _ rfl
    have c6 : wr.cell? ⟨b, off + kk * 9 + 6, none⟩ = some (y.shape.val) := hc 6 _ rfl
    have c7 : wr.cell? ⟨b, off + kk * 9 + 7, none⟩ = some (.bool y.prot) := hc 7 _ rfl
    have c8 : wr.cell? ⟨b, off + kk * 9 + 8, none⟩ = some (.int .i64 y.res) := hc 8 _ rfl
    clear hc
    have HC := HD hcall; clear hcall
    cases hq : p y
    all_goals
     rw [hq] at HC
     have HQ := HD hq; clear hq
     go_wp2_with fail
     refine HC.out.mono ?_
     clear HC
     rintro e w' ⟨rfl, hb'⟩
     clear eg c0
     go_wp2
    ·go_roundg (xs.length - (kk + 1))
     case measure => omega
     case rel =>
      refine ⟨kk + 1, by omega, by omega, by go_num, BW.out.trans hb', (show Aside _ from fun j hj hjk => ?_)⟩
      by_cases e : j = kk
      ·subst e
       rw [Y.out]; exact HQ.out
      ·exact A.out j hj (by omega)
    ·go_ret
     refine ⟨?_, BW.out.trans hb'⟩
     rw [ix_hit p xs kk hlt (by rw [Y.out]; exact HQ.out) (fun j hj => A.out j (by omega) hj)]; rfl
   ·have hltz : ¬ (kk : Int) < (xs.length : Int) := by omega
    have : kk = xs.length := by omega
    subst this
    go_wp2
    go_ret
    refine ⟨?_, BW.out⟩
    rw [ix_miss p xs (fun x hx => by obtain ⟨j, hj, rfl⟩ := List.getElem_of_mem hx; exact A.out j hj hj)]; rfl
theorem f5_c (s : Sl Nd) (B g : Nat) (lb : Array Value) (p : Nd -> Bool) (w : World) (hs : s.Ok encN 9 okN B w)
 (hp : Asks g lb (fun y => .agg #[.string y.name, .int .i64 y.kind, .int .i64 y.px, .int .i64 y.py, .int .i64 y.inv, .int .i64 y.gnd, y.shape.val, .bool y.prot, .int .i64 y.res]) p s.xs w) (eg : ∀ args w, (callFunc g args).run Tryz.prog w = .ok (.enter g args) w) :
 Calls Tryz.prog 5 #[s.val, .func (.func g) #[] lb] w fun e w' => e = .returned (.bool (s.xs.any p)) /\ Bl w w' := by
 rw [any_ix]
 have H := HD (f22_c s B g lb p w hs hp eg)
 clear hs hp eg
 go_enter Tryz.func5, Tryz.ntmps5
 go_wp2_with fail
 refine H.out.mono ?_
 rintro e w' ⟨rfl, hb⟩
 go_wp2
 go_ret
 exact ⟨rfl, hb⟩
set_option maxHeartbeats 1000000 in
theorem f23_c (s : Sl Lk) (B g : Nat) (lb : Array Value) (p : Lk -> Bool) (w : World) (hs : s.Ok encL 11 okL B w)
 (hp : Asks g lb (fun y => .agg #[.string y.name, .string y.src, .string y.dst, .int .i64 y.kind, .int .i64 y.len, .int .i64 y.up, .int .i64 y.down, .string y.sec, .int .i64 y.wid, .int .i64 y.hgt, y.curve.val]) p s.xs w) (eg : ∀ args w, (callFunc g args).run Tryz.prog w = .ok (.enter g args) w) :
 Calls Tryz.prog 23 #[s.val, .func (.func g) #[] lb] w fun e w' => e = .returned (.int .i64 (ix p s.xs)) /\ Bl w w' := by
 have hr := hs.room
 obtain ⟨A, c, xs⟩ := s
 simp only at hr hp
 by_cases h0 : xs = []
 ·subst h0
  clear hp hs
  show Calls Tryz.prog 23 #[.slice A 0 c, .func (.func g) #[] lb] w _
  go_enter Tryz.func23, Tryz.ntmps23
  go_wp2
  refine wp_loop_rounds 1 ?_
  rw [rounds_succ]
  go_wp2
  go_ret
  exact ⟨rfl, Bl.refl _⟩
 ·obtain ⟨b, off, hA, hB, hw, hc⟩ := hs.place h0
  simp only at hA
  subst hA
  have hrow := fun W hb i hi => Sl.Ok.cells hs rfl W hb i hi
  clear hs hc h0
  simp only at hrow
  show Calls Tryz.prog 23 #[.slice (some ⟨b, off, none⟩) xs.length c, .func (.func g) #[] lb] w _
  go_enter Tryz.func23, Tryz.ntmps23
  go_wp2
  go_loopg [5, 8] xs.length (fun gg _ s8 wr => ∃ kk : Nat, kk ≤ xs.length /\ xs.length - kk ≤ gg /\ s8 = .int .i64 kk /\ Aside (Bl w wr) /\ Aside (∀ j (hj : j < xs.length), j < kk -> p xs[j] = false))
  case atStart => exact ⟨0, Nat.zero_le _, by omega, rfl, Bl.refl w, fun j _ hj => absurd hj (Nat.not_lt_zero _)⟩
  case round =>
   obtain ⟨kk, hkk, hg, rfl, BW, A⟩ := hrel
   by_cases hlt : kk < xs.length
   ·have hltz : (kk : Int) < (xs.length : Int) := by omega
    have hc := hrow wr BW.out kk (by omega)
    have hcall := hp wr xs[kk] (List.getElem_mem _) BW.out
    clear hrow hp
    dsimp only at hcall
    generalize hy : xs[kk] = y at hc hcall
    have Y := HD hy; clear hy
    have c0 : wr.cell? ⟨b, off + kk * 11, none⟩ = some (.string y.name) := hc 0 _ rfl
    have c1 : wr.cell? ⟨b, off + kk * 11 + 1, none⟩ = some (.string y.src) := hc 1 _ rfl
    have c2 : wr.cell? ⟨b, off + kk * 11 + 2, none⟩ = some (.string y.dst) := hc 2 _ rfl
    have c3 : wr.cell? ⟨b, off + kk * 11 + 3, none⟩ = some (.int .i64 y.kind) := hc 3 _ rfl
    have c4 : wr.cell? ⟨b, off + kk * 11 + 4, none⟩ = some (.int .i64 y.len) := hc 4 _ rfl
    have c5 : wr.cell? ⟨b, off + kk * 11 + 5, none⟩ = some (.int .i64 y.up) := hc 5 _ rfl
    have c6 : wr.cell? ⟨b, off + kk * 11 + 6, none⟩ = some (.int .i64 y.down) := hc 6 _ rfl
    have c7 : wr.cell? ⟨b, off + kk * 11 + 7, none⟩ = some (.string y.sec) := hc 7 _ rfl
    have c8 : wr.cell? ⟨b, off + kk * 11 + 8, none⟩ = some (.int .i64 y.wid) := hc 8 _ rfl
    have c9 : wr.cell? ⟨b, off + kk * 11 + 9, none⟩ = some (.int .i64 y.hgt) := hc 9 _ rfl
    have c10 : wr.cell? ⟨b, off + kk * 11 + 10, none⟩ = some (y.curve.val) := hc 10 _ rfl
    clear hc
    have HC := HD hcall; clear hcall
    cases hq : p y
    all_goals
     rw [hq] at HC
     have HQ := HD hq; clear hq
     go_wp2_with fail
     refine HC.out.mono ?_
     clear HC
     rintro e w' ⟨rfl, hb'⟩
     clear eg c0
     go_wp2
    ·go_roundg (xs.length - (kk + 1))
     case measure => omega
     case rel =>
      refine ⟨kk + 1, by omega, by omega, by go_num, BW.out.trans hb', (show Aside _ from fun j hj hjk => ?_)⟩
      by_cases e : j = kk
      ·subst e
       rw [Y.out]; exact HQ.out
      ·exact A.out j hj (by omega)
    ·go_ret
     refine ⟨?_, BW.out.trans hb'⟩
     rw [ix_hit p xs kk hlt (by rw [Y.out]; exact HQ.out) (fun j hj => A.out j (by omega) hj)]; rfl
   ·have hltz : ¬ (kk : Int) < (xs.length : Int) := by omega
    have : kk = xs.length := by omega
    subst this
    go_wp2
    go_ret
    refine ⟨?_, BW.out⟩
    rw [ix_miss p xs (fun x hx => by obtain ⟨j, hj, rfl⟩ := List.getElem_of_mem hx; exact A.out j hj hj)]; rfl
theorem f7_c (s : Sl Lk) (B g : Nat) (lb : Array Value) (p : Lk -> Bool) (w : World) (hs : s.Ok encL 11 okL B w)
 (hp : Asks g lb (fun y => .agg #[.string y.name, .string y.src, .string y.dst, .int .i64 y.kind, .int .i64 y.len, .int .i64 y.up, .int .i64 y.down, .string y.sec, .int .i64 y.wid, .int .i64 y.hgt, y.curve.val]) p s.xs w) (eg : ∀ args w, (callFunc g args).run Tryz.prog w = .ok (.enter g args) w) :
 Calls Tryz.prog 7 #[s.val, .func (.func g) #[] lb] w fun e w' => e = .returned (.bool (s.xs.any p)) /\ Bl w w' := by
 rw [any_ix]
 have H := HD (f23_c s B g lb p w hs hp eg)
 clear hs hp eg
 go_enter Tryz.func7, Tryz.ntmps7
 go_wp2_with fail
 refine H.out.mono ?_
 rintro e w' ⟨rfl, hb⟩
 go_wp2
 go_ret
 exact ⟨rfl, hb⟩
set_option maxHeartbeats 1000000 in
theorem f24_c (s : Sl Rul) (B g : Nat) (lb : Array Value) (p : Rul -> Bool) (w : World) (hs : s.Ok encR 4 okR B w)
 (hp : Asks g lb (fun y => .agg #[.string y.name, y.cond.val, .string y.link, .int .i64 y.set]) p s.xs w) (eg : ∀ args w, (callFunc g args).run Tryz.prog w = .ok (.enter g args) w) :
 Calls Tryz.prog 24 #[s.val, .func (.func g) #[] lb] w fun e w' => e = .returned (.int .i64 (ix p s.xs)) /\ Bl w w' := by
 have hr := hs.room
 obtain ⟨A, c, xs⟩ := s
 simp only at hr hp
 by_cases h0 : xs = []
 ·subst h0
  clear hp hs
  show Calls Tryz.prog 24 #[.slice A 0 c, .func (.func g) #[] lb] w _
  go_enter Tryz.func24, Tryz.ntmps24
  go_wp2
  refine wp_loop_rounds 1 ?_
  rw [rounds_succ]
  go_wp2
  go_ret
  exact ⟨rfl, Bl.refl _⟩
 ·obtain ⟨b, off, hA, hB, hw, hc⟩ := hs.place h0
  simp only at hA
  subst hA
  have hrow := fun W hb i hi => Sl.Ok.cells hs rfl W hb i hi
  clear hs hc h0
  simp only at hrow
  show Calls Tryz.prog 24 #[.slice (some ⟨b, off, none⟩) xs.length c, .func (.func g) #[] lb] w _
  go_enter Tryz.func24, Tryz.ntmps24
  go_wp2
  go_loopg [5, 8] xs.length (fun gg _ s8 wr => ∃ kk : Nat, kk ≤ xs.length /\ xs.length - kk ≤ gg /\ s8 = .int .i64 kk /\ Aside (Bl w wr) /\ Aside (∀ j (hj : j < xs.length), j < kk -> p xs[j] = false))
  case atStart => exact ⟨0, Nat.zero_le _, by omega, rfl, Bl.refl w, fun j _ hj => absurd hj (Nat.not_lt_zero _)⟩
  case round =>
   obtain ⟨kk, hkk, hg, rfl, BW, A⟩ := hrel
   by_cases hlt : kk < xs.length
   ·have hltz : (kk : Int) < (xs.length : Int) := by omega
    have hc := hrow wr BW.out kk (by omega)
    have hcall := hp wr xs[kk] (List.getElem_mem _) BW.out
    clear hrow hp
    dsimp only at hcall
    generalize hy : xs[kk] = y at hc hcall
    have Y := HD hy; clear hy
    have c0 : wr.cell? ⟨b, off + kk * 4, none⟩ = some (.string y.name) := hc 0 _ rfl
    have c1 : wr.cell? ⟨b, off + kk * 4 + 1, none⟩ = some (y.cond.val) := hc 1 _ rfl
    have c2 : wr.cell? ⟨b, off + kk * 4 + 2, none⟩ = some (.string y.link) := hc 2 _ rfl
    have c3 : wr.cell? ⟨b, off + kk * 4 + 3, none⟩ = some (.int .i64 y.set) := hc 3 _ rfl
    clear hc
    have HC := HD hcall; clear hcall
    cases hq : p y
    all_goals
     rw [hq] at HC
     have HQ := HD hq; clear hq
     go_wp2_with fail
     refine HC.out.mono ?_
     clear HC
     rintro e w' ⟨rfl, hb'⟩
     clear eg c0
     go_wp2
    ·go_roundg (xs.length - (kk + 1))
     case measure => omega
     case rel =>
      refine ⟨kk + 1, by omega, by omega, by go_num, BW.out.trans hb', (show Aside _ from fun j hj hjk => ?_)⟩
      by_cases e : j = kk
      ·subst e
       rw [Y.out]; exact HQ.out
      ·exact A.out j hj (by omega)
    ·go_ret
     refine ⟨?_, BW.out.trans hb'⟩
     rw [ix_hit p xs kk hlt (by rw [Y.out]; exact HQ.out) (fun j hj => A.out j (by omega) hj)]; rfl
   ·have hltz : ¬ (kk : Int) < (xs.length : Int) := by omega
    have : kk = xs.length := by omega
    subst this
    go_wp2
    go_ret
    refine ⟨?_, BW.out⟩
    rw [ix_miss p xs (fun x hx => by obtain ⟨j, hj, rfl⟩ := List.getElem_of_mem hx; exact A.out j hj hj)]; rfl
theorem f9_c (s : Sl Rul) (B g : Nat) (lb : Array Value) (p : Rul -> Bool) (w : World) (hs : s.Ok encR 4 okR B w)
 (hp : Asks g lb (fun y => .agg #[.string y.name, y.cond.val, .string y.link, .int .i64 y.set]) p s.xs w) (eg : ∀ args w, (callFunc g args).run Tryz.prog w = .ok (.enter g args) w) :
 Calls Tryz.prog 9 #[s.val, .func (.func g) #[] lb] w fun e w' => e = .returned (.bool (s.xs.any p)) /\ Bl w w' := by
 rw [any_ix]
 have H := HD (f24_c s B g lb p w hs hp eg)
 clear hs hp eg
 go_enter Tryz.func9, Tryz.ntmps9
 go_wp2_with fail
 refine H.out.mono ?_
 rintro e w' ⟨rfl, hb⟩
 go_wp2
 go_ret
 exact ⟨rfl, hb⟩
set_option maxHeartbeats 1000000 in
theorem f25_c (s : Sl Infl) (B g : Nat) (lb : Array Value) (p : Infl -> Bool) (w : World) (hs : s.Ok encF 2 okF B w)
 (hp : Asks g lb (fun y => .agg #[.string y.node, y.vols.val]) p s.xs w) (eg : ∀ args w, (callFunc g args).run Tryz.prog w = .ok (.enter g args) w) :
 Calls Tryz.prog 25 #[s.val, .func (.func g) #[] lb] w fun e w' => e = .returned (.int .i64 (ix p s.xs)) /\ Bl w w' := by
 have hr := hs.room
 obtain ⟨A, c, xs⟩ := s
 simp only at hr hp
 by_cases h0 : xs = []
 ·subst h0
  clear hp hs
  show Calls Tryz.prog 25 #[.slice A 0 c, .func (.func g) #[] lb] w _
  go_enter Tryz.func25, Tryz.ntmps25
  go_wp2
  refine wp_loop_rounds 1 ?_
  rw [rounds_succ]
  go_wp2
  go_ret
  exact ⟨rfl, Bl.refl _⟩
 ·obtain ⟨b, off, hA, hB, hw, hc⟩ := hs.place h0
  simp only at hA
  subst hA
  have hrow := fun W hb i hi => Sl.Ok.cells hs rfl W hb i hi
  clear hs hc h0
  simp only at hrow
  show Calls Tryz.prog 25 #[.slice (some ⟨b, off, none⟩) xs.length c, .func (.func g) #[] lb] w _
  go_enter Tryz.func25, Tryz.ntmps25
  go_wp2
  go_loopg [5, 8] xs.length (fun gg _ s8 wr => ∃ kk : Nat, kk ≤ xs.length /\ xs.length - kk ≤ gg /\ s8 = .int .i64 kk /\ Aside (Bl w wr) /\ Aside (∀ j (hj : j < xs.length), j < kk -> p xs[j] = false))
  case atStart => exact ⟨0, Nat.zero_le _, by omega, rfl, Bl.refl w, fun j _ hj => absurd hj (Nat.not_lt_zero _)⟩
  case round =>
   obtain ⟨kk, hkk, hg, rfl, BW, A⟩ := hrel
   by_cases hlt : kk < xs.length
   ·have hltz : (kk : Int) < (xs.length : Int) := by omega
    have hc := hrow wr BW.out kk (by omega)
    have hcall := hp wr xs[kk] (List.getElem_mem _) BW.out
    clear hrow hp
    dsimp only at hcall
    generalize hy : xs[kk] = y at hc hcall
    have Y := HD hy; clear hy
    have c0 : wr.cell? ⟨b, off + kk * 2, none⟩ = some (.string y.node) := hc 0 _ rfl
    have c1 : wr.cell? ⟨b, off + kk * 2 + 1, none⟩ = some (y.vols.val) := hc 1 _ rfl
    clear hc
    have HC := HD hcall; clear hcall
    cases hq : p y
    all_goals
     rw [hq] at HC
     have HQ := HD hq; clear hq
     go_wp2_with fail
     refine HC.out.mono ?_
     clear HC
     rintro e w' ⟨rfl, hb'⟩
     clear eg c0
     go_wp2
    ·go_roundg (xs.length - (kk + 1))
     case measure => omega
     case rel =>
      refine ⟨kk + 1, by omega, by omega, by go_num, BW.out.trans hb', (show Aside _ from fun j hj hjk => ?_)⟩
      by_cases e : j = kk
      ·subst e
       rw [Y.out]; exact HQ.out
      ·exact A.out j hj (by omega)
    ·go_ret
     refine ⟨?_, BW.out.trans hb'⟩
     rw [ix_hit p xs kk hlt (by rw [Y.out]; exact HQ.out) (fun j hj => A.out j (by omega) hj)]; rfl
   ·have hltz : ¬ (kk : Int) < (xs.length : Int) := by omega
    have : kk = xs.length := by omega
    subst this
    go_wp2
    go_ret
    refine ⟨?_, BW.out⟩
    rw [ix_miss p xs (fun x hx => by obtain ⟨j, hj, rfl⟩ := List.getElem_of_mem hx; exact A.out j hj hj)]; rfl
theorem f11_c (s : Sl Infl) (B g : Nat) (lb : Array Value) (p : Infl -> Bool) (w : World) (hs : s.Ok encF 2 okF B w)
 (hp : Asks g lb (fun y => .agg #[.string y.node, y.vols.val]) p s.xs w) (eg : ∀ args w, (callFunc g args).run Tryz.prog w = .ok (.enter g args) w) :
 Calls Tryz.prog 11 #[s.val, .func (.func g) #[] lb] w fun e w' => e = .returned (.bool (s.xs.any p)) /\ Bl w w' := by
 rw [any_ix]
 have H := HD (f25_c s B g lb p w hs hp eg)
 clear hs hp eg
 go_enter Tryz.func11, Tryz.ntmps11
 go_wp2_with fail
 refine H.out.mono ?_
 rintro e w' ⟨rfl, hb⟩
 go_wp2
 go_ret
 exact ⟨rfl, hb⟩
set_option maxHeartbeats 1000000 in
theorem f26_c (s : Sl Sec) (B g : Nat) (lb : Array Value) (p : Sec -> Bool) (w : World) (hs : s.Ok encC 5 okC B w)
 (hp : Asks g lb (fun y => .agg #[.string y.name, .int .i64 y.hgt, .int .i64 y.price, y.area.val, y.conv.val]) p s.xs w) (eg : ∀ args w, (callFunc g args).run Tryz.prog w = .ok (.enter g args) w) :
 Calls Tryz.prog 26 #[s.val, .func (.func g) #[] lb] w fun e w' => e = .returned (.int .i64 (ix p s.xs)) /\ Bl w w' := by
 have hr := hs.room
 obtain ⟨A, c, xs⟩ := s
 simp only at hr hp
 by_cases h0 : xs = []
 ·subst h0
  clear hp hs
  show Calls Tryz.prog 26 #[.slice A 0 c, .func (.func g) #[] lb] w _
  go_enter Tryz.func26, Tryz.ntmps26
  go_wp2
  refine wp_loop_rounds 1 ?_
  rw [rounds_succ]
  go_wp2
  go_ret
  exact ⟨rfl, Bl.refl _⟩
 ·obtain ⟨b, off, hA, hB, hw, hc⟩ := hs.place h0
  simp only at hA
  subst hA
  have hrow := fun W hb i hi => Sl.Ok.cells hs rfl W hb i hi
  clear hs hc h0
  simp only at hrow
  show Calls Tryz.prog 26 #[.slice (some ⟨b, off, none⟩) xs.length c, .func (.func g) #[] lb] w _
  go_enter Tryz.func26, Tryz.ntmps26
  go_wp2
  go_loopg [5, 8] xs.length (fun gg _ s8 wr => ∃ kk : Nat, kk ≤ xs.length /\ xs.length - kk ≤ gg /\ s8 = .int .i64 kk /\ Aside (Bl w wr) /\ Aside (∀ j (hj : j < xs.length), j < kk -> p xs[j] = false))
  case atStart => exact ⟨0, Nat.zero_le _, by omega, rfl, Bl.refl w, fun j _ hj => absurd hj (Nat.not_lt_zero _)⟩
  case round =>
   obtain ⟨kk, hkk, hg, rfl, BW, A⟩ := hrel
   by_cases hlt : kk < xs.length
   ·have hltz : (kk : Int) < (xs.length : Int) := by omega
    have hc := hrow wr BW.out kk (by omega)
    have hcall := hp wr xs[kk] (List.getElem_mem _) BW.out
    clear hrow hp
    dsimp only at hcall
    generalize hy : xs[kk] = y at hc hcall
    have Y := HD hy; clear hy
    have c0 : wr.cell? ⟨b, off + kk * 5, none⟩ = some (.string y.name) := hc 0 _ rfl
    have c1 : wr.cell? ⟨b, off + kk * 5 + 1, none⟩ = some (.int .i64 y.hgt) := hc 1 _ rfl
    have c2 : wr.cell? ⟨b, off + kk * 5 + 2, none⟩ = some (.int .i64 y.price) := hc 2 _ rfl
    have c3 : wr.cell? ⟨b, off + kk * 5 + 3, none⟩ = some (y.area.val) := hc 3 _ rfl
    have c4 : wr.cell? ⟨b, off + kk * 5 + 4, none⟩ = some (y.conv.val) := hc 4 _ rfl
    clear hc
    have HC := HD hcall; clear hcall
    cases hq : p y
    all_goals
     rw [hq] at HC
     have HQ := HD hq; clear hq
     go_wp2_with fail
     refine HC.out.mono ?_
     clear HC
     rintro e w' ⟨rfl, hb'⟩
     clear eg c0
     go_wp2
    ·go_roundg (xs.length - (kk + 1))
     case measure => omega
     case rel =>
      refine ⟨kk + 1, by omega, by omega, by go_num, BW.out.trans hb', (show Aside _ from fun j hj hjk => ?_)⟩
      by_cases e : j = kk
      ·subst e
       rw [Y.out]; exact HQ.out
      ·exact A.out j hj (by omega)
    ·go_ret
     refine ⟨?_, BW.out.trans hb'⟩
     rw [ix_hit p xs kk hlt (by rw [Y.out]; exact HQ.out) (fun j hj => A.out j (by omega) hj)]; rfl
   ·have hltz : ¬ (kk : Int) < (xs.length : Int) := by omega
    have : kk = xs.length := by omega
    subst this
    go_wp2
    go_ret
    refine ⟨?_, BW.out⟩
    rw [ix_miss p xs (fun x hx => by obtain ⟨j, hj, rfl⟩ := List.getElem_of_mem hx; exact A.out j hj hj)]; rfl
theorem f13_c (s : Sl Sec) (B g : Nat) (lb : Array Value) (p : Sec -> Bool) (w : World) (hs : s.Ok encC 5 okC B w)
 (hp : Asks g lb (fun y => .agg #[.string y.name, .int .i64 y.hgt, .int .i64 y.price, y.area.val, y.conv.val]) p s.xs w) (eg : ∀ args w, (callFunc g args).run Tryz.prog w = .ok (.enter g args) w) :
 Calls Tryz.prog 13 #[s.val, .func (.func g) #[] lb] w fun e w' => e = .returned (.bool (s.xs.any p)) /\ Bl w w' := by
 rw [any_ix]
 have H := HD (f26_c s B g lb p w hs hp eg)
 clear hs hp eg
 go_enter Tryz.func13, Tryz.ntmps13
 go_wp2_with fail
 refine H.out.mono ?_
 rintro e w' ⟨rfl, hb⟩
 go_wp2
 go_ret
 exact ⟨rfl, hb⟩
set_option maxHeartbeats 1000000 in
theorem f134_c (s : Sl Led) (B g : Nat) (lb : Array Value) (p : Led -> Bool) (w : World) (hs : s.Ok encG 3 okG B w)
 (hp : Asks g lb (fun y => .agg #[.int .i64 y.inn, .int .i64 y.out, y.pass.val]) p s.xs w) (eg : ∀ args w, (callFunc g args).run Tryz.prog w = .ok (.enter g args) w) :
 Calls Tryz.prog 134 #[s.val, .func (.func g) #[] lb] w fun e w' => e = .returned (.int .i64 (ix p s.xs)) /\ Bl w w' := by
 have hr := hs.room
 obtain ⟨A, c, xs⟩ := s
 simp only at hr hp
 by_cases h0 : xs = []
 ·subst h0
  clear hp hs
  show Calls Tryz.prog 134 #[.slice A 0 c, .func (.func g) #[] lb] w _
  go_enter Tryz.func134, Tryz.ntmps134
  go_wp2
  refine wp_loop_rounds 1 ?_
  rw [rounds_succ]
  go_wp2
  go_ret
  exact ⟨rfl, Bl.refl _⟩
 ·obtain ⟨b, off, hA, hB, hw, hc⟩ := hs.place h0
  simp only at hA
  subst hA
  have hrow := fun W hb i hi => Sl.Ok.cells hs rfl W hb i hi
  clear hs hc h0
  simp only at hrow
  show Calls Tryz.prog 134 #[.slice (some ⟨b, off, none⟩) xs.length c, .func (.func g) #[] lb] w _
  go_enter Tryz.func134, Tryz.ntmps134
  go_wp2
  go_loopg [5, 8] xs.length (fun gg _ s8 wr => ∃ kk : Nat, kk ≤ xs.length /\ xs.length - kk ≤ gg /\ s8 = .int .i64 kk /\ Aside (Bl w wr) /\ Aside (∀ j (hj : j < xs.length), j < kk -> p xs[j] = false))
  case atStart => exact ⟨0, Nat.zero_le _, by omega, rfl, Bl.refl w, fun j _ hj => absurd hj (Nat.not_lt_zero _)⟩
  case round =>
   obtain ⟨kk, hkk, hg, rfl, BW, A⟩ := hrel
   by_cases hlt : kk < xs.length
   ·have hltz : (kk : Int) < (xs.length : Int) := by omega
    have hc := hrow wr BW.out kk (by omega)
    have hcall := hp wr xs[kk] (List.getElem_mem _) BW.out
    clear hrow hp
    dsimp only at hcall
    generalize hy : xs[kk] = y at hc hcall
    have Y := HD hy; clear hy
    have c0 : wr.cell? ⟨b, off + kk * 3, none⟩ = some (.int .i64 y.inn) := hc 0 _ rfl
    have c1 : wr.cell? ⟨b, off + kk * 3 + 1, none⟩ = some (.int .i64 y.out) := hc 1 _ rfl
    have c2 : wr.cell? ⟨b, off + kk * 3 + 2, none⟩ = some (y.pass.val) := hc 2 _ rfl
    clear hc
    have HC := HD hcall; clear hcall
    cases hq : p y
    all_goals
     rw [hq] at HC
     have HQ := HD hq; clear hq
     go_wp2_with fail
     refine HC.out.mono ?_
     clear HC
     rintro e w' ⟨rfl, hb'⟩
     clear eg c0
     go_wp2
    ·go_roundg (xs.length - (kk + 1))
     case measure => omega
     case rel =>
      refine ⟨kk + 1, by omega, by omega, by go_num, BW.out.trans hb', (show Aside _ from fun j hj hjk => ?_)⟩
      by_cases e : j = kk
      ·subst e
       rw [Y.out]; exact HQ.out
      ·exact A.out j hj (by omega)
    ·go_ret
     refine ⟨?_, BW.out.trans hb'⟩
     rw [ix_hit p xs kk hlt (by rw [Y.out]; exact HQ.out) (fun j hj => A.out j (by omega) hj)]; rfl
   ·have hltz : ¬ (kk : Int) < (xs.length : Int) := by omega
    have : kk = xs.length := by omega
    subst this
    go_wp2
    go_ret
    refine ⟨?_, BW.out⟩
    rw [ix_miss p xs (fun x hx => by obtain ⟨j, hj, rfl⟩ := List.getElem_of_mem hx; exact A.out j hj hj)]; rfl
theorem f91_c (s : Sl Led) (B g : Nat) (lb : Array Value) (p : Led -> Bool) (w : World) (hs : s.Ok encG 3 okG B w)
 (hp : Asks g lb (fun y => .agg #[.int .i64 y.inn, .int .i64 y.out, y.pass.val]) p s.xs w) (eg : ∀ args w, (callFunc g args).run Tryz.prog w = .ok (.enter g args) w) :
 Calls Tryz.prog 91 #[s.val, .func (.func g) #[] lb] w fun e w' => e = .returned (.bool (s.xs.any p)) /\ Bl w w' := by
 rw [any_ix]
 have H := HD (f134_c s B g lb p w hs hp eg)
 clear hs hp eg
 go_enter Tryz.func91, Tryz.ntmps91
 go_wp2_with fail
 refine H.out.mono ?_
 rintro e w' ⟨rfl, hb⟩
 go_wp2
 go_ret
 exact ⟨rfl, hb⟩
set_option maxHeartbeats 1000000 in
theorem f164_c (s : Sl Knot) (B g : Nat) (lb : Array Value) (p : Knot -> Bool) (w : World) (hs : s.Ok encK 2 okT B w)
 (hp : Asks g lb (fun y => .agg #[.int .i64 y.x, .int .i64 y.y]) p s.xs w) (eg : ∀ args w, (callFunc g args).run Tryz.prog w = .ok (.enter g args) w) :
 Calls Tryz.prog 164 #[s.val, .func (.func g) #[] lb] w fun e w' => e = .returned (.int .i64 (ix p s.xs)) /\ Bl w w' := by
 have hr := hs.room
 obtain ⟨A, c, xs⟩ := s
 simp only at hr hp
 by_cases h0 : xs = []
 ·subst h0
  clear hp hs
  show Calls Tryz.prog 164 #[.slice A 0 c, .func (.func g) #[] lb] w _
  go_enter Tryz.func164, Tryz.ntmps164
  go_wp2
  refine wp_loop_rounds 1 ?_
  rw [rounds_succ]
  go_wp2
  go_ret
  exact ⟨rfl, Bl.refl _⟩
 ·obtain ⟨b, off, hA, hB, hw, hc⟩ := hs.place h0
  simp only at hA
  subst hA
  have hrow := fun W hb i hi => Sl.Ok.cells hs rfl W hb i hi
  clear hs hc h0
  simp only at hrow
  show Calls Tryz.prog 164 #[.slice (some ⟨b, off, none⟩) xs.length c, .func (.func g) #[] lb] w _
  go_enter Tryz.func164, Tryz.ntmps164
  go_wp2
  go_loopg [5, 8] xs.length (fun gg _ s8 wr => ∃ kk : Nat, kk ≤ xs.length /\ xs.length - kk ≤ gg /\ s8 = .int .i64 kk /\ Aside (Bl w wr) /\ Aside (∀ j (hj : j < xs.length), j < kk -> p xs[j] = false))
  case atStart => exact ⟨0, Nat.zero_le _, by omega, rfl, Bl.refl w, fun j _ hj => absurd hj (Nat.not_lt_zero _)⟩
  case round =>
   obtain ⟨kk, hkk, hg, rfl, BW, A⟩ := hrel
   by_cases hlt : kk < xs.length
   ·have hltz : (kk : Int) < (xs.length : Int) := by omega
    have hc := hrow wr BW.out kk (by omega)
    have hcall := hp wr xs[kk] (List.getElem_mem _) BW.out
    clear hrow hp
    dsimp only at hcall
    generalize hy : xs[kk] = y at hc hcall
    have Y := HD hy; clear hy
    have c0 : wr.cell? ⟨b, off + kk * 2, none⟩ = some (.int .i64 y.x) := hc 0 _ rfl
    have c1 : wr.cell? ⟨b, off + kk * 2 + 1, none⟩ = some (.int .i64 y.y) := hc 1 _ rfl
    clear hc
    have HC := HD hcall; clear hcall
    cases hq : p y
    all_goals
     rw [hq] at HC
     have HQ := HD hq; clear hq
     go_wp2_with fail
     refine HC.out.mono ?_
     clear HC
     rintro e w' ⟨rfl, hb'⟩
     clear eg c0
     go_wp2
    ·go_roundg (xs.length - (kk + 1))
     case measure => omega
     case rel =>
      refine ⟨kk + 1, by omega, by omega, by go_num, BW.out.trans hb', (show Aside _ from fun j hj hjk => ?_)⟩
      by_cases e : j = kk
      ·subst e
       rw [Y.out]; exact HQ.out
      ·exact A.out j hj (by omega)
    ·go_ret
     refine ⟨?_, BW.out.trans hb'⟩
     rw [ix_hit p xs kk hlt (by rw [Y.out]; exact HQ.out) (fun j hj => A.out j (by omega) hj)]; rfl
   ·have hltz : ¬ (kk : Int) < (xs.length : Int) := by omega
    have : kk = xs.length := by omega
    subst this
    go_wp2
    go_ret
    refine ⟨?_, BW.out⟩
    rw [ix_miss p xs (fun x hx => by obtain ⟨j, hj, rfl⟩ := List.getElem_of_mem hx; exact A.out j hj hj)]; rfl
theorem f128_c (s : Sl Knot) (B g : Nat) (lb : Array Value) (p : Knot -> Bool) (w : World) (hs : s.Ok encK 2 okT B w)
 (hp : Asks g lb (fun y => .agg #[.int .i64 y.x, .int .i64 y.y]) p s.xs w) (eg : ∀ args w, (callFunc g args).run Tryz.prog w = .ok (.enter g args) w) :
 Calls Tryz.prog 128 #[s.val, .func (.func g) #[] lb] w fun e w' => e = .returned (.bool (s.xs.any p)) /\ Bl w w' := by
 rw [any_ix]
 have H := HD (f164_c s B g lb p w hs hp eg)
 clear hs hp eg
 go_enter Tryz.func128, Tryz.ntmps128
 go_wp2_with fail
 refine H.out.mono ?_
 rintro e w' ⟨rfl, hb⟩
 go_wp2
 go_ret
 exact ⟨rfl, hb⟩
set_option maxHeartbeats 1000000 in
theorem f190_c (s : Sl Cond) (B g : Nat) (lb : Array Value) (p : Cond -> Bool) (w : World) (hs : s.Ok encD 3 okT B w)
 (hp : Asks g lb (fun y => .agg #[.string y.node, .bool y.below, .int .i64 y.level]) p s.xs w) (eg : ∀ args w, (callFunc g args).run Tryz.prog w = .ok (.enter g args) w) :
 Calls Tryz.prog 190 #[s.val, .func (.func g) #[] lb] w fun e w' => e = .returned (.int .i64 (ix p s.xs)) /\ Bl w w' := by
 have hr := hs.room
 obtain ⟨A, c, xs⟩ := s
 simp only at hr hp
 by_cases h0 : xs = []
 ·subst h0
  clear hp hs
  show Calls Tryz.prog 190 #[.slice A 0 c, .func (.func g) #[] lb] w _
  go_enter Tryz.func190, Tryz.ntmps190
  go_wp2
  refine wp_loop_rounds 1 ?_
  rw [rounds_succ]
  go_wp2
  go_ret
  exact ⟨rfl, Bl.refl _⟩
 ·obtain ⟨b, off, hA, hB, hw, hc⟩ := hs.place h0
  simp only at hA
  subst hA
  have hrow := fun W hb i hi => Sl.Ok.cells hs rfl W hb i hi
  clear hs hc h0
  simp only at hrow
  show Calls Tryz.prog 190 #[.slice (some ⟨b, off, none⟩) xs.length c, .func (.func g) #[] lb] w _
  go_enter Tryz.func190, Tryz.ntmps190
  go_wp2
  go_loopg [5, 8] xs.length (fun gg _ s8 wr => ∃ kk : Nat, kk ≤ xs.length /\ xs.length - kk ≤ gg /\ s8 = .int .i64 kk /\ Aside (Bl w wr) /\ Aside (∀ j (hj : j < xs.length), j < kk -> p xs[j] = false))
  case atStart => exact ⟨0, Nat.zero_le _, by omega, rfl, Bl.refl w, fun j _ hj => absurd hj (Nat.not_lt_zero _)⟩
  case round =>
   obtain ⟨kk, hkk, hg, rfl, BW, A⟩ := hrel
   by_cases hlt : kk < xs.length
   ·have hltz : (kk : Int) < (xs.length : Int) := by omega
    have hc := hrow wr BW.out kk (by omega)
    have hcall := hp wr xs[kk] (List.getElem_mem _) BW.out
    clear hrow hp
    dsimp only at hcall
    generalize hy : xs[kk] = y at hc hcall
    have Y := HD hy; clear hy
    have c0 : wr.cell? ⟨b, off + kk * 3, none⟩ = some (.string y.node) := hc 0 _ rfl
    have c1 : wr.cell? ⟨b, off + kk * 3 + 1, none⟩ = some (.bool y.below) := hc 1 _ rfl
    have c2 : wr.cell? ⟨b, off + kk * 3 + 2, none⟩ = some (.int .i64 y.level) := hc 2 _ rfl
    clear hc
    have HC := HD hcall; clear hcall
    cases hq : p y
    all_goals
     rw [hq] at HC
     have HQ := HD hq; clear hq
     go_wp2_with fail
     refine HC.out.mono ?_
     clear HC
     rintro e w' ⟨rfl, hb'⟩
     clear eg c0
     go_wp2
    ·go_roundg (xs.length - (kk + 1))
     case measure => omega
     case rel =>
      refine ⟨kk + 1, by omega, by omega, by go_num, BW.out.trans hb', (show Aside _ from fun j hj hjk => ?_)⟩
      by_cases e : j = kk
      ·subst e
       rw [Y.out]; exact HQ.out
      ·exact A.out j hj (by omega)
    ·go_ret
     refine ⟨?_, BW.out.trans hb'⟩
     rw [ix_hit p xs kk hlt (by rw [Y.out]; exact HQ.out) (fun j hj => A.out j (by omega) hj)]; rfl
   ·have hltz : ¬ (kk : Int) < (xs.length : Int) := by omega
    have : kk = xs.length := by omega
    subst this
    go_wp2
    go_ret
    refine ⟨?_, BW.out⟩
    rw [ix_miss p xs (fun x hx => by obtain ⟨j, hj, rfl⟩ := List.getElem_of_mem hx; exact A.out j hj hj)]; rfl
theorem f151_c (s : Sl Cond) (B g : Nat) (lb : Array Value) (p : Cond -> Bool) (w : World) (hs : s.Ok encD 3 okT B w)
 (hp : Asks g lb (fun y => .agg #[.string y.node, .bool y.below, .int .i64 y.level]) p s.xs w) (eg : ∀ args w, (callFunc g args).run Tryz.prog w = .ok (.enter g args) w) :
 Calls Tryz.prog 151 #[s.val, .func (.func g) #[] lb] w fun e w' => e = .returned (.bool (s.xs.any p)) /\ Bl w w' := by
 rw [any_ix]
 have H := HD (f190_c s B g lb p w hs hp eg)
 clear hs hp eg
 go_enter Tryz.func151, Tryz.ntmps151
 go_wp2_with fail
 refine H.out.mono ?_
 rintro e w' ⟨rfl, hb⟩
 go_wp2
 go_ret
 exact ⟨rfl, hb⟩
set_option maxHeartbeats 1000000 in
theorem f150_c (s : Sl Int) (B g : Nat) (lb : Array Value) (p : Int -> Bool) (w : World) (hs : s.Ok encI 1 okT B w)
 (hp : Asks g lb (fun y => .int .i64 y) p s.xs w) (eg : ∀ args w, (callFunc g args).run Tryz.prog w = .ok (.enter g args) w) :
 Calls Tryz.prog 150 #[s.val, .func (.func g) #[] lb] w fun e w' => e = .returned (.int .i64 (ix p s.xs)) /\ Bl w w' := by
 have hr := hs.room
 obtain ⟨A, c, xs⟩ := s
 simp only at hr hp
 by_cases h0 : xs = []
 ·subst h0
  clear hp hs
  show Calls Tryz.prog 150 #[.slice A 0 c, .func (.func g) #[] lb] w _
  go_enter Tryz.func150, Tryz.ntmps150
  go_wp2
  refine wp_loop_rounds 1 ?_
  rw [rounds_succ]
  go_wp2
  go_ret
  exact ⟨rfl, Bl.refl _⟩
 ·obtain ⟨b, off, hA, hB, hw, hc⟩ := hs.place h0
  simp only at hA
  subst hA
  have hrow := fun W hb i hi => Sl.Ok.cells hs rfl W hb i hi
  clear hs hc h0
  simp only at hrow
  show Calls Tryz.prog 150 #[.slice (some ⟨b, off, none⟩) xs.length c, .func (.func g) #[] lb] w _
  go_enter Tryz.func150, Tryz.ntmps150
  go_wp2
  go_loopg [5, 8] xs.length (fun gg _ s8 wr => ∃ kk : Nat, kk ≤ xs.length /\ xs.length - kk ≤ gg /\ s8 = .int .i64 kk /\ Aside (Bl w wr) /\ Aside (∀ j (hj : j < xs.length), j < kk -> p xs[j] = false))
  case atStart => exact ⟨0, Nat.zero_le _, by omega, rfl, Bl.refl w, fun j _ hj => absurd hj (Nat.not_lt_zero _)⟩
  case round =>
   obtain ⟨kk, hkk, hg, rfl, BW, A⟩ := hrel
   by_cases hlt : kk < xs.length
   ·have hltz : (kk : Int) < (xs.length : Int) := by omega
    have hc := hrow wr BW.out kk (by omega)
    have hcall := hp wr xs[kk] (List.getElem_mem _) BW.out
    clear hrow hp
    dsimp only at hcall
    generalize hy : xs[kk] = y at hc hcall
    have Y := HD hy; clear hy
    have c0 : wr.cell? ⟨b, off + kk, none⟩ = some (.int .i64 y) := by have := hc 0 _ rfl; rwa [Nat.mul_one] at this
    clear hc
    have HC := HD hcall; clear hcall
    cases hq : p y
    all_goals
     rw [hq] at HC
     have HQ := HD hq; clear hq
     go_wp2_with fail
     refine HC.out.mono ?_
     clear HC
     rintro e w' ⟨rfl, hb'⟩
     clear eg c0
     go_wp2
    ·go_roundg (xs.length - (kk + 1))
     case measure => omega
     case rel =>
      refine ⟨kk + 1, by omega, by omega, by go_num, BW.out.trans hb', (show Aside _ from fun j hj hjk => ?_)⟩
      by_cases e : j = kk
      ·subst e
       rw [Y.out]; exact HQ.out
      ·exact A.out j hj (by omega)
    ·go_ret
     refine ⟨?_, BW.out.trans hb'⟩
     rw [ix_hit p xs kk hlt (by rw [Y.out]; exact HQ.out) (fun j hj => A.out j (by omega) hj)]; rfl
   ·have hltz : ¬ (kk : Int) < (xs.length : Int) := by omega
    have : kk = xs.length := by omega
    subst this
    go_wp2
    go_ret
    refine ⟨?_, BW.out⟩
    rw [ix_miss p xs (fun x hx => by obtain ⟨j, hj, rfl⟩ := List.getElem_of_mem hx; exact A.out j hj hj)]; rfl
theorem f107_c (s : Sl Int) (B g : Nat) (lb : Array Value) (p : Int -> Bool) (w : World) (hs : s.Ok encI 1 okT B w)
 (hp : Asks g lb (fun y => .int .i64 y) p s.xs w) (eg : ∀ args w, (callFunc g args).run Tryz.prog w = .ok (.enter g args) w) :
 Calls Tryz.prog 107 #[s.val, .func (.func g) #[] lb] w fun e w' => e = .returned (.bool (s.xs.any p)) /\ Bl w w' := by
 rw [any_ix]
 have H := HD (f150_c s B g lb p w hs hp eg)
 clear hs hp eg
 go_enter Tryz.func107, Tryz.ntmps107
 go_wp2_with fail
 refine H.out.mono ?_
 rintro e w' ⟨rfl, hb⟩
 go_wp2
 go_ret
 exact ⟨rfl, hb⟩
end Go.Proofs.YtnnhnkpoekbahaaGreat
namespace Go.Proofs.YtnnhnkpoekbahaaGreat
open Go.RowKit
set_option maxHeartbeats 400000
set_option linter.unusedSimpArgs false
set_option linter.unusedVariables false
set_option maxRecDepth 100000
instance : Inhabited Knot := ⟨⟨0, 0⟩⟩
def fitK (n : Int) : Bool := inR (-1125899906842624) 1125899906842624 n
def knotOk (xs : List Knot) (i : Nat) : Bool := fitK xs[i]!.x && fitK xs[i]!.y && (decide (i = 0) || (decide (xs[i-1]!.x < xs[i]!.x) && decide (xs[i-1]!.y ≤ xs[i]!.y)))
def tabB (xs : List Knot) : Bool := decide (1 ≤ xs.length) && decide (xs.length ≤ 100) && (List.range xs.length).all (knotOk xs)
theorem tabB_true {xs : List Knot} (h1 : 1 ≤ xs.length) (h2 : xs.length ≤ 100) (h : ∀ j, j < xs.length -> knotOk xs j = true) : tabB xs = true := by
 simp only [tabB, Bool.and_eq_true, decide_eq_true_eq, List.all_eq_true, List.mem_range]
 exact ⟨⟨h1, h2⟩, h⟩
theorem tabB_false {xs : List Knot} (j : Nat) (hj : j < xs.length) (h : knotOk xs j = false) : tabB xs = false := by
 rw [Bool.eq_false_iff]
 intro ht
 simp only [tabB, Bool.and_eq_true, decide_eq_true_eq, List.all_eq_true, List.mem_range] at ht
 rw [ht.2 j hj] at h; cases h
theorem fit_c {n : Int} {b : Bool} (h : fitK n = b) (w : World) : Calls Tryz.prog 135 #[.int .i64 n] w fun e w' => e = .returned (.bool b) /\ w = w' :=
 (f135_c n w).mono fun _ _ ⟨h1, h2⟩ => ⟨h1.trans (ret_bool h), h2⟩
set_option maxHeartbeats 2000000 in
theorem f94_c (s : Sl Knot) (w : World) (hs : InK w s) : Calls Tryz.prog 94 #[s.val] w fun e w' => e = .returned (.bool (tabB s.xs)) /\ Bl w w' := by
 have hr := hs.room
 obtain ⟨A, c, xs⟩ := s
 simp only at hr
 by_cases h0 : xs = []
 ·subst h0
  clear hs
  show Calls Tryz.prog 94 #[.slice A 0 c] w _
  go_enter Tryz.func94, Tryz.ntmps94
  go_wp2
  go_ret
  exact ⟨rfl, Bl.refl _⟩
 ·obtain ⟨b, off, hA, hB, hw, hc⟩ := hs.place h0
  simp only at hA
  subst hA
  have hrow := fun W hb i hi => Sl.Ok.cells hs rfl W hb i hi
  have hne : 1 ≤ xs.length := by cases xs with | nil => exact absurd rfl h0 | cons a l => simp
  clear hs hc h0
  simp only at hrow
  show Calls Tryz.prog 94 #[.slice (some ⟨b, off, none⟩) xs.length c] w _
  by_cases h100 : xs.length ≤ 100
  ·have h100' : ¬ 100 < xs.length := by omega
   go_enter Tryz.func94, Tryz.ntmps94
   go_wp2_with fail
   go_loopg [15] xs.length (fun gg s15 wr => ∃ kk : Nat, kk ≤ xs.length /\ xs.length - kk ≤ gg /\ s15 = .int .i64 kk /\ Aside (Bl w wr) /\ Aside (∀ j, j < kk -> knotOk xs j = true))
   case atStart => exact ⟨0, Nat.zero_le _, by omega, rfl, Bl.refl w, fun j hj => absurd hj (Nat.not_lt_zero _)⟩
   case round =>
    obtain ⟨kk, hkk, hg, rfl, BW, A⟩ := hrel
    by_cases hlt : kk < xs.length
    ·have hltz : (kk : Int) < (xs.length : Int) := by omega
     have hc := hrow wr BW.out kk (by omega)
     have hd : xs[kk]! = xs[kk] := getElem!_pos xs kk hlt
     have KO : knotOk xs kk = (fitK xs[kk]!.x && fitK xs[kk]!.y && (decide (kk = 0) || (decide (xs[kk-1]!.x < xs[kk]!.x) && decide (xs[kk-1]!.y ≤ xs[kk]!.y)))) := rfl
     rw [<- hd] at hc
     generalize xs[kk]! = y at hc KO
     clear hd
     have c0 : wr.cell? ⟨b, off + kk * 2, none⟩ = some (.int .i64 y.x) := hc 0 _ rfl
     have c1 : wr.cell? ⟨b, off + kk * 2 + 1, none⟩ = some (.int .i64 y.y) := hc 1 _ rfl
     clear hc
     by_cases hk0 : kk = 0
     ·have hk1 : ¬ (0 : Int) < (kk : Int) := by omega
      have hk2 : decide ((0 : Int) < (kk : Int)) = false := by simpa using hk1
      have hk3 : decide (0 < kk) = false := by simp [hk0]
      have KO2 : knotOk xs kk = (fitK y.x && fitK y.y) := by rw [KO]; simp [hk0]
      have HK := HD KO2; clear KO KO2 hk0
      have LC := @Later.cell
      have hbw : b < wr.heap.size + 1 := by have := BW.out.size; omega
      cases hx : fitK y.x <;> cases hy : fitK y.y
      all_goals
       have HF : Hid (knotOk xs kk = (fitK y.x && fitK y.y)) := HK
       rw [hx, hy] at HF
       go_wp2_with fail
       refine wp_region_later (by kernel_rfl) (by kernel_rfl) ?_
       repeat (go_big_quiet_step ((go_at_call 135; first | (with_reducible exact Calls.later_same (fit_c hx _)) | (with_reducible exact Calls.later_same (fit_c hy _)))))
       refine wpQuiet_nil ?_
       intro W hW
       go_wp2_with fail
      all_goals first
       | (go_ret
          exact ⟨ret_bool (tabB_false kk hlt HF).symm, BW.out.trans bz⟩)
       | (go_roundg (xs.length - (kk + 1))
          case measure => omega
          case rel =>
           refine ⟨kk + 1, by omega, by omega, by go_num, BW.out.trans bz, (show Aside _ from fun j hj => ?_)⟩
           by_cases e : j = kk
           ·subst e; exact HF
           ·exact A.out j (by omega))
     ·have hk1 : (0 : Int) < (kk : Int) := by omega
      have hk4 : 0 < kk := by omega
      have hk2 : decide ((0 : Int) < (kk : Int)) = true := by simpa using hk4
      have hk3 : decide (0 < kk) = true := by simpa using hk4
      have hc := hrow wr BW.out (kk - 1) (by omega)
      have hd : xs[kk - 1]! = xs[kk - 1]'(by omega) := getElem!_pos xs (kk - 1) (by omega)
      rw [<- hd] at hc
      generalize xs[kk - 1]! = z at hc KO
      clear hd
      have d0 : wr.cell? ⟨b, off + (kk - 1) * 2, none⟩ = some (.int .i64 z.x) := hc 0 _ rfl
      have d1 : wr.cell? ⟨b, off + (kk - 1) * 2 + 1, none⟩ = some (.int .i64 z.y) := hc 1 _ rfl
      clear hc
      have KO2 : knotOk xs kk = (fitK y.x && fitK y.y && (decide (z.x < y.x) && decide (z.y ≤ y.y))) := by rw [KO]; simp [hk0]
      have HK := HD KO2; clear KO KO2 hk0
      have LC := @Later.cell
      have hbw : b < wr.heap.size + 1 := by have := BW.out.size; omega
      have hcase : (fitK y.x = false /\ knotOk xs kk = false) \/ (fitK y.x = true /\ fitK y.y = false /\ knotOk xs kk = false) \/ (fitK y.x = true /\ fitK y.y = true /\ decide (y.x ≤ z.x) = true /\ knotOk xs kk = false) \/
       (fitK y.x = true /\ fitK y.y = true /\ decide (y.x ≤ z.x) = false /\ decide (y.y < z.y) = true /\ knotOk xs kk = false) \/ (fitK y.x = true /\ fitK y.y = true /\ decide (y.x ≤ z.x) = false /\ decide (y.y < z.y) = false /\ knotOk xs kk = true) := by
       rw [HK.out]
       cases fitK y.x <;> cases fitK y.y <;> simp <;> omega
      clear LC
      have e0 : ∀ x : Later (wr.alloc (Obj.cells #[.int .i64 y.x, .int .i64 y.y] 64)), x.at'.cell? ⟨b, off + (kk - 1) * 2, none⟩ = some (.int .i64 z.x) := fun x => x.keep (((Bl.refl wr).alloc _).keep d0)
      have e1 : ∀ x : Later (wr.alloc (Obj.cells #[.int .i64 y.x, .int .i64 y.y] 64)), x.at'.cell? ⟨b, off + (kk - 1) * 2 + 1, none⟩ = some (.int .i64 z.y) := fun x => x.keep (((Bl.refl wr).alloc _).keep d1)
      have e2 : ∀ x : Later (wr.alloc (Obj.cells #[.int .i64 y.x, .int .i64 y.y] 64)), x.at'.cell? ⟨wr.heap.size, 0, none⟩ = some (.int .i64 y.x) := fun x => x.keep (by simp [go_sem])
      have e3 : ∀ x : Later (wr.alloc (Obj.cells #[.int .i64 y.x, .int .i64 y.y] 64)), x.at'.cell? ⟨wr.heap.size, 1, none⟩ = some (.int .i64 y.y) := fun x => x.keep (by simp [go_sem])
      have iw1 : IntKind.i64.wrap ((kk : Int) - 1) = (kk : Int) - 1 := IntWalk.i64_in _ (by omega)
      have iw2 : (0 : Int) ≤ (kk : Int) - 1 := by omega
      have iw3 : (1 : Int) ≤ (kk : Int) := by omega
      have iw4 : ((kk : Int) - 1).toNat = kk - 1 := by omega
      have iw5 : (kk : Int) - 1 < (xs.length : Int) := by omega
      rcases hcase with ⟨hx, KF⟩ | ⟨hx, hy, KF⟩ | ⟨hx, hy, h1, KF⟩ | ⟨hx, hy, h1, h2, KF⟩ | ⟨hx, hy, h1, h2, KF⟩
      all_goals
       have HF := HD KF
       clear KF HK
       go_wp2_with fail
       refine wp_region_later (by kernel_rfl) (by kernel_rfl) ?_
       repeat (go_big_quiet_step ((go_at_call 135; first | (with_reducible exact Calls.later_same (fit_c hx _)) | (with_reducible exact Calls.later_same (fit_c hy _)))))
       refine wpQuiet_nil ?_
       intro W hW
       go_wp2_with fail
      all_goals first
       | (go_ret
          exact ⟨ret_bool (tabB_false kk hlt HF).symm, BW.out.trans bz⟩)
       | (go_roundg (xs.length - (kk + 1))
          case measure => omega
          case rel =>
           refine ⟨kk + 1, by omega, by omega, by go_num, BW.out.trans bz, (show Aside _ from fun j hj => ?_)⟩
           by_cases e : j = kk
           ·subst e; exact HF
           ·exact A.out j (by omega))
    ·have hltz : ¬ (kk : Int) < (xs.length : Int) := by omega
     have : kk = xs.length := by omega
     subst this
     have hn := HD (tabB_true hne h100 A.out)
     clear hrow
     go_wp2
     go_ret
     exact ⟨ret_bool hn.out.symm, BW.out⟩
  ·have h100' : 100 < xs.length := by omega
   have hn : tabB xs = false := by simp [tabB, h100]
   have HN := HD hn; clear hn h100
   go_enter Tryz.func94, Tryz.ntmps94
   go_wp2
   go_ret
   exact ⟨ret_bool HN.out.symm, Bl.refl _⟩
def cmpK (a : Knot) (x : Int) : Int := if a.x < x then -1 else if x < a.x then 1 else 0
theorem f137_c (a : Knot) (x : Int) (w : World) : Calls Tryz.prog 137 #[a.val, .int .i64 x] w fun e w' => e = .returned (.int .i64 (cmpK a x)) /\ Bl w w' := by
 rcases Int.lt_trichotomy a.x x with h | h | h
 ·have hn := HD (show cmpK a x = -1 by simp [cmpK, h])
  go_enter Tryz.func137, Tryz.ntmps137
  go_wp2
  go_ret
  exact ⟨ret_int hn.out.symm, bz⟩
 ·have hn := HD (show cmpK a x = 0 by simp [cmpK, h])
  have h1 : ¬ a.x < x := by omega
  have h2 : ¬ x < a.x := by omega
  clear h
  go_enter Tryz.func137, Tryz.ntmps137
  go_wp2
  go_ret
  exact ⟨ret_int hn.out.symm, bz⟩
 ·have h1 : ¬ a.x < x := by omega
  have hn := HD (show cmpK a x = 1 by simp [cmpK, h, h1])
  go_enter Tryz.func137, Tryz.ntmps137
  go_wp2
  go_ret
  exact ⟨ret_int hn.out.symm, bz⟩
def RSearch (n : Nat) (w : World) (e : Ending) (w' : World) : Prop := ∃ (k : Nat) (f : Bool), k ≤ n /\ (f = true -> k < n) /\ e = .returned (.tuple #[.int .i64 k, .bool f]) /\ Bl w w'
set_option maxHeartbeats 2000000 in
theorem f136_c (s : Sl Knot) (x : Int) (w : World) (hs : InK w s) (h100 : s.xs.length ≤ 100) : Calls Tryz.prog 136 #[s.val, .int .i64 x, .func (.func 137) #[] #[]] w (RSearch s.xs.length w) := by
 obtain ⟨A, c, xs⟩ := s
 simp only at h100
 by_cases h0 : xs = []
 ·subst h0
  clear hs
  show Calls Tryz.prog 136 #[.slice A 0 c, .int .i64 x, .func (.func 137) #[] #[]] w _
  go_enter Tryz.func136, Tryz.ntmps136
  go_wp2
  refine wp_loop_rounds 1 ?_
  rw [rounds_succ]
  go_wp2
  go_ret2
  exact ⟨0, false, by simp, by simp, rfl, Bl.refl _⟩
 ·obtain ⟨b, off, hA, hB, hw, hc⟩ := hs.place h0
  simp only at hA
  subst hA
  have hrow := fun W hb i hi => Sl.Ok.cells hs rfl W hb i hi
  have hne : 1 ≤ xs.length := by cases xs with | nil => exact absurd rfl h0 | cons a l => simp
  clear hs hc h0
  simp only at hrow
  show Calls Tryz.prog 136 #[.slice (some ⟨b, off, none⟩) xs.length c, .int .i64 x, .func (.func 137) #[] #[]] w (RSearch xs.length w)
  go_enter Tryz.func136, Tryz.ntmps136
  go_wp2_with fail
  go_loopg [9, 10] xs.length (fun gg s9 s10 wr => ∃ i j : Nat, i ≤ j /\ j ≤ xs.length /\ j - i ≤ gg /\ s9 = .int .i64 i /\ s10 = .int .i64 j /\ Aside (Bl w wr))
  case atStart => exact ⟨0, xs.length, by omega, Nat.le_refl _, by omega, rfl, rfl, Bl.refl w⟩
  case round =>
   obtain ⟨i, j, hij, hj, hg, rfl, rfl, BW⟩ := hrel
   by_cases hlt : i < j
   ·have hltz : (i : Int) < (j : Int) := by omega
    have hm : (i + j) / 2 < xs.length := by omega
    have hc := hrow wr BW.out ((i + j) / 2) hm
    generalize xs[(i + j) / 2] = y at hc
    have c0 : wr.cell? ⟨b, off + (i + j) / 2 * 2, none⟩ = some (.int .i64 y.x) := hc 0 _ rfl
    have c1 : wr.cell? ⟨b, off + (i + j) / 2 * 2 + 1, none⟩ = some (.int .i64 y.y) := hc 1 _ rfl
    clear hc hrow
    go_wp2_with fail
    refine (f137_c y _ _).mono ?_
    rintro e w' ⟨rfl, hw⟩
    go_wp2_with fail
    ·go_roundg (j - ((i + j) / 2 + 1))
     case measure => omega
     case rel => exact ⟨(i + j) / 2 + 1, j, by omega, by omega, by omega, by go_num, rfl, BW.out.trans bz⟩
    ·go_roundg ((i + j) / 2 - i)
     case measure => omega
     case rel => exact ⟨i, (i + j) / 2, by omega, by omega, by omega, rfl, by go_num, BW.out.trans bz⟩
   ·have hltz : ¬ (i : Int) < (j : Int) := by omega
    by_cases hn : i < xs.length
    ·have hnz : (i : Int) < (xs.length : Int) := by omega
     have hc := hrow wr BW.out i hn
     generalize xs[i] = y at hc
     have c0 : wr.cell? ⟨b, off + i * 2, none⟩ = some (.int .i64 y.x) := hc 0 _ rfl
     have c1 : wr.cell? ⟨b, off + i * 2 + 1, none⟩ = some (.int .i64 y.y) := hc 1 _ rfl
     clear hc hrow
     go_wp2_with fail
     refine (f137_c y _ _).mono ?_
     rintro e w' ⟨rfl, hw⟩
     go_wp2
     go_ret2
     exact ⟨i, _, by omega, fun _ => hn, rfl, BW.out.trans bz⟩
    ·have hnz : ¬ (i : Int) < (xs.length : Int) := by omega
     clear hrow
     go_wp2
     go_ret2
     exact ⟨i, false, by omega, by simp, rfl, BW.out⟩
set_option maxHeartbeats 2000000 in
theorem f95_c (s : Sl Knot) (x : Int) (w : World) (hs : InK w s) (ht : tabB s.xs = true) : Calls Tryz.prog 95 #[s.val, .int .i64 x] w fun e w' => ∃ n r d : Int, (s.xs.length = 1 -> n = s.xs[0]!.y) /\ e = .returned (.tuple #[.int .i64 n, .int .i64 r, .int .i64 d]) /\ Bl w w' := by
 have hl : 1 ≤ s.xs.length /\ s.xs.length ≤ 100 := by simp only [tabB, Bool.and_eq_true, decide_eq_true_eq] at ht; exact ht.1
 obtain ⟨A, c, xs⟩ := s
 simp only at hl
 have h0 : xs ≠ [] := by intro e; rw [e] at hl; simp at hl
 obtain ⟨b, off, hA, hB, hw, hc⟩ := hs.place h0
 simp only at hA
 subst hA
 have hrow := fun W hb i hi => Sl.Ok.cells hs rfl W hb i hi
 have hf := HD (fun W (hb : Bl w W) => f136_c ⟨some ⟨b, off, none⟩, c, xs⟩ x W (hs.up hb) hl.2)
 obtain ⟨hl1, hl2⟩ := hl
 clear hs hc h0 ht
 simp only at hrow
 have H := HD hrow; clear hrow
 show Calls Tryz.prog 95 #[.slice (some ⟨b, off, none⟩) xs.length c, .int .i64 x] w _
 go_enter Tryz.func95, Tryz.ntmps95
 go_wp2_with fail
 refine (hf.out _ bz).mono ?_
 rintro e w1 ⟨k, f, hk, hkf, rfl, hw1⟩
 clear hf
 have hbw : Bl w w1 := bz
 have hcase : (f = true) \/ (f = false /\ k = 0) \/ (f = false /\ k ≠ 0 /\ k = xs.length) \/ (f = false /\ 0 < k /\ k < xs.length) := by
  cases f
  ·right
   rcases Nat.eq_zero_or_pos k with h | h
   ·exact .inl ⟨rfl, h⟩
   ·rcases Nat.lt_or_ge k xs.length with h' | h'
    ·exact .inr (.inr ⟨rfl, h, h'⟩)
    ·exact .inr (.inl ⟨rfl, by omega, by omega⟩)
  ·exact .inl rfl
 rcases hcase with rfl | ⟨rfl, h0⟩ | ⟨rfl, h0, h1⟩ | ⟨rfl, h0, h1⟩
 ·have hk1 := hkf rfl
  have hk2 : (k : Int) < (xs.length : Int) := by omega
  have hc := H.out w1 hbw k hk1
  have hone := HD (show xs.length = 1 -> xs[k].y = xs[0]!.y by
   intro h
   obtain rfl : k = 0 := by omega
   rw [getElem!_pos xs 0 (by omega)])
  generalize xs[k] = y at hc hone
  have c1 : w1.cell? ⟨b, off + k * 2 + 1, none⟩ = some (.int .i64 y.y) := hc 1 _ rfl
  clear hc hkf
  go_wp2
  go_ret3
  exact ⟨_, _, _, hone.out, rfl, bz⟩
 ·have hk1 : k < xs.length := by omega
  have hk2 : (k : Int) < (xs.length : Int) := by omega
  have hk3 : ((k : Int) == 0) = true := by simp [h0]
  have hc := H.out w1 hbw k hk1
  have hone := HD (show xs.length = 1 -> xs[k].y = xs[0]!.y by
   intro h
   obtain rfl : k = 0 := by omega
   rw [getElem!_pos xs 0 (by omega)])
  generalize xs[k] = y at hc hone
  have c1 : w1.cell? ⟨b, off + k * 2 + 1, none⟩ = some (.int .i64 y.y) := hc 1 _ rfl
  clear hc hkf h0
  go_wp2
  go_ret3
  exact ⟨_, _, _, hone.out, rfl, bz⟩
 ·have hk1 : k - 1 < xs.length := by omega
  have hk2 : (k : Int) - 1 < (xs.length : Int) := by omega
  have hk3 : ((k : Int) == 0) = false := by simpa using h0
  have hk4 : ((k : Int) == (xs.length : Int)) = true := by simp [h1]
  have hk5 : (1 : Int) ≤ (k : Int) := by omega
  have hc := H.out w1 hbw (k - 1) hk1
  have hone := HD (show xs.length = 1 -> xs[k - 1].y = xs[0]!.y by
   intro h
   obtain rfl : k = 1 := by omega
   rw [getElem!_pos xs 0 (by omega)])
  generalize xs[k - 1] = y at hc hone
  have c1 : w1.cell? ⟨b, off + (k - 1) * 2 + 1, none⟩ = some (.int .i64 y.y) := hc 1 _ rfl
  clear hc hkf h0 h1
  go_wp2
  go_ret3
  exact ⟨_, _, _, hone.out, rfl, bz⟩
 ·have hk1 : k - 1 < xs.length := by omega
  have hk2 : (k : Int) - 1 < (xs.length : Int) := by omega
  have hk6 : (k : Int) < (xs.length : Int) := by omega
  have hk3 : ((k : Int) == 0) = false := by simp; omega
  have hk4 : ((k : Int) == (xs.length : Int)) = false := by simp; omega
  have hk5 : (1 : Int) ≤ (k : Int) := by omega
  have hc := H.out w1 hbw (k - 1) hk1
  have hd := H.out w1 hbw k h1
  have hone := HD (show xs.length ≠ 1 by omega)
  generalize xs[k - 1] = y at hc
  generalize xs[k] = z at hd
  have c0 : w1.cell? ⟨b, off + (k - 1) * 2, none⟩ = some (.int .i64 y.x) := hc 0 _ rfl
  have c1 : w1.cell? ⟨b, off + (k - 1) * 2 + 1, none⟩ = some (.int .i64 y.y) := hc 1 _ rfl
  have d0 : w1.cell? ⟨b, off + k * 2, none⟩ = some (.int .i64 z.x) := hd 0 _ rfl
  have d1 : w1.cell? ⟨b, off + k * 2 + 1, none⟩ = some (.int .i64 z.y) := hd 1 _ rfl
  clear hc hd hkf
  go_wp2_with fail
  have iw1 : IntKind.i64.wrap ((k : Int) - 1) = (k : Int) - 1 := IntWalk.i64_in _ (by omega)
  have iw2 : (0 : Int) ≤ (k : Int) - 1 := by omega
  have iw4 : ((k : Int) - 1).toNat = k - 1 := by omega
  have iw6 : (0 : Int) ≤ (k : Int) := by omega
  have n0 := World.new_ne w1 _ c0
  have n1 := World.new_ne w1 _ c1
  have n2 := World.new_ne w1 _ d0
  have n3 := World.new_ne w1 _ d1
  go_region_held3 (fun w' => w'.cell? ⟨b, off + (k - 1) * 2, none⟩ = some (.int .i64 y.x) /\ w'.cell? ⟨b, off + (k - 1) * 2 + 1, none⟩ = some (.int .i64 y.y) /\ w'.cell? ⟨b, off + k * 2, none⟩ = some (.int .i64 z.x) /\ w'.cell? ⟨b, off + k * 2 + 1, none⟩ = some (.int .i64 z.y)) (go_keep) (fail)
  all_goals
   clear n0 n1 n2 n3 c0 c1 d0 d1 iw1 iw2 iw4 iw6 hk1 hk2 hk3 hk4 hk5 hk6 h0 h1
   go_wp2_with fail
   go_quiet (fail)
   go_wp2_with fail
  all_goals
   refine (f138_c _ _ _ _).mono ?_
   rintro e w2 ⟨q1, q2, q3, rfl, hw2⟩
   obtain ⟨hchw2, hfhw2, hzhw2⟩ := Bl.rules hw2; (try simp only [aZ, cZ, dZ, nZ] at hzhw2)
   have z0 : w1.heap.size < w2.heap.size := by omega
   have z1 : w1.heap.size + 1 < w2.heap.size := by omega
   go_wp2_with fail
   refine (f139_c _ _ _).mono ?_
   rintro e w3 ⟨p1, p2, p3, rfl, hw3⟩
   obtain ⟨hchw3, hfhw3, hzhw3⟩ := Bl.rules hw3; (try simp only [aZ, cZ, dZ, nZ] at hzhw3)
   have z0' : w1.heap.size < w3.heap.size := by omega
   have z1' : w1.heap.size + 1 < w3.heap.size := by omega
   go_wp2_with fail
   refine (f139_c _ _ _).mono ?_
   rintro e w4 ⟨p4, p5, p6, rfl, hw4⟩
   obtain ⟨hchw4, hfhw4, hzhw4⟩ := Bl.rules hw4; (try simp only [aZ, cZ, dZ, nZ] at hzhw4)
   have z2' : w1.heap.size < w4.heap.size := by omega
   have z3' : w1.heap.size + 1 < w4.heap.size := by omega
   have z6' : w3.heap.size < w4.heap.size := by omega
   go_wp2_with fail
   refine (f140_c _ _ _ _ _).mono ?_
   rintro e w5 ⟨p7, p8, p9, rfl, hw5⟩
   obtain ⟨hchw5, hfhw5, hzhw5⟩ := Bl.rules hw5; (try simp only [aZ, cZ, dZ, nZ] at hzhw5)
   have z4' : w1.heap.size < w5.heap.size := by omega
   have z5' : w1.heap.size + 1 < w5.heap.size := by omega
   have z7' : w3.heap.size < w5.heap.size := by omega
   have z8' : w4.heap.size < w5.heap.size := by omega
   go_wp2_with fail
   refine (f141_c _ _ _).mono ?_
   rintro e w6 ⟨p10, p11, rfl, hw6⟩
   obtain ⟨hchw6, hfhw6, hzhw6⟩ := Bl.rules hw6; (try simp only [aZ, cZ, dZ, nZ] at hzhw6)
   go_wp2
   go_ret3
   exact ⟨_, _, _, fun h => absurd h hone.out, rfl, bz⟩
theorem f65_c (s : Sl Knot) (x : Int) (w : World) (hs : InK w s) (ht : tabB s.xs = true) : Calls Tryz.prog 65 #[s.val, .int .i64 x] w fun e w' => ∃ n : Int, (s.xs.length = 1 -> n = s.xs[0]!.y) /\ e = .returned (.tuple #[.int .i64 n, .int .i64 0]) /\ Bl w w' := by
 have h1 := HD (f94_c s w hs)
 rw [ht] at h1
 have h2 := HD (fun W (hb : Bl w W) => f95_c s x W (hs.up hb) ht)
 clear hs ht
 go_enter Tryz.func65, Tryz.ntmps65
 go_wp2_with fail
 refine h1.out.mono ?_
 rintro e w1 ⟨rfl, hw1⟩
 go_wp2_with fail
 refine (h2.out _ bz).mono ?_
 rintro e w2 ⟨n, r, d, hn, rfl, hw2⟩
 have HN := HD hn; clear hn
 go_wp2
 go_ret2
 exact ⟨n, HN.out, rfl, bz⟩
theorem f65_any (s : Sl Knot) (x : Int) (w : World) (hs : InK w s) : Calls Tryz.prog 65 #[s.val, .int .i64 x] w (RIE w) := by
 cases ht : tabB s.xs
 ·have h1 := HD (f94_c s w hs)
  rw [ht] at h1
  clear hs ht
  go_enter Tryz.func65, Tryz.ntmps65
  go_wp2_with fail
  refine h1.out.mono ?_
  rintro e w1 ⟨rfl, hw1⟩
  go_wp2
  go_ret2
  exact ⟨_, _, rfl, bz⟩
 ·exact (f65_c s x w hs ht).mono fun e w' ⟨n, _, he, hb⟩ => ⟨n, 0, he, hb⟩
theorem e189 (args : Array Value) (w : World) : (callFunc 189 args).run Tryz.prog w = .ok (.enter 189 args) w := enters_of Tryz.func189 (by kernel_rfl) rfl args w
theorem f189_c (a : Knot) (B : Nat) (y : Int) (w : World) (hc : w.cell? ⟨B, 0, none⟩ = some (.int .i64 y)) : Calls Tryz.prog 189 #[a.val, .pointer (some ⟨B, 0, none⟩)] w fun e w' => e = .returned (.bool (decide (y < a.y))) /\ Bl w w' := by
 have hB := cell_lt hc
 have hB' : B < w.heap.size := hB
 go_enter Tryz.func189, Tryz.ntmps189
 go_wp2
 go_ret
 exact ⟨rfl, bz⟩
theorem asks189 (B : Nat) (y : Int) (xs : List Knot) (w : World) (hc : w.cell? ⟨B, 0, none⟩ = some (.int .i64 y)) : Asks 189 #[.pointer (some ⟨B, 0, none⟩)] (fun y => .agg #[.int .i64 y.x, .int .i64 y.y]) (fun a : Knot => decide (y < a.y)) xs w :=
 fun W x _ hb => f189_c x B y W (hb.keep hc)
set_option maxHeartbeats 2000000 in
theorem f149_c (s : Sl Knot) (y : Int) (w : World) (hs : InK w s) : Calls Tryz.prog 149 #[s.val, .int .i64 y] w (RIE w) := by
 cases ht : tabB s.xs
 ·have h1 := HD (fun W (hb : Bl w W) => f94_c s W (hs.up hb))
  have HT := HD ht
  clear hs ht
  go_enter Tryz.func149, Tryz.ntmps149
  go_wp2_with fail
  refine (h1.out _ bz).mono ?_
  rintro e w1 ⟨rfl, hw1⟩
  rw [HT.out]
  go_wp2
  go_ret2
  exact ⟨_, _, rfl, bz⟩
 ·have hl : 1 ≤ s.xs.length /\ s.xs.length ≤ 100 := by simp only [tabB, Bool.and_eq_true, decide_eq_true_eq] at ht; exact ht.1
  obtain ⟨A, c, xs⟩ := s
  simp only at hl ht
  have h0 : xs ≠ [] := by intro e; rw [e] at hl; simp at hl
  obtain ⟨b, off, hA, hB, hw, hc⟩ := hs.place h0
  simp only at hA
  subst hA
  have hrow := fun W hb i hi => Sl.Ok.cells hs rfl W hb i hi
  have h1 := HD (fun W (hb : Bl w W) => f94_c ⟨some ⟨b, off, none⟩, c, xs⟩ W (hs.up hb))
  have h2 := HD (fun W (hb : Bl w W) p g lb hp eg => f164_c ⟨some ⟨b, off, none⟩, c, xs⟩ W.heap.size g lb p W (hs.up hb) hp eg)
  have HT := HD ht
  obtain ⟨hl1, hl2⟩ := hl
  simp only at hrow
  have H := HD hrow
  clear hs ht hc h0 hrow
  show Calls Tryz.prog 149 #[.slice (some ⟨b, off, none⟩) xs.length c, .int .i64 y] w _
  go_enter Tryz.func149, Tryz.ntmps149
  go_wp2_with fail
  refine (h1.out _ bz).mono ?_
  rintro e w1 ⟨rfl, hw1⟩
  rw [HT.out]
  obtain ⟨hchw1, hfhw1, hzhw1⟩ := Bl.rules hw1; (try simp only [aZ, cZ, dZ, nZ] at hzhw1)
  go_wp2_with fail
  refine (h2.out _ bz _ _ _ (asks189 _ y _ _ (by rw [hchw1 _ _ (by simp)]; simp [go_sem])) e189).mono ?_
  rintro e w2 ⟨rfl, hw2⟩
  clear h1 h2 HT
  have hx := ix_cases (fun a : Knot => decide (y < a.y)) xs
  generalize ix (fun a : Knot => decide (y < a.y)) xs = r at hx
  have z0 : w.heap.size < w1.heap.size := by omega
  obtain ⟨hchw2, hfhw2, hzhw2⟩ := Bl.rules hw2; (try simp only [aZ, cZ, dZ, nZ] at hzhw2)
  have z1 : w.heap.size < w2.heap.size := by omega
  have hbw : Bl w w2 := bz
  have hrr : (r = -1) \/ (r = 0) \/ (∃ k : Nat, 0 < k /\ k < xs.length /\ r = (k : Int)) := by
   rcases hx with ⟨h, _⟩ | ⟨k, hk, h, _⟩
   ·exact .inl h
   ·rcases Nat.eq_zero_or_pos k with h' | h'
    ·exact .inr (.inl (by rw [h, h']; rfl))
    ·exact .inr (.inr ⟨k, h', hk, h⟩)
  clear hx
  rcases hrr with rfl | rfl | ⟨k, h0, h1, rfl⟩
  ·have hc := H.out w2 hbw (xs.length - 1) (by omega)
   have iw1 : IntKind.i64.wrap ((xs.length : Int) - 1) = (xs.length : Int) - 1 := IntWalk.i64_in _ (by omega)
   have iw2 : (0 : Int) ≤ (xs.length : Int) - 1 := by omega
   have iw3 : (1 : Int) ≤ (xs.length : Int) := by omega
   have iw4 : ((xs.length : Int) - 1).toNat = xs.length - 1 := by omega
   have iw5 : (xs.length : Int) - 1 < (xs.length : Int) := by omega
   generalize xs[xs.length - 1] = z at hc
   have c0 : w2.cell? ⟨b, off + (xs.length - 1) * 2, none⟩ = some (.int .i64 z.x) := hc 0 _ rfl
   clear hc
   go_wp2
   go_ret2
   exact ⟨_, _, rfl, bz⟩
  ·go_wp2
   go_ret2
   exact ⟨_, _, rfl, bz⟩
  ·have hk2 : (k : Int) - 1 < (xs.length : Int) := by omega
   have hk6 : (k : Int) < (xs.length : Int) := by omega
   have hk3 : ((k : Int) == 0) = false := by simp; omega
   have hk4 : ((k : Int) == -1) = false := by simp
   have hk5 : (1 : Int) ≤ (k : Int) := by omega
   have hc := H.out w2 hbw (k - 1) (by omega)
   have hd := H.out w2 hbw k h1
   generalize xs[k - 1] = y1 at hc
   generalize xs[k] = z at hd
   have c0 : w2.cell? ⟨b, off + (k - 1) * 2, none⟩ = some (.int .i64 y1.x) := hc 0 _ rfl
   have c1 : w2.cell? ⟨b, off + (k - 1) * 2 + 1, none⟩ = some (.int .i64 y1.y) := hc 1 _ rfl
   have d0 : w2.cell? ⟨b, off + k * 2, none⟩ = some (.int .i64 z.x) := hd 0 _ rfl
   have d1 : w2.cell? ⟨b, off + k * 2 + 1, none⟩ = some (.int .i64 z.y) := hd 1 _ rfl
   have own : w2.cell? ⟨w.heap.size, 0, none⟩ = some (.int .i64 y) := by rw [hchw2 _ _ (by omega), hchw1 _ _ (by simp)]; simp [go_sem]
   clear hc hd hchw1 hfhw1 hchw2 hfhw2
   go_wp2_with fail
   have iw1 : IntKind.i64.wrap ((k : Int) - 1) = (k : Int) - 1 := IntWalk.i64_in _ (by omega)
   have iw2 : (0 : Int) ≤ (k : Int) - 1 := by omega
   have iw4 : ((k : Int) - 1).toNat = k - 1 := by omega
   have iw6 : (0 : Int) ≤ (k : Int) := by omega
   have n0 := World.new_ne w2 _ c0
   have n1 := World.new_ne w2 _ c1
   have n2 := World.new_ne w2 _ d0
   have n3 := World.new_ne w2 _ d1
   go_region_held3 (fun w' => w'.cell? ⟨b, off + (k - 1) * 2, none⟩ = some (.int .i64 y1.x) /\ w'.cell? ⟨b, off + (k - 1) * 2 + 1, none⟩ = some (.int .i64 y1.y) /\ w'.cell? ⟨b, off + k * 2, none⟩ = some (.int .i64 z.x) /\ w'.cell? ⟨b, off + k * 2 + 1, none⟩ = some (.int .i64 z.y)) (go_keep) (fail)
   all_goals
    clear n0 n1 n2 n3 c0 c1 d0 d1 iw1 iw2 iw4 iw6 hk2 hk3 hk4 hk5 hk6 h0 h1
    go_wp2_with fail
   all_goals
    refine (f138_c _ _ _ _).mono ?_
    rintro e w3 ⟨q1, q2, q3, rfl, hw3⟩
    obtain ⟨hchw3, hfhw3, hzhw3⟩ := Bl.rules hw3; (try simp only [aZ, cZ, dZ, nZ] at hzhw3)
    have z2 : w2.heap.size < w3.heap.size := by omega
    have z3 : w2.heap.size + 1 < w3.heap.size := by omega
    go_wp2
    go_ret2
    exact ⟨_, _, rfl, bz⟩
set_option maxHeartbeats 1000000 in
theorem name_c (s : ByteArray) (w : World) : Calls Tryz.prog 100 #[.string s] w fun e w' => e = .returned (.bool (nameB s)) /\ w = w' := by
 by_cases h0 : s.size = 0
 ·have e := nil_of s h0
  have e2 : (!s.toList.isEmpty) = false := by rw [e]; rfl
  have hn : nameB s = false := by simp [nameB, h0]
  have HN := HD hn
  clear h0 hn
  go_enter Tryz.func100, Tryz.ntmps100
  go_wp2
  go_ret
  exact ⟨ret_bool HN.out.symm, rfl⟩
 ·have h0' : 0 < s.size := by omega
  have e := not_nil_of s h0
  have e2 : (!s.toList.isEmpty) = true := by rw [List.isEmpty_eq_false_iff.2 e]; rfl
  have hh := HD (headB_of s h0')
  by_cases h20 : s.size ≤ 20
  ·cases hl : letterB (s[0].toNat : Int)
   ·have hn : nameB s = false := by simp [nameB, hh.out, hl]
    have HN := HD hn
    clear h0 hn hh
    go_enter Tryz.func100, Tryz.ntmps100
    go_wp2_with (go_at_call 147; refine (f147_c _ _).mono ?_; rintro e w' ⟨rfl, rfl⟩)
    go_ret
    exact ⟨ret_bool HN.out.symm, rfl⟩
   ·have hn : nameB s = (wordLen s.data.toList == (s.size : Int)) := by rw [Bool.eq_iff_iff]; simp [nameB, hh.out, hl, h20]; omega
    have HN := HD hn
    clear h0 hn hh
    go_enter Tryz.func100, Tryz.ntmps100
    go_wp2_with (first | (go_at_call 147; refine (f147_c _ _).mono ?_; rintro e w' ⟨rfl, rfl⟩) | (go_at_call 148; refine (f148_c _ _ (by omega)).mono ?_; rintro e w' ⟨rfl, rfl⟩))
    go_ret
    exact ⟨ret_bool HN.out.symm, rfl⟩
  ·have hn : nameB s = false := by simp [nameB, h20]
   have HN := HD hn
   have h20' : 20 < s.size := by omega
   clear h0 hn hh h20
   go_enter Tryz.func100, Tryz.ntmps100
   go_wp2
   go_ret
   exact ⟨ret_bool HN.out.symm, rfl⟩
def curveB (xs : List Knot) (h m : Int) : Bool := tabB xs && decide (xs[0]!.x = 0) && decide (xs[0]!.y = 0) && decide (xs[xs.length - 1]!.x = h) && decide (xs[xs.length - 1]!.y ≤ m)
set_option maxHeartbeats 2000000 in
theorem f101_c (s : Sl Knot) (h m : Int) (w : World) (hs : InK w s) : Calls Tryz.prog 101 #[s.val, .int .i64 h, .int .i64 m] w fun e w' => e = .returned (.bool (curveB s.xs h m)) /\ Bl w w' := by
 cases ht : tabB s.xs
 ·have h1 := HD (f94_c s w hs)
  rw [ht] at h1
  have hn := HD (show curveB s.xs h m = false by simp [curveB, ht])
  clear hs ht
  go_enter Tryz.func101, Tryz.ntmps101
  go_wp2_with fail
  refine h1.out.mono ?_
  rintro e w1 ⟨rfl, hw1⟩
  go_wp2
  go_ret
  exact ⟨ret_bool hn.out.symm, bz⟩
 ·have h1 := HD (f94_c s w hs)
  rw [ht] at h1
  have hl : 1 ≤ s.xs.length /\ s.xs.length ≤ 100 := by simp only [tabB, Bool.and_eq_true, decide_eq_true_eq] at ht; exact ht.1
  obtain ⟨A, c, xs⟩ := s
  simp only at hl ht
  have h0 : xs ≠ [] := by intro e; rw [e] at hl; simp at hl
  obtain ⟨b, off, hA, hB, hw, hc⟩ := hs.place h0
  simp only at hA
  subst hA
  have hrow := fun W hb i hi => Sl.Ok.cells hs rfl W hb i hi
  obtain ⟨hl1, hl2⟩ := hl
  simp only at hrow
  have H := HD hrow
  have hn := HD (show curveB xs h m = (decide (xs[0]!.x = 0) && decide (xs[0]!.y = 0) && decide (xs[xs.length - 1]!.x = h) && decide (xs[xs.length - 1]!.y ≤ m)) by simp [curveB, ht])
  clear hs ht hc h0 hrow
  show Calls Tryz.prog 101 #[.slice (some ⟨b, off, none⟩) xs.length c, .int .i64 h, .int .i64 m] w _
  go_enter Tryz.func101, Tryz.ntmps101
  go_wp2_with fail
  refine h1.out.mono ?_
  rintro e w1 ⟨rfl, hw1⟩
  have hbw : Bl w w1 := bz
  have iw1 : IntKind.i64.wrap ((xs.length : Int) - 1) = (xs.length : Int) - 1 := IntWalk.i64_in _ (by omega)
  have iw2 : (0 : Int) ≤ (xs.length : Int) - 1 := by omega
  have iw3 : (1 : Int) ≤ (xs.length : Int) := by omega
  have iw4 : ((xs.length : Int) - 1).toNat = xs.length - 1 := by omega
  have iw5 : (xs.length : Int) - 1 < (xs.length : Int) := by omega
  have iw6 : (0 : Int) < (xs.length : Int) := by omega
  have hb1 : b < w1.heap.size := by have := hbw.size; omega
  have n0 : ∀ o j, (w1.alloc o).cell? ⟨b, j, none⟩ = w1.cell? ⟨b, j, none⟩ := fun o j => ((Bl.refl w1).alloc o).cell (p := ⟨b, j, none⟩) hb1
  have hc := H.out w1 hbw (xs.length - 1) (by omega)
  have hd := H.out w1 hbw 0 (by omega)
  have e1 : xs[xs.length - 1]! = xs[xs.length - 1] := getElem!_pos xs _ (by omega)
  have e2 : xs[0]! = xs[0] := getElem!_pos xs _ (by omega)
  rw [e1, e2] at hn
  clear e1 e2
  generalize xs[xs.length - 1] = z at hc hn
  generalize xs[0] = y at hd hn
  have c0 : w1.cell? ⟨b, off + (xs.length - 1) * 2, none⟩ = some (.int .i64 z.x) := hc 0 _ rfl
  have c1 : w1.cell? ⟨b, off + (xs.length - 1) * 2 + 1, none⟩ = some (.int .i64 z.y) := hc 1 _ rfl
  have d0 : w1.cell? ⟨b, off, none⟩ = some (.int .i64 y.x) := by have := hd 0 _ rfl; simpa using this
  have d1 : w1.cell? ⟨b, off + 1, none⟩ = some (.int .i64 y.y) := by have := hd 1 _ rfl; simpa using this
  clear hc hd
  by_cases hy : y.x = 0 /\ y.y = 0
  ·obtain ⟨hy1, hy2⟩ := hy
   have q1 : (y.x == 0) = true := by simpa using hy1
   have q2 : (y.y == 0) = true := by simpa using hy2
   by_cases hz : z.x = h
   ·have q3 : (z.x == h) = true := by simpa using hz
    have hf := HD (show curveB xs h m = decide (z.y ≤ m) by rw [hn.out]; simp [hy1, hy2, hz])
    clear hn hy1 hy2 hz
    go_wp2_with fail
    go_ret
    exact ⟨ret_bool hf.out.symm, bz⟩
   ·have q3 : (z.x == h) = false := by simpa using hz
    have hf := HD (show curveB xs h m = false by rw [hn.out]; simp [hy1, hy2, hz])
    clear hn hy1 hy2 hz
    go_wp2_with fail
    go_ret
    exact ⟨ret_bool hf.out.symm, bz⟩
  ·have hf := HD (show curveB xs h m = false by rw [hn.out]; simp; intro a b; exact absurd ⟨a, b⟩ hy)
   clear hn
   by_cases hy1 : y.x = 0
   ·have hy2 : y.y ≠ 0 := fun e => hy ⟨hy1, e⟩
    have q1 : (y.x == 0) = true := by simpa using hy1
    have q2 : (y.y == 0) = false := by simpa using hy2
    clear hy hy1 hy2
    go_wp2_with fail
    go_ret
    exact ⟨ret_bool hf.out.symm, bz⟩
   ·have q1 : (y.x == 0) = false := by simpa using hy1
    clear hy hy1
    go_wp2_with fail
    go_ret
    exact ⟨ret_bool hf.out.symm, bz⟩
def secB (s : Sec) : Bool := nameB s.name && inR 1 32768 s.hgt && inR 0 1073741824 s.price && curveB s.area.xs s.hgt 1073741824 && curveB s.conv.xs s.hgt 1099511627776
set_option maxHeartbeats 2000000 in
theorem f73_c (s : Sec) (w : World) (hs : InSec w s) : Calls Tryz.prog 73 #[s.val] w fun e w' => e = .returned (.bool (secB s)) /\ Bl w w' := by
 have A1 := HD (fun W (hb : Bl w W) => f101_c s.area s.hgt 1073741824 W (InK.up hs.area hb))
 have A2 := HD (fun W (hb : Bl w W) => f101_c s.conv s.hgt 1099511627776 W (InK.up hs.conv hb))
 have hcase : (nameB s.name = false /\ secB s = false) \/ (nameB s.name = true /\ s.hgt < 1 /\ secB s = false) \/ (nameB s.name = true /\ 1 ≤ s.hgt /\ 32768 < s.hgt /\ secB s = false) \/
  (nameB s.name = true /\ 1 ≤ s.hgt /\ s.hgt ≤ 32768 /\ s.price < 0 /\ secB s = false) \/ (nameB s.name = true /\ 1 ≤ s.hgt /\ s.hgt ≤ 32768 /\ 0 ≤ s.price /\ 1073741824 < s.price /\ secB s = false) \/
  (nameB s.name = true /\ 1 ≤ s.hgt /\ s.hgt ≤ 32768 /\ 0 ≤ s.price /\ s.price ≤ 1073741824 /\ curveB s.area.xs s.hgt 1073741824 = false /\ secB s = false) \/
  (nameB s.name = true /\ 1 ≤ s.hgt /\ s.hgt ≤ 32768 /\ 0 ≤ s.price /\ s.price ≤ 1073741824 /\ curveB s.area.xs s.hgt 1073741824 = true /\ secB s = curveB s.conv.xs s.hgt 1099511627776) := by
  unfold secB inR
  cases nameB s.name <;> cases curveB s.area.xs s.hgt 1073741824 <;> simp <;> omega
 clear hs
 rcases hcase with ⟨a1, af⟩ | ⟨a1, a2, af⟩ | ⟨a1, a2, a3, af⟩ | ⟨a1, a2, a3, a4, af⟩ | ⟨a1, a2, a3, a4, a5, af⟩ | ⟨a1, a2, a3, a4, a5, a6, af⟩ | ⟨a1, a2, a3, a4, a5, a6, af⟩
 all_goals
  have AF := HD af; clear af
  go_enter Tryz.func73, Tryz.ntmps73
  go_wp2_with fail
  refine (name_c _ _).mono ?_
  rintro e w1 ⟨rfl, rfl⟩
  go_wp2_with fail
 all_goals try
  (refine (A1.out _ bz).mono ?_
   rintro e w1 ⟨rfl, hw1⟩
   obtain ⟨hchw1, hfhw1, hzhw1⟩ := Bl.rules hw1; (try simp only [aZ, cZ, dZ, nZ] at hzhw1)
   go_wp2_with fail)
 all_goals try
  (refine (A2.out _ bz).mono ?_
   rintro e w2 ⟨rfl, hw2⟩
   obtain ⟨hchw2, hfhw2, hzhw2⟩ := Bl.rules hw2; (try simp only [aZ, cZ, dZ, nZ] at hzhw2)
   go_wp2_with fail)
 all_goals
  go_ret
  exact ⟨ret_bool AF.out.symm, bz⟩
section
open Classical
structure Keys (κ : Type) where
 kv : κ -> Value
 desc : TypeDesc
 same : ∀ a b : κ, Instr.sameNow desc (kv a) (kv b) = some true /\ a = b \/ Instr.sameNow desc (kv a) (kv b) = some false /\ a ≠ b
 bits : ∀ a : κ, Instr.sameBits 10000 (kv a) (kv a) = true
 check : ∀ (P : Program) (w : World) (t : TypeId) (a : κ) (e : Bool), P.underlying t = some desc -> (Instr.checkKey e 10000 t (kv a)).run P w = .ok () w
noncomputable def mfind {κ : Type} (K : Keys κ) (a : κ) : List MapEntry -> Option Value
 | [] => none
 | e :: l => if K.kv a = e.key then some e.val else mfind K a l
def keyed {κ : Type} (K : Keys κ) (l : List MapEntry) : Prop := ∀ e ∈ l, ∃ a, e.key = K.kv a
theorem Keys.inj {κ : Type} (K : Keys κ) {a b : κ} (h : K.kv a = K.kv b) : a = b := by
 rcases K.same a b with ⟨_, h'⟩ | ⟨h1, h2⟩
 ·exact h'
 ·rcases K.same b b with ⟨h3, _⟩ | ⟨_, h4⟩
  ·rw [h, h3] at h1; cases h1
  ·exact absurd rfl h4
theorem findNow_eq {κ : Type} (K : Keys κ) (a : κ) : ∀ (l : List MapEntry) (i : Nat), keyed K l -> 
 (∃ j v, Instr.findNow K.desc (K.kv a) l i = some (some (i + j, v)) /\ mfind K a l = some v /\ (∃ h : j < l.length, l[j].key = K.kv a /\ ∀ m (hm : m < j), (l[m]'(by omega)).key ≠ K.kv a)) \/
 (Instr.findNow K.desc (K.kv a) l i = some none /\ mfind K a l = none /\ ∀ e ∈ l, e.key ≠ K.kv a) := by
 intro l
 induction l with
 | nil => intro i _; right; exact ⟨rfl, rfl, by simp⟩
 | cons e l ih =>
  intro i hk
  obtain ⟨b, hb⟩ := hk e (by simp)
  rcases K.same a b with ⟨h1, h2⟩ | ⟨h1, h2⟩
  ·left
   subst h2
   refine ⟨0, e.val, ?_, ?_, by simp, by simpa using hb, fun m hm => by omega⟩
   ·simp [Instr.findNow, hb, h1]
   ·simp [mfind, hb]
  ·have hne : e.key ≠ K.kv a := by rw [hb]; exact fun h => h2 (K.inj h).symm
   have hne' : K.kv a ≠ e.key := fun h => hne h.symm
   rcases ih (i + 1) (fun x hx => hk x (by simp [hx])) with ⟨j, v, h3, h4, h5, h6, h7⟩ | ⟨h3, h4, h5⟩
   ·left
    refine ⟨j + 1, v, ?_, ?_, by simpa using h5, by simpa using h6, ?_⟩
    ·simp only [Instr.findNow, hb, h1, h3]; congr 3; omega
    ·simp [mfind, hne', h4]
    ·intro m hm
     cases m with
     | zero => simpa using hne
     | succ m => simpa using h7 m (by omega)
   ·right
    refine ⟨by simp only [Instr.findNow, hb, h1, h3], by simp [mfind, hne', h4], ?_⟩
    intro x hx
    rcases List.mem_cons.1 hx with rfl | hx
    ·exact hne
    ·exact h5 x hx
def MapAt {κ : Type} (K : Keys κ) (w : World) (b : Nat) (f : κ -> Option Value) : Prop :=
 ∃ es clock, w.heap[b]? = some (.map es clock) /\ keyed K es.toList /\ ∀ a, mfind K a es.toList = f a
theorem MapAt.lt {κ : Type} {K : Keys κ} {w : World} {b : Nat} {f : κ -> Option Value} (h : MapAt K w b f) : b < w.heap.size := by
 obtain ⟨es, clock, hb, _⟩ := h
 exact (Array.getElem?_eq_some_iff.1 hb).1
theorem MapAt.keep {κ : Type} {K : Keys κ} {w w' : World} {b : Nat} {f : κ -> Option Value} (h : MapAt K w b f) (hb : Bl w w') : MapAt K w' b f := by
 have hlt := h.lt
 obtain ⟨es, clock, he, r⟩ := h
 exact ⟨es, clock, (Below.block hb b hlt).trans he, r⟩
theorem MapAt.made {κ : Type} (K : Keys κ) (w : World) : MapAt K (w.alloc (.map #[] 0)) w.heap.size (fun _ => none) :=
 ⟨#[], 0, (MapKept.heap_alloc w _).1, by simp [keyed], fun _ => rfl⟩
theorem MapAt.lookup {κ : Type} {K : Keys κ} {P : Program} {w : World} {b : Nat} {f : κ -> Option Value} (h : MapAt K w b f) {t k e : TypeId} (ht : P.underlying t = some (.map k e)) (hk : P.underlying k = some K.desc)
 {z : Value} (hz : (zeroValue e).run P w = .ok z w) (a : κ) (ok : Bool) :
 (Instr.lookup t (.map (some b)) (K.kv a) ok).run P w = .ok (if ok then .tuple #[(f a).getD z, .bool (f a).isSome] else (f a).getD z) w := by
 obtain ⟨es, clock, hb, hkey, hf⟩ := h
 have hc := K.check P w k a es.isEmpty hk
 have hu := run_underlying (w := w) ht
 have hu2 := run_underlying (w := w) hk
 rw [<- hf a]
 rcases findNow_eq K a es.toList 0 hkey with ⟨j, v, h1, h2, _⟩ | ⟨h1, h2, _⟩
 ·simp [Instr.lookup, Instr.findKey, hu, hu2, hb, hc, h1, h2, Sem.run_bind, getObj, Sem.run, Result.andThen]
 ·simp [Instr.lookup, Instr.findKey, hu, hu2, hb, hc, h1, h2, hz, Sem.run_bind, getObj, Sem.run, Result.andThen]
theorem mfind_push {κ : Type} (K : Keys κ) (a c : κ) (v : Value) (clk : Nat) : ∀ l : List MapEntry, (∀ e ∈ l, e.key ≠ K.kv a) ->
 mfind K c (l ++ [⟨K.kv a, v, clk⟩]) = if K.kv c = K.kv a then some v else mfind K c l := by
 intro l
 induction l with
 | nil => intro _; rfl
 | cons e l ih =>
  intro h
  have h0 := h e (by simp)
  have ih' := ih (fun x hx => h x (by simp [hx]))
  simp only [List.cons_append, mfind, ih']
  by_cases h1 : K.kv c = e.key
  ·have : K.kv c ≠ K.kv a := by rw [h1]; exact h0
   simp [h1, h0]
  ·simp [h1]
theorem mfind_modify {κ : Type} (K : Keys κ) (a c : κ) (v : Value) : ∀ (l : List MapEntry) (j : Nat) (h : j < l.length), l[j].key = K.kv a -> (∀ m (hm : m < j), (l[m]'(by omega)).key ≠ K.kv a) ->
 mfind K c (l.modify j fun e => { e with key := K.kv a, val := v }) = if K.kv c = K.kv a then some v else mfind K c l := by
 intro l
 induction l with
 | nil => intro j h; simp at h
 | cons e l ih =>
  intro j h hk hm
  cases j with
  | zero =>
   simp at hk
   simp only [List.modify_zero_cons, mfind, hk]
   by_cases h1 : K.kv c = K.kv a <;> simp [h1]
  | succ j =>
   have h0 : e.key ≠ K.kv a := by simpa using hm 0 (by omega)
   have ih' := ih j (by simpa using h) (by simpa using hk) (fun m hm' => by simpa using hm (m + 1) (by omega))
   simp only [List.modify_succ_cons, mfind, ih']
   by_cases h1 : K.kv c = e.key
   ·have : K.kv c ≠ K.kv a := by rw [h1]; exact h0
    simp [h1, h0]
   ·simp [h1]
noncomputable def upd {κ : Type} (f : κ -> Option Value) (a : κ) (v : Value) : κ -> Option Value := fun c => if c = a then some v else f c
theorem upd_same {κ : Type} (f : κ -> Option Value) (a : κ) (v : Value) : upd f a v a = some v := by simp [upd]
theorem upd_ne {κ : Type} (f : κ -> Option Value) (a : κ) (v : Value) {c : κ} (h : c ≠ a) : upd f a v c = f c := by simp [upd, h]
def World.setBlk (w : World) (b : Nat) (o : Obj) : World := { w with heap := w.heap.setIfInBounds b o }
structure Only (b : Nat) (w w' : World) : Prop where
 os : w'.os = w.os
 tape : w'.tape = w.tape
 output : w'.output = w.output
 size : w'.heap.size = w.heap.size
 block : ∀ k, k ≠ b -> w'.heap[k]? = w.heap[k]?
theorem Only.below {b B : Nat} {w w' : World} (h : Only b w w') (hB : B ≤ b) : Below B w w' := ⟨h.os, h.tape, h.output, Nat.le_of_eq h.size.symm, fun k hk => h.block k (by omega)⟩
theorem Only.bl {b : Nat} {a w w' : World} (hb : Bl a w) (h : Only b w w') (hB : a.heap.size ≤ b) : Bl a w' := Below.trans hb (h.below hB)
theorem Only.cell {b : Nat} {w w' : World} (h : Only b w w') (c o : Nat) (hc : c ≠ b) : w'.cell? ⟨c, o, none⟩ = w.cell? ⟨c, o, none⟩ := World.cell?_of_block (w := w) (h.block c hc)
theorem Only.frozen {b : Nat} {w w' : World} (h : Only b w w') (c o : Nat) (hc : c ≠ b) : w'.frozen? ⟨c, o, none⟩ = w.frozen? ⟨c, o, none⟩ := World.frozen?_of_block (w := w) (h.block c hc)
theorem MapAt.only {κ : Type} {K : Keys κ} {w w' : World} {b c : Nat} {f : κ -> Option Value} (h : MapAt K w c f) (ho : Only b w w') (hc : c ≠ b) : MapAt K w' c f := by
 obtain ⟨es, clock, he, r⟩ := h
 exact ⟨es, clock, (ho.block c hc).trans he, r⟩
theorem MapAt.store {κ : Type} {K : Keys κ} {P : Program} {w : World} {b : Nat} {f : κ -> Option Value} (h : MapAt K w b f) {t k e : TypeId} (ht : P.underlying t = some (.map k e)) (hk : P.underlying k = some K.desc) (a : κ) (v : Value) :
 ∃ w', (Instr.mapUpdate t (.map (some b)) (K.kv a) v).run P w = .ok () w' /\ MapAt K w' b (upd f a v) /\ Only b w w' := by
 have hlt := h.lt
 obtain ⟨es, clock, hb, hkey, hf⟩ := h
 have hc := K.check P w k a false hk
 have hu := run_underlying (w := w) ht
 have hu2 := run_underlying (w := w) hk
 have hsz : ∀ o : Obj, (w.heap.setIfInBounds b o)[b]? = some o := fun o => by simp [hlt]
 have hne : ∀ (o : Obj) k, k ≠ b -> (w.heap.setIfInBounds b o)[k]? = w.heap[k]? := fun o k hk => by
  rw [Array.getElem?_setIfInBounds_ne (fun e => hk e.symm)]
 have hupd : ∀ c, (if K.kv c = K.kv a then some v else f c) = upd f a v c := fun c => by
  by_cases h1 : c = a
  ·subst h1; simp [upd]
  ·have : K.kv c ≠ K.kv a := fun e => h1 (K.inj e)
   simp [upd, h1, this]
 rcases findNow_eq K a es.toList 0 hkey with ⟨j, v0, h1, h2, h3, h4, h5⟩ | ⟨h1, h2, h3⟩
 ·have hj : j < es.size := by simpa using h3
  have hjk : es[j].key = K.kv a := by simpa using h4
  refine ⟨World.setBlk w b (.map (es.modify j fun e => { e with key := K.kv a, val := v }) clock), ?_, ?_, ?_⟩
  ·simp [Instr.mapUpdate, Instr.findKey, Instr.keyThatStays, hu, hu2, hb, hc, h1, hj, hjk, K.bits, Sem.run_bind, getObj, setObj, Sem.run, Result.andThen, World.setBlk]
  ·refine ⟨_, clock, hsz _, ?_, fun c => ?_⟩
   ·intro x hx
    rw [Array.toList_modify] at hx
    obtain ⟨i, hi, rfl⟩ := List.getElem_of_mem hx
    rw [List.getElem_modify]
    split
    ·exact ⟨a, rfl⟩
    ·exact hkey _ (List.getElem_mem _)
   ·rw [Array.toList_modify, mfind_modify K a c v es.toList j h3 h4 h5, hf c]
    exact hupd c
  ·exact ⟨rfl, rfl, rfl, by simp [World.setBlk], hne _⟩
 ·refine ⟨World.setBlk w b (.map (es.push ⟨K.kv a, v, clock⟩) (clock + 1)), ?_, ?_, ?_⟩
  ·simp [Instr.mapUpdate, Instr.findKey, hu, hu2, hb, hc, h1, Sem.run_bind, getObj, setObj, Sem.run, Result.andThen, World.setBlk]
  ·refine ⟨_, _, hsz _, ?_, fun c => ?_⟩
   ·intro x hx
    rw [Array.toList_push] at hx
    rcases List.mem_append.1 hx with hx | hx
    ·exact hkey x hx
    ·simp at hx; subst hx; exact ⟨a, rfl⟩
   ·rw [Array.toList_push, mfind_push K a c v clock es.toList h3, hf c]
    exact hupd c
  ·exact ⟨rfl, rfl, rfl, by simp [World.setBlk], hne _⟩
end
theorem beqBA (a b : ByteArray) : (a == b) = decide (a = b) := by
 cases a with | mk a => cases b with | mk b =>
 show (a == b) = _
 by_cases h : a = b
 ·subst h; simp
 ·have : (a == b) = false := by simpa using h
  rw [this]; simp [h]
def KS : Keys ByteArray where
 kv := Value.string
 desc := .string
 same := fun a b => by
  by_cases h : a = b
  ·left; subst h; exact ⟨by simp [Instr.sameNow, beqBA], rfl⟩
  ·right; exact ⟨by simp [Instr.sameNow, beqBA, h], h⟩
 bits := fun a => by
  show Instr.sameBits (9999 + 1) _ _ = true
  simp [Instr.sameBits, beqBA]
 check := fun P w t a e h => by
  show Sem.run P (Instr.checkKey e (9999 + 1) t _) w = _
  rw [Instr.checkKey]
  simp [run_underlying h]
def KI : Keys Int where
 kv := Value.int .i64
 desc := .int .i64
 same := fun a b => by
  by_cases h : a = b
  ·left; subst h; exact ⟨by simp [Instr.sameNow], rfl⟩
  ·right; exact ⟨by simp [Instr.sameNow, h], h⟩
 bits := fun a => by
  show Instr.sameBits (9999 + 1) _ _ = true
  simp [Instr.sameBits]
 check := fun P w t a e h => by
  show Sem.run P (Instr.checkKey e (9999 + 1) t _) w = _
  rw [Instr.checkKey]
  simp [run_underlying h]
theorem zeroBool (w : World) : (zeroValue 4).run Tryz.prog w = .ok (.bool false) w := by kernel_rfl
theorem u157 : Tryz.prog.underlying 157 = some (.map 9 4) := by kernel_rfl
theorem u9 : Tryz.prog.underlying 9 = some .string := by kernel_rfl
def boolMap (f : ByteArray -> Option Value) : Prop := ∀ a, f a = none \/ ∃ b, f a = some (.bool b)
theorem boolMap.get {f : ByteArray -> Option Value} (h : boolMap f) (a : ByteArray) : ∃ b, (f a).getD (.bool false) = .bool b := by
 rcases h a with e | ⟨b, e⟩
 ·exact ⟨false, by rw [e]; rfl⟩
 ·exact ⟨b, by rw [e]; rfl⟩
theorem boolMap.upd {f : ByteArray -> Option Value} (h : boolMap f) (a : ByteArray) (b : Bool) : boolMap (upd f a (.bool b)) := fun c => by
 by_cases e : c = a
 ·subst e; exact .inr ⟨b, upd_same _ _ _⟩
 ·rw [upd_ne _ _ _ e]; exact h c
def RCat (xs : List Sec) (w : World) (e : Ending) (w' : World) : Prop := ∃ b, (xs = [] -> b = true) /\ (∀ x, xs = [x] -> secB x = true -> b = true) /\ e = .returned (.bool b) /\ Bl w w'
set_option maxHeartbeats 2000000 in
theorem f48_c (s : Sl Sec) (w : World) (hs : InSecs w s) : Calls Tryz.prog 48 #[s.val] w (RCat s.xs w) := by
 have hr := hs.room
 obtain ⟨A, c, xs⟩ := s
 simp only at hr
 have hmm := @run_makeMap Tryz.prog
 by_cases h40 : xs.length ≤ 40
 ·have h40' : ¬ 40 < xs.length := by omega
  by_cases h0 : xs = []
  ·subst h0
   clear hs
   show Calls Tryz.prog 48 #[.slice A 0 c] w (RCat [] w)
   go_enter Tryz.func48, Tryz.ntmps48
   go_wp2
   refine wp_loop_rounds 1 ?_
   rw [rounds_succ]
   go_wp2
   go_ret
   exact ⟨true, by simp, by simp, rfl, bz⟩
  ·obtain ⟨b, off, hA, hB, hw, hc⟩ := hs.place h0
   simp only at hA
   subst hA
   have hrow := fun W hb i hi => Sl.Ok.cells hs rfl W hb i hi
   have heach := HD (fun W (hb : Bl w W) x (hx : x ∈ xs) => f73_c x W (InSec.up (hs.each x hx) hb))
   clear hs hc h0
   simp only at hrow
   show Calls Tryz.prog 48 #[.slice (some ⟨b, off, none⟩) xs.length c] w (RCat xs w)
   go_enter Tryz.func48, Tryz.ntmps48
   go_wp2_with fail
   go_loopg [12] xs.length (fun gg s12 wr => ∃ (kk : Nat) (f : ByteArray -> Option Value), kk ≤ xs.length /\ xs.length - kk ≤ gg /\ s12 = .int .i64 kk /\ Aside (Bl w wr) /\ Aside (MapAt KS wr w.heap.size f) /\ Aside (boolMap f) /\ Aside (kk = 0 -> f = fun _ => none))
   case atStart => exact ⟨0, fun _ => none, Nat.zero_le _, by omega, rfl, bz, MapAt.made KS w, fun a => .inl rfl, fun _ => rfl⟩
   case round =>
    obtain ⟨kk, f, hkk, hg, rfl, BW, M, hf, hf0⟩ := hrel
    by_cases hlt : kk < xs.length
    ·have hltz : (kk : Int) < (xs.length : Int) := by omega
     have hc := hrow wr BW.out kk (by omega)
     have hmem := HD (List.getElem_mem hlt)
     have hone : Hid (∀ x, xs = [x] -> kk = 0 /\ x = xs[kk]) := fun x e => by
      have : kk = 0 := by have := congrArg List.length e; simp at this; omega
      subst this
      exact ⟨rfl, by simp [e]⟩
     generalize xs[kk] = y at hc hone hmem
     have c0 : wr.cell? ⟨b, off + kk * 5, none⟩ = some (.string y.name) := hc 0 _ rfl
     have c1 : wr.cell? ⟨b, off + kk * 5 + 1, none⟩ = some (.int .i64 y.hgt) := hc 1 _ rfl
     have c2 : wr.cell? ⟨b, off + kk * 5 + 2, none⟩ = some (.int .i64 y.price) := hc 2 _ rfl
     have c3 : wr.cell? ⟨b, off + kk * 5 + 3, none⟩ = some y.area.val := hc 3 _ rfl
     have c4 : wr.cell? ⟨b, off + kk * 5 + 4, none⟩ = some y.conv.val := hc 4 _ rfl
     have hne : Hid (xs ≠ []) := fun e => by rw [e] at hlt; simp at hlt
     clear hc hrow
     go_wp2_with fail
     have BW' := BW.out
     refine (heach.out _ bz y hmem.out).mono ?_
     rintro e w2 ⟨rfl, hw2⟩
     obtain ⟨hchw2, hfhw2, hzhw2⟩ := Bl.rules hw2; (try simp only [aZ, cZ, dZ, nZ] at hzhw2)
     cases hq : secB y
     ·have hF : Hid (∀ x, xs = [x] -> secB x = true -> False) := fun x e h => by rw [(hone.out x e).2, hq] at h; cases h
      clear hq
      go_wp2
      go_ret
      exact ⟨false, fun e => absurd e hne.out, fun x e h => (hF.out x e h).elim, rfl, bz⟩
     ·clear hq
      have M2 := M.out.keep (show Bl wr w2 from bz)
      obtain ⟨bb, hbb⟩ := hf.out.get y.name
      have hbz : Hid (∀ x, xs = [x] -> bb = false) := fun x e => by
       have := hf0.out (hone.out x e).1
       rw [this] at hbb
       simpa using hbb.symm
      have L : Sem.run Tryz.prog (Instr.lookup 157 (.map (some w.heap.size)) (.string y.name) false) w2 = .ok (.bool bb) w2 := by
       have := M2.lookup u157 u9 (zeroBool _) y.name false
       rw [hbb] at this
       exact this
      clear hbb
      have zw : w.heap.size < wr.heap.size := M.out.lt
      have zw2 : wr.heap.size < w2.heap.size := by omega
      cases bb
      ·obtain ⟨w3, hrun, M3, hO⟩ := M2.store u157 u9 y.name (.bool true)
       have hrun' : Sem.run Tryz.prog (Instr.mapUpdate 157 (.map (some w.heap.size)) (.string y.name) (.bool true)) w2 = .ok () w3 := hrun
       clear hrun
       have hB3 : Bl w w3 := Only.bl bz hO (Nat.le_refl _)
       have hM3 := HD M3
       have hf3 := HD (hf.out.upd y.name true)
       clear M2 M3 hO
       go_wp2_with fail
       go_roundg (xs.length - (kk + 1))
       case measure => omega
       case rel => exact ⟨kk + 1, _, by omega, by omega, by go_num, hB3, hM3.out, hf3.out, fun e => by omega⟩
      ·clear M2
       go_wp2
       go_ret
       exact ⟨false, fun e => absurd e hne.out, fun x e _ => (hbz.out x e).symm, rfl, bz⟩
    ·have hltz : ¬ (kk : Int) < (xs.length : Int) := by omega
     clear hrow
     go_wp2
     go_ret
     exact ⟨true, by simp, by simp, rfl, BW.out⟩
 ·have h40' : 40 < xs.length := by omega
  have hs2 : Hid (∀ x, xs ≠ [x]) := fun x e => by rw [e] at h40'; simp at h40'
  have hs3 : Hid (xs ≠ []) := fun e => by rw [e] at h40'; simp at h40'
  clear hs
  show Calls Tryz.prog 48 #[.slice A xs.length c] w (RCat xs w)
  go_enter Tryz.func48, Tryz.ntmps48
  go_wp2
  go_ret
  exact ⟨false, fun e => absurd e hs3, fun x e => absurd e (hs2 x), rfl, bz⟩
theorem f145_c' (fall len : Int) (w : World) : Calls Tryz.prog 145 #[.int .i64 fall, .int .i64 len] w fun e w' => e = .returned (.bool (inR 0 4194304 fall && inR 1 16777216 len)) /\ w = w' := by
 have hcase : (fall < 0 /\ (inR 0 4194304 fall && inR 1 16777216 len) = false) \/ (0 ≤ fall /\ 4194304 < fall /\ (inR 0 4194304 fall && inR 1 16777216 len) = false) \/ (0 ≤ fall /\ fall ≤ 4194304 /\ len < 1 /\ (inR 0 4194304 fall && inR 1 16777216 len) = false) \/
  (0 ≤ fall /\ fall ≤ 4194304 /\ 1 ≤ len /\ (inR 0 4194304 fall && inR 1 16777216 len) = decide (len ≤ 16777216)) := by
  rcases Int.lt_or_le fall 0 with h | h
  ·exact .inl ⟨h, by simp [inR]; omega⟩
  ·rcases Int.lt_or_le 4194304 fall with h' | h'
   ·exact .inr (.inl ⟨h, h', by simp [inR]; omega⟩)
   ·rcases Int.lt_or_le len 1 with h2 | h2
    ·exact .inr (.inr (.inl ⟨h, h', h2, by simp [inR]; omega⟩))
    ·exact .inr (.inr (.inr ⟨h, h', h2, by simp [inR, h, h', h2]⟩))
 rcases hcase with ⟨a1, af⟩ | ⟨a1, a2, af⟩ | ⟨a1, a2, a3, af⟩ | ⟨a1, a2, a3, af⟩
 all_goals
  have AF := HD af; clear af
  go_enter Tryz.func145, Tryz.ntmps145
  go_wp2
  go_ret
  exact ⟨ret_bool AF.out.symm, rfl⟩
theorem f146_c (s : Sec) (depth fall len : Int) (w : World) (hs : InSec w s) (ht : tabB s.conv.xs = true) (h1 : 1 ≤ len) (h2 : len ≤ 1073741824) :
 Calls Tryz.prog 146 #[s.val, .int .i64 depth, .int .i64 fall, .int .i64 len] w fun e w' => ∃ q : Int, 0 ≤ q /\ e = .returned (.tuple #[.int .i64 q, .int .i64 0]) /\ Bl w w' := by
 have A := HD (fun W (hb : Bl w W) => f65_c s.conv depth W (InK.up hs.conv hb) ht)
 clear hs ht
 go_enter Tryz.func146, Tryz.ntmps146
 go_wp2_with fail
 refine (A.out _ bz).mono ?_
 rintro e w1 ⟨n, hn, rfl, hw1⟩
 clear hn A
 go_wp2_with fail
 refine (f184_c _ _ _).mono ?_
 rintro e w2 ⟨p1, p2, u1, u2, rfl, hw2⟩
 go_wp2_with fail
 refine (f185_c _ _ _ u1 u2 _).mono ?_
 rintro e w3 ⟨p3, p4, u3, u4, rfl, hw3⟩
 go_wp2_with fail
 refine (f186_c _ _ _ u3 u4 h1 h2 _).mono ?_
 rintro e w4 ⟨p5, p6, u5, u6, rfl, hw4⟩
 go_wp2_with fail
 refine (f187_c _ _ _).mono ?_
 rintro e w5 ⟨q, hq, rfl, hw5⟩
 go_wp2
 go_ret2
 exact ⟨q, hq, rfl, bz⟩
def RCap (s : Sec) (depth fall len : Int) (w : World) (e : Ending) (w' : World) : Prop := ∃ q x : Int, (secB s = true -> 0 ≤ depth -> depth ≤ s.hgt -> inR 0 4194304 fall = true -> inR 1 16777216 len = true -> x = 5 \/ (x = 0 /\ 0 ≤ q)) /\ e = .returned (.tuple #[.int .i64 q, .int .i64 x]) /\ Bl w w'
set_option maxHeartbeats 2000000 in
theorem f99_c (s : Sec) (depth fall len : Int) (w : World) (hs : InSec w s) : Calls Tryz.prog 99 #[s.val, .int .i64 depth, .int .i64 fall, .int .i64 len] w (RCap s depth fall len w) := by
 have A := HD (fun W (hb : Bl w W) => f73_c s W (InSec.up hs hb))
 have B := HD (fun W (hb : Bl w W) => f146_c s depth fall len W (InSec.up hs hb))
 have hcase : (secB s = false) \/ (secB s = true /\ depth < 0) \/ (secB s = true /\ 0 ≤ depth /\ s.hgt < depth) \/ (secB s = true /\ 0 ≤ depth /\ depth ≤ s.hgt /\ (inR 0 4194304 fall && inR 1 16777216 len) = false) \/
  (secB s = true /\ 0 ≤ depth /\ depth ≤ s.hgt /\ (inR 0 4194304 fall && inR 1 16777216 len) = true) := by
  cases secB s <;> cases (inR 0 4194304 fall && inR 1 16777216 len) <;> simp <;> omega
 clear hs
 rcases hcase with a1 | ⟨a1, a2⟩ | ⟨a1, a2, a3⟩ | ⟨a1, a2, a3, a4⟩ | ⟨a1, a2, a3, a4⟩
 ·go_enter Tryz.func99, Tryz.ntmps99
  go_wp2_with fail
  refine (A.out _ bz).mono ?_
  rintro e w1 ⟨rfl, hw1⟩
  obtain ⟨hchw1, hfhw1, hzhw1⟩ := Bl.rules hw1; (try simp only [aZ, cZ, dZ, nZ] at hzhw1)
  have A1 := HD a1
  go_wp2_with fail
  go_ret2
  exact ⟨0, 1, (fun h => absurd (A1.out.symm.trans h) (by simp)), rfl, bz⟩
 ·have hF : Hid (0 ≤ depth -> False) := fun h => by omega
  go_enter Tryz.func99, Tryz.ntmps99
  go_wp2_with fail
  refine (A.out _ bz).mono ?_
  rintro e w1 ⟨rfl, hw1⟩
  obtain ⟨hchw1, hfhw1, hzhw1⟩ := Bl.rules hw1; (try simp only [aZ, cZ, dZ, nZ] at hzhw1)
  go_wp2_with fail
  go_ret2
  exact ⟨0, 2, fun _ h => (hF h).elim, rfl, bz⟩
 ·have hF : Hid (depth ≤ s.hgt -> False) := fun h => by omega
  go_enter Tryz.func99, Tryz.ntmps99
  go_wp2_with fail
  refine (A.out _ bz).mono ?_
  rintro e w1 ⟨rfl, hw1⟩
  obtain ⟨hchw1, hfhw1, hzhw1⟩ := Bl.rules hw1; (try simp only [aZ, cZ, dZ, nZ] at hzhw1)
  go_wp2_with fail
  go_ret2
  exact ⟨0, 2, fun _ _ h => (hF h).elim, rfl, bz⟩
 ·have hF : Hid (inR 0 4194304 fall = true -> inR 1 16777216 len = true -> False) := fun h h' => by rw [h, h'] at a4; cases a4
  go_enter Tryz.func99, Tryz.ntmps99
  go_wp2_with fail
  refine (A.out _ bz).mono ?_
  rintro e w1 ⟨rfl, hw1⟩
  obtain ⟨hchw1, hfhw1, hzhw1⟩ := Bl.rules hw1; (try simp only [aZ, cZ, dZ, nZ] at hzhw1)
  go_wp2_with fail
  refine (f145_c' _ _ _).mono ?_
  rintro e w2 ⟨rfl, rfl⟩
  rw [a4]
  go_wp2_with fail
  go_ret2
  exact ⟨0, 2, fun _ _ _ h h' => (hF h h').elim, rfl, bz⟩
 ·have ht : tabB s.conv.xs = true := by
   have h := a1
   unfold secB curveB at h
   simp only [Bool.and_eq_true] at h
   exact h.2.1.1.1.1
  have hl := inR_true (by simp only [Bool.and_eq_true] at a4; exact a4.2 : inR 1 16777216 len = true)
  have B' := HD (fun W (hb : Bl w W) => B.out W hb ht hl.1 (by omega))
  clear B ht hl
  go_enter Tryz.func99, Tryz.ntmps99
  go_wp2_with fail
  refine (A.out _ bz).mono ?_
  rintro e w1 ⟨rfl, hw1⟩
  obtain ⟨hchw1, hfhw1, hzhw1⟩ := Bl.rules hw1; (try simp only [aZ, cZ, dZ, nZ] at hzhw1)
  go_wp2_with fail
  refine (f145_c' _ _ _).mono ?_
  rintro e w2 ⟨rfl, rfl⟩
  rw [a4]
  have zz : w.heap.size < w1.heap.size := by omega
  go_wp2_with fail
  refine (B'.out _ bz).mono ?_
  rintro e w3 ⟨q, hq, rfl, hw3⟩
  obtain ⟨hchw3, hfhw3, hzhw3⟩ := Bl.rules hw3; (try simp only [aZ, cZ, dZ, nZ] at hzhw3)
  by_cases hbig : q ≤ 1099511627776
  ·have hbig' : ¬ 1099511627776 < q := by omega
   go_wp2_with fail
   go_ret2
   exact ⟨q, 0, fun _ _ _ _ _ => .inr ⟨rfl, hq⟩, rfl, bz⟩
  ·have hbig' : 1099511627776 < q := by omega
   go_wp2_with fail
   go_ret2
   exact ⟨0, 5, fun _ _ _ _ _ => .inl rfl, rfl, bz⟩
end Go.Proofs.YtnnhnkpoekbahaaGreat
