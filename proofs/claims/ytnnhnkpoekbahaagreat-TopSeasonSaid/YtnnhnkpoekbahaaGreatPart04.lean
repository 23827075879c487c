/- TopSeason: part 5 of 16: Lnk2 Pmp Pmp2 Pmp3 Lnk3 Lnk4 Lnk5 Opn Lnk6 Lnk7 Lnk8 -/
import Derived.Test.YtnnhnkpoekbahaaGreatPart03
import Derived.Test.YtnnhnkpoekbahaaGreatPart01
namespace Go.Proofs.YtnnhnkpoekbahaaGreat
open Go.RowKit
set_option maxHeartbeats 400000
set_option linter.unusedSimpArgs false
set_option linter.unusedVariables false
set_option maxRecDepth 100000
set_option maxHeartbeats 2000000 in
theorem f193_c (n : Net) (l : Sl Int) (w : World) (hs : InNet w n) (hl : InI w l) : Calls Tryz.prog 193 #[n.val, l.val] w fun e w' => ∃ z : Int, e = .returned (.int .i64 z) /\ (z = 0 -> l.xs.length = n.nodes.xs.length) /\ Bl w w' := by
 have hS := HD hs
 have hSl := HD hl
 have hr1 := hs.nodes.room
 have hr2 := hl.room
 clear hs hl
 obtain ⟨⟨A, c, xs⟩, ⟨A2, c2, ls⟩⟩ := n
 obtain ⟨A3, c3, vs⟩ := l
 simp only at hr1 hr2
 show Calls Tryz.prog 193 #[.agg #[.slice A xs.length c, .slice A2 ls.length c2], .slice A3 vs.length c3] w fun e w' => ∃ z : Int, e = .returned (.int .i64 z) /\ (z = 0 -> vs.length = xs.length) /\ Bl w w'
 by_cases hq : vs.length = xs.length
 case neg =>
  have hq1 : ((vs.length : Int) == (xs.length : Int)) = false := by simp; omega
  clear hS hSl
  go_enter Tryz.func193, Tryz.ntmps193
  go_wp2_with fail
  go_ret
  exact ⟨3, rfl, fun h => by omega, bz⟩
 have hqq := HD hq
 rw [hq]
 clear hq
 go_enter Tryz.func193, Tryz.ntmps193
 go_wp2_with fail
 go_loopg [16] xs.length (fun gg s31 wr => ∃ (kk : Nat), kk ≤ xs.length /\ xs.length - kk ≤ gg /\ s31 = .int .i64 kk /\ Aside (Bl w wr))
 case atStart => exact ⟨0, Nat.zero_le _, by omega, rfl, bz⟩
 case round =>
  obtain ⟨kk, hkk, hg, rfl, BW⟩ := hrel
  have BW' := BW.out
  by_cases hlt : kk < xs.length
  ·have hltz : (kk : Int) < (xs.length : Int) := by omega
   have hkz : (0 : Int) ≤ (kk : Int) := by omega
   obtain ⟨b, off, hA, _, _, _⟩ := hS.out.nodes.place (by intro e; simp only at e; rw [e] at hlt; simp at hlt)
   have hlv : kk < vs.length := by have := hqq.out; omega
   obtain ⟨b3, off3, hA3, _, _, _⟩ := hSl.out.place (by intro e; simp only at e; rw [e] at hlv; simp at hlv)
   simp only at hA hA3
   subst hA hA3
   have hc := Sl.Ok.cells hS.out.nodes rfl wr BW' kk hlt
   have hcv := HD (fun W (hb : Bl w W) => Sl.Ok.cells hSl.out rfl W hb kk hlv 0 _ rfl)
   simp only at hc hcv
   generalize xs[kk] = y at hc
   generalize vs[kk] = v at hcv
   have e0 : wr.cell? ⟨b, off + kk * 9, none⟩ = some (.string y.name) := hc 0 _ rfl
   have e1 : wr.cell? ⟨b, off + kk * 9 + 1, none⟩ = some (.int .i64 y.kind) := hc 1 _ rfl
   have e2 : wr.cell? ⟨b, off + kk * 9 + 2, none⟩ = some (.int .i64 y.px) := hc 2 _ rfl
   have e3 : wr.cell? ⟨b, off + kk * 9 + 3, none⟩ = some (.int .i64 y.py) := hc 3 _ rfl
   have e4 : wr.cell? ⟨b, off + kk * 9 + 4, none⟩ = some (.int .i64 y.inv) := hc 4 _ rfl
   have e5 : wr.cell? ⟨b, off + kk * 9 + 5, none⟩ = some (.int .i64 y.gnd) := hc 5 _ rfl
   have e6 : wr.cell? ⟨b, off + kk * 9 + 6, none⟩ = some (y.shape.val) := hc 6 _ rfl
   have e7 : wr.cell? ⟨b, off + kk * 9 + 7, none⟩ = some (.bool y.prot) := hc 7 _ rfl
   have e8 : wr.cell? ⟨b, off + kk * 9 + 8, none⟩ = some (.int .i64 y.res) := hc 8 _ rfl
   clear hc
   go_wp2_with fail
   obtain ⟨W0, hW0⟩ : ∃ X, X = (wr.alloc (Obj.cells #[.string y.name, .int .i64 y.kind, .int .i64 y.px, .int .i64 y.py, .int .i64 y.inv, .int .i64 y.gnd, y.shape.val, .bool y.prot, .int .i64 y.res] 41)) := ⟨_, rfl⟩
   have hB0 : Bl wr W0 := by rw [hW0]; exact bz
   have p0 : ∀ z : Later W0, z.at'.cell? ⟨wr.heap.size, 0, none⟩ = some (.string y.name) := by rw [hW0]; exact fun z => z.keep (by simp [go_sem])
   have p1 : ∀ z : Later W0, z.at'.cell? ⟨wr.heap.size, 1, none⟩ = some (.int .i64 y.kind) := by rw [hW0]; exact fun z => z.keep (by simp [go_sem])
   have p2 : ∀ z : Later W0, z.at'.cell? ⟨wr.heap.size, 2, none⟩ = some (.int .i64 y.px) := by rw [hW0]; exact fun z => z.keep (by simp [go_sem])
   have p3 : ∀ z : Later W0, z.at'.cell? ⟨wr.heap.size, 3, none⟩ = some (.int .i64 y.py) := by rw [hW0]; exact fun z => z.keep (by simp [go_sem])
   have p4 : ∀ z : Later W0, z.at'.cell? ⟨wr.heap.size, 4, none⟩ = some (.int .i64 y.inv) := by rw [hW0]; exact fun z => z.keep (by simp [go_sem])
   have p5 : ∀ z : Later W0, z.at'.cell? ⟨wr.heap.size, 5, none⟩ = some (.int .i64 y.gnd) := by rw [hW0]; exact fun z => z.keep (by simp [go_sem])
   have p6 : ∀ z : Later W0, z.at'.cell? ⟨wr.heap.size, 6, none⟩ = some (y.shape.val) := by rw [hW0]; exact fun z => z.keep (by simp [go_sem])
   have p7 : ∀ z : Later W0, z.at'.cell? ⟨wr.heap.size, 7, none⟩ = some (.bool y.prot) := by rw [hW0]; exact fun z => z.keep (by simp [go_sem])
   have p8 : ∀ z : Later W0, z.at'.cell? ⟨wr.heap.size, 8, none⟩ = some (.int .i64 y.res) := by rw [hW0]; exact fun z => z.keep (by simp [go_sem])
   rw [<- hW0]
   clear hW0
   have hBW0 : Bl w W0 := Bl.trans BW' hB0
   have pv : ∀ z : Later W0, z.at'.cell? ⟨b3, off3 + kk, none⟩ = some (.int .i64 v) := fun z => by have := hcv.out z.at' (Bl.trans hBW0 z.bl); rwa [Nat.mul_one] at this
   clear e0 e1 e2 e3 e4 e5 e6 e7 e8
   have T211 := HD (fun W => f211_c y v W)
   generalize (decide (y.inv ≤ v) && decide (v ≤ y.gnd)) = bb at T211
   cases bb
   all_goals
    refine wp_region_later (by kernel_rfl) (by kernel_rfl) ?_
    repeat (go_big_quiet_step ((go_at_call 211; (with_reducible exact Calls.later (T211.out _)))))
    refine wpQuiet_nil ?_
    intro w3 hB3
    have hbw3 : Bl w w3 := Bl.trans hBW0 hB3
    clear p0 p1 p2 p3 p4 p5 p6 p7 p8 pv
    go_wp2_with fail
   ·go_ret
    exact ⟨2, rfl, fun h => by omega, bz⟩
   ·go_roundg (xs.length - (kk + 1))
    case measure => omega
    case rel => exact ⟨kk + 1, by omega, by omega, by go_num, hbw3⟩
  ·have hltz : ¬ (kk : Int) < (xs.length : Int) := by omega
   go_wp2_with fail
   go_ret
   exact ⟨⟨0, rfl⟩, BW'⟩
theorem f216_c (x : Lk) (was : Bool) (lv : Int) (w : World) : Calls Tryz.prog 216 #[x.val, .bool was, .int .i64 lv] w (RB w) := by
 have hcase : (x.up ≤ lv) \/ (¬ x.up ≤ lv /\ was = false) \/ (¬ x.up ≤ lv /\ was = true) := by
  by_cases h : x.up ≤ lv
  ·exact .inl h
  ·cases was
   ·exact .inr (.inl ⟨h, rfl⟩)
   ·exact .inr (.inr ⟨h, rfl⟩)
 rcases hcase with h | ⟨h, rfl⟩ | ⟨h, rfl⟩
 all_goals
  go_enter Tryz.func216, Tryz.ntmps216
  go_wp2_with fail
  go_ret
  exact ⟨_, rfl, bz⟩
theorem f236_c (x : Lk) (s d : Int) (w : World) (hs : InLk w x) : Calls Tryz.prog 236 #[x.val, .int .i64 s, .int .i64 d] w (RIE w) := by
 have T := HD (fun W (hb : Bl w W) => f65_any x.curve d W (InK.up hs hb))
 clear hs
 go_enter Tryz.func236, Tryz.ntmps236
 go_wp2_with fail
 refine (T.out _ bz).mono ?_
 rintro e w1 ⟨q, z, rfl, hw1⟩
 clear T
 go_wp2_with fail
 all_goals
  go_ret2
  exact ⟨_, _, rfl, bz⟩
theorem own_at {α : Type} {enc : α -> List Value} {k : Nat} {e : TypeId} {w : World} (g n : Nat) (xs : List α) (cur : Array Value) (hx : xs.length = n) (hl : (xs.flatMap enc).length = n * k) (hg : w.heap[g]? = some (.cells cur e)) (hn : n ≤ maxLen) (hs : cur.size = n * k) (hc : cur.toList = xs.flatMap enc) : Own enc k e 0 w ⟨some ⟨g, 0, none⟩, n, xs⟩ := by
 subst hx
 exact ⟨hl, .inr ⟨g, xs.length, cur, rfl, Nat.zero_le _, hg, Nat.le_refl _, hn, hs, by rw [hc, <- hl, List.take_length]⟩⟩
theorem six (w : World) (o1 o2 o3 o4 o5 o6 : Obj) : ((((((w.alloc o1).alloc o2).alloc o3).alloc o4).alloc o5).alloc o6).heap[w.heap.size + 1]? = some o2 /\ ((((((w.alloc o1).alloc o2).alloc o3).alloc o4).alloc o5).alloc o6).heap[w.heap.size + 1 + 1 + 1 + 1]? = some o5 /\ ((((((w.alloc o1).alloc o2).alloc o3).alloc o4).alloc o5).alloc o6).heap[w.heap.size + 1 + 1 + 1 + 1 + 1]? = some o6 := by
 refine ⟨?_, ?_, ?_⟩
 ·rw [Below.heap_alloc _ _ _ (by simp), Below.heap_alloc _ _ _ (by simp), Below.heap_alloc _ _ _ (by simp), Below.heap_alloc _ _ _ (by simp), <- aZ w o1, heap_alloc_new]
 ·rw [Below.heap_alloc _ _ _ (by simp)]
  have : w.heap.size + 1 + 1 + 1 + 1 = ((((w.alloc o1).alloc o2).alloc o3).alloc o4).heap.size := by simp
  rw [this, heap_alloc_new]
 ·have : w.heap.size + 1 + 1 + 1 + 1 + 1 = (((((w.alloc o1).alloc o2).alloc o3).alloc o4).alloc o5).heap.size := by simp
  rw [this, heap_alloc_new]
def knA (w : World) : Sl Knot := ⟨some ⟨w.heap.size + 1, 0, none⟩, 2, [⟨0, 0⟩, ⟨1, 0⟩]⟩
def ndA (w : World) (src : ByteArray) : Nd := ⟨src, 1, 0, 0, 0, 1, knA w, false, 0⟩
def ndB (dst : ByteArray) : Nd := ⟨dst, 3, 0, 0, 0, 0, nilK, false, 0⟩
theorem f214_in (nm src dst sc : ByteArray) (ln up dn wd hg : Int) (cv : Sl Knot) (w : World) (hs : InK w cv) :
 InNet ((((((w.alloc (.cells #[.string nm, .string src, .string dst, .int .i64 4, .int .i64 ln, .int .i64 up, .int .i64 dn, .string sc, .int .i64 wd, .int .i64 hg, cv.val] 45)).alloc (.cells #[.int .i64 0, .int .i64 0, .int .i64 1, .int .i64 0] 64)).alloc (.cells #[.string src, .int .i64 1, .int .i64 0, .int .i64 0, .int .i64 0, .int .i64 1, .slice (some ⟨w.heap.size + 1, 0, none⟩) 2 2, .bool false, .int .i64 0] 41)).alloc (.cells #[.string dst, .int .i64 3, .int .i64 0, .int .i64 0, .int .i64 0, .int .i64 0, .slice none 0 0, .bool false, .int .i64 0] 41)).alloc (.cells #[.string src, .int .i64 1, .int .i64 0, .int .i64 0, .int .i64 0, .int .i64 1, .slice (some ⟨w.heap.size + 1, 0, none⟩) 2 2, .bool false, .int .i64 0, .string dst, .int .i64 3, .int .i64 0, .int .i64 0, .int .i64 0, .int .i64 0, .slice none 0 0, .bool false, .int .i64 0] 41)).alloc (.cells #[.string nm, .string src, .string dst, .int .i64 4, .int .i64 ln, .int .i64 up, .int .i64 dn, .string sc, .int .i64 wd, .int .i64 hg, cv.val] 45)) ⟨⟨some ⟨w.heap.size + 1 + 1 + 1 + 1, 0, none⟩, 2, [ndA w src, ndB dst]⟩, ⟨some ⟨w.heap.size + 1 + 1 + 1 + 1 + 1, 0, none⟩, 1, [⟨nm, src, dst, 4, ln, up, dn, sc, wd, hg, cv⟩]⟩⟩ := by
 have hB : Bl w ((((((w.alloc (.cells #[.string nm, .string src, .string dst, .int .i64 4, .int .i64 ln, .int .i64 up, .int .i64 dn, .string sc, .int .i64 wd, .int .i64 hg, cv.val] 45)).alloc (.cells #[.int .i64 0, .int .i64 0, .int .i64 1, .int .i64 0] 64)).alloc (.cells #[.string src, .int .i64 1, .int .i64 0, .int .i64 0, .int .i64 0, .int .i64 1, .slice (some ⟨w.heap.size + 1, 0, none⟩) 2 2, .bool false, .int .i64 0] 41)).alloc (.cells #[.string dst, .int .i64 3, .int .i64 0, .int .i64 0, .int .i64 0, .int .i64 0, .slice none 0 0, .bool false, .int .i64 0] 41)).alloc (.cells #[.string src, .int .i64 1, .int .i64 0, .int .i64 0, .int .i64 0, .int .i64 1, .slice (some ⟨w.heap.size + 1, 0, none⟩) 2 2, .bool false, .int .i64 0, .string dst, .int .i64 3, .int .i64 0, .int .i64 0, .int .i64 0, .int .i64 0, .slice none 0 0, .bool false, .int .i64 0] 41)).alloc (.cells #[.string nm, .string src, .string dst, .int .i64 4, .int .i64 ln, .int .i64 up, .int .i64 dn, .string sc, .int .i64 wd, .int .i64 hg, cv.val] 45)) := bz
 have h1 : (((((((w.alloc (.cells #[.string nm, .string src, .string dst, .int .i64 4, .int .i64 ln, .int .i64 up, .int .i64 dn, .string sc, .int .i64 wd, .int .i64 hg, cv.val] 45)).alloc (.cells #[.int .i64 0, .int .i64 0, .int .i64 1, .int .i64 0] 64)).alloc (.cells #[.string src, .int .i64 1, .int .i64 0, .int .i64 0, .int .i64 0, .int .i64 1, .slice (some ⟨w.heap.size + 1, 0, none⟩) 2 2, .bool false, .int .i64 0] 41)).alloc (.cells #[.string dst, .int .i64 3, .int .i64 0, .int .i64 0, .int .i64 0, .int .i64 0, .slice none 0 0, .bool false, .int .i64 0] 41)).alloc (.cells #[.string src, .int .i64 1, .int .i64 0, .int .i64 0, .int .i64 0, .int .i64 1, .slice (some ⟨w.heap.size + 1, 0, none⟩) 2 2, .bool false, .int .i64 0, .string dst, .int .i64 3, .int .i64 0, .int .i64 0, .int .i64 0, .int .i64 0, .slice none 0 0, .bool false, .int .i64 0] 41)).alloc (.cells #[.string nm, .string src, .string dst, .int .i64 4, .int .i64 ln, .int .i64 up, .int .i64 dn, .string sc, .int .i64 wd, .int .i64 hg, cv.val] 45))).heap[w.heap.size + 1]? = some (.cells #[.int .i64 0, .int .i64 0, .int .i64 1, .int .i64 0] 64) := (six w _ _ _ _ _ _).1
 have h2 : (((((((w.alloc (.cells #[.string nm, .string src, .string dst, .int .i64 4, .int .i64 ln, .int .i64 up, .int .i64 dn, .string sc, .int .i64 wd, .int .i64 hg, cv.val] 45)).alloc (.cells #[.int .i64 0, .int .i64 0, .int .i64 1, .int .i64 0] 64)).alloc (.cells #[.string src, .int .i64 1, .int .i64 0, .int .i64 0, .int .i64 0, .int .i64 1, .slice (some ⟨w.heap.size + 1, 0, none⟩) 2 2, .bool false, .int .i64 0] 41)).alloc (.cells #[.string dst, .int .i64 3, .int .i64 0, .int .i64 0, .int .i64 0, .int .i64 0, .slice none 0 0, .bool false, .int .i64 0] 41)).alloc (.cells #[.string src, .int .i64 1, .int .i64 0, .int .i64 0, .int .i64 0, .int .i64 1, .slice (some ⟨w.heap.size + 1, 0, none⟩) 2 2, .bool false, .int .i64 0, .string dst, .int .i64 3, .int .i64 0, .int .i64 0, .int .i64 0, .int .i64 0, .slice none 0 0, .bool false, .int .i64 0] 41)).alloc (.cells #[.string nm, .string src, .string dst, .int .i64 4, .int .i64 ln, .int .i64 up, .int .i64 dn, .string sc, .int .i64 wd, .int .i64 hg, cv.val] 45))).heap[w.heap.size + 1 + 1 + 1 + 1]? = some (.cells #[.string src, .int .i64 1, .int .i64 0, .int .i64 0, .int .i64 0, .int .i64 1, .slice (some ⟨w.heap.size + 1, 0, none⟩) 2 2, .bool false, .int .i64 0, .string dst, .int .i64 3, .int .i64 0, .int .i64 0, .int .i64 0, .int .i64 0, .slice none 0 0, .bool false, .int .i64 0] 41) := (six w _ _ _ _ _ _).2.1
 have h3 : (((((((w.alloc (.cells #[.string nm, .string src, .string dst, .int .i64 4, .int .i64 ln, .int .i64 up, .int .i64 dn, .string sc, .int .i64 wd, .int .i64 hg, cv.val] 45)).alloc (.cells #[.int .i64 0, .int .i64 0, .int .i64 1, .int .i64 0] 64)).alloc (.cells #[.string src, .int .i64 1, .int .i64 0, .int .i64 0, .int .i64 0, .int .i64 1, .slice (some ⟨w.heap.size + 1, 0, none⟩) 2 2, .bool false, .int .i64 0] 41)).alloc (.cells #[.string dst, .int .i64 3, .int .i64 0, .int .i64 0, .int .i64 0, .int .i64 0, .slice none 0 0, .bool false, .int .i64 0] 41)).alloc (.cells #[.string src, .int .i64 1, .int .i64 0, .int .i64 0, .int .i64 0, .int .i64 1, .slice (some ⟨w.heap.size + 1, 0, none⟩) 2 2, .bool false, .int .i64 0, .string dst, .int .i64 3, .int .i64 0, .int .i64 0, .int .i64 0, .int .i64 0, .slice none 0 0, .bool false, .int .i64 0] 41)).alloc (.cells #[.string nm, .string src, .string dst, .int .i64 4, .int .i64 ln, .int .i64 up, .int .i64 dn, .string sc, .int .i64 wd, .int .i64 hg, cv.val] 45))).heap[w.heap.size + 1 + 1 + 1 + 1 + 1]? = some (.cells #[.string nm, .string src, .string dst, .int .i64 4, .int .i64 ln, .int .i64 up, .int .i64 dn, .string sc, .int .i64 wd, .int .i64 hg, cv.val] 45) := (six w _ _ _ _ _ _).2.2
 have hcv := InK.up hs hB
 generalize ((((((w.alloc (.cells #[.string nm, .string src, .string dst, .int .i64 4, .int .i64 ln, .int .i64 up, .int .i64 dn, .string sc, .int .i64 wd, .int .i64 hg, cv.val] 45)).alloc (.cells #[.int .i64 0, .int .i64 0, .int .i64 1, .int .i64 0] 64)).alloc (.cells #[.string src, .int .i64 1, .int .i64 0, .int .i64 0, .int .i64 0, .int .i64 1, .slice (some ⟨w.heap.size + 1, 0, none⟩) 2 2, .bool false, .int .i64 0] 41)).alloc (.cells #[.string dst, .int .i64 3, .int .i64 0, .int .i64 0, .int .i64 0, .int .i64 0, .slice none 0 0, .bool false, .int .i64 0] 41)).alloc (.cells #[.string src, .int .i64 1, .int .i64 0, .int .i64 0, .int .i64 0, .int .i64 1, .slice (some ⟨w.heap.size + 1, 0, none⟩) 2 2, .bool false, .int .i64 0, .string dst, .int .i64 3, .int .i64 0, .int .i64 0, .int .i64 0, .int .i64 0, .slice none 0 0, .bool false, .int .i64 0] 41)).alloc (.cells #[.string nm, .string src, .string dst, .int .i64 4, .int .i64 ln, .int .i64 up, .int .i64 dn, .string sc, .int .i64 wd, .int .i64 hg, cv.val] 45)) = W at *
 have k1 : InK W (knA w) := Own.ok (enc := encK) (k := 2) (e := 64) (base := 0) (own_at (w.heap.size + 1) 2 ([⟨0, 0⟩, ⟨1, 0⟩] : List Knot) _ rfl rfl h1 (by decide) rfl rfl) (fun _ => rfl) (by simp [knA]) (fun _ _ => trivial)
 refine ⟨?_, ?_⟩
 ·exact Own.ok (enc := encN) (k := 9) (e := 41) (base := 0) (own_at (w.heap.size + 1 + 1 + 1 + 1) 2 [ndA w src, ndB dst] _ rfl rfl h2 (by decide) rfl rfl) (fun _ => rfl) (by simp) (fun y hy => by
   simp only [List.mem_cons, List.mem_nil_iff, or_false] at hy
   rcases hy with rfl | rfl
   ·exact k1
   ·exact InK_nil W)
 ·exact Own.ok (enc := encL) (k := 11) (e := 45) (base := 0) (own_at (w.heap.size + 1 + 1 + 1 + 1 + 1) 1 ([⟨nm, src, dst, 4, ln, up, dn, sc, wd, hg, cv⟩] : List Lk) _ rfl rfl h3 (by decide) rfl rfl) (fun _ => rfl) (by simp) (fun y hy => by
   simp only [List.mem_cons, List.mem_nil_iff, or_false] at hy
   subst hy
   exact hcv)
theorem f214_c (x : Lk) (w : World) (hs : InLk w x) : Calls Tryz.prog 214 #[x.val] w (RB w) := by
 by_cases h : x.kind = 4
 ·obtain ⟨nm, src, dst, kd, ln, up, dn, sc, wd, hg, cv⟩ := x
  simp only at h
  subst h
  have hin := HD (f214_in nm src dst sc ln up dn wd hg cv w hs)
  have T := HD (fun W (hb : Bl w W) n (hn : InNet W n) => f54_c n W hn)
  clear hs
  go_enter Tryz.func214, Tryz.ntmps214
  go_wp2_with fail
  refine (T.out _ bz _ hin.out).mono ?_
  rintro e w1 ⟨rfl, hw1⟩
  clear hin T
  go_wp2_with fail
  go_ret
  exact ⟨_, rfl, bz⟩
 ·have q1 : (x.kind == 4) = false := by simpa using h
  clear hs
  go_enter Tryz.func214, Tryz.ntmps214
  go_wp2_with fail
  go_ret
  exact ⟨_, rfl, bz⟩
def RBE (w : World) (e : Ending) (w' : World) : Prop := ∃ (b : Bool) (z : Int), e = .returned (.tuple #[.bool b, .int .i64 z]) /\ Bl w w'
theorem f195_c (x : Lk) (was : Bool) (lv : Int) (w : World) (hs : InLk w x) : Calls Tryz.prog 195 #[x.val, .bool was, .int .i64 lv] w (RBE w) := by
 have T := HD (fun W (hb : Bl w W) => f214_c x W (InLk.up hs hb))
 clear hs
 go_enter Tryz.func195, Tryz.ntmps195
 go_wp2_with fail
 refine (T.out _ bz).mono ?_
 rintro e w1 ⟨b, rfl, hw1⟩
 obtain ⟨hchw1, hfhw1, hzhw1⟩ := Bl.rules hw1; (try simp only [aZ, cZ, dZ, nZ] at hzhw1)
 have z1 : w.heap.size < w1.heap.size := by omega
 clear T
 cases b
 ·go_wp2_with fail
  exact bodyPost_ret (v := .tuple #[.bool false, .int .i64 1]) (by simp [results, Tryz.results195, go_sem, *]; try exact ⟨rfl, rfl⟩) rfl ⟨false, 1, rfl, bz⟩
 ·go_wp2_with fail
  refine (f215_c _ _).mono ?_
  rintro e w2 ⟨rfl, rfl⟩
  cases hq : inR (-4194304) 4194304 lv
  ·go_wp2_with fail
   exact bodyPost_ret (v := .tuple #[.bool false, .int .i64 2]) (by simp [results, Tryz.results195, go_sem, *]; try exact ⟨rfl, rfl⟩) rfl ⟨false, 2, rfl, bz⟩
  ·go_wp2_with fail
   refine (f216_c x was lv _).mono ?_
   rintro e w3 ⟨b, rfl, hw3⟩
   go_wp2_with fail
   exact bodyPost_ret (v := .tuple #[.bool b, .int .i64 0]) (by simp [results, Tryz.results195, go_sem, *]; try exact ⟨rfl, rfl⟩) rfl ⟨b, 0, rfl, bz⟩
theorem f227_c (x : Lk) (s d : Int) (w : World) (hs : InLk w x) : Calls Tryz.prog 227 #[x.val, .int .i64 s, .int .i64 d] w (RIE w) := by
 have T := HD (fun W (hb : Bl w W) => f214_c x W (InLk.up hs hb))
 have T2 := HD (fun W (hb : Bl w W) => f236_c x s d W (InLk.up hs hb))
 clear hs
 go_enter Tryz.func227, Tryz.ntmps227
 go_wp2_with fail
 refine (T.out _ bz).mono ?_
 rintro e w1 ⟨b, rfl, hw1⟩
 obtain ⟨hchw1, hfhw1, hzhw1⟩ := Bl.rules hw1; (try simp only [aZ, cZ, dZ, nZ] at hzhw1)
 have z1 : w.heap.size < w1.heap.size := by omega
 clear T
 cases b
 ·go_wp2_with fail
  exact bodyPost_ret (v := .tuple #[.int .i64 0, .int .i64 1]) (by simp [results, Tryz.results227, go_sem, *]; try exact ⟨rfl, rfl⟩) rfl ⟨0, 1, rfl, bz⟩
 ·go_wp2_with fail
  refine (f221_c _ _ _ _).mono ?_
  rintro e w2 ⟨rfl, rfl⟩
  cases g1 : inR 0 1000 s
  ·go_wp2_with fail
   exact bodyPost_ret (v := .tuple #[.int .i64 0, .int .i64 2]) (by simp [results, Tryz.results227, go_sem, *]; try exact ⟨rfl, rfl⟩) rfl ⟨0, 2, rfl, bz⟩
  ·go_wp2_with fail
   refine (f221_c _ _ _ _).mono ?_
   rintro e w2 ⟨rfl, rfl⟩
   cases g2 : inR 0 4194304 d
   ·go_wp2_with fail
    exact bodyPost_ret (v := .tuple #[.int .i64 0, .int .i64 2]) (by simp [results, Tryz.results227, go_sem, *]; try exact ⟨rfl, rfl⟩) rfl ⟨0, 2, rfl, bz⟩
   ·go_wp2_with fail
    refine (T2.out _ bz).mono ?_
    rintro e w3 ⟨q, z, rfl, hw3⟩
    go_wp2_with fail
    exact bodyPost_ret (v := .tuple #[.int .i64 q, .int .i64 z]) (by simp [results, Tryz.results227, go_sem, *]; try exact ⟨rfl, rfl⟩) rfl ⟨q, z, rfl, bz⟩
theorem e217 (args : Array Value) (w : World) : (callFunc 217 args).run Tryz.prog w = .ok (.enter 217 args) w := enters_of Tryz.func217 (by kernel_rfl) rfl args w
theorem f217_c (x : Sec) (q : Nat) (nm : ByteArray) (w : World) (h : w.cell? ⟨q, 7, none⟩ = some (.string nm)) : Calls Tryz.prog 217 #[x.val, .pointer (some ⟨q, 0, none⟩)] w fun e w' => e = .returned (.bool (x.name == nm)) /\ Bl w w' := by
 have hq := cell_lt h
 simp only at hq
 go_enter Tryz.func217, Tryz.ntmps217
 go_wp2_with fail
 go_ret
 exact ⟨ret_bool (beq_toListBytes _ _).symm, bz⟩
def knownB (l : List Sec) (x : Lk) : Bool := !(x.kind == 1) || l.any (fun y => y.name == x.sec)
theorem f197_c (l : Sl Sec) (x : Lk) (w : World) (hl : InSecs w l) : Calls Tryz.prog 197 #[l.val, x.val] w fun e w' => e = .returned (.bool (knownB l.xs x)) /\ Bl w w' := by
 have T := HD (fun W (q : Nat) (hb : Bl w W) (hc : W.cell? ⟨q, 7, none⟩ = some (.string x.sec)) => f13_c l W.heap.size 217 #[.pointer (some ⟨q, 0, none⟩)] (fun y : Sec => y.name == x.sec) W (InSecs.up hl hb) (fun W' y _ hb' => f217_c y q x.sec W' (hb'.keep hc)) e217)
 clear hl
 cases h : (x.kind == 1)
 ·have KF := HD (show knownB l.xs x = true by simp [knownB, h])
  have h2 : (x.kind != 1) = true := by simp [bne, h]
  have h3 : ¬ x.kind = 1 := by simpa using h
  go_enter Tryz.func197, Tryz.ntmps197
  go_wp2_with fail
  go_ret
  exact ⟨ret_bool KF.out.symm, bz⟩
 ·have KF := HD (show knownB l.xs x = l.xs.any (fun y => y.name == x.sec) by simp [knownB, h])
  have h2 : (x.kind != 1) = false := by simp [bne, h]
  have h3 : x.kind = 1 := by simpa using h
  go_enter Tryz.func197, Tryz.ntmps197
  go_wp2_with fail
  refine (T.out _ _ bz (by simp [go_sem])).mono ?_
  rintro e w1 ⟨rfl, hw1⟩
  clear T
  go_wp2_with fail
  go_ret
  exact ⟨ret_bool KF.out.symm, bz⟩
theorem f223_c (x : Lk) (s : Sec) (u d : Int) (w : World) (hs : InSec w s) : Calls Tryz.prog 223 #[x.val, s.val, .int .i64 u, .int .i64 d] w (RIE w) := by
 have T := HD (fun W a b c (hb : Bl w W) => f99_c s a b c W (InSec.up hs hb))
 clear hs
 go_enter Tryz.func223, Tryz.ntmps223
 go_wp2_with fail
 refine (T.out _ _ _ _ bz).mono ?_
 rintro e w1 ⟨q, z, _, rfl, hw1⟩
 clear T
 go_wp2_with fail
 refine (f224_c q z _).mono ?_
 rintro e w2 ⟨q2, z2, rfl, hw2⟩
 go_wp2_with fail
 exact bodyPost_ret (v := .tuple #[.int .i64 q2, .int .i64 z2]) (by simp [results, Tryz.results223, go_sem, *]; try exact ⟨rfl, rfl⟩) rfl ⟨q2, z2, rfl, bz⟩
theorem e196 (args : Array Value) (w : World) : (callFunc 196 args).run Tryz.prog w = .ok (.enter 196 args) w := enters_of Tryz.func196 (by kernel_rfl) rfl args w
theorem f196_c (l : Sl Sec) (x : Lk) (q : Nat) (w : World) (hl : InSecs w l) (h : w.cell? ⟨q, 0, none⟩ = some l.val) : Calls Tryz.prog 196 #[x.val, .pointer (some ⟨q, 0, none⟩)] w fun e w' => e = .returned (.bool (!knownB l.xs x)) /\ Bl w w' := by
 have hq := cell_lt h
 simp only at hq
 have T := HD (fun W (hb : Bl w W) => f197_c l x W (InSecs.up hl hb))
 clear hl
 go_enter Tryz.func196, Tryz.ntmps196
 go_wp2_with fail
 refine (T.out _ bz).mono ?_
 rintro e w1 ⟨rfl, hw1⟩
 clear T
 go_wp2_with fail
 go_ret
 exact ⟨rfl, bz⟩
theorem e222 (args : Array Value) (w : World) : (callFunc 222 args).run Tryz.prog w = .ok (.enter 222 args) w := enters_of Tryz.func222 (by kernel_rfl) rfl args w
theorem f222_c (x : Sec) (q : Nat) (nm : ByteArray) (w : World) (h : w.cell? ⟨q, 7, none⟩ = some (.string nm)) : Calls Tryz.prog 222 #[x.val, .pointer (some ⟨q, 0, none⟩)] w fun e w' => e = .returned (.bool (x.name == nm)) /\ Bl w w' := by
 have hq := cell_lt h
 simp only at hq
 go_enter Tryz.func222, Tryz.ntmps222
 go_wp2_with fail
 go_ret
 exact ⟨ret_bool (beq_toListBytes _ _).symm, bz⟩
theorem f232_c (b h : Int) (w : World) : Calls Tryz.prog 232 #[.int .i64 b, .int .i64 h] w (RI w) := by
 go_enter Tryz.func232, Tryz.ntmps232
 go_wp2_with fail
 refine (f237_c _ _ _).mono ?_
 rintro e w2 ⟨p1, p2, u1, u2, rfl, hw2⟩
 go_wp2_with fail
 refine (f238_c _ _ _ u1 u2 _).mono ?_
 rintro e w3 ⟨p3, p4, u3, u4, rfl, hw3⟩
 go_wp2_with fail
 refine (f238_c _ _ _ u3 u4 _).mono ?_
 rintro e w4 ⟨p5, p6, u5, u6, rfl, hw4⟩
 go_wp2_with fail
 refine (f239_c _ _ _ u5 u6 (by omega) (by omega) _).mono ?_
 rintro e w5 ⟨p7, p8, u7, u8, rfl, hw5⟩
 go_wp2_with fail
 refine (f240_c _ _ _).mono ?_
 rintro e w6 ⟨q, hq, rfl, hw6⟩
 go_wp2
 go_ret
 exact ⟨q, rfl, bz⟩
theorem f241_c (a h : Int) (w : World) : Calls Tryz.prog 241 #[.int .i64 a, .int .i64 h] w (RI w) := by
 go_enter Tryz.func241, Tryz.ntmps241
 go_wp2_with fail
 refine (f237_c _ _ _).mono ?_
 rintro e w2 ⟨p1, p2, u1, u2, rfl, hw2⟩
 go_wp2_with fail
 refine (f238_c _ _ _ u1 u2 _).mono ?_
 rintro e w3 ⟨p3, p4, u3, u4, rfl, hw3⟩
 go_wp2_with fail
 refine (f238_c _ _ _ u3 u4 _).mono ?_
 rintro e w4 ⟨p5, p6, u5, u6, rfl, hw4⟩
 go_wp2_with fail
 refine (f239_c _ _ _ u5 u6 (by omega) (by omega) _).mono ?_
 rintro e w5 ⟨p7, p8, u7, u8, rfl, hw5⟩
 go_wp2_with fail
 refine (f240_c _ _ _).mono ?_
 rintro e w6 ⟨q, hq, rfl, hw6⟩
 go_wp2
 go_ret
 exact ⟨q, rfl, bz⟩
theorem f231_c (q : Int) (w : World) : Calls Tryz.prog 231 #[.int .i64 q] w (RIE w) := by
 go_enter Tryz.func231, Tryz.ntmps231
 go_wp2
 all_goals
  go_ret2
  exact ⟨_, _, rfl, bz⟩
theorem f230_c (x : Lk) (up down : Int) (w : World) : Calls Tryz.prog 230 #[x.val, .int .i64 up, .int .i64 down] w (RI w) := by
 go_enter Tryz.func230, Tryz.ntmps230
 go_wp2
 all_goals
  go_ret
  exact ⟨_, rfl, bz⟩
theorem f228_c (x : Lk) (w : World) : Calls Tryz.prog 228 #[x.val] w (RB w) := by
 cases hk : (x.kind == 2)
 ·go_enter Tryz.func228, Tryz.ntmps228
  go_wp2
  go_ret
  exact ⟨_, rfl, bz⟩
 ·cases hl : inR (-4194304) 4194304 x.up
  ·go_enter Tryz.func228, Tryz.ntmps228
   go_wp2_with fail
   refine (f229_c _ _).mono ?_
   rintro e w1 ⟨rfl, rfl⟩
   rw [hl]
   go_wp2
   go_ret
   exact ⟨_, rfl, bz⟩
  ·go_enter Tryz.func228, Tryz.ntmps228
   go_wp2_with fail
   refine (f229_c _ _).mono ?_
   rintro e w1 ⟨rfl, rfl⟩
   rw [hl]
   go_wp2_with fail
   refine (f234_c _ _ _ _).mono ?_
   rintro e w1 ⟨rfl, rfl⟩
   go_wp2
   go_ret
   exact ⟨_, rfl, bz⟩
theorem f233_c (x : Lk) (w : World) : Calls Tryz.prog 233 #[x.val] w (RB w) := by
 cases hk : (x.kind == 3)
 ·go_enter Tryz.func233, Tryz.ntmps233
  go_wp2
  go_ret
  exact ⟨_, rfl, bz⟩
 ·cases hl : inR (-4194304) 4194304 x.up
  ·go_enter Tryz.func233, Tryz.ntmps233
   go_wp2_with fail
   refine (f229_c _ _).mono ?_
   rintro e w1 ⟨rfl, rfl⟩
   rw [hl]
   go_wp2
   go_ret
   exact ⟨_, rfl, bz⟩
  ·cases hq : inR 1 32768 x.wid
   all_goals
    go_enter Tryz.func233, Tryz.ntmps233
    go_wp2_with fail
    refine (f229_c _ _).mono ?_
    rintro e w1 ⟨rfl, rfl⟩
    rw [hl]
    go_wp2_with fail
    refine (f234_c _ _ _ _).mono ?_
    rintro e w1 ⟨rfl, rfl⟩
    rw [hq]
    go_wp2_with fail
   ·go_ret
    exact ⟨_, rfl, bz⟩
   ·refine (f234_c _ _ _ _).mono ?_
    rintro e w1 ⟨rfl, rfl⟩
    go_wp2
    go_ret
    exact ⟨_, rfl, bz⟩
theorem f235_c (x : Lk) (s h : Int) (w : World) : Calls Tryz.prog 235 #[x.val, .int .i64 s, .int .i64 h] w (RI w) := by
 go_enter Tryz.func235, Tryz.ntmps235
 go_wp2_with fail
 all_goals
  refine (f241_c _ _ _).mono ?_
  rintro e w1 ⟨q, rfl, hw1⟩
  go_wp2
  go_ret
  exact ⟨_, rfl, bz⟩
theorem f225_c (x : Lk) (up down : Int) (w : World) : Calls Tryz.prog 225 #[x.val, .int .i64 up, .int .i64 down] w (RIE w) := by
 cases h1 : inR (-4194304) 4194304 up <;> cases h2 : inR (-4194304) 4194304 down
 all_goals
  go_enter Tryz.func225, Tryz.ntmps225
  go_wp2_with fail
  refine (f228_c _ _).mono ?_
  rintro e w1 ⟨b, rfl, hw1⟩
  obtain ⟨hchw1, hfhw1, hzhw1⟩ := Bl.rules hw1; (try simp only [aZ, cZ, dZ, nZ] at hzhw1)
  have z0 : w.heap.size < w1.heap.size := by omega
  cases b
 all_goals go_wp2_with fail
 all_goals first
  | (go_ret2
     exact ⟨_, _, rfl, bz⟩)
  | (refine (f229_c _ _).mono ?_
     rintro e w2 ⟨rfl, rfl⟩
     rw [h1]
     go_wp2_with fail)
 all_goals try
  (refine (f229_c _ _).mono ?_
   rintro e w2 ⟨rfl, rfl⟩
   rw [h2]
   go_wp2_with fail)
 all_goals first
  | (go_ret2
     exact ⟨_, _, rfl, bz⟩)
  | (refine (f230_c _ _ _ _).mono ?_
     rintro e w3 ⟨h, rfl, hw3⟩
     obtain ⟨hchw3, hfhw3, hzhw3⟩ := Bl.rules hw3; (try simp only [aZ, cZ, dZ, nZ] at hzhw3)
     have z1 : w.heap.size < w3.heap.size := by omega
     go_wp2_with fail)
 all_goals first
  | (go_ret2
     exact ⟨_, _, rfl, bz⟩)
  | (refine (f232_c _ _ _).mono ?_
     rintro e w4 ⟨q, rfl, hw4⟩
     go_wp2_with fail
     refine (f231_c _ _).mono ?_
     rintro e w5 ⟨q, q2, rfl, hw5⟩
     go_wp2
     go_ret2
     exact ⟨_, _, rfl, bz⟩)
theorem f226_c (x : Lk) (st up down : Int) (w : World) : Calls Tryz.prog 226 #[x.val, .int .i64 st, .int .i64 up, .int .i64 down] w (RIE w) := by
 cases h0 : inR 0 1000 st <;> cases h1 : inR (-4194304) 4194304 up <;> cases h2 : inR (-4194304) 4194304 down
 all_goals
  go_enter Tryz.func226, Tryz.ntmps226
  go_wp2_with fail
  refine (f233_c _ _).mono ?_
  rintro e w1 ⟨b, rfl, hw1⟩
  obtain ⟨hchw1, hfhw1, hzhw1⟩ := Bl.rules hw1; (try simp only [aZ, cZ, dZ, nZ] at hzhw1)
  have z0 : w.heap.size < w1.heap.size := by omega
  cases b
 all_goals go_wp2_with fail
 all_goals first
  | (go_ret2
     exact ⟨_, _, rfl, bz⟩)
  | (refine (f234_c _ _ _ _).mono ?_
     rintro e w2 ⟨rfl, rfl⟩
     rw [h0]
     go_wp2_with fail)
 all_goals try
  (refine (f229_c _ _).mono ?_
   rintro e w2 ⟨rfl, rfl⟩
   rw [h1]
   go_wp2_with fail)
 all_goals try
  (refine (f229_c _ _).mono ?_
   rintro e w2 ⟨rfl, rfl⟩
   rw [h2]
   go_wp2_with fail)
 all_goals first
  | (go_ret2
     exact ⟨_, _, rfl, bz⟩)
  | (refine (f230_c _ _ _ _).mono ?_
     rintro e w3 ⟨h, rfl, hw3⟩
     obtain ⟨hchw3, hfhw3, hzhw3⟩ := Bl.rules hw3; (try simp only [aZ, cZ, dZ, nZ] at hzhw3)
     have z1 : w.heap.size < w3.heap.size := by omega
     go_wp2_with fail)
 all_goals first
  | (go_ret2
     exact ⟨_, _, rfl, bz⟩)
  | (refine (f235_c _ _ _ _).mono ?_
     rintro e w4 ⟨q, rfl, hw4⟩
     go_wp2_with fail
     refine (f231_c _ _).mono ?_
     rintro e w5 ⟨q, q2, rfl, hw5⟩
     go_wp2
     go_ret2
     exact ⟨_, _, rfl, bz⟩)
theorem any_hit {α : Type} (p : α -> Bool) (l : List α) (h : l.any p = true) : ∃ k, ∃ hk : k < l.length, ix p l = (k : Int) := by
 rcases ix_cases p l with ⟨_, h2⟩ | ⟨k, hk, h1, _⟩
 ·rw [List.any_eq_true] at h
  obtain ⟨x, hx, hp⟩ := h
  rw [h2 x hx] at hp
  cases hp
 ·exact ⟨k, hk, h1⟩
set_option maxHeartbeats 2000000 in
theorem f218_c (n : Net) (l : Sl Sec) (x : Lk) (u d s : Int) (on : Bool) (w : World) (hs : InNet w n) (hl : InSecs w l) (hx : InLk w x) (kn : knownB l.xs x = true) (h0 : 0 ≤ ndIx n x.src) : Calls Tryz.prog 218 #[n.val, l.val, x.val, .int .i64 u, .int .i64 d, .int .i64 s, .bool on] w (RIE w) := by
 have HS := HD hs
 have HL := HD hl
 have HX := HD hx
 have T26 := HD (fun W (q : Nat) (hb : Bl w W) (hc : W.cell? ⟨q, 7, none⟩ = some (.string x.sec)) => f26_c l W.heap.size 222 #[.pointer (some ⟨q, 0, none⟩)] (fun y : Sec => y.name == x.sec) W (InSecs.up hl hb) (fun W' y _ hb' => f222_c y q x.sec W' (hb'.keep hc)) e222)
 have T194 := HD (fun W (hb : Bl w W) => f194_c n x W (InNet.up hs hb))
 clear hs hl hx
 cases k1 : (x.kind == 1)
 ·have j1 : ¬ x.kind = 1 := by simpa using k1
  cases k2 : (x.kind == 2)
  ·have j2 : ¬ x.kind = 2 := by simpa using k2
   cases k3 : (x.kind == 3)
   ·have j3 : ¬ x.kind = 3 := by simpa using k3
    clear T26 HL
    rcases ix_range (fun y : Nd => y.name == x.src) n.nodes.xs with h | ⟨k, hk, hki⟩
    ·exact absurd h0 (by unfold ndIx; omega)
    ·have hI : ndIx n x.src = (k : Int) := hki
     clear hki h0
     obtain ⟨b, off, hA, _, _, _⟩ := HS.out.nodes.place (by intro e; rw [e] at hk; simp at hk)
     have hc := HD (fun W (hb : Bl w W) => Sl.Ok.cells HS.out.nodes hA W hb k hk)
     have hroom := HS.out.nodes.room
     generalize n.nodes.xs[k] = y at hc
     obtain ⟨⟨NA, nc, ns⟩, ll⟩ := n
     simp only at hA hk hroom
     subst hA
     have hkz : (k : Int) < (ns.length : Int) := by omega
     have hk0 : (0 : Int) ≤ (k : Int) := by omega
     cases on
     ·go_enter Tryz.func218, Tryz.ntmps218
      go_wp2_with fail
      exact bodyPost_ret (v := .tuple #[.int .i64 0, .int .i64 0]) (by simp [results, Tryz.results218, go_sem, *]; try exact ⟨rfl, rfl⟩) rfl ⟨0, 0, rfl, bz⟩
     ·go_enter Tryz.func218, Tryz.ntmps218
      go_wp2_with fail
      refine (T194.out _ bz).mono ?_
      rintro e w1 ⟨rfl, hw1⟩
      rw [hI]
      obtain ⟨hchw1, hfhw1, hzhw1⟩ := Bl.rules hw1; (try simp only [aZ, cZ, dZ, nZ] at hzhw1)
      have z1 : w.heap.size < w1.heap.size := by omega
      have z2 : w.heap.size + 1 < w1.heap.size := by omega
      clear T194
      go_wp2_with fail
      have e4 : w1.cell? ⟨b, off + k * 9 + 4, none⟩ = some (.int .i64 y.inv) := hc.out w1 bz 4 _ rfl
      have c0 : w1.cell? ⟨w.heap.size, 0, none⟩ = some (.slice (some ⟨b, off, none⟩) ns.length nc) := by simp [go_sem, *]
      have d0 : w1.cell? ⟨w.heap.size + 1, 0, none⟩ = some (.string x.name) := by simp [go_sem, *]
      have d1 : w1.cell? ⟨w.heap.size + 1, 1, none⟩ = some (.string x.src) := by simp [go_sem, *]
      have d2 : w1.cell? ⟨w.heap.size + 1, 2, none⟩ = some (.string x.dst) := by simp [go_sem, *]
      have d3 : w1.cell? ⟨w.heap.size + 1, 3, none⟩ = some (.int .i64 x.kind) := by simp [go_sem, *]
      have d4 : w1.cell? ⟨w.heap.size + 1, 4, none⟩ = some (.int .i64 x.len) := by simp [go_sem, *]
      have d5 : w1.cell? ⟨w.heap.size + 1, 5, none⟩ = some (.int .i64 x.up) := by simp [go_sem, *]
      have d6 : w1.cell? ⟨w.heap.size + 1, 6, none⟩ = some (.int .i64 x.down) := by simp [go_sem, *]
      have d7 : w1.cell? ⟨w.heap.size + 1, 7, none⟩ = some (.string x.sec) := by simp [go_sem, *]
      have d8 : w1.cell? ⟨w.heap.size + 1, 8, none⟩ = some (.int .i64 x.wid) := by simp [go_sem, *]
      have d9 : w1.cell? ⟨w.heap.size + 1, 9, none⟩ = some (.int .i64 x.hgt) := by simp [go_sem, *]
      have d10 : w1.cell? ⟨w.heap.size + 1, 10, none⟩ = some (x.curve.val) := by simp [go_sem, *]
      go_region_held3 (fun w' => Bl w1 w' /\ w'.cell? ⟨b, off + k * 9 + 4, none⟩ = some (.int .i64 y.inv) /\ w'.cell? ⟨w.heap.size, 0, none⟩ = some (.slice (some ⟨b, off, none⟩) ns.length nc) /\ w'.cell? ⟨w.heap.size + 1, 0, none⟩ = some (.string x.name) /\ w'.cell? ⟨w.heap.size + 1, 1, none⟩ = some (.string x.src) /\ w'.cell? ⟨w.heap.size + 1, 2, none⟩ = some (.string x.dst) /\ w'.cell? ⟨w.heap.size + 1, 3, none⟩ = some (.int .i64 x.kind) /\ w'.cell? ⟨w.heap.size + 1, 4, none⟩ = some (.int .i64 x.len) /\ w'.cell? ⟨w.heap.size + 1, 5, none⟩ = some (.int .i64 x.up) /\ w'.cell? ⟨w.heap.size + 1, 6, none⟩ = some (.int .i64 x.down) /\ w'.cell? ⟨w.heap.size + 1, 7, none⟩ = some (.string x.sec) /\ w'.cell? ⟨w.heap.size + 1, 8, none⟩ = some (.int .i64 x.wid) /\ w'.cell? ⟨w.heap.size + 1, 9, none⟩ = some (.int .i64 x.hgt) /\ w'.cell? ⟨w.heap.size + 1, 10, none⟩ = some (x.curve.val)) (refine ⟨bz, Bl.keep (a := w1) bz e4, Bl.keep (a := w1) bz c0, Bl.keep (a := w1) bz d0, Bl.keep (a := w1) bz d1, Bl.keep (a := w1) bz d2, Bl.keep (a := w1) bz d3, Bl.keep (a := w1) bz d4, Bl.keep (a := w1) bz d5, Bl.keep (a := w1) bz d6, Bl.keep (a := w1) bz d7, Bl.keep (a := w1) bz d8, Bl.keep (a := w1) bz d9, Bl.keep (a := w1) bz d10⟩) (first
       | (go_at_call 227; refine (f227_c x _ _ _ (InLk.up HX.out bz)).mono ?_; rintro e w2 ⟨q, z, rfl, hw2⟩))
      go_wp2_with fail
      exact bodyPost_ret (v := .tuple #[.int .i64 q, .int .i64 z]) (by simp [results, Tryz.results218, go_sem, *]; try exact ⟨rfl, rfl⟩) rfl ⟨q, z, rfl, bz⟩
   ·go_enter Tryz.func218, Tryz.ntmps218
    go_wp2_with fail
    refine (f226_c x s u d _).mono ?_
    rintro e w1 ⟨q, z, rfl, hw1⟩
    go_wp2_with fail
    refine (f224_c q z _).mono ?_
    rintro e w2 ⟨q2, zz2, rfl, hw2⟩
    go_wp2_with fail
    exact bodyPost_ret (v := .tuple #[.int .i64 q2, .int .i64 zz2]) (by simp [results, Tryz.results218, go_sem, *]; try exact ⟨rfl, rfl⟩) rfl ⟨q2, zz2, rfl, bz⟩
  ·go_enter Tryz.func218, Tryz.ntmps218
   go_wp2_with fail
   refine (f225_c x u d _).mono ?_
   rintro e w1 ⟨q, z, rfl, hw1⟩
   go_wp2_with fail
   refine (f224_c q z _).mono ?_
   rintro e w2 ⟨q2, zz2, rfl, hw2⟩
   go_wp2_with fail
   exact bodyPost_ret (v := .tuple #[.int .i64 q2, .int .i64 zz2]) (by simp [results, Tryz.results218, go_sem, *]; try exact ⟨rfl, rfl⟩) rfl ⟨q2, zz2, rfl, bz⟩
 ·have hany : l.xs.any (fun y => y.name == x.sec) = true := by simpa [knownB, k1] using kn
  obtain ⟨k, hk, hI⟩ := any_hit _ _ hany
  clear hany kn
  obtain ⟨b, off, hA, _, _, _⟩ := HL.out.place (by intro e; rw [e] at hk; simp at hk)
  have hc := HD (fun W (hb : Bl w W) => Sl.Ok.cells HL.out hA W hb k hk)
  have hgood := HD (fun W (hb : Bl w W) => (InSecs.up HL.out hb).each l.xs[k] (List.getElem_mem _))
  have hroom := HL.out.room
  generalize l.xs[k] = y at hc hgood
  obtain ⟨LA, lc, ls⟩ := l
  simp only at hA hk hroom
  subst hA
  have hkz : (k : Int) < (ls.length : Int) := by omega
  have hk0 : (0 : Int) ≤ (k : Int) := by omega
  show Calls Tryz.prog 218 #[n.val, .slice (some ⟨b, off, none⟩) ls.length lc, x.val, .int .i64 u, .int .i64 d, .int .i64 s, .bool on] w (RIE w)
  go_enter Tryz.func218, Tryz.ntmps218
  go_wp2_with fail
  refine (T26.out _ _ bz (by simp [go_sem])).mono ?_
  rintro e w1 ⟨rfl, hw1⟩
  rw [hI]
  obtain ⟨hchw1, hfhw1, hzhw1⟩ := Bl.rules hw1; (try simp only [aZ, cZ, dZ, nZ] at hzhw1)
  have z1 : w.heap.size < w1.heap.size := by omega
  have z2 : w.heap.size + 1 < w1.heap.size := by omega
  clear T26
  have e0 : w1.cell? ⟨b, off + k * 5, none⟩ = some (.string y.name) := hc.out w1 bz 0 _ rfl
  have e1 : w1.cell? ⟨b, off + k * 5 + 1, none⟩ = some (.int .i64 y.hgt) := hc.out w1 bz 1 _ rfl
  have e2 : w1.cell? ⟨b, off + k * 5 + 2, none⟩ = some (.int .i64 y.price) := hc.out w1 bz 2 _ rfl
  have e3 : w1.cell? ⟨b, off + k * 5 + 3, none⟩ = some (y.area.val) := hc.out w1 bz 3 _ rfl
  have e4 : w1.cell? ⟨b, off + k * 5 + 4, none⟩ = some (y.conv.val) := hc.out w1 bz 4 _ rfl
  have d0 : w1.cell? ⟨w.heap.size + 1, 0, none⟩ = some (.string x.name) := by simp [go_sem, *]
  have d1 : w1.cell? ⟨w.heap.size + 1, 1, none⟩ = some (.string x.src) := by simp [go_sem, *]
  have d2 : w1.cell? ⟨w.heap.size + 1, 2, none⟩ = some (.string x.dst) := by simp [go_sem, *]
  have d3 : w1.cell? ⟨w.heap.size + 1, 3, none⟩ = some (.int .i64 x.kind) := by simp [go_sem, *]
  have d4 : w1.cell? ⟨w.heap.size + 1, 4, none⟩ = some (.int .i64 x.len) := by simp [go_sem, *]
  have d5 : w1.cell? ⟨w.heap.size + 1, 5, none⟩ = some (.int .i64 x.up) := by simp [go_sem, *]
  have d6 : w1.cell? ⟨w.heap.size + 1, 6, none⟩ = some (.int .i64 x.down) := by simp [go_sem, *]
  have d7 : w1.cell? ⟨w.heap.size + 1, 7, none⟩ = some (.string x.sec) := by simp [go_sem, *]
  have d8 : w1.cell? ⟨w.heap.size + 1, 8, none⟩ = some (.int .i64 x.wid) := by simp [go_sem, *]
  have d9 : w1.cell? ⟨w.heap.size + 1, 9, none⟩ = some (.int .i64 x.hgt) := by simp [go_sem, *]
  have d10 : w1.cell? ⟨w.heap.size + 1, 10, none⟩ = some (x.curve.val) := by simp [go_sem, *]
  go_wp2_with fail
  go_region_held3 (fun w' => Bl w1 w' /\ w'.cell? ⟨b, off + k * 5, none⟩ = some (.string y.name) /\ w'.cell? ⟨b, off + k * 5 + 1, none⟩ = some (.int .i64 y.hgt) /\ w'.cell? ⟨b, off + k * 5 + 2, none⟩ = some (.int .i64 y.price) /\ w'.cell? ⟨b, off + k * 5 + 3, none⟩ = some (y.area.val) /\ w'.cell? ⟨b, off + k * 5 + 4, none⟩ = some (y.conv.val) /\ w'.cell? ⟨w.heap.size + 1, 0, none⟩ = some (.string x.name) /\ w'.cell? ⟨w.heap.size + 1, 1, none⟩ = some (.string x.src) /\ w'.cell? ⟨w.heap.size + 1, 2, none⟩ = some (.string x.dst) /\ w'.cell? ⟨w.heap.size + 1, 3, none⟩ = some (.int .i64 x.kind) /\ w'.cell? ⟨w.heap.size + 1, 4, none⟩ = some (.int .i64 x.len) /\ w'.cell? ⟨w.heap.size + 1, 5, none⟩ = some (.int .i64 x.up) /\ w'.cell? ⟨w.heap.size + 1, 6, none⟩ = some (.int .i64 x.down) /\ w'.cell? ⟨w.heap.size + 1, 7, none⟩ = some (.string x.sec) /\ w'.cell? ⟨w.heap.size + 1, 8, none⟩ = some (.int .i64 x.wid) /\ w'.cell? ⟨w.heap.size + 1, 9, none⟩ = some (.int .i64 x.hgt) /\ w'.cell? ⟨w.heap.size + 1, 10, none⟩ = some (x.curve.val)) (refine ⟨bz, Bl.keep (a := w1) bz e0, Bl.keep (a := w1) bz e1, Bl.keep (a := w1) bz e2, Bl.keep (a := w1) bz e3, Bl.keep (a := w1) bz e4, Bl.keep (a := w1) bz d0, Bl.keep (a := w1) bz d1, Bl.keep (a := w1) bz d2, Bl.keep (a := w1) bz d3, Bl.keep (a := w1) bz d4, Bl.keep (a := w1) bz d5, Bl.keep (a := w1) bz d6, Bl.keep (a := w1) bz d7, Bl.keep (a := w1) bz d8, Bl.keep (a := w1) bz d9, Bl.keep (a := w1) bz d10⟩) (first
   | (go_at_call 223; refine (f223_c x y u d _ (hgood.out _ bz)).mono ?_; rintro e w2 ⟨q, z, rfl, hw2⟩))
  go_wp2_with fail
  exact bodyPost_ret (v := .tuple #[.int .i64 q, .int .i64 z]) (by simp [results, Tryz.results218, go_sem, *]; try exact ⟨rfl, rfl⟩) rfl ⟨q, z, rfl, bz⟩
set_option maxHeartbeats 2000000 in
theorem f198_c (n : Net) (l : Sl Sec) (x : Lk) (lv : Sl Int) (s : Int) (on : Bool) (w : World) (hs : InNet w n) (hl : InSecs w l) (hx : InLk w x) (hv : InI w lv) (kn : knownB l.xs x = true) (h0 : 0 ≤ ndIx n x.src) (h1 : 0 ≤ ndIx n x.dst) (hlen : lv.xs.length = n.nodes.xs.length) : Calls Tryz.prog 198 #[n.val, l.val, x.val, lv.val, .int .i64 s, .bool on] w (RIE w) := by
 have T218 := HD (fun W (u d : Int) (hb : Bl w W) => f218_c n l x u d s on W (InNet.up hs hb) (InSecs.up hl hb) (InLk.up hx hb) kn h0)
 have T194 := HD (fun W (hb : Bl w W) => f194_c n x W (InNet.up hs hb))
 rcases ix_range (fun y : Nd => y.name == x.src) n.nodes.xs with h | ⟨k, hk, hI⟩
 ·exact absurd h0 (by unfold ndIx; omega)
 rcases ix_range (fun y : Nd => y.name == x.dst) n.nodes.xs with h | ⟨k2, hk2, hI2⟩
 ·exact absurd h1 (by unfold ndIx; omega)
 have hI' : ndIx n x.src = (k : Int) := hI
 have hI2' : ndIx n x.dst = (k2 : Int) := hI2
 rw [<- hlen] at hk hk2
 clear hs hl hx hI hI2 h0 h1 kn hlen
 obtain ⟨b, off, hA, _, _, _⟩ := hv.place (by intro e; rw [e] at hk; simp at hk)
 have hc := HD (fun W (hb : Bl w W) => Sl.Ok.cells hv hA W hb k hk 0 _ rfl)
 have hc2 := HD (fun W (hb : Bl w W) => Sl.Ok.cells hv hA W hb k2 hk2 0 _ rfl)
 have hroom := hv.room
 clear hv
 generalize lv.xs[k] = v at hc
 generalize lv.xs[k2] = v2 at hc2
 obtain ⟨VA, vc, vs⟩ := lv
 simp only at hA hk hk2 hroom hc hc2
 subst hA
 have hkz : (k : Int) < (vs.length : Int) := by omega
 have hk0 : (0 : Int) ≤ (k : Int) := by omega
 have hkz2 : (k2 : Int) < (vs.length : Int) := by omega
 have hk02 : (0 : Int) ≤ (k2 : Int) := by omega
 show Calls Tryz.prog 198 #[n.val, l.val, x.val, .slice (some ⟨b, off, none⟩) vs.length vc, .int .i64 s, .bool on] w (RIE w)
 go_enter Tryz.func198, Tryz.ntmps198
 go_wp2_with fail
 refine (T194.out _ bz).mono ?_
 rintro e w1 ⟨rfl, hw1⟩
 rw [hI', hI2']
 obtain ⟨hchw1, hfhw1, hzhw1⟩ := Bl.rules hw1; (try simp only [aZ, cZ, dZ, nZ] at hzhw1)
 have z1 : w.heap.size < w1.heap.size := by omega
 have z2 : w.heap.size + 1 < w1.heap.size := by omega
 clear T194
 have e0 : w1.cell? ⟨b, off + k, none⟩ = some (.int .i64 v) := by have := hc.out w1 bz; rwa [Nat.mul_one] at this
 have e1 : w1.cell? ⟨b, off + k2, none⟩ = some (.int .i64 v2) := by have := hc2.out w1 bz; rwa [Nat.mul_one] at this
 have c0 : w1.cell? ⟨w.heap.size, 0, none⟩ = some (n.nodes.val) := by simp [go_sem, *]
 have c1 : w1.cell? ⟨w.heap.size, 1, none⟩ = some (n.links.val) := by simp [go_sem, *]
 have d0 : w1.cell? ⟨w.heap.size + 1, 0, none⟩ = some (.string x.name) := by simp [go_sem, *]
 have d1 : w1.cell? ⟨w.heap.size + 1, 1, none⟩ = some (.string x.src) := by simp [go_sem, *]
 have d2 : w1.cell? ⟨w.heap.size + 1, 2, none⟩ = some (.string x.dst) := by simp [go_sem, *]
 have d3 : w1.cell? ⟨w.heap.size + 1, 3, none⟩ = some (.int .i64 x.kind) := by simp [go_sem, *]
 have d4 : w1.cell? ⟨w.heap.size + 1, 4, none⟩ = some (.int .i64 x.len) := by simp [go_sem, *]
 have d5 : w1.cell? ⟨w.heap.size + 1, 5, none⟩ = some (.int .i64 x.up) := by simp [go_sem, *]
 have d6 : w1.cell? ⟨w.heap.size + 1, 6, none⟩ = some (.int .i64 x.down) := by simp [go_sem, *]
 have d7 : w1.cell? ⟨w.heap.size + 1, 7, none⟩ = some (.string x.sec) := by simp [go_sem, *]
 have d8 : w1.cell? ⟨w.heap.size + 1, 8, none⟩ = some (.int .i64 x.wid) := by simp [go_sem, *]
 have d9 : w1.cell? ⟨w.heap.size + 1, 9, none⟩ = some (.int .i64 x.hgt) := by simp [go_sem, *]
 have d10 : w1.cell? ⟨w.heap.size + 1, 10, none⟩ = some (x.curve.val) := by simp [go_sem, *]
 go_wp2_with fail
 go_region_held3 (fun w' => Bl w1 w' /\ w'.cell? ⟨b, off + k, none⟩ = some (.int .i64 v) /\ w'.cell? ⟨b, off + k2, none⟩ = some (.int .i64 v2) /\ w'.cell? ⟨w.heap.size, 0, none⟩ = some (n.nodes.val) /\ w'.cell? ⟨w.heap.size, 1, none⟩ = some (n.links.val) /\ w'.cell? ⟨w.heap.size + 1, 0, none⟩ = some (.string x.name) /\ w'.cell? ⟨w.heap.size + 1, 1, none⟩ = some (.string x.src) /\ w'.cell? ⟨w.heap.size + 1, 2, none⟩ = some (.string x.dst) /\ w'.cell? ⟨w.heap.size + 1, 3, none⟩ = some (.int .i64 x.kind) /\ w'.cell? ⟨w.heap.size + 1, 4, none⟩ = some (.int .i64 x.len) /\ w'.cell? ⟨w.heap.size + 1, 5, none⟩ = some (.int .i64 x.up) /\ w'.cell? ⟨w.heap.size + 1, 6, none⟩ = some (.int .i64 x.down) /\ w'.cell? ⟨w.heap.size + 1, 7, none⟩ = some (.string x.sec) /\ w'.cell? ⟨w.heap.size + 1, 8, none⟩ = some (.int .i64 x.wid) /\ w'.cell? ⟨w.heap.size + 1, 9, none⟩ = some (.int .i64 x.hgt) /\ w'.cell? ⟨w.heap.size + 1, 10, none⟩ = some (x.curve.val)) (refine ⟨bz, Bl.keep (a := w1) bz e0, Bl.keep (a := w1) bz e1, Bl.keep (a := w1) bz c0, Bl.keep (a := w1) bz c1, Bl.keep (a := w1) bz d0, Bl.keep (a := w1) bz d1, Bl.keep (a := w1) bz d2, Bl.keep (a := w1) bz d3, Bl.keep (a := w1) bz d4, Bl.keep (a := w1) bz d5, Bl.keep (a := w1) bz d6, Bl.keep (a := w1) bz d7, Bl.keep (a := w1) bz d8, Bl.keep (a := w1) bz d9, Bl.keep (a := w1) bz d10⟩) (first
  | (go_at_call 218; refine (T218.out _ _ _ bz).mono ?_; rintro e w2 ⟨q, z, rfl, hw2⟩))
 go_wp2_with fail
 exact bodyPost_ret (v := .tuple #[.int .i64 q, .int .i64 z]) (by simp [results, Tryz.results198, go_sem, *]; try exact ⟨rfl, rfl⟩) rfl ⟨q, z, rfl, bz⟩
def RFl (m : Nat) (w : World) (e : Ending) (w' : World) : Prop := ∃ (s : Sl Int) (q : Int), e = .returned (.tuple #[s.val, .int .i64 q]) /\ (InI w' s /\ New w s) /\ (q = 0 -> s.xs.length = m) /\ (¬ q = 0 -> s.xs = []) /\ Bl w w'
theorem RFl.no {m : Nat} {w w' : World} {q : Int} (hq : ¬ q = 0) (hb : Bl w w') : RFl m w (.returned (.tuple #[.slice none 0 0, .int .i64 q])) w' := ⟨⟨none, 0, []⟩, q, rfl, ⟨InI_nil _, New.nil⟩, fun h => absurd h hq, fun _ => rfl, hb⟩
theorem lk_ends {n : Net} (h : netB n = true) (k : Nat) (hk : k < n.links.xs.length) : 0 ≤ ndIx n n.links.xs[k].src /\ 0 ≤ ndIx n n.links.xs[k].dst := by
 have h1 := (((netB_iff n).mp h).2.2.2 k hk).2.2
 simp only [lkB, Bool.and_eq_true, decide_eq_true_eq] at h1
 exact h1.1
set_option maxHeartbeats 2000000 in
theorem f158_core (A A2 V Pn Sn On : Option Addr) (c c2 cv cp cs co : Nat) (l : Sl Sec) (lv : Sl Int) (xs : List Nd) (ls : List Lk) (vs ps ss : List Int) (os : List Bool) (w : World) (SB NK : Bool) (LB : Prop)
 (hs : InNet w ⟨⟨A, c, xs⟩, ⟨A2, c2, ls⟩⟩) (ht : InSt w ⟨⟨V, cv, vs⟩, ⟨Pn, cp, ps⟩, ⟨Sn, cs, ss⟩, ⟨On, co, os⟩⟩)
 (T48 : ∀ W, Bl w W -> Calls Tryz.prog 48 #[l.val] W (RCat l.xs W))
 (T50 : ∀ W, Bl w W -> Calls Tryz.prog 50 #[.agg #[.slice A xs.length c, .slice A2 ls.length c2], .agg #[.slice V vs.length cv, .slice Pn ps.length cp, .slice Sn ss.length cs, .slice On os.length co]] W fun e w' => e = .returned (.bool SB) /\ Bl W w')
 (T193 : ∀ W, Bl w W -> Calls Tryz.prog 193 #[.agg #[.slice A xs.length c, .slice A2 ls.length c2], lv.val] W fun e w' => ∃ z : Int, e = .returned (.int .i64 z) /\ (z = 0 -> LB) /\ Bl W w')
 (T7 : ∀ W (q : Nat), Bl w W -> W.cell? ⟨q, 0, none⟩ = some l.val -> Calls Tryz.prog 7 #[.slice A2 ls.length c2, .func (.func 196) #[] #[.pointer (some ⟨q, 0, none⟩)]] W fun e w' => e = .returned (.bool NK) /\ Bl W w')
 (T198 : ∀ W (k : Nat) (h : k < ls.length) (s : Int) (on : Bool), SB = true -> LB -> NK = false -> Bl w W -> Calls Tryz.prog 198 #[.agg #[.slice A xs.length c, .slice A2 ls.length c2], l.val, ls[k].val, lv.val, .int .i64 s, .bool on] W (RIE W))
 (hL : SB = true -> ls.length ≤ 400 /\ ss.length = ls.length /\ os.length = ls.length) :
 Calls Tryz.prog 158 #[.agg #[.slice A xs.length c, .slice A2 ls.length c2], l.val, lv.val, .agg #[.slice V vs.length cv, .slice Pn ps.length cp, .slice Sn ss.length cs, .slice On os.length co]] w (RFl ls.length w) := by
 have hS := HD hs
 have hT := HD ht
 have hr := hs.links.room
 have hr3 := ht.set.room
 have hr4 := ht.on.room
 have T48 := HD T48
 have T50 := HD T50
 have T193 := HD T193
 have T7 := HD T7
 have T198 := HD T198
 have hL := HD hL
 simp only at hr hr3 hr4
 clear hs ht
 obtain ⟨i0, hi, hz0, hz1, hz2⟩ := i3
 have HI := HD (And.intro hi (And.intro hz0 (And.intro hz1 hz2)))
 clear hi hz0 hz1 hz2
 go_enter Tryz.func158, Tryz.ntmps158
 go_wp2_with fail
 refine (T48.out _ bz).mono ?_
 rintro e w1 ⟨b0, _, _, rfl, hw1⟩
 clear T48
 obtain ⟨hchw1, hfhw1, hzhw1⟩ := Bl.rules hw1; (try simp only [aZ, cZ, dZ, nZ] at hzhw1)
 have zv0 : w.heap.size < w1.heap.size := by omega
 have zv1 : w.heap.size + 1 < w1.heap.size := by omega
 have zv2 : w.heap.size + 2 < w1.heap.size := by omega
 cases b0
 case false =>
  go_wp2_with fail
  exact bodyPost_ret (v := .tuple #[.slice none 0 0, .int .i64 1]) (by simp [results, Tryz.results158, go_sem, *]; try exact ⟨rfl, rfl⟩) rfl (RFl.no (by omega) bz)
 go_wp2_with fail
 refine (T50.out _ bz).mono ?_
 rintro e w2 ⟨rfl, hw2⟩
 clear T50
 obtain ⟨hchw2, hfhw2, hzhw2⟩ := Bl.rules hw2; (try simp only [aZ, cZ, dZ, nZ] at hzhw2)
 have zy0 : w.heap.size < w2.heap.size := by omega
 have zy1 : w.heap.size + 1 < w2.heap.size := by omega
 have zy2 : w.heap.size + 2 < w2.heap.size := by omega
 cases hb : SB
 case false =>
  go_wp2_with fail
  exact bodyPost_ret (v := .tuple #[.slice none 0 0, .int .i64 1]) (by simp [results, Tryz.results158, go_sem, *]; try exact ⟨rfl, rfl⟩) rfl (RFl.no (by omega) bz)
 obtain ⟨hl1, hl2, hl3⟩ := hL.out hb
 go_wp2_with fail
 refine (T193.out _ bz).mono ?_
 rintro e w3 ⟨z, rfl, hz, hw3⟩
 clear T193
 obtain ⟨hchw3, hfhw3, hzhw3⟩ := Bl.rules hw3; (try simp only [aZ, cZ, dZ, nZ] at hzhw3)
 have zx0 : w.heap.size < w3.heap.size := by omega
 have zx1 : w.heap.size + 1 < w3.heap.size := by omega
 have zx2 : w.heap.size + 2 < w3.heap.size := by omega
 by_cases hz0 : z = 0
 case neg =>
  have hzn : (z != 0) = true := by simpa using hz0
  go_wp2_with fail
  exact bodyPost_ret (v := .tuple #[.slice none 0 0, .int .i64 z]) (by simp [results, Tryz.results158, go_sem, *]; try exact ⟨rfl, rfl⟩) rfl (RFl.no hz0 bz)
 have hLB := HD (hz hz0)
 clear hz
 subst hz0
 go_wp2_with fail
 refine (T7.out _ _ bz (by simp [go_sem, *])).mono ?_
 rintro e w4 ⟨rfl, hw4⟩
 clear T7
 obtain ⟨hchw4, hfhw4, hzhw4⟩ := Bl.rules hw4; (try simp only [aZ, cZ, dZ, nZ] at hzhw4)
 have zw0 : w.heap.size < w4.heap.size := by omega
 have zw1 : w.heap.size + 1 < w4.heap.size := by omega
 have zw2 : w.heap.size + 2 < w4.heap.size := by omega
 cases hnk : NK
 case true =>
  go_wp2_with fail
  exact bodyPost_ret (v := .tuple #[.slice none 0 0, .int .i64 9]) (by simp [results, Tryz.results158, go_sem, *]; try exact ⟨rfl, rfl⟩) rfl (RFl.no (by omega) bz)
 have hB4 : Bl w w4 := bz
 have T198 := HD (fun W k h s on => T198.out W k h s on hb hLB.out hnk)
 have b0 : w4.cell? ⟨w.heap.size, 0, none⟩ = some (.slice A xs.length c) := by simp [go_sem, *]
 have b1 : w4.cell? ⟨w.heap.size, 1, none⟩ = some (.slice A2 ls.length c2) := by simp [go_sem, *]
 have b2 : w4.cell? ⟨w.heap.size + 1, 0, none⟩ = some (l.val) := by simp [go_sem, *]
 have b3 : w4.cell? ⟨w.heap.size + 2, 2, none⟩ = some (.slice Sn ss.length cs) := by simp [go_sem, *]
 have b4 : w4.cell? ⟨w.heap.size + 2, 3, none⟩ = some (.slice On os.length co) := by simp [go_sem, *]
 clear hw1 hchw1 hfhw1 hzhw1 hw2 hchw2 hfhw2 hzhw2 hw3 hchw3 hfhw3 hzhw3 hw4 hchw4 hfhw4 hzhw4 zv0 zv1 zv2 zy0 zy1 zy2 zx0 zx1 zx2 zw0 zw1 hb hLB hL
 go_wp2_with fail
 go_loopg [11, 38] ls.length (fun gg s11 s38 wr => ∃ (kk : Nat) (s : Sl Int), kk ≤ ls.length /\ ls.length - kk ≤ gg /\ s38 = .int .i64 kk /\ s11 = s.val /\ Aside (Bl w wr) /\ Aside (w.heap.size + 2 < wr.heap.size) /\ Aside (wr.cell? ⟨w.heap.size, 0, none⟩ = some (.slice A xs.length c)) /\ Aside (wr.cell? ⟨w.heap.size, 1, none⟩ = some (.slice A2 ls.length c2)) /\ Aside (wr.cell? ⟨w.heap.size + 1, 0, none⟩ = some (l.val)) /\ Aside (wr.cell? ⟨w.heap.size + 2, 2, none⟩ = some (.slice Sn ss.length cs)) /\ Aside (wr.cell? ⟨w.heap.size + 2, 3, none⟩ = some (.slice On os.length co)) /\ Aside (Own encI 1 3 (w.heap.size + 3) wr s) /\ Aside (s.xs.length = kk))
 case atStart => exact ⟨0, ⟨none, 0, []⟩, Nat.zero_le _, by omega, rfl, rfl, hB4, aside zw2, aside b0, aside b1, aside b2, aside b3, aside b4, Own.nil, aside rfl⟩
 case round =>
  clear hB4 zw2 b0 b1 b2 b3 b4
  obtain ⟨kk, s, hkk, hg, rfl, rfl, BW, Z, C0, C1, C2, C3, C4, OW, SL⟩ := hrel
  have BW' := BW.out
  have Z' := Z.out
  have C0' := C0.out
  have C1' := C1.out
  have C2' := C2.out
  have C3' := C3.out
  have C4' := C4.out
  have SL' := SL.out
  clear BW Z C0 C1 C2 C3 C4 SL
  by_cases hlt : kk < ls.length
  ·have hltz : (kk : Int) < (ls.length : Int) := by omega
   have hkz : (0 : Int) ≤ (kk : Int) := by omega
   have hls : kk < ss.length := by omega
   have hlo : kk < os.length := by omega
   obtain ⟨b, off, hA, _, _, _⟩ := hS.out.links.place (by intro e; simp only at e; rw [e] at hlt; simp at hlt)
   obtain ⟨b3, off3, hA3, _, _, _⟩ := hT.out.set.place (by intro e; simp only at e; rw [e] at hls; simp at hls)
   obtain ⟨b4, off4, hA4, _, _, _⟩ := hT.out.on.place (by intro e; simp only at e; rw [e] at hlo; simp at hlo)
   simp only at hA hA3 hA4
   subst hA hA3 hA4
   have hc := Sl.Ok.cells hS.out.links rfl wr BW' kk hlt
   have hcs := HD (fun W (hb : Bl w W) => Sl.Ok.cells hT.out.set rfl W hb kk hls 0 _ rfl)
   have hco := HD (fun W (hb : Bl w W) => Sl.Ok.cells hT.out.on rfl W hb kk hlo 0 _ rfl)
   have T := HD (fun W s on => T198.out W kk hlt s on)
   simp only at hc hcs hco
   generalize ls[kk] = y at hc T
   generalize ss[kk] = vset at hcs
   generalize os[kk] = von at hco
   have e0 : wr.cell? ⟨b, off + kk * 11, none⟩ = some (.string y.name) := hc 0 _ rfl
   have e1 : wr.cell? ⟨b, off + kk * 11 + 1, none⟩ = some (.string y.src) := hc 1 _ rfl
   have e2 : wr.cell? ⟨b, off + kk * 11 + 2, none⟩ = some (.string y.dst) := hc 2 _ rfl
   have e3 : wr.cell? ⟨b, off + kk * 11 + 3, none⟩ = some (.int .i64 y.kind) := hc 3 _ rfl
   have e4 : wr.cell? ⟨b, off + kk * 11 + 4, none⟩ = some (.int .i64 y.len) := hc 4 _ rfl
   have e5 : wr.cell? ⟨b, off + kk * 11 + 5, none⟩ = some (.int .i64 y.up) := hc 5 _ rfl
   have e6 : wr.cell? ⟨b, off + kk * 11 + 6, none⟩ = some (.int .i64 y.down) := hc 6 _ rfl
   have e7 : wr.cell? ⟨b, off + kk * 11 + 7, none⟩ = some (.string y.sec) := hc 7 _ rfl
   have e8 : wr.cell? ⟨b, off + kk * 11 + 8, none⟩ = some (.int .i64 y.wid) := hc 8 _ rfl
   have e9 : wr.cell? ⟨b, off + kk * 11 + 9, none⟩ = some (.int .i64 y.hgt) := hc 9 _ rfl
   have e10 : wr.cell? ⟨b, off + kk * 11 + 10, none⟩ = some (y.curve.val) := hc 10 _ rfl
   clear hc
   go_wp2_with fail
   obtain ⟨W0, hW0⟩ : ∃ X, X = (wr.alloc (Obj.cells #[.string y.name, .string y.src, .string y.dst, .int .i64 y.kind, .int .i64 y.len, .int .i64 y.up, .int .i64 y.down, .string y.sec, .int .i64 y.wid, .int .i64 y.hgt, y.curve.val] 45)) := ⟨_, rfl⟩
   have hB0 : Bl wr W0 := by rw [hW0]; exact bz
   have q0 : W0.cell? ⟨wr.heap.size, 0, none⟩ = some (.string y.name) := by rw [hW0]; simp [go_sem]
   have q1 : W0.cell? ⟨wr.heap.size, 1, none⟩ = some (.string y.src) := by rw [hW0]; simp [go_sem]
   have q2 : W0.cell? ⟨wr.heap.size, 2, none⟩ = some (.string y.dst) := by rw [hW0]; simp [go_sem]
   have q3 : W0.cell? ⟨wr.heap.size, 3, none⟩ = some (.int .i64 y.kind) := by rw [hW0]; simp [go_sem]
   have q4 : W0.cell? ⟨wr.heap.size, 4, none⟩ = some (.int .i64 y.len) := by rw [hW0]; simp [go_sem]
   have q5 : W0.cell? ⟨wr.heap.size, 5, none⟩ = some (.int .i64 y.up) := by rw [hW0]; simp [go_sem]
   have q6 : W0.cell? ⟨wr.heap.size, 6, none⟩ = some (.int .i64 y.down) := by rw [hW0]; simp [go_sem]
   have q7 : W0.cell? ⟨wr.heap.size, 7, none⟩ = some (.string y.sec) := by rw [hW0]; simp [go_sem]
   have q8 : W0.cell? ⟨wr.heap.size, 8, none⟩ = some (.int .i64 y.wid) := by rw [hW0]; simp [go_sem]
   have q9 : W0.cell? ⟨wr.heap.size, 9, none⟩ = some (.int .i64 y.hgt) := by rw [hW0]; simp [go_sem]
   have q10 : W0.cell? ⟨wr.heap.size, 10, none⟩ = some (y.curve.val) := by rw [hW0]; simp [go_sem]
   have d0 : W0.cell? ⟨w.heap.size, 0, none⟩ = some (.slice A xs.length c) := hB0.keep C0'
   have d1 : W0.cell? ⟨w.heap.size, 1, none⟩ = some (.slice (some ⟨b, off, none⟩) ls.length c2) := hB0.keep C1'
   have d2 : W0.cell? ⟨w.heap.size + 1, 0, none⟩ = some (l.val) := hB0.keep C2'
   have d3 : W0.cell? ⟨w.heap.size + 2, 2, none⟩ = some (.slice (some ⟨b3, off3, none⟩) ss.length cs) := hB0.keep C3'
   have d4 : W0.cell? ⟨w.heap.size + 2, 3, none⟩ = some (.slice (some ⟨b4, off4, none⟩) os.length co) := hB0.keep C4'
   have zz : w.heap.size + 2 < W0.heap.size := by rw [hW0]; simp; omega
   rw [<- hW0]
   clear hW0
   have hBW0 : Bl w W0 := Bl.trans BW' hB0
   have q11 : W0.cell? ⟨b3, off3 + kk, none⟩ = some (.int .i64 vset) := by have := hcs.out W0 hBW0; rwa [Nat.mul_one] at this
   have q12 : W0.cell? ⟨b4, off4 + kk, none⟩ = some (.bool von) := by have := hco.out W0 hBW0; rwa [Nat.mul_one] at this
   clear e0 e1 e2 e3 e4 e5 e6 e7 e8 e9 e10 C0' C1' C2' C3' C4'
   go_region_held3 (fun w' => Bl W0 w' /\ w'.cell? ⟨w.heap.size, 0, none⟩ = some (.slice A xs.length c) /\ w'.cell? ⟨w.heap.size, 1, none⟩ = some (.slice (some ⟨b, off, none⟩) ls.length c2) /\ w'.cell? ⟨w.heap.size + 1, 0, none⟩ = some (l.val) /\ w'.cell? ⟨w.heap.size + 2, 2, none⟩ = some (.slice (some ⟨b3, off3, none⟩) ss.length cs) /\ w'.cell? ⟨w.heap.size + 2, 3, none⟩ = some (.slice (some ⟨b4, off4, none⟩) os.length co) /\ w'.cell? ⟨wr.heap.size, 0, none⟩ = some (.string y.name) /\ w'.cell? ⟨wr.heap.size, 1, none⟩ = some (.string y.src) /\ w'.cell? ⟨wr.heap.size, 2, none⟩ = some (.string y.dst) /\ w'.cell? ⟨wr.heap.size, 3, none⟩ = some (.int .i64 y.kind) /\ w'.cell? ⟨wr.heap.size, 4, none⟩ = some (.int .i64 y.len) /\ w'.cell? ⟨wr.heap.size, 5, none⟩ = some (.int .i64 y.up) /\ w'.cell? ⟨wr.heap.size, 6, none⟩ = some (.int .i64 y.down) /\ w'.cell? ⟨wr.heap.size, 7, none⟩ = some (.string y.sec) /\ w'.cell? ⟨wr.heap.size, 8, none⟩ = some (.int .i64 y.wid) /\ w'.cell? ⟨wr.heap.size, 9, none⟩ = some (.int .i64 y.hgt) /\ w'.cell? ⟨wr.heap.size, 10, none⟩ = some (y.curve.val) /\ w'.cell? ⟨b3, off3 + kk, none⟩ = some (.int .i64 vset) /\ w'.cell? ⟨b4, off4 + kk, none⟩ = some (.bool von)) (refine ⟨bz, Bl.keep (a := W0) bz d0, Bl.keep (a := W0) bz d1, Bl.keep (a := W0) bz d2, Bl.keep (a := W0) bz d3, Bl.keep (a := W0) bz d4, Bl.keep (a := W0) bz q0, Bl.keep (a := W0) bz q1, Bl.keep (a := W0) bz q2, Bl.keep (a := W0) bz q3, Bl.keep (a := W0) bz q4, Bl.keep (a := W0) bz q5, Bl.keep (a := W0) bz q6, Bl.keep (a := W0) bz q7, Bl.keep (a := W0) bz q8, Bl.keep (a := W0) bz q9, Bl.keep (a := W0) bz q10, Bl.keep (a := W0) bz q11, Bl.keep (a := W0) bz q12⟩) (first
    | (go_at_call 198; refine (T.out _ _ _ (Bl.trans hBW0 bz)).mono ?_; rintro e w' ⟨qq, zv, rfl, hwl⟩))
   have hSS : Bl W0 w' /\ w'.cell? ⟨w.heap.size, 0, none⟩ = some (.slice A xs.length c) /\ w'.cell? ⟨w.heap.size, 1, none⟩ = some (.slice (some ⟨b, off, none⟩) ls.length c2) /\ w'.cell? ⟨w.heap.size + 1, 0, none⟩ = some (l.val) /\ w'.cell? ⟨w.heap.size + 2, 2, none⟩ = some (.slice (some ⟨b3, off3, none⟩) ss.length cs) /\ w'.cell? ⟨w.heap.size + 2, 3, none⟩ = some (.slice (some ⟨b4, off4, none⟩) os.length co) /\ w'.cell? ⟨wr.heap.size, 0, none⟩ = some (.string y.name) /\ w'.cell? ⟨wr.heap.size, 1, none⟩ = some (.string y.src) /\ w'.cell? ⟨wr.heap.size, 2, none⟩ = some (.string y.dst) /\ w'.cell? ⟨wr.heap.size, 3, none⟩ = some (.int .i64 y.kind) /\ w'.cell? ⟨wr.heap.size, 4, none⟩ = some (.int .i64 y.len) /\ w'.cell? ⟨wr.heap.size, 5, none⟩ = some (.int .i64 y.up) /\ w'.cell? ⟨wr.heap.size, 6, none⟩ = some (.int .i64 y.down) /\ w'.cell? ⟨wr.heap.size, 7, none⟩ = some (.string y.sec) /\ w'.cell? ⟨wr.heap.size, 8, none⟩ = some (.int .i64 y.wid) /\ w'.cell? ⟨wr.heap.size, 9, none⟩ = some (.int .i64 y.hgt) /\ w'.cell? ⟨wr.heap.size, 10, none⟩ = some (y.curve.val) /\ w'.cell? ⟨b3, off3 + kk, none⟩ = some (.int .i64 vset) /\ w'.cell? ⟨b4, off4 + kk, none⟩ = some (.bool von) := by assumption
   have hBw' : Bl wr w' := Bl.trans hB0 hSS.1
   have hbw' : Bl w w' := Bl.trans BW' hBw'
   have f0 := hSS.1.keep d0
   have f1 := hSS.1.keep d1
   have f2 := hSS.1.keep d2
   have f3 := hSS.1.keep d3
   have f4 := hSS.1.keep d4
   have hzw : w.heap.size + 2 < w'.heap.size := by have := hSS.1.size; omega
   have hOw := HD (Own.bl OW.out hBw')
   clear hSS q0 q1 q2 q3 q4 q5 q6 q7 q8 q9 q10 q11 q12 d0 d1 d2 d3 d4 hwl
   by_cases hz0 : zv = 0
   ·subst hz0
    go_wp2_with (at_builtin; refine wpList_append_own _ rfl _ _ 28 rfl (w.heap.size + 3) 3 i0 (.int .i64 0) 1 8 u28 HI.out.1 HI.out.2.1 HI.out.2.2.1 HI.out.2.2.2 rfl (by decide) _ _ _ rfl (World.ownsRow.alloc hOw.out _) ⟨w'.heap.size, 0, none⟩ 1 1 [.int .i64 qq] rfl rfl ?c1 ?c2 ?c3 ?c4 ?c5 ?_)
    case c1 =>
     intro j u hj
     match j, hj with
     | 0, hj => simp at hj; subst hj; simp [Addr.add, go_sem]
    case c2 => intro u hu; simp at hu; subst hu; rfl
    case c3 => unfold maxLen; omega
    case c4 => omega
    case c5 => simp; omega
    intro v' w5 hown' hgrow _
    obtain ⟨s', rfl, hs', hO'⟩ := Own.push (enc := encI) (k := 1) (e := 3) (base := w.heap.size + 3) (w := w5) (s := s) (x := qq) (v := v') (by rw [SL']; exact hown')
    have hOa := HD (World.ownsRow.alloc hOw.out (Obj.cells #[.int .i64 qq] 3))
    have hB5 : Bl w w5 := Bl.grown (Bl.alloc hbw' _) hgrow (fun g hg => by have := (World.ownsRow.lt hOw.out g hg).1; omega)
    have hz5 : w.heap.size + 2 < w5.heap.size := by have := hgrow.size; simp at this; omega
    have g0 : w5.cell? ⟨w.heap.size, 0, none⟩ = some (.slice A xs.length c) := (Own.kept (s := s) hOa.out hgrow _ _ (by omega) (by simp; omega)).trans ((Bl.alloc (Bl.refl w') _).keep f0)
    have g1 : w5.cell? ⟨w.heap.size, 1, none⟩ = some (.slice (some ⟨b, off, none⟩) ls.length c2) := (Own.kept (s := s) hOa.out hgrow _ _ (by omega) (by simp; omega)).trans ((Bl.alloc (Bl.refl w') _).keep f1)
    have g2 : w5.cell? ⟨w.heap.size + 1, 0, none⟩ = some (l.val) := (Own.kept (s := s) hOa.out hgrow _ _ (by omega) (by simp; omega)).trans ((Bl.alloc (Bl.refl w') _).keep f2)
    have g3 : w5.cell? ⟨w.heap.size + 2, 2, none⟩ = some (.slice (some ⟨b3, off3, none⟩) ss.length cs) := (Own.kept (s := s) hOa.out hgrow _ _ (by omega) (by simp; omega)).trans ((Bl.alloc (Bl.refl w') _).keep f3)
    have g4 : w5.cell? ⟨w.heap.size + 2, 3, none⟩ = some (.slice (some ⟨b4, off4, none⟩) os.length co) := (Own.kept (s := s) hOa.out hgrow _ _ (by omega) (by simp; omega)).trans ((Bl.alloc (Bl.refl w') _).keep f4)
    have hX := HD (show s'.xs.length = kk + 1 by rw [hs', List.length_append, SL']; rfl)
    have hOO := HD hO'
    clear hown' hgrow hO' hs' f0 f1 f2 f3 f4
    go_wp2_with fail
    go_roundg (ls.length - (kk + 1))
    case measure => omega
    case rel => exact ⟨kk + 1, s', by omega, by omega, by go_num, rfl, hB5, aside hz5, aside g0, aside g1, aside g2, aside g3, aside g4, hOO.out, hX.out⟩
   ·have hz1 : (zv != 0) = true := by simpa using hz0
    go_wp2_with fail
    exact bodyPost_ret (v := .tuple #[.slice none 0 0, .int .i64 zv]) (by simp [results, Tryz.results158, go_sem, *]; try exact ⟨rfl, rfl⟩) rfl (RFl.no hz0 bz)
  ·have hltz : ¬ (kk : Int) < (ls.length : Int) := by omega
   have hk : kk = ls.length := by omega
   go_wp2_with fail
   exact bodyPost_ret (v := .tuple #[s.val, .int .i64 0]) (by simp [results, Tryz.results158, go_sem, *]; try exact ⟨rfl, rfl⟩) rfl ⟨s, 0, rfl, ⟨Own.ok OW.out (fun _ => rfl) (by omega) (fun _ _ => trivial), New.own OW.out (by omega)⟩, fun _ => by omega, fun h => absurd rfl h, BW'⟩
theorem f158_c (n : Net) (l : Sl Sec) (lv : Sl Int) (s : St) (w : World) (hs : InNet w n) (hl : InSecs w l) (hv : InI w lv) (ht : InSt w s) : Calls Tryz.prog 158 #[n.val, l.val, lv.val, s.val] w (RFl n.links.xs.length w) := by
 obtain ⟨⟨A, c, xs⟩, ⟨A2, c2, ls⟩⟩ := n
 obtain ⟨⟨V, cv, vs⟩, ⟨Pn, cp, ps⟩, ⟨Sn, cs, ss⟩, ⟨On, co, os⟩⟩ := s
 refine f158_core A A2 V Pn Sn On c c2 cv cp cs co l lv xs ls vs ps ss os w (stateB ⟨⟨A, c, xs⟩, ⟨A2, c2, ls⟩⟩ ⟨⟨V, cv, vs⟩, ⟨Pn, cp, ps⟩, ⟨Sn, cs, ss⟩, ⟨On, co, os⟩⟩) (ls.any (fun x => !knownB l.xs x)) (lv.xs.length = xs.length) hs ht
  (fun W hb => f48_c l W (InSecs.up hl hb)) (fun W hb => f50_c _ _ W (InNet.up hs hb) (InSt.up ht hb)) (fun W hb => f193_c ⟨⟨A, c, xs⟩, ⟨A2, c2, ls⟩⟩ lv W (InNet.up hs hb) (InI.up hv hb))
  (fun W q hb hc => f7_c ⟨A2, c2, ls⟩ W.heap.size 196 #[.pointer (some ⟨q, 0, none⟩)] (fun x => !knownB l.xs x) W (InNet.up hs hb).links (fun W' y _ hb' => f196_c l y q W' (InSecs.up hl (hb.trans hb')) (hb'.keep hc)) e196)
  (fun W k h s on hSB hLB hNK hb => ?_) (fun hSB => ?_)
 ·have hok := (stateB_iff _ _).mp hSB
  have hkn : knownB l.xs ls[k] = true := by
   rw [List.any_eq_false] at hNK
   have := hNK ls[k] (List.getElem_mem _)
   simpa using this
  have he := lk_ends hok.1 k h
  exact f198_c ⟨⟨A, c, xs⟩, ⟨A2, c2, ls⟩⟩ l ls[k] lv s on W (InNet.up hs hb) (InSecs.up hl hb) ((InNet.up hs hb).links.each _ (List.getElem_mem _)) (InI.up hv hb) hkn he.1 he.2 hLB
 ·have hok := (stateB_iff _ _).mp hSB
  exact ⟨((netB_iff _).mp hok.1).2.1, hok.2.2.2.1, hok.2.2.2.2.1⟩
theorem i4 : ∃ i, Tryz.prog.info? 4 = some i /\ i.zero = some (.bool false) /\ i.size = 1 /\ i.bytes = 1 := info_of (by kernel_rfl)
theorem u29 : Tryz.prog.underlying 29 = some (.slice 4) := by kernel_rfl
theorem InB_nil (w : World) : InB w ⟨none, 0, []⟩ := ⟨Nat.le_refl _, by simp, fun e => absurd rfl e, fun _ h => by cases h⟩
def ROn (ls : List Lk) (w : World) (e : Ending) (w' : World) : Prop := ∃ (s : Sl Bool) (q : Int), e = .returned (.tuple #[s.val, .int .i64 q]) /\ (InB w' s /\ New w s) /\ (q = 0 -> s.xs.length = ls.length /\ ∀ i (h : i < s.xs.length) (h2 : i < ls.length), s.xs[i] = true -> ls[i].kind = 4) /\ Bl w w'
theorem ROn.no {ls : List Lk} {w w' : World} {q : Int} (hq : ¬ q = 0) (hb : Bl w w') : ROn ls w (.returned (.tuple #[.slice none 0 0, .int .i64 q])) w' := ⟨⟨none, 0, []⟩, q, rfl, ⟨InB_nil _, New.nil⟩, fun h => absurd h hq, hb⟩
set_option maxHeartbeats 2000000 in
theorem f157_core (A A2 V Pn Sn On LA : Option Addr) (c c2 cv cp cs co lc : Nat) (lv : List Int) (xs : List Nd) (ls : List Lk) (vs ps ss : List Int) (os : List Bool) (w : World) (SB : Bool)
 (hs : InNet w ⟨⟨A, c, xs⟩, ⟨A2, c2, ls⟩⟩) (ht : InSt w ⟨⟨V, cv, vs⟩, ⟨Pn, cp, ps⟩, ⟨Sn, cs, ss⟩, ⟨On, co, os⟩⟩) (hv : InI w ⟨LA, lc, lv⟩)
 (T50 : ∀ W, Bl w W -> Calls Tryz.prog 50 #[.agg #[.slice A xs.length c, .slice A2 ls.length c2], .agg #[.slice V vs.length cv, .slice Pn ps.length cp, .slice Sn ss.length cs, .slice On os.length co]] W fun e w' => e = .returned (.bool SB) /\ Bl W w')
 (T193 : ∀ W, Bl w W -> Calls Tryz.prog 193 #[.agg #[.slice A xs.length c, .slice A2 ls.length c2], .slice LA lv.length lc] W fun e w' => ∃ z : Int, e = .returned (.int .i64 z) /\ (z = 0 -> lv.length = xs.length) /\ Bl W w')
 (T194 : ∀ W (k : Nat) (h : k < ls.length), SB = true -> Bl w W -> Calls Tryz.prog 194 #[.agg #[.slice A xs.length c, .slice A2 ls.length c2], ls[k].val] W fun e w' => ∃ (i j : Nat), i < xs.length /\ e = .returned (.tuple #[.int .i64 i, .int .i64 j]) /\ Bl W w')
 (hL : SB = true -> ls.length ≤ 400 /\ os.length = ls.length) :
 Calls Tryz.prog 157 #[.agg #[.slice A xs.length c, .slice A2 ls.length c2], .agg #[.slice V vs.length cv, .slice Pn ps.length cp, .slice Sn ss.length cs, .slice On os.length co], .slice LA lv.length lc] w (ROn ls w) := by
 have hS := HD hs
 have hT := HD ht
 have hV := HD hv
 have hr := hs.links.room
 have hr3 := hv.room
 have hr4 := ht.on.room
 have T50 := HD T50
 have T193 := HD T193
 have T194 := HD T194
 have hL := HD hL
 simp only at hr hr3 hr4
 clear hs ht hv
 obtain ⟨i0, hi, hz0, hz1, hz2⟩ := i4
 have HI := HD (And.intro hi (And.intro hz0 (And.intro hz1 hz2)))
 clear hi hz0 hz1 hz2
 go_enter Tryz.func157, Tryz.ntmps157
 go_wp2_with fail
 refine (T50.out _ bz).mono ?_
 rintro e w2 ⟨rfl, hw2⟩
 clear T50
 obtain ⟨hchw2, hfhw2, hzhw2⟩ := Bl.rules hw2; (try simp only [aZ, cZ, dZ, nZ] at hzhw2)
 have zy0 : w.heap.size < w2.heap.size := by omega
 have zy1 : w.heap.size + 1 < w2.heap.size := by omega
 cases hb : SB
 case false =>
  go_wp2_with fail
  exact bodyPost_ret (v := .tuple #[.slice none 0 0, .int .i64 1]) (by simp [results, Tryz.results157, go_sem, *]; try exact ⟨rfl, rfl⟩) rfl (ROn.no (by omega) bz)
 obtain ⟨hl1, hl3⟩ := hL.out hb
 go_wp2_with fail
 refine (T193.out _ bz).mono ?_
 rintro e w3 ⟨z, rfl, hz, hw3⟩
 clear T193
 obtain ⟨hchw3, hfhw3, hzhw3⟩ := Bl.rules hw3; (try simp only [aZ, cZ, dZ, nZ] at hzhw3)
 have zx0 : w.heap.size < w3.heap.size := by omega
 have zx1 : w.heap.size + 1 < w3.heap.size := by omega
 by_cases hz0 : z = 0
 case neg =>
  have hzn : (z != 0) = true := by simpa using hz0
  go_wp2_with fail
  exact bodyPost_ret (v := .tuple #[.slice none 0 0, .int .i64 z]) (by simp [results, Tryz.results157, go_sem, *]; try exact ⟨rfl, rfl⟩) rfl (ROn.no hz0 bz)
 have hlvx := HD (hz hz0)
 clear hz
 subst hz0
 have hB4 : Bl w w3 := bz
 have T194 := HD (fun W k h => T194.out W k h hb)
 have b0 : w3.cell? ⟨w.heap.size, 0, none⟩ = some (.slice A xs.length c) := by simp [go_sem, *]
 have b1 : w3.cell? ⟨w.heap.size, 1, none⟩ = some (.slice A2 ls.length c2) := by simp [go_sem, *]
 have b4 : w3.cell? ⟨w.heap.size + 1, 3, none⟩ = some (.slice On os.length co) := by simp [go_sem, *]
 clear hw2 hchw2 hfhw2 hzhw2 hw3 hchw3 hfhw3 hzhw3 zy0 zy1 zx0 hb hL
 go_wp2_with fail
 go_loopg [9, 29] ls.length (fun gg s9 s29 wr => ∃ (kk : Nat) (s : Sl Bool), kk ≤ ls.length /\ ls.length - kk ≤ gg /\ s29 = .int .i64 kk /\ s9 = s.val /\ Aside (Bl w wr) /\ Aside (w.heap.size + 1 < wr.heap.size) /\ Aside (wr.cell? ⟨w.heap.size, 0, none⟩ = some (.slice A xs.length c)) /\ Aside (wr.cell? ⟨w.heap.size, 1, none⟩ = some (.slice A2 ls.length c2)) /\ Aside (wr.cell? ⟨w.heap.size + 1, 3, none⟩ = some (.slice On os.length co)) /\ Aside (Own encB 1 4 (w.heap.size + 2) wr s) /\ Aside (s.xs.length = kk) /\ Aside (∀ i (h : i < s.xs.length) (h2 : i < ls.length), s.xs[i] = true -> ls[i].kind = 4))
 case atStart => exact ⟨0, ⟨none, 0, []⟩, Nat.zero_le _, by omega, rfl, rfl, hB4, aside zx1, aside b0, aside b1, aside b4, Own.nil, aside rfl, aside (fun i h => absurd h (by simp))⟩
 case round =>
  clear hB4 zx1 b0 b1 b4
  obtain ⟨kk, s, hkk, hg, rfl, rfl, BW, Z, C0, C1, C4, OW, SL, PR⟩ := hrel
  have BW' := BW.out
  have Z' := Z.out
  have C0' := C0.out
  have C1' := C1.out
  have C4' := C4.out
  have SL' := SL.out
  have Z0' : w.heap.size < wr.heap.size := by omega
  clear BW Z C0 C1 C4 SL
  by_cases hlt : kk < ls.length
  ·have hltz : (kk : Int) < (ls.length : Int) := by omega
   have hkz : (0 : Int) ≤ (kk : Int) := by omega
   have hlo : kk < os.length := by omega
   obtain ⟨b, off, hA, _, _, _⟩ := hS.out.links.place (by intro e; simp only at e; rw [e] at hlt; simp at hlt)
   obtain ⟨b4, off4, hA4, _, _, _⟩ := hT.out.on.place (by intro e; simp only at e; rw [e] at hlo; simp at hlo)
   simp only at hA hA4
   subst hA hA4
   have hc := Sl.Ok.cells hS.out.links rfl wr BW' kk hlt
   have hco := HD (fun W (hb : Bl w W) => Sl.Ok.cells hT.out.on rfl W hb kk hlo 0 _ rfl)
   have T := HD (fun W => T194.out W kk hlt)
   have hgood := HD (fun W (hb : Bl w W) => (InNet.up hS.out hb).links.each ls[kk] (List.getElem_mem _))
   simp only at hc hco
   have hkd := HD (show ∀ s' : Sl Bool, ∀ bb : Bool, s'.xs = s.xs ++ [bb] -> (bb = true -> ls[kk].kind = 4) -> (∀ i (h : i < s'.xs.length) (h2 : i < ls.length), s'.xs[i] = true -> ls[i].kind = 4) from by
    intro s' bb h1 h2 i hi hi2 ht
    have hi' : i < kk + 1 := by rw [h1] at hi; simpa [SL'] using hi
    rcases Nat.lt_or_ge i kk with h | h
    ·refine PR.out i (by omega) hi2 ?_
     simp only [h1] at ht
     rw [List.getElem_append_left (by omega)] at ht
     exact ht
    ·have : i = kk := by omega
     subst this
     refine h2 ?_
     simp only [h1] at ht
     rw [List.getElem_append_right (by omega)] at ht
     simpa using ht)
   generalize ls[kk] = y at hc T hkd hgood
   generalize os[kk] = von at hco
   have e0 : wr.cell? ⟨b, off + kk * 11, none⟩ = some (.string y.name) := hc 0 _ rfl
   have e1 : wr.cell? ⟨b, off + kk * 11 + 1, none⟩ = some (.string y.src) := hc 1 _ rfl
   have e2 : wr.cell? ⟨b, off + kk * 11 + 2, none⟩ = some (.string y.dst) := hc 2 _ rfl
   have e3 : wr.cell? ⟨b, off + kk * 11 + 3, none⟩ = some (.int .i64 y.kind) := hc 3 _ rfl
   have e4 : wr.cell? ⟨b, off + kk * 11 + 4, none⟩ = some (.int .i64 y.len) := hc 4 _ rfl
   have e5 : wr.cell? ⟨b, off + kk * 11 + 5, none⟩ = some (.int .i64 y.up) := hc 5 _ rfl
   have e6 : wr.cell? ⟨b, off + kk * 11 + 6, none⟩ = some (.int .i64 y.down) := hc 6 _ rfl
   have e7 : wr.cell? ⟨b, off + kk * 11 + 7, none⟩ = some (.string y.sec) := hc 7 _ rfl
   have e8 : wr.cell? ⟨b, off + kk * 11 + 8, none⟩ = some (.int .i64 y.wid) := hc 8 _ rfl
   have e9 : wr.cell? ⟨b, off + kk * 11 + 9, none⟩ = some (.int .i64 y.hgt) := hc 9 _ rfl
   have e10 : wr.cell? ⟨b, off + kk * 11 + 10, none⟩ = some (y.curve.val) := hc 10 _ rfl
   clear hc
   by_cases hk4 : y.kind = 4
   ·have hk4b : (y.kind == 4) = true := by simpa using hk4
    have hk4h := HD hk4
    clear hk4
    go_wp2_with fail
    refine (T.out _ (Bl.trans BW' bz)).mono ?_
    rintro e w4 ⟨i, j, hi, rfl, hw4⟩
    have hB0 : Bl wr w4 := bz
    obtain ⟨hchw4, hfhw4, hzhw4⟩ := Bl.rules hw4; (try simp only [aZ, cZ, dZ, nZ] at hzhw4)
    have zq : wr.heap.size < w4.heap.size := by omega
    have hilv : i < lv.length := by have := hlvx.out; omega
    have hilz : (i : Int) < (lv.length : Int) := by omega
    have hiz : (0 : Int) ≤ (i : Int) := by omega
    obtain ⟨b5, off5, hA5, _, _, _⟩ := hV.out.place (by intro e; simp only at e; rw [e] at hilv; simp at hilv)
    simp only at hA5
    subst hA5
    have hcl := HD (fun W (hb : Bl w W) => Sl.Ok.cells hV.out rfl W hb i hilv 0 _ rfl)
    simp only at hcl
    generalize lv[i] = vlv at hcl
    have q0 : w4.cell? ⟨wr.heap.size, 0, none⟩ = some (.string y.name) := by simp [go_sem, *]
    have q1 : w4.cell? ⟨wr.heap.size, 1, none⟩ = some (.string y.src) := by simp [go_sem, *]
    have q2 : w4.cell? ⟨wr.heap.size, 2, none⟩ = some (.string y.dst) := by simp [go_sem, *]
    have q3 : w4.cell? ⟨wr.heap.size, 3, none⟩ = some (.int .i64 y.kind) := by simp [go_sem, *]
    have q4 : w4.cell? ⟨wr.heap.size, 4, none⟩ = some (.int .i64 y.len) := by simp [go_sem, *]
    have q5 : w4.cell? ⟨wr.heap.size, 5, none⟩ = some (.int .i64 y.up) := by simp [go_sem, *]
    have q6 : w4.cell? ⟨wr.heap.size, 6, none⟩ = some (.int .i64 y.down) := by simp [go_sem, *]
    have q7 : w4.cell? ⟨wr.heap.size, 7, none⟩ = some (.string y.sec) := by simp [go_sem, *]
    have q8 : w4.cell? ⟨wr.heap.size, 8, none⟩ = some (.int .i64 y.wid) := by simp [go_sem, *]
    have q9 : w4.cell? ⟨wr.heap.size, 9, none⟩ = some (.int .i64 y.hgt) := by simp [go_sem, *]
    have q10 : w4.cell? ⟨wr.heap.size, 10, none⟩ = some (y.curve.val) := by simp [go_sem, *]
    have d0 : w4.cell? ⟨w.heap.size, 0, none⟩ = some (.slice A xs.length c) := hB0.keep C0'
    have d1 : w4.cell? ⟨w.heap.size, 1, none⟩ = some (.slice (some ⟨b, off, none⟩) ls.length c2) := hB0.keep C1'
    have d2 : w4.cell? ⟨w.heap.size + 1, 3, none⟩ = some (.slice (some ⟨b4, off4, none⟩) os.length co) := hB0.keep C4'
    have hBW0 : Bl w w4 := Bl.trans BW' hB0
    have q11 : w4.cell? ⟨b4, off4 + kk, none⟩ = some (.bool von) := by have := hco.out w4 hBW0; rwa [Nat.mul_one] at this
    have q12 : w4.cell? ⟨b5, off5 + i, none⟩ = some (.int .i64 vlv) := by have := hcl.out w4 hBW0; rwa [Nat.mul_one] at this
    clear e0 e1 e2 e3 e4 e5 e6 e7 e8 e9 e10 C0' C1' C4' hchw4 hfhw4
    go_wp2_with fail
    go_region_held3 (fun w' => Bl w4 w' /\ w'.cell? ⟨w.heap.size, 0, none⟩ = some (.slice A xs.length c) /\ w'.cell? ⟨w.heap.size, 1, none⟩ = some (.slice (some ⟨b, off, none⟩) ls.length c2) /\ w'.cell? ⟨w.heap.size + 1, 3, none⟩ = some (.slice (some ⟨b4, off4, none⟩) os.length co) /\ w'.cell? ⟨wr.heap.size, 0, none⟩ = some (.string y.name) /\ w'.cell? ⟨wr.heap.size, 1, none⟩ = some (.string y.src) /\ w'.cell? ⟨wr.heap.size, 2, none⟩ = some (.string y.dst) /\ w'.cell? ⟨wr.heap.size, 3, none⟩ = some (.int .i64 y.kind) /\ w'.cell? ⟨wr.heap.size, 4, none⟩ = some (.int .i64 y.len) /\ w'.cell? ⟨wr.heap.size, 5, none⟩ = some (.int .i64 y.up) /\ w'.cell? ⟨wr.heap.size, 6, none⟩ = some (.int .i64 y.down) /\ w'.cell? ⟨wr.heap.size, 7, none⟩ = some (.string y.sec) /\ w'.cell? ⟨wr.heap.size, 8, none⟩ = some (.int .i64 y.wid) /\ w'.cell? ⟨wr.heap.size, 9, none⟩ = some (.int .i64 y.hgt) /\ w'.cell? ⟨wr.heap.size, 10, none⟩ = some (y.curve.val) /\ w'.cell? ⟨b4, off4 + kk, none⟩ = some (.bool von) /\ w'.cell? ⟨b5, off5 + i, none⟩ = some (.int .i64 vlv)) (refine ⟨bz, Bl.keep (a := w4) bz d0, Bl.keep (a := w4) bz d1, Bl.keep (a := w4) bz d2, Bl.keep (a := w4) bz q0, Bl.keep (a := w4) bz q1, Bl.keep (a := w4) bz q2, Bl.keep (a := w4) bz q3, Bl.keep (a := w4) bz q4, Bl.keep (a := w4) bz q5, Bl.keep (a := w4) bz q6, Bl.keep (a := w4) bz q7, Bl.keep (a := w4) bz q8, Bl.keep (a := w4) bz q9, Bl.keep (a := w4) bz q10, Bl.keep (a := w4) bz q11, Bl.keep (a := w4) bz q12⟩) (first
     | (go_at_call 195; refine (f195_c y von vlv _ (hgood.out _ (Bl.trans hBW0 bz))).mono ?_; rintro e w' ⟨bq, zv, rfl, hwl⟩))
    have hSS : Bl w4 w' /\ w'.cell? ⟨w.heap.size, 0, none⟩ = some (.slice A xs.length c) /\ w'.cell? ⟨w.heap.size, 1, none⟩ = some (.slice (some ⟨b, off, none⟩) ls.length c2) /\ w'.cell? ⟨w.heap.size + 1, 3, none⟩ = some (.slice (some ⟨b4, off4, none⟩) os.length co) /\ w'.cell? ⟨wr.heap.size, 0, none⟩ = some (.string y.name) /\ w'.cell? ⟨wr.heap.size, 1, none⟩ = some (.string y.src) /\ w'.cell? ⟨wr.heap.size, 2, none⟩ = some (.string y.dst) /\ w'.cell? ⟨wr.heap.size, 3, none⟩ = some (.int .i64 y.kind) /\ w'.cell? ⟨wr.heap.size, 4, none⟩ = some (.int .i64 y.len) /\ w'.cell? ⟨wr.heap.size, 5, none⟩ = some (.int .i64 y.up) /\ w'.cell? ⟨wr.heap.size, 6, none⟩ = some (.int .i64 y.down) /\ w'.cell? ⟨wr.heap.size, 7, none⟩ = some (.string y.sec) /\ w'.cell? ⟨wr.heap.size, 8, none⟩ = some (.int .i64 y.wid) /\ w'.cell? ⟨wr.heap.size, 9, none⟩ = some (.int .i64 y.hgt) /\ w'.cell? ⟨wr.heap.size, 10, none⟩ = some (y.curve.val) /\ w'.cell? ⟨b4, off4 + kk, none⟩ = some (.bool von) /\ w'.cell? ⟨b5, off5 + i, none⟩ = some (.int .i64 vlv) := by assumption
    have hBw' : Bl wr w' := Bl.trans hB0 hSS.1
    have hbw' : Bl w w' := Bl.trans BW' hBw'
    have f0 := hSS.1.keep d0
    have f1 := hSS.1.keep d1
    have f2 := hSS.1.keep d2
    have hzw : w.heap.size + 1 < w'.heap.size := by have := hSS.1.size; omega
    clear hSS q0 q1 q2 q3 q4 q5 q6 q7 q8 q9 q10 q11 q12 d0 d1 d2 hwl
    by_cases hz0 : zv = 0
    ·subst hz0
     have hOw := HD (Own.bl OW.out hBw')
     go_wp2_with (at_builtin; refine wpList_append_own _ rfl _ _ 29 rfl (w.heap.size + 2) 4 i0 (.bool false) 1 1 u29 HI.out.1 HI.out.2.1 HI.out.2.2.1 HI.out.2.2.2 rfl (by decide) _ _ _ rfl (World.ownsRow.alloc hOw.out _) ⟨w'.heap.size, 0, none⟩ 1 1 [.bool bq] rfl rfl ?c1 ?c2 ?c3 ?c4 ?c5 ?_)
     try case c1 =>
      intro j u hj
      match j, hj with
      | 0, hj => simp at hj; subst hj; simp [Addr.add, go_sem]
     case c2 => first | rfl | (intro u hu; simp at hu; subst hu; rfl)
     case c3 => unfold maxLen; omega
     case c4 => omega
     case c5 => first | omega | (simp; omega)
     intro v' w5 hown' hgrow _
     obtain ⟨s', rfl, hs', hO'⟩ := Own.push (enc := encB) (k := 1) (e := 4) (base := w.heap.size + 2) (w := w5) (s := s) (x := bq) (v := v') (by rw [SL']; exact hown')
     have hOa := HD (World.ownsRow.alloc hOw.out (Obj.cells #[.bool bq] 4))
     have hB5 : Bl w w5 := Bl.grown (Bl.alloc hbw' _) hgrow (fun g hg => by have := (World.ownsRow.lt hOw.out g hg).1; omega)
     have hz5 : w.heap.size + 1 < w5.heap.size := by have := hgrow.size; simp at this; omega
     have g0 : w5.cell? ⟨w.heap.size, 0, none⟩ = some (.slice A xs.length c) := (Own.kept (s := s) hOa.out hgrow _ _ (by omega) (by simp; omega)).trans ((Bl.alloc (Bl.refl _) _).keep f0)
     have g1 : w5.cell? ⟨w.heap.size, 1, none⟩ = some (.slice (some ⟨b, off, none⟩) ls.length c2) := (Own.kept (s := s) hOa.out hgrow _ _ (by omega) (by simp; omega)).trans ((Bl.alloc (Bl.refl _) _).keep f1)
     have g2 : w5.cell? ⟨w.heap.size + 1, 3, none⟩ = some (.slice (some ⟨b4, off4, none⟩) os.length co) := (Own.kept (s := s) hOa.out hgrow _ _ (by omega) (by simp; omega)).trans ((Bl.alloc (Bl.refl _) _).keep f2)
     have hX := HD (show s'.xs.length = kk + 1 by rw [hs', List.length_append, SL']; rfl)
     have hP := HD (hkd.out s' bq hs' (fun _ => hk4h.out))
     have hOO := HD hO'
     clear hown' hgrow hO' hs' f0 f1 f2
     go_wp2_with fail
     go_roundg (ls.length - (kk + 1))
     case measure => omega
     case rel => exact ⟨kk + 1, s', by omega, by omega, by go_num, rfl, hB5, aside hz5, aside g0, aside g1, aside g2, hOO.out, hX.out, hP.out⟩
    ·have hz1 : (zv != 0) = true := by simpa using hz0
     go_wp2_with fail
     exact bodyPost_ret (v := .tuple #[.slice none 0 0, .int .i64 zv]) (by simp [results, Tryz.results157, go_sem, *]; try exact ⟨rfl, rfl⟩) rfl (ROn.no hz0 bz)
   ·have hk4b : (y.kind == 4) = false := by simpa using hk4
    have hBw' : Bl wr (wr.alloc (Obj.cells #[.string y.name, .string y.src, .string y.dst, .int .i64 y.kind, .int .i64 y.len, .int .i64 y.up, .int .i64 y.down, .string y.sec, .int .i64 y.wid, .int .i64 y.hgt, y.curve.val] 45)) := bz
    have hbw' : Bl w (wr.alloc (Obj.cells #[.string y.name, .string y.src, .string y.dst, .int .i64 y.kind, .int .i64 y.len, .int .i64 y.up, .int .i64 y.down, .string y.sec, .int .i64 y.wid, .int .i64 y.hgt, y.curve.val] 45)) := Bl.trans BW' hBw'
    have hzw : w.heap.size + 1 < (wr.alloc (Obj.cells #[.string y.name, .string y.src, .string y.dst, .int .i64 y.kind, .int .i64 y.len, .int .i64 y.up, .int .i64 y.down, .string y.sec, .int .i64 y.wid, .int .i64 y.hgt, y.curve.val] 45)).heap.size := by simp; omega
    have f0 : (wr.alloc (Obj.cells #[.string y.name, .string y.src, .string y.dst, .int .i64 y.kind, .int .i64 y.len, .int .i64 y.up, .int .i64 y.down, .string y.sec, .int .i64 y.wid, .int .i64 y.hgt, y.curve.val] 45)).cell? ⟨w.heap.size, 0, none⟩ = some (.slice A xs.length c) := hBw'.keep C0'
    have f1 : (wr.alloc (Obj.cells #[.string y.name, .string y.src, .string y.dst, .int .i64 y.kind, .int .i64 y.len, .int .i64 y.up, .int .i64 y.down, .string y.sec, .int .i64 y.wid, .int .i64 y.hgt, y.curve.val] 45)).cell? ⟨w.heap.size, 1, none⟩ = some (.slice (some ⟨b, off, none⟩) ls.length c2) := hBw'.keep C1'
    have f2 : (wr.alloc (Obj.cells #[.string y.name, .string y.src, .string y.dst, .int .i64 y.kind, .int .i64 y.len, .int .i64 y.up, .int .i64 y.down, .string y.sec, .int .i64 y.wid, .int .i64 y.hgt, y.curve.val] 45)).cell? ⟨w.heap.size + 1, 3, none⟩ = some (.slice (some ⟨b4, off4, none⟩) os.length co) := hBw'.keep C4'
    have hOw := HD (Own.bl OW.out hBw')
    go_wp2_with (at_builtin; refine wpList_append_own _ rfl _ _ 29 rfl (w.heap.size + 2) 4 i0 (.bool false) 1 1 u29 HI.out.1 HI.out.2.1 HI.out.2.2.1 HI.out.2.2.2 rfl (by decide) _ _ _ rfl (World.ownsRow.alloc hOw.out _) ⟨wr.heap.size + 1, 0, none⟩ 1 1 [.bool false] rfl rfl ?c1 ?c2 ?c3 ?c4 ?c5 ?_)
    try case c1 =>
     intro j u hj
     match j, hj with
     | 0, hj => simp at hj; subst hj; simp [Addr.add, go_sem]
    case c2 => first | rfl | (intro u hu; simp at hu; subst hu; rfl)
    case c3 => unfold maxLen; omega
    case c4 => omega
    case c5 => first | omega | (simp; omega)
    intro v' w5 hown' hgrow _
    obtain ⟨s', rfl, hs', hO'⟩ := Own.push (enc := encB) (k := 1) (e := 4) (base := w.heap.size + 2) (w := w5) (s := s) (x := false) (v := v') (by rw [SL']; exact hown')
    have hOa := HD (World.ownsRow.alloc hOw.out (Obj.cells #[.bool false] 4))
    have hB5 : Bl w w5 := Bl.grown (Bl.alloc hbw' _) hgrow (fun g hg => by have := (World.ownsRow.lt hOw.out g hg).1; omega)
    have hz5 : w.heap.size + 1 < w5.heap.size := by have := hgrow.size; simp at this; omega
    have g0 : w5.cell? ⟨w.heap.size, 0, none⟩ = some (.slice A xs.length c) := (Own.kept (s := s) hOa.out hgrow _ _ (by omega) (by simp; omega)).trans ((Bl.alloc (Bl.refl _) _).keep f0)
    have g1 : w5.cell? ⟨w.heap.size, 1, none⟩ = some (.slice (some ⟨b, off, none⟩) ls.length c2) := (Own.kept (s := s) hOa.out hgrow _ _ (by omega) (by simp; omega)).trans ((Bl.alloc (Bl.refl _) _).keep f1)
    have g2 : w5.cell? ⟨w.heap.size + 1, 3, none⟩ = some (.slice (some ⟨b4, off4, none⟩) os.length co) := (Own.kept (s := s) hOa.out hgrow _ _ (by omega) (by simp; omega)).trans ((Bl.alloc (Bl.refl _) _).keep f2)
    have hX := HD (show s'.xs.length = kk + 1 by rw [hs', List.length_append, SL']; rfl)
    have hP := HD (hkd.out s' false hs' (fun h => by cases h))
    have hOO := HD hO'
    clear hown' hgrow hO' hs' f0 f1 f2
    go_wp2_with fail
    go_roundg (ls.length - (kk + 1))
    case measure => omega
    case rel => exact ⟨kk + 1, s', by omega, by omega, by go_num, rfl, hB5, aside hz5, aside g0, aside g1, aside g2, hOO.out, hX.out, hP.out⟩
  ·have hltz : ¬ (kk : Int) < (ls.length : Int) := by omega
   have hk : kk = ls.length := by omega
   go_wp2_with fail
   exact bodyPost_ret (v := .tuple #[s.val, .int .i64 0]) (by simp [results, Tryz.results157, go_sem, *]; try exact ⟨rfl, rfl⟩) rfl ⟨s, 0, rfl, ⟨Own.ok OW.out (fun _ => rfl) (by omega) (fun _ _ => trivial), New.own OW.out (by omega)⟩, fun _ => ⟨by omega, PR.out⟩, BW'⟩
theorem f157_c (n : Net) (s : St) (lv : Sl Int) (w : World) (hs : InNet w n) (ht : InSt w s) (hv : InI w lv) : Calls Tryz.prog 157 #[n.val, s.val, lv.val] w (ROn n.links.xs w) := by
 obtain ⟨⟨A, c, xs⟩, ⟨A2, c2, ls⟩⟩ := n
 obtain ⟨⟨V, cv, vs⟩, ⟨Pn, cp, ps⟩, ⟨Sn, cs, ss⟩, ⟨On, co, os⟩⟩ := s
 obtain ⟨LA, lc, lv⟩ := lv
 refine f157_core A A2 V Pn Sn On LA c c2 cv cp cs co lc lv xs ls vs ps ss os w (stateB ⟨⟨A, c, xs⟩, ⟨A2, c2, ls⟩⟩ ⟨⟨V, cv, vs⟩, ⟨Pn, cp, ps⟩, ⟨Sn, cs, ss⟩, ⟨On, co, os⟩⟩) hs ht hv
  (fun W hb => f50_c _ _ W (InNet.up hs hb) (InSt.up ht hb)) (fun W hb => f193_c ⟨⟨A, c, xs⟩, ⟨A2, c2, ls⟩⟩ ⟨LA, lc, lv⟩ W (InNet.up hs hb) (InI.up hv hb))
  (fun W k h hSB hb => ?_) (fun hSB => ?_)
 ·have hok := (stateB_iff _ _).mp hSB
  have he := lk_ends hok.1 k h
  refine (f194_c ⟨⟨A, c, xs⟩, ⟨A2, c2, ls⟩⟩ ls[k] W (InNet.up hs hb)).mono ?_
  rintro e w' ⟨rfl, hw'⟩
  rcases ix_range (fun y : Nd => y.name == ls[k].src) xs with h | ⟨i, hi, hI⟩
  ·exact absurd he.1 (by unfold ndIx; simp only at h ⊢; omega)
  rcases ix_range (fun y : Nd => y.name == ls[k].dst) xs with h | ⟨j, hj, hJ⟩
  ·exact absurd he.2 (by unfold ndIx; simp only at h ⊢; omega)
  exact ⟨i, j, hi, by unfold ndIx; simp only; rw [hI, hJ], hw'⟩
 ·have hok := (stateB_iff _ _).mp hSB
  exact ⟨((netB_iff _).mp hok.1).2.1, hok.2.2.2.2.1⟩
end Go.Proofs.YtnnhnkpoekbahaaGreat
