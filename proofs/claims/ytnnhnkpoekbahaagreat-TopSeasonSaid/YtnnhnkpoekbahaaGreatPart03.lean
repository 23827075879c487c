/- TopSeason: part 4 of 16: App Tail Net7 Sto Sto2 Sto3 Sto4 Sto5 Lnk -/
import Derived.Test.YtnnhnkpoekbahaaGreatPart02
import Derived.Test.YtnnhnkpoekbahaaGreatPart00
import Derived.Test.YtnnhnkpoekbahaaGreatPart01
import Derived.WalkKit
import Derived.StillTail
import Derived.Deep.RegionHeld3
namespace Go.Proofs.YtnnhnkpoekbahaaGreat
open Go.RowKit
set_option maxHeartbeats 400000
set_option linter.unusedSimpArgs false
set_option linter.unusedVariables false
set_option maxRecDepth 100000
theorem flat_get {α : Type} {enc : α -> List Value} {k : Nat} (hk : ∀ x, (enc x).length = k) : ∀ (l : List α) (i : Nat) (h : i < l.length) (j : Nat) (v : Value), (enc l[i])[j]? = some v -> (l.flatMap enc)[i * k + j]? = some v
 | x :: l, 0, _, j, v, e => by
  have hj : j < (enc x).length := by
   rcases Nat.lt_or_ge j (enc x).length with h | h
   ·exact h
   ·simp only [List.getElem_cons_zero] at e
    rw [List.getElem?_eq_none h] at e; cases e
  simp only [List.flatMap_cons, Nat.zero_mul, Nat.zero_add]
  rw [List.getElem?_append_left hj]
  exact e
 | x :: l, i + 1, h, j, v, e => by
  simp only [List.flatMap_cons]
  have hl : (enc x).length ≤ (i + 1) * k + j := by rw [hk x, Nat.add_mul]; omega
  rw [List.getElem?_append_right hl, hk x]
  have : (i + 1) * k + j - k = i * k + j := by rw [Nat.add_mul]; omega
  rw [this]
  exact flat_get hk l i (by simpa using h) j v (by simpa using e)
def Own {α : Type} (enc : α -> List Value) (k : Nat) (e : TypeId) (base : Nat) (w : World) (s : Sl α) : Prop := w.ownsRow base e k s.val s.xs.length (s.xs.flatMap enc)
theorem Own.ok {α : Type} {enc : α -> List Value} {k : Nat} {e : TypeId} {base : Nat} {w : World} {s : Sl α} {good : Nat -> World -> α -> Prop} (h : Own enc k e base w s) (hk : ∀ x, (enc x).length = k) (hr : s.xs.length ≤ 140737488351232) (hg : ∀ x ∈ s.xs, good w.heap.size w x) : s.Ok enc k good w.heap.size w := by
 rcases h.2 with ⟨hv, hn⟩ | ⟨g, cap, cur, hv, hb, hgw, hc1, hc2, hc3, hc4⟩
 ·have hv' : s.cap = 0 := by have := hv; simp only [Sl.val, Value.slice.injEq] at this; exact this.2.2
  have hx : s.xs = [] := List.eq_nil_of_length_eq_zero hn
  exact ⟨by rw [hx, hv']; exact Nat.le_refl _, hr, fun e => absurd hx e, hg⟩
 ·have hv' : s.A = some ⟨g, 0, none⟩ /\ s.cap = cap := by have := hv; simp only [Sl.val, Value.slice.injEq] at this; exact ⟨this.1, this.2.2⟩
  have hlt : g < w.heap.size := by
   rcases Nat.lt_or_ge g w.heap.size with h | h
   ·exact h
   ·rw [Array.getElem?_eq_none h] at hgw; cases hgw
  refine ⟨by rw [hv'.2]; exact hc1, hr, fun _ => ⟨g, 0, hv'.1, hlt, hlt, fun i hi j v hj => ?_⟩, hg⟩
  have h1 := flat_get hk s.xs i hi j v hj
  rw [<- hc4, List.getElem?_take] at h1
  split at h1
  ·have h2 : cur[i * k + j]? = some v := by simpa using h1
   simp [World.cell?, hgw, h2]
  ·cases h1
theorem Own.nil {α : Type} {enc : α -> List Value} {k : Nat} {e : TypeId} {base : Nat} {w : World} : Own enc k e base w (⟨none, 0, []⟩ : Sl α) := ⟨by simp, .inl ⟨rfl, rfl⟩⟩
theorem Own.bl {α : Type} {enc : α -> List Value} {k : Nat} {e : TypeId} {base : Nat} {w w' : World} {s : Sl α} (h : Own enc k e base w s) (hb : Bl w w') : Own enc k e base w' s := by
 refine ⟨h.1, h.2.imp id fun ⟨g, cap, cur, hv, hb', hgw, rest⟩ => ⟨g, cap, cur, hv, hb', ?_, rest⟩⟩
 have hlt : g < w.heap.size := by
  rcases Nat.lt_or_ge g w.heap.size with h | h
  ·exact h
  ·rw [Array.getElem?_eq_none h] at hgw; cases hgw
 rw [hb.out.block g hlt]; exact hgw
theorem Own.push {α : Type} {enc : α -> List Value} {k : Nat} {e : TypeId} {base : Nat} {w : World} {s : Sl α} {x : α} {v : Value} (h : w.ownsRow base e k v (s.xs.length + 1) (s.xs.flatMap enc ++ enc x)) :
 ∃ s' : Sl α, v = s'.val /\ s'.xs = s.xs ++ [x] /\ Own enc k e base w s' := by
 have h' := h
 rcases h.2 with ⟨_, hn⟩ | ⟨g, cap, cur, hv, rest⟩
 ·omega
 ·refine ⟨⟨some ⟨g, 0, none⟩, cap, s.xs ++ [x]⟩, by simp [hv], rfl, ?_⟩
  unfold Own
  simp only [Sl.val, List.length_append, List.length_cons, List.length_nil, List.flatMap_append, List.flatMap_cons, List.flatMap_nil, List.append_nil]
  rw [hv] at h'
  exact h'
theorem Own.ge {α : Type} {enc : α -> List Value} {k : Nat} {e : TypeId} {base : Nat} {w : World} {s : Sl α} (h : Own enc k e base w s) : ∀ g, s.val.ownBlock = some g -> base ≤ g := fun g hg => (World.ownsRow.lt h g hg).1
theorem Own.kept {α : Type} {enc : α -> List Value} {k : Nat} {e : TypeId} {base : Nat} {w w' : World} {s : Sl α} (h : Own enc k e base w s) (hg : w.grownBy w' s.val.ownBlock) (b o : Nat) (hb : b < base) (hw : b < w.heap.size) : w'.cell? ⟨b, o, none⟩ = w.cell? ⟨b, o, none⟩ :=
 World.cell?_of_block (w := w) (hg.block b hw (fun e => by have := h.ge b e.symm; omega))
theorem info_of {P : Program} {e : TypeId} {z : Value} {size bytes : Nat} (h : (P.info? e).map (fun i => (i.zero, i.size, i.bytes)) = some (some z, size, bytes)) : ∃ i, P.info? e = some i /\ i.zero = some z /\ i.size = size /\ i.bytes = bytes := by
 cases hi : P.info? e with
 | none => rw [hi] at h; cases h
 | some i =>
  rw [hi] at h
  simp only [Option.map_some, Option.some.injEq, Prod.mk.injEq] at h
  exact ⟨i, rfl, h.1, h.2.1, h.2.2⟩
theorem i206 : ∃ i, Tryz.prog.info? 206 = some i /\ i.zero = some (.agg #[.int .i64 0, .int .i64 0]) /\ i.size = 2 /\ i.bytes = 16 := info_of (by kernel_rfl)
theorem i3 : ∃ i, Tryz.prog.info? 3 = some i /\ i.zero = some (.int .i64 0) /\ i.size = 1 /\ i.bytes = 8 := info_of (by kernel_rfl)
theorem u203 : Tryz.prog.underlying 203 = some (.slice 206) := by kernel_rfl
theorem u28 : Tryz.prog.underlying 28 = some (.slice 3) := by kernel_rfl
def New {α : Type} (w : World) (s : Sl α) : Prop := ∀ g, s.val.ownBlock = some g -> w.heap.size ≤ g
theorem New.nil {α : Type} {w : World} : New w (⟨none, 0, []⟩ : Sl α) := fun g h => by simp [Sl.val, Value.ownBlock] at h
theorem New.up {α : Type} {w w' : World} {s : Sl α} (h : New w' s) (hb : Bl w w') : New w s := fun g hg => Nat.le_trans hb.size (h g hg)
theorem New.own {α : Type} {enc : α -> List Value} {k : Nat} {e : TypeId} {base : Nat} {w w' : World} {s : Sl α} (h : Own enc k e base w' s) (hb : w.heap.size ≤ base) : New w s := fun g hg => Nat.le_trans hb (h.ge g hg)
section
variable {P : Program} {ops : Array Oper} {md : Region.Mode} {C : World -> Prop}
def headQ (P : Program) (md : Region.Mode) (ops : Array Oper) (C : World -> Prop) (n : Nat) (L : Array Bool -> Act -> Prop) : Nat -> Array Bool -> Act -> Prop
 | 0, listed, a => L listed a
 | f + 1, listed, a => Region.ready md ops listed ≠ [] /\ ∀ i ∈ Region.ready md ops listed, i < n /\ qOp P ops C i (headQ P md ops C n L f (listed.setIfInBounds i true)) a
def HeadTail (md : Region.Mode) (ops : Array Oper) (m n : Nat) : Prop := ∀ (listed : Array Bool), HeadInv md ops n listed -> ∀ i, m ≤ i -> i < n -> listed.getD i true = false -> ∀ t, n ≤ t -> t ∉ Region.ready md ops listed
def sinkM (md : Region.Mode) (ops : Array Oper) (m n : Nat) : Bool :=
 (List.range n).all fun i => decide (i < m) || (List.range (n + 1)).any fun j => decide (i < j) && Region.waitsFor md ops j i
theorem headTail_of {m n : Nat} (hs : sinkM md ops m n = true) (hc : Region.chainB md ops n = true) (hn : n < ops.size) : HeadTail md ops m n := by
 intro listed inv
 have key : ∀ (d i : Nat), n - i = d -> m ≤ i -> i < n -> listed.getD i true = false -> ∀ t, n ≤ t -> t ∉ Region.ready md ops listed := by
  intro d
  induction d using Nat.strongRecOn with
  | _ d ih =>
   intro i hd him hi hun t ht hr
   obtain ⟨_, ot, hot, hall⟩ := mem_ready.1 hr
   have htlt : t < ops.size := (Array.getElem?_eq_some_iff.1 hot).1
   by_cases htn : t = n
   ·subst htn
    have h1 := List.all_eq_true.1 hs i (List.mem_range.2 hi)
    simp only [Bool.or_eq_true, decide_eq_true_eq] at h1
    rcases h1 with h1 | h1
    ·omega
    obtain ⟨j, hj, hj2⟩ := List.any_eq_true.1 h1
    simp only [Bool.and_eq_true, decide_eq_true_eq] at hj2
    obtain ⟨oj, hoj, e, he, hb, hon⟩ := Region.waitsFor_spec hj2.2
    have hjle : j ≤ t := by have := List.mem_range.1 hj; omega
    by_cases hjt : j = t
    ·subst hjt
     have : oj = ot := Option.some.inj (hoj.symm.trans hot)
     subst this
     have h2 := hall e he hb
     rw [hon, getD_both hun] at h2
     cases h2
    ·cases hl : listed.getD j false with
     | true =>
      have h2 := inv.closed j oj hoj hl e he hb
      rw [hon, getD_both hun] at h2
      cases h2
     | false =>
      have hjs : j < listed.size := by rw [inv.size]; omega
      exact ih (t - j) (by omega) j rfl (by omega) (by omega) (getD_in hjs hl) t (Nat.le_refl _) hr
   ·have h1 := List.all_eq_true.1 hc t (List.mem_range.2 htlt)
    simp only [Bool.or_eq_true, decide_eq_true_eq] at h1
    rcases h1 with h1 | h1
    ·omega
    ·obtain ⟨o', ho', e, he, hb, hon⟩ := Region.waitsFor_spec h1
     have : o' = ot := Option.some.inj (ho'.symm.trans hot)
     subst this
     have h2 := hall e he hb
     rw [hon, getD_both (inv.tail (t - 1) (by omega) (by omega))] at h2
     cases h2
 exact fun i => key (n - i) i rfl
theorem any_of_headQ {n g : Nat} {L : Array Bool -> Act -> Prop} {Q' : Exit -> Act -> World -> Prop} (hL : ∀ listed a w, C w -> L listed a -> wpAny P md ops Q' g listed a w) :
 ∀ (f : Nat) (listed : Array Bool) (a : Act) (w : World), C w -> headQ P md ops C n L f listed a -> wpAny P md ops Q' (f + g) listed a w
 | 0, listed, a, w, hw, h => by rw [Nat.zero_add]; exact hL _ _ _ hw h
 | f + 1, listed, a, w, hw, h => by
  rw [show f + 1 + g = (f + g) + 1 by omega]
  exact ⟨fun h0 => absurd h0 h.1, fun i hi => wpOp_of_qOp hw (fun a' w' hw' h' => any_of_headQ hL f _ a' w' hw' h') (h.2 i hi).2⟩
theorem headQ_first {m n i : Nat} {oi : Oper} {v : Value} {L : Array Bool -> Act -> Prop} (hi : ops[i]? = some oi) (hsel : ∀ (j : Nat) (o : Oper) cs b, ops[j]? = some o -> o.op ≠ .select cs b)
 (HT : HeadTail md ops m n) (him : m ≤ i) (hin : i < n)
 (hdone : ∀ listed a, L listed a -> ∀ j ∈ Region.ready md ops listed, n ≤ j) :
 ∀ (f : Nat) (listed : Array Bool) (a : Act), HeadInv md ops n listed ->
  (∀ j oj, ops[j]? = some oj -> j ≠ i -> listed.getD j true = false -> (∀ e ∈ oj.after, Region.binds md e = true -> e.on ≠ i) -> oi.apart ops oj = true) ->
  i ∈ Region.ready md ops listed -> YieldsIn P ops C oi v a ->
  headQ P md ops C n L f (listed.setIfInBounds i true) (a.put oi.dst v) -> headQ P md ops C n L (f + 1) listed a := by
 intro f
 induction f with
 | zero =>
  intro listed a inv _ hr hy H
  have hun := (mem_ready.1 hr).1
  refine ⟨fun h => (by rw [h] at hr; cases hr), fun j hj => ?_⟩
  have hjn : j < n := by
   rcases Nat.lt_or_ge j n with h | h
   ·exact h
   ·exact absurd hj (HT listed inv i him hin hun j h)
  refine ⟨hjn, ?_⟩
  by_cases hji : j = i
  ·subst hji; exact hy.qOp hi H
  ·have := hdone _ _ H j (ready_mono hj hji)
   omega
 | succ f ih =>
  intro listed a inv hfree hr hy H
  have hun := (mem_ready.1 hr).1
  refine ⟨fun h => (by rw [h] at hr; cases hr), fun j hj => ?_⟩
  have hjn : j < n := by
   rcases Nat.lt_or_ge j n with h | h
   ·exact h
   ·exact absurd hj (HT listed inv i him hin hun j h)
  refine ⟨hjn, ?_⟩
  by_cases hji : j = i
  ·subst hji; exact hy.qOp hi H
  ·have h1 := (H.2 j (ready_mono hj hji)).2
   obtain ⟨hjun, oj, hoj, hall⟩ := mem_ready.1 hj
   have hnot : ∀ e ∈ oj.after, Region.binds md e = true -> e.on ≠ i := fun e he hb heq => by
    have h1 := hall e he hb
    rw [heq, getD_both hun] at h1
    cases h1
   have h2 := qOp_put hoj (hfree j oj hoj hji hjun hnot) (fun cs b => hsel i oi cs b hi) (fun cs b => hsel j oj cs b hoj) hy h1
   have hfree' : ∀ k ok, ops[k]? = some ok -> k ≠ i -> (listed.setIfInBounds j true).getD k true = false ->
    (∀ e ∈ ok.after, Region.binds md e = true -> e.on ≠ i) -> oi.apart ops ok = true := fun k ok hk hki hun hno => by
    refine hfree k ok hk hki ?_ hno
    by_cases hjk : j = k
    ·subst hjk; exact hjun
    ·rw [getD_set_ne true hjk] at hun; exact hun
   refine qOp_mono (fun a' h3 => ih (listed.setIfInBounds j true) a' (inv.set hj hjn) hfree' (ready_mono hr (Ne.symm hji)) h3.1 ?_) h2
   rw [Array.setIfInBounds_comm _ _ hji]
   exact h3.2
theorem headQ_lex {m n g : Nat} {Lq : Act -> Prop} (hsel : Region.noSelect ops = true) (HT : HeadTail md ops m n) :
 ∀ (l : List Oper) (k : Nat) (listed : Array Bool) (a : Act), m ≤ k -> (∀ j, j < l.length -> l[j]? = ops[k + j]?) -> k + l.length = n -> HeadInv md ops n listed ->
 Region.lexHead md ops g l.length k listed = true -> wpQuiet P ops C Lq l a ->
 headQ P md ops C n (fun listed' a' => Region.seqB md ops g n listed' = true /\ Lq a') l.length listed a
 | [], k, listed, a, _, _, hk, _, hB, h => by
  have : k = n := by simpa using hk
  subst this
  exact ⟨by simpa [Region.lexHead] using hB, h⟩
 | o :: l, k, listed, a, hmk, hl, hk, inv, hB, h => by
  have h0 : ops[k]? = some o := by simpa using (hl 0 (by simp)).symm
  simp only [List.length_cons, Region.lexHead, Bool.and_eq_true] at hB
  obtain ⟨⟨hr, hf⟩, hB'⟩ := hB
  have hkn : k < n := by simp only [List.length_cons] at hk; omega
  have hr' : k ∈ Region.ready md ops listed := by simpa using hr
  have hst : qOp P ops C k (wpQuiet P ops C Lq l) a := by unfold qOp; simp only [h0]; exact h
  obtain ⟨v, hy, hK⟩ := yieldsIn_of_qOp h0 hst
  exact headQ_first h0 (Region.noSelect_spec hsel) HT hmk hkn (fun listed' a' hL => seqB_ready hL.1) l.length listed a inv (Region.free_spec h0 hf) hr' hy
   (headQ_lex hsel HT l (k + 1) _ _ (by omega) (fun j hj => by have := hl (j + 1) (by simp; omega); simpa [Nat.add_assoc, Nat.add_comm 1 j] using this) (by simp only [List.length_cons] at hk; omega) (inv.set hr' hkn) hB' hK)
end
theorem headInv0 {md : Region.Mode} (ops : Array Oper) (n : Nat) : HeadInv md ops n (Array.replicate ops.size false) :=
 ⟨by simp, fun j oj _ hl => (by rw [getD_replicate_false] at hl; cases hl), fun t _ ht => getD_in (by simpa using ht) (getD_replicate_false _ _)⟩
def laterB (l : List Oper) (m n : Nat) (listed : Array Bool) : Bool := Region.noSelect l.toArray && decide (m ≤ n) && decide (n < l.length) && sinkM .any l.toArray m n && Region.chainB .any l.toArray n && Region.lexHead .any l.toArray (l.length - n) (n - m) m listed
theorem any_later_tail {P : Program} {Q : Exit -> Act -> World -> Prop} {a : Act} {w w0 : World} {l : List Oper} {listed : Array Bool} (m n : Nat) (inv : HeadInv .any l.toArray n listed) (hB : laterB l m n listed = true) (hw : Bl w w0)
 (h : wpQuiet P l.toArray (fun W => ∃ x : Later w, W = x.at') (fun a' => ∀ W, Bl w W -> wpList P l.toArray Q (l.drop n) a' W) ((l.drop m).take (n - m)) a) : wpAny P .any l.toArray Q (n - m + (l.length - n)) listed a w0 := by
 simp only [laterB, Bool.and_eq_true, decide_eq_true_eq] at hB
 obtain ⟨⟨⟨⟨⟨hsel, hmn⟩, hn⟩, hs⟩, hc⟩, hlex⟩ := hB
 have htl : ((l.drop m).take (n - m)).length = n - m := by simp; omega
 have hdl : (l.drop n).length = l.length - n := by simp
 have H := headQ_lex (md := .any) (g := l.length - n) hsel (headTail_of hs hc (by simpa using hn)) ((l.drop m).take (n - m)) m _ a (Nat.le_refl _) (fun j hj => by
  have hj' : j < n - m := by rw [htl] at hj; exact hj
  simp [hj']) (by rw [htl]; omega) inv (by rw [htl]; exact hlex) h
 have := any_of_headQ (Q' := Q) (g := l.length - n) (fun listed a' W hW hL => by
  obtain ⟨x, rfl⟩ := hW
  have := wpAny_of_seq (md := .any) (Q' := Q) (l.drop n) n listed a' x.at' (fun j => by simp [List.getElem?_drop]) (by rw [hdl]; exact hL.1) (hL.2 _ x.bl)
  rwa [hdl] at this) _ _ _ w0 ⟨⟨w0, hw⟩, rfl⟩ H
 rw [htl] at this
 exact this
theorem wp_region_later_tail {P : Program} {id : Nat} {Q : Exit -> Act -> World -> Prop} {a : Act} {w : World} {l : List Oper} (n : Nat) (hm : P.follows .mixedOrders = true) (hB : laterB l 0 n (Array.replicate l.length false) = true)
 (h : wpQuiet P l.toArray (fun W => ∃ x : Later w, W = x.at') (fun a' => ∀ W, Bl w W -> wpList P l.toArray Q (l.drop n) a' W) (l.take n) a) : (Code.region id l.toArray true).wp P Q a w := by
 refine wp_region_any hm ?_
 have hn : n < l.length := by
  simp only [laterB, Bool.and_eq_true, decide_eq_true_eq] at hB
  exact hB.1.1.1.2
 have := any_later_tail (Q := Q) (w0 := w.drew) 0 n (headInv0 l.toArray n) (by simpa using hB) (Bl.refl w).drew (by simpa using h)
 rw [show n - 0 + (l.length - n) = l.toArray.size by simp; omega] at this
 exact this
theorem wp_region_later_tail1 {P : Program} {id : Nat} {Q : Exit -> Act -> World -> Prop} {a : Act} {w : World} {o : Oper} {r : List Oper} {v : Value} (n : Nat) (hm : P.follows .mixedOrders = true)
 (hB : (laterB (o :: r) 1 n (((Array.replicate (o :: r).length false)).setIfInBounds 0 true) && Region.free .any (o :: r).toArray (Array.replicate (o :: r).length false) 0 && (Region.ready .any (o :: r).toArray (Array.replicate (o :: r).length false)).contains 0) = true)
 (hQ : ∀ c a w, Q (.panic c) (a.put o.dst v) w -> Q (.panic c) a w) (hy : Yields P (o :: r).toArray o v a)
 (h : wpQuiet P (o :: r).toArray (fun W => ∃ x : Later w, W = x.at') (fun a' => ∀ W, Bl w W -> wpList P (o :: r).toArray Q ((o :: r).drop n) a' W) (r.take (n - 1)) (a.put o.dst v)) : (Code.region id (o :: r).toArray true).wp P Q a w := by
 refine wp_region_any hm ?_
 simp only [Bool.and_eq_true] at hB
 obtain ⟨⟨hB, hf⟩, hr⟩ := hB
 have hn : n < (o :: r).length /\ 1 ≤ n /\ Region.noSelect (o :: r).toArray = true := by
  simp only [laterB, Bool.and_eq_true, decide_eq_true_eq] at hB
  exact ⟨hB.1.1.1.2, hB.1.1.1.1.2, hB.1.1.1.1.1⟩
 have hz : (o :: r).toArray.size = (o :: r).length := by simp
 have inv0 := headInv0 (md := .any) (o :: r).toArray n
 rw [hz] at inv0
 have inv1 := HeadInv.set inv0 (i := 0) (by simpa using hr) (by omega)
 have := any_later_tail (Q := Q) (w0 := w.drew) (a := a.put o.dst v) 1 n inv1 hB (Bl.refl w).drew (by simpa using h)
 have hf1 : (n - 1 + ((o :: r).length - n)) + 1 = (o :: r).length := by omega
 have h2 := wpAny_take (md := .any) (i := 0) (oi := o) (v := v) (w := w.drew) rfl hn.2.2 hf hr hQ hy this
 rw [hf1] at h2
 rw [hz]
 exact h2
def ndErr (n : Net) (nm : ByteArray) : Value := if netB n = true then (if ndIx n nm < 0 then .tuple #[.int .i64 0, .int .i64 9] else .tuple #[.int .i64 (ndIx n nm), .int .i64 0]) else .tuple #[.int .i64 0, .int .i64 1]
theorem f56_c (n : Net) (nm : ByteArray) (w : World) (hs : InNet w n) : Calls Tryz.prog 56 #[n.val, .string nm] w fun e w' => e = .returned (ndErr n nm) /\ Bl w w' := by
 have T54 := HD (fun W (hb : Bl w W) => f54_c n W (InNet.up hs hb))
 have T84 := HD (fun W (hb : Bl w W) => f84_c n nm W (InNet.up hs hb))
 clear hs
 cases hb : netB n
 ·have KF := HD (show ndErr n nm = .tuple #[.int .i64 0, .int .i64 1] by simp [ndErr, hb])
  go_enter Tryz.func56, Tryz.ntmps56
  go_wp2_with fail
  refine (T54.out _ bz).mono ?_
  rintro e w1 ⟨rfl, hw1⟩
  rw [hb]
  go_wp2_with fail
  exact bodyPost_ret (v := .tuple #[.int .i64 0, .int .i64 1]) (by simp [results, Tryz.results56, go_sem, *]; try exact ⟨rfl, rfl⟩) rfl ⟨by rw [KF.out], bz⟩
 ·have KF := HD (show ndErr n nm = .tuple #[.int .i64 (if ndIx n nm < 0 then 0 else ndIx n nm), .int .i64 (if ndIx n nm < 0 then 9 else 0)] by
   simp only [ndErr, hb, if_true]; split <;> rfl)
  go_enter Tryz.func56, Tryz.ntmps56
  go_wp2_with fail
  refine (T54.out _ bz).mono ?_
  rintro e w1 ⟨rfl, hw1⟩
  rw [hb]
  obtain ⟨hchw1, hfhw1, hzhw1⟩ := Bl.rules hw1; (try simp only [aZ, cZ, dZ, nZ] at hzhw1)
  have z1 : w.heap.size < w1.heap.size := by omega
  go_wp2_with fail
  have hb1 : Bl w w1 := bz
  have p0 : ∀ z : Later w1, z.at'.cell? ⟨w.heap.size, 0, none⟩ = some n.nodes.val := fun z => z.keep (by simp [go_sem, *])
  have p1 : ∀ z : Later w1, z.at'.cell? ⟨w.heap.size, 1, none⟩ = some n.links.val := fun z => z.keep (by simp [go_sem, *])
  refine wp_region_later (by kernel_rfl) (by kernel_rfl) ?_
  repeat (go_big_quiet_step (first | ((go_at_call 84; with_reducible exact Calls.later (T84.out _ (Bl.trans hb1 (Later.bl _))))) | ((go_at_call 88; with_reducible exact Calls.later (f88_c n (ndIx n nm) _)))))
  refine wpQuiet_nil ?_
  intro w3 hB3
  have hb3 : Bl w w3 := Bl.trans hb1 hB3
  clear p0 p1
  go_wp2_with fail
  ·have hneg : ndIx n nm < 0 := by assumption
   exact bodyPost_ret (v := .tuple #[.int .i64 0, .int .i64 9]) (by simp [results, Tryz.results56, go_sem, *]; try exact ⟨rfl, rfl⟩) rfl ⟨by rw [KF.out, if_pos hneg, if_pos hneg], bz⟩
  ·have hneg : 0 ≤ ndIx n nm := by assumption
   exact bodyPost_ret (v := .tuple #[.int .i64 (ndIx n nm), .int .i64 0]) (by simp [results, Tryz.results56, go_sem, *]; try exact ⟨rfl, rfl⟩) rfl ⟨by rw [KF.out, if_neg (by omega), if_neg (by omega)], bz⟩
def encE (x : Int × Int) : List Value := [.int .i64 x.1, .int .i64 x.2]
def InE (w : World) (s : Sl (Int × Int)) : Prop := s.Ok encE 2 okT w.heap.size w
theorem InE.up {w w' : World} {s : Sl (Int × Int)} (h : InE w s) (hb : Bl w w') : InE w' s := Sl.Ok.up h hb fun _ _ h => h
set_option maxHeartbeats 2000000 in
theorem f200_c (n : Net) (w : World) (hs : InNet w n) (hlen : n.links.xs.length ≤ 400) : Calls Tryz.prog 200 #[n.val] w fun e w' => ∃ s : Sl (Int × Int), e = .returned s.val /\ (InE w' s /\ New w s) /\ s.xs = n.links.xs.map (fun x => (ndIx n x.src, ndIx n x.dst)) /\ Bl w w' := by
 have T84 := HD (fun W (hb : Bl w W) nm => f84_c n nm W (InNet.up hs hb))
 obtain ⟨i0, hi, hz0, hz1, hz2⟩ := i206
 have HI := HD (And.intro hi (And.intro hz0 (And.intro hz1 hz2)))
 clear hi hz0 hz1 hz2
 have hE := HD (rfl : ndIx n = ndIx n)
 generalize hNI : ndIx n = NI at T84
 obtain ⟨⟨A, c, xs⟩, ⟨A2, c2, ls⟩⟩ := n
 have hS := HD hs
 simp only at hlen
 clear hs hE
 have hlen' := HD hlen
 show Calls Tryz.prog 200 #[.agg #[.slice A xs.length c, .slice A2 ls.length c2]] w fun e w' => ∃ s : Sl (Int × Int), e = .returned s.val /\ (InE w' s /\ New w s) /\ s.xs = ls.map (fun x => (NI x.src, NI x.dst)) /\ Bl w w'
 clear hNI
 go_enter Tryz.func200, Tryz.ntmps200
 go_wp2_with fail
 go_loopg [3, 9] ls.length (fun gg s3 s9 wr => ∃ (kk : Nat) (s : Sl (Int × Int)), kk ≤ ls.length /\ ls.length - kk ≤ gg /\ s9 = .int .i64 kk /\ s3 = s.val /\ Aside (Bl w wr) /\ Aside (w.heap.size < wr.heap.size) /\ Aside (wr.cell? ⟨w.heap.size, 0, none⟩ = some (.slice A xs.length c)) /\ Aside (wr.cell? ⟨w.heap.size, 1, none⟩ = some (.slice A2 ls.length c2)) /\ Aside (Own encE 2 206 (w.heap.size + 1) wr s) /\ Aside (s.xs = (ls.take kk).map (fun x => (NI x.src, NI x.dst))))
 case atStart => exact ⟨0, ⟨none, 0, []⟩, Nat.zero_le _, by omega, rfl, rfl, bz, aside (by simp), aside (by simp [go_sem]), aside (by simp [go_sem]), Own.nil, aside (by simp)⟩
 case round =>
  obtain ⟨kk, s, hkk, hg, rfl, rfl, BW, Z, C0, C1, OW, XS⟩ := hrel
  have BW' := BW.out
  have Z' := Z.out
  have C0' := C0.out
  have C1' := C1.out
  by_cases hlt : kk < ls.length
  ·have hltz : (kk : Int) < (ls.length : Int) := by omega
   obtain ⟨b, off, hA, hB, hw, hc0⟩ := hS.out.links.place (by intro e; simp only at e; rw [e] at hlt; simp at hlt)
   simp only at hA hc0
   subst hA
   have hc := Sl.Ok.cells hS.out.links rfl wr BW' kk hlt
   have hmem := HD (List.getElem_mem hlt)
   have hxs : Hid (∀ l : List (Int × Int), l = s.xs ++ [(NI ls[kk].src, NI ls[kk].dst)] -> l = (ls.take (kk + 1)).map (fun x => (NI x.src, NI x.dst))) := HD (fun l e => by
    rw [e, XS.out, List.take_succ_eq_append_getElem hlt, List.map_append]; rfl)
   have hsl : s.xs.length = kk := by rw [XS.out]; simp; omega
   simp only at hc hmem
   generalize ls[kk] = y at hc hmem hxs
   have e0 : wr.cell? ⟨b, off + kk * 11, none⟩ = some (.string y.name) := hc 0 _ rfl
   have e1 : wr.cell? ⟨b, off + kk * 11 + 1, none⟩ = some (.string y.src) := hc 1 _ rfl
   have e2 : wr.cell? ⟨b, off + kk * 11 + 2, none⟩ = some (.string y.dst) := hc 2 _ rfl
   have e3 : wr.cell? ⟨b, off + kk * 11 + 3, none⟩ = some (.int .i64 y.kind) := hc 3 _ rfl
   have e4 : wr.cell? ⟨b, off + kk * 11 + 4, none⟩ = some (.int .i64 y.len) := hc 4 _ rfl
   have e5 : wr.cell? ⟨b, off + kk * 11 + 5, none⟩ = some (.int .i64 y.up) := hc 5 _ rfl
   have e6 : wr.cell? ⟨b, off + kk * 11 + 6, none⟩ = some (.int .i64 y.down) := hc 6 _ rfl
   have e7 : wr.cell? ⟨b, off + kk * 11 + 7, none⟩ = some (.string y.sec) := hc 7 _ rfl
   have e8 : wr.cell? ⟨b, off + kk * 11 + 8, none⟩ = some (.int .i64 y.wid) := hc 8 _ rfl
   have e9 : wr.cell? ⟨b, off + kk * 11 + 9, none⟩ = some (.int .i64 y.hgt) := hc 9 _ rfl
   have e10 : wr.cell? ⟨b, off + kk * 11 + 10, none⟩ = some y.curve.val := hc 10 _ rfl
   clear hc hc0 hw hB
   go_wp2_with fail
   obtain ⟨W0, hW0⟩ : ∃ X, X = (wr.alloc (Obj.cells #[.string y.name, .string y.src, .string y.dst, .int .i64 y.kind, .int .i64 y.len, .int .i64 y.up, .int .i64 y.down, .string y.sec, .int .i64 y.wid, .int .i64 y.hgt, y.curve.val] 45)) := ⟨_, rfl⟩
   have hB0 : Bl wr W0 := by rw [hW0]; exact bz
   have p0 : ∀ z : Later W0, z.at'.cell? ⟨w.heap.size, 0, none⟩ = some (.slice A xs.length c) := by rw [hW0]; exact fun z => z.keep (by simp [go_sem, *])
   have p1 : ∀ z : Later W0, z.at'.cell? ⟨w.heap.size, 1, none⟩ = some (.slice (some ⟨b, off, none⟩) ls.length c2) := by rw [hW0]; exact fun z => z.keep (by simp [go_sem, *])
   have p2 : ∀ z : Later W0, z.at'.cell? ⟨wr.heap.size, 1, none⟩ = some (.string y.src) := by rw [hW0]; exact fun z => z.keep (by simp [go_sem])
   have p3 : ∀ z : Later W0, z.at'.cell? ⟨wr.heap.size, 2, none⟩ = some (.string y.dst) := by rw [hW0]; exact fun z => z.keep (by simp [go_sem])
   rw [<- hW0]
   clear hW0
   have hBW0 : Bl w W0 := Bl.trans BW' hB0
   refine wp_region_later_tail1 10 (by kernel_rfl) (by kernel_rfl) (fun _ _ _ h => h) (.inl ⟨by rfl, by intro W; go_simp; with_reducible rfl⟩) ?_
   simp only [Act.put, lA, lB, lC, List.take_succ_cons, List.take_zero, List.drop_succ_cons, List.drop_zero]
   repeat (go_big_quiet_step ((go_at_call 84; first | (with_reducible exact Calls.later (T84.out _ (Bl.trans hBW0 (Later.bl _)) y.src)) | (with_reducible exact Calls.later (T84.out _ (Bl.trans hBW0 (Later.bl _)) y.dst)))))
   refine wpQuiet_nil ?_
   intro w3 hB3
   have hBw3 : Bl wr w3 := Bl.trans hB0 hB3
   have hOw := HD (Own.bl OW.out hBw3)
   have hBb : Bl w w3 := Bl.trans BW' hBw3
   have d0 : w3.cell? ⟨w.heap.size, 0, none⟩ = some (.slice A xs.length c) := p0 ⟨w3, hB3⟩
   have d1 : w3.cell? ⟨w.heap.size, 1, none⟩ = some (.slice (some ⟨b, off, none⟩) ls.length c2) := p1 ⟨w3, hB3⟩
   have hz3 : w.heap.size < w3.heap.size := by have := hBw3.size; omega
   clear p0 p1 p2 p3 e0 e1 e2 e3 e4 e5 e6 e7 e8 e9 e10
   go_wp2_with (at_builtin; refine wpList_append_own _ rfl _ _ 203 rfl (w.heap.size + 1) 206 i0 (.agg #[.int .i64 0, .int .i64 0]) 2 16 u203 HI.out.1 HI.out.2.1 HI.out.2.2.1 HI.out.2.2.2 rfl (by decide) _ _ _ rfl (World.ownsRow.alloc hOw.out _) ⟨w3.heap.size, 0, none⟩ 1 1 [.int .i64 (NI y.src), .int .i64 (NI y.dst)] rfl rfl ?c1 ?c2 ?c3 ?c4 ?c5 ?_)
   case c1 =>
    intro j u hj
    match j, hj with
    | 0, hj => simp at hj; subst hj; simp [Addr.add, go_sem]
    | 1, hj => simp at hj; subst hj; simp [Addr.add, go_sem]
   case c2 => intro u hu; simp at hu; rcases hu with rfl | rfl <;> rfl
   case c3 => have := hlen'.out; unfold maxLen; omega
   case c4 => have := hlen'.out; omega
   case c5 => simp; omega
   intro v' w4 hown' hgrow _
   obtain ⟨s', rfl, hs', hO'⟩ := Own.push (enc := encE) (k := 2) (e := 206) (base := w.heap.size + 1) (w := w4) (s := s) (x := (NI y.src, NI y.dst)) (v := v') (by rw [hsl]; exact hown')
   have hOa := HD (World.ownsRow.alloc hOw.out (Obj.cells #[.int .i64 (NI y.src), .int .i64 (NI y.dst)] 206))
   have hB4 : Bl w w4 := Bl.grown (Bl.alloc hBb _) hgrow (fun g hg => by have := (World.ownsRow.lt hOw.out g hg).1; omega)
   have hz4 : w.heap.size < w4.heap.size := by have := hgrow.size; simp at this; omega
   have f0 : w4.cell? ⟨w.heap.size, 0, none⟩ = some (.slice A xs.length c) := (Own.kept (s := s) hOa.out hgrow _ _ (by omega) (by simp; omega)).trans (by simp [go_sem, *])
   have f1 : w4.cell? ⟨w.heap.size, 1, none⟩ = some (.slice (some ⟨b, off, none⟩) ls.length c2) := (Own.kept (s := s) hOa.out hgrow _ _ (by omega) (by simp; omega)).trans (by simp [go_sem, *])
   have hX := HD (hxs.out _ hs')
   have hOO := HD hO'
   clear hown' hgrow hO' hs' d0 d1
   go_wp2_with fail
   go_roundg (ls.length - (kk + 1))
   case measure => omega
   case rel => exact ⟨kk + 1, s', by omega, by omega, by go_num, rfl, hB4, aside hz4, aside f0, aside f1, hOO.out, hX.out⟩
  ·have hltz : ¬ (kk : Int) < (ls.length : Int) := by omega
   have hk : kk = ls.length := by omega
   subst hk
   go_wp2_with fail
   go_ret
   exact ⟨s, rfl, ⟨Own.ok OW.out (fun _ => rfl) (by rw [XS.out]; have := hlen'.out; simp; omega) (fun _ _ => trivial), New.own OW.out (by omega)⟩, by rw [XS.out]; simp, BW'⟩
theorem f161_c (n : Net) (w : World) (hs : InNet w n) : Calls Tryz.prog 161 #[n.val] w fun e w' => ∃ s : Sl (Int × Int), e = .returned (.tuple #[s.val, .int .i64 (if netB n = true then 0 else 1)]) /\ (InE w' s /\ New w s) /\ (netB n = true -> s.xs = n.links.xs.map (fun x => (ndIx n x.src, ndIx n x.dst))) /\ Bl w w' := by
 have T54 := HD (fun W (hb : Bl w W) => f54_c n W (InNet.up hs hb))
 have T200 := HD (fun W (hb : Bl w W) h => f200_c n W (InNet.up hs hb) h)
 have hl := HD (fun h => ((netB_iff n).mp h).2.1)
 clear hs
 cases hb : netB n
 ·go_enter Tryz.func161, Tryz.ntmps161
  go_wp2_with fail
  refine (T54.out _ bz).mono ?_
  rintro e w1 ⟨rfl, hw1⟩
  rw [hb]
  go_wp2_with fail
  exact bodyPost_ret (v := .tuple #[.slice none 0 0, .int .i64 1]) (by simp [results, Tryz.results161, go_sem, *]; try exact ⟨rfl, rfl⟩) rfl ⟨⟨none, 0, []⟩, by simp, ⟨⟨by simp, by simp, fun h => absurd rfl h, fun x hx => by simp at hx⟩, New.nil⟩, bz⟩
 ·have hl' := HD (hl.out hb)
  clear hl
  go_enter Tryz.func161, Tryz.ntmps161
  go_wp2_with fail
  refine (T54.out _ bz).mono ?_
  rintro e w1 ⟨rfl, hw1⟩
  rw [hb]
  obtain ⟨hchw1, hfhw1, hzhw1⟩ := Bl.rules hw1; (try simp only [aZ, cZ, dZ, nZ] at hzhw1)
  have z1 : w.heap.size < w1.heap.size := by omega
  go_wp2_with fail
  refine (T200.out _ bz hl'.out).mono ?_
  rintro e w2 ⟨s, rfl, hin, hxs, hw2⟩
  go_wp2_with fail
  exact bodyPost_ret (v := .tuple #[s.val, .int .i64 0]) (by simp [results, Tryz.results161, go_sem, *]; try exact ⟨rfl, rfl⟩) rfl ⟨s, by simp, ⟨hin.1, New.up hin.2 bz⟩, hxs, bz⟩
def lastK (xs : List Knot) : Knot := xs[xs.length - 1]!
theorem f103_c (s : Sl Knot) (w : World) (hs : InK w s) (hl : 0 < s.xs.length) : Calls Tryz.prog 103 #[s.val] w fun e w' => e = .returned (.agg #[.int .i64 (lastK s.xs).x, .int .i64 (lastK s.xs).y]) /\ Bl w w' := by
 have hr := hs.room
 have hne : s.xs ≠ [] := List.length_pos_iff.mp hl
 obtain ⟨b, off, hA, hB, hw, hc⟩ := hs.place hne
 obtain ⟨A, c, xs⟩ := s
 simp only at hA hr hl
 subst hA
 have hlt : xs.length - 1 < xs.length := by omega
 have hg : lastK xs = xs[xs.length - 1] := by simp [lastK, hlt]
 have hx : w.cell? ⟨b, off + (xs.length - 1) * 2, none⟩ = some (.int .i64 xs[xs.length - 1].x) := hc (xs.length - 1) hlt 0 _ rfl
 have hy : w.cell? ⟨b, off + (xs.length - 1) * 2 + 1, none⟩ = some (.int .i64 xs[xs.length - 1].y) := hc (xs.length - 1) hlt 1 _ rfl
 rw [<- hg] at hx hy
 have G := HD (rfl : lastK xs = lastK xs)
 generalize hk : lastK xs = kn at hx hy
 have HK := HD hk
 clear hc hg G hk hs hne hlt
 generalize hn : xs.length = n at *
 have w1 : IntKind.i64.wrap ((n : Int) - 1) = (n : Int) - 1 := IntWalk.i64_in _ (by omega)
 have w2 : ((n : Int) - 1).toNat = n - 1 := by omega
 have m1 : (0 : Int) ≤ (n : Int) - 1 := by omega
 have m2 : (n : Int) - 1 < (n : Int) := by omega
 show Calls Tryz.prog 103 #[.slice (some ⟨b, off, none⟩) xs.length c] w fun e w' => e = .returned (.agg #[.int .i64 kn.x, .int .i64 kn.y]) /\ Bl w w'
 rw [hn]
 clear HK hn
 go_enter Tryz.func103, Tryz.ntmps103
 go_wp2_with fail
 exact bodyPost_ret (v := .agg #[.int .i64 kn.x, .int .i64 kn.y]) (by simp [results, Tryz.results103, go_sem, *]; try exact ⟨rfl, rfl⟩) rfl ⟨rfl, bz⟩
def capN (x : Nd) : Int := if x.kind = 3 then 0 else (lastK x.shape.xs).y
theorem field64_1 (a b : Value) (w : World) : Sem.run Tryz.prog (Instr.field 64 (.agg #[a, b]) 1) w = .ok b w := by kernel_rfl
theorem f76_c (x : Nd) (w : World) (hs : InNd w x) (hl : x.kind ≠ 3 -> 0 < x.shape.xs.length) : Calls Tryz.prog 76 #[x.val] w fun e w' => e = .returned (.int .i64 (capN x)) /\ Bl w w' := by
 by_cases h : x.kind = 3
 ·have KF := HD (show capN x = 0 by simp [capN, h])
  have q1 : (x.kind == 3) = true := by simpa using h
  clear hs hl
  go_enter Tryz.func76, Tryz.ntmps76
  go_wp2_with fail
  go_ret
  exact ⟨ret_int KF.out.symm, bz⟩
 ·have KF := HD (show capN x = (lastK x.shape.xs).y by simp [capN, h])
  have hfl := field64_1
  have q1 : (x.kind == 3) = false := by simpa using h
  have T := HD (fun W (hb : Bl w W) => f103_c x.shape W (InK.up hs hb) (hl h))
  clear hs hl h
  go_enter Tryz.func76, Tryz.ntmps76
  go_wp2_with fail
  refine (T.out _ bz).mono ?_
  rintro e w1 ⟨rfl, hw1⟩
  go_wp2_with fail
  go_ret
  exact ⟨ret_int KF.out.symm, bz⟩
theorem nodeB_shape {x : Nd} (h : nodeB x = true) (hk : x.kind ≠ 3) : 0 < x.shape.xs.length := by
 simp only [nodeB, Bool.and_eq_true] at h
 have h2 := h.2
 split at h2
 ·simp only [Bool.and_eq_true, curveB, tabB, decide_eq_true_eq] at h2
  omega
 ·first | cases h2 | exact absurd (by assumption) hk
 all_goals first | cases h2 | exact absurd (by assumption) hk
theorem netB_one (a c a2 c2) (x : Nd) : netB ⟨⟨a, c, [x]⟩, ⟨a2, c2, []⟩⟩ = nodeB x := by
 have h0 : ndIx ⟨⟨a, c, [x]⟩, ⟨a2, c2, []⟩⟩ x.name = 0 := by
  have := ix_hit (fun y : Nd => y.name == x.name) [x] 0 (by simp) (show (x.name == x.name) = true by rw [beq_toListBytes]; simp) (fun j hj => by omega)
  simpa [ndIx] using this
 cases h : nodeB x
 ·exact netB_no fun q => by have := (q.2.2.1 0 (by simp)).1; simp only [List.getElem_cons_zero] at this; rw [h] at this; cases this
 ·refine (netB_iff _).mpr ⟨by simp, by simp, fun i hi => ?_, fun i hi => absurd hi (by simp)⟩
  have : i = 0 := by simpa using hi
  subst this
  exact ⟨h, h0⟩
theorem f192_c (x : Nd) (w : World) (hs : InNd w x) : Calls Tryz.prog 192 #[x.val] w fun e w' => e = .returned (.bool (nodeB x)) /\ Bl w w' := by
 have T := HD (fun W (hb : Bl w W) n (hn : InNet W n) => f54_c n W hn)
 have hS := HD hs
 clear hs
 go_enter Tryz.func192, Tryz.ntmps192
 go_wp2_with fail
 have hin : InNet ((w.alloc (Obj.cells #[.string x.name, .int .i64 x.kind, .int .i64 x.px, .int .i64 x.py, .int .i64 x.inv, .int .i64 x.gnd, x.shape.val, .bool x.prot, .int .i64 x.res] 41)).alloc (Obj.cells #[.string x.name, .int .i64 x.kind, .int .i64 x.px, .int .i64 x.py, .int .i64 x.inv, .int .i64 x.gnd, x.shape.val, .bool x.prot, .int .i64 x.res] 41)) ⟨⟨some ⟨w.heap.size + 1, 0, none⟩, 1, [x]⟩, ⟨none, 0, []⟩⟩ :=
  ⟨⟨by simp, by simp, fun _ => ⟨w.heap.size + 1, 0, rfl, by simp, by simp, fun i hi j v hv => by
   have : i = 0 := by simpa using hi
   subst this
   simp only [List.getElem_cons_zero] at hv
   match j, hv with
   | 0, hv => simp [encN] at hv; subst hv; simp [go_sem]
   | 1, hv => simp [encN] at hv; subst hv; simp [go_sem]
   | 2, hv => simp [encN] at hv; subst hv; simp [go_sem]
   | 3, hv => simp [encN] at hv; subst hv; simp [go_sem]
   | 4, hv => simp [encN] at hv; subst hv; simp [go_sem]
   | 5, hv => simp [encN] at hv; subst hv; simp [go_sem]
   | 6, hv => simp [encN] at hv; subst hv; simp [go_sem]
   | 7, hv => simp [encN] at hv; subst hv; simp [go_sem]
   | 8, hv => simp [encN] at hv; subst hv; simp [go_sem]
   | j + 9, hv => simp [encN] at hv⟩, fun y hy => by
   have : y = x := by simpa using hy
   subst this
   exact InNd.up hS.out bz⟩, ⟨by simp, by simp, fun h => absurd rfl h, fun y hy => by simp at hy⟩⟩
 refine (T.out _ bz _ hin).mono ?_
 rintro e w1 ⟨rfl, hw1⟩
 rw [netB_one]
 go_wp2_with fail
 go_ret
 exact ⟨rfl, bz⟩
theorem f155_c (x : Nd) (w : World) (hs : InNd w x) : Calls Tryz.prog 155 #[x.val] w fun e w' => e = .returned (if nodeB x = true then .tuple #[.int .i64 (capN x), .int .i64 0] else .tuple #[.int .i64 0, .int .i64 1]) /\ Bl w w' := by
 have T1 := HD (fun W (hb : Bl w W) => f192_c x W (InNd.up hs hb))
 cases hb : nodeB x
 ·clear hs
  go_enter Tryz.func155, Tryz.ntmps155
  go_wp2_with fail
  refine (T1.out _ bz).mono ?_
  rintro e w1 ⟨rfl, hw1⟩
  rw [hb]
  go_wp2_with fail
  exact bodyPost_ret (v := .tuple #[.int .i64 0, .int .i64 1]) (by simp [results, Tryz.results155, go_sem, *]; try exact ⟨rfl, rfl⟩) rfl ⟨rfl, bz⟩
 ·have T2 := HD (fun W (hb' : Bl w W) => f76_c x W (InNd.up hs hb') (nodeB_shape hb))
  clear hs
  go_enter Tryz.func155, Tryz.ntmps155
  go_wp2_with fail
  refine (T1.out _ bz).mono ?_
  rintro e w1 ⟨rfl, hw1⟩
  rw [hb]
  obtain ⟨hchw1, hfhw1, hzhw1⟩ := Bl.rules hw1; (try simp only [aZ, cZ, dZ, nZ] at hzhw1)
  have z1 : w.heap.size < w1.heap.size := by omega
  go_wp2_with fail
  refine (T2.out _ bz).mono ?_
  rintro e w2 ⟨rfl, hw2⟩
  go_wp2_with fail
  exact bodyPost_ret (v := .tuple #[.int .i64 (capN x), .int .i64 0]) (by simp [results, Tryz.results155, go_sem, *]; try exact ⟨rfl, rfl⟩) rfl ⟨rfl, bz⟩
theorem f106_c (x : Nd) (v : Int) (w : World) (hs : InNd w x) : Calls Tryz.prog 106 #[x.val, .int .i64 v] w (RIE w) := by
 by_cases h : x.kind = 3
 ·have q1 : (x.kind == 3) = true := by simpa using h
  clear hs
  go_enter Tryz.func106, Tryz.ntmps106
  go_wp2_with fail
  go_ret2
  exact ⟨_, _, rfl, bz⟩
 ·have q1 : (x.kind == 3) = false := by simpa using h
  have T := HD (fun W (hb : Bl w W) => f149_c x.shape v W (InK.up hs hb))
  clear hs h
  go_enter Tryz.func106, Tryz.ntmps106
  go_wp2_with fail
  refine (T.out _ bz).mono ?_
  rintro e w1 ⟨q, z, rfl, hw1⟩
  obtain ⟨hchw1, hfhw1, hzhw1⟩ := Bl.rules hw1; (try simp only [aZ, cZ, dZ, nZ] at hzhw1)
  have z1 : w.heap.size < w1.heap.size := by omega
  go_wp2_with fail
  go_ret2
  exact ⟨_, _, rfl, bz⟩
theorem f105_c (x : Nd) (v : Int) (w : World) : Calls Tryz.prog 105 #[x.val, .int .i64 v] w fun e w' => e = .returned (.bool (inR 0 1125899906842624 v)) /\ Bl w w' := by
 go_enter Tryz.func105, Tryz.ntmps105
 go_wp2_with fail
 refine (f77_c _ _).mono ?_
 rintro e w1 ⟨rfl, rfl⟩
 go_wp2_with fail
 go_ret
 exact ⟨rfl, bz⟩
def RLev (n : Net) (w : World) (e : Ending) (w' : World) : Prop := ∃ (s : Sl Int) (q : Int), e = .returned (.tuple #[s.val, .int .i64 q]) /\ (InI w' s /\ New w s) /\ (q = 0 -> s.xs.length = n.nodes.xs.length) /\ Bl w w'
theorem InI_nil (w : World) : InI w ⟨none, 0, []⟩ := ⟨by simp, by simp, fun h => absurd rfl h, fun x hx => by simp at hx⟩
set_option maxHeartbeats 4000000 in
theorem f104_c (n : Net) (l : Sl Int) (w : World) (hs : InNet w n) (hl : InI w l) : Calls Tryz.prog 104 #[n.val, l.val, .func (.func 105) #[] #[], .func (.func 106) #[] #[]] w (RLev n w) := by
 have T54 := HD (fun W (hb : Bl w W) => f54_c n W (InNet.up hs hb))
 have heN := HD (fun W (hb : Bl w W) x (hx : x ∈ n.nodes.xs) v => f106_c x v W (InNd.up (hs.nodes.each x hx) hb))
 have hS := HD hs
 have hSl := HD hl
 have hlen := HD (fun h => ((netB_iff n).mp h).1)
 have hr1 := hs.nodes.room
 have hr2 := hl.room
 clear hs hl
 cases hb : netB n
 ·clear heN hS hSl hlen
  go_enter Tryz.func104, Tryz.ntmps104
  go_wp2_with fail
  refine (T54.out _ bz).mono ?_
  rintro e w1 ⟨rfl, hw1⟩
  rw [hb]
  go_wp2_with fail
  exact bodyPost_ret (v := .tuple #[.slice none 0 0, .int .i64 1]) (by simp [results, Tryz.results104, go_sem, *]; try exact ⟨rfl, rfl⟩) rfl ⟨⟨none, 0, []⟩, 1, rfl, ⟨InI_nil _, New.nil⟩, fun h => by omega, bz⟩
 have hlen' := HD (hlen.out hb)
 clear hlen
 by_cases hq : l.xs.length = n.nodes.xs.length
 case neg =>
  have hq1 : ((l.xs.length : Int) == (n.nodes.xs.length : Int)) = false := by simp; omega
  clear heN hS hSl
  go_enter Tryz.func104, Tryz.ntmps104
  go_wp2_with fail
  refine (T54.out _ bz).mono ?_
  rintro e w1 ⟨rfl, hw1⟩
  rw [hb]
  obtain ⟨hchw1, hfhw1, hzhw1⟩ := Bl.rules hw1; (try simp only [aZ, cZ, dZ, nZ] at hzhw1)
  have z1 : w.heap.size < w1.heap.size := by omega
  go_wp2_with fail
  exact bodyPost_ret (v := .tuple #[.slice none 0 0, .int .i64 3]) (by simp [results, Tryz.results104, go_sem, *]; try exact ⟨rfl, rfl⟩) rfl ⟨⟨none, 0, []⟩, 3, rfl, ⟨InI_nil _, New.nil⟩, fun h => by omega, bz⟩
 obtain ⟨⟨A, c, xs⟩, ⟨A2, c2, ls⟩⟩ := n
 obtain ⟨A3, c3, vs⟩ := l
 simp only at hq hr1 hr2
 have hlen2 := HD (show xs.length ≤ 300 from hlen'.out)
 clear hlen'
 show Calls Tryz.prog 104 #[.agg #[.slice A xs.length c, .slice A2 ls.length c2], .slice A3 vs.length c3, .func (.func 105) #[] #[], .func (.func 106) #[] #[]] w _
 rw [hq]
 obtain ⟨i0, hi, hz0, hz1, hz2⟩ := i3
 have HI := HD (And.intro hi (And.intro hz0 (And.intro hz1 hz2)))
 clear hi hz0 hz1 hz2
 have hR : RLev ⟨⟨A, c, xs⟩, ⟨A2, c2, ls⟩⟩ w = fun e w' => ∃ (s : Sl Int) (q : Int), e = .returned (.tuple #[s.val, .int .i64 q]) /\ (InI w' s /\ New w s) /\ (q = 0 -> s.xs.length = xs.length) /\ Bl w w' := rfl
 rw [hR]
 clear hR
 have hbb := HD hb
 have hqq := HD hq
 clear hq
 go_enter Tryz.func104, Tryz.ntmps104
 go_wp2_with fail
 refine (T54.out _ bz).mono ?_
 rintro e w1 ⟨rfl, hw1⟩
 rw [hb]
 clear hb
 obtain ⟨hchw1, hfhw1, hzhw1⟩ := Bl.rules hw1; (try simp only [aZ, cZ, dZ, nZ] at hzhw1)
 have z1 : w.heap.size < w1.heap.size := by omega
 have hB1 : Bl w w1 := bz
 go_wp2_with fail
 go_loopg [31] xs.length (fun gg s31 wr => ∃ (kk : Nat), kk ≤ xs.length /\ xs.length - kk ≤ gg /\ s31 = .int .i64 kk /\ Aside (Bl w wr) /\ Aside (w.heap.size < wr.heap.size) /\ Aside (wr.cell? ⟨w.heap.size, 0, none⟩ = some (.slice A xs.length c)) /\ Aside (wr.cell? ⟨w.heap.size, 1, none⟩ = some (.slice A2 ls.length c2)))
 case atStart => exact ⟨0, Nat.zero_le _, by omega, rfl, hB1, aside (by omega), aside (by simp [go_sem, *]), aside (by simp [go_sem, *])⟩
 case round =>
  obtain ⟨kk, hkk, hg, rfl, BW, Z, C0, C1⟩ := hrel
  have BW' := BW.out
  have Z' := Z.out
  have C0' := C0.out
  have C1' := C1.out
  clear hw1 hchw1 hfhw1 hzhw1 z1 hB1
  by_cases hlt : kk < xs.length
  ·have hltz : (kk : Int) < (xs.length : Int) := by omega
   have hkz : (0 : Int) ≤ (kk : Int) := by omega
   obtain ⟨b, off, hA, hB, hw, hc0⟩ := hS.out.nodes.place (by intro e; simp only at e; rw [e] at hlt; simp at hlt)
   simp only at hA hc0
   subst hA
   have hc := Sl.Ok.cells hS.out.nodes rfl wr BW' kk hlt
   have hlv : kk < vs.length := by have := hqq.out; omega
   obtain ⟨b3, off3, hA3, hB3, hw3, hc3⟩ := hSl.out.place (by intro e; simp only at e; rw [e] at hlv; simp at hlv)
   simp only at hA3 hc3
   subst hA3
   have hcv := HD (fun W (hb : Bl w W) => Sl.Ok.cells hSl.out rfl W hb kk hlv 0 _ rfl)
   simp only at hc hcv
   generalize xs[kk] = y at hc
   generalize vs[kk] = v at hcv
   have e0 : wr.cell? ⟨b, off + kk * 9, none⟩ = some (.string y.name) := hc 0 _ rfl
   have e1 : wr.cell? ⟨b, off + kk * 9 + 1, none⟩ = some (.int .i64 y.kind) := hc 1 _ rfl
   have e2 : wr.cell? ⟨b, off + kk * 9 + 2, none⟩ = some (.int .i64 y.px) := hc 2 _ rfl
   have e3 : wr.cell? ⟨b, off + kk * 9 + 3, none⟩ = some (.int .i64 y.py) := hc 3 _ rfl
   have e4 : wr.cell? ⟨b, off + kk * 9 + 4, none⟩ = some (.int .i64 y.inv) := hc 4 _ rfl
   have e5 : wr.cell? ⟨b, off + kk * 9 + 5, none⟩ = some (.int .i64 y.gnd) := hc 5 _ rfl
   have e6 : wr.cell? ⟨b, off + kk * 9 + 6, none⟩ = some (y.shape.val) := hc 6 _ rfl
   have e7 : wr.cell? ⟨b, off + kk * 9 + 7, none⟩ = some (.bool y.prot) := hc 7 _ rfl
   have e8 : wr.cell? ⟨b, off + kk * 9 + 8, none⟩ = some (.int .i64 y.res) := hc 8 _ rfl
   clear hc hc0 hw hB hc3 hw3 hB3
   go_wp2_with fail
   obtain ⟨W0, hW0⟩ : ∃ X, X = (wr.alloc (Obj.cells #[.string y.name, .int .i64 y.kind, .int .i64 y.px, .int .i64 y.py, .int .i64 y.inv, .int .i64 y.gnd, y.shape.val, .bool y.prot, .int .i64 y.res] 41)) := ⟨_, rfl⟩
   have hB0 : Bl wr W0 := by rw [hW0]; exact bz
   have p0 : ∀ z : Later W0, z.at'.cell? ⟨wr.heap.size, 0, none⟩ = some (.string y.name) := by rw [hW0]; exact fun z => z.keep (by simp [go_sem])
   have p1 : ∀ z : Later W0, z.at'.cell? ⟨wr.heap.size, 1, none⟩ = some (.int .i64 y.kind) := by rw [hW0]; exact fun z => z.keep (by simp [go_sem])
   have p2 : ∀ z : Later W0, z.at'.cell? ⟨wr.heap.size, 2, none⟩ = some (.int .i64 y.px) := by rw [hW0]; exact fun z => z.keep (by simp [go_sem])
   have p3 : ∀ z : Later W0, z.at'.cell? ⟨wr.heap.size, 3, none⟩ = some (.int .i64 y.py) := by rw [hW0]; exact fun z => z.keep (by simp [go_sem])
   have p4 : ∀ z : Later W0, z.at'.cell? ⟨wr.heap.size, 4, none⟩ = some (.int .i64 y.inv) := by rw [hW0]; exact fun z => z.keep (by simp [go_sem])
   have p5 : ∀ z : Later W0, z.at'.cell? ⟨wr.heap.size, 5, none⟩ = some (.int .i64 y.gnd) := by rw [hW0]; exact fun z => z.keep (by simp [go_sem])
   have p6 : ∀ z : Later W0, z.at'.cell? ⟨wr.heap.size, 6, none⟩ = some (y.shape.val) := by rw [hW0]; exact fun z => z.keep (by simp [go_sem])
   have p7 : ∀ z : Later W0, z.at'.cell? ⟨wr.heap.size, 7, none⟩ = some (.bool y.prot) := by rw [hW0]; exact fun z => z.keep (by simp [go_sem])
   have p8 : ∀ z : Later W0, z.at'.cell? ⟨wr.heap.size, 8, none⟩ = some (.int .i64 y.res) := by rw [hW0]; exact fun z => z.keep (by simp [go_sem])
   have d0 : W0.cell? ⟨w.heap.size, 0, none⟩ = some (.slice (some ⟨b, off, none⟩) xs.length c) := by rw [hW0]; simp [go_sem, *]
   have d1 : W0.cell? ⟨w.heap.size, 1, none⟩ = some (.slice A2 ls.length c2) := by rw [hW0]; simp [go_sem, *]
   have zz : w.heap.size < W0.heap.size := by rw [hW0]; simp; omega
   rw [<- hW0]
   clear hW0
   have hBW0 : Bl w W0 := Bl.trans BW' hB0
   have pv : ∀ z : Later W0, z.at'.cell? ⟨b3, off3 + kk, none⟩ = some (.int .i64 v) := fun z => by have := hcv.out z.at' (Bl.trans hBW0 z.bl); rwa [Nat.mul_one] at this
   clear e0 e1 e2 e3 e4 e5 e6 e7 e8 C0' C1'
   cases hv : inR 0 1125899906842624 v
   ·refine wp_region_later (by kernel_rfl) (by kernel_rfl) ?_
    repeat (go_big_quiet_step ((go_at_call 105; (with_reducible exact Calls.later (f105_c y v _)))))
    refine wpQuiet_nil ?_
    intro w3 hB3
    have hbw3 : Bl w w3 := Bl.trans hBW0 hB3
    clear p0 p1 p2 p3 p4 p5 p6 p7 p8 pv
    go_wp2_with fail
    exact bodyPost_ret (v := .tuple #[.slice none 0 0, .int .i64 2]) (by simp [results, Tryz.results104, go_sem, *]; try exact ⟨rfl, rfl⟩) rfl ⟨⟨none, 0, []⟩, 2, rfl, ⟨InI_nil _, New.nil⟩, fun h => by omega, bz⟩
   ·refine wp_region_later (by kernel_rfl) (by kernel_rfl) ?_
    repeat (go_big_quiet_step ((go_at_call 105; (with_reducible exact Calls.later (f105_c y v _)))))
    refine wpQuiet_nil ?_
    intro w3 hB3
    have hbw3 : Bl w w3 := Bl.trans hBW0 hB3
    have f0 := hB3.keep d0
    have f1 := hB3.keep d1
    have zz3 : w.heap.size < w3.heap.size := by have := hB3.size; omega
    clear p0 p1 p2 p3 p4 p5 p6 p7 p8 pv d0 d1
    go_wp2_with fail
    go_roundg (xs.length - (kk + 1))
    case measure => omega
    case rel => exact ⟨kk + 1, by omega, by omega, by go_num, hbw3, aside zz3, aside f0, aside f1⟩
  ·have hltz : ¬ (kk : Int) < (xs.length : Int) := by omega
   have hk : kk = xs.length := by omega
   clear hkk hg BW Z C0 C1 hlt hltz
   subst hk
   go_wp2_with fail
   go_loopg [12, 48] xs.length (fun gg s12 s48 wr => ∃ (kk : Nat) (s : Sl Int), kk ≤ xs.length /\ xs.length - kk ≤ gg /\ s48 = .int .i64 kk /\ s12 = s.val /\ Aside (Bl w wr) /\ Aside (w.heap.size < wr.heap.size) /\ Aside (wr.cell? ⟨w.heap.size, 0, none⟩ = some (.slice A xs.length c)) /\ Aside (wr.cell? ⟨w.heap.size, 1, none⟩ = some (.slice A2 ls.length c2)) /\ Aside (Own encI 1 3 (w.heap.size + 1) wr s) /\ Aside (s.xs.length = kk))
   case atStart => exact ⟨0, ⟨none, 0, []⟩, Nat.zero_le _, by omega, rfl, rfl, BW', aside Z', aside C0', aside C1', Own.nil, aside rfl⟩
   case round =>
    clear BW' Z' C0' C1'
    obtain ⟨kk, s, hkk, hg, rfl, rfl, BW, Z, C0, C1, OW, SL⟩ := hrel
    have BW' := BW.out
    have Z' := Z.out
    have C0' := C0.out
    have C1' := C1.out
    have SL' := SL.out
    by_cases hlt : kk < xs.length
    ·have hltz : (kk : Int) < (xs.length : Int) := by omega
     have hkz : (0 : Int) ≤ (kk : Int) := by omega
     obtain ⟨b, off, hA, hB, hw, hc0⟩ := hS.out.nodes.place (by intro e; simp only at e; rw [e] at hlt; simp at hlt)
     simp only at hA hc0
     subst hA
     have hc := Sl.Ok.cells hS.out.nodes rfl wr BW' kk hlt
     have hmem := HD (List.getElem_mem hlt)
     have hlv : kk < vs.length := by have := hqq.out; omega
     obtain ⟨b3, off3, hA3, hB3, hw3, hc3⟩ := hSl.out.place (by intro e; simp only at e; rw [e] at hlv; simp at hlv)
     simp only at hA3 hc3
     subst hA3
     have hcv := HD (fun W (hb : Bl w W) => Sl.Ok.cells hSl.out rfl W hb kk hlv 0 _ rfl)
     simp only at hc hcv hmem
     generalize xs[kk] = y at hc hmem
     generalize vs[kk] = v at hcv
     have e0 : wr.cell? ⟨b, off + kk * 9, none⟩ = some (.string y.name) := hc 0 _ rfl
     have e1 : wr.cell? ⟨b, off + kk * 9 + 1, none⟩ = some (.int .i64 y.kind) := hc 1 _ rfl
     have e2 : wr.cell? ⟨b, off + kk * 9 + 2, none⟩ = some (.int .i64 y.px) := hc 2 _ rfl
     have e3 : wr.cell? ⟨b, off + kk * 9 + 3, none⟩ = some (.int .i64 y.py) := hc 3 _ rfl
     have e4 : wr.cell? ⟨b, off + kk * 9 + 4, none⟩ = some (.int .i64 y.inv) := hc 4 _ rfl
     have e5 : wr.cell? ⟨b, off + kk * 9 + 5, none⟩ = some (.int .i64 y.gnd) := hc 5 _ rfl
     have e6 : wr.cell? ⟨b, off + kk * 9 + 6, none⟩ = some (y.shape.val) := hc 6 _ rfl
     have e7 : wr.cell? ⟨b, off + kk * 9 + 7, none⟩ = some (.bool y.prot) := hc 7 _ rfl
     have e8 : wr.cell? ⟨b, off + kk * 9 + 8, none⟩ = some (.int .i64 y.res) := hc 8 _ rfl
     clear hc hc0 hw hB hc3 hw3 hB3
     go_wp2_with fail
     obtain ⟨W0, hW0⟩ : ∃ X, X = (wr.alloc (Obj.cells #[.string y.name, .int .i64 y.kind, .int .i64 y.px, .int .i64 y.py, .int .i64 y.inv, .int .i64 y.gnd, y.shape.val, .bool y.prot, .int .i64 y.res] 41)) := ⟨_, rfl⟩
     have hB0 : Bl wr W0 := by rw [hW0]; exact bz
     have q0 : W0.cell? ⟨wr.heap.size, 0, none⟩ = some (.string y.name) := by rw [hW0]; simp [go_sem]
     have q1 : W0.cell? ⟨wr.heap.size, 1, none⟩ = some (.int .i64 y.kind) := by rw [hW0]; simp [go_sem]
     have q2 : W0.cell? ⟨wr.heap.size, 2, none⟩ = some (.int .i64 y.px) := by rw [hW0]; simp [go_sem]
     have q3 : W0.cell? ⟨wr.heap.size, 3, none⟩ = some (.int .i64 y.py) := by rw [hW0]; simp [go_sem]
     have q4 : W0.cell? ⟨wr.heap.size, 4, none⟩ = some (.int .i64 y.inv) := by rw [hW0]; simp [go_sem]
     have q5 : W0.cell? ⟨wr.heap.size, 5, none⟩ = some (.int .i64 y.gnd) := by rw [hW0]; simp [go_sem]
     have q6 : W0.cell? ⟨wr.heap.size, 6, none⟩ = some (y.shape.val) := by rw [hW0]; simp [go_sem]
     have q7 : W0.cell? ⟨wr.heap.size, 7, none⟩ = some (.bool y.prot) := by rw [hW0]; simp [go_sem]
     have q8 : W0.cell? ⟨wr.heap.size, 8, none⟩ = some (.int .i64 y.res) := by rw [hW0]; simp [go_sem]
     have d0 : W0.cell? ⟨w.heap.size, 0, none⟩ = some (.slice (some ⟨b, off, none⟩) xs.length c) := by rw [hW0]; simp [go_sem, *]
     have d1 : W0.cell? ⟨w.heap.size, 1, none⟩ = some (.slice A2 ls.length c2) := by rw [hW0]; simp [go_sem, *]
     have zz : w.heap.size < W0.heap.size := by rw [hW0]; simp; omega
     rw [<- hW0]
     clear hW0
     have hBW0 : Bl w W0 := Bl.trans BW' hB0
     have q9 : W0.cell? ⟨b3, off3 + kk, none⟩ = some (.int .i64 v) := by have := hcv.out W0 hBW0; rwa [Nat.mul_one] at this
     clear e0 e1 e2 e3 e4 e5 e6 e7 e8 C0' C1'
     go_region_held3 (fun w' => Bl W0 w' /\ w'.cell? ⟨wr.heap.size, 0, none⟩ = some (.string y.name) /\ w'.cell? ⟨wr.heap.size, 1, none⟩ = some (.int .i64 y.kind) /\ w'.cell? ⟨wr.heap.size, 2, none⟩ = some (.int .i64 y.px) /\ w'.cell? ⟨wr.heap.size, 3, none⟩ = some (.int .i64 y.py) /\ w'.cell? ⟨wr.heap.size, 4, none⟩ = some (.int .i64 y.inv) /\ w'.cell? ⟨wr.heap.size, 5, none⟩ = some (.int .i64 y.gnd) /\ w'.cell? ⟨wr.heap.size, 6, none⟩ = some (y.shape.val) /\ w'.cell? ⟨wr.heap.size, 7, none⟩ = some (.bool y.prot) /\ w'.cell? ⟨wr.heap.size, 8, none⟩ = some (.int .i64 y.res) /\ w'.cell? ⟨b3, off3 + kk, none⟩ = some (.int .i64 v)) (refine ⟨bz, Bl.keep (a := W0) bz q0, Bl.keep (a := W0) bz q1, Bl.keep (a := W0) bz q2, Bl.keep (a := W0) bz q3, Bl.keep (a := W0) bz q4, Bl.keep (a := W0) bz q5, Bl.keep (a := W0) bz q6, Bl.keep (a := W0) bz q7, Bl.keep (a := W0) bz q8, Bl.keep (a := W0) bz q9⟩) (first
      | (go_at_call 106; refine (heN.out _ (Bl.trans hBW0 bz) y hmem.out v).mono ?_; rintro e w' ⟨qq, zv, rfl, hwl⟩))
     have hSS : Bl W0 w' /\ w'.cell? ⟨wr.heap.size, 0, none⟩ = some (.string y.name) /\ w'.cell? ⟨wr.heap.size, 1, none⟩ = some (.int .i64 y.kind) /\ w'.cell? ⟨wr.heap.size, 2, none⟩ = some (.int .i64 y.px) /\ w'.cell? ⟨wr.heap.size, 3, none⟩ = some (.int .i64 y.py) /\ w'.cell? ⟨wr.heap.size, 4, none⟩ = some (.int .i64 y.inv) /\ w'.cell? ⟨wr.heap.size, 5, none⟩ = some (.int .i64 y.gnd) /\ w'.cell? ⟨wr.heap.size, 6, none⟩ = some (y.shape.val) /\ w'.cell? ⟨wr.heap.size, 7, none⟩ = some (.bool y.prot) /\ w'.cell? ⟨wr.heap.size, 8, none⟩ = some (.int .i64 y.res) /\ w'.cell? ⟨b3, off3 + kk, none⟩ = some (.int .i64 v) := by assumption
     have hBw' : Bl wr w' := Bl.trans hB0 hSS.1
     have hbw' : Bl w w' := Bl.trans BW' hBw'
     have f0 := hSS.1.keep d0
     have f1 := hSS.1.keep d1
     have hzw : w.heap.size < w'.heap.size := by have := hSS.1.size; omega
     have hOw := HD (Own.bl OW.out hBw')
     clear hSS q0 q1 q2 q3 q4 q5 q6 q7 q8 q9 d0 d1 hwl
     by_cases hz0 : zv = 0
     ·subst hz0
      go_wp2_with (at_builtin; refine wpList_append_own _ rfl _ _ 28 rfl (w.heap.size + 1) 3 i0 (.int .i64 0) 1 8 u28 HI.out.1 HI.out.2.1 HI.out.2.2.1 HI.out.2.2.2 rfl (by decide) _ _ _ rfl (World.ownsRow.alloc hOw.out _) ⟨w'.heap.size, 0, none⟩ 1 1 [.int .i64 qq] rfl rfl ?c1 ?c2 ?c3 ?c4 ?c5 ?_)
      case c1 =>
       intro j u hj
       match j, hj with
       | 0, hj => simp at hj; subst hj; simp [Addr.add, go_sem]
      case c2 => intro u hu; simp at hu; subst hu; rfl
      case c3 => have := hlen2.out; unfold maxLen; omega
      case c4 => have := hlen2.out; omega
      case c5 => simp; omega
      intro v' w4 hown' hgrow _
      obtain ⟨s', rfl, hs', hO'⟩ := Own.push (enc := encI) (k := 1) (e := 3) (base := w.heap.size + 1) (w := w4) (s := s) (x := qq) (v := v') (by rw [SL']; exact hown')
      have hOa := HD (World.ownsRow.alloc hOw.out (Obj.cells #[.int .i64 qq] 3))
      have hB4 : Bl w w4 := Bl.grown (Bl.alloc hbw' _) hgrow (fun g hg => by have := (World.ownsRow.lt hOw.out g hg).1; omega)
      have hz4 : w.heap.size < w4.heap.size := by have := hgrow.size; simp at this; omega
      have g0 : w4.cell? ⟨w.heap.size, 0, none⟩ = some (.slice (some ⟨b, off, none⟩) xs.length c) := (Own.kept (s := s) hOa.out hgrow _ _ (by omega) (by simp; omega)).trans (by simp [go_sem, *])
      have g1 : w4.cell? ⟨w.heap.size, 1, none⟩ = some (.slice A2 ls.length c2) := (Own.kept (s := s) hOa.out hgrow _ _ (by omega) (by simp; omega)).trans (by simp [go_sem, *])
      have hX := HD (show s'.xs.length = kk + 1 by rw [hs', List.length_append, SL']; rfl)
      have hOO := HD hO'
      clear hown' hgrow hO' hs' f0 f1
      go_wp2_with fail
      go_roundg (xs.length - (kk + 1))
      case measure => omega
      case rel => exact ⟨kk + 1, s', by omega, by omega, by go_num, rfl, hB4, aside hz4, aside g0, aside g1, hOO.out, hX.out⟩
     ·have hz1 : (zv == 0) = false := by simpa using hz0
      go_wp2_with fail
      exact bodyPost_ret (v := .tuple #[.slice none 0 0, .int .i64 zv]) (by simp [results, Tryz.results104, go_sem, *]; try exact ⟨rfl, rfl⟩) rfl ⟨⟨none, 0, []⟩, zv, rfl, ⟨InI_nil _, New.nil⟩, fun h => absurd h hz0, bz⟩
    ·have hltz : ¬ (kk : Int) < (xs.length : Int) := by omega
     have hk : kk = xs.length := by omega
     go_wp2_with fail
     exact bodyPost_ret (v := .tuple #[s.val, .int .i64 0]) (by simp [results, Tryz.results104, go_sem, *]; try exact ⟨rfl, rfl⟩) rfl ⟨s, 0, rfl, ⟨Own.ok OW.out (fun _ => rfl) (by omega) (fun _ _ => trivial), New.own OW.out (by omega)⟩, fun _ => by omega, BW'⟩
theorem f80_c (n : Net) (l : Sl Int) (w : World) (hs : InNet w n) (hl : InI w l) : Calls Tryz.prog 80 #[n.val, l.val] w (RLev n w) := by
 have T := HD (fun W (hb : Bl w W) => f104_c n l W (InNet.up hs hb) (InI.up hl hb))
 clear hs hl
 go_enter Tryz.func80, Tryz.ntmps80
 go_wp2_with fail
 refine (T.out _ bz).mono ?_
 rintro e w1 ⟨s, q, rfl, hin, hq, hw1⟩
 clear T
 go_wp2_with fail
 exact bodyPost_ret (v := .tuple #[s.val, .int .i64 q]) (by simp [results, Tryz.results80, go_sem, *]; try exact ⟨rfl, rfl⟩) rfl ⟨s, q, rfl, ⟨hin.1, New.up hin.2 bz⟩, hq, bz⟩
set_option maxHeartbeats 4000000 in
theorem f50_core (A A2 V Pn Sn On : Option Addr) (c c2 cv cp cs co : Nat) (xs : List Nd) (ls : List Lk) (vs ps ss : List Int) (os : List Bool) (w : World)
 (hs : InNet w ⟨⟨A, c, xs⟩, ⟨A2, c2, ls⟩⟩) (ht : InSt w ⟨⟨V, cv, vs⟩, ⟨Pn, cp, ps⟩, ⟨Sn, cs, ss⟩, ⟨On, co, os⟩⟩) (N R : Bool)
 (T54 : ∀ W, Bl w W -> Calls Tryz.prog 54 #[.agg #[.slice A xs.length c, .slice A2 ls.length c2]] W fun e w' => e = .returned (.bool N) /\ Bl W w')
 (hcap : N = true -> ∀ x ∈ xs, x.kind ≠ 3 -> 0 < x.shape.xs.length)
 (F0 : N = false -> R = false) (F1 : vs.length ≠ xs.length -> R = false) (F2 : ps.length ≠ xs.length -> R = false) (F3 : ss.length ≠ ls.length -> R = false) (F4 : os.length ≠ ls.length -> R = false)
 (F5 : ∀ k (h : k < xs.length) (h' : k < vs.length), inR 0 (capN xs[k]) vs[k] = false -> R = false)
 (F6 : ∀ k (h : k < xs.length) (h' : k < ps.length), inR 0 1125899906842624 ps[k] = false -> R = false)
 (F7 : ∀ k (h : k < xs.length) (h' : k < ps.length), xs[k].kind = 3 -> ps[k] ≠ 0 -> R = false)
 (F8 : ∀ k (h : k < ls.length) (h' : k < ss.length), inR 0 1000 ss[k] = false -> R = false)
 (F9 : ∀ k (h : k < ls.length) (h' : k < os.length), os[k] = true -> ls[k].kind ≠ 4 -> R = false)
 (FT : N = true -> vs.length = xs.length -> ps.length = xs.length -> ss.length = ls.length -> os.length = ls.length ->
  (∀ k (h : k < xs.length) (h1 : k < vs.length) (h2 : k < ps.length), inR 0 (capN xs[k]) vs[k] = true /\ inR 0 1125899906842624 ps[k] = true /\ (xs[k].kind = 3 -> ps[k] = 0)) ->
  (∀ k (h : k < ls.length) (h1 : k < ss.length) (h2 : k < os.length), inR 0 1000 ss[k] = true /\ (os[k] = true -> ls[k].kind = 4)) -> R = true) :
 Calls Tryz.prog 50 #[.agg #[.slice A xs.length c, .slice A2 ls.length c2], .agg #[.slice V vs.length cv, .slice Pn ps.length cp, .slice Sn ss.length cs, .slice On os.length co]] w fun e w' => e = .returned (.bool R) /\ Bl w w' := by
 have hr1 := hs.nodes.room
 have hr2 := hs.links.room
 have hr3 := ht.vol.room
 have hr4 := ht.pond.room
 have hr5 := ht.set.room
 have hr6 := ht.on.room
 have HT54 := HD T54
 have HC := HD hcap
 have G5 := HD F5
 have G6 := HD F6
 have G7 := HD F7
 have G8 := HD F8
 have G9 := HD F9
 have GT := HD FT
 have hS := HD hs
 have hT := HD ht
 simp only at hr1 hr2 hr3 hr4 hr5 hr6
 have hcase : (N = false /\ R = false) \/ (N = true /\ vs.length ≠ xs.length /\ R = false) \/ (N = true /\ vs.length = xs.length /\ ps.length ≠ xs.length /\ R = false) \/ (N = true /\ vs.length = xs.length /\ ps.length = xs.length /\ ss.length ≠ ls.length /\ R = false) \/
  (N = true /\ vs.length = xs.length /\ ps.length = xs.length /\ ss.length = ls.length /\ os.length ≠ ls.length /\ R = false) \/ (N = true /\ vs.length = xs.length /\ ps.length = xs.length /\ ss.length = ls.length /\ os.length = ls.length) := by
  cases hN : N
  ·exact .inl ⟨rfl, F0 hN⟩
  by_cases e1 : vs.length = xs.length
  ·by_cases e2 : ps.length = xs.length
   ·by_cases e3 : ss.length = ls.length
    ·by_cases e4 : os.length = ls.length
     ·exact .inr (.inr (.inr (.inr (.inr ⟨rfl, e1, e2, e3, e4⟩))))
     ·exact .inr (.inr (.inr (.inr (.inl ⟨rfl, e1, e2, e3, e4, F4 e4⟩))))
    ·exact .inr (.inr (.inr (.inl ⟨rfl, e1, e2, e3, F3 e3⟩)))
   ·exact .inr (.inr (.inl ⟨rfl, e1, e2, F2 e2⟩))
  ·exact .inr (.inl ⟨rfl, e1, F1 e1⟩)
 clear T54 hcap F0 F1 F2 F3 F4 F5 F6 F7 F8 F9 FT hs ht
 have key : R = false -> ∀ (q1 : ((vs.length : Int) == (xs.length : Int)) = decide (vs.length = xs.length)) (q2 : ((ps.length : Int) == (xs.length : Int)) = decide (ps.length = xs.length)) (q3 : ((ss.length : Int) == (ls.length : Int)) = decide (ss.length = ls.length)) (q4 : ((os.length : Int) == (ls.length : Int)) = decide (os.length = ls.length)), True := fun _ _ _ _ _ => trivial
 clear key
 rcases hcase with ⟨hN, KF⟩ | ⟨hN, e1, KF⟩ | ⟨hN, e1, e2, KF⟩ | ⟨hN, e1, e2, e3, KF⟩ | ⟨hN, e1, e2, e3, e4, KF⟩ | ⟨hN, e1, e2, e3, e4⟩
 iterate 5
  ·have HF := HD KF
   clear KF HC G5 G6 G7 G8 G9 GT hS hT
   try have d1 : ((vs.length : Int) == (xs.length : Int)) = false := by simp; omega
   try have d2 : ((ps.length : Int) == (xs.length : Int)) = false := by simp; omega
   try have d3 : ((ss.length : Int) == (ls.length : Int)) = false := by simp; omega
   try have d4 : ((os.length : Int) == (ls.length : Int)) = false := by simp; omega
   go_enter Tryz.func50, Tryz.ntmps50
   go_wp2_with fail
   refine (HT54.out _ bz).mono ?_
   rintro e w1 ⟨rfl, hw1⟩
   rw [hN]
   obtain ⟨hchw1, hfhw1, hzhw1⟩ := Bl.rules hw1; (try simp only [aZ, cZ, dZ, nZ] at hzhw1)
   have z1 : w.heap.size < w1.heap.size := by omega
   have z2 : w.heap.size + 1 < w1.heap.size := by omega
   go_wp2_with fail
   go_ret
   exact ⟨ret_bool HF.out.symm, bz⟩
 have E := HD (And.intro e1 (And.intro e2 (And.intro e3 e4)))
 have HN := HD hN
 rw [e1, e2, e3, e4]
 clear e1 e2 e3 e4 hr3 hr4 hr5 hr6
 go_enter Tryz.func50, Tryz.ntmps50
 go_wp2_with fail
 refine (HT54.out _ bz).mono ?_
 rintro e w1 ⟨rfl, hw1⟩
 rw [hN]
 clear hN HT54
 obtain ⟨hchw1, hfhw1, hzhw1⟩ := Bl.rules hw1; (try simp only [aZ, cZ, dZ, nZ] at hzhw1)
 have z1 : w.heap.size < w1.heap.size := by omega
 have z2 : w.heap.size + 1 < w1.heap.size := by omega
 have hB1 : Bl w w1 := bz
 go_wp2_with fail
 go_loopg [51] xs.length (fun gg s51 wr => ∃ (kk : Nat), kk ≤ xs.length /\ xs.length - kk ≤ gg /\ s51 = .int .i64 kk /\ Aside (Bl w wr) /\ Aside (w.heap.size + 1 < wr.heap.size) /\ Aside (wr.cell? ⟨w.heap.size, 0, none⟩ = some (.slice A xs.length c)) /\ Aside (wr.cell? ⟨w.heap.size, 1, none⟩ = some (.slice A2 ls.length c2)) /\ Aside (wr.cell? ⟨w.heap.size + 1, 0, none⟩ = some (.slice V xs.length cv)) /\ Aside (wr.cell? ⟨w.heap.size + 1, 1, none⟩ = some (.slice Pn xs.length cp)) /\ Aside (wr.cell? ⟨w.heap.size + 1, 2, none⟩ = some (.slice Sn ls.length cs)) /\ Aside (wr.cell? ⟨w.heap.size + 1, 3, none⟩ = some (.slice On ls.length co)) /\ Aside (∀ k (h : k < kk) (h0 : k < xs.length) (h1 : k < vs.length) (h2 : k < ps.length), inR 0 (capN xs[k]) vs[k] = true /\ inR 0 1125899906842624 ps[k] = true /\ (xs[k].kind = 3 -> ps[k] = 0)))
 case atStart => exact ⟨0, Nat.zero_le _, by omega, rfl, hB1, aside z2, aside (by simp [go_sem, *]), aside (by simp [go_sem, *]), aside (by simp [go_sem, *]), aside (by simp [go_sem, *]), aside (by simp [go_sem, *]), aside (by simp [go_sem, *]), fun k h => by omega⟩
 case round =>
  clear hw1 hchw1 hfhw1 hzhw1 z1 z2 hB1
  obtain ⟨kk, hkk, hg, rfl, BW, Z, C0, C1, C2, C3, C4, C5, AN⟩ := hrel
  have BW' := BW.out
  have Z' := Z.out
  have Z0 : w.heap.size < wr.heap.size := by omega
  have C0' := C0.out
  have C1' := C1.out
  have C2' := C2.out
  have C3' := C3.out
  have C4' := C4.out
  have C5' := C5.out
  by_cases hlt : kk < xs.length
  ·have hltz : (kk : Int) < (xs.length : Int) := by omega
   have hkz : (0 : Int) ≤ (kk : Int) := by omega
   have hlv : kk < vs.length := by have := E.out.1; omega
   have hlp : kk < ps.length := by have := E.out.2.1; omega
   obtain ⟨b, off, hA, _, _, _⟩ := hS.out.nodes.place (by intro e; simp only at e; rw [e] at hlt; simp at hlt)
   obtain ⟨bv, offv, hAv, _, _, _⟩ := hT.out.vol.place (by intro e; simp only at e; rw [e] at hlv; simp at hlv)
   obtain ⟨bp, offp, hAp, _, _, _⟩ := hT.out.pond.place (by intro e; simp only at e; rw [e] at hlp; simp at hlp)
   simp only at hA hAv hAp
   subst hA hAv hAp
   have hc := Sl.Ok.cells hS.out.nodes rfl wr BW' kk hlt
   have hcv := HD (fun W (hb : Bl w W) => Sl.Ok.cells hT.out.vol rfl W hb kk hlv 0 _ rfl)
   have hcp := HD (fun W (hb : Bl w W) => Sl.Ok.cells hT.out.pond rfl W hb kk hlp 0 _ rfl)
   have T76 := HD (fun W (hb : Bl w W) => f76_c xs[kk] W (InNd.up (hS.out.nodes.each _ (List.getElem_mem hlt)) hb) (HC.out HN.out _ (List.getElem_mem hlt)))
   have g5 := HD (G5.out kk hlt hlv)
   have g6 := HD (G6.out kk hlt hlp)
   have g7 := HD (G7.out kk hlt hlp)
   have gA : Hid (inR 0 (capN xs[kk]) vs[kk] = true -> inR 0 1125899906842624 ps[kk] = true -> (xs[kk].kind = 3 -> ps[kk] = 0) -> ∀ k (h : k < kk + 1) (h0 : k < xs.length) (h1 : k < vs.length) (h2 : k < ps.length), inR 0 (capN xs[k]) vs[k] = true /\ inR 0 1125899906842624 ps[k] = true /\ (xs[k].kind = 3 -> ps[k] = 0)) := HD (fun a1 a2 a3 k h h0 h1 h2 => by
    by_cases e : k = kk
    ·subst e; exact ⟨a1, a2, a3⟩
    ·exact AN.out k (by omega) h0 h1 h2)
   simp only at hc hcv hcp
   generalize xs[kk] = y at hc T76 g5 g6 g7 gA
   generalize vs[kk] = v at hcv g5 gA
   generalize ps[kk] = p at hcp g6 g7 gA
   have e0 : wr.cell? ⟨b, off + kk * 9, none⟩ = some (.string y.name) := hc 0 _ rfl
   have e1 : wr.cell? ⟨b, off + kk * 9 + 1, none⟩ = some (.int .i64 y.kind) := hc 1 _ rfl
   have e2 : wr.cell? ⟨b, off + kk * 9 + 2, none⟩ = some (.int .i64 y.px) := hc 2 _ rfl
   have e3 : wr.cell? ⟨b, off + kk * 9 + 3, none⟩ = some (.int .i64 y.py) := hc 3 _ rfl
   have e4 : wr.cell? ⟨b, off + kk * 9 + 4, none⟩ = some (.int .i64 y.inv) := hc 4 _ rfl
   have e5 : wr.cell? ⟨b, off + kk * 9 + 5, none⟩ = some (.int .i64 y.gnd) := hc 5 _ rfl
   have e6 : wr.cell? ⟨b, off + kk * 9 + 6, none⟩ = some (y.shape.val) := hc 6 _ rfl
   have e7 : wr.cell? ⟨b, off + kk * 9 + 7, none⟩ = some (.bool y.prot) := hc 7 _ rfl
   have e8 : wr.cell? ⟨b, off + kk * 9 + 8, none⟩ = some (.int .i64 y.res) := hc 8 _ rfl
   clear hc
   go_wp2_with fail
   obtain ⟨W0, hW0⟩ : ∃ X, X = (wr.alloc (Obj.cells #[.string y.name, .int .i64 y.kind, .int .i64 y.px, .int .i64 y.py, .int .i64 y.inv, .int .i64 y.gnd, y.shape.val, .bool y.prot, .int .i64 y.res] 41)) := ⟨_, rfl⟩
   have hB0 : Bl wr W0 := by rw [hW0]; exact bz
   have p0 : ∀ z : Later W0, z.at'.cell? ⟨wr.heap.size, 0, none⟩ = some (.string y.name) := by rw [hW0]; exact fun z => z.keep (by simp [go_sem])
   have p1 : ∀ z : Later W0, z.at'.cell? ⟨wr.heap.size, 1, none⟩ = some (.int .i64 y.kind) := by rw [hW0]; exact fun z => z.keep (by simp [go_sem])
   have p2 : ∀ z : Later W0, z.at'.cell? ⟨wr.heap.size, 2, none⟩ = some (.int .i64 y.px) := by rw [hW0]; exact fun z => z.keep (by simp [go_sem])
   have p3 : ∀ z : Later W0, z.at'.cell? ⟨wr.heap.size, 3, none⟩ = some (.int .i64 y.py) := by rw [hW0]; exact fun z => z.keep (by simp [go_sem])
   have p4 : ∀ z : Later W0, z.at'.cell? ⟨wr.heap.size, 4, none⟩ = some (.int .i64 y.inv) := by rw [hW0]; exact fun z => z.keep (by simp [go_sem])
   have p5 : ∀ z : Later W0, z.at'.cell? ⟨wr.heap.size, 5, none⟩ = some (.int .i64 y.gnd) := by rw [hW0]; exact fun z => z.keep (by simp [go_sem])
   have p6 : ∀ z : Later W0, z.at'.cell? ⟨wr.heap.size, 6, none⟩ = some (y.shape.val) := by rw [hW0]; exact fun z => z.keep (by simp [go_sem])
   have p7 : ∀ z : Later W0, z.at'.cell? ⟨wr.heap.size, 7, none⟩ = some (.bool y.prot) := by rw [hW0]; exact fun z => z.keep (by simp [go_sem])
   have p8 : ∀ z : Later W0, z.at'.cell? ⟨wr.heap.size, 8, none⟩ = some (.int .i64 y.res) := by rw [hW0]; exact fun z => z.keep (by simp [go_sem])
   have d0 : W0.cell? ⟨w.heap.size, 0, none⟩ = some (.slice (some ⟨b, off, none⟩) xs.length c) := by rw [hW0]; simp [go_sem, *]
   have d1 : W0.cell? ⟨w.heap.size, 1, none⟩ = some (.slice A2 ls.length c2) := by rw [hW0]; simp [go_sem, *]
   have d2 : W0.cell? ⟨w.heap.size + 1, 0, none⟩ = some (.slice (some ⟨bv, offv, none⟩) xs.length cv) := by rw [hW0]; simp [go_sem, *]
   have d3 : W0.cell? ⟨w.heap.size + 1, 1, none⟩ = some (.slice (some ⟨bp, offp, none⟩) xs.length cp) := by rw [hW0]; simp [go_sem, *]
   have d4 : W0.cell? ⟨w.heap.size + 1, 2, none⟩ = some (.slice Sn ls.length cs) := by rw [hW0]; simp [go_sem, *]
   have d5 : W0.cell? ⟨w.heap.size + 1, 3, none⟩ = some (.slice On ls.length co) := by rw [hW0]; simp [go_sem, *]
   have zz : w.heap.size + 1 < W0.heap.size := by rw [hW0]; simp; omega
   rw [<- hW0]
   clear hW0
   have hBW0 : Bl w W0 := Bl.trans BW' hB0
   have o0 : ∀ z : Later W0, z.at'.cell? ⟨w.heap.size, 0, none⟩ = some (.slice (some ⟨b, off, none⟩) xs.length c) := fun z => z.keep d0
   have o1 : ∀ z : Later W0, z.at'.cell? ⟨w.heap.size, 1, none⟩ = some (.slice A2 ls.length c2) := fun z => z.keep d1
   have o2 : ∀ z : Later W0, z.at'.cell? ⟨w.heap.size + 1, 0, none⟩ = some (.slice (some ⟨bv, offv, none⟩) xs.length cv) := fun z => z.keep d2
   have o3 : ∀ z : Later W0, z.at'.cell? ⟨w.heap.size + 1, 1, none⟩ = some (.slice (some ⟨bp, offp, none⟩) xs.length cp) := fun z => z.keep d3
   have o4 : ∀ z : Later W0, z.at'.cell? ⟨w.heap.size + 1, 2, none⟩ = some (.slice Sn ls.length cs) := fun z => z.keep d4
   have o5 : ∀ z : Later W0, z.at'.cell? ⟨w.heap.size + 1, 3, none⟩ = some (.slice On ls.length co) := fun z => z.keep d5
   have pv : ∀ z : Later W0, z.at'.cell? ⟨bv, offv + kk, none⟩ = some (.int .i64 v) := fun z => by have := hcv.out z.at' (Bl.trans hBW0 z.bl); rwa [Nat.mul_one] at this
   have pp : ∀ z : Later W0, z.at'.cell? ⟨bp, offp + kk, none⟩ = some (.int .i64 p) := fun z => by have := hcp.out z.at' (Bl.trans hBW0 z.bl); rwa [Nat.mul_one] at this
   clear e0 e1 e2 e3 e4 e5 e6 e7 e8 C0' C1' C2' C3' C4' C5'
   have hout : (inR 0 (capN y) v = false /\ R = false) \/ (inR 0 (capN y) v = true /\ inR 0 1125899906842624 p = false /\ R = false) \/ (inR 0 (capN y) v = true /\ inR 0 1125899906842624 p = true /\ (y.kind == 3) = true /\ (p == 0) = false /\ R = false) \/
    (inR 0 (capN y) v = true /\ inR 0 1125899906842624 p = true /\ (y.kind == 3) = true /\ (p == 0) = true) \/ (inR 0 (capN y) v = true /\ inR 0 1125899906842624 p = true /\ (y.kind == 3) = false) := by
    cases b1 : inR 0 (capN y) v
    ·exact .inl ⟨rfl, g5.out b1⟩
    cases b2 : inR 0 1125899906842624 p
    ·exact .inr (.inl ⟨rfl, rfl, g6.out b2⟩)
    cases b3 : (y.kind == 3)
    ·exact .inr (.inr (.inr (.inr ⟨rfl, rfl, rfl⟩)))
    cases b4 : (p == 0)
    ·exact .inr (.inr (.inl ⟨rfl, rfl, rfl, rfl, g7.out (by simpa using b3) (by simpa using b4)⟩))
    ·exact .inr (.inr (.inr (.inl ⟨rfl, rfl, rfl, rfl⟩)))
   have hok : Hid (inR 0 (capN y) v = true -> inR 0 1125899906842624 p = true -> ((y.kind == 3) = true -> (p == 0) = true) -> ∀ k (h : k < kk + 1) (h0 : k < xs.length) (h1 : k < vs.length) (h2 : k < ps.length), inR 0 (capN xs[k]) vs[k] = true /\ inR 0 1125899906842624 ps[k] = true /\ (xs[k].kind = 3 -> ps[k] = 0)) := fun a1 a2 a3 => gA.out a1 a2 (fun h => by simpa using a3 (by simpa using h))
   clear g5 g6 g7 gA
   rcases hout with ⟨b1, KF⟩ | ⟨b1, b2, KF⟩ | ⟨b1, b2, b3, b4, KF⟩ | ⟨b1, b2, b3, b4⟩ | ⟨b1, b2, b3⟩
   iterate 3
    ·have HF := HD KF
     clear KF
     refine wp_region_later (by kernel_rfl) (by kernel_rfl) ?_
     repeat (go_big_quiet_step (first | ((go_at_call 76; (with_reducible exact Calls.later (T76.out _ (Bl.trans hBW0 (Later.bl _)))))) | ((go_at_call 75; (with_reducible exact Calls.later_same (f75_c _ _ _ _)))) | ((go_at_call 77; (with_reducible exact Calls.later_same (f77_c _ _))))))
     refine wpQuiet_nil ?_
     intro w3 hB3
     have hbw3 : Bl w w3 := Bl.trans hBW0 hB3
     clear p0 p1 p2 p3 p4 p5 p6 p7 p8 pv pp o0 o1 o2 o3 o4 o5
     go_wp2_with fail
     go_ret
     exact ⟨ret_bool HF.out.symm, bz⟩
   iterate 2
    ·have hA := HD (hok.out b1 b2 (by simp [*]))
     refine wp_region_later (by kernel_rfl) (by kernel_rfl) ?_
     repeat (go_big_quiet_step (first | ((go_at_call 76; (with_reducible exact Calls.later (T76.out _ (Bl.trans hBW0 (Later.bl _)))))) | ((go_at_call 75; (with_reducible exact Calls.later_same (f75_c _ _ _ _)))) | ((go_at_call 77; (with_reducible exact Calls.later_same (f77_c _ _))))))
     refine wpQuiet_nil ?_
     intro w3 hB3
     have hbw3 : Bl w w3 := Bl.trans hBW0 hB3
     have f0 := hB3.keep d0
     have f1 := hB3.keep d1
     have f2 := hB3.keep d2
     have f3 := hB3.keep d3
     have f4 := hB3.keep d4
     have f5 := hB3.keep d5
     have zz3 : w.heap.size + 1 < w3.heap.size := by have := hB3.size; omega
     clear p0 p1 p2 p3 p4 p5 p6 p7 p8 pv pp o0 o1 o2 o3 o4 o5
     go_wp2_with fail
     go_roundg (xs.length - (kk + 1))
     case measure => omega
     case rel => exact ⟨kk + 1, by omega, by omega, by go_num, hbw3, aside zz3, aside f0, aside f1, aside f2, aside f3, aside f4, aside f5, hA.out⟩
  ·have hltz : ¬ (kk : Int) < (xs.length : Int) := by omega
   have hk : kk = xs.length := by omega
   have hAN := HD AN.out
   clear hkk hg BW Z C0 C1 C2 C3 C4 C5 AN hlt hltz
   subst hk
   clear HC G5 G6 G7
   go_wp2_with fail
   go_loopg [91] ls.length (fun gg s91 wr => ∃ (kk : Nat), kk ≤ ls.length /\ ls.length - kk ≤ gg /\ s91 = .int .i64 kk /\ Aside (Bl w wr) /\ Aside (w.heap.size + 1 < wr.heap.size) /\ Aside (wr.cell? ⟨w.heap.size, 0, none⟩ = some (.slice A xs.length c)) /\ Aside (wr.cell? ⟨w.heap.size, 1, none⟩ = some (.slice A2 ls.length c2)) /\ Aside (wr.cell? ⟨w.heap.size + 1, 0, none⟩ = some (.slice V xs.length cv)) /\ Aside (wr.cell? ⟨w.heap.size + 1, 1, none⟩ = some (.slice Pn xs.length cp)) /\ Aside (wr.cell? ⟨w.heap.size + 1, 2, none⟩ = some (.slice Sn ls.length cs)) /\ Aside (wr.cell? ⟨w.heap.size + 1, 3, none⟩ = some (.slice On ls.length co)) /\ Aside (∀ k (h : k < kk) (h0 : k < ls.length) (h1 : k < ss.length) (h2 : k < os.length), inR 0 1000 ss[k] = true /\ (os[k] = true -> ls[k].kind = 4)))
   case atStart => exact ⟨0, Nat.zero_le _, by omega, rfl, BW', aside Z', aside C0', aside C1', aside C2', aside C3', aside C4', aside C5', fun k h => by omega⟩
   case round =>
    clear BW' Z' Z0 C0' C1' C2' C3' C4' C5'
    obtain ⟨kk, hkk, hg, rfl, BW, Z, C0, C1, C2, C3, C4, C5, AN⟩ := hrel
    have BW' := BW.out
    have Z' := Z.out
    have Z0 : w.heap.size < wr.heap.size := by omega
    have C0' := C0.out
    have C1' := C1.out
    have C2' := C2.out
    have C3' := C3.out
    have C4' := C4.out
    have C5' := C5.out
    by_cases hlt : kk < ls.length
    ·have hltz : (kk : Int) < (ls.length : Int) := by omega
     have hkz : (0 : Int) ≤ (kk : Int) := by omega
     have hlv : kk < ss.length := by have := E.out.2.2.1; omega
     have hlp : kk < os.length := by have := E.out.2.2.2; omega
     obtain ⟨b, off, hA, _, _, _⟩ := hS.out.links.place (by intro e; simp only at e; rw [e] at hlt; simp at hlt)
     obtain ⟨bv, offv, hAv, _, _, _⟩ := hT.out.set.place (by intro e; simp only at e; rw [e] at hlv; simp at hlv)
     obtain ⟨bp, offp, hAp, _, _, _⟩ := hT.out.on.place (by intro e; simp only at e; rw [e] at hlp; simp at hlp)
     simp only at hA hAv hAp
     subst hA hAv hAp
     have hc := Sl.Ok.cells hS.out.links rfl wr BW' kk hlt
     have hcv := Sl.Ok.cells hT.out.set rfl wr BW' kk hlv 0 _ rfl
     have hcp := Sl.Ok.cells hT.out.on rfl wr BW' kk hlp 0 _ rfl
     have g8 := HD (G8.out kk hlt hlv)
     have g9 := HD (G9.out kk hlt hlp)
     have gA : Hid (inR 0 1000 ss[kk] = true -> (os[kk] = true -> ls[kk].kind = 4) -> ∀ k (h : k < kk + 1) (h0 : k < ls.length) (h1 : k < ss.length) (h2 : k < os.length), inR 0 1000 ss[k] = true /\ (os[k] = true -> ls[k].kind = 4)) := HD (fun a1 a2 k h h0 h1 h2 => by
      by_cases e : k = kk
      ·subst e; exact ⟨a1, a2⟩
      ·exact AN.out k (by omega) h0 h1 h2)
     simp only at hc hcv hcp
     generalize ls[kk] = y at hc g9 gA
     generalize ss[kk] = v at hcv g8 gA
     generalize os[kk] = p at hcp g9 gA
     rw [Nat.mul_one] at hcv hcp
     have ev : wr.cell? ⟨bv, offv + kk, none⟩ = some (.int .i64 v) := hcv
     have ep : wr.cell? ⟨bp, offp + kk, none⟩ = some (.bool p) := hcp
     have zbv : bv < wr.heap.size := cell_lt ev
     have zbp : bp < wr.heap.size := cell_lt ep
     have e0 : wr.cell? ⟨b, off + kk * 11, none⟩ = some (.string y.name) := hc 0 _ rfl
     have e1 : wr.cell? ⟨b, off + kk * 11 + 1, none⟩ = some (.string y.src) := hc 1 _ rfl
     have e2 : wr.cell? ⟨b, off + kk * 11 + 2, none⟩ = some (.string y.dst) := hc 2 _ rfl
     have e3 : wr.cell? ⟨b, off + kk * 11 + 3, none⟩ = some (.int .i64 y.kind) := hc 3 _ rfl
     have e4 : wr.cell? ⟨b, off + kk * 11 + 4, none⟩ = some (.int .i64 y.len) := hc 4 _ rfl
     have e5 : wr.cell? ⟨b, off + kk * 11 + 5, none⟩ = some (.int .i64 y.up) := hc 5 _ rfl
     have e6 : wr.cell? ⟨b, off + kk * 11 + 6, none⟩ = some (.int .i64 y.down) := hc 6 _ rfl
     have e7 : wr.cell? ⟨b, off + kk * 11 + 7, none⟩ = some (.string y.sec) := hc 7 _ rfl
     have e8 : wr.cell? ⟨b, off + kk * 11 + 8, none⟩ = some (.int .i64 y.wid) := hc 8 _ rfl
     have e9 : wr.cell? ⟨b, off + kk * 11 + 9, none⟩ = some (.int .i64 y.hgt) := hc 9 _ rfl
     have e10 : wr.cell? ⟨b, off + kk * 11 + 10, none⟩ = some (y.curve.val) := hc 10 _ rfl
     clear hc hcv hcp
     have hout : (inR 0 1000 v = false /\ R = false) \/ (inR 0 1000 v = true /\ p = true /\ (y.kind == 4) = false /\ R = false) \/ (inR 0 1000 v = true /\ p = true /\ (y.kind == 4) = true) \/ (inR 0 1000 v = true /\ p = false) := by
      cases b1 : inR 0 1000 v
      ·exact .inl ⟨rfl, g8.out b1⟩
      cases b2 : p
      ·exact .inr (.inr (.inr ⟨rfl, rfl⟩))
      cases b3 : (y.kind == 4)
      ·exact .inr (.inl ⟨rfl, rfl, rfl, g9.out b2 (by simpa using b3)⟩)
      ·exact .inr (.inr (.inl ⟨rfl, rfl, rfl⟩))
     have hok : Hid (inR 0 1000 v = true -> (p = true -> (y.kind == 4) = true) -> ∀ k (h : k < kk + 1) (h0 : k < ls.length) (h1 : k < ss.length) (h2 : k < os.length), inR 0 1000 ss[k] = true /\ (os[k] = true -> ls[k].kind = 4)) := fun a1 a2 => gA.out a1 (fun h => by simpa using a2 h)
     clear g8 g9 gA
     rcases hout with ⟨b1, KF⟩ | ⟨b1, b2, b3, KF⟩ | ⟨b1, b2, b3⟩ | ⟨b1, b2⟩
     iterate 2
      ·have HF := HD KF
       clear KF hok
       try subst b2
       go_wp2_with fail
       refine (f75_c _ _ _ _).mono ?_
       rintro e w3 ⟨rfl, rfl⟩
       rw [b1]
       go_wp2_with fail
       go_ret
       exact ⟨ret_bool HF.out.symm, bz⟩
     iterate 2
      ·have hA := HD (hok.out b1 (by simp [*]))
       try subst b2
       clear hok
       go_wp2_with fail
       refine (f75_c _ _ _ _).mono ?_
       rintro e w3 ⟨rfl, rfl⟩
       rw [b1]
       go_wp2_with fail
       go_roundg (ls.length - (kk + 1))
       case measure => omega
       case rel => exact ⟨kk + 1, by omega, by omega, by go_num, bz, aside (by simp; omega), aside (by simp [go_sem, *]), aside (by simp [go_sem, *]), aside (by simp [go_sem, *]), aside (by simp [go_sem, *]), aside (by simp [go_sem, *]), aside (by simp [go_sem, *]), hA.out⟩
    ·have hltz : ¬ (kk : Int) < (ls.length : Int) := by omega
     have hk : kk = ls.length := by omega
     subst hk
     have KT := HD (GT.out HN.out E.out.1 E.out.2.1 E.out.2.2.1 E.out.2.2.2 (fun k h h1 h2 => hAN.out k h h h1 h2) (fun k h h1 h2 => AN.out k h h h1 h2))
     go_wp2_with fail
     go_ret
     exact ⟨ret_bool KT.out.symm, BW'⟩
def StateOk (n : Net) (s : St) : Prop := netB n = true /\ s.vol.xs.length = n.nodes.xs.length /\ s.pond.xs.length = n.nodes.xs.length /\ s.set.xs.length = n.links.xs.length /\ s.on.xs.length = n.links.xs.length /\
 (∀ k (h : k < n.nodes.xs.length) (h1 : k < s.vol.xs.length) (h2 : k < s.pond.xs.length), inR 0 (capN n.nodes.xs[k]) s.vol.xs[k] = true /\ inR 0 1125899906842624 s.pond.xs[k] = true /\ (n.nodes.xs[k].kind = 3 -> s.pond.xs[k] = 0)) /\
 (∀ k (h : k < n.links.xs.length) (h1 : k < s.set.xs.length) (h2 : k < s.on.xs.length), inR 0 1000 s.set.xs[k] = true /\ (s.on.xs[k] = true -> n.links.xs[k].kind = 4))
instance (n : Net) (s : St) : Decidable (StateOk n s) := by unfold StateOk; infer_instance
def stateB (n : Net) (s : St) : Bool := decide (StateOk n s)
theorem stateB_iff (n : Net) (s : St) : stateB n s = true ↔ StateOk n s := by simp [stateB]
theorem stateB_no {n : Net} {s : St} (h : ¬ StateOk n s) : stateB n s = false := by simp [stateB, h]
theorem f50_c (n : Net) (s : St) (w : World) (hs : InNet w n) (ht : InSt w s) : Calls Tryz.prog 50 #[n.val, s.val] w fun e w' => e = .returned (.bool (stateB n s)) /\ Bl w w' := by
 obtain ⟨⟨A, c, xs⟩, ⟨A2, c2, ls⟩⟩ := n
 obtain ⟨⟨V, cv, vs⟩, ⟨Pn, cp, ps⟩, ⟨Sn, cs, ss⟩, ⟨On, co, os⟩⟩ := s
 exact f50_core A A2 V Pn Sn On c c2 cv cp cs co xs ls vs ps ss os w hs ht (netB ⟨⟨A, c, xs⟩, ⟨A2, c2, ls⟩⟩) (stateB ⟨⟨A, c, xs⟩, ⟨A2, c2, ls⟩⟩ ⟨⟨V, cv, vs⟩, ⟨Pn, cp, ps⟩, ⟨Sn, cs, ss⟩, ⟨On, co, os⟩⟩) (fun W hb => f54_c _ W (InNet.up hs hb))
  (fun hN x hx => by
   obtain ⟨k, hk, rfl⟩ := List.getElem_of_mem hx
   exact nodeB_shape (((netB_iff _).mp hN).2.2.1 k hk).1)
  (fun h => stateB_no fun q => by have := q.1; rw [h] at this; cases this)
  (fun h => stateB_no fun q => h q.2.1) (fun h => stateB_no fun q => h q.2.2.1) (fun h => stateB_no fun q => h q.2.2.2.1) (fun h => stateB_no fun q => h q.2.2.2.2.1)
  (fun k h h' e => stateB_no fun q => by
   have h2 : k < ps.length := by have := q.2.2.1; simp only at this; omega
   have := (q.2.2.2.2.2.1 k h h' h2).1; simp only at this; rw [e] at this; cases this)
  (fun k h h' e => stateB_no fun q => by
   have h1 : k < vs.length := by have := q.2.1; simp only at this; omega
   have := (q.2.2.2.2.2.1 k h h1 h').2.1; simp only at this; rw [e] at this; cases this)
  (fun k h h' e e' => stateB_no fun q => by
   have h1 : k < vs.length := by have := q.2.1; simp only at this; omega
   exact e' ((q.2.2.2.2.2.1 k h h1 h').2.2 e))
  (fun k h h' e => stateB_no fun q => by
   have h2 : k < os.length := by have := q.2.2.2.2.1; simp only at this; omega
   have := (q.2.2.2.2.2.2 k h h' h2).1; simp only at this; rw [e] at this; cases this)
  (fun k h h' e e' => stateB_no fun q => by
   have h1 : k < ss.length := by have := q.2.2.2.1; simp only at this; omega
   exact e' ((q.2.2.2.2.2.2 k h h1 h').2 e))
  (fun h0 h1 h2 h3 h4 h5 h6 => (stateB_iff _ _).mpr ⟨h0, h1, h2, h3, h4, h5, h6⟩)
def sumTo (f : Nat -> Int) : Nat -> Int
 | 0 => 0
 | k + 1 => sumTo f k + f k
theorem sumTo_bound {f : Nat -> Int} {m : Int} : ∀ (k : Nat), (∀ i, i < k -> 0 ≤ f i /\ f i ≤ m) -> 0 ≤ sumTo f k /\ sumTo f k ≤ (k : Int) * m
 | 0, _ => by simp [sumTo]
 | k + 1, h => by
  have h1 := sumTo_bound k (fun i hi => h i (by omega))
  have h2 := h k (by omega)
  have h3 : ((k + 1 : Nat) : Int) * m = (k : Int) * m + m := by rw [Int.natCast_add, Int.add_mul]; simp
  simp only [sumTo]
  omega
theorem sumTo_congr {f g : Nat -> Int} : ∀ (k : Nat), (∀ i, i < k -> f i = g i) -> sumTo f k = sumTo g k
 | 0, _ => rfl
 | k + 1, h => by simp only [sumTo]; rw [sumTo_congr k (fun i hi => h i (by omega)), h k (by omega)]
def heldS (s : St) : Int := sumTo (fun i => s.vol.xs[i]! + s.pond.xs[i]!) s.vol.xs.length
theorem capN_le {x : Nd} (h : nodeB x = true) : capN x ≤ 1125899906842624 := by
 unfold capN
 split
 ·omega
 ·rename_i hk
  simp only [nodeB, Bool.and_eq_true] at h
  have h2 := h.2
  split at h2
  ·simp only [Bool.and_eq_true, curveB, tabB, decide_eq_true_eq] at h2
   simp only [lastK]
   omega
  ·first | cases h2 | exact absurd (by assumption) hk
   all_goals first | cases h2 | exact absurd (by assumption) hk
theorem inR_iff (lo hi n : Int) : inR lo hi n = true ↔ lo ≤ n /\ n ≤ hi := by simp [inR]
theorem state_bounds {n : Net} {s : St} (h : StateOk n s) (i : Nat) (hi : i < s.vol.xs.length) : 0 ≤ s.vol.xs[i]! /\ s.vol.xs[i]! ≤ 1125899906842624 /\ 0 ≤ s.pond.xs[i]! /\ s.pond.xs[i]! ≤ 1125899906842624 := by
 have h1 : i < n.nodes.xs.length := by have := h.2.1; omega
 have h2 : i < s.pond.xs.length := by have := h.2.2.1; omega
 obtain ⟨a, b, _⟩ := h.2.2.2.2.2.1 i h1 hi h2
 rw [inR_iff] at a b
 have hc := capN_le (((netB_iff n).mp h.1).2.2.1 i h1).1
 simp only [getElem!_pos, hi, h2]
 omega
set_option maxHeartbeats 2000000 in
theorem f33_c (n : Net) (s : St) (w : World) (hs : InNet w n) (ht : InSt w s) : Calls Tryz.prog 33 #[n.val, s.val] w fun e w' => e = .returned (if stateB n s = true then .tuple #[.int .i64 (heldS s), .int .i64 0] else .tuple #[.int .i64 0, .int .i64 1]) /\ Bl w w' := by
 have T50 := HD (fun W (hb : Bl w W) => f50_c n s W (InNet.up hs hb) (InSt.up ht hb))
 cases hb : stateB n s
 ·clear hs ht
  go_enter Tryz.func33, Tryz.ntmps33
  go_wp2_with fail
  refine (T50.out _ bz).mono ?_
  rintro e w1 ⟨rfl, hw1⟩
  rw [hb]
  go_wp2_with fail
  exact bodyPost_ret (v := .tuple #[.int .i64 0, .int .i64 1]) (by simp [results, Tryz.results33, go_sem, *]; try exact ⟨rfl, rfl⟩) rfl ⟨rfl, bz⟩
 have hok := (stateB_iff n s).mp hb
 have hbd := HD (fun i (hi : i < s.vol.xs.length) => state_bounds hok i hi)
 have hlen := HD (show s.vol.xs.length ≤ 300 from hok.2.1 ▸ ((netB_iff n).mp hok.1).1)
 have hlp := HD (show s.pond.xs.length = s.vol.xs.length from hok.2.2.1.trans hok.2.1.symm)
 have hT := HD ht
 have hr1 := ht.vol.room
 have hH : heldS s = sumTo (fun i => s.vol.xs[i]! + s.pond.xs[i]!) s.vol.xs.length := rfl
 rw [hH, if_pos rfl]
 clear hH hok hs ht
 have hsum := HD (fun k (hk : k ≤ s.vol.xs.length) => sumTo_bound (f := fun i => s.vol.xs[i]! + s.pond.xs[i]!) (m := 2251799813685248) k (fun i hi => by have := hbd.out i (by omega); omega))
 have hstep : Hid (∀ k, sumTo (fun i => s.vol.xs[i]! + s.pond.xs[i]!) (k + 1) = sumTo (fun i => s.vol.xs[i]! + s.pond.xs[i]!) k + (s.vol.xs[k]! + s.pond.xs[k]!)) := fun k => rfl
 have h0 : Hid (sumTo (fun i => s.vol.xs[i]! + s.pond.xs[i]!) 0 = 0) := rfl
 generalize sumTo (fun i => s.vol.xs[i]! + s.pond.xs[i]!) = sm at hsum hstep h0
 obtain ⟨⟨V, cv, vs⟩, ⟨Pn, cp, ps⟩, ⟨Sn, cs, ss⟩, ⟨On, co, os⟩⟩ := s
 simp only at hr1 hbd hlen hlp hsum hstep
 have hlp' := hlp.out
 show Calls Tryz.prog 33 #[n.val, .agg #[.slice V vs.length cv, .slice Pn ps.length cp, .slice Sn ss.length cs, .slice On os.length co]] w fun e w' => e = .returned (.tuple #[.int .i64 (sm vs.length), .int .i64 0]) /\ Bl w w'
 have T50' : ∀ (W : World), Bl w W -> Calls Tryz.prog 50 #[n.val, .agg #[.slice V vs.length cv, .slice Pn ps.length cp, .slice Sn ss.length cs, .slice On os.length co]] W fun e w' => e = .returned (.bool true) /\ Bl W w' := fun W hw => by
  have := T50.out W hw
  rw [hb] at this
  exact this
 rw [hlp'] at T50' ⊢
 clear hlp' T50 hb
 have T50 := HD T50'
 clear T50'
 go_enter Tryz.func33, Tryz.ntmps33
 go_wp2_with fail
 refine (T50.out _ bz).mono ?_
 rintro e w1 ⟨rfl, hw1⟩
 clear T50
 obtain ⟨hchw1, hfhw1, hzhw1⟩ := Bl.rules hw1; (try simp only [aZ, cZ, dZ, nZ] at hzhw1)
 have z1 : w.heap.size < w1.heap.size := by omega
 have z2 : w.heap.size + 1 < w1.heap.size := by omega
 have hB1 : Bl w w1 := bz
 go_wp2_with fail
 go_loopg [6, 16] vs.length (fun gg s6 s16 wr => ∃ (kk : Nat), kk ≤ vs.length /\ vs.length - kk ≤ gg /\ s16 = .int .i64 kk /\ s6 = .int .i64 (sm kk) /\ Aside (Bl w wr) /\ Aside (wr.cell? ⟨w.heap.size + 1, 1, none⟩ = some (.slice Pn vs.length cp)))
 case atStart => exact ⟨0, Nat.zero_le _, by omega, rfl, by rw [h0.out], hB1, aside (by simp [go_sem, *])⟩
 case round =>
  clear hw1 hchw1 hfhw1 hzhw1 z1 z2 hB1
  obtain ⟨kk, hkk, hg, rfl, rfl, BW, C1⟩ := hrel
  have BW' := BW.out
  have C1' := C1.out
  by_cases hlt : kk < vs.length
  ·have hltz : (kk : Int) < (vs.length : Int) := by omega
   have hkz : (0 : Int) ≤ (kk : Int) := by omega
   have hlp2 : kk < ps.length := by have := hlp.out; omega
   obtain ⟨bv, offv, hAv, _, _, _⟩ := hT.out.vol.place (by intro e; simp only at e; rw [e] at hlt; simp at hlt)
   obtain ⟨bp, offp, hAp, _, _, _⟩ := hT.out.pond.place (by intro e; simp only at e; rw [e] at hlp2; simp at hlp2)
   simp only at hAv hAp
   subst hAv hAp
   have hcv := Sl.Ok.cells hT.out.vol rfl wr BW' kk hlt 0 _ rfl
   have hcp := Sl.Ok.cells hT.out.pond rfl wr BW' kk hlp2 0 _ rfl
   have b1 := hbd.out kk hlt
   have b2 := hsum.out kk (by omega)
   have b3 := hstep.out kk
   simp only [getElem!_pos, hlt, hlp2] at b1 b3
   simp only at hcv hcp
   generalize vs[kk] = v at hcv b1 b3
   generalize ps[kk] = p at hcp b1 b3
   rw [Nat.mul_one] at hcv hcp
   have ev : wr.cell? ⟨bv, offv + kk, none⟩ = some (.int .i64 v) := hcv
   have ep : wr.cell? ⟨bp, offp + kk, none⟩ = some (.int .i64 p) := hcp
   have hl3 := hlen.out
   have i1 : IntKind.i64.wrap (v + p) = v + p := IntWalk.i64_in _ (by omega)
   have hk300 : (kk : Int) * 2251799813685248 ≤ 300 * 2251799813685248 := by omega
   have i2 : IntKind.i64.wrap (sm kk + (v + p)) = sm kk + (v + p) := IntWalk.i64_in _ (by omega)
   have B3 := HD b3
   clear hcv hcp b1 b2 b3 hl3 hk300
   go_wp2_with fail
   go_roundg (vs.length - (kk + 1))
   case measure => omega
   case rel => exact ⟨kk + 1, by omega, by omega, by go_num, by rw [B3.out], bz, aside (by simp [go_sem, *])⟩
  ·have hltz : ¬ (kk : Int) < (vs.length : Int) := by omega
   have hk : kk = vs.length := by omega
   subst hk
   go_wp2_with fail
   exact bodyPost_ret (v := .tuple #[.int .i64 (sm vs.length), .int .i64 0]) (by simp [results, Tryz.results33, go_sem, *]; try exact ⟨rfl, rfl⟩) rfl ⟨rfl, BW'⟩
theorem f211_c (x : Nd) (v : Int) (w : World) : Calls Tryz.prog 211 #[x.val, .int .i64 v] w fun e w' => e = .returned (.bool (decide (x.inv ≤ v) && decide (v ≤ x.gnd))) /\ Bl w w' := by
 by_cases h1 : x.inv ≤ v
 ·go_enter Tryz.func211, Tryz.ntmps211
  go_wp2_with fail
  go_ret
  exact ⟨ret_bool (by simp [h1]), bz⟩
 ·go_enter Tryz.func211, Tryz.ntmps211
  go_wp2_with fail
  go_ret
  exact ⟨ret_bool (by simp [h1]; try omega), bz⟩
theorem f224_c (q x : Int) (w : World) : Calls Tryz.prog 224 #[.int .i64 q, .int .i64 x] w (RIE w) := by
 go_enter Tryz.func224, Tryz.ntmps224
 go_wp2_with fail
 all_goals
  go_ret2
  exact ⟨_, _, rfl, bz⟩
theorem e212 (args : Array Value) (w : World) : (callFunc 212 args).run Tryz.prog w = .ok (.enter 212 args) w := enters_of Tryz.func212 (by kernel_rfl) rfl args w
theorem e213 (args : Array Value) (w : World) : (callFunc 213 args).run Tryz.prog w = .ok (.enter 213 args) w := enters_of Tryz.func213 (by kernel_rfl) rfl args w
theorem f212_c (x : Nd) (q : Nat) (nm : ByteArray) (w : World) (h : w.cell? ⟨q, 1, none⟩ = some (.string nm)) : Calls Tryz.prog 212 #[x.val, .pointer (some ⟨q, 0, none⟩)] w fun e w' => e = .returned (.bool (x.name == nm)) /\ Bl w w' := by
 have hq := cell_lt h
 simp only at hq
 go_enter Tryz.func212, Tryz.ntmps212
 go_wp2_with fail
 go_ret
 exact ⟨ret_bool (beq_toListBytes _ _).symm, bz⟩
theorem f213_c (x : Nd) (q : Nat) (nm : ByteArray) (w : World) (h : w.cell? ⟨q, 2, none⟩ = some (.string nm)) : Calls Tryz.prog 213 #[x.val, .pointer (some ⟨q, 0, none⟩)] w fun e w' => e = .returned (.bool (x.name == nm)) /\ Bl w w' := by
 have hq := cell_lt h
 simp only at hq
 go_enter Tryz.func213, Tryz.ntmps213
 go_wp2_with fail
 go_ret
 exact ⟨ret_bool (beq_toListBytes _ _).symm, bz⟩
theorem f159_c (q s : Int) (w : World) : Calls Tryz.prog 159 #[.int .i64 q, .int .i64 s] w fun e w' => ∃ v z : Int, e = .returned (.tuple #[.int .i64 v, .int .i64 z]) /\ (z = 0 -> 0 ≤ v /\ v ≤ 1125899906842624) /\ Bl w w' := by
 by_cases hg : 0 ≤ q /\ q ≤ 1099511627776 /\ 1 ≤ s /\ s ≤ 86400
 ·obtain ⟨a1, a2, a3, a4⟩ := hg
  have hp0 : 0 ≤ q * s := Int.mul_nonneg a1 (by omega)
  have hp1 : q * s ≤ 1099511627776 * 86400 := Int.mul_le_mul a2 a4 (by omega) (by omega)
  have hw : IntKind.i64.wrap (q * s) = q * s := IntWalk.i64_in _ (by omega)
  have b1 : ¬ q < 0 := by omega
  have b2 : ¬ 1099511627776 < q := by omega
  have b3 : ¬ s < 1 := by omega
  have b4 : ¬ 86400 < s := by omega
  by_cases hm : q * s ≤ 1125899906842624
  ·go_enter Tryz.func159, Tryz.ntmps159
   go_wp2_with fail
   have hmin : min (q * s) 1125899906842624 = q * s := by omega
   exact bodyPost_ret (v := .tuple #[.int .i64 (q * s), .int .i64 0]) (by simp [results, Tryz.results159, go_sem, *]; try exact ⟨rfl, rfl⟩) rfl ⟨q * s, 0, rfl, fun _ => ⟨hp0, hm⟩, bz⟩
  ·go_enter Tryz.func159, Tryz.ntmps159
   go_wp2_with fail
   have hmin : min (q * s) 1125899906842624 = 1125899906842624 := by omega
   exact bodyPost_ret (v := .tuple #[.int .i64 1125899906842624, .int .i64 0]) (by simp [results, Tryz.results159, go_sem, *]; try exact ⟨rfl, rfl⟩) rfl ⟨1125899906842624, 0, rfl, fun _ => ⟨by omega, by omega⟩, bz⟩
 ·have hcase : q < 0 \/ (¬ q < 0 /\ 1099511627776 < q) \/ (¬ q < 0 /\ ¬ 1099511627776 < q /\ s < 1) \/ (¬ q < 0 /\ ¬ 1099511627776 < q /\ ¬ s < 1 /\ 86400 < s) := by omega
  rcases hcase with b1 | ⟨b1, b2⟩ | ⟨b1, b2, b3⟩ | ⟨b1, b2, b3, b4⟩
  all_goals
   clear hg
   go_enter Tryz.func159, Tryz.ntmps159
   go_wp2_with fail
   exact bodyPost_ret (v := .tuple #[.int .i64 0, .int .i64 2]) (by simp [results, Tryz.results159, go_sem, *]; try exact ⟨rfl, rfl⟩) rfl ⟨0, 2, rfl, fun h => by omega, bz⟩
theorem f194_c (n : Net) (x : Lk) (w : World) (hs : InNet w n) : Calls Tryz.prog 194 #[n.val, x.val] w fun e w' => e = .returned (.tuple #[.int .i64 (ndIx n x.src), .int .i64 (ndIx n x.dst)]) /\ Bl w w' := by
 have T := HD (fun W (q : Nat) (hb : Bl w W) (hc : W.cell? ⟨q, 1, none⟩ = some (.string x.src)) => f22_c n.nodes W.heap.size 212 #[.pointer (some ⟨q, 0, none⟩)] (fun y : Nd => y.name == x.src) W (InNet.up hs hb).nodes (fun W' y _ hb' => f212_c y q x.src W' (hb'.keep hc)) e212)
 have T2 := HD (fun W (q : Nat) (hb : Bl w W) (hc : W.cell? ⟨q, 2, none⟩ = some (.string x.dst)) => f22_c n.nodes W.heap.size 213 #[.pointer (some ⟨q, 0, none⟩)] (fun y : Nd => y.name == x.dst) W (InNet.up hs hb).nodes (fun W' y _ hb' => f213_c y q x.dst W' (hb'.keep hc)) e213)
 clear hs
 go_enter Tryz.func194, Tryz.ntmps194
 go_wp2_with fail
 refine (T.out _ _ bz (by simp [go_sem])).mono ?_
 rintro e w1 ⟨rfl, hw1⟩
 obtain ⟨hchw1, hfhw1, hzhw1⟩ := Bl.rules hw1; (try simp only [aZ, cZ, dZ, nZ] at hzhw1)
 have z1 : w.heap.size < w1.heap.size := by omega
 have z2 : w.heap.size + 1 < w1.heap.size := by omega
 clear T
 go_wp2_with fail
 refine (T2.out _ _ bz (by simp [go_sem, *])).mono ?_
 rintro e w2 ⟨rfl, hw2⟩
 clear T2
 go_wp2_with fail
 exact bodyPost_ret (v := .tuple #[.int .i64 (ndIx n x.src), .int .i64 (ndIx n x.dst)]) (by simp [results, Tryz.results194, go_sem, *]; try exact ⟨rfl, rfl⟩) rfl ⟨rfl, bz⟩
end Go.Proofs.YtnnhnkpoekbahaaGreat
