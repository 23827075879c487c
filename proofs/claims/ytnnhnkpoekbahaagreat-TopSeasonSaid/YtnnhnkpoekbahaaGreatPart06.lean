/- TopSeason: part 7 of 16: Outs Wsh Lim0 Lim -/
import Derived.Test.YtnnhnkpoekbahaaGreatPart05
import Derived.Test.YtnnhnkpoekbahaaGreatPart04
import Derived.Test.YtnnhnkpoekbahaaGreatPart02
import Derived.Test.YtnnhnkpoekbahaaGreatPart03
import Derived.Defers
namespace Go.Proofs.YtnnhnkpoekbahaaGreat
open Go.RowKit
set_option maxHeartbeats 400000
set_option linter.unusedSimpArgs false
set_option linter.unusedVariables false
set_option maxRecDepth 100000
theorem i28 : ∃ i, Tryz.prog.info? 28 = some i /\ i.zero = some (.slice none 0 0) /\ i.size = 1 /\ i.bytes = 24 := info_of (by kernel_rfl)
theorem u101 : Tryz.prog.underlying 101 = some (.slice 28) := by kernel_rfl
theorem grown_cell {w w' : World} {row : Option Nat} (hg : w.grownBy w' row) {b o : Nat} {v : Value} (hc : w.cell? ⟨b, o, none⟩ = some v) (hne : row ≠ some b) : w'.cell? ⟨b, o, none⟩ = some v :=
 (World.cell?_of_block (w := w) (hg.block b (by have := cell_lt hc; simpa using this) (fun e => hne e.symm))).trans hc
theorem grown_fro {w w' : World} {row : Option Nat} (hg : w.grownBy w' row) {b o : Nat} {v : Value} (hc : w.cell? ⟨b, o, none⟩ = some v) (hf : w.frozen? ⟨b, o, none⟩ = false) (hne : row ≠ some b) : w'.frozen? ⟨b, o, none⟩ = false :=
 (World.frozen?_of_block (w := w) (hg.block b (by have := cell_lt hc; simpa using this) (fun e => hne e.symm))).trans hf
theorem But.grown {L : List Nat} {a b c : World} {row : Option Nat} (h : But L a b) (hg : b.grownBy c row) (hr : ∀ k, row = some k -> a.heap.size ≤ k) : But L a c :=
 ⟨hg.os.trans h.os, hg.tape.trans h.tape, hg.output.trans h.output, Nat.le_trans h.size hg.size, fun k hk hn => (hg.block k (Nat.lt_of_lt_of_le hk h.size) (fun e => by have := hr k e.symm; omega)).trans (h.block k hk hn)⟩
theorem InE.but {w w' : World} {g : Nat} {E : Sl (Int × Int)} (h : InE w E) (hb : But [g] w w') (hne : ∀ b off, E.A = some ⟨b, off, none⟩ -> E.xs ≠ [] -> b ≠ g) : InE w' E where
 cap := h.cap
 room := h.room
 place := fun he => by
  obtain ⟨b, off, hA, hB, hw, hc⟩ := h.place he
  exact ⟨b, off, hA, Nat.lt_of_lt_of_le hw hb.size, Nat.lt_of_lt_of_le hw hb.size, fun i hi j v hv => hb.cell (hc i hi j v hv) (by simpa using hne b off hA he)⟩
 each := fun _ _ => trivial
theorem Own1.full {α : Type} {f : α -> Value} {e : TypeId} {base g c : Nat} {w : World} {xs : List α} (h : Own1 f e base w ⟨some ⟨g, 0, none⟩, c, xs⟩) (hc : c = xs.length) {o : Nat} {v : Value} (hv : w.cell? ⟨g, o, none⟩ = some v) : ∃ x ∈ xs, v = f x := by
 rcases h.2 with ⟨h', _⟩ | ⟨g', cap', cur, h', _, hg, _, _, hs, htake⟩
 ·simp [Sl.val] at h'
 ·simp only [Sl.val, Value.slice.injEq, Option.some.injEq, Addr.mk.injEq, and_true, true_and] at h'
  obtain ⟨rfl, rfl⟩ := h'
  have h1 : w.cell? ⟨g, o, none⟩ = cur[o]? := cell_of_row w g o cur e (0, 0) hg
  rw [hv] at h1
  have h2 : cur.toList = xs.map f := by
   rw [<- htake, List.take_of_length_le]
   rw [Array.length_toList, hs, hc]
   exact Nat.le_refl _
  have h3 : (xs.map f)[o]? = some v := by rw [<- h2]; simpa using h1.symm
  have h4 := List.mem_of_getElem? h3
  rw [List.mem_map] at h4
  obtain ⟨x, hx, rfl⟩ := h4
  exact ⟨x, hx, rfl⟩
set_option maxHeartbeats 4000000 in
theorem f121_core (A A2 : Option Addr) (c c2 : Nat) (xs : List Nd) (ls : List Lk) (w : World) (es : List (Int × Int))
 (hN : InNet w ⟨⟨A, c, xs⟩, ⟨A2, c2, ls⟩⟩) (hx : xs.length ≤ 300) (hl : ls.length ≤ 400) (hes : es.length = ls.length)
 (hsrc : ∀ k (h : k < es.length), ∃ a : Nat, a < xs.length /\ (es[k]).1 = (a : Int))
 (T161 : ∀ W, Bl w W -> Calls Tryz.prog 161 #[.agg #[.slice A xs.length c, .slice A2 ls.length c2]] W fun e w' => ∃ s : Sl (Int × Int), e = .returned (.tuple #[s.val, .int .i64 0]) /\ (InE w' s /\ New W s) /\ s.xs = es /\ Bl W w')
 (R : Ending -> World -> Prop)
 (hR : ∀ (G : Sl (Sl Int)) (E : Sl (Int × Int)) w', (InG w' G /\ New w G /\ ∀ i (h : i < G.xs.length), New w G.xs[i]) -> (InE w' E /\ New w E) -> G.xs.length = xs.length -> (∀ i (h : i < G.xs.length), G.xs[i].xs = outsE es i ls.length) -> E.xs = es -> Bl w w' -> R (.returned (.tuple #[G.val, E.val])) w') :
 Calls Tryz.prog 121 #[.agg #[.slice A xs.length c, .slice A2 ls.length c2]] w R := by
 have T161h := HD T161
 have hRh := HD hR
 have hsrch := HD hsrc
 have hesh := HD hes
 clear hN hR hsrc hes T161
 obtain ⟨i0, hi, hz0, hz1, hz2⟩ := i28
 have HI := HD (And.intro hi (And.intro hz0 (And.intro hz1 hz2)))
 obtain ⟨i1, hi1, hz01, hz11, hz21⟩ := i3
 have HJ := HD (And.intro hi1 (And.intro hz01 (And.intro hz11 hz21)))
 clear hi hz0 hz1 hz2 hi1 hz01 hz11 hz21
 have HU := HD u28
 go_enter Tryz.func121, Tryz.ntmps121
 go_wp2_with (at_make; refine wpList_make_full _ rfl _ _ 101 rfl w.heap.size 28 i0 (.slice none 0 0) 1 u101 HI.out.1 HI.out.2.1 HI.out.2.2.1 .i64 .i64 _ _ xs.length rfl rfl rfl rfl (by rw [HI.out.2.2.2]; omega) (by unfold maxLen; omega) (by simp) ?_)
 intro w1 hown hgr
 have hB1 : Bl w w1 := Bl.grown bz hgr (fun g hg => by cases hg)
 have hrep : (madeCells #[Value.slice none 0 0] xs.length).toList = (List.replicate xs.length (⟨none, 0, []⟩ : Sl Int)).map SV := by
  rw [toList_madeCells_one, List.map_replicate]
  rfl
 rw [hrep] at hown
 have hG0 := HD (show Grid w.heap.size w1 (w.heap.size + 1) xs.length (List.replicate xs.length (⟨none, 0, []⟩ : Sl Int)) from by
  refine ⟨?_, ?_, ?_, ?_⟩
  ·unfold Own1
   simp only [Sl.val, List.length_replicate]
   simpa using hown
  ·intro i hi; rw [List.getElem_replicate]; exact Own1.nil
  ·intro i hi; rw [List.getElem_replicate]; simp [Sl.val, Value.ownBlock]
  ·intro i j hi hj _ b hb; rw [List.getElem_replicate] at hb; simp [Sl.val, Value.ownBlock] at hb)
 have b0 : w1.cell? ⟨w.heap.size, 0, none⟩ = some (.slice A xs.length c) := by
  rw [World.cell?_of_block (w := w.alloc (Obj.cells #[.slice A xs.length c, .slice A2 ls.length c2] 25)) (hgr.block _ (by simp) (by simp))]
  simp [go_sem]
 have b1 : w1.cell? ⟨w.heap.size, 1, none⟩ = some (.slice A2 ls.length c2) := by
  rw [World.cell?_of_block (w := w.alloc (Obj.cells #[.slice A xs.length c, .slice A2 ls.length c2] 25)) (hgr.block _ (by simp) (by simp))]
  simp [go_sem]
 clear hown hgr hrep
 go_wp2_with fail
 refine (T161h.out _ hB1).mono ?_
 rintro e w2 ⟨⟨EA, ec, ex⟩, he, ⟨hE, hEn⟩, hx0, hw2⟩
 obtain rfl : e = .returned (.tuple #[.slice EA ex.length ec, .int .i64 0]) := he
 simp only at hx0
 subst hx0
 have hEr := hE.room
 have hEh := HD hE
 have hEnh := HD (New.up hEn hB1)
 have hB2 : Bl w w2 := hB1.trans hw2
 have hG2 := HD (hG0.out.bl hw2)
 have hbE := HD (fun b off (hA : EA = some ⟨b, off, none⟩) (hne : ex ≠ []) => show b ≠ w.heap.size + 1 from fun e => by
  subst e
  obtain ⟨b', off', hA', _, _, hc⟩ := hE.place hne
  simp only at hA'
  rw [hA] at hA'
  simp only [Option.some.injEq, Addr.mk.injEq, and_true] at hA'
  obtain ⟨rfl, rfl⟩ := hA'
  have hpos : 0 < ex.length := List.length_pos_iff.mpr hne
  obtain ⟨x, _, hx⟩ := hG2.out.out.full (by simp) (hc 0 hpos 0 _ rfl)
  simp [SV, Sl.val] at hx)
 simp only at hEr
 clear hEn T161h hE hw2 hB1 hG0 b0 b1
 go_wp2_with fail
 go_loopg [20] ex.length (fun gg s20 wr => ∃ (kk : Nat) (L : List (Sl Int)), kk ≤ ex.length /\ ex.length - kk ≤ gg /\ s20 = .int .i64 kk /\ Aside (Bl w wr) /\ Aside (But [w.heap.size + 1] w2 wr) /\ Aside (∀ i (h : i < L.length) b, L[i].val.ownBlock = some b -> w2.heap.size ≤ b) /\ Aside (Grid w.heap.size wr (w.heap.size + 1) xs.length L) /\ Aside (L.length = xs.length) /\ Aside (∀ i (h : i < L.length), L[i].xs = outsE ex i kk /\ L[i].xs.length ≤ kk))
 case atStart => exact ⟨0, List.replicate xs.length (⟨none, 0, []⟩ : Sl Int), Nat.zero_le _, by omega, rfl, hB2, But.refl _ _, aside (fun i h b hb => by rw [List.getElem_replicate] at hb; simp [Sl.val, Value.ownBlock] at hb), hG2.out, aside (by simp), aside (fun i h => by rw [List.getElem_replicate]; exact ⟨rfl, Nat.le_refl _⟩)⟩
 case round =>
  clear hB2 hG2
  obtain ⟨kk, L, hkk, hg, rfl, BW, BU, RB, GG, LL, PP⟩ := hrel
  have EE := HD (InE.but hEh.out BU.out hbE.out)
  have BW' := BW.out
  by_cases hlt : kk < ex.length
  ·have hltz : (kk : Int) < (ex.length : Int) := by omega
   have hkz : (0 : Int) ≤ (kk : Int) := by omega
   obtain ⟨bE, offE, hA, _, _, hc⟩ := EE.out.place (by intro e; simp only at e; rw [e] at hlt; simp at hlt)
   simp only at hA hc
   subst hA
   obtain ⟨a, ha, hsa⟩ := hsrch.out kk hlt
   have e0 : wr.cell? ⟨bE, offE + kk * 2, none⟩ = some (.int .i64 a) := by rw [<- hsa]; exact hc kk hlt 0 _ rfl
   obtain ⟨d, hd⟩ : ∃ d, d = (ex[kk]).2 := ⟨_, rfl⟩
   have e1 : wr.cell? ⟨bE, offE + kk * 2 + 1, none⟩ = some (.int .i64 d) := by rw [hd]; exact hc kk hlt 1 _ rfl
   have hLa : a < L.length := by have := LL.out; omega
   have haz : (a : Int) < (xs.length : Int) := by omega
   have ha0 : (0 : Int) ≤ (a : Int) := by omega
   have hstep : Hid (∀ s' : Sl Int, s'.xs = L[a].xs ++ [(kk : Int)] -> ∀ i (h : i < (L.set a s').length), (L.set a s')[i].xs = outsE ex i (kk + 1) /\ (L.set a s')[i].xs.length ≤ kk + 1) := fun s' hs' i hi => by
    have hi' : i < L.length := by simpa using hi
    have he : (ex[kk]!).1 = (a : Int) := by rw [getElem!_pos ex kk hlt, hsa]
    have hp := PP.out i hi'
    simp only [outsE, he]
    by_cases hia : i = a
    ·subst hia
     rw [List.getElem_set_self, hs', if_pos rfl, hp.1]
     refine ⟨rfl, ?_⟩
     rw [<- hp.1, List.length_append]
     simp only [List.length_cons, List.length_nil]
     omega
    ·rw [List.getElem_set_ne (fun e => hia e.symm), if_neg (by omega)]
     exact ⟨hp.1, by omega⟩
   have hlen1 := HD ((PP.out a hLa).2)
   have hrl := HD (GG.out.row a hLa).lt
   have hzr : w.heap.size + 1 < wr.heap.size := (GG.out.out.lt _ rfl).2
   clear hc hsa hd PP
   go_wp2_with fail
   obtain ⟨W0, hW0⟩ : ∃ X, X = (wr.alloc (Obj.cells #[.int .i64 a, .int .i64 d] 206)) := ⟨_, rfl⟩
   have hB0 : Bl wr W0 := by rw [hW0]; exact bz
   have q0 : W0.cell? ⟨wr.heap.size, 0, none⟩ = some (.int .i64 a) := by rw [hW0]; simp [go_sem]
   have zq : wr.heap.size < W0.heap.size := by rw [hW0]; simp
   rw [<- hW0]
   clear hW0
   have hBW0 : Bl w W0 := BW'.trans hB0
   have hG := HD (GG.out.bl hB0)
   have c0 : W0.cell? ⟨w.heap.size + 1, a, none⟩ = some (L[a].val) := hG.out.out.cell a hLa
   have f0 : W0.frozen? ⟨w.heap.size + 1, a, none⟩ = false := hG.out.out.fro a
   have hBU0 := HD (BU.out.trans (But.of hB0))
   have hRB := HD RB.out
   have hng := HD (hG.out.ng a hLa)
   have hzg := (hG.out.out.lt _ rfl).2
   have hLLh := HD LL.out
   clear e0 e1 BW EE GG LL BU RB
   refine wp_region_held_drew (S := (fun w' => Bl w w' /\ w'.cell? ⟨wr.heap.size, 0, none⟩ = some (.int .i64 a))) (by kernel_rfl) ?_ (fun hHeld => ?_)
   ·(try dsimp only)
    ((refine ⟨(by first | assumption | exact bz), ?_⟩; (repeat (refine keepSet ?_ (by simp; omega))); first | assumption | exact Bl.keep (a := W0) bz q0))
   refine tk 0 ?_
   (try simp only [Act.put, lA, lB, lC])
   refine tk 1 ?_
   (try simp only [Act.put, lA, lB, lC])
   refine tk 2 ?_
   (try simp only [Act.put, lA, lB, lC])
   refine tk 3 ?_
   (try simp only [Act.put, lA, lB, lC])
   refine tk 4 ?_
   (try simp only [Act.put, lA, lB, lC])
   refine tk 5 ?_
   (try simp only [Act.put, lA, lB, lC])
   refine tk 6 ?_
   (try simp only [Act.put, lA, lB, lC])
   refine tk 8 ?_
   (try simp only [Act.put, lA, lB, lC])
   refine wpAnyH_ready (rs := [7, 9]) (by kernel_rfl) (by simp) ?_
   refine tc (fun K hK => ?_) ?_
   ·go_simp
    refine hK.out _ _ ?_ (fun hHeld => ?_)
    ·(try dsimp only)
     ((refine ⟨(by first | assumption | exact bz), ?_⟩; (repeat (refine keepSet ?_ (by simp; omega))); first | assumption | exact Bl.keep (a := W0) bz q0))
    clear hK K
    (try simp only [Act.put, lA, lB, lC])
    refine wpAnyH_ready (rs := [9]) (by kernel_rfl) (by simp) ?_
    refine tc (fun K hK => ?_) ?_
    ·go_simp
     refine hK.out _ _ ?_ (fun hHeld => ?_)
     ·(try dsimp only)
      ((refine ⟨(by first | assumption | exact bz), ?_⟩; (repeat (refine keepSet ?_ (by simp; omega))); first | assumption | exact Bl.keep (a := W0) bz q0))
     clear hK K
     (try simp only [Act.put, lA, lB, lC])
     refine wpAnyH_ready (rs := [10]) (by kernel_rfl) (by simp) ?_
     refine tc (fun K hK => ?_) ?_
     ·(rw [if_pos (by rfl)]; refine wp_append_own_at _ _ _ 28 rfl w.heap.size 3 i1 (.int .i64 0) 1 8 HU.out HJ.out.1 HJ.out.2.1 HJ.out.2.2.1 HJ.out.2.2.2 rfl (by decide) _ _ _ rfl (World.ownsRow.alloc (World.ownsRow.drew (hG.out.row a hLa)) _) _ 1 1 [.int .i64 kk] rfl rfl (cell_one_new _ _ _) (by intro u hu; simp at hu; subst hu; rfl) (by have h1 := hlen1.out; have h2 := hesh.out; unfold maxLen; omega) (by have h1 := hlen1.out; have h2 := hesh.out; omega) (by have h3 := hBW0.size; simp; omega) ?_; intro v' w5 hown' hgr hat; obtain ⟨s', rfl, hs', hGs⟩ := Grid.step (x := (kk : Int)) (hG.out.bl (show Bl W0 ((W0.drew).alloc (Obj.cells #[.int .i64 kk] 3)) from bz)) hLa hown' hgr (hat.imp id (fun h => ⟨_, h, Nat.le_refl _⟩)); have hB5 : Bl w w5 := Bl.grown (show Bl w ((W0.drew).alloc (Obj.cells #[.int .i64 kk] 3)) from bz) hgr (fun g hg => by have := ((hG.out.row a hLa).lt g hg).1; omega); have hnr : L[a].val.ownBlock ≠ some wr.heap.size := (fun e => by have := (hrl.out _ e).2; omega); have hBw : Bl W0 ((W0.drew).alloc (Obj.cells #[.int .i64 kk] 3)) := bz; have q5 := grown_cell hgr (hBw.keep q0) hnr; have c5 := grown_cell hgr (hBw.keep c0) hng.out; have f5 := grown_fro hgr (hBw.keep c0) (hBw.keepF c0 f0) hng.out; have hGh := HD hGs; have hxh := HD (hstep.out s' hs'); have hbu5 : But [w.heap.size + 1] w2 w5 := (But.grown (hBU0.out.trans (But.of hBw)) hgr (hRB.out a hLa)); have hath := HD (show ∀ b, s'.val.ownBlock = some b -> w2.heap.size ≤ b from fun b hb => hat.elim (fun h => hRB.out a hLa b (h ▸ hb)) (fun h => by rw [h] at hb; simp only [Option.some.injEq] at hb; have := hBU0.out.size; simp at hb; omega)); clear hGs hs' hgr hat hown')
      refine hK.out _ _ ?_ (fun hHeld => ?_)
      ·(try dsimp only)
       ((refine ⟨(by first | assumption | exact bz), ?_⟩; (repeat (refine keepSet ?_ (by simp; omega))); first | assumption | exact Bl.keep (a := W0) bz q0))
      clear hK K
      (try simp only [Act.put, lA, lB, lC])
      refine tk 11 ?_
      (try simp only [Act.put, lA, lB, lC])
      refine wpAnyH_ready (rs := [12]) (by kernel_rfl) (by simp) ?_
      refine tc (fun K hK => ?_) ?_
      ·go_simp
       refine hK.out _ _ ?_ (fun hHeld => ?_)
       ·(try dsimp only)
        ((refine ⟨(by first | assumption | exact bz), ?_⟩; (repeat (refine keepSet ?_ (by simp; omega))); first | assumption | exact Bl.keep (a := W0) bz q0))
       clear hK K
       (try simp only [Act.put, lA, lB, lC])
       refine wpAnyH_done (by kernel_rfl) ?_ _
       have hB6 : Bl w (w5.setCell ⟨w.heap.size + 1, a, none⟩ s'.val) := Bl.setCell hB5 (by simp only; omega) _
       have hE6 := HD (show But [w.heap.size + 1] w2 (w5.setCell ⟨w.heap.size + 1, a, none⟩ s'.val) from hbu5.set _ _ (.inl (by simp)))
       have hR6 : Hid (∀ i (h : i < (L.set a s').length) b, (L.set a s')[i].val.ownBlock = some b -> w2.heap.size ≤ b) := fun i hi b hb => by
        by_cases hia : i = a
        ·subst hia
         rw [List.getElem_set_self] at hb
         exact hath.out b hb
        ·rw [List.getElem_set_ne (fun e => hia e.symm)] at hb
         exact hRB.out i (by simpa using hi) b hb
       have hL6 := HD (show (L.set a s').length = xs.length by rw [List.length_set]; exact hLLh.out)
       clear q5 c5 f5 hB5 hbu5
       go_wp2_with fail
       go_roundg (ex.length - (kk + 1))
       case measure => omega
       case rel => exact ⟨kk + 1, L.set a s', by omega, by omega, by go_num, hB6, hE6.out, hR6.out, hGh.out, hL6.out, hxh.out⟩
      exact AllReadyH.nil
     exact AllReadyH.nil
    exact AllReadyH.nil
   refine tc (fun K hK => ?_) ?_
   ·go_simp
    refine hK.out _ _ ?_ (fun hHeld => ?_)
    ·(try dsimp only)
     ((refine ⟨(by first | assumption | exact bz), ?_⟩; (repeat (refine keepSet ?_ (by simp; omega))); first | assumption | exact Bl.keep (a := W0) bz q0))
    clear hK K
    (try simp only [Act.put, lA, lB, lC])
    refine wpAnyH_ready (rs := [7]) (by kernel_rfl) (by simp) ?_
    refine tc (fun K hK => ?_) ?_
    ·go_simp
     refine hK.out _ _ ?_ (fun hHeld => ?_)
     ·(try dsimp only)
      ((refine ⟨(by first | assumption | exact bz), ?_⟩; (repeat (refine keepSet ?_ (by simp; omega))); first | assumption | exact Bl.keep (a := W0) bz q0))
     clear hK K
     (try simp only [Act.put, lA, lB, lC])
     refine wpAnyH_ready (rs := [10]) (by kernel_rfl) (by simp) ?_
     refine tc (fun K hK => ?_) ?_
     ·(rw [if_pos (by rfl)]; refine wp_append_own_at _ _ _ 28 rfl w.heap.size 3 i1 (.int .i64 0) 1 8 HU.out HJ.out.1 HJ.out.2.1 HJ.out.2.2.1 HJ.out.2.2.2 rfl (by decide) _ _ _ rfl (World.ownsRow.alloc (World.ownsRow.drew (hG.out.row a hLa)) _) _ 1 1 [.int .i64 kk] rfl rfl (cell_one_new _ _ _) (by intro u hu; simp at hu; subst hu; rfl) (by have h1 := hlen1.out; have h2 := hesh.out; unfold maxLen; omega) (by have h1 := hlen1.out; have h2 := hesh.out; omega) (by have h3 := hBW0.size; simp; omega) ?_; intro v' w5 hown' hgr hat; obtain ⟨s', rfl, hs', hGs⟩ := Grid.step (x := (kk : Int)) (hG.out.bl (show Bl W0 ((W0.drew).alloc (Obj.cells #[.int .i64 kk] 3)) from bz)) hLa hown' hgr (hat.imp id (fun h => ⟨_, h, Nat.le_refl _⟩)); have hB5 : Bl w w5 := Bl.grown (show Bl w ((W0.drew).alloc (Obj.cells #[.int .i64 kk] 3)) from bz) hgr (fun g hg => by have := ((hG.out.row a hLa).lt g hg).1; omega); have hnr : L[a].val.ownBlock ≠ some wr.heap.size := (fun e => by have := (hrl.out _ e).2; omega); have hBw : Bl W0 ((W0.drew).alloc (Obj.cells #[.int .i64 kk] 3)) := bz; have q5 := grown_cell hgr (hBw.keep q0) hnr; have c5 := grown_cell hgr (hBw.keep c0) hng.out; have f5 := grown_fro hgr (hBw.keep c0) (hBw.keepF c0 f0) hng.out; have hGh := HD hGs; have hxh := HD (hstep.out s' hs'); have hbu5 : But [w.heap.size + 1] w2 w5 := (But.grown (hBU0.out.trans (But.of hBw)) hgr (hRB.out a hLa)); have hath := HD (show ∀ b, s'.val.ownBlock = some b -> w2.heap.size ≤ b from fun b hb => hat.elim (fun h => hRB.out a hLa b (h ▸ hb)) (fun h => by rw [h] at hb; simp only [Option.some.injEq] at hb; have := hBU0.out.size; simp at hb; omega)); clear hGs hs' hgr hat hown')
      refine hK.out _ _ ?_ (fun hHeld => ?_)
      ·(try dsimp only)
       ((refine ⟨(by first | assumption | exact bz), ?_⟩; (repeat (refine keepSet ?_ (by simp; omega))); first | assumption | exact Bl.keep (a := W0) bz q0))
      clear hK K
      (try simp only [Act.put, lA, lB, lC])
      refine tk 11 ?_
      (try simp only [Act.put, lA, lB, lC])
      refine wpAnyH_ready (rs := [12]) (by kernel_rfl) (by simp) ?_
      refine tc (fun K hK => ?_) ?_
      ·go_simp
       refine hK.out _ _ ?_ (fun hHeld => ?_)
       ·(try dsimp only)
        ((refine ⟨(by first | assumption | exact bz), ?_⟩; (repeat (refine keepSet ?_ (by simp; omega))); first | assumption | exact Bl.keep (a := W0) bz q0))
       clear hK K
       (try simp only [Act.put, lA, lB, lC])
       refine wpAnyH_done (by kernel_rfl) ?_ _
       have hB6 : Bl w (w5.setCell ⟨w.heap.size + 1, a, none⟩ s'.val) := Bl.setCell hB5 (by simp only; omega) _
       have hE6 := HD (show But [w.heap.size + 1] w2 (w5.setCell ⟨w.heap.size + 1, a, none⟩ s'.val) from hbu5.set _ _ (.inl (by simp)))
       have hR6 : Hid (∀ i (h : i < (L.set a s').length) b, (L.set a s')[i].val.ownBlock = some b -> w2.heap.size ≤ b) := fun i hi b hb => by
        by_cases hia : i = a
        ·subst hia
         rw [List.getElem_set_self] at hb
         exact hath.out b hb
        ·rw [List.getElem_set_ne (fun e => hia e.symm)] at hb
         exact hRB.out i (by simpa using hi) b hb
       have hL6 := HD (show (L.set a s').length = xs.length by rw [List.length_set]; exact hLLh.out)
       clear q5 c5 f5 hB5 hbu5
       go_wp2_with fail
       go_roundg (ex.length - (kk + 1))
       case measure => omega
       case rel => exact ⟨kk + 1, L.set a s', by omega, by omega, by go_num, hB6, hE6.out, hR6.out, hGh.out, hL6.out, hxh.out⟩
      exact AllReadyH.nil
     exact AllReadyH.nil
    exact AllReadyH.nil
   exact AllReadyH.nil
  ·have hltz : ¬ (kk : Int) < (ex.length : Int) := by omega
   have hkl : kk = ls.length := by have := hesh.out; omega
   have hfin := HD (hRh.out ⟨some ⟨w.heap.size + 1, 0, none⟩, xs.length, L⟩ ⟨EA, ec, ex⟩ wr ⟨GG.out.ok (by have := LL.out; omega) (fun i h => by have := (PP.out i h).2; omega), fun g hg => (GG.out.out.lt g hg).1, fun i h g hg => ((GG.out.row i h).lt g hg).1⟩ ⟨EE.out, hEnh.out⟩ LL.out (fun i h => by rw [<- hkl]; exact (PP.out i h).1) rfl BW')
   have hLL := LL.out
   go_wp2_with fail
   have h9 := hfin.out
   simp only [Sl.val, hLL] at h9
   exact h9
theorem f121_c (n : Net) (w : World) (hs : InNet w n) (hb : netB n = true) : Calls Tryz.prog 121 #[n.val] w (ROuts n w) := by
 have hn := (netB_iff n).mp hb
 obtain ⟨⟨A, c, xs⟩, ⟨A2, c2, ls⟩⟩ := n
 refine f121_core A A2 c c2 xs ls w (edgesN ⟨⟨A, c, xs⟩, ⟨A2, c2, ls⟩⟩) hs hn.1 hn.2.1 (by simp [edgesN]) (fun k hk => ?_) (fun W hw => ?_) _ (fun G E w' h1 h2 h3 h4 h5 h6 => ⟨G, E, rfl, h1, h2, h3, h4, h5, h6⟩)
 ·have hk' : k < ls.length := by simpa [edgesN] using hk
  have he := (lk_ends hb k hk').1
  rcases ix_range (fun y : Nd => y.name == ls[k].src) xs with h | ⟨i, hi, hI⟩
  ·exact absurd he (by unfold ndIx; simp only at h ⊢; omega)
  ·refine ⟨i, hi, ?_⟩
   simp only [edgesN, List.getElem_map]
   exact hI
 ·refine (f161_c ⟨⟨A, c, xs⟩, ⟨A2, c2, ls⟩⟩ W (InNet.up hs hw)).mono ?_
  rintro e w' ⟨s, rfl, h1, h2, h3⟩
  exact ⟨s, by rw [if_pos hb], h1, h2 hb, h3⟩
theorem f156_d (po pn pe : Nat) (q : Int) (v1 v2 : Value) (u : FrameMode) (w : World) (h1 : w.cell? ⟨po, 0, none⟩ = some v1) (h2 : w.cell? ⟨pn, 0, none⟩ = some v2) (h3 : w.cell? ⟨pe, 0, none⟩ = some (.int .i64 q)) (f1 : w.frozen? ⟨po, 0, none⟩ = false) (f2 : w.frozen? ⟨pn, 0, none⟩ = false) (hne : po ≠ pn) :
 CallsD Tryz.prog 156 #[.pointer (some ⟨pe, 0, none⟩), .pointer (some ⟨po, 0, none⟩), .pointer (some ⟨pn, 0, none⟩)] u w fun e u' w' => u' = u /\ (e = .returned (.tuple #[]) /\ w' = if q = 0 then w else (w.setCell ⟨po, 0, none⟩ (.slice none 0 0)).setCell ⟨pn, 0, none⟩ (.slice none 0 0)) := by
 by_cases hq : q = 0
 ·have hqb : (q != 0) = false := by simpa using hq
  rw [if_pos hq]
  clear hq
  go_enter_d Tryz.func156, Tryz.ntmps156
  go_wp2_with fail
  go_end0
  exact ⟨rfl, rfl⟩
 ·have hqb : (q != 0) = true := by simpa using hq
  rw [if_neg hq]
  have g2 : (w.setCell ⟨po, 0, none⟩ (.slice none 0 0)).cell? ⟨pn, 0, none⟩ = some v2 := keepSet h2 (fun e => hne e.symm)
  go_enter_d Tryz.func156, Tryz.ntmps156
  go_wp2_with fail
  go_end0
  exact ⟨rfl, rfl⟩
def RWi (ls : List Lk) (w : World) (e : Ending) (w' : World) : Prop := ∃ (s : Sl Int) (o : Sl Bool) (q : Int), e = .returned (.tuple #[s.val, o.val, .int .i64 q]) /\ (InI w' s /\ New w s) /\ (InB w' o /\ New w o) /\ (q = 0 -> s.xs.length = ls.length /\ (∀ x ∈ s.xs, 0 ≤ x /\ x ≤ 1125899906842624) /\ o.xs.length = ls.length /\ ∀ i (h : i < o.xs.length) (h2 : i < ls.length), o.xs[i] = true -> ls[i].kind = 4) /\ Bl w w'
theorem OkT.but {α : Type} {enc : α -> List Value} {k : Nat} {w w' : World} {s : Sl α} {L : List Nat} (h : s.Ok enc k okT w.heap.size w) (hb : But L w w') (hn : ∀ g, s.val.ownBlock = some g -> g ∉ L) : s.Ok enc k okT w'.heap.size w' where
 cap := h.cap
 room := h.room
 place := fun he => by
  obtain ⟨b, off, hA, hB, hw, hc⟩ := h.place he
  exact ⟨b, off, hA, Nat.lt_of_lt_of_le hB hb.size, Nat.lt_of_lt_of_le hw hb.size, fun i hi j v hv => hb.cell (hc i hi j v hv) (hn b (by simp only [Sl.val, hA]; rfl))⟩
 each := fun _ _ => trivial
theorem door_no (ls : List Lk) (w X : World) (tmps : Array Value) (b2 b3 b4 : Nat) (v1 v2 : Value) (q : Int) (hq : ¬ q = 0) (t8 : tmps[8]? = some (.pointer (some ⟨b2, 0, none⟩))) (t9 : tmps[9]? = some (.pointer (some ⟨b3, 0, none⟩))) (t10 : tmps[10]? = some (.pointer (some ⟨b4, 0, none⟩)))
 (h1 : X.cell? ⟨b2, 0, none⟩ = some v1) (h2 : X.cell? ⟨b3, 0, none⟩ = some v2) (h3 : X.cell? ⟨b4, 0, none⟩ = some (.int .i64 q)) (f1 : X.frozen? ⟨b2, 0, none⟩ = false) (f2 : X.frozen? ⟨b3, 0, none⟩ = false) (n1 : b2 ≠ b3) (n2 : b4 ≠ b2) (n3 : b4 ≠ b3) (hb : Bl w X) (l2 : w.heap.size ≤ b2) (l3 : w.heap.size ≤ b3) :
 bodyPostD Tryz.prog Tryz.f119 (RWi ls w) Exit.ret { tmps := tmps, defers := [{ target := .fn (.func 156) #[.pointer (some ⟨b4, 0, none⟩), .pointer (some ⟨b2, 0, none⟩), .pointer (some ⟨b3, 0, none⟩)], args := #[] }] } X := by
 refine leaves_cons (f := 156) (args := #[.pointer (some ⟨b4, 0, none⟩), .pointer (some ⟨b2, 0, none⟩), .pointer (some ⟨b3, 0, none⟩)]) (by simp) (by simp [go_sem]) ?_
 refine (f156_d b2 b3 b4 q v1 v2 .returning X h1 h2 h3 f1 f2 n1).mono ?_
 rintro e u' w'' ⟨hu, he, hw⟩
 rw [if_neg hq] at hw
 subst hu he hw
 have g1 : ((X.setCell ⟨b2, 0, none⟩ (.slice none 0 0)).setCell ⟨b3, 0, none⟩ (.slice none 0 0)).cell? ⟨b2, 0, none⟩ = some (.slice none 0 0) := keepSet (by simp [go_sem, *]) n1
 have g2 : ((X.setCell ⟨b2, 0, none⟩ (.slice none 0 0)).setCell ⟨b3, 0, none⟩ (.slice none 0 0)).cell? ⟨b3, 0, none⟩ = some (.slice none 0 0) := by
  have := keepSet (p := ⟨b2, 0, none⟩) (u := .slice none 0 0) h2 (fun e => n1 e.symm)
  simp [go_sem, *]
 have g3 : ((X.setCell ⟨b2, 0, none⟩ (.slice none 0 0)).setCell ⟨b3, 0, none⟩ (.slice none 0 0)).cell? ⟨b4, 0, none⟩ = some (.int .i64 q) := keepSet (keepSet h3 n2) n3
 have hB : Bl w ((X.setCell ⟨b2, 0, none⟩ (.slice none 0 0)).setCell ⟨b3, 0, none⟩ (.slice none 0 0)) := Bl.setCell (Bl.setCell hb l2 _) l3 _
 generalize ((X.setCell ⟨b2, 0, none⟩ (.slice none 0 0)).setCell ⟨b3, 0, none⟩ (.slice none 0 0)) = F at *
 refine ⟨.tuple #[.slice none 0 0, .slice none 0 0, .int .i64 q], ?_, ⟨⟨none, 0, []⟩, ⟨none, 0, []⟩, q, rfl, ⟨InI_nil _, New.nil⟩, ⟨InB_nil _, New.nil⟩, fun h => absurd h hq, hB⟩⟩
 simp [results, Tryz.results119, go_sem, t8, t9, t10, g1, g2, g3]
theorem door_ok (ls : List Lk) (w X : World) (tmps : Array Value) (b2 b3 b4 : Nat) (s : Sl Int) (o : Sl Bool) (t8 : tmps[8]? = some (.pointer (some ⟨b2, 0, none⟩))) (t9 : tmps[9]? = some (.pointer (some ⟨b3, 0, none⟩))) (t10 : tmps[10]? = some (.pointer (some ⟨b4, 0, none⟩)))
 (h1 : X.cell? ⟨b2, 0, none⟩ = some s.val) (h2 : X.cell? ⟨b3, 0, none⟩ = some o.val) (h3 : X.cell? ⟨b4, 0, none⟩ = some (.int .i64 0)) (f1 : X.frozen? ⟨b2, 0, none⟩ = false) (f2 : X.frozen? ⟨b3, 0, none⟩ = false) (n1 : b2 ≠ b3) (hb : Bl w X) (hi : InI X s /\ New w s) (ho : InB X o /\ New w o)
 (hk : s.xs.length = ls.length /\ (∀ x ∈ s.xs, 0 ≤ x /\ x ≤ 1125899906842624) /\ o.xs.length = ls.length /\ ∀ i (h : i < o.xs.length) (h2 : i < ls.length), o.xs[i] = true -> ls[i].kind = 4) :
 bodyPostD Tryz.prog Tryz.f119 (RWi ls w) Exit.ret { tmps := tmps, defers := [{ target := .fn (.func 156) #[.pointer (some ⟨b4, 0, none⟩), .pointer (some ⟨b2, 0, none⟩), .pointer (some ⟨b3, 0, none⟩)], args := #[] }] } X := by
 refine leaves_cons (f := 156) (args := #[.pointer (some ⟨b4, 0, none⟩), .pointer (some ⟨b2, 0, none⟩), .pointer (some ⟨b3, 0, none⟩)]) (by simp) (by simp [go_sem]) ?_
 refine (f156_d b2 b3 b4 0 _ _ .returning X h1 h2 h3 f1 f2 n1).mono ?_
 rintro e u' w'' ⟨hu, he, hw⟩
 rw [if_pos rfl] at hw
 subst hu he hw
 refine ⟨.tuple #[s.val, o.val, .int .i64 0], ?_, ⟨s, o, 0, rfl, hi, ho, fun _ => hk, hb⟩⟩
 simp [results, Tryz.results119, go_sem, t8, t9, t10, h1, h2, h3]
set_option maxHeartbeats 4000000 in
theorem f119_c (n : Net) (l : Sl Sec) (s : St) (sec : Int) (w : World) (hs : InNet w n) (hl : InSecs w l) (ht : InSt w s) (hlen : n.links.xs.length ≤ 400) : Calls Tryz.prog 119 #[n.val, l.val, s.val, .int .i64 sec] w (RWi n.links.xs w) := by
 have T80 := HD (fun W (hb : Bl w W) => f80_c n s.vol W (InNet.up hs hb) (InI.up ht.vol hb))
 have T157 := HD (fun W lv (hv : InI W lv) (hb : Bl w W) => f157_c n s lv W (InNet.up hs hb) (InSt.up ht hb) hv)
 have T158 := HD (fun W lv (o : Sl Bool) (hv : InI W lv) (ho : InB W o) (hb : Bl w W) => f158_c n l lv ⟨s.vol, s.pond, s.set, o⟩ W (InNet.up hs hb) (InSecs.up hl hb) hv ⟨InI.up ht.vol hb, InI.up ht.pond hb, InI.up ht.set hb, ho⟩)
 clear hs hl ht
 have hmf : ∀ (fn : Fn) (first cap : Array Value) (w : World), (Instr.makeFunc fn first cap).run Tryz.prog w = .ok (.func fn first cap) w := fun _ _ _ _ => rfl
 obtain ⟨⟨A, c, xs⟩, ⟨A2, c2, ls⟩⟩ := n
 obtain ⟨sv, sp, ss, so⟩ := s
 simp only at hlen
 show Calls Tryz.prog 119 #[.agg #[.slice A xs.length c, .slice A2 ls.length c2], l.val, .agg #[sv.val, sp.val, ss.val, so.val], .int .i64 sec] w (RWi ls w)
 obtain ⟨i0, hi, hz0, hz1, hz2⟩ := i3
 have HI := HD (And.intro hi (And.intro hz0 (And.intro hz1 hz2)))
 have HU := HD u28
 clear hi hz0 hz1 hz2
 go_enter_defers Tryz.func119, Tryz.ntmps119
 go_wp2_with fail
 refine (T80.out _ bz).mono ?_
 rintro e w1 ⟨s1, q1, rfl, ⟨h1, h1n⟩, _, hw1⟩
 have h1N : Hid (∀ g, s1.val.ownBlock = some g -> g ∉ [w.heap.size + 1, w.heap.size + 2, w.heap.size + 3, w.heap.size + 4]) := fun g hg => by have := h1n g hg; simp at this ⊢; omega
 have an0 : w1.cell? ⟨w.heap.size, 0, none⟩ = some (.slice A xs.length c) := hw1.keep (by simp [go_sem])
 have an1 : w1.cell? ⟨w.heap.size, 1, none⟩ = some (.slice A2 ls.length c2) := hw1.keep (by simp [go_sem])
 have as0 : w1.cell? ⟨w.heap.size + 1, 0, none⟩ = some (sv.val) := hw1.keep (by simp [go_sem])
 have as1 : w1.cell? ⟨w.heap.size + 1, 1, none⟩ = some (sp.val) := hw1.keep (by simp [go_sem])
 have as2 : w1.cell? ⟨w.heap.size + 1, 2, none⟩ = some (ss.val) := hw1.keep (by simp [go_sem])
 have as3 : w1.cell? ⟨w.heap.size + 1, 3, none⟩ = some (so.val) := hw1.keep (by simp [go_sem])
 have aou : w1.cell? ⟨w.heap.size + 2, 0, none⟩ = some (.slice none 0 0) := hw1.keep (by simp [go_sem])
 have aon : w1.cell? ⟨w.heap.size + 3, 0, none⟩ = some (.slice none 0 0) := hw1.keep (by simp [go_sem])
 have aee : w1.cell? ⟨w.heap.size + 4, 0, none⟩ = some (.int .i64 0) := hw1.keep (by simp [go_sem])
 have fas3 : w1.frozen? ⟨w.heap.size + 1, 3, none⟩ = false := hw1.keepF (by simp [go_sem]; rfl) (by simp [go_sem])
 have faou : w1.frozen? ⟨w.heap.size + 2, 0, none⟩ = false := hw1.keepF (by simp [go_sem]; rfl) (by simp [go_sem])
 have faon : w1.frozen? ⟨w.heap.size + 3, 0, none⟩ = false := hw1.keepF (by simp [go_sem]; rfl) (by simp [go_sem])
 have faee : w1.frozen? ⟨w.heap.size + 4, 0, none⟩ = false := hw1.keepF (by simp [go_sem]; rfl) (by simp [go_sem])
 have hB1 : Bl w w1 := bz
 have h1h := HD h1
 have hz1 : w.heap.size + 4 < w1.heap.size := by have := hw1.size; simp at this; omega
 clear h1 h1n hw1 T80
 have hBx : Bl w (w1.setCell ⟨w.heap.size + 4, 0, none⟩ (.int .i64 q1)) := Bl.setCell hB1 (by simp only; omega) _
 by_cases hq1 : q1 = 0
 case neg =>
  have hqb : (q1 != 0) = true := by simpa using hq1
  have x1 := keepSet (p := ⟨w.heap.size + 4, 0, none⟩) (u := .int .i64 q1) aou (by simp)
  have x2 := keepSet (p := ⟨w.heap.size + 4, 0, none⟩) (u := .int .i64 q1) aon (by simp)
  have x3 : (w1.setCell ⟨w.heap.size + 4, 0, none⟩ (.int .i64 q1)).cell? ⟨w.heap.size + 4, 0, none⟩ = some (.int .i64 q1) := by simp [go_sem, *]
  have x4 : (w1.setCell ⟨w.heap.size + 4, 0, none⟩ (.int .i64 q1)).frozen? ⟨w.heap.size + 2, 0, none⟩ = false := by simp [go_sem, *]
  have x5 : (w1.setCell ⟨w.heap.size + 4, 0, none⟩ (.int .i64 q1)).frozen? ⟨w.heap.size + 3, 0, none⟩ = false := by simp [go_sem, *]
  go_wp2_with fail
  exact door_no ls w _ _ (w.heap.size + 2) (w.heap.size + 3) (w.heap.size + 4) _ _ q1 hq1 rfl rfl rfl x1 x2 x3 x4 x5 (by omega) (by omega) (by omega) hBx (by omega) (by omega)
 subst hq1
 have bn0 : (w1.setCell ⟨w.heap.size + 4, 0, none⟩ (.int .i64 0)).cell? ⟨w.heap.size, 0, none⟩ = some (.slice A xs.length c) := keepSet an0 (by simp)
 have bn1 : (w1.setCell ⟨w.heap.size + 4, 0, none⟩ (.int .i64 0)).cell? ⟨w.heap.size, 1, none⟩ = some (.slice A2 ls.length c2) := keepSet an1 (by simp)
 have bs0 : (w1.setCell ⟨w.heap.size + 4, 0, none⟩ (.int .i64 0)).cell? ⟨w.heap.size + 1, 0, none⟩ = some (sv.val) := keepSet as0 (by simp)
 have bs1 : (w1.setCell ⟨w.heap.size + 4, 0, none⟩ (.int .i64 0)).cell? ⟨w.heap.size + 1, 1, none⟩ = some (sp.val) := keepSet as1 (by simp)
 have bs2 : (w1.setCell ⟨w.heap.size + 4, 0, none⟩ (.int .i64 0)).cell? ⟨w.heap.size + 1, 2, none⟩ = some (ss.val) := keepSet as2 (by simp)
 have bs3 : (w1.setCell ⟨w.heap.size + 4, 0, none⟩ (.int .i64 0)).cell? ⟨w.heap.size + 1, 3, none⟩ = some (so.val) := keepSet as3 (by simp)
 have bou : (w1.setCell ⟨w.heap.size + 4, 0, none⟩ (.int .i64 0)).cell? ⟨w.heap.size + 2, 0, none⟩ = some (.slice none 0 0) := keepSet aou (by simp)
 have bon : (w1.setCell ⟨w.heap.size + 4, 0, none⟩ (.int .i64 0)).cell? ⟨w.heap.size + 3, 0, none⟩ = some (.slice none 0 0) := keepSet aon (by simp)
 have bee : (w1.setCell ⟨w.heap.size + 4, 0, none⟩ (.int .i64 0)).cell? ⟨w.heap.size + 4, 0, none⟩ = some (.int .i64 0) := by simp [go_sem, *]
 have fbs3 : (w1.setCell ⟨w.heap.size + 4, 0, none⟩ (.int .i64 0)).frozen? ⟨w.heap.size + 1, 3, none⟩ = false := by simp [go_sem, *]
 have fbou : (w1.setCell ⟨w.heap.size + 4, 0, none⟩ (.int .i64 0)).frozen? ⟨w.heap.size + 2, 0, none⟩ = false := by simp [go_sem, *]
 have fbon : (w1.setCell ⟨w.heap.size + 4, 0, none⟩ (.int .i64 0)).frozen? ⟨w.heap.size + 3, 0, none⟩ = false := by simp [go_sem, *]
 have fbee : (w1.setCell ⟨w.heap.size + 4, 0, none⟩ (.int .i64 0)).frozen? ⟨w.heap.size + 4, 0, none⟩ = false := by simp [go_sem, *]
 have hI1 := HD (show InI (w1.setCell ⟨w.heap.size + 4, 0, none⟩ (.int .i64 0)) s1 from OkT.but h1h.out ((But.refl [w.heap.size + 1, w.heap.size + 2, w.heap.size + 3, w.heap.size + 4] w1).set ⟨w.heap.size + 4, 0, none⟩ (.int .i64 0) (.inl (by simp))) h1N.out)
 have hzX : w.heap.size + 4 < (w1.setCell ⟨w.heap.size + 4, 0, none⟩ (.int .i64 0)).heap.size := by simp; omega
 go_wp2_with fail
 clear an0 an1 as0 as1 as2 as3 aou aon aee fas3 faou faon faee h1h hB1 hz1
 generalize (w1.setCell ⟨w.heap.size + 4, 0, none⟩ (.int .i64 0)) = X1 at *
 refine (T157.out _ s1 hI1.out hBx).mono ?_
 rintro e w2 ⟨⟨OA, oc, ox⟩, q2, he, ⟨ho, hon⟩, hq2, hw2⟩
 obtain rfl : e = .returned (.tuple #[.slice OA ox.length oc, .int .i64 q2]) := he
 have hoN : Hid (∀ g, (⟨OA, oc, ox⟩ : Sl Bool).val.ownBlock = some g -> g ∉ [w.heap.size + 1, w.heap.size + 2, w.heap.size + 3, w.heap.size + 4]) := fun g hg => by have := hon g hg; simp at this ⊢; omega
 have hoW := HD (New.up hon hBx)
 have hB2 : Bl w w2 := hBx.trans hw2
 have hz2 : w.heap.size + 4 < w2.heap.size := by have := hw2.size; omega
 have cn0 : w2.cell? ⟨w.heap.size, 0, none⟩ = some (.slice A xs.length c) := hw2.keep bn0
 have cn1 : w2.cell? ⟨w.heap.size, 1, none⟩ = some (.slice A2 ls.length c2) := hw2.keep bn1
 have cs0 : w2.cell? ⟨w.heap.size + 1, 0, none⟩ = some (sv.val) := hw2.keep bs0
 have cs1 : w2.cell? ⟨w.heap.size + 1, 1, none⟩ = some (sp.val) := hw2.keep bs1
 have cs2 : w2.cell? ⟨w.heap.size + 1, 2, none⟩ = some (ss.val) := hw2.keep bs2
 have cs3 : w2.cell? ⟨w.heap.size + 1, 3, none⟩ = some (so.val) := hw2.keep bs3
 have cou : w2.cell? ⟨w.heap.size + 2, 0, none⟩ = some (.slice none 0 0) := hw2.keep bou
 have con : w2.cell? ⟨w.heap.size + 3, 0, none⟩ = some (.slice none 0 0) := hw2.keep bon
 have cee : w2.cell? ⟨w.heap.size + 4, 0, none⟩ = some (.int .i64 0) := hw2.keep bee
 have fcs3 : w2.frozen? ⟨w.heap.size + 1, 3, none⟩ = false := hw2.keepF bs3 fbs3
 have fcou : w2.frozen? ⟨w.heap.size + 2, 0, none⟩ = false := hw2.keepF bou fbou
 have fcon : w2.frozen? ⟨w.heap.size + 3, 0, none⟩ = false := hw2.keepF bon fbon
 have fcee : w2.frozen? ⟨w.heap.size + 4, 0, none⟩ = false := hw2.keepF bee fbee
 have hI2 := HD (hI1.out.up hw2)
 have hoh := HD ho
 have hq2h := HD hq2
 clear ho hon hq2 hw2 T157 hI1 hBx hzX
 clear bn0 bn1 bs0 bs1 bs2 bs3 bou bon bee fbs3 fbou fbon fbee
 have dn0 : (w2.setCell ⟨w.heap.size + 3, 0, none⟩ (.slice OA ox.length oc)).cell? ⟨w.heap.size, 0, none⟩ = some (.slice A xs.length c) := keepSet cn0 (by simp)
 have dn1 : (w2.setCell ⟨w.heap.size + 3, 0, none⟩ (.slice OA ox.length oc)).cell? ⟨w.heap.size, 1, none⟩ = some (.slice A2 ls.length c2) := keepSet cn1 (by simp)
 have ds0 : (w2.setCell ⟨w.heap.size + 3, 0, none⟩ (.slice OA ox.length oc)).cell? ⟨w.heap.size + 1, 0, none⟩ = some (sv.val) := keepSet cs0 (by simp)
 have ds1 : (w2.setCell ⟨w.heap.size + 3, 0, none⟩ (.slice OA ox.length oc)).cell? ⟨w.heap.size + 1, 1, none⟩ = some (sp.val) := keepSet cs1 (by simp)
 have ds2 : (w2.setCell ⟨w.heap.size + 3, 0, none⟩ (.slice OA ox.length oc)).cell? ⟨w.heap.size + 1, 2, none⟩ = some (ss.val) := keepSet cs2 (by simp)
 have ds3 : (w2.setCell ⟨w.heap.size + 3, 0, none⟩ (.slice OA ox.length oc)).cell? ⟨w.heap.size + 1, 3, none⟩ = some (so.val) := keepSet cs3 (by simp)
 have dou : (w2.setCell ⟨w.heap.size + 3, 0, none⟩ (.slice OA ox.length oc)).cell? ⟨w.heap.size + 2, 0, none⟩ = some (.slice none 0 0) := keepSet cou (by simp)
 have don : (w2.setCell ⟨w.heap.size + 3, 0, none⟩ (.slice OA ox.length oc)).cell? ⟨w.heap.size + 3, 0, none⟩ = some (.slice OA ox.length oc) := by simp [go_sem, *]
 have dee : (w2.setCell ⟨w.heap.size + 3, 0, none⟩ (.slice OA ox.length oc)).cell? ⟨w.heap.size + 4, 0, none⟩ = some (.int .i64 0) := keepSet cee (by simp)
 have fds3 : (w2.setCell ⟨w.heap.size + 3, 0, none⟩ (.slice OA ox.length oc)).frozen? ⟨w.heap.size + 1, 3, none⟩ = false := by simp [go_sem, *]
 have fdou : (w2.setCell ⟨w.heap.size + 3, 0, none⟩ (.slice OA ox.length oc)).frozen? ⟨w.heap.size + 2, 0, none⟩ = false := by simp [go_sem, *]
 have fdon : (w2.setCell ⟨w.heap.size + 3, 0, none⟩ (.slice OA ox.length oc)).frozen? ⟨w.heap.size + 3, 0, none⟩ = false := by simp [go_sem, *]
 have fdee : (w2.setCell ⟨w.heap.size + 3, 0, none⟩ (.slice OA ox.length oc)).frozen? ⟨w.heap.size + 4, 0, none⟩ = false := by simp [go_sem, *]
 have en0 : ((w2.setCell ⟨w.heap.size + 3, 0, none⟩ (.slice OA ox.length oc)).setCell ⟨w.heap.size + 4, 0, none⟩ (.int .i64 q2)).cell? ⟨w.heap.size, 0, none⟩ = some (.slice A xs.length c) := keepSet dn0 (by simp)
 have en1 : ((w2.setCell ⟨w.heap.size + 3, 0, none⟩ (.slice OA ox.length oc)).setCell ⟨w.heap.size + 4, 0, none⟩ (.int .i64 q2)).cell? ⟨w.heap.size, 1, none⟩ = some (.slice A2 ls.length c2) := keepSet dn1 (by simp)
 have es0 : ((w2.setCell ⟨w.heap.size + 3, 0, none⟩ (.slice OA ox.length oc)).setCell ⟨w.heap.size + 4, 0, none⟩ (.int .i64 q2)).cell? ⟨w.heap.size + 1, 0, none⟩ = some (sv.val) := keepSet ds0 (by simp)
 have es1 : ((w2.setCell ⟨w.heap.size + 3, 0, none⟩ (.slice OA ox.length oc)).setCell ⟨w.heap.size + 4, 0, none⟩ (.int .i64 q2)).cell? ⟨w.heap.size + 1, 1, none⟩ = some (sp.val) := keepSet ds1 (by simp)
 have es2 : ((w2.setCell ⟨w.heap.size + 3, 0, none⟩ (.slice OA ox.length oc)).setCell ⟨w.heap.size + 4, 0, none⟩ (.int .i64 q2)).cell? ⟨w.heap.size + 1, 2, none⟩ = some (ss.val) := keepSet ds2 (by simp)
 have es3 : ((w2.setCell ⟨w.heap.size + 3, 0, none⟩ (.slice OA ox.length oc)).setCell ⟨w.heap.size + 4, 0, none⟩ (.int .i64 q2)).cell? ⟨w.heap.size + 1, 3, none⟩ = some (so.val) := keepSet ds3 (by simp)
 have eou : ((w2.setCell ⟨w.heap.size + 3, 0, none⟩ (.slice OA ox.length oc)).setCell ⟨w.heap.size + 4, 0, none⟩ (.int .i64 q2)).cell? ⟨w.heap.size + 2, 0, none⟩ = some (.slice none 0 0) := keepSet dou (by simp)
 have eon : ((w2.setCell ⟨w.heap.size + 3, 0, none⟩ (.slice OA ox.length oc)).setCell ⟨w.heap.size + 4, 0, none⟩ (.int .i64 q2)).cell? ⟨w.heap.size + 3, 0, none⟩ = some (.slice OA ox.length oc) := keepSet don (by simp)
 have eee : ((w2.setCell ⟨w.heap.size + 3, 0, none⟩ (.slice OA ox.length oc)).setCell ⟨w.heap.size + 4, 0, none⟩ (.int .i64 q2)).cell? ⟨w.heap.size + 4, 0, none⟩ = some (.int .i64 q2) := by simp [go_sem, *]
 have fes3 : ((w2.setCell ⟨w.heap.size + 3, 0, none⟩ (.slice OA ox.length oc)).setCell ⟨w.heap.size + 4, 0, none⟩ (.int .i64 q2)).frozen? ⟨w.heap.size + 1, 3, none⟩ = false := by simp [go_sem, *]
 have feou : ((w2.setCell ⟨w.heap.size + 3, 0, none⟩ (.slice OA ox.length oc)).setCell ⟨w.heap.size + 4, 0, none⟩ (.int .i64 q2)).frozen? ⟨w.heap.size + 2, 0, none⟩ = false := by simp [go_sem, *]
 have feon : ((w2.setCell ⟨w.heap.size + 3, 0, none⟩ (.slice OA ox.length oc)).setCell ⟨w.heap.size + 4, 0, none⟩ (.int .i64 q2)).frozen? ⟨w.heap.size + 3, 0, none⟩ = false := by simp [go_sem, *]
 have feee : ((w2.setCell ⟨w.heap.size + 3, 0, none⟩ (.slice OA ox.length oc)).setCell ⟨w.heap.size + 4, 0, none⟩ (.int .i64 q2)).frozen? ⟨w.heap.size + 4, 0, none⟩ = false := by simp [go_sem, *]
 have hBx : Bl w ((w2.setCell ⟨w.heap.size + 3, 0, none⟩ (.slice OA ox.length oc)).setCell ⟨w.heap.size + 4, 0, none⟩ (.int .i64 q2)) := Bl.setCell (Bl.setCell hB2 (by simp only; omega) _) (by simp only; omega) _
 have hbu : But [w.heap.size + 1, w.heap.size + 2, w.heap.size + 3, w.heap.size + 4] w2 ((w2.setCell ⟨w.heap.size + 3, 0, none⟩ (.slice OA ox.length oc)).setCell ⟨w.heap.size + 4, 0, none⟩ (.int .i64 q2)) := ((But.refl [w.heap.size + 1, w.heap.size + 2, w.heap.size + 3, w.heap.size + 4] w2).set ⟨w.heap.size + 3, 0, none⟩ _ (.inl (by simp))).set ⟨w.heap.size + 4, 0, none⟩ _ (.inl (by simp))
 by_cases hqq : q2 = 0
 case neg =>
  have hqb : (q2 != 0) = true := by simpa using hqq
  go_wp2_with fail
  exact door_no ls w _ _ (w.heap.size + 2) (w.heap.size + 3) (w.heap.size + 4) _ _ q2 hqq rfl rfl rfl eou eon eee feou feon (by omega) (by omega) (by omega) hBx (by omega) (by omega)
 subst hqq
 have hI2x := HD (OkT.but hI2.out hbu h1N.out)
 have hox := HD (OkT.but hoh.out hbu hoN.out)
 have hkind := HD (hq2h.out rfl)
 clear hI2 hoh hB2 hbu hq2h
 have gn0 : (((w2.setCell ⟨w.heap.size + 3, 0, none⟩ (.slice OA ox.length oc)).setCell ⟨w.heap.size + 4, 0, none⟩ (.int .i64 0)).setCell ⟨w.heap.size + 1, 3, none⟩ (.slice OA ox.length oc)).cell? ⟨w.heap.size, 0, none⟩ = some (.slice A xs.length c) := keepSet en0 (by simp)
 have gn1 : (((w2.setCell ⟨w.heap.size + 3, 0, none⟩ (.slice OA ox.length oc)).setCell ⟨w.heap.size + 4, 0, none⟩ (.int .i64 0)).setCell ⟨w.heap.size + 1, 3, none⟩ (.slice OA ox.length oc)).cell? ⟨w.heap.size, 1, none⟩ = some (.slice A2 ls.length c2) := keepSet en1 (by simp)
 have gs0 : (((w2.setCell ⟨w.heap.size + 3, 0, none⟩ (.slice OA ox.length oc)).setCell ⟨w.heap.size + 4, 0, none⟩ (.int .i64 0)).setCell ⟨w.heap.size + 1, 3, none⟩ (.slice OA ox.length oc)).cell? ⟨w.heap.size + 1, 0, none⟩ = some (sv.val) := by simp [go_sem, *]
 have gs1 : (((w2.setCell ⟨w.heap.size + 3, 0, none⟩ (.slice OA ox.length oc)).setCell ⟨w.heap.size + 4, 0, none⟩ (.int .i64 0)).setCell ⟨w.heap.size + 1, 3, none⟩ (.slice OA ox.length oc)).cell? ⟨w.heap.size + 1, 1, none⟩ = some (sp.val) := by simp [go_sem, *]
 have gs2 : (((w2.setCell ⟨w.heap.size + 3, 0, none⟩ (.slice OA ox.length oc)).setCell ⟨w.heap.size + 4, 0, none⟩ (.int .i64 0)).setCell ⟨w.heap.size + 1, 3, none⟩ (.slice OA ox.length oc)).cell? ⟨w.heap.size + 1, 2, none⟩ = some (ss.val) := by simp [go_sem, *]
 have gs3 : (((w2.setCell ⟨w.heap.size + 3, 0, none⟩ (.slice OA ox.length oc)).setCell ⟨w.heap.size + 4, 0, none⟩ (.int .i64 0)).setCell ⟨w.heap.size + 1, 3, none⟩ (.slice OA ox.length oc)).cell? ⟨w.heap.size + 1, 3, none⟩ = some (.slice OA ox.length oc) := by simp [go_sem, *]
 have gou : (((w2.setCell ⟨w.heap.size + 3, 0, none⟩ (.slice OA ox.length oc)).setCell ⟨w.heap.size + 4, 0, none⟩ (.int .i64 0)).setCell ⟨w.heap.size + 1, 3, none⟩ (.slice OA ox.length oc)).cell? ⟨w.heap.size + 2, 0, none⟩ = some (.slice none 0 0) := keepSet eou (by simp)
 have gon : (((w2.setCell ⟨w.heap.size + 3, 0, none⟩ (.slice OA ox.length oc)).setCell ⟨w.heap.size + 4, 0, none⟩ (.int .i64 0)).setCell ⟨w.heap.size + 1, 3, none⟩ (.slice OA ox.length oc)).cell? ⟨w.heap.size + 3, 0, none⟩ = some (.slice OA ox.length oc) := keepSet eon (by simp)
 have gee : (((w2.setCell ⟨w.heap.size + 3, 0, none⟩ (.slice OA ox.length oc)).setCell ⟨w.heap.size + 4, 0, none⟩ (.int .i64 0)).setCell ⟨w.heap.size + 1, 3, none⟩ (.slice OA ox.length oc)).cell? ⟨w.heap.size + 4, 0, none⟩ = some (.int .i64 0) := keepSet eee (by simp)
 have fgs3 : (((w2.setCell ⟨w.heap.size + 3, 0, none⟩ (.slice OA ox.length oc)).setCell ⟨w.heap.size + 4, 0, none⟩ (.int .i64 0)).setCell ⟨w.heap.size + 1, 3, none⟩ (.slice OA ox.length oc)).frozen? ⟨w.heap.size + 1, 3, none⟩ = false := by simp [go_sem, *]
 have fgou : (((w2.setCell ⟨w.heap.size + 3, 0, none⟩ (.slice OA ox.length oc)).setCell ⟨w.heap.size + 4, 0, none⟩ (.int .i64 0)).setCell ⟨w.heap.size + 1, 3, none⟩ (.slice OA ox.length oc)).frozen? ⟨w.heap.size + 2, 0, none⟩ = false := by simp [go_sem, *]
 have fgon : (((w2.setCell ⟨w.heap.size + 3, 0, none⟩ (.slice OA ox.length oc)).setCell ⟨w.heap.size + 4, 0, none⟩ (.int .i64 0)).setCell ⟨w.heap.size + 1, 3, none⟩ (.slice OA ox.length oc)).frozen? ⟨w.heap.size + 3, 0, none⟩ = false := by simp [go_sem, *]
 have fgee : (((w2.setCell ⟨w.heap.size + 3, 0, none⟩ (.slice OA ox.length oc)).setCell ⟨w.heap.size + 4, 0, none⟩ (.int .i64 0)).setCell ⟨w.heap.size + 1, 3, none⟩ (.slice OA ox.length oc)).frozen? ⟨w.heap.size + 4, 0, none⟩ = false := by simp [go_sem, *]
 have hB3 : Bl w (((w2.setCell ⟨w.heap.size + 3, 0, none⟩ (.slice OA ox.length oc)).setCell ⟨w.heap.size + 4, 0, none⟩ (.int .i64 0)).setCell ⟨w.heap.size + 1, 3, none⟩ (.slice OA ox.length oc)) := Bl.setCell hBx (by simp only; omega) _
 have hbu : But [w.heap.size + 1, w.heap.size + 2, w.heap.size + 3, w.heap.size + 4] ((w2.setCell ⟨w.heap.size + 3, 0, none⟩ (.slice OA ox.length oc)).setCell ⟨w.heap.size + 4, 0, none⟩ (.int .i64 0)) (((w2.setCell ⟨w.heap.size + 3, 0, none⟩ (.slice OA ox.length oc)).setCell ⟨w.heap.size + 4, 0, none⟩ (.int .i64 0)).setCell ⟨w.heap.size + 1, 3, none⟩ (.slice OA ox.length oc)) := (But.refl [w.heap.size + 1, w.heap.size + 2, w.heap.size + 3, w.heap.size + 4] _).set ⟨w.heap.size + 1, 3, none⟩ _ (.inl (by simp))
 have hI3 := HD (OkT.but hI2x.out hbu h1N.out)
 have ho3 := HD (OkT.but hox.out hbu hoN.out)
 have hz3 : w.heap.size + 4 < (((w2.setCell ⟨w.heap.size + 3, 0, none⟩ (.slice OA ox.length oc)).setCell ⟨w.heap.size + 4, 0, none⟩ (.int .i64 0)).setCell ⟨w.heap.size + 1, 3, none⟩ (.slice OA ox.length oc)).heap.size := by simp; omega
 clear hI2x hox hbu hBx
 go_wp2_with fail
 clear cn0 cn1 cs0 cs1 cs2 cs3 cou con cee fcs3 fcou fcon fcee
 clear dn0 dn1 ds0 ds1 ds2 ds3 dou don dee fds3 fdou fdon fdee
 clear en0 en1 es0 es1 es2 es3 eou eon eee fes3 feou feon feee hz2
 generalize (((w2.setCell ⟨w.heap.size + 3, 0, none⟩ (.slice OA ox.length oc)).setCell ⟨w.heap.size + 4, 0, none⟩ (.int .i64 0)).setCell ⟨w.heap.size + 1, 3, none⟩ (.slice OA ox.length oc)) = X3 at *
 refine (T158.out _ s1 ⟨OA, oc, ox⟩ hI3.out ho3.out hB3).mono ?_
 rintro e w3 ⟨⟨FA, fc, fx⟩, q3, he, ⟨h3, h3n⟩, hlen3, hnil3, hw3⟩
 obtain rfl : e = .returned (.tuple #[.slice FA fx.length fc, .int .i64 q3]) := he
 have h3N : Hid (∀ g, (⟨FA, fc, fx⟩ : Sl Int).val.ownBlock = some g -> g ∉ [w.heap.size + 1, w.heap.size + 2, w.heap.size + 3, w.heap.size + 4]) := fun g hg => by have := h3n g hg; simp at this ⊢; omega
 have hB4 : Bl w w3 := hB3.trans hw3
 have hz4 : w.heap.size + 4 < w3.heap.size := by have := hw3.size; omega
 have hn0 : w3.cell? ⟨w.heap.size, 0, none⟩ = some (.slice A xs.length c) := hw3.keep gn0
 have hn1 : w3.cell? ⟨w.heap.size, 1, none⟩ = some (.slice A2 ls.length c2) := hw3.keep gn1
 have hs0 : w3.cell? ⟨w.heap.size + 1, 0, none⟩ = some (sv.val) := hw3.keep gs0
 have hs1 : w3.cell? ⟨w.heap.size + 1, 1, none⟩ = some (sp.val) := hw3.keep gs1
 have hs2 : w3.cell? ⟨w.heap.size + 1, 2, none⟩ = some (ss.val) := hw3.keep gs2
 have hs3 : w3.cell? ⟨w.heap.size + 1, 3, none⟩ = some (.slice OA ox.length oc) := hw3.keep gs3
 have hou : w3.cell? ⟨w.heap.size + 2, 0, none⟩ = some (.slice none 0 0) := hw3.keep gou
 have hon : w3.cell? ⟨w.heap.size + 3, 0, none⟩ = some (.slice OA ox.length oc) := hw3.keep gon
 have hee : w3.cell? ⟨w.heap.size + 4, 0, none⟩ = some (.int .i64 0) := hw3.keep gee
 have fhs3 : w3.frozen? ⟨w.heap.size + 1, 3, none⟩ = false := hw3.keepF gs3 fgs3
 have fhou : w3.frozen? ⟨w.heap.size + 2, 0, none⟩ = false := hw3.keepF gou fgou
 have fhon : w3.frozen? ⟨w.heap.size + 3, 0, none⟩ = false := hw3.keepF gon fgon
 have fhee : w3.frozen? ⟨w.heap.size + 4, 0, none⟩ = false := hw3.keepF gee fgee
 have hI4 := HD h3
 have ho4 := HD (InB.up (s := ⟨OA, oc, ox⟩) ho3.out hw3)
 have hl3 := HD hlen3
 have hn3 := HD hnil3
 have hfr := h3.room
 simp only at hfr
 clear h3 h3n hlen3 hnil3 hw3 hI3 ho3 hB3 hz3 T158
 clear gn0 gn1 gs0 gs1 gs2 gs3 gou gon gee fgs3 fgou fgon fgee
 have i1 : (w3.setCell ⟨w.heap.size + 4, 0, none⟩ (.int .i64 q3)).cell? ⟨w.heap.size + 2, 0, none⟩ = some (.slice none 0 0) := keepSet hou (by simp)
 have i2 : (w3.setCell ⟨w.heap.size + 4, 0, none⟩ (.int .i64 q3)).cell? ⟨w.heap.size + 3, 0, none⟩ = some (.slice OA ox.length oc) := keepSet hon (by simp)
 have i3 : (w3.setCell ⟨w.heap.size + 4, 0, none⟩ (.int .i64 q3)).cell? ⟨w.heap.size + 4, 0, none⟩ = some (.int .i64 q3) := by simp [go_sem, *]
 have i4 : (w3.setCell ⟨w.heap.size + 4, 0, none⟩ (.int .i64 q3)).frozen? ⟨w.heap.size + 2, 0, none⟩ = false := by simp [go_sem, *]
 have i5 : (w3.setCell ⟨w.heap.size + 4, 0, none⟩ (.int .i64 q3)).frozen? ⟨w.heap.size + 3, 0, none⟩ = false := by simp [go_sem, *]
 have i6 : (w3.setCell ⟨w.heap.size + 4, 0, none⟩ (.int .i64 q3)).frozen? ⟨w.heap.size + 4, 0, none⟩ = false := by simp [go_sem, *]
 have hBx : Bl w (w3.setCell ⟨w.heap.size + 4, 0, none⟩ (.int .i64 q3)) := Bl.setCell hB4 (by simp only; omega) _
 have hbu : But [w.heap.size + 1, w.heap.size + 2, w.heap.size + 3, w.heap.size + 4] w3 (w3.setCell ⟨w.heap.size + 4, 0, none⟩ (.int .i64 q3)) := (But.refl [w.heap.size + 1, w.heap.size + 2, w.heap.size + 3, w.heap.size + 4] w3).set ⟨w.heap.size + 4, 0, none⟩ _ (.inl (by simp))
 have hI5 := HD (OkT.but hI4.out hbu h3N.out)
 have ho5 := HD (OkT.but ho4.out hbu hoN.out)
 have hz5 : w.heap.size + 4 < (w3.setCell ⟨w.heap.size + 4, 0, none⟩ (.int .i64 q3)).heap.size := by simp; omega
 clear hbu hI4 ho4
 go_wp2_with fail
 clear hn0 hn1 hs0 hs1 hs2 hs3 hou hon hee fhs3 fhou fhon fhee hz4 hB4
 generalize (w3.setCell ⟨w.heap.size + 4, 0, none⟩ (.int .i64 q3)) = X4 at *
 go_loopg [47] fx.length (fun gg s47 wr => ∃ (kk : Nat) (s : Sl Int) (z : Int), kk ≤ fx.length /\ fx.length - kk ≤ gg /\ s47 = .int .i64 kk /\ Aside (Bl w wr) /\ Aside (But [w.heap.size + 1, w.heap.size + 2, w.heap.size + 3, w.heap.size + 4] X4 wr) /\ Aside (wr.cell? ⟨w.heap.size + 2, 0, none⟩ = some s.val) /\ Aside (wr.cell? ⟨w.heap.size + 3, 0, none⟩ = some (.slice OA ox.length oc)) /\ Aside (wr.cell? ⟨w.heap.size + 4, 0, none⟩ = some (.int .i64 z)) /\ Aside (wr.frozen? ⟨w.heap.size + 2, 0, none⟩ = false) /\ Aside (wr.frozen? ⟨w.heap.size + 3, 0, none⟩ = false) /\ Aside (wr.frozen? ⟨w.heap.size + 4, 0, none⟩ = false) /\ Aside (Own encI 1 3 X4.heap.size wr s) /\ Aside (s.xs.length = kk) /\ Aside (∀ x ∈ s.xs, 0 ≤ x /\ x ≤ 1125899906842624) /\ Aside (z = q3 \/ (z = 0 /\ fx ≠ [])))
 case atStart => exact ⟨0, ⟨none, 0, []⟩, q3, Nat.zero_le _, by omega, rfl, hBx, But.refl _ _, aside i1, aside i2, aside i3, aside i4, aside i5, aside i6, Own.nil, aside rfl, aside (fun x hx => by cases hx), aside (.inl rfl)⟩
 case round =>
  have hBX := HD hBx
  clear hBx i1 i2 i3 i4 i5 i6
  obtain ⟨kk, s, z, hkk, hg, rfl, BW, BU, C2, C3, C4, F2, F3, F4, OW, SL, SP, ZZ⟩ := hrel
  have BW' := BW.out
  have BU' := BU.out
  have C2' := C2.out
  have C3' := C3.out
  have C4' := C4.out
  have F2' := F2.out
  have F3' := F3.out
  have F4' := F4.out
  have SL' := SL.out
  clear BW BU C2 C3 C4 F2 F3 F4 SL
  have zr : w.heap.size + 4 < wr.heap.size := by have := BU'.size; omega
  by_cases hlt : kk < fx.length
  ·have hltz : (kk : Int) < (fx.length : Int) := by omega
   have hkz : (0 : Int) ≤ (kk : Int) := by omega
   have hfx : fx.length ≤ 400 := by
    by_cases h : q3 = 0
    ·have := hl3.out h; omega
    ·have := hn3.out h; rw [this] at hlt; simp at hlt
   have hIr := OkT.but hI5.out BU' h3N.out
   obtain ⟨b, off, hA, _, _, hc⟩ := hIr.place (by intro e; simp only at e; rw [e] at hlt; simp at hlt)
   simp only at hA hc
   subst hA
   have hc0 := hc kk hlt 0 _ rfl
   generalize fx[kk] = v at hc0
   have e0 : wr.cell? ⟨b, off + kk, none⟩ = some (.int .i64 v) := by rwa [Nat.mul_one] at hc0
   clear hc hc0 hIr
   go_wp2_with fail
   refine (f159_c v sec _).mono ?_
   rintro e w5 ⟨qq, zv, rfl, hqv, hw5⟩
   have c2 := hw5.keep C2'
   have c3 := hw5.keep C3'
   have c4 := hw5.keep C4'
   have d2 := hw5.keepF C2' F2'
   have d3 := hw5.keepF C3' F3'
   have d4 := hw5.keepF C4' F4'
   have hbw5 : But [w.heap.size + 1, w.heap.size + 2, w.heap.size + 3, w.heap.size + 4] X4 w5 := BU'.trans (But.of hw5)
   have hBw5 : Bl w w5 := BW'.trans hw5
   have zr5 : w.heap.size + 4 < w5.heap.size := by have := hw5.size; omega
   have hOw5 := HD (Own.bl OW.out hw5)
   have hqvh := HD hqv
   have hX4z := BU'.size
   have hw5z := hw5.size
   clear C2' C3' C4' F2' F3' F4' BW' BU' e0 hw5 hqv OW
   have x2 : (w5.setCell ⟨w.heap.size + 4, 0, none⟩ (.int .i64 zv)).cell? ⟨w.heap.size + 2, 0, none⟩ = some s.val := keepSet c2 (by simp)
   have x3 : (w5.setCell ⟨w.heap.size + 4, 0, none⟩ (.int .i64 zv)).cell? ⟨w.heap.size + 3, 0, none⟩ = some (.slice OA ox.length oc) := keepSet c3 (by simp)
   have x4 : (w5.setCell ⟨w.heap.size + 4, 0, none⟩ (.int .i64 zv)).cell? ⟨w.heap.size + 4, 0, none⟩ = some (.int .i64 zv) := by simp [go_sem, *]
   have y2 : (w5.setCell ⟨w.heap.size + 4, 0, none⟩ (.int .i64 zv)).frozen? ⟨w.heap.size + 2, 0, none⟩ = false := by simp [go_sem, *]
   have y3 : (w5.setCell ⟨w.heap.size + 4, 0, none⟩ (.int .i64 zv)).frozen? ⟨w.heap.size + 3, 0, none⟩ = false := by simp [go_sem, *]
   have y4 : (w5.setCell ⟨w.heap.size + 4, 0, none⟩ (.int .i64 zv)).frozen? ⟨w.heap.size + 4, 0, none⟩ = false := by simp [go_sem, *]
   have hB6 : Bl w (w5.setCell ⟨w.heap.size + 4, 0, none⟩ (.int .i64 zv)) := Bl.setCell hBw5 (by simp only; omega) _
   by_cases hz : zv = 0
   case neg =>
    have hzb : (zv != 0) = true := by simpa using hz
    go_wp2_with fail
    exact door_no ls w _ _ (w.heap.size + 2) (w.heap.size + 3) (w.heap.size + 4) _ _ zv hz rfl rfl rfl x2 x3 x4 y2 y3 (by omega) (by omega) (by omega) hB6 (by omega) (by omega)
   subst hz
   have hOw6 := HD (show Own encI 1 3 X4.heap.size (w5.setCell ⟨w.heap.size + 4, 0, none⟩ (.int .i64 0)) s from ownsRow_setCell_other hOw5.out (fun e => by have := hOw5.out.ge _ e; simp only at this; omega) _)
   have hbw6 : But [w.heap.size + 1, w.heap.size + 2, w.heap.size + 3, w.heap.size + 4] X4 (w5.setCell ⟨w.heap.size + 4, 0, none⟩ (.int .i64 0)) := hbw5.set ⟨w.heap.size + 4, 0, none⟩ _ (.inl (by simp))
   have hz6 : w.heap.size + 4 < (w5.setCell ⟨w.heap.size + 4, 0, none⟩ (.int .i64 0)).heap.size := by simp; omega
   have hX6 : X4.heap.size ≤ (w5.setCell ⟨w.heap.size + 4, 0, none⟩ (.int .i64 0)).heap.size := by simp; omega
   go_wp2_with (at_builtin; refine wpList_append_own _ rfl _ _ 28 rfl X4.heap.size 3 i0 (.int .i64 0) 1 8 HU.out HI.out.1 HI.out.2.1 HI.out.2.2.1 HI.out.2.2.2 rfl (by decide) _ _ _ rfl (World.ownsRow.alloc hOw6.out _) _ 1 1 [.int .i64 qq] rfl rfl ?c1 ?c2 ?c3 ?c4 ?c5 ?_)
   try case c1 =>
    intro j u hj
    match j, hj with
    | 0, hj => simp at hj; subst hj; simp [Addr.add, go_sem]
   try case c2 => first | rfl | (intro u hu; simp at hu; subst hu; rfl)
   try case c3 => unfold maxLen; omega
   try case c4 => omega
   try case c5 => first | omega | (simp; omega)
   intro v' w7 hown' hgrow _
   obtain ⟨⟨SA, sc, sx⟩, hv', hs', hO'⟩ := Own.push (enc := encI) (k := 1) (e := 3) (base := X4.heap.size) (w := w7) (s := s) (x := qq) (v := v') (by rw [SL']; exact hown')
   obtain rfl : v' = .slice SA sx.length sc := hv'
   have hgrow' : ((w5.setCell ⟨w.heap.size + 4, 0, none⟩ (.int .i64 0)).alloc (Obj.cells #[.int .i64 qq] 3)).grownBy w7 s.val.ownBlock := hgrow
   have hrow : ∀ g, s.val.ownBlock = some g -> X4.heap.size ≤ g := hOw6.out.ge
   have hal : Bl (w5.setCell ⟨w.heap.size + 4, 0, none⟩ (.int .i64 0)) ((w5.setCell ⟨w.heap.size + 4, 0, none⟩ (.int .i64 0)).alloc (Obj.cells #[.int .i64 qq] 3)) := bz
   have hr2 : s.val.ownBlock ≠ some (w.heap.size + 2) := fun e => by have := hrow _ e; omega
   have hr3 : s.val.ownBlock ≠ some (w.heap.size + 3) := fun e => by have := hrow _ e; omega
   have hr4 : s.val.ownBlock ≠ some (w.heap.size + 4) := fun e => by have := hrow _ e; omega
   have p2 := grown_cell hgrow' (hal.keep x2) hr2
   have p3 := grown_cell hgrow' (hal.keep x3) hr3
   have p4 := grown_cell hgrow' (hal.keep x4) hr4
   have r2 := grown_fro hgrow' (hal.keep x2) (hal.keepF x2 y2) hr2
   have r3 := grown_fro hgrow' (hal.keep x3) (hal.keepF x3 y3) hr3
   have r4 := grown_fro hgrow' (hal.keep x4) (hal.keepF x4 y4) hr4
   have hbw7 : But [w.heap.size + 1, w.heap.size + 2, w.heap.size + 3, w.heap.size + 4] X4 w7 := But.grown (hbw6.trans (But.of hal)) hgrow' hrow
   have t2 : (w7.setCell ⟨w.heap.size + 2, 0, none⟩ (.slice SA sx.length sc)).cell? ⟨w.heap.size + 2, 0, none⟩ = some (.slice SA sx.length sc) := by simp [go_sem, *]
   have t3 : (w7.setCell ⟨w.heap.size + 2, 0, none⟩ (.slice SA sx.length sc)).cell? ⟨w.heap.size + 3, 0, none⟩ = some (.slice OA ox.length oc) := keepSet p3 (by simp)
   have t4 : (w7.setCell ⟨w.heap.size + 2, 0, none⟩ (.slice SA sx.length sc)).cell? ⟨w.heap.size + 4, 0, none⟩ = some (.int .i64 0) := keepSet p4 (by simp)
   have v2 : (w7.setCell ⟨w.heap.size + 2, 0, none⟩ (.slice SA sx.length sc)).frozen? ⟨w.heap.size + 2, 0, none⟩ = false := by simp [go_sem, *]
   have v3 : (w7.setCell ⟨w.heap.size + 2, 0, none⟩ (.slice SA sx.length sc)).frozen? ⟨w.heap.size + 3, 0, none⟩ = false := by simp [go_sem, *]
   have v4 : (w7.setCell ⟨w.heap.size + 2, 0, none⟩ (.slice SA sx.length sc)).frozen? ⟨w.heap.size + 4, 0, none⟩ = false := by simp [go_sem, *]
   have hbw8 : But [w.heap.size + 1, w.heap.size + 2, w.heap.size + 3, w.heap.size + 4] X4 (w7.setCell ⟨w.heap.size + 2, 0, none⟩ (.slice SA sx.length sc)) := hbw7.set ⟨w.heap.size + 2, 0, none⟩ _ (.inl (by simp))
   have hB8 : Bl w (w7.setCell ⟨w.heap.size + 2, 0, none⟩ (.slice SA sx.length sc)) := But.bl hBX.out hbw8 (fun k hk => by simp at hk; omega)
   have hO8 := HD (show Own encI 1 3 X4.heap.size (w7.setCell ⟨w.heap.size + 2, 0, none⟩ (.slice SA sx.length sc)) ⟨SA, sc, sx⟩ from ownsRow_setCell_other hO' (fun e => by have := hO'.ge _ e; simp only at this; omega) _)
   have hL8 := HD (show sx.length = kk + 1 by simp only at hs'; rw [hs', List.length_append, SL']; rfl)
   have hP8 : Hid (∀ x ∈ sx, 0 ≤ x /\ x ≤ 1125899906842624) := fun x hx => by
    simp only at hs'
    rw [hs', List.mem_append] at hx
    rcases hx with h | h
    ·exact SP.out x h
    ·simp only [List.mem_singleton] at h
     rw [h]
     first | exact hqvh.out trivial | exact hqvh.out rfl
   have hne : Hid (fx ≠ []) := fun e => by rw [e] at hlt; simp at hlt
   clear hown' hgrow hgrow' hO' hs' hbw7 hbw6 hal hOw6 hOw5
   go_wp2_with fail
   go_roundg (fx.length - (kk + 1))
   case measure => omega
   case rel => exact ⟨kk + 1, ⟨SA, sc, sx⟩, 0, by omega, by omega, by go_num, hB8, hbw8, t2, t3, t4, v2, v3, v4, hO8.out, hL8.out, hP8.out, aside (.inr ⟨rfl, hne.out⟩)⟩
  ·have hltz : ¬ (kk : Int) < (fx.length : Int) := by omega
   have hkk' : kk = fx.length := by omega
   by_cases hz : z = 0
   ·have hq3 : q3 = 0 := by
     rcases ZZ.out with h | h
     ·omega
     ·exact Classical.byContradiction fun hn => h.2 (hn3.out hn)
    have hfin := HD (hl3.out hq3)
    subst hz
    go_wp2_with fail
    exact door_ok ls w _ _ (w.heap.size + 2) (w.heap.size + 3) (w.heap.size + 4) s ⟨OA, oc, ox⟩ rfl rfl rfl C2' C3' C4' F2' F3' (by omega) BW' ⟨Own.ok OW.out (fun _ => rfl) (by omega) (fun _ _ => trivial), New.own OW.out hBX.out.size⟩ ⟨OkT.but ho5.out BU' hoN.out, hoW.out⟩ ⟨by have := hfin.out; first | omega | (simp only at this; omega), SP.out, hkind.out.1, hkind.out.2⟩
   ·go_wp2_with fail
    exact door_no ls w _ _ (w.heap.size + 2) (w.heap.size + 3) (w.heap.size + 4) _ _ z hz rfl rfl rfl C2' C3' C4' F2' F3' (by omega) (by omega) (by omega) BW' (by omega) (by omega)
def sumAt (q : List Int) (l : List Int) : Int := (l.map (fun k => q[k.toNat]!)).sum
theorem outsE_mem {es : List (Int × Int)} {i : Nat} : ∀ {m : Nat} {x : Int}, x ∈ outsE es i m -> ∃ k : Nat, k < m /\ x = (k : Int) /\ (es[k]!).1 = (i : Int)
 | 0, x, h => by simp [outsE] at h
 | m + 1, x, h => by
  simp only [outsE] at h
  split at h
  ·rename_i hs
   rw [List.mem_append] at h
   rcases h with h | h
   ·obtain ⟨k, h1, h2, h3⟩ := outsE_mem h
    exact ⟨k, by omega, h2, h3⟩
   ·simp only [List.mem_singleton] at h
    exact ⟨m, by omega, h, hs⟩
  ·obtain ⟨k, h1, h2, h3⟩ := outsE_mem h
   exact ⟨k, by omega, h2, h3⟩
theorem outsE_nodup {es : List (Int × Int)} {i : Nat} : ∀ (m : Nat), (outsE es i m).Nodup
 | 0 => by simp [outsE]
 | m + 1 => by
  simp only [outsE]
  split
  ·rw [List.nodup_append]
   refine ⟨outsE_nodup m, by simp, ?_⟩
   intro a ha b hb e
   simp only [List.mem_singleton] at hb
   obtain ⟨k, h1, h2, _⟩ := outsE_mem ha
   omega
  ·exact outsE_nodup m
theorem outsE_len {es : List (Int × Int)} {i : Nat} : ∀ (m : Nat), (outsE es i m).length ≤ m
 | 0 => by simp [outsE]
 | m + 1 => by
  have := outsE_len (es := es) (i := i) m
  simp only [outsE]
  split
  ·simp; omega
  ·omega
theorem getI_set_ne {l : List Int} {k i : Nat} {x : Int} (h : i ≠ k) : (l.set k x)[i]! = l[i]! := by
 simp only [List.getElem!_eq_getElem?_getD, List.getElem?_set_ne (fun e => h e.symm)]
theorem getI_set_self {l : List Int} {k : Nat} {x : Int} (h : k < l.length) : (l.set k x)[k]! = x := by
 rw [getElem!_pos (l.set k x) k (by simpa using h), List.getElem_set_self]
theorem sumAt_congr {q q' : List Int} {l : List Int} (h : ∀ x ∈ l, q[x.toNat]! = q'[x.toNat]!) : sumAt q l = sumAt q' l := by
 unfold sumAt
 rw [List.map_congr_left h]
theorem sumAt_app (q : List Int) (a b : List Int) : sumAt q (a ++ b) = sumAt q a + sumAt q b := by
 unfold sumAt
 rw [List.map_append, List.sum_append]
def smN (ws : List Int) (rx : List Int) : Nat -> Nat
 | 0 => 0
 | j + 1 => smN ws rx j + (ws[(rx[j]!).toNat]!).toNat
theorem smN_eq {ws rx : List Int} (h : ∀ x ∈ rx, 0 ≤ ws[x.toNat]!) : ∀ (j : Nat), j ≤ rx.length -> ((smN ws rx j : Nat) : Int) = sumAt ws (rx.take j)
 | 0, _ => by simp [smN, sumAt]
 | j + 1, hj => by
  have h1 := smN_eq h j (by omega)
  rw [List.take_succ_eq_append_getElem (by omega), sumAt_app, <- h1]
  have h2 : rx[j]! = rx[j] := getElem!_pos rx j (by omega)
  have h3 := h rx[j] (List.getElem_mem _)
  simp only [smN, h2, sumAt, List.map_cons, List.map_nil, List.sum_cons, List.sum_nil]
  omega
theorem smN_bound {ws rx : List Int} (h : ∀ x ∈ rx, ws[x.toNat]! ≤ 1125899906842624) : ∀ (j : Nat), j ≤ rx.length -> smN ws rx j ≤ j * 1125899906842624
 | 0, _ => by simp [smN]
 | j + 1, hj => by
  have h1 := smN_bound h j (by omega)
  have h2 : rx[j]! = rx[j] := getElem!_pos rx j (by omega)
  have h3 := h rx[j] (List.getElem_mem _)
  simp only [smN, h2]
  omega
theorem smN_mono {ws rx : List Int} (j d : Nat) : smN ws rx j ≤ smN ws rx (j + d) := by
 induction d with
 | zero => exact Nat.le_refl _
 | succ d ih => show smN ws rx j ≤ smN ws rx (j + d) + _; omega
def shareN (H S b : Nat) : Int := ((H * b / S : Nat) : Int)
theorem share_mono {H S a b : Nat} (h : a ≤ b) : shareN H S a ≤ shareN H S b := by
 unfold shareN
 have := Nat.div_le_div_right (c := S) (Nat.mul_le_mul_left H h)
 omega
theorem share_le {H S b : Nat} (h : b ≤ S) (h0 : 0 < S) : shareN H S b ≤ (H : Int) := by
 unfold shareN
 have : H * b / S ≤ H := by
  rw [Nat.div_le_iff_le_mul_add_pred h0, Nat.mul_comm S]
  have := Nat.mul_le_mul_left H h
  omega
 omega
theorem row_step {q q2 rx : List Int} {j : Nat} {x : Int} (hj : j < rx.length) (hnd : rx.Nodup) (hmem : ∀ y ∈ rx, ∃ k : Nat, k < q2.length /\ y = (k : Int)) (hx : 0 ≤ x)
 (h1 : ∀ k : Nat, k < q2.length -> ((k : Int) ∉ rx.take j -> q2[k]! = q[k]!) /\ 0 ≤ q2[k]!) {d : Int} (h2 : sumAt q2 (rx.take j) = d) :
 (∀ k : Nat, k < q2.length -> ((k : Int) ∉ rx.take (j + 1) -> (q2.set (rx[j]).toNat x)[k]! = q[k]!) /\ 0 ≤ (q2.set (rx[j]).toNat x)[k]!) /\ sumAt (q2.set (rx[j]).toNat x) (rx.take (j + 1)) = d + x := by
 obtain ⟨k0, hk0, he⟩ := hmem rx[j] (List.getElem_mem _)
 have hk : (rx[j]).toNat = k0 := by omega
 rw [hk, List.take_succ_eq_append_getElem hj]
 refine ⟨fun k hkl => ⟨fun hn => ?_, ?_⟩, ?_⟩
 ·rw [List.mem_append, not_or] at hn
  have hne : k ≠ k0 := fun e => hn.2 (by rw [List.mem_singleton, he, e])
  rw [getI_set_ne hne]
  exact (h1 k hkl).1 hn.1
 ·by_cases e : k = k0
  ·subst e; rw [getI_set_self hkl]; exact hx
  ·rw [getI_set_ne e]; exact (h1 k hkl).2
 ·rw [sumAt_app]
  have h3 : sumAt (q2.set k0 x) (rx.take j) = sumAt q2 (rx.take j) := sumAt_congr (fun y hy => by
   obtain ⟨k, _, hyk⟩ := hmem y (List.mem_of_mem_take hy)
   have : k ≠ k0 := fun e => by
    have hnd' := hnd
    obtain ⟨i, hi, hyi⟩ := List.getElem_of_mem hy
    rw [List.getElem_take] at hyi
    have hil : i < j := by simp at hi; omega
    exact (List.pairwise_iff_getElem.mp hnd') i j (by omega) hj hil (by rw [hyi, he, hyk, e])
   rw [hyk, Int.toNat_natCast, getI_set_ne this])
  rw [h3, h2]
  simp only [sumAt, List.map_cons, List.map_nil, List.sum_cons, List.sum_nil, he, Int.toNat_natCast, getI_set_self hk0]
  omega
def LimInv (es : List (Int × Int)) (hs ws q : List Int) (kk : Nat) : Prop := q.length = ws.length /\ (∀ k, k < ws.length -> 0 ≤ q[k]!) /\ (∀ i, i < kk -> sumAt q (outsE es i ws.length) ≤ hs[i]!) /\ (∀ k : Nat, k < ws.length -> (kk : Int) ≤ (es[k]!).1 -> q[k]! = ws[k]!)
theorem LimInv.skip {es : List (Int × Int)} {hs ws q : List Int} {kk : Nat} (h : LimInv es hs ws q kk) (hsum : sumAt ws (outsE es kk ws.length) ≤ hs[kk]!) : LimInv es hs ws q (kk + 1) := by
 obtain ⟨h1, h2, h3, h4⟩ := h
 refine ⟨h1, h2, fun i hi => ?_, fun k hk hke => h4 k hk (by omega)⟩
 rcases Nat.lt_or_ge i kk with h | h
 ·exact h3 i h
 ·have : i = kk := by omega
  subst this
  rw [sumAt_congr (q' := ws) (fun x hx => by
   obtain ⟨k, hk, rfl, hke⟩ := outsE_mem hx
   rw [Int.toNat_natCast]
   exact h4 k hk (by omega))]
  exact hsum
theorem LimInv.cut {es : List (Int × Int)} {hs ws q q2 : List Int} {kk : Nat} (h : LimInv es hs ws q kk) (hl : q2.length = ws.length)
 (h1 : ∀ k : Nat, k < q2.length -> ((k : Int) ∉ outsE es kk ws.length -> q2[k]! = q[k]!) /\ 0 ≤ q2[k]!) (hsum : sumAt q2 (outsE es kk ws.length) ≤ hs[kk]!) : LimInv es hs ws q2 (kk + 1) := by
 obtain ⟨g1, g2, g3, g4⟩ := h
 refine ⟨hl, fun k hk => (h1 k (by omega)).2, fun i hi => ?_, fun k hk hke => ?_⟩
 ·rcases Nat.lt_or_ge i kk with h | h
  ·rw [sumAt_congr (q' := q) (fun x hx => by
    obtain ⟨k, hk, rfl, hke⟩ := outsE_mem hx
    rw [Int.toNat_natCast]
    refine (h1 k (by omega)).1 (fun hm => ?_)
    obtain ⟨k', _, he, hke'⟩ := outsE_mem hm
    have : k' = k := by omega
    subst this
    omega)]
   exact g3 i h
  ·have : i = kk := by omega
   subst this
   exact hsum
 ·rw [(h1 k (by omega)).1 (fun hm => by
   obtain ⟨k', _, he, hke'⟩ := outsE_mem hm
   have : k' = k := by omega
   subst this
   omega)]
  exact g4 k hk (by omega)
theorem InG.but {L : List Nat} {w w' : World} {G : Sl (Sl Int)} (h : InG w G) (hb : But L w w') (hn : ∀ g, G.val.ownBlock = some g -> g ∉ L) (hr : ∀ i (h : i < G.xs.length) g, G.xs[i].val.ownBlock = some g -> g ∉ L) : InG w' G where
 cap := h.cap
 room := h.room
 place := fun he => by
  obtain ⟨b, off, hA, hB, hw, hc⟩ := h.place he
  exact ⟨b, off, hA, Nat.lt_of_lt_of_le hB hb.size, Nat.lt_of_lt_of_le hw hb.size, fun i hi j v hv => hb.cell (hc i hi j v hv) (hn b (by simp only [Sl.val, hA]; rfl))⟩
 each := fun x hx => by
  have h1 := h.each x hx
  obtain ⟨i, hi, rfl⟩ := List.getElem_of_mem hx
  exact OkT.but h1 hb (hr i hi)
def RLim (es : List (Int × Int)) (nn : Nat) (hs ws : List Int) (w : World) (e : Ending) (w' : World) : Prop := ∃ s : Sl Int, e = .returned s.val /\ (InI w' s /\ New w s) /\ LimInv es hs ws s.xs nn /\ Bl w w'
set_option maxHeartbeats 4000000 in
theorem f120_core (A A2 HA WA : Option Addr) (c c2 hc wc : Nat) (xs : List Nd) (ls : List Lk) (hs ws : List Int) (es : List (Int × Int)) (w : World)
 (hH : InI w ⟨HA, hc, hs⟩) (hW : InI w ⟨WA, wc, ws⟩) (hx : xs.length ≤ 300) (hl : ls.length ≤ 400) (hlw : ws.length = ls.length) (hlh : hs.length = xs.length)
 (hhb : ∀ i, i < hs.length -> 0 ≤ hs[i]! /\ hs[i]! ≤ 9007199254740992) (hwb : ∀ k, k < ws.length -> 0 ≤ ws[k]! /\ ws[k]! ≤ 1125899906842624)
 (T121 : ∀ W, Bl w W -> Calls Tryz.prog 121 #[.agg #[.slice A xs.length c, .slice A2 ls.length c2]] W fun e w' => ∃ (G : Sl (Sl Int)) (E : Sl (Int × Int)), e = .returned (.tuple #[G.val, E.val]) /\ (InG w' G /\ New W G /\ ∀ i (h : i < G.xs.length), New W G.xs[i]) /\ G.xs.length = xs.length /\ (∀ i (h : i < G.xs.length), G.xs[i].xs = outsE es i ls.length) /\ Bl W w') :
 Calls Tryz.prog 120 #[.agg #[.slice A xs.length c, .slice A2 ls.length c2], .slice HA hs.length hc, .slice WA ws.length wc] w (RLim es xs.length hs ws w) := by
 have T109 := HD (fun W (hb : Bl w W) => f109_c ⟨WA, wc, ws⟩ W (InI.up hW hb) (by simp only; omega))
 have T121h := HD T121
 have hHh := HD hH
 have hWh := HD hW
 have hhbh := HD hhb
 have hwbh := HD hwb
 have hlwh := HD hlw
 have hlhh := HD hlh
 clear hH hW hhb hwb hlw hlh T121
 obtain ⟨R, hR⟩ : ∃ R, R = RLim es xs.length hs ws w := ⟨_, rfl⟩
 rw [<- hR]
 have hRh := HD hR
 clear hR
 go_enter Tryz.func120, Tryz.ntmps120
 go_wp2_with fail
 refine (T109.out _ bz).mono ?_
 rintro e w1 ⟨⟨OA, oc, ox⟩, he, hox, hO, hw1⟩
 obtain rfl : e = .returned (.slice OA ox.length oc) := he
 simp only at hox
 subst hox
 have hB1 : Bl w w1 := bz
 have hz1 : w.heap.size < w1.heap.size := by have := hw1.size; simp at this; omega
 have b0 : w1.cell? ⟨w.heap.size, 0, none⟩ = some (.slice A xs.length c) := hw1.keep (by simp [go_sem])
 have b1 : w1.cell? ⟨w.heap.size, 1, none⟩ = some (.slice A2 ls.length c2) := hw1.keep (by simp [go_sem])
 obtain ⟨g0, hg0a, hg0b, hg0c⟩ : ∃ g0, w.heap.size ≤ g0 /\ g0 < w1.heap.size /\ (ox ≠ [] -> OA = some ⟨g0, 0, none⟩) := by
  by_cases h : ox = []
  ·exact ⟨w.heap.size, Nat.le_refl _, hz1, fun h' => absurd h h'⟩
  ·obtain ⟨g, h1, h2, h3⟩ := hO.ptr h
   simp at h2
   exact ⟨g, by omega, h3, fun _ => h1⟩
 have hOh := HD (show Own1 IV 3 w.heap.size w1 ⟨OA, oc, ox⟩ from Own1.mono hO (by simp))
 have hg0ch := HD hg0c
 clear T109 hO hw1 hg0c
 go_wp2_with fail
 refine (T121h.out _ hB1).mono ?_
 rintro e w2 ⟨⟨GA, gc, gx⟩, E, he, ⟨hG, hGn, hGr⟩, hGl, hGx, hw2⟩
 obtain rfl : e = .returned (.tuple #[.slice GA gx.length gc, E.val]) := he
 simp only at hGl
 have hGh := HD hG
 have hGN : Hid (∀ g, (⟨GA, gc, gx⟩ : Sl (Sl Int)).val.ownBlock = some g -> g ∉ [g0]) := fun g hg => by have := hGn g hg; simp; omega
 have hGR : Hid (∀ i (h : i < gx.length) g, gx[i].val.ownBlock = some g -> g ∉ [g0]) := fun i h g hg => by have := hGr i h g hg; simp; omega
 have hGxh := HD hGx
 have hGlh := HD hGl
 have hB2 : Bl w w2 := hB1.trans hw2
 have hO2 := HD (hOh.out.bl hw2)
 have hgr := hG.room
 have hz2 : g0 < w2.heap.size := by have := hw2.size; omega
 simp only at hgr
 clear hG hGn hGr hGx hGl hw2 hB1 hOh T121h b0 b1 hz1
 go_wp2_with fail
 go_loopg [29] gx.length (fun gg s29 wr => ∃ (kk : Nat) (q : List Int), kk ≤ gx.length /\ gx.length - kk ≤ gg /\ s29 = .int .i64 kk /\ Aside (Bl w wr) /\ Aside (But [g0] w2 wr) /\ Aside (Own1 IV 3 w.heap.size wr ⟨OA, oc, q⟩) /\ Aside (LimInv es hs ox q kk))
 case atStart => exact ⟨0, ox, Nat.zero_le _, by omega, rfl, hB2, But.refl _ _, hO2.out, ⟨rfl, fun k hk => (hwbh.out k hk).1, fun i hi => by omega, fun _ _ _ => rfl⟩⟩
 case round =>
  clear hB2 hO2
  obtain ⟨kk, q, hkk, hg, rfl, BW, BU, OW, LI⟩ := hrel
  have BW' := BW.out
  by_cases hlt : kk < gx.length
  ·have hltz : (kk : Int) < (gx.length : Int) := by omega
   have hkz : (0 : Int) ≤ (kk : Int) := by omega
   have hGw := InG.but hGh.out BU.out hGN.out hGR.out
   obtain ⟨bG, offG, hA, _, _, hcG⟩ := hGw.place (by intro e; simp only at e; rw [e] at hlt; simp at hlt)
   simp only at hA hcG
   subst hA
   have eG := hcG kk hlt 0 _ rfl
   have hrow := (fun W (hb : But [g0] w2 W) => (InG.but hGh.out hb hGN.out hGR.out).each gx[kk] (List.getElem_mem _))
   have hrx := hGxh.out kk hlt
   have hnd := HD (show (gx[kk].xs).Nodup by rw [hrx]; exact outsE_nodup _)
   have hrl := outsE_len (es := es) (i := kk) ls.length
   rw [<- hrx] at hrl
   have hmem : Hid (∀ y ∈ gx[kk].xs, ∃ k : Nat, k < ox.length /\ y = (k : Int)) := fun y hy => by
    rw [hrx] at hy
    obtain ⟨k, h1, h2, _⟩ := outsE_mem hy
    exact ⟨k, by have := hlwh.out; omega, h2⟩
   have hrxh := HD (show gx[kk].xs = outsE es kk ox.length by rw [hrx, hlwh.out])
   clear hrx hcG
   generalize gx[kk] = row at eG hrow hnd hrl hmem hrxh
   obtain ⟨RA, rc, rx⟩ := row
   try simp only at hrl
   try simp only at hnd
   try simp only at hmem
   try simp only at hrxh
   have eR : wr.cell? ⟨bG, offG + kk, none⟩ = some (.slice RA rx.length rc) := by rwa [Nat.mul_one] at eG
   have hrowh := HD hrow
   clear eG hrow hGw
   have hkh : kk < hs.length := by have := hlhh.out; have := hGlh.out; omega
   have hkhz : (kk : Int) < (hs.length : Int) := by omega
   obtain ⟨bH, offH, hAH, _, _, _⟩ := hHh.out.place (by intro e; simp only at e; rw [e] at hkh; simp at hkh)
   simp only at hAH
   subst hAH
   have hcH := HD (fun W (hb : Bl w W) => Sl.Ok.cells hHh.out rfl W hb kk hkh 0 _ rfl)
   have hb1 := hhbh.out kk hkh
   obtain ⟨H, hHH⟩ : ∃ H : Nat, hs[kk]! = (H : Int) := ⟨hs[kk]!.toNat, by omega⟩
   have hHb : H ≤ 9007199254740992 := by omega
   have eHw : Hid (∀ W, Bl w W -> W.cell? ⟨bH, offH + kk, none⟩ = some (.int .i64 H)) := fun W hb => by
    have h1 := hcH.out W hb
    simp only at h1
    rw [<- getElem!_pos hs kk hkh, hHH, Nat.mul_one] at h1
    exact h1
   have hHHh := HD hHH
   clear hb1 hHH hcH
   have hw1 : Hid (∀ j (hj : j < rx.length), ∃ k : Nat, k < ox.length /\ rx[j] = (k : Int) /\ smN ox rx (j + 1) = smN ox rx j + (ox[k]!).toNat /\ ox[k]! = ((ox[k]!).toNat : Int) /\ (ox[k]!).toNat ≤ 1125899906842624) := fun j hj => by
    obtain ⟨k, hk, he⟩ := hmem.out rx[j] (List.getElem_mem _)
    have h2 : rx[j]! = rx[j] := getElem!_pos rx j hj
    have h3 := hwbh.out k hk
    exact ⟨k, hk, he, by simp only [smN, h2, he, Int.toNat_natCast], by omega, by omega⟩
   have hsb := HD (fun j (hj : j ≤ rx.length) => smN_bound (ws := ox) (rx := rx) (fun x hx => by obtain ⟨k, hk, he⟩ := hmem.out x hx; rw [he, Int.toNat_natCast]; exact (hwbh.out k hk).2) j hj)
   have hsmeq := HD (fun j (hj : j ≤ rx.length) => smN_eq (ws := ox) (rx := rx) (fun x hx => by obtain ⟨k, hk, he⟩ := hmem.out x hx; rw [he, Int.toNat_natCast]; exact (hwbh.out k hk).1) j hj)
   have hmono := HD (fun j (hj : j ≤ rx.length) => show smN ox rx j ≤ smN ox rx rx.length from by have := smN_mono (ws := ox) (rx := rx) j (rx.length - j); rwa [show j + (rx.length - j) = rx.length by omega] at this)
   have hs0 : Hid (smN ox rx 0 = 0) := rfl
   generalize hsm : smN ox rx = sm at hw1 hsb hsmeq hmono hs0
   clear hsm
   go_wp2_with fail
   obtain ⟨wq, rfl⟩ : ∃ wq : World, wq = wr := ⟨_, rfl⟩
   have hqS := HD (hsmeq.out rx.length (Nat.le_refl _))
   rw [List.take_length] at hqS
   have hSb := hsb.out rx.length (Nat.le_refl _)
   have hrl4 : rx.length ≤ 400 := by omega
   go_loopg [12, 36] rx.length (fun gg s12 s36 wr => ∃ (j : Nat), j ≤ rx.length /\ rx.length - j ≤ gg /\ s36 = .int .i64 j /\ s12 = .int .i64 (sm j) /\ Aside (wr = wq))
   case atStart => exact ⟨0, Nat.zero_le _, by omega, rfl, by rw [hs0.out]; rfl, rfl⟩
   case round =>
    obtain ⟨j, hj, hgj, rfl, rfl, hwr⟩ := hrel
    have hwr' := hwr.out
    subst hwr'
    clear hwr
    by_cases hlj : j < rx.length
    ·have hljz : (j : Int) < (rx.length : Int) := by omega
     have hjz : (0 : Int) ≤ (j : Int) := by omega
     obtain ⟨k, hk, hrk, hst, hox, hub⟩ := hw1.out j hlj
     obtain ⟨bR, offR, hAR, _, _, hcR⟩ := (hrowh.out _ BU.out).place (by intro e; simp only at e; rw [e] at hlj; simp at hlj)
     simp only at hAR hcR
     subst hAR
     have eR1 : wr.cell? ⟨bR, offR + j, none⟩ = some (.int .i64 k) := by
      have := hcR j hlj 0 _ rfl
      rw [Nat.mul_one] at this
      rw [<- hrk]; exact this
     obtain ⟨bW, offW, hAW, _, _, _⟩ := hWh.out.place (by intro e; simp only at e; rw [e] at hk; simp at hk)
     simp only at hAW
     subst hAW
     have hkz : (k : Int) < (ox.length : Int) := by omega
     have hk0 : (0 : Int) ≤ (k : Int) := by omega
     have eW1 : wr.cell? ⟨bW, offW + k, none⟩ = some (.int .i64 ((ox[k]!).toNat : Int)) := by
      have := Sl.Ok.cells hWh.out rfl wr BW' k hk 0 _ rfl
      simp only at this
      rw [<- getElem!_pos ox k hk, Nat.mul_one] at this
      rw [<- hox]; exact this
     generalize (ox[k]!).toNat = u at hst hub eW1
     have hsj := hsb.out j hj
     have hwp : IntKind.i64.wrap (((sm j : Nat) : Int) + (u : Int)) = ((sm (j + 1) : Nat) : Int) := by rw [hst]; push_cast; exact IntWalk.i64_in _ (by omega)
     clear hcR hox hrk hst hsj
     go_wp2_with fail
     go_roundg (rx.length - (j + 1))
     case measure => omega
     case rel => exact ⟨j + 1, by omega, by omega, by go_num, rfl, rfl⟩
    ·have hljz : ¬ (j : Int) < (rx.length : Int) := by omega
     have hjl : j = rx.length := by omega
     subst hjl
     have eH := eHw.out wr BW'
     obtain ⟨S, hS⟩ : ∃ S, S = sm rx.length := ⟨_, rfl⟩
     rw [<- hS] at hqS hSb
     have hSh := HD hS
     by_cases hle : S ≤ H
     ·have hlez : ((S : Nat) : Int) ≤ ((H : Nat) : Int) := by omega
      have hLI := HD (LI.out.skip (by rw [<- hrxh.out, <- hqS.out, hHHh.out]; exact hlez))
      have hle2 : sm rx.length ≤ H := by omega
      clear hS
      go_wp2_with fail
      go_roundg (gx.length - (kk + 1))
      case measure => omega
      case rel => exact ⟨kk + 1, q, by omega, by omega, by go_num, BW', BU.out, OW.out, hLI.out⟩
     ·have hlez : ¬ ((sm rx.length : Nat) : Int) ≤ ((H : Nat) : Int) := by omega
      have hle2 : ¬ sm rx.length ≤ H := by omega
      have T160 := HD (fun W b (hb : b ≤ S) => show Calls Tryz.prog 160 #[.int .i64 H, .int .i64 b, .int .i64 S] W fun e w' => e = .returned (.int .i64 (shareN H S b)) /\ Bl W w' from f160_c H b S W hHb (by omega) hb (by omega))
      have hS0 : 0 < S := by omega
      have hD0 : Hid (shareN H S (sm 0) = 0) := by rw [hs0.out]; unfold shareN; rw [Nat.mul_zero, Nat.zero_div]; rfl
      have hSS := HD (fun j (hj : j ≤ rx.length) => show sm j ≤ S from by rw [hS]; exact hmono.out j hj)
      have hShr := HD (fun j (hj : j < rx.length) => show 0 ≤ shareN H S (sm j) /\ shareN H S (sm j) ≤ shareN H S (sm (j + 1)) /\ shareN H S (sm (j + 1)) ≤ 9007199254740992 from by
       have h1 : sm j ≤ sm (j + 1) := by obtain ⟨k, _, _, h, _⟩ := hw1.out j hj; omega
       have h2 := share_mono (H := H) (S := S) h1
       have h3 := share_le (H := H) (S := S) (hSS.out (j + 1) (by omega)) hS0
       have h4 : 0 ≤ shareN H S (sm j) := by unfold shareN; exact Int.natCast_nonneg _
       omega)
      have hnn := HD LI.out
      clear LI hSb
      go_wp2_with fail
      rw [<- hS]
      clear hS
      go_loopg [15, 16, 55] rx.length (fun gg s15 s16 s55 wr' => ∃ (j : Nat) (q2 : List Int), j ≤ rx.length /\ rx.length - j ≤ gg /\ s55 = .int .i64 j /\ s15 = .int .i64 (sm j) /\ s16 = .int .i64 (shareN H S (sm j)) /\ Aside (Bl w wr') /\ Aside (But [g0] w2 wr') /\ Aside (Own1 IV 3 w.heap.size wr' ⟨OA, oc, q2⟩) /\ Aside (q2.length = ox.length) /\ Aside (∀ k : Nat, k < q2.length -> ((k : Int) ∉ rx.take j -> q2[k]! = q[k]!) /\ 0 ≤ q2[k]!) /\ Aside (sumAt q2 (rx.take j) = shareN H S (sm j)))
      case atStart => exact ⟨0, q, Nat.zero_le _, by omega, rfl, by rw [hs0.out]; rfl, by rw [hD0.out], BW', BU.out, OW.out, hnn.out.1, aside (fun k hk => ⟨fun _ => rfl, hnn.out.2.1 k (by have := hnn.out.1; omega)⟩), aside (by rw [hD0.out]; rfl)⟩
      case round =>
       clear BW' BU OW
       obtain ⟨j, q2, hj, hgj, rfl, rfl, rfl, BW2, BU2, OW2, QL, QP, QS⟩ := hrel
       have BW2' := BW2.out
       by_cases hlj : j < rx.length
       ·have hljz : (j : Int) < (rx.length : Int) := by omega
        have hjz : (0 : Int) ≤ (j : Int) := by omega
        obtain ⟨k, hk, hrk, hst, hox, hub⟩ := hw1.out j hlj
        obtain ⟨bR, offR, hAR, _, _, hcR⟩ := (hrowh.out _ BU2.out).place (by intro e; simp only at e; rw [e] at hlj; simp at hlj)
        simp only at hAR hcR
        subst hAR
        have eR1 : wr.cell? ⟨bR, offR + j, none⟩ = some (.int .i64 k) := by
         have := hcR j hlj 0 _ rfl
         rw [Nat.mul_one] at this
         rw [<- hrk]; exact this
        obtain ⟨bW, offW, hAW, _, _, _⟩ := hWh.out.place (by intro e; simp only at e; rw [e] at hk; simp at hk)
        simp only at hAW
        subst hAW
        have hkz : (k : Int) < (ox.length : Int) := by omega
        have hk0 : (0 : Int) ≤ (k : Int) := by omega
        have eW1 : wr.cell? ⟨bW, offW + k, none⟩ = some (.int .i64 ((ox[k]!).toNat : Int)) := by
         have := Sl.Ok.cells hWh.out rfl wr BW2' k hk 0 _ rfl
         simp only at this
         rw [<- getElem!_pos ox k hk, Nat.mul_one] at this
         rw [<- hox]; exact this
        have eH := eHw.out wr BW2'
        have hOA := hg0ch.out (by intro e; rw [e] at hk; simp at hk)
        subst hOA
        have hk2 : k < q2.length := by have := QL.out; omega
        have hv0 := OW2.out.cell k hk2
        have hfr := OW2.out.fro k
        generalize q2[k] = v0 at hv0
        have eO : wr.cell? ⟨g0, k, none⟩ = some (.int .i64 v0) := hv0
        have hshr := hShr.out j hlj
        have hRS := HD (row_step (q := q) (q2 := q2) (rx := rx) (j := j) (x := shareN H S (sm (j + 1)) - shareN H S (sm j)) hlj hnd.out (fun y hy => by obtain ⟨k', h1, h2⟩ := hmem.out y hy; exact ⟨k', by have := QL.out; omega, h2⟩) (by omega) QP.out QS.out)
        rw [hrk, Int.toNat_natCast] at hRS
        have hT := HD (hSS.out (j + 1) (by omega))
        have hsj := hsb.out j hj
        generalize (ox[k]!).toNat = u at hst hub eW1
        have hwp : IntKind.i64.wrap (((sm j : Nat) : Int) + (u : Int)) = ((sm (j + 1) : Nat) : Int) := by rw [hst]; push_cast; exact IntWalk.i64_in _ (by omega)
        have hwd : IntKind.i64.wrap (shareN H S (sm (j + 1)) - shareN H S (sm j)) = shareN H S (sm (j + 1)) - shareN H S (sm j) := IntWalk.i64_in _ (by omega)
        have hL8 := HD (show (q2.set k (shareN H S (sm (j + 1)) - shareN H S (sm j))).length = ox.length by rw [List.length_set]; exact QL.out)
        have hP8 := HD (show ∀ k' : Nat, k' < (q2.set k (shareN H S (sm (j + 1)) - shareN H S (sm j))).length -> ((k' : Int) ∉ rx.take (j + 1) -> (q2.set k (shareN H S (sm (j + 1)) - shareN H S (sm j)))[k']! = q[k']!) /\ 0 ≤ (q2.set k (shareN H S (sm (j + 1)) - shareN H S (sm j)))[k']! from fun k' hk' => hRS.out.1 k' (by simpa using hk'))
        have hS8 := HD (show sumAt (q2.set k (shareN H S (sm (j + 1)) - shareN H S (sm j))) (rx.take (j + 1)) = shareN H S (sm (j + 1)) by rw [hRS.out.2]; omega)
        clear hcR hox hrk hst hsj hv0 hshr hRS QL QP QS
        go_wp2_with fail
        refine (T160.out _ _ hT.out).mono ?_
        rintro e w5 ⟨rfl, hw5⟩
        have eO5 := hw5.keep eO
        have hf5 := hw5.keepF eO hfr
        have zO5 : g0 < w5.heap.size := by have := cell_lt eO5; simpa using this
        obtain ⟨hchw5, hfhw5, hzhw5⟩ := Bl.rules hw5; (try simp only [aZ, cZ, dZ, nZ] at hzhw5)
        have hB8 : Bl w (w5.setCell ⟨g0, k, none⟩ (.int .i64 (shareN H S (sm (j + 1)) - shareN H S (sm j)))) := Bl.setCell (BW2'.trans hw5) (by simp only; omega) _
        have hU8 := HD ((BU2.out.trans (But.of hw5)).set ⟨g0, k, none⟩ (.int .i64 (shareN H S (sm (j + 1)) - shareN H S (sm j))) (.inl (by simp)))
        have hO8 := HD (show Own1 IV 3 w.heap.size (w5.setCell ⟨g0, k, none⟩ (.int .i64 (shareN H S (sm (j + 1)) - shareN H S (sm j)))) ⟨some ⟨g0, 0, none⟩, oc, q2.set k (shareN H S (sm (j + 1)) - shareN H S (sm j))⟩ from (OW2.out.bl hw5).set k _)
        go_wp2_with fail
        go_roundg (rx.length - (j + 1))
        case measure => omega
        case rel => exact ⟨j + 1, _, by omega, by omega, by go_num, rfl, rfl, hB8, hU8.out, hO8.out, hL8.out, hP8.out, hS8.out⟩
       ·have hljz : ¬ (j : Int) < (rx.length : Int) := by omega
        have hjl : j = rx.length := by omega
        have hLI := HD (show LimInv es hs ox q2 (kk + 1) from LimInv.cut hnn.out QL.out (fun k hk => by
         have := QP.out k hk
         rw [hjl, List.take_length, hrxh.out] at this
         exact this) (by
         have := QS.out
         rw [hjl, List.take_length, hrxh.out] at this
         rw [this, hHHh.out]
         exact share_le (hSS.out _ (Nat.le_of_eq (by rw [hrxh.out]))) hS0))
        go_wp2_with fail
        go_roundg (gx.length - (kk + 1))
        case measure => omega
        case rel => exact ⟨kk + 1, q2, by omega, by omega, by go_num, BW2', BU2.out, OW2.out, hLI.out⟩
  ·have hltz : ¬ (kk : Int) < (gx.length : Int) := by omega
   have hkk' : kk = xs.length := by have := hGlh.out; omega
   have hlen := LI.out.1
   have hfin := HD (show RLim es xs.length hs ox w (.returned (.slice OA q.length oc)) wr from ⟨⟨OA, oc, q⟩, rfl, ⟨Own1.ok OW.out (by have := hlwh.out; simp only; omega) (fun _ _ => trivial), fun g hg => (OW.out.lt g hg).1⟩, hkk' ▸ LI.out, BW'⟩)
   go_wp2_with fail
   rw [hRh.out, <- hlen]
   exact hfin.out
theorem f120_c (n : Net) (h ws : Sl Int) (w : World) (hs : InNet w n) (hb : netB n = true) (hH : InI w h) (hW : InI w ws) (hlw : ws.xs.length = n.links.xs.length) (hlh : h.xs.length = n.nodes.xs.length)
 (hhb : ∀ i, i < h.xs.length -> 0 ≤ h.xs[i]! /\ h.xs[i]! ≤ 9007199254740992) (hwb : ∀ k, k < ws.xs.length -> 0 ≤ ws.xs[k]! /\ ws.xs[k]! ≤ 1125899906842624) : Calls Tryz.prog 120 #[n.val, h.val, ws.val] w (RLim (edgesN n) n.nodes.xs.length h.xs ws.xs w) := by
 have hn := (netB_iff n).mp hb
 have T := fun W (hw : Bl w W) => f121_c n W (InNet.up hs hw) hb
 obtain ⟨⟨A, c, xs⟩, ⟨A2, c2, ls⟩⟩ := n
 obtain ⟨HA, hc, hs'⟩ := h
 obtain ⟨WA, wc, ws⟩ := ws
 refine f120_core A A2 HA WA c c2 hc wc xs ls hs' ws (edgesN ⟨⟨A, c, xs⟩, ⟨A2, c2, ls⟩⟩) w hH hW hn.1 hn.2.1 hlw hlh hhb hwb (fun W hw => (T W hw).mono ?_)
 rintro e w' ⟨G, E, rfl, h1, _, h3, h4, _, h6⟩
 exact ⟨G, E, rfl, h1, h3, h4, h6⟩
end Go.Proofs.YtnnhnkpoekbahaaGreat
