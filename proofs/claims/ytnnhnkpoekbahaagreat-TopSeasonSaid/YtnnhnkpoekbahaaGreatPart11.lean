/- TopSeason: part 12 of 16: Bal2 Sm1 Sm2 Clo0 -/
import Derived.Test.YtnnhnkpoekbahaaGreatPart10
import Derived.Test.YtnnhnkpoekbahaaGreatPart05
import Derived.Test.YtnnhnkpoekbahaaGreatPart09
namespace Go.Proofs.YtnnhnkpoekbahaaGreat
open Go.RowKit
set_option maxHeartbeats 400000
set_option linter.unusedSimpArgs false
set_option linter.unusedVariables false
set_option maxRecDepth 100000
theorem Sl.InI_at {w : World} {A : Option Addr} {c : Nat} {xs : List Int} (h : InI w ⟨A, c, xs⟩) (hne : 0 < xs.length) : ∃ b off, A = some ⟨b, off, none⟩ /\ ∀ W, Bl w W -> ∀ k, k < xs.length -> W.cell? ⟨b, off + k, none⟩ = some (.int .i64 (xs[k]!)) := by
 obtain ⟨b, off, hA, _, _, _⟩ := h.place (by intro e; simp only at e; rw [e] at hne; simp at hne)
 simp only at hA
 subst hA
 refine ⟨b, off, rfl, fun W hb k hk => ?_⟩
 have := Sl.Ok.cells h rfl W hb k hk 0 _ rfl
 simp only at this
 rw [getElem!_pos xs k hk]
 rwa [Nat.mul_one] at this
theorem Sl.InB_at {w : World} {A : Option Addr} {c : Nat} {xs : List Bool} (h : InB w ⟨A, c, xs⟩) (hne : 0 < xs.length) : ∃ b off, A = some ⟨b, off, none⟩ /\ ∀ W, Bl w W -> ∀ k, k < xs.length -> W.cell? ⟨b, off + k, none⟩ = some (.bool (xs[k]!)) := by
 obtain ⟨b, off, hA, _, _, _⟩ := h.place (by intro e; simp only at e; rw [e] at hne; simp at hne)
 simp only at hA
 subst hA
 refine ⟨b, off, rfl, fun W hb k hk => ?_⟩
 have := Sl.Ok.cells h rfl W hb k hk 0 _ rfl
 simp only at this
 rw [getElem!_pos xs k hk]
 rwa [Nat.mul_one] at this
noncomputable def ixF (n : Net) (k : Nat) : ByteArray -> Option Value := fun a => if 0 ≤ ndIx n a /\ ndIx n a < (k : Int) then some (.int .i64 (ndIx n a)) else none
theorem ixF_zero (n : Net) : ixF n 0 = fun _ => none := by
 funext a
 unfold ixF
 rw [if_neg (by omega)]
theorem ixF_step {n : Net} (h : netB n = true) {k : Nat} (hk : k < n.nodes.xs.length) : upd (ixF n k) n.nodes.xs[k].name (.int .i64 k) = ixF n (k + 1) := by
 funext a
 by_cases ha : a = n.nodes.xs[k].name
 ·have e := (ndIx_iff h hk a).mpr ha.symm
  rw [ha, upd_same, <- ha]
  unfold ixF
  rw [e, if_pos (by omega)]
 ·have e : ¬ ndIx n a = (k : Int) := fun e => ha ((ndIx_iff h hk a).mp e).symm
  rw [upd_ne _ _ _ ha]
  unfold ixF
  by_cases h1 : 0 ≤ ndIx n a /\ ndIx n a < (k : Int)
  ·rw [if_pos h1, if_pos (by omega)]
  ·rw [if_neg h1, if_neg (by omega)]
theorem ixF_src {n : Net} (h : netB n = true) {k : Nat} (hk : k < n.links.xs.length) : ixF n n.nodes.xs.length n.links.xs[k].src = some (.int .i64 (edA n k)) /\ ixF n n.nodes.xs.length n.links.xs[k].dst = some (.int .i64 (edD n k)) := by
 obtain ⟨h1, h2, h3, h4, _⟩ := edges_at h hk
 have e : (edgesN n)[k]! = (ndIx n n.links.xs[k].src, ndIx n n.links.xs[k].dst) := by
  rw [getElem!_pos _ k (by simpa [edgesN] using hk)]
  simp [edgesN]
 rw [e] at h1 h2
 simp only at h1 h2
 unfold ixF
 rw [h1, h2, if_pos (by omega), if_pos (by omega)]
 exact ⟨rfl, rfl⟩
theorem sumTo_abs {f : Nat -> Int} {m : Int} : ∀ (k : Nat), (∀ i, i < k -> -m ≤ f i /\ f i ≤ m) -> -((k : Int) * m) ≤ sumTo f k /\ sumTo f k ≤ (k : Int) * m
 | 0, _ => by simp [sumTo]
 | k + 1, h => by
  have h1 := sumTo_abs k (fun i hi => h i (by omega))
  have h2 := h k (by omega)
  have h3 : ((k + 1 : Nat) : Int) * m = (k : Int) * m + m := by rw [Int.natCast_add, Int.add_mul]; simp
  simp only [sumTo]
  omega
def tN (bs : List Bool) (vs ps is vs' ps' : List Int) (i : Nat) : Int := if bs[i]! = true then vs[i]! + ps[i]! + is[i]! - vs'[i]! - ps'[i]! else 0
def lN (xs : List Nd) (bs : List Bool) (is : List Int) (i : Nat) : Int := if bs[i]! = true then (if kd xs i = 3 then is[i]! else 0) else 0
def tE (n : Net) (bs : List Bool) (qs : List Int) (k : Nat) : Int := crossE (fun i => bs[i]!) (edA n k) (edD n k) (qs[k]!)
def lE (n : Net) (bs : List Bool) (qs : List Int) (k : Nat) : Int := if bs[edD n k]! = true then (if kd n.nodes.xs (edD n k) = 3 then qs[k]! else 0) else 0
def lostA (n : Net) (bs : List Bool) (is qs : List Int) : Int := sumTo (lN n.nodes.xs bs is) n.nodes.xs.length + sumTo (lE n bs qs) n.links.xs.length
def restA (n : Net) (bs : List Bool) (vs ps is vs' ps' qs : List Int) : Int := sumTo (tN bs vs ps is vs' ps') n.nodes.xs.length + sumTo (tE n bs qs) n.links.xs.length - lostA n bs is qs
def bdI (m : Nat) (l : List Int) : Prop := l.length = m /\ ∀ i, i < m -> 0 ≤ l[i]! /\ l[i]! ≤ 1125899906842624
theorem ret58 (R : Ending -> World -> Prop) (tmps : Array Value) (b : Nat) (v0 v1 : Value) (X : World) (t12 : tmps[12]? = some (.pointer (some ⟨b, 0, none⟩))) (c0 : X.cell? ⟨b, 0, none⟩ = some v0) (c1 : X.cell? ⟨b, 1, none⟩ = some v1) (h : R (.returned (.agg #[v0, v1])) X) : bodyPost Tryz.prog Tryz.f58 R Exit.ret { tmps := tmps, defers := [] } X := by
 exact bodyPost_ret (v := .agg #[v0, v1]) (by simp [results, Tryz.results58, go_sem, t12, c0, c1]; try exact ⟨rfl, rfl⟩) rfl h
set_option maxHeartbeats 8000000 in
theorem f58_core (A A2 BA VA PA VA' PA' IA QA : Option Addr) (c c2 bc vc pc vc' pc' ic qc : Nat) (xs : List Nd) (ls : List Lk) (bs : List Bool) (vs ps is vs' ps' qs : List Int) (ss ss' : Sl Int) (so so' : Sl Bool) (w : World)
 (hN : InNet w ⟨⟨A, c, xs⟩, ⟨A2, c2, ls⟩⟩) (hb : netB ⟨⟨A, c, xs⟩, ⟨A2, c2, ls⟩⟩ = true) (hB : InB w ⟨BA, bc, bs⟩) (hV : InI w ⟨VA, vc, vs⟩) (hP : InI w ⟨PA, pc, ps⟩) (hV' : InI w ⟨VA', vc', vs'⟩) (hP' : InI w ⟨PA', pc', ps'⟩) (hI : InI w ⟨IA, ic, is⟩) (hQ : InI w ⟨QA, qc, qs⟩)
 (lb : bs.length = xs.length) (lv : bdI xs.length vs) (lp : bdI xs.length ps) (lv' : bdI xs.length vs') (lp' : bdI xs.length ps') (li : bdI xs.length is) (lq : qs.length = ls.length) (bq : ∀ k, k < ls.length -> 0 ≤ qs[k]! /\ qs[k]! ≤ 9007199254740992) :
 Calls Tryz.prog 58 #[.agg #[.slice A xs.length c, .slice A2 ls.length c2], .slice BA bs.length bc, .agg #[.slice VA vs.length vc, .slice PA ps.length pc, ss.val, so.val], .agg #[.slice VA' vs'.length vc', .slice PA' ps'.length pc', ss'.val, so'.val], .slice IA is.length ic, .slice QA qs.length qc] w
  fun e w' => e = .returned (.agg #[.int .i64 (restA ⟨⟨A, c, xs⟩, ⟨A2, c2, ls⟩⟩ bs vs ps is vs' ps' qs), .int .i64 (lostA ⟨⟨A, c, xs⟩, ⟨A2, c2, ls⟩⟩ bs is qs)]) /\ Bl w w' := by
 have hNh := HD hN
 have hbh := HD hb
 have hBh := HD hB
 have hVh := HD hV
 have hPh := HD hP
 have hVh' := HD hV'
 have hPh' := HD hP'
 have hIh := HD hI
 have hQh := HD hQ
 have hlen := HD (show xs.length ≤ 300 /\ ls.length ≤ 400 from ⟨((netB_iff _).mp hb).1, ((netB_iff _).mp hb).2.1⟩)
 have lbh := HD lb
 have lvh := HD lv
 have lph := HD lp
 have lvh' := HD lv'
 have lph' := HD lp'
 have lih := HD li
 have lqh := HD lq
 have bqh := HD bq
 obtain ⟨TN, hTN⟩ : ∃ f, f = tN bs vs ps is vs' ps' := ⟨_, rfl⟩
 obtain ⟨LN, hLN⟩ : ∃ f, f = lN xs bs is := ⟨_, rfl⟩
 obtain ⟨TE, hTE⟩ : ∃ f, f = tE ⟨⟨A, c, xs⟩, ⟨A2, c2, ls⟩⟩ bs qs := ⟨_, rfl⟩
 obtain ⟨LE, hLE⟩ : ∃ f, f = lE ⟨⟨A, c, xs⟩, ⟨A2, c2, ls⟩⟩ bs qs := ⟨_, rfl⟩
 have hR := HD (show restA ⟨⟨A, c, xs⟩, ⟨A2, c2, ls⟩⟩ bs vs ps is vs' ps' qs = sumTo TN xs.length + sumTo TE ls.length - (sumTo LN xs.length + sumTo LE ls.length) /\ lostA ⟨⟨A, c, xs⟩, ⟨A2, c2, ls⟩⟩ bs is qs = sumTo LN xs.length + sumTo LE ls.length from by subst hTN hLN hTE hLE; exact ⟨rfl, rfl⟩)
 have bTN : Hid (∀ i, i < xs.length -> -3377699720527872 ≤ TN i /\ TN i ≤ 3377699720527872) := fun i hi => by
  have h1 := lv.2 i hi
  have h2 := lp.2 i hi
  have h3 := lv'.2 i hi
  have h4 := lp'.2 i hi
  have h5 := li.2 i hi
  subst hTN
  unfold tN
  split <;> omega
 have bLN : Hid (∀ i, i < xs.length -> 0 ≤ LN i /\ LN i ≤ 1125899906842624) := fun i hi => by
  have h5 := li.2 i hi
  subst hLN
  unfold lN
  split
  ·split <;> omega
  ·omega
 have bTE : Hid (∀ k, k < ls.length -> -9007199254740992 ≤ TE k /\ TE k ≤ 9007199254740992) := fun k hk => by
  have h5 := bq k hk
  subst hTE
  unfold tE crossE
  split
  ·omega
  ·split <;> omega
 have bLE : Hid (∀ k, k < ls.length -> 0 ≤ LE k /\ LE k ≤ 9007199254740992) := fun k hk => by
  have h5 := bq k hk
  subst hLE
  unfold lE
  split
  ·split <;> omega
  ·omega
 have hTNh := HD hTN
 have hLNh := HD hLN
 have hTEh := HD hTE
 have hLEh := HD hLE
 generalize restA ⟨⟨A, c, xs⟩, ⟨A2, c2, ls⟩⟩ bs vs ps is vs' ps' qs = RA at hR ⊢
 generalize lostA ⟨⟨A, c, xs⟩, ⟨A2, c2, ls⟩⟩ bs is qs = LA at hR ⊢
 have hmm := @run_makeMap Tryz.prog
 have hU := HD (And.intro u172 u9)
 clear hN hb hB hV hP hV' hP' hI hQ lb lv lp lv' lp' li lq bq hTN hLN hTE hLE
 go_enter Tryz.func58, Tryz.ntmps58
 go_wp2_with fail
 go_loopg [25] xs.length (fun gg s25 wr => ∃ (kk : Nat), kk ≤ xs.length /\ xs.length - kk ≤ gg /\ s25 = .int .i64 kk /\ Aside (Bl w wr) /\ Aside (w.heap.size + 5 < wr.heap.size) /\ Aside (wr.cell? ⟨w.heap.size, 0, none⟩ = some (.slice A xs.length c)) /\ Aside (wr.cell? ⟨w.heap.size, 1, none⟩ = some (.slice A2 ls.length c2)) /\ Aside (wr.cell? ⟨w.heap.size + 1, 0, none⟩ = some (.slice VA vs.length vc)) /\ Aside (wr.cell? ⟨w.heap.size + 1, 1, none⟩ = some (.slice PA ps.length pc)) /\ Aside (wr.cell? ⟨w.heap.size + 2, 0, none⟩ = some (.slice VA' vs'.length vc')) /\ Aside (wr.cell? ⟨w.heap.size + 2, 1, none⟩ = some (.slice PA' ps'.length pc')) /\ Aside (wr.cell? ⟨w.heap.size + 3, 0, none⟩ = some (.int .i64 0)) /\ Aside (wr.cell? ⟨w.heap.size + 3, 1, none⟩ = some (.int .i64 0)) /\ Aside (wr.cell? ⟨w.heap.size + 4, 0, none⟩ = some (.int .i64 (sumTo TN kk))) /\ Aside (wr.cell? ⟨w.heap.size + 4, 1, none⟩ = some (.int .i64 (sumTo LN kk))) /\ Aside (wr.frozen? ⟨w.heap.size + 3, 0, none⟩ = false) /\ Aside (wr.frozen? ⟨w.heap.size + 3, 1, none⟩ = false) /\ Aside (wr.frozen? ⟨w.heap.size + 4, 0, none⟩ = false) /\ Aside (wr.frozen? ⟨w.heap.size + 4, 1, none⟩ = false) /\ Aside (MapAt KS wr (w.heap.size + 5) (ixF ⟨⟨A, c, xs⟩, ⟨A2, c2, ls⟩⟩ kk)))
 case atStart => exact ⟨0, Nat.zero_le _, by omega, rfl, bz, aside (by simp), aside (by simp [go_sem]), aside (by simp [go_sem]), aside (by simp [go_sem]), aside (by simp [go_sem]), aside (by simp [go_sem]), aside (by simp [go_sem]), aside (by simp [go_sem]), aside (by simp [go_sem]), aside (by simp [go_sem, sumTo]), aside (by simp [go_sem, sumTo]), aside (by simp [go_sem]), aside (by simp [go_sem]), aside (by simp [go_sem]), aside (by simp [go_sem]), by rw [ixF_zero]; exact MapAt.made' KS _ (by simp)⟩
 case round =>
  obtain ⟨kk, hkk, hg, rfl, BW, Z, N0, N1, S0, S1, T0, T1, R0, R1, G0, G1, FR0, FR1, FG0, FG1, M⟩ := hrel
  have BW' := BW.out
  have Z' := Z.out
  have cn0 := N0.out
  have cn1 := N1.out
  have cs0 := S0.out
  have cs1 := S1.out
  have ct0 := T0.out
  have ct1 := T1.out
  have cr0 := R0.out
  have cr1 := R1.out
  have cg0 := G0.out
  have cg1 := G1.out
  have cfr0 := FR0.out
  have cfr1 := FR1.out
  have cfg0 := FG0.out
  have cfg1 := FG1.out
  clear BW Z N0 N1 S0 S1 T0 T1 R0 R1 G0 G1 FR0 FR1 FG0 FG1
  by_cases hlt : kk < xs.length
  ·have hltz : (kk : Int) < (xs.length : Int) := by omega
   have hkz : (0 : Int) ≤ (kk : Int) := by omega
   have hl3 := hlen.out.1
   obtain ⟨bN, offN, hA, _, _, _⟩ := hNh.out.nodes.place (by intro e; simp only at e; rw [e] at hlt; simp at hlt)
   simp only at hA
   subst hA
   have hc := Sl.Ok.cells hNh.out.nodes rfl wr BW' kk hlt
   simp only at hc
   obtain ⟨bB, oB, hBA, CB⟩ := Sl.InB_at hBh.out (by have := lbh.out; omega)
   subst hBA
   have HB := HD (fun W (hb : Bl w W) => CB W hb kk (by have := lbh.out; omega))
   have zB : (kk : Int) < (bs.length : Int) := by have := lbh.out; omega
   clear CB
   obtain ⟨bV, oV, hVA, CV⟩ := Sl.InI_at hVh.out (by have := lvh.out.1; omega)
   subst hVA
   have HV := HD (fun W (hb : Bl w W) => CV W hb kk (by have := lvh.out.1; omega))
   have zV : (kk : Int) < (vs.length : Int) := by have := lvh.out.1; omega
   clear CV
   obtain ⟨bP, oP, hPA, CP⟩ := Sl.InI_at hPh.out (by have := lph.out.1; omega)
   subst hPA
   have HP := HD (fun W (hb : Bl w W) => CP W hb kk (by have := lph.out.1; omega))
   have zP : (kk : Int) < (ps.length : Int) := by have := lph.out.1; omega
   clear CP
   obtain ⟨bI, oI, hIA, CI⟩ := Sl.InI_at hIh.out (by have := lih.out.1; omega)
   subst hIA
   have HI := HD (fun W (hb : Bl w W) => CI W hb kk (by have := lih.out.1; omega))
   have zI : (kk : Int) < (is.length : Int) := by have := lih.out.1; omega
   clear CI
   obtain ⟨bVp, oVp, hVpA, CVp⟩ := Sl.InI_at hVh'.out (by have := lvh'.out.1; omega)
   subst hVpA
   have HVp := HD (fun W (hb : Bl w W) => CVp W hb kk (by have := lvh'.out.1; omega))
   have zVp : (kk : Int) < (vs'.length : Int) := by have := lvh'.out.1; omega
   clear CVp
   obtain ⟨bPp, oPp, hPpA, CPp⟩ := Sl.InI_at hPh'.out (by have := lph'.out.1; omega)
   subst hPpA
   have HPp := HD (fun W (hb : Bl w W) => CPp W hb kk (by have := lph'.out.1; omega))
   have zPp : (kk : Int) < (ps'.length : Int) := by have := lph'.out.1; omega
   clear CPp
   have bdv1 := lvh.out.2 kk hlt
   have bdv2 := lph.out.2 kk hlt
   have bdv3 := lih.out.2 kk hlt
   have bdv4 := lvh'.out.2 kk hlt
   have bdv5 := lph'.out.2 kk hlt
   have hkd : kd xs kk = xs[kk].kind := by unfold kd; rw [getElem!_pos xs kk hlt]
   have hTk : Hid (sumTo TN (kk + 1) = sumTo TN kk + (if bs[kk]! = true then vs[kk]! + ps[kk]! + is[kk]! - vs'[kk]! - ps'[kk]! else 0)) := by show sumTo TN kk + TN kk = _; rw [hTNh.out]; rfl
   have hLk : Hid (sumTo LN (kk + 1) = sumTo LN kk + (if bs[kk]! = true then (if xs[kk].kind = 3 then is[kk]! else 0) else 0)) := by show sumTo LN kk + LN kk = _; rw [hLNh.out, <- hkd]; rfl
   have hix := HD (ixF_step hbh.out hlt)
   simp only at hix
   have bS := sumTo_abs kk (fun i hi => bTN.out i (by omega))
   have bL := sumTo_bound kk (fun i hi => bLN.out i (by omega))
   clear hkd
   generalize xs[kk] = y at hc hLk hix
   generalize bs[kk]! = bv at *
   generalize vs[kk]! = v1 at *
   generalize ps[kk]! = v2 at *
   generalize is[kk]! = v3 at *
   generalize vs'[kk]! = v4 at *
   generalize ps'[kk]! = v5 at *
   have e0 : wr.cell? ⟨bN, offN + kk * 9, none⟩ = some (.string y.name) := hc 0 _ rfl
   have e1 : wr.cell? ⟨bN, offN + kk * 9 + 1, none⟩ = some (.int .i64 y.kind) := hc 1 _ rfl
   have e2 : wr.cell? ⟨bN, offN + kk * 9 + 2, none⟩ = some (.int .i64 y.px) := hc 2 _ rfl
   have e3 : wr.cell? ⟨bN, offN + kk * 9 + 3, none⟩ = some (.int .i64 y.py) := hc 3 _ rfl
   have e4 : wr.cell? ⟨bN, offN + kk * 9 + 4, none⟩ = some (.int .i64 y.inv) := hc 4 _ rfl
   have e5 : wr.cell? ⟨bN, offN + kk * 9 + 5, none⟩ = some (.int .i64 y.gnd) := hc 5 _ rfl
   have e6 : wr.cell? ⟨bN, offN + kk * 9 + 6, none⟩ = some (y.shape.val) := hc 6 _ rfl
   have e7 : wr.cell? ⟨bN, offN + kk * 9 + 7, none⟩ = some (.bool y.prot) := hc 7 _ rfl
   have e8 : wr.cell? ⟨bN, offN + kk * 9 + 8, none⟩ = some (.int .i64 y.res) := hc 8 _ rfl
   have hBa : Bl wr (wr.alloc (Obj.cells #[.string y.name, .int .i64 y.kind, .int .i64 y.px, .int .i64 y.py, .int .i64 y.inv, .int .i64 y.gnd, y.shape.val, .bool y.prot, .int .i64 y.res] 41)) := bz
   obtain ⟨w2, hrun, M2, hO⟩ := (M.out.keep hBa).store hU.out.1 hU.out.2 y.name (.int .i64 kk)
   have hrun' : Sem.run Tryz.prog (Instr.mapUpdate 172 (.map (some (w.heap.size + 5))) (.string y.name) (.int .i64 kk)) (wr.alloc (Obj.cells #[.string y.name, .int .i64 y.kind, .int .i64 y.px, .int .i64 y.py, .int .i64 y.inv, .int .i64 y.gnd, y.shape.val, .bool y.prot, .int .i64 y.res] 41)) = .ok () w2 := hrun
   rw [hix.out] at M2
   have M2h := HD M2
   generalize sumTo TN kk = sT at *
   generalize sumTo LN kk = sL at *
   have qn0 : w2.cell? ⟨w.heap.size, 0, none⟩ = some (.slice (some ⟨bN, offN, none⟩) xs.length c) := (hO.cell _ _ (by omega)).trans (hBa.keep cn0)
   have qn1 : w2.cell? ⟨w.heap.size, 1, none⟩ = some (.slice A2 ls.length c2) := (hO.cell _ _ (by omega)).trans (hBa.keep cn1)
   have qs0 : w2.cell? ⟨w.heap.size + 1, 0, none⟩ = some (.slice (some ⟨bV, oV, none⟩) vs.length vc) := (hO.cell _ _ (by omega)).trans (hBa.keep cs0)
   have qs1 : w2.cell? ⟨w.heap.size + 1, 1, none⟩ = some (.slice (some ⟨bP, oP, none⟩) ps.length pc) := (hO.cell _ _ (by omega)).trans (hBa.keep cs1)
   have qt0 : w2.cell? ⟨w.heap.size + 2, 0, none⟩ = some (.slice (some ⟨bVp, oVp, none⟩) vs'.length vc') := (hO.cell _ _ (by omega)).trans (hBa.keep ct0)
   have qt1 : w2.cell? ⟨w.heap.size + 2, 1, none⟩ = some (.slice (some ⟨bPp, oPp, none⟩) ps'.length pc') := (hO.cell _ _ (by omega)).trans (hBa.keep ct1)
   have qr0 : w2.cell? ⟨w.heap.size + 3, 0, none⟩ = some (.int .i64 0) := (hO.cell _ _ (by omega)).trans (hBa.keep cr0)
   have qr1 : w2.cell? ⟨w.heap.size + 3, 1, none⟩ = some (.int .i64 0) := (hO.cell _ _ (by omega)).trans (hBa.keep cr1)
   have qg0 : w2.cell? ⟨w.heap.size + 4, 0, none⟩ = some (.int .i64 (sT)) := (hO.cell _ _ (by omega)).trans (hBa.keep cg0)
   have qg1 : w2.cell? ⟨w.heap.size + 4, 1, none⟩ = some (.int .i64 (sL)) := (hO.cell _ _ (by omega)).trans (hBa.keep cg1)
   have qfr0 : w2.frozen? ⟨w.heap.size + 3, 0, none⟩ = false := (hO.frozen _ _ (by omega)).trans (hBa.keepF cr0 cfr0)
   have qfr1 : w2.frozen? ⟨w.heap.size + 3, 1, none⟩ = false := (hO.frozen _ _ (by omega)).trans (hBa.keepF cr1 cfr1)
   have qfg0 : w2.frozen? ⟨w.heap.size + 4, 0, none⟩ = false := (hO.frozen _ _ (by omega)).trans (hBa.keepF cg0 cfg0)
   have qfg1 : w2.frozen? ⟨w.heap.size + 4, 1, none⟩ = false := (hO.frozen _ _ (by omega)).trans (hBa.keepF cg1 cfg1)
   have k1 : w2.cell? ⟨wr.heap.size, 1, none⟩ = some (.int .i64 y.kind) := (hO.cell _ _ (by omega)).trans (by simp [go_sem])
   have hB2 : Bl w w2 := Only.bl (BW'.trans hBa) hO (by omega)
   have z2 : wr.heap.size < w2.heap.size := by have := hO.size; simp at this; omega
   have cBk := HB.out w2 hB2
   clear hrun M2 hO hix hc M BW'
   clear cn0 cn1 cs0 cs1 ct0 ct1 cr0 cr1 cg0 cg1 cfr0 cfr1 cfg0 cfg1
   cases bv
   case false =>
    have HT := HD (show sumTo TN (kk + 1) = sT from by rw [hTk.out, if_neg (by decide)]; omega)
    have HL := HD (show sumTo LN (kk + 1) = sL from by rw [hLk.out, if_neg (by decide)]; omega)
    clear hTk hLk bdv1 bdv2 bdv3 bdv4 bdv5 bS bL hBa
    go_wp2_with fail
    go_roundg (xs.length - (kk + 1))
    case measure => omega
    case rel => exact ⟨kk + 1, by omega, by omega, by go_num, hB2, aside (by omega), aside qn0, aside qn1, aside qs0, aside qs1, aside qt0, aside qt1, aside qr0, aside qr1, aside (by rw [HT.out]; exact qg0), aside (by rw [HL.out]; exact qg1), aside qfr0, aside qfr1, aside qfg0, aside qfg1, M2h.out⟩
   case true =>
    have HT := HD (show sumTo TN (kk + 1) = sT + (v1 + v2 + v3 - v4 - v5) from by rw [hTk.out, if_pos rfl])
    have HL0 := HD (show sumTo LN (kk + 1) = sL + (if y.kind = 3 then v3 else 0) from by rw [hLk.out, if_pos rfl])
    clear hLk
    have g1 : IntKind.i64.wrap (v1 + v2) = v1 + v2 := IntWalk.i64_in _ (by omega)
    have g2 : IntKind.i64.wrap (v1 + v2 + v3) = v1 + v2 + v3 := IntWalk.i64_in _ (by omega)
    have g3 : IntKind.i64.wrap (v1 + v2 + v3 - v4) = v1 + v2 + v3 - v4 := IntWalk.i64_in _ (by omega)
    have g4 : IntKind.i64.wrap (v1 + v2 + v3 - v4 - v5) = v1 + v2 + v3 - v4 - v5 := IntWalk.i64_in _ (by omega)
    have g5 : IntKind.i64.wrap (sT + (v1 + v2 + v3 - v4 - v5)) = sT + (v1 + v2 + v3 - v4 - v5) := IntWalk.i64_in _ (by omega)
    have g6 : IntKind.i64.wrap (sL + v3) = sL + v3 := IntWalk.i64_in _ (by omega)
    have ps0 : ∀ z : Later w2, z.at'.cell? ⟨w.heap.size + 1, 0, none⟩ = some (.slice (some ⟨bV, oV, none⟩) vs.length vc) := fun z => z.keep qs0
    have ps1 : ∀ z : Later w2, z.at'.cell? ⟨w.heap.size + 1, 1, none⟩ = some (.slice (some ⟨bP, oP, none⟩) ps.length pc) := fun z => z.keep qs1
    have pt0 : ∀ z : Later w2, z.at'.cell? ⟨w.heap.size + 2, 0, none⟩ = some (.slice (some ⟨bVp, oVp, none⟩) vs'.length vc') := fun z => z.keep qt0
    have pt1 : ∀ z : Later w2, z.at'.cell? ⟨w.heap.size + 2, 1, none⟩ = some (.slice (some ⟨bPp, oPp, none⟩) ps'.length pc') := fun z => z.keep qt1
    have pg0 : ∀ z : Later w2, z.at'.cell? ⟨w.heap.size + 4, 0, none⟩ = some (.int .i64 (sT)) := fun z => z.keep qg0
    have pvv1 : ∀ z : Later w2, z.at'.cell? ⟨bV, oV + kk, none⟩ = some (.int .i64 v1) := fun z => HV.out z.at' (hB2.trans z.bl)
    have pvv2 : ∀ z : Later w2, z.at'.cell? ⟨bP, oP + kk, none⟩ = some (.int .i64 v2) := fun z => HP.out z.at' (hB2.trans z.bl)
    have pvv3 : ∀ z : Later w2, z.at'.cell? ⟨bI, oI + kk, none⟩ = some (.int .i64 v3) := fun z => HI.out z.at' (hB2.trans z.bl)
    have pvv4 : ∀ z : Later w2, z.at'.cell? ⟨bVp, oVp + kk, none⟩ = some (.int .i64 v4) := fun z => HVp.out z.at' (hB2.trans z.bl)
    have pvv5 : ∀ z : Later w2, z.at'.cell? ⟨bPp, oPp + kk, none⟩ = some (.int .i64 v5) := fun z => HPp.out z.at' (hB2.trans z.bl)
    clear hTk bdv1 bdv2 bdv3 bdv4 bdv5 bS bL hBa
    go_wp2_with fail
    refine wp_region_later_tail 30 (by kernel_rfl) (by kernel_rfl) ?_
    simp only [List.take_succ_cons, List.take_zero, List.drop_succ_cons, List.drop_zero]
    repeat (go_big_quiet_step (fail))
    refine wpQuiet_nil ?_
    intro w3 hB3
    clear ps0 ps1 pt0 pt1 pg0 pvv1 pvv2 pvv3 pvv4 pvv5
    have rn0 : w3.cell? ⟨w.heap.size, 0, none⟩ = some (.slice (some ⟨bN, offN, none⟩) xs.length c) := hB3.keep qn0
    have rn1 : w3.cell? ⟨w.heap.size, 1, none⟩ = some (.slice A2 ls.length c2) := hB3.keep qn1
    have rs0 : w3.cell? ⟨w.heap.size + 1, 0, none⟩ = some (.slice (some ⟨bV, oV, none⟩) vs.length vc) := hB3.keep qs0
    have rs1 : w3.cell? ⟨w.heap.size + 1, 1, none⟩ = some (.slice (some ⟨bP, oP, none⟩) ps.length pc) := hB3.keep qs1
    have rt0 : w3.cell? ⟨w.heap.size + 2, 0, none⟩ = some (.slice (some ⟨bVp, oVp, none⟩) vs'.length vc') := hB3.keep qt0
    have rt1 : w3.cell? ⟨w.heap.size + 2, 1, none⟩ = some (.slice (some ⟨bPp, oPp, none⟩) ps'.length pc') := hB3.keep qt1
    have rr0 : w3.cell? ⟨w.heap.size + 3, 0, none⟩ = some (.int .i64 0) := hB3.keep qr0
    have rr1 : w3.cell? ⟨w.heap.size + 3, 1, none⟩ = some (.int .i64 0) := hB3.keep qr1
    have rg0 : w3.cell? ⟨w.heap.size + 4, 0, none⟩ = some (.int .i64 (sT)) := hB3.keep qg0
    have rg1 : w3.cell? ⟨w.heap.size + 4, 1, none⟩ = some (.int .i64 (sL)) := hB3.keep qg1
    have rfr0 : w3.frozen? ⟨w.heap.size + 3, 0, none⟩ = false := hB3.keepF qr0 qfr0
    have rfr1 : w3.frozen? ⟨w.heap.size + 3, 1, none⟩ = false := hB3.keepF qr1 qfr1
    have rfg0 : w3.frozen? ⟨w.heap.size + 4, 0, none⟩ = false := hB3.keepF qg0 qfg0
    have rfg1 : w3.frozen? ⟨w.heap.size + 4, 1, none⟩ = false := hB3.keepF qg1 qfg1
    have k3 := hB3.keep k1
    have M3h := HD (M2h.out.keep hB3)
    have z3 : wr.heap.size < w3.heap.size := by have := hB3.size; omega
    clear qn0 qn1 qs0 qs1 qt0 qt1 qr0 qr1 qg0 qg1 qfr0 qfr1 qfg0 qfg1
    clear cBk k1
    have un0 : (w3.setCell ⟨w.heap.size + 4, 0, none⟩ (.int .i64 (sT + (v1 + v2 + v3 - v4 - v5)))).cell? ⟨w.heap.size, 0, none⟩ = some (.slice (some ⟨bN, offN, none⟩) xs.length c) := (setBlk' (by omega)).trans rn0
    have un1 : (w3.setCell ⟨w.heap.size + 4, 0, none⟩ (.int .i64 (sT + (v1 + v2 + v3 - v4 - v5)))).cell? ⟨w.heap.size, 1, none⟩ = some (.slice A2 ls.length c2) := (setBlk' (by omega)).trans rn1
    have us0 : (w3.setCell ⟨w.heap.size + 4, 0, none⟩ (.int .i64 (sT + (v1 + v2 + v3 - v4 - v5)))).cell? ⟨w.heap.size + 1, 0, none⟩ = some (.slice (some ⟨bV, oV, none⟩) vs.length vc) := (setBlk' (by omega)).trans rs0
    have us1 : (w3.setCell ⟨w.heap.size + 4, 0, none⟩ (.int .i64 (sT + (v1 + v2 + v3 - v4 - v5)))).cell? ⟨w.heap.size + 1, 1, none⟩ = some (.slice (some ⟨bP, oP, none⟩) ps.length pc) := (setBlk' (by omega)).trans rs1
    have ut0 : (w3.setCell ⟨w.heap.size + 4, 0, none⟩ (.int .i64 (sT + (v1 + v2 + v3 - v4 - v5)))).cell? ⟨w.heap.size + 2, 0, none⟩ = some (.slice (some ⟨bVp, oVp, none⟩) vs'.length vc') := (setBlk' (by omega)).trans rt0
    have ut1 : (w3.setCell ⟨w.heap.size + 4, 0, none⟩ (.int .i64 (sT + (v1 + v2 + v3 - v4 - v5)))).cell? ⟨w.heap.size + 2, 1, none⟩ = some (.slice (some ⟨bPp, oPp, none⟩) ps'.length pc') := (setBlk' (by omega)).trans rt1
    have ur0 : (w3.setCell ⟨w.heap.size + 4, 0, none⟩ (.int .i64 (sT + (v1 + v2 + v3 - v4 - v5)))).cell? ⟨w.heap.size + 3, 0, none⟩ = some (.int .i64 0) := (setBlk' (by omega)).trans rr0
    have ur1 : (w3.setCell ⟨w.heap.size + 4, 0, none⟩ (.int .i64 (sT + (v1 + v2 + v3 - v4 - v5)))).cell? ⟨w.heap.size + 3, 1, none⟩ = some (.int .i64 0) := (setBlk' (by omega)).trans rr1
    have ug0 : (w3.setCell ⟨w.heap.size + 4, 0, none⟩ (.int .i64 (sT + (v1 + v2 + v3 - v4 - v5)))).cell? ⟨w.heap.size + 4, 0, none⟩ = some (.int .i64 (sT + (v1 + v2 + v3 - v4 - v5))) := setSame (by rw [rg0]; rfl)
    have ug1 : (w3.setCell ⟨w.heap.size + 4, 0, none⟩ (.int .i64 (sT + (v1 + v2 + v3 - v4 - v5)))).cell? ⟨w.heap.size + 4, 1, none⟩ = some (.int .i64 (sL)) := (setOff (by decide)).trans rg1
    have ufr0 : (w3.setCell ⟨w.heap.size + 4, 0, none⟩ (.int .i64 (sT + (v1 + v2 + v3 - v4 - v5)))).frozen? ⟨w.heap.size + 3, 0, none⟩ = false := by simp [go_sem, rfr0]
    have ufr1 : (w3.setCell ⟨w.heap.size + 4, 0, none⟩ (.int .i64 (sT + (v1 + v2 + v3 - v4 - v5)))).frozen? ⟨w.heap.size + 3, 1, none⟩ = false := by simp [go_sem, rfr1]
    have ufg0 : (w3.setCell ⟨w.heap.size + 4, 0, none⟩ (.int .i64 (sT + (v1 + v2 + v3 - v4 - v5)))).frozen? ⟨w.heap.size + 4, 0, none⟩ = false := by simp [go_sem, rfg0]
    have ufg1 : (w3.setCell ⟨w.heap.size + 4, 0, none⟩ (.int .i64 (sT + (v1 + v2 + v3 - v4 - v5)))).frozen? ⟨w.heap.size + 4, 1, none⟩ = false := by simp [go_sem, rfg1]
    have k4 : (w3.setCell ⟨w.heap.size + 4, 0, none⟩ (.int .i64 (sT + (v1 + v2 + v3 - v4 - v5)))).cell? ⟨wr.heap.size, 1, none⟩ = some (.int .i64 y.kind) := (setBlk' (by omega)).trans k3
    have hB4 : Bl w (w3.setCell ⟨w.heap.size + 4, 0, none⟩ (.int .i64 (sT + (v1 + v2 + v3 - v4 - v5)))) := Bl.setCell (hB2.trans hB3) (by simp only; omega) _
    have M4h := HD (M3h.out.setCell ⟨w.heap.size + 4, 0, none⟩ (.int .i64 (sT + (v1 + v2 + v3 - v4 - v5))) (by simp only; omega))
    have z4 : wr.heap.size < (w3.setCell ⟨w.heap.size + 4, 0, none⟩ (.int .i64 (sT + (v1 + v2 + v3 - v4 - v5)))).heap.size := by rw [cZ]; exact z3
    cases hk : (y.kind == 3)
    case false =>
     have HL := HD (show sumTo LN (kk + 1) = sL from by rw [HL0.out, if_neg (by simpa using hk)]; omega)
     clear HL0
     go_wp2_with fail
     go_roundg (xs.length - (kk + 1))
     case measure => omega
     case rel => exact ⟨kk + 1, by omega, by omega, by go_num, hB4, aside (by first | omega | (rw [cZ]; omega)), aside un0, aside un1, aside us0, aside us1, aside ut0, aside ut1, aside ur0, aside ur1, aside (by rw [HT.out]; exact ug0), aside (by rw [HL.out]; exact ug1), aside ufr0, aside ufr1, aside ufg0, aside ufg1, M4h.out⟩
    case true =>
     have HL := HD (show sumTo LN (kk + 1) = sL + v3 from by rw [HL0.out, if_pos (by simpa using hk)])
     clear HL0
     go_wp2_with fail
     clear rn0 rn1 rs0 rs1 rt0 rt1 rr0 rr1 rg0 rg1 rfr0 rfr1 rfg0 rfg1
     clear k3 M3h hB3
     generalize (w3.setCell ⟨w.heap.size + 4, 0, none⟩ (.int .i64 (sT + (v1 + v2 + v3 - v4 - v5)))) = W4 at *
     have pg1 : ∀ z : Later W4, z.at'.cell? ⟨w.heap.size + 4, 1, none⟩ = some (.int .i64 sL) := fun z => z.keep ug1
     have pv3 : ∀ z : Later W4, z.at'.cell? ⟨bI, oI + kk, none⟩ = some (.int .i64 v3) := fun z => HI.out z.at' (hB4.trans z.bl)
     refine wp_region_later_tail 8 (by kernel_rfl) (by kernel_rfl) ?_
     simp only [List.take_succ_cons, List.take_zero, List.drop_succ_cons, List.drop_zero]
     repeat (go_big_quiet_step (fail))
     refine wpQuiet_nil ?_
     intro w5 hB5
     clear pg1 pv3
     have xn0 : w5.cell? ⟨w.heap.size, 0, none⟩ = some (.slice (some ⟨bN, offN, none⟩) xs.length c) := hB5.keep un0
     have xn1 : w5.cell? ⟨w.heap.size, 1, none⟩ = some (.slice A2 ls.length c2) := hB5.keep un1
     have xs0 : w5.cell? ⟨w.heap.size + 1, 0, none⟩ = some (.slice (some ⟨bV, oV, none⟩) vs.length vc) := hB5.keep us0
     have xs1 : w5.cell? ⟨w.heap.size + 1, 1, none⟩ = some (.slice (some ⟨bP, oP, none⟩) ps.length pc) := hB5.keep us1
     have xt0 : w5.cell? ⟨w.heap.size + 2, 0, none⟩ = some (.slice (some ⟨bVp, oVp, none⟩) vs'.length vc') := hB5.keep ut0
     have xt1 : w5.cell? ⟨w.heap.size + 2, 1, none⟩ = some (.slice (some ⟨bPp, oPp, none⟩) ps'.length pc') := hB5.keep ut1
     have xr0 : w5.cell? ⟨w.heap.size + 3, 0, none⟩ = some (.int .i64 0) := hB5.keep ur0
     have xr1 : w5.cell? ⟨w.heap.size + 3, 1, none⟩ = some (.int .i64 0) := hB5.keep ur1
     have xg0 : w5.cell? ⟨w.heap.size + 4, 0, none⟩ = some (.int .i64 (sT + (v1 + v2 + v3 - v4 - v5))) := hB5.keep ug0
     have xg1 : w5.cell? ⟨w.heap.size + 4, 1, none⟩ = some (.int .i64 (sL)) := hB5.keep ug1
     have xfr0 : w5.frozen? ⟨w.heap.size + 3, 0, none⟩ = false := hB5.keepF ur0 ufr0
     have xfr1 : w5.frozen? ⟨w.heap.size + 3, 1, none⟩ = false := hB5.keepF ur1 ufr1
     have xfg0 : w5.frozen? ⟨w.heap.size + 4, 0, none⟩ = false := hB5.keepF ug0 ufg0
     have xfg1 : w5.frozen? ⟨w.heap.size + 4, 1, none⟩ = false := hB5.keepF ug1 ufg1
     have z5 : wr.heap.size < w5.heap.size := by have := hB5.size; omega
     have yn0 : (w5.setCell ⟨w.heap.size + 4, 1, none⟩ (.int .i64 (sL + v3))).cell? ⟨w.heap.size, 0, none⟩ = some (.slice (some ⟨bN, offN, none⟩) xs.length c) := (setBlk' (by omega)).trans xn0
     have yn1 : (w5.setCell ⟨w.heap.size + 4, 1, none⟩ (.int .i64 (sL + v3))).cell? ⟨w.heap.size, 1, none⟩ = some (.slice A2 ls.length c2) := (setBlk' (by omega)).trans xn1
     have ys0 : (w5.setCell ⟨w.heap.size + 4, 1, none⟩ (.int .i64 (sL + v3))).cell? ⟨w.heap.size + 1, 0, none⟩ = some (.slice (some ⟨bV, oV, none⟩) vs.length vc) := (setBlk' (by omega)).trans xs0
     have ys1 : (w5.setCell ⟨w.heap.size + 4, 1, none⟩ (.int .i64 (sL + v3))).cell? ⟨w.heap.size + 1, 1, none⟩ = some (.slice (some ⟨bP, oP, none⟩) ps.length pc) := (setBlk' (by omega)).trans xs1
     have yt0 : (w5.setCell ⟨w.heap.size + 4, 1, none⟩ (.int .i64 (sL + v3))).cell? ⟨w.heap.size + 2, 0, none⟩ = some (.slice (some ⟨bVp, oVp, none⟩) vs'.length vc') := (setBlk' (by omega)).trans xt0
     have yt1 : (w5.setCell ⟨w.heap.size + 4, 1, none⟩ (.int .i64 (sL + v3))).cell? ⟨w.heap.size + 2, 1, none⟩ = some (.slice (some ⟨bPp, oPp, none⟩) ps'.length pc') := (setBlk' (by omega)).trans xt1
     have yr0 : (w5.setCell ⟨w.heap.size + 4, 1, none⟩ (.int .i64 (sL + v3))).cell? ⟨w.heap.size + 3, 0, none⟩ = some (.int .i64 0) := (setBlk' (by omega)).trans xr0
     have yr1 : (w5.setCell ⟨w.heap.size + 4, 1, none⟩ (.int .i64 (sL + v3))).cell? ⟨w.heap.size + 3, 1, none⟩ = some (.int .i64 0) := (setBlk' (by omega)).trans xr1
     have yg0 : (w5.setCell ⟨w.heap.size + 4, 1, none⟩ (.int .i64 (sL + v3))).cell? ⟨w.heap.size + 4, 0, none⟩ = some (.int .i64 (sT + (v1 + v2 + v3 - v4 - v5))) := (setOff (by decide)).trans xg0
     have yg1 : (w5.setCell ⟨w.heap.size + 4, 1, none⟩ (.int .i64 (sL + v3))).cell? ⟨w.heap.size + 4, 1, none⟩ = some (.int .i64 (sL + v3)) := setSame (by rw [xg1]; rfl)
     have yfr0 : (w5.setCell ⟨w.heap.size + 4, 1, none⟩ (.int .i64 (sL + v3))).frozen? ⟨w.heap.size + 3, 0, none⟩ = false := by simp [go_sem, xfr0]
     have yfr1 : (w5.setCell ⟨w.heap.size + 4, 1, none⟩ (.int .i64 (sL + v3))).frozen? ⟨w.heap.size + 3, 1, none⟩ = false := by simp [go_sem, xfr1]
     have yfg0 : (w5.setCell ⟨w.heap.size + 4, 1, none⟩ (.int .i64 (sL + v3))).frozen? ⟨w.heap.size + 4, 0, none⟩ = false := by simp [go_sem, xfg0]
     have yfg1 : (w5.setCell ⟨w.heap.size + 4, 1, none⟩ (.int .i64 (sL + v3))).frozen? ⟨w.heap.size + 4, 1, none⟩ = false := by simp [go_sem, xfg1]
     have hB6 : Bl w (w5.setCell ⟨w.heap.size + 4, 1, none⟩ (.int .i64 (sL + v3))) := Bl.setCell (hB4.trans hB5) (by simp only; omega) _
     have M6h := HD ((M4h.out.keep hB5).setCell ⟨w.heap.size + 4, 1, none⟩ (.int .i64 (sL + v3)) (by simp only; omega))
     have z6 : wr.heap.size < (w5.setCell ⟨w.heap.size + 4, 1, none⟩ (.int .i64 (sL + v3))).heap.size := by rw [cZ]; exact z5
     clear un0 un1 us0 us1 ut0 ut1 ur0 ur1 ug0 ug1 ufr0 ufr1 ufg0 ufg1
     go_wp2_with fail
     go_roundg (xs.length - (kk + 1))
     case measure => omega
     case rel => exact ⟨kk + 1, by omega, by omega, by go_num, hB6, aside (by first | omega | (rw [cZ]; omega)), aside yn0, aside yn1, aside ys0, aside ys1, aside yt0, aside yt1, aside yr0, aside yr1, aside (by rw [HT.out]; exact yg0), aside (by rw [HL.out]; exact yg1), aside yfr0, aside yfr1, aside yfg0, aside yfg1, M6h.out⟩
  ·have hltz : ¬ (kk : Int) < (xs.length : Int) := by omega
   have hkl : kk = xs.length := by omega
   subst hkl
   clear hg hkk hlt
   go_wp2_with fail
   go_loopg [86] ls.length (fun gg s86 wr => ∃ (kk : Nat), kk ≤ ls.length /\ ls.length - kk ≤ gg /\ s86 = .int .i64 kk /\ Aside (Bl w wr) /\ Aside (w.heap.size + 5 < wr.heap.size) /\ Aside (wr.cell? ⟨w.heap.size, 0, none⟩ = some (.slice A xs.length c)) /\ Aside (wr.cell? ⟨w.heap.size, 1, none⟩ = some (.slice A2 ls.length c2)) /\ Aside (wr.cell? ⟨w.heap.size + 3, 0, none⟩ = some (.int .i64 0)) /\ Aside (wr.cell? ⟨w.heap.size + 3, 1, none⟩ = some (.int .i64 0)) /\ Aside (wr.cell? ⟨w.heap.size + 4, 0, none⟩ = some (.int .i64 (sumTo TN xs.length + sumTo TE kk))) /\ Aside (wr.cell? ⟨w.heap.size + 4, 1, none⟩ = some (.int .i64 (sumTo LN xs.length + sumTo LE kk))) /\ Aside (wr.frozen? ⟨w.heap.size + 3, 0, none⟩ = false) /\ Aside (wr.frozen? ⟨w.heap.size + 3, 1, none⟩ = false) /\ Aside (wr.frozen? ⟨w.heap.size + 4, 0, none⟩ = false) /\ Aside (wr.frozen? ⟨w.heap.size + 4, 1, none⟩ = false) /\ Aside (MapAt KS wr (w.heap.size + 5) (ixF ⟨⟨A, c, xs⟩, ⟨A2, c2, ls⟩⟩ xs.length)))
   case atStart => exact ⟨0, Nat.zero_le _, by omega, rfl, BW', aside Z', aside cn0, aside cn1, aside cr0, aside cr1, aside (by rw [show sumTo TE 0 = 0 from rfl, Int.add_zero]; exact cg0), aside (by rw [show sumTo LE 0 = 0 from rfl, Int.add_zero]; exact cg1), aside cfr0, aside cfr1, aside cfg0, aside cfg1, M.out⟩
   case round =>
    clear cn0 cn1 cr0 cr1 cg0 cg1 cfr0 cfr1 cfg0 cfg1 cs0 cs1 ct0 ct1 M Z' BW'
    obtain ⟨kk, hkk, hg, rfl, BW, Z, N0, N1, R0, R1, G0, G1, FR0, FR1, FG0, FG1, M⟩ := hrel
    have BW' := BW.out
    have Z' := Z.out
    have cn0 := N0.out
    have cn1 := N1.out
    have cr0 := R0.out
    have cr1 := R1.out
    have cg0 := G0.out
    have cg1 := G1.out
    have cfr0 := FR0.out
    have cfr1 := FR1.out
    have cfg0 := FG0.out
    have cfg1 := FG1.out
    clear BW Z N0 N1 R0 R1 G0 G1 FR0 FR1 FG0 FG1
    have bS := sumTo_abs xs.length (fun i hi => bTN.out i hi)
    have bL := sumTo_bound xs.length (fun i hi => bLN.out i hi)
    have bS2 := sumTo_abs kk (fun i hi => bTE.out i (by omega))
    have bL2 := sumTo_bound kk (fun i hi => bLE.out i (by omega))
    have hl3 := hlen.out
    by_cases hlt : kk < ls.length
    ·have hltz : (kk : Int) < (ls.length : Int) := by omega
     have hkz : (0 : Int) ≤ (kk : Int) := by omega
     obtain ⟨ed1, ed2, ed3, ed4, _⟩ := edges_at hbh.out hlt
     obtain ⟨ix1, ix2⟩ := ixF_src hbh.out hlt
     simp only at ed3 ed4 ix1 ix2
     have hTk : Hid (sumTo TE (kk + 1) = sumTo TE kk + (if bs[edD ⟨⟨A, c, xs⟩, ⟨A2, c2, ls⟩⟩ kk]! && !bs[edA ⟨⟨A, c, xs⟩, ⟨A2, c2, ls⟩⟩ kk]! then qs[kk]! else if bs[edA ⟨⟨A, c, xs⟩, ⟨A2, c2, ls⟩⟩ kk]! && !bs[edD ⟨⟨A, c, xs⟩, ⟨A2, c2, ls⟩⟩ kk]! then -(qs[kk]!) else 0)) := (by show sumTo TE kk + TE kk = _; rw [hTEh.out]; rfl : sumTo TE (kk + 1) = _)
     have hLk : Hid (sumTo LE (kk + 1) = sumTo LE kk + (if bs[edD ⟨⟨A, c, xs⟩, ⟨A2, c2, ls⟩⟩ kk]! = true then (if kd xs (edD ⟨⟨A, c, xs⟩, ⟨A2, c2, ls⟩⟩ kk) = 3 then qs[kk]! else 0) else 0)) := (by show sumTo LE kk + LE kk = _; rw [hLEh.out]; rfl : sumTo LE (kk + 1) = _)
     generalize edA ⟨⟨A, c, xs⟩, ⟨A2, c2, ls⟩⟩ kk = na at *
     generalize edD ⟨⟨A, c, xs⟩, ⟨A2, c2, ls⟩⟩ kk = nd at *
     clear ed1 ed2
     have za0 : (0 : Int) ≤ (na : Int) := by omega
     have zd0 : (0 : Int) ≤ (nd : Int) := by omega
     have zab : (na : Int) < (bs.length : Int) := by have := lbh.out; omega
     have zdb : (nd : Int) < (bs.length : Int) := by have := lbh.out; omega
     have zdx : (nd : Int) < (xs.length : Int) := by omega
     have zq : (kk : Int) < (qs.length : Int) := by have := lqh.out; omega
     obtain ⟨bN, offN, hA, _, _, _⟩ := hNh.out.nodes.place (by intro e; simp only at e; rw [e] at ed4; simp at ed4)
     simp only at hA
     subst hA
     obtain ⟨bL_, offL, hA2, _, _, _⟩ := hNh.out.links.place (by intro e; simp only at e; rw [e] at hlt; simp at hlt)
     simp only at hA2
     subst hA2
     obtain ⟨bB, oB, hBA, CB⟩ := Sl.InB_at hBh.out (by have := lbh.out; omega)
     subst hBA
     obtain ⟨bQ, oQ, hQA, CQ⟩ := Sl.InI_at hQh.out (by have := lqh.out; omega)
     subst hQA
     have Ha := HD (fun W (hb : Bl w W) => CB W hb na (by have := lbh.out; omega))
     have Hd := HD (fun W (hb : Bl w W) => CB W hb nd (by have := lbh.out; omega))
     have HQ := HD (fun W (hb : Bl w W) => CQ W hb kk (by have := lqh.out; omega))
     have HK := HD (fun W (hb : Bl w W) => (show W.cell? ⟨bN, offN + nd * 9 + 1, none⟩ = some (.int .i64 (kd xs nd)) from by
      have h1 := Sl.Ok.cells hNh.out.nodes rfl W hb nd ed4 1 _ rfl
      simp only at h1
      unfold kd
      rw [getElem!_pos xs nd ed4]
      exact h1))
     have bqv := bqh.out kk hlt
     have hc := Sl.Ok.cells hNh.out.links rfl wr BW' kk hlt
     simp only at hc
     clear CB CQ
     generalize ls[kk] = y at hc ix1 ix2
     generalize bs[na]! = ba at *
     generalize bs[nd]! = bd at *
     generalize qs[kk]! = qv at *
     generalize kd xs nd = kv at *
     obtain ⟨sT, hsT⟩ : ∃ z, z = sumTo TN xs.length + sumTo TE kk := ⟨_, rfl⟩
     obtain ⟨sL, hsL⟩ : ∃ z, z = sumTo LN xs.length + sumTo LE kk := ⟨_, rfl⟩
     have hTk2 : Hid (sumTo TN xs.length + sumTo TE (kk + 1) = sT + (if bd && !ba then qv else if ba && !bd then -qv else 0)) := (by rw [hTk.out, hsT]; omega : sumTo TN xs.length + sumTo TE (kk + 1) = _)
     have hLk2 : Hid (sumTo LN xs.length + sumTo LE (kk + 1) = sL + (if bd = true then (if kv = 3 then qv else 0) else 0)) := (by rw [hLk.out, hsL]; omega : sumTo LN xs.length + sumTo LE (kk + 1) = _)
     have g1 : IntKind.i64.wrap (sT + qv) = sT + qv := IntWalk.i64_in _ (by omega)
     have g2 : IntKind.i64.wrap (sT - qv) = sT - qv := IntWalk.i64_in _ (by omega)
     have g3 : IntKind.i64.wrap (sL + qv) = sL + qv := IntWalk.i64_in _ (by omega)
     rw [<- hsT] at cg0
     rw [<- hsL] at cg1
     clear hTk hLk hsT hsL bS bL bS2 bL2 bqv
     have e0 : wr.cell? ⟨bL_, offL + kk * 11, none⟩ = some (.string y.name) := hc 0 _ rfl
     have e1 : wr.cell? ⟨bL_, offL + kk * 11 + 1, none⟩ = some (.string y.src) := hc 1 _ rfl
     have e2 : wr.cell? ⟨bL_, offL + kk * 11 + 2, none⟩ = some (.string y.dst) := hc 2 _ rfl
     have e3 : wr.cell? ⟨bL_, offL + kk * 11 + 3, none⟩ = some (.int .i64 y.kind) := hc 3 _ rfl
     have e4 : wr.cell? ⟨bL_, offL + kk * 11 + 4, none⟩ = some (.int .i64 y.len) := hc 4 _ rfl
     have e5 : wr.cell? ⟨bL_, offL + kk * 11 + 5, none⟩ = some (.int .i64 y.up) := hc 5 _ rfl
     have e6 : wr.cell? ⟨bL_, offL + kk * 11 + 6, none⟩ = some (.int .i64 y.down) := hc 6 _ rfl
     have e7 : wr.cell? ⟨bL_, offL + kk * 11 + 7, none⟩ = some (.string y.sec) := hc 7 _ rfl
     have e8 : wr.cell? ⟨bL_, offL + kk * 11 + 8, none⟩ = some (.int .i64 y.wid) := hc 8 _ rfl
     have e9 : wr.cell? ⟨bL_, offL + kk * 11 + 9, none⟩ = some (.int .i64 y.hgt) := hc 9 _ rfl
     have e10 : wr.cell? ⟨bL_, offL + kk * 11 + 10, none⟩ = some (y.curve.val) := hc 10 _ rfl
     have hBa : Bl wr (wr.alloc (Obj.cells #[.string y.name, .string y.src, .string y.dst, .int .i64 y.kind, .int .i64 y.len, .int .i64 y.up, .int .i64 y.down, .string y.sec, .int .i64 y.wid, .int .i64 y.hgt, y.curve.val] 45)) := bz
     have qn0 : (wr.alloc (Obj.cells #[.string y.name, .string y.src, .string y.dst, .int .i64 y.kind, .int .i64 y.len, .int .i64 y.up, .int .i64 y.down, .string y.sec, .int .i64 y.wid, .int .i64 y.hgt, y.curve.val] 45)).cell? ⟨w.heap.size, 0, none⟩ = some (.slice (some ⟨bN, offN, none⟩) xs.length c) := hBa.keep cn0
     have qn1 : (wr.alloc (Obj.cells #[.string y.name, .string y.src, .string y.dst, .int .i64 y.kind, .int .i64 y.len, .int .i64 y.up, .int .i64 y.down, .string y.sec, .int .i64 y.wid, .int .i64 y.hgt, y.curve.val] 45)).cell? ⟨w.heap.size, 1, none⟩ = some (.slice (some ⟨bL_, offL, none⟩) ls.length c2) := hBa.keep cn1
     have qr0 : (wr.alloc (Obj.cells #[.string y.name, .string y.src, .string y.dst, .int .i64 y.kind, .int .i64 y.len, .int .i64 y.up, .int .i64 y.down, .string y.sec, .int .i64 y.wid, .int .i64 y.hgt, y.curve.val] 45)).cell? ⟨w.heap.size + 3, 0, none⟩ = some (.int .i64 0) := hBa.keep cr0
     have qr1 : (wr.alloc (Obj.cells #[.string y.name, .string y.src, .string y.dst, .int .i64 y.kind, .int .i64 y.len, .int .i64 y.up, .int .i64 y.down, .string y.sec, .int .i64 y.wid, .int .i64 y.hgt, y.curve.val] 45)).cell? ⟨w.heap.size + 3, 1, none⟩ = some (.int .i64 0) := hBa.keep cr1
     have qg0 : (wr.alloc (Obj.cells #[.string y.name, .string y.src, .string y.dst, .int .i64 y.kind, .int .i64 y.len, .int .i64 y.up, .int .i64 y.down, .string y.sec, .int .i64 y.wid, .int .i64 y.hgt, y.curve.val] 45)).cell? ⟨w.heap.size + 4, 0, none⟩ = some (.int .i64 (sT)) := hBa.keep cg0
     have qg1 : (wr.alloc (Obj.cells #[.string y.name, .string y.src, .string y.dst, .int .i64 y.kind, .int .i64 y.len, .int .i64 y.up, .int .i64 y.down, .string y.sec, .int .i64 y.wid, .int .i64 y.hgt, y.curve.val] 45)).cell? ⟨w.heap.size + 4, 1, none⟩ = some (.int .i64 (sL)) := hBa.keep cg1
     have qfr0 : (wr.alloc (Obj.cells #[.string y.name, .string y.src, .string y.dst, .int .i64 y.kind, .int .i64 y.len, .int .i64 y.up, .int .i64 y.down, .string y.sec, .int .i64 y.wid, .int .i64 y.hgt, y.curve.val] 45)).frozen? ⟨w.heap.size + 3, 0, none⟩ = false := hBa.keepF cr0 cfr0
     have qfr1 : (wr.alloc (Obj.cells #[.string y.name, .string y.src, .string y.dst, .int .i64 y.kind, .int .i64 y.len, .int .i64 y.up, .int .i64 y.down, .string y.sec, .int .i64 y.wid, .int .i64 y.hgt, y.curve.val] 45)).frozen? ⟨w.heap.size + 3, 1, none⟩ = false := hBa.keepF cr1 cfr1
     have qfg0 : (wr.alloc (Obj.cells #[.string y.name, .string y.src, .string y.dst, .int .i64 y.kind, .int .i64 y.len, .int .i64 y.up, .int .i64 y.down, .string y.sec, .int .i64 y.wid, .int .i64 y.hgt, y.curve.val] 45)).frozen? ⟨w.heap.size + 4, 0, none⟩ = false := hBa.keepF cg0 cfg0
     have qfg1 : (wr.alloc (Obj.cells #[.string y.name, .string y.src, .string y.dst, .int .i64 y.kind, .int .i64 y.len, .int .i64 y.up, .int .i64 y.down, .string y.sec, .int .i64 y.wid, .int .i64 y.hgt, y.curve.val] 45)).frozen? ⟨w.heap.size + 4, 1, none⟩ = false := hBa.keepF cg1 cfg1
     have k1 : (wr.alloc (Obj.cells #[.string y.name, .string y.src, .string y.dst, .int .i64 y.kind, .int .i64 y.len, .int .i64 y.up, .int .i64 y.down, .string y.sec, .int .i64 y.wid, .int .i64 y.hgt, y.curve.val] 45)).cell? ⟨wr.heap.size, 1, none⟩ = some (.string y.src) := by simp [go_sem]
     have k2 : (wr.alloc (Obj.cells #[.string y.name, .string y.src, .string y.dst, .int .i64 y.kind, .int .i64 y.len, .int .i64 y.up, .int .i64 y.down, .string y.sec, .int .i64 y.wid, .int .i64 y.hgt, y.curve.val] 45)).cell? ⟨wr.heap.size, 2, none⟩ = some (.string y.dst) := by simp [go_sem]
     have hB0 : Bl w (wr.alloc (Obj.cells #[.string y.name, .string y.src, .string y.dst, .int .i64 y.kind, .int .i64 y.len, .int .i64 y.up, .int .i64 y.down, .string y.sec, .int .i64 y.wid, .int .i64 y.hgt, y.curve.val] 45)) := BW'.trans hBa
     have z0 : wr.heap.size < (wr.alloc (Obj.cells #[.string y.name, .string y.src, .string y.dst, .int .i64 y.kind, .int .i64 y.len, .int .i64 y.up, .int .i64 y.down, .string y.sec, .int .i64 y.wid, .int .i64 y.hgt, y.curve.val] 45)).heap.size := by simp
     have M0h := HD (M.out.keep hBa)
     clear hc
     go_wp2_with fail
     clear e0 e1 e2 e3 e4 e5 e6 e7 e8 e9 e10 M BW'
     clear cn0 cn1 cr0 cr1 cg0 cg1 cfr0 cfr1 cfg0 cfg1
     generalize (wr.alloc (Obj.cells #[.string y.name, .string y.src, .string y.dst, .int .i64 y.kind, .int .i64 y.len, .int .i64 y.up, .int .i64 y.down, .string y.sec, .int .i64 y.wid, .int .i64 y.hgt, y.curve.val] 45)) = W0 at *
     have p1 : ∀ z : Later W0, z.at'.cell? ⟨wr.heap.size, 1, none⟩ = some (.string y.src) := fun z => z.keep k1
     have p2 : ∀ z : Later W0, z.at'.cell? ⟨wr.heap.size, 2, none⟩ = some (.string y.dst) := fun z => z.keep k2
     have p3 : ∀ z : Later W0, Sem.run Tryz.prog (Instr.lookup 172 (.map (some (w.heap.size + 5))) (.string y.src) false) z.at' = .ok (.int .i64 na) z.at' := fun z => by
      have := (M0h.out.keep z.bl).lookup hU.out.1 hU.out.2 (zeroInt _) y.src false
      rw [ix1] at this
      exact this
     have p4 : ∀ z : Later W0, Sem.run Tryz.prog (Instr.lookup 172 (.map (some (w.heap.size + 5))) (.string y.dst) false) z.at' = .ok (.int .i64 nd) z.at' := fun z => by
      have := (M0h.out.keep z.bl).lookup hU.out.1 hU.out.2 (zeroInt _) y.dst false
      rw [ix2] at this
      exact this
     refine wp_region_later (by kernel_rfl) (by kernel_rfl) ?_
     repeat (go_big_quiet_step (fail))
     refine wpQuiet_nil ?_
     intro w3 hB3
     have rn0 : w3.cell? ⟨w.heap.size, 0, none⟩ = some (.slice (some ⟨bN, offN, none⟩) xs.length c) := hB3.keep qn0
     have rn1 : w3.cell? ⟨w.heap.size, 1, none⟩ = some (.slice (some ⟨bL_, offL, none⟩) ls.length c2) := hB3.keep qn1
     have rr0 : w3.cell? ⟨w.heap.size + 3, 0, none⟩ = some (.int .i64 0) := hB3.keep qr0
     have rr1 : w3.cell? ⟨w.heap.size + 3, 1, none⟩ = some (.int .i64 0) := hB3.keep qr1
     have rg0 : w3.cell? ⟨w.heap.size + 4, 0, none⟩ = some (.int .i64 (sT)) := hB3.keep qg0
     have rg1 : w3.cell? ⟨w.heap.size + 4, 1, none⟩ = some (.int .i64 (sL)) := hB3.keep qg1
     have rfr0 : w3.frozen? ⟨w.heap.size + 3, 0, none⟩ = false := hB3.keepF qr0 qfr0
     have rfr1 : w3.frozen? ⟨w.heap.size + 3, 1, none⟩ = false := hB3.keepF qr1 qfr1
     have rfg0 : w3.frozen? ⟨w.heap.size + 4, 0, none⟩ = false := hB3.keepF qg0 qfg0
     have rfg1 : w3.frozen? ⟨w.heap.size + 4, 1, none⟩ = false := hB3.keepF qg1 qfg1
     have rB : Bl w w3 := hB0.trans hB3
     have rz : wr.heap.size < w3.heap.size := by have := hB3.size; omega
     have rM := HD (M0h.out.keep hB3)
     have ra := Ha.out w3 rB
     have rd := Hd.out w3 rB
     have rk := HK.out w3 rB
     clear qn0 qn1 qr0 qr1 qg0 qg1 qfr0 qfr1 qfg0 qfg1
     clear k1 k2 hB0 z0 M0h p1 p2 p3 p4 ix1 ix2 hB3 hBa
     cases bd
     case false =>
      have HL := HD (show sumTo LN xs.length + sumTo LE (kk + 1) = sL from by rw [hLk2.out]; simp)
      cases ba
      case false =>
       have HT := HD (show sumTo TN xs.length + sumTo TE (kk + 1) = sT from by rw [hTk2.out]; simp)
       clear hTk2 hLk2
       go_wp2_with fail
       go_roundg (ls.length - (kk + 1))
       case measure => omega
       case rel => exact ⟨kk + 1, by omega, by omega, by go_num, rB, aside (by first | omega | (rw [cZ]; omega)), aside rn0, aside rn1, aside rr0, aside rr1, aside (by rw [HT.out]; exact rg0), aside (by rw [HL.out]; exact rg1), aside rfr0, aside rfr1, aside rfg0, aside rfg1, rM.out⟩
      case true =>
       have HT := HD (show sumTo TN xs.length + sumTo TE (kk + 1) = sT - qv from by rw [hTk2.out]; simp; omega)
       clear hTk2 hLk2
       go_wp2_with fail
       have pg : ∀ z : Later w3, z.at'.cell? ⟨w.heap.size + 4, 0, none⟩ = some (.int .i64 (sT)) := fun z => z.keep rg0
       have pq : ∀ z : Later w3, z.at'.cell? ⟨bQ, oQ + kk, none⟩ = some (.int .i64 qv) := fun z => HQ.out z.at' (rB.trans z.bl)
       refine wp_region_later_tail 8 (by kernel_rfl) (by kernel_rfl) ?_
       simp only [List.take_succ_cons, List.take_zero, List.drop_succ_cons, List.drop_zero]
       repeat (go_big_quiet_step (fail))
       refine wpQuiet_nil ?_
       intro w10_ hBn
       clear pg pq
       have i10n0 : w10_.cell? ⟨w.heap.size, 0, none⟩ = some (.slice (some ⟨bN, offN, none⟩) xs.length c) := hBn.keep rn0
       have i10n1 : w10_.cell? ⟨w.heap.size, 1, none⟩ = some (.slice (some ⟨bL_, offL, none⟩) ls.length c2) := hBn.keep rn1
       have i10r0 : w10_.cell? ⟨w.heap.size + 3, 0, none⟩ = some (.int .i64 0) := hBn.keep rr0
       have i10r1 : w10_.cell? ⟨w.heap.size + 3, 1, none⟩ = some (.int .i64 0) := hBn.keep rr1
       have i10g0 : w10_.cell? ⟨w.heap.size + 4, 0, none⟩ = some (.int .i64 (sT)) := hBn.keep rg0
       have i10g1 : w10_.cell? ⟨w.heap.size + 4, 1, none⟩ = some (.int .i64 (sL)) := hBn.keep rg1
       have i10fr0 : w10_.frozen? ⟨w.heap.size + 3, 0, none⟩ = false := hBn.keepF rr0 rfr0
       have i10fr1 : w10_.frozen? ⟨w.heap.size + 3, 1, none⟩ = false := hBn.keepF rr1 rfr1
       have i10fg0 : w10_.frozen? ⟨w.heap.size + 4, 0, none⟩ = false := hBn.keepF rg0 rfg0
       have i10fg1 : w10_.frozen? ⟨w.heap.size + 4, 1, none⟩ = false := hBn.keepF rg1 rfg1
       have i10z : wr.heap.size < w10_.heap.size := by have := hBn.size; omega
       have j10n0 : (w10_.setCell ⟨w.heap.size + 4, 0, none⟩ (.int .i64 (sT - qv))).cell? ⟨w.heap.size, 0, none⟩ = some (.slice (some ⟨bN, offN, none⟩) xs.length c) := (setBlk' (by omega)).trans i10n0
       have j10n1 : (w10_.setCell ⟨w.heap.size + 4, 0, none⟩ (.int .i64 (sT - qv))).cell? ⟨w.heap.size, 1, none⟩ = some (.slice (some ⟨bL_, offL, none⟩) ls.length c2) := (setBlk' (by omega)).trans i10n1
       have j10r0 : (w10_.setCell ⟨w.heap.size + 4, 0, none⟩ (.int .i64 (sT - qv))).cell? ⟨w.heap.size + 3, 0, none⟩ = some (.int .i64 0) := (setBlk' (by omega)).trans i10r0
       have j10r1 : (w10_.setCell ⟨w.heap.size + 4, 0, none⟩ (.int .i64 (sT - qv))).cell? ⟨w.heap.size + 3, 1, none⟩ = some (.int .i64 0) := (setBlk' (by omega)).trans i10r1
       have j10g0 : (w10_.setCell ⟨w.heap.size + 4, 0, none⟩ (.int .i64 (sT - qv))).cell? ⟨w.heap.size + 4, 0, none⟩ = some (.int .i64 (sT - qv)) := setSame (by rw [i10g0]; rfl)
       have j10g1 : (w10_.setCell ⟨w.heap.size + 4, 0, none⟩ (.int .i64 (sT - qv))).cell? ⟨w.heap.size + 4, 1, none⟩ = some (.int .i64 (sL)) := (setOff (by decide)).trans i10g1
       have j10fr0 : (w10_.setCell ⟨w.heap.size + 4, 0, none⟩ (.int .i64 (sT - qv))).frozen? ⟨w.heap.size + 3, 0, none⟩ = false := by simp [go_sem, i10fr0]
       have j10fr1 : (w10_.setCell ⟨w.heap.size + 4, 0, none⟩ (.int .i64 (sT - qv))).frozen? ⟨w.heap.size + 3, 1, none⟩ = false := by simp [go_sem, i10fr1]
       have j10fg0 : (w10_.setCell ⟨w.heap.size + 4, 0, none⟩ (.int .i64 (sT - qv))).frozen? ⟨w.heap.size + 4, 0, none⟩ = false := by simp [go_sem, i10fg0]
       have j10fg1 : (w10_.setCell ⟨w.heap.size + 4, 0, none⟩ (.int .i64 (sT - qv))).frozen? ⟨w.heap.size + 4, 1, none⟩ = false := by simp [go_sem, i10fg1]
       have j10B : Bl w (w10_.setCell ⟨w.heap.size + 4, 0, none⟩ (.int .i64 (sT - qv))) := Bl.setCell (rB.trans hBn) (by simp only; omega) _
       have j10M := HD ((rM.out.keep hBn).setCell ⟨w.heap.size + 4, 0, none⟩ (.int .i64 (sT - qv)) (by simp only; omega))
       have j10z : wr.heap.size < (w10_.setCell ⟨w.heap.size + 4, 0, none⟩ (.int .i64 (sT - qv))).heap.size := by rw [cZ]; exact i10z
       have j10a := Ha.out _ j10B
       have j10d := Hd.out _ j10B
       have j10k := HK.out _ j10B
       clear rn0 rn1 rr0 rr1 rg0 rg1 rfr0 rfr1 rfg0 rfg1 rB rM rz ra rd rk hBn
       go_wp2_with fail
       go_roundg (ls.length - (kk + 1))
       case measure => omega
       case rel => exact ⟨kk + 1, by omega, by omega, by go_num, j10B, aside (by first | omega | (rw [cZ]; omega)), aside j10n0, aside j10n1, aside j10r0, aside j10r1, aside (by rw [HT.out]; exact j10g0), aside (by rw [HL.out]; exact j10g1), aside j10fr0, aside j10fr1, aside j10fg0, aside j10fg1, j10M.out⟩
     case true =>
      have HL0 := HD (show sumTo LN xs.length + sumTo LE (kk + 1) = sL + (if kv = 3 then qv else 0) from by rw [hLk2.out, if_pos rfl])
      cases ba
      case false =>
       have HT := HD (show sumTo TN xs.length + sumTo TE (kk + 1) = sT + qv from by rw [hTk2.out]; simp)
       clear hTk2 hLk2
       go_wp2_with fail
       have pg : ∀ z : Later w3, z.at'.cell? ⟨w.heap.size + 4, 0, none⟩ = some (.int .i64 (sT)) := fun z => z.keep rg0
       have pq : ∀ z : Later w3, z.at'.cell? ⟨bQ, oQ + kk, none⟩ = some (.int .i64 qv) := fun z => HQ.out z.at' (rB.trans z.bl)
       refine wp_region_later_tail 8 (by kernel_rfl) (by kernel_rfl) ?_
       simp only [List.take_succ_cons, List.take_zero, List.drop_succ_cons, List.drop_zero]
       repeat (go_big_quiet_step (fail))
       refine wpQuiet_nil ?_
       intro w11_ hBn
       clear pg pq
       have i11n0 : w11_.cell? ⟨w.heap.size, 0, none⟩ = some (.slice (some ⟨bN, offN, none⟩) xs.length c) := hBn.keep rn0
       have i11n1 : w11_.cell? ⟨w.heap.size, 1, none⟩ = some (.slice (some ⟨bL_, offL, none⟩) ls.length c2) := hBn.keep rn1
       have i11r0 : w11_.cell? ⟨w.heap.size + 3, 0, none⟩ = some (.int .i64 0) := hBn.keep rr0
       have i11r1 : w11_.cell? ⟨w.heap.size + 3, 1, none⟩ = some (.int .i64 0) := hBn.keep rr1
       have i11g0 : w11_.cell? ⟨w.heap.size + 4, 0, none⟩ = some (.int .i64 (sT)) := hBn.keep rg0
       have i11g1 : w11_.cell? ⟨w.heap.size + 4, 1, none⟩ = some (.int .i64 (sL)) := hBn.keep rg1
       have i11fr0 : w11_.frozen? ⟨w.heap.size + 3, 0, none⟩ = false := hBn.keepF rr0 rfr0
       have i11fr1 : w11_.frozen? ⟨w.heap.size + 3, 1, none⟩ = false := hBn.keepF rr1 rfr1
       have i11fg0 : w11_.frozen? ⟨w.heap.size + 4, 0, none⟩ = false := hBn.keepF rg0 rfg0
       have i11fg1 : w11_.frozen? ⟨w.heap.size + 4, 1, none⟩ = false := hBn.keepF rg1 rfg1
       have i11z : wr.heap.size < w11_.heap.size := by have := hBn.size; omega
       have j11n0 : (w11_.setCell ⟨w.heap.size + 4, 0, none⟩ (.int .i64 (sT + qv))).cell? ⟨w.heap.size, 0, none⟩ = some (.slice (some ⟨bN, offN, none⟩) xs.length c) := (setBlk' (by omega)).trans i11n0
       have j11n1 : (w11_.setCell ⟨w.heap.size + 4, 0, none⟩ (.int .i64 (sT + qv))).cell? ⟨w.heap.size, 1, none⟩ = some (.slice (some ⟨bL_, offL, none⟩) ls.length c2) := (setBlk' (by omega)).trans i11n1
       have j11r0 : (w11_.setCell ⟨w.heap.size + 4, 0, none⟩ (.int .i64 (sT + qv))).cell? ⟨w.heap.size + 3, 0, none⟩ = some (.int .i64 0) := (setBlk' (by omega)).trans i11r0
       have j11r1 : (w11_.setCell ⟨w.heap.size + 4, 0, none⟩ (.int .i64 (sT + qv))).cell? ⟨w.heap.size + 3, 1, none⟩ = some (.int .i64 0) := (setBlk' (by omega)).trans i11r1
       have j11g0 : (w11_.setCell ⟨w.heap.size + 4, 0, none⟩ (.int .i64 (sT + qv))).cell? ⟨w.heap.size + 4, 0, none⟩ = some (.int .i64 (sT + qv)) := setSame (by rw [i11g0]; rfl)
       have j11g1 : (w11_.setCell ⟨w.heap.size + 4, 0, none⟩ (.int .i64 (sT + qv))).cell? ⟨w.heap.size + 4, 1, none⟩ = some (.int .i64 (sL)) := (setOff (by decide)).trans i11g1
       have j11fr0 : (w11_.setCell ⟨w.heap.size + 4, 0, none⟩ (.int .i64 (sT + qv))).frozen? ⟨w.heap.size + 3, 0, none⟩ = false := by simp [go_sem, i11fr0]
       have j11fr1 : (w11_.setCell ⟨w.heap.size + 4, 0, none⟩ (.int .i64 (sT + qv))).frozen? ⟨w.heap.size + 3, 1, none⟩ = false := by simp [go_sem, i11fr1]
       have j11fg0 : (w11_.setCell ⟨w.heap.size + 4, 0, none⟩ (.int .i64 (sT + qv))).frozen? ⟨w.heap.size + 4, 0, none⟩ = false := by simp [go_sem, i11fg0]
       have j11fg1 : (w11_.setCell ⟨w.heap.size + 4, 0, none⟩ (.int .i64 (sT + qv))).frozen? ⟨w.heap.size + 4, 1, none⟩ = false := by simp [go_sem, i11fg1]
       have j11B : Bl w (w11_.setCell ⟨w.heap.size + 4, 0, none⟩ (.int .i64 (sT + qv))) := Bl.setCell (rB.trans hBn) (by simp only; omega) _
       have j11M := HD ((rM.out.keep hBn).setCell ⟨w.heap.size + 4, 0, none⟩ (.int .i64 (sT + qv)) (by simp only; omega))
       have j11z : wr.heap.size < (w11_.setCell ⟨w.heap.size + 4, 0, none⟩ (.int .i64 (sT + qv))).heap.size := by rw [cZ]; exact i11z
       have j11a := Ha.out _ j11B
       have j11d := Hd.out _ j11B
       have j11k := HK.out _ j11B
       clear rn0 rn1 rr0 rr1 rg0 rg1 rfr0 rfr1 rfg0 rfg1 rB rM rz ra rd rk hBn
       cases hk : (kv == 3)
       case false =>
        have HL := HD (show sumTo LN xs.length + sumTo LE (kk + 1) = sL from by rw [HL0.out, if_neg (by simpa using hk)]; omega)
        clear HL0
        go_wp2_with fail
        go_roundg (ls.length - (kk + 1))
        case measure => omega
        case rel => exact ⟨kk + 1, by omega, by omega, by go_num, j11B, aside (by first | omega | (rw [cZ]; omega)), aside j11n0, aside j11n1, aside j11r0, aside j11r1, aside (by rw [HT.out]; exact j11g0), aside (by rw [HL.out]; exact j11g1), aside j11fr0, aside j11fr1, aside j11fg0, aside j11fg1, j11M.out⟩
       case true =>
        have HL := HD (show sumTo LN xs.length + sumTo LE (kk + 1) = sL + qv from by rw [HL0.out, if_pos (by simpa using hk)])
        clear HL0
        go_wp2_with fail
        clear i11n0 i11n1 i11r0 i11r1 i11g0 i11g1 i11fr0 i11fr1 i11fg0 i11fg1 i11z
        generalize (w11_.setCell ⟨w.heap.size + 4, 0, none⟩ (.int .i64 (sT + qv))) = W4 at *
        have pg : ∀ z : Later W4, z.at'.cell? ⟨w.heap.size + 4, 1, none⟩ = some (.int .i64 (sL)) := fun z => z.keep j11g1
        have pq : ∀ z : Later W4, z.at'.cell? ⟨bQ, oQ + kk, none⟩ = some (.int .i64 qv) := fun z => HQ.out z.at' (j11B.trans z.bl)
        refine wp_region_later_tail 8 (by kernel_rfl) (by kernel_rfl) ?_
        simp only [List.take_succ_cons, List.take_zero, List.drop_succ_cons, List.drop_zero]
        repeat (go_big_quiet_step (fail))
        refine wpQuiet_nil ?_
        intro w12_ hBn
        clear pg pq
        have i12n0 : w12_.cell? ⟨w.heap.size, 0, none⟩ = some (.slice (some ⟨bN, offN, none⟩) xs.length c) := hBn.keep j11n0
        have i12n1 : w12_.cell? ⟨w.heap.size, 1, none⟩ = some (.slice (some ⟨bL_, offL, none⟩) ls.length c2) := hBn.keep j11n1
        have i12r0 : w12_.cell? ⟨w.heap.size + 3, 0, none⟩ = some (.int .i64 0) := hBn.keep j11r0
        have i12r1 : w12_.cell? ⟨w.heap.size + 3, 1, none⟩ = some (.int .i64 0) := hBn.keep j11r1
        have i12g0 : w12_.cell? ⟨w.heap.size + 4, 0, none⟩ = some (.int .i64 (sT + qv)) := hBn.keep j11g0
        have i12g1 : w12_.cell? ⟨w.heap.size + 4, 1, none⟩ = some (.int .i64 (sL)) := hBn.keep j11g1
        have i12fr0 : w12_.frozen? ⟨w.heap.size + 3, 0, none⟩ = false := hBn.keepF j11r0 j11fr0
        have i12fr1 : w12_.frozen? ⟨w.heap.size + 3, 1, none⟩ = false := hBn.keepF j11r1 j11fr1
        have i12fg0 : w12_.frozen? ⟨w.heap.size + 4, 0, none⟩ = false := hBn.keepF j11g0 j11fg0
        have i12fg1 : w12_.frozen? ⟨w.heap.size + 4, 1, none⟩ = false := hBn.keepF j11g1 j11fg1
        have i12z : wr.heap.size < w12_.heap.size := by have := hBn.size; omega
        have j12n0 : (w12_.setCell ⟨w.heap.size + 4, 1, none⟩ (.int .i64 (sL + qv))).cell? ⟨w.heap.size, 0, none⟩ = some (.slice (some ⟨bN, offN, none⟩) xs.length c) := (setBlk' (by omega)).trans i12n0
        have j12n1 : (w12_.setCell ⟨w.heap.size + 4, 1, none⟩ (.int .i64 (sL + qv))).cell? ⟨w.heap.size, 1, none⟩ = some (.slice (some ⟨bL_, offL, none⟩) ls.length c2) := (setBlk' (by omega)).trans i12n1
        have j12r0 : (w12_.setCell ⟨w.heap.size + 4, 1, none⟩ (.int .i64 (sL + qv))).cell? ⟨w.heap.size + 3, 0, none⟩ = some (.int .i64 0) := (setBlk' (by omega)).trans i12r0
        have j12r1 : (w12_.setCell ⟨w.heap.size + 4, 1, none⟩ (.int .i64 (sL + qv))).cell? ⟨w.heap.size + 3, 1, none⟩ = some (.int .i64 0) := (setBlk' (by omega)).trans i12r1
        have j12g0 : (w12_.setCell ⟨w.heap.size + 4, 1, none⟩ (.int .i64 (sL + qv))).cell? ⟨w.heap.size + 4, 0, none⟩ = some (.int .i64 (sT + qv)) := (setOff (by decide)).trans i12g0
        have j12g1 : (w12_.setCell ⟨w.heap.size + 4, 1, none⟩ (.int .i64 (sL + qv))).cell? ⟨w.heap.size + 4, 1, none⟩ = some (.int .i64 (sL + qv)) := setSame (by rw [i12g1]; rfl)
        have j12fr0 : (w12_.setCell ⟨w.heap.size + 4, 1, none⟩ (.int .i64 (sL + qv))).frozen? ⟨w.heap.size + 3, 0, none⟩ = false := by simp [go_sem, i12fr0]
        have j12fr1 : (w12_.setCell ⟨w.heap.size + 4, 1, none⟩ (.int .i64 (sL + qv))).frozen? ⟨w.heap.size + 3, 1, none⟩ = false := by simp [go_sem, i12fr1]
        have j12fg0 : (w12_.setCell ⟨w.heap.size + 4, 1, none⟩ (.int .i64 (sL + qv))).frozen? ⟨w.heap.size + 4, 0, none⟩ = false := by simp [go_sem, i12fg0]
        have j12fg1 : (w12_.setCell ⟨w.heap.size + 4, 1, none⟩ (.int .i64 (sL + qv))).frozen? ⟨w.heap.size + 4, 1, none⟩ = false := by simp [go_sem, i12fg1]
        have j12B : Bl w (w12_.setCell ⟨w.heap.size + 4, 1, none⟩ (.int .i64 (sL + qv))) := Bl.setCell (j11B.trans hBn) (by simp only; omega) _
        have j12M := HD ((j11M.out.keep hBn).setCell ⟨w.heap.size + 4, 1, none⟩ (.int .i64 (sL + qv)) (by simp only; omega))
        have j12z : wr.heap.size < (w12_.setCell ⟨w.heap.size + 4, 1, none⟩ (.int .i64 (sL + qv))).heap.size := by rw [cZ]; exact i12z
        have j12a := Ha.out _ j12B
        have j12d := Hd.out _ j12B
        have j12k := HK.out _ j12B
        clear j11n0 j11n1 j11r0 j11r1 j11g0 j11g1 j11fr0 j11fr1 j11fg0 j11fg1 j11B j11M j11z j11a j11d j11k hBn
        go_wp2_with fail
        go_roundg (ls.length - (kk + 1))
        case measure => omega
        case rel => exact ⟨kk + 1, by omega, by omega, by go_num, j12B, aside (by first | omega | (rw [cZ]; omega)), aside j12n0, aside j12n1, aside j12r0, aside j12r1, aside (by rw [HT.out]; exact j12g0), aside (by rw [HL.out]; exact j12g1), aside j12fr0, aside j12fr1, aside j12fg0, aside j12fg1, j12M.out⟩
      case true =>
       have HT := HD (show sumTo TN xs.length + sumTo TE (kk + 1) = sT from by rw [hTk2.out]; simp)
       clear hTk2 hLk2
       cases hk : (kv == 3)
       case false =>
        have HL := HD (show sumTo LN xs.length + sumTo LE (kk + 1) = sL from by rw [HL0.out, if_neg (by simpa using hk)]; omega)
        clear HL0
        go_wp2_with fail
        go_roundg (ls.length - (kk + 1))
        case measure => omega
        case rel => exact ⟨kk + 1, by omega, by omega, by go_num, rB, aside (by first | omega | (rw [cZ]; omega)), aside rn0, aside rn1, aside rr0, aside rr1, aside (by rw [HT.out]; exact rg0), aside (by rw [HL.out]; exact rg1), aside rfr0, aside rfr1, aside rfg0, aside rfg1, rM.out⟩
       case true =>
        have HL := HD (show sumTo LN xs.length + sumTo LE (kk + 1) = sL + qv from by rw [HL0.out, if_pos (by simpa using hk)])
        clear HL0
        go_wp2_with fail
        have pg : ∀ z : Later w3, z.at'.cell? ⟨w.heap.size + 4, 1, none⟩ = some (.int .i64 (sL)) := fun z => z.keep rg1
        have pq : ∀ z : Later w3, z.at'.cell? ⟨bQ, oQ + kk, none⟩ = some (.int .i64 qv) := fun z => HQ.out z.at' (rB.trans z.bl)
        refine wp_region_later_tail 8 (by kernel_rfl) (by kernel_rfl) ?_
        simp only [List.take_succ_cons, List.take_zero, List.drop_succ_cons, List.drop_zero]
        repeat (go_big_quiet_step (fail))
        refine wpQuiet_nil ?_
        intro w13_ hBn
        clear pg pq
        have i13n0 : w13_.cell? ⟨w.heap.size, 0, none⟩ = some (.slice (some ⟨bN, offN, none⟩) xs.length c) := hBn.keep rn0
        have i13n1 : w13_.cell? ⟨w.heap.size, 1, none⟩ = some (.slice (some ⟨bL_, offL, none⟩) ls.length c2) := hBn.keep rn1
        have i13r0 : w13_.cell? ⟨w.heap.size + 3, 0, none⟩ = some (.int .i64 0) := hBn.keep rr0
        have i13r1 : w13_.cell? ⟨w.heap.size + 3, 1, none⟩ = some (.int .i64 0) := hBn.keep rr1
        have i13g0 : w13_.cell? ⟨w.heap.size + 4, 0, none⟩ = some (.int .i64 (sT)) := hBn.keep rg0
        have i13g1 : w13_.cell? ⟨w.heap.size + 4, 1, none⟩ = some (.int .i64 (sL)) := hBn.keep rg1
        have i13fr0 : w13_.frozen? ⟨w.heap.size + 3, 0, none⟩ = false := hBn.keepF rr0 rfr0
        have i13fr1 : w13_.frozen? ⟨w.heap.size + 3, 1, none⟩ = false := hBn.keepF rr1 rfr1
        have i13fg0 : w13_.frozen? ⟨w.heap.size + 4, 0, none⟩ = false := hBn.keepF rg0 rfg0
        have i13fg1 : w13_.frozen? ⟨w.heap.size + 4, 1, none⟩ = false := hBn.keepF rg1 rfg1
        have i13z : wr.heap.size < w13_.heap.size := by have := hBn.size; omega
        have j13n0 : (w13_.setCell ⟨w.heap.size + 4, 1, none⟩ (.int .i64 (sL + qv))).cell? ⟨w.heap.size, 0, none⟩ = some (.slice (some ⟨bN, offN, none⟩) xs.length c) := (setBlk' (by omega)).trans i13n0
        have j13n1 : (w13_.setCell ⟨w.heap.size + 4, 1, none⟩ (.int .i64 (sL + qv))).cell? ⟨w.heap.size, 1, none⟩ = some (.slice (some ⟨bL_, offL, none⟩) ls.length c2) := (setBlk' (by omega)).trans i13n1
        have j13r0 : (w13_.setCell ⟨w.heap.size + 4, 1, none⟩ (.int .i64 (sL + qv))).cell? ⟨w.heap.size + 3, 0, none⟩ = some (.int .i64 0) := (setBlk' (by omega)).trans i13r0
        have j13r1 : (w13_.setCell ⟨w.heap.size + 4, 1, none⟩ (.int .i64 (sL + qv))).cell? ⟨w.heap.size + 3, 1, none⟩ = some (.int .i64 0) := (setBlk' (by omega)).trans i13r1
        have j13g0 : (w13_.setCell ⟨w.heap.size + 4, 1, none⟩ (.int .i64 (sL + qv))).cell? ⟨w.heap.size + 4, 0, none⟩ = some (.int .i64 (sT)) := (setOff (by decide)).trans i13g0
        have j13g1 : (w13_.setCell ⟨w.heap.size + 4, 1, none⟩ (.int .i64 (sL + qv))).cell? ⟨w.heap.size + 4, 1, none⟩ = some (.int .i64 (sL + qv)) := setSame (by rw [i13g1]; rfl)
        have j13fr0 : (w13_.setCell ⟨w.heap.size + 4, 1, none⟩ (.int .i64 (sL + qv))).frozen? ⟨w.heap.size + 3, 0, none⟩ = false := by simp [go_sem, i13fr0]
        have j13fr1 : (w13_.setCell ⟨w.heap.size + 4, 1, none⟩ (.int .i64 (sL + qv))).frozen? ⟨w.heap.size + 3, 1, none⟩ = false := by simp [go_sem, i13fr1]
        have j13fg0 : (w13_.setCell ⟨w.heap.size + 4, 1, none⟩ (.int .i64 (sL + qv))).frozen? ⟨w.heap.size + 4, 0, none⟩ = false := by simp [go_sem, i13fg0]
        have j13fg1 : (w13_.setCell ⟨w.heap.size + 4, 1, none⟩ (.int .i64 (sL + qv))).frozen? ⟨w.heap.size + 4, 1, none⟩ = false := by simp [go_sem, i13fg1]
        have j13B : Bl w (w13_.setCell ⟨w.heap.size + 4, 1, none⟩ (.int .i64 (sL + qv))) := Bl.setCell (rB.trans hBn) (by simp only; omega) _
        have j13M := HD ((rM.out.keep hBn).setCell ⟨w.heap.size + 4, 1, none⟩ (.int .i64 (sL + qv)) (by simp only; omega))
        have j13z : wr.heap.size < (w13_.setCell ⟨w.heap.size + 4, 1, none⟩ (.int .i64 (sL + qv))).heap.size := by rw [cZ]; exact i13z
        have j13a := Ha.out _ j13B
        have j13d := Hd.out _ j13B
        have j13k := HK.out _ j13B
        clear rn0 rn1 rr0 rr1 rg0 rg1 rfr0 rfr1 rfg0 rfg1 rB rM rz ra rd rk hBn
        go_wp2_with fail
        go_roundg (ls.length - (kk + 1))
        case measure => omega
        case rel => exact ⟨kk + 1, by omega, by omega, by go_num, j13B, aside (by first | omega | (rw [cZ]; omega)), aside j13n0, aside j13n1, aside j13r0, aside j13r1, aside (by rw [HT.out]; exact j13g0), aside (by rw [HL.out]; exact j13g1), aside j13fr0, aside j13fr1, aside j13fg0, aside j13fg1, j13M.out⟩
    ·have hltz : ¬ (kk : Int) < (ls.length : Int) := by omega
     have hkl : kk = ls.length := by omega
     subst hkl
     have g1 : IntKind.i64.wrap (sumTo TN xs.length + sumTo TE ls.length - (sumTo LN xs.length + sumTo LE ls.length)) = sumTo TN xs.length + sumTo TE ls.length - (sumTo LN xs.length + sumTo LE ls.length) := IntWalk.i64_in _ (by omega)
     clear hg hkk hlt bS bL bS2 bL2
     generalize sumTo TN xs.length + sumTo TE ls.length = sT at *
     generalize sumTo LN xs.length + sumTo LE ls.length = sL at *
     go_wp2_with fail
     refine ret58 _ _ (w.heap.size + 3) (.int .i64 (sT - sL)) (.int .i64 sL) _ rfl ?_ ?_ ⟨by rw [hR.out.1, hR.out.2], Bl.setCell (Bl.setCell (Bl.setCell BW' (by simp only; omega) _) (by simp only; omega) _) (by simp only; omega) _⟩
     ·exact (setOff (by decide)).trans (setSame (by rw [setBlk' (by omega), cr0]; rfl))
     ·exact setSame (by rw [setOff (by decide), setBlk' (by omega), cr1]; rfl)
theorem f58_c (n : Net) (ins : Sl Bool) (s s' : St) (inf pass : Sl Int) (g : Led) (w : World) (hN : InNet w n) (hB : InB w ins) (ht : InSt w s) (ht' : InSt w s') (hI : InI w inf) (hp : InI w pass) (hok : StateOk n s) (h : StepOk n s s' inf.xs g) (hg : g.pass.xs = pass.xs) (hl : ins.xs.length = n.nodes.xs.length) :
 Calls Tryz.prog 58 #[n.val, ins.val, s.val, s'.val, inf.val, pass.val] w fun e w' => e = .returned (.agg #[.int .i64 0, .int .i64 (lostA n ins.xs inf.xs pass.xs)]) /\ Bl w w' := by
 have hz : restA n ins.xs s.vol.xs s.pond.xs inf.xs s'.vol.xs s'.pond.xs pass.xs = 0 := by
  have hp := part_law hok h (fun i => ins.xs[i]!)
  rw [hg] at hp
  unfold restA lostA
  have e1 : sumTo (tN ins.xs s.vol.xs s.pond.xs inf.xs s'.vol.xs s'.pond.xs) n.nodes.xs.length = sumTo (fun i => if ins.xs[i]! = true then nodeT s s' inf.xs i else 0) n.nodes.xs.length := rfl
  have e2 : sumTo (tE n ins.xs pass.xs) n.links.xs.length = sumTo (fun k => crossE (fun i => ins.xs[i]!) (edA n k) (edD n k) (pass.xs[k]!)) n.links.xs.length := rfl
  have e3 : sumTo (lN n.nodes.xs ins.xs inf.xs) n.nodes.xs.length = sumTo (fun i => if ins.xs[i]! = true then (if kd n.nodes.xs i = 3 then inf.xs[i]! else 0) else 0) n.nodes.xs.length := rfl
  have e4 : sumTo (lE n ins.xs pass.xs) n.links.xs.length = sumTo (fun k => if ins.xs[edD n k]! = true then (if kd n.nodes.xs (edD n k) = 3 then pass.xs[k]! else 0) else 0) n.links.xs.length := rfl
  rw [e1, e2, e3, e4, hp]
  omega
 have b1 : ∀ i, i < s.vol.xs.length -> _ := state_bounds hok
 have b2 : ∀ i, i < s'.vol.xs.length -> _ := state_bounds h.ok
 have l1 := hok.2.1
 have l2 := hok.2.2.1
 have l3 := h.ok.2.1
 have l4 := h.ok.2.2.1
 have l5 := h.il
 have l6 := h.pl
 rw [hg] at l6
 have q1 : bdI n.nodes.xs.length s.vol.xs := ⟨l1, fun i hi => ⟨(b1 i (by omega)).1, (b1 i (by omega)).2.1⟩⟩
 have q2 : bdI n.nodes.xs.length s.pond.xs := ⟨l2, fun i hi => (b1 i (by omega)).2.2⟩
 have q3 : bdI n.nodes.xs.length s'.vol.xs := ⟨l3, fun i hi => ⟨(b2 i (by omega)).1, (b2 i (by omega)).2.1⟩⟩
 have q4 : bdI n.nodes.xs.length s'.pond.xs := ⟨l4, fun i hi => (b2 i (by omega)).2.2⟩
 have q5 : bdI n.nodes.xs.length inf.xs := ⟨l5, fun i hi => h.ib i (by omega)⟩
 have q6 : ∀ k, k < n.links.xs.length -> 0 ≤ pass.xs[k]! /\ pass.xs[k]! ≤ 9007199254740992 := fun k hk => by have := h.pb k hk; rwa [hg] at this
 rw [<- hz]
 obtain ⟨⟨A, c, xs⟩, ⟨A2, c2, ls⟩⟩ := n
 obtain ⟨⟨VA, vc, vs⟩, ⟨PA, pc, ps⟩, ss, so⟩ := s
 obtain ⟨⟨VA', vc', vs'⟩, ⟨PA', pc', ps'⟩, ss', so'⟩ := s'
 obtain ⟨IA, ic, is⟩ := inf
 obtain ⟨QA, qc, qs⟩ := pass
 obtain ⟨BA, bc, bs⟩ := ins
 exact f58_core A A2 BA VA PA VA' PA' IA QA c c2 bc vc pc vc' pc' ic qc xs ls bs vs ps is vs' ps' qs ss ss' so so' w hN hok.1 hB ht.vol ht.pond ht'.vol ht'.pond hI hp hl q1 q2 q3 q4 q5 l6 q6
theorem e92 (args : Array Value) (w : World) : (callFunc 92 args).run Tryz.prog w = .ok (.enter 92 args) w := enters_of Tryz.func92 (by kernel_rfl) rfl args w
theorem f92_c (n : Net) (g : Led) (q : Nat) (w : World) (hN : InNet w n) (hg : InLed w g) (h0 : w.cell? ⟨q, 0, none⟩ = some n.nodes.val) (h1 : w.cell? ⟨q, 1, none⟩ = some n.links.val) : Calls Tryz.prog 92 #[g.val, .pointer (some ⟨q, 0, none⟩)] w fun e w' => e = .returned (.bool (!ledB n g)) /\ Bl w w' := by
 have T := HD (fun W (h : Bl w W) => f63_c n g W (InNet.up hN h) (InLed.up hg h))
 have hq := cell_lt h0
 simp only at hq
 clear hN hg
 go_enter Tryz.func92, Tryz.ntmps92
 go_wp2_with fail
 refine (T.out _ bz).mono ?_
 rintro e w1 ⟨rfl, hw1⟩
 go_wp2_with fail
 go_ret
 exact ⟨rfl, bz⟩
theorem f62_c (n : Net) (l : Sl Led) (w : World) (hN : InNet w n) (hl : InLeds w l) (hb : netB n = true) (hg : ∀ g ∈ l.xs, ledB n g = true) (h4 : l.xs.length ≤ 10000) : Calls Tryz.prog 62 #[n.val, l.val] w fun e w' => e = .returned (.int .i64 0) /\ Bl w w' := by
 have T54 := HD (fun W (h : Bl w W) => f54_c n W (InNet.up hN h))
 rw [hb] at T54
 have T91 := HD (fun W (q : Nat) (h : Bl w W) (h0 : W.cell? ⟨q, 0, none⟩ = some n.nodes.val) (h1 : W.cell? ⟨q, 1, none⟩ = some n.links.val) => f91_c l W.heap.size 92 #[.pointer (some ⟨q, 0, none⟩)] (fun g => !ledB n g) W (InLeds.up hl h) (fun W' x hx hb' => f92_c n x q W' (InNet.up hN (h.trans hb')) (InLed.up (hl.each x hx) (h.trans hb')) (hb'.keep h0) (hb'.keep h1)) e92)
 have hany : l.xs.any (fun g => !ledB n g) = false := by
  rw [List.any_eq_false]
  intro x hx
  simp [hg x hx]
 rw [hany] at T91
 obtain ⟨LA, lc, gs⟩ := l
 obtain ⟨⟨A, c, xs⟩, ⟨A2, c2, ls⟩⟩ := n
 have h4z : ¬ (10000 : Int) < (gs.length : Int) := by simp only at h4; omega
 clear hN hl hb hg hany h4
 show Calls Tryz.prog 62 #[.agg #[.slice A xs.length c, .slice A2 ls.length c2], .slice LA gs.length lc] w _
 go_enter Tryz.func62, Tryz.ntmps62
 go_wp2_with fail
 refine (T54.out _ bz).mono ?_
 rintro e w1 ⟨rfl, hw1⟩
 have a0 : w1.cell? ⟨w.heap.size, 0, none⟩ = some (.slice A xs.length c) := hw1.keep (by simp [go_sem])
 have a1 : w1.cell? ⟨w.heap.size, 1, none⟩ = some (.slice A2 ls.length c2) := hw1.keep (by simp [go_sem])
 have hB1 : Bl w w1 := bz
 clear hw1
 go_wp2_with fail
 refine (T91.out _ _ hB1 a0 a1).mono ?_
 rintro e w2 ⟨rfl, hw2⟩
 go_wp2_with fail
 go_ret
 exact ⟨rfl, hB1.trans hw2⟩
def PM (gs : List Led) (L k j : Nat) : List Int := (List.range L).map (fun i => if i < j then passT gs i (k + 1) else passT gs i k)
def PL (gs : List Led) (L k : Nat) : List Int := (List.range L).map (fun i => passT gs i k)
theorem PM_len (gs : List Led) (L k j : Nat) : (PM gs L k j).length = L := by simp [PM]
theorem PL_len (gs : List Led) (L k : Nat) : (PL gs L k).length = L := by simp [PL]
theorem PM_get (gs : List Led) (L k j i : Nat) (h : i < (PM gs L k j).length) : (PM gs L k j)[i] = if i < j then passT gs i (k + 1) else passT gs i k := by simp [PM]
theorem PM_zero (gs : List Led) (L k : Nat) : PM gs L k 0 = PL gs L k := by simp [PM, PL]
theorem PM_all (gs : List Led) (L k : Nat) : PM gs L k L = PL gs L (k + 1) := by
 refine List.ext_getElem (by simp [PM, PL]) (fun i h1 h2 => ?_)
 rw [PM_get, if_pos (by rw [PM_len] at h1; exact h1)]
 simp [PL]
theorem PM_set (gs : List Led) (L k j : Nat) : (PM gs L k j).set j (passT gs j (k + 1)) = PM gs L k (j + 1) := by
 refine List.ext_getElem (by simp [PM]) (fun i h1 h2 => ?_)
 rw [PM_get, List.getElem_set]
 by_cases h : j = i
 ·subst h
  rw [if_pos rfl, if_pos (by omega)]
 ·rw [if_neg h, PM_get]
  by_cases h3 : i < j
  ·rw [if_pos h3, if_pos (by omega)]
  ·rw [if_neg h3, if_neg (by omega)]
theorem PL_zero (gs : List Led) (L : Nat) : PL gs L 0 = List.replicate L 0 := by
 refine List.ext_getElem (by simp [PL]) (fun i h1 h2 => ?_)
 simp [PL, passT, sumTo]
theorem ledB_flood {n : Net} {fs : List Infl} {x : St} {ss : List St} {gs : List Led} (h : RunOk n fs x ss gs) (hx : StateOk n x) {k : Nat} (hk : k ≤ ss.length) (A : Option Addr) (c : Nat) :
 ledB n ⟨cameT gs k, leftT gs k, ⟨A, c, PL gs n.links.xs.length k⟩⟩ = !floodB n.links.xs.length gs k := by
 have h1 := (came_bound h hk).1
 have h2 := (left_bound h hx hk).1
 cases hf : floodB n.links.xs.length gs k
 ·have hn : ¬ (1152921504606846976 < cameT gs k \/ 1152921504606846976 < leftT gs k \/ ∃ i, i < n.links.xs.length /\ 9007199254740992 < passT gs i k) := fun hh => by rw [(flood_iff _ _ _).mpr hh] at hf; cases hf
  simp only [not_or, not_exists, not_and, Int.not_lt] at hn
  obtain ⟨a, b, c'⟩ := hn
  simp only [ledB, Bool.and_eq_true, decide_eq_true_eq, Bool.not_false]
  refine ⟨⟨?_, PL_len _ _ _⟩, ?_⟩
  ·rw [inAll_iff]
   intro i hi
   match i, hi with
   | 0, _ => exact ⟨h1, a⟩
   | 1, _ => exact ⟨h2, b⟩
  ·rw [inAll_iff]
   intro i hi
   rw [PL_len] at hi
   have e : (PL gs n.links.xs.length k)[i]! = passT gs i k := by rw [getElem!_pos _ i (by rw [PL_len]; exact hi)]; simp [PL]
   rw [e]
   exact ⟨(pass_bound h hk hi).1, c' i hi⟩
 ·rw [flood_iff] at hf
  simp only [Bool.not_true]
  cases hl : ledB n ⟨cameT gs k, leftT gs k, ⟨A, c, PL gs n.links.xs.length k⟩⟩
  ·rfl
  ·exfalso
   simp only [ledB, Bool.and_eq_true, decide_eq_true_eq] at hl
   obtain ⟨⟨a, _⟩, b⟩ := hl
   rw [inAll_iff] at a b
   have a0 := (a 0 (by simp)).2
   have a1 := (a 1 (by simp)).2
   rcases hf with hf | hf | ⟨i, hi, hf⟩
   ·have : cameT gs k ≤ 1152921504606846976 := a0
    omega
   ·have : leftT gs k ≤ 1152921504606846976 := a1
    omega
   ·have hb := (b i (by rw [PL_len]; exact hi)).2
    have e : (PL gs n.links.xs.length k)[i]! = passT gs i k := by rw [getElem!_pos _ i (by rw [PL_len]; exact hi)]; simp [PL]
    rw [e] at hb
    omega
theorem step_ledB {n : Net} {s s' : St} {inf : List Int} {g : Led} (hs : StateOk n s) (h : StepOk n s s' inf g) : ledB n g = true := by
 have h1 := inn_bound h
 have h2 := out_bound hs h
 have h3 := ((netB_iff n).mp hs.1).1
 simp only [ledB, Bool.and_eq_true, decide_eq_true_eq]
 refine ⟨⟨?_, h.pl⟩, ?_⟩
 ·rw [inAll_iff]
  intro i hi
  match i, hi with
  | 0, _ => exact ⟨h1.1, by show g.inn ≤ _; omega⟩
  | 1, _ => exact ⟨h2.1, by show g.out ≤ _; omega⟩
 ·rw [inAll_iff]
  intro i hi
  rw [h.pl] at hi
  exact h.pb i hi
theorem run_ledB {n : Net} {fs : List Infl} {x : St} {ss : List St} {gs : List Led} (h : RunOk n fs x ss gs) (hx : StateOk n x) : ∀ g ∈ gs, ledB n g = true := fun g hg => by
 obtain ⟨i, hi, rfl⟩ := List.getElem_of_mem hg
 have hi2 : i < ss.length := by rw [<- h.1]; exact hi
 have := step_ledB (h.state hx (by omega : i ≤ ss.length)) (h.2 i hi2)
 rwa [List.getD_eq_getElem?_getD, List.getElem?_eq_getElem hi] at this
def RSum (n : Net) (gs : List Led) (w : World) (e : Ending) (w' : World) : Prop := ∃ (g : Led) (q : Int), e = .returned (.tuple #[g.val, .int .i64 q]) /\ (floodB n.links.xs.length gs gs.length = true -> q = 5) /\ (floodB n.links.xs.length gs gs.length = false -> q = 0 /\ g.inn = cameT gs gs.length /\ g.out = leftT gs gs.length) /\ Bl w w'
theorem flood_later {n : Net} {fs : List Infl} {x : St} {ss : List St} {gs : List Led} (h : RunOk n fs x ss gs) (hx : StateOk n x) {k : Nat} : ∀ d, k + d ≤ ss.length -> floodB n.links.xs.length gs k = true -> floodB n.links.xs.length gs (k + d) = true
 | 0, _, hf => hf
 | d + 1, hk, hf => flood_mono h hx (by omega : k + d < ss.length) (flood_later h hx d (by omega) hf)
structure SumStep (n : Net) (gs : List Led) (k : Nat) (g : Led) : Prop where
 c1 : cameT gs (k + 1) = cameT gs k + g.inn
 l1 : leftT gs (k + 1) = leftT gs k + g.out
 cb : 0 ≤ cameT gs k /\ cameT gs k ≤ 1152921504606846976
 lb : 0 ≤ leftT gs k /\ leftT gs k ≤ 1152921504606846976
 ib : 0 ≤ g.inn /\ g.inn ≤ 1152921504606846976
 ob : 0 ≤ g.out /\ g.out ≤ 1152921504606846976
 pl : g.pass.xs.length = n.links.xs.length
 ps : ∀ i, i < n.links.xs.length -> passT gs i (k + 1) = passT gs i k + g.pass.xs[i]! /\ 0 ≤ passT gs i k /\ passT gs i k ≤ 9007199254740992 /\ 0 ≤ g.pass.xs[i]! /\ g.pass.xs[i]! ≤ 9007199254740992
theorem sum_step {n : Net} {fs : List Infl} {x : St} {ss : List St} {gs : List Led} (h : RunOk n fs x ss gs) (hx : StateOk n x) {k : Nat} (hk : k < gs.length) (hf : floodB n.links.xs.length gs k = false) : SumStep n gs k gs[k] := by
 have hk2 : k < ss.length := by rw [<- h.1]; exact hk
 have hn : ¬ (1152921504606846976 < cameT gs k \/ 1152921504606846976 < leftT gs k \/ ∃ i, i < n.links.xs.length /\ 9007199254740992 < passT gs i k) := fun hh => by rw [(flood_iff _ _ _).mpr hh] at hf; cases hf
 simp only [not_or, not_exists, not_and, Int.not_lt] at hn
 obtain ⟨a, b, c⟩ := hn
 have hs := h.2 k hk2
 have e : gs.getD k gz = gs[k] := by rw [List.getD_eq_getElem?_getD, List.getElem?_eq_getElem hk]; rfl
 have h3 := ((netB_iff n).mp hx.1).1
 have i1 := inn_bound hs
 have o1 := out_bound (h.state hx (by omega : k ≤ ss.length)) hs
 have p1 := hs.pb
 have p2 := hs.pl
 rw [e] at i1 o1 p1 p2
 have c0 := (came_bound h (by omega : k ≤ ss.length)).1
 have l0 := (left_bound h hx (by omega : k ≤ ss.length)).1
 refine ⟨?_, ?_, ⟨c0, a⟩, ⟨l0, b⟩, ⟨i1.1, by omega⟩, ⟨o1.1, by omega⟩, p2, fun i hi => ⟨?_, (pass_bound h (by omega : k ≤ ss.length) hi).1, c i hi, p1 i hi⟩⟩
 ·show cameT gs k + (gs.getD k gz).inn = _; rw [e]
 ·show leftT gs k + (gs.getD k gz).out = _; rw [e]
 ·show passT gs i k + (gs.getD k gz).pass.xs[i]! = _; rw [e]
theorem ret32 (R : Ending -> World -> Prop) (tmps : Array Value) (b : Nat) (v0 v1 v2 q : Value) (X : World) (t4 : tmps[4]? = some (.pointer (some ⟨b, 0, none⟩))) (t5 : tmps[5]? = some q) (c0 : X.cell? ⟨b, 0, none⟩ = some v0) (c1 : X.cell? ⟨b, 1, none⟩ = some v1) (c2 : X.cell? ⟨b, 2, none⟩ = some v2) (h : R (.returned (.tuple #[.agg #[v0, v1, v2], q])) X) : bodyPost Tryz.prog Tryz.f32 R Exit.ret { tmps := tmps, defers := [] } X := by
 exact bodyPost_ret (v := .tuple #[.agg #[v0, v1, v2], q]) (by simp [results, Tryz.results32, go_sem, t4, t5, c0, c1, c2]; try exact ⟨rfl, rfl⟩) rfl h
def selL (xs : List Nd) (P : Nat -> Bool) (k : Nat) : List ByteArray := ((List.range k).filter P).map (fun i => (xs[i]!).name)
theorem selL_step (xs : List Nd) (P : Nat -> Bool) (k : Nat) : selL xs P (k + 1) = if P k = true then selL xs P k ++ [(xs[k]!).name] else selL xs P k := by
 unfold selL
 rw [List.range_succ, List.filter_append, List.map_append]
 by_cases h : P k = true
 ·rw [if_pos h]; simp [h]
 ·rw [if_neg h]; simp [h]
theorem selL_congr (xs : List Nd) {P Q : Nat -> Bool} {k : Nat} (h : ∀ i, i < k -> P i = Q i) : selL xs P k = selL xs Q k := by
 unfold selL
 congr 1
 refine List.filter_congr (fun i hi => h i (List.mem_range.mp hi))
theorem selL_len (xs : List Nd) (P : Nat -> Bool) (k : Nat) : (selL xs P k).length ≤ k := by
 unfold selL
 rw [List.length_map]
 have := List.length_filter_le P (List.range k)
 rwa [List.length_range] at this
theorem mem_sel {xs : List Nd} {P : Nat -> Bool} {k : Nat} {v : ByteArray} : v ∈ selL xs P k ↔ ∃ i, i < k /\ P i = true /\ (xs[i]!).name = v := by
 unfold selL
 simp only [List.mem_map, List.mem_filter, List.mem_range]
 constructor
 ·rintro ⟨i, ⟨h1, h2⟩, h3⟩; exact ⟨i, h1, h2, h3⟩
 ·rintro ⟨i, h1, h2, h3⟩; exact ⟨i, ⟨h1, h2⟩, h3⟩
theorem any_mem (l : List ByteArray) (v : ByteArray) : l.any (fun y => v == y) = true ↔ v ∈ l := by
 rw [List.any_eq_true]
 constructor
 ·rintro ⟨y, hy, e⟩
  have := (beqB v y).mp e
  subst this; exact hy
 ·intro h
  exact ⟨v, h, (beqB v v).mpr rfl⟩
theorem name_inj {n : Net} (h : netB n = true) {i j : Nat} (hi : i < n.nodes.xs.length) (hj : j < n.nodes.xs.length) (e : (n.nodes.xs[i]!).name = (n.nodes.xs[j]!).name) : i = j := by
 rw [getElem!_pos _ i hi, getElem!_pos _ j hj] at e
 have h1 := (ndIx_iff h hi _).mpr rfl
 have h2 := (ndIx_iff h hj _).mpr e.symm
 rw [h1] at h2
 omega
theorem sel_name {n : Net} (h : netB n = true) (P : Nat -> Bool) {j : Nat} (hj : j < n.nodes.xs.length) : (selL n.nodes.xs P n.nodes.xs.length).any (fun y => (n.nodes.xs[j]!).name == y) = P j := by
 cases hp : P j
 ·cases ha : (selL n.nodes.xs P n.nodes.xs.length).any (fun y => (n.nodes.xs[j]!).name == y)
  ·rfl
  ·rw [any_mem, mem_sel] at ha
   obtain ⟨i, hi, h1, h2⟩ := ha
   rw [name_inj h hi hj h2, hp] at h1
   cases h1
 ·rw [any_mem, mem_sel]
  exact ⟨j, hj, hp, rfl⟩
theorem src_name {n : Net} (h : netB n = true) {k : Nat} (hk : k < n.links.xs.length) : (n.links.xs[k]).src = (n.nodes.xs[edA n k]!).name /\ (n.links.xs[k]).dst = (n.nodes.xs[edD n k]!).name := by
 obtain ⟨h1, h2, h3, h4, _⟩ := edges_at h hk
 have e : (edgesN n)[k]! = (ndIx n n.links.xs[k].src, ndIx n n.links.xs[k].dst) := by
  rw [getElem!_pos _ k (by simpa [edgesN] using hk)]
  simp [edgesN]
 rw [e] at h1 h2
 simp only at h1 h2
 rw [getElem!_pos n.nodes.xs _ h3, getElem!_pos n.nodes.xs _ h4]
 exact ⟨((ndIx_iff h h3 _).mp h1).symm, ((ndIx_iff h h4 _).mp h2).symm⟩
theorem lkname_inj {n : Net} (h : netB n = true) {i j : Nat} (hi : i < n.links.xs.length) (hj : j < n.links.xs.length) (e : n.links.xs[i].name = n.links.xs[j].name) : i = j := by
 have h1 := (((netB_iff n).mp h).2.2.2 i hi).2.1
 have h2 := (((netB_iff n).mp h).2.2.2 j hj).2.1
 rw [e, h2] at h1
 omega
theorem cut_name {n : Net} (h : netB n = true) (P Q : Nat -> Bool) {k : Nat} (hk : k < n.links.xs.length) : (cutL n.links.xs (selL n.nodes.xs P n.nodes.xs.length) (selL n.nodes.xs Q n.nodes.xs.length)).any (fun y => n.links.xs[k].name == y) = (P (edA n k) && Q (edD n k)) := by
 obtain ⟨_, _, h3, h4, _⟩ := edges_at h hk
 obtain ⟨e1, e2⟩ := src_name h hk
 have hc : cutP (selL n.nodes.xs P n.nodes.xs.length) (selL n.nodes.xs Q n.nodes.xs.length) n.links.xs[k] = (P (edA n k) && Q (edD n k)) := by
  unfold cutP
  rw [e1, e2, sel_name h P h3, sel_name h Q h4]
 rw [<- hc]
 cases hp : cutP (selL n.nodes.xs P n.nodes.xs.length) (selL n.nodes.xs Q n.nodes.xs.length) n.links.xs[k]
 ·cases ha : (cutL n.links.xs (selL n.nodes.xs P n.nodes.xs.length) (selL n.nodes.xs Q n.nodes.xs.length)).any (fun y => n.links.xs[k].name == y)
  ·rfl
  ·rw [any_mem] at ha
   unfold cutL at ha
   rw [List.mem_map] at ha
   obtain ⟨l, hl, e⟩ := ha
   rw [List.mem_filter] at hl
   obtain ⟨i, hi, rfl⟩ := List.getElem_of_mem hl.1
   have := lkname_inj h hi hk e
   subst this
   rw [hp] at hl
   exact hl.2.symm
 ·rw [any_mem]
  unfold cutL
  rw [List.mem_map]
  exact ⟨n.links.xs[k], List.mem_filter.mpr ⟨List.getElem_mem hk, hp⟩, rfl⟩
theorem sel_pairwise {n : Net} (h : netB n = true) (P : Nat -> Bool) : (selL n.nodes.xs P n.nodes.xs.length).Pairwise (fun a b => ndIx n a ≠ ndIx n b) := by
 unfold selL
 rw [List.pairwise_map]
 have h1 : ((List.range n.nodes.xs.length).filter P).Pairwise (fun i j => i < j) := List.Pairwise.filter _ List.pairwise_lt_range
 refine (List.Pairwise.imp_of_mem ?_ h1)
 intro i j hi hj hlt
 have hi2 : i < n.nodes.xs.length := List.mem_range.mp (List.mem_filter.mp hi).1
 have hj2 : j < n.nodes.xs.length := List.mem_range.mp (List.mem_filter.mp hj).1
 have e1 := (ndIx_iff h hi2 (n.nodes.xs[i]!).name).mpr (by rw [getElem!_pos _ i hi2])
 have e2 := (ndIx_iff h hj2 (n.nodes.xs[j]!).name).mpr (by rw [getElem!_pos _ j hj2])
 rw [e1, e2]
 omega
theorem prev_in {w : World} {x : St} {A : Option Addr} {c : Nat} {ss : List St} (hx : InSt w x) (hs : InSts w ⟨A, c, ss⟩) {k : Nat} (hk : k ≤ ss.length) : InSt w (prevS x ss k) := by
 cases k with
 | zero => exact hx
 | succ k =>
  show InSt w (ss.getD k x)
  rw [List.getD_eq_getElem?_getD, List.getElem?_eq_getElem (by omega)]
  exact hs.each _ (List.getElem_mem _)
theorem given_of {n : Net} {s s' : St} {inf : List Int} {g : Led} (hs : StateOk n s) (h : StepOk n s s' inf g) : Given n s s' inf g := ⟨hs, h.ok, step_ledB hs h, h.il, (inAll_iff _ _).mpr h.ib⟩
def goneN (n : Net) (P : Nat -> Bool) (inf pass : List Int) (i : Nat) : Int := if P i = true then (if kd n.nodes.xs i = 3 then inf[i]! + sumTo (fun k => if edD n k = i then pass[k]! else 0) n.links.xs.length else 0) else 0
theorem gone_law {n : Net} (h : netB n = true) (P : Nat -> Bool) (inf pass : List Int) : sumTo (goneN n P inf pass) n.nodes.xs.length = sumTo (fun i => if P i = true then (if kd n.nodes.xs i = 3 then inf[i]! else 0) else 0) n.nodes.xs.length + sumTo (fun k => if P (edD n k) = true then (if kd n.nodes.xs (edD n k) = 3 then pass[k]! else 0) else 0) n.links.xs.length := by
 have e1 : sumTo (goneN n P inf pass) n.nodes.xs.length = sumTo (fun i => (if P i = true then (if kd n.nodes.xs i = 3 then inf[i]! else 0) else 0) + sumTo (fun k => if (edD n k : Int) = (i : Int) then (if P i = true then (if kd n.nodes.xs i = 3 then pass[k]! else 0) else 0) else 0) n.links.xs.length) n.nodes.xs.length := by
  refine sumTo_congr _ (fun i _ => ?_)
  unfold goneN
  cases P i
  ·simp [sumTo_zero]
  ·by_cases h3 : kd n.nodes.xs i = 3
   ·simp only [h3, if_true]
    congr 1
    refine sumTo_congr _ (fun k _ => ?_)
    by_cases hh : edD n k = i
    ·rw [if_pos hh, if_pos (by omega)]
    ·rw [if_neg hh, if_neg (by omega)]
   ·simp [h3, sumTo_zero]
 rw [e1, sumTo_add, sumTo_swap]
 congr 1
 refine sumTo_congr _ (fun k hk => ?_)
 obtain ⟨_, _, _, h4, _⟩ := edges_at h hk
 rw [sumTo_pick, if_pos h4]
theorem hand_law {n : Net} {s s' : St} {inf : List Int} {g : Led} (hs : StateOk n s) (h : StepOk n s s' inf g) (P : Nat -> Bool) :
 sumTo (fun i => if P i = true then nodeT s s' inf i else 0) n.nodes.xs.length + sumTo (fun k => crossE P (edA n k) (edD n k) (g.pass.xs[k]!)) n.links.xs.length = sumTo (goneN n P inf g.pass.xs) n.nodes.xs.length := by
 rw [part_law hs h P, gone_law hs.1]
theorem gone_bound {n : Net} (h : netB n = true) (P : Nat -> Bool) {inf pass : List Int} (h1 : ∀ i, i < n.nodes.xs.length -> 0 ≤ inf[i]! /\ inf[i]! ≤ 1125899906842624) (h2 : ∀ k, k < n.links.xs.length -> 0 ≤ pass[k]! /\ pass[k]! ≤ 9007199254740992) {j : Nat} (hj : j ≤ n.nodes.xs.length) :
 0 ≤ sumTo (goneN n P inf pass) j /\ sumTo (goneN n P inf pass) j ≤ 5000000000000000000 := by
 have h0 : ∀ i, i < n.nodes.xs.length -> 0 ≤ goneN n P inf pass i := fun i hi => by
  have a := h1 i hi
  have b := sumTo_nonneg (f := fun k => if edD n k = i then pass[k]! else 0) n.links.xs.length (fun k hk => by have := h2 k hk; (try dsimp only); split <;> omega)
  unfold goneN
  split
  ·split
   ·omega
   ·omega
  ·omega
 have hm := sumTo_mono (f := goneN n P inf pass) (k := j) (n.nodes.xs.length - j) (fun i hi => h0 i (by omega))
 rw [show j + (n.nodes.xs.length - j) = n.nodes.xs.length by omega, gone_law h] at hm
 have q1 := sumTo_bound (f := fun i => if P i = true then (if kd n.nodes.xs i = 3 then inf[i]! else 0) else 0) (m := 1125899906842624) n.nodes.xs.length (fun i hi => by have := h1 i hi; constructor <;> (split <;> (try split) <;> omega))
 have q2 := sumTo_bound (f := fun k => if P (edD n k) = true then (if kd n.nodes.xs (edD n k) = 3 then pass[k]! else 0) else 0) (m := 9007199254740992) n.links.xs.length (fun k hk => by have := h2 k hk; constructor <;> (split <;> (try split) <;> omega))
 have l1 := ((netB_iff n).mp h).1
 have l2 := ((netB_iff n).mp h).2.1
 exact ⟨sumTo_nonneg j (fun i hi => h0 i (by omega)), by omega⟩
def flB (gs : List Led) (b : Bool) (k i : Nat) : Bool := (b || decide (1152921504606846976 < cameT gs (k + 1)) || decide (1152921504606846976 < leftT gs (k + 1))) || (List.range i).any (fun j => decide (9007199254740992 < passT gs j (k + 1)))
theorem flB_step (gs : List Led) (b : Bool) (k i : Nat) : flB gs b k (i + 1) = (flB gs b k i || decide (9007199254740992 < passT gs i (k + 1))) := by
 unfold flB
 rw [List.range_succ, List.any_append]
 simp [Bool.or_assoc]
theorem flB_all {n : Net} {fs : List Infl} {x : St} {ss : List St} {gs : List Led} (h : RunOk n fs x ss gs) (hx : StateOk n x) {k : Nat} (hk : k < ss.length) : flB gs (floodB n.links.xs.length gs k) k n.links.xs.length = floodB n.links.xs.length gs (k + 1) := by
 cases hf : floodB n.links.xs.length gs k
 ·simp [flB, floodB]
 ·rw [flood_mono h hx hk hf]
  simp [flB]
theorem came_big {n : Net} {fs : List Infl} {x : St} {ss : List St} {gs : List Led} (h : RunOk n fs x ss gs) (hx : StateOk n x) (h8 : ss.length * (n.nodes.xs.length + n.links.xs.length) ≤ 8000) (hm : n.nodes.xs.length ≤ 80) {k : Nat} (hk : k ≤ ss.length) :
 0 ≤ cameT gs k /\ cameT gs k ≤ 9007199254740992000 /\ 0 ≤ leftT gs k /\ leftT gs k ≤ 9187343239835811840 /\ heldS (prevS x ss k) + leftT gs k = heldS x + cameT gs k /\ 0 ≤ heldS x /\ heldS x ≤ 180143985094819840 /\ 0 ≤ heldS (prevS x ss k) := by
 have h1 := came_bound h hk
 have h2 := left_bound h hx hk
 have h3 := run_law h hx k hk
 have h4 := held_bound hx
 have h5 := held_bound (h.state hx hk)
 have e1 : k * n.nodes.xs.length ≤ 8000 := Nat.le_trans (Nat.mul_le_mul hk (Nat.le_add_right _ _)) h8
 have e2 : (k : Int) * ((n.nodes.xs.length : Int) * 1125899906842624) = ((k * n.nodes.xs.length : Nat) : Int) * 1125899906842624 := by rw [Int.natCast_mul, Int.mul_assoc]
 rw [e2] at h1 h2
 omega
end Go.Proofs.YtnnhnkpoekbahaaGreat
