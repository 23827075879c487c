/- TopSeason: part 11 of 16: Run Cct Idx Cut Bal1 -/
import Derived.Test.YtnnhnkpoekbahaaGreatPart09
import Derived.Test.YtnnhnkpoekbahaaGreatPart05
import Derived.Test.YtnnhnkpoekbahaaGreatPart01
import Derived.Deep.DeepCutAuto
namespace Go.Proofs.YtnnhnkpoekbahaaGreat
open Go.RowKit
set_option maxHeartbeats 400000
set_option linter.unusedSimpArgs false
set_option linter.unusedVariables false
set_option maxRecDepth 100000
theorem But.alloc {L : List Nat} {a b : World} (h : But L a b) (o : Obj) : But L a (b.alloc o) := But.trans h (But.of ((Bl.refl b).alloc o))
theorem But.grown2 {L : List Nat} {a b c : World} {row : Option Nat} (h : But L a b) (hg : b.grownBy c row) (hr : ∀ g, row = some g -> g ∈ L \/ a.heap.size ≤ g) : But L a c := ⟨hg.os.trans h.os, hg.tape.trans h.tape, hg.output.trans h.output, Nat.le_trans h.size hg.size, fun k hk hn => (hg.block k (Nat.lt_of_lt_of_le hk h.size) (fun e => by rcases hr k e.symm with h1 | h1; exact hn h1; omega)).trans (h.block k hk hn)⟩
theorem But.drew {L : List Nat} {a b : World} (h : But L a b) : But L a b.drew := But.trans h (But.of (Bl.refl b).drew)
theorem ok_but2 {α : Type} {enc : α -> List Value} {k : Nat} {W w6 X : World} {s : Sl α} {nb gb : Nat} (h : s.Ok enc k okT w6.heap.size w6) (hN : New W s) (hX : But [nb, gb] w6 X) (hnb : nb < W.heap.size \/ w6.heap.size ≤ nb) (hgb : gb < W.heap.size \/ w6.heap.size ≤ gb) : s.Ok enc k okT X.heap.size X where
 cap := h.cap
 room := h.room
 place := fun he => by
  obtain ⟨b, off, hA, hB, hw, hc⟩ := h.place he
  have h1 := hN b (by simp only [Sl.val, hA]; rfl)
  exact ⟨b, off, hA, Nat.lt_of_lt_of_le hB hX.size, Nat.lt_of_lt_of_le hw hX.size, fun i hi j v hv => hX.cell (hc i hi j v hv) (by simp; omega)⟩
 each := fun _ _ => trivial
structure RMid (n : Net) (y : St) (fs : List Infl) (k : Nat) (wr : World) (nb gb : Nat) (s' : St) (g : Led) (q : Int) (X : World) : Prop where
 hnb : wr.heap.size ≤ nb
 hgb : wr.heap.size ≤ gb
 bl : Bl wr X
 cells : X.cell? ⟨nb, 0, none⟩ = some s'.vol.val /\ X.cell? ⟨nb, 1, none⟩ = some s'.pond.val /\ X.cell? ⟨nb, 2, none⟩ = some s'.set.val /\ X.cell? ⟨nb, 3, none⟩ = some s'.on.val /\ X.cell? ⟨gb, 0, none⟩ = some (.int .i64 g.inn) /\ X.cell? ⟨gb, 1, none⟩ = some (.int .i64 g.out) /\ X.cell? ⟨gb, 2, none⟩ = some g.pass.val
 st : InSt X s' /\ NewSt wr s'
 led : InLed X g /\ New wr g.pass
 ok : q = 0 -> StepOk n y s' (atL n k fs) g
theorem RMid.of {n : Net} {y s' : St} {fs : List Infl} {k : Nat} {wr W w6 X : World} {nb gb : Nat} {g : Led} {q : Int} (hW : Bl wr W) (h6 : Bl W w6) (hS : InSt w6 s' /\ NewSt W s') (hL : InLed w6 g /\ New W g.pass) (hok : q = 0 -> StepOk n y s' (atL n k fs) g)
 (hX : But [nb, gb] w6 X) (hnb : nb < W.heap.size \/ w6.heap.size ≤ nb) (hgb : gb < W.heap.size \/ w6.heap.size ≤ gb) (h1 : wr.heap.size ≤ nb) (h2 : wr.heap.size ≤ gb)
 (hc : X.cell? ⟨nb, 0, none⟩ = some s'.vol.val /\ X.cell? ⟨nb, 1, none⟩ = some s'.pond.val /\ X.cell? ⟨nb, 2, none⟩ = some s'.set.val /\ X.cell? ⟨nb, 3, none⟩ = some s'.on.val /\ X.cell? ⟨gb, 0, none⟩ = some (.int .i64 g.inn) /\ X.cell? ⟨gb, 1, none⟩ = some (.int .i64 g.out) /\ X.cell? ⟨gb, 2, none⟩ = some g.pass.val) :
 RMid n y fs k wr nb gb s' g q X where
 hnb := h1
 hgb := h2
 bl := But.bl (hW.trans h6) hX (fun b hb => by simp at hb; rcases hb with rfl | rfl <;> assumption)
 cells := hc
 st := ⟨⟨ok_but2 hS.1.vol hS.2.1 hX hnb hgb, ok_but2 hS.1.pond hS.2.2.1 hX hnb hgb, ok_but2 hS.1.set hS.2.2.2.1 hX hnb hgb, ok_but2 hS.1.on hS.2.2.2.2 hX hnb hgb⟩, hS.2.1.up hW, hS.2.2.1.up hW, hS.2.2.2.1.up hW, hS.2.2.2.2.up hW⟩
 led := ⟨ok_but2 hL.1 hL.2 hX hnb hgb, hL.2.up hW⟩
 ok := hok
def RRun (n : Net) (fs : List Infl) (x : St) (st : Int) (w : World) (e : Ending) (w' : World) : Prop := ∃ (S : Sl St) (G : Sl Led) (q : Int), e = .returned (.tuple #[S.val, G.val, .int .i64 q]) /\ InSts w' S /\ InLeds w' G /\ (¬ q = 0 -> S.xs = [] /\ G.xs = []) /\ (q = 0 -> 0 ≤ st /\ st ≤ 10000 /\ S.xs.length = st.toNat /\ StateOk n x /\ InflOk n fs /\ RunOk n fs x S.xs G.xs) /\ Bl w w'
theorem Own.ok2 {α : Type} {enc : α -> List Value} {k : Nat} {e : TypeId} {base : Nat} {w : World} {s : Sl α} {good : Nat -> World -> α -> Prop} (h : Own enc k e base w s) (hk : ∀ x, (enc x).length = k) (hr : s.xs.length ≤ 140737488351232) (hg : ∀ x ∈ s.xs, good w.heap.size w x) : s.Ok enc k good w.heap.size w := Own.ok h hk hr hg
theorem InSts_nil (w : World) : InSts w ⟨none, 0, []⟩ := ⟨by simp, by simp, fun h => absurd rfl h, fun x hx => by simp at hx⟩
theorem InLeds_nil (w : World) : InLeds w ⟨none, 0, []⟩ := ⟨by simp, by simp, fun h => absurd rfl h, fun x hx => by simp at hx⟩
theorem RRun.no {n : Net} {fs : List Infl} {x : St} {st : Int} {w w' : World} {q : Int} (hq : ¬ q = 0) (hb : Bl w w') : RRun n fs x st w (.returned (.tuple #[.slice none 0 0, .slice none 0 0, .int .i64 q])) w' :=
 ⟨⟨none, 0, []⟩, ⟨none, 0, []⟩, q, rfl, InSts_nil _, InLeds_nil _, fun _ => ⟨rfl, rfl⟩, fun h => absurd h hq, hb⟩
theorem u73 : Tryz.prog.underlying 73 = some (.slice 31) := by kernel_rfl
theorem u74 : Tryz.prog.underlying 74 = some (.slice 90) := by kernel_rfl
theorem i31 : ∃ i, Tryz.prog.info? 31 = some i /\ i.zero = some (.agg #[.slice none 0 0, .slice none 0 0, .slice none 0 0, .slice none 0 0]) /\ i.size = 4 /\ i.bytes = 96 := info_of (by kernel_rfl)
theorem i90 : ∃ i, Tryz.prog.info? 90 = some i /\ i.zero = some (.agg #[.int .i64 0, .int .i64 0, .slice none 0 0]) /\ i.size = 3 /\ i.bytes = 40 := info_of (by kernel_rfl)
set_option maxHeartbeats 8000000 in
theorem f19_core (A A2 FA : Option Addr) (c c2 fc : Nat) (xs : List Nd) (ls : List Lk) (fs : List Infl) (l : Sl Sec) (rl : Sl Rul) (s : St) (sec st : Int) (w : World)
 (hN : InNet w ⟨⟨A, c, xs⟩, ⟨A2, c2, ls⟩⟩) (hl : InSecs w l) (hr : InRuls w rl) (ht : InSt w s) (hF : InInfls w ⟨FA, fc, fs⟩) :
 Calls Tryz.prog 19 #[.agg #[.slice A xs.length c, .slice A2 ls.length c2], l.val, rl.val, .agg #[s.vol.val, s.pond.val, s.set.val, s.on.val], .slice FA fs.length fc, .int .i64 sec, .int .i64 st] w (RRun ⟨⟨A, c, xs⟩, ⟨A2, c2, ls⟩⟩ fs s st w) := by
 have T48 := HD (fun W (hb : Bl w W) => f48_c l W (InSecs.up hl hb))
 have T49 := HD (fun W (hb : Bl w W) => f49_c rl W (InRuls.up hr hb))
 have T50 := HD (fun W (hb : Bl w W) => f50_c ⟨⟨A, c, xs⟩, ⟨A2, c2, ls⟩⟩ s W (InNet.up hN hb) (InSt.up ht hb))
 have T51 := HD (fun W (hb : Bl w W) => f51_c ⟨⟨A, c, xs⟩, ⟨A2, c2, ls⟩⟩ ⟨FA, fc, fs⟩ W (InNet.up hN hb) (InInfls.up hF hb))
 have T53 := HD (fun W (hb : Bl w W) (k : Nat) => f53_c ⟨⟨A, c, xs⟩, ⟨A2, c2, ls⟩⟩ ⟨FA, fc, fs⟩ k W (InNet.up hN hb) (InInfls.up hF hb))
 have T52 := HD (fun W (hb : Bl w W) (y : St) (hy : InSt W y) (inf : Sl Int) (hI : InI W inf) => f52_c ⟨⟨A, c, xs⟩, ⟨A2, c2, ls⟩⟩ l rl y inf sec W (InNet.up hN hb) (InSecs.up hl hb) (InRuls.up hr hb) hy hI)
 have hth := HD ht
 have HU3 := HD u73
 have HU4 := HD u74
 obtain ⟨R, hR⟩ : ∃ R, R = RRun ⟨⟨A, c, xs⟩, ⟨A2, c2, ls⟩⟩ fs s st w := ⟨_, rfl⟩
 rw [<- hR]
 have hRh := HD hR
 clear hN hl hr ht hF hR
 go_enter Tryz.func19, Tryz.ntmps19
 go_wp2_with fail
 refine (T48.out _ bz).mono ?_
 rintro e w1 ⟨b0, -, -, rfl, hw1⟩
 clear T48
 have an0 : w1.cell? ⟨w.heap.size, 0, none⟩ = some (.slice A xs.length c) := hw1.keep (by simp [go_sem])
 have an1 : w1.cell? ⟨w.heap.size, 1, none⟩ = some (.slice A2 ls.length c2) := hw1.keep (by simp [go_sem])
 have ax0 : w1.cell? ⟨w.heap.size + 1, 0, none⟩ = some (s.vol.val) := hw1.keep (by simp [go_sem])
 have ax1 : w1.cell? ⟨w.heap.size + 1, 1, none⟩ = some (s.pond.val) := hw1.keep (by simp [go_sem])
 have ax2 : w1.cell? ⟨w.heap.size + 1, 2, none⟩ = some (s.set.val) := hw1.keep (by simp [go_sem])
 have ax3 : w1.cell? ⟨w.heap.size + 1, 3, none⟩ = some (s.on.val) := hw1.keep (by simp [go_sem])
 have afx0 : w1.frozen? ⟨w.heap.size + 1, 0, none⟩ = false := hw1.keepF (by simp [go_sem]; rfl) (by simp [go_sem])
 have afx1 : w1.frozen? ⟨w.heap.size + 1, 1, none⟩ = false := hw1.keepF (by simp [go_sem]; rfl) (by simp [go_sem])
 have afx2 : w1.frozen? ⟨w.heap.size + 1, 2, none⟩ = false := hw1.keepF (by simp [go_sem]; rfl) (by simp [go_sem])
 have afx3 : w1.frozen? ⟨w.heap.size + 1, 3, none⟩ = false := hw1.keepF (by simp [go_sem]; rfl) (by simp [go_sem])
 have hB1 : Bl w w1 := bz
 have z1 : w.heap.size + 1 < w1.heap.size := by have := hw1.size; simp at this; omega
 clear hw1
 have hno : Hid (∀ q : Int, ¬ q = 0 -> ∀ W, Bl w W -> R (.returned (.tuple #[.slice none 0 0, .slice none 0 0, .int .i64 q])) W) := fun q hq W hW => by rw [hRh.out]; exact RRun.no hq hW
 cases b0
 case false =>
  go_wp2_with fail
  exact bodyPost_ret (v := .tuple #[.slice none 0 0, .slice none 0 0, .int .i64 1]) (by simp [results, Tryz.results19, go_sem, *]; try exact ⟨rfl, rfl⟩) rfl (hno.out 1 (by omega) _ hB1)
 go_wp2_with fail
 refine (T49.out _ hB1).mono ?_
 rintro e w2 ⟨b1, -, -, rfl, hw2⟩
 clear T49
 have bn0 : w2.cell? ⟨w.heap.size, 0, none⟩ = some (.slice A xs.length c) := hw2.keep an0
 have bn1 : w2.cell? ⟨w.heap.size, 1, none⟩ = some (.slice A2 ls.length c2) := hw2.keep an1
 have bx0 : w2.cell? ⟨w.heap.size + 1, 0, none⟩ = some (s.vol.val) := hw2.keep ax0
 have bx1 : w2.cell? ⟨w.heap.size + 1, 1, none⟩ = some (s.pond.val) := hw2.keep ax1
 have bx2 : w2.cell? ⟨w.heap.size + 1, 2, none⟩ = some (s.set.val) := hw2.keep ax2
 have bx3 : w2.cell? ⟨w.heap.size + 1, 3, none⟩ = some (s.on.val) := hw2.keep ax3
 have bfx0 : w2.frozen? ⟨w.heap.size + 1, 0, none⟩ = false := hw2.keepF ax0 afx0
 have bfx1 : w2.frozen? ⟨w.heap.size + 1, 1, none⟩ = false := hw2.keepF ax1 afx1
 have bfx2 : w2.frozen? ⟨w.heap.size + 1, 2, none⟩ = false := hw2.keepF ax2 afx2
 have bfx3 : w2.frozen? ⟨w.heap.size + 1, 3, none⟩ = false := hw2.keepF ax3 afx3
 have hB2 : Bl w w2 := hB1.trans hw2
 have z2 : w.heap.size + 1 < w2.heap.size := by have := hw2.size; omega
 clear hw2 hB1 z1
 clear an0 an1 ax0 ax1 ax2 ax3 afx0 afx1 afx2 afx3
 cases b1
 case false =>
  go_wp2_with fail
  exact bodyPost_ret (v := .tuple #[.slice none 0 0, .slice none 0 0, .int .i64 1]) (by simp [results, Tryz.results19, go_sem, *]; try exact ⟨rfl, rfl⟩) rfl (hno.out 1 (by omega) _ hB2)
 go_wp2_with fail
 refine (T50.out _ hB2).mono ?_
 rintro e w3 ⟨rfl, hw3⟩
 clear T50
 have hsb := HD (fun h => (stateB_iff ⟨⟨A, c, xs⟩, ⟨A2, c2, ls⟩⟩ s).mp h)
 generalize stateB ⟨⟨A, c, xs⟩, ⟨A2, c2, ls⟩⟩ s = b2 at hsb ⊢
 have cn0 : w3.cell? ⟨w.heap.size, 0, none⟩ = some (.slice A xs.length c) := hw3.keep bn0
 have cn1 : w3.cell? ⟨w.heap.size, 1, none⟩ = some (.slice A2 ls.length c2) := hw3.keep bn1
 have cx0 : w3.cell? ⟨w.heap.size + 1, 0, none⟩ = some (s.vol.val) := hw3.keep bx0
 have cx1 : w3.cell? ⟨w.heap.size + 1, 1, none⟩ = some (s.pond.val) := hw3.keep bx1
 have cx2 : w3.cell? ⟨w.heap.size + 1, 2, none⟩ = some (s.set.val) := hw3.keep bx2
 have cx3 : w3.cell? ⟨w.heap.size + 1, 3, none⟩ = some (s.on.val) := hw3.keep bx3
 have cfx0 : w3.frozen? ⟨w.heap.size + 1, 0, none⟩ = false := hw3.keepF bx0 bfx0
 have cfx1 : w3.frozen? ⟨w.heap.size + 1, 1, none⟩ = false := hw3.keepF bx1 bfx1
 have cfx2 : w3.frozen? ⟨w.heap.size + 1, 2, none⟩ = false := hw3.keepF bx2 bfx2
 have cfx3 : w3.frozen? ⟨w.heap.size + 1, 3, none⟩ = false := hw3.keepF bx3 bfx3
 have hB3 : Bl w w3 := hB2.trans hw3
 have z3 : w.heap.size + 1 < w3.heap.size := by have := hw3.size; omega
 clear hw3 hB2 z2
 clear bn0 bn1 bx0 bx1 bx2 bx3 bfx0 bfx1 bfx2 bfx3
 cases b2
 case false =>
  go_wp2_with fail
  exact bodyPost_ret (v := .tuple #[.slice none 0 0, .slice none 0 0, .int .i64 1]) (by simp [results, Tryz.results19, go_sem, *]; try exact ⟨rfl, rfl⟩) rfl (hno.out 1 (by omega) _ hB3)
 have hok := HD (hsb.out rfl)
 clear hsb
 by_cases hs0 : st < 0
 ·go_wp2_with fail
  exact bodyPost_ret (v := .tuple #[.slice none 0 0, .slice none 0 0, .int .i64 2]) (by simp [results, Tryz.results19, go_sem, *]; try exact ⟨rfl, rfl⟩) rfl (hno.out 2 (by omega) _ hB3)
 by_cases hs1 : 10000 < st
 ·go_wp2_with fail
  exact bodyPost_ret (v := .tuple #[.slice none 0 0, .slice none 0 0, .int .i64 2]) (by simp [results, Tryz.results19, go_sem, *]; try exact ⟨rfl, rfl⟩) rfl (hno.out 2 (by omega) _ hB3)
 go_wp2_with fail
 refine (T51.out _ hB3 hok.out.1).mono ?_
 rintro e w4 ⟨q4, rfl, hq4, -, hw4⟩
 clear T51
 have hq4h := HD hq4
 clear hq4
 have dn0 : w4.cell? ⟨w.heap.size, 0, none⟩ = some (.slice A xs.length c) := hw4.keep cn0
 have dn1 : w4.cell? ⟨w.heap.size, 1, none⟩ = some (.slice A2 ls.length c2) := hw4.keep cn1
 have dx0 : w4.cell? ⟨w.heap.size + 1, 0, none⟩ = some (s.vol.val) := hw4.keep cx0
 have dx1 : w4.cell? ⟨w.heap.size + 1, 1, none⟩ = some (s.pond.val) := hw4.keep cx1
 have dx2 : w4.cell? ⟨w.heap.size + 1, 2, none⟩ = some (s.set.val) := hw4.keep cx2
 have dx3 : w4.cell? ⟨w.heap.size + 1, 3, none⟩ = some (s.on.val) := hw4.keep cx3
 have dfx0 : w4.frozen? ⟨w.heap.size + 1, 0, none⟩ = false := hw4.keepF cx0 cfx0
 have dfx1 : w4.frozen? ⟨w.heap.size + 1, 1, none⟩ = false := hw4.keepF cx1 cfx1
 have dfx2 : w4.frozen? ⟨w.heap.size + 1, 2, none⟩ = false := hw4.keepF cx2 cfx2
 have dfx3 : w4.frozen? ⟨w.heap.size + 1, 3, none⟩ = false := hw4.keepF cx3 cfx3
 have hB4 : Bl w w4 := hB3.trans hw4
 have z4 : w.heap.size + 1 < w4.heap.size := by have := hw4.size; omega
 clear hw4 hB3 z3
 clear cn0 cn1 cx0 cx1 cx2 cx3 cfx0 cfx1 cfx2 cfx3
 by_cases hq : q4 = 0
 case neg =>
  have hqb : (q4 != 0) = true := by simpa using hq
  have hqh := HD hq
  clear hq
  go_wp2_with fail
  exact bodyPost_ret (v := .tuple #[.slice none 0 0, .slice none 0 0, .int .i64 q4]) (by simp [results, Tryz.results19, go_sem, *]; try exact ⟨rfl, rfl⟩) rfl (hno.out q4 hqh.out _ hB4)
 subst hq
 have hio := HD (hq4h.out rfl)
 clear hq4h
 obtain ⟨m, hm⟩ : ∃ m : Nat, st = (m : Int) := ⟨st.toNat, by omega⟩
 subst hm
 have hm4 : m ≤ 10000 := by omega
 clear hs0 hs1
 go_wp2_with fail
 go_loopg [18, 19, 53] m (fun gg s18 s19 s53 wr => ∃ (kk : Nat) (S : Sl St) (G : Sl Led) (y : St), kk ≤ m /\ m - kk ≤ gg /\ s18 = S.val /\ s19 = G.val /\ s53 = .int .i64 kk /\ Aside (Bl w wr) /\ Aside (w.heap.size + 1 < wr.heap.size) /\ Aside (wr.cell? ⟨w.heap.size, 0, none⟩ = some (.slice A xs.length c)) /\ Aside (wr.cell? ⟨w.heap.size, 1, none⟩ = some (.slice A2 ls.length c2)) /\ Aside (wr.cell? ⟨w.heap.size + 1, 0, none⟩ = some (y.vol.val)) /\ Aside (wr.cell? ⟨w.heap.size + 1, 1, none⟩ = some (y.pond.val)) /\ Aside (wr.cell? ⟨w.heap.size + 1, 2, none⟩ = some (y.set.val)) /\ Aside (wr.cell? ⟨w.heap.size + 1, 3, none⟩ = some (y.on.val)) /\ Aside (wr.frozen? ⟨w.heap.size + 1, 0, none⟩ = false) /\ Aside (wr.frozen? ⟨w.heap.size + 1, 1, none⟩ = false) /\ Aside (wr.frozen? ⟨w.heap.size + 1, 2, none⟩ = false) /\ Aside (wr.frozen? ⟨w.heap.size + 1, 3, none⟩ = false) /\ Aside (InSt wr y) /\ Aside (y = prevS s S.xs kk) /\ Aside (S.xs.length = kk) /\ Aside (RunOk ⟨⟨A, c, xs⟩, ⟨A2, c2, ls⟩⟩ fs s S.xs G.xs) /\ Aside (Two partT partG encT 4 31 encG 3 90 (w.heap.size + 2) wr S G))
 case atStart => exact ⟨0, ⟨none, 0, []⟩, ⟨none, 0, []⟩, s, Nat.zero_le _, by omega, rfl, rfl, rfl, hB4, aside z4, aside dn0, aside dn1, aside dx0, aside dx1, aside dx2, aside dx3, aside dfx0, aside dfx1, aside dfx2, aside dfx3, aside (InSt.up hth.out hB4), aside rfl, aside rfl, aside (RunOk.nil _ _ _), aside Two.nil⟩
 case round =>
  clear dn0 dn1 dx0 dx1 dx2 dx3 dfx0 dfx1 dfx2 dfx3
  clear hB4 z4
  obtain ⟨kk, S, G, y, hkk, hg, rfl, rfl, rfl, BW, Z, N0, N1, X0, X1, X2, X3, FX0, FX1, FX2, FX3, IY, YE, SL, RO, TW⟩ := hrel
  have BW' := BW.out
  have Z' := Z.out
  have cn0 := N0.out
  have cn1 := N1.out
  have cx0 := X0.out
  have cx1 := X1.out
  have cx2 := X2.out
  have cx3 := X3.out
  have cfx0 := FX0.out
  have cfx1 := FX1.out
  have cfx2 := FX2.out
  have cfx3 := FX3.out
  clear BW Z N0 N1 X0 X1 X2 X3 FX0 FX1 FX2 FX3
  by_cases hlt : kk < m
  ·have hltz : (kk : Int) < (m : Int) := by omega
   have hkz : (0 : Int) ≤ (kk : Int) := by omega
   have hBr := HD BW'
   have T53' := HD (fun W (hb : Bl wr W) => T53.out W (hBr.out.trans hb) kk hok.out.1)
   have T52' := HD (fun W (hb : Bl wr W) (inf : Sl Int) (hI : InI W inf) => T52.out W (hBr.out.trans hb) y (InSt.up IY.out hb) inf hI)
   go_upto_region 13 with fail
   go_cut [21, 22, 23] (fun s21 s22 s23 wx => ∃ (nb gb : Nat) (s' : St) (g : Led) (q : Int), s21 = .pointer (some ⟨nb, 0, none⟩) /\ s22 = .pointer (some ⟨gb, 0, none⟩) /\ s23 = .int .i64 q /\ Aside (RMid ⟨⟨A, c, xs⟩, ⟨A2, c2, ls⟩⟩ y fs kk wr nb gb s' g q wx))
   case first =>
    go_region_held3 (fun w' => w'.cell? ⟨w.heap.size, 0, none⟩ = some (.slice A xs.length c) /\ w'.cell? ⟨w.heap.size, 1, none⟩ = some (.slice A2 ls.length c2) /\ w'.cell? ⟨w.heap.size + 1, 0, none⟩ = some (y.vol.val) /\ w'.cell? ⟨w.heap.size + 1, 1, none⟩ = some (y.pond.val) /\ w'.cell? ⟨w.heap.size + 1, 2, none⟩ = some (y.set.val) /\ w'.cell? ⟨w.heap.size + 1, 3, none⟩ = some (y.on.val)) ((exact (fun (hh : Bl wr _) => (⟨Bl.keep (a := wr) hh cn0, Bl.keep (a := wr) hh cn1, Bl.keep (a := wr) hh cx0, Bl.keep (a := wr) hh cx1, Bl.keep (a := wr) hh cx2, Bl.keep (a := wr) hh cx3⟩)) Bq)) (first
     | (go_at_call 53; refine (T53'.out _ Bq).mono ?_; rintro e w5 ⟨⟨LA, lc, lv⟩, he5, hx5, ⟨hI5, hN5⟩, hw5⟩; obtain rfl : e = .returned (.slice LA lv.length lc) := he5; have hI5h := HD hI5; have hx5h := HD hx5; clear hI5 hx5 hN5; obtain ⟨hc5, hf5, hz5⟩ := Bl.rules hw5; (try simp only [aZ, cZ, dZ, nZ] at hz5); (have y0 : wr.heap.size ≤ w5.heap.size := by omega); (try have y1 : wr.heap.size < w5.heap.size := by omega); (try have y2 : wr.heap.size + 1 < w5.heap.size := by omega))
     | (go_at_call 52; refine (T52'.out _ Bq ⟨LA, lc, lv⟩ (InI.up hI5h.out Bq)).mono ?_; rintro e w6 ⟨⟨⟨VA, vc, vs⟩, ⟨PA, pc, ps⟩, ⟨QA, qc, qs⟩, ⟨NA, nc, nx⟩⟩, ⟨gi, go, ⟨GA, gc, gs⟩⟩, q, he6, hS6, hL6, hok6, hw6⟩; obtain rfl : e = .returned (.tuple #[.agg #[.slice VA vs.length vc, .slice PA ps.length pc, .slice QA qs.length qc, .slice NA nx.length nc], .agg #[.int .i64 gi, .int .i64 go, .slice GA gs.length gc], .int .i64 q]) := he6; have hS6h := HD hS6; have hL6h := HD hL6; have hok6h := HD hok6; have hw6h := HD hw6; clear hS6 hL6 hok6; obtain ⟨hc6, hf6, hz6⟩ := Bl.rules hw6; (try simp only [aZ, cZ, dZ, nZ] at hz6); (have y3 : w5.heap.size ≤ w6.heap.size := by omega); (try have y4 : w5.heap.size < w6.heap.size := by omega); (try have y5 : w5.heap.size + 1 < w6.heap.size := by omega); (try have y6 : wr.heap.size < w6.heap.size := by omega); (try have y7 : wr.heap.size + 1 < w6.heap.size := by omega)))
    all_goals (go_wp2_with fail)
    all_goals go_meet
    all_goals (case rel => (refine ⟨_, _, ⟨⟨VA, vc, vs⟩, ⟨PA, pc, ps⟩, ⟨QA, qc, qs⟩, ⟨NA, nc, nx⟩⟩, ⟨gi, go, ⟨GA, gc, gs⟩⟩, q, rfl, rfl, rfl, aside (RMid.of Bq hw6h.out hS6h.out hL6h.out ?ok (by repeat (first | (with_reducible exact But.refl _ _) | (with_reducible refine But.alloc ?_ _) | (with_reducible refine But.drew ?_) | (with_reducible refine But.set ?_ _ _ (.inl ?hm); (case hm => first | (simp only [List.mem_cons, true_or, or_true]; done) | (simp; done))))) (by (try simp only [aZ]); omega) (by (try simp only [aZ]); omega) (by omega) (by omega) ?cells)⟩; (case ok => (intro hq0; have h1 := hok6h.out hq0; rw [hx5h.out] at h1; exact h1)); (case cells => (clear hS6h hL6h hok6h hI5h hx5h T53' T52'; first | (simp [go_sem, *]; done) | (simp [go_sem, *]; (repeat' apply And.intro) <;> (repeat (first | (with_reducible refine (setOff (by decide)).trans ?_) | (with_reducible refine (setBlk' (by omega)).trans ?_))) <;> (refine setSame ?_) <;> (repeat (first | (with_reducible refine (congrArg Option.isSome (setOff (by decide))).trans ?_) | (with_reducible refine (congrArg Option.isSome (setBlk' (by omega))).trans ?_))) <;> (refine (congrArg Option.isSome (hc6 _ _ (by (try simp only [aZ]); omega))).trans ?_) <;> (simp [go_sem, *]))))))
   case rest =>
    obtain ⟨nb, gb, ⟨⟨VA, vc, vs⟩, ⟨PA, pc, ps⟩, ⟨QA, qc, qs⟩, ⟨NA, nc, nx⟩⟩, ⟨gi, go, ⟨GA, gc, gs⟩⟩, q, rfl, rfl, rfl, MID⟩ := hcut
    have hMh := HD MID.out
    clear MID T53' T52'
    have hnb := hMh.out.hnb
    have hgb := hMh.out.hgb
    have hBc : Bl wr wc := hMh.out.bl
    obtain ⟨p0, p1, p2, p3, q0, q1, q2⟩ := hMh.out.cells
    have e0 : wc.cell? ⟨nb, 0, none⟩ = some (.slice VA vs.length vc) := p0
    have e1 : wc.cell? ⟨nb, 1, none⟩ = some (.slice PA ps.length pc) := p1
    have e2 : wc.cell? ⟨nb, 2, none⟩ = some (.slice QA qs.length qc) := p2
    have e3 : wc.cell? ⟨nb, 3, none⟩ = some (.slice NA nx.length nc) := p3
    have e4 : wc.cell? ⟨gb, 0, none⟩ = some (.int .i64 gi) := q0
    have e5 : wc.cell? ⟨gb, 1, none⟩ = some (.int .i64 go) := q1
    have e6 : wc.cell? ⟨gb, 2, none⟩ = some (.slice GA gs.length gc) := q2
    clear p0 p1 p2 p3 q0 q1 q2
    have dn0 : wc.cell? ⟨w.heap.size, 0, none⟩ = some (.slice A xs.length c) := hBc.keep cn0
    have dn1 : wc.cell? ⟨w.heap.size, 1, none⟩ = some (.slice A2 ls.length c2) := hBc.keep cn1
    have dx0 : wc.cell? ⟨w.heap.size + 1, 0, none⟩ = some (y.vol.val) := hBc.keep cx0
    have dx1 : wc.cell? ⟨w.heap.size + 1, 1, none⟩ = some (y.pond.val) := hBc.keep cx1
    have dx2 : wc.cell? ⟨w.heap.size + 1, 2, none⟩ = some (y.set.val) := hBc.keep cx2
    have dx3 : wc.cell? ⟨w.heap.size + 1, 3, none⟩ = some (y.on.val) := hBc.keep cx3
    have dfx0 : wc.frozen? ⟨w.heap.size + 1, 0, none⟩ = false := hBc.keepF cx0 cfx0
    have dfx1 : wc.frozen? ⟨w.heap.size + 1, 1, none⟩ = false := hBc.keepF cx1 cfx1
    have dfx2 : wc.frozen? ⟨w.heap.size + 1, 2, none⟩ = false := hBc.keepF cx2 cfx2
    have dfx3 : wc.frozen? ⟨w.heap.size + 1, 3, none⟩ = false := hBc.keepF cx3 cfx3
    have hBwc : Bl w wc := BW'.trans hBc
    have zc : wr.heap.size ≤ wc.heap.size := hBc.size
    clear cn0 cn1 cx0 cx1 cx2 cx3 cfx0 cfx1 cfx2 cfx3
    by_cases hq : q = 0
    case neg =>
     have hqb : (q != 0) = true := by simpa using hq
     have hqh := HD hq
     clear hq
     go_wp2_with fail
     exact bodyPost_ret (v := .tuple #[.slice none 0 0, .slice none 0 0, .int .i64 q]) (by simp [results, Tryz.results19, go_sem, *]; try exact ⟨rfl, rfl⟩) rfl (hno.out q hqh.out _ hBwc)
    subst hq
    have TWc := HD (TW.out.bl hBc)
    have hlS := HD TW.out.lt
    have hSl : S.xs.length ≤ 10000 := by have := SL.out; omega
    have hGl : G.xs.length ≤ 10000 := by have := SL.out; have := RO.out.1; omega
    have hSG : Hid (G.xs.length = S.xs.length) := RO.out.1
    obtain ⟨Lb, hLb⟩ : ∃ Lb, Lb = S.val.ownBlock.toList ++ G.val.ownBlock.toList := ⟨_, rfl⟩
    have hLm : Hid (∀ b, b ∈ Lb -> S.val.ownBlock = some b \/ G.val.ownBlock = some b) := fun b hb => by rw [hLb] at hb; rcases List.mem_append.mp hb with h | h <;> simp at h; exact .inl h; exact .inr h
    have hLS : Hid (∀ b, S.val.ownBlock = some b -> b ∈ Lb) := fun b hb => by rw [hLb, hb]; simp
    have hLG : Hid (∀ b, G.val.ownBlock = some b -> b ∈ Lb) := fun b hb => by rw [hLb, hb]; simp
    clear hLb
    have hL1 : Hid (∀ b, b ∈ Lb -> w.heap.size + 2 ≤ b /\ b < wr.heap.size) := fun b hb => by
     rcases hLm.out b hb with h | h
     ·exact ⟨TW.out.oa.ge b h, hlS.out.1 b h⟩
     ·exact ⟨TW.out.ob.ge b h, hlS.out.2 b h⟩
    clear hLm
    have f0 : ((((wc.setCell ⟨w.heap.size + 1, 0, none⟩ (.slice VA vs.length vc)).setCell ⟨w.heap.size + 1, 1, none⟩ (.slice PA ps.length pc)).setCell ⟨w.heap.size + 1, 2, none⟩ (.slice QA qs.length qc)).setCell ⟨w.heap.size + 1, 3, none⟩ (.slice NA nx.length nc)).cell? ⟨nb, 0, none⟩ = some (.slice VA vs.length vc) := (setBlk' (by omega)).trans ((setBlk' (by omega)).trans ((setBlk' (by omega)).trans ((setBlk' (by omega)).trans e0)))
    have f1 : ((((wc.setCell ⟨w.heap.size + 1, 0, none⟩ (.slice VA vs.length vc)).setCell ⟨w.heap.size + 1, 1, none⟩ (.slice PA ps.length pc)).setCell ⟨w.heap.size + 1, 2, none⟩ (.slice QA qs.length qc)).setCell ⟨w.heap.size + 1, 3, none⟩ (.slice NA nx.length nc)).cell? ⟨nb, 1, none⟩ = some (.slice PA ps.length pc) := (setBlk' (by omega)).trans ((setBlk' (by omega)).trans ((setBlk' (by omega)).trans ((setBlk' (by omega)).trans e1)))
    have f2 : ((((wc.setCell ⟨w.heap.size + 1, 0, none⟩ (.slice VA vs.length vc)).setCell ⟨w.heap.size + 1, 1, none⟩ (.slice PA ps.length pc)).setCell ⟨w.heap.size + 1, 2, none⟩ (.slice QA qs.length qc)).setCell ⟨w.heap.size + 1, 3, none⟩ (.slice NA nx.length nc)).cell? ⟨nb, 2, none⟩ = some (.slice QA qs.length qc) := (setBlk' (by omega)).trans ((setBlk' (by omega)).trans ((setBlk' (by omega)).trans ((setBlk' (by omega)).trans e2)))
    have f3 : ((((wc.setCell ⟨w.heap.size + 1, 0, none⟩ (.slice VA vs.length vc)).setCell ⟨w.heap.size + 1, 1, none⟩ (.slice PA ps.length pc)).setCell ⟨w.heap.size + 1, 2, none⟩ (.slice QA qs.length qc)).setCell ⟨w.heap.size + 1, 3, none⟩ (.slice NA nx.length nc)).cell? ⟨nb, 3, none⟩ = some (.slice NA nx.length nc) := (setBlk' (by omega)).trans ((setBlk' (by omega)).trans ((setBlk' (by omega)).trans ((setBlk' (by omega)).trans e3)))
    have f4 : ((((wc.setCell ⟨w.heap.size + 1, 0, none⟩ (.slice VA vs.length vc)).setCell ⟨w.heap.size + 1, 1, none⟩ (.slice PA ps.length pc)).setCell ⟨w.heap.size + 1, 2, none⟩ (.slice QA qs.length qc)).setCell ⟨w.heap.size + 1, 3, none⟩ (.slice NA nx.length nc)).cell? ⟨gb, 0, none⟩ = some (.int .i64 gi) := (setBlk' (by omega)).trans ((setBlk' (by omega)).trans ((setBlk' (by omega)).trans ((setBlk' (by omega)).trans e4)))
    have f5 : ((((wc.setCell ⟨w.heap.size + 1, 0, none⟩ (.slice VA vs.length vc)).setCell ⟨w.heap.size + 1, 1, none⟩ (.slice PA ps.length pc)).setCell ⟨w.heap.size + 1, 2, none⟩ (.slice QA qs.length qc)).setCell ⟨w.heap.size + 1, 3, none⟩ (.slice NA nx.length nc)).cell? ⟨gb, 1, none⟩ = some (.int .i64 go) := (setBlk' (by omega)).trans ((setBlk' (by omega)).trans ((setBlk' (by omega)).trans ((setBlk' (by omega)).trans e5)))
    have f6 : ((((wc.setCell ⟨w.heap.size + 1, 0, none⟩ (.slice VA vs.length vc)).setCell ⟨w.heap.size + 1, 1, none⟩ (.slice PA ps.length pc)).setCell ⟨w.heap.size + 1, 2, none⟩ (.slice QA qs.length qc)).setCell ⟨w.heap.size + 1, 3, none⟩ (.slice NA nx.length nc)).cell? ⟨gb, 2, none⟩ = some (.slice GA gs.length gc) := (setBlk' (by omega)).trans ((setBlk' (by omega)).trans ((setBlk' (by omega)).trans ((setBlk' (by omega)).trans e6)))
    have gn0 : ((((wc.setCell ⟨w.heap.size + 1, 0, none⟩ (.slice VA vs.length vc)).setCell ⟨w.heap.size + 1, 1, none⟩ (.slice PA ps.length pc)).setCell ⟨w.heap.size + 1, 2, none⟩ (.slice QA qs.length qc)).setCell ⟨w.heap.size + 1, 3, none⟩ (.slice NA nx.length nc)).cell? ⟨w.heap.size, 0, none⟩ = some (.slice A xs.length c) := (setBlk' (by omega)).trans ((setBlk' (by omega)).trans ((setBlk' (by omega)).trans ((setBlk' (by omega)).trans dn0)))
    have gn1 : ((((wc.setCell ⟨w.heap.size + 1, 0, none⟩ (.slice VA vs.length vc)).setCell ⟨w.heap.size + 1, 1, none⟩ (.slice PA ps.length pc)).setCell ⟨w.heap.size + 1, 2, none⟩ (.slice QA qs.length qc)).setCell ⟨w.heap.size + 1, 3, none⟩ (.slice NA nx.length nc)).cell? ⟨w.heap.size, 1, none⟩ = some (.slice A2 ls.length c2) := (setBlk' (by omega)).trans ((setBlk' (by omega)).trans ((setBlk' (by omega)).trans ((setBlk' (by omega)).trans dn1)))
    have gx0 : ((((wc.setCell ⟨w.heap.size + 1, 0, none⟩ (.slice VA vs.length vc)).setCell ⟨w.heap.size + 1, 1, none⟩ (.slice PA ps.length pc)).setCell ⟨w.heap.size + 1, 2, none⟩ (.slice QA qs.length qc)).setCell ⟨w.heap.size + 1, 3, none⟩ (.slice NA nx.length nc)).cell? ⟨w.heap.size + 1, 0, none⟩ = some (.slice VA vs.length vc) := (setOff (by decide)).trans ((setOff (by decide)).trans ((setOff (by decide)).trans (setSame (by rw [dx0]; rfl))))
    have gx1 : ((((wc.setCell ⟨w.heap.size + 1, 0, none⟩ (.slice VA vs.length vc)).setCell ⟨w.heap.size + 1, 1, none⟩ (.slice PA ps.length pc)).setCell ⟨w.heap.size + 1, 2, none⟩ (.slice QA qs.length qc)).setCell ⟨w.heap.size + 1, 3, none⟩ (.slice NA nx.length nc)).cell? ⟨w.heap.size + 1, 1, none⟩ = some (.slice PA ps.length pc) := (setOff (by decide)).trans ((setOff (by decide)).trans (setSame (by rw [setOff (by decide), dx1]; rfl)))
    have gx2 : ((((wc.setCell ⟨w.heap.size + 1, 0, none⟩ (.slice VA vs.length vc)).setCell ⟨w.heap.size + 1, 1, none⟩ (.slice PA ps.length pc)).setCell ⟨w.heap.size + 1, 2, none⟩ (.slice QA qs.length qc)).setCell ⟨w.heap.size + 1, 3, none⟩ (.slice NA nx.length nc)).cell? ⟨w.heap.size + 1, 2, none⟩ = some (.slice QA qs.length qc) := (setOff (by decide)).trans (setSame (by rw [setOff (by decide), setOff (by decide), dx2]; rfl))
    have gx3 : ((((wc.setCell ⟨w.heap.size + 1, 0, none⟩ (.slice VA vs.length vc)).setCell ⟨w.heap.size + 1, 1, none⟩ (.slice PA ps.length pc)).setCell ⟨w.heap.size + 1, 2, none⟩ (.slice QA qs.length qc)).setCell ⟨w.heap.size + 1, 3, none⟩ (.slice NA nx.length nc)).cell? ⟨w.heap.size + 1, 3, none⟩ = some (.slice NA nx.length nc) := setSame (by rw [setOff (by decide), setOff (by decide), setOff (by decide), dx3]; rfl)
    have gfx0 : ((((wc.setCell ⟨w.heap.size + 1, 0, none⟩ (.slice VA vs.length vc)).setCell ⟨w.heap.size + 1, 1, none⟩ (.slice PA ps.length pc)).setCell ⟨w.heap.size + 1, 2, none⟩ (.slice QA qs.length qc)).setCell ⟨w.heap.size + 1, 3, none⟩ (.slice NA nx.length nc)).frozen? ⟨w.heap.size + 1, 0, none⟩ = false := by simp [go_sem, dfx0]
    have gfx1 : ((((wc.setCell ⟨w.heap.size + 1, 0, none⟩ (.slice VA vs.length vc)).setCell ⟨w.heap.size + 1, 1, none⟩ (.slice PA ps.length pc)).setCell ⟨w.heap.size + 1, 2, none⟩ (.slice QA qs.length qc)).setCell ⟨w.heap.size + 1, 3, none⟩ (.slice NA nx.length nc)).frozen? ⟨w.heap.size + 1, 1, none⟩ = false := by simp [go_sem, dfx1]
    have gfx2 : ((((wc.setCell ⟨w.heap.size + 1, 0, none⟩ (.slice VA vs.length vc)).setCell ⟨w.heap.size + 1, 1, none⟩ (.slice PA ps.length pc)).setCell ⟨w.heap.size + 1, 2, none⟩ (.slice QA qs.length qc)).setCell ⟨w.heap.size + 1, 3, none⟩ (.slice NA nx.length nc)).frozen? ⟨w.heap.size + 1, 2, none⟩ = false := by simp [go_sem, dfx2]
    have gfx3 : ((((wc.setCell ⟨w.heap.size + 1, 0, none⟩ (.slice VA vs.length vc)).setCell ⟨w.heap.size + 1, 1, none⟩ (.slice PA ps.length pc)).setCell ⟨w.heap.size + 1, 2, none⟩ (.slice QA qs.length qc)).setCell ⟨w.heap.size + 1, 3, none⟩ (.slice NA nx.length nc)).frozen? ⟨w.heap.size + 1, 3, none⟩ = false := by simp [go_sem, dfx3]
    have hBuX : But [w.heap.size + 1] wc ((((wc.setCell ⟨w.heap.size + 1, 0, none⟩ (.slice VA vs.length vc)).setCell ⟨w.heap.size + 1, 1, none⟩ (.slice PA ps.length pc)).setCell ⟨w.heap.size + 1, 2, none⟩ (.slice QA qs.length qc)).setCell ⟨w.heap.size + 1, 3, none⟩ (.slice NA nx.length nc)) := (But.set (But.set (But.set (But.set (But.refl _ _) _ _ (.inl (by simp))) _ _ (.inl (by simp))) _ _ (.inl (by simp))) _ _ (.inl (by simp)))
    have hBX : Bl w ((((wc.setCell ⟨w.heap.size + 1, 0, none⟩ (.slice VA vs.length vc)).setCell ⟨w.heap.size + 1, 1, none⟩ (.slice PA ps.length pc)).setCell ⟨w.heap.size + 1, 2, none⟩ (.slice QA qs.length qc)).setCell ⟨w.heap.size + 1, 3, none⟩ (.slice NA nx.length nc)) := (Bl.setCell (Bl.setCell (Bl.setCell (Bl.setCell hBwc (by simp only; omega) _) (by simp only; omega) _) (by simp only; omega) _) (by simp only; omega) _)
    have zX : wc.heap.size = ((((wc.setCell ⟨w.heap.size + 1, 0, none⟩ (.slice VA vs.length vc)).setCell ⟨w.heap.size + 1, 1, none⟩ (.slice PA ps.length pc)).setCell ⟨w.heap.size + 1, 2, none⟩ (.slice QA qs.length qc)).setCell ⟨w.heap.size + 1, 3, none⟩ (.slice NA nx.length nc)).heap.size := by simp only [cZ]
    have hns : Hid (∀ g, g ∈ [w.heap.size + 1] -> g < wr.heap.size) := fun g hg => by simp at hg; omega
    have hSX := HD (InSt.but hMh.out.st.1 hBuX (fun g hg hm => by have := hMh.out.st.2.1 g hg; have := hns.out g hm; omega) (fun g hg hm => by have := hMh.out.st.2.2.1 g hg; have := hns.out g hm; omega) (fun g hg hm => by have := hMh.out.st.2.2.2.1 g hg; have := hns.out g hm; omega) (fun g hg hm => by have := hMh.out.st.2.2.2.2 g hg; have := hns.out g hm; omega))
    have hLX := HD (show InLed ((((wc.setCell ⟨w.heap.size + 1, 0, none⟩ (.slice VA vs.length vc)).setCell ⟨w.heap.size + 1, 1, none⟩ (.slice PA ps.length pc)).setCell ⟨w.heap.size + 1, 2, none⟩ (.slice QA qs.length qc)).setCell ⟨w.heap.size + 1, 3, none⟩ (.slice NA nx.length nc)) ⟨gi, go, ⟨GA, gc, gs⟩⟩ from OkT.but hMh.out.led.1 hBuX (fun g hg hm => by have := hMh.out.led.2 g hg; have := hns.out g hm; omega))
    have hNS := HD hMh.out.st.2
    have hNL := HD hMh.out.led.2
    have hokh := HD (hMh.out.ok rfl)
    have TX := HD (TWc.out.set (show w.heap.size + 1 < w.heap.size + 2 by omega) hBuX)
    obtain ⟨j31, hj1, hj2, hj3, hj4⟩ := i31
    obtain ⟨j90, hk1, hk2, hk3, hk4⟩ := i90
    have HJ := HD (And.intro hj1 (And.intro hj2 (And.intro hj3 hj4)))
    have HK := HD (And.intro hk1 (And.intro hk2 (And.intro hk3 hk4)))
    clear hj1 hj2 hj3 hj4 hk1 hk2 hk3 hk4 TWc TW hBuX
    go_upto_region 17 with fail
    clear e0 e1 e2 e3 e4 e5 e6 hBwc hBc hMh
    clear dn0 dn1 dx0 dx1 dx2 dx3 dfx0 dfx1 dfx2 dfx3
    generalize ((((wc.setCell ⟨w.heap.size + 1, 0, none⟩ (.slice VA vs.length vc)).setCell ⟨w.heap.size + 1, 1, none⟩ (.slice PA ps.length pc)).setCell ⟨w.heap.size + 1, 2, none⟩ (.slice QA qs.length qc)).setCell ⟨w.heap.size + 1, 3, none⟩ (.slice NA nx.length nc)) = W4 at *
    have hz4 : wr.heap.size ≤ W4.heap.size := by omega
    have hz5 : nb < W4.heap.size := cell_lt f0
    have hz6 : gb < W4.heap.size := cell_lt f4
    clear zX
    have hnL : Hid (nb ∉ Lb) := fun hm => by have := hL1.out nb hm; omega
    have hgL : Hid (gb ∉ Lb) := fun hm => by have := hL1.out gb hm; omega
    have hlS1 := hlS.out.1
    have hlS2 := hlS.out.2
    have hoS : Hid (∀ b : Option Nat, (∀ g, b = some g -> g < wr.heap.size) -> partT.off b ⟨⟨VA, vc, vs⟩, ⟨PA, pc, ps⟩, ⟨QA, qc, qs⟩, ⟨NA, nc, nx⟩⟩) := fun b hb => ⟨off_new hNS.out.1 hb, off_new hNS.out.2.1 hb, off_new hNS.out.2.2.1 hb, off_new hNS.out.2.2.2 hb⟩
    have hoG : Hid (∀ b : Option Nat, (∀ g, b = some g -> g < wr.heap.size) -> partG.off b ⟨gi, go, ⟨GA, gc, gs⟩⟩) := fun b hb => off_new hNL.out hb
    have hwz : w.heap.size + 2 ≤ wr.heap.size := by omega
    have PS := HD (hlS1)
    have PG := HD (hlS2)
    clear hlS1 hlS2 hlS
    have hBL : But Lb W4 W4 := But.refl _ _
    go_region_held3 (fun w' => w'.cell? ⟨nb, 0, none⟩ = some (.slice VA vs.length vc) /\ w'.cell? ⟨nb, 1, none⟩ = some (.slice PA ps.length pc) /\ w'.cell? ⟨nb, 2, none⟩ = some (.slice QA qs.length qc) /\ w'.cell? ⟨nb, 3, none⟩ = some (.slice NA nx.length nc) /\ w'.cell? ⟨gb, 0, none⟩ = some (.int .i64 gi) /\ w'.cell? ⟨gb, 1, none⟩ = some (.int .i64 go) /\ w'.cell? ⟨gb, 2, none⟩ = some (.slice GA gs.length gc)) ((exact (fun (hh : But Lb W4 _) => (⟨hh.cell f0 hnL.out, hh.cell f1 hnL.out, hh.cell f2 hnL.out, hh.cell f3 hnL.out, hh.cell f4 hgL.out, hh.cell f5 hgL.out, hh.cell f6 hgL.out⟩)) (by repeat (first | (with_reducible assumption) | (with_reducible exact But.refl _ _) | (with_reducible refine But.alloc ?_ _) | (with_reducible refine But.drew ?_))))) (first
     | (rw [if_pos (by rfl)]; refine wp_append_own_at _ (.tmp 74) (.tmp 76) 73 rfl (w.heap.size + 2) 31 j31 (.agg #[.slice none 0 0, .slice none 0 0, .slice none 0 0, .slice none 0 0]) 4 96 HU3.out HJ.out.1 HJ.out.2.1 HJ.out.2.2.1 HJ.out.2.2.2 rfl (by decide) S.val S.xs.length (S.xs.flatMap encT) rfl (TX.out.bl Bq).oa _ 1 1 (encT ⟨⟨VA, vc, vs⟩, ⟨PA, pc, ps⟩, ⟨QA, qc, qs⟩, ⟨NA, nc, nx⟩⟩) rfl rfl (by intro j u hj; match j, hj with | 0, hj => (simp [encT] at hj; subst hj; simp [Addr.add, go_sem]) | 1, hj => (simp [encT] at hj; subst hj; simp [Addr.add, go_sem]) | 2, hj => (simp [encT] at hj; subst hj; simp [Addr.add, go_sem]) | 3, hj => (simp [encT] at hj; subst hj; simp [Addr.add, go_sem])) (by intro u hu; simp [encT] at hu; rcases hu with rfl | rfl | rfl | rfl <;> rfl) (by unfold maxLen; omega) (by omega) (by (try simp only [aZ, dZ]); omega) ?_; intro v7 w7 hown7 hgr7 hat7; have hc7 := HD (fun (b o : Nat) (h1 : W4.heap.size ≤ b) h2 => World.cell?_of_block (a := ⟨b, o, none⟩) (hgr7.block b h2 (fun e => by have := PS.out b e.symm; omega))); have hB7 : But Lb W4 w7 := But.grown2 (by repeat (first | (with_reducible assumption) | (with_reducible exact But.refl _ _) | (with_reducible refine But.alloc ?_ _) | (with_reducible refine But.drew ?_))) hgr7 (fun g hg => .inl (hLS.out g hg)); obtain ⟨S', hv7, hSx, TW7, hSo⟩ := Two.pushA (TX.out.bl Bq) (InSt.up hSX.out Bq) (hoS.out _ PS.out) (hoS.out _ PG.out) (fun b hb => hoS.out _ (fun g hg => by simp only [Option.some.injEq] at hg; omega)) hown7 hgr7 hat7; subst hv7; have TW7h := HD TW7; have hSxh := HD hSx; have hGo7 := HD (partG.new (InLed.up hLX.out Bq) (hoG.out _ PS.out) hSo); have hGr7 := HD (partG.grown (InLed.up hLX.out Bq) (hoG.out _ PS.out) hgr7); clear hown7 hgr7 hat7 TW7 hSx hSo)
     | (rw [if_pos (by rfl)]; refine wp_append_own_at _ (.tmp 78) (.tmp 80) 74 rfl (w.heap.size + 2) 90 j90 (.agg #[.int .i64 0, .int .i64 0, .slice none 0 0]) 3 40 HU4.out HK.out.1 HK.out.2.1 HK.out.2.2.1 HK.out.2.2.2 rfl (by decide) G.val G.xs.length (G.xs.flatMap encG) rfl (TW7h.out.bl Bq).ob _ 1 1 (encG ⟨gi, go, ⟨GA, gc, gs⟩⟩) rfl rfl (by intro j u hj; match j, hj with | 0, hj => (simp [encG] at hj; subst hj; first | (simp [Addr.add, go_sem]; done) | (simp [Addr.add]; refine (hc7.out _ _ (by (try simp only [aZ, dZ]); omega) (by (try simp only [aZ, dZ]); omega)).trans (by simp [go_sem]))) | 1, hj => (simp [encG] at hj; subst hj; first | (simp [Addr.add, go_sem]; done) | (simp [Addr.add]; refine (hc7.out _ _ (by (try simp only [aZ, dZ]); omega) (by (try simp only [aZ, dZ]); omega)).trans (by simp [go_sem]))) | 2, hj => (simp [encG] at hj; subst hj; first | (simp [Addr.add, go_sem]; done) | (simp [Addr.add]; refine (hc7.out _ _ (by (try simp only [aZ, dZ]); omega) (by (try simp only [aZ, dZ]); omega)).trans (by simp [go_sem])))) (by intro u hu; simp [encG] at hu; rcases hu with rfl | rfl | rfl <;> rfl) (by unfold maxLen; omega) (by omega) (by have hs9 := hB7.size; (try simp only [aZ, dZ]); omega) ?_; intro v8 w8 hown8 hgr8 hat8; have hB8 : But Lb W4 w8 := But.grown2 (by repeat (first | (with_reducible assumption) | (with_reducible exact But.refl _ _) | (with_reducible refine But.alloc ?_ _) | (with_reducible refine But.drew ?_))) hgr8 (fun g hg => .inl (hLG.out g hg)); obtain ⟨G', hv8, hGx, TW8⟩ := Two.pushB (TW7h.out.bl Bq) (partG.up hGr7.out Bq) hGo7.out (hoG.out _ PG.out) (fun b hb => hoG.out _ (fun g hg => by simp only [Option.some.injEq] at hg; omega)) hown8 hgr8 hat8; subst hv8; have TW8h := HD TW8; have hGxh := HD hGx; clear hown8 hgr8 hat8 TW8 hGx))
    all_goals (
     have hBw8 : Bl w w8 := But.bl hBX hB8 (fun b hb => by have := hL1.out b hb; omega)
     have hb0 : w.heap.size ∉ Lb := fun hm => by have := hL1.out _ hm; omega
     have hb1 : w.heap.size + 1 ∉ Lb := fun hm => by have := hL1.out _ hm; omega
     have z8 : w.heap.size + 1 < w8.heap.size := by have := hB8.size; omega
     have hn0 := hB8.cell gn0 hb0
     have hn1 := hB8.cell gn1 hb0
     have hx0 := hB8.cell gx0 hb1
     have hfx0 := But.fro hB8 gx0 gfx0 hb1
     have hx1 := hB8.cell gx1 hb1
     have hfx1 := But.fro hB8 gx1 gfx1 hb1
     have hx2 := hB8.cell gx2 hb1
     have hfx2 := But.fro hB8 gx2 gfx2 hb1
     have hx3 := hB8.cell gx3 hb1
     have hfx3 := But.fro hB8 gx3 gfx3 hb1
     have hI8 := HD (TW8h.out.ra ⟨⟨VA, vc, vs⟩, ⟨PA, pc, ps⟩, ⟨QA, qc, qs⟩, ⟨NA, nc, nx⟩⟩ (by rw [hSxh.out]; simp)).1
     have hP8 := HD (show (⟨⟨VA, vc, vs⟩, ⟨PA, pc, ps⟩, ⟨QA, qc, qs⟩, ⟨NA, nc, nx⟩⟩ : St) = prevS s S'.xs (kk + 1) from by
      rw [hSxh.out]
      show _ = List.getD _ kk s
      rw [List.getD_eq_getElem?_getD, <- SL.out, List.getElem?_append_right (Nat.le_refl _)]
      simp)
     have hL8 := HD (show S'.xs.length = kk + 1 from by rw [hSxh.out, List.length_append, SL.out]; rfl)
     have hR8 := HD (show RunOk ⟨⟨A, c, xs⟩, ⟨A2, c2, ls⟩⟩ fs s S'.xs G'.xs from by
      rw [hSxh.out, hGxh.out]
      refine RO.out.push ?_
      have h1 := hokh.out
      rw [YE.out] at h1
      rw [SL.out]
      exact h1)
     clear hB7 f0 f1 f2 f3 f4 f5 f6 gn0 gn1 gx0 gx1 gx2 gx3 gfx0 gfx1 gfx2 gfx3
     go_wp2_with fail
     go_roundg (m - (kk + 1))
     (case measure => omega)
     (case rel => exact ⟨kk + 1, S', G', ⟨⟨VA, vc, vs⟩, ⟨PA, pc, ps⟩, ⟨QA, qc, qs⟩, ⟨NA, nc, nx⟩⟩, by omega, by omega, rfl, rfl, by go_num, hBw8, aside z8, aside hn0, aside hn1, aside hx0, aside hx1, aside hx2, aside hx3, aside hfx0, aside hfx1, aside hfx2, aside hfx3, hI8.out, hP8.out, hL8.out, hR8.out, TW8h.out⟩))
  ·have hltz : ¬ (kk : Int) < (m : Int) := by omega
   have hkm : kk = m := by omega
   subst hkm
   have hfin := HD (show R (.returned (.tuple #[S.val, G.val, .int .i64 0])) wr from by
    rw [hRh.out]
    have h1 := TW.out
    have h2 := SL.out
    have h3 := RO.out.1
    exact ⟨S, G, 0, rfl, Own.ok2 h1.oa (fun _ => rfl) (by omega) (fun x hx => (h1.ra x hx).1), Own.ok2 h1.ob (fun _ => rfl) (by omega) (fun x hx => (h1.rb x hx).1), fun h => absurd rfl h, fun _ => ⟨by omega, by omega, by omega, hok.out, hio.out, RO.out⟩, BW'⟩)
   go_wp2_with fail
   first | exact hfin.out | exact bodyPost_ret (v := .tuple #[S.val, G.val, .int .i64 0]) (by simp [results, Tryz.results19, go_sem, *]; try exact ⟨rfl, rfl⟩) rfl hfin.out
theorem f19_c (n : Net) (l : Sl Sec) (rl : Sl Rul) (s : St) (fs : Sl Infl) (sec st : Int) (w : World) (hN : InNet w n) (hl : InSecs w l) (hr : InRuls w rl) (ht : InSt w s) (hF : InInfls w fs) : Calls Tryz.prog 19 #[n.val, l.val, rl.val, s.val, fs.val, .int .i64 sec, .int .i64 st] w (RRun n fs.xs s st w) := by
 obtain ⟨⟨A, c, xs⟩, ⟨A2, c2, ls⟩⟩ := n
 obtain ⟨FA, fc, fs⟩ := fs
 exact f19_core A A2 FA c c2 fc xs ls fs l rl s sec st w hN hl hr ht hF
theorem wpList_append_run {P : Program} {w : World} {ops : Array Oper} {rest : List Oper} {o : Oper} {a : Act} {Q : Exit -> Act -> World -> Prop} (hgd : o.guard = none) (s x : Operand) (ats : Array TypeId)
 (ho : o.op = .call { callee := .builtin .append, args := #[s, x], argTypes := ats }) (v' : Value) (w' : World) (hr : (Builtin.append_ ats o.type #[a.eval s, a.eval x]).run P w = .ok v' w')
 (h : wpList P ops Q rest (a.put o.dst v') w') : wpList P ops Q (o :: rest) a w := by
 refine wpList_plain hgd fun K hK => ?_
 unfold Oper.wp execOp
 simp only [ho, resolve, invoke, builtin, Sem.run_bind, Sem.run_pure, Result.andThen_ok, List.map_toArray, List.map_cons, List.map_nil, hr]
 exact hK _ _ h
theorem run_append_none {P : Program} {w : World} {t ty e : TypeId} {i : TypeInfo} (ht : P.underlying t = some (.slice e)) (hi : P.info? e = some i) {base size n : Nat} {v : Value} {xs : List Value} (h : w.ownsRow base e size v n xs) (hsz : i.size = size) (c : Nat) :
 (Builtin.append_ #[t, t] ty #[v, .slice none 0 c]).run P w = .ok v w := by
 rcases h.2 with ⟨rfl, rfl⟩ | ⟨g, cap, cur, rfl, _, hg, hnc, _, hcs, _⟩
 ·simp [Builtin.append_, run_underlying ht, sizeOf, typeInfo, hi, Builtin.lenOf, Builtin.firstCells]
 ·simp [Builtin.append_, run_underlying ht, sizeOf, typeInfo, hi, Builtin.lenOf, Builtin.firstCells, hnc, storeCells]
theorem run_append_make_nil {P : Program} {w : World} {t ti ty e : TypeId} {i : TypeInfo} {z : Value} {k : IntKind} (ht : P.underlying t = some (.slice e)) (hti : P.underlying ti = some (.int k)) (hi : P.info? e = some i) (hz : i.zero = some z) (hs : 0 < i.size)
 (n : Nat) (h0 : 0 < n) (h63 : n * 2 ≤ 9223372036854775807) (h48 : n * i.bytes ≤ 281474976710656) :
 (Builtin.append_ #[t, ti] ty #[.slice none 0 0, .int .i64 n]).run P w =
  .ok (.slice (some ⟨w.heap.size, 0, none⟩) n (grownCap w n 0 e)) (w.drew.alloc (.cells (Builtin.zeroCells z.cells n ++ Builtin.zeroCells z.cells (grownCap w n 0 e - n)) e)) := by
 have hn : n ≠ 0 := by omega
 have h63' : ¬ (9223372036854775807 < (n : Int)) := by omega
 have hw : IntKind.i64.wrap (n : Int) = (n : Int) := IntWalk.i64_in _ (by omega)
 have hneg : ¬ ((n : Int) < 0) := by omega
 have hb : ¬ (281474976710656 < (n : Int) * (i.bytes : Int)) := by
  have : (n : Int) * (i.bytes : Int) = ((n * i.bytes : Nat) : Int) := by simp
  omega
 have h48' : ¬ (281474976710656 < Builtin.nextslicecap n 0 * i.bytes) := by rw [nextslicecap_zero h0]; omega
 have hsn : ¬ (n = 0 \/ i.size = 0) := by omega
 simp [Builtin.append_, run_underlying ht, run_underlying hti, sizeOf, typeInfo, zeroValue, hi, hz, Builtin.lenOf, hn, h63', h48', hw, hneg, hb, hsn, Question.forced, run_firstCells_none, newRow, grownCap, asInt, asIntOf]
 intro h
 rcases Nat.mul_eq_zero.mp h with h | h <;> omega
theorem i9 : ∃ i, Tryz.prog.info? 9 = some i /\ i.zero = some (.string ⟨#[]⟩) /\ i.size = 1 /\ i.bytes = 16 := info_of (by kernel_rfl)
theorem u70 : Tryz.prog.underlying 70 = some (.slice 9) := by kernel_rfl
theorem f87_c (k : Nat) (w : World) (hk : k ≤ 100000) : Calls Tryz.prog 87 #[.slice none 0 0, .int .i64 k] w fun e w' => ∃ v, e = .returned v /\ w'.ownsRow w.heap.size 9 1 v 0 [] /\ Bl w w' := by
 by_cases h0 : k = 0
 ·subst h0
  go_enter Tryz.func87, Tryz.ntmps87
  go_wp2_with fail
  go_ret
  exact ⟨_, rfl, World.ownsRow_nil _ _ _ _, Bl.refl _⟩
 ·have hkz : (0 : Int) < (k : Int) := by omega
  have hkn : ¬ (k : Int) < 0 := by omega
  have hw1 : IntKind.i64.wrap (k : Int) = (k : Int) := IntWalk.i64_in _ (by omega)
  obtain ⟨i0, hi, hz0, hz1, hz2⟩ := i9
  have hr := HD (fun W => run_append_make_nil (w := W) (ty := 70) u70 u3 hi hz0 (by omega) k (by omega) (by omega) (by rw [hz2]; omega))
  clear hi hz0 hz1 hz2
  go_enter Tryz.func87, Tryz.ntmps87
  go_wp2_with (at_builtin; refine wpList_append_run rfl _ _ _ rfl _ _ (hr.out _) ?_)
  go_ret
  have hge := grownCap_ge w k 0 9
  have hle := grownCap_le_maxLen w k 0 9 (by simp [maxLen]; omega)
  refine ⟨_, rfl, ⟨by simp, .inr ⟨w.heap.size, _, _, rfl, Nat.le_refl _, heap_alloc_new w _, Nat.zero_le _, hle, ?_, by simp⟩⟩, bz⟩
  simp [size_zeroCells]
  omega
theorem run_append_S {w : World} {base : Nat} {v : Value} {n : Nat} {ys : List Value} (hown : w.ownsRow base 9 1 v n ys) (hbase : base ≤ w.heap.size) (s : Sl ByteArray) {B : Nat} (hs : s.Ok encS 1 okT B w) (hl : n + s.xs.length ≤ 100000) :
 ∃ v' w', (Builtin.append_ #[70, 70] 70 #[v, s.val]).run Tryz.prog w = .ok v' w' /\ w'.ownsRow base 9 1 v' (n + s.xs.length) (ys ++ s.xs.map Value.string) /\ w.grownBy w' v.ownBlock := by
 obtain ⟨i0, hi, hz0, hz1, hz2⟩ := i9
 obtain ⟨A, c, xs⟩ := s
 simp only at hl
 cases A with
 | none =>
  have hx : xs = [] := by
   rcases xs with _ | ⟨x, l⟩
   ·rfl
   ·obtain ⟨b, off, hA, _⟩ := hs.place (by simp)
    cases hA
  subst hx
  refine ⟨v, w, run_append_none u70 hi hown hz1 c, by simpa using hown, ⟨rfl, rfl, rfl, Nat.le_refl _, fun _ _ _ => rfl⟩⟩
 | some ad =>
  have hcell : ∀ j u, (xs.map Value.string)[j]? = some u -> w.cell? (ad.add j) = some u := by
   intro j u hj
   rw [List.getElem?_map] at hj
   cases hjj : xs[j]? with
   | none => rw [hjj] at hj; cases hj
   | some x =>
    rw [hjj] at hj
    obtain ⟨hlt, rfl⟩ := List.getElem?_eq_some_iff.mp hjj
    obtain ⟨b, off, hA, _, _, hc⟩ := hs.place (by intro e; simp only at e; rw [e] at hlt; simp at hlt)
    simp only [Option.some.injEq] at hA
    subst hA
    have := hc j hlt 0 (.string xs[j]) rfl
    rw [Nat.mul_one] at this
    simp only [Option.map_some, Option.some.injEq] at hj
    subst hj
    by_cases hj0 : j = 0
    ·subst hj0; simpa [Addr.add] using this
    ·simpa [Addr.add, hj0] using this
  obtain ⟨v', w', h1, h2, h3, _⟩ := run_append_own_at (P := Tryz.prog) w base 70 70 9 i0 (.string ⟨#[]⟩) 1 16 u70 hi hz0 hz1 hz2 rfl (by decide) v n ys hown ad xs.length c (xs.map Value.string) (by simp) hcell (fun u hu => by rw [List.mem_map] at hu; obtain ⟨x, _, rfl⟩ := hu; rfl) (by unfold maxLen; omega) (by omega) hbase
  exact ⟨v', w', h1, h2, h3⟩
theorem ofRowS {w : World} {base : Nat} {v : Value} {xs : List ByteArray} (h : w.ownsRow base 9 1 v xs.length (xs.map Value.string)) (hl : xs.length ≤ 100000) : ∃ s : Sl ByteArray, v = s.val /\ s.xs = xs /\ InS w s /\ ∀ g, s.val.ownBlock = some g -> base ≤ g := by
 obtain ⟨s, rfl, rfl, hO⟩ := Own1.ofRow (f := Value.string) h
 exact ⟨s, rfl, rfl, Own1.ok hO (by omega) (fun _ _ => trivial), fun g hg => (hO.lt g hg).1⟩
set_option maxHeartbeats 2000000 in
theorem f55_c (p : Nat) (a b : Sl ByteArray) (w : World) (ha : InS w a) (hb : InS w b) (h0 : w.cell? ⟨p, 0, none⟩ = some a.val) (h1 : w.cell? ⟨p, 1, none⟩ = some b.val) (hl : a.xs.length + b.xs.length ≤ 10000) :
 Calls Tryz.prog 55 #[.slice (some ⟨p, 0, none⟩) 2 2] w fun e w' => ∃ s : Sl ByteArray, e = .returned s.val /\ s.xs = a.xs ++ b.xs /\ InS w' s /\ Bl w w' := by
 obtain ⟨R, hR⟩ : ∃ R : Ending -> World -> Prop, R = fun e w' => ∃ s : Sl ByteArray, e = .returned s.val /\ s.xs = a.xs ++ b.xs /\ InS w' s /\ Bl w w' := ⟨_, rfl⟩
 rw [<- hR]
 have hRh := HD hR
 clear hR
 have hah := HD ha
 have hbh := HD hb
 have T87 : Hid (∀ W, Calls Tryz.prog 87 #[.slice none 0 0, .int .i64 ((a.xs.length : Int) + (b.xs.length : Int))] W fun e w' => ∃ v, e = .returned v /\ w'.ownsRow W.heap.size 9 1 v 0 [] /\ Bl W w') := fun W => by
  have := f87_c (a.xs.length + b.xs.length) W (by omega)
  rw [Int.natCast_add] at this
  exact this
 obtain ⟨A, ac, la⟩ := a
 obtain ⟨B, bc, lb⟩ := b
 simp only at hl
 have e0 : w.cell? ⟨p, 0, none⟩ = some (.slice A la.length ac) := h0
 have e1 : w.cell? ⟨p, 1, none⟩ = some (.slice B lb.length bc) := h1
 have wa : IntKind.i64.wrap (la.length : Int) = (la.length : Int) := IntWalk.i64_in _ (by omega)
 have wab : IntKind.i64.wrap ((la.length : Int) + (lb.length : Int)) = (la.length : Int) + (lb.length : Int) := IntWalk.i64_in _ (by omega)
 have na : (0 : Int) ≤ (la.length : Int) := by omega
 have nab : (0 : Int) ≤ (la.length : Int) + (lb.length : Int) := by omega
 clear ha hb h0 h1
 go_enter Tryz.func55, Tryz.ntmps55
 go_wp2_with fail
 refine wp_loop_rounds 3 ?_
 rw [rounds_succ]
 go_wp2_with fail
 rw [rounds_succ]
 go_wp2_with fail
 rw [rounds_succ]
 go_wp2_with fail
 refine (T87.out _).mono ?_
 rintro e w2 ⟨v, rfl, hown, hw2⟩
 obtain ⟨v3, w3, hr3, ho3, hg3⟩ := run_append_S hown hw2.size ⟨A, ac, la⟩ (InS.up hah.out hw2) (by simp only; omega)
 have hB3 : Bl w w3 := Bl.grown hw2 hg3 (fun g hg => (World.ownsRow.lt hown g hg).1)
 obtain ⟨v4, w4, hr4, ho4, hg4⟩ := run_append_S ho3 hB3.size ⟨B, bc, lb⟩ (InS.up hbh.out hB3) (by simp only; omega)
 have hB4 : Bl w w4 := Bl.grown hB3 hg4 (fun g hg => (World.ownsRow.lt ho3 g hg).1)
 have q0 := hw2.keep e0
 have q1 := hB3.keep e1
 have hr3' : Sem.run Tryz.prog (Builtin.append_ #[70, 70] 70 #[v, .slice A la.length ac]) w2 = .ok v3 w3 := hr3
 have hr4' : Sem.run Tryz.prog (Builtin.append_ #[70, 70] 70 #[v3, .slice B lb.length bc]) w3 = .ok v4 w4 := hr4
 have ho4 := HD ho4
 have hB4 := HD hB4
 clear hr3 hr4 ho3 hown hg3 hg4 hw2 hB3
 go_wp2_with fail
 refine wp_loop_rounds 3 ?_
 rw [rounds_succ]
 go_wp2_with (at_builtin; refine wpList_append_run rfl _ _ _ rfl _ _ hr3' ?_)
 rw [rounds_succ]
 go_wp2_with (at_builtin; refine wpList_append_run rfl _ _ _ rfl _ _ hr4' ?_)
 rw [rounds_succ]
 go_wp2_with fail
 rw [hRh.out]
 have h9 := ho4.out
 simp only [List.nil_append, Nat.zero_add, <- List.map_append, <- List.length_append] at h9
 obtain ⟨s, rfl, hx, hI, _⟩ := ofRowS h9 (by simp; omega)
 exact ⟨s, rfl, hx, hI, hB4.out⟩
set_option maxHeartbeats 1000000 in
theorem f61_c (s : Sl ByteArray) (v : ByteArray) (w : World) (hs : InS w s) : Calls Tryz.prog 61 #[s.val, .string v] w fun e w' => e = .returned (.int .i64 (ix (fun y => v == y) s.xs)) /\ Bl w w' := by
 have hr := hs.room
 obtain ⟨A, c, xs⟩ := s
 simp only at hr
 by_cases h0 : xs = []
 ·subst h0
  clear hs
  show Calls Tryz.prog 61 #[.slice A 0 c, .string v] w _
  go_enter Tryz.func61, Tryz.ntmps61
  go_wp2
  refine wp_loop_rounds 1 ?_
  rw [rounds_succ]
  go_wp2
  go_ret
  exact ⟨rfl, Bl.refl _⟩
 ·obtain ⟨b, off, hA, hB, hw, hc⟩ := hs.place h0
  simp only at hA
  subst hA
  have hrow := HD (fun W hb i hi => Sl.Ok.cells hs rfl W hb i hi 0 _ rfl)
  clear hs hc h0
  obtain ⟨R, hR⟩ : ∃ R : Ending -> World -> Prop, R = fun e w' => e = .returned (.int .i64 (ix (fun y => v == y) xs)) /\ Bl w w' := ⟨_, rfl⟩
  show Calls Tryz.prog 61 #[.slice (some ⟨b, off, none⟩) xs.length c, .string v] w (fun e w' => e = .returned (.int .i64 (ix (fun y => v == y) xs)) /\ Bl w w')
  rw [<- hR]
  have hRh := HD hR
  clear hR
  go_enter Tryz.func61, Tryz.ntmps61
  go_wp2_with fail
  go_loopg [5, 8] xs.length (fun gg _ s8 wr => ∃ kk : Nat, kk ≤ xs.length /\ xs.length - kk ≤ gg /\ s8 = .int .i64 kk /\ Aside (Bl w wr) /\ Aside (∀ j (hj : j < xs.length), j < kk -> (v == xs[j]) = false))
  case atStart => exact ⟨0, Nat.zero_le _, by omega, rfl, Bl.refl w, fun j _ hj => absurd hj (Nat.not_lt_zero _)⟩
  case round =>
   obtain ⟨kk, hkk, hg, rfl, BW, PR⟩ := hrel
   by_cases hlt : kk < xs.length
   ·have hltz : (kk : Int) < (xs.length : Int) := by omega
    have hkz : (0 : Int) ≤ (kk : Int) := by omega
    have hc := hrow.out wr BW.out kk hlt
    have hstep : Hid ((v == xs[kk]) = false -> ∀ j (hj : j < xs.length), j < kk + 1 -> (v == xs[j]) = false) := fun h j hj hk => by
     rcases Nat.lt_or_ge j kk with h1 | h1
     ·exact PR.out j hj h1
     ·have : j = kk := by omega
      subst this; exact h
    have hhit : Hid ((v == xs[kk]) = true -> ix (fun y => v == y) xs = (kk : Int)) := fun h => ix_hit _ xs kk hlt h (fun j hj => PR.out j (by omega) hj)
    generalize xs[kk] = y at hc hstep hhit
    have e0 : wr.cell? ⟨b, off + kk, none⟩ = some (.string y) := by rwa [Nat.mul_one] at hc
    clear hc
    have hbt : (v.toList == y.toList) = (v == y) := (beq_toListBytes _ _).symm
    cases hvy : (v == y)
    ·rw [hvy] at hbt
     have hst := HD (hstep.out hvy)
     clear hvy
     go_wp2_with fail
     go_roundg (xs.length - (kk + 1))
     case measure => omega
     case rel => exact ⟨kk + 1, by omega, by omega, by go_num, BW.out, hst.out⟩
    ·rw [hvy] at hbt
     have hh := HD (hhit.out hvy)
     clear hvy
     go_wp2_with fail
     rw [hRh.out]
     exact ⟨by rw [hh.out]; rfl, BW.out⟩
   ·have hltz : ¬ (kk : Int) < (xs.length : Int) := by omega
    have hm := HD (ix_miss (fun y => v == y) xs (fun x hx => by
     obtain ⟨j, hj, rfl⟩ := List.getElem_of_mem hx
     exact PR.out j hj (by omega)))
    go_wp2_with fail
    rw [hRh.out]
    exact ⟨by rw [hm.out]; first | done | rfl, BW.out⟩
theorem f31_c (s : Sl ByteArray) (v : ByteArray) (w : World) (hs : InS w s) : Calls Tryz.prog 31 #[s.val, .string v] w fun e w' => e = .returned (.bool (s.xs.any (fun y => v == y))) /\ Bl w w' := by
 have T := HD (fun W (hb : Bl w W) => f61_c s v W (InS.up hs hb))
 clear hs
 have hi := HD (any_ix (fun y => v == y) s.xs)
 generalize ix (fun y => v == y) s.xs = i at T hi
 generalize s.xs.any (fun y => v == y) = bb at hi
 by_cases h : 0 ≤ i
 ·go_enter Tryz.func31, Tryz.ntmps31
  go_wp2_with fail
  refine (T.out _ bz).mono ?_
  rintro e w1 ⟨rfl, hw1⟩
  go_wp2_with fail
  go_ret
  exact ⟨ret_bool (by have h9 := hi.out; rw [h9]; first | done | simp [h] | rfl), bz⟩
 ·go_enter Tryz.func31, Tryz.ntmps31
  go_wp2_with fail
  refine (T.out _ bz).mono ?_
  rintro e w1 ⟨rfl, hw1⟩
  go_wp2_with fail
  go_ret
  exact ⟨ret_bool (by have h9 := hi.out; rw [h9]; first | done | simp [h]), bz⟩
def cutP (fr tl : List ByteArray) (l : Lk) : Bool := fr.any (fun y => l.src == y) && tl.any (fun y => l.dst == y)
def cutL (ls : List Lk) (fr tl : List ByteArray) : List ByteArray := (ls.filter (cutP fr tl)).map Lk.name
theorem cutL_push {ls : List Lk} {fr tl : List ByteArray} {k : Nat} (hk : k < ls.length) : cutL (ls.take (k + 1)) fr tl = if cutP fr tl ls[k] = true then cutL (ls.take k) fr tl ++ [ls[k].name] else cutL (ls.take k) fr tl := by
 unfold cutL
 rw [List.take_succ_eq_append_getElem hk, List.filter_append, List.map_append]
 by_cases h : cutP fr tl ls[k] = true
 ·rw [if_pos h]; simp [h]
 ·rw [if_neg h]; simp [h]
theorem cutL_len (ls : List Lk) (fr tl : List ByteArray) : (cutL ls fr tl).length ≤ ls.length := by
 unfold cutL
 rw [List.length_map]
 exact List.length_filter_le _ _
def RCut (n : Net) (fr tl : List ByteArray) (w : World) (e : Ending) (w' : World) : Prop := ∃ s : Sl ByteArray, e = .returned (.tuple #[s.val, .int .i64 0]) /\ s.xs = cutL n.links.xs fr tl /\ InS w' s /\ Bl w w'
set_option maxHeartbeats 4000000 in
theorem f27_core (A A2 FA TA : Option Addr) (c c2 fc tc : Nat) (xs : List Nd) (ls : List Lk) (fs ts : List ByteArray) (w : World) (hN : InNet w ⟨⟨A, c, xs⟩, ⟨A2, c2, ls⟩⟩) (hF : InS w ⟨FA, fc, fs⟩) (hT : InS w ⟨TA, tc, ts⟩) (hb : netB ⟨⟨A, c, xs⟩, ⟨A2, c2, ls⟩⟩ = true)
 (hl : fs.length + ts.length ≤ 10000) (hn : ∀ y ∈ fs ++ ts, 0 ≤ ndIx ⟨⟨A, c, xs⟩, ⟨A2, c2, ls⟩⟩ y) :
 Calls Tryz.prog 27 #[.agg #[.slice A xs.length c, .slice A2 ls.length c2], .slice FA fs.length fc, .slice TA ts.length tc] w (RCut ⟨⟨A, c, xs⟩, ⟨A2, c2, ls⟩⟩ fs ts w) := by
 have hL4 := ((netB_iff _).mp hb).2.1
 simp only at hL4
 have T54 := HD (fun W (h : Bl w W) => f54_c ⟨⟨A, c, xs⟩, ⟨A2, c2, ls⟩⟩ W (InNet.up hN h))
 rw [hb] at T54
 have T55 := HD (fun W p (h : Bl w W) (h0 : W.cell? ⟨p, 0, none⟩ = some (.slice FA fs.length fc)) (h1 : W.cell? ⟨p, 1, none⟩ = some (.slice TA ts.length tc)) => f55_c p ⟨FA, fc, fs⟩ ⟨TA, tc, ts⟩ W (InS.up hF h) (InS.up hT h) h0 h1 hl)
 have T56 : Hid (∀ W nm, Bl w W -> 0 ≤ ndIx ⟨⟨A, c, xs⟩, ⟨A2, c2, ls⟩⟩ nm -> Calls Tryz.prog 56 #[.agg #[.slice A xs.length c, .slice A2 ls.length c2], .string nm] W fun e w' => e = .returned (.tuple #[.int .i64 (ndIx ⟨⟨A, c, xs⟩, ⟨A2, c2, ls⟩⟩ nm), .int .i64 0]) /\ Bl W w') := fun W nm h h0 => by
  have := f56_c ⟨⟨A, c, xs⟩, ⟨A2, c2, ls⟩⟩ nm W (InNet.up hN h)
  unfold ndErr at this
  rw [if_pos hb, if_neg (by omega)] at this
  exact this
 have T31f := HD (fun W v (h : Bl w W) => f31_c ⟨FA, fc, fs⟩ v W (InS.up hF h))
 have T31t := HD (fun W v (h : Bl w W) => f31_c ⟨TA, tc, ts⟩ v W (InS.up hT h))
 have hNh := HD hN
 have hnh := HD hn
 have hlh := HD hl
 obtain ⟨R, hR⟩ : ∃ R, R = RCut ⟨⟨A, c, xs⟩, ⟨A2, c2, ls⟩⟩ fs ts w := ⟨_, rfl⟩
 rw [<- hR]
 have hRh := HD hR
 obtain ⟨i0, hi, hz0, hz1, hz2⟩ := i9
 have HI := HD (And.intro hi (And.intro hz0 (And.intro hz1 hz2)))
 clear hN hF hT hb hl hn hR hi hz0 hz1 hz2
 go_enter Tryz.func27, Tryz.ntmps27
 go_wp2_with fail
 refine (T54.out _ bz).mono ?_
 rintro e w1 ⟨rfl, hw1⟩
 have a0 : w1.cell? ⟨w.heap.size, 0, none⟩ = some (.slice A xs.length c) := hw1.keep (by simp [go_sem])
 have a1 : w1.cell? ⟨w.heap.size, 1, none⟩ = some (.slice A2 ls.length c2) := hw1.keep (by simp [go_sem])
 have hB1 : Bl w w1 := bz
 have z1 : w.heap.size < w1.heap.size := by have := hw1.size; simp at this; omega
 clear hw1 T54
 go_wp2_with fail
 have hBa : Bl w1 (w1.alloc (Obj.cells #[.slice FA fs.length fc, .slice TA ts.length tc] 70)) := bz
 refine (T55.out _ _ (hB1.trans hBa) (by simp [go_sem]) (by simp [go_sem])).mono ?_
 rintro e w2 ⟨⟨CA, cc, cs⟩, he, hcs, hIC, hw2⟩
 obtain rfl : e = .returned (.slice CA cs.length cc) := he
 have b0 := hw2.keep (hBa.keep a0)
 have b1 := hw2.keep (hBa.keep a1)
 have hB2 : Bl w w2 := (hB1.trans hBa).trans hw2
 have z2 : w.heap.size < w2.heap.size := by have := hw2.size; simp at this; omega
 have hnc : Hid (∀ y ∈ cs, 0 ≤ ndIx ⟨⟨A, c, xs⟩, ⟨A2, c2, ls⟩⟩ y) := fun y hy => hnh.out y (by rw [<- hcs]; exact hy)
 have hIh := HD hIC
 have hrc := hIC.room
 simp only at hrc
 clear hw2 hBa hB1 z1 a0 a1 T55 hIC hcs hnh
 go_wp2_with fail
 go_loopg [23] cs.length (fun gg s23 wr => ∃ (kk : Nat), kk ≤ cs.length /\ cs.length - kk ≤ gg /\ s23 = .int .i64 kk /\ Aside (Bl w2 wr))
 case atStart => exact ⟨0, Nat.zero_le _, by omega, rfl, Bl.refl _⟩
 case round =>
  obtain ⟨kk, hkk, hg, rfl, BW⟩ := hrel
  have BW' := BW.out
  have c0 := BW'.keep b0
  have c1 := BW'.keep b1
  by_cases hlt : kk < cs.length
  ·have hltz : (kk : Int) < (cs.length : Int) := by omega
   have hkz : (0 : Int) ≤ (kk : Int) := by omega
   obtain ⟨bC, oC, hCA, _, _, _⟩ := hIh.out.place (by intro e; simp only at e; rw [e] at hlt; simp at hlt)
   simp only at hCA
   subst hCA
   have hc := Sl.Ok.cells hIh.out rfl wr BW' kk hlt 0 _ rfl
   have hy := HD (hnc.out cs[kk] (List.getElem_mem _))
   generalize cs[kk] = y at hc hy
   have e0 : wr.cell? ⟨bC, oC + kk, none⟩ = some (.string y) := by rwa [Nat.mul_one] at hc
   clear hc
   go_wp2_with fail
   refine (T56.out _ y (hB2.trans BW') hy.out).mono ?_
   rintro e w3 ⟨rfl, hw3⟩
   have hB3 := BW'.trans hw3
   clear c0 c1
   go_wp2_with fail
   go_roundg (cs.length - (kk + 1))
   case measure => omega
   case rel => exact ⟨kk + 1, by omega, by omega, by go_num, hB3⟩
  ·have hltz : ¬ (kk : Int) < (cs.length : Int) := by omega
   have hB3 : Bl w wr := hB2.trans BW'
   have z3 : w.heap.size < wr.heap.size := by have := BW'.size; omega
   clear BW BW' hkk hg hlt b0 b1 hB2 z2
   go_wp2_with fail
   go_loopg [12, 40] ls.length (fun gg s12 s40 wr => ∃ (kk : Nat) (s : Sl ByteArray), kk ≤ ls.length /\ ls.length - kk ≤ gg /\ s12 = s.val /\ s40 = .int .i64 kk /\ Aside (Bl w wr) /\ Aside (w.heap.size < wr.heap.size) /\ Aside (wr.cell? ⟨w.heap.size, 0, none⟩ = some (.slice A xs.length c)) /\ Aside (wr.cell? ⟨w.heap.size, 1, none⟩ = some (.slice A2 ls.length c2)) /\ Aside (Own encS 1 9 (w.heap.size + 1) wr s) /\ Aside (s.xs = cutL (ls.take kk) fs ts))
   case atStart => exact ⟨0, ⟨none, 0, []⟩, Nat.zero_le _, by omega, rfl, rfl, hB3, aside z3, aside c0, aside c1, Own.nil, aside (by simp [cutL])⟩
   case round =>
    clear c0 c1 hB3 z3
    obtain ⟨kk, s, hkk, hg, rfl, rfl, BW, Z, C0, C1, OW, SX⟩ := hrel
    have BW' := BW.out
    have Z' := Z.out
    have C0' := C0.out
    have C1' := C1.out
    by_cases hlt : kk < ls.length
    ·have hltz : (kk : Int) < (ls.length : Int) := by omega
     have hkz : (0 : Int) ≤ (kk : Int) := by omega
     obtain ⟨bL, offL, hA2, _, _, _⟩ := hNh.out.links.place (by intro e; simp only at e; rw [e] at hlt; simp at hlt)
     simp only at hA2
     subst hA2
     have hc := Sl.Ok.cells hNh.out.links rfl wr BW' kk hlt
     simp only at hc
     have hpu := HD (cutL_push (fr := fs) (tl := ts) hlt)
     have hsl : s.xs.length ≤ 400 := by
      have h1 := SX.out
      have h2 := cutL_len (ls.take kk) fs ts
      rw [h1]
      rw [List.length_take] at h2
      omega
     generalize ls[kk] = y at hc hpu
     have e0 : wr.cell? ⟨bL, offL + kk * 11, none⟩ = some (.string y.name) := hc 0 _ rfl; have e1 : wr.cell? ⟨bL, offL + kk * 11 + 1, none⟩ = some (.string y.src) := hc 1 _ rfl; have e2 : wr.cell? ⟨bL, offL + kk * 11 + 2, none⟩ = some (.string y.dst) := hc 2 _ rfl; have e3 : wr.cell? ⟨bL, offL + kk * 11 + 3, none⟩ = some (.int .i64 y.kind) := hc 3 _ rfl; have e4 : wr.cell? ⟨bL, offL + kk * 11 + 4, none⟩ = some (.int .i64 y.len) := hc 4 _ rfl; have e5 : wr.cell? ⟨bL, offL + kk * 11 + 5, none⟩ = some (.int .i64 y.up) := hc 5 _ rfl; have e6 : wr.cell? ⟨bL, offL + kk * 11 + 6, none⟩ = some (.int .i64 y.down) := hc 6 _ rfl; have e7 : wr.cell? ⟨bL, offL + kk * 11 + 7, none⟩ = some (.string y.sec) := hc 7 _ rfl; have e8 : wr.cell? ⟨bL, offL + kk * 11 + 8, none⟩ = some (.int .i64 y.wid) := hc 8 _ rfl; have e9 : wr.cell? ⟨bL, offL + kk * 11 + 9, none⟩ = some (.int .i64 y.hgt) := hc 9 _ rfl; have e10 : wr.cell? ⟨bL, offL + kk * 11 + 10, none⟩ = some (y.curve.val) := hc 10 _ rfl
     have hBa : Bl wr (wr.alloc (Obj.cells #[.string y.name, .string y.src, .string y.dst, .int .i64 y.kind, .int .i64 y.len, .int .i64 y.up, .int .i64 y.down, .string y.sec, .int .i64 y.wid, .int .i64 y.hgt, y.curve.val] 45)) := bz
     have hB4 : Bl w (wr.alloc (Obj.cells #[.string y.name, .string y.src, .string y.dst, .int .i64 y.kind, .int .i64 y.len, .int .i64 y.up, .int .i64 y.down, .string y.sec, .int .i64 y.wid, .int .i64 y.hgt, y.curve.val] 45)) := BW'.trans hBa
     have k0 : (wr.alloc (Obj.cells #[.string y.name, .string y.src, .string y.dst, .int .i64 y.kind, .int .i64 y.len, .int .i64 y.up, .int .i64 y.down, .string y.sec, .int .i64 y.wid, .int .i64 y.hgt, y.curve.val] 45)).cell? ⟨wr.heap.size, 0, none⟩ = some (.string y.name) := by simp [go_sem]
     have k1 : (wr.alloc (Obj.cells #[.string y.name, .string y.src, .string y.dst, .int .i64 y.kind, .int .i64 y.len, .int .i64 y.up, .int .i64 y.down, .string y.sec, .int .i64 y.wid, .int .i64 y.hgt, y.curve.val] 45)).cell? ⟨wr.heap.size, 1, none⟩ = some (.string y.src) := by simp [go_sem]
     have k2 : (wr.alloc (Obj.cells #[.string y.name, .string y.src, .string y.dst, .int .i64 y.kind, .int .i64 y.len, .int .i64 y.up, .int .i64 y.down, .string y.sec, .int .i64 y.wid, .int .i64 y.hgt, y.curve.val] 45)).cell? ⟨wr.heap.size, 2, none⟩ = some (.string y.dst) := by simp [go_sem]
     have d0 := hBa.keep C0'
     have d1 := hBa.keep C1'
     have zw : wr.heap.size < (wr.alloc (Obj.cells #[.string y.name, .string y.src, .string y.dst, .int .i64 y.kind, .int .i64 y.len, .int .i64 y.up, .int .i64 y.down, .string y.sec, .int .i64 y.wid, .int .i64 y.hgt, y.curve.val] 45)).heap.size := by simp
     have O4 := HD (Own.bl OW.out hBa)
     clear hc
     go_wp2_with fail
     clear e0 e1 e2 e3 e4 e5 e6 e7 e8 e9 e10 C0' C1' OW hBa
     generalize (wr.alloc (Obj.cells #[.string y.name, .string y.src, .string y.dst, .int .i64 y.kind, .int .i64 y.len, .int .i64 y.up, .int .i64 y.down, .string y.sec, .int .i64 y.wid, .int .i64 y.hgt, y.curve.val] 45)) = W4 at *
     generalize wr.heap.size = vb at *
     refine (T31f.out _ y.src hB4).mono ?_
     rintro e w5 ⟨rfl, hw5⟩
     have k50 := hw5.keep k0
     have k52 := hw5.keep k2
     have d50 := hw5.keep d0
     have d51 := hw5.keep d1
     have hB5 := hB4.trans hw5
     have zw5 : vb < w5.heap.size := by have := hw5.size; omega
     have O5 := HD (Own.bl O4.out hw5)
     have hcp : Hid (cutP fs ts y = (fs.any (fun z => y.src == z) && ts.any (fun z => y.dst == z))) := rfl
     simp only
     generalize fs.any (fun z => y.src == z) = b1 at hcp ⊢
     clear k0 k1 k2 d0 d1 hB4 zw O4 hw5
     cases b1
     case false =>
      have hno := HD (show cutP fs ts y = false from by rw [hcp.out]; simp)
      clear hcp
      go_wp2_with fail
      go_roundg (ls.length - (kk + 1))
      case measure => omega
      case rel => exact ⟨kk + 1, s, by omega, by omega, rfl, by go_num, hB5, aside (by omega), aside d50, aside d51, O5.out, aside (by rw [hpu.out, hno.out]; exact SX.out)⟩
     case true =>
      go_wp2_with fail
      refine (T31t.out _ y.dst hB5).mono ?_
      rintro e w6 ⟨rfl, hw6⟩
      simp only
      have k60 := hw6.keep k50
      have d60 := hw6.keep d50
      have d61 := hw6.keep d51
      have hB6 := hB5.trans hw6
      have zw6 : vb < w6.heap.size := by have := hw6.size; omega
      have O6 := HD (Own.bl O5.out hw6)
      generalize ts.any (fun z => y.dst == z) = b2 at hcp ⊢
      clear k50 k52 d50 d51 hB5 zw5 O5 hw6
      cases b2
      case false =>
       have hno := HD (show cutP fs ts y = false from by rw [hcp.out]; simp)
       clear hcp
       go_wp2_with fail
       go_roundg (ls.length - (kk + 1))
       case measure => omega
       case rel => exact ⟨kk + 1, s, by omega, by omega, rfl, by go_num, hB6, aside (by omega), aside d60, aside d61, O6.out, aside (by rw [hpu.out, hno.out]; exact SX.out)⟩
      case true =>
       have hyes := HD (show cutP fs ts y = true from by rw [hcp.out]; rfl)
       clear hcp
       go_wp2_with (at_builtin; refine wpList_append_own _ rfl _ _ 70 rfl (w.heap.size + 1) 9 i0 (.string ⟨#[]⟩) 1 16 u70 HI.out.1 HI.out.2.1 HI.out.2.2.1 HI.out.2.2.2 rfl (by decide) _ _ _ rfl (World.ownsRow.alloc O6.out _) ⟨w6.heap.size, 0, none⟩ 1 1 [.string y.name] rfl rfl ?c1 ?c2 ?c3 ?c4 ?c5 ?_)
       case c1 =>
        intro j u hj
        match j, hj with
        | 0, hj => simp at hj; subst hj; simp [Addr.add, go_sem]
       case c2 => intro u hu; simp at hu; subst hu; rfl
       case c3 => unfold maxLen; omega
       case c4 => omega
       case c5 => simp; omega
       intro v' w7 hown' hgrow _
       obtain ⟨s', rfl, hs', hO'⟩ := Own.push (enc := encS) (k := 1) (e := 9) (base := w.heap.size + 1) (w := w7) (s := s) (x := y.name) (v := v') hown'
       have hOa := HD (World.ownsRow.alloc O6.out (Obj.cells #[.string y.name] 9))
       have hB7 : Bl w w7 := Bl.grown (Bl.alloc hB6 _) hgrow (fun g hg => by have := (World.ownsRow.lt O6.out g hg).1; omega)
       have zw7 : vb < w7.heap.size := by have := hgrow.size; simp at this; omega
       have g0 : w7.cell? ⟨w.heap.size, 0, none⟩ = some (.slice A xs.length c) := (Own.kept (s := s) hOa.out hgrow _ _ (by omega) (by simp; omega)).trans ((Bl.alloc (Bl.refl w6) _).keep d60)
       have g1 : w7.cell? ⟨w.heap.size, 1, none⟩ = some (.slice (some ⟨bL, offL, none⟩) ls.length c2) := (Own.kept (s := s) hOa.out hgrow _ _ (by omega) (by simp; omega)).trans ((Bl.alloc (Bl.refl w6) _).keep d61)
       have hX := HD (show s'.xs = cutL (ls.take (kk + 1)) fs ts from by rw [hpu.out, hyes.out, if_pos rfl, hs', SX.out])
       have hOO := HD hO'
       clear hown' hgrow hO' hs' d60 d61
       go_wp2_with fail
       go_roundg (ls.length - (kk + 1))
       case measure => omega
       case rel => exact ⟨kk + 1, s', by omega, by omega, rfl, by go_num, hB7, aside (by omega), aside g0, aside g1, hOO.out, hX.out⟩
    ·have hltz : ¬ (kk : Int) < (ls.length : Int) := by omega
     have hkl : kk = ls.length := by omega
     subst hkl
     have hfin := HD (show R (.returned (.tuple #[s.val, .int .i64 0])) wr from by
      rw [hRh.out]
      have h1 := SX.out
      rw [List.take_length] at h1
      exact ⟨s, rfl, h1, Own.ok OW.out (fun _ => rfl) (by rw [h1]; have := cutL_len ls fs ts; omega) (fun _ _ => trivial), BW'⟩)
     go_wp2_with fail
     first | exact hfin.out | trace_state
theorem f27_c (n : Net) (fr tl : Sl ByteArray) (w : World) (hN : InNet w n) (hF : InS w fr) (hT : InS w tl) (hb : netB n = true) (hl : fr.xs.length + tl.xs.length ≤ 10000) (hn : ∀ y ∈ fr.xs ++ tl.xs, 0 ≤ ndIx n y) : Calls Tryz.prog 27 #[n.val, fr.val, tl.val] w (RCut n fr.xs tl.xs w) := by
 obtain ⟨⟨A, c, xs⟩, ⟨A2, c2, ls⟩⟩ := n
 obtain ⟨FA, fc, fs⟩ := fr
 obtain ⟨TA, tc, ts⟩ := tl
 exact f27_core A A2 FA TA c c2 fc tc xs ls fs ts w hN hF hT hb hl hn
def inAll (most : Int) (l : List Int) : Bool := !(l.any (fun v => decide (v < 0) || decide (most < v)))
theorem inAll_iff (most : Int) (l : List Int) : inAll most l = true ↔ ∀ i, i < l.length -> 0 ≤ l[i]! /\ l[i]! ≤ most := by
 simp only [inAll, Bool.not_eq_true', List.any_eq_false, Bool.or_eq_true, decide_eq_true_eq, not_or, Int.not_lt]
 constructor
 ·intro h i hi
  rw [getElem!_pos l i hi]
  exact h _ (List.getElem_mem hi)
 ·intro h x hx
  obtain ⟨i, hi, rfl⟩ := List.getElem_of_mem hx
  have := h i hi
  rwa [getElem!_pos l i hi] at this
theorem e131 (args : Array Value) (w : World) : (callFunc 131 args).run Tryz.prog w = .ok (.enter 131 args) w := enters_of Tryz.func131 (by kernel_rfl) rfl args w
theorem f131_c (v most : Int) (q : Nat) (w : World) (hc : w.cell? ⟨q, 0, none⟩ = some (.int .i64 most)) : Calls Tryz.prog 131 #[.int .i64 v, .pointer (some ⟨q, 0, none⟩)] w fun e w' => e = .returned (.bool (decide (v < 0) || decide (most < v))) /\ Bl w w' := by
 by_cases h : v < 0
 ·go_enter Tryz.func131, Tryz.ntmps131
  go_wp2_with fail
  go_ret
  exact ⟨ret_bool (by simp [h]), bz⟩
 ·by_cases h2 : most < v
  ·go_enter Tryz.func131, Tryz.ntmps131
   go_wp2_with fail
   go_ret
   exact ⟨ret_bool (by simp [h, h2]), bz⟩
  ·go_enter Tryz.func131, Tryz.ntmps131
   go_wp2_with fail
   go_ret
   exact ⟨ret_bool (by simp [h, h2]), bz⟩
theorem f89_c (s : Sl Int) (most : Int) (w : World) (hs : InI w s) : Calls Tryz.prog 89 #[s.val, .int .i64 most] w fun e w' => e = .returned (.bool (inAll most s.xs)) /\ Bl w w' := by
 have T := HD (fun W (q : Nat) (hb : Bl w W) (hc : W.cell? ⟨q, 0, none⟩ = some (.int .i64 most)) => f107_c s W.heap.size 131 #[.pointer (some ⟨q, 0, none⟩)] (fun v => decide (v < 0) || decide (most < v)) W (InI.up hs hb) (fun W' x _ hb' => f131_c x most q W' (hb'.keep hc)) e131)
 clear hs
 go_enter Tryz.func89, Tryz.ntmps89
 go_wp2_with fail
 refine (T.out _ _ bz (by simp [go_sem])).mono ?_
 rintro e w1 ⟨rfl, hw1⟩
 go_wp2_with fail
 go_ret
 exact ⟨rfl, bz⟩
set_option maxHeartbeats 1000000 in
theorem f60_c (s : Sl Int) (w : World) (hs : InI w s) (hl : s.xs.length ≤ 400) (hb : ∀ i, i < s.xs.length -> 0 ≤ s.xs[i]! /\ s.xs[i]! ≤ 1125899906842624) : Calls Tryz.prog 60 #[s.val] w fun e w' => e = .returned (.int .i64 (sumTo (fun i => s.xs[i]!) s.xs.length)) /\ Bl w w' := by
 obtain ⟨A, c, xs⟩ := s
 simp only at hl hb
 by_cases h0 : xs = []
 ·subst h0
  clear hs
  show Calls Tryz.prog 60 #[.slice A 0 c] w _
  go_enter Tryz.func60, Tryz.ntmps60
  go_wp2
  refine wp_loop_rounds 1 ?_
  rw [rounds_succ]
  go_wp2
  go_ret
  exact ⟨rfl, Bl.refl _⟩
 ·obtain ⟨b, off, hA, hB, hw, hc⟩ := hs.place h0
  simp only at hA
  subst hA
  have hrow := HD (fun W hb i hi => Sl.Ok.cells hs rfl W hb i hi 0 _ rfl)
  have hbd := HD hb
  obtain ⟨F, hF⟩ : ∃ F : Nat -> Int, F = fun i => xs[i]! := ⟨_, rfl⟩
  have hFh := HD hF
  clear hs hc h0 hb
  obtain ⟨R, hR⟩ : ∃ R : Ending -> World -> Prop, R = fun e w' => e = .returned (.int .i64 (sumTo F xs.length)) /\ Bl w w' := ⟨_, rfl⟩
  show Calls Tryz.prog 60 #[.slice (some ⟨b, off, none⟩) xs.length c] w (fun e w' => e = .returned (.int .i64 (sumTo (fun i => xs[i]!) xs.length)) /\ Bl w w')
  rw [<- hF, <- hR]
  have hRh := HD hR
  clear hR hF
  go_enter Tryz.func60, Tryz.ntmps60
  go_wp2_with fail
  go_loopg [3, 8] xs.length (fun gg s3 s8 wr => ∃ kk : Nat, kk ≤ xs.length /\ xs.length - kk ≤ gg /\ s3 = .int .i64 (sumTo F kk) /\ s8 = .int .i64 kk /\ Aside (Bl w wr))
  case atStart => exact ⟨0, Nat.zero_le _, by omega, rfl, rfl, Bl.refl w⟩
  case round =>
   obtain ⟨kk, hkk, hg, rfl, rfl, BW⟩ := hrel
   by_cases hlt : kk < xs.length
   ·have hltz : (kk : Int) < (xs.length : Int) := by omega
    have hkz : (0 : Int) ≤ (kk : Int) := by omega
    have hc := hrow.out wr BW.out kk hlt
    have hstep := HD (show sumTo F (kk + 1) = sumTo F kk + xs[kk] from by rw [hFh.out]; show _ + xs[kk]! = _; rw [getElem!_pos xs kk hlt])
    have hsb := sumTo_bound (f := F) kk (fun i hi => by rw [hFh.out]; exact hbd.out i (by omega))
    have hvb := hbd.out kk hlt
    rw [getElem!_pos xs kk hlt] at hvb
    generalize xs[kk] = y at hc hstep hvb
    generalize sumTo F kk = sm at *
    have hwr : IntKind.i64.wrap (sm + y) = sm + y := IntWalk.i64_in _ (by omega)
    have e0 : wr.cell? ⟨b, off + kk, none⟩ = some (.int .i64 y) := by rwa [Nat.mul_one] at hc
    clear hc hsb hvb
    go_wp2_with fail
    go_roundg (xs.length - (kk + 1))
    case measure => omega
    case rel => exact ⟨kk + 1, by omega, by omega, by rw [hstep.out], by go_num, BW.out⟩
   ·have hltz : ¬ (kk : Int) < (xs.length : Int) := by omega
    have hkl : kk = xs.length := by omega
    subst hkl
    go_wp2_with fail
    rw [hRh.out]
    exact ⟨rfl, BW.out⟩
def ledB (n : Net) (g : Led) : Bool := inAll 1152921504606846976 [g.inn, g.out] && decide (g.pass.xs.length = n.links.xs.length) && inAll 9007199254740992 g.pass.xs
theorem f63_c (n : Net) (g : Led) (w : World) (hN : InNet w n) (hg : InLed w g) : Calls Tryz.prog 63 #[n.val, g.val] w fun e w' => e = .returned (.bool (ledB n g)) /\ Bl w w' := by
 obtain ⟨⟨A, c, xs⟩, ⟨A2, c2, ls⟩⟩ := n
 obtain ⟨gi, go, ⟨GA, gc, gs⟩⟩ := g
 have T := HD (fun W (h : Bl w W) => f89_c ⟨GA, gc, gs⟩ 9007199254740992 W (InI.up hg h))
 have T2 := HD (fun W q (hq : q < W.heap.size) (h0 : W.cell? ⟨q, 0, none⟩ = some (.int .i64 gi)) (h1 : W.cell? ⟨q, 1, none⟩ = some (.int .i64 go)) => f89_c ⟨some ⟨q, 0, none⟩, 2, [gi, go]⟩ 1152921504606846976 W ⟨by simp, by simp, fun _ => ⟨q, 0, rfl, hq, hq, fun i hi j v hv => by
  have hi2 : i = 0 \/ i = 1 := by simp at hi; omega
  have hj : j = 0 := by
   cases j with
   | zero => rfl
   | succ j => simp [encI] at hv
  subst hj
  rcases hi2 with rfl | rfl
  ·simp [encI] at hv; subst hv; exact h0
  ·simp [encI] at hv; subst hv; exact h1⟩, fun _ _ => trivial⟩)
 have hR : Hid (ledB ⟨⟨A, c, xs⟩, ⟨A2, c2, ls⟩⟩ ⟨gi, go, ⟨GA, gc, gs⟩⟩ = (inAll 1152921504606846976 [gi, go] && decide (gs.length = ls.length) && inAll 9007199254740992 gs)) := rfl
 generalize ledB ⟨⟨A, c, xs⟩, ⟨A2, c2, ls⟩⟩ ⟨gi, go, ⟨GA, gc, gs⟩⟩ = r at hR
 clear hN hg
 show Calls Tryz.prog 63 #[.agg #[.slice A xs.length c, .slice A2 ls.length c2], .agg #[.int .i64 gi, .int .i64 go, .slice GA gs.length gc]] w _
 go_enter Tryz.func63, Tryz.ntmps63
 go_wp2_with fail
 refine (T2.out _ _ (by simp) (by simp [go_sem]) (by simp [go_sem])).mono ?_
 rintro e w1 ⟨rfl, hw1⟩
 have hB1 : Bl w w1 := bz
 have a1 : w1.cell? ⟨w.heap.size, 1, none⟩ = some (.slice A2 ls.length c2) := hw1.keep (by simp [go_sem])
 have a2 : w1.cell? ⟨w.heap.size + 1, 2, none⟩ = some (.slice GA gs.length gc) := hw1.keep (by simp [go_sem])
 clear hw1 T2
 generalize inAll 1152921504606846976 [gi, go] = b1 at hR ⊢
 cases b1
 ·go_wp2_with fail
  go_ret
  exact ⟨ret_bool (by rw [hR.out]; simp), bz⟩
 ·by_cases hl : gs.length = ls.length
  ·have hlb : ((gs.length : Int) == (ls.length : Int)) = true := by rw [hl]; simp
   have hR2 : Hid (r = inAll 9007199254740992 gs) := (by rw [hR.out]; simp [hl] : r = inAll 9007199254740992 gs)
   clear hl hR
   go_wp2_with fail
   refine (T.out _ bz).mono ?_
   rintro e w2 ⟨rfl, hw2⟩
   go_wp2_with fail
   go_ret
   exact ⟨ret_bool (by rw [hR2.out]), bz⟩
  ·have hlb : ((gs.length : Int) == (ls.length : Int)) = false := by rw [beq_eq_false_iff_ne]; omega
   have hR2 : Hid (r = false) := (by rw [hR.out]; simp [hl] : r = false)
   clear hl hR
   go_wp2_with fail
   go_ret
   exact ⟨ret_bool (by rw [hR2.out]), bz⟩
structure Given (n : Net) (s s' : St) (inf : List Int) (g : Led) : Prop where
 ok : StateOk n s
 ok' : StateOk n s'
 led : ledB n g = true
 il : inf.length = n.nodes.xs.length
 ib : inAll 1125899906842624 inf = true
theorem f57_c (n : Net) (s s' : St) (inf : Sl Int) (g : Led) (w : World) (hN : InNet w n) (ht : InSt w s) (ht' : InSt w s') (hI : InI w inf) (hg : InLed w g) (h : Given n s s' inf.xs g) :
 Calls Tryz.prog 57 #[n.val, s.val, s'.val, inf.val, g.val] w fun e w' => e = .returned (.int .i64 0) /\ Bl w w' := by
 have T50 := HD (fun W (hb : Bl w W) => f50_c n s W (InNet.up hN hb) (InSt.up ht hb))
 have T50' := HD (fun W (hb : Bl w W) => f50_c n s' W (InNet.up hN hb) (InSt.up ht' hb))
 rw [(stateB_iff _ _).mpr h.ok] at T50
 rw [(stateB_iff _ _).mpr h.ok'] at T50'
 have T63 := HD (fun W (hb : Bl w W) => f63_c n g W (InNet.up hN hb) (InLed.up hg hb))
 rw [h.led] at T63
 have T89 := HD (fun W (hb : Bl w W) => f89_c inf 1125899906842624 W (InI.up hI hb))
 rw [h.ib] at T89
 have hil := h.il
 obtain ⟨⟨A, c, xs⟩, ⟨A2, c2, ls⟩⟩ := n
 obtain ⟨⟨VA, vc, vs⟩, ⟨PA, pc, ps⟩, ⟨SA, sc, ss⟩, ⟨OA, oc, os⟩⟩ := s
 obtain ⟨⟨VA', vc', vs'⟩, ⟨PA', pc', ps'⟩, ⟨SA', sc', ss'⟩, ⟨OA', oc', os'⟩⟩ := s'
 obtain ⟨IA, ic, is⟩ := inf
 obtain ⟨gi, go, ⟨GA, gc, gs⟩⟩ := g
 have hlb : ((is.length : Int) != (xs.length : Int)) = false := by simp only at hil; rw [hil]; simp
 clear hN ht ht' hI hg h hil
 show Calls Tryz.prog 57 #[.agg #[.slice A xs.length c, .slice A2 ls.length c2], .agg #[.slice VA vs.length vc, .slice PA ps.length pc, .slice SA ss.length sc, .slice OA os.length oc], .agg #[.slice VA' vs'.length vc', .slice PA' ps'.length pc', .slice SA' ss'.length sc', .slice OA' os'.length oc'], .slice IA is.length ic, .agg #[.int .i64 gi, .int .i64 go, .slice GA gs.length gc]] w _
 go_enter Tryz.func57, Tryz.ntmps57
 go_wp2_with fail
 refine (T50.out _ bz).mono ?_
 rintro e w1 ⟨rfl, hw1⟩
 have a0 : w1.cell? ⟨w.heap.size, 0, none⟩ = some (.slice A xs.length c) := hw1.keep (by simp [go_sem])
 have a1 : w1.cell? ⟨w.heap.size, 1, none⟩ = some (.slice A2 ls.length c2) := hw1.keep (by simp [go_sem])
 have a2 : w1.cell? ⟨w.heap.size + 1, 0, none⟩ = some (.slice VA vs.length vc) := hw1.keep (by simp [go_sem])
 have a3 : w1.cell? ⟨w.heap.size + 1, 1, none⟩ = some (.slice PA ps.length pc) := hw1.keep (by simp [go_sem])
 have a4 : w1.cell? ⟨w.heap.size + 1, 2, none⟩ = some (.slice SA ss.length sc) := hw1.keep (by simp [go_sem])
 have a5 : w1.cell? ⟨w.heap.size + 1, 3, none⟩ = some (.slice OA os.length oc) := hw1.keep (by simp [go_sem])
 have a6 : w1.cell? ⟨w.heap.size + 2, 0, none⟩ = some (.slice VA' vs'.length vc') := hw1.keep (by simp [go_sem])
 have a7 : w1.cell? ⟨w.heap.size + 2, 1, none⟩ = some (.slice PA' ps'.length pc') := hw1.keep (by simp [go_sem])
 have a8 : w1.cell? ⟨w.heap.size + 2, 2, none⟩ = some (.slice SA' ss'.length sc') := hw1.keep (by simp [go_sem])
 have a9 : w1.cell? ⟨w.heap.size + 2, 3, none⟩ = some (.slice OA' os'.length oc') := hw1.keep (by simp [go_sem])
 have a10 : w1.cell? ⟨w.heap.size + 3, 0, none⟩ = some (.int .i64 gi) := hw1.keep (by simp [go_sem])
 have a11 : w1.cell? ⟨w.heap.size + 3, 1, none⟩ = some (.int .i64 go) := hw1.keep (by simp [go_sem])
 have a12 : w1.cell? ⟨w.heap.size + 3, 2, none⟩ = some (.slice GA gs.length gc) := hw1.keep (by simp [go_sem])
 have hB1 : Bl w w1 := bz
 clear hw1
 go_wp2_with fail
 refine (T50'.out _ hB1).mono ?_
 rintro e w2 ⟨rfl, hw2⟩
 have b0 : w2.cell? ⟨w.heap.size, 0, none⟩ = some (.slice A xs.length c) := hw2.keep a0
 have b1 : w2.cell? ⟨w.heap.size, 1, none⟩ = some (.slice A2 ls.length c2) := hw2.keep a1
 have b2 : w2.cell? ⟨w.heap.size + 1, 0, none⟩ = some (.slice VA vs.length vc) := hw2.keep a2
 have b3 : w2.cell? ⟨w.heap.size + 1, 1, none⟩ = some (.slice PA ps.length pc) := hw2.keep a3
 have b4 : w2.cell? ⟨w.heap.size + 1, 2, none⟩ = some (.slice SA ss.length sc) := hw2.keep a4
 have b5 : w2.cell? ⟨w.heap.size + 1, 3, none⟩ = some (.slice OA os.length oc) := hw2.keep a5
 have b6 : w2.cell? ⟨w.heap.size + 2, 0, none⟩ = some (.slice VA' vs'.length vc') := hw2.keep a6
 have b7 : w2.cell? ⟨w.heap.size + 2, 1, none⟩ = some (.slice PA' ps'.length pc') := hw2.keep a7
 have b8 : w2.cell? ⟨w.heap.size + 2, 2, none⟩ = some (.slice SA' ss'.length sc') := hw2.keep a8
 have b9 : w2.cell? ⟨w.heap.size + 2, 3, none⟩ = some (.slice OA' os'.length oc') := hw2.keep a9
 have b10 : w2.cell? ⟨w.heap.size + 3, 0, none⟩ = some (.int .i64 gi) := hw2.keep a10
 have b11 : w2.cell? ⟨w.heap.size + 3, 1, none⟩ = some (.int .i64 go) := hw2.keep a11
 have b12 : w2.cell? ⟨w.heap.size + 3, 2, none⟩ = some (.slice GA gs.length gc) := hw2.keep a12
 clear a0 a1 a2 a3 a4 a5 a6 a7 a8 a9 a10 a11 a12
 have hB2 : Bl w w2 := hB1.trans hw2
 clear hw2
 go_wp2_with fail
 refine (T63.out _ hB2).mono ?_
 rintro e w3 ⟨rfl, hw3⟩
 have c0 : w3.cell? ⟨w.heap.size, 0, none⟩ = some (.slice A xs.length c) := hw3.keep b0
 have c1 : w3.cell? ⟨w.heap.size, 1, none⟩ = some (.slice A2 ls.length c2) := hw3.keep b1
 have c2 : w3.cell? ⟨w.heap.size + 1, 0, none⟩ = some (.slice VA vs.length vc) := hw3.keep b2
 have c3 : w3.cell? ⟨w.heap.size + 1, 1, none⟩ = some (.slice PA ps.length pc) := hw3.keep b3
 have c4 : w3.cell? ⟨w.heap.size + 1, 2, none⟩ = some (.slice SA ss.length sc) := hw3.keep b4
 have c5 : w3.cell? ⟨w.heap.size + 1, 3, none⟩ = some (.slice OA os.length oc) := hw3.keep b5
 have c6 : w3.cell? ⟨w.heap.size + 2, 0, none⟩ = some (.slice VA' vs'.length vc') := hw3.keep b6
 have c7 : w3.cell? ⟨w.heap.size + 2, 1, none⟩ = some (.slice PA' ps'.length pc') := hw3.keep b7
 have c8 : w3.cell? ⟨w.heap.size + 2, 2, none⟩ = some (.slice SA' ss'.length sc') := hw3.keep b8
 have c9 : w3.cell? ⟨w.heap.size + 2, 3, none⟩ = some (.slice OA' os'.length oc') := hw3.keep b9
 have c10 : w3.cell? ⟨w.heap.size + 3, 0, none⟩ = some (.int .i64 gi) := hw3.keep b10
 have c11 : w3.cell? ⟨w.heap.size + 3, 1, none⟩ = some (.int .i64 go) := hw3.keep b11
 have c12 : w3.cell? ⟨w.heap.size + 3, 2, none⟩ = some (.slice GA gs.length gc) := hw3.keep b12
 clear b0 b1 b2 b3 b4 b5 b6 b7 b8 b9 b10 b11 b12
 have hB3 : Bl w w3 := hB2.trans hw3
 clear hw3
 go_wp2_with fail
 refine (T89.out _ hB3).mono ?_
 rintro e w4 ⟨rfl, hw4⟩
 have hB4 : Bl w w4 := hB3.trans hw4
 go_wp2_with fail
 go_ret
 exact ⟨rfl, hB4⟩
end Go.Proofs.YtnnhnkpoekbahaaGreat
