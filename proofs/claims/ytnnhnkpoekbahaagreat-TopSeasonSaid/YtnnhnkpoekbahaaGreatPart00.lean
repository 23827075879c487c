/- TopSeason: part 1 of 16: Base Shelf Num Wide Div0 Div Scale Big Later -/
import Derived.Test.YtnnhnkpoekbahaaGreatRows
import Derived.WalkKit
import Derived.WalkSpells
import Derived.WalkLawsBesides
import Derived.Deep.LoopGhost
import Derived.Deep.QuietTactic
import Derived.BigQuiet
import Derived.Lib.Hide
import Derived.Shelf.Small.Bits
import Derived.Shelf.Strconv.Itoa0
import Derived.Shelf.Bits.Mul64
import Derived.Ground.Names2Prog
import Derived.Shelf.Slices.Clone
import Derived.Shelf.Slices.SearchI
import Derived.Ground.SlgnProg
import Derived.Shelf.SlicesE.Clone
import Derived.Test.YtnnhnkpoekbahaaGreatProg
import Derived.Deep.DeepCutAuto
import Derived.Deep.RegionWith
namespace Go.Proofs.YtnnhnkpoekbahaaGreat
open Go.RowKit
def Bl (w w' : World) : Prop := Below w.heap.size w w'
theorem Bl.refl (w : World) : Bl w w := Below.refl _ _
theorem Bl.trans {a b c : World} (h : Bl a b) (k : Bl b c) : Bl a c := Below.trans h (Below.mono k (Below.size h))
theorem Bl.alloc {a b : World} (h : Bl a b) (o : Obj) : Bl a (b.alloc o) := Below.alloc h (Below.size h) o
theorem Bl.drew {a b : World} (h : Bl a b) : Bl a b.drew := Below.drew h
theorem Bl.drewN {a b : World} (h : Bl a b) (n : Nat) : Bl a (b.drewN n) := by
 induction n generalizing b with
 | zero => exact h
 | succ n ih => exact (ih h).drew
theorem Bl.setCell {a b : World} (h : Bl a b) {p : Addr} (hp : a.heap.size ≤ p.block) (u : Value) : Bl a (b.setCell p u) := Below.setCell h hp u
theorem Bl.grown {a b c : World} {row : Option Nat} (h : Bl a b) (hg : b.grownBy c row) (hr : ∀ k, row = some k -> a.heap.size ≤ k) : Bl a c := Below.grown h hg (Below.size h) hr
theorem Bl.size {a b : World} (h : Bl a b) : a.heap.size ≤ b.heap.size := Below.size h
theorem Bl.below {a b : World} (h : Bl a b) {B : Nat} (hB : B ≤ a.heap.size) : Below B a b := Below.mono h hB
theorem Bl.of {a b : World} (h : Below a.heap.size a b) : Bl a b := h
theorem Bl.out {a b : World} (h : Bl a b) : Below a.heap.size a b := h
theorem Bl.cell {a b : World} (h : Bl a b) {p : Addr} (hp : p.block < a.heap.size) : b.cell? p = a.cell? p := Below.cell h hp
theorem Bl.frozen {a b : World} (h : Bl a b) {p : Addr} (hp : p.block < a.heap.size) : b.frozen? p = a.frozen? p := Below.frozen h hp
theorem aZ (w : World) (o : Obj) : (w.alloc o).heap.size = w.heap.size + 1 := by simp
theorem cZ (w : World) (a : Addr) (v : Value) : (w.setCell a v).heap.size = w.heap.size := by simp [World.setCell]
theorem dZ (w : World) : w.drew.heap.size = w.heap.size := rfl
theorem nZ (w : World) (n : Nat) : (w.drewN n).heap.size = w.heap.size := by
 induction n with
 | zero => rfl
 | succ n ih => exact ih
theorem Bl.rules {W w1 : World} (h : Bl W w1) : (∀ b o, b < W.heap.size -> w1.cell? ⟨b, o, none⟩ = W.cell? ⟨b, o, none⟩) /\ (∀ b o, b < W.heap.size -> w1.frozen? ⟨b, o, none⟩ = W.frozen? ⟨b, o, none⟩) /\ W.heap.size ≤ w1.heap.size :=
 ⟨fun b o hb => h.cell (p := ⟨b, o, none⟩) hb, fun b o hb => h.frozen (p := ⟨b, o, none⟩) hb, h.size⟩
theorem bz {w w' : World} (h : Bl w w' := by repeat (first | exact Bl.refl _ | assumption | refine Bl.alloc ?_ _ | refine Bl.drew ?_ | refine Bl.drewN ?_ _ | (refine Bl.setCell ?_ ?hp _; (case hp => first | (simp; done) | (simp; omega))) | refine Bl.trans ?_ (by assumption))) : Bl w w' := h
theorem Bq {w w' : World} (h : Bl w w' := by repeat (first | (with_reducible assumption) | (with_reducible refine Bl.alloc ?_ _) | (with_reducible refine Bl.drew ?_) | (with_reducible refine Bl.setCell ?_ ?hp _; (case hp => first | (simp only; omega) | (simp; done) | (simp; omega))) | (with_reducible exact Bl.refl _) | (with_reducible refine Bl.trans ?_ (by assumption)))) : Bl w w' := h
theorem HD {p : Prop} (h : p) : Hid p := Lib.hid h
theorem cell_lt {w : World} {p : Addr} {v : Value} (h : w.cell? p = some v) : p.block < w.heap.size := by
 rcases Nat.lt_or_ge p.block w.heap.size with h' | h'
 ·exact h'
 ·rw [World.cell?, Array.getElem?_eq_none h'] at h; cases h
theorem Bl.keep {a b : World} (h : Bl a b) {p : Addr} {v : Value} (hc : a.cell? p = some v) : b.cell? p = some v := (h.cell (cell_lt hc)).trans hc
theorem Bl.keepF {a b : World} (h : Bl a b) {p : Addr} {v : Value} (hc : a.cell? p = some v) (hf : a.frozen? p = false) : b.frozen? p = false := (h.frozen (cell_lt hc)).trans hf
theorem ret_int {k : IntKind} {a b : Int} (h : a = b) : Ending.returned (.int k a) = .returned (.int k b) := by rw [h]
theorem ret_bool {a b : Bool} (h : a = b) : Ending.returned (.bool a) = .returned (.bool b) := by rw [h]
structure Sl (α : Type) where
 A : Option Addr
 cap : Nat
 xs : List α
@[reducible] def Sl.val {α : Type} (s : Sl α) : Value := .slice s.A s.xs.length s.cap
structure Sl.Ok {α : Type} (enc : α -> List Value) (k : Nat) (good : Nat -> World -> α -> Prop) (B : Nat) (w : World) (s : Sl α) : Prop where
 cap : s.xs.length ≤ s.cap
 room : s.xs.length ≤ 140737488351232
 place : s.xs ≠ [] -> ∃ b off, s.A = some ⟨b, off, none⟩ /\ b < B /\ b < w.heap.size /\ ∀ (i : Nat) (h : i < s.xs.length) (j : Nat) (v : Value), (enc s.xs[i])[j]? = some v -> w.cell? ⟨b, off + i * k + j, none⟩ = some v
 each : ∀ x ∈ s.xs, good B w x
theorem Sl.Ok.mono {α : Type} {enc : α -> List Value} {k : Nat} {good : Nat -> World -> α -> Prop} {B : Nat} {w w' : World} {s : Sl α}
 (h : s.Ok enc k good B w) (hb : Below B w w') (hg : ∀ x ∈ s.xs, good B w x -> good B w' x) : s.Ok enc k good B w' where
 cap := h.cap
 room := h.room
 place := fun hne => by
  obtain ⟨b, off, hA, hB, hw, hc⟩ := h.place hne
  refine ⟨b, off, hA, hB, Nat.lt_of_lt_of_le hw hb.size, fun i hi j v hv => ?_⟩
  rw [hb.cell (p := ⟨b, off + i * k + j, none⟩) hB]
  exact hc i hi j v hv
 each := fun x hx => hg x hx (h.each x hx)
theorem Sl.Ok.up {α : Type} {enc : α -> List Value} {k : Nat} {good : Nat -> World -> α -> Prop} {w w' : World} {s : Sl α}
 (h : s.Ok enc k good w.heap.size w) (hb : Bl w w') (hg : ∀ x ∈ s.xs, good w.heap.size w x -> good w'.heap.size w' x) : s.Ok enc k good w'.heap.size w' where
 cap := h.cap
 room := h.room
 place := fun hne => by
  obtain ⟨b, off, hA, hB, hw, hc⟩ := h.place hne
  refine ⟨b, off, hA, Nat.lt_of_lt_of_le hw hb.size, Nat.lt_of_lt_of_le hw hb.size, fun i hi j v hv => ?_⟩
  rw [hb.cell (p := ⟨b, off + i * k + j, none⟩) hB]
  exact hc i hi j v hv
 each := fun x hx => hg x hx (h.each x hx)
def okT {α : Type} : Nat -> World -> α -> Prop := fun _ _ _ => True
structure Knot where
 x : Int
 y : Int
structure Nd where
 name : ByteArray
 kind : Int
 px : Int
 py : Int
 inv : Int
 gnd : Int
 shape : Sl Knot
 prot : Bool
 res : Int
structure Lk where
 name : ByteArray
 src : ByteArray
 dst : ByteArray
 kind : Int
 len : Int
 up : Int
 down : Int
 sec : ByteArray
 wid : Int
 hgt : Int
 curve : Sl Knot
structure Net where
 nodes : Sl Nd
 links : Sl Lk
structure Cond where
 node : ByteArray
 below : Bool
 level : Int
structure Rul where
 name : ByteArray
 cond : Sl Cond
 link : ByteArray
 set : Int
structure Sec where
 name : ByteArray
 hgt : Int
 price : Int
 area : Sl Knot
 conv : Sl Knot
structure Infl where
 node : ByteArray
 vols : Sl Int
structure St where
 vol : Sl Int
 pond : Sl Int
 set : Sl Int
 on : Sl Bool
structure Led where
 inn : Int
 out : Int
 pass : Sl Int
def encI (x : Int) : List Value := [.int .i64 x]
def encB (x : Bool) : List Value := [.bool x]
def encS (x : ByteArray) : List Value := [.string x]
def encK (x : Knot) : List Value := [.int .i64 x.x, .int .i64 x.y]
def encN (x : Nd) : List Value := [.string x.name, .int .i64 x.kind, .int .i64 x.px, .int .i64 x.py, .int .i64 x.inv, .int .i64 x.gnd, x.shape.val, .bool x.prot, .int .i64 x.res]
def encL (x : Lk) : List Value := [.string x.name, .string x.src, .string x.dst, .int .i64 x.kind, .int .i64 x.len, .int .i64 x.up, .int .i64 x.down, .string x.sec, .int .i64 x.wid, .int .i64 x.hgt, x.curve.val]
def encD (x : Cond) : List Value := [.string x.node, .bool x.below, .int .i64 x.level]
def encR (x : Rul) : List Value := [.string x.name, x.cond.val, .string x.link, .int .i64 x.set]
def encC (x : Sec) : List Value := [.string x.name, .int .i64 x.hgt, .int .i64 x.price, x.area.val, x.conv.val]
def encF (x : Infl) : List Value := [.string x.node, x.vols.val]
def encT (x : St) : List Value := [x.vol.val, x.pond.val, x.set.val, x.on.val]
def encG (x : Led) : List Value := [.int .i64 x.inn, .int .i64 x.out, x.pass.val]
def OkI (B : Nat) (w : World) (s : Sl Int) : Prop := s.Ok encI 1 okT B w
def OkB (B : Nat) (w : World) (s : Sl Bool) : Prop := s.Ok encB 1 okT B w
def OkS (B : Nat) (w : World) (s : Sl ByteArray) : Prop := s.Ok encS 1 okT B w
def OkK (B : Nat) (w : World) (s : Sl Knot) : Prop := s.Ok encK 2 okT B w
def okN (B : Nat) (w : World) (x : Nd) : Prop := OkK B w x.shape
def okL (B : Nat) (w : World) (x : Lk) : Prop := OkK B w x.curve
def okR (B : Nat) (w : World) (x : Rul) : Prop := x.cond.Ok encD 3 okT B w
structure okC (B : Nat) (w : World) (x : Sec) : Prop where
 area : OkK B w x.area
 conv : OkK B w x.conv
def okF (B : Nat) (w : World) (x : Infl) : Prop := OkI B w x.vols
def okG (B : Nat) (w : World) (x : Led) : Prop := OkI B w x.pass
structure okSt (B : Nat) (w : World) (x : St) : Prop where
 vol : OkI B w x.vol
 pond : OkI B w x.pond
 set : OkI B w x.set
 on : OkB B w x.on
def OkSecs (B : Nat) (w : World) (s : Sl Sec) : Prop := s.Ok encC 5 okC B w
def OkRuls (B : Nat) (w : World) (s : Sl Rul) : Prop := s.Ok encR 4 okR B w
def OkInfls (B : Nat) (w : World) (s : Sl Infl) : Prop := s.Ok encF 2 okF B w
def OkSts (B : Nat) (w : World) (s : Sl St) : Prop := s.Ok encT 4 okSt B w
def OkLeds (B : Nat) (w : World) (s : Sl Led) : Prop := s.Ok encG 3 okG B w
structure OkNet (B : Nat) (w : World) (n : Net) : Prop where
 nodes : n.nodes.Ok encN 9 okN B w
 links : n.links.Ok encL 11 okL B w
theorem OkK.mono {B : Nat} {w w' : World} {s : Sl Knot} (h : OkK B w s) (hb : Below B w w') : OkK B w' s := Sl.Ok.mono h hb fun _ _ h => h
theorem OkI.mono {B : Nat} {w w' : World} {s : Sl Int} (h : OkI B w s) (hb : Below B w w') : OkI B w' s := Sl.Ok.mono h hb fun _ _ h => h
theorem OkB.mono {B : Nat} {w w' : World} {s : Sl Bool} (h : OkB B w s) (hb : Below B w w') : OkB B w' s := Sl.Ok.mono h hb fun _ _ h => h
theorem OkS.mono {B : Nat} {w w' : World} {s : Sl ByteArray} (h : OkS B w s) (hb : Below B w w') : OkS B w' s := Sl.Ok.mono h hb fun _ _ h => h
theorem okN.mono {B : Nat} {w w' : World} {x : Nd} (h : okN B w x) (hb : Below B w w') : okN B w' x := OkK.mono h hb
theorem okL.mono {B : Nat} {w w' : World} {x : Lk} (h : okL B w x) (hb : Below B w w') : okL B w' x := OkK.mono h hb
theorem okR.mono {B : Nat} {w w' : World} {x : Rul} (h : okR B w x) (hb : Below B w w') : okR B w' x := Sl.Ok.mono h hb fun _ _ h => h
theorem okC.mono {B : Nat} {w w' : World} {x : Sec} (h : okC B w x) (hb : Below B w w') : okC B w' x := ⟨h.area.mono hb, h.conv.mono hb⟩
theorem okF.mono {B : Nat} {w w' : World} {x : Infl} (h : okF B w x) (hb : Below B w w') : okF B w' x := OkI.mono h hb
theorem okG.mono {B : Nat} {w w' : World} {x : Led} (h : okG B w x) (hb : Below B w w') : okG B w' x := OkI.mono h hb
theorem okSt.mono {B : Nat} {w w' : World} {x : St} (h : okSt B w x) (hb : Below B w w') : okSt B w' x := ⟨h.vol.mono hb, h.pond.mono hb, h.set.mono hb, h.on.mono hb⟩
theorem OkSecs.mono {B : Nat} {w w' : World} {s : Sl Sec} (h : OkSecs B w s) (hb : Below B w w') : OkSecs B w' s := Sl.Ok.mono h hb fun _ _ h => okC.mono h hb
theorem OkRuls.mono {B : Nat} {w w' : World} {s : Sl Rul} (h : OkRuls B w s) (hb : Below B w w') : OkRuls B w' s := Sl.Ok.mono h hb fun _ _ h => okR.mono h hb
theorem OkInfls.mono {B : Nat} {w w' : World} {s : Sl Infl} (h : OkInfls B w s) (hb : Below B w w') : OkInfls B w' s := Sl.Ok.mono h hb fun _ _ h => okF.mono h hb
theorem OkSts.mono {B : Nat} {w w' : World} {s : Sl St} (h : OkSts B w s) (hb : Below B w w') : OkSts B w' s := Sl.Ok.mono h hb fun _ _ h => okSt.mono h hb
theorem OkLeds.mono {B : Nat} {w w' : World} {s : Sl Led} (h : OkLeds B w s) (hb : Below B w w') : OkLeds B w' s := Sl.Ok.mono h hb fun _ _ h => okG.mono h hb
theorem OkNet.mono {B : Nat} {w w' : World} {n : Net} (h : OkNet B w n) (hb : Below B w w') : OkNet B w' n :=
 ⟨h.nodes.mono hb fun _ _ h => OkK.mono h hb, h.links.mono hb fun _ _ h => OkK.mono h hb⟩
def InI (w : World) (s : Sl Int) : Prop := OkI w.heap.size w s
theorem InI.up {w w' : World} {s : Sl Int} (h : InI w s) (hb : Bl w w') : InI w' s := Sl.Ok.up h hb fun _ _ h => h
def InB (w : World) (s : Sl Bool) : Prop := OkB w.heap.size w s
theorem InB.up {w w' : World} {s : Sl Bool} (h : InB w s) (hb : Bl w w') : InB w' s := Sl.Ok.up h hb fun _ _ h => h
def InS (w : World) (s : Sl ByteArray) : Prop := OkS w.heap.size w s
theorem InS.up {w w' : World} {s : Sl ByteArray} (h : InS w s) (hb : Bl w w') : InS w' s := Sl.Ok.up h hb fun _ _ h => h
def InK (w : World) (s : Sl Knot) : Prop := OkK w.heap.size w s
theorem InK.up {w w' : World} {s : Sl Knot} (h : InK w s) (hb : Bl w w') : InK w' s := Sl.Ok.up h hb fun _ _ h => h
def InNd (w : World) (x : Nd) : Prop := okN w.heap.size w x
theorem InNd.up {w w' : World} {x : Nd} (h : InNd w x) (hb : Bl w w') : InNd w' x := InK.up h hb
def InLk (w : World) (x : Lk) : Prop := okL w.heap.size w x
theorem InLk.up {w w' : World} {x : Lk} (h : InLk w x) (hb : Bl w w') : InLk w' x := InK.up h hb
def InRul (w : World) (x : Rul) : Prop := okR w.heap.size w x
theorem InRul.up {w w' : World} {x : Rul} (h : InRul w x) (hb : Bl w w') : InRul w' x := Sl.Ok.up h hb fun _ _ h => h
def InSec (w : World) (x : Sec) : Prop := okC w.heap.size w x
theorem InSec.up {w w' : World} {x : Sec} (h : InSec w x) (hb : Bl w w') : InSec w' x := ⟨InK.up h.area hb, InK.up h.conv hb⟩
def InInfl (w : World) (x : Infl) : Prop := okF w.heap.size w x
theorem InInfl.up {w w' : World} {x : Infl} (h : InInfl w x) (hb : Bl w w') : InInfl w' x := InI.up h hb
def InLed (w : World) (x : Led) : Prop := okG w.heap.size w x
theorem InLed.up {w w' : World} {x : Led} (h : InLed w x) (hb : Bl w w') : InLed w' x := InI.up h hb
def InSt (w : World) (x : St) : Prop := okSt w.heap.size w x
theorem InSt.up {w w' : World} {x : St} (h : InSt w x) (hb : Bl w w') : InSt w' x := ⟨InI.up h.vol hb, InI.up h.pond hb, InI.up h.set hb, InB.up h.on hb⟩
def InSecs (w : World) (s : Sl Sec) : Prop := OkSecs w.heap.size w s
theorem InSecs.up {w w' : World} {s : Sl Sec} (h : InSecs w s) (hb : Bl w w') : InSecs w' s := Sl.Ok.up h hb fun _ _ h => InSec.up h hb
def InRuls (w : World) (s : Sl Rul) : Prop := OkRuls w.heap.size w s
theorem InRuls.up {w w' : World} {s : Sl Rul} (h : InRuls w s) (hb : Bl w w') : InRuls w' s := Sl.Ok.up h hb fun _ _ h => InRul.up h hb
def InInfls (w : World) (s : Sl Infl) : Prop := OkInfls w.heap.size w s
theorem InInfls.up {w w' : World} {s : Sl Infl} (h : InInfls w s) (hb : Bl w w') : InInfls w' s := Sl.Ok.up h hb fun _ _ h => InInfl.up h hb
def InSts (w : World) (s : Sl St) : Prop := OkSts w.heap.size w s
theorem InSts.up {w w' : World} {s : Sl St} (h : InSts w s) (hb : Bl w w') : InSts w' s := Sl.Ok.up h hb fun _ _ h => InSt.up h hb
def InLeds (w : World) (s : Sl Led) : Prop := OkLeds w.heap.size w s
theorem InLeds.up {w w' : World} {s : Sl Led} (h : InLeds w s) (hb : Bl w w') : InLeds w' s := Sl.Ok.up h hb fun _ _ h => InLed.up h hb
def InNet (w : World) (n : Net) : Prop := OkNet w.heap.size w n
theorem InNet.up {w w' : World} {n : Net} (h : InNet w n) (hb : Bl w w') : InNet w' n := ⟨Sl.Ok.up h.nodes hb fun _ _ h => InNd.up h hb, Sl.Ok.up h.links hb fun _ _ h => InLk.up h hb⟩
@[reducible] def Net.val (n : Net) : Value := .agg #[n.nodes.val, n.links.val]
@[reducible] def St.val (s : St) : Value := .agg #[s.vol.val, s.pond.val, s.set.val, s.on.val]
@[reducible] def Led.val (s : Led) : Value := .agg #[.int .i64 s.inn, .int .i64 s.out, s.pass.val]
@[reducible] def Nd.val (x : Nd) : Value := .agg #[.string x.name, .int .i64 x.kind, .int .i64 x.px, .int .i64 x.py, .int .i64 x.inv, .int .i64 x.gnd, x.shape.val, .bool x.prot, .int .i64 x.res]
@[reducible] def Lk.val (x : Lk) : Value := .agg #[.string x.name, .string x.src, .string x.dst, .int .i64 x.kind, .int .i64 x.len, .int .i64 x.up, .int .i64 x.down, .string x.sec, .int .i64 x.wid, .int .i64 x.hgt, x.curve.val]
@[reducible] def Sec.val (x : Sec) : Value := .agg #[.string x.name, .int .i64 x.hgt, .int .i64 x.price, x.area.val, x.conv.val]
@[reducible] def Rul.val (x : Rul) : Value := .agg #[.string x.name, x.cond.val, .string x.link, .int .i64 x.set]
@[reducible] def Infl.val (x : Infl) : Value := .agg #[.string x.node, x.vols.val]
@[reducible] def Knot.val (x : Knot) : Value := .agg #[.int .i64 x.x, .int .i64 x.y]
@[reducible] def Cond.val (x : Cond) : Value := .agg #[.string x.node, .bool x.below, .int .i64 x.level]
end Go.Proofs.YtnnhnkpoekbahaaGreat
namespace Go.Proofs
open Go.Shelf
def Tryz.lays134_ren : Go.Shelf.Ren := ⟨fun | 134 => 219 | 129 => 183 | n => n, fun | 53 => 216 | 3 => 3 | 4 => 4 | 46 => 84 | 5 => 5 | 9 => 9 | n => n, fun | n => n⟩
theorem Tryz.lays134 : Go.Proofs.Lays.n134 Tryz.prog Tryz.lays134_ren := {
 mixed := by kernel_rfl
 f129 := Tryz.func183.trans (congrArg some (by kernel_rfl))
 f134 := Tryz.func219.trans (congrArg some (by kernel_rfl))
 t3 := Tryz.underlying3
 a3 := Tryz.isAgg3
 z3 := Tryz.sizeOf3
 v3 := Tryz.zeroValue3
 t4 := Tryz.underlying4
 a4 := Tryz.isAgg4
 z4 := Tryz.sizeOf4
 v4 := Tryz.zeroValue4
 t5 := Tryz.underlying5
 a5 := Tryz.isAgg5
 z5 := Tryz.sizeOf5
 v5 := Tryz.zeroValue5
 t9 := Tryz.underlying9
 a9 := Tryz.isAgg9
 z9 := Tryz.sizeOf9
 v9 := Tryz.zeroValue9
 t46 := Tryz.underlying84
 a46 := Tryz.isAgg84
 z46 := Tryz.sizeOf84
 v46 := Tryz.zeroValue84
 t53 := Tryz.underlying216
 a53 := Tryz.isAgg216
 z53 := Tryz.sizeOf216
 v53 := Tryz.zeroValue216 }
theorem Tryz.bits_LeadingZeros64 (x : Int) (w : World) (h0 : 0 ≤ x) (h1 : x ≤ 18446744073709551615) :
 Calls Tryz.prog 219 #[.int .u64 x] w fun e w' => e = .returned (.int .i64 (64 - (Lib.bitLen x.toNat : Int))) /\ w' = w := Any.bits_LeadingZeros64 Tryz.lays134 x w h0 h1
def Tryz.lays264_ren : Go.Shelf.Ren := ⟨fun | 264 => 133 | n => n, fun | 53 => 216 | 46 => 84 | n => n, fun | n => n⟩
theorem Tryz.lays264 : Go.Proofs.Lays.n264 Tryz.prog Tryz.lays264_ren := {
 mixed := by kernel_rfl
 f264 := Tryz.func133.trans (congrArg some (by kernel_rfl))
 t46 := Tryz.underlying84
 a46 := Tryz.isAgg84
 z46 := Tryz.sizeOf84
 v46 := Tryz.zeroValue84
 t53 := Tryz.underlying216
 a53 := Tryz.isAgg216
 z53 := Tryz.sizeOf216
 v53 := Tryz.zeroValue216 }
open Go.RowKit Go.Lib in
theorem Tryz.bits_Mul64 (x y : Nat) (hx : x < 18446744073709551616) (hy : y < 18446744073709551616) (w : World) :
 Calls Tryz.prog 133 #[.int .u64 x, .int .u64 y] w fun e w' => e = .returned (.tuple #[.int .u64 ((x * y / 18446744073709551616 : Nat) : Int), .int .u64 ((x * y % 18446744073709551616 : Nat) : Int)]) /\ w' = w := Any.bits_Mul64 Tryz.lays264 x y hx hy w
def Tryz.lays212_ren : Go.Shelf.Ren := ⟨fun | 212 => 90 | 263 => 132 | 264 => 133 | n => n, fun | 46 => 84 | 51 => 213 | 146 => 214 | 53 => 216 | 148 => 217 | n => n, fun | n => n⟩
theorem Tryz.lays212 : Go.Proofs.Lays.n212 Tryz.prog Tryz.lays212_ren := {
 mixed := by kernel_rfl
 f212 := Tryz.func90.trans (congrArg some (by kernel_rfl))
 f263 := Tryz.func132.trans (congrArg some (by kernel_rfl))
 f264 := Tryz.func133.trans (congrArg some (by kernel_rfl))
 t46 := Tryz.underlying84
 a46 := Tryz.isAgg84
 z46 := Tryz.sizeOf84
 v46 := Tryz.zeroValue84
 t51 := Tryz.underlying213
 a51 := Tryz.isAgg213
 z51 := Tryz.sizeOf213
 v51 := Tryz.zeroValue213
 t53 := Tryz.underlying216
 a53 := Tryz.isAgg216
 z53 := Tryz.sizeOf216
 v53 := Tryz.zeroValue216
 t146 := Tryz.underlying214
 a146 := Tryz.isAgg214
 z146 := Tryz.sizeOf214
 v146 := Tryz.zeroValue214
 t148 := Tryz.underlying217
 a148 := Tryz.isAgg217
 z148 := Tryz.sizeOf217
 v148 := Tryz.zeroValue217 }
open Go.RowKit Go.Lib in
theorem Tryz.bits_Mul (x y : Nat) (hx : x < 18446744073709551616) (hy : y < 18446744073709551616) (w : World) :
 Calls Tryz.prog 90 #[.int .u64 x, .int .u64 y] w fun e w' => e = .returned (.tuple #[.int .u64 ((x * y / 18446744073709551616 : Nat) : Int), .int .u64 ((x * y % 18446744073709551616 : Nat) : Int)]) /\ w' = w := Any.bits_Mul Tryz.lays212 x y hx hy w
def Tryz.laysNm215_ren : Go.Shelf.Ren := ⟨fun | 15 => 109 | n => n, fun | 22 => 28 | 3 => 3 | 4 => 4 | n => n, fun | n => n⟩
theorem Tryz.laysNm215 : Go.Proofs.Lays2.n15 Tryz.prog Tryz.laysNm215_ren := {
 mixed := by kernel_rfl
 f15 := Tryz.func109.trans (congrArg some (by kernel_rfl))
 t3 := Tryz.underlying3
 a3 := Tryz.isAgg3
 z3 := Tryz.sizeOf3
 v3 := Tryz.zeroValue3
 t4 := Tryz.underlying4
 a4 := Tryz.isAgg4
 z4 := Tryz.sizeOf4
 v4 := Tryz.zeroValue4
 t22 := Tryz.underlying28
 a22 := Tryz.isAgg28
 z22 := Tryz.sizeOf28
 v22 := Tryz.zeroValue28
 i3 := by kernel_rfl }
open Go.RowKit Go.Lib in
theorem Tryz.slices_Clone_int (b off n c : Nat) (zs : List Int) (w : World) (hz : n ≤ zs.length) (hbig : n * 8 ≤ 140737488355328) (hc : ∀ j, j < zs.length -> w.cell? ⟨b, off + j, none⟩ = some (.int .i64 (zs.getD j 0))) :
 Calls Tryz.prog 109 #[.slice (some ⟨b, off, none⟩) n c] w fun e w' => ∃ v', e = .returned v' /\ w'.ownsRow w.heap.size 3 1 v' n ((zs.take n).map (Value.int .i64)) /\ v' ≠ .slice none 0 0 /\ Below w.heap.size w w' := Any.slices_Clone_int Tryz.laysNm215 b off n c zs w hz hbig hc
open Go.RowKit Go.Lib in
theorem Tryz.slices_Clone_int_nil (n c : Nat) (w : World) :
 Calls Tryz.prog 109 #[.slice none n c] w fun e w' => e = .returned (.slice none 0 0) /\ w' = w := Any.slices_Clone_int_nil Tryz.laysNm215 n c w
open Go.RowKit Go.Lib in
theorem Tryz.slices_Clone_int_zero (a : Addr) (c : Nat) (w : World) :
 Calls Tryz.prog 109 #[.slice (some a) 0 c] w fun e w' => ∃ v', e = .returned v' /\ w'.ownsRow w.heap.size 3 1 v' 0 [] /\ v' ≠ .slice none 0 0 /\ Below w.heap.size w w' := Any.slices_Clone_int_zero Tryz.laysNm215 a c w
open Go.RowKit Go.Lib in
open Go.RowKit Go.Lib in
open Go.RowKit Go.Lib in
def Tryz.laysSlE041_f154_ren : Go.Shelf.Ren := ⟨fun | 41 => 154 | n => n, fun | 22 => 29 | 23 => 4 | 4 => 4 | n => n, fun | n => n⟩
theorem Tryz.laysSlE041_f154 : Go.Proofs.SlLaysE0.n41 Tryz.prog Tryz.laysSlE041_f154_ren := {
 mixed := by kernel_rfl
 f41 := ⟨Tryz.f154.name, by decide, Tryz.func154.trans (congrArg some (by kernel_rfl))⟩
 t4 := Tryz.underlying4
 a4 := Tryz.isAgg4
 z4 := Tryz.sizeOf4
 v4 := Tryz.zeroValue4
 t22 := Tryz.underlying29
 a22 := Tryz.isAgg29
 z22 := Tryz.sizeOf29
 v22 := Tryz.zeroValue29 }
open Go.RowKit Go.Lib in
theorem Tryz.slices_Clone_f154 (i0 : TypeInfo) (z : Value) (size bytes : Nat) (hi : Tryz.prog.info? 4 = some i0) (hz0 : i0.zero = some z) (hz1 : i0.size = size) (hz2 : i0.bytes = bytes) (hzs : z.cells.size = size) (hsz : 0 < size) (z23 : ∀ w, (Go.sizeOf 4).run Tryz.prog w = .ok size w) (b off n c : Nat) (news : List Value) (w : World) (hl : news.length = n * size) (hn : n ≤ maxLen) (hbig : n * bytes ≤ 140737488355328) (hc : ∀ j u, news[j]? = some u -> w.cell? ⟨b, off + j, none⟩ = some u) (h1 : ∀ u ∈ news, u.oneCell' = true) :
 Calls Tryz.prog 154 #[.slice (some ⟨b, off, none⟩) n c] w fun e w' => ∃ v', e = .returned v' /\ w'.ownsRow w.heap.size 4 size v' n news /\ v' ≠ .slice none 0 0 /\ Below w.heap.size w w' := AnyE.slices_Clone Tryz.laysSlE041_f154 i0 z size bytes hi hz0 hz1 hz2 hzs hsz z23 b off n c news w hl hn hbig hc h1
open Go.RowKit Go.Lib in
open Go.RowKit Go.Lib in
theorem Tryz.slices_Clone_nil_f154 (n c : Nat) (w : World) :
 Calls Tryz.prog 154 #[.slice none n c] w fun e w' => e = .returned (.slice none 0 0) /\ w' = w := AnyE.slices_Clone_nil Tryz.laysSlE041_f154 n c w
end Go.Proofs
namespace Go.Proofs.YtnnhnkpoekbahaaGreat
open Go.RowKit
set_option maxHeartbeats 400000
set_option linter.unusedSimpArgs false
set_option linter.unusedVariables false
set_option maxRecDepth 100000
def inR (lo hi n : Int) : Bool := decide (lo ≤ n) && decide (n ≤ hi)
theorem inR_true {lo hi n : Int} (h : inR lo hi n = true) : lo ≤ n /\ n ≤ hi := by simpa [inR] using h
theorem f75_c (n lo hi : Int) (w : World) : Calls Tryz.prog 75 #[.int .i64 n, .int .i64 lo, .int .i64 hi] w fun e w' => e = .returned (.bool (inR lo hi n)) /\ w = w' := by
 go_enter Tryz.func75, Tryz.ntmps75
 go_wp2
 ·have h : lo ≤ n := by assumption
  go_ret
  exact ⟨ret_bool (by simp [inR]; omega), rfl⟩
 ·have h : n < lo := by assumption
  go_ret
  exact ⟨ret_bool (by simp [inR]; omega), rfl⟩
theorem f102_c (n lo hi : Int) (w : World) : Calls Tryz.prog 102 #[.int .i64 n, .int .i64 lo, .int .i64 hi] w fun e w' => e = .returned (.bool (inR lo hi n)) /\ w = w' := by
 go_enter Tryz.func102, Tryz.ntmps102
 go_wp2
 ·have h : lo ≤ n := by assumption
  go_ret
  exact ⟨ret_bool (by simp [inR]; omega), rfl⟩
 ·have h : n < lo := by assumption
  go_ret
  exact ⟨ret_bool (by simp [inR]; omega), rfl⟩
theorem f122_c (n lo hi : Int) (w : World) : Calls Tryz.prog 122 #[.int .i64 n, .int .i64 lo, .int .i64 hi] w fun e w' => e = .returned (.bool (inR lo hi n)) /\ w = w' := by
 go_enter Tryz.func122, Tryz.ntmps122
 go_wp2
 ·have h : lo ≤ n := by assumption
  go_ret
  exact ⟨ret_bool (by simp [inR]; omega), rfl⟩
 ·have h : n < lo := by assumption
  go_ret
  exact ⟨ret_bool (by simp [inR]; omega), rfl⟩
theorem f221_c (n lo hi : Int) (w : World) : Calls Tryz.prog 221 #[.int .i64 n, .int .i64 lo, .int .i64 hi] w fun e w' => e = .returned (.bool (inR lo hi n)) /\ w = w' := by
 go_enter Tryz.func221, Tryz.ntmps221
 go_wp2
 ·have h : lo ≤ n := by assumption
  go_ret
  exact ⟨ret_bool (by simp [inR]; omega), rfl⟩
 ·have h : n < lo := by assumption
  go_ret
  exact ⟨ret_bool (by simp [inR]; omega), rfl⟩
theorem f234_c (n lo hi : Int) (w : World) : Calls Tryz.prog 234 #[.int .i64 n, .int .i64 lo, .int .i64 hi] w fun e w' => e = .returned (.bool (inR lo hi n)) /\ w = w' := by
 go_enter Tryz.func234, Tryz.ntmps234
 go_wp2
 ·have h : lo ≤ n := by assumption
  go_ret
  exact ⟨ret_bool (by simp [inR]; omega), rfl⟩
 ·have h : n < lo := by assumption
  go_ret
  exact ⟨ret_bool (by simp [inR]; omega), rfl⟩
theorem f114_c (n hi : Int) (w : World) : Calls Tryz.prog 114 #[.int .i64 n, .int .i64 hi] w fun e w' => e = .returned (.bool (inR 0 hi n)) /\ w = w' := by
 go_enter Tryz.func114, Tryz.ntmps114
 go_wp2
 ·have h : 0 ≤ n := by assumption
  go_ret
  exact ⟨ret_bool (by simp [inR]; omega), rfl⟩
 ·have h : n < 0 := by assumption
  go_ret
  exact ⟨ret_bool (by simp [inR]; omega), rfl⟩
theorem f77_c (n : Int) (w : World) : Calls Tryz.prog 77 #[.int .i64 n] w fun e w' => e = .returned (.bool (inR 0 1125899906842624 n)) /\ w = w' := by
 go_enter Tryz.func77, Tryz.ntmps77
 go_wp2_with (go_at_call 75; refine (f75_c _ _ _ _).mono ?_; rintro e w' ⟨rfl, rfl⟩)
 go_ret
 exact ⟨rfl, rfl⟩
theorem f135_c (n : Int) (w : World) : Calls Tryz.prog 135 #[.int .i64 n] w fun e w' => e = .returned (.bool (inR (-1125899906842624) 1125899906842624 n)) /\ w = w' := by
 go_enter Tryz.func135, Tryz.ntmps135
 go_wp2
 ·have h : -1125899906842624 ≤ n := by assumption
  go_ret
  exact ⟨ret_bool (by simp [inR]; omega), rfl⟩
 ·have h : n < -1125899906842624 := by assumption
  go_ret
  exact ⟨ret_bool (by simp [inR]; omega), rfl⟩
theorem f215_c (n : Int) (w : World) : Calls Tryz.prog 215 #[.int .i64 n] w fun e w' => e = .returned (.bool (inR (-4194304) 4194304 n)) /\ w = w' := by
 go_enter Tryz.func215, Tryz.ntmps215
 go_wp2_with (go_at_call 221; refine (f221_c _ _ _ _).mono ?_; rintro e w' ⟨rfl, rfl⟩)
 go_ret
 exact ⟨rfl, rfl⟩
theorem f229_c (n : Int) (w : World) : Calls Tryz.prog 229 #[.int .i64 n] w fun e w' => e = .returned (.bool (inR (-4194304) 4194304 n)) /\ w = w' := by
 go_enter Tryz.func229, Tryz.ntmps229
 go_wp2_with (go_at_call 234; refine (f234_c _ _ _ _).mono ?_; rintro e w' ⟨rfl, rfl⟩)
 go_ret
 exact ⟨rfl, rfl⟩
def U (n : Nat) : Prop := n < 18446744073709551616
theorem U_wrap (x : Int) : ∃ k : Nat, U k /\ IntKind.u64.wrap x = (k : Int) := by
 refine ⟨(IntKind.u64.wrap x).toNat, ?_, ?_⟩
 ·unfold U IntKind.wrap; simp [IntKind.bits, IntKind.signed]; omega
 ·unfold IntKind.wrap; simp [IntKind.bits, IntKind.signed]; omega
def RI (w : World) (e : Ending) (w' : World) : Prop := ∃ q : Int, e = .returned (.int .i64 q) /\ Bl w w'
def RIE (w : World) (e : Ending) (w' : World) : Prop := ∃ q x : Int, e = .returned (.tuple #[.int .i64 q, .int .i64 x]) /\ Bl w w'
def RB (w : World) (e : Ending) (w' : World) : Prop := ∃ b : Bool, e = .returned (.bool b) /\ Bl w w'
def RWideE (w : World) (e : Ending) (w' : World) : Prop := ∃ a b x : Int, e = .returned (.tuple #[.agg #[.int .i64 a, .int .i64 b], .int .i64 x]) /\ Bl w w'
def letterB (c : Int) : Bool := (decide (97 ≤ c) && decide (c ≤ 122)) || (decide (65 ≤ c) && decide (c ≤ 90))
theorem f147_c (c : Int) (w : World) : Calls Tryz.prog 147 #[.int .u8 c] w fun e w' => e = .returned (.bool (letterB c)) /\ w = w' := by
 go_enter Tryz.func147, Tryz.ntmps147
 go_wp2
 all_goals
  go_ret
  exact ⟨ret_bool (by rw [Bool.eq_iff_iff]; simp [letterB]; omega), rfl⟩
def digitB (c : Int) : Bool := decide (48 ≤ c) && decide (c ≤ 57)
theorem f188_c (c : Int) (w : World) : Calls Tryz.prog 188 #[.int .u8 c] w fun e w' => e = .returned (.bool (digitB c)) /\ w = w' := by
 go_enter Tryz.func188, Tryz.ntmps188
 go_wp2
 all_goals
  go_ret
  exact ⟨ret_bool (by rw [Bool.eq_iff_iff]; simp [digitB]; try omega), rfl⟩
def wordB (c : Int) : Bool := letterB c || digitB c || decide (c = 95)
def wordLen (l : List UInt8) : Int := (l.takeWhile fun c => wordB c.toNat).length
theorem wordLen_drop (l : List UInt8) (k : Nat) (hk : k ≤ l.length) (h : ∀ j (hj : j < l.length), j < k -> wordB l[j].toNat = true) : wordLen l = k + wordLen (l.drop k) := by
 induction k generalizing l with
 | zero => simp
 | succ k ih =>
  cases l with
  | nil => simp at hk
  | cons x l =>
   have h0 := h 0 (by simp) (by omega)
   simp at h0
   have := ih l (by simpa using hk) (fun j hj hjk => by have := h (j + 1) (by simp; omega) (by omega); rwa [List.getElem_cons_succ] at this)
   unfold wordLen at this ⊢
   simp only [List.takeWhile_cons, h0, if_true, List.length_cons, List.drop_succ_cons]
   omega
theorem wordLen_stop (l : List UInt8) (k : Nat) (hk : k < l.length) (h : ∀ j (hj : j < l.length), j < k -> wordB l[j].toNat = true) (hs : wordB l[k].toNat = false) : wordLen l = k := by
 rw [wordLen_drop l k (by omega) h]
 unfold wordLen
 rw [List.drop_eq_getElem_cons hk, List.takeWhile_cons, hs]
 simp
theorem wordLen_all (l : List UInt8) (h : ∀ j (hj : j < l.length), wordB l[j].toNat = true) : wordLen l = l.length := by
 rw [wordLen_drop l l.length (by omega) (fun j hj _ => h j hj)]
 simp [wordLen]
theorem word_next (s : ByteArray) (k : Nat) (hlt : k < s.size) (A : ∀ j (hj : j < s.data.toList.length), j < k -> wordB (s.data.toList[j]).toNat = true) (h : wordB (s[k].toNat : Int) = true) :
 ∀ j (hj : j < s.data.toList.length), j < k + 1 -> wordB (s.data.toList[j]).toNat = true := fun j hj hjk => by
 by_cases e : j = k
 ·subst e; exact h
 ·exact A j hj (by omega)
set_option maxHeartbeats 1000000 in
theorem f148_c (s : ByteArray) (w : World) (hs : s.size ≤ 140737488351232) : Calls Tryz.prog 148 #[.string s] w fun e w' => e = .returned (.int .i64 (wordLen s.data.toList)) /\ w = w' := by
 go_enter Tryz.func148, Tryz.ntmps148
 go_wp2
 go_loop [3] (fun i => ∃ k : Nat, k ≤ s.size /\ i = .int .i64 k /\ Aside (∀ j (hj : j < s.data.toList.length), j < k -> wordB (s.data.toList[j]).toNat = true)) (fun i => s.size - (intOf i).toNat)
 case atStart => exact ⟨0, Nat.zero_le _, rfl, fun j _ hj => absurd hj (Nat.not_lt_zero _)⟩
 case round =>
  obtain ⟨k, hk, rfl, A⟩ := hrel
  by_cases hlt : k < s.size
  ·have hc : s.data.toList[k]'(by simpa using hlt) = s[k] := rfl
   have C := HD hc; clear hc
   cases hl : letterB (s[k].toNat : Int) <;> cases hd : digitB (s[k].toNat : Int) <;> cases h9 : ((s[k].toNat : Int) == 95)
   all_goals
    have HW : Hid (wordB (s[k].toNat : Int) = (letterB (s[k].toNat : Int) || digitB (s[k].toNat : Int) || ((s[k].toNat : Int) == 95))) := rfl
    go_wp2_with (first | (go_at_call 147; refine (f147_c _ _).mono ?_; rintro e w' ⟨rfl, rfl⟩) | (go_at_call 188; refine (f188_c _ _).mono ?_; rintro e w' ⟨rfl, rfl⟩))
   all_goals first
    | (go_ret
       exact ⟨ret_int (wordLen_stop s.data.toList k (by simpa using hlt) A.out (by show wordB (s[k].toNat : Int) = false; rw [HW.out, hl, hd, h9]; rfl)).symm, rfl⟩)
    | exact ⟨⟨k + 1, by omega, by go_num, word_next s k hlt A.out (by rw [HW.out, hl, hd, h9]; rfl)⟩, by simp [intOf]; omega⟩
  ·go_wp2
   go_ret
   exact ⟨ret_int (by rw [wordLen_all s.data.toList (fun j hj => A.out j hj (by simp at hj; omega))]; simp; omega), rfl⟩
def headB (l : List UInt8) : Bool := match l with | [] => false | c :: _ => letterB c.toNat
def nameB (s : ByteArray) : Bool := decide (1 ≤ s.size) && decide (s.size ≤ 20) && headB s.data.toList && decide (wordLen s.data.toList = s.size)
theorem headB_cons (l : List UInt8) (h : 0 < l.length) : headB l = letterB (l[0].toNat : Int) := by
 cases l with
 | nil => simp at h
 | cons a l => rfl
theorem headB_of (s : ByteArray) (h : 0 < s.size) : headB s.data.toList = letterB (s[0].toNat : Int) :=
 headB_cons s.data.toList (by simpa using h)
theorem nil_of (s : ByteArray) (h : s.size = 0) : s.toList = [] := by
 rw [toList_nil_iff_emptyBytes]
 cases s with | mk d => cases d with | mk l => simp [ByteArray.size] at h; subst h; rfl
theorem not_nil_of (s : ByteArray) (h : s.size ≠ 0) : s.toList ≠ [] := by
 rw [Ne, toList_nil_iff_emptyBytes]
 intro e; subst e; exact h rfl
def subD (x y : Int) : Nat := (x.toNat + 18446744073709551616 - y.toNat) % 18446744073709551616
def subB (x y : Int) : Nat := if x.toNat < y.toNat then 1 else 0
def addD (x y : Int) : Nat := (x.toNat + y.toNat) % 18446744073709551616
def addC (x y : Int) : Nat := (x.toNat + y.toNat) / 18446744073709551616
theorem run_sub64 (x y : Int) (w : World) : (callFunc 204 #[.int .u64 x, .int .u64 y, .int .u64 0]).run Tryz.prog w = .ok (.value (.tuple #[.int .u64 (subD x y), .int .u64 (subB x y)])) w := by
 have e := run_callFunc_extern (P := Tryz.prog) (f := 204) (fn := Tryz.f204) (e := fun args => do
  let (x, y, b) <- Extern.MathBitsCarry.three "Sub64" args
  pure (Extern.MathBitsCarry.pair ((x + Extern.MathBitsCarry.m64 - y - b) % Extern.MathBitsCarry.m64) (if x < y + b then 1 else 0))) Tryz.func204 (by kernel_rfl) (by kernel_rfl) (by kernel_rfl) (by kernel_rfl) #[.int .u64 x, .int .u64 y, .int .u64 0] w
 rw [e]
 rfl
theorem run_add64' (x y : Int) (w : World) : (callFunc 203 #[.int .u64 x, .int .u64 y, .int .u64 0]).run Tryz.prog w = .ok (.value (.tuple #[.int .u64 (addD x y), .int .u64 (addC x y)])) w := by
 have e := run_callFunc_extern (P := Tryz.prog) (f := 203) (fn := Tryz.f203) (e := fun args => do
  let (x, y, c) <- Extern.MathBitsCarry.three "Add64" args
  pure (Extern.MathBitsCarry.pair ((x + y + c) % Extern.MathBitsCarry.m64) ((x + y + c) / Extern.MathBitsCarry.m64))) Tryz.func203 (by kernel_rfl) (by kernel_rfl) (by kernel_rfl) (by kernel_rfl) #[.int .u64 x, .int .u64 y, .int .u64 0] w
 rw [e]
 rfl
theorem f201_c (n : Int) (w : World) : Calls Tryz.prog 201 #[.int .i64 n] w fun e w' => ∃ k : Nat, U k /\ e = .returned (.int .u64 k) /\ w = w' := by
 obtain ⟨k, hk, e⟩ := U_wrap n
 obtain ⟨k2, hk2, e2⟩ := U_wrap (-IntKind.u64.wrap n)
 have E := HD e; clear e
 have E2 := HD e2; clear e2
 go_enter Tryz.func201, Tryz.ntmps201
 go_wp2
 ·go_ret
  exact ⟨k2, hk2, ret_int E2.out, rfl⟩
 ·go_ret
  exact ⟨k, hk, ret_int E.out, rfl⟩
def RNum (w : World) (e : Ending) (w' : World) : Prop := ∃ (hi lo : Int) (neg : Bool), e = .returned (.agg #[.int .u64 hi, .int .u64 lo, .bool neg]) /\ Bl w w'
def RNumU (w : World) (e : Ending) (w' : World) : Prop := ∃ (hi lo : Nat) (neg : Bool), U hi /\ U lo /\ e = .returned (.agg #[.int .u64 hi, .int .u64 lo, .bool neg]) /\ Bl w w'
def RSigned (hi lo : Int) (w : World) (e : Ending) (w' : World) : Prop := ∃ (neg : Bool), e = .returned (.agg #[.int .u64 hi, .int .u64 lo, .bool neg]) /\ Bl w w'
theorem f202_c (hi lo : Int) (neg : Bool) (w : World) : Calls Tryz.prog 202 #[.int .u64 hi, .int .u64 lo, .bool neg] w (RSigned hi lo w) := by
 cases neg
 ·go_enter Tryz.func202, Tryz.ntmps202
  go_wp2
  exact bodyPost_ret (v := .agg #[.int .u64 hi, .int .u64 lo, .bool false]) (by simp [results, Tryz.results202, go_sem, *]) rfl ⟨_, rfl, bz⟩
 ·by_cases h : hi = 0
  ·subst h
   go_enter Tryz.func202, Tryz.ntmps202
   go_wp2
   exact bodyPost_ret (v := .agg #[.int .u64 0, .int .u64 lo, .bool (lo != 0)]) (by simp [results, Tryz.results202, go_sem, *]) rfl ⟨_, rfl, bz⟩
  ·have h' : (hi != 0) = true := by simpa using h
   go_enter Tryz.func202, Tryz.ntmps202
   go_wp2
   exact bodyPost_ret (v := .agg #[.int .u64 hi, .int .u64 lo, .bool true]) (by simp [results, Tryz.results202, go_sem, *]) rfl ⟨_, rfl, bz⟩
theorem f172_c (n : Int) (neg : Bool) (w : World) : Calls Tryz.prog 172 #[.int .u64 n, .bool neg] w (RIE w) := by
 cases neg
 all_goals
  go_enter Tryz.func172, Tryz.ntmps172
  go_wp2
 all_goals
  go_ret2
  exact ⟨_, _, rfl, Bl.refl _⟩
theorem f171_c (hi lo : Int) (neg : Bool) (w : World) : Calls Tryz.prog 171 #[.agg #[.int .u64 hi, .int .u64 lo, .bool neg]] w (RSigned hi lo w) := by
 go_enter Tryz.func171, Tryz.ntmps171
 go_wp2_with fail
 refine (f202_c hi lo _ _).mono ?_
 rintro e w' ⟨c, rfl, hw⟩
 obtain ⟨hchw, hfhw, hzhw⟩ := Bl.rules hw; (try simp at hzhw)
 go_wp2
 exact bodyPost_ret (v := .agg #[.int .u64 hi, .int .u64 lo, .bool c]) (by simp [results, Tryz.results171, go_sem, *]) rfl ⟨_, rfl, bz⟩
theorem mul_hi_U {a b : Nat} (ha : U a) (hb : U b) : U (a * b / 18446744073709551616) := by
 unfold U at *
 rw [Nat.div_lt_iff_lt_mul (by omega)]
 exact Nat.mul_lt_mul_of_lt_of_le ha (by omega) (by omega)
theorem f165_c (a b : Int) (w : World) : Calls Tryz.prog 165 #[.int .i64 a, .int .i64 b] w (RNumU w) := by
 go_enter Tryz.func165, Tryz.ntmps165
 go_wp2_with fail
 refine (f201_c _ _).mono ?_
 rintro e w' ⟨k1, hk1, rfl, rfl⟩
 go_wp2_with fail
 refine (f201_c _ _).mono ?_
 rintro e w' ⟨k2, hk2, rfl, rfl⟩
 go_wp2_with fail
 refine (Tryz.bits_Mul64 _ _ hk1 hk2 _).mono ?_
 rintro e w1 ⟨rfl, hw⟩
 subst hw
 have g1 : U (k1 * k2 / 18446744073709551616) := mul_hi_U hk1 hk2
 have g2 : U (k1 * k2 % 18446744073709551616) := Nat.mod_lt _ (by omega)
 generalize k1 * k2 / 18446744073709551616 = hi at g1
 generalize k1 * k2 % 18446744073709551616 = lo at g2
 go_wp2_with fail
 refine (f202_c _ _ _ _).mono ?_
 rintro e w' ⟨c, rfl, hw⟩
 obtain ⟨hchw, hfhw, hzhw⟩ := Bl.rules hw; (try simp at hzhw)
 go_wp2
 exact bodyPost_ret (v := .agg #[.int .u64 hi, .int .u64 lo, .bool c]) (by simp [results, Tryz.results165, go_sem, *]) rfl ⟨hi, lo, _, g1, g2, rfl, bz⟩
theorem f170_c (a b : Int) (w : World) : Calls Tryz.prog 170 #[.agg #[.int .i64 a, .int .i64 b]] w (RNum w) := by
 have S := run_sub64
 go_enter Tryz.func170, Tryz.ntmps170
 go_wp2_with fail
 refine (f201_c _ _).mono ?_
 rintro e w' ⟨h, hh, rfl, rfl⟩
 go_wp2_with fail
 ·refine bodyPost_ret (v := .agg #[.int .u64 _, .int .u64 _, .bool false]) (by simp [results, Tryz.results170, go_sem, *]; try exact ⟨rfl, rfl⟩) rfl ⟨_, _, _, rfl, bz⟩
 ·refine bodyPost_ret (v := .agg #[.int .u64 _, .int .u64 _, .bool true]) (by simp [results, Tryz.results170, go_sem, *]; try exact ⟨rfl, rfl⟩) rfl ⟨_, _, _, rfl, bz⟩
set_option maxHeartbeats 2000000 in
theorem f169_c (a b c d : Int) (p q : Bool) (w : World) : Calls Tryz.prog 169 #[.agg #[.int .u64 a, .int .u64 b, .bool p], .agg #[.int .u64 c, .int .u64 d, .bool q]] w (RNum w) := by
 have S := run_sub64
 have A := run_add64'
 cases p <;> cases q
 all_goals
  go_enter Tryz.func169, Tryz.ntmps169
  go_wp2_with fail
 all_goals
  refine (f202_c _ _ _ _).mono ?_
  rintro e w' ⟨nb, rfl, hw⟩
  obtain ⟨hchw, hfhw, hzhw⟩ := Bl.rules hw; (try simp at hzhw)
  go_wp2
  exact bodyPost_ret (v := .agg #[.int .u64 _, .int .u64 _, .bool nb]) (by simp [results, Tryz.results169, go_sem, *]; try exact ⟨rfl, rfl⟩) rfl ⟨_, _, _, rfl, bz⟩
theorem f167_c (a b : Int) (p : Bool) (w : World) : Calls Tryz.prog 167 #[.agg #[.int .u64 a, .int .u64 b, .bool p]] w (RWideE w) := by
 go_enter Tryz.func167, Tryz.ntmps167
 go_wp2_with fail
 all_goals try go_quiet (fail)
 all_goals try go_wp2
 all_goals
  refine bodyPost_ret (v := .tuple #[.agg #[.int .i64 _, .int .i64 _], .int .i64 _]) (by simp [results, Tryz.results167, go_sem]; try exact ⟨⟨rfl, rfl⟩, rfl⟩) rfl ⟨_, _, _, rfl, bz⟩
theorem f168_c (a b : Int) (w : World) : Calls Tryz.prog 168 #[.agg #[.int .i64 a, .int .i64 b]] w (RB w) := by
 go_enter Tryz.func168, Tryz.ntmps168
 go_wp2
 all_goals
  go_ret
  exact ⟨_, rfl, bz⟩
structure Dg (y1 y0 u d q r : Nat) : Prop where
 eq : q * y1 + r = u
 ge : (u * 4294967296 + d) / (y1 * 4294967296 + y0) ≤ q
theorem dgQ {y1 y0 u d : Nat} (hu : u < y1 * 4294967296 + y0) (hd : d < 4294967296) : (u * 4294967296 + d) / (y1 * 4294967296 + y0) < 4294967296 := by
 rw [Nat.div_lt_iff_lt_mul (by omega)]
 omega
theorem dg0 {y1 y0 u d : Nat} (h1 : 2147483648 ≤ y1) (hd : d < 4294967296) : Dg y1 y0 u d (u / y1) (u - u / y1 * y1) := by
 have hm := Nat.div_mul_le_self u y1
 refine ⟨by omega, ?_⟩
 rw [Nat.le_div_iff_mul_le (by omega)]
 have h := Nat.div_mul_le_self (u * 4294967296 + d) (y1 * 4294967296 + y0)
 generalize (u * 4294967296 + d) / (y1 * 4294967296 + y0) = Q at h ⊢
 rw [Nat.mul_add, <- Nat.mul_assoc] at h
 generalize Q * y0 = z at h
 generalize Q * y1 = v at h ⊢
 omega
theorem dgLe {y1 y0 u d q r : Nat} (h1 : 2147483648 ≤ y1) (h0 : y0 < 4294967296) (hu : u < y1 * 4294967296 + y0) (h : Dg y1 y0 u d q r) : q ≤ 4294967297 := by
 have he := h.eq
 rcases Nat.lt_or_ge 4294967297 q with hq | hq
 ·have := Nat.mul_le_mul_right y1 (show 4294967298 ≤ q by omega)
  generalize q * y1 = v at he this
  omega
 ·exact hq
theorem dgDec {y1 y0 u d q r : Nat} (hu : u < y1 * 4294967296 + y0) (hd : d < 4294967296) (h : Dg y1 y0 u d q r) (hc : 4294967296 ≤ q \/ 4294967296 * r + d < q * y0) : 0 < q /\ Dg y1 y0 u d (q - 1) (r + y1) := by
 have he := h.eq
 have hg := h.ge
 have hQ := dgQ hu hd
 have hq : (u * 4294967296 + d) / (y1 * 4294967296 + y0) < q := by
  rcases hc with hc | hc
  ·omega
  ·rw [Nat.div_lt_iff_lt_mul (by omega), Nat.mul_add, <- Nat.mul_assoc]
   generalize q * y0 = z at hc ⊢
   generalize q * y1 = v at he ⊢
   omega
 have h0 : 0 < q := Nat.lt_of_le_of_lt (Nat.zero_le _) hq
 refine ⟨h0, ?_, by omega⟩
 have : q = (q - 1) + 1 := by omega
 rw [this, Nat.add_mul] at he
 generalize (q - 1) * y1 = v at he ⊢
 omega
theorem dgEnd {y1 y0 u d q r : Nat} (hu : u < y1 * 4294967296 + y0) (h : Dg y1 y0 u d q r) (hc : q * y0 ≤ 4294967296 * r + d) : q = (u * 4294967296 + d) / (y1 * 4294967296 + y0) := by
 have he := h.eq
 refine Nat.le_antisymm ?_ h.ge
 rw [Nat.le_div_iff_mul_le (by omega), Nat.mul_add, <- Nat.mul_assoc]
 generalize q * y0 = z at hc ⊢
 generalize q * y1 = v at he ⊢
 omega
theorem dgEnd2 {y1 y0 u d q r : Nat} (h0 : y0 < 4294967296) (hu : u < y1 * 4294967296 + y0) (h : Dg y1 y0 u d q r) (hq : q ≤ 4294967296) (hr : 4294967296 ≤ r) : q = (u * 4294967296 + d) / (y1 * 4294967296 + y0) := by
 refine dgEnd hu h ?_
 have h1 := Nat.mul_le_mul hq (show y0 ≤ 4294967295 by omega)
 have h2 := Nat.mul_le_mul_left 4294967296 hr
 omega
theorem dgAll {N Y M s y A u0 : Nat} (hY : Y = y * 2 ^ s) (hy : 0 < y) (hN : N = M * 2 ^ s) (he : N = A * 4294967296 + u0) :
 A / Y * 4294967296 + (A % Y * 4294967296 + u0) / Y = M / y /\ ((A % Y * 4294967296 + u0) % Y) / 2 ^ s = M % y := by
 have hp : 0 < 2 ^ s := Nat.two_pow_pos s
 have hYp : 0 < Y := by rw [hY]; exact Nat.mul_pos hy hp
 have h1 := Nat.div_add_mod A Y
 have hA : N = Y * (A / Y * 4294967296) + (A % Y * 4294967296 + u0) := by
  rw [he]
  conv => lhs; rw [<- h1]
  rw [Nat.add_mul, Nat.mul_assoc]
  omega
 have hq : N / Y = A / Y * 4294967296 + (A % Y * 4294967296 + u0) / Y := by
  rw [hA, Nat.mul_add_div hYp]
 have hr : N % Y = (A % Y * 4294967296 + u0) % Y := by
  rw [hA, Nat.mul_add_mod]
 rw [<- hq, <- hr, hN, hY, Nat.mul_div_mul_right _ _ hp, Nat.mul_mod_mul_right, Nat.mul_div_cancel _ hp]
 exact ⟨rfl, rfl⟩
theorem bitLenAux_bd : ∀ (f x : Nat), x ≠ 0 -> x < 2 ^ f -> 2 ^ Lib.bitLenAux f x ≤ 2 * x /\ x < 2 ^ Lib.bitLenAux f x
 | 0, x, h0, h => absurd (by simpa using h) h0
 | f + 1, x, h0, h => by
  rw [Lib.bitLenAux, if_neg h0, Nat.add_comm 1, Nat.pow_succ]
  by_cases hx : x / 2 = 0
  ·have h1 : Lib.bitLenAux f (x / 2) = 0 := by
    rw [hx]
    cases f <;> simp [Lib.bitLenAux]
   rw [h1]
   omega
  ·have := bitLenAux_bd f (x / 2) hx (by rw [Nat.pow_succ] at h; omega)
   omega
theorem bitLen_bd (x : Nat) (h0 : x ≠ 0) (h : U x) : 2 ^ Lib.bitLen x ≤ 2 * x /\ x < 2 ^ Lib.bitLen x := bitLenAux_bd 64 x h0 h
theorem wrap_U {n : Nat} (h : U n) : IntKind.u64.wrap (n : Int) = n := by
 unfold U at h
 unfold IntKind.wrap
 simp [IntKind.bits, IntKind.signed]
 omega
theorem bits_or_nat {a b : Nat} (ha : U a) (hb : U b) : bits .or .u64 (a : Int) (b : Int) = ((a ||| b : Nat) : Int) := by
 have h : a ||| b < 2 ^ 64 := Nat.or_lt_two_pow ha hb
 show IntKind.u64.wrap (((BitVec.ofInt 64 (a:Int)) ||| (BitVec.ofInt 64 (b:Int)) : BitVec 64).toNat : Int) = _
 rw [BitVec.toNat_or, BitVec.ofInt_natCast, BitVec.ofInt_natCast, BitVec.toNat_ofNat, BitVec.toNat_ofNat, Nat.mod_eq_of_lt (show a < 2 ^ 64 from ha), Nat.mod_eq_of_lt (show b < 2 ^ 64 from hb)]
 exact wrap_U h
theorem bits_and_nat {a b : Nat} (ha : U a) (hb : U b) : bits .and .u64 (a : Int) (b : Int) = ((a &&& b : Nat) : Int) := by
 have h : a &&& b < 2 ^ 64 := Nat.and_lt_two_pow a hb
 show IntKind.u64.wrap (((BitVec.ofInt 64 (a:Int)) &&& (BitVec.ofInt 64 (b:Int)) : BitVec 64).toNat : Int) = _
 rw [BitVec.toNat_and, BitVec.ofInt_natCast, BitVec.ofInt_natCast, BitVec.toNat_ofNat, BitVec.toNat_ofNat, Nat.mod_eq_of_lt (show a < 2 ^ 64 from ha), Nat.mod_eq_of_lt (show b < 2 ^ 64 from hb)]
 exact wrap_U h
theorem and_mask (n : Nat) : n &&& 4294967295 = n % 4294967296 := Nat.and_two_pow_sub_one_eq_mod n 32
theorem or_low {a b s : Nat} (hb : b < 2 ^ s) : (a * 2 ^ s) ||| b = a * 2 ^ s + b := by
 rw [<- Nat.shiftLeft_eq, Nat.shiftLeft_add_eq_or_of_lt hb]
theorem wrap_mod (n : Nat) : IntKind.u64.wrap (n : Int) = ((n % 18446744073709551616 : Nat) : Int) := by
 unfold IntKind.wrap
 simp [IntKind.bits, IntKind.signed]
theorem wrap_sub {a b : Nat} (h : b ≤ a) (ha : U a) : IntKind.u64.wrap ((a : Int) - b) = ((a - b : Nat) : Int) := by
 rw [show (a : Int) - b = ((a - b : Nat) : Int) by omega]
 exact wrap_U (by unfold U at *; omega)
def divQ (hi lo y : Nat) : Nat := (hi * 18446744073709551616 + lo) / y
def divR (hi lo y : Nat) : Nat := (hi * 18446744073709551616 + lo) % y
structure DgL (y1 y0 u d q r : Nat) : Prop where
 h1 : 2147483648 ≤ y1
 h2 : y1 < 4294967296
 h0 : y0 < 4294967296
 hd : d < 4294967296
 hu : u < y1 * 4294967296 + y0
 dg : Dg y1 y0 u d q r
 hr : r < 4294967296
def dgV (y1 y0 u d : Nat) : Nat := (u * 4294967296 + d) / (y1 * 4294967296 + y0)
def DgG (y1 y0 u d q r : Nat) : Prop := ∃ q' r' : Nat, IntKind.u64.wrap ((q : Int) - 1) = (q' : Int) /\ IntKind.u64.wrap ((r : Int) + (y1 : Int)) = (r' : Int) /\ Hid (q' < q)
 /\ (decide ((4294967296 : Int) ≤ (r' : Int)) = true /\ decide (4294967296 ≤ r') = true /\ Hid (q' = dgV y1 y0 u d) \/ decide ((4294967296 : Int) ≤ (r' : Int)) = false /\ decide (4294967296 ≤ r') = false /\ Hid (DgL y1 y0 u d q' r'))
theorem dgG {y1 y0 u d q r : Nat} (h : DgL y1 y0 u d q r) (hc : 4294967296 ≤ q \/ 4294967296 * r + d < q * y0) : DgG y1 y0 u d q r := by
 obtain ⟨hq, hD⟩ := dgDec h.hu h.hd h.dg hc
 have hle := dgLe h.h1 h.h0 h.hu h.dg
 have h2 := h.h2
 have h3 := h.hr
 refine ⟨q - 1, r + y1, ?_, ?_, HD (by omega), ?_⟩
 ·rw [<- wrap_U (n := q - 1) (by unfold U; omega), show ((q - 1 : Nat) : Int) = (q : Int) - 1 by omega]
 ·rw [<- wrap_U (n := r + y1) (by unfold U; omega), Int.natCast_add]
 ·rcases Nat.lt_or_ge (r + y1) 4294967296 with hr | hr
  ·exact .inr ⟨by simp; omega, by simp; omega, HD ⟨h.h1, h.h2, h.h0, h.hd, h.hu, hD, hr⟩⟩
  ·exact .inl ⟨by simp; omega, by simp; omega, HD (dgEnd2 h.h0 h.hu hD (by omega) hr)⟩
theorem dgRound {y1 y0 u d q r : Nat} (h : DgL y1 y0 u d q r) :
 decide ((4294967296 : Int) ≤ (q : Int)) = true /\ decide (4294967296 ≤ q) = true /\ DgG y1 y0 u d q r
 \/ decide ((4294967296 : Int) ≤ (q : Int)) = false /\ decide (4294967296 ≤ q) = false /\ ∃ p n m : Nat, IntKind.u64.wrap ((q : Int) * (y0 : Int)) = (p : Int) /\ IntKind.u64.wrap (4294967296 * (r : Int)) = (n : Int) /\ IntKind.u64.wrap ((n : Int) + (d : Int)) = (m : Int)
  /\ (decide ((m : Int) < (p : Int)) = true /\ decide (m < p) = true /\ DgG y1 y0 u d q r \/ decide ((m : Int) < (p : Int)) = false /\ decide (m < p) = false /\ Hid (q = dgV y1 y0 u d)) := by
 have h3 := h.hr
 have h4 := h.hd
 rcases Nat.lt_or_ge q 4294967296 with hq | hq
 ·right
  have hp := Nat.mul_le_mul (show q ≤ 4294967295 by omega) (show y0 ≤ 4294967295 by have := h.h0; omega)
  refine ⟨by simp; omega, by simp; omega, q * y0, 4294967296 * r, 4294967296 * r + d, ?_, ?_, ?_, ?_⟩
  ·rw [<- wrap_U (n := q * y0) (by unfold U; omega), Int.natCast_mul]
  ·rw [<- wrap_U (n := 4294967296 * r) (by unfold U; omega), Int.natCast_mul]; rfl
  ·rw [<- wrap_U (n := 4294967296 * r + d) (by unfold U; omega), Int.natCast_add]
  ·rcases Nat.lt_or_ge (4294967296 * r + d) (q * y0) with hm | hm
   ·exact .inl ⟨by rw [decide_eq_true_eq]; omega, by rw [decide_eq_true_eq]; omega, dgG h (.inr hm)⟩
   ·exact .inr ⟨by rw [decide_eq_false_iff_not]; omega, by rw [decide_eq_false_iff_not]; omega, HD (dgEnd h.hu h.dg hm)⟩
 ·exact .inl ⟨by simp; omega, by simp; omega, dgG h (.inl hq)⟩
theorem wrap_mul (a b : Nat) : IntKind.u64.wrap ((a : Int) * (b : Int)) = ((a * b % 18446744073709551616 : Nat) : Int) := by
 rw [<- wrap_mod, Int.natCast_mul]
theorem wrap_add (a b : Nat) : IntKind.u64.wrap ((a : Int) + (b : Int)) = (((a + b) % 18446744073709551616 : Nat) : Int) := by
 rw [<- wrap_mod, Int.natCast_add]
theorem wrap_diff {a b r : Nat} (A B : Nat) (ha : a = A % 18446744073709551616) (hb : b = B % 18446744073709551616) (h : A = B + r) (hr : U r) : IntKind.u64.wrap ((a : Int) - (b : Int)) = (r : Int) := by
 unfold U at hr
 unfold IntKind.wrap
 simp only [IntKind.bits, IntKind.signed]
 simp
 omega
theorem dgMid {y1 y0 u d d0 Y : Nat} (h1 : 2147483648 ≤ y1) (h2 : y1 < 4294967296) (h0 : y0 < 4294967296) (hd : d < 4294967296) (hd0 : d0 < 4294967296) (hY : Y = y1 * 4294967296 + y0) :
 ∃ n1 n2 n3 u2 q v r : Nat, IntKind.u64.wrap ((u : Int) * 4294967296) = (n1 : Int) /\ IntKind.u64.wrap ((n1 : Int) + (d : Int)) = (n2 : Int) /\ IntKind.u64.wrap ((dgV y1 y0 u d : Int) * (Y : Int)) = (n3 : Int) /\ IntKind.u64.wrap ((n2 : Int) - (n3 : Int)) = (u2 : Int)
  /\ IntKind.u64.wrap ((u2 : Int) / (y1 : Int)) = (q : Int) /\ IntKind.u64.wrap ((q : Int) * (y1 : Int)) = (v : Int) /\ IntKind.u64.wrap ((u2 : Int) - (v : Int)) = (r : Int) /\ Hid (u2 = (u * 4294967296 + d) % Y) /\ Hid (DgL y1 y0 u2 d0 q r) := by
 have hY0 : 0 < Y := by omega
 have hm := Nat.mod_lt (u * 4294967296 + d) hY0
 have hdm := Nat.div_add_mod (u * 4294967296 + d) Y
 have hv : dgV y1 y0 u d = (u * 4294967296 + d) / Y := by unfold dgV; rw [hY]
 rw [hv]
 have e1 := wrap_mul u 4294967296
 have e2 := wrap_add (u * 4294967296 % 18446744073709551616) d
 have e3 := wrap_mul ((u * 4294967296 + d) / Y) Y
 rw [Nat.mul_comm] at hdm
 have e4 := wrap_diff (r := (u * 4294967296 + d) % Y) (u * 4294967296 + d) ((u * 4294967296 + d) / Y * Y) (a := (u * 4294967296 % 18446744073709551616 + d) % 18446744073709551616) (b := (u * 4294967296 + d) / Y * Y % 18446744073709551616) (by omega) rfl hdm.symm (by unfold U; omega)
 have hdg := dg0 (y1 := y1) (y0 := y0) (u := (u * 4294967296 + d) % Y) (d := d0) h1 hd0
 obtain ⟨u2, hu⟩ : ∃ u2, u2 = (u * 4294967296 + d) % Y := ⟨_, rfl⟩
 rw [<- hu] at hm e4 hdg ⊢
 have hu2 : U u2 := by unfold U; omega
 have hm2 := Nat.div_mul_le_self u2 y1
 have hqu := Nat.div_le_self u2 y1
 have hr := Nat.mod_lt u2 (show 0 < y1 by omega)
 have hr2 := Nat.div_add_mod u2 y1
 rw [Nat.mul_comm] at hr2
 refine ⟨_, _, _, u2, u2 / y1, u2 / y1 * y1, u2 - u2 / y1 * y1, e1, e2, e3, e4, ?_, ?_, wrap_sub hm2 hu2, HD rfl, HD ⟨h1, h2, h0, hd0, by omega, hdg, by omega⟩⟩
 ·rw [<- wrap_U (n := u2 / y1) (by unfold U at *; omega), Int.natCast_ediv]
 ·rw [<- wrap_U (n := u2 / y1 * y1) (by unfold U at *; omega), Int.natCast_mul]
theorem dgLast {hi lo y y1 y0 u d d0 u2 Y s : Nat} (hhi : hi < y) (hlo : U lo) (hy : U y) (hY : Y = y1 * 4294967296 + y0) (hYs : Y = y * 2 ^ s) (hYU : U Y) (hu2 : u2 = (u * 4294967296 + d) % Y) (hN : (u * 4294967296 + d) * 4294967296 + d0 = (hi * 18446744073709551616 + lo) * 2 ^ s) :
 ∃ m1 m2 m3 m4 m5 : Nat, IntKind.u64.wrap ((dgV y1 y0 u d : Int) * 4294967296) = (m1 : Int) /\ IntKind.u64.wrap ((m1 : Int) + (dgV y1 y0 u2 d0 : Int)) = (divQ hi lo y : Int) /\ IntKind.u64.wrap ((u2 : Int) * 4294967296) = (m2 : Int) /\ IntKind.u64.wrap ((m2 : Int) + (d0 : Int)) = (m3 : Int)
  /\ IntKind.u64.wrap ((dgV y1 y0 u2 d0 : Int) * (Y : Int)) = (m4 : Int) /\ IntKind.u64.wrap ((m3 : Int) - (m4 : Int)) = (m5 : Int) /\ (m5 : Int) / 2 ^ s = (divR hi lo y : Int) := by
 have hY0 : 0 < Y := by
  rw [hYs]
  exact Nat.mul_pos (by omega) (Nat.two_pow_pos s)
 obtain ⟨hq, hr⟩ := dgAll (N := (hi * 18446744073709551616 + lo) * 2 ^ s) hYs (by omega) rfl hN.symm
 have hv : dgV y1 y0 u d = (u * 4294967296 + d) / Y := by unfold dgV; rw [hY]
 have hv2 : dgV y1 y0 u2 d0 = (u2 * 4294967296 + d0) / Y := by unfold dgV; rw [hY]
 rw [hv, hv2]
 rw [<- hu2] at hq hr
 have hQ : divQ hi lo y < 18446744073709551616 := by
  unfold divQ
  rw [Nat.div_lt_iff_lt_mul (by omega)]
  unfold U at *
  omega
 have hdm := Nat.div_add_mod (u2 * 4294967296 + d0) Y
 rw [Nat.mul_comm] at hdm
 have hm := Nat.mod_lt (u2 * 4294967296 + d0) hY0
 have e1 := wrap_mul ((u * 4294967296 + d) / Y) 4294967296
 have e2 := wrap_add ((u * 4294967296 + d) / Y * 4294967296 % 18446744073709551616) ((u2 * 4294967296 + d0) / Y)
 have e3 := wrap_mul u2 4294967296
 have e4 := wrap_add (u2 * 4294967296 % 18446744073709551616) d0
 have e5 := wrap_mul ((u2 * 4294967296 + d0) / Y) Y
 have e6 := wrap_diff (r := (u2 * 4294967296 + d0) % Y) (u2 * 4294967296 + d0) ((u2 * 4294967296 + d0) / Y * Y) (a := (u2 * 4294967296 % 18446744073709551616 + d0) % 18446744073709551616) (b := (u2 * 4294967296 + d0) / Y * Y % 18446744073709551616) (by omega) rfl hdm.symm (by unfold U at *; omega)
 refine ⟨_, _, _, _, (u2 * 4294967296 + d0) % Y, e1, ?_, e3, e4, e5, e6, ?_⟩
 ·rw [e2]
  unfold divQ at hQ ⊢
  rw [<- hq] at hQ ⊢
  congr 1
  omega
 ·unfold divR
  rw [<- hr, Int.natCast_ediv, Int.natCast_pow]
  rfl
theorem divFacts (hi lo y L s : Nat) (hhi : hi < y) (h0 : 0 < hi) (hlo : U lo) (hy : U y) (hb : 2 ^ L ≤ 2 * y /\ y < 2 ^ L) (hs : s = 64 - L) (hL : L ≤ 64) :
 ∃ Y y1 y0 a z b u t u1 u0 q v r : Nat, z ≤ 64 /\ IntKind.u64.wrap (s : Int) = (s : Int) /\ IntKind.u64.wrap ((y : Int) * 2 ^ s) = (Y : Int) /\ (Y : Int) / 4294967296 = (y1 : Int) /\ bits .and .u64 (Y : Int) 4294967295 = (y0 : Int)
  /\ IntKind.u64.wrap ((hi : Int) * 2 ^ s) = (a : Int) /\ IntKind.u64.wrap (64 - (s : Int)) = (z : Int) /\ (lo : Int) / 2 ^ z = (b : Int) /\ bits .or .u64 (a : Int) (b : Int) = (u : Int) /\ IntKind.u64.wrap ((lo : Int) * 2 ^ s) = (t : Int)
  /\ (t : Int) / 4294967296 = (u1 : Int) /\ bits .and .u64 (t : Int) 4294967295 = (u0 : Int) /\ IntKind.u64.wrap ((u : Int) / (y1 : Int)) = (q : Int) /\ IntKind.u64.wrap ((q : Int) * (y1 : Int)) = (v : Int) /\ IntKind.u64.wrap ((u : Int) - (v : Int)) = (r : Int)
  /\ (2147483648 ≤ y1 /\ y1 < 4294967296 /\ y0 < 4294967296 /\ Y = y1 * 4294967296 + y0 /\ Y = y * 2 ^ s /\ u1 < 4294967296 /\ u0 < 4294967296 /\ u < Y /\ (u * 4294967296 + u1) * 4294967296 + u0 = (hi * 18446744073709551616 + lo) * 2 ^ s /\ Dg y1 y0 u u1 q r /\ r < 4294967296) := by
 have hp : 0 < 2 ^ s := Nat.two_pow_pos s
 have hps : 2 ^ s * 2 ^ L = 18446744073709551616 := by
  rw [<- Nat.pow_add, hs, show 64 - L + L = 64 by omega]
 have hY1 : y * 2 ^ s < 18446744073709551616 := by
  rw [<- hps, Nat.mul_comm y]
  exact Nat.mul_lt_mul_of_pos_left hb.2 hp
 have hY2 : 18446744073709551616 ≤ 2 * (y * 2 ^ s) := by
  rw [<- hps, Nat.mul_comm (2 ^ s), <- Nat.mul_assoc]
  exact Nat.mul_le_mul_right _ hb.1
 have ha : (hi + 1) * 2 ^ s ≤ y * 2 ^ s := Nat.mul_le_mul_right _ hhi
 rw [Nat.add_mul, Nat.one_mul] at ha
 have hbz : lo / 2 ^ L < 2 ^ s := by
  rw [Nat.div_lt_iff_lt_mul (Nat.two_pow_pos L), hps]
  exact hlo
 have hlo2 := Nat.div_add_mod (lo * 2 ^ s) 18446744073709551616
 have hlo3 : lo * 2 ^ s / 18446744073709551616 = lo / 2 ^ L := by
  rw [<- hps, Nat.mul_comm (2 ^ s), Nat.mul_div_mul_right _ _ hp]
 rw [hlo3] at hlo2
 have hzL : 64 - s = L := by omega
 have aU : U (hi * 2 ^ s) := by unfold U; omega
 have bU : U (lo / 2 ^ L) := Nat.lt_of_le_of_lt (Nat.div_le_self _ _) hlo
 have hu : hi * 2 ^ s + lo / 2 ^ L < y * 2 ^ s := by omega
 have YU : U (y * 2 ^ s) := hY1
 have tU : U (lo * 2 ^ s % 18446744073709551616) := Nat.mod_lt _ (by decide)
 have hor := or_low (a := hi) hbz
 have hN : (hi * 18446744073709551616 + lo) * 2 ^ s = (hi * 2 ^ s + lo / 2 ^ L) * 18446744073709551616 + lo * 2 ^ s % 18446744073709551616 := by
  rw [Nat.add_mul, Nat.add_mul, Nat.mul_right_comm, <- hlo2]
  omega
 have hmy : ∀ n : Nat, n &&& 4294967295 = n % 4294967296 := and_mask
 have eY : IntKind.u64.wrap ((y : Int) * 2 ^ s) = ((y * 2 ^ s : Nat) : Int) := by rw [<- wrap_U YU]; simp
 have ea : IntKind.u64.wrap ((hi : Int) * 2 ^ s) = ((hi * 2 ^ s : Nat) : Int) := by rw [<- wrap_U aU]; simp
 have et : IntKind.u64.wrap ((lo : Int) * 2 ^ s) = ((lo * 2 ^ s % 18446744073709551616 : Nat) : Int) := by rw [<- wrap_mod]; simp
 have eb : (lo : Int) / 2 ^ L = ((lo / 2 ^ L : Nat) : Int) := by simp
 have eo := bits_or_nat aU bU
 rw [hor] at eo
 have M : U 4294967295 := by unfold U; decide
 generalize y * 2 ^ s = Y at *
 generalize hi * 2 ^ s = a at *
 generalize lo * 2 ^ s % 18446744073709551616 = t at *
 generalize lo / 2 ^ L = b at *
 have uU : U (a + b) := by unfold U at *; omega
 have a1 := bits_and_nat YU M
 have a2 := bits_and_nat tU M
 rw [hmy] at a1 a2
 have h1 : 2147483648 ≤ Y / 4294967296 := by omega
 have h2 : Y / 4294967296 < 4294967296 := by unfold U at YU; omega
 have hm := Nat.div_mul_le_self (a + b) (Y / 4294967296)
 have hqu := Nat.div_le_self (a + b) (Y / 4294967296)
 have hd := dg0 (y1 := Y / 4294967296) (y0 := Y % 4294967296) (u := a + b) (d := t / 4294967296) h1 (by unfold U at tU; omega)
 have hr := Nat.mod_lt (a + b) (show 0 < Y / 4294967296 by omega)
 have hr2 := Nat.div_add_mod (a + b) (Y / 4294967296)
 rw [Nat.mul_comm] at hr2
 refine ⟨Y, Y / 4294967296, Y % 4294967296, a, L, b, a + b, t, t / 4294967296, t % 4294967296, (a + b) / (Y / 4294967296), (a + b) / (Y / 4294967296) * (Y / 4294967296), (a + b) - (a + b) / (Y / 4294967296) * (Y / 4294967296), hL, wrap_U (by unfold U; omega), eY, by simp, a1, ea, ?_, eb, eo, et, by simp, a2, ?_, ?_, ?_, h1, h2, by omega, by omega, rfl, by unfold U at tU; omega, by omega, by omega, by omega, hd, by omega⟩
 ·rw [show (64 : Int) - (s : Int) = (L : Int) by omega]
  exact wrap_U (by unfold U; omega)
 ·rw [<- wrap_U (n := (a + b) / (Y / 4294967296)) (by unfold U at *; omega)]
  simp
 ·rw [<- wrap_U (n := (a + b) / (Y / 4294967296) * (Y / 4294967296)) (by unfold U at *; omega)]
  simp
 ·exact wrap_sub hm uU
theorem asideD {p : Prop} (h : p) : Aside p := h
theorem f199_c (hi lo y : Nat) (hhi : hi < y) (hlo : U lo) (hy : U y) (w : World) : Calls Tryz.prog 199 #[.int .u64 hi, .int .u64 lo, .int .u64 y] w fun e w' => e = .returned (.tuple #[.int .u64 (divQ hi lo y), .int .u64 (divR hi lo y)]) /\ Bl w w' := by
 obtain ⟨R, hR⟩ : ∃ R : Ending -> World -> Prop, R = fun e w' => e = .returned (.tuple #[.int .u64 (divQ hi lo y), .int .u64 (divR hi lo y)]) /\ Bl w w' := ⟨_, rfl⟩
 rw [<- hR]
 have hRh := HD hR
 clear hR
 have c1 : ((y : Int) == 0) = false := by simp; omega
 have c2 : decide ((y : Int) ≤ (hi : Int)) = false := by simp; omega
 rcases Nat.eq_zero_or_pos hi with h0 | h0
 ·subst h0
  have e1 : IntKind.u64.wrap ((lo : Int) / (y : Int)) = (divQ 0 lo y : Int) := by
   unfold divQ
   rw [Nat.zero_mul, Nat.zero_add, <- Int.natCast_ediv]
   exact wrap_U (Nat.lt_of_le_of_lt (Nat.div_le_self _ _) hlo)
  have e2 : (lo : Int) % (y : Int) = (divR 0 lo y : Int) := by
   unfold divR
   rw [Nat.zero_mul, Nat.zero_add, <- Int.natCast_emod]
  have E1 := HD e1
  have E2 := HD e2
  clear e1 e2
  have hy' : ¬ (y : Int) = 0 := by omega
  have hfin : ∀ w', Bl w w' -> R (.returned (.tuple #[.int .u64 (divQ 0 lo y), .int .u64 (divR 0 lo y)])) w' := fun w' h => by
   rw [hRh.out]
   exact ⟨rfl, h⟩
  have HF := HD hfin
  clear hfin
  go_enter Tryz.func199, Tryz.ntmps199
  go_wp2_with fail
  go_quiet (fail)
  go_wp2_with fail
  have := HF.out
  rw [<- E1.out, <- E2.out] at this
  exact this _ bz
 ·have c3 : ((hi : Int) == 0) = false := by simp; omega
  obtain ⟨L, hL⟩ : ∃ L, L = Lib.bitLen y := ⟨_, rfl⟩
  have hb := bitLen_bd y (by omega) hy
  have hL2 := Lib.bitLen_le y 64 (Nat.le_refl _) hy
  rw [<- hL] at hb hL2
  obtain ⟨s, hs⟩ : ∃ s, s = 64 - L := ⟨_, rfl⟩
  have T219 : Hid (∀ W, Calls Tryz.prog 219 #[.int .u64 y] W fun e w' => e = .returned (.int .i64 (s : Int)) /\ W = w') := fun W => by
   refine (Tryz.bits_LeadingZeros64 y W (by omega) (by unfold U at hy; omega)).mono ?_
   rintro e w' ⟨rfl, hw⟩
   refine ⟨?_, hw.symm⟩
   rw [show (y : Int).toNat = y by simp, <- hL, hs]
   congr 2
   omega
  have hsz : s ≤ 64 := by omega
  have D := divFacts hi lo y L s hhi h0 hlo hy hb hs hL2
  clear hL hs hb hL2
  obtain ⟨Y, y1, y0, a, z, b, u, t, u1, u0, q, v, r, hz, f36, f8, f9, f10, f46, f49, f50, f51, f54, f56, f58, f61, f65, f66, hq⟩ := D
  have HQ := HD hq
  clear hq
  have hy1 : ¬ (y1 : Int) = 0 := by have := HQ.out.1; omega
  have hL : DgL y1 y0 u u1 q r := by
   obtain ⟨a1, a2, a3, a4, a5, a6, a7, a8, a9, a10, a11⟩ := HQ.out
   exact ⟨a1, a2, a3, a6, by rw [<- a4]; exact a8, a10, a11⟩
  have HL := HD hL
  clear hL h0
  obtain ⟨V, hV⟩ : ∃ V, V = dgV y1 y0 u u1 := ⟨_, rfl⟩
  obtain ⟨n1, n2, n3, u2, Q, v2, r2, g1, g2, g3, g4, g5, g6, g7, hu2, HL2⟩ := dgMid (u := u) (d := u1) (d0 := u0) (Y := Y) (y0 := y0) (y1 := y1) HQ.out.1 HQ.out.2.1 HQ.out.2.2.1 HQ.out.2.2.2.2.2.1 HQ.out.2.2.2.2.2.2.1 HQ.out.2.2.2.1
  obtain ⟨V2, hV2⟩ : ∃ V2, V2 = dgV y1 y0 u2 u0 := ⟨_, rfl⟩
  have hYU : U Y := by
   obtain ⟨a1, a2, a3, a4, _⟩ := HQ.out
   unfold U
   omega
  obtain ⟨m1, m2, m3, m4, m5, l1, l2, l3, l4, l5, l6, l7⟩ := dgLast hhi hlo hy HQ.out.2.2.2.1 HQ.out.2.2.2.2.1 hYU hu2.out HQ.out.2.2.2.2.2.2.2.2.1
  rw [<- hV] at g3 l1
  rw [<- hV2] at l2 l5
  have HV := HD hV
  have HV2 := HD hV2
  have hfin : R (.returned (.tuple #[.int .u64 (divQ hi lo y), .int .u64 (divR hi lo y)])) w := by
   rw [hRh.out]
   exact ⟨rfl, Bl.refl _⟩
  clear hy hlo hV hV2 hYU HQ hu2
  go_enter Tryz.func199, Tryz.ntmps199
  go_wp2_with (go_at_call 219; refine (T219.out _).mono ?_; rintro e w' ⟨rfl, rfl⟩)
  clear T219
  go_loopg [15, 16] q (fun gg s15 s16 wr => ∃ q r : Nat, q ≤ gg /\ s15 = .int .u64 q /\ s16 = .int .u64 r /\ Aside (DgL y1 y0 u u1 q r) /\ Aside (w = wr))
  case atStart => exact ⟨q, r, Nat.le_refl _, rfl, rfl, asideD HL.out, asideD rfl⟩
  case round =>
   clear f61 f65 f66 HL
   obtain ⟨qa, ra, hqg, rfl, rfl, A, rfl⟩ := hrel
   rcases dgRound A.out with ⟨k1, k2, G⟩ | ⟨k1, k2, p, n, m, k3, k4, k5, ⟨k6, k7, G⟩ | ⟨k6, k7, E⟩⟩
   ·obtain ⟨q', r', k8, k9, k10, ⟨j1, j2, E⟩ | ⟨j1, j2, D⟩⟩ := G
    ·obtain rfl : q' = V := E.out.trans HV.out.symm
     clear E
     go_wp2_with fail
     go_loopg [18, 16] Q (fun gg s18 s16 wr => ∃ q r : Nat, q ≤ gg /\ s18 = .int .u64 q /\ s16 = .int .u64 r /\ Aside (DgL y1 y0 u2 u0 q r) /\ Aside (w = wr))
     case atStart => exact ⟨Q, r2, Nat.le_refl _, rfl, rfl, asideD HL2.out, asideD rfl⟩
     case round =>
      clear HL2 g5 g6 g7
      obtain ⟨qq, rr, hqg2, rfl, rfl, B, rfl⟩ := hrel
      rcases dgRound B.out with ⟨k1, k2, G⟩ | ⟨k1, k2, p, n, m, k3, k4, k5, ⟨k6, k7, G⟩ | ⟨k6, k7, E⟩⟩
      ·obtain ⟨q', r', k8, k9, k10, ⟨j1, j2, E⟩ | ⟨j1, j2, D⟩⟩ := G
       ·obtain rfl : q' = V2 := E.out.trans HV2.out.symm
        go_wp2_with fail
        first | exact hfin | exact bodyPost_ret (v := .tuple #[.int .u64 (divQ hi lo y), .int .u64 (divR hi lo y)]) (by simp [results, Tryz.results199, go_sem, *]; try exact ⟨rfl, rfl⟩) rfl hfin
       ·go_wp2_with fail
        go_roundg q'
        case measure => exact Nat.lt_of_lt_of_le k10.out hqg2
        case rel => exact ⟨q', r', Nat.le_refl _, rfl, rfl, asideD D.out, asideD rfl⟩
      ·obtain ⟨q', r', k8, k9, k10, ⟨j1, j2, E⟩ | ⟨j1, j2, D⟩⟩ := G
       ·obtain rfl : q' = V2 := E.out.trans HV2.out.symm
        go_wp2_with fail
        first | exact hfin | exact bodyPost_ret (v := .tuple #[.int .u64 (divQ hi lo y), .int .u64 (divR hi lo y)]) (by simp [results, Tryz.results199, go_sem, *]; try exact ⟨rfl, rfl⟩) rfl hfin
       ·go_wp2_with fail
        go_roundg q'
        case measure => exact Nat.lt_of_lt_of_le k10.out hqg2
        case rel => exact ⟨q', r', Nat.le_refl _, rfl, rfl, asideD D.out, asideD rfl⟩
      ·obtain rfl : qq = V2 := E.out.trans HV2.out.symm
       go_wp2_with fail
       first | exact hfin | exact bodyPost_ret (v := .tuple #[.int .u64 (divQ hi lo y), .int .u64 (divR hi lo y)]) (by simp [results, Tryz.results199, go_sem, *]; try exact ⟨rfl, rfl⟩) rfl hfin
    ·go_wp2_with fail
     go_roundg q'
     case measure => exact Nat.lt_of_lt_of_le k10.out hqg
     case rel => exact ⟨q', r', Nat.le_refl _, rfl, rfl, asideD D.out, asideD rfl⟩
   ·obtain ⟨q', r', k8, k9, k10, ⟨j1, j2, E⟩ | ⟨j1, j2, D⟩⟩ := G
    ·obtain rfl : q' = V := E.out.trans HV.out.symm
     clear E
     go_wp2_with fail
     go_loopg [18, 16] Q (fun gg s18 s16 wr => ∃ q r : Nat, q ≤ gg /\ s18 = .int .u64 q /\ s16 = .int .u64 r /\ Aside (DgL y1 y0 u2 u0 q r) /\ Aside (w = wr))
     case atStart => exact ⟨Q, r2, Nat.le_refl _, rfl, rfl, asideD HL2.out, asideD rfl⟩
     case round =>
      clear HL2 g5 g6 g7
      obtain ⟨qq, rr, hqg2, rfl, rfl, B, rfl⟩ := hrel
      rcases dgRound B.out with ⟨k1, k2, G⟩ | ⟨k1, k2, p, n, m, k3, k4, k5, ⟨k6, k7, G⟩ | ⟨k6, k7, E⟩⟩
      ·obtain ⟨q', r', k8, k9, k10, ⟨j1, j2, E⟩ | ⟨j1, j2, D⟩⟩ := G
       ·obtain rfl : q' = V2 := E.out.trans HV2.out.symm
        go_wp2_with fail
        first | exact hfin | exact bodyPost_ret (v := .tuple #[.int .u64 (divQ hi lo y), .int .u64 (divR hi lo y)]) (by simp [results, Tryz.results199, go_sem, *]; try exact ⟨rfl, rfl⟩) rfl hfin
       ·go_wp2_with fail
        go_roundg q'
        case measure => exact Nat.lt_of_lt_of_le k10.out hqg2
        case rel => exact ⟨q', r', Nat.le_refl _, rfl, rfl, asideD D.out, asideD rfl⟩
      ·obtain ⟨q', r', k8, k9, k10, ⟨j1, j2, E⟩ | ⟨j1, j2, D⟩⟩ := G
       ·obtain rfl : q' = V2 := E.out.trans HV2.out.symm
        go_wp2_with fail
        first | exact hfin | exact bodyPost_ret (v := .tuple #[.int .u64 (divQ hi lo y), .int .u64 (divR hi lo y)]) (by simp [results, Tryz.results199, go_sem, *]; try exact ⟨rfl, rfl⟩) rfl hfin
       ·go_wp2_with fail
        go_roundg q'
        case measure => exact Nat.lt_of_lt_of_le k10.out hqg2
        case rel => exact ⟨q', r', Nat.le_refl _, rfl, rfl, asideD D.out, asideD rfl⟩
      ·obtain rfl : qq = V2 := E.out.trans HV2.out.symm
       go_wp2_with fail
       first | exact hfin | exact bodyPost_ret (v := .tuple #[.int .u64 (divQ hi lo y), .int .u64 (divR hi lo y)]) (by simp [results, Tryz.results199, go_sem, *]; try exact ⟨rfl, rfl⟩) rfl hfin
    ·go_wp2_with fail
     go_roundg q'
     case measure => exact Nat.lt_of_lt_of_le k10.out hqg
     case rel => exact ⟨q', r', Nat.le_refl _, rfl, rfl, asideD D.out, asideD rfl⟩
   ·obtain rfl : qa = V := E.out.trans HV.out.symm
    clear E
    go_wp2_with fail
    go_loopg [18, 16] Q (fun gg s18 s16 wr => ∃ q r : Nat, q ≤ gg /\ s18 = .int .u64 q /\ s16 = .int .u64 r /\ Aside (DgL y1 y0 u2 u0 q r) /\ Aside (w = wr))
    case atStart => exact ⟨Q, r2, Nat.le_refl _, rfl, rfl, asideD HL2.out, asideD rfl⟩
    case round =>
     clear HL2 g5 g6 g7
     obtain ⟨qq, rr, hqg2, rfl, rfl, B, rfl⟩ := hrel
     rcases dgRound B.out with ⟨k1, k2, G⟩ | ⟨k1, k2, p, n, m, k3, k4, k5, ⟨k6, k7, G⟩ | ⟨k6, k7, E⟩⟩
     ·obtain ⟨q', r', k8, k9, k10, ⟨j1, j2, E⟩ | ⟨j1, j2, D⟩⟩ := G
      ·obtain rfl : q' = V2 := E.out.trans HV2.out.symm
       go_wp2_with fail
       first | exact hfin | exact bodyPost_ret (v := .tuple #[.int .u64 (divQ hi lo y), .int .u64 (divR hi lo y)]) (by simp [results, Tryz.results199, go_sem, *]; try exact ⟨rfl, rfl⟩) rfl hfin
      ·go_wp2_with fail
       go_roundg q'
       case measure => exact Nat.lt_of_lt_of_le k10.out hqg2
       case rel => exact ⟨q', r', Nat.le_refl _, rfl, rfl, asideD D.out, asideD rfl⟩
     ·obtain ⟨q', r', k8, k9, k10, ⟨j1, j2, E⟩ | ⟨j1, j2, D⟩⟩ := G
      ·obtain rfl : q' = V2 := E.out.trans HV2.out.symm
       go_wp2_with fail
       first | exact hfin | exact bodyPost_ret (v := .tuple #[.int .u64 (divQ hi lo y), .int .u64 (divR hi lo y)]) (by simp [results, Tryz.results199, go_sem, *]; try exact ⟨rfl, rfl⟩) rfl hfin
      ·go_wp2_with fail
       go_roundg q'
       case measure => exact Nat.lt_of_lt_of_le k10.out hqg2
       case rel => exact ⟨q', r', Nat.le_refl _, rfl, rfl, asideD D.out, asideD rfl⟩
     ·obtain rfl : qq = V2 := E.out.trans HV2.out.symm
      go_wp2_with fail
      first | exact hfin | exact bodyPost_ret (v := .tuple #[.int .u64 (divQ hi lo y), .int .u64 (divR hi lo y)]) (by simp [results, Tryz.results199, go_sem, *]; try exact ⟨rfl, rfl⟩) rfl hfin
theorem f139_c (a b : Int) (w : World) : Calls Tryz.prog 139 #[.int .i64 a, .int .i64 b] w (RWideE w) := by
 go_enter Tryz.func139, Tryz.ntmps139
 go_wp2_with fail
 refine (f165_c _ _ _).mono ?_
 rintro e w1 ⟨hi, lo, neg, h1, h2, rfl, hw⟩
 obtain ⟨hchw, hfhw, hzhw⟩ := Bl.rules hw; (try simp only [aZ, cZ, dZ, nZ] at hzhw)
 have hz_w1_0 : w.heap.size < w1.heap.size := by (have hsz := Bl.size hw; (try simp only [aZ, cZ, dZ, nZ] at hsz); omega)
 go_wp2_with fail
 refine (f167_c _ _ _ _).mono ?_
 rintro e w2 ⟨x, y, z, rfl, hw2⟩
 obtain ⟨hchw2, hfhw2, hzhw2⟩ := Bl.rules hw2; (try simp only [aZ, cZ, dZ, nZ] at hzhw2)
 go_wp2
 exact bodyPost_ret (v := .tuple #[.agg #[.int .i64 x, .int .i64 y], .int .i64 z]) (by simp [results, Tryz.results139, go_sem, *]) rfl ⟨_, _, _, rfl, bz⟩
theorem keepSet {w : World} {p q : Addr} {u v : Value} (h : w.cell? q = some v) (hne : q.block ≠ p.block) : (w.setCell p u).cell? q = some v :=
 (World.cell?_of_block (w := w) (w' := w.setCell p u) (Below.heap_setCell w p u q.block hne)).trans h
set_option maxHeartbeats 4000000 in
theorem f140_c (a b c d : Int) (w : World) : Calls Tryz.prog 140 #[.agg #[.int .i64 a, .int .i64 b], .agg #[.int .i64 c, .int .i64 d]] w (RWideE w) := by
 go_enter Tryz.func140, Tryz.ntmps140
 go_wp2_with fail
 refine (f168_c _ _ _).mono ?_
 rintro e w1 ⟨p, rfl, hw⟩
 obtain ⟨hchw, hfhw, hzhw⟩ := Bl.rules hw; (try simp only [aZ, cZ, dZ, nZ] at hzhw)
 have hz0 : w.heap.size < w1.heap.size := by omega
 have hz1 : w.heap.size + 1 < w1.heap.size := by omega
 have hz2 : w.heap.size + 2 < w1.heap.size := by omega
 cases p
 ·go_wp2
  exact bodyPost_ret (v := .tuple #[.agg #[.int .i64 0, .int .i64 0], .int .i64 1]) (by simp [results, Tryz.results140, go_sem, *]) rfl ⟨_, _, _, rfl, bz⟩
 ·go_wp2_with fail
  refine (f168_c _ _ _).mono ?_
  rintro e w2 ⟨p, rfl, hw2⟩
  obtain ⟨hchw2, hfhw2, hzhw2⟩ := Bl.rules hw2; (try simp only [aZ, cZ, dZ, nZ] at hzhw2)
  have hz0' : w.heap.size < w2.heap.size := by omega
  have hz1' : w.heap.size + 1 < w2.heap.size := by omega
  have hz2' : w.heap.size + 2 < w2.heap.size := by omega
  cases p
  ·go_wp2
   exact bodyPost_ret (v := .tuple #[.agg #[.int .i64 0, .int .i64 0], .int .i64 1]) (by simp [results, Tryz.results140, go_sem, *]) rfl ⟨_, _, _, rfl, bz⟩
  ·go_wp2_with fail
   have q0 : w2.cell? ⟨w.heap.size, 0, none⟩ = some (.int .i64 a) := by (rw [hchw2 _ _ (by omega), hchw _ _ (by simp; try omega)]; simp [go_sem])
   have q1 : w2.cell? ⟨w.heap.size, 1, none⟩ = some (.int .i64 b) := by (rw [hchw2 _ _ (by omega), hchw _ _ (by simp; try omega)]; simp [go_sem])
   have q2 : w2.cell? ⟨w.heap.size + 1, 0, none⟩ = some (.int .i64 c) := by (rw [hchw2 _ _ (by omega), hchw _ _ (by simp; try omega)]; simp [go_sem])
   have q3 : w2.cell? ⟨w.heap.size + 1, 1, none⟩ = some (.int .i64 d) := by (rw [hchw2 _ _ (by omega), hchw _ _ (by simp; try omega)]; simp [go_sem])
   have q4 : w2.cell? ⟨w.heap.size + 1 + 1, 0, none⟩ = some (.int .i64 0) := by (rw [hchw2 _ _ (by omega), hchw _ _ (by simp; try omega)]; simp [go_sem])
   have q5 : w2.cell? ⟨w.heap.size + 1 + 1, 1, none⟩ = some (.int .i64 0) := by (rw [hchw2 _ _ (by omega), hchw _ _ (by simp; try omega)]; simp [go_sem])
   have q6 : w2.frozen? ⟨w.heap.size + 1 + 1, 0, none⟩ = false := by (rw [hfhw2 _ _ (by omega), hfhw _ _ (by simp; try omega)]; simp [go_sem])
   have q7 : w2.frozen? ⟨w.heap.size + 1 + 1, 1, none⟩ = false := by (rw [hfhw2 _ _ (by omega), hfhw _ _ (by simp; try omega)]; simp [go_sem])
   have hB0 : Bl w w2 := Bl.trans (Bl.trans bz hw) hw2
   clear hw2 hchw2 hfhw2 hzhw2 hchw hfhw hzhw
   have hB := HD hw
   go_region_with (first
    | (go_at_call 170; refine (f170_c _ _ _).mono ?_; rintro e w' ⟨hi, lo, neg, rfl, hwv⟩; have k0 := Bl.keep (a := w2) (b := w') bz q0; have k1 := Bl.keep (a := w2) (b := w') bz q1; have k2 := Bl.keep (a := w2) (b := w') bz q2; have k3 := Bl.keep (a := w2) (b := w') bz q3; have k4 := Bl.keep (a := w2) (b := w') bz q4; have k5 := Bl.keep (a := w2) (b := w') bz q5; have k6 := Bl.keepF (a := w2) (b := w') bz q4 q6; have k7 := Bl.keepF (a := w2) (b := w') bz q5 q7)
    | (go_at_call 171; refine (f171_c _ _ _ _).mono ?_; rintro e w' ⟨neg, rfl, hwm⟩; have k0 := Bl.keep (a := w2) (b := w') bz q0; have k1 := Bl.keep (a := w2) (b := w') bz q1; have k2 := Bl.keep (a := w2) (b := w') bz q2; have k3 := Bl.keep (a := w2) (b := w') bz q3; have k4 := Bl.keep (a := w2) (b := w') bz q4; have k5 := Bl.keep (a := w2) (b := w') bz q5; have k6 := Bl.keepF (a := w2) (b := w') bz q4 q6; have k7 := Bl.keepF (a := w2) (b := w') bz q5 q7)
    | (go_at_call 169; refine (f169_c _ _ _ _ _ _ _).mono ?_; rintro e w' ⟨hi, lo, neg, rfl, hws⟩; have k0 := Bl.keep (a := w2) (b := w') bz q0; have k1 := Bl.keep (a := w2) (b := w') bz q1; have k2 := Bl.keep (a := w2) (b := w') bz q2; have k3 := Bl.keep (a := w2) (b := w') bz q3; have k4 := Bl.keep (a := w2) (b := w') bz q4; have k5 := Bl.keep (a := w2) (b := w') bz q5; have k6 := Bl.keepF (a := w2) (b := w') bz q4 q6; have k7 := Bl.keepF (a := w2) (b := w') bz q5 q7)
    | (go_at_call 167; refine (f167_c _ _ _ _).mono ?_; rintro e w' ⟨hi, lo, er, rfl, hwp⟩; have k0 := Bl.keep (a := w2) (b := w') bz q0; have k1 := Bl.keep (a := w2) (b := w') bz q1; have k2 := Bl.keep (a := w2) (b := w') bz q2; have k3 := Bl.keep (a := w2) (b := w') bz q3; have k4 := Bl.keep (a := w2) (b := w') bz q4; have k5 := Bl.keep (a := w2) (b := w') bz q5; have k6 := Bl.keepF (a := w2) (b := w') bz q4 q6; have k7 := Bl.keepF (a := w2) (b := w') bz q5 q7))
   all_goals go_wp2
   all_goals exact bodyPost_ret (v := .tuple #[.agg #[.int .i64 _, .int .i64 _], .int .i64 _]) (by simp [results, Tryz.results140, go_sem, *]; try exact ⟨⟨rfl, rfl⟩, rfl⟩) rfl ⟨_, _, _, rfl, bz⟩
theorem f141_c (a b : Int) (w : World) : Calls Tryz.prog 141 #[.agg #[.int .i64 a, .int .i64 b]] w (RIE w) := by
 go_enter Tryz.func141, Tryz.ntmps141
 go_wp2_with fail
 refine (f168_c _ _ _).mono ?_
 rintro e w1 ⟨p, rfl, hw⟩
 obtain ⟨hchw, hfhw, hzhw⟩ := Bl.rules hw; (try simp only [aZ, cZ, dZ, nZ] at hzhw)
 have hz_w1_0 : w.heap.size < w1.heap.size := by (have hsz := Bl.size hw; (try simp only [aZ, cZ, dZ, nZ] at hsz); omega)
 cases p
 ·go_wp2
  go_ret2
  exact ⟨_, _, rfl, bz⟩
 ·go_wp2_with fail
  refine (f170_c _ _ _).mono ?_
  rintro e w2 ⟨hi, lo, p, rfl, hw2⟩
  obtain ⟨hchw2, hfhw2, hzhw2⟩ := Bl.rules hw2; (try simp only [aZ, cZ, dZ, nZ] at hzhw2)
  go_wp2_with fail
  ·go_ret2
   exact ⟨_, _, rfl, bz⟩
  ·refine (f172_c _ _ _).mono ?_
   rintro e w3 ⟨q, x, rfl, hw3⟩
   obtain ⟨hchw3, hfhw3, hzhw3⟩ := Bl.rules hw3; (try simp only [aZ, cZ, dZ, nZ] at hzhw3)
   go_wp2
   go_ret2
   exact ⟨_, _, rfl, bz⟩
theorem f166_c (hi lo : Nat) (neg up : Bool) (b : Int) (h1 : U hi) (h2 : U lo) (w : World) : Calls Tryz.prog 166 #[.agg #[.int .u64 hi, .int .u64 lo, .bool neg], .int .i64 b, .bool up] w (RIE w) := by
 go_enter Tryz.func166, Tryz.ntmps166
 go_wp2_with fail
 refine (f201_c _ _).mono ?_
 rintro e w' ⟨d, hd, rfl, rfl⟩
 by_cases hlt : hi < d
 ·have hlt' : ¬ d ≤ hi := by omega
  go_wp2_with fail
  refine (f199_c _ _ _ hlt h2 hd _).mono ?_
  rintro e w' ⟨rfl, hwd⟩
  obtain ⟨hchwd, hfhwd, hzhwd⟩ := Bl.rules hwd; (try simp only [aZ, cZ, dZ, nZ] at hzhwd)
  generalize divQ hi lo d = q
  generalize divR hi lo d = r
  clear hlt hlt' hd h1 h2
  rcases Nat.eq_zero_or_pos r with h0 | h0
  ·subst h0
   cases neg <;> rcases Int.lt_or_le b 0 with hb | hb
   all_goals
    go_wp2_with fail
    refine (f172_c _ _ _).mono ?_
    rintro e w3 ⟨q, x, rfl, hw3⟩
    obtain ⟨hchw3, hfhw3, hzhw3⟩ := Bl.rules hw3; (try simp only [aZ, cZ, dZ, nZ] at hzhw3)
    go_wp2
    go_ret2
    exact ⟨_, _, rfl, bz⟩
  ·cases neg <;> cases up <;> rcases Int.lt_or_le b 0 with hb | hb
   all_goals
    go_wp2_with fail
   all_goals first
    | (go_ret2
       exact ⟨_, _, rfl, bz⟩)
    | (refine (f172_c _ _ _).mono ?_
       rintro e w3 ⟨q, x, rfl, hw3⟩
       obtain ⟨hchw3, hfhw3, hzhw3⟩ := Bl.rules hw3; (try simp only [aZ, cZ, dZ, nZ] at hzhw3)
       go_wp2
       go_ret2
       exact ⟨_, _, rfl, bz⟩)
 ·go_wp2_with fail
  go_ret2
  exact ⟨_, _, rfl, bz⟩
theorem f138_c (n num den : Int) (w : World) : Calls Tryz.prog 138 #[.int .i64 n, .int .i64 num, .int .i64 den] w fun e w' => ∃ a b x : Int, e = .returned (.tuple #[.int .i64 a, .int .i64 b, .int .i64 x]) /\ Bl w w' := by
 by_cases h0 : den = 0
 ·subst h0
  go_enter Tryz.func138, Tryz.ntmps138
  go_wp2_with fail
  go_ret3
  exact ⟨_, _, _, rfl, bz⟩
 ·have h0' : (den == 0) = false := by simpa using h0
  go_enter Tryz.func138, Tryz.ntmps138
  go_wp2_with fail
  refine (f165_c _ _ _).mono ?_
  rintro e w1 ⟨hi, lo, neg, h1, h2, rfl, hw⟩
  obtain ⟨hchw, hfhw, hzhw⟩ := Bl.rules hw; (try simp only [aZ, cZ, dZ, nZ] at hzhw)
  go_wp2_with fail
  refine (f166_c _ _ _ _ _ h1 h2 _).mono ?_
  rintro e w2 ⟨q, x, rfl, hw2⟩
  obtain ⟨hchw2, hfhw2, hzhw2⟩ := Bl.rules hw2; (try simp only [aZ, cZ, dZ, nZ] at hzhw2)
  go_wp2_with fail
  ·go_ret3
   exact ⟨_, _, _, rfl, bz⟩
  ·refine (f166_c _ _ _ _ _ h1 h2 _).mono ?_
   rintro e w3 ⟨q, x, rfl, hw3⟩
   obtain ⟨hchw3, hfhw3, hzhw3⟩ := Bl.rules hw3; (try simp only [aZ, cZ, dZ, nZ] at hzhw3)
   go_wp2_with fail
   all_goals go_ret3
   all_goals exact ⟨_, _, _, rfl, bz⟩
def R128 (w : World) (e : Ending) (w' : World) : Prop := ∃ hi lo : Nat, U hi /\ U lo /\ e = .returned (.agg #[.int .u64 hi, .int .u64 lo]) /\ Bl w w'
theorem divQ_U {hi lo y : Nat} (h : hi < y) (hl : U lo) : U (divQ hi lo y) := by
 unfold U divQ at *
 rw [Nat.div_lt_iff_lt_mul (by omega)]
 have : (hi + 1) * 18446744073709551616 ≤ y * 18446744073709551616 := Nat.mul_le_mul_right _ h
 rw [Nat.mul_comm 18446744073709551616 y]
 omega
theorem wrap_pos63 (r : Nat) (h : Aside (r < 2 ^ 63)) : 0 ≤ wrap64 (r : Int) := by
 have := h.out
 unfold wrap64
 omega
theorem wrapU_of (x : Nat) (h : U x) : IntKind.u64.wrap (x : Int) = (x : Int) := by
 unfold U at h
 unfold IntKind.wrap; simp [IntKind.bits, IntKind.signed]; try omega
theorem half_pow (bit j : Nat) (h : bit = 2 ^ j) : bit / 2 = 0 \/ ∃ i, i < j /\ bit / 2 = 2 ^ i := by
 cases j with
 | zero => left; rw [h]
 | succ j => right; exact ⟨j, by omega, by rw [h, Nat.pow_succ, Nat.mul_div_cancel _ (by decide)]⟩
theorem f184_c (a b : Int) (w : World) : Calls Tryz.prog 184 #[.int .i64 a, .int .i64 b] w (R128 w) := by
 obtain ⟨k1, hk1, e1⟩ := U_wrap a
 obtain ⟨k2, hk2, e2⟩ := U_wrap b
 go_enter Tryz.func184, Tryz.ntmps184
 go_wp2_with fail
 refine (Tryz.bits_Mul64 _ _ hk1 hk2 _).mono ?_
 rintro e w1 ⟨rfl, hw⟩
 subst hw
 have g1 : U (k1 * k2 / 18446744073709551616) := mul_hi_U hk1 hk2
 have g2 : U (k1 * k2 % 18446744073709551616) := Nat.mod_lt _ (by omega)
 generalize k1 * k2 / 18446744073709551616 = hi at g1
 generalize k1 * k2 % 18446744073709551616 = lo at g2
 go_wp2
 exact bodyPost_ret (v := .agg #[.int .u64 hi, .int .u64 lo]) (by simp [results, Tryz.results184, go_sem, *]) rfl ⟨hi, lo, g1, g2, rfl, bz⟩
theorem f185_c (xh xl : Nat) (n : Int) (h1 : U xh) (h2 : U xl) (w : World) : Calls Tryz.prog 185 #[.agg #[.int .u64 xh, .int .u64 xl], .int .i64 n] w (R128 w) := by
 obtain ⟨k1, hk1, e1⟩ := U_wrap n
 go_enter Tryz.func185, Tryz.ntmps185
 go_wp2_with fail
 refine (Tryz.bits_Mul64 _ _ h2 hk1 _).mono ?_
 rintro e w1 ⟨rfl, hw⟩
 subst hw
 have g2 : U (xl * k1 % 18446744073709551616) := Nat.mod_lt _ (by omega)
 generalize xl * k1 / 18446744073709551616 = hi
 generalize xl * k1 % 18446744073709551616 = lo at g2
 go_wp2
 obtain ⟨k3, hk3, e3⟩ := U_wrap ((hi : Int) + IntKind.u64.wrap ((xh : Int) * k1))
 exact bodyPost_ret (v := .agg #[.int .u64 k3, .int .u64 lo]) (by simp [results, Tryz.results185, go_sem]; exact e3) rfl ⟨k3, lo, hk3, g2, rfl, bz⟩
theorem f186_c (xh xl : Nat) (n : Int) (h1 : U xh) (h2 : U xl) (hn : 1 ≤ n) (hn2 : n ≤ 1073741824) (w : World) : Calls Tryz.prog 186 #[.agg #[.int .u64 xh, .int .u64 xl], .int .i64 n] w (R128 w) := by
 obtain ⟨k, rfl⟩ := Int.eq_ofNat_of_zero_le (show 0 ≤ n by omega)
 have e1 : IntKind.u64.wrap (k : Int) = (k : Int) := by unfold IntKind.wrap; simp [IntKind.bits, IntKind.signed]; omega
 have hk : U k := by unfold U; omega
 have hk0 : ((k : Int) == 0) = false := by simp; omega
 have hk1 : ¬ ((k : Int) = 0) := by omega
 have hk2 : ¬ (k = 0) := by omega
 go_enter Tryz.func186, Tryz.ntmps186
 go_wp2_with fail
 go_quiet (fail)
 go_wp2_with fail
 rw [show ((xh : Int) % (k : Int)) = ((xh % k : Nat) : Int) from rfl]
 refine (f199_c (xh % k) xl k (Nat.mod_lt _ (by omega)) h2 hk _).mono ?_
 rintro e w9 ⟨rfl, hwd⟩
 obtain ⟨hchwd, hfhwd, hzhwd⟩ := Bl.rules hwd; (try simp only [aZ, cZ, dZ, nZ] at hzhwd)
 have hz1 : w.heap.size + 1 < w9.heap.size := by omega
 have hq : U (divQ (xh % k) xl k) := divQ_U (Nat.mod_lt _ (by omega)) h2
 have hh : U (xh / k) := Nat.lt_of_le_of_lt (Nat.div_le_self _ _) h1
 generalize divQ (xh % k) xl k = q at hq
 generalize divR (xh % k) xl k = q2
 have e3 := wrapU_of _ hh
 go_wp2
 exact bodyPost_ret (v := .agg #[.int .u64 ((xh / k : Nat) : Int), .int .u64 q]) (by simp [results, Tryz.results186, go_sem, *]; exact e3) rfl ⟨_, q, hh, hq, rfl, bz⟩
set_option maxHeartbeats 1000000 in
theorem f187_c (xh xl : Nat) (w : World) : Calls Tryz.prog 187 #[.agg #[.int .u64 xh, .int .u64 xl]] w fun e w' => ∃ q : Int, 0 ≤ q /\ e = .returned (.int .i64 q) /\ Bl w w' := by
 go_enter Tryz.func187, Tryz.ntmps187
 go_wp2_with fail
 go_loopg [3, 4] 63 (fun gg s3 s4 wr => ∃ (r : Nat) (bit : Nat), Aside (r < 2 ^ 63) /\ (bit = 0 \/ ∃ j, j < 63 /\ j < gg /\ Aside (bit = 2 ^ j)) /\ s3 = .int .u64 r /\ s4 = .int .u64 bit /\ Aside (Bl w wr) /\ Aside (wr.cell? ⟨w.heap.size, 0, none⟩ = some (.int .u64 xh)) /\ Aside (wr.cell? ⟨w.heap.size, 1, none⟩ = some (.int .u64 xl)))
 case atStart => exact ⟨0, 4611686018427387904, by show (0 : Nat) < 2 ^ 63; decide, .inr ⟨62, by omega, by omega, by show _ = _; decide⟩, rfl, rfl, bz, (by show _ = _; simp [go_sem]), (by show _ = _; simp [go_sem])⟩
 case round =>
  obtain ⟨r, bit, hr, hb, rfl, rfl, BW, C0, C1⟩ := hrel
  rcases hb with rfl | ⟨j, hj, hjg, HB⟩
  ·go_wp2_with fail
   go_ret
   exact ⟨_, wrap_pos63 r hr, rfl, BW.out⟩
  ·have hbp : 0 < bit := by rw [HB.out]; exact Nat.two_pow_pos j
   have hbz : (0 : Int) < (bit : Int) := by omega
   have hbl : bit < 2 ^ 63 := by rw [HB.out]; exact Nat.pow_lt_pow_right (by decide) hj
   have hor : (r ||| bit) < 2 ^ 63 := Nat.or_lt_two_pow hr hbl
   have HO : Aside ((r ||| bit) < 2 ^ 63) := hor
   have hU : U (r ||| bit) := by unfold U; have : (2 : Nat) ^ 63 < 18446744073709551616 := by decide
                                 omega
   have eor : bits .or .u64 (r : Int) (bit : Int) = ((r ||| bit : Nat) : Int) := bits_or_u64_nat r bit (by have := hr.out; omega) (by omega)
   clear hbl hor
   have hsize := BW.out.size
   have c0 : wr.cell? ⟨w.heap.size, 0, none⟩ = some (.int .u64 xh) := C0.out
   have c1 : wr.cell? ⟨w.heap.size, 1, none⟩ = some (.int .u64 xl) := C1.out
   generalize (r ||| bit) = ro at eor hU HO
   go_wp2_with fail
   refine (Tryz.bits_Mul64 _ _ hU hU _).mono ?_
   rintro e w1 ⟨rfl, hw⟩
   subst hw
   generalize ro * ro / 18446744073709551616 = mh
   generalize ro * ro % 18446744073709551616 = ml
   go_wp2_with fail
   all_goals
    rcases half_pow bit j HB.out with h2 | ⟨i, hi, h2⟩
    ·go_roundg j
     case measure => omega
     case rel => first | exact ⟨ro, bit / 2, HO, .inl h2, rfl, rfl, BW, C0, C1⟩ | exact ⟨r, bit / 2, hr, .inl h2, rfl, rfl, BW, C0, C1⟩
    ·go_roundg j
     case measure => omega
     case rel => first | exact ⟨ro, bit / 2, HO, .inr ⟨i, by omega, by omega, h2⟩, rfl, rfl, BW, C0, C1⟩ | exact ⟨r, bit / 2, hr, .inr ⟨i, by omega, by omega, h2⟩, rfl, rfl, BW, C0, C1⟩
theorem f237_c (a b : Int) (w : World) : Calls Tryz.prog 237 #[.int .i64 a, .int .i64 b] w (R128 w) := by
 obtain ⟨k1, hk1, e1⟩ := U_wrap a
 obtain ⟨k2, hk2, e2⟩ := U_wrap b
 go_enter Tryz.func237, Tryz.ntmps237
 go_wp2_with fail
 refine (Tryz.bits_Mul64 _ _ hk1 hk2 _).mono ?_
 rintro e w1 ⟨rfl, hw⟩
 subst hw
 have g1 : U (k1 * k2 / 18446744073709551616) := mul_hi_U hk1 hk2
 have g2 : U (k1 * k2 % 18446744073709551616) := Nat.mod_lt _ (by omega)
 generalize k1 * k2 / 18446744073709551616 = hi at g1
 generalize k1 * k2 % 18446744073709551616 = lo at g2
 go_wp2
 exact bodyPost_ret (v := .agg #[.int .u64 hi, .int .u64 lo]) (by simp [results, Tryz.results237, go_sem, *]) rfl ⟨hi, lo, g1, g2, rfl, bz⟩
theorem f238_c (xh xl : Nat) (n : Int) (h1 : U xh) (h2 : U xl) (w : World) : Calls Tryz.prog 238 #[.agg #[.int .u64 xh, .int .u64 xl], .int .i64 n] w (R128 w) := by
 obtain ⟨k1, hk1, e1⟩ := U_wrap n
 go_enter Tryz.func238, Tryz.ntmps238
 go_wp2_with fail
 refine (Tryz.bits_Mul64 _ _ h2 hk1 _).mono ?_
 rintro e w1 ⟨rfl, hw⟩
 subst hw
 have g2 : U (xl * k1 % 18446744073709551616) := Nat.mod_lt _ (by omega)
 generalize xl * k1 / 18446744073709551616 = hi
 generalize xl * k1 % 18446744073709551616 = lo at g2
 go_wp2
 obtain ⟨k3, hk3, e3⟩ := U_wrap ((hi : Int) + IntKind.u64.wrap ((xh : Int) * k1))
 exact bodyPost_ret (v := .agg #[.int .u64 k3, .int .u64 lo]) (by simp [results, Tryz.results238, go_sem]; exact e3) rfl ⟨k3, lo, hk3, g2, rfl, bz⟩
theorem f239_c (xh xl : Nat) (n : Int) (h1 : U xh) (h2 : U xl) (hn : 1 ≤ n) (hn2 : n ≤ 1073741824) (w : World) : Calls Tryz.prog 239 #[.agg #[.int .u64 xh, .int .u64 xl], .int .i64 n] w (R128 w) := by
 obtain ⟨k, rfl⟩ := Int.eq_ofNat_of_zero_le (show 0 ≤ n by omega)
 have e1 : IntKind.u64.wrap (k : Int) = (k : Int) := by unfold IntKind.wrap; simp [IntKind.bits, IntKind.signed]; omega
 have hk : U k := by unfold U; omega
 have hk0 : ((k : Int) == 0) = false := by simp; omega
 have hk1 : ¬ ((k : Int) = 0) := by omega
 have hk2 : ¬ (k = 0) := by omega
 go_enter Tryz.func239, Tryz.ntmps239
 go_wp2_with fail
 go_quiet (fail)
 go_wp2_with fail
 rw [show ((xh : Int) % (k : Int)) = ((xh % k : Nat) : Int) from rfl]
 refine (f199_c (xh % k) xl k (Nat.mod_lt _ (by omega)) h2 hk _).mono ?_
 rintro e w9 ⟨rfl, hwd⟩
 obtain ⟨hchwd, hfhwd, hzhwd⟩ := Bl.rules hwd; (try simp only [aZ, cZ, dZ, nZ] at hzhwd)
 have hz1 : w.heap.size + 1 < w9.heap.size := by omega
 have hq : U (divQ (xh % k) xl k) := divQ_U (Nat.mod_lt _ (by omega)) h2
 have hh : U (xh / k) := Nat.lt_of_le_of_lt (Nat.div_le_self _ _) h1
 generalize divQ (xh % k) xl k = q at hq
 generalize divR (xh % k) xl k = q2
 have e3 := wrapU_of _ hh
 go_wp2
 exact bodyPost_ret (v := .agg #[.int .u64 ((xh / k : Nat) : Int), .int .u64 q]) (by simp [results, Tryz.results239, go_sem, *]; exact e3) rfl ⟨_, q, hh, hq, rfl, bz⟩
set_option maxHeartbeats 1000000 in
theorem f240_c (xh xl : Nat) (w : World) : Calls Tryz.prog 240 #[.agg #[.int .u64 xh, .int .u64 xl]] w fun e w' => ∃ q : Int, 0 ≤ q /\ e = .returned (.int .i64 q) /\ Bl w w' := by
 go_enter Tryz.func240, Tryz.ntmps240
 go_wp2_with fail
 go_loopg [3, 4] 63 (fun gg s3 s4 wr => ∃ (r : Nat) (bit : Nat), Aside (r < 2 ^ 63) /\ (bit = 0 \/ ∃ j, j < 63 /\ j < gg /\ Aside (bit = 2 ^ j)) /\ s3 = .int .u64 r /\ s4 = .int .u64 bit /\ Aside (Bl w wr) /\ Aside (wr.cell? ⟨w.heap.size, 0, none⟩ = some (.int .u64 xh)) /\ Aside (wr.cell? ⟨w.heap.size, 1, none⟩ = some (.int .u64 xl)))
 case atStart => exact ⟨0, 4611686018427387904, by show (0 : Nat) < 2 ^ 63; decide, .inr ⟨62, by omega, by omega, by show _ = _; decide⟩, rfl, rfl, bz, (by show _ = _; simp [go_sem]), (by show _ = _; simp [go_sem])⟩
 case round =>
  obtain ⟨r, bit, hr, hb, rfl, rfl, BW, C0, C1⟩ := hrel
  rcases hb with rfl | ⟨j, hj, hjg, HB⟩
  ·go_wp2_with fail
   go_ret
   exact ⟨_, wrap_pos63 r hr, rfl, BW.out⟩
  ·have hbp : 0 < bit := by rw [HB.out]; exact Nat.two_pow_pos j
   have hbz : (0 : Int) < (bit : Int) := by omega
   have hbl : bit < 2 ^ 63 := by rw [HB.out]; exact Nat.pow_lt_pow_right (by decide) hj
   have hor : (r ||| bit) < 2 ^ 63 := Nat.or_lt_two_pow hr hbl
   have HO : Aside ((r ||| bit) < 2 ^ 63) := hor
   have hU : U (r ||| bit) := by unfold U; have : (2 : Nat) ^ 63 < 18446744073709551616 := by decide
                                 omega
   have eor : bits .or .u64 (r : Int) (bit : Int) = ((r ||| bit : Nat) : Int) := bits_or_u64_nat r bit (by have := hr.out; omega) (by omega)
   clear hbl hor
   have hsize := BW.out.size
   have c0 : wr.cell? ⟨w.heap.size, 0, none⟩ = some (.int .u64 xh) := C0.out
   have c1 : wr.cell? ⟨w.heap.size, 1, none⟩ = some (.int .u64 xl) := C1.out
   generalize (r ||| bit) = ro at eor hU HO
   go_wp2_with fail
   refine (Tryz.bits_Mul64 _ _ hU hU _).mono ?_
   rintro e w1 ⟨rfl, hw⟩
   subst hw
   generalize ro * ro / 18446744073709551616 = mh
   generalize ro * ro % 18446744073709551616 = ml
   go_wp2_with fail
   all_goals
    rcases half_pow bit j HB.out with h2 | ⟨i, hi, h2⟩
    ·go_roundg j
     case measure => omega
     case rel => first | exact ⟨ro, bit / 2, HO, .inl h2, rfl, rfl, BW, C0, C1⟩ | exact ⟨r, bit / 2, hr, .inl h2, rfl, rfl, BW, C0, C1⟩
    ·go_roundg j
     case measure => omega
     case rel => first | exact ⟨ro, bit / 2, HO, .inr ⟨i, by omega, by omega, h2⟩, rfl, rfl, BW, C0, C1⟩ | exact ⟨r, bit / 2, hr, .inr ⟨i, by omega, by omega, h2⟩, rfl, rfl, BW, C0, C1⟩
structure Later (w : World) where
 at' : World
 bl : Bl w at'
instance (w : World) : Nonempty (Later w) := ⟨⟨w, Bl.refl w⟩⟩
theorem Calls.later {P : Program} {f : FuncId} {args : Array Value} {w : World} {x : Later w} {v : Value}
 (h : Calls P f args x.at' fun e w' => e = .returned v /\ Bl x.at' w') : Calls P f args x.at' fun e w'' => e = .returned v /\ ∃ y : Later w, w'' = y.at' :=
 h.mono fun _ w' ⟨he, hb⟩ => ⟨he, ⟨w', x.bl.trans hb⟩, rfl⟩
theorem Calls.later_same {P : Program} {f : FuncId} {args : Array Value} {w : World} {x : Later w} {v : Value}
 (h : Calls P f args x.at' fun e w' => e = .returned v /\ x.at' = w') : Calls P f args x.at' fun e w'' => e = .returned v /\ ∃ y : Later w, w'' = y.at' :=
 h.mono fun _ _ ⟨he, hb⟩ => ⟨he, x, hb.symm⟩
theorem Later.keep {w : World} (x : Later w) {p : Addr} {v : Value} (h : w.cell? p = some v) : x.at'.cell? p = some v := (x.bl.cell (cell_lt h)).trans h
theorem Later.cell {w : World} (x : Later w) (b o : Nat) (h : b < w.heap.size) : x.at'.cell? ⟨b, o, none⟩ = w.cell? ⟨b, o, none⟩ := x.bl.cell (p := ⟨b, o, none⟩) h
theorem wp_region_later {P : Program} {id : Nat} {Q : Exit -> Act -> World -> Prop} {a : Act} {w : World} {l : List Oper} (hm : P.follows .mixedOrders = true) (hB : Region.lexB .any l.toArray = true)
 (h : wpQuiet P l.toArray (fun W => ∃ x : Later w, W = x.at') (fun a' => ∀ W, Bl w W -> Q .normal a' W) l a) : (Code.region id l.toArray true).wp P Q a w :=
 wp_region_quiet (C := fun W => ∃ x : Later w, W = x.at') hm hB ⟨⟨w.drew, (Bl.refl w).drew⟩, rfl⟩ (by
  have : (fun a' => ∀ W, (∃ x : Later w, W = x.at') -> Q .normal a' W) = (fun a' => ∀ W, Bl w W -> Q .normal a' W) := by
   funext a'
   exact propext ⟨fun h W hW => h W ⟨⟨W, hW⟩, rfl⟩, fun h W ⟨x, hx⟩ => hx ▸ h _ x.bl⟩
  rw [this]
  simpa using h)
end Go.Proofs.YtnnhnkpoekbahaaGreat
