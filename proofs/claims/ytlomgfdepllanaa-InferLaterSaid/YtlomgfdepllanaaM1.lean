/-
  Parts Bv1, Bv2, Bv3, Bv4, Bv5, Bv6, Bv7, Bv8, Bv9, one behind the other: a program logic of our own, contracts of functions.
-/
import Derived.RangeFuncLeaves
import Derived.RangeFuncCalls
import Derived.Maps.AppendAt
import Derived.Below
import Derived.ScopeJumps
import Derived.Laws.Cells
import Derived.Laws.Tables
import Derived.Laws.CopyRow
import Derived.Laws.Rows
import Derived.Laws.Slices
import Derived.Laws.OwnMore
import Derived.Laws.MakeOwn
import Derived.Laws.Entries
import Derived.Laws.Small
section
/-
  A program logic over the kit's rules: calls by value, locals by reference. PART 1: abstract values, how they stand for the machine's, and what changes keep that.
-/
set_option linter.unusedVariables false
namespace Go.Bv
open Go.RowKit

/-- An abstract value. `sl`: a slice that is only read, by value (the cells of its elements one behind the other; nil, if it has no element, or not). `ref`: a slice into a row of the call's own. `ptr`: an address there. `rp`: an address of cells that are only read. -/
inductive V where
  | any
  | int (k : IntKind) (n : Int)
  | bool (b : Bool)
  | str (s : ByteArray)
  | nil
  | sl (n : Nat) (cs : List V)
  | ref (r off n : Nat)
  | agg (cs : List V)
  | tup (vs : List V)
  | ptr (r off : Nat)
  | nilp
  | rp (cs : List V) (off : Nat)
  | fn (f : Fn) (first caps : List V)
  | nilf
  deriving Inhabited

/-- A row of the call's own: the type of its elements, how many cells each has, the cells. -/
structure Row where
  e : TypeId
  s : Nat
  cs : List V

abbrev Heap := List (Option Row)

/-- Where a row lies: nowhere yet; it has been given up; it has no block (an empty slice that is nil); in a block, with its capacity. -/
inductive Place where
  | no | dead | virt
  | at (b cap : Nat)

def nth : List V → Nat → V
  | [], _ => .any
  | a :: _, 0 => a
  | _ :: l, n + 1 => nth l n

def upd : List V → Nat → V → List V
  | [], _, _ => []
  | _ :: l, 0, v => v :: l
  | a :: l, n + 1, v => a :: upd l n v

theorem upd_length (l : List V) (i : Nat) (v : V) : (upd l i v).length = l.length := by
  induction l generalizing i with
  | nil => rfl
  | cons a l ih => cases i <;> simp [upd, ih]
theorem nth_upd (l : List V) (i : Nat) (v : V) (j : Nat) : nth (upd l i v) j = if j = i ∧ i < l.length then v else nth l j := by
  induction l generalizing i j with
  | nil => simp [upd, nth]
  | cons a l ih =>
    cases i with
    | zero => cases j <;> simp [upd, nth]
    | succ i => cases j <;> simp [upd, nth, ih]
theorem nth_getD (l : List V) (i : Nat) : nth l i = l.getD i .any := by
  induction l generalizing i with
  | nil => simp [nth]
  | cons a l ih => cases i <;> simp [nth, ih]
theorem nth_append (l m : List V) (i : Nat) : nth (l ++ m) i = if i < l.length then nth l i else nth m (i - l.length) := by
  induction l generalizing i with
  | nil => simp
  | cons a l ih => cases i with
    | zero => simp [nth]
    | succ i => simp only [List.cons_append, nth, ih, List.length_cons]; by_cases h : i < l.length <;> simp [h]
theorem nth_ge (l : List V) (i : Nat) (h : l.length ≤ i) : nth l i = .any := by
  rw [nth_getD]; simp [List.getD, List.getElem?_eq_none h]

inductive VR (im : Nat → Prop) (pl : Nat → Place) (w : World) : V → Value → Prop
  | any (v : Value) : VR im pl w .any v
  | int (k : IntKind) (n : Int) : VR im pl w (.int k n) (.int k n)
  | bool (b : Bool) : VR im pl w (.bool b) (.bool b)
  | str (s : ByteArray) : VR im pl w (.str s) (.string s)
  | nil : VR im pl w .nil (.slice none 0 0)
  | sl0 (cs : List V) (a : Option Addr) (c : Nat) : VR im pl w (.sl 0 cs) (.slice a 0 c)
  | sl (n : Nat) (cs : List V) (ad : Addr) (c : Nat) (vs : Nat → Value) (hn : n ≤ c) (hi : im ad.block)
      (hc : ∀ j, j < cs.length → w.cell? (ad.add j) = some (vs j)) (hr : ∀ j, VR im pl w (nth cs j) (vs j)) : VR im pl w (.sl n cs) (.slice (some ad) n c)
  | refAt (r off n b cap c : Nat) (hp : pl r = .at b cap) (hc : n ≤ c) (h0 : off = 0 → c = cap) : VR im pl w (.ref r off n) (.slice (some ⟨b, off, none⟩) n c)
  | refVirt (r : Nat) (hp : pl r = .virt) : VR im pl w (.ref r 0 0) (.slice none 0 0)
  | refDead (r off n : Nat) (a : Option Addr) (c : Nat) (hp : pl r = .dead) : VR im pl w (.ref r off n) (.slice a n c)
  | agg (cs : List V) (vs : List Value) (hl : cs.length = vs.length) (hr : ∀ j, VR im pl w (nth cs j) (vs.getD j undef)) : VR im pl w (.agg cs) (.agg vs.toArray)
  | tup (cs : List V) (vs : List Value) (hl : cs.length = vs.length) (hr : ∀ j, VR im pl w (nth cs j) (vs.getD j undef)) : VR im pl w (.tup cs) (.tuple vs.toArray)
  | ptrAt (r off b cap : Nat) (hp : pl r = .at b cap) : VR im pl w (.ptr r off) (.pointer (some ⟨b, off, none⟩))
  | ptrDead (r off : Nat) (a : Addr) (hp : pl r = .dead) : VR im pl w (.ptr r off) (.pointer (some a))
  | nilp : VR im pl w .nilp (.pointer none)
  | rp (cs : List V) (off : Nat) (ad : Addr) (vs : Nat → Value) (hi : im ad.block)
      (hc : ∀ j, j < cs.length → w.cell? (ad.add j) = some (vs j)) (hr : ∀ j, VR im pl w (nth cs j) (vs j)) : VR im pl w (.rp cs off) (.pointer (some (ad.add off)))
  | fn (f : Fn) (xs ys : List V) (us vs : List Value) (hl : xs.length = us.length) (hr : ∀ j, VR im pl w (nth xs j) (us.getD j undef))
      (hl' : ys.length = vs.length) (hr' : ∀ j, VR im pl w (nth ys j) (vs.getD j undef)) : VR im pl w (.fn f xs ys) (.func f us.toArray vs.toArray)
  | nilf : VR im pl w .nilf .nilFunc

/-- What a change leaves: new blocks; of the old ones only those of live rows are turned. -/
structure Ext (im : Nat → Prop) (pl : Nat → Place) (w : World) (im' : Nat → Prop) (pl' : Nat → Place) (w' : World) : Prop where
  os : w'.os = w.os
  tape : w'.tape = w.tape
  output : w'.output = w.output
  size : w.heap.size ≤ w'.heap.size
  imm : ∀ b, im b → im' b
  imn : ∀ b, im' b → im b ∨ w.heap.size ≤ b ∨ ∃ r cap, pl r = .at b cap
  plo : ∀ r, pl r ≠ .no → pl' r = pl r ∨ pl' r = .dead
  pln : ∀ r b cap, pl' r = .at b cap → (∃ r' cap', pl r' = .at b cap') ∨ w.heap.size ≤ b
  frame : ∀ b, b < w.heap.size → (∀ r cap, pl r ≠ .at b cap) → w'.heap[b]? = w.heap[b]?

theorem Ext.refl (im : Nat → Prop) (pl : Nat → Place) (w : World) : Ext im pl w im pl w :=
  ⟨rfl, rfl, rfl, Nat.le_refl _, fun _ h => h, fun _ h => .inl h, fun _ _ => .inl rfl, fun r b cap h => .inl ⟨r, cap, h⟩, fun _ _ _ => rfl⟩

theorem Ext.trans {im im1 im2 : Nat → Prop} {pl pl1 pl2 : Nat → Place} {w w1 w2 : World} (h : Ext im pl w im1 pl1 w1) (k : Ext im1 pl1 w1 im2 pl2 w2) : Ext im pl w im2 pl2 w2 := by
  refine ⟨k.os.trans h.os, k.tape.trans h.tape, k.output.trans h.output, Nat.le_trans h.size k.size, fun b hb => k.imm b (h.imm b hb), fun b hb => ?_, fun r hr => ?_, fun r b cap hb => ?_, fun b hb hn => ?_⟩
  · rcases k.imn b hb with h1 | h1 | ⟨r, cap, h1⟩
    · exact h.imn b h1
    · exact .inr (.inl (Nat.le_trans h.size h1))
    · rcases h.pln r b cap h1 with ⟨r', cap', h2⟩ | h2
      · exact .inr (.inr ⟨r', cap', h2⟩)
      · exact .inr (.inl h2)
  · rcases h.plo r hr with h1 | h1
    · have h1' : pl1 r ≠ .no := by rw [h1]; exact hr
      rcases k.plo r h1' with h2 | h2
      · exact .inl (h2.trans h1)
      · exact .inr h2
    · have h1' : pl1 r ≠ .no := by rw [h1]; simp
      rcases k.plo r h1' with h2 | h2
      · exact .inr (h2.trans h1)
      · exact .inr h2
  · rcases k.pln r b cap hb with ⟨r', cap', h1⟩ | h1
    · exact h.pln r' b cap' h1
    · exact .inr (Nat.le_trans h.size h1)
  · rw [k.frame b (Nat.lt_of_lt_of_le hb h.size) (fun r cap hr => ?_), h.frame b hb hn]
    rcases h.pln r b cap hr with ⟨r', cap', h1⟩ | h1
    · exact hn r' cap' h1
    · omega

/-- What is only read lies in no live row. -/
def Apart (im : Nat → Prop) (pl : Nat → Place) : Prop := ∀ b, im b → ∀ r cap, pl r ≠ .at b cap

theorem cell_keep {w w' : World} {a : Addr} {v : Value} (h : w.cell? a = some v) (hb : a.block < w.heap.size → w'.heap[a.block]? = w.heap[a.block]?) : w'.cell? a = some v := by
  rw [World.cell?_of_block (w := w) (hb (World.block_lt_of_cell? w a h))]; exact h

theorem add_block (a : Addr) (n : Nat) : (a.add n).block = a.block := by unfold Addr.add; split <;> rfl
theorem add_add (a : Addr) (i j : Nat) : (a.add i).add j = a.add (i + j) := by
  unfold Addr.add
  by_cases h1 : i = 0 <;> by_cases h2 : j = 0 <;> simp [h1, h2, Nat.add_assoc]

theorem VR.mono {im im' : Nat → Prop} {pl pl' : Nat → Place} {w w' : World} (hE : Ext im pl w im' pl' w') (hd : Apart im pl) {v : V} {c : Value} (h : VR im pl w v c) : VR im' pl' w' v c := by
  have hcell : ∀ {ad : Addr} {n : Nat} {vs : Nat → Value}, im ad.block → (∀ j, j < n → w.cell? (ad.add j) = some (vs j)) → ∀ j, j < n → w'.cell? (ad.add j) = some (vs j) := by
    intro ad n vs hi hc j hj
    refine cell_keep (hc j hj) fun hb => hE.frame _ hb ?_
    rw [add_block]; exact hd _ hi
  induction h with
  | any v => exact .any v
  | int k n => exact .int k n
  | bool b => exact .bool b
  | str s => exact .str s
  | nil => exact .nil
  | sl0 cs a c => exact .sl0 cs a c
  | sl n cs ad c vs hn hi hc hr ih => exact .sl n cs ad c vs hn (hE.imm _ hi) (hcell hi hc) ih
  | refAt r off n b cap c hp hc h0 =>
    rcases hE.plo r (by rw [hp]; simp) with h1 | h1
    · exact .refAt r off n b cap c (h1.trans hp) hc h0
    · exact .refDead r off n _ c h1
  | refVirt r hp =>
    rcases hE.plo r (by rw [hp]; simp) with h1 | h1
    · exact .refVirt r (h1.trans hp)
    · exact .refDead r 0 0 _ 0 h1
  | refDead r off n a c hp =>
    rcases hE.plo r (by rw [hp]; simp) with h1 | h1
    · exact .refDead r off n a c (h1.trans hp)
    · exact .refDead r off n a c h1
  | agg cs vs hl hr ih => exact .agg cs vs hl ih
  | tup cs vs hl hr ih => exact .tup cs vs hl ih
  | ptrAt r off b cap hp =>
    rcases hE.plo r (by rw [hp]; simp) with h1 | h1
    · exact .ptrAt r off b cap (h1.trans hp)
    · exact .ptrDead r off _ h1
  | ptrDead r off a hp =>
    rcases hE.plo r (by rw [hp]; simp) with h1 | h1
    · exact .ptrDead r off a (h1.trans hp)
    · exact .ptrDead r off a h1
  | nilp => exact .nilp
  | rp cs off ad vs hi hc hr ih => exact .rp cs off ad vs (hE.imm _ hi) (hcell hi hc) ih
  | fn f xs ys us vs hl hr hl' hr' ih ih' => exact .fn f xs ys us vs hl ih hl' ih'
  | nilf => exact .nilf

/-- The rows stand for blocks. -/
structure HR (im : Nat → Prop) (pl : Nat → Place) (w : World) (H : Heap) : Prop where
  len : ∀ r, r < H.length ↔ pl r ≠ .no
  apart : Apart im pl
  bound : ∀ r b cap, pl r = .at b cap → b < w.heap.size
  imb : ∀ b, im b → b < w.heap.size
  inj : ∀ r r' b cap cap', pl r = .at b cap → pl r' = .at b cap' → r = r'
  dead : ∀ r, pl r = .dead → H[r]? = some none
  virt : ∀ r, pl r = .virt → ∃ e s, H[r]? = some (some ⟨e, s, []⟩)
  row : ∀ r b cap, pl r = .at b cap → ∃ (e s : Nat) (cs : List V) (cur : Array Value), H[r]? = some (some ⟨e, s, cs⟩) ∧ w.heap[b]? = some (.cells cur e (0, 0)) ∧ cur.size = cap * s ∧ cap ≤ maxLen ∧
    cs.length ≤ cur.size ∧ ∀ j, VR im pl w (nth cs j) (cur.getD j undef)

end Go.Bv
end

section
/-
  PART 2: operations on abstract values, and that the machine does as they say.
-/
set_option linter.unusedVariables false
set_option linter.unusedSimpArgs false
namespace Go.Bv
open Go.RowKit

/-! ### Types -/
def descAgg : TypeDesc → Bool
  | .struct _ | .array _ _ => true
  | _ => false
def descSl : TypeDesc → Option Nat
  | .slice e => some e
  | _ => none
def descArr : TypeDesc → Option (Nat × Nat)
  | .array n e => some (n, e)
  | _ => none
def descFs : TypeDesc → List (Nat × Nat)
  | .struct fs => fs.toList.map fun f => (f.offset, f.type)
  | _ => []
def descStr : TypeDesc → Bool
  | .string => true
  | _ => false
def descBl : TypeDesc → Bool
  | .bool => true
  | _ => false
def descInt : TypeDesc → Option IntKind
  | .int k => some k
  | _ => none
/-- What is known of a type. -/
structure Ty where
  z : Value
  size : Nat
  bytes : Nat
  agg : Bool
  sl : Option Nat
  arr : Option (Nat × Nat)
  fs : List (Nat × Nat)
  str : Bool := false
  ik : Option IntKind := Option.none
  bl : Bool := false
  ok : Bool := true
def Ty.none : Ty := { z := undef, size := 1, bytes := 0, agg := false, sl := .none, arr := .none, fs := [], ok := false }
structure OKt (P : Program) (t : TypeId) (y : Ty) : Prop where
  info : (P.info? t).map (fun i => (i.zero, i.size, i.bytes)) = some (some y.z, y.size, y.bytes)
  und : ∃ d, P.underlying t = some d ∧ y.agg = descAgg d ∧ y.sl = descSl d ∧ y.arr = descArr d ∧ y.fs = descFs d ∧ y.str = descStr d ∧ y.ik = descInt d ∧ y.bl = descBl d
  one : y.agg = false → y.size = 1
  zc : y.z.cells.size = y.size
/-- A program, and what is known of its types. -/
structure Ctx where
  P : Program
  ty : TypeId → Ty
  ok : ∀ t, (ty t).ok = true → OKt P t (ty t)

theorem OKt.parts {P : Program} {t : TypeId} {y : Ty} (h : OKt P t y) : ∃ i, P.info? t = some i ∧ i.zero = some y.z ∧ i.size = y.size ∧ i.bytes = y.bytes := by
  obtain ⟨i, hi, hz⟩ := Option.map_eq_some_iff.1 h.info
  simp only [Prod.mk.injEq] at hz
  exact ⟨i, hi, hz.1, hz.2.1, hz.2.2⟩
theorem OKt.slice {P : Program} {t e : TypeId} {y : Ty} (h : OKt P t y) (hs : y.sl = some e) : P.underlying t = some (.slice e) := by
  obtain ⟨d, hd, _, h2, _⟩ := h.und
  rw [hs] at h2
  cases d <;> simp [descSl] at h2
  rw [hd, h2]
theorem OKt.array {P : Program} {t e : TypeId} {n : Nat} {y : Ty} (h : OKt P t y) (hs : y.arr = some (n, e)) : P.underlying t = some (.array n e) := by
  obtain ⟨d, hd, _, _, h2, _⟩ := h.und
  rw [hs] at h2
  cases d <;> simp [descArr] at h2
  rw [hd, h2.1, h2.2]
theorem OKt.field {P : Program} {t : TypeId} {f o u : Nat} {y : Ty} (h : OKt P t y) (hs : y.fs[f]? = some (o, u)) : ∃ fs fd, P.underlying t = some (.struct fs) ∧ fs[f]? = some fd ∧ fd.offset = o ∧ fd.type = u := by
  obtain ⟨d, hd, _, _, _, h2, _⟩ := h.und
  rw [h2] at hs
  cases d <;> simp [descFs] at hs
  obtain ⟨fd, h3, h4, h5⟩ := hs
  exact ⟨_, fd, hd, h3, h4, h5⟩
theorem OKt.struct_fs {P : Program} {t : TypeId} {y : Ty} (h : OKt P t y) (hs : y.fs ≠ []) : ∃ fs, P.underlying t = some (.struct fs) ∧ y.fs = fs.toList.map fun f => (f.offset, f.type) := by
  obtain ⟨d, hd, _, _, _, h2, _⟩ := h.und
  cases d <;> simp [descFs] at h2 <;> try exact absurd h2 hs
  exact ⟨_, hd, h2⟩
theorem OKt.string {P : Program} {t : TypeId} {y : Ty} (h : OKt P t y) (hs : y.str = true) : P.underlying t = some .string := by
  obtain ⟨d, hd, _, _, _, _, h2, _⟩ := h.und
  rw [hs] at h2
  cases d <;> simp [descStr] at h2
  exact hd
theorem OKt.bool {P : Program} {t : TypeId} {y : Ty} (h : OKt P t y) (hs : y.bl = true) : P.underlying t = some .bool := by
  obtain ⟨d, hd, _, _, _, _, _, _, h2⟩ := h.und
  rw [hs] at h2
  cases d <;> simp [descBl] at h2
  exact hd
theorem OKt.int {P : Program} {t : TypeId} {y : Ty} {k : IntKind} (h : OKt P t y) (hs : y.ik = some k) : P.underlying t = some (.int k) := by
  obtain ⟨d, hd, _, _, _, _, _, h2, _⟩ := h.und
  rw [hs] at h2
  cases d <;> simp [descInt] at h2
  rw [hd, h2]
theorem OKt.isAgg {P : Program} {t : TypeId} {y : Ty} (h : OKt P t y) (w : World) : (Go.isAgg t).run P w = .ok y.agg w := by
  obtain ⟨d, hd, h1, _⟩ := h.und
  rw [h1]
  cases d <;> simp [Go.isAgg, run_underlying hd, descAgg]
theorem OKt.sizeOf {P : Program} {t : TypeId} {y : Ty} (h : OKt P t y) (w : World) : (Go.sizeOf t).run P w = .ok y.size w := by
  obtain ⟨i, hi, _, hs, _⟩ := h.parts
  simp [Go.sizeOf, typeInfo, hi, hs]
theorem OKt.zero {P : Program} {t : TypeId} {y : Ty} (h : OKt P t y) (w : World) : (Go.zeroValue t).run P w = .ok y.z w := by
  obtain ⟨i, hi, hz, _⟩ := h.parts
  simp [Go.zeroValue, typeInfo, hi, hz]

/-! ### Values -/
def cv1 : Value → V
  | .int k n => .int k n
  | .bool b => .bool b
  | .string s => .str s
  | .slice none 0 0 => .nil
  | .pointer none => .nilp
  | .nilFunc => .nilf
  | _ => .any
def cv : Value → V
  | .agg cs => .agg (cs.toList.map cv1)
  | v => cv1 v
theorem cv1_VR (im : Nat → Prop) (pl : Nat → Place) (w : World) (v : Value) : VR im pl w (cv1 v) v := by
  unfold cv1
  split <;> constructor
theorem cv1_nth (im : Nat → Prop) (pl : Nat → Place) (w : World) (l : List Value) (j : Nat) : VR im pl w (nth (l.map cv1) j) (l.getD j undef) := by
  rw [nth_getD]
  by_cases h : j < l.length
  · simp [List.getD, List.getElem?_eq_getElem h]; exact cv1_VR ..
  · simp [List.getD, List.getElem?_eq_none (Nat.le_of_not_lt h)]; exact .any _
theorem cv_VR (im : Nat → Prop) (pl : Nat → Place) (w : World) (v : Value) : VR im pl w (cv v) v := by
  unfold cv
  split
  · rename_i cs
    have := VR.agg (im := im) (pl := pl) (w := w) (cs.toList.map cv1) cs.toList (by simp) (cv1_nth im pl w _)
    simpa using this
  · exact cv1_VR ..

def ev (ts : List V) : Operand → V
  | .tmp t => nth ts t
  | .const v => cv v
  | .global _ => .any
  | .func f => .fn (.func f) [] []

def cellsOf : V → List V
  | .agg cs => cs
  | v => [v]
/-- One cell, and it is known what is in it. -/
def scal : V → Bool
  | .any | .agg _ | .tup _ => false
  | _ => true

/-- The temporaries. -/
def TR (im : Nat → Prop) (pl : Nat → Place) (w : World) (ts : List V) (tmps : Array Value) : Prop :=
  ts.length = tmps.size ∧ ∀ i, VR im pl w (nth ts i) (tmps.getD i undef)

theorem ev_VR {im : Nat → Prop} {pl : Nat → Place} {w : World} {ts : List V} {a : Act} (h : TR im pl w ts a.tmps) (x : Operand) : VR im pl w (ev ts x) (a.eval x) := by
  cases x with
  | tmp t => exact h.2 t
  | const v => exact cv_VR ..
  | global g => exact .any _
  | func f => exact .fn _ [] [] [] [] rfl (fun j => by simp [nth]; exact .any _) rfl (fun j => by simp [nth]; exact .any _)

theorem VR.oneCell {im : Nat → Prop} {pl : Nat → Place} {w : World} {v : V} {c : Value} (h : VR im pl w v c) (hs : scal v = true) : c.oneCell' = true ∧ c.cells = #[c] := by
  cases h <;> simp [scal] at hs <;> exact ⟨rfl, rfl⟩
theorem VR.cells {im : Nat → Prop} {pl : Nat → Place} {w : World} {v : V} {c : Value} (h : VR im pl w v c) (hs : (cellsOf v).all scal = true) :
    c.cells.size = (cellsOf v).length ∧ (∀ j, VR im pl w (nth (cellsOf v) j) (c.cells.getD j undef)) ∧ ∀ u ∈ c.cells.toList, u.oneCell' = true := by
  by_cases hv : ∃ cs, v = .agg cs
  · obtain ⟨cs, rfl⟩ := hv
    cases h with
    | agg _ vs hl hr =>
      refine ⟨by simp [Value.cells, cellsOf, hl], fun j => by simpa [Value.cells, cellsOf] using hr j, fun u hu => ?_⟩
      simp only [Value.cells, List.mem_iff_getElem] at hu
      obtain ⟨j, hj, rfl⟩ := hu
      have h1 := hr j
      have hj' : j < vs.length := by simpa using hj
      rw [nth_getD] at h1
      simp only [List.getD, List.getElem?_eq_getElem hj', List.getElem?_eq_getElem (show j < cs.length by omega), Option.getD_some] at h1
      refine (h1.oneCell ?_).1
      simp only [cellsOf, List.all_eq_true] at hs
      exact hs _ (List.getElem_mem _)
  · have hc : cellsOf v = [v] := by cases v <;> first | rfl | exact absurd ⟨_, rfl⟩ hv
    rw [hc] at hs ⊢
    have h1 := h.oneCell (by simpa using hs)
    rw [h1.2]
    refine ⟨by simp, fun j => ?_, fun u hu => ?_⟩
    · cases j with
      | zero => simpa [nth] using h
      | succ j => simp [nth]; exact .any _
    · simp at hu; rw [hu]; exact h1.1

def win (cs : List V) (off : Nat) : Nat → List V
  | 0 => []
  | n + 1 => nth cs off :: win cs (off + 1) n
theorem win_length (cs : List V) (n : Nat) : ∀ off, (win cs off n).length = n := by
  induction n with
  | zero => intro off; rfl
  | succ n ih => intro off; simp [win, ih]
theorem nth_win (cs : List V) (n : Nat) : ∀ off j, nth (win cs off n) j = if j < n then nth cs (off + j) else .any := by
  induction n with
  | zero => intro off j; simp [win, nth]
  | succ n ih =>
    intro off j
    cases j with
    | zero => simp [win, nth]
    | succ j => simp only [win, nth, ih, Nat.succ_lt_succ_iff, Nat.add_assoc, Nat.add_comm 1 j]
def pack (y : Ty) (cs : List V) (off : Nat) : V := if y.agg then .agg (win cs off y.size) else nth cs off

/-- What a change comes to: a value, and the rows as they then are. -/
def OpRes (P : Program) (im : Nat → Prop) (pl : Nat → Place) (w : World) (run : Result Next) (K : V → Heap → Prop) : Prop :=
  ∃ v vc im' pl' w' H', (run = .ok (.value vc) w' ∨ (run = .ok .skip w' ∧ v = .any)) ∧ K v H' ∧ VR im' pl' w' v vc ∧ HR im' pl' w' H' ∧ Ext im pl w im' pl' w'
theorem OpRes.same {P : Program} {im : Nat → Prop} {pl : Nat → Place} {w : World} {run : Result Next} {K : V → Heap → Prop} {v : V} {vc : Value} {H : Heap}
    (h : run = .ok (.value vc) w) (hK : K v H) (hv : VR im pl w v vc) (hH : HR im pl w H) : OpRes P im pl w run K :=
  ⟨v, vc, im, pl, w, H, .inl h, hK, hv, hH, .refl _ _ _⟩

/-! ### Reading memory -/
theorem run_load_list {P : Program} {w : World} {t : TypeId} {y : Ty} (hy : OKt P t y) (ad : Addr) (f : Nat → Value) (hc : ∀ j, j < y.size → w.cell? (ad.add j) = some (f j)) :
    (loadVar t ad).run P w = .ok (if y.agg then .agg ((List.range y.size).map f).toArray else f 0) w := by
  unfold loadVar
  simp only [Sem.run_bind, hy.isAgg, Result.andThen_ok]
  cases h : y.agg with
  | true => simp [hy.sizeOf, run_loadCells w ad y.size f hc]
  | false =>
    have h0 := hc 0 (by rw [hy.one h]; omega)
    have : ad.add 0 = ad := by unfold Addr.add; simp
    rw [this] at h0
    simp [h0]
theorem pack_VR {im : Nat → Prop} {pl : Nat → Place} {w : World} (y : Ty) (cs : List V) (off : Nat) (f : Nat → Value) (hr : ∀ j, VR im pl w (nth cs (off + j)) (f j)) :
    VR im pl w (pack y cs off) (if y.agg then .agg ((List.range y.size).map f).toArray else f 0) := by
  unfold pack
  split
  · refine .agg _ _ (by simp [win_length]) fun j => ?_
    rw [nth_win]
    split
    · rename_i h; simp [List.getD, List.getElem?_eq_getElem, h]; exact hr j
    · exact .any _
  · simpa using hr 0

def rowOf (H : Heap) (r : Nat) : Option Row := (H[r]?).bind id
def loadw (y : Ty) (x : V) (H : Heap) (K : V → Prop) : Prop :=
  match x with
  | .rp cs off => off + y.size ≤ cs.length ∧ K (pack y cs off)
  | .ptr r off => match rowOf H r with
    | some row => off + y.size ≤ row.cs.length ∧ K (pack y row.cs off)
    | none => False
  | _ => False
theorem rowOf_some {H : Heap} {r : Nat} {row : Row} (h : rowOf H r = some row) : H[r]? = some (some row) := by
  unfold rowOf at h
  cases hr : H[r]? with
  | none => simp [hr] at h
  | some o => simp [hr] at h; rw [h]

/-- A row that is there: its block. -/
theorem HR.block {im : Nat → Prop} {pl : Nat → Place} {w : World} {H : Heap} (h : HR im pl w H) {r : Nat} {row : Row} (hr : H[r]? = some (some row)) (hne : 0 < row.cs.length) :
    ∃ b cap cur, pl r = .at b cap ∧ w.heap[b]? = some (.cells cur row.e (0, 0)) ∧ cur.size = cap * row.s ∧ cap ≤ maxLen ∧ row.cs.length ≤ cur.size ∧ ∀ j, VR im pl w (nth row.cs j) (cur.getD j undef) := by
  have hlt : r < H.length := by
    rcases Nat.lt_or_ge r H.length with h1 | h1
    · exact h1
    · simp [List.getElem?_eq_none h1] at hr
  cases hp : pl r with
  | no => exact absurd hp ((h.len r).1 hlt)
  | dead => have := h.dead r hp; rw [hr] at this; cases this
  | virt =>
    obtain ⟨e, s, h1⟩ := h.virt r hp
    rw [hr] at h1
    injection h1 with h1
    injection h1 with h1
    subst h1
    simp at hne
  | «at» b cap =>
    obtain ⟨e, s, cs, cur, h1, h2, h3, h4, h5, h6⟩ := h.row r b cap hp
    rw [hr] at h1
    injection h1 with h1
    injection h1 with h1
    subst h1
    exact ⟨b, cap, cur, rfl, h2, h3, h4, h5, h6⟩
theorem cell_of_cells {w : World} {b j : Nat} {cur : Array Value} {e : TypeId} {fr : Nat × Nat} (h : w.heap[b]? = some (.cells cur e fr)) (hj : j < cur.size) : w.cell? ⟨b, j, none⟩ = some (cur.getD j undef) := by
  simp [World.cell?, h, Array.getD, hj]
theorem plain_add (b o j : Nat) : (⟨b, o, none⟩ : Addr).add j = ⟨b, o + j, none⟩ := by
  unfold Addr.add; split <;> simp_all

theorem loadw_sound {C : Ctx} {im : Nat → Prop} {pl : Nat → Place} {w : World} {H : Heap} {t : TypeId} {x : V} {xc : Value} {K : V → Heap → Prop}
    (ht : (C.ty t).ok = true) (h : loadw (C.ty t) x H fun v => K v H) (hx : VR im pl w x xc) (hH : HR im pl w H) :
    ∃ v vc, (Instr.loadAt t xc).run C.P w = .ok vc w ∧ K v H ∧ VR im pl w v vc := by
  have hy := C.ok t ht
  cases x with
  | rp cs off =>
    obtain ⟨hl, hK⟩ := h
    cases hx with
    | rp _ _ ad vs hi hc hr =>
      refine ⟨_, _, ?_, hK, pack_VR (C.ty t) cs off (fun j => vs (off + j)) (fun j => hr _)⟩
      simp only [Instr.loadAt, Instr.sureAddr, Sem.run_bind, Sem.run_pure, Result.andThen_ok]
      exact run_load_list hy _ _ (fun j hj => by rw [add_add]; exact hc _ (by omega))
  | ptr r off =>
    simp only [loadw] at h
    cases hrow : rowOf H r with
    | none => simp [hrow] at h
    | some row =>
      simp only [hrow] at h
      obtain ⟨hl, hK⟩ := h
      have hr := rowOf_some hrow
      by_cases hz : 0 < row.cs.length
      · obtain ⟨b, cap, cur, hp, hb, _, _, hlc, hv⟩ := hH.block hr hz
        cases hx with
        | ptrAt _ _ b' cap' hp' =>
          rw [hp] at hp'
          injection hp' with e1 e2
          subst e1 e2
          refine ⟨_, _, ?_, hK, pack_VR (C.ty t) row.cs off (fun j => cur.getD (off + j) undef) (fun j => hv _)⟩
          simp only [Instr.loadAt, Instr.sureAddr, Sem.run_bind, Sem.run_pure, Result.andThen_ok]
          exact run_load_list hy _ _ (fun j hj => by rw [plain_add]; exact cell_of_cells hb (by omega))
        | ptrDead _ _ a hp' => rw [hp] at hp'; cases hp'
      · cases hx with
        | ptrAt _ _ b' cap' hp' =>
          have h0 : (C.ty t).size = 0 := by omega
          refine ⟨_, _, ?_, hK, pack_VR (C.ty t) row.cs off (fun j => undef) (fun j => by rw [nth_ge _ _ (by omega)]; exact .any _)⟩
          simp only [Instr.loadAt, Instr.sureAddr, Sem.run_bind, Sem.run_pure, Result.andThen_ok]
          exact run_load_list hy _ _ (fun j hj => by omega)
        | ptrDead _ _ a hp' =>
          have := hH.dead r hp'
          rw [hr] at this
          cases this
  | _ => exact h.elim

end Go.Bv
end

section
/-
  PART 3: operations that change memory: a new row, a store, an append.
-/
set_option linter.unusedVariables false
set_option linter.unusedSimpArgs false
namespace Go.Bv
open Go.RowKit

def setp (pl : Nat → Place) (r : Nat) (p : Place) : Nat → Place := fun i => if i = r then p else pl i
theorem setp_same (pl : Nat → Place) (r : Nat) (p : Place) : setp pl r p r = p := by simp [setp]
theorem setp_other (pl : Nat → Place) (r i : Nat) (p : Place) (h : i ≠ r) : setp pl r p i = pl i := by simp [setp, h]

theorem HR.no {im : Nat → Prop} {pl : Nat → Place} {w : World} {H : Heap} (h : HR im pl w H) {r : Nat} (hr : H.length ≤ r) : pl r = .no := by
  cases hp : pl r with
  | no => rfl
  | _ => have := (h.len r).2 (by rw [hp]; simp); omega
theorem HR.lt {im : Nat → Prop} {pl : Nat → Place} {w : World} {H : Heap} (h : HR im pl w H) {r : Nat} (hr : pl r ≠ .no) : r < H.length := (h.len r).2 hr

/-- A new row in a new block. -/
theorem HR.alloc {im : Nat → Prop} {pl : Nat → Place} {w : World} {H : Heap} (h : HR im pl w H) (e s cap : Nat) (cs : List V) (cur : Array Value)
    (hs : cur.size = cap * s) (hcap : cap ≤ maxLen) (hl : cs.length ≤ cur.size) (hv : ∀ j, VR im pl w (nth cs j) (cur.getD j undef)) :
    HR im (setp pl H.length (.at w.heap.size cap)) (w.alloc (.cells cur e)) (H ++ [some ⟨e, s, cs⟩]) ∧ Ext im pl w im (setp pl H.length (.at w.heap.size cap)) (w.alloc (.cells cur e)) := by
  have hno := h.no (Nat.le_refl _)
  have hE : Ext im pl w im (setp pl H.length (.at w.heap.size cap)) (w.alloc (.cells cur e)) := by
    refine ⟨rfl, rfl, rfl, by simp, fun _ hb => hb, fun _ hb => .inl hb, fun r hr => .inl (setp_other _ _ _ _ (fun e => hr (e ▸ hno))), fun r b c hb => ?_, fun b hb _ => heap_alloc_old _ _ _ hb⟩
    by_cases hr : r = H.length
    · subst hr; rw [setp_same] at hb; injection hb with h1 _; exact .inr (by omega)
    · rw [setp_other _ _ _ _ hr] at hb; exact .inl ⟨r, c, hb⟩
  refine ⟨⟨fun r => ?_, fun b hb r c => ?_, fun r b c hb => ?_, fun b hb => ?_, fun r r' b c c' h1 h2 => ?_, fun r hr => ?_, fun r hr => ?_, fun r b c hb => ?_⟩, hE⟩
  · by_cases hr : r = H.length
    · subst hr; simp [setp_same]
    · rw [setp_other _ _ _ _ hr, ← h.len r]; simp; omega
  · by_cases hr : r = H.length
    · subst hr; rw [setp_same]; intro h1; injection h1 with h1 _; have := h.imb b hb; omega
    · rw [setp_other _ _ _ _ hr]; exact h.apart b hb r c
  · by_cases hr : r = H.length
    · subst hr; rw [setp_same] at hb; injection hb with h1 _; simp; omega
    · rw [setp_other _ _ _ _ hr] at hb; have := h.bound r b c hb; simp; omega
  · have := h.imb b hb; simp; omega
  · by_cases hr : r = H.length <;> by_cases hr' : r' = H.length
    · omega
    · subst hr; rw [setp_same] at h1; rw [setp_other _ _ _ _ hr'] at h2; injection h1 with h1 _; have := h.bound r' b c' h2; omega
    · subst hr'; rw [setp_same] at h2; rw [setp_other _ _ _ _ hr] at h1; injection h2 with h2 _; have := h.bound r b c h1; omega
    · rw [setp_other _ _ _ _ hr] at h1; rw [setp_other _ _ _ _ hr'] at h2; exact h.inj r r' b c c' h1 h2
  · by_cases hq : r = H.length
    · subst hq; rw [setp_same] at hr; cases hr
    · rw [setp_other _ _ _ _ hq] at hr
      have := h.dead r hr
      rw [List.getElem?_append_left (by have := h.lt (r := r) (by rw [hr]; simp); omega)]; exact this
  · by_cases hq : r = H.length
    · subst hq; rw [setp_same] at hr; cases hr
    · rw [setp_other _ _ _ _ hq] at hr
      have := h.virt r hr
      rw [List.getElem?_append_left (by have := h.lt (r := r) (by rw [hr]; simp); omega)]; exact this
  · by_cases hq : r = H.length
    · subst hq; rw [setp_same] at hb; injection hb with h1 h2
      subst h1 h2
      exact ⟨e, s, cs, cur, by simp, heap_alloc_new _ _, hs, hcap, hl, fun j => (hv j).mono hE h.apart⟩
    · rw [setp_other _ _ _ _ hq] at hb
      obtain ⟨e', s', cs', cur', h1, h2, h3, h4, h5, h6⟩ := h.row r b c hb
      exact ⟨e', s', cs', cur', by rw [List.getElem?_append_left (h.lt (r := r) (by rw [hb]; simp))]; exact h1, by rw [heap_alloc_old _ _ _ (h.bound r b c hb)]; exact h2, h3, h4, h5, fun j => (h6 j).mono hE h.apart⟩

theorem run_newVar {P : Program} (w : World) (t : TypeId) (v : Value) : (newVar t v).run P w = .ok ⟨w.heap.size, 0, none⟩ (w.alloc (.cells v.cells t)) := by
  simp only [newVar, newRow, newObj, Sem.run_bind, Sem.run, Sem.run_pure, Result.andThen_ok]; rfl

/-- `box`, `alloc`. -/
theorem newVar_sound {C : Ctx} {im : Nat → Prop} {pl : Nat → Place} {w : World} {H : Heap} {K : V → Heap → Prop} (t : TypeId) (cs : List V) (v : Value)
    (hl : cs.length = v.cells.size) (hv : ∀ j, VR im pl w (nth cs j) (v.cells.getD j undef)) (hH : HR im pl w H) (hK : K (.ptr H.length 0) (H ++ [some ⟨t, cs.length, cs⟩]))
    {run : Result Next} (hr : run = ((newVar t v).run C.P w).andThen fun a w => .ok (.value (.pointer (some a))) w) : OpRes C.P im pl w run K := by
  have h := hH.alloc t cs.length 1 cs v.cells (by omega) (by simp [maxLen]) (by omega) hv
  refine ⟨_, _, im, _, _, _, .inl (by rw [hr, run_newVar]; rfl), hK, ?_, h.1, h.2⟩
  exact .ptrAt _ 0 w.heap.size 1 (setp_same _ _ _)

def puts : List V → Nat → List V → List V
  | cs, _, [] => cs
  | cs, off, v :: vs => puts (upd cs off v) (off + 1) vs
theorem puts_length (vs : List V) : ∀ cs off, (puts cs off vs).length = cs.length := by
  induction vs with
  | nil => intro cs off; rfl
  | cons v vs ih => intro cs off; simp [puts, ih, upd_length]
theorem nth_puts (vs : List V) : ∀ cs off j, off + vs.length ≤ cs.length → nth (puts cs off vs) j = if off ≤ j ∧ j < off + vs.length then nth vs (j - off) else nth cs j := by
  induction vs with
  | nil => intro cs off j h; simp [puts]; intro h1 h2; omega
  | cons v vs ih =>
    intro cs off j h
    simp only [List.length_cons] at h
    simp only [puts]
    rw [ih _ _ _ (by rw [upd_length]; omega), nth_upd]
    simp only [List.length_cons]
    by_cases h1 : j = off
    · subst h1
      rw [if_neg (by omega), if_pos ⟨rfl, by omega⟩, if_pos (by omega)]
      simp [nth]
    · by_cases h2 : off + 1 ≤ j ∧ j < off + 1 + vs.length
      · rw [if_pos h2, if_pos (by omega)]
        obtain ⟨d, rfl⟩ : ∃ d, j = off + 1 + d := ⟨j - (off + 1), by omega⟩
        rw [show off + 1 + d - (off + 1) = d by omega, show off + 1 + d - off = d + 1 by omega]
        rfl
      · rw [if_neg h2, if_neg (by omega), if_neg (by omega)]

/-- The content of a row turned in place. -/
theorem HR.setRow {im : Nat → Prop} {pl : Nat → Place} {w : World} {H : Heap} (h : HR im pl w H) {r b cap : Nat} {row : Row} {cur cur' : Array Value} (hp : pl r = .at b cap) (hr : H[r]? = some (some row))
    (hb : w.heap[b]? = some (.cells cur row.e (0, 0))) (hs : cur'.size = cur.size) (cs : List V) (hl : cs.length ≤ cur'.size) (hv : ∀ j, VR im pl w (nth cs j) (cur'.getD j undef)) :
    HR im pl (w.setRow b cur') (H.set r (some ⟨row.e, row.s, cs⟩)) ∧ Ext im pl w im pl (w.setRow b cur') := by
  have hblt := h.bound r b cap hp
  have hE : Ext im pl w im pl (w.setRow b cur') := by
    refine ⟨rfl, rfl, rfl, by simp [World.setRow], fun _ hb => hb, fun _ hb => .inl hb, fun r hr => .inl rfl, fun r b c hb => .inl ⟨r, c, hb⟩, fun k hk hn => ?_⟩
    exact setRow_other _ _ _ _ (fun e => hn r cap (e ▸ hp))
  have hsz : (w.setRow b cur').heap.size = w.heap.size := by simp [World.setRow]
  refine ⟨⟨fun r' => by rw [List.length_set]; exact h.len r', h.apart, fun r' b' c' hb' => by rw [hsz]; exact h.bound r' b' c' hb', fun b' hb' => by rw [hsz]; exact h.imb b' hb', h.inj, fun r' hr' => ?_, fun r' hr' => ?_, fun r' b' c' hb' => ?_⟩, hE⟩
  · have hne : r ≠ r' := fun e => by subst e; rw [hp] at hr'; cases hr'
    rw [List.getElem?_set_ne hne]; exact h.dead r' hr'
  · have hne : r ≠ r' := fun e => by subst e; rw [hp] at hr'; cases hr'
    rw [List.getElem?_set_ne hne]; exact h.virt r' hr'
  · by_cases hq : r = r'
    · subst hq
      rw [hp] at hb'
      injection hb' with e1 e2
      subst e1 e2
      obtain ⟨e, s, cs0, cur0, h1, h2, h3, h4, h5, h6⟩ := h.row r b cap hp
      rw [hr] at h1
      injection h1 with h1
      injection h1 with h1
      subst h1
      rw [hb] at h2
      injection h2 with h2
      injection h2 with h2 _ _
      subst h2
      refine ⟨e, s, cs, cur', ?_, setRow_heap _ _ _ _ _ _ hb, by rw [hs]; exact h3, h4, hl, fun j => (hv j).mono hE h.apart⟩
      rw [List.getElem?_set_self (h.lt (r := r) (by rw [hp]; simp))]
    · obtain ⟨e, s, cs0, cur0, h1, h2, h3, h4, h5, h6⟩ := h.row r' b' c' hb'
      refine ⟨e, s, cs0, cur0, by rw [List.getElem?_set_ne hq]; exact h1, ?_, h3, h4, h5, fun j => (h6 j).mono hE h.apart⟩
      rw [setRow_other _ _ _ _ (fun e' : b' = b => hq (h.inj r r' b cap c' hp (by rw [← e']; exact hb')))]
      exact h2

def storew (y : Ty) (x v : V) (H : Heap) (K : Heap → Prop) : Prop :=
  match x with
  | .ptr r off => match rowOf H r with
    | some row => off + y.size ≤ row.cs.length ∧ (cellsOf v).length = y.size ∧ (cellsOf v).all scal = true ∧ K (H.set r (some ⟨row.e, row.s, puts row.cs off (cellsOf v)⟩))
    | none => False
  | _ => False

theorem storew_sound {C : Ctx} {im : Nat → Prop} {pl : Nat → Place} {w : World} {H : Heap} {t : TypeId} {x v : V} {xc vc : Value} {K : Heap → Prop}
    (ht : (C.ty t).ok = true) (h : storew (C.ty t) x v H K) (hx : VR im pl w x xc) (hv : VR im pl w v vc) (hH : HR im pl w H) :
    ∃ w' H', (Instr.storeAt t xc vc).run C.P w = .ok () w' ∧ K H' ∧ HR im pl w' H' ∧ Ext im pl w im pl w' := by
  have hy := C.ok t ht
  cases x with
  | ptr r off =>
    simp only [storew] at h
    cases hrow : rowOf H r with
    | none => simp [hrow] at h
    | some row =>
      simp only [hrow] at h
      obtain ⟨hl, hn, hs, hK⟩ := h
      have hr := rowOf_some hrow
      obtain ⟨c1, c2, c3⟩ := hv.cells hs
      cases hx with
      | ptrDead _ _ a hp' =>
        have := hH.dead r hp'
        rw [hr] at this
        cases this
      | ptrAt _ _ b cap hp =>
        obtain ⟨e, s, cs, cur, h1, h2, h3, h4, h5, h6⟩ := hH.row r b cap hp
        rw [hr] at h1
        injection h1 with h1
        injection h1 with h1
        subst h1
        simp only at hl hK
        have hlc : off + 0 + vc.cells.toList.length ≤ cur.size := by simp; omega
        have hrun := run_storeCells_at (P := C.P) b off e vc.cells.toList 0 cur w h2 hlc c3
        generalize hnew : (cur.toList.take (off + 0) ++ vc.cells.toList ++ cur.toList.drop (off + 0 + vc.cells.toList.length)).toArray = new at hrun
        have hnewsz : new.size = cur.size := by rw [← hnew]; simp; simp at hlc; omega
        have hget : ∀ j, new.getD j undef = if off ≤ j ∧ j < off + vc.cells.size then vc.cells.getD (j - off) undef else cur.getD j undef := by
          intro j
          rw [← hnew]
          simp only [Array.getD_eq_getD_getElem?, List.getElem?_toArray, Nat.add_zero]
          rw [List.append_assoc, List.getElem?_append]
          simp only [Array.length_toList] at hlc
          have ht : (cur.toList.take off).length = off := by simp; omega
          rw [ht]
          by_cases h1 : j < off
          · rw [if_pos h1, if_neg (by omega)]; simp [List.getElem?_take, h1]
          · rw [if_neg h1, List.getElem?_append]
            by_cases h2 : j - off < vc.cells.toList.length
            · rw [if_pos h2, if_pos (by simp at h2; omega)]; simp
            · rw [if_neg h2, if_neg (by simp at h2; omega)]
              simp only [List.getElem?_drop, Array.length_toList]
              simp only [Array.length_toList] at h2
              rw [show off + vc.cells.size + (j - off - vc.cells.size) = j by omega]; simp
        have hset := hH.setRow hp hr h2 hnewsz (puts cs off (cellsOf v)) (by rw [puts_length, hnewsz]; exact h5) (fun j => by
          rw [nth_puts _ _ _ _ (by omega), hget j, c1]
          split
          · exact c2 _
          · exact h6 j)
        refine ⟨_, _, ?_, hK, hset.1, hset.2⟩
        simp only [Instr.storeAt, Instr.sureAddr, Sem.run_bind, Sem.run_pure, Result.andThen_ok, storeVar, hy.sizeOf]
        rw [if_neg (by omega)]
        simpa using hrun
  | _ => exact h.elim

end Go.Bv
end

section
/-
  PART 4: append.
-/
set_option linter.unusedVariables false
set_option linter.unusedSimpArgs false
namespace Go.Bv
open Go.RowKit

def killp (pl : Nat → Place) : Option Nat → Nat → Place
  | none => pl
  | some r => setp pl r .dead
def killH (H : Heap) : Option Nat → Heap
  | none => H
  | some r => H.set r none

/-- A row is given up, a new one is there: in the block of the one given up, in a new one, or in none. -/
theorem HR.append {im : Nat → Prop} {pl : Nat → Place} {w w' : World} {H : Heap} (h : HR im pl w H) (kill : Option Nat) (hk : ∀ r, kill = some r → pl r = .virt ∨ ∃ b cap, pl r = .at b cap) (p : Place) (e s : Nat) (cs : List V)
    (os : w'.os = w.os) (tape : w'.tape = w.tape) (output : w'.output = w.output) (size : w.heap.size ≤ w'.heap.size)
    (frame : ∀ k, k < w.heap.size → (∀ r cap, kill = some r → pl r ≠ .at k cap) → w'.heap[k]? = w.heap[k]?)
    (hp : (p = .virt ∧ cs = []) ∨ ∃ g cap cur, p = .at g cap ∧ ((∃ r c, kill = some r ∧ pl r = .at g c) ∨ w.heap.size ≤ g) ∧ g < w'.heap.size ∧ w'.heap[g]? = some (.cells cur e (0, 0)) ∧ cur.size = cap * s ∧ cap ≤ maxLen ∧ cs.length ≤ cur.size ∧ ∀ j, VR im pl w (nth cs j) (cur.getD j undef)) :
    HR im (setp (killp pl kill) H.length p) w' (killH H kill ++ [some ⟨e, s, cs⟩]) ∧ Ext im pl w im (setp (killp pl kill) H.length p) w' := by
  have hno := h.no (Nat.le_refl H.length)
  have hkl : (killH H kill).length = H.length := by cases kill <;> simp [killH]
  have hkne : ∀ r, kill = some r → r ≠ H.length := by
    intro r hr e
    rcases hk r hr with h1 | ⟨b, cap, h1⟩ <;> rw [e, hno] at h1 <;> cases h1
  have hkp : ∀ r, kill ≠ some r → killp pl kill r = pl r := by
    intro r hr
    cases kill with
    | none => rfl
    | some q => exact setp_other _ _ _ _ (fun e => hr (by rw [e]))
  have hkd : ∀ r, kill = some r → killp pl kill r = .dead := by
    intro r hr; rw [hr]; exact setp_same _ _ _
  -- an old place that is still there
  have hold : ∀ r b c, r ≠ H.length → setp (killp pl kill) H.length p r = .at b c → kill ≠ some r ∧ pl r = .at b c := by
    intro r b c hr hb
    rw [setp_other _ _ _ _ hr] at hb
    by_cases hq : kill = some r
    · rw [hkd r hq] at hb; cases hb
    · rw [hkp r hq] at hb; exact ⟨hq, hb⟩
  have hkH : ∀ r, kill ≠ some r → r < H.length → (killH H kill ++ [some (⟨e, s, cs⟩ : Row)])[r]? = H[r]? := by
    intro r hr hlt
    rw [List.getElem?_append_left (by omega)]
    cases kill with
    | none => rfl
    | some q => exact List.getElem?_set_ne (fun e => hr (by rw [e]))
  have hE : Ext im pl w im (setp (killp pl kill) H.length p) w' := by
    refine ⟨os, tape, output, size, fun _ hb => hb, fun _ hb => .inl hb, fun r hr => ?_, fun r b c hb => ?_, fun b hb hn => frame b hb (fun r cap _ => hn r cap)⟩
    · have hq : r ≠ H.length := fun e => hr (e ▸ hno)
      rw [setp_other _ _ _ _ hq]
      by_cases hk2 : kill = some r
      · exact .inr (hkd r hk2)
      · exact .inl (hkp r hk2)
    · by_cases hr : r = H.length
      · subst hr
        rw [setp_same] at hb
        rcases hp with ⟨h1, _⟩ | ⟨g, cap, cur, h1, h2, _⟩
        · rw [h1] at hb; cases hb
        · rw [h1] at hb; injection hb with e1 e2; subst e1
          rcases h2 with ⟨r, c, _, h3⟩ | h3
          · exact .inl ⟨r, c, h3⟩
          · exact .inr h3
      · exact .inl ⟨r, c, (hold r b c hr hb).2⟩
  refine ⟨⟨fun r => ?_, fun b hb r c hr => ?_, fun r b c hb => ?_, fun b hb => Nat.lt_of_lt_of_le (h.imb b hb) size, fun r r' b c c' h1 h2 => ?_, fun r hr => ?_, fun r hr => ?_, fun r b c hb => ?_⟩, hE⟩
  · by_cases hr : r = H.length
    · subst hr
      rw [setp_same]
      simp only [List.length_append, hkl, List.length_singleton]
      refine ⟨fun _ => ?_, fun _ => by omega⟩
      rcases hp with ⟨h1, _⟩ | ⟨g, cap, cur, h1, _⟩ <;> rw [h1] <;> simp
    · rw [setp_other _ _ _ _ hr]
      simp only [List.length_append, hkl, List.length_singleton]
      by_cases hq : kill = some r
      · rw [hkd r hq]
        have : r < H.length := h.lt (by rcases hk r hq with h1 | ⟨b, cap, h1⟩ <;> rw [h1] <;> simp)
        exact ⟨fun _ => by simp, fun _ => by omega⟩
      · rw [hkp r hq, ← h.len r]; omega
  · by_cases hq : r = H.length
    · subst hq
      rw [setp_same] at hr
      rcases hp with ⟨h1, _⟩ | ⟨g, cap, cur, h1, h2, _⟩
      · rw [h1] at hr; cases hr
      · rw [h1] at hr; injection hr with e1 e2; subst e1
        rcases h2 with ⟨r, c, _, h3⟩ | h3
        · exact h.apart g hb r c h3
        · have := h.imb g hb; omega
    · exact h.apart b hb r c (hold r b c hq hr).2
  · by_cases hr : r = H.length
    · subst hr
      rw [setp_same] at hb
      rcases hp with ⟨h1, _⟩ | ⟨g, cap, cur, h1, _, h3, _⟩
      · rw [h1] at hb; cases hb
      · rw [h1] at hb; injection hb with e1 e2; subst e1; exact h3
    · exact Nat.lt_of_lt_of_le (h.bound r b c (hold r b c hr hb).2) size
  · have key : ∀ r' b c c', r' ≠ H.length → setp (killp pl kill) H.length p H.length = .at b c → setp (killp pl kill) H.length p r' = .at b c' → False := by
      intro r' b c c' hr' h1 h2
      rw [setp_same] at h1
      obtain ⟨h3, h4⟩ := hold r' b c' hr' h2
      rcases hp with ⟨h5, _⟩ | ⟨g, cap, cur, h5, h6, _⟩
      · rw [h5] at h1; cases h1
      · rw [h5] at h1; injection h1 with e1 e2; subst e1
        rcases h6 with ⟨q, c, hq, h7⟩ | h7
        · exact h3 (by rw [hq, h.inj q r' g c c' h7 h4])
        · have := h.bound r' g c' h4; omega
    by_cases hr : r = H.length <;> by_cases hr' : r' = H.length
    · omega
    · subst hr; exact (key r' b c c' hr' h1 h2).elim
    · subst hr'; exact (key r b c' c hr h2 h1).elim
    · exact h.inj r r' b c c' (hold r b c hr h1).2 (hold r' b c' hr' h2).2
  · by_cases hq : r = H.length
    · subst hq; rw [setp_same] at hr; rcases hp with ⟨h1, _⟩ | ⟨g, cap, cur, h1, _⟩ <;> rw [h1] at hr <;> cases hr
    · rw [setp_other _ _ _ _ hq] at hr
      by_cases hk2 : kill = some r
      · have hlt : r < H.length := h.lt (by rcases hk r hk2 with h1 | ⟨b, cap, h1⟩ <;> rw [h1] <;> simp)
        rw [List.getElem?_append_left (by omega)]
        subst hk2
        simp only [killH]
        rw [List.getElem?_set_self hlt]
      · rw [hkp r hk2] at hr
        rw [hkH r hk2 (h.lt (by rw [hr]; simp))]
        exact h.dead r hr
  · by_cases hq : r = H.length
    · subst hq
      rw [setp_same] at hr
      rcases hp with ⟨h1, h2⟩ | ⟨g, cap, cur, h1, _⟩
      · subst h2; exact ⟨e, s, by rw [List.getElem?_append_right (by omega)]; simp [hkl]⟩
      · rw [h1] at hr; cases hr
    · rw [setp_other _ _ _ _ hq] at hr
      by_cases hk2 : kill = some r
      · rw [hkd r hk2] at hr; cases hr
      · rw [hkp r hk2] at hr
        rw [hkH r hk2 (h.lt (by rw [hr]; simp))]
        exact h.virt r hr
  · by_cases hq : r = H.length
    · subst hq
      rw [setp_same] at hb
      rcases hp with ⟨h1, _⟩ | ⟨g, cap, cur, h1, h2, h3, h4, h5, h6, h7, h8⟩
      · rw [h1] at hb; cases hb
      · rw [h1] at hb; injection hb with e1 e2; subst e1 e2
        exact ⟨e, s, cs, cur, by rw [List.getElem?_append_right (by omega)]; simp [hkl], h4, h5, h6, h7, fun j => (h8 j).mono hE h.apart⟩
    · obtain ⟨hk2, hb2⟩ := hold r b c hq hb
      obtain ⟨e', s', cs', cur', h1, h2, h3, h4, h5, h6⟩ := h.row r b c hb2
      refine ⟨e', s', cs', cur', by rw [hkH r hk2 (h.lt (by rw [hb2]; simp))]; exact h1, ?_, h3, h4, h5, fun j => (h6 j).mono hE h.apart⟩
      rw [frame b (h.bound r b c hb2) (fun q cap hq2 h7 => hk2 (by rw [hq2, h.inj q r b cap c h7 hb2]))]
      exact h2

/-- What a slice has: how many elements; their cells. -/
def elemsOf (y : Ty) (x : V) (H : Heap) : Option (Nat × List V) :=
  match x with
  | .nil => some (0, [])
  | .sl m cs => some (m, cs)
  | .ref r off m => match rowOf H r with
    | some row => some (m, (row.cs.drop off).take (m * y.size))
    | none => none
  | _ => none
def notRow (r : Nat) : V → Bool
  | .ref r' _ _ => r' != r
  | _ => true
def appw (y : Ty) (e : TypeId) (s x : V) (H : Heap) (K : V → Heap → Prop) : Prop :=
  match elemsOf y x H with
  | none => False
  | some (m, news) => news.length = m * y.size ∧ news.all scal = true ∧ 0 < y.size ∧ 0 < y.bytes ∧
    match s with
    | .nil => m * y.bytes ≤ 140737488355328 ∧ K (.ref H.length 0 m) (H ++ [some ⟨e, y.size, news⟩])
    | .ref r 0 n => match rowOf H r with
      | some row => row.e = e ∧ row.s = y.size ∧ row.cs.length = n * y.size ∧ row.cs.all scal = true ∧ (n + m) * y.bytes ≤ 140737488355328 ∧ K (.ref H.length 0 (n + m)) (H.set r none ++ [some ⟨e, y.size, row.cs ++ news⟩])
      | none => False
    | .sl 0 _ => m = 0 ∧ K (.sl 0 []) H
    | _ => False

theorem nth_drop (l : List V) (a j : Nat) : nth (l.drop a) j = nth l (a + j) := by
  rw [nth_getD, nth_getD]; simp [List.getD, List.getElem?_drop]
theorem nth_take (l : List V) (a j : Nat) (h : j < a) : nth (l.take a) j = nth l j := by
  rw [nth_getD, nth_getD]; simp [List.getD, List.getElem?_take, h]

/-- What is appended: where it lies. -/
theorem elemsOf_VR {im : Nat → Prop} {pl : Nat → Place} {w : World} {H : Heap} {y : Ty} {x : V} {xc : Value} {m : Nat} {news : List V} (h : elemsOf y x H = some (m, news)) (hl : news.length = m * y.size) (hx : VR im pl w x xc) (hH : HR im pl w H) (hz : 0 < y.size) (hsc : news.all scal = true) :
    ∃ (a : Option Addr) (c : Nat) (vs : List Value), xc = .slice a m c ∧ vs.length = m * y.size ∧ (∀ j, VR im pl w (nth news j) (vs.getD j undef)) ∧ (∀ u ∈ vs, u.oneCell' = true) ∧
      ((∃ ad, a = some ad ∧ ∀ j u, vs[j]? = some u → w.cell? (ad.add j) = some u) ∨ (a = none ∧ m = 0)) := by
  have hone : ∀ (vs : List Value), vs.length = m * y.size → (∀ j, VR im pl w (nth news j) (vs.getD j undef)) → ∀ u ∈ vs, u.oneCell' = true := by
    intro vs hvl hv u hu
    obtain ⟨j, hj, rfl⟩ := List.mem_iff_getElem.1 hu
    have h1 := hv j
    rw [nth_getD] at h1
    simp only [List.getD, List.getElem?_eq_getElem hj, List.getElem?_eq_getElem (show j < news.length by omega), Option.getD_some] at h1
    refine (h1.oneCell ?_).1
    simp only [List.all_eq_true] at hsc
    exact hsc _ (List.getElem_mem _)
  have hnil : ∀ (a : Option Addr) (c : Nat), m = 0 → ∃ vs : List Value, vs.length = m * y.size ∧ (∀ j, VR im pl w (nth news j) (vs.getD j undef)) ∧ (∀ u ∈ vs, u.oneCell' = true) ∧
      ((∃ ad, a = some ad ∧ ∀ j u, vs[j]? = some u → w.cell? (ad.add j) = some u) ∨ (a = none ∧ m = 0)) := by
    intro a c hm
    have hn : news = [] := List.eq_nil_of_length_eq_zero (by rw [hl, hm]; simp)
    refine ⟨[], by simp [hm], fun j => by rw [hn]; exact .any _, by simp, ?_⟩
    cases a with
    | none => exact .inr ⟨rfl, hm⟩
    | some ad => exact .inl ⟨ad, rfl, fun j u hu => by simp at hu⟩
  cases x with
  | nil =>
    simp only [elemsOf, Option.some.injEq, Prod.mk.injEq] at h
    cases hx
    obtain ⟨vs, h1, h2, h3, h4⟩ := hnil none 0 h.1.symm
    exact ⟨none, 0, vs, by rw [← h.1], h1, h2, h3, h4⟩
  | sl m' cs =>
    simp only [elemsOf, Option.some.injEq, Prod.mk.injEq] at h
    obtain ⟨rfl, rfl⟩ := h
    cases hx with
    | sl0 _ a c =>
      obtain ⟨vs, h1, h2, h3, h4⟩ := hnil a c rfl
      exact ⟨a, c, vs, rfl, h1, h2, h3, h4⟩
    | sl _ _ ad c vs hn hi hc hr =>
      have hg : ∀ j, ((List.range cs.length).map vs).getD j undef = if j < cs.length then vs j else undef := by
        intro j
        by_cases hj : j < cs.length
        · simp [List.getD, hj]
        · simp [List.getD, hj]
      have hv : ∀ j, VR im pl w (nth cs j) (((List.range cs.length).map vs).getD j undef) := by
        intro j
        rw [hg]
        split
        · exact hr j
        · rw [nth_ge _ _ (by omega)]; exact .any _
      refine ⟨_, c, (List.range cs.length).map vs, rfl, by simp [hl], hv, hone _ (by simp [hl]) hv, .inl ⟨ad, rfl, fun j u hu => ?_⟩⟩
      simp only [List.getElem?_map, Option.map_eq_some_iff, List.getElem?_eq_some_iff] at hu
      obtain ⟨q, ⟨hq, rfl⟩, rfl⟩ := hu
      simp at hq ⊢
      exact hc _ hq
  | ref r off m' =>
    simp only [elemsOf] at h
    cases hrow : rowOf H r with
    | none => simp [hrow] at h
    | some row =>
      simp only [hrow, Option.some.injEq, Prod.mk.injEq] at h
      obtain ⟨rfl, rfl⟩ := h
      have hr := rowOf_some hrow
      rcases Nat.eq_zero_or_pos m' with hm | hm
      · have : ∃ a c, xc = .slice a m' c := by
          cases hx with
          | refAt _ _ _ b cap c hp hc h0 => exact ⟨_, _, rfl⟩
          | refVirt _ hp => exact ⟨_, _, rfl⟩
          | refDead _ _ _ a c hp => exact ⟨_, _, rfl⟩
        obtain ⟨a, c, rfl⟩ := this
        obtain ⟨vs, h1, h2, h3, h4⟩ := hnil a c hm
        exact ⟨a, c, vs, rfl, h1, h2, h3, h4⟩
      · have hpos : 0 < m' * y.size := Nat.mul_pos hm hz
        have hlen : off + m' * y.size ≤ row.cs.length := by
          simp only [List.length_take, List.length_drop] at hl; omega
        obtain ⟨b, cap, cur, hp, hb, hcs, hcap, hlc, hv⟩ := hH.block hr (by omega)
        cases hx with
        | refVirt _ hp' => omega
        | refDead _ _ _ a c hp' => rw [hp] at hp'; cases hp'
        | refAt _ _ _ b' cap' c hp' hc h0 =>
          rw [hp] at hp'
          injection hp' with e1 e2
          subst e1 e2
          have hg : ∀ j, ((List.range (m' * y.size)).map fun j => cur.getD (off + j) undef).getD j undef = if j < m' * y.size then cur.getD (off + j) undef else undef := by
            intro j
            by_cases hj : j < m' * y.size
            · simp [List.getD, hj]
            · simp [List.getD, hj]
          have hv2 : ∀ j, VR im pl w (nth ((row.cs.drop off).take (m' * y.size)) j) (((List.range (m' * y.size)).map fun j => cur.getD (off + j) undef).getD j undef) := by
            intro j
            rw [hg]
            split
            · rename_i hj; rw [nth_take _ _ _ hj, nth_drop]; exact hv _
            · rw [nth_ge _ _ (by rw [hl]; omega)]; exact .any _
          refine ⟨_, c, (List.range (m' * y.size)).map fun j => cur.getD (off + j) undef, rfl, by simp, hv2, hone _ (by simp) hv2, .inl ⟨_, rfl, fun j u hu => ?_⟩⟩
          simp only [List.getElem?_map, Option.map_eq_some_iff, List.getElem?_eq_some_iff] at hu
          obtain ⟨q, ⟨hq, rfl⟩, rfl⟩ := hu
          simp only [List.length_range] at hq
          simp only [List.getElem_range]
          rw [plain_add]
          exact cell_of_cells hb (by omega)
  | _ => simp [elemsOf] at h

theorem run_append_none {P : Program} (w : World) (t ty e : TypeId) (y : Ty) (ht : P.underlying t = some (.slice e)) (hy : OKt P e y) (a ax : Option Addr) (n c cx : Nat) (hn : n ≤ c) :
    (Builtin.append_ #[t, t] ty #[.slice a n c, .slice ax 0 cx]).run P w = .ok (.slice a n c) w := by
  obtain ⟨i, hi, hz, hs, hb⟩ := hy.parts
  cases a <;> cases ax <;> simp [Builtin.append_, run_underlying ht, sizeOf, typeInfo, hi, Builtin.lenOf, Builtin.firstCells, storeCells, loadCells, loadCellsFrom, hn]

theorem appw_sound {C : Ctx} {im : Nat → Prop} {pl : Nat → Place} {w : World} {H : Heap} {t e ty : TypeId} {s x : V} {sc xc : Value} {K : V → Heap → Prop}
    (ht : (C.ty t).ok = true) (hte : (C.ty t).sl = some e) (he : (C.ty e).ok = true) (h : appw (C.ty e) e s x H K) (hs : VR im pl w s sc) (hx : VR im pl w x xc) (hH : HR im pl w H) :
    ∃ v vc im' pl' w' H', (Builtin.append_ #[t, t] ty #[sc, xc]).run C.P w = .ok vc w' ∧ K v H' ∧ VR im' pl' w' v vc ∧ HR im' pl' w' H' ∧ Ext im pl w im' pl' w' := by
  have hy := C.ok e he
  have hsl := (C.ok t ht).slice hte
  obtain ⟨i, hi, hiz, his, hib⟩ := hy.parts
  unfold appw at h
  cases hel : elemsOf (C.ty e) x H with
  | none => rw [hel] at h; exact h.elim
  | some mn =>
    obtain ⟨m, news⟩ := mn
    rw [hel] at h
    obtain ⟨hnl, hsc, hz, hbp, h⟩ := h
    obtain ⟨a, c, vs, rfl, hvl, hvv, hone, hwhere⟩ := elemsOf_VR hel hnl hx hH hz hsc
    -- a row that is owned: append it
    have go : ∀ (kill : Option Nat) (n : Nat) (old : List V) (base : Nat) (xs : List Value) (b0 : Nat) , (∀ r, kill = some r → pl r = .virt ∨ ∃ cap, pl r = .at b0 cap) → w.ownsRow 0 e (C.ty e).size sc n xs → (sc = .slice none 0 0 ∨ ∃ r cap cap', kill = some r ∧ pl r = .at b0 cap ∧ sc = .slice (some ⟨b0, 0, none⟩) n cap') →
        old.length = n * (C.ty e).size → (∀ j, VR im pl w (nth old j) (xs.getD j undef)) → (n + m) * (C.ty e).bytes ≤ 140737488355328 →
        K (.ref H.length 0 (n + m)) (killH H kill ++ [some ⟨e, (C.ty e).size, old ++ news⟩]) →
        ∃ v vc im' pl' w' H', (Builtin.append_ #[t, t] ty #[sc, .slice a m c]).run C.P w = .ok vc w' ∧ K v H' ∧ VR im' pl' w' v vc ∧ HR im' pl' w' H' ∧ Ext im pl w im' pl' w' := by
      intro kill n old base xs b0 hkill hown hblk hol hov hby hK
      have hxl : xs.length = n * (C.ty e).size := hown.1
      have hlen : n + m ≤ maxLen := by
        have := Nat.le_trans (Nat.le_mul_of_pos_right (n + m) hbp) hby
        simp only [maxLen]; omega
      have hrun : ∃ v' w', (Builtin.append_ #[t, t] ty #[sc, .slice a m c]).run C.P w = .ok v' w' ∧ w'.ownsRow 0 e (C.ty e).size v' (n + m) (xs ++ vs) ∧ w.grownBy w' sc.ownBlock ∧ (v'.ownBlock = sc.ownBlock ∨ v'.ownBlock = some w.heap.size) := by
        rcases hwhere with ⟨ad, rfl, hcells⟩ | ⟨rfl, rfl⟩
        · obtain ⟨v', w', h1, h2, h3, _, h5⟩ := run_append_own_at (P := C.P) w 0 t ty e i (C.ty e).z (C.ty e).size (C.ty e).bytes hsl hi hiz his hib hy.zc hz sc n xs hown ad m c vs hvl hcells hone hlen hby (Nat.zero_le _)
          exact ⟨v', w', h1, h2, h3, h5⟩
        · have hvs : vs = [] := List.eq_nil_of_length_eq_zero (by rw [hvl]; simp)
          subst hvs
          have : ∃ a' c', sc = .slice a' n c' ∧ n ≤ c' := by
            rcases hown.2 with ⟨h1, h2⟩ | ⟨g, cap, cur, h1, _, _, h2, _⟩
            · exact ⟨none, 0, by rw [h1, h2], by omega⟩
            · exact ⟨_, cap, h1, h2⟩
          obtain ⟨a', c', rfl, hle⟩ := this
          exact ⟨_, w, run_append_none w t ty e (C.ty e) hsl hy a' none n c' c hle, by simpa using hown, World.grownBy.refl w _, .inl rfl⟩
      obtain ⟨v', w', hr, hown', hg, hat⟩ := hrun
      have hav : ∀ j, VR im pl w (nth (old ++ news) j) ((xs ++ vs).getD j undef) := by
        intro j
        rw [nth_append]
        split
        · rename_i hj
          have := hov j
          simpa [List.getD, List.getElem?_append_left (show j < xs.length by omega)] using this
        · rename_i hj
          have := hvv (j - old.length)
          simp only [List.getD, List.getElem?_append_right (show xs.length ≤ j by omega)]
          rw [hxl, ← hol]; exact this
      have hsco : ∀ k, sc.ownBlock = some k → k = b0 ∧ ∃ r cap, kill = some r ∧ pl r = .at b0 cap := by
        intro k hk
        rcases hblk with h1 | ⟨r, cap, cap', h1, h2, h3⟩
        · rw [h1] at hk; simp [Value.ownBlock] at hk
        · rw [h3] at hk; simp [Value.ownBlock] at hk; exact ⟨hk.symm, r, cap, h1, h2⟩
      have fin : ∀ (p : Place) (_ : VR im (setp (killp pl kill) H.length p) w' (.ref H.length 0 (n + m)) v'), ((p = .virt ∧ old ++ news = []) ∨ ∃ g cap cur, p = .at g cap ∧ ((∃ r c, kill = some r ∧ pl r = .at g c) ∨ w.heap.size ≤ g) ∧ g < w'.heap.size ∧ w'.heap[g]? = some (.cells cur e (0, 0)) ∧ cur.size = cap * (C.ty e).size ∧ cap ≤ maxLen ∧ (old ++ news).length ≤ cur.size ∧ ∀ j, VR im pl w (nth (old ++ news) j) (cur.getD j undef)) →
          ∃ v vc im' pl' w' H', (Builtin.append_ #[t, t] ty #[sc, .slice a m c]).run C.P w = .ok vc w' ∧ K v H' ∧ VR im' pl' w' v vc ∧ HR im' pl' w' H' ∧ Ext im pl w im' pl' w' := by
        intro p hv hp
        have := hH.append (w' := w') kill (fun r hr => (hkill r hr).imp id (fun ⟨cap, h⟩ => ⟨b0, cap, h⟩)) p e (C.ty e).size (old ++ news) hg.os hg.tape hg.output hg.size (fun k hk hn => hg.block k hk (fun e' => by
          obtain ⟨h1, r, cap, h2, h3⟩ := hsco k (by rw [e'])
          exact hn r cap h2 (by rw [h1]; exact h3))) hp
        exact ⟨_, _, im, _, w', _, hr, hK, hv, this.1, this.2⟩
      rcases hown'.2 with ⟨h1, h2⟩ | ⟨g, cap, cur, h1, _, h3, h4, h5, h6, h7⟩
      · have hm0 : m = 0 := by omega
        have hn0 : n = 0 := by omega
        subst hm0 hn0
        refine fin .virt (by rw [h1]; exact .refVirt _ (setp_same _ _ _)) (.inl ⟨rfl, ?_⟩)
        exact List.eq_nil_of_length_eq_zero (by rw [List.length_append, hol, hnl]; simp)
      · refine fin (.at g cap) (by rw [h1]; exact .refAt _ 0 _ g cap cap (setp_same _ _ _) h4 (fun _ => rfl)) (.inr ⟨g, cap, cur, rfl, ?_, (Array.getElem?_eq_some_iff.1 h3).1, h3, h6, h5, ?_, fun j => ?_⟩)
        · rcases hat with h8 | h8
          · rw [h1] at h8
            obtain ⟨h9, r, cap', h10, h11⟩ := hsco g (by rw [← h8]; rfl)
            exact .inl ⟨r, cap', h10, by rw [h9]; exact h11⟩
          · rw [h1] at h8; simp [Value.ownBlock] at h8; exact .inr (by omega)
        · rw [List.length_append, hol, hnl, h6, ← Nat.add_mul]; exact Nat.mul_le_mul_right _ h4
        · by_cases hj : j < (old ++ news).length
          · have := hav j
            rw [← h7] at this
            have hj2 : j < (n + m) * (C.ty e).size := by rw [List.length_append, hol, hnl, ← Nat.add_mul] at hj; exact hj
            simpa [List.getD, List.getElem?_take, hj2, Array.getD_eq_getD_getElem?] using this
          · rw [nth_ge _ _ (by omega)]; exact .any _
    cases s with
    | nil =>
      obtain ⟨hby, hK⟩ := h
      cases hs
      exact go none 0 [] 0 [] 0 (fun r hr => by cases hr) ⟨by simp, .inl ⟨rfl, rfl⟩⟩ (.inl rfl) (by simp) (fun j => by simp [nth]; exact .any _) (by simpa using hby) (by simpa [killH] using hK)
    | sl n cs =>
      cases n with
      | succ n => exact h.elim
      | zero =>
        obtain ⟨rfl, hK⟩ := h
        have : ∃ a' c', sc = .slice a' 0 c' := by
          cases hs with
          | sl0 _ a' c' => exact ⟨_, _, rfl⟩
          | sl _ _ ad c' vs' hn hi2 hc hr => exact ⟨_, _, rfl⟩
        obtain ⟨a', c', rfl⟩ := this
        exact ⟨_, _, im, pl, w, H, run_append_none w t ty e (C.ty e) hsl hy a' a 0 c' c (Nat.zero_le _), hK, .sl0 _ _ _, hH, .refl _ _ _⟩
    | ref r off n =>
      cases off with
      | succ off => exact h.elim
      | zero =>
        simp only at h
        cases hrow : rowOf H r with
        | none => rw [hrow] at h; exact h.elim
        | some row =>
          rw [hrow] at h
          obtain ⟨rfl, hrs, hol, hosc, hby, hK⟩ := h
          have hr := rowOf_some hrow
          rw [← hrs] at hol
          cases hs with
          | refDead _ _ _ a' c' hp => have := hH.dead r hp; rw [hr] at this; cases this
          | refVirt _ hp =>
            obtain ⟨e', s', h1⟩ := hH.virt r hp
            rw [hr] at h1; injection h1 with h1; injection h1 with h1
            have hc0 : row.cs = [] := by rw [h1]
            exact go (some r) 0 row.cs 0 [] 0 (fun q hq => by injection hq with hq; subst hq; exact .inl hp) ⟨by simp, .inl ⟨rfl, rfl⟩⟩ (.inl rfl) (by simp [hc0]) (fun j => by rw [hc0]; simp [nth]; exact .any _) hby (by simpa [killH] using hK)
          | refAt _ _ _ b cap c' hp hc h0 =>
            have hcc := h0 rfl
            subst hcc
            obtain ⟨e', s', cs', cur, h1, h2, h3, h4, h5, h6⟩ := hH.row r b c' hp
            rw [hr] at h1; injection h1 with h1; injection h1 with h1
            subst h1
            simp only at hrs hol hosc
            subst hrs
            refine go (some r) n cs' 0 (cur.toList.take (n * (C.ty e').size)) b (fun q hq => by injection hq with hq; subst hq; exact .inr ⟨c', hp⟩) ⟨?_, .inr ⟨b, c', cur, rfl, Nat.zero_le _, h2, hc, h4, h3, rfl⟩⟩ (.inr ⟨r, c', c', rfl, hp, rfl⟩) hol (fun j => ?_) hby (by simpa [killH] using hK)
            · simp only [List.length_take, Array.length_toList]; omega
            · by_cases hj : j < n * (C.ty e').size
              · have := h6 j
                simpa [List.getD, List.getElem?_take, hj, Array.getD_eq_getD_getElem?] using this
              · rw [nth_ge _ _ (by omega)]; exact .any _
    | _ => exact h.elim

end Go.Bv
end

section
/-
  PART 5: values that are built; arithmetic; addresses; slicing: each operation, and that the machine does as it says.
-/
set_option linter.unusedVariables false
set_option linter.unusedSimpArgs false
namespace Go.Bv
open Go.RowKit

/-! ### Values that are built -/
def kn : V → Bool
  | .any => false
  | _ => true
theorem VR.cells' {im : Nat → Prop} {pl : Nat → Place} {w : World} {v : V} {c : Value} (h : VR im pl w v c) (hs : kn v = true) :
    c.cells.toList.length = (cellsOf v).length ∧ (∀ j, VR im pl w (nth (cellsOf v) j) (c.cells.toList.getD j undef)) := by
  have one : ∀ v c, VR im pl w v c → ([c] : List Value).length = ([v] : List V).length ∧ ∀ j, VR im pl w (nth [v] j) ([c].getD j undef) := by
    intro v c h
    refine ⟨rfl, fun j => ?_⟩
    cases j with
    | zero => simpa [nth] using h
    | succ j => simp [nth]; exact .any _
  cases h with
  | any => simp [kn] at hs
  | agg cs vs hl hr => exact ⟨by simp [Value.cells, cellsOf, hl], fun j => by simpa [Value.cells, cellsOf] using hr j⟩
  | int => exact one _ _ (.int _ _)
  | bool => exact one _ _ (.bool _)
  | str => exact one _ _ (.str _)
  | nil => exact one _ _ .nil
  | sl0 => exact one _ _ (.sl0 _ _ _)
  | sl n cs ad c vs hn hi hc hr => exact one _ _ (.sl n cs ad c vs hn hi hc hr)
  | refAt r off n b cap c hp hc h0 => exact one _ _ (.refAt r off n b cap c hp hc h0)
  | refVirt r hp => exact one _ _ (.refVirt r hp)
  | refDead r off n a c hp => exact one _ _ (.refDead r off n a c hp)
  | tup cs vs hl hr => exact one _ _ (.tup cs vs hl hr)
  | ptrAt r off b cap hp => exact one _ _ (.ptrAt r off b cap hp)
  | ptrDead r off a hp => exact one _ _ (.ptrDead r off a hp)
  | nilp => exact one _ _ .nilp
  | rp cs off ad vs hi hc hr => exact one _ _ (.rp cs off ad vs hi hc hr)
  | fn f xs ys us vs hl hr hl' hr' => exact one _ _ (.fn f xs ys us vs hl hr hl' hr')
  | nilf => exact one _ _ .nilf

def vfill (place : Nat → Option (Nat × Nat)) (cells : List V) : List (Nat × V) → Option (List V)
  | [] => some cells
  | (i, v) :: rest =>
    match place i with
    | none => none
    | some (off, size) => if kn v = true ∧ (cellsOf v).length = size ∧ off + (cellsOf v).length ≤ cells.length then vfill place (puts cells off (cellsOf v)) rest else none

theorem foldl_put {im : Nat → Prop} {pl : Nat → Place} {w : World} (off : Nat) : ∀ (l : List Value) (ls : List V) (k : Nat) (cs : List V) (cells : Array Value), ls.length = l.length → cs.length = cells.size → off + k + l.length ≤ cs.length →
    (∀ j, VR im pl w (nth cs j) (cells.getD j undef)) → (∀ j, VR im pl w (nth ls j) (l.getD j undef)) →
    ((l.zipIdx k).foldl (fun cs (p : Value × Nat) => cs.setIfInBounds (off + p.2) p.1) cells).size = cells.size ∧ ∀ j, VR im pl w (nth (puts cs (off + k) ls) j) (((l.zipIdx k).foldl (fun cs (p : Value × Nat) => cs.setIfInBounds (off + p.2) p.1) cells).getD j undef) := by
  intro l
  induction l with
  | nil =>
    intro ls k cs cells h1 h2 h3 h4 h5
    have : ls = [] := List.eq_nil_of_length_eq_zero (by simpa using h1)
    subst this
    exact ⟨rfl, h4⟩
  | cons a l ih =>
    intro ls k cs cells h1 h2 h3 h4 h5
    cases ls with
    | nil => simp at h1
    | cons v ls =>
      simp only [List.length_cons] at h1 h3
      simp only [List.zipIdx_cons, List.foldl_cons, puts]
      have := ih ls (k + 1) (upd cs (off + k) v) (cells.setIfInBounds (off + k) a) (by omega) (by simp [upd_length, h2]) (by rw [upd_length]; omega) (fun j => by
        rw [nth_upd]
        by_cases hj : j = off + k
        · subst hj
          rw [if_pos ⟨rfl, by omega⟩]
          have := h5 0
          simp only [nth, List.getD_cons_zero] at this
          simpa [Array.getD_eq_getD_getElem?, Array.getElem?_setIfInBounds, show off + k < cells.size by omega] using this
        · rw [if_neg (by omega)]
          have := h4 j
          simpa [Array.getD_eq_getD_getElem?, Array.getElem?_setIfInBounds, Ne.symm hj] using this) (fun j => by have := h5 (j + 1); simpa [nth] using this)
      rw [show off + (k + 1) = off + k + 1 by omega] at this
      simpa using this

theorem vfill_sound {im : Nat → Prop} {pl : Nat → Place} {w : World} (place : Nat → Option (Nat × Nat)) : ∀ (parts : List (Nat × V)) (vparts : List (Nat × Value)) (cs : List V) (cells : Array Value) (out : List V),
    vfill place cs parts = some out → parts.map (·.1) = vparts.map (·.1) → (∀ (j : Nat) (p : Nat × V) (q : Nat × Value), parts[j]? = some p → vparts[j]? = some q → VR im pl w p.2 q.2) → cs.length = cells.size → (∀ j, VR im pl w (nth cs j) (cells.getD j undef)) →
    ∃ res, Instr.fill place cells vparts = some res ∧ out.length = res.size ∧ out.length = cs.length ∧ ∀ j, VR im pl w (nth out j) (res.getD j undef) := by
  intro parts
  induction parts with
  | nil =>
    intro vparts cs cells out h1 h2 h3 h4 h5
    cases vparts with
    | cons q l => simp at h2
    | nil => simp only [vfill, Option.some.injEq] at h1; subst h1; exact ⟨cells, rfl, h4, rfl, h5⟩
  | cons p parts ih =>
    intro vparts cs cells out h1 h2 h3 h4 h5
    cases vparts with
    | nil => simp at h2
    | cons q vparts =>
      obtain ⟨i, v⟩ := p
      obtain ⟨i', c⟩ := q
      simp only [List.map_cons, List.cons.injEq] at h2
      obtain ⟨rfl, h2⟩ := h2
      simp only [vfill] at h1
      simp only [Instr.fill]
      cases hp : place i with
      | none => simp [hp] at h1
      | some os =>
        obtain ⟨off, size⟩ := os
        simp only [hp] at h1 ⊢
        by_cases hc : kn v = true ∧ (cellsOf v).length = size ∧ off + (cellsOf v).length ≤ cs.length
        · rw [if_pos hc] at h1
          obtain ⟨hk, hs, hle⟩ := hc
          have hv : VR im pl w v c := h3 0 _ _ rfl rfl
          obtain ⟨c1, c2⟩ := hv.cells' hk
          have hcs : c.cells.size = size := by rw [← hs, ← c1]; simp
          have hif : ¬ ((c.cells.size ≠ size || off + c.cells.size > cells.size) = true) := by
            have : off + c.cells.size ≤ cells.size := by rw [← h4, hcs, ← hs]; exact hle
            simp [hcs]; omega
          rw [if_neg hif]
          have hf := foldl_put (im := im) (pl := pl) (w := w) off c.cells.toList (cellsOf v) 0 cs cells c1.symm h4 (by rw [c1]; omega) h5 c2
          have he : (Array.foldl (fun cs (x : Value × Nat) => match x with | (c, j) => cs.setIfInBounds (off + j) c) cells c.cells.zipIdx) = (c.cells.toList.zipIdx 0).foldl (fun cs (p : Value × Nat) => cs.setIfInBounds (off + p.2) p.1) cells := by
            rw [← Array.foldl_toList, Array.toList_zipIdx]
          rw [he]
          obtain ⟨res, r1, r2, r3, r4⟩ := ih vparts _ _ out h1 h2 (fun j p q hp hq => h3 (j + 1) p q hp hq) (by rw [puts_length, hf.1]; exact h4) hf.2
          exact ⟨res, r1, r2, by rw [r3, puts_length], r4⟩
        · rw [if_neg hc] at h1; cases h1

def zsOf (y : Ty) : List V := y.z.cells.toList.map cv1
theorem zs_VR {im : Nat → Prop} {pl : Nat → Place} {w : World} {P : Program} {t : TypeId} {y : Ty} (hy : OKt P t y) : (zsOf y).length = y.z.cells.size ∧ ∀ j, VR im pl w (nth (zsOf y) j) (y.z.cells.getD j undef) := by
  refine ⟨by simp [zsOf], fun j => ?_⟩
  have := cv1_nth im pl w y.z.cells.toList j
  simpa [zsOf, Array.getD_eq_getD_getElem?, List.getD] using this

def buildw (ty : TypeId → Ty) (t : TypeId) (parts : List (Nat × V)) (K : V → Prop) : Prop :=
  (ty t).fs ≠ [] ∧ (ty t).fs.all (fun p => (ty p.2).ok) = true ∧
    match vfill (fun i => ((ty t).fs[i]?).map fun p => (p.1, (ty p.2).size)) (zsOf (ty t)) parts with
    | some out => K (.agg out)
    | none => False

theorem parts_rel {im : Nat → Prop} {pl : Nat → Place} {w : World} {ts : List V} {a : Act} (h : TR im pl w ts a.tmps) (parts : Array (Nat × Operand)) :
    (parts.toList.map fun p => (p.1, ev ts p.2)).map (·.1) = (parts.map fun (i, x) => (i, a.eval x)).toList.map (·.1) ∧
    ∀ (j : Nat) (p : Nat × V) (q : Nat × Value), (parts.toList.map fun p => (p.1, ev ts p.2))[j]? = some p → (parts.map fun (i, x) => (i, a.eval x)).toList[j]? = some q → VR im pl w p.2 q.2 := by
  refine ⟨by simp, fun j p q hp hq => ?_⟩
  simp only [List.getElem?_map, Option.map_eq_some_iff, Array.toList_map] at hp hq
  obtain ⟨x, hx, rfl⟩ := hp
  obtain ⟨x', hx', rfl⟩ := hq
  rw [hx] at hx'
  injection hx' with hx'
  subst hx'
  exact ev_VR h _

theorem buildw_sound {C : Ctx} {im : Nat → Prop} {pl : Nat → Place} {w : World} {t : TypeId} {ts : List V} {a : Act} {parts : Array (Nat × Operand)} {K : V → Prop} (ht : (C.ty t).ok = true)
    (h : buildw C.ty t (parts.toList.map fun p => (p.1, ev ts p.2)) K) (hts : TR im pl w ts a.tmps) : ∃ v vc, (Instr.build t (parts.map fun (i, x) => (i, a.eval x))).run C.P w = .ok vc w ∧ K v ∧ VR im pl w v vc := by
  obtain ⟨hne, hall, h⟩ := h
  have hy := C.ok t ht
  obtain ⟨i, hi, hiz, his, hib⟩ := hy.parts
  obtain ⟨fs, hu, hfs⟩ := hy.struct_fs hne
  obtain ⟨hp1, hp2⟩ := parts_rel hts parts
  have hz := zs_VR (im := im) (pl := pl) (w := w) hy
  cases hv : vfill (fun i => ((C.ty t).fs[i]?).map fun p => (p.1, (C.ty p.2).size)) (zsOf (C.ty t)) (parts.toList.map fun p => (p.1, ev ts p.2)) with
  | none => rw [hv] at h; exact h.elim
  | some out =>
    rw [hv] at h
    obtain ⟨res, r1, r2, _, r4⟩ := vfill_sound _ _ _ _ _ _ hv hp1 hp2 hz.1 hz.2
    refine ⟨_, .agg res, run_build w t _ res ?_, h, ?_⟩
    · unfold Program.built
      have hm : fs.toList.mapM (fun f => (C.P.info? f.type).map fun i => (f.offset, i.size)) = some ((C.ty t).fs.map fun p => (p.1, (C.ty p.2).size)) := by
        rw [hfs] at hall ⊢
        clear hfs hu hv r1 h hp1 hp2
        generalize fs.toList = l at hall ⊢
        induction l with
        | nil => rfl
        | cons f l ih =>
          simp only [List.map_cons, List.all_cons, Bool.and_eq_true] at hall
          obtain ⟨j, hj, _, hjs, _⟩ := (C.ok f.type hall.1).parts
          simp only [List.mapM_cons, hj, Option.map_some, Option.bind_eq_bind, Option.bind_some, Option.pure_def, ih hall.2, List.map_cons, hjs]
      simp only [hi, hu, hiz, hm]
      have : (fun x : Nat => (((C.ty t).fs.map fun p : Nat × Nat => (p.1, (C.ty p.2).size)).toArray)[x]?) = fun i => ((C.ty t).fs[i]?).map fun p => (p.1, (C.ty p.2).size) := by
        funext x; simp
      rw [this]
      exact r1
    · have := VR.agg (im := im) (pl := pl) (w := w) out res.toList (by simpa using r2) (fun j => by have := r4 j; simpa [Array.getD_eq_getD_getElem?, List.getD] using this)
      simpa using this

/-! ### Slices that are made -/
def mkCells (n : Nat) (zs : List V) : List V := (List.replicate n zs).flatten
theorem mkCells_length (n : Nat) (zs : List V) : (mkCells n zs).length = n * zs.length := by simp [mkCells]
theorem nth_mkCells (n : Nat) (zs : List V) : ∀ j, j < n * zs.length → nth (mkCells n zs) j = nth zs (j % zs.length) := by
  induction n with
  | zero => intro j hj; omega
  | succ n ih =>
    intro j hj
    have e : mkCells (n + 1) zs = zs ++ mkCells n zs := by simp [mkCells, List.replicate_succ]
    rw [e, nth_append]
    split
    · rename_i h; rw [Nat.mod_eq_of_lt h]
    · rename_i h
      rw [Nat.succ_mul] at hj
      rw [ih _ (by omega), ← Nat.mod_eq_sub_mod (by omega)]

def makew (ty : TypeId → Ty) (t : TypeId) (l c : V) (H : Heap) (K : V → Heap → Prop) : Prop :=
  match (ty t).sl, l, c with
  | some e, .int _ n, .int _ m => (ty e).ok = true ∧ n = m ∧ 0 ≤ n ∧ n ≤ 9223372036854775807 ∧ (ty e).bytes * n.toNat ≤ 281474976710656 ∧ K (.ref H.length 0 n.toNat) (H ++ [some ⟨e, (ty e).size, mkCells n.toNat (zsOf (ty e))⟩])
  | _, _, _ => False

theorem makew_sound {C : Ctx} {im : Nat → Prop} {pl : Nat → Place} {w : World} {H : Heap} {t : TypeId} {l c : V} {lc cc : Value} {K : V → Heap → Prop} (ht : (C.ty t).ok = true)
    (h : makew C.ty t l c H K) (hl : VR im pl w l lc) (hc : VR im pl w c cc) (hH : HR im pl w H) :
    ∃ v vc im' pl' w' H', (Instr.makeSlice t lc cc).run C.P w = .ok vc w' ∧ K v H' ∧ VR im' pl' w' v vc ∧ HR im' pl' w' H' ∧ Ext im pl w im' pl' w' := by
  unfold makew at h
  split at h
  · rename_i e k n k' m hsl
    obtain ⟨he, rfl, h0, h63, hb, hK⟩ := h
    cases hl
    cases hc
    have hy := C.ok e he
    obtain ⟨i, hi, hiz, his, hib⟩ := hy.parts
    obtain ⟨q, rfl⟩ := Int.eq_ofNat_of_zero_le h0
    simp only [Int.toNat_natCast] at hb hK
    obtain ⟨w', hr, hown, hg⟩ := run_make_full (P := C.P) w 0 t e i (C.ty e).z (C.ty e).size ((C.ok t ht).slice hsl) hi hiz his k k' q (by rw [hib]; exact hb) (by simp only [maxLen]; omega) (Nat.zero_le _)
    have hz := zs_VR (im := im) (pl := pl) (w := w) hy
    have hzl : (zsOf (C.ty e)).length = (C.ty e).size := hz.1.trans hy.zc
    rcases hown.2 with ⟨h1, _⟩ | ⟨g, cap, cur, h1, _, h3, h4, h5, h6, h7⟩
    · cases h1
    · injection h1 with h1 h1' h1''
      injection h1 with h1
      injection h1 with h1
      subst h1 h1''
      have hcs : cur.size = q * (C.ty e).size := h6
      have hcur : cur.toList = (madeCells (C.ty e).z.cells (q * (C.ty e).size)).toList := by
        rw [← h7, List.take_of_length_le (by simp [hcs])]
      have := hH.append (w' := w') none (fun r hr => by cases hr) (.at w.heap.size q) e (C.ty e).size (mkCells q (zsOf (C.ty e))) hg.os hg.tape hg.output hg.size (fun k hk _ => hg.block k hk (by simp))
        (.inr ⟨w.heap.size, q, cur, rfl, .inr (Nat.le_refl _), (Array.getElem?_eq_some_iff.1 h3).1, h3, h6, h5, by rw [mkCells_length, hzl, hcs]; exact Nat.le_refl _, fun j => ?_⟩)
      · exact ⟨_, _, im, _, w', _, hr, by simpa [killH] using hK, .refAt _ 0 _ _ q q (setp_same _ _ _) (Nat.le_refl _) (fun _ => rfl), this.1, this.2⟩
      · by_cases hj : j < q * (C.ty e).size
        · rw [nth_mkCells _ _ _ (by rw [hzl]; exact hj), hzl]
          have h8 := hz.2 (j % (C.ty e).size)
          have hpos : 0 < (C.ty e).size := Nat.pos_of_ne_zero (fun e0 => by rw [e0] at hj; omega)
          have hmod : j % (C.ty e).size < (C.ty e).z.cells.size := by rw [hy.zc]; exact Nat.mod_lt _ hpos
          have h9 : cur.getD j undef = (C.ty e).z.cells.getD (j % (C.ty e).size) undef := by
            rw [Array.getD_eq_getD_getElem?, ← Array.getElem?_toList, hcur]
            simp [madeCells, hj, hy.zc, Array.getD_eq_getD_getElem?, hmod, getElem!_pos, Nat.mod_lt _ hpos]
          rw [h9]; exact h8
        · rw [nth_ge _ _ (by rw [mkCells_length, hzl]; omega)]; exact .any _
  · exact h.elim

def buildSlw (ty : TypeId → Ty) (t : TypeId) (len : Nat) (parts : List (Nat × V)) (H : Heap) (K : V → Heap → Prop) : Prop :=
  match (ty t).sl with
  | some e => (ty e).ok = true ∧ len * (ty e).size ≤ 16777216 ∧ 0 < (ty e).size ∧
    match vfill (fun i => some (i * (ty e).size, (ty e).size)) (List.replicate (len * (ty e).size) .any) parts with
    | some out => K (.ref H.length 0 len) (H ++ [some ⟨e, (ty e).size, out⟩])
    | none => False
  | none => False

theorem buildSlw_sound {C : Ctx} {im : Nat → Prop} {pl : Nat → Place} {w : World} {H : Heap} {t : TypeId} {len : Nat} {ts : List V} {a : Act} {parts : Array (Nat × Operand)} {K : V → Heap → Prop} (ht : (C.ty t).ok = true)
    (h : buildSlw C.ty t len (parts.toList.map fun p => (p.1, ev ts p.2)) H K) (hts : TR im pl w ts a.tmps) (hH : HR im pl w H) :
    ∃ v vc im' pl' w' H', (Instr.buildSlice t len (parts.map fun (i, x) => (i, a.eval x))).run C.P w = .ok vc w' ∧ K v H' ∧ VR im' pl' w' v vc ∧ HR im' pl' w' H' ∧ Ext im pl w im' pl' w' := by
  unfold buildSlw at h
  cases hsl : (C.ty t).sl with
  | none => rw [hsl] at h; exact h.elim
  | some e =>
    rw [hsl] at h
    obtain ⟨he, hsmall, hpos, h⟩ := h
    have hy := C.ok e he
    have hu := (C.ok t ht).slice hsl
    obtain ⟨i, hi, hiz, his, hib⟩ := hy.parts
    obtain ⟨hp1, hp2⟩ := parts_rel hts parts
    cases hv : vfill (fun i => some (i * (C.ty e).size, (C.ty e).size)) (List.replicate (len * (C.ty e).size) .any) (parts.toList.map fun p => (p.1, ev ts p.2)) with
    | none => simp only [hv] at h
    | some out =>
      simp only [hv] at h
      let zero : Array Value := if len * (C.ty e).size = 0 then #[] else (C.ty e).z.cells
      obtain ⟨res, r1, r2, r3, r4⟩ := vfill_sound (im := im) (pl := pl) (w := w) _ _ _ _ ((Array.range (len * (C.ty e).size)).map (zero[· % zero.size]!)) _ hv hp1 hp2 (by simp) (fun j => by
        rw [nth_getD]
        by_cases hj : j < len * (C.ty e).size
        · simp [List.getD, List.getElem?_replicate, hj]; exact .any _
        · simp [List.getD, List.getElem?_replicate, hj]; exact .any _)
      have hol : out.length = len * (C.ty e).size := by rw [r3]; simp
      have hlen : len ≤ maxLen := by
        have := Nat.le_trans (Nat.le_mul_of_pos_right len hpos) hsmall
        simp only [maxLen]; omega
      have hrun : (Instr.buildSlice t len (parts.map fun (i, x) => (i, a.eval x))).run C.P w = .ok (.slice (some ⟨w.heap.size, 0, none⟩) len len) (w.alloc (.cells res e)) := by
        have r1' : Instr.fill (fun i => some (i * (C.ty e).size, (C.ty e).size)) ((Array.range (len * (C.ty e).size)).map (zero[· % zero.size]!)) (parts.map fun x => (x.1, a.eval x.2)).toList = some res := r1
        have hnr : ∀ w, (newRow e res).run C.P w = .ok ⟨w.heap.size, 0, none⟩ (w.alloc (.cells res e)) := by
          intro w
          simp only [newRow, newObj, Sem.run_bind, Sem.run, Sem.run_pure, Result.andThen_ok]; rfl
        simp only [Instr.buildSlice, Sem.run_bind, run_underlying hu, Result.andThen_ok, hy.sizeOf]
        rw [if_neg (by omega)]
        by_cases h0 : len * (C.ty e).size = 0
        · have hz0 : zero = #[] := if_pos h0
          rw [hz0] at r1'
          rw [if_pos h0]
          simp only [Sem.run_bind, Sem.run_pure, Result.andThen_ok]
          rw [r1']
          simp only [Sem.run_bind, hnr, Sem.run_pure, Result.andThen_ok]
        · have hz0 : zero = (C.ty e).z.cells := if_neg h0
          rw [hz0] at r1'
          rw [if_neg h0]
          simp only [Sem.run_bind, hy.zero, Sem.run_pure, Result.andThen_ok]
          rw [r1']
          simp only [Sem.run_bind, hnr, Sem.run_pure, Result.andThen_ok]
      have hA := hH.alloc e (C.ty e).size len out res (by omega) hlen (by omega) r4
      exact ⟨_, _, im, _, _, _, hrun, h, .refAt _ 0 _ _ len len (setp_same _ _ _) (Nat.le_refl _) (fun _ => rfl), hA.1, hA.2⟩

end Go.Bv
end

section
/-
  PART 6: all operations that call nothing.
-/
set_option linter.unusedVariables false
set_option linter.unusedSimpArgs false
namespace Go.Bv
open Go.RowKit

def intw (op : BinOp) (k : IntKind) (a : Int) (k' : IntKind) (b : Int) (K : V → Prop) : Prop :=
  match op with
  | .add => k = k' ∧ K (.int k (k.wrap (a + b)))
  | .sub => k = k' ∧ K (.int k (k.wrap (a - b)))
  | .mul => k = k' ∧ K (.int k (k.wrap (a * b)))
  | .quo => k = k' ∧ b ≠ 0 ∧ K (.int k (k.wrap (a.tdiv b)))
  | .rem => k = k' ∧ b ≠ 0 ∧ K (.int k (a.tmod b))
  | .eql => k = k' ∧ K (.bool (a == b))
  | .neq => k = k' ∧ K (.bool (a != b))
  | .lss => k = k' ∧ K (.bool (decide (a < b)))
  | .leq => k = k' ∧ K (.bool (decide (a ≤ b)))
  | .gtr => k = k' ∧ K (.bool (decide (a > b)))
  | .geq => k = k' ∧ K (.bool (decide (a ≥ b)))
  | .shl => 0 ≤ b ∧ K (.int k (k.wrap (a * 2 ^ (min b.toNat k.bits))))
  | .shr => 0 ≤ b ∧ K (.int k (a.fdiv (2 ^ (min b.toNat k.bits))))
  | .and => k = k' ∧ K (.int k (k.wrap ((BitVec.ofInt k.bits a &&& BitVec.ofInt k.bits b).toNat : Int)))
  | .or => k = k' ∧ K (.int k (k.wrap ((BitVec.ofInt k.bits a ||| BitVec.ofInt k.bits b).toNat : Int)))
  | .xor => k = k' ∧ K (.int k (k.wrap ((BitVec.ofInt k.bits a ^^^ BitVec.ofInt k.bits b).toNat : Int)))
  | .andNot => k = k' ∧ K (.int k (k.wrap ((BitVec.ofInt k.bits a &&& ~~~ BitVec.ofInt k.bits b).toNat : Int)))
def binw (y : Ty) (op : BinOp) (a b : V) (H : Heap) (K : V → Prop) : Prop :=
  match a, b with
  | .int k a, .int k' b => intw op k a k' b K
  | .bool a, .bool b => y.bl = true ∧ match op with
    | .eql => K (.bool (a == b))
    | .neq => K (.bool (!(a == b)))
    | _ => False
  | .str a, .str b => match op with
    | .eql => K (.bool (a.toList == b.toList))
    | .neq => K (.bool (!(a.toList == b.toList)))
    | _ => False
  | .nil, .nil => y.sl.isSome = true ∧ match op with
    | .eql => K (.bool true)
    | .neq => K (.bool false)
    | _ => False
  | .sl n _, .nil => y.sl.isSome = true ∧ match op with
    | .eql => K (.bool false) ∧ (n = 0 → K (.bool true))
    | .neq => K (.bool true) ∧ (n = 0 → K (.bool false))
    | _ => False
  | .ref r _ n, .nil => y.sl.isSome = true ∧ (rowOf H r).isSome = true ∧ match op with
    | .eql => K (.bool false) ∧ (n = 0 → K (.bool true))
    | .neq => K (.bool true) ∧ (n = 0 → K (.bool false))
    | _ => False
  | _, _ => False

theorem VR.slice_none {im : Nat → Prop} {pl : Nat → Place} {w : World} {n : Nat} {cs : List V} {c : Value} (h : VR im pl w (.sl n cs) c) : ∃ a cap, c = .slice a n cap ∧ (a.isNone = true → n = 0) := by
  cases h with
  | sl0 _ a c => exact ⟨a, c, rfl, fun _ => rfl⟩
  | sl _ _ ad c vs hn hi hc hr => exact ⟨some ad, c, rfl, fun h => by simp at h⟩
theorem VR.ref_none {im : Nat → Prop} {pl : Nat → Place} {w : World} {H : Heap} (hH : HR im pl w H) {r off n : Nat} {c : Value} (h : VR im pl w (.ref r off n) c) : ∃ a cap, c = .slice a n cap ∧ (a.isNone = true → n = 0 ∨ pl r = .dead) := by
  cases h with
  | refAt _ _ _ b cap c hp hc h0 => exact ⟨_, _, rfl, fun h => by simp at h⟩
  | refVirt _ hp => exact ⟨_, _, rfl, fun _ => .inl rfl⟩
  | refDead _ _ _ a c hp => exact ⟨a, c, rfl, fun _ => .inr hp⟩

theorem run_slice_eq {P : Program} (w : World) (t e : TypeId) (op : BinOp) (ox oy : Operand) (a : Option Addr) (n c : Nat) (h : P.underlying t = some (.slice e)) (b : Bool) (hop : op = .eql ∧ b = a.isNone ∨ op = .neq ∧ b = !a.isNone) :
    ((do eqGuard op t ox oy (.slice a n c) (.slice none 0 0); binOp op t (.slice a n c) (.slice none 0 0)) : Sem Value).run P w = .ok (.bool b) w := by
  have he : ∀ d : Nat, (Op.equalIn (d + 1) t (.slice a n c) (.slice none 0 0)).run P w = .ok a.isNone w := fun d => by
    cases a <;> simp [Op.equalIn, run_underlying h]
  rcases hop with ⟨rfl, rfl⟩ | ⟨rfl, rfl⟩
  · simp [eqGuard, binOp, Op.equal, Op.maxDepth, he 9999]
  · simp [eqGuard, binOp, Op.equal, Op.maxDepth, he 9999]

theorem intw_sound {P : Program} {w : World} {t : TypeId} {ox oy : Operand} {op : BinOp} {k k' : IntKind} {a b : Int} {K : V → Prop} (h : intw op k a k' b K) (im : Nat → Prop) (pl : Nat → Place) :
    ∃ v vc, ((do eqGuard op t ox oy (.int k a) (.int k' b); binOp op t (.int k a) (.int k' b)) : Sem Value).run P w = .ok vc w ∧ K v ∧ VR im pl w v vc := by
  unfold intw at h
  cases op <;> simp only at h
  case and | or | xor | andNot => obtain ⟨rfl, h⟩ := h; exact ⟨_, _, by simp [eqGuard, binOp, Op.intBits, -BitVec.toNat_and, -BitVec.toNat_or, -BitVec.toNat_xor, -BitVec.toNat_ofInt, -BitVec.toNat_not], h, .int _ _⟩
  case shl | shr => obtain ⟨hb, h⟩ := h; exact ⟨_, _, by simp [eqGuard, binOp, Op.shift, Int.not_lt.2 hb], h, .int _ _⟩
  case quo | rem => obtain ⟨rfl, hb, h⟩ := h; exact ⟨_, _, by simp [eqGuard, binOp, Op.intDiv, hb], h, .int _ _⟩
  all_goals first
    | (obtain ⟨rfl, h⟩ := h; exact ⟨_, _, by simp [eqGuard, binOp, Op.intArith, Op.intCmp], h, .int _ _⟩)
    | (obtain ⟨rfl, h⟩ := h; exact ⟨_, _, by simp [eqGuard, binOp, Op.intArith, Op.intCmp], h, .bool _⟩)

theorem binw_sound {C : Ctx} {im : Nat → Prop} {pl : Nat → Place} {w : World} {H : Heap} {t : TypeId} {ox oy : Operand} {op : BinOp} {x y : V} {xc yc : Value} {K : V → Prop} (ht : (C.ty t).ok = true)
    (h : binw (C.ty t) op x y H K) (hx : VR im pl w x xc) (hy : VR im pl w y yc) (hH : HR im pl w H) :
    ∃ v vc, ((do eqGuard op t ox oy xc yc; binOp op t xc yc) : Sem Value).run C.P w = .ok vc w ∧ K v ∧ VR im pl w v vc := by
  have hok := C.ok t ht
  unfold binw at h
  split at h
  · cases hx; cases hy; exact intw_sound h im pl
  · cases hx; cases hy
    obtain ⟨hb, h⟩ := h
    have hu := hok.bool hb
    have := fun a b => run_equal_bool w t a b hu
    rename_i a b
    cases op <;> simp only at h <;> first
      | exact h.elim
      | exact ⟨_, _, by simp [eqGuard, binOp, this], h, .bool _⟩
  · cases hx; cases hy
    cases op <;> simp only at h <;> first
      | exact h.elim
      | exact ⟨_, _, by simp [eqGuard, binOp, Op.stringOp], h, .bool _⟩
  · cases hx; cases hy
    obtain ⟨hb, h⟩ := h
    obtain ⟨e, he⟩ := Option.isSome_iff_exists.1 hb
    have hu := hok.slice he
    cases op <;> simp only at h <;> first
      | exact h.elim
      | exact ⟨_, _, run_slice_eq w t e _ ox oy none 0 0 hu _ (by simp), h, .bool _⟩
  · cases hy
    obtain ⟨a, cap, rfl, ha⟩ := hx.slice_none
    obtain ⟨hb, h⟩ := h
    obtain ⟨e, he⟩ := Option.isSome_iff_exists.1 hb
    have hu := hok.slice he
    rename_i n _
    cases op <;> simp only at h <;> first
      | exact h.elim
      | (cases hn : a.isNone with
         | true => exact ⟨_, _, run_slice_eq w t e _ ox oy a n cap hu _ (by simp [hn]), h.2 (ha hn), .bool _⟩
         | false => exact ⟨_, _, run_slice_eq w t e _ ox oy a n cap hu _ (by simp [hn]), h.1, .bool _⟩)
  · cases hy
    rename_i r _ n
    obtain ⟨a, cap, rfl, ha⟩ := hx.ref_none hH
    obtain ⟨hb, hrow, h⟩ := h
    obtain ⟨e, he⟩ := Option.isSome_iff_exists.1 hb
    obtain ⟨row, hrow⟩ := Option.isSome_iff_exists.1 hrow
    have hu := hok.slice he
    have ha' : a.isNone = true → n = 0 := fun hn => (ha hn).resolve_right (fun hd => by have h1 := hH.dead r hd; rw [rowOf_some hrow] at h1; cases h1)
    cases op <;> simp only at h <;> first
      | exact h.elim
      | (cases hn : a.isNone with
         | true => exact ⟨_, _, run_slice_eq w t e _ ox oy a n cap hu _ (by simp [hn]), h.2 (ha' hn), .bool _⟩
         | false => exact ⟨_, _, run_slice_eq w t e _ ox oy a n cap hu _ (by simp [hn]), h.1, .bool _⟩)
  · exact h.elim

end Go.Bv
end

section
/-
  PART 7: the other operations; one function for all of them, and that the machine does as it says.
-/
set_option linter.unusedVariables false
set_option linter.unusedSimpArgs false
namespace Go.Bv
open Go.RowKit

def pickw (c a b : V) (K : V → Prop) : Prop :=
  match c with
  | .bool t => (t = true → K a) ∧ (t = false → K b)
  | _ => False
theorem pickw_sound {P : Program} {im : Nat → Prop} {pl : Nat → Place} {w : World} {c a b : V} {cc ac bc : Value} {K : V → Prop} (h : pickw c a b K) (hc : VR im pl w c cc) (ha : VR im pl w a ac) (hb : VR im pl w b bc) :
    ∃ v vc, ((do pure (.value (if ← asBool cc then ac else bc))) : Sem Next).run P w = .ok (.value vc) w ∧ K v ∧ VR im pl w v vc := by
  unfold pickw at h
  split at h
  · cases hc
    rename_i t
    cases t with
    | true => exact ⟨_, _, by simp [asBool], h.1 rfl, ha⟩
    | false => exact ⟨_, _, by simp [asBool], h.2 rfl, hb⟩
  · exact h.elim

def unw (op : UnOp) (x : V) (K : V → Prop) : Prop :=
  match op, x with
  | .neg, .int k n => K (.int k (k.wrap (0 - n)))
  | .not, .bool b => K (.bool (!b))
  | _, _ => False
theorem unw_sound {P : Program} {im : Nat → Prop} {pl : Nat → Place} {w : World} {op : UnOp} {x : V} {xc : Value} {K : V → Prop} (h : unw op x K) (hx : VR im pl w x xc) :
    ∃ v vc, (Op.unary op xc).run P w = .ok vc w ∧ K v ∧ VR im pl w v vc := by
  unfold unw at h
  split at h
  · cases hx; exact ⟨_, _, by simp [Op.unary, Op.intArith], h, .int _ _⟩
  · cases hx; exact ⟨_, _, by simp [Op.unary], h, .bool _⟩
  · exact h.elim

def convw (d : Ty) (x : V) (K : V → Prop) : Prop :=
  match d.ik, x with
  | some k, .int _ n => K (.int k (k.wrap n))
  | _, _ => False
theorem convw_sound {C : Ctx} {im : Nat → Prop} {pl : Nat → Place} {w : World} {s d : TypeId} {x : V} {xc : Value} {K : V → Prop} (hs : (C.ty s).ok = true) (hd : (C.ty d).ok = true) (h : convw (C.ty d) x K) (hx : VR im pl w x xc) :
    ∃ v vc, (convert s d xc).run C.P w = .ok vc w ∧ K v ∧ VR im pl w v vc := by
  unfold convw at h
  split at h
  · rename_i k k' n hk
    cases hx
    obtain ⟨ds, hu, _⟩ := (C.ok s hs).und
    have hi := (C.ok d hd).int hk
    exact ⟨_, _, by simp [convert, run_underlying hu, run_underlying hi, Conv.intToInt], h, .int _ _⟩
  · exact h.elim

def extw (x : V) (i : Nat) (K : V → Prop) : Prop :=
  match x with
  | .tup vs => i < vs.length ∧ K (nth vs i)
  | _ => False
theorem extw_sound {P : Program} {im : Nat → Prop} {pl : Nat → Place} {w : World} {x : V} {xc : Value} {i : Nat} {K : V → Prop} (h : extw x i K) (hx : VR im pl w x xc) :
    ∃ v vc, (Instr.extract xc i).run P w = .ok vc w ∧ K v ∧ VR im pl w v vc := by
  unfold extw at h
  split at h
  · cases hx with
    | tup _ vs hl hr =>
      have hi : i < vs.length := by omega
      have := hr i
      rw [List.getD_eq_getElem?_getD, List.getElem?_eq_getElem hi] at this
      exact ⟨_, _, by simp [Instr.extract, hi], h.2, this⟩
  · exact h.elim

def nilw (x : V) (K : V → Prop) : Prop :=
  match x with
  | .ptr _ _ | .rp _ _ => K x
  | .fn (.func _) _ _ => K x
  | .fn (.yield _) _ _ => K x
  | _ => False

def fieldAddrw (y : Ty) (x : V) (f : Nat) (K : V → Prop) : Prop :=
  match y.fs[f]?, x with
  | some (o, _), .ptr r off => K (.ptr r (off + o))
  | some (o, _), .rp cs off => K (.rp cs (off + o))
  | _, _ => False
theorem run_fieldPlace {P : Program} {w : World} {C : Ctx} : True := trivial

def fieldw (ty : TypeId → Ty) (y : Ty) (x : V) (f : Nat) (K : V → Prop) : Prop :=
  match y.fs[f]?, x with
  | some (o, u), .agg cs => (ty u).ok = true ∧ o + (ty u).size ≤ cs.length ∧ K (pack (ty u) cs o)
  | _, _ => False

theorem run_part {P : Program} {w : World} {t : TypeId} {y : Ty} (hy : OKt P t y) (vs : List Value) (off : Nat) (hl : off + y.size ≤ vs.length) :
    (part t vs.toArray off).run P w = .ok (if y.agg then .agg ((List.range y.size).map fun j => vs.getD (off + j) undef).toArray else vs.getD off undef) w := by
  unfold part
  simp only [Sem.run_bind, hy.isAgg, Result.andThen_ok]
  cases h : y.agg with
  | true =>
    simp only [if_true, Sem.run_bind, hy.sizeOf, Result.andThen_ok, Sem.run_pure]
    congr 2
    apply Array.ext
    · simp; omega
    · intro i h1 h2
      simp only [List.size_toArray, List.length_map, List.length_range] at h2
      simp [List.getD, show off + i < vs.length by omega]
  | false =>
    have h1 := hy.one h
    have : off < vs.length := by omega
    simp [List.getD, this]

theorem fieldw_sound {C : Ctx} {im : Nat → Prop} {pl : Nat → Place} {w : World} {t : TypeId} {x : V} {xc : Value} {f : Nat} {K : V → Prop} (ht : (C.ty t).ok = true) (h : fieldw C.ty (C.ty t) x f K) (hx : VR im pl w x xc) :
    ∃ v vc, (Instr.field t xc f).run C.P w = .ok vc w ∧ K v ∧ VR im pl w v vc := by
  unfold fieldw at h
  split at h
  · rename_i o u cs hf
    obtain ⟨hu, hl, hK⟩ := h
    obtain ⟨fs, fd, hs, hfd, rfl, rfl⟩ := (C.ok t ht).field hf
    cases hx with
    | agg _ vs hvl hr =>
      refine ⟨_, _, ?_, hK, pack_VR (C.ty fd.type) cs fd.offset (fun j => vs.getD (fd.offset + j) undef) (fun j => hr _)⟩
      have := run_part (C.ok _ hu) (w := w) vs fd.offset (by omega)
      simp only [Instr.field, Sem.run_bind, run_underlying hs, Result.andThen_ok, hfd]
      simpa [asAgg] using this
  · exact h.elim

def indexw (ty : TypeId → Ty) (y : Ty) (x i : V) (K : V → Prop) : Prop :=
  match y.arr, x, i with
  | some (n, e), .agg cs, .int _ i => (ty e).ok = true ∧ 0 ≤ i ∧ i < n ∧ i.toNat * (ty e).size + (ty e).size ≤ cs.length ∧ K (pack (ty e) cs (i.toNat * (ty e).size))
  | none, .str s, .int _ i => y.str = true ∧ 0 ≤ i ∧ i.toNat < s.size ∧ K (.int .u8 ((s[i.toNat]?.getD 0).toNat : Int))
  | _, _, _ => False
theorem indexw_sound {C : Ctx} {im : Nat → Prop} {pl : Nat → Place} {w : World} {t : TypeId} {x i : V} {xc ic : Value} {K : V → Prop} (ht : (C.ty t).ok = true) (h : indexw C.ty (C.ty t) x i K) (hx : VR im pl w x xc) (hi : VR im pl w i ic) :
    ∃ v vc, (Instr.index t xc ic).run C.P w = .ok vc w ∧ K v ∧ VR im pl w v vc := by
  unfold indexw at h
  split at h
  · rename_i n e cs k q ha
    obtain ⟨he, h0, h1, hl, hK⟩ := h
    have hu := (C.ok t ht).array ha
    cases hi
    cases hx with
    | agg _ vs hvl hr =>
      refine ⟨_, _, ?_, hK, pack_VR (C.ty e) cs _ (fun j => vs.getD (q.toNat * (C.ty e).size + j) undef) (fun j => hr _)⟩
      have := run_part (C.ok _ he) (w := w) vs (q.toNat * (C.ty e).size) (by omega)
      simp only [Instr.index, asIntOf, Sem.run_bind, Sem.run_pure, run_underlying hu, Result.andThen_ok, if_pos (show 0 ≤ q ∧ q < n from ⟨h0, h1⟩), (C.ok e he).sizeOf]
      simpa using this
  · rename_i s k q ha
    obtain ⟨hs, h0, h1, hK⟩ := h
    have hu := (C.ok t ht).string hs
    cases hi
    cases hx
    refine ⟨_, _, ?_, hK, .int _ _⟩
    have hb : s[q.toNat]? = some (s[q.toNat]?.getD 0) := by simp [getElem?_pos s q.toNat h1]
    simp only [Instr.index, asIntOf, Sem.run_bind, Sem.run_pure, run_underlying hu, Result.andThen_ok, if_pos h0]
    rw [hb]
    simp
  · exact h.elim

def indexAddrw (ty : TypeId → Ty) (y : Ty) (x i : V) (K : V → Prop) : Prop :=
  match i with
  | .int _ i =>
    match y.sl, x with
    | some e, .sl n cs => (ty e).ok = true ∧ 0 ≤ i ∧ i < n ∧ K (.rp cs (i.toNat * (ty e).size))
    | some e, .ref r off n => (ty e).ok = true ∧ 0 ≤ i ∧ i < n ∧ K (.ptr r (off + i.toNat * (ty e).size))
    | _, .ptr r off => match y.arr with
      | some (n, e) => (ty e).ok = true ∧ 0 ≤ i ∧ i < n ∧ K (.ptr r (off + i.toNat * (ty e).size))
      | none => False
    | _, _ => False
  | _ => False
theorem indexAddrw_sound {C : Ctx} {im : Nat → Prop} {pl : Nat → Place} {w : World} {H : Heap} {t : TypeId} {x i : V} {xc ic : Value} {K : V → Prop} (ht : (C.ty t).ok = true) (h : indexAddrw C.ty (C.ty t) x i K) (hx : VR im pl w x xc) (hi : VR im pl w i ic)
    (hH : HR im pl w H) (hd : ∀ r off n, x = .ref r off n → (rowOf H r).isSome = true) (hd' : ∀ r off, x = .ptr r off → (rowOf H r).isSome = true) :
    ∃ v vc, (Instr.indexAt t xc ic).run C.P w = .ok vc w ∧ K v ∧ VR im pl w v vc := by
  unfold indexAddrw at h
  split at h
  case h_2 => exact h.elim
  case h_1 k q =>
    cases hi
    split at h
    · rename_i e n cs hs
      obtain ⟨he, h0, h1, hK⟩ := h
      have hu := (C.ok t ht).slice hs
      cases hx with
      | sl0 => omega
      | sl _ _ ad c vs hn hi hc hr =>
        refine ⟨_, _, ?_, hK, .rp cs _ ad vs hi hc hr⟩
        simp only [Instr.indexAt, asIntOf, Sem.run_bind, Sem.run_pure, run_underlying hu, Result.andThen_ok, if_pos (show 0 ≤ q ∧ q < n from ⟨h0, h1⟩), (C.ok e he).sizeOf]
    · rename_i e r off n hs
      obtain ⟨he, h0, h1, hK⟩ := h
      have hu := (C.ok t ht).slice hs
      obtain ⟨row, hrow⟩ := Option.isSome_iff_exists.1 (hd _ _ _ rfl)
      cases hx with
      | refDead _ _ _ a c hp => have h1 := hH.dead r hp; rw [rowOf_some hrow] at h1; cases h1
      | refVirt => omega
      | refAt _ _ _ b cap c hp hc h2 =>
        refine ⟨_, _, ?_, hK, .ptrAt r _ b cap hp⟩
        simp only [Instr.indexAt, asIntOf, Sem.run_bind, Sem.run_pure, run_underlying hu, Result.andThen_ok, if_pos (show 0 ≤ q ∧ q < n from ⟨h0, h1⟩), (C.ok e he).sizeOf, plain_add]
    · rename_i r off
      split at h
      · rename_i n e ha
        obtain ⟨he, h0, h1, hK⟩ := h
        have hu := (C.ok t ht).array ha
        obtain ⟨row, hrow⟩ := Option.isSome_iff_exists.1 (hd' _ _ rfl)
        cases hx with
        | ptrDead _ _ a hp => have h1 := hH.dead r hp; rw [rowOf_some hrow] at h1; cases h1
        | ptrAt _ _ b cap hp =>
          refine ⟨_, _, ?_, hK, .ptrAt r _ b cap hp⟩
          simp only [Instr.indexAt, asIntOf, Instr.sureAddr, Sem.run_bind, Sem.run_pure, run_underlying hu, Result.andThen_ok, if_pos (show 0 ≤ q ∧ q < n from ⟨h0, h1⟩), (C.ok e he).sizeOf, plain_add]
      · exact h.elim
    · exact h.elim

/-- `x[lo:hi]`. -/
def slicew (ty : TypeId → Ty) (y : Ty) (x : V) (lo hi : Option V) (H : Heap) (K : V → Prop) : Prop :=
  match y.sl with
  | none => False
  | some e => (ty e).ok = true ∧ 0 < (ty e).size ∧
    match lo, hi with
    | none, some (.int _ h) => 0 ≤ h ∧ (match x with
      | .sl n cs => h ≤ n ∧ K (.sl h.toNat (cs.take (h.toNat * (ty e).size)))
      | .ref r off n => (rowOf H r).isSome = true ∧ h ≤ n ∧ (h = 0 → K (.sl 0 [])) ∧ (h ≠ 0 → K (.ref r off h.toNat))
      | .nil => h = 0 ∧ K .nil
      | _ => False)
    | some (.int _ l), none => 0 ≤ l ∧ (match x with
      | .sl n cs => l ≤ n ∧ K (.sl (n - l.toNat) (cs.drop (l.toNat * (ty e).size)))
      | .ref r off n => (rowOf H r).isSome = true ∧ l ≤ n ∧ (l = n → K (.sl 0 [])) ∧ (l ≠ n → K (.ref r (off + l.toNat * (ty e).size) (n - l.toNat)))
      | .nil => l = 0 ∧ K .nil
      | _ => False)
    | some (.int _ l), some (.int _ h) => 0 ≤ l ∧ l ≤ h ∧ (match x with
      | .sl n cs => h ≤ n ∧ K (.sl (h.toNat - l.toNat) ((cs.drop (l.toNat * (ty e).size)).take ((h.toNat - l.toNat) * (ty e).size)))
      | .ref r off n => (rowOf H r).isSome = true ∧ h ≤ n ∧ (l = h → K (.sl 0 [])) ∧ (l ≠ h → K (.ref r (off + l.toNat * (ty e).size) (h.toNat - l.toNat)))
      | .nil => h = 0 ∧ K .nil
      | _ => False)
    | _, _ => False

theorem nth_take' (cs : List V) (n j : Nat) : nth (cs.take n) j = if j < n then nth cs j else .any := by
  split
  · rename_i h; exact nth_take _ _ _ h
  · rename_i h
    by_cases h2 : (cs.take n).length ≤ j
    · exact nth_ge _ _ h2
    · simp only [List.length_take] at h2; omega

/-- A part of a slice that is only read. -/
theorem VR.part {im : Nat → Prop} {pl : Nat → Place} {w : World} {n : Nat} {cs : List V} {c : Value} (h : VR im pl w (.sl n cs) c) (l hh s : Nat) (hs : 0 < s) (cs' : List V) (hl : l ≤ hh) (hh' : hh ≤ n)
    (hc' : ∀ j, j < cs'.length → l * s + j < cs.length ∧ nth cs' j = nth cs (l * s + j)) :
    ∃ a cap, c = .slice a n cap ∧ n ≤ cap + n ∧ ∀ cap', cap' = cap - l → (cap = l → hh = l) → VR im pl w (.sl (hh - l) cs') (.slice (if cap = l then a else a.map (·.add (l * s))) (hh - l) cap') := by
  cases h with
  | sl0 _ a c =>
    refine ⟨a, c, rfl, by omega, fun cap' _ _ => ?_⟩
    have : hh - l = 0 := by omega
    rw [this]; exact .sl0 _ _ _
  | sl _ _ ad c vs hn hi hc hr =>
    refine ⟨some ad, c, rfl, by omega, fun cap' hcap hz => ?_⟩
    by_cases h0 : hh - l = 0
    · rw [h0]; exact .sl0 _ _ _
    · rw [if_neg (fun e => h0 (by have := hz e; omega))]
      refine .sl _ _ (ad.add (l * s)) _ (fun j => vs (l * s + j)) (by omega) (by rw [add_block]; exact hi) (fun j hj => by rw [add_add]; exact hc _ (hc' j hj).1) (fun j => ?_)
      by_cases hj : j < cs'.length
      · rw [(hc' j hj).2]; exact hr _
      · rw [nth_ge _ _ (by omega)]; exact .any _

end Go.Bv
end

section
/-
  PART 8: slicing, fields' addresses, len, min, max; one function for all operations that call no Go function.
-/
set_option linter.unusedVariables false
set_option linter.unusedSimpArgs false
namespace Go.Bv
open Go.RowKit

theorem run_sliceAt_ints {P : Program} (w : World) {t e : TypeId} {y : Ty} (hu : P.underlying t = some (.slice e)) (hy : OKt P e y) (a : Option Addr) (len cap : Nat) (lo hi : Option Value) (l h : Nat)
    (hlo : (lo = none ∧ l = 0) ∨ ∃ k, lo = some (.int k l)) (hhi : (hi = none ∧ h = len) ∨ ∃ k, hi = some (.int k h)) (h1 : l ≤ h) (h2 : h ≤ len) (h3 : len ≤ cap) :
    (Instr.sliceAt t (.slice a len cap) lo hi none).run P w = .ok (.slice (if cap = l then a else a.map (·.add (l * y.size))) (h - l) (cap - l)) w := by
  have he : P.elem t = e := by simp [Program.elem, hu]
  have hu' : P.underlying t = some (.slice (P.elem t)) := by rw [he]; exact hu
  rw [run_sliceAt_slice (h := hu')]
  rcases hlo with ⟨rfl, rfl⟩ | ⟨k, rfl⟩ <;> rcases hhi with ⟨rfl, rfl⟩ | ⟨k', rfl⟩
  · rw [run_slice_any (ht := hu'), he]
    simp [Instr.sliceBounds, hy.sizeOf, sliced, Result.andThen]
  · rw [run_slice_h (ht := hu') (h0 := by omega) (h2 := by omega), he, hy.sizeOf]
    simp [sliced, Result.andThen]
  · rw [run_slice_l (ht := hu') (h0 := by omega) (h1 := by omega), he, hy.sizeOf]
    simp [sliced, Result.andThen]
  · rw [run_slice_lh (ht := hu') (h0 := by omega) (h1 := by omega) (h2 := by omega), he, hy.sizeOf]
    simp [sliced, Result.andThen]

/-- All cases of a slicing, told by its bounds. -/
theorem slice_core {C : Ctx} {im : Nat → Prop} {pl : Nat → Place} {w : World} {H : Heap} {t e : TypeId} {x : V} {xc : Value} {loc hic : Option Value} {K : V → Prop} (ht : (C.ty t).ok = true) (hsl : (C.ty t).sl = some e) (he : (C.ty e).ok = true) (hpos : 0 < (C.ty e).size)
    (hx : VR im pl w x xc) (hH : HR im pl w H) (l h : Nat) (hlo : (loc = none ∧ l = 0) ∨ ∃ k, loc = some (.int k l)) :
    (∀ n cs, x = .sl n cs → ((hic = none ∧ h = n) ∨ ∃ k, hic = some (.int k h)) → l ≤ h → h ≤ n → ∀ cs' : List V, (∀ j, j < cs'.length → l * (C.ty e).size + j < cs.length ∧ nth cs' j = nth cs (l * (C.ty e).size + j)) → K (.sl (h - l) cs') →
      ∃ v vc, (Instr.sliceAt t xc loc hic none).run C.P w = .ok vc w ∧ K v ∧ VR im pl w v vc) ∧
    (∀ r off n, x = .ref r off n → ((hic = none ∧ h = n) ∨ ∃ k, hic = some (.int k h)) → l ≤ h → h ≤ n → (rowOf H r).isSome = true → (l = h → K (.sl 0 [])) → (l ≠ h → K (.ref r (off + l * (C.ty e).size) (h - l))) →
      ∃ v vc, (Instr.sliceAt t xc loc hic none).run C.P w = .ok vc w ∧ K v ∧ VR im pl w v vc) ∧
    (x = .nil → ((hic = none ∧ h = 0) ∨ ∃ k, hic = some (.int k h)) → l = 0 → h = 0 → K .nil → ∃ v vc, (Instr.sliceAt t xc loc hic none).run C.P w = .ok vc w ∧ K v ∧ VR im pl w v vc) := by
  have hu := (C.ok t ht).slice hsl
  have hy := C.ok e he
  refine ⟨fun n cs hxe hhi h1 h2 cs' hc' hK => ?_, fun r off n hxe hhi h1 h2 hrow hK0 hK1 => ?_, fun hxe hhi h1 h2 hK => ?_⟩
  · subst hxe
    by_cases h0 : h - l = 0
    · obtain ⟨a, cap, rfl, _⟩ := hx.slice_none
      have hcap : n ≤ cap := by
        cases hx with
        | sl0 => omega
        | sl _ _ _ _ _ hn => exact hn
      refine ⟨_, _, run_sliceAt_ints w hu hy a n cap _ _ l h hlo hhi h1 h2 hcap, hK, ?_⟩
      rw [h0]; exact .sl0 _ _ _
    · obtain ⟨a, cap, rfl, _, hv⟩ := hx.part l h (C.ty e).size hpos cs' h1 h2 hc'
      have hcap : n ≤ cap := by
        cases hx with
        | sl0 => omega
        | sl _ _ _ _ _ hn => exact hn
      exact ⟨_, _, run_sliceAt_ints w hu hy a n cap _ _ l h hlo hhi h1 h2 hcap, hK, hv _ rfl (fun e => by omega)⟩
  · subst hxe
    obtain ⟨row, hrow⟩ := Option.isSome_iff_exists.1 hrow
    cases hx with
    | refDead _ _ _ a c hp => have h1 := hH.dead r hp; rw [rowOf_some hrow] at h1; cases h1
    | refVirt _ hp =>
      refine ⟨_, _, run_sliceAt_ints w hu hy none 0 0 _ _ l h hlo hhi h1 h2 (Nat.le_refl _), hK0 (by omega), ?_⟩
      rw [show h - l = 0 by omega]; exact .sl0 _ _ _
    | refAt _ _ _ b cap c hp hc hcc =>
      by_cases h0 : l = h
      · refine ⟨_, _, run_sliceAt_ints w hu hy _ n c _ _ l h hlo hhi h1 h2 hc, hK0 h0, ?_⟩
        rw [show h - l = 0 by omega]; exact .sl0 _ _ _
      · refine ⟨_, _, run_sliceAt_ints w hu hy _ n c _ _ l h hlo hhi h1 h2 hc, hK1 h0, ?_⟩
        rw [if_neg (by omega)]
        simp only [Option.map_some, plain_add]
        refine .refAt r _ _ b cap _ hp (by omega) (fun hz => ?_)
        have hl0 : l = 0 := by
          rcases Nat.eq_zero_or_pos l with h3 | h3
          · exact h3
          · have := Nat.mul_pos h3 hpos; omega
        subst hl0
        have := hcc (by omega)
        omega
  · subst hxe
    cases hx
    refine ⟨_, _, run_sliceAt_ints w hu hy none 0 0 _ _ l h hlo hhi (by omega) (by omega) (Nat.le_refl _), hK, ?_⟩
    rw [h1, h2]
    simp; exact .nil

theorem slicew_sound {C : Ctx} {im : Nat → Prop} {pl : Nat → Place} {w : World} {H : Heap} {t : TypeId} {x : V} {xc : Value} {lo hi : Option V} {loc hic : Option Value} {K : V → Prop} (ht : (C.ty t).ok = true)
    (h : slicew C.ty (C.ty t) x lo hi H K) (hx : VR im pl w x xc) (hlo : ∀ v, lo = some v → ∃ c, loc = some c ∧ VR im pl w v c) (hlo' : lo = none → loc = none) (hhi : ∀ v, hi = some v → ∃ c, hic = some c ∧ VR im pl w v c) (hhi' : hi = none → hic = none) (hH : HR im pl w H) :
    ∃ v vc, (Instr.sliceAt t xc loc hic none).run C.P w = .ok vc w ∧ K v ∧ VR im pl w v vc := by
  unfold slicew at h
  split at h
  · exact h.elim
  rename_i e hsl
  obtain ⟨he, hpos, h⟩ := h
  split at h
  · rename_i _ _ k q
    obtain ⟨h0, h⟩ := h
    obtain ⟨c, hc, hv⟩ := hhi _ rfl
    cases hv
    have hl := hlo' rfl
    obtain ⟨m, rfl⟩ := Int.eq_ofNat_of_zero_le h0
    simp only [Int.toNat_natCast] at h
    have core := slice_core (loc := loc) (hic := hic) (K := K) ht hsl he hpos hx hH 0 m (.inl ⟨hl, rfl⟩)
    split at h
    · rename_i n cs
      exact core.1 n cs rfl (.inr ⟨k, hc⟩) (Nat.zero_le _) (by omega) _ (fun j hj => by simp only [List.length_take] at hj; exact ⟨by omega, by rw [nth_take _ _ _ (by omega)]; simp⟩) h.2
    · rename_i r off n
      exact core.2.1 r off n rfl (.inr ⟨k, hc⟩) (Nat.zero_le _) (by omega) h.1 (fun e => h.2.2.1 (by omega)) (fun e => by simpa using h.2.2.2 (by omega))
    · exact core.2.2 rfl (.inr ⟨k, hc⟩) rfl (by omega) h.2
    · exact h.elim
  · rename_i _ _ k q
    obtain ⟨h0, h⟩ := h
    obtain ⟨c, hc, hv⟩ := hlo _ rfl
    cases hv
    have hl := hhi' rfl
    obtain ⟨m, rfl⟩ := Int.eq_ofNat_of_zero_le h0
    simp only [Int.toNat_natCast] at h
    split at h
    · rename_i n cs
      exact (slice_core (loc := loc) (hic := hic) (K := K) ht hsl he hpos hx hH m n (.inr ⟨k, hc⟩)).1 n cs rfl (.inl ⟨hl, rfl⟩) (by omega) (Nat.le_refl _) _ (fun j hj => by simp only [List.length_drop] at hj; exact ⟨by omega, by rw [nth_drop]⟩) h.2
    · rename_i r off n
      exact (slice_core (loc := loc) (hic := hic) (K := K) ht hsl he hpos hx hH m n (.inr ⟨k, hc⟩)).2.1 r off n rfl (.inl ⟨hl, rfl⟩) (by omega) (Nat.le_refl _) h.1 (fun e => h.2.2.1 (by omega)) (fun e => h.2.2.2 (by omega))
    · exact (slice_core (loc := loc) (hic := hic) (K := K) ht hsl he hpos hx hH m 0 (.inr ⟨k, hc⟩)).2.2 rfl (.inl ⟨hl, rfl⟩) (by omega) rfl h.2
    · exact h.elim
  · rename_i _ _ k q k' q'
    obtain ⟨h0, h01, h⟩ := h
    obtain ⟨c, hc, hv⟩ := hlo _ rfl
    obtain ⟨c', hc', hv'⟩ := hhi _ rfl
    cases hv
    cases hv'
    obtain ⟨m, rfl⟩ := Int.eq_ofNat_of_zero_le h0
    obtain ⟨m', rfl⟩ := Int.eq_ofNat_of_zero_le (Int.le_trans h0 h01)
    simp only [Int.toNat_natCast] at h
    have core := slice_core (loc := loc) (hic := hic) (K := K) ht hsl he hpos hx hH m m' (.inr ⟨k, hc⟩)
    split at h
    · rename_i n cs
      exact core.1 n cs rfl (.inr ⟨k', hc'⟩) (by omega) (by omega) _ (fun j hj => by simp only [List.length_take, List.length_drop] at hj; exact ⟨by omega, by rw [nth_take _ _ _ (by omega), nth_drop]⟩) h.2
    · rename_i r off n
      exact core.2.1 r off n rfl (.inr ⟨k', hc'⟩) (by omega) (by omega) h.1 (fun e => h.2.2.1 (by omega)) (fun e => h.2.2.2 (by omega))
    · exact core.2.2 rfl (.inr ⟨k', hc'⟩) (by omega) (by omega) h.2
    · exact h.elim
  · exact h.elim

end Go.Bv
end

section
/-
  PART 9: one function for all operations that call no Go function.
-/
set_option linter.unusedVariables false
set_option linter.unusedSimpArgs false
namespace Go.Bv
open Go.RowKit

def lenw (y : Ty) (x : V) (K : V → Prop) : Prop :=
  match x with
  | .sl n _ => y.sl.isSome = true ∧ K (.int .i64 n)
  | .ref _ _ n => y.sl.isSome = true ∧ K (.int .i64 n)
  | .nil => y.sl.isSome = true ∧ K (.int .i64 0)
  | .str s => y.str = true ∧ K (.int .i64 s.size)
  | _ => False
theorem lenw_sound {C : Ctx} {im : Nat → Prop} {pl : Nat → Place} {w : World} {H : Heap} {t ty : TypeId} {x : V} {xc : Value} {K : V → Prop} (ht : (C.ty t).ok = true) (h : lenw (C.ty t) x K) (hx : VR im pl w x xc) (hH : HR im pl w H) :
    ∃ v vc, (Builtin.len_ #[t] ty #[xc]).run C.P w = .ok vc w ∧ K v ∧ VR im pl w v vc := by
  have hok := C.ok t ht
  cases x with
  | sl n cs =>
    obtain ⟨hs, hK⟩ := h
    obtain ⟨e, he⟩ := Option.isSome_iff_exists.1 hs
    obtain ⟨a, cap, rfl, _⟩ := hx.slice_none
    exact ⟨_, _, by simp [Builtin.len_, run_underlying (hok.slice he), goInt], hK, .int _ _⟩
  | ref r off n =>
    obtain ⟨hs, hK⟩ := h
    obtain ⟨e, he⟩ := Option.isSome_iff_exists.1 hs
    obtain ⟨a, cap, rfl, _⟩ := hx.ref_none hH
    exact ⟨_, _, by simp [Builtin.len_, run_underlying (hok.slice he), goInt], hK, .int _ _⟩
  | nil =>
    obtain ⟨hs, hK⟩ := h
    obtain ⟨e, he⟩ := Option.isSome_iff_exists.1 hs
    cases hx
    exact ⟨_, _, by simp [Builtin.len_, run_underlying (hok.slice he), goInt], hK, .int _ _⟩
  | str s =>
    obtain ⟨hs, hK⟩ := h
    cases hx
    exact ⟨_, _, by simp [Builtin.len_, run_underlying (hok.string hs), goInt], hK, .int _ _⟩
  | _ => exact h.elim

def builtinw (ty : TypeId → Ty) (b : Builtin) (ats : List TypeId) (args : List V) (H : Heap) (K : V → Heap → Prop) : Prop :=
  match b, ats, args with
  | .len, [t], [x] => (ty t).ok = true ∧ lenw (ty t) x fun v => K v H
  | .max, _, [.int k a, .int _ b] => K (.int k (if b > a then b else a)) H
  | .min, _, [.int k a, .int _ b] => K (.int k (if b < a then b else a)) H
  | .append, [t, t'], [s, x] => t' = t ∧ (ty t).ok = true ∧ match (ty t).sl with
    | some e => (ty e).ok = true ∧ appw (ty e) e s x H K
    | none => False
  | _, _, _ => False

def boxw (t : TypeId) (x : V) (H : Heap) (K : V → Heap → Prop) : Prop := kn x = true ∧ K (.ptr H.length 0) (H ++ [some ⟨t, (cellsOf x).length, cellsOf x⟩])

def opw (ty : TypeId → Ty) (op : Op) (ts : List V) (H : Heap) (K : V → Heap → Prop) : Prop :=
  match op with
  | .move x => K (ev ts x) H
  | .assign x => K (ev ts x) H
  | .pick c a b => pickw (ev ts c) (ev ts a) (ev ts b) fun v => K v H
  | .binOp o t x y _ => (ty t).ok = true ∧ binw (ty t) o (ev ts x) (ev ts y) H fun v => K v H
  | .unOp o _ x => unw o (ev ts x) fun v => K v H
  | .convert s d x => (ty s).ok = true ∧ (ty d).ok = true ∧ convw (ty d) (ev ts x) fun v => K v H
  | .makeFunc fn first caps => K (.fn fn (first.toList.map (ev ts)) (caps.toList.map (ev ts))) H
  | .extract x i => extw (ev ts x) i fun v => K v H
  | .nilCheck x => nilw (ev ts x) fun v => K v H
  | .load t x => (ty t).ok = true ∧ loadw (ty t) (ev ts x) H fun v => K v H
  | .store t x v => (ty t).ok = true ∧ storew (ty t) (ev ts x) (ev ts v) H fun H' => K .any H'
  | .box t x => boxw t (ev ts x) H K
  | .alloc t => (ty t).ok = true ∧ K (.ptr H.length 0) (H ++ [some ⟨t, (zsOf (ty t)).length, zsOf (ty t)⟩])
  | .build t parts => (ty t).ok = true ∧ buildw ty t (parts.toList.map fun p => (p.1, ev ts p.2)) fun v => K v H
  | .buildSlice t len parts => (ty t).ok = true ∧ buildSlw ty t len (parts.toList.map fun p => (p.1, ev ts p.2)) H K
  | .makeSlice t l c => (ty t).ok = true ∧ makew ty t (ev ts l) (ev ts c) H K
  | .slice t x lo hi mx => mx.isNone = true ∧ (ty t).ok = true ∧ slicew ty (ty t) (ev ts x) (lo.map (ev ts)) (hi.map (ev ts)) H fun v => K v H
  | .fieldAddr t x f => (ty t).ok = true ∧ fieldAddrw (ty t) (ev ts x) f (fun v => (match (ty t).fs[f]? with | some (_, u) => (ty u).ok = true ∧ (ty u).size ≠ 0 | none => False) ∧ K v H)
  | .field t x f => (ty t).ok = true ∧ fieldw ty (ty t) (ev ts x) f fun v => K v H
  | .indexAddr t x i => (ty t).ok = true ∧ (match ev ts x with | .ref r _ _ => (rowOf H r).isSome = true | .ptr r _ => (rowOf H r).isSome = true | _ => True) ∧ indexAddrw ty (ty t) (ev ts x) (ev ts i) fun v => K v H
  | .index t x i => (ty t).ok = true ∧ indexw ty (ty t) (ev ts x) (ev ts i) fun v => K v H
  | .call c => match c.callee with
    | .builtin b => builtinw ty b c.argTypes.toList (c.args.toList.map (ev ts)) H K
    | _ => False
  | _ => False

theorem list_VR {im : Nat → Prop} {pl : Nat → Place} {w : World} {ts : List V} {a : Act} (hts : TR im pl w ts a.tmps) (xs : Array Operand) :
    (xs.toList.map (ev ts)).length = (xs.map a.eval).toList.length ∧ ∀ j, VR im pl w (nth (xs.toList.map (ev ts)) j) ((xs.map a.eval).toList.getD j undef) := by
  refine ⟨by simp, fun j => ?_⟩
  rw [nth_getD]
  by_cases hj : j < xs.size
  · simp only [List.getD, List.getElem?_map, Array.toList_map, Array.getElem?_toList, Array.getElem?_eq_getElem hj, Option.map_some, Option.getD_some]
    exact ev_VR hts _
  · simp [List.getD, Array.getElem?_eq_none (Nat.le_of_not_lt hj)]; exact .any _

theorem OpRes.of {P : Program} {im : Nat → Prop} {pl : Nat → Place} {w : World} {H : Heap} {K : V → Heap → Prop} {s : Sem Value} (hH : HR im pl w H) (h : ∃ v vc, s.run P w = .ok vc w ∧ K v H ∧ VR im pl w v vc)
    {run : Result Next} (hr : run = (s.run P w).andThen fun v w => .ok (.value v) w) : OpRes P im pl w run K := by
  obtain ⟨v, vc, h1, h2, h3⟩ := h
  exact .same (by rw [hr, h1]; rfl) h2 h3 hH
theorem OpRes.of' {P : Program} {im : Nat → Prop} {pl : Nat → Place} {w : World} {K : V → Heap → Prop} {s : Sem Value} (h : ∃ v vc im' pl' w' H', s.run P w = .ok vc w' ∧ K v H' ∧ VR im' pl' w' v vc ∧ HR im' pl' w' H' ∧ Ext im pl w im' pl' w')
    {run : Result Next} (hr : run = (s.run P w).andThen fun v w => .ok (.value v) w) : OpRes P im pl w run K := by
  obtain ⟨v, vc, im', pl', w', H', h1, h2, h3, h4, h5⟩ := h
  exact ⟨v, vc, im', pl', w', H', .inl (by rw [hr, h1]; rfl), h2, h3, h4, h5⟩

theorem builtinw_sound {C : Ctx} {im : Nat → Prop} {pl : Nat → Place} {w : World} {H : Heap} {b : Builtin} {ats : List TypeId} {args : List V} {vargs : List Value} {ty : TypeId} {cs : Array Bool} {K : V → Heap → Prop} (h : builtinw C.ty b ats args H K)
    (hl : args.length = vargs.length) (hv : ∀ j, VR im pl w (nth args j) (vargs.getD j undef)) (hH : HR im pl w H) : OpRes C.P im pl w ((builtin b ats.toArray ty cs vargs.toArray).run C.P w) K := by
  unfold builtinw at h
  split at h
  · rename_i t x
    obtain ⟨c, rfl⟩ : ∃ c, vargs = [c] := by
      match vargs, hl with
      | [c], _ => exact ⟨c, rfl⟩
    obtain ⟨ht, h⟩ := h
    exact .of (s := Builtin.len_ #[t] ty #[c]) hH (lenw_sound (K := fun v => K v H) ht h (by simpa [nth] using hv 0) hH) (by simp [builtin])
  · rename_i _ k x k' y
    obtain ⟨c, d, rfl⟩ : ∃ c d, vargs = [c, d] := by
      match vargs, hl with
      | [c, d], _ => exact ⟨c, d, rfl⟩
    have h0 := hv 0
    have h1 := hv 1
    simp only [nth, List.getD_cons_zero, List.getD_cons_succ] at h0 h1
    cases h0
    cases h1
    exact .same (v := .int k (if y > x then y else x)) (vc := .int k (if y > x then y else x)) (by simp [builtin, Builtin.max_, Builtin.max2]) h (.int _ _) hH
  · rename_i _ k x k' y
    obtain ⟨c, d, rfl⟩ : ∃ c d, vargs = [c, d] := by
      match vargs, hl with
      | [c, d], _ => exact ⟨c, d, rfl⟩
    have h0 := hv 0
    have h1 := hv 1
    simp only [nth, List.getD_cons_zero, List.getD_cons_succ] at h0 h1
    cases h0
    cases h1
    exact .same (v := .int k (if y < x then y else x)) (vc := .int k (if y < x then y else x)) (by simp [builtin, Builtin.min_, Builtin.min2]) h (.int _ _) hH
  · rename_i t t' s x
    obtain ⟨c, d, rfl⟩ : ∃ c d, vargs = [c, d] := by
      match vargs, hl with
      | [c, d], _ => exact ⟨c, d, rfl⟩
    have h0 := hv 0
    have h1 := hv 1
    simp only [nth, List.getD_cons_zero, List.getD_cons_succ] at h0 h1
    obtain ⟨rfl, ht, h⟩ := h
    cases hsl : (C.ty t').sl with
    | none => rw [hsl] at h; exact h.elim
    | some e =>
      rw [hsl] at h
      exact .of' (s := Builtin.append_ #[t', t'] ty #[c, d]) (appw_sound ht hsl h.1 h.2 h0 h1 hH) (by simp [builtin])
  · exact h.elim

theorem andThen_assoc {α β γ : Type} (r : Result α) (f : α → World → Result β) (g : β → World → Result γ) : (r.andThen f).andThen g = r.andThen fun a w => (f a w).andThen g := by cases r <;> rfl

theorem nilw_sound {C : Ctx} {im : Nat → Prop} {pl : Nat → Place} {w : World} {H : Heap} {x : V} {xc : Value} {o : Oper} {ρ : Operand → Value} {ox : Operand} {K : V → Heap → Prop} (ho : o.op = .nilCheck ox) (hxc : ρ ox = xc)
    (h : nilw x fun v => K v H) (hx : VR im pl w x xc) (hH : HR im pl w H) : OpRes C.P im pl w ((execOp ρ o).run C.P w) K := by
  unfold nilw at h
  split at h
  · refine .same (vc := xc) ?_ h hx hH
    cases hx <;> simp [execOp, ho, hxc]
  · refine .same (vc := xc) ?_ h hx hH
    cases hx <;> simp [execOp, ho, hxc]
  · refine .same (vc := xc) ?_ h hx hH
    cases hx <;> simp [execOp, ho, hxc]
  · refine .same (vc := xc) ?_ h hx hH
    cases hx <;> simp [execOp, ho, hxc]
  · exact h.elim

set_option maxHeartbeats 2000000 in
theorem opw_sound {C : Ctx} {im : Nat → Prop} {pl : Nat → Place} {w : World} {H : Heap} {ts : List V} {a : Act} {o : Oper} {K : V → Heap → Prop} (h : opw C.ty o.op ts H K) (hts : TR im pl w ts a.tmps) (hH : HR im pl w H) :
    (∀ c, o.op ≠ .defer c) ∧ OpRes C.P im pl w ((execOp a.eval o).run C.P w) K := by
  have E := fun x => ev_VR hts x
  cases ho : o.op with
  | move x => rw [ho] at h; exact ⟨fun c => by simp, .same (by simp [execOp, ho]) h (E x) hH⟩
  | assign x => rw [ho] at h; exact ⟨fun c => by simp, .same (by simp [execOp, ho]) h (E x) hH⟩
  | pick c x y =>
    rw [ho] at h
    obtain ⟨v, vc, h1, h2, h3⟩ := pickw_sound (P := C.P) (K := fun v => K v H) h (E c) (E x) (E y)
    exact ⟨fun c => by simp, .same (by simpa [execOp, ho] using h1) h2 h3 hH⟩
  | binOp op t x y yt =>
    rw [ho] at h
    exact ⟨fun c => by simp, .of (s := do eqGuard op t x y (a.eval x) (a.eval y); binOp op t (a.eval x) (a.eval y)) hH (binw_sound (K := fun v => K v H) h.1 h.2 (E x) (E y) hH) (by simp [execOp, ho, andThen_assoc])⟩
  | unOp op t x =>
    rw [ho] at h
    exact ⟨fun c => by simp, .of (s := Op.unary op (a.eval x)) hH (unw_sound (P := C.P) (K := fun v => K v H) h (E x)) (by simp [execOp, ho])⟩
  | convert s d x =>
    rw [ho] at h
    exact ⟨fun c => by simp, .of (s := convert s d (a.eval x)) hH (convw_sound (K := fun v => K v H) h.1 h.2.1 h.2.2 (E x)) (by simp [execOp, ho])⟩
  | makeFunc fn first caps =>
    rw [ho] at h
    have h1 := list_VR hts first
    have h2 := list_VR hts caps
    refine ⟨fun c => by simp, .same (vc := .func fn (first.map a.eval) (caps.map a.eval)) (by simp [execOp, ho, Instr.makeFunc]) h ?_ hH⟩
    have := VR.fn (im := im) (pl := pl) (w := w) fn _ _ _ _ h1.1 h1.2 h2.1 h2.2
    rw [Array.toArray_toList, Array.toArray_toList] at this
    exact this
  | extract x i =>
    rw [ho] at h
    exact ⟨fun c => by simp, .of (s := Instr.extract (a.eval x) i) hH (extw_sound (P := C.P) (K := fun v => K v H) h (E x)) (by simp [execOp, ho])⟩
  | nilCheck x =>
    rw [ho] at h
    exact ⟨fun c => by simp, nilw_sound ho rfl h (E x) hH⟩
  | load t x =>
    rw [ho] at h
    exact ⟨fun c => by simp, .of (s := Instr.loadAt t (a.eval x)) hH (loadw_sound h.1 h.2 (E x) hH) (by simp [execOp, ho])⟩
  | store t x v =>
    rw [ho] at h
    obtain ⟨w', H', h1, h2, h3, h4⟩ := storew_sound h.1 h.2 (E x) (E v) hH
    exact ⟨fun c => by simp, ⟨.any, undef, im, pl, w', H', .inr ⟨by simp [execOp, ho, h1], rfl⟩, h2, .any _, h3, h4⟩⟩
  | box t x =>
    rw [ho] at h
    obtain ⟨hk, hK⟩ := h
    obtain ⟨c1, c2⟩ := (E x).cells' hk
    refine ⟨fun c => by simp, newVar_sound (C := C) t (cellsOf (ev ts x)) (a.eval x) (by simpa using c1.symm) (fun j => by have := c2 j; simpa [Array.getD_eq_getD_getElem?, List.getD] using this) hH hK ?_⟩
    simp only [execOp, ho, Instr.box, Sem.run_bind, run_newVar, Sem.run_pure, Result.andThen_ok]
  | alloc t =>
    rw [ho] at h
    have hz := zs_VR (im := im) (pl := pl) (w := w) (C.ok t h.1)
    refine ⟨fun c => by simp, newVar_sound (C := C) t (zsOf (C.ty t)) (C.ty t).z hz.1 hz.2 hH h.2 ?_⟩
    simp only [execOp, ho, Instr.alloc, Sem.run_bind, (C.ok t h.1).zero, run_newVar, Sem.run_pure, Result.andThen_ok]
  | build t parts =>
    rw [ho] at h
    exact ⟨fun c => by simp, .of (s := Instr.build t (parts.map fun (i, x) => (i, a.eval x))) hH (buildw_sound (K := fun v => K v H) h.1 h.2 hts) (by simp [execOp, ho])⟩
  | buildSlice t len parts =>
    rw [ho] at h
    exact ⟨fun c => by simp, .of' (s := Instr.buildSlice t len (parts.map fun (i, x) => (i, a.eval x))) (buildSlw_sound h.1 h.2 hts hH) (by simp [execOp, ho])⟩
  | makeSlice t l c =>
    rw [ho] at h
    exact ⟨fun c => by simp, .of' (s := Instr.makeSlice t (a.eval l) (a.eval c)) (makew_sound h.1 h.2 (E l) (E c) hH) (by simp [execOp, ho])⟩
  | slice t x lo hi mx =>
    rw [ho] at h
    obtain ⟨hm, ht, h⟩ := h
    have hm' : mx = none := by simpa using hm
    subst hm'
    refine ⟨fun c => by simp, .of (s := Instr.sliceAt t (a.eval x) (lo.map a.eval) (hi.map a.eval) none) hH (slicew_sound (K := fun v => K v H) ht h (E x) ?_ ?_ ?_ ?_ hH) (by simp [execOp, ho])⟩
    · intro v hv; cases lo with
      | none => cases hv
      | some l => simp at hv; subst hv; exact ⟨_, rfl, E l⟩
    · intro hv; cases lo with
      | none => rfl
      | some l => cases hv
    · intro v hv; cases hi with
      | none => cases hv
      | some l => simp at hv; subst hv; exact ⟨_, rfl, E l⟩
    · intro hv; cases hi with
      | none => rfl
      | some l => cases hv
  | fieldAddr t x f =>
    rw [ho] at h
    obtain ⟨ht, h⟩ := h
    refine ⟨fun c => by simp, ?_⟩
    have hx := E x
    simp only [fieldAddrw] at h
    split at h
    · rename_i o u r off hf he
      rw [hf] at h
      obtain ⟨⟨hu, hne⟩, hK⟩ := h
      obtain ⟨fs, fd, hs, hfd, rfl, rfl⟩ := (C.ok t ht).field hf
      rw [he] at hx
      have run : ∀ ad : Addr, a.eval x = .pointer (some ad) → (execOp a.eval o).run C.P w = .ok (.value (.pointer (some (ad.add fd.offset)))) w := by
        intro ad hx
        simp [execOp, ho, hx, Instr.fieldAt, run_underlying hs, hfd, Instr.sureAddr, fieldPlace, (C.ok _ hu).sizeOf, hne]
      cases hq : a.eval x with
      | pointer p =>
        rw [hq] at hx
        cases hx with
        | ptrAt _ _ b cap hp => exact .same (run _ hq) hK (by rw [plain_add]; exact .ptrAt r _ b cap hp) hH
        | ptrDead _ _ ad hp => exact .same (run _ hq) hK (.ptrDead r _ _ hp) hH
      | _ => rw [hq] at hx; cases hx
    · rename_i o u cs off hf he
      rw [hf] at h
      obtain ⟨⟨hu, hne⟩, hK⟩ := h
      obtain ⟨fs, fd, hs, hfd, rfl, rfl⟩ := (C.ok t ht).field hf
      rw [he] at hx
      have run : ∀ ad : Addr, a.eval x = .pointer (some ad) → (execOp a.eval o).run C.P w = .ok (.value (.pointer (some (ad.add fd.offset)))) w := by
        intro ad hx
        simp [execOp, ho, hx, Instr.fieldAt, run_underlying hs, hfd, Instr.sureAddr, fieldPlace, (C.ok _ hu).sizeOf, hne]
      cases hq : a.eval x with
      | pointer p =>
        rw [hq] at hx
        cases hx with
        | rp _ _ ad vs hi hc hr => exact .same (run _ hq) hK (by rw [add_add]; exact .rp cs _ ad vs hi hc hr) hH
      | _ => rw [hq] at hx; cases hx
    · exact h.elim
  | field t x f =>
    rw [ho] at h
    exact ⟨fun c => by simp, .of (s := Instr.field t (a.eval x) f) hH (fieldw_sound (K := fun v => K v H) h.1 h.2 (E x)) (by simp [execOp, ho])⟩
  | indexAddr t x i =>
    rw [ho] at h
    exact ⟨fun c => by simp, .of (s := Instr.indexAt t (a.eval x) (a.eval i)) hH (indexAddrw_sound (K := fun v => K v H) h.1 h.2.2 (E x) (E i) hH (fun r off n e => by have := h.2.1; rw [e] at this; exact this) (fun r off e => by have := h.2.1; rw [e] at this; exact this)) (by simp [execOp, ho])⟩
  | index t x i =>
    rw [ho] at h
    exact ⟨fun c => by simp, .of (s := Instr.index t (a.eval x) (a.eval i)) hH (indexw_sound (K := fun v => K v H) h.1 h.2 (E x) (E i)) (by simp [execOp, ho])⟩
  | call c =>
    rw [ho] at h
    refine ⟨fun c => by simp, ?_⟩
    simp only [opw] at h
    split at h
    · rename_i b hb
      have h1 := list_VR hts c.args
      have := builtinw_sound (ty := o.type) (cs := c.args.map fun | .const _ => true | _ => false) h h1.1 h1.2 hH
      rw [Array.toArray_toList, Array.toArray_toList] at this
      simp only [execOp, ho, resolve, hb, Sem.run_bind, Sem.run_pure, Result.andThen_ok, invoke]
      exact this
    · exact h.elim
  | _ => rw [ho] at h; exact h.elim

end Go.Bv
end
