/-
  Parts Bv15, Bv16, Bv17, Bv27, Bv18, Bv19, Bv20, Bv21, Bv22, Bv23, Bv24, Bv25, one behind the other: a program logic of our own, contracts of functions.
-/
import Derived.Test.YtlomgfdepllanaaQ1
import Derived.OrdersIn
import Derived.Attr
import Derived.RangeFuncRecord
import Derived.RangeFuncSeq

set_option linter.unusedVariables false
set_option linter.unusedSimpArgs false
set_option maxRecDepth 100000
set_option maxHeartbeats 8000000
section
namespace Go.Bv
open Go.RowKit
def Same (H0 H : Qa) : Prop := ∀ r row, Qd H0 r = some row → Qd H r = some row
def Stand (H0 H : Qa) : Prop := ∀ r, (Qd H0 r).isSome = true → (Qd H r).isSome = true
theorem Same.stand {H0 H : Qa} (h : Same H0 H) : Stand H0 H := fun r hr => by
 obtain ⟨row, hrow⟩ := Option.isSome_iff_exists.1 hr;rw [h r row hrow]; rfl
theorem Same.refl (H : Qa) : Same H H := fun _ _ h => h
theorem Same.trans {H0 H1 H2 : Qa} (h : Same H0 H1) (k : Same H1 H2) : Same H0 H2 := fun r row hr => k r row (h r row hr)
theorem Stand.trans {H0 H1 H2 : Qa} (h : Stand H0 H1) (k : Stand H1 H2) : Stand H0 H2 := fun r hr => k r (h r hr)
theorem Same.app (H X : Qa) : Same H (H ++ X) := fun r row hr => by
 have h1 := Qr hr
 have hlt : r < H.length := (List.getElem?_eq_some_iff.1 h1).1
 simp only [Qd, List.getElem?_append_left hlt, h1]; rfl
theorem Stand.set (H : Qa) (r : Nat) (row : Row) : Stand H (H.set r (some row)) := fun q hq => by
 obtain ⟨x, hx⟩ := Option.isSome_iff_exists.1 hq
 have h1 := Qr hx
 have hlt : q < H.length := (List.getElem?_eq_some_iff.1 h1).1
 simp only [Qd, List.getElem?_set];split
 ·rename_i e; subst e; simp [hlt]
 ·rw [h1]; rfl
def Kp (H0 H H' : Qa) : Prop := (Same H0 H → Same H0 H') ∧ (Stand H0 H → Stand H0 H')
theorem Kp.of {H0 H H' : Qa} (h : Same H H') : Kp H0 H H' := ⟨fun h0 => h0.trans h, fun h0 => h0.trans h.stand⟩
theorem Kp.refl (H0 H : Qa) : Kp H0 H H := ⟨id, id⟩
def Pc (C : Ctx) (H0 : Qa) (f : FuncId) (args : List V) (H : Qa) (K : V → Qa → Prop) : Prop :=
 (∃ Q, Fc C f args H Q ∧ (∃ v H', Q v H') ∧ ∀ v H', Q v H' → Kp H0 H H' ∧ K v H') ∨ ∃ args' Q, Fc C f args' [] Q ∧ (∃ v H', Q v H') ∧ ((args' = args ∧ Qm args = true) ∨ (args.length = args'.length ∧ (∀ j, Bor H (nth args j) (nth args' j)) ∧ ∀ v H', Q v H' → plain v = true ∧ Kj H')) ∧
  ∀ v H', Q v H' → K (ren (shift H.length) v) (H ++ Jt (shift H.length) H')
def cwP (C : Ctx) (H0 : Qa) : CW := fun fv args H K =>
 match fv with
 | .fn (.func g) first caps => Pc C H0 g (first ++ args ++ caps) H K
 | _ => False
theorem Pc.fc {C : Ctx} {H0 : Qa} {f : FuncId} {args : List V} {H : Qa} {K : V → Qa → Prop} (h : Pc C H0 f args H K) : Fc C f args H K := by
 rcases h with ⟨Q, h1, _, h2⟩ | ⟨args', Q, h1, _, h2, h3⟩
 ·exact h1.mono fun v H' hq => (h2 v H' hq).2
 rcases h2 with ⟨rfl, hc⟩ | ⟨hl, hb, hp⟩
 ·exact h1.call hc h3
 ·exact h1.borrow hl hb hp h3
theorem Qdl (C : Ctx) (H0 : Qa) (ro : Option Nat) : Qb3 C ro (cwP C H0) := by
 intro o c f ho hc im pl w a fv args H K next Q h
 have h' : cwF C fv args H K := by
  unfold cwP at h;split at h
  ·exact h.fc
  ·exact h.elim
 exact Yy C ro o c f ho hc im pl w a fv args H K next Q h'
structure CWok (cw : CW) (H0 : Qa) : Prop where
 mono : ∀ {fv args H K K'}, (∀ v H', K v H' → K' v H') → cw fv args H K → cw fv args H K'
 strict : ∀ {fv args H p}, (cw fv args H fun _ _ => p) → p
 new : ∀ {fv args H K}, cw fv args H K → cw fv args H fun v H' => Kp H0 H H' ∧ K v H'
def Qx : Op → Bool
 | .alloc _ | .box _ _ | .makeSlice _ _ _ | .store _ _ _ => true
 | .buildSlice _ _ ps => !Qa9 ps.toList
 | .call c => match c.callee with
  | .builtin .len | .builtin .min | .builtin .max => false
  | _ => true
 | _ => false
def Xr : Op → Bool
 | .store _ _ _ => true
 | _ => false
def Xf : Op → Bool
 | .load _ _ => true
 | _ => false
def Xn : Op → Bool
 | .move _ | .assign _ | .pick _ _ _ | .unOp _ _ _ | .convert _ _ _ | .makeFunc _ _ _ | .extract _ _ | .nilCheck _ | .build _ _ | .slice _ _ _ _ none | .fieldAddr _ _ _ | .field _ _ _ | .indexAddr _ _ _ | .index _ _ _ => true
 | .binOp _ _ _ _ _ => true
 | .buildSlice _ _ ps => Qa9 ps.toList
 | .call c => match c.callee with
  | .builtin .len | .builtin .min | .builtin .max => true
  | _ => false
 | _ => false
def Qbl (c : Call) : Bool := match c.args.toList with
 | .const (.slice none 0 0) :: _ => true
 | _ => false
def Km : Op → Bool
 | .alloc _ | .box _ _ | .makeSlice _ _ _ => true
 | .buildSlice _ _ ps => !Qa9 ps.toList
 | .call c => match c.callee with
  | .value _ => true
  | .builtin .append => Qbl c
  | _ => false
 | _ => false
def Qb8 : Op → Bool
 | .call c => match c.callee with
  | .builtin .append => !Qbl c
  | _ => false
 | _ => false
def Zy : Op → Bool
 | .move _ | .assign _ | .pick _ _ _ | .unOp _ _ _ | .convert _ _ _ | .makeFunc _ _ _ | .extract _ _ | .nilCheck _ | .build _ _ | .fieldAddr _ _ _ | .field _ _ _ | .index _ _ _ => true
 | .buildSlice _ _ ps => Qa9 ps.toList
 | .call c => match c.callee with
  | .builtin .len => true
  | _ => false
 | _ => false
def Kl : V → Bool
 | .nil => false
 | _ => true
def Yb (op : Op) (ts : List V) : Prop := match op with
 | .binOp _ _ _ y _ => Kl (ev ts y) = true
 | _ => True
def opd (C : Ctx) (cw : CW) (op : Op) (ts : List V) (H0 H : Qa) (K : V → Qa → Prop) : Prop :=
 if Qx op then opc C.ty cw op ts H K else Yb op ts ∧ opc C.ty cw op ts H0 fun v _ => K v H
def Ju (C : Ctx) (cw : CW) (ops : Array Oper) (H0 : Qa) (K : List V → Qa → Prop) : List Oper → List V → Qa → Prop
 | [], ts, H => K ts H
 | o :: rest, ts, H => Kq ops o.guard ts (fun ts => opd C cw o.op ts H0 H fun v H' => Ju C cw ops H0 K rest (Xd ts o.dst v) H') (fun ts => Ju C cw ops H0 K rest (Xd ts o.dst (.tup [])) H)
def tro (C : Ctx) (cw : CW) (ops : Array Oper) (H0 : Qa) (o : Oper) (ts : List V) (H : Qa) (K : V → Qa → Prop) : Prop :=
 Jv ops o.guard ts (opd C cw o.op ts H0 H K) (K (.tup []) H)
theorem Qkn {ty : TypeId → Ty} {t : TypeId} {l c : V} {H : Qa} {K K' : V → Qa → Prop} (hK : ∀ v H', K v H' → K' v H') (h : Qah ty t l c H K) : Qah ty t l c H K' := by
 revert h
 unfold Qah;split
 ·rintro ⟨h1, h2, h3, h4, h5, h6⟩;exact ⟨h1, h2, h3, h4, h5, hK _ _ h6⟩
 ·exact id
theorem Qoq {y : Ty} {e : TypeId} {s x : V} {H : Qa} {K K' : V → Qa → Prop} (hK : ∀ v H', K v H' → K' v H') (h : Jr y e s x H K) : Jr y e s x H K' := by
 revert h
 unfold Jr;split
 ·exact id
 ·rintro ⟨h1, h2, h3, h4, h5⟩;refine ⟨h1, h2, h3, h4, ?_⟩
  revert h5
  split
  ·exact fun h => ⟨h.1, hK _ _ h.2⟩
  ·split
   ·exact fun h => ⟨h.1, h.2.1, h.2.2.1, h.2.2.2.1, h.2.2.2.2.1, hK _ _ h.2.2.2.2.2⟩
   ·exact id
  ·exact fun h => ⟨h.1, hK _ _ h.2⟩
  ·exact id
theorem Qjj {y : Ty} {e : TypeId} {s x : V} {H : Qa} {p : Prop} (h : Jr y e s x H fun _ _ => p) : p := by
 revert h
 unfold Jr;split
 ·exact fun h => h.elim
 ·rintro ⟨h1, h2, h3, h4, h5⟩
  revert h5
  split
  ·exact fun h => h.2
  ·split
   ·exact fun h => h.2.2.2.2.2
   ·exact fun h => h.elim
  ·exact fun h => h.2
  ·exact fun h => h.elim
theorem Qaj {ty : TypeId → Ty} {ats : List TypeId} {args : List V} {H : Qa} {K K' : V → Qa → Prop} (hK : ∀ v H', K v H' → K' v H') (h : Qe ty .append ats args H K) : Qe ty .append ats args H K' := by
 match ats, args with
 | [t, t'], [s, x] =>
  simp only [Qe] at h ⊢;obtain ⟨h1, h2, h3⟩ := h;refine ⟨h1, h2, ?_⟩
  revert h3
  split
  ·exact fun h => ⟨h.1, Qoq hK h.2⟩
  ·exact id
 | [], _ => simp [Qe] at h
 | [_], _ => simp [Qe] at h
 | _ :: _ :: _ :: _, _ => simp [Qe] at h
 | [_, _], [] => simp [Qe] at h
 | [_, _], [_] => simp [Qe] at h
 | [_, _], _ :: _ :: _ :: _ => simp [Qe] at h
theorem Jy {ty : TypeId → Ty} {ats : List TypeId} {args : List V} {H : Qa} {p : Prop} (h : Qe ty .append ats args H fun _ _ => p) : p := by
 match ats, args with
 | [t, t'], [s, x] =>
  simp only [Qe] at h;obtain ⟨h1, h2, h3⟩ := h
  revert h3
  split
  ·exact fun h => Qjj h.2
  ·exact fun h => h.elim
 | [], _ => simp [Qe] at h
 | [_], _ => simp [Qe] at h
 | _ :: _ :: _ :: _, _ => simp [Qe] at h
 | [_, _], [] => simp [Qe] at h
 | [_, _], [_] => simp [Qe] at h
 | [_, _], _ :: _ :: _ :: _ => simp [Qe] at h
theorem Qsn {y : Ty} {e : TypeId} {x : V} {HH H : Qa} {K : V → Qa → Prop} (h : Jr y e .nil x H K) : Jr y e .nil x H fun v H' => Kp HH H H' ∧ K v H' := by
 revert h
 unfold Jr;split
 ·exact id
 ·rintro ⟨h1, h2, h3, h4, h5, h6⟩;exact ⟨h1, h2, h3, h4, h5, .of (.app _ _), h6⟩
theorem Qdn {ty : TypeId → Ty} {ats : List TypeId} {args : List V} {HH H : Qa} {K : V → Qa → Prop} (h : Qe ty .append ats (.nil :: args) H K) : Qe ty .append ats (.nil :: args) H fun v H' => Kp HH H H' ∧ K v H' := by
 match ats, args with
 | [t, t'], [x] =>
  simp only [Qe] at h ⊢;obtain ⟨h1, h2, h3⟩ := h;refine ⟨h1, h2, ?_⟩
  revert h3
  split
  ·exact fun h => ⟨h.1, Qsn h.2⟩
  ·exact id
 | [], _ => simp [Qe] at h
 | [_], _ => simp [Qe] at h
 | _ :: _ :: _ :: _, _ => simp [Qe] at h
 | [_, _], [] => simp [Qe] at h
 | [_, _], _ :: _ :: _ => simp [Qe] at h
theorem Qfr {c : Call} (h : Qbl c = true) (ts : List V) : ∃ l, c.args.toList.map (ev ts) = .nil :: l := by
 unfold Qbl at h;split at h
 ·rename_i l hl; exact ⟨_, by rw [hl]; rfl⟩
 ·cases h
theorem Qaq {c : Call} {b : Builtin} (hc : c.callee = .builtin b) (h : Km (.call c) = true) : b = .append ∧ Qbl c = true := by
 simp only [Km, hc] at h;split at h
 ·rename_i hh; cases hh
 ·rename_i hh; injection hh with hh; exact ⟨hh, h⟩
 ·cases h
theorem Qes {C : Ctx} {cw : CW} {HH : Qa} (hcw : CWok cw HH) {op : Op} {ts : List V} {H : Qa} {K K' : V → Qa → Prop} (hn : Km op = true ∨ Xr op = true) (hK : ∀ v H', K v H' → K' v H') (h : opc C.ty cw op ts H K) : opc C.ty cw op ts H K' := by
 cases op with
 | alloc t => exact ⟨h.1, hK _ _ h.2⟩
 | box t x => exact ⟨h.1, hK _ _ h.2⟩
 | buildSlice t n ps =>
  have hb : Qa9 ps.toList = false := by simpa [Km, Xr] using hn
  simp only [opc, opw, hb, Qgy, Qak] at h ⊢;refine ⟨h.1, ?_⟩
  have h := h.2
  unfold bso at h ⊢;split
  ·rename_i e he;rw [he] at h;obtain ⟨h1, h2, h3, h4⟩ := h;refine ⟨h1, h2, h3, ?_⟩;unfold Qa8 at h4 ⊢;split
   ·rename_i l hl; rw [hl] at h4; exact hK _ _ h4
   ·rename_i hl; rw [hl] at h4; exact h4
  ·rename_i he; rw [he] at h; exact h
 | makeSlice t l c =>
  simp only [opc, opw] at h ⊢;refine ⟨h.1, ?_⟩;exact Qkn hK h.2
 | store t x v =>
  simp only [opc, opw] at h ⊢;refine ⟨h.1, ?_⟩
  have h := h.2
  unfold Ke at h ⊢;split
  ·rename_i r off hx;simp only [hx] at h;split
   ·rename_i row hrow;simp only [hrow] at h;exact ⟨h.1, h.2.1, h.2.2.1, hK _ _ h.2.2.2⟩
   ·rename_i hrow; simp only [hrow] at h
  ·rename_i hne;split at h
   ·rename_i r off hx; exact (hne _ _ hx).elim
   ·exact h
 | call c =>
  simp only [opc] at h ⊢;cases hc : c.callee with
  | value f =>
   rw [hc] at h;exact hcw.mono hK h
  | builtin b =>
   rw [hc] at h;obtain ⟨rfl, _⟩ := Qaq hc (hn.resolve_right (by simp [Xr]))
   exact Qaj hK h
  | invoke _ _ => simp [Km, Xr, hc] at hn
 | _ => simp [Km, Xr] at hn
theorem Qkf {C : Ctx} {cw : CW} {HH : Qa} (hcw : CWok cw HH) {op : Op} {ts : List V} {H : Qa} {p : Prop} (hn : Km op = true ∨ Xr op = true) (h : opc C.ty cw op ts H fun _ _ => p) : p := by
 cases op with
 | alloc t => exact h.2
 | box t x => exact h.2
 | buildSlice t n ps =>
  have hb : Qa9 ps.toList = false := by simpa [Km, Xr] using hn
  simp only [opc, opw, hb, Qgy, Qak] at h
  have h := h.2
  unfold bso at h;split at h
  ·obtain ⟨h1, h2, h3, h4⟩ := h;unfold Qa8 at h4;split at h4
   ·exact h4
   ·exact h4.elim
  ·exact h.elim
 | makeSlice t l c =>
  simp only [opc, opw] at h
  have h := h.2
  unfold Qah at h;split at h
  ·exact h.2.2.2.2.2
  ·exact h.elim
 | store t x v =>
  simp only [opc, opw] at h
  have h := h.2
  unfold Ke at h;split at h
  ·split at h
   ·exact h.2.2.2
   ·exact h.elim
  ·exact h.elim
 | call c =>
  simp only [opc] at h;cases hc : c.callee with
  | value f =>
   rw [hc] at h;exact hcw.strict h
  | builtin b =>
   rw [hc] at h;obtain ⟨rfl, _⟩ := Qaq hc (hn.resolve_right (by simp [Xr]))
   exact Jy h
  | invoke _ _ => simp [Km, Xr, hc] at hn
 | _ => simp [Km, Xr] at hn
def Det (F : (V → Prop) → Prop) : Prop := ∃ (p : Prop) (v : V), ∀ k : V → Prop, F k ↔ (p ∧ k v)
theorem Det.of {F : (V → Prop) → Prop} (v : V) (h : ∀ k, F k ↔ k v) : Det F := ⟨True, v, fun k => by simp [h]⟩
theorem Det.no {F : (V → Prop) → Prop} (h : ∀ k, ¬ F k) : Det F := ⟨False, .any, fun k => ⟨fun h' => (h k h').elim, fun h' => h'.1.elim⟩⟩
theorem Det.and {F : (V → Prop) → Prop} {G : (V → Prop) → Prop} {q : Prop} (h : Det F) (hg : ∀ k, G k ↔ (q ∧ F k)) : Det G := by
 obtain ⟨p, v, h⟩ := h;exact ⟨q ∧ p, v, fun k => by rw [hg, h, and_assoc]⟩
theorem Det.two {F : (V → Prop) → Prop} (q : Prop) (x y : V) (h : ∀ k, F k ↔ ((q → k x) ∧ (¬ q → k y))) : Det F := by
 by_cases hq : q
 ·exact .of x fun k => by rw [h]; exact ⟨fun h => h.1 hq, fun h => ⟨fun _ => h, fun h' => (h' hq).elim⟩⟩
 ·exact .of y fun k => by rw [h]; exact ⟨fun h => h.2 hq, fun h => ⟨fun h' => (hq h').elim, fun _ => h⟩⟩
theorem Qne (c a b : V) : Det (Qb5 c a b) := by
 cases c with
 | bool t => exact .two (t = true) a b fun k => by cases t <;> simp [Qb5]
 | _ => exact .no fun k h => h
theorem Qrj (op : BinOp) (k k' : IntKind) (a b : Int) : Det (Yt op k a k' b) := by
 cases op <;> first
  | exact .no fun k h => h
  | exact .and (q := k = k') (.of _ fun _ => Iff.rfl) fun _ => Iff.rfl
  | exact .and (q := k = k') (.and (q := b ≠ 0) (.of _ fun _ => Iff.rfl) fun _ => Iff.rfl) fun _ => Iff.rfl
  | exact .and (q := 0 ≤ b) (.of _ fun _ => Iff.rfl) fun _ => Iff.rfl
theorem Qji (y : Ty) (op : BinOp) (a b : V) (H : Qa) (hb : Kl b = true) : Det (Kz y op a b H) := by
 cases b with
 | int k' b' =>
  cases a with
  | int k a' => exact Qrj op k k' a' b'
  | _ => exact .no fun k h => h
 | bool b' =>
  cases a with
  | bool a' =>
   cases op <;> first
    | exact .no fun k h => h.2
    | exact .and (q := y.bl = true) (.of _ fun _ => Iff.rfl) fun _ => Iff.rfl
  | _ => exact .no fun k h => h
 | str b' =>
  cases a with
  | str a' =>
   cases op <;> first
    | exact .no fun k h => h
    | exact .of _ fun _ => Iff.rfl
  | _ => exact .no fun k h => h
 | nil => cases hb
 | _ => cases a <;> exact .no fun k h => h
theorem Qn3 (y : Ty) (x : V) (H : Qa) : Det (Jo y x H) := by
 cases x with
 | rp cs off => exact .and (.of _ fun _ => Iff.rfl) fun _ => Iff.rfl
 | ptr r off =>
  cases hrow : Qd H r with
  | none => exact .no fun k h => by simp only [Jo, hrow] at h
  | some row => exact .and (q := off + y.size ≤ row.cs.length) (.of (Qdg y row.cs off) fun _ => Iff.rfl) fun k => by simp only [Jo, hrow]
 | _ => exact .no fun k h => h
theorem Qth (op : UnOp) (x : V) : Det (unw op x) := by
 cases op <;> cases x <;> first
  | exact .no fun k h => h
  | exact .of _ fun _ => Iff.rfl
theorem Qoj (y : Ty) (x : V) : Det (Qa0 y x) := by
 cases hk : y.ik with
 | none => exact .no fun k h => by simp [Qa0, hk] at h
 | some ik =>
  cases x with
  | int k n => exact .of (.int ik (ik.wrap n)) fun k => by simp [Qa0, hk]
  | _ => exact .no fun k h => by simp [Qa0, hk] at h
theorem Qrx (x : V) (i : Nat) : Det (Qhl x i) := by
 cases x with
 | tup vs => exact .and (.of _ fun _ => Iff.rfl) fun _ => Iff.rfl
 | _ => exact .no fun k h => h
theorem Qqs (x : V) : Det (Qev x) := by
 cases x with
 | ptr r off => exact .of _ fun _ => Iff.rfl
 | rp cs off => exact .of _ fun _ => Iff.rfl
 | fn f xs ys => cases f <;> first | exact .of _ fun _ => Iff.rfl | exact .no fun k h => h
 | _ => exact .no fun k h => h
theorem Qmg (ty : TypeId → Ty) (f : Option (Nat × Nat)) (g : Nat → V) : Det fun k => fao ty f fun o => k (g o) := by
 cases f with
 | none => exact .no fun k h => h
 | some p => obtain ⟨o, u⟩ := p; exact .and (.and (.of _ fun _ => Iff.rfl) fun _ => Iff.rfl) fun _ => Iff.rfl
theorem Quz (ty : TypeId → Ty) (f : Option (Nat × Nat)) (x : V) : Det (faw ty f x) := by
 cases x with
 | ptr r off => exact Qmg ty f _
 | rp cs off => exact Qmg ty f _
 | _ => exact .no fun k h => h
theorem Qk6 (ty : TypeId → Ty) (y : Ty) (x : V) (f : Nat) : Det (Ks ty y x f) := by
 cases hf : y.fs[f]? with
 | none => exact .no fun k h => by simp [Ks, hf] at h
 | some p =>
  obtain ⟨o, u⟩ := p;cases x with
  | agg cs => exact .and (q := (ty u).ok = true) (.and (q := o + (ty u).size ≤ cs.length) (.of (Qdg (ty u) cs o) fun _ => Iff.rfl) fun _ => Iff.rfl) fun k => by simp only [Ks, hf]
  | _ => exact .no fun k h => by simp [Ks, hf] at h
theorem Qrn (ty : TypeId → Ty) (y : Ty) (x i : V) (H : Qa) : Det (Qhh ty y x i H) := by
 refine .and (F := Qw ty y x i) ?_ fun _ => Iff.rfl
 cases i with
 | int k i =>
  cases hs : y.sl with
  | some e =>
   cases x with
   | sl n cs => exact .and (q := (ty e).ok = true) (.and (q := 0 ≤ i) (.and (q := i < n) (.of (.rp cs (i.toNat * (ty e).size)) fun _ => Iff.rfl) fun _ => Iff.rfl) fun _ => Iff.rfl) fun k => by simp only [Qw, hs]
   | ref r off n => exact .and (q := (ty e).ok = true) (.and (q := 0 ≤ i) (.and (q := i < n) (.of (.ptr r (off + i.toNat * (ty e).size)) fun _ => Iff.rfl) fun _ => Iff.rfl) fun _ => Iff.rfl) fun k => by simp only [Qw, hs]
   | ptr r off =>
    cases ha : y.arr with
    | none => exact .no fun k h => by simp [Qw, hs, ha] at h
    | some p => obtain ⟨n, e'⟩ := p; exact .and (q := (ty e').ok = true) (.and (q := 0 ≤ i) (.and (q := i < n) (.of (.ptr r (off + i.toNat * (ty e').size)) fun _ => Iff.rfl) fun _ => Iff.rfl) fun _ => Iff.rfl) fun k => by simp only [Qw, hs, ha]
   | _ => exact .no fun k h => by simp [Qw, hs] at h
  | none =>
   cases x with
   | ptr r off =>
    cases ha : y.arr with
    | none => exact .no fun k h => by simp [Qw, hs, ha] at h
    | some p => obtain ⟨n, e'⟩ := p; exact .and (q := (ty e').ok = true) (.and (q := 0 ≤ i) (.and (q := i < n) (.of (.ptr r (off + i.toNat * (ty e').size)) fun _ => Iff.rfl) fun _ => Iff.rfl) fun _ => Iff.rfl) fun k => by simp only [Qw, hs, ha]
   | _ => exact .no fun k h => by simp [Qw, hs] at h
 | _ => exact .no fun k h => h
theorem Qk0 (ty : TypeId → Ty) (y : Ty) (x i : V) : Det (Yp ty y x i) := by
 cases ha : y.arr with
 | none =>
  cases x with
  | str s =>
   cases i with
   | int k i => exact .and (q := y.str = true) (.and (q := 0 ≤ i) (.and (q := i.toNat < s.size) (.of (.int .u8 ((s[i.toNat]?.getD 0).toNat : Int)) fun _ => Iff.rfl) fun _ => Iff.rfl) fun _ => Iff.rfl) fun k => by simp only [Yp, ha]
   | _ => exact .no fun k h => by simp [Yp, ha] at h
  | _ => exact .no fun k h => by simp [Yp, ha] at h
 | some p =>
  obtain ⟨n, e⟩ := p;cases x with
  | agg cs =>
   cases i with
   | int k i => exact .and (q := (ty e).ok = true) (.and (q := 0 ≤ i) (.and (q := i < n) (.and (q := i.toNat * (ty e).size + (ty e).size ≤ cs.length) (.of (Qdg (ty e) cs (i.toNat * (ty e).size)) fun _ => Iff.rfl) fun _ => Iff.rfl) fun _ => Iff.rfl) fun _ => Iff.rfl) fun k => by simp only [Yp, ha]
   | _ => exact .no fun k h => by simp [Yp, ha] at h
  | _ => exact .no fun k h => by simp [Yp, ha] at h
theorem Qlg (ty : TypeId → Ty) (t : TypeId) (ps : List (Nat × V)) : Det (Ku ty t ps) := by
 have e : Ku ty t ps = fun KP => bwo ty (ty t).arr t ps KP := by funext KP; rw [Qgj]
 rw [e];cases (ty t).arr with
 | none =>
  refine .and (.and (F := fun k => Qa8 (Ya (fun i => ((ty t).fs[i]?).map fun p => (p.1, (ty p.2).size)) (Xa (ty t)) ps) fun out => k (.agg out)) ?_ fun _ => Iff.rfl) fun _ => Iff.rfl
  cases Ya (fun i => ((ty t).fs[i]?).map fun p => (p.1, (ty p.2).size)) (Xa (ty t)) ps with
  | none => exact .no fun k h => h
  | some l => exact .of _ fun _ => Iff.rfl
 | some ne =>
  obtain ⟨n, e⟩ := ne;refine .and (F := fun k => Qa8 (Ya (fun i => some (i * (ty e).size, (ty e).size)) (Xa (ty t)) ps) fun out => k (.agg out)) ?_ fun _ => Iff.rfl
  cases Ya (fun i => some (i * (ty e).size, (ty e).size)) (Xa (ty t)) ps with
  | none => exact .no fun k h => h
  | some l => exact .of _ fun _ => Iff.rfl
theorem Qq5 (y : Ty) (x : V) : Det (lenw y x) := by
 cases x with
 | sl n cs => exact .and (.of _ fun _ => Iff.rfl) fun _ => Iff.rfl
 | ref r off n => exact .and (.of _ fun _ => Iff.rfl) fun _ => Iff.rfl
 | nil => exact .and (.of _ fun _ => Iff.rfl) fun _ => Iff.rfl
 | str s => exact .and (.of _ fun _ => Iff.rfl) fun _ => Iff.rfl
 | _ => exact .no fun k h => h
theorem Qj0 (ty : TypeId → Ty) (y : Ty) (x : V) (lo hi : Option V) (H : Qa) : Det (Qp ty y x lo hi H) := by
 cases hs : y.sl with
 | none => exact .no fun k h => by simp [Qp, hs] at h
 | some e =>
  have main : ∀ {F : (V → Prop) → Prop}, Det F → (∀ k, Qp ty y x lo hi H k ↔ ((ty e).ok = true ∧ 0 < (ty e).size ∧ F k)) → Det (Qp ty y x lo hi H) := fun h hk => .and (.and h fun _ => Iff.rfl) fun k => by rw [hk]
  cases lo with
  | none =>
   cases hi with
   | none => exact .no fun k h => by simp [Qp, hs] at h
   | some v =>
    cases v with
    | int kk h =>
     cases x with
     | sl n cs => exact main (F := fun k => 0 ≤ h ∧ h ≤ n ∧ k (.sl h.toNat (cs.take (h.toNat * (ty e).size)))) (.and (.and (.of _ fun _ => Iff.rfl) fun _ => Iff.rfl) fun _ => Iff.rfl) fun k => by simp only [Qp, hs]
     | ref r off n => exact main (F := fun k => 0 ≤ h ∧ (Qd H r).isSome = true ∧ h ≤ n ∧ (h = 0 → k (.sl 0 [])) ∧ (h ≠ 0 → k (.ref r off h.toNat))) (.and (.and (.and (.two (h = 0) _ _ fun _ => Iff.rfl) fun _ => Iff.rfl) fun _ => Iff.rfl) fun _ => Iff.rfl) fun k => by simp only [Qp, hs]
     | nil => exact main (F := fun k => 0 ≤ h ∧ h = 0 ∧ k .nil) (.and (.and (.of _ fun _ => Iff.rfl) fun _ => Iff.rfl) fun _ => Iff.rfl) fun k => by simp only [Qp, hs]
     | _ => exact .no fun k h => by simp [Qp, hs] at h
    | _ => exact .no fun k h => by simp [Qp, hs] at h
  | some u =>
   cases u with
   | int k0 l =>
    cases hi with
    | none =>
     cases x with
     | sl n cs => exact main (F := fun k => 0 ≤ l ∧ l ≤ n ∧ k (.sl (n - l.toNat) (cs.drop (l.toNat * (ty e).size)))) (.and (.and (.of _ fun _ => Iff.rfl) fun _ => Iff.rfl) fun _ => Iff.rfl) fun k => by simp only [Qp, hs]
     | ref r off n => exact main (F := fun k => 0 ≤ l ∧ (Qd H r).isSome = true ∧ l ≤ n ∧ (l = n → k (.sl 0 [])) ∧ (l ≠ n → k (.ref r (off + l.toNat * (ty e).size) (n - l.toNat)))) (.and (.and (.and (.two (l = n) _ _ fun _ => Iff.rfl) fun _ => Iff.rfl) fun _ => Iff.rfl) fun _ => Iff.rfl) fun k => by simp only [Qp, hs]
     | nil => exact main (F := fun k => 0 ≤ l ∧ l = 0 ∧ k .nil) (.and (.and (.of _ fun _ => Iff.rfl) fun _ => Iff.rfl) fun _ => Iff.rfl) fun k => by simp only [Qp, hs]
     | _ => exact .no fun k h => by simp [Qp, hs] at h
    | some v =>
     cases v with
     | int kk h =>
      cases x with
      | sl n cs => exact main (F := fun k => 0 ≤ l ∧ l ≤ h ∧ h ≤ n ∧ k (.sl (h.toNat - l.toNat) ((cs.drop (l.toNat * (ty e).size)).take ((h.toNat - l.toNat) * (ty e).size)))) (.and (.and (.and (.of _ fun _ => Iff.rfl) fun _ => Iff.rfl) fun _ => Iff.rfl) fun _ => Iff.rfl) fun k => by simp only [Qp, hs]
      | ref r off n => exact main (F := fun k => 0 ≤ l ∧ l ≤ h ∧ (Qd H r).isSome = true ∧ h ≤ n ∧ (l = h → k (.sl 0 [])) ∧ (l ≠ h → k (.ref r (off + l.toNat * (ty e).size) (h.toNat - l.toNat)))) (.and (.and (.and (.and (.two (l = h) _ _ fun _ => Iff.rfl) fun _ => Iff.rfl) fun _ => Iff.rfl) fun _ => Iff.rfl) fun _ => Iff.rfl) fun k => by simp only [Qp, hs]
      | nil => exact main (F := fun k => 0 ≤ l ∧ l ≤ h ∧ h = 0 ∧ k .nil) (.and (.and (.and (.of _ fun _ => Iff.rfl) fun _ => Iff.rfl) fun _ => Iff.rfl) fun _ => Iff.rfl) fun k => by simp only [Qp, hs]
      | _ => exact .no fun k h => by simp [Qp, hs] at h
     | _ => exact .no fun k h => by simp [Qp, hs] at h
   | _ => cases hi <;> exact .no fun k h => by simp [Qp, hs] at h
theorem Qhs (ty : TypeId → Ty) (b : Builtin) (hb : b = .len ∨ b = .min ∨ b = .max) (ats : List TypeId) (args : List V) (H : Qa) : Det fun k => Qe ty b ats args H fun v _ => k v := by
 rcases hb with rfl | rfl | rfl
 ·match ats, args with
  | [t], [x] => exact .and (Qq5 (ty t) x) fun _ => Iff.rfl
  | [], _ => exact .no fun k h => h
  | [_], [] => exact .no fun k h => h
  | [_], _ :: _ :: _ => exact .no fun k h => h
  | _ :: _ :: _, _ => exact .no fun k h => h
 ·match args with
  | [x, y] =>
   cases x with
   | int k a =>
    cases y with
    | int k' b => exact .of _ fun _ => Iff.rfl
    | _ => exact .no fun k h => h
   | _ => exact .no fun k h => by cases y <;> exact h
  | [] => exact .no fun k h => by simp [Qe] at h
  | [_] => exact .no fun k h => by simp [Qe] at h
  | _ :: _ :: _ :: _ => exact .no fun k h => by simp [Qe] at h
 ·match args with
  | [x, y] =>
   cases x with
   | int k a =>
    cases y with
    | int k' b => exact .of _ fun _ => Iff.rfl
    | _ => exact .no fun k h => h
   | _ => exact .no fun k h => by cases y <;> exact h
  | [] => exact .no fun k h => by simp [Qe] at h
  | [_] => exact .no fun k h => by simp [Qe] at h
  | _ :: _ :: _ :: _ => exact .no fun k h => by simp [Qe] at h
theorem Qqx (ty : TypeId → Ty) (t : TypeId) (len : Nat) (ps : List (Nat × V)) : Det (Qew ty t len ps) := by
 unfold Qew;split
 ·rename_i e he;split
  ·rename_i out hv;exact .and (F := fun k => k (.sl len out)) (q := (ty e).ok = true ∧ len * (ty e).size ≤ 16777216 ∧ 0 < (ty e).size) (.of _ fun _ => Iff.rfl) fun k => by simp [and_assoc]
  ·exact .no fun k h => h.2.2.2
 ·exact .no fun k h => h
theorem Qcs {C : Ctx} {cw : CW} {op : Op} (hn : Xn op = true ∨ Xf op = true) (ts : List V) (H : Qa) (hnil : Yb op ts) : Det fun k => opc C.ty cw op ts H fun v _ => k v := by
 cases op with
 | move x => exact .of _ fun _ => Iff.rfl
 | assign x => exact .of _ fun _ => Iff.rfl
 | pick c a b => exact Qne _ _ _
 | binOp o t x y yt => exact .and (Qji _ _ _ _ _ hnil) fun _ => Iff.rfl
 | unOp o t x => exact Qth _ _
 | convert s d x => exact .and (.and (Qoj _ _) fun _ => Iff.rfl) fun _ => Iff.rfl
 | makeFunc fn a b => exact .of _ fun _ => Iff.rfl
 | extract x i => exact Qrx _ _
 | nilCheck x => exact Qqs _
 | load t x => exact .and (Qn3 _ _ _) fun _ => Iff.rfl
 | build t ps => exact .and (Qlg _ _ _) fun _ => Iff.rfl
 | buildSlice t n ps =>
  have hb : Qa9 ps.toList = true := by simpa [Xn, Xf] using hn
  refine .and (F := fun k => Qew C.ty t n (ps.toList.map fun p => (p.1, ev ts p.2)) k) (q := (C.ty t).ok = true) (Qqx _ _ _ _) fun k => ?_
  simp only [opc, opw, hb, Qef]
 | slice t x lo hi mx =>
  cases mx with
  | none => exact .and (.and (Qj0 _ _ _ _ _ _) fun _ => Iff.rfl) fun _ => Iff.rfl
  | some m => simp [Xn, Xf] at hn
 | fieldAddr t x f => exact .and (Quz C.ty ((C.ty t).fs[f]?) (ev ts x)) fun k => by rw [Qap]
 | field t x f => exact .and (Qk6 _ _ _ _) fun _ => Iff.rfl
 | indexAddr t x i => exact .and (Qrn _ _ _ _ _) fun _ => Iff.rfl
 | index t x i => exact .and (Qk0 _ _ _ _) fun _ => Iff.rfl
 | call c =>
  obtain ⟨callee, args, ats⟩ := c;cases callee with
  | builtin b =>
   have hb : b = .len ∨ b = .min ∨ b = .max := by
    cases b <;> simp [Xn, Xf] at hn ⊢
   exact Qhs _ b hb _ _ _
  | value f => simp [Xn, Xf] at hn
  | invoke _ _ => simp [Xn, Xf] at hn
 | _ => simp [Xn, Xf] at hn
theorem Qx2 {ts : List V} {d : Option Tmp} {v : V} {x : Operand} (h : ∀ t, d = some t → x ≠ .tmp t) : ev (Xd ts d v) x = ev ts x := by
 cases d with
 | none => rfl
 | some t =>
  cases x with
  | tmp u =>
   have hne : u ≠ t := fun e => h t rfl (by rw [e])
   simp only [ev, Xd, Ka];rw [if_neg (fun h => hne h.1)]
  | _ => rfl
theorem Qpc {ts : List V} {i j : Nat} (h : i ≠ j) (x y : V) : upd (upd ts i x) j y = upd (upd ts j y) i x := by
 induction ts generalizing i j with
 | nil => rfl
 | cons a l ih =>
  cases i with
  | zero => cases j with
   | zero => exact (h rfl).elim
   | succ j => rfl
  | succ i => cases j with
   | zero => rfl
   | succ j => simp only [upd]; rw [ih (by omega)]
theorem Qf3 {ts : List V} {d e : Option Tmp} (h : ∀ t, d = some t → e ≠ some t) (x y : V) : Xd (Xd ts d x) e y = Xd (Xd ts e y) d x := by
 cases d with
 | none => rfl
 | some i => cases e with
  | none => rfl
  | some j => exact Qpc (fun e => h i rfl (by rw [e])) x y
theorem Qxb {ty : TypeId → Ty} {cw : CW} {op : Op} {ts ts' : List V} (h : ∀ x ∈ op.operands, ev ts x = ev ts' x) : opc ty cw op ts = opc ty cw op ts' := by
 have hp : ∀ (ps : Array (Nat × Operand)), (∀ x ∈ (ps.toList.map (·.2)), ev ts x = ev ts' x) → (ps.toList.map fun p => (p.1, ev ts p.2)) = ps.toList.map fun p => (p.1, ev ts' p.2) := fun ps h => List.map_congr_left fun p hp => by rw [h p.2 (List.mem_map_of_mem hp)]
 have ha : ∀ (xs : Array Operand), (∀ x ∈ xs, ev ts x = ev ts' x) → xs.toList.map (ev ts) = xs.toList.map (ev ts') := fun xs h => List.map_congr_left fun x hx => h x (by simpa using hx)
 have ho : ∀ (o : Option Operand), (∀ x ∈ o, ev ts x = ev ts' x) → o.map (ev ts) = o.map (ev ts') := fun o h => by cases o with | none => rfl | some x => simp [h x rfl]
 funext H K;cases op with
 | move x => have e := h x (by simp [Op.operands]); simp only [opc, opw, e]
 | assign x => have e := h x (by simp [Op.operands]); simp only [opc, opw, e]
 | pick c a b => have e1 := h c (by simp [Op.operands]); have e2 := h a (by simp [Op.operands]); have e3 := h b (by simp [Op.operands]); simp only [opc, opw, e1, e2, e3]
 | binOp o t x y yt => have e1 := h x (by simp [Op.operands]); have e2 := h y (by simp [Op.operands]); simp only [opc, opw, e1, e2]
 | unOp o t x => have e := h x (by simp [Op.operands]); simp only [opc, opw, e]
 | convert s d x => have e := h x (by simp [Op.operands]); simp only [opc, opw, e]
 | makeFunc fn first caps => simp only [opc, opw, ha first (fun x hx => h x (by simp [Op.operands, hx])), ha caps (fun x hx => h x (by simp [Op.operands, hx]))]
 | extract x i => have e := h x (by simp [Op.operands]); simp only [opc, opw, e]
 | nilCheck x => have e := h x (by simp [Op.operands]); simp only [opc, opw, e]
 | load t x => have e := h x (by simp [Op.operands]); simp only [opc, opw, e]
 | store t x v => have e1 := h x (by simp [Op.operands]); have e2 := h v (by simp [Op.operands]); simp only [opc, opw, e1, e2]
 | box t x => have e := h x (by simp [Op.operands]); simp only [opc, opw, e]
 | alloc t => rfl
 | build t ps => simp only [opc, opw, hp ps (fun x hx => h x (by simpa [Op.operands] using hx))]
 | buildSlice t n ps => simp only [opc, opw, hp ps (fun x hx => h x (by simpa [Op.operands] using hx))]
 | makeSlice t a v => have e1 := h a (by simp [Op.operands]); have e2 := h v (by simp [Op.operands]); simp only [opc, opw, e1, e2]
 | slice t x lo hi mx =>
  have e := h x (by simp [Op.operands])
  have e1 := ho lo (fun y hy => h y (by simp only [Option.mem_def] at hy; simp [Op.operands, hy]))
  have e2 := ho hi (fun y hy => h y (by simp only [Option.mem_def] at hy; simp [Op.operands, hy]))
  simp only [opc, opw, e, e1, e2]
 | fieldAddr t x f => have e := h x (by simp [Op.operands]); simp only [opc, opw, e]
 | field t x f => have e := h x (by simp [Op.operands]); simp only [opc, opw, e]
 | indexAddr t x i => have e1 := h x (by simp [Op.operands]); have e2 := h i (by simp [Op.operands]); simp only [opc, opw, e1, e2]
 | index t x i => have e1 := h x (by simp [Op.operands]); have e2 := h i (by simp [Op.operands]); simp only [opc, opw, e1, e2]
 | call c =>
  obtain ⟨callee, args, ats⟩ := c
  have e := ha args (fun x hx => h x (by simp [Op.operands, Call.operands, hx]))
  cases callee with
  | builtin b => simp only [opc, e]
  | value f =>
   have ef := h f (by simp [Op.operands, Call.operands])
   simp only [opc, e, ef]
  | invoke _ _ => rfl
 | _ => rfl
theorem Qip {op : Op} {ts ts' : List V} (h : ∀ x ∈ op.operands, ev ts x = ev ts' x) : Yb op ts = Yb op ts' := by
 cases op with
 | binOp o t x y yt => have e2 := h y (by simp [Op.operands]); simp only [Yb, e2]
 | _ => rfl
theorem Qnn {C : Ctx} {cw : CW} {op : Op} {ts ts' : List V} {H0 : Qa} (h : ∀ x ∈ op.operands, ev ts x = ev ts' x) : opd C cw op ts H0 = opd C cw op ts' H0 := by
 funext H K;simp only [opd, Qxb h, Qip h]
theorem Qgu {C : Ctx} {cw : CW} {ops : Array Oper} {H0 : Qa} {o : Oper} {ts : List V} {d : Option Tmp} {v : V} (h : ∀ t, d = some t → t ∉ o.looksAt ops) : tro C cw ops H0 o (Xd ts d v) = tro C cw ops H0 o ts := by
 have e : opd C cw o.op (Xd ts d v) H0 = opd C cw o.op ts H0 := Qnn fun x hx => Qx2 fun t ht hxt => h t ht (by
  subst hxt;exact List.mem_append_left _ (List.mem_filterMap.2 ⟨.tmp t, by simpa using hx, rfl⟩))
 funext H K;simp only [tro, e];cases hg : o.guard with
 | none => rfl
 | some g =>
  obtain ⟨j, want⟩ := g;simp only [Jv];cases hd : (ops[j]?).bind (·.dst) with
  | none => rfl
  | some u =>
   have hu : nth (Xd ts d v) u = nth ts u := by
    cases d with
    | none => rfl
    | some t =>
     have hne : u ≠ t := fun e => h t rfl (by subst e; simp [Oper.looksAt, hg, hd])
     simp only [Xd, Ka];rw [if_neg (fun h => hne h.1)]
   simp only [hu]
def known (op : Op) : Bool := if Qx op then Km op || Xr op || Qb8 op else Xn op || Xf op
theorem Qe0 {op : Op} (h : Qb8 op = true) : ∃ c, op = .call c ∧ c.callee = .builtin .append := by
 unfold Qb8 at h;split at h
 ·rename_i c;split at h
  ·rename_i hc; exact ⟨c, rfl, hc⟩
  ·cases h
 ·cases h
theorem Qct {C : Ctx} {cw : CW} {op : Op} {ts : List V} {H : Qa} {K K' : V → Qa → Prop} (hn : Qb8 op = true) (hK : ∀ v H', K v H' → K' v H') (h : opc C.ty cw op ts H K) : opc C.ty cw op ts H K' := by
 obtain ⟨c, rfl, hc⟩ := Qe0 hn;simp only [opc, hc] at h ⊢;exact Qaj hK h
theorem Qeu {C : Ctx} {cw : CW} {op : Op} {ts : List V} {H : Qa} {p : Prop} (hn : Qb8 op = true) (h : opc C.ty cw op ts H fun _ _ => p) : p := by
 obtain ⟨c, rfl, hc⟩ := Qe0 hn;simp only [opc, hc] at h;exact Jy h
theorem Qih {C : Ctx} {cw : CW} {op : Op} {ts : List V} {H0 H : Qa} {K : V → Qa → Prop} (hn : Zy op = true) (h : opc C.ty cw op ts H0 fun v _ => K v H) : opc C.ty cw op ts H K := by
 cases op with
 | call c =>
  simp only [Zy] at hn;split at hn
  ·rename_i hc;simp only [opc, hc] at h ⊢
   revert h
   generalize c.argTypes.toList = ats;generalize (c.args.toList.map (ev ts)) = args
   match ats, args with
   | [t], [x] => exact id
   | [], _ => intro h; simp [Qe] at h
   | _ :: _ :: _, _ => intro h; simp [Qe] at h
   | [_], [] => intro h; simp [Qe] at h
   | [_], _ :: _ :: _ => intro h; simp [Qe] at h
  ·cases hn
 | buildSlice t n ps =>
  have hb : Qa9 ps.toList = true := by simpa [Zy] using hn
  simp only [opc, opw, hb, Qef] at h ⊢;exact h
 | move _ | assign _ | pick _ _ _ | unOp _ _ _ | convert _ _ _ | makeFunc _ _ _ | extract _ _ | nilCheck _ | build _ _ | fieldAddr _ _ _ | field _ _ _ | index _ _ _ => exact h
 | _ => simp [Zy] at hn
theorem Kd {C : Ctx} {cw : CW} {HH : Qa} (hcw : CWok cw HH) {ops : Array Oper} {H0 : Qa} {o : Oper} {ts : List V} {H : Qa} {K K' : V → Qa → Prop} (hk : known o.op = true) (hK : ∀ v H', K v H' → K' v H') (h : tro C cw ops H0 o ts H K) : tro C cw ops H0 o ts H K' := by
 have main : opd C cw o.op ts H0 H K → opd C cw o.op ts H0 H K' := by
  unfold opd known at *;split
  ·rename_i he;simp only [he, if_true, Bool.or_eq_true] at hk;rcases hk with hk | hk
   ·exact Qes hcw hk hK
   ·exact Qct hk hK
  ·rename_i he;simp only [he, Bool.false_eq_true, if_false, Bool.or_eq_true] at hk;rintro ⟨h1, h2⟩;obtain ⟨p, v, hd⟩ := Qcs hk ts H0 h1;refine ⟨h1, (hd (fun v => K' v H)).2 ?_⟩
   have := (hd (fun v => K v H)).1 h2
   exact ⟨this.1, hK _ _ this.2⟩
 revert h
 unfold tro Jv;split
 ·exact main
 ·split
  ·split
   ·exact fun h => ⟨fun e => main (h.1 e), fun e => hK _ _ (h.2 e)⟩
   ·exact hK _ _
   ·exact id
  ·exact id
theorem Qjx {C : Ctx} {cw : CW} {HH : Qa} (hcw : CWok cw HH) {ops : Array Oper} {H0 : Qa} {o : Oper} {ts : List V} {H : Qa} {p : Prop} (hk : known o.op = true) (h : tro C cw ops H0 o ts H fun _ _ => p) : p := by
 have main : opd C cw o.op ts H0 H (fun _ _ => p) → p := by
  unfold opd known at *;split
  ·rename_i he;simp only [he, if_true, Bool.or_eq_true] at hk;rcases hk with hk | hk
   ·exact Qkf hcw hk
   ·exact Qeu hk
  ·rename_i he;simp only [he, Bool.false_eq_true, if_false, Bool.or_eq_true] at hk;rintro ⟨h1, h2⟩;obtain ⟨q, v, hd⟩ := Qcs hk ts H0 h1;exact ((hd (fun _ => p)).1 h2).2
 revert h
 unfold tro Jv;split
 ·exact main
 ·split
  ·split
   ·rename_i want _ _ _ _ _ b _;intro h;by_cases hb : b = want
    ·exact main (h.1 hb)
    ·exact h.2 hb
   ·exact id
   ·exact fun h => h.elim
  ·exact fun h => h.elim
theorem Qly {C : Ctx} {cw : CW} {ops : Array Oper} {H0 : Qa} {o : Oper} (ts : List V) (hk : known o.op = true) (he : Qx o.op = false) : ∃ p v, ∀ H K, tro C cw ops H0 o ts H K ↔ (p ∧ K v H) := by
 have main : ∃ p v, ∀ H K, opd C cw o.op ts H0 H K ↔ (p ∧ K v H) := by
  simp only [known, he, Bool.false_eq_true, if_false, Bool.or_eq_true] at hk;by_cases h1 : Yb o.op ts
  ·obtain ⟨q, v, hd⟩ := Qcs (C := C) hk ts H0 h1;refine ⟨q, v, fun H K => ?_⟩
   simp only [opd, he, Bool.false_eq_true, if_false, h1, true_and];exact hd fun v => K v H
  ·exact ⟨False, .any, fun H K => by simp [opd, he, h1]⟩
 unfold tro Jv;split
 ·exact main
 ·split
  ·split
   ·rename_i want _ _ _ _ _ b _;by_cases hb : b = want
    ·obtain ⟨p, v, h⟩ := main;exact ⟨p, v, fun H K => by simp [hb, h]⟩
    ·exact ⟨True, .tup [], fun H K => by simp [hb]⟩
   ·exact ⟨True, .tup [], fun H K => by simp⟩
   ·exact ⟨False, .any, fun H K => by simp⟩
  ·exact ⟨False, .any, fun H K => by simp⟩
theorem Qpf {C : Ctx} {cw : CW} {HH : Qa} (hcw : CWok cw HH) {ops : Array Oper} {H0 : Qa} {x y : Oper} {ts : List V} {H : Qa} {K : List V → Qa → Prop} (hx : known x.op = true) (hy : known y.op = true) (hap : x.apart ops y = true) (he : Qx x.op = false ∨ Qx y.op = false)
  (h : tro C cw ops H0 x ts H fun v H1 => tro C cw ops H0 y (Xd ts x.dst v) H1 fun u H2 => K (Xd (Xd ts x.dst v) y.dst u) H2) :
  tro C cw ops H0 y ts H fun u H1 => tro C cw ops H0 x (Xd ts y.dst u) H1 fun v H2 => K (Xd (Xd ts y.dst u) x.dst v) H2 := by
 obtain ⟨h1, h2, h3⟩ := Oper.apart_spec hap;simp only [Qgu h1] at h;simp only [Qgu h3]
 have e : ∀ u v, Xd (Xd ts y.dst u) x.dst v = Xd (Xd ts x.dst v) y.dst u := fun u v => (Qf3 h2 v u).symm
 simp only [e];rcases he with he | he
 ·obtain ⟨p, v, hd⟩ := Qly (C := C) (cw := cw) (ops := ops) (H0 := H0) ts hx he;simp only [hd] at h ⊢;refine Kd hcw hy (fun _ _ h' => h') ?_
  obtain ⟨hp, h⟩ := h;exact Kd hcw hy (fun _ _ h' => ⟨hp, h'⟩) h
 ·obtain ⟨p, u, hd⟩ := Qly (C := C) (cw := cw) (ops := ops) (H0 := H0) ts hy he;simp only [hd] at h ⊢;exact ⟨Qjx hcw hx (Kd hcw hx (fun _ _ h' => h'.1) h), Kd hcw hx (fun _ _ h' => h'.2) h⟩
def Jn (C : Ctx) (cw : CW) (ops : Array Oper) (H0 : Qa) (K : List V → Qa → Prop) : List Nat → List V → Qa → Prop
 | [], ts, H => K ts H
 | i :: rest, ts, H => match ops[i]? with
  | none => Jn C cw ops H0 K rest ts H
  | some o => tro C cw ops H0 o ts H fun v H' => Jn C cw ops H0 K rest (Xd ts o.dst v) H'
def Xw (ops : Array Oper) : Bool := ops.toList.all fun o => known o.op
theorem Yv {ops : Array Oper} (h : Xw ops = true) {i : Nat} {o : Oper} (ho : ops[i]? = some o) : known o.op = true := by
 simp only [Xw, List.all_eq_true] at h;exact h o (by simpa using Array.mem_of_getElem? ho)
def Ys (ops : Array Oper) (i j : Nat) : Bool := match ops[i]?, ops[j]? with
 | some x, some y => x.apart ops y && (!Qx x.op || !Qx y.op)
 | _, _ => true
theorem Qni {C : Ctx} {cw : CW} {HH : Qa} (hcw : CWok cw HH) {ops : Array Oper} {H0 : Qa} {K : List V → Qa → Prop} {i j : Nat} {rest : List Nat} {ts : List V} {H : Qa} (hk : Xw ops = true) (hp : Ys ops i j = true) (h : Jn C cw ops H0 K (i :: j :: rest) ts H) : Jn C cw ops H0 K (j :: i :: rest) ts H := by
 simp only [Jn] at h ⊢;cases hi : ops[i]? with
 | none => simp only [hi] at h ⊢; cases hj : ops[j]? with
  | none => simpa only [hj] using h
  | some y => simpa only [hj] using h
 | some x => cases hj : ops[j]? with
  | none => simp only [hi, hj] at h ⊢; exact h
  | some y =>
   simp only [hi, hj] at h ⊢;simp only [Ys, hi, hj, Bool.and_eq_true, Bool.or_eq_true, Bool.not_eq_true'] at hp;exact Qpf hcw (Yv hk hi) (Yv hk hj) hp.1 hp.2 h
theorem Qnh {C : Ctx} {cw : CW} {HH : Qa} (hcw : CWok cw HH) {ops : Array Oper} {H0 : Qa} {K : List V → Qa → Prop} {l l' : List Nat} (hk : Xw ops = true) (hl : ∀ ts H, Jn C cw ops H0 K l ts H → Jn C cw ops H0 K l' ts H) (i : Nat) {ts : List V} {H : Qa} (h : Jn C cw ops H0 K (i :: l) ts H) : Jn C cw ops H0 K (i :: l') ts H := by
 simp only [Jn] at h ⊢;cases hi : ops[i]? with
 | none => simp only [hi] at h ⊢; exact hl _ _ h
 | some x => simp only [hi] at h ⊢; exact Kd hcw (Yv hk hi) (fun _ _ h => hl _ _ h) h
theorem Qaf {C : Ctx} {cw : CW} {HH : Qa} (hcw : CWok cw HH) {ops : Array Oper} {H0 : Qa} {K : List V → Qa → Prop} (hk : Xw ops = true) {i : Nat} (l2 : List Nat) : ∀ (l1 : List Nat), (∀ j ∈ l1, Ys ops j i = true) → ∀ ts H, Jn C cw ops H0 K (l1 ++ i :: l2) ts H → Jn C cw ops H0 K (i :: (l1 ++ l2)) ts H
 | [], _, ts, H, h => h
 | j :: l1, hp, ts, H, h => Qni hcw hk (hp j (by simp)) (Qnh hcw hk (Qaf hcw hk l2 l1 fun j hj => hp j (by simp [hj])) j h)
theorem Qt9 {C : Ctx} {cw : CW} {HH : Qa} (hcw : CWok cw HH) {op : Op} {ts : List V} {H : Qa} {K : V → Qa → Prop} (hn : Km op = true) (h : opc C.ty cw op ts H K) : opc C.ty cw op ts H fun v H' => Kp HH H H' ∧ K v H' := by
 cases op with
 | alloc t => exact ⟨h.1, .of (.app _ _), h.2⟩
 | box t x => exact ⟨h.1, .of (.app _ _), h.2⟩
 | buildSlice t n ps =>
  have hb : Qa9 ps.toList = false := by simpa [Km, Xr] using hn
  simp only [opc, opw, hb, Qgy, Qak] at h ⊢;refine ⟨h.1, ?_⟩
  have h := h.2
  unfold bso at h ⊢;split
  ·rename_i e he;rw [he] at h;obtain ⟨h1, h2, h3, h4⟩ := h;refine ⟨h1, h2, h3, ?_⟩;unfold Qa8 at h4 ⊢;split
   ·rename_i l hl; rw [hl] at h4; exact ⟨.of (.app _ _), h4⟩
   ·rename_i hl; rw [hl] at h4; exact h4
  ·rename_i he; rw [he] at h; exact h
 | makeSlice t l c =>
  simp only [opc, opw] at h ⊢;refine ⟨h.1, ?_⟩
  have h := h.2
  revert h
  unfold Qah;split
  ·rintro ⟨h1, h2, h3, h4, h5, h6⟩;exact ⟨h1, h2, h3, h4, h5, .of (.app _ _), h6⟩
  ·exact id
 | call c =>
  simp only [opc] at h ⊢;cases hc : c.callee with
  | value f =>
   rw [hc] at h;exact hcw.new h
  | builtin b =>
   rw [hc] at h;obtain ⟨rfl, hnf⟩ := Qaq hc hn;obtain ⟨l, hl⟩ := Qfr hnf ts;simp only [hl] at h ⊢;exact Qdn h
  | invoke _ _ => simp [Km, hc] at hn
 | _ => simp [Km] at hn
theorem Qkg {C : Ctx} {cw : CW} {op : Op} {ts : List V} {H : Qa} {K : V → Qa → Prop} (hn : Xr op = true) (h : opc C.ty cw op ts H K) : opc C.ty cw op ts H fun v H' => Stand H H' ∧ K v H' := by
 cases op with
 | store t x v =>
  simp only [opc, opw] at h ⊢;refine ⟨h.1, ?_⟩
  have h := h.2
  unfold Ke at h ⊢;split
  ·rename_i r off hx;simp only [hx] at h;split
   ·rename_i row hrow;simp only [hrow] at h;exact ⟨h.1, h.2.1, h.2.2.1, .set _ _ _, h.2.2.2⟩
   ·rename_i hrow; simp only [hrow] at h
  ·rename_i hne;split at h
   ·rename_i r off hx; exact (hne _ _ hx).elim
   ·exact h
 | _ => simp [Xr] at hn
theorem Qvc {y : Ty} {op : BinOp} {a b : V} {H0 H : Qa} {K : V → Prop} (hb : Kl b = true) (h : Kz y op a b H0 K) : Kz y op a b H K := by
 cases b with
 | nil => cases hb
 | _ => cases a <;> exact h
theorem Qmz {ty : TypeId → Ty} {y : Ty} {x : V} {lo hi : Option V} {H0 H : Qa} {K : V → Prop} (hl : Stand H0 H) (h : Qp ty y x lo hi H0 K) : Qp ty y x lo hi H K := by
 cases hs : y.sl with
 | none => simp [Qp, hs] at h
 | some e =>
  cases lo with
  | none => cases hi with
   | none => simp [Qp, hs] at h
   | some v => cases v with
    | int kk n => cases x with
     | ref r off m => simp only [Qp, hs] at h ⊢; exact ⟨h.1, h.2.1, h.2.2.1, hl _ h.2.2.2.1, h.2.2.2.2⟩
     | _ => simp only [Qp, hs] at h ⊢; exact h
    | _ => simp [Qp, hs] at h
  | some u => cases u with
   | int k0 l => cases hi with
    | none => cases x with
     | ref r off m => simp only [Qp, hs] at h ⊢; exact ⟨h.1, h.2.1, h.2.2.1, hl _ h.2.2.2.1, h.2.2.2.2⟩
     | _ => simp only [Qp, hs] at h ⊢; exact h
    | some v => cases v with
     | int kk n => cases x with
      | ref r off m => simp only [Qp, hs] at h ⊢; exact ⟨h.1, h.2.1, h.2.2.1, h.2.2.2.1, hl _ h.2.2.2.2.1, h.2.2.2.2.2⟩
      | _ => simp only [Qp, hs] at h ⊢; exact h
     | _ => simp [Qp, hs] at h
   | _ => cases hi <;> simp [Qp, hs] at h
theorem Qqw {y : Ty} {x : V} {H0 H : Qa} {K : V → Prop} (hl : Same H0 H) (h : Jo y x H0 K) : Jo y x H K := by
 cases x with
 | ptr r off =>
  simp only [Jo] at h ⊢;cases hrow : Qd H0 r with
  | none => rw [hrow] at h; exact h.elim
  | some row => rw [hrow] at h; rw [hl r row hrow]; exact h
 | _ => exact h
theorem Qke {C : Ctx} {cw : CW} {op : Op} {ts : List V} {H0 H : Qa} {K : V → Qa → Prop} (hn : (Xn op = true ∧ Stand H0 H) ∨ (Xf op = true ∧ Same H0 H)) (hnil : Yb op ts) (h : opc C.ty cw op ts H0 fun v _ => K v H) : opc C.ty cw op ts H K := by
 rcases hn with ⟨hn, hl⟩ | ⟨hn, hl⟩
 ·cases op with
  | binOp o t x y yt => exact ⟨h.1, Qvc hnil h.2⟩
  | slice t x lo hi mx => exact ⟨h.1, h.2.1, Qmz hl h.2.2⟩
  | indexAddr t x i =>
   simp only [opc, opw] at h ⊢;refine ⟨h.1, ?_, h.2.2⟩
   have h := h.2.1
   revert h
   cases ev ts x <;> first | exact hl _ | exact id
  | call c =>
   obtain ⟨callee, args, ats⟩ := c;cases callee with
   | builtin b =>
    have hb : b = .len ∨ b = .min ∨ b = .max := by
     cases b <;> simp [Xn] at hn ⊢
    simp only [opc] at h ⊢
    revert h
    generalize ats.toList = ats', args.toList.map (ev ts) = args';rcases hb with rfl | rfl | rfl
    ·match ats', args' with
     | [t], [x] => exact id
     | [], _ => exact fun h => h.elim
     | [_], [] => exact fun h => h.elim
     | [_], _ :: _ :: _ => exact fun h => h.elim
     | _ :: _ :: _, _ => exact fun h => h.elim
    ·match args' with
     | [x, y] => cases x <;> cases y <;> exact id
     | [] => intro h; simp [Qe] at h
     | [_] => intro h; simp [Qe] at h
     | _ :: _ :: _ :: _ => intro h; simp [Qe] at h
    ·match args' with
     | [x, y] => cases x <;> cases y <;> exact id
     | [] => intro h; simp [Qe] at h
     | [_] => intro h; simp [Qe] at h
     | _ :: _ :: _ :: _ => intro h; simp [Qe] at h
   | value f => simp [Xn] at hn
   | invoke _ _ => simp [Xn] at hn
  | buildSlice t n ps =>
   have hb : Qa9 ps.toList = true := by simpa [Xn] using hn
   simp only [opc, opw, hb, Qef] at h ⊢;exact h
  | move _ | assign _ | pick _ _ _ | unOp _ _ _ | convert _ _ _ | makeFunc _ _ _ | extract _ _ | nilCheck _ | build _ _ | fieldAddr _ _ _ | field _ _ _ | index _ _ _ => exact h
  | _ => simp [Xn] at hn
 ·cases op with
  | load t x => exact ⟨h.1, Qqw hl h.2⟩
  | _ => simp [Xf] at hn
def Xi (o : Oper) (j : Nat) : Bool := o.after.toList.any fun e => Region.binds .any e && e.on == j
def Ja (ops : Array Oper) : Nat → Nat → Nat → Bool
 | 0, _, _ => false
 | fuel + 1, j, i => match ops[i]? with
  | none => false
  | some o => Xi o j || o.after.toList.any fun e => Region.binds .any e && (match ops[e.on]? with | some p => Qx p.op || decide (j < e.on) | none => false) && Ja ops fuel j e.on
def Zg (ops : Array Oper) : Nat → Nat → Nat → Bool
 | 0, _, _ => false
 | fuel + 1, j, i => match ops[i]? with
  | none => false
  | some o => Xi o j || o.after.toList.any fun e => Region.binds .any e && decide (j < e.on) && Zg ops fuel j e.on
def Jw (ops : Array Oper) : Bool :=
 Xw ops &&
 (List.range ops.size).all fun i => match ops[i]? with
  | none => true
  | some o =>
   (o.after.toList.all fun e => !Region.binds .any e || decide (e.on < i)) &&
   ((List.range i).all fun j => Ys ops j i || Ja ops i j i) &&
   (!Xr o.op || (List.range ops.size).all fun j => match ops[j]? with
    | some p => !Xf p.op || Zg ops i j i
    | none => true) &&
   (!Qb8 o.op || (List.range ops.size).all fun j => match ops[j]? with
    | some p => Zy p.op || Qx p.op || Zg ops i j i
    | none => true)
def Qfj (ops : Array Oper) (listed : Array Bool) : Prop := ∀ i o, ops[i]? = some o → listed.getD i false = true → ∀ j, Xi o j = true → listed.getD j false = true
theorem Qc5 {ops : Array Oper} {listed : Array Bool} (hc : Qfj ops listed) : ∀ (fuel j i : Nat) (o : Oper), ops[i]? = some o → (∀ k, Xi o k = true → listed.getD k false = true) → Ja ops fuel j i = true → listed.getD j false = true := by
 intro fuel
 induction fuel with
 | zero => intro j i o ho hb h; simp [Ja] at h
 | succ fuel ih =>
  intro j i o ho hb h;simp only [Ja, ho, Bool.or_eq_true, List.any_eq_true, Bool.and_eq_true] at h;rcases h with h | ⟨e, he, ⟨h1, h2⟩, h3⟩
  ·exact hb j h
  ·have hl : listed.getD e.on false = true := hb e.on (by simp only [Xi, List.any_eq_true, Bool.and_eq_true]; exact ⟨e, he, h1, by simp⟩)
   cases hp : ops[e.on]? with
   | none => simp [hp] at h2
   | some p => exact ih j e.on p hp (hc e.on p hp hl) h3
theorem Yn {ops : Array Oper} {listed : Array Bool} (hc : Qfj ops listed) : ∀ (fuel j i : Nat) (o : Oper), ops[i]? = some o → (∀ k, Xi o k = true → listed.getD k false = true) → Zg ops fuel j i = true → listed.getD j false = true := by
 intro fuel
 induction fuel with
 | zero => intro j i o ho hb h; simp [Zg] at h
 | succ fuel ih =>
  intro j i o ho hb h;simp only [Zg, ho, Bool.or_eq_true, List.any_eq_true, Bool.and_eq_true] at h;rcases h with h | ⟨e, he, ⟨h1, h2⟩, h3⟩
  ·exact hb j h
  ·have hl : listed.getD e.on false = true := hb e.on (by simp only [Xi, List.any_eq_true, Bool.and_eq_true]; exact ⟨e, he, h1, by simp⟩)
   cases hp : ops[e.on]? with
   | none =>
    cases fuel with
    | zero => simp [Zg] at h3
    | succ f => simp [Zg, hp] at h3
   | some p => exact ih j e.on p hp (hc e.on p hp hl) h3
theorem Qf8 {C : Ctx} {cw : CW} {H0 : Qa} (hcw : CWok cw H0) {op : Op} {ts : List V} {H : Qa} {K : V → Qa → Prop} (hk : known op = true) (hS : Same H0 H ∨ (Stand H0 H ∧ Xf op = false) ∨ (Zy op = true ∨ Qx op = true)) (h : opd C cw op ts H0 H K) :
  opc C.ty cw op ts H fun v H' => (Kp H0 H H' ∨ (Xr op = true ∧ Stand H H') ∨ Qb8 op = true) ∧ K v H' := by
 unfold opd known at *;split at h
 ·rename_i he;simp only [he, if_true, Bool.or_eq_true] at hk;rcases hk with (hk | hk) | hk
  ·exact Qes hcw (.inl hk) (fun v H' h => ⟨.inl h.1, h.2⟩) (Qt9 hcw hk h)
  ·exact Qes hcw (.inr hk) (fun v H' h => ⟨.inr (.inl ⟨hk, h.1⟩), h.2⟩) (Qkg hk h)
  ·exact Qct hk (fun v H' h => ⟨.inr (.inr hk), h⟩) h
 ·rename_i he;simp only [he, Bool.false_eq_true, if_false, Bool.or_eq_true] at hk;obtain ⟨h1, h2⟩ := h;obtain ⟨p, v, hd⟩ := Qcs (C := C) hk ts H0 h1
  have h2 := (hd (fun v => K v H)).1 h2
  have h2' := (hd fun v => (Kp H0 H H ∨ (Xr op = true ∧ Stand H H) ∨ Qb8 op = true) ∧ K v H).2 ⟨h2.1, (.inl (Kp.refl _ _)), h2.2⟩
  rcases hS with hS | hS | hS
  ·refine Qke ?_ h1 h2';rcases hk with hk | hk
   ·exact .inl ⟨hk, hS.stand⟩
   ·exact .inr ⟨hk, hS⟩
  ·refine Qke ?_ h1 h2';rcases hk with hk | hk
   ·exact .inl ⟨hk, hS.1⟩
   ·have := hS.2; rw [hk] at this; cases this
  ·rcases hS with hS | hS
   ·exact Qih hS h2'
   ·exact (he hS).elim
theorem Qas {ops : Array Oper} {listed : Array Bool} {i : Nat} (h : i ∈ Region.ready .any ops listed) : listed.getD i true = false ∧ ∃ o, ops[i]? = some o ∧ ∀ j, Xi o j = true → listed.getD j false = true := by
 obtain ⟨h1, o, h2, h3⟩ := mem_ready.1 h;refine ⟨h1, o, h2, fun j hj => ?_⟩
 simp only [Xi, List.any_eq_true, Bool.and_eq_true] at hj;obtain ⟨e, he, h4, h5⟩ := hj
 have := h3 e (by simpa using he) h4
 rw [beq_iff_eq] at h5
 rwa [h5] at this
structure Left (ops : Array Oper) (listed : Array Bool) (S : List Nat) : Prop where
 size : listed.size = ops.size
 sorted : S.Pairwise (· < ·)
 mem : ∀ i, i ∈ S ↔ i < ops.size ∧ listed.getD i false = false
 closed : Qfj ops listed
theorem Left.take {ops : Array Oper} {listed : Array Bool} {l1 l2 : List Nat} {i : Nat} {o : Oper} (h : Left ops listed (l1 ++ i :: l2)) (ho : ops[i]? = some o) (hb : ∀ j, Xi o j = true → listed.getD j false = true) : Left ops (listed.setIfInBounds i true) (l1 ++ l2) := by
 have hi := (h.mem i).1 (by simp)
 have hlt : i < listed.size := by rw [h.size]; exact hi.1
 have hget : ∀ j, (listed.setIfInBounds i true).getD j false = if i = j then true else listed.getD j false := fun j => by
  simp only [Array.getD_eq_getD_getElem?, Array.getElem?_setIfInBounds];split
  ·simp [hlt]
  ·rfl
 have hs := h.sorted
 rw [List.pairwise_append] at hs;obtain ⟨s1, s2, s3⟩ := hs;rw [List.pairwise_cons] at s2;refine ⟨by simp [h.size], List.pairwise_append.2 ⟨s1, s2.2, fun a ha b hb' => s3 a ha b (by simp [hb'])⟩, fun j => ?_, fun k p hp hl j hj => ?_⟩
 ·rw [hget]
  have hm := h.mem j
  simp only [List.mem_append, List.mem_cons] at hm ⊢;by_cases e : i = j
  ·subst e;simp only [if_true, Bool.true_eq_false, and_false, iff_false];rintro (h1 | h1)
   ·have := s3 i h1 i (by simp); omega
   ·have := s2.1 i h1; omega
  ·rw [if_neg e];rw [← hm];constructor
   ·rintro (h1 | h1)
    ·exact .inl h1
    ·exact .inr (.inr h1)
   ·rintro (h1 | h1 | h1)
    ·exact .inl h1
    ·exact (e h1.symm).elim
    ·exact .inr h1
 ·rw [hget] at hl ⊢;split
  ·rfl
  ·split at hl
   ·rename_i e; subst e; rw [ho] at hp; cases hp; exact hb j hj
   ·exact h.closed k p hp hl j hj
def Hat (ops : Array Oper) (G : Nat → Prop) (i : Nat) (o : Oper) : Prop := (∀ j, Xi o j = true → j < i) ∧ (∀ j, j < i → G j → Ys ops j i = true ∨ Ja ops i j i = true) ∧ (Xr o.op = true → ∀ j p, ops[j]? = some p → Xf p.op = true → Zg ops i j i = true) ∧
   (Qb8 o.op = true → ∀ j p, ops[j]? = some p → (Zy p.op = true ∨ Qx p.op = true) ∨ Zg ops i j i = true)
theorem Qcc {ops : Array Oper} (hok : Jw ops = true) (G : Nat → Prop) : ∀ i o, ops[i]? = some o → G i → Hat ops G i o := by
 intro i o ho _
 have hlt : i < ops.size := (Array.getElem?_eq_some_iff.1 ho).1
 simp only [Jw, Bool.and_eq_true, List.all_eq_true, List.mem_range] at hok
 have h := hok.2 i hlt
 simp only [ho, Bool.and_eq_true, List.all_eq_true, List.mem_range, Bool.or_eq_true, Bool.not_eq_true', decide_eq_true_eq] at h;refine ⟨fun j hj => ?_, fun j hj _ => h.1.1.2 j hj, fun hs j p hp hl => ?_, fun hs j p hp => ?_⟩
 ·simp only [Xi, List.any_eq_true, Bool.and_eq_true] at hj;obtain ⟨e, he, h4, h5⟩ := hj;rw [beq_iff_eq] at h5;subst h5;rcases h.1.1.1 e he with h6 | h6
  ·rw [h4] at h6; cases h6
  ·exact h6
 ·have hlj : j < ops.size := (Array.getElem?_eq_some_iff.1 hp).1
  rcases h.1.2 with h6 | h6
  ·rw [hs] at h6; cases h6
  ·have := h6 j hlj
   simp only [hp, Bool.or_eq_true, Bool.not_eq_true', hl, Bool.true_eq_false, false_or] at this;exact this
 ·have hlj : j < ops.size := (Array.getElem?_eq_some_iff.1 hp).1
  rcases h.2 with h6 | h6
  ·rw [hs] at h6; cases h6
  ·have := h6 j hlj
   simp only [hp, Bool.or_eq_true] at this;exact this
theorem Qjl {C : Ctx} {ro : Option Nat} {ops : Array Oper} {R : Exit → Act → World → Prop} {listed : Array Bool} {a : Act} {w : World} (hL : Left ops listed []) (h : R .normal a w) : ∀ {fuel : Nat}, wpAnyIn (FW ro) 0 C.P .any ops R fuel listed a w := by
 have hr : Region.ready .any ops listed = [] := by
  cases hr : Region.ready .any ops listed with
  | nil => rfl
  | cons i l =>
   exfalso;obtain ⟨h1, o, ho, h3⟩ := Qas (listed := listed) (i := i) (by rw [hr]; simp)
   have hlt : i < ops.size := (Array.getElem?_eq_some_iff.1 ho).1
   have hlt' : i < listed.size := by rw [hL.size]; exact hlt
   have := (hL.mem i).2 ⟨hlt, by simpa only [Array.getD_eq_getD_getElem?, hlt', Array.getElem?_eq_getElem, Option.getD_some] using h1⟩
   cases this
 intro fuel;cases fuel with
 | zero => exact ⟨hr, h⟩
 | succ fuel => exact ⟨fun _ => h, fun i hi => by rw [hr] at hi; cases hi⟩
theorem Qfd {C : Ctx} {cw : CW}  {ro : Option Nat} {ops : Array Oper} {H0 : Qa} (hcw : CWok cw H0) {K : List V → Qa → Prop} {R : Exit → Act → World → Prop} {Inv : List V → Qa → Act → World → Prop} (hk : Xw ops = true) (G : Nat → Prop) (hat : ∀ i o, ops[i]? = some o → G i → Hat ops G i o)
  (htr : ∀ ts H a w, Inv ts H a w → ∃ im pl, TR im pl w ts a.tmps)
  (hop : ∀ (i : Nat) (o : Oper), ops[i]? = some o → ∀ (ts : List V) (H : Qa) (a : Act) (w : World) (KK : V → Qa → Prop) (next : Act → World → Prop), opc C.ty cw o.op ts H KK → Inv ts H a w →
   (∀ v vc H' w', KK v H' → Inv (Xd ts o.dst v) H' (a.put o.dst vc) w' → next (a.put o.dst vc) w') → o.wpIn (FW ro) 0 C.P a w next R)
  (hskip : ∀ ts H a w d, Inv ts H a w → Inv (Xd ts d (.tup [])) H (a.put d (.tuple [].toArray)) w)
  (tl : List Nat) (htl : ∀ i ∈ tl, ∀ j, j < ops.size → j ∉ tl → Zg ops i j i = true) (hK : ∀ (fuel : Nat) (listed : Array Bool) a w ts H, K ts H → Inv ts H a w → Left ops listed tl → tl.length ≤ fuel → wpAnyIn (FW ro) 0 C.P .any ops R fuel listed a w) :
  ∀ (fuel : Nat) (S : List Nat) (listed : Array Bool) (ts : List V) (H : Qa) (w : World) (a : Act), (∀ i ∈ S, G i) → Left ops listed (S ++ tl) → (S ++ tl).length ≤ fuel →
  (Same H0 H ∨ (Stand H0 H ∧ ∀ j ∈ S, ∀ p, ops[j]? = some p → Xf p.op = false) ∨ (∀ j ∈ S, ∀ p, ops[j]? = some p → Zy p.op = true ∨ Qx p.op = true)) → Jn C cw ops H0 K S ts H → Inv ts H a w →
  wpAnyIn (FW ro) 0 C.P .any ops R fuel listed a w := by
 intro fuel
 have step : ∀ (S : List Nat) (listed : Array Bool), (∀ i ∈ S, G i) → Left ops listed (S ++ tl) → Region.ready .any ops listed = [] → S = [] := by
  intro S listed hG hL hr;cases S with
  | nil => rfl
  | cons i S =>
   exfalso
   have hi := (hL.mem i).1 (by simp)
   have : i ∈ Region.ready .any ops listed := by
    refine mem_ready.2 ⟨?_, ops[i], by simp [hi.1], fun e he hb => ?_⟩
    ·have hlt : i < listed.size := by rw [hL.size]; exact hi.1
     have := hi.2
     simp only [Array.getD_eq_getD_getElem?, hlt, Array.getElem?_eq_getElem, Option.getD_some] at this ⊢;exact this
    ·have hbt : Xi ops[i] e.on = true := by
      simp only [Xi, List.any_eq_true, Bool.and_eq_true];exact ⟨e, by simpa using he, hb, by simp⟩
     have hlt := (hat i ops[i] (by simp [hi.1]) (hG i (by simp))).1 e.on hbt
     cases hl : listed.getD e.on false with
     | true => rfl
     | false =>
      have := (hL.mem e.on).2 ⟨by omega, hl⟩
      have hs := hL.sorted
      rw [List.cons_append] at this hs;rw [List.pairwise_cons] at hs;rcases List.mem_cons.1 this with h1 | h1
      ·omega
      ·have := hs.1 _ h1; omega
   rw [hr] at this;cases this
 induction fuel with
 | zero =>
  intro S listed ts H w a hG hL hlen hS hx hR
  have : S = [] := by cases S with
   | nil => rfl
   | cons i S => simp at hlen
  subst this;exact hK 0 listed a w ts H hx hR (by simpa using hL) (by simpa using hlen)
 | succ fuel ih =>
  intro S listed ts H w a hG hL hlen hS hx hR;by_cases hne : S = []
  ·subst hne;exact hK (fuel + 1) listed a w ts H hx hR (by simpa using hL) (by simpa using hlen)
  refine ⟨fun hr => (hne (step S listed hG hL hr)).elim, fun i hi => ?_⟩
  ·obtain ⟨h1, o, ho, h3⟩ := Qas hi
   have hlt : i < ops.size := (Array.getElem?_eq_some_iff.1 ho).1
   have hlt' : i < listed.size := by rw [hL.size]; exact hlt
   have hm' := (hL.mem i).2 ⟨hlt, by simpa only [Array.getD_eq_getD_getElem?, hlt', Array.getElem?_eq_getElem, Option.getD_some] using h1⟩
   have hm : i ∈ S := by
    rcases List.mem_append.1 hm' with h | h
    ·exact h
    ·exfalso;obtain ⟨j, S', rfl⟩ := List.exists_cons_of_ne_nil hne
     have hs := hL.sorted
     rw [List.pairwise_append] at hs
     have hjt : j ∉ tl := fun h' => Nat.lt_irrefl j (hs.2.2 j (by simp) j h')
     have h5 := Yn hL.closed i j i o ho h3 (htl i h j ((hL.mem j).1 (by simp)).1 hjt)
     have h6 := (hL.mem j).1 (by simp)
     rw [h5] at h6;cases h6.2
   obtain ⟨l1, l2, rfl⟩ := List.append_of_mem hm
   replace hL : Left ops listed (l1 ++ i :: (l2 ++ tl)) := by simpa using hL
   have hs := hL.sorted
   rw [List.pairwise_append] at hs
   have hGi := hG i hm
   have hb : Jn C cw ops H0 K (i :: (l1 ++ l2)) ts H := by
    refine Qaf hcw hk l2 l1 (fun j hj => ?_) ts H hx
    have hji : j < i := hs.2.2 j hj i (by simp)
    rcases (hat i o ho hGi).2.1 j hji (hG j (by simp [hj])) with h4 | h4
    ·exact h4
    ·have h5 := Qc5 hL.closed i j i o ho h3 h4
     have h6 := (hL.mem j).1 (by simp [hj])
     rw [h5] at h6;cases h6.2
   have hL' := hL.take ho h3
   replace hL' : Left ops (listed.setIfInBounds i true) ((l1 ++ l2) ++ tl) := by simpa using hL'
   have hlen' : ((l1 ++ l2) ++ tl).length ≤ fuel := by simp only [List.length_append, List.length_cons] at hlen ⊢; omega
   have hsub2 : ∀ j, j ∈ l1 ++ l2 → j ∈ l1 ++ i :: (l2 ++ tl) := fun j hj => by
    simp only [List.mem_append, List.mem_cons] at hj ⊢;rcases hj with h | h
    ·exact .inl h
    ·exact .inr (.inr (.inl h))
   have hsub : ∀ j, j ∈ l1 ++ l2 → j ∈ l1 ++ i :: l2 := fun j hj => by
    simp only [List.mem_append, List.mem_cons] at hj ⊢;rcases hj with h | h
    ·exact .inl h
    ·exact .inr (.inr h)
   simp only [Jn, ho] at hb;unfold wpOpIn;simp only [ho];obtain ⟨im, pl, hTR⟩ := htr _ _ _ _ hR;rcases Jp hb hTR with ⟨hw, h⟩ | ⟨hw, h⟩
   ·rw [if_pos hw]
    have hS1 : Same H0 H ∨ (Stand H0 H ∧ Xf o.op = false) ∨ (Zy o.op = true ∨ Qx o.op = true) := hS.imp id fun h => h.imp (fun h => ⟨h.1, h.2 i hm o ho⟩) (fun h => h i hm o ho)
    refine hop i o ho ts H a w _ _ (Qf8 hcw (Yv hk ho) hS1 h) hR fun v vc H' w' k1 k2 => ?_
    refine ih (l1 ++ l2) _ _ H' w' _ (fun j hj => hG j (hsub j hj)) hL' hlen' ?_ k1.2 k2
    rcases k1.1 with k5 | ⟨k5, k6⟩ | k5
    ·rcases hS with hS | hS | hS
     ·exact .inl (k5.1 hS)
     ·exact .inr (.inl ⟨k5.2 hS.1, fun j hj p hp => hS.2 j (hsub j hj) p hp⟩)
     ·exact .inr (.inr fun j hj p hp => hS j (hsub j hj) p hp)
    ·have hnl : ∀ j ∈ l1 ++ l2, ∀ p, ops[j]? = some p → Xf p.op = false := fun j hj p hp => by
      cases hl : Xf p.op with
      | false => rfl
      | true =>
       have h7 := (hat i o ho hGi).2.2.1 k5 j p hp hl
       have h8 := Yn hL.closed i j i o ho h3 h7
       have h9 := (hL.mem j).1 (hsub2 j hj)
       rw [h8] at h9;cases h9.2
     rcases hS with hS | hS | hS
     ·exact .inr (.inl ⟨hS.stand.trans k6, hnl⟩)
     ·exact .inr (.inl ⟨hS.1.trans k6, hnl⟩)
     ·exact .inr (.inr fun j hj p hp => hS j (hsub j hj) p hp)
    ·refine .inr (.inr fun j hj p hp => ?_)
     rcases (hat i o ho hGi).2.2.2 k5 j p hp with h7 | h7
     ·exact h7
     ·have h8 := Yn hL.closed i j i o ho h3 h7
      have h9 := (hL.mem j).1 (hsub2 j hj)
      rw [h8] at h9;cases h9.2
   ·rw [if_neg (by simp [hw])]
    refine ⟨fun _ _ => trivial, ih (l1 ++ l2) _ _ H w _ (fun j hj => hG j (hsub j hj)) hL' hlen' ?_ h (hskip _ _ _ _ _ hR)⟩
    exact hS.imp id fun h => h.imp (fun h => ⟨h.1, fun j hj p hp => h.2 j (hsub j hj) p hp⟩) (fun h j hj p hp => h j (hsub j hj) p hp)
theorem Qfe {C : Ctx} {cw : CW}  {ro : Option Nat} {ops : Array Oper} {H0 : Qa} (hcw : CWok cw H0) {K : List V → Qa → Prop} {R : Exit → Act → World → Prop} {Inv : List V → Qa → Act → World → Prop} (hk : Xw ops = true) (G : Nat → Prop) (hat : ∀ i o, ops[i]? = some o → G i → Hat ops G i o)
  (htr : ∀ ts H a w, Inv ts H a w → ∃ im pl, TR im pl w ts a.tmps)
  (hop : ∀ (i : Nat) (o : Oper), ops[i]? = some o → ∀ (ts : List V) (H : Qa) (a : Act) (w : World) (KK : V → Qa → Prop) (next : Act → World → Prop), opc C.ty cw o.op ts H KK → Inv ts H a w →
   (∀ v vc H' w', KK v H' → Inv (Xd ts o.dst v) H' (a.put o.dst vc) w' → next (a.put o.dst vc) w') → o.wpIn (FW ro) 0 C.P a w next R)
  (hskip : ∀ ts H a w d, Inv ts H a w → Inv (Xd ts d (.tup [])) H (a.put d (.tuple [].toArray)) w)
  (hK : ∀ a w ts H, K ts H → Inv ts H a w → R .normal a w)
  (fuel : Nat) (S : List Nat) (listed : Array Bool) (ts : List V) (H : Qa) (w : World) (a : Act) (hG : ∀ i ∈ S, G i) (hL : Left ops listed S) (hlen : S.length ≤ fuel)
  (hS : Same H0 H ∨ (Stand H0 H ∧ ∀ j ∈ S, ∀ p, ops[j]? = some p → Xf p.op = false) ∨ (∀ j ∈ S, ∀ p, ops[j]? = some p → Zy p.op = true ∨ Qx p.op = true)) (hx : Jn C cw ops H0 K S ts H) (hR : Inv ts H a w) :
  wpAnyIn (FW ro) 0 C.P .any ops R fuel listed a w := by
 refine Qfd hcw hk G hat htr hop hskip [] (fun i hi => by simp at hi) (fun fuel listed a w ts H k1 k2 hL _ => Qjl hL (hK a w ts H k1 k2)) fuel S listed ts H w a hG (by simpa using hL) (by simpa using hlen) hS hx hR
theorem Qg3 {C : Ctx} {cw : CW} {HH : Qa} (hcw : CWok cw HH) {ops : Array Oper} {H0 : Qa} {K : List V → Qa → Prop} (hk : Xw ops = true) : ∀ (l : List Oper) (k : Nat) (ts : List V) (H : Qa), ops.toList.drop k = l → Ju C cw ops H0 K l ts H → Jn C cw ops H0 K (List.range' k l.length) ts H := by
 intro l
 induction l with
 | nil => intro k ts H hl h; exact h
 | cons o l ih =>
  intro k ts H hl h
  have ho : ops[k]? = some o := by
   have : (ops.toList.drop k)[0]? = some o := by rw [hl]; rfl
   simpa [List.getElem?_drop] using this
  have hl' : ops.toList.drop (k + 1) = l := by
   have : (ops.toList.drop k).tail = l := by rw [hl]; rfl
   simpa [List.tail_drop] using this
  simp only [List.length_cons, List.range'_succ, Jn, ho];simp only [Ju] at h
  have : tro C cw ops H0 o ts H fun v H' => Ju C cw ops H0 K l (Xd ts o.dst v) H' := Ko h
  exact Kd hcw (Yv hk ho) (fun v H' h => ih (k + 1) _ H' hl' h) this
theorem Qcd (C : Ctx) (H0 : Qa) : CWok (cwP C H0) H0 := by
 refine ⟨?_, ?_, ?_⟩
 ·intro fv args H K K' hK h;unfold cwP at h ⊢;split
  ·rename_i g xs ys;rcases h with ⟨Q, h1, h2, h4⟩ | ⟨args', Q, h1, h2, h3, h4⟩
   ·exact .inl ⟨Q, h1, h2, fun v H' hq => ⟨(h4 v H' hq).1, hK _ _ (h4 v H' hq).2⟩⟩
   ·exact .inr ⟨args', Q, h1, h2, h3, fun v H' hq => hK _ _ (h4 v H' hq)⟩
  ·rename_i hne;split at h
   ·rename_i g xs ys; exact (hne _ _ _ rfl).elim
   ·exact h
 ·intro fv args H p h;unfold cwP at h;split at h
  ·rcases h with ⟨Q, h1, ⟨v, H', h2⟩, h4⟩ | ⟨args', Q, h1, ⟨v, H', h2⟩, h3, h4⟩
   ·exact (h4 v H' h2).2
   ·exact h4 v H' h2
  ·exact h.elim
 ·intro fv args H K h;unfold cwP at h ⊢;split
  ·rcases h with ⟨Q, h1, h2, h4⟩ | ⟨args', Q, h1, h2, h3, h4⟩
   ·exact .inl ⟨Q, h1, h2, fun v H' hq => ⟨(h4 v H' hq).1, h4 v H' hq⟩⟩
   ·exact .inr ⟨args', Q, h1, h2, h3, fun v H' hq => ⟨.of (.app _ _), h4 v H' hq⟩⟩
  ·rename_i hne;split at h
   ·rename_i g xs ys; exact (hne _ _ _ rfl).elim
   ·exact h
theorem Qyk {C : Ctx} {ro : Option Nat} (hm : C.P.follows .mixedOrders = true) {id : Nat} {ops : Array Oper} {Q : Exit → List V → Qa → Prop} {ts : List V} {H : Qa} (hok : Jw ops = true) {H0 : Qa} (hs0 : Same H0 H) (h : Ju C (cwP C H0) ops H0 (Q .normal) ops.toList ts H) : T C ro (.region id ops true) Q ts H := by
 intro im pl w a hr
 have hk : Xw ops = true := by simp only [Jw, Bool.and_eq_true] at hok; exact hok.1
 refine wpIn_region_any hm ?_
 have hx := Qg3 (Qcd C H0) hk ops.toList 0 ts H (by simp) h
 have hvr : ∀ {v c}, VR im pl w v c → VR im pl { w with drawn := w.drawn + 1 } v c := fun h => VR.world (w := w) (w' := { w with drawn := w.drawn + 1 }) (fun _ _ _ (h : w.cell? _ = some _) => h) h
 have hE : Ext im pl w im pl { w with drawn := w.drawn + 1 } := ⟨rfl, rfl, rfl, Nat.le_refl _, fun _ h => h, fun _ h => .inl h, fun _ _ => .inl rfl, fun r b cap h => .inl ⟨r, cap, h⟩, fun _ _ _ => rfl⟩
 have hr' : Rel im pl { w with drawn := w.drawn + 1 } ts H a := by
  refine ⟨⟨hr.tr.1, fun i => hvr (hr.tr.2 i)⟩, ?_, hr.df.mono hE⟩
  obtain ⟨g1, g2, g3, g4, g5, g6, g7, g8⟩ := hr.hr;refine ⟨g1, g2, g3, g4, g5, g6, g7, fun r b cap hp => ?_⟩
  obtain ⟨e, s, cs, cur, f1, f2, f3, f4, f5, f6⟩ := g8 r b cap hp;exact ⟨e, s, cs, cur, f1, f2, f3, f4, f5, fun j => hvr (f6 j)⟩
 refine Qfe (Qcd C H0) (ro := ro) (ops := ops) (K := Q .normal) (R := Post im pl w a.defers Q) (Inv := fun ts' H' a' w' => ∃ im' pl', Rel im' pl' w' ts' H' a' ∧ Ext im pl w im' pl' w' ∧ a'.defers = a.defers) hk (fun _ => True) (Qcc hok _) ?_ ?_ ?_ ?_
  ops.size (List.range' 0 ops.toList.length) _ ts H _ a (fun _ _ => trivial) ⟨by simp, ?_, fun i => ?_, fun i o ho hl => ?_⟩ (by simp) (.inl hs0) hx ⟨im, pl, hr', hE, rfl⟩
 ·rintro ts' H' a' w' ⟨im', pl', h1, _, _⟩; exact ⟨im', pl', h1.tr⟩
 ·rintro _ o _ ts' H' a' w' KK next ho ⟨im', pl', h1, h2, h3⟩ hnext;exact Jg (Qdl C H0 ro) ho h1.tr h1.hr fun v vc H2 im2 pl2 w2 k1 k2 k3 k4 => hnext v vc H2 w2 k1 ⟨im2, pl2, h1.put k4 k3 k2 _, h2.trans k4, by rw [Qv]; exact h3⟩
 ·rintro ts' H' a' w' d ⟨im', pl', h1, h2, h3⟩;exact ⟨im', pl', h1.put (.refl _ _ _) h1.hr (.tup [] [] rfl fun j => by simp [nth, List.getD]; exact .any _) _, h2, by rw [Qv]; exact h3⟩
 ·rintro a' w' ts' H' k1 ⟨im', pl', k2, k3, k4⟩;exact ⟨ts', H', im', pl', k1, k2, k3, by rw [k4]; exact .refl _ _⟩
 ·exact List.pairwise_lt_range' ..
 ·simp only [List.mem_range'_1, Nat.zero_le, true_and, Nat.zero_add, Array.length_toList];simp only [Array.getD_eq_getD_getElem?, Array.getElem?_replicate];constructor
  ·intro h; refine ⟨h, ?_⟩; simp [h]
  ·exact fun h => h.1
 ·exfalso;simp only [Array.getD_eq_getD_getElem?, Array.getElem?_replicate] at hl
  split at hl <;> simp at hl
theorem Qqa {C : Ctx} {cw : CW} {HH : Qa} (hcw : CWok cw HH) {ops : Array Oper} {H0 : Qa} {K : List V → Qa → Prop} (hk : Xw ops = true) (r : List Oper) : ∀ (l : List Oper) (k : Nat) (ts : List V) (H : Qa), ops.toList.drop k = l ++ r → Ju C cw ops H0 K l ts H → Jn C cw ops H0 K (List.range' k l.length) ts H := by
 intro l
 induction l with
 | nil => intro k ts H hl h; exact h
 | cons o l ih =>
  intro k ts H hl h
  have ho : ops[k]? = some o := by
   have : (ops.toList.drop k)[0]? = some o := by rw [hl]; rfl
   simpa [List.getElem?_drop] using this
  have hl' : ops.toList.drop (k + 1) = l ++ r := by
   have : (ops.toList.drop k).tail = l ++ r := by rw [hl]; rfl
   simpa [List.tail_drop] using this
  simp only [List.length_cons, List.range'_succ, Jn, ho];simp only [Ju] at h
  have : tro C cw ops H0 o ts H fun v H' => Ju C cw ops H0 K l (Xd ts o.dst v) H' := Ko h
  exact Kd hcw (Yv hk ho) (fun v H' h => ih (k + 1) _ H' hl' h) this
def Qxn : Op → Bool
 | .call _ => true
 | _ => false
def Qey (ops : Array Oper) : Bool := Jw ops && match ops[ops.size - 1]? with
 | none => false
 | some o => o.guard.isNone && Qxn o.op && (List.range (ops.size - 1)).all fun j => Zg ops (ops.size - 1) j (ops.size - 1)
theorem Qyj {C : Ctx} {ro : Option Nat} (hm : C.P.follows .mixedOrders = true) {id : Nat} {ops : Array Oper} {Q : Exit → List V → Qa → Prop} {ts : List V} {H : Qa} (hok : Qey ops = true) {H0 : Qa} (hs0 : Same H0 H)
  (h : Ju C (cwP C H0) ops H0 (fun ts H => Jc C.ty (cwF C) ops (Q .normal) (ops.toList.drop (ops.size - 1)) ts H) ops.toList.dropLast ts H) : T C ro (.region id ops true) Q ts H := by
 intro im pl w a hr;simp only [Qey, Bool.and_eq_true] at hok;obtain ⟨hok, hlast⟩ := hok;cases hom : ops[ops.size - 1]? with
 | none => rw [hom] at hlast; cases hlast
 | some om =>
 rw [hom] at hlast;simp only [Bool.and_eq_true, List.all_eq_true, List.mem_range, Option.isNone_iff_eq_none] at hlast;obtain ⟨⟨hgd, -⟩, hah⟩ := hlast
 have hlt : ops.size - 1 < ops.size := (Array.getElem?_eq_some_iff.1 hom).1
 generalize hmm : ops.size - 1 = m at *
 have hsz : ops.size = m + 1 := by omega
 have hdrop : ops.toList.drop m = [om] := by
  have h1 : (ops.toList.drop m).length = 1 := by simp; omega
  obtain ⟨x, hx⟩ := List.length_eq_one_iff.1 h1;rw [hx]
  have : (ops.toList.drop m)[0]? = some om := by rw [List.getElem?_drop]; simpa using hom
  rw [hx] at this;simpa using this
 have hsplit : ops.toList = ops.toList.dropLast ++ [om] := by
  rw [← hdrop, List.dropLast_eq_take, Array.length_toList, hmm, List.take_append_drop]
 have hk : Xw ops = true := by simp only [Jw, Bool.and_eq_true] at hok; exact hok.1
 have hat0 := Qcc hok (fun _ => True)
 refine wpIn_region_any hm ?_
 have hx := Qqa (Qcd C H0) hk [om] ops.toList.dropLast 0 ts H (by rw [List.drop_zero]; exact hsplit) h
 have hlen : ops.toList.dropLast.length = m := by rw [List.length_dropLast, Array.length_toList]; omega
 rw [hlen, hdrop] at hx
 have hvr : ∀ {v c}, VR im pl w v c → VR im pl { w with drawn := w.drawn + 1 } v c := fun h => VR.world (w := w) (w' := { w with drawn := w.drawn + 1 }) (fun _ _ _ (h : w.cell? _ = some _) => h) h
 have hE : Ext im pl w im pl { w with drawn := w.drawn + 1 } := ⟨rfl, rfl, rfl, Nat.le_refl _, fun _ h => h, fun _ h => .inl h, fun _ _ => .inl rfl, fun r b cap h => .inl ⟨r, cap, h⟩, fun _ _ _ => rfl⟩
 have hr' : Rel im pl { w with drawn := w.drawn + 1 } ts H a := by
  refine ⟨⟨hr.tr.1, fun i => hvr (hr.tr.2 i)⟩, ?_, hr.df.mono hE⟩
  obtain ⟨g1, g2, g3, g4, g5, g6, g7, g8⟩ := hr.hr;refine ⟨g1, g2, g3, g4, g5, g6, g7, fun r b cap hp => ?_⟩
  obtain ⟨e, s, cs, cur, f1, f2, f3, f4, f5, f6⟩ := g8 r b cap hp;exact ⟨e, s, cs, cur, f1, f2, f3, f4, f5, fun j => hvr (f6 j)⟩
 refine Qfd (Qcd C H0) (ro := ro) (ops := ops) (K := fun ts H => Jc C.ty (cwF C) ops (Q .normal) [om] ts H) (R := Post im pl w a.defers Q) (Inv := fun ts' H' a' w' => ∃ im' pl', Rel im' pl' w' ts' H' a' ∧ Ext im pl w im' pl' w' ∧ a'.defers = a.defers) hk (fun _ => True) hat0 ?_ ?_ ?_ [m] ?_ ?_
  ops.size (List.range' 0 m) _ ts H _ a (fun _ _ => trivial) ⟨by simp, ?_, fun i => ?_, fun i o ho hl => ?_⟩ (by simp; omega) (.inl hs0) hx ⟨im, pl, hr', hE, rfl⟩
 ·rintro ts' H' a' w' ⟨im', pl', h1, _, _⟩; exact ⟨im', pl', h1.tr⟩
 ·rintro _ o _ ts' H' a' w' KK next ho ⟨im', pl', h1, h2, h3⟩ hnext;exact Jg (Qdl C H0 ro) ho h1.tr h1.hr fun v vc H2 im2 pl2 w2 k1 k2 k3 k4 => hnext v vc H2 w2 k1 ⟨im2, pl2, h1.put k4 k3 k2 _, h2.trans k4, by rw [Qv]; exact h3⟩
 ·rintro ts' H' a' w' d ⟨im', pl', h1, h2, h3⟩;exact ⟨im', pl', h1.put (.refl _ _ _) h1.hr (.tup [] [] rfl fun j => by simp [nth, List.getD]; exact .any _) _, h2, by rw [Qv]; exact h3⟩
 ·intro i hi j hj hjt;simp only [List.mem_singleton] at hi hjt;subst hi;exact hah j (by omega)
 ·rintro fuel listed a' w' ts' H' k1 ⟨im', pl', h1, h2, h3⟩ hL hlen;cases fuel with
  | zero => simp at hlen
  | succ fuel =>
  have hmem := (hL.mem m).1 (by simp)
  have hltl : m < listed.size := by rw [hL.size]; omega
  have hready : m ∈ Region.ready .any ops listed := by
   refine mem_ready.2 ⟨?_, om, hom, fun e he hb => ?_⟩
   ·have := hmem.2
    simp only [Array.getD_eq_getD_getElem?, hltl, Array.getElem?_eq_getElem, Option.getD_some] at this ⊢;exact this
   ·have hbt : Xi om e.on = true := by
     simp only [Xi, List.any_eq_true, Bool.and_eq_true];exact ⟨e, by simpa using he, hb, by simp⟩
    have hlt := (hat0 m om hom trivial).1 e.on hbt
    cases hl : listed.getD e.on false with
    | true => rfl
    | false =>
     have := (hL.mem e.on).2 ⟨by omega, hl⟩
     simp at this; omega
  refine ⟨fun hr => (by rw [hr] at hready; cases hready), fun i hi => ?_⟩
  obtain ⟨q1, o, ho, q3⟩ := Qas hi
  have hi2 : i < ops.size := (Array.getElem?_eq_some_iff.1 ho).1
  have hi3 : i < listed.size := by rw [hL.size]; exact hi2
  have him := (hL.mem i).2 ⟨hi2, by simpa only [Array.getD_eq_getD_getElem?, hi3, Array.getElem?_eq_getElem, Option.getD_some] using q1⟩
  rw [List.mem_singleton] at him;subst him;rw [hom] at ho; cases ho
  have hL' : Left ops (listed.setIfInBounds i true) ([] ++ []) := Left.take (l1 := []) (l2 := []) (by simpa using hL) hom q3
  unfold wpOpIn;simp only [hom];rw [if_pos (by simp [Region.wanted, hgd])]
  simp only [Jc, hgd, Kq] at k1;refine Jg (Yy C ro) k1 h1.tr h1.hr fun v vc H2 im2 pl2 w2 k1 k2 k3 k4 => Qjl hL' ?_
  exact ⟨_, H2, im2, pl2, k1, h1.put k4 k3 k2 _, h2.trans k4, by rw [Qv, h3]; exact .refl _ _⟩
 ·have : List.range' 0 m ++ [m] = List.range' 0 (m + 1) := by rw [List.range'_1_concat]; simp
  rw [this]; exact List.pairwise_lt_range' ..
 ·have : List.range' 0 m ++ [m] = List.range' 0 (m + 1) := by rw [List.range'_1_concat]; simp
  rw [this];simp only [List.mem_range'_1, Nat.zero_le, true_and, Nat.zero_add];simp only [Array.getD_eq_getD_getElem?, Array.getElem?_replicate];rw [← hsz];constructor
  ·intro h; refine ⟨h, ?_⟩; simp [h]
  ·exact fun h => h.1
 ·exfalso;simp only [Array.getD_eq_getD_getElem?, Array.getElem?_replicate] at hl
  split at hl <;> simp at hl
theorem Pc.call {C : Ctx} {H0 : Qa} {f : FuncId} {args : List V} {H : Qa} {Q K : V → Qa → Prop} (h : Fc C f args [] Q) (hq : ∃ v H', Q v H') (hc : Qm args = true) (hK : ∀ v H', Q v H' → K (ren (shift H.length) v) (H ++ Jt (shift H.length) H')) : Pc C H0 f args H K :=
 .inr ⟨args, Q, h, hq, .inl ⟨rfl, hc⟩, hK⟩
theorem Pc.borrow {C : Ctx} {H0 : Qa} {f : FuncId} {args args' : List V} {H : Qa} {Q K : V → Qa → Prop} (h : Fc C f args' [] Q) (hq : ∃ v H', Q v H') (hl : args.length = args'.length) (hb : ∀ j, Bor H (nth args j) (nth args' j)) (hp : ∀ v H', Q v H' → plain v = true ∧ Kj H')
  (hK : ∀ v H', Q v H' → K (ren (shift H.length) v) (H ++ Jt (shift H.length) H')) : Pc C H0 f args H K :=
 .inr ⟨args', Q, h, hq, .inr ⟨hl, hb, hp⟩, hK⟩
theorem Pc.gen {C : Ctx} {H0 : Qa} {f : FuncId} {args : List V} {H : Qa} {Q K : V → Qa → Prop} (h : Fc C f args H Q) (hq : ∃ v H', Q v H') (hK : ∀ v H', Q v H' → Kp H0 H H' ∧ K v H') : Pc C H0 f args H K := .inl ⟨Q, h, hq, hK⟩
section
variable {C : Ctx} {cw : CW} {ts ts' : List V} {H H' H0 H0' : Qa} {K : V → Qa → Prop} {KL : List V → Qa → Prop}
@[congr] theorem Qw9 {uu : Prop} (h00 : (True ∧ True) = uu) (ops : Array Oper) (l : List Oper) (h0 : H0 = H0') (h1 : ts = ts') (h2 : H = H') : Ju C cw ops H0 KL l ts H = Ju C cw ops H0' KL l ts' H' := by rw [h0, h1, h2]
@[congr] theorem Qxa {uu : Prop} (h00 : (True ∧ True) = uu) (op : Op) (h0 : H0 = H0') (h1 : ts = ts') (h2 : H = H') : opd C cw op ts H0 H K = opd C cw op ts' H0' H' K := by rw [h0, h1, h2]
@[congr] theorem Qy5 {uu : Prop} (h00 : (True ∧ True) = uu) {f f' : V} {args args' : List V} (h0 : f = f') (h1 : args = args') (h2 : H = H') : cwP C H0 f args H K = cwP C H0 f' args' H' K := by rw [h0, h1, h2]
@[congr] theorem Qzv {uu : Prop} (h00 : (True ∧ True) = uu) (f : FuncId) {args args' : List V} (h1 : args = args') (h2 : H = H') : Pc C H0 f args H K = Pc C H0 f args' H' K := by rw [h1, h2]
@[congr] theorem Que {uu : Prop} (h00 : (True ∧ True) = uu) {v v' : V} (h : v = v') : Kl v = Kl v' := by rw [h]
theorem Qf6 (ops : Array Oper) (d : Option Tmp) (op : Op) (t : TypeId) (p : String) (e : Array Edge) (l : List Oper) : Ju C cw ops H0 KL (⟨d, op, t, p, e, none⟩ :: l) ts H = opd C cw op ts H0 H fun v H' => Ju C cw ops H0 KL l (Xd ts d v) H' := rfl
theorem Qkb (ops : Array Oper) (d : Option Tmp) (op : Op) (t : TypeId) (p : String) (e : Array Edge) (j : Nat) (b : Bool) (l : List Oper) : Ju C cw ops H0 KL (⟨d, op, t, p, e, some (j, b)⟩ :: l) ts H =
  Kq ops (some (j, b)) ts (fun ts => opd C cw op ts H0 H fun v H' => Ju C cw ops H0 KL l (Xd ts d v) H') (fun ts => Ju C cw ops H0 KL l (Xd ts d (.tup [])) H) := rfl
theorem Qx8 (g : FuncId) (xs ys args : List V) : cwP C H0 (.fn (.func g) xs ys) args H K = Pc C H0 g (xs ++ args ++ ys) H K := rfl
theorem Qkk (k : IntKind) (n : Int) : Kl (.int k n) = true := rfl
theorem Qio (b : Bool) : Kl (.bool b) = true := rfl
theorem Qkj (b : ByteArray) : Kl (.str b) = true := rfl
theorem Qqd (x : Operand) : opd C cw (.move x) ts H0 H K = K (ev ts x) H := by simp [opd, Qx, Yb, opc, opw]
theorem Qkc (x : Operand) : opd C cw (.assign x) ts H0 H K = K (ev ts x) H := by simp [opd, Qx, Yb, opc, opw]
theorem Qqc (c a b : Operand) : opd C cw (.pick c a b) ts H0 H K = Qb5 (ev ts c) (ev ts a) (ev ts b) fun v => K v H := by simp [opd, Qx, Yb, opc, opw]
theorem Qnp (o : BinOp) (t : TypeId) (x y : Operand) (t' : TypeId) : opd C cw (.binOp o t x y t') ts H0 H K = (Kl (ev ts y) = true ∧ (C.ty t).ok = true ∧ Kz (C.ty t) o (ev ts x) (ev ts y) H0 fun v => K v H) := by simp [opd, Qx, Yb, opc, opw]
theorem Qqb (o : UnOp) (t : TypeId) (x : Operand) : opd C cw (.unOp o t x) ts H0 H K = unw o (ev ts x) fun v => K v H := by simp [opd, Qx, Yb, opc, opw]
theorem Qig (s d : TypeId) (x : Operand) : opd C cw (.convert s d x) ts H0 H K = ((C.ty s).ok = true ∧ (C.ty d).ok = true ∧ Qa0 (C.ty d) (ev ts x) fun v => K v H) := by simp [opd, Qx, Yb, opc, opw]
theorem Qg5 (fn : Go.Fn) (a b : List Operand) : opd C cw (.makeFunc fn a.toArray b.toArray) ts H0 H K = K (.fn fn (a.map (ev ts)) (b.map (ev ts))) H := by simp [opd, Qx, Yb, opc, opw]
theorem Qif (x : Operand) (i : Nat) : opd C cw (.extract x i) ts H0 H K = Qhl (ev ts x) i fun v => K v H := by simp [opd, Qx, Yb, opc, opw]
theorem Qg4 (x : Operand) : opd C cw (.nilCheck x) ts H0 H K = Qev (ev ts x) fun v => K v H := by simp [opd, Qx, Yb, opc, opw]
theorem Qqe (t : TypeId) (x : Operand) : opd C cw (.load t x) ts H0 H K = ((C.ty t).ok = true ∧ Jo (C.ty t) (ev ts x) H0 fun v => K v H) := by simp [opd, Qx, Yb, opc, opw]
theorem Qno (t : TypeId) (ps : List (Nat × Operand)) : opd C cw (.build t ps.toArray) ts H0 H K = ((C.ty t).ok = true ∧ Ku C.ty t (ps.map fun p => (p.1, ev ts p.2)) fun v => K v H) := by simp [opd, Qx, Yb, opc, opw]
theorem Qnk (t : TypeId) (x : Operand) (lo hi : Option Operand) : opd C cw (.slice t x lo hi none) ts H0 H K = ((C.ty t).ok = true ∧ Qp C.ty (C.ty t) (ev ts x) (lo.map (ev ts)) (hi.map (ev ts)) H0 fun v => K v H) := by simp [opd, Qx, Yb, opc, opw]
theorem Qfo (t : TypeId) (x : Operand) (f : Nat) : opd C cw (.fieldAddr t x f) ts H0 H K = ((C.ty t).ok = true ∧ faw C.ty ((C.ty t).fs[f]?) (ev ts x) fun v => K v H) := by
 simp only [opd, Qx, Yb, Bool.false_eq_true, if_false, true_and, Qap]
theorem Qnm (t : TypeId) (x : Operand) (f : Nat) : opd C cw (.field t x f) ts H0 H K = ((C.ty t).ok = true ∧ Ks C.ty (C.ty t) (ev ts x) f fun v => K v H) := by simp [opd, Qx, Yb, opc, opw]
theorem Qfn (t : TypeId) (x i : Operand) : opd C cw (.indexAddr t x i) ts H0 H K = ((C.ty t).ok = true ∧ Qhh C.ty (C.ty t) (ev ts x) (ev ts i) H0 fun v => K v H) := by
 simp only [opd, Qx, Yb, Bool.false_eq_true, if_false, true_and, Qb6]
theorem Qnl (t : TypeId) (x i : Operand) : opd C cw (.index t x i) ts H0 H K = ((C.ty t).ok = true ∧ Yp C.ty (C.ty t) (ev ts x) (ev ts i) fun v => K v H) := by simp [opd, Qx, Yb, opc, opw]
theorem Qt7 (xs : List Operand) (ats : List TypeId) : opd C cw (.call ⟨.builtin .len, xs.toArray, ats.toArray⟩) ts H0 H K = Qe C.ty .len ats (xs.map (ev ts)) H0 fun v _ => K v H := by simp [opd, Qx, Yb, opc]
theorem Qt5 (xs : List Operand) (ats : List TypeId) : opd C cw (.call ⟨.builtin .min, xs.toArray, ats.toArray⟩) ts H0 H K = Qe C.ty .min ats (xs.map (ev ts)) H0 fun v _ => K v H := by simp [opd, Qx, Yb, opc]
theorem Qt6 (xs : List Operand) (ats : List TypeId) : opd C cw (.call ⟨.builtin .max, xs.toArray, ats.toArray⟩) ts H0 H K = Qe C.ty .max ats (xs.map (ev ts)) H0 fun v _ => K v H := by simp [opd, Qx, Yb, opc]
theorem Qkd (xs : List Operand) (ats : List TypeId) : opd C cw (.call ⟨.builtin .append, xs.toArray, ats.toArray⟩) ts H0 H K = Qe C.ty .append ats (xs.map (ev ts)) H K := by simp [opd, Qx, opc]
theorem Qqf (f : Operand) (xs : List Operand) (ats : Array TypeId) : opd C cw (.call ⟨.value f, xs.toArray, ats⟩) ts H0 H K = cw (ev ts f) (xs.map (ev ts)) H K := by simp [opd, Qx, opc]
theorem Qnj (t : TypeId) (x v : Operand) : opd C cw (.store t x v) ts H0 H K = ((C.ty t).ok = true ∧ Ke (C.ty t) (ev ts x) (ev ts v) H fun H' => K .any H') := by simp [opd, Qx, opc, opw]
theorem Qt8 (t : TypeId) (x : Operand) : opd C cw (.box t x) ts H0 H K = Qol t (ev ts x) H K := by simp [opd, Qx, opc, opw]
theorem Qnq (t : TypeId) : opd C cw (.alloc t) ts H0 H K = ((C.ty t).ok = true ∧ K (.ptr H.length 0) (H ++ [some ⟨t, (Xa (C.ty t)).length, Xa (C.ty t)⟩])) := by simp [opd, Qx, opc, opw]
theorem Qer (t : TypeId) (n : Nat) (ps : List (Nat × Operand)) : opd C cw (.buildSlice t n ps.toArray) ts H0 H K = ((C.ty t).ok = true ∧ Qh7 C.ty t (Qa9 ps) n (ps.map fun p => (p.1, ev ts p.2)) H K) := by
 cases hb : Qa9 ps <;> simp [opd, Qx, Yb, opc, opw, Qh7, hb]
theorem Qfm (t : TypeId) (l c : Operand) : opd C cw (.makeSlice t l c) ts H0 H K = ((C.ty t).ok = true ∧ Qah C.ty t (ev ts l) (ev ts c) H K) := by simp [opd, Qx, opc, opw]
end
end Go.Bv
end
section
namespace Go.Bv
open Go.RowKit
theorem Yq {H : Qa} {r : Nat} {row : Row} (h : Qd H r = some row) : r < H.length := (List.getElem?_eq_some_iff.1 (Qr h)).1
theorem Qy {H : Qa} {r : Nat} {row : Row} (h : Qd H r = some row) (X : Qa) : Qd (H ++ X) r = some row := Same.app H X r row h
theorem Zq (H : Qa) (row : Row) : Qd (H ++ [some row]) H.length = some row := by simp [Qd]
theorem Qeg (H : Qa) (r : Nat) (z : Option Row) (row : Row) : Qd (H.set r z ++ [some row]) H.length = some row := by
 have := Zq (H.set r z) row
 rwa [List.length_set] at this
theorem Qo {H : Qa} {r q : Nat} (z : Option Row) (h : r ≠ q) : Qd (H.set r z) q = Qd H q := by simp [Qd, List.getElem?_set_ne h]
theorem Xc {H : Qa} {r : Nat} {row row' : Row} (h : Qd H r = some row) : Qd (H.set r (some row')) r = some row' := by simp [Qd, List.getElem?_set_self (Yq h)]
theorem Qc9 {H X : Qa} {r : Nat} {row : Row} (g : Nat → Option Nat) (h : Qd X r = some row) : Qd (H ++ Jt g X) (r + H.length) = some (Yo g row) := by
 have h1 := Qr h
 simp [Qd, Jt, List.getElem?_append_right, h1]
def Own (e s : Nat) (H : Qa) (v : V) (n : Nat) (cs : List V) : Prop := (v = .nil ∧ n = 0 ∧ cs = []) ∨ ∃ r, v = .ref r 0 n ∧ Qd H r = some ⟨e, s, cs⟩ ∧ cs.length = n * s
theorem Own.nil (e s : Nat) (H : Qa) : Own e s H .nil 0 [] := .inl ⟨rfl, rfl, rfl⟩
theorem Own.length {e s : Nat} {H : Qa} {v : V} {n : Nat} {cs : List V} (h : Own e s H v n cs) : cs.length = n * s := by
 rcases h with ⟨_, rfl, rfl⟩ | ⟨r, _, _, h⟩
 ·simp
 ·exact h
theorem Own.keep {e s : Nat} {H : Qa} {v : V} {n : Nat} {cs : List V} (h : Own e s H v n cs) (X : Qa) : Own e s (H ++ X) v n cs := by
 rcases h with h | ⟨r, h1, h2, h3⟩
 ·exact .inl h
 ·exact .inr ⟨r, h1, Qy h2 X, h3⟩
theorem Own.same {e s : Nat} {H H' : Qa} {v : V} {n : Nat} {cs : List V} (h : Own e s H v n cs) (hs : Same H H') : Own e s H' v n cs := by
 rcases h with h | ⟨r, h1, h2, h3⟩
 ·exact .inl h
 ·exact .inr ⟨r, h1, hs _ _ h2, h3⟩
def Fr (v : V) (H H' : Qa) : Prop := ∀ q row, (∀ off n, v ≠ .ref q off n) → Qd H q = some row → Qd H' q = some row
theorem Own.fr {e s : Nat} {H H' : Qa} {u v : V} {n : Nat} {cs : List V} (h : Own e s H v n cs) (hf : Fr u H H') (hne : ∀ q off n m, u = .ref q off n → v ≠ .ref q 0 m) : Own e s H' v n cs := by
 rcases h with h | ⟨r, h1, h2, h3⟩
 ·exact .inl h
 ·exact .inr ⟨r, h1, hf r _ (fun off m hu => hne r off m n hu h1) h2, h3⟩
theorem Qfc {y : Ty} {e : TypeId} {v x : V} {H : Qa} {n m : Nat} {cs news : List V} {K : V → Qa → Prop} (h : Own e y.size H v n cs) (hx : Zj y x H = some (m, news)) (hn : news.length = m * y.size) (hs : news.all Xx = true) (hy : 0 < y.size) (hb : 0 < y.bytes) (hl : (n + m) * y.bytes ≤ 140737488355328)
  (hc : cs.all Xx = true) (hK : ∀ v' H', Own e y.size H' v' (n + m) (cs ++ news) → Fr v H H' → H'.length = H.length + 1 → (∃ r, v' = .ref H.length 0 r) → K v' H') : Jr y e v x H K := by
 unfold Jr;rw [hx];refine ⟨hn, hs, hy, hb, ?_⟩;rcases h with ⟨rfl, rfl, rfl⟩ | ⟨r, rfl, h2, h3⟩
 ·rw [Nat.zero_add] at hl;refine ⟨hl, hK _ _ (.inr ⟨H.length, by rw [Nat.zero_add], Zq _ _, by simpa using hn⟩) (fun q row _ hq => Qy hq _) (by simp) ⟨m, rfl⟩⟩
 ·simp only [h2, true_and];refine ⟨h3, hc, hl, hK _ _ (.inr ⟨H.length, rfl, ?_, by simp [h3, hn, Nat.add_mul]⟩) (fun q row hq hrow => ?_) (by simp) ⟨n + m, rfl⟩⟩
  ·exact Qeg H r none _
  ·refine Qy ?_ _;rw [Qo]
   ·exact hrow
   ·rintro rfl; exact hq 0 n rfl
theorem Qmo {y : Ty} {e e' s' m : Nat} {v : V} {H : Qa} {n : Nat} {cs lit : List V} {K : V → Qa → Prop} (h : Own e y.size H v n cs) (hn : lit.length = m * y.size) (hs : lit.all Xx = true) (hy : 0 < y.size) (hb : 0 < y.bytes) (hl : (n + m) * y.bytes ≤ 140737488355328)
  (hc : cs.all Xx = true) (hK : ∀ v' H', Own e y.size H' v' (n + m) (cs ++ lit) → Fr v H H' → K v' H') : Jr y e v (.ref H.length 0 m) (H ++ [some ⟨e', s', lit⟩]) K := by
 refine Qfc (h.keep _) (news := lit) ?_ hn hs hy hb hl hc fun v' H' h1 h2 _ _ => hK v' H' h1 fun q row hq hr => h2 q row hq (Qy hr _)
 simp only [Zj, Zq, List.drop_zero];rw [← hn, List.take_length]
theorem Qal {y : Ty} {e e' s' : Nat} {v : V} {H : Qa} {xs : List Int} {x : Int} {K : V → Qa → Prop} (h : Own e 1 H v xs.length (ints xs)) (hy : y.size = 1) (hb : 0 < y.bytes ∧ y.bytes ≤ 8) (hl : xs.length + 1 ≤ 17592186044416)
  (hK : ∀ v' H', Own e 1 H' v' (xs ++ [x]).length (ints (xs ++ [x])) → Fr v H H' → K v' H') : Jr y e v (.ref H.length 0 1) (H ++ [some ⟨e', s', [.int .i64 x]⟩]) K := by
 rw [← hy] at h;refine Qmo h (by simp [hy]) (by simp [Xx]) (by omega) hb.1 ?_ (Qav _) fun v' H' h1 h2 => hK v' H' ?_ h2
 ·have := Nat.mul_le_mul hl hb.2; omega
 ·rw [hy] at h1;rw [Qi0, List.length_append];exact h1
def Ret (e s : Nat) (H : Qa) (v : V) (n : Nat) (cs : List V) : Prop := (v = .nil ∧ n = 0 ∧ cs = [] ∧ H = []) ∨ (v = .ref 0 0 n ∧ H = [some ⟨e, s, cs⟩] ∧ cs.length = n * s)
theorem Own.ret {e s : Nat} {H : Qa} {v : V} {n : Nat} {cs : List V} (h : Own e s H v n cs) (hc : ∀ g, Qf g cs = cs) {Q : V → Qa → Prop} (hQ : ∀ v H, Ret e s H v n cs → Q v H) : ∃ sel, Jx sel Q v H := by
 rcases h with ⟨rfl, rfl, rfl⟩ | ⟨r, rfl, h2, h3⟩
 ·exact ⟨[], by simp, by simp, hQ _ _ (.inl ⟨rfl, rfl, rfl, rfl⟩)⟩
 ·refine ⟨[r], by simp, by simpa using Yq h2, hQ _ _ (.inr ⟨by simp [ren, pos], ?_, h3⟩)⟩
  simp [Qan, h2, Yo, hc]
theorem Own.ret2 {e s : Nat} {H : Qa} {v : V} {n : Nat} {cs : List V} (h : Own e s H v n cs) (hc : ∀ g, Qf g cs = cs) {u : V} (hu : ∀ g, ren g u = u) {Q : V → Qa → Prop} (hQ : ∀ v H, Ret e s H v n cs → Q (.tup [v, u]) H) : ∃ sel, Jx sel Q (.tup [v, u]) H := by
 rcases h with ⟨rfl, rfl, rfl⟩ | ⟨r, rfl, h2, h3⟩
 ·refine ⟨[], by simp, by simp, ?_⟩
  have := hQ _ _ (.inl ⟨rfl, rfl, rfl, rfl⟩)
  simpa [ren, Qf, hu, Qan] using this
 ·refine ⟨[r], by simp, by simpa using Yq h2, ?_⟩
  have := hQ _ _ (.inr ⟨rfl, rfl, h3⟩)
  simpa [ren, Qf, hu, Qan, pos, h2, Yo, hc] using this
theorem Ret.own {e s : Nat} {H H' : Qa} {v : V} {n : Nat} {cs : List V} (h : Ret e s H' v n cs) (hc : ∀ g, Qf g cs = cs) : Own e s (H ++ Jt (shift H.length) H') (ren (shift H.length) v) n cs := by
 rcases h with ⟨rfl, rfl, rfl, rfl⟩ | ⟨rfl, rfl, h3⟩
 ·exact .inl ⟨rfl, rfl, rfl⟩
 ·refine .inr ⟨H.length, by simp [ren, shift], ?_, h3⟩
  have : Qd [some (⟨e, s, cs⟩ : Row)] 0 = some ⟨e, s, cs⟩ := rfl
  have := Qc9 (H := H) (shift H.length) this
  simpa [Yo, hc] using this
theorem Ret.plain {e s : Nat} {H : Qa} {v : V} {n : Nat} {cs : List V} (h : Ret e s H v n cs) (hp : Qt cs = true) : plain v = true ∧ Kj H := by
 rcases h with ⟨rfl, rfl, rfl, rfl⟩ | ⟨rfl, rfl, h3⟩
 ·exact ⟨rfl, fun r row hr => by simp at hr⟩
 ·refine ⟨rfl, fun r row hr => ?_⟩
  cases r with
  | zero => simp at hr; subst hr; exact hp
  | succ r => simp at hr
theorem Own.bor {e s : Nat} {H : Qa} {v : V} {n : Nat} {cs : List V} (h : Own e s H v n cs) (hc : ∀ j, j < cs.length → clo (nth cs j) = true) : Bor H v (match v with | .nil => .nil | _ => .sl n cs) := by
 rcases h with ⟨rfl, rfl, rfl⟩ | ⟨r, rfl, h2, h3⟩
 ·exact .clo _ rfl
 ·exact .ref r 0 n _ cs h2 (by simp) fun j hj => by simpa using .clo _ (hc j hj)
def Qli (b : Bool) (v x : V) : V := match b with | true => v | false => x
@[congr] theorem Qyd {uu : Prop} (h00 : (True ∧ True) = uu) {b b' : Bool} (v x : V) (h : b = b') : Qli b v x = Qli b' v x := by rw [h]
theorem Qgk (v x : V) : Qli true v x = v := rfl
theorem Qcf (v x : V) : Qli false v x = x := rfl
def cif (p : Prop) [Decidable p] (v : V) : V := if p then v else .any
theorem Qsb (v : V) : cif True v = v := rfl
def Qko : List (Nat × V) → Nat → V
 | [], _ => .any
 | (i, v) :: l, j => Qli (i == j) v (Qko l j)
theorem Qdh (i : Nat) (v : V) (l : List (Nat × V)) (j : Nat) : Qko ((i, v) :: l) j = Qli (i == j) v (Qko l j) := rfl
def env (N : Nat) (l : List (Nat × V)) : List V := (List.range N).map (Qko l)
theorem Zr (N : Nat) (l : List (Nat × V)) : (env N l).length = N := by simp [env]
theorem Qbx (N : Nat) (l : List (Nat × V)) (j : Nat) : nth (env N l) j = cif (j < N) (Qko l j) := by
 rw [Xg];simp only [env, cif, List.getD, List.getElem?_map, List.getElem?_range];split
 ·rename_i h; simp [List.getElem?_range, h]
 ·rename_i h; simp [h]
theorem Qg9 {l m : List V} (hl : l.length = m.length) (h : ∀ j, nth l j = nth m j) : l = m := by
 refine List.ext_getElem hl fun i h1 h2 => ?_
 have := h i
 rw [Xg, Xg] at this;simpa [List.getD, h1, h2] using this
theorem Qtc (N : Nat) (l : List (Nat × V)) (i : Nat) (v : V) : upd (env N l) i v = env N ((i, v) :: l) := by
 refine Qg9 (by rw [Ye, Zr, Zr]) fun j => ?_
 rw [Ka, Qbx, Qbx, Zr, Qdh];by_cases h : j = i
 ·subst h;simp only [true_and, beq_self_eq_true, Qgk, cif];split <;> simp
 ·have : (i == j) = false := by simpa using fun e => h e.symm
  rw [if_neg (fun h' => h h'.1), this, Qcf]
theorem Qcy : ∀ (l : List (Nat × V)) (j : Nat), Qko l j = .any ∨ (j, Qko l j) ∈ l
 | [], j => .inl rfl
 | (i, v) :: l, j => by
  rw [Qdh];by_cases h : i = j
  ·subst h; right; simp [Qli]
  ·have : (i == j) = false := by simpa using h
   rw [this, Qcf];rcases Qcy l j with h1 | h1
   ·exact .inl h1
   ·exact .inr (by simp [h1])
theorem Qv1 {C : Ctx} {ro : Option Nat} {c : Code} {Q : Exit → List V → Qa → Prop} {ts : List V} {H : Qa} {N : Nat} (l : List (Nat × V)) (hL : ts.length = N) (hl : ∀ p ∈ l, nth ts p.1 = p.2) (h : T C ro c Q (env N l) H) : T C ro c Q ts H := by
 intro im pl w a hr;refine h im pl w a ⟨⟨by rw [Zr, ← hL]; exact hr.tr.1, fun j => ?_⟩, hr.hr, hr.df⟩
 rw [Qbx];unfold cif;split
 ·rcases Qcy l j with h1 | h1
  ·rw [h1]; exact .any _
  ·have := hl _ h1
   simp only at this;rw [← this]; exact hr.tr.2 j
 ·exact .any _
def Kv : Nat → List V → List (Nat × V)
 | _, [] => []
 | k, a :: l => (k, a) :: Kv (k + 1) l
theorem Qop (k : Nat) : Kv k [] = [] := rfl
theorem Qfb (k : Nat) (a : V) (l : List V) : Kv k (a :: l) = (k, a) :: Kv (k + 1) l := rfl
theorem Qb1 : ∀ (l : List V) (k : Nat) (p : Nat × V), p ∈ Kv k l → k ≤ p.1 ∧ p.1 < k + l.length ∧ nth l (p.1 - k) = p.2
 | [], k, p, h => by simp [Kv] at h
 | a :: l, k, p, h => by
  rw [Qfb] at h;rcases List.mem_cons.1 h with rfl | h
  ·simp [nth]
  ·obtain ⟨h1, h2, h3⟩ := Qb1 l (k + 1) p h;refine ⟨by omega, by simp only [List.length_cons]; omega, ?_⟩
   rw [show p.1 - k = (p.1 - (k + 1)) + 1 by omega]
   simpa [nth] using h3
theorem Fc.bodyE {C : Ctx} {f : FuncId} {fn : Func} {c : Code} {args : List V} {H : Qa} {K : V → Qa → Prop} (hf : C.P.funcs[f]? = some fn) (hb : fn.body = some c) (hn : (fn.name == "runtime.NumGoroutine") = false) (ha : args.length ≤ fn.ntmps)
  (h : T C none c (Qk8 C.ty fn.results.toList K) (env fn.ntmps (Kv 0 args)) H) : Fc C f args H K := by
 refine Fc.body hf hb hn (Qv1 (Kv 0 args) (by simp; omega) (fun p hp => ?_) h)
 obtain ⟨h1, h2, h3⟩ := Qb1 args 0 p hp;rw [Xh, if_pos (by omega)]
 exact h3
theorem Qt2 {ty : TypeId → Ty} {cw : CW} {KL : List V → Qa → Prop} {ts : List V} {H : Qa} {l : List Oper} {d : Option Tmp} {op : Op} {t : TypeId} {p : String} {e : Array Edge} {j : Nat} {b : Bool} {rest : List Oper} {s : Tmp} (h : Qay l j = some s) :
  Jc ty cw l.toArray KL (⟨d, op, t, p, e, some (j, b)⟩ :: rest) ts H = Ji (nth ts s) s b ts (fun ts => opc ty cw op ts H fun v H' => Jc ty cw l.toArray KL rest (Xd ts d v) H') (fun ts => Jc ty cw l.toArray KL rest (Xd ts d (.tup [])) H) := by
 rw [Qka, Qdj, h, Qbo]
theorem Qt3 {C : Ctx} {cw : CW} {KL : List V → Qa → Prop} {ts : List V} {H0 H : Qa} {l : List Oper} {d : Option Tmp} {op : Op} {t : TypeId} {p : String} {e : Array Edge} {j : Nat} {b : Bool} {rest : List Oper} {s : Tmp} (h : Qay l j = some s) :
  Ju C cw l.toArray H0 KL (⟨d, op, t, p, e, some (j, b)⟩ :: rest) ts H = Ji (nth ts s) s b ts (fun ts => opd C cw op ts H0 H fun v H' => Ju C cw l.toArray H0 KL rest (Xd ts d v) H') (fun ts => Ju C cw l.toArray H0 KL rest (Xd ts d (.tup [])) H) := by
 rw [Qkb, Qdj, h, Qbo]
theorem Fc.pure {C : Ctx} {f : FuncId} {args : List V} {H : Qa} {u : V} {K : V → Qa → Prop} (h : Fc C f args [] fun v H => v = u ∧ H = []) (hc : Qm args = true) (hu : ∀ g, ren g u = u) (hK : K u H) : Fc C f args H K := by
 refine h.call hc ?_;rintro v H' ⟨rfl, rfl⟩;simpa [hu, Jt] using hK
theorem Pc.pure {C : Ctx} {H0 : Qa} {f : FuncId} {args : List V} {H : Qa} {u : V} {K : V → Qa → Prop} (h : Fc C f args [] fun v H => v = u ∧ H = []) (hc : Qm args = true) (hu : ∀ g, ren g u = u) (hK : K u H) : Pc C H0 f args H K := by
 refine Pc.call h ⟨u, [], rfl, rfl⟩ hc ?_;rintro v H' ⟨rfl, rfl⟩;simpa [hu, Jt] using hK
theorem Fc.pureB {C : Ctx} {f : FuncId} {args args' : List V} {H : Qa} {u : V} {K : V → Qa → Prop} (h : Fc C f args' [] fun v H => v = u ∧ H = []) (hl : args.length = args'.length) (hb : ∀ j, Bor H (nth args j) (nth args' j)) (hu : ∀ g, ren g u = u) (hp : plain u = true) (hK : K u H) : Fc C f args H K := by
 refine h.borrow hl hb ?_ ?_
 ·rintro v H' ⟨rfl, rfl⟩; exact ⟨hp, fun r row hr => by simp at hr⟩
 ·rintro v H' ⟨rfl, rfl⟩;simpa [hu, Jt] using hK
theorem VR.places {im : Nat → Prop} {pl pl' : Nat → Place} {w : World} (hp : ∀ r, pl r ≠ .no → pl' r = pl r) {v : V} {c : Value} (h : VR im pl w v c) : VR im pl' w v c := by
 induction h with
 | any v => exact .any v
 | int k n => exact .int k n
 | bool b => exact .bool b
 | str s => exact .str s
 | nil => exact .nil
 | sl0 cs a c => exact .sl0 cs a c
 | sl n cs ad c vs hn hi hc hr ih => exact .sl n cs ad c vs hn hi hc ih
 | refAt r off n b cap c h hc h0 => exact .refAt r off n b cap c ((hp r (by rw [h]; simp)).trans h) hc h0
 | refVirt r h => exact .refVirt r ((hp r (by rw [h]; simp)).trans h)
 | refDead r off n a c h => exact .refDead r off n a c ((hp r (by rw [h]; simp)).trans h)
 | agg cs vs hl hr ih => exact .agg cs vs hl ih
 | tup cs vs hl hr ih => exact .tup cs vs hl ih
 | ptrAt r off b cap h => exact .ptrAt r off b cap ((hp r (by rw [h]; simp)).trans h)
 | ptrDead r off a h => exact .ptrDead r off a ((hp r (by rw [h]; simp)).trans h)
 | nilp => exact .nilp
 | rp cs off ad vs hi hc hr ih => exact .rp cs off ad vs hi hc ih
 | fn f xs ys us vs hl hr hl' hr' ih ih' => exact .fn f xs ys us vs hl ih hl' ih'
 | nilf => exact .nilf
theorem HR.adopt {im : Nat → Prop} {pl : Nat → Place} {w : World} {H : Qa} (h : HR im pl w H) (e : Nat) (cs : List V) (cur : Array Value) {b : Nat} (hb : w.heap[b]? = some (.cells cur e (0, 0))) (hi : ¬ im b) (hn : ∀ r cap, pl r ≠ .at b cap)
  (hl : cs.length = cur.size) (hv : ∀ j, VR im pl w (nth cs j) (cur.getD j undef)) : HR im (Jb pl H.length (.at b 1)) w (H ++ [some ⟨e, cs.length, cs⟩]) ∧ ∀ v c, VR im pl w v c → VR im (Jb pl H.length (.at b 1)) w v c := by
 have hno := h.no (Nat.le_refl _)
 have hp : ∀ r, pl r ≠ .no → Jb pl H.length (.at b 1) r = pl r := fun r hr => Qh _ _ _ _ (fun e => hr (e ▸ hno))
 have hlt : b < w.heap.size := (Array.getElem?_eq_some_iff.1 hb).1
 have old : ∀ r c b', Jb pl H.length (.at b 1) r = .at b' c → (r = H.length ∧ b' = b ∧ c = 1) ∨ (r ≠ H.length ∧ pl r = .at b' c) := fun r c b' hr => by
  by_cases e1 : r = H.length
  ·subst e1; rw [Qj] at hr; injection hr with h1 h2; exact .inl ⟨rfl, h1.symm, h2.symm⟩
  ·rw [Qh _ _ _ _ e1] at hr; exact .inr ⟨e1, hr⟩
 refine ⟨⟨fun r => ?_, fun b' hb' r c hr => ?_, fun r b' c hr => ?_, h.imb, fun r r' b' c c' h1 h2 => ?_, fun r hr => ?_, fun r hr => ?_, fun r b' c hr => ?_⟩, fun v c hvc => hvc.places hp⟩
 ·by_cases e1 : r = H.length
  ·subst e1; rw [Qj]; simp
  ·rw [Qh _ _ _ _ e1];rw [← h.len r]; simp; omega
 ·rcases old r c b' hr with ⟨_, rfl, _⟩ | ⟨_, h1⟩
  ·exact hi hb'
  ·exact h.apart b' hb' r c h1
 ·rcases old r c b' hr with ⟨_, rfl, _⟩ | ⟨_, h1⟩
  ·exact hlt
  ·exact h.bound r b' c h1
 ·rcases old r c b' h1 with ⟨q1, q2, _⟩ | ⟨q1, q2⟩ <;> rcases old r' c' b' h2 with ⟨p1, p2, _⟩ | ⟨p1, p2⟩
  ·rw [q1, p1]
  ·subst q2; exact (hn r' c' p2).elim
  ·subst p2; exact (hn r c q2).elim
  ·exact h.inj r r' b' c c' q2 p2
 ·by_cases e1 : r = H.length
  ·subst e1; rw [Qj] at hr; cases hr
  ·rw [Qh _ _ _ _ e1] at hr;rw [List.getElem?_append_left (h.lt (by rw [hr]; simp))]; exact h.dead r hr
 ·by_cases e1 : r = H.length
  ·subst e1; rw [Qj] at hr; cases hr
  ·rw [Qh _ _ _ _ e1] at hr;rw [List.getElem?_append_left (h.lt (by rw [hr]; simp))]; exact h.virt r hr
 ·rcases old r c b' hr with ⟨rfl, rfl, rfl⟩ | ⟨_, h1⟩
  ·exact ⟨e, cs.length, cs, cur, by simp, hb, by omega, by simp [maxLen], by omega, fun j => (hv j).places hp⟩
  ·obtain ⟨e', s', cs', cur', q1, q2, q3, q4, q5, q6⟩ := h.row r b' c h1;exact ⟨e', s', cs', cur', by rw [List.getElem?_append_left (h.lt (by rw [h1]; simp))]; exact q1, q2, q3, q4, q5, fun j => (q6 j).places hp⟩
def Qmc : Op → Option TypeId
 | .alloc t => some t
 | _ => none
def Zm (ops : Array Oper) (i j : Nat) : Bool := match ops[i]?, ops[j]? with
 | some x, some y => x.apart ops y
 | _, _ => true
def Kn (C : Ctx) (ops : Array Oper) (m : Nat) : Bool := match ops[m]? with
 | some o => (match Qmc o.op with | some t => (C.ty t).ok | none => false) && o.dst.isSome && o.guard.isNone && o.after.toList.all fun e => !Region.binds .any e
 | none => false
def Qc2 (C : Ctx) (ops : Array Oper) : Bool :=
 Xw ops &&
 ((List.range ops.size).all fun i => match ops[i]? with
  | none => true
  | some o => Kn C ops i ||
   ((o.after.toList.all fun e => !Region.binds .any e || decide (e.on < i)) &&
   ((List.range i).all fun j => Kn C ops j || Ys ops j i || Ja ops i j i) &&
   (!Xr o.op || (List.range ops.size).all fun j => match ops[j]? with
    | some p => !Xf p.op || Zg ops i j i
    | none => true) &&
   (!Qb8 o.op || (List.range ops.size).all fun j => match ops[j]? with
    | some p => Zy p.op || Qx p.op || Zg ops i j i
    | none => true))) &&
 ((List.range ops.size).all fun m => !Kn C ops m || (
  ((List.range m).all fun j => Zm ops j m) &&
  ((List.range ops.size).all fun i => decide (i ≤ m) || Kn C ops i || Ys ops m i || (Ja ops i m i && (List.range m).all fun j =>
   match Kn C ops j with
   | true => Ja ops i j i
   | false => Ja ops i j i || (List.range ops.size).all fun k => decide (k ≤ j) || decide (m < k) || !Kn C ops k || Ys ops j k))))
structure LateS (C : Ctx) (ops : Array Oper) (L : Nat → Prop) : Prop where
 known : Xw ops = true
 hat : ∀ i o, ops[i]? = some o → ¬ L i → Hat ops (fun j => ¬ L j) i o
 late : ∀ m, L m → ∃ om t d, ops[m]? = some om ∧ om.op = .alloc t ∧ om.dst = some d ∧ om.guard = none ∧ (∀ j, Xi om j = false) ∧ (C.ty t).ok = true
 slots : ∀ m j, L m → j < m → Zm ops j m = true
 pair : ∀ i m, i < ops.size → ¬ L i → L m → m < i → Ys ops m i = true ∨ (Ja ops i m i = true ∧ (∀ j, j < m → L j → Ja ops i j i = true) ∧ ∀ j, j < m → ¬ L j → Ja ops i j i = true ∨ ∀ k, L k → j < k → k ≤ m → Ys ops j k = true)
theorem Qlb {C : Ctx} {ops : Array Oper} (h : Qc2 C ops = true) : LateS C ops (fun i => Kn C ops i = true) := by
 simp only [Qc2, Bool.and_eq_true, List.all_eq_true, List.mem_range] at h;obtain ⟨⟨h1, h2⟩, h3⟩ := h
 have hlt : ∀ m, Kn C ops m = true → m < ops.size := fun m hm => by
  unfold Kn at hm;split at hm
  ·rename_i o ho; exact (Array.getElem?_eq_some_iff.1 ho).1
  ·cases hm
 refine ⟨h1, fun i o ho hn => ?_, fun m hm => ?_, fun m j hm hj => ?_, fun i m hi hn hm hmi => ?_⟩
 ·have hlt : i < ops.size := (Array.getElem?_eq_some_iff.1 ho).1
  have h := h2 i hlt
  simp only [ho, Bool.and_eq_true, List.all_eq_true, List.mem_range, Bool.or_eq_true, Bool.not_eq_true', decide_eq_true_eq] at h
  have h := h.resolve_left hn
  refine ⟨fun j hj => ?_, fun j hj hjm => ?_, fun hs j p hp hl => ?_, fun hs j p hp => ?_⟩
  ·simp only [Xi, List.any_eq_true, Bool.and_eq_true] at hj;obtain ⟨e, he, h4, h5⟩ := hj;rw [beq_iff_eq] at h5;subst h5;rcases h.1.1.1 e he with h6 | h6
   ·rw [h4] at h6; cases h6
   ·exact h6
  ·rcases h.1.1.2 j hj with (h5 | h5) | h5
   ·exact (hjm h5).elim
   ·exact .inl h5
   ·exact .inr h5
  ·have hlj : j < ops.size := (Array.getElem?_eq_some_iff.1 hp).1
   rcases h.1.2 with h6 | h6
   ·rw [hs] at h6; cases h6
   ·have := h6 j hlj
    simp only [hp, Bool.or_eq_true, Bool.not_eq_true', hl, Bool.true_eq_false, false_or] at this;exact this
  ·have hlj : j < ops.size := (Array.getElem?_eq_some_iff.1 hp).1
   rcases h.2 with h6 | h6
   ·rw [hs] at h6; cases h6
   ·have := h6 j hlj
    simp only [hp, Bool.or_eq_true] at this;exact this
 ·unfold Kn at hm;split at hm
  ·rename_i o ho;simp only [Bool.and_eq_true, List.all_eq_true, Bool.not_eq_true', Option.isNone_iff_eq_none] at hm;obtain ⟨⟨⟨q1, q2⟩, q3⟩, q4⟩ := hm;obtain ⟨d, hd⟩ := Option.isSome_iff_exists.1 q2;split at q1
   ·rename_i t ht;refine ⟨o, t, d, ho, ?_, hd, q3, fun j => ?_, q1⟩
    ·cases hop : o.op <;> rw [hop] at ht <;> simp [Qmc] at ht;rw [ht]
    ·simp only [Xi, List.any_eq_false, Bool.and_eq_true, not_and];intro e he hb;rw [q4 e he] at hb; cases hb
   ·cases q1
  ·cases hm
 ·have := h3 m (hlt m hm)
  simp only [hm, Bool.not_true, Bool.false_or, Bool.and_eq_true, List.all_eq_true, List.mem_range] at this;exact this.1 j hj
 ·have := h3 m (hlt m hm)
  simp only [hm, Bool.not_true, Bool.false_or, Bool.and_eq_true, List.all_eq_true, List.mem_range] at this
  have := this.2 i hi
  simp only [Bool.or_eq_true, Bool.and_eq_true, decide_eq_true_eq, List.all_eq_true, List.mem_range] at this;rcases this with ((h5 | h5) | h5) | ⟨h5, h6⟩
  ·omega
  ·exact (hn h5).elim
  ·exact .inl h5
  ·refine .inr ⟨h5, fun j hj hl => ?_, fun j hj hl => ?_⟩
   ·have := h6 j hj
    rw [hl] at this; exact this
   ·have := h6 j hj
    have hl' : Kn C ops j = false := by simpa using hl
    rw [hl'] at this;simp only [Bool.or_eq_true, List.all_eq_true, List.mem_range, decide_eq_true_eq, Bool.not_eq_true'] at this;refine this.imp id fun h k hk hjk hkm => ?_
    rcases h k (hlt k hk) with ((h7 | h7) | h7) | h7
    ·omega
    ·omega
    ·rw [hk] at h7; cases h7
    ·exact h7
structure Pn where
 m : Nat
 d : Nat
 t : TypeId
def Qbg (P : List Pn) (ts : List V) : List V := P.foldr (fun p ts => upd ts p.d .any) ts
theorem Jd (p : Pn) (P : List Pn) (ts : List V) : Qbg (p :: P) ts = upd (Qbg P ts) p.d .any := rfl
theorem Qaa (P : List Pn) (ts : List V) : (Qbg P ts).length = ts.length := by
 induction P with
 | nil => rfl
 | cons p P ih => rw [Jd, Ye, ih]
theorem Qlw {P : List Pn} {p : Pn} (hp : p ∈ P) (ts : List V) : nth (Qbg P ts) p.d = .any := by
 induction P with
 | nil => cases hp
 | cons q P ih =>
  rw [Jd, Ka];split
  ·rfl
  ·rename_i hn;rcases List.mem_cons.1 hp with rfl | hp
   ·rw [Xg, List.getD_eq_getElem?_getD, List.getElem?_eq_none]
    ·rfl
    ·simp only [true_and, Nat.not_lt] at hn; exact hn
   ·exact ih hp
theorem Qh2 {P : List Pn} {j : Nat} (hp : ∀ p ∈ P, p.d ≠ j) (ts : List V) : nth (Qbg P ts) j = nth ts j := by
 induction P with
 | nil => rfl
 | cons q P ih =>
  rw [Jd, Ka, if_neg (fun h => hp q (by simp) h.1.symm)]
  exact ih fun p h => hp p (by simp [h])
theorem Qo3 {P P' : List Pn} (h : ∀ p, p ∈ P ↔ p ∈ P') (ts : List V) : Qbg P ts = Qbg P' ts := by
 refine Qg9 (by rw [Qaa, Qaa]) fun j => ?_
 by_cases hj : ∃ p ∈ P, p.d = j
 ·obtain ⟨p, hp, rfl⟩ := hj;rw [Qlw hp, Qlw ((h p).1 hp)]
 ·have h1 : ∀ p ∈ P, p.d ≠ j := fun p hp e => hj ⟨p, hp, e⟩
  rw [Qh2 h1, Qh2 fun p hp => h1 p ((h p).2 hp)]
theorem Qc8 {P : List Pn} {dst : Option Tmp} (h : ∀ p ∈ P, dst ≠ some p.d) (v : V) (ts : List V) : Xd (Qbg P ts) dst v = Qbg P (Xd ts dst v) := by
 induction P with
 | nil => rfl
 | cons p P ih =>
  rw [Jd, Jd, ← ih fun q hq => h q (by simp [hq])]
  exact (Qf3 (d := some p.d) (e := dst) (fun t ht e => h p (by simp) (by rw [e, ht])) .any v)
theorem Qpe {C : Ctx} {cw : CW} {ops : Array Oper} {H0 : Qa} {o : Oper} {P : List Pn} (h : ∀ p ∈ P, p.d ∉ o.looksAt ops) (ts : List V) : tro C cw ops H0 o (Qbg P ts) = tro C cw ops H0 o ts := by
 induction P with
 | nil => rfl
 | cons p P ih =>
  rw [Jd]
  have : tro C cw ops H0 o (Xd (Qbg P ts) (some p.d) .any) = tro C cw ops H0 o (Qbg P ts) := Qgu fun t ht => by injection ht with ht; subst ht; exact h p (by simp)
  exact this.trans (ih fun q hq => h q (by simp [hq]))
def InvL (C : Ctx) (im : Nat → Prop) (pl : Nat → Place) (w0 : World) (ds : List Deferred) (P : List Pn) (ts : List V) (H : Qa) (a : Act) (w : World) : Prop := ∃ im' pl' , ∃ b : Nat → Nat, Rel im' pl' w (Qbg P ts) H a ∧ Ext im pl w0 im' pl' w ∧ a.defers = ds ∧
 (∀ p ∈ P, ∀ q ∈ P, b p.d = b q.d → p.d = q.d) ∧ ∀ p ∈ P, w0.heap.size ≤ b p.d ∧ w.heap[b p.d]? = some (.cells (C.ty p.t).z.cells p.t (0, 0)) ∧ ¬ im' (b p.d) ∧ (∀ r cap, pl' r ≠ .at (b p.d) cap) ∧ (a.tmps.getD p.d undef = .pointer (some ⟨b p.d, 0, none⟩) ∨ a.tmps.size ≤ p.d)
theorem Qdd (a : Act) {dd : Option Tmp} {d : Nat} (v : Value) (h : dd ≠ some d) : (a.put dd v).tmps.getD d undef = a.tmps.getD d undef ∧ (a.put dd v).tmps.size = a.tmps.size := by
 cases dd with
 | none => exact ⟨rfl, rfl⟩
 | some i =>
  have hne : i ≠ d := fun e => h (by rw [e])
  exact ⟨by simp [Act.put, Array.getD_eq_getD_getElem?, Array.getElem?_setIfInBounds, hne], by simp [Act.put]⟩
theorem Qti {C : Ctx} {cw : CW} {ops : Array Oper} {H0 : Qa} {o : Oper} {ts : List V} {H : Qa} {K : V → Qa → Prop} (hg : o.guard = none) (h : tro C cw ops H0 o ts H K) : opd C cw o.op ts H0 H K := by
 simp only [tro, Jv, hg] at h; exact h
section
variable {C : Ctx} {im : Nat → Prop} {pl : Nat → Place} {w0 : World} {ds : List Deferred}
theorem InvL.mem {P P' : List Pn} (h : ∀ p, p ∈ P ↔ p ∈ P') {ts : List V} {H : Qa} {a : Act} {w : World} (hI : InvL C im pl w0 ds P ts H a w) : InvL C im pl w0 ds P' ts H a w := by
 obtain ⟨im', pl', b, h1, h2, h3, h4, h5⟩ := hI;exact ⟨im', pl', b, by rw [← Qo3 h]; exact h1, h2, h3, fun p hp q hq => h4 p ((h p).2 hp) q ((h q).2 hq), fun p hp => h5 p ((h p).2 hp)⟩
theorem InvL.flush {p : Pn} {P : List Pn} (ht : (C.ty p.t).ok = true) (hd : ∀ q ∈ P, q.d ≠ p.d) {ts : List V} {H : Qa} {a : Act} {w : World} (h : InvL C im pl w0 ds (p :: P) ts H a w) :
  InvL C im pl w0 ds P (upd ts p.d (.ptr H.length 0)) (H ++ [some ⟨p.t, (Xa (C.ty p.t)).length, Xa (C.ty p.t)⟩]) a w := by
 obtain ⟨im', pl', b, h1, h2, h3, hinj, hall⟩ := h;obtain ⟨h4, h5, h6, h7, h8⟩ := hall p (by simp)
 have hz := Qh1 (im := im') (pl := pl') (w := w) (C.ok p.t ht)
 obtain ⟨g1, g2⟩ := h1.hr.adopt p.t (Xa (C.ty p.t)) (C.ty p.t).z.cells h5 h6 h7 hz.1 hz.2
 have hno := h1.hr.no (Nat.le_refl _)
 have hw : Qbg P (upd ts p.d (.ptr H.length 0)) = upd (Qbg P ts) p.d (.ptr H.length 0) := (Qc8 (dst := some p.d) (fun q hq e => hd q hq (by injection e with e; exact e.symm)) _ ts).symm
 refine ⟨im', Jb pl' H.length (.at (b p.d) 1), b, ⟨⟨?_, fun i => ?_⟩, g1, ?_⟩, ⟨h2.os, h2.tape, h2.output, h2.size, h2.imm, h2.imn, fun r hr => ?_, fun r b' c hr => ?_, h2.frame⟩, h3, fun x hx y hy => hinj x (by simp [hx]) y (by simp [hy]), fun q hq => ?_⟩
 ·have := h1.tr.1; rw [Qaa] at this ⊢; rw [Ye]; exact this
 ·have := h1.tr.2 i
  rw [hw];rw [Jd] at this;rw [Ka] at this ⊢;by_cases hi : i = p.d ∧ p.d < (Qbg P ts).length
  ·rw [if_pos hi];obtain ⟨rfl, hlt⟩ := hi;rcases h8 with h8 | h8
   ·rw [h8]; exact .ptrAt _ 0 (b p.d) 1 (Qj _ _ _)
   ·have := h1.tr.1; rw [Qaa] at this hlt; omega
  ·rw [if_neg hi] at this ⊢; exact g2 _ _ this
 ·obtain ⟨q1, q2⟩ := h1.df;refine ⟨q1, fun dd hd => ?_⟩
  obtain ⟨r, e1, e2, e3⟩ := q2 dd hd;refine ⟨r, e1, e2, fun q cap hq => ?_⟩
  by_cases e4 : q = H.length
  ·subst e4; rw [Qj] at hq; injection hq with e5 _; subst e5; rw [h5] at e2; cases e2
  ·rw [Qh _ _ _ _ e4] at hq; exact e3 q cap hq
 ·rcases h2.plo r hr with h | h
  ·exact .inl (by rw [Qh _ _ _ _ (fun e => hr (by rw [← h, e]; exact hno))]; exact h)
  ·exact .inr (by rw [Qh _ _ _ _ (fun e => by rw [e, hno] at h; cases h)]; exact h)
 ·by_cases e1 : r = H.length
  ·subst e1; rw [Qj] at hr; injection hr with e2 _; exact .inr (by omega)
  ·rw [Qh _ _ _ _ e1] at hr; exact h2.pln r b' c hr
 ·obtain ⟨k4, k5, k6, k7, k8⟩ := hall q (by simp [hq])
  refine ⟨k4, k5, k6, fun r cap hr => ?_, k8⟩
  by_cases e1 : r = H.length
  ·subst e1; rw [Qj] at hr; injection hr with e2 _
   exact hd q hq (hinj p (by simp) q (by simp [hq]) e2).symm
  ·rw [Qh _ _ _ _ e1] at hr; exact k7 r cap hr
theorem InvL.op {ro : Option Nat} {H0 : Qa} {o : Oper} {P : List Pn} {ts : List V} {H : Qa} {a : Act} {w : World} {KK : V → Qa → Prop} {next : Act → World → Prop} {R : Exit → Act → World → Prop} (hd : ∀ p ∈ P, o.dst ≠ some p.d) (h : opc C.ty (cwP C H0) o.op (Qbg P ts) H KK) (hR : InvL C im pl w0 ds P ts H a w)
  (hnext : ∀ v vc H' w', KK v H' → InvL C im pl w0 ds P (Xd ts o.dst v) H' (a.put o.dst vc) w' → next (a.put o.dst vc) w') : o.wpIn (FW ro) 0 C.P a w next R := by
 obtain ⟨im', pl', b, h1, h2, h3, hinj, hall⟩ := hR;refine Jg (Qdl C H0 ro) h h1.tr h1.hr fun v vc H2 im2 pl2 w2 k1 k2 k3 k4 => hnext v vc H2 w2 k1 ⟨im2, pl2, b, ?_, h2.trans k4, by rw [Qv]; exact h3, hinj, fun p hp => ?_⟩
 ·have := h1.put k4 k3 k2 o.dst
  rwa [Qc8 hd] at this
 ·obtain ⟨h4, h5, h6, h7, h8⟩ := hall p hp
  have hlt : b p.d < w.heap.size := (Array.getElem?_eq_some_iff.1 h5).1
  refine ⟨h4, by rw [k4.frame _ hlt h7]; exact h5, fun hb => ?_, fun r cap hr => ?_, ?_⟩
  ·rcases k4.imn _ hb with q | q | ⟨r, cap, q⟩
   ·exact h6 q
   ·omega
   ·exact h7 r cap q
  ·rcases k4.pln r _ cap hr with ⟨r', cap', q⟩ | q
   ·exact h7 r' cap' q
   ·omega
  ·obtain ⟨e1, e2⟩ := Qdd a vc (hd p hp);rw [e1, e2]; exact h8
theorem InvL.skip {P : List Pn} {ts : List V} {H : Qa} {a : Act} {w : World} {dd : Option Tmp} (hd : ∀ p ∈ P, dd ≠ some p.d) (hR : InvL C im pl w0 ds P ts H a w) : InvL C im pl w0 ds P (Xd ts dd (.tup [])) H (a.put dd (.tuple [].toArray)) w := by
 obtain ⟨im', pl', b, h1, h2, h3, hinj, hall⟩ := hR;refine ⟨im', pl', b, ?_, h2, by rw [Qv]; exact h3, hinj, fun p hp => ?_⟩
 ·have := h1.put (.refl _ _ _) h1.hr (v := .tup []) (vc := .tuple [].toArray) (.tup [] [] rfl fun j => by simp [nth, List.getD]; exact .any _) dd
  rwa [Qc8 hd] at this
 ·obtain ⟨h4, h5, h6, h7, h8⟩ := hall p hp;obtain ⟨e1, e2⟩ := Qdd a (.tuple [].toArray) (hd p hp);exact ⟨h4, h5, h6, h7, by rw [e1, e2]; exact h8⟩
theorem InvL.made {ro : Option Nat} {p : Pn} (ht : (C.ty p.t).ok = true) {o : Oper} (ho : o.op = .alloc p.t) (hd : o.dst = some p.d) {P : List Pn} (hne : ∀ q ∈ P, q.d ≠ p.d) {ts : List V} {H : Qa} {a : Act} {w : World} {next : Act → World → Prop} {R : Exit → Act → World → Prop} (hR : InvL C im pl w0 ds P ts H a w)
  (hnext : ∀ vc w', InvL C im pl w0 ds (p :: P) ts H (a.put o.dst vc) w' → next (a.put o.dst vc) w') : o.wpIn (FW ro) 0 C.P a w next R := by
 obtain ⟨im', pl', b, h1, h2, h3, hinj, hall⟩ := hR;refine ⟨fun _ _ => trivial, ?_⟩
 rw [Oper.semAt_eq ro a.eval o (fun c => by rw [ho]; simp)]
 have hrun : (execOp a.eval o).run C.P w = .ok (.value (.pointer (some ⟨w.heap.size, 0, none⟩))) (w.alloc (.cells (C.ty p.t).z.cells p.t)) := by
  simp only [execOp, ho, Instr.alloc, Sem.run_bind, (C.ok p.t ht).zero, Qa5, Sem.run_pure, Result.andThen_ok]
 rw [hrun]
 have hE : Ext im' pl' w im' pl' (w.alloc (.cells (C.ty p.t).z.cells p.t)) := ⟨rfl, rfl, rfl, by simp, fun _ hb => hb, fun _ hb => .inl hb, fun r hr => .inl rfl, fun r b c hb => .inl ⟨r, c, hb⟩, fun b hb _ => heap_alloc_old _ _ _ hb⟩
 have hH : HR im' pl' (w.alloc (.cells (C.ty p.t).z.cells p.t)) H := by
  obtain ⟨g1, g2, g3, g4, g5, g6, g7, g8⟩ := h1.hr;refine ⟨g1, g2, fun r b c hr => Nat.lt_of_lt_of_le (g3 r b c hr) hE.size, fun b hb => Nat.lt_of_lt_of_le (g4 b hb) hE.size, g5, g6, g7, fun r b c hr => ?_⟩
  obtain ⟨e, s, cs, cur, q1, q2, q3, q4, q5, q6⟩ := g8 r b c hr;exact ⟨e, s, cs, cur, q1, by rw [heap_alloc_old _ _ _ (g3 r b c hr)]; exact q2, q3, q4, q5, fun j => (q6 j).mono hE g2⟩
 have old : ∀ q ∈ P, b q.d < w.heap.size := fun q hq => (Array.getElem?_eq_some_iff.1 (hall q hq).2.1).1
 refine hnext _ _ ⟨im', pl', fun x => if x = p.d then w.heap.size else b x, ?_, h2.trans hE, by rw [Qv]; exact h3, ?_, fun q hq => ?_⟩
 ·have := h1.put hE hH (v := .any) (vc := .pointer (some ⟨w.heap.size, 0, none⟩)) (.any _) o.dst
  rw [hd] at this ⊢; exact this
 ·intro x hx y hy e;by_cases e1 : x.d = p.d
  ·by_cases e2 : y.d = p.d
   ·rw [e1, e2]
   ·simp only [e1, e2, if_true, if_false] at e;rcases List.mem_cons.1 hy with rfl | hy
    ·exact (e2 rfl).elim
    ·have := old y hy; omega
  ·by_cases e2 : y.d = p.d
   ·simp only [e1, e2, if_true, if_false] at e;rcases List.mem_cons.1 hx with rfl | hx
    ·exact (e1 rfl).elim
    ·have := old x hx; omega
   ·simp only [e1, e2, if_false] at e;rcases List.mem_cons.1 hx with rfl | hx
    ·exact (e1 rfl).elim
    rcases List.mem_cons.1 hy with rfl | hy
    ·exact (e2 rfl).elim
    exact hinj x hx y hy e
 ·by_cases e1 : q.d = p.d
  ·have hqp : q = p := by
    rcases List.mem_cons.1 hq with h | h
    ·exact h
    ·exact (hne q h e1).elim
   subst hqp;simp only [if_true];refine ⟨h2.size, heap_alloc_new _ _, fun hb => Nat.lt_irrefl _ (h1.hr.imb _ hb), fun r cap hr => Nat.lt_irrefl _ (h1.hr.bound r _ cap hr), ?_⟩
   rw [hd];by_cases hlt : q.d < a.tmps.size
   ·left; simp [Act.put, Array.getD_eq_getD_getElem?, Array.getElem?_setIfInBounds, hlt]
   ·right; simp [Act.put]; omega
  ·simp only [e1, if_false]
   have hqP : q ∈ P := by
    rcases List.mem_cons.1 hq with h | h
    ·exact (e1 (by rw [h])).elim
    ·exact h
   obtain ⟨h4, h5, h6, h7, h8⟩ := hall q hqP;obtain ⟨e3, e4⟩ := Qdd a (.pointer (some ⟨w.heap.size, 0, none⟩)) (dd := o.dst) (d := q.d) (by rw [hd]; intro e; injection e with e; exact e1 e.symm)
   exact ⟨h4, by rw [heap_alloc_old _ _ _ (old q hqP)]; exact h5, h6, h7, by rw [e3, e4]; exact h8⟩
structure LeftP (C : Ctx) (ops : Array Oper) (L : Nat → Prop) (listed : Array Bool) (S : List Nat) (P : List Pn) : Prop where
 size : listed.size = ops.size
 sorted : S.Pairwise (· < ·)
 lt : ∀ i ∈ S, i < ops.size
 mem : ∀ i, (i ∈ S ∧ ∀ p ∈ P, p.m ≠ i) ↔ i < ops.size ∧ listed.getD i false = false
 sub : ∀ p ∈ P, p.m ∈ S ∧ L p.m ∧ ∃ om, ops[p.m]? = some om ∧ om.op = .alloc p.t ∧ om.dst = some p.d
 closed : Qfj ops listed
theorem Qiw (q : Nat → Prop) : ∀ n, (∀ m, m < n → ¬ q m) ∨ ∃ m, m < n ∧ q m ∧ ∀ k, m < k → k < n → ¬ q k
 | 0 => .inl fun m h => by omega
 | n + 1 => by
  by_cases h : q n
  ·exact .inr ⟨n, by omega, h, fun k h1 h2 => by omega⟩
  ·rcases Qiw q n with h1 | ⟨m, h1, h2, h3⟩
   ·refine .inl fun m hm => ?_
    by_cases e : m = n
    ·rw [e]; exact h
    ·exact h1 m (by omega)
   ·refine .inr ⟨m, by omega, h2, fun k h4 h5 => ?_⟩
    by_cases e : k = n
    ·rw [e]; exact h
    ·exact h3 k h4 (by omega)
theorem Qhj {ops : Array Oper} {L : Nat → Prop} (hL : LateS C ops L) {H0 : Qa} {K : List V → Qa → Prop} {a : Act} {w : World} (k : Nat) : ∀ (n : Nat) (S : List Nat) (P : List Pn) (ts : List V) (H : Qa), S.length ≤ n → S.Pairwise (· < ·) →
  (∀ p ∈ P, p.m ∈ S ∧ L p.m ∧ ∃ om, ops[p.m]? = some om ∧ om.op = .alloc p.t ∧ om.dst = some p.d) → (∀ m ∈ S, L m → m < k → ∃ p ∈ P, p.m = m) → (∀ j ∈ S, ¬ L j → ∀ m, L m → j < m → m < k → Ys ops j m = true) →
  Jn C (cwP C H0) ops H0 K S ts H → InvL C im pl w0 ds P ts H a w →
  ∃ S' P' ts' H', (∀ i, i ∈ S' ↔ i ∈ S ∧ ¬ (L i ∧ i < k)) ∧ S'.Sublist S ∧ (∀ p, p ∈ P' ↔ p ∈ P ∧ ¬ p.m < k) ∧ Same H H' ∧ Jn C (cwP C H0) ops H0 K S' ts' H' ∧ InvL C im pl w0 ds P' ts' H' a w
 | 0, S, P, ts, H, hn, hs, hP, hM, hp, hx, hI => by
  have : S = [] := List.length_eq_zero_iff.1 (by omega)
  subst this
  have : P = [] := by
   cases P with
   | nil => rfl
   | cons p P => have := (hP p (by simp)).1; simp at this
  subst this;exact ⟨[], [], ts, H, by simp, .refl _, by simp, .refl _, hx, hI⟩
 | n + 1, S, P, ts, H, hn, hs, hP, hM, hp, hx, hI => by
  by_cases hnone : ∀ m ∈ S, ¬ (L m ∧ m < k)
  ·exact ⟨S, P, ts, H, fun i => ⟨fun h => ⟨h, hnone i h⟩, fun h => h.1⟩, .refl _, fun p => ⟨fun h => ⟨h, fun e => hnone p.m (hP p h).1 ⟨(hP p h).2.1, e⟩⟩, fun h => h.1⟩, .refl _, hx, hI⟩
  -- the first one
  have hfirst : ∀ (S : List Nat), ¬ (∀ m ∈ S, ¬ (L m ∧ m < k)) → ∃ A m B, S = A ++ m :: B ∧ (L m ∧ m < k) ∧ ∀ x ∈ A, ¬ (L x ∧ x < k) := by
   intro S
   induction S with
   | nil => intro h; exact (h (by simp)).elim
   | cons x S ih =>
    intro h;by_cases hx : L x ∧ x < k
    ·exact ⟨[], x, S, rfl, hx, by simp⟩
    ·obtain ⟨A, m, B, e, h1, h2⟩ := ih fun h' => h fun m hm => by
      rcases List.mem_cons.1 hm with rfl | hm
      ·exact hx
      ·exact h' m hm
     exact ⟨x :: A, m, B, by rw [e]; rfl, h1, fun y hy => by
      rcases List.mem_cons.1 hy with rfl | hy
      ·exact hx
      ·exact h2 y hy⟩
  obtain ⟨A, m, B, rfl, ⟨hLm, hmk⟩, hA⟩ := hfirst S hnone
  have hs' := hs
  rw [List.pairwise_append] at hs'
  have hlt : ∀ x ∈ A, x < m := fun x hx => hs'.2.2 x hx m (by simp)
  have hgt : ∀ x ∈ B, m < x := fun x hx => (List.pairwise_cons.1 hs'.2.1).1 x hx
  have hAL : ∀ x ∈ A, ¬ L x := fun x hx hl => hA x hx ⟨hl, Nat.lt_trans (hlt x hx) hmk⟩
  obtain ⟨p, hpP, rfl⟩ := hM m (by simp) hLm hmk
  obtain ⟨-, -, om, hom, hop, hdst⟩ := hP p hpP;obtain ⟨om', t', d', hom', hop', hdst', hgd, -, hty⟩ := hL.late p.m hLm;rw [hom] at hom'; cases hom';rw [hop] at hop'; cases hop'
  have h1 := Qaf (Qcd C H0) hL.known B A (fun j hj => hp j (by simp [hj]) (hAL j hj) p.m hLm (hlt j hj) hmk) ts H hx
  simp only [Jn, hom] at h1
  have h2 := Qti hgd h1
  rw [hop] at h2;simp only [opd, Qx, if_true, opc, opw] at h2
  have h3 := h2.2
  rw [hdst] at h3
  -- the others' slots are others
  have hslot : ∀ q ∈ P, q.m ≠ p.m → q.d ≠ p.d := fun q hq hne e => by
   obtain ⟨hqS, hqL, oq, hoq, -, hqd⟩ := hP q hq
   have hap : oq.apart ops om = true ∨ om.apart ops oq = true := by
    rcases Nat.lt_or_gt_of_ne hne with h | h
    ·have := hL.slots p.m q.m hLm h
     simp only [Zm, hoq, hom] at this; exact .inl this
    ·have := hL.slots q.m p.m hqL h
     simp only [Zm, hoq, hom] at this; exact .inr this
   rcases hap with hap | hap
   ·exact (Oper.apart_spec hap).2.1 q.d hqd (by rw [hdst, e])
   ·exact (Oper.apart_spec hap).2.1 p.d hdst (by rw [hqd, e])
  have hPf : ∀ q, q ∈ P ↔ q ∈ p :: P.filter (fun q => decide (q.m ≠ p.m)) := fun q => by
   simp only [List.mem_cons, List.mem_filter, decide_eq_true_eq];constructor
   ·intro hq;by_cases e : q.m = p.m
    ·left;obtain ⟨-, -, oq, hoq, hqt, hqd⟩ := hP q hq
     rw [e, hom] at hoq; cases hoq;rw [hop] at hqt; rw [hdst] at hqd;cases q; cases p;simp only [Op.alloc.injEq, Option.some.injEq] at *;subst e; subst hqt; subst hqd; rfl
    ·exact .inr ⟨hq, e⟩
   ·rintro (rfl | h)
    ·exact hpP
    ·exact h.1
  have hI' := (hI.mem hPf).flush hty (fun q hq => by
   simp only [List.mem_filter, decide_eq_true_eq] at hq;exact hslot q hq.1 hq.2)
  obtain ⟨S', P', ts', H', q1, q2, q3, q4, q5, q6⟩ := Qhj hL k n (A ++ B) _ _ _ (by simp at hn ⊢; omega) (hs.sublist (by simp)) (fun q hq => by
   simp only [List.mem_filter, decide_eq_true_eq] at hq;obtain ⟨r1, r2⟩ := hP q hq.1;refine ⟨?_, r2⟩;simp only [List.mem_append, List.mem_cons] at r1 ⊢;rcases r1 with h | h | h
   ·exact .inl h
   ·exact (hq.2 h).elim
   ·exact .inr h) (fun x hx hl hk => by
   obtain ⟨q, hq, e⟩ := hM x (by simp only [List.mem_append, List.mem_cons] at hx ⊢; exact hx.imp id .inr) hl hk
   refine ⟨q, ?_, e⟩;simp only [List.mem_filter, decide_eq_true_eq];refine ⟨hq, fun e' => ?_⟩
   rw [e] at e';rcases List.mem_append.1 hx with h | h
   ·have := hlt x h; omega
   ·have := hgt x h; omega) (fun j hj => hp j (by simp only [List.mem_append, List.mem_cons] at hj ⊢; exact hj.imp id .inr)) h3 hI'
  refine ⟨S', P', ts', H', fun i => ?_, q2.trans (by simp), fun q => ?_, (Same.app _ _).trans q4, q5, q6⟩
  ·rw [q1];simp only [List.mem_append, List.mem_cons];constructor
   ·rintro ⟨h | h, h'⟩
    ·exact ⟨.inl h, h'⟩
    ·exact ⟨.inr (.inr h), h'⟩
   ·rintro ⟨h | rfl | h, h'⟩
    ·exact ⟨.inl h, h'⟩
    ·exact (h' ⟨hLm, hmk⟩).elim
    ·exact ⟨.inr h, h'⟩
  ·rw [q3];simp only [List.mem_filter, decide_eq_true_eq];constructor
   ·exact fun h => ⟨h.1.1, h.2⟩
   ·exact fun h => ⟨⟨h.1, fun e => h.2 (by rw [e]; exact hmk)⟩, h.2⟩
theorem LeftP.ready {ops : Array Oper} {L : Nat → Prop} (hL : LateS C ops L) {listed : Array Bool} {S : List Nat} {P : List Pn} (h : LeftP C ops L listed S P) (hr : Region.ready .any ops listed = []) : ∀ i ∈ S, ∃ p ∈ P, p.m = i := by
 -- the first one that is not made is ready
 have main : ∀ (n i : Nat), i ≤ n → i ∈ S → ∃ p ∈ P, p.m = i := by
  intro n
  induction n with
  | zero =>
   intro i hi hS;refine Classical.byContradiction fun hno => ?_
   have hun := (h.mem i).1 ⟨hS, fun p hp e => hno ⟨p, hp, e⟩⟩
   have : i ∈ Region.ready .any ops listed := by
    refine mem_ready.2 ⟨?_, ops[i], by simp [hun.1], fun e he hbb => ?_⟩
    ·have hlt : i < listed.size := by rw [h.size]; exact hun.1
     have := hun.2
     simp only [Array.getD_eq_getD_getElem?, hlt, Array.getElem?_eq_getElem, Option.getD_some] at this ⊢;exact this
    ·have hbt : Xi ops[i] e.on = true := by
      simp only [Xi, List.any_eq_true, Bool.and_eq_true];exact ⟨e, by simpa using he, hbb, by simp⟩
     exfalso;by_cases hl : L i
     ·obtain ⟨om, t, d, hom, -, -, -, hfree, -⟩ := hL.late i hl
      have : ops[i] = om := by simpa [hun.1] using hom
      rw [this, hfree] at hbt; cases hbt
     ·have := (hL.hat i ops[i] (by simp [hun.1]) hl).1 e.on hbt; omega
   rw [hr] at this; cases this
  | succ n ih =>
   intro i hi hS;refine Classical.byContradiction fun hno => ?_
   have hun := (h.mem i).1 ⟨hS, fun p hp e => hno ⟨p, hp, e⟩⟩
   have : i ∈ Region.ready .any ops listed := by
    refine mem_ready.2 ⟨?_, ops[i], by simp [hun.1], fun e he hbb => ?_⟩
    ·have hlt : i < listed.size := by rw [h.size]; exact hun.1
     have := hun.2
     simp only [Array.getD_eq_getD_getElem?, hlt, Array.getElem?_eq_getElem, Option.getD_some] at this ⊢;exact this
    ·have hbt : Xi ops[i] e.on = true := by
      simp only [Xi, List.any_eq_true, Bool.and_eq_true];exact ⟨e, by simpa using he, hbb, by simp⟩
     by_cases hl : L i
     ·obtain ⟨om, t, d, hom, -, -, -, hfree, -⟩ := hL.late i hl
      have : ops[i] = om := by simpa [hun.1] using hom
      rw [this, hfree] at hbt; cases hbt
     ·have hlt := (hL.hat i ops[i] (by simp [hun.1]) hl).1 e.on hbt
      cases hle : listed.getD e.on false with
      | true => rfl
      | false =>
       have h1 := (h.mem e.on).2 ⟨by omega, hle⟩
       obtain ⟨p, hp, e1⟩ := ih e.on (by omega) h1.1
       exact (h1.2 p hp e1).elim
   rw [hr] at this; cases this
 exact fun i hi => main i i (Nat.le_refl _) hi
theorem Qn6 {ro : Option Nat} {ops : Array Oper} {L : Nat → Prop} (hL : LateS C ops L) {H0 : Qa} {K : List V → Qa → Prop} {R : Exit → Act → World → Prop} (hK : ∀ a w ts H, K ts H → InvL C im pl w0 ds [] ts H a w → R .normal a w) :
  ∀ (fuel : Nat) (S : List Nat) (P : List Pn) (listed : Array Bool) (ts : List V) (H : Qa) (w : World) (a : Act), LeftP C ops L listed S P → (S.filter fun i => P.all fun p => decide (p.m ≠ i)).length ≤ fuel →
  (Same H0 H ∨ (Stand H0 H ∧ ∀ j ∈ S, ∀ p, ops[j]? = some p → Xf p.op = false) ∨ (∀ j ∈ S, ∀ p, ops[j]? = some p → Zy p.op = true ∨ Qx p.op = true)) → Jn C (cwP C H0) ops H0 K S ts H → InvL C im pl w0 ds P ts H a w →
  wpAnyIn (FW ro) 0 C.P .any ops R fuel listed a w := by
 have hcw := Qcd C H0
 -- all that is left has been made
 have fin : ∀ (S : List Nat) (P : List Pn) (listed : Array Bool) (ts : List V) (H : Qa) (w : World) (a : Act), LeftP C ops L listed S P → (∀ i ∈ S, ∃ p ∈ P, p.m = i) → Jn C (cwP C H0) ops H0 K S ts H → InvL C im pl w0 ds P ts H a w → R .normal a w := by
  intro S P listed ts H w a hl hall hx hI;obtain ⟨S', P', ts', H', q1, q2, q3, q4, q5, q6⟩ := Qhj hL ops.size S.length S P ts H (Nat.le_refl _) hl.sorted hl.sub (fun m hm _ _ => hall m hm) (fun j hj hnl m hm hjm hk => by
   obtain ⟨p, hp, rfl⟩ := hall j hj;exact (hnl (hl.sub p hp).2.1).elim) hx hI
  have : S' = [] := by
   cases S' with
   | nil => rfl
   | cons i S' =>
    exfalso;obtain ⟨h1, h2⟩ := (q1 i).1 (by simp)
    obtain ⟨p, hp, rfl⟩ := hall i h1;exact h2 ⟨(hl.sub p hp).2.1, hl.lt _ h1⟩
  subst this
  have : P' = [] := by
   cases P' with
   | nil => rfl
   | cons p P' =>
    exfalso;obtain ⟨h1, h2⟩ := (q3 p).1 (by simp)
    exact h2 (hl.lt _ (hl.sub p h1).1)
  subst this;exact hK _ _ _ _ q5 q6
 have todo : ∀ {S : List Nat} {P : List Pn} {i : Nat}, i ∈ (S.filter fun i => P.all fun p => decide (p.m ≠ i)) ↔ i ∈ S ∧ ∀ p ∈ P, p.m ≠ i := fun {S P i} => by
  simp [List.mem_filter]
 intro fuel
 induction fuel with
 | zero =>
  intro S P listed ts H w a hl hlen hS hx hI
  have hnil := List.length_eq_zero_iff.1 (Nat.le_zero.1 hlen)
  have hall : ∀ i ∈ S, ∃ p ∈ P, p.m = i := fun i hi => Classical.byContradiction fun hno => by
   have : i ∈ (S.filter fun i => P.all fun p => decide (p.m ≠ i)) := todo.2 ⟨hi, fun p hp e => hno ⟨p, hp, e⟩⟩
   rw [hnil] at this; cases this
  refine ⟨?_, fin S P listed ts H w a hl hall hx hI⟩;cases hr : Region.ready .any ops listed with
  | nil => rfl
  | cons i l =>
   exfalso;obtain ⟨h1, o, ho, h3⟩ := Qas (listed := listed) (i := i) (by rw [hr]; simp)
   have hlt : i < ops.size := (Array.getElem?_eq_some_iff.1 ho).1
   have hlt' : i < listed.size := by rw [hl.size]; exact hlt
   have := (hl.mem i).2 ⟨hlt, by simpa only [Array.getD_eq_getD_getElem?, hlt', Array.getElem?_eq_getElem, Option.getD_some] using h1⟩
   obtain ⟨p, hp, e⟩ := hall i this.1;exact this.2 p hp e
 | succ fuel ih =>
  intro S P listed ts H w a hl hlen hS hx hI;refine ⟨fun hr => fin S P listed ts H w a hl (hl.ready hL hr) hx hI, fun i hi => ?_⟩
  obtain ⟨h1, o, ho, h3⟩ := Qas hi
  have hlt : i < ops.size := (Array.getElem?_eq_some_iff.1 ho).1
  have hlt' : i < listed.size := by rw [hl.size]; exact hlt
  have hget : ∀ j, (listed.setIfInBounds i true).getD j false = if i = j then true else listed.getD j false := fun j => by
   simp only [Array.getD_eq_getD_getElem?, Array.getElem?_setIfInBounds];split
   ·simp [hlt']
   ·rfl
  have hclosed : Qfj ops (listed.setIfInBounds i true) := fun k p hp hk j hj => by
   rw [hget] at hk ⊢;split
   ·rfl
   ·split at hk
    ·rename_i e; subst e; rw [ho] at hp; cases hp; exact h3 j hj
    ·exact hl.closed k p hp hk j hj
  have hun : listed.getD i false = false := by simpa only [Array.getD_eq_getD_getElem?, hlt', Array.getElem?_eq_getElem, Option.getD_some] using h1
  obtain ⟨hiS, hiP⟩ := (hl.mem i).2 ⟨hlt, hun⟩
  -- what is not done is not Ja of it
  have un : ∀ j ∈ S, (∀ p ∈ P, p.m ≠ j) → Ja ops i j i = false := fun j hj hjP => by
   cases h : Ja ops i j i with
   | false => rfl
   | true =>
    have h5 := Qc5 hl.closed i j i o ho h3 h
    have h6 := (hl.mem j).1 ⟨hj, hjP⟩
    rw [h5] at h6; cases h6.2
  have unA : ∀ j ∈ S, (∀ p ∈ P, p.m ≠ j) → Zg ops i j i = false := fun j hj hjP => by
   cases h : Zg ops i j i with
   | false => rfl
   | true =>
    have h5 := Yn hl.closed i j i o ho h3 h
    have h6 := (hl.mem j).1 ⟨hj, hjP⟩
    rw [h5] at h6; cases h6.2
  by_cases hLi : L i
  ·-- it is made Ja of its turn, or in it: it waits
   obtain ⟨om, t, d, hom, hop, hdst, hgd, -, hty⟩ := hL.late i hLi;rw [ho] at hom; cases hom;unfold wpOpIn;simp only [ho];rw [if_pos (by simp [Region.wanted, hgd])]
   refine InvL.made (p := ⟨i, d, t⟩) hty hop hdst (fun q hq e => ?_) hI fun vc w' hI' => ?_
   ·obtain ⟨hqS, hqL, oq, hoq, -, hqd⟩ := hl.sub q hq
    have hne := hiP q hq
    have hap : oq.apart ops o = true ∨ o.apart ops oq = true := by
     rcases Nat.lt_or_gt_of_ne hne with h | h
     ·have := hL.slots i q.m hLi h
      simp only [Zm, hoq, ho] at this; exact .inl this
     ·have := hL.slots q.m i hqL h
      simp only [Zm, hoq, ho] at this; exact .inr this
    simp only at e;rcases hap with hap | hap
    ·exact (Oper.apart_spec hap).2.1 q.d hqd (by rw [hdst, e])
    ·exact (Oper.apart_spec hap).2.1 d hdst (by rw [hqd, e])
   ·refine ih S (⟨i, d, t⟩ :: P) _ ts H w' _ ⟨by rw [Array.size_setIfInBounds]; exact hl.size, hl.sorted, hl.lt, fun j => ?_, fun q hq => ?_, hclosed⟩ ?_ hS hx hI'
    ·rw [hget];by_cases e : i = j
     ·subst e;simp
     ·rw [if_neg e, ← hl.mem j];simp [e]
    ·rcases List.mem_cons.1 hq with rfl | hq
     ·exact ⟨hiS, hLi, o, ho, hop, hdst⟩
     ·exact hl.sub q hq
    ·have hsub : (S.filter fun j => (⟨i, d, t⟩ :: P).all fun p => decide (p.m ≠ j)).length < (S.filter fun j => P.all fun p => decide (p.m ≠ j)).length := by
      have e1 : (S.filter fun j => (⟨i, d, t⟩ :: P).all fun p => decide (p.m ≠ j)) = (S.filter fun j => P.all fun p => decide (p.m ≠ j)).filter fun j => decide (i ≠ j) := by
       rw [List.filter_filter]
       congr 1
      rw [e1];refine Nat.lt_of_le_of_ne (List.length_filter_le _ _) fun e2 => ?_
      have := List.length_filter_eq_length_iff.1 e2 i (todo.2 ⟨hiS, hiP⟩)
      simp at this
     omega
  ·-- what must have been made Ja of it Qvk its turn
   have hhat := hL.hat i o ho hLi
   obtain ⟨k, hki, hk1, hk2, hk3⟩ : ∃ k, k ≤ i ∧ (∀ m ∈ S, L m → m < k → ∃ p ∈ P, p.m = m) ∧ (∀ j ∈ S, ¬ L j → ∀ m, L m → j < m → m < k → Ys ops j m = true) ∧ ∀ m ∈ S, L m → m < i → ¬ m < k → Ys ops m i = true := by
    rcases Qiw (fun m => m ∈ S ∧ L m ∧ Ys ops m i = false) i with h | ⟨m, hmi, ⟨hmS, hmL, hmp⟩, hlast⟩
    ·refine ⟨0, by omega, fun m _ _ h => by omega, fun j _ _ m _ _ h => by omega, fun m hm hml hmi _ => ?_⟩
     cases e : Ys ops m i with
     | true => rfl
     | false => exact (h m hmi ⟨hm, hml, e⟩).elim
    ·rcases hL.pair i m hlt hLi hmL hmi with e | ⟨e1, e2, e3⟩
     ·rw [hmp] at e; cases e
     ·have pend : ∀ x ∈ S, Ja ops i x i = true → ∃ p ∈ P, p.m = x := fun x hx hxa => Classical.byContradiction fun hno => by
       have := un x hx fun p hp e => hno ⟨p, hp, e⟩
       rw [hxa] at this; cases this
      refine ⟨m + 1, by omega, fun x hx hxl hxm => ?_, fun j hj hjl x hxl hjx hxm => ?_, fun x hx hxl hxi hxm => ?_⟩
      ·by_cases e : x = m
       ·subst e; exact pend _ hx e1
       ·exact pend x hx (e2 x (by omega) hxl)
      ·rcases e3 j (by omega) hjl with e | e
       ·obtain ⟨p, hp, rfl⟩ := pend j hj e;exact (hjl (hl.sub p hp).2.1).elim
       ·exact e x hxl hjx (by omega)
      ·cases e : Ys ops x i with
       | true => rfl
       | false => exact (hlast x (by omega) hxi ⟨hx, hxl, e⟩).elim
   obtain ⟨S', P', ts', H', q1, q2, q3, q4, q5, q6⟩ := Qhj hL k S.length S P ts H (Nat.le_refl _) hl.sorted hl.sub hk1 hk2 hx hI
   have hiS' : i ∈ S' := (q1 i).2 ⟨hiS, fun h => hLi h.1⟩
   have hS'S : ∀ j ∈ S', j ∈ S := fun j hj => ((q1 j).1 hj).1
   have hP'P : ∀ p ∈ P', p ∈ P := fun p hp => ((q3 p).1 hp).1
   have hs' : S'.Pairwise (· < ·) := hl.sorted.sublist q2
   have hS' : Same H0 H' ∨ (Stand H0 H' ∧ ∀ j ∈ S', ∀ p, ops[j]? = some p → Xf p.op = false) ∨ (∀ j ∈ S', ∀ p, ops[j]? = some p → Zy p.op = true ∨ Qx p.op = true) :=
    hS.imp (·.trans q4) fun h => h.imp (fun h => ⟨h.1.trans q4.stand, fun j hj => h.2 j (hS'S j hj)⟩) fun h j hj => h j (hS'S j hj)
   -- what has been made, and what has not, in what is left
   have made' : ∀ j ∈ S', (∀ p ∈ P', p.m ≠ j) → ∀ p ∈ P, p.m ≠ j := fun j hj hno p hp e => by
    by_cases hpk : p.m < k
    ·exact ((q1 j).1 hj).2 ⟨by rw [← e]; exact (hl.sub p hp).2.1, by rw [← e]; exact hpk⟩
    ·exact hno p ((q3 p).2 ⟨hp, hpk⟩) e
   obtain ⟨l1, l2, rfl⟩ := List.append_of_mem hiS'
   have hsa := hs'
   rw [List.pairwise_append] at hsa
   have hb := Qaf hcw hL.known l2 l1 (fun j hj => by
    have hji : j < i := hsa.2.2 j hj i (by simp)
    have hjS' : j ∈ l1 ++ i :: l2 := by simp [hj]
    by_cases hjL : L j
    ·exact hk3 j (hS'S j hjS') hjL hji fun h => ((q1 j).1 hjS').2 ⟨hjL, h⟩
    ·rcases hhat.2.1 j hji hjL with h4 | h4
     ·exact h4
     ·have := un j (hS'S j hjS') fun p hp e => hjL (by rw [← e]; exact (hl.sub p hp).2.1)
      rw [h4] at this; cases this) ts' H' q5
   simp only [Jn, ho] at hb
   -- the slots that wait are others
   have hslots : ∀ p ∈ P', p.d ∉ o.looksAt ops ∧ o.dst ≠ some p.d := fun p hp => by
    obtain ⟨hpS, hpL, op, hop, -, hpd⟩ := hl.sub p (hP'P p hp)
    have hne := hiP p (hP'P p hp)
    rcases Nat.lt_or_gt_of_ne hne with h | h
    ·have hpS' : p.m ∈ l1 ++ i :: l2 := (q1 p.m).2 ⟨hpS, fun h => ((q3 p).1 hp).2 h.2⟩
     have := hk3 p.m hpS hpL h ((q3 p).1 hp).2
     simp only [Ys, hop, ho, Bool.and_eq_true] at this;obtain ⟨e1, e2, e3⟩ := Oper.apart_spec this.1;exact ⟨e1 p.d hpd, e2 p.d hpd⟩
    ·have := hL.slots p.m i hpL h
     simp only [Zm, hop, ho] at this;obtain ⟨e1, e2, e3⟩ := Oper.apart_spec this;exact ⟨e3 p.d hpd, fun e => e2 p.d e hpd⟩
   rw [← Qpe (P := P') (fun p hp => (hslots p hp).1) ts'] at hb
   unfold wpOpIn;simp only [ho]
   have hsub : ∀ j, j ∈ l1 ++ l2 → j ∈ l1 ++ i :: l2 := fun j hj => by
    simp only [List.mem_append, List.mem_cons] at hj ⊢;exact hj.imp id .inr
   have hni : i ∉ l1 ++ l2 := fun h => by
    rcases List.mem_append.1 h with h | h
    ·have := hsa.2.2 i h i (by simp); omega
    ·have := (List.pairwise_cons.1 hsa.2.1).1 i h; omega
   have hleft : LeftP C ops L (listed.setIfInBounds i true) (l1 ++ l2) P' := by
    refine ⟨by rw [Array.size_setIfInBounds]; exact hl.size, hs'.sublist (by simp), fun j hj => hl.lt j (hS'S j (hsub j hj)), fun j => ?_, fun p hp => ?_, hclosed⟩
    ·rw [hget];by_cases e : i = j
     ·subst e;simp only [if_true, Bool.true_eq_false, and_false, iff_false, not_and];exact fun h => (hni h).elim
     ·rw [if_neg e, ← hl.mem j];constructor
      ·rintro ⟨h1, h2⟩;exact ⟨hS'S j (hsub j h1), made' j (hsub j h1) h2⟩
      ·rintro ⟨h1, h2⟩
       have : j ∈ l1 ++ i :: l2 := (q1 j).2 ⟨h1, fun h => by
        obtain ⟨p, hp, e1⟩ := hk1 j h1 h.1 h.2;exact h2 p hp e1⟩
       refine ⟨?_, fun p hp => h2 p (hP'P p hp)⟩
       simp only [List.mem_append, List.mem_cons] at this ⊢;rcases this with h | h | h
       ·exact .inl h
       ·exact (e h.symm).elim
       ·exact .inr h
    ·obtain ⟨r1, r2⟩ := hl.sub p (hP'P p hp);refine ⟨?_, r2⟩
     have : p.m ∈ l1 ++ i :: l2 := (q1 p.m).2 ⟨r1, fun h => ((q3 p).1 hp).2 h.2⟩
     simp only [List.mem_append, List.mem_cons] at this ⊢;rcases this with h | h | h
     ·exact .inl h
     ·exact (hiP p (hP'P p hp) h).elim
     ·exact .inr h
   have hfuel : ((l1 ++ l2).filter fun j => P'.all fun p => decide (p.m ≠ j)).length ≤ fuel := by
    have e0 : ((l1 ++ l2).filter fun j => P'.all fun p => decide (p.m ≠ j)).length < ((l1 ++ i :: l2).filter fun j => P'.all fun p => decide (p.m ≠ j)).length := by
     have hin : (P'.all fun p => decide (p.m ≠ i)) = true := by
      simp only [List.all_eq_true, decide_eq_true_eq];exact fun p hp => hiP p (hP'P p hp)
     simp only [List.filter_append, List.filter_cons, hin, if_true, List.length_append, List.length_cons];omega
    have e1 : ((l1 ++ i :: l2).filter fun j => P'.all fun p => decide (p.m ≠ j)) = ((l1 ++ i :: l2).filter fun j => P.all fun p => decide (p.m ≠ j)) := by
     refine List.filter_congr fun j hj => ?_
     have : (P'.all fun p => decide (p.m ≠ j)) = true ↔ (P.all fun p => decide (p.m ≠ j)) = true := by
      simp only [List.all_eq_true, decide_eq_true_eq];exact ⟨made' j hj, fun h p hp => h p (hP'P p hp)⟩
     exact Bool.eq_iff_iff.2 this
    have e2 := (q2.filter fun j => P.all fun p => decide (p.m ≠ j)).length_le
    rw [e1] at e0;omega
   obtain ⟨im', pl', b, r1, r2⟩ := q6
   have hI' : InvL C im pl w0 ds P' ts' H' a w := ⟨im', pl', b, r1, r2⟩
   rcases Jp hb r1.tr with ⟨hw, h⟩ | ⟨hw, h⟩
   ·rw [if_pos hw]
    have hS1 : Same H0 H' ∨ (Stand H0 H' ∧ Xf o.op = false) ∨ (Zy o.op = true ∨ Qx o.op = true) := hS'.imp id fun h => h.imp (fun h => ⟨h.1, h.2 i (by simp) o ho⟩) (fun h => h i (by simp) o ho)
    refine hI'.op (fun p hp => (hslots p hp).2) (Qf8 hcw (Yv hL.known ho) hS1 h) fun v vc H2 w' k1 k2 => ?_
    refine ih (l1 ++ l2) P' _ _ H2 w' _ hleft hfuel ?_ k1.2 k2
    -- what is not listed
    have unl : ∀ j ∈ l1 ++ l2, ∀ p, ops[j]? = some p → (∀ x ∈ P', x.m ≠ j) → listed.getD j false = false := fun j hj p hp hno => ((hl.mem j).1 ⟨hS'S j (hsub j hj), made' j (hsub j hj) hno⟩).2
    rcases k1.1 with k5 | ⟨k5, k6⟩ | k5
    ·rcases hS' with hS | hS | hS
     ·exact .inl (k5.1 hS)
     ·exact .inr (.inl ⟨k5.2 hS.1, fun j hj p hp => hS.2 j (hsub j hj) p hp⟩)
     ·exact .inr (.inr fun j hj p hp => hS j (hsub j hj) p hp)
    ·have hnl : ∀ j ∈ l1 ++ l2, ∀ p, ops[j]? = some p → Xf p.op = false := fun j hj p hp => by
      cases hload : Xf p.op with
      | false => rfl
      | true =>
       have h7 := hhat.2.2.1 k5 j p hp hload
       have h8 := Yn hl.closed i j i o ho h3 h7
       have h9 := unl j hj p hp fun x hx e => by
        obtain ⟨-, -, ox, hox, hxt, -⟩ := hl.sub x (hP'P x hx);rw [e, hp] at hox; cases hox;rw [hxt] at hload; cases hload
       rw [h8] at h9; cases h9
     rcases hS' with hS | hS | hS
     ·exact .inr (.inl ⟨hS.stand.trans k6, hnl⟩)
     ·exact .inr (.inl ⟨hS.1.trans k6, hnl⟩)
     ·exact .inr (.inr fun j hj p hp => hS j (hsub j hj) p hp)
    ·refine .inr (.inr fun j hj p hp => ?_)
     rcases hhat.2.2.2 k5 j p hp with h7 | h7
     ·exact h7
     ·have h8 := Yn hl.closed i j i o ho h3 h7
      by_cases hx : ∃ x ∈ P', x.m = j
      ·obtain ⟨x, hx, e⟩ := hx;obtain ⟨-, -, ox, hox, hxt, -⟩ := hl.sub x (hP'P x hx);rw [e, hp] at hox; cases hox
       right; rw [hxt]; rfl
      ·have h9 := unl j hj p hp fun x hxP e => hx ⟨x, hxP, e⟩
       rw [h8] at h9; cases h9
   ·rw [if_neg (by simp [hw])]
    refine ⟨fun _ _ => trivial, ih (l1 ++ l2) P' _ _ H' w _ hleft hfuel ?_ h (hI'.skip fun p hp => (hslots p hp).2)⟩
    exact hS'.imp id fun h => h.imp (fun h => ⟨h.1, fun j hj p hp => h.2 j (hsub j hj) p hp⟩) (fun h j hj p hp => h j (hsub j hj) p hp)
end
theorem Qyi {C : Ctx} {ro : Option Nat} (hm : C.P.follows .mixedOrders = true) {id : Nat} {ops : Array Oper} (hdr : Qc2 C ops = true) {Q : Exit → List V → Qa → Prop} {ts : List V} {H : Qa}
  {H0 : Qa} (hs0 : Same H0 H) (h : Ju C (cwP C H0) ops H0 (Q .normal) ops.toList ts H) : T C ro (.region id ops true) Q ts H := by
 intro im pl w a hr
 have hL := Qlb hdr
 refine wpIn_region_any hm ?_
 have hx := Qg3 (Qcd C H0) hL.known ops.toList 0 ts H (by simp) h
 have hvr : ∀ {v c}, VR im pl w v c → VR im pl { w with drawn := w.drawn + 1 } v c := fun h => VR.world (w := w) (w' := { w with drawn := w.drawn + 1 }) (fun _ _ _ (h : w.cell? _ = some _) => h) h
 have hE : Ext im pl w im pl { w with drawn := w.drawn + 1 } := ⟨rfl, rfl, rfl, Nat.le_refl _, fun _ h => h, fun _ h => .inl h, fun _ _ => .inl rfl, fun r b cap h => .inl ⟨r, cap, h⟩, fun _ _ _ => rfl⟩
 have hr' : Rel im pl { w with drawn := w.drawn + 1 } ts H a := by
  refine ⟨⟨hr.tr.1, fun i => hvr (hr.tr.2 i)⟩, ?_, hr.df.mono hE⟩
  obtain ⟨g1, g2, g3, g4, g5, g6, g7, g8⟩ := hr.hr;refine ⟨g1, g2, g3, g4, g5, g6, g7, fun r b cap hp => ?_⟩
  obtain ⟨e, s, cs, cur, f1, f2, f3, f4, f5, f6⟩ := g8 r b cap hp;exact ⟨e, s, cs, cur, f1, f2, f3, f4, f5, fun j => hvr (f6 j)⟩
 refine Qn6 (im := im) (pl := pl) (w0 := w) (ds := a.defers) hL (fun a' w' ts' H' k1 k2 => ?_) ops.size (List.range' 0 ops.toList.length) [] _ ts H _ a ⟨by simp, List.pairwise_lt_range' .., fun i hi => ?_, fun i => ?_, fun p hp => (by cases hp), fun i o ho hl => ?_⟩ (Nat.le_trans (List.length_filter_le _ _) (by simp)) (.inl hs0) hx ⟨im, pl, fun _ => 0, hr', hE, rfl, fun p hp => (by cases hp), fun p hp => (by cases hp)⟩
 ·obtain ⟨im', pl', b, k2, k3, k4, _⟩ := k2;exact ⟨ts', H', im', pl', k1, k2, k3, by rw [k4]; exact .refl _ _⟩
 ·simpa [List.mem_range'_1] using hi
 ·simp only [List.mem_range'_1, Nat.zero_le, true_and, Nat.zero_add, Array.length_toList];simp only [Array.getD_eq_getD_getElem?, Array.getElem?_replicate];constructor
  ·intro h; refine ⟨h.1, ?_⟩; simp [h.1]
  ·exact fun h => ⟨h.1, fun p hp => by cases hp⟩
 ·exfalso;simp only [Array.getD_eq_getD_getElem?, Array.getElem?_replicate] at hl
  split at hl <;> simp at hl
end Go.Bv
end
section
namespace Go.Bv
open Go.RowKit
def chk (p q : Prop) : Prop := p ∧ q
@[congr] theorem Qy9 {uu : Prop} (h00 : (True ∧ True) = uu) {p p' : Prop} (q : Prop) (h : p = p') : chk p q = chk p' q := by rw [h]
theorem Qsc (q : Prop) : chk True q = q := by simp [chk]
theorem Qyc {p : Prop} (q : Prop) (h : p) : chk p q = q := by simp [chk, h]
def Go1 (p : Prop) : Prop := p
theorem Zo {p : Prop} (h : Go1 p) : p := h
theorem Zk {p : Prop} (h : p) : Go1 p := h
def Br (b : Bool) (X Y : Prop) : Prop := (b = true → X) ∧ (b = false → Y)
@[congr] theorem Qzz {uu : Prop} (h00 : (True ∧ True) = uu) {b b' : Bool} (X Y : Prop) (h : b = b') : Br b X Y = Br b' X Y := by rw [h]
theorem Qvj (X Y : Prop) : Br true X Y = X := by simp [Br]
theorem Qsx (X Y : Prop) : Br false X Y = Y := by simp [Br]
theorem Qyp (b : Bool) (X Y : Prop) : Br (!b) X Y = Br b Y X := by cases b <;> simp [Br]
theorem Qyq (a b : Bool) (X Y : Prop) : Br (a && b) X Y = Br a (Br b X Y) Y := by cases a <;> cases b <;> simp [Br]
theorem Qzy (a b : Bool) (X Y : Prop) : Br (a || b) X Y = Br a X (Br b X Y) := by cases a <;> cases b <;> simp [Br]
theorem Qsy {p : Prop} [Decidable p] (X Y : Prop) (h : p) : Br (decide p) X Y = X := by simp [Br, h]
theorem Qsz {p : Prop} [Decidable p] (X Y : Prop) (h : ¬ p) : Br (decide p) X Y = Y := by simp [Br, h]
theorem Qs2 {a b : Int} (X Y : Prop) (h : a = b) : Br (a == b) X Y = X := by simp [Br, h]
theorem Qs3 {a b : Int} (X Y : Prop) (h : a ≠ b) : Br (a == b) X Y = Y := by simp [Br, h]
theorem Qs0 {a b : Int} (X Y : Prop) (h : a ≠ b) : Br (a != b) X Y = X := by simp [Br, h]
theorem Qs1 {a b : Int} (X Y : Prop) (h : a = b) : Br (a != b) X Y = Y := by simp [Br, h]
theorem Za {p : Prop} [Decidable p] {X Y : Prop} (h1 : p → X) (h2 : ¬ p → Y) : Br (decide p) X Y := ⟨fun h => h1 (of_decide_eq_true h), fun h => h2 (of_decide_eq_false h)⟩
theorem Zb {a b : Int} {X Y : Prop} (h1 : a = b → X) (h2 : a ≠ b → Y) : Br (a == b) X Y := ⟨fun h => h1 (by simpa using h), fun h => h2 (by simpa using h)⟩
theorem Zc {a b : Int} {X Y : Prop} (h1 : a ≠ b → X) (h2 : a = b → Y) : Br (a != b) X Y := ⟨fun h => h1 (by simpa using h), fun h => h2 (by simpa using h)⟩
theorem Zd {b : Bool} {X Y : Prop} (h1 : b = true → X) (h2 : b = false → Y) : Br b X Y := ⟨h1, h2⟩
theorem Br.pick {b : Bool} {X Y : Prop} (h : if b then X else Y) : Br b X Y := by cases b <;> simpa [Br] using h
attribute [go_sem] Qsc Qyc Qvj Qsx Qyp Qyq Qzy Qsy Qsz Qs2 Qs3 Qs0 Qs1
section
variable (C : Ctx) (ro : Option Nat) (cw : CW) (ty : TypeId → Ty) (Q : Exit → List V → Qa → Prop) (ts : List V) (H : Qa) (K : V → Qa → Prop) (KP : V → Prop) (KL : List V → Qa → Prop)
theorem Qu7 (b : Bool) (x y : Prop) : Qbe (.bool b) x y = Br b x y := rfl
theorem Qro (b : Bool) (d : Tmp) (Y N : List V → Prop) : Ji (.bool b) d true ts Y N = Br b (Y (upd ts d (.bool true))) (N (upd ts d (.bool false))) := rfl
theorem Qrp (b : Bool) (d : Tmp) (Y N : List V → Prop) : Ji (.bool b) d false ts Y N = Br b (N (upd ts d (.bool true))) (Y (upd ts d (.bool false))) := rfl
theorem Qty (t : Bool) (a b : V) : Qb5 (.bool t) a b KP = Br t (KP a) (KP b) := rfl
theorem Qhx (y : Ty) (a b : ByteArray) : Kz y .eql (.str a) (.str b) H KP = KP (.bool (a.toList == b.toList)) := rfl
theorem Qhw (y : Ty) (a b : ByteArray) : Kz y .neq (.str a) (.str b) H KP = KP (.bool (!(a.toList == b.toList))) := rfl
theorem Qdp (y : Ty) (n : Nat) (cs : List V) : Kz y .eql (.sl n cs) .nil H KP = (y.sl.isSome = true ∧ chk (KP (.bool false)) (n = 0 → KP (.bool true))) := rfl
theorem Qdo (y : Ty) (n : Nat) (cs : List V) : Kz y .neq (.sl n cs) .nil H KP = (y.sl.isSome = true ∧ chk (KP (.bool true)) (n = 0 → KP (.bool false))) := rfl
theorem Qc3 (y : Ty) (r off n : Nat) : Kz y .eql (.ref r off n) .nil H KP = (y.sl.isSome = true ∧ chk ((Qd H r).isSome = true) (KP (.bool false) ∧ (n = 0 → KP (.bool true)))) := rfl
theorem Qn9 (k : IntKind) (a b : Int) : Yt .quo k a k b KP = chk (b ≠ 0) (KP (.int k (k.wrap (a.tdiv b)))) := by simp [Yt, chk]
theorem Qn8 (k : IntKind) (a b : Int) : Yt .rem k a k b KP = chk (b ≠ 0) (KP (.int k (a.tmod b))) := by simp [Yt, chk]
theorem Qrb (k k' : IntKind) (a b : Int) : Yt .shl k a k' b KP = chk (0 ≤ b) (KP (.int k (k.wrap (a * 2 ^ (min b.toNat k.bits))))) := rfl
theorem Qra (k k' : IntKind) (a b : Int) : Yt .shr k a k' b KP = chk (0 ≤ b) (KP (.int k (a.fdiv (2 ^ (min b.toNat k.bits))))) := rfl
theorem Qrk (k : IntKind) (a b : Int) : Yt .and k a k b KP = KP (.int k (k.wrap ((BitVec.ofInt k.bits a &&& BitVec.ofInt k.bits b).toNat : Int))) := by simp [Yt]
theorem Qup (k : IntKind) (a b : Int) : Yt .or k a k b KP = KP (.int k (k.wrap ((BitVec.ofInt k.bits a ||| BitVec.ofInt k.bits b).toNat : Int))) := by simp [Yt]
theorem Qq8 (k : IntKind) (a b : Int) : Yt .xor k a k b KP = KP (.int k (k.wrap ((BitVec.ofInt k.bits a ^^^ BitVec.ofInt k.bits b).toNat : Int))) := by simp [Yt]
theorem Qte (k : IntKind) (n : Int) : unw .xor (.int k n) KP = KP (.int k (k.wrap ((BitVec.ofInt k.bits (if k.signed then -1 else k.max) ^^^ BitVec.ofInt k.bits n).toNat : Int))) := rfl
theorem Qn1 (y : Ty) (cs : List V) (off : Nat) : Jo y (.rp cs off) H KP = chk (off + y.size ≤ cs.length) (KP (Qdg y cs off)) := rfl
theorem Qit (y : Ty) (e s : Nat) (cs : List V) (off : Nat) : Qma y (some ⟨e, s, cs⟩) off KP = chk (off + y.size ≤ cs.length) (KP (Qdg y cs off)) := rfl
theorem Qgw (y : Ty) (e s : Nat) (cs : List V) (r off : Nat) (v : V) (KH : Qa → Prop) : Qee y (some ⟨e, s, cs⟩) r off v H KH =
  chk (off + y.size ≤ cs.length ∧ (cellsOf v).length = y.size ∧ (cellsOf v).all Xx = true) (KH (H.set r (some ⟨e, s, Ky cs off (cellsOf v)⟩))) := by simp [Qee, chk, and_assoc]
theorem Qk2 (e n : Nat) (i : Int) (KO : Nat → Prop) : Qi2 ty (some e) n i KO = ((ty e).ok = true ∧ chk (0 ≤ i ∧ i < n) (KO (i.toNat * (ty e).size))) := by simp [Qi2, chk, and_assoc]
theorem Qoh (o u : Nat) (KO : Nat → Prop) : fao ty (some (o, u)) KO = ((ty u).ok = true ∧ chk ((ty u).size ≠ 0) (KO o)) := rfl
theorem Qj8 (l : List V) (KV : List V → Prop) : Qa8 (some l) KV = KV l := rfl
theorem Qjv (place : Nat → Option (Nat × Nat)) (cs : List V) (v : V) (rest : List (Nat × V)) (off size : Nat) : Qo7 (some (off, size)) place cs v rest = if kn v = true ∧ (cellsOf v).length = size ∧ off + (cellsOf v).length ≤ cs.length then Ya place (Ky cs off (cellsOf v)) rest else none := rfl
end
attribute [go_sem] Qrb Qra Qrk Qup Qq8 Qte Qoh List.cons_ne_nil ne_eq not_false_eq_true Option.map_some Qu7 Qro Qrp Qty Qhx Qhw Qdp Qdo Qc3 Qn9 Qn8 Qn1 Qit Qgw Qk2 Qj8 Qjv
attribute [go_sem] Qs8 Qv4 Qo1 Qo2 Qs9 Qgs Qta Qoz Qo0 Qv5 Qh8 Qm3 Qpn Qfu Qlj Qjh Qhv Qfl Qj2 Qh9 Qry
 Qi4 Qp6 Qp5 Qm9 Quc Qud Qub Qdj Qbo Qk4 Qk9 Qla Qqj Qkh Qqi Qnw Qqg Qij Qg7 Qii Qg6
 Qqk Qnr Qua Qnx Qnv Qet Qfp Qns Qap Qnu Qb6 Qnt Qql Qik Qx9 Qx0 Qx4 Qu3 Qx3 Qu0 Qu1 Qx1 Qx5
 Qu2 Qdb Qdc Qo8 Qo9 Qqn Qqo Qsk Qfw Qfv Qdq Qrl Qq9 Qrd Qri Qrc Qre Qrf Qrg Qrh Qtg Qtf
 Qrw Qug Qkl Qqr Qn2 Qjz Qd4 Qd5 Quj Qq3 Qq4 Qhr Qhq Qhp Qd6 Qdm Option.isSome_some Bool.and_self Bool.or_true Qor Qus Qrm Quy
 Qxy Qgj Qsf Qse Qsj Qak Qef Qgy Qui Qqv Qq2 Qq1 Qq0 Qqz Qkq Qqy Qn4 Qmw Qjw Qt1 Qo4 Qo5 Qx8 Qkk Qio Qkj Qqd Qkc Qqc Qnp Qqb Qig Qg5 Qif
 Qg4 Qqe Qno Qnk Qfo Qnm Qfn Qnl Qt7 Qkd Qt5 Qt6 Qqf Qnj Qt8 Qnq Qer Qfm Qxl Qum Qxh Qxk Qzl
 Qxi Qxm Qxj Qzm Quk Qzn Qul Qjf Qho Qjb Qje Qld Qjc Qjg Qjd Qle Qhm Qlf Qhn Qp8 Qnb
 Zr Qbx Qtc Qdh Qgk Qcf Qsb Qop Qfb
attribute [go_sem] List.map_cons List.map_nil List.length_cons List.length_nil true_and and_true if_true Bool.not_true Bool.not_false beq_self_eq_true Nat.zero_add Nat.add_zero Bool.false_eq_true if_false Int.toNat_natCast Nat.mul_one Option.isSome_some Bool.true_eq_false false_implies true_implies implies_true eq_self List.nil_append List.append_nil List.cons_append List.replicate_succ List.replicate_zero Nat.lt_irrefl Nat.le_refl Nat.one_mul decide_true decide_false List.all_cons List.all_nil Bool.and_true Bool.true_and
theorem Qps (k : IntKind) (n : Int) : Xx (.int k n) = true := rfl
theorem Qm5 (b : Bool) : Xx (.bool b) = true := rfl
theorem Qpo (b : ByteArray) : Xx (.str b) = true := rfl
theorem Qpr : Xx .nil = true := rfl
theorem Qtt (n : Nat) (cs : List V) : Xx (.sl n cs) = true := rfl
theorem Qpp (r o n : Nat) : Xx (.ref r o n) = true := rfl
theorem Qpq (r o : Nat) : Xx (.ptr r o) = true := rfl
theorem Qtu (f : Go.Fn) (xs ys : List V) : Xx (.fn f xs ys) = true := rfl
theorem Qm4 : Xx .nilf = true := rfl
attribute [go_sem] Qps Qm5 Qpo Qpr Qtt Qpp Qpq Qtu Qm4 Yc Qav Qb Qk
theorem Qs7 {n : Int} (h : -9223372036854775808 ≤ n ∧ n ≤ 9223372036854775807) : IntKind.wrap .i64 n = n := Qmu h.1 h.2
theorem Qny (xs : List Int) (i : Nat) (h : i < xs.length) : nth (ints xs) i = .int .i64 (xs.getD i 0) := Qqp xs i h
theorem Qtl {a b : Int} (h : 0 ≤ a) : a.tmod b = a % b := Int.tmod_eq_emod_of_nonneg h
theorem Qtm {a b : Int} (h : 0 ≤ a) : a.tdiv b = a / b := Int.tdiv_eq_ediv_of_nonneg h
theorem Qpg (i : Nat) : ((i : Int) - 1).toNat = i - 1 := by omega
theorem Qtj (i j : Nat) : ((i : Int) - (j : Int)).toNat = i - j := by omega
theorem Qpi (i : Nat) : ((i : Int) + 1).toNat = i + 1 := by omega
theorem Qtk (i j : Nat) : ((i : Int) + (j : Int)).toNat = i + j := by omega
theorem Qph (i : Nat) : (2 * (i : Int)).toNat = 2 * i := by omega
theorem Qmy (i : Nat) : (2 * (i : Int) + 1).toNat = 2 * i + 1 := by omega
attribute [go_sem] Qs7 Qny Qtl Qtm Qpg Qtj Qpi Qtk Qph Qmy
attribute [go_sem] Nat.reduceBEq Nat.reduceLT Nat.reduceAdd Nat.reduceMul Nat.reduceSub Nat.reduceLeDiff Nat.reduceEqDiff Int.reduceBEq Int.reduceBNe Int.reduceLT Int.reduceLE Int.reduceNeg Int.reduceToNat
inductive O2 where
 | n (d : Nat) (op : Op)
 | z (op : Op)
 | g (d : Option Nat) (op : Op) (s : Nat) (b : Bool)
 | bad
def Xs (all : List Oper) : List Oper → List O2
 | [] => []
 | ⟨some d, op, _, _, _, none⟩ :: l => .n d op :: Xs all l
 | ⟨none, op, _, _, _, none⟩ :: l => .z op :: Xs all l
 | ⟨d, op, _, _, _, some (j, b)⟩ :: l => (match Qay all j with | some s => .g d op s b | none => .bad) :: Xs all l
def Jl (C : Ctx) (cw : CW) : List O2 → (List V → Qa → Prop) → List V → Qa → Prop
 | [], KL, ts, H => KL ts H
 | .n d op :: l, KL, ts, H => opc C.ty cw op ts H fun v H' => Jl C cw l KL (upd ts d v) H'
 | .z op :: l, KL, ts, H => opc C.ty cw op ts H fun _ H' => Jl C cw l KL ts H'
 | .g d op s b :: l, KL, ts, H => Ji (nth ts s) s b ts (fun ts => opc C.ty cw op ts H fun v H' => Jl C cw l KL (Xd ts d v) H') (fun ts => Jl C cw l KL (Xd ts d (.tup [])) H)
 | .bad :: _, _, _, _ => False
def Zn (C : Ctx) (cw : CW) (H0 : Qa) : List O2 → (List V → Qa → Prop) → List V → Qa → Prop
 | [], KL, ts, H => KL ts H
 | .n d op :: l, KL, ts, H => opd C cw op ts H0 H fun v H' => Zn C cw H0 l KL (upd ts d v) H'
 | .z op :: l, KL, ts, H => opd C cw op ts H0 H fun _ H' => Zn C cw H0 l KL ts H'
 | .g d op s b :: l, KL, ts, H => Ji (nth ts s) s b ts (fun ts => opd C cw op ts H0 H fun v H' => Zn C cw H0 l KL (Xd ts d v) H') (fun ts => Zn C cw H0 l KL (Xd ts d (.tup [])) H)
 | .bad :: _, _, _, _ => False
section
variable (C : Ctx) (cw : CW) (H0 : Qa) (KL : List V → Qa → Prop) (ts : List V) (H : Qa) (l : List O2)
theorem Qpt : Jl C cw [] KL ts H = KL ts H := rfl
theorem Qwg (d : Nat) (op : Op) : Jl C cw (.n d op :: l) KL ts H = opc C.ty cw op ts H fun v H' => Jl C cw l KL (upd ts d v) H' := rfl
theorem Qwf (op : Op) : Jl C cw (.z op :: l) KL ts H = opc C.ty cw op ts H fun _ H' => Jl C cw l KL ts H' := rfl
theorem Qwh (d : Option Nat) (op : Op) (s : Nat) (b : Bool) : Jl C cw (.g d op s b :: l) KL ts H = Ji (nth ts s) s b ts (fun ts => opc C.ty cw op ts H fun v H' => Jl C cw l KL (Xd ts d v) H') (fun ts => Jl C cw l KL (Xd ts d (.tup [])) H) := rfl
theorem Qpu : Zn C cw H0 [] KL ts H = KL ts H := rfl
theorem Qwk (d : Nat) (op : Op) : Zn C cw H0 (.n d op :: l) KL ts H = opd C cw op ts H0 H fun v H' => Zn C cw H0 l KL (upd ts d v) H' := rfl
theorem Qwj (op : Op) : Zn C cw H0 (.z op :: l) KL ts H = opd C cw op ts H0 H fun _ H' => Zn C cw H0 l KL ts H' := rfl
theorem Qwl (d : Option Nat) (op : Op) (s : Nat) (b : Bool) : Zn C cw H0 (.g d op s b :: l) KL ts H = Ji (nth ts s) s b ts (fun ts => opd C cw op ts H0 H fun v H' => Zn C cw H0 l KL (Xd ts d v) H') (fun ts => Zn C cw H0 l KL (Xd ts d (.tup [])) H) := rfl
end
attribute [go_sem] Qpt Qwg Qwf Qwh Qpu Qwk Qwj Qwl
@[congr] theorem Qwi {C : Ctx} {cw : CW} {KL : List V → Qa → Prop} {ts ts' : List V} {H H' : Qa} {uu : Prop} (h00 : (True ∧ True) = uu) (l : List O2) (h1 : ts = ts') (h2 : H = H') : Jl C cw l KL ts H = Jl C cw l KL ts' H' := by rw [h1, h2]
@[congr] theorem Qwm {C : Ctx} {cw : CW} {KL : List V → Qa → Prop} {ts ts' : List V} {H H' H0 H0' : Qa} {uu : Prop} (h00 : (True ∧ True) = uu) (l : List O2) (h0 : H0 = H0') (h1 : ts = ts') (h2 : H = H') : Zn C cw H0 l KL ts H = Zn C cw H0' l KL ts' H' := by rw [h0, h1, h2]
theorem Kw (C : Ctx) (cw : CW) (all : List Oper) (KL : List V → Qa → Prop) : ∀ (l : List Oper) (ts : List V) (H : Qa), .bad ∉ Xs all l → Jl C cw (Xs all l) KL ts H = Jc C.ty cw all.toArray KL l ts H
 | [], _, _, _ => rfl
 | ⟨d, op, t, p, e, g⟩ :: l, ts, H, hb => by
  cases g with
  | none =>
   cases d with
   | none =>
    have ih := fun ts H => Kw C cw all KL l ts H (fun h => hb (by simp [Xs, h]))
    simp only [Xs, Jl, Qf5, Qdc, ih]
   | some d =>
    have ih := fun ts H => Kw C cw all KL l ts H (fun h => hb (by simp [Xs, h]))
    simp only [Xs, Jl, Qf5, Qdb, ih]
  | some g =>
   obtain ⟨j, b⟩ := g
   have ih := fun ts H => Kw C cw all KL l ts H (fun h => hb (by simp [Xs, h]))
   cases hs : Qay all j with
   | none => exact (hb (by simp [Xs, hs])).elim
   | some s => simp only [Xs, hs, Jl, Qt2 hs, ih]
theorem Kx (C : Ctx) (cw : CW) (all : List Oper) (H0 : Qa) (KL : List V → Qa → Prop) : ∀ (l : List Oper) (ts : List V) (H : Qa), .bad ∉ Xs all l → Zn C cw H0 (Xs all l) KL ts H = Ju C cw all.toArray H0 KL l ts H
 | [], _, _, _ => rfl
 | ⟨d, op, t, p, e, g⟩ :: l, ts, H, hb => by
  cases g with
  | none =>
   cases d with
   | none =>
    have ih := fun ts H => Kx C cw all H0 KL l ts H (fun h => hb (by simp [Xs, h]))
    simp only [Xs, Zn, Qf6, Qdc, ih]
   | some d =>
    have ih := fun ts H => Kx C cw all H0 KL l ts H (fun h => hb (by simp [Xs, h]))
    simp only [Xs, Zn, Qf6, Qdb, ih]
  | some g =>
   obtain ⟨j, b⟩ := g
   have ih := fun ts H => Kx C cw all H0 KL l ts H (fun h => hb (by simp [Xs, h]))
   cases hs : Qay all j with
   | none => exact (hb (by simp [Xs, hs])).elim
   | some s => simp only [Xs, hs, Zn, Qt3 hs, ih]
inductive Tr where
 | s
 | r
 | x (id : Nat)
 | lb (l : Nat)
 | R (l : List O2)
 | D (ok : Bool) (l : List O2)
 | U (l : List O2)
 | P (l x : List O2)
 | q (a b : Tr)
 | c (o : Operand) (a b : Tr)
 | b (id : Nat) (a : Tr)
 | l (a : Tr)
 | sc (a : Tr)
 | f (o : Operand) (ps : Array Tmp) (a b : Tr)
 | no
def okO : List O2 → Bool
 | [] => true
 | .bad :: _ => false
 | _ :: l => okO l
theorem Qcu : ∀ {l : List O2}, okO l = true → .bad ∉ l
 | [], _ => by simp
 | .n .. :: l, h => by simp only [List.mem_cons, not_or]; exact ⟨by simp, Qcu (l := l) h⟩
 | .z .. :: l, h => by simp only [List.mem_cons, not_or]; exact ⟨by simp, Qcu (l := l) h⟩
 | .g .. :: l, h => by simp only [List.mem_cons, not_or]; exact ⟨by simp, Qcu (l := l) h⟩
 | .bad :: l, h => by simp [okO] at h
def Qbb (C : Ctx) (ops : Array Oper) : Bool := Jw ops || Qc2 C ops
theorem Qv2 {C : Ctx} {ro : Option Nat} (hm : C.P.follows .mixedOrders = true) {id : Nat} {ops : Array Oper} {Q : Exit → List V → Qa → Prop} {ts : List V} {H : Qa} (hok : Qbb C ops = true) {H0 : Qa} (hs0 : Same H0 H) (h : Ju C (cwP C H0) ops H0 (Q .normal) ops.toList ts H) : T C ro (.region id ops true) Q ts H := by
 simp only [Qbb, Bool.or_eq_true] at hok;rcases hok with hok | hok
 ·exact Qyk hm hok hs0 h
 ·exact Qyi hm hok hs0 h
def Qlz (o : Oper) : Bool := match o.op with
 | .call ⟨.value (.tmp _), _, _⟩ => true
 | _ => false
def Qsr (C : Ctx) (ops : Array Oper) : Tr := match ops.toList.any Qlz, Qey ops, Qbb C ops with
 | false, _, ok => .D ok (Xs ops.toList ops.toList)
 | true, true, _ => .P (Xs ops.toList ops.toList.dropLast) (Xs ops.toList (ops.toList.drop (ops.size - 1)))
 | true, false, true => .U (Xs ops.toList ops.toList)
 | true, false, false => .D false (Xs ops.toList ops.toList)
def Qos (C : Ctx) (ops : Array Oper) (b : Bool) : Tr := match okO (Xs ops.toList ops.toList), b with
 | true, false => .R (Xs ops.toList ops.toList)
 | true, true => Qsr C ops
 | false, _ => .no
theorem Qch (C : Ctx) (ops : Array Oper) : Qsr C ops = .D (Qbb C ops) (Xs ops.toList ops.toList) ∨ (Qbb C ops = true ∧ Qsr C ops = .U (Xs ops.toList ops.toList)) ∨ (Qey ops = true ∧ Qsr C ops = .P (Xs ops.toList ops.toList.dropLast) (Xs ops.toList (ops.toList.drop (ops.size - 1)))) := by
 unfold Qsr;cases ops.toList.any Qlz <;> cases h1 : Qey ops <;> cases h2 : Qbb C ops <;> simp
theorem Qjm (C : Ctx) (ops : Array Oper) (b : Bool) : (∀ a, Qos C ops b ≠ .l a) ∧ ∀ o ps x y, Qos C ops b ≠ .f o ps x y := by
 unfold Qos;cases okO (Xs ops.toList ops.toList) <;> cases b <;> simp;rcases Qch C ops with h | ⟨_, h⟩ | ⟨_, h⟩ <;> rw [h] <;> simp
theorem Qc6 (all : List Oper) : ∀ (a b : List Oper), Xs all (a ++ b) = Xs all a ++ Xs all b
 | [], b => rfl
 | ⟨d, op, t, p, e, g⟩ :: a, b => by
  cases g with
  | none => cases d <;> simp [Xs, Qc6 all a b]
  | some g => obtain ⟨j, c⟩ := g; simp [Xs, Qc6 all a b]
def Qq (C : Ctx) : Code → Tr
 | .skip => .s
 | .ret => .r
 | .exit id => .x id
 | .label l => .lb l
 | .goto _ => .no
 | .region _ ops b => Qos C ops b
 | .refuse _ => .no
 | .seq a b => .q (Qq C a) (Qq C b)
 | .cond o a b => .c o (Qq C a) (Qq C b)
 | .block id a => .b id (Qq C a)
 | .loop a => .l (Qq C a)
 | .scope a => .sc (Qq C a)
 | .rangeFunc o ps a b => .f o ps (Qq C a) (Qq C b)
def TT (C : Ctx) (ro : Option Nat) (t : Tr) (Q : Exit → List V → Qa → Prop) (ts : List V) (H : Qa) : Prop := ∀ c, Qq C c = t → T C ro c Q ts H
def RunU (C : Ctx) (l : List O2) (KL : List V → Qa → Prop) (ts : List V) (H : Qa) : Prop := ∃ H0, Same H0 H ∧ Zn C (cwP C H0) H0 l KL ts H
def RunP (C : Ctx) (l x : List O2) (KL : List V → Qa → Prop) (ts : List V) (H : Qa) : Prop := ∃ H0, Same H0 H ∧ Zn C (cwP C H0) H0 l (fun ts H => Jl C (cwF C) x KL ts H) ts H
theorem RunU.now {C : Ctx} {l : List O2} {KL : List V → Qa → Prop} {ts : List V} {H : Qa} (h : Zn C (cwP C H) H l KL ts H) : RunU C l KL ts H := ⟨H, .refl H, h⟩
theorem RunP.now {C : Ctx} {l x : List O2} {KL : List V → Qa → Prop} {ts : List V} {H : Qa} (h : Zn C (cwP C H) H l (fun ts H => Jl C (cwF C) x KL ts H) ts H) : RunP C l x KL ts H := ⟨H, .refl H, h⟩
@[congr] theorem Qym {C : Ctx} {KL : List V → Qa → Prop} {ts ts' : List V} {H H' : Qa} {uu : Prop} (h00 : (True ∧ True) = uu) (l : List O2) (h1 : ts = ts') (h2 : H = H') : RunU C l KL ts H = RunU C l KL ts' H' := by rw [h1, h2]
@[congr] theorem Qyn {C : Ctx} {KL : List V → Qa → Prop} {ts ts' : List V} {H H' : Qa} {uu : Prop} (h00 : (True ∧ True) = uu) (l x : List O2) (h1 : ts = ts') (h2 : H = H') : RunP C l x KL ts H = RunP C l x KL ts' H' := by rw [h1, h2]
def Zp (C : Ctx) (ro : Option Nat) (cw : CW) : Tr → (Exit → List V → Qa → Prop) → List V → Qa → Prop
 | .s, Q, ts, H => Q .normal ts H
 | .r, Q, ts, H => Q .ret ts H
 | .x id, Q, ts, H => Q (.exit id) ts H
 | .lb _, Q, ts, H => Q .normal ts H
 | .R l, Q, ts, H => Jl C cw l (Q .normal) ts H
 | .D true l, Q, ts, H => Zn C (cwP C H) H l (Q .normal) ts H
 | .D false _, _, _, _ => False
 | .U l, Q, ts, H => RunU C l (Q .normal) ts H
 | .P l x, Q, ts, H => RunP C l x (Q .normal) ts H
 | .q a b, Q, ts, H => Zp C ro cw a (Qar (Zp C ro cw b Q) Q) ts H
 | .c o a b, Q, ts, H => Qbe (ev ts o) (Zp C ro cw a Q ts H) (Zp C ro cw b Q ts H)
 | .b id a, Q, ts, H => Zp C ro cw a (Xy id Q) ts H
 | .l a, Q, ts, H => TT C ro (.l a) Q ts H
 | .sc a, Q, ts, H => Zp C ro cw a (Kg Q) ts H
 | .f o ps a b, Q, ts, H => TT C ro (.f o ps a b) Q ts H
 | .no, _, _, _ => False
section
variable (C : Ctx) (ro : Option Nat) (cw : CW) (Q : Exit → List V → Qa → Prop) (ts : List V) (H : Qa) (a b : Tr)
theorem Qws : Zp C ro cw .s Q ts H = Q .normal ts H := rfl
theorem Qwt : Zp C ro cw .r Q ts H = Q .ret ts H := rfl
theorem Qwr (id : Nat) : Zp C ro cw (.x id) Q ts H = Q (.exit id) ts H := rfl
theorem Qtw (id : Nat) : Zp C ro cw (.lb id) Q ts H = Q .normal ts H := rfl
theorem Qpx (l : List O2) : Zp C ro cw (.R l) Q ts H = Jl C cw l (Q .normal) ts H := rfl
theorem Qpz (l : List O2) : Zp C ro cw (.D true l) Q ts H = Zn C (cwP C H) H l (Q .normal) ts H := rfl
theorem Qpw (l : List O2) : Zp C ro cw (.U l) Q ts H = RunU C l (Q .normal) ts H := rfl
theorem Qpy (l x : List O2) : Zp C ro cw (.P l x) Q ts H = RunP C l x (Q .normal) ts H := rfl
theorem Qwu : Zp C ro cw (.q a b) Q ts H = Zp C ro cw a (Qar (Zp C ro cw b Q) Q) ts H := rfl
theorem Qpv (o : Operand) : Zp C ro cw (.c o a b) Q ts H = Qbe (ev ts o) (Zp C ro cw a Q ts H) (Zp C ro cw b Q ts H) := rfl
theorem Qwy (id : Nat) : Zp C ro cw (.b id a) Q ts H = Zp C ro cw a (Xy id Q) ts H := rfl
theorem Qwv : Zp C ro cw (.l a) Q ts H = TT C ro (.l a) Q ts H := rfl
theorem Qtv : Zp C ro cw (.sc a) Q ts H = Zp C ro cw a (Kg Q) ts H := rfl
theorem Qww (o : Operand) (ps : Array Tmp) : Zp C ro cw (.f o ps a b) Q ts H = TT C ro (.f o ps a b) Q ts H := rfl
end
attribute [go_sem] Qws Qwt Qwr Qtw Qpx Qpz Qpw Qpy Qwu Qpv Qwy Qwv Qtv Qww
@[congr] theorem Qwx {C : Ctx} {ro : Option Nat} {cw : CW} {Q : Exit → List V → Qa → Prop} {ts ts' : List V} {H H' : Qa} {uu : Prop} (h00 : (True ∧ True) = uu) (t : Tr) (h1 : ts = ts') (h2 : H = H') : Zp C ro cw t Q ts H = Zp C ro cw t Q ts' H' := by rw [h1, h2]
@[congr] theorem Qzu {C : Ctx} {ro : Option Nat} {Q : Exit → List V → Qa → Prop} {ts ts' : List V} {H H' : Qa} {uu : Prop} (h00 : (True ∧ True) = uu) (t : Tr) (h1 : ts = ts') (h2 : H = H') : TT C ro t Q ts H = TT C ro t Q ts' H' := by rw [h1, h2]
theorem Qm6 {C : Ctx} {ro : Option Nat} (hm : C.P.follows .mixedOrders = true) : ∀ (c : Code) (Q Q' : Exit → List V → Qa → Prop) (ts : List V) (H : Qa), (∀ e ts H, Q e ts H → Q' e ts H) → Zp C ro (cwF C) (Qq C c) Q ts H → T C ro c Q' ts H := by
 intro c
 induction c with
 | skip => exact fun Q Q' ts H hq h => Qbf (Yy C ro) .skip Q' ts H (hq _ _ _ h)
 | ret => exact fun Q Q' ts H hq h => Qbf (Yy C ro) .ret Q' ts H (hq _ _ _ h)
 | exit id => exact fun Q Q' ts H hq h => Qbf (Yy C ro) (.exit id) Q' ts H (hq _ _ _ h)
 | label l => exact fun Q Q' ts H hq h => Qbf (Yy C ro) (.label l) Q' ts H (hq _ _ _ h)
 | goto l => exact fun Q Q' ts H hq h => h.elim
 | refuse _ => exact fun Q Q' ts H hq h => h.elim
 | region id ops b =>
  intro Q Q' ts H hq h;refine T.mono ?_ hq;simp only [Qq, Qos] at h;cases hk : okO (Xs ops.toList ops.toList) with
  | false => rw [hk] at h; cases b <;> exact h.elim
  | true =>
   have hb := Qcu hk
   rw [hk] at h;cases b with
   | false =>
    simp only [Qpx] at h;rw [Kw C _ _ _ _ _ _ hb] at h;refine Qbf (Yy C ro) _ _ _ _ ?_;simp only [wp, Array.toArray_toList] at h ⊢; exact h
   | true =>
    simp only at h;rcases Qch C ops with hc | ⟨hd, hc⟩ | ⟨hd, hc⟩
    ·rw [hc] at h;cases hd : Qbb C ops with
     | false => rw [hd] at h; exact h.elim
     | true =>
      rw [hd, Qpz, Kx C _ _ _ _ _ _ _ hb] at h;rw [Array.toArray_toList] at h;exact Qv2 hm hd (.refl H) h
    ·rw [hc, Qpw] at h;obtain ⟨H0, h0, h⟩ := h;rw [Kx C _ _ _ _ _ _ _ hb, Array.toArray_toList] at h;exact Qv2 hm hd h0 h
    ·rw [hc, Qpy] at h;obtain ⟨H0, h0, h⟩ := h
     have hsp : Xs ops.toList ops.toList = Xs ops.toList ops.toList.dropLast ++ Xs ops.toList (ops.toList.drop (ops.size - 1)) := by
      rw [← Qc6, List.dropLast_eq_take, Array.length_toList, List.take_append_drop]
     rw [hsp] at hb;rw [Kx C _ _ _ _ _ _ _ (fun h => hb (List.mem_append_left _ h)), Array.toArray_toList] at h
     refine Qyj hm hd h0 ?_;simp only [Kw C _ _ _ _ _ _ (fun h => hb (List.mem_append_right _ h)), Array.toArray_toList] at h
     exact h
 | seq x y ihx ihy =>
  intro Q Q' ts H hq h;refine Qv0 (ihx _ _ ts H (fun e ts H h => ?_) h)
  cases e with
  | normal => exact ihy _ _ _ _ hq h
  | _ => exact hq _ _ _ h
 | cond o x y ihx ihy =>
  intro Q Q' ts H hq h;simp only [Qq, Qpv, Qbe] at h;split at h
  ·rename_i b hb;exact Qsu hb (fun e => ihx _ _ _ _ hq (h.1 e)) (fun e => ihy _ _ _ _ hq (h.2 e))
  ·exact h.elim
 | block id x ihx =>
  intro Q Q' ts H hq h;refine Qmq (ihx _ _ ts H (fun e ts H h => ?_) h)
  cases e with
  | exit i =>
   simp only [Xy] at h ⊢;split at h
   ·rename_i e1; rw [if_pos e1]; exact hq _ _ _ h
   ·rename_i e1; rw [if_neg e1]; exact hq _ _ _ h
  | _ => exact hq _ _ _ h
 | scope x ihx =>
  intro Q Q' ts H hq h;refine Qmp (ihx _ _ ts H (fun e ts H h => ?_) h)
  revert h
  cases e <;> simp only [Kg] <;> first | exact hq _ _ _ | exact id
 | loop x ihx => exact fun Q Q' ts H hq h => (h (.loop x) rfl).mono hq
 | rangeFunc o ps x y ihx ihy => exact fun Q Q' ts H hq h => (h (.rangeFunc o ps x y) rfl).mono hq
theorem Xm {C : Ctx} {ro : Option Nat} (hm : C.P.follows .mixedOrders = true) {t : Tr} {Q : Exit → List V → Qa → Prop} {ts : List V} {H : Qa} (h : Zp C ro (cwF C) t Q ts H) : TT C ro t Q ts H := fun c hc => by
 subst hc; exact Qm6 hm c Q Q ts H (fun _ _ _ h => h) h
theorem TT.mono {C : Ctx} {ro : Option Nat} {t : Tr} {Q Q' : Exit → List V → Qa → Prop} {ts : List V} {H : Qa} (h : TT C ro t Q ts H) (hq : ∀ e ts H, Q e ts H → Q' e ts H) : TT C ro t Q' ts H := fun c hc => (h c hc).mono hq
theorem Qdr {C : Ctx} {c : Code} {a : Tr} (h : Qq C c = .l a) : ∃ d, c = .loop d ∧ Qq C d = a := by
 cases c with
 | loop d => injection h with h; exact ⟨d, rfl, h⟩
 | region id ops b => exact ((Qjm C ops b).1 _ h).elim
 | _ => cases h
theorem Qln {C : Ctx} {c : Code} {o : Operand} {ps : Array Tmp} {a b : Tr} (h : Qq C c = .f o ps a b) : ∃ x y, c = .rangeFunc o ps x y ∧ Qq C x = a ∧ Qq C y = b := by
 cases c with
 | rangeFunc o' ps' x y => injection h with h0 h1 h2 h3; subst h0; subst h1; exact ⟨x, y, rfl, h2, h3⟩
 | region id ops b => exact ((Qjm C ops b).2 _ _ _ _ h).elim
 | _ => cases h
theorem Qn {C : Ctx} {ro : Option Nat} {a : Tr} {Q : Exit → List V → Qa → Prop} (I : Nat → List V → Qa → Prop) (step : ∀ n ts H, I n ts H → TT C ro a (Qar (fun ts' H' => ∃ m, m < n ∧ I m ts' H') Q) ts H) {n : Nat} {ts : List V} {H : Qa} (h : I n ts H) : TT C ro (.l a) Q ts H := fun c hc => by
 obtain ⟨d, rfl, hd⟩ := Qdr hc;exact Qlp I (fun n ts H h => step n ts H h d hd) h
theorem Qb2 {C : Ctx} {ro : Option Nat} {a : Tr} {Q : Exit → List V → Qa → Prop} {ts : List V} {H : Qa} (h : TT C ro a (Qar (fun _ _ => False) Q) ts H) : TT C ro (.l a) Q ts H := fun c hc => by
 obtain ⟨d, rfl, hd⟩ := Qdr hc;exact Qst 1 ((h d hd).mono fun e ts H h => by cases e <;> first | exact h | exact h.elim)
theorem Xt {C : Ctx} {ro : Option Nat} {t : Tr} {Q : Exit → List V → Qa → Prop} {ts : List V} {H : Qa} {N : Nat} (l : List (Nat × V)) (hL : ts.length = N) (hl : ∀ p ∈ l, nth ts p.1 = p.2) (h : TT C ro t Q (env N l) H) : TT C ro t Q ts H := fun c hc => Qv1 l hL hl (h c hc)
abbrev Pu (C : Ctx) (f : FuncId) (args : List V) (u : V) : Prop := Fc C f args [] fun v H => v = u ∧ H = []
theorem Fc.bodyT {C : Ctx} (hm : C.P.follows .mixedOrders = true) {f : FuncId} {fn : Func} {t : Tr} {args : List V} {H : Qa} {K : V → Qa → Prop} {N : Nat} {rs : List ResultVar} (hf : C.P.funcs[f]? = some fn) (hw : fn.body.map (Qq C) = some t) (hn : (fn.name == "runtime.NumGoroutine") = false) (hN : fn.ntmps = N) (hr : fn.results = rs.toArray) (ha : args.length ≤ N)
  (h : Zp C none (cwF C) t (Qk8 C.ty rs K) (env N (Kv 0 args)) H) : Fc C f args H K := by
 subst hN;obtain ⟨c, hb, hc⟩ := Option.map_eq_some_iff.1 hw;refine Fc.bodyE hf hb hn ha (Xm hm ?_ c hc);rw [hr]; exact h
end Go.Bv
end
section
namespace Go.Bv
open Go.RowKit
theorem Qm8 (H l : Qa) : Qd (H ++ l) H.length = Qd l 0 := by
 have : (H ++ l)[H.length]? = l[0]? := by rw [List.getElem?_append_right (Nat.le_refl _), Nat.sub_self]
 simp only [Qd, this]
theorem Qp0 (H l : Qa) (k : Nat) : Qd (H ++ l) (H.length + k) = Qd l k := by
 have : (H ++ l)[H.length + k]? = l[k]? := by rw [List.getElem?_append_right (by omega), Nat.add_sub_cancel_left]
 simp only [Qd, this]
theorem Qtr (H l : Qa) (x : Option Row) : (H ++ l).set H.length x = H ++ l.set 0 x := by simp [List.set_append]
theorem Qwd (H l : Qa) (k : Nat) (x : Option Row) : (H ++ l).set (H.length + k) x = H ++ l.set k x := by simp [List.set_append]
theorem Qiv (H l : Qa) : (H ++ l).length = H.length + l.length := by simp
attribute [go_sem] Qm8 Qp0 Qtr Qwd Qiv List.append_assoc List.set_cons_zero List.set_cons_succ Nat.add_assoc
theorem Qva (t : TypeId) (x : V) (H : Qa) (K : V → Qa → Prop) : Qol t x H K = (kn x = true ∧ K (.ptr H.length 0) (H ++ [some ⟨t, (cellsOf x).length, cellsOf x⟩])) := rfl
attribute [go_sem] Qva List.getElem?_cons_zero List.getElem?_cons_succ
theorem Ql {u v : V} {H : Qa} (hg : ∀ g, ren g v = v) (h : v = u) : ∃ sel, Jx sel (fun v H => v = u ∧ H = []) v H :=
 ⟨[], by simp, by simp, by rw [hg]; exact ⟨h, rfl⟩⟩
theorem Qjk (y : Ty) (e : TypeId) (m : Nat) (cs : List V) (H : Qa) (K : V → Qa → Prop) : Jr y e .nil (.sl m cs) H K = chk (cs.length = m * y.size ∧ cs.all Xx = true ∧ 0 < y.size ∧ 0 < y.bytes ∧ m * y.bytes ≤ 140737488355328) (K (.ref H.length 0 m) (H ++ [some ⟨e, y.size, cs⟩])) := by
 simp [Jr, Zj, chk, and_assoc]
theorem Qpb (xs : List Int) (i : Nat) (v : Int) : upd (ints xs) i (.int .i64 v) = ints (xs.set i v) := by
 induction xs generalizing i with
 | nil => rfl
 | cons a l ih =>
  cases i with
  | zero => rfl
  | succ i => show V.int .i64 a :: upd (ints l) i _ = _; rw [ih]; rfl
theorem getD_set_eq {l : List Int} {i : Nat} (v : Int) (h : i < l.length) : (l.set i v).getD i 0 = v := by simp [List.getD, h]
theorem getD_set_ne {l : List Int} {i j : Nat} (v : Int) (h : j ≠ i) : (l.set i v).getD j 0 = l.getD j 0 := by simp [List.getD, List.getElem?_set_ne (Ne.symm h)]
attribute [go_sem] Qjk Qpb List.length_set List.set_set getD_set_eq
def Qz (l : List (List Int)) : List V := l.map fun s => .sl s.length (ints s)
theorem Qhd (l : List (List Int)) : (Qz l).length = l.length := by simp [Qz]
theorem Qga (l : List (List Int)) (i : Nat) (h : i < l.length) : nth (Qz l) i = .sl (l.getD i []).length (ints (l.getD i [])) := by
 rw [Xg]; simp [Qz, List.getD, List.getElem?_map, List.getElem?_eq_getElem h]
theorem Qg (l : List (List Int)) : Qm (Qz l) = true := by rw [Qja]; simp [Qz, clo, Qb]
theorem Qj4 (g : Nat → Option Nat) (l : List (List Int)) : Qf g (Qz l) = Qz l := by rw [Qcn]; simp [Qz, ren, Qk]
theorem Qkx (l : List (List Int)) : (Qz l).all Xx = true := by simp [Qz, Xx]
theorem Qhe (l m : List (List Int)) : Qz (l ++ m) = Qz l ++ Qz m := by simp [Qz]
attribute [go_sem] Qhd Qga Qg Qj4 Qkx
def Keep (H H' : Qa) : Prop := ∀ r row, Qd H r = some row → Qd H' r = some row
theorem Keep.refl (H : Qa) : Keep H H := fun _ _ h => h
theorem Keep.app (H X : Qa) : Keep H (H ++ X) := fun _ _ h => Qy h X
theorem Keep.trans {H H1 H2 : Qa} (h : Keep H H1) (k : Keep H1 H2) : Keep H H2 := fun r row hr => k r row (h r row hr)
def IsL (e s : Nat) (H : Qa) (v : V) (n : Nat) (cs : List V) : Prop := v = .sl n cs ∨ Own e s H v n cs
theorem IsL.lenw {e s : Nat} {H : Qa} {v : V} {n : Nat} {cs : List V} (h : IsL e s H v n cs) (y : Ty) (KP : V → Prop) : lenw y v KP = (y.sl.isSome = true ∧ KP (.int .i64 n)) := by
 rcases h with rfl | ⟨rfl, rfl, rfl⟩ | ⟨r, rfl, _, _⟩ <;> rfl
theorem Own.lenw {e s : Nat} {H : Qa} {v : V} {n : Nat} {cs : List V} (h : Own e s H v n cs) (y : Ty) (KP : V → Prop) : lenw y v KP = (y.sl.isSome = true ∧ KP (.int .i64 n)) := IsL.lenw (.inr h) y KP
theorem Own.bor' {e s : Nat} {H : Qa} {v : V} {n : Nat} {cs : List V} (h : Own e s H v n cs) (hc : Qm cs = true) : Bor H v (.sl n cs) := by
 rcases h with ⟨rfl, rfl, rfl⟩ | ⟨r, rfl, h2, h3⟩
 ·exact .nil _
 ·exact .ref r 0 n _ cs h2 (by simp) fun j hj => by simpa using .clo _ (Yh hc j)
theorem IsL.bor {e s : Nat} {H : Qa} {v : V} {n : Nat} {cs : List V} (h : IsL e s H v n cs) (hc : Qm cs = true) : Bor H v (.sl n cs) := by
 rcases h with rfl | h
 ·exact .clo _ (by simpa [clo] using hc)
 ·exact h.bor' hc
def RetL (e s : Nat) (H : Qa) (v : V) (n : Nat) (cs : List V) : Prop := (v = .sl n cs ∧ H = []) ∨ Ret e s H v n cs
theorem IsL.ret {e s : Nat} {H : Qa} {v : V} {n : Nat} {cs : List V} (h : IsL e s H v n cs) (hc : ∀ g, Qf g cs = cs) {Q : V → Qa → Prop} (hQ : ∀ v H, RetL e s H v n cs → Q v H) : ∃ sel, Jx sel Q v H := by
 rcases h with rfl | h
 ·exact ⟨[], by simp, by simp, hQ _ _ (.inl ⟨by simp [ren, hc], rfl⟩)⟩
 ·exact h.ret hc fun v H h => hQ v H (.inr h)
theorem IsL.ret2 {e s : Nat} {H : Qa} {v : V} {n : Nat} {cs : List V} (h : IsL e s H v n cs) (hc : ∀ g, Qf g cs = cs) {u : V} (hu : ∀ g, ren g u = u) {Q : V → Qa → Prop} (hQ : ∀ v H, RetL e s H v n cs → Q (.tup [v, u]) H) : ∃ sel, Jx sel Q (.tup [v, u]) H := by
 rcases h with rfl | h
 ·exact ⟨[], by simp, by simp, by have := hQ (.sl n cs) [] (.inl ⟨rfl, rfl⟩); simpa [ren, Qf, hc, hu, Qan] using this⟩
 ·exact h.ret2 hc hu fun v H h => hQ v H (.inr h)
def Qyo (e s : Nat) (H : Qa) (v : V) (n : Nat) (cs : List V) (u : V) : Prop := ∃ w, v = .tup [w, u] ∧ RetL e s H w n cs
theorem Fc.own {C : Ctx} {f : FuncId} {args : List V} {H : Qa} {K : V → Qa → Prop} {e s n : Nat} {cs : List V} (h : Fc C f args [] fun v H => Ret e s H v n cs) (ha : Qm args = true) (hc : ∀ g, Qf g cs = cs) (hK : ∀ v X, Own e s (H ++ X) v n cs → K v (H ++ X)) : Fc C f args H K :=
 h.call ha fun v H' hv => hK _ _ (hv.own hc)
theorem RetL.isL {e s : Nat} {H H' : Qa} {v : V} {n : Nat} {cs : List V} (h : RetL e s H' v n cs) (hc : ∀ g, Qf g cs = cs) : IsL e s (H ++ Jt (shift H.length) H') (ren (shift H.length) v) n cs := by
 rcases h with ⟨rfl, rfl⟩ | h
 ·exact .inl (by simp [ren, hc])
 ·exact .inr (h.own hc)
theorem Fc.isL {C : Ctx} {f : FuncId} {args : List V} {H : Qa} {K : V → Qa → Prop} {e s n : Nat} {cs : List V} (h : Fc C f args [] fun v H => RetL e s H v n cs) (ha : Qm args = true) (hc : ∀ g, Qf g cs = cs) (hK : ∀ v X, IsL e s (H ++ X) v n cs → K v (H ++ X)) : Fc C f args H K :=
 h.call ha fun v H' hv => hK _ _ (hv.isL hc)
theorem Fc.two {C : Ctx} {f : FuncId} {args : List V} {H : Qa} {K : V → Qa → Prop} {e s n : Nat} {cs : List V} {u : V} (h : Fc C f args [] fun v H => Qyo e s H v n cs u) (ha : Qm args = true) (hc : ∀ g, Qf g cs = cs) (hu : ∀ g, ren g u = u) (hK : ∀ v X, IsL e s (H ++ X) v n cs → K (.tup [v, u]) (H ++ X)) : Fc C f args H K :=
 h.call ha fun v H' hv => by
  obtain ⟨w, rfl, hv⟩ := hv
  have := hK _ _ (hv.isL (H := H) hc)
  simpa [ren, Qf, hu] using this
theorem IsL.two {e s : Nat} {H : Qa} {v : V} {n : Nat} {cs : List V} (h : IsL e s H v n cs) (hc : ∀ g, Qf g cs = cs) {u : V} (hu : ∀ g, ren g u = u) : ∃ sel, Jx sel (fun v H => Qyo e s H v n cs u) (.tup [v, u]) H :=
 h.ret2 hc hu fun v H h => ⟨v, rfl, h⟩
def BorL (H : Qa) : List V → List V → Prop
 | [], [] => True
 | a :: l, b :: m => Bor H a b ∧ BorL H l m
 | _, _ => False
theorem BorL.all {H : Qa} : ∀ {l m : List V}, BorL H l m → l.length = m.length ∧ ∀ j, Bor H (nth l j) (nth m j)
 | [], [], _ => ⟨rfl, fun j => by simp [nth]; exact .clo _ rfl⟩
 | a :: l, b :: m, h => by
  obtain ⟨h1, h2⟩ := BorL.all h.2;refine ⟨by simp [h1], fun j => ?_⟩
  cases j with
  | zero => exact h.1
  | succ j => exact h2 j
 | [], _ :: _, h => h.elim
 | _ :: _, [], h => h.elim
theorem Fc.pureL {C : Ctx} {f : FuncId} {args args' : List V} {H : Qa} {u : V} {K : V → Qa → Prop} (h : Fc C f args' [] fun v H => v = u ∧ H = []) (hb : BorL H args args') (hu : ∀ g, ren g u = u) (hp : plain u = true) (hK : K u H) : Fc C f args H K :=
 h.pureB hb.all.1 hb.all.2 hu hp hK
theorem Fc.ownL {C : Ctx} {f : FuncId} {args args' : List V} {H : Qa} {K : V → Qa → Prop} {e s n : Nat} {cs : List V} (h : Fc C f args' [] fun v H => Ret e s H v n cs) (hb : BorL H args args') (hc : ∀ g, Qf g cs = cs) (hp : Qt cs = true) (hK : ∀ v X, Own e s (H ++ X) v n cs → K v (H ++ X)) : Fc C f args H K :=
 h.borrow hb.all.1 hb.all.2 (fun v H' hv => hv.plain hp) fun v H' hv => hK _ _ (hv.own hc)
theorem Bor.self {H : Qa} {v : V} (h : Bv.clo v = true) : Bor H v v := .clo v h
theorem Pc.pureL {C : Ctx} {H0 : Qa} {f : FuncId} {args args' : List V} {H : Qa} {u : V} {K : V → Qa → Prop} (h : Fc C f args' [] fun v H => v = u ∧ H = []) (hb : BorL H args args') (hu : ∀ g, ren g u = u) (hp : plain u = true) (hK : K u H) : Pc C H0 f args H K := by
 refine Pc.borrow h ⟨u, [], rfl, rfl⟩ hb.all.1 hb.all.2 ?_ ?_
 ·rintro v H' ⟨rfl, rfl⟩; exact ⟨hp, fun r row hr => by simp at hr⟩
 ·rintro v H' ⟨rfl, rfl⟩;simpa [hu, Jt] using hK
mutual
def sz (r : Nat) (cs : List V) : V → V
 | .any => .any
 | .int k n => .int k n
 | .bool b => .bool b
 | .str s => .str s
 | .nil => .nil
 | .sl n l => .sl n (szL r cs l)
 | .ref q off n => if q = r then .sl n (cs.drop off) else .ref q off n
 | .agg l => .agg (szL r cs l)
 | .tup l => .tup (szL r cs l)
 | .ptr q off => if q = r then .rp cs off else .ptr q off
 | .nilp => .nilp
 | .rp l off => .rp (szL r cs l) off
 | .fn f xs ys => .fn f (szL r cs xs) (szL r cs ys)
 | .nilf => .nilf
def szL (r : Nat) (cs : List V) : List V → List V
 | [] => []
 | v :: l => sz r cs v :: szL r cs l
end
theorem Zl (r : Nat) (cs l : List V) : (szL r cs l).length = l.length := by
 induction l with
 | nil => rfl
 | cons a l ih => simp [szL, ih]
theorem Kb (r : Nat) (cs l : List V) (j : Nat) : nth (szL r cs l) j = sz r cs (nth l j) := by
 induction l generalizing j with
 | nil => simp [szL, nth, sz]
 | cons a l ih => cases j <;> simp [szL, nth, ih]
theorem Qbv {im : Nat → Prop} {pl : Nat → Place} {w : World} {H : Qa} (hH : HR im pl w H) {r : Nat} {e s : Nat} {cs : List V} (hrow : Qd H r = some ⟨e, s, cs⟩) (hcs : Qm cs = true) :
  ∃ im1, HR im1 (Jb pl r .dead) w (H.set r none) ∧ Ext im pl w im1 (Jb pl r .dead) w ∧ (∀ b, im1 b → im b ∨ ∃ q cap, pl q = .at b cap) ∧ ∀ v c, VR im pl w v c → VR im1 (Jb pl r .dead) w (sz r cs v) c := by
 have hr := Qr hrow
 have hlt := Yq hrow
 let im1 : Nat → Prop := fun b => im b ∨ ∃ cap, pl r = .at b cap
 have hE : Ext im pl w im1 (Jb pl r .dead) w := by
  refine ⟨rfl, rfl, rfl, Nat.le_refl _, fun b hb => .inl hb, fun b hb => ?_, fun q hq => ?_, fun q b cap hq => .inl ?_, fun _ _ _ => rfl⟩
  ·rcases hb with hb | ⟨cap, hb⟩
   ·exact .inl hb
   ·exact .inr (.inr ⟨r, cap, hb⟩)
  ·by_cases e : q = r
   ·subst e; exact .inr (Qj ..)
   ·exact .inl (Qh _ _ _ _ e)
  ·by_cases e : q = r
   ·subst e; rw [Qj] at hq; cases hq
   ·rw [Qh _ _ _ _ e] at hq; exact ⟨q, cap, hq⟩
 have hat : ∀ q b cap, Jb pl r .dead q = .at b cap → q ≠ r ∧ pl q = .at b cap := fun q b cap hq => by
  by_cases e : q = r
  ·subst e; rw [Qj] at hq; cases hq
  ·rw [Qh _ _ _ _ e] at hq; exact ⟨e, hq⟩
 have hH1 : HR im1 (Jb pl r .dead) w (H.set r none) := by
  refine ⟨fun q => ?_, fun b hb q cap hq => ?_, fun q b cap hq => hH.bound q b cap (hat q b cap hq).2, fun b hb => ?_, fun q q' b c c' h1 h2 => hH.inj q q' b c c' (hat _ _ _ h1).2 (hat _ _ _ h2).2, fun q hq => ?_, fun q hq => ?_, fun q b cap hq => ?_⟩
  ·rw [List.length_set, hH.len];by_cases e : q = r
   ·subst e; rw [Qj]; simp; exact (hH.len q).1 hlt
   ·rw [Qh _ _ _ _ e]
  ·obtain ⟨hne, hq⟩ := hat q b cap hq;rcases hb with hb | ⟨cap', hb⟩
   ·exact hH.apart b hb q cap hq
   ·exact hne (hH.inj q r b cap cap' hq hb)
  ·rcases hb with hb | ⟨cap', hb⟩
   ·exact hH.imb b hb
   ·exact hH.bound r b cap' hb
  ·by_cases e : q = r
   ·subst e; rw [List.getElem?_set_self hlt]
   ·rw [Qh _ _ _ _ e] at hq; rw [List.getElem?_set_ne (Ne.symm e)]; exact hH.dead q hq
  ·by_cases e : q = r
   ·subst e; rw [Qj] at hq; cases hq
   ·rw [Qh _ _ _ _ e] at hq; rw [List.getElem?_set_ne (Ne.symm e)]; exact hH.virt q hq
  ·obtain ⟨hne, hq⟩ := hat q b cap hq;obtain ⟨e, s, cs, cur, k1, k2, k3, k4, k5, k6⟩ := hH.row q b cap hq;exact ⟨e, s, cs, cur, by rw [List.getElem?_set_ne (Ne.symm hne)]; exact k1, k2, k3, k4, k5, fun j => (k6 j).mono hE hH.apart⟩
 refine ⟨im1, hH1, hE, fun b hb => hb.imp id fun ⟨cap, h⟩ => ⟨r, cap, h⟩, fun v c hv => ?_⟩
 induction hv with
 | any v => exact .any v
 | int k n => exact .int k n
 | bool b => exact .bool b
 | str s => exact .str s
 | nil => exact .nil
 | sl0 l a c => exact .sl0 _ a c
 | sl n l ad c vs hn hi hc hr ih => exact .sl n _ ad c vs hn (.inl hi) (fun j hj => hc j (by rwa [Zl] at hj)) (fun j => by rw [Kb]; exact ih j)
 | refAt q off n b cap c hp hc h0 =>
  simp only [sz];split
  ·rename_i e1; subst e1;obtain ⟨e', s', cs0, cur, k1, k2, k3, k4, k5, k6⟩ := hH.row q b cap hp;rw [hr] at k1;injection k1 with k1
   injection k1 with k1
   injection k1 with q1 q2 q3
   subst q3;refine .sl n _ _ c (fun j => cur.getD (off + j) undef) hc (.inr ⟨cap, hp⟩) (fun i hi => ?_) (fun i => ?_)
   ·rw [Xv]
    have : off + i < cs.length := by rw [List.length_drop] at hi; omega
    exact Yf k2 (by omega)
   ·rw [Qbk]; exact ((k6 _).clo (Yh hcs _)).mono (Ext.mk rfl rfl rfl (Nat.le_refl _) (fun b hb => .inl hb) (fun b hb => hE.imn b hb) hE.plo hE.pln hE.frame) hH.apart
  ·rename_i e1; exact .refAt q off n b cap c (by rw [Qh _ _ _ _ e1]; exact hp) hc h0
 | refVirt q hp =>
  simp only [sz];split
  ·exact .sl0 _ _ _
  ·rename_i e1; exact .refVirt q (by rw [Qh _ _ _ _ e1]; exact hp)
 | refDead q off n a c hp =>
  simp only [sz];split
  ·rename_i e1; subst e1; have := hH.dead q hp; rw [hr] at this; cases this
  ·rename_i e1; exact .refDead q off n a c (by rw [Qh _ _ _ _ e1]; exact hp)
 | agg l vs hl hr ih => exact .agg _ vs (by rw [Zl]; exact hl) (fun j => by rw [Kb]; exact ih j)
 | tup l vs hl hr ih => exact .tup _ vs (by rw [Zl]; exact hl) (fun j => by rw [Kb]; exact ih j)
 | ptrAt q off b cap hp =>
  simp only [sz];split
  ·rename_i e1; subst e1;obtain ⟨e', s', cs0, cur, k1, k2, k3, k4, k5, k6⟩ := hH.row q b cap hp;rw [hr] at k1;injection k1 with k1
   injection k1 with k1
   injection k1 with q1 q2 q3
   subst q3
   have := VR.rp (im := im1) (pl := Jb pl q .dead) (w := w) cs off ⟨b, 0, none⟩ (fun j => cur.getD j undef) (.inr ⟨cap, hp⟩) (fun j hj => by
    rw [Xv, Nat.zero_add]; exact Yf k2 (by omega)) (fun j => (k6 j).mono hE hH.apart)
   rwa [Xv, Nat.zero_add] at this
  ·rename_i e1; exact .ptrAt q off b cap (by rw [Qh _ _ _ _ e1]; exact hp)
 | ptrDead q off a hp =>
  simp only [sz];split
  ·rename_i e1; subst e1; have := hH.dead q hp; rw [hr] at this; cases this
  ·rename_i e1; exact .ptrDead q off a (by rw [Qh _ _ _ _ e1]; exact hp)
 | nilp => exact .nilp
 | rp l off ad vs hi hc hr ih => exact .rp _ off ad vs (.inl hi) (fun j hj => hc j (by rwa [Zl] at hj)) (fun j => by rw [Kb]; exact ih j)
 | fn f xs ys us vs hl hr hl' hr' ih ih' => exact .fn f _ _ us vs (by rw [Zl]; exact hl) (fun j => by rw [Kb]; exact ih j) (by rw [Zl]; exact hl') (fun j => by rw [Kb]; exact ih' j)
 | nilf => exact .nilf
theorem Fc.sealed {C : Ctx} {f : FuncId} {args : List V} {H : Qa} {K : V → Qa → Prop} {r : Nat} {e s : Nat} {cs : List V} (hrow : Qd H r = some ⟨e, s, cs⟩) (hcs : Qm cs = true) (h : Fc C f (szL r cs args) (H.set r none) K) : Fc C f args H K := by
 refine ⟨h.1, fun im pl w vs hvl hv hH => ?_⟩
 obtain ⟨im1, h1, h2, _, h3⟩ := Qbv hH hrow hcs
 have hcall := h.2 im1 (Jb pl r .dead) w vs (by rw [Zl]; exact hvl) (fun j => by rw [Kb]; exact h3 _ _ (hv j)) h1
 refine (callsIn_wide (n := 0)).1 ((callsIn_wide.2 hcall).mono fun e w' hp => ?_)
 cases e with
 | panicked _ => exact hp
 | outgrown => exact hp
 | returned vc =>
  obtain ⟨v, H', im', pl', k1, k2, k3, k4⟩ := hp;exact ⟨v, H', im', pl', k1, k2, k3, h2.trans k4⟩
theorem Fc.sealR {C : Ctx} {f : FuncId} {args : List V} {H : Qa} {K : V → Qa → Prop} (h : Fc C f args H fun v H' => ∃ r e s cs, Qd H' r = some ⟨e, s, cs⟩ ∧ Qm cs = true ∧ K (sz r cs v) (H'.set r none)) : Fc C f args H K := by
 refine ⟨h.1, fun im pl w vs hvl hv hH => ?_⟩
 refine (callsIn_wide (n := 0)).1 ((callsIn_wide.2 (h.2 im pl w vs hvl hv hH)).mono fun e w' hp => ?_)
 cases e with
 | panicked _ => exact hp
 | outgrown => exact hp
 | returned vc =>
  obtain ⟨v, H', im', pl', ⟨r, e, s, cs, hrow, hcs, hK⟩, k2, k3, k4⟩ := hp;obtain ⟨im1, h1, h2, _, h3⟩ := Qbv k3 hrow hcs;exact ⟨_, _, im1, _, hK, h3 _ _ k2, h1, k4.trans h2⟩
theorem Fc.val {C : Ctx} {f : FuncId} {args : List V} {Q : V → Qa → Prop} {u : V} (hu : clo u = true) (h : Fc C f args [] Q)
  (hv : ∀ im pl w v H c, Q v H → VR im pl w v c → HR im pl w H → ∃ im1 pl1 H1, HR im1 pl1 w H1 ∧ Ext im pl w im1 pl1 w ∧ VR im1 pl1 w u c) : Pu C f args u := by
 refine ⟨h.1, fun im pl w vs hl hvs hH => ?_⟩
 have hno : pl = Zh := by
  funext r
  have := hH.len r
  cases hp : pl r with
  | no => rfl
  | _ => rw [hp] at this; simp at this
 subst hno;refine (callsIn_wide (n := 0)).1 ((callsIn_wide.2 (h.2 im Zh w vs hl hvs hH)).mono fun e w' hp => ?_)
 cases e with
 | panicked _ => exact hp
 | outgrown => exact hp
 | returned vc =>
  obtain ⟨v, H', im', pl', k1, k2, k3, k4⟩ := hp;obtain ⟨im1, pl1, H1, q1, q2, q3⟩ := hv _ _ _ _ _ _ k1 k2 k3
  have := q1.sel (k4.trans q2) [] (by simp) (by simp)
  exact ⟨u, [], im1, _, ⟨rfl, rfl⟩, q3.clo hu, this.1, this.2⟩
theorem RetL.val {e s n : Nat} {cs : List V} {v : V} {H : Qa} (h : RetL e s H v n cs) (hc : Qm cs = true) {im : Nat → Prop} {pl : Nat → Place} {w : World} (hH : HR im pl w H) :
  ∃ im1 pl1 H1, HR im1 pl1 w H1 ∧ Ext im pl w im1 pl1 w ∧ (∀ c, VR im pl w v c → VR im1 pl1 w (.sl n cs) c) ∧ ∀ u c, clo u = true → VR im pl w u c → VR im1 pl1 w u c := by
 rcases h with ⟨rfl, rfl⟩ | ⟨rfl, rfl, rfl, rfl⟩ | ⟨rfl, rfl, hl⟩
 ·exact ⟨im, pl, [], hH, .refl _ _ _, fun c hv => hv, fun u c _ hv => hv⟩
 ·exact ⟨im, pl, [], hH, .refl _ _ _, fun c hv => by cases hv; exact .sl0 _ _ _, fun u c _ hv => hv⟩
 ·obtain ⟨im1, h1, h2, _, h3⟩ := Qbv hH (r := 0) (by rfl) hc
  refine ⟨im1, _, _, h1, h2, fun c hv => ?_, fun u c _ hv => hv.mono h2 hH.apart⟩
  have := h3 _ _ hv
  simpa [sz] using this
end Go.Bv
end
section
namespace Go.Bv
open Go.RowKit
structure Grow (w w' : World) : Prop where
 os : w'.os = w.os
 tape : w'.tape = w.tape
 output : w'.output = w.output
 size : w.heap.size ≤ w'.heap.size
 keep : ∀ b, b < w.heap.size → w'.heap[b]? = w.heap[b]?
structure Chg (F : Nat → Prop) (w : World) (F' : Nat → Prop) (w' : World) : Prop where
 size : w.heap.size ≤ w'.heap.size
 keep : ∀ b, b < w.heap.size → ¬ F b → w'.heap[b]? = w.heap[b]?
 new : ∀ b, F' b → F b ∨ w.heap.size ≤ b
abbrev JT := Nat → (Nat → Prop) → World → Prop
structure JOK (G : Nat → Prop) (J : JT) : Prop where
 good : ∀ k F w, J k F w → ∀ b, w.heap.size ≤ b → G b
 lt : ∀ k F w, J k F w → ∀ b, F b → b < w.heap.size
 grow : ∀ k F w w', J k F w → Grow w w' → J k F w'
abbrev Bnd (G im F : Nat → Prop) (w : World) : Prop := ∀ b, im b → (b < w.heap.size ∧ ¬ F b) ∧ G b
def Qfg (C : Ctx) (G : Nat → Prop) (l : Nat) (xs : List (List V)) (J : JT) : Prop :=
 ∀ k F w as im (vs : List Value), J k F w → xs[k]? = some as → as.length = vs.length → Bnd G im F w → (∀ j, VR im Zh w (nth as j) (vs.getD j undef)) →
  YieldAt (FW none) 0 C.P l vs.toArray w fun e W' => ∃ b F', e = .returned (.bool b) ∧ J (if b = true then k + 1 else xs.length + 1) F' W' ∧ Chg F w F' W'
def Gen (C : Ctx) (g : FuncId) (lb : List V) (xs : List (List V)) : Prop :=
 Qmt C.P g ∧ (∀ as ∈ xs, Qm as = true) ∧ ∀ (G im F : Nat → Prop) (w : World) (lbv : List Value) (l : Nat) (J : JT), lb.length = lbv.length → (∀ j, VR im Zh w (nth lb j) (lbv.getD j undef)) → Bnd G im F w → JOK G J → Qfg C G l xs J → J 0 F w →
  Calls C.P g ([Value.func (.yield l) #[] #[]] ++ lbv).toArray w fun e W' => (∃ v, e = .returned v) ∧ ∃ k F', (k = xs.length ∨ k = xs.length + 1) ∧ J k F' W'
def dk (k : Nat) : Nat → Place := fun r => if r < k then .dead else .no
theorem Qaz {k r b cap : Nat} : dk k r ≠ .at b cap := by unfold dk; split <;> simp
theorem Qvw {G im F : Nat → Prop} {w : World} (h : Bnd G im F w) (k : Nat) : HR im (dk k) w (List.replicate k none) := by
 refine ⟨fun r => ?_, fun b hb r cap => Qaz, fun r b cap h => (Qaz h).elim, fun b hb => (h b hb).1.1, fun r r' b c c' h => (Qaz h).elim, fun r hr => ?_, fun r hr => ?_, fun r b cap h => (Qaz h).elim⟩
 ·simp only [List.length_replicate, dk]; split <;> simp [*]
 ·unfold dk at hr; split at hr
  ·rename_i hlt; simp [hlt]
  ·cases hr
 ·unfold dk at hr; split at hr <;> cases hr
theorem Qx7 {im : Nat → Prop} {w : World} {k m : Nat} (h : k ≤ m) : Ext im (dk k) w im (dk m) w := by
 refine ⟨rfl, rfl, rfl, Nat.le_refl _, fun b hb => hb, fun b hb => .inl hb, fun r hr => .inl ?_, fun r b cap h => (Qaz h).elim, fun _ _ _ => rfl⟩
 unfold dk at hr ⊢;split at hr
 ·rw [if_pos (by omega), if_pos (by omega)]
 ·exact (hr rfl).elim
structure InvY (G : Nat → Prop) (J : JT) (ts : List V) (H : Qa) (a : Act) (w : World) : Prop where
 h : ∃ im F, H = List.replicate H.length none ∧ TR im (dk H.length) w ts a.tmps ∧ a.defers = [] ∧ Bnd G im F w ∧ J H.length F w
def Qgo (G : Nat → Prop) (J : JT) (Q : Exit → List V → Qa → Prop) : Exit → Act → World → Prop
 | .panic _, _, _ => False
 | .outgrown, _, _ => False
 | e, a, w => ∃ ts H, Q e ts H ∧ InvY G J ts H a w
def TY (C : Ctx) (G : Nat → Prop) (J : JT) (c : Code) (Q : Exit → List V → Qa → Prop) (ts : List V) (H : Qa) : Prop :=
 ∀ a w, InvY G J ts H a w → c.wpIn (FW none) 0 C.P (Qgo G J Q) a w
def cwY (l : Nat) (xs : List (List V)) : CW := fun fv args H K =>
 match fv with
 | .fn (.yield m) [] [] => m = l ∧ xs[H.length]? = some args ∧ K (.bool true) (H ++ [none]) ∧ K (.bool false) (H ++ List.replicate (xs.length + 1 - H.length) none)
 | _ => False
theorem Qr4 (l : Nat) (xs : List (List V)) (H0 : Qa) : CWok (cwY l xs) H0 := by
 refine ⟨?_, ?_, ?_⟩
 ·intro fv args H K K' hK h;unfold cwY at h ⊢;split at h
  ·exact ⟨h.1, h.2.1, hK _ _ h.2.2.1, hK _ _ h.2.2.2⟩
  ·exact h.elim
 ·intro fv args H p h;unfold cwY at h;split at h
  ·exact h.2.2.1
  ·exact h.elim
 ·intro fv args H K h;unfold cwY at h ⊢;split at h
  ·exact ⟨h.1, h.2.1, ⟨.of (.app _ _), h.2.2.1⟩, ⟨.of (.app _ _), h.2.2.2⟩⟩
  ·exact h.elim
def okY (o : Oper) : Bool := Xn o.op || Xf o.op || (match o.op with | .call c => (match c.callee with | .value _ => true | _ => false) | _ => false)
def Qki (ops : Array Oper) : Bool := ops.toList.all okY
theorem Ql6 {ops : Array Oper} (h : Qki ops = true) {i : Nat} {o : Oper} (ho : ops[i]? = some o) : okY o = true := by
 simp only [Qki, List.all_eq_true] at h;exact h o (by simpa using Array.mem_of_getElem? ho)
theorem Qon {y : Ty} {op : BinOp} {a b : V} {H : Qa} {K K' : V → Prop} (hK : ∀ v, K v → K' v) (h : Kz y op a b H K) : Kz y op a b H K' := by
 by_cases hb : Kl b = true
 ·obtain ⟨p, v, hd⟩ := Qji y op a b H hb
  have := (hd K).1 h
  exact (hd K').2 ⟨this.1, hK _ this.2⟩
 ·cases b <;> simp [Kl] at hb
  revert h
  cases a <;> simp only [Kz] <;> try exact id
  ·rintro ⟨h1, h2⟩;refine ⟨h1, ?_⟩
   revert h2
   cases op <;> first | exact hK _ | exact id
  ·rintro ⟨h1, h2⟩;refine ⟨h1, ?_⟩
   revert h2
   cases op <;> first | exact fun h => ⟨hK _ h.1, fun e => hK _ (h.2 e)⟩ | exact id
  ·rintro ⟨h1, h2, h3⟩;refine ⟨h1, h2, ?_⟩
   revert h3
   cases op <;> first | exact fun h => ⟨hK _ h.1, fun e => hK _ (h.2 e)⟩ | exact id
theorem Qqh {C : Ctx} {cw cw' : CW} {op : Op} {ts : List V} {H : Qa} {K : V → Qa → Prop} (hq : Xn op = true ∨ Xf op = true) (h : opc C.ty cw op ts H K) : opc C.ty cw' op ts H fun v H' => H' = H ∧ K v H := by
 by_cases hbin : ∃ o t x y t', op = .binOp o t x y t'
 ·obtain ⟨o, t, x, y, t', rfl⟩ := hbin;exact ⟨h.1, Qon (fun v hv => ⟨rfl, hv⟩) h.2⟩
 ·have hnil : Yb op ts := by
   unfold Yb;split
   ·exact (hbin ⟨_, _, _, _, _, rfl⟩).elim
   ·trivial
  have h0 : opc C.ty cw' op ts H fun v _ => K v H := by
   cases op with
   | call c =>
    rcases hq with hq | hq
    ·simp only [Xn] at hq;simp only [opc] at h ⊢;cases hc : c.callee with
     | builtin b =>
      rw [hc] at h hq;simp only at h ⊢
      revert h
      generalize c.argTypes.toList = ats;generalize (c.args.toList.map (ev ts)) = args;cases b <;> simp at hq
      all_goals
       intro h;unfold Qe at h ⊢;split at h <;> first | exact h | exact h.elim | (simp_all)
     | value f => rw [hc] at hq; simp at hq
     | invoke _ _ => rw [hc] at hq; simp at hq
    ·simp [Xf] at hq
   | buildSlice t n ps =>
    have hb : Qa9 ps.toList = true := by simpa [Xn, Xf] using hq
    simp only [opc, opw, hb, Qef] at h ⊢;exact h
   | _ => first | exact h | (simp [Xn, Xf] at hq)
  obtain ⟨p, v, hd⟩ := Qcs (C := C) (cw := cw') hq ts H hnil
  have := (hd fun v => K v H).1 h0
  have h1 := (hd fun v => H = H ∧ K v H).2 ⟨this.1, rfl, this.2⟩
  exact Qke (C := C) (H0 := H) (K := fun v H' => H' = H ∧ K v H) (hq.imp (fun h => ⟨h, (Same.refl H).stand⟩) (fun h => ⟨h, .refl H⟩)) hnil h1
theorem Qzo {C : Ctx} {l : Nat} {xs : List (List V)} {G : Nat → Prop} {J : JT} (hx : ∀ as ∈ xs, Qm as = true) (hJ : JOK G J) (hY : Qfg C G l xs J) {R : Exit → Act → World → Prop} (o : Oper) (hok : okY o = true) (ts : List V) (H : Qa) (a : Act) (w : World) (KK : V → Qa → Prop) (next : Act → World → Prop)
  (h : opc C.ty (cwY l xs) o.op ts H KK) (hI : InvY G J ts H a w)
  (hn : ∀ v vc H' w', KK v H' → InvY G J (Xd ts o.dst v) H' (a.put o.dst vc) w' → next (a.put o.dst vc) w') : o.wpIn (FW none) 0 C.P a w next R := by
 obtain ⟨im, F, e1, e2, e3, e4, e5⟩ := hI.h
 have quiet : (Xn o.op = true ∨ Xf o.op = true) → o.wpIn (FW none) 0 C.P a w next R := by
  intro hq
  have h1 := Qqh (cw' := cwF C) hq h
  have hH := Qvw e4 H.length
  rw [← e1] at hH;refine Jg (Yy C none) h1 e2 hH fun v vc H' im' pl' w' k1 k2 k3 k4 => ?_
  obtain ⟨rfl, k1⟩ := k1
  have hpl : pl' = dk H'.length := by
   funext r;unfold dk;split
   ·rename_i hlt
    have h2 : dk H'.length r = .dead := by unfold dk; rw [if_pos hlt]
    rcases k4.plo r (by rw [h2]; simp) with h3 | h3
    ·rw [h3, h2]
    ·exact h3
   ·rename_i hlt
    have := k3.len r
    cases hp : pl' r with
    | no => rfl
    | _ => rw [hp] at this; simp at this; omega
  subst hpl
  have hg : Grow w w' := ⟨k4.os, k4.tape, k4.output, k4.size, fun b hb => k4.frame b hb fun r cap => Qaz⟩
  refine hn _ _ _ _ k1 ⟨im', F, e1, (e2.mono k4 fun b _ r cap => Qaz).put k2 _, by rw [Qv]; exact e3, fun b hb => ⟨⟨k3.imb b hb, fun hF => ?_⟩, ?_⟩, hJ.grow _ _ _ _ e5 hg⟩
  ·rcases k4.imn b hb with h2 | h2 | ⟨r, cap, h2⟩
   ·exact (e4 b h2).1.2 hF
   ·have := hJ.lt _ _ _ e5 b hF; omega
   ·exact Qaz h2
  ·rcases k4.imn b hb with h2 | h2 | ⟨r, cap, h2⟩
   ·exact (e4 b h2).2
   ·exact hJ.good _ _ _ e5 b h2
   ·exact (Qaz h2).elim
 simp only [okY, Bool.or_eq_true] at hok;rcases hok with (hok | hok) | hok
 ·exact quiet (.inl hok)
 ·exact quiet (.inr hok)
 ·split at hok
  ·rename_i c ho;split at hok
   ·rename_i f hc;simp only [ho, opc, hc] at h;unfold cwY at h;split at h
    ·rename_i m hf;obtain ⟨rfl, h1, h2, h3⟩ := h
     have hfv := Qdx e2 f
     rw [hf] at hfv
     have hmem : (c.args.toList.map (ev ts)) ∈ xs := List.mem_of_getElem? h1
     have hy := hY H.length F w _ im (c.args.map a.eval).toList e5 h1 (by simp) e4 (fun j => by
      have := Qcz e2 c.args
      exact (this.2 j).clo (Yh (hx _ hmem) j))
     obtain ⟨fn, tmps, assign, body, hy1, hy2⟩ := hy;refine ⟨fun _ _ => trivial, ?_⟩
     rw [Oper.semAt_eq none a.eval o (fun c' => by rw [ho]; simp)]
     have hev : a.eval f = .func (.yield m) #[] #[] := by
      cases hfe : a.eval f with
      | func g us vs =>
       rw [hfe] at hfv;generalize hus : us = us' at hfv;generalize hvs : vs = vs' at hfv;cases hfv with
       | fn _ _ _ us vs hl1 hr1 hl2 hr2 =>
        have hu : us = [] := List.eq_nil_of_length_eq_zero hl1.symm
        have hv : vs = [] := List.eq_nil_of_length_eq_zero hl2.symm
        subst hu hv
        rfl
      | _ => rw [hfe] at hfv; cases hfv
     have hrun : (execOp a.eval o).run C.P w = .ok (.round m fn tmps assign body) w := by
      simp only [execOp, ho, resolve, hc, Sem.run_bind, Sem.run_pure, Result.andThen_ok, hev, Deferred.ofValue, invoke];rw [Array.toArray_toList] at hy1;simp only [Sem.run_bind, hy1, Result.andThen_ok, List.append_toArray, Array.append_empty, Array.empty_append] <;> simpa using hy1
     rw [hrun, Oper.uponIn_round];refine ⟨(fun h => by cases h), hy2.mono ?_⟩
     rintro e w' ⟨b, F', rfl, k1, k2⟩
     have hb' : Bnd G im F' w' := fun b hb => ⟨⟨Nat.lt_of_lt_of_le (e4 b hb).1.1 k2.size, fun hF => by
      rcases k2.new b hF with h4 | h4
      ·exact (e4 b hb).1.2 h4
      ·have := (e4 b hb).1.1; omega⟩, (e4 b hb).2⟩
     have hw : ∀ (ad : Addr) v, im ad.block → w.cell? ad = some v → w'.cell? ad = some v := fun ad v hi hc =>
      Qb0 hc fun hlt => k2.keep _ hlt (e4 _ hi).1.2
     have hTR : ∀ m, H.length ≤ m → TR im (dk m) w' ts a.tmps := fun m hm =>
      ⟨e2.1, fun i => (((e2.mono (Qx7 hm) fun b _ r cap => Qaz)).2 i).world hw⟩
     have hklt : H.length < xs.length := (List.getElem?_eq_some_iff.1 h1).1
     cases b with
     | true =>
      refine hn _ _ _ _ h2 ⟨im, F', ?_, ?_, by rw [Qv]; exact e3, hb', ?_⟩
      ·rw [List.length_append, List.length_singleton, List.replicate_succ', ← e1]
      ·refine TR.put (hTR _ (by simp)) (.bool true) _
      ·simpa using k1
     | false =>
      refine hn _ _ _ _ h3 ⟨im, F', ?_, ?_, by rw [Qv]; exact e3, hb', ?_⟩
      ·rw [List.length_append, List.length_replicate, ← List.replicate_append_replicate, ← e1]
      ·refine TR.put (hTR _ (by simp)) (.bool false) _
      ·have : H.length + (xs.length + 1 - H.length) = xs.length + 1 := by omega
       simpa [this] using k1
    ·exact h.elim
   ·cases hok
  ·cases hok
theorem InvY.skip {G : Nat → Prop} {J : JT} {ts : List V} {H : Qa} {a : Act} {w : World} (h : InvY G J ts H a w) (d : Option Tmp) : InvY G J (Xd ts d (.tup [])) H (a.put d (.tuple [].toArray)) w := by
 obtain ⟨im, F, e1, e2, e3, e4, e5⟩ := h.h;exact ⟨im, F, e1, e2.put (.tup [] [] rfl fun j => by simp [nth, List.getD]; exact .any _) d, by rw [Qv]; exact e3, e4, e5⟩
theorem InvY.now {G : Nat → Prop} {J : JT} {Q : Exit → List V → Qa → Prop} {ts : List V} {H : Qa} {a : Act} {w : World} (h : InvY G J ts H a w) {e : Exit} (hq : Q e ts H) (hp : ∀ c, e ≠ .panic c) (ho : e ≠ .outgrown) : Qgo G J Q e a w := by
 cases e with
 | panic c => exact absurd rfl (hp c)
 | outgrown => exact absurd rfl ho
 | _ => exact ⟨ts, H, hq, h⟩
theorem Qzj {C : Ctx} {l : Nat} {xs : List (List V)} {G : Nat → Prop} {J : JT} (hx : ∀ as ∈ xs, Qm as = true) (hJ : JOK G J) (hY : Qfg C G l xs J) {ops : Array Oper} (hok : Qki ops = true) {K : List V → Qa → Prop} {R : Exit → Act → World → Prop} (hK : ∀ ts H a w, K ts H → InvY G J ts H a w → R .normal a w) :
  ∀ (m : List Oper) (k : Nat) (ts : List V) (H : Qa) (w : World) (a : Act), ops.toList.drop k = m → Jc C.ty (cwY l xs) ops K m ts H → InvY G J ts H a w → wpOpsIn (FW none) 0 C.P ops R (List.range' k m.length) a w := by
 intro m
 induction m with
 | nil => intro k ts H w a hl h hr; exact hK ts H a w h hr
 | cons o m ih =>
  intro k ts H w a hl h hr
  have ho : ops[k]? = some o := by
   have : (ops.toList.drop k)[0]? = some o := by rw [hl]; rfl
   simpa [List.getElem?_drop] using this
  have hl' : ops.toList.drop (k + 1) = m := by
   have : (ops.toList.drop k).tail = m := by rw [hl]; rfl
   simpa [List.tail_drop] using this
  simp only [List.length_cons, List.range'_succ, wpOpsIn, ho];simp only [Jc] at h;obtain ⟨im, F, e1, e2, e3, e4, e5⟩ := hr.h;rcases Jp (Ko h) e2 with ⟨hw, h⟩ | ⟨hw, h⟩
  ·rw [if_pos hw];exact Qzo hx hJ hY o (Ql6 hok ho) ts H a w _ _ h hr fun v vc H' w' k1 k2 => ih (k + 1) _ H' w' _ hl' k1 k2
  ·rw [if_neg (by simp [hw])]
   exact ⟨fun _ _ => trivial, ih (k + 1) _ H w _ hl' h (hr.skip _)⟩
theorem InvY.drawn {G : Nat → Prop} {J : JT} (hJ : JOK G J) {ts : List V} {H : Qa} {a : Act} {w : World} (h : InvY G J ts H a w) : InvY G J ts H a { w with drawn := w.drawn + 1 } := by
 obtain ⟨im, F, e1, e2, e3, e4, e5⟩ := h.h;exact ⟨im, F, e1, ⟨e2.1, fun i => VR.world (w := w) (w' := { w with drawn := w.drawn + 1 }) (fun _ _ _ (h : w.cell? _ = some _) => h) (e2.2 i)⟩, e3, e4, hJ.grow _ _ _ _ e5 ⟨rfl, rfl, rfl, Nat.le_refl _, fun _ _ => rfl⟩⟩
theorem Qot {C : Ctx} {l : Nat} {xs : List (List V)} {G : Nat → Prop} {J : JT} (hx : ∀ as ∈ xs, Qm as = true) (hJ : JOK G J) (hY : Qfg C G l xs J) {id : Nat} {ops : Array Oper} (hok : Qki ops = true) {Q : Exit → List V → Qa → Prop} {ts : List V} {H : Qa}
  (h : Jc C.ty (cwY l xs) ops (Q .normal) ops.toList ts H) : TY C G J (.region id ops false) Q ts H := by
 intro a w hr;refine wpIn_region ?_;rw [List.range_eq_range']
 have := Qzj hx hJ hY hok (K := Q .normal) (R := Qgo G J Q) (fun ts H a w k1 k2 => ⟨ts, H, k1, k2⟩) ops.toList 0 ts H w a (by simp) h hr
 simpa using this
def Qau : Op → Bool
 | .alloc _ => true
 | _ => false
def Qiy (o : Oper) : Bool := o.guard.isNone && (o.dst.isSome && Qau o.op)
def Qmd (ops : Array Oper) : Bool := ops.toList.any Qiy
def Qs4 (Q : Exit → List V → Qa → Prop) (H : Qa) (ts1 : List V) (H1 : Qa) : Prop :=
 ∃ (e s : Nat) (cs : List V) (N : Nat) (m : List (Nat × V)), H1 = H ++ [some ⟨e, s, cs⟩] ∧ Qm cs = true ∧ ts1.length = N ∧ (∀ p ∈ m, nth (szL H.length cs ts1) p.1 = p.2 ∧ clo p.2 = true) ∧ Q .normal (env N m) H
def Qzw (im0 : Nat → Prop) (k : Nat) (w0 : World) (ts : List V) (H : Qa) (a : Act) (w : World) : Prop := ∃ im pl, HR im pl w H ∧ TR im pl w ts a.tmps ∧ a.defers = [] ∧ Ext im0 (dk k) w0 im pl w
theorem Qzk {C : Ctx} {im0 : Nat → Prop} {kk : Nat} {w0 : World} {ops : Array Oper} {K : List V → Qa → Prop} {R : Exit → Act → World → Prop} (hK : ∀ ts H a w, K ts H → Qzw im0 kk w0 ts H a w → R .normal a w) :
  ∀ (m : List Oper) (k : Nat) (ts : List V) (H : Qa) (w : World) (a : Act), ops.toList.drop k = m → Jc C.ty (cwF C) ops K m ts H → Qzw im0 kk w0 ts H a w → wpOpsIn (FW none) 0 C.P ops R (List.range' k m.length) a w := by
 intro m
 induction m with
 | nil => intro k ts H w a hl h hr; exact hK ts H a w h hr
 | cons o m ih =>
  intro k ts H w a hl h hr
  have ho : ops[k]? = some o := by
   have : (ops.toList.drop k)[0]? = some o := by rw [hl]; rfl
   simpa [List.getElem?_drop] using this
  have hl' : ops.toList.drop (k + 1) = m := by
   have : (ops.toList.drop k).tail = m := by rw [hl]; rfl
   simpa [List.tail_drop] using this
  simp only [List.length_cons, List.range'_succ, wpOpsIn, ho];simp only [Jc] at h;obtain ⟨im, pl, e1, e2, e3, e4⟩ := hr;rcases Jp (Ko h) e2 with ⟨hw, h⟩ | ⟨hw, h⟩
  ·rw [if_pos hw];refine Jg (Yy C none) h e2 e1 fun v vc H' im' pl' w' k1 k2 k3 k4 => ?_
   exact ih (k + 1) _ H' w' _ hl' k1 ⟨im', pl', k3, (e2.mono k4 e1.apart).put k2 _, by rw [Qv]; exact e3, e4.trans k4⟩
  ·rw [if_neg (by simp [hw])]
   refine ⟨fun _ _ => trivial, ih (k + 1) _ H w _ hl' h ⟨im, pl, e1, ?_, by rw [Qv]; exact e3, e4⟩⟩
   exact e2.put (.tup [] [] rfl fun j => by simp [nth, List.getD]; exact .any _) _
theorem Qyl {C : Ctx} {G : Nat → Prop} {J : JT} (hJ : JOK G J) {id : Nat} {ops : Array Oper} {Q : Exit → List V → Qa → Prop} {ts : List V} {H : Qa} (h : Jc C.ty (cwF C) ops (Qs4 Q H) ops.toList ts H) : TY C G J (.region id ops false) Q ts H := by
 intro a w hr;obtain ⟨im, F, e1, e2, e3, e4, e5⟩ := hr.h;refine wpIn_region ?_;rw [List.range_eq_range']
 have hH := Qvw e4 H.length
 rw [← e1] at hH
 have := Qzk (C := C) (im0 := im) (kk := H.length) (w0 := w) (K := Qs4 Q H) (R := Qgo G J Q) (fun ts1 H1 a1 w1 k1 k2 => ?_) ops.toList 0 ts H w a (by simp) h ⟨im, dk H.length, hH, e2, e3, .refl _ _ _⟩
 ·simpa using this
 ·obtain ⟨e, s, cs, N, m, rfl, hc, hN, hm, hq⟩ := k1;obtain ⟨im1, pl1, g1, g2, g3, g4⟩ := k2;obtain ⟨im2, q1, q2, _, q3⟩ := Qbv g1 (Zq _ _) hc
  have hE := g4.trans q2
  refine ⟨_, H, hq, ⟨im2, F, e1, ⟨by rw [Zr, ← hN]; exact g2.1, fun j => ?_⟩, g3, fun b hb => ?_, ?_⟩⟩
  ·rw [Qbx];unfold cif;split
   ·rcases Qcy m j with h1 | h1
    ·rw [h1]; exact .any _
    ·obtain ⟨h2, h3⟩ := hm _ h1;simp only at h2 h3;rw [← h2, Kb];rw [Kb] at h2;exact (q3 _ _ (g2.2 j)).clo (by rw [h2]; exact h3)
   ·exact .any _
  ·refine ⟨⟨q1.imb b hb, fun hF => ?_⟩, ?_⟩
   ·rcases hE.imn b hb with h2 | h2 | ⟨r, cap, h2⟩
    ·exact (e4 b h2).1.2 hF
    ·have := hJ.lt _ _ _ e5 b hF; omega
    ·exact Qaz h2
   ·rcases hE.imn b hb with h2 | h2 | ⟨r, cap, h2⟩
    ·exact (e4 b h2).2
    ·exact hJ.good _ _ _ e5 b h2
    ·exact (Qaz h2).elim
  ·exact hJ.grow _ _ _ _ e5 ⟨hE.os, hE.tape, hE.output, hE.size, fun b hb => hE.frame b hb fun r cap => Qaz⟩
theorem Qvi {C : Ctx} (hm : C.P.follows .mixedOrders = true) {l : Nat} {xs : List (List V)} {G : Nat → Prop} {J : JT} (hx : ∀ as ∈ xs, Qm as = true) (hJ : JOK G J) (hY : Qfg C G l xs J) {id : Nat} {ops : Array Oper} (hok : Qki ops = true) (hdr : Jw ops = true) {Q : Exit → List V → Qa → Prop} {ts : List V} {H : Qa}
  (h : Ju C (cwY l xs) ops H (Q .normal) ops.toList ts H) : TY C G J (.region id ops true) Q ts H := by
 intro a w hr
 have hk : Xw ops = true := by simp only [Jw, Bool.and_eq_true] at hdr; exact hdr.1
 refine wpIn_region_any hm ?_
 have hx' := Qg3 (Qr4 l xs H) hk ops.toList 0 ts H (by simp) h
 refine Qfe (Qr4 l xs H) (ro := none) (ops := ops) (H0 := H) (K := Q .normal) (R := Qgo G J Q) (Inv := InvY G J) (by simp only [Jw, Bool.and_eq_true] at hdr; exact hdr.1) (fun _ => True) (Qcc hdr _) ?_ ?_ ?_ ?_
  ops.size (List.range' 0 ops.toList.length) _ ts H _ a (fun _ _ => trivial) ⟨by simp, ?_, fun i => ?_, fun i o ho hl => ?_⟩ (by simp) (.inl (.refl _)) hx' (hr.drawn hJ)
 ·rintro ts' H' a' w' h1;obtain ⟨im, F, e1, e2, _⟩ := h1.h;exact ⟨im, _, e2⟩
 ·intro i o ho ts' H' a' w' KK next h1 h2 hnext;exact Qzo hx hJ hY o (Ql6 hok ho) ts' H' a' w' KK next h1 h2 hnext
 ·exact fun ts' H' a' w' d h1 => h1.skip d
 ·exact fun a' w' ts' H' k1 k2 => ⟨ts', H', k1, k2⟩
 ·exact List.pairwise_lt_range' ..
 ·simp only [List.mem_range'_1, Nat.zero_le, true_and, Nat.zero_add, Array.length_toList];simp only [Array.getD_eq_getD_getElem?, Array.getElem?_replicate];constructor
  ·intro h; refine ⟨h, ?_⟩; simp [h]
  ·exact fun h => h.1
 ·exfalso;simp only [Array.getD_eq_getD_getElem?, Array.getElem?_replicate] at hl
  split at hl <;> simp at hl
theorem TY.mono {C : Ctx} {G : Nat → Prop} {J : JT} {c : Code} {Q Q' : Exit → List V → Qa → Prop} {ts : List V} {H : Qa} (h : TY C G J c Q ts H) (hq : ∀ e ts H, Q e ts H → Q' e ts H) : TY C G J c Q' ts H :=
 fun a w hr => wpIn_mono (h a w hr) fun e a w hp => by
  cases e with
  | panic c => exact hp
  | outgrown => exact hp
  | _ => obtain ⟨ts, H, h1, h2⟩ := hp; exact ⟨ts, H, hq _ _ _ h1, h2⟩
theorem Qsv {C : Ctx} {G : Nat → Prop} {J : JT} {x y : Code} {Q : Exit → List V → Qa → Prop} {ts : List V} {H : Qa} (h : TY C G J x (Qar (TY C G J y Q) Q) ts H) : TY C G J (.seq x y) Q ts H := by
 intro a w hr;refine wpIn_seq (wpIn_mono (h a w hr) fun e a' w' hp => ?_)
 cases e with
 | normal => obtain ⟨ts', H', k1, k2⟩ := hp; exact k1 a' w' k2
 | _ => exact hp
theorem Qmr {C : Ctx} {G : Nat → Prop} {J : JT} {c : Operand} {x y : Code} {Q : Exit → List V → Qa → Prop} {ts : List V} {H : Qa} {b : Bool} (hc : ev ts c = .bool b) (ht : b = true → TY C G J x Q ts H) (hf : b = false → TY C G J y Q ts H) : TY C G J (.cond c x y) Q ts H := by
 intro a w hr;obtain ⟨im, F, e1, e2, e3, e4, e5⟩ := hr.h
 have hv := Qdx e2 c
 rw [hc] at hv;cases hq : a.eval c with
 | bool b' =>
  rw [hq] at hv;cases hv;exact wpIn_cond_split hq (fun e => ht e a w hr) (fun e => hf e a w hr)
 | _ => rw [hq] at hv; cases hv
theorem Qjp {C : Ctx} {G : Nat → Prop} {J : JT} {id : Nat} {c : Code} {Q : Exit → List V → Qa → Prop} {ts : List V} {H : Qa} (h : TY C G J c (Xy id Q) ts H) : TY C G J (.block id c) Q ts H := by
 intro a w hr;refine wpIn_block (wpIn_mono (h a w hr) fun e a' w' hp => ?_)
 cases e with
 | exit id' =>
  obtain ⟨ts', H', k1, k2⟩ := hp;simp only [Xy] at k1;simp only [Exit.inBlock];split
  ·rename_i he; rw [if_pos he] at k1; exact ⟨ts', H', k1, k2⟩
  ·rename_i he; rw [if_neg he] at k1; exact ⟨ts', H', k1, k2⟩
 | _ => exact hp
theorem Qvh {C : Ctx} {G : Nat → Prop} {J : JT} {c : Code} {Q : Exit → List V → Qa → Prop} {ts : List V} {H : Qa} (n : Nat) (h : Qcx (TY C G J c) Q n ts H) : TY C G J (.loop c) Q ts H := by
 intro a w hr b k cs hro hb hroom
 have key : ∀ n ts H w a, Qcx (TY C G J c) Q n ts H → InvY G J ts H a w →
   ∃ e a' w', Qgo G J Q e a' w' ∧ ArrivesIn (Machine.fenced C.P (FW none)) C.P (lone (b.atR a (.code c :: .inLoop c :: k)) cs w) b k cs e a' w' := by
  intro n
  induction n with
  | zero => intro ts H w a h; exact h.elim
  | succ n ih =>
   intro ts H w a h hr;obtain ⟨e, a₁, w₁, hq, harr⟩ := h a w hr b (.inLoop c :: k) cs hro hb hroom;cases e with
   | normal =>
    obtain ⟨ts', H', k1, k2⟩ := hq;obtain ⟨e₂, a₂, w₂, hq₂, harr₂⟩ := ih ts' H' w₁ a₁ k1 k2;exact ⟨e₂, a₂, w₂, hq₂, .of_steps (StepsIn.trans harr (.one (fenced_calm hb hroom rfl) stepR_inLoop)) harr₂⟩
   | exit id => exact ⟨.exit id, a₁, w₁, hq, .pass (x := .inLoop c) rfl (fun _ _ => .inl (by simp)) harr⟩
   | goto l => exact ⟨.goto l, a₁, w₁, hq, .pass (x := .inLoop c) rfl (fun _ _ => .inl (by simp)) harr⟩
   | ret => exact ⟨.ret, a₁, w₁, hq, .pass (x := .inLoop c) rfl (fun _ _ => .inl (by simp)) harr⟩
   | panic ch => exact hq.elim
   | outgrown => exact hq.elim
 obtain ⟨e, a', w', hq, harr⟩ := key n ts H w a h hr;exact ⟨e, a', w', hq, .of_steps (.one (fenced_calm hb hroom rfl) stepR_loop) harr⟩
theorem Qjo {C : Ctx} {G : Nat → Prop} {J : JT} {c : Code} {Q : Exit → List V → Qa → Prop} (I : Nat → List V → Qa → Prop) (step : ∀ n ts H, I n ts H → TY C G J c (Qar (fun ts' H' => ∃ m, m < n ∧ I m ts' H') Q) ts H) {n : Nat} {ts : List V} {H : Qa} (h : I n ts H) : TY C G J (.loop c) Q ts H := by
 have key : ∀ k n ts H, n < k → I n ts H → Qcx (TY C G J c) Q k ts H := by
  intro k
  induction k with
  | zero => intro n ts H hn; omega
  | succ k ih =>
   intro n ts H hn h;refine (step n ts H h).mono fun e ts' H' hq => ?_
   cases e with
   | normal => obtain ⟨m, hm, hI⟩ := hq; exact ih m ts' H' (by omega) hI
   | _ => exact hq
 exact Qvh (n + 1) (key (n + 1) n ts H (by omega) h)
theorem Qlq {C : Ctx} {G : Nat → Prop} {J : JT} {c : Code} {Q : Exit → List V → Qa → Prop} {ts : List V} {H : Qa} {N : Nat} (m : List (Nat × V)) (hL : ts.length = N) (hl : ∀ p ∈ m, nth ts p.1 = p.2) (h : TY C G J c Q (env N m) H) : TY C G J c Q ts H := by
 intro a w hr;obtain ⟨im, F, e1, e2, e3, e4, e5⟩ := hr.h;refine h a w ⟨im, F, e1, ⟨by rw [Zr, ← hL]; exact e2.1, fun j => ?_⟩, e3, e4, e5⟩
 rw [Qbx];unfold cif;split
 ·rcases Qcy m j with h1 | h1
  ·rw [h1]; exact .any _
  ·have := hl _ h1
   simp only at this;rw [← this]; exact e2.2 j
 ·exact .any _
def wpY (C : Ctx) (G : Nat → Prop) (l : Nat) (xs : List (List V)) (J : JT) : Code → (Exit → List V → Qa → Prop) → List V → Qa → Prop
 | .skip, Q, ts, H => Q .normal ts H
 | .region _ ops draw, Q, ts, H => (Qmd ops = true ∧ draw = false ∧ Jc C.ty (cwF C) ops (Qs4 Q H) ops.toList ts H) ∨ (Qki ops = true ∧ match draw with
  | false => Jc C.ty (cwY l xs) ops (Q .normal) ops.toList ts H
  | true => Jw ops = true ∧ Ju C (cwY l xs) ops H (Q .normal) ops.toList ts H)
 | .seq x y, Q, ts, H => wpY C G l xs J x (Qar (wpY C G l xs J y Q) Q) ts H
 | .cond c x y, Q, ts, H => Qbe (ev ts c) (wpY C G l xs J x Q ts H) (wpY C G l xs J y Q ts H)
 | .block id c, Q, ts, H => wpY C G l xs J c (Xy id Q) ts H
 | .loop c, Q, ts, H => TY C G J (.loop c) Q ts H
 | .exit id, Q, ts, H => Q (.exit id) ts H
 | .ret, Q, ts, H => Q .ret ts H
 | _, _, _, _ => False
theorem Qf1 {C : Ctx} (hm : C.P.follows .mixedOrders = true) {l : Nat} {xs : List (List V)} {G : Nat → Prop} {J : JT} (hx : ∀ as ∈ xs, Qm as = true) (hJ : JOK G J) (hY : Qfg C G l xs J) : ∀ (c : Code) (Q : Exit → List V → Qa → Prop) (ts : List V) (H : Qa), wpY C G l xs J c Q ts H → TY C G J c Q ts H := by
 intro c
 induction c with
 | skip => exact fun Q ts H h a w hr => wpIn_skip (hr.now h (by simp) (by simp))
 | region id ops draw =>
  intro Q ts H h;rcases h with ⟨_, rfl, h⟩ | h
  ·exact Qyl hJ h
  cases draw with
  | false => exact Qot hx hJ hY h.1 h.2
  | true => exact Qvi hm hx hJ hY h.1 h.2.1 h.2.2
 | seq x y ihx ihy =>
  intro Q ts H h;exact Qsv ((ihx _ _ _ h).mono fun e ts H hq => by
   cases e with
   | normal => exact ihy _ _ _ hq
   | _ => exact hq)
 | cond c x y ihx ihy =>
  intro Q ts H h;simp only [wpY] at h;unfold Qbe at h;split at h
  ·rename_i b hb;exact Qmr hb (fun e => ihx _ _ _ (h.1 e)) (fun e => ihy _ _ _ (h.2 e))
  ·exact h.elim
 | block id c ih => exact fun Q ts H h => Qjp (ih _ _ _ h)
 | loop c _ => exact fun Q ts H h => h
 | exit id => exact fun Q ts H h a w hr => wpIn_exit (hr.now h (by simp) (by simp))
 | ret => exact fun Q ts H h a w hr => wpIn_ret (hr.now h (by simp) (by simp))
 | _ => exact fun Q ts H h => h.elim
theorem Gen.of {C : Ctx} (hm : C.P.follows .mixedOrders = true) {g : FuncId} {fn : Func} {c : Code} {lb : List V} {xs : List (List V)} {N : Nat} (hf : C.P.funcs[g]? = some fn) (hb : fn.body = some c) (hn : (fn.name == "runtime.NumGoroutine") = false) (hN : fn.ntmps = N) (hr : fn.results = #[]) (ha : lb.length + 1 ≤ N)
  (hx : ∀ as ∈ xs, Qm as = true) (h : ∀ G l J, wpY C G l xs J c (fun e _ H => (e = .normal ∨ e = .ret) ∧ (H.length = xs.length ∨ H.length = xs.length + 1)) (env N (Kv 0 (.fn (.yield l) [] [] :: lb))) []) : Gen C g lb xs := by
 subst hN;refine ⟨⟨fn, hf, hn, by rw [hb]; rfl⟩, hx, fun G im F w lbv l J hl hv hB hJ hY hj => (callsIn_wide (n := 0)).1 ?_⟩
 refine callsIn_of_wp_marks hf hb trivial ?_
 have hI : InvY G J (.fn (.yield l) [] [] :: lb ++ List.replicate (fn.ntmps - (lb.length + 1)) .any) [] { tmps := (Value.func (.yield l) #[] #[] :: lbv).toArray ++ Array.replicate (fn.ntmps - (Value.func (.yield l) #[] #[] :: lbv).toArray.size) undef, defers := [] } w := by
  refine ⟨im, F, rfl, ⟨by simp [hl]; omega, fun i => ?_⟩, rfl, hB, hj⟩
  cases i with
  | zero =>
   have h0 : VR im (dk 0) w (.fn (.yield l) [] []) (.func (.yield l) #[] #[]) := VR.fn (.yield l) [] [] [] [] rfl (fun j => by simp only [nth]; exact .any _) rfl (fun j => by simp only [nth]; exact .any _)
   simpa [nth, Array.getD_eq_getD_getElem?, Array.getElem?_append] using h0
  | succ i =>
   rw [Xh];split
   ·rename_i hi
    have hi' : i < lb.length := by simpa using hi
    have := (hv i).ren (g := some) (im' := im) (pl' := dk 0) (fun r r' e => by simp [dk, Zh]) (fun b hb => hb)
    rw [Qbj] at this;simpa [nth, Array.getD_eq_getD_getElem?, Array.getElem?_append_left, hl ▸ hi', List.getD] using this
   ·have : nth (List.replicate (fn.ntmps - (lb.length + 1)) V.any) (i + 1 - (V.fn (Fn.yield l) [] [] :: lb).length) = .any := by
     rw [Xg]; simp [List.getD, List.getElem?_replicate]; split <;> rfl
    rw [this]; exact .any _
 have hT := Qlq (Kv 0 (.fn (.yield l) [] [] :: lb)) (by simp; omega) (fun p hp => by
  obtain ⟨h1, h2, h3⟩ := Qb1 _ 0 p hp;rw [Xh, if_pos (by omega)]
  exact h3) (Qf1 hm hx hJ hY _ _ _ _ (h G l J)) _ _ hI
 refine wpIn_mono hT fun e a' w' hp => ?_
 have fin : ∀ ts' H', ((e = .normal ∨ e = .ret) ∧ (H'.length = xs.length ∨ H'.length = xs.length + 1)) → InvY G J ts' H' a' w' → LeavesInM Fence.wide 0 C.P fn a'.tmps (fun e W' => (∃ v, e = Ending.returned v) ∧ ∃ k F', (k = xs.length ∨ k = xs.length + 1) ∧ J k F' W') a'.defers .returning w' := by
  intro ts' H' k1 k2;obtain ⟨im', F', e1, e2, e3, e4, e5⟩ := k2.h;rw [e3];refine ⟨.tuple #[], ?_, ⟨_, rfl⟩, _, F', k1.2, e5⟩;simp [results, hr, Sem.run_bind]
 cases e with
 | normal => obtain ⟨ts', H', k1, k2⟩ := hp; exact fin ts' H' k1 k2
 | ret => obtain ⟨ts', H', k1, k2⟩ := hp; exact fin ts' H' k1 k2
 | exit id => obtain ⟨ts', H', k1, k2⟩ := hp; rcases k1.1 with k | k <;> cases k
 | goto l => obtain ⟨ts', H', k1, k2⟩ := hp; rcases k1.1 with k | k <;> cases k
 | panic _ => exact hp.elim
 | outgrown => exact hp.elim
theorem VR.keep {im : Nat → Prop} {pl : Nat → Place} {w w' : World} (hk : ∀ b, im b → w'.heap[b]? = w.heap[b]?) {v : V} {c : Value} (h : VR im pl w v c) : VR im pl w' v c :=
 h.world fun a v hi hc => Qb0 hc fun _ => hk _ hi
theorem TR.keep {im : Nat → Prop} {pl : Nat → Place} {w w' : World} (hk : ∀ b, im b → w'.heap[b]? = w.heap[b]?) {ts : List V} {tmps : Array Value} (h : TR im pl w ts tmps) : TR im pl w' ts tmps :=
 ⟨h.1, fun i => (h.2 i).keep hk⟩
theorem HR.keep {im : Nat → Prop} {pl : Nat → Place} {w w' : World} {H : Qa} (hs : w.heap.size ≤ w'.heap.size) (hk : ∀ b, (im b ∨ ∃ r cap, pl r = .at b cap) → w'.heap[b]? = w.heap[b]?) (h : HR im pl w H) : HR im pl w' H := by
 refine ⟨h.len, h.apart, fun r b cap hr => Nat.lt_of_lt_of_le (h.bound r b cap hr) hs, fun b hb => Nat.lt_of_lt_of_le (h.imb b hb) hs, h.inj, h.dead, h.virt, fun r b cap hr => ?_⟩
 obtain ⟨e, s, cs, cur, q1, q2, q3, q4, q5, q6⟩ := h.row r b cap hr;exact ⟨e, s, cs, cur, q1, by rw [hk b (.inr ⟨r, cap, hr⟩)]; exact q2, q3, q4, q5, fun j => (q6 j).keep fun b hb => hk b (.inl hb)⟩
theorem VR.more {im im' : Nat → Prop} {pl : Nat → Place} {w : World} (hi : ∀ b, im b → im' b) {v : V} {c : Value} (h : VR im pl w v c) : VR im' pl w v c := by
 have := h.ren (g := some) (im' := im') (pl' := pl) (fun r r' e => by injection e with e; rw [e]) hi
 rwa [Qbj] at this
theorem HR.more {im im' : Nat → Prop} {pl : Nat → Place} {w : World} {H : Qa} (hi : ∀ b, im b → im' b) (ha : ∀ b, im' b → b < w.heap.size ∧ ∀ r cap, pl r ≠ .at b cap) (h : HR im pl w H) : HR im' pl w H := by
 refine ⟨h.len, fun b hb => (ha b hb).2, h.bound, fun b hb => (ha b hb).1, h.inj, h.dead, h.virt, fun r b cap hr => ?_⟩
 obtain ⟨e, s, cs, cur, q1, q2, q3, q4, q5, q6⟩ := h.row r b cap hr;exact ⟨e, s, cs, cur, q1, q2, q3, q4, q5, fun j => (q6 j).more hi⟩
def Qg1 : List V → List Tmp → List V → List V
 | ts, p :: ps, v :: vs => Qg1 (upd ts p v) ps vs
 | ts, _, _ => ts
theorem Ql4 {im : Nat → Prop} {pl : Nat → Place} {w : World} : ∀ (ps : List Tmp) (as : List V) (vs : List Value) (ts : List V) (tmps : Array Value), TR im pl w ts tmps → as.length = vs.length → (∀ j, VR im pl w (nth as j) (vs.getD j undef)) →
  TR im pl w (Qg1 ts ps as) ((ps.zip vs).foldl (fun t p => t.setIfInBounds p.1 p.2) tmps)
 | [], as, vs, ts, tmps, h, hl, hv => by cases as <;> simpa [Qg1] using h
 | p :: ps, [], vs, ts, tmps, h, hl, hv => by
  have : vs = [] := List.eq_nil_of_length_eq_zero hl.symm
  subst this; simpa [Qg1] using h
 | p :: ps, a :: as, v :: vs, ts, tmps, h, hl, hv => by
  simp only [Qg1, List.zip_cons_cons, List.foldl_cons];refine Ql4 ps as vs _ _ ?_ (by simpa using hl) (fun j => by simpa [nth] using hv (j + 1))
  have := TR.put (a := { tmps := tmps, defers := [] }) h (by simpa [nth] using hv 0) (some p)
  simpa [Xd, Act.put] using this
 | p :: ps, a :: as, [], ts, tmps, h, hl, hv => by simp at hl
theorem Ext.avoid {imA imB : Nat → Prop} {plA plB : Nat → Place} {WA WB : World} (hE : Ext imA plA WA imB plB WB) {c : Nat} (hc : c < WA.heap.size) (hr : ∀ r cap, plA r ≠ .at c cap) (hi : ¬ imA c) : (∀ r cap, plB r ≠ .at c cap) ∧ ¬ imB c ∧ WB.heap[c]? = WA.heap[c]? ∧ c < WB.heap.size := by
 refine ⟨fun r cap h => ?_, fun h => ?_, hE.frame c hc hr, Nat.lt_of_lt_of_le hc hE.size⟩
 ·rcases hE.pln r c cap h with ⟨r', cap', h1⟩ | h1
  ·exact hr _ _ h1
  ·omega
 ·rcases hE.imn c h with h1 | h1 | ⟨r, cap, h1⟩
  ·exact hi h1
  ·omega
  ·exact hr _ _ h1
theorem Qad (W : World) (l : Nat) (o : Obj) : (W.putObj l o).heap.size = W.heap.size := by simp [World.putObj]
theorem Yw (W : World) {l k : Nat} (o : Obj) (h : k ≠ l) : (W.putObj l o).heap[k]? = W.heap[k]? := by simp [World.putObj, Array.getElem?_setIfInBounds, Ne.symm h]
theorem Qf4 (W : World) {l : Nat} (o : Obj) (h : l < W.heap.size) : (W.putObj l o).heap[l]? = some o := by simp [World.putObj, Array.getElem?_setIfInBounds, h]
theorem Ext.put {im im1 : Nat → Prop} {pl pl1 : Nat → Place} {w W : World} (h : Ext im pl w im1 pl1 W) {l : Nat} (o : Obj) (hl : w.heap.size ≤ l) : Ext im pl w im1 pl1 (W.putObj l o) :=
 ⟨h.os, h.tape, h.output, by rw [Qad]; exact h.size, h.imm, h.imn, h.plo, h.pln, fun b hb hn => by rw [Yw _ _ (by omega)]; exact h.frame b hb hn⟩
theorem HR.put {im : Nat → Prop} {pl : Nat → Place} {W : World} {H : Qa} (h : HR im pl W H) {l : Nat} (o : Obj) (hi : ¬ im l) (hr : ∀ r cap, pl r ≠ .at l cap) : HR im pl (W.putObj l o) H :=
 h.keep (by rw [Qad]; exact Nat.le_refl _) fun b hb => Yw _ _ (by
  rintro rfl;rcases hb with hb | ⟨r, cap, hb⟩
  ·exact hi hb
  ·exact hr r cap hb)
theorem TR.putO {im : Nat → Prop} {pl : Nat → Place} {W : World} {ts : List V} {tmps : Array Value} (h : TR im pl W ts tmps) {l : Nat} (o : Obj) (hi : ¬ im l) : TR im pl (W.putObj l o) ts tmps :=
 h.keep fun b hb => Yw _ _ (by rintro rfl; exact hi hb)
theorem DefOK.putO {pl : Nat → Place} {W : World} {ds : List Deferred} (h : DefOK pl W ds) {l : Nat} (o : Obj) {r0 : Loop} (hl : W.heap[l]? = some (.loop r0)) : DefOK pl (W.putObj l o) ds := by
 refine ⟨h.nodup, fun d hd => ?_⟩
 obtain ⟨r, h1, h2, h3⟩ := h.each d hd;refine ⟨r, h1, ?_, h3⟩;rw [Yw _ _ (by rintro rfl; rw [hl] at h2; cases h2)]; exact h2
def Qei (C : Ctx) (Q : Exit → List V → Qa → Prop) (ts : List V) (go : Qa → Prop) : Exit → List V → Qa → Prop
 | .normal, _, H => go H
 | .ret, _, H => Q .ret ts H
 | .exit id, _, H => Q (.exit id) ts H
 | .goto t, _, H => Q (.goto t) ts H
 | _, _, _ => False
theorem Qvg {C : Ctx} {f : Operand} {ps : Array Tmp} {assign body : Code} {Q : Exit → List V → Qa → Prop} {ts : List V} {H : Qa} {g : FuncId} {lb : List V} {xs : List (List V)} (hf : ev ts f = .fn (.func g) [] lb) (hlb : Qm lb = true) (hg : Gen C g lb xs) (hps : ∀ as ∈ xs, as.length = ps.size)
  (I : Nat → Qa → Prop) (h0 : I 0 H)
  (step : ∀ k as H, xs[k]? = some as → I k H → ∀ l, T C (some l) assign (fun e ts1 H1 => e = .normal ∧ T C (some l) body (Qei C Q ts (I (k + 1))) ts1 H1) (Qg1 ts ps.toList as) H)
  (done : ∀ H, I xs.length H → Q .normal ts H) : T C none (.rangeFunc f ps assign body) Q ts H := by
 intro im pl w a hr;refine wpIn_rangeFunc fun fn _ => ?_
 have hfv := Qdx hr.tr f
 rw [hf] at hfv;obtain ⟨lbv, hev, hlbl, hlbv⟩ : ∃ lbv : List Value, a.eval f = .func (.func g) #[] lbv.toArray ∧ lb.length = lbv.length ∧ ∀ j, VR im pl w (nth lb j) (lbv.getD j undef) := by
  cases hfe : a.eval f with
  | func g us vs =>
   rw [hfe] at hfv;generalize hus : us = us' at hfv;generalize hvs : vs = vs' at hfv;cases hfv with
   | fn _ _ _ us vs hl1 hr1 hl2 hr2 =>
    have hu : us = [] := List.eq_nil_of_length_eq_zero hl1.symm
    subst hu;exact ⟨vs, rfl, hl2, hr2⟩
  | _ => rw [hfe] at hfv; cases hfv
 obtain ⟨rec, hrec⟩ : ∃ rec : LoopState → Option Code → Loop, rec = fun st pe => { state := st, pending := pe, fn, tmps := a.tmps, params := ps, assign, body, defers := w.heap.size } := ⟨_, rfl⟩
 obtain ⟨W1, hW1⟩ : ∃ W1, (w.alloc (.deferred (some []))).alloc (.loop (rec .ready none)) = W1 := ⟨_, rfl⟩
 have hL1 : W1.heap[w.heap.size + 1]? = some (.loop (rec .ready none)) := by
  rw [← hW1]; have := World.alloc_heap_new (w.alloc (.deferred (some []))) (.loop (rec .ready none)); rwa [World.size_alloc] at this
 have hK1 : W1.heap[w.heap.size]? = some (.deferred (some [])) := by
  rw [← hW1]; exact (Below.heap_alloc _ _ _ (by simp)).trans (World.alloc_heap_new w _)
 have hS1 : W1.heap.size = w.heap.size + 2 := by rw [← hW1]; simp
 have hold : ∀ b, b < w.heap.size → W1.heap[b]? = w.heap[b]? := fun b hb => by
  rw [← hW1, Below.heap_alloc _ _ _ (by simp; omega), Below.heap_alloc _ _ _ hb]
 have hE1 : Ext im pl w im pl W1 := ⟨by rw [← hW1]; rfl, by rw [← hW1]; rfl, by rw [← hW1]; rfl, by omega, fun _ h => h, fun _ h => .inl h, fun _ _ => .inl rfl, fun r b cap h => .inl ⟨r, cap, h⟩, fun b hb _ => hold b hb⟩
 -- what stands between two rounds
 let l := w.heap.size + 1
 let b0 := w.heap.size
 let St := fun (F im' : Nat → Prop) (pl' : Nat → Place) (H' : Qa) (W : World) => HR im' pl' W H' ∧ TR im' pl' W ts a.tmps ∧ Ext im pl w im' pl' W ∧ W.heap[b0]? = some (.deferred (some [])) ∧ (∀ r cap, pl' r ≠ .at b0 cap ∧ pl' r ≠ .at l cap) ∧ (¬ im' b0 ∧ ¬ im' l) ∧ (∀ b, F b ↔ (b = b0 ∨ b = l ∨ ∃ r cap, pl' r = .at b cap))
 let G : Nat → Prop := fun b => im b ∨ w.heap.size ≤ b
 let J : JT := fun k F W => if k ≤ xs.length then (∃ im' pl' H', I k H' ∧ St F im' pl' H' W ∧ W.heap[l]? = some (.loop (rec .ready none)))
  else (∃ e c im' pl' H', (e = Exit.ret ∧ c = Code.ret ∨ (∃ id, e = .exit id ∧ c = .exit id) ∨ (∃ t, e = .goto t ∧ c = .goto t)) ∧ Q e ts H' ∧ St F im' pl' H' W ∧ W.heap[l]? = some (.loop (rec .done (some c))))
 have stGrow : ∀ F im' pl' H' W W', St F im' pl' H' W → Grow W W' → St F im' pl' H' W' := by
  rintro F im' pl' H' W W' ⟨s1, s2, s3, s4, s5, s6, s7⟩ hg
  have hb0 : b0 < W.heap.size := (Array.getElem?_eq_some_iff.1 s4).1
  refine ⟨s1.keep hg.size fun b hb => hg.keep b ?_, s2.keep fun b hb => hg.keep b (s1.imb b hb), ?_, by rw [hg.keep b0 hb0]; exact s4, s5, s6, s7⟩
  ·rcases hb with hb | ⟨r, cap, hb⟩
   ·exact s1.imb b hb
   ·exact s1.bound r b cap hb
  ·refine s3.trans ⟨hg.os, hg.tape, hg.output, hg.size, fun _ h => h, fun _ h => .inl h, fun _ _ => .inl rfl, fun r b cap h => .inl ⟨r, cap, h⟩, fun b hb _ => hg.keep b hb⟩
 have hJ : JOK G J := by
  refine ⟨fun k F W hj b hb => ?_, fun k F W hj b hb => ?_, fun k F W W' hj hg => ?_⟩
  ·refine .inr ?_
   have : w.heap.size ≤ W.heap.size := by
    simp only [J] at hj;split at hj
    ·obtain ⟨im', pl', H', _, ⟨_, _, s3, _⟩, _⟩ := hj; exact s3.size
    ·obtain ⟨e, c, im', pl', H', _, _, ⟨_, _, s3, _⟩, _⟩ := hj; exact s3.size
   omega
  ·have key : ∀ im' pl' H', St F im' pl' H' W → l < W.heap.size → b < W.heap.size := by
    rintro im' pl' H' ⟨s1, s2, s3, s4, s5, s6, s7⟩ hl;rcases (s7 b).1 hb with rfl | rfl | ⟨r, cap, h⟩
    ·exact (Array.getElem?_eq_some_iff.1 s4).1
    ·exact hl
    ·exact s1.bound r b cap h
   simp only [J] at hj;split at hj
   ·obtain ⟨im', pl', H', _, s, hl⟩ := hj; exact key im' pl' H' s (Array.getElem?_eq_some_iff.1 hl).1
   ·obtain ⟨e, c, im', pl', H', _, _, s, hl⟩ := hj; exact key im' pl' H' s (Array.getElem?_eq_some_iff.1 hl).1
  ·simp only [J] at hj ⊢;split at hj
   ·rename_i hk;rw [if_pos hk];obtain ⟨im', pl', H', hi, s, hl⟩ := hj;exact ⟨im', pl', H', hi, stGrow _ _ _ _ _ _ s hg, by rw [hg.keep l (Array.getElem?_eq_some_iff.1 hl).1]; exact hl⟩
   ·rename_i hk;rw [if_neg hk];obtain ⟨e, c, im', pl', H', he, hq, s, hl⟩ := hj;exact ⟨e, c, im', pl', H', he, hq, stGrow _ _ _ _ _ _ s hg, by rw [hg.keep l (Array.getElem?_eq_some_iff.1 hl).1]; exact hl⟩
 refine ⟨l, [{ target := .collected b0, args := #[] }], W1, { target := .fn (.func g) lbv.toArray, args := #[.func (.yield l) #[] #[]] }, W1, g, ([Value.func (.yield l) #[] #[]] ++ lbv).toArray, W1, ?_, ?_, fun _ _ => trivial, ?_, (fun h => by cases h), ?_⟩
 ·rw [← hW1, hrec]; exact run_enterLoop_outer _ _ _ _ _
 ·simp only [resolve, hev];simp [go_sem]
 ·obtain ⟨fn', q1, q2, q3⟩ := hg.1
  have h2' : ¬ fn'.name = "runtime.NumGoroutine" := by simpa using q2
  have h3' : ¬ fn'.body = none := by intro e; rw [e] at q3; cases q3
  simp only [invoke, callFunc];simp [Go.program, Sem.run, q1, h2', h3']
 have hF0 : J 0 (fun b => b = b0 ∨ b = l ∨ ∃ r cap, pl r = .at b cap) W1 := by
  simp only [J];rw [if_pos (Nat.zero_le _)];refine ⟨im, pl, H, h0, ⟨hr.hr.keep (by omega) fun b hb => hold b ?_, hr.tr.keep fun b hb => hold b (hr.hr.imb b hb), hE1, hK1, fun r cap => ⟨fun e => ?_, fun e => ?_⟩, ⟨fun e => ?_, fun e => ?_⟩, fun b => Iff.rfl⟩, hL1⟩
  ·rcases hb with hb | ⟨r, cap, hb⟩
   ·exact hr.hr.imb b hb
   ·exact hr.hr.bound r b cap hb
  ·have h : w.heap.size < w.heap.size := hr.hr.bound r _ cap e; omega
  ·have h : w.heap.size + 1 < w.heap.size := hr.hr.bound r _ cap e; omega
  ·have h : w.heap.size < w.heap.size := hr.hr.imb _ e; omega
  ·have h : w.heap.size + 1 < w.heap.size := hr.hr.imb _ e; omega
 have hYS : Qfg C G l xs J := by
  intro k F W as imI vs hj hxk hvl hB hv
  have hk : k < xs.length := (List.getElem?_eq_some_iff.1 hxk).1
  have has : as ∈ xs := List.mem_of_getElem? hxk
  simp only [J] at hj;rw [if_pos (by omega)] at hj
  obtain ⟨im', pl', H', hi, ⟨s1, s2, s3, s4, s5, s6, s7⟩, hlr⟩ := hj
  have hll : l < W.heap.size := (Array.getElem?_eq_some_iff.1 hlr).1
  have hb0 : b0 < W.heap.size := (Array.getElem?_eq_some_iff.1 s4).1
  have hy := run_yield (P := C.P) (args := vs.toArray) hlr (by rw [hrec]; simp [← hvl, hps as has])
  rw [hrec] at hy;refine ⟨fn, _, assign, body, hy, roundIn_of_wpIn (F := FW none) trivial ?_⟩
  -- the caller's state, the iterator's values beside it
  let im2 : Nat → Prop := fun b => im' b ∨ imI b
  have hm1 : ∀ b, im' b → im2 b := fun b hb => .inl hb
  have ha2 : ∀ b, im2 b → b < W.heap.size ∧ ∀ r cap, pl' r ≠ .at b cap := by
   rintro b (hb | hb)
   ·exact ⟨s1.imb b hb, s1.apart b hb⟩
   ·exact ⟨(hB b hb).1.1, fun r cap hr => (hB b hb).1.2 ((s7 b).2 (.inr (.inr ⟨r, cap, hr⟩)))⟩
  have hH2 : HR im2 pl' W H' := s1.more hm1 ha2
  have hT2 : TR im2 pl' W ts a.tmps := ⟨s2.1, fun i => (s2.2 i).more hm1⟩
  have hE2 : Ext im pl w im2 pl' W := ⟨s3.os, s3.tape, s3.output, s3.size, fun b hb => .inl (s3.imm b hb), fun b hb => by
   rcases hb with hb | hb
   ·exact s3.imn b hb
   ·rcases (hB b hb).2 with h | h
    ·exact .inl h
    ·exact .inr (.inl h), s3.plo, s3.pln, s3.frame⟩
  have n0 : ¬ im2 b0 := by
   rintro (h | h)
   ·exact s6.1 h
   ·exact (hB _ h).1.2 ((s7 _).2 (.inl rfl))
  have nl : ¬ im2 l := by
   rintro (h | h)
   ·exact s6.2 h
   ·exact (hB _ h).1.2 ((s7 _).2 (.inr (.inl rfl)))
  have hput := Ql4 ps.toList as vs ts a.tmps hT2 hvl fun j => ((hv j).clo (pl' := pl') (Yh (hg.2.1 as has) j)).more fun b hb => .inr hb
  have hfold : (ps.toList.zip vs).foldl (fun t p => t.setIfInBounds p.1 p.2) a.tmps = (ps.zip vs.toArray).foldl (fun tmps (x : Tmp × Value) => tmps.setIfInBounds x.1 x.2) a.tmps := by
   rw [← Array.foldl_toList, Array.toList_zip]
  rw [hfold] at hput
  have hst := step k as H' hxk hi l im2 pl' W { tmps := (ps.zip vs.toArray).foldl (fun tmps (x : Tmp × Value) => tmps.setIfInBounds x.1 x.2) a.tmps, defers := [] } ⟨hput, hH2, .nil _ _⟩
  refine wpIn_mono (F := FW (some l)) hst fun e a1 w1 hp => ?_
  have hnorm : e = .normal := by
   cases e with
   | normal => rfl
   | panic c => exact hp.elim
   | outgrown => exact hp.elim
   | _ => obtain ⟨_, _, _, _, h, _⟩ := hp; cases h.1
  subst hnorm;obtain ⟨ts1, H1, im1, pl1, ⟨_, hbody⟩, hR1, hE3, hM1⟩ := hp
  have avl := hE3.avoid hll (fun r cap => (s5 r cap).2) nl
  have av0 := hE3.avoid hb0 (fun r cap => (s5 r cap).1) n0
  have hl1 : w1.heap[l]? = some (.loop (rec .ready none)) := avl.2.2.1.trans hlr
  refine ⟨_, run_beginRound hl1 (by rw [hrec]), ?_⟩
  generalize hw2 : w1.putObj l (.loop { rec .ready none with state := .busy }) = w2
  have hs2 : w2.heap.size = w1.heap.size := by rw [← hw2, Qad]
  have hl2 : w2.heap[l]? = some (.loop { rec .ready none with state := .busy }) := by rw [← hw2]; exact Qf4 _ _ avl.2.2.2
  have hR2 : Rel im1 pl1 w2 ts1 H1 a1 := by rw [← hw2]; exact ⟨hR1.tr.putO _ avl.2.1, hR1.hr.put _ avl.2.1 avl.1, hR1.df.putO _ hl1⟩
  refine wpIn_mono (F := FW (some l)) (hbody im1 pl1 w2 a1 hR2) fun e a2 w3 hp => ?_
  have fin : ∀ (jump : Option Code) ts2 H2 im3 pl3, Rel im3 pl3 w3 ts2 H2 a2 → Ext im1 pl1 w2 im3 pl3 w3 →
    (∀ F' W4, (∀ b, F' b ↔ (b = b0 ∨ b = l ∨ ∃ r cap, pl3 r = .at b cap)) → St F' im3 pl3 H2 W4 → W4.heap[l]? = some (.loop (rec (if jump.isNone then .ready else .done) jump)) → J (if jump.isNone = true then k + 1 else xs.length + 1) F' W4) →
    ∃ v w', (Instr.endRound l jump).run C.P w3 = .ok v w' ∧ ∃ b F', Ending.returned v = .returned (.bool b) ∧ J (if b = true then k + 1 else xs.length + 1) F' w' ∧ Chg F W F' w' := by
   intro jump ts2 H2 im3 pl3 hR3 hE4 hJ4
   have bvl := hE4.avoid (c := l) (by omega) avl.1 avl.2.1
   have bv0 := hE4.avoid (c := b0) (by have := av0.2.2.2; omega) av0.1 av0.2.1
   have hl3 : w3.heap[l]? = some (.loop { rec .ready none with state := .busy }) := bvl.2.2.1.trans hl2
   refine ⟨_, _, run_endRound jump hl3, jump.isNone, fun b => b = b0 ∨ b = l ∨ ∃ r cap, pl3 r = .at b cap, rfl, ?_, ?_⟩
   ·refine hJ4 _ _ (fun b => Iff.rfl) ⟨hR3.hr.put _ bvl.2.1 bvl.1, ?_, ?_, ?_, fun r cap => ⟨bv0.1 r cap, bvl.1 r cap⟩, ⟨bv0.2.1, bvl.2.1⟩, fun b => Iff.rfl⟩ ?_
    ·have t1 := (hT2.mono hE3 hH2.apart).putO (.loop { rec .ready none with state := .busy }) avl.2.1
     rw [hw2] at t1;exact (t1.mono hE4 hR2.hr.apart).putO _ bvl.2.1
    ·have t1 := (hE2.trans hE3).put (.loop { rec .ready none with state := .busy }) (l := l) (by simp only [l]; omega)
     rw [hw2] at t1;exact (t1.trans hE4).put _ (by simp only [l]; omega)
    ·rw [Yw _ _ (by simp only [l, b0]; omega), bv0.2.2.1, ← hw2, Yw _ _ (by simp only [l, b0]; omega), av0.2.2.1]; exact s4
    ·rw [Qf4 _ _ bvl.2.2.2, hrec]
   ·refine ⟨by rw [Qad]; have := hE4.size; have := hE3.size; omega, fun b hb hF => ?_, fun b hF => ?_⟩
    ·have hnl : b ≠ l := fun e => hF ((s7 b).2 (.inr (.inl e)))
     have hnr : ∀ r cap, pl' r ≠ .at b cap := fun r cap h => hF ((s7 b).2 (.inr (.inr ⟨r, cap, h⟩)))
     have hb1 : b < w1.heap.size := Nat.lt_of_lt_of_le hb hE3.size
     have hnr1 : ∀ r cap, pl1 r ≠ .at b cap := fun r cap h => by
      rcases hE3.pln r b cap h with ⟨r', cap', h1⟩ | h1
      ·exact hnr _ _ h1
      ·omega
     rw [Yw _ _ hnl, hE4.frame b (by omega) hnr1, ← hw2, Yw _ _ hnl, hE3.frame b hb hnr]
    ·rcases hF with rfl | rfl | ⟨r, cap, h⟩
     ·exact .inl ((s7 _).2 (.inl rfl))
     ·exact .inl ((s7 _).2 (.inr (.inl rfl)))
     ·rcases hE4.pln r b cap h with ⟨r', cap', h1⟩ | h1
      ·rcases hE3.pln r' b cap' h1 with ⟨r'', cap'', h2⟩ | h2
       ·exact .inl ((s7 _).2 (.inr (.inr ⟨r'', cap'', h2⟩)))
       ·exact .inr h2
      ·have := hE3.size; exact .inr (by omega)
  have out : ∀ c e ts2 H2 im3 pl3, (e = Exit.ret ∧ c = Code.ret ∨ (∃ id, e = .exit id ∧ c = .exit id) ∨ (∃ t, e = .goto t ∧ c = .goto t)) → Q e ts H2 → Rel im3 pl3 w3 ts2 H2 a2 → Ext im1 pl1 w2 im3 pl3 w3 →
    ∃ v w', (Instr.endRound l (some c)).run C.P w3 = .ok v w' ∧ ∃ b F', Ending.returned v = .returned (.bool b) ∧ J (if b = true then k + 1 else xs.length + 1) F' w' ∧ Chg F W F' w' := by
   intro c e ts2 H2 im3 pl3 he hq hR3 hE4;refine fin (some c) ts2 H2 im3 pl3 hR3 hE4 fun F' W4 hF' hSt hl4 => ?_
   simp only [Option.isNone_some, Bool.false_eq_true, if_false] at hl4 ⊢;simp only [J];rw [if_neg (by omega)]
   exact ⟨e, c, im3, pl3, H2, he, hq, hSt, hl4⟩
  cases e with
  | normal =>
   obtain ⟨ts2, H2, im3, pl3, hq, hR3, hE4, _⟩ := hp;refine fin none ts2 H2 im3 pl3 hR3 hE4 fun F' W4 hF' hSt hl4 => ?_
   simp only [Option.isNone_none, if_true] at hl4 ⊢;simp only [J];rw [if_pos (by omega)]
   exact ⟨im3, pl3, H2, hq, hSt, hl4⟩
  | ret =>
   obtain ⟨ts2, H2, im3, pl3, hq, hR3, hE4, _⟩ := hp;exact out .ret .ret ts2 H2 im3 pl3 (.inl ⟨rfl, rfl⟩) hq hR3 hE4
  | exit id =>
   obtain ⟨ts2, H2, im3, pl3, hq, hR3, hE4, _⟩ := hp;exact out (.exit id) (.exit id) ts2 H2 im3 pl3 (.inr (.inl ⟨id, rfl, rfl⟩)) hq hR3 hE4
  | goto t =>
   obtain ⟨ts2, H2, im3, pl3, hq, hR3, hE4, _⟩ := hp;exact out (.goto t) (.goto t) ts2 H2 im3 pl3 (.inr (.inr ⟨t, rfl, rfl⟩)) hq hR3 hE4
  | panic c => exact hp.elim
  | outgrown => exact hp.elim
 have hcall := hg.2.2 G im _ W1 lbv l J hlbl (fun j => ((hlbv j).clo (Yh hlb j)).keep fun b hb => hold b (hr.hr.imb b hb)) (fun b hb => ⟨⟨by have := hr.hr.imb b hb; omega, fun hF => ?_⟩, .inl hb⟩) hJ hYS hF0
 ·refine CallsIn.mono (F := FW none) (show CallsIn Fence.wide _ C.P g _ W1 _ from callsIn_wide.2 hcall) fun e W' hp => ?_
  obtain ⟨⟨v, rfl⟩, k, F', hk, hj⟩ := hp
  have fin : ∀ e im' pl' H' st pe, (∀ c, e ≠ Exit.panic c) → e ≠ .outgrown → Q e ts H' → St F' im' pl' H' W' → W'.heap[l]? = some (.loop (rec st pe)) → ∀ o, Post im pl w a.defers Q e { a with defers := [{ target := .collected b0, args := #[] }] ++ a.defers } (W'.putObj l o) := by
   rintro e im' pl' H' st pe hp ho hq ⟨s1, s2, s3, s4, s5, s6, s7⟩ hl o
   have hR : Rel im' pl' (W'.putObj l o) ts H' { a with defers := [{ target := .collected b0, args := #[] }] ++ a.defers } := by
    refine ⟨s2.putO o s6.2, s1.put o s6.2 fun r cap => (s5 r cap).2, ?_⟩
    have hd := (hr.df.mono s3).putO o hl
    refine ⟨List.pairwise_cons.2 ⟨fun d hd' => ?_, hd.nodup⟩, fun d hd' => ?_⟩
    ·obtain ⟨r, h1, h2, _⟩ := hr.df.each d hd';rw [h1];intro e;injection e with e
     have := (Array.getElem?_eq_some_iff.1 h2).1
     simp only [b0] at e; omega
    ·rcases List.mem_cons.1 hd' with rfl | hd'
     ·exact ⟨b0, rfl, by rw [Yw _ _ (by simp only [l, b0]; omega)]; exact s4, fun q cap => (s5 q cap).1⟩
     ·exact hd.each d hd'
   have hM : Marks w a.defers ([{ target := .collected b0, args := #[] }] ++ a.defers) := ⟨_, rfl, fun d hd => by
    rcases List.mem_singleton.1 hd with rfl
    exact ⟨b0, rfl, Nat.le_refl _⟩⟩
   have hE := s3.put o (l := l) (by simp only [l]; omega)
   cases e with
   | panic c => exact (hp c rfl).elim
   | outgrown => exact (ho rfl).elim
   | _ => exact ⟨ts, H', im', pl', hq, hR, hE, hM⟩
  simp only [J] at hj;rcases hk with rfl | rfl
  ·rw [if_pos (Nat.le_refl _)] at hj;obtain ⟨im', pl', H', hi, hSt, hl⟩ := hj
   have hend := run_endLoop (P := C.P) hl (by rw [hrec]; simp)
   rw [hrec] at hend;refine ⟨none, _, hend, ?_⟩;exact fin .normal im' pl' H' _ _ (by simp) (by simp) (done H' hi) hSt hl _
  ·rw [if_neg (by omega)] at hj
   obtain ⟨e, c, im', pl', H', he, hq, hSt, hl⟩ := hj
   have hend := run_endLoop (P := C.P) hl (by rw [hrec]; simp)
   rw [hrec] at hend;refine ⟨some c, _, hend, ?_⟩;rcases he with ⟨rfl, rfl⟩ | ⟨id, rfl, rfl⟩ | ⟨t, rfl, rfl⟩
   ·exact wpIn_ret (fin _ im' pl' H' _ _ (by simp) (by simp) hq hSt hl _)
   ·exact wpIn_exit (fin _ im' pl' H' _ _ (by simp) (by simp) hq hSt hl _)
   ·exact wpIn_goto (fin _ im' pl' H' _ _ (by simp) (by simp) hq hSt hl _)
 ·have h1 := hr.hr.imb b hb
  rcases hF with rfl | rfl | ⟨r, cap, hF⟩
  ·have h : w.heap.size < w.heap.size := h1; omega
  ·have h : w.heap.size + 1 < w.heap.size := h1; omega
  ·exact hr.hr.apart b hb r cap hF
theorem Qvf {y : Ty} {e e' s' n : Nat} {v x : V} {H : Qa} {cs : List V} {K : V → Qa → Prop} (h : Own e 1 H v n cs) (hy : y.size = 1) (hb : 0 < y.bytes ∧ y.bytes ≤ 64) (hl : n + 1 ≤ 2000000000000) (hx : Xx x = true) (hc : cs.all Xx = true)
  (hK : ∀ v' H', Own e 1 H' v' (n + 1) (cs ++ [x]) → Fr v H H' → K v' H') : Jr y e v (.ref H.length 0 1) (H ++ [some ⟨e', s', [x]⟩]) K := by
 rw [← hy] at h;refine Qmo h (by simp [hy]) (by simp [hx]) (by omega) hb.1 ?_ hc fun v' H' h1 h2 => hK v' H' ?_ h2
 ·have := Nat.mul_le_mul hl hb.2; omega
 ·rwa [hy] at h1
theorem Qed {α : Type} (l : List α) (d : α) {i : Nat} (h : i < l.length) : l.take (i + 1) = l.take i ++ [l.getD i d] := by
 rw [List.take_add_one]; congr 1; simp [List.getD, h]
theorem Qom {Q : Exit → List V → Qa → Prop} {ts : List V} {H : Qa} (id id' : Nat) (h : id' ≠ id) : Xy id Q (.exit id') ts H = Q (.exit id') ts H := by simp [Xy, h]
attribute [go_sem] Qom
theorem Qgm {y : Ty} {e m r : Nat} {H : Qa} {cs : List V} {K : V → Qa → Prop} (hr : Qd H r = some ⟨e, 1, []⟩) (hy : y.size = 1) (hb : 0 < y.bytes ∧ y.bytes ≤ 64) (hl : m ≤ 2000000000000) (hm : cs.length = m) (hc : cs.all Xx = true)
  (hK : ∀ v' H', Own e 1 H' v' m cs → Fr (.ref r 0 0) H H' → K v' H') : Jr y e (.ref r 0 0) (.sl m cs) H K := by
 have h : Own e y.size H (.ref r 0 0) 0 [] := .inr ⟨r, rfl, by rw [hy]; exact hr, by simp⟩
 refine Qfc h (m := m) (news := cs) rfl (by rw [hy, hm]; omega) hc (by omega) hb.1 ?_ rfl fun v' H' h1 h2 _ _ => hK v' H' ?_ h2
 ·have := Nat.mul_le_mul hl hb.2; rw [Nat.zero_add]; omega
 ·rw [hy] at h1; simpa using h1
theorem Qu6 (k : IntKind) (n : Int) : cv1 (.int k n) = .int k n := rfl
theorem Qr7 (b : Bool) : cv1 (.bool b) = .bool b := rfl
theorem Qu4 (b : ByteArray) : cv1 (.string b) = .str b := rfl
theorem Qu5 : cv1 (.slice none 0 0) = .nil := rfl
theorem Qr5 : cv1 (.pointer none) = .nilp := rfl
theorem Qr6 : cv1 .nilFunc = .nilf := rfl
attribute [go_sem] Qu6 Qr7 Qu4 Qu5 Qr5 Qr6
mutual
theorem Zv (g : Nat → Option Nat) : ∀ v : V, clo v = true → ren g v = v
 | .any, _ => rfl
 | .int _ _, _ => rfl
 | .bool _, _ => rfl
 | .str _, _ => rfl
 | .nil, _ => rfl
 | .sl n cs, h => by simp only [ren, Kh g cs h]
 | .ref _ _ _, h => by cases h
 | .agg cs, h => by simp only [ren, Kh g cs h]
 | .tup vs, h => by simp only [ren, Kh g vs h]
 | .ptr _ _, h => by cases h
 | .nilp, _ => rfl
 | .rp cs off, h => by simp only [ren, Kh g cs h]
 | .fn f xs ys, h => by
  simp only [clo, Bool.and_eq_true] at h;simp only [ren, Kh g xs h.1, Kh g ys h.2]
 | .nilf, _ => rfl
theorem Kh (g : Nat → Option Nat) : ∀ l : List V, Qm l = true → Qf g l = l
 | [], _ => rfl
 | v :: l, h => by
  simp only [Qm, Bool.and_eq_true] at h;simp only [Qf, Zv g v h.1, Kh g l h.2]
end
end Go.Bv
end
section
namespace Go.Bv
open Go.RowKit
theorem Gen.of4 {C : Ctx} (hm : C.P.follows .mixedOrders = true) {g : FuncId} {fn : Func} {c : Code} {lb : List V} {xs : List (List V)} {N : Nat} (hf : C.P.funcs[g]? = some fn) (hb : fn.body = some c) (hn : (fn.name == "runtime.NumGoroutine") = false) (hN : fn.ntmps = N) (hr : fn.results = #[]) (ha : lb.length + 1 ≤ N)
  (hx : ∀ as ∈ xs, Qm as = true) (h : ∀ G l J, (∀ c Q ts H, wpY C G l xs J c Q ts H → TY C G J c Q ts H) → TY C G J c (fun e _ H => (e = .normal ∨ e = .ret) ∧ (H.length = xs.length ∨ H.length = xs.length + 1)) (env N (Kv 0 (.fn (.yield l) [] [] :: lb))) []) : Gen C g lb xs := by
 subst hN;refine ⟨⟨fn, hf, hn, by rw [hb]; rfl⟩, hx, fun G im F w lbv l J hl hv hB hJ hY hj => (callsIn_wide (n := 0)).1 ?_⟩
 refine callsIn_of_wp_marks hf hb trivial ?_
 have hI : InvY G J (.fn (.yield l) [] [] :: lb ++ List.replicate (fn.ntmps - (lb.length + 1)) .any) [] { tmps := (Value.func (.yield l) #[] #[] :: lbv).toArray ++ Array.replicate (fn.ntmps - (Value.func (.yield l) #[] #[] :: lbv).toArray.size) undef, defers := [] } w := by
  refine ⟨im, F, rfl, ⟨by simp [hl]; omega, fun i => ?_⟩, rfl, hB, hj⟩
  cases i with
  | zero =>
   have h0 : VR im (dk 0) w (.fn (.yield l) [] []) (.func (.yield l) #[] #[]) := VR.fn (.yield l) [] [] [] [] rfl (fun j => by simp only [nth]; exact .any _) rfl (fun j => by simp only [nth]; exact .any _)
   simpa [nth, Array.getD_eq_getD_getElem?, Array.getElem?_append] using h0
  | succ i =>
   rw [Xh];split
   ·rename_i hi
    have hi' : i < lb.length := by simpa using hi
    have := (hv i).ren (g := some) (im' := im) (pl' := dk 0) (fun r r' e => by simp [dk, Zh]) (fun b hb => hb)
    rw [Qbj] at this;simpa [nth, Array.getD_eq_getD_getElem?, Array.getElem?_append_left, hl ▸ hi', List.getD] using this
   ·have : nth (List.replicate (fn.ntmps - (lb.length + 1)) V.any) (i + 1 - (V.fn (Fn.yield l) [] [] :: lb).length) = .any := by
     rw [Xg]; simp [List.getD, List.getElem?_replicate]; split <;> rfl
    rw [this]; exact .any _
 have hT := Qlq (Kv 0 (.fn (.yield l) [] [] :: lb)) (by simp; omega) (fun p hp => by
  obtain ⟨h1, h2, h3⟩ := Qb1 _ 0 p hp;rw [Xh, if_pos (by omega)]
  exact h3) (h G l J (Qf1 hm hx hJ hY)) _ _ hI
 refine wpIn_mono hT fun e a' w' hp => ?_
 have fin : ∀ ts' H', ((e = .normal ∨ e = .ret) ∧ (H'.length = xs.length ∨ H'.length = xs.length + 1)) → InvY G J ts' H' a' w' → LeavesInM Fence.wide 0 C.P fn a'.tmps (fun e W' => (∃ v, e = Ending.returned v) ∧ ∃ k F', (k = xs.length ∨ k = xs.length + 1) ∧ J k F' W') a'.defers .returning w' := by
  intro ts' H' k1 k2;obtain ⟨im', F', e1, e2, e3, e4, e5⟩ := k2.h;rw [e3];refine ⟨.tuple #[], ?_, ⟨_, rfl⟩, _, F', k1.2, e5⟩;simp [results, hr, Sem.run_bind]
 cases e with
 | normal => obtain ⟨ts', H', k1, k2⟩ := hp; exact fin ts' H' k1 k2
 | ret => obtain ⟨ts', H', k1, k2⟩ := hp; exact fin ts' H' k1 k2
 | exit id => obtain ⟨ts', H', k1, k2⟩ := hp; rcases k1.1 with k | k <;> cases k
 | goto l => obtain ⟨ts', H', k1, k2⟩ := hp; rcases k1.1 with k | k <;> cases k
 | panic _ => exact hp.elim
 | outgrown => exact hp.elim
theorem Qjq {C : Ctx} {f : Operand} {ps : Array Tmp} {assign body : Tr} {Q : Exit → List V → Qa → Prop} {ts : List V} {H : Qa} {g : FuncId} {lb : List V} {xs : List (List V)} (hf : ev ts f = .fn (.func g) [] lb) (hlb : Qm lb = true) (hg : Gen C g lb xs) (hps : ∀ as ∈ xs, as.length = ps.size)
  (I : Nat → Qa → Prop) (h0 : I 0 H)
  (step : ∀ k as H, xs[k]? = some as → I k H → ∀ l, TT C (some l) assign (fun e ts1 H1 => e = .normal ∧ TT C (some l) body (Qei C Q ts (I (k + 1))) ts1 H1) (Qg1 ts ps.toList as) H)
  (done : ∀ H, I xs.length H → Q .normal ts H) : TT C none (.f f ps assign body) Q ts H := fun c hc => by
 obtain ⟨x, y, rfl, hx, hy⟩ := Qln hc;exact Qvg hf hlb hg hps I h0 (fun k as H h1 h2 l => (step k as H h1 h2 l x hx).mono fun e ts H h => ⟨h.1, h.2 y hy⟩) done
def yOK : Code → Bool
 | .region _ ops b => (Qmd ops && !b) || (Qki ops && (!b || Jw ops))
 | .seq a b => yOK a && yOK b
 | .cond _ a b => yOK a && yOK b
 | .block _ a => yOK a
 | .loop a => yOK a
 | _ => true
def TTY (C : Ctx) (G : Nat → Prop) (J : JT) (t : Tr) (Q : Exit → List V → Qa → Prop) (ts : List V) (H : Qa) : Prop := ∀ c, Qq C c = t → yOK c = true → TY C G J c Q ts H
def Zf : List O2 → Bool
 | [] => false
 | .n _ op :: l => Qau op || Zf l
 | _ :: l => Zf l
def Qm7 (C : Ctx) (n : Nat) (xs : List (List V)) (b : Bool) (l : List O2) (Q : Exit → List V → Qa → Prop) (ts : List V) (H : Qa) : Prop := match b with
 | true => Jl C (cwF C) l (fun ts1 H1 => Qs4 Q H ts1 H1) ts H
 | false => Jl C (cwY n xs) l (Q .normal) ts H
def Jm (C : Ctx) (G : Nat → Prop) (n : Nat) (xs : List (List V)) (J : JT) : Tr → (Exit → List V → Qa → Prop) → List V → Qa → Prop
 | .s, Q, ts, H => Q .normal ts H
 | .r, Q, ts, H => Q .ret ts H
 | .x id, Q, ts, H => Q (.exit id) ts H
 | .R l, Q, ts, H => Qm7 C n xs (Zf l) l Q ts H
 | .D _ l, Q, ts, H => Zn C (cwY n xs) H l (Q .normal) ts H
 | .U l, Q, ts, H => Zn C (cwY n xs) H l (Q .normal) ts H
 | .P l x, Q, ts, H => Zn C (cwY n xs) H (l ++ x) (Q .normal) ts H
 | .q a b, Q, ts, H => Jm C G n xs J a (Qar (Jm C G n xs J b Q) Q) ts H
 | .c o a b, Q, ts, H => Qbe (ev ts o) (Jm C G n xs J a Q ts H) (Jm C G n xs J b Q ts H)
 | .b id a, Q, ts, H => Jm C G n xs J a (Xy id Q) ts H
 | .l a, Q, ts, H => TTY C G J (.l a) Q ts H
 | _, _, _, _ => False
section
variable (C : Ctx) (G : Nat → Prop) (n : Nat) (xs : List (List V)) (J : JT) (Q : Exit → List V → Qa → Prop) (ts : List V) (H : Qa) (a b : Tr)
@[go_sem] theorem Xaa : Jm C G n xs J .s Q ts H = Q .normal ts H := rfl
@[go_sem] theorem Xab : Jm C G n xs J .r Q ts H = Q .ret ts H := rfl
@[go_sem] theorem Qz9 (id : Nat) : Jm C G n xs J (.x id) Q ts H = Q (.exit id) ts H := rfl
@[go_sem] theorem Qwp (l : List O2) : Jm C G n xs J (.R l) Q ts H = Qm7 C n xs (Zf l) l Q ts H := rfl
@[congr] theorem Qw1 {uu : Prop} (h00 : (True ∧ True) = uu) {b b' : Bool} (l : List O2) {ts' : List V} {H' : Qa} (hb : b = b') (h1 : ts = ts') (h2 : H = H') : Qm7 C n xs b l Q ts H = Qm7 C n xs b' l Q ts' H' := by rw [hb, h1, h2]
@[go_sem] theorem Qwz (l : List O2) : Qm7 C n xs true l Q ts H = Jl C (cwF C) l (fun ts1 H1 => Qs4 Q H ts1 H1) ts H := rfl
@[go_sem] theorem Qw0 (l : List O2) : Qm7 C n xs false l Q ts H = Jl C (cwY n xs) l (Q .normal) ts H := rfl
attribute [go_sem] Bool.false_or Bool.true_or Bool.or_false
@[go_sem] theorem Qxx : Zf [] = false := rfl
@[go_sem] theorem Qzq (d : Nat) (op : Op) (l : List O2) : Zf (.n d op :: l) = (Qau op || Zf l) := rfl
@[go_sem] theorem Qzp (op : Op) (l : List O2) : Zf (.z op :: l) = Zf l := rfl
@[go_sem] theorem Qzr (d : Option Nat) (op : Op) (s : Nat) (b : Bool) (l : List O2) : Zf (.g d op s b :: l) = Zf l := rfl
@[go_sem] theorem Qxt (t : TypeId) : Qau (.alloc t) = true := rfl
@[go_sem] theorem Qyy (x : Operand) : Qau (.move x) = false := rfl
@[go_sem] theorem Qvt (x : Operand) : Qau (.assign x) = false := rfl
@[go_sem] theorem Qyx (x y z : Operand) : Qau (.pick x y z) = false := rfl
@[go_sem] theorem Qxs (o : BinOp) (t : TypeId) (x y : Operand) (u : TypeId) : Qau (.binOp o t x y u) = false := rfl
@[go_sem] theorem Qyw (o : UnOp) (t : TypeId) (x : Operand) : Qau (.unOp o t x) = false := rfl
@[go_sem] theorem Quo (s t : TypeId) (x : Operand) : Qau (.convert s t x) = false := rfl
@[go_sem] theorem Qun (x : Operand) (i : Nat) : Qau (.extract x i) = false := rfl
@[go_sem] theorem Qyz (t : TypeId) (x : Operand) : Qau (.load t x) = false := rfl
@[go_sem] theorem Qxr (t : TypeId) (ps : Array (Nat × Operand)) : Qau (.build t ps) = false := rfl
@[go_sem] theorem Qoy (t : TypeId) (n : Nat) (ps : Array (Nat × Operand)) : Qau (.buildSlice t n ps) = false := rfl
@[go_sem] theorem Qq7 (t : TypeId) (x : Operand) (i : Nat) : Qau (.fieldAddr t x i) = false := rfl
@[go_sem] theorem Qxq (t : TypeId) (x : Operand) (i : Nat) : Qau (.field t x i) = false := rfl
@[go_sem] theorem Qq6 (t : TypeId) (x i : Operand) : Qau (.indexAddr t x i) = false := rfl
@[go_sem] theorem Qxp (t : TypeId) (x i : Operand) : Qau (.index t x i) = false := rfl
@[go_sem] theorem Qy0 (c : Call) : Qau (.call c) = false := rfl
@[go_sem] theorem Qxo (t : TypeId) (x : Operand) (a b c : Option Operand) : Qau (.slice t x a b c) = false := rfl
@[go_sem] theorem Xag (ok : Bool) (l : List O2) : Jm C G n xs J (.D ok l) Q ts H = Zn C (cwY n xs) H l (Q .normal) ts H := rfl
@[go_sem] theorem Xaf (l : List O2) : Jm C G n xs J (.U l) Q ts H = Zn C (cwY n xs) H l (Q .normal) ts H := rfl
@[go_sem] theorem Qwq (l x : List O2) : Jm C G n xs J (.P l x) Q ts H = Zn C (cwY n xs) H (l ++ x) (Q .normal) ts H := rfl
@[go_sem] theorem Xac : Jm C G n xs J (.q a b) Q ts H = Jm C G n xs J a (Qar (Jm C G n xs J b Q) Q) ts H := rfl
@[go_sem] theorem Qwo (o : Operand) : Jm C G n xs J (.c o a b) Q ts H = Qbe (ev ts o) (Jm C G n xs J a Q ts H) (Jm C G n xs J b Q ts H) := rfl
@[go_sem] theorem Xae (id : Nat) : Jm C G n xs J (.b id a) Q ts H = Jm C G n xs J a (Xy id Q) ts H := rfl
@[go_sem] theorem Xad : Jm C G n xs J (.l a) Q ts H = TTY C G J (.l a) Q ts H := rfl
end
@[go_sem] theorem Qy4 {l : Nat} {xs : List (List V)} {H : Qa} (args : List V) (K : V → Qa → Prop) : cwY l xs (.fn (.yield l) [] []) args H K = (xs[H.length]? = some args ∧ K (.bool true) (H ++ [none]) ∧ K (.bool false) (H ++ List.replicate (xs.length + 1 - H.length) none)) := by simp [cwY]
@[congr] theorem Qwn {C : Ctx} {G : Nat → Prop} {n : Nat} {xs : List (List V)} {J : JT} {Q : Exit → List V → Qa → Prop} {ts ts' : List V} {H H' : Qa} {uu : Prop} (h00 : (True ∧ True) = uu) (t : Tr) (h1 : ts = ts') (h2 : H = H') : Jm C G n xs J t Q ts H = Jm C G n xs J t Q ts' H' := by rw [h1, h2]
@[congr] theorem Qzc {C : Ctx} {G : Nat → Prop} {J : JT} {Q : Exit → List V → Qa → Prop} {ts ts' : List V} {H H' : Qa} {uu : Prop} (h00 : (True ∧ True) = uu) (t : Tr) (h1 : ts = ts') (h2 : H = H') : TTY C G J t Q ts H = TTY C G J t Q ts' H' := by rw [h1, h2]
theorem Qc7 {C : Ctx} {G : Nat → Prop} {J : JT} {a : Tr} {Q : Exit → List V → Qa → Prop} (I : Nat → List V → Qa → Prop) (step : ∀ n ts H, I n ts H → TTY C G J a (Qar (fun ts' H' => ∃ m, m < n ∧ I m ts' H') Q) ts H) {n : Nat} {ts : List V} {H : Qa} (h : I n ts H) : TTY C G J (.l a) Q ts H := fun c hc hy => by
 obtain ⟨d, rfl, hd⟩ := Qdr hc;exact Qjo I (fun n ts H h => step n ts H h d hd hy) h
theorem Qms {C : Ctx} {G : Nat → Prop} {J : JT} {t : Tr} {Q : Exit → List V → Qa → Prop} {ts : List V} {H : Qa} {N : Nat} (m : List (Nat × V)) (hL : ts.length = N) (hl : ∀ p ∈ m, nth ts p.1 = p.2) (h : TTY C G J t Q (env N m) H) : TTY C G J t Q ts H := fun c hc hy => Qlq m hL hl (h c hc hy)
theorem Qaw (all : List Oper) : ∀ (l : List Oper), Zf (Xs all l) = l.any Qiy
 | [] => rfl
 | ⟨some d, op, t, p, a, none⟩ :: l => by
  have ih := Qaw all l
  simp [Xs, Zf, Qiy, ih]
 | ⟨none, op, t, p, a, none⟩ :: l => by
  have ih := Qaw all l
  simp [Xs, Zf, Qiy, ih]
 | ⟨d, op, t, p, a, some (j, b)⟩ :: l => by
  have ih := Qaw all l
  simp only [Xs, List.any_cons, Qiy, Option.isNone_some, Bool.false_and, Bool.false_or];cases Qay all j <;> simpa [Zf] using ih
theorem Ql1 {C : Ctx} {G : Nat → Prop} {n : Nat} {xs : List (List V)} {J : JT} (hw : ∀ c Q ts H, wpY C G n xs J c Q ts H → TY C G J c Q ts H) : ∀ (c : Code) (Q : Exit → List V → Qa → Prop) (ts : List V) (H : Qa), yOK c = true → Jm C G n xs J (Qq C c) Q ts H → TY C G J c Q ts H := by
 intro c
 induction c with
 | skip => exact fun Q ts H hy h => hw _ _ _ _ h
 | ret => exact fun Q ts H hy h => hw _ _ _ _ h
 | exit id => exact fun Q ts H hy h => hw _ _ _ _ h
 | region id ops b =>
  intro Q ts H hy h;simp only [yOK, Bool.or_eq_true, Bool.and_eq_true] at hy;simp only [Qq, Qos] at h;cases hk : okO (Xs ops.toList ops.toList) with
  | false => rw [hk] at h; cases b <;> exact h.elim
  | true =>
   have hb := Qcu hk
   rw [hk] at h;cases b with
   | false =>
    simp only [Qwp] at h;cases hal : Zf (Xs ops.toList ops.toList) with
    | true =>
     rw [hal, Qwz, Kw C _ _ _ _ _ _ hb, Array.toArray_toList] at h;exact hw _ _ _ _ (.inl ⟨by rw [Qmd, ← Qaw]; exact hal, rfl, h⟩)
    | false =>
     rw [hal, Qw0, Kw C _ _ _ _ _ _ hb, Array.toArray_toList] at h;rcases hy with ⟨hy, _⟩ | hy
     ·rw [Qmd, ← Qaw ops.toList, hal] at hy; cases hy
     ·exact hw _ _ _ _ (.inr ⟨hy.1, h⟩)
   | true =>
    have h : Zn C (cwY n xs) H (Xs ops.toList ops.toList) (Q .normal) ts H := by
     rcases Qch C ops with hc | ⟨hd, hc⟩ | ⟨hd, hc⟩
     ·rw [hc] at h; exact h
     ·rw [hc] at h; exact h
     ·rw [hc, Qwq, ← Qc6, List.dropLast_eq_take, Array.length_toList, List.take_append_drop] at h; exact h
    rw [Kx C _ _ _ _ _ _ _ hb, Array.toArray_toList] at h;simp only [Bool.not_true, Bool.false_or, Bool.and_false, Bool.false_eq_true, and_false, false_or] at hy;exact hw _ _ _ _ (.inr ⟨hy.1, hy.2, h⟩)
 | seq x y ihx ihy =>
  intro Q ts H hy h;simp only [yOK, Bool.and_eq_true] at hy;exact Qsv ((ihx _ _ _ hy.1 h).mono fun e ts H hq => by
   cases e with
   | normal => exact ihy _ _ _ hy.2 hq
   | _ => exact hq)
 | cond o x y ihx ihy =>
  intro Q ts H hy h;simp only [yOK, Bool.and_eq_true] at hy;simp only [Qq, Qwo, Qbe] at h;split at h
  ·rename_i b hb;exact Qmr hb (fun e => ihx _ _ _ hy.1 (h.1 e)) (fun e => ihy _ _ _ hy.2 (h.2 e))
  ·exact h.elim
 | block id c ih => exact fun Q ts H hy h => Qjp (ih _ _ _ hy h)
 | loop c _ => exact fun Q ts H hy h => h (.loop c) rfl hy
 | _ => exact fun Q ts H hy h => h.elim
theorem Gen.of3 {C : Ctx} (hm : C.P.follows .mixedOrders = true) {g : FuncId} {fn : Func} {t : Tr} {lb : List V} {xs : List (List V)} {N : Nat} (hf : C.P.funcs[g]? = some fn) (hb : fn.body.map (Qq C) = some t) (hy : fn.body.all yOK = true) (hn : (fn.name == "runtime.NumGoroutine") = false) (hN : fn.ntmps = N) (hr : fn.results = #[]) (ha : lb.length + 1 ≤ N)
  (hx : ∀ as ∈ xs, Qm as = true) (h : ∀ G l J, (∀ t Q ts H, Jm C G l xs J t Q ts H → TTY C G J t Q ts H) → Jm C G l xs J t (fun e _ H => (e = .normal ∨ e = .ret) ∧ (H.length = xs.length ∨ H.length = xs.length + 1)) (env N (Kv 0 (.fn (.yield l) [] [] :: lb))) []) : Gen C g lb xs := by
 obtain ⟨c, hb, hc⟩ := Option.map_eq_some_iff.1 hb;rw [hb] at hy
 have hy : yOK c = true := hy
 have key : ∀ G l J, (∀ c Q ts H, wpY C G l xs J c Q ts H → TY C G J c Q ts H) → TY C G J c (fun e _ H => (e = .normal ∨ e = .ret) ∧ (H.length = xs.length ∨ H.length = xs.length + 1)) (env N (Kv 0 (.fn (.yield l) [] [] :: lb))) [] := fun G l J hw => by
  subst hc;exact Ql1 hw c _ _ _ hy (h G l J fun t Q ts H hr c hc hy => by subst hc; exact Ql1 hw c _ _ _ hy hr)
 exact Gen.of4 hm hf hb hn hN hr ha hx key
end Go.Bv
end
section
namespace Go.Bv
open Go.RowKit
def RetO2 (e s : Nat) (H : Qa) (v : V) (n : Nat) (cs : List V) (u : V) : Prop := ∃ w, v = .tup [w, u] ∧ Ret e s H w n cs
theorem RetO2.ret2 {e s : Nat} {H : Qa} {v : V} {n : Nat} {cs : List V} {u : V} (h : RetO2 e s H v n cs u) : Qyo e s H v n cs u := by
 obtain ⟨w, h1, h2⟩ := h;exact ⟨w, h1, .inr h2⟩
theorem Own.two {e s : Nat} {H : Qa} {v : V} {n : Nat} {cs : List V} (h : Own e s H v n cs) (hc : ∀ g, Qf g cs = cs) {u : V} (hu : ∀ g, ren g u = u) : ∃ sel, Jx sel (fun v H => RetO2 e s H v n cs u) (.tup [v, u]) H :=
 h.ret2 hc hu fun v H h => ⟨v, rfl, h⟩
theorem Quh {e s : Nat} {H : Qa} {u : V} (hu : ∀ g, ren g u = u) : ∃ sel, Jx sel (fun v H => RetO2 e s H v 0 [] u) (.tup [.nil, u]) H :=
 (Own.nil e s H).two (fun g => rfl) hu
theorem Ret.some {e s n : Nat} {cs : List V} (h : cs.length = n * s) : ∃ v H, Ret e s H v n cs := ⟨_, _, .inr ⟨rfl, rfl, h⟩⟩
theorem RetO2.some {e s n : Nat} {cs : List V} (u : V) (h : cs.length = n * s) : ∃ v H, RetO2 e s H v n cs u := ⟨_, _, _, rfl, .inr ⟨rfl, rfl, h⟩⟩
theorem RetO2.plain {e s : Nat} {H : Qa} {v : V} {n : Nat} {cs : List V} {u : V} (h : RetO2 e s H v n cs u) (hp : Qt cs = true) (hu : Bv.plain u = true) : Bv.plain v = true ∧ Kj H := by
 obtain ⟨w, rfl, h⟩ := h;obtain ⟨h1, h2⟩ := h.plain hp;exact ⟨by simp [Bv.plain, Qt, h1, hu], h2⟩
theorem RetO2.own {e s : Nat} {H H' : Qa} {v : V} {n : Nat} {cs : List V} {u : V} (h : RetO2 e s H' v n cs u) (hc : ∀ g, Qf g cs = cs) (hu : ∀ g, ren g u = u) : ∃ w, ren (shift H.length) v = .tup [w, u] ∧ Own e s (H ++ Jt (shift H.length) H') w n cs := by
 obtain ⟨w, rfl, h⟩ := h;exact ⟨_, by simp only [ren, Qf, hu], h.own hc⟩
theorem Fc.own2 {C : Ctx} {f : FuncId} {args args' : List V} {H : Qa} {K : V → Qa → Prop} {e s n : Nat} {cs : List V} {u : V} (h : Fc C f args' [] fun v H => RetO2 e s H v n cs u) (hb : BorL H args args') (hc : ∀ g, Qf g cs = cs) (hp : Qt cs = true) (hu : ∀ g, ren g u = u) (hpu : plain u = true)
  (hK : ∀ w X, Own e s (H ++ X) w n cs → K (.tup [w, u]) (H ++ X)) : Fc C f args H K :=
 h.borrow hb.all.1 hb.all.2 (fun v H' hv => hv.plain hp hpu) fun v H' hv => by
  obtain ⟨w, e1, h1⟩ := hv.own (H := H) hc hu;rw [e1]; exact hK _ _ h1
theorem Pc.own2 {C : Ctx} {H0 : Qa} {f : FuncId} {args args' : List V} {H : Qa} {K : V → Qa → Prop} {e s n : Nat} {cs : List V} {u : V} (h : Fc C f args' [] fun v H => RetO2 e s H v n cs u) (hb : BorL H args args') (hl : cs.length = n * s) (hc : ∀ g, Qf g cs = cs) (hp : Qt cs = true) (hu : ∀ g, ren g u = u) (hpu : plain u = true)
  (hK : ∀ w X, Own e s (H ++ X) w n cs → K (.tup [w, u]) (H ++ X)) : Pc C H0 f args H K :=
 Pc.borrow h (RetO2.some u hl) hb.all.1 hb.all.2 (fun v H' hv => hv.plain hp hpu) fun v H' hv => by
  obtain ⟨w, e1, h1⟩ := hv.own (H := H) hc hu;rw [e1]; exact hK _ _ h1
theorem Pc.ownL {C : Ctx} {H0 : Qa} {f : FuncId} {args args' : List V} {H : Qa} {K : V → Qa → Prop} {e s n : Nat} {cs : List V} (h : Fc C f args' [] fun v H => Ret e s H v n cs) (hb : BorL H args args') (hl : cs.length = n * s) (hc : ∀ g, Qf g cs = cs) (hp : Qt cs = true) (hK : ∀ v X, Own e s (H ++ X) v n cs → K v (H ++ X)) : Pc C H0 f args H K :=
 Pc.borrow h (Ret.some hl) hb.all.1 hb.all.2 (fun v H' hv => hv.plain hp) fun v H' hv => hK _ _ (hv.own hc)
theorem BorL.one {H : Qa} {a b : V} (h : Bor H a b) : BorL H [a] [b] := ⟨h, trivial⟩
theorem Fc.byVal {C : Ctx} {f : FuncId} {args args' : List V} {H : Qa} {Q K : V → Qa → Prop} {u : V} (h : Fc C f args' [] Q) (hl : args.length = args'.length) (hb : ∀ j, Bor H (nth args j) (nth args' j)) (hp : ∀ v H', Q v H' → plain v = true ∧ Kj H')
  (hv : ∀ im pl w v H c, Q v H → VR im pl w v c → HR im pl w H → ∃ im1 pl1 H1, HR im1 pl1 w H1 ∧ Ext im pl w im1 pl1 w ∧ VR im1 pl1 w u c) (hu : clo u = true) (hK : K u H) : Fc C f args H K := by
 refine ⟨h.1, fun im pl w vs hvl hvs hH => ?_⟩
 have hcall := h.2 (Qjt im pl) Zh w vs (by omega) (fun j => (hb j).VR hH (hvs j)) (HR.none fun b hb => by
  rcases hb with hb | ⟨r, cap, hb⟩
  ·exact hH.imb b hb
  ·exact hH.bound r b cap hb)
 refine (callsIn_wide (n := 0)).1 ((callsIn_wide.2 hcall).mono fun e w' hq => ?_)
 cases e with
 | panicked _ => exact hq
 | outgrown => exact hq
 | returned vc =>
  obtain ⟨v, H', im', pl', k1, k2, k3, k4⟩ := hq;obtain ⟨p1, p2⟩ := hp v H' k1
  have hS : HR (fun b => im b ∨ (w.heap.size ≤ b ∧ im' b)) pl' w' H' := by
   have hsub : ∀ b, (im b ∨ (w.heap.size ≤ b ∧ im' b)) → im' b := fun b hb => by
    rcases hb with hb | hb
    ·exact k4.imm b (.inl hb)
    ·exact hb.2
   refine ⟨k3.len, fun b hb => k3.apart b (hsub b hb), k3.bound, fun b hb => k3.imb b (hsub b hb), k3.inj, k3.dead, k3.virt, fun r b cap hr => ?_⟩
   obtain ⟨e, s, cs, cur, q1, q2, q3, q4, q5, q6⟩ := k3.row r b cap hr;exact ⟨e, s, cs, cur, q1, q2, q3, q4, q5, fun j => (q6 j).plain (Ym (p2 r _ q1) j)⟩
  have hES : Ext im Zh w (fun b => im b ∨ (w.heap.size ≤ b ∧ im' b)) pl' w' :=
   ⟨k4.os, k4.tape, k4.output, k4.size, fun b hb => .inl hb, fun b hb => hb.elim .inl fun h => .inr (.inl h.1), fun r hr => (hr rfl).elim, fun r b cap hr => k4.pln r b cap hr, fun b hb hn => k4.frame b hb hn⟩
  obtain ⟨im1, pl1, H1, q1, q2, q3⟩ := hv _ _ _ _ _ _ k1 (k2.plain p1) hS
  have hs := q1.sel (hES.trans q2) [] (by simp) (by simp)
  have hE1 : Ext im Zh w im1 (plS [] pl1) w' := hs.2
  have hnew : ∀ r b cap, plS [] pl1 r = .at b cap → w.heap.size ≤ b := fun r b cap hr => by
   rcases hE1.pln r b cap hr with ⟨r', cap', h1⟩ | h1
   ·cases h1
   ·exact h1
  have hg := hH.glue hs.1 hE1.imm (fun b hb => by
   rcases hE1.imn b hb with h1 | h1 | ⟨r, cap, h1⟩
   ·exact .inl h1
   ·exact .inr h1
   ·cases h1) hE1.os hE1.tape hE1.output hE1.size hnew (fun b hb => hE1.frame b hb (fun r cap e => by cases e))
  refine ⟨u, H ++ Jt (shift H.length) (Qan [] H1), im1, _, ?_, q3.clo hu, hg.1, hg.2⟩;simpa [Qan, Jt] using hK
theorem Pc.byVal {C : Ctx} {H0 : Qa} {f : FuncId} {args : List V} {H : Qa} {K : V → Qa → Prop} {u : V} (h : Fc C f args H fun v H' => v = u ∧ H' = H) (hK : K u H) : Pc C H0 f args H K :=
 Pc.gen h ⟨u, H, rfl, rfl⟩ (by rintro v H' ⟨rfl, rfl⟩; exact ⟨.refl _ _, hK⟩)
theorem Fc.byOwn2 {C : Ctx} {f : FuncId} {args args' : List V} {H : Qa} {K : V → Qa → Prop} {e s n : Nat} {cs : List V} {u : V} (h : Fc C f args' [] fun v H => RetO2 e s H v n cs u) (hb : BorL H args args') (hc : Qm cs = true) (hp : Qt cs = true) (hu : clo u = true) (hpu : plain u = true) (hK : K (.tup [.sl n cs, u]) H) : Fc C f args H K :=
 h.byVal (u := .tup [.sl n cs, u]) hb.all.1 hb.all.2 (fun v H' hv => hv.plain hp hpu) (fun im pl w v H c hq hv hH => by
  obtain ⟨v', rfl, hq⟩ := hq;obtain ⟨im1, pl1, H1, q1, q2, q3, q4⟩ := RetL.val (.inr hq) hc hH;refine ⟨im1, pl1, H1, q1, q2, ?_⟩;cases hv with
  | tup _ vs hl hr =>
   refine .tup _ vs hl fun j => ?_
   match j with
   | 0 => exact q3 _ (hr 0)
   | 1 => exact q4 _ _ hu (hr 1)
   | j + 2 => simpa [nth] using VR.any _) (by simp [clo, Qm, hc, hu]) hK
def Qb4 (H : Qa) : Nat → V → Option V
 | 0, _ => none
 | k + 1, v => match v with
  | .ref r off n => (Qd H r).bind fun row => if off ≤ row.cs.length then ((row.cs.drop off).mapM (Qb4 H k)).map fun cs => .sl n cs else none
  | .nil => some (.sl 0 [])
  | .ptr r off => (Qd H r).bind fun row => (row.cs.mapM (Qb4 H k)).map fun cs => .rp cs off
  | .agg cs => (cs.mapM (Qb4 H k)).map .agg
  | .fn f xs ys => (xs.mapM (Qb4 H k)).bind fun xs' => (ys.mapM (Qb4 H k)).map fun ys' => .fn f xs' ys'
  | v => if clo v then some v else none
theorem Qir {f : V → Option V} : ∀ {l m : List V}, l.mapM f = some m → l.length = m.length ∧ ∀ j, j < l.length → f (nth l j) = some (nth m j)
 | [], m, h => by simp at h; subst h; exact ⟨rfl, fun j hj => by simp at hj⟩
 | a :: l, m, h => by
  rw [List.mapM_cons] at h;cases ha : f a with
  | none => rw [ha] at h; simp at h
  | some b =>
   cases hl : l.mapM f with
   | none => rw [ha, hl] at h; simp at h
   | some m' =>
    rw [ha, hl] at h;simp at h; subst h;obtain ⟨h1, h2⟩ := Qir hl;refine ⟨by simp [h1], fun j hj => ?_⟩
    cases j with
    | zero => exact ha
    | succ j => exact h2 j (by simpa using hj)
theorem Bor.any {H : Qa} : Bor H .any .any := .clo _ rfl
theorem Qe8 {H : Qa} : ∀ (k : Nat) {v u : V}, Qb4 H k v = some u → Bor H v u
 | 0, v, u, h => by simp [Qb4] at h
 | k + 1, v, u, h => by
  have all : ∀ {l m : List V}, l.mapM (Qb4 H k) = some m → l.length = m.length ∧ ∀ j, Bor H (nth l j) (nth m j) := fun {l m} hm => by
   obtain ⟨h1, h2⟩ := Qir hm;refine ⟨h1, fun j => ?_⟩
   by_cases hj : j < l.length
   ·exact Qe8 k (h2 j hj)
   ·rw [Zx l j (by omega), Zx m j (by omega)]; exact .any
  have leaf : ∀ {v u : V}, (if clo v then some v else none) = some u → Bor H v u := fun {v u} h => by
   split at h
   ·injection h with h; subst h; exact .clo _ (by assumption)
   ·cases h
  cases v with
  | ref r off n =>
   simp only [Qb4, Option.bind_eq_some_iff] at h;obtain ⟨row, hr, h⟩ := h;split at h
   ·rename_i ho;simp only [Option.map_eq_some_iff] at h;obtain ⟨cs, hcs, rfl⟩ := h;obtain ⟨h1, h2⟩ := all hcs;exact .ref r off n row cs hr (by simp at h1; omega) fun j hj => by have := h2 j; rwa [Qbk] at this
   ·cases h
  | nil => simp only [Qb4] at h; injection h with h; subst h; exact .nil _
  | ptr r off =>
   simp only [Qb4, Option.bind_eq_some_iff, Option.map_eq_some_iff] at h;obtain ⟨row, hr, cs, hcs, rfl⟩ := h;obtain ⟨h1, h2⟩ := all hcs;exact .ptr r off row cs hr (by omega) fun j hj => h2 j
  | agg cs =>
   simp only [Qb4, Option.map_eq_some_iff] at h;obtain ⟨cs', hcs, rfl⟩ := h;exact .agg _ _ (all hcs).1 (all hcs).2
  | fn f xs ys =>
   simp only [Qb4, Option.bind_eq_some_iff, Option.map_eq_some_iff] at h;obtain ⟨xs', h1, ys', h2, rfl⟩ := h;exact .fn f _ _ _ _ (all h1).1 (all h1).2 (all h2).1 (all h2).2
  | any => exact leaf h
  | int _ _ => exact leaf h
  | bool _ => exact leaf h
  | str _ => exact leaf h
  | sl _ _ => exact leaf h
  | tup _ => exact leaf h
  | nilp => exact leaf h
  | rp _ _ => exact leaf h
  | nilf => exact leaf h
theorem Yz {H : Qa} (k : Nat) : ∀ {args args' : List V}, args.mapM (Qb4 H k) = some args' → BorL H args args'
 | [], m, h => by simp at h; subst h; trivial
 | a :: l, m, h => by
  rw [List.mapM_cons] at h;cases ha : Qb4 H k a with
  | none => rw [ha] at h; simp at h
  | some b =>
   cases hl : l.mapM (Qb4 H k) with
   | none => rw [ha, hl] at h; simp at h
   | some m' =>
    rw [ha, hl] at h;simp at h; subst h;exact ⟨Qe8 k ha, Yz k hl⟩
end Go.Bv
end
