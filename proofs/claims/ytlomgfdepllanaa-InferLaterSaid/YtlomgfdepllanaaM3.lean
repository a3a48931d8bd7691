/-
  Parts Bv16, Bv17, Bv27, Bv18, Bv19, Bv20, Bv21, Bv22, Bv23, Bv24, Bv25, Bv26, one behind the other: a program logic of our own, contracts of functions.
-/
import Derived.Test.YtlomgfdepllanaaM2
import Derived.Attr
import Derived.RangeFuncRecord
import Derived.RangeFuncSeq
import Derived.ProofKit
import Derived.SizedLaws
import Derived.Deep.Slices
section
/-
  PART 16: computing in regions that draw.
-/
set_option linter.unusedVariables false
set_option linter.unusedSimpArgs false
namespace Go.Bv
open Go.RowKit

theorem T_drawl {C : Ctx} {ro : Option Nat} (hm : C.P.follows .mixedOrders = true) {id : Nat} {l : List Oper} {Q : Exit → List V → Heap → Prop} {ts : List V} {H : Heap} (hok : drawOK l.toArray = true) (h : opsd C (cwP C) l.toArray H (Q .normal) l ts H) : T C ro (.region id l.toArray true) Q ts H :=
  T_draw hm hok h

theorem Pc.call {C : Ctx} {f : FuncId} {args : List V} {H : Heap} {Q K : V → Heap → Prop} (h : Fc C f args [] Q) (hq : ∃ v H', Q v H') (hc : cloL args = true) (hK : ∀ v H', Q v H' → K (ren (shift H.length) v) (H ++ renH (shift H.length) H')) : Pc C f args H K :=
  .inr ⟨args, Q, h, hq, .inl ⟨rfl, hc⟩, hK⟩
theorem Pc.borrow {C : Ctx} {f : FuncId} {args args' : List V} {H : Heap} {Q K : V → Heap → Prop} (h : Fc C f args' [] Q) (hq : ∃ v H', Q v H') (hl : args.length = args'.length) (hb : ∀ j, Bor H (nth args j) (nth args' j)) (hp : ∀ v H', Q v H' → plain v = true ∧ plainH H')
    (hK : ∀ v H', Q v H' → K (ren (shift H.length) v) (H ++ renH (shift H.length) H')) : Pc C f args H K :=
  .inr ⟨args', Q, h, hq, .inr ⟨hl, hb, hp⟩, hK⟩
theorem Pc.gen {C : Ctx} {f : FuncId} {args : List V} {H : Heap} {Q K : V → Heap → Prop} (h : Fc C f args H Q) (hq : ∃ v H', Q v H') (hK : ∀ v H', Q v H' → Same H H' ∧ K v H') : Pc C f args H K := .inl ⟨Q, h, hq, hK⟩

section
variable {C : Ctx} {cw : CW} {ts ts' : List V} {H H' H0 H0' : Heap} {K : V → Heap → Prop} {KL : List V → Heap → Prop}

@[congr] theorem opsd_congr {uu : Prop} (h00 : (True ∧ True) = uu) (ops : Array Oper) (l : List Oper) (h0 : H0 = H0') (h1 : ts = ts') (h2 : H = H') : opsd C cw ops H0 KL l ts H = opsd C cw ops H0' KL l ts' H' := by rw [h0, h1, h2]
@[congr] theorem opd_congr' {uu : Prop} (h00 : (True ∧ True) = uu) (op : Op) (h0 : H0 = H0') (h1 : ts = ts') (h2 : H = H') : opd C cw op ts H0 H K = opd C cw op ts' H0' H' K := by rw [h0, h1, h2]
@[congr] theorem cwP_congr {uu : Prop} (h00 : (True ∧ True) = uu) {f f' : V} {args args' : List V} (h0 : f = f') (h1 : args = args') (h2 : H = H') : cwP C f args H K = cwP C f' args' H' K := by rw [h0, h1, h2]
@[congr] theorem Pc_congr {uu : Prop} (h00 : (True ∧ True) = uu) (f : FuncId) {args args' : List V} (h1 : args = args') (h2 : H = H') : Pc C f args H K = Pc C f args' H' K := by rw [h1, h2]
@[congr] theorem notNil_congr {uu : Prop} (h00 : (True ∧ True) = uu) {v v' : V} (h : v = v') : notNil v = notNil v' := by rw [h]
theorem opsd_nil (ops : Array Oper) : opsd C cw ops H0 KL [] ts H = KL ts H := rfl
theorem opsd_free (ops : Array Oper) (d : Option Tmp) (op : Op) (t : TypeId) (p : String) (e : Array Edge) (l : List Oper) : opsd C cw ops H0 KL (⟨d, op, t, p, e, none⟩ :: l) ts H = opd C cw op ts H0 H fun v H' => opsd C cw ops H0 KL l (putd ts d v) H' := rfl
theorem opsd_guard (ops : Array Oper) (d : Option Tmp) (op : Op) (t : TypeId) (p : String) (e : Array Edge) (j : Nat) (b : Bool) (l : List Oper) : opsd C cw ops H0 KL (⟨d, op, t, p, e, some (j, b)⟩ :: l) ts H =
    guardn ops (some (j, b)) ts (fun ts => opd C cw op ts H0 H fun v H' => opsd C cw ops H0 KL l (putd ts d v) H') (fun ts => opsd C cw ops H0 KL l (putd ts d (.tup [])) H) := rfl
theorem cwP_fn (g : FuncId) (xs ys args : List V) : cwP C (.fn (.func g) xs ys) args H K = Pc C g (xs ++ args ++ ys) H K := rfl
theorem notNil_int (k : IntKind) (n : Int) : notNil (.int k n) = true := rfl
theorem notNil_bool (b : Bool) : notNil (.bool b) = true := rfl
theorem notNil_str (b : ByteArray) : notNil (.str b) = true := rfl

theorem opd_move (x : Operand) : opd C cw (.move x) ts H0 H K = K (ev ts x) H := by simp [opd, isEff, noNil, opc, opw]
theorem opd_assign (x : Operand) : opd C cw (.assign x) ts H0 H K = K (ev ts x) H := by simp [opd, isEff, noNil, opc, opw]
theorem opd_pick (c a b : Operand) : opd C cw (.pick c a b) ts H0 H K = pickw (ev ts c) (ev ts a) (ev ts b) fun v => K v H := by simp [opd, isEff, noNil, opc, opw]
theorem opd_binOp (o : BinOp) (t : TypeId) (x y : Operand) (t' : TypeId) : opd C cw (.binOp o t x y t') ts H0 H K = (notNil (ev ts y) = true ∧ (C.ty t).ok = true ∧ binw (C.ty t) o (ev ts x) (ev ts y) H0 fun v => K v H) := by simp [opd, isEff, noNil, opc, opw]
theorem opd_unOp (o : UnOp) (t : TypeId) (x : Operand) : opd C cw (.unOp o t x) ts H0 H K = unw o (ev ts x) fun v => K v H := by simp [opd, isEff, noNil, opc, opw]
theorem opd_convert (s d : TypeId) (x : Operand) : opd C cw (.convert s d x) ts H0 H K = ((C.ty s).ok = true ∧ (C.ty d).ok = true ∧ convw (C.ty d) (ev ts x) fun v => K v H) := by simp [opd, isEff, noNil, opc, opw]
theorem opd_makeFunc (fn : Go.Fn) (a b : List Operand) : opd C cw (.makeFunc fn a.toArray b.toArray) ts H0 H K = K (.fn fn (a.map (ev ts)) (b.map (ev ts))) H := by simp [opd, isEff, noNil, opc, opw]
theorem opd_extract (x : Operand) (i : Nat) : opd C cw (.extract x i) ts H0 H K = extw (ev ts x) i fun v => K v H := by simp [opd, isEff, noNil, opc, opw]
theorem opd_nilCheck (x : Operand) : opd C cw (.nilCheck x) ts H0 H K = nilw (ev ts x) fun v => K v H := by simp [opd, isEff, noNil, opc, opw]
theorem opd_load (t : TypeId) (x : Operand) : opd C cw (.load t x) ts H0 H K = ((C.ty t).ok = true ∧ loadw (C.ty t) (ev ts x) H0 fun v => K v H) := by simp [opd, isEff, noNil, opc, opw]
theorem opd_build (t : TypeId) (ps : List (Nat × Operand)) : opd C cw (.build t ps.toArray) ts H0 H K = ((C.ty t).ok = true ∧ buildw C.ty t (ps.map fun p => (p.1, ev ts p.2)) fun v => K v H) := by simp [opd, isEff, noNil, opc, opw]
theorem opd_slice (t : TypeId) (x : Operand) (lo hi : Option Operand) : opd C cw (.slice t x lo hi none) ts H0 H K = ((C.ty t).ok = true ∧ slicew C.ty (C.ty t) (ev ts x) (lo.map (ev ts)) (hi.map (ev ts)) H0 fun v => K v H) := by simp [opd, isEff, noNil, opc, opw]
theorem opd_fieldAddr (t : TypeId) (x : Operand) (f : Nat) : opd C cw (.fieldAddr t x f) ts H0 H K = ((C.ty t).ok = true ∧ faw C.ty ((C.ty t).fs[f]?) (ev ts x) fun v => K v H) := by
  simp only [opd, isEff, noNil, Bool.false_eq_true, if_false, true_and, opc_fieldAddr]
theorem opd_field (t : TypeId) (x : Operand) (f : Nat) : opd C cw (.field t x f) ts H0 H K = ((C.ty t).ok = true ∧ fieldw C.ty (C.ty t) (ev ts x) f fun v => K v H) := by simp [opd, isEff, noNil, opc, opw]
theorem opd_indexAddr (t : TypeId) (x i : Operand) : opd C cw (.indexAddr t x i) ts H0 H K = ((C.ty t).ok = true ∧ idxw C.ty (C.ty t) (ev ts x) (ev ts i) H0 fun v => K v H) := by
  simp only [opd, isEff, noNil, Bool.false_eq_true, if_false, true_and, opc_indexAddr]
theorem opd_index (t : TypeId) (x i : Operand) : opd C cw (.index t x i) ts H0 H K = ((C.ty t).ok = true ∧ indexw C.ty (C.ty t) (ev ts x) (ev ts i) fun v => K v H) := by simp [opd, isEff, noNil, opc, opw]
theorem opd_len (xs : List Operand) (ats : List TypeId) : opd C cw (.call ⟨.builtin .len, xs.toArray, ats.toArray⟩) ts H0 H K = builtinw C.ty .len ats (xs.map (ev ts)) H0 fun v _ => K v H := by simp [opd, isEff, noNil, opc]
theorem opd_min (xs : List Operand) (ats : List TypeId) : opd C cw (.call ⟨.builtin .min, xs.toArray, ats.toArray⟩) ts H0 H K = builtinw C.ty .min ats (xs.map (ev ts)) H0 fun v _ => K v H := by simp [opd, isEff, noNil, opc]
theorem opd_max (xs : List Operand) (ats : List TypeId) : opd C cw (.call ⟨.builtin .max, xs.toArray, ats.toArray⟩) ts H0 H K = builtinw C.ty .max ats (xs.map (ev ts)) H0 fun v _ => K v H := by simp [opd, isEff, noNil, opc]
theorem opd_append (xs : List Operand) (ats : List TypeId) : opd C cw (.call ⟨.builtin .append, xs.toArray, ats.toArray⟩) ts H0 H K = builtinw C.ty .append ats (xs.map (ev ts)) H K := by simp [opd, isEff, opc]
theorem opd_call (f : Operand) (xs : List Operand) (ats : Array TypeId) : opd C cw (.call ⟨.value f, xs.toArray, ats⟩) ts H0 H K = cw (ev ts f) (xs.map (ev ts)) H K := by simp [opd, isEff, opc]
theorem opd_store (t : TypeId) (x v : Operand) : opd C cw (.store t x v) ts H0 H K = ((C.ty t).ok = true ∧ storew (C.ty t) (ev ts x) (ev ts v) H fun H' => K .any H') := by simp [opd, isEff, opc, opw]
theorem opd_box (t : TypeId) (x : Operand) : opd C cw (.box t x) ts H0 H K = boxw t (ev ts x) H K := by simp [opd, isEff, opc, opw]
theorem opd_alloc (t : TypeId) : opd C cw (.alloc t) ts H0 H K = ((C.ty t).ok = true ∧ K (.ptr H.length 0) (H ++ [some ⟨t, (zsOf (C.ty t)).length, zsOf (C.ty t)⟩])) := by simp [opd, isEff, opc, opw]
theorem opd_buildSlice (t : TypeId) (n : Nat) (ps : List (Nat × Operand)) : opd C cw (.buildSlice t n ps.toArray) ts H0 H K = ((C.ty t).ok = true ∧ buildSlw C.ty t n (ps.map fun p => (p.1, ev ts p.2)) H K) := by simp [opd, isEff, opc, opw]
theorem opd_makeSlice (t : TypeId) (l c : Operand) : opd C cw (.makeSlice t l c) ts H0 H K = ((C.ty t).ok = true ∧ makew C.ty t (ev ts l) (ev ts c) H K) := by simp [opd, isEff, opc, opw]
end
end Go.Bv
end

section
/-
  PART 17: rows, one by one.
-/
set_option linter.unusedVariables false
set_option linter.unusedSimpArgs false
namespace Go.Bv
open Go.RowKit

theorem rowOf_lt {H : Heap} {r : Nat} {row : Row} (h : rowOf H r = some row) : r < H.length := (List.getElem?_eq_some_iff.1 (rowOf_some h)).1
theorem rowOf_keep {H : Heap} {r : Nat} {row : Row} (h : rowOf H r = some row) (X : Heap) : rowOf (H ++ X) r = some row := Same.app H X r row h
theorem rowOf_snoc (H : Heap) (row : Row) : rowOf (H ++ [some row]) H.length = some row := by simp [rowOf]
theorem rowOf_set_snoc (H : Heap) (r : Nat) (z : Option Row) (row : Row) : rowOf (H.set r z ++ [some row]) H.length = some row := by
  have := rowOf_snoc (H.set r z) row
  rwa [List.length_set] at this
theorem rowOf_set_ne {H : Heap} {r q : Nat} (z : Option Row) (h : r ≠ q) : rowOf (H.set r z) q = rowOf H q := by simp [rowOf, List.getElem?_set_ne h]
theorem rowOf_set_eq {H : Heap} {r : Nat} {row row' : Row} (h : rowOf H r = some row) : rowOf (H.set r (some row')) r = some row' := by simp [rowOf, List.getElem?_set_self (rowOf_lt h)]
theorem isSome_row {H : Heap} {r : Nat} {row : Row} (h : rowOf H r = some row) : (rowOf H r).isSome = true := by rw [h]; rfl
theorem rowOf_ren {H X : Heap} {r : Nat} {row : Row} (g : Nat → Option Nat) (h : rowOf X r = some row) : rowOf (H ++ renH g X) (r + H.length) = some (renRow g row) := by
  have h1 := rowOf_some h
  simp [rowOf, renH, List.getElem?_append_right, h1]

/-- A slice that the function has made itself: nil, or from the first cell of a row on. -/
def Own (e s : Nat) (H : Heap) (v : V) (n : Nat) (cs : List V) : Prop := (v = .nil ∧ n = 0 ∧ cs = []) ∨ ∃ r, v = .ref r 0 n ∧ rowOf H r = some ⟨e, s, cs⟩ ∧ cs.length = n * s
theorem Own.nil (e s : Nat) (H : Heap) : Own e s H .nil 0 [] := .inl ⟨rfl, rfl, rfl⟩
theorem Own.length {e s : Nat} {H : Heap} {v : V} {n : Nat} {cs : List V} (h : Own e s H v n cs) : cs.length = n * s := by
  rcases h with ⟨_, rfl, rfl⟩ | ⟨r, _, _, h⟩
  · simp
  · exact h
theorem Own.keep {e s : Nat} {H : Heap} {v : V} {n : Nat} {cs : List V} (h : Own e s H v n cs) (X : Heap) : Own e s (H ++ X) v n cs := by
  rcases h with h | ⟨r, h1, h2, h3⟩
  · exact .inl h
  · exact .inr ⟨r, h1, rowOf_keep h2 X, h3⟩
theorem Own.same {e s : Nat} {H H' : Heap} {v : V} {n : Nat} {cs : List V} (h : Own e s H v n cs) (hs : Same H H') : Own e s H' v n cs := by
  rcases h with h | ⟨r, h1, h2, h3⟩
  · exact .inl h
  · exact .inr ⟨r, h1, hs _ _ h2, h3⟩

/-- The rows besides one value's own one stand. -/
def Fr (v : V) (H H' : Heap) : Prop := ∀ q row, (∀ off n, v ≠ .ref q off n) → rowOf H q = some row → rowOf H' q = some row
theorem Own.fr {e s : Nat} {H H' : Heap} {u v : V} {n : Nat} {cs : List V} (h : Own e s H v n cs) (hf : Fr u H H') (hne : ∀ q off n m, u = .ref q off n → v ≠ .ref q 0 m) : Own e s H' v n cs := by
  rcases h with h | ⟨r, h1, h2, h3⟩
  · exact .inl h
  · exact .inr ⟨r, h1, hf r _ (fun off m hu => hne r off m n hu h1) h2, h3⟩

/-- What is appended to a slice of one's own. -/
theorem appw_own {y : Ty} {e : TypeId} {v x : V} {H : Heap} {n m : Nat} {cs news : List V} {K : V → Heap → Prop} (h : Own e y.size H v n cs) (hx : elemsOf y x H = some (m, news)) (hn : news.length = m * y.size) (hs : news.all scal = true) (hy : 0 < y.size) (hb : 0 < y.bytes) (hl : (n + m) * y.bytes ≤ 140737488355328)
    (hc : cs.all scal = true) (hK : ∀ v' H', Own e y.size H' v' (n + m) (cs ++ news) → Fr v H H' → H'.length = H.length + 1 → (∃ r, v' = .ref H.length 0 r) → K v' H') : appw y e v x H K := by
  unfold appw
  rw [hx]
  refine ⟨hn, hs, hy, hb, ?_⟩
  rcases h with ⟨rfl, rfl, rfl⟩ | ⟨r, rfl, h2, h3⟩
  · rw [Nat.zero_add] at hl
    refine ⟨hl, hK _ _ (.inr ⟨H.length, by rw [Nat.zero_add], rowOf_snoc _ _, by simpa using hn⟩) (fun q row _ hq => rowOf_keep hq _) (by simp) ⟨m, rfl⟩⟩
  · simp only [h2, true_and]
    refine ⟨h3, hc, hl, hK _ _ (.inr ⟨H.length, rfl, ?_, by simp [h3, hn, Nat.add_mul]⟩) (fun q row hq hrow => ?_) (by simp) ⟨n + m, rfl⟩⟩
    · exact rowOf_set_snoc H r none _
    · refine rowOf_keep ?_ _
      rw [rowOf_set_ne]
      · exact hrow
      · rintro rfl; exact hq 0 n rfl

/-- .. of what is typed out. -/
theorem app_lit {y : Ty} {e e' s' m : Nat} {v : V} {H : Heap} {n : Nat} {cs lit : List V} {K : V → Heap → Prop} (h : Own e y.size H v n cs) (hn : lit.length = m * y.size) (hs : lit.all scal = true) (hy : 0 < y.size) (hb : 0 < y.bytes) (hl : (n + m) * y.bytes ≤ 140737488355328)
    (hc : cs.all scal = true) (hK : ∀ v' H', Own e y.size H' v' (n + m) (cs ++ lit) → Fr v H H' → K v' H') : appw y e v (.ref H.length 0 m) (H ++ [some ⟨e', s', lit⟩]) K := by
  refine appw_own (h.keep _) (news := lit) ?_ hn hs hy hb hl hc fun v' H' h1 h2 _ _ => hK v' H' h1 fun q row hq hr => h2 q row hq (rowOf_keep hr _)
  simp only [elemsOf, rowOf_snoc, List.drop_zero]
  rw [← hn, List.take_length]
theorem app_int {y : Ty} {e e' s' : Nat} {v : V} {H : Heap} {xs : List Int} {x : Int} {K : V → Heap → Prop} (h : Own e 1 H v xs.length (ints xs)) (hy : y.size = 1) (hb : 0 < y.bytes ∧ y.bytes ≤ 8) (hl : xs.length + 1 ≤ 17592186044416)
    (hK : ∀ v' H', Own e 1 H' v' (xs ++ [x]).length (ints (xs ++ [x])) → Fr v H H' → K v' H') : appw y e v (.ref H.length 0 1) (H ++ [some ⟨e', s', [.int .i64 x]⟩]) K := by
  rw [← hy] at h
  refine app_lit h (by simp [hy]) (by simp [scal]) (by omega) hb.1 ?_ (ints_scal _) fun v' H' h1 h2 => hK v' H' ?_ h2
  · have := Nat.mul_le_mul hl hb.2; omega
  · rw [hy] at h1
    rw [ints_append, List.length_append]
    exact h1

/-- The rows that are handed back. -/
def Ret (e s : Nat) (H : Heap) (v : V) (n : Nat) (cs : List V) : Prop := (v = .nil ∧ n = 0 ∧ cs = [] ∧ H = []) ∨ (v = .ref 0 0 n ∧ H = [some ⟨e, s, cs⟩] ∧ cs.length = n * s)
theorem Own.ret {e s : Nat} {H : Heap} {v : V} {n : Nat} {cs : List V} (h : Own e s H v n cs) (hc : ∀ g, renL g cs = cs) {Q : V → Heap → Prop} (hQ : ∀ v H, Ret e s H v n cs → Q v H) : ∃ sel, keepw sel Q v H := by
  rcases h with ⟨rfl, rfl, rfl⟩ | ⟨r, rfl, h2, h3⟩
  · exact ⟨[], by simp, by simp, hQ _ _ (.inl ⟨rfl, rfl, rfl, rfl⟩)⟩
  · refine ⟨[r], by simp, by simpa using rowOf_lt h2, hQ _ _ (.inr ⟨by simp [ren, pos], ?_, h3⟩)⟩
    simp [selH, h2, renRow, hc]
/-- .. in a tuple, with a number. -/
theorem Own.ret2 {e s : Nat} {H : Heap} {v : V} {n : Nat} {cs : List V} (h : Own e s H v n cs) (hc : ∀ g, renL g cs = cs) {u : V} (hu : ∀ g, ren g u = u) {Q : V → Heap → Prop} (hQ : ∀ v H, Ret e s H v n cs → Q (.tup [v, u]) H) : ∃ sel, keepw sel Q (.tup [v, u]) H := by
  rcases h with ⟨rfl, rfl, rfl⟩ | ⟨r, rfl, h2, h3⟩
  · refine ⟨[], by simp, by simp, ?_⟩
    have := hQ _ _ (.inl ⟨rfl, rfl, rfl, rfl⟩)
    simpa [ren, renL, hu, selH] using this
  · refine ⟨[r], by simp, by simpa using rowOf_lt h2, ?_⟩
    have := hQ _ _ (.inr ⟨rfl, rfl, h3⟩)
    simpa [ren, renL, hu, selH, pos, h2, renRow, hc] using this
theorem Ret.own {e s : Nat} {H H' : Heap} {v : V} {n : Nat} {cs : List V} (h : Ret e s H' v n cs) (hc : ∀ g, renL g cs = cs) : Own e s (H ++ renH (shift H.length) H') (ren (shift H.length) v) n cs := by
  rcases h with ⟨rfl, rfl, rfl, rfl⟩ | ⟨rfl, rfl, h3⟩
  · exact .inl ⟨rfl, rfl, rfl⟩
  · refine .inr ⟨H.length, by simp [ren, shift], ?_, h3⟩
    have : rowOf [some (⟨e, s, cs⟩ : Row)] 0 = some ⟨e, s, cs⟩ := rfl
    have := rowOf_ren (H := H) (shift H.length) this
    simpa [renRow, hc] using this
theorem Ret.plain {e s : Nat} {H : Heap} {v : V} {n : Nat} {cs : List V} (h : Ret e s H v n cs) (hp : plainL cs = true) : plain v = true ∧ plainH H := by
  rcases h with ⟨rfl, rfl, rfl, rfl⟩ | ⟨rfl, rfl, h3⟩
  · exact ⟨rfl, fun r row hr => by simp at hr⟩
  · refine ⟨rfl, fun r row hr => ?_⟩
    cases r with
    | zero => simp at hr; subst hr; exact hp
    | succ r => simp at hr
theorem Own.bor {e s : Nat} {H : Heap} {v : V} {n : Nat} {cs : List V} (h : Own e s H v n cs) (hc : ∀ j, j < cs.length → clo (nth cs j) = true) : Bor H v (match v with | .nil => .nil | _ => .sl n cs) := by
  rcases h with ⟨rfl, rfl, rfl⟩ | ⟨r, rfl, h2, h3⟩
  · exact .clo _ rfl
  · exact .ref r 0 n _ cs h2 (by simp) fun j hj => by simpa using .clo _ (hc j hj)

/-! ### Temporaries that are named by their numbers -/
def bsel (b : Bool) (v x : V) : V := match b with | true => v | false => x
@[congr] theorem bsel_congr {uu : Prop} (h00 : (True ∧ True) = uu) {b b' : Bool} (v x : V) (h : b = b') : bsel b v x = bsel b' v x := by rw [h]
theorem bsel_true (v x : V) : bsel true v x = v := rfl
theorem bsel_false (v x : V) : bsel false v x = x := rfl
def cif (p : Prop) [Decidable p] (v : V) : V := if p then v else .any
theorem cif_true (v : V) : cif True v = v := rfl
def look : List (Nat × V) → Nat → V
  | [], _ => .any
  | (i, v) :: l, j => bsel (i == j) v (look l j)
theorem look_cons (i : Nat) (v : V) (l : List (Nat × V)) (j : Nat) : look ((i, v) :: l) j = bsel (i == j) v (look l j) := rfl
def env (N : Nat) (l : List (Nat × V)) : List V := (List.range N).map (look l)
theorem env_length (N : Nat) (l : List (Nat × V)) : (env N l).length = N := by simp [env]
theorem nth_env (N : Nat) (l : List (Nat × V)) (j : Nat) : nth (env N l) j = cif (j < N) (look l j) := by
  rw [nth_getD]
  simp only [env, cif, List.getD, List.getElem?_map, List.getElem?_range]
  split
  · rename_i h; simp [List.getElem?_range, h]
  · rename_i h; simp [h]
theorem nth_ext {l m : List V} (hl : l.length = m.length) (h : ∀ j, nth l j = nth m j) : l = m := by
  refine List.ext_getElem hl fun i h1 h2 => ?_
  have := h i
  rw [nth_getD, nth_getD] at this
  simpa [List.getD, h1, h2] using this
theorem upd_env (N : Nat) (l : List (Nat × V)) (i : Nat) (v : V) : upd (env N l) i v = env N ((i, v) :: l) := by
  refine nth_ext (by rw [upd_length, env_length, env_length]) fun j => ?_
  rw [nth_upd, nth_env, nth_env, env_length, look_cons]
  by_cases h : j = i
  · subst h
    simp only [true_and, beq_self_eq_true, bsel_true, cif]
    split <;> simp
  · have : (i == j) = false := by simpa using fun e => h e.symm
    rw [if_neg (fun h' => h h'.1), this, bsel_false]
theorem look_mem : ∀ (l : List (Nat × V)) (j : Nat), look l j = .any ∨ (j, look l j) ∈ l
  | [], j => .inl rfl
  | (i, v) :: l, j => by
    rw [look_cons]
    by_cases h : i = j
    · subst h; right; simp [bsel]
    · have : (i == j) = false := by simpa using h
      rw [this, bsel_false]
      rcases look_mem l j with h1 | h1
      · exact .inl h1
      · exact .inr (by simp [h1])
/-- Of the temporaries some are kept in sight. -/
theorem T_env {C : Ctx} {ro : Option Nat} {c : Code} {Q : Exit → List V → Heap → Prop} {ts : List V} {H : Heap} {N : Nat} (l : List (Nat × V)) (hL : ts.length = N) (hl : ∀ p ∈ l, nth ts p.1 = p.2) (h : T C ro c Q (env N l) H) : T C ro c Q ts H := by
  intro im pl w a hr
  refine h im pl w a ⟨⟨by rw [env_length, ← hL]; exact hr.tr.1, fun j => ?_⟩, hr.hr, hr.df⟩
  rw [nth_env]
  unfold cif
  split
  · rcases look_mem l j with h1 | h1
    · rw [h1]; exact .any _
    · have := hl _ h1
      simp only at this
      rw [← this]; exact hr.tr.2 j
  · exact .any _
def argsl : Nat → List V → List (Nat × V)
  | _, [] => []
  | k, a :: l => (k, a) :: argsl (k + 1) l
theorem argsl_nil (k : Nat) : argsl k [] = [] := rfl
theorem argsl_cons (k : Nat) (a : V) (l : List V) : argsl k (a :: l) = (k, a) :: argsl (k + 1) l := rfl
theorem argsl_mem : ∀ (l : List V) (k : Nat) (p : Nat × V), p ∈ argsl k l → k ≤ p.1 ∧ p.1 < k + l.length ∧ nth l (p.1 - k) = p.2
  | [], k, p, h => by simp [argsl] at h
  | a :: l, k, p, h => by
    rw [argsl_cons] at h
    rcases List.mem_cons.1 h with rfl | h
    · simp [nth]
    · obtain ⟨h1, h2, h3⟩ := argsl_mem l (k + 1) p h
      refine ⟨by omega, by simp only [List.length_cons]; omega, ?_⟩
      rw [show p.1 - k = (p.1 - (k + 1)) + 1 by omega]
      simpa [nth] using h3
theorem Fc.bodyE {C : Ctx} {f : FuncId} {fn : Func} {c : Code} {args : List V} {H : Heap} {K : V → Heap → Prop} (hf : C.P.funcs[f]? = some fn) (hb : fn.body = some c) (hn : (fn.name == "runtime.NumGoroutine") = false) (ha : args.length ≤ fn.ntmps)
    (h : T C none c (endQ C.ty fn.results.toList K) (env fn.ntmps (argsl 0 args)) H) : Fc C f args H K := by
  refine Fc.body hf hb hn (T_env (argsl 0 args) (by simp; omega) (fun p hp => ?_) h)
  obtain ⟨h1, h2, h3⟩ := argsl_mem args 0 p hp
  rw [nth_append, if_pos (by omega)]
  exact h3

theorem opsl_at {ty : TypeId → Ty} {cw : CW} {KL : List V → Heap → Prop} {ts : List V} {H : Heap} {l : List Oper} {d : Option Tmp} {op : Op} {t : TypeId} {p : String} {e : Array Edge} {j : Nat} {b : Bool} {rest : List Oper} {s : Tmp} (h : dstAt l j = some s) :
    opsl ty cw l.toArray KL (⟨d, op, t, p, e, some (j, b)⟩ :: rest) ts H = guardb (nth ts s) s b ts (fun ts => opc ty cw op ts H fun v H' => opsl ty cw l.toArray KL rest (putd ts d v) H') (fun ts => opsl ty cw l.toArray KL rest (putd ts d (.tup [])) H) := by
  rw [opsl_guard, guardn_eq, h, guardo_some]
theorem opsd_at {C : Ctx} {cw : CW} {KL : List V → Heap → Prop} {ts : List V} {H0 H : Heap} {l : List Oper} {d : Option Tmp} {op : Op} {t : TypeId} {p : String} {e : Array Edge} {j : Nat} {b : Bool} {rest : List Oper} {s : Tmp} (h : dstAt l j = some s) :
    opsd C cw l.toArray H0 KL (⟨d, op, t, p, e, some (j, b)⟩ :: rest) ts H = guardb (nth ts s) s b ts (fun ts => opd C cw op ts H0 H fun v H' => opsd C cw l.toArray H0 KL rest (putd ts d v) H') (fun ts => opsd C cw l.toArray H0 KL rest (putd ts d (.tup [])) H) := by
  rw [opsd_guard, guardn_eq, h, guardo_some]
theorem keep0 {u v : V} (hg : ∀ g, ren g v = v) (h : v = u) : ∃ sel, keepw sel (fun v H => v = u ∧ H = []) v [] :=
  ⟨[], by simp, by simp, by rw [hg]; exact ⟨h, rfl⟩⟩

theorem next_i64 {α : Type} {pre : List α} {x : α} (h : pre.length < 4611686018427387904) : V.int .i64 (IntKind.i64.wrap ((pre.length : Int) + 1)) = .int .i64 ((pre ++ [x]).length : Int) := by
  rw [wrap64_in (by omega) (by omega)]; simp
theorem succ_i64 {i : Nat} (h : i < 4611686018427387904) : V.int .i64 (IntKind.i64.wrap ((i : Int) + 1)) = .int .i64 ((i + 1 : Nat) : Int) := by
  rw [wrap64_in (by omega) (by omega)]; rfl

/-- A call that changes nothing, and answers one thing. -/
theorem Fc.pure {C : Ctx} {f : FuncId} {args : List V} {H : Heap} {u : V} {K : V → Heap → Prop} (h : Fc C f args [] fun v H => v = u ∧ H = []) (hc : cloL args = true) (hu : ∀ g, ren g u = u) (hK : K u H) : Fc C f args H K := by
  refine h.call hc ?_
  rintro v H' ⟨rfl, rfl⟩
  simpa [hu, renH] using hK
theorem Pc.pure {C : Ctx} {f : FuncId} {args : List V} {H : Heap} {u : V} {K : V → Heap → Prop} (h : Fc C f args [] fun v H => v = u ∧ H = []) (hc : cloL args = true) (hu : ∀ g, ren g u = u) (hK : K u H) : Pc C f args H K := by
  refine Pc.call h ⟨u, [], rfl, rfl⟩ hc ?_
  rintro v H' ⟨rfl, rfl⟩
  simpa [hu, renH] using hK
/-- .. of values that are the caller's own. -/
theorem Fc.pureB {C : Ctx} {f : FuncId} {args args' : List V} {H : Heap} {u : V} {K : V → Heap → Prop} (h : Fc C f args' [] fun v H => v = u ∧ H = []) (hl : args.length = args'.length) (hb : ∀ j, Bor H (nth args j) (nth args' j)) (hu : ∀ g, ren g u = u) (hp : plain u = true) (hK : K u H) : Fc C f args H K := by
  refine h.borrow hl hb ?_ ?_
  · rintro v H' ⟨rfl, rfl⟩; exact ⟨hp, fun r row hr => by simp at hr⟩
  · rintro v H' ⟨rfl, rfl⟩
    simpa [hu, renH] using hK
end Go.Bv
end

section
/-
  PART 27: regions that draw, in which a variable is made at any time: what is made ahead of its turn waits.
-/
set_option linter.unusedVariables false
set_option linter.unusedSimpArgs false
namespace Go.Bv
open Go.RowKit

theorem VR.places {im : Nat → Prop} {pl pl' : Nat → Place} {w : World} (hp : ∀ r, pl r ≠ .no → pl' r = pl r) {v : V} {c : Value} (h : VR im pl w v c) : VR im pl' w v c := by
  induction h with
  | any v => exact .any v
  | int k n => exact .int k n
  | bool b => exact .bool b
  | str s => exact .str s
  | nil => exact .nil
  | sl0 cs a c => exact .sl0 cs a c
  | sl n cs ad c vs hn hi hc hr ih => exact .sl n cs ad c vs hn hi hc ih
  | refAt r off n b cap c h hc h0 => exact .refAt r off n b cap c ((hp r (by rw [h]; simp)).trans h) hc h0
  | refVirt r h => exact .refVirt r ((hp r (by rw [h]; simp)).trans h)
  | refDead r off n a c h => exact .refDead r off n a c ((hp r (by rw [h]; simp)).trans h)
  | agg cs vs hl hr ih => exact .agg cs vs hl ih
  | tup cs vs hl hr ih => exact .tup cs vs hl ih
  | ptrAt r off b cap h => exact .ptrAt r off b cap ((hp r (by rw [h]; simp)).trans h)
  | ptrDead r off a h => exact .ptrDead r off a ((hp r (by rw [h]; simp)).trans h)
  | nilp => exact .nilp
  | rp cs off ad vs hi hc hr ih => exact .rp cs off ad vs hi hc ih
  | fn f xs ys us vs hl hr hl' hr' ih ih' => exact .fn f xs ys us vs hl ih hl' ih'
  | nilf => exact .nilf
/-- A block that no row has is taken in as the next row. -/
theorem HR.adopt {im : Nat → Prop} {pl : Nat → Place} {w : World} {H : Heap} (h : HR im pl w H) (e : Nat) (cs : List V) (cur : Array Value) {b : Nat} (hb : w.heap[b]? = some (.cells cur e (0, 0))) (hi : ¬ im b) (hn : ∀ r cap, pl r ≠ .at b cap)
    (hl : cs.length = cur.size) (hv : ∀ j, VR im pl w (nth cs j) (cur.getD j undef)) : HR im (setp pl H.length (.at b 1)) w (H ++ [some ⟨e, cs.length, cs⟩]) ∧ ∀ v c, VR im pl w v c → VR im (setp pl H.length (.at b 1)) w v c := by
  have hno := h.no (Nat.le_refl _)
  have hp : ∀ r, pl r ≠ .no → setp pl H.length (.at b 1) r = pl r := fun r hr => setp_other _ _ _ _ (fun e => hr (e ▸ hno))
  have hlt : b < w.heap.size := (Array.getElem?_eq_some_iff.1 hb).1
  have old : ∀ r c b', setp pl H.length (.at b 1) r = .at b' c → (r = H.length ∧ b' = b ∧ c = 1) ∨ (r ≠ H.length ∧ pl r = .at b' c) := fun r c b' hr => by
    by_cases e1 : r = H.length
    · subst e1; rw [setp_same] at hr; injection hr with h1 h2; exact .inl ⟨rfl, h1.symm, h2.symm⟩
    · rw [setp_other _ _ _ _ e1] at hr; exact .inr ⟨e1, hr⟩
  refine ⟨⟨fun r => ?_, fun b' hb' r c hr => ?_, fun r b' c hr => ?_, h.imb, fun r r' b' c c' h1 h2 => ?_, fun r hr => ?_, fun r hr => ?_, fun r b' c hr => ?_⟩, fun v c hvc => hvc.places hp⟩
  · by_cases e1 : r = H.length
    · subst e1; rw [setp_same]; simp
    · rw [setp_other _ _ _ _ e1]
      rw [← h.len r]; simp; omega
  · rcases old r c b' hr with ⟨_, rfl, _⟩ | ⟨_, h1⟩
    · exact hi hb'
    · exact h.apart b' hb' r c h1
  · rcases old r c b' hr with ⟨_, rfl, _⟩ | ⟨_, h1⟩
    · exact hlt
    · exact h.bound r b' c h1
  · rcases old r c b' h1 with ⟨q1, q2, _⟩ | ⟨q1, q2⟩ <;> rcases old r' c' b' h2 with ⟨p1, p2, _⟩ | ⟨p1, p2⟩
    · rw [q1, p1]
    · subst q2; exact (hn r' c' p2).elim
    · subst p2; exact (hn r c q2).elim
    · exact h.inj r r' b' c c' q2 p2
  · by_cases e1 : r = H.length
    · subst e1; rw [setp_same] at hr; cases hr
    · rw [setp_other _ _ _ _ e1] at hr
      rw [List.getElem?_append_left (h.lt (by rw [hr]; simp))]; exact h.dead r hr
  · by_cases e1 : r = H.length
    · subst e1; rw [setp_same] at hr; cases hr
    · rw [setp_other _ _ _ _ e1] at hr
      rw [List.getElem?_append_left (h.lt (by rw [hr]; simp))]; exact h.virt r hr
  · rcases old r c b' hr with ⟨rfl, rfl, rfl⟩ | ⟨_, h1⟩
    · exact ⟨e, cs.length, cs, cur, by simp, hb, by omega, by simp [maxLen], by omega, fun j => (hv j).places hp⟩
    · obtain ⟨e', s', cs', cur', q1, q2, q3, q4, q5, q6⟩ := h.row r b' c h1
      exact ⟨e', s', cs', cur', by rw [List.getElem?_append_left (h.lt (by rw [h1]; simp))]; exact q1, q2, q3, q4, q5, fun j => (q6 j).places hp⟩

/-! ### The region -/
def isAlloc : Op → Option TypeId
  | .alloc t => some t
  | _ => none
/-- The one that is made at any time: its place, its slot, its type. -/
def lateAt (ops : Array Oper) (m d : Nat) (t : TypeId) : Bool := match ops[m]? with
  | some o => (o.dst == some d) && (isAlloc o.op == some t) && o.guard.isNone && o.after.toList.all fun e => !Region.binds .any e
  | none => false
def slotsApart (ops : Array Oper) (i j : Nat) : Bool := match ops[i]?, ops[j]? with
  | some x, some y => x.apart ops y
  | _, _ => true
def drawLate (ops : Array Oper) (m : Nat) : Bool :=
  allKnown ops &&
  ((List.range ops.size).all fun i => match ops[i]? with
    | none => true
    | some o =>
      (o.after.toList.all fun e => !Region.binds .any e || decide (e.on < i)) &&
      ((List.range i).all fun j => decide (j = m) || decide (i = m) || okPair ops j i || ahead ops i j i) &&
      (!isStore o.op || (List.range ops.size).all fun j => match ops[j]? with
        | some p => !isLoad p.op || bindsTo o j
        | none => true) &&
      (!isApp o.op || (List.range ops.size).all fun j => match ops[j]? with
        | some p => isFree p.op || isEff p.op || aheadA ops i j i
        | none => true)) &&
  ((List.range m).all fun j => slotsApart ops j m) &&
  ((List.range ops.size).all fun i => decide (i ≤ m) || okPair ops m i || (ahead ops i m i && (List.range m).all fun j => okPair ops j m || ahead ops i j i))

theorem drawLate_parts {ops : Array Oper} {m : Nat} (h : drawLate ops m = true) : allKnown ops = true ∧ (∀ i o, ops[i]? = some o → i ≠ m → Hat ops (· ≠ m) i o) ∧ (∀ j, j < m → slotsApart ops j m = true) ∧
    ∀ i, i < ops.size → m < i → okPair ops m i = true ∨ (ahead ops i m i = true ∧ ∀ j, j < m → okPair ops j m = true ∨ ahead ops i j i = true) := by
  simp only [drawLate, Bool.and_eq_true, List.all_eq_true, List.mem_range] at h
  obtain ⟨⟨⟨h1, h2⟩, h3⟩, h4⟩ := h
  refine ⟨h1, fun i o ho hne => ?_, h3, fun i hi hm => ?_⟩
  · have hlt : i < ops.size := (Array.getElem?_eq_some_iff.1 ho).1
    have h := h2 i hlt
    simp only [ho, Bool.and_eq_true, List.all_eq_true, List.mem_range, Bool.or_eq_true, Bool.not_eq_true', decide_eq_true_eq] at h
    refine ⟨fun j hj => ?_, fun j hj hjm => ?_, fun hs j p hp hl => ?_, fun hs j p hp => ?_⟩
    · simp only [bindsTo, List.any_eq_true, Bool.and_eq_true] at hj
      obtain ⟨e, he, h4, h5⟩ := hj
      rw [beq_iff_eq] at h5
      subst h5
      rcases h.1.1.1 e he with h6 | h6
      · rw [h4] at h6; cases h6
      · exact h6
    · rcases h.1.1.2 j hj with ((h5 | h5) | h5) | h5
      · exact (hjm h5).elim
      · exact (hne h5).elim
      · exact .inl h5
      · exact .inr h5
    · have hlj : j < ops.size := (Array.getElem?_eq_some_iff.1 hp).1
      rcases h.1.2 with h6 | h6
      · rw [hs] at h6; cases h6
      · have := h6 j hlj
        simp only [hp, Bool.or_eq_true, Bool.not_eq_true', hl, Bool.true_eq_false, false_or] at this
        exact this
    · have hlj : j < ops.size := (Array.getElem?_eq_some_iff.1 hp).1
      rcases h.2 with h6 | h6
      · rw [hs] at h6; cases h6
      · have := h6 j hlj
        simp only [hp, Bool.or_eq_true] at this
        exact this
  · have := h4 i hi
    simp only [Bool.or_eq_true, Bool.and_eq_true, decide_eq_true_eq, List.all_eq_true, List.mem_range] at this
    rcases this with (h5 | h5) | h5
    · omega
    · exact .inl h5
    · exact .inr h5

def InvN (im : Nat → Prop) (pl : Nat → Place) (w0 : World) (ds : List Deferred) (ts : List V) (H : Heap) (a : Act) (w : World) : Prop := ∃ im' pl', Rel im' pl' w ts H a ∧ Ext im pl w0 im' pl' w ∧ a.defers = ds
/-- It has been made, ahead of its turn. -/
def InvP (im : Nat → Prop) (pl : Nat → Place) (w0 : World) (ds : List Deferred) (y : Ty) (t d : Nat) (ts : List V) (H : Heap) (a : Act) (w : World) : Prop := ∃ im' pl' b, Rel im' pl' w (upd ts d .any) H a ∧ Ext im pl w0 im' pl' w ∧ a.defers = ds ∧
  w0.heap.size ≤ b ∧ w.heap[b]? = some (.cells y.z.cells t (0, 0)) ∧ ¬ im' b ∧ (∀ r cap, pl' r ≠ .at b cap) ∧ (a.tmps.getD d undef = .pointer (some ⟨b, 0, none⟩) ∨ a.tmps.size ≤ d)
section
variable {C : Ctx} {im : Nat → Prop} {pl : Nat → Place} {w0 : World} {ds : List Deferred} {t d : Nat}
theorem InvP.flush (ht : (C.ty t).ok = true) {ts : List V} {H : Heap} {a : Act} {w : World} (h : InvP im pl w0 ds (C.ty t) t d ts H a w) : InvN im pl w0 ds (upd ts d (.ptr H.length 0)) (H ++ [some ⟨t, (zsOf (C.ty t)).length, zsOf (C.ty t)⟩]) a w := by
  obtain ⟨im', pl', b, h1, h2, h3, h4, h5, h6, h7, h8⟩ := h
  have hz := zs_VR (im := im') (pl := pl') (w := w) (C.ok t ht)
  obtain ⟨g1, g2⟩ := h1.hr.adopt t (zsOf (C.ty t)) (C.ty t).z.cells h5 h6 h7 hz.1 hz.2
  have hno := h1.hr.no (Nat.le_refl _)
  refine ⟨im', setp pl' H.length (.at b 1), ⟨⟨?_, fun i => ?_⟩, g1, ?_⟩, ⟨h2.os, h2.tape, h2.output, h2.size, h2.imm, h2.imn, fun r hr => ?_, fun r b' c hr => ?_, h2.frame⟩, h3⟩
  · have := h1.tr.1; rw [upd_length] at this ⊢; exact this
  · have := h1.tr.2 i
    rw [nth_upd] at this ⊢
    by_cases hi : i = d ∧ d < ts.length
    · obtain ⟨rfl, hlt⟩ := hi
      rw [if_pos ⟨rfl, hlt⟩]
      rcases h8 with h8 | h8
      · rw [h8]; exact .ptrAt _ 0 b 1 (setp_same _ _ _)
      · have := h1.tr.1; rw [upd_length] at this; omega
    · rw [if_neg hi] at this ⊢; exact g2 _ _ this
  · obtain ⟨q1, q2⟩ := h1.df
    refine ⟨q1, fun dd hd => ?_⟩
    obtain ⟨r, e1, e2, e3⟩ := q2 dd hd
    refine ⟨r, e1, e2, fun q cap hq => ?_⟩
    by_cases e4 : q = H.length
    · subst e4; rw [setp_same] at hq; injection hq with e5 _; subst e5; rw [h5] at e2; cases e2
    · rw [setp_other _ _ _ _ e4] at hq; exact e3 q cap hq
  · rcases h2.plo r hr with h | h
    · exact .inl (by rw [setp_other _ _ _ _ (fun e => hr (by rw [← h, e]; exact hno))]; exact h)
    · exact .inr (by rw [setp_other _ _ _ _ (fun e => by rw [e, hno] at h; cases h)]; exact h)
  · by_cases e1 : r = H.length
    · subst e1; rw [setp_same] at hr; injection hr with e2 _; exact .inr (by omega)
    · rw [setp_other _ _ _ _ e1] at hr; exact h2.pln r b' c hr
theorem InvN.op {ro : Option Nat} {o : Oper} {ts : List V} {H : Heap} {a : Act} {w : World} {KK : V → Heap → Prop} {next : Act → World → Prop} {R : Exit → Act → World → Prop} (h : opc C.ty (cwP C) o.op ts H KK) (hR : InvN im pl w0 ds ts H a w)
    (hnext : ∀ v vc H' w', KK v H' → InvN im pl w0 ds (putd ts o.dst v) H' (a.put o.dst vc) w' → next (a.put o.dst vc) w') : o.wpIn (FW ro) 0 C.P a w next R := by
  obtain ⟨im', pl', h1, h2, h3⟩ := hR
  exact opc_sound (cwP_sound C ro) h h1.tr h1.hr fun v vc H2 im2 pl2 w2 k1 k2 k3 k4 => hnext v vc H2 w2 k1 ⟨im2, pl2, h1.put k4 k3 k2 _, h2.trans k4, by rw [put_defers]; exact h3⟩
theorem InvN.skip {ts : List V} {H : Heap} {a : Act} {w : World} (dd : Option Tmp) (hR : InvN im pl w0 ds ts H a w) : InvN im pl w0 ds (putd ts dd (.tup [])) H (a.put dd (.tuple [].toArray)) w := by
  obtain ⟨im', pl', h1, h2, h3⟩ := hR
  exact ⟨im', pl', h1.put (.refl _ _ _) h1.hr (.tup [] [] rfl fun j => by simp [nth, List.getD]; exact .any _) _, h2, by rw [put_defers]; exact h3⟩
theorem put_other (a : Act) {dd : Option Tmp} (v : Value) (h : dd ≠ some d) : (a.put dd v).tmps.getD d undef = a.tmps.getD d undef ∧ (a.put dd v).tmps.size = a.tmps.size := by
  cases dd with
  | none => exact ⟨rfl, rfl⟩
  | some i =>
    have hne : i ≠ d := fun e => h (by rw [e])
    exact ⟨by simp [Act.put, Array.getD_eq_getD_getElem?, Array.getElem?_setIfInBounds, hne], by simp [Act.put]⟩
theorem InvP.op {ro : Option Nat} {o : Oper} {ts : List V} {H : Heap} {a : Act} {w : World} {KK : V → Heap → Prop} {next : Act → World → Prop} {R : Exit → Act → World → Prop} (hd : o.dst ≠ some d) (h : opc C.ty (cwP C) o.op (upd ts d .any) H KK) (hR : InvP im pl w0 ds (C.ty t) t d ts H a w)
    (hnext : ∀ v vc H' w', KK v H' → InvP im pl w0 ds (C.ty t) t d (putd ts o.dst v) H' (a.put o.dst vc) w' → next (a.put o.dst vc) w') : o.wpIn (FW ro) 0 C.P a w next R := by
  obtain ⟨im', pl', b, h1, h2, h3, h4, h5, h6, h7, h8⟩ := hR
  have hlt : b < w.heap.size := (Array.getElem?_eq_some_iff.1 h5).1
  refine opc_sound (cwP_sound C ro) h h1.tr h1.hr fun v vc H2 im2 pl2 w2 k1 k2 k3 k4 => hnext v vc H2 w2 k1 ⟨im2, pl2, b, ?_, h2.trans k4, by rw [put_defers]; exact h3, h4, by rw [k4.frame b hlt h7]; exact h5, fun hb => ?_, fun r cap hr => ?_, ?_⟩
  · have := h1.put k4 k3 k2 o.dst
    rwa [show putd (upd ts d .any) o.dst v = upd (putd ts o.dst v) d .any from putd_comm (d := some d) (e := o.dst) (fun t ht e => hd (by rw [e, ht])) .any v] at this
  · rcases k4.imn b hb with q | q | ⟨r, cap, q⟩
    · exact h6 q
    · omega
    · exact h7 r cap q
  · rcases k4.pln r b cap hr with ⟨r', cap', q⟩ | q
    · exact h7 r' cap' q
    · omega
  · obtain ⟨e1, e2⟩ := put_other a vc hd
    rw [e1, e2]; exact h8
theorem InvP.skip {ts : List V} {H : Heap} {a : Act} {w : World} {dd : Option Tmp} (hd : dd ≠ some d) (hR : InvP im pl w0 ds (C.ty t) t d ts H a w) : InvP im pl w0 ds (C.ty t) t d (putd ts dd (.tup [])) H (a.put dd (.tuple [].toArray)) w := by
  obtain ⟨im', pl', b, h1, h2, h3, h4, h5, h6, h7, h8⟩ := hR
  refine ⟨im', pl', b, ?_, h2, by rw [put_defers]; exact h3, h4, h5, h6, h7, ?_⟩
  · have := h1.put (.refl _ _ _) h1.hr (v := .tup []) (vc := .tuple [].toArray) (.tup [] [] rfl fun j => by simp [nth, List.getD]; exact .any _) dd
    rwa [show putd (upd ts d .any) dd (.tup []) = upd (putd ts dd (.tup [])) d .any from putd_comm (d := some d) (e := dd) (fun t ht e => hd (by rw [e, ht])) .any _] at this
  · obtain ⟨e1, e2⟩ := put_other a (.tuple [].toArray) hd
    rw [e1, e2]; exact h8
/-- It is made. -/
theorem InvP.made {ro : Option Nat} (ht : (C.ty t).ok = true) {o : Oper} (ho : o.op = .alloc t) (hd : o.dst = some d) {ts : List V} {H : Heap} {a : Act} {w : World} {next : Act → World → Prop} {R : Exit → Act → World → Prop} (hR : InvN im pl w0 ds ts H a w)
    (hnext : ∀ vc w', InvP im pl w0 ds (C.ty t) t d ts H (a.put o.dst vc) w' → next (a.put o.dst vc) w') : o.wpIn (FW ro) 0 C.P a w next R := by
  obtain ⟨im', pl', h1, h2, h3⟩ := hR
  refine ⟨fun _ _ => trivial, ?_⟩
  rw [Oper.semAt_eq ro a.eval o (fun c => by rw [ho]; simp)]
  have hrun : (execOp a.eval o).run C.P w = .ok (.value (.pointer (some ⟨w.heap.size, 0, none⟩))) (w.alloc (.cells (C.ty t).z.cells t)) := by
    simp only [execOp, ho, Instr.alloc, Sem.run_bind, (C.ok t ht).zero, run_newVar, Sem.run_pure, Result.andThen_ok]
  rw [hrun]
  have hE : Ext im' pl' w im' pl' (w.alloc (.cells (C.ty t).z.cells t)) := ⟨rfl, rfl, rfl, by simp, fun _ hb => hb, fun _ hb => .inl hb, fun r hr => .inl rfl, fun r b c hb => .inl ⟨r, c, hb⟩, fun b hb _ => heap_alloc_old _ _ _ hb⟩
  have hH : HR im' pl' (w.alloc (.cells (C.ty t).z.cells t)) H := by
    obtain ⟨g1, g2, g3, g4, g5, g6, g7, g8⟩ := h1.hr
    refine ⟨g1, g2, fun r b c hr => Nat.lt_of_lt_of_le (g3 r b c hr) hE.size, fun b hb => Nat.lt_of_lt_of_le (g4 b hb) hE.size, g5, g6, g7, fun r b c hr => ?_⟩
    obtain ⟨e, s, cs, cur, q1, q2, q3, q4, q5, q6⟩ := g8 r b c hr
    exact ⟨e, s, cs, cur, q1, by rw [heap_alloc_old _ _ _ (g3 r b c hr)]; exact q2, q3, q4, q5, fun j => (q6 j).mono hE g2⟩
  refine hnext _ _ ⟨im', pl', w.heap.size, ?_, h2.trans hE, by rw [put_defers]; exact h3, h2.size, heap_alloc_new _ _, fun hb => Nat.lt_irrefl _ (h1.hr.imb _ hb), fun r cap hr => Nat.lt_irrefl _ (h1.hr.bound r _ cap hr), ?_⟩
  · have := h1.put hE hH (v := .any) (vc := .pointer (some ⟨w.heap.size, 0, none⟩)) (.any _) o.dst
    rw [hd] at this ⊢; exact this
  · rw [hd]
    by_cases hlt : d < a.tmps.size
    · left; simp [Act.put, Array.getD_eq_getD_getElem?, Array.getElem?_setIfInBounds, hlt]
    · right; simp [Act.put]; omega
theorem tro_yes {cw : CW} {ops : Array Oper} {H0 : Heap} {o : Oper} {ts : List V} {H : Heap} {K : V → Heap → Prop} (hg : o.guard = none) (h : tro C cw ops H0 o ts H K) : opd C cw o.op ts H0 H K := by
  simp only [tro, guardw, hg] at h; exact h
/-- What is still to be done, in some order: all that waits. -/
theorem late_wait {ro : Option Nat} {ops : Array Oper} {m : Nat} {om : Oper} (hom : ops[m]? = some om) (hop : om.op = .alloc t) (hdst : om.dst = some d) (hgd : om.guard = none) (ht : (C.ty t).ok = true) (hdr : drawLate ops m = true) {H0 : Heap} {K : List V → Heap → Prop} {R : Exit → Act → World → Prop}
    (hK : ∀ a w ts H, K ts H → InvN im pl w0 ds ts H a w → R .normal a w) : ∀ (fuel : Nat) (la lb : List Nat) (listed : Array Bool) (ts : List V) (H : Heap) (w : World) (a : Act), (∀ i ∈ la, i < m) → (∀ i ∈ lb, m < i) → Left ops listed (la ++ lb) → (la ++ lb).length ≤ fuel →
    (Same H0 H ∨ (Stand H0 H ∧ ∀ j ∈ la ++ lb, ∀ p, ops[j]? = some p → isLoad p.op = false) ∨ (∀ j ∈ la ++ lb, ∀ p, ops[j]? = some p → isFree p.op = true ∨ isEff p.op = true)) → opsx C (cwP C) ops H0 K (la ++ m :: lb) ts H → InvP im pl w0 ds (C.ty t) t d ts H a w →
    wpAnyIn (FW ro) 0 C.P .any ops R fuel listed a w := by
  obtain ⟨hk, hat, hsl, hpm⟩ := drawLate_parts hdr
  have hcw := cwP_ok C
  -- it takes its turn
  have flush : ∀ (fuel : Nat) (la lb : List Nat) (listed : Array Bool) (ts : List V) (H : Heap) (w : World) (a : Act), (∀ i ∈ la, i < m) → (∀ i ∈ lb, m < i) → (∀ j ∈ la, okPair ops j m = true) → Left ops listed (la ++ lb) → (la ++ lb).length ≤ fuel →
      (Same H0 H ∨ (Stand H0 H ∧ ∀ j ∈ la ++ lb, ∀ p, ops[j]? = some p → isLoad p.op = false) ∨ (∀ j ∈ la ++ lb, ∀ p, ops[j]? = some p → isFree p.op = true ∨ isEff p.op = true)) → opsx C (cwP C) ops H0 K (la ++ m :: lb) ts H → InvP im pl w0 ds (C.ty t) t d ts H a w →
      wpAnyIn (FW ro) 0 C.P .any ops R fuel listed a w := by
    intro fuel la lb listed ts H w a ha hb hp hL hlen hS hx hR
    have h1 := opsx_bubble hcw hk lb la hp ts H hx
    simp only [opsx, hom] at h1
    have h2 := tro_yes hgd h1
    rw [hop] at h2
    simp only [opd, isEff, if_true, opc, opw] at h2
    have h3 := h2.2
    rw [hdst] at h3
    refine any_soundG hcw (ro := ro) (ops := ops) (H0 := H0) (K := K) (R := R) (Inv := InvN im pl w0 ds) hk (· ≠ m) (fun i o ho hi => hat i o ho hi) ?_ (fun i o ho ts H a w KK next h hR hn => hR.op h hn) (fun ts H a w dd hR => hR.skip dd) hK
      fuel (la ++ lb) listed _ _ w a (fun i hi => ?_) hL hlen ?_ h3 (hR.flush ht)
    · rintro ts H a w ⟨im', pl', q, _⟩; exact ⟨im', pl', q.tr⟩
    · rcases List.mem_append.1 hi with h | h
      · have := ha i h; omega
      · have := hb i h; omega
    · exact hS.imp (·.trans (.app _ _)) fun h => h.imp (fun h => ⟨h.1.trans (Same.app _ _).stand, h.2⟩) id
  intro fuel
  induction fuel with
  | zero =>
    intro la lb listed ts H w a ha hb hL hlen hS hx hR
    have : la ++ lb = [] := List.length_eq_zero_iff.1 (by omega)
    obtain ⟨rfl, rfl⟩ := List.append_eq_nil_iff.1 this
    exact flush 0 [] [] listed ts H w a (by simp) (by simp) (by simp) hL (by simp) hS hx hR
  | succ fuel ih =>
    intro la lb listed ts H w a ha hb hL hlen hS hx hR
    have un : ∀ j, j ∈ la ++ lb → ∀ i o, ops[i]? = some o → (∀ k, bindsTo o k = true → listed.getD k false = true) → ahead ops i j i = false := fun j hj i o ho h3 => by
      cases h : ahead ops i j i with
      | false => rfl
      | true =>
        have h5 := ahead_listed hL.closed i j i o ho h3 h
        have h6 := (hL.mem j).1 hj
        rw [h5] at h6; cases h6.2
    refine ⟨fun hr => ?_, fun i hi => ?_⟩
    · by_cases hn : la ++ lb = []
      · obtain ⟨rfl, rfl⟩ := List.append_eq_nil_iff.1 hn
        exact (flush (fuel + 1) [] [] listed ts H w a (by simp) (by simp) (by simp) hL (by simp) hS hx hR).1 hr
      · exfalso
        -- the first one is ready
        obtain ⟨i, S, hS'⟩ := List.exists_cons_of_ne_nil hn
        have hmem : i ∈ la ++ lb := by rw [hS']; simp
        have hi := (hL.mem i).1 hmem
        have hne : i ≠ m := by
          rcases List.mem_append.1 hmem with h | h
          · have := ha i h; omega
          · have := hb i h; omega
        have : i ∈ Region.ready .any ops listed := by
          refine mem_ready.2 ⟨?_, ops[i], by simp [hi.1], fun e he hbb => ?_⟩
          · have hlt : i < listed.size := by rw [hL.size]; exact hi.1
            have := hi.2
            simp only [Array.getD_eq_getD_getElem?, hlt, Array.getElem?_eq_getElem, Option.getD_some] at this ⊢
            exact this
          · have hbt : bindsTo ops[i] e.on = true := by
              simp only [bindsTo, List.any_eq_true, Bool.and_eq_true]
              exact ⟨e, by simpa using he, hbb, by simp⟩
            have hlt := (hat i ops[i] (by simp [hi.1]) hne).1 e.on hbt
            cases hl : listed.getD e.on false with
            | true => rfl
            | false =>
              have h1 := (hL.mem e.on).2 ⟨by omega, hl⟩
              have hs := hL.sorted
              rw [hS'] at hs h1
              rw [List.pairwise_cons] at hs
              rcases List.mem_cons.1 h1 with h1 | h1
              · omega
              · have := hs.1 _ h1; omega
        rw [hr] at this
        cases this
    · obtain ⟨h1, o, ho, h3⟩ := ready_mem hi
      have hlt : i < ops.size := (Array.getElem?_eq_some_iff.1 ho).1
      have hlt' : i < listed.size := by rw [hL.size]; exact hlt
      have hm := (hL.mem i).2 ⟨hlt, by simpa only [Array.getD_eq_getD_getElem?, hlt', Array.getElem?_eq_getElem, Option.getD_some] using h1⟩
      have hs := hL.sorted
      have hsa := hs
      rw [List.pairwise_append] at hsa
      have hne : i ≠ m := by
        rcases List.mem_append.1 hm with h | h
        · have := ha i h; omega
        · have := hb i h; omega
      -- what is done with i, once it stands in front
      have go : ∀ (la' lb' : List Nat), (∀ j ∈ la', j < m) → (∀ j ∈ lb', m < j) → (∀ j, j ∈ la' ++ lb' → j ∈ la ++ lb) → Left ops (listed.setIfInBounds i true) (la' ++ lb') → (la' ++ lb').length ≤ fuel → opsx C (cwP C) ops H0 K (i :: (la' ++ m :: lb')) ts H →
          (∀ u, some d = some u → u ∉ o.looksAt ops) → o.dst ≠ some d → wpOpIn (FW ro) 0 C.P ops R i (wpAnyIn (FW ro) 0 C.P .any ops R fuel (listed.setIfInBounds i true)) a w := by
        intro la' lb' ha' hb' hsub hL' hlen' hb0 hlk hds
        simp only [opsx, ho] at hb0
        unfold wpOpIn
        simp only [ho]
        rw [← tro_put (d := some d) (v := .any) hlk] at hb0
        obtain ⟨im', pl', b, q1, q2⟩ := hR
        have hR' : InvP im pl w0 ds (C.ty t) t d ts H a w := ⟨im', pl', b, q1, q2⟩
        rcases guard_sound hb0 q1.tr with ⟨hw, h⟩ | ⟨hw, h⟩
        · rw [if_pos hw]
          have hS1 : Same H0 H ∨ (Stand H0 H ∧ isLoad o.op = false) ∨ (isFree o.op = true ∨ isEff o.op = true) := hS.imp id fun h => h.imp (fun h => ⟨h.1, h.2 i hm o ho⟩) (fun h => h i hm o ho)
          refine hR'.op hds (opd_sound hcw (allKnown_at hk ho) hS1 h) fun v vc H' w' k1 k2 => ?_
          refine ih la' lb' _ _ H' w' _ ha' hb' hL' hlen' ?_ k1.2 k2
          rcases k1.1 with k5 | ⟨k5, k6⟩ | k5
          · rcases hS with hS | hS | hS
            · exact .inl (hS.trans k5)
            · exact .inr (.inl ⟨hS.1.trans k5.stand, fun j hj p hp => hS.2 j (hsub j hj) p hp⟩)
            · exact .inr (.inr fun j hj p hp => hS j (hsub j hj) p hp)
          · have hnl : ∀ j ∈ la' ++ lb', ∀ p, ops[j]? = some p → isLoad p.op = false := fun j hj p hp => by
              cases hl : isLoad p.op with
              | false => rfl
              | true =>
                have h7 := (hat i o ho hne).2.2.1 k5 j p hp hl
                have h8 := h3 j h7
                have h9 := (hL.mem j).1 (hsub j hj)
                rw [h8] at h9
                cases h9.2
            rcases hS with hS | hS | hS
            · exact .inr (.inl ⟨hS.stand.trans k6, hnl⟩)
            · exact .inr (.inl ⟨hS.1.trans k6, hnl⟩)
            · exact .inr (.inr fun j hj p hp => hS j (hsub j hj) p hp)
          · refine .inr (.inr fun j hj p hp => ?_)
            rcases (hat i o ho hne).2.2.2 k5 j p hp with h7 | h7
            · exact h7
            · have h8 := aheadA_listed hL.closed i j i o ho h3 h7
              have h9 := (hL.mem j).1 (hsub j hj)
              rw [h8] at h9
              cases h9.2
        · rw [if_neg (by simp [hw])]
          refine ⟨fun _ _ => trivial, ih la' lb' _ _ H w _ ha' hb' hL' hlen' ?_ h (hR'.skip hds)⟩
          exact hS.imp id fun h => h.imp (fun h => ⟨h.1, fun j hj p hp => h.2 j (hsub j hj) p hp⟩) (fun h j hj p hp => h j (hsub j hj) p hp)
      have pair : ∀ j, j ∈ la ++ lb → j < i → okPair ops j i = true := fun j hj hji => by
        have hjm : j ≠ m := by
          rcases List.mem_append.1 hj with h | h
          · have := ha j h; omega
          · have := hb j h; omega
        rcases (hat i o ho hne).2.1 j hji hjm with h4 | h4
        · exact h4
        · rw [un j hj i o ho h3] at h4; cases h4
      rcases List.mem_append.1 hm with hin | hin
      · -- ahead of it
        obtain ⟨l1, l2, rfl⟩ := List.append_of_mem hin
        have hs1 := hsa.1
        rw [List.pairwise_append] at hs1
        have him : i < m := ha i (by simp)
        have hap := hsl i him
        simp only [slotsApart, ho, hom] at hap
        obtain ⟨e1, e2, e3⟩ := Oper.apart_spec hap
        have hL' : Left ops (listed.setIfInBounds i true) ((l1 ++ l2) ++ lb) := by
          have : Left ops listed (l1 ++ i :: (l2 ++ lb)) := by simpa using hL
          have := this.take ho h3
          simpa using this
        refine go (l1 ++ l2) lb (fun j hj => ha j (by simp at hj ⊢; rcases hj with h | h <;> simp [h])) hb (fun j hj => by simp at hj ⊢; rcases hj with h | h | h <;> simp [h]) hL' (by simp at hlen ⊢; omega) ?_ (fun u hu => by injection hu with hu; subst hu; exact e3 d hdst) (fun e => e2 d e hdst)
        have : opsx C (cwP C) ops H0 K (l1 ++ i :: (l2 ++ m :: lb)) ts H := by simpa using hx
        have := opsx_bubble hcw hk (l2 ++ m :: lb) l1 (fun j hj => pair j (by simp [hj]) (hs1.2.2 j hj i (by simp))) ts H this
        simpa using this
      · -- behind it
        have him : m < i := hb i hin
        rcases hpm i hlt him with hok | ⟨hah, hall⟩
        · obtain ⟨l1, l2, rfl⟩ := List.append_of_mem hin
          have hs1 := hsa.2.1
          rw [List.pairwise_append] at hs1
          have hap : om.apart ops o = true := by
            simp only [okPair, hom, ho, Bool.and_eq_true] at hok; exact hok.1
          obtain ⟨e1, e2, e3⟩ := Oper.apart_spec hap
          have hL' : Left ops (listed.setIfInBounds i true) (la ++ (l1 ++ l2)) := by
            have : Left ops listed ((la ++ l1) ++ i :: l2) := by simpa using hL
            have := this.take ho h3
            simpa using this
          refine go la (l1 ++ l2) ha (fun j hj => hb j (by simp at hj ⊢; rcases hj with h | h <;> simp [h])) (fun j hj => by simp at hj ⊢; rcases hj with h | h | h <;> simp [h]) hL' (by simp at hlen ⊢; omega) ?_ (fun u hu => by injection hu with hu; subst hu; exact e1 d hdst) (fun e => e2 d hdst e)
          have : opsx C (cwP C) ops H0 K ((la ++ m :: l1) ++ i :: l2) ts H := by simpa using hx
          have := opsx_bubble hcw hk l2 (la ++ m :: l1) (fun j hj => by
            rcases List.mem_append.1 hj with hj | hj
            · exact pair j (by simp [hj]) (hsa.2.2 j hj i (by simp))
            · rcases List.mem_cons.1 hj with rfl | hj
              · exact hok
              · exact pair j (by simp [hj]) (hs1.2.2 j hj i (by simp))) ts H this
          simpa using this
        · refine (flush (fuel + 1) la lb listed ts H w a ha hb (fun j hj => ?_) hL hlen hS hx hR).2 i hi
          rcases hall j (ha j hj) with h4 | h4
          · exact h4
          · rw [un j (by simp [hj]) i o ho h3] at h4; cases h4
/-- .. from the region's start. -/
theorem late_start {ro : Option Nat} {ops : Array Oper} {m : Nat} {om : Oper} (hom : ops[m]? = some om) (hop : om.op = .alloc t) (hdst : om.dst = some d) (hgd : om.guard = none) (hfree : ∀ j, bindsTo om j = false) (ht : (C.ty t).ok = true) (hdr : drawLate ops m = true) {H0 : Heap} {K : List V → Heap → Prop} {R : Exit → Act → World → Prop}
    (hK : ∀ a w ts H, K ts H → InvN im pl w0 ds ts H a w → R .normal a w) : ∀ (fuel : Nat) (la lb : List Nat) (listed : Array Bool) (ts : List V) (H : Heap) (w : World) (a : Act), (∀ i ∈ la, i < m) → (∀ i ∈ lb, m < i) → Left ops listed (la ++ m :: lb) → (la ++ m :: lb).length ≤ fuel →
    (Same H0 H ∨ (Stand H0 H ∧ ∀ j ∈ la ++ lb, ∀ p, ops[j]? = some p → isLoad p.op = false) ∨ (∀ j ∈ la ++ lb, ∀ p, ops[j]? = some p → isFree p.op = true ∨ isEff p.op = true)) → opsx C (cwP C) ops H0 K (la ++ m :: lb) ts H → InvN im pl w0 ds ts H a w →
    wpAnyIn (FW ro) 0 C.P .any ops R fuel listed a w := by
  obtain ⟨hk, hat, hsl, hpm⟩ := drawLate_parts hdr
  have hcw := cwP_ok C
  intro fuel
  induction fuel with
  | zero => intro la lb listed ts H w a ha hb hL hlen; simp at hlen
  | succ fuel ih =>
    intro la lb listed ts H w a ha hb hL hlen hS hx hR
    have hmm := (hL.mem m).1 (by simp)
    have un : ∀ j, j ∈ la ++ m :: lb → ∀ i o, ops[i]? = some o → (∀ k, bindsTo o k = true → listed.getD k false = true) → ahead ops i j i = false := fun j hj i o ho h3 => by
      cases h : ahead ops i j i with
      | false => rfl
      | true =>
        have h5 := ahead_listed hL.closed i j i o ho h3 h
        have h6 := (hL.mem j).1 hj
        rw [h5] at h6; cases h6.2
    refine ⟨fun hr => ?_, fun i hi => ?_⟩
    · exfalso
      obtain ⟨i, S, hS'⟩ := List.exists_cons_of_ne_nil (show la ++ m :: lb ≠ [] by simp)
      have hmem : i ∈ la ++ m :: lb := by rw [hS']; simp
      have hi := (hL.mem i).1 hmem
      have : i ∈ Region.ready .any ops listed := by
        refine mem_ready.2 ⟨?_, ops[i], by simp [hi.1], fun e he hbb => ?_⟩
        · have hlt : i < listed.size := by rw [hL.size]; exact hi.1
          have := hi.2
          simp only [Array.getD_eq_getD_getElem?, hlt, Array.getElem?_eq_getElem, Option.getD_some] at this ⊢
          exact this
        · have hbt : bindsTo ops[i] e.on = true := by
            simp only [bindsTo, List.any_eq_true, Bool.and_eq_true]
            exact ⟨e, by simpa using he, hbb, by simp⟩
          by_cases hne : i = m
          · exfalso
            have hio : ops[i] = om := by have := hom; rw [← hne] at this; simpa [hi.1] using this
            rw [hio] at hbt he
            exact absurd hbt (by rw [hfree (e.on)]; simp)
          · have hlt := (hat i ops[i] (by simp [hi.1]) hne).1 e.on hbt
            cases hl : listed.getD e.on false with
            | true => rfl
            | false =>
              have h1 := (hL.mem e.on).2 ⟨by omega, hl⟩
              have hs := hL.sorted
              rw [hS'] at hs h1
              rw [List.pairwise_cons] at hs
              rcases List.mem_cons.1 h1 with h1 | h1
              · omega
              · have := hs.1 _ h1; omega
      rw [hr] at this
      cases this
    · obtain ⟨h1, o, ho, h3⟩ := ready_mem hi
      have hlt : i < ops.size := (Array.getElem?_eq_some_iff.1 ho).1
      have hlt' : i < listed.size := by rw [hL.size]; exact hlt
      have hm := (hL.mem i).2 ⟨hlt, by simpa only [Array.getD_eq_getD_getElem?, hlt', Array.getElem?_eq_getElem, Option.getD_some] using h1⟩
      have hsa := hL.sorted
      rw [List.pairwise_append] at hsa
      by_cases him : i = m
      · subst him
        rw [hom] at ho; cases ho
        have hL' := hL.take hom h3
        unfold wpOpIn
        simp only [hom]
        rw [if_pos (by simp [Region.wanted, hgd])]
        refine InvP.made ht hop hdst hR fun vc w' hP => ?_
        exact late_wait hom hop hdst hgd ht hdr hK fuel la lb _ ts H w' _ ha hb hL' (by simp at hlen ⊢; omega) hS hx hP
      have go : ∀ (la' lb' : List Nat), (∀ j ∈ la', j < m) → (∀ j ∈ lb', m < j) → (∀ j, j ∈ la' ++ lb' → j ∈ la ++ lb) → Left ops (listed.setIfInBounds i true) (la' ++ m :: lb') → (la' ++ m :: lb').length ≤ fuel → opsx C (cwP C) ops H0 K (i :: (la' ++ m :: lb')) ts H →
          wpOpIn (FW ro) 0 C.P ops R i (wpAnyIn (FW ro) 0 C.P .any ops R fuel (listed.setIfInBounds i true)) a w := by
        intro la' lb' ha' hb' hsub hL' hlen' hb0
        have hmi : i ∈ la ++ lb := by
          simp only [List.mem_append, List.mem_cons] at hm ⊢
          rcases hm with h | h | h
          · exact .inl h
          · exact (him h).elim
          · exact .inr h
        simp only [opsx, ho] at hb0
        unfold wpOpIn
        simp only [ho]
        obtain ⟨im', pl', q1, q2⟩ := hR
        have hR' : InvN im pl w0 ds ts H a w := ⟨im', pl', q1, q2⟩
        have hsub2 : ∀ j, j ∈ la' ++ lb' → j ∈ la ++ m :: lb := fun j hj => by
          have := hsub j hj
          simp only [List.mem_append, List.mem_cons] at this ⊢
          rcases this with h | h
          · exact .inl h
          · exact .inr (.inr h)
        rcases guard_sound hb0 q1.tr with ⟨hw, h⟩ | ⟨hw, h⟩
        · rw [if_pos hw]
          have hS1 : Same H0 H ∨ (Stand H0 H ∧ isLoad o.op = false) ∨ (isFree o.op = true ∨ isEff o.op = true) := hS.imp id fun h => h.imp (fun h => ⟨h.1, h.2 i hmi o ho⟩) (fun h => h i hmi o ho)
          refine hR'.op (opd_sound hcw (allKnown_at hk ho) hS1 h) fun v vc H' w' k1 k2 => ?_
          refine ih la' lb' _ _ H' w' _ ha' hb' hL' hlen' ?_ k1.2 k2
          rcases k1.1 with k5 | ⟨k5, k6⟩ | k5
          · rcases hS with hS | hS | hS
            · exact .inl (hS.trans k5)
            · exact .inr (.inl ⟨hS.1.trans k5.stand, fun j hj p hp => hS.2 j (hsub j hj) p hp⟩)
            · exact .inr (.inr fun j hj p hp => hS j (hsub j hj) p hp)
          · have hnl : ∀ j ∈ la' ++ lb', ∀ p, ops[j]? = some p → isLoad p.op = false := fun j hj p hp => by
              cases hl : isLoad p.op with
              | false => rfl
              | true =>
                have h7 := (hat i o ho him).2.2.1 k5 j p hp hl
                have h8 := h3 j h7
                have h9 := (hL.mem j).1 (hsub2 j hj)
                rw [h8] at h9
                cases h9.2
            rcases hS with hS | hS | hS
            · exact .inr (.inl ⟨hS.stand.trans k6, hnl⟩)
            · exact .inr (.inl ⟨hS.1.trans k6, hnl⟩)
            · exact .inr (.inr fun j hj p hp => hS j (hsub j hj) p hp)
          · refine .inr (.inr fun j hj p hp => ?_)
            rcases (hat i o ho him).2.2.2 k5 j p hp with h7 | h7
            · exact h7
            · have h8 := aheadA_listed hL.closed i j i o ho h3 h7
              have h9 := (hL.mem j).1 (hsub2 j hj)
              rw [h8] at h9
              cases h9.2
        · rw [if_neg (by simp [hw])]
          refine ⟨fun _ _ => trivial, ih la' lb' _ _ H w _ ha' hb' hL' hlen' ?_ h (hR'.skip _)⟩
          exact hS.imp id fun h => h.imp (fun h => ⟨h.1, fun j hj p hp => h.2 j (hsub j hj) p hp⟩) (fun h j hj p hp => h j (hsub j hj) p hp)
      have pair : ∀ j, j ∈ la ++ m :: lb → j ≠ m → j < i → okPair ops j i = true := fun j hj hjm hji => by
        rcases (hat i o ho him).2.1 j hji hjm with h4 | h4
        · exact h4
        · rw [un j hj i o ho h3] at h4; cases h4
      have hm2 : i ∈ la ∨ i ∈ lb := by
        simp only [List.mem_append, List.mem_cons] at hm
        rcases hm with h | h | h
        · exact .inl h
        · exact (him h).elim
        · exact .inr h
      rcases hm2 with hin | hin
      · obtain ⟨l1, l2, rfl⟩ := List.append_of_mem hin
        have hs1 := hsa.1
        rw [List.pairwise_append] at hs1
        have hL' : Left ops (listed.setIfInBounds i true) ((l1 ++ l2) ++ m :: lb) := by
          have : Left ops listed (l1 ++ i :: (l2 ++ m :: lb)) := by simpa using hL
          have := this.take ho h3
          simpa using this
        refine go (l1 ++ l2) lb (fun j hj => ha j (by simp at hj ⊢; rcases hj with h | h <;> simp [h])) hb (fun j hj => by simp at hj ⊢; rcases hj with h | h | h <;> simp [h]) hL' (by simp at hlen ⊢; omega) ?_
        have : opsx C (cwP C) ops H0 K (l1 ++ i :: (l2 ++ m :: lb)) ts H := by simpa using hx
        have := opsx_bubble hcw hk (l2 ++ m :: lb) l1 (fun j hj => pair j (by simp [hj]) (by have := ha j (by simp [hj]); omega) (hs1.2.2 j hj i (by simp))) ts H this
        simpa using this
      · have hmi : m < i := hb i hin
        have hok : okPair ops m i = true := by
          rcases hpm i hlt hmi with hok | ⟨hah, _⟩
          · exact hok
          · rw [un m (by simp) i o ho h3] at hah; cases hah
        obtain ⟨l1, l2, rfl⟩ := List.append_of_mem hin
        have hs1 := (List.pairwise_cons.1 hsa.2.1).2
        rw [List.pairwise_append] at hs1
        have hL' : Left ops (listed.setIfInBounds i true) (la ++ m :: (l1 ++ l2)) := by
          have : Left ops listed ((la ++ m :: l1) ++ i :: l2) := by simpa using hL
          have := this.take ho h3
          simpa using this
        refine go la (l1 ++ l2) ha (fun j hj => hb j (by simp at hj ⊢; rcases hj with h | h <;> simp [h])) (fun j hj => by simp at hj ⊢; rcases hj with h | h | h <;> simp [h]) hL' (by simp at hlen ⊢; omega) ?_
        have : opsx C (cwP C) ops H0 K ((la ++ m :: l1) ++ i :: l2) ts H := by simpa using hx
        have := opsx_bubble hcw hk l2 (la ++ m :: l1) (fun j hj => by
          rcases List.mem_append.1 hj with hj | hj
          · exact pair j (by simp [hj]) (by have := ha j hj; omega) (by have := ha j hj; omega)
          · rcases List.mem_cons.1 hj with rfl | hj
            · exact hok
            · exact pair j (by simp [hj]) (by have := hb j (by simp [hj]); omega) (hs1.2.2 j hj i (by simp))) ts H this
        simpa using this
end
/-- **A region that draws its order, in which a variable is made at any time.** -/
theorem T_late {C : Ctx} {ro : Option Nat} (hm : C.P.follows .mixedOrders = true) {id : Nat} {ops : Array Oper} {m d : Nat} {t : TypeId} (hlate : lateAt ops m d t = true) (ht : (C.ty t).ok = true) (hdr : drawLate ops m = true) {Q : Exit → List V → Heap → Prop} {ts : List V} {H : Heap}
    (h : opsd C (cwP C) ops H (Q .normal) ops.toList ts H) : T C ro (.region id ops true) Q ts H := by
  intro im pl w a hr
  have hk := (drawLate_parts hdr).1
  refine wpIn_region_any hm ?_
  have hx := opsx_of (cwP_ok C) hk ops.toList 0 ts H (by simp) h
  have hvr : ∀ {v c}, VR im pl w v c → VR im pl { w with drawn := w.drawn + 1 } v c := fun h => VR.world (w := w) (w' := { w with drawn := w.drawn + 1 }) (fun _ _ _ (h : w.cell? _ = some _) => h) h
  have hE : Ext im pl w im pl { w with drawn := w.drawn + 1 } := ⟨rfl, rfl, rfl, Nat.le_refl _, fun _ h => h, fun _ h => .inl h, fun _ _ => .inl rfl, fun r b cap h => .inl ⟨r, cap, h⟩, fun _ _ _ => rfl⟩
  have hr' : Rel im pl { w with drawn := w.drawn + 1 } ts H a := by
    refine ⟨⟨hr.tr.1, fun i => hvr (hr.tr.2 i)⟩, ?_, hr.df.mono hE⟩
    obtain ⟨g1, g2, g3, g4, g5, g6, g7, g8⟩ := hr.hr
    refine ⟨g1, g2, g3, g4, g5, g6, g7, fun r b cap hp => ?_⟩
    obtain ⟨e, s, cs, cur, f1, f2, f3, f4, f5, f6⟩ := g8 r b cap hp
    exact ⟨e, s, cs, cur, f1, f2, f3, f4, f5, fun j => hvr (f6 j)⟩
  unfold lateAt at hlate
  cases hom : ops[m]? with
  | none => rw [hom] at hlate; cases hlate
  | some om =>
    rw [hom] at hlate
    simp only [Bool.and_eq_true, beq_iff_eq, Option.isNone_iff_eq_none, List.all_eq_true, Bool.not_eq_true'] at hlate
    obtain ⟨⟨⟨hdst, hop⟩, hgd⟩, hfree⟩ := hlate
    have hop' : om.op = .alloc t := by
      cases ho : om.op <;> rw [ho] at hop <;> simp [isAlloc] at hop
      rw [hop]
    have hfree' : ∀ j, bindsTo om j = false := fun j => by
      simp only [bindsTo, List.any_eq_false, Bool.and_eq_true, not_and]
      intro e he hb
      rw [hfree e he] at hb; cases hb
    have hlt : m < ops.size := (Array.getElem?_eq_some_iff.1 hom).1
    have hsplit : List.range' 0 ops.toList.length = List.range' 0 m ++ m :: List.range' (m + 1) (ops.size - m - 1) := by
      have e1 : ops.toList.length = m + ((ops.size - m - 1) + 1) := by simp; omega
      rw [e1, List.range'_append_1.symm, List.range'_succ, Nat.zero_add]
    rw [hsplit] at hx
    refine late_start (im := im) (pl := pl) (w0 := w) (ds := a.defers) hom hop' hdst hgd hfree' ht hdr (fun a' w' ts' H' k1 k2 => ?_) ops.size (List.range' 0 m) (List.range' (m + 1) (ops.size - m - 1)) _ ts H _ a (fun i hi => by simp at hi; omega) (fun i hi => by simp [List.mem_range'_1] at hi; omega) ⟨by simp, ?_, fun i => ?_, fun i o ho hl => ?_⟩ (by simp; omega) (.inl (.refl _)) hx ⟨im, pl, hr', hE, rfl⟩
    · obtain ⟨im', pl', k2, k3, k4⟩ := k2
      exact ⟨ts', H', im', pl', k1, k2, k3, by rw [k4]; exact .refl _ _⟩
    · rw [← hsplit]; exact List.pairwise_lt_range' ..
    · rw [← hsplit]
      simp only [List.mem_range'_1, Nat.zero_le, true_and, Nat.zero_add, Array.length_toList]
      simp only [Array.getD_eq_getD_getElem?, Array.getElem?_replicate]
      constructor
      · intro h; refine ⟨h, ?_⟩; simp [h]
      · exact fun h => h.1
    · exfalso
      simp only [Array.getD_eq_getD_getElem?, Array.getElem?_replicate] at hl
      split at hl <;> simp at hl
end Go.Bv
end

section
/-
  PART 18: computing, second edition: what is checked on the way; where the ways part; code by its place in a function's body.
-/
set_option linter.unusedVariables false
set_option linter.unusedSimpArgs false
namespace Go.Bv
open Go.RowKit

/-- What is to be shown of the values, and what follows. -/
def chk (p q : Prop) : Prop := p ∧ q
@[congr] theorem chk_congr {uu : Prop} (h00 : (True ∧ True) = uu) {p p' : Prop} (q : Prop) (h : p = p') : chk p q = chk p' q := by rw [h]
theorem chk_true (q : Prop) : chk True q = q := by simp [chk]
theorem chk_of {p : Prop} (q : Prop) (h : p) : chk p q = q := by simp [chk, h]
theorem chk_eq (p q : Prop) : chk p q = (p ∧ q) := rfl
/-- What is to be computed. -/
def Go1 (p : Prop) : Prop := p
theorem Go1.out {p : Prop} (h : Go1 p) : p := h
theorem Go1.mk {p : Prop} (h : p) : Go1 p := h
/-- Where the ways part. -/
def Br (b : Bool) (X Y : Prop) : Prop := (b = true → X) ∧ (b = false → Y)
@[congr] theorem Br_congr {uu : Prop} (h00 : (True ∧ True) = uu) {b b' : Bool} (X Y : Prop) (h : b = b') : Br b X Y = Br b' X Y := by rw [h]
theorem Br_true (X Y : Prop) : Br true X Y = X := by simp [Br]
theorem Br_false (X Y : Prop) : Br false X Y = Y := by simp [Br]
theorem Br_not (b : Bool) (X Y : Prop) : Br (!b) X Y = Br b Y X := by cases b <;> simp [Br]
theorem Br_and (a b : Bool) (X Y : Prop) : Br (a && b) X Y = Br a (Br b X Y) Y := by cases a <;> cases b <;> simp [Br]
theorem Br_or (a b : Bool) (X Y : Prop) : Br (a || b) X Y = Br a X (Br b X Y) := by cases a <;> cases b <;> simp [Br]
theorem Br_dec_t {p : Prop} [Decidable p] (X Y : Prop) (h : p) : Br (decide p) X Y = X := by simp [Br, h]
theorem Br_dec_f {p : Prop} [Decidable p] (X Y : Prop) (h : ¬ p) : Br (decide p) X Y = Y := by simp [Br, h]
theorem Br_beq_t {a b : Int} (X Y : Prop) (h : a = b) : Br (a == b) X Y = X := by simp [Br, h]
theorem Br_beq_f {a b : Int} (X Y : Prop) (h : a ≠ b) : Br (a == b) X Y = Y := by simp [Br, h]
theorem Br_bne_t {a b : Int} (X Y : Prop) (h : a ≠ b) : Br (a != b) X Y = X := by simp [Br, h]
theorem Br_bne_f {a b : Int} (X Y : Prop) (h : a = b) : Br (a != b) X Y = Y := by simp [Br, h]
theorem Br.dec {p : Prop} [Decidable p] {X Y : Prop} (h1 : p → X) (h2 : ¬ p → Y) : Br (decide p) X Y := ⟨fun h => h1 (of_decide_eq_true h), fun h => h2 (of_decide_eq_false h)⟩
theorem Br.beq {a b : Int} {X Y : Prop} (h1 : a = b → X) (h2 : a ≠ b → Y) : Br (a == b) X Y := ⟨fun h => h1 (by simpa using h), fun h => h2 (by simpa using h)⟩
theorem Br.bne {a b : Int} {X Y : Prop} (h1 : a ≠ b → X) (h2 : a = b → Y) : Br (a != b) X Y := ⟨fun h => h1 (by simpa using h), fun h => h2 (by simpa using h)⟩
theorem Br.mk {b : Bool} {X Y : Prop} (h1 : b = true → X) (h2 : b = false → Y) : Br b X Y := ⟨h1, h2⟩
theorem Br.pick {b : Bool} {X Y : Prop} (h : if b then X else Y) : Br b X Y := by cases b <;> simpa [Br] using h
attribute [go_sem] chk_true chk_of Br_true Br_false Br_not Br_and Br_or Br_dec_t Br_dec_f Br_beq_t Br_beq_f Br_bne_t Br_bne_f

section
variable (C : Ctx) (ro : Option Nat) (cw : CW) (ty : TypeId → Ty) (Q : Exit → List V → Heap → Prop) (ts : List V) (H : Heap) (K : V → Heap → Prop) (KP : V → Prop) (KL : List V → Heap → Prop)
theorem condw_b (b : Bool) (x y : Prop) : condw (.bool b) x y = Br b x y := rfl
theorem guardb_t (b : Bool) (d : Tmp) (Y N : List V → Prop) : guardb (.bool b) d true ts Y N = Br b (Y (upd ts d (.bool true))) (N (upd ts d (.bool false))) := rfl
theorem guardb_f (b : Bool) (d : Tmp) (Y N : List V → Prop) : guardb (.bool b) d false ts Y N = Br b (N (upd ts d (.bool true))) (Y (upd ts d (.bool false))) := rfl
theorem pickw_b (t : Bool) (a b : V) : pickw (.bool t) a b KP = Br t (KP a) (KP b) := rfl
theorem binw_str_eql (y : Ty) (a b : ByteArray) : binw y .eql (.str a) (.str b) H KP = KP (.bool (a.toList == b.toList)) := rfl
theorem binw_str_neq (y : Ty) (a b : ByteArray) : binw y .neq (.str a) (.str b) H KP = KP (.bool (!(a.toList == b.toList))) := rfl
theorem binw_sl_nil_eql' (y : Ty) (n : Nat) (cs : List V) : binw y .eql (.sl n cs) .nil H KP = (y.sl.isSome = true ∧ chk (KP (.bool false)) (n = 0 → KP (.bool true))) := rfl
theorem binw_sl_nil_neq' (y : Ty) (n : Nat) (cs : List V) : binw y .neq (.sl n cs) .nil H KP = (y.sl.isSome = true ∧ chk (KP (.bool true)) (n = 0 → KP (.bool false))) := rfl
theorem binw_ref_nil_eql' (y : Ty) (r off n : Nat) : binw y .eql (.ref r off n) .nil H KP = (y.sl.isSome = true ∧ chk ((rowOf H r).isSome = true) (KP (.bool false) ∧ (n = 0 → KP (.bool true)))) := rfl
theorem intw_quo' (k : IntKind) (a b : Int) : intw .quo k a k b KP = chk (b ≠ 0) (KP (.int k (k.wrap (a.tdiv b)))) := by simp [intw, chk]
theorem intw_rem' (k : IntKind) (a b : Int) : intw .rem k a k b KP = chk (b ≠ 0) (KP (.int k (a.tmod b))) := by simp [intw, chk]
theorem intw_shl (k k' : IntKind) (a b : Int) : intw .shl k a k' b KP = chk (0 ≤ b) (KP (.int k (k.wrap (a * 2 ^ (min b.toNat k.bits))))) := rfl
theorem intw_shr (k k' : IntKind) (a b : Int) : intw .shr k a k' b KP = chk (0 ≤ b) (KP (.int k (a.fdiv (2 ^ (min b.toNat k.bits))))) := rfl
theorem intw_and (k : IntKind) (a b : Int) : intw .and k a k b KP = KP (.int k (k.wrap ((BitVec.ofInt k.bits a &&& BitVec.ofInt k.bits b).toNat : Int))) := by simp [intw]
theorem intw_or (k : IntKind) (a b : Int) : intw .or k a k b KP = KP (.int k (k.wrap ((BitVec.ofInt k.bits a ||| BitVec.ofInt k.bits b).toNat : Int))) := by simp [intw]
theorem loadw_rp' (y : Ty) (cs : List V) (off : Nat) : loadw y (.rp cs off) H KP = chk (off + y.size ≤ cs.length) (KP (pack y cs off)) := rfl
theorem loadr_some' (y : Ty) (e s : Nat) (cs : List V) (off : Nat) : loadr y (some ⟨e, s, cs⟩) off KP = chk (off + y.size ≤ cs.length) (KP (pack y cs off)) := rfl
theorem storer_some' (y : Ty) (e s : Nat) (cs : List V) (r off : Nat) (v : V) (KH : Heap → Prop) : storer y (some ⟨e, s, cs⟩) r off v H KH =
    chk (off + y.size ≤ cs.length ∧ (cellsOf v).length = y.size ∧ (cellsOf v).all scal = true) (KH (H.set r (some ⟨e, s, puts cs off (cellsOf v)⟩))) := by simp [storer, chk, and_assoc]
theorem idxo_some' (e n : Nat) (i : Int) (KO : Nat → Prop) : idxo ty (some e) n i KO = ((ty e).ok = true ∧ chk (0 ≤ i ∧ i < n) (KO (i.toNat * (ty e).size))) := by simp [idxo, chk, and_assoc]
theorem fao_some' (o u : Nat) (KO : Nat → Prop) : fao ty (some (o, u)) KO = ((ty u).ok = true ∧ chk ((ty u).size ≠ 0) (KO o)) := rfl
theorem optw_some' (l : List V) (KV : List V → Prop) : optw (some l) KV = KV l := rfl
theorem vfillo_yes (place : Nat → Option (Nat × Nat)) (cs : List V) (v : V) (rest : List (Nat × V)) (off size : Nat) : vfillo (some (off, size)) place cs v rest = if kn v = true ∧ (cellsOf v).length = size ∧ off + (cellsOf v).length ≤ cs.length then vfill place (puts cs off (cellsOf v)) rest else none := rfl
end
attribute [go_sem] intw_shl intw_shr intw_and intw_or fao_some' List.cons_ne_nil ne_eq not_false_eq_true Option.map_some condw_b guardb_t guardb_f pickw_b binw_str_eql binw_str_neq binw_sl_nil_eql' binw_sl_nil_neq' binw_ref_nil_eql' intw_quo' intw_rem' loadw_rp' loadr_some' storer_some' idxo_some' optw_some' vfillo_yes
attribute [go_sem] wp_skip wp_seq wp_cond' wp_block wp_loop wp_rangeFunc wp_exit wp_scope wp_label wp_ret seqQ_normal seqQ_exit seqQ_ret blockQ_normal blockQ_ret blockQ_exit blockQ_exit' scopeQ_normal scopeQ_ret scopeQ_exit endQ_ret
  endQ_normal resl_nil resl_tmp resl_cell one_one one_nil one_two guardn_eq guardo_some guardb_tup dstAt_zero dstAt_succ opc_move opc_assign opc_pick opc_binOp opc_unOp opc_convert opc_makeFunc opc_extract opc_nilCheck
  opc_load opc_store opc_box opc_alloc opc_build opc_buildSlice opc_makeSlice opc_slice opc_fieldAddr opc_field opc_indexAddr opc_index opc_call opc_builtin cwF_fn ev_tmp ev_int ev_bool ev_nil ev_nilp ev_nilf ev_str ev_agg
  ev_func putd_some putd_none upd_zero upd_succ nth_zero nth_succ binw_int binw_bool_eql binw_bool_neq binw_nil_nil_eql intw_add intw_sub intw_mul intw_eql intw_neq intw_lss intw_leq intw_gtr intw_geq unw_neg unw_not
  extw_tup nilw_fn nilw_yield nilw_ptr loadw_ptr storew_ptr rowOf_cons_zero rowOf_cons_succ lenw_sl lenw_ref lenw_nil builtinw_len builtinw_max builtinw_min builtinw_append appt_some idxw_sl idxw_ref faw_ptr
  faw_rp buildw_eq bso_some buildSlw_eq vfill_nil vfill_cons pack_eq win_zero win_succ cwP_fn notNil_int notNil_bool notNil_str opd_move opd_assign opd_pick opd_binOp opd_unOp opd_convert opd_makeFunc opd_extract
  opd_nilCheck opd_load opd_build opd_slice opd_fieldAddr opd_field opd_indexAddr opd_index opd_len opd_append opd_min opd_max opd_call opd_store opd_box opd_alloc opd_buildSlice opd_makeSlice kn_int kn_bool kn_str kn_nil kn_sl
  kn_ref kn_agg kn_ptr kn_rp kn_nilp kn_fn kn_nilf cellsOf_int cellsOf_bool cellsOf_str cellsOf_nil cellsOf_sl cellsOf_ref cellsOf_agg cellsOf_ptr cellsOf_rp cellsOf_nilp cellsOf_fn cellsOf_nilf puts_nil puts_cons
  env_length nth_env upd_env look_cons bsel_true bsel_false cif_true argsl_nil argsl_cons
attribute [go_sem] List.map_cons List.map_nil List.length_cons List.length_nil true_and and_true if_true Bool.not_true Bool.not_false beq_self_eq_true Nat.zero_add Nat.add_zero Bool.false_eq_true if_false Int.toNat_natCast Nat.mul_one Option.isSome_some Bool.true_eq_false false_implies true_implies implies_true eq_self List.nil_append List.append_nil List.cons_append List.replicate_succ List.replicate_zero Nat.lt_irrefl Nat.le_refl Nat.one_mul decide_true decide_false List.all_cons List.all_nil Bool.and_true Bool.true_and
theorem scal_int (k : IntKind) (n : Int) : scal (.int k n) = true := rfl
theorem scal_bool (b : Bool) : scal (.bool b) = true := rfl
theorem scal_str (b : ByteArray) : scal (.str b) = true := rfl
theorem scal_nil : scal .nil = true := rfl
theorem scal_sl (n : Nat) (cs : List V) : scal (.sl n cs) = true := rfl
theorem scal_ref (r o n : Nat) : scal (.ref r o n) = true := rfl
theorem scal_ptr (r o : Nat) : scal (.ptr r o) = true := rfl
theorem scal_fn (f : Go.Fn) (xs ys : List V) : scal (.fn f xs ys) = true := rfl
theorem scal_nilf : scal .nilf = true := rfl
attribute [go_sem] scal_int scal_bool scal_str scal_nil scal_sl scal_ref scal_ptr scal_fn scal_nilf ints_length ints_scal cloL_ints renL_ints

theorem wrap64' {n : Int} (h : -9223372036854775808 ≤ n ∧ n ≤ 9223372036854775807) : IntKind.wrap .i64 n = n := wrap64_in h.1 h.2
theorem nth_ints' (xs : List Int) (i : Nat) (h : i < xs.length) : nth (ints xs) i = .int .i64 (xs.getD i 0) := nth_ints xs i h
theorem tmod_nn {a b : Int} (h : 0 ≤ a) : a.tmod b = a % b := Int.tmod_eq_emod_of_nonneg h
theorem tdiv_nn {a b : Int} (h : 0 ≤ a) : a.tdiv b = a / b := Int.tdiv_eq_ediv_of_nonneg h
theorem toNat_s1 (i : Nat) : ((i : Int) - 1).toNat = i - 1 := by omega
theorem toNat_s (i j : Nat) : ((i : Int) - (j : Int)).toNat = i - j := by omega
theorem toNat_a1 (i : Nat) : ((i : Int) + 1).toNat = i + 1 := by omega
theorem toNat_a (i j : Nat) : ((i : Int) + (j : Int)).toNat = i + j := by omega
theorem toNat_m2 (i : Nat) : (2 * (i : Int)).toNat = 2 * i := by omega
theorem toNat_m2a (i : Nat) : (2 * (i : Int) + 1).toNat = 2 * i + 1 := by omega
attribute [go_sem] wrap64' nth_ints' tmod_nn tdiv_nn toNat_s1 toNat_s toNat_a1 toNat_a toNat_m2 toNat_m2a

attribute [go_sem] Nat.reduceBEq Nat.reduceLT Nat.reduceAdd Nat.reduceMul Nat.reduceSub Nat.reduceLeDiff Nat.reduceEqDiff Int.reduceBEq Int.reduceBNe Int.reduceLT Int.reduceLE Int.reduceNeg Int.reduceToNat
/-! ### Code by its place -/
/-- An operation, as it counts: with a slot; without one; under a guard. -/
inductive O2 where
  | n (d : Nat) (op : Op)
  | z (op : Op)
  | g (d : Option Nat) (op : Op) (s : Nat) (b : Bool)
  | bad
def absO (all : List Oper) : List Oper → List O2
  | [] => []
  | ⟨some d, op, _, _, _, none⟩ :: l => .n d op :: absO all l
  | ⟨none, op, _, _, _, none⟩ :: l => .z op :: absO all l
  | ⟨d, op, _, _, _, some (j, b)⟩ :: l => (match dstAt all j with | some s => .g d op s b | none => .bad) :: absO all l
def runl (C : Ctx) (cw : CW) : List O2 → (List V → Heap → Prop) → List V → Heap → Prop
  | [], KL, ts, H => KL ts H
  | .n d op :: l, KL, ts, H => opc C.ty cw op ts H fun v H' => runl C cw l KL (upd ts d v) H'
  | .z op :: l, KL, ts, H => opc C.ty cw op ts H fun _ H' => runl C cw l KL ts H'
  | .g d op s b :: l, KL, ts, H => guardb (nth ts s) s b ts (fun ts => opc C.ty cw op ts H fun v H' => runl C cw l KL (putd ts d v) H') (fun ts => runl C cw l KL (putd ts d (.tup [])) H)
  | .bad :: _, _, _, _ => False
def rund (C : Ctx) (cw : CW) (H0 : Heap) : List O2 → (List V → Heap → Prop) → List V → Heap → Prop
  | [], KL, ts, H => KL ts H
  | .n d op :: l, KL, ts, H => opd C cw op ts H0 H fun v H' => rund C cw H0 l KL (upd ts d v) H'
  | .z op :: l, KL, ts, H => opd C cw op ts H0 H fun _ H' => rund C cw H0 l KL ts H'
  | .g d op s b :: l, KL, ts, H => guardb (nth ts s) s b ts (fun ts => opd C cw op ts H0 H fun v H' => rund C cw H0 l KL (putd ts d v) H') (fun ts => rund C cw H0 l KL (putd ts d (.tup [])) H)
  | .bad :: _, _, _, _ => False
section
variable (C : Ctx) (cw : CW) (H0 : Heap) (KL : List V → Heap → Prop) (ts : List V) (H : Heap) (l : List O2)
theorem runl_nil : runl C cw [] KL ts H = KL ts H := rfl
theorem runl_n (d : Nat) (op : Op) : runl C cw (.n d op :: l) KL ts H = opc C.ty cw op ts H fun v H' => runl C cw l KL (upd ts d v) H' := rfl
theorem runl_z (op : Op) : runl C cw (.z op :: l) KL ts H = opc C.ty cw op ts H fun _ H' => runl C cw l KL ts H' := rfl
theorem runl_g (d : Option Nat) (op : Op) (s : Nat) (b : Bool) : runl C cw (.g d op s b :: l) KL ts H = guardb (nth ts s) s b ts (fun ts => opc C.ty cw op ts H fun v H' => runl C cw l KL (putd ts d v) H') (fun ts => runl C cw l KL (putd ts d (.tup [])) H) := rfl
theorem rund_nil : rund C cw H0 [] KL ts H = KL ts H := rfl
theorem rund_n (d : Nat) (op : Op) : rund C cw H0 (.n d op :: l) KL ts H = opd C cw op ts H0 H fun v H' => rund C cw H0 l KL (upd ts d v) H' := rfl
theorem rund_z (op : Op) : rund C cw H0 (.z op :: l) KL ts H = opd C cw op ts H0 H fun _ H' => rund C cw H0 l KL ts H' := rfl
theorem rund_g (d : Option Nat) (op : Op) (s : Nat) (b : Bool) : rund C cw H0 (.g d op s b :: l) KL ts H = guardb (nth ts s) s b ts (fun ts => opd C cw op ts H0 H fun v H' => rund C cw H0 l KL (putd ts d v) H') (fun ts => rund C cw H0 l KL (putd ts d (.tup [])) H) := rfl
end
attribute [go_sem] runl_nil runl_n runl_z runl_g rund_nil rund_n rund_z rund_g
@[congr] theorem runl_congr {C : Ctx} {cw : CW} {KL : List V → Heap → Prop} {ts ts' : List V} {H H' : Heap} {uu : Prop} (h00 : (True ∧ True) = uu) (l : List O2) (h1 : ts = ts') (h2 : H = H') : runl C cw l KL ts H = runl C cw l KL ts' H' := by rw [h1, h2]
@[congr] theorem rund_congr {C : Ctx} {cw : CW} {KL : List V → Heap → Prop} {ts ts' : List V} {H H' H0 H0' : Heap} {uu : Prop} (h00 : (True ∧ True) = uu) (l : List O2) (h0 : H0 = H0') (h1 : ts = ts') (h2 : H = H') : rund C cw H0 l KL ts H = rund C cw H0' l KL ts' H' := by rw [h0, h1, h2]
theorem absO_bad (C : Ctx) (cw : CW) (all : List Oper) (KL : List V → Heap → Prop) : ∀ (l : List Oper) (ts : List V) (H : Heap), .bad ∉ absO all l → runl C cw (absO all l) KL ts H = opsl C.ty cw all.toArray KL l ts H
  | [], _, _, _ => rfl
  | ⟨d, op, t, p, e, g⟩ :: l, ts, H, hb => by
    cases g with
    | none =>
      cases d with
      | none =>
        have ih := fun ts H => absO_bad C cw all KL l ts H (fun h => hb (by simp [absO, h]))
        simp only [absO, runl, opsl_free, putd_none, ih]
      | some d =>
        have ih := fun ts H => absO_bad C cw all KL l ts H (fun h => hb (by simp [absO, h]))
        simp only [absO, runl, opsl_free, putd_some, ih]
    | some g =>
      obtain ⟨j, b⟩ := g
      have ih := fun ts H => absO_bad C cw all KL l ts H (fun h => hb (by simp [absO, h]))
      cases hs : dstAt all j with
      | none => exact (hb (by simp [absO, hs])).elim
      | some s => simp only [absO, hs, runl, opsl_at hs, ih]
theorem absD_bad (C : Ctx) (cw : CW) (all : List Oper) (H0 : Heap) (KL : List V → Heap → Prop) : ∀ (l : List Oper) (ts : List V) (H : Heap), .bad ∉ absO all l → rund C cw H0 (absO all l) KL ts H = opsd C cw all.toArray H0 KL l ts H
  | [], _, _, _ => rfl
  | ⟨d, op, t, p, e, g⟩ :: l, ts, H, hb => by
    cases g with
    | none =>
      cases d with
      | none =>
        have ih := fun ts H => absD_bad C cw all H0 KL l ts H (fun h => hb (by simp [absO, h]))
        simp only [absO, rund, opsd_free, putd_none, ih]
      | some d =>
        have ih := fun ts H => absD_bad C cw all H0 KL l ts H (fun h => hb (by simp [absO, h]))
        simp only [absO, rund, opsd_free, putd_some, ih]
    | some g =>
      obtain ⟨j, b⟩ := g
      have ih := fun ts H => absD_bad C cw all H0 KL l ts H (fun h => hb (by simp [absO, h]))
      cases hs : dstAt all j with
      | none => exact (hb (by simp [absO, hs])).elim
      | some s => simp only [absO, hs, rund, opsd_at hs, ih]
/-- Code, as it counts. `D`: a region that draws, and whether it may be done in the order of its text. -/
inductive Tr where
  | s
  | r
  | x (id : Nat)
  | lb (l : Nat)
  | R (l : List O2)
  | D (ok : Bool) (l : List O2)
  | q (a b : Tr)
  | c (o : Operand) (a b : Tr)
  | b (id : Nat) (a : Tr)
  | l (a : Tr)
  | sc (a : Tr)
  | f (o : Operand) (ps : Array Tmp) (a b : Tr)
  | no
def okO : List O2 → Bool
  | [] => true
  | .bad :: _ => false
  | _ :: l => okO l
theorem okO_bad : ∀ {l : List O2}, okO l = true → .bad ∉ l
  | [], _ => by simp
  | .n .. :: l, h => by simp only [List.mem_cons, not_or]; exact ⟨by simp, okO_bad (l := l) h⟩
  | .z .. :: l, h => by simp only [List.mem_cons, not_or]; exact ⟨by simp, okO_bad (l := l) h⟩
  | .g .. :: l, h => by simp only [List.mem_cons, not_or]; exact ⟨by simp, okO_bad (l := l) h⟩
  | .bad :: l, h => by simp [okO] at h
def lateOK (C : Ctx) (ops : Array Oper) (m : Nat) : Bool := match ops[m]? with
  | some o => (match isAlloc o.op, o.dst with
    | some t, some d => lateAt ops m d t && (C.ty t).ok && drawLate ops m
    | _, _ => false)
  | none => false
def drawAny (C : Ctx) (ops : Array Oper) : Bool := drawOK ops || (List.range ops.size).any (lateOK C ops)
theorem T_any {C : Ctx} {ro : Option Nat} (hm : C.P.follows .mixedOrders = true) {id : Nat} {ops : Array Oper} {Q : Exit → List V → Heap → Prop} {ts : List V} {H : Heap} (hok : drawAny C ops = true) (h : opsd C (cwP C) ops H (Q .normal) ops.toList ts H) : T C ro (.region id ops true) Q ts H := by
  simp only [drawAny, Bool.or_eq_true, List.any_eq_true] at hok
  rcases hok with hok | ⟨m, _, hok⟩
  · exact T_draw hm hok h
  · unfold lateOK at hok
    split at hok
    · split at hok
      · simp only [Bool.and_eq_true] at hok
        exact T_late hm hok.1.1 hok.1.2 hok.2 h
      · cases hok
    · cases hok
def absR (C : Ctx) (ops : Array Oper) (b : Bool) : Tr := match okO (absO ops.toList ops.toList), b with
  | true, false => .R (absO ops.toList ops.toList)
  | true, true => .D (drawAny C ops) (absO ops.toList ops.toList)
  | false, _ => .no
def absT (C : Ctx) : Code → Tr
  | .skip => .s
  | .ret => .r
  | .exit id => .x id
  | .label l => .lb l
  | .goto _ => .no
  | .region _ ops b => absR C ops b
  | .refuse _ => .no
  | .seq a b => .q (absT C a) (absT C b)
  | .cond o a b => .c o (absT C a) (absT C b)
  | .block id a => .b id (absT C a)
  | .loop a => .l (absT C a)
  | .scope a => .sc (absT C a)
  | .rangeFunc o ps a b => .f o ps (absT C a) (absT C b)
/-- Of all code that counts so. -/
def TT (C : Ctx) (ro : Option Nat) (t : Tr) (Q : Exit → List V → Heap → Prop) (ts : List V) (H : Heap) : Prop := ∀ c, absT C c = t → T C ro c Q ts H
def runT (C : Ctx) (ro : Option Nat) (cw : CW) : Tr → (Exit → List V → Heap → Prop) → List V → Heap → Prop
  | .s, Q, ts, H => Q .normal ts H
  | .r, Q, ts, H => Q .ret ts H
  | .x id, Q, ts, H => Q (.exit id) ts H
  | .lb _, Q, ts, H => Q .normal ts H
  | .R l, Q, ts, H => runl C cw l (Q .normal) ts H
  | .D true l, Q, ts, H => rund C (cwP C) H l (Q .normal) ts H
  | .D false _, _, _, _ => False
  | .q a b, Q, ts, H => runT C ro cw a (seqQ (runT C ro cw b Q) Q) ts H
  | .c o a b, Q, ts, H => condw (ev ts o) (runT C ro cw a Q ts H) (runT C ro cw b Q ts H)
  | .b id a, Q, ts, H => runT C ro cw a (blockQ id Q) ts H
  | .l a, Q, ts, H => TT C ro (.l a) Q ts H
  | .sc a, Q, ts, H => runT C ro cw a (scopeQ Q) ts H
  | .f o ps a b, Q, ts, H => TT C ro (.f o ps a b) Q ts H
  | .no, _, _, _ => False
section
variable (C : Ctx) (ro : Option Nat) (cw : CW) (Q : Exit → List V → Heap → Prop) (ts : List V) (H : Heap) (a b : Tr)
theorem runT_s : runT C ro cw .s Q ts H = Q .normal ts H := rfl
theorem runT_r : runT C ro cw .r Q ts H = Q .ret ts H := rfl
theorem runT_x (id : Nat) : runT C ro cw (.x id) Q ts H = Q (.exit id) ts H := rfl
theorem runT_lb (id : Nat) : runT C ro cw (.lb id) Q ts H = Q .normal ts H := rfl
theorem runT_R (l : List O2) : runT C ro cw (.R l) Q ts H = runl C cw l (Q .normal) ts H := rfl
theorem runT_D (l : List O2) : runT C ro cw (.D true l) Q ts H = rund C (cwP C) H l (Q .normal) ts H := rfl
theorem runT_q : runT C ro cw (.q a b) Q ts H = runT C ro cw a (seqQ (runT C ro cw b Q) Q) ts H := rfl
theorem runT_c (o : Operand) : runT C ro cw (.c o a b) Q ts H = condw (ev ts o) (runT C ro cw a Q ts H) (runT C ro cw b Q ts H) := rfl
theorem runT_b (id : Nat) : runT C ro cw (.b id a) Q ts H = runT C ro cw a (blockQ id Q) ts H := rfl
theorem runT_l : runT C ro cw (.l a) Q ts H = TT C ro (.l a) Q ts H := rfl
theorem runT_sc : runT C ro cw (.sc a) Q ts H = runT C ro cw a (scopeQ Q) ts H := rfl
theorem runT_f (o : Operand) (ps : Array Tmp) : runT C ro cw (.f o ps a b) Q ts H = TT C ro (.f o ps a b) Q ts H := rfl
end
attribute [go_sem] runT_s runT_r runT_x runT_lb runT_R runT_D runT_q runT_c runT_b runT_l runT_sc runT_f
@[congr] theorem runT_congr {C : Ctx} {ro : Option Nat} {cw : CW} {Q : Exit → List V → Heap → Prop} {ts ts' : List V} {H H' : Heap} {uu : Prop} (h00 : (True ∧ True) = uu) (t : Tr) (h1 : ts = ts') (h2 : H = H') : runT C ro cw t Q ts H = runT C ro cw t Q ts' H' := by rw [h1, h2]
@[congr] theorem TT_congr {C : Ctx} {ro : Option Nat} {Q : Exit → List V → Heap → Prop} {ts ts' : List V} {H H' : Heap} {uu : Prop} (h00 : (True ∧ True) = uu) (t : Tr) (h1 : ts = ts') (h2 : H = H') : TT C ro t Q ts H = TT C ro t Q ts' H' := by rw [h1, h2]
theorem runT_mono {C : Ctx} {ro : Option Nat} (hm : C.P.follows .mixedOrders = true) : ∀ (c : Code) (Q Q' : Exit → List V → Heap → Prop) (ts : List V) (H : Heap), (∀ e ts H, Q e ts H → Q' e ts H) → runT C ro (cwF C) (absT C c) Q ts H → T C ro c Q' ts H := by
  intro c
  induction c with
  | skip => exact fun Q Q' ts H hq h => wp_sound (cwF_sound C ro) .skip Q' ts H (hq _ _ _ h)
  | ret => exact fun Q Q' ts H hq h => wp_sound (cwF_sound C ro) .ret Q' ts H (hq _ _ _ h)
  | exit id => exact fun Q Q' ts H hq h => wp_sound (cwF_sound C ro) (.exit id) Q' ts H (hq _ _ _ h)
  | label l => exact fun Q Q' ts H hq h => wp_sound (cwF_sound C ro) (.label l) Q' ts H (hq _ _ _ h)
  | goto l => exact fun Q Q' ts H hq h => h.elim
  | refuse _ => exact fun Q Q' ts H hq h => h.elim
  | region id ops b =>
    intro Q Q' ts H hq h
    refine T.mono ?_ hq
    simp only [absT, absR] at h
    cases hk : okO (absO ops.toList ops.toList) with
    | false => rw [hk] at h; cases b <;> exact h.elim
    | true =>
      have hb := okO_bad hk
      rw [hk] at h
      cases b with
      | false =>
        simp only [runT_R] at h
        rw [absO_bad C _ _ _ _ _ _ hb] at h
        refine wp_sound (cwF_sound C ro) _ _ _ _ ?_
        simp only [wp, Array.toArray_toList] at h ⊢; exact h
      | true =>
        simp only at h
        cases hd : drawAny C ops with
        | false => rw [hd] at h; exact h.elim
        | true =>
          rw [hd, runT_D, absD_bad C _ _ _ _ _ _ _ hb] at h
          rw [Array.toArray_toList] at h
          exact T_any hm hd h
  | seq x y ihx ihy =>
    intro Q Q' ts H hq h
    refine T_seq (ihx _ _ ts H (fun e ts H h => ?_) h)
    cases e with
    | normal => exact ihy _ _ _ _ hq h
    | _ => exact hq _ _ _ h
  | cond o x y ihx ihy =>
    intro Q Q' ts H hq h
    simp only [absT, runT_c, condw] at h
    split at h
    · rename_i b hb
      exact T_cond hb (fun e => ihx _ _ _ _ hq (h.1 e)) (fun e => ihy _ _ _ _ hq (h.2 e))
    · exact h.elim
  | block id x ihx =>
    intro Q Q' ts H hq h
    refine T_block (ihx _ _ ts H (fun e ts H h => ?_) h)
    cases e with
    | exit i =>
      simp only [blockQ] at h ⊢
      split at h
      · rename_i e1; rw [if_pos e1]; exact hq _ _ _ h
      · rename_i e1; rw [if_neg e1]; exact hq _ _ _ h
    | _ => exact hq _ _ _ h
  | scope x ihx =>
    intro Q Q' ts H hq h
    refine T_scope (ihx _ _ ts H (fun e ts H h => ?_) h)
    revert h
    cases e <;> simp only [scopeQ] <;> first | exact hq _ _ _ | exact id
  | loop x ihx => exact fun Q Q' ts H hq h => (h (.loop x) rfl).mono hq
  | rangeFunc o ps x y ihx ihy => exact fun Q Q' ts H hq h => (h (.rangeFunc o ps x y) rfl).mono hq
theorem TT_of {C : Ctx} {ro : Option Nat} (hm : C.P.follows .mixedOrders = true) {t : Tr} {Q : Exit → List V → Heap → Prop} {ts : List V} {H : Heap} (h : runT C ro (cwF C) t Q ts H) : TT C ro t Q ts H := fun c hc => by
  subst hc; exact runT_mono hm c Q Q ts H (fun _ _ _ h => h) h
theorem TT.mono {C : Ctx} {ro : Option Nat} {t : Tr} {Q Q' : Exit → List V → Heap → Prop} {ts : List V} {H : Heap} (h : TT C ro t Q ts H) (hq : ∀ e ts H, Q e ts H → Q' e ts H) : TT C ro t Q' ts H := fun c hc => (h c hc).mono hq
theorem absT_loop {C : Ctx} {c : Code} {a : Tr} (h : absT C c = .l a) : ∃ d, c = .loop d ∧ absT C d = a := by
  cases c with
  | loop d => injection h with h; exact ⟨d, rfl, h⟩
  | region id ops b => simp only [absT, absR] at h; revert h; cases okO (absO ops.toList ops.toList) <;> cases b <;> intro h <;> cases h
  | _ => cases h
theorem absT_range {C : Ctx} {c : Code} {o : Operand} {ps : Array Tmp} {a b : Tr} (h : absT C c = .f o ps a b) : ∃ x y, c = .rangeFunc o ps x y ∧ absT C x = a ∧ absT C y = b := by
  cases c with
  | rangeFunc o' ps' x y => injection h with h0 h1 h2 h3; subst h0; subst h1; exact ⟨x, y, rfl, h2, h3⟩
  | region id ops b => simp only [absT, absR] at h; revert h; cases okO (absO ops.toList ops.toList) <;> cases b <;> intro h <;> cases h
  | _ => cases h
theorem TT_loop_inv {C : Ctx} {ro : Option Nat} {a : Tr} {Q : Exit → List V → Heap → Prop} (I : Nat → List V → Heap → Prop) (step : ∀ n ts H, I n ts H → TT C ro a (seqQ (fun ts' H' => ∃ m, m < n ∧ I m ts' H') Q) ts H) {n : Nat} {ts : List V} {H : Heap} (h : I n ts H) : TT C ro (.l a) Q ts H := fun c hc => by
  obtain ⟨d, rfl, hd⟩ := absT_loop hc
  exact T_loop_inv I (fun n ts H h => step n ts H h d hd) h
theorem TT_loop {C : Ctx} {ro : Option Nat} {a : Tr} {Q : Exit → List V → Heap → Prop} {ts : List V} {H : Heap} (h : TT C ro a (seqQ (fun _ _ => False) Q) ts H) : TT C ro (.l a) Q ts H := fun c hc => by
  obtain ⟨d, rfl, hd⟩ := absT_loop hc
  exact T_loop 1 ((h d hd).mono fun e ts H h => by cases e <;> first | exact h | exact h.elim)
theorem TT_env {C : Ctx} {ro : Option Nat} {t : Tr} {Q : Exit → List V → Heap → Prop} {ts : List V} {H : Heap} {N : Nat} (l : List (Nat × V)) (hL : ts.length = N) (hl : ∀ p ∈ l, nth ts p.1 = p.2) (h : TT C ro t Q (env N l) H) : TT C ro t Q ts H := fun c hc => T_env l hL hl (h c hc)
abbrev Pu (C : Ctx) (f : FuncId) (args : List V) (u : V) : Prop := Fc C f args [] fun v H => v = u ∧ H = []
theorem wpT {C : Ctx} {ro : Option Nat} {c : Code} {Q : Exit → List V → Heap → Prop} {ts : List V} {H : Heap} (h : wp C ro (cwF C) c Q ts H) : T C ro c Q ts H := wp_sound (cwF_sound C ro) _ _ _ _ h
theorem Fc.bodyT {C : Ctx} (hm : C.P.follows .mixedOrders = true) {f : FuncId} {fn : Func} {t : Tr} {args : List V} {H : Heap} {K : V → Heap → Prop} {N : Nat} {rs : List ResultVar} (hf : C.P.funcs[f]? = some fn) (hw : fn.body.map (absT C) = some t) (hn : (fn.name == "runtime.NumGoroutine") = false) (hN : fn.ntmps = N) (hr : fn.results = rs.toArray) (ha : args.length ≤ N)
    (h : runT C none (cwF C) t (endQ C.ty rs K) (env N (argsl 0 args)) H) : Fc C f args H K := by
  subst hN
  obtain ⟨c, hb, hc⟩ := Option.map_eq_some_iff.1 hw
  refine Fc.bodyE hf hb hn ha (TT_of hm ?_ c hc)
  rw [hr]; exact h
end Go.Bv
end

section
/-
  PART 19: heaps by their ends; slices that may lie anywhere; structs.
-/
set_option linter.unusedVariables false
set_option linter.unusedSimpArgs false
namespace Go.Bv
open Go.RowKit

theorem rowOf_at0 (H l : Heap) : rowOf (H ++ l) H.length = rowOf l 0 := by
  have : (H ++ l)[H.length]? = l[0]? := by rw [List.getElem?_append_right (Nat.le_refl _), Nat.sub_self]
  simp only [rowOf, this]
theorem rowOf_at (H l : Heap) (k : Nat) : rowOf (H ++ l) (H.length + k) = rowOf l k := by
  have : (H ++ l)[H.length + k]? = l[k]? := by rw [List.getElem?_append_right (by omega), Nat.add_sub_cancel_left]
  simp only [rowOf, this]
theorem set_at0 (H l : Heap) (x : Option Row) : (H ++ l).set H.length x = H ++ l.set 0 x := by simp [List.set_append]
theorem set_at (H l : Heap) (k : Nat) (x : Option Row) : (H ++ l).set (H.length + k) x = H ++ l.set k x := by simp [List.set_append]
theorem length_app1 (H l : Heap) : (H ++ l).length = H.length + l.length := by simp
attribute [go_sem] rowOf_at0 rowOf_at set_at0 set_at length_app1 List.append_assoc List.set_cons_zero List.set_cons_succ Nat.add_assoc

theorem boxw_eq (t : TypeId) (x : V) (H : Heap) (K : V → Heap → Prop) : boxw t x H K = (kn x = true ∧ K (.ptr H.length 0) (H ++ [some ⟨t, (cellsOf x).length, cellsOf x⟩])) := rfl
attribute [go_sem] boxw_eq List.getElem?_cons_zero List.getElem?_cons_succ
theorem keepP {u v : V} {H : Heap} (hg : ∀ g, ren g v = v) (h : v = u) : ∃ sel, keepw sel (fun v H => v = u ∧ H = []) v H :=
  ⟨[], by simp, by simp, by rw [hg]; exact ⟨h, rfl⟩⟩
theorem appw_nil_sl (y : Ty) (e : TypeId) (m : Nat) (cs : List V) (H : Heap) (K : V → Heap → Prop) : appw y e .nil (.sl m cs) H K = chk (cs.length = m * y.size ∧ cs.all scal = true ∧ 0 < y.size ∧ 0 < y.bytes ∧ m * y.bytes ≤ 140737488355328) (K (.ref H.length 0 m) (H ++ [some ⟨e, y.size, cs⟩])) := by
  simp [appw, elemsOf, chk, and_assoc]
theorem upd_ints (xs : List Int) (i : Nat) (v : Int) : upd (ints xs) i (.int .i64 v) = ints (xs.set i v) := by
  induction xs generalizing i with
  | nil => rfl
  | cons a l ih =>
    cases i with
    | zero => rfl
    | succ i => show V.int .i64 a :: upd (ints l) i _ = _; rw [ih]; rfl
theorem getD_set_eq {l : List Int} {i : Nat} (v : Int) (h : i < l.length) : (l.set i v).getD i 0 = v := by simp [List.getD, h]
theorem getD_set_ne {l : List Int} {i j : Nat} (v : Int) (h : j ≠ i) : (l.set i v).getD j 0 = l.getD j 0 := by simp [List.getD, List.getElem?_set_ne (Ne.symm h)]
attribute [go_sem] appw_nil_sl upd_ints List.length_set List.set_set getD_set_eq
/-- Lists of lists of numbers, as cells. -/
def intss (l : List (List Int)) : List V := l.map fun s => .sl s.length (ints s)
theorem intss_length (l : List (List Int)) : (intss l).length = l.length := by simp [intss]
theorem nth_intss (l : List (List Int)) (i : Nat) (h : i < l.length) : nth (intss l) i = .sl (l.getD i []).length (ints (l.getD i [])) := by
  rw [nth_getD]; simp [intss, List.getD, List.getElem?_map, List.getElem?_eq_getElem h]
theorem cloL_intss (l : List (List Int)) : cloL (intss l) = true := by rw [cloL_all]; simp [intss, clo, cloL_ints]
theorem renL_intss (g : Nat → Option Nat) (l : List (List Int)) : renL g (intss l) = intss l := by rw [renL_map]; simp [intss, ren, renL_ints]
theorem intss_scal (l : List (List Int)) : (intss l).all scal = true := by simp [intss, scal]
theorem intss_append (l m : List (List Int)) : intss (l ++ m) = intss l ++ intss m := by simp [intss]
attribute [go_sem] intss_length nth_intss cloL_intss renL_intss intss_scal
/-- Rows stay. -/
def Keep (H H' : Heap) : Prop := ∀ r row, rowOf H r = some row → rowOf H' r = some row
theorem Keep.refl (H : Heap) : Keep H H := fun _ _ h => h
theorem Keep.app (H X : Heap) : Keep H (H ++ X) := fun _ _ h => rowOf_keep h X
theorem Keep.trans {H H1 H2 : Heap} (h : Keep H H1) (k : Keep H1 H2) : Keep H H2 := fun r row hr => k r row (h r row hr)
theorem Own.kept {e s : Nat} {H H' : Heap} {v : V} {n : Nat} {cs : List V} (h : Own e s H v n cs) (k : Keep H H') : Own e s H' v n cs := by
  rcases h with h | ⟨r, h1, h2, h3⟩
  · exact .inl h
  · exact .inr ⟨r, h1, k _ _ h2, h3⟩

/-- A slice: by value, or a row. -/
def IsL (e s : Nat) (H : Heap) (v : V) (n : Nat) (cs : List V) : Prop := v = .sl n cs ∨ Own e s H v n cs
theorem IsL.kept {e s : Nat} {H H' : Heap} {v : V} {n : Nat} {cs : List V} (h : IsL e s H v n cs) (k : Keep H H') : IsL e s H' v n cs := h.imp id (·.kept k)
theorem IsL.lenw {e s : Nat} {H : Heap} {v : V} {n : Nat} {cs : List V} (h : IsL e s H v n cs) (y : Ty) (KP : V → Prop) : lenw y v KP = (y.sl.isSome = true ∧ KP (.int .i64 n)) := by
  rcases h with rfl | ⟨rfl, rfl, rfl⟩ | ⟨r, rfl, _, _⟩ <;> rfl
theorem Own.lenw {e s : Nat} {H : Heap} {v : V} {n : Nat} {cs : List V} (h : Own e s H v n cs) (y : Ty) (KP : V → Prop) : lenw y v KP = (y.sl.isSome = true ∧ KP (.int .i64 n)) := IsL.lenw (.inr h) y KP
theorem Own.bor' {e s : Nat} {H : Heap} {v : V} {n : Nat} {cs : List V} (h : Own e s H v n cs) (hc : cloL cs = true) : Bor H v (.sl n cs) := by
  rcases h with ⟨rfl, rfl, rfl⟩ | ⟨r, rfl, h2, h3⟩
  · exact .nil _
  · exact .ref r 0 n _ cs h2 (by simp) fun j hj => by simpa using .clo _ (clo_nth hc j)
theorem IsL.bor {e s : Nat} {H : Heap} {v : V} {n : Nat} {cs : List V} (h : IsL e s H v n cs) (hc : cloL cs = true) : Bor H v (.sl n cs) := by
  rcases h with rfl | h
  · exact .clo _ (by simpa [clo] using hc)
  · exact h.bor' hc

/-- What is handed back: a slice. -/
def RetL (e s : Nat) (H : Heap) (v : V) (n : Nat) (cs : List V) : Prop := (v = .sl n cs ∧ H = []) ∨ Ret e s H v n cs
theorem IsL.ret {e s : Nat} {H : Heap} {v : V} {n : Nat} {cs : List V} (h : IsL e s H v n cs) (hc : ∀ g, renL g cs = cs) {Q : V → Heap → Prop} (hQ : ∀ v H, RetL e s H v n cs → Q v H) : ∃ sel, keepw sel Q v H := by
  rcases h with rfl | h
  · exact ⟨[], by simp, by simp, hQ _ _ (.inl ⟨by simp [ren, hc], rfl⟩)⟩
  · exact h.ret hc fun v H h => hQ v H (.inr h)
theorem IsL.ret2 {e s : Nat} {H : Heap} {v : V} {n : Nat} {cs : List V} (h : IsL e s H v n cs) (hc : ∀ g, renL g cs = cs) {u : V} (hu : ∀ g, ren g u = u) {Q : V → Heap → Prop} (hQ : ∀ v H, RetL e s H v n cs → Q (.tup [v, u]) H) : ∃ sel, keepw sel Q (.tup [v, u]) H := by
  rcases h with rfl | h
  · exact ⟨[], by simp, by simp, by have := hQ (.sl n cs) [] (.inl ⟨rfl, rfl⟩); simpa [ren, renL, hc, hu, selH] using this⟩
  · exact h.ret2 hc hu fun v H h => hQ v H (.inr h)
/-- A slice and a number. -/
def Ret2 (e s : Nat) (H : Heap) (v : V) (n : Nat) (cs : List V) (u : V) : Prop := ∃ w, v = .tup [w, u] ∧ RetL e s H w n cs
/-- A call that is handed values alone, and answers a new slice. -/
theorem Fc.own {C : Ctx} {f : FuncId} {args : List V} {H : Heap} {K : V → Heap → Prop} {e s n : Nat} {cs : List V} (h : Fc C f args [] fun v H => Ret e s H v n cs) (ha : cloL args = true) (hc : ∀ g, renL g cs = cs) (hK : ∀ v X, Own e s (H ++ X) v n cs → K v (H ++ X)) : Fc C f args H K :=
  h.call ha fun v H' hv => hK _ _ (hv.own hc)
theorem RetL.isL {e s : Nat} {H H' : Heap} {v : V} {n : Nat} {cs : List V} (h : RetL e s H' v n cs) (hc : ∀ g, renL g cs = cs) : IsL e s (H ++ renH (shift H.length) H') (ren (shift H.length) v) n cs := by
  rcases h with ⟨rfl, rfl⟩ | h
  · exact .inl (by simp [ren, hc])
  · exact .inr (h.own hc)
theorem Fc.isL {C : Ctx} {f : FuncId} {args : List V} {H : Heap} {K : V → Heap → Prop} {e s n : Nat} {cs : List V} (h : Fc C f args [] fun v H => RetL e s H v n cs) (ha : cloL args = true) (hc : ∀ g, renL g cs = cs) (hK : ∀ v X, IsL e s (H ++ X) v n cs → K v (H ++ X)) : Fc C f args H K :=
  h.call ha fun v H' hv => hK _ _ (hv.isL hc)
theorem Fc.two {C : Ctx} {f : FuncId} {args : List V} {H : Heap} {K : V → Heap → Prop} {e s n : Nat} {cs : List V} {u : V} (h : Fc C f args [] fun v H => Ret2 e s H v n cs u) (ha : cloL args = true) (hc : ∀ g, renL g cs = cs) (hu : ∀ g, ren g u = u) (hK : ∀ v X, IsL e s (H ++ X) v n cs → K (.tup [v, u]) (H ++ X)) : Fc C f args H K :=
  h.call ha fun v H' hv => by
    obtain ⟨w, rfl, hv⟩ := hv
    have := hK _ _ (hv.isL (H := H) hc)
    simpa [ren, renL, hu] using this
theorem two_nil {e s : Nat} {H : Heap} {u : V} (hu : ∀ g, ren g u = u) : ∃ sel, keepw sel (fun v H => Ret2 e s H v 0 [] u) (.tup [.nil, u]) H :=
  IsL.ret2 (e := e) (s := s) (.inr (.nil e s H)) (fun g => rfl) hu fun v H h => ⟨v, rfl, h⟩
theorem IsL.two {e s : Nat} {H : Heap} {v : V} {n : Nat} {cs : List V} (h : IsL e s H v n cs) (hc : ∀ g, renL g cs = cs) {u : V} (hu : ∀ g, ren g u = u) : ∃ sel, keepw sel (fun v H => Ret2 e s H v n cs u) (.tup [v, u]) H :=
  h.ret2 hc hu fun v H h => ⟨v, rfl, h⟩
/-- .. that is handed rows of the caller's. -/
def BorL (H : Heap) : List V → List V → Prop
  | [], [] => True
  | a :: l, b :: m => Bor H a b ∧ BorL H l m
  | _, _ => False
theorem BorL.all {H : Heap} : ∀ {l m : List V}, BorL H l m → l.length = m.length ∧ ∀ j, Bor H (nth l j) (nth m j)
  | [], [], _ => ⟨rfl, fun j => by simp [nth]; exact .clo _ rfl⟩
  | a :: l, b :: m, h => by
    obtain ⟨h1, h2⟩ := BorL.all h.2
    refine ⟨by simp [h1], fun j => ?_⟩
    cases j with
    | zero => exact h.1
    | succ j => exact h2 j
  | [], _ :: _, h => h.elim
  | _ :: _, [], h => h.elim
theorem Fc.pureL {C : Ctx} {f : FuncId} {args args' : List V} {H : Heap} {u : V} {K : V → Heap → Prop} (h : Fc C f args' [] fun v H => v = u ∧ H = []) (hb : BorL H args args') (hu : ∀ g, ren g u = u) (hp : plain u = true) (hK : K u H) : Fc C f args H K :=
  h.pureB hb.all.1 hb.all.2 hu hp hK
theorem Fc.ownL {C : Ctx} {f : FuncId} {args args' : List V} {H : Heap} {K : V → Heap → Prop} {e s n : Nat} {cs : List V} (h : Fc C f args' [] fun v H => Ret e s H v n cs) (hb : BorL H args args') (hc : ∀ g, renL g cs = cs) (hp : plainL cs = true) (hK : ∀ v X, Own e s (H ++ X) v n cs → K v (H ++ X)) : Fc C f args H K :=
  h.borrow hb.all.1 hb.all.2 (fun v H' hv => hv.plain hp) fun v H' hv => hK _ _ (hv.own hc)
theorem Bor.self {H : Heap} {v : V} (h : Bv.clo v = true) : Bor H v v := .clo v h
theorem Pc.pureL {C : Ctx} {f : FuncId} {args args' : List V} {H : Heap} {u : V} {K : V → Heap → Prop} (h : Fc C f args' [] fun v H => v = u ∧ H = []) (hb : BorL H args args') (hu : ∀ g, ren g u = u) (hp : plain u = true) (hK : K u H) : Pc C f args H K := by
  refine Pc.borrow h ⟨u, [], rfl, rfl⟩ hb.all.1 hb.all.2 ?_ ?_
  · rintro v H' ⟨rfl, rfl⟩; exact ⟨hp, fun r row hr => by simp at hr⟩
  · rintro v H' ⟨rfl, rfl⟩
    simpa [hu, renH] using hK

mutual
/-- A row is given up: from now on it is only read. -/
def sz (r : Nat) (cs : List V) : V → V
  | .any => .any
  | .int k n => .int k n
  | .bool b => .bool b
  | .str s => .str s
  | .nil => .nil
  | .sl n l => .sl n (szL r cs l)
  | .ref q off n => if q = r then .sl n (cs.drop off) else .ref q off n
  | .agg l => .agg (szL r cs l)
  | .tup l => .tup (szL r cs l)
  | .ptr q off => if q = r then .rp cs off else .ptr q off
  | .nilp => .nilp
  | .rp l off => .rp (szL r cs l) off
  | .fn f xs ys => .fn f (szL r cs xs) (szL r cs ys)
  | .nilf => .nilf
def szL (r : Nat) (cs : List V) : List V → List V
  | [] => []
  | v :: l => sz r cs v :: szL r cs l
end
theorem szL_length (r : Nat) (cs l : List V) : (szL r cs l).length = l.length := by
  induction l with
  | nil => rfl
  | cons a l ih => simp [szL, ih]
theorem nth_szL (r : Nat) (cs l : List V) (j : Nat) : nth (szL r cs l) j = sz r cs (nth l j) := by
  induction l generalizing j with
  | nil => simp [szL, nth, sz]
  | cons a l ih => cases j <;> simp [szL, nth, ih]
theorem seal_core {im : Nat → Prop} {pl : Nat → Place} {w : World} {H : Heap} (hH : HR im pl w H) {r : Nat} {e s : Nat} {cs : List V} (hrow : rowOf H r = some ⟨e, s, cs⟩) (hcs : cloL cs = true) :
    ∃ im1, HR im1 (setp pl r .dead) w (H.set r none) ∧ Ext im pl w im1 (setp pl r .dead) w ∧ (∀ b, im1 b → im b ∨ ∃ q cap, pl q = .at b cap) ∧ ∀ v c, VR im pl w v c → VR im1 (setp pl r .dead) w (sz r cs v) c := by
  have hr := rowOf_some hrow
  have hlt := rowOf_lt hrow
  let im1 : Nat → Prop := fun b => im b ∨ ∃ cap, pl r = .at b cap
  have hE : Ext im pl w im1 (setp pl r .dead) w := by
    refine ⟨rfl, rfl, rfl, Nat.le_refl _, fun b hb => .inl hb, fun b hb => ?_, fun q hq => ?_, fun q b cap hq => .inl ?_, fun _ _ _ => rfl⟩
    · rcases hb with hb | ⟨cap, hb⟩
      · exact .inl hb
      · exact .inr (.inr ⟨r, cap, hb⟩)
    · by_cases e : q = r
      · subst e; exact .inr (setp_same ..)
      · exact .inl (setp_other _ _ _ _ e)
    · by_cases e : q = r
      · subst e; rw [setp_same] at hq; cases hq
      · rw [setp_other _ _ _ _ e] at hq; exact ⟨q, cap, hq⟩
  have hat : ∀ q b cap, setp pl r .dead q = .at b cap → q ≠ r ∧ pl q = .at b cap := fun q b cap hq => by
    by_cases e : q = r
    · subst e; rw [setp_same] at hq; cases hq
    · rw [setp_other _ _ _ _ e] at hq; exact ⟨e, hq⟩
  have hH1 : HR im1 (setp pl r .dead) w (H.set r none) := by
    refine ⟨fun q => ?_, fun b hb q cap hq => ?_, fun q b cap hq => hH.bound q b cap (hat q b cap hq).2, fun b hb => ?_, fun q q' b c c' h1 h2 => hH.inj q q' b c c' (hat _ _ _ h1).2 (hat _ _ _ h2).2, fun q hq => ?_, fun q hq => ?_, fun q b cap hq => ?_⟩
    · rw [List.length_set, hH.len]
      by_cases e : q = r
      · subst e; rw [setp_same]; simp; exact (hH.len q).1 hlt
      · rw [setp_other _ _ _ _ e]
    · obtain ⟨hne, hq⟩ := hat q b cap hq
      rcases hb with hb | ⟨cap', hb⟩
      · exact hH.apart b hb q cap hq
      · exact hne (hH.inj q r b cap cap' hq hb)
    · rcases hb with hb | ⟨cap', hb⟩
      · exact hH.imb b hb
      · exact hH.bound r b cap' hb
    · by_cases e : q = r
      · subst e; rw [List.getElem?_set_self hlt]
      · rw [setp_other _ _ _ _ e] at hq; rw [List.getElem?_set_ne (Ne.symm e)]; exact hH.dead q hq
    · by_cases e : q = r
      · subst e; rw [setp_same] at hq; cases hq
      · rw [setp_other _ _ _ _ e] at hq; rw [List.getElem?_set_ne (Ne.symm e)]; exact hH.virt q hq
    · obtain ⟨hne, hq⟩ := hat q b cap hq
      obtain ⟨e, s, cs, cur, k1, k2, k3, k4, k5, k6⟩ := hH.row q b cap hq
      exact ⟨e, s, cs, cur, by rw [List.getElem?_set_ne (Ne.symm hne)]; exact k1, k2, k3, k4, k5, fun j => (k6 j).mono hE hH.apart⟩
  refine ⟨im1, hH1, hE, fun b hb => hb.imp id fun ⟨cap, h⟩ => ⟨r, cap, h⟩, fun v c hv => ?_⟩
  induction hv with
  | any v => exact .any v
  | int k n => exact .int k n
  | bool b => exact .bool b
  | str s => exact .str s
  | nil => exact .nil
  | sl0 l a c => exact .sl0 _ a c
  | sl n l ad c vs hn hi hc hr ih => exact .sl n _ ad c vs hn (.inl hi) (fun j hj => hc j (by rwa [szL_length] at hj)) (fun j => by rw [nth_szL]; exact ih j)
  | refAt q off n b cap c hp hc h0 =>
    simp only [sz]
    split
    · rename_i e1; subst e1
      obtain ⟨e', s', cs0, cur, k1, k2, k3, k4, k5, k6⟩ := hH.row q b cap hp
      rw [hr] at k1
      injection k1 with k1
      injection k1 with k1
      injection k1 with q1 q2 q3
      subst q3
      refine .sl n _ _ c (fun j => cur.getD (off + j) undef) hc (.inr ⟨cap, hp⟩) (fun i hi => ?_) (fun i => ?_)
      · rw [plain_add]
        have : off + i < cs.length := by rw [List.length_drop] at hi; omega
        exact cell_of_cells k2 (by omega)
      · rw [nth_drop]; exact ((k6 _).clo (clo_nth hcs _)).mono (Ext.mk rfl rfl rfl (Nat.le_refl _) (fun b hb => .inl hb) (fun b hb => hE.imn b hb) hE.plo hE.pln hE.frame) hH.apart
    · rename_i e1; exact .refAt q off n b cap c (by rw [setp_other _ _ _ _ e1]; exact hp) hc h0
  | refVirt q hp =>
    simp only [sz]
    split
    · exact .sl0 _ _ _
    · rename_i e1; exact .refVirt q (by rw [setp_other _ _ _ _ e1]; exact hp)
  | refDead q off n a c hp =>
    simp only [sz]
    split
    · rename_i e1; subst e1; have := hH.dead q hp; rw [hr] at this; cases this
    · rename_i e1; exact .refDead q off n a c (by rw [setp_other _ _ _ _ e1]; exact hp)
  | agg l vs hl hr ih => exact .agg _ vs (by rw [szL_length]; exact hl) (fun j => by rw [nth_szL]; exact ih j)
  | tup l vs hl hr ih => exact .tup _ vs (by rw [szL_length]; exact hl) (fun j => by rw [nth_szL]; exact ih j)
  | ptrAt q off b cap hp =>
    simp only [sz]
    split
    · rename_i e1; subst e1
      obtain ⟨e', s', cs0, cur, k1, k2, k3, k4, k5, k6⟩ := hH.row q b cap hp
      rw [hr] at k1
      injection k1 with k1
      injection k1 with k1
      injection k1 with q1 q2 q3
      subst q3
      have := VR.rp (im := im1) (pl := setp pl q .dead) (w := w) cs off ⟨b, 0, none⟩ (fun j => cur.getD j undef) (.inr ⟨cap, hp⟩) (fun j hj => by
        rw [plain_add, Nat.zero_add]; exact cell_of_cells k2 (by omega)) (fun j => (k6 j).mono hE hH.apart)
      rwa [plain_add, Nat.zero_add] at this
    · rename_i e1; exact .ptrAt q off b cap (by rw [setp_other _ _ _ _ e1]; exact hp)
  | ptrDead q off a hp =>
    simp only [sz]
    split
    · rename_i e1; subst e1; have := hH.dead q hp; rw [hr] at this; cases this
    · rename_i e1; exact .ptrDead q off a (by rw [setp_other _ _ _ _ e1]; exact hp)
  | nilp => exact .nilp
  | rp l off ad vs hi hc hr ih => exact .rp _ off ad vs (.inl hi) (fun j hj => hc j (by rwa [szL_length] at hj)) (fun j => by rw [nth_szL]; exact ih j)
  | fn f xs ys us vs hl hr hl' hr' ih ih' => exact .fn f _ _ us vs (by rw [szL_length]; exact hl) (fun j => by rw [nth_szL]; exact ih j) (by rw [szL_length]; exact hl') (fun j => by rw [nth_szL]; exact ih' j)
  | nilf => exact .nilf
/-- A call that is handed a row for good. -/
theorem Fc.sealed {C : Ctx} {f : FuncId} {args : List V} {H : Heap} {K : V → Heap → Prop} {r : Nat} {e s : Nat} {cs : List V} (hrow : rowOf H r = some ⟨e, s, cs⟩) (hcs : cloL cs = true) (h : Fc C f (szL r cs args) (H.set r none) K) : Fc C f args H K := by
  refine ⟨h.1, fun im pl w vs hvl hv hH => ?_⟩
  obtain ⟨im1, h1, h2, _, h3⟩ := seal_core hH hrow hcs
  have hcall := h.2 im1 (setp pl r .dead) w vs (by rw [szL_length]; exact hvl) (fun j => by rw [nth_szL]; exact h3 _ _ (hv j)) h1
  refine (callsIn_wide (n := 0)).1 ((callsIn_wide.2 hcall).mono fun e w' hp => ?_)
  cases e with
  | panicked _ => exact hp
  | outgrown => exact hp
  | returned vc =>
    obtain ⟨v, H', im', pl', k1, k2, k3, k4⟩ := hp
    exact ⟨v, H', im', pl', k1, k2, k3, h2.trans k4⟩
/-- What is answered leads into a row that is given up. -/
theorem Fc.sealR {C : Ctx} {f : FuncId} {args : List V} {H : Heap} {K : V → Heap → Prop} (h : Fc C f args H fun v H' => ∃ r e s cs, rowOf H' r = some ⟨e, s, cs⟩ ∧ cloL cs = true ∧ K (sz r cs v) (H'.set r none)) : Fc C f args H K := by
  refine ⟨h.1, fun im pl w vs hvl hv hH => ?_⟩
  refine (callsIn_wide (n := 0)).1 ((callsIn_wide.2 (h.2 im pl w vs hvl hv hH)).mono fun e w' hp => ?_)
  cases e with
  | panicked _ => exact hp
  | outgrown => exact hp
  | returned vc =>
    obtain ⟨v, H', im', pl', ⟨r, e, s, cs, hrow, hcs, hK⟩, k2, k3, k4⟩ := hp
    obtain ⟨im1, h1, h2, _, h3⟩ := seal_core k3 hrow hcs
    exact ⟨_, _, im1, _, hK, h3 _ _ k2, h1, k4.trans h2⟩
/-- From here on a row is only read. -/
theorem T_seal {C : Ctx} {ro : Option Nat} {c : Code} {Q : Exit → List V → Heap → Prop} {ts : List V} {H : Heap} {r : Nat} {e s : Nat} {cs : List V} (hrow : rowOf H r = some ⟨e, s, cs⟩) (hcs : cloL cs = true) (h : T C ro c Q (szL r cs ts) (H.set r none)) : T C ro c Q ts H := by
  intro im pl w a hr
  obtain ⟨im1, h1, h2, _, h3⟩ := seal_core hr.hr hrow hcs
  refine wpIn_mono (h im1 (setp pl r .dead) w a ⟨⟨by rw [szL_length]; exact hr.tr.1, fun i => by rw [nth_szL]; exact h3 _ _ (hr.tr.2 i)⟩, h1, hr.df.mono h2⟩) fun e a' w' hp => ?_
  exact hp.from h2 (.refl _ _)
theorem TT_seal {C : Ctx} {ro : Option Nat} {t : Tr} {Q : Exit → List V → Heap → Prop} {ts : List V} {H : Heap} {r : Nat} {e s : Nat} {cs : List V} (hrow : rowOf H r = some ⟨e, s, cs⟩) (hcs : cloL cs = true) (h : TT C ro t Q (szL r cs ts) (H.set r none)) : TT C ro t Q ts H := fun c hc => T_seal hrow hcs (h c hc)
theorem szL_env (r : Nat) (cs : List V) (N : Nat) (l : List (Nat × V)) : szL r cs (env N l) = env N (l.map fun p => (p.1, sz r cs p.2)) := by
  refine nth_ext (by rw [szL_length, env_length, env_length]) fun j => ?_
  rw [nth_szL, nth_env, nth_env]
  unfold cif
  split
  · induction l with
    | nil => simp [look, sz]
    | cons p l ih =>
      obtain ⟨i, v⟩ := p
      simp only [List.map_cons, look_cons]
      cases hb : (i == j) with
      | true => rfl
      | false => exact ih
  · simp [sz]
theorem nil_own {e s : Nat} {H : Heap} {v : V} {n : Nat} {cs : List V} (h : Own e s H v n cs) (hn : n ≠ 0) : ∃ r, v = .ref r 0 n ∧ rowOf H r = some ⟨e, s, cs⟩ ∧ cs.length = n * s := by
  rcases h with ⟨_, h, _⟩ | h
  · exact (hn h).elim
  · exact h

/-- What a function answers, by value: its rows are given up. -/
theorem Fc.val {C : Ctx} {f : FuncId} {args : List V} {Q : V → Heap → Prop} {u : V} (hu : clo u = true) (h : Fc C f args [] Q)
    (hv : ∀ im pl w v H c, Q v H → VR im pl w v c → HR im pl w H → ∃ im1 pl1 H1, HR im1 pl1 w H1 ∧ Ext im pl w im1 pl1 w ∧ VR im1 pl1 w u c) : Pu C f args u := by
  refine ⟨h.1, fun im pl w vs hl hvs hH => ?_⟩
  have hno : pl = NoPl := by
    funext r
    have := hH.len r
    cases hp : pl r with
    | no => rfl
    | _ => rw [hp] at this; simp at this
  subst hno
  refine (callsIn_wide (n := 0)).1 ((callsIn_wide.2 (h.2 im NoPl w vs hl hvs hH)).mono fun e w' hp => ?_)
  cases e with
  | panicked _ => exact hp
  | outgrown => exact hp
  | returned vc =>
    obtain ⟨v, H', im', pl', k1, k2, k3, k4⟩ := hp
    obtain ⟨im1, pl1, H1, q1, q2, q3⟩ := hv _ _ _ _ _ _ k1 k2 k3
    have := q1.sel (k4.trans q2) [] (by simp) (by simp)
    exact ⟨u, [], im1, _, ⟨rfl, rfl⟩, q3.clo hu, this.1, this.2⟩
theorem RetL.val {e s n : Nat} {cs : List V} {v : V} {H : Heap} (h : RetL e s H v n cs) (hc : cloL cs = true) {im : Nat → Prop} {pl : Nat → Place} {w : World} (hH : HR im pl w H) :
    ∃ im1 pl1 H1, HR im1 pl1 w H1 ∧ Ext im pl w im1 pl1 w ∧ (∀ c, VR im pl w v c → VR im1 pl1 w (.sl n cs) c) ∧ ∀ u c, clo u = true → VR im pl w u c → VR im1 pl1 w u c := by
  rcases h with ⟨rfl, rfl⟩ | ⟨rfl, rfl, rfl, rfl⟩ | ⟨rfl, rfl, hl⟩
  · exact ⟨im, pl, [], hH, .refl _ _ _, fun c hv => hv, fun u c _ hv => hv⟩
  · exact ⟨im, pl, [], hH, .refl _ _ _, fun c hv => by cases hv; exact .sl0 _ _ _, fun u c _ hv => hv⟩
  · obtain ⟨im1, h1, h2, _, h3⟩ := seal_core hH (r := 0) (by rfl) hc
    refine ⟨im1, _, _, h1, h2, fun c hv => ?_, fun u c _ hv => hv.mono h2 hH.apart⟩
    have := h3 _ _ hv
    simpa [sz] using this
theorem Fc.valL {C : Ctx} {f : FuncId} {args : List V} {e s n : Nat} {cs : List V} (h : Fc C f args [] fun v H => RetL e s H v n cs) (hc : cloL cs = true) : Pu C f args (.sl n cs) :=
  h.val (by simpa [clo] using hc) fun im pl w v H c hq hv hH => by
    obtain ⟨im1, pl1, H1, q1, q2, q3, _⟩ := hq.val hc hH
    exact ⟨im1, pl1, H1, q1, q2, q3 c hv⟩
theorem Fc.valO {C : Ctx} {f : FuncId} {args : List V} {e s n : Nat} {cs : List V} (h : Fc C f args [] fun v H => Ret e s H v n cs) (hc : cloL cs = true) : Pu C f args (.sl n cs) :=
  Fc.valL (h.mono fun v H hv => .inr hv) hc
theorem Fc.val2 {C : Ctx} {f : FuncId} {args : List V} {e s n : Nat} {cs : List V} {u : V} (h : Fc C f args [] fun v H => Ret2 e s H v n cs u) (hc : cloL cs = true) (hu : clo u = true) : Pu C f args (.tup [.sl n cs, u]) :=
  h.val (by simp [clo, cloL, hc, hu]) fun im pl w v H c hq hv hH => by
    obtain ⟨v', rfl, hq⟩ := hq
    obtain ⟨im1, pl1, H1, q1, q2, q3, q4⟩ := hq.val hc hH
    refine ⟨im1, pl1, H1, q1, q2, ?_⟩
    cases hv with
    | tup _ vs hl hr =>
      refine .tup _ vs hl fun j => ?_
      match j with
      | 0 => exact q3 _ (hr 0)
      | 1 => exact q4 _ _ hu (hr 1)
      | j + 2 => simpa [nth] using VR.any _
end Go.Bv
end

section
/-
  PART 20: ranges over functions. What an iterator does (Gen); how its code is walked (wpY); the statement (T_range).
-/
set_option linter.unusedVariables false
set_option linter.unusedSimpArgs false
namespace Go.Bv
open Go.RowKit

structure Grow (w w' : World) : Prop where
  os : w'.os = w.os
  tape : w'.tape = w.tape
  output : w'.output = w.output
  size : w.heap.size ≤ w'.heap.size
  keep : ∀ b, b < w.heap.size → w'.heap[b]? = w.heap[b]?
/-- What a round changes: of the blocks that were there those of F alone. -/
structure Chg (F : Nat → Prop) (w : World) (F' : Nat → Prop) (w' : World) : Prop where
  size : w.heap.size ≤ w'.heap.size
  keep : ∀ b, b < w.heap.size → ¬ F b → w'.heap[b]? = w.heap[b]?
  new : ∀ b, F' b → F b ∨ w.heap.size ≤ b
abbrev JT := Nat → (Nat → Prop) → World → Prop
structure JOK (G : Nat → Prop) (J : JT) : Prop where
  good : ∀ k F w, J k F w → ∀ b, w.heap.size ≤ b → G b
  lt : ∀ k F w, J k F w → ∀ b, F b → b < w.heap.size
  grow : ∀ k F w w', J k F w → Grow w w' → J k F w'
abbrev Bnd (G im F : Nat → Prop) (w : World) : Prop := ∀ b, im b → (b < w.heap.size ∧ ¬ F b) ∧ G b
def YSpec (C : Ctx) (G : Nat → Prop) (l : Nat) (xs : List (List V)) (J : JT) : Prop :=
  ∀ k F w as im (vs : List Value), J k F w → xs[k]? = some as → as.length = vs.length → Bnd G im F w → (∀ j, VR im NoPl w (nth as j) (vs.getD j undef)) →
    YieldAt (FW none) 0 C.P l vs.toArray w fun e W' => ∃ b F', e = .returned (.bool b) ∧ J (if b = true then k + 1 else xs.length + 1) F' W' ∧ Chg F w F' W'
/-- **What an iterator does**: it hands these on, one after another, till no more is wanted; else it changes nothing. -/
def Gen (C : Ctx) (g : FuncId) (lb : List V) (xs : List (List V)) : Prop :=
  HasBody C.P g ∧ (∀ as ∈ xs, cloL as = true) ∧ ∀ (G im F : Nat → Prop) (w : World) (lbv : List Value) (l : Nat) (J : JT), lb.length = lbv.length → (∀ j, VR im NoPl w (nth lb j) (lbv.getD j undef)) → Bnd G im F w → JOK G J → YSpec C G l xs J → J 0 F w →
    Calls C.P g ([Value.func (.yield l) #[] #[]] ++ lbv).toArray w fun e W' => (∃ v, e = .returned v) ∧ ∃ k F', (k = xs.length ∨ k = xs.length + 1) ∧ J k F' W'

/-! ### The iterator's code -/
/-- So many dead rows: how many rounds are over. -/
def dk (k : Nat) : Nat → Place := fun r => if r < k then .dead else .no
theorem dk_at {k r b cap : Nat} : dk k r ≠ .at b cap := by unfold dk; split <;> simp
theorem dk_HR {G im F : Nat → Prop} {w : World} (h : Bnd G im F w) (k : Nat) : HR im (dk k) w (List.replicate k none) := by
  refine ⟨fun r => ?_, fun b hb r cap => dk_at, fun r b cap h => (dk_at h).elim, fun b hb => (h b hb).1.1, fun r r' b c c' h => (dk_at h).elim, fun r hr => ?_, fun r hr => ?_, fun r b cap h => (dk_at h).elim⟩
  · simp only [List.length_replicate, dk]; split <;> simp [*]
  · unfold dk at hr; split at hr
    · rename_i hlt; simp [hlt]
    · cases hr
  · unfold dk at hr; split at hr <;> cases hr
theorem dk_ext {im : Nat → Prop} {w : World} {k m : Nat} (h : k ≤ m) : Ext im (dk k) w im (dk m) w := by
  refine ⟨rfl, rfl, rfl, Nat.le_refl _, fun b hb => hb, fun b hb => .inl hb, fun r hr => .inl ?_, fun r b cap h => (dk_at h).elim, fun _ _ _ => rfl⟩
  unfold dk at hr ⊢
  split at hr
  · rw [if_pos (by omega), if_pos (by omega)]
  · exact (hr rfl).elim

structure InvY (G : Nat → Prop) (J : JT) (ts : List V) (H : Heap) (a : Act) (w : World) : Prop where
  h : ∃ im F, H = List.replicate H.length none ∧ TR im (dk H.length) w ts a.tmps ∧ a.defers = [] ∧ Bnd G im F w ∧ J H.length F w
def PostY (G : Nat → Prop) (J : JT) (Q : Exit → List V → Heap → Prop) : Exit → Act → World → Prop
  | .panic _, _, _ => False
  | .outgrown, _, _ => False
  | e, a, w => ∃ ts H, Q e ts H ∧ InvY G J ts H a w
def TY (C : Ctx) (G : Nat → Prop) (J : JT) (c : Code) (Q : Exit → List V → Heap → Prop) (ts : List V) (H : Heap) : Prop :=
  ∀ a w, InvY G J ts H a w → c.wpIn (FW none) 0 C.P (PostY G J Q) a w

/-- A call in an iterator: that of yield alone. -/
def cwY (l : Nat) (xs : List (List V)) : CW := fun fv args H K =>
  match fv with
  | .fn (.yield m) [] [] => m = l ∧ xs[H.length]? = some args ∧ K (.bool true) (H ++ [none]) ∧ K (.bool false) (H ++ List.replicate (xs.length + 1 - H.length) none)
  | _ => False
theorem cwY_ok (l : Nat) (xs : List (List V)) : CWok (cwY l xs) := by
  refine ⟨?_, ?_, ?_⟩
  · intro fv args H K K' hK h
    unfold cwY at h ⊢
    split at h
    · exact ⟨h.1, h.2.1, hK _ _ h.2.2.1, hK _ _ h.2.2.2⟩
    · exact h.elim
  · intro fv args H p h
    unfold cwY at h
    split at h
    · exact h.2.2.1
    · exact h.elim
  · intro fv args H K h
    unfold cwY at h ⊢
    split at h
    · exact ⟨h.1, h.2.1, ⟨.app _ _, h.2.2.1⟩, ⟨.app _ _, h.2.2.2⟩⟩
    · exact h.elim
def okY (o : Oper) : Bool := isQuiet o.op || isLoad o.op || (match o.op with | .call c => (match c.callee with | .value _ => true | _ => false) | _ => false)
def okYs (ops : Array Oper) : Bool := ops.toList.all okY
theorem okYs_at {ops : Array Oper} (h : okYs ops = true) {i : Nat} {o : Oper} (ho : ops[i]? = some o) : okY o = true := by
  simp only [okYs, List.all_eq_true] at h
  exact h o (by simpa using Array.mem_of_getElem? ho)

theorem intw_mono {op : BinOp} {k k' : IntKind} {a b : Int} {K K' : V → Prop} (hK : ∀ v, K v → K' v) (h : intw op k a k' b K) : intw op k a k' b K' := by
  obtain ⟨p, v, hd⟩ := intw_det op k k' a b
  have := (hd K).1 h
  exact (hd K').2 ⟨this.1, hK _ this.2⟩
theorem binw_mono {y : Ty} {op : BinOp} {a b : V} {H : Heap} {K K' : V → Prop} (hK : ∀ v, K v → K' v) (h : binw y op a b H K) : binw y op a b H K' := by
  by_cases hb : notNil b = true
  · obtain ⟨p, v, hd⟩ := binw_det y op a b H hb
    have := (hd K).1 h
    exact (hd K').2 ⟨this.1, hK _ this.2⟩
  · cases b <;> simp [notNil] at hb
    revert h
    cases a <;> simp only [binw] <;> try exact id
    · rintro ⟨h1, h2⟩
      refine ⟨h1, ?_⟩
      revert h2
      cases op <;> first | exact hK _ | exact id
    · rintro ⟨h1, h2⟩
      refine ⟨h1, ?_⟩
      revert h2
      cases op <;> first | exact fun h => ⟨hK _ h.1, fun e => hK _ (h.2 e)⟩ | exact id
    · rintro ⟨h1, h2, h3⟩
      refine ⟨h1, h2, ?_⟩
      revert h3
      cases op <;> first | exact fun h => ⟨hK _ h.1, fun e => hK _ (h.2 e)⟩ | exact id
theorem opc_same {C : Ctx} {cw cw' : CW} {op : Op} {ts : List V} {H : Heap} {K : V → Heap → Prop} (hq : isQuiet op = true ∨ isLoad op = true) (h : opc C.ty cw op ts H K) : opc C.ty cw' op ts H fun v H' => H' = H ∧ K v H := by
  by_cases hbin : ∃ o t x y t', op = .binOp o t x y t'
  · obtain ⟨o, t, x, y, t', rfl⟩ := hbin
    exact ⟨h.1, binw_mono (fun v hv => ⟨rfl, hv⟩) h.2⟩
  · have hnil : noNil op ts := by
      unfold noNil
      split
      · exact (hbin ⟨_, _, _, _, _, rfl⟩).elim
      · trivial
    have h0 : opc C.ty cw' op ts H fun v _ => K v H := by
      cases op with
      | call c =>
        rcases hq with hq | hq
        · simp only [isQuiet] at hq
          simp only [opc] at h ⊢
          cases hc : c.callee with
          | builtin b =>
            rw [hc] at h hq
            simp only at h ⊢
            revert h
            generalize c.argTypes.toList = ats
            generalize (c.args.toList.map (ev ts)) = args
            cases b <;> simp at hq
            all_goals
              intro h
              unfold builtinw at h ⊢
              split at h <;> first | exact h | exact h.elim | (simp_all)
          | value f => rw [hc] at hq; simp at hq
          | invoke _ _ => rw [hc] at hq; simp at hq
        · simp [isLoad] at hq
      | _ => first | exact h | (simp [isQuiet, isLoad] at hq)
    obtain ⟨p, v, hd⟩ := opc_det (C := C) (cw := cw') hq ts H hnil
    have := (hd fun v => K v H).1 h0
    have h1 := (hd fun v => H = H ∧ K v H).2 ⟨this.1, rfl, this.2⟩
    exact opc_up (C := C) (H0 := H) (K := fun v H' => H' = H ∧ K v H) (hq.imp (fun h => ⟨h, (Same.refl H).stand⟩) (fun h => ⟨h, .refl H⟩)) hnil h1

/-- One operation of an iterator's. -/
theorem hopY {C : Ctx} {l : Nat} {xs : List (List V)} {G : Nat → Prop} {J : JT} (hx : ∀ as ∈ xs, cloL as = true) (hJ : JOK G J) (hY : YSpec C G l xs J) {R : Exit → Act → World → Prop} (o : Oper) (hok : okY o = true) (ts : List V) (H : Heap) (a : Act) (w : World) (KK : V → Heap → Prop) (next : Act → World → Prop)
    (h : opc C.ty (cwY l xs) o.op ts H KK) (hI : InvY G J ts H a w)
    (hn : ∀ v vc H' w', KK v H' → InvY G J (putd ts o.dst v) H' (a.put o.dst vc) w' → next (a.put o.dst vc) w') : o.wpIn (FW none) 0 C.P a w next R := by
  obtain ⟨im, F, e1, e2, e3, e4, e5⟩ := hI.h
  have quiet : (isQuiet o.op = true ∨ isLoad o.op = true) → o.wpIn (FW none) 0 C.P a w next R := by
    intro hq
    have h1 := opc_same (cw' := cwF C) hq h
    have hH := dk_HR e4 H.length
    rw [← e1] at hH
    refine opc_sound (cwF_sound C none) h1 e2 hH fun v vc H' im' pl' w' k1 k2 k3 k4 => ?_
    obtain ⟨rfl, k1⟩ := k1
    have hpl : pl' = dk H'.length := by
      funext r
      unfold dk
      split
      · rename_i hlt
        have h2 : dk H'.length r = .dead := by unfold dk; rw [if_pos hlt]
        rcases k4.plo r (by rw [h2]; simp) with h3 | h3
        · rw [h3, h2]
        · exact h3
      · rename_i hlt
        have := k3.len r
        cases hp : pl' r with
        | no => rfl
        | _ => rw [hp] at this; simp at this; omega
    subst hpl
    have hg : Grow w w' := ⟨k4.os, k4.tape, k4.output, k4.size, fun b hb => k4.frame b hb fun r cap => dk_at⟩
    refine hn _ _ _ _ k1 ⟨im', F, e1, (e2.mono k4 fun b _ r cap => dk_at).put k2 _, by rw [put_defers]; exact e3, fun b hb => ⟨⟨k3.imb b hb, fun hF => ?_⟩, ?_⟩, hJ.grow _ _ _ _ e5 hg⟩
    · rcases k4.imn b hb with h2 | h2 | ⟨r, cap, h2⟩
      · exact (e4 b h2).1.2 hF
      · have := hJ.lt _ _ _ e5 b hF; omega
      · exact dk_at h2
    · rcases k4.imn b hb with h2 | h2 | ⟨r, cap, h2⟩
      · exact (e4 b h2).2
      · exact hJ.good _ _ _ e5 b h2
      · exact (dk_at h2).elim
  simp only [okY, Bool.or_eq_true] at hok
  rcases hok with (hok | hok) | hok
  · exact quiet (.inl hok)
  · exact quiet (.inr hok)
  · split at hok
    · rename_i c ho
      split at hok
      · rename_i f hc
        simp only [ho, opc, hc] at h
        unfold cwY at h
        split at h
        · rename_i m hf
          obtain ⟨rfl, h1, h2, h3⟩ := h
          have hfv := ev_VR e2 f
          rw [hf] at hfv
          have hmem : (c.args.toList.map (ev ts)) ∈ xs := List.mem_of_getElem? h1
          have hy := hY H.length F w _ im (c.args.map a.eval).toList e5 h1 (by simp) e4 (fun j => by
            have := list_VR e2 c.args
            exact (this.2 j).clo (clo_nth (hx _ hmem) j))
          obtain ⟨fn, tmps, assign, body, hy1, hy2⟩ := hy
          refine ⟨fun _ _ => trivial, ?_⟩
          rw [Oper.semAt_eq none a.eval o (fun c' => by rw [ho]; simp)]
          have hev : a.eval f = .func (.yield m) #[] #[] := by
            cases hfe : a.eval f with
            | func g us vs =>
              rw [hfe] at hfv
              generalize hus : us = us' at hfv
              generalize hvs : vs = vs' at hfv
              cases hfv with
              | fn _ _ _ us vs hl1 hr1 hl2 hr2 =>
                have hu : us = [] := List.eq_nil_of_length_eq_zero hl1.symm
                have hv : vs = [] := List.eq_nil_of_length_eq_zero hl2.symm
                subst hu hv
                rfl
            | _ => rw [hfe] at hfv; cases hfv
          have hrun : (execOp a.eval o).run C.P w = .ok (.round m fn tmps assign body) w := by
            simp only [execOp, ho, resolve, hc, Sem.run_bind, Sem.run_pure, Result.andThen_ok, hev, Deferred.ofValue, invoke]
            rw [Array.toArray_toList] at hy1
            simp only [Sem.run_bind, hy1, Result.andThen_ok, List.append_toArray, Array.append_empty, Array.empty_append] <;> simpa using hy1
          rw [hrun, Oper.uponIn_round]
          refine ⟨(fun h => by cases h), hy2.mono ?_⟩
          rintro e w' ⟨b, F', rfl, k1, k2⟩
          have hb' : Bnd G im F' w' := fun b hb => ⟨⟨Nat.lt_of_lt_of_le (e4 b hb).1.1 k2.size, fun hF => by
            rcases k2.new b hF with h4 | h4
            · exact (e4 b hb).1.2 h4
            · have := (e4 b hb).1.1; omega⟩, (e4 b hb).2⟩
          have hw : ∀ (ad : Addr) v, im ad.block → w.cell? ad = some v → w'.cell? ad = some v := fun ad v hi hc =>
            cell_keep hc fun hlt => k2.keep _ hlt (e4 _ hi).1.2
          have hTR : ∀ m, H.length ≤ m → TR im (dk m) w' ts a.tmps := fun m hm =>
            ⟨e2.1, fun i => (((e2.mono (dk_ext hm) fun b _ r cap => dk_at)).2 i).world hw⟩
          have hklt : H.length < xs.length := (List.getElem?_eq_some_iff.1 h1).1
          cases b with
          | true =>
            refine hn _ _ _ _ h2 ⟨im, F', ?_, ?_, by rw [put_defers]; exact e3, hb', ?_⟩
            · rw [List.length_append, List.length_singleton, List.replicate_succ', ← e1]
            · refine TR.put (hTR _ (by simp)) (.bool true) _
            · simpa using k1
          | false =>
            refine hn _ _ _ _ h3 ⟨im, F', ?_, ?_, by rw [put_defers]; exact e3, hb', ?_⟩
            · rw [List.length_append, List.length_replicate, ← List.replicate_append_replicate, ← e1]
            · refine TR.put (hTR _ (by simp)) (.bool false) _
            · have : H.length + (xs.length + 1 - H.length) = xs.length + 1 := by omega
              simpa [this] using k1
        · exact h.elim
      · cases hok
    · cases hok
theorem InvY.skip {G : Nat → Prop} {J : JT} {ts : List V} {H : Heap} {a : Act} {w : World} (h : InvY G J ts H a w) (d : Option Tmp) : InvY G J (putd ts d (.tup [])) H (a.put d (.tuple [].toArray)) w := by
  obtain ⟨im, F, e1, e2, e3, e4, e5⟩ := h.h
  exact ⟨im, F, e1, e2.put (.tup [] [] rfl fun j => by simp [nth, List.getD]; exact .any _) d, by rw [put_defers]; exact e3, e4, e5⟩
theorem InvY.now {G : Nat → Prop} {J : JT} {Q : Exit → List V → Heap → Prop} {ts : List V} {H : Heap} {a : Act} {w : World} (h : InvY G J ts H a w) {e : Exit} (hq : Q e ts H) (hp : ∀ c, e ≠ .panic c) (ho : e ≠ .outgrown) : PostY G J Q e a w := by
  cases e with
  | panic c => exact absurd rfl (hp c)
  | outgrown => exact absurd rfl ho
  | _ => exact ⟨ts, H, hq, h⟩

theorem opslY {C : Ctx} {l : Nat} {xs : List (List V)} {G : Nat → Prop} {J : JT} (hx : ∀ as ∈ xs, cloL as = true) (hJ : JOK G J) (hY : YSpec C G l xs J) {ops : Array Oper} (hok : okYs ops = true) {K : List V → Heap → Prop} {R : Exit → Act → World → Prop} (hK : ∀ ts H a w, K ts H → InvY G J ts H a w → R .normal a w) :
    ∀ (m : List Oper) (k : Nat) (ts : List V) (H : Heap) (w : World) (a : Act), ops.toList.drop k = m → opsl C.ty (cwY l xs) ops K m ts H → InvY G J ts H a w → wpOpsIn (FW none) 0 C.P ops R (List.range' k m.length) a w := by
  intro m
  induction m with
  | nil => intro k ts H w a hl h hr; exact hK ts H a w h hr
  | cons o m ih =>
    intro k ts H w a hl h hr
    have ho : ops[k]? = some o := by
      have : (ops.toList.drop k)[0]? = some o := by rw [hl]; rfl
      simpa [List.getElem?_drop] using this
    have hl' : ops.toList.drop (k + 1) = m := by
      have : (ops.toList.drop k).tail = m := by rw [hl]; rfl
      simpa [List.tail_drop] using this
    simp only [List.length_cons, List.range'_succ, wpOpsIn, ho]
    simp only [opsl] at h
    obtain ⟨im, F, e1, e2, e3, e4, e5⟩ := hr.h
    rcases guard_sound (guardn_old h) e2 with ⟨hw, h⟩ | ⟨hw, h⟩
    · rw [if_pos hw]
      exact hopY hx hJ hY o (okYs_at hok ho) ts H a w _ _ h hr fun v vc H' w' k1 k2 => ih (k + 1) _ H' w' _ hl' k1 k2
    · rw [if_neg (by simp [hw])]
      exact ⟨fun _ _ => trivial, ih (k + 1) _ H w _ hl' h (hr.skip _)⟩

theorem InvY.drawn {G : Nat → Prop} {J : JT} (hJ : JOK G J) {ts : List V} {H : Heap} {a : Act} {w : World} (h : InvY G J ts H a w) : InvY G J ts H a { w with drawn := w.drawn + 1 } := by
  obtain ⟨im, F, e1, e2, e3, e4, e5⟩ := h.h
  exact ⟨im, F, e1, ⟨e2.1, fun i => VR.world (w := w) (w' := { w with drawn := w.drawn + 1 }) (fun _ _ _ (h : w.cell? _ = some _) => h) (e2.2 i)⟩, e3, e4, hJ.grow _ _ _ _ e5 ⟨rfl, rfl, rfl, Nat.le_refl _, fun _ _ => rfl⟩⟩

theorem TY_region {C : Ctx} {l : Nat} {xs : List (List V)} {G : Nat → Prop} {J : JT} (hx : ∀ as ∈ xs, cloL as = true) (hJ : JOK G J) (hY : YSpec C G l xs J) {id : Nat} {ops : Array Oper} (hok : okYs ops = true) {Q : Exit → List V → Heap → Prop} {ts : List V} {H : Heap}
    (h : opsl C.ty (cwY l xs) ops (Q .normal) ops.toList ts H) : TY C G J (.region id ops false) Q ts H := by
  intro a w hr
  refine wpIn_region ?_
  rw [List.range_eq_range']
  have := opslY hx hJ hY hok (K := Q .normal) (R := PostY G J Q) (fun ts H a w k1 k2 => ⟨ts, H, k1, k2⟩) ops.toList 0 ts H w a (by simp) h hr
  simpa using this
theorem TY_draw {C : Ctx} (hm : C.P.follows .mixedOrders = true) {l : Nat} {xs : List (List V)} {G : Nat → Prop} {J : JT} (hx : ∀ as ∈ xs, cloL as = true) (hJ : JOK G J) (hY : YSpec C G l xs J) {id : Nat} {ops : Array Oper} (hok : okYs ops = true) (hdr : drawOK ops = true) {Q : Exit → List V → Heap → Prop} {ts : List V} {H : Heap}
    (h : opsd C (cwY l xs) ops H (Q .normal) ops.toList ts H) : TY C G J (.region id ops true) Q ts H := by
  intro a w hr
  have hk : allKnown ops = true := by simp only [drawOK, Bool.and_eq_true] at hdr; exact hdr.1
  refine wpIn_region_any hm ?_
  have hx' := opsx_of (cwY_ok l xs) hk ops.toList 0 ts H (by simp) h
  refine any_soundG (cwY_ok l xs) (ro := none) (ops := ops) (H0 := H) (K := Q .normal) (R := PostY G J Q) (Inv := InvY G J) (by simp only [drawOK, Bool.and_eq_true] at hdr; exact hdr.1) (fun _ => True) (drawOK_hat hdr _) ?_ ?_ ?_ ?_
    ops.size (List.range' 0 ops.toList.length) _ ts H _ a (fun _ _ => trivial) ⟨by simp, ?_, fun i => ?_, fun i o ho hl => ?_⟩ (by simp) (.inl (.refl _)) hx' (hr.drawn hJ)
  · rintro ts' H' a' w' h1
    obtain ⟨im, F, e1, e2, _⟩ := h1.h
    exact ⟨im, _, e2⟩
  · intro i o ho ts' H' a' w' KK next h1 h2 hnext
    exact hopY hx hJ hY o (okYs_at hok ho) ts' H' a' w' KK next h1 h2 hnext
  · exact fun ts' H' a' w' d h1 => h1.skip d
  · exact fun a' w' ts' H' k1 k2 => ⟨ts', H', k1, k2⟩
  · exact List.pairwise_lt_range' ..
  · simp only [List.mem_range'_1, Nat.zero_le, true_and, Nat.zero_add, Array.length_toList]
    simp only [Array.getD_eq_getD_getElem?, Array.getElem?_replicate]
    constructor
    · intro h; refine ⟨h, ?_⟩; simp [h]
    · exact fun h => h.1
  · exfalso
    simp only [Array.getD_eq_getD_getElem?, Array.getElem?_replicate] at hl
    split at hl <;> simp at hl

theorem TY.mono {C : Ctx} {G : Nat → Prop} {J : JT} {c : Code} {Q Q' : Exit → List V → Heap → Prop} {ts : List V} {H : Heap} (h : TY C G J c Q ts H) (hq : ∀ e ts H, Q e ts H → Q' e ts H) : TY C G J c Q' ts H :=
  fun a w hr => wpIn_mono (h a w hr) fun e a w hp => by
    cases e with
    | panic c => exact hp
    | outgrown => exact hp
    | _ => obtain ⟨ts, H, h1, h2⟩ := hp; exact ⟨ts, H, hq _ _ _ h1, h2⟩
theorem TY_seq {C : Ctx} {G : Nat → Prop} {J : JT} {x y : Code} {Q : Exit → List V → Heap → Prop} {ts : List V} {H : Heap} (h : TY C G J x (seqQ (TY C G J y Q) Q) ts H) : TY C G J (.seq x y) Q ts H := by
  intro a w hr
  refine wpIn_seq (wpIn_mono (h a w hr) fun e a' w' hp => ?_)
  cases e with
  | normal => obtain ⟨ts', H', k1, k2⟩ := hp; exact k1 a' w' k2
  | _ => exact hp
theorem TY_cond {C : Ctx} {G : Nat → Prop} {J : JT} {c : Operand} {x y : Code} {Q : Exit → List V → Heap → Prop} {ts : List V} {H : Heap} {b : Bool} (hc : ev ts c = .bool b) (ht : b = true → TY C G J x Q ts H) (hf : b = false → TY C G J y Q ts H) : TY C G J (.cond c x y) Q ts H := by
  intro a w hr
  obtain ⟨im, F, e1, e2, e3, e4, e5⟩ := hr.h
  have hv := ev_VR e2 c
  rw [hc] at hv
  cases hq : a.eval c with
  | bool b' =>
    rw [hq] at hv
    cases hv
    exact wpIn_cond_split hq (fun e => ht e a w hr) (fun e => hf e a w hr)
  | _ => rw [hq] at hv; cases hv
theorem TY_block {C : Ctx} {G : Nat → Prop} {J : JT} {id : Nat} {c : Code} {Q : Exit → List V → Heap → Prop} {ts : List V} {H : Heap} (h : TY C G J c (blockQ id Q) ts H) : TY C G J (.block id c) Q ts H := by
  intro a w hr
  refine wpIn_block (wpIn_mono (h a w hr) fun e a' w' hp => ?_)
  cases e with
  | exit id' =>
    obtain ⟨ts', H', k1, k2⟩ := hp
    simp only [blockQ] at k1
    simp only [Exit.inBlock]
    split
    · rename_i he; rw [if_pos he] at k1; exact ⟨ts', H', k1, k2⟩
    · rename_i he; rw [if_neg he] at k1; exact ⟨ts', H', k1, k2⟩
  | _ => exact hp
theorem TY_loop {C : Ctx} {G : Nat → Prop} {J : JT} {c : Code} {Q : Exit → List V → Heap → Prop} {ts : List V} {H : Heap} (n : Nat) (h : loopN (TY C G J c) Q n ts H) : TY C G J (.loop c) Q ts H := by
  intro a w hr b k cs hro hb hroom
  have key : ∀ n ts H w a, loopN (TY C G J c) Q n ts H → InvY G J ts H a w →
      ∃ e a' w', PostY G J Q e a' w' ∧ ArrivesIn (Machine.fenced C.P (FW none)) C.P (lone (b.atR a (.code c :: .inLoop c :: k)) cs w) b k cs e a' w' := by
    intro n
    induction n with
    | zero => intro ts H w a h; exact h.elim
    | succ n ih =>
      intro ts H w a h hr
      obtain ⟨e, a₁, w₁, hq, harr⟩ := h a w hr b (.inLoop c :: k) cs hro hb hroom
      cases e with
      | normal =>
        obtain ⟨ts', H', k1, k2⟩ := hq
        obtain ⟨e₂, a₂, w₂, hq₂, harr₂⟩ := ih ts' H' w₁ a₁ k1 k2
        exact ⟨e₂, a₂, w₂, hq₂, .of_steps (StepsIn.trans harr (.one (fenced_calm hb hroom rfl) stepR_inLoop)) harr₂⟩
      | exit id => exact ⟨.exit id, a₁, w₁, hq, .pass (x := .inLoop c) rfl (fun _ _ => .inl (by simp)) harr⟩
      | goto l => exact ⟨.goto l, a₁, w₁, hq, .pass (x := .inLoop c) rfl (fun _ _ => .inl (by simp)) harr⟩
      | ret => exact ⟨.ret, a₁, w₁, hq, .pass (x := .inLoop c) rfl (fun _ _ => .inl (by simp)) harr⟩
      | panic ch => exact hq.elim
      | outgrown => exact hq.elim
  obtain ⟨e, a', w', hq, harr⟩ := key n ts H w a h hr
  exact ⟨e, a', w', hq, .of_steps (.one (fenced_calm hb hroom rfl) stepR_loop) harr⟩
theorem TY_loop_inv {C : Ctx} {G : Nat → Prop} {J : JT} {c : Code} {Q : Exit → List V → Heap → Prop} (I : Nat → List V → Heap → Prop) (step : ∀ n ts H, I n ts H → TY C G J c (seqQ (fun ts' H' => ∃ m, m < n ∧ I m ts' H') Q) ts H) {n : Nat} {ts : List V} {H : Heap} (h : I n ts H) : TY C G J (.loop c) Q ts H := by
  have key : ∀ k n ts H, n < k → I n ts H → loopN (TY C G J c) Q k ts H := by
    intro k
    induction k with
    | zero => intro n ts H hn; omega
    | succ k ih =>
      intro n ts H hn h
      refine (step n ts H h).mono fun e ts' H' hq => ?_
      cases e with
      | normal => obtain ⟨m, hm, hI⟩ := hq; exact ih m ts' H' (by omega) hI
      | _ => exact hq
  exact TY_loop (n + 1) (key (n + 1) n ts H (by omega) h)
theorem TY_env {C : Ctx} {G : Nat → Prop} {J : JT} {c : Code} {Q : Exit → List V → Heap → Prop} {ts : List V} {H : Heap} {N : Nat} (m : List (Nat × V)) (hL : ts.length = N) (hl : ∀ p ∈ m, nth ts p.1 = p.2) (h : TY C G J c Q (env N m) H) : TY C G J c Q ts H := by
  intro a w hr
  obtain ⟨im, F, e1, e2, e3, e4, e5⟩ := hr.h
  refine h a w ⟨im, F, e1, ⟨by rw [env_length, ← hL]; exact e2.1, fun j => ?_⟩, e3, e4, e5⟩
  rw [nth_env]
  unfold cif
  split
  · rcases look_mem m j with h1 | h1
    · rw [h1]; exact .any _
    · have := hl _ h1
      simp only at this
      rw [← this]; exact e2.2 j
  · exact .any _

/-- An iterator's code, along its parts. -/
def wpY (C : Ctx) (G : Nat → Prop) (l : Nat) (xs : List (List V)) (J : JT) : Code → (Exit → List V → Heap → Prop) → List V → Heap → Prop
  | .skip, Q, ts, H => Q .normal ts H
  | .region _ ops draw, Q, ts, H => okYs ops = true ∧ match draw with
    | false => opsl C.ty (cwY l xs) ops (Q .normal) ops.toList ts H
    | true => drawOK ops = true ∧ opsd C (cwY l xs) ops H (Q .normal) ops.toList ts H
  | .seq x y, Q, ts, H => wpY C G l xs J x (seqQ (wpY C G l xs J y Q) Q) ts H
  | .cond c x y, Q, ts, H => condw (ev ts c) (wpY C G l xs J x Q ts H) (wpY C G l xs J y Q ts H)
  | .block id c, Q, ts, H => wpY C G l xs J c (blockQ id Q) ts H
  | .loop c, Q, ts, H => TY C G J (.loop c) Q ts H
  | .exit id, Q, ts, H => Q (.exit id) ts H
  | .ret, Q, ts, H => Q .ret ts H
  | _, _, _, _ => False
theorem wpY_sound {C : Ctx} (hm : C.P.follows .mixedOrders = true) {l : Nat} {xs : List (List V)} {G : Nat → Prop} {J : JT} (hx : ∀ as ∈ xs, cloL as = true) (hJ : JOK G J) (hY : YSpec C G l xs J) : ∀ (c : Code) (Q : Exit → List V → Heap → Prop) (ts : List V) (H : Heap), wpY C G l xs J c Q ts H → TY C G J c Q ts H := by
  intro c
  induction c with
  | skip => exact fun Q ts H h a w hr => wpIn_skip (hr.now h (by simp) (by simp))
  | region id ops draw =>
    intro Q ts H h
    cases draw with
    | false => exact TY_region hx hJ hY h.1 h.2
    | true => exact TY_draw hm hx hJ hY h.1 h.2.1 h.2.2
  | seq x y ihx ihy =>
    intro Q ts H h
    exact TY_seq ((ihx _ _ _ h).mono fun e ts H hq => by
      cases e with
      | normal => exact ihy _ _ _ hq
      | _ => exact hq)
  | cond c x y ihx ihy =>
    intro Q ts H h
    simp only [wpY] at h
    unfold condw at h
    split at h
    · rename_i b hb
      exact TY_cond hb (fun e => ihx _ _ _ (h.1 e)) (fun e => ihy _ _ _ (h.2 e))
    · exact h.elim
  | block id c ih => exact fun Q ts H h => TY_block (ih _ _ _ h)
  | loop c _ => exact fun Q ts H h => h
  | exit id => exact fun Q ts H h a w hr => wpIn_exit (hr.now h (by simp) (by simp))
  | ret => exact fun Q ts H h a w hr => wpIn_ret (hr.now h (by simp) (by simp))
  | _ => exact fun Q ts H h => h.elim

theorem Gen.of {C : Ctx} (hm : C.P.follows .mixedOrders = true) {g : FuncId} {fn : Func} {c : Code} {lb : List V} {xs : List (List V)} {N : Nat} (hf : C.P.funcs[g]? = some fn) (hb : fn.body = some c) (hn : (fn.name == "runtime.NumGoroutine") = false) (hN : fn.ntmps = N) (hr : fn.results = #[]) (ha : lb.length + 1 ≤ N)
    (hx : ∀ as ∈ xs, cloL as = true) (h : ∀ G l J, wpY C G l xs J c (fun e _ H => (e = .normal ∨ e = .ret) ∧ (H.length = xs.length ∨ H.length = xs.length + 1)) (env N (argsl 0 (.fn (.yield l) [] [] :: lb))) []) : Gen C g lb xs := by
  subst hN
  refine ⟨⟨fn, hf, hn, by rw [hb]; rfl⟩, hx, fun G im F w lbv l J hl hv hB hJ hY hj => (callsIn_wide (n := 0)).1 ?_⟩
  refine callsIn_of_wp_marks hf hb trivial ?_
  have hI : InvY G J (.fn (.yield l) [] [] :: lb ++ List.replicate (fn.ntmps - (lb.length + 1)) .any) [] { tmps := (Value.func (.yield l) #[] #[] :: lbv).toArray ++ Array.replicate (fn.ntmps - (Value.func (.yield l) #[] #[] :: lbv).toArray.size) undef, defers := [] } w := by
    refine ⟨im, F, rfl, ⟨by simp [hl]; omega, fun i => ?_⟩, rfl, hB, hj⟩
    cases i with
    | zero =>
      have h0 : VR im (dk 0) w (.fn (.yield l) [] []) (.func (.yield l) #[] #[]) := VR.fn (.yield l) [] [] [] [] rfl (fun j => by simp only [nth]; exact .any _) rfl (fun j => by simp only [nth]; exact .any _)
      simpa [nth, Array.getD_eq_getD_getElem?, Array.getElem?_append] using h0
    | succ i =>
      rw [nth_append]
      split
      · rename_i hi
        have hi' : i < lb.length := by simpa using hi
        have := (hv i).ren (g := some) (im' := im) (pl' := dk 0) (fun r r' e => by simp [dk, NoPl]) (fun b hb => hb)
        rw [ren_some] at this
        simpa [nth, Array.getD_eq_getD_getElem?, Array.getElem?_append_left, hl ▸ hi', List.getD] using this
      · have : nth (List.replicate (fn.ntmps - (lb.length + 1)) V.any) (i + 1 - (V.fn (Fn.yield l) [] [] :: lb).length) = .any := by
          rw [nth_getD]; simp [List.getD, List.getElem?_replicate]; split <;> rfl
        rw [this]; exact .any _
  have hT := TY_env (argsl 0 (.fn (.yield l) [] [] :: lb)) (by simp; omega) (fun p hp => by
    obtain ⟨h1, h2, h3⟩ := argsl_mem _ 0 p hp
    rw [nth_append, if_pos (by omega)]
    exact h3) (wpY_sound hm hx hJ hY _ _ _ _ (h G l J)) _ _ hI
  refine wpIn_mono hT fun e a' w' hp => ?_
  have fin : ∀ ts' H', ((e = .normal ∨ e = .ret) ∧ (H'.length = xs.length ∨ H'.length = xs.length + 1)) → InvY G J ts' H' a' w' → LeavesInM Fence.wide 0 C.P fn a'.tmps (fun e W' => (∃ v, e = Ending.returned v) ∧ ∃ k F', (k = xs.length ∨ k = xs.length + 1) ∧ J k F' W') a'.defers .returning w' := by
    intro ts' H' k1 k2
    obtain ⟨im', F', e1, e2, e3, e4, e5⟩ := k2.h
    rw [e3]
    refine ⟨.tuple #[], ?_, ⟨_, rfl⟩, _, F', k1.2, e5⟩
    simp [results, hr, Sem.run_bind]
  cases e with
  | normal => obtain ⟨ts', H', k1, k2⟩ := hp; exact fin ts' H' k1 k2
  | ret => obtain ⟨ts', H', k1, k2⟩ := hp; exact fin ts' H' k1 k2
  | exit id => obtain ⟨ts', H', k1, k2⟩ := hp; rcases k1.1 with k | k <;> cases k
  | goto l => obtain ⟨ts', H', k1, k2⟩ := hp; rcases k1.1 with k | k <;> cases k
  | panic _ => exact hp.elim
  | outgrown => exact hp.elim
end Go.Bv
end

section
/-
  PART 21: the statement 'for .. range f'.
-/
set_option linter.unusedVariables false
set_option linter.unusedSimpArgs false
namespace Go.Bv
open Go.RowKit

theorem VR.keep {im : Nat → Prop} {pl : Nat → Place} {w w' : World} (hk : ∀ b, im b → w'.heap[b]? = w.heap[b]?) {v : V} {c : Value} (h : VR im pl w v c) : VR im pl w' v c :=
  h.world fun a v hi hc => cell_keep hc fun _ => hk _ hi
theorem TR.keep {im : Nat → Prop} {pl : Nat → Place} {w w' : World} (hk : ∀ b, im b → w'.heap[b]? = w.heap[b]?) {ts : List V} {tmps : Array Value} (h : TR im pl w ts tmps) : TR im pl w' ts tmps :=
  ⟨h.1, fun i => (h.2 i).keep hk⟩
theorem HR.keep {im : Nat → Prop} {pl : Nat → Place} {w w' : World} {H : Heap} (hs : w.heap.size ≤ w'.heap.size) (hk : ∀ b, (im b ∨ ∃ r cap, pl r = .at b cap) → w'.heap[b]? = w.heap[b]?) (h : HR im pl w H) : HR im pl w' H := by
  refine ⟨h.len, h.apart, fun r b cap hr => Nat.lt_of_lt_of_le (h.bound r b cap hr) hs, fun b hb => Nat.lt_of_lt_of_le (h.imb b hb) hs, h.inj, h.dead, h.virt, fun r b cap hr => ?_⟩
  obtain ⟨e, s, cs, cur, q1, q2, q3, q4, q5, q6⟩ := h.row r b cap hr
  exact ⟨e, s, cs, cur, q1, by rw [hk b (.inr ⟨r, cap, hr⟩)]; exact q2, q3, q4, q5, fun j => (q6 j).keep fun b hb => hk b (.inl hb)⟩
theorem VR.more {im im' : Nat → Prop} {pl : Nat → Place} {w : World} (hi : ∀ b, im b → im' b) {v : V} {c : Value} (h : VR im pl w v c) : VR im' pl w v c := by
  have := h.ren (g := some) (im' := im') (pl' := pl) (fun r r' e => by injection e with e; rw [e]) hi
  rwa [ren_some] at this
theorem HR.more {im im' : Nat → Prop} {pl : Nat → Place} {w : World} {H : Heap} (hi : ∀ b, im b → im' b) (ha : ∀ b, im' b → b < w.heap.size ∧ ∀ r cap, pl r ≠ .at b cap) (h : HR im pl w H) : HR im' pl w H := by
  refine ⟨h.len, fun b hb => (ha b hb).2, h.bound, fun b hb => (ha b hb).1, h.inj, h.dead, h.virt, fun r b cap hr => ?_⟩
  obtain ⟨e, s, cs, cur, q1, q2, q3, q4, q5, q6⟩ := h.row r b cap hr
  exact ⟨e, s, cs, cur, q1, q2, q3, q4, q5, fun j => (q6 j).more hi⟩

/-- The loop's variables. -/
def putl : List V → List Tmp → List V → List V
  | ts, p :: ps, v :: vs => putl (upd ts p v) ps vs
  | ts, _, _ => ts
theorem putl_TR {im : Nat → Prop} {pl : Nat → Place} {w : World} : ∀ (ps : List Tmp) (as : List V) (vs : List Value) (ts : List V) (tmps : Array Value), TR im pl w ts tmps → as.length = vs.length → (∀ j, VR im pl w (nth as j) (vs.getD j undef)) →
    TR im pl w (putl ts ps as) ((ps.zip vs).foldl (fun t p => t.setIfInBounds p.1 p.2) tmps)
  | [], as, vs, ts, tmps, h, hl, hv => by cases as <;> simpa [putl] using h
  | p :: ps, [], vs, ts, tmps, h, hl, hv => by
    have : vs = [] := List.eq_nil_of_length_eq_zero hl.symm
    subst this; simpa [putl] using h
  | p :: ps, a :: as, v :: vs, ts, tmps, h, hl, hv => by
    simp only [putl, List.zip_cons_cons, List.foldl_cons]
    refine putl_TR ps as vs _ _ ?_ (by simpa using hl) (fun j => by simpa [nth] using hv (j + 1))
    have := TR.put (a := { tmps := tmps, defers := [] }) h (by simpa [nth] using hv 0) (some p)
    simpa [putd, Act.put] using this
  | p :: ps, a :: as, [], ts, tmps, h, hl, hv => by simp at hl

theorem Ext.avoid {imA imB : Nat → Prop} {plA plB : Nat → Place} {WA WB : World} (hE : Ext imA plA WA imB plB WB) {c : Nat} (hc : c < WA.heap.size) (hr : ∀ r cap, plA r ≠ .at c cap) (hi : ¬ imA c) : (∀ r cap, plB r ≠ .at c cap) ∧ ¬ imB c ∧ WB.heap[c]? = WA.heap[c]? ∧ c < WB.heap.size := by
  refine ⟨fun r cap h => ?_, fun h => ?_, hE.frame c hc hr, Nat.lt_of_lt_of_le hc hE.size⟩
  · rcases hE.pln r c cap h with ⟨r', cap', h1⟩ | h1
    · exact hr _ _ h1
    · omega
  · rcases hE.imn c h with h1 | h1 | ⟨r, cap, h1⟩
    · exact hi h1
    · omega
    · exact hr _ _ h1
theorem putObj_size (W : World) (l : Nat) (o : Obj) : (W.putObj l o).heap.size = W.heap.size := by simp [World.putObj]
theorem putObj_ne (W : World) {l k : Nat} (o : Obj) (h : k ≠ l) : (W.putObj l o).heap[k]? = W.heap[k]? := by simp [World.putObj, Array.getElem?_setIfInBounds, Ne.symm h]
theorem putObj_eq (W : World) {l : Nat} (o : Obj) (h : l < W.heap.size) : (W.putObj l o).heap[l]? = some o := by simp [World.putObj, Array.getElem?_setIfInBounds, h]
theorem Ext.put {im im1 : Nat → Prop} {pl pl1 : Nat → Place} {w W : World} (h : Ext im pl w im1 pl1 W) {l : Nat} (o : Obj) (hl : w.heap.size ≤ l) : Ext im pl w im1 pl1 (W.putObj l o) :=
  ⟨h.os, h.tape, h.output, by rw [putObj_size]; exact h.size, h.imm, h.imn, h.plo, h.pln, fun b hb hn => by rw [putObj_ne _ _ (by omega)]; exact h.frame b hb hn⟩
theorem HR.put {im : Nat → Prop} {pl : Nat → Place} {W : World} {H : Heap} (h : HR im pl W H) {l : Nat} (o : Obj) (hi : ¬ im l) (hr : ∀ r cap, pl r ≠ .at l cap) : HR im pl (W.putObj l o) H :=
  h.keep (by rw [putObj_size]; exact Nat.le_refl _) fun b hb => putObj_ne _ _ (by
    rintro rfl
    rcases hb with hb | ⟨r, cap, hb⟩
    · exact hi hb
    · exact hr r cap hb)
theorem TR.putO {im : Nat → Prop} {pl : Nat → Place} {W : World} {ts : List V} {tmps : Array Value} (h : TR im pl W ts tmps) {l : Nat} (o : Obj) (hi : ¬ im l) : TR im pl (W.putObj l o) ts tmps :=
  h.keep fun b hb => putObj_ne _ _ (by rintro rfl; exact hi hb)
theorem DefOK.putO {pl : Nat → Place} {W : World} {ds : List Deferred} (h : DefOK pl W ds) {l : Nat} (o : Obj) {r0 : Loop} (hl : W.heap[l]? = some (.loop r0)) : DefOK pl (W.putObj l o) ds := by
  refine ⟨h.nodup, fun d hd => ?_⟩
  obtain ⟨r, h1, h2, h3⟩ := h.each d hd
  refine ⟨r, h1, ?_, h3⟩
  rw [putObj_ne _ _ (by rintro rfl; rw [hl] at h2; cases h2)]; exact h2

/-- How a round is left. -/
def rangeQ (C : Ctx) (Q : Exit → List V → Heap → Prop) (ts : List V) (go : Heap → Prop) : Exit → List V → Heap → Prop
  | .normal, _, H => go H
  | .ret, _, H => Q .ret ts H
  | .exit id, _, H => Q (.exit id) ts H
  | .goto t, _, H => Q (.goto t) ts H
  | _, _, _ => False

/-- **A range over a function.** -/
theorem T_range {C : Ctx} {f : Operand} {ps : Array Tmp} {assign body : Code} {Q : Exit → List V → Heap → Prop} {ts : List V} {H : Heap} {g : FuncId} {lb : List V} {xs : List (List V)} (hf : ev ts f = .fn (.func g) [] lb) (hlb : cloL lb = true) (hg : Gen C g lb xs) (hps : ∀ as ∈ xs, as.length = ps.size)
    (I : Nat → Heap → Prop) (h0 : I 0 H)
    (step : ∀ k as H, xs[k]? = some as → I k H → ∀ l, T C (some l) assign (fun e ts1 H1 => e = .normal ∧ T C (some l) body (rangeQ C Q ts (I (k + 1))) ts1 H1) (putl ts ps.toList as) H)
    (done : ∀ H, I xs.length H → Q .normal ts H) : T C none (.rangeFunc f ps assign body) Q ts H := by
  intro im pl w a hr
  refine wpIn_rangeFunc fun fn _ => ?_
  have hfv := ev_VR hr.tr f
  rw [hf] at hfv
  obtain ⟨lbv, hev, hlbl, hlbv⟩ : ∃ lbv : List Value, a.eval f = .func (.func g) #[] lbv.toArray ∧ lb.length = lbv.length ∧ ∀ j, VR im pl w (nth lb j) (lbv.getD j undef) := by
    cases hfe : a.eval f with
    | func g us vs =>
      rw [hfe] at hfv
      generalize hus : us = us' at hfv
      generalize hvs : vs = vs' at hfv
      cases hfv with
      | fn _ _ _ us vs hl1 hr1 hl2 hr2 =>
        have hu : us = [] := List.eq_nil_of_length_eq_zero hl1.symm
        subst hu
        exact ⟨vs, rfl, hl2, hr2⟩
    | _ => rw [hfe] at hfv; cases hfv
  obtain ⟨rec, hrec⟩ : ∃ rec : LoopState → Option Code → Loop, rec = fun st pe => { state := st, pending := pe, fn, tmps := a.tmps, params := ps, assign, body, defers := w.heap.size } := ⟨_, rfl⟩
  obtain ⟨W1, hW1⟩ : ∃ W1, (w.alloc (.deferred (some []))).alloc (.loop (rec .ready none)) = W1 := ⟨_, rfl⟩
  have hL1 : W1.heap[w.heap.size + 1]? = some (.loop (rec .ready none)) := by
    rw [← hW1]; have := World.alloc_heap_new (w.alloc (.deferred (some []))) (.loop (rec .ready none)); rwa [World.size_alloc] at this
  have hK1 : W1.heap[w.heap.size]? = some (.deferred (some [])) := by
    rw [← hW1]; exact (Below.heap_alloc _ _ _ (by simp)).trans (World.alloc_heap_new w _)
  have hS1 : W1.heap.size = w.heap.size + 2 := by rw [← hW1]; simp
  have hold : ∀ b, b < w.heap.size → W1.heap[b]? = w.heap[b]? := fun b hb => by
    rw [← hW1, Below.heap_alloc _ _ _ (by simp; omega), Below.heap_alloc _ _ _ hb]
  have hE1 : Ext im pl w im pl W1 := ⟨by rw [← hW1]; rfl, by rw [← hW1]; rfl, by rw [← hW1]; rfl, by omega, fun _ h => h, fun _ h => .inl h, fun _ _ => .inl rfl, fun r b cap h => .inl ⟨r, cap, h⟩, fun b hb _ => hold b hb⟩
  -- what stands between two rounds
  let l := w.heap.size + 1
  let b0 := w.heap.size
  let St := fun (F im' : Nat → Prop) (pl' : Nat → Place) (H' : Heap) (W : World) => HR im' pl' W H' ∧ TR im' pl' W ts a.tmps ∧ Ext im pl w im' pl' W ∧ W.heap[b0]? = some (.deferred (some [])) ∧ (∀ r cap, pl' r ≠ .at b0 cap ∧ pl' r ≠ .at l cap) ∧ (¬ im' b0 ∧ ¬ im' l) ∧ (∀ b, F b ↔ (b = b0 ∨ b = l ∨ ∃ r cap, pl' r = .at b cap))
  let G : Nat → Prop := fun b => im b ∨ w.heap.size ≤ b
  let J : JT := fun k F W => if k ≤ xs.length then (∃ im' pl' H', I k H' ∧ St F im' pl' H' W ∧ W.heap[l]? = some (.loop (rec .ready none)))
    else (∃ e c im' pl' H', (e = Exit.ret ∧ c = Code.ret ∨ (∃ id, e = .exit id ∧ c = .exit id) ∨ (∃ t, e = .goto t ∧ c = .goto t)) ∧ Q e ts H' ∧ St F im' pl' H' W ∧ W.heap[l]? = some (.loop (rec .done (some c))))
  have stGrow : ∀ F im' pl' H' W W', St F im' pl' H' W → Grow W W' → St F im' pl' H' W' := by
    rintro F im' pl' H' W W' ⟨s1, s2, s3, s4, s5, s6, s7⟩ hg
    have hb0 : b0 < W.heap.size := (Array.getElem?_eq_some_iff.1 s4).1
    refine ⟨s1.keep hg.size fun b hb => hg.keep b ?_, s2.keep fun b hb => hg.keep b (s1.imb b hb), ?_, by rw [hg.keep b0 hb0]; exact s4, s5, s6, s7⟩
    · rcases hb with hb | ⟨r, cap, hb⟩
      · exact s1.imb b hb
      · exact s1.bound r b cap hb
    · refine s3.trans ⟨hg.os, hg.tape, hg.output, hg.size, fun _ h => h, fun _ h => .inl h, fun _ _ => .inl rfl, fun r b cap h => .inl ⟨r, cap, h⟩, fun b hb _ => hg.keep b hb⟩
  have hJ : JOK G J := by
    refine ⟨fun k F W hj b hb => ?_, fun k F W hj b hb => ?_, fun k F W W' hj hg => ?_⟩
    · refine .inr ?_
      have : w.heap.size ≤ W.heap.size := by
        simp only [J] at hj
        split at hj
        · obtain ⟨im', pl', H', _, ⟨_, _, s3, _⟩, _⟩ := hj; exact s3.size
        · obtain ⟨e, c, im', pl', H', _, _, ⟨_, _, s3, _⟩, _⟩ := hj; exact s3.size
      omega
    · have key : ∀ im' pl' H', St F im' pl' H' W → l < W.heap.size → b < W.heap.size := by
        rintro im' pl' H' ⟨s1, s2, s3, s4, s5, s6, s7⟩ hl
        rcases (s7 b).1 hb with rfl | rfl | ⟨r, cap, h⟩
        · exact (Array.getElem?_eq_some_iff.1 s4).1
        · exact hl
        · exact s1.bound r b cap h
      simp only [J] at hj
      split at hj
      · obtain ⟨im', pl', H', _, s, hl⟩ := hj; exact key im' pl' H' s (Array.getElem?_eq_some_iff.1 hl).1
      · obtain ⟨e, c, im', pl', H', _, _, s, hl⟩ := hj; exact key im' pl' H' s (Array.getElem?_eq_some_iff.1 hl).1
    · simp only [J] at hj ⊢
      split at hj
      · rename_i hk
        rw [if_pos hk]
        obtain ⟨im', pl', H', hi, s, hl⟩ := hj
        exact ⟨im', pl', H', hi, stGrow _ _ _ _ _ _ s hg, by rw [hg.keep l (Array.getElem?_eq_some_iff.1 hl).1]; exact hl⟩
      · rename_i hk
        rw [if_neg hk]
        obtain ⟨e, c, im', pl', H', he, hq, s, hl⟩ := hj
        exact ⟨e, c, im', pl', H', he, hq, stGrow _ _ _ _ _ _ s hg, by rw [hg.keep l (Array.getElem?_eq_some_iff.1 hl).1]; exact hl⟩
  refine ⟨l, [{ target := .collected b0, args := #[] }], W1, { target := .fn (.func g) lbv.toArray, args := #[.func (.yield l) #[] #[]] }, W1, g, ([Value.func (.yield l) #[] #[]] ++ lbv).toArray, W1, ?_, ?_, fun _ _ => trivial, ?_, (fun h => by cases h), ?_⟩
  · rw [← hW1, hrec]; exact run_enterLoop_outer _ _ _ _ _
  · simp only [resolve, hev]
    simp [go_sem]
  · obtain ⟨fn', q1, q2, q3⟩ := hg.1
    have h2' : ¬ fn'.name = "runtime.NumGoroutine" := by simpa using q2
    have h3' : ¬ fn'.body = none := by intro e; rw [e] at q3; cases q3
    simp only [invoke, callFunc]
    simp [Go.program, Sem.run, q1, h2', h3']
  have hF0 : J 0 (fun b => b = b0 ∨ b = l ∨ ∃ r cap, pl r = .at b cap) W1 := by
    simp only [J]
    rw [if_pos (Nat.zero_le _)]
    refine ⟨im, pl, H, h0, ⟨hr.hr.keep (by omega) fun b hb => hold b ?_, hr.tr.keep fun b hb => hold b (hr.hr.imb b hb), hE1, hK1, fun r cap => ⟨fun e => ?_, fun e => ?_⟩, ⟨fun e => ?_, fun e => ?_⟩, fun b => Iff.rfl⟩, hL1⟩
    · rcases hb with hb | ⟨r, cap, hb⟩
      · exact hr.hr.imb b hb
      · exact hr.hr.bound r b cap hb
    · have h : w.heap.size < w.heap.size := hr.hr.bound r _ cap e; omega
    · have h : w.heap.size + 1 < w.heap.size := hr.hr.bound r _ cap e; omega
    · have h : w.heap.size < w.heap.size := hr.hr.imb _ e; omega
    · have h : w.heap.size + 1 < w.heap.size := hr.hr.imb _ e; omega
  have hYS : YSpec C G l xs J := by
    intro k F W as imI vs hj hxk hvl hB hv
    have hk : k < xs.length := (List.getElem?_eq_some_iff.1 hxk).1
    have has : as ∈ xs := List.mem_of_getElem? hxk
    simp only [J] at hj
    rw [if_pos (by omega)] at hj
    obtain ⟨im', pl', H', hi, ⟨s1, s2, s3, s4, s5, s6, s7⟩, hlr⟩ := hj
    have hll : l < W.heap.size := (Array.getElem?_eq_some_iff.1 hlr).1
    have hb0 : b0 < W.heap.size := (Array.getElem?_eq_some_iff.1 s4).1
    have hy := run_yield (P := C.P) (args := vs.toArray) hlr (by rw [hrec]; simp [← hvl, hps as has])
    rw [hrec] at hy
    refine ⟨fn, _, assign, body, hy, roundIn_of_wpIn (F := FW none) trivial ?_⟩
    -- the caller's state, the iterator's values beside it
    let im2 : Nat → Prop := fun b => im' b ∨ imI b
    have hm1 : ∀ b, im' b → im2 b := fun b hb => .inl hb
    have ha2 : ∀ b, im2 b → b < W.heap.size ∧ ∀ r cap, pl' r ≠ .at b cap := by
      rintro b (hb | hb)
      · exact ⟨s1.imb b hb, s1.apart b hb⟩
      · exact ⟨(hB b hb).1.1, fun r cap hr => (hB b hb).1.2 ((s7 b).2 (.inr (.inr ⟨r, cap, hr⟩)))⟩
    have hH2 : HR im2 pl' W H' := s1.more hm1 ha2
    have hT2 : TR im2 pl' W ts a.tmps := ⟨s2.1, fun i => (s2.2 i).more hm1⟩
    have hE2 : Ext im pl w im2 pl' W := ⟨s3.os, s3.tape, s3.output, s3.size, fun b hb => .inl (s3.imm b hb), fun b hb => by
      rcases hb with hb | hb
      · exact s3.imn b hb
      · rcases (hB b hb).2 with h | h
        · exact .inl h
        · exact .inr (.inl h), s3.plo, s3.pln, s3.frame⟩
    have n0 : ¬ im2 b0 := by
      rintro (h | h)
      · exact s6.1 h
      · exact (hB _ h).1.2 ((s7 _).2 (.inl rfl))
    have nl : ¬ im2 l := by
      rintro (h | h)
      · exact s6.2 h
      · exact (hB _ h).1.2 ((s7 _).2 (.inr (.inl rfl)))
    have hput := putl_TR ps.toList as vs ts a.tmps hT2 hvl fun j => ((hv j).clo (pl' := pl') (clo_nth (hg.2.1 as has) j)).more fun b hb => .inr hb
    have hfold : (ps.toList.zip vs).foldl (fun t p => t.setIfInBounds p.1 p.2) a.tmps = (ps.zip vs.toArray).foldl (fun tmps (x : Tmp × Value) => tmps.setIfInBounds x.1 x.2) a.tmps := by
      rw [← Array.foldl_toList, Array.toList_zip]
    rw [hfold] at hput
    have hst := step k as H' hxk hi l im2 pl' W { tmps := (ps.zip vs.toArray).foldl (fun tmps (x : Tmp × Value) => tmps.setIfInBounds x.1 x.2) a.tmps, defers := [] } ⟨hput, hH2, .nil _ _⟩
    refine wpIn_mono (F := FW (some l)) hst fun e a1 w1 hp => ?_
    have hnorm : e = .normal := by
      cases e with
      | normal => rfl
      | panic c => exact hp.elim
      | outgrown => exact hp.elim
      | _ => obtain ⟨_, _, _, _, h, _⟩ := hp; cases h.1
    subst hnorm
    obtain ⟨ts1, H1, im1, pl1, ⟨_, hbody⟩, hR1, hE3, hM1⟩ := hp
    have avl := hE3.avoid hll (fun r cap => (s5 r cap).2) nl
    have av0 := hE3.avoid hb0 (fun r cap => (s5 r cap).1) n0
    have hl1 : w1.heap[l]? = some (.loop (rec .ready none)) := avl.2.2.1.trans hlr
    refine ⟨_, run_beginRound hl1 (by rw [hrec]), ?_⟩
    generalize hw2 : w1.putObj l (.loop { rec .ready none with state := .busy }) = w2
    have hs2 : w2.heap.size = w1.heap.size := by rw [← hw2, putObj_size]
    have hl2 : w2.heap[l]? = some (.loop { rec .ready none with state := .busy }) := by rw [← hw2]; exact putObj_eq _ _ avl.2.2.2
    have hR2 : Rel im1 pl1 w2 ts1 H1 a1 := by rw [← hw2]; exact ⟨hR1.tr.putO _ avl.2.1, hR1.hr.put _ avl.2.1 avl.1, hR1.df.putO _ hl1⟩
    refine wpIn_mono (F := FW (some l)) (hbody im1 pl1 w2 a1 hR2) fun e a2 w3 hp => ?_
    have fin : ∀ (jump : Option Code) ts2 H2 im3 pl3, Rel im3 pl3 w3 ts2 H2 a2 → Ext im1 pl1 w2 im3 pl3 w3 →
        (∀ F' W4, (∀ b, F' b ↔ (b = b0 ∨ b = l ∨ ∃ r cap, pl3 r = .at b cap)) → St F' im3 pl3 H2 W4 → W4.heap[l]? = some (.loop (rec (if jump.isNone then .ready else .done) jump)) → J (if jump.isNone = true then k + 1 else xs.length + 1) F' W4) →
        ∃ v w', (Instr.endRound l jump).run C.P w3 = .ok v w' ∧ ∃ b F', Ending.returned v = .returned (.bool b) ∧ J (if b = true then k + 1 else xs.length + 1) F' w' ∧ Chg F W F' w' := by
      intro jump ts2 H2 im3 pl3 hR3 hE4 hJ4
      have bvl := hE4.avoid (c := l) (by omega) avl.1 avl.2.1
      have bv0 := hE4.avoid (c := b0) (by have := av0.2.2.2; omega) av0.1 av0.2.1
      have hl3 : w3.heap[l]? = some (.loop { rec .ready none with state := .busy }) := bvl.2.2.1.trans hl2
      refine ⟨_, _, run_endRound jump hl3, jump.isNone, fun b => b = b0 ∨ b = l ∨ ∃ r cap, pl3 r = .at b cap, rfl, ?_, ?_⟩
      · refine hJ4 _ _ (fun b => Iff.rfl) ⟨hR3.hr.put _ bvl.2.1 bvl.1, ?_, ?_, ?_, fun r cap => ⟨bv0.1 r cap, bvl.1 r cap⟩, ⟨bv0.2.1, bvl.2.1⟩, fun b => Iff.rfl⟩ ?_
        · have t1 := (hT2.mono hE3 hH2.apart).putO (.loop { rec .ready none with state := .busy }) avl.2.1
          rw [hw2] at t1
          exact (t1.mono hE4 hR2.hr.apart).putO _ bvl.2.1
        · have t1 := (hE2.trans hE3).put (.loop { rec .ready none with state := .busy }) (l := l) (by simp only [l]; omega)
          rw [hw2] at t1
          exact (t1.trans hE4).put _ (by simp only [l]; omega)
        · rw [putObj_ne _ _ (by simp only [l, b0]; omega), bv0.2.2.1, ← hw2, putObj_ne _ _ (by simp only [l, b0]; omega), av0.2.2.1]; exact s4
        · rw [putObj_eq _ _ bvl.2.2.2, hrec]
      · refine ⟨by rw [putObj_size]; have := hE4.size; have := hE3.size; omega, fun b hb hF => ?_, fun b hF => ?_⟩
        · have hnl : b ≠ l := fun e => hF ((s7 b).2 (.inr (.inl e)))
          have hnr : ∀ r cap, pl' r ≠ .at b cap := fun r cap h => hF ((s7 b).2 (.inr (.inr ⟨r, cap, h⟩)))
          have hb1 : b < w1.heap.size := Nat.lt_of_lt_of_le hb hE3.size
          have hnr1 : ∀ r cap, pl1 r ≠ .at b cap := fun r cap h => by
            rcases hE3.pln r b cap h with ⟨r', cap', h1⟩ | h1
            · exact hnr _ _ h1
            · omega
          rw [putObj_ne _ _ hnl, hE4.frame b (by omega) hnr1, ← hw2, putObj_ne _ _ hnl, hE3.frame b hb hnr]
        · rcases hF with rfl | rfl | ⟨r, cap, h⟩
          · exact .inl ((s7 _).2 (.inl rfl))
          · exact .inl ((s7 _).2 (.inr (.inl rfl)))
          · rcases hE4.pln r b cap h with ⟨r', cap', h1⟩ | h1
            · rcases hE3.pln r' b cap' h1 with ⟨r'', cap'', h2⟩ | h2
              · exact .inl ((s7 _).2 (.inr (.inr ⟨r'', cap'', h2⟩)))
              · exact .inr h2
            · have := hE3.size; exact .inr (by omega)
    have out : ∀ c e ts2 H2 im3 pl3, (e = Exit.ret ∧ c = Code.ret ∨ (∃ id, e = .exit id ∧ c = .exit id) ∨ (∃ t, e = .goto t ∧ c = .goto t)) → Q e ts H2 → Rel im3 pl3 w3 ts2 H2 a2 → Ext im1 pl1 w2 im3 pl3 w3 →
        ∃ v w', (Instr.endRound l (some c)).run C.P w3 = .ok v w' ∧ ∃ b F', Ending.returned v = .returned (.bool b) ∧ J (if b = true then k + 1 else xs.length + 1) F' w' ∧ Chg F W F' w' := by
      intro c e ts2 H2 im3 pl3 he hq hR3 hE4
      refine fin (some c) ts2 H2 im3 pl3 hR3 hE4 fun F' W4 hF' hSt hl4 => ?_
      simp only [Option.isNone_some, Bool.false_eq_true, if_false] at hl4 ⊢
      simp only [J]
      rw [if_neg (by omega)]
      exact ⟨e, c, im3, pl3, H2, he, hq, hSt, hl4⟩
    cases e with
    | normal =>
      obtain ⟨ts2, H2, im3, pl3, hq, hR3, hE4, _⟩ := hp
      refine fin none ts2 H2 im3 pl3 hR3 hE4 fun F' W4 hF' hSt hl4 => ?_
      simp only [Option.isNone_none, if_true] at hl4 ⊢
      simp only [J]
      rw [if_pos (by omega)]
      exact ⟨im3, pl3, H2, hq, hSt, hl4⟩
    | ret =>
      obtain ⟨ts2, H2, im3, pl3, hq, hR3, hE4, _⟩ := hp
      exact out .ret .ret ts2 H2 im3 pl3 (.inl ⟨rfl, rfl⟩) hq hR3 hE4
    | exit id =>
      obtain ⟨ts2, H2, im3, pl3, hq, hR3, hE4, _⟩ := hp
      exact out (.exit id) (.exit id) ts2 H2 im3 pl3 (.inr (.inl ⟨id, rfl, rfl⟩)) hq hR3 hE4
    | goto t =>
      obtain ⟨ts2, H2, im3, pl3, hq, hR3, hE4, _⟩ := hp
      exact out (.goto t) (.goto t) ts2 H2 im3 pl3 (.inr (.inr ⟨t, rfl, rfl⟩)) hq hR3 hE4
    | panic c => exact hp.elim
    | outgrown => exact hp.elim
  have hcall := hg.2.2 G im _ W1 lbv l J hlbl (fun j => ((hlbv j).clo (clo_nth hlb j)).keep fun b hb => hold b (hr.hr.imb b hb)) (fun b hb => ⟨⟨by have := hr.hr.imb b hb; omega, fun hF => ?_⟩, .inl hb⟩) hJ hYS hF0
  · refine CallsIn.mono (F := FW none) (show CallsIn Fence.wide _ C.P g _ W1 _ from callsIn_wide.2 hcall) fun e W' hp => ?_
    obtain ⟨⟨v, rfl⟩, k, F', hk, hj⟩ := hp
    have fin : ∀ e im' pl' H' st pe, (∀ c, e ≠ Exit.panic c) → e ≠ .outgrown → Q e ts H' → St F' im' pl' H' W' → W'.heap[l]? = some (.loop (rec st pe)) → ∀ o, Post im pl w a.defers Q e { a with defers := [{ target := .collected b0, args := #[] }] ++ a.defers } (W'.putObj l o) := by
      rintro e im' pl' H' st pe hp ho hq ⟨s1, s2, s3, s4, s5, s6, s7⟩ hl o
      have hR : Rel im' pl' (W'.putObj l o) ts H' { a with defers := [{ target := .collected b0, args := #[] }] ++ a.defers } := by
        refine ⟨s2.putO o s6.2, s1.put o s6.2 fun r cap => (s5 r cap).2, ?_⟩
        have hd := (hr.df.mono s3).putO o hl
        refine ⟨List.pairwise_cons.2 ⟨fun d hd' => ?_, hd.nodup⟩, fun d hd' => ?_⟩
        · obtain ⟨r, h1, h2, _⟩ := hr.df.each d hd'
          rw [h1]
          intro e
          injection e with e
          have := (Array.getElem?_eq_some_iff.1 h2).1
          simp only [b0] at e; omega
        · rcases List.mem_cons.1 hd' with rfl | hd'
          · exact ⟨b0, rfl, by rw [putObj_ne _ _ (by simp only [l, b0]; omega)]; exact s4, fun q cap => (s5 q cap).1⟩
          · exact hd.each d hd'
      have hM : Marks w a.defers ([{ target := .collected b0, args := #[] }] ++ a.defers) := ⟨_, rfl, fun d hd => by
        rcases List.mem_singleton.1 hd with rfl
        exact ⟨b0, rfl, Nat.le_refl _⟩⟩
      have hE := s3.put o (l := l) (by simp only [l]; omega)
      cases e with
      | panic c => exact (hp c rfl).elim
      | outgrown => exact (ho rfl).elim
      | _ => exact ⟨ts, H', im', pl', hq, hR, hE, hM⟩
    simp only [J] at hj
    rcases hk with rfl | rfl
    · rw [if_pos (Nat.le_refl _)] at hj
      obtain ⟨im', pl', H', hi, hSt, hl⟩ := hj
      have hend := run_endLoop (P := C.P) hl (by rw [hrec]; simp)
      rw [hrec] at hend
      refine ⟨none, _, hend, ?_⟩
      exact fin .normal im' pl' H' _ _ (by simp) (by simp) (done H' hi) hSt hl _
    · rw [if_neg (by omega)] at hj
      obtain ⟨e, c, im', pl', H', he, hq, hSt, hl⟩ := hj
      have hend := run_endLoop (P := C.P) hl (by rw [hrec]; simp)
      rw [hrec] at hend
      refine ⟨some c, _, hend, ?_⟩
      rcases he with ⟨rfl, rfl⟩ | ⟨id, rfl, rfl⟩ | ⟨t, rfl, rfl⟩
      · exact wpIn_ret (fin _ im' pl' H' _ _ (by simp) (by simp) hq hSt hl _)
      · exact wpIn_exit (fin _ im' pl' H' _ _ (by simp) (by simp) hq hSt hl _)
      · exact wpIn_goto (fin _ im' pl' H' _ _ (by simp) (by simp) hq hSt hl _)
  · have h1 := hr.hr.imb b hb
    rcases hF with rfl | rfl | ⟨r, cap, hF⟩
    · have h : w.heap.size < w.heap.size := h1; omega
    · have h : w.heap.size + 1 < w.heap.size := h1; omega
    · exact hr.hr.apart b hb r cap hF
end Go.Bv
end

section
/-
  PART 22: small laws for use.
-/
set_option linter.unusedVariables false
set_option linter.unusedSimpArgs false
namespace Go.Bv
open Go.RowKit

/-- One element of one cell is appended to a slice of one's own. -/
theorem app_one {y : Ty} {e e' s' n : Nat} {v x : V} {H : Heap} {cs : List V} {K : V → Heap → Prop} (h : Own e 1 H v n cs) (hy : y.size = 1) (hb : 0 < y.bytes ∧ y.bytes ≤ 64) (hl : n + 1 ≤ 2000000000000) (hx : scal x = true) (hc : cs.all scal = true)
    (hK : ∀ v' H', Own e 1 H' v' (n + 1) (cs ++ [x]) → Fr v H H' → K v' H') : appw y e v (.ref H.length 0 1) (H ++ [some ⟨e', s', [x]⟩]) K := by
  rw [← hy] at h
  refine app_lit h (by simp [hy]) (by simp [hx]) (by omega) hb.1 ?_ hc fun v' H' h1 h2 => hK v' H' ?_ h2
  · have := Nat.mul_le_mul hl hb.2; omega
  · rwa [hy] at h1
theorem take_succ_getD {α : Type} (l : List α) (d : α) {i : Nat} (h : i < l.length) : l.take (i + 1) = l.take i ++ [l.getD i d] := by
  rw [List.take_add_one]; congr 1; simp [List.getD, h]
theorem intss_take (l : List (List Int)) {i : Nat} (h : i < l.length) : intss (l.take (i + 1)) = intss (l.take i) ++ [.sl (l.getD i []).length (ints (l.getD i []))] := by
  rw [take_succ_getD l [] h, intss_append]; rfl
theorem blockQ_ne {Q : Exit → List V → Heap → Prop} {ts : List V} {H : Heap} (id id' : Nat) (h : id' ≠ id) : blockQ id Q (.exit id') ts H = Q (.exit id') ts H := by simp [blockQ, h]
attribute [go_sem] blockQ_ne
/-- A clone: appended to a slice without elements. -/
theorem app_clone {y : Ty} {e m r : Nat} {H : Heap} {cs : List V} {K : V → Heap → Prop} (hr : rowOf H r = some ⟨e, 1, []⟩) (hy : y.size = 1) (hb : 0 < y.bytes ∧ y.bytes ≤ 64) (hl : m ≤ 2000000000000) (hm : cs.length = m) (hc : cs.all scal = true)
    (hK : ∀ v' H', Own e 1 H' v' m cs → Fr (.ref r 0 0) H H' → K v' H') : appw y e (.ref r 0 0) (.sl m cs) H K := by
  have h : Own e y.size H (.ref r 0 0) 0 [] := .inr ⟨r, rfl, by rw [hy]; exact hr, by simp⟩
  refine appw_own h (m := m) (news := cs) rfl (by rw [hy, hm]; omega) hc (by omega) hb.1 ?_ rfl fun v' H' h1 h2 _ _ => hK v' H' ?_ h2
  · have := Nat.mul_le_mul hl hb.2; rw [Nat.zero_add]; omega
  · rw [hy] at h1; simpa using h1
theorem cv1_int (k : IntKind) (n : Int) : cv1 (.int k n) = .int k n := rfl
theorem cv1_bool (b : Bool) : cv1 (.bool b) = .bool b := rfl
theorem cv1_str (b : ByteArray) : cv1 (.string b) = .str b := rfl
theorem cv1_nil : cv1 (.slice none 0 0) = .nil := rfl
theorem cv1_nilp : cv1 (.pointer none) = .nilp := rfl
theorem cv1_nilf : cv1 .nilFunc = .nilf := rfl
attribute [go_sem] cv1_int cv1_bool cv1_str cv1_nil cv1_nilp cv1_nilf
mutual
theorem ren_clo (g : Nat → Option Nat) : ∀ v : V, clo v = true → ren g v = v
  | .any, _ => rfl
  | .int _ _, _ => rfl
  | .bool _, _ => rfl
  | .str _, _ => rfl
  | .nil, _ => rfl
  | .sl n cs, h => by simp only [ren, renL_clo g cs h]
  | .ref _ _ _, h => by cases h
  | .agg cs, h => by simp only [ren, renL_clo g cs h]
  | .tup vs, h => by simp only [ren, renL_clo g vs h]
  | .ptr _ _, h => by cases h
  | .nilp, _ => rfl
  | .rp cs off, h => by simp only [ren, renL_clo g cs h]
  | .fn f xs ys, h => by
    simp only [clo, Bool.and_eq_true] at h
    simp only [ren, renL_clo g xs h.1, renL_clo g ys h.2]
  | .nilf, _ => rfl
theorem renL_clo (g : Nat → Option Nat) : ∀ l : List V, cloL l = true → renL g l = l
  | [], _ => rfl
  | v :: l, h => by
    simp only [cloL, Bool.and_eq_true] at h
    simp only [renL, ren_clo g v h.1, renL_clo g l h.2]
end
end Go.Bv
end

section
/-
  PART 23: iterators, their code by its place.
-/
set_option linter.unusedVariables false
set_option linter.unusedSimpArgs false
namespace Go.Bv
open Go.RowKit

theorem Gen.of4 {C : Ctx} (hm : C.P.follows .mixedOrders = true) {g : FuncId} {fn : Func} {c : Code} {lb : List V} {xs : List (List V)} {N : Nat} (hf : C.P.funcs[g]? = some fn) (hb : fn.body = some c) (hn : (fn.name == "runtime.NumGoroutine") = false) (hN : fn.ntmps = N) (hr : fn.results = #[]) (ha : lb.length + 1 ≤ N)
    (hx : ∀ as ∈ xs, cloL as = true) (h : ∀ G l J, (∀ c Q ts H, wpY C G l xs J c Q ts H → TY C G J c Q ts H) → TY C G J c (fun e _ H => (e = .normal ∨ e = .ret) ∧ (H.length = xs.length ∨ H.length = xs.length + 1)) (env N (argsl 0 (.fn (.yield l) [] [] :: lb))) []) : Gen C g lb xs := by
  subst hN
  refine ⟨⟨fn, hf, hn, by rw [hb]; rfl⟩, hx, fun G im F w lbv l J hl hv hB hJ hY hj => (callsIn_wide (n := 0)).1 ?_⟩
  refine callsIn_of_wp_marks hf hb trivial ?_
  have hI : InvY G J (.fn (.yield l) [] [] :: lb ++ List.replicate (fn.ntmps - (lb.length + 1)) .any) [] { tmps := (Value.func (.yield l) #[] #[] :: lbv).toArray ++ Array.replicate (fn.ntmps - (Value.func (.yield l) #[] #[] :: lbv).toArray.size) undef, defers := [] } w := by
    refine ⟨im, F, rfl, ⟨by simp [hl]; omega, fun i => ?_⟩, rfl, hB, hj⟩
    cases i with
    | zero =>
      have h0 : VR im (dk 0) w (.fn (.yield l) [] []) (.func (.yield l) #[] #[]) := VR.fn (.yield l) [] [] [] [] rfl (fun j => by simp only [nth]; exact .any _) rfl (fun j => by simp only [nth]; exact .any _)
      simpa [nth, Array.getD_eq_getD_getElem?, Array.getElem?_append] using h0
    | succ i =>
      rw [nth_append]
      split
      · rename_i hi
        have hi' : i < lb.length := by simpa using hi
        have := (hv i).ren (g := some) (im' := im) (pl' := dk 0) (fun r r' e => by simp [dk, NoPl]) (fun b hb => hb)
        rw [ren_some] at this
        simpa [nth, Array.getD_eq_getD_getElem?, Array.getElem?_append_left, hl ▸ hi', List.getD] using this
      · have : nth (List.replicate (fn.ntmps - (lb.length + 1)) V.any) (i + 1 - (V.fn (Fn.yield l) [] [] :: lb).length) = .any := by
          rw [nth_getD]; simp [List.getD, List.getElem?_replicate]; split <;> rfl
        rw [this]; exact .any _
  have hT := TY_env (argsl 0 (.fn (.yield l) [] [] :: lb)) (by simp; omega) (fun p hp => by
    obtain ⟨h1, h2, h3⟩ := argsl_mem _ 0 p hp
    rw [nth_append, if_pos (by omega)]
    exact h3) (h G l J (wpY_sound hm hx hJ hY)) _ _ hI
  refine wpIn_mono hT fun e a' w' hp => ?_
  have fin : ∀ ts' H', ((e = .normal ∨ e = .ret) ∧ (H'.length = xs.length ∨ H'.length = xs.length + 1)) → InvY G J ts' H' a' w' → LeavesInM Fence.wide 0 C.P fn a'.tmps (fun e W' => (∃ v, e = Ending.returned v) ∧ ∃ k F', (k = xs.length ∨ k = xs.length + 1) ∧ J k F' W') a'.defers .returning w' := by
    intro ts' H' k1 k2
    obtain ⟨im', F', e1, e2, e3, e4, e5⟩ := k2.h
    rw [e3]
    refine ⟨.tuple #[], ?_, ⟨_, rfl⟩, _, F', k1.2, e5⟩
    simp [results, hr, Sem.run_bind]
  cases e with
  | normal => obtain ⟨ts', H', k1, k2⟩ := hp; exact fin ts' H' k1 k2
  | ret => obtain ⟨ts', H', k1, k2⟩ := hp; exact fin ts' H' k1 k2
  | exit id => obtain ⟨ts', H', k1, k2⟩ := hp; rcases k1.1 with k | k <;> cases k
  | goto l => obtain ⟨ts', H', k1, k2⟩ := hp; rcases k1.1 with k | k <;> cases k
  | panic _ => exact hp.elim
  | outgrown => exact hp.elim
theorem TT_range {C : Ctx} {f : Operand} {ps : Array Tmp} {assign body : Tr} {Q : Exit → List V → Heap → Prop} {ts : List V} {H : Heap} {g : FuncId} {lb : List V} {xs : List (List V)} (hf : ev ts f = .fn (.func g) [] lb) (hlb : cloL lb = true) (hg : Gen C g lb xs) (hps : ∀ as ∈ xs, as.length = ps.size)
    (I : Nat → Heap → Prop) (h0 : I 0 H)
    (step : ∀ k as H, xs[k]? = some as → I k H → ∀ l, TT C (some l) assign (fun e ts1 H1 => e = .normal ∧ TT C (some l) body (rangeQ C Q ts (I (k + 1))) ts1 H1) (putl ts ps.toList as) H)
    (done : ∀ H, I xs.length H → Q .normal ts H) : TT C none (.f f ps assign body) Q ts H := fun c hc => by
  obtain ⟨x, y, rfl, hx, hy⟩ := absT_range hc
  exact T_range hf hlb hg hps I h0 (fun k as H h1 h2 l => (step k as H h1 h2 l x hx).mono fun e ts H h => ⟨h.1, h.2 y hy⟩) done
def yOK : Code → Bool
  | .region _ ops b => okYs ops && (!b || drawOK ops)
  | .seq a b => yOK a && yOK b
  | .cond _ a b => yOK a && yOK b
  | .block _ a => yOK a
  | .loop a => yOK a
  | _ => true
def TTY (C : Ctx) (G : Nat → Prop) (J : JT) (t : Tr) (Q : Exit → List V → Heap → Prop) (ts : List V) (H : Heap) : Prop := ∀ c, absT C c = t → yOK c = true → TY C G J c Q ts H
/-- What an iterator's code comes to. -/
def runY (C : Ctx) (G : Nat → Prop) (n : Nat) (xs : List (List V)) (J : JT) : Tr → (Exit → List V → Heap → Prop) → List V → Heap → Prop
  | .s, Q, ts, H => Q .normal ts H
  | .r, Q, ts, H => Q .ret ts H
  | .x id, Q, ts, H => Q (.exit id) ts H
  | .R l, Q, ts, H => runl C (cwY n xs) l (Q .normal) ts H
  | .D _ l, Q, ts, H => rund C (cwY n xs) H l (Q .normal) ts H
  | .q a b, Q, ts, H => runY C G n xs J a (seqQ (runY C G n xs J b Q) Q) ts H
  | .c o a b, Q, ts, H => condw (ev ts o) (runY C G n xs J a Q ts H) (runY C G n xs J b Q ts H)
  | .b id a, Q, ts, H => runY C G n xs J a (blockQ id Q) ts H
  | .l a, Q, ts, H => TTY C G J (.l a) Q ts H
  | _, _, _, _ => False
section
variable (C : Ctx) (G : Nat → Prop) (n : Nat) (xs : List (List V)) (J : JT) (Q : Exit → List V → Heap → Prop) (ts : List V) (H : Heap) (a b : Tr)
@[go_sem] theorem runY_s : runY C G n xs J .s Q ts H = Q .normal ts H := rfl
@[go_sem] theorem runY_r : runY C G n xs J .r Q ts H = Q .ret ts H := rfl
@[go_sem] theorem runY_x (id : Nat) : runY C G n xs J (.x id) Q ts H = Q (.exit id) ts H := rfl
@[go_sem] theorem runY_R (l : List O2) : runY C G n xs J (.R l) Q ts H = runl C (cwY n xs) l (Q .normal) ts H := rfl
@[go_sem] theorem runY_D (ok : Bool) (l : List O2) : runY C G n xs J (.D ok l) Q ts H = rund C (cwY n xs) H l (Q .normal) ts H := rfl
@[go_sem] theorem runY_q : runY C G n xs J (.q a b) Q ts H = runY C G n xs J a (seqQ (runY C G n xs J b Q) Q) ts H := rfl
@[go_sem] theorem runY_c (o : Operand) : runY C G n xs J (.c o a b) Q ts H = condw (ev ts o) (runY C G n xs J a Q ts H) (runY C G n xs J b Q ts H) := rfl
@[go_sem] theorem runY_b (id : Nat) : runY C G n xs J (.b id a) Q ts H = runY C G n xs J a (blockQ id Q) ts H := rfl
@[go_sem] theorem runY_l : runY C G n xs J (.l a) Q ts H = TTY C G J (.l a) Q ts H := rfl
end
@[go_sem] theorem cwY_yield {l : Nat} {xs : List (List V)} {H : Heap} (args : List V) (K : V → Heap → Prop) : cwY l xs (.fn (.yield l) [] []) args H K = (xs[H.length]? = some args ∧ K (.bool true) (H ++ [none]) ∧ K (.bool false) (H ++ List.replicate (xs.length + 1 - H.length) none)) := by simp [cwY]
@[congr] theorem runY_congr {C : Ctx} {G : Nat → Prop} {n : Nat} {xs : List (List V)} {J : JT} {Q : Exit → List V → Heap → Prop} {ts ts' : List V} {H H' : Heap} {uu : Prop} (h00 : (True ∧ True) = uu) (t : Tr) (h1 : ts = ts') (h2 : H = H') : runY C G n xs J t Q ts H = runY C G n xs J t Q ts' H' := by rw [h1, h2]
@[congr] theorem TTY_congr {C : Ctx} {G : Nat → Prop} {J : JT} {Q : Exit → List V → Heap → Prop} {ts ts' : List V} {H H' : Heap} {uu : Prop} (h00 : (True ∧ True) = uu) (t : Tr) (h1 : ts = ts') (h2 : H = H') : TTY C G J t Q ts H = TTY C G J t Q ts' H' := by rw [h1, h2]
theorem TTY_loop_inv {C : Ctx} {G : Nat → Prop} {J : JT} {a : Tr} {Q : Exit → List V → Heap → Prop} (I : Nat → List V → Heap → Prop) (step : ∀ n ts H, I n ts H → TTY C G J a (seqQ (fun ts' H' => ∃ m, m < n ∧ I m ts' H') Q) ts H) {n : Nat} {ts : List V} {H : Heap} (h : I n ts H) : TTY C G J (.l a) Q ts H := fun c hc hy => by
  obtain ⟨d, rfl, hd⟩ := absT_loop hc
  exact TY_loop_inv I (fun n ts H h => step n ts H h d hd hy) h
theorem TTY_env {C : Ctx} {G : Nat → Prop} {J : JT} {t : Tr} {Q : Exit → List V → Heap → Prop} {ts : List V} {H : Heap} {N : Nat} (m : List (Nat × V)) (hL : ts.length = N) (hl : ∀ p ∈ m, nth ts p.1 = p.2) (h : TTY C G J t Q (env N m) H) : TTY C G J t Q ts H := fun c hc hy => TY_env m hL hl (h c hc hy)
theorem runY_TY {C : Ctx} {G : Nat → Prop} {n : Nat} {xs : List (List V)} {J : JT} (hw : ∀ c Q ts H, wpY C G n xs J c Q ts H → TY C G J c Q ts H) : ∀ (c : Code) (Q : Exit → List V → Heap → Prop) (ts : List V) (H : Heap), yOK c = true → runY C G n xs J (absT C c) Q ts H → TY C G J c Q ts H := by
  intro c
  induction c with
  | skip => exact fun Q ts H hy h => hw _ _ _ _ h
  | ret => exact fun Q ts H hy h => hw _ _ _ _ h
  | exit id => exact fun Q ts H hy h => hw _ _ _ _ h
  | region id ops b =>
    intro Q ts H hy h
    simp only [yOK, Bool.and_eq_true] at hy
    simp only [absT, absR] at h
    cases hk : okO (absO ops.toList ops.toList) with
    | false => rw [hk] at h; cases b <;> exact h.elim
    | true =>
      have hb := okO_bad hk
      rw [hk] at h
      cases b with
      | false =>
        simp only [runY_R] at h
        rw [absO_bad C _ _ _ _ _ _ hb, Array.toArray_toList] at h
        exact hw _ _ _ _ ⟨hy.1, h⟩
      | true =>
        simp only [runY_D] at h
        rw [absD_bad C _ _ _ _ _ _ _ hb, Array.toArray_toList] at h
        simp only [Bool.not_true, Bool.false_or] at hy
        exact hw _ _ _ _ ⟨hy.1, hy.2, h⟩
  | seq x y ihx ihy =>
    intro Q ts H hy h
    simp only [yOK, Bool.and_eq_true] at hy
    exact TY_seq ((ihx _ _ _ hy.1 h).mono fun e ts H hq => by
      cases e with
      | normal => exact ihy _ _ _ hy.2 hq
      | _ => exact hq)
  | cond o x y ihx ihy =>
    intro Q ts H hy h
    simp only [yOK, Bool.and_eq_true] at hy
    simp only [absT, runY_c, condw] at h
    split at h
    · rename_i b hb
      exact TY_cond hb (fun e => ihx _ _ _ hy.1 (h.1 e)) (fun e => ihy _ _ _ hy.2 (h.2 e))
    · exact h.elim
  | block id c ih => exact fun Q ts H hy h => TY_block (ih _ _ _ hy h)
  | loop c _ => exact fun Q ts H hy h => h (.loop c) rfl hy
  | _ => exact fun Q ts H hy h => h.elim
theorem Gen.of3 {C : Ctx} (hm : C.P.follows .mixedOrders = true) {g : FuncId} {fn : Func} {t : Tr} {lb : List V} {xs : List (List V)} {N : Nat} (hf : C.P.funcs[g]? = some fn) (hb : fn.body.map (absT C) = some t) (hy : fn.body.all yOK = true) (hn : (fn.name == "runtime.NumGoroutine") = false) (hN : fn.ntmps = N) (hr : fn.results = #[]) (ha : lb.length + 1 ≤ N)
    (hx : ∀ as ∈ xs, cloL as = true) (h : ∀ G l J, (∀ t Q ts H, runY C G l xs J t Q ts H → TTY C G J t Q ts H) → runY C G l xs J t (fun e _ H => (e = .normal ∨ e = .ret) ∧ (H.length = xs.length ∨ H.length = xs.length + 1)) (env N (argsl 0 (.fn (.yield l) [] [] :: lb))) []) : Gen C g lb xs := by
  obtain ⟨c, hb, hc⟩ := Option.map_eq_some_iff.1 hb
  rw [hb] at hy
  have hy : yOK c = true := hy
  have key : ∀ G l J, (∀ c Q ts H, wpY C G l xs J c Q ts H → TY C G J c Q ts H) → TY C G J c (fun e _ H => (e = .normal ∨ e = .ret) ∧ (H.length = xs.length ∨ H.length = xs.length + 1)) (env N (argsl 0 (.fn (.yield l) [] [] :: lb))) [] := fun G l J hw => by
    subst hc
    exact runY_TY hw c _ _ _ hy (h G l J fun t Q ts H hr c hc hy => by subst hc; exact runY_TY hw c _ _ _ hy hr)
  exact Gen.of4 hm hf hb hn hN hr ha hx key
end Go.Bv
end

section
/-
  PART 24: a slice of one's own that is handed back beside a number; such calls, also in regions that draw.
-/
set_option linter.unusedVariables false
set_option linter.unusedSimpArgs false
namespace Go.Bv
open Go.RowKit

/-- A new slice and a number. -/
def RetO2 (e s : Nat) (H : Heap) (v : V) (n : Nat) (cs : List V) (u : V) : Prop := ∃ w, v = .tup [w, u] ∧ Ret e s H w n cs
theorem RetO2.ret2 {e s : Nat} {H : Heap} {v : V} {n : Nat} {cs : List V} {u : V} (h : RetO2 e s H v n cs u) : Ret2 e s H v n cs u := by
  obtain ⟨w, h1, h2⟩ := h
  exact ⟨w, h1, .inr h2⟩
theorem Own.two {e s : Nat} {H : Heap} {v : V} {n : Nat} {cs : List V} (h : Own e s H v n cs) (hc : ∀ g, renL g cs = cs) {u : V} (hu : ∀ g, ren g u = u) : ∃ sel, keepw sel (fun v H => RetO2 e s H v n cs u) (.tup [v, u]) H :=
  h.ret2 hc hu fun v H h => ⟨v, rfl, h⟩
theorem nil_two {e s : Nat} {H : Heap} {u : V} (hu : ∀ g, ren g u = u) : ∃ sel, keepw sel (fun v H => RetO2 e s H v 0 [] u) (.tup [.nil, u]) H :=
  (Own.nil e s H).two (fun g => rfl) hu
theorem Ret.some {e s n : Nat} {cs : List V} (h : cs.length = n * s) : ∃ v H, Ret e s H v n cs := ⟨_, _, .inr ⟨rfl, rfl, h⟩⟩
theorem RetO2.some {e s n : Nat} {cs : List V} (u : V) (h : cs.length = n * s) : ∃ v H, RetO2 e s H v n cs u := ⟨_, _, _, rfl, .inr ⟨rfl, rfl, h⟩⟩
theorem RetO2.plain {e s : Nat} {H : Heap} {v : V} {n : Nat} {cs : List V} {u : V} (h : RetO2 e s H v n cs u) (hp : plainL cs = true) (hu : Bv.plain u = true) : Bv.plain v = true ∧ plainH H := by
  obtain ⟨w, rfl, h⟩ := h
  obtain ⟨h1, h2⟩ := h.plain hp
  exact ⟨by simp [Bv.plain, plainL, h1, hu], h2⟩
theorem RetO2.own {e s : Nat} {H H' : Heap} {v : V} {n : Nat} {cs : List V} {u : V} (h : RetO2 e s H' v n cs u) (hc : ∀ g, renL g cs = cs) (hu : ∀ g, ren g u = u) : ∃ w, ren (shift H.length) v = .tup [w, u] ∧ Own e s (H ++ renH (shift H.length) H') w n cs := by
  obtain ⟨w, rfl, h⟩ := h
  exact ⟨_, by simp only [ren, renL, hu], h.own hc⟩
theorem Fc.own2 {C : Ctx} {f : FuncId} {args args' : List V} {H : Heap} {K : V → Heap → Prop} {e s n : Nat} {cs : List V} {u : V} (h : Fc C f args' [] fun v H => RetO2 e s H v n cs u) (hb : BorL H args args') (hc : ∀ g, renL g cs = cs) (hp : plainL cs = true) (hu : ∀ g, ren g u = u) (hpu : plain u = true)
    (hK : ∀ w X, Own e s (H ++ X) w n cs → K (.tup [w, u]) (H ++ X)) : Fc C f args H K :=
  h.borrow hb.all.1 hb.all.2 (fun v H' hv => hv.plain hp hpu) fun v H' hv => by
    obtain ⟨w, e1, h1⟩ := hv.own (H := H) hc hu
    rw [e1]; exact hK _ _ h1
theorem Pc.own2 {C : Ctx} {f : FuncId} {args args' : List V} {H : Heap} {K : V → Heap → Prop} {e s n : Nat} {cs : List V} {u : V} (h : Fc C f args' [] fun v H => RetO2 e s H v n cs u) (hb : BorL H args args') (hl : cs.length = n * s) (hc : ∀ g, renL g cs = cs) (hp : plainL cs = true) (hu : ∀ g, ren g u = u) (hpu : plain u = true)
    (hK : ∀ w X, Own e s (H ++ X) w n cs → K (.tup [w, u]) (H ++ X)) : Pc C f args H K :=
  Pc.borrow h (RetO2.some u hl) hb.all.1 hb.all.2 (fun v H' hv => hv.plain hp hpu) fun v H' hv => by
    obtain ⟨w, e1, h1⟩ := hv.own (H := H) hc hu
    rw [e1]; exact hK _ _ h1
theorem Pc.ownL {C : Ctx} {f : FuncId} {args args' : List V} {H : Heap} {K : V → Heap → Prop} {e s n : Nat} {cs : List V} (h : Fc C f args' [] fun v H => Ret e s H v n cs) (hb : BorL H args args') (hl : cs.length = n * s) (hc : ∀ g, renL g cs = cs) (hp : plainL cs = true) (hK : ∀ v X, Own e s (H ++ X) v n cs → K v (H ++ X)) : Pc C f args H K :=
  Pc.borrow h (Ret.some hl) hb.all.1 hb.all.2 (fun v H' hv => hv.plain hp) fun v H' hv => hK _ _ (hv.own hc)
theorem Fc.val2O {C : Ctx} {f : FuncId} {args : List V} {e s n : Nat} {cs : List V} {u : V} (h : Fc C f args [] fun v H => RetO2 e s H v n cs u) (hc : cloL cs = true) (hu : clo u = true) : Pu C f args (.tup [.sl n cs, u]) :=
  Fc.val2 (h.mono fun v H hv => hv.ret2) hc hu
/-- A slice of one's own is read by value from here on. -/
theorem BorL.one {H : Heap} {a b : V} (h : Bor H a b) : BorL H [a] [b] := ⟨h, trivial⟩
end Go.Bv
end

section
/-
  PART 25: calls that are handed rows of the caller's and answer by value; the by-value form of a value, computed.
-/
set_option linter.unusedVariables false
set_option linter.unusedSimpArgs false
namespace Go.Bv
open Go.RowKit

/-- **A call that is handed rows of the caller's by value, and whose answer is read by value from then on**: the caller's rows are as they were. -/
theorem Fc.byVal {C : Ctx} {f : FuncId} {args args' : List V} {H : Heap} {Q K : V → Heap → Prop} {u : V} (h : Fc C f args' [] Q) (hl : args.length = args'.length) (hb : ∀ j, Bor H (nth args j) (nth args' j)) (hp : ∀ v H', Q v H' → plain v = true ∧ plainH H')
    (hv : ∀ im pl w v H c, Q v H → VR im pl w v c → HR im pl w H → ∃ im1 pl1 H1, HR im1 pl1 w H1 ∧ Ext im pl w im1 pl1 w ∧ VR im1 pl1 w u c) (hu : clo u = true) (hK : K u H) : Fc C f args H K := by
  refine ⟨h.1, fun im pl w vs hvl hvs hH => ?_⟩
  have hcall := h.2 (Live im pl) NoPl w vs (by omega) (fun j => (hb j).VR hH (hvs j)) (HR.none fun b hb => by
    rcases hb with hb | ⟨r, cap, hb⟩
    · exact hH.imb b hb
    · exact hH.bound r b cap hb)
  refine (callsIn_wide (n := 0)).1 ((callsIn_wide.2 hcall).mono fun e w' hq => ?_)
  cases e with
  | panicked _ => exact hq
  | outgrown => exact hq
  | returned vc =>
    obtain ⟨v, H', im', pl', k1, k2, k3, k4⟩ := hq
    obtain ⟨p1, p2⟩ := hp v H' k1
    have hS : HR (fun b => im b ∨ (w.heap.size ≤ b ∧ im' b)) pl' w' H' := by
      have hsub : ∀ b, (im b ∨ (w.heap.size ≤ b ∧ im' b)) → im' b := fun b hb => by
        rcases hb with hb | hb
        · exact k4.imm b (.inl hb)
        · exact hb.2
      refine ⟨k3.len, fun b hb => k3.apart b (hsub b hb), k3.bound, fun b hb => k3.imb b (hsub b hb), k3.inj, k3.dead, k3.virt, fun r b cap hr => ?_⟩
      obtain ⟨e, s, cs, cur, q1, q2, q3, q4, q5, q6⟩ := k3.row r b cap hr
      exact ⟨e, s, cs, cur, q1, q2, q3, q4, q5, fun j => (q6 j).plain (plain_nth (p2 r _ q1) j)⟩
    have hES : Ext im NoPl w (fun b => im b ∨ (w.heap.size ≤ b ∧ im' b)) pl' w' :=
      ⟨k4.os, k4.tape, k4.output, k4.size, fun b hb => .inl hb, fun b hb => hb.elim .inl fun h => .inr (.inl h.1), fun r hr => (hr rfl).elim, fun r b cap hr => k4.pln r b cap hr, fun b hb hn => k4.frame b hb hn⟩
    obtain ⟨im1, pl1, H1, q1, q2, q3⟩ := hv _ _ _ _ _ _ k1 (k2.plain p1) hS
    have hs := q1.sel (hES.trans q2) [] (by simp) (by simp)
    have hE1 : Ext im NoPl w im1 (plS [] pl1) w' := hs.2
    have hnew : ∀ r b cap, plS [] pl1 r = .at b cap → w.heap.size ≤ b := fun r b cap hr => by
      rcases hE1.pln r b cap hr with ⟨r', cap', h1⟩ | h1
      · cases h1
      · exact h1
    have hg := hH.glue hs.1 hE1.imm (fun b hb => by
      rcases hE1.imn b hb with h1 | h1 | ⟨r, cap, h1⟩
      · exact .inl h1
      · exact .inr h1
      · cases h1) hE1.os hE1.tape hE1.output hE1.size hnew (fun b hb => hE1.frame b hb (fun r cap e => by cases e))
    refine ⟨u, H ++ renH (shift H.length) (selH [] H1), im1, _, ?_, q3.clo hu, hg.1, hg.2⟩
    simpa [selH, renH] using hK
theorem Pc.byVal {C : Ctx} {f : FuncId} {args : List V} {H : Heap} {K : V → Heap → Prop} {u : V} (h : Fc C f args H fun v H' => v = u ∧ H' = H) (hK : K u H) : Pc C f args H K :=
  Pc.gen h ⟨u, H, rfl, rfl⟩ (by rintro v H' ⟨rfl, rfl⟩; exact ⟨.refl _, hK⟩)
theorem Fc.byOwn {C : Ctx} {f : FuncId} {args args' : List V} {H : Heap} {K : V → Heap → Prop} {e s n : Nat} {cs : List V} (h : Fc C f args' [] fun v H => Ret e s H v n cs) (hb : BorL H args args') (hc : cloL cs = true) (hp : plainL cs = true) (hK : K (.sl n cs) H) : Fc C f args H K :=
  h.byVal (u := .sl n cs) hb.all.1 hb.all.2 (fun v H' hv => hv.plain hp) (fun im pl w v H c hq hv hH => by
    obtain ⟨im1, pl1, H1, q1, q2, q3, _⟩ := RetL.val (.inr hq) hc hH
    exact ⟨im1, pl1, H1, q1, q2, q3 c hv⟩) (by simpa [clo] using hc) hK
theorem Fc.byOwn2 {C : Ctx} {f : FuncId} {args args' : List V} {H : Heap} {K : V → Heap → Prop} {e s n : Nat} {cs : List V} {u : V} (h : Fc C f args' [] fun v H => RetO2 e s H v n cs u) (hb : BorL H args args') (hc : cloL cs = true) (hp : plainL cs = true) (hu : clo u = true) (hpu : plain u = true) (hK : K (.tup [.sl n cs, u]) H) : Fc C f args H K :=
  h.byVal (u := .tup [.sl n cs, u]) hb.all.1 hb.all.2 (fun v H' hv => hv.plain hp hpu) (fun im pl w v H c hq hv hH => by
    obtain ⟨v', rfl, hq⟩ := hq
    obtain ⟨im1, pl1, H1, q1, q2, q3, q4⟩ := RetL.val (.inr hq) hc hH
    refine ⟨im1, pl1, H1, q1, q2, ?_⟩
    cases hv with
    | tup _ vs hl hr =>
      refine .tup _ vs hl fun j => ?_
      match j with
      | 0 => exact q3 _ (hr 0)
      | 1 => exact q4 _ _ hu (hr 1)
      | j + 2 => simpa [nth] using VR.any _) (by simp [clo, cloL, hc, hu]) hK

/-- The by-value form of a value. -/
def borV (H : Heap) : Nat → V → Option V
  | 0, _ => none
  | k + 1, v => match v with
    | .ref r off n => (rowOf H r).bind fun row => if off ≤ row.cs.length then ((row.cs.drop off).mapM (borV H k)).map fun cs => .sl n cs else none
    | .nil => some (.sl 0 [])
    | .ptr r off => (rowOf H r).bind fun row => (row.cs.mapM (borV H k)).map fun cs => .rp cs off
    | .agg cs => (cs.mapM (borV H k)).map .agg
    | .fn f xs ys => (xs.mapM (borV H k)).bind fun xs' => (ys.mapM (borV H k)).map fun ys' => .fn f xs' ys'
    | v => if clo v then some v else none
theorem mapM_nth {f : V → Option V} : ∀ {l m : List V}, l.mapM f = some m → l.length = m.length ∧ ∀ j, j < l.length → f (nth l j) = some (nth m j)
  | [], m, h => by simp at h; subst h; exact ⟨rfl, fun j hj => by simp at hj⟩
  | a :: l, m, h => by
    rw [List.mapM_cons] at h
    cases ha : f a with
    | none => rw [ha] at h; simp at h
    | some b =>
      cases hl : l.mapM f with
      | none => rw [ha, hl] at h; simp at h
      | some m' =>
        rw [ha, hl] at h
        simp at h; subst h
        obtain ⟨h1, h2⟩ := mapM_nth hl
        refine ⟨by simp [h1], fun j hj => ?_⟩
        cases j with
        | zero => exact ha
        | succ j => exact h2 j (by simpa using hj)
theorem Bor.any {H : Heap} : Bor H .any .any := .clo _ rfl
theorem borV_sound {H : Heap} : ∀ (k : Nat) {v u : V}, borV H k v = some u → Bor H v u
  | 0, v, u, h => by simp [borV] at h
  | k + 1, v, u, h => by
    have all : ∀ {l m : List V}, l.mapM (borV H k) = some m → l.length = m.length ∧ ∀ j, Bor H (nth l j) (nth m j) := fun {l m} hm => by
      obtain ⟨h1, h2⟩ := mapM_nth hm
      refine ⟨h1, fun j => ?_⟩
      by_cases hj : j < l.length
      · exact borV_sound k (h2 j hj)
      · rw [nth_ge l j (by omega), nth_ge m j (by omega)]; exact .any
    have leaf : ∀ {v u : V}, (if clo v then some v else none) = some u → Bor H v u := fun {v u} h => by
      split at h
      · injection h with h; subst h; exact .clo _ (by assumption)
      · cases h
    cases v with
    | ref r off n =>
      simp only [borV, Option.bind_eq_some_iff] at h
      obtain ⟨row, hr, h⟩ := h
      split at h
      · rename_i ho
        simp only [Option.map_eq_some_iff] at h
        obtain ⟨cs, hcs, rfl⟩ := h
        obtain ⟨h1, h2⟩ := all hcs
        exact .ref r off n row cs hr (by simp at h1; omega) fun j hj => by have := h2 j; rwa [nth_drop] at this
      · cases h
    | nil => simp only [borV] at h; injection h with h; subst h; exact .nil _
    | ptr r off =>
      simp only [borV, Option.bind_eq_some_iff, Option.map_eq_some_iff] at h
      obtain ⟨row, hr, cs, hcs, rfl⟩ := h
      obtain ⟨h1, h2⟩ := all hcs
      exact .ptr r off row cs hr (by omega) fun j hj => h2 j
    | agg cs =>
      simp only [borV, Option.map_eq_some_iff] at h
      obtain ⟨cs', hcs, rfl⟩ := h
      exact .agg _ _ (all hcs).1 (all hcs).2
    | fn f xs ys =>
      simp only [borV, Option.bind_eq_some_iff, Option.map_eq_some_iff] at h
      obtain ⟨xs', h1, ys', h2, rfl⟩ := h
      exact .fn f _ _ _ _ (all h1).1 (all h1).2 (all h2).1 (all h2).2
    | any => exact leaf h
    | int _ _ => exact leaf h
    | bool _ => exact leaf h
    | str _ => exact leaf h
    | sl _ _ => exact leaf h
    | tup _ => exact leaf h
    | nilp => exact leaf h
    | rp _ _ => exact leaf h
    | nilf => exact leaf h
theorem borL_of {H : Heap} (k : Nat) : ∀ {args args' : List V}, args.mapM (borV H k) = some args' → BorL H args args'
  | [], m, h => by simp at h; subst h; trivial
  | a :: l, m, h => by
    rw [List.mapM_cons] at h
    cases ha : borV H k a with
    | none => rw [ha] at h; simp at h
    | some b =>
      cases hl : l.mapM (borV H k) with
      | none => rw [ha, hl] at h; simp at h
      | some m' =>
        rw [ha, hl] at h
        simp at h; subst h
        exact ⟨borV_sound k ha, borL_of k hl⟩
end Go.Bv
end

section
/-
  PART 26: what is read of arguments, by value; from a function's contract to the given statement.
-/
set_option linter.unusedVariables false
set_option linter.unusedSimpArgs false
namespace Go.Bv
open Go.RowKit Go.Deep

/-- Cells, by value. -/
def CR (w : World) (vs : List V) (cs : List Value) : Prop := vs.length = cs.length ∧ ∀ j, VR (fun b => b < w.heap.size) NoPl w (nth vs j) (cs.getD j undef)
theorem CR.nil (w : World) : CR w [] [] := ⟨rfl, fun j => .any _⟩
theorem CR.one {w : World} {v : V} {c : Value} (h : VR (fun b => b < w.heap.size) NoPl w v c) : CR w [v] [c] := ⟨rfl, fun j => by
  cases j with
  | zero => exact h
  | succ j => exact .any _⟩
theorem CR.append {w : World} {a b : List V} {c d : List Value} (h : CR w a c) (k : CR w b d) : CR w (a ++ b) (c ++ d) := by
  refine ⟨by simp [h.1, k.1], fun j => ?_⟩
  rw [nth_append]
  by_cases hj : j < a.length
  · rw [if_pos hj]
    have := h.2 j
    rw [h.1] at hj
    simpa [List.getD, List.getElem?_append_left hj] using this
  · rw [if_neg hj]
    have := k.2 (j - a.length)
    rw [h.1] at hj this ⊢
    simpa [List.getD, List.getElem?_append_right (show c.length ≤ j by omega)] using this
/-- What is read of a type's cells. -/
structure Reads (P : Program) (t : TypeId) (Q : List V → Prop) : Prop where
  get : ∀ {H : Type} {enc : TypeId × Value → H} {w : World} {fuel : Nat} {cs : List Value} {x : DataW H × List MemPlace},
  DataW.trod enc P w 0 (fun _ => true) true fuel t cs = some x → (∀ n ∈ x.1.weights P t, n ≤ reachBytes) → ∃ vs, Q vs ∧ CR w vs cs
theorem Reads.mono {P : Program} {t : TypeId} {Q Q' : List V → Prop} (h : Reads P t Q) (hq : ∀ vs, Q vs → Q' vs) : Reads P t Q' := ⟨fun ht hw => by
  obtain ⟨vs, h1, h2⟩ := h.get ht hw
  exact ⟨vs, hq _ h1, h2⟩⟩
theorem Reads.int {P : Program} {t : TypeId} {k : IntKind} (hu : P.underlying t = some (.int k)) : Reads P t fun vs => ∃ n, vs = [.int k n] ∧ (Lit.int k n).wf = true := ⟨fun ht _ => by
  obtain ⟨n, rfl, _, h⟩ := DataW.trod_int hu ht
  exact ⟨_, ⟨n, rfl, h⟩, .one (.int k n)⟩⟩
theorem Reads.bool {P : Program} {t : TypeId} (hu : P.underlying t = some .bool) : Reads P t fun vs => ∃ b, vs = [.bool b] := ⟨fun ht _ => by
  obtain ⟨b, rfl, _⟩ := DataW.trod_bool hu ht
  exact ⟨_, ⟨b, rfl⟩, .one (.bool b)⟩⟩
theorem Reads.string {P : Program} {t : TypeId} (hu : P.underlying t = some .string) : Reads P t fun vs => ∃ s : ByteArray, vs = [.str s] ∧ s.size ≤ reachBytes := ⟨fun ht hw => by
  obtain ⟨s, rfl, rfl, h⟩ := DataW.trod_string hu ht
  refine ⟨_, ⟨s, rfl, ?_⟩, .one (.str s)⟩
  exact hw _ (by simp [DataW.weights])⟩
theorem Reads.slice {P : Program} {t e : TypeId} {s b : Nat} {Q : List V → Prop} (hu : P.underlying t = some (.slice e)) (hs : P.cellsOf e = s) (h0 : 0 < s) (hb : P.bytesOf e = b) (he : Reads P e Q) :
    Reads P t fun vs => ∃ l : List (List V), (∀ x ∈ l, Q x) ∧ l.length * b ≤ reachBytes ∧ vs = [.sl l.length l.flatten] := ⟨fun {H enc w fuel cs x} ht hw => by
  rcases open_slice hu ht with ⟨rfl, rfl⟩ | ⟨a, len, cap, m, n, D, Pl, rfl, _, hlc, hcm, hm, rfl, hx⟩
  · exact ⟨_, ⟨[], by simp, by simp, rfl⟩, .one (.sl0 _ _ _)⟩
  · simp only [if_true] at hm
    subst hm
    have hwt : (len + (m - len)) * b ≤ reachBytes := hw _ (by simp only [DataW.weights, hu]; rw [hb]; simp)
    have hel : ∀ i, i < m → ∀ n ∈ (D i).weights P e, n ≤ reachBytes := fun i hi n hn => by
      refine hw n ?_
      simp only [DataW.weights, hu, List.mem_cons, List.mem_append]
      have gen : ∀ (l : List Nat) (f : Nat → Nat), (∃ j ∈ l, f j = i) → n ∈ DataW.weightsAll P e (l.map fun j => D (f j)) := by
        intro l f
        induction l with
        | nil => rintro ⟨j, hj, _⟩; simp at hj
        | cons a l ih =>
          rintro ⟨j, hj, hf⟩
          simp only [List.map_cons, DataW.weightsAll, List.mem_append]
          rcases List.mem_cons.1 hj with rfl | hj
          · left; rw [hf]; exact hn
          · right; exact ih ⟨j, hj, hf⟩
      by_cases hil : i < len
      · right; left; exact gen _ id ⟨i, by simpa using hil, rfl⟩
      · right; right; exact gen _ (len + ·) ⟨i - len, by simp; omega, by show len + (i - len) = i; omega⟩
    rw [hs] at hx
    have key : ∀ k, k ≤ len → ∃ l : List (List V), l.length = k ∧ (∀ x ∈ l, Q x) ∧ l.flatten.length = k * s ∧ ∀ j, j < k * s → ∃ v, w.cell? (a.add j) = some v ∧ VR (fun b => b < w.heap.size) NoPl w (nth l.flatten j) v := by
      intro k
      induction k with
      | zero => intro _; exact ⟨[], rfl, by simp, by simp, fun j hj => by omega⟩
      | succ k ih =>
        intro hk
        obtain ⟨l, l1, l2, l3, l4⟩ := ih (by omega)
        obtain ⟨cs', hc, ht'⟩ := hx k (by omega)
        obtain ⟨vs, hq, hcr⟩ := he.get ht' (hel k (by omega))
        obtain ⟨_, c1, c2⟩ := World.cells?_some hc
        refine ⟨l ++ [vs], by simp [l1], fun x hx => ?_, ?_, fun j hj => ?_⟩
        · rcases List.mem_append.1 hx with h | h
          · exact l2 x h
          · simp only [List.mem_cons, List.not_mem_nil, or_false] at h; subst h; exact hq
        · rw [List.flatten_append, List.length_append, l3]
          simp only [List.flatten_cons, List.flatten_nil, List.append_nil, hcr.1, c1]
          rw [Nat.succ_mul]
        · rw [List.flatten_append, nth_append, l3]
          simp only [List.flatten_cons, List.flatten_nil, List.append_nil]
          by_cases hlt : j < k * s
          · rw [if_pos hlt]; exact l4 j hlt
          · rw [if_neg hlt]
            rw [Nat.succ_mul] at hj
            have h1 := c2 (j - k * s) (by omega)
            rw [Bv.add_add, show k * s + (j - k * s) = j by omega] at h1
            rw [h1]
            have h2 : j - k * s < cs'.length := by omega
            refine ⟨cs'[j - k * s], by simp [h2], ?_⟩
            have := hcr.2 (j - k * s)
            simpa [List.getD, h2] using this
    obtain ⟨l, l1, l2, l3, l4⟩ := key len (Nat.le_refl _)
    refine ⟨_, ⟨l, l2, ?_, rfl⟩, .one ?_⟩
    · rw [l1]; exact Nat.le_trans (Nat.mul_le_mul_right _ (by omega)) hwt
    · rw [l1]
      by_cases hz : len = 0
      · subst hz; exact .sl0 _ _ _
      · have hlen : 0 < len * s := Nat.mul_pos (by omega) h0
        obtain ⟨v0, hv0, _⟩ := l4 0 hlen
        have hblk : a.block < w.heap.size := by have := World.block_lt_of_cell? w _ hv0; rwa [add_block] at this
        refine .sl len _ a m (fun j => (w.cell? (a.add j)).getD undef) hlc hblk (fun j hj => ?_) (fun j => ?_)
        · rw [l3] at hj
          obtain ⟨v, hv, _⟩ := l4 j hj
          rw [hv]; rfl
        · by_cases hj : j < len * s
          · obtain ⟨v, hv, h2⟩ := l4 j hj
            rw [hv]; exact h2
          · rw [nth_ge _ _ (by omega)]; exact .any _⟩
theorem Reads.struct {P : Program} {t : TypeId} {fs : Array Field} {Qs : Nat → List V → Prop} (hl : laidOutB P = true) (ht : t < P.types.size) (hu : P.underlying t = some (.struct fs)) (hf : ∀ i f, fs[i]? = some f → Reads P f.type (Qs i)) :
    Reads P t fun vs => ∃ l : List (List V), l.length = fs.size ∧ (∀ i, i < fs.size → Qs i (l.getD i [])) ∧ vs = l.flatten := ⟨fun {H enc w fuel cs x} h hw => by
  obtain ⟨xs, n, rfl, rfl, hc, hx, hi⟩ := DataW.trod_struct hu h
  obtain ⟨_, hsum, hoff⟩ := kid_struct hl ht hu
  have key : ∀ k, k ≤ fs.size → ∃ l : List (List V), l.length = k ∧ (∀ i, i < k → Qs i (l.getD i [])) ∧ CR w l.flatten (cs.take (((fs.toList.take k).map fun f => P.cellsOf f.type).sum)) := by
    intro k
    induction k with
    | zero => intro _; exact ⟨[], rfl, fun i hi => by omega, by simpa using CR.nil w⟩
    | succ k ih =>
      intro hk
      obtain ⟨l, l1, l2, l3⟩ := ih (by omega)
      have hfk : fs[k]? = some fs[k] := by simp [hk]
      have hfk' : fs.toList[k]? = some fs[k] := by simp [hk]
      have h1 := hi k _ hfk
      have hxk : xs[k]? = some xs[k] := List.getElem?_eq_getElem (by omega)
      rw [hxk] at h1
      obtain ⟨vs, q1, q2⟩ := (hf k _ hfk).get h1 (fun n hn => hw n (by
        simp only [DataW.weights, hu]
        exact DataW.weights_mem_each (j := k) (by rw [List.getElem?_map, hfk']; rfl) (by rw [List.getElem?_map, hxk]; rfl) n hn))
      rw [hoff k _ hfk'] at q2
      refine ⟨l ++ [vs], by simp [l1], fun i hi => ?_, ?_⟩
      · by_cases hik : i < k
        · have := l2 i hik
          simpa [List.getD, List.getElem?_append_left (show i < l.length by omega)] using this
        · obtain rfl : i = k := by omega
          simpa [List.getD, ← l1] using q1
      · have e1 : ((fs.toList.take (k + 1)).map fun f => P.cellsOf f.type).sum = ((fs.toList.take k).map fun f => P.cellsOf f.type).sum + P.cellsOf fs[k].type := by
          rw [List.take_add_one, hfk']; simp
        rw [e1, List.take_add, List.flatten_append]
        simpa using l3.append q2
  obtain ⟨l, l1, l2, l3⟩ := key fs.size (Nat.le_refl _)
  refine ⟨_, ⟨l, l1, l2, rfl⟩, ?_⟩
  rw [List.take_of_length_le (show fs.toList.length ≤ fs.size by simp), ← hsum, ← hc, List.take_of_length_le (Nat.le_refl _)] at l3
  exact l3⟩
/-- Rows of one cell each. -/
theorem ones_of {α : Type} {g : α → V} {R : α → Prop} : ∀ {l : List (List V)}, (∀ x ∈ l, ∃ a, x = [g a] ∧ R a) → ∃ xs : List α, xs.length = l.length ∧ l.flatten = xs.map g ∧ ∀ a ∈ xs, R a
  | [], _ => ⟨[], rfl, rfl, by simp⟩
  | x :: l, h => by
    obtain ⟨a, rfl, ha⟩ := h x (by simp)
    obtain ⟨xs, h1, h2, h3⟩ := ones_of (l := l) fun y hy => h y (by simp [hy])
    exact ⟨a :: xs, by simp [h1], by simp [h2], fun b hb => by
      rcases List.mem_cons.1 hb with rfl | hb
      · exact ha
      · exact h3 b hb⟩
theorem Reads.slice1 {α : Type} {P : Program} {t e : TypeId} {b : Nat} {g : α → V} {R : α → Prop} (hu : P.underlying t = some (.slice e)) (hs : P.cellsOf e = 1) (hb : P.bytesOf e = b) (he : Reads P e fun vs => ∃ a, vs = [g a] ∧ R a) :
    Reads P t fun vs => ∃ xs : List α, vs = [.sl xs.length (xs.map g)] ∧ xs.length * b ≤ reachBytes ∧ ∀ a ∈ xs, R a :=
  Reads.mono (Reads.slice hu hs (by omega) hb he) fun vs ⟨l, h1, h2, h3⟩ => by
    obtain ⟨xs, q1, q2, q3⟩ := ones_of h1
    exact ⟨xs, by rw [h3, q1, q2], by rw [q1]; exact h2, q3⟩
theorem Reads.ints {P : Program} {t e : TypeId} (hu : P.underlying t = some (.slice e)) (hi : P.underlying e = some (.int .i64)) (hs : P.cellsOf e = 1) (hb : P.bytesOf e = 8) :
    Reads P t fun vs => ∃ xs : List Int, vs = [.sl xs.length (Bv.ints xs)] ∧ xs.length ≤ 17592186044416 :=
  Reads.mono (Reads.slice1 (g := fun n => .int .i64 n) hu hs hb (Reads.int hi)) fun vs ⟨xs, h1, h2, _⟩ => ⟨xs, h1, by unfold reachBytes at h2; omega⟩
/-- What is read of an argument. -/
structure ArgV (P : Program) (t : TypeId) (Q : V → Prop) : Prop where
  get : ∀ {H : Type} {enc : TypeId × Value → H} {w : World} {base : Nat} {v : Value} {d : DataW H} {p : List MemPlace},
  Value.okWide P w .any base t v → DataW.Trod enc P w 0 (fun _ => true) true t v d p → (∀ n ∈ d.weights P t, n ≤ reachBytes) → ∃ u, Q u ∧ VR (fun b => b < w.heap.size) NoPl w u v
theorem ArgV.mono {P : Program} {t : TypeId} {Q Q' : V → Prop} (h : ArgV P t Q) (hq : ∀ u, Q u → Q' u) : ArgV P t Q' := ⟨fun h1 h2 h3 => by
  obtain ⟨u, k1, k2⟩ := h.get h1 h2 h3
  exact ⟨u, hq _ k1, k2⟩⟩
theorem ArgV.one {P : Program} {t : TypeId} {Q : List V → Prop} (h : Reads P t Q) (ho : (match P.underlying t with | some (.int _) | some .bool | some .string | some (.slice _) => true | _ => false) = true) : ArgV P t fun u => Q [u] := ⟨fun {H enc w base v d p} h1 ⟨fuel, h2⟩ h3 => by
  obtain ⟨vs, q1, q2⟩ := h.get h2 h3
  have hv : v.cells.toList = [v] := by
    revert ho
    split
    · rename_i k hu; intro _; obtain ⟨n, rfl⟩ := WideShapes.okWide_int hu h1; rfl
    · rename_i hu; intro _; obtain ⟨b, rfl⟩ := WideShapes.okWide_bool hu h1; rfl
    · rename_i hu; intro _; obtain ⟨s, rfl⟩ := WideShapes.okWide_string hu h1; rfl
    · rename_i e hu; intro _; obtain ⟨a, len, cap, rfl⟩ := WideShapes.okWide_slice hu h1; rfl
    · intro h; cases h
  rw [hv] at q2
  match vs, q2.1 with
  | [u], _ => exact ⟨u, q1, by have := q2.2 0; simpa [nth, List.getD] using this⟩⟩
theorem ArgV.struct {P : Program} {t : TypeId} {Q : List V → Prop} {fs : Array Field} (h : Reads P t Q) (hu : P.underlying t = some (.struct fs)) : ArgV P t fun u => ∃ vs, u = .agg vs ∧ Q vs := ⟨fun {H enc w base v d p} h1 ⟨fuel, h2⟩ h3 => by
  obtain ⟨vs, q1, q2⟩ := h.get h2 h3
  obtain ⟨cs, rfl, _⟩ := WideShapes.okWide_struct hu h1
  have e : (Value.agg cs).cells.toList = cs.toList := rfl
  rw [e] at q2
  refine ⟨_, ⟨vs, rfl, q1⟩, ?_⟩
  have := VR.agg (im := fun b => b < w.heap.size) (pl := NoPl) (w := w) vs cs.toList q2.1 q2.2
  simpa using this⟩
structure ArgsV (P : Program) (ts : List TypeId) (R : List V → Prop) : Prop where
  get : ∀ {H : Type} {enc : TypeId × Value → H} {w : World} {base : Nat} {vs : List Value} {ds : List (DataW H)} {p : List MemPlace},
  (∀ (j : Nat) t v, ts[j]? = some t → vs[j]? = some v → Value.okWide P w .any base t v) → DataW.TrodAll enc P w 0 (fun _ => true) true ts vs ds p → (∀ n ∈ DataW.weightsEach P ts ds, n ≤ reachBytes) → ∃ us, R us ∧ CR w us vs
theorem ArgsV.nil {P : Program} : ArgsV P [] fun us => us = [] := ⟨fun {H enc w base vs ds p} h1 h2 h3 => by
  cases vs with
  | nil => exact ⟨[], rfl, .nil _⟩
  | cons v vs => cases ds <;> simp [DataW.TrodAll] at h2⟩
theorem ArgsV.cons {P : Program} {t : TypeId} {ts : List TypeId} {Q : V → Prop} {R : List V → Prop} (h : ArgV P t Q) (hr : ArgsV P ts R) : ArgsV P (t :: ts) fun us => ∃ u us', us = u :: us' ∧ Q u ∧ R us' := ⟨fun {H enc w base vs ds p} h1 h2 h3 => by
  obtain ⟨v, vs1, d, ds1, a, b, rfl, rfl, rfl, k1, k2⟩ := ChangeShapes.trodAll_cons h2
  obtain ⟨u, q1, q2⟩ := h.get (h1 0 t v rfl rfl) k1 (fun n hn => h3 n (by simp only [DataW.weightsEach, List.mem_append]; exact .inl hn))
  obtain ⟨us, q3, q4⟩ := hr.get (fun j t' v' hj hv => h1 (j + 1) t' v' hj hv) k2 (fun n hn => h3 n (by simp only [DataW.weightsEach, List.mem_append]; exact .inr hn))
  exact ⟨u :: us, ⟨u, us, rfl, q1, q3⟩, (CR.one q2).append q4⟩⟩
theorem ArgsV.mono {P : Program} {ts : List TypeId} {R R' : List V → Prop} (h : ArgsV P ts R) (hq : ∀ us, R us → R' us) : ArgsV P ts R' := ⟨fun h1 h2 h3 => by
  obtain ⟨u, k1, k2⟩ := h.get h1 h2 h3
  exact ⟨u, hq _ k1, k2⟩⟩
theorem TrodAll_stays {H : Type} {enc : TypeId × Value → H} {P : Program} {base : Nat} (hl : laidOutB P = true) {W W' : World} {sp' : Nat → Bool} : ∀ {ts : List TypeId} {vs : List Value} {ds : List (DataW H)} {ps : List MemPlace}, (∀ t ∈ ts, P.readableRec t = true ∧ t < P.types.size) →
    DataW.TrodAll enc P W base (fun _ => true) true ts vs ds ps → (∀ p ∈ ps, W.sameAt W' p) → (∀ p ∈ ps, sp' p.block = true) → DataW.TrodAll enc P W' base sp' true ts vs ds ps
  | [], _, _, _, _, h, _, _ => by
    obtain ⟨rfl, rfl, rfl⟩ := ChangeShapes.trodAll_nil h
    exact rfl
  | t :: ts, _, _, _, ht, h, h1, h2 => by
    obtain ⟨v, vs1, d, ds1, a, b, rfl, rfl, rfl, k1, k2⟩ := ChangeShapes.trodAll_cons h
    exact ⟨a, b, WideElems.Trod_stays hl (ht t (by simp)).1 (ht t (by simp)).2 k1 (fun p hp => h1 p (by simp [hp])) (fun p hp => h2 p (by simp [hp])),
      TrodAll_stays hl (fun t' ht' => ht t' (by simp [ht'])) k2 (fun p hp => h1 p (by simp [hp])) (fun p hp => h2 p (by simp [hp])), rfl⟩
/-- 'post_of_same', where only the places that were read are asked. -/
theorem post_same {H : Type} {enc : TypeId × Value → H} {P : Program} {f : Func} {s : ChangeSpec} {apart fresh handsOn again : Bool} {W W' : World} {args : Array Value} {v : Value} {ds gs : List (DataW H)} {before pa pv : List MemPlace}
    (hW : DataW.Whole enc P f.params.toList s.vars apart W args.toList ds gs before)
    (hres : ∀ (b : Nat) (sp : Nat → Bool) (hd : Bool), DataW.TrodAll enc P W' b sp hd f.resultTypes.toList (v.resultList f.resultTypes.size) (s.fn H (ds ++ gs)).results [])
    (hargs : ∀ sp : Nat → Bool, (∀ p ∈ before, sp p.block = true) → DataW.TrodAll enc P W' 0 sp true f.params.toList args.toList (s.fn H (ds ++ gs)).args pa)
    (hvars : ∀ sp : Nat → Bool, (∀ p ∈ before, sp p.block = true) → DataW.TrodVars enc P W' sp s.vars (s.fn H (ds ++ gs)).vars pv)
    (hps : before = pa ++ pv) (hk : W.keptBut W' (· ∈ before)) (hfz : ∀ b off, MemPlace.cell b off ∈ before → W'.frozen? ⟨b, off, none⟩ = W.frozen? ⟨b, off, none⟩)
    (hok : ∀ (j : Nat) (t : TypeId) (r : Value), f.resultTypes[j]? = some t → (v.resultList f.resultTypes.size)[j]? = some r → Value.okWide P W' .any 0 t r) :
    s.post enc P f apart fresh handsOn again W args v W' := by
  have hold : ∀ p ∈ before, (fun b => decide (b < W.heap.size)) p.block = true := fun p hp => by simpa using hW.lt p hp
  refine ⟨ds, gs, before, [], pa, pv, hW, hres _ _ _, hargs _ hold, hvars _ hold, World.keptBut_mono (fun p hp => ⟨hp, ?_⟩) hk, fun _ => ?_⟩
  · rw [hps, List.mem_append] at hp
    exact Or.inr hp
  · obtain ⟨_, _, _, _, _, hz, hn⟩ := hW
    refine ⟨hok, _, _, ([] ++ pa) ++ pv, ⟨[] ++ pa, pv, ChangeShapes.trodAll_append (hargs _ (fun _ _ => rfl)) (hres _ _ _), hvars _ (fun _ _ => rfl), rfl, ?_, ?_⟩, ?_⟩
    · intro b off hp
      have hp' : MemPlace.cell b off ∈ before := by rw [hps]; simpa using hp
      rw [hfz b off hp']
      exact hz b off hp'
    · intro ha
      have := hn ha
      rw [hps] at this
      simpa using this
    · intro p hp _
      rw [hps]
      simpa using hp
/-- **From a law's contract to what the given statement asks of it.** -/
theorem law_lifted {A : Checked} {C : Ctx} (hC : C.P = A.prog) {os : Os} (started : os.Started) {H : Type} {enc : TypeId × Value → H} {f : FuncId} {fn : Func} {s : ChangeSpec} {tb : TypeId}
    (own : ownKnob A.prog.godebug = none) (noInit : A.prog.inits.idxOf? f = none) (hfn : A.prog.funcs[f]? = some fn) (hl : laidOutB A.prog = true)
    (hvars : s.vars = []) (hspec : ∀ ds : List (DataW H), ds.length = fn.params.size → (s.fn H ds).results = [.lit (.bool true)] ∧ (s.fn H ds).args = ds ∧ (s.fn H ds).vars = [])
    (hrt : fn.resultTypes = #[tb]) (htb : A.prog.underlying tb = some .bool) (hpar : ∀ t ∈ fn.params.toList, A.prog.readableRec t = true ∧ t < A.prog.types.size)
    {R : List V → Prop} (hargs : ArgsV A.prog fn.params.toList R) (hlaw : ∀ us, R us → Pu C f us (.bool true))
    (witness : ∃ (w : World) (tape : Tape) (i : Input), w.os = os ∧ (w.forCall tape i).Shaped A.prog ∧ i.vars = [] ∧ Input.okWide A.prog (w.forCall tape i) .any w.heap.size f i ∧
      s.pre6 enc A.prog fn [] false (w.forCall tape i).memory i.args ∧ ({} : Assume).holds A.prog (lone (Frame.enter A.prog f i.args .normal) [] (w.forCall tape i))) :
    ReturnsInHanded {} A os f .any (s.pre6 enc A.prog fn [] false) (s.post enc A.prog fn false true false false) := by
  refine returnsInHanded_of_change_sized own started noInit hfn witness ?_
  intro W base args ds gs before hval hW _ hz _
  have hW' := hW
  obtain ⟨p, q, hA, hV, rfl, hfz, hnd⟩ := hW
  rw [hvars] at hV
  obtain ⟨rfl, rfl⟩ := ChangeShapes.trodVars_none hV
  have hvt : s.plain.varTypes A.prog = [] := by
    have : s.plain.vars = [] := hvars
    simp [DataSpec.varTypes, this]
  rw [hvt, List.append_nil, List.append_nil, List.all_eq_true] at hz
  obtain ⟨us, hR, hcr⟩ := hargs.get (fun j t v hj hv => hval j t v (by simpa using hj) (by simpa using hv)) hA (fun n hn => by simpa using hz n hn)
  have hcall := (hlaw us hR).2 (fun b => b < W.heap.size) NoPl W args.toList hcr.1 hcr.2 (HR.none fun b hb => hb)
  rw [hC] at hcall
  have hlen : ds.length = fn.params.size := by
    have : ∀ {ts : List TypeId} {vs : List Value} {ds : List (DataW H)} {p : List MemPlace}, DataW.TrodAll enc A.prog W 0 (fun _ => true) true ts vs ds p → ds.length = ts.length := by
      intro ts
      induction ts with
      | nil => intro vs ds p h; obtain ⟨_, rfl, _⟩ := ChangeShapes.trodAll_nil h; rfl
      | cons t ts ih =>
        intro vs ds p h
        obtain ⟨v, vs1, d, ds1, a, b, rfl, rfl, rfl, _, k2⟩ := ChangeShapes.trodAll_cons h
        simp [ih k2]
    simpa using this hA
  obtain ⟨s1, s2, s3⟩ := hspec ds hlen
  refine (callsIn_wide (n := 0)).1 ((callsIn_wide.2 hcall).mono fun e W' hp => ?_)
  cases e with
  | panicked _ => exact hp.elim
  | outgrown => exact hp.elim
  | returned vc =>
    obtain ⟨v, H', im', pl', ⟨rfl, rfl⟩, k2, k3, k4⟩ := hp
    cases k2 with
    | bool b =>
      have hold : ∀ b, b < W.heap.size → W'.heap[b]? = W.heap[b]? := fun b hb => k4.frame b hb fun r cap e => by cases e
      have hlt : ∀ p' ∈ p ++ [], p'.block < W.heap.size := fun p' hp' => hW'.lt p' hp'
      have hcell : ∀ a : Addr, a.block < W.heap.size → W'.cell? a = W.cell? a := fun a ha => World.cell?_of_block (hold _ ha)
      have hsame : ∀ p' ∈ p ++ [], W.sameAt W' p' := fun p' hp' => by
        have := hlt p' hp'
        cases p' with
        | cell b off => exact hcell _ this
        | map b => exact hold b this
      refine ⟨.bool true, rfl, post_same (pa := p ++ []) (pv := []) hW' (fun _ _ _ => ?_) (fun sp hsp => ?_) (fun _ _ => ?_) (by simp) ?_ (fun b off hb => ?_) ?_⟩
      · rw [List.append_nil, s1, hrt]; exact ChangeShapes.trodAll_mk1 (shut_bool htb _)
      · rw [List.append_nil, s2]; rw [List.append_nil] at hsame hsp ⊢; exact TrodAll_stays hl hpar hA hsame hsp
      · rw [List.append_nil, s3, hvars]; rfl
      · refine ⟨k4.os, k4.output, fun i hi => ?_⟩
        rw [hold i hi]
        split
        · rename_i h1 h2; rw [h1] at h2; cases h2; exact ⟨rfl, rfl, rfl, fun _ _ => rfl⟩
        · rename_i h1 h2; rw [h1] at h2; cases h2; exact .inr ⟨rfl, rfl⟩
        · rfl
      · have h1 : W'.heap[b]? = W.heap[b]? := hold b (hlt _ hb)
        unfold World.frozen?; simp only [h1]
      · exact ok_one (f := fn) hrt rfl (okWide_bool_mk htb _)
end Go.Bv
end
