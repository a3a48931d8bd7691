/-
  Parts Bv26, Bv28, Bv29, Bv30, Base, CodeA, CodeB, CodeC, CodeD, CodeE, CodeF, CodeG, Ref6, Ref11, Ref11b, Ref11c, Ref12, Ref12b, Sh6, Op1, Op2, one behind the other: a program logic of our own, contracts of functions.
-/
import Derived.Test.YtlomgfdepllanaaQ2
import Derived.ProofKit
import Derived.SizedLaws
import Derived.Deep.Slices
import Derived.Test.YtlomgfdepllanaaProg

set_option linter.unusedVariables false
set_option linter.unusedSimpArgs false
set_option maxRecDepth 100000
set_option maxHeartbeats 8000000
section
namespace Go.Bv
open Go.RowKit Go.Deep
def CR (w : World) (vs : List V) (cs : List Value) : Prop := vs.length = cs.length ∧ ∀ j, VR (fun b => b < w.heap.size) Zh w (nth vs j) (cs.getD j undef)
theorem CR.nil (w : World) : CR w [] [] := ⟨rfl, fun j => .any _⟩
theorem CR.one {w : World} {v : V} {c : Value} (h : VR (fun b => b < w.heap.size) Zh w v c) : CR w [v] [c] := ⟨rfl, fun j => by
 cases j with
 | zero => exact h
 | succ j => exact .any _⟩
theorem CR.append {w : World} {a b : List V} {c d : List Value} (h : CR w a c) (k : CR w b d) : CR w (a ++ b) (c ++ d) := by
 refine ⟨by simp [h.1, k.1], fun j => ?_⟩
 rw [Xh];by_cases hj : j < a.length
 ·rw [if_pos hj]
  have := h.2 j
  rw [h.1] at hj;simpa [List.getD, List.getElem?_append_left hj] using this
 ·rw [if_neg hj]
  have := k.2 (j - a.length)
  rw [h.1] at hj this ⊢;simpa [List.getD, List.getElem?_append_right (show c.length ≤ j by omega)] using this
structure Reads (P : Program) (t : TypeId) (Q : List V → Prop) : Prop where
 get : ∀ {H : Type} {enc : TypeId × Value → H} {w : World} {fuel : Nat} {cs : List Value} {x : DataW H × List MemPlace},
 DataW.trod enc P w 0 (fun _ => true) true fuel t cs = some x → (∀ n ∈ x.1.weights P t, n ≤ reachBytes) → ∃ vs, Q vs ∧ CR w vs cs
theorem Reads.mono {P : Program} {t : TypeId} {Q Q' : List V → Prop} (h : Reads P t Q) (hq : ∀ vs, Q vs → Q' vs) : Reads P t Q' := ⟨fun ht hw => by
 obtain ⟨vs, h1, h2⟩ := h.get ht hw;exact ⟨vs, hq _ h1, h2⟩⟩
theorem Reads.int {P : Program} {t : TypeId} {k : IntKind} (hu : P.underlying t = some (.int k)) : Reads P t fun vs => ∃ n, vs = [.int k n] ∧ (Lit.int k n).wf = true := ⟨fun ht _ => by
 obtain ⟨n, rfl, _, h⟩ := DataW.trod_int hu ht;exact ⟨_, ⟨n, rfl, h⟩, .one (.int k n)⟩⟩
theorem Reads.bool {P : Program} {t : TypeId} (hu : P.underlying t = some .bool) : Reads P t fun vs => ∃ b, vs = [.bool b] := ⟨fun ht _ => by
 obtain ⟨b, rfl, _⟩ := DataW.trod_bool hu ht;exact ⟨_, ⟨b, rfl⟩, .one (.bool b)⟩⟩
theorem Reads.string {P : Program} {t : TypeId} (hu : P.underlying t = some .string) : Reads P t fun vs => ∃ s : ByteArray, vs = [.str s] ∧ s.size ≤ reachBytes := ⟨fun ht hw => by
 obtain ⟨s, rfl, rfl, h⟩ := DataW.trod_string hu ht;refine ⟨_, ⟨s, rfl, ?_⟩, .one (.str s)⟩;exact hw _ (by simp [DataW.weights])⟩
theorem Reads.slice {P : Program} {t e : TypeId} {s b : Nat} {Q : List V → Prop} (hu : P.underlying t = some (.slice e)) (hs : P.cellsOf e = s) (h0 : 0 < s) (hb : P.bytesOf e = b) (he : Reads P e Q) :
  Reads P t fun vs => ∃ l : List (List V), (∀ x ∈ l, Q x) ∧ l.length * b ≤ reachBytes ∧ vs = [.sl l.length l.flatten] := ⟨fun {H enc w fuel cs x} ht hw => by
 rcases open_slice hu ht with ⟨rfl, rfl⟩ | ⟨a, len, cap, m, n, D, Pl, rfl, _, hlc, hcm, hm, rfl, hx⟩
 ·exact ⟨_, ⟨[], by simp, by simp, rfl⟩, .one (.sl0 _ _ _)⟩
 ·simp only [if_true] at hm;subst hm
  have hwt : (len + (m - len)) * b ≤ reachBytes := hw _ (by simp only [DataW.weights, hu]; rw [hb]; simp)
  have hel : ∀ i, i < m → ∀ n ∈ (D i).weights P e, n ≤ reachBytes := fun i hi n hn => by
   refine hw n ?_;simp only [DataW.weights, hu, List.mem_cons, List.mem_append]
   have gen : ∀ (l : List Nat) (f : Nat → Nat), (∃ j ∈ l, f j = i) → n ∈ DataW.weightsAll P e (l.map fun j => D (f j)) := by
    intro l f
    induction l with
    | nil => rintro ⟨j, hj, _⟩; simp at hj
    | cons a l ih =>
     rintro ⟨j, hj, hf⟩;simp only [List.map_cons, DataW.weightsAll, List.mem_append];rcases List.mem_cons.1 hj with rfl | hj
     ·left; rw [hf]; exact hn
     ·right; exact ih ⟨j, hj, hf⟩
   by_cases hil : i < len
   ·right; left; exact gen _ id ⟨i, by simpa using hil, rfl⟩
   ·right; right; exact gen _ (len + ·) ⟨i - len, by simp; omega, by show len + (i - len) = i; omega⟩
  rw [hs] at hx
  have key : ∀ k, k ≤ len → ∃ l : List (List V), l.length = k ∧ (∀ x ∈ l, Q x) ∧ l.flatten.length = k * s ∧ ∀ j, j < k * s → ∃ v, w.cell? (a.add j) = some v ∧ VR (fun b => b < w.heap.size) Zh w (nth l.flatten j) v := by
   intro k
   induction k with
   | zero => intro _; exact ⟨[], rfl, by simp, by simp, fun j hj => by omega⟩
   | succ k ih =>
    intro hk;obtain ⟨l, l1, l2, l3, l4⟩ := ih (by omega)
    obtain ⟨cs', hc, ht'⟩ := hx k (by omega)
    obtain ⟨vs, hq, hcr⟩ := he.get ht' (hel k (by omega))
    obtain ⟨_, c1, c2⟩ := World.cells?_some hc;refine ⟨l ++ [vs], by simp [l1], fun x hx => ?_, ?_, fun j hj => ?_⟩
    ·rcases List.mem_append.1 hx with h | h
     ·exact l2 x h
     ·simp only [List.mem_cons, List.not_mem_nil, or_false] at h; subst h; exact hq
    ·rw [List.flatten_append, List.length_append, l3];simp only [List.flatten_cons, List.flatten_nil, List.append_nil, hcr.1, c1];rw [Nat.succ_mul]
    ·rw [List.flatten_append, Xh, l3];simp only [List.flatten_cons, List.flatten_nil, List.append_nil];by_cases hlt : j < k * s
     ·rw [if_pos hlt]; exact l4 j hlt
     ·rw [if_neg hlt];rw [Nat.succ_mul] at hj
      have h1 := c2 (j - k * s) (by omega)
      rw [Bv.add_add, show k * s + (j - k * s) = j by omega] at h1
      rw [h1]
      have h2 : j - k * s < cs'.length := by omega
      refine ⟨cs'[j - k * s], by simp [h2], ?_⟩
      have := hcr.2 (j - k * s)
      simpa [List.getD, h2] using this
  obtain ⟨l, l1, l2, l3, l4⟩ := key len (Nat.le_refl _);refine ⟨_, ⟨l, l2, ?_, rfl⟩, .one ?_⟩
  ·rw [l1]; exact Nat.le_trans (Nat.mul_le_mul_right _ (by omega)) hwt
  ·rw [l1];by_cases hz : len = 0
   ·subst hz; exact .sl0 _ _ _
   ·have hlen : 0 < len * s := Nat.mul_pos (by omega) h0
    obtain ⟨v0, hv0, _⟩ := l4 0 hlen
    have hblk : a.block < w.heap.size := by have := World.block_lt_of_cell? w _ hv0; rwa [Qa2] at this
    refine .sl len _ a m (fun j => (w.cell? (a.add j)).getD undef) hlc hblk (fun j hj => ?_) (fun j => ?_)
    ·rw [l3] at hj;obtain ⟨v, hv, _⟩ := l4 j hj;rw [hv]; rfl
    ·by_cases hj : j < len * s
     ·obtain ⟨v, hv, h2⟩ := l4 j hj;rw [hv]; exact h2
     ·rw [Zx _ _ (by omega)]; exact .any _⟩
theorem Reads.struct {P : Program} {t : TypeId} {fs : Array Field} {Qs : Nat → List V → Prop} (hl : laidOutB P = true) (ht : t < P.types.size) (hu : P.underlying t = some (.struct fs)) (hf : ∀ i f, fs[i]? = some f → Reads P f.type (Qs i)) :
  Reads P t fun vs => ∃ l : List (List V), l.length = fs.size ∧ (∀ i, i < fs.size → Qs i (l.getD i [])) ∧ vs = l.flatten := ⟨fun {H enc w fuel cs x} h hw => by
 obtain ⟨xs, n, rfl, rfl, hc, hx, hi⟩ := DataW.trod_struct hu h;obtain ⟨_, hsum, hoff⟩ := kid_struct hl ht hu
 have key : ∀ k, k ≤ fs.size → ∃ l : List (List V), l.length = k ∧ (∀ i, i < k → Qs i (l.getD i [])) ∧ CR w l.flatten (cs.take (((fs.toList.take k).map fun f => P.cellsOf f.type).sum)) := by
  intro k
  induction k with
  | zero => intro _; exact ⟨[], rfl, fun i hi => by omega, by simpa using CR.nil w⟩
  | succ k ih =>
   intro hk;obtain ⟨l, l1, l2, l3⟩ := ih (by omega)
   have hfk : fs[k]? = some fs[k] := by simp [hk]
   have hfk' : fs.toList[k]? = some fs[k] := by simp [hk]
   have h1 := hi k _ hfk
   have hxk : xs[k]? = some xs[k] := List.getElem?_eq_getElem (by omega)
   rw [hxk] at h1;obtain ⟨vs, q1, q2⟩ := (hf k _ hfk).get h1 (fun n hn => hw n (by
    simp only [DataW.weights, hu];exact DataW.weights_mem_each (j := k) (by rw [List.getElem?_map, hfk']; rfl) (by rw [List.getElem?_map, hxk]; rfl) n hn))
   rw [hoff k _ hfk'] at q2;refine ⟨l ++ [vs], by simp [l1], fun i hi => ?_, ?_⟩
   ·by_cases hik : i < k
    ·have := l2 i hik
     simpa [List.getD, List.getElem?_append_left (show i < l.length by omega)] using this
    ·obtain rfl : i = k := by omega
     simpa [List.getD, ← l1] using q1
   ·have e1 : ((fs.toList.take (k + 1)).map fun f => P.cellsOf f.type).sum = ((fs.toList.take k).map fun f => P.cellsOf f.type).sum + P.cellsOf fs[k].type := by
     rw [List.take_add_one, hfk']; simp
    rw [e1, List.take_add, List.flatten_append];simpa using l3.append q2
 obtain ⟨l, l1, l2, l3⟩ := key fs.size (Nat.le_refl _);refine ⟨_, ⟨l, l1, l2, rfl⟩, ?_⟩;rw [List.take_of_length_le (show fs.toList.length ≤ fs.size by simp), ← hsum, ← hc, List.take_of_length_le (Nat.le_refl _)] at l3
 exact l3⟩
theorem Ql5 {α : Type} {g : α → V} {R : α → Prop} : ∀ {l : List (List V)}, (∀ x ∈ l, ∃ a, x = [g a] ∧ R a) → ∃ xs : List α, xs.length = l.length ∧ l.flatten = xs.map g ∧ ∀ a ∈ xs, R a
 | [], _ => ⟨[], rfl, rfl, by simp⟩
 | x :: l, h => by
  obtain ⟨a, rfl, ha⟩ := h x (by simp)
  obtain ⟨xs, h1, h2, h3⟩ := Ql5 (l := l) fun y hy => h y (by simp [hy])
  exact ⟨a :: xs, by simp [h1], by simp [h2], fun b hb => by
   rcases List.mem_cons.1 hb with rfl | hb
   ·exact ha
   ·exact h3 b hb⟩
theorem Reads.slice1 {α : Type} {P : Program} {t e : TypeId} {b : Nat} {g : α → V} {R : α → Prop} (hu : P.underlying t = some (.slice e)) (hs : P.cellsOf e = 1) (hb : P.bytesOf e = b) (he : Reads P e fun vs => ∃ a, vs = [g a] ∧ R a) :
  Reads P t fun vs => ∃ xs : List α, vs = [.sl xs.length (xs.map g)] ∧ xs.length * b ≤ reachBytes ∧ ∀ a ∈ xs, R a :=
 Reads.mono (Reads.slice hu hs (by omega) hb he) fun vs ⟨l, h1, h2, h3⟩ => by
  obtain ⟨xs, q1, q2, q3⟩ := Ql5 h1;exact ⟨xs, by rw [h3, q1, q2], by rw [q1]; exact h2, q3⟩
theorem Reads.ints {P : Program} {t e : TypeId} (hu : P.underlying t = some (.slice e)) (hi : P.underlying e = some (.int .i64)) (hs : P.cellsOf e = 1) (hb : P.bytesOf e = 8) :
  Reads P t fun vs => ∃ xs : List Int, vs = [.sl xs.length (Bv.ints xs)] ∧ xs.length ≤ 17592186044416 :=
 Reads.mono (Reads.slice1 (g := fun n => .int .i64 n) hu hs hb (Reads.int hi)) fun vs ⟨xs, h1, h2, _⟩ => ⟨xs, h1, by unfold reachBytes at h2; omega⟩
structure ArgV (P : Program) (t : TypeId) (Q : V → Prop) : Prop where
 get : ∀ {H : Type} {enc : TypeId × Value → H} {w : World} {base : Nat} {v : Value} {d : DataW H} {p : List MemPlace},
 Value.okWide P w .any base t v → DataW.Trod enc P w 0 (fun _ => true) true t v d p → (∀ n ∈ d.weights P t, n ≤ reachBytes) → ∃ u, Q u ∧ VR (fun b => b < w.heap.size) Zh w u v
theorem ArgV.mono {P : Program} {t : TypeId} {Q Q' : V → Prop} (h : ArgV P t Q) (hq : ∀ u, Q u → Q' u) : ArgV P t Q' := ⟨fun h1 h2 h3 => by
 obtain ⟨u, k1, k2⟩ := h.get h1 h2 h3;exact ⟨u, hq _ k1, k2⟩⟩
theorem ArgV.one {P : Program} {t : TypeId} {Q : List V → Prop} (h : Reads P t Q) (ho : (match P.underlying t with | some (.int _) | some .bool | some .string | some (.slice _) => true | _ => false) = true) : ArgV P t fun u => Q [u] := ⟨fun {H enc w base v d p} h1 ⟨fuel, h2⟩ h3 => by
 obtain ⟨vs, q1, q2⟩ := h.get h2 h3
 have hv : v.cells.toList = [v] := by
  revert ho
  split
  ·rename_i k hu; intro _; obtain ⟨n, rfl⟩ := WideShapes.okWide_int hu h1; rfl
  ·rename_i hu; intro _; obtain ⟨b, rfl⟩ := WideShapes.okWide_bool hu h1; rfl
  ·rename_i hu; intro _; obtain ⟨s, rfl⟩ := WideShapes.okWide_string hu h1; rfl
  ·rename_i e hu; intro _; obtain ⟨a, len, cap, rfl⟩ := WideShapes.okWide_slice hu h1; rfl
  ·intro h; cases h
 rw [hv] at q2
 match vs, q2.1 with
 | [u], _ => exact ⟨u, q1, by have := q2.2 0; simpa [nth, List.getD] using this⟩⟩
theorem ArgV.struct {P : Program} {t : TypeId} {Q : List V → Prop} {fs : Array Field} (h : Reads P t Q) (hu : P.underlying t = some (.struct fs)) : ArgV P t fun u => ∃ vs, u = .agg vs ∧ Q vs := ⟨fun {H enc w base v d p} h1 ⟨fuel, h2⟩ h3 => by
 obtain ⟨vs, q1, q2⟩ := h.get h2 h3;obtain ⟨cs, rfl, _⟩ := WideShapes.okWide_struct hu h1
 have e : (Value.agg cs).cells.toList = cs.toList := rfl
 rw [e] at q2;refine ⟨_, ⟨vs, rfl, q1⟩, ?_⟩
 have := VR.agg (im := fun b => b < w.heap.size) (pl := Zh) (w := w) vs cs.toList q2.1 q2.2
 simpa using this⟩
structure ArgsV (P : Program) (ts : List TypeId) (R : List V → Prop) : Prop where
 get : ∀ {H : Type} {enc : TypeId × Value → H} {w : World} {base : Nat} {vs : List Value} {ds : List (DataW H)} {p : List MemPlace},
 (∀ (j : Nat) t v, ts[j]? = some t → vs[j]? = some v → Value.okWide P w .any base t v) → DataW.TrodAll enc P w 0 (fun _ => true) true ts vs ds p → (∀ n ∈ DataW.weightsEach P ts ds, n ≤ reachBytes) → ∃ us, R us ∧ CR w us vs
theorem ArgsV.nil {P : Program} : ArgsV P [] fun us => us = [] := ⟨fun {H enc w base vs ds p} h1 h2 h3 => by
 cases vs with
 | nil => exact ⟨[], rfl, .nil _⟩
 | cons v vs => cases ds <;> simp [DataW.TrodAll] at h2⟩
theorem ArgsV.cons {P : Program} {t : TypeId} {ts : List TypeId} {Q : V → Prop} {R : List V → Prop} (h : ArgV P t Q) (hr : ArgsV P ts R) : ArgsV P (t :: ts) fun us => ∃ u us', us = u :: us' ∧ Q u ∧ R us' := ⟨fun {H enc w base vs ds p} h1 h2 h3 => by
 obtain ⟨v, vs1, d, ds1, a, b, rfl, rfl, rfl, k1, k2⟩ := ChangeShapes.trodAll_cons h2;obtain ⟨u, q1, q2⟩ := h.get (h1 0 t v rfl rfl) k1 (fun n hn => h3 n (by simp only [DataW.weightsEach, List.mem_append]; exact .inl hn))
 obtain ⟨us, q3, q4⟩ := hr.get (fun j t' v' hj hv => h1 (j + 1) t' v' hj hv) k2 (fun n hn => h3 n (by simp only [DataW.weightsEach, List.mem_append]; exact .inr hn))
 exact ⟨u :: us, ⟨u, us, rfl, q1, q3⟩, (CR.one q2).append q4⟩⟩
theorem ArgsV.mono {P : Program} {ts : List TypeId} {R R' : List V → Prop} (h : ArgsV P ts R) (hq : ∀ us, R us → R' us) : ArgsV P ts R' := ⟨fun h1 h2 h3 => by
 obtain ⟨u, k1, k2⟩ := h.get h1 h2 h3;exact ⟨u, hq _ k1, k2⟩⟩
theorem Qb9 {H : Type} {enc : TypeId × Value → H} {P : Program} {base : Nat} (hl : laidOutB P = true) {W W' : World} {sp' : Nat → Bool} : ∀ {ts : List TypeId} {vs : List Value} {ds : List (DataW H)} {ps : List MemPlace}, (∀ t ∈ ts, P.readableRec t = true ∧ t < P.types.size) →
  DataW.TrodAll enc P W base (fun _ => true) true ts vs ds ps → (∀ p ∈ ps, W.sameAt W' p) → (∀ p ∈ ps, sp' p.block = true) → DataW.TrodAll enc P W' base sp' true ts vs ds ps
 | [], _, _, _, _, h, _, _ => by
  obtain ⟨rfl, rfl, rfl⟩ := ChangeShapes.trodAll_nil h;exact rfl
 | t :: ts, _, _, _, ht, h, h1, h2 => by
  obtain ⟨v, vs1, d, ds1, a, b, rfl, rfl, rfl, k1, k2⟩ := ChangeShapes.trodAll_cons h;exact ⟨a, b, WideElems.Trod_stays hl (ht t (by simp)).1 (ht t (by simp)).2 k1 (fun p hp => h1 p (by simp [hp])) (fun p hp => h2 p (by simp [hp])),
   Qb9 hl (fun t' ht' => ht t' (by simp [ht'])) k2 (fun p hp => h1 p (by simp [hp])) (fun p hp => h2 p (by simp [hp])), rfl⟩
theorem Qnc {H : Type} {enc : TypeId × Value → H} {P : Program} {f : Func} {s : ChangeSpec} {apart fresh handsOn again : Bool} {W W' : World} {args : Array Value} {v : Value} {ds gs : List (DataW H)} {before pa pv : List MemPlace}
  (hW : DataW.Whole enc P f.params.toList s.vars apart W args.toList ds gs before)
  (hres : ∀ (b : Nat) (sp : Nat → Bool) (hd : Bool), DataW.TrodAll enc P W' b sp hd f.resultTypes.toList (v.resultList f.resultTypes.size) (s.fn H (ds ++ gs)).results [])
  (hargs : ∀ sp : Nat → Bool, (∀ p ∈ before, sp p.block = true) → DataW.TrodAll enc P W' 0 sp true f.params.toList args.toList (s.fn H (ds ++ gs)).args pa)
  (hvars : ∀ sp : Nat → Bool, (∀ p ∈ before, sp p.block = true) → DataW.TrodVars enc P W' sp s.vars (s.fn H (ds ++ gs)).vars pv)
  (hps : before = pa ++ pv) (hk : W.keptBut W' (· ∈ before)) (hfz : ∀ b off, MemPlace.cell b off ∈ before → W'.frozen? ⟨b, off, none⟩ = W.frozen? ⟨b, off, none⟩)
  (hok : ∀ (j : Nat) (t : TypeId) (r : Value), f.resultTypes[j]? = some t → (v.resultList f.resultTypes.size)[j]? = some r → Value.okWide P W' .any 0 t r) :
  s.post enc P f apart fresh handsOn again W args v W' := by
 have hold : ∀ p ∈ before, (fun b => decide (b < W.heap.size)) p.block = true := fun p hp => by simpa using hW.lt p hp
 refine ⟨ds, gs, before, [], pa, pv, hW, hres _ _ _, hargs _ hold, hvars _ hold, World.keptBut_mono (fun p hp => ⟨hp, ?_⟩) hk, fun _ => ?_⟩
 ·rw [hps, List.mem_append] at hp;exact Or.inr hp
 ·obtain ⟨_, _, _, _, _, hz, hn⟩ := hW;refine ⟨hok, _, _, ([] ++ pa) ++ pv, ⟨[] ++ pa, pv, ChangeShapes.trodAll_append (hargs _ (fun _ _ => rfl)) (hres _ _ _), hvars _ (fun _ _ => rfl), rfl, ?_, ?_⟩, ?_⟩
  ·intro b off hp
   have hp' : MemPlace.cell b off ∈ before := by rw [hps]; simpa using hp
   rw [hfz b off hp'];exact hz b off hp'
  ·intro ha
   have := hn ha
   rw [hps] at this;simpa using this
  ·intro p hp _;rw [hps];simpa using hp
theorem Qks {A : Checked} {C : Ctx} (hC : C.P = A.prog) {os : Os} (started : os.Started) {H : Type} {enc : TypeId × Value → H} {f : FuncId} {fn : Func} {s : ChangeSpec} {tb : TypeId}
  (own : ownKnob A.prog.godebug = none) (noInit : A.prog.inits.idxOf? f = none) (hfn : A.prog.funcs[f]? = some fn) (hl : laidOutB A.prog = true)
  (hvars : s.vars = []) (hspec : ∀ ds : List (DataW H), ds.length = fn.params.size → (s.fn H ds).results = [.lit (.bool true)] ∧ (s.fn H ds).args = ds ∧ (s.fn H ds).vars = [])
  (hrt : fn.resultTypes = #[tb]) (htb : A.prog.underlying tb = some .bool) (hpar : ∀ t ∈ fn.params.toList, A.prog.readableRec t = true ∧ t < A.prog.types.size)
  {R : List V → Prop} (hargs : ArgsV A.prog fn.params.toList R) (hlaw : ∀ us, R us → Pu C f us (.bool true))
  (witness : ∃ (w : World) (tape : Tape) (i : Input), w.os = os ∧ (w.forCall tape i).Shaped A.prog ∧ i.vars = [] ∧ Input.okWide A.prog (w.forCall tape i) .any w.heap.size f i ∧
   s.pre6 enc A.prog fn [] false (w.forCall tape i).memory i.args ∧ ({} : Assume).holds A.prog (lone (Frame.enter A.prog f i.args .normal) [] (w.forCall tape i))) :
  ReturnsInHanded {} A os f .any (s.pre6 enc A.prog fn [] false) (s.post enc A.prog fn false true false false) := by
 refine returnsInHanded_of_change_sized own started noInit hfn witness ?_;intro W base args ds gs before hval hW _ hz _
 have hW' := hW
 obtain ⟨p, q, hA, hV, rfl, hfz, hnd⟩ := hW;rw [hvars] at hV;obtain ⟨rfl, rfl⟩ := ChangeShapes.trodVars_none hV
 have hvt : s.plain.varTypes A.prog = [] := by
  have : s.plain.vars = [] := hvars
  simp [DataSpec.varTypes, this]
 rw [hvt, List.append_nil, List.append_nil, List.all_eq_true] at hz;obtain ⟨us, hR, hcr⟩ := hargs.get (fun j t v hj hv => hval j t v (by simpa using hj) (by simpa using hv)) hA (fun n hn => by simpa using hz n hn)
 have hcall := (hlaw us hR).2 (fun b => b < W.heap.size) Zh W args.toList hcr.1 hcr.2 (HR.none fun b hb => hb)
 rw [hC] at hcall
 have hlen : ds.length = fn.params.size := by
  have : ∀ {ts : List TypeId} {vs : List Value} {ds : List (DataW H)} {p : List MemPlace}, DataW.TrodAll enc A.prog W 0 (fun _ => true) true ts vs ds p → ds.length = ts.length := by
   intro ts
   induction ts with
   | nil => intro vs ds p h; obtain ⟨_, rfl, _⟩ := ChangeShapes.trodAll_nil h; rfl
   | cons t ts ih =>
    intro vs ds p h;obtain ⟨v, vs1, d, ds1, a, b, rfl, rfl, rfl, _, k2⟩ := ChangeShapes.trodAll_cons h;simp [ih k2]
  simpa using this hA
 obtain ⟨s1, s2, s3⟩ := hspec ds hlen;refine (callsIn_wide (n := 0)).1 ((callsIn_wide.2 hcall).mono fun e W' hp => ?_)
 cases e with
 | panicked _ => exact hp.elim
 | outgrown => exact hp.elim
 | returned vc =>
  obtain ⟨v, H', im', pl', ⟨rfl, rfl⟩, k2, k3, k4⟩ := hp;cases k2 with
  | bool b =>
   have hold : ∀ b, b < W.heap.size → W'.heap[b]? = W.heap[b]? := fun b hb => k4.frame b hb fun r cap e => by cases e
   have hlt : ∀ p' ∈ p ++ [], p'.block < W.heap.size := fun p' hp' => hW'.lt p' hp'
   have hcell : ∀ a : Addr, a.block < W.heap.size → W'.cell? a = W.cell? a := fun a ha => World.cell?_of_block (hold _ ha)
   have hsame : ∀ p' ∈ p ++ [], W.sameAt W' p' := fun p' hp' => by
    have := hlt p' hp'
    cases p' with
    | cell b off => exact hcell _ this
    | map b => exact hold b this
   refine ⟨.bool true, rfl, Qnc (pa := p ++ []) (pv := []) hW' (fun _ _ _ => ?_) (fun sp hsp => ?_) (fun _ _ => ?_) (by simp) ?_ (fun b off hb => ?_) ?_⟩
   ·rw [List.append_nil, s1, hrt]; exact ChangeShapes.trodAll_mk1 (shut_bool htb _)
   ·rw [List.append_nil, s2]; rw [List.append_nil] at hsame hsp ⊢; exact Qb9 hl hpar hA hsame hsp
   ·rw [List.append_nil, s3, hvars]; rfl
   ·refine ⟨k4.os, k4.output, fun i hi => ?_⟩
    rw [hold i hi];split
    ·rename_i h1 h2; rw [h1] at h2; cases h2; exact ⟨rfl, rfl, rfl, fun _ _ => rfl⟩
    ·rename_i h1 h2; rw [h1] at h2; cases h2; exact .inr ⟨rfl, rfl⟩
    ·rfl
   ·have h1 : W'.heap[b]? = W.heap[b]? := hold b (hlt _ hb)
    unfold World.frozen?; simp only [h1]
   ·exact ok_one (f := fn) hrt rfl (okWide_bool_mk htb _)
end Go.Bv
end
section
namespace Go.Bv
open Go.RowKit
def Shorter (H H2 : Qa) : Prop := H2.length = H.length ∧ ∀ r : Nat, H2[r]? = H[r]? ∨ ∃ (e s : Nat) (cs : List V) (k : Nat), H[r]? = some (some ⟨e, s, cs⟩) ∧ H2[r]? = some (some ⟨e, s, cs.take k⟩)
theorem Shorter.refl (H : Qa) : Shorter H H := ⟨rfl, fun _ => .inl rfl⟩
theorem Shorter.set {H : Qa} {r e s : Nat} {cs : List V} (h : Qd H r = some ⟨e, s, cs⟩) (k : Nat) : Shorter H (H.set r (some ⟨e, s, cs.take k⟩)) := by
 have h1 := Qr h
 refine ⟨by simp, fun q => ?_⟩
 by_cases e1 : r = q
 ·subst e1;exact .inr ⟨e, s, cs, k, h1, by rw [List.getElem?_set_self (Yq h)]⟩
 ·exact .inl (by rw [List.getElem?_set_ne e1])
theorem Qsp {y : Ty} {e e' s' m : Nat} {v : V} {H : Qa} {n : Nat} {cs lit : List V} {K : V → Qa → Prop} (h : Own e y.size H v n cs) (hn : lit.length = m * y.size) (hs : lit.all Xx = true) (hy : 0 < y.size) (hb : 0 < y.bytes) (hl : (n + m) * y.bytes ≤ 140737488355328)
  (hc : cs.all Xx = true) (hK : ∀ H', Own e y.size H' (.ref (H.length + 1) 0 (n + m)) (n + m) (cs ++ lit) → Fr v H H' → H'.length = H.length + 2 → K (.ref (H.length + 1) 0 (n + m)) H') : Jr y e v (.ref H.length 0 m) (H ++ [some ⟨e', s', lit⟩]) K := by
 refine Qfc (h.keep _) (news := lit) ?_ hn hs hy hb hl hc fun v' H' h1 h2 h3 h4 => ?_
 ·simp only [Zj, Zq, List.drop_zero];rw [← hn, List.take_length]
 ·obtain ⟨r, rfl⟩ := h4;simp only [List.length_append, List.length_cons, List.length_nil, Nat.zero_add] at h1 h3 ⊢
  have : r = n + m := by
   rcases h1 with ⟨h, _⟩ | ⟨q, h, _⟩
   ·cases h
   ·injection h
  subst this;exact hK H' h1 (fun q row hq hr => h2 q row hq (Qy hr _)) (by omega)
theorem Own.not {e s e' s' : Nat} {H : Qa} {v : V} {n : Nat} {cs cs' : List V} {r : Nat} (h : Own e s H v n cs) (hr : Qd H r = some ⟨e', s', cs'⟩) (hne : e ≠ e') : ∀ off m, v ≠ .ref r off m := by
 rcases h with ⟨rfl, _⟩ | ⟨q, rfl, h2, _⟩
 ·intro off m h; cases h
 ·intro off m h;injection h with h _ _
  subst h;rw [hr] at h2;injection h2 with h2
  injection h2 with h2
  exact hne h2.symm
attribute [go_sem] Option.map_none
def Qh6 (ty : TypeId → Ty) (o : Option TypeId) (x : V) (h : Int) (H : Qa) (K : V → Prop) : Prop := match o with
 | none => False
 | some e => (ty e).ok = true ∧ 0 < (ty e).size ∧ 0 ≤ h ∧ (match x with
   | .sl n cs => h ≤ n ∧ K (.sl h.toNat (cs.take (h.toNat * (ty e).size)))
   | .ref r off n => (Qd H r).isSome = true ∧ h ≤ n ∧ (h = 0 → K (.sl 0 [])) ∧ (h ≠ 0 → K (.ref r off h.toNat))
   | .nil => h = 0 ∧ K .nil
   | _ => False)
@[congr] theorem Qv8 {ty : TypeId → Ty} {K : V → Prop} {uu : Prop} (h00 : (True ∧ True) = uu) {o o' : Option TypeId} {x x' : V} {h h' : Int} (H : Qa) (h1 : o = o') (h2 : x = x') (h3 : h = h') : Qh6 ty o x h H K = Qh6 ty o' x' h' H K := by rw [h1, h2, h3]
@[go_sem] theorem Qyt (ty : TypeId → Ty) (y : Ty) (x : V) (k : IntKind) (h : Int) (H : Qa) (K : V → Prop) : Qp ty y x none (some (.int k h)) H K = Qh6 ty y.sl x h H K := by
 unfold Qp Qh6; cases y.sl <;> rfl
@[go_sem] theorem Qz2 (ty : TypeId → Ty) (e : TypeId) (n : Nat) (cs : List V) (h : Int) (H : Qa) (K : V → Prop) : Qh6 ty (some e) (.sl n cs) h H K = ((ty e).ok = true ∧ 0 < (ty e).size ∧ chk (0 ≤ h ∧ h ≤ n) (K (.sl h.toNat (cs.take (h.toNat * (ty e).size))))) := by simp [Qh6, chk, and_assoc]
@[go_sem] theorem Qzi (ty : TypeId → Ty) (e : TypeId) (h : Int) (H : Qa) (K : V → Prop) : Qh6 ty (some e) .nil h H K = ((ty e).ok = true ∧ 0 < (ty e).size ∧ chk (h = 0) (K .nil)) := by
 simp only [Qh6, chk, eq_iff_iff];constructor
 ·rintro ⟨h1, h2, h3, h4, h5⟩; exact ⟨h1, h2, h4, h5⟩
 ·rintro ⟨h1, h2, h4, h5⟩; exact ⟨h1, h2, by omega, h4, h5⟩
def Qm0 (ty : TypeId → Ty) (o : Option TypeId) (x : V) (l : Int) (H : Qa) (K : V → Prop) : Prop := match o with
 | none => False
 | some e => (ty e).ok = true ∧ 0 < (ty e).size ∧ 0 ≤ l ∧ (match x with
   | .sl n cs => l ≤ n ∧ K (.sl (n - l.toNat) (cs.drop (l.toNat * (ty e).size)))
   | .ref r off n => (Qd H r).isSome = true ∧ l ≤ n ∧ (l = n → K (.sl 0 [])) ∧ (l ≠ n → K (.ref r (off + l.toNat * (ty e).size) (n - l.toNat)))
   | .nil => l = 0 ∧ K .nil
   | _ => False)
@[congr] theorem Qv7 {ty : TypeId → Ty} {K : V → Prop} {uu : Prop} (h00 : (True ∧ True) = uu) {o o' : Option TypeId} {x x' : V} {h h' : Int} (H : Qa) (h1 : o = o') (h2 : x = x') (h3 : h = h') : Qm0 ty o x h H K = Qm0 ty o' x' h' H K := by rw [h1, h2, h3]
@[go_sem] theorem Qys (ty : TypeId → Ty) (y : Ty) (x : V) (k : IntKind) (h : Int) (H : Qa) (K : V → Prop) : Qp ty y x (some (.int k h)) none H K = Qm0 ty y.sl x h H K := by
 unfold Qp Qm0; cases y.sl <;> rfl
@[go_sem] theorem Qz1 (ty : TypeId → Ty) (e : TypeId) (n : Nat) (cs : List V) (h : Int) (H : Qa) (K : V → Prop) : Qm0 ty (some e) (.sl n cs) h H K = ((ty e).ok = true ∧ 0 < (ty e).size ∧ chk (0 ≤ h ∧ h ≤ n) (K (.sl (n - h.toNat) (cs.drop (h.toNat * (ty e).size))))) := by simp [Qm0, chk, and_assoc]
def IsZ (e s : Nat) (H : Qa) (v : V) (n : Nat) (cs : List V) : Prop := (v = .sl 0 [] ∧ n = 0 ∧ cs = []) ∨ Own e s H v n cs
def RetZ (e s : Nat) (H : Qa) (v : V) (n : Nat) (cs : List V) : Prop := (v = .sl 0 [] ∧ n = 0 ∧ cs = [] ∧ H = []) ∨ Ret e s H v n cs
theorem IsZ.isL {e s : Nat} {H : Qa} {v : V} {n : Nat} {cs : List V} (h : IsZ e s H v n cs) : IsL e s H v n cs := by
 rcases h with ⟨rfl, rfl, rfl⟩ | h
 ·exact .inl rfl
 ·exact .inr h
theorem IsZ.ret {e s : Nat} {H : Qa} {v : V} {n : Nat} {cs : List V} (h : IsZ e s H v n cs) (hc : ∀ g, Qf g cs = cs) {Q : V → Qa → Prop} (hQ : ∀ v H, RetZ e s H v n cs → Q v H) : ∃ sel, Jx sel Q v H := by
 rcases h with ⟨rfl, rfl, rfl⟩ | h
 ·exact ⟨[], by simp, by simp, hQ _ _ (.inl ⟨rfl, rfl, rfl, rfl⟩)⟩
 ·exact h.ret hc fun v H h => hQ v H (.inr h)
theorem RetZ.plain {e s : Nat} {H : Qa} {v : V} {n : Nat} {cs : List V} (h : RetZ e s H v n cs) (hp : Qt cs = true) : Bv.plain v = true ∧ Kj H := by
 rcases h with ⟨rfl, rfl, rfl, rfl⟩ | h
 ·exact ⟨rfl, fun r row hr => by simp at hr⟩
 ·exact h.plain hp
def Qob (o : Option (Nat × TypeId)) (q : Bool) (s : ByteArray) (i : Int) (K : V → Prop) : Prop := match o with
 | none => q = true ∧ 0 ≤ i ∧ i.toNat < s.size ∧ K (.int .u8 ((s[i.toNat]?.getD 0).toNat : Int))
 | some _ => False
@[congr] theorem Qxv {K : V → Prop} {uu : Prop} (h00 : (True ∧ True) = uu) {o o' : Option (Nat × TypeId)} {q q' : Bool} {i i' : Int} (s : ByteArray) (h1 : o = o') (h2 : q = q') (h3 : i = i') : Qob o q s i K = Qob o' q' s i' K := by rw [h1, h2, h3]
@[go_sem] theorem Qkz (ty : TypeId → Ty) (y : Ty) (s : ByteArray) (k : IntKind) (i : Int) (K : V → Prop) : Yp ty y (.str s) (.int k i) K = Qob y.arr y.str s i K := by
 unfold Yp Qob; cases y.arr <;> rfl
@[go_sem] theorem Qy1 (s : ByteArray) (i : Int) (K : V → Prop) : Qob none true s i K = chk (0 ≤ i ∧ i.toNat < s.size) (K (.int .u8 ((s[i.toNat]?.getD 0).toNat : Int))) := by simp [Qob, chk, and_assoc]
def Qsa (o : Option TypeId) (ty : TypeId → Ty) (d x : V) (H : Qa) (K : V → Qa → Prop) : Prop := match o with
 | some e => (ty e).ok = true ∧ Qe4 (ty e) d x H K
 | none => False
@[congr] theorem Qya {ty : TypeId → Ty} {K : V → Qa → Prop} {uu : Prop} (h00 : (True ∧ True) = uu) {o o' : Option TypeId} {d d' x x' : V} {H H' : Qa} (h1 : o = o') (h2 : d = d') (h3 : x = x') (h4 : H = H') : Qsa o ty d x H K = Qsa o' ty d' x' H' K := by rw [h1, h2, h3, h4]
@[congr] theorem Qvx {K : V → Qa → Prop} {uu : Prop} (h00 : (True ∧ True) = uu) (y : Ty) {d d' x x' : V} {H H' : Qa} (h2 : d = d') (h3 : x = x') (h4 : H = H') : Qe4 y d x H K = Qe4 y d' x' H' K := by rw [h2, h3, h4]
@[go_sem] theorem Qs6 (ty : TypeId → Ty) (t t' : TypeId) (d x : V) (H : Qa) (K : V → Qa → Prop) : Qe ty .copy [t, t'] [d, x] H K = ((ty t).ok = true ∧ Qsa (ty t).sl ty d x H K) := by
 simp only [Qe, Qsa]; cases (ty t).sl <;> rfl
@[go_sem] theorem Qy7 (e : TypeId) (ty : TypeId → Ty) (d x : V) (H : Qa) (K : V → Qa → Prop) : Qsa (some e) ty d x H K = ((ty e).ok = true ∧ Qe4 (ty e) d x H K) := rfl
def Qm1 (ty : TypeId → Ty) (o : Option TypeId) (x : V) (l h : Int) (H : Qa) (K : V → Prop) : Prop := match o with
 | none => False
 | some e => (ty e).ok = true ∧ 0 < (ty e).size ∧ 0 ≤ l ∧ l ≤ h ∧ (match x with
   | .sl n cs => h ≤ n ∧ K (.sl (h.toNat - l.toNat) ((cs.drop (l.toNat * (ty e).size)).take ((h.toNat - l.toNat) * (ty e).size)))
   | .ref r off n => (Qd H r).isSome = true ∧ h ≤ n ∧ (l = h → K (.sl 0 [])) ∧ (l ≠ h → K (.ref r (off + l.toNat * (ty e).size) (h.toNat - l.toNat)))
   | .nil => h = 0 ∧ K .nil
   | _ => False)
@[congr] theorem Qv9 {ty : TypeId → Ty} {K : V → Prop} {uu : Prop} (h00 : (True ∧ True) = uu) {o o' : Option TypeId} {x x' : V} {l l' h h' : Int} (H : Qa) (h1 : o = o') (h2 : x = x') (h3 : l = l') (h4 : h = h') : Qm1 ty o x l h H K = Qm1 ty o' x' l' h' H K := by rw [h1, h2, h3, h4]
@[go_sem] theorem Qvl (ty : TypeId → Ty) (y : Ty) (x : V) (k k' : IntKind) (l h : Int) (H : Qa) (K : V → Prop) : Qp ty y x (some (.int k l)) (some (.int k' h)) H K = Qm1 ty y.sl x l h H K := by
 unfold Qp Qm1; cases y.sl <;> rfl
@[go_sem] theorem Qz3 (ty : TypeId → Ty) (e : TypeId) (n : Nat) (cs : List V) (l h : Int) (H : Qa) (K : V → Prop) : Qm1 ty (some e) (.sl n cs) l h H K = ((ty e).ok = true ∧ 0 < (ty e).size ∧ chk (0 ≤ l ∧ l ≤ h ∧ h ≤ n) (K (.sl (h.toNat - l.toNat) ((cs.drop (l.toNat * (ty e).size)).take ((h.toNat - l.toNat) * (ty e).size))))) := by simp [Qm1, chk, and_assoc]
end Go.Bv
end
section
namespace Go.Bv
open Go.RowKit
inductive Gd (H : Qa) : V → V → Prop
 | leaf (v : V) (hc : clo v = true) (hp : plain v = true) : Gd H v v
 | nil (cs : List V) : Gd H .nil (.sl 0 cs)
 | ref (r n : Nat) (row : Row) (cs : List V) (hr : Qd H r = some row) (hp : Qt row.cs = true) (hl : cs.length ≤ row.cs.length) (h : ∀ j, j < cs.length → Gd H (nth row.cs j) (nth cs j)) : Gd H (.ref r 0 n) (.sl n cs)
 | agg (l m : List V) (hl : l.length = m.length) (h : ∀ j, Gd H (nth l j) (nth m j)) : Gd H (.agg l) (.agg m)
 | tup (l m : List V) (hl : l.length = m.length) (h : ∀ j, Gd H (nth l j) (nth m j)) : Gd H (.tup l) (.tup m)
theorem Gd.flat {H : Qa} (r n e s : Nat) (cs : List V) (hr : Qd H r = some ⟨e, s, cs⟩) (hc : Qm cs = true) (hp : Qt cs = true) : Gd H (.ref r 0 n) (.sl n cs) :=
 .ref r n _ cs hr hp (Nat.le_refl _) fun j _ => .leaf _ (Yh hc j) (Ym hp j)
theorem Gd.part {H : Qa} (r n e s m : Nat) (cs : List V) (hr : Qd H r = some ⟨e, s, cs⟩) (hc : Qm cs = true) (hp : Qt cs = true) : Gd H (.ref r 0 n) (.sl n (cs.take m)) :=
 .ref r n _ _ hr hp (by rw [List.length_take]; exact Nat.min_le_right _ _) fun j hj => by
  rw [List.length_take] at hj;rw [Qcv _ _ _ (by omega)]
  exact .leaf _ (Yh hc j) (Ym hp j)
theorem Gd.any (H : Qa) : Gd H .any .any := .leaf _ rfl rfl
def GdL (H : Qa) : List V → List V → Prop
 | [], [] => True
 | a :: l, b :: m => Gd H a b ∧ GdL H l m
 | _, _ => False
theorem GdL.all {H : Qa} : ∀ {l m : List V}, GdL H l m → l.length = m.length ∧ ∀ j, Gd H (nth l j) (nth m j)
 | [], [], _ => ⟨rfl, fun j => by simp [nth]; exact .any H⟩
 | a :: l, b :: m, h => by
  obtain ⟨h1, h2⟩ := GdL.all h.2;refine ⟨by simp [h1], fun j => ?_⟩
  cases j with
  | zero => exact h.1
  | succ j => exact h2 j
 | [], _ :: _, h => h.elim
 | _ :: _, [], h => h.elim
theorem Gd.tupL {H : Qa} {l m : List V} (h : GdL H l m) : Gd H (.tup l) (.tup m) := .tup _ _ h.all.1 h.all.2
theorem Gd.aggL {H : Qa} {l m : List V} (h : GdL H l m) : Gd H (.agg l) (.agg m) := .agg _ _ h.all.1 h.all.2
theorem Qem {l : List V} (h : ∀ j, plain (nth l j) = true) : Qt l = true := by
 induction l with
 | nil => rfl
 | cons a l ih => simp only [Qt, Bool.and_eq_true]; exact ⟨h 0, ih fun j => h (j + 1)⟩
theorem Gd.plain {H : Qa} {v u : V} (h : Gd H v u) : Bv.plain v = true := by
 induction h with
 | leaf v hc hp => exact hp
 | nil => rfl
 | ref => rfl
 | agg l m hl h ih => simp only [Bv.plain]; exact Qem ih
 | tup l m hl h ih => simp only [Bv.plain]; exact Qem ih
theorem Qow {im : Nat → Prop} {pl : Nat → Place} {w : World} {v : V} {c : Value} (h : VR im Zh w v c) : VR im pl w v c := h.places fun r hr => (hr rfl).elim
theorem Gd.bor {H : Qa} {v u : V} (h : Gd H v u) : Bor H v u := by
 induction h with
 | leaf v hc hp => exact .clo v hc
 | nil cs => exact .nil cs
 | ref r n row cs hr hp hl h ih => exact .ref r 0 n row cs hr (by omega) fun j hj => by rw [Nat.zero_add]; exact ih j hj
 | agg l m hl h ih => exact .agg l m hl ih
 | tup l m hl h ih => exact .tup l m hl ih
theorem Gd.VR {im : Nat → Prop} {pl : Nat → Place} {w : World} {H : Qa} (hH : HR im pl w H) {v u : V} (h : Gd H v u) {c : Value} (hv : Bv.VR im pl w v c) : Bv.VR (Qjt im pl) Zh w u c := h.bor.VR hH hv
def Qdy (pl : Nat → Place) : Nat → Place := fun r => match pl r with
 | .no => .no
 | _ => .dead
theorem Qi6 {pl : Nat → Place} {r : Nat} : Qdy pl r = .no ↔ pl r = .no := by unfold Qdy; cases pl r <;> simp
theorem Qbr {pl : Nat → Place} {r b c : Nat} : Qdy pl r ≠ .at b c := by unfold Qdy; cases pl r <;> simp
theorem HR.allDead {im : Nat → Prop} {pl : Nat → Place} {w : World} {H : Qa} (h : HR im pl w H) : HR (Qjt im pl) (Qdy pl) w (H.map fun _ => (Option.none : Option Row)) ∧ Ext im pl w (Qjt im pl) (Qdy pl) w := by
 refine ⟨⟨fun r => ?_, fun b _ r c => Qbr, fun r b c hr => (Qbr hr).elim, fun b hb => ?_, fun r r' b c c' hr => (Qbr hr).elim, fun r hr => ?_, fun r hr => ?_, fun r b c hr => (Qbr hr).elim⟩, ⟨rfl, rfl, rfl, Nat.le_refl _, fun b hb => .inl hb, fun b hb => ?_, fun r hr => ?_, fun r b c hr => (Qbr hr).elim, fun _ _ _ => rfl⟩⟩
 ·rw [List.length_map, h.len r, ne_eq, ne_eq, Qi6]
 ·rcases hb with hb | ⟨r, cap, hb⟩
  ·exact h.imb b hb
  ·exact h.bound r b cap hb
 ·have hlt : r < H.length := (h.len r).2 fun e => by rw [Qi6.2 e] at hr; cases hr
  simp [hlt]
 ·unfold Qdy at hr; cases hp : pl r <;> rw [hp] at hr <;> cases hr
 ·rcases hb with hb | ⟨r, cap, hb⟩
  ·exact .inl hb
  ·exact .inr (.inr ⟨r, cap, hb⟩)
 ·right; unfold Qdy; cases hp : pl r <;> simp_all
def Val (C : Ctx) (f : FuncId) (args : List V) (u : V) : Prop := Fc C f args [] fun v H => Gd H v u ∧ Kj H
theorem Gd.up {im : Nat → Prop} {pl : Nat → Place} {w : World} {H : Qa} {v u : V} {c : Value} (hu : clo u = true) (hv : Gd H v u) (h : Bv.VR im pl w v c) (hH : HR im pl w H) : ∃ im1 pl1 H1, HR im1 pl1 w H1 ∧ Ext im pl w im1 pl1 w ∧ Bv.VR im1 pl1 w u c :=
 ⟨_, _, _, hH.allDead.1, hH.allDead.2, Qow (hv.VR hH h)⟩
theorem Val.call {C : Ctx} {f : FuncId} {args args' : List V} {H : Qa} {K : V → Qa → Prop} {u : V} (h : Val C f args' u) (hb : BorL H args args') (hu : clo u = true) (hK : K u H) : Fc C f args H K :=
 Fc.byVal h hb.all.1 hb.all.2 (fun v H' hv => ⟨hv.1.plain, hv.2⟩) (fun im pl w v H c hq hv hH => hq.1.up hu hv hH) hu hK
theorem Val.pc {C : Ctx} {H0 : Qa} {f : FuncId} {args args' : List V} {H : Qa} {K : V → Qa → Prop} {u : V} (h : Val C f args' u) (hb : BorL H args args') (hu : clo u = true) (hK : K u H) : Pc C H0 f args H K :=
 Pc.byVal (h.call hb hu ⟨rfl, rfl⟩) hK
theorem Val.ofPu {C : Ctx} {f : FuncId} {args : List V} {u : V} (h : Pu C f args u) (hc : clo u = true) (hp : plain u = true) : Val C f args u :=
 h.mono fun v H hv => by obtain ⟨rfl, rfl⟩ := hv; exact ⟨.leaf _ hc hp, fun r row hr => by simp at hr⟩
def Qrq (H : Qa) (r : Nat) : Bool := match Qd H r with
 | some row => Qt row.cs
 | none => false
def Qbp (H : Qa) : List Nat := (List.range H.length).filter (Qrq H)
mutual
theorem Qnd (g : Nat → Option Nat) : ∀ v : V, plain v = true → plain (ren g v) = true
 | .any, _ => rfl
 | .int _ _, _ => rfl
 | .bool _, _ => rfl
 | .str _, _ => rfl
 | .nil, _ => rfl
 | .sl n cs, h => by simpa [ren, plain] using h
 | .ref r off n, _ => by simp only [ren]; split <;> rfl
 | .agg cs, h => by simp only [plain] at h; simp only [ren, plain]; exact Yk g cs h
 | .tup cs, h => by simp only [plain] at h; simp only [ren, plain]; exact Yk g cs h
 | .ptr r off, _ => by simp only [ren]; split <;> rfl
 | .nilp, _ => rfl
 | .rp cs off, h => by simp [plain] at h
 | .fn f xs ys, h => by simp only [plain, Bool.and_eq_true] at h; simp only [ren, plain, Bool.and_eq_true]; exact ⟨Yk g xs h.1, Yk g ys h.2⟩
 | .nilf, _ => rfl
theorem Yk (g : Nat → Option Nat) : ∀ l : List V, Qt l = true → Qt (Qf g l) = true
 | [], _ => rfl
 | v :: l, h => by simp only [Qt, Bool.and_eq_true] at h; simp only [Qf, Qt, Bool.and_eq_true]; exact ⟨Qnd g v h.1, Yk g l h.2⟩
end
theorem Qtx {l : List Nat} {r : Nat} (h : r ∈ l) : ∃ i, pos l r = some i := by
 induction l with
 | nil => cases h
 | cons a l ih =>
  by_cases e : a = r
  ·exact ⟨0, by simp [pos, e]⟩
  ·rcases List.mem_cons.1 h with h | h
   ·exact (e h.symm).elim
   ·obtain ⟨i, hi⟩ := ih h;exact ⟨i + 1, by simp [pos, e, hi]⟩
theorem Zw (g : Nat → Option Nat) (l : List V) : (Qf g l).length = l.length := by rw [Qcn, List.length_map]
theorem Qod {H : Qa} {r : Nat} {row : Row} (hr : Qd H r = some row) (hp : Qt row.cs = true) : r ∈ Qbp H := by
 simp only [Qbp, List.mem_filter, List.mem_range];exact ⟨Yq hr, by simp [Qrq, hr, hp]⟩
theorem Gd.keep {H : Qa} {v u : V} (h : Gd H v u) : Gd (Qan (Qbp H) H) (ren (pos (Qbp H)) v) u := by
 induction h with
 | leaf v hc hp => rw [Zv _ v hc]; exact .leaf v hc hp
 | nil cs => exact .nil cs
 | ref r n row cs hr hp hl h ih =>
  obtain ⟨i, hi⟩ := Qtx (Qod hr hp)
  have hg := Qel hi
  have : Qd (Qan (Qbp H) H) i = some (Yo (pos (Qbp H)) row) := by
   simp [Qd, Qan, hg]
   have h1 := Qr hr
   rw [h1];simp
  simp only [ren, hi];exact .ref i n _ cs this (Yk _ _ hp) (by simpa [Yo, Zw] using hl) fun j hj => by
   simp only [Yo, Xl]; exact ih j hj
 | agg l m hl h ih => simp only [ren]; exact .agg _ _ (by rw [Zw]; exact hl) fun j => by rw [Xl]; exact ih j
 | tup l m hl h ih => simp only [ren]; exact .tup _ _ (by rw [Zw]; exact hl) fun j => by rw [Xl]; exact ih j
theorem Qi3 (H : Qa) : Kj (Qan (Qbp H) H) := by
 intro i row hr;simp only [Qan, List.getElem?_map, Option.map_eq_some_iff] at hr;obtain ⟨r, hr1, hr2⟩ := hr
 have hm : r ∈ Qbp H := List.mem_of_getElem? hr1
 simp only [Qbp, List.mem_filter, Qrq] at hm;obtain ⟨row0, h0, rfl⟩ := hr2;rw [h0] at hm;simp only [Yo];exact Yk _ _ hm.2
theorem Gd.ret {H : Qa} {v u : V} (h : Gd H v u) : ∃ sel, Jx sel (fun v H => Gd H v u ∧ Kj H) v H := by
 refine ⟨Qbp H, List.nodup_range.filter _, fun r hr => ?_, h.keep, Qi3 H⟩
 simp only [Qbp, List.mem_filter, List.mem_range] at hr;exact hr.1
theorem IsZ.gd {e s : Nat} {H : Qa} {v : V} {n : Nat} {cs : List V} (h : IsZ e s H v n cs) (hc : Qm cs = true) (hp : Qt cs = true) : Gd H v (.sl n cs) := by
 rcases h with ⟨rfl, rfl, rfl⟩ | ⟨rfl, rfl, rfl⟩ | ⟨r, rfl, h2, _⟩
 ·exact .leaf _ rfl rfl
 ·exact .nil _
 ·exact .flat r n e s cs h2 hc hp
theorem Gd.shift {H H' : Qa} {v u : V} (h : Gd H' v u) : Gd (H ++ Jt (shift H.length) H') (ren (shift H.length) v) u := by
 induction h with
 | leaf v hc hp => rw [Zv _ v hc]; exact .leaf v hc hp
 | nil cs => exact .nil cs
 | ref r n row cs hr hp hl h ih =>
  have := Qc9 (H := H) (Bv.shift H.length) hr
  exact .ref (r + H.length) n _ cs this (Yk _ _ hp) (by simpa [Yo, Zw] using hl) fun j hj => by
   simp only [Yo, Xl]; exact ih j hj
 | agg l m hl h ih => simp only [ren]; exact .agg _ _ (by rw [Zw]; exact hl) fun j => by rw [Xl]; exact ih j
 | tup l m hl h ih => simp only [ren]; exact .tup _ _ (by rw [Zw]; exact hl) fun j => by rw [Xl]; exact ih j
theorem Gd.tup_inv {H : Qa} {v : V} {m : List V} (h : Gd H v (.tup m)) : ∃ l, v = .tup l ∧ l.length = m.length ∧ ∀ j, Gd H (nth l j) (nth m j) := by
 cases h with
 | leaf _ hc hp =>
  simp only [clo] at hc;simp only [Bv.plain] at hp;exact ⟨m, rfl, rfl, fun j => .leaf _ (Yh hc j) (Ym hp j)⟩
 | tup l _ hl h => exact ⟨l, rfl, hl, h⟩
theorem Gd.tup2 {H : Qa} {v a b : V} (h : Gd H v (.tup [a, b])) : ∃ x y, v = .tup [x, y] ∧ Gd H x a ∧ Gd H y b := by
 obtain ⟨l, rfl, hl, h⟩ := h.tup_inv
 match l, hl with
 | [x, y], _ => exact ⟨x, y, rfl, h 0, h 1⟩
theorem Gd.int_inv {H : Qa} {v : V} {k : IntKind} {n : Int} (h : Gd H v (.int k n)) : v = .int k n := by cases h; rfl
theorem Gd.more {H : Qa} {v u : V} (h : Gd H v u) {H' : Qa} (hk : Keep H H') : Gd H' v u := by
 induction h with
 | leaf v hc hp => exact .leaf v hc hp
 | nil cs => exact .nil cs
 | ref r n row cs hr hp hl h ih => exact .ref r n row cs (hk _ _ hr) hp hl ih
 | agg l m hl h ih => exact .agg l m hl ih
 | tup l m hl h ih => exact .tup l m hl ih
def GdF (n : Nat) (H : Qa) (v u : V) : Prop := ∀ H2 : Qa, (∀ r row, n ≤ r → Qd H r = some row → Qd H2 r = some row) → Gd H2 v u
theorem GdF.gd {n : Nat} {H : Qa} {v u : V} (h : GdF n H v u) : Gd H v u := h H fun _ _ _ hr => hr
theorem GdF.bor {n : Nat} {H : Qa} {v u : V} (h : GdF n H v u) : Bor H v u := h.gd.bor
theorem GdF.far {n : Nat} {H H' : Qa} {v u : V} (h : GdF n H v u) (hk : ∀ r row, n ≤ r → Qd H r = some row → Qd H' r = some row) : GdF n H' v u := fun H2 h2 => h H2 fun r row hn hr => h2 r row hn (hk r row hn hr)
theorem GdF.app {n : Nat} {H : Qa} {v u : V} (h : GdF n H v u) (X : Qa) : GdF n (H ++ X) v u := h.far fun r row _ hr => Qy hr _
theorem GdF.set {n : Nat} {H : Qa} {v u : V} (h : GdF n H v u) {q : Nat} (hq : q < n) (z : Option Row) : GdF n (H.set q z) v u := h.far fun r row hn hr => by rw [Qo _ (by omega)]; exact hr
theorem GdF.of {H : Qa} {v u : V} (h : Gd H v u) : GdF 0 H v u := fun H2 h2 => h.more fun r row hr => h2 r row (Nat.zero_le _) hr
theorem GdF.self {n : Nat} {H : Qa} {v : V} (hc : clo v = true) (hp : plain v = true) : GdF n H v v := fun H2 h2 => .leaf v hc hp
theorem Gd.shiftF {H H' : Qa} {v u : V} (h : Gd H' v u) : GdF H.length (H ++ Jt (Bv.shift H.length) H') (ren (Bv.shift H.length) v) u := by
 induction h with
 | leaf v hc hp => intro H2 h2; rw [Zv _ v hc]; exact .leaf v hc hp
 | nil cs => intro H2 h2; exact .nil cs
 | ref r n row cs hr hp hl h ih =>
  intro H2 h2
  have := Qc9 (H := H) (Bv.shift H.length) hr
  exact .ref (r + H.length) n _ cs (h2 _ _ (Nat.le_add_left _ _) this) (Yk _ _ hp) (by simpa [Yo, Zw] using hl) fun j hj => by
   simp only [Yo, Xl]; exact ih j hj H2 h2
 | agg l m hl h ih => intro H2 h2; simp only [ren]; exact .agg _ _ (by rw [Zw]; exact hl) fun j => by rw [Xl]; exact ih j H2 h2
 | tup l m hl h ih => intro H2 h2; simp only [ren]; exact .tup _ _ (by rw [Zw]; exact hl) fun j => by rw [Xl]; exact ih j H2 h2
theorem Val.keptF {C : Ctx} {f : FuncId} {args args' : List V} {H : Qa} {K : V → Qa → Prop} {u : V} (h : Val C f args' u) (hb : BorL H args args') (hK : ∀ v X, GdF H.length (H ++ X) v u → K v (H ++ X)) : Fc C f args H K :=
 Fc.borrow h hb.all.1 hb.all.2 (fun v H' hv => ⟨hv.1.plain, hv.2⟩) fun v H' hv => hK _ _ hv.1.shiftF
theorem Pc.keptF {C : Ctx} {H0 : Qa} {f : FuncId} {args args' : List V} {H : Qa} {K : V → Qa → Prop} {u : V} (h : Val C f args' u) (hs : ∃ v H, Gd H v u ∧ Kj H) (hb : BorL H args args') (hK : ∀ v X, GdF H.length (H ++ X) v u → K v (H ++ X)) : Pc C H0 f args H K :=
 Pc.borrow h hs hb.all.1 hb.all.2 (fun v H' hv => ⟨hv.1.plain, hv.2⟩) fun v H' hv => hK _ _ hv.1.shiftF
theorem GdF.tup2 {n : Nat} {H : Qa} {v a b : V} (h : GdF n H v (.tup [a, b])) : ∃ x y, v = .tup [x, y] ∧ GdF n H x a ∧ GdF n H y b := by
 obtain ⟨x, y, rfl, _, _⟩ := h.gd.tup2;refine ⟨x, y, rfl, fun H2 h2 => ?_, fun H2 h2 => ?_⟩
 ·obtain ⟨x', y', e, h3, h4⟩ := (h H2 h2).tup2;injection e with e; injection e with e1 e2; rw [e1]; exact h3
 ·obtain ⟨x', y', e, h3, h4⟩ := (h H2 h2).tup2;injection e with e; injection e with e1 e2; injection e2 with e2; rw [e2]; exact h4
def Cel (b e s : Nat) (H : Qa) (v : V) (n : Nat) (us : List V) : Prop :=
 ∃ cs, Own e s H v n cs ∧ (∀ r off m, v = .ref r off m → b ≤ r) ∧ cs.length = us.length ∧ Qt cs = true ∧ cs.all Xx = true ∧
  ∀ H2 : Qa, (∀ q row, b ≤ q → (∀ off m, v ≠ .ref q off m) → Qd H q = some row → Qd H2 q = some row) → ∀ j, Gd H2 (nth cs j) (nth us j)
theorem Cel.nil (b e s : Nat) (H : Qa) : Cel b e s H .nil 0 [] :=
 ⟨[], .inl ⟨rfl, rfl, rfl⟩, fun r off m h => (by cases h), rfl, rfl, rfl, fun H2 _ j => Gd.any _⟩
theorem Cel.gd {b e s : Nat} {H : Qa} {v : V} {n : Nat} {us : List V} (h : Cel b e s H v n us) : Gd H v (.sl n us) := by
 obtain ⟨cs, hO, hb, hl, hp, hs, hG⟩ := h;rcases hO with ⟨rfl, rfl, rfl⟩ | ⟨r, rfl, h2, h3⟩
 ·exact .nil _
 ·exact .ref r n _ us h2 hp (Nat.le_of_eq hl.symm) fun j _ => hG H (fun q row _ _ hq => hq) j
theorem Cel.far {b e s : Nat} {H H' : Qa} {v : V} {n : Nat} {us : List V} (h : Cel b e s H v n us) (hk : ∀ q row, b ≤ q → Qd H q = some row → Qd H' q = some row) : Cel b e s H' v n us := by
 obtain ⟨cs, hO, hb, hl, hp, hs, hG⟩ := h;refine ⟨cs, ?_, hb, hl, hp, hs, fun H2 h2 j => hG H2 (fun q row hq hv hr => h2 q row hq hv (hk q row hq hr)) j⟩
 rcases hO with hO | ⟨r, rfl, h2, h3⟩
 ·exact .inl hO
 ·exact .inr ⟨r, rfl, hk _ _ (hb r 0 n rfl) h2, h3⟩
theorem Cel.app {b e s : Nat} {H : Qa} {v : V} {n : Nat} {us : List V} (h : Cel b e s H v n us) (X : Qa) : Cel b e s (H ++ X) v n us := h.far fun q row _ hr => Qy hr _
theorem Cel.set {b e s : Nat} {H : Qa} {v : V} {n : Nat} {us : List V} (h : Cel b e s H v n us) {q : Nat} (hq : q < b) (z : Option Row) : Cel b e s (H.set q z) v n us := h.far fun r row hr h1 => by rw [Qo _ (by omega)]; exact h1
theorem Cel.lenw {b e s : Nat} {H : Qa} {v : V} {n : Nat} {us : List V} (h : Cel b e s H v n us) (y : Ty) (KP : V → Prop) : lenw y v KP = (y.sl.isSome = true ∧ KP (.int .i64 n)) := by
 obtain ⟨cs, hO, _⟩ := h;exact hO.lenw y KP
theorem Cel.kn {b e s : Nat} {H : Qa} {v : V} {n : Nat} {us : List V} (h : Cel b e s H v n us) : kn v = true ∧ cellsOf v = [v] ∧ Xx v = true := by
 obtain ⟨cs, hO, _⟩ := h;rcases hO with ⟨rfl, _⟩ | ⟨r, rfl, _⟩
 ·exact ⟨rfl, rfl, rfl⟩
 ·exact ⟨rfl, rfl, rfl⟩
def Far (b : Nat) (v : V) (H : Qa) (ns ms : List V) : Prop := ∀ H2 : Qa, (∀ q row, b ≤ q → (∀ off m, v ≠ .ref q off m) → Qd H q = some row → Qd H2 q = some row) → ∀ j, Gd H2 (nth ns j) (nth ms j)
theorem Far.nil (b : Nat) (v : V) (H : Qa) : Far b v H [] [] := fun H2 _ j => Gd.any _
theorem Far.cons {b : Nat} {v : V} {H : Qa} {x u : V} {ns ms : List V} (h : ∀ H2 : Qa, (∀ q row, b ≤ q → (∀ off m, v ≠ .ref q off m) → Qd H q = some row → Qd H2 q = some row) → Gd H2 x u) (hr : Far b v H ns ms) : Far b v H (x :: ns) (u :: ms) := fun H2 h2 j => by
 cases j with
 | zero => exact h H2 h2
 | succ j => exact hr H2 h2 j
theorem Far.self {b : Nat} {v : V} {H : Qa} {x : V} {ns ms : List V} (hc : clo x = true) (hp : plain x = true) (hr : Far b v H ns ms) : Far b v H (x :: ns) (x :: ms) := .cons (fun H2 _ => .leaf _ hc hp) hr
theorem Cel.lt {b e s : Nat} {H : Qa} {v : V} {n : Nat} {us : List V} (h : Cel b e s H v n us) : ∀ r off m, v = .ref r off m → r < H.length := by
 obtain ⟨cs, hO, _⟩ := h;intro r off m hv;rcases hO with ⟨rfl, _⟩ | ⟨r', rfl, h2, _⟩
 ·cases hv
 ·injection hv with hv; subst hv; exact Yq h2
theorem Cel.ne {b e s : Nat} {H : Qa} {v : V} {n : Nat} {us : List V} (h : Cel b e s H v n us) {q : Nat} (hq : q < b) : ∀ off m, v ≠ .ref q off m := by
 obtain ⟨cs, _, hb, _⟩ := h;intro off m hv
 have := hb q off m hv
 omega
theorem Qgb (a b : List V) (j : Nat) : nth (a ++ b) j = if j < a.length then nth a j else nth b (j - a.length) := Xh a b j
theorem Cel.append {y : Ty} {b e e' s' n : Nat} {H : Qa} {v : V} {us ns ms : List V} {K : V → Qa → Prop} (h : Cel b e y.size H v n us) (hb : b ≤ H.length) (hl : ns.length = y.size) (hm : ms.length = ns.length) (hp : Qt ns = true) (hs : ns.all Xx = true) (hF : Far b v H ns ms)
  (hy : 0 < y.size) (hby : 0 < y.bytes ∧ y.bytes ≤ 1000) (hn : n + 1 ≤ 100000000000) (hK : ∀ v' H', Cel b e y.size H' v' (n + 1) (us ++ ms) → (∀ q row, (∀ off m, v ≠ .ref q off m) → Qd H q = some row → Qd H' q = some row) → H'.length = H.length + 2 → v' = .ref (H.length + 1) 0 (n + 1) → K v' H') :
  Jr y e v (.ref H.length 0 1) (H ++ [some ⟨e', s', ns⟩]) K := by
 obtain ⟨cs, hO, hb2, hl2, hp2, hs2, hG⟩ := h;refine Qsp hO (by rw [hl, Nat.one_mul]) hs hy hby.1 (by have := Nat.mul_le_mul hn hby.2; omega) hs2 fun H' k1 k2 k3 => ?_
 refine hK _ H' ⟨cs ++ ns, k1, fun r off m e => by injection e with e; omega, by simp [hl2, hm], ?_, by simp [hs2, hs], fun H2 h2 j => ?_⟩ (fun q row hq hr => k2 q row hq hr) k3 rfl
 ·have : ∀ (a c : List V), Qt a = true → Qt c = true → Qt (a ++ c) = true := fun a c ha hc => by
   induction a with
   | nil => exact hc
   | cons x a ih =>
    simp only [Qt, Bool.and_eq_true] at ha;simp only [List.cons_append, Qt, Bool.and_eq_true];exact ⟨ha.1, ih ha.2⟩
  exact this _ _ hp2 hp
 ·have hcond : ∀ q row, b ≤ q → (∀ off m, v ≠ .ref q off m) → Qd H q = some row → Qd H2 q = some row := fun q row hq hv hr => by
   have hlt := Yq hr
   exact h2 q row hq (fun off m e => by injection e with e; omega) (k2 q row hv hr)
  rw [Qgb, Qgb, hl2];split
  ·exact hG H2 hcond j
  ·exact hF H2 hcond _
theorem Cel.one {b e s n : Nat} {H : Qa} {v : V} {cs : List V} (h : Own e s H v n cs) (hb : ∀ r off m, v = .ref r off m → b ≤ r) (hc : Qm cs = true) (hp : Qt cs = true) (hs : cs.all Xx = true) : Cel b e s H v n cs :=
 ⟨cs, h, hb, rfl, hp, hs, fun H2 _ j => .leaf _ (Yh hc j) (Ym hp j)⟩
mutual
theorem Qv6 (r : Nat) (cs : List V) : ∀ v : V, clo v = true → sz r cs v = v
 | .any, _ => rfl
 | .int _ _, _ => rfl
 | .bool _, _ => rfl
 | .str _, _ => rfl
 | .nil, _ => rfl
 | .sl n l, h => by simp only [sz, Qa4 r cs l h]
 | .ref _ _ _, h => by cases h
 | .agg l, h => by simp only [sz, Qa4 r cs l h]
 | .tup l, h => by simp only [sz, Qa4 r cs l h]
 | .ptr _ _, h => by cases h
 | .nilp, _ => rfl
 | .rp l off, h => by simp only [sz, Qa4 r cs l h]
 | .fn f xs ys, h => by
  simp only [clo, Bool.and_eq_true] at h;simp only [sz, Qa4 r cs xs h.1, Qa4 r cs ys h.2]
 | .nilf, _ => rfl
theorem Qa4 (r : Nat) (cs : List V) : ∀ l : List V, Qm l = true → szL r cs l = l
 | [], _ => rfl
 | v :: l, h => by
  simp only [Qm, Bool.and_eq_true] at h;simp only [szL, Qv6 r cs v h.1, Qa4 r cs l h.2]
end
def GdIn (n m : Nat) (H : Qa) (v u : V) : Prop := ∀ H2 : Qa, (∀ r row, n ≤ r → r < m → Qd H r = some row → Qd H2 r = some row) → Gd H2 v u
theorem GdIn.gd {n m : Nat} {H : Qa} {v u : V} (h : GdIn n m H v u) : Gd H v u := h H fun _ _ _ _ hr => hr
theorem GdIn.far {n m : Nat} {H H' : Qa} {v u : V} (h : GdIn n m H v u) (hk : ∀ r row, n ≤ r → r < m → Qd H r = some row → Qd H' r = some row) : GdIn n m H' v u := fun H2 h2 => h H2 fun r row hn hm hr => h2 r row hn hm (hk r row hn hm hr)
theorem GdIn.app {n m : Nat} {H : Qa} {v u : V} (h : GdIn n m H v u) (X : Qa) : GdIn n m (H ++ X) v u := h.far fun r row _ _ hr => Qy hr _
theorem GdIn.set {n m : Nat} {H : Qa} {v u : V} (h : GdIn n m H v u) {q : Nat} (hq : q < n ∨ m ≤ q) (z : Option Row) : GdIn n m (H.set q z) v u := h.far fun r row hn hm hr => by rw [Qo _ (by omega)]; exact hr
def BorLs (H : Qa) : List V → List V → Prop
 | [], [] => True
 | a :: l, b :: m => Bor H a b ∧ BorLs H l m
 | _, _ => False
theorem BorLs.all {H : Qa} : ∀ {l m : List V}, BorLs H l m → l.length = m.length ∧ ∀ j, Bor H (nth l j) (nth m j)
 | [], [], _ => ⟨rfl, fun j => by simp [nth]; exact .any⟩
 | a :: l, b :: m, h => by
  obtain ⟨h1, h2⟩ := BorLs.all h.2;refine ⟨by simp [h1], fun j => ?_⟩
  cases j with
  | zero => exact h.1
  | succ j => exact h2 j
 | [], _ :: _, h => h.elim
 | _ :: _, [], h => h.elim
theorem Bor.tupL {H : Qa} {l m : List V} (h : BorLs H l m) : Bor H (.tup l) (.tup m) := .tup _ _ h.all.1 h.all.2
theorem Bor.aggL {H : Qa} {l m : List V} (h : BorLs H l m) : Bor H (.agg l) (.agg m) := .agg _ _ h.all.1 h.all.2
end Go.Bv
end
section
namespace Go.Proofs.Ytlomgfdepllanaa
open Go.Bv
noncomputable def y1 : Ty := { z := .nilFunc, size := 1, bytes := 8, agg := false, sl := none, arr := none, fs := [] }
theorem y1_ok : OKt Try.prog 1 y1 := ⟨by kernel_rfl, ⟨_, Try.underlying1, rfl, rfl, rfl, rfl, rfl, rfl, rfl⟩, fun _ => rfl, rfl⟩
noncomputable def y2 : Ty := { z := (.int .i64 0), size := 1, bytes := 8, agg := false, sl := none, arr := none, fs := [], ik := some .i64 }
theorem y2_ok : OKt Try.prog 2 y2 := ⟨by kernel_rfl, ⟨_, Try.underlying2, rfl, rfl, rfl, rfl, rfl, rfl, rfl⟩, fun _ => rfl, rfl⟩
noncomputable def y3 : Ty := { z := (.int .i64 0), size := 1, bytes := 8, agg := false, sl := none, arr := none, fs := [], ik := some .i64 }
theorem y3_ok : OKt Try.prog 3 y3 := ⟨by kernel_rfl, ⟨_, Try.underlying3, rfl, rfl, rfl, rfl, rfl, rfl, rfl⟩, fun _ => rfl, rfl⟩
noncomputable def y4 : Ty := { z := (.bool false), size := 1, bytes := 1, agg := false, sl := none, arr := none, fs := [], bl := true }
theorem y4_ok : OKt Try.prog 4 y4 := ⟨by kernel_rfl, ⟨_, Try.underlying4, rfl, rfl, rfl, rfl, rfl, rfl, rfl⟩, fun _ => rfl, rfl⟩
noncomputable def y5 : Ty := { z := (.int .u8 0), size := 1, bytes := 1, agg := false, sl := none, arr := none, fs := [], ik := some .u8 }
theorem y5_ok : OKt Try.prog 5 y5 := ⟨by kernel_rfl, ⟨_, Try.underlying5, rfl, rfl, rfl, rfl, rfl, rfl, rfl⟩, fun _ => rfl, rfl⟩
noncomputable def y6 : Ty := { z := (.int .u8 0), size := 1, bytes := 1, agg := false, sl := none, arr := none, fs := [], ik := some .u8 }
theorem y6_ok : OKt Try.prog 6 y6 := ⟨by kernel_rfl, ⟨_, Try.underlying6, rfl, rfl, rfl, rfl, rfl, rfl, rfl⟩, fun _ => rfl, rfl⟩
noncomputable def y7 : Ty := { z := (.agg #[(.int .i64 0), (.int .i64 0), (.bool false), (.int .u8 0)]), size := 4, bytes := 24, agg := true, sl := none, arr := none, fs := [(0, 2), (1, 3), (2, 4), (3, 6)] }
theorem y7_ok : OKt Try.prog 7 y7 := ⟨by kernel_rfl, ⟨_, Try.underlying7, rfl, rfl, rfl, rfl, rfl, rfl, rfl⟩, (fun h => by cases h), rfl⟩
noncomputable def y8 : Ty := { z := (.agg #[(.int .i64 0), (.int .i64 0), (.bool false), (.int .u8 0)]), size := 4, bytes := 24, agg := true, sl := none, arr := none, fs := [(0, 2), (1, 3), (2, 4), (3, 6)] }
theorem y8_ok : OKt Try.prog 8 y8 := ⟨by kernel_rfl, ⟨_, Try.underlying8, rfl, rfl, rfl, rfl, rfl, rfl, rfl⟩, (fun h => by cases h), rfl⟩
noncomputable def y9 : Ty := { z := (.string ⟨#[]⟩), size := 1, bytes := 16, agg := false, sl := none, arr := none, fs := [], str := true }
theorem y9_ok : OKt Try.prog 9 y9 := ⟨by kernel_rfl, ⟨_, Try.underlying9, rfl, rfl, rfl, rfl, rfl, rfl, rfl⟩, fun _ => rfl, rfl⟩
noncomputable def y10 : Ty := { z := (.string ⟨#[]⟩), size := 1, bytes := 16, agg := false, sl := none, arr := none, fs := [], str := true }
theorem y10_ok : OKt Try.prog 10 y10 := ⟨by kernel_rfl, ⟨_, Try.underlying10, rfl, rfl, rfl, rfl, rfl, rfl, rfl⟩, fun _ => rfl, rfl⟩
noncomputable def y11 : Ty := { z := (.string ⟨#[]⟩), size := 1, bytes := 16, agg := false, sl := none, arr := none, fs := [], str := true }
theorem y11_ok : OKt Try.prog 11 y11 := ⟨by kernel_rfl, ⟨_, Try.underlying11, rfl, rfl, rfl, rfl, rfl, rfl, rfl⟩, fun _ => rfl, rfl⟩
noncomputable def y12 : Ty := { z := (.int .u64 0), size := 1, bytes := 8, agg := false, sl := none, arr := none, fs := [], ik := some .u64 }
theorem y12_ok : OKt Try.prog 12 y12 := ⟨by kernel_rfl, ⟨_, Try.underlying12, rfl, rfl, rfl, rfl, rfl, rfl, rfl⟩, fun _ => rfl, rfl⟩
noncomputable def y13 : Ty := { z := (.agg #[(.string ⟨#[]⟩), (.int .u64 0)]), size := 2, bytes := 24, agg := true, sl := none, arr := none, fs := [(0, 9), (1, 12)] }
theorem y13_ok : OKt Try.prog 13 y13 := ⟨by kernel_rfl, ⟨_, Try.underlying13, rfl, rfl, rfl, rfl, rfl, rfl, rfl⟩, (fun h => by cases h), rfl⟩
noncomputable def y14 : Ty := { z := (.agg #[(.string ⟨#[]⟩), (.int .u64 0)]), size := 2, bytes := 24, agg := true, sl := none, arr := none, fs := [(0, 9), (1, 12)] }
theorem y14_ok : OKt Try.prog 14 y14 := ⟨by kernel_rfl, ⟨_, Try.underlying14, rfl, rfl, rfl, rfl, rfl, rfl, rfl⟩, (fun h => by cases h), rfl⟩
noncomputable def y15 : Ty := { z := (.pointer none), size := 1, bytes := 8, agg := false, sl := none, arr := none, fs := [] }
theorem y15_ok : OKt Try.prog 15 y15 := ⟨by kernel_rfl, ⟨_, Try.underlying15, rfl, rfl, rfl, rfl, rfl, rfl, rfl⟩, fun _ => rfl, rfl⟩
noncomputable def y16 : Ty := { z := (.pointer none), size := 1, bytes := 8, agg := false, sl := none, arr := none, fs := [] }
theorem y16_ok : OKt Try.prog 16 y16 := ⟨by kernel_rfl, ⟨_, Try.underlying16, rfl, rfl, rfl, rfl, rfl, rfl, rfl⟩, fun _ => rfl, rfl⟩
noncomputable def y17 : Ty := { z := (.pointer none), size := 1, bytes := 8, agg := false, sl := none, arr := none, fs := [] }
theorem y17_ok : OKt Try.prog 17 y17 := ⟨by kernel_rfl, ⟨_, Try.underlying17, rfl, rfl, rfl, rfl, rfl, rfl, rfl⟩, fun _ => rfl, rfl⟩
noncomputable def y18 : Ty := { z := (.agg #[(.pointer none)]), size := 1, bytes := 8, agg := true, sl := none, arr := none, fs := [(0, 17)] }
theorem y18_ok : OKt Try.prog 18 y18 := ⟨by kernel_rfl, ⟨_, Try.underlying18, rfl, rfl, rfl, rfl, rfl, rfl, rfl⟩, (fun h => by cases h), rfl⟩
noncomputable def y19 : Ty := { z := (.agg #[(.pointer none)]), size := 1, bytes := 8, agg := true, sl := none, arr := none, fs := [(0, 17)] }
theorem y19_ok : OKt Try.prog 19 y19 := ⟨by kernel_rfl, ⟨_, Try.underlying19, rfl, rfl, rfl, rfl, rfl, rfl, rfl⟩, (fun h => by cases h), rfl⟩
noncomputable def y21 : Ty := { z := (.int .i32 0), size := 1, bytes := 4, agg := false, sl := none, arr := none, fs := [], ik := some .i32 }
theorem y21_ok : OKt Try.prog 21 y21 := ⟨by kernel_rfl, ⟨_, Try.underlying21, rfl, rfl, rfl, rfl, rfl, rfl, rfl⟩, fun _ => rfl, rfl⟩
noncomputable def y22 : Ty := { z := (.int .i64 0), size := 1, bytes := 8, agg := false, sl := none, arr := none, fs := [], ik := some .i64 }
theorem y22_ok : OKt Try.prog 22 y22 := ⟨by kernel_rfl, ⟨_, Try.underlying22, rfl, rfl, rfl, rfl, rfl, rfl, rfl⟩, fun _ => rfl, rfl⟩
noncomputable def y23 : Ty := { z := (.slice none 0 0), size := 1, bytes := 24, agg := false, sl := some 3, arr := none, fs := [] }
theorem y23_ok : OKt Try.prog 23 y23 := ⟨by kernel_rfl, ⟨_, Try.underlying23, rfl, rfl, rfl, rfl, rfl, rfl, rfl⟩, fun _ => rfl, rfl⟩
noncomputable def y24 : Ty := { z := (.agg #[(.int .i64 0), (.slice none 0 0), (.slice none 0 0)]), size := 3, bytes := 56, agg := true, sl := none, arr := none, fs := [(0, 22), (1, 23), (2, 23)] }
theorem y24_ok : OKt Try.prog 24 y24 := ⟨by kernel_rfl, ⟨_, Try.underlying24, rfl, rfl, rfl, rfl, rfl, rfl, rfl⟩, (fun h => by cases h), rfl⟩
noncomputable def y25 : Ty := { z := (.agg #[(.int .i64 0), (.slice none 0 0), (.slice none 0 0)]), size := 3, bytes := 56, agg := true, sl := none, arr := none, fs := [(0, 22), (1, 23), (2, 23)] }
theorem y25_ok : OKt Try.prog 25 y25 := ⟨by kernel_rfl, ⟨_, Try.underlying25, rfl, rfl, rfl, rfl, rfl, rfl, rfl⟩, (fun h => by cases h), rfl⟩
noncomputable def y26 : Ty := { z := (.slice none 0 0), size := 1, bytes := 24, agg := false, sl := some 28, arr := none, fs := [] }
theorem y26_ok : OKt Try.prog 26 y26 := ⟨by kernel_rfl, ⟨_, Try.underlying26, rfl, rfl, rfl, rfl, rfl, rfl, rfl⟩, fun _ => rfl, rfl⟩
noncomputable def y27 : Ty := { z := .nilFunc, size := 1, bytes := 8, agg := false, sl := none, arr := none, fs := [] }
theorem y27_ok : OKt Try.prog 27 y27 := ⟨by kernel_rfl, ⟨_, Try.underlying27, rfl, rfl, rfl, rfl, rfl, rfl, rfl⟩, fun _ => rfl, rfl⟩
noncomputable def y28 : Ty := { z := (.slice none 0 0), size := 1, bytes := 24, agg := false, sl := some 3, arr := none, fs := [] }
theorem y28_ok : OKt Try.prog 28 y28 := ⟨by kernel_rfl, ⟨_, Try.underlying28, rfl, rfl, rfl, rfl, rfl, rfl, rfl⟩, fun _ => rfl, rfl⟩
noncomputable def y29 : Ty := { z := (.int .i64 0), size := 1, bytes := 8, agg := false, sl := none, arr := none, fs := [], ik := some .i64 }
theorem y29_ok : OKt Try.prog 29 y29 := ⟨by kernel_rfl, ⟨_, Try.underlying29, rfl, rfl, rfl, rfl, rfl, rfl, rfl⟩, fun _ => rfl, rfl⟩
noncomputable def y31 : Ty := { z := .nilFunc, size := 1, bytes := 8, agg := false, sl := none, arr := none, fs := [] }
theorem y31_ok : OKt Try.prog 31 y31 := ⟨by kernel_rfl, ⟨_, Try.underlying31, rfl, rfl, rfl, rfl, rfl, rfl, rfl⟩, fun _ => rfl, rfl⟩
noncomputable def y33 : Ty := { z := .nilFunc, size := 1, bytes := 8, agg := false, sl := none, arr := none, fs := [] }
theorem y33_ok : OKt Try.prog 33 y33 := ⟨by kernel_rfl, ⟨_, Try.underlying33, rfl, rfl, rfl, rfl, rfl, rfl, rfl⟩, fun _ => rfl, rfl⟩
noncomputable def y34 : Ty := { z := (.slice none 0 0), size := 1, bytes := 24, agg := false, sl := some 23, arr := none, fs := [] }
theorem y34_ok : OKt Try.prog 34 y34 := ⟨by kernel_rfl, ⟨_, Try.underlying34, rfl, rfl, rfl, rfl, rfl, rfl, rfl⟩, fun _ => rfl, rfl⟩
noncomputable def y35 : Ty := { z := .nilFunc, size := 1, bytes := 8, agg := false, sl := none, arr := none, fs := [] }
theorem y35_ok : OKt Try.prog 35 y35 := ⟨by kernel_rfl, ⟨_, Try.underlying35, rfl, rfl, rfl, rfl, rfl, rfl, rfl⟩, fun _ => rfl, rfl⟩
noncomputable def y36 : Ty := { z := .nilFunc, size := 1, bytes := 8, agg := false, sl := none, arr := none, fs := [] }
theorem y36_ok : OKt Try.prog 36 y36 := ⟨by kernel_rfl, ⟨_, Try.underlying36, rfl, rfl, rfl, rfl, rfl, rfl, rfl⟩, fun _ => rfl, rfl⟩
noncomputable def y37 : Ty := { z := .nilFunc, size := 1, bytes := 8, agg := false, sl := none, arr := none, fs := [] }
theorem y37_ok : OKt Try.prog 37 y37 := ⟨by kernel_rfl, ⟨_, Try.underlying37, rfl, rfl, rfl, rfl, rfl, rfl, rfl⟩, fun _ => rfl, rfl⟩
noncomputable def y38 : Ty := { z := .nilFunc, size := 1, bytes := 8, agg := false, sl := none, arr := none, fs := [] }
theorem y38_ok : OKt Try.prog 38 y38 := ⟨by kernel_rfl, ⟨_, Try.underlying38, rfl, rfl, rfl, rfl, rfl, rfl, rfl⟩, fun _ => rfl, rfl⟩
noncomputable def y39 : Ty := { z := .nilFunc, size := 1, bytes := 8, agg := false, sl := none, arr := none, fs := [] }
theorem y39_ok : OKt Try.prog 39 y39 := ⟨by kernel_rfl, ⟨_, Try.underlying39, rfl, rfl, rfl, rfl, rfl, rfl, rfl⟩, fun _ => rfl, rfl⟩
noncomputable def y40 : Ty := { z := .nilFunc, size := 1, bytes := 8, agg := false, sl := none, arr := none, fs := [] }
theorem y40_ok : OKt Try.prog 40 y40 := ⟨by kernel_rfl, ⟨_, Try.underlying40, rfl, rfl, rfl, rfl, rfl, rfl, rfl⟩, fun _ => rfl, rfl⟩
noncomputable def y41 : Ty := { z := .nilFunc, size := 1, bytes := 8, agg := false, sl := none, arr := none, fs := [] }
theorem y41_ok : OKt Try.prog 41 y41 := ⟨by kernel_rfl, ⟨_, Try.underlying41, rfl, rfl, rfl, rfl, rfl, rfl, rfl⟩, fun _ => rfl, rfl⟩
noncomputable def y42 : Ty := { z := .nilFunc, size := 1, bytes := 8, agg := false, sl := none, arr := none, fs := [] }
theorem y42_ok : OKt Try.prog 42 y42 := ⟨by kernel_rfl, ⟨_, Try.underlying42, rfl, rfl, rfl, rfl, rfl, rfl, rfl⟩, fun _ => rfl, rfl⟩
noncomputable def y43 : Ty := { z := .nilFunc, size := 1, bytes := 8, agg := false, sl := none, arr := none, fs := [] }
theorem y43_ok : OKt Try.prog 43 y43 := ⟨by kernel_rfl, ⟨_, Try.underlying43, rfl, rfl, rfl, rfl, rfl, rfl, rfl⟩, fun _ => rfl, rfl⟩
noncomputable def y44 : Ty := { z := .nilFunc, size := 1, bytes := 8, agg := false, sl := none, arr := none, fs := [] }
theorem y44_ok : OKt Try.prog 44 y44 := ⟨by kernel_rfl, ⟨_, Try.underlying44, rfl, rfl, rfl, rfl, rfl, rfl, rfl⟩, fun _ => rfl, rfl⟩
noncomputable def y45 : Ty := { z := .nilFunc, size := 1, bytes := 8, agg := false, sl := none, arr := none, fs := [] }
theorem y45_ok : OKt Try.prog 45 y45 := ⟨by kernel_rfl, ⟨_, Try.underlying45, rfl, rfl, rfl, rfl, rfl, rfl, rfl⟩, fun _ => rfl, rfl⟩
noncomputable def y46 : Ty := { z := .nilFunc, size := 1, bytes := 8, agg := false, sl := none, arr := none, fs := [] }
theorem y46_ok : OKt Try.prog 46 y46 := ⟨by kernel_rfl, ⟨_, Try.underlying46, rfl, rfl, rfl, rfl, rfl, rfl, rfl⟩, fun _ => rfl, rfl⟩
noncomputable def y47 : Ty := { z := .nilFunc, size := 1, bytes := 8, agg := false, sl := none, arr := none, fs := [] }
theorem y47_ok : OKt Try.prog 47 y47 := ⟨by kernel_rfl, ⟨_, Try.underlying47, rfl, rfl, rfl, rfl, rfl, rfl, rfl⟩, fun _ => rfl, rfl⟩
noncomputable def y48 : Ty := { z := .nilFunc, size := 1, bytes := 8, agg := false, sl := none, arr := none, fs := [] }
theorem y48_ok : OKt Try.prog 48 y48 := ⟨by kernel_rfl, ⟨_, Try.underlying48, rfl, rfl, rfl, rfl, rfl, rfl, rfl⟩, fun _ => rfl, rfl⟩
noncomputable def y49 : Ty := { z := .nilFunc, size := 1, bytes := 8, agg := false, sl := none, arr := none, fs := [] }
theorem y49_ok : OKt Try.prog 49 y49 := ⟨by kernel_rfl, ⟨_, Try.underlying49, rfl, rfl, rfl, rfl, rfl, rfl, rfl⟩, fun _ => rfl, rfl⟩
noncomputable def y50 : Ty := { z := .nilFunc, size := 1, bytes := 8, agg := false, sl := none, arr := none, fs := [] }
theorem y50_ok : OKt Try.prog 50 y50 := ⟨by kernel_rfl, ⟨_, Try.underlying50, rfl, rfl, rfl, rfl, rfl, rfl, rfl⟩, fun _ => rfl, rfl⟩
noncomputable def y52 : Ty := { z := .nilFunc, size := 1, bytes := 8, agg := false, sl := none, arr := none, fs := [] }
theorem y52_ok : OKt Try.prog 52 y52 := ⟨by kernel_rfl, ⟨_, Try.underlying52, rfl, rfl, rfl, rfl, rfl, rfl, rfl⟩, fun _ => rfl, rfl⟩
noncomputable def y53 : Ty := { z := .nilFunc, size := 1, bytes := 8, agg := false, sl := none, arr := none, fs := [] }
theorem y53_ok : OKt Try.prog 53 y53 := ⟨by kernel_rfl, ⟨_, Try.underlying53, rfl, rfl, rfl, rfl, rfl, rfl, rfl⟩, fun _ => rfl, rfl⟩
noncomputable def y54 : Ty := { z := .nilFunc, size := 1, bytes := 8, agg := false, sl := none, arr := none, fs := [] }
theorem y54_ok : OKt Try.prog 54 y54 := ⟨by kernel_rfl, ⟨_, Try.underlying54, rfl, rfl, rfl, rfl, rfl, rfl, rfl⟩, fun _ => rfl, rfl⟩
noncomputable def y55 : Ty := { z := .nilFunc, size := 1, bytes := 8, agg := false, sl := none, arr := none, fs := [] }
theorem y55_ok : OKt Try.prog 55 y55 := ⟨by kernel_rfl, ⟨_, Try.underlying55, rfl, rfl, rfl, rfl, rfl, rfl, rfl⟩, fun _ => rfl, rfl⟩
noncomputable def y57 : Ty := { z := (.agg #[(.int .i64 0), (.string ⟨#[]⟩), (.int .i64 0), (.int .i64 0), (.int .i64 0), (.int .i64 0), .nilFunc, (.int .i64 0)]), size := 8, bytes := 72, agg := true, sl := none, arr := none, fs := [(0, 22), (1, 9), (2, 3), (3, 3), (4, 3), (5, 3), (6, 55), (7, 3)] }
theorem y57_ok : OKt Try.prog 57 y57 := ⟨by kernel_rfl, ⟨_, Try.underlying57, rfl, rfl, rfl, rfl, rfl, rfl, rfl⟩, (fun h => by cases h), rfl⟩
noncomputable def y60 : Ty := { z := .nilFunc, size := 1, bytes := 8, agg := false, sl := none, arr := none, fs := [] }
theorem y60_ok : OKt Try.prog 60 y60 := ⟨by kernel_rfl, ⟨_, Try.underlying60, rfl, rfl, rfl, rfl, rfl, rfl, rfl⟩, fun _ => rfl, rfl⟩
noncomputable def y62 : Ty := { z := .nilFunc, size := 1, bytes := 8, agg := false, sl := none, arr := none, fs := [] }
theorem y62_ok : OKt Try.prog 62 y62 := ⟨by kernel_rfl, ⟨_, Try.underlying62, rfl, rfl, rfl, rfl, rfl, rfl, rfl⟩, fun _ => rfl, rfl⟩
noncomputable def y63 : Ty := { z := .nilFunc, size := 1, bytes := 8, agg := false, sl := none, arr := none, fs := [] }
theorem y63_ok : OKt Try.prog 63 y63 := ⟨by kernel_rfl, ⟨_, Try.underlying63, rfl, rfl, rfl, rfl, rfl, rfl, rfl⟩, fun _ => rfl, rfl⟩
noncomputable def y64 : Ty := { z := .nilFunc, size := 1, bytes := 8, agg := false, sl := none, arr := none, fs := [] }
theorem y64_ok : OKt Try.prog 64 y64 := ⟨by kernel_rfl, ⟨_, Try.underlying64, rfl, rfl, rfl, rfl, rfl, rfl, rfl⟩, fun _ => rfl, rfl⟩
noncomputable def y65 : Ty := { z := .nilFunc, size := 1, bytes := 8, agg := false, sl := none, arr := none, fs := [] }
theorem y65_ok : OKt Try.prog 65 y65 := ⟨by kernel_rfl, ⟨_, Try.underlying65, rfl, rfl, rfl, rfl, rfl, rfl, rfl⟩, fun _ => rfl, rfl⟩
noncomputable def y66 : Ty := { z := .nilFunc, size := 1, bytes := 8, agg := false, sl := none, arr := none, fs := [] }
theorem y66_ok : OKt Try.prog 66 y66 := ⟨by kernel_rfl, ⟨_, Try.underlying66, rfl, rfl, rfl, rfl, rfl, rfl, rfl⟩, fun _ => rfl, rfl⟩
noncomputable def y67 : Ty := { z := .nilFunc, size := 1, bytes := 8, agg := false, sl := none, arr := none, fs := [] }
theorem y67_ok : OKt Try.prog 67 y67 := ⟨by kernel_rfl, ⟨_, Try.underlying67, rfl, rfl, rfl, rfl, rfl, rfl, rfl⟩, fun _ => rfl, rfl⟩
noncomputable def y68 : Ty := { z := .nilFunc, size := 1, bytes := 8, agg := false, sl := none, arr := none, fs := [] }
theorem y68_ok : OKt Try.prog 68 y68 := ⟨by kernel_rfl, ⟨_, Try.underlying68, rfl, rfl, rfl, rfl, rfl, rfl, rfl⟩, fun _ => rfl, rfl⟩
noncomputable def y69 : Ty := { z := .nilFunc, size := 1, bytes := 8, agg := false, sl := none, arr := none, fs := [] }
theorem y69_ok : OKt Try.prog 69 y69 := ⟨by kernel_rfl, ⟨_, Try.underlying69, rfl, rfl, rfl, rfl, rfl, rfl, rfl⟩, fun _ => rfl, rfl⟩
noncomputable def y70 : Ty := { z := .nilFunc, size := 1, bytes := 8, agg := false, sl := none, arr := none, fs := [] }
theorem y70_ok : OKt Try.prog 70 y70 := ⟨by kernel_rfl, ⟨_, Try.underlying70, rfl, rfl, rfl, rfl, rfl, rfl, rfl⟩, fun _ => rfl, rfl⟩
noncomputable def y72 : Ty := { z := .nilFunc, size := 1, bytes := 8, agg := false, sl := none, arr := none, fs := [] }
theorem y72_ok : OKt Try.prog 72 y72 := ⟨by kernel_rfl, ⟨_, Try.underlying72, rfl, rfl, rfl, rfl, rfl, rfl, rfl⟩, fun _ => rfl, rfl⟩
noncomputable def y76 : Ty := { z := .nilFunc, size := 1, bytes := 8, agg := false, sl := none, arr := none, fs := [] }
theorem y76_ok : OKt Try.prog 76 y76 := ⟨by kernel_rfl, ⟨_, Try.underlying76, rfl, rfl, rfl, rfl, rfl, rfl, rfl⟩, fun _ => rfl, rfl⟩
noncomputable def y77 : Ty := { z := .nilFunc, size := 1, bytes := 8, agg := false, sl := none, arr := none, fs := [] }
theorem y77_ok : OKt Try.prog 77 y77 := ⟨by kernel_rfl, ⟨_, Try.underlying77, rfl, rfl, rfl, rfl, rfl, rfl, rfl⟩, fun _ => rfl, rfl⟩
noncomputable def y78 : Ty := { z := .nilFunc, size := 1, bytes := 8, agg := false, sl := none, arr := none, fs := [] }
theorem y78_ok : OKt Try.prog 78 y78 := ⟨by kernel_rfl, ⟨_, Try.underlying78, rfl, rfl, rfl, rfl, rfl, rfl, rfl⟩, fun _ => rfl, rfl⟩
noncomputable def y79 : Ty := { z := .nilFunc, size := 1, bytes := 8, agg := false, sl := none, arr := none, fs := [] }
theorem y79_ok : OKt Try.prog 79 y79 := ⟨by kernel_rfl, ⟨_, Try.underlying79, rfl, rfl, rfl, rfl, rfl, rfl, rfl⟩, fun _ => rfl, rfl⟩
noncomputable def y80 : Ty := { z := .nilFunc, size := 1, bytes := 8, agg := false, sl := none, arr := none, fs := [] }
theorem y80_ok : OKt Try.prog 80 y80 := ⟨by kernel_rfl, ⟨_, Try.underlying80, rfl, rfl, rfl, rfl, rfl, rfl, rfl⟩, fun _ => rfl, rfl⟩
noncomputable def y81 : Ty := { z := .nilFunc, size := 1, bytes := 8, agg := false, sl := none, arr := none, fs := [] }
theorem y81_ok : OKt Try.prog 81 y81 := ⟨by kernel_rfl, ⟨_, Try.underlying81, rfl, rfl, rfl, rfl, rfl, rfl, rfl⟩, fun _ => rfl, rfl⟩
noncomputable def y82 : Ty := { z := .nilFunc, size := 1, bytes := 8, agg := false, sl := none, arr := none, fs := [] }
theorem y82_ok : OKt Try.prog 82 y82 := ⟨by kernel_rfl, ⟨_, Try.underlying82, rfl, rfl, rfl, rfl, rfl, rfl, rfl⟩, fun _ => rfl, rfl⟩
noncomputable def y83 : Ty := { z := .nilFunc, size := 1, bytes := 8, agg := false, sl := none, arr := none, fs := [] }
theorem y83_ok : OKt Try.prog 83 y83 := ⟨by kernel_rfl, ⟨_, Try.underlying83, rfl, rfl, rfl, rfl, rfl, rfl, rfl⟩, fun _ => rfl, rfl⟩
noncomputable def y84 : Ty := { z := .nilFunc, size := 1, bytes := 8, agg := false, sl := none, arr := none, fs := [] }
theorem y84_ok : OKt Try.prog 84 y84 := ⟨by kernel_rfl, ⟨_, Try.underlying84, rfl, rfl, rfl, rfl, rfl, rfl, rfl⟩, fun _ => rfl, rfl⟩
noncomputable def y85 : Ty := { z := .nilFunc, size := 1, bytes := 8, agg := false, sl := none, arr := none, fs := [] }
theorem y85_ok : OKt Try.prog 85 y85 := ⟨by kernel_rfl, ⟨_, Try.underlying85, rfl, rfl, rfl, rfl, rfl, rfl, rfl⟩, fun _ => rfl, rfl⟩
noncomputable def y86 : Ty := { z := .nilFunc, size := 1, bytes := 8, agg := false, sl := none, arr := none, fs := [] }
theorem y86_ok : OKt Try.prog 86 y86 := ⟨by kernel_rfl, ⟨_, Try.underlying86, rfl, rfl, rfl, rfl, rfl, rfl, rfl⟩, fun _ => rfl, rfl⟩
noncomputable def y87 : Ty := { z := .nilFunc, size := 1, bytes := 8, agg := false, sl := none, arr := none, fs := [] }
theorem y87_ok : OKt Try.prog 87 y87 := ⟨by kernel_rfl, ⟨_, Try.underlying87, rfl, rfl, rfl, rfl, rfl, rfl, rfl⟩, fun _ => rfl, rfl⟩
noncomputable def y90 : Ty := { z := .nilFunc, size := 1, bytes := 8, agg := false, sl := none, arr := none, fs := [] }
theorem y90_ok : OKt Try.prog 90 y90 := ⟨by kernel_rfl, ⟨_, Try.underlying90, rfl, rfl, rfl, rfl, rfl, rfl, rfl⟩, fun _ => rfl, rfl⟩
noncomputable def y91 : Ty := { z := (.slice none 0 0), size := 1, bytes := 24, agg := false, sl := some 57, arr := none, fs := [] }
theorem y91_ok : OKt Try.prog 91 y91 := ⟨by kernel_rfl, ⟨_, Try.underlying91, rfl, rfl, rfl, rfl, rfl, rfl, rfl⟩, fun _ => rfl, rfl⟩
noncomputable def y92 : Ty := { z := .nilFunc, size := 1, bytes := 8, agg := false, sl := none, arr := none, fs := [] }
theorem y92_ok : OKt Try.prog 92 y92 := ⟨by kernel_rfl, ⟨_, Try.underlying92, rfl, rfl, rfl, rfl, rfl, rfl, rfl⟩, fun _ => rfl, rfl⟩
noncomputable def y95 : Ty := { z := .nilFunc, size := 1, bytes := 8, agg := false, sl := none, arr := none, fs := [] }
theorem y95_ok : OKt Try.prog 95 y95 := ⟨by kernel_rfl, ⟨_, Try.underlying95, rfl, rfl, rfl, rfl, rfl, rfl, rfl⟩, fun _ => rfl, rfl⟩
noncomputable def y96 : Ty := { z := .nilFunc, size := 1, bytes := 8, agg := false, sl := none, arr := none, fs := [] }
theorem y96_ok : OKt Try.prog 96 y96 := ⟨by kernel_rfl, ⟨_, Try.underlying96, rfl, rfl, rfl, rfl, rfl, rfl, rfl⟩, fun _ => rfl, rfl⟩
noncomputable def y97 : Ty := { z := .nilFunc, size := 1, bytes := 8, agg := false, sl := none, arr := none, fs := [] }
theorem y97_ok : OKt Try.prog 97 y97 := ⟨by kernel_rfl, ⟨_, Try.underlying97, rfl, rfl, rfl, rfl, rfl, rfl, rfl⟩, fun _ => rfl, rfl⟩
noncomputable def y98 : Ty := { z := .nilFunc, size := 1, bytes := 8, agg := false, sl := none, arr := none, fs := [] }
theorem y98_ok : OKt Try.prog 98 y98 := ⟨by kernel_rfl, ⟨_, Try.underlying98, rfl, rfl, rfl, rfl, rfl, rfl, rfl⟩, fun _ => rfl, rfl⟩
noncomputable def y99 : Ty := { z := .nilFunc, size := 1, bytes := 8, agg := false, sl := none, arr := none, fs := [] }
theorem y99_ok : OKt Try.prog 99 y99 := ⟨by kernel_rfl, ⟨_, Try.underlying99, rfl, rfl, rfl, rfl, rfl, rfl, rfl⟩, fun _ => rfl, rfl⟩
noncomputable def y100 : Ty := { z := .nilFunc, size := 1, bytes := 8, agg := false, sl := none, arr := none, fs := [] }
theorem y100_ok : OKt Try.prog 100 y100 := ⟨by kernel_rfl, ⟨_, Try.underlying100, rfl, rfl, rfl, rfl, rfl, rfl, rfl⟩, fun _ => rfl, rfl⟩
noncomputable def y101 : Ty := { z := .nilFunc, size := 1, bytes := 8, agg := false, sl := none, arr := none, fs := [] }
theorem y101_ok : OKt Try.prog 101 y101 := ⟨by kernel_rfl, ⟨_, Try.underlying101, rfl, rfl, rfl, rfl, rfl, rfl, rfl⟩, fun _ => rfl, rfl⟩
noncomputable def y103 : Ty := { z := (.int .u64 0), size := 1, bytes := 8, agg := false, sl := none, arr := none, fs := [], ik := some .u64 }
theorem y103_ok : OKt Try.prog 103 y103 := ⟨by kernel_rfl, ⟨_, Try.underlying103, rfl, rfl, rfl, rfl, rfl, rfl, rfl⟩, fun _ => rfl, rfl⟩
noncomputable def y104 : Ty := { z := .nilFunc, size := 1, bytes := 8, agg := false, sl := none, arr := none, fs := [] }
theorem y104_ok : OKt Try.prog 104 y104 := ⟨by kernel_rfl, ⟨_, Try.underlying104, rfl, rfl, rfl, rfl, rfl, rfl, rfl⟩, fun _ => rfl, rfl⟩
noncomputable def y105 : Ty := { z := (.int .i64 0), size := 1, bytes := 8, agg := false, sl := none, arr := none, fs := [], ik := some .i64 }
theorem y105_ok : OKt Try.prog 105 y105 := ⟨by kernel_rfl, ⟨_, Try.underlying105, rfl, rfl, rfl, rfl, rfl, rfl, rfl⟩, fun _ => rfl, rfl⟩
noncomputable def y108 : Ty := { z := .nilFunc, size := 1, bytes := 8, agg := false, sl := none, arr := none, fs := [] }
theorem y108_ok : OKt Try.prog 108 y108 := ⟨by kernel_rfl, ⟨_, Try.underlying108, rfl, rfl, rfl, rfl, rfl, rfl, rfl⟩, fun _ => rfl, rfl⟩
noncomputable def y109 : Ty := { z := .nilFunc, size := 1, bytes := 8, agg := false, sl := none, arr := none, fs := [] }
theorem y109_ok : OKt Try.prog 109 y109 := ⟨by kernel_rfl, ⟨_, Try.underlying109, rfl, rfl, rfl, rfl, rfl, rfl, rfl⟩, fun _ => rfl, rfl⟩
noncomputable def y110 : Ty := { z := .nilFunc, size := 1, bytes := 8, agg := false, sl := none, arr := none, fs := [] }
theorem y110_ok : OKt Try.prog 110 y110 := ⟨by kernel_rfl, ⟨_, Try.underlying110, rfl, rfl, rfl, rfl, rfl, rfl, rfl⟩, fun _ => rfl, rfl⟩
noncomputable def y111 : Ty := { z := .nilFunc, size := 1, bytes := 8, agg := false, sl := none, arr := none, fs := [] }
theorem y111_ok : OKt Try.prog 111 y111 := ⟨by kernel_rfl, ⟨_, Try.underlying111, rfl, rfl, rfl, rfl, rfl, rfl, rfl⟩, fun _ => rfl, rfl⟩
noncomputable def y112 : Ty := { z := (.int .u32 0), size := 1, bytes := 4, agg := false, sl := none, arr := none, fs := [], ik := some .u32 }
theorem y112_ok : OKt Try.prog 112 y112 := ⟨by kernel_rfl, ⟨_, Try.underlying112, rfl, rfl, rfl, rfl, rfl, rfl, rfl⟩, fun _ => rfl, rfl⟩
noncomputable def y113 : Ty := { z := .nilFunc, size := 1, bytes := 8, agg := false, sl := none, arr := none, fs := [] }
theorem y113_ok : OKt Try.prog 113 y113 := ⟨by kernel_rfl, ⟨_, Try.underlying113, rfl, rfl, rfl, rfl, rfl, rfl, rfl⟩, fun _ => rfl, rfl⟩
noncomputable def y114 : Ty := { z := (.int .u64 0), size := 1, bytes := 8, agg := false, sl := none, arr := none, fs := [], ik := some .u64 }
theorem y114_ok : OKt Try.prog 114 y114 := ⟨by kernel_rfl, ⟨_, Try.underlying114, rfl, rfl, rfl, rfl, rfl, rfl, rfl⟩, fun _ => rfl, rfl⟩
noncomputable def y115 : Ty := { z := (.int .u64 0), size := 1, bytes := 8, agg := false, sl := none, arr := none, fs := [], ik := some .u64 }
theorem y115_ok : OKt Try.prog 115 y115 := ⟨by kernel_rfl, ⟨_, Try.underlying115, rfl, rfl, rfl, rfl, rfl, rfl, rfl⟩, fun _ => rfl, rfl⟩
noncomputable def y116 : Ty := { z := .nilFunc, size := 1, bytes := 8, agg := false, sl := none, arr := none, fs := [] }
theorem y116_ok : OKt Try.prog 116 y116 := ⟨by kernel_rfl, ⟨_, Try.underlying116, rfl, rfl, rfl, rfl, rfl, rfl, rfl⟩, fun _ => rfl, rfl⟩
noncomputable def y117 : Ty := { z := .nilFunc, size := 1, bytes := 8, agg := false, sl := none, arr := none, fs := [] }
theorem y117_ok : OKt Try.prog 117 y117 := ⟨by kernel_rfl, ⟨_, Try.underlying117, rfl, rfl, rfl, rfl, rfl, rfl, rfl⟩, fun _ => rfl, rfl⟩
noncomputable def y118 : Ty := { z := .nilFunc, size := 1, bytes := 8, agg := false, sl := none, arr := none, fs := [] }
theorem y118_ok : OKt Try.prog 118 y118 := ⟨by kernel_rfl, ⟨_, Try.underlying118, rfl, rfl, rfl, rfl, rfl, rfl, rfl⟩, fun _ => rfl, rfl⟩
noncomputable def y119 : Ty := { z := (.pointer none), size := 1, bytes := 8, agg := false, sl := none, arr := none, fs := [] }
theorem y119_ok : OKt Try.prog 119 y119 := ⟨by kernel_rfl, ⟨_, Try.underlying119, rfl, rfl, rfl, rfl, rfl, rfl, rfl⟩, fun _ => rfl, rfl⟩
noncomputable def y121 : Ty := { z := (.pointer none), size := 1, bytes := 8, agg := false, sl := none, arr := none, fs := [] }
theorem y121_ok : OKt Try.prog 121 y121 := ⟨by kernel_rfl, ⟨_, Try.underlying121, rfl, rfl, rfl, rfl, rfl, rfl, rfl⟩, fun _ => rfl, rfl⟩
noncomputable def y122 : Ty := { z := .nilFunc, size := 1, bytes := 8, agg := false, sl := none, arr := none, fs := [] }
theorem y122_ok : OKt Try.prog 122 y122 := ⟨by kernel_rfl, ⟨_, Try.underlying122, rfl, rfl, rfl, rfl, rfl, rfl, rfl⟩, fun _ => rfl, rfl⟩
noncomputable def y123 : Ty := { z := .nilFunc, size := 1, bytes := 8, agg := false, sl := none, arr := none, fs := [] }
theorem y123_ok : OKt Try.prog 123 y123 := ⟨by kernel_rfl, ⟨_, Try.underlying123, rfl, rfl, rfl, rfl, rfl, rfl, rfl⟩, fun _ => rfl, rfl⟩
noncomputable def ty : TypeId → Ty
 | 1 => y1
 | 2 => y2
 | 3 => y3
 | 4 => y4
 | 5 => y5
 | 6 => y6
 | 7 => y7
 | 8 => y8
 | 9 => y9
 | 10 => y10
 | 11 => y11
 | 12 => y12
 | 13 => y13
 | 14 => y14
 | 15 => y15
 | 16 => y16
 | 17 => y17
 | 18 => y18
 | 19 => y19
 | 21 => y21
 | 22 => y22
 | 23 => y23
 | 24 => y24
 | 25 => y25
 | 26 => y26
 | 27 => y27
 | 28 => y28
 | 29 => y29
 | 31 => y31
 | 33 => y33
 | 34 => y34
 | 35 => y35
 | 36 => y36
 | 37 => y37
 | 38 => y38
 | 39 => y39
 | 40 => y40
 | 41 => y41
 | 42 => y42
 | 43 => y43
 | 44 => y44
 | 45 => y45
 | 46 => y46
 | 47 => y47
 | 48 => y48
 | 49 => y49
 | 50 => y50
 | 52 => y52
 | 53 => y53
 | 54 => y54
 | 55 => y55
 | 57 => y57
 | 60 => y60
 | 62 => y62
 | 63 => y63
 | 64 => y64
 | 65 => y65
 | 66 => y66
 | 67 => y67
 | 68 => y68
 | 69 => y69
 | 70 => y70
 | 72 => y72
 | 76 => y76
 | 77 => y77
 | 78 => y78
 | 79 => y79
 | 80 => y80
 | 81 => y81
 | 82 => y82
 | 83 => y83
 | 84 => y84
 | 85 => y85
 | 86 => y86
 | 87 => y87
 | 90 => y90
 | 91 => y91
 | 92 => y92
 | 95 => y95
 | 96 => y96
 | 97 => y97
 | 98 => y98
 | 99 => y99
 | 100 => y100
 | 101 => y101
 | 103 => y103
 | 104 => y104
 | 105 => y105
 | 108 => y108
 | 109 => y109
 | 110 => y110
 | 111 => y111
 | 112 => y112
 | 113 => y113
 | 114 => y114
 | 115 => y115
 | 116 => y116
 | 117 => y117
 | 118 => y118
 | 119 => y119
 | 121 => y121
 | 122 => y122
 | 123 => y123
 | _ => Ty.none
theorem Qzh : ∀ t, (ty t).ok = true → OKt Try.prog t (ty t) := by
 intro t h;unfold ty at h ⊢;split at h
 ·exact y1_ok
 ·exact y2_ok
 ·exact y3_ok
 ·exact y4_ok
 ·exact y5_ok
 ·exact y6_ok
 ·exact y7_ok
 ·exact y8_ok
 ·exact y9_ok
 ·exact y10_ok
 ·exact y11_ok
 ·exact y12_ok
 ·exact y13_ok
 ·exact y14_ok
 ·exact y15_ok
 ·exact y16_ok
 ·exact y17_ok
 ·exact y18_ok
 ·exact y19_ok
 ·exact y21_ok
 ·exact y22_ok
 ·exact y23_ok
 ·exact y24_ok
 ·exact y25_ok
 ·exact y26_ok
 ·exact y27_ok
 ·exact y28_ok
 ·exact y29_ok
 ·exact y31_ok
 ·exact y33_ok
 ·exact y34_ok
 ·exact y35_ok
 ·exact y36_ok
 ·exact y37_ok
 ·exact y38_ok
 ·exact y39_ok
 ·exact y40_ok
 ·exact y41_ok
 ·exact y42_ok
 ·exact y43_ok
 ·exact y44_ok
 ·exact y45_ok
 ·exact y46_ok
 ·exact y47_ok
 ·exact y48_ok
 ·exact y49_ok
 ·exact y50_ok
 ·exact y52_ok
 ·exact y53_ok
 ·exact y54_ok
 ·exact y55_ok
 ·exact y57_ok
 ·exact y60_ok
 ·exact y62_ok
 ·exact y63_ok
 ·exact y64_ok
 ·exact y65_ok
 ·exact y66_ok
 ·exact y67_ok
 ·exact y68_ok
 ·exact y69_ok
 ·exact y70_ok
 ·exact y72_ok
 ·exact y76_ok
 ·exact y77_ok
 ·exact y78_ok
 ·exact y79_ok
 ·exact y80_ok
 ·exact y81_ok
 ·exact y82_ok
 ·exact y83_ok
 ·exact y84_ok
 ·exact y85_ok
 ·exact y86_ok
 ·exact y87_ok
 ·exact y90_ok
 ·exact y91_ok
 ·exact y92_ok
 ·exact y95_ok
 ·exact y96_ok
 ·exact y97_ok
 ·exact y98_ok
 ·exact y99_ok
 ·exact y100_ok
 ·exact y101_ok
 ·exact y103_ok
 ·exact y104_ok
 ·exact y105_ok
 ·exact y108_ok
 ·exact y109_ok
 ·exact y110_ok
 ·exact y111_ok
 ·exact y112_ok
 ·exact y113_ok
 ·exact y114_ok
 ·exact y115_ok
 ·exact y116_ok
 ·exact y117_ok
 ·exact y118_ok
 ·exact y119_ok
 ·exact y121_ok
 ·exact y122_ok
 ·exact y123_ok
 ·cases h
noncomputable def C : Ctx := ⟨Try.prog, ty, Qzh⟩
theorem Qi : C.P.follows .mixedOrders = true := by kernel_rfl
@[go_sem] theorem t1ok : (C.ty 1).ok = true := rfl
@[go_sem] theorem t1size : (C.ty 1).size = 1 := rfl
@[go_sem] theorem t1bytes : (C.ty 1).bytes = 8 := rfl
@[go_sem] theorem t1agg : (C.ty 1).agg = false := rfl
@[go_sem] theorem t2ok : (C.ty 2).ok = true := rfl
@[go_sem] theorem t2size : (C.ty 2).size = 1 := rfl
@[go_sem] theorem t2bytes : (C.ty 2).bytes = 8 := rfl
@[go_sem] theorem t2agg : (C.ty 2).agg = false := rfl
@[go_sem] theorem t2ik : (C.ty 2).ik = some .i64 := rfl
@[go_sem] theorem t2z : Xa (C.ty 2) = ((.int .i64 0) : Value).cells.toList.map cv1 := rfl
@[go_sem] theorem t3ok : (C.ty 3).ok = true := rfl
@[go_sem] theorem t3size : (C.ty 3).size = 1 := rfl
@[go_sem] theorem t3bytes : (C.ty 3).bytes = 8 := rfl
@[go_sem] theorem t3agg : (C.ty 3).agg = false := rfl
@[go_sem] theorem t3ik : (C.ty 3).ik = some .i64 := rfl
@[go_sem] theorem t3z : Xa (C.ty 3) = ((.int .i64 0) : Value).cells.toList.map cv1 := rfl
@[go_sem] theorem t4ok : (C.ty 4).ok = true := rfl
@[go_sem] theorem t4size : (C.ty 4).size = 1 := rfl
@[go_sem] theorem t4bytes : (C.ty 4).bytes = 1 := rfl
@[go_sem] theorem t4agg : (C.ty 4).agg = false := rfl
@[go_sem] theorem t4bl : (C.ty 4).bl = true := rfl
@[go_sem] theorem t4z : Xa (C.ty 4) = ((.bool false) : Value).cells.toList.map cv1 := rfl
@[go_sem] theorem t5ok : (C.ty 5).ok = true := rfl
@[go_sem] theorem t5size : (C.ty 5).size = 1 := rfl
@[go_sem] theorem t5bytes : (C.ty 5).bytes = 1 := rfl
@[go_sem] theorem t5agg : (C.ty 5).agg = false := rfl
@[go_sem] theorem t5ik : (C.ty 5).ik = some .u8 := rfl
@[go_sem] theorem t5z : Xa (C.ty 5) = ((.int .u8 0) : Value).cells.toList.map cv1 := rfl
@[go_sem] theorem t6ok : (C.ty 6).ok = true := rfl
@[go_sem] theorem t6size : (C.ty 6).size = 1 := rfl
@[go_sem] theorem t6bytes : (C.ty 6).bytes = 1 := rfl
@[go_sem] theorem t6agg : (C.ty 6).agg = false := rfl
@[go_sem] theorem t6ik : (C.ty 6).ik = some .u8 := rfl
@[go_sem] theorem t6z : Xa (C.ty 6) = ((.int .u8 0) : Value).cells.toList.map cv1 := rfl
@[go_sem] theorem t7ok : (C.ty 7).ok = true := rfl
@[go_sem] theorem t7size : (C.ty 7).size = 4 := rfl
@[go_sem] theorem t7bytes : (C.ty 7).bytes = 24 := rfl
@[go_sem] theorem t7agg : (C.ty 7).agg = true := rfl
@[go_sem] theorem t7fs : (C.ty 7).fs = [(0, 2), (1, 3), (2, 4), (3, 6)] := rfl
@[go_sem] theorem t7arr : (C.ty 7).arr = none := rfl
@[go_sem] theorem t7z : Xa (C.ty 7) = ((.agg #[(.int .i64 0), (.int .i64 0), (.bool false), (.int .u8 0)]) : Value).cells.toList.map cv1 := rfl
@[go_sem] theorem t8ok : (C.ty 8).ok = true := rfl
@[go_sem] theorem t8size : (C.ty 8).size = 4 := rfl
@[go_sem] theorem t8bytes : (C.ty 8).bytes = 24 := rfl
@[go_sem] theorem t8agg : (C.ty 8).agg = true := rfl
@[go_sem] theorem t8fs : (C.ty 8).fs = [(0, 2), (1, 3), (2, 4), (3, 6)] := rfl
@[go_sem] theorem t8arr : (C.ty 8).arr = none := rfl
@[go_sem] theorem t8z : Xa (C.ty 8) = ((.agg #[(.int .i64 0), (.int .i64 0), (.bool false), (.int .u8 0)]) : Value).cells.toList.map cv1 := rfl
@[go_sem] theorem t9ok : (C.ty 9).ok = true := rfl
@[go_sem] theorem t9size : (C.ty 9).size = 1 := rfl
@[go_sem] theorem t9bytes : (C.ty 9).bytes = 16 := rfl
@[go_sem] theorem t9agg : (C.ty 9).agg = false := rfl
@[go_sem] theorem t9str : (C.ty 9).str = true := rfl
@[go_sem] theorem t9arr : (C.ty 9).arr = none := rfl
@[go_sem] theorem t9z : Xa (C.ty 9) = ((.string ⟨#[]⟩) : Value).cells.toList.map cv1 := rfl
@[go_sem] theorem t10ok : (C.ty 10).ok = true := rfl
@[go_sem] theorem t10size : (C.ty 10).size = 1 := rfl
@[go_sem] theorem t10bytes : (C.ty 10).bytes = 16 := rfl
@[go_sem] theorem t10agg : (C.ty 10).agg = false := rfl
@[go_sem] theorem t10str : (C.ty 10).str = true := rfl
@[go_sem] theorem t10arr : (C.ty 10).arr = none := rfl
@[go_sem] theorem t10z : Xa (C.ty 10) = ((.string ⟨#[]⟩) : Value).cells.toList.map cv1 := rfl
@[go_sem] theorem t11ok : (C.ty 11).ok = true := rfl
@[go_sem] theorem t11size : (C.ty 11).size = 1 := rfl
@[go_sem] theorem t11bytes : (C.ty 11).bytes = 16 := rfl
@[go_sem] theorem t11agg : (C.ty 11).agg = false := rfl
@[go_sem] theorem t11str : (C.ty 11).str = true := rfl
@[go_sem] theorem t11arr : (C.ty 11).arr = none := rfl
@[go_sem] theorem t11z : Xa (C.ty 11) = ((.string ⟨#[]⟩) : Value).cells.toList.map cv1 := rfl
@[go_sem] theorem t12ok : (C.ty 12).ok = true := rfl
@[go_sem] theorem t12size : (C.ty 12).size = 1 := rfl
@[go_sem] theorem t12bytes : (C.ty 12).bytes = 8 := rfl
@[go_sem] theorem t12agg : (C.ty 12).agg = false := rfl
@[go_sem] theorem t12ik : (C.ty 12).ik = some .u64 := rfl
@[go_sem] theorem t12z : Xa (C.ty 12) = ((.int .u64 0) : Value).cells.toList.map cv1 := rfl
@[go_sem] theorem t13ok : (C.ty 13).ok = true := rfl
@[go_sem] theorem t13size : (C.ty 13).size = 2 := rfl
@[go_sem] theorem t13bytes : (C.ty 13).bytes = 24 := rfl
@[go_sem] theorem t13agg : (C.ty 13).agg = true := rfl
@[go_sem] theorem t13fs : (C.ty 13).fs = [(0, 9), (1, 12)] := rfl
@[go_sem] theorem t13arr : (C.ty 13).arr = none := rfl
@[go_sem] theorem t13z : Xa (C.ty 13) = ((.agg #[(.string ⟨#[]⟩), (.int .u64 0)]) : Value).cells.toList.map cv1 := rfl
@[go_sem] theorem t14ok : (C.ty 14).ok = true := rfl
@[go_sem] theorem t14size : (C.ty 14).size = 2 := rfl
@[go_sem] theorem t14bytes : (C.ty 14).bytes = 24 := rfl
@[go_sem] theorem t14agg : (C.ty 14).agg = true := rfl
@[go_sem] theorem t14fs : (C.ty 14).fs = [(0, 9), (1, 12)] := rfl
@[go_sem] theorem t14arr : (C.ty 14).arr = none := rfl
@[go_sem] theorem t14z : Xa (C.ty 14) = ((.agg #[(.string ⟨#[]⟩), (.int .u64 0)]) : Value).cells.toList.map cv1 := rfl
@[go_sem] theorem t15ok : (C.ty 15).ok = true := rfl
@[go_sem] theorem t15size : (C.ty 15).size = 1 := rfl
@[go_sem] theorem t15bytes : (C.ty 15).bytes = 8 := rfl
@[go_sem] theorem t15agg : (C.ty 15).agg = false := rfl
@[go_sem] theorem t15z : Xa (C.ty 15) = ((.pointer none) : Value).cells.toList.map cv1 := rfl
@[go_sem] theorem t16ok : (C.ty 16).ok = true := rfl
@[go_sem] theorem t16size : (C.ty 16).size = 1 := rfl
@[go_sem] theorem t16bytes : (C.ty 16).bytes = 8 := rfl
@[go_sem] theorem t16agg : (C.ty 16).agg = false := rfl
@[go_sem] theorem t16z : Xa (C.ty 16) = ((.pointer none) : Value).cells.toList.map cv1 := rfl
@[go_sem] theorem t17ok : (C.ty 17).ok = true := rfl
@[go_sem] theorem t17size : (C.ty 17).size = 1 := rfl
@[go_sem] theorem t17bytes : (C.ty 17).bytes = 8 := rfl
@[go_sem] theorem t17agg : (C.ty 17).agg = false := rfl
@[go_sem] theorem t17z : Xa (C.ty 17) = ((.pointer none) : Value).cells.toList.map cv1 := rfl
@[go_sem] theorem t18ok : (C.ty 18).ok = true := rfl
@[go_sem] theorem t18size : (C.ty 18).size = 1 := rfl
@[go_sem] theorem t18bytes : (C.ty 18).bytes = 8 := rfl
@[go_sem] theorem t18agg : (C.ty 18).agg = true := rfl
@[go_sem] theorem t18fs : (C.ty 18).fs = [(0, 17)] := rfl
@[go_sem] theorem t18arr : (C.ty 18).arr = none := rfl
@[go_sem] theorem t18z : Xa (C.ty 18) = ((.agg #[(.pointer none)]) : Value).cells.toList.map cv1 := rfl
@[go_sem] theorem t19ok : (C.ty 19).ok = true := rfl
@[go_sem] theorem t19size : (C.ty 19).size = 1 := rfl
@[go_sem] theorem t19bytes : (C.ty 19).bytes = 8 := rfl
@[go_sem] theorem t19agg : (C.ty 19).agg = true := rfl
@[go_sem] theorem t19fs : (C.ty 19).fs = [(0, 17)] := rfl
@[go_sem] theorem t19arr : (C.ty 19).arr = none := rfl
@[go_sem] theorem t19z : Xa (C.ty 19) = ((.agg #[(.pointer none)]) : Value).cells.toList.map cv1 := rfl
@[go_sem] theorem t21ok : (C.ty 21).ok = true := rfl
@[go_sem] theorem t21size : (C.ty 21).size = 1 := rfl
@[go_sem] theorem t21bytes : (C.ty 21).bytes = 4 := rfl
@[go_sem] theorem t21agg : (C.ty 21).agg = false := rfl
@[go_sem] theorem t21ik : (C.ty 21).ik = some .i32 := rfl
@[go_sem] theorem t21z : Xa (C.ty 21) = ((.int .i32 0) : Value).cells.toList.map cv1 := rfl
@[go_sem] theorem t22ok : (C.ty 22).ok = true := rfl
@[go_sem] theorem t22size : (C.ty 22).size = 1 := rfl
@[go_sem] theorem t22bytes : (C.ty 22).bytes = 8 := rfl
@[go_sem] theorem t22agg : (C.ty 22).agg = false := rfl
@[go_sem] theorem t22ik : (C.ty 22).ik = some .i64 := rfl
@[go_sem] theorem t22z : Xa (C.ty 22) = ((.int .i64 0) : Value).cells.toList.map cv1 := rfl
@[go_sem] theorem t23ok : (C.ty 23).ok = true := rfl
@[go_sem] theorem t23size : (C.ty 23).size = 1 := rfl
@[go_sem] theorem t23bytes : (C.ty 23).bytes = 24 := rfl
@[go_sem] theorem t23agg : (C.ty 23).agg = false := rfl
@[go_sem] theorem t23sl : (C.ty 23).sl = some 3 := rfl
@[go_sem] theorem t23z : Xa (C.ty 23) = ((.slice none 0 0) : Value).cells.toList.map cv1 := rfl
@[go_sem] theorem t24ok : (C.ty 24).ok = true := rfl
@[go_sem] theorem t24size : (C.ty 24).size = 3 := rfl
@[go_sem] theorem t24bytes : (C.ty 24).bytes = 56 := rfl
@[go_sem] theorem t24agg : (C.ty 24).agg = true := rfl
@[go_sem] theorem t24fs : (C.ty 24).fs = [(0, 22), (1, 23), (2, 23)] := rfl
@[go_sem] theorem t24arr : (C.ty 24).arr = none := rfl
@[go_sem] theorem t24z : Xa (C.ty 24) = ((.agg #[(.int .i64 0), (.slice none 0 0), (.slice none 0 0)]) : Value).cells.toList.map cv1 := rfl
@[go_sem] theorem t25ok : (C.ty 25).ok = true := rfl
@[go_sem] theorem t25size : (C.ty 25).size = 3 := rfl
@[go_sem] theorem t25bytes : (C.ty 25).bytes = 56 := rfl
@[go_sem] theorem t25agg : (C.ty 25).agg = true := rfl
@[go_sem] theorem t25fs : (C.ty 25).fs = [(0, 22), (1, 23), (2, 23)] := rfl
@[go_sem] theorem t25arr : (C.ty 25).arr = none := rfl
@[go_sem] theorem t25z : Xa (C.ty 25) = ((.agg #[(.int .i64 0), (.slice none 0 0), (.slice none 0 0)]) : Value).cells.toList.map cv1 := rfl
@[go_sem] theorem t26ok : (C.ty 26).ok = true := rfl
@[go_sem] theorem t26size : (C.ty 26).size = 1 := rfl
@[go_sem] theorem t26bytes : (C.ty 26).bytes = 24 := rfl
@[go_sem] theorem t26agg : (C.ty 26).agg = false := rfl
@[go_sem] theorem t26sl : (C.ty 26).sl = some 28 := rfl
@[go_sem] theorem t26z : Xa (C.ty 26) = ((.slice none 0 0) : Value).cells.toList.map cv1 := rfl
@[go_sem] theorem t27ok : (C.ty 27).ok = true := rfl
@[go_sem] theorem t27size : (C.ty 27).size = 1 := rfl
@[go_sem] theorem t27bytes : (C.ty 27).bytes = 8 := rfl
@[go_sem] theorem t27agg : (C.ty 27).agg = false := rfl
@[go_sem] theorem t28ok : (C.ty 28).ok = true := rfl
@[go_sem] theorem t28size : (C.ty 28).size = 1 := rfl
@[go_sem] theorem t28bytes : (C.ty 28).bytes = 24 := rfl
@[go_sem] theorem t28agg : (C.ty 28).agg = false := rfl
@[go_sem] theorem t28sl : (C.ty 28).sl = some 3 := rfl
@[go_sem] theorem t28z : Xa (C.ty 28) = ((.slice none 0 0) : Value).cells.toList.map cv1 := rfl
@[go_sem] theorem t29ok : (C.ty 29).ok = true := rfl
@[go_sem] theorem t29size : (C.ty 29).size = 1 := rfl
@[go_sem] theorem t29bytes : (C.ty 29).bytes = 8 := rfl
@[go_sem] theorem t29agg : (C.ty 29).agg = false := rfl
@[go_sem] theorem t29ik : (C.ty 29).ik = some .i64 := rfl
@[go_sem] theorem t29z : Xa (C.ty 29) = ((.int .i64 0) : Value).cells.toList.map cv1 := rfl
@[go_sem] theorem t31ok : (C.ty 31).ok = true := rfl
@[go_sem] theorem t31size : (C.ty 31).size = 1 := rfl
@[go_sem] theorem t31bytes : (C.ty 31).bytes = 8 := rfl
@[go_sem] theorem t31agg : (C.ty 31).agg = false := rfl
@[go_sem] theorem t33ok : (C.ty 33).ok = true := rfl
@[go_sem] theorem t33size : (C.ty 33).size = 1 := rfl
@[go_sem] theorem t33bytes : (C.ty 33).bytes = 8 := rfl
@[go_sem] theorem t33agg : (C.ty 33).agg = false := rfl
@[go_sem] theorem t34ok : (C.ty 34).ok = true := rfl
@[go_sem] theorem t34size : (C.ty 34).size = 1 := rfl
@[go_sem] theorem t34bytes : (C.ty 34).bytes = 24 := rfl
@[go_sem] theorem t34agg : (C.ty 34).agg = false := rfl
@[go_sem] theorem t34sl : (C.ty 34).sl = some 23 := rfl
@[go_sem] theorem t34z : Xa (C.ty 34) = ((.slice none 0 0) : Value).cells.toList.map cv1 := rfl
@[go_sem] theorem t35ok : (C.ty 35).ok = true := rfl
@[go_sem] theorem t35size : (C.ty 35).size = 1 := rfl
@[go_sem] theorem t35bytes : (C.ty 35).bytes = 8 := rfl
@[go_sem] theorem t35agg : (C.ty 35).agg = false := rfl
@[go_sem] theorem t36ok : (C.ty 36).ok = true := rfl
@[go_sem] theorem t36size : (C.ty 36).size = 1 := rfl
@[go_sem] theorem t36bytes : (C.ty 36).bytes = 8 := rfl
@[go_sem] theorem t36agg : (C.ty 36).agg = false := rfl
@[go_sem] theorem t37ok : (C.ty 37).ok = true := rfl
@[go_sem] theorem t37size : (C.ty 37).size = 1 := rfl
@[go_sem] theorem t37bytes : (C.ty 37).bytes = 8 := rfl
@[go_sem] theorem t37agg : (C.ty 37).agg = false := rfl
@[go_sem] theorem t38ok : (C.ty 38).ok = true := rfl
@[go_sem] theorem t38size : (C.ty 38).size = 1 := rfl
@[go_sem] theorem t38bytes : (C.ty 38).bytes = 8 := rfl
@[go_sem] theorem t38agg : (C.ty 38).agg = false := rfl
@[go_sem] theorem t39ok : (C.ty 39).ok = true := rfl
@[go_sem] theorem t39size : (C.ty 39).size = 1 := rfl
@[go_sem] theorem t39bytes : (C.ty 39).bytes = 8 := rfl
@[go_sem] theorem t39agg : (C.ty 39).agg = false := rfl
@[go_sem] theorem t40ok : (C.ty 40).ok = true := rfl
@[go_sem] theorem t40size : (C.ty 40).size = 1 := rfl
@[go_sem] theorem t40bytes : (C.ty 40).bytes = 8 := rfl
@[go_sem] theorem t40agg : (C.ty 40).agg = false := rfl
@[go_sem] theorem t41ok : (C.ty 41).ok = true := rfl
@[go_sem] theorem t41size : (C.ty 41).size = 1 := rfl
@[go_sem] theorem t41bytes : (C.ty 41).bytes = 8 := rfl
@[go_sem] theorem t41agg : (C.ty 41).agg = false := rfl
@[go_sem] theorem t42ok : (C.ty 42).ok = true := rfl
@[go_sem] theorem t42size : (C.ty 42).size = 1 := rfl
@[go_sem] theorem t42bytes : (C.ty 42).bytes = 8 := rfl
@[go_sem] theorem t42agg : (C.ty 42).agg = false := rfl
@[go_sem] theorem t43ok : (C.ty 43).ok = true := rfl
@[go_sem] theorem t43size : (C.ty 43).size = 1 := rfl
@[go_sem] theorem t43bytes : (C.ty 43).bytes = 8 := rfl
@[go_sem] theorem t43agg : (C.ty 43).agg = false := rfl
@[go_sem] theorem t44ok : (C.ty 44).ok = true := rfl
@[go_sem] theorem t44size : (C.ty 44).size = 1 := rfl
@[go_sem] theorem t44bytes : (C.ty 44).bytes = 8 := rfl
@[go_sem] theorem t44agg : (C.ty 44).agg = false := rfl
@[go_sem] theorem t45ok : (C.ty 45).ok = true := rfl
@[go_sem] theorem t45size : (C.ty 45).size = 1 := rfl
@[go_sem] theorem t45bytes : (C.ty 45).bytes = 8 := rfl
@[go_sem] theorem t45agg : (C.ty 45).agg = false := rfl
@[go_sem] theorem t46ok : (C.ty 46).ok = true := rfl
@[go_sem] theorem t46size : (C.ty 46).size = 1 := rfl
@[go_sem] theorem t46bytes : (C.ty 46).bytes = 8 := rfl
@[go_sem] theorem t46agg : (C.ty 46).agg = false := rfl
@[go_sem] theorem t47ok : (C.ty 47).ok = true := rfl
@[go_sem] theorem t47size : (C.ty 47).size = 1 := rfl
@[go_sem] theorem t47bytes : (C.ty 47).bytes = 8 := rfl
@[go_sem] theorem t47agg : (C.ty 47).agg = false := rfl
@[go_sem] theorem t48ok : (C.ty 48).ok = true := rfl
@[go_sem] theorem t48size : (C.ty 48).size = 1 := rfl
@[go_sem] theorem t48bytes : (C.ty 48).bytes = 8 := rfl
@[go_sem] theorem t48agg : (C.ty 48).agg = false := rfl
@[go_sem] theorem t49ok : (C.ty 49).ok = true := rfl
@[go_sem] theorem t49size : (C.ty 49).size = 1 := rfl
@[go_sem] theorem t49bytes : (C.ty 49).bytes = 8 := rfl
@[go_sem] theorem t49agg : (C.ty 49).agg = false := rfl
@[go_sem] theorem t50ok : (C.ty 50).ok = true := rfl
@[go_sem] theorem t50size : (C.ty 50).size = 1 := rfl
@[go_sem] theorem t50bytes : (C.ty 50).bytes = 8 := rfl
@[go_sem] theorem t50agg : (C.ty 50).agg = false := rfl
@[go_sem] theorem t52ok : (C.ty 52).ok = true := rfl
@[go_sem] theorem t52size : (C.ty 52).size = 1 := rfl
@[go_sem] theorem t52bytes : (C.ty 52).bytes = 8 := rfl
@[go_sem] theorem t52agg : (C.ty 52).agg = false := rfl
@[go_sem] theorem t53ok : (C.ty 53).ok = true := rfl
@[go_sem] theorem t53size : (C.ty 53).size = 1 := rfl
@[go_sem] theorem t53bytes : (C.ty 53).bytes = 8 := rfl
@[go_sem] theorem t53agg : (C.ty 53).agg = false := rfl
@[go_sem] theorem t54ok : (C.ty 54).ok = true := rfl
@[go_sem] theorem t54size : (C.ty 54).size = 1 := rfl
@[go_sem] theorem t54bytes : (C.ty 54).bytes = 8 := rfl
@[go_sem] theorem t54agg : (C.ty 54).agg = false := rfl
@[go_sem] theorem t55ok : (C.ty 55).ok = true := rfl
@[go_sem] theorem t55size : (C.ty 55).size = 1 := rfl
@[go_sem] theorem t55bytes : (C.ty 55).bytes = 8 := rfl
@[go_sem] theorem t55agg : (C.ty 55).agg = false := rfl
@[go_sem] theorem t57ok : (C.ty 57).ok = true := rfl
@[go_sem] theorem t57size : (C.ty 57).size = 8 := rfl
@[go_sem] theorem t57bytes : (C.ty 57).bytes = 72 := rfl
@[go_sem] theorem t57agg : (C.ty 57).agg = true := rfl
@[go_sem] theorem t57fs : (C.ty 57).fs = [(0, 22), (1, 9), (2, 3), (3, 3), (4, 3), (5, 3), (6, 55), (7, 3)] := rfl
@[go_sem] theorem t57arr : (C.ty 57).arr = none := rfl
@[go_sem] theorem t57z : Xa (C.ty 57) = ((.agg #[(.int .i64 0), (.string ⟨#[]⟩), (.int .i64 0), (.int .i64 0), (.int .i64 0), (.int .i64 0), .nilFunc, (.int .i64 0)]) : Value).cells.toList.map cv1 := rfl
@[go_sem] theorem t60ok : (C.ty 60).ok = true := rfl
@[go_sem] theorem t60size : (C.ty 60).size = 1 := rfl
@[go_sem] theorem t60bytes : (C.ty 60).bytes = 8 := rfl
@[go_sem] theorem t60agg : (C.ty 60).agg = false := rfl
@[go_sem] theorem t62ok : (C.ty 62).ok = true := rfl
@[go_sem] theorem t62size : (C.ty 62).size = 1 := rfl
@[go_sem] theorem t62bytes : (C.ty 62).bytes = 8 := rfl
@[go_sem] theorem t62agg : (C.ty 62).agg = false := rfl
@[go_sem] theorem t63ok : (C.ty 63).ok = true := rfl
@[go_sem] theorem t63size : (C.ty 63).size = 1 := rfl
@[go_sem] theorem t63bytes : (C.ty 63).bytes = 8 := rfl
@[go_sem] theorem t63agg : (C.ty 63).agg = false := rfl
@[go_sem] theorem t64ok : (C.ty 64).ok = true := rfl
@[go_sem] theorem t64size : (C.ty 64).size = 1 := rfl
@[go_sem] theorem t64bytes : (C.ty 64).bytes = 8 := rfl
@[go_sem] theorem t64agg : (C.ty 64).agg = false := rfl
@[go_sem] theorem t65ok : (C.ty 65).ok = true := rfl
@[go_sem] theorem t65size : (C.ty 65).size = 1 := rfl
@[go_sem] theorem t65bytes : (C.ty 65).bytes = 8 := rfl
@[go_sem] theorem t65agg : (C.ty 65).agg = false := rfl
@[go_sem] theorem t66ok : (C.ty 66).ok = true := rfl
@[go_sem] theorem t66size : (C.ty 66).size = 1 := rfl
@[go_sem] theorem t66bytes : (C.ty 66).bytes = 8 := rfl
@[go_sem] theorem t66agg : (C.ty 66).agg = false := rfl
@[go_sem] theorem t67ok : (C.ty 67).ok = true := rfl
@[go_sem] theorem t67size : (C.ty 67).size = 1 := rfl
@[go_sem] theorem t67bytes : (C.ty 67).bytes = 8 := rfl
@[go_sem] theorem t67agg : (C.ty 67).agg = false := rfl
@[go_sem] theorem t68ok : (C.ty 68).ok = true := rfl
@[go_sem] theorem t68size : (C.ty 68).size = 1 := rfl
@[go_sem] theorem t68bytes : (C.ty 68).bytes = 8 := rfl
@[go_sem] theorem t68agg : (C.ty 68).agg = false := rfl
@[go_sem] theorem t69ok : (C.ty 69).ok = true := rfl
@[go_sem] theorem t69size : (C.ty 69).size = 1 := rfl
@[go_sem] theorem t69bytes : (C.ty 69).bytes = 8 := rfl
@[go_sem] theorem t69agg : (C.ty 69).agg = false := rfl
@[go_sem] theorem t70ok : (C.ty 70).ok = true := rfl
@[go_sem] theorem t70size : (C.ty 70).size = 1 := rfl
@[go_sem] theorem t70bytes : (C.ty 70).bytes = 8 := rfl
@[go_sem] theorem t70agg : (C.ty 70).agg = false := rfl
@[go_sem] theorem t72ok : (C.ty 72).ok = true := rfl
@[go_sem] theorem t72size : (C.ty 72).size = 1 := rfl
@[go_sem] theorem t72bytes : (C.ty 72).bytes = 8 := rfl
@[go_sem] theorem t72agg : (C.ty 72).agg = false := rfl
@[go_sem] theorem t76ok : (C.ty 76).ok = true := rfl
@[go_sem] theorem t76size : (C.ty 76).size = 1 := rfl
@[go_sem] theorem t76bytes : (C.ty 76).bytes = 8 := rfl
@[go_sem] theorem t76agg : (C.ty 76).agg = false := rfl
@[go_sem] theorem t77ok : (C.ty 77).ok = true := rfl
@[go_sem] theorem t77size : (C.ty 77).size = 1 := rfl
@[go_sem] theorem t77bytes : (C.ty 77).bytes = 8 := rfl
@[go_sem] theorem t77agg : (C.ty 77).agg = false := rfl
@[go_sem] theorem t78ok : (C.ty 78).ok = true := rfl
@[go_sem] theorem t78size : (C.ty 78).size = 1 := rfl
@[go_sem] theorem t78bytes : (C.ty 78).bytes = 8 := rfl
@[go_sem] theorem t78agg : (C.ty 78).agg = false := rfl
@[go_sem] theorem t79ok : (C.ty 79).ok = true := rfl
@[go_sem] theorem t79size : (C.ty 79).size = 1 := rfl
@[go_sem] theorem t79bytes : (C.ty 79).bytes = 8 := rfl
@[go_sem] theorem t79agg : (C.ty 79).agg = false := rfl
@[go_sem] theorem t80ok : (C.ty 80).ok = true := rfl
@[go_sem] theorem t80size : (C.ty 80).size = 1 := rfl
@[go_sem] theorem t80bytes : (C.ty 80).bytes = 8 := rfl
@[go_sem] theorem t80agg : (C.ty 80).agg = false := rfl
@[go_sem] theorem t81ok : (C.ty 81).ok = true := rfl
@[go_sem] theorem t81size : (C.ty 81).size = 1 := rfl
@[go_sem] theorem t81bytes : (C.ty 81).bytes = 8 := rfl
@[go_sem] theorem t81agg : (C.ty 81).agg = false := rfl
@[go_sem] theorem t82ok : (C.ty 82).ok = true := rfl
@[go_sem] theorem t82size : (C.ty 82).size = 1 := rfl
@[go_sem] theorem t82bytes : (C.ty 82).bytes = 8 := rfl
@[go_sem] theorem t82agg : (C.ty 82).agg = false := rfl
@[go_sem] theorem t83ok : (C.ty 83).ok = true := rfl
@[go_sem] theorem t83size : (C.ty 83).size = 1 := rfl
@[go_sem] theorem t83bytes : (C.ty 83).bytes = 8 := rfl
@[go_sem] theorem t83agg : (C.ty 83).agg = false := rfl
@[go_sem] theorem t84ok : (C.ty 84).ok = true := rfl
@[go_sem] theorem t84size : (C.ty 84).size = 1 := rfl
@[go_sem] theorem t84bytes : (C.ty 84).bytes = 8 := rfl
@[go_sem] theorem t84agg : (C.ty 84).agg = false := rfl
@[go_sem] theorem t85ok : (C.ty 85).ok = true := rfl
@[go_sem] theorem t85size : (C.ty 85).size = 1 := rfl
@[go_sem] theorem t85bytes : (C.ty 85).bytes = 8 := rfl
@[go_sem] theorem t85agg : (C.ty 85).agg = false := rfl
@[go_sem] theorem t86ok : (C.ty 86).ok = true := rfl
@[go_sem] theorem t86size : (C.ty 86).size = 1 := rfl
@[go_sem] theorem t86bytes : (C.ty 86).bytes = 8 := rfl
@[go_sem] theorem t86agg : (C.ty 86).agg = false := rfl
@[go_sem] theorem t87ok : (C.ty 87).ok = true := rfl
@[go_sem] theorem t87size : (C.ty 87).size = 1 := rfl
@[go_sem] theorem t87bytes : (C.ty 87).bytes = 8 := rfl
@[go_sem] theorem t87agg : (C.ty 87).agg = false := rfl
@[go_sem] theorem t90ok : (C.ty 90).ok = true := rfl
@[go_sem] theorem t90size : (C.ty 90).size = 1 := rfl
@[go_sem] theorem t90bytes : (C.ty 90).bytes = 8 := rfl
@[go_sem] theorem t90agg : (C.ty 90).agg = false := rfl
@[go_sem] theorem t91ok : (C.ty 91).ok = true := rfl
@[go_sem] theorem t91size : (C.ty 91).size = 1 := rfl
@[go_sem] theorem t91bytes : (C.ty 91).bytes = 24 := rfl
@[go_sem] theorem t91agg : (C.ty 91).agg = false := rfl
@[go_sem] theorem t91sl : (C.ty 91).sl = some 57 := rfl
@[go_sem] theorem t91z : Xa (C.ty 91) = ((.slice none 0 0) : Value).cells.toList.map cv1 := rfl
@[go_sem] theorem t92ok : (C.ty 92).ok = true := rfl
@[go_sem] theorem t92size : (C.ty 92).size = 1 := rfl
@[go_sem] theorem t92bytes : (C.ty 92).bytes = 8 := rfl
@[go_sem] theorem t92agg : (C.ty 92).agg = false := rfl
@[go_sem] theorem t95ok : (C.ty 95).ok = true := rfl
@[go_sem] theorem t95size : (C.ty 95).size = 1 := rfl
@[go_sem] theorem t95bytes : (C.ty 95).bytes = 8 := rfl
@[go_sem] theorem t95agg : (C.ty 95).agg = false := rfl
@[go_sem] theorem t96ok : (C.ty 96).ok = true := rfl
@[go_sem] theorem t96size : (C.ty 96).size = 1 := rfl
@[go_sem] theorem t96bytes : (C.ty 96).bytes = 8 := rfl
@[go_sem] theorem t96agg : (C.ty 96).agg = false := rfl
@[go_sem] theorem t97ok : (C.ty 97).ok = true := rfl
@[go_sem] theorem t97size : (C.ty 97).size = 1 := rfl
@[go_sem] theorem t97bytes : (C.ty 97).bytes = 8 := rfl
@[go_sem] theorem t97agg : (C.ty 97).agg = false := rfl
@[go_sem] theorem t98ok : (C.ty 98).ok = true := rfl
@[go_sem] theorem t98size : (C.ty 98).size = 1 := rfl
@[go_sem] theorem t98bytes : (C.ty 98).bytes = 8 := rfl
@[go_sem] theorem t98agg : (C.ty 98).agg = false := rfl
@[go_sem] theorem t99ok : (C.ty 99).ok = true := rfl
@[go_sem] theorem t99size : (C.ty 99).size = 1 := rfl
@[go_sem] theorem t99bytes : (C.ty 99).bytes = 8 := rfl
@[go_sem] theorem t99agg : (C.ty 99).agg = false := rfl
@[go_sem] theorem t100ok : (C.ty 100).ok = true := rfl
@[go_sem] theorem t100size : (C.ty 100).size = 1 := rfl
@[go_sem] theorem t100bytes : (C.ty 100).bytes = 8 := rfl
@[go_sem] theorem t100agg : (C.ty 100).agg = false := rfl
@[go_sem] theorem t101ok : (C.ty 101).ok = true := rfl
@[go_sem] theorem t101size : (C.ty 101).size = 1 := rfl
@[go_sem] theorem t101bytes : (C.ty 101).bytes = 8 := rfl
@[go_sem] theorem t101agg : (C.ty 101).agg = false := rfl
@[go_sem] theorem t103ok : (C.ty 103).ok = true := rfl
@[go_sem] theorem t103size : (C.ty 103).size = 1 := rfl
@[go_sem] theorem t103bytes : (C.ty 103).bytes = 8 := rfl
@[go_sem] theorem t103agg : (C.ty 103).agg = false := rfl
@[go_sem] theorem t103ik : (C.ty 103).ik = some .u64 := rfl
@[go_sem] theorem t103z : Xa (C.ty 103) = ((.int .u64 0) : Value).cells.toList.map cv1 := rfl
@[go_sem] theorem t104ok : (C.ty 104).ok = true := rfl
@[go_sem] theorem t104size : (C.ty 104).size = 1 := rfl
@[go_sem] theorem t104bytes : (C.ty 104).bytes = 8 := rfl
@[go_sem] theorem t104agg : (C.ty 104).agg = false := rfl
@[go_sem] theorem t105ok : (C.ty 105).ok = true := rfl
@[go_sem] theorem t105size : (C.ty 105).size = 1 := rfl
@[go_sem] theorem t105bytes : (C.ty 105).bytes = 8 := rfl
@[go_sem] theorem t105agg : (C.ty 105).agg = false := rfl
@[go_sem] theorem t105ik : (C.ty 105).ik = some .i64 := rfl
@[go_sem] theorem t105z : Xa (C.ty 105) = ((.int .i64 0) : Value).cells.toList.map cv1 := rfl
@[go_sem] theorem t108ok : (C.ty 108).ok = true := rfl
@[go_sem] theorem t108size : (C.ty 108).size = 1 := rfl
@[go_sem] theorem t108bytes : (C.ty 108).bytes = 8 := rfl
@[go_sem] theorem t108agg : (C.ty 108).agg = false := rfl
@[go_sem] theorem t109ok : (C.ty 109).ok = true := rfl
@[go_sem] theorem t109size : (C.ty 109).size = 1 := rfl
@[go_sem] theorem t109bytes : (C.ty 109).bytes = 8 := rfl
@[go_sem] theorem t109agg : (C.ty 109).agg = false := rfl
@[go_sem] theorem t110ok : (C.ty 110).ok = true := rfl
@[go_sem] theorem t110size : (C.ty 110).size = 1 := rfl
@[go_sem] theorem t110bytes : (C.ty 110).bytes = 8 := rfl
@[go_sem] theorem t110agg : (C.ty 110).agg = false := rfl
@[go_sem] theorem t111ok : (C.ty 111).ok = true := rfl
@[go_sem] theorem t111size : (C.ty 111).size = 1 := rfl
@[go_sem] theorem t111bytes : (C.ty 111).bytes = 8 := rfl
@[go_sem] theorem t111agg : (C.ty 111).agg = false := rfl
@[go_sem] theorem t112ok : (C.ty 112).ok = true := rfl
@[go_sem] theorem t112size : (C.ty 112).size = 1 := rfl
@[go_sem] theorem t112bytes : (C.ty 112).bytes = 4 := rfl
@[go_sem] theorem t112agg : (C.ty 112).agg = false := rfl
@[go_sem] theorem t112ik : (C.ty 112).ik = some .u32 := rfl
@[go_sem] theorem t112z : Xa (C.ty 112) = ((.int .u32 0) : Value).cells.toList.map cv1 := rfl
@[go_sem] theorem t113ok : (C.ty 113).ok = true := rfl
@[go_sem] theorem t113size : (C.ty 113).size = 1 := rfl
@[go_sem] theorem t113bytes : (C.ty 113).bytes = 8 := rfl
@[go_sem] theorem t113agg : (C.ty 113).agg = false := rfl
@[go_sem] theorem t114ok : (C.ty 114).ok = true := rfl
@[go_sem] theorem t114size : (C.ty 114).size = 1 := rfl
@[go_sem] theorem t114bytes : (C.ty 114).bytes = 8 := rfl
@[go_sem] theorem t114agg : (C.ty 114).agg = false := rfl
@[go_sem] theorem t114ik : (C.ty 114).ik = some .u64 := rfl
@[go_sem] theorem t114z : Xa (C.ty 114) = ((.int .u64 0) : Value).cells.toList.map cv1 := rfl
@[go_sem] theorem t115ok : (C.ty 115).ok = true := rfl
@[go_sem] theorem t115size : (C.ty 115).size = 1 := rfl
@[go_sem] theorem t115bytes : (C.ty 115).bytes = 8 := rfl
@[go_sem] theorem t115agg : (C.ty 115).agg = false := rfl
@[go_sem] theorem t115ik : (C.ty 115).ik = some .u64 := rfl
@[go_sem] theorem t115z : Xa (C.ty 115) = ((.int .u64 0) : Value).cells.toList.map cv1 := rfl
@[go_sem] theorem t116ok : (C.ty 116).ok = true := rfl
@[go_sem] theorem t116size : (C.ty 116).size = 1 := rfl
@[go_sem] theorem t116bytes : (C.ty 116).bytes = 8 := rfl
@[go_sem] theorem t116agg : (C.ty 116).agg = false := rfl
@[go_sem] theorem t117ok : (C.ty 117).ok = true := rfl
@[go_sem] theorem t117size : (C.ty 117).size = 1 := rfl
@[go_sem] theorem t117bytes : (C.ty 117).bytes = 8 := rfl
@[go_sem] theorem t117agg : (C.ty 117).agg = false := rfl
@[go_sem] theorem t118ok : (C.ty 118).ok = true := rfl
@[go_sem] theorem t118size : (C.ty 118).size = 1 := rfl
@[go_sem] theorem t118bytes : (C.ty 118).bytes = 8 := rfl
@[go_sem] theorem t118agg : (C.ty 118).agg = false := rfl
@[go_sem] theorem t119ok : (C.ty 119).ok = true := rfl
@[go_sem] theorem t119size : (C.ty 119).size = 1 := rfl
@[go_sem] theorem t119bytes : (C.ty 119).bytes = 8 := rfl
@[go_sem] theorem t119agg : (C.ty 119).agg = false := rfl
@[go_sem] theorem t119z : Xa (C.ty 119) = ((.pointer none) : Value).cells.toList.map cv1 := rfl
@[go_sem] theorem t121ok : (C.ty 121).ok = true := rfl
@[go_sem] theorem t121size : (C.ty 121).size = 1 := rfl
@[go_sem] theorem t121bytes : (C.ty 121).bytes = 8 := rfl
@[go_sem] theorem t121agg : (C.ty 121).agg = false := rfl
@[go_sem] theorem t121z : Xa (C.ty 121) = ((.pointer none) : Value).cells.toList.map cv1 := rfl
@[go_sem] theorem t122ok : (C.ty 122).ok = true := rfl
@[go_sem] theorem t122size : (C.ty 122).size = 1 := rfl
@[go_sem] theorem t122bytes : (C.ty 122).bytes = 8 := rfl
@[go_sem] theorem t122agg : (C.ty 122).agg = false := rfl
@[go_sem] theorem t123ok : (C.ty 123).ok = true := rfl
@[go_sem] theorem t123size : (C.ty 123).size = 1 := rfl
@[go_sem] theorem t123bytes : (C.ty 123).bytes = 8 := rfl
@[go_sem] theorem t123agg : (C.ty 123).agg = false := rfl
abbrev t0 : Go.Operand := .tmp 0
abbrev t1 : Go.Operand := .tmp 1
abbrev t2 : Go.Operand := .tmp 2
abbrev t3 : Go.Operand := .tmp 3
abbrev t4 : Go.Operand := .tmp 4
abbrev t5 : Go.Operand := .tmp 5
abbrev t6 : Go.Operand := .tmp 6
abbrev t7 : Go.Operand := .tmp 7
abbrev t8 : Go.Operand := .tmp 8
abbrev t9 : Go.Operand := .tmp 9
abbrev t10 : Go.Operand := .tmp 10
abbrev t11 : Go.Operand := .tmp 11
abbrev t12 : Go.Operand := .tmp 12
abbrev t13 : Go.Operand := .tmp 13
abbrev t14 : Go.Operand := .tmp 14
abbrev t15 : Go.Operand := .tmp 15
abbrev t16 : Go.Operand := .tmp 16
abbrev t17 : Go.Operand := .tmp 17
abbrev t18 : Go.Operand := .tmp 18
abbrev t19 : Go.Operand := .tmp 19
abbrev t20 : Go.Operand := .tmp 20
abbrev t21 : Go.Operand := .tmp 21
abbrev t22 : Go.Operand := .tmp 22
abbrev t23 : Go.Operand := .tmp 23
abbrev t24 : Go.Operand := .tmp 24
abbrev t25 : Go.Operand := .tmp 25
abbrev t26 : Go.Operand := .tmp 26
abbrev t27 : Go.Operand := .tmp 27
abbrev t28 : Go.Operand := .tmp 28
abbrev t29 : Go.Operand := .tmp 29
abbrev t30 : Go.Operand := .tmp 30
abbrev t31 : Go.Operand := .tmp 31
abbrev t32 : Go.Operand := .tmp 32
abbrev t33 : Go.Operand := .tmp 33
abbrev t34 : Go.Operand := .tmp 34
abbrev t35 : Go.Operand := .tmp 35
abbrev t36 : Go.Operand := .tmp 36
abbrev t37 : Go.Operand := .tmp 37
abbrev t38 : Go.Operand := .tmp 38
abbrev t39 : Go.Operand := .tmp 39
abbrev t40 : Go.Operand := .tmp 40
abbrev t41 : Go.Operand := .tmp 41
abbrev t42 : Go.Operand := .tmp 42
abbrev t43 : Go.Operand := .tmp 43
abbrev t44 : Go.Operand := .tmp 44
abbrev t45 : Go.Operand := .tmp 45
abbrev t46 : Go.Operand := .tmp 46
abbrev t47 : Go.Operand := .tmp 47
abbrev t48 : Go.Operand := .tmp 48
abbrev t49 : Go.Operand := .tmp 49
abbrev t50 : Go.Operand := .tmp 50
abbrev t51 : Go.Operand := .tmp 51
abbrev t52 : Go.Operand := .tmp 52
abbrev t53 : Go.Operand := .tmp 53
abbrev t54 : Go.Operand := .tmp 54
abbrev t55 : Go.Operand := .tmp 55
abbrev t56 : Go.Operand := .tmp 56
abbrev t57 : Go.Operand := .tmp 57
abbrev t58 : Go.Operand := .tmp 58
abbrev t59 : Go.Operand := .tmp 59
abbrev t60 : Go.Operand := .tmp 60
abbrev t61 : Go.Operand := .tmp 61
abbrev t62 : Go.Operand := .tmp 62
abbrev t63 : Go.Operand := .tmp 63
abbrev t64 : Go.Operand := .tmp 64
abbrev t65 : Go.Operand := .tmp 65
abbrev t66 : Go.Operand := .tmp 66
abbrev t67 : Go.Operand := .tmp 67
abbrev t68 : Go.Operand := .tmp 68
abbrev t69 : Go.Operand := .tmp 69
abbrev t70 : Go.Operand := .tmp 70
abbrev t71 : Go.Operand := .tmp 71
abbrev t72 : Go.Operand := .tmp 72
abbrev t73 : Go.Operand := .tmp 73
abbrev t74 : Go.Operand := .tmp 74
abbrev t75 : Go.Operand := .tmp 75
abbrev t76 : Go.Operand := .tmp 76
abbrev t77 : Go.Operand := .tmp 77
abbrev t78 : Go.Operand := .tmp 78
abbrev t79 : Go.Operand := .tmp 79
abbrev t80 : Go.Operand := .tmp 80
abbrev t81 : Go.Operand := .tmp 81
abbrev t82 : Go.Operand := .tmp 82
abbrev t83 : Go.Operand := .tmp 83
abbrev t84 : Go.Operand := .tmp 84
abbrev t85 : Go.Operand := .tmp 85
abbrev t86 : Go.Operand := .tmp 86
abbrev t87 : Go.Operand := .tmp 87
abbrev t88 : Go.Operand := .tmp 88
abbrev t89 : Go.Operand := .tmp 89
abbrev t90 : Go.Operand := .tmp 90
abbrev t91 : Go.Operand := .tmp 91
abbrev t92 : Go.Operand := .tmp 92
abbrev t93 : Go.Operand := .tmp 93
abbrev t94 : Go.Operand := .tmp 94
abbrev t95 : Go.Operand := .tmp 95
abbrev t96 : Go.Operand := .tmp 96
abbrev t97 : Go.Operand := .tmp 97
abbrev t98 : Go.Operand := .tmp 98
abbrev t99 : Go.Operand := .tmp 99
abbrev t100 : Go.Operand := .tmp 100
abbrev t101 : Go.Operand := .tmp 101
abbrev t102 : Go.Operand := .tmp 102
abbrev t103 : Go.Operand := .tmp 103
abbrev t104 : Go.Operand := .tmp 104
abbrev t105 : Go.Operand := .tmp 105
abbrev t106 : Go.Operand := .tmp 106
abbrev t107 : Go.Operand := .tmp 107
abbrev t108 : Go.Operand := .tmp 108
abbrev t109 : Go.Operand := .tmp 109
abbrev t110 : Go.Operand := .tmp 110
abbrev t111 : Go.Operand := .tmp 111
abbrev t112 : Go.Operand := .tmp 112
abbrev t113 : Go.Operand := .tmp 113
abbrev t114 : Go.Operand := .tmp 114
abbrev t115 : Go.Operand := .tmp 115
abbrev t116 : Go.Operand := .tmp 116
abbrev t117 : Go.Operand := .tmp 117
abbrev t118 : Go.Operand := .tmp 118
abbrev t119 : Go.Operand := .tmp 119
abbrev t120 : Go.Operand := .tmp 120
abbrev t121 : Go.Operand := .tmp 121
abbrev t122 : Go.Operand := .tmp 122
abbrev t123 : Go.Operand := .tmp 123
abbrev t124 : Go.Operand := .tmp 124
abbrev t125 : Go.Operand := .tmp 125
abbrev t126 : Go.Operand := .tmp 126
abbrev t127 : Go.Operand := .tmp 127
abbrev t128 : Go.Operand := .tmp 128
abbrev t129 : Go.Operand := .tmp 129
abbrev t130 : Go.Operand := .tmp 130
abbrev t131 : Go.Operand := .tmp 131
abbrev t132 : Go.Operand := .tmp 132
abbrev t133 : Go.Operand := .tmp 133
abbrev t134 : Go.Operand := .tmp 134
abbrev t135 : Go.Operand := .tmp 135
theorem w13 : Try.f13.body.map (Qq C) = some (.q (.R [.n 4 (.assign (.const (.bool false)))]) (.q (.q (.R [.n 6 (.move t0), .n 7 (.call ⟨.builtin .len, #[t6], #[23]⟩), .n 8 (.move t1), .n 9 (.call ⟨.builtin .len, #[t8], #[23]⟩), .n 10 (.binOp .neq 3 t7 t9 3)]) (.c t10 (.q (.R [.n 4 (.assign (.const (.bool false)))]) .r) .s)) (.q (.q (.R [.n 5 (.assign (.const (.int .i64 0)))]) (.b 0 (.l (.q (.q (.R [.n 11 (.move t5), .n 12 (.move t0), .n 13 (.call ⟨.builtin .len, #[t12], #[23]⟩), .n 14 (.binOp .lss 3 t11 t13 3)]) (.c t14 .s (.x 0))) (.q (.b 1 (.q (.D true [.n 17 (.move t0), .n 18 (.move t5), .n 19 (.indexAddr 23 t17 t18), .n 20 (.load 3 t19), .n 21 (.move t1), .n 22 (.move t5), .n 23 (.indexAddr 23 t21 t22), .n 24 (.load 3 t23), .n 25 (.binOp .neq 3 t20 t24 3)]) (.c t25 (.q (.R [.n 4 (.assign (.const (.bool false)))]) .r) .s))) (.R [.n 15 (.move t5), .n 16 (.binOp .add 3 t15 (.const (.int .i64 1)) 3), .n 5 (.assign t16)])))))) (.q (.R [.n 4 (.assign (.const (.bool true)))]) .r)))) := by kernel_rfl
theorem w34 : Try.f34.body.map (Qq C) = some (.q (.R [.n 2 (.assign (.const (.int .i64 0)))]) (.sc (.q (.R [.n 3 (.assign (.const (.int .i64 1)))]) (.q (.lb 0) (.q (.q (.R [.n 6 (.move t0), .n 7 (.call ⟨.builtin .len, #[t6], #[23]⟩), .n 8 (.move (.const (.int .i64 0)))]) (.b 0 (.l (.q (.R [.n 9 (.binOp .lss 3 t8 t7 3)]) (.q (.c t9 .s (.x 0)) (.q (.b 1 (.q (.R [.n 10 (.indexAddr 23 t6 t8), .n 11 (.load 3 t10), .n 5 (.assign t11)]) (.q (.q (.R [.n 12 (.move t5), .n 13 (.move t3), .n 14 (.binOp .quo 3 (.const (.int .i64 1024)) t13 3), .n 15 (.binOp .gtr 3 t12 t14 3)]) (.c t15 (.q (.R [.n 3 (.assign (.const (.int .i64 1025)))]) (.x 0)) .s)) (.R [.n 16 (.move t3), .n 17 (.move t5), .n 18 (.binOp .mul 3 t16 t17 3), .n 3 (.assign t18)])))) (.R [.n 19 (.binOp .add 3 t8 (.const (.int .i64 1)) 3), .n 8 (.move t19)]))))))) (.q (.R [.n 20 (.move t3), .n 2 (.assign t20)]) .r)))))) := by kernel_rfl
theorem w23 : Try.f23.body.map (Qq C) = some (.q (.R [.n 2 (.assign (.const (.int .i64 0)))]) (.q (.q (.R [.n 5 (.move t0), .n 6 (.call ⟨.builtin .len, #[t5], #[28]⟩), .n 7 (.binOp .gtr 3 t6 (.const (.int .i64 4)) 3)]) (.c t7 (.q (.R [.n 2 (.assign (.const (.int .i64 14)))]) .r) .s)) (.q (.q (.R [.n 8 (.move t0), .n 9 (.call ⟨.builtin .len, #[t8], #[28]⟩), .n 10 (.move (.const (.int .i64 0)))]) (.b 0 (.l (.q (.R [.n 11 (.binOp .lss 3 t10 t9 3)]) (.q (.c t11 .s (.x 0)) (.q (.b 1 (.q (.R [.n 12 (.indexAddr 28 t8 t10), .n 13 (.load 3 t12), .n 4 (.assign t13)]) (.q (.R [.n 14 (.move t4), .n 15 (.binOp .lss 3 t14 (.const (.int .i64 1)) 3)]) (.c t15 (.q (.R [.n 2 (.assign (.const (.int .i64 13)))]) .r) .s)))) (.R [.n 16 (.binOp .add 3 t10 (.const (.int .i64 1)) 3), .n 10 (.move t16)]))))))) (.q (.q (.R [.n 17 (.move t0), .n 18 (.call ⟨.value (.func 34), #[t17], #[23]⟩), .n 19 (.binOp .gtr 3 t18 (.const (.int .i64 1024)) 3)]) (.c t19 (.q (.R [.n 2 (.assign (.const (.int .i64 14)))]) .r) .s)) (.q (.R [.n 2 (.assign (.const (.int .i64 0)))]) .r))))) := by kernel_rfl
theorem w29 : Try.f29.body.map (Qq C) = some (.q (.R [.n 2 (.assign (.const (.int .i64 0)))]) (.q (.q (.R [.n 3 (.move t0), .n 4 (.call ⟨.value (.func 23), #[t3], #[28]⟩), .n 5 (.binOp .neq 29 t4 (.const (.int .i64 0)) 29)]) (.c t5 (.q (.R [.n 2 (.assign (.const (.int .i64 0)))]) .r) .s)) (.q (.R [.n 6 (.move t0), .n 7 (.call ⟨.value (.func 34), #[t6], #[23]⟩), .n 2 (.assign t7)]) .r))) := by kernel_rfl
theorem w38 : Try.f38.body.map (Qq C) = some (.q (.R [.n 4 (.assign (.const (.bool false)))]) (.q (.R [.n 5 (.move t0), .n 6 (.move t1), .n 7 (.call ⟨.value (.func 59), #[t5, t6], #[28, 28]⟩), .n 4 (.assign t7)]) .r)) := by kernel_rfl
theorem w59 : Try.f59.body.map (Qq C) = some (.q (.R [.n 4 (.assign (.const (.bool false)))]) (.q (.q (.R [.n 6 (.move t0), .n 7 (.call ⟨.builtin .len, #[t6], #[28]⟩), .n 8 (.move t1), .n 9 (.call ⟨.builtin .len, #[t8], #[28]⟩), .n 10 (.binOp .neq 3 t7 t9 3)]) (.c t10 (.q (.R [.n 4 (.assign (.const (.bool false)))]) .r) .s)) (.q (.q (.R [.n 11 (.move t0), .n 12 (.call ⟨.builtin .len, #[t11], #[28]⟩), .n 13 (.move (.const (.int .i64 0)))]) (.b 0 (.l (.q (.R [.n 14 (.binOp .lss 3 t13 t12 3)]) (.q (.c t14 .s (.x 0)) (.q (.b 1 (.q (.R [.n 15 (.move t13), .n 5 (.assign t15)]) (.q (.D true [.n 16 (.move t0), .n 17 (.move t5), .n 18 (.indexAddr 28 t16 t17), .n 19 (.load 3 t18), .n 20 (.move t1), .n 21 (.move t5), .n 22 (.indexAddr 28 t20 t21), .n 23 (.load 3 t22), .n 24 (.binOp .neq 3 t19 t23 3)]) (.c t24 (.q (.R [.n 4 (.assign (.const (.bool false)))]) .r) .s)))) (.R [.n 25 (.binOp .add 3 t13 (.const (.int .i64 1)) 3), .n 13 (.move t25)]))))))) (.q (.R [.n 4 (.assign (.const (.bool true)))]) .r)))) := by kernel_rfl
theorem w40 : Try.f40.body.map (Qq C) = some (.q (.R [.n 4 (.assign (.const (.int .i64 0)))]) (.q (.q (.R [.n 11 (.move t0), .n 12 (.move t1), .n 13 (.buildSlice 26 2 #[(0, t11), (1, t12)]), .n 14 (.call ⟨.builtin .len, #[t13], #[26]⟩), .n 15 (.move (.const (.int .i64 0)))]) (.b 0 (.l (.q (.R [.n 16 (.binOp .lss 3 t15 t14 3)]) (.q (.c t16 .s (.x 0)) (.q (.b 1 (.q (.R [.n 17 (.indexAddr 26 t13 t15), .n 18 (.load 28 t17), .n 6 (.assign t18)]) (.q (.R [.n 19 (.move t6), .n 20 (.call ⟨.value (.func 23), #[t19], #[28]⟩), .n 7 (.assign t20)]) (.q (.R [.n 21 (.move t7), .n 22 (.binOp .neq 29 t21 (.const (.int .i64 0)) 29)]) (.c t22 (.q (.R [.n 23 (.move t7), .n 4 (.assign t23)]) .r) .s))))) (.R [.n 24 (.binOp .add 3 t15 (.const (.int .i64 1)) 3), .n 15 (.move t24)]))))))) (.q (.R [.n 25 (.move t1), .n 26 (.call ⟨.builtin .len, #[t25], #[28]⟩), .n 27 (.move t0), .n 28 (.call ⟨.builtin .len, #[t27], #[28]⟩), .n 29 (.binOp .sub 3 t26 t28 3), .n 8 (.assign t29)]) (.q (.q (.R [.n 30 (.move t8), .n 31 (.binOp .lss 3 t30 (.const (.int .i64 0)) 3)]) (.c t31 (.q (.R [.n 4 (.assign (.const (.int .i64 13)))]) .r) .s)) (.q (.q (.R [.n 32 (.move t0), .n 33 (.call ⟨.builtin .len, #[t32], #[28]⟩), .n 34 (.move (.const (.int .i64 0)))]) (.b 2 (.l (.q (.R [.n 35 (.binOp .lss 3 t34 t33 3)]) (.q (.c t35 .s (.x 2)) (.q (.b 3 (.q (.R [.n 36 (.move t34), .n 37 (.indexAddr 28 t32 t34), .n 38 (.load 3 t37), .n 9 (.assign t36), .n 10 (.assign t38)]) (.q (.R [.n 39 (.move t10), .n 40 (.binOp .neq 3 t39 (.const (.int .i64 1)) 3), .n 41 (.move t40), .g (some 42) (.move t10) 41 true, .g (some 43) (.move t1) 41 true, .g (some 44) (.move t8) 41 true, .g (some 45) (.move t9) 41 true, .g (some 46) (.binOp .add 3 t44 t45 3) 41 true, .g (some 47) (.indexAddr 28 t43 t46) 41 true, .g (some 48) (.load 3 t47) 41 true, .g (some 49) (.binOp .neq 3 t42 t48 3) 41 true, .n 50 (.pick t41 t49 (.const (.bool false)))]) (.c t50 (.q (.R [.n 4 (.assign (.const (.int .i64 13)))]) .r) .s)))) (.R [.n 51 (.binOp .add 3 t34 (.const (.int .i64 1)) 3), .n 34 (.move t51)]))))))) (.q (.R [.n 4 (.assign (.const (.int .i64 0)))]) .r)))))) := by kernel_rfl
theorem w42 : Try.f42.body.map (Qq C) = some (.q (.R [.n 4 (.assign (.const (.int .i64 0)))]) (.q (.R [.n 5 (.assign (.const (.int .i64 (-1))))]) (.q (.q (.R [.n 8 (.move t0), .n 9 (.call ⟨.builtin .len, #[t8], #[23]⟩), .n 10 (.move (.const (.int .i64 0)))]) (.b 0 (.l (.q (.R [.n 11 (.binOp .lss 3 t10 t9 3)]) (.q (.c t11 .s (.x 0)) (.q (.b 1 (.q (.R [.n 12 (.indexAddr 23 t8 t10), .n 13 (.load 3 t12), .n 7 (.assign t13)]) (.q (.q (.R [.n 14 (.move t7), .n 15 (.move t5), .n 16 (.binOp .leq 3 t14 t15 3), .n 17 (.move t16), .g (some 18) (.move t7) 17 false, .g (some 19) (.move t1) 17 false, .g (some 20) (.binOp .geq 3 t18 t19 3) 17 false, .n 21 (.pick t17 (.const (.bool true)) t20)]) (.c t21 (.q (.R [.n 4 (.assign (.const (.int .i64 11)))]) .r) .s)) (.R [.n 22 (.move t7), .n 5 (.assign t22)])))) (.R [.n 23 (.binOp .add 3 t10 (.const (.int .i64 1)) 3), .n 10 (.move t23)]))))))) (.q (.R [.n 4 (.assign (.const (.int .i64 0)))]) .r)))) := by kernel_rfl
theorem w68 : Try.f68.body.map (Qq C) = some (.q (.R [.n 4 (.assign (.const (.bool false)))]) (.q (.R [.n 5 (.move t0), .n 6 (.move t1), .n 7 (.call ⟨.value (.func 79), #[t5, t6], #[23, 3]⟩), .n 8 (.binOp .geq 3 t7 (.const (.int .i64 0)) 3), .n 4 (.assign t8)]) .r)) := by kernel_rfl
theorem w79 : Try.f79.body.map (Qq C) = some (.q (.R [.n 4 (.assign (.const (.int .i64 0)))]) (.q (.q (.R [.n 6 (.move t0), .n 7 (.call ⟨.builtin .len, #[t6], #[23]⟩), .n 8 (.move (.const (.int .i64 0)))]) (.b 0 (.l (.q (.R [.n 9 (.binOp .lss 3 t8 t7 3)]) (.q (.c t9 .s (.x 0)) (.q (.b 1 (.q (.R [.n 10 (.move t8), .n 5 (.assign t10)]) (.q (.R [.n 11 (.move t1), .n 12 (.move t0), .n 13 (.move t5), .n 14 (.indexAddr 23 t12 t13), .n 15 (.load 3 t14), .n 16 (.binOp .eql 3 t11 t15 3)]) (.c t16 (.q (.R [.n 17 (.move t5), .n 4 (.assign t17)]) .r) .s)))) (.R [.n 18 (.binOp .add 3 t8 (.const (.int .i64 1)) 3), .n 8 (.move t18)]))))))) (.q (.R [.n 4 (.assign (.const (.int .i64 (-1))))]) .r))) := by kernel_rfl
theorem w62 : Try.f62.body.map (Qq C) = some (.q (.R [.n 2 (.assign (.const (.slice none 0 0)))]) (.q (.R [.n 3 (.move t0), .n 2 (.assign t3)]) .r)) := by kernel_rfl
theorem w61 : Try.f61.body.map (Qq C) = some (.q (.R [.n 6 (.assign (.const (.slice none 0 0)))]) (.q (.q (.R [.n 9 (.move t0), .n 10 (.call ⟨.builtin .len, #[t9], #[28]⟩), .n 11 (.move (.const (.int .i64 0)))]) (.b 0 (.l (.q (.R [.n 12 (.binOp .lss 3 t11 t10 3)]) (.q (.c t12 .s (.x 0)) (.q (.b 1 (.q (.R [.n 13 (.move t11), .n 14 (.indexAddr 28 t9 t11), .n 15 (.load 3 t14), .n 7 (.assign t13), .n 8 (.assign t15)]) (.q (.R [.n 16 (.move t1), .n 17 (.move t7), .n 18 (.call ⟨.value (.func 68), #[t16, t17], #[23, 3]⟩)]) (.c t18 (.R [.n 19 (.move t2), .n 20 (.move t6), .n 21 (.call ⟨.value t19, #[t20], #[28]⟩), .n 6 (.assign t21)]) (.R [.n 22 (.move t6), .n 23 (.move t8), .n 24 (.buildSlice 28 1 #[(0, t23)]), .n 25 (.call ⟨.builtin .append, #[t22, t24], #[28, 28]⟩), .n 6 (.assign t25)]))))) (.R [.n 26 (.binOp .add 3 t11 (.const (.int .i64 1)) 3), .n 11 (.move t26)]))))))) (.q (.R [.n 27 (.move t6), .n 6 (.assign t27)]) .r))) := by kernel_rfl
theorem w43 : Try.f43.body.map (Qq C) = some (.q (.R [.n 4 (.assign (.const (.slice none 0 0)))]) (.q (.R [.n 5 (.move t0), .n 6 (.move t1), .n 7 (.call ⟨.value (.func 61), #[t5, t6, .func 62], #[28, 23, 62]⟩), .n 4 (.assign t7)]) .r)) := by kernel_rfl
theorem w35 : Try.f35.body.map (Qq C) = some (.q (.R [.n 2 (.assign (.const (.slice none 0 0)))]) (.q (.q (.R [.n 3 (.move t0), .n 4 (.binOp .eql 28 t3 (.const (.slice none 0 0)) 28)]) (.c t4 (.q (.R [.n 2 (.assign (.const (.slice none 0 0)))]) .r) .s)) (.q (.R [.n 5 (.buildSlice 28 0 #[]), .n 6 (.move t0), .n 7 (.call ⟨.builtin .append, #[t5, t6], #[28, 28]⟩), .n 2 (.assign t7)]) .r))) := by kernel_rfl
theorem w36 : Try.f36.body.map (Qq C) = some (.q (.R [.n 2 (.assign (.const (.slice none 0 0)))]) (.q (.q (.R [.n 3 (.move t0), .n 4 (.binOp .eql 23 t3 (.const (.slice none 0 0)) 23)]) (.c t4 (.q (.R [.n 2 (.assign (.const (.slice none 0 0)))]) .r) .s)) (.q (.R [.n 5 (.buildSlice 23 0 #[]), .n 6 (.move t0), .n 7 (.call ⟨.builtin .append, #[t5, t6], #[23, 23]⟩), .n 2 (.assign t7)]) .r))) := by kernel_rfl
theorem w70 : Try.f70.body.map (Qq C) = some (.q (.R [.n 2 (.assign (.const (.bool false)))]) (.q (.R [.n 3 (.move t0), .n 4 (.call ⟨.builtin .len, #[t3], #[23]⟩), .n 5 (.binOp .eql 3 t4 (.const (.int .i64 0)) 3), .n 2 (.assign t5)]) .r)) := by kernel_rfl
theorem w71 : Try.f71.body.map (Qq C) = some (.q (.R [.n 1 (.box 3 t0), .n 2 (.assign (.const .nilFunc))]) (.q (.R [.n 3 (.makeFunc (.func 80) #[] #[t1]), .n 2 (.assign t3)]) .r)) := by kernel_rfl
theorem w80 : Try.f80.body.map (Qq C) = some (.q (.R [.n 3 (.assign (.const (.bool false)))]) (.q (.D true [.n 4 (.move t0), .n 5 (.call ⟨.builtin .len, #[t4], #[23]⟩), .n 6 (.binOp .eql 3 t5 (.const (.int .i64 1)) 3), .n 7 (.move t6), .g (some 8) (.move t0) 7 true, .g (some 9) (.indexAddr 23 t8 (.const (.int .i64 0))) 7 true, .g (some 10) (.load 3 t9) 7 true, .g (some 11) (.binOp .geq 3 t10 (.const (.int .i64 0)) 3) 7 true, .n 12 (.pick t7 t11 (.const (.bool false))), .n 13 (.move t12), .g (some 14) (.move t0) 13 true, .g (some 15) (.indexAddr 23 t14 (.const (.int .i64 0))) 13 true, .g (some 16) (.load 3 t15) 13 true, .g (some 17) (.load 3 t1) 13 true, .g (some 18) (.binOp .leq 3 t16 t17 3) 13 true, .n 19 (.pick t13 t18 (.const (.bool false))), .n 3 (.assign t19)]) .r)) := by kernel_rfl
theorem w72 : Try.f72.body.map (Qq C) = some (.q (.R [.n 2 (.assign (.const (.bool false)))]) (.q (.q (.R [.n 5 (.move t0), .n 6 (.call ⟨.builtin .len, #[t5], #[23]⟩), .n 7 (.binOp .neq 3 t6 (.const (.int .i64 2)) 3), .n 8 (.move t7), .g (some 9) (.move t0) 8 false, .g (some 10) (.indexAddr 23 t9 (.const (.int .i64 1))) 8 false, .g (some 11) (.load 3 t10) 8 false, .g (some 12) (.binOp .lss 3 t11 (.const (.int .i64 1)) 3) 8 false, .n 13 (.pick t8 (.const (.bool true)) t12)]) (.c t13 (.q (.R [.n 2 (.assign (.const (.bool false)))]) .r) .s)) (.q (.D true [.n 14 (.move t0), .n 15 (.indexAddr 23 t14 (.const (.int .i64 0))), .n 16 (.load 3 t15), .n 17 (.move t0), .n 18 (.indexAddr 23 t17 (.const (.int .i64 0))), .n 19 (.load 3 t18), .n 20 (.unOp .neg 3 t19), .n 21 (.call ⟨.builtin .max, #[t16, t20], #[3, 3]⟩), .n 22 (.move t0), .n 23 (.indexAddr 23 t22 (.const (.int .i64 1))), .n 24 (.load 3 t23), .n 3 (.assign t21), .n 4 (.assign t24)]) (.q (.b 0 (.l (.q (.q (.R [.n 25 (.move t4), .n 26 (.binOp .gtr 3 t25 (.const (.int .i64 0)) 3)]) (.c t26 .s (.x 0))) (.b 1 (.D true [.n 27 (.move t4), .n 28 (.move t3), .n 29 (.move t4), .n 30 (.binOp .rem 3 t28 t29 3), .n 3 (.assign t27), .n 4 (.assign t30)]))))) (.q (.R [.n 31 (.move t3), .n 32 (.binOp .eql 3 t31 (.const (.int .i64 1)) 3), .n 2 (.assign t32)]) .r))))) := by kernel_rfl
theorem w74 : Try.f74.body.map (Qq C) = some (.q (.R [.n 2 (.assign (.const (.bool false)))]) (.q (.R [.n 3 (.move t0), .n 4 (.call ⟨.value (.func 23), #[t3], #[28]⟩), .n 5 (.binOp .eql 29 t4 (.const (.int .i64 0)) 29), .n 2 (.assign t5)]) .r)) := by kernel_rfl
theorem w75 : Try.f75.body.map (Qq C) = some (.q (.R [.n 2 (.assign (.const (.bool false)))]) (.q (.R [.n 3 (.move t0), .n 4 (.call ⟨.value (.func 42), #[t3, .const (.int .i64 4)], #[23, 3]⟩), .n 5 (.binOp .eql 29 t4 (.const (.int .i64 0)) 29), .n 2 (.assign t5)]) .r)) := by kernel_rfl
theorem w76 : Try.f76.body.map (Qq C) = some (.q (.R [.n 1 (.box 79 t0), .n 2 (.assign (.const .nilFunc))]) (.q (.R [.n 3 (.makeFunc (.func 82) #[] #[t1]), .n 2 (.assign t3)]) .r)) := by kernel_rfl
theorem w82 : Try.f82.body.map (Qq C) = some (.q (.R [.n 3 (.assign (.const (.bool false)))]) (.q (.q (.R [.n 5 (.move t0), .n 6 (.call ⟨.builtin .len, #[t5], #[23]⟩), .n 7 (.binOp .rem 3 t6 (.const (.int .i64 2)) 3), .n 8 (.binOp .neq 3 t7 (.const (.int .i64 0)) 3), .n 9 (.move t8), .g (some 10) (.move t0) 9 false, .g (some 11) (.call ⟨.builtin .len, #[t10], #[23]⟩) 9 false, .g (some 12) (.binOp .gtr 3 t11 (.const (.int .i64 8)) 3) 9 false, .n 13 (.pick t9 (.const (.bool true)) t12)]) (.c t13 (.q (.R [.n 3 (.assign (.const (.bool false)))]) .r) .s)) (.q (.q (.R [.n 4 (.assign (.const (.int .i64 0)))]) (.b 0 (.l (.q (.q (.R [.n 14 (.move t4), .n 15 (.move t0), .n 16 (.call ⟨.builtin .len, #[t15], #[23]⟩), .n 17 (.binOp .lss 3 t14 t16 3)]) (.c t17 .s (.x 0))) (.q (.b 1 (.q (.U [.n 20 (.load 79 t1), .n 21 (.move t0), .n 22 (.move t4), .n 23 (.indexAddr 23 t21 t22), .n 24 (.load 3 t23), .n 25 (.move t0), .n 26 (.move t4), .n 27 (.binOp .add 3 t26 (.const (.int .i64 1)) 3), .n 28 (.indexAddr 23 t25 t27), .n 29 (.load 3 t28), .n 30 (.call ⟨.value t20, #[t24, t29], #[3, 3]⟩), .n 31 (.unOp .not 4 t30)]) (.c t31 (.q (.R [.n 3 (.assign (.const (.bool false)))]) .r) .s))) (.R [.n 18 (.move t4), .n 19 (.binOp .add 3 t18 (.const (.int .i64 2)) 3), .n 4 (.assign t19)])))))) (.q (.R [.n 3 (.assign (.const (.bool true)))]) .r)))) := by kernel_rfl
theorem w77 : Try.f77.body.map (Qq C) = some (.q (.R [.n 4 (.assign (.const (.bool false)))]) (.q (.R [.n 5 (.move t0), .n 6 (.binOp .geq 3 t5 (.const (.int .i64 0)) 3), .n 7 (.move t6), .g (some 8) (.move t1) 7 true, .g (some 9) (.move t0) 7 true, .g (some 10) (.binOp .gtr 3 t8 t9 3) 7 true, .n 11 (.pick t7 t10 (.const (.bool false))), .n 4 (.assign t11)]) .r)) := by kernel_rfl
theorem w78 : Try.f78.body.map (Qq C) = some (.q (.R [.n 4 (.assign (.const (.bool false)))]) (.q (.R [.n 5 (.move t0), .n 6 (.move t1), .n 7 (.call ⟨.builtin .min, #[t5, t6], #[3, 3]⟩), .n 8 (.binOp .geq 3 t7 (.const (.int .i64 0)) 3), .n 4 (.assign t8)]) .r)) := by kernel_rfl
theorem w66 : Try.f66.body.map (Qq C) = some (.q (.R [.n 0 (.assign (.const (.slice none 0 0)))]) (.q (.R [.n 1 (.build 57 #[(0, .const (.int .i64 1)), (1, .const (.string { data := #[97, 100, 100] })), (2, .const (.int .i64 1)), (3, .const (.int .i64 3)), (4, .const (.int .i64 2)), (5, .const (.int .i64 2)), (6, .func 70), (7, .const (.int .i64 0))]), .n 2 (.build 57 #[(0, .const (.int .i64 2)), (1, .const (.string { data := #[115, 117, 98] })), (2, .const (.int .i64 1)), (3, .const (.int .i64 3)), (4, .const (.int .i64 2)), (5, .const (.int .i64 2)), (6, .func 70), (7, .const (.int .i64 0))]), .n 3 (.build 57 #[(0, .const (.int .i64 3)), (1, .const (.string { data := #[109, 117, 108] })), (2, .const (.int .i64 1)), (3, .const (.int .i64 3)), (4, .const (.int .i64 2)), (5, .const (.int .i64 2)), (6, .func 70), (7, .const (.int .i64 0))]), .n 4 (.build 57 #[(0, .const (.int .i64 4)), (1, .const (.string { data := #[100, 105, 118] })), (2, .const (.int .i64 1)), (3, .const (.int .i64 3)), (4, .const (.int .i64 2)), (5, .const (.int .i64 2)), (6, .func 70), (7, .const (.int .i64 0))]), .n 5 (.build 57 #[(0, .const (.int .i64 5)), (1, .const (.string { data := #[110, 101, 103] })), (2, .const (.int .i64 1)), (3, .const (.int .i64 3)), (4, .const (.int .i64 1)), (5, .const (.int .i64 1)), (6, .func 70), (7, .const (.int .i64 0))]), .n 6 (.call ⟨.value (.func 71), #[.const (.int .i64 16)], #[3]⟩), .n 7 (.build 57 #[(0, .const (.int .i64 6)), (1, .const (.string { data := #[112, 111, 119] })), (2, .const (.int .i64 1)), (3, .const (.int .i64 3)), (4, .const (.int .i64 1)), (5, .const (.int .i64 1)), (6, t6), (7, .const (.int .i64 1))]), .n 8 (.build 57 #[(0, .const (.int .i64 7)), (1, .const (.string { data := #[114, 101, 108, 117] })), (2, .const (.int .i64 1)), (3, .const (.int .i64 3)), (4, .const (.int .i64 1)), (5, .const (.int .i64 1)), (6, .func 70), (7, .const (.int .i64 0))]), .n 9 (.build 57 #[(0, .const (.int .i64 8)), (1, .const (.string { data := #[115, 116, 101, 112] })), (2, .const (.int .i64 3)), (3, .const (.int .i64 3)), (4, .const (.int .i64 1)), (5, .const (.int .i64 1)), (6, .func 70), (7, .const (.int .i64 0))]), .n 10 (.build 57 #[(0, .const (.int .i64 9)), (1, .const (.string { data := #[115, 99, 97, 108, 101] })), (2, .const (.int .i64 3)), (3, .const (.int .i64 3)), (4, .const (.int .i64 1)), (5, .const (.int .i64 1)), (6, .func 72), (7, .const (.int .i64 0))]), .n 11 (.build 57 #[(0, .const (.int .i64 10)), (1, .const (.string { data := #[109, 97, 116, 109, 117, 108] })), (2, .const (.int .i64 1)), (3, .const (.int .i64 3)), (4, .const (.int .i64 2)), (5, .const (.int .i64 2)), (6, .func 70), (7, .const (.int .i64 0))]), .n 12 (.build 57 #[(0, .const (.int .i64 11)), (1, .const (.string { data := #[116, 114, 97, 110, 115, 112, 111, 115, 101] })), (2, .const (.int .i64 1)), (3, .const (.int .i64 3)), (4, .const (.int .i64 1)), (5, .const (.int .i64 1)), (6, .func 73), (7, .const (.int .i64 1))]), .n 13 (.build 57 #[(0, .const (.int .i64 12)), (1, .const (.string { data := #[114, 101, 115, 104, 97, 112, 101] })), (2, .const (.int .i64 1)), (3, .const (.int .i64 3)), (4, .const (.int .i64 1)), (5, .const (.int .i64 1)), (6, .func 74), (7, .const (.int .i64 0))]), .n 14 (.build 57 #[(0, .const (.int .i64 13)), (1, .const (.string { data := #[98, 114, 111, 97, 100, 99, 97, 115, 116] })), (2, .const (.int .i64 1)), (3, .const (.int .i64 3)), (4, .const (.int .i64 1)), (5, .const (.int .i64 1)), (6, .func 74), (7, .const (.int .i64 0))]), .n 15 (.build 57 #[(0, .const (.int .i64 14)), (1, .const (.string { data := #[115, 117, 109] })), (2, .const (.int .i64 1)), (3, .const (.int .i64 3)), (4, .const (.int .i64 1)), (5, .const (.int .i64 1)), (6, .func 75), (7, .const (.int .i64 2))]), .n 16 (.call ⟨.value (.func 76), #[.func 77], #[79]⟩), .n 17 (.build 57 #[(0, .const (.int .i64 15)), (1, .const (.string { data := #[115, 108, 105, 99, 101] })), (2, .const (.int .i64 1)), (3, .const (.int .i64 3)), (4, .const (.int .i64 1)), (5, .const (.int .i64 1)), (6, t16), (7, .const (.int .i64 0))]), .n 18 (.call ⟨.value (.func 76), #[.func 78], #[79]⟩), .n 19 (.build 57 #[(0, .const (.int .i64 16)), (1, .const (.string { data := #[112, 97, 100] })), (2, .const (.int .i64 1)), (3, .const (.int .i64 3)), (4, .const (.int .i64 1)), (5, .const (.int .i64 1)), (6, t18), (7, .const (.int .i64 0))]), .n 20 (.call ⟨.value (.func 71), #[.const (.int .i64 3)], #[3]⟩), .n 21 (.build 57 #[(0, .const (.int .i64 17)), (1, .const (.string { data := #[99, 111, 110, 99, 97, 116] })), (2, .const (.int .i64 1)), (3, .const (.int .i64 3)), (4, .const (.int .i64 1)), (5, .const (.int .i64 8)), (6, t20), (7, .const (.int .i64 1))]), .n 22 (.build 57 #[(0, .const (.int .i64 18)), (1, .const (.string { data := #[115, 113, 117, 97, 114, 101] })), (2, .const (.int .i64 1)), (3, .const (.int .i64 1)), (4, .const (.int .i64 1)), (5, .const (.int .i64 1)), (6, .func 70), (7, .const (.int .i64 0))]), .n 23 (.build 57 #[(0, .const (.int .i64 19)), (1, .const (.string { data := #[103, 101, 109, 109] })), (2, .const (.int .i64 1)), (3, .const (.int .i64 2)), (4, .const (.int .i64 3)), (5, .const (.int .i64 3)), (6, .func 70), (7, .const (.int .i64 0))]), .n 24 (.build 57 #[(0, .const (.int .i64 20)), (1, .const (.string { data := #[109, 101, 97, 110] })), (2, .const (.int .i64 1)), (3, .const (.int .i64 2)), (4, .const (.int .i64 1)), (5, .const (.int .i64 1)), (6, .func 75), (7, .const (.int .i64 2))]), .n 25 (.buildSlice 91 20 #[(0, t1), (1, t2), (2, t3), (3, t4), (4, t5), (5, t7), (6, t8), (7, t9), (8, t10), (9, t11), (10, t12), (11, t13), (12, t14), (13, t15), (14, t17), (15, t19), (16, t21), (17, t22), (18, t23), (19, t24)]), .n 0 (.assign t25)]) .r)) := by kernel_rfl
theorem w67 : Try.f67.body.map (Qq C) = some (.q (.R [.n 4 (.assign (.const (.int .i64 0)))]) (.q (.q (.R [.n 6 (.move t0), .n 7 (.call ⟨.builtin .len, #[t6], #[91]⟩), .n 8 (.move (.const (.int .i64 0)))]) (.b 0 (.l (.q (.R [.n 9 (.binOp .lss 3 t8 t7 3)]) (.q (.c t9 .s (.x 0)) (.q (.b 1 (.q (.R [.n 10 (.move t8), .n 5 (.assign t10)]) (.q (.R [.n 11 (.move t1), .n 12 (.move t0), .n 13 (.move t5), .n 14 (.indexAddr 91 t12 t13), .n 15 (.load 57 t14), .n 16 (.call ⟨.value t11, #[t15], #[57]⟩)]) (.c t16 (.q (.R [.n 17 (.move t5), .n 4 (.assign t17)]) .r) .s)))) (.R [.n 18 (.binOp .add 3 t8 (.const (.int .i64 1)) 3), .n 8 (.move t18)]))))))) (.q (.R [.n 4 (.assign (.const (.int .i64 (-1))))]) .r))) := by kernel_rfl
theorem w56 : Try.f56.body.map (Qq C) = some (.q (.R [.n 2 (.alloc 57), .n 3 (.assign (.const (.bool false)))]) (.q (.R [.n 6 (.call ⟨.value (.func 66), #[], #[]⟩), .n 4 (.assign t6)]) (.q (.R [.n 7 (.move t4), .n 8 (.move t0), .n 9 (.call ⟨.value (.func 67), #[t7, t8], #[91, 81]⟩), .n 5 (.assign t9)]) (.q (.q (.R [.n 10 (.move t5), .n 11 (.binOp .lss 3 t10 (.const (.int .i64 0)) 3)]) (.c t11 (.q (.R [.n 12 (.build 57 #[]), .z (.store 57 t2 t12), .n 3 (.assign (.const (.bool false)))]) .r) .s)) (.q (.R [.n 13 (.move t4), .n 14 (.move t5), .n 15 (.indexAddr 91 t13 t14), .n 16 (.load 57 t15), .z (.store 57 t2 t16), .n 3 (.assign (.const (.bool true)))]) .r))))) := by kernel_rfl
theorem w30 : Try.f30.body.map (Qq C) = some (.q (.R [.n 1 (.box 22 t0), .n 2 (.alloc 57), .n 3 (.assign (.const (.bool false)))]) (.q (.R [.n 4 (.makeFunc (.func 57) #[] #[t1]), .n 5 (.call ⟨.value (.func 56), #[t4], #[81]⟩), .n 6 (.extract t5 0), .n 7 (.extract t5 1), .z (.store 57 t2 t6), .n 3 (.assign t7)]) .r)) := by kernel_rfl
theorem w57 : Try.f57.body.map (Qq C) = some (.q (.R [.n 2 (.box 57 t0), .n 3 (.assign (.const (.bool false)))]) (.q (.R [.n 4 (.fieldAddr 57 t2 0), .n 5 (.load 22 t4), .n 6 (.load 22 t1), .n 7 (.binOp .eql 22 t5 t6 22), .n 3 (.assign t7)]) .r)) := by kernel_rfl
theorem w32 : Try.f32.body.map (Qq C) = some (.q (.R [.n 2 (.box 57 t0), .n 4 (.assign (.const (.bool false)))]) (.q (.R [.n 5 (.move t1), .n 6 (.fieldAddr 57 t2 2), .n 7 (.load 3 t6), .n 8 (.binOp .geq 3 t5 t7 3), .n 9 (.move t8), .g (some 10) (.move t1) 9 true, .g (some 11) (.fieldAddr 57 t2 3) 9 true, .g (some 12) (.load 3 t11) 9 true, .g (some 13) (.binOp .leq 3 t10 t12 3) 9 true, .n 14 (.pick t9 t13 (.const (.bool false))), .n 4 (.assign t14)]) .r)) := by kernel_rfl
theorem w58 : Try.f58.body.map (Qq C) = some (.q (.R [.n 4 (.assign (.const (.int .i64 0)))]) (.q (.q (.R [.n 6 (.move t0), .n 7 (.call ⟨.builtin .len, #[t6], #[23]⟩), .n 8 (.move (.const (.int .i64 0)))]) (.b 0 (.l (.q (.R [.n 9 (.binOp .lss 3 t8 t7 3)]) (.q (.c t9 .s (.x 0)) (.q (.b 1 (.q (.R [.n 10 (.move t8), .n 5 (.assign t10)]) (.q (.R [.n 11 (.move t1), .n 12 (.move t0), .n 13 (.move t5), .n 14 (.indexAddr 23 t12 t13), .n 15 (.load 3 t14), .n 16 (.call ⟨.value t11, #[t15], #[3]⟩)]) (.c t16 (.q (.R [.n 17 (.move t5), .n 4 (.assign t17)]) .r) .s)))) (.R [.n 18 (.binOp .add 3 t8 (.const (.int .i64 1)) 3), .n 8 (.move t18)]))))))) (.q (.R [.n 4 (.assign (.const (.int .i64 (-1))))]) .r))) := by kernel_rfl
theorem w33 : Try.f33.body.map (Qq C) = some (.q (.R [.n 4 (.assign (.const (.bool false)))]) (.q (.R [.n 5 (.move t0), .n 6 (.move t1), .n 7 (.call ⟨.value (.func 58), #[t5, t6], #[23, 60]⟩), .n 8 (.binOp .geq 3 t7 (.const (.int .i64 0)) 3), .n 4 (.assign t8)]) .r)) := by kernel_rfl
theorem w22 : Try.f22.body.map (Qq C) = some (.q (.R [.n 3 (.box 25 t1), .n 4 (.assign (.const (.int .i64 0)))]) (.q (.R [.n 9 (.fieldAddr 25 t3 0), .n 10 (.load 22 t9), .n 11 (.call ⟨.value (.func 30), #[t10], #[22]⟩), .n 8 (.move t11), .n 12 (.extract t8 0), .n 13 (.extract t8 1), .n 5 (.alloc 57), .z (.store 57 t5 t12), .n 6 (.assign t13)]) (.q (.R [.n 7 (.assign (.func 31))]) (.q (.b 0 (.q (.R [.n 15 (.move t0), .n 16 (.binOp .lss 3 t15 (.const (.int .i64 1)) 3), .n 17 (.move t16), .g (some 18) (.move t0) 17 false, .g (some 19) (.binOp .gtr 3 t18 (.const (.int .i64 3)) 3) 17 false, .n 20 (.pick t17 (.const (.bool true)) t19), .n 14 (.assign t20)]) (.c t14 (.q (.R [.n 4 (.assign (.const (.int .i64 8)))]) .r) (.q (.R [.n 22 (.move t6), .n 23 (.unOp .not 4 t22), .n 24 (.move t23), .g (some 25) (.load 57 t5) 24 false, .g (some 26) (.move t0) 24 false, .g (some 27) (.call ⟨.value (.func 32), #[t25, t26], #[57, 3]⟩) 24 false, .g (some 28) (.unOp .not 4 t27) 24 false, .n 29 (.pick t24 (.const (.bool true)) t28), .n 21 (.assign t29)]) (.c t21 (.q (.R [.n 4 (.assign (.const (.int .i64 9)))]) .r) (.q (.R [.n 31 (.fieldAddr 25 t3 1), .n 32 (.load 23 t31), .n 33 (.call ⟨.builtin .len, #[t32], #[23]⟩), .n 34 (.fieldAddr 57 t5 4), .n 35 (.load 3 t34), .n 36 (.binOp .lss 3 t33 t35 3), .n 37 (.move t36), .g (some 38) (.fieldAddr 25 t3 1) 37 false, .g (some 39) (.load 23 t38) 37 false, .g (some 40) (.call ⟨.builtin .len, #[t39], #[23]⟩) 37 false, .g (some 41) (.fieldAddr 57 t5 5) 37 false, .g (some 42) (.load 3 t41) 37 false, .g (some 43) (.binOp .gtr 3 t40 t42 3) 37 false, .n 44 (.pick t37 (.const (.bool true)) t43), .n 30 (.assign t44)]) (.c t30 (.q (.R [.n 4 (.assign (.const (.int .i64 10)))]) .r) (.q (.R [.n 46 (.fieldAddr 25 t3 2), .n 47 (.load 23 t46), .n 48 (.call ⟨.builtin .len, #[t47], #[23]⟩), .n 49 (.binOp .eql 3 t48 (.const (.int .i64 0)) 3), .n 50 (.move t49), .g (some 51) (.move t0) 50 true, .g (some 52) (.fieldAddr 57 t5 7) 50 true, .g (some 53) (.load 3 t52) 50 true, .g (some 54) (.binOp .leq 3 t51 t53 3) 50 true, .n 55 (.pick t50 t54 (.const (.bool false))), .n 45 (.assign t55)]) (.c t45 (.q (.R [.n 4 (.assign (.const (.int .i64 0)))]) .r) (.q (.R [.n 57 (.fieldAddr 25 t3 2), .n 58 (.load 23 t57), .n 59 (.move t7), .n 60 (.call ⟨.value (.func 33), #[t58, t59], #[23, 60]⟩), .n 61 (.move t60), .g (some 62) (.fieldAddr 57 t5 6) 61 false, .g (some 63) (.load 55 t62) 61 false, .g (some 64) (.fieldAddr 25 t3 2) 61 false, .g (some 65) (.load 23 t64) 61 false, .g (some 66) (.call ⟨.value t63, #[t65], #[23]⟩) 61 false, .g (some 67) (.unOp .not 4 t66) 61 false, .n 68 (.pick t61 (.const (.bool true)) t67), .n 56 (.assign t68)]) (.c t56 (.q (.R [.n 4 (.assign (.const (.int .i64 11)))]) .r) .s))))))))))) (.q (.R [.n 4 (.assign (.const (.int .i64 0)))]) .r))))) := by kernel_rfl
theorem w31 : Try.f31.body.map (Qq C) = some (.q (.R [.n 2 (.assign (.const (.bool false)))]) (.q (.R [.n 3 (.move t0), .n 4 (.binOp .gtr 3 t3 (.const (.int .i64 2147483647)) 3), .n 5 (.move t4), .g (some 6) (.move t0) 5 false, .g (some 7) (.binOp .lss 3 t6 (.const (.int .i64 (-2147483647))) 3) 5 false, .n 8 (.pick t5 (.const (.bool true)) t7), .n 2 (.assign t8)]) .r)) := by kernel_rfl
theorem w25 : Try.f25.body.map (Qq C) = some (.q (.R [.n 4 (.box 25 t1), .n 6 (.assign (.const (.slice none 0 0)))]) (.q (.R [.n 12 (.fieldAddr 25 t4 2), .n 13 (.load 23 t12), .n 14 (.call ⟨.value (.func 36), #[t13], #[23]⟩), .n 7 (.assign t14)]) (.q (.R [.n 16 (.fieldAddr 25 t4 0), .n 17 (.load 22 t16), .n 18 (.call ⟨.value (.func 30), #[t17], #[22]⟩), .n 15 (.move t18), .n 19 (.extract t15 0), .n 20 (.extract t15 1), .n 8 (.alloc 57), .z (.store 57 t8 t19), .n 9 (.assign t20)]) (.q (.q (.R [.n 21 (.move t0), .n 22 (.load 25 t4), .n 23 (.call ⟨.value (.func 22), #[t21, t22], #[3, 25]⟩), .n 24 (.binOp .neq 29 t23 (.const (.int .i64 0)) 29), .n 25 (.move t24), .g (some 26) (.move t7) 25 false, .g (some 27) (.call ⟨.builtin .len, #[t26], #[23]⟩) 25 false, .g (some 28) (.binOp .gtr 3 t27 (.const (.int .i64 0)) 3) 25 false, .n 29 (.pick t25 (.const (.bool true)) t28), .n 30 (.move t29), .g (some 31) (.move t0) 30 false, .g (some 32) (.fieldAddr 57 t8 7) 30 false, .g (some 33) (.load 3 t32) 30 false, .g (some 34) (.binOp .gtr 3 t31 t33 3) 30 false, .n 35 (.pick t30 (.const (.bool true)) t34)]) (.c t35 (.q (.R [.n 36 (.move t7), .n 6 (.assign t36)]) .r) .s)) (.q (.R [.n 10 (.assign (.const (.int .i64 0)))]) (.q (.q (.R [.n 37 (.move t2), .n 38 (.call ⟨.builtin .len, #[t37], #[23]⟩), .n 39 (.binOp .gtr 3 t38 (.const (.int .i64 0)) 3), .n 40 (.move t39), .g (some 41) (.move t2) 40 true, .g (some 42) (.indexAddr 23 t41 (.const (.int .i64 0))) 40 true, .g (some 43) (.load 3 t42) 40 true, .g (some 44) (.binOp .geq 3 t43 (.const (.int .i64 0)) 3) 40 true, .n 45 (.pick t40 t44 (.const (.bool false))), .n 46 (.move t45), .g (some 47) (.move t2) 46 true, .g (some 48) (.indexAddr 23 t47 (.const (.int .i64 0))) 46 true, .g (some 49) (.load 3 t48) 46 true, .g (some 50) (.binOp .leq 3 t49 (.const (.int .i64 4)) 3) 46 true, .n 51 (.pick t46 t50 (.const (.bool false)))]) (.c t51 (.R [.n 52 (.move t2), .n 53 (.indexAddr 23 t52 (.const (.int .i64 0))), .n 54 (.load 3 t53), .n 10 (.assign t54)]) .s)) (.q (.q (.R [.n 55 (.fieldAddr 25 t4 0), .n 56 (.load 22 t55)]) (.b 0 (.q (.R [.n 67 (.binOp .eql 22 t56 (.const (.int .i64 6)) 22), .n 66 (.assign t67)]) (.c t66 (.R [.n 68 (.move t7), .n 69 (.buildSlice 23 1 #[(0, .const (.int .i64 2))]), .n 70 (.call ⟨.builtin .append, #[t68, t69], #[23, 23]⟩), .n 7 (.assign t70)]) (.q (.R [.n 72 (.binOp .eql 22 t56 (.const (.int .i64 17)) 22), .n 71 (.assign t72)]) (.c t71 (.R [.n 73 (.move t7), .n 74 (.buildSlice 23 1 #[(0, .const (.int .i64 0))]), .n 75 (.call ⟨.builtin .append, #[t73, t74], #[23, 23]⟩), .n 7 (.assign t75)]) (.q (.R [.n 57 (.move t10), .n 58 (.move (.const (.int .i64 0)))]) (.b 1 (.l (.q (.R [.n 59 (.binOp .lss 3 t58 t57 3)]) (.q (.c t59 .s (.x 1)) (.q (.b 2 (.q (.R [.n 60 (.move t58), .n 11 (.assign t60)]) (.R [.n 61 (.move t7), .n 62 (.move t11), .n 63 (.buildSlice 23 1 #[(0, t62)]), .n 64 (.call ⟨.builtin .append, #[t61, t63], #[23, 23]⟩), .n 7 (.assign t64)]))) (.R [.n 65 (.binOp .add 3 t58 (.const (.int .i64 1)) 3), .n 58 (.move t65)]))))))))))))) (.q (.q (.R [.n 76 (.fieldAddr 25 t4 0), .n 77 (.load 22 t76), .n 78 (.binOp .eql 22 t77 (.const (.int .i64 11)) 22)]) (.c t78 (.R [.n 79 (.move t7), .n 80 (.call ⟨.value (.func 48), #[t79], #[23]⟩)]) .s)) (.q (.R [.n 81 (.move t7), .n 6 (.assign t81)]) .r))))))))) := by kernel_rfl
theorem w48 : Try.f48.body.map (Qq C) = some (.q (.R [.n 4 (.move t0), .n 5 (.call ⟨.builtin .len, #[t4], #[23]⟩), .n 6 (.binOp .sub 3 t5 (.const (.int .i64 1)) 3), .n 2 (.assign (.const (.int .i64 0))), .n 3 (.assign t6)]) (.b 0 (.l (.q (.q (.R [.n 7 (.move t2), .n 8 (.move t3), .n 9 (.binOp .lss 3 t7 t8 3)]) (.c t9 .s (.x 0))) (.q (.b 1 (.D true [.n 14 (.move t0), .n 15 (.move t2), .n 16 (.move t0), .n 17 (.move t3), .n 18 (.move t0), .n 19 (.move t3), .n 20 (.indexAddr 23 t18 t19), .n 21 (.load 3 t20), .n 22 (.move t0), .n 23 (.move t2), .n 24 (.indexAddr 23 t22 t23), .n 25 (.load 3 t24), .n 26 (.indexAddr 23 t14 t15), .z (.store 3 t26 t21), .n 27 (.indexAddr 23 t16 t17), .z (.store 3 t27 t25)])) (.R [.n 10 (.move t2), .n 11 (.binOp .add 3 t10 (.const (.int .i64 1)) 3), .n 12 (.move t3), .n 13 (.binOp .sub 3 t12 (.const (.int .i64 1)) 3), .n 2 (.assign t11), .n 3 (.assign t13)])))))) := by kernel_rfl
theorem w73 : Try.f73.body.map (Qq C) = some (.q (.R [.n 2 (.assign (.const (.bool false)))]) (.q (.R [.n 3 (.move t0), .n 4 (.call ⟨.builtin .len, #[t3], #[23]⟩), .n 5 (.binOp .leq 3 t4 (.const (.int .i64 4)) 3), .n 6 (.move t5), .g (some 7) (.move t0) 6 true, .g (some 8) (.move t0) 6 true, .g (some 9) (.call ⟨.builtin .len, #[t8], #[23]⟩) 6 true, .g (some 10) (.call ⟨.value (.func 81), #[t7, t9], #[23, 3]⟩) 6 true, .g (some 11) (.binOp .eql 29 t10 (.const (.int .i64 0)) 29) 6 true, .n 12 (.pick t6 t11 (.const (.bool false))), .n 2 (.assign t12)]) .r)) := by kernel_rfl
theorem w81 : Try.f81.body.map (Qq C) = some (.q (.R [.n 4 (.assign (.const (.int .i64 0)))]) (.q (.R [.n 8 (.move t0), .n 9 (.call ⟨.value (.func 84), #[t8], #[23]⟩), .n 10 (.call ⟨.value (.func 83), #[t9], #[98]⟩), .n 5 (.assign t10)]) (.q (.q (.R [.n 11 (.move t5), .n 12 (.call ⟨.builtin .len, #[t11], #[23]⟩), .n 13 (.move (.const (.int .i64 0)))]) (.b 0 (.l (.q (.R [.n 14 (.binOp .lss 3 t13 t12 3)]) (.q (.c t14 .s (.x 0)) (.q (.b 1 (.q (.R [.n 15 (.move t13), .n 16 (.indexAddr 23 t11 t13), .n 17 (.load 3 t16), .n 6 (.assign t15), .n 7 (.assign t17)]) (.q (.R [.n 18 (.move t7), .n 19 (.move t6), .n 20 (.binOp .neq 3 t18 t19 3)]) (.c t20 (.q (.R [.n 4 (.assign (.const (.int .i64 11)))]) .r) .s)))) (.R [.n 21 (.binOp .add 3 t13 (.const (.int .i64 1)) 3), .n 13 (.move t21)]))))))) (.q (.q (.R [.n 22 (.move t5), .n 23 (.call ⟨.builtin .len, #[t22], #[23]⟩), .n 24 (.move t1), .n 25 (.call ⟨.builtin .max, #[t24, .const (.int .i64 0)], #[3, 3]⟩), .n 26 (.binOp .neq 3 t23 t25 3)]) (.c t26 (.q (.R [.n 4 (.assign (.const (.int .i64 11)))]) .r) .s)) (.q (.R [.n 4 (.assign (.const (.int .i64 0)))]) .r))))) := by kernel_rfl
theorem w84 : Try.f84.body.map (Qq C) = some (.q (.R [.n 1 (.box 23 t0), .n 2 (.assign (.const .nilFunc))]) (.q (.R [.n 3 (.makeFunc (.func 87) #[] #[t1]), .n 2 (.assign t3)]) .r)) := by kernel_rfl
theorem w87 : Try.f87.body.map (Qq C) = some (.q (.R [.n 5 (.load 23 t1), .n 6 (.call ⟨.builtin .len, #[t5], #[23]⟩), .n 7 (.move (.const (.int .i64 0)))]) (.b 0 (.l (.q (.R [.n 8 (.binOp .lss 3 t7 t6 3)]) (.q (.c t8 .s (.x 0)) (.q (.b 1 (.q (.R [.n 9 (.indexAddr 23 t5 t7), .n 10 (.load 3 t9), .n 4 (.assign t10)]) (.q (.R [.n 11 (.move t0), .n 12 (.move t4), .n 13 (.call ⟨.value t11, #[t12], #[3]⟩), .n 14 (.unOp .not 4 t13)]) (.c t14 .r .s)))) (.R [.n 15 (.binOp .add 3 t7 (.const (.int .i64 1)) 3), .n 7 (.move t15)]))))))) := by kernel_rfl
theorem w83 : Try.f83.body.map (Qq C) = some (.q (.R [.n 2 (.assign (.const (.slice none 0 0)))]) (.q (.R [.n 4 (.move t0), .n 5 (.call ⟨.value (.func 85), #[t4], #[98]⟩), .n 3 (.assign t5)]) (.q (.R [.n 6 (.move t3), .n 7 (.call ⟨.value (.func 86), #[t6], #[23]⟩)]) (.q (.R [.n 8 (.move t3), .n 2 (.assign t8)]) .r)))) := by kernel_rfl
theorem w85 : Try.f85.body.map (Qq C) = some (.q (.R [.n 2 (.assign (.const (.slice none 0 0)))]) (.q (.R [.n 3 (.move t0), .n 4 (.call ⟨.value (.func 88), #[.const (.slice none 0 0), t3], #[23, 98]⟩), .n 2 (.assign t4)]) .r)) := by kernel_rfl
theorem w88 : Try.f88.body.map (Qq C) = some (.q (.R [.n 2 (.box 23 t0), .n 4 (.assign (.const (.slice none 0 0)))]) (.q (.q (.R [.n 6 (.move t1)]) (.b 0 (.f t6 #[7] (.R [.n 5 (.assign t7)]) (.b 1 (.R [.n 8 (.load 23 t2), .n 9 (.move t5), .n 10 (.buildSlice 23 1 #[(0, t9)]), .n 11 (.call ⟨.builtin .append, #[t8, t10], #[23, 23]⟩), .z (.store 23 t2 t11)]))))) (.q (.R [.n 12 (.load 23 t2), .n 4 (.assign t12)]) .r))) := by kernel_rfl
theorem w86 : Try.f86.body.map (Qq C) = some (.q (.R [.n 3 (.move t0), .n 4 (.call ⟨.builtin .len, #[t3], #[23]⟩), .n 2 (.assign t4)]) (.R [.n 5 (.move t0), .n 6 (.move t2), .n 7 (.move t2), .n 8 (.convert 3 103 t7), .n 9 (.call ⟨.value (.func 90), #[t8], #[103]⟩), .n 10 (.call ⟨.value (.func 89), #[t5, .const (.int .i64 0), t6, t9], #[23, 3, 3, 3]⟩)])) := by kernel_rfl
theorem w89 : Try.f89.body.map (Qq C) = some (.q (.R [.n 8 (.assign (.const (.bool true)))]) (.q (.R [.n 9 (.assign (.const (.bool true)))]) (.b 0 (.l (.b 1 (.q (.R [.n 19 (.move t2), .n 20 (.move t1), .n 21 (.binOp .sub 3 t19 t20 3), .n 10 (.assign t21)]) (.q (.q (.R [.n 22 (.move t10), .n 23 (.binOp .leq 3 t22 (.const (.int .i64 12)) 3)]) (.c t23 (.q (.R [.n 24 (.move t0), .n 25 (.move t1), .n 26 (.move t2), .n 27 (.call ⟨.value (.func 91), #[t24, t25, t26], #[23, 3, 3]⟩)]) .r) .s)) (.q (.q (.R [.n 28 (.move t3), .n 29 (.binOp .eql 3 t28 (.const (.int .i64 0)) 3)]) (.c t29 (.q (.R [.n 30 (.move t0), .n 31 (.move t1), .n 32 (.move t2), .n 33 (.call ⟨.value (.func 92), #[t30, t31, t32], #[23, 3, 3]⟩)]) .r) .s)) (.q (.q (.R [.n 34 (.move t8), .n 35 (.unOp .not 4 t34)]) (.c t35 (.q (.R [.n 36 (.move t0), .n 37 (.move t1), .n 38 (.move t2), .n 39 (.call ⟨.value (.func 93), #[t36, t37, t38], #[23, 3, 3]⟩)]) (.R [.n 40 (.move t3), .n 41 (.binOp .sub 3 t40 (.const (.int .i64 1)) 3), .n 3 (.assign t41)])) .s)) (.q (.R [.n 43 (.move t0), .n 44 (.move t1), .n 45 (.move t2), .n 46 (.call ⟨.value (.func 94), #[t43, t44, t45], #[23, 3, 3]⟩), .n 42 (.move t46), .n 47 (.extract t42 0), .n 48 (.extract t42 1), .n 11 (.assign t47), .n 12 (.assign t48)]) (.q (.q (.R [.n 49 (.move t12), .n 50 (.binOp .eql 105 t49 (.const (.int .i64 2)) 105)]) (.c t50 (.q (.R [.n 51 (.move t0), .n 52 (.move t1), .n 53 (.move t2), .n 54 (.call ⟨.value (.func 95), #[t51, t52, t53], #[23, 3, 3]⟩)]) (.q (.R [.n 55 (.move t2), .n 56 (.binOp .sub 3 t55 (.const (.int .i64 1)) 3), .n 57 (.move t11), .n 58 (.move t1), .n 59 (.binOp .sub 3 t57 t58 3), .n 60 (.binOp .sub 3 t56 t59 3), .n 11 (.assign t60)]) (.R [.n 12 (.assign (.const (.int .i64 1)))]))) .s)) (.q (.q (.R [.n 61 (.move t8), .n 62 (.move t61), .g (some 63) (.move t9) 62 true, .n 64 (.pick t62 t63 (.const (.bool false))), .n 65 (.move t64), .g (some 66) (.move t12) 65 true, .g (some 67) (.binOp .eql 105 t66 (.const (.int .i64 1)) 105) 65 true, .n 68 (.pick t65 t67 (.const (.bool false)))]) (.c t68 (.q (.R [.n 69 (.move t0), .n 70 (.move t1), .n 71 (.move t2), .n 72 (.call ⟨.value (.func 96), #[t69, t70, t71], #[23, 3, 3]⟩)]) (.c t72 .r .s)) .s)) (.q (.q (.D true [.n 73 (.move t1), .n 74 (.binOp .gtr 3 t73 (.const (.int .i64 0)) 3), .n 75 (.move t74), .g (some 76) (.move t0) 75 true, .g (some 77) (.move t1) 75 true, .g (some 78) (.binOp .sub 3 t77 (.const (.int .i64 1)) 3) 75 true, .g (some 79) (.indexAddr 23 t76 t78) 75 true, .g (some 80) (.load 3 t79) 75 true, .g (some 81) (.move t0) 75 true, .g (some 82) (.move t11) 75 true, .g (some 83) (.indexAddr 23 t81 t82) 75 true, .g (some 84) (.load 3 t83) 75 true, .g (some 85) (.call ⟨.value (.func 97), #[t80, t84], #[3, 3]⟩) 75 true, .g (some 86) (.unOp .not 4 t85) 75 true, .n 87 (.pick t75 t86 (.const (.bool false)))]) (.c t87 (.q (.R [.n 88 (.move t0), .n 89 (.move t1), .n 90 (.move t2), .n 91 (.move t11), .n 92 (.call ⟨.value (.func 98), #[t88, t89, t90, t91], #[23, 3, 3, 3]⟩), .n 13 (.assign t92)]) (.q (.R [.n 93 (.move t13), .n 1 (.assign t93)]) (.x 1))) .s)) (.q (.R [.n 95 (.move t0), .n 96 (.move t1), .n 97 (.move t2), .n 98 (.move t11), .n 99 (.call ⟨.value (.func 99), #[t95, t96, t97, t98], #[23, 3, 3, 3]⟩), .n 94 (.move t99), .n 100 (.extract t94 0), .n 101 (.extract t94 1), .n 14 (.assign t100), .n 15 (.assign t101)]) (.q (.R [.n 102 (.move t15), .n 9 (.assign t102)]) (.q (.R [.n 103 (.move t14), .n 104 (.move t1), .n 105 (.binOp .sub 3 t103 t104 3), .n 106 (.move t2), .n 107 (.move t14), .n 108 (.binOp .sub 3 t106 t107 3), .n 16 (.assign t105), .n 17 (.assign t108)]) (.q (.R [.n 109 (.move t10), .n 110 (.binOp .quo 3 t109 (.const (.int .i64 8)) 3), .n 18 (.assign t110)]) (.q (.R [.n 111 (.move t16), .n 112 (.move t17), .n 113 (.binOp .lss 3 t111 t112 3)]) (.c t113 (.q (.R [.n 114 (.move t16), .n 115 (.move t18), .n 116 (.binOp .geq 3 t114 t115 3), .n 8 (.assign t116)]) (.q (.R [.n 117 (.move t0), .n 118 (.move t1), .n 119 (.move t14), .n 120 (.move t3), .n 121 (.call ⟨.value (.func 89), #[t117, t118, t119, t120], #[23, 3, 3, 3]⟩)]) (.R [.n 122 (.move t14), .n 123 (.binOp .add 3 t122 (.const (.int .i64 1)) 3), .n 1 (.assign t123)]))) (.q (.R [.n 124 (.move t17), .n 125 (.move t18), .n 126 (.binOp .geq 3 t124 t125 3), .n 8 (.assign t126)]) (.q (.R [.n 127 (.move t0), .n 128 (.move t14), .n 129 (.binOp .add 3 t128 (.const (.int .i64 1)) 3), .n 130 (.move t2), .n 131 (.move t3), .n 132 (.call ⟨.value (.func 89), #[t127, t129, t130, t131], #[23, 3, 3, 3]⟩)]) (.R [.n 133 (.move t14), .n 2 (.assign t133)])))))))))))))))))))))) := by kernel_rfl
theorem w91 : Try.f91.body.map (Qq C) = some (.q (.R [.n 8 (.move t1), .n 9 (.binOp .add 3 t8 (.const (.int .i64 1)) 3), .n 6 (.assign t9)]) (.b 0 (.l (.q (.q (.R [.n 10 (.move t6), .n 11 (.move t2), .n 12 (.binOp .lss 3 t10 t11 3)]) (.c t12 .s (.x 0))) (.q (.b 1 (.q (.R [.n 15 (.move t6), .n 7 (.assign t15)]) (.b 2 (.l (.q (.q (.D true [.n 16 (.move t7), .n 17 (.move t1), .n 18 (.binOp .gtr 3 t16 t17 3), .n 19 (.move t18), .g (some 20) (.move t0) 19 true, .g (some 21) (.move t7) 19 true, .g (some 22) (.indexAddr 23 t20 t21) 19 true, .g (some 23) (.load 3 t22) 19 true, .g (some 24) (.move t0) 19 true, .g (some 25) (.move t7) 19 true, .g (some 26) (.binOp .sub 3 t25 (.const (.int .i64 1)) 3) 19 true, .g (some 27) (.indexAddr 23 t24 t26) 19 true, .g (some 28) (.load 3 t27) 19 true, .g (some 29) (.call ⟨.value (.func 97), #[t23, t28], #[3, 3]⟩) 19 true, .n 30 (.pick t19 t29 (.const (.bool false)))]) (.c t30 .s (.x 2))) (.q (.b 3 (.D true [.n 33 (.move t0), .n 34 (.move t7), .n 35 (.move t0), .n 36 (.move t7), .n 37 (.binOp .sub 3 t36 (.const (.int .i64 1)) 3), .n 38 (.move t0), .n 39 (.move t7), .n 40 (.binOp .sub 3 t39 (.const (.int .i64 1)) 3), .n 41 (.indexAddr 23 t38 t40), .n 42 (.load 3 t41), .n 43 (.move t0), .n 44 (.move t7), .n 45 (.indexAddr 23 t43 t44), .n 46 (.load 3 t45), .n 47 (.indexAddr 23 t33 t34), .z (.store 3 t47 t42), .n 48 (.indexAddr 23 t35 t37), .z (.store 3 t48 t46)])) (.R [.n 31 (.move t7), .n 32 (.binOp .sub 3 t31 (.const (.int .i64 1)) 3), .n 7 (.assign t32)]))))))) (.R [.n 13 (.move t6), .n 14 (.binOp .add 3 t13 (.const (.int .i64 1)) 3), .n 6 (.assign t14)])))))) := by kernel_rfl
theorem w97 : Try.f97.body.map (Qq C) = some (.q (.R [.n 4 (.assign (.const (.bool false)))]) (.q (.R [.n 5 (.move t0), .n 6 (.call ⟨.value (.func 107), #[t5], #[3]⟩), .n 7 (.move t6), .g (some 8) (.move t1) 7 true, .g (some 9) (.call ⟨.value (.func 107), #[t8], #[3]⟩) 7 true, .g (some 10) (.unOp .not 4 t9) 7 true, .n 11 (.pick t7 t10 (.const (.bool false))), .n 12 (.move t11), .g (some 13) (.move t0) 12 false, .g (some 14) (.move t1) 12 false, .g (some 15) (.binOp .lss 3 t13 t14 3) 12 false, .n 16 (.pick t12 (.const (.bool true)) t15), .n 4 (.assign t16)]) .r)) := by kernel_rfl
theorem w107 : Try.f107.body.map (Qq C) = some (.q (.R [.n 2 (.assign (.const (.bool false)))]) (.q (.R [.n 3 (.move t0), .n 4 (.move t0), .n 5 (.binOp .neq 3 t3 t4 3), .n 2 (.assign t5)]) .r)) := by kernel_rfl
theorem w90 : Try.f90.body.map (Qq C) = some (.q (.R [.n 2 (.assign (.const (.int .i64 0)))]) (.q (.c (.const (.bool false)) (.q (.R [.n 3 (.move t0), .n 4 (.convert 103 112 t3), .n 5 (.call ⟨.value (.func 100), #[t4], #[112]⟩), .n 2 (.assign t5)]) .r) .s) (.q (.R [.n 6 (.move t0), .n 7 (.call ⟨.value (.func 101), #[t6], #[114]⟩), .n 2 (.assign t7)]) .r))) := by kernel_rfl
theorem w101 : Try.f101.body.map (Qq C) = some (.q (.R [.n 2 (.assign (.const (.int .i64 0)))]) (.q (.q (.R [.n 3 (.move t0), .n 4 (.binOp .geq 114 t3 (.const (.int .u64 4294967296)) 114)]) (.c t4 (.q (.R [.n 5 (.move t0), .n 6 (.binOp .shr 114 t5 (.const (.int .u64 32)) 103), .n 0 (.assign t6)]) (.R [.n 2 (.assign (.const (.int .i64 32)))])) .s)) (.q (.q (.R [.n 7 (.move t0), .n 8 (.binOp .geq 114 t7 (.const (.int .u64 65536)) 114)]) (.c t8 (.q (.R [.n 9 (.move t0), .n 10 (.binOp .shr 114 t9 (.const (.int .u64 16)) 103), .n 0 (.assign t10)]) (.R [.n 11 (.move t2), .n 12 (.binOp .add 3 t11 (.const (.int .i64 16)) 3), .n 2 (.assign t12)])) .s)) (.q (.q (.R [.n 13 (.move t0), .n 14 (.binOp .geq 114 t13 (.const (.int .u64 256)) 114)]) (.c t14 (.q (.R [.n 15 (.move t0), .n 16 (.binOp .shr 114 t15 (.const (.int .u64 8)) 103), .n 0 (.assign t16)]) (.R [.n 17 (.move t2), .n 18 (.binOp .add 3 t17 (.const (.int .i64 8)) 3), .n 2 (.assign t18)])) .s)) (.q (.R [.n 19 (.move t2), .n 20 (.move t0), .n 21 (.convert 114 5 t20), .n 22 (.index 9 (.const (.string { data := (([0, 1, 2, 2, 3, 3, 3, 3, 4, 4, 4, 4, 4, 4, 4, 4, 5, 5, 5, 5, 5, 5, 5, 5, 5, 5, 5, 5, 5, 5, 5, 5, 6, 6, 6, 6, 6, 6, 6, 6, 6, 6, 6, 6, 6, 6, 6, 6, 6, 6, 6, 6, 6, 6, 6, 6, 6, 6, 6, 6, 6, 6, 6, 6].append [7, 7, 7, 7, 7, 7, 7, 7, 7, 7, 7, 7, 7, 7, 7, 7, 7, 7, 7, 7, 7, 7, 7, 7, 7, 7, 7, 7, 7, 7, 7, 7, 7, 7, 7, 7, 7, 7, 7, 7, 7, 7, 7, 7, 7, 7, 7, 7, 7, 7, 7, 7, 7, 7, 7, 7, 7, 7, 7, 7, 7, 7, 7, 7]).append ([8, 8, 8, 8, 8, 8, 8, 8, 8, 8, 8, 8, 8, 8, 8, 8, 8, 8, 8, 8, 8, 8, 8, 8, 8, 8, 8, 8, 8, 8, 8, 8, 8, 8, 8, 8, 8, 8, 8, 8, 8, 8, 8, 8, 8, 8, 8, 8, 8, 8, 8, 8, 8, 8, 8, 8, 8, 8, 8, 8, 8, 8, 8, 8].append [8, 8, 8, 8, 8, 8, 8, 8, 8, 8, 8, 8, 8, 8, 8, 8, 8, 8, 8, 8, 8, 8, 8, 8, 8, 8, 8, 8, 8, 8, 8, 8, 8, 8, 8, 8, 8, 8, 8, 8, 8, 8, 8, 8, 8, 8, 8, 8, 8, 8, 8, 8, 8, 8, 8, 8, 8, 8, 8, 8, 8, 8, 8, 8])).toArray })) t21), .n 23 (.convert 5 3 t22), .n 24 (.binOp .add 3 t19 t23 3), .n 2 (.assign t24)]) .r))))) := by kernel_rfl
theorem w60 : Try.f60.body.map (Qq C) = some (.q (.R [.n 2 (.assign (.const (.slice none 0 0))), .n 3 (.assign (.const (.int .i64 0)))]) (.q (.q (.R [.n 5 (.move t0), .n 6 (.call ⟨.value (.func 23), #[t5], #[28]⟩), .n 4 (.assign t6)]) (.q (.R [.n 7 (.move t4), .n 8 (.binOp .neq 29 t7 (.const (.int .i64 0)) 29)]) (.c t8 (.q (.R [.n 9 (.move t4), .n 2 (.assign (.const (.slice none 0 0))), .n 3 (.assign t9)]) .r) .s))) (.q (.R [.n 10 (.move t0), .n 2 (.assign t10), .n 3 (.assign (.const (.int .i64 0)))]) .r))) := by kernel_rfl
theorem w39 : Try.f39.body.map (Qq C) = some (.q (.R [.n 4 (.assign (.const (.slice none 0 0))), .n 5 (.assign (.const (.int .i64 0)))]) (.q (.q (.D true [.n 6 (.move t0), .n 7 (.call ⟨.builtin .len, #[t6], #[28]⟩), .n 8 (.binOp .neq 3 t7 (.const (.int .i64 2)) 3), .n 9 (.move t8), .g (some 10) (.move t1) 9 false, .g (some 11) (.call ⟨.builtin .len, #[t10], #[28]⟩) 9 false, .g (some 12) (.binOp .neq 3 t11 (.const (.int .i64 2)) 3) 9 false, .n 13 (.pick t9 (.const (.bool true)) t12), .n 14 (.move t13), .g (some 15) (.move t0) 14 false, .g (some 16) (.indexAddr 28 t15 (.const (.int .i64 1))) 14 false, .g (some 17) (.load 3 t16) 14 false, .g (some 18) (.move t1) 14 false, .g (some 19) (.indexAddr 28 t18 (.const (.int .i64 0))) 14 false, .g (some 20) (.load 3 t19) 14 false, .g (some 21) (.binOp .neq 3 t17 t20 3) 14 false, .n 22 (.pick t14 (.const (.bool true)) t21)]) (.c t22 (.q (.R [.n 4 (.assign (.const (.slice none 0 0))), .n 5 (.assign (.const (.int .i64 13)))]) .r) .s)) (.q (.D true [.n 23 (.move t0), .n 24 (.indexAddr 28 t23 (.const (.int .i64 0))), .n 25 (.load 3 t24), .n 26 (.move t1), .n 27 (.indexAddr 28 t26 (.const (.int .i64 1))), .n 28 (.load 3 t27), .n 29 (.buildSlice 28 2 #[(0, t25), (1, t28)]), .n 30 (.call ⟨.value (.func 60), #[t29], #[28]⟩), .n 31 (.extract t30 0), .n 32 (.extract t30 1), .n 4 (.assign t31), .n 5 (.assign t32)]) .r))) := by kernel_rfl
theorem w41 : Try.f41.body.map (Qq C) = some (.q (.R [.n 4 (.assign (.const (.slice none 0 0))), .n 5 (.assign (.const (.int .i64 0)))]) (.q (.q (.R [.n 8 (.move t1), .n 9 (.call ⟨.builtin .len, #[t8], #[23]⟩), .n 10 (.move t0), .n 11 (.call ⟨.builtin .len, #[t10], #[28]⟩), .n 12 (.binOp .neq 3 t9 t11 3)]) (.c t12 (.q (.R [.n 4 (.assign (.const (.slice none 0 0))), .n 5 (.assign (.const (.int .i64 13)))]) .r) .s)) (.q (.q (.R [.n 13 (.move t1), .n 14 (.call ⟨.builtin .len, #[t13], #[23]⟩), .n 15 (.move (.const (.int .i64 0)))]) (.b 0 (.l (.q (.R [.n 16 (.binOp .lss 3 t15 t14 3)]) (.q (.c t16 .s (.x 0)) (.q (.b 1 (.q (.R [.n 17 (.indexAddr 23 t13 t15), .n 18 (.load 3 t17), .n 7 (.assign t18)]) (.R [.n 19 (.move t4), .n 20 (.move t0), .n 21 (.move t7), .n 22 (.indexAddr 28 t20 t21), .n 23 (.load 3 t22), .n 24 (.buildSlice 28 1 #[(0, t23)]), .n 25 (.call ⟨.builtin .append, #[t19, t24], #[28, 28]⟩), .n 4 (.assign t25)]))) (.R [.n 26 (.binOp .add 3 t15 (.const (.int .i64 1)) 3), .n 15 (.move t26)]))))))) (.q (.R [.n 27 (.move t4), .n 4 (.assign t27), .n 5 (.assign (.const (.int .i64 0)))]) .r)))) := by kernel_rfl
theorem w63 : Try.f63.body.map (Qq C) = some (.q (.R [.n 1 (.box 23 t0), .n 2 (.assign (.const .nilFunc))]) (.q (.R [.n 3 (.makeFunc (.func 69) #[] #[t1]), .n 2 (.assign t3)]) .r)) := by kernel_rfl
theorem w69 : Try.f69.body.map (Qq C) = some (.q (.R [.n 3 (.assign (.const (.int .i64 0)))]) (.b 0 (.l (.q (.q (.R [.n 4 (.move t3), .n 5 (.binOp .add 3 t4 (.const (.int .i64 1)) 3), .n 6 (.load 23 t1), .n 7 (.call ⟨.builtin .len, #[t6], #[23]⟩), .n 8 (.binOp .lss 3 t5 t7 3)]) (.c t8 .s (.x 0))) (.q (.b 1 (.q (.U [.n 11 (.move t0), .n 12 (.load 23 t1), .n 13 (.move t3), .n 14 (.indexAddr 23 t12 t13), .n 15 (.load 3 t14), .n 16 (.load 23 t1), .n 17 (.move t3), .n 18 (.binOp .add 3 t17 (.const (.int .i64 1)) 3), .n 19 (.indexAddr 23 t16 t18), .n 20 (.load 3 t19), .n 21 (.call ⟨.value t11, #[t15, t20], #[3, 3]⟩), .n 22 (.unOp .not 4 t21)]) (.c t22 .r .s))) (.R [.n 9 (.move t3), .n 10 (.binOp .add 3 t9 (.const (.int .i64 2)) 3), .n 3 (.assign t10)])))))) := by kernel_rfl
theorem w44 : Try.f44.body.map (Qq C) = some (.q (.R [.n 3 (.box 28 t0), .n 5 (.box 72 t2), .n 6 (.alloc 28), .n 7 (.alloc 29)]) (.q (.q (.R [.n 13 (.move t1), .n 14 (.call ⟨.builtin .len, #[t13], #[23]⟩), .n 15 (.load 28 t3), .n 16 (.call ⟨.builtin .len, #[t15], #[28]⟩), .n 17 (.binOp .mul 3 (.const (.int .i64 2)) t16 3), .n 18 (.binOp .neq 3 t14 t17 3)]) (.c t18 (.q (.R [.z (.store 28 t6 (.const (.slice none 0 0))), .z (.store 29 t7 (.const (.int .i64 13)))]) .r) .s)) (.q (.R [.n 19 (.buildSlice 28 0 #[]), .n 8 (.alloc 28), .z (.store 28 t8 t19)]) (.q (.q (.R [.n 20 (.move t1), .n 21 (.call ⟨.value (.func 63), #[t20], #[23]⟩)]) (.b 0 (.f t21 #[22, 23] (.q (.R [.n 9 (.assign t22)]) (.R [.n 10 (.assign t23)])) (.b 1 (.q (.U [.n 25 (.load 72 t5), .n 26 (.load 28 t3), .n 27 (.load 28 t8), .n 28 (.call ⟨.builtin .len, #[t27], #[28]⟩), .n 29 (.indexAddr 28 t26 t28), .n 30 (.load 3 t29), .n 31 (.move t9), .n 32 (.move t10), .n 33 (.call ⟨.value t25, #[t30, t31, t32], #[3, 3, 3]⟩), .n 24 (.move t33), .n 34 (.extract t24 0), .n 35 (.extract t24 1), .n 11 (.assign t34), .n 12 (.assign t35)]) (.q (.q (.R [.n 36 (.move t12), .n 37 (.unOp .not 4 t36)]) (.c t37 (.q (.R [.z (.store 28 t6 (.const (.slice none 0 0))), .z (.store 29 t7 (.const (.int .i64 13)))]) .r) .s)) (.R [.n 38 (.load 28 t8), .n 39 (.move t11), .n 40 (.buildSlice 28 1 #[(0, t39)]), .n 41 (.call ⟨.builtin .append, #[t38, t40], #[28, 28]⟩), .z (.store 28 t8 t41)]))))))) (.q (.R [.n 42 (.load 28 t8), .n 43 (.call ⟨.value (.func 60), #[t42], #[28]⟩), .n 44 (.extract t43 0), .n 45 (.extract t43 1), .z (.store 28 t6 t44), .z (.store 29 t7 t45)]) .r))))) := by kernel_rfl
theorem w47 : Try.f47.body.map (Qq C) = some (.q (.R [.n 4 (.assign (.const (.slice none 0 0))), .n 5 (.assign (.const (.int .i64 0)))]) (.q (.R [.n 10 (.move t1), .n 11 (.indexAddr 26 t10 (.const (.int .i64 0))), .n 12 (.load 28 t11), .n 6 (.assign t12)]) (.q (.q (.R [.n 13 (.move t0), .n 14 (.move t6), .n 15 (.call ⟨.builtin .len, #[t14], #[28]⟩), .n 16 (.binOp .geq 3 t13 t15 3)]) (.c t16 (.q (.R [.n 4 (.assign (.const (.slice none 0 0))), .n 5 (.assign (.const (.int .i64 13)))]) .r) .s)) (.q (.R [.n 17 (.move t6), .n 18 (.call ⟨.value (.func 35), #[t17], #[28]⟩), .n 7 (.assign t18)]) (.q (.q (.R [.n 19 (.move t1), .n 20 (.slice 26 t19 (some (.const (.int .i64 1))) none none), .n 21 (.call ⟨.builtin .len, #[t20], #[26]⟩), .n 22 (.move (.const (.int .i64 0)))]) (.b 0 (.l (.q (.R [.n 23 (.binOp .lss 3 t22 t21 3)]) (.q (.c t23 .s (.x 0)) (.q (.b 1 (.q (.R [.n 24 (.indexAddr 26 t20 t22), .n 25 (.load 28 t24), .n 9 (.assign t25)]) (.q (.q (.R [.n 26 (.move t9), .n 27 (.call ⟨.builtin .len, #[t26], #[28]⟩), .n 28 (.move t6), .n 29 (.call ⟨.builtin .len, #[t28], #[28]⟩), .n 30 (.binOp .neq 3 t27 t29 3), .n 31 (.move t30), .g (some 32) (.move t9) 31 false, .g (some 33) (.move t0) 31 false, .g (some 34) (.buildSlice 23 1 #[(0, t33)]) 31 false, .g (some 35) (.call ⟨.value (.func 43), #[t32, t34], #[28, 23]⟩) 31 false, .g (some 36) (.move t6) 31 false, .g (some 37) (.move t0) 31 false, .g (some 38) (.buildSlice 23 1 #[(0, t37)]) 31 false, .g (some 39) (.call ⟨.value (.func 43), #[t36, t38], #[28, 23]⟩) 31 false, .g (some 40) (.call ⟨.value (.func 38), #[t35, t39], #[28, 28]⟩) 31 false, .g (some 41) (.unOp .not 4 t40) 31 false, .n 42 (.pick t31 (.const (.bool true)) t41)]) (.c t42 (.q (.R [.n 4 (.assign (.const (.slice none 0 0))), .n 5 (.assign (.const (.int .i64 13)))]) .r) .s)) (.D true [.n 43 (.move t7), .n 44 (.move t0), .n 45 (.indexAddr 28 t43 t44), .n 46 (.load 3 t45), .n 47 (.move t9), .n 48 (.move t0), .n 49 (.indexAddr 28 t47 t48), .n 50 (.load 3 t49), .n 51 (.binOp .add 3 t46 t50 3), .n 52 (.indexAddr 28 t43 t44), .z (.store 3 t52 t51)])))) (.R [.n 53 (.binOp .add 3 t22 (.const (.int .i64 1)) 3), .n 22 (.move t53)]))))))) (.q (.R [.n 54 (.move t7), .n 55 (.call ⟨.value (.func 60), #[t54], #[28]⟩), .n 56 (.extract t55 0), .n 57 (.extract t55 1), .n 4 (.assign t56), .n 5 (.assign t57)]) .r)))))) := by kernel_rfl
theorem w24 : Try.f24.body.map (Qq C) = some (.q (.R [.n 6 (.assign (.const (.slice none 0 0))), .n 7 (.assign (.const (.int .i64 0)))]) (.q (.R [.n 13 (.move t2), .n 14 (.indexAddr 26 t13 (.const (.int .i64 0))), .n 15 (.load 28 t14), .n 16 (.call ⟨.value (.func 35), #[t15], #[28]⟩), .n 8 (.assign t16)]) (.q (.R [.n 17 (.move t1), .n 18 (.call ⟨.value (.func 36), #[t17], #[23]⟩), .n 9 (.assign t18)]) (.q (.R [.n 10 (.assign (.func 37))]) (.q (.q (.R [.n 19 (.move t0)]) (.b 0 (.q (.b 10 (.q (.b 9 (.q (.b 8 (.q (.b 7 (.q (.b 6 (.q (.b 5 (.q (.b 4 (.q (.b 3 (.q (.b 2 (.q (.b 1 (.q (.q (.q (.q (.R [.n 21 (.binOp .eql 22 t19 (.const (.int .i64 1)) 22), .n 20 (.assign t21)]) (.c t20 .s (.q (.R [.n 22 (.binOp .eql 22 t19 (.const (.int .i64 2)) 22), .n 20 (.assign t22)]) (.c t20 .s (.q (.R [.n 23 (.binOp .eql 22 t19 (.const (.int .i64 3)) 22), .n 20 (.assign t23)]) (.c t20 .s (.R [.n 24 (.binOp .eql 22 t19 (.const (.int .i64 4)) 22), .n 20 (.assign t24)]))))))) (.c t20 (.x 1) .s)) (.q (.q (.R [.n 26 (.binOp .eql 22 t19 (.const (.int .i64 19)) 22), .n 25 (.assign t26)]) (.c t25 (.x 2) .s)) (.q (.q (.R [.n 28 (.binOp .eql 22 t19 (.const (.int .i64 10)) 22), .n 27 (.assign t28)]) (.c t27 (.x 3) .s)) (.q (.q (.R [.n 30 (.binOp .eql 22 t19 (.const (.int .i64 11)) 22), .n 29 (.assign t30)]) (.c t29 (.x 4) .s)) (.q (.q (.R [.n 32 (.binOp .eql 22 t19 (.const (.int .i64 12)) 22), .n 31 (.assign t32)]) (.c t31 (.x 5) .s)) (.q (.q (.R [.n 34 (.binOp .eql 22 t19 (.const (.int .i64 13)) 22), .n 33 (.assign t34)]) (.c t33 (.x 6) .s)) (.q (.q (.q (.R [.n 36 (.binOp .eql 22 t19 (.const (.int .i64 14)) 22), .n 35 (.assign t36)]) (.c t35 .s (.R [.n 37 (.binOp .eql 22 t19 (.const (.int .i64 20)) 22), .n 35 (.assign t37)]))) (.c t35 (.x 7) .s)) (.q (.q (.R [.n 39 (.binOp .eql 22 t19 (.const (.int .i64 15)) 22), .n 38 (.assign t39)]) (.c t38 (.x 8) .s)) (.q (.q (.R [.n 41 (.binOp .eql 22 t19 (.const (.int .i64 16)) 22), .n 40 (.assign t41)]) (.c t40 (.x 9) .s)) (.q (.R [.n 43 (.binOp .eql 22 t19 (.const (.int .i64 17)) 22), .n 42 (.assign t43)]) (.c t42 (.x 10) .s))))))))))) (.x 0))) (.q (.q (.R [.n 44 (.move t10), .n 45 (.move t8), .n 46 (.move t2), .n 47 (.indexAddr 26 t46 (.const (.int .i64 1))), .n 48 (.load 28 t47), .n 49 (.call ⟨.value (.func 38), #[t45, t48], #[28, 28]⟩), .n 50 (.move t8), .n 51 (.call ⟨.value t44, #[t49, t50], #[4, 28]⟩), .n 52 (.extract t51 0), .n 53 (.extract t51 1), .n 6 (.assign t52), .n 7 (.assign t53)]) .r) (.x 0)))) (.q (.R [.n 55 (.move t8), .n 56 (.move t2), .n 57 (.indexAddr 26 t56 (.const (.int .i64 1))), .n 58 (.load 28 t57), .n 59 (.call ⟨.value (.func 39), #[t55, t58], #[28, 28]⟩), .n 54 (.move t59), .n 60 (.extract t54 0), .n 61 (.extract t54 1), .n 11 (.assign t60), .n 12 (.assign t61)]) (.q (.q (.R [.n 62 (.move t12), .n 63 (.binOp .eql 29 t62 (.const (.int .i64 0)) 29), .n 64 (.move t63), .g (some 65) (.move t2) 64 true, .g (some 66) (.indexAddr 26 t65 (.const (.int .i64 2))) 64 true, .g (some 67) (.load 28 t66) 64 true, .g (some 68) (.move t11) 64 true, .g (some 69) (.call ⟨.value (.func 40), #[t67, t68], #[28, 28]⟩) 64 true, .g (some 70) (.binOp .neq 29 t69 (.const (.int .i64 0)) 29) 64 true, .n 71 (.pick t64 t70 (.const (.bool false)))]) (.c t71 (.q (.R [.n 6 (.assign (.const (.slice none 0 0))), .n 7 (.assign (.const (.int .i64 13)))]) .r) .s)) (.q (.R [.n 72 (.move t12), .n 73 (.binOp .neq 29 t72 (.const (.int .i64 0)) 29)]) (.c t73 (.q (.R [.n 74 (.move t12), .n 6 (.assign (.const (.slice none 0 0))), .n 7 (.assign t74)]) .r) .s)))))) (.q (.q (.R [.n 75 (.move t8), .n 76 (.move t2), .n 77 (.indexAddr 26 t76 (.const (.int .i64 1))), .n 78 (.load 28 t77), .n 79 (.call ⟨.value (.func 39), #[t75, t78], #[28, 28]⟩), .n 80 (.extract t79 0), .n 81 (.extract t79 1), .n 6 (.assign t80), .n 7 (.assign t81)]) .r) (.x 0)))) (.q (.q (.R [.n 82 (.move t8), .n 83 (.move t1), .n 84 (.call ⟨.value (.func 41), #[t82, t83], #[28, 23]⟩), .n 85 (.extract t84 0), .n 86 (.extract t84 1), .n 6 (.assign t85), .n 7 (.assign t86)]) .r) (.x 0)))) (.q (.q (.R [.n 87 (.move t10), .n 88 (.move t8), .n 89 (.call ⟨.value (.func 29), #[t88], #[28]⟩), .n 90 (.move t9), .n 91 (.call ⟨.value (.func 29), #[t90], #[28]⟩), .n 92 (.binOp .eql 3 t89 t91 3), .n 93 (.move t9), .n 94 (.call ⟨.value t87, #[t92, t93], #[4, 28]⟩), .n 95 (.extract t94 0), .n 96 (.extract t94 1), .n 6 (.assign t95), .n 7 (.assign t96)]) .r) (.x 0)))) (.q (.q (.R [.n 97 (.move t10), .n 98 (.move t8), .n 99 (.move t9), .n 100 (.call ⟨.value (.func 40), #[t98, t99], #[28, 28]⟩), .n 101 (.binOp .eql 29 t100 (.const (.int .i64 0)) 29), .n 102 (.move t9), .n 103 (.call ⟨.value t97, #[t101, t102], #[4, 28]⟩), .n 104 (.extract t103 0), .n 105 (.extract t103 1), .n 6 (.assign t104), .n 7 (.assign t105)]) .r) (.x 0)))) (.q (.q (.R [.n 106 (.move t10), .n 107 (.move t1), .n 108 (.move t8), .n 109 (.call ⟨.builtin .len, #[t108], #[28]⟩), .n 110 (.call ⟨.value (.func 42), #[t107, t109], #[23, 3]⟩), .n 111 (.binOp .eql 29 t110 (.const (.int .i64 0)) 29), .n 112 (.move t8), .n 113 (.move t1), .n 114 (.call ⟨.value (.func 43), #[t112, t113], #[28, 23]⟩), .n 115 (.call ⟨.value t106, #[t111, t114], #[4, 28]⟩), .n 116 (.extract t115 0), .n 117 (.extract t115 1), .n 6 (.assign t116), .n 7 (.assign t117)]) .r) (.x 0)))) (.q (.q (.R [.n 118 (.move t8), .n 119 (.move t1), .n 120 (.call ⟨.value (.func 44), #[t118, t119, .func 45], #[28, 23, 72]⟩), .n 121 (.extract t120 0), .n 122 (.extract t120 1), .n 6 (.assign t121), .n 7 (.assign t122)]) .r) (.x 0)))) (.q (.q (.R [.n 123 (.move t8), .n 124 (.move t1), .n 125 (.call ⟨.value (.func 44), #[t123, t124, .func 46], #[28, 23, 72]⟩), .n 126 (.extract t125 0), .n 127 (.extract t125 1), .n 6 (.assign t126), .n 7 (.assign t127)]) .r) (.x 0)))) (.q (.q (.R [.n 128 (.move t1), .n 129 (.indexAddr 23 t128 (.const (.int .i64 0))), .n 130 (.load 3 t129), .n 131 (.move t2), .n 132 (.call ⟨.value (.func 47), #[t130, t131], #[3, 26]⟩), .n 133 (.extract t132 0), .n 134 (.extract t132 1), .n 6 (.assign t133), .n 7 (.assign t134)]) .r) (.x 0))))) (.q (.R [.n 135 (.move t8), .n 6 (.assign t135), .n 7 (.assign (.const (.int .i64 0)))]) .r)))))) := by kernel_rfl
theorem w37 : Try.f37.body.map (Qq C) = some (.q (.R [.n 4 (.assign (.const (.slice none 0 0))), .n 5 (.assign (.const (.int .i64 0)))]) (.q (.q (.R [.n 6 (.move t0), .n 7 (.unOp .not 4 t6)]) (.c t7 (.q (.R [.n 4 (.assign (.const (.slice none 0 0))), .n 5 (.assign (.const (.int .i64 13)))]) .r) .s)) (.q (.R [.n 8 (.move t1), .n 4 (.assign t8), .n 5 (.assign (.const (.int .i64 0)))]) .r))) := by kernel_rfl
theorem w45 : Try.f45.body.map (Qq C) = some (.q (.R [.n 6 (.assign (.const (.int .i64 0))), .n 7 (.assign (.const (.bool false)))]) (.q (.R [.n 8 (.move t2), .n 9 (.move t1), .n 10 (.binOp .sub 3 t8 t9 3), .n 11 (.move t2), .n 12 (.move t0), .n 13 (.binOp .leq 3 t11 t12 3), .n 6 (.assign t10), .n 7 (.assign t13)]) .r)) := by kernel_rfl
theorem w46 : Try.f46.body.map (Qq C) = some (.q (.R [.n 6 (.assign (.const (.int .i64 0))), .n 7 (.assign (.const (.bool false)))]) (.q (.R [.n 8 (.move t0), .n 9 (.move t1), .n 10 (.binOp .add 3 t8 t9 3), .n 11 (.move t2), .n 12 (.binOp .add 3 t10 t11 3), .n 6 (.assign t12), .n 7 (.assign (.const (.bool true)))]) .r)) := by kernel_rfl
theorem w10 : Try.f10.body.map (Qq C) = some (.q (.R [.n 4 (.box 25 t1), .n 6 (.assign (.const (.slice none 0 0))), .n 7 (.assign (.const (.int .i64 0)))]) (.q (.q (.R [.n 12 (.move t0), .n 13 (.load 25 t4), .n 14 (.call ⟨.value (.func 22), #[t12, t13], #[3, 25]⟩), .n 8 (.assign t14)]) (.q (.R [.n 15 (.move t8), .n 16 (.binOp .neq 29 t15 (.const (.int .i64 0)) 29)]) (.c t16 (.q (.R [.n 17 (.move t8), .n 6 (.assign (.const (.slice none 0 0))), .n 7 (.assign t17)]) .r) .s))) (.q (.q (.R [.n 18 (.move t2), .n 19 (.call ⟨.builtin .len, #[t18], #[26]⟩), .n 20 (.fieldAddr 25 t4 1), .n 21 (.load 23 t20), .n 22 (.call ⟨.builtin .len, #[t21], #[23]⟩), .n 23 (.binOp .neq 3 t19 t22 3)]) (.c t23 (.q (.R [.n 6 (.assign (.const (.slice none 0 0))), .n 7 (.assign (.const (.int .i64 10)))]) .r) .s)) (.q (.q (.R [.n 24 (.move t2), .n 25 (.call ⟨.builtin .len, #[t24], #[26]⟩), .n 26 (.move (.const (.int .i64 0)))]) (.b 0 (.l (.q (.R [.n 27 (.binOp .lss 3 t26 t25 3)]) (.q (.c t27 .s (.x 0)) (.q (.b 1 (.q (.R [.n 28 (.indexAddr 26 t24 t26), .n 29 (.load 28 t28), .n 10 (.assign t29)]) (.q (.R [.n 30 (.move t10), .n 31 (.call ⟨.value (.func 23), #[t30], #[28]⟩), .n 11 (.assign t31)]) (.q (.R [.n 32 (.move t11), .n 33 (.binOp .neq 29 t32 (.const (.int .i64 0)) 29)]) (.c t33 (.q (.R [.n 34 (.move t11), .n 6 (.assign (.const (.slice none 0 0))), .n 7 (.assign t34)]) .r) .s))))) (.R [.n 35 (.binOp .add 3 t26 (.const (.int .i64 1)) 3), .n 26 (.move t35)]))))))) (.q (.D true [.n 36 (.fieldAddr 25 t4 0), .n 37 (.load 22 t36), .n 38 (.move t0), .n 39 (.load 25 t4), .n 40 (.move t2), .n 41 (.indexAddr 26 t40 (.const (.int .i64 0))), .n 42 (.load 28 t41), .n 43 (.call ⟨.builtin .len, #[t42], #[28]⟩), .n 44 (.buildSlice 23 1 #[(0, t43)]), .n 45 (.call ⟨.value (.func 25), #[t38, t39, t44], #[3, 25, 23]⟩), .n 46 (.move t2), .n 47 (.call ⟨.value (.func 24), #[t37, t45, t46], #[22, 23, 26]⟩), .n 48 (.extract t47 0), .n 49 (.extract t47 1), .n 6 (.assign t48), .n 7 (.assign t49)]) .r))))) := by kernel_rfl
theorem w21 : Try.f21.body.map (Qq C) = some (.q (.R [.n 6 (.alloc 25)]) (.q (.R [.n 7 (.move t0), .n 8 (.move t1), .n 9 (.makeSlice 23 t8 t8), .n 10 (.move t2), .n 11 (.build 25 #[(0, t7), (1, t9), (2, t10)]), .z (.store 25 t6 t11)]) .r)) := by kernel_rfl
theorem w9 : Try.f9.body.map (Qq C) = some (.q (.R [.n 0 (.assign (.const (.bool false)))]) (.q (.R [.n 16 (.call ⟨.value (.func 21), #[.const (.int .i64 10), .const (.int .i64 2), .const (.slice none 0 0)], #[22, 3, 23]⟩), .n 17 (.buildSlice 28 2 #[(0, .const (.int .i64 2)), (1, .const (.int .i64 3))]), .n 18 (.buildSlice 28 2 #[(0, .const (.int .i64 3)), (1, .const (.int .i64 4))]), .n 19 (.buildSlice 26 2 #[(0, t17), (1, t18)]), .n 20 (.call ⟨.value (.func 10), #[.const (.int .i64 3), t16, t19], #[3, 25, 26]⟩), .n 15 (.move t20), .n 21 (.extract t15 0), .n 22 (.extract t15 1), .n 1 (.assign t21), .n 2 (.assign t22)]) (.q (.R [.n 24 (.call ⟨.value (.func 21), #[.const (.int .i64 10), .const (.int .i64 2), .const (.slice none 0 0)], #[22, 3, 23]⟩), .n 25 (.buildSlice 28 2 #[(0, .const (.int .i64 2)), (1, .const (.int .i64 3))]), .n 26 (.buildSlice 28 2 #[(0, .const (.int .i64 2)), (1, .const (.int .i64 3))]), .n 27 (.buildSlice 26 2 #[(0, t25), (1, t26)]), .n 28 (.call ⟨.value (.func 10), #[.const (.int .i64 3), t24, t27], #[3, 25, 26]⟩), .n 23 (.move t28), .n 29 (.extract t23 0), .n 30 (.extract t23 1), .n 3 (.assign t29), .n 4 (.assign t30)]) (.q (.R [.n 32 (.call ⟨.value (.func 21), #[.const (.int .i64 19), .const (.int .i64 3), .const (.slice none 0 0)], #[22, 3, 23]⟩), .n 33 (.buildSlice 28 2 #[(0, .const (.int .i64 2)), (1, .const (.int .i64 3))]), .n 34 (.buildSlice 28 2 #[(0, .const (.int .i64 3)), (1, .const (.int .i64 4))]), .n 35 (.buildSlice 28 1 #[(0, .const (.int .i64 4))]), .n 36 (.buildSlice 26 3 #[(0, t33), (1, t34), (2, t35)]), .n 37 (.call ⟨.value (.func 10), #[.const (.int .i64 2), t32, t36], #[3, 25, 26]⟩), .n 31 (.move t37), .n 38 (.extract t31 0), .n 39 (.extract t31 1), .n 5 (.assign t38), .n 6 (.assign t39)]) (.q (.R [.n 41 (.call ⟨.value (.func 21), #[.const (.int .i64 19), .const (.int .i64 3), .const (.slice none 0 0)], #[22, 3, 23]⟩), .n 42 (.buildSlice 28 2 #[(0, .const (.int .i64 2)), (1, .const (.int .i64 3))]), .n 43 (.buildSlice 28 2 #[(0, .const (.int .i64 3)), (1, .const (.int .i64 4))]), .n 44 (.buildSlice 28 1 #[(0, .const (.int .i64 3))]), .n 45 (.buildSlice 26 3 #[(0, t42), (1, t43), (2, t44)]), .n 46 (.call ⟨.value (.func 10), #[.const (.int .i64 2), t41, t45], #[3, 25, 26]⟩), .n 40 (.move t46), .n 47 (.extract t40 0), .n 48 (.extract t40 1), .n 7 (.assign t47), .n 8 (.assign t48)]) (.q (.R [.n 50 (.buildSlice 23 1 #[(0, .const (.int .i64 1))]), .n 51 (.call ⟨.value (.func 21), #[.const (.int .i64 14), .const (.int .i64 1), t50], #[22, 3, 23]⟩), .n 52 (.buildSlice 28 3 #[(0, .const (.int .i64 2)), (1, .const (.int .i64 3)), (2, .const (.int .i64 4))]), .n 53 (.buildSlice 26 1 #[(0, t52)]), .n 54 (.call ⟨.value (.func 10), #[.const (.int .i64 3), t51, t53], #[3, 25, 26]⟩), .n 49 (.move t54), .n 55 (.extract t49 0), .n 56 (.extract t49 1), .n 9 (.assign t55), .n 10 (.assign t56)]) (.q (.R [.n 58 (.buildSlice 23 4 #[(0, .const (.int .i64 1)), (1, .const (.int .i64 0)), (2, .const (.int .i64 0)), (3, .const (.int .i64 2))]), .n 59 (.call ⟨.value (.func 21), #[.const (.int .i64 16), .const (.int .i64 1), t58], #[22, 3, 23]⟩), .n 60 (.buildSlice 28 2 #[(0, .const (.int .i64 2)), (1, .const (.int .i64 2))]), .n 61 (.buildSlice 26 1 #[(0, t60)]), .n 62 (.call ⟨.value (.func 10), #[.const (.int .i64 3), t59, t61], #[3, 25, 26]⟩), .n 57 (.move t62), .n 63 (.extract t57 0), .n 64 (.extract t57 1), .n 11 (.assign t63), .n 12 (.assign t64)]) (.q (.R [.n 66 (.buildSlice 23 1 #[(0, .const (.int .i64 0))]), .n 67 (.call ⟨.value (.func 21), #[.const (.int .i64 17), .const (.int .i64 2), t66], #[22, 3, 23]⟩), .n 68 (.buildSlice 28 2 #[(0, .const (.int .i64 2)), (1, .const (.int .i64 3))]), .n 69 (.buildSlice 28 2 #[(0, .const (.int .i64 5)), (1, .const (.int .i64 3))]), .n 70 (.buildSlice 26 2 #[(0, t68), (1, t69)]), .n 71 (.call ⟨.value (.func 10), #[.const (.int .i64 3), t67, t70], #[3, 25, 26]⟩), .n 65 (.move t71), .n 72 (.extract t65 0), .n 73 (.extract t65 1), .n 13 (.assign t72), .n 14 (.assign t73)]) (.q (.R [.n 74 (.move t2), .n 75 (.binOp .eql 29 t74 (.const (.int .i64 0)) 29), .n 76 (.move t75), .g (some 77) (.move t1) 76 true, .g (some 78) (.buildSlice 23 2 #[(0, .const (.int .i64 2)), (1, .const (.int .i64 4))]) 76 true, .g (some 79) (.call ⟨.value (.func 13), #[t77, t78], #[23, 23]⟩) 76 true, .n 80 (.pick t76 t79 (.const (.bool false))), .n 81 (.move t80), .g (some 82) (.move t4) 81 true, .g (some 83) (.binOp .eql 29 t82 (.const (.int .i64 13)) 29) 81 true, .n 84 (.pick t81 t83 (.const (.bool false))), .n 85 (.move t84), .g (some 86) (.move t6) 85 true, .g (some 87) (.binOp .eql 29 t86 (.const (.int .i64 0)) 29) 85 true, .n 88 (.pick t85 t87 (.const (.bool false))), .n 89 (.move t88), .g (some 90) (.move t5) 89 true, .g (some 91) (.buildSlice 23 2 #[(0, .const (.int .i64 2)), (1, .const (.int .i64 4))]) 89 true, .g (some 92) (.call ⟨.value (.func 13), #[t90, t91], #[23, 23]⟩) 89 true, .n 93 (.pick t89 t92 (.const (.bool false))), .n 94 (.move t93), .g (some 95) (.move t8) 94 true, .g (some 96) (.binOp .eql 29 t95 (.const (.int .i64 13)) 29) 94 true, .n 97 (.pick t94 t96 (.const (.bool false))), .n 98 (.move t97), .g (some 99) (.move t10) 98 true, .g (some 100) (.binOp .eql 29 t99 (.const (.int .i64 0)) 29) 98 true, .n 101 (.pick t98 t100 (.const (.bool false))), .n 102 (.move t101), .g (some 103) (.move t9) 102 true, .g (some 104) (.buildSlice 23 2 #[(0, .const (.int .i64 2)), (1, .const (.int .i64 4))]) 102 true, .g (some 105) (.call ⟨.value (.func 13), #[t103, t104], #[23, 23]⟩) 102 true, .n 106 (.pick t102 t105 (.const (.bool false))), .n 107 (.move t106), .g (some 108) (.move t12) 107 true, .g (some 109) (.binOp .eql 29 t108 (.const (.int .i64 0)) 29) 107 true, .n 110 (.pick t107 t109 (.const (.bool false))), .n 111 (.move t110), .g (some 112) (.move t11) 111 true, .g (some 113) (.buildSlice 23 2 #[(0, .const (.int .i64 3)), (1, .const (.int .i64 4))]) 111 true, .g (some 114) (.call ⟨.value (.func 13), #[t112, t113], #[23, 23]⟩) 111 true, .n 115 (.pick t111 t114 (.const (.bool false))), .n 116 (.move t115), .g (some 117) (.move t14) 116 true, .g (some 118) (.binOp .eql 29 t117 (.const (.int .i64 0)) 29) 116 true, .n 119 (.pick t116 t118 (.const (.bool false))), .n 120 (.move t119), .g (some 121) (.move t13) 120 true, .g (some 122) (.buildSlice 23 2 #[(0, .const (.int .i64 7)), (1, .const (.int .i64 3))]) 120 true, .g (some 123) (.call ⟨.value (.func 13), #[t121, t122], #[23, 23]⟩) 120 true, .n 124 (.pick t120 t123 (.const (.bool false))), .n 0 (.assign t124)]) .r))))))))) := by kernel_rfl
theorem w3 : Try.f3.body.map (Qq C) = some (.q (.R [.n 4 (.box 25 t1), .n 6 (.assign (.const (.bool false)))]) (.q (.q (.R [.n 11 (.move t2), .n 12 (.call ⟨.builtin .len, #[t11], #[26]⟩), .n 13 (.binOp .gtr 3 t12 (.const (.int .i64 20)) 3)]) (.c t13 (.q (.R [.n 14 (.call ⟨.value (.func 9), #[], #[]⟩), .n 6 (.assign t14)]) .r) .s)) (.q (.R [.n 16 (.move t0), .n 17 (.load 25 t4), .n 18 (.move t2), .n 19 (.call ⟨.value (.func 10), #[t16, t17, t18], #[3, 25, 26]⟩), .n 15 (.move t19), .n 20 (.extract t15 0), .n 21 (.extract t15 1), .n 7 (.assign t20), .n 8 (.assign t21)]) (.q (.D true [.n 23 (.move t0), .n 24 (.load 25 t4), .n 25 (.move t2), .n 26 (.call ⟨.value (.func 12), #[t25], #[26]⟩), .n 27 (.call ⟨.value (.func 11), #[t23, t24, t26], #[3, 25, 34]⟩), .n 22 (.move t27), .n 28 (.extract t22 0), .n 29 (.extract t22 1), .n 9 (.assign t28), .n 10 (.assign t29)]) (.q (.R [.n 30 (.move t8), .n 31 (.move t10), .n 32 (.binOp .eql 3 t30 t31 3), .n 33 (.move t32), .g (some 34) (.move t7) 33 true, .g (some 35) (.move t9) 33 true, .g (some 36) (.call ⟨.value (.func 13), #[t34, t35], #[23, 23]⟩) 33 true, .n 37 (.pick t33 t36 (.const (.bool false))), .n 38 (.move t37), .g (some 39) (.call ⟨.value (.func 9), #[], #[]⟩) 38 true, .n 40 (.pick t38 t39 (.const (.bool false))), .n 6 (.assign t40)]) .r))))) := by kernel_rfl
theorem w6 : Try.f6.body.map (Qq C) = some (.q (.R [.n 4 (.box 25 t1), .n 6 (.assign (.const (.bool false)))]) (.q (.q (.R [.n 14 (.move t2), .n 15 (.call ⟨.builtin .len, #[t14], #[26]⟩), .n 16 (.binOp .gtr 3 t15 (.const (.int .i64 8)) 3)]) (.c t16 (.q (.R [.n 17 (.call ⟨.value (.func 9), #[], #[]⟩), .n 6 (.assign t17)]) .r) .s)) (.q (.R [.n 7 (.assign (.const (.slice none 0 0)))]) (.q (.q (.R [.n 8 (.assign (.const (.int .i64 0)))]) (.b 0 (.l (.q (.q (.R [.n 18 (.move t8), .n 19 (.move t2), .n 20 (.call ⟨.builtin .len, #[t19], #[26]⟩), .n 21 (.binOp .lss 3 t18 t20 3)]) (.c t21 .s (.x 0))) (.q (.b 1 (.R [.n 24 (.move t7), .n 25 (.move t2), .n 26 (.move t8), .n 27 (.indexAddr 26 t25 t26), .n 28 (.load 28 t27), .n 29 (.call ⟨.builtin .append, #[.const (.slice none 0 0), t28], #[28, 28]⟩), .n 30 (.buildSlice 26 1 #[(0, t29)]), .n 31 (.call ⟨.builtin .append, #[t24, t30], #[26, 26]⟩), .n 7 (.assign t31)])) (.R [.n 22 (.move t8), .n 23 (.binOp .add 3 t22 (.const (.int .i64 1)) 3), .n 8 (.assign t23)])))))) (.q (.D true [.n 32 (.fieldAddr 25 t4 0), .n 33 (.load 22 t32), .n 34 (.fieldAddr 25 t4 1), .n 35 (.load 23 t34), .n 36 (.call ⟨.builtin .append, #[.const (.slice none 0 0), t35], #[23, 23]⟩), .n 37 (.fieldAddr 25 t4 2), .n 38 (.load 23 t37), .n 39 (.call ⟨.builtin .append, #[.const (.slice none 0 0), t38], #[23, 23]⟩), .n 40 (.build 25 #[(0, t33), (1, t36), (2, t39)]), .n 9 (.alloc 25), .z (.store 25 t9 t40)]) (.q (.R [.n 42 (.move t0), .n 43 (.load 25 t9), .n 44 (.move t7), .n 45 (.call ⟨.value (.func 10), #[t42, t43, t44], #[3, 25, 26]⟩), .n 41 (.move t45), .n 46 (.extract t41 0), .n 47 (.extract t41 1), .n 10 (.assign t46), .n 11 (.assign t47)]) (.q (.q (.R [.n 12 (.assign (.const (.int .i64 0)))]) (.b 2 (.l (.q (.q (.R [.n 48 (.move t12), .n 49 (.move t10), .n 50 (.call ⟨.builtin .len, #[t49], #[28]⟩), .n 51 (.binOp .lss 3 t48 t50 3)]) (.c t51 .s (.x 2))) (.q (.b 3 (.R [.n 54 (.move t10), .n 55 (.move t12), .n 56 (.indexAddr 28 t54 t55), .z (.store 3 t56 (.const (.int .i64 (-7))))])) (.R [.n 52 (.move t12), .n 53 (.binOp .add 3 t52 (.const (.int .i64 1)) 3), .n 12 (.assign t53)])))))) (.q (.q (.R [.n 13 (.assign (.const (.int .i64 0)))]) (.b 4 (.l (.q (.q (.R [.n 57 (.move t13), .n 58 (.move t2), .n 59 (.call ⟨.builtin .len, #[t58], #[26]⟩), .n 60 (.binOp .lss 3 t57 t59 3)]) (.c t60 .s (.x 4))) (.q (.b 5 (.q (.D true [.n 63 (.move t7), .n 64 (.move t13), .n 65 (.indexAddr 26 t63 t64), .n 66 (.load 28 t65), .n 67 (.move t2), .n 68 (.move t13), .n 69 (.indexAddr 26 t67 t68), .n 70 (.load 28 t69), .n 71 (.call ⟨.value (.func 13), #[t66, t70], #[23, 23]⟩), .n 72 (.unOp .not 4 t71)]) (.c t72 (.q (.R [.n 6 (.assign (.const (.bool false)))]) .r) .s))) (.R [.n 61 (.move t13), .n 62 (.binOp .add 3 t61 (.const (.int .i64 1)) 3), .n 13 (.assign t62)])))))) (.q (.R [.n 73 (.fieldAddr 25 t9 2), .n 74 (.load 23 t73), .n 75 (.fieldAddr 25 t4 2), .n 76 (.load 23 t75), .n 77 (.call ⟨.value (.func 13), #[t74, t76], #[23, 23]⟩), .n 78 (.move t77), .g (some 79) (.fieldAddr 25 t9 1) 78 true, .g (some 80) (.load 23 t79) 78 true, .g (some 81) (.fieldAddr 25 t4 1) 78 true, .g (some 82) (.load 23 t81) 78 true, .g (some 83) (.call ⟨.value (.func 13), #[t80, t82], #[23, 23]⟩) 78 true, .n 84 (.pick t78 t83 (.const (.bool false))), .n 85 (.move t84), .g (some 86) (.call ⟨.value (.func 9), #[], #[]⟩) 85 true, .n 87 (.pick t85 t86 (.const (.bool false))), .n 6 (.assign t87)]) .r))))))))) := by kernel_rfl
def Qu : List Int → Int
 | [] => 1
 | d :: l => d * Qu l
theorem Jf : ∀ {l : List Int}, (∀ d ∈ l, 1 ≤ d) → 1 ≤ Qu l
 | [], _ => by simp [Qu]
 | d :: l, h => by
  have h1 := Jf (l := l) fun d hd => h d (by simp [hd])
  have h2 := h d (by simp)
  exact Int.mul_pos (by omega) (by omega)
theorem Qa7 : ∀ (l m : List Int), Qu (l ++ m) = Qu l * Qu m
 | [], m => by simp [Qu]
 | d :: l, m => by simp [Qu, Qa7 l m, Int.mul_assoc]
theorem Qek (l : List Int) (d : Int) : Qu (l ++ [d]) = Qu l * d := by rw [Qa7]; simp [Qu]
theorem Ki {xs : List Int} {i : Nat} (h : i < xs.length) : Qu (xs.take (i + 1)) = Qu (xs.take i) * xs.getD i 0 := by
 rw [← Qek]; congr 1;rw [List.take_add_one]; simp [List.getD, h]
theorem Qic {xs : List Int} (h : ∀ d ∈ xs, 1 ≤ d) (i : Nat) : Qu (xs.take i) ≤ Qu xs := by
 have e : Qu xs = Qu (xs.take i) * Qu (xs.drop i) := by rw [← Qa7, List.take_append_drop]
 have h1 := Jf (l := xs.take i) fun d hd => h d (List.mem_of_mem_take hd)
 have h2 := Jf (l := xs.drop i) fun d hd => h d (List.mem_of_mem_drop hd)
 rw [e]
 have := Int.mul_le_mul_of_nonneg_left (c := Qu (xs.take i)) h2 (by omega)
 omega
theorem Qft {xs : List Int} (h : ∀ d ∈ xs, 1 ≤ d) {i : Nat} (hi : i < xs.length) : xs.getD i 0 ≤ Qu xs := by
 have h1 := Qic h (i + 1)
 rw [Ki hi] at h1
 have h2 := Jf (l := xs.take i) fun d hd => h d (List.mem_of_mem_take hd)
 have h3 : 1 ≤ xs.getD i 0 := by
  have : xs.getD i 0 = xs[i] := by simp [List.getD, hi]
  rw [this]; exact h _ (List.getElem_mem hi)
 have : 1 * xs.getD i 0 ≤ Qu (xs.take i) * xs.getD i 0 := Int.mul_le_mul_of_nonneg_right h2 (by omega)
 omega
def Xb (xs : List Int) : Int := if xs.length > 4 then 14 else if xs.all (fun d => decide (1 ≤ d)) then (if Qu xs > 1024 then 14 else 0) else 13
theorem Xk {xs : List Int} (h : Xb xs = 0) : xs.length ≤ 4 ∧ (∀ d ∈ xs, 1 ≤ d) ∧ Qu xs ≤ 1024 := by
 unfold Xb at h;split at h
 ·simp at h
 ·split at h
  ·split at h
   ·simp at h
   ·rename_i h1 h2 h3;exact ⟨by omega, by simpa using h2, by omega⟩
  ·simp at h
def Yu (xs : List Int) : Int := if Xb xs = 0 then Qu xs else 0
theorem Qbq {xs ys : List Int} (hl : xs.length = ys.length) (h : ∀ j, j < xs.length → xs.getD j 0 = ys.getD j 0) : xs = ys := by
 refine List.ext_getElem hl fun i h1 h2 => ?_
 have := h i h1
 simpa [List.getD, h1, h2] using this
theorem Qa1 {xs : List Int} {p : Int → Prop} : (∀ d ∈ xs, p d) ↔ ∀ j, j < xs.length → p (xs.getD j 0) := by
 constructor
 ·intro h j hj
  have e : xs.getD j 0 = xs[j] := by simp [List.getD, hj]
  rw [e]; exact h _ (List.getElem_mem hj)
 ·intro h d hd;obtain ⟨j, hj, rfl⟩ := List.mem_iff_getElem.1 hd
  have e : xs.getD j 0 = xs[j] := by simp [List.getD, hj]
  rw [← e]; exact h j hj
theorem Qff {p : Nat → Prop} {i : Nat} (h : ∀ j, j < i → p j) (hi : p i) : ∀ j, j < i + 1 → p j := by
 intro j hj;by_cases e : j = i
 ·subst e; exact hi
 ·exact h j (by omega)
theorem Qca (xs ys : List Int) (hx : xs.length ≤ 17592186044416) : Pu C 13 [.sl xs.length (ints xs), .sl ys.length (ints ys)] (.bool (decide (xs = ys))) := by
 refine Fc.keep (Fc.bodyT Qi Try.func13 w13 rfl Try.ntmps13 Try.results13 (zLe rfl) ?_)
 (apply Zo;repeat' ((with_reducible first|apply Zk|(first|apply Za|apply Zb|apply Zc|apply Zd)<;>intro h)<;>try simp -implicitDefEqProofs (maxSteps:=9^7) (disch:=first|omega|(simp only [Qc];omega)) only [go_sem]))
 ·skip
  (refine Ql (by intro g; simp only [go_sem, ren, Qf]) ?_)
  congr 1; symm; simp; rintro rfl; exact h rfl
 ·skip
  refine Qn (fun n ts H => ∃ i, (i ≤ xs.length) ∧ (∀ j, j < i → xs.getD j 0 = ys.getD j 0) ∧ (n = xs.length - i) ∧ (H = []) ∧ ts.length = 26 ∧ nth ts 0 = .sl xs.length (ints xs) ∧ nth ts 1 = .sl ys.length (ints ys) ∧ nth ts 5 = .int .i64 i) ?_ (n := xs.length) ?_
  ·skip
   rintro n ts H ⟨i, hi, he, hn, hH, hL, hs0, hs1, hs5⟩;refine Xt [(0, .sl xs.length (ints xs)), (1, .sl ys.length (ints ys)), (5, .int .i64 i)] hL (by simp only [zFm, hs0, hs1, hs5, true_and]; exact zNm) ?_
   clear hL hs0 hs1 hs5 ts
   refine Xm Qi ?_;subst hH hn
   (apply Zo;repeat' ((with_reducible first|apply Zk|(first|apply Za|apply Zb|apply Zc|apply Zd)<;>intro h)<;>try simp -implicitDefEqProofs (maxSteps:=9^7) (disch:=first|omega|(simp only [Qc];omega)) only [go_sem]))
   ·skip
    (refine Ql (by intro g; simp only [go_sem, ren, Qf]) ?_)
    congr 1; symm; simp; rintro rfl; exact h rfl
   ·exact ⟨_, by omega, i + 1, by omega, Qff he h, rfl, (by (repeat' apply And.intro) <;> (first | rfl | omega | (congr 1; omega) | assumption | (congr 1; assumption)))⟩
   ·skip
    (refine Ql (by intro g; simp only [go_sem, ren, Qf]) ?_)
    congr 1; symm; simp; exact Qbq (by omega) fun j hj => he j (by omega)
  ·exact ⟨0, by omega, fun j hj => by omega, rfl, rfl, rfl, rfl, rfl, rfl⟩
def okB (f t : List Int) : Bool := decide (f.length ≤ t.length) && (List.range f.length).all fun i => decide (f.getD i 0 = 1) || decide (f.getD i 0 = t.getD (t.length - f.length + i) 0)
def Qax (f t : List Int) : Int := if Xb f = 0 then (if Xb t = 0 then (if okB f t then 0 else 13) else Xb t) else Xb f
theorem Qg8 (f t : List Int) : okB f t = true ↔ f.length ≤ t.length ∧ ∀ i, i < f.length → (f.getD i 0 = 1 ∨ f.getD i 0 = t.getD (t.length - f.length + i) 0) := by
 simp only [okB, Bool.and_eq_true, decide_eq_true_eq, List.all_eq_true, List.mem_range, Bool.or_eq_true]
def Xp (xs axes : List Int) : Nat → List Int
 | 0 => []
 | i + 1 => Xp xs axes i ++ if axes.contains (i : Int) then [] else [xs.getD i 0]
theorem Kc (xs axes : List Int) : ∀ i, (Xp xs axes i).length ≤ i
 | 0 => by simp [Xp]
 | i + 1 => by
  have := Kc xs axes i
  simp only [Xp, List.length_append];split <;> simp <;> omega
def inP (o v : Int) : Bool := decide (1 ≤ o ∧ o ≤ 20 ∧ 1 ≤ v ∧ v ≤ 3 ∧ (o = 18 → v = 1) ∧ (o = 19 ∨ o = 20 → v < 3) ∧ (o = 8 ∨ o = 9 → v = 3))
def least (o : Int) : Int := if o = 1 ∨ o = 2 ∨ o = 3 ∨ o = 4 ∨ o = 10 then 2 else if o = 19 then 3 else if o = 17 then 1 else if o < 1 ∨ o > 20 then 0 else 1
def most (o : Int) : Int := if o = 17 then 8 else least o
def Qag (v o : Int) : Bool := decide (((o = 6 ∨ o = 11 ∨ o = 17) ∧ v = 1) ∨ ((o = 14 ∨ o = 20) ∧ v < 3))
def Yr (l : List Int) : Bool := (List.range l.length).all fun i => decide (0 ≤ l.getD i 0 ∧ l.getD i 0 < l.length) && (List.range i).all fun k => decide (l.getD k 0 ≠ l.getD i 0)
def Qeh (l : List Int) : Bool := (List.range l.length).all fun i => decide (0 ≤ l.getD i 0 ∧ l.getD i 0 ≤ 3 ∧ (0 < i → l.getD (i - 1) 0 < l.getD i 0))
def Qeq (cut : Bool) (l : List Int) : Bool := decide (l.length % 2 = 0 ∧ l.length ≤ 8) && (List.range (l.length / 2)).all fun i => decide (0 ≤ l.getD (2 * i) 0 ∧ 0 ≤ l.getD (2 * i + 1) 0 ∧ (cut = true → l.getD (2 * i) 0 < l.getD (2 * i + 1) 0))
def Qdk (l : List Int) : Bool := l.any fun x => decide (x > 2147483647 ∨ x < -2147483647)
def Jz (o : Int) (l : List Int) : Bool :=
 if o = 6 then decide (l.length = 1 ∧ 0 ≤ l.getD 0 0 ∧ l.getD 0 0 ≤ 16)
 else if o = 9 then decide (l.length = 2 ∧ 1 ≤ l.getD 1 0 ∧ Nat.gcd (l.getD 0 0).natAbs (l.getD 1 0).natAbs = 1)
 else if o = 11 then Yr l && decide (l.length ≤ 4)
 else if o = 12 ∨ o = 13 then decide (Xb l = 0)
 else if o = 14 ∨ o = 20 then Qeh l
 else if o = 15 ∨ o = 16 then Qeq (decide (o = 15)) l
 else if o = 17 then decide (l.length = 1 ∧ 0 ≤ l.getD 0 0 ∧ l.getD 0 0 ≤ 3)
 else decide (l.length = 0)
def Xz (o : Int) (l : List Int) : Bool := !Qdk l && Jz o l
theorem Qe1 {l : List Int} (h : Qdk l = false) {i : Nat} (hi : i < l.length) : -2147483647 ≤ l.getD i 0 ∧ l.getD i 0 ≤ 2147483647 := by
 have e : l.getD i 0 = l[i] := by simp [List.getD, hi]
 simp only [Qdk, List.any_eq_false, decide_eq_true_eq] at h
 have := h _ (List.getElem_mem hi)
 rw [e]; omega
def Qen (l : List Int) (i : Nat) : Prop := 0 ≤ l.getD i 0 ∧ l.getD i 0 < l.length ∧ ∀ k, k < i → l.getD k 0 ≠ l.getD i 0
theorem Qat (l : List Int) : Yr l = true ↔ ∀ i, i < l.length → Qen l i := by
 simp only [Yr, Qen, List.all_eq_true, List.mem_range, Bool.and_eq_true, decide_eq_true_eq, and_assoc]
def Qa6 (l : List Int) (i : Nat) : Prop := 0 ≤ l.getD i 0 ∧ l.getD i 0 ≤ 3 ∧ (0 < i → l.getD (i - 1) 0 < l.getD i 0)
theorem Qda (l : List Int) : Qeh l = true ↔ ∀ i, i < l.length → Qa6 l i := by
 simp only [Qeh, Qa6, List.all_eq_true, List.mem_range, decide_eq_true_eq]
def Qdf (cut : Bool) (l : List Int) (i : Nat) : Prop := 0 ≤ l.getD (2 * i) 0 ∧ 0 ≤ l.getD (2 * i + 1) 0 ∧ (cut = true → l.getD (2 * i) 0 < l.getD (2 * i + 1) 0)
theorem Qbw (cut : Bool) (l : List Int) : Qeq cut l = true ↔ l.length % 2 = 0 ∧ l.length ≤ 8 ∧ ∀ i, i < l.length / 2 → Qdf cut l i := by
 simp only [Qeq, Qdf, List.all_eq_true, List.mem_range, Bool.and_eq_true, decide_eq_true_eq, and_assoc]
theorem Qep {cut : Bool} {l : List Int} (h : ¬ (l.length % 2 = 0 ∧ l.length ≤ 8 ∧ ∀ i, i < l.length / 2 → Qdf cut l i)) : Qeq cut l = false := by
 cases hx : Qeq cut l with
 | false => rfl
 | true => exact (h ((Qbw cut l).1 hx)).elim
structure Nd where
 op : Int
 args : List Int
 attrs : List Int
def ndC (n : Nd) : List V := [.int .i64 n.op, .sl n.args.length (ints n.args), .sl n.attrs.length (ints n.attrs)]
theorem Qxe (n : Nd) : ndC n = [.int .i64 n.op, .sl n.args.length (ints n.args), .sl n.attrs.length (ints n.attrs)] := rfl
attribute [go_sem] Qxe
def Yl (v : Int) (n : Nd) : Int := if v < 1 ∨ v > 3 then 8 else if inP n.op v = false then 9 else if (n.args.length : Int) < least n.op ∨ (n.args.length : Int) > most n.op then 10 else if n.attrs.length = 0 ∧ Qag v n.op = true then 0 else if Xz n.op n.attrs = true then 0 else 11
def up (k : Nat) : List Int := (List.range k).map fun i : Nat => (i : Int)
def Qbc (k : Nat) : List Int := (up k).reverse
theorem Qtd (k : Nat) : up (k + 1) = up k ++ [(k : Int)] := by simp [up, List.range_succ]
theorem Zt (k : Nat) : (up k).length = k := by simp [up]
def Zz (v : Int) (n : Nd) (r : Nat) : List Int := if Yl v n ≠ 0 ∨ n.attrs.length > 0 ∨ Qag v n.op = false then n.attrs else
 if n.op = 6 then [2] else if n.op = 17 then [0] else if n.op = 11 then Qbc (if r > 4 then 0 else r) else up (if r > 4 then 0 else r)
theorem Qha {e s : Nat} {H : Qa} {cs : List V} {n : Nat} (h : cs.length = n * s) : Bv.Own e s (H ++ [some ⟨e, s, cs⟩]) (.ref H.length 0 n) n cs := .inr ⟨H.length, rfl, Zq _ _, h⟩
theorem Qoi (R j : Nat) (h : j < R) : (Qbc R).take (j + 1) = (Qbc R).take j ++ [((R : Int) - 1 - j)] := by
 rw [List.take_add_one]; congr 1
 have : (Qbc R)[j]? = some ((R : Int) - 1 - j) := by
  simp only [Qbc, up];rw [List.getElem?_reverse (by simpa using h)]
  simp only [List.length_map, List.length_range, List.getElem?_map];rw [List.getElem?_range (by omega)]
  simp; omega
 rw [this]; rfl
theorem Yd (k : Nat) : (Qbc k).length = k := by simp [Qbc, up]
theorem Qpj {l : List Int} {j : Nat} (h : j ≤ l.length) : (l.take j).length = j := by simp; omega
end Go.Proofs.Ytlomgfdepllanaa
end
section
namespace Go.Proofs.Ytlomgfdepllanaa
open Go.Bv
abbrev Sh := List Int × Int
def Yx (x y : List Int) : Sh := if x.length = 2 ∧ y.length = 2 ∧ x.getD 1 0 = y.getD 0 0 then ([x.getD 0 0, y.getD 1 0], 0) else ([], 13)
def tab (f : Nat → Int) (k : Nat) : List Int := (List.range k).map f
theorem Qh5 (f : Nat → Int) (k : Nat) : tab f (k + 1) = tab f k ++ [f k] := by simp [tab, List.range_succ]
theorem Xj (f : Nat → Int) (k : Nat) : (tab f k).length = k := by simp [tab]
theorem Qpk (f : Nat → Int) {k i : Nat} (h : i < k) : (tab f k).getD i 0 = f i := by simp [tab, List.getD, h]
def Qtq (l : List Int) (i : Nat) : Int := l.getD (2 * i + 1) 0 - l.getD (2 * i) 0
def Qvm (x l : List Int) (k : Nat) : Bool := (List.range k).all fun i => decide (l.getD (2 * i + 1) 0 ≤ x.getD i 0)
def Qwa (x l : List Int) : Sh := if l.length = 2 * x.length ∧ Qvm x l x.length = true then (tab (Qtq l) x.length, 0) else ([], 13)
def Att (l : List Int) : Prop := ∀ i, i < l.length → -2147483647 ≤ l.getD i 0 ∧ l.getD i 0 ≤ 2147483647
def Qt0 (x l : List Int) (i : Nat) : Int := l.getD (2 * i) 0 + x.getD i 0 + l.getD (2 * i + 1) 0
def Qw6 (x l : List Int) : Sh := if l.length = 2 * x.length then (tab (Qt0 x l) x.length, 0) else ([], 13)
def Qgg (axis : Nat) (l : List (List Int)) (k : Nat) : Prop := (l.getD k []).length = (l.getD 0 []).length ∧ ∀ i, i < (l.getD 0 []).length → i ≠ axis → (l.getD k []).getD i 0 = (l.getD 0 []).getD i 0
instance (axis : Nat) (l : List (List Int)) (k : Nat) : Decidable (Qgg axis l k) := inferInstanceAs (Decidable (_ ∧ ∀ i, i < _ → _))
def Qyb (axis : Nat) (l : List (List Int)) (n : Nat) : Bool := (List.range n).all fun k => decide (1 ≤ k → Qgg axis l k)
theorem Qe5 (axis : Nat) (l : List (List Int)) (n : Nat) : Qyb axis l n = true ↔ ∀ k, k < n → 1 ≤ k → Qgg axis l k := by simp only [Qyb, List.all_eq_true, List.mem_range, decide_eq_true_eq]
def Qce (axis : Nat) (l : List (List Int)) : Nat → Int
 | 0 => 0
 | k + 1 => Qce axis l k + (l.getD k []).getD axis 0
def Qdz (axis : Nat) (l : List (List Int)) : Sh := if axis < (l.getD 0 []).length ∧ Qyb axis l l.length = true then ((l.getD 0 []).set axis (Qce axis l l.length), 0) else ([], 13)
theorem Qpm (l : List Int) {i : Nat} (h : i < l.length) : l.set i (l.getD i 0) = l := by
 rw [show l.getD i 0 = l[i] by simp [List.getD, h]]; exact List.set_getElem_self ..
theorem Qmn {axis : Nat} {l : List (List Int)} (hd : ∀ k, k < l.length → ∀ i, 0 ≤ (l.getD k []).getD i 0 ∧ (l.getD k []).getD i 0 ≤ 1024) : ∀ k, k ≤ l.length → 0 ≤ Qce axis l k ∧ Qce axis l k ≤ 1024 * k
 | 0, _ => by simp [Qce]
 | k + 1, h => by
  have h1 := Qmn (axis := axis) hd k (by omega)
  have h2 := hd k (by omega) axis
  simp only [Qce]; omega
def Xq (o : Int) (a : List Int) (l : List (List Int)) : Sh :=
 if o = 1 ∨ o = 2 ∨ o = 3 ∨ o = 4 then (if l.getD 0 [] = l.getD 1 [] then (l.getD 0 [], 0) else ([], 13))
 else if o = 10 then Yx (l.getD 0 []) (l.getD 1 [])
 else if o = 19 then (if (Yx (l.getD 0 []) (l.getD 1 [])).2 ≠ 0 then ([], (Yx (l.getD 0 []) (l.getD 1 [])).2) else if Xb (Yx (l.getD 0 []) (l.getD 1 [])).1 ≠ 0 then ([], 14) else if Qax (l.getD 2 []) (Yx (l.getD 0 []) (l.getD 1 [])).1 ≠ 0 then ([], 13) else ((Yx (l.getD 0 []) (l.getD 1 [])).1, 0))
 else if o = 11 then (if a.length = (l.getD 0 []).length then (tab (fun i => (l.getD 0 []).getD (a.getD i 0).toNat 0) a.length, 0) else ([], 13))
 else if o = 12 then (if Yu a = Yu (l.getD 0 []) then (a, 0) else ([], 13))
 else if o = 13 then (if Qax (l.getD 0 []) a = 0 then (a, 0) else ([], 13))
 else if o = 14 ∨ o = 20 then (if a.length > 0 ∧ a.getD (a.length - 1) 0 ≥ (l.getD 0 []).length then ([], 13) else (Xp (l.getD 0 []) a (l.getD 0 []).length, 0))
 else if o = 15 then Qwa (l.getD 0 []) a
 else if o = 16 then Qw6 (l.getD 0 []) a
 else if o = 17 then Qdz (a.getD 0 0).toNat l
 else (l.getD 0 [], 0)
structure ComeOK (o : Int) (a : List Int) (l : List (List Int)) : Prop where
 one : 1 ≤ l.length
 few : l.length ≤ 1000
 two : (o = 1 ∨ o = 2 ∨ o = 3 ∨ o = 4 ∨ o = 10 ∨ o = 19) → 2 ≤ l.length
 three : o = 19 → 3 ≤ l.length
 rank : ∀ k, k < l.length → (l.getD k []).length ≤ 4
 dim : ∀ k, k < l.length → ∀ i, 0 ≤ (l.getD k []).getD i 0 ∧ (l.getD k []).getD i 0 ≤ 1024
 len : a.length ≤ 17592186044416
 att : Att a
 perm : o = 11 → ∀ i, i < a.length → 0 ≤ a.getD i 0 ∧ a.getD i 0 < a.length
 axis : o = 17 → a.length = 1 ∧ 0 ≤ a.getD 0 0 ∧ a.getD 0 0 ≤ 3
def shV (r : Sh) : V := .tup [.sl r.1.length (ints r.1), .int .i64 r.2]
theorem Qwc (r : Sh) : shV r = .tup [.sl r.1.length (ints r.1), .int .i64 r.2] := rfl
attribute [go_sem] Qwc
def Qfs : List (List Int) → Int
 | [] => 0
 | s :: l => if Xb s ≠ 0 then Xb s else Qfs l
theorem Qnz {l : List (List Int)} : Qfs l = 0 ↔ ∀ s ∈ l, Xb s = 0 := by
 induction l with
 | nil => simp [Qfs]
 | cons s l ih =>
  simp only [Qfs, List.mem_cons, forall_eq_or_imp];split
  ·rename_i h; simp [h]
  ·rename_i h; simp only [ne_eq, Decidable.not_not] at h; simp [h, ih]
theorem Ql9 {l : List (List Int)} {i : Nat} (h : ∀ j, j < i → Xb (l.getD j []) = 0) (hi : i < l.length) (hn : Xb (l.getD i []) ≠ 0) : Qfs l = Xb (l.getD i []) := by
 induction l generalizing i with
 | nil => simp at hi
 | cons s l ih =>
  cases i with
  | zero => simp only [Qfs, List.getD_cons_zero] at hn ⊢; rw [if_pos hn]
  | succ i =>
   have h0 := h 0 (by omega)
   simp only [List.getD_cons_zero] at h0;simp only [Qfs, List.getD_cons_succ] at hn ⊢;rw [if_neg (by simp [h0])]
   exact ih (fun j hj => by have := h (j + 1) (by omega); simpa using this) (by simpa using hi) hn
theorem Qqu {l : List (List Int)} (h : ∀ j, j < l.length → Xb (l.getD j []) = 0) : Qfs l = 0 := by
 refine Qnz.2 fun s hs => ?_
 obtain ⟨j, hj, rfl⟩ := List.mem_iff_getElem.1 hs
 have := h j hj
 simpa [List.getD, hj] using this
def Qam (v : Int) (n : Nd) (l : List (List Int)) : Sh :=
 if Yl v n ≠ 0 then ([], Yl v n) else if l.length ≠ n.args.length then ([], 10) else if Qfs l ≠ 0 then ([], Qfs l)
 else if (Xq n.op (Zz v n (l.getD 0 []).length) l).2 ≠ 0 then ([], (Xq n.op (Zz v n (l.getD 0 []).length) l).2)
 else if Xb (Xq n.op (Zz v n (l.getD 0 []).length) l).1 ≠ 0 then ([], 14) else Xq n.op (Zz v n (l.getD 0 []).length) l
theorem Qai {v : Int} {d : Nd} (h : Yl v d = 0) : (1 ≤ v ∧ v ≤ 3) ∧ inP d.op v = true ∧ least d.op ≤ d.args.length ∧ d.args.length ≤ most d.op ∧ ((d.attrs.length = 0 ∧ Qag v d.op = true) ∨ Xz d.op d.attrs = true) := by
 unfold Yl at h
 grind
theorem Qk1 {o v : Int} (h : inP o v = true) : 1 ≤ o ∧ o ≤ 20 := by
 simp only [inP, decide_eq_true_eq] at h; omega
theorem Qbu {k i : Nat} (h : i < k) : (up k).getD i 0 = i := by simp [up, List.getD, h]
theorem Jj {k i : Nat} (h : i < k) : (Qbc k).getD i 0 = (k : Int) - 1 - i := by
 have := Qoi k i h
 have h2 : ((Qbc k).take (i + 1)).getD i 0 = (Qbc k).getD i 0 := by simp [List.getD, List.getElem?_take, h]
 rw [← h2, this]
 have hl : ((Qbc k).take i).length = i := Qpj (by rw [Yd]; omega)
 rw [List.getD_eq_getElem?_getD, List.getElem?_append_right (by omega), hl]; simp
theorem Qgh {v : Int} {d : Nd} {l : List (List Int)} (r : Nat) (hat : d.attrs.length ≤ 17592186044416) (hc : Yl v d = 0) (hl : l.length = d.args.length) (hm : ∀ j, j < l.length → Xb (l.getD j []) = 0) : ComeOK d.op (Zz v d r) l := by
 obtain ⟨hv, hin, h1, h2, h3⟩ := Qai hc
 have ho := Qk1 hin
 have hdim : ∀ k, k < l.length → ∀ i, 0 ≤ (l.getD k []).getD i 0 ∧ (l.getD k []).getD i 0 ≤ 1024 := fun k hk i => by
  obtain ⟨_, g2, g3⟩ := Xk (hm k hk);by_cases hi : i < (l.getD k []).length
  ·have := Qa1.1 g2 i hi
   have := Qft g2 hi
   omega
  ·rw [List.getD_eq_getElem?_getD, List.getElem?_eq_none (by omega)]; simp
 have hfew : most d.op ≤ 8 := by unfold most least; omega
 have hone : 1 ≤ least d.op := by unfold least; omega
 refine ⟨by omega, by omega, fun h => ?_, fun h => ?_, fun k hk => (Xk (hm k hk)).1, hdim, ?_, ?_, ?_, ?_⟩
 ·have : 2 ≤ least d.op := by unfold least; omega
  omega
 ·have : 3 ≤ least d.op := by unfold least; omega
  omega
 all_goals
  by_cases hex : Yl v d ≠ 0 ∨ d.attrs.length > 0 ∨ Qag v d.op = false
  ·rw [Zz, if_pos hex]
   have hatt : Xz d.op d.attrs = true := by
    rcases h3 with ⟨h3, h4⟩ | h3
    ·rcases hex with hex | hex | hex
     ·exact (hex hc).elim
     ·omega
     ·rw [h4] at hex; cases hex
    ·exact h3
   simp only [Xz, Bool.and_eq_true, Bool.not_eq_true'] at hatt;obtain ⟨hfar, hop⟩ := hatt
   first
    | exact hat
    | exact fun i hi => Qe1 hfar hi
    | (intro h11 i hi
       rw [h11] at hop;rw [show Jz 11 d.attrs = (Yr d.attrs && decide (d.attrs.length ≤ 4)) from rfl] at hop;simp only [Bool.and_eq_true] at hop
       have := (Qat _).1 hop.1 i hi
       exact ⟨this.1, this.2.1⟩)
    | (intro h17
       rw [h17] at hop;rw [show Jz 17 d.attrs = decide (d.attrs.length = 1 ∧ 0 ≤ d.attrs.getD 0 0 ∧ d.attrs.getD 0 0 ≤ 3) from rfl] at hop;exact of_decide_eq_true hop)
  ·rw [Zz, if_neg hex];generalize hR : (if r > 4 then 0 else r) = R
   have hR4 : R ≤ 4 := by split at hR <;> omega
   split
   ·first
     | (show 1 ≤ _; omega)
     | (intro i hi; simp at hi; subst hi; simp)
     | (intro h11; omega)
   ·split
    ·first
      | (show 1 ≤ _; omega)
      | (intro i hi; simp at hi; subst hi; simp)
      | (intro h11; omega)
      | (intro h17; simp)
    ·split
     ·first
       | (rw [Yd]; omega)
       | (intro i hi; rw [Yd] at hi; rw [Jj hi]; omega)
       | (intro h11 i hi; rw [Yd] at hi ⊢; rw [Jj hi]; omega)
       | (intro h17; omega)
     ·first
       | (rw [Zt]; omega)
       | (intro i hi; rw [Zt] at hi; rw [Qbu hi]; omega)
       | (intro h11; omega)
       | (intro h17; omega)
end Go.Proofs.Ytlomgfdepllanaa
end
section
namespace Go.Proofs.Ytlomgfdepllanaa
open Go.Bv
def Qej (xs : List Int) : Int := if Qu xs > 1024 then 1025 else Qu xs
theorem Qco (xs : List Int) (hx : xs.length ≤ 17592186044416) (h1 : ∀ d ∈ xs, 1 ≤ d) : Pu C 34 [.sl xs.length (ints xs)] (.int .i64 (Qej xs)) := by
 refine Fc.keep (Fc.bodyT Qi Try.func34 w34 rfl Try.ntmps34 Try.results34 (zLe rfl) ?_)
 (apply Zo;repeat' ((with_reducible first|apply Zk|(first|apply Za|apply Zb|apply Zc|apply Zd)<;>intro h)<;>try simp -implicitDefEqProofs (maxSteps:=9^7) (disch:=first|omega|(simp only [Qc];omega)) only [go_sem]))
 refine Qn (fun n ts H => ∃ k, (k ≤ xs.length) ∧ (Qu (xs.take k) ≤ 1024) ∧ (n = xs.length - k) ∧ (H = []) ∧ ts.length = 21 ∧ nth ts 3 = .int .i64 (Qu (xs.take k)) ∧ nth ts 6 = .sl xs.length (ints xs) ∧ nth ts 7 = .int .i64 xs.length ∧ nth ts 8 = .int .i64 k) ?_ (n := xs.length) ?_
 ·skip
  rintro n ts H ⟨k, hk, hm, hn, hH, hL, hs3, hs6, hs7, hs8⟩;refine Xt [(3, .int .i64 (Qu (xs.take k))), (6, .sl xs.length (ints xs)), (7, .int .i64 xs.length), (8, .int .i64 k)] hL (by simp only [zFm, hs3, hs6, hs7, hs8, true_and]; exact zNm) ?_
  clear hL hs3 hs6 hs7 hs8 ts
  refine Xm Qi ?_;subst hH hn
  have hm1 := Jf (l := xs.take k) fun d hd => h1 d (List.mem_of_mem_take hd)
  have hd0 : 0 ≤ 1024 / Qu (xs.take k) := Int.ediv_nonneg (by omega) (by omega)
  have hd1 : 1024 / Qu (xs.take k) ≤ 1024 := Int.ediv_le_self _ (by omega)
  by_cases hlt : k < xs.length
  ·have hx1 := Qa1.1 h1 k hlt
   have hle2 := Qic h1 (k + 1)
   rw [Ki hlt] at hle2;generalize hq : xs.getD k 0 = q at hx1 hle2;by_cases hbig : 1024 < Qu (xs.take k) * q
   ·have hdiv : 1024 / Qu (xs.take k) < q := Int.ediv_lt_of_lt_mul (by omega) (by rw [Int.mul_comm]; exact hbig)
    (apply Zo;repeat' ((with_reducible first|apply Zk|(first|apply Za|apply Zb|apply Zc|apply Zd)<;>intro h)<;>try simp -implicitDefEqProofs (maxSteps:=9^7) (disch:=first|omega|(simp only [Qc];omega)) only [go_sem, hq]))
    (refine Ql (by intro g; simp only [go_sem, ren, Qf]) ?_)
    rw [Qej, if_pos (by omega)]
   ·have hdiv : q ≤ 1024 / Qu (xs.take k) := Int.le_ediv_of_mul_le (by omega) (by rw [Int.mul_comm]; omega)
    have hpos : 0 ≤ Qu (xs.take k) * q := Int.mul_nonneg (by omega) (by omega)
    (apply Zo;repeat' ((with_reducible first|apply Zk|(first|apply Za|apply Zb|apply Zc|apply Zd)<;>intro h)<;>try simp -implicitDefEqProofs (maxSteps:=9^7) (disch:=first|omega|(simp only [Qc];omega)) only [go_sem, hq]))
    exact ⟨_, by omega, k + 1, by omega, by rw [Ki hlt, hq]; omega, rfl, by rw [Ki hlt, hq], rfl⟩
  ·have e : xs.take k = xs := List.take_of_length_le (by omega)
   rw [e] at hm
   (apply Zo;repeat' ((with_reducible first|apply Zk|(first|apply Za|apply Zb|apply Zc|apply Zd)<;>intro h)<;>try simp -implicitDefEqProofs (maxSteps:=9^7) (disch:=first|omega|(simp only [Qc];omega)) only [go_sem]))
   (refine Ql (by intro g; simp only [go_sem, ren, Qf]) ?_)
   rw [Qej, if_neg (by omega), e]
 ·exact ⟨0, by omega, by simp [Qu], rfl, rfl, rfl, rfl, rfl, rfl, rfl⟩
theorem Qa3 (xs : List Int) (hlx : xs.length ≤ 17592186044416) : Pu C 23 [.sl xs.length (ints xs)] (.int .i64 (Xb xs)) := by
 refine Fc.keep (Fc.bodyT Qi Try.func23 w23 rfl Try.ntmps23 Try.results23 (zLe rfl) ?_)
 (apply Zo;repeat' ((with_reducible first|apply Zk|(first|apply Za|apply Zb|apply Zc|apply Zd)<;>intro h)<;>try simp -implicitDefEqProofs (maxSteps:=9^7) (disch:=first|omega|(simp only [Qc];omega)) only [go_sem]))
 ·skip
  (refine Ql (by intro g; simp only [go_sem, ren, Qf]) ?_)
  congr 1; symm; rw [Xb, if_pos (by omega)]
 ·skip
  refine Qn (fun n ts H => ∃ i, (i ≤ xs.length) ∧ (∀ j, j < i → 1 ≤ xs.getD j 0) ∧ (n = xs.length - i) ∧ (H = []) ∧ ts.length = 20 ∧ nth ts 0 = .sl xs.length (ints xs) ∧ nth ts 8 = .sl xs.length (ints xs) ∧ nth ts 9 = .int .i64 xs.length ∧ nth ts 10 = .int .i64 i) ?_ (n := xs.length) ?_
  ·skip
   rintro n ts H ⟨i, hi, ha, hn, hH, hL, hs0, hs8, hs9, hs10⟩;refine Xt [(0, .sl xs.length (ints xs)), (8, .sl xs.length (ints xs)), (9, .int .i64 xs.length), (10, .int .i64 i)] hL (by simp only [zFm, hs0, hs8, hs9, hs10, true_and]; exact zNm) ?_
   clear hL hs0 hs8 hs9 hs10 ts
   refine Xm Qi ?_;subst hH hn
   (apply Zo;repeat' ((with_reducible first|apply Zk|(first|apply Za|apply Zb|apply Zc|apply Zd)<;>intro h)<;>try simp -implicitDefEqProofs (maxSteps:=9^7) (disch:=first|omega|(simp only [Qc];omega)) only [go_sem]))
   ·skip
    (refine Ql (by intro g; simp only [go_sem, ren, Qf]) ?_)
    congr 1; symm; rw [Xb, if_neg (by omega), if_neg]
    intro hall; have := Qa1.1 (by simpa using hall) i (by omega); omega
   ·exact ⟨_, by omega, i + 1, by omega, Qff ha (by omega), rfl, (by (repeat' apply And.intro) <;> (first | rfl | omega | (congr 1; omega) | assumption | (congr 1; assumption)))⟩
   ·have hall : ∀ d ∈ xs, 1 ≤ d := Qa1.2 fun j hj => ha j (by omega)
    have hall' : xs.all (fun d => decide (1 ≤ d)) = true := by simpa using hall
    have e1 : Xb xs = if Qu xs > 1024 then 14 else 0 := by rw [Xb, if_neg (by omega), if_pos hall']
    refine Fc.pure (Qco xs hlx hall) (by simp [go_sem, Qm, clo, Qb, Qg]) (by intro g; simp only [go_sem, ren, Qf]) ?_
    have e2 : 1024 < Qej xs ↔ 1024 < Qu xs := by unfold Qej; split <;> omega
    by_cases hb : 1024 < Qu xs
    ·have := e2.2 hb
     (apply Zo;repeat' ((with_reducible first|apply Zk|(first|apply Za|apply Zb|apply Zc|apply Zd)<;>intro h)<;>try simp -implicitDefEqProofs (maxSteps:=9^7) (disch:=first|omega|(simp only [Qc];omega)) only [go_sem]))
     (refine Ql (by intro g; simp only [go_sem, ren, Qf]) ?_)
     rw [e1, if_pos (by omega)]
    ·have hnb : ¬ 1024 < Qej xs := fun h => hb (e2.1 h)
     (apply Zo;repeat' ((with_reducible first|apply Zk|(first|apply Za|apply Zb|apply Zc|apply Zd)<;>intro h)<;>try simp -implicitDefEqProofs (maxSteps:=9^7) (disch:=first|omega|(simp only [Qc];omega)) only [go_sem]))
     (refine Ql (by intro g; simp only [go_sem, ren, Qf]) ?_)
     rw [e1, if_neg (by omega)]
  ·exact ⟨0, by omega, fun j hj => by omega, rfl, rfl, rfl, rfl, rfl, rfl, rfl⟩
theorem Qfi (xs : List Int) (hlx : xs.length ≤ 17592186044416) : Pu C 29 [.sl xs.length (ints xs)] (.int .i64 (Yu xs)) := by
 refine Fc.keep (Fc.bodyT Qi Try.func29 w29 rfl Try.ntmps29 Try.results29 (zLe rfl) ?_)
 (apply Zo;repeat' ((with_reducible first|apply Zk|(first|apply Za|apply Zb|apply Zc|apply Zd)<;>intro h)<;>try simp -implicitDefEqProofs (maxSteps:=9^7) (disch:=first|omega|(simp only [Qc];omega)) only [go_sem]))
 refine Fc.pure (Qa3 xs hlx) (by simp [go_sem, Qm, clo, Qb, Qg]) (by intro g; simp only [go_sem, ren, Qf]) ?_
 (apply Zo;repeat' ((with_reducible first|apply Zk|(first|apply Za|apply Zb|apply Zc|apply Zd)<;>intro h)<;>try simp -implicitDefEqProofs (maxSteps:=9^7) (disch:=first|omega|(simp only [Qc];omega)) only [go_sem]))
 ·skip
  (refine Ql (by intro g; simp only [go_sem, ren, Qf]) ?_)
  simp only [Yu, if_neg h]
 ·obtain ⟨h4, ha, hp⟩ := Xk h;refine Fc.pure (Qco xs hlx ha) (by simp [go_sem, Qm, clo, Qb, Qg]) (by intro g; simp only [go_sem, ren, Qf]) ?_
  (apply Zo;repeat' ((with_reducible first|apply Zk|(first|apply Za|apply Zb|apply Zc|apply Zd)<;>intro h)<;>try simp -implicitDefEqProofs (maxSteps:=9^7) (disch:=first|omega|(simp only [Qc];omega)) only [go_sem]))
  (refine Ql (by intro g; simp only [go_sem, ren, Qf]) ?_)
  rw [Yu, if_pos h, Qej, if_neg (by omega)]
theorem Qlt (xs ys : List Int) (hx : xs.length ≤ 17592186044416) : Pu C 59 [.sl xs.length (ints xs), .sl ys.length (ints ys)] (.bool (decide (xs = ys))) := by
 refine Fc.keep (Fc.bodyT Qi Try.func59 w59 rfl Try.ntmps59 Try.results59 (zLe rfl) ?_)
 (apply Zo;repeat' ((with_reducible first|apply Zk|(first|apply Za|apply Zb|apply Zc|apply Zd)<;>intro h)<;>try simp -implicitDefEqProofs (maxSteps:=9^7) (disch:=first|omega|(simp only [Qc];omega)) only [go_sem]))
 ·skip
  (refine Ql (by intro g; simp only [go_sem, ren, Qf]) ?_)
  congr 1; symm; simp; rintro rfl; exact h rfl
 ·skip
  refine Qn (fun n ts H => ∃ i, (i ≤ xs.length) ∧ (∀ j, j < i → xs.getD j 0 = ys.getD j 0) ∧ (n = xs.length - i) ∧ (H = []) ∧ ts.length = 26 ∧ nth ts 0 = .sl xs.length (ints xs) ∧ nth ts 1 = .sl ys.length (ints ys) ∧ nth ts 12 = .int .i64 xs.length ∧ nth ts 13 = .int .i64 i) ?_ (n := xs.length) ?_
  ·skip
   rintro n ts H ⟨i, hi, he, hn, hH, hL, hs0, hs1, hs12, hs13⟩;refine Xt [(0, .sl xs.length (ints xs)), (1, .sl ys.length (ints ys)), (12, .int .i64 xs.length), (13, .int .i64 i)] hL (by simp only [zFm, hs0, hs1, hs12, hs13, true_and]; exact zNm) ?_
   clear hL hs0 hs1 hs12 hs13 ts
   refine Xm Qi ?_;subst hH hn
   (apply Zo;repeat' ((with_reducible first|apply Zk|(first|apply Za|apply Zb|apply Zc|apply Zd)<;>intro h)<;>try simp -implicitDefEqProofs (maxSteps:=9^7) (disch:=first|omega|(simp only [Qc];omega)) only [go_sem]))
   ·skip
    (refine Ql (by intro g; simp only [go_sem, ren, Qf]) ?_)
    congr 1; symm; simp; rintro rfl; exact h rfl
   ·exact ⟨_, by omega, i + 1, by omega, Qff he h, rfl, (by (repeat' apply And.intro) <;> (first | rfl | omega | (congr 1; omega) | assumption | (congr 1; assumption)))⟩
   ·skip
    (refine Ql (by intro g; simp only [go_sem, ren, Qf]) ?_)
    congr 1; symm; simp; exact Qbq (by omega) fun j hj => he j (by omega)
  ·exact ⟨0, by omega, fun j hj => by omega, rfl, rfl, rfl, rfl, rfl, rfl, rfl⟩
theorem Qgn (xs ys : List Int) (hx : xs.length ≤ 17592186044416) : Pu C 38 [.sl xs.length (ints xs), .sl ys.length (ints ys)] (.bool (decide (xs = ys))) := by
 refine Fc.keep (Fc.bodyT Qi Try.func38 w38 rfl Try.ntmps38 Try.results38 (zLe rfl) ?_)
 (apply Zo;repeat' ((with_reducible first|apply Zk|(first|apply Za|apply Zb|apply Zc|apply Zd)<;>intro h)<;>try simp -implicitDefEqProofs (maxSteps:=9^7) (disch:=first|omega|(simp only [Qc];omega)) only [go_sem]))
 refine Fc.pure (Qlt xs ys hx) (by simp [go_sem, Qm, clo, Qb, Qg]) (by intro g; simp only [go_sem, ren, Qf]) ?_
 (apply Zo;repeat' ((with_reducible first|apply Zk|(first|apply Za|apply Zb|apply Zc|apply Zd)<;>intro h)<;>try simp -implicitDefEqProofs (maxSteps:=9^7) (disch:=first|omega|(simp only [Qc];omega)) only [go_sem]))
 (refine Ql (by intro g; simp only [go_sem, ren, Qf]) ?_)
 rfl
theorem Qls (xs : List Int) (m : Int) (hlx : xs.length ≤ 17592186044416) : Fc C 79 [.sl xs.length (ints xs), .int .i64 m] [] (fun v H => (∃ i : Int, v = .int .i64 i ∧ -1 ≤ i ∧ i < xs.length ∧ (xs.contains m = decide (0 ≤ i))) ∧ H = []) := by
 refine Fc.keep (Fc.bodyT Qi Try.func79 w79 rfl Try.ntmps79 Try.results79 (zLe rfl) ?_)
 (apply Zo;repeat' ((with_reducible first|apply Zk|(first|apply Za|apply Zb|apply Zc|apply Zd)<;>intro h)<;>try simp -implicitDefEqProofs (maxSteps:=9^7) (disch:=first|omega|(simp only [Qc];omega)) only [go_sem]))
 refine Qn (fun n ts H => ∃ i, (i ≤ xs.length) ∧ (∀ j, j < i → m ≠ xs.getD j 0) ∧ (n = xs.length - i) ∧ (H = []) ∧ ts.length = 19 ∧ nth ts 0 = .sl xs.length (ints xs) ∧ nth ts 1 = .int .i64 m ∧ nth ts 7 = .int .i64 xs.length ∧ nth ts 8 = .int .i64 i) ?_ (n := xs.length) ?_
 ·skip
  rintro n ts H ⟨i, hi, he, hn, hH, hL, hs0, hs1, hs7, hs8⟩;refine Xt [(0, .sl xs.length (ints xs)), (1, .int .i64 m), (7, .int .i64 xs.length), (8, .int .i64 i)] hL (by simp only [zFm, hs0, hs1, hs7, hs8, true_and]; exact zNm) ?_
  clear hL hs0 hs1 hs7 hs8 ts
  refine Xm Qi ?_;subst hH hn
  (apply Zo;repeat' ((with_reducible first|apply Zk|(first|apply Za|apply Zb|apply Zc|apply Zd)<;>intro h)<;>try simp -implicitDefEqProofs (maxSteps:=9^7) (disch:=first|omega|(simp only [Qc];omega)) only [go_sem]))
  ·refine ⟨[], by simp, by simp, ⟨i, rfl, by omega, by omega, ?_⟩, rfl⟩
   have e : xs.getD i 0 = xs[i]'(by omega) := by simp [List.getD, show i < xs.length by omega]
   rw [decide_eq_true (by omega), List.contains_iff_mem, h, e]; exact List.getElem_mem _
  ·exact ⟨_, by omega, i + 1, by omega, Qff he h, rfl, (by (repeat' apply And.intro) <;> (first | rfl | omega | (congr 1; omega) | assumption | (congr 1; assumption)))⟩
  ·refine ⟨[], by simp, by simp, ⟨-1, rfl, by omega, by omega, ?_⟩, rfl⟩
   have := (Qa1 (xs := xs) (p := fun d => m ≠ d)).2 fun j hj => he j (by omega)
   simp; exact fun hm => this m hm rfl
 ·exact ⟨0, by omega, fun j hj => by omega, rfl, rfl, rfl, rfl, rfl, rfl, rfl⟩
theorem Qf0 (xs : List Int) (m : Int) (hlx : xs.length ≤ 17592186044416) : Pu C 68 [.sl xs.length (ints xs), .int .i64 m] (.bool (xs.contains m)) := by
 refine Fc.keep (Fc.bodyT Qi Try.func68 w68 rfl Try.ntmps68 Try.results68 (zLe rfl) ?_)
 (apply Zo;repeat' ((with_reducible first|apply Zk|(first|apply Za|apply Zb|apply Zc|apply Zd)<;>intro h)<;>try simp -implicitDefEqProofs (maxSteps:=9^7) (disch:=first|omega|(simp only [Qc];omega)) only [go_sem]))
 refine Fc.call (Qls xs m hlx) (by simp [Qm, clo, Qb]) ?_
 rintro v H' ⟨⟨i, rfl, h1, h2, h3⟩, rfl⟩;simp only [ren, Jt, List.map_nil, List.append_nil]
 (apply Zo;repeat' ((with_reducible first|apply Zk|(first|apply Za|apply Zb|apply Zc|apply Zd)<;>intro h)<;>try simp -implicitDefEqProofs (maxSteps:=9^7) (disch:=first|omega|(simp only [Qc];omega)) only [go_sem]))
 (refine Ql (by intro g; simp only [go_sem, ren, Qf]) ?_)
 rw [h3]
theorem Qgp (f t : List Int) (hf : f.length ≤ 17592186044416) (ht : t.length ≤ 17592186044416) : Pu C 40 [.sl f.length (ints f), .sl t.length (ints t)] (.int .i64 (Qax f t)) := by
 refine Fc.keep (Fc.bodyT Qi Try.func40 w40 rfl Try.ntmps40 Try.results40 (zLe rfl) ?_)
 (apply Zo;repeat' ((with_reducible first|apply Zk|(first|apply Za|apply Zb|apply Zc|apply Zd)<;>intro h)<;>try simp -implicitDefEqProofs (maxSteps:=9^7) (disch:=first|omega|(simp only [Qc];omega)) only [go_sem]))
 refine Qn (fun n ts H => ∃ i, (i ≤ 2) ∧ (1 ≤ i → Xb f = 0) ∧ (2 ≤ i → Xb t = 0) ∧ (n = 2 - i) ∧ (H = [some ⟨28, 1, [.sl f.length (ints f), .sl t.length (ints t)]⟩]) ∧ ts.length = 52 ∧ nth ts 0 = .sl f.length (ints f) ∧ nth ts 1 = .sl t.length (ints t) ∧ nth ts 13 = .ref 0 0 2 ∧ nth ts 14 = .int .i64 2 ∧ nth ts 15 = .int .i64 i) ?_ (n := 2) ?_
 ·skip
  rintro n ts H ⟨i, hi, h0, h1, hn, hH, hL, hs0, hs1, hs13, hs14, hs15⟩;refine Xt [(0, .sl f.length (ints f)), (1, .sl t.length (ints t)), (13, .ref 0 0 2), (14, .int .i64 2), (15, .int .i64 i)] hL (by simp only [zFm, hs0, hs1, hs13, hs14, hs15, true_and]; exact zNm) ?_
  clear hL hs0 hs1 hs13 hs14 hs15 ts
  refine Xm Qi ?_;subst hH hn;rcases (by omega : i = 0 ∨ i = 1 ∨ i = 2) with rfl | rfl | rfl
  ·skip
   (apply Zo;repeat' ((with_reducible first|apply Zk|(first|apply Za|apply Zb|apply Zc|apply Zd)<;>intro h)<;>try simp -implicitDefEqProofs (maxSteps:=9^7) (disch:=first|omega|(simp only [Qc];omega)) only [go_sem]))
   refine Fc.pure (Qa3 f hf) (by simp [go_sem, Qm, clo, Qb, Qg]) (by intro g; simp only [go_sem, ren, Qf]) ?_
   (apply Zo;repeat' ((with_reducible first|apply Zk|(first|apply Za|apply Zb|apply Zc|apply Zd)<;>intro h)<;>try simp -implicitDefEqProofs (maxSteps:=9^7) (disch:=first|omega|(simp only [Qc];omega)) only [go_sem]))
   ·skip
    (refine Ql (by intro g; simp only [go_sem, ren, Qf]) ?_)
    simp only [Qax, if_neg h]
   ·exact ⟨_, by omega, 1, by omega, fun _ => h, by omega, rfl, (by (repeat' apply And.intro) <;> (first | rfl | omega | (congr 1; omega) | assumption | (congr 1; assumption)))⟩
  ·have g0 := h0 (by omega)
   (apply Zo;repeat' ((with_reducible first|apply Zk|(first|apply Za|apply Zb|apply Zc|apply Zd)<;>intro h)<;>try simp -implicitDefEqProofs (maxSteps:=9^7) (disch:=first|omega|(simp only [Qc];omega)) only [go_sem]))
   refine Fc.pure (Qa3 t ht) (by simp [go_sem, Qm, clo, Qb, Qg]) (by intro g; simp only [go_sem, ren, Qf]) ?_
   (apply Zo;repeat' ((with_reducible first|apply Zk|(first|apply Za|apply Zb|apply Zc|apply Zd)<;>intro h)<;>try simp -implicitDefEqProofs (maxSteps:=9^7) (disch:=first|omega|(simp only [Qc];omega)) only [go_sem]))
   ·skip
    (refine Ql (by intro g; simp only [go_sem, ren, Qf]) ?_)
    simp only [Qax, if_pos g0, if_neg h]
   ·exact ⟨_, by omega, 2, by omega, fun _ => g0, fun _ => h, rfl, (by (repeat' apply And.intro) <;> (first | rfl | omega | (congr 1; omega) | assumption | (congr 1; assumption)))⟩
  ·have g0 := h0 (by omega)
   have g1 := h1 (by omega)
   have hp : Qax f t = if okB f t then 0 else 13 := by simp only [Qax, if_pos g0, if_pos g1]
   obtain ⟨hf4, hf1, _⟩ := Xk g0;obtain ⟨ht4, ht1, _⟩ := Xk g1
   (apply Zo;repeat' ((with_reducible first|apply Zk|(first|apply Za|apply Zb|apply Zc|apply Zd)<;>intro h)<;>try simp -implicitDefEqProofs (maxSteps:=9^7) (disch:=first|omega|(simp only [Qc];omega)) only [go_sem]))
   ·skip
    (refine Ql (by intro g; simp only [go_sem, ren, Qf]) ?_)
    rw [hp, if_neg];intro hok; have := ((Qg8 f t).1 hok).1; omega
   ·skip
    refine Qn (fun n ts H => ∃ i, (i ≤ f.length) ∧ (∀ j, j < i → (f.getD j 0 = 1 ∨ f.getD j 0 = t.getD (t.length - f.length + j) 0)) ∧ (n = f.length - i) ∧ ts.length = 52 ∧ nth ts 0 = .sl f.length (ints f) ∧ nth ts 1 = .sl t.length (ints t) ∧ nth ts 8 = .int .i64 ((t.length - f.length : Nat) : Int) ∧ nth ts 32 = .sl f.length (ints f) ∧ nth ts 33 = .int .i64 f.length ∧ nth ts 34 = .int .i64 i) ?_ (n := f.length) ?_
    ·skip
     rintro n ts H ⟨i, hi, ha, hn, hL, hs0, hs1, hs8, hs32, hs33, hs34⟩;refine Xt [(0, .sl f.length (ints f)), (1, .sl t.length (ints t)), (8, .int .i64 ((t.length - f.length : Nat) : Int)), (32, .sl f.length (ints f)), (33, .int .i64 f.length), (34, .int .i64 i)] hL (by simp only [zFm, hs0, hs1, hs8, hs32, hs33, hs34, true_and]; exact zNm) ?_
     clear hL hs0 hs1 hs8 hs32 hs33 hs34 ts
     refine Xm Qi ?_;subst hn
     have bad : i < f.length → ¬ (f.getD i 0 = 1 ∨ f.getD i 0 = t.getD (t.length - f.length + i) 0) → Qax f t = 13 := fun hi hb => by
      rw [hp, if_neg];intro hok; exact hb (((Qg8 f t).1 hok).2 i hi)
     (apply Zo;repeat' ((with_reducible first|apply Zk|(first|apply Za|apply Zb|apply Zc|apply Zd)<;>intro h)<;>try simp -implicitDefEqProofs (maxSteps:=9^7) (disch:=first|omega|(simp only [Qc];omega)) only [go_sem]))
     ·skip
      (refine Ql (by intro g; simp only [go_sem, ren, Qf]) ?_)
      rw [bad (by omega) (by omega)]
     ·exact ⟨_, by omega, i + 1, by omega, Qff ha (by omega), rfl, (by (repeat' apply And.intro) <;> (first | rfl | omega | (congr 1; omega) | assumption | (congr 1; assumption)))⟩
     ·exact ⟨_, by omega, i + 1, by omega, Qff ha (by omega), rfl, (by (repeat' apply And.intro) <;> (first | rfl | omega | (congr 1; omega) | assumption | (congr 1; assumption)))⟩
     ·skip
      (refine Ql (by intro g; simp only [go_sem, ren, Qf]) ?_)
      rw [hp, if_pos];exact (Qg8 f t).2 ⟨by omega, fun j hj => ha j (by omega)⟩
    ·exact ⟨0, by omega, fun j hj => by omega, rfl, rfl, rfl, rfl, by simp -implicitDefEqProofs (maxSteps:=9^7) (disch := first | omega | (simp only [Qc]; omega)) only [go_sem]; congr 1; omega, rfl, rfl, rfl⟩
 ·exact ⟨0, by omega, by omega, by omega, rfl, rfl, rfl, rfl, rfl, rfl, rfl, rfl⟩
def Qoo (l : List Int) (r : Int) (i : Nat) : Prop := (if i = 0 then -1 else l.getD (i - 1) 0) < l.getD i 0 ∧ l.getD i 0 < r
def axB (l : List Int) (r : Int) : Bool := (List.range l.length).all fun i => decide ((if i = 0 then -1 else l.getD (i - 1) 0) < l.getD i 0 ∧ l.getD i 0 < r)
theorem Qc4 (l : List Int) (r : Int) : axB l r = true ↔ ∀ i, i < l.length → Qoo l r i := by simp only [axB, Qoo, List.all_eq_true, List.mem_range, decide_eq_true_eq]
def axP (l : List Int) (r : Int) : Int := if axB l r = true then 0 else 11
theorem Qgq (l : List Int) (r : Int) (hl : l.length ≤ 17592186044416) : Pu C 42 [.sl l.length (ints l), .int .i64 r] (.int .i64 (axP l r)) := by
 refine Fc.keep (Fc.bodyT Qi Try.func42 w42 rfl Try.ntmps42 Try.results42 (zLe rfl) ?_)
 (apply Zo;repeat' ((with_reducible first|apply Zk|(first|apply Za|apply Zb|apply Zc|apply Zd)<;>intro h)<;>try simp -implicitDefEqProofs (maxSteps:=9^7) (disch:=first|omega|(simp only [Qc];omega)) only [go_sem]))
 refine Qn (fun n ts H => ∃ i x, (i ≤ l.length) ∧ (x = (if i = 0 then -1 else l.getD (i - 1) 0)) ∧ (∀ j, j < i → Qoo l r j) ∧ (n = l.length - i) ∧ (H = []) ∧ ts.length = 24 ∧ nth ts 1 = .int .i64 r ∧ nth ts 5 = .int .i64 x ∧ nth ts 8 = .sl l.length (ints l) ∧ nth ts 9 = .int .i64 l.length ∧ nth ts 10 = .int .i64 i) ?_ (n := l.length) ?_
 ·skip
  rintro n ts H ⟨i, x, hi, hx, ha, hn, hH, hL, hs1, hs5, hs8, hs9, hs10⟩;refine Xt [(1, .int .i64 r), (5, .int .i64 x), (8, .sl l.length (ints l)), (9, .int .i64 l.length), (10, .int .i64 i)] hL (by simp only [zFm, hs1, hs5, hs8, hs9, hs10, true_and]; exact zNm) ?_
  clear hL hs1 hs5 hs8 hs9 hs10 ts
  refine Xm Qi ?_;subst hH hn
  have bad : i < l.length → ¬ Qoo l r i → axP l r = 11 := fun hi hb => by
   rw [axP, if_neg];intro hok; exact hb ((Qc4 l r).1 hok i hi)
  (apply Zo;repeat' ((with_reducible first|apply Zk|(first|apply Za|apply Zb|apply Zc|apply Zd)<;>intro h)<;>try simp -implicitDefEqProofs (maxSteps:=9^7) (disch:=first|omega|(simp only [Qc];omega)) only [go_sem]))
  ·skip
   (refine Ql (by intro g; simp only [go_sem, ren, Qf]) ?_)
   rw [bad (by omega) (fun hh => by have := hh.1; omega)]
  ·skip
   (refine Ql (by intro g; simp only [go_sem, ren, Qf]) ?_)
   rw [bad (by omega) (fun hh => by have := hh.2; omega)]
  ·exact ⟨_, by omega, i + 1, _, by omega, by rw [if_neg (by omega)], Qff ha ⟨by omega, by omega⟩, rfl, (by (repeat' apply And.intro) <;> (first | rfl | omega | (congr 1; omega) | assumption | (congr 1; assumption)))⟩
  ·skip
   (refine Ql (by intro g; simp only [go_sem, ren, Qf]) ?_)
   rw [axP, if_pos];exact (Qc4 l r).2 fun j hj => ha j (by omega)
 ·exact ⟨0, -1, by omega, rfl, fun j hj => by omega, rfl, rfl, rfl, rfl, rfl, rfl, rfl, rfl⟩
theorem Qlu (u : V) (H : Qa) : Fc C 62 [u] H (fun v H' => v = u ∧ H' = H) := by
 refine Fc.bodyT Qi Try.func62 w62 rfl Try.ntmps62 Try.results62 (zLe rfl) ?_
 (apply Zo;repeat' ((with_reducible first|apply Zk|(first|apply Za|apply Zb|apply Zc|apply Zd)<;>intro h)<;>try simp -implicitDefEqProofs (maxSteps:=9^7) (disch:=first|omega|(simp only [Qc];omega)) only [go_sem]))
theorem Qh4 (xs axes : List Int) (hx : xs.length ≤ 17592186044416) (ha : axes.length ≤ 17592186044416) : Fc C 61 [.sl xs.length (ints xs), .sl axes.length (ints axes), .fn (.func 62) [] []] [] (fun v H => Ret 3 1 H v (Xp xs axes xs.length).length (ints (Xp xs axes xs.length))) := by
 refine Fc.keep (Fc.bodyT Qi Try.func61 w61 rfl Try.ntmps61 Try.results61 (zLe rfl) ?_)
 (apply Zo;repeat' ((with_reducible first|apply Zk|(first|apply Za|apply Zb|apply Zc|apply Zd)<;>intro h)<;>try simp -implicitDefEqProofs (maxSteps:=9^7) (disch:=first|omega|(simp only [Qc];omega)) only [go_sem]))
 refine Qn (fun n ts H => ∃ i u, (i ≤ xs.length) ∧ (n = xs.length - i) ∧ (Bv.Own 3 1 H u (Xp xs axes i).length (ints (Xp xs axes i))) ∧ ts.length = 28 ∧ nth ts 1 = .sl axes.length (ints axes) ∧ nth ts 2 = .fn (.func 62) [] [] ∧ nth ts 6 = u ∧ nth ts 9 = .sl xs.length (ints xs) ∧ nth ts 10 = .int .i64 xs.length ∧ nth ts 11 = .int .i64 i) ?_ (n := xs.length) ?_
 ·skip
  rintro n ts H ⟨i, u, hi, hn, hu, hL, hs1, hs2, hs6, hs9, hs10, hs11⟩;refine Xt [(1, .sl axes.length (ints axes)), (2, .fn (.func 62) [] []), (6, u), (9, .sl xs.length (ints xs)), (10, .int .i64 xs.length), (11, .int .i64 i)] hL (by simp only [zFm, hs1, hs2, hs6, hs9, hs10, hs11, true_and]; exact zNm) ?_
  clear hL hs1 hs2 hs6 hs9 hs10 hs11 ts
  refine Xm Qi ?_;subst hn
  (apply Zo;repeat' ((with_reducible first|apply Zk|(first|apply Za|apply Zb|apply Zc|apply Zd)<;>intro h)<;>try simp -implicitDefEqProofs (maxSteps:=9^7) (disch:=first|omega|(simp only [Qc];omega)) only [go_sem]))
  ·skip
   refine Fc.pure (Qf0 axes i ha) (by simp [go_sem, Qm, clo, Qb, Qg]) (by intro g; simp only [go_sem, ren, Qf]) ?_
   (apply Zo;repeat' ((with_reducible first|apply Zk|(first|apply Za|apply Zb|apply Zc|apply Zd)<;>intro h)<;>try simp -implicitDefEqProofs (maxSteps:=9^7) (disch:=first|omega|(simp only [Qc];omega)) only [go_sem]))
   ·refine Fc.mono (Qlu u H) ?_;rintro v H' ⟨rfl, rfl⟩
    (apply Zo;repeat' ((with_reducible first|apply Zk|(first|apply Za|apply Zb|apply Zc|apply Zd)<;>intro h)<;>try simp -implicitDefEqProofs (maxSteps:=9^7) (disch:=first|omega|(simp only [Qc];omega)) only [go_sem]))
    have hc : axes.contains (i : Int) = true := by assumption
    exact ⟨_, by omega, i + 1, _, by omega, rfl, by simpa only [Xp, hc, if_true, List.append_nil] using hu, (by (repeat' apply And.intro) <;> (first | rfl | omega | (congr 1; omega) | assumption | (congr 1; assumption)))⟩
   ·have hle : (Xp xs axes i).length ≤ i := Kc xs axes i
    refine Qal hu rfl ⟨by decide, by decide⟩ (by omega) fun v' H' hu' _ => ?_
    (apply Zo;repeat' ((with_reducible first|apply Zk|(first|apply Za|apply Zb|apply Zc|apply Zd)<;>intro h)<;>try simp -implicitDefEqProofs (maxSteps:=9^7) (disch:=first|omega|(simp only [Qc];omega)) only [go_sem]))
    have hc : axes.contains (i : Int) = false := by assumption
    exact ⟨_, by omega, i + 1, v', by omega, rfl, by simpa only [Xp, hc, Bool.false_eq_true, if_false] using hu', (by (repeat' apply And.intro) <;> (first | rfl | omega | (congr 1; omega) | assumption | (congr 1; assumption)))⟩
  ·obtain rfl : i = xs.length := by omega
   exact hu.ret (fun g => Qk g _) fun v H h => h
 ·exact ⟨0, .nil, by omega, rfl, .nil .., rfl, rfl, rfl, rfl, rfl, rfl, rfl⟩
theorem Qdt (xs axes : List Int) (hx : xs.length ≤ 17592186044416) (ha : axes.length ≤ 17592186044416) : Fc C 43 [.sl xs.length (ints xs), .sl axes.length (ints axes)] [] (fun v H => Ret 3 1 H v (Xp xs axes xs.length).length (ints (Xp xs axes xs.length))) := by
 refine Fc.keep (Fc.bodyT Qi Try.func43 w43 rfl Try.ntmps43 Try.results43 (zLe rfl) ?_)
 (apply Zo;repeat' ((with_reducible first|apply Zk|(first|apply Za|apply Zb|apply Zc|apply Zd)<;>intro h)<;>try simp -implicitDefEqProofs (maxSteps:=9^7) (disch:=first|omega|(simp only [Qc];omega)) only [go_sem]))
 refine Fc.own (Qh4 xs axes hx ha) (by simp [Qm, clo, Qb]) (fun g => Qk g _) fun v X hv => ?_
 (apply Zo;repeat' ((with_reducible first|apply Zk|(first|apply Za|apply Zb|apply Zc|apply Zd)<;>intro h)<;>try simp -implicitDefEqProofs (maxSteps:=9^7) (disch:=first|omega|(simp only [Qc];omega)) only [go_sem]))
 exact hv.ret (fun g => Qk g _) fun v H h => h
theorem Qd1 (xs : List Int) (hx : xs.length ≤ 1000000000000) : Fc C 35 [.sl xs.length (ints xs)] [] (fun v H => Ret 3 1 H v xs.length (ints xs)) := by
 refine Fc.keep (Fc.bodyT Qi Try.func35 w35 rfl Try.ntmps35 Try.results35 (zLe rfl) ?_)
 (apply Zo;repeat' ((with_reducible first|apply Zk|(first|apply Za|apply Zb|apply Zc|apply Zd)<;>intro h)<;>try simp -implicitDefEqProofs (maxSteps:=9^7) (disch:=first|omega|(simp only [Qc];omega)) only [go_sem]))
 refine ⟨?_, fun h0 => ?_⟩
 ·refine Qgm rfl rfl ⟨by decide, by decide⟩ (by omega) (Yc xs) (Qav xs) fun v' H' hu' _ => ?_
  (apply Zo;repeat' ((with_reducible first|apply Zk|(first|apply Za|apply Zb|apply Zc|apply Zd)<;>intro h)<;>try simp -implicitDefEqProofs (maxSteps:=9^7) (disch:=first|omega|(simp only [Qc];omega)) only [go_sem]))
  exact hu'.ret (fun g => Qk g _) fun v H h => h
 ·have hn : xs = [] := List.eq_nil_of_length_eq_zero h0
  subst hn
  (apply Zo;repeat' ((with_reducible first|apply Zk|(first|apply Za|apply Zb|apply Zc|apply Zd)<;>intro h)<;>try simp -implicitDefEqProofs (maxSteps:=9^7) (disch:=first|omega|(simp only [Qc];omega)) only [go_sem]))
  exact (Own.nil ..).ret (fun g => Qk g []) fun v H h => h
theorem Qd2 (xs : List Int) (hx : xs.length ≤ 1000000000000) : Fc C 36 [.sl xs.length (ints xs)] [] (fun v H => Ret 3 1 H v xs.length (ints xs)) := by
 refine Fc.keep (Fc.bodyT Qi Try.func36 w36 rfl Try.ntmps36 Try.results36 (zLe rfl) ?_)
 (apply Zo;repeat' ((with_reducible first|apply Zk|(first|apply Za|apply Zb|apply Zc|apply Zd)<;>intro h)<;>try simp -implicitDefEqProofs (maxSteps:=9^7) (disch:=first|omega|(simp only [Qc];omega)) only [go_sem]))
 refine ⟨?_, fun h0 => ?_⟩
 ·refine Qgm rfl rfl ⟨by decide, by decide⟩ (by omega) (Yc xs) (Qav xs) fun v' H' hu' _ => ?_
  (apply Zo;repeat' ((with_reducible first|apply Zk|(first|apply Za|apply Zb|apply Zc|apply Zd)<;>intro h)<;>try simp -implicitDefEqProofs (maxSteps:=9^7) (disch:=first|omega|(simp only [Qc];omega)) only [go_sem]))
  exact hu'.ret (fun g => Qk g _) fun v H h => h
 ·have hn : xs = [] := List.eq_nil_of_length_eq_zero h0
  subst hn
  (apply Zo;repeat' ((with_reducible first|apply Zk|(first|apply Za|apply Zb|apply Zc|apply Zd)<;>intro h)<;>try simp -implicitDefEqProofs (maxSteps:=9^7) (disch:=first|omega|(simp only [Qc];omega)) only [go_sem]))
  exact (Own.nil ..).ret (fun g => Qk g []) fun v H h => h
theorem Quf (l : List Int) : Pu C 70 [.sl l.length (ints l)] (.bool (decide (l.length = 0))) := by
 refine Fc.keep (Fc.bodyT Qi Try.func70 w70 rfl Try.ntmps70 Try.results70 (zLe rfl) ?_)
 (apply Zo;repeat' ((with_reducible first|apply Zk|(first|apply Za|apply Zb|apply Zc|apply Zd)<;>intro h)<;>try simp -implicitDefEqProofs (maxSteps:=9^7) (disch:=first|omega|(simp only [Qc];omega)) only [go_sem]))
 (refine Ql (by intro g; simp only [go_sem, ren, Qf]) ?_)
 (simp only [V.tup.injEq, List.cons.injEq, V.int.injEq, V.bool.injEq, true_and, and_true]; (try rw [Bool.eq_iff_iff]); (try simp only [decide_eq_true_eq, decide_eq_false_iff_not, Decidable.not_not, true_and, and_true, Bool.not_eq_true, Bool.not_eq_eq_eq_not, Bool.not_true, Bool.and_eq_true, Bool.or_eq_true, beq_iff_eq, bne_iff_ne, ne_eq, Bool.false_eq_true, false_iff, true_iff, iff_false, iff_true]); (try omega))
theorem Qf9 (l : List Int) (m : Int) : Pu C 80 [.sl l.length (ints l), .rp [.int .i64 m] 0] (.bool (decide (l.length = 1 ∧ 0 ≤ l.getD 0 0 ∧ l.getD 0 0 ≤ m))) := by
 refine Fc.keep (Fc.bodyT Qi Try.func80 w80 rfl Try.ntmps80 Try.results80 (zLe rfl) ?_)
 (apply Zo;repeat' ((with_reducible first|apply Zk|(first|apply Za|apply Zb|apply Zc|apply Zd)<;>intro h)<;>try simp -implicitDefEqProofs (maxSteps:=9^7) (disch:=first|omega|(simp only [Qc];omega)) only [go_sem]))
 all_goals (refine Ql (by intro g; simp only [go_sem, ren, Qf]) ?_)
 all_goals (simp only [V.tup.injEq, List.cons.injEq, V.int.injEq, V.bool.injEq, true_and, and_true]; (try rw [Bool.eq_iff_iff]); (try simp only [decide_eq_true_eq, decide_eq_false_iff_not, Decidable.not_not, true_and, and_true, Bool.not_eq_true, Bool.not_eq_eq_eq_not, Bool.not_true, Bool.and_eq_true, Bool.or_eq_true, beq_iff_eq, bne_iff_ne, ne_eq, Bool.false_eq_true, false_iff, true_iff, iff_false, iff_true]); (try omega))
theorem Qgf (l : List Int) (hl : l.length ≤ 17592186044416) : Pu C 74 [.sl l.length (ints l)] (.bool (decide (Xb l = 0))) := by
 refine Fc.keep (Fc.bodyT Qi Try.func74 w74 rfl Try.ntmps74 Try.results74 (zLe rfl) ?_)
 (apply Zo;repeat' ((with_reducible first|apply Zk|(first|apply Za|apply Zb|apply Zc|apply Zd)<;>intro h)<;>try simp -implicitDefEqProofs (maxSteps:=9^7) (disch:=first|omega|(simp only [Qc];omega)) only [go_sem]))
 refine Fc.pure (Qa3 l hl) (by simp [go_sem, Qm, clo, Qb, Qg]) (by intro g; simp only [go_sem, ren, Qf]) ?_
 (apply Zo;repeat' ((with_reducible first|apply Zk|(first|apply Za|apply Zb|apply Zc|apply Zd)<;>intro h)<;>try simp -implicitDefEqProofs (maxSteps:=9^7) (disch:=first|omega|(simp only [Qc];omega)) only [go_sem]))
 (refine Ql (by intro g; simp only [go_sem, ren, Qf]) ?_)
 (simp only [V.tup.injEq, List.cons.injEq, V.int.injEq, V.bool.injEq, true_and, and_true]; (try rw [Bool.eq_iff_iff]); (try simp only [decide_eq_true_eq, decide_eq_false_iff_not, Decidable.not_not, true_and, and_true, Bool.not_eq_true, Bool.not_eq_eq_eq_not, Bool.not_true, Bool.and_eq_true, Bool.or_eq_true, beq_iff_eq, bne_iff_ne, ne_eq, Bool.false_eq_true, false_iff, true_iff, iff_false, iff_true]); (try omega))
theorem Qsl (l : List Int) : axB l 4 = Qeh l := by
 rw [Bool.eq_iff_iff, Qc4, Qda];constructor
 ·intro h i hi
  have pos : ∀ i, i < l.length → 0 ≤ l.getD i 0 := by
   intro i
   induction i with
   | zero => intro hi; have := (h 0 hi).1; simp only [if_true] at this; omega
   | succ i ih => intro hi; have := (h (i + 1) hi).1; rw [if_neg (by omega)] at this; have := ih (by omega); simp only [Nat.add_sub_cancel] at *; omega
  have h1 := h i hi
  refine ⟨pos i hi, by have := h1.2; omega, fun h0 => ?_⟩
  have := h1.1; rw [if_neg (by omega)] at this; exact this
 ·intro h i hi
  have h1 := h i hi
  refine ⟨?_, by have := h1.2.1; omega⟩
  split
  ·have := h1.1; omega
  ·exact h1.2.2 (by omega)
theorem Qdu (l : List Int) (hl : l.length ≤ 17592186044416) : Pu C 75 [.sl l.length (ints l)] (.bool (Qeh l)) := by
 refine Fc.keep (Fc.bodyT Qi Try.func75 w75 rfl Try.ntmps75 Try.results75 (zLe rfl) ?_)
 (apply Zo;repeat' ((with_reducible first|apply Zk|(first|apply Za|apply Zb|apply Zc|apply Zd)<;>intro h)<;>try simp -implicitDefEqProofs (maxSteps:=9^7) (disch:=first|omega|(simp only [Qc];omega)) only [go_sem]))
 refine Fc.pure (Qgq l 4 hl) (by simp [go_sem, Qm, clo, Qb, Qg]) (by intro g; simp only [go_sem, ren, Qf]) ?_
 (apply Zo;repeat' ((with_reducible first|apply Zk|(first|apply Za|apply Zb|apply Zc|apply Zd)<;>intro h)<;>try simp -implicitDefEqProofs (maxSteps:=9^7) (disch:=first|omega|(simp only [Qc];omega)) only [go_sem]))
 (refine Ql (by intro g; simp only [go_sem, ren, Qf]) ?_)
 rw [← Qsl];unfold axP;cases axB l 4 <;> rfl
theorem Qr9 (a b : Int) : Pu C 77 [.int .i64 a, .int .i64 b] (.bool (decide (0 ≤ a ∧ 0 ≤ b ∧ a < b))) := by
 refine Fc.keep (Fc.bodyT Qi Try.func77 w77 rfl Try.ntmps77 Try.results77 (zLe rfl) ?_)
 (apply Zo;repeat' ((with_reducible first|apply Zk|(first|apply Za|apply Zb|apply Zc|apply Zd)<;>intro h)<;>try simp -implicitDefEqProofs (maxSteps:=9^7) (disch:=first|omega|(simp only [Qc];omega)) only [go_sem]))
 all_goals (refine Ql (by intro g; simp only [go_sem, ren, Qf]) ?_)
 all_goals (simp only [V.tup.injEq, List.cons.injEq, V.int.injEq, V.bool.injEq, true_and, and_true]; (try rw [Bool.eq_iff_iff]); (try simp only [decide_eq_true_eq, decide_eq_false_iff_not, Decidable.not_not, true_and, and_true, Bool.not_eq_true, Bool.not_eq_eq_eq_not, Bool.not_true, Bool.and_eq_true, Bool.or_eq_true, beq_iff_eq, bne_iff_ne, ne_eq, Bool.false_eq_true, false_iff, true_iff, iff_false, iff_true]); (try omega))
theorem Qp4 (a b : Int) : Pu C 78 [.int .i64 a, .int .i64 b] (.bool (decide (0 ≤ a ∧ 0 ≤ b))) := by
 refine Fc.keep (Fc.bodyT Qi Try.func78 w78 rfl Try.ntmps78 Try.results78 (zLe rfl) ?_)
 (apply Zo;repeat' ((with_reducible first|apply Zk|(first|apply Za|apply Zb|apply Zc|apply Zd)<;>intro h)<;>try simp -implicitDefEqProofs (maxSteps:=9^7) (disch:=first|omega|(simp only [Qc];omega)) only [go_sem]))
 all_goals (refine Ql (by intro g; simp only [go_sem, ren, Qf]) ?_)
 all_goals (simp only [V.tup.injEq, List.cons.injEq, V.int.injEq, V.bool.injEq, true_and, and_true]; (try rw [Bool.eq_iff_iff]); (try simp only [decide_eq_true_eq, decide_eq_false_iff_not, Decidable.not_not, true_and, and_true, Bool.not_eq_true, Bool.not_eq_eq_eq_not, Bool.not_true, Bool.and_eq_true, Bool.or_eq_true, beq_iff_eq, bne_iff_ne, ne_eq, Bool.false_eq_true, false_iff, true_iff, iff_false, iff_true]); (try omega))
theorem Qgz (l : List Int) (ha : Att l) : Pu C 72 [.sl l.length (ints l)] (.bool (decide (l.length = 2 ∧ 1 ≤ l.getD 1 0 ∧ Nat.gcd (l.getD 0 0).natAbs (l.getD 1 0).natAbs = 1))) := by
 refine Fc.keep (Fc.bodyT Qi Try.func72 w72 rfl Try.ntmps72 Try.results72 (zLe rfl) ?_);by_cases h2 : l.length = 2
 ·have h0 := ha 0 (by omega)
  have h1 := ha 1 (by omega)
  (apply Zo;repeat' ((with_reducible first|apply Zk|(first|apply Za|apply Zb|apply Zc|apply Zd)<;>intro h)<;>try simp -implicitDefEqProofs (maxSteps:=9^7) (disch:=first|omega|(simp only [Qc];omega)) only [go_sem]))
  ·skip
   (refine Ql (by intro g; simp only [go_sem, ren, Qf]) ?_)
   (simp only [V.tup.injEq, List.cons.injEq, V.int.injEq, V.bool.injEq, true_and, and_true]; (try rw [Bool.eq_iff_iff]); (try simp only [decide_eq_true_eq, decide_eq_false_iff_not, Decidable.not_not, true_and, and_true, Bool.not_eq_true, Bool.not_eq_eq_eq_not, Bool.not_true, Bool.and_eq_true, Bool.or_eq_true, beq_iff_eq, bne_iff_ne, ne_eq, Bool.false_eq_true, false_iff, true_iff, iff_false, iff_true]); (try omega))
  ·skip
   refine Qn (fun n ts H => ∃ a b, (a ≤ 2147483647) ∧ (b ≤ 2147483647) ∧ (Nat.gcd a b = Nat.gcd (l.getD 0 0).natAbs (l.getD 1 0).natAbs) ∧ (n = b) ∧ (H = []) ∧ ts.length = 33 ∧ nth ts 3 = .int .i64 (a : Nat) ∧ nth ts 4 = .int .i64 (b : Nat)) ?_ (n := (l.getD 1 0).natAbs) ?_
   ·skip
    rintro n ts H ⟨a, b, ha, hb, hg, hn, hH, hL, hs3, hs4⟩;refine Xt [(3, .int .i64 (a : Nat)), (4, .int .i64 (b : Nat))] hL (by simp only [zFm, hs3, hs4, true_and]; exact zNm) ?_
    clear hL hs3 hs4 ts
    refine Xm Qi ?_;subst hH hn
    (apply Zo;repeat' ((with_reducible first|apply Zk|(first|apply Za|apply Zb|apply Zc|apply Zd)<;>intro h)<;>try simp -implicitDefEqProofs (maxSteps:=9^7) (disch:=first|omega|(simp only [Qc];omega)) only [go_sem]))
    ·have e1 : (a : Int) % (n : Int) = ((a % n : Nat) : Int) := by simp
     have hm : a % n < n := Nat.mod_lt _ (by omega)
     exact ⟨_, hm, n, a % n, hb, by omega, by rw [Nat.gcd_comm, ← hg, Nat.gcd_comm a n, Nat.gcd_rec n a], rfl, rfl, by rw [e1]⟩
    ·obtain rfl : n = 0 := by omega
     rw [Nat.gcd_zero_right] at hg
     (refine Ql (by intro g; simp only [go_sem, ren, Qf]) ?_)
     simp only [← hg]
     (simp only [V.tup.injEq, List.cons.injEq, V.int.injEq, V.bool.injEq, true_and, and_true]; (try rw [Bool.eq_iff_iff]); (try simp only [decide_eq_true_eq, decide_eq_false_iff_not, Decidable.not_not, true_and, and_true, Bool.not_eq_true, Bool.not_eq_eq_eq_not, Bool.not_true, Bool.and_eq_true, Bool.or_eq_true, beq_iff_eq, bne_iff_ne, ne_eq, Bool.false_eq_true, false_iff, true_iff, iff_false, iff_true]); (try omega))
   ·refine ⟨(l.getD 0 0).natAbs, (l.getD 1 0).natAbs, by omega, by omega, rfl, rfl, rfl, rfl, ?_, ?_⟩
    ·skip
     simp -implicitDefEqProofs (maxSteps:=9^7) (disch := first | omega | (simp only [Qc]; omega)) only [go_sem]; congr 1; split <;> omega
    ·skip
     simp -implicitDefEqProofs (maxSteps:=9^7) (disch := first | omega | (simp only [Qc]; omega)) only [go_sem]; congr 1; omega
 ·skip
  (apply Zo;repeat' ((with_reducible first|apply Zk|(first|apply Za|apply Zb|apply Zc|apply Zd)<;>intro h)<;>try simp -implicitDefEqProofs (maxSteps:=9^7) (disch:=first|omega|(simp only [Qc];omega)) only [go_sem]))
  (refine Ql (by intro g; simp only [go_sem, ren, Qf]) ?_)
  (simp only [V.tup.injEq, List.cons.injEq, V.int.injEq, V.bool.injEq, true_and, and_true]; (try rw [Bool.eq_iff_iff]); (try simp only [decide_eq_true_eq, decide_eq_false_iff_not, Decidable.not_not, true_and, and_true, Bool.not_eq_true, Bool.not_eq_eq_eq_not, Bool.not_true, Bool.and_eq_true, Bool.or_eq_true, beq_iff_eq, bne_iff_ne, ne_eq, Bool.false_eq_true, false_iff, true_iff, iff_false, iff_true]); (try omega))
theorem Qdv (l : List Int) (g : Nat) (cut : Bool) (hl : l.length ≤ 17592186044416) (hg : ∀ a b : Int, Pu C g [.int .i64 a, .int .i64 b] (.bool (decide (0 ≤ a ∧ 0 ≤ b ∧ (cut = true → a < b))))) :
  Pu C 82 [.sl l.length (ints l), .rp [.fn (.func g) [] []] 0] (.bool (Qeq cut l)) := by
 refine Fc.keep (Fc.bodyT Qi Try.func82 w82 rfl Try.ntmps82 Try.results82 (zLe rfl) ?_)
 (apply Zo;repeat' ((with_reducible first|apply Zk|(first|apply Za|apply Zb|apply Zc|apply Zd)<;>intro h)<;>try simp -implicitDefEqProofs (maxSteps:=9^7) (disch:=first|omega|(simp only [Qc];omega)) only [go_sem]))
 ·skip
  (refine Ql (by intro g; simp only [go_sem, ren, Qf]) ?_)
  rw [Qep (fun h => by have := h.1; omega)]
 ·skip
  (refine Ql (by intro g; simp only [go_sem, ren, Qf]) ?_)
  rw [Qep (fun h => by have := h.2.1; omega)]
 ·skip
  refine Qn (fun n ts H => ∃ k, (k ≤ l.length / 2) ∧ (∀ j, j < k → Qdf cut l j) ∧ (n = l.length / 2 - k) ∧ (H = []) ∧ ts.length = 32 ∧ nth ts 0 = .sl l.length (ints l) ∧ nth ts 1 = .rp [.fn (.func g) [] []] 0 ∧ nth ts 4 = .int .i64 (2 * k : Nat)) ?_ (n := l.length / 2) ?_
  ·skip
   rintro n ts H ⟨k, hi, hp, hn, hH, hL, hs0, hs1, hs4⟩;refine Xt [(0, .sl l.length (ints l)), (1, .rp [.fn (.func g) [] []] 0), (4, .int .i64 (2 * k : Nat))] hL (by simp only [zFm, hs0, hs1, hs4, true_and]; exact zNm) ?_
   clear hL hs0 hs1 hs4 ts
   refine Xm Qi ?_;subst hH hn
   have bad : 2 * k < l.length → ¬ Qdf cut l k → Qeq cut l = false := fun h1 h2 => Qep fun h => h2 (h.2.2 k (by omega))
   (apply Zo;repeat' ((with_reducible first|apply Zk|(first|apply Za|apply Zb|apply Zc|apply Zd)<;>intro h)<;>try simp -implicitDefEqProofs (maxSteps:=9^7) (disch:=first|omega|(simp only [Qc];omega)) only [go_sem]))
   ·first | refine RunU.now ?_ | refine RunP.now ?_
    (apply Zo;repeat' ((with_reducible first|apply Zk|(first|apply Za|apply Zb|apply Zc|apply Zd)<;>intro h)<;>try simp -implicitDefEqProofs (maxSteps:=9^7) (disch:=first|omega|(simp only [Qc];omega)) only [go_sem]))
    refine Pc.pure (hg _ _) (by simp [go_sem, Qm, clo, Qb, Qg]) (by intro g; simp only [go_sem, ren, Qf]) ?_
    (apply Zo;repeat' ((with_reducible first|apply Zk|(first|apply Za|apply Zb|apply Zc|apply Zd)<;>intro h)<;>try simp -implicitDefEqProofs (maxSteps:=9^7) (disch:=first|omega|(simp only [Qc];omega)) only [go_sem]))
    ·exact ⟨_, by omega, k + 1, by omega, Qff hp (by assumption), rfl, (by (repeat' apply And.intro) <;> (first | rfl | omega | (congr 1; omega) | assumption | (congr 1; assumption)))⟩
    ·skip
     (refine Ql (by intro g; simp only [go_sem, ren, Qf]) ?_)
     rw [bad (by omega) (by assumption)]
   ·skip
    (refine Ql (by intro g; simp only [go_sem, ren, Qf]) ?_)
    rw [(Qbw _ l).2 ⟨by omega, by omega, fun j hj => hp j (by omega)⟩]
  ·exact ⟨0, by omega, fun j hj => by omega, rfl, rfl, rfl, rfl, rfl, rfl⟩
structure RowS where
 op : Int
 name : ByteArray
 first : Int
 last : Int
 least : Int
 most : Int
 may : V
 none : Int
def Js (r : RowS) : List V := [.int .i64 r.op, .str r.name, .int .i64 r.first, .int .i64 r.last, .int .i64 r.least, .int .i64 r.most, r.may, .int .i64 r.none]
def vno : V := .fn (.func 70) [] []
def Qo6 (m : Int) : V := .fn (.func 80) [] [.rp [.int .i64 m] 0]
def Qec (g : Nat) : V := .fn (.func 82) [] [.rp [.fn (.func g) [] []] 0]
def Qz8 : V := .fn (.func 72) [] []
def Qz7 : V := .fn (.func 73) [] []
def Qzg : V := .fn (.func 74) [] []
def Qzf : V := .fn (.func 75) [] []
theorem Qtb (m : Int) : Qo6 m = .fn (.func 80) [] [.rp [.int .i64 m] 0] := rfl
theorem Qmv (g : Nat) : Qec g = .fn (.func 82) [] [.rp [.fn (.func g) [] []] 0] := rfl
attribute [go_sem] Qtb Qmv
theorem Qil (m : Int) : Pu C 71 [.int .i64 m] (Qo6 m) := by
 refine Fc.keep (Fc.sealR ?_);refine Fc.bodyT Qi Try.func71 w71 rfl Try.ntmps71 Try.results71 (zLe rfl) ?_
 (apply Zo;repeat' ((with_reducible first|apply Zk|(first|apply Za|apply Zb|apply Zc|apply Zd)<;>intro h)<;>try simp -implicitDefEqProofs (maxSteps:=9^7) (disch:=first|omega|(simp only [Qc];omega)) only [go_sem]))
 refine ⟨0, 3, 1, [.int .i64 m], rfl, rfl, [], by simp, by simp, ?_⟩
 simp [sz, szL, ren, Qf, Qo6, Qan]
theorem Qeo (g : Nat) : Pu C 76 [.fn (.func g) [] []] (Qec g) := by
 refine Fc.keep (Fc.sealR ?_);refine Fc.bodyT Qi Try.func76 w76 rfl Try.ntmps76 Try.results76 (zLe rfl) ?_
 (apply Zo;repeat' ((with_reducible first|apply Zk|(first|apply Za|apply Zb|apply Zc|apply Zd)<;>intro h)<;>try simp -implicitDefEqProofs (maxSteps:=9^7) (disch:=first|omega|(simp only [Qc];omega)) only [go_sem]))
 refine ⟨0, _, 1, [.fn (.func g) [] []], rfl, rfl, [], by simp, by simp, ?_⟩
 simp [sz, szL, ren, Qf, Qec, Qan]
def opsT : List RowS := [⟨1, ⟨#[97, 100, 100]⟩, 1, 3, 2, 2, vno, 0⟩,
 ⟨2, ⟨#[115, 117, 98]⟩, 1, 3, 2, 2, vno, 0⟩,
 ⟨3, ⟨#[109, 117, 108]⟩, 1, 3, 2, 2, vno, 0⟩,
 ⟨4, ⟨#[100, 105, 118]⟩, 1, 3, 2, 2, vno, 0⟩,
 ⟨5, ⟨#[110, 101, 103]⟩, 1, 3, 1, 1, vno, 0⟩,
 ⟨6, ⟨#[112, 111, 119]⟩, 1, 3, 1, 1, Qo6 16, 1⟩,
 ⟨7, ⟨#[114, 101, 108, 117]⟩, 1, 3, 1, 1, vno, 0⟩,
 ⟨8, ⟨#[115, 116, 101, 112]⟩, 3, 3, 1, 1, vno, 0⟩,
 ⟨9, ⟨#[115, 99, 97, 108, 101]⟩, 3, 3, 1, 1, Qz8, 0⟩,
 ⟨10, ⟨#[109, 97, 116, 109, 117, 108]⟩, 1, 3, 2, 2, vno, 0⟩,
 ⟨11, ⟨#[116, 114, 97, 110, 115, 112, 111, 115, 101]⟩, 1, 3, 1, 1, Qz7, 1⟩,
 ⟨12, ⟨#[114, 101, 115, 104, 97, 112, 101]⟩, 1, 3, 1, 1, Qzg, 0⟩,
 ⟨13, ⟨#[98, 114, 111, 97, 100, 99, 97, 115, 116]⟩, 1, 3, 1, 1, Qzg, 0⟩,
 ⟨14, ⟨#[115, 117, 109]⟩, 1, 3, 1, 1, Qzf, 2⟩,
 ⟨15, ⟨#[115, 108, 105, 99, 101]⟩, 1, 3, 1, 1, Qec 77, 0⟩,
 ⟨16, ⟨#[112, 97, 100]⟩, 1, 3, 1, 1, Qec 78, 0⟩,
 ⟨17, ⟨#[99, 111, 110, 99, 97, 116]⟩, 1, 3, 1, 8, Qo6 3, 1⟩,
 ⟨18, ⟨#[115, 113, 117, 97, 114, 101]⟩, 1, 1, 1, 1, vno, 0⟩,
 ⟨19, ⟨#[103, 101, 109, 109]⟩, 1, 2, 3, 3, vno, 0⟩,
 ⟨20, ⟨#[109, 101, 97, 110]⟩, 1, 2, 1, 1, Qzf, 2⟩]
theorem Qjy : Pu C 66 [] (.sl 20 (opsT.flatMap Js)) := by
 refine Fc.keep (Fc.sealR ?_);refine Fc.bodyT Qi Try.func66 w66 rfl Try.ntmps66 Try.results66 (zLe rfl) ?_
 (apply Zo;repeat' ((with_reducible first|apply Zk|(first|apply Za|apply Zb|apply Zc|apply Zd)<;>intro h)<;>try simp -implicitDefEqProofs (maxSteps:=9^7) (disch:=first|omega|(simp only [Qc];omega)) only [go_sem]))
 refine Fc.pure (Qil 16) (by simp [go_sem, Qm, clo, Qb, Qg]) (by intro g; simp only [go_sem, ren, Qf]) ?_
 (apply Zo;repeat' ((with_reducible first|apply Zk|(first|apply Za|apply Zb|apply Zc|apply Zd)<;>intro h)<;>try simp -implicitDefEqProofs (maxSteps:=9^7) (disch:=first|omega|(simp only [Qc];omega)) only [go_sem]))
 refine Fc.pure (Qeo _) (by simp [go_sem, Qm, clo, Qb, Qg]) (by intro g; simp only [go_sem, ren, Qf]) ?_
 (apply Zo;repeat' ((with_reducible first|apply Zk|(first|apply Za|apply Zb|apply Zc|apply Zd)<;>intro h)<;>try simp -implicitDefEqProofs (maxSteps:=9^7) (disch:=first|omega|(simp only [Qc];omega)) only [go_sem]))
 refine Fc.pure (Qeo _) (by simp [go_sem, Qm, clo, Qb, Qg]) (by intro g; simp only [go_sem, ren, Qf]) ?_
 (apply Zo;repeat' ((with_reducible first|apply Zk|(first|apply Za|apply Zb|apply Zc|apply Zd)<;>intro h)<;>try simp -implicitDefEqProofs (maxSteps:=9^7) (disch:=first|omega|(simp only [Qc];omega)) only [go_sem]))
 refine Fc.pure (Qil 3) (by simp [go_sem, Qm, clo, Qb, Qg]) (by intro g; simp only [go_sem, ren, Qf]) ?_
 (apply Zo;repeat' ((with_reducible first|apply Zk|(first|apply Za|apply Zb|apply Zc|apply Zd)<;>intro h)<;>try simp -implicitDefEqProofs (maxSteps:=9^7) (disch:=first|omega|(simp only [Qc];omega)) only [go_sem]))
 refine ⟨0, 57, 8, _, rfl, rfl, [], by simp, by simp, ?_⟩
 refine ⟨?_, rfl⟩
 rfl
end Go.Proofs.Ytlomgfdepllanaa
end
section
namespace Go.Proofs.Ytlomgfdepllanaa
open Go.Bv
def Qgr : RowS := ⟨0, ⟨#[]⟩, 0, 0, 0, 0, .nilf, 0⟩
theorem Yj (r : RowS) : Js r = [.int .i64 r.op, .str r.name, .int .i64 r.first, .int .i64 r.last, .int .i64 r.least, .int .i64 r.most, r.may, .int .i64 r.none] := rfl
theorem Qp1 (l : List RowS) : (l.flatMap Js).length = l.length * 8 := by
 induction l with
 | nil => rfl
 | cons a l ih => simp only [List.flatMap_cons, List.length_append, ih, List.length_cons]; simp only [Js, List.length_cons, List.length_nil]; omega
theorem Qru (l : List RowS) : ∀ (i o : Nat), i < l.length → o < 8 → nth (l.flatMap Js) (i * 8 + o) = nth (Js (l.getD i Qgr)) o := by
 induction l with
 | nil => intro i o h; simp at h
 | cons a l ih =>
  intro i o hi ho;rw [List.flatMap_cons, Xh]
  have h8 : (Js a).length = 8 := rfl
  cases i with
  | zero => rw [if_pos (by omega)]; simp
  | succ i =>
   rw [if_neg (by omega), h8, show (i + 1) * 8 + o - 8 = i * 8 + o by omega, ih i o (by simpa using hi) ho]; simp
theorem Qrt (l : List RowS) (i : Nat) (hi : i < l.length) : win (l.flatMap Js) (i * 8) 8 = Js (l.getD i Qgr) := by
 refine Qg9 (by rw [Qeb]; rfl) fun j => ?_
 rw [Ql8];split
 ·rename_i h; exact Qru l i j hi h
 ·rename_i h; rw [Zx _ _ (by show 8 ≤ j; omega)]
attribute [go_sem] Qp1
attribute [go_sem high] Qrt
theorem Qcr : opsT.length = 20 := rfl
theorem Qt4 {j : Nat} (h : j < 20) : (opsT.getD j Qgr).op = j + 1 := by
 rcases j with _ | _ | _ | _ | _ | _ | _ | _ | _ | _ | _ | _ | _ | _ | _ | _ | _ | _ | _ | _ | j
 all_goals first | rfl | omega
theorem Qqm (r : RowS) (o : Int) (hc : clo r.may = true) : Pu C 57 [.agg (Js r), .rp [.int .i64 o] 0] (.bool (r.op == o)) := by
 refine Fc.keep (Fc.bodyT Qi Try.func57 w57 rfl Try.ntmps57 Try.results57 (zLe rfl) ?_)
 (apply Zo;repeat' ((with_reducible first|apply Zk|(first|apply Za|apply Zb|apply Zc|apply Zd)<;>intro h)<;>try simp -implicitDefEqProofs (maxSteps:=9^7) (disch:=first|omega|(simp only [Qc];omega)) only [go_sem, Yj]))
 (refine Ql (by intro g; simp only [go_sem, ren, Qf]) ?_)
 rfl
theorem Qcq {j : Nat} : clo (opsT.getD j Qgr).may = true := by
 by_cases h : j < 20
 ·rcases j with _ | _ | _ | _ | _ | _ | _ | _ | _ | _ | _ | _ | _ | _ | _ | _ | _ | _ | _ | _ | j
  all_goals first | rfl | omega
 ·rw [List.getD_eq_getElem?_getD, List.getElem?_eq_none (by rw [Qcr]; omega)]; rfl
theorem Qgi (r : RowS) (h : clo r.may = true) : Qm (Js r) = true := by simp [Js, Qm, clo, h]
theorem Qok : Qm (opsT.flatMap Js) = true := by rfl
theorem Qf7 {j : Nat} : Xx (opsT.getD j Qgr).may = true := by
 by_cases h : j < 20
 ·rcases j with _ | _ | _ | _ | _ | _ | _ | _ | _ | _ | _ | _ | _ | _ | _ | _ | _ | _ | _ | _ | j
  all_goals first | rfl | omega
 ·rw [List.getD_eq_getElem?_getD, List.getElem?_eq_none (by rw [Qcr]; omega)]; rfl
theorem Qna (g : Nat → Option Nat) : Qf g (opsT.flatMap Js) = opsT.flatMap Js := by rfl
attribute [go_sem] Qna
def ixO (o : Int) : Int := if 1 ≤ o ∧ o ≤ 20 then o - 1 else -1
theorem Qd7 (o : Int) : Pu C 67 [.sl 20 (opsT.flatMap Js), .fn (.func 57) [] [.rp [.int .i64 o] 0]] (.int .i64 (ixO o)) := by
 refine Fc.keep (Fc.bodyT Qi Try.func67 w67 rfl Try.ntmps67 Try.results67 (zLe rfl) ?_)
 (apply Zo;repeat' ((with_reducible first|apply Zk|(first|apply Za|apply Zb|apply Zc|apply Zd)<;>intro h)<;>try simp -implicitDefEqProofs (maxSteps:=9^7) (disch:=first|omega|(simp only [Qc];omega)) only [go_sem]))
 refine Qn (fun n ts H => ∃ (i : Nat), (i ≤ 20) ∧ (∀ j, j < i → ((j : Int) + 1) ≠ o) ∧ (n = 20 - i) ∧ (H = []) ∧ ts.length = 19 ∧ nth ts 0 = .sl 20 (opsT.flatMap Js) ∧ nth ts 1 = .fn (.func 57) [] [.rp [.int .i64 o] 0] ∧ nth ts 7 = .int .i64 20 ∧ nth ts 8 = .int .i64 i) ?_ (n := 20) ?_
 ·skip
  rintro n ts H ⟨i, hi, he, hn, hH, hL, hs0, hs1, hs7, hs8⟩;refine Xt [(0, .sl 20 (opsT.flatMap Js)), (1, .fn (.func 57) [] [.rp [.int .i64 o] 0]), (7, .int .i64 20), (8, .int .i64 i)] hL (by simp only [zFm, hs0, hs1, hs7, hs8, true_and]; exact zNm) ?_
  clear hL hs0 hs1 hs7 hs8 ts
  refine Xm Qi ?_;subst hH hn
  have hT := Qcr
  by_cases hlt : i < 20
  ·have ho := Qt4 hlt
   (apply Zo;repeat' ((with_reducible first|apply Zk|(first|apply Za|apply Zb|apply Zc|apply Zd)<;>intro h)<;>try simp -implicitDefEqProofs (maxSteps:=9^7) (disch:=first|omega|(simp only [Qc];omega)) only [go_sem]))
   refine Fc.pure (Qqm _ o Qcq) (by simp only [Qm, clo, Qgi _ Qcq, Bool.and_self]) (fun g => rfl) ?_
   (apply Zo;repeat' ((with_reducible first|apply Zk|(first|apply Za|apply Zb|apply Zc|apply Zd)<;>intro h)<;>try simp -implicitDefEqProofs (maxSteps:=9^7) (disch:=first|omega|(simp only [Qc];omega)) only [go_sem, ho]))
   ·skip
    (refine Ql (by intro g; simp only [go_sem, ren, Qf]) ?_)
    congr 1; rw [ixO]; split <;> omega
   ·exact ⟨_, by omega, i + 1, by omega, Qff he (by omega), rfl, (by (repeat' apply And.intro) <;> (first | rfl | omega | (congr 1; omega) | assumption | (congr 1; assumption)))⟩
  ·obtain rfl : i = 20 := by omega
   (apply Zo;repeat' ((with_reducible first|apply Zk|(first|apply Za|apply Zb|apply Zc|apply Zd)<;>intro h)<;>try simp -implicitDefEqProofs (maxSteps:=9^7) (disch:=first|omega|(simp only [Qc];omega)) only [go_sem]))
   (refine Ql (by intro g; simp only [go_sem, ren, Qf]) ?_)
   congr 1; rw [ixO, if_neg]
   intro h; exact he (o.toNat - 1) (by omega) (by omega)
 ·exact ⟨0, by omega, fun j hj => by omega, rfl, rfl, rfl, rfl, rfl, rfl, rfl⟩
def Xo (o : Int) : RowS := if 1 ≤ o ∧ o ≤ 20 then opsT.getD (o - 1).toNat Qgr else Qgr
theorem Qcb (o : Int) : clo (Xo o).may = true := by
 unfold Xo; split
 ·exact Qcq
 ·rfl
def ofV (o : Int) : V := .tup [.agg (Js (Xo o)), .bool (decide (1 ≤ o ∧ o ≤ 20))]
theorem Qof (o : Int) : Pu C 56 [.fn (.func 57) [] [.rp [.int .i64 o] 0]] (ofV o) := by
 refine Fc.keep (Fc.bodyT Qi Try.func56 w56 rfl Try.ntmps56 Try.results56 (zLe rfl) ?_)
 (apply Zo;repeat' ((with_reducible first|apply Zk|(first|apply Za|apply Zb|apply Zc|apply Zd)<;>intro h)<;>try simp -implicitDefEqProofs (maxSteps:=9^7) (disch:=first|omega|(simp only [Qc];omega)) only [go_sem]))
 refine Fc.pure (Qjy) (by simp [go_sem, Qm, clo, Qb, Qg]) (by intro g; simp only [go_sem, ren, Qf]) ?_
 (apply Zo;repeat' ((with_reducible first|apply Zk|(first|apply Za|apply Zb|apply Zc|apply Zd)<;>intro h)<;>try simp -implicitDefEqProofs (maxSteps:=9^7) (disch:=first|omega|(simp only [Qc];omega)) only [go_sem]))
 refine Fc.pure (Qd7 o) (by simp [Qm, clo, Qok]) (fun g => rfl) ?_
 have hT := Qcr
 by_cases h : 1 ≤ o ∧ o ≤ 20
 ·have hi : ixO o = ((o.toNat - 1 : Nat) : Int) := by rw [ixO, if_pos h]; omega
  rw [hi]
  have hs := Qf7 (j := o.toNat - 1)
  have hm := Qcq (j := o.toNat - 1)
  have hr : Xo o = opsT.getD (o.toNat - 1) Qgr := by rw [Xo, if_pos h]; congr 1; omega
  rw [ofV, hr, decide_eq_true h]
  (apply Zo;repeat' ((with_reducible first|apply Zk|(first|apply Za|apply Zb|apply Zc|apply Zd)<;>intro h)<;>try simp -implicitDefEqProofs (maxSteps:=9^7) (disch:=first|omega|(simp only [Qc];omega)) only [go_sem, Yj, hs]))
  exact Ql (fun g => Zv g _ (by simp only [clo, Qm, hm, Bool.and_self])) rfl
 ·have hi : ixO o = -1 := by rw [ixO, if_neg h]
  rw [hi]
  have hr : Xo o = Qgr := by rw [Xo, if_neg h]
  rw [ofV, hr, decide_eq_false h]
  (apply Zo;repeat' ((with_reducible first|apply Zk|(first|apply Za|apply Zb|apply Zc|apply Zd)<;>intro h)<;>try simp -implicitDefEqProofs (maxSteps:=9^7) (disch:=first|omega|(simp only [Qc];omega)) only [go_sem, Yj]))
  exact Ql (fun g => rfl) rfl
theorem Qbs (o : Int) : Qm (Js (Xo o)) = true := Qgi _ (Qcb o)
theorem Qbi (o : Int) : Xx (Xo o).may = true := by
 unfold Xo; split
 ·exact Qf7
 ·rfl
theorem Ql7 (o : Int) : Pu C 30 [.int .i64 o] (ofV o) := by
 refine Fc.keep (Fc.bodyT Qi Try.func30 w30 rfl Try.ntmps30 Try.results30 (zLe rfl) ?_)
 (apply Zo;repeat' ((with_reducible first|apply Zk|(first|apply Za|apply Zb|apply Zc|apply Zd)<;>intro h)<;>try simp -implicitDefEqProofs (maxSteps:=9^7) (disch:=first|omega|(simp only [Qc];omega)) only [go_sem]))
 refine Fc.sealed (r := 0) (cs := [.int .i64 o]) rfl rfl ?_;simp only [szL, sz, if_true, List.set_cons_zero]
 have hs := Qbi o
 have hm := Qcb o
 refine Fc.pure (Qof o) rfl (fun g => Zv g _ (by simp only [ofV, clo, Qm, Qbs, Bool.and_self])) ?_
 rw [ofV];generalize Xo o = r at hs hm
 (apply Zo;repeat' ((with_reducible first|apply Zk|(first|apply Za|apply Zb|apply Zc|apply Zd)<;>intro h)<;>try simp -implicitDefEqProofs (maxSteps:=9^7) (disch:=first|omega|(simp only [Qc];omega)) only [go_sem, Yj, hs]))
 exact Ql (fun g => Zv g _ (by simp only [clo, Qm, hm, Bool.and_self])) rfl
theorem Qur (r : RowS) (v : Int) : Pu C 32 [.agg (Js r), .int .i64 v] (.bool (decide (r.first ≤ v ∧ v ≤ r.last))) := by
 refine Fc.keep (Fc.bodyT Qi Try.func32 w32 rfl Try.ntmps32 Try.results32 (zLe rfl) ?_)
 (apply Zo;repeat' ((with_reducible first|apply Zk|(first|apply Za|apply Zb|apply Zc|apply Zd)<;>intro h)<;>try simp -implicitDefEqProofs (maxSteps:=9^7) (disch:=first|omega|(simp only [Qc];omega)) only [go_sem, Yj]))
 all_goals (refine Ql (by intro g; simp only [go_sem, ren, Qf]) ?_)
 all_goals (simp only [V.tup.injEq, List.cons.injEq, V.int.injEq, V.bool.injEq, true_and, and_true]; (try rw [Bool.eq_iff_iff]); (try simp only [decide_eq_true_eq, decide_eq_false_iff_not, Decidable.not_not, true_and, and_true, Bool.not_eq_true, Bool.not_eq_eq_eq_not, Bool.not_true, Bool.and_eq_true, Bool.or_eq_true, beq_iff_eq, bne_iff_ne, ne_eq, Bool.false_eq_true, false_iff, true_iff, iff_false, iff_true]); (try omega))
theorem Qrv (a : Int) : Pu C 31 [.int .i64 a] (.bool (decide (a > 2147483647 ∨ a < -2147483647))) := by
 refine Fc.keep (Fc.bodyT Qi Try.func31 w31 rfl Try.ntmps31 Try.results31 (zLe rfl) ?_)
 (apply Zo;repeat' ((with_reducible first|apply Zk|(first|apply Za|apply Zb|apply Zc|apply Zd)<;>intro h)<;>try simp -implicitDefEqProofs (maxSteps:=9^7) (disch:=first|omega|(simp only [Qc];omega)) only [go_sem]))
 all_goals (refine Ql (by intro g; simp only [go_sem, ren, Qf]) ?_)
 all_goals (simp only [V.tup.injEq, List.cons.injEq, V.int.injEq, V.bool.injEq, true_and, and_true]; (try rw [Bool.eq_iff_iff]); (try simp only [decide_eq_true_eq, decide_eq_false_iff_not, Decidable.not_not, true_and, and_true, Bool.not_eq_true, Bool.not_eq_eq_eq_not, Bool.not_true, Bool.and_eq_true, Bool.or_eq_true, beq_iff_eq, bne_iff_ne, ne_eq, Bool.false_eq_true, false_iff, true_iff, iff_false, iff_true]); (try omega))
theorem Qd8 (l : List Int) (hl : l.length ≤ 17592186044416) : Fc C 58 [.sl l.length (ints l), .fn (.func 31) [] []] [] (fun v H => (∃ i : Int, v = .int .i64 i ∧ Qdk l = decide (0 ≤ i)) ∧ H = []) := by
 refine Fc.keep (Fc.bodyT Qi Try.func58 w58 rfl Try.ntmps58 Try.results58 (zLe rfl) ?_)
 (apply Zo;repeat' ((with_reducible first|apply Zk|(first|apply Za|apply Zb|apply Zc|apply Zd)<;>intro h)<;>try simp -implicitDefEqProofs (maxSteps:=9^7) (disch:=first|omega|(simp only [Qc];omega)) only [go_sem]))
 refine Qn (fun n ts H => ∃ i, (i ≤ l.length) ∧ (∀ j, j < i → ¬ (l.getD j 0 > 2147483647 ∨ l.getD j 0 < -2147483647)) ∧ (n = l.length - i) ∧ (H = []) ∧ ts.length = 19 ∧ nth ts 0 = .sl l.length (ints l) ∧ nth ts 1 = .fn (.func 31) [] [] ∧ nth ts 7 = .int .i64 l.length ∧ nth ts 8 = .int .i64 i) ?_ (n := l.length) ?_
 ·skip
  rintro n ts H ⟨i, hi, he, hn, hH, hL, hs0, hs1, hs7, hs8⟩;refine Xt [(0, .sl l.length (ints l)), (1, .fn (.func 31) [] []), (7, .int .i64 l.length), (8, .int .i64 i)] hL (by simp only [zFm, hs0, hs1, hs7, hs8, true_and]; exact zNm) ?_
  clear hL hs0 hs1 hs7 hs8 ts
  refine Xm Qi ?_;subst hH hn
  (apply Zo;repeat' ((with_reducible first|apply Zk|(first|apply Za|apply Zb|apply Zc|apply Zd)<;>intro h)<;>try simp -implicitDefEqProofs (maxSteps:=9^7) (disch:=first|omega|(simp only [Qc];omega)) only [go_sem]))
  ·skip
   refine Fc.pure (Qrv _) (by simp [go_sem, Qm, clo, Qb, Qg]) (by intro g; simp only [go_sem, ren, Qf]) ?_
   (apply Zo;repeat' ((with_reducible first|apply Zk|(first|apply Za|apply Zb|apply Zc|apply Zd)<;>intro h)<;>try simp -implicitDefEqProofs (maxSteps:=9^7) (disch:=first|omega|(simp only [Qc];omega)) only [go_sem]))
   ·refine ⟨[], by simp, by simp, ⟨i, rfl, ?_⟩, rfl⟩
    rw [decide_eq_true (by omega)]
    simp only [Qdk, List.any_eq_true, decide_eq_true_eq]
    have e : l.getD i 0 = l[i]'(by omega) := by simp [List.getD, show i < l.length by omega]
    refine ⟨_, List.getElem_mem (show i < l.length by omega), ?_⟩
    rw [← e]; assumption
   ·exact ⟨_, by omega, i + 1, by omega, Qff he (by assumption), rfl, (by (repeat' apply And.intro) <;> (first | rfl | omega | (congr 1; omega) | assumption | (congr 1; assumption)))⟩
  ·refine ⟨[], by simp, by simp, ⟨-1, rfl, ?_⟩, rfl⟩
   rw [decide_eq_false (by omega)]
   simp only [Qdk, List.any_eq_false, decide_eq_true_eq];exact (Qa1 (xs := l) (p := fun x => ¬ (x > 2147483647 ∨ x < -2147483647))).2 fun j hj => he j (by omega)
 ·exact ⟨0, by omega, fun j hj => by omega, rfl, rfl, rfl, rfl, rfl, rfl, rfl⟩
theorem Ze (l : List Int) (hl : l.length ≤ 17592186044416) : Pu C 33 [.sl l.length (ints l), .fn (.func 31) [] []] (.bool (Qdk l)) := by
 refine Fc.keep (Fc.bodyT Qi Try.func33 w33 rfl Try.ntmps33 Try.results33 (zLe rfl) ?_)
 (apply Zo;repeat' ((with_reducible first|apply Zk|(first|apply Za|apply Zb|apply Zc|apply Zd)<;>intro h)<;>try simp -implicitDefEqProofs (maxSteps:=9^7) (disch:=first|omega|(simp only [Qc];omega)) only [go_sem]))
 refine Fc.call (Qd8 l hl) (by simp [Qm, clo, Qb]) ?_
 rintro v H' ⟨⟨i, rfl, h3⟩, rfl⟩;simp only [ren, Jt, List.map_nil, List.append_nil]
 (apply Zo;repeat' ((with_reducible first|apply Zk|(first|apply Za|apply Zb|apply Zc|apply Zd)<;>intro h)<;>try simp -implicitDefEqProofs (maxSteps:=9^7) (disch:=first|omega|(simp only [Qc];omega)) only [go_sem]))
 (refine Ql (by intro g; simp only [go_sem, ren, Qf]) ?_)
 rw [h3]
theorem Qqt (tur : ∀ l : List Int, l.length ≤ 17592186044416 → Pu C 73 [.sl l.length (ints l)] (.bool (Yr l && decide (l.length ≤ 4)))) (o : Int) (ho : 1 ≤ o ∧ o ≤ 20) (l : List Int) (hl : l.length ≤ 17592186044416) (ha : Att l) :
  ∃ g ys, (Xo o).may = .fn (.func g) [] ys ∧ Qm ys = true ∧ Pu C g (.sl l.length (ints l) :: ys) (.bool (Jz o l)) := by
 have hcs : o = 6 ∨ o = 9 ∨ o = 11 ∨ o = 12 ∨ o = 13 ∨ o = 14 ∨ o = 15 ∨ o = 16 ∨ o = 17 ∨ o = 20 ∨ (o = 1 ∨ o = 2 ∨ o = 3 ∨ o = 4 ∨ o = 5 ∨ o = 7 ∨ o = 8 ∨ o = 10 ∨ o = 18 ∨ o = 19) := by omega
 rcases hcs with rfl | rfl | rfl | rfl | rfl | rfl | rfl | rfl | rfl | rfl | hcs
 ·exact ⟨_, _, rfl, rfl, Qf9 l 16⟩
 ·exact ⟨_, _, rfl, rfl, Qgz l ha⟩
 ·exact ⟨_, _, rfl, rfl, tur l hl⟩
 ·exact ⟨_, _, rfl, rfl, Qgf l hl⟩
 ·exact ⟨_, _, rfl, rfl, Qgf l hl⟩
 ·exact ⟨_, _, rfl, rfl, Qdu l hl⟩
 ·exact ⟨_, _, rfl, rfl, Qdv l _ true hl fun a b => by have := Qr9 a b; simpa using this⟩
 ·exact ⟨_, _, rfl, rfl, Qdv l _ false hl fun a b => by have := Qp4 a b; simpa using this⟩
 ·exact ⟨_, _, rfl, rfl, Qf9 l 3⟩
 ·exact ⟨_, _, rfl, rfl, Qdu l hl⟩
 ·rcases hcs with rfl | rfl | rfl | rfl | rfl | rfl | rfl | rfl | rfl | rfl <;> exact ⟨_, _, rfl, rfl, Quf l⟩
end Go.Proofs.Ytlomgfdepllanaa
end
