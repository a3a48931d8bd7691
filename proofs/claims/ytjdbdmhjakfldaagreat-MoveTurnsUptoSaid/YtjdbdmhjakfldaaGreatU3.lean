/-
  Parts Bv26, Bv28, Bv29, Bv30, Bv31, Base, CodeA, CodeB, CodeC, CodeD, CodeE, CodeF, CodeG, CodeH, one behind the other: a program logic of our own, contracts of functions.
-/
import Derived.Test.YtjdbdmhjakfldaaGreatU2
import Derived.ProofKit
import Derived.SizedLaws
import Derived.Deep.Slices
import Derived.Test.YtjdbdmhjakfldaaGreatRows
import Derived.JoinedCond
import Derived.Test.YtjdbdmhjakfldaaGreatProg

set_option linter.unusedVariables false
set_option linter.unusedSimpArgs false
set_option maxRecDepth 100000
set_option maxHeartbeats 8000000
section
namespace Go.Bv
open Go.RowKit Go.Deep
def CR (w : World) (vs : List V) (cs : List Value) : Prop := vs.length = cs.length ∧ ∀ j, VR (fun b => b < w.heap.size) Kh w (nth vs j) (cs.getD j undef)
theorem CR.nil (w : World) : CR w [] [] := ⟨rfl, fun j => .any _⟩
theorem CR.one {w : World} {v : V} {c : Value} (h : VR (fun b => b < w.heap.size) Kh w v c) : CR w [v] [c] := ⟨rfl, fun j => by
 cases j with
 | zero => exact h
 | succ j => exact .any _⟩
theorem CR.append {w : World} {a b : List V} {c d : List Value} (h : CR w a c) (k : CR w b d) : CR w (a ++ b) (c ++ d) := by
 refine ⟨by simp [h.1, k.1], fun j => ?_⟩
 rw [Ys];by_cases hj : j < a.length
 ·rw [if_pos hj]
  have := h.2 j
  rw [h.1] at hj;simpa [List.getD, List.getElem?_append_left hj] using this
 ·rw [if_neg hj]
  have := k.2 (j - a.length)
  rw [h.1] at hj this ⊢;simpa [List.getD, List.getElem?_append_right (show c.length ≤ j by omega)] using this
structure Reads (P : Program) (t : TypeId) (Q : List V → Prop) : Prop where
 get : ∀ {H : Type} {enc : TypeId × Value → H} {w : World} {fuel : Nat} {cs : List Value} {x : DataW H × List MemPlace},
 DataW.trod enc P w 0 (fun _ => true) true fuel t cs = some x → (∀ n ∈ x.1.weights P t, n ≤ reachBytes) → ∃ vs, Q vs ∧ CR w vs cs
theorem Reads.mono {P : Program} {t : TypeId} {Q Q' : List V → Prop} (h : Reads P t Q) (hq : ∀ vs, Q vs → Q' vs) : Reads P t Q' := ⟨fun ht hw => by
 obtain ⟨vs, h1, h2⟩ := h.get ht hw;exact ⟨vs, hq _ h1, h2⟩⟩
theorem Reads.int {P : Program} {t : TypeId} {k : IntKind} (hu : P.underlying t = some (.int k)) : Reads P t fun vs => ∃ n, vs = [.int k n] ∧ (Lit.int k n).wf = true := ⟨fun ht _ => by
 obtain ⟨n, rfl, _, h⟩ := DataW.trod_int hu ht;exact ⟨_, ⟨n, rfl, h⟩, .one (.int k n)⟩⟩
theorem Reads.bool {P : Program} {t : TypeId} (hu : P.underlying t = some .bool) : Reads P t fun vs => ∃ b, vs = [.bool b] := ⟨fun ht _ => by
 obtain ⟨b, rfl, _⟩ := DataW.trod_bool hu ht;exact ⟨_, ⟨b, rfl⟩, .one (.bool b)⟩⟩
theorem Reads.string {P : Program} {t : TypeId} (hu : P.underlying t = some .string) : Reads P t fun vs => ∃ s : ByteArray, vs = [.str s] ∧ s.size ≤ reachBytes := ⟨fun ht hw => by
 obtain ⟨s, rfl, rfl, h⟩ := DataW.trod_string hu ht;refine ⟨_, ⟨s, rfl, ?_⟩, .one (.str s)⟩;exact hw _ (by simp [DataW.weights])⟩
theorem Reads.slice {P : Program} {t e : TypeId} {s b : Nat} {Q : List V → Prop} (hu : P.underlying t = some (.slice e)) (hs : P.cellsOf e = s) (h0 : 0 < s) (hb : P.bytesOf e = b) (he : Reads P e Q) :
  Reads P t fun vs => ∃ l : List (List V), (∀ x ∈ l, Q x) ∧ l.length * b ≤ reachBytes ∧ vs = [.sl l.length l.flatten] := ⟨fun {H enc w fuel cs x} ht hw => by
 rcases open_slice hu ht with ⟨rfl, rfl⟩ | ⟨a, len, cap, m, n, D, Pl, rfl, _, hlc, hcm, hm, rfl, hx⟩
 ·exact ⟨_, ⟨[], by simp, by simp, rfl⟩, .one (.sl0 _ _ _)⟩
 ·simp only [if_true] at hm;subst hm
  have hwt : (len + (m - len)) * b ≤ reachBytes := hw _ (by simp only [DataW.weights, hu]; rw [hb]; simp)
  have hel : ∀ i, i < m → ∀ n ∈ (D i).weights P e, n ≤ reachBytes := fun i hi n hn => by
   refine hw n ?_;simp only [DataW.weights, hu, List.mem_cons, List.mem_append]
   have gen : ∀ (l : List Nat) (f : Nat → Nat), (∃ j ∈ l, f j = i) → n ∈ DataW.weightsAll P e (l.map fun j => D (f j)) := by
    intro l f
    induction l with
    | nil => rintro ⟨j, hj, _⟩; simp at hj
    | cons a l ih =>
     rintro ⟨j, hj, hf⟩;simp only [List.map_cons, DataW.weightsAll, List.mem_append];rcases List.mem_cons.1 hj with rfl | hj
     ·left; rw [hf]; exact hn
     ·right; exact ih ⟨j, hj, hf⟩
   by_cases hil : i < len
   ·right; left; exact gen _ id ⟨i, by simpa using hil, rfl⟩
   ·right; right; exact gen _ (len + ·) ⟨i - len, by simp; omega, by show len + (i - len) = i; omega⟩
  rw [hs] at hx
  have key : ∀ k, k ≤ len → ∃ l : List (List V), l.length = k ∧ (∀ x ∈ l, Q x) ∧ l.flatten.length = k * s ∧ ∀ j, j < k * s → ∃ v, w.cell? (a.add j) = some v ∧ VR (fun b => b < w.heap.size) Kh w (nth l.flatten j) v := by
   intro k
   induction k with
   | zero => intro _; exact ⟨[], rfl, by simp, by simp, fun j hj => by omega⟩
   | succ k ih =>
    intro hk;obtain ⟨l, l1, l2, l3, l4⟩ := ih (by omega)
    obtain ⟨cs', hc, ht'⟩ := hx k (by omega)
    obtain ⟨vs, hq, hcr⟩ := he.get ht' (hel k (by omega))
    obtain ⟨_, c1, c2⟩ := World.cells?_some hc;refine ⟨l ++ [vs], by simp [l1], fun x hx => ?_, ?_, fun j hj => ?_⟩
    ·rcases List.mem_append.1 hx with h | h
     ·exact l2 x h
     ·simp only [List.mem_cons, List.not_mem_nil, or_false] at h; subst h; exact hq
    ·rw [List.flatten_append, List.length_append, l3];simp only [List.flatten_cons, List.flatten_nil, List.append_nil, hcr.1, c1];rw [Nat.succ_mul]
    ·rw [List.flatten_append, Ys, l3];simp only [List.flatten_cons, List.flatten_nil, List.append_nil];by_cases hlt : j < k * s
     ·rw [if_pos hlt]; exact l4 j hlt
     ·rw [if_neg hlt];rw [Nat.succ_mul] at hj
      have h1 := c2 (j - k * s) (by omega)
      rw [Bv.add_add, show k * s + (j - k * s) = j by omega] at h1
      rw [h1]
      have h2 : j - k * s < cs'.length := by omega
      refine ⟨cs'[j - k * s], by simp [h2], ?_⟩
      have := hcr.2 (j - k * s)
      simpa [List.getD, h2] using this
  obtain ⟨l, l1, l2, l3, l4⟩ := key len (Nat.le_refl _);refine ⟨_, ⟨l, l2, ?_, rfl⟩, .one ?_⟩
  ·rw [l1]; exact Nat.le_trans (Nat.mul_le_mul_right _ (by omega)) hwt
  ·rw [l1];by_cases hz : len = 0
   ·subst hz; exact .sl0 _ _ _
   ·have hlen : 0 < len * s := Nat.mul_pos (by omega) h0
    obtain ⟨v0, hv0, _⟩ := l4 0 hlen
    have hblk : a.block < w.heap.size := by have := World.block_lt_of_cell? w _ hv0; rwa [Qce] at this
    refine .sl len _ a m (fun j => (w.cell? (a.add j)).getD undef) hlc hblk (fun j hj => ?_) (fun j => ?_)
    ·rw [l3] at hj;obtain ⟨v, hv, _⟩ := l4 j hj;rw [hv]; rfl
    ·by_cases hj : j < len * s
     ·obtain ⟨v, hv, h2⟩ := l4 j hj;rw [hv]; exact h2
     ·rw [Qaj _ _ (by omega)]; exact .any _⟩
theorem Reads.struct {P : Program} {t : TypeId} {fs : Array Field} {Qs : Nat → List V → Prop} (hl : laidOutB P = true) (ht : t < P.types.size) (hu : P.underlying t = some (.struct fs)) (hf : ∀ i f, fs[i]? = some f → Reads P f.type (Qs i)) :
  Reads P t fun vs => ∃ l : List (List V), l.length = fs.size ∧ (∀ i, i < fs.size → Qs i (l.getD i [])) ∧ vs = l.flatten := ⟨fun {H enc w fuel cs x} h hw => by
 obtain ⟨xs, n, rfl, rfl, hc, hx, hi⟩ := DataW.trod_struct hu h;obtain ⟨_, hsum, hoff⟩ := kid_struct hl ht hu
 have key : ∀ k, k ≤ fs.size → ∃ l : List (List V), l.length = k ∧ (∀ i, i < k → Qs i (l.getD i [])) ∧ CR w l.flatten (cs.take (((fs.toList.take k).map fun f => P.cellsOf f.type).sum)) := by
  intro k
  induction k with
  | zero => intro _; exact ⟨[], rfl, fun i hi => by omega, by simpa using CR.nil w⟩
  | succ k ih =>
   intro hk;obtain ⟨l, l1, l2, l3⟩ := ih (by omega)
   have hfk : fs[k]? = some fs[k] := by simp [hk]
   have hfk' : fs.toList[k]? = some fs[k] := by simp [hk]
   have h1 := hi k _ hfk
   have hxk : xs[k]? = some xs[k] := List.getElem?_eq_getElem (by omega)
   rw [hxk] at h1;obtain ⟨vs, q1, q2⟩ := (hf k _ hfk).get h1 (fun n hn => hw n (by
    simp only [DataW.weights, hu];exact DataW.weights_mem_each (j := k) (by rw [List.getElem?_map, hfk']; rfl) (by rw [List.getElem?_map, hxk]; rfl) n hn))
   rw [hoff k _ hfk'] at q2;refine ⟨l ++ [vs], by simp [l1], fun i hi => ?_, ?_⟩
   ·by_cases hik : i < k
    ·have := l2 i hik
     simpa [List.getD, List.getElem?_append_left (show i < l.length by omega)] using this
    ·obtain rfl : i = k := by omega
     simpa [List.getD, ← l1] using q1
   ·have e1 : ((fs.toList.take (k + 1)).map fun f => P.cellsOf f.type).sum = ((fs.toList.take k).map fun f => P.cellsOf f.type).sum + P.cellsOf fs[k].type := by
     rw [List.take_add_one, hfk']; simp
    rw [e1, List.take_add, List.flatten_append];simpa using l3.append q2
 obtain ⟨l, l1, l2, l3⟩ := key fs.size (Nat.le_refl _);refine ⟨_, ⟨l, l1, l2, rfl⟩, ?_⟩;rw [List.take_of_length_le (show fs.toList.length ≤ fs.size by simp), ← hsum, ← hc, List.take_of_length_le (Nat.le_refl _)] at l3
 exact l3⟩
theorem Qhc {α : Type} {g : α → V} {R : α → Prop} : ∀ {l : List (List V)}, (∀ x ∈ l, ∃ a, x = [g a] ∧ R a) → ∃ xs : List α, xs.length = l.length ∧ l.flatten = xs.map g ∧ ∀ a ∈ xs, R a
 | [], _ => ⟨[], rfl, rfl, by simp⟩
 | x :: l, h => by
  obtain ⟨a, rfl, ha⟩ := h x (by simp)
  obtain ⟨xs, h1, h2, h3⟩ := Qhc (l := l) fun y hy => h y (by simp [hy])
  exact ⟨a :: xs, by simp [h1], by simp [h2], fun b hb => by
   rcases List.mem_cons.1 hb with rfl | hb
   ·exact ha
   ·exact h3 b hb⟩
theorem Reads.slice1 {α : Type} {P : Program} {t e : TypeId} {b : Nat} {g : α → V} {R : α → Prop} (hu : P.underlying t = some (.slice e)) (hs : P.cellsOf e = 1) (hb : P.bytesOf e = b) (he : Reads P e fun vs => ∃ a, vs = [g a] ∧ R a) :
  Reads P t fun vs => ∃ xs : List α, vs = [.sl xs.length (xs.map g)] ∧ xs.length * b ≤ reachBytes ∧ ∀ a ∈ xs, R a :=
 Reads.mono (Reads.slice hu hs (by omega) hb he) fun vs ⟨l, h1, h2, h3⟩ => by
  obtain ⟨xs, q1, q2, q3⟩ := Qhc h1;exact ⟨xs, by rw [h3, q1, q2], by rw [q1]; exact h2, q3⟩
theorem Reads.ints {P : Program} {t e : TypeId} (hu : P.underlying t = some (.slice e)) (hi : P.underlying e = some (.int .i64)) (hs : P.cellsOf e = 1) (hb : P.bytesOf e = 8) :
  Reads P t fun vs => ∃ xs : List Int, vs = [.sl xs.length (Bv.ints xs)] ∧ xs.length ≤ 17592186044416 :=
 Reads.mono (Reads.slice1 (g := fun n => .int .i64 n) hu hs hb (Reads.int hi)) fun vs ⟨xs, h1, h2, _⟩ => ⟨xs, h1, by unfold reachBytes at h2; omega⟩
structure ArgV (P : Program) (t : TypeId) (Q : V → Prop) : Prop where
 get : ∀ {H : Type} {enc : TypeId × Value → H} {w : World} {base : Nat} {v : Value} {d : DataW H} {p : List MemPlace},
 Value.okWide P w .any base t v → DataW.Trod enc P w 0 (fun _ => true) true t v d p → (∀ n ∈ d.weights P t, n ≤ reachBytes) → ∃ u, Q u ∧ VR (fun b => b < w.heap.size) Kh w u v
theorem ArgV.mono {P : Program} {t : TypeId} {Q Q' : V → Prop} (h : ArgV P t Q) (hq : ∀ u, Q u → Q' u) : ArgV P t Q' := ⟨fun h1 h2 h3 => by
 obtain ⟨u, k1, k2⟩ := h.get h1 h2 h3;exact ⟨u, hq _ k1, k2⟩⟩
theorem ArgV.one {P : Program} {t : TypeId} {Q : List V → Prop} (h : Reads P t Q) (ho : (match P.underlying t with | some (.int _) | some .bool | some .string | some (.slice _) => true | _ => false) = true) : ArgV P t fun u => Q [u] := ⟨fun {H enc w base v d p} h1 ⟨fuel, h2⟩ h3 => by
 obtain ⟨vs, q1, q2⟩ := h.get h2 h3
 have hv : v.cells.toList = [v] := by
  revert ho
  split
  ·rename_i k hu; intro _; obtain ⟨n, rfl⟩ := WideShapes.okWide_int hu h1; rfl
  ·rename_i hu; intro _; obtain ⟨b, rfl⟩ := WideShapes.okWide_bool hu h1; rfl
  ·rename_i hu; intro _; obtain ⟨s, rfl⟩ := WideShapes.okWide_string hu h1; rfl
  ·rename_i e hu; intro _; obtain ⟨a, len, cap, rfl⟩ := WideShapes.okWide_slice hu h1; rfl
  ·intro h; cases h
 rw [hv] at q2
 match vs, q2.1 with
 | [u], _ => exact ⟨u, q1, by have := q2.2 0; simpa [nth, List.getD] using this⟩⟩
theorem ArgV.struct {P : Program} {t : TypeId} {Q : List V → Prop} {fs : Array Field} (h : Reads P t Q) (hu : P.underlying t = some (.struct fs)) : ArgV P t fun u => ∃ vs, u = .agg vs ∧ Q vs := ⟨fun {H enc w base v d p} h1 ⟨fuel, h2⟩ h3 => by
 obtain ⟨vs, q1, q2⟩ := h.get h2 h3;obtain ⟨cs, rfl, _⟩ := WideShapes.okWide_struct hu h1
 have e : (Value.agg cs).cells.toList = cs.toList := rfl
 rw [e] at q2;refine ⟨_, ⟨vs, rfl, q1⟩, ?_⟩
 have := VR.agg (im := fun b => b < w.heap.size) (pl := Kh) (w := w) vs cs.toList q2.1 q2.2
 simpa using this⟩
structure ArgsV (P : Program) (ts : List TypeId) (R : List V → Prop) : Prop where
 get : ∀ {H : Type} {enc : TypeId × Value → H} {w : World} {base : Nat} {vs : List Value} {ds : List (DataW H)} {p : List MemPlace},
 (∀ (j : Nat) t v, ts[j]? = some t → vs[j]? = some v → Value.okWide P w .any base t v) → DataW.TrodAll enc P w 0 (fun _ => true) true ts vs ds p → (∀ n ∈ DataW.weightsEach P ts ds, n ≤ reachBytes) → ∃ us, R us ∧ CR w us vs
theorem ArgsV.nil {P : Program} : ArgsV P [] fun us => us = [] := ⟨fun {H enc w base vs ds p} h1 h2 h3 => by
 cases vs with
 | nil => exact ⟨[], rfl, .nil _⟩
 | cons v vs => cases ds <;> simp [DataW.TrodAll] at h2⟩
theorem ArgsV.cons {P : Program} {t : TypeId} {ts : List TypeId} {Q : V → Prop} {R : List V → Prop} (h : ArgV P t Q) (hr : ArgsV P ts R) : ArgsV P (t :: ts) fun us => ∃ u us', us = u :: us' ∧ Q u ∧ R us' := ⟨fun {H enc w base vs ds p} h1 h2 h3 => by
 obtain ⟨v, vs1, d, ds1, a, b, rfl, rfl, rfl, k1, k2⟩ := ChangeShapes.trodAll_cons h2;obtain ⟨u, q1, q2⟩ := h.get (h1 0 t v rfl rfl) k1 (fun n hn => h3 n (by simp only [DataW.weightsEach, List.mem_append]; exact .inl hn))
 obtain ⟨us, q3, q4⟩ := hr.get (fun j t' v' hj hv => h1 (j + 1) t' v' hj hv) k2 (fun n hn => h3 n (by simp only [DataW.weightsEach, List.mem_append]; exact .inr hn))
 exact ⟨u :: us, ⟨u, us, rfl, q1, q3⟩, (CR.one q2).append q4⟩⟩
theorem ArgsV.mono {P : Program} {ts : List TypeId} {R R' : List V → Prop} (h : ArgsV P ts R) (hq : ∀ us, R us → R' us) : ArgsV P ts R' := ⟨fun h1 h2 h3 => by
 obtain ⟨u, k1, k2⟩ := h.get h1 h2 h3;exact ⟨u, hq _ k1, k2⟩⟩
theorem Qge {H : Type} {enc : TypeId × Value → H} {P : Program} {base : Nat} (hl : laidOutB P = true) {W W' : World} {sp' : Nat → Bool} : ∀ {ts : List TypeId} {vs : List Value} {ds : List (DataW H)} {ps : List MemPlace}, (∀ t ∈ ts, P.readableRec t = true ∧ t < P.types.size) →
  DataW.TrodAll enc P W base (fun _ => true) true ts vs ds ps → (∀ p ∈ ps, W.sameAt W' p) → (∀ p ∈ ps, sp' p.block = true) → DataW.TrodAll enc P W' base sp' true ts vs ds ps
 | [], _, _, _, _, h, _, _ => by
  obtain ⟨rfl, rfl, rfl⟩ := ChangeShapes.trodAll_nil h;exact rfl
 | t :: ts, _, _, _, ht, h, h1, h2 => by
  obtain ⟨v, vs1, d, ds1, a, b, rfl, rfl, rfl, k1, k2⟩ := ChangeShapes.trodAll_cons h;exact ⟨a, b, WideElems.Trod_stays hl (ht t (by simp)).1 (ht t (by simp)).2 k1 (fun p hp => h1 p (by simp [hp])) (fun p hp => h2 p (by simp [hp])),
   Qge hl (fun t' ht' => ht t' (by simp [ht'])) k2 (fun p hp => h1 p (by simp [hp])) (fun p hp => h2 p (by simp [hp])), rfl⟩
theorem Qwl {H : Type} {enc : TypeId × Value → H} {P : Program} {f : Func} {s : ChangeSpec} {apart fresh handsOn again : Bool} {W W' : World} {args : Array Value} {v : Value} {ds gs : List (DataW H)} {before pa pv : List MemPlace}
  (hW : DataW.Whole enc P f.params.toList s.vars apart W args.toList ds gs before)
  (hres : ∀ (b : Nat) (sp : Nat → Bool) (hd : Bool), DataW.TrodAll enc P W' b sp hd f.resultTypes.toList (v.resultList f.resultTypes.size) (s.fn H (ds ++ gs)).results [])
  (hargs : ∀ sp : Nat → Bool, (∀ p ∈ before, sp p.block = true) → DataW.TrodAll enc P W' 0 sp true f.params.toList args.toList (s.fn H (ds ++ gs)).args pa)
  (hvars : ∀ sp : Nat → Bool, (∀ p ∈ before, sp p.block = true) → DataW.TrodVars enc P W' sp s.vars (s.fn H (ds ++ gs)).vars pv)
  (hps : before = pa ++ pv) (hk : W.keptBut W' (· ∈ before)) (hfz : ∀ b off, MemPlace.cell b off ∈ before → W'.frozen? ⟨b, off, none⟩ = W.frozen? ⟨b, off, none⟩)
  (hok : ∀ (j : Nat) (t : TypeId) (r : Value), f.resultTypes[j]? = some t → (v.resultList f.resultTypes.size)[j]? = some r → Value.okWide P W' .any 0 t r) :
  s.post enc P f apart fresh handsOn again W args v W' := by
 have hold : ∀ p ∈ before, (fun b => decide (b < W.heap.size)) p.block = true := fun p hp => by simpa using hW.lt p hp
 refine ⟨ds, gs, before, [], pa, pv, hW, hres _ _ _, hargs _ hold, hvars _ hold, World.keptBut_mono (fun p hp => ⟨hp, ?_⟩) hk, fun _ => ?_⟩
 ·rw [hps, List.mem_append] at hp;exact Or.inr hp
 ·obtain ⟨_, _, _, _, _, hz, hn⟩ := hW;refine ⟨hok, _, _, ([] ++ pa) ++ pv, ⟨[] ++ pa, pv, ChangeShapes.trodAll_append (hargs _ (fun _ _ => rfl)) (hres _ _ _), hvars _ (fun _ _ => rfl), rfl, ?_, ?_⟩, ?_⟩
  ·intro b off hp
   have hp' : MemPlace.cell b off ∈ before := by rw [hps]; simpa using hp
   rw [hfz b off hp'];exact hz b off hp'
  ·intro ha
   have := hn ha
   rw [hps] at this;simpa using this
  ·intro p hp _;rw [hps];simpa using hp
end Go.Bv
end
section
namespace Go.Bv
open Go.RowKit
def Shorter (H H2 : Qa) : Prop := H2.length = H.length ∧ ∀ r : Nat, H2[r]? = H[r]? ∨ ∃ (e s : Nat) (cs : List V) (k : Nat), H[r]? = some (some ⟨e, s, cs⟩) ∧ H2[r]? = some (some ⟨e, s, cs.take k⟩)
theorem Shorter.refl (H : Qa) : Shorter H H := ⟨rfl, fun _ => .inl rfl⟩
theorem Shorter.set {H : Qa} {r e s : Nat} {cs : List V} (h : Qd H r = some ⟨e, s, cs⟩) (k : Nat) : Shorter H (H.set r (some ⟨e, s, cs.take k⟩)) := by
 have h1 := Xn h
 refine ⟨by simp, fun q => ?_⟩
 by_cases e1 : r = q
 ·subst e1;exact .inr ⟨e, s, cs, k, h1, by rw [List.getElem?_set_self (Xg h)]⟩
 ·exact .inl (by rw [List.getElem?_set_ne e1])
theorem HR.shorter {im : Nat → Prop} {pl : Nat → Place} {w : World} {H H2 : Qa} (h : HR im pl w H) (hs : Shorter H H2) : HR im pl w H2 := by
 obtain ⟨g1, g2, g3, g4, g5, g6, g7, g8⟩ := h;refine ⟨fun r => by rw [hs.1]; exact g1 r, g2, g3, g4, g5, fun r hr => ?_, fun r hr => ?_, fun r b cap hr => ?_⟩
 ·rcases hs.2 r with e | ⟨e, s, cs, k, e1, e2⟩
  ·rw [e]; exact g6 r hr
  ·rw [g6 r hr] at e1; cases e1
 ·obtain ⟨e, s, h1⟩ := g7 r hr;rcases hs.2 r with e2 | ⟨e', s', cs, k, e1, e2⟩
  ·exact ⟨e, s, by rw [e2]; exact h1⟩
  ·rw [h1] at e1; cases e1;exact ⟨e, s, by rw [e2]; simp⟩
 ·obtain ⟨e, s, cs, cur, q1, q2, q3, q4, q5, q6⟩ := g8 r b cap hr;rcases hs.2 r with e2 | ⟨e', s', cs', k, e1, e2⟩
  ·exact ⟨e, s, cs, cur, by rw [e2]; exact q1, q2, q3, q4, q5, q6⟩
  ·rw [q1] at e1; cases e1;refine ⟨e, s, cs.take k, cur, e2, q2, q3, q4, by rw [List.length_take]; omega, fun j => ?_⟩
   by_cases hj : j < k
   ·rw [Qe6 _ _ _ hj]; exact q6 j
   ·rw [Qaj _ _ (by rw [List.length_take]; omega)]; exact .any _
theorem Fc.trim {C : Ctx} {f : FuncId} {args : List V} {H : Qa} {Q : V → Qa → Prop} (h : Fc C f args H fun v H' => ∃ H2, Shorter H' H2 ∧ Q v H2) : Fc C f args H Q := by
 refine ⟨h.1, fun im pl w vs h1 h2 h3 => (callsIn_wide (n := 0)).1 ((callsIn_wide.2 (h.2 im pl w vs h1 h2 h3)).mono fun e w' hp => ?_)⟩
 cases e with
 | returned v =>
  obtain ⟨v, H', im', pl', ⟨H2, k0, k1⟩, k2, k3, k4⟩ := hp;exact ⟨v, H2, im', pl', k1, k2, k3.shorter k0, k4⟩
 | panicked _ => exact hp
 | outgrown => exact hp
theorem Qhw {y : Ty} {e e' s' m : Nat} {v : V} {H : Qa} {n : Nat} {cs lit : List V} {K : V → Qa → Prop} (h : Own e y.size H v n cs) (hn : lit.length = m * y.size) (hs : lit.all Yr = true) (hy : 0 < y.size) (hb : 0 < y.bytes) (hl : (n + m) * y.bytes ≤ 140737488355328)
  (hc : cs.all Yr = true) (hK : ∀ H', Own e y.size H' (.ref (H.length + 1) 0 (n + m)) (n + m) (cs ++ lit) → Fr v H H' → H'.length = H.length + 2 → K (.ref (H.length + 1) 0 (n + m)) H') : Qan y e v (.ref H.length 0 m) (H ++ [some ⟨e', s', lit⟩]) K := by
 refine Qfq (h.keep _) (news := lit) ?_ hn hs hy hb hl hc fun v' H' h1 h2 h3 h4 => ?_
 ·simp only [Jt, Yd, List.drop_zero];rw [← hn, List.take_length]
 ·obtain ⟨r, rfl⟩ := h4;simp only [List.length_append, List.length_cons, List.length_nil, Nat.zero_add] at h1 h3 ⊢
  have : r = n + m := by
   rcases h1 with ⟨h, _⟩ | ⟨q, h, _⟩
   ·cases h
   ·injection h
  subst this;exact hK H' h1 (fun q row hq hr => h2 q row hq (Qj hr _)) (by omega)
theorem Own.not {e s e' s' : Nat} {H : Qa} {v : V} {n : Nat} {cs cs' : List V} {r : Nat} (h : Own e s H v n cs) (hr : Qd H r = some ⟨e', s', cs'⟩) (hne : e ≠ e') : ∀ off m, v ≠ .ref r off m := by
 rcases h with ⟨rfl, _⟩ | ⟨q, rfl, h2, _⟩
 ·intro off m h; cases h
 ·intro off m h;injection h with h _ _
  subst h;rw [hr] at h2;injection h2 with h2
  injection h2 with h2
  exact hne h2.symm
attribute [go_sem] Option.map_none
def Qnb (ty : TypeId → Ty) (o : Option TypeId) (x : V) (h : Int) (H : Qa) (K : V → Prop) : Prop := match o with
 | none => False
 | some e => (ty e).ok = true ∧ 0 < (ty e).size ∧ 0 ≤ h ∧ (match x with
   | .sl n cs => h ≤ n ∧ K (.sl h.toNat (cs.take (h.toNat * (ty e).size)))
   | .ref r off n => (Qd H r).isSome = true ∧ h ≤ n ∧ (h = 0 → K (.sl 0 [])) ∧ (h ≠ 0 → K (.ref r off h.toNat))
   | .nil => h = 0 ∧ K .nil
   | _ => False)
@[congr] theorem Xg9 {ty : TypeId → Ty} {K : V → Prop} {uu : Prop} (h00 : (True ∧ True) = uu) {o o' : Option TypeId} {x x' : V} {h h' : Int} (H : Qa) (h1 : o = o') (h2 : x = x') (h3 : h = h') : Qnb ty o x h H K = Qnb ty o' x' h' H K := by rw [h1, h2, h3]
@[go_sem] theorem Xj1 (ty : TypeId → Ty) (y : Ty) (x : V) (k : IntKind) (h : Int) (H : Qa) (K : V → Prop) : Xj ty y x none (some (.int k h)) H K = Qnb ty y.sl x h H K := by
 unfold Xj Qnb; cases y.sl <;> rfl
@[go_sem] theorem Xly (ty : TypeId → Ty) (e : TypeId) (n : Nat) (cs : List V) (h : Int) (H : Qa) (K : V → Prop) : Qnb ty (some e) (.sl n cs) h H K = ((ty e).ok = true ∧ 0 < (ty e).size ∧ chk (0 ≤ h ∧ h ≤ n) (K (.sl h.toNat (cs.take (h.toNat * (ty e).size))))) := by simp [Qnb, chk, and_assoc]
@[go_sem] theorem Xkz (ty : TypeId → Ty) (e : TypeId) (h : Int) (H : Qa) (K : V → Prop) : Qnb ty (some e) .nil h H K = ((ty e).ok = true ∧ 0 < (ty e).size ∧ chk (h = 0) (K .nil)) := by
 simp only [Qnb, chk, eq_iff_iff];constructor
 ·rintro ⟨h1, h2, h3, h4, h5⟩; exact ⟨h1, h2, h4, h5⟩
 ·rintro ⟨h1, h2, h4, h5⟩; exact ⟨h1, h2, by omega, h4, h5⟩
theorem Qe0 {ty : TypeId → Ty} {e e' s n : Nat} {v : V} {H : Qa} {cs : List V} {m : Nat} {K : V → Prop} (hv : Own e' s H v n cs) (ho : (ty e).ok = true) (hs : 0 < (ty e).size) (hm : m ≤ n) (h0 : m = 0 → v = .nil → K .nil) (h1 : m = 0 → v ≠ .nil → K (.sl 0 [])) (h2 : ∀ r, 0 < m → v = .ref r 0 n → K (.ref r 0 m)) : Qnb ty (some e) v (m : Nat) H K := by
 rcases hv with ⟨rfl, rfl, rfl⟩ | ⟨r, rfl, h3, h4⟩
 ·obtain rfl : m = 0 := by omega
  exact ⟨ho, hs, by omega, rfl, h0 rfl rfl⟩
 ·refine ⟨ho, hs, by omega, Qkx h3, by omega, fun e => h1 (by omega) (by simp), fun e => ?_⟩
  have := h2 r (by omega) rfl
  rwa [show ((m : Int)).toNat = m from by omega]
def Qv0 (ty : TypeId → Ty) (o : Option TypeId) (x : V) (l : Int) (H : Qa) (K : V → Prop) : Prop := match o with
 | none => False
 | some e => (ty e).ok = true ∧ 0 < (ty e).size ∧ 0 ≤ l ∧ (match x with
   | .sl n cs => l ≤ n ∧ K (.sl (n - l.toNat) (cs.drop (l.toNat * (ty e).size)))
   | .ref r off n => (Qd H r).isSome = true ∧ l ≤ n ∧ (l = n → K (.sl 0 [])) ∧ (l ≠ n → K (.ref r (off + l.toNat * (ty e).size) (n - l.toNat)))
   | .nil => l = 0 ∧ K .nil
   | _ => False)
@[congr] theorem Xg8 {ty : TypeId → Ty} {K : V → Prop} {uu : Prop} (h00 : (True ∧ True) = uu) {o o' : Option TypeId} {x x' : V} {h h' : Int} (H : Qa) (h1 : o = o') (h2 : x = x') (h3 : h = h') : Qv0 ty o x h H K = Qv0 ty o' x' h' H K := by rw [h1, h2, h3]
@[go_sem] theorem Xj0 (ty : TypeId → Ty) (y : Ty) (x : V) (k : IntKind) (h : Int) (H : Qa) (K : V → Prop) : Xj ty y x (some (.int k h)) none H K = Qv0 ty y.sl x h H K := by
 unfold Xj Qv0; cases y.sl <;> rfl
@[go_sem] theorem Xlx (ty : TypeId → Ty) (e : TypeId) (n : Nat) (cs : List V) (h : Int) (H : Qa) (K : V → Prop) : Qv0 ty (some e) (.sl n cs) h H K = ((ty e).ok = true ∧ 0 < (ty e).size ∧ chk (0 ≤ h ∧ h ≤ n) (K (.sl (n - h.toNat) (cs.drop (h.toNat * (ty e).size))))) := by simp [Qv0, chk, and_assoc]
def IsZ (e s : Nat) (H : Qa) (v : V) (n : Nat) (cs : List V) : Prop := (v = .sl 0 [] ∧ n = 0 ∧ cs = []) ∨ Own e s H v n cs
def RetZ (e s : Nat) (H : Qa) (v : V) (n : Nat) (cs : List V) : Prop := (v = .sl 0 [] ∧ n = 0 ∧ cs = [] ∧ H = []) ∨ Ret e s H v n cs
theorem IsZ.isL {e s : Nat} {H : Qa} {v : V} {n : Nat} {cs : List V} (h : IsZ e s H v n cs) : IsL e s H v n cs := by
 rcases h with ⟨rfl, rfl, rfl⟩ | h
 ·exact .inl rfl
 ·exact .inr h
theorem IsZ.ret {e s : Nat} {H : Qa} {v : V} {n : Nat} {cs : List V} (h : IsZ e s H v n cs) (hc : ∀ g, Ql g cs = cs) {Q : V → Qa → Prop} (hQ : ∀ v H, RetZ e s H v n cs → Q v H) : ∃ sel, Qd2 sel Q v H := by
 rcases h with ⟨rfl, rfl, rfl⟩ | h
 ·exact ⟨[], by simp, by simp, hQ _ _ (.inl ⟨rfl, rfl, rfl, rfl⟩)⟩
 ·exact h.ret hc fun v H h => hQ v H (.inr h)
theorem RetZ.retL {e s : Nat} {H : Qa} {v : V} {n : Nat} {cs : List V} (h : RetZ e s H v n cs) : RetL e s H v n cs := by
 rcases h with ⟨rfl, rfl, rfl, rfl⟩ | h
 ·exact .inl ⟨rfl, rfl⟩
 ·exact .inr h
theorem RetZ.plain {e s : Nat} {H : Qa} {v : V} {n : Nat} {cs : List V} (h : RetZ e s H v n cs) (hp : Xk cs = true) : Bv.plain v = true ∧ Ji H := by
 rcases h with ⟨rfl, rfl, rfl, rfl⟩ | h
 ·exact ⟨rfl, fun r row hr => by simp at hr⟩
 ·exact h.plain hp
theorem Fc.byZ {C : Ctx} {f : FuncId} {args args' : List V} {H : Qa} {K : V → Qa → Prop} {e s n : Nat} {cs : List V} (h : Fc C f args' [] fun v H => RetZ e s H v n cs) (hb : BorL H args args') (hc : Qi cs = true) (hp : Xk cs = true) (hK : K (.sl n cs) H) : Fc C f args H K :=
 h.byVal (u := .sl n cs) hb.all.1 hb.all.2 (fun v H' hv => hv.plain hp) (fun im pl w v H c hq hv hH => by
  obtain ⟨im1, pl1, H1, q1, q2, q3, _⟩ := hq.retL.val hc hH;exact ⟨im1, pl1, H1, q1, q2, q3 c hv⟩) (by simpa [clo] using hc) hK
theorem Fc.isZ {C : Ctx} {f : FuncId} {args args' : List V} {H : Qa} {K : V → Qa → Prop} {e s n : Nat} {cs : List V} (h : Fc C f args' [] fun v H => RetZ e s H v n cs) (hb : BorL H args args') (hc : ∀ g, Ql g cs = cs) (hp : Xk cs = true) (hK : ∀ v X, IsZ e s (H ++ X) v n cs → K v (H ++ X)) : Fc C f args H K :=
 h.borrow hb.all.1 hb.all.2 (fun v H' hv => hv.plain hp) fun v H' hv => by
  rcases hv with ⟨rfl, rfl, rfl, rfl⟩ | hv
  ·exact hK _ _ (.inl ⟨rfl, rfl, rfl⟩)
  ·exact hK _ _ (.inr (hv.own hc))
theorem Pc.isZ {C : Ctx} {H0 : Qa} {f : FuncId} {args args' : List V} {H : Qa} {K : V → Qa → Prop} {e s n : Nat} {cs : List V} (h : Fc C f args' [] fun v H => RetZ e s H v n cs) (hb : BorL H args args') (hl : cs.length = n * s) (hc : ∀ g, Ql g cs = cs) (hp : Xk cs = true) (hK : ∀ v X, IsZ e s (H ++ X) v n cs → K v (H ++ X)) : Pc C H0 f args H K :=
 Pc.borrow h (by obtain ⟨v, H, hv⟩ := Ret.some (e := e) hl; exact ⟨v, H, .inr hv⟩) hb.all.1 hb.all.2 (fun v H' hv => hv.plain hp) fun v H' hv => by
  rcases hv with ⟨rfl, rfl, rfl, rfl⟩ | hv
  ·exact hK _ _ (.inl ⟨rfl, rfl, rfl⟩)
  ·exact hK _ _ (.inr (hv.own hc))
def Qxs (o : Option (Nat × TypeId)) (q : Bool) (s : ByteArray) (i : Int) (K : V → Prop) : Prop := match o with
 | none => q = true ∧ 0 ≤ i ∧ i.toNat < s.size ∧ K (.int .u8 ((s[i.toNat]?.getD 0).toNat : Int))
 | some _ => False
@[congr] theorem Xiw {K : V → Prop} {uu : Prop} (h00 : (True ∧ True) = uu) {o o' : Option (Nat × TypeId)} {q q' : Bool} {i i' : Int} (s : ByteArray) (h1 : o = o') (h2 : q = q') (h3 : i = i') : Qxs o q s i K = Qxs o' q' s i' K := by rw [h1, h2, h3]
@[go_sem] theorem Qsz (ty : TypeId → Ty) (y : Ty) (s : ByteArray) (k : IntKind) (i : Int) (K : V → Prop) : Kd ty y (.str s) (.int k i) K = Qxs y.arr y.str s i K := by
 unfold Kd Qxs; cases y.arr <;> rfl
@[go_sem] theorem Xkh (s : ByteArray) (i : Int) (K : V → Prop) : Qxs none true s i K = chk (0 ≤ i ∧ i.toNat < s.size) (K (.int .u8 ((s[i.toNat]?.getD 0).toNat : Int))) := by simp [Qxs, chk, and_assoc]
theorem Fc.bySeal {C : Ctx} {f : FuncId} {args args' : List V} {H : Qa} {Q K : V → Qa → Prop} {u : V} (h : Fc C f args' [] Q) (hb : BorL H args args') (hp : ∀ v H', Q v H' → plain v = true ∧ Ji H') (hs : ∀ v H', Q v H' → ∃ r e s cs, Qd H' r = some ⟨e, s, cs⟩ ∧ Qi cs = true ∧ sz r cs v = u) (hu : clo u = true) (hK : K u H) : Fc C f args H K :=
 h.byVal hb.all.1 hb.all.2 hp (fun im pl w v H c hq hv hH => by
  obtain ⟨r, e, s, cs, h1, h2, h3⟩ := hs _ _ hq;obtain ⟨im1, k1, k2, _, k3⟩ := Qds hH h1 h2;exact ⟨im1, _, _, k1, k2, h3 ▸ k3 _ _ hv⟩) hu hK
def Xce (o : Option TypeId) (ty : TypeId → Ty) (d x : V) (H : Qa) (K : V → Qa → Prop) : Prop := match o with
 | some e => (ty e).ok = true ∧ Qht (ty e) d x H K
 | none => False
@[congr] theorem Xjd {ty : TypeId → Ty} {K : V → Qa → Prop} {uu : Prop} (h00 : (True ∧ True) = uu) {o o' : Option TypeId} {d d' x x' : V} {H H' : Qa} (h1 : o = o') (h2 : d = d') (h3 : x = x') (h4 : H = H') : Xce o ty d x H K = Xce o' ty d' x' H' K := by rw [h1, h2, h3, h4]
@[congr] theorem Xgu {K : V → Qa → Prop} {uu : Prop} (h00 : (True ∧ True) = uu) (y : Ty) {d d' x x' : V} {H H' : Qa} (h2 : d = d') (h3 : x = x') (h4 : H = H') : Qht y d x H K = Qht y d' x' H' K := by rw [h2, h3, h4]
@[go_sem] theorem Xdh (ty : TypeId → Ty) (t t' : TypeId) (d x : V) (H : Qa) (K : V → Qa → Prop) : Qn ty .copy [t, t'] [d, x] H K = ((ty t).ok = true ∧ Xce (ty t).sl ty d x H K) := by
 simp only [Qn, Xce]; cases (ty t).sl <;> rfl
@[go_sem] theorem Xkn (e : TypeId) (ty : TypeId → Ty) (d x : V) (H : Qa) (K : V → Qa → Prop) : Xce (some e) ty d x H K = ((ty e).ok = true ∧ Qht (ty e) d x H K) := rfl
theorem Xcd {y : Ty} {r off n m : Nat} {e s : Nat} {cs news : List V} {H : Qa} {K : V → Qa → Prop} (hr : Qd H r = some ⟨e, s, cs⟩) (hl : news.length = m) (hs : news.all Yr = true) (hy : y.size = 1) (hm : 0 < m) (hmn : m ≤ n) (hf : off + m ≤ cs.length)
  (hK : K (.int .i64 (m : Nat)) (H.set r (some ⟨e, s, Qbv cs off news⟩))) : Qht y (.ref r off n) (.sl m news) H K := by
 simp only [Qht, Jt, hr];exact ⟨by rw [hy, Nat.mul_one]; exact hl, hs, hy, hm, hmn, hf, hK⟩
def Qrs (ty : TypeId → Ty) (o : Option TypeId) (x : V) (l h : Int) (H : Qa) (K : V → Prop) : Prop := match o with
 | none => False
 | some e => (ty e).ok = true ∧ 0 < (ty e).size ∧ 0 ≤ l ∧ l ≤ h ∧ (match x with
   | .sl n cs => h ≤ n ∧ K (.sl (h.toNat - l.toNat) ((cs.drop (l.toNat * (ty e).size)).take ((h.toNat - l.toNat) * (ty e).size)))
   | .ref r off n => (Qd H r).isSome = true ∧ h ≤ n ∧ (l = h → K (.sl 0 [])) ∧ (l ≠ h → K (.ref r (off + l.toNat * (ty e).size) (h.toNat - l.toNat)))
   | .nil => h = 0 ∧ K .nil
   | _ => False)
@[congr] theorem Xha {ty : TypeId → Ty} {K : V → Prop} {uu : Prop} (h00 : (True ∧ True) = uu) {o o' : Option TypeId} {x x' : V} {l l' h h' : Int} (H : Qa) (h1 : o = o') (h2 : x = x') (h3 : l = l') (h4 : h = h') : Qrs ty o x l h H K = Qrs ty o' x' l' h' H K := by rw [h1, h2, h3, h4]
@[go_sem] theorem Xgj (ty : TypeId → Ty) (y : Ty) (x : V) (k k' : IntKind) (l h : Int) (H : Qa) (K : V → Prop) : Xj ty y x (some (.int k l)) (some (.int k' h)) H K = Qrs ty y.sl x l h H K := by
 unfold Xj Qrs; cases y.sl <;> rfl
@[go_sem] theorem Xlz (ty : TypeId → Ty) (e : TypeId) (n : Nat) (cs : List V) (l h : Int) (H : Qa) (K : V → Prop) : Qrs ty (some e) (.sl n cs) l h H K = ((ty e).ok = true ∧ 0 < (ty e).size ∧ chk (0 ≤ l ∧ l ≤ h ∧ h ≤ n) (K (.sl (h.toNat - l.toNat) ((cs.drop (l.toNat * (ty e).size)).take ((h.toNat - l.toNat) * (ty e).size))))) := by simp [Qrs, chk, and_assoc]
theorem Qy6 {ty : TypeId → Ty} {e r off n : Nat} {H : Qa} {row : Row} {K : V → Prop} {l h : Nat} (hr : Qd H r = some row) (ho : (ty e).ok = true) (hs : (ty e).size = 1) (hl : l < h) (hh : h ≤ n) (hK : K (.ref r (off + l) (h - l))) : Qrs ty (some e) (.ref r off n) (l : Nat) (h : Nat) H K := by
 refine ⟨ho, by omega, by omega, by omega, Qkx hr, by omega, fun e => by omega, fun _ => ?_⟩
 rw [hs, Nat.mul_one, Int.toNat_natCast, Int.toNat_natCast]; exact hK
end Go.Bv
end
section
namespace Go.Bv
open Go.RowKit
inductive Gd (H : Qa) : V → V → Prop
 | leaf (v : V) (hc : clo v = true) (hp : plain v = true) : Gd H v v
 | nil (cs : List V) : Gd H .nil (.sl 0 cs)
 | ref (r n : Nat) (row : Row) (cs : List V) (hr : Qd H r = some row) (hp : Xk row.cs = true) (hl : cs.length ≤ row.cs.length) (h : ∀ j, j < cs.length → Gd H (nth row.cs j) (nth cs j)) : Gd H (.ref r 0 n) (.sl n cs)
 | agg (l m : List V) (hl : l.length = m.length) (h : ∀ j, Gd H (nth l j) (nth m j)) : Gd H (.agg l) (.agg m)
 | tup (l m : List V) (hl : l.length = m.length) (h : ∀ j, Gd H (nth l j) (nth m j)) : Gd H (.tup l) (.tup m)
theorem Gd.flat {H : Qa} (r n e s : Nat) (cs : List V) (hr : Qd H r = some ⟨e, s, cs⟩) (hc : Qi cs = true) (hp : Xk cs = true) : Gd H (.ref r 0 n) (.sl n cs) :=
 .ref r n _ cs hr hp (Nat.le_refl _) fun j _ => .leaf _ (Zi hc j) (Jh hp j)
theorem Gd.part {H : Qa} (r n e s m : Nat) (cs : List V) (hr : Qd H r = some ⟨e, s, cs⟩) (hc : Qi cs = true) (hp : Xk cs = true) : Gd H (.ref r 0 n) (.sl n (cs.take m)) :=
 .ref r n _ _ hr hp (by rw [List.length_take]; exact Nat.min_le_right _ _) fun j hj => by
  rw [List.length_take] at hj;rw [Qe6 _ _ _ (by omega)]
  exact .leaf _ (Zi hc j) (Jh hp j)
theorem Gd.any (H : Qa) : Gd H .any .any := .leaf _ rfl rfl
def GdL (H : Qa) : List V → List V → Prop
 | [], [] => True
 | a :: l, b :: m => Gd H a b ∧ GdL H l m
 | _, _ => False
theorem GdL.all {H : Qa} : ∀ {l m : List V}, GdL H l m → l.length = m.length ∧ ∀ j, Gd H (nth l j) (nth m j)
 | [], [], _ => ⟨rfl, fun j => by simp [nth]; exact .any H⟩
 | a :: l, b :: m, h => by
  obtain ⟨h1, h2⟩ := GdL.all h.2;refine ⟨by simp [h1], fun j => ?_⟩
  cases j with
  | zero => exact h.1
  | succ j => exact h2 j
 | [], _ :: _, h => h.elim
 | _ :: _, [], h => h.elim
theorem Gd.tupL {H : Qa} {l m : List V} (h : GdL H l m) : Gd H (.tup l) (.tup m) := .tup _ _ h.all.1 h.all.2
theorem Gd.aggL {H : Qa} {l m : List V} (h : GdL H l m) : Gd H (.agg l) (.agg m) := .agg _ _ h.all.1 h.all.2
theorem Qkb {l : List V} (h : ∀ j, plain (nth l j) = true) : Xk l = true := by
 induction l with
 | nil => rfl
 | cons a l ih => simp only [Xk, Bool.and_eq_true]; exact ⟨h 0, ih fun j => h (j + 1)⟩
theorem Gd.plain {H : Qa} {v u : V} (h : Gd H v u) : Bv.plain v = true := by
 induction h with
 | leaf v hc hp => exact hp
 | nil => rfl
 | ref => rfl
 | agg l m hl h ih => simp only [Bv.plain]; exact Qkb ih
 | tup l m hl h ih => simp only [Bv.plain]; exact Qkb ih
theorem Qmy {im : Nat → Prop} {pl : Nat → Place} {w : World} {v : V} {c : Value} (h : VR im Kh w v c) : VR im pl w v c := h.places fun r hr => (hr rfl).elim
theorem Gd.bor {H : Qa} {v u : V} (h : Gd H v u) : Bor H v u := by
 induction h with
 | leaf v hc hp => exact .clo v hc
 | nil cs => exact .nil cs
 | ref r n row cs hr hp hl h ih => exact .ref r 0 n row cs hr (by omega) fun j hj => by rw [Nat.zero_add]; exact ih j hj
 | agg l m hl h ih => exact .agg l m hl ih
 | tup l m hl h ih => exact .tup l m hl ih
theorem Gd.VR {im : Nat → Prop} {pl : Nat → Place} {w : World} {H : Qa} (hH : HR im pl w H) {v u : V} (h : Gd H v u) {c : Value} (hv : Bv.VR im pl w v c) : Bv.VR (Qq8 im pl) Kh w u c := h.bor.VR hH hv
def Qjg (pl : Nat → Place) : Nat → Place := fun r => match pl r with
 | .no => .no
 | _ => .dead
theorem Qqh {pl : Nat → Place} {r : Nat} : Qjg pl r = .no ↔ pl r = .no := by unfold Qjg; cases pl r <;> simp
theorem Qfo {pl : Nat → Place} {r b c : Nat} : Qjg pl r ≠ .at b c := by unfold Qjg; cases pl r <;> simp
theorem HR.allDead {im : Nat → Prop} {pl : Nat → Place} {w : World} {H : Qa} (h : HR im pl w H) : HR (Qq8 im pl) (Qjg pl) w (H.map fun _ => (Option.none : Option Row)) ∧ Ext im pl w (Qq8 im pl) (Qjg pl) w := by
 refine ⟨⟨fun r => ?_, fun b _ r c => Qfo, fun r b c hr => (Qfo hr).elim, fun b hb => ?_, fun r r' b c c' hr => (Qfo hr).elim, fun r hr => ?_, fun r hr => ?_, fun r b c hr => (Qfo hr).elim⟩, ⟨rfl, rfl, rfl, Nat.le_refl _, fun b hb => .inl hb, fun b hb => ?_, fun r hr => ?_, fun r b c hr => (Qfo hr).elim, fun _ _ _ => rfl⟩⟩
 ·rw [List.length_map, h.len r, ne_eq, ne_eq, Qqh]
 ·rcases hb with hb | ⟨r, cap, hb⟩
  ·exact h.imb b hb
  ·exact h.bound r b cap hb
 ·have hlt : r < H.length := (h.len r).2 fun e => by rw [Qqh.2 e] at hr; cases hr
  simp [hlt]
 ·unfold Qjg at hr; cases hp : pl r <;> rw [hp] at hr <;> cases hr
 ·rcases hb with hb | ⟨r, cap, hb⟩
  ·exact .inl hb
  ·exact .inr (.inr ⟨r, cap, hb⟩)
 ·right; unfold Qjg; cases hp : pl r <;> simp_all
def Val (C : Ctx) (f : FuncId) (args : List V) (u : V) : Prop := Fc C f args [] fun v H => Gd H v u ∧ Ji H
theorem Gd.up {im : Nat → Prop} {pl : Nat → Place} {w : World} {H : Qa} {v u : V} {c : Value} (hu : clo u = true) (hv : Gd H v u) (h : Bv.VR im pl w v c) (hH : HR im pl w H) : ∃ im1 pl1 H1, HR im1 pl1 w H1 ∧ Ext im pl w im1 pl1 w ∧ Bv.VR im1 pl1 w u c :=
 ⟨_, _, _, hH.allDead.1, hH.allDead.2, Qmy (hv.VR hH h)⟩
theorem Val.call {C : Ctx} {f : FuncId} {args args' : List V} {H : Qa} {K : V → Qa → Prop} {u : V} (h : Val C f args' u) (hb : BorL H args args') (hu : clo u = true) (hK : K u H) : Fc C f args H K :=
 Fc.byVal h hb.all.1 hb.all.2 (fun v H' hv => ⟨hv.1.plain, hv.2⟩) (fun im pl w v H c hq hv hH => hq.1.up hu hv hH) hu hK
theorem Val.pc {C : Ctx} {H0 : Qa} {f : FuncId} {args args' : List V} {H : Qa} {K : V → Qa → Prop} {u : V} (h : Val C f args' u) (hb : BorL H args args') (hu : clo u = true) (hK : K u H) : Pc C H0 f args H K :=
 Pc.byVal (h.call hb hu ⟨rfl, rfl⟩) hK
theorem Val.ofPu {C : Ctx} {f : FuncId} {args : List V} {u : V} (h : Pu C f args u) (hc : clo u = true) (hp : plain u = true) : Val C f args u :=
 h.mono fun v H hv => by obtain ⟨rfl, rfl⟩ := hv; exact ⟨.leaf _ hc hp, fun r row hr => by simp at hr⟩
theorem Val.ofZ {C : Ctx} {f : FuncId} {args : List V} {e s n : Nat} {cs : List V} (h : Fc C f args [] fun v H => RetZ e s H v n cs) (hc : Qi cs = true) (hp : Xk cs = true) : Val C f args (.sl n cs) :=
 h.mono fun v H hv => by
  have hpl := (hv.plain hp).2
  refine ⟨?_, hpl⟩;rcases hv with ⟨rfl, rfl, rfl, rfl⟩ | ⟨rfl, rfl, rfl, rfl⟩ | ⟨rfl, rfl, hl⟩
  ·exact .leaf _ rfl rfl
  ·exact .nil _
  ·exact .flat 0 n e s cs rfl hc hp
def Xbt (H : Qa) (r : Nat) : Bool := match Qd H r with
 | some row => Xk row.cs
 | none => false
def Qfk (H : Qa) : List Nat := (List.range H.length).filter (Xbt H)
mutual
theorem Qwm (g : Nat → Option Nat) : ∀ v : V, plain v = true → plain (ren g v) = true
 | .any, _ => rfl
 | .int _ _, _ => rfl
 | .bool _, _ => rfl
 | .str _, _ => rfl
 | .nil, _ => rfl
 | .sl n cs, h => by simpa [ren, plain] using h
 | .ref r off n, _ => by simp only [ren]; split <;> rfl
 | .agg cs, h => by simp only [plain] at h; simp only [ren, plain]; exact Js g cs h
 | .tup cs, h => by simp only [plain] at h; simp only [ren, plain]; exact Js g cs h
 | .ptr r off, _ => by simp only [ren]; split <;> rfl
 | .nilp, _ => rfl
 | .rp cs off, h => by simp [plain] at h
 | .fn f xs ys, h => by simp only [plain, Bool.and_eq_true] at h; simp only [ren, plain, Bool.and_eq_true]; exact ⟨Js g xs h.1, Js g ys h.2⟩
 | .nilf, _ => rfl
theorem Js (g : Nat → Option Nat) : ∀ l : List V, Xk l = true → Xk (Ql g l) = true
 | [], _ => rfl
 | v :: l, h => by simp only [Xk, Bool.and_eq_true] at h; simp only [Ql, Xk, Bool.and_eq_true]; exact ⟨Qwm g v h.1, Js g l h.2⟩
end
theorem Xeb {l : List Nat} {r : Nat} (h : r ∈ l) : ∃ i, pos l r = some i := by
 induction l with
 | nil => cases h
 | cons a l ih =>
  by_cases e : a = r
  ·exact ⟨0, by simp [pos, e]⟩
  ·rcases List.mem_cons.1 h with h | h
   ·exact (e h.symm).elim
   ·obtain ⟨i, hi⟩ := ih h;exact ⟨i + 1, by simp [pos, e, hi]⟩
theorem Qau (g : Nat → Option Nat) (l : List V) : (Ql g l).length = l.length := by rw [Qg7, List.length_map]
theorem Qxt {H : Qa} {r : Nat} {row : Row} (hr : Qd H r = some row) (hp : Xk row.cs = true) : r ∈ Qfk H := by
 simp only [Qfk, List.mem_filter, List.mem_range];exact ⟨Xg hr, by simp [Xbt, hr, hp]⟩
theorem Gd.keep {H : Qa} {v u : V} (h : Gd H v u) : Gd (Qdg (Qfk H) H) (ren (pos (Qfk H)) v) u := by
 induction h with
 | leaf v hc hp => rw [Ym _ v hc]; exact .leaf v hc hp
 | nil cs => exact .nil cs
 | ref r n row cs hr hp hl h ih =>
  obtain ⟨i, hi⟩ := Xeb (Qxt hr hp)
  have hg := Qka hi
  have : Qd (Qdg (Qfk H) H) i = some (Kb (pos (Qfk H)) row) := by
   simp [Qd, Qdg, hg]
   have h1 := Xn hr
   rw [h1];simp
  simp only [ren, hi];exact .ref i n _ cs this (Js _ _ hp) (by simpa [Kb, Qau] using hl) fun j hj => by
   simp only [Kb, Yx]; exact ih j hj
 | agg l m hl h ih => simp only [ren]; exact .agg _ _ (by rw [Qau]; exact hl) fun j => by rw [Yx]; exact ih j
 | tup l m hl h ih => simp only [ren]; exact .tup _ _ (by rw [Qau]; exact hl) fun j => by rw [Yx]; exact ih j
theorem Qqb (H : Qa) : Ji (Qdg (Qfk H) H) := by
 intro i row hr;simp only [Qdg, List.getElem?_map, Option.map_eq_some_iff] at hr;obtain ⟨r, hr1, hr2⟩ := hr
 have hm : r ∈ Qfk H := List.mem_of_getElem? hr1
 simp only [Qfk, List.mem_filter, Xbt] at hm;obtain ⟨row0, h0, rfl⟩ := hr2;rw [h0] at hm;simp only [Kb];exact Js _ _ hm.2
theorem Gd.ret {H : Qa} {v u : V} (h : Gd H v u) : ∃ sel, Qd2 sel (fun v H => Gd H v u ∧ Ji H) v H := by
 refine ⟨Qfk H, List.nodup_range.filter _, fun r hr => ?_, h.keep, Qqb H⟩
 simp only [Qfk, List.mem_filter, List.mem_range] at hr;exact hr.1
theorem IsZ.gd {e s : Nat} {H : Qa} {v : V} {n : Nat} {cs : List V} (h : IsZ e s H v n cs) (hc : Qi cs = true) (hp : Xk cs = true) : Gd H v (.sl n cs) := by
 rcases h with ⟨rfl, rfl, rfl⟩ | ⟨rfl, rfl, rfl⟩ | ⟨r, rfl, h2, _⟩
 ·exact .leaf _ rfl rfl
 ·exact .nil _
 ·exact .flat r n e s cs h2 hc hp
theorem Gd.shift {H H' : Qa} {v u : V} (h : Gd H' v u) : Gd (H ++ Qbu (shift H.length) H') (ren (shift H.length) v) u := by
 induction h with
 | leaf v hc hp => rw [Ym _ v hc]; exact .leaf v hc hp
 | nil cs => exact .nil cs
 | ref r n row cs hr hp hl h ih =>
  have := Qh6 (H := H) (Bv.shift H.length) hr
  exact .ref (r + H.length) n _ cs this (Js _ _ hp) (by simpa [Kb, Qau] using hl) fun j hj => by
   simp only [Kb, Yx]; exact ih j hj
 | agg l m hl h ih => simp only [ren]; exact .agg _ _ (by rw [Qau]; exact hl) fun j => by rw [Yx]; exact ih j
 | tup l m hl h ih => simp only [ren]; exact .tup _ _ (by rw [Qau]; exact hl) fun j => by rw [Yx]; exact ih j
theorem Val.kept {C : Ctx} {f : FuncId} {args args' : List V} {H : Qa} {K : V → Qa → Prop} {u : V} (h : Val C f args' u) (hb : BorL H args args') (hK : ∀ v X, Gd (H ++ X) v u → K v (H ++ X)) : Fc C f args H K :=
 Fc.borrow h hb.all.1 hb.all.2 (fun v H' hv => ⟨hv.1.plain, hv.2⟩) fun v H' hv => hK _ _ hv.1.shift
theorem Gd.tup_inv {H : Qa} {v : V} {m : List V} (h : Gd H v (.tup m)) : ∃ l, v = .tup l ∧ l.length = m.length ∧ ∀ j, Gd H (nth l j) (nth m j) := by
 cases h with
 | leaf _ hc hp =>
  simp only [clo] at hc;simp only [Bv.plain] at hp;exact ⟨m, rfl, rfl, fun j => .leaf _ (Zi hc j) (Jh hp j)⟩
 | tup l _ hl h => exact ⟨l, rfl, hl, h⟩
theorem Gd.tup3 {H : Qa} {v a b c : V} (h : Gd H v (.tup [a, b, c])) : ∃ x y z, v = .tup [x, y, z] ∧ Gd H x a ∧ Gd H y b ∧ Gd H z c := by
 obtain ⟨l, rfl, hl, h⟩ := h.tup_inv
 match l, hl with
 | [x, y, z], _ => exact ⟨x, y, z, rfl, h 0, h 1, h 2⟩
theorem Gd.tup2 {H : Qa} {v a b : V} (h : Gd H v (.tup [a, b])) : ∃ x y, v = .tup [x, y] ∧ Gd H x a ∧ Gd H y b := by
 obtain ⟨l, rfl, hl, h⟩ := h.tup_inv
 match l, hl with
 | [x, y], _ => exact ⟨x, y, rfl, h 0, h 1⟩
theorem Gd.bool_inv {H : Qa} {v : V} {b : Bool} (h : Gd H v (.bool b)) : v = .bool b := by cases h; rfl
theorem Gd.int_inv {H : Qa} {v : V} {k : IntKind} {n : Int} (h : Gd H v (.int k n)) : v = .int k n := by cases h; rfl
theorem Gd.more {H : Qa} {v u : V} (h : Gd H v u) {H' : Qa} (hk : Keep H H') : Gd H' v u := by
 induction h with
 | leaf v hc hp => exact .leaf v hc hp
 | nil cs => exact .nil cs
 | ref r n row cs hr hp hl h ih => exact .ref r n row cs (hk _ _ hr) hp hl ih
 | agg l m hl h ih => exact .agg l m hl ih
 | tup l m hl h ih => exact .tup l m hl ih
theorem Pc.kept {C : Ctx} {H0 : Qa} {f : FuncId} {args args' : List V} {H : Qa} {K : V → Qa → Prop} {u : V} (h : Val C f args' u) (hs : ∃ v H, Gd H v u ∧ Ji H) (hb : BorL H args args') (hK : ∀ v X, Gd (H ++ X) v u → K v (H ++ X)) : Pc C H0 f args H K :=
 Pc.borrow h hs hb.all.1 hb.all.2 (fun v H' hv => ⟨hv.1.plain, hv.2⟩) fun v H' hv => hK _ _ hv.1.shift
theorem Gd.some_sl {n : Nat} {cs : List V} (hc : Qi cs = true) (hp : Xk cs = true) : ∃ v H, Gd H v (.sl n cs) ∧ Ji H :=
 ⟨.ref 0 0 n, [some ⟨0, 1, cs⟩], .flat 0 n 0 1 cs rfl hc hp, fun r row hr => by
  cases r with
  | zero => simp at hr; subst hr; exact hp
  | succ r => simp at hr⟩
def GdF (n : Nat) (H : Qa) (v u : V) : Prop := ∀ H2 : Qa, (∀ r row, n ≤ r → Qd H r = some row → Qd H2 r = some row) → Gd H2 v u
theorem GdF.gd {n : Nat} {H : Qa} {v u : V} (h : GdF n H v u) : Gd H v u := h H fun _ _ _ hr => hr
theorem GdF.bor {n : Nat} {H : Qa} {v u : V} (h : GdF n H v u) : Bor H v u := h.gd.bor
theorem GdF.far {n : Nat} {H H' : Qa} {v u : V} (h : GdF n H v u) (hk : ∀ r row, n ≤ r → Qd H r = some row → Qd H' r = some row) : GdF n H' v u := fun H2 h2 => h H2 fun r row hn hr => h2 r row hn (hk r row hn hr)
theorem GdF.app {n : Nat} {H : Qa} {v u : V} (h : GdF n H v u) (X : Qa) : GdF n (H ++ X) v u := h.far fun r row _ hr => Qj hr _
theorem GdF.set {n : Nat} {H : Qa} {v u : V} (h : GdF n H v u) {q : Nat} (hq : q < n) (z : Option Row) : GdF n (H.set q z) v u := h.far fun r row hn hr => by rw [Qh _ (by omega)]; exact hr
theorem GdF.of {H : Qa} {v u : V} (h : Gd H v u) : GdF 0 H v u := fun H2 h2 => h.more fun r row hr => h2 r row (Nat.zero_le _) hr
theorem GdF.self {n : Nat} {H : Qa} {v : V} (hc : clo v = true) (hp : plain v = true) : GdF n H v v := fun H2 h2 => .leaf v hc hp
theorem Gd.shiftF {H H' : Qa} {v u : V} (h : Gd H' v u) : GdF H.length (H ++ Qbu (Bv.shift H.length) H') (ren (Bv.shift H.length) v) u := by
 induction h with
 | leaf v hc hp => intro H2 h2; rw [Ym _ v hc]; exact .leaf v hc hp
 | nil cs => intro H2 h2; exact .nil cs
 | ref r n row cs hr hp hl h ih =>
  intro H2 h2
  have := Qh6 (H := H) (Bv.shift H.length) hr
  exact .ref (r + H.length) n _ cs (h2 _ _ (Nat.le_add_left _ _) this) (Js _ _ hp) (by simpa [Kb, Qau] using hl) fun j hj => by
   simp only [Kb, Yx]; exact ih j hj H2 h2
 | agg l m hl h ih => intro H2 h2; simp only [ren]; exact .agg _ _ (by rw [Qau]; exact hl) fun j => by rw [Yx]; exact ih j H2 h2
 | tup l m hl h ih => intro H2 h2; simp only [ren]; exact .tup _ _ (by rw [Qau]; exact hl) fun j => by rw [Yx]; exact ih j H2 h2
theorem Val.keptF {C : Ctx} {f : FuncId} {args args' : List V} {H : Qa} {K : V → Qa → Prop} {u : V} (h : Val C f args' u) (hb : BorL H args args') (hK : ∀ v X, GdF H.length (H ++ X) v u → K v (H ++ X)) : Fc C f args H K :=
 Fc.borrow h hb.all.1 hb.all.2 (fun v H' hv => ⟨hv.1.plain, hv.2⟩) fun v H' hv => hK _ _ hv.1.shiftF
theorem Pc.keptF {C : Ctx} {H0 : Qa} {f : FuncId} {args args' : List V} {H : Qa} {K : V → Qa → Prop} {u : V} (h : Val C f args' u) (hs : ∃ v H, Gd H v u ∧ Ji H) (hb : BorL H args args') (hK : ∀ v X, GdF H.length (H ++ X) v u → K v (H ++ X)) : Pc C H0 f args H K :=
 Pc.borrow h hs hb.all.1 hb.all.2 (fun v H' hv => ⟨hv.1.plain, hv.2⟩) fun v H' hv => hK _ _ hv.1.shiftF
theorem GdF.tup2 {n : Nat} {H : Qa} {v a b : V} (h : GdF n H v (.tup [a, b])) : ∃ x y, v = .tup [x, y] ∧ GdF n H x a ∧ GdF n H y b := by
 obtain ⟨x, y, rfl, _, _⟩ := h.gd.tup2;refine ⟨x, y, rfl, fun H2 h2 => ?_, fun H2 h2 => ?_⟩
 ·obtain ⟨x', y', e, h3, h4⟩ := (h H2 h2).tup2;injection e with e; injection e with e1 e2; rw [e1]; exact h3
 ·obtain ⟨x', y', e, h3, h4⟩ := (h H2 h2).tup2;injection e with e; injection e with e1 e2; injection e2 with e2; rw [e2]; exact h4
theorem GdF.tup3 {n : Nat} {H : Qa} {v a b c : V} (h : GdF n H v (.tup [a, b, c])) : ∃ x y z, v = .tup [x, y, z] ∧ GdF n H x a ∧ GdF n H y b ∧ GdF n H z c := by
 obtain ⟨x, y, z, rfl, _, _, _⟩ := h.gd.tup3;refine ⟨x, y, z, rfl, fun H2 h2 => ?_, fun H2 h2 => ?_, fun H2 h2 => ?_⟩
 all_goals
  obtain ⟨x', y', z', e, h3, h4, h5⟩ := (h H2 h2).tup3;injection e with e
  injection e with e1 e2
  injection e2 with e2 e3
  injection e3 with e3 e4
  subst e1 e2 e3
  assumption
theorem Gd.agg_inv {H : Qa} {v : V} {m : List V} (h : Gd H v (.agg m)) : ∃ l, v = .agg l ∧ l.length = m.length ∧ ∀ j, Gd H (nth l j) (nth m j) := by
 cases h with
 | leaf _ hc hp =>
  simp only [clo] at hc;simp only [Bv.plain] at hp;exact ⟨m, rfl, rfl, fun j => .leaf _ (Zi hc j) (Jh hp j)⟩
 | agg l _ hl h => exact ⟨l, rfl, hl, h⟩
theorem Gd.agg3 {H : Qa} {v a b c : V} (h : Gd H v (.agg [a, b, c])) : ∃ x y z, v = .agg [x, y, z] ∧ Gd H x a ∧ Gd H y b ∧ Gd H z c := by
 obtain ⟨l, rfl, hl, h⟩ := h.agg_inv
 match l, hl with
 | [x, y, z], _ => exact ⟨x, y, z, rfl, h 0, h 1, h 2⟩
theorem Gd.agg2 {H : Qa} {v a b : V} (h : Gd H v (.agg [a, b])) : ∃ x y, v = .agg [x, y] ∧ Gd H x a ∧ Gd H y b := by
 obtain ⟨l, rfl, hl, h⟩ := h.agg_inv
 match l, hl with
 | [x, y], _ => exact ⟨x, y, rfl, h 0, h 1⟩
theorem GdF.agg3 {n : Nat} {H : Qa} {v a b c : V} (h : GdF n H v (.agg [a, b, c])) : ∃ x y z, v = .agg [x, y, z] ∧ GdF n H x a ∧ GdF n H y b ∧ GdF n H z c := by
 obtain ⟨x, y, z, rfl, _, _, _⟩ := h.gd.agg3;refine ⟨x, y, z, rfl, fun H2 h2 => ?_, fun H2 h2 => ?_, fun H2 h2 => ?_⟩
 all_goals
  obtain ⟨x', y', z', e, h3, h4, h5⟩ := (h H2 h2).agg3;injection e with e
  injection e with e1 e2
  injection e2 with e2 e3
  injection e3 with e3 e4
  subst e1 e2 e3
  assumption
theorem GdF.agg2 {n : Nat} {H : Qa} {v a b : V} (h : GdF n H v (.agg [a, b])) : ∃ x y, v = .agg [x, y] ∧ GdF n H x a ∧ GdF n H y b := by
 obtain ⟨x, y, rfl, _, _⟩ := h.gd.agg2;refine ⟨x, y, rfl, fun H2 h2 => ?_, fun H2 h2 => ?_⟩
 all_goals
  obtain ⟨x', y', e, h3, h4⟩ := (h H2 h2).agg2;injection e with e
  injection e with e1 e2
  injection e2 with e2 e3
  subst e1 e2
  assumption
def Cel (b e s : Nat) (H : Qa) (v : V) (n : Nat) (us : List V) : Prop :=
 ∃ cs, Own e s H v n cs ∧ (∀ r off m, v = .ref r off m → b ≤ r) ∧ cs.length = us.length ∧ Xk cs = true ∧ cs.all Yr = true ∧
  ∀ H2 : Qa, (∀ q row, b ≤ q → (∀ off m, v ≠ .ref q off m) → Qd H q = some row → Qd H2 q = some row) → ∀ j, Gd H2 (nth cs j) (nth us j)
theorem Cel.nil (b e s : Nat) (H : Qa) : Cel b e s H .nil 0 [] :=
 ⟨[], .inl ⟨rfl, rfl, rfl⟩, fun r off m h => (by cases h), rfl, rfl, rfl, fun H2 _ j => Gd.any _⟩
theorem Cel.gd {b e s : Nat} {H : Qa} {v : V} {n : Nat} {us : List V} (h : Cel b e s H v n us) : Gd H v (.sl n us) := by
 obtain ⟨cs, hO, hb, hl, hp, hs, hG⟩ := h;rcases hO with ⟨rfl, rfl, rfl⟩ | ⟨r, rfl, h2, h3⟩
 ·exact .nil _
 ·exact .ref r n _ us h2 hp (Nat.le_of_eq hl.symm) fun j _ => hG H (fun q row _ _ hq => hq) j
theorem Cel.far {b e s : Nat} {H H' : Qa} {v : V} {n : Nat} {us : List V} (h : Cel b e s H v n us) (hk : ∀ q row, b ≤ q → Qd H q = some row → Qd H' q = some row) : Cel b e s H' v n us := by
 obtain ⟨cs, hO, hb, hl, hp, hs, hG⟩ := h;refine ⟨cs, ?_, hb, hl, hp, hs, fun H2 h2 j => hG H2 (fun q row hq hv hr => h2 q row hq hv (hk q row hq hr)) j⟩
 rcases hO with hO | ⟨r, rfl, h2, h3⟩
 ·exact .inl hO
 ·exact .inr ⟨r, rfl, hk _ _ (hb r 0 n rfl) h2, h3⟩
theorem Cel.app {b e s : Nat} {H : Qa} {v : V} {n : Nat} {us : List V} (h : Cel b e s H v n us) (X : Qa) : Cel b e s (H ++ X) v n us := h.far fun q row _ hr => Qj hr _
theorem Cel.set {b e s : Nat} {H : Qa} {v : V} {n : Nat} {us : List V} (h : Cel b e s H v n us) {q : Nat} (hq : q < b) (z : Option Row) : Cel b e s (H.set q z) v n us := h.far fun r row hr h1 => by rw [Qh _ (by omega)]; exact h1
theorem Cel.lenw {b e s : Nat} {H : Qa} {v : V} {n : Nat} {us : List V} (h : Cel b e s H v n us) (y : Ty) (KP : V → Prop) : lenw y v KP = (y.sl.isSome = true ∧ KP (.int .i64 n)) := by
 obtain ⟨cs, hO, _⟩ := h;exact hO.lenw y KP
theorem Cel.kn {b e s : Nat} {H : Qa} {v : V} {n : Nat} {us : List V} (h : Cel b e s H v n us) : kn v = true ∧ cellsOf v = [v] ∧ Yr v = true := by
 obtain ⟨cs, hO, _⟩ := h;rcases hO with ⟨rfl, _⟩ | ⟨r, rfl, _⟩
 ·exact ⟨rfl, rfl, rfl⟩
 ·exact ⟨rfl, rfl, rfl⟩
def Far (b : Nat) (v : V) (H : Qa) (ns ms : List V) : Prop := ∀ H2 : Qa, (∀ q row, b ≤ q → (∀ off m, v ≠ .ref q off m) → Qd H q = some row → Qd H2 q = some row) → ∀ j, Gd H2 (nth ns j) (nth ms j)
theorem Far.nil (b : Nat) (v : V) (H : Qa) : Far b v H [] [] := fun H2 _ j => Gd.any _
theorem Far.cons {b : Nat} {v : V} {H : Qa} {x u : V} {ns ms : List V} (h : ∀ H2 : Qa, (∀ q row, b ≤ q → (∀ off m, v ≠ .ref q off m) → Qd H q = some row → Qd H2 q = some row) → Gd H2 x u) (hr : Far b v H ns ms) : Far b v H (x :: ns) (u :: ms) := fun H2 h2 j => by
 cases j with
 | zero => exact h H2 h2
 | succ j => exact hr H2 h2 j
theorem Far.self {b : Nat} {v : V} {H : Qa} {x : V} {ns ms : List V} (hc : clo x = true) (hp : plain x = true) (hr : Far b v H ns ms) : Far b v H (x :: ns) (x :: ms) := .cons (fun H2 _ => .leaf _ hc hp) hr
theorem Far.kept {b n : Nat} {v : V} {H : Qa} {x u : V} {ns ms : List V} (h : GdF n H x u) (hb : b ≤ n) (hv : ∀ r off m, v = .ref r off m → r < n) (hr : Far b v H ns ms) : Far b v H (x :: ns) (u :: ms) :=
 .cons (fun H2 h2 => h H2 fun q row hq hr => h2 q row (by omega) (fun off m e => by have := hv q off m e; omega) hr) hr
theorem Cel.lt {b e s : Nat} {H : Qa} {v : V} {n : Nat} {us : List V} (h : Cel b e s H v n us) : ∀ r off m, v = .ref r off m → r < H.length := by
 obtain ⟨cs, hO, _⟩ := h;intro r off m hv;rcases hO with ⟨rfl, _⟩ | ⟨r', rfl, h2, _⟩
 ·cases hv
 ·injection hv with hv; subst hv; exact Xg h2
theorem Cel.ne {b e s : Nat} {H : Qa} {v : V} {n : Nat} {us : List V} (h : Cel b e s H v n us) {q : Nat} (hq : q < b) : ∀ off m, v ≠ .ref q off m := by
 obtain ⟨cs, _, hb, _⟩ := h;intro off m hv
 have := hb q off m hv
 omega
theorem Qmi (a b : List V) (j : Nat) : nth (a ++ b) j = if j < a.length then nth a j else nth b (j - a.length) := Ys a b j
theorem Cel.append {y : Ty} {b e e' s' n : Nat} {H : Qa} {v : V} {us ns ms : List V} {K : V → Qa → Prop} (h : Cel b e y.size H v n us) (hb : b ≤ H.length) (hl : ns.length = y.size) (hm : ms.length = ns.length) (hp : Xk ns = true) (hs : ns.all Yr = true) (hF : Far b v H ns ms)
  (hy : 0 < y.size) (hby : 0 < y.bytes ∧ y.bytes ≤ 1000) (hn : n + 1 ≤ 100000000000) (hK : ∀ v' H', Cel b e y.size H' v' (n + 1) (us ++ ms) → (∀ q row, (∀ off m, v ≠ .ref q off m) → Qd H q = some row → Qd H' q = some row) → H'.length = H.length + 2 → v' = .ref (H.length + 1) 0 (n + 1) → K v' H') :
  Qan y e v (.ref H.length 0 1) (H ++ [some ⟨e', s', ns⟩]) K := by
 obtain ⟨cs, hO, hb2, hl2, hp2, hs2, hG⟩ := h;refine Qhw hO (by rw [hl, Nat.one_mul]) hs hy hby.1 (by have := Nat.mul_le_mul hn hby.2; omega) hs2 fun H' k1 k2 k3 => ?_
 refine hK _ H' ⟨cs ++ ns, k1, fun r off m e => by injection e with e; omega, by simp [hl2, hm], ?_, by simp [hs2, hs], fun H2 h2 j => ?_⟩ (fun q row hq hr => k2 q row hq hr) k3 rfl
 ·have : ∀ (a c : List V), Xk a = true → Xk c = true → Xk (a ++ c) = true := fun a c ha hc => by
   induction a with
   | nil => exact hc
   | cons x a ih =>
    simp only [Xk, Bool.and_eq_true] at ha;simp only [List.cons_append, Xk, Bool.and_eq_true];exact ⟨ha.1, ih ha.2⟩
  exact this _ _ hp2 hp
 ·have hcond : ∀ q row, b ≤ q → (∀ off m, v ≠ .ref q off m) → Qd H q = some row → Qd H2 q = some row := fun q row hq hv hr => by
   have hlt := Xg hr
   exact h2 q row hq (fun off m e => by injection e with e; omega) (k2 q row hv hr)
  rw [Qmi, Qmi, hl2];split
  ·exact hG H2 hcond j
  ·exact hF H2 hcond _
theorem Cel.one {b e s n : Nat} {H : Qa} {v : V} {cs : List V} (h : Own e s H v n cs) (hb : ∀ r off m, v = .ref r off m → b ≤ r) (hc : Qi cs = true) (hp : Xk cs = true) (hs : cs.all Yr = true) : Cel b e s H v n cs :=
 ⟨cs, h, hb, rfl, hp, hs, fun H2 _ j => .leaf _ (Zi hc j) (Jh hp j)⟩
theorem Cel.push3 {y : Ty} {b e e' s' n : Nat} {H X : Qa} {v v2 v3 u2 u3 : V} {us : List V} {b0 : Bool} {K : V → Qa → Prop} (h : Cel b e 3 H v n us) (hy : y.size = 3) (hby : y.bytes = 56) (hb : b ≤ H.length) (hn : n + 1 ≤ 100000000000)
  (h2 : GdF H.length (H ++ X) v2 u2) (h3 : GdF H.length (H ++ X) v3 u3) (s2 : Yr v2 = true) (s3 : Yr v3 = true)
  (hK : ∀ v' H', Cel b e 3 H' v' (n + 1) (us ++ [.bool b0, u2, u3]) → (∀ q row, q < b → Qd H q = some row → Qd H' q = some row) → Bv.kn v' = true → cellsOf v' = [v'] → Yr v' = true → K v' H') :
  Qan y e v (.ref (H.length + X.length) 0 1) (H ++ (X ++ [some ⟨e', s', [.bool b0, v2, v3]⟩])) K := by
 rw [← List.append_assoc, ← List.length_append]
 have h' := h.app X
 rw [← hy] at h';refine h'.append (ms := [.bool b0, u2, u3]) (by simp; omega) (by rw [hy]; rfl) rfl (by simp [Xk, plain, h2.gd.plain, h3.gd.plain]) (by simp only [List.all_cons, s2, s3, List.all_nil, Bool.and_true]; rfl) (.self rfl rfl (.kept h2 hb (fun r off m e => h.lt r off m e) (.kept h3 hb (fun r off m e => h.lt r off m e) (.nil _ _ _)))) (by omega) (by omega) hn fun v' H' k1 k2 k3 k4 => ?_
 rw [hy] at k1;obtain ⟨q1, q2, q3⟩ := k1.kn;exact hK v' H' k1 (fun q row hq hr => k2 q row (h.ne hq) (Qj hr X)) q1 q2 q3
mutual
theorem Qy2 (r : Nat) (cs : List V) : ∀ v : V, clo v = true → sz r cs v = v
 | .any, _ => rfl
 | .int _ _, _ => rfl
 | .bool _, _ => rfl
 | .str _, _ => rfl
 | .nil, _ => rfl
 | .sl n l, h => by simp only [sz, Zy r cs l h]
 | .ref _ _ _, h => by cases h
 | .agg l, h => by simp only [sz, Zy r cs l h]
 | .tup l, h => by simp only [sz, Zy r cs l h]
 | .ptr _ _, h => by cases h
 | .nilp, _ => rfl
 | .rp l off, h => by simp only [sz, Zy r cs l h]
 | .fn f xs ys, h => by
  simp only [clo, Bool.and_eq_true] at h;simp only [sz, Zy r cs xs h.1, Zy r cs ys h.2]
 | .nilf, _ => rfl
theorem Zy (r : Nat) (cs : List V) : ∀ l : List V, Qi l = true → szL r cs l = l
 | [], _ => rfl
 | v :: l, h => by
  simp only [Qi, Bool.and_eq_true] at h;simp only [szL, Qy2 r cs v h.1, Zy r cs l h.2]
end
def GdIn (n m : Nat) (H : Qa) (v u : V) : Prop := ∀ H2 : Qa, (∀ r row, n ≤ r → r < m → Qd H r = some row → Qd H2 r = some row) → Gd H2 v u
theorem GdF.within {n : Nat} {H : Qa} {v u : V} (h : GdF n H v u) : GdIn n H.length H v u := fun H2 h2 => h H2 fun r row hn hr => h2 r row hn (Xg hr) hr
theorem GdIn.gd {n m : Nat} {H : Qa} {v u : V} (h : GdIn n m H v u) : Gd H v u := h H fun _ _ _ _ hr => hr
theorem GdIn.far {n m : Nat} {H H' : Qa} {v u : V} (h : GdIn n m H v u) (hk : ∀ r row, n ≤ r → r < m → Qd H r = some row → Qd H' r = some row) : GdIn n m H' v u := fun H2 h2 => h H2 fun r row hn hm hr => h2 r row hn hm (hk r row hn hm hr)
theorem GdIn.app {n m : Nat} {H : Qa} {v u : V} (h : GdIn n m H v u) (X : Qa) : GdIn n m (H ++ X) v u := h.far fun r row _ _ hr => Qj hr _
theorem GdIn.set {n m : Nat} {H : Qa} {v u : V} (h : GdIn n m H v u) {q : Nat} (hq : q < n ∨ m ≤ q) (z : Option Row) : GdIn n m (H.set q z) v u := h.far fun r row hn hm hr => by rw [Qh _ (by omega)]; exact hr
theorem Val.ofRet {C : Ctx} {f : FuncId} {args : List V} {e s n : Nat} {cs : List V} (h : Fc C f args [] fun v H => Ret e s H v n cs) (hc : Qi cs = true) (hp : Xk cs = true) : Val C f args (.sl n cs) := Val.ofZ (h.mono fun v H h => .inr h) hc hp
theorem Pu.ofBor {C : Ctx} {f : FuncId} {args : List V} {u : V} (hu : clo u = true) (h : Fc C f args [] fun v H => Bor H v u) : Pu C f args u :=
 Fc.val hu h fun im pl w v H c hq hv hH => ⟨_, _, _, hH.allDead.1, hH.allDead.2, Qmy (hq.VR hH hv)⟩
def BorLs (H : Qa) : List V → List V → Prop
 | [], [] => True
 | a :: l, b :: m => Bor H a b ∧ BorLs H l m
 | _, _ => False
theorem BorLs.all {H : Qa} : ∀ {l m : List V}, BorLs H l m → l.length = m.length ∧ ∀ j, Bor H (nth l j) (nth m j)
 | [], [], _ => ⟨rfl, fun j => by simp [nth]; exact .any⟩
 | a :: l, b :: m, h => by
  obtain ⟨h1, h2⟩ := BorLs.all h.2;refine ⟨by simp [h1], fun j => ?_⟩
  cases j with
  | zero => exact h.1
  | succ j => exact h2 j
 | [], _ :: _, h => h.elim
 | _ :: _, [], h => h.elim
theorem Bor.tupL {H : Qa} {l m : List V} (h : BorLs H l m) : Bor H (.tup l) (.tup m) := .tup _ _ h.all.1 h.all.2
theorem Bor.aggL {H : Qa} {l m : List V} (h : BorLs H l m) : Bor H (.agg l) (.agg m) := .agg _ _ h.all.1 h.all.2
theorem BorL.selfs {H : Qa} : ∀ {l : List V}, Qi l = true → BorL H l l
 | [], _ => trivial
 | v :: l, h => by
  simp only [Qi, Bool.and_eq_true] at h;exact ⟨.self h.1, BorL.selfs h.2⟩
end Go.Bv
end
section
namespace Go.Bv.U
open Go.RowKit Go.Deep Go.Bv Go.Proofs.YtjdbdmhjakfldaaGreat.Rows
theorem Xck {H : Type} (d : DataW H) : 1 ≤ uptoBulk d := by
 cases d with
 | lit l => cases l <;> simp [uptoBulk]
 | nil => simp [uptoBulk]
 | ptr d => simp [uptoBulk]
 | slice elems spare => simp [uptoBulk]
 | agg parts => simp [uptoBulk]
 | iface t d => simp [uptoBulk]
 | map entries => simp [uptoBulk]
 | held h => simp [uptoBulk]
theorem Xa4 {H : Type} : ∀ (l : List (DataW H)), l.length ≤ uptoBulkAll l
 | [] => by simp [uptoBulkAll]
 | x :: r => by have := Xck x; have := Xa4 r; simp only [uptoBulkAll, List.length_cons]; omega
theorem Qui {H : Type} {d : DataW H} {l : List (DataW H)} (h : d ∈ l) : uptoBulk d ≤ uptoBulkAll l := by
 induction l with
 | nil => cases h
 | cons x r ih =>
  simp only [uptoBulkAll];rcases List.mem_cons.1 h with e | e
  ·subst e; omega
  ·have := ih e; omega
structure Reads (P : Program) (t : TypeId) (Q : List V → Prop) : Prop where
 get : ∀ {H : Type} {enc : TypeId × Value → H} {w : World} {fuel : Nat} {cs : List Value} {x : DataW H × List MemPlace},
 DataW.trod enc P w 0 (fun _ => true) true fuel t cs = some x → uptoBulk x.1 ≤ 1048576 → ∃ vs, Q vs ∧ CR w vs cs
theorem Reads.mono {P : Program} {t : TypeId} {Q Q' : List V → Prop} (h : Reads P t Q) (hq : ∀ vs, Q vs → Q' vs) : Reads P t Q' := ⟨fun ht hw => by
 obtain ⟨vs, h1, h2⟩ := h.get ht hw;exact ⟨vs, hq _ h1, h2⟩⟩
theorem Reads.int {P : Program} {t : TypeId} {k : IntKind} (hu : P.underlying t = some (.int k)) : Reads P t fun vs => ∃ n, vs = [.int k n] ∧ (Lit.int k n).wf = true := ⟨fun ht _ => by
 obtain ⟨n, rfl, _, h⟩ := DataW.trod_int hu ht;exact ⟨_, ⟨n, rfl, h⟩, .one (.int k n)⟩⟩
theorem Reads.bool {P : Program} {t : TypeId} (hu : P.underlying t = some .bool) : Reads P t fun vs => ∃ b, vs = [.bool b] := ⟨fun ht _ => by
 obtain ⟨b, rfl, _⟩ := DataW.trod_bool hu ht;exact ⟨_, ⟨b, rfl⟩, .one (.bool b)⟩⟩
theorem Reads.slice {P : Program} {t e : TypeId} {s : Nat} {Q : List V → Prop} (hu : P.underlying t = some (.slice e)) (hs : P.cellsOf e = s) (h0 : 0 < s) (he : Reads P e Q) :
  Reads P t fun vs => ∃ l : List (List V), (∀ x ∈ l, Q x) ∧ l.length ≤ 1048576 ∧ vs = [.sl l.length l.flatten] := ⟨fun {H enc w fuel cs x} ht hw => by
 rcases open_slice hu ht with ⟨rfl, rfl⟩ | ⟨a, len, cap, m, n, D, Pl, rfl, _, hlc, hcm, hm, rfl, hx⟩
 ·exact ⟨_, ⟨[], by simp, by simp, rfl⟩, .one (.sl0 _ _ _)⟩
 ·simp only [if_true] at hm;subst hm;simp only [uptoBulk] at hw
  have hwt : len ≤ 1048576 := by
   have := Xa4 (H := H) ((List.range len).map D)
   simp only [List.length_map, List.length_range] at this;omega
  have hel : ∀ i, i < len → uptoBulk (D i) ≤ 1048576 := fun i hi => by
   have := Qui (H := H) (d := D i) (l := (List.range len).map D) (List.mem_map.2 ⟨i, by simpa using hi, rfl⟩)
   omega
  rw [hs] at hx
  have key : ∀ k, k ≤ len → ∃ l : List (List V), l.length = k ∧ (∀ x ∈ l, Q x) ∧ l.flatten.length = k * s ∧ ∀ j, j < k * s → ∃ v, w.cell? (a.add j) = some v ∧ VR (fun b => b < w.heap.size) Kh w (nth l.flatten j) v := by
   intro k
   induction k with
   | zero => intro _; exact ⟨[], rfl, by simp, by simp, fun j hj => by omega⟩
   | succ k ih =>
    intro hk;obtain ⟨l, l1, l2, l3, l4⟩ := ih (by omega)
    obtain ⟨cs', hc, ht'⟩ := hx k (by omega)
    obtain ⟨vs, hq, hcr⟩ := he.get ht' (hel k (by omega))
    obtain ⟨_, c1, c2⟩ := World.cells?_some hc;refine ⟨l ++ [vs], by simp [l1], fun x hx => ?_, ?_, fun j hj => ?_⟩
    ·rcases List.mem_append.1 hx with h | h
     ·exact l2 x h
     ·simp only [List.mem_cons, List.not_mem_nil, or_false] at h; subst h; exact hq
    ·rw [List.flatten_append, List.length_append, l3];simp only [List.flatten_cons, List.flatten_nil, List.append_nil, hcr.1, c1];rw [Nat.succ_mul]
    ·rw [List.flatten_append, Ys, l3];simp only [List.flatten_cons, List.flatten_nil, List.append_nil];by_cases hlt : j < k * s
     ·rw [if_pos hlt]; exact l4 j hlt
     ·rw [if_neg hlt];rw [Nat.succ_mul] at hj
      have h1 := c2 (j - k * s) (by omega)
      rw [Bv.add_add, show k * s + (j - k * s) = j by omega] at h1
      rw [h1]
      have h2 : j - k * s < cs'.length := by omega
      refine ⟨cs'[j - k * s], by simp [h2], ?_⟩
      have := hcr.2 (j - k * s)
      simpa [List.getD, h2] using this
  obtain ⟨l, l1, l2, l3, l4⟩ := key len (Nat.le_refl _);refine ⟨_, ⟨l, l2, ?_, rfl⟩, .one ?_⟩
  ·rw [l1]; exact hwt
  ·rw [l1];by_cases hz : len = 0
   ·subst hz; exact .sl0 _ _ _
   ·have hlen : 0 < len * s := Nat.mul_pos (by omega) h0
    obtain ⟨v0, hv0, _⟩ := l4 0 hlen
    have hblk : a.block < w.heap.size := by have := World.block_lt_of_cell? w _ hv0; rwa [Qce] at this
    refine .sl len _ a m (fun j => (w.cell? (a.add j)).getD undef) hlc hblk (fun j hj => ?_) (fun j => ?_)
    ·rw [l3] at hj;obtain ⟨v, hv, _⟩ := l4 j hj;rw [hv]; rfl
    ·by_cases hj : j < len * s
     ·obtain ⟨v, hv, h2⟩ := l4 j hj;rw [hv]; exact h2
     ·rw [Qaj _ _ (by omega)]; exact .any _⟩
theorem Reads.struct {P : Program} {t : TypeId} {fs : Array Field} {Qs : Nat → List V → Prop} (hl : laidOutB P = true) (ht : t < P.types.size) (hu : P.underlying t = some (.struct fs)) (hf : ∀ i f, fs[i]? = some f → Reads P f.type (Qs i)) :
  Reads P t fun vs => ∃ l : List (List V), l.length = fs.size ∧ (∀ i, i < fs.size → Qs i (l.getD i [])) ∧ vs = l.flatten := ⟨fun {H enc w fuel cs x} h hw => by
 obtain ⟨xs, n, rfl, rfl, hc, hx, hi⟩ := DataW.trod_struct hu h;obtain ⟨_, hsum, hoff⟩ := kid_struct hl ht hu
 have key : ∀ k, k ≤ fs.size → ∃ l : List (List V), l.length = k ∧ (∀ i, i < k → Qs i (l.getD i [])) ∧ CR w l.flatten (cs.take (((fs.toList.take k).map fun f => P.cellsOf f.type).sum)) := by
  intro k
  induction k with
  | zero => intro _; exact ⟨[], rfl, fun i hi => by omega, by simpa using CR.nil w⟩
  | succ k ih =>
   intro hk;obtain ⟨l, l1, l2, l3⟩ := ih (by omega)
   have hfk : fs[k]? = some fs[k] := by simp [hk]
   have hfk' : fs.toList[k]? = some fs[k] := by simp [hk]
   have h1 := hi k _ hfk
   have hxk : xs[k]? = some xs[k] := List.getElem?_eq_getElem (by omega)
   rw [hxk] at h1;obtain ⟨vs, q1, q2⟩ := (hf k _ hfk).get h1 (by
    simp only [uptoBulk] at hw
    have := Qui (H := H) (d := xs[k].1) (l := xs.map (·.1)) (List.mem_map.2 ⟨xs[k], List.getElem_mem _, rfl⟩)
    omega)
   rw [hoff k _ hfk'] at q2;refine ⟨l ++ [vs], by simp [l1], fun i hi => ?_, ?_⟩
   ·by_cases hik : i < k
    ·have := l2 i hik
     simpa [List.getD, List.getElem?_append_left (show i < l.length by omega)] using this
    ·obtain rfl : i = k := by omega
     simpa [List.getD, ← l1] using q1
   ·have e1 : ((fs.toList.take (k + 1)).map fun f => P.cellsOf f.type).sum = ((fs.toList.take k).map fun f => P.cellsOf f.type).sum + P.cellsOf fs[k].type := by
     rw [List.take_add_one, hfk']; simp
    rw [e1, List.take_add, List.flatten_append];simpa using l3.append q2
 obtain ⟨l, l1, l2, l3⟩ := key fs.size (Nat.le_refl _);refine ⟨_, ⟨l, l1, l2, rfl⟩, ?_⟩;rw [List.take_of_length_le (show fs.toList.length ≤ fs.size by simp), ← hsum, ← hc, List.take_of_length_le (Nat.le_refl _)] at l3
 exact l3⟩
theorem Qhc {α : Type} {g : α → V} {R : α → Prop} : ∀ {l : List (List V)}, (∀ x ∈ l, ∃ a, x = [g a] ∧ R a) → ∃ xs : List α, xs.length = l.length ∧ l.flatten = xs.map g ∧ ∀ a ∈ xs, R a
 | [], _ => ⟨[], rfl, rfl, by simp⟩
 | x :: l, h => by
  obtain ⟨a, rfl, ha⟩ := h x (by simp)
  obtain ⟨xs, h1, h2, h3⟩ := Qhc (l := l) fun y hy => h y (by simp [hy])
  exact ⟨a :: xs, by simp [h1], by simp [h2], fun b hb => by
   rcases List.mem_cons.1 hb with rfl | hb
   ·exact ha
   ·exact h3 b hb⟩
theorem Reads.slice1 {α : Type} {P : Program} {t e : TypeId} {g : α → V} {R : α → Prop} (hu : P.underlying t = some (.slice e)) (hs : P.cellsOf e = 1) (he : Reads P e fun vs => ∃ a, vs = [g a] ∧ R a) :
  Reads P t fun vs => ∃ xs : List α, vs = [.sl xs.length (xs.map g)] ∧ xs.length ≤ 1048576 ∧ ∀ a ∈ xs, R a :=
 Reads.mono (Reads.slice hu hs (by omega) he) fun vs ⟨l, h1, h2, h3⟩ => by
  obtain ⟨xs, q1, q2, q3⟩ := Qhc h1;exact ⟨xs, by rw [h3, q1, q2], by rw [q1]; exact h2, q3⟩
theorem Reads.ints {P : Program} {t e : TypeId} (hu : P.underlying t = some (.slice e)) (hi : P.underlying e = some (.int .i64)) (hs : P.cellsOf e = 1) :
  Reads P t fun vs => ∃ xs : List Int, vs = [.sl xs.length (Bv.ints xs)] ∧ xs.length ≤ 1048576 ∧ ∀ x ∈ xs, (Lit.int .i64 x).wf = true :=
 Reads.mono (Reads.slice1 (g := fun n => .int .i64 n) hu hs (Reads.int hi)) fun vs ⟨xs, h1, h2, h3⟩ => ⟨xs, h1, h2, h3⟩
structure ArgV (P : Program) (t : TypeId) (Q : V → Prop) : Prop where
 get : ∀ {H : Type} {enc : TypeId × Value → H} {w : World} {base : Nat} {v : Value} {d : DataW H} {p : List MemPlace},
 Value.okWide P w .any base t v → DataW.Trod enc P w 0 (fun _ => true) true t v d p → uptoBulk d ≤ 1048576 → ∃ u, Q u ∧ VR (fun b => b < w.heap.size) Kh w u v
theorem ArgV.mono {P : Program} {t : TypeId} {Q Q' : V → Prop} (h : ArgV P t Q) (hq : ∀ u, Q u → Q' u) : ArgV P t Q' := ⟨fun h1 h2 h3 => by
 obtain ⟨u, k1, k2⟩ := h.get h1 h2 h3;exact ⟨u, hq _ k1, k2⟩⟩
theorem ArgV.one {P : Program} {t : TypeId} {Q : List V → Prop} (h : Reads P t Q) (ho : (match P.underlying t with | some (.int _) | some .bool | some .string | some (.slice _) => true | _ => false) = true) : ArgV P t fun u => Q [u] := ⟨fun {H enc w base v d p} h1 ⟨fuel, h2⟩ h3 => by
 obtain ⟨vs, q1, q2⟩ := h.get h2 h3
 have hv : v.cells.toList = [v] := by
  revert ho
  split
  ·rename_i k hu; intro _; obtain ⟨n, rfl⟩ := WideShapes.okWide_int hu h1; rfl
  ·rename_i hu; intro _; obtain ⟨b, rfl⟩ := WideShapes.okWide_bool hu h1; rfl
  ·rename_i hu; intro _; obtain ⟨s, rfl⟩ := WideShapes.okWide_string hu h1; rfl
  ·rename_i e hu; intro _; obtain ⟨a, len, cap, rfl⟩ := WideShapes.okWide_slice hu h1; rfl
  ·intro h; cases h
 rw [hv] at q2
 match vs, q2.1 with
 | [u], _ => exact ⟨u, q1, by have := q2.2 0; simpa [nth, List.getD] using this⟩⟩
theorem ArgV.struct {P : Program} {t : TypeId} {Q : List V → Prop} {fs : Array Field} (h : Reads P t Q) (hu : P.underlying t = some (.struct fs)) : ArgV P t fun u => ∃ vs, u = .agg vs ∧ Q vs := ⟨fun {H enc w base v d p} h1 ⟨fuel, h2⟩ h3 => by
 obtain ⟨vs, q1, q2⟩ := h.get h2 h3;obtain ⟨cs, rfl, _⟩ := WideShapes.okWide_struct hu h1
 have e : (Value.agg cs).cells.toList = cs.toList := rfl
 rw [e] at q2;refine ⟨_, ⟨vs, rfl, q1⟩, ?_⟩
 have := VR.agg (im := fun b => b < w.heap.size) (pl := Kh) (w := w) vs cs.toList q2.1 q2.2
 simpa using this⟩
structure ArgsV (P : Program) (ts : List TypeId) (R : List V → Prop) : Prop where
 get : ∀ {H : Type} {enc : TypeId × Value → H} {w : World} {base : Nat} {vs : List Value} {ds : List (DataW H)} {p : List MemPlace},
 (∀ (j : Nat) t v, ts[j]? = some t → vs[j]? = some v → Value.okWide P w .any base t v) → DataW.TrodAll enc P w 0 (fun _ => true) true ts vs ds p → uptoBulkAll ds ≤ 1048576 → ∃ us, R us ∧ CR w us vs
theorem ArgsV.nil {P : Program} : ArgsV P [] fun us => us = [] := ⟨fun {H enc w base vs ds p} h1 h2 h3 => by
 cases vs with
 | nil => exact ⟨[], rfl, .nil _⟩
 | cons v vs => cases ds <;> simp [DataW.TrodAll] at h2⟩
theorem ArgsV.cons {P : Program} {t : TypeId} {ts : List TypeId} {Q : V → Prop} {R : List V → Prop} (h : ArgV P t Q) (hr : ArgsV P ts R) : ArgsV P (t :: ts) fun us => ∃ u us', us = u :: us' ∧ Q u ∧ R us' := ⟨fun {H enc w base vs ds p} h1 h2 h3 => by
 obtain ⟨v, vs1, d, ds1, a, b, rfl, rfl, rfl, k1, k2⟩ := ChangeShapes.trodAll_cons h2;obtain ⟨u, q1, q2⟩ := h.get (h1 0 t v rfl rfl) k1 (by simp only [uptoBulkAll] at h3; omega)
 obtain ⟨us, q3, q4⟩ := hr.get (fun j t' v' hj hv => h1 (j + 1) t' v' hj hv) k2 (by simp only [uptoBulkAll] at h3; omega)
 exact ⟨u :: us, ⟨u, us, rfl, q1, q3⟩, (CR.one q2).append q4⟩⟩
theorem ArgsV.mono {P : Program} {ts : List TypeId} {R R' : List V → Prop} (h : ArgsV P ts R) (hq : ∀ us, R us → R' us) : ArgsV P ts R' := ⟨fun h1 h2 h3 => by
 obtain ⟨u, k1, k2⟩ := h.get h1 h2 h3;exact ⟨u, hq _ k1, k2⟩⟩
theorem law_contract {A : Checked} {C : Ctx} (hC : C.P = A.prog) {H : Type} {enc : TypeId × Value → H} {f : FuncId} {fn : Func} {s : ChangeSpec} {tb : TypeId}
  (hl : laidOutB A.prog = true) (hvars : s.vars = []) (hspec : ∀ ds : List (DataW H), ds.length = fn.params.size → (s.fn H ds).results = [.lit (.bool true)] ∧ (s.fn H ds).args = ds ∧ (s.fn H ds).vars = [])
  (hrt : fn.resultTypes = #[tb]) (htb : A.prog.underlying tb = some .bool) (hpar : ∀ t ∈ fn.params.toList, A.prog.readableRec t = true ∧ t < A.prog.types.size)
  {R : List V → Prop} (hargs : ArgsV A.prog fn.params.toList R) (hlaw : ∀ us, R us → Pu C f us (.bool true))
  (W : World) (base : Nat) (args : Array Value) (ds gs : List (DataW H)) (before : List MemPlace)
  (hval : ∀ (j : Nat) t v, fn.params[j]? = some t → args[j]? = some v → Value.okWide A.prog W .any base t v)
  (hW : DataW.Whole enc A.prog fn.params.toList s.vars false W args.toList ds gs before) (hk : uptoSmall H (ds ++ gs) = true) :
  Calls A.prog f args W fun e W' => ∃ v, e = .returned v ∧ s.post enc A.prog fn false true false false W args v W' := by
 have hW' := hW
 obtain ⟨p, q, hA, hV, rfl, hfz, hnd⟩ := hW;rw [hvars] at hV;obtain ⟨rfl, rfl⟩ := ChangeShapes.trodVars_none hV;rw [List.append_nil] at hk;obtain ⟨us, hR, hcr⟩ := hargs.get (fun j t v hj hv => hval j t v (by simpa using hj) (by simpa using hv)) hA (by simpa [uptoSmall] using hk)
 have hcall := (hlaw us hR).2 (fun b => b < W.heap.size) Kh W args.toList hcr.1 hcr.2 (HR.none fun b hb => hb)
 rw [hC] at hcall
 have hlen : ds.length = fn.params.size := by
  have : ∀ {ts : List TypeId} {vs : List Value} {ds : List (DataW H)} {p : List MemPlace}, DataW.TrodAll enc A.prog W 0 (fun _ => true) true ts vs ds p → ds.length = ts.length := by
   intro ts
   induction ts with
   | nil => intro vs ds p h; obtain ⟨_, rfl, _⟩ := ChangeShapes.trodAll_nil h; rfl
   | cons t ts ih =>
    intro vs ds p h;obtain ⟨v, vs1, d, ds1, a, b, rfl, rfl, rfl, _, k2⟩ := ChangeShapes.trodAll_cons h;simp [ih k2]
  simpa using this hA
 obtain ⟨s1, s2, s3⟩ := hspec ds hlen;refine (callsIn_wide (n := 0)).1 ((callsIn_wide.2 hcall).mono fun e W' hp => ?_)
 cases e with
 | panicked _ => exact hp.elim
 | outgrown => exact hp.elim
 | returned vc =>
  obtain ⟨v, H', im', pl', ⟨rfl, rfl⟩, k2, k3, k4⟩ := hp;cases k2 with
  | bool b =>
   have hold : ∀ b, b < W.heap.size → W'.heap[b]? = W.heap[b]? := fun b hb => k4.frame b hb fun r cap e => by cases e
   have hlt : ∀ p' ∈ p ++ [], p'.block < W.heap.size := fun p' hp' => hW'.lt p' hp'
   have hcell : ∀ a : Addr, a.block < W.heap.size → W'.cell? a = W.cell? a := fun a ha => World.cell?_of_block (hold _ ha)
   have hsame : ∀ p' ∈ p ++ [], W.sameAt W' p' := fun p' hp' => by
    have := hlt p' hp'
    cases p' with
    | cell b off => exact hcell _ this
    | map b => exact hold b this
   refine ⟨.bool true, rfl, Qwl (pa := p ++ []) (pv := []) hW' (fun _ _ _ => ?_) (fun sp hsp => ?_) (fun _ _ => ?_) (by simp) ?_ (fun b off hb => ?_) ?_⟩
   ·rw [List.append_nil, s1, hrt]; exact ChangeShapes.trodAll_mk1 (shut_bool htb _)
   ·rw [List.append_nil, s2]; rw [List.append_nil] at hsame hsp ⊢; exact Qge hl hpar hA hsame hsp
   ·rw [List.append_nil, s3, hvars]; rfl
   ·refine ⟨k4.os, k4.output, fun i hi => ?_⟩
    rw [hold i hi];split
    ·rename_i h1 h2; rw [h1] at h2; cases h2; exact ⟨rfl, rfl, rfl, fun _ _ => rfl⟩
    ·rename_i h1 h2; rw [h1] at h2; cases h2; exact .inr ⟨rfl, rfl⟩
    ·rfl
   ·have h1 : W'.heap[b]? = W.heap[b]? := hold b (hlt _ hb)
    unfold World.frozen?; simp only [h1]
   ·exact ok_one (f := fn) hrt rfl (okWide_bool_mk htb _)
end Go.Bv.U
end
section
namespace Go.Proofs.YtjdbdmhjakfldaaGreat
open Go.Bv
noncomputable def y1 : Ty := { z := .nilFunc, size := 1, bytes := 8, agg := false, sl := none, arr := none, fs := [] }
theorem y1_ok : OKt Tryz.prog 1 y1 := ⟨by kernel_rfl, ⟨_, Tryz.underlying1, rfl, rfl, rfl, rfl, rfl, rfl, rfl⟩, fun _ => rfl, rfl⟩
noncomputable def y2 : Ty := { z := (.int .i64 0), size := 1, bytes := 8, agg := false, sl := none, arr := none, fs := [], ik := some .i64 }
theorem y2_ok : OKt Tryz.prog 2 y2 := ⟨by kernel_rfl, ⟨_, Tryz.underlying2, rfl, rfl, rfl, rfl, rfl, rfl, rfl⟩, fun _ => rfl, rfl⟩
noncomputable def y3 : Ty := { z := (.int .i64 0), size := 1, bytes := 8, agg := false, sl := none, arr := none, fs := [], ik := some .i64 }
theorem y3_ok : OKt Tryz.prog 3 y3 := ⟨by kernel_rfl, ⟨_, Tryz.underlying3, rfl, rfl, rfl, rfl, rfl, rfl, rfl⟩, fun _ => rfl, rfl⟩
noncomputable def y4 : Ty := { z := (.bool false), size := 1, bytes := 1, agg := false, sl := none, arr := none, fs := [], bl := true }
theorem y4_ok : OKt Tryz.prog 4 y4 := ⟨by kernel_rfl, ⟨_, Tryz.underlying4, rfl, rfl, rfl, rfl, rfl, rfl, rfl⟩, fun _ => rfl, rfl⟩
noncomputable def y5 : Ty := { z := (.int .u8 0), size := 1, bytes := 1, agg := false, sl := none, arr := none, fs := [], ik := some .u8 }
theorem y5_ok : OKt Tryz.prog 5 y5 := ⟨by kernel_rfl, ⟨_, Tryz.underlying5, rfl, rfl, rfl, rfl, rfl, rfl, rfl⟩, fun _ => rfl, rfl⟩
noncomputable def y6 : Ty := { z := (.int .u8 0), size := 1, bytes := 1, agg := false, sl := none, arr := none, fs := [], ik := some .u8 }
theorem y6_ok : OKt Tryz.prog 6 y6 := ⟨by kernel_rfl, ⟨_, Tryz.underlying6, rfl, rfl, rfl, rfl, rfl, rfl, rfl⟩, fun _ => rfl, rfl⟩
noncomputable def y7 : Ty := { z := (.agg #[(.int .i64 0), (.int .i64 0), (.bool false), (.int .u8 0)]), size := 4, bytes := 24, agg := true, sl := none, arr := none, fs := [(0, 2), (1, 3), (2, 4), (3, 6)] }
theorem y7_ok : OKt Tryz.prog 7 y7 := ⟨by kernel_rfl, ⟨_, Tryz.underlying7, rfl, rfl, rfl, rfl, rfl, rfl, rfl⟩, (fun h => by cases h), rfl⟩
noncomputable def y8 : Ty := { z := (.agg #[(.int .i64 0), (.int .i64 0), (.bool false), (.int .u8 0)]), size := 4, bytes := 24, agg := true, sl := none, arr := none, fs := [(0, 2), (1, 3), (2, 4), (3, 6)] }
theorem y8_ok : OKt Tryz.prog 8 y8 := ⟨by kernel_rfl, ⟨_, Tryz.underlying8, rfl, rfl, rfl, rfl, rfl, rfl, rfl⟩, (fun h => by cases h), rfl⟩
noncomputable def y9 : Ty := { z := (.string ⟨#[]⟩), size := 1, bytes := 16, agg := false, sl := none, arr := none, fs := [], str := true }
theorem y9_ok : OKt Tryz.prog 9 y9 := ⟨by kernel_rfl, ⟨_, Tryz.underlying9, rfl, rfl, rfl, rfl, rfl, rfl, rfl⟩, fun _ => rfl, rfl⟩
noncomputable def y10 : Ty := { z := (.string ⟨#[]⟩), size := 1, bytes := 16, agg := false, sl := none, arr := none, fs := [], str := true }
theorem y10_ok : OKt Tryz.prog 10 y10 := ⟨by kernel_rfl, ⟨_, Tryz.underlying10, rfl, rfl, rfl, rfl, rfl, rfl, rfl⟩, fun _ => rfl, rfl⟩
noncomputable def y11 : Ty := { z := (.string ⟨#[]⟩), size := 1, bytes := 16, agg := false, sl := none, arr := none, fs := [], str := true }
theorem y11_ok : OKt Tryz.prog 11 y11 := ⟨by kernel_rfl, ⟨_, Tryz.underlying11, rfl, rfl, rfl, rfl, rfl, rfl, rfl⟩, fun _ => rfl, rfl⟩
noncomputable def y12 : Ty := { z := (.int .u64 0), size := 1, bytes := 8, agg := false, sl := none, arr := none, fs := [], ik := some .u64 }
theorem y12_ok : OKt Tryz.prog 12 y12 := ⟨by kernel_rfl, ⟨_, Tryz.underlying12, rfl, rfl, rfl, rfl, rfl, rfl, rfl⟩, fun _ => rfl, rfl⟩
noncomputable def y13 : Ty := { z := (.agg #[(.string ⟨#[]⟩), (.int .u64 0)]), size := 2, bytes := 24, agg := true, sl := none, arr := none, fs := [(0, 9), (1, 12)] }
theorem y13_ok : OKt Tryz.prog 13 y13 := ⟨by kernel_rfl, ⟨_, Tryz.underlying13, rfl, rfl, rfl, rfl, rfl, rfl, rfl⟩, (fun h => by cases h), rfl⟩
noncomputable def y14 : Ty := { z := (.agg #[(.string ⟨#[]⟩), (.int .u64 0)]), size := 2, bytes := 24, agg := true, sl := none, arr := none, fs := [(0, 9), (1, 12)] }
theorem y14_ok : OKt Tryz.prog 14 y14 := ⟨by kernel_rfl, ⟨_, Tryz.underlying14, rfl, rfl, rfl, rfl, rfl, rfl, rfl⟩, (fun h => by cases h), rfl⟩
noncomputable def y15 : Ty := { z := (.pointer none), size := 1, bytes := 8, agg := false, sl := none, arr := none, fs := [] }
theorem y15_ok : OKt Tryz.prog 15 y15 := ⟨by kernel_rfl, ⟨_, Tryz.underlying15, rfl, rfl, rfl, rfl, rfl, rfl, rfl⟩, fun _ => rfl, rfl⟩
noncomputable def y16 : Ty := { z := (.pointer none), size := 1, bytes := 8, agg := false, sl := none, arr := none, fs := [] }
theorem y16_ok : OKt Tryz.prog 16 y16 := ⟨by kernel_rfl, ⟨_, Tryz.underlying16, rfl, rfl, rfl, rfl, rfl, rfl, rfl⟩, fun _ => rfl, rfl⟩
noncomputable def y17 : Ty := { z := (.pointer none), size := 1, bytes := 8, agg := false, sl := none, arr := none, fs := [] }
theorem y17_ok : OKt Tryz.prog 17 y17 := ⟨by kernel_rfl, ⟨_, Tryz.underlying17, rfl, rfl, rfl, rfl, rfl, rfl, rfl⟩, fun _ => rfl, rfl⟩
noncomputable def y18 : Ty := { z := (.agg #[(.pointer none)]), size := 1, bytes := 8, agg := true, sl := none, arr := none, fs := [(0, 17)] }
theorem y18_ok : OKt Tryz.prog 18 y18 := ⟨by kernel_rfl, ⟨_, Tryz.underlying18, rfl, rfl, rfl, rfl, rfl, rfl, rfl⟩, (fun h => by cases h), rfl⟩
noncomputable def y19 : Ty := { z := (.agg #[(.pointer none)]), size := 1, bytes := 8, agg := true, sl := none, arr := none, fs := [(0, 17)] }
theorem y19_ok : OKt Tryz.prog 19 y19 := ⟨by kernel_rfl, ⟨_, Tryz.underlying19, rfl, rfl, rfl, rfl, rfl, rfl, rfl⟩, (fun h => by cases h), rfl⟩
noncomputable def y21 : Ty := { z := (.int .i32 0), size := 1, bytes := 4, agg := false, sl := none, arr := none, fs := [], ik := some .i32 }
theorem y21_ok : OKt Tryz.prog 21 y21 := ⟨by kernel_rfl, ⟨_, Tryz.underlying21, rfl, rfl, rfl, rfl, rfl, rfl, rfl⟩, fun _ => rfl, rfl⟩
noncomputable def y22 : Ty := { z := (.slice none 0 0), size := 1, bytes := 24, agg := false, sl := some 3, arr := none, fs := [] }
theorem y22_ok : OKt Tryz.prog 22 y22 := ⟨by kernel_rfl, ⟨_, Tryz.underlying22, rfl, rfl, rfl, rfl, rfl, rfl, rfl⟩, fun _ => rfl, rfl⟩
noncomputable def y23 : Ty := { z := (.slice none 0 0), size := 1, bytes := 24, agg := false, sl := some 3, arr := none, fs := [] }
theorem y23_ok : OKt Tryz.prog 23 y23 := ⟨by kernel_rfl, ⟨_, Tryz.underlying23, rfl, rfl, rfl, rfl, rfl, rfl, rfl⟩, fun _ => rfl, rfl⟩
noncomputable def y24 : Ty := { z := (.slice none 0 0), size := 1, bytes := 24, agg := false, sl := some 58, arr := none, fs := [] }
theorem y24_ok : OKt Tryz.prog 24 y24 := ⟨by kernel_rfl, ⟨_, Tryz.underlying24, rfl, rfl, rfl, rfl, rfl, rfl, rfl⟩, fun _ => rfl, rfl⟩
noncomputable def y25 : Ty := { z := (.agg #[(.slice none 0 0), (.slice none 0 0)]), size := 2, bytes := 48, agg := true, sl := none, arr := none, fs := [(0, 23), (1, 24)] }
theorem y25_ok : OKt Tryz.prog 25 y25 := ⟨by kernel_rfl, ⟨_, Tryz.underlying25, rfl, rfl, rfl, rfl, rfl, rfl, rfl⟩, (fun h => by cases h), rfl⟩
noncomputable def y26 : Ty := { z := (.agg #[(.slice none 0 0), (.slice none 0 0)]), size := 2, bytes := 48, agg := true, sl := none, arr := none, fs := [(0, 23), (1, 24)] }
theorem y26_ok : OKt Tryz.prog 26 y26 := ⟨by kernel_rfl, ⟨_, Tryz.underlying26, rfl, rfl, rfl, rfl, rfl, rfl, rfl⟩, (fun h => by cases h), rfl⟩
noncomputable def y27 : Ty := { z := (.int .i64 0), size := 1, bytes := 8, agg := false, sl := none, arr := none, fs := [], ik := some .i64 }
theorem y27_ok : OKt Tryz.prog 27 y27 := ⟨by kernel_rfl, ⟨_, Tryz.underlying27, rfl, rfl, rfl, rfl, rfl, rfl, rfl⟩, fun _ => rfl, rfl⟩
noncomputable def y29 : Ty := { z := .nilFunc, size := 1, bytes := 8, agg := false, sl := none, arr := none, fs := [] }
theorem y29_ok : OKt Tryz.prog 29 y29 := ⟨by kernel_rfl, ⟨_, Tryz.underlying29, rfl, rfl, rfl, rfl, rfl, rfl, rfl⟩, fun _ => rfl, rfl⟩
noncomputable def y30 : Ty := { z := .nilFunc, size := 1, bytes := 8, agg := false, sl := none, arr := none, fs := [] }
theorem y30_ok : OKt Tryz.prog 30 y30 := ⟨by kernel_rfl, ⟨_, Tryz.underlying30, rfl, rfl, rfl, rfl, rfl, rfl, rfl⟩, fun _ => rfl, rfl⟩
noncomputable def y31 : Ty := { z := .nilFunc, size := 1, bytes := 8, agg := false, sl := none, arr := none, fs := [] }
theorem y31_ok : OKt Tryz.prog 31 y31 := ⟨by kernel_rfl, ⟨_, Tryz.underlying31, rfl, rfl, rfl, rfl, rfl, rfl, rfl⟩, fun _ => rfl, rfl⟩
noncomputable def y32 : Ty := { z := (.slice none 0 0), size := 1, bytes := 24, agg := false, sl := some 72, arr := none, fs := [] }
theorem y32_ok : OKt Tryz.prog 32 y32 := ⟨by kernel_rfl, ⟨_, Tryz.underlying32, rfl, rfl, rfl, rfl, rfl, rfl, rfl⟩, fun _ => rfl, rfl⟩
noncomputable def y33 : Ty := { z := (.agg #[(.slice none 0 0), (.slice none 0 0)]), size := 2, bytes := 48, agg := true, sl := none, arr := none, fs := [(0, 22), (1, 32)] }
theorem y33_ok : OKt Tryz.prog 33 y33 := ⟨by kernel_rfl, ⟨_, Tryz.underlying33, rfl, rfl, rfl, rfl, rfl, rfl, rfl⟩, (fun h => by cases h), rfl⟩
noncomputable def y34 : Ty := { z := (.agg #[(.slice none 0 0), (.slice none 0 0)]), size := 2, bytes := 48, agg := true, sl := none, arr := none, fs := [(0, 22), (1, 32)] }
theorem y34_ok : OKt Tryz.prog 34 y34 := ⟨by kernel_rfl, ⟨_, Tryz.underlying34, rfl, rfl, rfl, rfl, rfl, rfl, rfl⟩, (fun h => by cases h), rfl⟩
noncomputable def y36 : Ty := { z := .nilFunc, size := 1, bytes := 8, agg := false, sl := none, arr := none, fs := [] }
theorem y36_ok : OKt Tryz.prog 36 y36 := ⟨by kernel_rfl, ⟨_, Tryz.underlying36, rfl, rfl, rfl, rfl, rfl, rfl, rfl⟩, fun _ => rfl, rfl⟩
noncomputable def y37 : Ty := { z := .nilFunc, size := 1, bytes := 8, agg := false, sl := none, arr := none, fs := [] }
theorem y37_ok : OKt Tryz.prog 37 y37 := ⟨by kernel_rfl, ⟨_, Tryz.underlying37, rfl, rfl, rfl, rfl, rfl, rfl, rfl⟩, fun _ => rfl, rfl⟩
noncomputable def y38 : Ty := { z := .nilFunc, size := 1, bytes := 8, agg := false, sl := none, arr := none, fs := [] }
theorem y38_ok : OKt Tryz.prog 38 y38 := ⟨by kernel_rfl, ⟨_, Tryz.underlying38, rfl, rfl, rfl, rfl, rfl, rfl, rfl⟩, fun _ => rfl, rfl⟩
noncomputable def y39 : Ty := { z := .nilFunc, size := 1, bytes := 8, agg := false, sl := none, arr := none, fs := [] }
theorem y39_ok : OKt Tryz.prog 39 y39 := ⟨by kernel_rfl, ⟨_, Tryz.underlying39, rfl, rfl, rfl, rfl, rfl, rfl, rfl⟩, fun _ => rfl, rfl⟩
noncomputable def y40 : Ty := { z := .nilFunc, size := 1, bytes := 8, agg := false, sl := none, arr := none, fs := [] }
theorem y40_ok : OKt Tryz.prog 40 y40 := ⟨by kernel_rfl, ⟨_, Tryz.underlying40, rfl, rfl, rfl, rfl, rfl, rfl, rfl⟩, fun _ => rfl, rfl⟩
noncomputable def y41 : Ty := { z := .nilFunc, size := 1, bytes := 8, agg := false, sl := none, arr := none, fs := [] }
theorem y41_ok : OKt Tryz.prog 41 y41 := ⟨by kernel_rfl, ⟨_, Tryz.underlying41, rfl, rfl, rfl, rfl, rfl, rfl, rfl⟩, fun _ => rfl, rfl⟩
noncomputable def y42 : Ty := { z := .nilFunc, size := 1, bytes := 8, agg := false, sl := none, arr := none, fs := [] }
theorem y42_ok : OKt Tryz.prog 42 y42 := ⟨by kernel_rfl, ⟨_, Tryz.underlying42, rfl, rfl, rfl, rfl, rfl, rfl, rfl⟩, fun _ => rfl, rfl⟩
noncomputable def y43 : Ty := { z := .nilFunc, size := 1, bytes := 8, agg := false, sl := none, arr := none, fs := [] }
theorem y43_ok : OKt Tryz.prog 43 y43 := ⟨by kernel_rfl, ⟨_, Tryz.underlying43, rfl, rfl, rfl, rfl, rfl, rfl, rfl⟩, fun _ => rfl, rfl⟩
noncomputable def y44 : Ty := { z := .nilFunc, size := 1, bytes := 8, agg := false, sl := none, arr := none, fs := [] }
theorem y44_ok : OKt Tryz.prog 44 y44 := ⟨by kernel_rfl, ⟨_, Tryz.underlying44, rfl, rfl, rfl, rfl, rfl, rfl, rfl⟩, fun _ => rfl, rfl⟩
noncomputable def y45 : Ty := { z := .nilFunc, size := 1, bytes := 8, agg := false, sl := none, arr := none, fs := [] }
theorem y45_ok : OKt Tryz.prog 45 y45 := ⟨by kernel_rfl, ⟨_, Tryz.underlying45, rfl, rfl, rfl, rfl, rfl, rfl, rfl⟩, fun _ => rfl, rfl⟩
noncomputable def y46 : Ty := { z := .nilFunc, size := 1, bytes := 8, agg := false, sl := none, arr := none, fs := [] }
theorem y46_ok : OKt Tryz.prog 46 y46 := ⟨by kernel_rfl, ⟨_, Tryz.underlying46, rfl, rfl, rfl, rfl, rfl, rfl, rfl⟩, fun _ => rfl, rfl⟩
noncomputable def y47 : Ty := { z := .nilFunc, size := 1, bytes := 8, agg := false, sl := none, arr := none, fs := [] }
theorem y47_ok : OKt Tryz.prog 47 y47 := ⟨by kernel_rfl, ⟨_, Tryz.underlying47, rfl, rfl, rfl, rfl, rfl, rfl, rfl⟩, fun _ => rfl, rfl⟩
noncomputable def y48 : Ty := { z := (.slice none 0 0), size := 1, bytes := 24, agg := false, sl := some 26, arr := none, fs := [] }
theorem y48_ok : OKt Tryz.prog 48 y48 := ⟨by kernel_rfl, ⟨_, Tryz.underlying48, rfl, rfl, rfl, rfl, rfl, rfl, rfl⟩, fun _ => rfl, rfl⟩
noncomputable def y49 : Ty := { z := (.slice none 0 0), size := 1, bytes := 24, agg := false, sl := some 34, arr := none, fs := [] }
theorem y49_ok : OKt Tryz.prog 49 y49 := ⟨by kernel_rfl, ⟨_, Tryz.underlying49, rfl, rfl, rfl, rfl, rfl, rfl, rfl⟩, fun _ => rfl, rfl⟩
noncomputable def y50 : Ty := { z := .nilFunc, size := 1, bytes := 8, agg := false, sl := none, arr := none, fs := [] }
theorem y50_ok : OKt Tryz.prog 50 y50 := ⟨by kernel_rfl, ⟨_, Tryz.underlying50, rfl, rfl, rfl, rfl, rfl, rfl, rfl⟩, fun _ => rfl, rfl⟩
noncomputable def y51 : Ty := { z := .nilFunc, size := 1, bytes := 8, agg := false, sl := none, arr := none, fs := [] }
theorem y51_ok : OKt Tryz.prog 51 y51 := ⟨by kernel_rfl, ⟨_, Tryz.underlying51, rfl, rfl, rfl, rfl, rfl, rfl, rfl⟩, fun _ => rfl, rfl⟩
noncomputable def y52 : Ty := { z := .nilFunc, size := 1, bytes := 8, agg := false, sl := none, arr := none, fs := [] }
theorem y52_ok : OKt Tryz.prog 52 y52 := ⟨by kernel_rfl, ⟨_, Tryz.underlying52, rfl, rfl, rfl, rfl, rfl, rfl, rfl⟩, fun _ => rfl, rfl⟩
noncomputable def y53 : Ty := { z := .nilFunc, size := 1, bytes := 8, agg := false, sl := none, arr := none, fs := [] }
theorem y53_ok : OKt Tryz.prog 53 y53 := ⟨by kernel_rfl, ⟨_, Tryz.underlying53, rfl, rfl, rfl, rfl, rfl, rfl, rfl⟩, fun _ => rfl, rfl⟩
noncomputable def y54 : Ty := { z := .nilFunc, size := 1, bytes := 8, agg := false, sl := none, arr := none, fs := [] }
theorem y54_ok : OKt Tryz.prog 54 y54 := ⟨by kernel_rfl, ⟨_, Tryz.underlying54, rfl, rfl, rfl, rfl, rfl, rfl, rfl⟩, fun _ => rfl, rfl⟩
noncomputable def y55 : Ty := { z := (.slice none 0 0), size := 1, bytes := 24, agg := false, sl := some 59, arr := none, fs := [] }
theorem y55_ok : OKt Tryz.prog 55 y55 := ⟨by kernel_rfl, ⟨_, Tryz.underlying55, rfl, rfl, rfl, rfl, rfl, rfl, rfl⟩, fun _ => rfl, rfl⟩
noncomputable def y56 : Ty := { z := (.slice none 0 0), size := 1, bytes := 24, agg := false, sl := some 59, arr := none, fs := [] }
theorem y56_ok : OKt Tryz.prog 56 y56 := ⟨by kernel_rfl, ⟨_, Tryz.underlying56, rfl, rfl, rfl, rfl, rfl, rfl, rfl⟩, fun _ => rfl, rfl⟩
noncomputable def y57 : Ty := { z := (.agg #[(.bool false), (.slice none 0 0), (.slice none 0 0)]), size := 3, bytes := 56, agg := true, sl := none, arr := none, fs := [(0, 4), (1, 56), (2, 56)] }
theorem y57_ok : OKt Tryz.prog 57 y57 := ⟨by kernel_rfl, ⟨_, Tryz.underlying57, rfl, rfl, rfl, rfl, rfl, rfl, rfl⟩, (fun h => by cases h), rfl⟩
noncomputable def y58 : Ty := { z := (.agg #[(.bool false), (.slice none 0 0), (.slice none 0 0)]), size := 3, bytes := 56, agg := true, sl := none, arr := none, fs := [(0, 4), (1, 56), (2, 56)] }
theorem y58_ok : OKt Tryz.prog 58 y58 := ⟨by kernel_rfl, ⟨_, Tryz.underlying58, rfl, rfl, rfl, rfl, rfl, rfl, rfl⟩, (fun h => by cases h), rfl⟩
noncomputable def y59 : Ty := { z := (.int .u32 0), size := 1, bytes := 4, agg := false, sl := none, arr := none, fs := [], ik := some .u32 }
theorem y59_ok : OKt Tryz.prog 59 y59 := ⟨by kernel_rfl, ⟨_, Tryz.underlying59, rfl, rfl, rfl, rfl, rfl, rfl, rfl⟩, fun _ => rfl, rfl⟩
noncomputable def y61 : Ty := { z := .nilFunc, size := 1, bytes := 8, agg := false, sl := none, arr := none, fs := [] }
theorem y61_ok : OKt Tryz.prog 61 y61 := ⟨by kernel_rfl, ⟨_, Tryz.underlying61, rfl, rfl, rfl, rfl, rfl, rfl, rfl⟩, fun _ => rfl, rfl⟩
noncomputable def y63 : Ty := { z := .nilFunc, size := 1, bytes := 8, agg := false, sl := none, arr := none, fs := [] }
theorem y63_ok : OKt Tryz.prog 63 y63 := ⟨by kernel_rfl, ⟨_, Tryz.underlying63, rfl, rfl, rfl, rfl, rfl, rfl, rfl⟩, fun _ => rfl, rfl⟩
noncomputable def y66 : Ty := { z := .nilFunc, size := 1, bytes := 8, agg := false, sl := none, arr := none, fs := [] }
theorem y66_ok : OKt Tryz.prog 66 y66 := ⟨by kernel_rfl, ⟨_, Tryz.underlying66, rfl, rfl, rfl, rfl, rfl, rfl, rfl⟩, fun _ => rfl, rfl⟩
noncomputable def y67 : Ty := { z := .nilFunc, size := 1, bytes := 8, agg := false, sl := none, arr := none, fs := [] }
theorem y67_ok : OKt Tryz.prog 67 y67 := ⟨by kernel_rfl, ⟨_, Tryz.underlying67, rfl, rfl, rfl, rfl, rfl, rfl, rfl⟩, fun _ => rfl, rfl⟩
noncomputable def y70 : Ty := { z := (.slice none 0 0), size := 1, bytes := 24, agg := false, sl := some 3, arr := none, fs := [] }
theorem y70_ok : OKt Tryz.prog 70 y70 := ⟨by kernel_rfl, ⟨_, Tryz.underlying70, rfl, rfl, rfl, rfl, rfl, rfl, rfl⟩, fun _ => rfl, rfl⟩
noncomputable def y72 : Ty := { z := (.agg #[(.bool false), (.slice none 0 0), (.slice none 0 0)]), size := 3, bytes := 56, agg := true, sl := none, arr := none, fs := [(0, 4), (1, 70), (2, 70)] }
theorem y72_ok : OKt Tryz.prog 72 y72 := ⟨by kernel_rfl, ⟨_, Tryz.underlying72, rfl, rfl, rfl, rfl, rfl, rfl, rfl⟩, (fun h => by cases h), rfl⟩
noncomputable def y76 : Ty := { z := .nilFunc, size := 1, bytes := 8, agg := false, sl := none, arr := none, fs := [] }
theorem y76_ok : OKt Tryz.prog 76 y76 := ⟨by kernel_rfl, ⟨_, Tryz.underlying76, rfl, rfl, rfl, rfl, rfl, rfl, rfl⟩, fun _ => rfl, rfl⟩
noncomputable def y77 : Ty := { z := .nilFunc, size := 1, bytes := 8, agg := false, sl := none, arr := none, fs := [] }
theorem y77_ok : OKt Tryz.prog 77 y77 := ⟨by kernel_rfl, ⟨_, Tryz.underlying77, rfl, rfl, rfl, rfl, rfl, rfl, rfl⟩, fun _ => rfl, rfl⟩
noncomputable def y78 : Ty := { z := .nilFunc, size := 1, bytes := 8, agg := false, sl := none, arr := none, fs := [] }
theorem y78_ok : OKt Tryz.prog 78 y78 := ⟨by kernel_rfl, ⟨_, Tryz.underlying78, rfl, rfl, rfl, rfl, rfl, rfl, rfl⟩, fun _ => rfl, rfl⟩
noncomputable def y79 : Ty := { z := (.agg #[(.int .i64 0), (.int .i64 0)]), size := 2, bytes := 16, agg := true, sl := none, arr := some (2, 3), fs := [] }
theorem y79_ok : OKt Tryz.prog 79 y79 := ⟨by kernel_rfl, ⟨_, Tryz.underlying79, rfl, rfl, rfl, rfl, rfl, rfl, rfl⟩, (fun h => by cases h), rfl⟩
noncomputable def y80 : Ty := { z := .nilFunc, size := 1, bytes := 8, agg := false, sl := none, arr := none, fs := [] }
theorem y80_ok : OKt Tryz.prog 80 y80 := ⟨by kernel_rfl, ⟨_, Tryz.underlying80, rfl, rfl, rfl, rfl, rfl, rfl, rfl⟩, fun _ => rfl, rfl⟩
noncomputable def y81 : Ty := { z := .nilFunc, size := 1, bytes := 8, agg := false, sl := none, arr := none, fs := [] }
theorem y81_ok : OKt Tryz.prog 81 y81 := ⟨by kernel_rfl, ⟨_, Tryz.underlying81, rfl, rfl, rfl, rfl, rfl, rfl, rfl⟩, fun _ => rfl, rfl⟩
noncomputable def y82 : Ty := { z := .nilFunc, size := 1, bytes := 8, agg := false, sl := none, arr := none, fs := [] }
theorem y82_ok : OKt Tryz.prog 82 y82 := ⟨by kernel_rfl, ⟨_, Tryz.underlying82, rfl, rfl, rfl, rfl, rfl, rfl, rfl⟩, fun _ => rfl, rfl⟩
noncomputable def y83 : Ty := { z := .nilFunc, size := 1, bytes := 8, agg := false, sl := none, arr := none, fs := [] }
theorem y83_ok : OKt Tryz.prog 83 y83 := ⟨by kernel_rfl, ⟨_, Tryz.underlying83, rfl, rfl, rfl, rfl, rfl, rfl, rfl⟩, fun _ => rfl, rfl⟩
noncomputable def y84 : Ty := { z := .nilFunc, size := 1, bytes := 8, agg := false, sl := none, arr := none, fs := [] }
theorem y84_ok : OKt Tryz.prog 84 y84 := ⟨by kernel_rfl, ⟨_, Tryz.underlying84, rfl, rfl, rfl, rfl, rfl, rfl, rfl⟩, fun _ => rfl, rfl⟩
noncomputable def y85 : Ty := { z := .nilFunc, size := 1, bytes := 8, agg := false, sl := none, arr := none, fs := [] }
theorem y85_ok : OKt Tryz.prog 85 y85 := ⟨by kernel_rfl, ⟨_, Tryz.underlying85, rfl, rfl, rfl, rfl, rfl, rfl, rfl⟩, fun _ => rfl, rfl⟩
noncomputable def y86 : Ty := { z := .nilFunc, size := 1, bytes := 8, agg := false, sl := none, arr := none, fs := [] }
theorem y86_ok : OKt Tryz.prog 86 y86 := ⟨by kernel_rfl, ⟨_, Tryz.underlying86, rfl, rfl, rfl, rfl, rfl, rfl, rfl⟩, fun _ => rfl, rfl⟩
noncomputable def y87 : Ty := { z := .nilFunc, size := 1, bytes := 8, agg := false, sl := none, arr := none, fs := [] }
theorem y87_ok : OKt Tryz.prog 87 y87 := ⟨by kernel_rfl, ⟨_, Tryz.underlying87, rfl, rfl, rfl, rfl, rfl, rfl, rfl⟩, fun _ => rfl, rfl⟩
noncomputable def y88 : Ty := { z := .nilFunc, size := 1, bytes := 8, agg := false, sl := none, arr := none, fs := [] }
theorem y88_ok : OKt Tryz.prog 88 y88 := ⟨by kernel_rfl, ⟨_, Tryz.underlying88, rfl, rfl, rfl, rfl, rfl, rfl, rfl⟩, fun _ => rfl, rfl⟩
noncomputable def y89 : Ty := { z := .nilFunc, size := 1, bytes := 8, agg := false, sl := none, arr := none, fs := [] }
theorem y89_ok : OKt Tryz.prog 89 y89 := ⟨by kernel_rfl, ⟨_, Tryz.underlying89, rfl, rfl, rfl, rfl, rfl, rfl, rfl⟩, fun _ => rfl, rfl⟩
noncomputable def y92 : Ty := { z := .nilFunc, size := 1, bytes := 8, agg := false, sl := none, arr := none, fs := [] }
theorem y92_ok : OKt Tryz.prog 92 y92 := ⟨by kernel_rfl, ⟨_, Tryz.underlying92, rfl, rfl, rfl, rfl, rfl, rfl, rfl⟩, fun _ => rfl, rfl⟩
noncomputable def y99 : Ty := { z := (.agg #[(.slice none 0 0), (.slice none 0 0)]), size := 2, bytes := 48, agg := true, sl := none, arr := none, fs := [(0, 23), (1, 24)] }
theorem y99_ok : OKt Tryz.prog 99 y99 := ⟨by kernel_rfl, ⟨_, Tryz.underlying99, rfl, rfl, rfl, rfl, rfl, rfl, rfl⟩, (fun h => by cases h), rfl⟩
noncomputable def y100 : Ty := { z := .nilFunc, size := 1, bytes := 8, agg := false, sl := none, arr := none, fs := [] }
theorem y100_ok : OKt Tryz.prog 100 y100 := ⟨by kernel_rfl, ⟨_, Tryz.underlying100, rfl, rfl, rfl, rfl, rfl, rfl, rfl⟩, fun _ => rfl, rfl⟩
noncomputable def y101 : Ty := { z := .nilFunc, size := 1, bytes := 8, agg := false, sl := none, arr := none, fs := [] }
theorem y101_ok : OKt Tryz.prog 101 y101 := ⟨by kernel_rfl, ⟨_, Tryz.underlying101, rfl, rfl, rfl, rfl, rfl, rfl, rfl⟩, fun _ => rfl, rfl⟩
noncomputable def y102 : Ty := { z := .nilFunc, size := 1, bytes := 8, agg := false, sl := none, arr := none, fs := [] }
theorem y102_ok : OKt Tryz.prog 102 y102 := ⟨by kernel_rfl, ⟨_, Tryz.underlying102, rfl, rfl, rfl, rfl, rfl, rfl, rfl⟩, fun _ => rfl, rfl⟩
noncomputable def y103 : Ty := { z := .nilFunc, size := 1, bytes := 8, agg := false, sl := none, arr := none, fs := [] }
theorem y103_ok : OKt Tryz.prog 103 y103 := ⟨by kernel_rfl, ⟨_, Tryz.underlying103, rfl, rfl, rfl, rfl, rfl, rfl, rfl⟩, fun _ => rfl, rfl⟩
noncomputable def y104 : Ty := { z := .nilFunc, size := 1, bytes := 8, agg := false, sl := none, arr := none, fs := [] }
theorem y104_ok : OKt Tryz.prog 104 y104 := ⟨by kernel_rfl, ⟨_, Tryz.underlying104, rfl, rfl, rfl, rfl, rfl, rfl, rfl⟩, fun _ => rfl, rfl⟩
noncomputable def y105 : Ty := { z := .nilFunc, size := 1, bytes := 8, agg := false, sl := none, arr := none, fs := [] }
theorem y105_ok : OKt Tryz.prog 105 y105 := ⟨by kernel_rfl, ⟨_, Tryz.underlying105, rfl, rfl, rfl, rfl, rfl, rfl, rfl⟩, fun _ => rfl, rfl⟩
noncomputable def y106 : Ty := { z := .nilFunc, size := 1, bytes := 8, agg := false, sl := none, arr := none, fs := [] }
theorem y106_ok : OKt Tryz.prog 106 y106 := ⟨by kernel_rfl, ⟨_, Tryz.underlying106, rfl, rfl, rfl, rfl, rfl, rfl, rfl⟩, fun _ => rfl, rfl⟩
noncomputable def y107 : Ty := { z := .nilFunc, size := 1, bytes := 8, agg := false, sl := none, arr := none, fs := [] }
theorem y107_ok : OKt Tryz.prog 107 y107 := ⟨by kernel_rfl, ⟨_, Tryz.underlying107, rfl, rfl, rfl, rfl, rfl, rfl, rfl⟩, fun _ => rfl, rfl⟩
noncomputable def y108 : Ty := { z := .nilFunc, size := 1, bytes := 8, agg := false, sl := none, arr := none, fs := [] }
theorem y108_ok : OKt Tryz.prog 108 y108 := ⟨by kernel_rfl, ⟨_, Tryz.underlying108, rfl, rfl, rfl, rfl, rfl, rfl, rfl⟩, fun _ => rfl, rfl⟩
noncomputable def y109 : Ty := { z := .nilFunc, size := 1, bytes := 8, agg := false, sl := none, arr := none, fs := [] }
theorem y109_ok : OKt Tryz.prog 109 y109 := ⟨by kernel_rfl, ⟨_, Tryz.underlying109, rfl, rfl, rfl, rfl, rfl, rfl, rfl⟩, fun _ => rfl, rfl⟩
noncomputable def y110 : Ty := { z := .nilFunc, size := 1, bytes := 8, agg := false, sl := none, arr := none, fs := [] }
theorem y110_ok : OKt Tryz.prog 110 y110 := ⟨by kernel_rfl, ⟨_, Tryz.underlying110, rfl, rfl, rfl, rfl, rfl, rfl, rfl⟩, fun _ => rfl, rfl⟩
noncomputable def y111 : Ty := { z := .nilFunc, size := 1, bytes := 8, agg := false, sl := none, arr := none, fs := [] }
theorem y111_ok : OKt Tryz.prog 111 y111 := ⟨by kernel_rfl, ⟨_, Tryz.underlying111, rfl, rfl, rfl, rfl, rfl, rfl, rfl⟩, fun _ => rfl, rfl⟩
noncomputable def y120 : Ty := { z := .nilFunc, size := 1, bytes := 8, agg := false, sl := none, arr := none, fs := [] }
theorem y120_ok : OKt Tryz.prog 120 y120 := ⟨by kernel_rfl, ⟨_, Tryz.underlying120, rfl, rfl, rfl, rfl, rfl, rfl, rfl⟩, fun _ => rfl, rfl⟩
noncomputable def y122 : Ty := { z := .nilFunc, size := 1, bytes := 8, agg := false, sl := none, arr := none, fs := [] }
theorem y122_ok : OKt Tryz.prog 122 y122 := ⟨by kernel_rfl, ⟨_, Tryz.underlying122, rfl, rfl, rfl, rfl, rfl, rfl, rfl⟩, fun _ => rfl, rfl⟩
noncomputable def y123 : Ty := { z := .nilFunc, size := 1, bytes := 8, agg := false, sl := none, arr := none, fs := [] }
theorem y123_ok : OKt Tryz.prog 123 y123 := ⟨by kernel_rfl, ⟨_, Tryz.underlying123, rfl, rfl, rfl, rfl, rfl, rfl, rfl⟩, fun _ => rfl, rfl⟩
noncomputable def y124 : Ty := { z := .nilFunc, size := 1, bytes := 8, agg := false, sl := none, arr := none, fs := [] }
theorem y124_ok : OKt Tryz.prog 124 y124 := ⟨by kernel_rfl, ⟨_, Tryz.underlying124, rfl, rfl, rfl, rfl, rfl, rfl, rfl⟩, fun _ => rfl, rfl⟩
noncomputable def y125 : Ty := { z := .nilFunc, size := 1, bytes := 8, agg := false, sl := none, arr := none, fs := [] }
theorem y125_ok : OKt Tryz.prog 125 y125 := ⟨by kernel_rfl, ⟨_, Tryz.underlying125, rfl, rfl, rfl, rfl, rfl, rfl, rfl⟩, fun _ => rfl, rfl⟩
noncomputable def y126 : Ty := { z := .nilFunc, size := 1, bytes := 8, agg := false, sl := none, arr := none, fs := [] }
theorem y126_ok : OKt Tryz.prog 126 y126 := ⟨by kernel_rfl, ⟨_, Tryz.underlying126, rfl, rfl, rfl, rfl, rfl, rfl, rfl⟩, fun _ => rfl, rfl⟩
noncomputable def y127 : Ty := { z := (.agg #[(.bool false)]), size := 1, bytes := 1, agg := true, sl := none, arr := none, fs := [(0, 4)] }
theorem y127_ok : OKt Tryz.prog 127 y127 := ⟨by kernel_rfl, ⟨_, Tryz.underlying127, rfl, rfl, rfl, rfl, rfl, rfl, rfl⟩, (fun h => by cases h), rfl⟩
noncomputable def y128 : Ty := { z := (.agg #[(.bool false)]), size := 1, bytes := 1, agg := true, sl := none, arr := none, fs := [(0, 4)] }
theorem y128_ok : OKt Tryz.prog 128 y128 := ⟨by kernel_rfl, ⟨_, Tryz.underlying128, rfl, rfl, rfl, rfl, rfl, rfl, rfl⟩, (fun h => by cases h), rfl⟩
noncomputable def y130 : Ty := { z := .nilFunc, size := 1, bytes := 8, agg := false, sl := none, arr := none, fs := [] }
theorem y130_ok : OKt Tryz.prog 130 y130 := ⟨by kernel_rfl, ⟨_, Tryz.underlying130, rfl, rfl, rfl, rfl, rfl, rfl, rfl⟩, fun _ => rfl, rfl⟩
noncomputable def y131 : Ty := { z := .nilFunc, size := 1, bytes := 8, agg := false, sl := none, arr := none, fs := [] }
theorem y131_ok : OKt Tryz.prog 131 y131 := ⟨by kernel_rfl, ⟨_, Tryz.underlying131, rfl, rfl, rfl, rfl, rfl, rfl, rfl⟩, fun _ => rfl, rfl⟩
noncomputable def y134 : Ty := { z := .nilFunc, size := 1, bytes := 8, agg := false, sl := none, arr := none, fs := [] }
theorem y134_ok : OKt Tryz.prog 134 y134 := ⟨by kernel_rfl, ⟨_, Tryz.underlying134, rfl, rfl, rfl, rfl, rfl, rfl, rfl⟩, fun _ => rfl, rfl⟩
noncomputable def y135 : Ty := { z := .nilFunc, size := 1, bytes := 8, agg := false, sl := none, arr := none, fs := [] }
theorem y135_ok : OKt Tryz.prog 135 y135 := ⟨by kernel_rfl, ⟨_, Tryz.underlying135, rfl, rfl, rfl, rfl, rfl, rfl, rfl⟩, fun _ => rfl, rfl⟩
noncomputable def y138 : Ty := { z := .nilFunc, size := 1, bytes := 8, agg := false, sl := none, arr := none, fs := [] }
theorem y138_ok : OKt Tryz.prog 138 y138 := ⟨by kernel_rfl, ⟨_, Tryz.underlying138, rfl, rfl, rfl, rfl, rfl, rfl, rfl⟩, fun _ => rfl, rfl⟩
noncomputable def y139 : Ty := { z := .nilFunc, size := 1, bytes := 8, agg := false, sl := none, arr := none, fs := [] }
theorem y139_ok : OKt Tryz.prog 139 y139 := ⟨by kernel_rfl, ⟨_, Tryz.underlying139, rfl, rfl, rfl, rfl, rfl, rfl, rfl⟩, fun _ => rfl, rfl⟩
noncomputable def y140 : Ty := { z := .nilFunc, size := 1, bytes := 8, agg := false, sl := none, arr := none, fs := [] }
theorem y140_ok : OKt Tryz.prog 140 y140 := ⟨by kernel_rfl, ⟨_, Tryz.underlying140, rfl, rfl, rfl, rfl, rfl, rfl, rfl⟩, fun _ => rfl, rfl⟩
noncomputable def y141 : Ty := { z := .nilFunc, size := 1, bytes := 8, agg := false, sl := none, arr := none, fs := [] }
theorem y141_ok : OKt Tryz.prog 141 y141 := ⟨by kernel_rfl, ⟨_, Tryz.underlying141, rfl, rfl, rfl, rfl, rfl, rfl, rfl⟩, fun _ => rfl, rfl⟩
noncomputable def y142 : Ty := { z := (.int .u64 0), size := 1, bytes := 8, agg := false, sl := none, arr := none, fs := [], ik := some .u64 }
theorem y142_ok : OKt Tryz.prog 142 y142 := ⟨by kernel_rfl, ⟨_, Tryz.underlying142, rfl, rfl, rfl, rfl, rfl, rfl, rfl⟩, fun _ => rfl, rfl⟩
noncomputable def y154 : Ty := { z := (.int .u64 0), size := 1, bytes := 8, agg := false, sl := none, arr := none, fs := [], ik := some .u64 }
theorem y154_ok : OKt Tryz.prog 154 y154 := ⟨by kernel_rfl, ⟨_, Tryz.underlying154, rfl, rfl, rfl, rfl, rfl, rfl, rfl⟩, fun _ => rfl, rfl⟩
noncomputable def y160 : Ty := { z := .nilFunc, size := 1, bytes := 8, agg := false, sl := none, arr := none, fs := [] }
theorem y160_ok : OKt Tryz.prog 160 y160 := ⟨by kernel_rfl, ⟨_, Tryz.underlying160, rfl, rfl, rfl, rfl, rfl, rfl, rfl⟩, fun _ => rfl, rfl⟩
noncomputable def y168 : Ty := { z := (.int .i64 0), size := 1, bytes := 8, agg := false, sl := none, arr := none, fs := [], ik := some .i64 }
theorem y168_ok : OKt Tryz.prog 168 y168 := ⟨by kernel_rfl, ⟨_, Tryz.underlying168, rfl, rfl, rfl, rfl, rfl, rfl, rfl⟩, fun _ => rfl, rfl⟩
noncomputable def y182 : Ty := { z := (.slice none 0 0), size := 1, bytes := 24, agg := false, sl := some 56, arr := none, fs := [] }
theorem y182_ok : OKt Tryz.prog 182 y182 := ⟨by kernel_rfl, ⟨_, Tryz.underlying182, rfl, rfl, rfl, rfl, rfl, rfl, rfl⟩, fun _ => rfl, rfl⟩
noncomputable def y183 : Ty := { z := (.int .u64 0), size := 1, bytes := 8, agg := false, sl := none, arr := none, fs := [], ik := some .u64 }
theorem y183_ok : OKt Tryz.prog 183 y183 := ⟨by kernel_rfl, ⟨_, Tryz.underlying183, rfl, rfl, rfl, rfl, rfl, rfl, rfl⟩, fun _ => rfl, rfl⟩
noncomputable def y187 : Ty := { z := (.pointer none), size := 1, bytes := 8, agg := false, sl := none, arr := none, fs := [] }
theorem y187_ok : OKt Tryz.prog 187 y187 := ⟨by kernel_rfl, ⟨_, Tryz.underlying187, rfl, rfl, rfl, rfl, rfl, rfl, rfl⟩, fun _ => rfl, rfl⟩
noncomputable def ty : TypeId → Ty
 | 1 => y1
 | 2 => y2
 | 3 => y3
 | 4 => y4
 | 5 => y5
 | 6 => y6
 | 7 => y7
 | 8 => y8
 | 9 => y9
 | 10 => y10
 | 11 => y11
 | 12 => y12
 | 13 => y13
 | 14 => y14
 | 15 => y15
 | 16 => y16
 | 17 => y17
 | 18 => y18
 | 19 => y19
 | 21 => y21
 | 22 => y22
 | 23 => y23
 | 24 => y24
 | 25 => y25
 | 26 => y26
 | 27 => y27
 | 29 => y29
 | 30 => y30
 | 31 => y31
 | 32 => y32
 | 33 => y33
 | 34 => y34
 | 36 => y36
 | 37 => y37
 | 38 => y38
 | 39 => y39
 | 40 => y40
 | 41 => y41
 | 42 => y42
 | 43 => y43
 | 44 => y44
 | 45 => y45
 | 46 => y46
 | 47 => y47
 | 48 => y48
 | 49 => y49
 | 50 => y50
 | 51 => y51
 | 52 => y52
 | 53 => y53
 | 54 => y54
 | 55 => y55
 | 56 => y56
 | 57 => y57
 | 58 => y58
 | 59 => y59
 | 61 => y61
 | 63 => y63
 | 66 => y66
 | 67 => y67
 | 70 => y70
 | 72 => y72
 | 76 => y76
 | 77 => y77
 | 78 => y78
 | 79 => y79
 | 80 => y80
 | 81 => y81
 | 82 => y82
 | 83 => y83
 | 84 => y84
 | 85 => y85
 | 86 => y86
 | 87 => y87
 | 88 => y88
 | 89 => y89
 | 92 => y92
 | 99 => y99
 | 100 => y100
 | 101 => y101
 | 102 => y102
 | 103 => y103
 | 104 => y104
 | 105 => y105
 | 106 => y106
 | 107 => y107
 | 108 => y108
 | 109 => y109
 | 110 => y110
 | 111 => y111
 | 120 => y120
 | 122 => y122
 | 123 => y123
 | 124 => y124
 | 125 => y125
 | 126 => y126
 | 127 => y127
 | 128 => y128
 | 130 => y130
 | 131 => y131
 | 134 => y134
 | 135 => y135
 | 138 => y138
 | 139 => y139
 | 140 => y140
 | 141 => y141
 | 142 => y142
 | 154 => y154
 | 160 => y160
 | 168 => y168
 | 182 => y182
 | 183 => y183
 | 187 => y187
 | _ => Ty.none
theorem Xkw : ∀ t, (ty t).ok = true → OKt Tryz.prog t (ty t) := by
 intro t h;unfold ty at h ⊢;split at h
 ·exact y1_ok
 ·exact y2_ok
 ·exact y3_ok
 ·exact y4_ok
 ·exact y5_ok
 ·exact y6_ok
 ·exact y7_ok
 ·exact y8_ok
 ·exact y9_ok
 ·exact y10_ok
 ·exact y11_ok
 ·exact y12_ok
 ·exact y13_ok
 ·exact y14_ok
 ·exact y15_ok
 ·exact y16_ok
 ·exact y17_ok
 ·exact y18_ok
 ·exact y19_ok
 ·exact y21_ok
 ·exact y22_ok
 ·exact y23_ok
 ·exact y24_ok
 ·exact y25_ok
 ·exact y26_ok
 ·exact y27_ok
 ·exact y29_ok
 ·exact y30_ok
 ·exact y31_ok
 ·exact y32_ok
 ·exact y33_ok
 ·exact y34_ok
 ·exact y36_ok
 ·exact y37_ok
 ·exact y38_ok
 ·exact y39_ok
 ·exact y40_ok
 ·exact y41_ok
 ·exact y42_ok
 ·exact y43_ok
 ·exact y44_ok
 ·exact y45_ok
 ·exact y46_ok
 ·exact y47_ok
 ·exact y48_ok
 ·exact y49_ok
 ·exact y50_ok
 ·exact y51_ok
 ·exact y52_ok
 ·exact y53_ok
 ·exact y54_ok
 ·exact y55_ok
 ·exact y56_ok
 ·exact y57_ok
 ·exact y58_ok
 ·exact y59_ok
 ·exact y61_ok
 ·exact y63_ok
 ·exact y66_ok
 ·exact y67_ok
 ·exact y70_ok
 ·exact y72_ok
 ·exact y76_ok
 ·exact y77_ok
 ·exact y78_ok
 ·exact y79_ok
 ·exact y80_ok
 ·exact y81_ok
 ·exact y82_ok
 ·exact y83_ok
 ·exact y84_ok
 ·exact y85_ok
 ·exact y86_ok
 ·exact y87_ok
 ·exact y88_ok
 ·exact y89_ok
 ·exact y92_ok
 ·exact y99_ok
 ·exact y100_ok
 ·exact y101_ok
 ·exact y102_ok
 ·exact y103_ok
 ·exact y104_ok
 ·exact y105_ok
 ·exact y106_ok
 ·exact y107_ok
 ·exact y108_ok
 ·exact y109_ok
 ·exact y110_ok
 ·exact y111_ok
 ·exact y120_ok
 ·exact y122_ok
 ·exact y123_ok
 ·exact y124_ok
 ·exact y125_ok
 ·exact y126_ok
 ·exact y127_ok
 ·exact y128_ok
 ·exact y130_ok
 ·exact y131_ok
 ·exact y134_ok
 ·exact y135_ok
 ·exact y138_ok
 ·exact y139_ok
 ·exact y140_ok
 ·exact y141_ok
 ·exact y142_ok
 ·exact y154_ok
 ·exact y160_ok
 ·exact y168_ok
 ·exact y182_ok
 ·exact y183_ok
 ·exact y187_ok
 ·cases h
noncomputable def C : Ctx := ⟨Tryz.prog, ty, Xkw⟩
theorem Qe : C.P.follows .mixedOrders = true := by kernel_rfl
@[go_sem] theorem t1ok : (C.ty 1).ok = true := rfl
@[go_sem] theorem t1size : (C.ty 1).size = 1 := rfl
@[go_sem] theorem t1bytes : (C.ty 1).bytes = 8 := rfl
@[go_sem] theorem t1agg : (C.ty 1).agg = false := rfl
@[go_sem] theorem t2ok : (C.ty 2).ok = true := rfl
@[go_sem] theorem t2size : (C.ty 2).size = 1 := rfl
@[go_sem] theorem t2bytes : (C.ty 2).bytes = 8 := rfl
@[go_sem] theorem t2agg : (C.ty 2).agg = false := rfl
@[go_sem] theorem t2ik : (C.ty 2).ik = some .i64 := rfl
@[go_sem] theorem t2z : Xr (C.ty 2) = ((.int .i64 0) : Value).cells.toList.map cv1 := rfl
@[go_sem] theorem t3ok : (C.ty 3).ok = true := rfl
@[go_sem] theorem t3size : (C.ty 3).size = 1 := rfl
@[go_sem] theorem t3bytes : (C.ty 3).bytes = 8 := rfl
@[go_sem] theorem t3agg : (C.ty 3).agg = false := rfl
@[go_sem] theorem t3ik : (C.ty 3).ik = some .i64 := rfl
@[go_sem] theorem t3z : Xr (C.ty 3) = ((.int .i64 0) : Value).cells.toList.map cv1 := rfl
@[go_sem] theorem t4ok : (C.ty 4).ok = true := rfl
@[go_sem] theorem t4size : (C.ty 4).size = 1 := rfl
@[go_sem] theorem t4bytes : (C.ty 4).bytes = 1 := rfl
@[go_sem] theorem t4agg : (C.ty 4).agg = false := rfl
@[go_sem] theorem t4bl : (C.ty 4).bl = true := rfl
@[go_sem] theorem t4z : Xr (C.ty 4) = ((.bool false) : Value).cells.toList.map cv1 := rfl
@[go_sem] theorem t5ok : (C.ty 5).ok = true := rfl
@[go_sem] theorem t5size : (C.ty 5).size = 1 := rfl
@[go_sem] theorem t5bytes : (C.ty 5).bytes = 1 := rfl
@[go_sem] theorem t5agg : (C.ty 5).agg = false := rfl
@[go_sem] theorem t5ik : (C.ty 5).ik = some .u8 := rfl
@[go_sem] theorem t5z : Xr (C.ty 5) = ((.int .u8 0) : Value).cells.toList.map cv1 := rfl
@[go_sem] theorem t6ok : (C.ty 6).ok = true := rfl
@[go_sem] theorem t6size : (C.ty 6).size = 1 := rfl
@[go_sem] theorem t6bytes : (C.ty 6).bytes = 1 := rfl
@[go_sem] theorem t6agg : (C.ty 6).agg = false := rfl
@[go_sem] theorem t6ik : (C.ty 6).ik = some .u8 := rfl
@[go_sem] theorem t6z : Xr (C.ty 6) = ((.int .u8 0) : Value).cells.toList.map cv1 := rfl
@[go_sem] theorem t7ok : (C.ty 7).ok = true := rfl
@[go_sem] theorem t7size : (C.ty 7).size = 4 := rfl
@[go_sem] theorem t7bytes : (C.ty 7).bytes = 24 := rfl
@[go_sem] theorem t7agg : (C.ty 7).agg = true := rfl
@[go_sem] theorem t7fs : (C.ty 7).fs = [(0, 2), (1, 3), (2, 4), (3, 6)] := rfl
@[go_sem] theorem t7arr : (C.ty 7).arr = none := rfl
@[go_sem] theorem t7z : Xr (C.ty 7) = ((.agg #[(.int .i64 0), (.int .i64 0), (.bool false), (.int .u8 0)]) : Value).cells.toList.map cv1 := rfl
@[go_sem] theorem t8ok : (C.ty 8).ok = true := rfl
@[go_sem] theorem t8size : (C.ty 8).size = 4 := rfl
@[go_sem] theorem t8bytes : (C.ty 8).bytes = 24 := rfl
@[go_sem] theorem t8agg : (C.ty 8).agg = true := rfl
@[go_sem] theorem t8fs : (C.ty 8).fs = [(0, 2), (1, 3), (2, 4), (3, 6)] := rfl
@[go_sem] theorem t8arr : (C.ty 8).arr = none := rfl
@[go_sem] theorem t8z : Xr (C.ty 8) = ((.agg #[(.int .i64 0), (.int .i64 0), (.bool false), (.int .u8 0)]) : Value).cells.toList.map cv1 := rfl
@[go_sem] theorem t9ok : (C.ty 9).ok = true := rfl
@[go_sem] theorem t9size : (C.ty 9).size = 1 := rfl
@[go_sem] theorem t9bytes : (C.ty 9).bytes = 16 := rfl
@[go_sem] theorem t9agg : (C.ty 9).agg = false := rfl
@[go_sem] theorem t9str : (C.ty 9).str = true := rfl
@[go_sem] theorem t9arr : (C.ty 9).arr = none := rfl
@[go_sem] theorem t9z : Xr (C.ty 9) = ((.string ⟨#[]⟩) : Value).cells.toList.map cv1 := rfl
@[go_sem] theorem t10ok : (C.ty 10).ok = true := rfl
@[go_sem] theorem t10size : (C.ty 10).size = 1 := rfl
@[go_sem] theorem t10bytes : (C.ty 10).bytes = 16 := rfl
@[go_sem] theorem t10agg : (C.ty 10).agg = false := rfl
@[go_sem] theorem t10str : (C.ty 10).str = true := rfl
@[go_sem] theorem t10arr : (C.ty 10).arr = none := rfl
@[go_sem] theorem t10z : Xr (C.ty 10) = ((.string ⟨#[]⟩) : Value).cells.toList.map cv1 := rfl
@[go_sem] theorem t11ok : (C.ty 11).ok = true := rfl
@[go_sem] theorem t11size : (C.ty 11).size = 1 := rfl
@[go_sem] theorem t11bytes : (C.ty 11).bytes = 16 := rfl
@[go_sem] theorem t11agg : (C.ty 11).agg = false := rfl
@[go_sem] theorem t11str : (C.ty 11).str = true := rfl
@[go_sem] theorem t11arr : (C.ty 11).arr = none := rfl
@[go_sem] theorem t11z : Xr (C.ty 11) = ((.string ⟨#[]⟩) : Value).cells.toList.map cv1 := rfl
@[go_sem] theorem t12ok : (C.ty 12).ok = true := rfl
@[go_sem] theorem t12size : (C.ty 12).size = 1 := rfl
@[go_sem] theorem t12bytes : (C.ty 12).bytes = 8 := rfl
@[go_sem] theorem t12agg : (C.ty 12).agg = false := rfl
@[go_sem] theorem t12ik : (C.ty 12).ik = some .u64 := rfl
@[go_sem] theorem t12z : Xr (C.ty 12) = ((.int .u64 0) : Value).cells.toList.map cv1 := rfl
@[go_sem] theorem t13ok : (C.ty 13).ok = true := rfl
@[go_sem] theorem t13size : (C.ty 13).size = 2 := rfl
@[go_sem] theorem t13bytes : (C.ty 13).bytes = 24 := rfl
@[go_sem] theorem t13agg : (C.ty 13).agg = true := rfl
@[go_sem] theorem t13fs : (C.ty 13).fs = [(0, 9), (1, 12)] := rfl
@[go_sem] theorem t13arr : (C.ty 13).arr = none := rfl
@[go_sem] theorem t13z : Xr (C.ty 13) = ((.agg #[(.string ⟨#[]⟩), (.int .u64 0)]) : Value).cells.toList.map cv1 := rfl
@[go_sem] theorem t14ok : (C.ty 14).ok = true := rfl
@[go_sem] theorem t14size : (C.ty 14).size = 2 := rfl
@[go_sem] theorem t14bytes : (C.ty 14).bytes = 24 := rfl
@[go_sem] theorem t14agg : (C.ty 14).agg = true := rfl
@[go_sem] theorem t14fs : (C.ty 14).fs = [(0, 9), (1, 12)] := rfl
@[go_sem] theorem t14arr : (C.ty 14).arr = none := rfl
@[go_sem] theorem t14z : Xr (C.ty 14) = ((.agg #[(.string ⟨#[]⟩), (.int .u64 0)]) : Value).cells.toList.map cv1 := rfl
@[go_sem] theorem t15ok : (C.ty 15).ok = true := rfl
@[go_sem] theorem t15size : (C.ty 15).size = 1 := rfl
@[go_sem] theorem t15bytes : (C.ty 15).bytes = 8 := rfl
@[go_sem] theorem t15agg : (C.ty 15).agg = false := rfl
@[go_sem] theorem t15z : Xr (C.ty 15) = ((.pointer none) : Value).cells.toList.map cv1 := rfl
@[go_sem] theorem t16ok : (C.ty 16).ok = true := rfl
@[go_sem] theorem t16size : (C.ty 16).size = 1 := rfl
@[go_sem] theorem t16bytes : (C.ty 16).bytes = 8 := rfl
@[go_sem] theorem t16agg : (C.ty 16).agg = false := rfl
@[go_sem] theorem t16z : Xr (C.ty 16) = ((.pointer none) : Value).cells.toList.map cv1 := rfl
@[go_sem] theorem t17ok : (C.ty 17).ok = true := rfl
@[go_sem] theorem t17size : (C.ty 17).size = 1 := rfl
@[go_sem] theorem t17bytes : (C.ty 17).bytes = 8 := rfl
@[go_sem] theorem t17agg : (C.ty 17).agg = false := rfl
@[go_sem] theorem t17z : Xr (C.ty 17) = ((.pointer none) : Value).cells.toList.map cv1 := rfl
@[go_sem] theorem t18ok : (C.ty 18).ok = true := rfl
@[go_sem] theorem t18size : (C.ty 18).size = 1 := rfl
@[go_sem] theorem t18bytes : (C.ty 18).bytes = 8 := rfl
@[go_sem] theorem t18agg : (C.ty 18).agg = true := rfl
@[go_sem] theorem t18fs : (C.ty 18).fs = [(0, 17)] := rfl
@[go_sem] theorem t18arr : (C.ty 18).arr = none := rfl
@[go_sem] theorem t18z : Xr (C.ty 18) = ((.agg #[(.pointer none)]) : Value).cells.toList.map cv1 := rfl
@[go_sem] theorem t19ok : (C.ty 19).ok = true := rfl
@[go_sem] theorem t19size : (C.ty 19).size = 1 := rfl
@[go_sem] theorem t19bytes : (C.ty 19).bytes = 8 := rfl
@[go_sem] theorem t19agg : (C.ty 19).agg = true := rfl
@[go_sem] theorem t19fs : (C.ty 19).fs = [(0, 17)] := rfl
@[go_sem] theorem t19arr : (C.ty 19).arr = none := rfl
@[go_sem] theorem t19z : Xr (C.ty 19) = ((.agg #[(.pointer none)]) : Value).cells.toList.map cv1 := rfl
@[go_sem] theorem t21ok : (C.ty 21).ok = true := rfl
@[go_sem] theorem t21size : (C.ty 21).size = 1 := rfl
@[go_sem] theorem t21bytes : (C.ty 21).bytes = 4 := rfl
@[go_sem] theorem t21agg : (C.ty 21).agg = false := rfl
@[go_sem] theorem t21ik : (C.ty 21).ik = some .i32 := rfl
@[go_sem] theorem t21z : Xr (C.ty 21) = ((.int .i32 0) : Value).cells.toList.map cv1 := rfl
@[go_sem] theorem t22ok : (C.ty 22).ok = true := rfl
@[go_sem] theorem t22size : (C.ty 22).size = 1 := rfl
@[go_sem] theorem t22bytes : (C.ty 22).bytes = 24 := rfl
@[go_sem] theorem t22agg : (C.ty 22).agg = false := rfl
@[go_sem] theorem t22sl : (C.ty 22).sl = some 3 := rfl
@[go_sem] theorem t22z : Xr (C.ty 22) = ((.slice none 0 0) : Value).cells.toList.map cv1 := rfl
@[go_sem] theorem t23ok : (C.ty 23).ok = true := rfl
@[go_sem] theorem t23size : (C.ty 23).size = 1 := rfl
@[go_sem] theorem t23bytes : (C.ty 23).bytes = 24 := rfl
@[go_sem] theorem t23agg : (C.ty 23).agg = false := rfl
@[go_sem] theorem t23sl : (C.ty 23).sl = some 3 := rfl
@[go_sem] theorem t23z : Xr (C.ty 23) = ((.slice none 0 0) : Value).cells.toList.map cv1 := rfl
@[go_sem] theorem t24ok : (C.ty 24).ok = true := rfl
@[go_sem] theorem t24size : (C.ty 24).size = 1 := rfl
@[go_sem] theorem t24bytes : (C.ty 24).bytes = 24 := rfl
@[go_sem] theorem t24agg : (C.ty 24).agg = false := rfl
@[go_sem] theorem t24sl : (C.ty 24).sl = some 58 := rfl
@[go_sem] theorem t24z : Xr (C.ty 24) = ((.slice none 0 0) : Value).cells.toList.map cv1 := rfl
@[go_sem] theorem t25ok : (C.ty 25).ok = true := rfl
@[go_sem] theorem t25size : (C.ty 25).size = 2 := rfl
@[go_sem] theorem t25bytes : (C.ty 25).bytes = 48 := rfl
@[go_sem] theorem t25agg : (C.ty 25).agg = true := rfl
@[go_sem] theorem t25fs : (C.ty 25).fs = [(0, 23), (1, 24)] := rfl
@[go_sem] theorem t25arr : (C.ty 25).arr = none := rfl
@[go_sem] theorem t25z : Xr (C.ty 25) = ((.agg #[(.slice none 0 0), (.slice none 0 0)]) : Value).cells.toList.map cv1 := rfl
@[go_sem] theorem t26ok : (C.ty 26).ok = true := rfl
@[go_sem] theorem t26size : (C.ty 26).size = 2 := rfl
@[go_sem] theorem t26bytes : (C.ty 26).bytes = 48 := rfl
@[go_sem] theorem t26agg : (C.ty 26).agg = true := rfl
@[go_sem] theorem t26fs : (C.ty 26).fs = [(0, 23), (1, 24)] := rfl
@[go_sem] theorem t26arr : (C.ty 26).arr = none := rfl
@[go_sem] theorem t26z : Xr (C.ty 26) = ((.agg #[(.slice none 0 0), (.slice none 0 0)]) : Value).cells.toList.map cv1 := rfl
@[go_sem] theorem t27ok : (C.ty 27).ok = true := rfl
@[go_sem] theorem t27size : (C.ty 27).size = 1 := rfl
@[go_sem] theorem t27bytes : (C.ty 27).bytes = 8 := rfl
@[go_sem] theorem t27agg : (C.ty 27).agg = false := rfl
@[go_sem] theorem t27ik : (C.ty 27).ik = some .i64 := rfl
@[go_sem] theorem t27z : Xr (C.ty 27) = ((.int .i64 0) : Value).cells.toList.map cv1 := rfl
@[go_sem] theorem t29ok : (C.ty 29).ok = true := rfl
@[go_sem] theorem t29size : (C.ty 29).size = 1 := rfl
@[go_sem] theorem t29bytes : (C.ty 29).bytes = 8 := rfl
@[go_sem] theorem t29agg : (C.ty 29).agg = false := rfl
@[go_sem] theorem t30ok : (C.ty 30).ok = true := rfl
@[go_sem] theorem t30size : (C.ty 30).size = 1 := rfl
@[go_sem] theorem t30bytes : (C.ty 30).bytes = 8 := rfl
@[go_sem] theorem t30agg : (C.ty 30).agg = false := rfl
@[go_sem] theorem t31ok : (C.ty 31).ok = true := rfl
@[go_sem] theorem t31size : (C.ty 31).size = 1 := rfl
@[go_sem] theorem t31bytes : (C.ty 31).bytes = 8 := rfl
@[go_sem] theorem t31agg : (C.ty 31).agg = false := rfl
@[go_sem] theorem t32ok : (C.ty 32).ok = true := rfl
@[go_sem] theorem t32size : (C.ty 32).size = 1 := rfl
@[go_sem] theorem t32bytes : (C.ty 32).bytes = 24 := rfl
@[go_sem] theorem t32agg : (C.ty 32).agg = false := rfl
@[go_sem] theorem t32sl : (C.ty 32).sl = some 72 := rfl
@[go_sem] theorem t32z : Xr (C.ty 32) = ((.slice none 0 0) : Value).cells.toList.map cv1 := rfl
@[go_sem] theorem t33ok : (C.ty 33).ok = true := rfl
@[go_sem] theorem t33size : (C.ty 33).size = 2 := rfl
@[go_sem] theorem t33bytes : (C.ty 33).bytes = 48 := rfl
@[go_sem] theorem t33agg : (C.ty 33).agg = true := rfl
@[go_sem] theorem t33fs : (C.ty 33).fs = [(0, 22), (1, 32)] := rfl
@[go_sem] theorem t33arr : (C.ty 33).arr = none := rfl
@[go_sem] theorem t33z : Xr (C.ty 33) = ((.agg #[(.slice none 0 0), (.slice none 0 0)]) : Value).cells.toList.map cv1 := rfl
@[go_sem] theorem t34ok : (C.ty 34).ok = true := rfl
@[go_sem] theorem t34size : (C.ty 34).size = 2 := rfl
@[go_sem] theorem t34bytes : (C.ty 34).bytes = 48 := rfl
@[go_sem] theorem t34agg : (C.ty 34).agg = true := rfl
@[go_sem] theorem t34fs : (C.ty 34).fs = [(0, 22), (1, 32)] := rfl
@[go_sem] theorem t34arr : (C.ty 34).arr = none := rfl
@[go_sem] theorem t34z : Xr (C.ty 34) = ((.agg #[(.slice none 0 0), (.slice none 0 0)]) : Value).cells.toList.map cv1 := rfl
@[go_sem] theorem t36ok : (C.ty 36).ok = true := rfl
@[go_sem] theorem t36size : (C.ty 36).size = 1 := rfl
@[go_sem] theorem t36bytes : (C.ty 36).bytes = 8 := rfl
@[go_sem] theorem t36agg : (C.ty 36).agg = false := rfl
@[go_sem] theorem t37ok : (C.ty 37).ok = true := rfl
@[go_sem] theorem t37size : (C.ty 37).size = 1 := rfl
@[go_sem] theorem t37bytes : (C.ty 37).bytes = 8 := rfl
@[go_sem] theorem t37agg : (C.ty 37).agg = false := rfl
@[go_sem] theorem t38ok : (C.ty 38).ok = true := rfl
@[go_sem] theorem t38size : (C.ty 38).size = 1 := rfl
@[go_sem] theorem t38bytes : (C.ty 38).bytes = 8 := rfl
@[go_sem] theorem t38agg : (C.ty 38).agg = false := rfl
@[go_sem] theorem t39ok : (C.ty 39).ok = true := rfl
@[go_sem] theorem t39size : (C.ty 39).size = 1 := rfl
@[go_sem] theorem t39bytes : (C.ty 39).bytes = 8 := rfl
@[go_sem] theorem t39agg : (C.ty 39).agg = false := rfl
@[go_sem] theorem t40ok : (C.ty 40).ok = true := rfl
@[go_sem] theorem t40size : (C.ty 40).size = 1 := rfl
@[go_sem] theorem t40bytes : (C.ty 40).bytes = 8 := rfl
@[go_sem] theorem t40agg : (C.ty 40).agg = false := rfl
@[go_sem] theorem t41ok : (C.ty 41).ok = true := rfl
@[go_sem] theorem t41size : (C.ty 41).size = 1 := rfl
@[go_sem] theorem t41bytes : (C.ty 41).bytes = 8 := rfl
@[go_sem] theorem t41agg : (C.ty 41).agg = false := rfl
@[go_sem] theorem t42ok : (C.ty 42).ok = true := rfl
@[go_sem] theorem t42size : (C.ty 42).size = 1 := rfl
@[go_sem] theorem t42bytes : (C.ty 42).bytes = 8 := rfl
@[go_sem] theorem t42agg : (C.ty 42).agg = false := rfl
@[go_sem] theorem t43ok : (C.ty 43).ok = true := rfl
@[go_sem] theorem t43size : (C.ty 43).size = 1 := rfl
@[go_sem] theorem t43bytes : (C.ty 43).bytes = 8 := rfl
@[go_sem] theorem t43agg : (C.ty 43).agg = false := rfl
@[go_sem] theorem t44ok : (C.ty 44).ok = true := rfl
@[go_sem] theorem t44size : (C.ty 44).size = 1 := rfl
@[go_sem] theorem t44bytes : (C.ty 44).bytes = 8 := rfl
@[go_sem] theorem t44agg : (C.ty 44).agg = false := rfl
@[go_sem] theorem t45ok : (C.ty 45).ok = true := rfl
@[go_sem] theorem t45size : (C.ty 45).size = 1 := rfl
@[go_sem] theorem t45bytes : (C.ty 45).bytes = 8 := rfl
@[go_sem] theorem t45agg : (C.ty 45).agg = false := rfl
@[go_sem] theorem t46ok : (C.ty 46).ok = true := rfl
@[go_sem] theorem t46size : (C.ty 46).size = 1 := rfl
@[go_sem] theorem t46bytes : (C.ty 46).bytes = 8 := rfl
@[go_sem] theorem t46agg : (C.ty 46).agg = false := rfl
@[go_sem] theorem t47ok : (C.ty 47).ok = true := rfl
@[go_sem] theorem t47size : (C.ty 47).size = 1 := rfl
@[go_sem] theorem t47bytes : (C.ty 47).bytes = 8 := rfl
@[go_sem] theorem t47agg : (C.ty 47).agg = false := rfl
@[go_sem] theorem t48ok : (C.ty 48).ok = true := rfl
@[go_sem] theorem t48size : (C.ty 48).size = 1 := rfl
@[go_sem] theorem t48bytes : (C.ty 48).bytes = 24 := rfl
@[go_sem] theorem t48agg : (C.ty 48).agg = false := rfl
@[go_sem] theorem t48sl : (C.ty 48).sl = some 26 := rfl
@[go_sem] theorem t48z : Xr (C.ty 48) = ((.slice none 0 0) : Value).cells.toList.map cv1 := rfl
@[go_sem] theorem t49ok : (C.ty 49).ok = true := rfl
@[go_sem] theorem t49size : (C.ty 49).size = 1 := rfl
@[go_sem] theorem t49bytes : (C.ty 49).bytes = 24 := rfl
@[go_sem] theorem t49agg : (C.ty 49).agg = false := rfl
@[go_sem] theorem t49sl : (C.ty 49).sl = some 34 := rfl
@[go_sem] theorem t49z : Xr (C.ty 49) = ((.slice none 0 0) : Value).cells.toList.map cv1 := rfl
@[go_sem] theorem t50ok : (C.ty 50).ok = true := rfl
@[go_sem] theorem t50size : (C.ty 50).size = 1 := rfl
@[go_sem] theorem t50bytes : (C.ty 50).bytes = 8 := rfl
@[go_sem] theorem t50agg : (C.ty 50).agg = false := rfl
@[go_sem] theorem t51ok : (C.ty 51).ok = true := rfl
@[go_sem] theorem t51size : (C.ty 51).size = 1 := rfl
@[go_sem] theorem t51bytes : (C.ty 51).bytes = 8 := rfl
@[go_sem] theorem t51agg : (C.ty 51).agg = false := rfl
@[go_sem] theorem t52ok : (C.ty 52).ok = true := rfl
@[go_sem] theorem t52size : (C.ty 52).size = 1 := rfl
@[go_sem] theorem t52bytes : (C.ty 52).bytes = 8 := rfl
@[go_sem] theorem t52agg : (C.ty 52).agg = false := rfl
@[go_sem] theorem t53ok : (C.ty 53).ok = true := rfl
@[go_sem] theorem t53size : (C.ty 53).size = 1 := rfl
@[go_sem] theorem t53bytes : (C.ty 53).bytes = 8 := rfl
@[go_sem] theorem t53agg : (C.ty 53).agg = false := rfl
@[go_sem] theorem t54ok : (C.ty 54).ok = true := rfl
@[go_sem] theorem t54size : (C.ty 54).size = 1 := rfl
@[go_sem] theorem t54bytes : (C.ty 54).bytes = 8 := rfl
@[go_sem] theorem t54agg : (C.ty 54).agg = false := rfl
@[go_sem] theorem t55ok : (C.ty 55).ok = true := rfl
@[go_sem] theorem t55size : (C.ty 55).size = 1 := rfl
@[go_sem] theorem t55bytes : (C.ty 55).bytes = 24 := rfl
@[go_sem] theorem t55agg : (C.ty 55).agg = false := rfl
@[go_sem] theorem t55sl : (C.ty 55).sl = some 59 := rfl
@[go_sem] theorem t55z : Xr (C.ty 55) = ((.slice none 0 0) : Value).cells.toList.map cv1 := rfl
@[go_sem] theorem t56ok : (C.ty 56).ok = true := rfl
@[go_sem] theorem t56size : (C.ty 56).size = 1 := rfl
@[go_sem] theorem t56bytes : (C.ty 56).bytes = 24 := rfl
@[go_sem] theorem t56agg : (C.ty 56).agg = false := rfl
@[go_sem] theorem t56sl : (C.ty 56).sl = some 59 := rfl
@[go_sem] theorem t56z : Xr (C.ty 56) = ((.slice none 0 0) : Value).cells.toList.map cv1 := rfl
@[go_sem] theorem t57ok : (C.ty 57).ok = true := rfl
@[go_sem] theorem t57size : (C.ty 57).size = 3 := rfl
@[go_sem] theorem t57bytes : (C.ty 57).bytes = 56 := rfl
@[go_sem] theorem t57agg : (C.ty 57).agg = true := rfl
@[go_sem] theorem t57fs : (C.ty 57).fs = [(0, 4), (1, 56), (2, 56)] := rfl
@[go_sem] theorem t57arr : (C.ty 57).arr = none := rfl
@[go_sem] theorem t57z : Xr (C.ty 57) = ((.agg #[(.bool false), (.slice none 0 0), (.slice none 0 0)]) : Value).cells.toList.map cv1 := rfl
@[go_sem] theorem t58ok : (C.ty 58).ok = true := rfl
@[go_sem] theorem t58size : (C.ty 58).size = 3 := rfl
@[go_sem] theorem t58bytes : (C.ty 58).bytes = 56 := rfl
@[go_sem] theorem t58agg : (C.ty 58).agg = true := rfl
@[go_sem] theorem t58fs : (C.ty 58).fs = [(0, 4), (1, 56), (2, 56)] := rfl
@[go_sem] theorem t58arr : (C.ty 58).arr = none := rfl
@[go_sem] theorem t58z : Xr (C.ty 58) = ((.agg #[(.bool false), (.slice none 0 0), (.slice none 0 0)]) : Value).cells.toList.map cv1 := rfl
@[go_sem] theorem t59ok : (C.ty 59).ok = true := rfl
@[go_sem] theorem t59size : (C.ty 59).size = 1 := rfl
@[go_sem] theorem t59bytes : (C.ty 59).bytes = 4 := rfl
@[go_sem] theorem t59agg : (C.ty 59).agg = false := rfl
@[go_sem] theorem t59ik : (C.ty 59).ik = some .u32 := rfl
@[go_sem] theorem t59z : Xr (C.ty 59) = ((.int .u32 0) : Value).cells.toList.map cv1 := rfl
@[go_sem] theorem t61ok : (C.ty 61).ok = true := rfl
@[go_sem] theorem t61size : (C.ty 61).size = 1 := rfl
@[go_sem] theorem t61bytes : (C.ty 61).bytes = 8 := rfl
@[go_sem] theorem t61agg : (C.ty 61).agg = false := rfl
@[go_sem] theorem t63ok : (C.ty 63).ok = true := rfl
@[go_sem] theorem t63size : (C.ty 63).size = 1 := rfl
@[go_sem] theorem t63bytes : (C.ty 63).bytes = 8 := rfl
@[go_sem] theorem t63agg : (C.ty 63).agg = false := rfl
@[go_sem] theorem t66ok : (C.ty 66).ok = true := rfl
@[go_sem] theorem t66size : (C.ty 66).size = 1 := rfl
@[go_sem] theorem t66bytes : (C.ty 66).bytes = 8 := rfl
@[go_sem] theorem t66agg : (C.ty 66).agg = false := rfl
@[go_sem] theorem t67ok : (C.ty 67).ok = true := rfl
@[go_sem] theorem t67size : (C.ty 67).size = 1 := rfl
@[go_sem] theorem t67bytes : (C.ty 67).bytes = 8 := rfl
@[go_sem] theorem t67agg : (C.ty 67).agg = false := rfl
@[go_sem] theorem t70ok : (C.ty 70).ok = true := rfl
@[go_sem] theorem t70size : (C.ty 70).size = 1 := rfl
@[go_sem] theorem t70bytes : (C.ty 70).bytes = 24 := rfl
@[go_sem] theorem t70agg : (C.ty 70).agg = false := rfl
@[go_sem] theorem t70sl : (C.ty 70).sl = some 3 := rfl
@[go_sem] theorem t70z : Xr (C.ty 70) = ((.slice none 0 0) : Value).cells.toList.map cv1 := rfl
@[go_sem] theorem t72ok : (C.ty 72).ok = true := rfl
@[go_sem] theorem t72size : (C.ty 72).size = 3 := rfl
@[go_sem] theorem t72bytes : (C.ty 72).bytes = 56 := rfl
@[go_sem] theorem t72agg : (C.ty 72).agg = true := rfl
@[go_sem] theorem t72fs : (C.ty 72).fs = [(0, 4), (1, 70), (2, 70)] := rfl
@[go_sem] theorem t72arr : (C.ty 72).arr = none := rfl
@[go_sem] theorem t72z : Xr (C.ty 72) = ((.agg #[(.bool false), (.slice none 0 0), (.slice none 0 0)]) : Value).cells.toList.map cv1 := rfl
@[go_sem] theorem t76ok : (C.ty 76).ok = true := rfl
@[go_sem] theorem t76size : (C.ty 76).size = 1 := rfl
@[go_sem] theorem t76bytes : (C.ty 76).bytes = 8 := rfl
@[go_sem] theorem t76agg : (C.ty 76).agg = false := rfl
@[go_sem] theorem t77ok : (C.ty 77).ok = true := rfl
@[go_sem] theorem t77size : (C.ty 77).size = 1 := rfl
@[go_sem] theorem t77bytes : (C.ty 77).bytes = 8 := rfl
@[go_sem] theorem t77agg : (C.ty 77).agg = false := rfl
@[go_sem] theorem t78ok : (C.ty 78).ok = true := rfl
@[go_sem] theorem t78size : (C.ty 78).size = 1 := rfl
@[go_sem] theorem t78bytes : (C.ty 78).bytes = 8 := rfl
@[go_sem] theorem t78agg : (C.ty 78).agg = false := rfl
@[go_sem] theorem t79ok : (C.ty 79).ok = true := rfl
@[go_sem] theorem t79size : (C.ty 79).size = 2 := rfl
@[go_sem] theorem t79bytes : (C.ty 79).bytes = 16 := rfl
@[go_sem] theorem t79agg : (C.ty 79).agg = true := rfl
@[go_sem] theorem t79arr : (C.ty 79).arr = some (2, 3) := rfl
@[go_sem] theorem t79z : Xr (C.ty 79) = ((.agg #[(.int .i64 0), (.int .i64 0)]) : Value).cells.toList.map cv1 := rfl
@[go_sem] theorem t80ok : (C.ty 80).ok = true := rfl
@[go_sem] theorem t80size : (C.ty 80).size = 1 := rfl
@[go_sem] theorem t80bytes : (C.ty 80).bytes = 8 := rfl
@[go_sem] theorem t80agg : (C.ty 80).agg = false := rfl
@[go_sem] theorem t81ok : (C.ty 81).ok = true := rfl
@[go_sem] theorem t81size : (C.ty 81).size = 1 := rfl
@[go_sem] theorem t81bytes : (C.ty 81).bytes = 8 := rfl
@[go_sem] theorem t81agg : (C.ty 81).agg = false := rfl
@[go_sem] theorem t82ok : (C.ty 82).ok = true := rfl
@[go_sem] theorem t82size : (C.ty 82).size = 1 := rfl
@[go_sem] theorem t82bytes : (C.ty 82).bytes = 8 := rfl
@[go_sem] theorem t82agg : (C.ty 82).agg = false := rfl
@[go_sem] theorem t83ok : (C.ty 83).ok = true := rfl
@[go_sem] theorem t83size : (C.ty 83).size = 1 := rfl
@[go_sem] theorem t83bytes : (C.ty 83).bytes = 8 := rfl
@[go_sem] theorem t83agg : (C.ty 83).agg = false := rfl
@[go_sem] theorem t84ok : (C.ty 84).ok = true := rfl
@[go_sem] theorem t84size : (C.ty 84).size = 1 := rfl
@[go_sem] theorem t84bytes : (C.ty 84).bytes = 8 := rfl
@[go_sem] theorem t84agg : (C.ty 84).agg = false := rfl
@[go_sem] theorem t85ok : (C.ty 85).ok = true := rfl
@[go_sem] theorem t85size : (C.ty 85).size = 1 := rfl
@[go_sem] theorem t85bytes : (C.ty 85).bytes = 8 := rfl
@[go_sem] theorem t85agg : (C.ty 85).agg = false := rfl
@[go_sem] theorem t86ok : (C.ty 86).ok = true := rfl
@[go_sem] theorem t86size : (C.ty 86).size = 1 := rfl
@[go_sem] theorem t86bytes : (C.ty 86).bytes = 8 := rfl
@[go_sem] theorem t86agg : (C.ty 86).agg = false := rfl
@[go_sem] theorem t87ok : (C.ty 87).ok = true := rfl
@[go_sem] theorem t87size : (C.ty 87).size = 1 := rfl
@[go_sem] theorem t87bytes : (C.ty 87).bytes = 8 := rfl
@[go_sem] theorem t87agg : (C.ty 87).agg = false := rfl
@[go_sem] theorem t88ok : (C.ty 88).ok = true := rfl
@[go_sem] theorem t88size : (C.ty 88).size = 1 := rfl
@[go_sem] theorem t88bytes : (C.ty 88).bytes = 8 := rfl
@[go_sem] theorem t88agg : (C.ty 88).agg = false := rfl
@[go_sem] theorem t89ok : (C.ty 89).ok = true := rfl
@[go_sem] theorem t89size : (C.ty 89).size = 1 := rfl
@[go_sem] theorem t89bytes : (C.ty 89).bytes = 8 := rfl
@[go_sem] theorem t89agg : (C.ty 89).agg = false := rfl
@[go_sem] theorem t92ok : (C.ty 92).ok = true := rfl
@[go_sem] theorem t92size : (C.ty 92).size = 1 := rfl
@[go_sem] theorem t92bytes : (C.ty 92).bytes = 8 := rfl
@[go_sem] theorem t92agg : (C.ty 92).agg = false := rfl
@[go_sem] theorem t99ok : (C.ty 99).ok = true := rfl
@[go_sem] theorem t99size : (C.ty 99).size = 2 := rfl
@[go_sem] theorem t99bytes : (C.ty 99).bytes = 48 := rfl
@[go_sem] theorem t99agg : (C.ty 99).agg = true := rfl
@[go_sem] theorem t99fs : (C.ty 99).fs = [(0, 23), (1, 24)] := rfl
@[go_sem] theorem t99arr : (C.ty 99).arr = none := rfl
@[go_sem] theorem t99z : Xr (C.ty 99) = ((.agg #[(.slice none 0 0), (.slice none 0 0)]) : Value).cells.toList.map cv1 := rfl
@[go_sem] theorem t100ok : (C.ty 100).ok = true := rfl
@[go_sem] theorem t100size : (C.ty 100).size = 1 := rfl
@[go_sem] theorem t100bytes : (C.ty 100).bytes = 8 := rfl
@[go_sem] theorem t100agg : (C.ty 100).agg = false := rfl
@[go_sem] theorem t101ok : (C.ty 101).ok = true := rfl
@[go_sem] theorem t101size : (C.ty 101).size = 1 := rfl
@[go_sem] theorem t101bytes : (C.ty 101).bytes = 8 := rfl
@[go_sem] theorem t101agg : (C.ty 101).agg = false := rfl
@[go_sem] theorem t102ok : (C.ty 102).ok = true := rfl
@[go_sem] theorem t102size : (C.ty 102).size = 1 := rfl
@[go_sem] theorem t102bytes : (C.ty 102).bytes = 8 := rfl
@[go_sem] theorem t102agg : (C.ty 102).agg = false := rfl
@[go_sem] theorem t103ok : (C.ty 103).ok = true := rfl
@[go_sem] theorem t103size : (C.ty 103).size = 1 := rfl
@[go_sem] theorem t103bytes : (C.ty 103).bytes = 8 := rfl
@[go_sem] theorem t103agg : (C.ty 103).agg = false := rfl
@[go_sem] theorem t104ok : (C.ty 104).ok = true := rfl
@[go_sem] theorem t104size : (C.ty 104).size = 1 := rfl
@[go_sem] theorem t104bytes : (C.ty 104).bytes = 8 := rfl
@[go_sem] theorem t104agg : (C.ty 104).agg = false := rfl
@[go_sem] theorem t105ok : (C.ty 105).ok = true := rfl
@[go_sem] theorem t105size : (C.ty 105).size = 1 := rfl
@[go_sem] theorem t105bytes : (C.ty 105).bytes = 8 := rfl
@[go_sem] theorem t105agg : (C.ty 105).agg = false := rfl
@[go_sem] theorem t106ok : (C.ty 106).ok = true := rfl
@[go_sem] theorem t106size : (C.ty 106).size = 1 := rfl
@[go_sem] theorem t106bytes : (C.ty 106).bytes = 8 := rfl
@[go_sem] theorem t106agg : (C.ty 106).agg = false := rfl
@[go_sem] theorem t107ok : (C.ty 107).ok = true := rfl
@[go_sem] theorem t107size : (C.ty 107).size = 1 := rfl
@[go_sem] theorem t107bytes : (C.ty 107).bytes = 8 := rfl
@[go_sem] theorem t107agg : (C.ty 107).agg = false := rfl
@[go_sem] theorem t108ok : (C.ty 108).ok = true := rfl
@[go_sem] theorem t108size : (C.ty 108).size = 1 := rfl
@[go_sem] theorem t108bytes : (C.ty 108).bytes = 8 := rfl
@[go_sem] theorem t108agg : (C.ty 108).agg = false := rfl
@[go_sem] theorem t109ok : (C.ty 109).ok = true := rfl
@[go_sem] theorem t109size : (C.ty 109).size = 1 := rfl
@[go_sem] theorem t109bytes : (C.ty 109).bytes = 8 := rfl
@[go_sem] theorem t109agg : (C.ty 109).agg = false := rfl
@[go_sem] theorem t110ok : (C.ty 110).ok = true := rfl
@[go_sem] theorem t110size : (C.ty 110).size = 1 := rfl
@[go_sem] theorem t110bytes : (C.ty 110).bytes = 8 := rfl
@[go_sem] theorem t110agg : (C.ty 110).agg = false := rfl
@[go_sem] theorem t111ok : (C.ty 111).ok = true := rfl
@[go_sem] theorem t111size : (C.ty 111).size = 1 := rfl
@[go_sem] theorem t111bytes : (C.ty 111).bytes = 8 := rfl
@[go_sem] theorem t111agg : (C.ty 111).agg = false := rfl
@[go_sem] theorem t120ok : (C.ty 120).ok = true := rfl
@[go_sem] theorem t120size : (C.ty 120).size = 1 := rfl
@[go_sem] theorem t120bytes : (C.ty 120).bytes = 8 := rfl
@[go_sem] theorem t120agg : (C.ty 120).agg = false := rfl
@[go_sem] theorem t122ok : (C.ty 122).ok = true := rfl
@[go_sem] theorem t122size : (C.ty 122).size = 1 := rfl
@[go_sem] theorem t122bytes : (C.ty 122).bytes = 8 := rfl
@[go_sem] theorem t122agg : (C.ty 122).agg = false := rfl
@[go_sem] theorem t123ok : (C.ty 123).ok = true := rfl
@[go_sem] theorem t123size : (C.ty 123).size = 1 := rfl
@[go_sem] theorem t123bytes : (C.ty 123).bytes = 8 := rfl
@[go_sem] theorem t123agg : (C.ty 123).agg = false := rfl
@[go_sem] theorem t124ok : (C.ty 124).ok = true := rfl
@[go_sem] theorem t124size : (C.ty 124).size = 1 := rfl
@[go_sem] theorem t124bytes : (C.ty 124).bytes = 8 := rfl
@[go_sem] theorem t124agg : (C.ty 124).agg = false := rfl
@[go_sem] theorem t125ok : (C.ty 125).ok = true := rfl
@[go_sem] theorem t125size : (C.ty 125).size = 1 := rfl
@[go_sem] theorem t125bytes : (C.ty 125).bytes = 8 := rfl
@[go_sem] theorem t125agg : (C.ty 125).agg = false := rfl
@[go_sem] theorem t126ok : (C.ty 126).ok = true := rfl
@[go_sem] theorem t126size : (C.ty 126).size = 1 := rfl
@[go_sem] theorem t126bytes : (C.ty 126).bytes = 8 := rfl
@[go_sem] theorem t126agg : (C.ty 126).agg = false := rfl
@[go_sem] theorem t127ok : (C.ty 127).ok = true := rfl
@[go_sem] theorem t127size : (C.ty 127).size = 1 := rfl
@[go_sem] theorem t127bytes : (C.ty 127).bytes = 1 := rfl
@[go_sem] theorem t127agg : (C.ty 127).agg = true := rfl
@[go_sem] theorem t127fs : (C.ty 127).fs = [(0, 4)] := rfl
@[go_sem] theorem t127arr : (C.ty 127).arr = none := rfl
@[go_sem] theorem t127z : Xr (C.ty 127) = ((.agg #[(.bool false)]) : Value).cells.toList.map cv1 := rfl
@[go_sem] theorem t128ok : (C.ty 128).ok = true := rfl
@[go_sem] theorem t128size : (C.ty 128).size = 1 := rfl
@[go_sem] theorem t128bytes : (C.ty 128).bytes = 1 := rfl
@[go_sem] theorem t128agg : (C.ty 128).agg = true := rfl
@[go_sem] theorem t128fs : (C.ty 128).fs = [(0, 4)] := rfl
@[go_sem] theorem t128arr : (C.ty 128).arr = none := rfl
@[go_sem] theorem t128z : Xr (C.ty 128) = ((.agg #[(.bool false)]) : Value).cells.toList.map cv1 := rfl
@[go_sem] theorem t130ok : (C.ty 130).ok = true := rfl
@[go_sem] theorem t130size : (C.ty 130).size = 1 := rfl
@[go_sem] theorem t130bytes : (C.ty 130).bytes = 8 := rfl
@[go_sem] theorem t130agg : (C.ty 130).agg = false := rfl
@[go_sem] theorem t131ok : (C.ty 131).ok = true := rfl
@[go_sem] theorem t131size : (C.ty 131).size = 1 := rfl
@[go_sem] theorem t131bytes : (C.ty 131).bytes = 8 := rfl
@[go_sem] theorem t131agg : (C.ty 131).agg = false := rfl
@[go_sem] theorem t134ok : (C.ty 134).ok = true := rfl
@[go_sem] theorem t134size : (C.ty 134).size = 1 := rfl
@[go_sem] theorem t134bytes : (C.ty 134).bytes = 8 := rfl
@[go_sem] theorem t134agg : (C.ty 134).agg = false := rfl
@[go_sem] theorem t135ok : (C.ty 135).ok = true := rfl
@[go_sem] theorem t135size : (C.ty 135).size = 1 := rfl
@[go_sem] theorem t135bytes : (C.ty 135).bytes = 8 := rfl
@[go_sem] theorem t135agg : (C.ty 135).agg = false := rfl
@[go_sem] theorem t138ok : (C.ty 138).ok = true := rfl
@[go_sem] theorem t138size : (C.ty 138).size = 1 := rfl
@[go_sem] theorem t138bytes : (C.ty 138).bytes = 8 := rfl
@[go_sem] theorem t138agg : (C.ty 138).agg = false := rfl
@[go_sem] theorem t139ok : (C.ty 139).ok = true := rfl
@[go_sem] theorem t139size : (C.ty 139).size = 1 := rfl
@[go_sem] theorem t139bytes : (C.ty 139).bytes = 8 := rfl
@[go_sem] theorem t139agg : (C.ty 139).agg = false := rfl
@[go_sem] theorem t140ok : (C.ty 140).ok = true := rfl
@[go_sem] theorem t140size : (C.ty 140).size = 1 := rfl
@[go_sem] theorem t140bytes : (C.ty 140).bytes = 8 := rfl
@[go_sem] theorem t140agg : (C.ty 140).agg = false := rfl
@[go_sem] theorem t141ok : (C.ty 141).ok = true := rfl
@[go_sem] theorem t141size : (C.ty 141).size = 1 := rfl
@[go_sem] theorem t141bytes : (C.ty 141).bytes = 8 := rfl
@[go_sem] theorem t141agg : (C.ty 141).agg = false := rfl
@[go_sem] theorem t142ok : (C.ty 142).ok = true := rfl
@[go_sem] theorem t142size : (C.ty 142).size = 1 := rfl
@[go_sem] theorem t142bytes : (C.ty 142).bytes = 8 := rfl
@[go_sem] theorem t142agg : (C.ty 142).agg = false := rfl
@[go_sem] theorem t142ik : (C.ty 142).ik = some .u64 := rfl
@[go_sem] theorem t142z : Xr (C.ty 142) = ((.int .u64 0) : Value).cells.toList.map cv1 := rfl
@[go_sem] theorem t154ok : (C.ty 154).ok = true := rfl
@[go_sem] theorem t154size : (C.ty 154).size = 1 := rfl
@[go_sem] theorem t154bytes : (C.ty 154).bytes = 8 := rfl
@[go_sem] theorem t154agg : (C.ty 154).agg = false := rfl
@[go_sem] theorem t154ik : (C.ty 154).ik = some .u64 := rfl
@[go_sem] theorem t154z : Xr (C.ty 154) = ((.int .u64 0) : Value).cells.toList.map cv1 := rfl
@[go_sem] theorem t160ok : (C.ty 160).ok = true := rfl
@[go_sem] theorem t160size : (C.ty 160).size = 1 := rfl
@[go_sem] theorem t160bytes : (C.ty 160).bytes = 8 := rfl
@[go_sem] theorem t160agg : (C.ty 160).agg = false := rfl
@[go_sem] theorem t168ok : (C.ty 168).ok = true := rfl
@[go_sem] theorem t168size : (C.ty 168).size = 1 := rfl
@[go_sem] theorem t168bytes : (C.ty 168).bytes = 8 := rfl
@[go_sem] theorem t168agg : (C.ty 168).agg = false := rfl
@[go_sem] theorem t168ik : (C.ty 168).ik = some .i64 := rfl
@[go_sem] theorem t168z : Xr (C.ty 168) = ((.int .i64 0) : Value).cells.toList.map cv1 := rfl
@[go_sem] theorem t182ok : (C.ty 182).ok = true := rfl
@[go_sem] theorem t182size : (C.ty 182).size = 1 := rfl
@[go_sem] theorem t182bytes : (C.ty 182).bytes = 24 := rfl
@[go_sem] theorem t182agg : (C.ty 182).agg = false := rfl
@[go_sem] theorem t182sl : (C.ty 182).sl = some 56 := rfl
@[go_sem] theorem t182z : Xr (C.ty 182) = ((.slice none 0 0) : Value).cells.toList.map cv1 := rfl
@[go_sem] theorem t183ok : (C.ty 183).ok = true := rfl
@[go_sem] theorem t183size : (C.ty 183).size = 1 := rfl
@[go_sem] theorem t183bytes : (C.ty 183).bytes = 8 := rfl
@[go_sem] theorem t183agg : (C.ty 183).agg = false := rfl
@[go_sem] theorem t183ik : (C.ty 183).ik = some .u64 := rfl
@[go_sem] theorem t183z : Xr (C.ty 183) = ((.int .u64 0) : Value).cells.toList.map cv1 := rfl
@[go_sem] theorem t187ok : (C.ty 187).ok = true := rfl
@[go_sem] theorem t187size : (C.ty 187).size = 1 := rfl
@[go_sem] theorem t187bytes : (C.ty 187).bytes = 8 := rfl
@[go_sem] theorem t187agg : (C.ty 187).agg = false := rfl
@[go_sem] theorem t187z : Xr (C.ty 187) = ((.pointer none) : Value).cells.toList.map cv1 := rfl
abbrev t0 : Go.Operand := .tmp 0
abbrev t1 : Go.Operand := .tmp 1
abbrev t2 : Go.Operand := .tmp 2
abbrev t3 : Go.Operand := .tmp 3
abbrev t4 : Go.Operand := .tmp 4
abbrev t5 : Go.Operand := .tmp 5
abbrev t6 : Go.Operand := .tmp 6
abbrev t7 : Go.Operand := .tmp 7
abbrev t8 : Go.Operand := .tmp 8
abbrev t9 : Go.Operand := .tmp 9
abbrev t10 : Go.Operand := .tmp 10
abbrev t11 : Go.Operand := .tmp 11
abbrev t12 : Go.Operand := .tmp 12
abbrev t13 : Go.Operand := .tmp 13
abbrev t14 : Go.Operand := .tmp 14
abbrev t15 : Go.Operand := .tmp 15
abbrev t16 : Go.Operand := .tmp 16
abbrev t17 : Go.Operand := .tmp 17
abbrev t18 : Go.Operand := .tmp 18
abbrev t19 : Go.Operand := .tmp 19
abbrev t20 : Go.Operand := .tmp 20
abbrev t21 : Go.Operand := .tmp 21
abbrev t22 : Go.Operand := .tmp 22
abbrev t23 : Go.Operand := .tmp 23
abbrev t24 : Go.Operand := .tmp 24
abbrev t25 : Go.Operand := .tmp 25
abbrev t26 : Go.Operand := .tmp 26
abbrev t27 : Go.Operand := .tmp 27
abbrev t28 : Go.Operand := .tmp 28
abbrev t29 : Go.Operand := .tmp 29
abbrev t30 : Go.Operand := .tmp 30
abbrev t31 : Go.Operand := .tmp 31
abbrev t32 : Go.Operand := .tmp 32
abbrev t33 : Go.Operand := .tmp 33
abbrev t34 : Go.Operand := .tmp 34
abbrev t35 : Go.Operand := .tmp 35
abbrev t36 : Go.Operand := .tmp 36
abbrev t37 : Go.Operand := .tmp 37
abbrev t38 : Go.Operand := .tmp 38
abbrev t39 : Go.Operand := .tmp 39
abbrev t40 : Go.Operand := .tmp 40
abbrev t41 : Go.Operand := .tmp 41
abbrev t42 : Go.Operand := .tmp 42
abbrev t43 : Go.Operand := .tmp 43
abbrev t44 : Go.Operand := .tmp 44
abbrev t45 : Go.Operand := .tmp 45
abbrev t46 : Go.Operand := .tmp 46
abbrev t47 : Go.Operand := .tmp 47
abbrev t48 : Go.Operand := .tmp 48
abbrev t49 : Go.Operand := .tmp 49
abbrev t50 : Go.Operand := .tmp 50
abbrev t51 : Go.Operand := .tmp 51
abbrev t52 : Go.Operand := .tmp 52
abbrev t53 : Go.Operand := .tmp 53
abbrev t54 : Go.Operand := .tmp 54
abbrev t55 : Go.Operand := .tmp 55
abbrev t56 : Go.Operand := .tmp 56
abbrev t57 : Go.Operand := .tmp 57
abbrev t58 : Go.Operand := .tmp 58
abbrev t59 : Go.Operand := .tmp 59
abbrev t60 : Go.Operand := .tmp 60
abbrev t61 : Go.Operand := .tmp 61
abbrev t62 : Go.Operand := .tmp 62
abbrev t63 : Go.Operand := .tmp 63
abbrev t64 : Go.Operand := .tmp 64
abbrev t65 : Go.Operand := .tmp 65
abbrev t66 : Go.Operand := .tmp 66
abbrev t67 : Go.Operand := .tmp 67
abbrev t68 : Go.Operand := .tmp 68
abbrev t69 : Go.Operand := .tmp 69
abbrev t70 : Go.Operand := .tmp 70
abbrev t71 : Go.Operand := .tmp 71
abbrev t72 : Go.Operand := .tmp 72
abbrev t73 : Go.Operand := .tmp 73
abbrev t74 : Go.Operand := .tmp 74
abbrev t75 : Go.Operand := .tmp 75
abbrev t76 : Go.Operand := .tmp 76
abbrev t77 : Go.Operand := .tmp 77
abbrev t78 : Go.Operand := .tmp 78
abbrev t79 : Go.Operand := .tmp 79
abbrev t80 : Go.Operand := .tmp 80
abbrev t81 : Go.Operand := .tmp 81
abbrev t82 : Go.Operand := .tmp 82
abbrev t83 : Go.Operand := .tmp 83
abbrev t84 : Go.Operand := .tmp 84
abbrev t85 : Go.Operand := .tmp 85
abbrev t86 : Go.Operand := .tmp 86
abbrev t87 : Go.Operand := .tmp 87
abbrev t88 : Go.Operand := .tmp 88
abbrev t89 : Go.Operand := .tmp 89
abbrev t90 : Go.Operand := .tmp 90
abbrev t91 : Go.Operand := .tmp 91
abbrev t92 : Go.Operand := .tmp 92
abbrev t93 : Go.Operand := .tmp 93
abbrev t94 : Go.Operand := .tmp 94
abbrev t95 : Go.Operand := .tmp 95
abbrev t96 : Go.Operand := .tmp 96
abbrev t97 : Go.Operand := .tmp 97
abbrev t98 : Go.Operand := .tmp 98
abbrev t99 : Go.Operand := .tmp 99
abbrev t100 : Go.Operand := .tmp 100
abbrev t101 : Go.Operand := .tmp 101
abbrev t102 : Go.Operand := .tmp 102
abbrev t103 : Go.Operand := .tmp 103
abbrev t104 : Go.Operand := .tmp 104
abbrev t105 : Go.Operand := .tmp 105
abbrev t106 : Go.Operand := .tmp 106
abbrev t107 : Go.Operand := .tmp 107
abbrev t108 : Go.Operand := .tmp 108
abbrev t109 : Go.Operand := .tmp 109
abbrev t110 : Go.Operand := .tmp 110
abbrev t111 : Go.Operand := .tmp 111
abbrev t112 : Go.Operand := .tmp 112
abbrev t113 : Go.Operand := .tmp 113
abbrev t114 : Go.Operand := .tmp 114
abbrev t115 : Go.Operand := .tmp 115
abbrev t116 : Go.Operand := .tmp 116
abbrev t117 : Go.Operand := .tmp 117
abbrev t118 : Go.Operand := .tmp 118
abbrev t119 : Go.Operand := .tmp 119
abbrev t120 : Go.Operand := .tmp 120
abbrev t121 : Go.Operand := .tmp 121
abbrev t122 : Go.Operand := .tmp 122
abbrev t123 : Go.Operand := .tmp 123
abbrev t124 : Go.Operand := .tmp 124
abbrev t125 : Go.Operand := .tmp 125
abbrev t126 : Go.Operand := .tmp 126
abbrev t127 : Go.Operand := .tmp 127
abbrev t128 : Go.Operand := .tmp 128
abbrev t129 : Go.Operand := .tmp 129
abbrev t130 : Go.Operand := .tmp 130
abbrev t131 : Go.Operand := .tmp 131
abbrev t132 : Go.Operand := .tmp 132
abbrev t133 : Go.Operand := .tmp 133
abbrev t134 : Go.Operand := .tmp 134
abbrev t135 : Go.Operand := .tmp 135
abbrev t136 : Go.Operand := .tmp 136
abbrev t137 : Go.Operand := .tmp 137
abbrev t138 : Go.Operand := .tmp 138
abbrev t139 : Go.Operand := .tmp 139
abbrev t140 : Go.Operand := .tmp 140
abbrev t141 : Go.Operand := .tmp 141
abbrev t142 : Go.Operand := .tmp 142
abbrev t143 : Go.Operand := .tmp 143
abbrev t144 : Go.Operand := .tmp 144
abbrev t145 : Go.Operand := .tmp 145
abbrev t146 : Go.Operand := .tmp 146
abbrev t147 : Go.Operand := .tmp 147
abbrev t148 : Go.Operand := .tmp 148
abbrev t149 : Go.Operand := .tmp 149
abbrev t150 : Go.Operand := .tmp 150
abbrev t151 : Go.Operand := .tmp 151
abbrev t152 : Go.Operand := .tmp 152
abbrev t153 : Go.Operand := .tmp 153
abbrev t154 : Go.Operand := .tmp 154
abbrev t155 : Go.Operand := .tmp 155
abbrev t156 : Go.Operand := .tmp 156
abbrev t157 : Go.Operand := .tmp 157
abbrev t158 : Go.Operand := .tmp 158
abbrev t159 : Go.Operand := .tmp 159
abbrev t160 : Go.Operand := .tmp 160
abbrev t161 : Go.Operand := .tmp 161
abbrev t162 : Go.Operand := .tmp 162
abbrev t163 : Go.Operand := .tmp 163
abbrev t164 : Go.Operand := .tmp 164
abbrev t165 : Go.Operand := .tmp 165
abbrev t166 : Go.Operand := .tmp 166
abbrev t167 : Go.Operand := .tmp 167
theorem w156 : Tryz.f156.body.map (Qr C) = some (.q (.R [.n 2 (.assign (.const (.int .i64 0)))]) (.q (.R [.n 4 (.move t0), .n 5 (.call ⟨.builtin .len, #[t4], #[56]⟩), .n 3 (.assign t5)]) (.q (.b 0 (.l (.q (.q (.R [.n 6 (.move t3), .n 7 (.binOp .gtr 3 t6 (.const (.int .i64 0)) 3), .n 8 (.move t7), .g (some 9) (.move t0) 8 true, .g (some 10) (.move t3) 8 true, .g (some 11) (.binOp .sub 3 t10 (.const (.int .i64 1)) 3) 8 true, .g (some 12) (.indexAddr 56 t9 t11) 8 true, .g (some 13) (.load 59 t12) 8 true, .g (some 14) (.binOp .eql 59 t13 (.const (.int .u32 0)) 59) 8 true, .n 15 (.pick t8 t14 (.const (.bool false)))]) (.c t15 .s (.x 0))) (.b 1 (.R [.n 16 (.move t3), .n 17 (.binOp .sub 3 t16 (.const (.int .i64 1)) 3), .n 3 (.assign t17)]))))) (.q (.R [.n 18 (.move t3), .n 2 (.assign t18)]) .r)))) := by kernel_rfl
theorem w137 : Tryz.f137.body.map (Qr C) = some (.q (.R [.n 4 (.assign (.const (.int .u64 0)))]) (.q (.q (.R [.n 5 (.move t1), .n 6 (.binOp .lss 3 t5 (.const (.int .i64 0)) 3), .n 7 (.move t6), .g (some 8) (.move t1) 7 false, .g (some 9) (.move t0) 7 false, .g (some 10) (.call ⟨.builtin .len, #[t9], #[56]⟩) 7 false, .g (some 11) (.binOp .geq 3 t8 t10 3) 7 false, .n 12 (.pick t7 (.const (.bool true)) t11)]) (.c t12 (.q (.R [.n 4 (.assign (.const (.int .u64 0)))]) .r) .s)) (.q (.R [.n 13 (.move t0), .n 14 (.move t1), .n 15 (.indexAddr 56 t13 t14), .n 16 (.load 59 t15), .n 17 (.convert 59 142 t16), .n 4 (.assign t17)]) .r))) := by kernel_rfl
theorem w133 : Tryz.f133.body.map (Qr C) = some (.q (.R [.n 4 (.assign (.const (.slice none 0 0)))]) (.q (.R [.n 5 (.alloc 56)]) (.q (.R [.n 6 (.alloc 142), .z (.store 142 t6 (.const (.int .u64 0)))]) (.q (.R [.n 9 (.makeFunc (.func 159) #[] #[t5, t6]), .n 7 (.assign t9)]) (.q (.q (.R [.n 10 (.move t0), .n 11 (.move (.const (.int .i64 0)))]) (.b 0 (.l (.q (.R [.n 12 (.binOp .lss 3 t11 t10 3)]) (.q (.c t12 .s (.x 0)) (.q (.b 1 (.q (.R [.n 13 (.move t11), .n 8 (.assign t13)]) (.P [.n 14 (.move t7), .n 15 (.move t1), .n 16 (.move t8), .n 17 (.call ⟨.value t15, #[t16], #[3]⟩), .n 18 (.load 142 t6), .n 19 (.binOp .add 142 t17 t18 142)] [.n 20 (.call ⟨.value t14, #[t19], #[142]⟩)]))) (.R [.n 21 (.binOp .add 3 t11 (.const (.int .i64 1)) 3), .n 11 (.move t21)]))))))) (.q (.b 2 (.l (.q (.q (.R [.n 22 (.load 142 t6), .n 23 (.binOp .gtr 142 t22 (.const (.int .u64 0)) 142)]) (.c t23 .s (.x 2))) (.b 3 (.R [.n 24 (.move t7), .n 25 (.load 142 t6), .n 26 (.call ⟨.value t24, #[t25], #[142]⟩)]))))) (.q (.D true [.n 27 (.load 56 t5), .n 28 (.load 56 t5), .n 29 (.call ⟨.value (.func 156), #[t28], #[56]⟩), .n 30 (.slice 56 t27 none (some t29) none), .n 4 (.assign t30)]) .r))))))) := by kernel_rfl
theorem w159 : Tryz.f159.body.map (Qr C) = some (.q (.R [.n 4 (.load 56 t1), .n 5 (.move t0), .n 6 (.convert 142 59 t5), .n 7 (.buildSlice 56 1 #[(0, t6)]), .n 8 (.call ⟨.builtin .append, #[t4, t7], #[56, 56]⟩), .z (.store 56 t1 t8)]) (.R [.n 9 (.move t0), .n 10 (.binOp .shr 142 t9 (.const (.int .u64 32)) 154), .z (.store 142 t2 t10)])) := by kernel_rfl
theorem w113 : Tryz.f113.body.map (Qr C) = some (.q (.R [.n 1 (.box 142 t0), .n 2 (.assign (.const (.slice none 0 0)))]) (.q (.R [.n 3 (.makeFunc (.func 134) #[] #[t1]), .n 4 (.call ⟨.value (.func 133), #[.const (.int .i64 2), t3], #[3, 160]⟩), .n 2 (.assign t4)]) .r)) := by kernel_rfl
theorem w134 : Tryz.f134.body.map (Qr C) = some (.q (.R [.n 3 (.assign (.const (.int .u64 0)))]) (.q (.R [.n 4 (.load 142 t1), .n 5 (.move t0), .n 6 (.binOp .mul 3 (.const (.int .i64 32)) t5 3), .n 7 (.binOp .shr 142 t4 t6 3), .n 8 (.binOp .and 142 t7 (.const (.int .u64 4294967295)) 142), .n 3 (.assign t8)]) .r)) := by kernel_rfl
theorem w157 : Tryz.f157.body.map (Qr C) = some (.q (.R [.n 2 (.assign (.const (.slice none 0 0)))]) (.q (.R [.n 3 (.move t0), .n 4 (.move t0), .n 5 (.call ⟨.value (.func 156), #[t4], #[56]⟩), .n 6 (.slice 56 t3 none (some t5) none), .n 7 (.call ⟨.value (.func 168), #[t6], #[56]⟩), .n 2 (.assign t7)]) .r)) := by kernel_rfl
theorem w168 : Tryz.f168.body.map (Qr C) = some (.q (.R [.n 2 (.assign (.const (.slice none 0 0)))]) (.q (.q (.R [.n 3 (.move t0), .n 4 (.binOp .eql 56 t3 (.const (.slice none 0 0)) 56)]) (.c t4 (.q (.R [.n 2 (.assign (.const (.slice none 0 0)))]) .r) .s)) (.q (.R [.n 5 (.buildSlice 56 0 #[]), .n 6 (.move t0), .n 7 (.call ⟨.builtin .append, #[t5, t6], #[56, 56]⟩), .n 2 (.assign t7)]) .r))) := by kernel_rfl
theorem w143 : Tryz.f143.body.map (Qr C) = some (.q (.R [.n 2 (.assign (.const .nilFunc))]) (.q (.R [.n 3 (.alloc 3), .z (.store 3 t3 (.const (.int .i64 0)))]) (.q (.q (.R [.n 6 (.move t0), .n 7 (.call ⟨.builtin .len, #[t6], #[182]⟩), .n 8 (.move (.const (.int .i64 0)))]) (.b 0 (.l (.q (.R [.n 9 (.binOp .lss 3 t8 t7 3)]) (.q (.c t9 .s (.x 0)) (.q (.b 1 (.q (.R [.n 10 (.indexAddr 182 t6 t8), .n 11 (.load 56 t10), .n 5 (.assign t11)]) (.R [.n 12 (.load 3 t3), .n 13 (.move t5), .n 14 (.call ⟨.builtin .len, #[t13], #[56]⟩), .n 15 (.call ⟨.builtin .max, #[t12, t14], #[3, 3]⟩), .z (.store 3 t3 t15)]))) (.R [.n 16 (.binOp .add 3 t8 (.const (.int .i64 1)) 3), .n 8 (.move t16)]))))))) (.q (.R [.n 17 (.makeFunc (.func 161) #[] #[t3]), .n 2 (.assign t17)]) .r)))) := by kernel_rfl
theorem w161 : Tryz.f161.body.map (Qr C) = some (.q (.R [.n 4 (.load 3 t1), .n 5 (.binOp .sub 3 t4 (.const (.int .i64 1)) 3), .n 3 (.assign t5)]) (.b 0 (.l (.q (.q (.R [.n 6 (.move t3), .n 7 (.binOp .geq 3 t6 (.const (.int .i64 0)) 3)]) (.c t7 .s (.x 0))) (.q (.b 1 (.q (.R [.n 10 (.move t0), .n 11 (.move t3), .n 12 (.call ⟨.value t10, #[t11], #[3]⟩), .n 13 (.unOp .not 4 t12)]) (.c t13 .r .s))) (.R [.n 8 (.move t3), .n 9 (.binOp .sub 3 t8 (.const (.int .i64 1)) 3), .n 3 (.assign t9)])))))) := by kernel_rfl
theorem w122 : Tryz.f122.body.map (Qr C) = some (.q (.R [.n 2 (.box 56 t0), .n 3 (.box 56 t1), .n 4 (.alloc 3)]) (.q (.q (.R [.n 8 (.load 56 t2), .n 9 (.load 56 t3), .n 10 (.buildSlice 182 2 #[(0, t8), (1, t9)]), .n 11 (.call ⟨.value (.func 143), #[t10], #[182]⟩)]) (.b 0 (.f t11 #[12] (.R [.n 5 (.assign t12)]) (.b 1 (.q (.D true [.n 13 (.load 56 t2), .n 14 (.move t5), .n 15 (.call ⟨.value (.func 137), #[t13, t14], #[56, 3]⟩), .n 16 (.load 56 t3), .n 17 (.move t5), .n 18 (.call ⟨.value (.func 137), #[t16, t17], #[56, 3]⟩), .n 6 (.assign t15), .n 7 (.assign t18)]) (.b 2 (.q (.R [.n 20 (.move t6), .n 21 (.move t7), .n 22 (.binOp .lss 142 t20 t21 142), .n 19 (.assign t22)]) (.c t19 (.q (.R [.z (.store 3 t4 (.const (.int .i64 (-1))))]) .r) (.q (.R [.n 24 (.move t6), .n 25 (.move t7), .n 26 (.binOp .gtr 142 t24 t25 142), .n 23 (.assign t26)]) (.c t23 (.q (.R [.z (.store 3 t4 (.const (.int .i64 1)))]) .r) .s)))))))))) (.q (.R [.z (.store 3 t4 (.const (.int .i64 0)))]) .r))) := by kernel_rfl
theorem w116 : Tryz.f116.body.map (Qr C) = some (.q (.R [.n 2 (.box 56 t0), .n 3 (.box 56 t1), .n 4 (.assign (.const (.slice none 0 0)))]) (.q (.R [.n 5 (.load 56 t2), .n 6 (.call ⟨.builtin .len, #[t5], #[56]⟩), .n 7 (.load 56 t3), .n 8 (.call ⟨.builtin .len, #[t7], #[56]⟩), .n 9 (.call ⟨.builtin .max, #[t6, t8], #[3, 3]⟩), .n 10 (.makeFunc (.func 136) #[] #[t2, t3]), .n 11 (.call ⟨.value (.func 133), #[t9, t10], #[3, 160]⟩), .n 4 (.assign t11)]) .r)) := by kernel_rfl
theorem w136 : Tryz.f136.body.map (Qr C) = some (.q (.R [.n 4 (.assign (.const (.int .u64 0)))]) (.q (.D true [.n 5 (.load 56 t1), .n 6 (.move t0), .n 7 (.call ⟨.value (.func 137), #[t5, t6], #[56, 3]⟩), .n 8 (.load 56 t2), .n 9 (.move t0), .n 10 (.call ⟨.value (.func 137), #[t8, t9], #[56, 3]⟩), .n 11 (.binOp .add 142 t7 t10 142), .n 4 (.assign t11)]) .r)) := by kernel_rfl
theorem w117 : Tryz.f117.body.map (Qr C) = some (.q (.R [.n 2 (.box 56 t0), .n 3 (.box 56 t1), .n 4 (.assign (.const (.slice none 0 0))), .n 5 (.assign (.const (.int .i64 0)))]) (.q (.q (.R [.n 8 (.load 56 t2), .n 9 (.load 56 t3), .n 10 (.call ⟨.value (.func 122), #[t8, t9], #[56, 56]⟩), .n 11 (.binOp .lss 3 t10 (.const (.int .i64 0)) 3)]) (.c t11 (.q (.R [.n 4 (.assign (.const (.slice none 0 0))), .n 5 (.assign (.const (.int .i64 20)))]) .r) .s)) (.q (.R [.n 6 (.alloc 142), .z (.store 142 t6 (.const (.int .u64 0)))]) (.q (.R [.n 12 (.load 56 t2), .n 13 (.call ⟨.builtin .len, #[t12], #[56]⟩), .n 14 (.makeFunc (.func 138) #[] #[t2, t3, t6]), .n 15 (.call ⟨.value (.func 133), #[t13, t14], #[3, 160]⟩), .n 7 (.assign t15)]) (.q (.R [.n 16 (.move t7), .n 4 (.assign t16), .n 5 (.assign (.const (.int .i64 0)))]) .r))))) := by kernel_rfl
theorem w138 : Tryz.f138.body.map (Qr C) = some (.q (.R [.n 5 (.assign (.const (.int .u64 0)))]) (.q (.D true [.n 8 (.load 56 t1), .n 9 (.move t0), .n 10 (.call ⟨.value (.func 137), #[t8, t9], #[56, 3]⟩), .n 11 (.load 56 t2), .n 12 (.move t0), .n 13 (.call ⟨.value (.func 137), #[t11, t12], #[56, 3]⟩), .n 14 (.load 142 t3), .n 15 (.binOp .add 142 t13 t14 142), .n 6 (.assign t10), .n 7 (.assign t15)]) (.q (.R [.z (.store 142 t3 (.const (.int .u64 0)))]) (.q (.q (.R [.n 16 (.move t6), .n 17 (.move t7), .n 18 (.binOp .lss 142 t16 t17 142)]) (.c t18 (.R [.n 19 (.move t6), .n 20 (.binOp .add 142 t19 (.const (.int .u64 4294967296)) 142), .n 6 (.assign t20), .z (.store 142 t3 (.const (.int .u64 1)))]) .s)) (.q (.R [.n 21 (.move t6), .n 22 (.move t7), .n 23 (.binOp .sub 142 t21 t22 142), .n 5 (.assign t23)]) .r))))) := by kernel_rfl
theorem w135 : Tryz.f135.body.map (Qr C) = some (.q (.R [.n 3 (.box 56 t0), .n 4 (.box 59 t1), .n 5 (.box 3 t2), .n 6 (.assign (.const (.slice none 0 0)))]) (.q (.R [.n 7 (.alloc 142), .z (.store 142 t7 (.const (.int .u64 0)))]) (.q (.R [.n 8 (.load 56 t3), .n 9 (.call ⟨.builtin .len, #[t8], #[56]⟩), .n 10 (.load 3 t5), .n 11 (.binOp .add 3 t9 t10 3), .n 12 (.binOp .add 3 t11 (.const (.int .i64 1)) 3), .n 13 (.makeFunc (.func 160) #[] #[t5, t3, t4, t7]), .n 14 (.call ⟨.value (.func 133), #[t12, t13], #[3, 160]⟩), .n 6 (.assign t14)]) .r))) := by kernel_rfl
theorem w160 : Tryz.f160.body.map (Qr C) = some (.q (.R [.n 6 (.assign (.const (.int .u64 0)))]) (.q (.q (.R [.n 8 (.move t0), .n 9 (.load 3 t1), .n 10 (.binOp .lss 3 t8 t9 3)]) (.c t10 (.q (.R [.n 6 (.assign (.const (.int .u64 0)))]) .r) .s)) (.q (.D true [.n 11 (.load 56 t2), .n 12 (.move t0), .n 13 (.load 3 t1), .n 14 (.binOp .sub 3 t12 t13 3), .n 15 (.call ⟨.value (.func 137), #[t11, t14], #[56, 3]⟩), .n 16 (.load 59 t3), .n 17 (.convert 59 142 t16), .n 18 (.binOp .mul 142 t15 t17 142), .n 19 (.load 142 t4), .n 20 (.binOp .add 142 t18 t19 142), .n 7 (.assign t20)]) (.q (.R [.n 21 (.move t7), .n 22 (.binOp .shr 142 t21 (.const (.int .u64 32)) 154), .z (.store 142 t4 t22)]) (.q (.R [.n 23 (.move t7), .n 24 (.binOp .and 142 t23 (.const (.int .u64 4294967295)) 142), .n 6 (.assign t24)]) .r))))) := by kernel_rfl
theorem w114 : Tryz.f114.body.map (Qr C) = some (.q (.R [.n 4 (.assign (.const (.slice none 0 0)))]) (.q (.R [.n 5 (.assign (.const (.slice none 0 0)))]) (.q (.q (.R [.n 8 (.move t1), .n 9 (.call ⟨.builtin .len, #[t8], #[56]⟩), .n 10 (.move (.const (.int .i64 0)))]) (.b 0 (.l (.q (.R [.n 11 (.binOp .lss 3 t10 t9 3)]) (.q (.c t11 .s (.x 0)) (.q (.b 1 (.q (.R [.n 12 (.move t10), .n 13 (.indexAddr 56 t8 t10), .n 14 (.load 59 t13), .n 6 (.assign t12), .n 7 (.assign t14)]) (.R [.n 15 (.move t5), .n 16 (.move t0), .n 17 (.move t7), .n 18 (.move t6), .n 19 (.call ⟨.value (.func 135), #[t16, t17, t18], #[56, 59, 3]⟩), .n 20 (.call ⟨.value (.func 116), #[t15, t19], #[56, 56]⟩), .n 5 (.assign t20)]))) (.R [.n 21 (.binOp .add 3 t10 (.const (.int .i64 1)) 3), .n 10 (.move t21)]))))))) (.q (.R [.n 22 (.move t5), .n 4 (.assign t22)]) .r)))) := by kernel_rfl
theorem w128 : Tryz.f128.body.map (Qr C) = some (.q (.R [.n 2 (.assign (.const (.int .i64 0)))]) (.q (.R [.n 4 (.move t0), .n 5 (.call ⟨.value (.func 156), #[t4], #[56]⟩), .n 3 (.assign t5)]) (.q (.q (.R [.n 6 (.move t3), .n 7 (.binOp .eql 3 t6 (.const (.int .i64 0)) 3)]) (.c t7 (.q (.R [.n 2 (.assign (.const (.int .i64 0)))]) .r) .s)) (.q (.R [.n 8 (.move t3), .n 9 (.binOp .sub 3 t8 (.const (.int .i64 1)) 3), .n 10 (.binOp .mul 3 (.const (.int .i64 32)) t9 3), .n 11 (.move t0), .n 12 (.move t3), .n 13 (.binOp .sub 3 t12 (.const (.int .i64 1)) 3), .n 14 (.indexAddr 56 t11 t13), .n 15 (.load 59 t14), .n 16 (.call ⟨.value (.func 153), #[t15], #[59]⟩), .n 17 (.binOp .add 3 t10 t16 3), .n 2 (.assign t17)]) .r)))) := by kernel_rfl
theorem w125 : Tryz.f125.body.map (Qr C) = some (.q (.R [.n 2 (.assign (.const (.int .i64 0)))]) (.q (.c (.const (.bool false)) (.q (.R [.n 3 (.move t0), .n 4 (.convert 154 59 t3), .n 5 (.call ⟨.value (.func 153), #[t4], #[59]⟩), .n 2 (.assign t5)]) .r) .s) (.q (.R [.n 6 (.move t0), .n 7 (.call ⟨.value (.func 154), #[t6], #[142]⟩), .n 2 (.assign t7)]) .r))) := by kernel_rfl
theorem w153 : Tryz.f153.body.map (Qr C) = some (.q (.R [.n 2 (.assign (.const (.int .i64 0)))]) (.q (.q (.R [.n 3 (.move t0), .n 4 (.binOp .geq 59 t3 (.const (.int .u32 65536)) 59)]) (.c t4 (.q (.R [.n 5 (.move t0), .n 6 (.binOp .shr 59 t5 (.const (.int .u64 16)) 154), .n 0 (.assign t6)]) (.R [.n 2 (.assign (.const (.int .i64 16)))])) .s)) (.q (.q (.R [.n 7 (.move t0), .n 8 (.binOp .geq 59 t7 (.const (.int .u32 256)) 59)]) (.c t8 (.q (.R [.n 9 (.move t0), .n 10 (.binOp .shr 59 t9 (.const (.int .u64 8)) 154), .n 0 (.assign t10)]) (.R [.n 11 (.move t2), .n 12 (.binOp .add 3 t11 (.const (.int .i64 8)) 3), .n 2 (.assign t12)])) .s)) (.q (.R [.n 13 (.move t2), .n 14 (.move t0), .n 15 (.convert 59 5 t14), .n 16 (.index 9 (.const (.string { data := (([0, 1, 2, 2, 3, 3, 3, 3, 4, 4, 4, 4, 4, 4, 4, 4, 5, 5, 5, 5, 5, 5, 5, 5, 5, 5, 5, 5, 5, 5, 5, 5, 6, 6, 6, 6, 6, 6, 6, 6, 6, 6, 6, 6, 6, 6, 6, 6, 6, 6, 6, 6, 6, 6, 6, 6, 6, 6, 6, 6, 6, 6, 6, 6].append [7, 7, 7, 7, 7, 7, 7, 7, 7, 7, 7, 7, 7, 7, 7, 7, 7, 7, 7, 7, 7, 7, 7, 7, 7, 7, 7, 7, 7, 7, 7, 7, 7, 7, 7, 7, 7, 7, 7, 7, 7, 7, 7, 7, 7, 7, 7, 7, 7, 7, 7, 7, 7, 7, 7, 7, 7, 7, 7, 7, 7, 7, 7, 7]).append ([8, 8, 8, 8, 8, 8, 8, 8, 8, 8, 8, 8, 8, 8, 8, 8, 8, 8, 8, 8, 8, 8, 8, 8, 8, 8, 8, 8, 8, 8, 8, 8, 8, 8, 8, 8, 8, 8, 8, 8, 8, 8, 8, 8, 8, 8, 8, 8, 8, 8, 8, 8, 8, 8, 8, 8, 8, 8, 8, 8, 8, 8, 8, 8].append [8, 8, 8, 8, 8, 8, 8, 8, 8, 8, 8, 8, 8, 8, 8, 8, 8, 8, 8, 8, 8, 8, 8, 8, 8, 8, 8, 8, 8, 8, 8, 8, 8, 8, 8, 8, 8, 8, 8, 8, 8, 8, 8, 8, 8, 8, 8, 8, 8, 8, 8, 8, 8, 8, 8, 8, 8, 8, 8, 8, 8, 8, 8, 8])).toArray })) t15), .n 17 (.convert 5 3 t16), .n 18 (.binOp .add 3 t13 t17 3), .n 2 (.assign t18)]) .r)))) := by kernel_rfl
theorem w154 : Tryz.f154.body.map (Qr C) = some (.q (.R [.n 2 (.assign (.const (.int .i64 0)))]) (.q (.q (.R [.n 3 (.move t0), .n 4 (.binOp .geq 142 t3 (.const (.int .u64 4294967296)) 142)]) (.c t4 (.q (.R [.n 5 (.move t0), .n 6 (.binOp .shr 142 t5 (.const (.int .u64 32)) 154), .n 0 (.assign t6)]) (.R [.n 2 (.assign (.const (.int .i64 32)))])) .s)) (.q (.q (.R [.n 7 (.move t0), .n 8 (.binOp .geq 142 t7 (.const (.int .u64 65536)) 142)]) (.c t8 (.q (.R [.n 9 (.move t0), .n 10 (.binOp .shr 142 t9 (.const (.int .u64 16)) 154), .n 0 (.assign t10)]) (.R [.n 11 (.move t2), .n 12 (.binOp .add 3 t11 (.const (.int .i64 16)) 3), .n 2 (.assign t12)])) .s)) (.q (.q (.R [.n 13 (.move t0), .n 14 (.binOp .geq 142 t13 (.const (.int .u64 256)) 142)]) (.c t14 (.q (.R [.n 15 (.move t0), .n 16 (.binOp .shr 142 t15 (.const (.int .u64 8)) 154), .n 0 (.assign t16)]) (.R [.n 17 (.move t2), .n 18 (.binOp .add 3 t17 (.const (.int .i64 8)) 3), .n 2 (.assign t18)])) .s)) (.q (.R [.n 19 (.move t2), .n 20 (.move t0), .n 21 (.convert 142 5 t20), .n 22 (.index 9 (.const (.string { data := (([0, 1, 2, 2, 3, 3, 3, 3, 4, 4, 4, 4, 4, 4, 4, 4, 5, 5, 5, 5, 5, 5, 5, 5, 5, 5, 5, 5, 5, 5, 5, 5, 6, 6, 6, 6, 6, 6, 6, 6, 6, 6, 6, 6, 6, 6, 6, 6, 6, 6, 6, 6, 6, 6, 6, 6, 6, 6, 6, 6, 6, 6, 6, 6].append [7, 7, 7, 7, 7, 7, 7, 7, 7, 7, 7, 7, 7, 7, 7, 7, 7, 7, 7, 7, 7, 7, 7, 7, 7, 7, 7, 7, 7, 7, 7, 7, 7, 7, 7, 7, 7, 7, 7, 7, 7, 7, 7, 7, 7, 7, 7, 7, 7, 7, 7, 7, 7, 7, 7, 7, 7, 7, 7, 7, 7, 7, 7, 7]).append ([8, 8, 8, 8, 8, 8, 8, 8, 8, 8, 8, 8, 8, 8, 8, 8, 8, 8, 8, 8, 8, 8, 8, 8, 8, 8, 8, 8, 8, 8, 8, 8, 8, 8, 8, 8, 8, 8, 8, 8, 8, 8, 8, 8, 8, 8, 8, 8, 8, 8, 8, 8, 8, 8, 8, 8, 8, 8, 8, 8, 8, 8, 8, 8].append [8, 8, 8, 8, 8, 8, 8, 8, 8, 8, 8, 8, 8, 8, 8, 8, 8, 8, 8, 8, 8, 8, 8, 8, 8, 8, 8, 8, 8, 8, 8, 8, 8, 8, 8, 8, 8, 8, 8, 8, 8, 8, 8, 8, 8, 8, 8, 8, 8, 8, 8, 8, 8, 8, 8, 8, 8, 8, 8, 8, 8, 8, 8, 8])).toArray })) t21), .n 23 (.convert 5 3 t22), .n 24 (.binOp .add 3 t19 t23 3), .n 2 (.assign t24)]) .r))))) := by kernel_rfl
theorem w171 : Tryz.f171.body.map (Qr C) = some (.q (.R [.n 2 (.box 56 t0), .n 3 (.box 3 t1), .n 4 (.assign (.const (.slice none 0 0)))]) (.q (.R [.n 5 (.load 3 t3), .n 6 (.call ⟨.builtin .max, #[t5, .const (.int .i64 0)], #[3, 3]⟩), .z (.store 3 t3 t6)]) (.q (.q (.R [.n 7 (.load 56 t2), .n 8 (.call ⟨.value (.func 156), #[t7], #[56]⟩), .n 9 (.binOp .eql 3 t8 (.const (.int .i64 0)) 3)]) (.c t9 (.q (.R [.n 4 (.assign (.const (.slice none 0 0)))]) .r) .s)) (.q (.R [.n 10 (.load 56 t2), .n 11 (.call ⟨.builtin .len, #[t10], #[56]⟩), .n 12 (.load 3 t3), .n 13 (.binOp .quo 3 t12 (.const (.int .i64 32)) 3), .n 14 (.binOp .add 3 t11 t13 3), .n 15 (.binOp .add 3 t14 (.const (.int .i64 1)) 3), .n 16 (.makeFunc (.func 177) #[] #[t3, t2]), .n 17 (.call ⟨.value (.func 133), #[t15, t16], #[3, 160]⟩), .n 4 (.assign t17)]) .r)))) := by kernel_rfl
theorem w177 : Tryz.f177.body.map (Qr C) = some (.q (.R [.n 4 (.assign (.const (.int .u64 0)))]) (.q (.R [.n 5 (.move t0), .n 6 (.load 3 t1), .n 7 (.binOp .quo 3 t6 (.const (.int .i64 32)) 3), .n 8 (.binOp .sub 3 t5 t7 3), .n 0 (.assign t8)]) (.q (.q (.R [.n 9 (.move t0), .n 10 (.binOp .lss 3 t9 (.const (.int .i64 0)) 3)]) (.c t10 (.q (.R [.n 4 (.assign (.const (.int .u64 0)))]) .r) .s)) (.q (.D true [.n 11 (.load 56 t2), .n 12 (.move t0), .n 13 (.call ⟨.value (.func 137), #[t11, t12], #[56, 3]⟩), .n 14 (.binOp .shl 142 t13 (.const (.int .u64 32)) 154), .n 15 (.load 56 t2), .n 16 (.move t0), .n 17 (.binOp .sub 3 t16 (.const (.int .i64 1)) 3), .n 18 (.call ⟨.value (.func 137), #[t15, t17], #[56, 3]⟩), .n 19 (.binOp .or 142 t14 t18 142), .n 20 (.load 3 t1), .n 21 (.binOp .rem 3 t20 (.const (.int .i64 32)) 3), .n 22 (.binOp .shl 142 t19 t21 3), .n 23 (.binOp .shr 142 t22 (.const (.int .u64 32)) 154), .n 24 (.binOp .and 142 t23 (.const (.int .u64 4294967295)) 142), .n 4 (.assign t24)]) .r)))) := by kernel_rfl
theorem w175 : Tryz.f175.body.map (Qr C) = some (.q (.R [.n 2 (.box 56 t0), .n 3 (.box 3 t1), .n 4 (.assign (.const (.slice none 0 0)))]) (.q (.R [.n 5 (.load 3 t3), .n 6 (.call ⟨.builtin .max, #[t5, .const (.int .i64 0)], #[3, 3]⟩), .z (.store 3 t3 t6)]) (.q (.q (.R [.n 7 (.load 3 t3), .n 8 (.binOp .quo 3 t7 (.const (.int .i64 32)) 3), .n 9 (.load 56 t2), .n 10 (.call ⟨.builtin .len, #[t9], #[56]⟩), .n 11 (.binOp .geq 3 t8 t10 3)]) (.c t11 (.q (.R [.n 4 (.assign (.const (.slice none 0 0)))]) .r) .s)) (.q (.R [.n 12 (.load 56 t2), .n 13 (.call ⟨.builtin .len, #[t12], #[56]⟩), .n 14 (.makeFunc (.func 180) #[] #[t3, t2]), .n 15 (.call ⟨.value (.func 133), #[t13, t14], #[3, 160]⟩), .n 4 (.assign t15)]) .r)))) := by kernel_rfl
theorem w180 : Tryz.f180.body.map (Qr C) = some (.q (.R [.n 4 (.assign (.const (.int .u64 0)))]) (.q (.R [.n 5 (.move t0), .n 6 (.load 3 t1), .n 7 (.binOp .quo 3 t6 (.const (.int .i64 32)) 3), .n 8 (.binOp .add 3 t5 t7 3), .n 0 (.assign t8)]) (.q (.D true [.n 9 (.load 56 t2), .n 10 (.move t0), .n 11 (.binOp .add 3 t10 (.const (.int .i64 1)) 3), .n 12 (.call ⟨.value (.func 137), #[t9, t11], #[56, 3]⟩), .n 13 (.binOp .shl 142 t12 (.const (.int .u64 32)) 154), .n 14 (.load 56 t2), .n 15 (.move t0), .n 16 (.call ⟨.value (.func 137), #[t14, t15], #[56, 3]⟩), .n 17 (.binOp .or 142 t13 t16 142), .n 18 (.load 3 t1), .n 19 (.binOp .rem 3 t18 (.const (.int .i64 32)) 3), .n 20 (.binOp .shr 142 t17 t19 3), .n 21 (.binOp .and 142 t20 (.const (.int .u64 4294967295)) 142), .n 4 (.assign t21)]) .r))) := by kernel_rfl
theorem w169 : Tryz.f169.body.map (Qr C) = some (.q (.R [.n 4 (.assign (.const (.slice none 0 0))), .n 5 (.assign (.const (.int .u32 0))), .n 6 (.assign (.const (.int .i64 0)))]) (.q (.q (.R [.n 10 (.move t1), .n 11 (.binOp .eql 59 t10 (.const (.int .u32 0)) 59)]) (.c t11 (.q (.R [.n 4 (.assign (.const (.slice none 0 0))), .n 5 (.assign (.const (.int .u32 0))), .n 6 (.assign (.const (.int .i64 17)))]) .r) .s)) (.q (.R [.n 12 (.move t0), .n 13 (.call ⟨.builtin .len, #[t12], #[56]⟩), .n 14 (.makeSlice 56 t13 t13), .n 7 (.assign t14)]) (.q (.R [.n 8 (.assign (.const (.int .u64 0)))]) (.q (.q (.R [.n 15 (.move t0), .n 16 (.call ⟨.builtin .len, #[t15], #[56]⟩), .n 17 (.binOp .sub 3 t16 (.const (.int .i64 1)) 3), .n 9 (.assign t17)]) (.b 0 (.l (.q (.q (.R [.n 18 (.move t9), .n 19 (.binOp .geq 3 t18 (.const (.int .i64 0)) 3)]) (.c t19 .s (.x 0))) (.q (.b 1 (.q (.R [.n 22 (.move t8), .n 23 (.binOp .shl 142 t22 (.const (.int .u64 32)) 154), .n 24 (.move t0), .n 25 (.move t9), .n 26 (.indexAddr 56 t24 t25), .n 27 (.load 59 t26), .n 28 (.convert 59 142 t27), .n 29 (.binOp .or 142 t23 t28 142), .n 8 (.assign t29)]) (.q (.R [.n 30 (.move t7), .n 31 (.move t9), .n 32 (.move t8), .n 33 (.move t1), .n 34 (.convert 59 142 t33), .n 35 (.binOp .quo 142 t32 t34 142), .n 36 (.convert 142 59 t35), .n 37 (.indexAddr 56 t30 t31), .z (.store 59 t37 t36)]) (.R [.n 38 (.move t8), .n 39 (.move t1), .n 40 (.convert 59 142 t39), .n 41 (.binOp .rem 142 t38 t40 142), .n 8 (.assign t41)])))) (.R [.n 20 (.move t9), .n 21 (.binOp .sub 3 t20 (.const (.int .i64 1)) 3), .n 9 (.assign t21)])))))) (.q (.R [.n 42 (.move t7), .n 43 (.call ⟨.value (.func 157), #[t42], #[56]⟩), .n 44 (.move t8), .n 45 (.convert 142 59 t44), .n 4 (.assign t43), .n 5 (.assign t45), .n 6 (.assign (.const (.int .i64 0)))]) .r)))))) := by kernel_rfl
theorem w172 : Tryz.f172.body.map (Qr C) = some (.q (.R [.n 4 (.assign (.const (.int .u64 0)))]) (.sc (.q (.R [.n 9 (.move t1), .n 10 (.call ⟨.builtin .len, #[t9], #[55]⟩), .n 5 (.assign t10)]) (.q (.D true [.n 11 (.move t0), .n 12 (.move t5), .n 13 (.indexAddr 55 t11 t12), .n 14 (.load 59 t13), .n 15 (.convert 59 142 t14), .n 16 (.binOp .shl 142 t15 (.const (.int .u64 32)) 154), .n 17 (.move t0), .n 18 (.move t5), .n 19 (.binOp .sub 3 t18 (.const (.int .i64 1)) 3), .n 20 (.indexAddr 55 t17 t19), .n 21 (.load 59 t20), .n 22 (.convert 59 142 t21), .n 23 (.binOp .or 142 t16 t22 142), .n 6 (.assign t23)]) (.q (.D true [.n 24 (.move t6), .n 25 (.move t1), .n 26 (.move t5), .n 27 (.binOp .sub 3 t26 (.const (.int .i64 1)) 3), .n 28 (.indexAddr 55 t25 t27), .n 29 (.load 59 t28), .n 30 (.convert 59 142 t29), .n 31 (.binOp .quo 142 t24 t30 142), .n 32 (.move t6), .n 33 (.move t1), .n 34 (.move t5), .n 35 (.binOp .sub 3 t34 (.const (.int .i64 1)) 3), .n 36 (.indexAddr 55 t33 t35), .n 37 (.load 59 t36), .n 38 (.convert 59 142 t37), .n 39 (.binOp .rem 142 t32 t38 142), .n 7 (.assign t31), .n 8 (.assign t39)]) (.q (.lb 0) (.q (.b 0 (.l (.q (.q (.D true [.n 40 (.move t7), .n 41 (.binOp .shr 142 t40 (.const (.int .u64 32)) 154), .n 42 (.binOp .gtr 142 t41 (.const (.int .u64 0)) 142), .n 43 (.move t42), .g (some 44) (.move t7) 43 false, .g (some 45) (.move t1) 43 false, .g (some 46) (.move t5) 43 false, .g (some 47) (.binOp .sub 3 t46 (.const (.int .i64 2)) 3) 43 false, .g (some 48) (.indexAddr 55 t45 t47) 43 false, .g (some 49) (.load 59 t48) 43 false, .g (some 50) (.convert 59 142 t49) 43 false, .g (some 51) (.binOp .mul 142 t44 t50 142) 43 false, .g (some 52) (.move t8) 43 false, .g (some 53) (.binOp .shl 142 t52 (.const (.int .u64 32)) 154) 43 false, .g (some 54) (.move t0) 43 false, .g (some 55) (.move t5) 43 false, .g (some 56) (.binOp .sub 3 t55 (.const (.int .i64 2)) 3) 43 false, .g (some 57) (.indexAddr 55 t54 t56) 43 false, .g (some 58) (.load 59 t57) 43 false, .g (some 59) (.convert 59 142 t58) 43 false, .g (some 60) (.binOp .or 142 t53 t59 142) 43 false, .g (some 61) (.binOp .gtr 142 t51 t60 142) 43 false, .n 62 (.pick t43 (.const (.bool true)) t61)]) (.c t62 .s (.x 0))) (.b 1 (.q (.R [.n 63 (.move t7), .n 64 (.binOp .sub 142 t63 (.const (.int .u64 1)) 142), .n 7 (.assign t64)]) (.q (.R [.n 65 (.move t8), .n 66 (.move t1), .n 67 (.move t5), .n 68 (.binOp .sub 3 t67 (.const (.int .i64 1)) 3), .n 69 (.indexAddr 55 t66 t68), .n 70 (.load 59 t69), .n 71 (.convert 59 142 t70), .n 72 (.binOp .add 142 t65 t71 142), .n 8 (.assign t72)]) (.q (.R [.n 73 (.move t8), .n 74 (.binOp .shr 142 t73 (.const (.int .u64 32)) 154), .n 75 (.binOp .gtr 142 t74 (.const (.int .u64 0)) 142)]) (.c t75 (.x 0) .s)))))))) (.q (.R [.n 76 (.move t7), .n 4 (.assign t76)]) .r)))))))) := by kernel_rfl
theorem w173 : Tryz.f173.body.map (Qr C) = some (.q (.R [.n 6 (.assign (.const (.bool false)))]) (.q (.R [.n 7 (.assign (.const (.int .u64 0))), .n 8 (.assign (.const (.int .u32 0)))]) (.q (.q (.R [.n 12 (.move t1), .n 13 (.call ⟨.builtin .len, #[t12], #[55]⟩), .n 14 (.move (.const (.int .i64 0)))]) (.b 0 (.l (.q (.R [.n 15 (.binOp .lss 3 t14 t13 3)]) (.q (.c t15 .s (.x 0)) (.q (.b 1 (.q (.R [.n 16 (.move t14), .n 17 (.indexAddr 55 t12 t14), .n 18 (.load 59 t17), .n 9 (.assign t16), .n 10 (.assign t18)]) (.q (.R [.n 19 (.move t2), .n 20 (.move t10), .n 21 (.convert 59 142 t20), .n 22 (.binOp .mul 142 t19 t21 142), .n 23 (.move t7), .n 24 (.binOp .add 142 t22 t23 142), .n 11 (.assign t24)]) (.q (.R [.n 25 (.move t11), .n 26 (.binOp .shr 142 t25 (.const (.int .u64 32)) 154), .n 7 (.assign t26)]) (.R [.n 28 (.move t0), .n 29 (.move t9), .n 30 (.move t0), .n 31 (.move t9), .n 32 (.indexAddr 55 t30 t31), .n 33 (.load 59 t32), .n 34 (.move t11), .n 35 (.convert 142 59 t34), .n 36 (.move t8), .n 37 (.call ⟨.value (.func 178), #[t33, t35, t36], #[59, 59, 59]⟩), .n 27 (.move t37), .n 38 (.extract t27 0), .n 39 (.extract t27 1), .n 40 (.indexAddr 55 t28 t29), .z (.store 59 t40 t38), .n 8 (.assign t39)]))))) (.R [.n 41 (.binOp .add 3 t14 (.const (.int .i64 1)) 3), .n 14 (.move t41)]))))))) (.q (.R [.n 43 (.move t0), .n 44 (.move t1), .n 45 (.call ⟨.builtin .len, #[t44], #[55]⟩), .n 46 (.move t0), .n 47 (.move t1), .n 48 (.call ⟨.builtin .len, #[t47], #[55]⟩), .n 49 (.indexAddr 55 t46 t48), .n 50 (.load 59 t49), .n 51 (.move t7), .n 52 (.convert 142 59 t51), .n 53 (.move t8), .n 54 (.call ⟨.value (.func 178), #[t50, t52, t53], #[59, 59, 59]⟩), .n 42 (.move t54), .n 55 (.extract t42 0), .n 56 (.extract t42 1), .n 57 (.indexAddr 55 t43 t45), .z (.store 59 t57 t55), .n 8 (.assign t56)]) (.q (.R [.n 58 (.move t8), .n 59 (.binOp .eql 59 t58 (.const (.int .u32 1)) 59), .n 6 (.assign t59)]) .r))))) := by kernel_rfl
theorem w174 : Tryz.f174.body.map (Qr C) = some (.q (.R [.n 4 (.assign (.const (.int .u32 0)))]) (.q (.q (.R [.n 7 (.move t1), .n 8 (.call ⟨.builtin .len, #[t7], #[55]⟩), .n 9 (.move (.const (.int .i64 0)))]) (.b 0 (.l (.q (.R [.n 10 (.binOp .lss 3 t9 t8 3)]) (.q (.c t10 .s (.x 0)) (.q (.b 1 (.q (.R [.n 11 (.move t9), .n 12 (.indexAddr 55 t7 t9), .n 13 (.load 59 t12), .n 5 (.assign t11), .n 6 (.assign t13)]) (.R [.n 15 (.move t0), .n 16 (.move t5), .n 17 (.move t0), .n 18 (.move t5), .n 19 (.indexAddr 55 t17 t18), .n 20 (.load 59 t19), .n 21 (.move t6), .n 22 (.move t4), .n 23 (.call ⟨.value (.func 179), #[t20, t21, t22], #[59, 59, 59]⟩), .n 14 (.move t23), .n 24 (.extract t14 0), .n 25 (.extract t14 1), .n 26 (.indexAddr 55 t15 t16), .z (.store 59 t26 t24), .n 4 (.assign t25)]))) (.R [.n 27 (.binOp .add 3 t9 (.const (.int .i64 1)) 3), .n 9 (.move t27)]))))))) (.R [.n 28 (.move t0), .n 29 (.move t1), .n 30 (.call ⟨.builtin .len, #[t29], #[55]⟩), .n 31 (.indexAddr 55 t28 t30), .n 32 (.load 59 t31), .n 33 (.move t4), .n 34 (.binOp .add 59 t32 t33 59), .n 35 (.indexAddr 55 t28 t30), .z (.store 59 t35 t34)]))) := by kernel_rfl
theorem w158 : Tryz.f158.body.map (Qr C) = some (.q (.R [.n 4 (.assign (.const (.slice none 0 0))), .n 5 (.assign (.const (.slice none 0 0))), .n 6 (.assign (.const (.int .i64 0)))]) (.q (.R [.n 17 (.move t0), .n 18 (.call ⟨.value (.func 157), #[t17], #[56]⟩), .n 19 (.move t1), .n 20 (.call ⟨.value (.func 157), #[t19], #[56]⟩), .n 0 (.assign t18), .n 1 (.assign t20)]) (.q (.b 0 (.q (.R [.n 22 (.move t1), .n 23 (.call ⟨.builtin .len, #[t22], #[56]⟩), .n 24 (.binOp .eql 3 t23 (.const (.int .i64 0)) 3), .n 21 (.assign t24)]) (.c t21 (.q (.R [.n 4 (.assign (.const (.slice none 0 0))), .n 5 (.assign (.const (.slice none 0 0))), .n 6 (.assign (.const (.int .i64 17)))]) .r) (.q (.R [.n 26 (.move t0), .n 27 (.move t1), .n 28 (.call ⟨.value (.func 122), #[t26, t27], #[56, 56]⟩), .n 29 (.binOp .lss 3 t28 (.const (.int .i64 0)) 3), .n 25 (.assign t29)]) (.c t25 (.q (.R [.n 30 (.move t0), .n 4 (.assign (.const (.slice none 0 0))), .n 5 (.assign t30), .n 6 (.assign (.const (.int .i64 0)))]) .r) (.q (.R [.n 32 (.move t1), .n 33 (.call ⟨.builtin .len, #[t32], #[56]⟩), .n 34 (.binOp .eql 3 t33 (.const (.int .i64 1)) 3), .n 31 (.assign t34)]) (.c t31 (.q (.R [.n 36 (.move t0), .n 37 (.move t1), .n 38 (.indexAddr 56 t37 (.const (.int .i64 0))), .n 39 (.load 59 t38), .n 40 (.call ⟨.value (.func 169), #[t36, t39], #[56, 59]⟩), .n 35 (.move t40), .n 41 (.extract t35 0), .n 42 (.extract t35 1), .n 43 (.extract t35 2), .n 7 (.assign t41), .n 8 (.assign t42), .n 9 (.assign t43)]) (.q (.R [.n 44 (.move t7), .n 45 (.move t8), .n 46 (.convert 59 142 t45), .n 47 (.call ⟨.value (.func 113), #[t46], #[142]⟩), .n 48 (.move t9), .n 4 (.assign t44), .n 5 (.assign t47), .n 6 (.assign t48)]) .r)) .s))))))) (.q (.R [.n 49 (.move t1), .n 50 (.move t1), .n 51 (.call ⟨.builtin .len, #[t50], #[56]⟩), .n 52 (.binOp .sub 3 t51 (.const (.int .i64 1)) 3), .n 53 (.indexAddr 56 t49 t52), .n 54 (.load 59 t53), .n 55 (.call ⟨.value (.func 170), #[t54], #[59]⟩), .n 10 (.assign t55)]) (.q (.R [.n 56 (.move t1), .n 57 (.move t10), .n 58 (.call ⟨.value (.func 171), #[t56, t57], #[56, 3]⟩), .n 11 (.assign t58)]) (.q (.R [.n 59 (.move t0), .n 60 (.call ⟨.builtin .len, #[t59], #[56]⟩), .n 61 (.binOp .add 3 t60 (.const (.int .i64 1)) 3), .n 62 (.makeSlice 55 t61 t61), .n 12 (.assign t62)]) (.q (.R [.n 63 (.move t12), .n 64 (.move t0), .n 65 (.move t10), .n 66 (.call ⟨.value (.func 171), #[t64, t65], #[56, 3]⟩), .n 67 (.call ⟨.builtin .copy, #[t63, t66], #[55, 56]⟩)]) (.q (.R [.n 68 (.move t0), .n 69 (.call ⟨.builtin .len, #[t68], #[56]⟩), .n 70 (.move t11), .n 71 (.call ⟨.builtin .len, #[t70], #[56]⟩), .n 72 (.binOp .sub 3 t69 t71 3), .n 73 (.binOp .add 3 t72 (.const (.int .i64 1)) 3), .n 74 (.makeSlice 56 t73 t73), .n 13 (.assign t74)]) (.q (.q (.R [.n 75 (.move t13), .n 76 (.call ⟨.builtin .len, #[t75], #[56]⟩), .n 77 (.binOp .sub 3 t76 (.const (.int .i64 1)) 3), .n 14 (.assign t77)]) (.b 1 (.l (.q (.q (.R [.n 78 (.move t14), .n 79 (.binOp .geq 3 t78 (.const (.int .i64 0)) 3)]) (.c t79 .s (.x 1))) (.q (.b 2 (.q (.R [.n 82 (.move t12), .n 83 (.move t14), .n 84 (.move t14), .n 85 (.move t11), .n 86 (.call ⟨.builtin .len, #[t85], #[56]⟩), .n 87 (.binOp .add 3 t84 t86 3), .n 88 (.binOp .add 3 t87 (.const (.int .i64 1)) 3), .n 89 (.slice 55 t82 (some t83) (some t88) none), .n 15 (.assign t89)]) (.q (.R [.n 90 (.move t15), .n 91 (.move t11), .n 92 (.call ⟨.value (.func 172), #[t90, t91], #[55, 55]⟩), .n 16 (.assign t92)]) (.q (.q (.R [.n 93 (.move t15), .n 94 (.move t11), .n 95 (.move t16), .n 96 (.call ⟨.value (.func 173), #[t93, t94, t95], #[55, 55, 142]⟩)]) (.c t96 (.q (.R [.n 97 (.move t16), .n 98 (.binOp .sub 142 t97 (.const (.int .u64 1)) 142), .n 16 (.assign t98)]) (.R [.n 99 (.move t15), .n 100 (.move t11), .n 101 (.call ⟨.value (.func 174), #[t99, t100], #[55, 55]⟩)])) .s)) (.R [.n 102 (.move t13), .n 103 (.move t14), .n 104 (.move t16), .n 105 (.convert 142 59 t104), .n 106 (.indexAddr 56 t102 t103), .z (.store 59 t106 t105)]))))) (.R [.n 80 (.move t14), .n 81 (.binOp .sub 3 t80 (.const (.int .i64 1)) 3), .n 14 (.assign t81)])))))) (.q (.R [.n 107 (.move t13), .n 108 (.call ⟨.value (.func 157), #[t107], #[56]⟩), .n 109 (.move t12), .n 110 (.call ⟨.value (.func 157), #[t109], #[56]⟩), .n 111 (.move t10), .n 112 (.call ⟨.value (.func 175), #[t110, t111], #[56, 3]⟩), .n 4 (.assign t108), .n 5 (.assign t112), .n 6 (.assign (.const (.int .i64 0)))]) .r)))))))))) := by kernel_rfl
theorem w129 : Tryz.f129.body.map (Qr C) = some (.q (.R [.n 4 (.assign (.const (.slice none 0 0)))]) (.q (.R [.n 8 (.move t0), .n 9 (.call ⟨.value (.func 157), #[t8], #[56]⟩), .n 10 (.move t1), .n 11 (.call ⟨.value (.func 157), #[t10], #[56]⟩), .n 0 (.assign t9), .n 1 (.assign t11)]) (.q (.b 0 (.l (.q (.q (.R [.n 12 (.move t1), .n 13 (.call ⟨.builtin .len, #[t12], #[56]⟩), .n 14 (.binOp .gtr 3 t13 (.const (.int .i64 0)) 3)]) (.c t14 .s (.x 0))) (.b 1 (.q (.R [.n 16 (.move t0), .n 17 (.move t1), .n 18 (.call ⟨.value (.func 158), #[t16, t17], #[56, 56]⟩), .n 15 (.move t18), .n 19 (.extract t15 0), .n 20 (.extract t15 1), .n 21 (.extract t15 2), .n 5 (.assign t19), .n 6 (.assign t20), .n 7 (.assign t21)]) (.R [.n 22 (.move t1), .n 23 (.move t6), .n 0 (.assign t22), .n 1 (.assign t23)])))))) (.q (.R [.n 24 (.move t0), .n 4 (.assign t24)]) .r)))) := by kernel_rfl
theorem w170 : Tryz.f170.body.map (Qr C) = some (.q (.R [.n 2 (.assign (.const (.int .i64 0)))]) (.q (.R [.n 3 (.move t0), .n 4 (.call ⟨.value (.func 153), #[t3], #[59]⟩), .n 5 (.binOp .sub 3 (.const (.int .i64 32)) t4 3), .n 2 (.assign t5)]) .r)) := by kernel_rfl
theorem w178 : Tryz.f178.body.map (Qr C) = some (.q (.R [.n 6 (.assign (.const (.int .u32 0))), .n 7 (.assign (.const (.int .u32 0)))]) (.q (.R [.n 8 (.move t0), .n 9 (.move t1), .n 10 (.binOp .sub 59 t8 t9 59), .n 11 (.move t2), .n 12 (.binOp .sub 59 t10 t11 59), .n 6 (.assign t12)]) (.q (.R [.n 13 (.move t0), .n 14 (.unOp .xor 59 t13), .n 15 (.move t1), .n 16 (.binOp .and 59 t14 t15 59), .n 17 (.move t0), .n 18 (.move t1), .n 19 (.binOp .xor 59 t17 t18 59), .n 20 (.unOp .xor 59 t19), .n 21 (.move t6), .n 22 (.binOp .and 59 t20 t21 59), .n 23 (.binOp .or 59 t16 t22 59), .n 24 (.binOp .shr 59 t23 (.const (.int .u64 31)) 154), .n 7 (.assign t24)]) .r))) := by kernel_rfl
theorem w179 : Tryz.f179.body.map (Qr C) = some (.q (.R [.n 6 (.assign (.const (.int .u32 0))), .n 7 (.assign (.const (.int .u32 0)))]) (.q (.R [.n 9 (.move t0), .n 10 (.convert 59 142 t9), .n 11 (.move t1), .n 12 (.convert 59 142 t11), .n 13 (.binOp .add 142 t10 t12 142), .n 14 (.move t2), .n 15 (.convert 59 142 t14), .n 16 (.binOp .add 142 t13 t15 142), .n 8 (.assign t16)]) (.q (.R [.n 17 (.move t8), .n 18 (.convert 142 59 t17), .n 6 (.assign t18)]) (.q (.R [.n 19 (.move t8), .n 20 (.binOp .shr 142 t19 (.const (.int .u64 32)) 154), .n 21 (.convert 142 59 t20), .n 7 (.assign t21)]) .r)))) := by kernel_rfl
theorem w96 : Tryz.f96.body.map (Qr C) = some (.q (.R [.n 0 (.assign (.const (.slice none 0 0)))]) (.q (.R [.n 1 (.call ⟨.value (.func 113), #[.const (.int .u64 1)], #[142]⟩), .n 0 (.assign t1)]) .r)) := by kernel_rfl
theorem w131 : Tryz.f131.body.map (Qr C) = some (.q (.R [.n 4 (.assign (.const (.slice none 0 0)))]) (.q (.R [.n 9 (.move t0), .n 10 (.move t1), .n 11 (.call ⟨.value (.func 158), #[t9, t10], #[56, 56]⟩), .n 8 (.move t11), .n 12 (.extract t8 0), .n 13 (.extract t8 1), .n 14 (.extract t8 2), .n 5 (.assign t12), .n 6 (.assign t13), .n 7 (.assign t14)]) (.q (.R [.n 15 (.move t5), .n 4 (.assign t15)]) .r))) := by kernel_rfl
theorem w110 : Tryz.f110.body.map (Qr C) = some (.q (.R [.n 6 (.alloc 58), .n 7 (.assign (.const (.int .i64 0)))]) (.q (.q (.R [.n 10 (.move t2), .n 11 (.call ⟨.value (.func 128), #[t10], #[56]⟩), .n 12 (.binOp .eql 3 t11 (.const (.int .i64 0)) 3)]) (.c t12 (.q (.R [.n 13 (.build 58 #[]), .z (.store 58 t6 t13), .n 7 (.assign (.const (.int .i64 17)))]) .r) .s)) (.q (.q (.R [.n 14 (.move t1), .n 15 (.call ⟨.value (.func 128), #[t14], #[56]⟩), .n 16 (.binOp .eql 3 t15 (.const (.int .i64 0)) 3)]) (.c t16 (.q (.R [.n 17 (.call ⟨.value (.func 96), #[], #[]⟩), .n 18 (.build 58 #[(2, t17)]), .z (.store 58 t6 t18), .n 7 (.assign (.const (.int .i64 0)))]) .r) .s)) (.q (.R [.n 19 (.move t1), .n 20 (.move t2), .n 21 (.call ⟨.value (.func 129), #[t19, t20], #[56, 56]⟩), .n 8 (.alloc 56), .z (.store 56 t8 t21)]) (.q (.R [.n 22 (.makeFunc (.func 130) #[] #[t8]), .n 9 (.assign t22)]) (.q (.R [.n 23 (.move t0), .n 24 (.move t9), .n 25 (.move t1), .n 26 (.call ⟨.value t24, #[t25], #[56]⟩), .n 27 (.move t9), .n 28 (.move t2), .n 29 (.call ⟨.value t27, #[t28], #[56]⟩), .n 30 (.build 58 #[(0, t23), (1, t26), (2, t29)]), .z (.store 58 t6 t30), .n 7 (.assign (.const (.int .i64 0)))]) .r)))))) := by kernel_rfl
theorem w130 : Tryz.f130.body.map (Qr C) = some (.q (.R [.n 3 (.assign (.const (.slice none 0 0)))]) (.q (.R [.n 4 (.move t0), .n 5 (.load 56 t1), .n 6 (.call ⟨.value (.func 131), #[t4, t5], #[56, 56]⟩), .n 3 (.assign t6)]) .r)) := by kernel_rfl
theorem w91 : Tryz.f91.body.map (Qr C) = some (.q (.R [.n 1 (.box 58 t0), .n 2 (.alloc 58)]) (.q (.R [.n 6 (.fieldAddr 58 t1 0), .n 7 (.load 4 t6), .n 8 (.fieldAddr 58 t1 1), .n 9 (.load 56 t8), .n 10 (.fieldAddr 58 t1 2), .n 11 (.load 56 t10), .n 12 (.call ⟨.value (.func 110), #[t7, t9, t11], #[4, 56, 56]⟩), .n 5 (.move t12), .n 13 (.extract t5 0), .n 14 (.extract t5 1), .n 3 (.alloc 58), .z (.store 58 t3 t13), .n 4 (.assign t14)]) (.q (.q (.R [.n 15 (.move t4), .n 16 (.binOp .neq 27 t15 (.const (.int .i64 0)) 27)]) (.c t16 (.q (.R [.n 17 (.call ⟨.value (.func 96), #[], #[]⟩), .n 18 (.build 58 #[(2, t17)]), .z (.store 58 t2 t18)]) .r) .s)) (.q (.R [.n 19 (.load 58 t3), .z (.store 58 t2 t19)]) .r)))) := by kernel_rfl
theorem w103 : Tryz.f103.body.map (Qr C) = some (.q (.R [.n 4 (.assign (.const (.bool false)))]) (.q (.R [.n 5 (.move t0), .n 6 (.call ⟨.builtin .len, #[t5], #[56]⟩), .n 7 (.move t1), .n 8 (.call ⟨.builtin .len, #[t7], #[56]⟩), .n 9 (.binOp .eql 3 t6 t8 3), .n 10 (.move t9), .g (some 11) (.move t0) 10 true, .g (some 12) (.move t1) 10 true, .g (some 13) (.call ⟨.value (.func 122), #[t11, t12], #[56, 56]⟩) 10 true, .g (some 14) (.binOp .eql 3 t13 (.const (.int .i64 0)) 3) 10 true, .n 15 (.pick t10 t14 (.const (.bool false))), .n 4 (.assign t15)]) .r)) := by kernel_rfl
theorem w79 : Tryz.f79.body.map (Qr C) = some (.q (.R [.n 1 (.box 58 t0), .n 2 (.assign (.const (.int .i64 0)))]) (.q (.R [.n 4 (.load 58 t1), .n 5 (.call ⟨.value (.func 91), #[t4], #[58]⟩), .n 3 (.alloc 58), .z (.store 58 t3 t5)]) (.q (.q (.R [.n 6 (.fieldAddr 58 t3 0), .n 7 (.load 4 t6), .n 8 (.fieldAddr 58 t1 0), .n 9 (.load 4 t8), .n 10 (.binOp .neq 4 t7 t9 4), .n 11 (.move t10), .g (some 12) (.fieldAddr 58 t3 1) 11 false, .g (some 13) (.load 56 t12) 11 false, .g (some 14) (.fieldAddr 58 t1 1) 11 false, .g (some 15) (.load 56 t14) 11 false, .g (some 16) (.call ⟨.value (.func 103), #[t13, t15], #[56, 56]⟩) 11 false, .g (some 17) (.unOp .not 4 t16) 11 false, .n 18 (.pick t11 (.const (.bool true)) t17), .n 19 (.move t18), .g (some 20) (.fieldAddr 58 t3 2) 19 false, .g (some 21) (.load 56 t20) 19 false, .g (some 22) (.fieldAddr 58 t1 2) 19 false, .g (some 23) (.load 56 t22) 19 false, .g (some 24) (.call ⟨.value (.func 103), #[t21, t23], #[56, 56]⟩) 19 false, .g (some 25) (.unOp .not 4 t24) 19 false, .n 26 (.pick t19 (.const (.bool true)) t25)]) (.c t26 (.q (.R [.n 2 (.assign (.const (.int .i64 6)))]) .r) .s)) (.q (.R [.n 2 (.assign (.const (.int .i64 0)))]) .r)))) := by kernel_rfl
theorem w95 : Tryz.f95.body.map (Qr C) = some (.q (.R [.n 2 (.assign (.const (.slice none 0 0)))]) (.q (.q (.R [.n 3 (.move t0), .n 4 (.binOp .lss 2 t3 (.const (.int .i64 0)) 2)]) (.c t4 (.q (.R [.n 5 (.move t0), .n 6 (.binOp .add 2 t5 (.const (.int .i64 1)) 2), .n 7 (.unOp .neg 2 t6), .n 8 (.convert 2 142 t7), .n 9 (.binOp .add 142 t8 (.const (.int .u64 1)) 142), .n 10 (.call ⟨.value (.func 113), #[t9], #[142]⟩), .n 2 (.assign t10)]) .r) .s)) (.q (.R [.n 11 (.move t0), .n 12 (.convert 2 142 t11), .n 13 (.call ⟨.value (.func 113), #[t12], #[142]⟩), .n 2 (.assign t13)]) .r))) := by kernel_rfl
theorem w71 : Tryz.f71.body.map (Qr C) = some (.q (.R [.n 2 (.alloc 58)]) (.q (.R [.n 3 (.move t0), .n 4 (.binOp .lss 2 t3 (.const (.int .i64 0)) 2), .n 5 (.move t0), .n 6 (.call ⟨.value (.func 95), #[t5], #[2]⟩), .n 7 (.call ⟨.value (.func 96), #[], #[]⟩), .n 8 (.build 58 #[(0, t4), (1, t6), (2, t7)]), .z (.store 58 t2 t8)]) .r)) := by kernel_rfl
theorem w98 : Tryz.f98.body.map (Qr C) = some (.q (.R [.n 3 (.box 58 t0), .n 4 (.box 58 t1), .n 6 (.alloc 58)]) (.q (.U [.n 15 (.load 58 t3), .n 16 (.call ⟨.value (.func 91), #[t15], #[58]⟩), .n 17 (.move t2), .n 18 (.load 58 t4), .n 19 (.call ⟨.value (.func 91), #[t18], #[58]⟩), .n 20 (.call ⟨.value t17, #[t19], #[58]⟩), .z (.store 58 t3 t16), .z (.store 58 t4 t20)]) (.q (.D true [.n 21 (.fieldAddr 58 t3 1), .n 22 (.load 56 t21), .n 23 (.fieldAddr 58 t4 2), .n 24 (.load 56 t23), .n 25 (.call ⟨.value (.func 114), #[t22, t24], #[56, 56]⟩), .n 26 (.fieldAddr 58 t4 1), .n 27 (.load 56 t26), .n 28 (.fieldAddr 58 t3 2), .n 29 (.load 56 t28), .n 30 (.call ⟨.value (.func 114), #[t27, t29], #[56, 56]⟩), .n 7 (.assign t25), .n 8 (.assign t30)]) (.q (.R [.n 31 (.fieldAddr 58 t3 2), .n 32 (.load 56 t31), .n 33 (.fieldAddr 58 t4 2), .n 34 (.load 56 t33), .n 35 (.call ⟨.value (.func 114), #[t32, t34], #[56, 56]⟩), .n 9 (.alloc 56), .z (.store 56 t9 t35)]) (.q (.R [.n 36 (.makeFunc (.func 115) #[] #[t9]), .n 10 (.assign t36)]) (.q (.q (.R [.n 37 (.fieldAddr 58 t3 0), .n 38 (.load 4 t37), .n 39 (.fieldAddr 58 t4 0), .n 40 (.load 4 t39), .n 41 (.binOp .eql 4 t38 t40 4)]) (.c t41 (.q (.U [.n 42 (.move t10), .n 43 (.fieldAddr 58 t3 0), .n 44 (.load 4 t43), .n 45 (.move t7), .n 46 (.move t8), .n 47 (.call ⟨.value (.func 116), #[t45, t46], #[56, 56]⟩), .n 48 (.call ⟨.value t42, #[t44, t47], #[4, 56]⟩), .z (.store 58 t6 t48)]) .r) .s)) (.q (.q (.R [.n 50 (.move t7), .n 51 (.move t8), .n 52 (.call ⟨.value (.func 117), #[t50, t51], #[56, 56]⟩), .n 49 (.move t52), .n 53 (.extract t49 0), .n 54 (.extract t49 1), .n 11 (.assign t53), .n 12 (.assign t54)]) (.q (.R [.n 55 (.move t12), .n 56 (.binOp .eql 27 t55 (.const (.int .i64 0)) 27)]) (.c t56 (.q (.R [.n 57 (.move t10), .n 58 (.fieldAddr 58 t3 0), .n 59 (.load 4 t58), .n 60 (.move t11), .n 61 (.call ⟨.value t57, #[t59, t60], #[4, 56]⟩), .z (.store 58 t6 t61)]) .r) .s))) (.q (.R [.n 63 (.move t8), .n 64 (.move t7), .n 65 (.call ⟨.value (.func 117), #[t63, t64], #[56, 56]⟩), .n 62 (.move t65), .n 66 (.extract t62 0), .n 67 (.extract t62 1), .n 13 (.assign t66), .n 14 (.assign t67)]) (.q (.R [.n 68 (.move t10), .n 69 (.fieldAddr 58 t4 0), .n 70 (.load 4 t69), .n 71 (.move t13), .n 72 (.call ⟨.value t68, #[t70, t71], #[4, 56]⟩), .z (.store 58 t6 t72)]) .r))))))))) := by kernel_rfl
theorem w115 : Tryz.f115.body.map (Qr C) = some (.q (.R [.n 5 (.alloc 58)]) (.q (.R [.n 9 (.move t0), .n 10 (.move t1), .n 11 (.load 56 t2), .n 12 (.call ⟨.value (.func 110), #[t9, t10, t11], #[4, 56, 56]⟩), .n 8 (.move t12), .n 13 (.extract t8 0), .n 14 (.extract t8 1), .n 6 (.alloc 58), .z (.store 58 t6 t13), .n 7 (.assign t14)]) (.q (.R [.n 15 (.load 58 t6), .z (.store 58 t5 t15)]) .r))) := by kernel_rfl
theorem w99 : Tryz.f99.body.map (Qr C) = some (.q (.R [.n 2 (.box 128 t0), .n 3 (.box 58 t1), .n 4 (.alloc 58)]) (.q (.q (.R [.n 5 (.fieldAddr 128 t2 0), .n 6 (.load 4 t5)]) (.c t6 (.q (.R [.n 7 (.load 58 t3), .n 8 (.call ⟨.value (.func 118), #[t7], #[58]⟩), .z (.store 58 t4 t8)]) .r) .s)) (.q (.R [.n 9 (.load 58 t3), .z (.store 58 t4 t9)]) .r))) := by kernel_rfl
theorem w74 : Tryz.f74.body.map (Qr C) = some (.q (.R [.n 2 (.box 58 t0), .n 3 (.box 58 t1), .n 4 (.alloc 58)]) (.q (.R [.n 5 (.load 58 t2), .n 6 (.load 58 t3), .n 7 (.build 128 #[]), .n 8 (.makeFunc (.func 99) #[t7] #[]), .n 9 (.call ⟨.value (.func 98), #[t5, t6, t8], #[58, 58, 67]⟩), .z (.store 58 t4 t9)]) .r)) := by kernel_rfl
theorem w100 : Tryz.f100.body.map (Qr C) = some (.q (.R [.n 2 (.alloc 58)]) (.q (.R [.n 6 (.call ⟨.value (.func 71), #[.const (.int .i64 1)], #[2]⟩), .n 3 (.alloc 58), .z (.store 58 t3 t6)]) (.q (.q (.R [.n 7 (.move t0), .n 8 (.call ⟨.builtin .len, #[t7], #[24]⟩), .n 9 (.move (.const (.int .i64 0)))]) (.b 0 (.l (.q (.R [.n 10 (.binOp .lss 3 t9 t8 3)]) (.q (.c t10 .s (.x 0)) (.q (.b 1 (.q (.R [.n 11 (.indexAddr 24 t7 t9), .n 12 (.load 58 t11), .n 5 (.alloc 58), .z (.store 58 t5 t12)]) (.q (.R [.n 13 (.load 58 t5), .n 14 (.call ⟨.value (.func 91), #[t13], #[58]⟩), .z (.store 58 t5 t14)]) (.D true [.n 16 (.fieldAddr 58 t3 0), .n 17 (.load 4 t16), .n 18 (.fieldAddr 58 t5 0), .n 19 (.load 4 t18), .n 20 (.binOp .neq 4 t17 t19 4), .n 21 (.fieldAddr 58 t3 1), .n 22 (.load 56 t21), .n 23 (.fieldAddr 58 t5 1), .n 24 (.load 56 t23), .n 25 (.call ⟨.value (.func 114), #[t22, t24], #[56, 56]⟩), .n 26 (.fieldAddr 58 t3 2), .n 27 (.load 56 t26), .n 28 (.fieldAddr 58 t5 2), .n 29 (.load 56 t28), .n 30 (.call ⟨.value (.func 114), #[t27, t29], #[56, 56]⟩), .n 31 (.call ⟨.value (.func 110), #[t20, t25, t30], #[4, 56, 56]⟩), .n 15 (.move t31), .n 32 (.extract t15 0), .n 33 (.extract t15 1), .z (.store 58 t3 t32)])))) (.R [.n 34 (.binOp .add 3 t9 (.const (.int .i64 1)) 3), .n 9 (.move t34)]))))))) (.q (.R [.n 35 (.load 58 t3), .z (.store 58 t2 t35)]) .r)))) := by kernel_rfl
theorem w75 : Tryz.f75.body.map (Qr C) = some (.q (.R [.n 2 (.box 58 t0), .n 3 (.box 58 t1), .n 4 (.alloc 58)]) (.q (.R [.n 5 (.load 58 t2), .n 6 (.load 58 t3), .n 7 (.buildSlice 24 2 #[(0, t5), (1, t6)]), .n 8 (.call ⟨.value (.func 100), #[t7], #[24]⟩), .z (.store 58 t4 t8)]) .r)) := by kernel_rfl
theorem w142 : Tryz.f142.body.map (Qr C) = some (.q (.R [.n 2 (.assign (.const (.slice none 0 0)))]) (.q (.R [.n 4 (.move t0), .n 5 (.call ⟨.builtin .len, #[t4], #[70]⟩), .n 3 (.assign t5)]) (.q (.b 0 (.l (.q (.q (.R [.n 6 (.move t3), .n 7 (.binOp .gtr 3 t6 (.const (.int .i64 0)) 3), .n 8 (.move t7), .g (some 9) (.move t0) 8 true, .g (some 10) (.move t3) 8 true, .g (some 11) (.binOp .sub 3 t10 (.const (.int .i64 1)) 3) 8 true, .g (some 12) (.indexAddr 70 t9 t11) 8 true, .g (some 13) (.load 3 t12) 8 true, .g (some 14) (.binOp .eql 3 t13 (.const (.int .i64 0)) 3) 8 true, .n 15 (.pick t8 t14 (.const (.bool false)))]) (.c t15 .s (.x 0))) (.b 1 (.R [.n 16 (.move t3), .n 17 (.binOp .sub 3 t16 (.const (.int .i64 1)) 3), .n 3 (.assign t17)]))))) (.q (.R [.n 18 (.move t0), .n 19 (.move t3), .n 20 (.slice 70 t18 none (some t19) none), .n 2 (.assign t20)]) .r)))) := by kernel_rfl
theorem w108 : Tryz.f108.body.map (Qr C) = some (.q (.R [.n 2 (.assign (.const (.slice none 0 0)))]) (.q (.R [.n 3 (.assign (.const (.slice none 0 0)))]) (.q (.b 0 (.l (.q (.q (.R [.n 4 (.move t0), .n 5 (.binOp .gtr 3 t4 (.const (.int .i64 0)) 3)]) (.c t5 .s (.x 0))) (.b 1 (.q (.R [.n 6 (.move t3), .n 7 (.move t0), .n 8 (.binOp .rem 3 t7 (.const (.int .i64 10000)) 3), .n 9 (.buildSlice 70 1 #[(0, t8)]), .n 10 (.call ⟨.builtin .append, #[t6, t9], #[70, 70]⟩), .n 3 (.assign t10)]) (.R [.n 11 (.move t0), .n 12 (.binOp .quo 3 t11 (.const (.int .i64 10000)) 3), .n 0 (.assign t12)])))))) (.q (.R [.n 13 (.move t3), .n 2 (.assign t13)]) .r)))) := by kernel_rfl
theorem w77 : Tryz.f77.body.map (Qr C) = some (.q (.R [.n 4 (.assign (.const (.int .i64 0)))]) (.q (.q (.R [.n 6 (.move t0), .n 7 (.call ⟨.builtin .len, #[t6], #[70]⟩), .n 8 (.move t1), .n 9 (.call ⟨.builtin .len, #[t8], #[70]⟩), .n 10 (.binOp .neq 3 t7 t9 3)]) (.c t10 (.q (.q (.R [.n 11 (.move t0), .n 12 (.call ⟨.builtin .len, #[t11], #[70]⟩), .n 13 (.move t1), .n 14 (.call ⟨.builtin .len, #[t13], #[70]⟩), .n 15 (.binOp .lss 3 t12 t14 3)]) (.c t15 (.q (.R [.n 4 (.assign (.const (.int .i64 (-1))))]) .r) .s)) (.q (.R [.n 4 (.assign (.const (.int .i64 1)))]) .r)) .s)) (.q (.q (.R [.n 16 (.move t0), .n 17 (.call ⟨.builtin .len, #[t16], #[70]⟩), .n 18 (.binOp .sub 3 t17 (.const (.int .i64 1)) 3), .n 5 (.assign t18)]) (.b 0 (.l (.q (.q (.R [.n 19 (.move t5), .n 20 (.binOp .geq 3 t19 (.const (.int .i64 0)) 3)]) (.c t20 .s (.x 0))) (.q (.b 1 (.q (.q (.D true [.n 23 (.move t0), .n 24 (.move t5), .n 25 (.indexAddr 70 t23 t24), .n 26 (.load 3 t25), .n 27 (.move t1), .n 28 (.move t5), .n 29 (.indexAddr 70 t27 t28), .n 30 (.load 3 t29), .n 31 (.binOp .lss 3 t26 t30 3)]) (.c t31 (.q (.R [.n 4 (.assign (.const (.int .i64 (-1))))]) .r) .s)) (.q (.D true [.n 32 (.move t0), .n 33 (.move t5), .n 34 (.indexAddr 70 t32 t33), .n 35 (.load 3 t34), .n 36 (.move t1), .n 37 (.move t5), .n 38 (.indexAddr 70 t36 t37), .n 39 (.load 3 t38), .n 40 (.binOp .gtr 3 t35 t39 3)]) (.c t40 (.q (.R [.n 4 (.assign (.const (.int .i64 1)))]) .r) .s)))) (.R [.n 21 (.move t5), .n 22 (.binOp .sub 3 t21 (.const (.int .i64 1)) 3), .n 5 (.assign t22)])))))) (.q (.R [.n 4 (.assign (.const (.int .i64 0)))]) .r)))) := by kernel_rfl
theorem w126 : Tryz.f126.body.map (Qr C) = some (.q (.R [.n 4 (.assign (.const (.int .i64 0)))]) (.q (.q (.R [.n 5 (.move t1), .n 6 (.move t0), .n 7 (.call ⟨.builtin .len, #[t6], #[70]⟩), .n 8 (.binOp .lss 3 t5 t7 3)]) (.c t8 (.q (.R [.n 9 (.move t0), .n 10 (.move t1), .n 11 (.indexAddr 70 t9 t10), .n 12 (.load 3 t11), .n 4 (.assign t12)]) .r) .s)) (.q (.R [.n 4 (.assign (.const (.int .i64 0)))]) .r))) := by kernel_rfl
theorem w107 : Tryz.f107.body.map (Qr C) = some (.q (.R [.n 4 (.assign (.const (.slice none 0 0)))]) (.q (.R [.n 5 (.assign (.const (.slice none 0 0)))]) (.q (.R [.n 6 (.assign (.const (.int .i64 0)))]) (.q (.q (.R [.n 7 (.assign (.const (.int .i64 0)))]) (.b 0 (.l (.q (.q (.R [.n 9 (.move t7), .n 10 (.move t0), .n 11 (.call ⟨.builtin .len, #[t10], #[70]⟩), .n 12 (.binOp .lss 3 t9 t11 3), .n 13 (.move t12), .g (some 14) (.move t7) 13 false, .g (some 15) (.move t1) 13 false, .g (some 16) (.call ⟨.builtin .len, #[t15], #[70]⟩) 13 false, .g (some 17) (.binOp .lss 3 t14 t16 3) 13 false, .n 18 (.pick t13 (.const (.bool true)) t17), .n 19 (.move t18), .g (some 20) (.move t6) 19 false, .g (some 21) (.binOp .gtr 3 t20 (.const (.int .i64 0)) 3) 19 false, .n 22 (.pick t19 (.const (.bool true)) t21)]) (.c t22 .s (.x 0))) (.q (.b 1 (.q (.R [.n 25 (.move t0), .n 26 (.move t7), .n 27 (.call ⟨.value (.func 126), #[t25, t26], #[70, 3]⟩), .n 28 (.move t1), .n 29 (.move t7), .n 30 (.call ⟨.value (.func 126), #[t28, t29], #[70, 3]⟩), .n 31 (.binOp .add 3 t27 t30 3), .n 32 (.move t6), .n 33 (.binOp .add 3 t31 t32 3), .n 8 (.assign t33)]) (.q (.R [.n 34 (.move t5), .n 35 (.move t8), .n 36 (.binOp .rem 3 t35 (.const (.int .i64 10000)) 3), .n 37 (.buildSlice 70 1 #[(0, t36)]), .n 38 (.call ⟨.builtin .append, #[t34, t37], #[70, 70]⟩), .n 5 (.assign t38)]) (.R [.n 39 (.move t8), .n 40 (.binOp .quo 3 t39 (.const (.int .i64 10000)) 3), .n 6 (.assign t40)])))) (.R [.n 23 (.move t7), .n 24 (.binOp .add 3 t23 (.const (.int .i64 1)) 3), .n 7 (.assign t24)])))))) (.q (.R [.n 41 (.move t5), .n 4 (.assign t41)]) .r))))) := by kernel_rfl
theorem w141 : Tryz.f141.body.map (Qr C) = some (.q (.R [.n 4 (.assign (.const (.slice none 0 0))), .n 5 (.assign (.const (.bool false)))]) (.q (.q (.R [.n 10 (.move t0), .n 11 (.move t1), .n 12 (.call ⟨.value (.func 77), #[t10, t11], #[70, 70]⟩), .n 13 (.binOp .lss 3 t12 (.const (.int .i64 0)) 3)]) (.c t13 (.q (.R [.n 4 (.assign (.const (.slice none 0 0))), .n 5 (.assign (.const (.bool false)))]) .r) .s)) (.q (.R [.n 6 (.assign (.const (.slice none 0 0)))]) (.q (.R [.n 7 (.assign (.const (.int .i64 0)))]) (.q (.q (.R [.n 8 (.assign (.const (.int .i64 0)))]) (.b 0 (.l (.q (.q (.R [.n 14 (.move t8), .n 15 (.move t0), .n 16 (.call ⟨.builtin .len, #[t15], #[70]⟩), .n 17 (.binOp .lss 3 t14 t16 3)]) (.c t17 .s (.x 0))) (.q (.b 1 (.q (.D true [.n 20 (.move t0), .n 21 (.move t8), .n 22 (.indexAddr 70 t20 t21), .n 23 (.load 3 t22), .n 24 (.move t1), .n 25 (.move t8), .n 26 (.call ⟨.value (.func 126), #[t24, t25], #[70, 3]⟩), .n 27 (.binOp .sub 3 t23 t26 3), .n 28 (.move t7), .n 29 (.binOp .sub 3 t27 t28 3), .n 9 (.assign t29)]) (.q (.R [.n 7 (.assign (.const (.int .i64 0)))]) (.q (.q (.R [.n 30 (.move t9), .n 31 (.binOp .lss 3 t30 (.const (.int .i64 0)) 3)]) (.c t31 (.q (.R [.n 32 (.move t9), .n 33 (.binOp .add 3 t32 (.const (.int .i64 10000)) 3), .n 9 (.assign t33)]) (.R [.n 7 (.assign (.const (.int .i64 1)))])) .s)) (.R [.n 34 (.move t6), .n 35 (.move t9), .n 36 (.buildSlice 70 1 #[(0, t35)]), .n 37 (.call ⟨.builtin .append, #[t34, t36], #[70, 70]⟩), .n 6 (.assign t37)]))))) (.R [.n 18 (.move t8), .n 19 (.binOp .add 3 t18 (.const (.int .i64 1)) 3), .n 8 (.assign t19)])))))) (.q (.R [.n 38 (.move t6), .n 39 (.call ⟨.value (.func 142), #[t38], #[70]⟩), .n 4 (.assign t39), .n 5 (.assign (.const (.bool true)))]) .r)))))) := by kernel_rfl
theorem w121 : Tryz.f121.body.map (Qr C) = some (.q (.R [.n 4 (.assign (.const (.slice none 0 0)))]) (.q (.R [.n 5 (.assign (.const (.slice none 0 0)))]) (.q (.R [.n 6 (.assign (.const (.int .i64 0)))]) (.q (.q (.R [.n 7 (.assign (.const (.int .i64 0)))]) (.b 0 (.l (.q (.q (.R [.n 9 (.move t7), .n 10 (.move t0), .n 11 (.call ⟨.builtin .len, #[t10], #[70]⟩), .n 12 (.binOp .lss 3 t9 t11 3), .n 13 (.move t12), .g (some 14) (.move t6) 13 false, .g (some 15) (.binOp .gtr 3 t14 (.const (.int .i64 0)) 3) 13 false, .n 16 (.pick t13 (.const (.bool true)) t15)]) (.c t16 .s (.x 0))) (.q (.b 1 (.q (.R [.n 19 (.move t0), .n 20 (.move t7), .n 21 (.call ⟨.value (.func 126), #[t19, t20], #[70, 3]⟩), .n 22 (.move t1), .n 23 (.binOp .mul 3 t21 t22 3), .n 24 (.move t6), .n 25 (.binOp .add 3 t23 t24 3), .n 8 (.assign t25)]) (.q (.R [.n 26 (.move t5), .n 27 (.move t8), .n 28 (.binOp .rem 3 t27 (.const (.int .i64 10000)) 3), .n 29 (.buildSlice 70 1 #[(0, t28)]), .n 30 (.call ⟨.builtin .append, #[t26, t29], #[70, 70]⟩), .n 5 (.assign t30)]) (.R [.n 31 (.move t8), .n 32 (.binOp .quo 3 t31 (.const (.int .i64 10000)) 3), .n 6 (.assign t32)])))) (.R [.n 17 (.move t7), .n 18 (.binOp .add 3 t17 (.const (.int .i64 1)) 3), .n 7 (.assign t18)])))))) (.q (.R [.n 33 (.move t5), .n 34 (.call ⟨.value (.func 142), #[t33], #[70]⟩), .n 4 (.assign t34)]) .r))))) := by kernel_rfl
theorem w155 : Tryz.f155.body.map (Qr C) = some (.q (.R [.n 4 (.assign (.const (.slice none 0 0))), .n 5 (.assign (.const (.int .i64 0)))]) (.q (.R [.n 10 (.move t0), .n 11 (.call ⟨.builtin .len, #[t10], #[70]⟩), .n 12 (.makeSlice 70 t11 t11), .n 6 (.assign t12)]) (.q (.R [.n 7 (.assign (.const (.int .i64 0)))]) (.q (.q (.R [.n 13 (.move t0), .n 14 (.call ⟨.builtin .len, #[t13], #[70]⟩), .n 15 (.binOp .sub 3 t14 (.const (.int .i64 1)) 3), .n 8 (.assign t15)]) (.b 0 (.l (.q (.q (.R [.n 16 (.move t8), .n 17 (.binOp .geq 3 t16 (.const (.int .i64 0)) 3)]) (.c t17 .s (.x 0))) (.q (.b 1 (.q (.R [.n 20 (.move t7), .n 21 (.binOp .mul 3 t20 (.const (.int .i64 10000)) 3), .n 22 (.move t0), .n 23 (.move t8), .n 24 (.indexAddr 70 t22 t23), .n 25 (.load 3 t24), .n 26 (.binOp .add 3 t21 t25 3), .n 9 (.assign t26)]) (.q (.R [.n 27 (.move t6), .n 28 (.move t8), .n 29 (.move t9), .n 30 (.move t1), .n 31 (.binOp .quo 3 t29 t30 3), .n 32 (.indexAddr 70 t27 t28), .z (.store 3 t32 t31)]) (.R [.n 33 (.move t9), .n 34 (.move t1), .n 35 (.binOp .rem 3 t33 t34 3), .n 7 (.assign t35)])))) (.R [.n 18 (.move t8), .n 19 (.binOp .sub 3 t18 (.const (.int .i64 1)) 3), .n 8 (.assign t19)])))))) (.q (.R [.n 36 (.move t6), .n 37 (.call ⟨.value (.func 142), #[t36], #[70]⟩), .n 38 (.move t7), .n 4 (.assign t37), .n 5 (.assign t38)]) .r))))) := by kernel_rfl
theorem w102 : Tryz.f102.body.map (Qr C) = some (.q (.R [.n 2 (.assign (.const (.slice none 0 0)))]) (.q (.R [.n 3 (.assign (.const (.slice none 0 0)))]) (.q (.q (.R [.n 5 (.move t0), .n 6 (.call ⟨.builtin .len, #[t5], #[56]⟩), .n 7 (.binOp .sub 3 t6 (.const (.int .i64 1)) 3), .n 4 (.assign t7)]) (.b 0 (.l (.q (.q (.R [.n 8 (.move t4), .n 9 (.binOp .geq 3 t8 (.const (.int .i64 0)) 3)]) (.c t9 .s (.x 0))) (.q (.b 1 (.D true [.n 12 (.move t3), .n 13 (.call ⟨.value (.func 121), #[t12, .const (.int .i64 65536)], #[70, 3]⟩), .n 14 (.call ⟨.value (.func 121), #[t13, .const (.int .i64 65536)], #[70, 3]⟩), .n 15 (.move t0), .n 16 (.move t4), .n 17 (.indexAddr 56 t15 t16), .n 18 (.load 59 t17), .n 19 (.convert 59 3 t18), .n 20 (.call ⟨.value (.func 108), #[t19], #[3]⟩), .n 21 (.call ⟨.value (.func 107), #[t14, t20], #[70, 70]⟩), .n 3 (.assign t21)])) (.R [.n 10 (.move t4), .n 11 (.binOp .sub 3 t10 (.const (.int .i64 1)) 3), .n 4 (.assign t11)])))))) (.q (.R [.n 22 (.move t3), .n 2 (.assign t22)]) .r)))) := by kernel_rfl
theorem w127 : Tryz.f127.body.map (Qr C) = some (.q (.R [.n 2 (.assign (.const (.slice none 0 0)))]) (.q (.R [.n 3 (.assign (.const (.slice none 0 0)))]) (.q (.b 0 (.l (.q (.q (.R [.n 8 (.move t0), .n 9 (.call ⟨.builtin .len, #[t8], #[70]⟩), .n 10 (.binOp .gtr 3 t9 (.const (.int .i64 0)) 3)]) (.c t10 .s (.x 0))) (.b 1 (.q (.R [.n 12 (.move t0), .n 13 (.call ⟨.value (.func 155), #[t12, .const (.int .i64 65536)], #[70, 3]⟩), .n 11 (.move t13), .n 14 (.extract t11 0), .n 15 (.extract t11 1), .n 4 (.assign t14), .n 5 (.assign t15)]) (.q (.R [.n 17 (.move t4), .n 18 (.call ⟨.value (.func 155), #[t17, .const (.int .i64 65536)], #[70, 3]⟩), .n 16 (.move t18), .n 19 (.extract t16 0), .n 20 (.extract t16 1), .n 6 (.assign t19), .n 7 (.assign t20)]) (.q (.R [.n 21 (.move t3), .n 22 (.move t7), .n 23 (.convert 3 59 t22), .n 24 (.binOp .mul 59 t23 (.const (.int .u32 65536)) 59), .n 25 (.move t5), .n 26 (.convert 3 59 t25), .n 27 (.binOp .add 59 t24 t26 59), .n 28 (.buildSlice 56 1 #[(0, t27)]), .n 29 (.call ⟨.builtin .append, #[t21, t28], #[56, 56]⟩), .n 3 (.assign t29)]) (.R [.n 30 (.move t6), .n 0 (.assign t30)])))))))) (.q (.R [.n 31 (.move t3), .n 2 (.assign t31)]) .r)))) := by kernel_rfl
theorem w94 : Tryz.f94.body.map (Qr C) = some (.q (.R [.n 4 (.assign (.const (.bool false)))]) (.q (.R [.n 5 (.move t1), .n 6 (.call ⟨.value (.func 112), #[t5], #[56]⟩), .n 7 (.move t6), .g (some 8) (.move t1) 7 true, .g (some 9) (.call ⟨.value (.func 102), #[t8], #[56]⟩) 7 true, .g (some 10) (.move t0) 7 true, .g (some 11) (.call ⟨.value (.func 77), #[t9, t10], #[70, 70]⟩) 7 true, .g (some 12) (.binOp .eql 3 t11 (.const (.int .i64 0)) 3) 7 true, .n 13 (.pick t7 t12 (.const (.bool false))), .n 4 (.assign t13)]) .r)) := by kernel_rfl
theorem w112 : Tryz.f112.body.map (Qr C) = some (.q (.R [.n 2 (.assign (.const (.bool false)))]) (.q (.R [.n 3 (.move t0), .n 4 (.call ⟨.builtin .len, #[t3], #[56]⟩), .n 5 (.binOp .eql 3 t4 (.const (.int .i64 0)) 3), .n 6 (.move t5), .g (some 7) (.move t0) 6 false, .g (some 8) (.move t0) 6 false, .g (some 9) (.call ⟨.builtin .len, #[t8], #[56]⟩) 6 false, .g (some 10) (.binOp .sub 3 t9 (.const (.int .i64 1)) 3) 6 false, .g (some 11) (.indexAddr 56 t7 t10) 6 false, .g (some 12) (.load 59 t11) 6 false, .g (some 13) (.binOp .neq 59 t12 (.const (.int .u32 0)) 59) 6 false, .n 14 (.pick t6 (.const (.bool true)) t13), .n 2 (.assign t14)]) .r)) := by kernel_rfl
theorem w139 : Tryz.f139.body.map (Qr C) = some (.q (.R [.n 2 (.assign (.const (.slice none 0 0)))]) (.q (.R [.n 4 (.move t0), .n 5 (.call ⟨.builtin .len, #[t4], #[70]⟩), .n 3 (.assign t5)]) (.q (.b 0 (.l (.q (.q (.R [.n 6 (.move t3), .n 7 (.binOp .gtr 3 t6 (.const (.int .i64 0)) 3), .n 8 (.move t7), .g (some 9) (.move t0) 8 true, .g (some 10) (.move t3) 8 true, .g (some 11) (.binOp .sub 3 t10 (.const (.int .i64 1)) 3) 8 true, .g (some 12) (.indexAddr 70 t9 t11) 8 true, .g (some 13) (.load 3 t12) 8 true, .g (some 14) (.binOp .eql 3 t13 (.const (.int .i64 0)) 3) 8 true, .n 15 (.pick t8 t14 (.const (.bool false)))]) (.c t15 .s (.x 0))) (.b 1 (.R [.n 16 (.move t3), .n 17 (.binOp .sub 3 t16 (.const (.int .i64 1)) 3), .n 3 (.assign t17)]))))) (.q (.R [.n 18 (.move t0), .n 19 (.move t3), .n 20 (.slice 70 t18 none (some t19) none), .n 2 (.assign t20)]) .r)))) := by kernel_rfl
theorem w140 : Tryz.f140.body.map (Qr C) = some (.q (.R [.n 4 (.assign (.const (.int .i64 0)))]) (.q (.R [.n 5 (.assign (.const (.int .i64 0))), .n 6 (.assign (.const (.int .i64 10000)))]) (.q (.b 0 (.l (.q (.q (.R [.n 8 (.move t6), .n 9 (.move t5), .n 10 (.binOp .sub 3 t8 t9 3), .n 11 (.binOp .gtr 3 t10 (.const (.int .i64 1)) 3)]) (.c t11 .s (.x 0))) (.b 1 (.q (.R [.n 12 (.move t5), .n 13 (.move t6), .n 14 (.binOp .add 3 t12 t13 3), .n 15 (.binOp .quo 3 t14 (.const (.int .i64 2)) 3), .n 7 (.assign t15)]) (.q (.R [.n 16 (.move t1), .n 17 (.move t7), .n 18 (.call ⟨.value (.func 121), #[t16, t17], #[70, 3]⟩), .n 19 (.move t0), .n 20 (.call ⟨.value (.func 77), #[t18, t19], #[70, 70]⟩), .n 21 (.binOp .leq 3 t20 (.const (.int .i64 0)) 3)]) (.c t21 (.R [.n 22 (.move t7), .n 5 (.assign t22)]) (.R [.n 23 (.move t7), .n 6 (.assign t23)])))))))) (.q (.R [.n 24 (.move t5), .n 4 (.assign t24)]) .r)))) := by kernel_rfl
theorem w120 : Tryz.f120.body.map (Qr C) = some (.q (.R [.n 4 (.assign (.const (.slice none 0 0))), .n 5 (.assign (.const (.slice none 0 0)))]) (.q (.R [.n 12 (.move t0), .n 13 (.call ⟨.builtin .len, #[t12], #[70]⟩), .n 14 (.makeSlice 70 t13 t13), .n 6 (.assign t14)]) (.q (.R [.n 7 (.assign (.const (.slice none 0 0)))]) (.q (.q (.R [.n 15 (.move t0), .n 16 (.call ⟨.builtin .len, #[t15], #[70]⟩), .n 17 (.binOp .sub 3 t16 (.const (.int .i64 1)) 3), .n 8 (.assign t17)]) (.b 0 (.l (.q (.q (.R [.n 18 (.move t8), .n 19 (.binOp .geq 3 t18 (.const (.int .i64 0)) 3)]) (.c t19 .s (.x 0))) (.q (.b 1 (.q (.R [.n 22 (.move t0), .n 23 (.move t8), .n 24 (.indexAddr 70 t22 t23), .n 25 (.load 3 t24), .n 26 (.buildSlice 70 1 #[(0, t25)]), .n 27 (.move t7), .n 28 (.call ⟨.builtin .append, #[t26, t27], #[70, 70]⟩), .n 29 (.call ⟨.value (.func 139), #[t28], #[70]⟩), .n 7 (.assign t29)]) (.q (.R [.n 30 (.move t7), .n 31 (.move t1), .n 32 (.call ⟨.value (.func 140), #[t30, t31], #[70, 70]⟩), .n 9 (.assign t32)]) (.q (.R [.n 33 (.move t6), .n 34 (.move t8), .n 35 (.move t9), .n 36 (.indexAddr 70 t33 t34), .z (.store 3 t36 t35)]) (.q (.R [.n 38 (.move t7), .n 39 (.move t1), .n 40 (.move t9), .n 41 (.call ⟨.value (.func 121), #[t39, t40], #[70, 3]⟩), .n 42 (.call ⟨.value (.func 141), #[t38, t41], #[70, 70]⟩), .n 37 (.move t42), .n 43 (.extract t37 0), .n 44 (.extract t37 1), .n 10 (.assign t43), .n 11 (.assign t44)]) (.R [.n 45 (.move t10), .n 7 (.assign t45)])))))) (.R [.n 20 (.move t8), .n 21 (.binOp .sub 3 t20 (.const (.int .i64 1)) 3), .n 8 (.assign t21)])))))) (.q (.R [.n 46 (.move t6), .n 47 (.call ⟨.value (.func 139), #[t46], #[70]⟩), .n 48 (.move t7), .n 4 (.assign t47), .n 5 (.assign t48)]) .r))))) := by kernel_rfl
theorem w119 : Tryz.f119.body.map (Qr C) = some (.q (.R [.n 4 (.assign (.const (.slice none 0 0)))]) (.q (.b 0 (.l (.q (.q (.R [.n 7 (.move t1), .n 8 (.call ⟨.builtin .len, #[t7], #[70]⟩), .n 9 (.binOp .gtr 3 t8 (.const (.int .i64 0)) 3)]) (.c t9 .s (.x 0))) (.b 1 (.q (.R [.n 11 (.move t0), .n 12 (.move t1), .n 13 (.call ⟨.value (.func 120), #[t11, t12], #[70, 70]⟩), .n 10 (.move t13), .n 14 (.extract t10 0), .n 15 (.extract t10 1), .n 5 (.assign t14), .n 6 (.assign t15)]) (.R [.n 16 (.move t1), .n 17 (.move t6), .n 0 (.assign t16), .n 1 (.assign t17)])))))) (.q (.R [.n 18 (.move t0), .n 4 (.assign t18)]) .r))) := by kernel_rfl
theorem w101 : Tryz.f101.body.map (Qr C) = some (.q (.R [.n 6 (.alloc 72)]) (.q (.q (.R [.n 12 (.move t1), .n 13 (.call ⟨.builtin .len, #[t12], #[70]⟩), .n 14 (.binOp .eql 3 t13 (.const (.int .i64 0)) 3), .n 15 (.move t14), .g (some 16) (.move t2) 15 false, .g (some 17) (.call ⟨.builtin .len, #[t16], #[70]⟩) 15 false, .g (some 18) (.binOp .eql 3 t17 (.const (.int .i64 0)) 3) 15 false, .n 19 (.pick t15 (.const (.bool true)) t18)]) (.c t19 (.q (.R [.n 20 (.buildSlice 70 1 #[(0, .const (.int .i64 1))]), .n 21 (.build 72 #[(2, t20)]), .z (.store 72 t6 t21)]) .r) .s)) (.q (.R [.n 22 (.move t1), .n 23 (.move t2), .n 24 (.call ⟨.value (.func 119), #[t22, t23], #[70, 70]⟩), .n 7 (.assign t24)]) (.q (.R [.n 26 (.move t1), .n 27 (.move t7), .n 28 (.call ⟨.value (.func 120), #[t26, t27], #[70, 70]⟩), .n 25 (.move t28), .n 29 (.extract t25 0), .n 30 (.extract t25 1), .n 8 (.assign t29), .n 9 (.assign t30)]) (.q (.R [.n 32 (.move t2), .n 33 (.move t7), .n 34 (.call ⟨.value (.func 120), #[t32, t33], #[70, 70]⟩), .n 31 (.move t34), .n 35 (.extract t31 0), .n 36 (.extract t31 1), .n 10 (.assign t35), .n 11 (.assign t36)]) (.q (.R [.n 37 (.move t0), .n 38 (.move t8), .n 39 (.move t10), .n 40 (.build 72 #[(0, t37), (1, t38), (2, t39)]), .z (.store 72 t6 t40)]) .r)))))) := by kernel_rfl
theorem w76 : Tryz.f76.body.map (Qr C) = some (.q (.R [.n 1 (.box 58 t0), .n 2 (.alloc 72)]) (.q (.D true [.n 3 (.fieldAddr 58 t1 0), .n 4 (.load 4 t3), .n 5 (.fieldAddr 58 t1 1), .n 6 (.load 56 t5), .n 7 (.call ⟨.value (.func 102), #[t6], #[56]⟩), .n 8 (.fieldAddr 58 t1 2), .n 9 (.load 56 t8), .n 10 (.call ⟨.value (.func 102), #[t9], #[56]⟩), .n 11 (.call ⟨.value (.func 101), #[t4, t7, t10], #[4, 70, 70]⟩), .z (.store 72 t2 t11)]) .r)) := by kernel_rfl
theorem w109 : Tryz.f109.body.map (Qr C) = some (.q (.R [.n 1 (.box 72 t0), .n 2 (.alloc 58)]) (.q (.D true [.n 3 (.fieldAddr 72 t1 0), .n 4 (.load 4 t3), .n 5 (.fieldAddr 72 t1 1), .n 6 (.load 70 t5), .n 7 (.call ⟨.value (.func 127), #[t6], #[70]⟩), .n 8 (.fieldAddr 72 t1 2), .n 9 (.load 70 t8), .n 10 (.call ⟨.value (.func 127), #[t9], #[70]⟩), .n 11 (.build 58 #[(0, t4), (1, t7), (2, t10)]), .z (.store 58 t2 t11)]) .r)) := by kernel_rfl
theorem w62 : Tryz.f62.body.map (Qr C) = some (.q (.R [.n 1 (.box 58 t0), .n 2 (.assign (.const (.int .i64 0)))]) (.q (.R [.n 4 (.load 58 t1), .n 5 (.call ⟨.value (.func 76), #[t4], #[58]⟩), .n 3 (.alloc 72), .z (.store 72 t3 t5)]) (.q (.q (.R [.n 6 (.load 72 t3), .n 7 (.load 58 t1), .n 8 (.call ⟨.value (.func 69), #[t6, t7], #[72, 58]⟩), .n 9 (.unOp .not 4 t8)]) (.c t9 (.q (.R [.n 2 (.assign (.const (.int .i64 6)))]) .r) .s)) (.q (.R [.n 2 (.assign (.const (.int .i64 0)))]) .r)))) := by kernel_rfl
theorem w69 : Tryz.f69.body.map (Qr C) = some (.q (.R [.n 2 (.box 72 t0), .n 3 (.box 58 t1), .n 4 (.assign (.const (.bool false)))]) (.q (.R [.n 5 (.fieldAddr 58 t3 0), .n 6 (.load 4 t5), .n 7 (.fieldAddr 72 t2 0), .n 8 (.load 4 t7), .n 9 (.binOp .eql 4 t6 t8 4), .n 10 (.move t9), .g (some 11) (.fieldAddr 72 t2 1) 10 true, .g (some 12) (.load 70 t11) 10 true, .g (some 13) (.fieldAddr 58 t3 1) 10 true, .g (some 14) (.load 56 t13) 10 true, .g (some 15) (.call ⟨.value (.func 94), #[t12, t14], #[70, 56]⟩) 10 true, .n 16 (.pick t10 t15 (.const (.bool false))), .n 17 (.move t16), .g (some 18) (.fieldAddr 72 t2 2) 17 true, .g (some 19) (.load 70 t18) 17 true, .g (some 20) (.fieldAddr 58 t3 2) 17 true, .g (some 21) (.load 56 t20) 17 true, .g (some 22) (.call ⟨.value (.func 94), #[t19, t21], #[70, 56]⟩) 17 true, .n 23 (.pick t17 t22 (.const (.bool false))), .n 4 (.assign t23)]) .r)) := by kernel_rfl
theorem w84 : Tryz.f84.body.map (Qr C) = some (.q (.R [.n 2 (.assign (.const (.slice none 0 0)))]) (.q (.q (.R [.n 3 (.move t0), .n 4 (.binOp .lss 3 t3 (.const (.int .i64 0)) 3)]) (.c t4 (.q (.R [.n 5 (.move t0), .n 6 (.binOp .add 3 t5 (.const (.int .i64 1)) 3), .n 7 (.unOp .neg 3 t6), .n 8 (.call ⟨.value (.func 108), #[t7], #[3]⟩), .n 9 (.buildSlice 70 1 #[(0, .const (.int .i64 1))]), .n 10 (.call ⟨.value (.func 107), #[t8, t9], #[70, 70]⟩), .n 2 (.assign t10)]) .r) .s)) (.q (.R [.n 11 (.move t0), .n 12 (.call ⟨.value (.func 108), #[t11], #[3]⟩), .n 2 (.assign t12)]) .r))) := by kernel_rfl
theorem w47 : Tryz.f47.body.map (Qr C) = some (.q (.R [.n 2 (.alloc 72)]) (.q (.R [.n 3 (.move t0), .n 4 (.binOp .lss 3 t3 (.const (.int .i64 0)) 3), .n 5 (.move t0), .n 6 (.call ⟨.value (.func 84), #[t5], #[3]⟩), .n 7 (.buildSlice 70 1 #[(0, .const (.int .i64 1))]), .n 8 (.build 72 #[(0, t4), (1, t6), (2, t7)]), .z (.store 72 t2 t8)]) .r)) := by kernel_rfl
theorem w38 : Tryz.f38.body.map (Qr C) = some (.q (.R [.n 2 (.box 58 t0), .n 3 (.box 58 t1), .n 4 (.assign (.const (.bool false)))]) (.q (.D true [.n 7 (.load 58 t2), .n 8 (.call ⟨.value (.func 76), #[t7], #[58]⟩), .n 9 (.load 58 t3), .n 10 (.call ⟨.value (.func 76), #[t9], #[58]⟩), .n 5 (.alloc 72), .n 6 (.alloc 72), .z (.store 72 t5 t8), .z (.store 72 t6 t10)]) (.q (.R [.n 11 (.fieldAddr 72 t5 0), .n 12 (.load 4 t11), .n 13 (.fieldAddr 72 t6 0), .n 14 (.load 4 t13), .n 15 (.binOp .eql 4 t12 t14 4), .n 16 (.move t15), .g (some 17) (.fieldAddr 72 t5 1) 16 true, .g (some 18) (.load 70 t17) 16 true, .g (some 19) (.fieldAddr 72 t6 1) 16 true, .g (some 20) (.load 70 t19) 16 true, .g (some 21) (.call ⟨.value (.func 77), #[t18, t20], #[70, 70]⟩) 16 true, .g (some 22) (.binOp .eql 3 t21 (.const (.int .i64 0)) 3) 16 true, .n 23 (.pick t16 t22 (.const (.bool false))), .n 24 (.move t23), .g (some 25) (.fieldAddr 72 t5 2) 24 true, .g (some 26) (.load 70 t25) 24 true, .g (some 27) (.fieldAddr 72 t6 2) 24 true, .g (some 28) (.load 70 t27) 24 true, .g (some 29) (.call ⟨.value (.func 77), #[t26, t28], #[70, 70]⟩) 24 true, .g (some 30) (.binOp .eql 3 t29 (.const (.int .i64 0)) 3) 24 true, .n 31 (.pick t24 t30 (.const (.bool false))), .n 4 (.assign t31)]) .r))) := by kernel_rfl
theorem w88 : Tryz.f88.body.map (Qr C) = some (.q (.R [.n 2 (.assign (.const (.int .i64 0)))]) (.sc (.q (.R [.n 3 (.assign (.const (.int .i64 1)))]) (.q (.lb 0) (.q (.q (.R [.n 6 (.move t0), .n 7 (.call ⟨.builtin .len, #[t6], #[22]⟩), .n 8 (.move (.const (.int .i64 0)))]) (.b 0 (.l (.q (.R [.n 9 (.binOp .lss 3 t8 t7 3)]) (.q (.c t9 .s (.x 0)) (.q (.b 1 (.q (.R [.n 10 (.indexAddr 22 t6 t8), .n 11 (.load 3 t10), .n 5 (.assign t11)]) (.q (.q (.R [.n 12 (.move t5), .n 13 (.move t3), .n 14 (.binOp .quo 3 (.const (.int .i64 1024)) t13 3), .n 15 (.binOp .gtr 3 t12 t14 3)]) (.c t15 (.q (.R [.n 3 (.assign (.const (.int .i64 1025)))]) (.x 0)) .s)) (.R [.n 16 (.move t3), .n 17 (.move t5), .n 18 (.binOp .mul 3 t16 t17 3), .n 3 (.assign t18)])))) (.R [.n 19 (.binOp .add 3 t8 (.const (.int .i64 1)) 3), .n 8 (.move t19)]))))))) (.q (.R [.n 20 (.move t3), .n 2 (.assign t20)]) .r)))))) := by kernel_rfl
theorem w56 : Tryz.f56.body.map (Qr C) = some (.q (.R [.n 2 (.assign (.const (.int .i64 0)))]) (.q (.q (.R [.n 5 (.move t0), .n 6 (.call ⟨.builtin .len, #[t5], #[23]⟩), .n 7 (.binOp .gtr 3 t6 (.const (.int .i64 4)) 3)]) (.c t7 (.q (.R [.n 2 (.assign (.const (.int .i64 14)))]) .r) .s)) (.q (.q (.R [.n 8 (.move t0), .n 9 (.call ⟨.builtin .len, #[t8], #[23]⟩), .n 10 (.move (.const (.int .i64 0)))]) (.b 0 (.l (.q (.R [.n 11 (.binOp .lss 3 t10 t9 3)]) (.q (.c t11 .s (.x 0)) (.q (.b 1 (.q (.R [.n 12 (.indexAddr 23 t8 t10), .n 13 (.load 3 t12), .n 4 (.assign t13)]) (.q (.R [.n 14 (.move t4), .n 15 (.binOp .lss 3 t14 (.const (.int .i64 1)) 3)]) (.c t15 (.q (.R [.n 2 (.assign (.const (.int .i64 13)))]) .r) .s)))) (.R [.n 16 (.binOp .add 3 t10 (.const (.int .i64 1)) 3), .n 10 (.move t16)]))))))) (.q (.q (.R [.n 17 (.move t0), .n 18 (.call ⟨.value (.func 88), #[t17], #[22]⟩), .n 19 (.binOp .gtr 3 t18 (.const (.int .i64 1024)) 3)]) (.c t19 (.q (.R [.n 2 (.assign (.const (.int .i64 14)))]) .r) .s)) (.q (.R [.n 2 (.assign (.const (.int .i64 0)))]) .r))))) := by kernel_rfl
theorem w92 : Tryz.f92.body.map (Qr C) = some (.q (.R [.n 2 (.assign (.const (.int .i64 0)))]) (.q (.q (.R [.n 3 (.move t0), .n 4 (.call ⟨.value (.func 56), #[t3], #[23]⟩), .n 5 (.binOp .neq 27 t4 (.const (.int .i64 0)) 27)]) (.c t5 (.q (.R [.n 2 (.assign (.const (.int .i64 0)))]) .r) .s)) (.q (.R [.n 6 (.move t0), .n 7 (.call ⟨.value (.func 88), #[t6], #[22]⟩), .n 2 (.assign t7)]) .r))) := by kernel_rfl
theorem w68 : Tryz.f68.body.map (Qr C) = some (.q (.R [.n 4 (.assign (.const (.int .i64 0))), .n 5 (.assign (.const (.int .i64 0)))]) (.q (.q (.R [.n 10 (.move t0), .n 11 (.call ⟨.value (.func 56), #[t10], #[23]⟩), .n 6 (.assign t11)]) (.q (.R [.n 12 (.move t6), .n 13 (.binOp .neq 27 t12 (.const (.int .i64 0)) 27)]) (.c t13 (.q (.R [.n 14 (.move t6), .n 4 (.assign (.const (.int .i64 0))), .n 5 (.assign t14)]) .r) .s))) (.q (.q (.R [.n 15 (.move t1), .n 16 (.call ⟨.builtin .len, #[t15], #[22]⟩), .n 17 (.move t0), .n 18 (.call ⟨.builtin .len, #[t17], #[23]⟩), .n 19 (.binOp .neq 3 t16 t18 3)]) (.c t19 (.q (.R [.n 4 (.assign (.const (.int .i64 0))), .n 5 (.assign (.const (.int .i64 2)))]) .r) .s)) (.q (.R [.n 7 (.assign (.const (.int .i64 0)))]) (.q (.q (.R [.n 20 (.move t0), .n 21 (.call ⟨.builtin .len, #[t20], #[23]⟩), .n 22 (.move (.const (.int .i64 0)))]) (.b 0 (.l (.q (.R [.n 23 (.binOp .lss 3 t22 t21 3)]) (.q (.c t23 .s (.x 0)) (.q (.b 1 (.q (.R [.n 24 (.move t22), .n 25 (.indexAddr 23 t20 t22), .n 26 (.load 3 t25), .n 8 (.assign t24), .n 9 (.assign t26)]) (.q (.q (.R [.n 27 (.move t1), .n 28 (.move t8), .n 29 (.indexAddr 22 t27 t28), .n 30 (.load 3 t29), .n 31 (.binOp .lss 3 t30 (.const (.int .i64 0)) 3), .n 32 (.move t31), .g (some 33) (.move t1) 32 false, .g (some 34) (.move t8) 32 false, .g (some 35) (.indexAddr 22 t33 t34) 32 false, .g (some 36) (.load 3 t35) 32 false, .g (some 37) (.move t9) 32 false, .g (some 38) (.binOp .geq 3 t36 t37 3) 32 false, .n 39 (.pick t32 (.const (.bool true)) t38)]) (.c t39 (.q (.R [.n 4 (.assign (.const (.int .i64 0))), .n 5 (.assign (.const (.int .i64 21)))]) .r) .s)) (.R [.n 40 (.move t7), .n 41 (.move t9), .n 42 (.binOp .mul 3 t40 t41 3), .n 43 (.move t1), .n 44 (.move t8), .n 45 (.indexAddr 22 t43 t44), .n 46 (.load 3 t45), .n 47 (.binOp .add 3 t42 t46 3), .n 7 (.assign t47)])))) (.R [.n 48 (.binOp .add 3 t22 (.const (.int .i64 1)) 3), .n 22 (.move t48)]))))))) (.q (.R [.n 49 (.move t7), .n 4 (.assign t49), .n 5 (.assign (.const (.int .i64 0)))]) .r)))))) := by kernel_rfl
theorem w93 : Tryz.f93.body.map (Qr C) = some (.q (.R [.n 3 (.box 3 t1), .n 4 (.assign (.const (.slice none 0 0))), .n 5 (.assign (.const (.int .i64 0)))]) (.q (.q (.R [.n 10 (.move t0), .n 11 (.call ⟨.value (.func 56), #[t10], #[23]⟩), .n 6 (.assign t11)]) (.q (.R [.n 12 (.move t6), .n 13 (.binOp .neq 27 t12 (.const (.int .i64 0)) 27)]) (.c t13 (.q (.R [.n 14 (.move t6), .n 4 (.assign (.const (.slice none 0 0))), .n 5 (.assign t14)]) .r) .s))) (.q (.q (.D true [.n 15 (.load 3 t3), .n 16 (.binOp .lss 3 t15 (.const (.int .i64 0)) 3), .n 17 (.move t16), .g (some 18) (.load 3 t3) 17 false, .g (some 19) (.move t0) 17 false, .g (some 20) (.call ⟨.value (.func 88), #[t19], #[22]⟩) 17 false, .g (some 21) (.binOp .geq 3 t18 t20 3) 17 false, .n 22 (.pick t17 (.const (.bool true)) t21)]) (.c t22 (.q (.R [.n 4 (.assign (.const (.slice none 0 0))), .n 5 (.assign (.const (.int .i64 21)))]) .r) .s)) (.q (.R [.n 23 (.move t0), .n 24 (.call ⟨.builtin .len, #[t23], #[23]⟩), .n 25 (.makeSlice 22 t24 t24), .n 7 (.alloc 22), .z (.store 22 t7 t25)]) (.q (.q (.R [.n 26 (.move t0), .n 27 (.call ⟨.value (.func 111), #[t26], #[23]⟩)]) (.b 0 (.f t27 #[28, 29] (.q (.R [.n 8 (.assign t28)]) (.R [.n 9 (.assign t29)])) (.b 1 (.q (.D true [.n 30 (.load 22 t7), .n 31 (.move t8), .n 32 (.load 3 t3), .n 33 (.move t9), .n 34 (.binOp .rem 3 t32 t33 3), .n 35 (.indexAddr 22 t30 t31), .z (.store 3 t35 t34)]) (.R [.n 36 (.load 3 t3), .n 37 (.move t9), .n 38 (.binOp .quo 3 t36 t37 3), .z (.store 3 t3 t38)])))))) (.q (.R [.n 39 (.load 22 t7), .n 4 (.assign t39), .n 5 (.assign (.const (.int .i64 0)))]) .r)))))) := by kernel_rfl
theorem w40 : Tryz.f40.body.map (Qr C) = some (.q (.R [.n 4 (.assign (.const (.int .i64 0)))]) (.q (.R [.n 8 (.move t0), .n 9 (.call ⟨.value (.func 81), #[t8], #[22]⟩), .n 10 (.call ⟨.value (.func 80), #[t9], #[108]⟩), .n 5 (.assign t10)]) (.q (.q (.R [.n 11 (.move t5), .n 12 (.call ⟨.builtin .len, #[t11], #[22]⟩), .n 13 (.move (.const (.int .i64 0)))]) (.b 0 (.l (.q (.R [.n 14 (.binOp .lss 3 t13 t12 3)]) (.q (.c t14 .s (.x 0)) (.q (.b 1 (.q (.R [.n 15 (.move t13), .n 16 (.indexAddr 22 t11 t13), .n 17 (.load 3 t16), .n 6 (.assign t15), .n 7 (.assign t17)]) (.q (.R [.n 18 (.move t7), .n 19 (.move t6), .n 20 (.binOp .neq 3 t18 t19 3)]) (.c t20 (.q (.R [.n 4 (.assign (.const (.int .i64 11)))]) .r) .s)))) (.R [.n 21 (.binOp .add 3 t13 (.const (.int .i64 1)) 3), .n 13 (.move t21)]))))))) (.q (.q (.R [.n 22 (.move t5), .n 23 (.call ⟨.builtin .len, #[t22], #[22]⟩), .n 24 (.move t1), .n 25 (.call ⟨.builtin .max, #[t24, .const (.int .i64 0)], #[3, 3]⟩), .n 26 (.binOp .neq 3 t23 t25 3)]) (.c t26 (.q (.R [.n 4 (.assign (.const (.int .i64 11)))]) .r) .s)) (.q (.R [.n 4 (.assign (.const (.int .i64 0)))]) .r))))) := by kernel_rfl
theorem w70 : Tryz.f70.body.map (Qr C) = some (.q (.R [.n 4 (.assign (.const (.bool false)))]) (.q (.q (.R [.n 6 (.move t0), .n 7 (.call ⟨.builtin .len, #[t6], #[23]⟩), .n 8 (.move t1), .n 9 (.call ⟨.builtin .len, #[t8], #[23]⟩), .n 10 (.binOp .neq 3 t7 t9 3)]) (.c t10 (.q (.R [.n 4 (.assign (.const (.bool false)))]) .r) .s)) (.q (.q (.R [.n 11 (.move t0), .n 12 (.call ⟨.builtin .len, #[t11], #[23]⟩), .n 13 (.move (.const (.int .i64 0)))]) (.b 0 (.l (.q (.R [.n 14 (.binOp .lss 3 t13 t12 3)]) (.q (.c t14 .s (.x 0)) (.q (.b 1 (.q (.R [.n 15 (.move t13), .n 5 (.assign t15)]) (.q (.D true [.n 16 (.move t0), .n 17 (.move t5), .n 18 (.indexAddr 23 t16 t17), .n 19 (.load 3 t18), .n 20 (.move t1), .n 21 (.move t5), .n 22 (.indexAddr 23 t20 t21), .n 23 (.load 3 t22), .n 24 (.binOp .neq 3 t19 t23 3)]) (.c t24 (.q (.R [.n 4 (.assign (.const (.bool false)))]) .r) .s)))) (.R [.n 25 (.binOp .add 3 t13 (.const (.int .i64 1)) 3), .n 13 (.move t25)]))))))) (.q (.R [.n 4 (.assign (.const (.bool true)))]) .r)))) := by kernel_rfl
theorem w65 : Tryz.f65.body.map (Qr C) = some (.q (.R [.n 2 (.assign (.const (.slice none 0 0)))]) (.q (.q (.R [.n 3 (.move t0), .n 4 (.binOp .eql 23 t3 (.const (.slice none 0 0)) 23)]) (.c t4 (.q (.R [.n 2 (.assign (.const (.slice none 0 0)))]) .r) .s)) (.q (.R [.n 5 (.buildSlice 23 0 #[]), .n 6 (.move t0), .n 7 (.call ⟨.builtin .append, #[t5, t6], #[23, 23]⟩), .n 2 (.assign t7)]) .r))) := by kernel_rfl
theorem w52 : Tryz.f52.body.map (Qr C) = some (.q (.R [.n 2 (.assign (.const (.slice none 0 0)))]) (.q (.q (.R [.n 3 (.move t0), .n 4 (.binOp .eql 22 t3 (.const (.slice none 0 0)) 22)]) (.c t4 (.q (.R [.n 2 (.assign (.const (.slice none 0 0)))]) .r) .s)) (.q (.R [.n 5 (.buildSlice 22 0 #[]), .n 6 (.move t0), .n 7 (.call ⟨.builtin .append, #[t5, t6], #[22, 22]⟩), .n 2 (.assign t7)]) .r))) := by kernel_rfl
theorem w81 : Tryz.f81.body.map (Qr C) = some (.q (.R [.n 1 (.box 22 t0), .n 2 (.assign (.const .nilFunc))]) (.q (.R [.n 3 (.makeFunc (.func 106) #[] #[t1]), .n 2 (.assign t3)]) .r)) := by kernel_rfl
theorem w106 : Tryz.f106.body.map (Qr C) = some (.q (.R [.n 5 (.load 22 t1), .n 6 (.call ⟨.builtin .len, #[t5], #[22]⟩), .n 7 (.move (.const (.int .i64 0)))]) (.b 0 (.l (.q (.R [.n 8 (.binOp .lss 3 t7 t6 3)]) (.q (.c t8 .s (.x 0)) (.q (.b 1 (.q (.R [.n 9 (.indexAddr 22 t5 t7), .n 10 (.load 3 t9), .n 4 (.assign t10)]) (.q (.R [.n 11 (.move t0), .n 12 (.move t4), .n 13 (.call ⟨.value t11, #[t12], #[3]⟩), .n 14 (.unOp .not 4 t13)]) (.c t14 .r .s)))) (.R [.n 15 (.binOp .add 3 t7 (.const (.int .i64 1)) 3), .n 7 (.move t15)]))))))) := by kernel_rfl
theorem w80 : Tryz.f80.body.map (Qr C) = some (.q (.R [.n 2 (.assign (.const (.slice none 0 0)))]) (.q (.R [.n 4 (.move t0), .n 5 (.call ⟨.value (.func 104), #[t4], #[108]⟩), .n 3 (.assign t5)]) (.q (.R [.n 6 (.move t3), .n 7 (.call ⟨.value (.func 105), #[t6], #[22]⟩)]) (.q (.R [.n 8 (.move t3), .n 2 (.assign t8)]) .r)))) := by kernel_rfl
theorem w104 : Tryz.f104.body.map (Qr C) = some (.q (.R [.n 2 (.assign (.const (.slice none 0 0)))]) (.q (.R [.n 3 (.move t0), .n 4 (.call ⟨.value (.func 123), #[.const (.slice none 0 0), t3], #[22, 108]⟩), .n 2 (.assign t4)]) .r)) := by kernel_rfl
theorem w123 : Tryz.f123.body.map (Qr C) = some (.q (.R [.n 2 (.box 22 t0), .n 4 (.assign (.const (.slice none 0 0)))]) (.q (.q (.R [.n 6 (.move t1)]) (.b 0 (.f t6 #[7] (.R [.n 5 (.assign t7)]) (.b 1 (.R [.n 8 (.load 22 t2), .n 9 (.move t5), .n 10 (.buildSlice 22 1 #[(0, t9)]), .n 11 (.call ⟨.builtin .append, #[t8, t10], #[22, 22]⟩), .z (.store 22 t2 t11)]))))) (.q (.R [.n 12 (.load 22 t2), .n 4 (.assign t12)]) .r))) := by kernel_rfl
theorem w105 : Tryz.f105.body.map (Qr C) = some (.q (.R [.n 3 (.move t0), .n 4 (.call ⟨.builtin .len, #[t3], #[22]⟩), .n 2 (.assign t4)]) (.R [.n 5 (.move t0), .n 6 (.move t2), .n 7 (.move t2), .n 8 (.convert 3 154 t7), .n 9 (.call ⟨.value (.func 125), #[t8], #[154]⟩), .n 10 (.call ⟨.value (.func 124), #[t5, .const (.int .i64 0), t6, t9], #[22, 3, 3, 3]⟩)])) := by kernel_rfl
theorem w124 : Tryz.f124.body.map (Qr C) = some (.q (.R [.n 8 (.assign (.const (.bool true)))]) (.q (.R [.n 9 (.assign (.const (.bool true)))]) (.b 0 (.l (.b 1 (.q (.R [.n 19 (.move t2), .n 20 (.move t1), .n 21 (.binOp .sub 3 t19 t20 3), .n 10 (.assign t21)]) (.q (.q (.R [.n 22 (.move t10), .n 23 (.binOp .leq 3 t22 (.const (.int .i64 12)) 3)]) (.c t23 (.q (.R [.n 24 (.move t0), .n 25 (.move t1), .n 26 (.move t2), .n 27 (.call ⟨.value (.func 144), #[t24, t25, t26], #[22, 3, 3]⟩)]) .r) .s)) (.q (.q (.R [.n 28 (.move t3), .n 29 (.binOp .eql 3 t28 (.const (.int .i64 0)) 3)]) (.c t29 (.q (.R [.n 30 (.move t0), .n 31 (.move t1), .n 32 (.move t2), .n 33 (.call ⟨.value (.func 145), #[t30, t31, t32], #[22, 3, 3]⟩)]) .r) .s)) (.q (.q (.R [.n 34 (.move t8), .n 35 (.unOp .not 4 t34)]) (.c t35 (.q (.R [.n 36 (.move t0), .n 37 (.move t1), .n 38 (.move t2), .n 39 (.call ⟨.value (.func 146), #[t36, t37, t38], #[22, 3, 3]⟩)]) (.R [.n 40 (.move t3), .n 41 (.binOp .sub 3 t40 (.const (.int .i64 1)) 3), .n 3 (.assign t41)])) .s)) (.q (.R [.n 43 (.move t0), .n 44 (.move t1), .n 45 (.move t2), .n 46 (.call ⟨.value (.func 147), #[t43, t44, t45], #[22, 3, 3]⟩), .n 42 (.move t46), .n 47 (.extract t42 0), .n 48 (.extract t42 1), .n 11 (.assign t47), .n 12 (.assign t48)]) (.q (.q (.R [.n 49 (.move t12), .n 50 (.binOp .eql 168 t49 (.const (.int .i64 2)) 168)]) (.c t50 (.q (.R [.n 51 (.move t0), .n 52 (.move t1), .n 53 (.move t2), .n 54 (.call ⟨.value (.func 148), #[t51, t52, t53], #[22, 3, 3]⟩)]) (.q (.R [.n 55 (.move t2), .n 56 (.binOp .sub 3 t55 (.const (.int .i64 1)) 3), .n 57 (.move t11), .n 58 (.move t1), .n 59 (.binOp .sub 3 t57 t58 3), .n 60 (.binOp .sub 3 t56 t59 3), .n 11 (.assign t60)]) (.R [.n 12 (.assign (.const (.int .i64 1)))]))) .s)) (.q (.q (.R [.n 61 (.move t8), .n 62 (.move t61), .g (some 63) (.move t9) 62 true, .n 64 (.pick t62 t63 (.const (.bool false))), .n 65 (.move t64), .g (some 66) (.move t12) 65 true, .g (some 67) (.binOp .eql 168 t66 (.const (.int .i64 1)) 168) 65 true, .n 68 (.pick t65 t67 (.const (.bool false)))]) (.c t68 (.q (.R [.n 69 (.move t0), .n 70 (.move t1), .n 71 (.move t2), .n 72 (.call ⟨.value (.func 149), #[t69, t70, t71], #[22, 3, 3]⟩)]) (.c t72 .r .s)) .s)) (.q (.q (.D true [.n 73 (.move t1), .n 74 (.binOp .gtr 3 t73 (.const (.int .i64 0)) 3), .n 75 (.move t74), .g (some 76) (.move t0) 75 true, .g (some 77) (.move t1) 75 true, .g (some 78) (.binOp .sub 3 t77 (.const (.int .i64 1)) 3) 75 true, .g (some 79) (.indexAddr 22 t76 t78) 75 true, .g (some 80) (.load 3 t79) 75 true, .g (some 81) (.move t0) 75 true, .g (some 82) (.move t11) 75 true, .g (some 83) (.indexAddr 22 t81 t82) 75 true, .g (some 84) (.load 3 t83) 75 true, .g (some 85) (.call ⟨.value (.func 150), #[t80, t84], #[3, 3]⟩) 75 true, .g (some 86) (.unOp .not 4 t85) 75 true, .n 87 (.pick t75 t86 (.const (.bool false)))]) (.c t87 (.q (.R [.n 88 (.move t0), .n 89 (.move t1), .n 90 (.move t2), .n 91 (.move t11), .n 92 (.call ⟨.value (.func 151), #[t88, t89, t90, t91], #[22, 3, 3, 3]⟩), .n 13 (.assign t92)]) (.q (.R [.n 93 (.move t13), .n 1 (.assign t93)]) (.x 1))) .s)) (.q (.R [.n 95 (.move t0), .n 96 (.move t1), .n 97 (.move t2), .n 98 (.move t11), .n 99 (.call ⟨.value (.func 152), #[t95, t96, t97, t98], #[22, 3, 3, 3]⟩), .n 94 (.move t99), .n 100 (.extract t94 0), .n 101 (.extract t94 1), .n 14 (.assign t100), .n 15 (.assign t101)]) (.q (.R [.n 102 (.move t15), .n 9 (.assign t102)]) (.q (.R [.n 103 (.move t14), .n 104 (.move t1), .n 105 (.binOp .sub 3 t103 t104 3), .n 106 (.move t2), .n 107 (.move t14), .n 108 (.binOp .sub 3 t106 t107 3), .n 16 (.assign t105), .n 17 (.assign t108)]) (.q (.R [.n 109 (.move t10), .n 110 (.binOp .quo 3 t109 (.const (.int .i64 8)) 3), .n 18 (.assign t110)]) (.q (.R [.n 111 (.move t16), .n 112 (.move t17), .n 113 (.binOp .lss 3 t111 t112 3)]) (.c t113 (.q (.R [.n 114 (.move t16), .n 115 (.move t18), .n 116 (.binOp .geq 3 t114 t115 3), .n 8 (.assign t116)]) (.q (.R [.n 117 (.move t0), .n 118 (.move t1), .n 119 (.move t14), .n 120 (.move t3), .n 121 (.call ⟨.value (.func 124), #[t117, t118, t119, t120], #[22, 3, 3, 3]⟩)]) (.R [.n 122 (.move t14), .n 123 (.binOp .add 3 t122 (.const (.int .i64 1)) 3), .n 1 (.assign t123)]))) (.q (.R [.n 124 (.move t17), .n 125 (.move t18), .n 126 (.binOp .geq 3 t124 t125 3), .n 8 (.assign t126)]) (.q (.R [.n 127 (.move t0), .n 128 (.move t14), .n 129 (.binOp .add 3 t128 (.const (.int .i64 1)) 3), .n 130 (.move t2), .n 131 (.move t3), .n 132 (.call ⟨.value (.func 124), #[t127, t129, t130, t131], #[22, 3, 3, 3]⟩)]) (.R [.n 133 (.move t14), .n 2 (.assign t133)])))))))))))))))))))))) := by kernel_rfl
theorem w144 : Tryz.f144.body.map (Qr C) = some (.q (.R [.n 8 (.move t1), .n 9 (.binOp .add 3 t8 (.const (.int .i64 1)) 3), .n 6 (.assign t9)]) (.b 0 (.l (.q (.q (.R [.n 10 (.move t6), .n 11 (.move t2), .n 12 (.binOp .lss 3 t10 t11 3)]) (.c t12 .s (.x 0))) (.q (.b 1 (.q (.R [.n 15 (.move t6), .n 7 (.assign t15)]) (.b 2 (.l (.q (.q (.D true [.n 16 (.move t7), .n 17 (.move t1), .n 18 (.binOp .gtr 3 t16 t17 3), .n 19 (.move t18), .g (some 20) (.move t0) 19 true, .g (some 21) (.move t7) 19 true, .g (some 22) (.indexAddr 22 t20 t21) 19 true, .g (some 23) (.load 3 t22) 19 true, .g (some 24) (.move t0) 19 true, .g (some 25) (.move t7) 19 true, .g (some 26) (.binOp .sub 3 t25 (.const (.int .i64 1)) 3) 19 true, .g (some 27) (.indexAddr 22 t24 t26) 19 true, .g (some 28) (.load 3 t27) 19 true, .g (some 29) (.call ⟨.value (.func 150), #[t23, t28], #[3, 3]⟩) 19 true, .n 30 (.pick t19 t29 (.const (.bool false)))]) (.c t30 .s (.x 2))) (.q (.b 3 (.D true [.n 33 (.move t0), .n 34 (.move t7), .n 35 (.move t0), .n 36 (.move t7), .n 37 (.binOp .sub 3 t36 (.const (.int .i64 1)) 3), .n 38 (.move t0), .n 39 (.move t7), .n 40 (.binOp .sub 3 t39 (.const (.int .i64 1)) 3), .n 41 (.indexAddr 22 t38 t40), .n 42 (.load 3 t41), .n 43 (.move t0), .n 44 (.move t7), .n 45 (.indexAddr 22 t43 t44), .n 46 (.load 3 t45), .n 47 (.indexAddr 22 t33 t34), .z (.store 3 t47 t42), .n 48 (.indexAddr 22 t35 t37), .z (.store 3 t48 t46)])) (.R [.n 31 (.move t7), .n 32 (.binOp .sub 3 t31 (.const (.int .i64 1)) 3), .n 7 (.assign t32)]))))))) (.R [.n 13 (.move t6), .n 14 (.binOp .add 3 t13 (.const (.int .i64 1)) 3), .n 6 (.assign t14)])))))) := by kernel_rfl
theorem w150 : Tryz.f150.body.map (Qr C) = some (.q (.R [.n 4 (.assign (.const (.bool false)))]) (.q (.R [.n 5 (.move t0), .n 6 (.call ⟨.value (.func 167), #[t5], #[3]⟩), .n 7 (.move t6), .g (some 8) (.move t1) 7 true, .g (some 9) (.call ⟨.value (.func 167), #[t8], #[3]⟩) 7 true, .g (some 10) (.unOp .not 4 t9) 7 true, .n 11 (.pick t7 t10 (.const (.bool false))), .n 12 (.move t11), .g (some 13) (.move t0) 12 false, .g (some 14) (.move t1) 12 false, .g (some 15) (.binOp .lss 3 t13 t14 3) 12 false, .n 16 (.pick t12 (.const (.bool true)) t15), .n 4 (.assign t16)]) .r)) := by kernel_rfl
theorem w167 : Tryz.f167.body.map (Qr C) = some (.q (.R [.n 2 (.assign (.const (.bool false)))]) (.q (.R [.n 3 (.move t0), .n 4 (.move t0), .n 5 (.binOp .neq 3 t3 t4 3), .n 2 (.assign t5)]) .r)) := by kernel_rfl
theorem w111 : Tryz.f111.body.map (Qr C) = some (.q (.R [.n 1 (.box 23 t0), .n 2 (.assign (.const .nilFunc))]) (.q (.R [.n 3 (.makeFunc (.func 132) #[] #[t1]), .n 2 (.assign t3)]) .r)) := by kernel_rfl
theorem w132 : Tryz.f132.body.map (Qr C) = some (.q (.R [.n 4 (.load 23 t1), .n 5 (.call ⟨.builtin .len, #[t4], #[23]⟩), .n 6 (.binOp .sub 3 t5 (.const (.int .i64 1)) 3), .n 3 (.assign t6)]) (.b 0 (.l (.q (.q (.R [.n 7 (.move t3), .n 8 (.binOp .geq 3 t7 (.const (.int .i64 0)) 3)]) (.c t8 .s (.x 0))) (.q (.b 1 (.q (.R [.n 11 (.move t0), .n 12 (.move t3), .n 13 (.load 23 t1), .n 14 (.move t3), .n 15 (.indexAddr 23 t13 t14), .n 16 (.load 3 t15), .n 17 (.call ⟨.value t11, #[t12, t16], #[3, 3]⟩), .n 18 (.unOp .not 4 t17)]) (.c t18 .r .s))) (.R [.n 9 (.move t3), .n 10 (.binOp .sub 3 t9 (.const (.int .i64 1)) 3), .n 3 (.assign t10)])))))) := by kernel_rfl
theorem w54 : Tryz.f54.body.map (Qr C) = some (.q (.R [.n 4 (.assign (.const (.bool false)))]) (.q (.R [.n 5 (.move t0), .n 6 (.move t1), .n 7 (.call ⟨.value (.func 87), #[t5, t6], #[22, 82]⟩), .n 8 (.binOp .geq 3 t7 (.const (.int .i64 0)) 3), .n 4 (.assign t8)]) .r)) := by kernel_rfl
theorem w87 : Tryz.f87.body.map (Qr C) = some (.q (.R [.n 4 (.assign (.const (.int .i64 0)))]) (.q (.q (.R [.n 6 (.move t0), .n 7 (.call ⟨.builtin .len, #[t6], #[22]⟩), .n 8 (.move (.const (.int .i64 0)))]) (.b 0 (.l (.q (.R [.n 9 (.binOp .lss 3 t8 t7 3)]) (.q (.c t9 .s (.x 0)) (.q (.b 1 (.q (.R [.n 10 (.move t8), .n 5 (.assign t10)]) (.q (.R [.n 11 (.move t1), .n 12 (.move t0), .n 13 (.move t5), .n 14 (.indexAddr 22 t12 t13), .n 15 (.load 3 t14), .n 16 (.call ⟨.value t11, #[t15], #[3]⟩)]) (.c t16 (.q (.R [.n 17 (.move t5), .n 4 (.assign t17)]) .r) .s)))) (.R [.n 18 (.binOp .add 3 t8 (.const (.int .i64 1)) 3), .n 8 (.move t18)]))))))) (.q (.R [.n 4 (.assign (.const (.int .i64 (-1))))]) .r))) := by kernel_rfl
theorem w60 : Tryz.f60.body.map (Qr C) = some (.q (.R [.n 2 (.assign (.const (.int .i64 0)))]) (.q (.q (.R [.n 6 (.move t0), .n 7 (.call ⟨.builtin .len, #[t6], #[22]⟩), .n 8 (.binOp .gtr 3 t7 (.const (.int .i64 4)) 3)]) (.c t8 (.q (.R [.n 2 (.assign (.const (.int .i64 14)))]) .r) .s)) (.q (.q (.R [.n 3 (.assign (.const (.int .i64 0)))]) (.b 0 (.l (.q (.q (.R [.n 9 (.move t3), .n 10 (.move t0), .n 11 (.call ⟨.builtin .len, #[t10], #[22]⟩), .n 12 (.binOp .lss 3 t9 t11 3)]) (.c t12 .s (.x 0))) (.q (.b 1 (.q (.R [.n 15 (.move t0), .n 16 (.move t3), .n 17 (.indexAddr 22 t15 t16), .n 18 (.load 3 t17), .n 19 (.binOp .lss 3 t18 (.const (.int .i64 1)) 3)]) (.c t19 (.q (.R [.n 2 (.assign (.const (.int .i64 13)))]) .r) .s))) (.R [.n 13 (.move t3), .n 14 (.binOp .add 3 t13 (.const (.int .i64 1)) 3), .n 3 (.assign t14)])))))) (.q (.R [.n 4 (.assign (.const (.int .i64 1)))]) (.q (.q (.R [.n 5 (.assign (.const (.int .i64 0)))]) (.b 2 (.l (.q (.q (.R [.n 20 (.move t5), .n 21 (.move t0), .n 22 (.call ⟨.builtin .len, #[t21], #[22]⟩), .n 23 (.binOp .lss 3 t20 t22 3)]) (.c t23 .s (.x 2))) (.q (.b 3 (.q (.q (.R [.n 26 (.move t0), .n 27 (.move t5), .n 28 (.indexAddr 22 t26 t27), .n 29 (.load 3 t28), .n 30 (.binOp .gtr 3 t29 (.const (.int .i64 1024)) 3)]) (.c t30 (.q (.R [.n 2 (.assign (.const (.int .i64 14)))]) .r) .s)) (.q (.R [.n 31 (.move t4), .n 32 (.move t0), .n 33 (.move t5), .n 34 (.indexAddr 22 t32 t33), .n 35 (.load 3 t34), .n 36 (.binOp .mul 3 t31 t35 3), .n 4 (.assign t36)]) (.q (.R [.n 37 (.move t4), .n 38 (.binOp .gtr 3 t37 (.const (.int .i64 1024)) 3)]) (.c t38 (.q (.R [.n 2 (.assign (.const (.int .i64 14)))]) .r) .s))))) (.R [.n 24 (.move t5), .n 25 (.binOp .add 3 t24 (.const (.int .i64 1)) 3), .n 5 (.assign t25)])))))) (.q (.R [.n 2 (.assign (.const (.int .i64 0)))]) .r)))))) := by kernel_rfl
theorem w61 : Tryz.f61.body.map (Qr C) = some (.q (.R [.n 2 (.assign (.const (.int .i64 0)))]) (.q (.q (.R [.n 5 (.move t0), .n 6 (.call ⟨.value (.func 60), #[t5], #[22]⟩), .n 7 (.binOp .neq 3 t6 (.const (.int .i64 0)) 3)]) (.c t7 (.q (.R [.n 2 (.assign (.const (.int .i64 0)))]) .r) .s)) (.q (.R [.n 3 (.assign (.const (.int .i64 1)))]) (.q (.q (.R [.n 4 (.assign (.const (.int .i64 0)))]) (.b 0 (.l (.q (.q (.R [.n 8 (.move t4), .n 9 (.move t0), .n 10 (.call ⟨.builtin .len, #[t9], #[22]⟩), .n 11 (.binOp .lss 3 t8 t10 3)]) (.c t11 .s (.x 0))) (.q (.b 1 (.R [.n 14 (.move t3), .n 15 (.move t0), .n 16 (.move t4), .n 17 (.indexAddr 22 t15 t16), .n 18 (.load 3 t17), .n 19 (.binOp .mul 3 t14 t18 3), .n 3 (.assign t19)])) (.R [.n 12 (.move t4), .n 13 (.binOp .add 3 t12 (.const (.int .i64 1)) 3), .n 4 (.assign t13)])))))) (.q (.R [.n 20 (.move t3), .n 2 (.assign t20)]) .r))))) := by kernel_rfl
theorem w78 : Tryz.f78.body.map (Qr C) = some (.q (.R [.n 1 (.box 26 t0), .n 2 (.assign (.const (.int .i64 0)))]) (.q (.q (.R [.n 4 (.fieldAddr 26 t1 0), .n 5 (.load 23 t4), .n 6 (.call ⟨.value (.func 56), #[t5], #[23]⟩), .n 3 (.assign t6)]) (.q (.R [.n 7 (.move t3), .n 8 (.binOp .neq 27 t7 (.const (.int .i64 0)) 27)]) (.c t8 (.q (.R [.n 9 (.move t3), .n 2 (.assign t9)]) .r) .s))) (.q (.q (.D true [.n 10 (.fieldAddr 26 t1 1), .n 11 (.load 24 t10), .n 12 (.call ⟨.builtin .len, #[t11], #[24]⟩), .n 13 (.fieldAddr 26 t1 0), .n 14 (.load 23 t13), .n 15 (.call ⟨.value (.func 92), #[t14], #[23]⟩), .n 16 (.binOp .neq 3 t12 t15 3)]) (.c t16 (.q (.R [.n 2 (.assign (.const (.int .i64 13)))]) .r) .s)) (.q (.R [.n 2 (.assign (.const (.int .i64 0)))]) .r)))) := by kernel_rfl
theorem w72 : Tryz.f72.body.map (Qr C) = some (.q (.R [.n 1 (.box 26 t0), .n 2 (.alloc 99)]) (.q (.R [.n 3 (.fieldAddr 26 t1 0), .n 4 (.load 23 t3), .n 5 (.fieldAddr 26 t1 1), .n 6 (.load 24 t5), .n 7 (.build 99 #[(0, t4), (1, t6)]), .z (.store 99 t2 t7)]) .r)) := by kernel_rfl
theorem w89 : Tryz.f89.body.map (Qr C) = some (.q (.R [.n 1 (.box 99 t0), .n 2 (.alloc 26)]) (.q (.R [.n 3 (.fieldAddr 99 t1 0), .n 4 (.load 23 t3), .n 5 (.fieldAddr 99 t1 1), .n 6 (.load 24 t5), .n 7 (.build 26 #[(0, t4), (1, t6)]), .z (.store 26 t2 t7)]) .r)) := by kernel_rfl
theorem w73 : Tryz.f73.body.map (Qr C) = some (.q (.R [.n 1 (.box 99 t0), .n 2 (.assign (.const .nilFunc))]) (.q (.R [.n 3 (.makeFunc (.func 97) #[] #[t1]), .n 2 (.assign t3)]) .r)) := by kernel_rfl
theorem w97 : Tryz.f97.body.map (Qr C) = some (.q (.R [.n 5 (.fieldAddr 99 t1 1), .n 6 (.load 24 t5), .n 7 (.call ⟨.builtin .len, #[t6], #[24]⟩), .n 8 (.move (.const (.int .i64 0)))]) (.b 0 (.l (.q (.R [.n 9 (.binOp .lss 3 t8 t7 3)]) (.q (.c t9 .s (.x 0)) (.q (.b 1 (.q (.R [.n 10 (.move t8), .n 11 (.indexAddr 24 t6 t8), .n 12 (.load 58 t11), .n 4 (.alloc 58), .n 3 (.assign t10), .z (.store 58 t4 t12)]) (.q (.R [.n 13 (.move t0), .n 14 (.move t3), .n 15 (.load 58 t4), .n 16 (.call ⟨.value t13, #[t14, t15], #[3, 58]⟩), .n 17 (.unOp .not 4 t16)]) (.c t17 .r .s)))) (.R [.n 18 (.binOp .add 3 t8 (.const (.int .i64 1)) 3), .n 8 (.move t18)]))))))) := by kernel_rfl
theorem w90 : Tryz.f90.body.map (Qr C) = some (.q (.R [.n 2 (.box 99 t0), .n 3 (.box 67 t1), .n 4 (.alloc 99)]) (.q (.R [.n 8 (.fieldAddr 99 t2 0), .n 9 (.load 23 t8), .n 10 (.call ⟨.value (.func 65), #[t9], #[23]⟩), .n 11 (.build 99 #[(0, t10)]), .n 5 (.alloc 99), .z (.store 99 t5 t11)]) (.q (.q (.R [.n 12 (.load 99 t2), .n 13 (.call ⟨.value (.func 73), #[t12], #[99]⟩)]) (.b 0 (.f t13 #[14, 15] (.R [.n 7 (.alloc 58), .z (.store 58 t7 t15)]) (.b 1 (.U [.n 16 (.fieldAddr 99 t5 1), .n 17 (.load 24 t16), .n 18 (.load 67 t3), .n 19 (.load 58 t7), .n 20 (.call ⟨.value t18, #[t19], #[58]⟩), .n 21 (.buildSlice 24 1 #[(0, t20)]), .n 22 (.call ⟨.builtin .append, #[t17, t21], #[24, 24]⟩), .n 23 (.fieldAddr 99 t5 1), .z (.store 24 t23 t22)]))))) (.q (.R [.n 24 (.load 99 t5), .z (.store 99 t4 t24)]) .r)))) := by kernel_rfl
theorem w39 : Tryz.f39.body.map (Qr C) = some (.q (.R [.n 1 (.box 26 t0), .n 2 (.alloc 27)]) (.q (.q (.R [.n 7 (.load 26 t1), .n 8 (.call ⟨.value (.func 78), #[t7], #[26]⟩), .n 3 (.assign t8)]) (.q (.R [.n 9 (.move t3), .n 10 (.binOp .neq 27 t9 (.const (.int .i64 0)) 27)]) (.c t10 (.q (.R [.n 11 (.move t3), .z (.store 27 t2 t11)]) .r) .s))) (.q (.q (.R [.n 12 (.load 26 t1), .n 13 (.call ⟨.value (.func 72), #[t12], #[26]⟩), .n 14 (.call ⟨.value (.func 73), #[t13], #[99]⟩)]) (.b 0 (.f t14 #[15, 16] (.R [.n 5 (.alloc 58), .z (.store 58 t5 t16)]) (.b 1 (.q (.R [.n 17 (.load 58 t5), .n 18 (.call ⟨.value (.func 79), #[t17], #[58]⟩), .n 6 (.assign t18)]) (.q (.R [.n 19 (.move t6), .n 20 (.binOp .neq 27 t19 (.const (.int .i64 0)) 27)]) (.c t20 (.q (.R [.n 21 (.move t6), .z (.store 27 t2 t21)]) .r) .s))))))) (.q (.R [.z (.store 27 t2 (.const (.int .i64 0)))]) .r)))) := by kernel_rfl
theorem w59 : Tryz.f59.body.map (Qr C) = some (.q (.R [.n 4 (.alloc 26), .n 5 (.assign (.const (.int .i64 0)))]) (.q (.R [.n 8 (.move t0), .n 9 (.move t1), .n 10 (.build 26 #[(0, t8), (1, t9)]), .n 6 (.alloc 26), .z (.store 26 t6 t10)]) (.q (.q (.R [.n 11 (.load 26 t6), .n 12 (.call ⟨.value (.func 78), #[t11], #[26]⟩), .n 7 (.assign t12)]) (.q (.R [.n 13 (.move t7), .n 14 (.binOp .neq 27 t13 (.const (.int .i64 0)) 27)]) (.c t14 (.q (.R [.n 15 (.build 26 #[]), .n 16 (.move t7), .z (.store 26 t4 t15), .n 5 (.assign t16)]) .r) .s))) (.q (.R [.n 17 (.load 26 t6), .n 18 (.call ⟨.value (.func 72), #[t17], #[26]⟩), .n 19 (.call ⟨.value (.func 90), #[t18, .func 91], #[99, 67]⟩), .n 20 (.call ⟨.value (.func 89), #[t19], #[99]⟩), .z (.store 26 t4 t20), .n 5 (.assign (.const (.int .i64 0)))]) .r)))) := by kernel_rfl
theorem w37 : Tryz.f37.body.map (Qr C) = some (.q (.R [.n 2 (.box 26 t0), .n 3 (.box 26 t1), .n 4 (.alloc 58), .n 5 (.assign (.const (.int .i64 0)))]) (.q (.q (.R [.n 12 (.load 26 t2), .n 13 (.load 26 t3), .n 14 (.buildSlice 48 2 #[(0, t12), (1, t13)]), .n 15 (.call ⟨.builtin .len, #[t14], #[48]⟩), .n 16 (.move (.const (.int .i64 0)))]) (.b 0 (.l (.q (.R [.n 17 (.binOp .lss 3 t16 t15 3)]) (.q (.c t17 .s (.x 0)) (.q (.b 1 (.q (.R [.n 18 (.indexAddr 48 t14 t16), .n 19 (.load 26 t18), .n 7 (.alloc 26), .z (.store 26 t7 t19)]) (.q (.R [.n 20 (.load 26 t7), .n 21 (.call ⟨.value (.func 39), #[t20], #[26]⟩), .n 8 (.assign t21)]) (.q (.R [.n 22 (.move t8), .n 23 (.binOp .neq 27 t22 (.const (.int .i64 0)) 27)]) (.c t23 (.q (.R [.n 24 (.build 58 #[]), .n 25 (.move t8), .z (.store 58 t4 t24), .n 5 (.assign t25)]) .r) .s))))) (.R [.n 26 (.binOp .add 3 t16 (.const (.int .i64 1)) 3), .n 16 (.move t26)]))))))) (.q (.q (.R [.n 27 (.fieldAddr 26 t2 0), .n 28 (.load 23 t27), .n 29 (.fieldAddr 26 t3 0), .n 30 (.load 23 t29), .n 31 (.call ⟨.value (.func 70), #[t28, t30], #[23, 23]⟩), .n 32 (.unOp .not 4 t31)]) (.c t32 (.q (.R [.n 33 (.build 58 #[]), .z (.store 58 t4 t33), .n 5 (.assign (.const (.int .i64 13)))]) .r) .s)) (.q (.R [.n 34 (.call ⟨.value (.func 71), #[.const (.int .i64 0)], #[2]⟩), .n 9 (.alloc 58), .z (.store 58 t9 t34)]) (.q (.q (.R [.n 35 (.load 26 t2), .n 36 (.call ⟨.value (.func 72), #[t35], #[26]⟩), .n 37 (.call ⟨.value (.func 73), #[t36], #[99]⟩)]) (.b 2 (.f t37 #[38, 39] (.q (.R [.n 10 (.assign t38)]) (.R [.n 11 (.alloc 58), .z (.store 58 t11 t39)])) (.b 3 (.D true [.n 40 (.load 58 t9), .n 41 (.load 58 t11), .n 42 (.fieldAddr 26 t3 1), .n 43 (.load 24 t42), .n 44 (.move t10), .n 45 (.indexAddr 24 t43 t44), .n 46 (.load 58 t45), .n 47 (.call ⟨.value (.func 75), #[t41, t46], #[58, 58]⟩), .n 48 (.call ⟨.value (.func 74), #[t40, t47], #[58, 58]⟩), .z (.store 58 t9 t48)]))))) (.q (.R [.n 49 (.load 58 t9), .z (.store 58 t4 t49), .n 5 (.assign (.const (.int .i64 0)))]) .r)))))) := by kernel_rfl
theorem w85 : Tryz.f85.body.map (Qr C) = some (.q (.R [.n 1 (.box 34 t0), .n 2 (.alloc 26)]) (.q (.R [.n 5 (.fieldAddr 34 t1 0), .n 6 (.load 22 t5), .n 7 (.call ⟨.builtin .append, #[.const (.slice none 0 0), t6], #[23, 22]⟩), .n 8 (.build 26 #[(0, t7)]), .n 3 (.alloc 26), .z (.store 26 t3 t8)]) (.q (.q (.R [.n 4 (.assign (.const (.int .i64 0)))]) (.b 0 (.l (.q (.q (.R [.n 9 (.move t4), .n 10 (.fieldAddr 34 t1 1), .n 11 (.load 32 t10), .n 12 (.call ⟨.builtin .len, #[t11], #[32]⟩), .n 13 (.binOp .lss 3 t9 t12 3)]) (.c t13 .s (.x 0))) (.q (.b 1 (.D true [.n 16 (.fieldAddr 26 t3 1), .n 17 (.load 24 t16), .n 18 (.fieldAddr 34 t1 1), .n 19 (.load 32 t18), .n 20 (.move t4), .n 21 (.indexAddr 32 t19 t20), .n 22 (.load 72 t21), .n 23 (.call ⟨.value (.func 109), #[t22], #[72]⟩), .n 24 (.buildSlice 24 1 #[(0, t23)]), .n 25 (.call ⟨.builtin .append, #[t17, t24], #[24, 24]⟩), .n 26 (.fieldAddr 26 t3 1), .z (.store 24 t26 t25)])) (.R [.n 14 (.move t4), .n 15 (.binOp .add 3 t14 (.const (.int .i64 1)) 3), .n 4 (.assign t15)])))))) (.q (.R [.n 27 (.load 26 t3), .z (.store 26 t2 t27)]) .r)))) := by kernel_rfl
theorem w26 : Tryz.f26.body.map (Qr C) = some (.q (.R [.n 1 (.box 26 t0), .n 2 (.assign (.const (.int .i64 0)))]) (.q (.R [.n 5 (.fieldAddr 26 t1 0), .n 6 (.load 23 t5), .n 7 (.call ⟨.value (.func 60), #[t6], #[22]⟩), .n 3 (.assign t7)]) (.q (.q (.R [.n 8 (.move t3), .n 9 (.binOp .neq 3 t8 (.const (.int .i64 0)) 3)]) (.c t9 (.q (.R [.n 10 (.move t3), .n 2 (.assign t10)]) .r) .s)) (.q (.q (.D true [.n 11 (.fieldAddr 26 t1 1), .n 12 (.load 24 t11), .n 13 (.call ⟨.builtin .len, #[t12], #[24]⟩), .n 14 (.fieldAddr 26 t1 0), .n 15 (.load 23 t14), .n 16 (.call ⟨.value (.func 61), #[t15], #[22]⟩), .n 17 (.binOp .neq 3 t13 t16 3)]) (.c t17 (.q (.R [.n 2 (.assign (.const (.int .i64 13)))]) .r) .s)) (.q (.q (.R [.n 4 (.assign (.const (.int .i64 0)))]) (.b 0 (.l (.q (.q (.R [.n 18 (.move t4), .n 19 (.fieldAddr 26 t1 1), .n 20 (.load 24 t19), .n 21 (.call ⟨.builtin .len, #[t20], #[24]⟩), .n 22 (.binOp .lss 3 t18 t21 3)]) (.c t22 .s (.x 0))) (.q (.b 1 (.q (.R [.n 25 (.fieldAddr 26 t1 1), .n 26 (.load 24 t25), .n 27 (.move t4), .n 28 (.indexAddr 24 t26 t27), .n 29 (.load 58 t28), .n 30 (.call ⟨.value (.func 62), #[t29], #[58]⟩), .n 31 (.binOp .neq 3 t30 (.const (.int .i64 0)) 3)]) (.c t31 (.q (.R [.n 2 (.assign (.const (.int .i64 6)))]) .r) .s))) (.R [.n 23 (.move t4), .n 24 (.binOp .add 3 t23 (.const (.int .i64 1)) 3), .n 4 (.assign t24)])))))) (.q (.R [.n 2 (.assign (.const (.int .i64 0)))]) .r)))))) := by kernel_rfl
theorem w29 : Tryz.f29.body.map (Qr C) = some (.q (.R [.n 4 (.assign (.const (.bool false)))]) (.q (.q (.R [.n 6 (.move t0), .n 7 (.call ⟨.builtin .len, #[t6], #[22]⟩), .n 8 (.move t1), .n 9 (.call ⟨.builtin .len, #[t8], #[22]⟩), .n 10 (.binOp .neq 3 t7 t9 3)]) (.c t10 (.q (.R [.n 4 (.assign (.const (.bool false)))]) .r) .s)) (.q (.q (.R [.n 5 (.assign (.const (.int .i64 0)))]) (.b 0 (.l (.q (.q (.R [.n 11 (.move t5), .n 12 (.move t0), .n 13 (.call ⟨.builtin .len, #[t12], #[22]⟩), .n 14 (.binOp .lss 3 t11 t13 3)]) (.c t14 .s (.x 0))) (.q (.b 1 (.q (.D true [.n 17 (.move t0), .n 18 (.move t5), .n 19 (.indexAddr 22 t17 t18), .n 20 (.load 3 t19), .n 21 (.move t1), .n 22 (.move t5), .n 23 (.indexAddr 22 t21 t22), .n 24 (.load 3 t23), .n 25 (.binOp .neq 3 t20 t24 3)]) (.c t25 (.q (.R [.n 4 (.assign (.const (.bool false)))]) .r) .s))) (.R [.n 15 (.move t5), .n 16 (.binOp .add 3 t15 (.const (.int .i64 1)) 3), .n 5 (.assign t16)])))))) (.q (.R [.n 4 (.assign (.const (.bool true)))]) .r)))) := by kernel_rfl
theorem w28 : Tryz.f28.body.map (Qr C) = some (.q (.R [.n 2 (.box 26 t0), .n 3 (.box 26 t1), .n 4 (.assign (.const (.bool false)))]) (.q (.q (.R [.n 6 (.fieldAddr 26 t2 0), .n 7 (.load 23 t6), .n 8 (.fieldAddr 26 t3 0), .n 9 (.load 23 t8), .n 10 (.call ⟨.value (.func 29), #[t7, t9], #[22, 22]⟩), .n 11 (.unOp .not 4 t10), .n 12 (.move t11), .g (some 13) (.fieldAddr 26 t2 1) 12 false, .g (some 14) (.load 24 t13) 12 false, .g (some 15) (.call ⟨.builtin .len, #[t14], #[24]⟩) 12 false, .g (some 16) (.fieldAddr 26 t3 1) 12 false, .g (some 17) (.load 24 t16) 12 false, .g (some 18) (.call ⟨.builtin .len, #[t17], #[24]⟩) 12 false, .g (some 19) (.binOp .neq 3 t15 t18 3) 12 false, .n 20 (.pick t12 (.const (.bool true)) t19)]) (.c t20 (.q (.R [.n 4 (.assign (.const (.bool false)))]) .r) .s)) (.q (.q (.R [.n 5 (.assign (.const (.int .i64 0)))]) (.b 0 (.l (.q (.q (.R [.n 21 (.move t5), .n 22 (.fieldAddr 26 t2 1), .n 23 (.load 24 t22), .n 24 (.call ⟨.builtin .len, #[t23], #[24]⟩), .n 25 (.binOp .lss 3 t21 t24 3)]) (.c t25 .s (.x 0))) (.q (.b 1 (.q (.D true [.n 28 (.fieldAddr 26 t2 1), .n 29 (.load 24 t28), .n 30 (.move t5), .n 31 (.indexAddr 24 t29 t30), .n 32 (.load 58 t31), .n 33 (.fieldAddr 26 t3 1), .n 34 (.load 24 t33), .n 35 (.move t5), .n 36 (.indexAddr 24 t34 t35), .n 37 (.load 58 t36), .n 38 (.call ⟨.value (.func 38), #[t32, t37], #[58, 58]⟩), .n 39 (.unOp .not 4 t38)]) (.c t39 (.q (.R [.n 4 (.assign (.const (.bool false)))]) .r) .s))) (.R [.n 26 (.move t5), .n 27 (.binOp .add 3 t26 (.const (.int .i64 1)) 3), .n 5 (.assign t27)])))))) (.q (.R [.n 4 (.assign (.const (.bool true)))]) .r)))) := by kernel_rfl
theorem w66 : Tryz.f66.body.map (Qr C) = some (.q (.R [.n 4 (.box 58 t1), .n 6 (.assign (.const (.slice none 0 0)))]) (.q (.R [.n 7 (.assign (.const (.slice none 0 0)))]) (.q (.q (.R [.n 13 (.move t0), .n 14 (.call ⟨.value (.func 92), #[t13], #[23]⟩), .n 15 (.move (.const (.int .i64 0)))]) (.b 0 (.l (.q (.R [.n 16 (.binOp .lss 3 t15 t14 3)]) (.q (.c t16 .s (.x 0)) (.q (.b 1 (.q (.R [.n 17 (.move t15), .n 8 (.assign t17)]) (.q (.R [.n 19 (.move t0), .n 20 (.move t8), .n 21 (.call ⟨.value (.func 93), #[t19, t20], #[23, 3]⟩), .n 18 (.move t21), .n 22 (.extract t18 0), .n 23 (.extract t18 1), .n 9 (.assign t22), .n 10 (.assign t23)]) (.q (.R [.n 25 (.move t2), .n 26 (.move t9), .n 27 (.call ⟨.value t25, #[t26], #[22]⟩), .n 24 (.move t27), .n 28 (.extract t24 0), .n 29 (.extract t24 1), .n 11 (.alloc 58), .z (.store 58 t11 t28), .n 12 (.assign t29)]) (.q (.q (.R [.n 30 (.move t12), .n 31 (.unOp .not 4 t30)]) (.c t31 (.R [.n 32 (.load 58 t4), .z (.store 58 t11 t32)]) .s)) (.R [.n 33 (.move t7), .n 34 (.load 58 t11), .n 35 (.buildSlice 24 1 #[(0, t34)]), .n 36 (.call ⟨.builtin .append, #[t33, t35], #[24, 24]⟩), .n 7 (.assign t36)])))))) (.R [.n 37 (.binOp .add 3 t15 (.const (.int .i64 1)) 3), .n 15 (.move t37)]))))))) (.q (.R [.n 38 (.move t7), .n 6 (.assign t38)]) .r)))) := by kernel_rfl
theorem w41 : Tryz.f41.body.map (Qr C) = some (.q (.R [.n 3 (.box 26 t0), .n 5 (.box 31 t2), .n 6 (.alloc 26), .n 7 (.assign (.const (.int .i64 0)))]) (.q (.R [.n 8 (.move t1), .n 9 (.move t1), .n 10 (.call ⟨.value (.func 71), #[.const (.int .i64 0)], #[2]⟩), .n 11 (.makeFunc (.func 82) #[] #[t3, t5]), .n 12 (.call ⟨.value (.func 66), #[t9, t10, t11], #[23, 58, 92]⟩), .n 13 (.call ⟨.value (.func 59), #[t8, t12], #[23, 24]⟩), .n 14 (.extract t13 0), .n 15 (.extract t13 1), .z (.store 26 t6 t14), .n 7 (.assign t15)]) .r)) := by kernel_rfl
theorem w82 : Tryz.f82.body.map (Qr C) = some (.q (.R [.n 4 (.alloc 58), .n 5 (.assign (.const (.bool false)))]) (.q (.U [.n 9 (.fieldAddr 26 t1 0), .n 10 (.load 23 t9), .n 11 (.load 31 t2), .n 12 (.move t0), .n 13 (.call ⟨.value t11, #[t12], #[22]⟩), .n 14 (.call ⟨.value (.func 68), #[t10, t13], #[23, 22]⟩), .n 8 (.move t14), .n 15 (.extract t8 0), .n 16 (.extract t8 1), .n 6 (.assign t15), .n 7 (.assign t16)]) (.q (.q (.R [.n 17 (.move t7), .n 18 (.binOp .neq 27 t17 (.const (.int .i64 0)) 27)]) (.c t18 (.q (.R [.n 19 (.build 58 #[]), .z (.store 58 t4 t19), .n 5 (.assign (.const (.bool false)))]) .r) .s)) (.q (.R [.n 20 (.fieldAddr 26 t1 1), .n 21 (.load 24 t20), .n 22 (.move t6), .n 23 (.indexAddr 24 t21 t22), .n 24 (.load 58 t23), .z (.store 58 t4 t24), .n 5 (.assign (.const (.bool true)))]) .r)))) := by kernel_rfl
theorem w13 : Tryz.f13.body.map (Qr C) = some (.q (.R [.n 2 (.box 26 t0), .n 3 (.box 22 t1), .n 4 (.alloc 26), .n 5 (.assign (.const (.int .i64 0)))]) (.q (.q (.R [.n 11 (.load 26 t2), .n 12 (.call ⟨.value (.func 39), #[t11], #[26]⟩), .n 6 (.assign t12)]) (.q (.R [.n 13 (.move t6), .n 14 (.binOp .neq 27 t13 (.const (.int .i64 0)) 27)]) (.c t14 (.q (.R [.n 15 (.build 26 #[]), .n 16 (.move t6), .z (.store 26 t4 t15), .n 5 (.assign t16)]) .r) .s))) (.q (.q (.R [.n 17 (.load 22 t3), .n 18 (.fieldAddr 26 t2 0), .n 19 (.load 23 t18), .n 20 (.call ⟨.builtin .len, #[t19], #[23]⟩), .n 21 (.call ⟨.value (.func 40), #[t17, t20], #[22, 3]⟩), .n 7 (.assign t21)]) (.q (.R [.n 22 (.move t7), .n 23 (.binOp .neq 27 t22 (.const (.int .i64 0)) 27)]) (.c t23 (.q (.R [.n 24 (.build 26 #[]), .n 25 (.move t7), .z (.store 26 t4 t24), .n 5 (.assign t25)]) .r) .s))) (.q (.R [.n 26 (.load 22 t3), .n 27 (.call ⟨.builtin .len, #[t26], #[22]⟩), .n 28 (.makeSlice 23 t27 t27), .n 8 (.assign t28)]) (.q (.q (.R [.n 29 (.load 22 t3), .n 30 (.call ⟨.builtin .len, #[t29], #[22]⟩), .n 31 (.move (.const (.int .i64 0)))]) (.b 0 (.l (.q (.R [.n 32 (.binOp .lss 3 t31 t30 3)]) (.q (.c t32 .s (.x 0)) (.q (.b 1 (.q (.R [.n 33 (.move t31), .n 34 (.indexAddr 22 t29 t31), .n 35 (.load 3 t34), .n 9 (.assign t33), .n 10 (.assign t35)]) (.R [.n 36 (.move t8), .n 37 (.move t9), .n 38 (.fieldAddr 26 t2 0), .n 39 (.load 23 t38), .n 40 (.move t10), .n 41 (.indexAddr 23 t39 t40), .n 42 (.load 3 t41), .n 43 (.indexAddr 23 t36 t37), .z (.store 3 t43 t42)]))) (.R [.n 44 (.binOp .add 3 t31 (.const (.int .i64 1)) 3), .n 31 (.move t44)]))))))) (.q (.R [.n 45 (.load 26 t2), .n 46 (.move t8), .n 47 (.makeFunc (.func 42) #[] #[t3]), .n 48 (.call ⟨.value (.func 41), #[t45, t46, t47], #[26, 23, 31]⟩), .n 49 (.extract t48 0), .n 50 (.extract t48 1), .z (.store 26 t4 t49), .n 5 (.assign t50)]) .r)))))) := by kernel_rfl
theorem w42 : Tryz.f42.body.map (Qr C) = some (.q (.R [.n 3 (.assign (.const (.slice none 0 0)))]) (.q (.R [.n 7 (.load 22 t1), .n 8 (.call ⟨.builtin .len, #[t7], #[22]⟩), .n 9 (.makeSlice 22 t8 t8), .n 4 (.assign t9)]) (.q (.q (.R [.n 10 (.load 22 t1), .n 11 (.call ⟨.builtin .len, #[t10], #[22]⟩), .n 12 (.move (.const (.int .i64 0)))]) (.b 0 (.l (.q (.R [.n 13 (.binOp .lss 3 t12 t11 3)]) (.q (.c t13 .s (.x 0)) (.q (.b 1 (.q (.R [.n 14 (.move t12), .n 15 (.indexAddr 22 t10 t12), .n 16 (.load 3 t15), .n 5 (.assign t14), .n 6 (.assign t16)]) (.R [.n 17 (.move t4), .n 18 (.move t6), .n 19 (.move t0), .n 20 (.move t5), .n 21 (.indexAddr 22 t19 t20), .n 22 (.load 3 t21), .n 23 (.indexAddr 22 t17 t18), .z (.store 3 t23 t22)]))) (.R [.n 24 (.binOp .add 3 t12 (.const (.int .i64 1)) 3), .n 12 (.move t24)]))))))) (.q (.R [.n 25 (.move t4), .n 3 (.assign t25)]) .r)))) := by kernel_rfl
theorem w50 : Tryz.f50.body.map (Qr C) = some (.q (.R [.n 1 (.box 22 t0), .n 2 (.assign (.const .nilFunc))]) (.q (.R [.n 3 (.makeFunc (.func 86) #[] #[t1]), .n 2 (.assign t3)]) .r)) := by kernel_rfl
theorem w86 : Tryz.f86.body.map (Qr C) = some (.q (.R [.n 3 (.assign (.const (.int .i64 0)))]) (.b 0 (.l (.q (.q (.R [.n 4 (.move t3), .n 5 (.binOp .add 3 t4 (.const (.int .i64 1)) 3), .n 6 (.load 22 t1), .n 7 (.call ⟨.builtin .len, #[t6], #[22]⟩), .n 8 (.binOp .lss 3 t5 t7 3)]) (.c t8 .s (.x 0))) (.q (.b 1 (.q (.U [.n 11 (.move t0), .n 12 (.move t3), .n 13 (.binOp .quo 3 t12 (.const (.int .i64 2)) 3), .n 14 (.load 22 t1), .n 15 (.move t3), .n 16 (.indexAddr 22 t14 t15), .n 17 (.load 3 t16), .n 18 (.load 22 t1), .n 19 (.move t3), .n 20 (.binOp .add 3 t19 (.const (.int .i64 1)) 3), .n 21 (.indexAddr 22 t18 t20), .n 22 (.load 3 t21), .n 23 (.build 79 #[(0, t17), (1, t22)]), .n 24 (.call ⟨.value t11, #[t13, t23], #[3, 79]⟩), .n 25 (.unOp .not 4 t24)]) (.c t25 .r .s))) (.R [.n 9 (.move t3), .n 10 (.binOp .add 3 t9 (.const (.int .i64 2)) 3), .n 3 (.assign t10)])))))) := by kernel_rfl
theorem w20 : Tryz.f20.body.map (Qr C) = some (.q (.R [.n 2 (.box 26 t0), .n 3 (.box 22 t1), .n 4 (.alloc 26), .n 5 (.alloc 27)]) (.q (.q (.R [.n 12 (.load 26 t2), .n 13 (.call ⟨.value (.func 39), #[t12], #[26]⟩), .n 6 (.assign t13)]) (.q (.R [.n 14 (.move t6), .n 15 (.binOp .neq 27 t14 (.const (.int .i64 0)) 27)]) (.c t15 (.q (.R [.n 16 (.build 26 #[]), .n 17 (.move t6), .z (.store 26 t4 t16), .z (.store 27 t5 t17)]) .r) .s))) (.q (.q (.R [.n 18 (.load 22 t3), .n 19 (.call ⟨.builtin .len, #[t18], #[22]⟩), .n 20 (.fieldAddr 26 t2 0), .n 21 (.load 23 t20), .n 22 (.call ⟨.builtin .len, #[t21], #[23]⟩), .n 23 (.binOp .mul 3 (.const (.int .i64 2)) t22 3), .n 24 (.binOp .neq 3 t19 t23 3)]) (.c t24 (.q (.R [.n 25 (.build 26 #[]), .z (.store 26 t4 t25), .z (.store 27 t5 (.const (.int .i64 11)))]) .r) .s)) (.q (.q (.R [.n 26 (.load 22 t3), .n 27 (.call ⟨.value (.func 50), #[t26], #[22]⟩)]) (.b 0 (.f t27 #[28, 29] (.R [.n 8 (.alloc 79), .z (.store 79 t8 t29)]) (.b 1 (.q (.R [.n 30 (.indexAddr 79 t8 (.const (.int .i64 0))), .n 31 (.load 3 t30), .n 32 (.binOp .lss 3 t31 (.const (.int .i64 0)) 3), .n 33 (.move t32), .g (some 34) (.indexAddr 79 t8 (.const (.int .i64 1))) 33 false, .g (some 35) (.load 3 t34) 33 false, .g (some 36) (.indexAddr 79 t8 (.const (.int .i64 0))) 33 false, .g (some 37) (.load 3 t36) 33 false, .g (some 38) (.binOp .leq 3 t35 t37 3) 33 false, .n 39 (.pick t33 (.const (.bool true)) t38)]) (.c t39 (.q (.R [.n 40 (.build 26 #[]), .z (.store 26 t4 t40), .z (.store 27 t5 (.const (.int .i64 11)))]) .r) .s)))))) (.q (.R [.n 9 (.alloc 23)]) (.q (.q (.R [.n 41 (.load 22 t3), .n 42 (.call ⟨.value (.func 50), #[t41], #[22]⟩)]) (.b 2 (.f t42 #[43, 44] (.q (.R [.n 10 (.assign t43)]) (.R [.n 11 (.alloc 79), .z (.store 79 t11 t44)])) (.b 3 (.q (.q (.D true [.n 45 (.indexAddr 79 t11 (.const (.int .i64 1))), .n 46 (.load 3 t45), .n 47 (.fieldAddr 26 t2 0), .n 48 (.load 23 t47), .n 49 (.move t10), .n 50 (.indexAddr 23 t48 t49), .n 51 (.load 3 t50), .n 52 (.binOp .gtr 3 t46 t51 3)]) (.c t52 (.q (.R [.n 53 (.build 26 #[]), .z (.store 26 t4 t53), .z (.store 27 t5 (.const (.int .i64 13)))]) .r) .s)) (.R [.n 54 (.load 23 t9), .n 55 (.indexAddr 79 t11 (.const (.int .i64 1))), .n 56 (.load 3 t55), .n 57 (.indexAddr 79 t11 (.const (.int .i64 0))), .n 58 (.load 3 t57), .n 59 (.binOp .sub 3 t56 t58 3), .n 60 (.buildSlice 23 1 #[(0, t59)]), .n 61 (.call ⟨.builtin .append, #[t54, t60], #[23, 23]⟩), .z (.store 23 t9 t61)])))))) (.q (.R [.n 62 (.load 26 t2), .n 63 (.load 23 t9), .n 64 (.makeFunc (.func 51) #[] #[t3]), .n 65 (.call ⟨.value (.func 41), #[t62, t63, t64], #[26, 23, 31]⟩), .n 66 (.extract t65 0), .n 67 (.extract t65 1), .z (.store 26 t4 t66), .z (.store 27 t5 t67)]) .r))))))) := by kernel_rfl
theorem w51 : Tryz.f51.body.map (Qr C) = some (.q (.R [.n 3 (.assign (.const (.slice none 0 0)))]) (.q (.R [.n 7 (.move t0), .n 8 (.call ⟨.value (.func 52), #[t7], #[22]⟩), .n 4 (.alloc 22), .z (.store 22 t4 t8)]) (.q (.q (.R [.n 9 (.load 22 t1), .n 10 (.call ⟨.value (.func 50), #[t9], #[22]⟩)]) (.b 0 (.f t10 #[11, 12] (.q (.R [.n 5 (.assign t11)]) (.R [.n 6 (.alloc 79), .z (.store 79 t6 t12)])) (.b 1 (.D true [.n 13 (.load 22 t4), .n 14 (.move t5), .n 15 (.indexAddr 22 t13 t14), .n 16 (.load 3 t15), .n 17 (.indexAddr 79 t6 (.const (.int .i64 0))), .n 18 (.load 3 t17), .n 19 (.binOp .add 3 t16 t18 3), .n 20 (.indexAddr 22 t13 t14), .z (.store 3 t20 t19)]))))) (.q (.R [.n 21 (.load 22 t4), .n 3 (.assign t21)]) .r)))) := by kernel_rfl
theorem w22 : Tryz.f22.body.map (Qr C) = some (.q (.R [.n 2 (.box 26 t0), .n 3 (.box 22 t1), .n 4 (.alloc 26), .n 5 (.alloc 27)]) (.q (.q (.R [.n 11 (.load 26 t2), .n 12 (.call ⟨.value (.func 39), #[t11], #[26]⟩), .n 6 (.assign t12)]) (.q (.R [.n 13 (.move t6), .n 14 (.binOp .neq 27 t13 (.const (.int .i64 0)) 27)]) (.c t14 (.q (.R [.n 15 (.build 26 #[]), .n 16 (.move t6), .z (.store 26 t4 t15), .z (.store 27 t5 t16)]) .r) .s))) (.q (.q (.R [.n 17 (.load 22 t3), .n 18 (.call ⟨.builtin .len, #[t17], #[22]⟩), .n 19 (.fieldAddr 26 t2 0), .n 20 (.load 23 t19), .n 21 (.call ⟨.builtin .len, #[t20], #[23]⟩), .n 22 (.binOp .mul 3 (.const (.int .i64 2)) t21 3), .n 23 (.binOp .neq 3 t18 t22 3), .n 24 (.move t23), .g (some 25) (.load 22 t3) 24 false, .g (some 26) (.call ⟨.value (.func 54), #[t25, .func 55], #[22, 82]⟩) 24 false, .n 27 (.pick t24 (.const (.bool true)) t26)]) (.c t27 (.q (.R [.n 28 (.build 26 #[]), .z (.store 26 t4 t28), .z (.store 27 t5 (.const (.int .i64 11)))]) .r) .s)) (.q (.R [.n 7 (.alloc 23)]) (.q (.q (.R [.n 29 (.load 22 t3), .n 30 (.call ⟨.value (.func 50), #[t29], #[22]⟩)]) (.b 0 (.f t30 #[31, 32] (.q (.R [.n 8 (.assign t31)]) (.R [.n 9 (.alloc 79), .z (.store 79 t9 t32)])) (.b 1 (.q (.q (.R [.n 33 (.indexAddr 79 t9 (.const (.int .i64 0))), .n 34 (.load 3 t33), .n 35 (.indexAddr 79 t9 (.const (.int .i64 1))), .n 36 (.load 3 t35), .n 37 (.call ⟨.builtin .max, #[t34, t36], #[3, 3]⟩), .n 38 (.binOp .gtr 3 t37 (.const (.int .i64 1024)) 3)]) (.c t38 (.q (.R [.n 39 (.build 26 #[]), .z (.store 26 t4 t39), .z (.store 27 t5 (.const (.int .i64 14)))]) .r) .s)) (.D true [.n 40 (.load 23 t7), .n 41 (.indexAddr 79 t9 (.const (.int .i64 0))), .n 42 (.load 3 t41), .n 43 (.fieldAddr 26 t2 0), .n 44 (.load 23 t43), .n 45 (.move t8), .n 46 (.indexAddr 23 t44 t45), .n 47 (.load 3 t46), .n 48 (.binOp .add 3 t42 t47 3), .n 49 (.indexAddr 79 t9 (.const (.int .i64 1))), .n 50 (.load 3 t49), .n 51 (.binOp .add 3 t48 t50 3), .n 52 (.buildSlice 23 1 #[(0, t51)]), .n 53 (.call ⟨.builtin .append, #[t40, t52], #[23, 23]⟩), .z (.store 23 t7 t53)])))))) (.q (.q (.R [.n 54 (.load 23 t7), .n 55 (.call ⟨.value (.func 56), #[t54], #[23]⟩), .n 10 (.assign t55)]) (.q (.R [.n 56 (.move t10), .n 57 (.binOp .neq 27 t56 (.const (.int .i64 0)) 27)]) (.c t57 (.q (.R [.n 58 (.build 26 #[]), .n 59 (.move t10), .z (.store 26 t4 t58), .z (.store 27 t5 t59)]) .r) .s))) (.q (.R [.n 60 (.load 26 t2), .n 61 (.load 23 t7), .n 62 (.makeFunc (.func 57) #[] #[t3]), .n 63 (.call ⟨.value (.func 41), #[t60, t61, t62], #[26, 23, 31]⟩), .n 64 (.extract t63 0), .n 65 (.extract t63 1), .z (.store 26 t4 t64), .z (.store 27 t5 t65)]) .r))))))) := by kernel_rfl
theorem w55 : Tryz.f55.body.map (Qr C) = some (.q (.R [.n 2 (.assign (.const (.bool false)))]) (.q (.R [.n 3 (.move t0), .n 4 (.binOp .lss 3 t3 (.const (.int .i64 0)) 3), .n 2 (.assign t4)]) .r)) := by kernel_rfl
theorem w57 : Tryz.f57.body.map (Qr C) = some (.q (.R [.n 3 (.assign (.const (.slice none 0 0)))]) (.q (.R [.n 7 (.move t0), .n 8 (.call ⟨.value (.func 52), #[t7], #[22]⟩), .n 4 (.alloc 22), .z (.store 22 t4 t8)]) (.q (.q (.R [.n 9 (.load 22 t1), .n 10 (.call ⟨.value (.func 50), #[t9], #[22]⟩)]) (.b 0 (.f t10 #[11, 12] (.q (.R [.n 5 (.assign t11)]) (.R [.n 6 (.alloc 79), .z (.store 79 t6 t12)])) (.b 1 (.D true [.n 13 (.load 22 t4), .n 14 (.move t5), .n 15 (.indexAddr 22 t13 t14), .n 16 (.load 3 t15), .n 17 (.indexAddr 79 t6 (.const (.int .i64 0))), .n 18 (.load 3 t17), .n 19 (.binOp .sub 3 t16 t18 3), .n 20 (.indexAddr 22 t13 t14), .z (.store 3 t20 t19)]))))) (.q (.R [.n 21 (.load 22 t4), .n 3 (.assign t21)]) .r)))) := by kernel_rfl
theorem w49 : Tryz.f49.body.map (Qr C) = some (.q (.R [.n 4 (.alloc 26)]) (.q (.R [.n 7 (.move t0), .n 8 (.build 34 #[(0, t7)]), .n 5 (.alloc 34), .z (.store 34 t5 t8)]) (.q (.q (.R [.n 6 (.assign (.const (.int .i64 0)))]) (.b 0 (.l (.q (.q (.R [.n 9 (.move t6), .n 10 (.move t1), .n 11 (.call ⟨.builtin .len, #[t10], #[22]⟩), .n 12 (.binOp .lss 3 t9 t11 3)]) (.c t12 .s (.x 0))) (.q (.b 1 (.D true [.n 15 (.fieldAddr 34 t5 1), .n 16 (.load 32 t15), .n 17 (.move t1), .n 18 (.move t6), .n 19 (.indexAddr 22 t17 t18), .n 20 (.load 3 t19), .n 21 (.call ⟨.value (.func 47), #[t20], #[3]⟩), .n 22 (.buildSlice 32 1 #[(0, t21)]), .n 23 (.call ⟨.builtin .append, #[t16, t22], #[32, 32]⟩), .n 24 (.fieldAddr 34 t5 1), .z (.store 32 t24 t23)])) (.R [.n 13 (.move t6), .n 14 (.binOp .add 3 t13 (.const (.int .i64 1)) 3), .n 6 (.assign t14)])))))) (.q (.R [.n 25 (.load 34 t5), .n 26 (.call ⟨.value (.func 85), #[t25], #[34]⟩), .z (.store 26 t4 t26)]) .r)))) := by kernel_rfl
theorem w19 : Tryz.f19.body.map (Qr C) = some (.q (.R [.n 0 (.assign (.const (.bool false)))]) (.q (.R [.n 8 (.buildSlice 23 2 #[(0, .const (.int .i64 2)), (1, .const (.int .i64 3))]), .n 9 (.buildSlice 22 6 #[(0, .const (.int .i64 1)), (1, .const (.int .i64 2)), (2, .const (.int .i64 3)), (3, .const (.int .i64 4)), (4, .const (.int .i64 5)), (5, .const (.int .i64 6))]), .n 10 (.call ⟨.value (.func 49), #[t8, t9], #[23, 22]⟩), .n 1 (.alloc 26), .z (.store 26 t1 t10)]) (.q (.R [.n 12 (.load 26 t1), .n 13 (.buildSlice 22 2 #[(0, .const (.int .i64 1)), (1, .const (.int .i64 0))]), .n 14 (.call ⟨.value (.func 13), #[t12, t13], #[26, 22]⟩), .n 11 (.move t14), .n 15 (.extract t11 0), .n 16 (.extract t11 1), .n 2 (.alloc 26), .z (.store 26 t2 t15), .n 3 (.assign t16)]) (.q (.R [.n 18 (.load 26 t1), .n 19 (.buildSlice 22 4 #[(0, .const (.int .i64 0)), (1, .const (.int .i64 1)), (2, .const (.int .i64 1)), (3, .const (.int .i64 3))]), .n 20 (.call ⟨.value (.func 20), #[t18, t19], #[26, 22]⟩), .n 17 (.move t20), .n 21 (.extract t17 0), .n 22 (.extract t17 1), .n 4 (.alloc 26), .z (.store 26 t4 t21), .n 5 (.assign t22)]) (.q (.R [.n 24 (.load 26 t4), .n 25 (.buildSlice 22 4 #[(0, .const (.int .i64 0)), (1, .const (.int .i64 0)), (2, .const (.int .i64 1)), (3, .const (.int .i64 0))]), .n 26 (.call ⟨.value (.func 22), #[t24, t25], #[26, 22]⟩), .n 23 (.move t26), .n 27 (.extract t23 0), .n 28 (.extract t23 1), .n 6 (.alloc 26), .z (.store 26 t6 t27), .n 7 (.assign t28)]) (.q (.D true [.n 29 (.move t3), .n 30 (.binOp .eql 27 t29 (.const (.int .i64 0)) 27), .n 31 (.move t30), .g (some 32) (.move t5) 31 true, .g (some 33) (.binOp .eql 27 t32 (.const (.int .i64 0)) 27) 31 true, .n 34 (.pick t31 t33 (.const (.bool false))), .n 35 (.move t34), .g (some 36) (.move t7) 35 true, .g (some 37) (.binOp .eql 27 t36 (.const (.int .i64 0)) 27) 35 true, .n 38 (.pick t35 t37 (.const (.bool false))), .n 39 (.move t38), .g (some 40) (.load 26 t2) 39 true, .g (some 41) (.buildSlice 23 2 #[(0, .const (.int .i64 3)), (1, .const (.int .i64 2))]) 39 true, .g (some 42) (.buildSlice 22 6 #[(0, .const (.int .i64 1)), (1, .const (.int .i64 4)), (2, .const (.int .i64 2)), (3, .const (.int .i64 5)), (4, .const (.int .i64 3)), (5, .const (.int .i64 6))]) 39 true, .g (some 43) (.call ⟨.value (.func 49), #[t41, t42], #[23, 22]⟩) 39 true, .g (some 44) (.call ⟨.value (.func 28), #[t40, t43], #[26, 26]⟩) 39 true, .n 45 (.pick t39 t44 (.const (.bool false))), .n 46 (.move t45), .g (some 47) (.load 26 t4) 46 true, .g (some 48) (.buildSlice 23 2 #[(0, .const (.int .i64 1)), (1, .const (.int .i64 2))]) 46 true, .g (some 49) (.buildSlice 22 2 #[(0, .const (.int .i64 2)), (1, .const (.int .i64 3))]) 46 true, .g (some 50) (.call ⟨.value (.func 49), #[t48, t49], #[23, 22]⟩) 46 true, .g (some 51) (.call ⟨.value (.func 28), #[t47, t50], #[26, 26]⟩) 46 true, .n 52 (.pick t46 t51 (.const (.bool false))), .n 53 (.move t52), .g (some 54) (.load 26 t6) 53 true, .g (some 55) (.buildSlice 23 2 #[(0, .const (.int .i64 1)), (1, .const (.int .i64 3))]) 53 true, .g (some 56) (.buildSlice 22 3 #[(0, .const (.int .i64 0)), (1, .const (.int .i64 2)), (2, .const (.int .i64 3))]) 53 true, .g (some 57) (.call ⟨.value (.func 49), #[t55, t56], #[23, 22]⟩) 53 true, .g (some 58) (.call ⟨.value (.func 28), #[t54, t57], #[26, 26]⟩) 53 true, .n 59 (.pick t53 t58 (.const (.bool false))), .n 0 (.assign t59)]) .r)))))) := by kernel_rfl
theorem w27 : Tryz.f27.body.map (Qr C) = some (.q (.R [.n 2 (.assign (.const (.slice none 0 0)))]) (.q (.R [.n 5 (.move t0), .n 6 (.call ⟨.builtin .len, #[t5], #[22]⟩), .n 7 (.makeSlice 22 t6 t6), .n 3 (.assign t7)]) (.q (.q (.R [.n 4 (.assign (.const (.int .i64 0)))]) (.b 0 (.l (.q (.q (.R [.n 8 (.move t4), .n 9 (.move t0), .n 10 (.call ⟨.builtin .len, #[t9], #[22]⟩), .n 11 (.binOp .lss 3 t8 t10 3)]) (.c t11 .s (.x 0))) (.q (.b 1 (.q (.R [.n 14 (.move t0), .n 15 (.move t4), .n 16 (.indexAddr 22 t14 t15), .n 17 (.load 3 t16), .n 18 (.binOp .geq 3 t17 (.const (.int .i64 0)) 3), .n 19 (.move t18), .g (some 20) (.move t0) 19 true, .g (some 21) (.move t4) 19 true, .g (some 22) (.indexAddr 22 t20 t21) 19 true, .g (some 23) (.load 3 t22) 19 true, .g (some 24) (.move t0) 19 true, .g (some 25) (.call ⟨.builtin .len, #[t24], #[22]⟩) 19 true, .g (some 26) (.binOp .lss 3 t23 t25 3) 19 true, .n 27 (.pick t19 t26 (.const (.bool false)))]) (.c t27 (.R [.n 28 (.move t3), .n 29 (.move t0), .n 30 (.move t4), .n 31 (.indexAddr 22 t29 t30), .n 32 (.load 3 t31), .n 33 (.move t4), .n 34 (.indexAddr 22 t28 t32), .z (.store 3 t34 t33)]) .s))) (.R [.n 12 (.move t4), .n 13 (.binOp .add 3 t12 (.const (.int .i64 1)) 3), .n 4 (.assign t13)])))))) (.q (.R [.n 35 (.move t3), .n 2 (.assign t35)]) .r)))) := by kernel_rfl
theorem w30 : Tryz.f30.body.map (Qr C) = some (.q (.R [.n 4 (.assign (.const (.slice none 0 0)))]) (.q (.R [.n 5 (.assign (.const (.slice none 0 0)))]) (.q (.q (.R [.n 6 (.assign (.const (.int .i64 0)))]) (.b 0 (.l (.q (.q (.R [.n 7 (.move t6), .n 8 (.move t0), .n 9 (.call ⟨.builtin .len, #[t8], #[23]⟩), .n 10 (.binOp .lss 3 t7 t9 3)]) (.c t10 .s (.x 0))) (.q (.b 1 (.D true [.n 13 (.move t5), .n 14 (.move t1), .n 15 (.move t6), .n 16 (.binOp .mul 3 (.const (.int .i64 2)) t15 3), .n 17 (.indexAddr 22 t14 t16), .n 18 (.load 3 t17), .n 19 (.move t1), .n 20 (.move t6), .n 21 (.binOp .mul 3 (.const (.int .i64 2)) t20 3), .n 22 (.indexAddr 22 t19 t21), .n 23 (.load 3 t22), .n 24 (.move t0), .n 25 (.move t6), .n 26 (.indexAddr 23 t24 t25), .n 27 (.load 3 t26), .n 28 (.binOp .add 3 t23 t27 3), .n 29 (.buildSlice 22 2 #[(0, t18), (1, t28)]), .n 30 (.call ⟨.builtin .append, #[t13, t29], #[22, 22]⟩), .n 5 (.assign t30)])) (.R [.n 11 (.move t6), .n 12 (.binOp .add 3 t11 (.const (.int .i64 1)) 3), .n 6 (.assign t12)])))))) (.q (.R [.n 31 (.move t5), .n 4 (.assign t31)]) .r)))) := by kernel_rfl
theorem w3 : Tryz.f3.body.map (Qr C) = some (.q (.R [.n 2 (.box 26 t0), .n 4 (.assign (.const (.bool false)))]) (.q (.R [.n 10 (.load 26 t2), .n 11 (.call ⟨.value (.func 14), #[t10], #[26]⟩), .n 12 (.move t1), .n 13 (.call ⟨.value (.func 15), #[t12], #[22]⟩), .n 14 (.call ⟨.value (.func 13), #[t11, t13], #[26, 22]⟩), .n 9 (.move t14), .n 15 (.extract t9 0), .n 16 (.extract t9 1), .n 5 (.alloc 26), .z (.store 26 t5 t15), .n 6 (.assign t16)]) (.q (.R [.n 18 (.load 26 t2), .n 19 (.call ⟨.value (.func 17), #[t18], #[26]⟩), .n 20 (.move t1), .n 21 (.call ⟨.value (.func 16), #[t19, t20], #[34, 22]⟩), .n 17 (.move t21), .n 22 (.extract t17 0), .n 23 (.extract t17 1), .n 7 (.alloc 34), .z (.store 34 t7 t22), .n 8 (.assign t23)]) (.q (.R [.n 24 (.load 26 t5), .n 25 (.move t6), .n 26 (.load 26 t2), .n 27 (.load 34 t7), .n 28 (.move t8), .n 29 (.call ⟨.value (.func 18), #[t24, t25, t26, t27, t28], #[26, 27, 26, 34, 3]⟩), .n 30 (.move t29), .g (some 31) (.call ⟨.value (.func 19), #[], #[]⟩) 30 true, .n 32 (.pick t30 t31 (.const (.bool false))), .n 4 (.assign t32)]) .r)))) := by kernel_rfl
theorem w12 : Tryz.f12.body.map (Qr C) = some (.q (.R [.n 5 (.box 26 t0), .n 8 (.box 26 t3), .n 9 (.box 26 t4), .n 10 (.assign (.const (.bool false)))]) (.q (.q (.R [.n 27 (.load 26 t5), .n 28 (.call ⟨.value (.func 26), #[t27], #[26]⟩), .n 29 (.binOp .neq 3 t28 (.const (.int .i64 0)) 3), .n 30 (.move t29), .g (some 31) (.load 26 t8) 30 false, .g (some 32) (.call ⟨.value (.func 26), #[t31], #[26]⟩) 30 false, .g (some 33) (.binOp .neq 3 t32 (.const (.int .i64 0)) 3) 30 false, .n 34 (.pick t30 (.const (.bool true)) t33), .n 35 (.move t34), .g (some 36) (.load 26 t9) 35 false, .g (some 37) (.call ⟨.value (.func 26), #[t36], #[26]⟩) 35 false, .g (some 38) (.binOp .neq 3 t37 (.const (.int .i64 0)) 3) 35 false, .n 39 (.pick t35 (.const (.bool true)) t38)]) (.c t39 (.q (.R [.n 40 (.call ⟨.value (.func 19), #[], #[]⟩), .n 10 (.assign t40)]) .r) .s)) (.q (.R [.n 42 (.load 26 t5), .n 43 (.move t1), .n 44 (.call ⟨.value (.func 13), #[t42, t43], #[26, 22]⟩), .n 41 (.move t44), .n 45 (.extract t41 0), .n 46 (.extract t41 1), .n 11 (.alloc 26), .z (.store 26 t11 t45), .n 12 (.assign t46)]) (.q (.q (.R [.n 47 (.move t12), .n 48 (.binOp .eql 27 t47 (.const (.int .i64 0)) 27), .n 49 (.move t48), .g (some 50) (.fieldAddr 26 t11 0) 49 true, .g (some 51) (.load 23 t50) 49 true, .g (some 52) (.fieldAddr 26 t8 0) 49 true, .g (some 53) (.load 23 t52) 49 true, .g (some 54) (.call ⟨.value (.func 29), #[t51, t53], #[22, 22]⟩) 49 true, .n 55 (.pick t49 t54 (.const (.bool false)))]) (.c t55 (.q (.D true [.n 57 (.load 26 t8), .n 58 (.move t1), .n 59 (.call ⟨.value (.func 27), #[t58], #[22]⟩), .n 60 (.call ⟨.value (.func 13), #[t57, t59], #[26, 22]⟩), .n 56 (.move t60), .n 61 (.extract t56 0), .n 62 (.extract t56 1), .n 13 (.alloc 26), .z (.store 26 t13 t61), .n 14 (.assign t62)]) (.q (.R [.n 64 (.load 26 t11), .n 65 (.load 26 t8), .n 66 (.call ⟨.value (.func 37), #[t64, t65], #[26, 26]⟩), .n 63 (.move t66), .n 67 (.extract t63 0), .n 68 (.extract t63 1), .n 15 (.alloc 58), .z (.store 58 t15 t67), .n 16 (.assign t68)]) (.q (.R [.n 70 (.load 26 t5), .n 71 (.load 26 t13), .n 72 (.call ⟨.value (.func 37), #[t70, t71], #[26, 26]⟩), .n 69 (.move t72), .n 73 (.extract t69 0), .n 74 (.extract t69 1), .n 17 (.alloc 58), .z (.store 58 t17 t73), .n 18 (.assign t74)]) (.q (.R [.n 75 (.move t14), .n 76 (.binOp .neq 27 t75 (.const (.int .i64 0)) 27), .n 77 (.move t76), .g (some 78) (.move t16) 77 false, .g (some 79) (.binOp .neq 27 t78 (.const (.int .i64 0)) 27) 77 false, .n 80 (.pick t77 (.const (.bool true)) t79), .n 81 (.move t80), .g (some 82) (.move t18) 81 false, .g (some 83) (.binOp .neq 27 t82 (.const (.int .i64 0)) 27) 81 false, .n 84 (.pick t81 (.const (.bool true)) t83), .n 85 (.move t84), .g (some 86) (.load 58 t15) 85 false, .g (some 87) (.load 58 t17) 85 false, .g (some 88) (.call ⟨.value (.func 38), #[t86, t87], #[58, 58]⟩) 85 false, .g (some 89) (.unOp .not 4 t88) 85 false, .n 90 (.pick t85 (.const (.bool true)) t89)]) (.c t90 (.q (.R [.n 10 (.assign (.const (.bool false)))]) .r) .s))))) .s)) (.q (.R [.n 92 (.load 26 t5), .n 93 (.move t2), .n 94 (.call ⟨.value (.func 22), #[t92, t93], #[26, 22]⟩), .n 91 (.move t94), .n 95 (.extract t91 0), .n 96 (.extract t91 1), .n 19 (.alloc 26), .z (.store 26 t19 t95), .n 20 (.assign t96)]) (.q (.q (.R [.n 97 (.move t20), .n 98 (.binOp .eql 27 t97 (.const (.int .i64 0)) 27), .n 99 (.move t98), .g (some 100) (.fieldAddr 26 t19 0) 99 true, .g (some 101) (.load 23 t100) 99 true, .g (some 102) (.fieldAddr 26 t9 0) 99 true, .g (some 103) (.load 23 t102) 99 true, .g (some 104) (.call ⟨.value (.func 29), #[t101, t103], #[22, 22]⟩) 99 true, .n 105 (.pick t99 t104 (.const (.bool false)))]) (.c t105 (.q (.D true [.n 107 (.load 26 t9), .n 108 (.fieldAddr 26 t5 0), .n 109 (.load 23 t108), .n 110 (.move t2), .n 111 (.call ⟨.value (.func 30), #[t109, t110], #[23, 22]⟩), .n 112 (.call ⟨.value (.func 20), #[t107, t111], #[26, 22]⟩), .n 106 (.move t112), .n 113 (.extract t106 0), .n 114 (.extract t106 1), .n 21 (.alloc 26), .z (.store 26 t21 t113), .n 22 (.assign t114)]) (.q (.R [.n 116 (.load 26 t19), .n 117 (.load 26 t9), .n 118 (.call ⟨.value (.func 37), #[t116, t117], #[26, 26]⟩), .n 115 (.move t118), .n 119 (.extract t115 0), .n 120 (.extract t115 1), .n 23 (.alloc 58), .z (.store 58 t23 t119), .n 24 (.assign t120)]) (.q (.R [.n 122 (.load 26 t5), .n 123 (.load 26 t21), .n 124 (.call ⟨.value (.func 37), #[t122, t123], #[26, 26]⟩), .n 121 (.move t124), .n 125 (.extract t121 0), .n 126 (.extract t121 1), .n 25 (.alloc 58), .z (.store 58 t25 t125), .n 26 (.assign t126)]) (.q (.R [.n 127 (.move t22), .n 128 (.binOp .neq 27 t127 (.const (.int .i64 0)) 27), .n 129 (.move t128), .g (some 130) (.move t24) 129 false, .g (some 131) (.binOp .neq 27 t130 (.const (.int .i64 0)) 27) 129 false, .n 132 (.pick t129 (.const (.bool true)) t131), .n 133 (.move t132), .g (some 134) (.move t26) 133 false, .g (some 135) (.binOp .neq 27 t134 (.const (.int .i64 0)) 27) 133 false, .n 136 (.pick t133 (.const (.bool true)) t135), .n 137 (.move t136), .g (some 138) (.load 58 t23) 137 false, .g (some 139) (.load 58 t25) 137 false, .g (some 140) (.call ⟨.value (.func 38), #[t138, t139], #[58, 58]⟩) 137 false, .g (some 141) (.unOp .not 4 t140) 137 false, .n 142 (.pick t137 (.const (.bool true)) t141)]) (.c t142 (.q (.R [.n 10 (.assign (.const (.bool false)))]) .r) .s))))) .s)) (.q (.R [.n 143 (.call ⟨.value (.func 19), #[], #[]⟩), .n 10 (.assign t143)]) .r))))))) := by kernel_rfl
end Go.Proofs.YtjdbdmhjakfldaaGreat
end
