/-
  Parts Ref6, Ref11, Ref11b, Ref11c, Ref12, Ref12b, Sh6, Op1, Op2, Op3, Srt, Srt2, Seq1, Seq2, Seq3, Op4, one behind the other: a program logic of our own, contracts of functions.
-/
import Derived.Test.YtlomgfdepllanaaM4
import Derived.Test.YtlomgfdepllanaaM3
section
set_option linter.unusedSimpArgs false
set_option linter.unusedVariables false
set_option maxRecDepth 100000
set_option pp.maxSteps 1500
set_option maxHeartbeats 4000000
namespace Go.Proofs.Ytlomgfdepllanaa
open Go.Bv
/-! ### Plain -/
def prodL : List Int → Int
  | [] => 1
  | d :: l => d * prodL l
theorem prodL_pos : ∀ {l : List Int}, (∀ d ∈ l, 1 ≤ d) → 1 ≤ prodL l
  | [], _ => by simp [prodL]
  | d :: l, h => by
    have h1 := prodL_pos (l := l) fun d hd => h d (by simp [hd])
    have h2 := h d (by simp)
    exact Int.mul_pos (by omega) (by omega)
theorem prodL_append : ∀ (l m : List Int), prodL (l ++ m) = prodL l * prodL m
  | [], m => by simp [prodL]
  | d :: l, m => by simp [prodL, prodL_append l m, Int.mul_assoc]
theorem prodL_snoc (l : List Int) (d : Int) : prodL (l ++ [d]) = prodL l * d := by rw [prodL_append]; simp [prodL]
theorem prodL_take {xs : List Int} {i : Nat} (h : i < xs.length) : prodL (xs.take (i + 1)) = prodL (xs.take i) * xs.getD i 0 := by
  rw [← prodL_snoc]; congr 1
  rw [List.take_add_one]; simp [List.getD, h]
/-- Parts of a product of numbers from 1 on are no greater. -/
theorem prodL_le {xs : List Int} (h : ∀ d ∈ xs, 1 ≤ d) (i : Nat) : prodL (xs.take i) ≤ prodL xs := by
  have e : prodL xs = prodL (xs.take i) * prodL (xs.drop i) := by rw [← prodL_append, List.take_append_drop]
  have h1 := prodL_pos (l := xs.take i) fun d hd => h d (List.mem_of_mem_take hd)
  have h2 := prodL_pos (l := xs.drop i) fun d hd => h d (List.mem_of_mem_drop hd)
  rw [e]
  have := Int.mul_le_mul_of_nonneg_left (c := prodL (xs.take i)) h2 (by omega)
  omega
theorem getD_le_prodL {xs : List Int} (h : ∀ d ∈ xs, 1 ≤ d) {i : Nat} (hi : i < xs.length) : xs.getD i 0 ≤ prodL xs := by
  have h1 := prodL_le h (i + 1)
  rw [prodL_take hi] at h1
  have h2 := prodL_pos (l := xs.take i) fun d hd => h d (List.mem_of_mem_take hd)
  have h3 : 1 ≤ xs.getD i 0 := by
    have : xs.getD i 0 = xs[i] := by simp [List.getD, hi]
    rw [this]; exact h _ (List.getElem_mem hi)
  have : 1 * xs.getD i 0 ≤ prodL (xs.take i) * xs.getD i 0 := Int.mul_le_mul_of_nonneg_right h2 (by omega)
  omega

/-- Why a shape may not be. -/
def mayP (xs : List Int) : Int := if xs.length > 4 then 14 else if xs.all (fun d => decide (1 ≤ d)) then (if prodL xs > 1024 then 14 else 0) else 13
theorem mayP_cases (xs : List Int) : mayP xs = 0 ∨ mayP xs = 13 ∨ mayP xs = 14 := by unfold mayP; split <;> (try split) <;> (try split) <;> simp
theorem mayP_zero {xs : List Int} (h : mayP xs = 0) : xs.length ≤ 4 ∧ (∀ d ∈ xs, 1 ≤ d) ∧ prodL xs ≤ 1024 := by
  unfold mayP at h
  split at h
  · simp at h
  · split at h
    · split at h
      · simp at h
      · rename_i h1 h2 h3
        exact ⟨by omega, by simpa using h2, by omega⟩
    · simp at h
/-- How many elements there are. -/
def countP (xs : List Int) : Int := if mayP xs = 0 then prodL xs else 0

theorem ext_getD {xs ys : List Int} (hl : xs.length = ys.length) (h : ∀ j, j < xs.length → xs.getD j 0 = ys.getD j 0) : xs = ys := by
  refine List.ext_getElem hl fun i h1 h2 => ?_
  have := h i h1
  simpa [List.getD, h1, h2] using this
theorem all_getD {xs : List Int} {p : Int → Prop} : (∀ d ∈ xs, p d) ↔ ∀ j, j < xs.length → p (xs.getD j 0) := by
  constructor
  · intro h j hj
    have e : xs.getD j 0 = xs[j] := by simp [List.getD, hj]
    rw [e]; exact h _ (List.getElem_mem hj)
  · intro h d hd
    obtain ⟨j, hj, rfl⟩ := List.mem_iff_getElem.1 hd
    have e : xs.getD j 0 = xs[j] := by simp [List.getD, hj]
    rw [← e]; exact h j hj

theorem allS {p : Nat → Prop} {i : Nat} (h : ∀ j, j < i → p j) (hi : p i) : ∀ j, j < i + 1 → p j := by
  intro j hj
  by_cases e : j = i
  · subst e; exact hi
  · exact h j (by omega)

theorem SameList_spec (xs ys : List Int) (hx : xs.length ≤ 17592186044416) : Pu C 13 [.sl xs.length (ints xs), .sl ys.length (ints ys)] (.bool (decide (xs = ys))) := by
  refine Fc.keep (Fc.bodyT mixed Try.func13 w13 rfl Try.ntmps13 Try.results13 (Nat.le_of_ble_eq_true rfl) ?_)
  (refine Go1.out ?_; repeat' ((with_reducible first | refine Go1.mk ?_ | ((first | refine Br.dec ?_ ?_ | refine Br.beq ?_ ?_ | refine Br.bne ?_ ?_ | refine Br.mk ?_ ?_) <;> intro h)) <;> try simp -implicitDefEqProofs (maxSteps := 9000000) (disch := first | omega | (simp only [List.length_set, List.length_append, List.length_cons, List.length_nil]; omega)) only [go_sem]))
  · skip
    (refine keepP (by intro g; simp only [go_sem, ren, renL]) ?_)
    congr 1; symm; simp; rintro rfl; exact h rfl
  · skip
    refine TT_loop_inv (fun n ts H => ∃ i, (i ≤ xs.length) ∧ (∀ j, j < i → xs.getD j 0 = ys.getD j 0) ∧ (n = xs.length - i) ∧ (H = []) ∧ ts.length = 26 ∧ nth ts 0 = .sl xs.length (ints xs) ∧ nth ts 1 = .sl ys.length (ints ys) ∧ nth ts 5 = .int .i64 i) ?_ (n := xs.length) ?_
    · skip
      rintro n ts H ⟨i, hi, he, hn, hH, hL, hs0, hs1, hs5⟩
      refine TT_env [(0, .sl xs.length (ints xs)), (1, .sl ys.length (ints ys)), (5, .int .i64 i)] hL (by simp only [List.forall_mem_cons, hs0, hs1, hs5, true_and]; exact fun _ h => nomatch h) ?_
      clear hL hs0 hs1 hs5 ts
      refine TT_of mixed ?_
      subst hH hn
      (refine Go1.out ?_; repeat' ((with_reducible first | refine Go1.mk ?_ | ((first | refine Br.dec ?_ ?_ | refine Br.beq ?_ ?_ | refine Br.bne ?_ ?_ | refine Br.mk ?_ ?_) <;> intro h)) <;> try simp -implicitDefEqProofs (maxSteps := 9000000) (disch := first | omega | (simp only [List.length_set, List.length_append, List.length_cons, List.length_nil]; omega)) only [go_sem]))
      · skip
        (refine keepP (by intro g; simp only [go_sem, ren, renL]) ?_)
        congr 1; symm; simp; rintro rfl; exact h rfl
      · exact ⟨_, by omega, i + 1, by omega, allS he h, rfl, (by (repeat' apply And.intro) <;> (first | rfl | omega | (congr 1; omega) | assumption | (congr 1; assumption)))⟩
      · skip
        (refine keepP (by intro g; simp only [go_sem, ren, renL]) ?_)
        congr 1; symm; simp; exact ext_getD (by omega) fun j hj => he j (by omega)
    · exact ⟨0, by omega, fun j hj => by omega, rfl, rfl, rfl, rfl, rfl, rfl⟩

theorem May6_spec (xs : List Int) (hlx : xs.length ≤ 17592186044416) : Pu C 18 [.sl xs.length (ints xs)] (.int .i64 (mayP xs)) := by
  refine Fc.keep (Fc.bodyT mixed Try.func18 w18 rfl Try.ntmps18 Try.results18 (Nat.le_of_ble_eq_true rfl) ?_)
  (refine Go1.out ?_; repeat' ((with_reducible first | refine Go1.mk ?_ | ((first | refine Br.dec ?_ ?_ | refine Br.beq ?_ ?_ | refine Br.bne ?_ ?_ | refine Br.mk ?_ ?_) <;> intro h)) <;> try simp -implicitDefEqProofs (maxSteps := 9000000) (disch := first | omega | (simp only [List.length_set, List.length_append, List.length_cons, List.length_nil]; omega)) only [go_sem]))
  · skip
    (refine keepP (by intro g; simp only [go_sem, ren, renL]) ?_)
    congr 1; symm; rw [mayP, if_pos (by omega)]
  · skip
    refine TT_loop_inv (fun n ts H => ∃ i, (i ≤ xs.length) ∧ (∀ j, j < i → 1 ≤ xs.getD j 0) ∧ (n = xs.length - i) ∧ (H = []) ∧ ts.length = 39 ∧ nth ts 0 = .sl xs.length (ints xs) ∧ nth ts 3 = .int .i64 i) ?_ (n := xs.length) ?_
    · skip
      rintro n ts H ⟨i, hi, ha, hn, hH, hL, hs0, hs3⟩
      refine TT_env [(0, .sl xs.length (ints xs)), (3, .int .i64 i)] hL (by simp only [List.forall_mem_cons, hs0, hs3, true_and]; exact fun _ h => nomatch h) ?_
      clear hL hs0 hs3 ts
      refine TT_of mixed ?_
      subst hH hn
      (refine Go1.out ?_; repeat' ((with_reducible first | refine Go1.mk ?_ | ((first | refine Br.dec ?_ ?_ | refine Br.beq ?_ ?_ | refine Br.bne ?_ ?_ | refine Br.mk ?_ ?_) <;> intro h)) <;> try simp -implicitDefEqProofs (maxSteps := 9000000) (disch := first | omega | (simp only [List.length_set, List.length_append, List.length_cons, List.length_nil]; omega)) only [go_sem]))
      · skip
        (refine keepP (by intro g; simp only [go_sem, ren, renL]) ?_)
        congr 1; symm; rw [mayP, if_neg (by omega), if_neg]
        intro hall; have := all_getD.1 (by simpa using hall) i (by omega); omega
      · exact ⟨_, by omega, i + 1, by omega, allS ha (by omega), rfl, (by (repeat' apply And.intro) <;> (first | rfl | omega | (congr 1; omega) | assumption | (congr 1; assumption)))⟩
      · have hall : ∀ d ∈ xs, 1 ≤ d := all_getD.2 fun j hj => ha j (by omega)
        have hall' : xs.all (fun d => decide (1 ≤ d)) = true := by simpa using hall
        refine TT_loop_inv (fun n ts H => ∃ k, (k ≤ xs.length) ∧ (prodL (xs.take k) ≤ 1024) ∧ (n = xs.length - k) ∧ (H = []) ∧ ts.length = 39 ∧ nth ts 0 = .sl xs.length (ints xs) ∧ nth ts 4 = .int .i64 (prodL (xs.take k)) ∧ nth ts 5 = .int .i64 k) ?_ (n := xs.length) ?_
        · skip
          rintro n ts H ⟨k, hk, hm, hn, hH, hL, hs0, hs4, hs5⟩
          refine TT_env [(0, .sl xs.length (ints xs)), (4, .int .i64 (prodL (xs.take k))), (5, .int .i64 k)] hL (by simp only [List.forall_mem_cons, hs0, hs4, hs5, true_and]; exact fun _ h => nomatch h) ?_
          clear hL hs0 hs4 hs5 ts
          refine TT_of mixed ?_
          subst hH hn
          have hm1 := prodL_pos (l := xs.take k) fun d hd => hall d (List.mem_of_mem_take hd)
          by_cases hlt : k < xs.length
          · have hx1 := all_getD.1 hall k hlt
            have hle := getD_le_prodL hall hlt
            have hle2 := prodL_le hall (k + 1)
            rw [prodL_take hlt] at hle2
            by_cases h4 : 1024 < xs.getD k 0
            · skip
              (refine Go1.out ?_; repeat' ((with_reducible first | refine Go1.mk ?_ | ((first | refine Br.dec ?_ ?_ | refine Br.beq ?_ ?_ | refine Br.bne ?_ ?_ | refine Br.mk ?_ ?_) <;> intro h)) <;> try simp -implicitDefEqProofs (maxSteps := 9000000) (disch := first | omega | (simp only [List.length_set, List.length_append, List.length_cons, List.length_nil]; omega)) only [go_sem]))
              (refine keepP (by intro g; simp only [go_sem, ren, renL]) ?_)
              congr 1; symm; rw [mayP, if_neg (by omega), if_pos hall', if_pos (by omega)]
            · have hb : prodL (xs.take k) * xs.getD k 0 ≤ 1024 * 1024 := Int.mul_le_mul hm (by omega) (by omega) (by omega)
              have hb0 : 0 ≤ prodL (xs.take k) * xs.getD k 0 := Int.mul_nonneg (by omega) (by omega)
              (refine Go1.out ?_; repeat' ((with_reducible first | refine Go1.mk ?_ | ((first | refine Br.dec ?_ ?_ | refine Br.beq ?_ ?_ | refine Br.bne ?_ ?_ | refine Br.mk ?_ ?_) <;> intro h)) <;> try simp -implicitDefEqProofs (maxSteps := 9000000) (disch := first | omega | (simp only [List.length_set, List.length_append, List.length_cons, List.length_nil]; omega)) only [go_sem]))
              · skip
                (refine keepP (by intro g; simp only [go_sem, ren, renL]) ?_)
                congr 1; symm; rw [mayP, if_neg (by omega), if_pos hall', if_pos (by omega)]
              · exact ⟨_, by omega, k + 1, by omega, by rw [prodL_take hlt]; omega, rfl, by rw [prodL_take hlt], rfl⟩
          · have e : xs.take k = xs := List.take_of_length_le (by omega)
            rw [e] at hm
            (refine Go1.out ?_; repeat' ((with_reducible first | refine Go1.mk ?_ | ((first | refine Br.dec ?_ ?_ | refine Br.beq ?_ ?_ | refine Br.bne ?_ ?_ | refine Br.mk ?_ ?_) <;> intro h)) <;> try simp -implicitDefEqProofs (maxSteps := 9000000) (disch := first | omega | (simp only [List.length_set, List.length_append, List.length_cons, List.length_nil]; omega)) only [go_sem]))
            (refine keepP (by intro g; simp only [go_sem, ren, renL]) ?_)
            congr 1; symm; rw [mayP, if_neg (by omega), if_pos hall', if_neg (by omega)]
        · exact ⟨0, by omega, by simp [prodL], rfl, rfl, rfl, rfl, rfl, rfl⟩
    · exact ⟨0, by omega, fun j hj => by omega, rfl, rfl, rfl, rfl, rfl⟩

theorem Count6_spec (xs : List Int) (hlx : xs.length ≤ 17592186044416) : Pu C 19 [.sl xs.length (ints xs)] (.int .i64 (countP xs)) := by
  refine Fc.keep (Fc.bodyT mixed Try.func19 w19 rfl Try.ntmps19 Try.results19 (Nat.le_of_ble_eq_true rfl) ?_)
  (refine Go1.out ?_; repeat' ((with_reducible first | refine Go1.mk ?_ | ((first | refine Br.dec ?_ ?_ | refine Br.beq ?_ ?_ | refine Br.bne ?_ ?_ | refine Br.mk ?_ ?_) <;> intro h)) <;> try simp -implicitDefEqProofs (maxSteps := 9000000) (disch := first | omega | (simp only [List.length_set, List.length_append, List.length_cons, List.length_nil]; omega)) only [go_sem]))
  refine Fc.pure (May6_spec xs hlx) (by simp [cloL, clo, cloL_ints, cloL_intss]) (by intro g; simp only [go_sem, ren, renL]) ?_
  (refine Go1.out ?_; repeat' ((with_reducible first | refine Go1.mk ?_ | ((first | refine Br.dec ?_ ?_ | refine Br.beq ?_ ?_ | refine Br.bne ?_ ?_ | refine Br.mk ?_ ?_) <;> intro h)) <;> try simp -implicitDefEqProofs (maxSteps := 9000000) (disch := first | omega | (simp only [List.length_set, List.length_append, List.length_cons, List.length_nil]; omega)) only [go_sem]))
  · skip
    (refine keepP (by intro g; simp only [go_sem, ren, renL]) ?_)
    simp only [countP, if_neg h]
  · obtain ⟨h4, ha, hp⟩ := mayP_zero h
    refine TT_loop_inv (fun n ts H => ∃ k, (k ≤ xs.length) ∧ (n = xs.length - k) ∧ (H = []) ∧ ts.length = 21 ∧ nth ts 0 = .sl xs.length (ints xs) ∧ nth ts 3 = .int .i64 (prodL (xs.take k)) ∧ nth ts 4 = .int .i64 k) ?_ (n := xs.length) ?_
    · skip
      rintro n ts H ⟨k, hk, hn, hH, hL, hs0, hs3, hs4⟩
      refine TT_env [(0, .sl xs.length (ints xs)), (3, .int .i64 (prodL (xs.take k))), (4, .int .i64 k)] hL (by simp only [List.forall_mem_cons, hs0, hs3, hs4, true_and]; exact fun _ h => nomatch h) ?_
      clear hL hs0 hs3 hs4 ts
      refine TT_of mixed ?_
      subst hH hn
      by_cases hlt : k < xs.length
      · have hle2 := prodL_le ha (k + 1)
        have hp2 := prodL_pos (l := xs.take (k + 1)) fun d hd => ha d (List.mem_of_mem_take hd)
        rw [prodL_take hlt] at hle2 hp2
        (refine Go1.out ?_; repeat' ((with_reducible first | refine Go1.mk ?_ | ((first | refine Br.dec ?_ ?_ | refine Br.beq ?_ ?_ | refine Br.bne ?_ ?_ | refine Br.mk ?_ ?_) <;> intro h)) <;> try simp -implicitDefEqProofs (maxSteps := 9000000) (disch := first | omega | (simp only [List.length_set, List.length_append, List.length_cons, List.length_nil]; omega)) only [go_sem]))
        exact ⟨_, by omega, k + 1, by omega, rfl, by rw [prodL_take hlt], rfl⟩
      · have e : xs.take k = xs := List.take_of_length_le (by omega)
        (refine Go1.out ?_; repeat' ((with_reducible first | refine Go1.mk ?_ | ((first | refine Br.dec ?_ ?_ | refine Br.beq ?_ ?_ | refine Br.bne ?_ ?_ | refine Br.mk ?_ ?_) <;> intro h)) <;> try simp -implicitDefEqProofs (maxSteps := 9000000) (disch := first | omega | (simp only [List.length_set, List.length_append, List.length_cons, List.length_nil]; omega)) only [go_sem]))
        (refine keepP (by intro g; simp only [go_sem, ren, renL]) ?_)
        simp only [countP, if_pos h, e]
    · exact ⟨0, by omega, rfl, rfl, rfl, rfl, rfl, rfl⟩

theorem has_spec (xs : List Int) (m : Int) (hlx : xs.length ≤ 17592186044416) : Pu C 65 [.sl xs.length (ints xs), .int .i64 m] (.bool (xs.contains m)) := by
  refine Fc.keep (Fc.bodyT mixed Try.func65 w65 rfl Try.ntmps65 Try.results65 (Nat.le_of_ble_eq_true rfl) ?_)
  (refine Go1.out ?_; repeat' ((with_reducible first | refine Go1.mk ?_ | ((first | refine Br.dec ?_ ?_ | refine Br.beq ?_ ?_ | refine Br.bne ?_ ?_ | refine Br.mk ?_ ?_) <;> intro h)) <;> try simp -implicitDefEqProofs (maxSteps := 9000000) (disch := first | omega | (simp only [List.length_set, List.length_append, List.length_cons, List.length_nil]; omega)) only [go_sem]))
  refine TT_loop_inv (fun n ts H => ∃ i, (i ≤ xs.length) ∧ (∀ j, j < i → xs.getD j 0 ≠ m) ∧ (n = xs.length - i) ∧ (H = []) ∧ ts.length = 18 ∧ nth ts 0 = .sl xs.length (ints xs) ∧ nth ts 1 = .int .i64 m ∧ nth ts 5 = .int .i64 i) ?_ (n := xs.length) ?_
  · skip
    rintro n ts H ⟨i, hi, he, hn, hH, hL, hs0, hs1, hs5⟩
    refine TT_env [(0, .sl xs.length (ints xs)), (1, .int .i64 m), (5, .int .i64 i)] hL (by simp only [List.forall_mem_cons, hs0, hs1, hs5, true_and]; exact fun _ h => nomatch h) ?_
    clear hL hs0 hs1 hs5 ts
    refine TT_of mixed ?_
    subst hH hn
    (refine Go1.out ?_; repeat' ((with_reducible first | refine Go1.mk ?_ | ((first | refine Br.dec ?_ ?_ | refine Br.beq ?_ ?_ | refine Br.bne ?_ ?_ | refine Br.mk ?_ ?_) <;> intro h)) <;> try simp -implicitDefEqProofs (maxSteps := 9000000) (disch := first | omega | (simp only [List.length_set, List.length_append, List.length_cons, List.length_nil]; omega)) only [go_sem]))
    · skip
      (refine keepP (by intro g; simp only [go_sem, ren, renL]) ?_)
      congr 1; symm
      have e : xs.getD i 0 = xs[i]'(by omega) := by simp [List.getD, show i < xs.length by omega]
      rw [List.contains_iff_mem, ← h, e]; exact List.getElem_mem _
    · exact ⟨_, by omega, i + 1, by omega, allS he h, rfl, (by (repeat' apply And.intro) <;> (first | rfl | omega | (congr 1; omega) | assumption | (congr 1; assumption)))⟩
    · skip
      (refine keepP (by intro g; simp only [go_sem, ren, renL]) ?_)
      congr 1; symm
      have := (all_getD (xs := xs) (p := fun d => d ≠ m)).2 fun j hj => he j (by omega)
      simp; exact fun hm => this m hm rfl
  · exact ⟨0, by omega, fun j hj => by omega, rfl, rfl, rfl, rfl, rfl, rfl⟩
/-- Does a shape fit another one? (both may be) -/
def okB (f t : List Int) : Bool := decide (f.length ≤ t.length) && (List.range f.length).all fun i => decide (f.getD i 0 = 1) || decide (f.getD i 0 = t.getD (t.length - f.length + i) 0)
def fitsP (f t : List Int) : Int := if mayP f = 0 then (if mayP t = 0 then (if okB f t then 0 else 13) else mayP t) else mayP f
theorem okB_iff (f t : List Int) : okB f t = true ↔ f.length ≤ t.length ∧ ∀ i, i < f.length → (f.getD i 0 = 1 ∨ f.getD i 0 = t.getD (t.length - f.length + i) 0) := by
  simp only [okB, Bool.and_eq_true, decide_eq_true_eq, List.all_eq_true, List.mem_range, Bool.or_eq_true]
def dropP (xs axes : List Int) : Nat → List Int
  | 0 => []
  | i + 1 => dropP xs axes i ++ if axes.contains (i : Int) then [] else [xs.getD i 0]

theorem dropP_length (xs axes : List Int) : ∀ i, (dropP xs axes i).length ≤ i
  | 0 => by simp [dropP]
  | i + 1 => by
    have := dropP_length xs axes i
    simp only [dropP, List.length_append]
    split <;> simp <;> omega

theorem Back_in (xs : List Int) (k : Nat) (hk : 1 ≤ k) (hlx : xs.length ≤ 17592186044416) (h : k ≤ xs.length) : Pu C 64 [.sl xs.length (ints xs), .int .i64 k] (.int .i64 (xs.getD (xs.length - k) 0)) := by
  refine Fc.keep (Fc.bodyT mixed Try.func64 w64 rfl Try.ntmps64 Try.results64 (Nat.le_of_ble_eq_true rfl) ?_)
  (refine Go1.out ?_; repeat' ((with_reducible first | refine Go1.mk ?_ | ((first | refine Br.dec ?_ ?_ | refine Br.beq ?_ ?_ | refine Br.bne ?_ ?_ | refine Br.mk ?_ ?_) <;> intro h)) <;> try simp -implicitDefEqProofs (maxSteps := 9000000) (disch := first | omega | (simp only [List.length_set, List.length_append, List.length_cons, List.length_nil]; omega)) only [go_sem]))
  (refine keepP (by intro g; simp only [go_sem, ren, renL]) ?_)
  rfl
theorem Back_out (xs : List Int) (k : Nat) (hk : 1 ≤ k) (hlx : xs.length ≤ 17592186044416) (h : ¬ k ≤ xs.length) : Pu C 64 [.sl xs.length (ints xs), .int .i64 k] (.int .i64 0) := by
  refine Fc.keep (Fc.bodyT mixed Try.func64 w64 rfl Try.ntmps64 Try.results64 (Nat.le_of_ble_eq_true rfl) ?_)
  (refine Go1.out ?_; repeat' ((with_reducible first | refine Go1.mk ?_ | ((first | refine Br.dec ?_ ?_ | refine Br.beq ?_ ?_ | refine Br.bne ?_ ?_ | refine Br.mk ?_ ?_) <;> intro h)) <;> try simp -implicitDefEqProofs (maxSteps := 9000000) (disch := first | omega | (simp only [List.length_set, List.length_append, List.length_cons, List.length_nil]; omega)) only [go_sem]))
  (refine keepP (by intro g; simp only [go_sem, ren, renL]) ?_)
  rfl

theorem Fits6_spec (f t : List Int) (hf : f.length ≤ 17592186044416) (ht : t.length ≤ 17592186044416) : Pu C 50 [.sl f.length (ints f), .sl t.length (ints t)] (.int .i64 (fitsP f t)) := by
  refine Fc.keep (Fc.bodyT mixed Try.func50 w50 rfl Try.ntmps50 Try.results50 (Nat.le_of_ble_eq_true rfl) ?_)
  (refine Go1.out ?_; repeat' ((with_reducible first | refine Go1.mk ?_ | ((first | refine Br.dec ?_ ?_ | refine Br.beq ?_ ?_ | refine Br.bne ?_ ?_ | refine Br.mk ?_ ?_) <;> intro h)) <;> try simp -implicitDefEqProofs (maxSteps := 9000000) (disch := first | omega | (simp only [List.length_set, List.length_append, List.length_cons, List.length_nil]; omega)) only [go_sem]))
  refine Fc.pure (May6_spec f hf) (by simp [cloL, clo, cloL_ints, cloL_intss]) (by intro g; simp only [go_sem, ren, renL]) ?_
  (refine Go1.out ?_; repeat' ((with_reducible first | refine Go1.mk ?_ | ((first | refine Br.dec ?_ ?_ | refine Br.beq ?_ ?_ | refine Br.bne ?_ ?_ | refine Br.mk ?_ ?_) <;> intro h)) <;> try simp -implicitDefEqProofs (maxSteps := 9000000) (disch := first | omega | (simp only [List.length_set, List.length_append, List.length_cons, List.length_nil]; omega)) only [go_sem]))
  · skip
    (refine keepP (by intro g; simp only [go_sem, ren, renL]) ?_)
    simp only [fitsP, if_neg h]
  have h1 := h; clear h
  refine Fc.pure (May6_spec t ht) (by simp [cloL, clo, cloL_ints, cloL_intss]) (by intro g; simp only [go_sem, ren, renL]) ?_
  (refine Go1.out ?_; repeat' ((with_reducible first | refine Go1.mk ?_ | ((first | refine Br.dec ?_ ?_ | refine Br.beq ?_ ?_ | refine Br.bne ?_ ?_ | refine Br.mk ?_ ?_) <;> intro h)) <;> try simp -implicitDefEqProofs (maxSteps := 9000000) (disch := first | omega | (simp only [List.length_set, List.length_append, List.length_cons, List.length_nil]; omega)) only [go_sem]))
  · skip
    (refine keepP (by intro g; simp only [go_sem, ren, renL]) ?_)
    simp only [fitsP, if_pos h1, if_neg h]
  have h2 := h; clear h
  have hp : fitsP f t = if okB f t then 0 else 13 := by simp only [fitsP, if_pos h1, if_pos h2]
  obtain ⟨hf4, hf1, _⟩ := mayP_zero h1
  obtain ⟨ht4, ht1, _⟩ := mayP_zero h2
  have hin := all_getD.1 ht1
  refine TT_loop_inv (fun n ts H => ∃ k, (1 ≤ k) ∧ (k ≤ f.length + 1) ∧ (∀ j, j < k - 1 → j + 1 ≤ t.length ∧ (f.getD (f.length - (j + 1)) 0 = 1 ∨ f.getD (f.length - (j + 1)) 0 = t.getD (t.length - (j + 1)) 0)) ∧ (n = f.length + 1 - k) ∧ (H = []) ∧ ts.length = 43 ∧ nth ts 0 = .sl f.length (ints f) ∧ nth ts 1 = .sl t.length (ints t) ∧ nth ts 7 = .int .i64 k) ?_ (n := f.length) ?_
  · skip
    rintro n ts H ⟨k, hk, hk2, ha, hn, hH, hL, hs0, hs1, hs7⟩
    refine TT_env [(0, .sl f.length (ints f)), (1, .sl t.length (ints t)), (7, .int .i64 k)] hL (by simp only [List.forall_mem_cons, hs0, hs1, hs7, true_and]; exact fun _ h => nomatch h) ?_
    clear hL hs0 hs1 hs7 ts
    refine TT_of mixed ?_
    subst hH hn
    have bad : k ≤ f.length → ¬ (k ≤ t.length ∧ (f.getD (f.length - k) 0 = 1 ∨ f.getD (f.length - k) 0 = t.getD (t.length - k) 0)) → fitsP f t = 13 := by
      intro hlt hb
      rw [hp, if_neg]
      intro hok
      obtain ⟨h1, h2⟩ := (okB_iff f t).1 hok
      have := h2 (f.length - k) (by omega)
      rw [show t.length - f.length + (f.length - k) = t.length - k by omega] at this
      exact hb ⟨by omega, this⟩
    have next : (k ≤ t.length ∧ (f.getD (f.length - k) 0 = 1 ∨ f.getD (f.length - k) 0 = t.getD (t.length - k) 0)) → ∀ j, j < k + 1 - 1 → j + 1 ≤ t.length ∧ (f.getD (f.length - (j + 1)) 0 = 1 ∨ f.getD (f.length - (j + 1)) 0 = t.getD (t.length - (j + 1)) 0) := by
      intro hg j h2
      by_cases e : j + 1 = k
      · subst e; exact hg
      · exact ha j (by omega)
    (refine Go1.out ?_; repeat' ((with_reducible first | refine Go1.mk ?_ | ((first | refine Br.dec ?_ ?_ | refine Br.beq ?_ ?_ | refine Br.bne ?_ ?_ | refine Br.mk ?_ ?_) <;> intro h)) <;> try simp -implicitDefEqProofs (maxSteps := 9000000) (disch := first | omega | (simp only [List.length_set, List.length_append, List.length_cons, List.length_nil]; omega)) only [go_sem]))
    · by_cases hkt : k ≤ t.length
      · skip
        refine Fc.pure (Back_in t k hk ht hkt) (by simp [cloL, clo, cloL_ints, cloL_intss]) (by intro g; simp only [go_sem, ren, renL]) ?_
        have g1 := hin (t.length - k) (by omega)
        (refine Go1.out ?_; repeat' ((with_reducible first | refine Go1.mk ?_ | ((first | refine Br.dec ?_ ?_ | refine Br.beq ?_ ?_ | refine Br.bne ?_ ?_ | refine Br.mk ?_ ?_) <;> intro h)) <;> try simp -implicitDefEqProofs (maxSteps := 9000000) (disch := first | omega | (simp only [List.length_set, List.length_append, List.length_cons, List.length_nil]; omega)) only [go_sem]))
        refine Fc.pure (Back_in f k hk hf (by omega)) (by simp [cloL, clo, cloL_ints, cloL_intss]) (by intro g; simp only [go_sem, ren, renL]) ?_
        (refine Go1.out ?_; repeat' ((with_reducible first | refine Go1.mk ?_ | ((first | refine Br.dec ?_ ?_ | refine Br.beq ?_ ?_ | refine Br.bne ?_ ?_ | refine Br.mk ?_ ?_) <;> intro h)) <;> try simp -implicitDefEqProofs (maxSteps := 9000000) (disch := first | omega | (simp only [List.length_set, List.length_append, List.length_cons, List.length_nil]; omega)) only [go_sem]))
        · skip
          refine Fc.pure (Back_in f k hk hf (by omega)) (by simp [cloL, clo, cloL_ints, cloL_intss]) (by intro g; simp only [go_sem, ren, renL]) ?_
          (refine Go1.out ?_; repeat' ((with_reducible first | refine Go1.mk ?_ | ((first | refine Br.dec ?_ ?_ | refine Br.beq ?_ ?_ | refine Br.bne ?_ ?_ | refine Br.mk ?_ ?_) <;> intro h)) <;> try simp -implicitDefEqProofs (maxSteps := 9000000) (disch := first | omega | (simp only [List.length_set, List.length_append, List.length_cons, List.length_nil]; omega)) only [go_sem]))
          refine Fc.pure (Back_in t k hk ht hkt) (by simp [cloL, clo, cloL_ints, cloL_intss]) (by intro g; simp only [go_sem, ren, renL]) ?_
          (refine Go1.out ?_; repeat' ((with_reducible first | refine Go1.mk ?_ | ((first | refine Br.dec ?_ ?_ | refine Br.beq ?_ ?_ | refine Br.bne ?_ ?_ | refine Br.mk ?_ ?_) <;> intro h)) <;> try simp -implicitDefEqProofs (maxSteps := 9000000) (disch := first | omega | (simp only [List.length_set, List.length_append, List.length_cons, List.length_nil]; omega)) only [go_sem]))
          · skip
            (refine keepP (by intro g; simp only [go_sem, ren, renL]) ?_)
            rw [bad (by omega) (by omega)]
          · exact ⟨_, by omega, k + 1, by omega, by omega, next (by omega), rfl, (by (repeat' apply And.intro) <;> (first | rfl | omega | (congr 1; omega) | assumption | (congr 1; assumption)))⟩
        · exact ⟨_, by omega, k + 1, by omega, by omega, next (by omega), rfl, (by (repeat' apply And.intro) <;> (first | rfl | omega | (congr 1; omega) | assumption | (congr 1; assumption)))⟩
      · skip
        refine Fc.pure (Back_out t k hk ht hkt) (by simp [cloL, clo, cloL_ints, cloL_intss]) (by intro g; simp only [go_sem, ren, renL]) ?_
        (refine Go1.out ?_; repeat' ((with_reducible first | refine Go1.mk ?_ | ((first | refine Br.dec ?_ ?_ | refine Br.beq ?_ ?_ | refine Br.bne ?_ ?_ | refine Br.mk ?_ ?_) <;> intro h)) <;> try simp -implicitDefEqProofs (maxSteps := 9000000) (disch := first | omega | (simp only [List.length_set, List.length_append, List.length_cons, List.length_nil]; omega)) only [go_sem]))
        (refine keepP (by intro g; simp only [go_sem, ren, renL]) ?_)
        rw [bad (by omega) (fun hb => hkt hb.1)]
    · skip
      (refine keepP (by intro g; simp only [go_sem, ren, renL]) ?_)
      rw [hp, if_pos]
      have hle : f.length ≤ t.length := by
        by_cases e : f.length = 0
        · omega
        · have := (ha (f.length - 1) (by omega)).1; omega
      refine (okB_iff f t).2 ⟨hle, fun i hi => ?_⟩
      have := (ha (f.length - i - 1) (by omega))
      rw [show f.length - i - 1 + 1 = f.length - i by omega, show f.length - (f.length - i) = i by omega, show t.length - (f.length - i) = t.length - f.length + i by omega] at this
      exact this.2
  · exact ⟨1, by omega, by omega, fun j h2 => by omega, by omega, rfl, rfl, rfl, rfl, rfl⟩

theorem Drop6_spec (xs axes : List Int) (hx : xs.length ≤ 17592186044416) (ha : axes.length ≤ 17592186044416) : Fc C 51 [.sl xs.length (ints xs), .sl axes.length (ints axes)] [] (fun v H => Ret 3 1 H v (dropP xs axes xs.length).length (ints (dropP xs axes xs.length))) := by
  refine Fc.keep (Fc.bodyT mixed Try.func51 w51 rfl Try.ntmps51 Try.results51 (Nat.le_of_ble_eq_true rfl) ?_)
  (refine Go1.out ?_; repeat' ((with_reducible first | refine Go1.mk ?_ | ((first | refine Br.dec ?_ ?_ | refine Br.beq ?_ ?_ | refine Br.bne ?_ ?_ | refine Br.mk ?_ ?_) <;> intro h)) <;> try simp -implicitDefEqProofs (maxSteps := 9000000) (disch := first | omega | (simp only [List.length_set, List.length_append, List.length_cons, List.length_nil]; omega)) only [go_sem]))
  refine TT_loop_inv (fun n ts H => ∃ i u, (i ≤ xs.length) ∧ (n = xs.length - i) ∧ (Bv.Own 3 1 H u (dropP xs axes i).length (ints (dropP xs axes i))) ∧ ts.length = 25 ∧ nth ts 0 = .sl xs.length (ints xs) ∧ nth ts 1 = .sl axes.length (ints axes) ∧ nth ts 5 = u ∧ nth ts 6 = .int .i64 i) ?_ (n := xs.length) ?_
  · skip
    rintro n ts H ⟨i, u, hi, hn, hu, hL, hs0, hs1, hs5, hs6⟩
    refine TT_env [(0, .sl xs.length (ints xs)), (1, .sl axes.length (ints axes)), (5, u), (6, .int .i64 i)] hL (by simp only [List.forall_mem_cons, hs0, hs1, hs5, hs6, true_and]; exact fun _ h => nomatch h) ?_
    clear hL hs0 hs1 hs5 hs6 ts
    refine TT_of mixed ?_
    subst hn
    (refine Go1.out ?_; repeat' ((with_reducible first | refine Go1.mk ?_ | ((first | refine Br.dec ?_ ?_ | refine Br.beq ?_ ?_ | refine Br.bne ?_ ?_ | refine Br.mk ?_ ?_) <;> intro h)) <;> try simp -implicitDefEqProofs (maxSteps := 9000000) (disch := first | omega | (simp only [List.length_set, List.length_append, List.length_cons, List.length_nil]; omega)) only [go_sem]))
    · skip
      refine Fc.pure (has_spec axes i ha) (by simp [cloL, clo, cloL_ints, cloL_intss]) (by intro g; simp only [go_sem, ren, renL]) ?_
      (refine Go1.out ?_; repeat' ((with_reducible first | refine Go1.mk ?_ | ((first | refine Br.dec ?_ ?_ | refine Br.beq ?_ ?_ | refine Br.bne ?_ ?_ | refine Br.mk ?_ ?_) <;> intro h)) <;> try simp -implicitDefEqProofs (maxSteps := 9000000) (disch := first | omega | (simp only [List.length_set, List.length_append, List.length_cons, List.length_nil]; omega)) only [go_sem]))
      · have hc := h
        exact ⟨_, by omega, i + 1, _, by omega, rfl, by simpa only [dropP, hc, if_true, List.append_nil] using hu, (by (repeat' apply And.intro) <;> (first | rfl | omega | (congr 1; omega) | assumption | (congr 1; assumption)))⟩
      · have hc := h
        have hle : (dropP xs axes i).length ≤ i := dropP_length xs axes i
        refine app_int hu rfl ⟨by decide, by decide⟩ (by omega) fun v' H' hu' _ => ?_
        (refine Go1.out ?_; repeat' ((with_reducible first | refine Go1.mk ?_ | ((first | refine Br.dec ?_ ?_ | refine Br.beq ?_ ?_ | refine Br.bne ?_ ?_ | refine Br.mk ?_ ?_) <;> intro h)) <;> try simp -implicitDefEqProofs (maxSteps := 9000000) (disch := first | omega | (simp only [List.length_set, List.length_append, List.length_cons, List.length_nil]; omega)) only [go_sem]))
        exact ⟨_, by omega, i + 1, v', by omega, rfl, by simpa only [dropP, hc, Bool.false_eq_true, if_false] using hu', (by (repeat' apply And.intro) <;> (first | rfl | omega | (congr 1; omega) | assumption | (congr 1; assumption)))⟩
    · obtain rfl : i = xs.length := by omega
      exact hu.ret (fun g => renL_ints g _) fun v H h => h
  · exact ⟨0, .nil, by omega, rfl, .nil .., rfl, rfl, rfl, rfl, rfl⟩
end Go.Proofs.Ytlomgfdepllanaa
end

section
set_option linter.unusedSimpArgs false
set_option linter.unusedVariables false
set_option maxRecDepth 100000
set_option pp.maxSteps 1500
set_option maxHeartbeats 4000000
namespace Go.Proofs.Ytlomgfdepllanaa
open Go.Bv

/-- Is an op in a version? -/
def inP (o v : Int) : Bool := decide (1 ≤ o ∧ o ≤ 20 ∧ 1 ≤ v ∧ v ≤ 3 ∧ (o = 18 → v = 1) ∧ (o = 19 ∨ o = 20 → v < 3) ∧ (o = 8 ∨ o = 9 → v = 3))
def least (o : Int) : Int := if o = 1 ∨ o = 2 ∨ o = 3 ∨ o = 4 ∨ o = 10 then 2 else if o = 19 then 3 else if o = 17 then 1 else if o < 1 ∨ o > 20 then 0 else 1
def most (o : Int) : Int := if o = 17 then 8 else least o
def noneP (v o : Int) : Bool := decide (((o = 6 ∨ o = 11 ∨ o = 17) ∧ v = 1) ∨ ((o = 14 ∨ o = 20) ∧ v < 3))

theorem In_spec (o v : Int) : Pu C 15 [.int .i64 o, .int .i64 v] (.bool (inP o v)) := by
  refine Fc.keep (Fc.bodyT mixed Try.func15 w15 rfl Try.ntmps15 Try.results15 (Nat.le_of_ble_eq_true rfl) ?_)
  (refine Go1.out ?_; repeat' ((with_reducible first | refine Go1.mk ?_ | ((first | refine Br.dec ?_ ?_ | refine Br.beq ?_ ?_ | refine Br.bne ?_ ?_ | refine Br.mk ?_ ?_) <;> intro h)) <;> try simp -implicitDefEqProofs (maxSteps := 9000000) (disch := first | omega | (simp only [List.length_set, List.length_append, List.length_cons, List.length_nil]; omega)) only [go_sem]))
  all_goals (refine keepP (by intro g; simp only [go_sem, ren, renL]) ?_)
  all_goals (simp only [V.tup.injEq, List.cons.injEq, V.int.injEq, V.bool.injEq, true_and, and_true]; (try rw [Bool.eq_iff_iff]); (try simp only [inP, decide_eq_true_eq, decide_eq_false_iff_not, Decidable.not_not, true_and, and_true, Bool.not_eq_true, Bool.not_eq_eq_eq_not, Bool.not_true, Bool.and_eq_true, Bool.or_eq_true, beq_iff_eq, bne_iff_ne, ne_eq, Bool.false_eq_true, false_iff, true_iff, iff_false, iff_true]); (try omega))

theorem Arity_spec (o : Int) : Pu C 27 [.int .i64 o] (.tup [.int .i64 (least o), .int .i64 (most o)]) := by
  refine Fc.keep (Fc.bodyT mixed Try.func27 w27 rfl Try.ntmps27 Try.results27 (Nat.le_of_ble_eq_true rfl) ?_)
  (refine Go1.out ?_; repeat' ((with_reducible first | refine Go1.mk ?_ | ((first | refine Br.dec ?_ ?_ | refine Br.beq ?_ ?_ | refine Br.bne ?_ ?_ | refine Br.mk ?_ ?_) <;> intro h)) <;> try simp -implicitDefEqProofs (maxSteps := 9000000) (disch := first | omega | (simp only [List.length_set, List.length_append, List.length_cons, List.length_nil]; omega)) only [go_sem]))
  all_goals (refine keepP (by intro g; simp only [go_sem, ren, renL]) ?_)
  all_goals (simp only [V.tup.injEq, List.cons.injEq, V.int.injEq, V.bool.injEq, true_and, and_true]; (try rw [Bool.eq_iff_iff]); (try simp only [most, least, decide_eq_true_eq, decide_eq_false_iff_not, Decidable.not_not, true_and, and_true, Bool.not_eq_true, Bool.not_eq_eq_eq_not, Bool.not_true, Bool.and_eq_true, Bool.or_eq_true, beq_iff_eq, bne_iff_ne, ne_eq, Bool.false_eq_true, false_iff, true_iff, iff_false, iff_true]); (try omega))

theorem None_spec (v o : Int) : Pu C 17 [.int .i64 v, .int .i64 o] (.bool (noneP v o)) := by
  refine Fc.keep (Fc.bodyT mixed Try.func17 w17 rfl Try.ntmps17 Try.results17 (Nat.le_of_ble_eq_true rfl) ?_)
  (refine Go1.out ?_; repeat' ((with_reducible first | refine Go1.mk ?_ | ((first | refine Br.dec ?_ ?_ | refine Br.beq ?_ ?_ | refine Br.bne ?_ ?_ | refine Br.mk ?_ ?_) <;> intro h)) <;> try simp -implicitDefEqProofs (maxSteps := 9000000) (disch := first | omega | (simp only [List.length_set, List.length_append, List.length_cons, List.length_nil]; omega)) only [go_sem]))
  all_goals (refine keepP (by intro g; simp only [go_sem, ren, renL]) ?_)
  all_goals (simp only [V.tup.injEq, List.cons.injEq, V.int.injEq, V.bool.injEq, true_and, and_true]; (try rw [Bool.eq_iff_iff]); (try simp only [noneP, decide_eq_true_eq, decide_eq_false_iff_not, Decidable.not_not, true_and, and_true, Bool.not_eq_true, Bool.not_eq_eq_eq_not, Bool.not_true, Bool.and_eq_true, Bool.or_eq_true, beq_iff_eq, bne_iff_ne, ne_eq, Bool.false_eq_true, false_iff, true_iff, iff_false, iff_true]); (try omega))
end Go.Proofs.Ytlomgfdepllanaa
end

section
set_option linter.unusedSimpArgs false
set_option linter.unusedVariables false
set_option maxRecDepth 100000
set_option pp.maxSteps 1500
set_option maxHeartbeats 4000000
namespace Go.Proofs.Ytlomgfdepllanaa
open Go.Bv
def permB (l : List Int) : Bool := (List.range l.length).all fun i => decide (0 ≤ l.getD i 0 ∧ l.getD i 0 < l.length) && (List.range i).all fun k => decide (l.getD k 0 ≠ l.getD i 0)
def riseB (l : List Int) : Bool := (List.range l.length).all fun i => decide (0 ≤ l.getD i 0 ∧ l.getD i 0 ≤ 3 ∧ (0 < i → l.getD (i - 1) 0 < l.getD i 0))
def pairB (cut : Bool) (l : List Int) : Bool := decide (l.length % 2 = 0 ∧ l.length ≤ 8) && (List.range (l.length / 2)).all fun i => decide (0 ≤ l.getD (2 * i) 0 ∧ 0 ≤ l.getD (2 * i + 1) 0 ∧ (cut = true → l.getD (2 * i) 0 < l.getD (2 * i + 1) 0))
def farB (l : List Int) : Bool := l.any fun x => decide (x > 2147483647 ∨ x < -2147483647)
def opAttrs (o : Int) (l : List Int) : Bool :=
  if o = 6 then decide (l.length = 1 ∧ 0 ≤ l.getD 0 0 ∧ l.getD 0 0 ≤ 16)
  else if o = 9 then decide (l.length = 2 ∧ 1 ≤ l.getD 1 0 ∧ Nat.gcd (l.getD 0 0).natAbs (l.getD 1 0).natAbs = 1)
  else if o = 11 then permB l && decide (l.length ≤ 4)
  else if o = 12 ∨ o = 13 then decide (mayP l = 0)
  else if o = 14 ∨ o = 20 then riseB l
  else if o = 15 ∨ o = 16 then pairB (decide (o = 15)) l
  else if o = 17 then decide (l.length = 1 ∧ 0 ≤ l.getD 0 0 ∧ l.getD 0 0 ≤ 3)
  else decide (l.length = 0)
def attrsP (o : Int) (l : List Int) : Bool := !farB l && opAttrs o l

theorem farB_false {l : List Int} (h : farB l = false) {i : Nat} (hi : i < l.length) : -2147483647 ≤ l.getD i 0 ∧ l.getD i 0 ≤ 2147483647 := by
  have e : l.getD i 0 = l[i] := by simp [List.getD, hi]
  simp only [farB, List.any_eq_false, decide_eq_true_eq] at h
  have := h _ (List.getElem_mem hi)
  rw [e]; omega

def permAt (l : List Int) (i : Nat) : Prop := 0 ≤ l.getD i 0 ∧ l.getD i 0 < l.length ∧ ∀ k, k < i → l.getD k 0 ≠ l.getD i 0
theorem permB_iff (l : List Int) : permB l = true ↔ ∀ i, i < l.length → permAt l i := by
  simp only [permB, permAt, List.all_eq_true, List.mem_range, Bool.and_eq_true, decide_eq_true_eq, and_assoc]
def riseAt (l : List Int) (i : Nat) : Prop := 0 ≤ l.getD i 0 ∧ l.getD i 0 ≤ 3 ∧ (0 < i → l.getD (i - 1) 0 < l.getD i 0)
theorem riseB_iff (l : List Int) : riseB l = true ↔ ∀ i, i < l.length → riseAt l i := by
  simp only [riseB, riseAt, List.all_eq_true, List.mem_range, decide_eq_true_eq]


theorem divisor_spec (p q : Int) (hp0 : -2147483647 ≤ p) (hp : p ≤ 2147483647) (hq0 : 1 ≤ q) (hq : q ≤ 2147483647) : Pu C 55 [.int .i64 p, .int .i64 q] (.bool (decide (Nat.gcd p.natAbs q.natAbs ≠ 1))) := by
  refine Fc.keep (Fc.bodyT mixed Try.func55 w55 rfl Try.ntmps55 Try.results55 (Nat.le_of_ble_eq_true rfl) ?_)
  (refine Go1.out ?_; repeat' ((with_reducible first | refine Go1.mk ?_ | ((first | refine Br.dec ?_ ?_ | refine Br.beq ?_ ?_ | refine Br.bne ?_ ?_ | refine Br.mk ?_ ?_) <;> intro h)) <;> try simp -implicitDefEqProofs (maxSteps := 9000000) (disch := first | omega | (simp only [List.length_set, List.length_append, List.length_cons, List.length_nil]; omega)) only [go_sem]))
  all_goals
    refine TT_loop_inv (fun n ts H => ∃ a b, (a ≤ 2147483647) ∧ (b ≤ 2147483647) ∧ (Nat.gcd a b = Nat.gcd p.natAbs q.natAbs) ∧ (n = b) ∧ (H = []) ∧ ts.length = 17 ∧ nth ts 0 = .int .i64 (a : Nat) ∧ nth ts 1 = .int .i64 (b : Nat)) ?_ (n := q.natAbs) ?_
    · skip
      rintro n ts H ⟨a, b, ha, hb, hg, hn, hH, hL, hs0, hs1⟩
      refine TT_env [(0, .int .i64 (a : Nat)), (1, .int .i64 (b : Nat))] hL (by simp only [List.forall_mem_cons, hs0, hs1, true_and]; exact fun _ h => nomatch h) ?_
      clear hL hs0 hs1 ts
      refine TT_of mixed ?_
      subst hH hn
      (refine Go1.out ?_; repeat' ((with_reducible first | refine Go1.mk ?_ | ((first | refine Br.dec ?_ ?_ | refine Br.beq ?_ ?_ | refine Br.bne ?_ ?_ | refine Br.mk ?_ ?_) <;> intro h)) <;> try simp -implicitDefEqProofs (maxSteps := 9000000) (disch := first | omega | (simp only [List.length_set, List.length_append, List.length_cons, List.length_nil]; omega)) only [go_sem]))
      · have e1 : (a : Int) % (n : Int) = ((a % n : Nat) : Int) := by simp
        have hm : a % n < n := Nat.mod_lt _ (by omega)
        exact ⟨_, hm, n, a % n, hb, by omega, by rw [Nat.gcd_comm, ← hg, Nat.gcd_comm a n, Nat.gcd_rec n a], rfl, rfl, by rw [e1]⟩
      · obtain rfl : n = 0 := by omega
        rw [Nat.gcd_zero_right] at hg
        (refine keepP (by intro g; simp only [go_sem, ren, renL]) ?_)
        simp only [← hg]
        (simp only [V.tup.injEq, List.cons.injEq, V.int.injEq, V.bool.injEq, true_and, and_true]; (try rw [Bool.eq_iff_iff]); (try simp only [decide_eq_true_eq, decide_eq_false_iff_not, Decidable.not_not, true_and, and_true, Bool.not_eq_true, Bool.not_eq_eq_eq_not, Bool.not_true, Bool.and_eq_true, Bool.or_eq_true, beq_iff_eq, bne_iff_ne, ne_eq, Bool.false_eq_true, false_iff, true_iff, iff_false, iff_true]); (try omega))
    · exact ⟨p.natAbs, q.natAbs, by omega, by omega, rfl, rfl, rfl, rfl, by simp -implicitDefEqProofs (maxSteps := 9000000) (disch := first | omega | (simp only [List.length_set, List.length_append, List.length_cons, List.length_nil]; omega)) only [go_sem]; congr 1; omega, by simp -implicitDefEqProofs (maxSteps := 9000000) (disch := first | omega | (simp only [List.length_set, List.length_append, List.length_cons, List.length_nil]; omega)) only [go_sem]; congr 1; omega⟩
theorem permB_of {l : List Int} {i : Nat} (hi : i < l.length) (h : ¬ permAt l i) : permB l = false := by
  cases hx : permB l with
  | false => rfl
  | true => exact (h ((permB_iff l).1 hx i hi)).elim
theorem riseB_of {l : List Int} {i : Nat} (hi : i < l.length) (h : ¬ riseAt l i) : riseB l = false := by
  cases hx : riseB l with
  | false => rfl
  | true => exact (h ((riseB_iff l).1 hx i hi)).elim
def pairAt (cut : Bool) (l : List Int) (i : Nat) : Prop := 0 ≤ l.getD (2 * i) 0 ∧ 0 ≤ l.getD (2 * i + 1) 0 ∧ (cut = true → l.getD (2 * i) 0 < l.getD (2 * i + 1) 0)
theorem pairB_iff (cut : Bool) (l : List Int) : pairB cut l = true ↔ l.length % 2 = 0 ∧ l.length ≤ 8 ∧ ∀ i, i < l.length / 2 → pairAt cut l i := by
  simp only [pairB, pairAt, List.all_eq_true, List.mem_range, Bool.and_eq_true, decide_eq_true_eq, and_assoc]
theorem pairB_of {cut : Bool} {l : List Int} (h : ¬ (l.length % 2 = 0 ∧ l.length ≤ 8 ∧ ∀ i, i < l.length / 2 → pairAt cut l i)) : pairB cut l = false := by
  cases hx : pairB cut l with
  | false => rfl
  | true => exact (h ((pairB_iff cut l).1 hx)).elim

theorem attrs_spec (o : Int) (l : List Int) (hl : l.length ≤ 17592186044416) : Pu C 28 [.int .i64 o, .sl l.length (ints l)] (.bool (attrsP o l)) := by
  refine Fc.keep (Fc.bodyT mixed Try.func28 w28 rfl Try.ntmps28 Try.results28 (Nat.le_of_ble_eq_true rfl) ?_)
  (refine Go1.out ?_; repeat' ((with_reducible first | refine Go1.mk ?_ | ((first | refine Br.dec ?_ ?_ | refine Br.beq ?_ ?_ | refine Br.bne ?_ ?_ | refine Br.mk ?_ ?_) <;> intro h)) <;> try simp -implicitDefEqProofs (maxSteps := 9000000) (disch := first | omega | (simp only [List.length_set, List.length_append, List.length_cons, List.length_nil]; omega)) only [go_sem]))
  refine TT_loop_inv (fun n ts H => ∃ i, (i ≤ l.length) ∧ (∀ j, j < i → -2147483647 ≤ l.getD j 0 ∧ l.getD j 0 ≤ 2147483647) ∧ (n = l.length - i) ∧ (H = []) ∧ ts.length = 216 ∧ nth ts 0 = .int .i64 o ∧ nth ts 1 = .sl l.length (ints l) ∧ nth ts 5 = .int .i64 i) ?_ (n := l.length) ?_
  · skip
    rintro n ts H ⟨i, hi, hf, hn, hH, hL, hs0, hs1, hs5⟩
    refine TT_env [(0, .int .i64 o), (1, .sl l.length (ints l)), (5, .int .i64 i)] hL (by simp only [List.forall_mem_cons, hs0, hs1, hs5, true_and]; exact fun _ h => nomatch h) ?_
    clear hL hs0 hs1 hs5 ts
    refine TT_of mixed ?_
    subst hH hn
    by_cases hlt : i < l.length
    · have bad : ¬ (-2147483647 ≤ l.getD i 0 ∧ l.getD i 0 ≤ 2147483647) → attrsP o l = false := by
        intro hb
        have : farB l = true := by
          cases hx : farB l with
          | true => rfl
          | false => exact (hb (farB_false hx hlt)).elim
        simp [attrsP, this]
      (refine Go1.out ?_; repeat' ((with_reducible first | refine Go1.mk ?_ | ((first | refine Br.dec ?_ ?_ | refine Br.beq ?_ ?_ | refine Br.bne ?_ ?_ | refine Br.mk ?_ ?_) <;> intro h)) <;> try simp -implicitDefEqProofs (maxSteps := 9000000) (disch := first | omega | (simp only [List.length_set, List.length_append, List.length_cons, List.length_nil]; omega)) only [go_sem]))
      · skip
        (refine keepP (by intro g; simp only [go_sem, ren, renL]) ?_)
        rw [bad (by omega)]
      · skip
        (refine keepP (by intro g; simp only [go_sem, ren, renL]) ?_)
        rw [bad (by omega)]
      · exact ⟨_, by omega, i + 1, by omega, allS hf (by omega), rfl, (by (repeat' apply And.intro) <;> (first | rfl | omega | (congr 1; omega) | assumption | (congr 1; assumption)))⟩
    · obtain rfl : i = l.length := by omega
      have hfar : farB l = false := by
        simp only [farB, List.any_eq_false, decide_eq_true_eq]
        have := all_getD (xs := l) (p := fun x => ¬ (x > 2147483647 ∨ x < -2147483647))
        exact this.2 fun j hj => by have := hf j hj; omega
      have ea : attrsP o l = opAttrs o l := by simp only [attrsP, hfar, Bool.not_false, Bool.true_and]
      rw [ea]; clear ea
      (refine Go1.out ?_; repeat' ((with_reducible first | refine Go1.mk ?_ | ((first | refine Br.dec ?_ ?_ | refine Br.beq ?_ ?_ | refine Br.bne ?_ ?_ | refine Br.mk ?_ ?_) <;> intro h)) <;> try simp -implicitDefEqProofs (maxSteps := 9000000) (disch := first | omega | (simp only [List.length_set, List.length_append, List.length_cons, List.length_nil]; omega)) only [go_sem]))
      · skip
        (refine keepP (by intro g; simp only [go_sem, ren, renL]) ?_)
        obtain rfl : o = 6 := by omega
        rw [show opAttrs 6 l = decide (l.length = 1 ∧ 0 ≤ l.getD 0 0 ∧ l.getD 0 0 ≤ 16) from rfl]
        (simp only [V.tup.injEq, List.cons.injEq, V.int.injEq, V.bool.injEq, true_and, and_true]; (try rw [Bool.eq_iff_iff]); (try simp only [decide_eq_true_eq, decide_eq_false_iff_not, Decidable.not_not, true_and, and_true, Bool.not_eq_true, Bool.not_eq_eq_eq_not, Bool.not_true, Bool.and_eq_true, Bool.or_eq_true, beq_iff_eq, bne_iff_ne, ne_eq, Bool.false_eq_true, false_iff, true_iff, iff_false, iff_true]); (try omega))
      · skip
        (refine keepP (by intro g; simp only [go_sem, ren, renL]) ?_)
        obtain rfl : o = 6 := by omega
        rw [show opAttrs 6 l = decide (l.length = 1 ∧ 0 ≤ l.getD 0 0 ∧ l.getD 0 0 ≤ 16) from rfl]
        (simp only [V.tup.injEq, List.cons.injEq, V.int.injEq, V.bool.injEq, true_and, and_true]; (try rw [Bool.eq_iff_iff]); (try simp only [decide_eq_true_eq, decide_eq_false_iff_not, Decidable.not_not, true_and, and_true, Bool.not_eq_true, Bool.not_eq_eq_eq_not, Bool.not_true, Bool.and_eq_true, Bool.or_eq_true, beq_iff_eq, bne_iff_ne, ne_eq, Bool.false_eq_true, false_iff, true_iff, iff_false, iff_true]); (try omega))
      · skip
        (refine keepP (by intro g; simp only [go_sem, ren, renL]) ?_)
        obtain rfl : o = 6 := by omega
        rw [show opAttrs 6 l = decide (l.length = 1 ∧ 0 ≤ l.getD 0 0 ∧ l.getD 0 0 ≤ 16) from rfl]
        (simp only [V.tup.injEq, List.cons.injEq, V.int.injEq, V.bool.injEq, true_and, and_true]; (try rw [Bool.eq_iff_iff]); (try simp only [decide_eq_true_eq, decide_eq_false_iff_not, Decidable.not_not, true_and, and_true, Bool.not_eq_true, Bool.not_eq_eq_eq_not, Bool.not_true, Bool.and_eq_true, Bool.or_eq_true, beq_iff_eq, bne_iff_ne, ne_eq, Bool.false_eq_true, false_iff, true_iff, iff_false, iff_true]); (try omega))
      · obtain rfl : o = 9 := by omega
        rw [show opAttrs 9 l = decide (l.length = 2 ∧ 1 ≤ l.getD 1 0 ∧ Nat.gcd (l.getD 0 0).natAbs (l.getD 1 0).natAbs = 1) from rfl]
        have f0 := hf 0 (by omega)
        have f1 := hf 1 (by omega)
        refine Pc.pure (divisor_spec _ _ f0.1 f0.2 (by omega) f1.2) (by simp [cloL, clo, cloL_ints, cloL_intss]) (by intro g; simp only [go_sem, ren, renL]) ?_
        (refine Go1.out ?_; repeat' ((with_reducible first | refine Go1.mk ?_ | ((first | refine Br.dec ?_ ?_ | refine Br.beq ?_ ?_ | refine Br.bne ?_ ?_ | refine Br.mk ?_ ?_) <;> intro h)) <;> try simp -implicitDefEqProofs (maxSteps := 9000000) (disch := first | omega | (simp only [List.length_set, List.length_append, List.length_cons, List.length_nil]; omega)) only [go_sem]))
        (refine keepP (by intro g; simp only [go_sem, ren, renL]) ?_)
        (simp only [V.tup.injEq, List.cons.injEq, V.int.injEq, V.bool.injEq, true_and, and_true]; (try rw [Bool.eq_iff_iff]); (try simp only [decide_eq_true_eq, decide_eq_false_iff_not, Decidable.not_not, true_and, and_true, Bool.not_eq_true, Bool.not_eq_eq_eq_not, Bool.not_true, Bool.and_eq_true, Bool.or_eq_true, beq_iff_eq, bne_iff_ne, ne_eq, Bool.false_eq_true, false_iff, true_iff, iff_false, iff_true]); (try omega))
      · skip
        (refine keepP (by intro g; simp only [go_sem, ren, renL]) ?_)
        obtain rfl : o = 9 := by omega
        rw [show opAttrs 9 l = decide (l.length = 2 ∧ 1 ≤ l.getD 1 0 ∧ Nat.gcd (l.getD 0 0).natAbs (l.getD 1 0).natAbs = 1) from rfl]
        (simp only [V.tup.injEq, List.cons.injEq, V.int.injEq, V.bool.injEq, true_and, and_true]; (try rw [Bool.eq_iff_iff]); (try simp only [decide_eq_true_eq, decide_eq_false_iff_not, Decidable.not_not, true_and, and_true, Bool.not_eq_true, Bool.not_eq_eq_eq_not, Bool.not_true, Bool.and_eq_true, Bool.or_eq_true, beq_iff_eq, bne_iff_ne, ne_eq, Bool.false_eq_true, false_iff, true_iff, iff_false, iff_true]); (try omega))
      · skip
        (refine keepP (by intro g; simp only [go_sem, ren, renL]) ?_)
        obtain rfl : o = 9 := by omega
        rw [show opAttrs 9 l = decide (l.length = 2 ∧ 1 ≤ l.getD 1 0 ∧ Nat.gcd (l.getD 0 0).natAbs (l.getD 1 0).natAbs = 1) from rfl]
        (simp only [V.tup.injEq, List.cons.injEq, V.int.injEq, V.bool.injEq, true_and, and_true]; (try rw [Bool.eq_iff_iff]); (try simp only [decide_eq_true_eq, decide_eq_false_iff_not, Decidable.not_not, true_and, and_true, Bool.not_eq_true, Bool.not_eq_eq_eq_not, Bool.not_true, Bool.and_eq_true, Bool.or_eq_true, beq_iff_eq, bne_iff_ne, ne_eq, Bool.false_eq_true, false_iff, true_iff, iff_false, iff_true]); (try omega))
      · obtain rfl : o = 11 := by omega
        rw [show opAttrs 11 l = (permB l && decide (l.length ≤ 4)) from rfl]
        refine TT_loop_inv (fun n ts H => ∃ i, (i ≤ l.length) ∧ (∀ j, j < i → permAt l j) ∧ (n = l.length - i) ∧ (H = []) ∧ ts.length = 216 ∧ nth ts 1 = .sl l.length (ints l) ∧ nth ts 6 = .int .i64 i) ?_ (n := l.length) ?_
        · skip
          rintro n ts H ⟨i, hi, hp, hn, hH, hL, hs1, hs6⟩
          refine TT_env [(1, .sl l.length (ints l)), (6, .int .i64 i)] hL (by simp only [List.forall_mem_cons, hs1, hs6, true_and]; exact fun _ h => nomatch h) ?_
          clear hL hs1 hs6 ts
          refine TT_of mixed ?_
          subst hH hn
          (refine Go1.out ?_; repeat' ((with_reducible first | refine Go1.mk ?_ | ((first | refine Br.dec ?_ ?_ | refine Br.beq ?_ ?_ | refine Br.bne ?_ ?_ | refine Br.mk ?_ ?_) <;> intro h)) <;> try simp -implicitDefEqProofs (maxSteps := 9000000) (disch := first | omega | (simp only [List.length_set, List.length_append, List.length_cons, List.length_nil]; omega)) only [go_sem]))
          · skip
            (refine keepP (by intro g; simp only [go_sem, ren, renL]) ?_)
            rw [permB_of (i := i) (by omega) (fun hp => by have := hp.1; omega)]; rfl
          · skip
            (refine keepP (by intro g; simp only [go_sem, ren, renL]) ?_)
            rw [permB_of (i := i) (by omega) (fun hp => by have := hp.2.1; omega)]; rfl
          · skip
            refine TT_loop_inv (fun n ts H => ∃ k, (k ≤ i) ∧ (∀ m, m < k → l.getD m 0 ≠ l.getD i 0) ∧ (n = i - k) ∧ (H = []) ∧ ts.length = 216 ∧ nth ts 1 = .sl l.length (ints l) ∧ nth ts 6 = .int .i64 i ∧ nth ts 7 = .int .i64 k) ?_ (n := i) ?_
            · skip
              rintro n ts H ⟨k, hk, hq, hn, hH, hL, hs1, hs6, hs7⟩
              refine TT_env [(1, .sl l.length (ints l)), (6, .int .i64 i), (7, .int .i64 k)] hL (by simp only [List.forall_mem_cons, hs1, hs6, hs7, true_and]; exact fun _ h => nomatch h) ?_
              clear hL hs1 hs6 hs7 ts
              refine TT_of mixed ?_
              subst hH hn
              (refine Go1.out ?_; repeat' ((with_reducible first | refine Go1.mk ?_ | ((first | refine Br.dec ?_ ?_ | refine Br.beq ?_ ?_ | refine Br.bne ?_ ?_ | refine Br.mk ?_ ?_) <;> intro h)) <;> try simp -implicitDefEqProofs (maxSteps := 9000000) (disch := first | omega | (simp only [List.length_set, List.length_append, List.length_cons, List.length_nil]; omega)) only [go_sem]))
              · skip
                (refine keepP (by intro g; simp only [go_sem, ren, renL]) ?_)
                rw [permB_of (i := i) (by omega) (fun hp => hp.2.2 k (by omega) h)]; rfl
              · exact ⟨_, by omega, k + 1, by omega, allS hq h, rfl, (by (repeat' apply And.intro) <;> (first | rfl | omega | (congr 1; omega) | assumption | (congr 1; assumption)))⟩
              · obtain rfl : k = i := by omega
                exact ⟨_, by omega, k + 1, by omega, allS hp ⟨by omega, by omega, hq⟩, rfl, (by (repeat' apply And.intro) <;> (first | rfl | omega | (congr 1; omega) | assumption | (congr 1; assumption)))⟩
            · exact ⟨0, by omega, fun m hm => by omega, rfl, rfl, rfl, rfl, rfl, rfl⟩
          · skip
            (refine keepP (by intro g; simp only [go_sem, ren, renL]) ?_)
            rw [(permB_iff l).2 fun j hj => hp j (by omega)]
            (simp only [V.tup.injEq, List.cons.injEq, V.int.injEq, V.bool.injEq, true_and, and_true]; (try rw [Bool.eq_iff_iff]); (try simp only [decide_eq_true_eq, decide_eq_false_iff_not, Decidable.not_not, true_and, and_true, Bool.not_eq_true, Bool.not_eq_eq_eq_not, Bool.not_true, Bool.and_eq_true, Bool.or_eq_true, beq_iff_eq, bne_iff_ne, ne_eq, Bool.false_eq_true, false_iff, true_iff, iff_false, iff_true]); (try omega))
        · exact ⟨0, by omega, fun j hj => by omega, rfl, rfl, rfl, rfl, rfl⟩
      · obtain rfl : o = 12 := by omega
        refine Fc.pure (May6_spec l hl) (by simp [cloL, clo, cloL_ints, cloL_intss]) (by intro g; simp only [go_sem, ren, renL]) ?_
        (refine Go1.out ?_; repeat' ((with_reducible first | refine Go1.mk ?_ | ((first | refine Br.dec ?_ ?_ | refine Br.beq ?_ ?_ | refine Br.bne ?_ ?_ | refine Br.mk ?_ ?_) <;> intro h)) <;> try simp -implicitDefEqProofs (maxSteps := 9000000) (disch := first | omega | (simp only [List.length_set, List.length_append, List.length_cons, List.length_nil]; omega)) only [go_sem]))
        (refine keepP (by intro g; simp only [go_sem, ren, renL]) ?_)
        rw [show opAttrs 12 l = decide (mayP l = 0) from rfl]
        (simp only [V.tup.injEq, List.cons.injEq, V.int.injEq, V.bool.injEq, true_and, and_true]; (try rw [Bool.eq_iff_iff]); (try simp only [decide_eq_true_eq, decide_eq_false_iff_not, Decidable.not_not, true_and, and_true, Bool.not_eq_true, Bool.not_eq_eq_eq_not, Bool.not_true, Bool.and_eq_true, Bool.or_eq_true, beq_iff_eq, bne_iff_ne, ne_eq, Bool.false_eq_true, false_iff, true_iff, iff_false, iff_true]); (try omega))
      · obtain rfl : o = 13 := by omega
        refine Fc.pure (May6_spec l hl) (by simp [cloL, clo, cloL_ints, cloL_intss]) (by intro g; simp only [go_sem, ren, renL]) ?_
        (refine Go1.out ?_; repeat' ((with_reducible first | refine Go1.mk ?_ | ((first | refine Br.dec ?_ ?_ | refine Br.beq ?_ ?_ | refine Br.bne ?_ ?_ | refine Br.mk ?_ ?_) <;> intro h)) <;> try simp -implicitDefEqProofs (maxSteps := 9000000) (disch := first | omega | (simp only [List.length_set, List.length_append, List.length_cons, List.length_nil]; omega)) only [go_sem]))
        (refine keepP (by intro g; simp only [go_sem, ren, renL]) ?_)
        rw [show opAttrs 13 l = decide (mayP l = 0) from rfl]
        (simp only [V.tup.injEq, List.cons.injEq, V.int.injEq, V.bool.injEq, true_and, and_true]; (try rw [Bool.eq_iff_iff]); (try simp only [decide_eq_true_eq, decide_eq_false_iff_not, Decidable.not_not, true_and, and_true, Bool.not_eq_true, Bool.not_eq_eq_eq_not, Bool.not_true, Bool.and_eq_true, Bool.or_eq_true, beq_iff_eq, bne_iff_ne, ne_eq, Bool.false_eq_true, false_iff, true_iff, iff_false, iff_true]); (try omega))
      iterate 2
        · rw [show opAttrs o l = riseB l by obtain rfl | rfl : o = 14 ∨ o = 20 := by omega
                                            all_goals rfl]
          refine TT_loop_inv (fun n ts H => ∃ i, (i ≤ l.length) ∧ (∀ j, j < i → riseAt l j) ∧ (n = l.length - i) ∧ (H = []) ∧ ts.length = 216 ∧ nth ts 1 = .sl l.length (ints l) ∧ nth ts 8 = .int .i64 i) ?_ (n := l.length) ?_
          · skip
            rintro n ts H ⟨i, hi, hp, hn, hH, hL, hs1, hs8⟩
            refine TT_env [(1, .sl l.length (ints l)), (8, .int .i64 i)] hL (by simp only [List.forall_mem_cons, hs1, hs8, true_and]; exact fun _ h => nomatch h) ?_
            clear hL hs1 hs8 ts
            refine TT_of mixed ?_
            subst hH hn
            (refine Go1.out ?_; repeat' ((with_reducible first | refine Go1.mk ?_ | ((first | refine Br.dec ?_ ?_ | refine Br.beq ?_ ?_ | refine Br.bne ?_ ?_ | refine Br.mk ?_ ?_) <;> intro h)) <;> try simp -implicitDefEqProofs (maxSteps := 9000000) (disch := first | omega | (simp only [List.length_set, List.length_append, List.length_cons, List.length_nil]; omega)) only [go_sem]))
            · skip
              (refine keepP (by intro g; simp only [go_sem, ren, renL]) ?_)
              rw [riseB_of (i := i) (by omega) (fun hp => by have := hp.1; omega)]
            · skip
              (refine keepP (by intro g; simp only [go_sem, ren, renL]) ?_)
              rw [riseB_of (i := i) (by omega) (fun hp => by have := hp.2.1; omega)]
            · skip
              (refine keepP (by intro g; simp only [go_sem, ren, renL]) ?_)
              rw [riseB_of (i := i) (by omega) (fun hp => by have := hp.2.2 (by omega); omega)]
            · exact ⟨_, by omega, i + 1, by omega, allS hp ⟨by omega, by omega, fun _ => by omega⟩, rfl, (by (repeat' apply And.intro) <;> (first | rfl | omega | (congr 1; omega) | assumption | (congr 1; assumption)))⟩
            · exact ⟨_, by omega, i + 1, by omega, allS hp ⟨by omega, by omega, fun _ => by omega⟩, rfl, (by (repeat' apply And.intro) <;> (first | rfl | omega | (congr 1; omega) | assumption | (congr 1; assumption)))⟩
            · skip
              (refine keepP (by intro g; simp only [go_sem, ren, renL]) ?_)
              rw [(riseB_iff l).2 fun j hj => hp j (by omega)]
          · exact ⟨0, by omega, fun j hj => by omega, rfl, rfl, rfl, rfl, rfl⟩
      iterate 2
        · rw [show opAttrs o l = pairB (decide (o = 15)) l by obtain rfl | rfl : o = 15 ∨ o = 16 := by omega
                                                              all_goals rfl]
          (refine keepP (by intro g; simp only [go_sem, ren, renL]) ?_)
          rw [pairB_of (fun h => by have := h.1; omega)]
        · rw [show opAttrs o l = pairB (decide (o = 15)) l by obtain rfl | rfl : o = 15 ∨ o = 16 := by omega
                                                              all_goals rfl]
          (refine keepP (by intro g; simp only [go_sem, ren, renL]) ?_)
          rw [pairB_of (fun h => by have := h.2.1; omega)]
        · rw [show opAttrs o l = pairB (decide (o = 15)) l by obtain rfl | rfl : o = 15 ∨ o = 16 := by omega
                                                              all_goals rfl]
          refine TT_loop_inv (fun n ts H => ∃ k, (k ≤ l.length / 2) ∧ (∀ j, j < k → pairAt (decide (o = 15)) l j) ∧ (n = l.length / 2 - k) ∧ (H = []) ∧ ts.length = 216 ∧ nth ts 0 = .int .i64 o ∧ nth ts 1 = .sl l.length (ints l) ∧ nth ts 9 = .int .i64 (2 * k : Nat)) ?_ (n := l.length / 2) ?_
          · skip
            rintro n ts H ⟨k, hi, hp, hn, hH, hL, hs0, hs1, hs9⟩
            refine TT_env [(0, .int .i64 o), (1, .sl l.length (ints l)), (9, .int .i64 (2 * k : Nat))] hL (by simp only [List.forall_mem_cons, hs0, hs1, hs9, true_and]; exact fun _ h => nomatch h) ?_
            clear hL hs0 hs1 hs9 ts
            refine TT_of mixed ?_
            subst hH hn
            have bad : 2 * k < l.length → ¬ pairAt (decide (o = 15)) l k → pairB (decide (o = 15)) l = false := fun h1 h2 => pairB_of fun h => h2 (h.2.2 k (by omega))
            (refine Go1.out ?_; repeat' ((with_reducible first | refine Go1.mk ?_ | ((first | refine Br.dec ?_ ?_ | refine Br.beq ?_ ?_ | refine Br.bne ?_ ?_ | refine Br.mk ?_ ?_) <;> intro h)) <;> try simp -implicitDefEqProofs (maxSteps := 9000000) (disch := first | omega | (simp only [List.length_set, List.length_append, List.length_cons, List.length_nil]; omega)) only [go_sem]))
            all_goals first
              | exact ⟨_, by omega, k + 1, by omega, allS hp ⟨by omega, by omega, fun h => by have := of_decide_eq_true h; omega⟩, rfl, (by (repeat' apply And.intro) <;> (first | rfl | omega | (congr 1; omega) | assumption | (congr 1; assumption)))⟩
              | ((refine keepP (by intro g; simp only [go_sem, ren, renL]) ?_); rw [(pairB_iff _ l).2 ⟨by omega, by omega, fun j hj => hp j (by omega)⟩])
              | ((refine keepP (by intro g; simp only [go_sem, ren, renL]) ?_); rw [bad (by omega) (fun hp => by have h1 := hp.1; have h2 := hp.2.1; omega)])
              | ((refine keepP (by intro g; simp only [go_sem, ren, renL]) ?_); rw [bad (by omega) (fun hp => by have h3 := hp.2.2 (decide_eq_true (by omega)); omega)])
          · exact ⟨0, by omega, fun j hj => by omega, rfl, rfl, rfl, rfl, rfl, rfl⟩
      · skip
        (refine keepP (by intro g; simp only [go_sem, ren, renL]) ?_)
        obtain rfl : o = 17 := by omega
        rw [show opAttrs 17 l = decide (l.length = 1 ∧ 0 ≤ l.getD 0 0 ∧ l.getD 0 0 ≤ 3) from rfl]
        (simp only [V.tup.injEq, List.cons.injEq, V.int.injEq, V.bool.injEq, true_and, and_true]; (try rw [Bool.eq_iff_iff]); (try simp only [decide_eq_true_eq, decide_eq_false_iff_not, Decidable.not_not, true_and, and_true, Bool.not_eq_true, Bool.not_eq_eq_eq_not, Bool.not_true, Bool.and_eq_true, Bool.or_eq_true, beq_iff_eq, bne_iff_ne, ne_eq, Bool.false_eq_true, false_iff, true_iff, iff_false, iff_true]); (try omega))
      · skip
        (refine keepP (by intro g; simp only [go_sem, ren, renL]) ?_)
        obtain rfl : o = 17 := by omega
        rw [show opAttrs 17 l = decide (l.length = 1 ∧ 0 ≤ l.getD 0 0 ∧ l.getD 0 0 ≤ 3) from rfl]
        (simp only [V.tup.injEq, List.cons.injEq, V.int.injEq, V.bool.injEq, true_and, and_true]; (try rw [Bool.eq_iff_iff]); (try simp only [decide_eq_true_eq, decide_eq_false_iff_not, Decidable.not_not, true_and, and_true, Bool.not_eq_true, Bool.not_eq_eq_eq_not, Bool.not_true, Bool.and_eq_true, Bool.or_eq_true, beq_iff_eq, bne_iff_ne, ne_eq, Bool.false_eq_true, false_iff, true_iff, iff_false, iff_true]); (try omega))
      · skip
        (refine keepP (by intro g; simp only [go_sem, ren, renL]) ?_)
        obtain rfl : o = 17 := by omega
        rw [show opAttrs 17 l = decide (l.length = 1 ∧ 0 ≤ l.getD 0 0 ∧ l.getD 0 0 ≤ 3) from rfl]
        (simp only [V.tup.injEq, List.cons.injEq, V.int.injEq, V.bool.injEq, true_and, and_true]; (try rw [Bool.eq_iff_iff]); (try simp only [decide_eq_true_eq, decide_eq_false_iff_not, Decidable.not_not, true_and, and_true, Bool.not_eq_true, Bool.not_eq_eq_eq_not, Bool.not_true, Bool.and_eq_true, Bool.or_eq_true, beq_iff_eq, bne_iff_ne, ne_eq, Bool.false_eq_true, false_iff, true_iff, iff_false, iff_true]); (try omega))
      · skip
        (refine keepP (by intro g; simp only [go_sem, ren, renL]) ?_)
        unfold opAttrs
        rw [if_neg (by omega), if_neg (by omega), if_neg (by omega), if_neg (by omega), if_neg (by omega), if_neg (by omega), if_neg (by omega)]
        (simp only [V.tup.injEq, List.cons.injEq, V.int.injEq, V.bool.injEq, true_and, and_true]; (try rw [Bool.eq_iff_iff]); (try simp only [decide_eq_true_eq, decide_eq_false_iff_not, Decidable.not_not, true_and, and_true, Bool.not_eq_true, Bool.not_eq_eq_eq_not, Bool.not_true, Bool.and_eq_true, Bool.or_eq_true, beq_iff_eq, bne_iff_ne, ne_eq, Bool.false_eq_true, false_iff, true_iff, iff_false, iff_true]); (try omega))
  · exact ⟨0, by omega, fun j hj => by omega, rfl, rfl, rfl, rfl, rfl, rfl⟩
end Go.Proofs.Ytlomgfdepllanaa
end

section
set_option linter.unusedSimpArgs false
set_option linter.unusedVariables false
set_option maxRecDepth 100000
set_option pp.maxSteps 1500
set_option maxHeartbeats 4000000
namespace Go.Proofs.Ytlomgfdepllanaa
open Go.Bv
/-- A node. -/
structure Nd where
  op : Int
  args : List Int
  attrs : List Int
def ndC (n : Nd) : List V := [.int .i64 n.op, .sl n.args.length (ints n.args), .sl n.attrs.length (ints n.attrs)]
theorem ndC_eq (n : Nd) : ndC n = [.int .i64 n.op, .sl n.args.length (ints n.args), .sl n.attrs.length (ints n.attrs)] := rfl
attribute [go_sem] ndC_eq
def checkP (v : Int) (n : Nd) : Int := if v < 1 ∨ v > 3 then 8 else if inP n.op v = false then 9 else if (n.args.length : Int) < least n.op ∨ (n.args.length : Int) > most n.op then 10 else if n.attrs.length = 0 ∧ noneP v n.op = true then 0 else if attrsP n.op n.attrs = true then 0 else 11
def up (k : Nat) : List Int := (List.range k).map fun i : Nat => (i : Int)
def down (k : Nat) : List Int := (up k).reverse
theorem up_succ (k : Nat) : up (k + 1) = up k ++ [(k : Int)] := by simp [up, List.range_succ]
theorem up_length (k : Nat) : (up k).length = k := by simp [up]
theorem down_succ (k : Nat) : down (k + 1) = (k : Int) :: down k := by simp [down, up_succ]
def explP (v : Int) (n : Nd) (r : Nat) : List Int := if checkP v n ≠ 0 ∨ n.attrs.length > 0 ∨ noneP v n.op = false then n.attrs else
  if n.op = 6 then [2] else if n.op = 17 then [0] else if n.op = 11 then down (if r > 4 then 0 else r) else up (if r > 4 then 0 else r)

theorem Check11_spec (v : Int) (n : Nd) (ha : n.args.length ≤ 17592186044416) (hl : n.attrs.length ≤ 17592186044416) : Pu C 14 [.int .i64 v, .agg (ndC n)] (.int .i64 (checkP v n)) := by
  refine Fc.keep (Fc.bodyT mixed Try.func14 w14 rfl Try.ntmps14 Try.results14 (Nat.le_of_ble_eq_true rfl) ?_)
  (refine Go1.out ?_; repeat' ((with_reducible first | refine Go1.mk ?_ | ((first | refine Br.dec ?_ ?_ | refine Br.beq ?_ ?_ | refine Br.bne ?_ ?_ | refine Br.mk ?_ ?_) <;> intro h)) <;> try simp -implicitDefEqProofs (maxSteps := 9000000) (disch := first | omega | (simp only [List.length_set, List.length_append, List.length_cons, List.length_nil]; omega)) only [go_sem]))
  · skip
    (refine keepP (by intro g; simp only [go_sem, ren, renL]) ?_)
    grind [checkP]
  · skip
    (refine keepP (by intro g; simp only [go_sem, ren, renL]) ?_)
    grind [checkP]
  · skip
    refine Fc.pure (In_spec _ _) (by simp [cloL, clo, cloL_ints, cloL_intss]) (by intro g; simp only [go_sem, ren, renL]) ?_
    (refine Go1.out ?_; repeat' ((with_reducible first | refine Go1.mk ?_ | ((first | refine Br.dec ?_ ?_ | refine Br.beq ?_ ?_ | refine Br.bne ?_ ?_ | refine Br.mk ?_ ?_) <;> intro h)) <;> try simp -implicitDefEqProofs (maxSteps := 9000000) (disch := first | omega | (simp only [List.length_set, List.length_append, List.length_cons, List.length_nil]; omega)) only [go_sem]))
    · skip
      refine Fc.pure (Arity_spec _) (by simp [cloL, clo, cloL_ints, cloL_intss]) (by intro g; simp only [go_sem, ren, renL]) ?_
      (refine Go1.out ?_; repeat' ((with_reducible first | refine Go1.mk ?_ | ((first | refine Br.dec ?_ ?_ | refine Br.beq ?_ ?_ | refine Br.bne ?_ ?_ | refine Br.mk ?_ ?_) <;> intro h)) <;> try simp -implicitDefEqProofs (maxSteps := 9000000) (disch := first | omega | (simp only [List.length_set, List.length_append, List.length_cons, List.length_nil]; omega)) only [go_sem]))
      · skip
        (refine keepP (by intro g; simp only [go_sem, ren, renL]) ?_)
        grind [checkP]
      · skip
        (refine keepP (by intro g; simp only [go_sem, ren, renL]) ?_)
        grind [checkP]
      · skip
        refine Fc.pure (None_spec _ _) (by simp [cloL, clo, cloL_ints, cloL_intss]) (by intro g; simp only [go_sem, ren, renL]) ?_
        (refine Go1.out ?_; repeat' ((with_reducible first | refine Go1.mk ?_ | ((first | refine Br.dec ?_ ?_ | refine Br.beq ?_ ?_ | refine Br.bne ?_ ?_ | refine Br.mk ?_ ?_) <;> intro h)) <;> try simp -implicitDefEqProofs (maxSteps := 9000000) (disch := first | omega | (simp only [List.length_set, List.length_append, List.length_cons, List.length_nil]; omega)) only [go_sem]))
        · skip
          (refine keepP (by intro g; simp only [go_sem, ren, renL]) ?_)
          grind [checkP]
        · skip
          refine Fc.pure (attrs_spec _ _ hl) (by simp [cloL, clo, cloL_ints, cloL_intss]) (by intro g; simp only [go_sem, ren, renL]) ?_
          (refine Go1.out ?_; repeat' ((with_reducible first | refine Go1.mk ?_ | ((first | refine Br.dec ?_ ?_ | refine Br.beq ?_ ?_ | refine Br.bne ?_ ?_ | refine Br.mk ?_ ?_) <;> intro h)) <;> try simp -implicitDefEqProofs (maxSteps := 9000000) (disch := first | omega | (simp only [List.length_set, List.length_append, List.length_cons, List.length_nil]; omega)) only [go_sem]))
          all_goals (refine keepP (by intro g; simp only [go_sem, ren, renL]) ?_)
          all_goals grind [checkP]
      · skip
        refine Fc.pure (attrs_spec _ _ hl) (by simp [cloL, clo, cloL_ints, cloL_intss]) (by intro g; simp only [go_sem, ren, renL]) ?_
        (refine Go1.out ?_; repeat' ((with_reducible first | refine Go1.mk ?_ | ((first | refine Br.dec ?_ ?_ | refine Br.beq ?_ ?_ | refine Br.bne ?_ ?_ | refine Br.mk ?_ ?_) <;> intro h)) <;> try simp -implicitDefEqProofs (maxSteps := 9000000) (disch := first | omega | (simp only [List.length_set, List.length_append, List.length_cons, List.length_nil]; omega)) only [go_sem]))
        all_goals (refine keepP (by intro g; simp only [go_sem, ren, renL]) ?_)
        all_goals grind [checkP]
    · skip
      (refine keepP (by intro g; simp only [go_sem, ren, renL]) ?_)
      grind [checkP]

theorem lit_own {e s : Nat} {H : Heap} {cs : List V} {n : Nat} (h : cs.length = n * s) : Bv.Own e s (H ++ [some ⟨e, s, cs⟩]) (.ref H.length 0 n) n cs := .inr ⟨H.length, rfl, rowOf_snoc _ _, h⟩
theorem down_take (R j : Nat) (h : j < R) : (down R).take (j + 1) = (down R).take j ++ [((R : Int) - 1 - j)] := by
  rw [List.take_add_one]; congr 1
  have : (down R)[j]? = some ((R : Int) - 1 - j) := by
    simp only [down, up]
    rw [List.getElem?_reverse (by simpa using h)]
    simp only [List.length_map, List.length_range, List.getElem?_map]
    rw [List.getElem?_range (by omega)]
    simp; omega
  rw [this]; rfl
theorem down_length (k : Nat) : (down k).length = k := by simp [down, up]
theorem take_len {l : List Int} {j : Nat} (h : j ≤ l.length) : (l.take j).length = j := by simp; omega

theorem Explicit11_spec (v : Int) (n : Nd) (r : Nat) (hr : r ≤ 17592186044416) (ha : n.args.length ≤ 17592186044416) (hl : n.attrs.length ≤ 17592186044416) : Fc C 16 [.int .i64 v, .agg (ndC n), .int .i64 r] [] (fun v' H => RetL 3 1 H v' (explP v n r).length (ints (explP v n r))) := by
  refine Fc.keep (Fc.bodyT mixed Try.func16 w16 rfl Try.ntmps16 Try.results16 (Nat.le_of_ble_eq_true rfl) ?_)
  (refine Go1.out ?_; repeat' ((with_reducible first | refine Go1.mk ?_ | ((first | refine Br.dec ?_ ?_ | refine Br.beq ?_ ?_ | refine Br.bne ?_ ?_ | refine Br.mk ?_ ?_) <;> intro h)) <;> try simp -implicitDefEqProofs (maxSteps := 9000000) (disch := first | omega | (simp only [List.length_set, List.length_append, List.length_cons, List.length_nil]; omega)) only [go_sem]))
  refine Fc.pure (Check11_spec v n ha hl) (by simp [cloL, clo, cloL_ints, cloL_intss]) (by intro g; simp only [go_sem, ren, renL]) ?_
  have early : checkP v n ≠ 0 ∨ n.attrs.length > 0 ∨ noneP v n.op = false → ∀ H, ∃ sel, keepw sel (fun v' H => RetL 3 1 H v' (explP v n r).length (ints (explP v n r))) (V.sl n.attrs.length (ints n.attrs)) H := by
    intro h H
    rw [explP, if_pos h]
    exact IsL.ret (e := 3) (s := 1) (.inl rfl) (fun g => renL_ints g _) fun v H h => h
  (refine Go1.out ?_; repeat' ((with_reducible first | refine Go1.mk ?_ | ((first | refine Br.dec ?_ ?_ | refine Br.beq ?_ ?_ | refine Br.bne ?_ ?_ | refine Br.mk ?_ ?_) <;> intro h)) <;> try simp -implicitDefEqProofs (maxSteps := 9000000) (disch := first | omega | (simp only [List.length_set, List.length_append, List.length_cons, List.length_nil]; omega)) only [go_sem]))
  · exact early (.inl h) _
  · exact early (.inr (.inl (by omega))) _
  · skip
    refine Fc.pure (None_spec v n.op) (by simp [cloL, clo, cloL_ints, cloL_intss]) (by intro g; simp only [go_sem, ren, renL]) ?_
    have main : checkP v n = 0 → ¬ 0 < (n.attrs.length : Int) → noneP v n.op = true → explP v n r = if n.op = 6 then [2] else if n.op = 17 then [0] else if n.op = 11 then down (if r > 4 then 0 else r) else up (if r > 4 then 0 else r) := by
      intro h1 h2 h3; rw [explP, if_neg (by rw [h1, h3]; simp; exact List.eq_nil_of_length_eq_zero (by omega))]
    (refine Go1.out ?_; repeat' ((with_reducible first | refine Go1.mk ?_ | ((first | refine Br.dec ?_ ?_ | refine Br.beq ?_ ?_ | refine Br.bne ?_ ?_ | refine Br.mk ?_ ?_) <;> intro h)) <;> try simp -implicitDefEqProofs (maxSteps := 9000000) (disch := first | omega | (simp only [List.length_set, List.length_append, List.length_cons, List.length_nil]; omega)) only [go_sem]))
    · rw [main (by assumption) (by assumption) (by assumption), if_pos (by assumption)]
      exact Own.ret (e := 3) (s := 1) (n := 1) (cs := ints [2]) (.inr ⟨1, rfl, rfl, rfl⟩) (fun g => renL_ints g [2]) fun v H h => Or.inr h
    · rw [main (by assumption) (by assumption) (by assumption), if_neg (by assumption), if_pos (by assumption)]
      exact Own.ret (e := 3) (s := 1) (n := 1) (cs := ints [0]) (.inr ⟨1, rfl, rfl, rfl⟩) (fun g => renL_ints g [0]) fun v H h => Or.inr h
    · rw [main (by assumption) (by assumption) (by assumption), if_neg (by assumption), if_neg (by assumption), if_pos (by assumption), if_pos (show r > 4 by omega)]
      refine TT_loop_inv (fun n ts H => ∃ j u, (j ≤ 0) ∧ (n = 0 - j) ∧ (Bv.Own 3 1 H u ((down 0).take j).length (ints ((down 0).take j))) ∧ ts.length = 66 ∧ nth ts 7 = u ∧ nth ts 8 = .int .i64 (((0 : Nat) : Int) - 1 - j)) ?_ (n := 0) ?_
      · skip
        rintro n ts H ⟨j, u, hj, hn, hu, hL, hs7, hs8⟩
        refine TT_env [(7, u), (8, .int .i64 (((0 : Nat) : Int) - 1 - j))] hL (by simp only [List.forall_mem_cons, hs7, hs8, true_and]; exact fun _ h => nomatch h) ?_
        clear hL hs7 hs8 ts
        refine TT_of mixed ?_
        subst hn
        (refine Go1.out ?_; repeat' ((with_reducible first | refine Go1.mk ?_ | ((first | refine Br.dec ?_ ?_ | refine Br.beq ?_ ?_ | refine Br.bne ?_ ?_ | refine Br.mk ?_ ?_) <;> intro h)) <;> try simp -implicitDefEqProofs (maxSteps := 9000000) (disch := first | omega | (simp only [List.length_set, List.length_append, List.length_cons, List.length_nil]; omega)) only [go_sem]))
        obtain rfl : j = 0 := by omega
        exact hu.ret (fun g => renL_ints g _) fun v H h => .inr h
      · exact ⟨0, .nil, by omega, rfl, .nil .., rfl, rfl, by first | rfl | (simp -implicitDefEqProofs (maxSteps := 9000000) (disch := first | omega | (simp only [List.length_set, List.length_append, List.length_cons, List.length_nil]; omega)) only [go_sem]; congr 1; omega)⟩
    · rw [main (by assumption) (by assumption) (by assumption), if_neg (by assumption), if_neg (by assumption), if_neg (by assumption), if_pos (show r > 4 by omega)]
      refine TT_loop_inv (fun n ts H => ∃ j u, (j ≤ 0) ∧ (n = 0 - j) ∧ (Bv.Own 3 1 H u (up j).length (ints (up j))) ∧ ts.length = 66 ∧ nth ts 2 = .int .i64 (0 : Nat) ∧ nth ts 7 = u ∧ nth ts 9 = .int .i64 j) ?_ (n := 0) ?_
      · skip
        rintro n ts H ⟨j, u, hj, hn, hu, hL, hs2, hs7, hs9⟩
        refine TT_env [(2, .int .i64 (0 : Nat)), (7, u), (9, .int .i64 j)] hL (by simp only [List.forall_mem_cons, hs2, hs7, hs9, true_and]; exact fun _ h => nomatch h) ?_
        clear hL hs2 hs7 hs9 ts
        refine TT_of mixed ?_
        subst hn
        (refine Go1.out ?_; repeat' ((with_reducible first | refine Go1.mk ?_ | ((first | refine Br.dec ?_ ?_ | refine Br.beq ?_ ?_ | refine Br.bne ?_ ?_ | refine Br.mk ?_ ?_) <;> intro h)) <;> try simp -implicitDefEqProofs (maxSteps := 9000000) (disch := first | omega | (simp only [List.length_set, List.length_append, List.length_cons, List.length_nil]; omega)) only [go_sem]))
        obtain rfl : j = 0 := by omega
        exact hu.ret (fun g => renL_ints g _) fun v H h => .inr h
      · exact ⟨0, .nil, by omega, rfl, .nil .., rfl, rfl, rfl, rfl⟩
    · rw [main (by assumption) (by assumption) (by assumption), if_pos (by assumption)]
      exact Own.ret (e := 3) (s := 1) (n := 1) (cs := ints [2]) (.inr ⟨1, rfl, rfl, rfl⟩) (fun g => renL_ints g [2]) fun v H h => Or.inr h
    · rw [main (by assumption) (by assumption) (by assumption), if_neg (by assumption), if_pos (by assumption)]
      exact Own.ret (e := 3) (s := 1) (n := 1) (cs := ints [0]) (.inr ⟨1, rfl, rfl, rfl⟩) (fun g => renL_ints g [0]) fun v H h => Or.inr h
    · rw [main (by assumption) (by assumption) (by assumption), if_neg (by assumption), if_neg (by assumption), if_pos (by assumption), if_neg (show ¬ r > 4 by omega)]
      refine TT_loop_inv (fun n ts H => ∃ j u, (j ≤ r) ∧ (n = r - j) ∧ (Bv.Own 3 1 H u ((down r).take j).length (ints ((down r).take j))) ∧ ts.length = 66 ∧ nth ts 7 = u ∧ nth ts 8 = .int .i64 (((r : Nat) : Int) - 1 - j)) ?_ (n := r) ?_
      · skip
        rintro n ts H ⟨j, u, hj, hn, hu, hL, hs7, hs8⟩
        refine TT_env [(7, u), (8, .int .i64 (((r : Nat) : Int) - 1 - j))] hL (by simp only [List.forall_mem_cons, hs7, hs8, true_and]; exact fun _ h => nomatch h) ?_
        clear hL hs7 hs8 ts
        refine TT_of mixed ?_
        subst hn
        (refine Go1.out ?_; repeat' ((with_reducible first | refine Go1.mk ?_ | ((first | refine Br.dec ?_ ?_ | refine Br.beq ?_ ?_ | refine Br.bne ?_ ?_ | refine Br.mk ?_ ?_) <;> intro h)) <;> try simp -implicitDefEqProofs (maxSteps := 9000000) (disch := first | omega | (simp only [List.length_set, List.length_append, List.length_cons, List.length_nil]; omega)) only [go_sem]))
        · refine app_int hu rfl ⟨by decide, by decide⟩ (by rw [take_len (by rw [down_length]; omega)]; omega) fun v' H' hu' _ => ?_
          (refine Go1.out ?_; repeat' ((with_reducible first | refine Go1.mk ?_ | ((first | refine Br.dec ?_ ?_ | refine Br.beq ?_ ?_ | refine Br.bne ?_ ?_ | refine Br.mk ?_ ?_) <;> intro h)) <;> try simp -implicitDefEqProofs (maxSteps := 9000000) (disch := first | omega | (simp only [List.length_set, List.length_append, List.length_cons, List.length_nil]; omega)) only [go_sem]))
          exact ⟨_, by omega, j + 1, v', by omega, rfl, by rw [down_take _ _ (by omega)]; exact hu', (by (repeat' apply And.intro) <;> (first | rfl | omega | (congr 1; omega) | assumption | (congr 1; assumption)))⟩
        · obtain rfl : j = r := by omega
          rw [List.take_of_length_le (by rw [down_length]; exact Nat.le_refl _)] at hu
          exact hu.ret (fun g => renL_ints g _) fun v H h => .inr h
      · exact ⟨0, .nil, by omega, rfl, .nil .., rfl, rfl, by first | rfl | (simp -implicitDefEqProofs (maxSteps := 9000000) (disch := first | omega | (simp only [List.length_set, List.length_append, List.length_cons, List.length_nil]; omega)) only [go_sem]; congr 1; omega)⟩
    · rw [main (by assumption) (by assumption) (by assumption), if_neg (by assumption), if_neg (by assumption), if_neg (by assumption), if_neg (show ¬ r > 4 by omega)]
      refine TT_loop_inv (fun n ts H => ∃ j u, (j ≤ r) ∧ (n = r - j) ∧ (Bv.Own 3 1 H u (up j).length (ints (up j))) ∧ ts.length = 66 ∧ nth ts 2 = .int .i64 (r : Nat) ∧ nth ts 7 = u ∧ nth ts 9 = .int .i64 j) ?_ (n := r) ?_
      · skip
        rintro n ts H ⟨j, u, hj, hn, hu, hL, hs2, hs7, hs9⟩
        refine TT_env [(2, .int .i64 (r : Nat)), (7, u), (9, .int .i64 j)] hL (by simp only [List.forall_mem_cons, hs2, hs7, hs9, true_and]; exact fun _ h => nomatch h) ?_
        clear hL hs2 hs7 hs9 ts
        refine TT_of mixed ?_
        subst hn
        (refine Go1.out ?_; repeat' ((with_reducible first | refine Go1.mk ?_ | ((first | refine Br.dec ?_ ?_ | refine Br.beq ?_ ?_ | refine Br.bne ?_ ?_ | refine Br.mk ?_ ?_) <;> intro h)) <;> try simp -implicitDefEqProofs (maxSteps := 9000000) (disch := first | omega | (simp only [List.length_set, List.length_append, List.length_cons, List.length_nil]; omega)) only [go_sem]))
        · refine app_int hu rfl ⟨by decide, by decide⟩ (by rw [up_length]; omega) fun v' H' hu' _ => ?_
          (refine Go1.out ?_; repeat' ((with_reducible first | refine Go1.mk ?_ | ((first | refine Br.dec ?_ ?_ | refine Br.beq ?_ ?_ | refine Br.bne ?_ ?_ | refine Br.mk ?_ ?_) <;> intro h)) <;> try simp -implicitDefEqProofs (maxSteps := 9000000) (disch := first | omega | (simp only [List.length_set, List.length_append, List.length_cons, List.length_nil]; omega)) only [go_sem]))
          exact ⟨_, by omega, j + 1, v', by omega, rfl, by rw [up_succ]; exact hu', (by (repeat' apply And.intro) <;> (first | rfl | omega | (congr 1; omega) | assumption | (congr 1; assumption)))⟩
        · obtain rfl : j = r := by omega
          exact hu.ret (fun g => renL_ints g _) fun v H h => .inr h
      · exact ⟨0, .nil, by omega, rfl, .nil .., rfl, rfl, rfl, rfl⟩
    · exact early (.inr (.inr (by assumption))) _
end Go.Proofs.Ytlomgfdepllanaa
end

section
set_option linter.unusedSimpArgs false
set_option linter.unusedVariables false
set_option maxRecDepth 100000
set_option pp.maxSteps 1500
set_option maxHeartbeats 4000000
namespace Go.Proofs.Ytlomgfdepllanaa
open Go.Bv
abbrev Sh := List Int × Int
/-- A shape, and an error. -/
abbrev RSh (v : V) (H : Heap) (r : Sh) : Prop := Ret2 3 1 H v r.1.length (ints r.1) (.int .i64 r.2)
def matP (x y : List Int) : Sh := if x.length = 2 ∧ y.length = 2 ∧ x.getD 1 0 = y.getD 0 0 then ([x.getD 0 0, y.getD 1 0], 0) else ([], 13)
theorem matrix12_spec (x y : List Int) (hx : x.length ≤ 17592186044416) (hy : y.length ≤ 17592186044416) : Fc C 49 [.sl x.length (ints x), .sl y.length (ints y)] [] (fun v H => RSh v H (matP x y)) := by
  refine Fc.keep (Fc.bodyT mixed Try.func49 w49 rfl Try.ntmps49 Try.results49 (Nat.le_of_ble_eq_true rfl) ?_)
  (refine Go1.out ?_; repeat' ((with_reducible first | refine Go1.mk ?_ | ((first | refine Br.dec ?_ ?_ | refine Br.beq ?_ ?_ | refine Br.bne ?_ ?_ | refine Br.mk ?_ ?_) <;> intro h)) <;> try simp -implicitDefEqProofs (maxSteps := 9000000) (disch := first | omega | (simp only [List.length_set, List.length_append, List.length_cons, List.length_nil]; omega)) only [go_sem]))
  · rw [matP, if_neg (by omega)]; exact two_nil (fun _ => rfl)
  · rw [matP, if_neg (by omega)]; exact two_nil (fun _ => rfl)
  · rw [matP, if_neg (by omega)]; exact two_nil (fun _ => rfl)
  · rw [matP, if_pos (by omega)]
    exact IsL.two (.inr (.inr ⟨0, rfl, rfl, rfl⟩)) (fun g => renL_ints g [_, _]) (fun _ => rfl)

/-- The first few of what comes of each place. -/
def tab (f : Nat → Int) (k : Nat) : List Int := (List.range k).map f
theorem tab_succ (f : Nat → Int) (k : Nat) : tab f (k + 1) = tab f k ++ [f k] := by simp [tab, List.range_succ]
theorem tab_length (f : Nat → Int) (k : Nat) : (tab f k).length = k := by simp [tab]
theorem tab_getD (f : Nat → Int) {k i : Nat} (h : i < k) : (tab f k).getD i 0 = f i := by simp [tab, List.getD, h]
def slcF (l : List Int) (i : Nat) : Int := l.getD (2 * i + 1) 0 - l.getD (2 * i) 0
def slcOk (x l : List Int) (k : Nat) : Bool := (List.range k).all fun i => decide (l.getD (2 * i + 1) 0 ≤ x.getD i 0)
theorem slcOk_iff (x l : List Int) (k : Nat) : slcOk x l k = true ↔ ∀ i, i < k → l.getD (2 * i + 1) 0 ≤ x.getD i 0 := by simp [slcOk]
def slcP (x l : List Int) : Sh := if l.length = 2 * x.length ∧ slcOk x l x.length = true then (tab (slcF l) x.length, 0) else ([], 13)
def Att (l : List Int) : Prop := ∀ i, i < l.length → -2147483647 ≤ l.getD i 0 ∧ l.getD i 0 ≤ 2147483647
theorem slice12_spec (x l : List Int) (hx : x.length ≤ 17592186044416) (hl : l.length ≤ 17592186044416) (ha : Att l) : Fc C 52 [.sl x.length (ints x), .sl l.length (ints l)] [] (fun v H => RSh v H (slcP x l)) := by
  refine Fc.keep (Fc.bodyT mixed Try.func52 w52 rfl Try.ntmps52 Try.results52 (Nat.le_of_ble_eq_true rfl) ?_)
  (refine Go1.out ?_; repeat' ((with_reducible first | refine Go1.mk ?_ | ((first | refine Br.dec ?_ ?_ | refine Br.beq ?_ ?_ | refine Br.bne ?_ ?_ | refine Br.mk ?_ ?_) <;> intro h)) <;> try simp -implicitDefEqProofs (maxSteps := 9000000) (disch := first | omega | (simp only [List.length_set, List.length_append, List.length_cons, List.length_nil]; omega)) only [go_sem]))
  · rw [slcP, if_neg (by omega)]; exact two_nil (fun _ => rfl)
  · skip
    refine TT_loop_inv (fun n ts H => ∃ i u, (i ≤ x.length) ∧ (∀ j, j < i → l.getD (2 * j + 1) 0 ≤ x.getD j 0) ∧ (n = x.length - i) ∧ (Bv.Own 3 1 H u (tab (slcF l) i).length (ints (tab (slcF l) i))) ∧ ts.length = 47 ∧ nth ts 0 = .sl x.length (ints x) ∧ nth ts 1 = .sl l.length (ints l) ∧ nth ts 6 = u ∧ nth ts 7 = .int .i64 i) ?_ (n := x.length) ?_
    · skip
      rintro n ts H ⟨i, u, hi, hok, hn, hu, hL, hs0, hs1, hs6, hs7⟩
      refine TT_env [(0, .sl x.length (ints x)), (1, .sl l.length (ints l)), (6, u), (7, .int .i64 i)] hL (by simp only [List.forall_mem_cons, hs0, hs1, hs6, hs7, true_and]; exact fun _ h => nomatch h) ?_
      clear hL hs0 hs1 hs6 hs7 ts
      refine TT_of mixed ?_
      subst hn
      (refine Go1.out ?_; repeat' ((with_reducible first | refine Go1.mk ?_ | ((first | refine Br.dec ?_ ?_ | refine Br.beq ?_ ?_ | refine Br.bne ?_ ?_ | refine Br.mk ?_ ?_) <;> intro h)) <;> try simp -implicitDefEqProofs (maxSteps := 9000000) (disch := first | omega | (simp only [List.length_set, List.length_append, List.length_cons, List.length_nil]; omega)) only [go_sem]))
      · rw [slcP, if_neg]; exact two_nil (fun _ => rfl)
        rintro ⟨_, h2⟩; have := (slcOk_iff _ _ _).1 h2 i (by omega); omega
      · have h1 := ha (2 * i) (by omega)
        have h2 := ha (2 * i + 1) (by omega)
        simp -implicitDefEqProofs (maxSteps := 9000000) (disch := first | omega | (simp only [List.length_set, List.length_append, List.length_cons, List.length_nil]; omega)) only [go_sem]
        rw [show l.getD (2 * i + 1) 0 - l.getD (2 * i) 0 = slcF l i from rfl]
        refine app_int hu rfl ⟨by decide, by decide⟩ (by rw [tab_length]; omega) fun v' H' hu' _ => ?_
        (refine Go1.out ?_; repeat' ((with_reducible first | refine Go1.mk ?_ | ((first | refine Br.dec ?_ ?_ | refine Br.beq ?_ ?_ | refine Br.bne ?_ ?_ | refine Br.mk ?_ ?_) <;> intro h)) <;> try simp -implicitDefEqProofs (maxSteps := 9000000) (disch := first | omega | (simp only [List.length_set, List.length_append, List.length_cons, List.length_nil]; omega)) only [go_sem]))
        exact ⟨_, by omega, i + 1, v', by omega, allS hok (by omega), rfl, by rw [tab_succ]; exact hu', (by (repeat' apply And.intro) <;> (first | rfl | omega | (congr 1; omega) | assumption | (congr 1; assumption)))⟩
      · obtain rfl : i = x.length := by omega
        rw [slcP, if_pos ⟨by omega, (slcOk_iff _ _ _).2 hok⟩]
        exact IsL.two (.inr hu) (fun g => renL_ints g _) (fun _ => rfl)
    · exact ⟨0, .nil, by omega, fun j hj => by omega, rfl, .nil .., rfl, rfl, rfl, rfl, rfl⟩

def padF (x l : List Int) (i : Nat) : Int := l.getD (2 * i) 0 + x.getD i 0 + l.getD (2 * i + 1) 0
def padP (x l : List Int) : Sh := if l.length = 2 * x.length then (tab (padF x l) x.length, 0) else ([], 13)
theorem pad12_spec (x l : List Int) (hx : x.length ≤ 17592186044416) (hl : l.length ≤ 17592186044416) (ha : Att l) (hd : Att x) : Fc C 53 [.sl x.length (ints x), .sl l.length (ints l)] [] (fun v H => RSh v H (padP x l)) := by
  refine Fc.keep (Fc.bodyT mixed Try.func53 w53 rfl Try.ntmps53 Try.results53 (Nat.le_of_ble_eq_true rfl) ?_)
  (refine Go1.out ?_; repeat' ((with_reducible first | refine Go1.mk ?_ | ((first | refine Br.dec ?_ ?_ | refine Br.beq ?_ ?_ | refine Br.bne ?_ ?_ | refine Br.mk ?_ ?_) <;> intro h)) <;> try simp -implicitDefEqProofs (maxSteps := 9000000) (disch := first | omega | (simp only [List.length_set, List.length_append, List.length_cons, List.length_nil]; omega)) only [go_sem]))
  · rw [padP, if_neg (by omega)]; exact two_nil (fun _ => rfl)
  · skip
    refine TT_loop_inv (fun n ts H => ∃ i u, (i ≤ x.length) ∧ (n = x.length - i) ∧ (Bv.Own 3 1 H u (tab (padF x l) i).length (ints (tab (padF x l) i))) ∧ ts.length = 41 ∧ nth ts 0 = .sl x.length (ints x) ∧ nth ts 1 = .sl l.length (ints l) ∧ nth ts 6 = u ∧ nth ts 7 = .int .i64 i) ?_ (n := x.length) ?_
    · skip
      rintro n ts H ⟨i, u, hi, hn, hu, hL, hs0, hs1, hs6, hs7⟩
      refine TT_env [(0, .sl x.length (ints x)), (1, .sl l.length (ints l)), (6, u), (7, .int .i64 i)] hL (by simp only [List.forall_mem_cons, hs0, hs1, hs6, hs7, true_and]; exact fun _ h => nomatch h) ?_
      clear hL hs0 hs1 hs6 hs7 ts
      refine TT_of mixed ?_
      subst hn
      by_cases hlt : i < x.length
      · have h1 := ha (2 * i) (by omega)
        have h2 := ha (2 * i + 1) (by omega)
        have h3 := hd i (by omega)
        (refine Go1.out ?_; repeat' ((with_reducible first | refine Go1.mk ?_ | ((first | refine Br.dec ?_ ?_ | refine Br.beq ?_ ?_ | refine Br.bne ?_ ?_ | refine Br.mk ?_ ?_) <;> intro h)) <;> try simp -implicitDefEqProofs (maxSteps := 9000000) (disch := first | omega | (simp only [List.length_set, List.length_append, List.length_cons, List.length_nil]; omega)) only [go_sem]))
        rw [show l.getD (2 * i) 0 + x.getD i 0 + l.getD (2 * i + 1) 0 = padF x l i from rfl]
        refine app_int hu rfl ⟨by decide, by decide⟩ (by rw [tab_length]; omega) fun v' H' hu' _ => ?_
        (refine Go1.out ?_; repeat' ((with_reducible first | refine Go1.mk ?_ | ((first | refine Br.dec ?_ ?_ | refine Br.beq ?_ ?_ | refine Br.bne ?_ ?_ | refine Br.mk ?_ ?_) <;> intro h)) <;> try simp -implicitDefEqProofs (maxSteps := 9000000) (disch := first | omega | (simp only [List.length_set, List.length_append, List.length_cons, List.length_nil]; omega)) only [go_sem]))
        exact ⟨_, by omega, i + 1, v', by omega, rfl, by rw [tab_succ]; exact hu', (by (repeat' apply And.intro) <;> (first | rfl | omega | (congr 1; omega) | assumption | (congr 1; assumption)))⟩
      · obtain rfl : i = x.length := by omega
        (refine Go1.out ?_; repeat' ((with_reducible first | refine Go1.mk ?_ | ((first | refine Br.dec ?_ ?_ | refine Br.beq ?_ ?_ | refine Br.bne ?_ ?_ | refine Br.mk ?_ ?_) <;> intro h)) <;> try simp -implicitDefEqProofs (maxSteps := 9000000) (disch := first | omega | (simp only [List.length_set, List.length_append, List.length_cons, List.length_nil]; omega)) only [go_sem]))
        rw [padP, if_pos (by omega)]
        exact IsL.two (.inr hu) (fun g => renL_ints g _) (fun _ => rfl)
    · exact ⟨0, .nil, by omega, rfl, .nil .., rfl, rfl, rfl, rfl, rfl⟩
/-- The shape of what is put together. -/
def conOk (axis : Nat) (l : List (List Int)) (k : Nat) : Prop := (l.getD k []).length = (l.getD 0 []).length ∧ ∀ i, i < (l.getD 0 []).length → i ≠ axis → (l.getD k []).getD i 0 = (l.getD 0 []).getD i 0
instance (axis : Nat) (l : List (List Int)) (k : Nat) : Decidable (conOk axis l k) := inferInstanceAs (Decidable (_ ∧ ∀ i, i < _ → _))
def conB (axis : Nat) (l : List (List Int)) (n : Nat) : Bool := (List.range n).all fun k => decide (1 ≤ k → conOk axis l k)
theorem conB_iff (axis : Nat) (l : List (List Int)) (n : Nat) : conB axis l n = true ↔ ∀ k, k < n → 1 ≤ k → conOk axis l k := by simp only [conB, List.all_eq_true, List.mem_range, decide_eq_true_eq]
/-- The sum along the dimension, of the first few. -/
def conS (axis : Nat) (l : List (List Int)) : Nat → Int
  | 0 => 0
  | k + 1 => conS axis l k + (l.getD k []).getD axis 0
def concP (axis : Nat) (l : List (List Int)) : Sh := if axis < (l.getD 0 []).length ∧ conB axis l l.length = true then ((l.getD 0 []).set axis (conS axis l l.length), 0) else ([], 13)
theorem set_self (l : List Int) {i : Nat} (h : i < l.length) : l.set i (l.getD i 0) = l := by
  rw [show l.getD i 0 = l[i] by simp [List.getD, h]]; exact List.set_getElem_self ..
theorem conS_le {axis : Nat} {l : List (List Int)} (hd : ∀ k, k < l.length → ∀ i, 0 ≤ (l.getD k []).getD i 0 ∧ (l.getD k []).getD i 0 ≤ 1024) : ∀ k, k ≤ l.length → 0 ≤ conS axis l k ∧ conS axis l k ≤ 1024 * k
  | 0, _ => by simp [conS]
  | k + 1, h => by
    have h1 := conS_le (axis := axis) hd k (by omega)
    have h2 := hd k (by omega) axis
    simp only [conS]; omega
theorem concat12_spec (axis : Nat) (l : List (List Int)) (hax : axis ≤ 17592186044416) (h1 : 1 ≤ l.length) (hl : l.length ≤ 1000000) (hx : ∀ k, k < l.length → (l.getD k []).length ≤ 1000000) (hd : ∀ k, k < l.length → ∀ i, 0 ≤ (l.getD k []).getD i 0 ∧ (l.getD k []).getD i 0 ≤ 1024) : Fc C 54 [.int .i64 axis, .sl l.length (intss l)] [] (fun v H => RSh v H (concP axis l)) := by
  have hx0 := hx 0 h1
  refine Fc.keep (Fc.bodyT mixed Try.func54 w54 rfl Try.ntmps54 Try.results54 (Nat.le_of_ble_eq_true rfl) ?_)
  (refine Go1.out ?_; repeat' ((with_reducible first | refine Go1.mk ?_ | ((first | refine Br.dec ?_ ?_ | refine Br.beq ?_ ?_ | refine Br.bne ?_ ?_ | refine Br.mk ?_ ?_) <;> intro h)) <;> try simp -implicitDefEqProofs (maxSteps := 9000000) (disch := first | omega | (simp only [List.length_set, List.length_append, List.length_cons, List.length_nil]; omega)) only [go_sem]))
  · rw [concP, if_neg (by omega)]; exact two_nil (fun _ => rfl)
  · skip
    refine TT_loop_inv (fun n ts H => ∃ k, (1 ≤ k) ∧ (k ≤ l.length) ∧ (∀ j, j < k → 1 ≤ j → conOk axis l j) ∧ (n = l.length - k) ∧ (H = [some ⟨3, 1, ints ((l.getD 0 []).set axis (conS axis l k))⟩]) ∧ ts.length = 72 ∧ nth ts 0 = .int .i64 axis ∧ nth ts 1 = .sl l.length (intss l) ∧ nth ts 6 = .sl (l.getD 0 []).length (ints (l.getD 0 [])) ∧ nth ts 7 = .ref 0 0 (l.getD 0 []).length ∧ nth ts 8 = .int .i64 k) ?_ (n := l.length - 1) ?_
    · skip
      rintro n ts H ⟨k, hk1, hk, hok, hn, hH, hL, hs0, hs1, hs6, hs7, hs8⟩
      refine TT_env [(0, .int .i64 axis), (1, .sl l.length (intss l)), (6, .sl (l.getD 0 []).length (ints (l.getD 0 []))), (7, .ref 0 0 (l.getD 0 []).length), (8, .int .i64 k)] hL (by simp only [List.forall_mem_cons, hs0, hs1, hs6, hs7, hs8, true_and]; exact fun _ h => nomatch h) ?_
      clear hL hs0 hs1 hs6 hs7 hs8 ts
      refine TT_of mixed ?_
      subst hn hH
      by_cases hlt : k < l.length
      · have hxk := hx k hlt
        have bad : ¬ conOk axis l k → concP axis l = ([], 13) := fun hb => by
          rw [concP, if_neg]; rintro ⟨_, h2⟩; exact hb ((conB_iff _ _ _).1 h2 k hlt hk1)
        (refine Go1.out ?_; repeat' ((with_reducible first | refine Go1.mk ?_ | ((first | refine Br.dec ?_ ?_ | refine Br.beq ?_ ?_ | refine Br.bne ?_ ?_ | refine Br.mk ?_ ?_) <;> intro h)) <;> try simp -implicitDefEqProofs (maxSteps := 9000000) (disch := first | omega | (simp only [List.length_set, List.length_append, List.length_cons, List.length_nil]; omega)) only [go_sem]))
        · rw [bad (fun hc => by have := hc.1; omega)]; exact two_nil (fun _ => rfl)
        · skip
          refine TT_loop_inv (fun n ts H => ∃ i, (i ≤ (l.getD 0 []).length) ∧ (∀ j, j < i → j ≠ axis → (l.getD k []).getD j 0 = (l.getD 0 []).getD j 0) ∧ (n = (l.getD 0 []).length - i) ∧ (H = [some ⟨3, 1, ints ((l.getD 0 []).set axis (conS axis l k))⟩]) ∧ ts.length = 72 ∧ nth ts 0 = .int .i64 axis ∧ nth ts 1 = .sl l.length (intss l) ∧ nth ts 6 = .sl (l.getD 0 []).length (ints (l.getD 0 [])) ∧ nth ts 7 = .ref 0 0 (l.getD 0 []).length ∧ nth ts 8 = .int .i64 k ∧ nth ts 9 = .int .i64 i) ?_ (n := (l.getD 0 []).length) ?_
          · skip
            rintro n ts H ⟨i, hi, hii, hn, hH, hL, hs0, hs1, hs6, hs7, hs8, hs9⟩
            refine TT_env [(0, .int .i64 axis), (1, .sl l.length (intss l)), (6, .sl (l.getD 0 []).length (ints (l.getD 0 []))), (7, .ref 0 0 (l.getD 0 []).length), (8, .int .i64 k), (9, .int .i64 i)] hL (by simp only [List.forall_mem_cons, hs0, hs1, hs6, hs7, hs8, hs9, true_and]; exact fun _ h => nomatch h) ?_
            clear hL hs0 hs1 hs6 hs7 hs8 hs9 ts
            refine TT_of mixed ?_
            subst hn hH
            by_cases hlt2 : i < (l.getD 0 []).length
            · skip
              (refine Go1.out ?_; repeat' ((with_reducible first | refine Go1.mk ?_ | ((first | refine Br.dec ?_ ?_ | refine Br.beq ?_ ?_ | refine Br.bne ?_ ?_ | refine Br.mk ?_ ?_) <;> intro h)) <;> try simp -implicitDefEqProofs (maxSteps := 9000000) (disch := first | omega | (simp only [List.length_set, List.length_append, List.length_cons, List.length_nil]; omega)) only [go_sem]))
              · rw [bad (fun hc => h (hc.2 i (by omega) (by omega)))]; exact two_nil (fun _ => rfl)
              · exact ⟨_, by omega, i + 1, by omega, allS hii (fun _ => h), rfl, (by (repeat' apply And.intro) <;> (first | rfl | omega | (congr 1; omega) | assumption | (congr 1; assumption)))⟩
              · exact ⟨_, by omega, i + 1, by omega, allS hii (fun hne => by omega), rfl, (by (repeat' apply And.intro) <;> (first | rfl | omega | (congr 1; omega) | assumption | (congr 1; assumption)))⟩
            · obtain rfl : i = (l.getD 0 []).length := by omega
              have hb1 := conS_le (axis := axis) hd k hk
              have hb2 := hd k hlt axis
              (refine Go1.out ?_; repeat' ((with_reducible first | refine Go1.mk ?_ | ((first | refine Br.dec ?_ ?_ | refine Br.beq ?_ ?_ | refine Br.bne ?_ ?_ | refine Br.mk ?_ ?_) <;> intro h)) <;> try simp -implicitDefEqProofs (maxSteps := 9000000) (disch := first | omega | (simp only [List.length_set, List.length_append, List.length_cons, List.length_nil]; omega)) only [go_sem]))
              exact ⟨_, by omega, k + 1, by omega, by omega, allS hok (fun _ => ⟨by omega, hii⟩), rfl, by simp only [conS], (by (repeat' apply And.intro) <;> (first | rfl | omega | (congr 1; omega) | assumption | (congr 1; assumption)))⟩
          · exact ⟨0, by omega, fun j hj => by omega, rfl, rfl, rfl, rfl, rfl, rfl, rfl, rfl, rfl⟩
      · obtain rfl : k = l.length := by omega
        (refine Go1.out ?_; repeat' ((with_reducible first | refine Go1.mk ?_ | ((first | refine Br.dec ?_ ?_ | refine Br.beq ?_ ?_ | refine Br.bne ?_ ?_ | refine Br.mk ?_ ?_) <;> intro h)) <;> try simp -implicitDefEqProofs (maxSteps := 9000000) (disch := first | omega | (simp only [List.length_set, List.length_append, List.length_cons, List.length_nil]; omega)) only [go_sem]))
        rw [concP, if_pos ⟨by omega, (conB_iff _ _ _).2 hok⟩]
        refine IsL.two (e := 3) (s := 1) (.inr (.inr ⟨0, ?_, rfl, ?_⟩)) (fun g => renL_ints g _) (fun _ => rfl)
        · simp
        · simp [ints]
    · refine ⟨1, by omega, by omega, fun j h1 h2 => by omega, rfl, ?_, rfl, rfl, rfl, rfl, rfl, rfl⟩
      simp only [conS, Int.zero_add]
      rw [set_self _ (by omega)]
end Go.Proofs.Ytlomgfdepllanaa
end

section
set_option linter.unusedSimpArgs false
set_option linter.unusedVariables false
set_option maxRecDepth 100000
set_option pp.maxSteps 1500
set_option maxHeartbeats 4000000
namespace Go.Proofs.Ytlomgfdepllanaa
open Go.Bv
def comeP (o : Int) (a : List Int) (l : List (List Int)) : Sh :=
  if o = 1 ∨ o = 2 ∨ o = 3 ∨ o = 4 then (if l.getD 0 [] = l.getD 1 [] then (l.getD 0 [], 0) else ([], 13))
  else if o = 10 then matP (l.getD 0 []) (l.getD 1 [])
  else if o = 19 then (if (matP (l.getD 0 []) (l.getD 1 [])).2 ≠ 0 then ([], (matP (l.getD 0 []) (l.getD 1 [])).2) else if mayP (matP (l.getD 0 []) (l.getD 1 [])).1 ≠ 0 then ([], 14) else if fitsP (l.getD 2 []) (matP (l.getD 0 []) (l.getD 1 [])).1 ≠ 0 then ([], 13) else ((matP (l.getD 0 []) (l.getD 1 [])).1, 0))
  else if o = 11 then (if a.length = (l.getD 0 []).length then (tab (fun i => (l.getD 0 []).getD (a.getD i 0).toNat 0) a.length, 0) else ([], 13))
  else if o = 12 then (if countP a = countP (l.getD 0 []) then (a, 0) else ([], 13))
  else if o = 13 then (if fitsP (l.getD 0 []) a = 0 then (a, 0) else ([], 13))
  else if o = 14 ∨ o = 20 then (if a.length > 0 ∧ a.getD (a.length - 1) 0 ≥ (l.getD 0 []).length then ([], 13) else (dropP (l.getD 0 []) a (l.getD 0 []).length, 0))
  else if o = 15 then slcP (l.getD 0 []) a
  else if o = 16 then padP (l.getD 0 []) a
  else if o = 17 then concP (a.getD 0 0).toNat l
  else (l.getD 0 [], 0)
structure ComeOK (o : Int) (a : List Int) (l : List (List Int)) : Prop where
  one : 1 ≤ l.length
  few : l.length ≤ 1000
  two : (o = 1 ∨ o = 2 ∨ o = 3 ∨ o = 4 ∨ o = 10 ∨ o = 19) → 2 ≤ l.length
  three : o = 19 → 3 ≤ l.length
  rank : ∀ k, k < l.length → (l.getD k []).length ≤ 4
  dim : ∀ k, k < l.length → ∀ i, 0 ≤ (l.getD k []).getD i 0 ∧ (l.getD k []).getD i 0 ≤ 1024
  len : a.length ≤ 17592186044416
  att : Att a
  perm : o = 11 → ∀ i, i < a.length → 0 ≤ a.getD i 0 ∧ a.getD i 0 < a.length
  axis : o = 17 → a.length = 1 ∧ 0 ≤ a.getD 0 0 ∧ a.getD 0 0 ≤ 3
/-- A shape and an error, by value. -/
def shV (r : Sh) : V := .tup [.sl r.1.length (ints r.1), .int .i64 r.2]
theorem shV_eq (r : Sh) : shV r = .tup [.sl r.1.length (ints r.1), .int .i64 r.2] := rfl
attribute [go_sem] shV_eq
theorem Fc.valS {f : FuncId} {args : List V} {r : Sh} (h : Fc C f args [] fun v H => RSh v H r) : Pu C f args (shV r) := Fc.val2 h (cloL_ints _) rfl
theorem sh_sl {H : Heap} (s : List Int) (e : Int) : ∃ sel, keepw sel (fun v H => RSh v H (s, e)) (.tup [.sl s.length (ints s), .int .i64 e]) H :=
  IsL.two (.inl rfl) (fun g => renL_ints g _) (fun _ => rfl)
theorem sh_no {H : Heap} (e : Int) : ∃ sel, keepw sel (fun v H => RSh v H ([], e)) (.tup [.nil, .int .i64 e]) H := two_nil (fun _ => rfl)

theorem come12_spec (o : Int) (a : List Int) (l : List (List Int)) (h : ComeOK o a l) : Fc C 26 [.int .i64 o, .sl a.length (ints a), .sl l.length (intss l)] [] (fun v H => RSh v H (comeP o a l)) := by
  obtain ⟨c1, c2, c3, c4, c5, c6, c7, c8, c9, c10⟩ := h
  have r0 := c5 0 c1
  have mat : ∀ k, k < l.length → (l.getD k []).length ≤ 17592186044416 := fun k hk => by have := c5 k hk; omega
  refine Fc.keep (Fc.bodyT mixed Try.func26 w26 rfl Try.ntmps26 Try.results26 (Nat.le_of_ble_eq_true rfl) ?_)
  (refine Go1.out ?_; repeat' ((with_reducible first | refine Go1.mk ?_ | ((first | refine Br.dec ?_ ?_ | refine Br.beq ?_ ?_ | refine Br.bne ?_ ?_ | refine Br.mk ?_ ?_) <;> intro h)) <;> try simp -implicitDefEqProofs (maxSteps := 9000000) (disch := first | omega | (simp only [List.length_set, List.length_append, List.length_cons, List.length_nil]; omega)) only [go_sem]))
  iterate 4
    · skip
      refine Fc.pure (SameList_spec _ _ (mat 0 c1)) (by simp [cloL, clo, cloL_ints, cloL_intss]) (by intro g; simp only [go_sem, ren, renL]) ?_
      (refine Go1.out ?_; repeat' ((with_reducible first | refine Go1.mk ?_ | ((first | refine Br.dec ?_ ?_ | refine Br.beq ?_ ?_ | refine Br.bne ?_ ?_ | refine Br.mk ?_ ?_) <;> intro h)) <;> try simp -implicitDefEqProofs (maxSteps := 9000000) (disch := first | omega | (simp only [List.length_set, List.length_append, List.length_cons, List.length_nil]; omega)) only [go_sem]))
      · rw [comeP, if_pos (by omega), if_pos (by assumption)]
        exact sh_sl _ _
      · rw [comeP, if_pos (by omega), if_neg (by assumption)]
        exact sh_no _
  · have l2 := c3 (by omega)
    refine Fc.pure (Fc.valS (matrix12_spec _ _ (mat 0 c1) (mat 1 l2))) (by simp [cloL, clo, cloL_ints, cloL_intss]) (by intro g; simp only [go_sem, ren, renL]) ?_
    (refine Go1.out ?_; repeat' ((with_reducible first | refine Go1.mk ?_ | ((first | refine Br.dec ?_ ?_ | refine Br.beq ?_ ?_ | refine Br.bne ?_ ?_ | refine Br.mk ?_ ?_) <;> intro h)) <;> try simp -implicitDefEqProofs (maxSteps := 9000000) (disch := first | omega | (simp only [List.length_set, List.length_append, List.length_cons, List.length_nil]; omega)) only [go_sem]))
    rw [comeP, if_neg (by omega), if_pos (by omega)]
    exact sh_sl _ _
  · have l2 := c3 (by omega)
    have l3 := c4 (by omega)
    refine Fc.pure (Fc.valS (matrix12_spec _ _ (mat 0 c1) (mat 1 l2))) (by simp [cloL, clo, cloL_ints, cloL_intss]) (by intro g; simp only [go_sem, ren, renL]) ?_
    have hc : comeP o a l = (if (matP (l.getD 0 []) (l.getD 1 [])).2 ≠ 0 then ([], (matP (l.getD 0 []) (l.getD 1 [])).2) else if mayP (matP (l.getD 0 []) (l.getD 1 [])).1 ≠ 0 then ([], 14) else if fitsP (l.getD 2 []) (matP (l.getD 0 []) (l.getD 1 [])).1 ≠ 0 then ([], 13) else ((matP (l.getD 0 []) (l.getD 1 [])).1, 0)) := by
      rw [comeP, if_neg (by omega), if_neg (by omega), if_pos (by omega)]
    have hml : (matP (l.getD 0 []) (l.getD 1 [])).1.length ≤ 2 := by unfold matP; split <;> simp
    generalize matP (l.getD 0 []) (l.getD 1 []) = m at hc hml ⊢
    (refine Go1.out ?_; repeat' ((with_reducible first | refine Go1.mk ?_ | ((first | refine Br.dec ?_ ?_ | refine Br.beq ?_ ?_ | refine Br.bne ?_ ?_ | refine Br.mk ?_ ?_) <;> intro h)) <;> try simp -implicitDefEqProofs (maxSteps := 9000000) (disch := first | omega | (simp only [List.length_set, List.length_append, List.length_cons, List.length_nil]; omega)) only [go_sem]))
    · rw [hc, if_pos (by assumption)]; exact sh_no _
    · skip
      refine Fc.pure (May6_spec _ (by omega)) (by simp [cloL, clo, cloL_ints, cloL_intss]) (by intro g; simp only [go_sem, ren, renL]) ?_
      (refine Go1.out ?_; repeat' ((with_reducible first | refine Go1.mk ?_ | ((first | refine Br.dec ?_ ?_ | refine Br.beq ?_ ?_ | refine Br.bne ?_ ?_ | refine Br.mk ?_ ?_) <;> intro h)) <;> try simp -implicitDefEqProofs (maxSteps := 9000000) (disch := first | omega | (simp only [List.length_set, List.length_append, List.length_cons, List.length_nil]; omega)) only [go_sem]))
      · rw [hc, if_neg (by omega), if_pos (by assumption)]; exact sh_no _
      · skip
        refine Fc.pure (Fits6_spec _ _ (mat 2 l3) (by omega)) (by simp [cloL, clo, cloL_ints, cloL_intss]) (by intro g; simp only [go_sem, ren, renL]) ?_
        (refine Go1.out ?_; repeat' ((with_reducible first | refine Go1.mk ?_ | ((first | refine Br.dec ?_ ?_ | refine Br.beq ?_ ?_ | refine Br.bne ?_ ?_ | refine Br.mk ?_ ?_) <;> intro h)) <;> try simp -implicitDefEqProofs (maxSteps := 9000000) (disch := first | omega | (simp only [List.length_set, List.length_append, List.length_cons, List.length_nil]; omega)) only [go_sem]))
        · rw [hc, if_neg (by omega), if_neg (by omega), if_pos (by assumption)]; exact sh_no _
        · rw [hc, if_neg (by omega), if_neg (by omega), if_neg (by omega)]; exact sh_sl _ _
  · rw [comeP, if_neg (by omega), if_neg (by omega), if_neg (by omega), if_pos (by omega), if_neg (by omega)]
    exact sh_no _
  · have hc : comeP o a l = (tab (fun i => (l.getD 0 []).getD (a.getD i 0).toNat 0) a.length, 0) := by
      rw [comeP, if_neg (by omega), if_neg (by omega), if_neg (by omega), if_pos (by omega), if_pos (by omega)]
    have c9 := c9 (by omega)
    rw [hc]
    refine TT_loop_inv (fun n ts H => ∃ i u, (i ≤ a.length) ∧ (n = a.length - i) ∧ (Bv.Own 3 1 H u (tab (fun i => (l.getD 0 []).getD (a.getD i 0).toNat 0) i).length (ints (tab (fun i => (l.getD 0 []).getD (a.getD i 0).toNat 0) i))) ∧ ts.length = 144 ∧ nth ts 1 = .sl a.length (ints a) ∧ nth ts 8 = .sl (l.getD 0 []).length (ints (l.getD 0 [])) ∧ nth ts 11 = u ∧ nth ts 12 = .int .i64 i) ?_ (n := a.length) ?_
    · skip
      rintro n ts H ⟨i, u, hi, hn, hu, hL, hs1, hs8, hs11, hs12⟩
      refine TT_env [(1, .sl a.length (ints a)), (8, .sl (l.getD 0 []).length (ints (l.getD 0 []))), (11, u), (12, .int .i64 i)] hL (by simp only [List.forall_mem_cons, hs1, hs8, hs11, hs12, true_and]; exact fun _ h => nomatch h) ?_
      clear hL hs1 hs8 hs11 hs12 ts
      refine TT_of mixed ?_
      subst hn
      by_cases hlt : i < a.length
      · have hp := c9 i hlt
        (refine Go1.out ?_; repeat' ((with_reducible first | refine Go1.mk ?_ | ((first | refine Br.dec ?_ ?_ | refine Br.beq ?_ ?_ | refine Br.bne ?_ ?_ | refine Br.mk ?_ ?_) <;> intro h)) <;> try simp -implicitDefEqProofs (maxSteps := 9000000) (disch := first | omega | (simp only [List.length_set, List.length_append, List.length_cons, List.length_nil]; omega)) only [go_sem]))
        refine app_int hu rfl ⟨by decide, by decide⟩ (by rw [tab_length]; omega) fun v' H' hu' _ => ?_
        (refine Go1.out ?_; repeat' ((with_reducible first | refine Go1.mk ?_ | ((first | refine Br.dec ?_ ?_ | refine Br.beq ?_ ?_ | refine Br.bne ?_ ?_ | refine Br.mk ?_ ?_) <;> intro h)) <;> try simp -implicitDefEqProofs (maxSteps := 9000000) (disch := first | omega | (simp only [List.length_set, List.length_append, List.length_cons, List.length_nil]; omega)) only [go_sem]))
        exact ⟨_, by omega, i + 1, v', by omega, rfl, by rw [tab_succ]; exact hu', (by (repeat' apply And.intro) <;> (first | rfl | omega | (congr 1; omega) | assumption | (congr 1; assumption)))⟩
      · obtain rfl : i = a.length := by omega
        (refine Go1.out ?_; repeat' ((with_reducible first | refine Go1.mk ?_ | ((first | refine Br.dec ?_ ?_ | refine Br.beq ?_ ?_ | refine Br.bne ?_ ?_ | refine Br.mk ?_ ?_) <;> intro h)) <;> try simp -implicitDefEqProofs (maxSteps := 9000000) (disch := first | omega | (simp only [List.length_set, List.length_append, List.length_cons, List.length_nil]; omega)) only [go_sem]))
        exact IsL.two (.inr hu) (fun g => renL_ints g _) (fun _ => rfl)
    · exact ⟨0, .nil, by omega, rfl, .nil .., rfl, rfl, rfl, rfl, rfl⟩
  · skip
    refine Fc.pure (Count6_spec a (by omega)) (by simp [cloL, clo, cloL_ints, cloL_intss]) (by intro g; simp only [go_sem, ren, renL]) ?_
    (refine Go1.out ?_; repeat' ((with_reducible first | refine Go1.mk ?_ | ((first | refine Br.dec ?_ ?_ | refine Br.beq ?_ ?_ | refine Br.bne ?_ ?_ | refine Br.mk ?_ ?_) <;> intro h)) <;> try simp -implicitDefEqProofs (maxSteps := 9000000) (disch := first | omega | (simp only [List.length_set, List.length_append, List.length_cons, List.length_nil]; omega)) only [go_sem]))
    refine Fc.pure (Count6_spec _ (mat 0 c1)) (by simp [cloL, clo, cloL_ints, cloL_intss]) (by intro g; simp only [go_sem, ren, renL]) ?_
    have hc : comeP o a l = (if countP a = countP (l.getD 0 []) then (a, 0) else ([], 13)) := by
      rw [comeP, if_neg (by omega), if_neg (by omega), if_neg (by omega), if_neg (by omega), if_pos (by omega)]
    (refine Go1.out ?_; repeat' ((with_reducible first | refine Go1.mk ?_ | ((first | refine Br.dec ?_ ?_ | refine Br.beq ?_ ?_ | refine Br.bne ?_ ?_ | refine Br.mk ?_ ?_) <;> intro h)) <;> try simp -implicitDefEqProofs (maxSteps := 9000000) (disch := first | omega | (simp only [List.length_set, List.length_append, List.length_cons, List.length_nil]; omega)) only [go_sem]))
    · rw [hc, if_neg (by assumption)]; exact sh_no _
    · rw [hc, if_pos (by assumption)]; exact sh_sl _ _
  · skip
    refine Fc.pure (Fits6_spec _ _ (mat 0 c1) (by omega)) (by simp [cloL, clo, cloL_ints, cloL_intss]) (by intro g; simp only [go_sem, ren, renL]) ?_
    have hc : comeP o a l = (if fitsP (l.getD 0 []) a = 0 then (a, 0) else ([], 13)) := by
      rw [comeP, if_neg (by omega), if_neg (by omega), if_neg (by omega), if_neg (by omega), if_neg (by omega), if_pos (by omega)]
    (refine Go1.out ?_; repeat' ((with_reducible first | refine Go1.mk ?_ | ((first | refine Br.dec ?_ ?_ | refine Br.beq ?_ ?_ | refine Br.bne ?_ ?_ | refine Br.mk ?_ ?_) <;> intro h)) <;> try simp -implicitDefEqProofs (maxSteps := 9000000) (disch := first | omega | (simp only [List.length_set, List.length_append, List.length_cons, List.length_nil]; omega)) only [go_sem]))
    · rw [hc, if_neg (by assumption)]; exact sh_no _
    · rw [hc, if_pos (by assumption)]; exact sh_sl _ _
  iterate 2
    · rw [comeP]; (repeat rw [if_neg (by omega)]); rw [if_pos (by omega), if_pos (by omega)]
      exact sh_no _
    · rw [comeP]; (repeat rw [if_neg (by omega)]); rw [if_pos (by omega), if_neg (by omega)]
      refine Fc.pure (Fc.valO (Drop6_spec _ _ (mat 0 c1) (by omega)) (cloL_ints _)) (by simp [cloL, clo, cloL_ints, cloL_intss]) (by intro g; simp only [go_sem, ren, renL]) ?_
      (refine Go1.out ?_; repeat' ((with_reducible first | refine Go1.mk ?_ | ((first | refine Br.dec ?_ ?_ | refine Br.beq ?_ ?_ | refine Br.bne ?_ ?_ | refine Br.mk ?_ ?_) <;> intro h)) <;> try simp -implicitDefEqProofs (maxSteps := 9000000) (disch := first | omega | (simp only [List.length_set, List.length_append, List.length_cons, List.length_nil]; omega)) only [go_sem]))
      exact sh_sl _ _
    · rw [comeP]; (repeat rw [if_neg (by omega)]); rw [if_pos (by omega), if_neg (by omega)]
      refine Fc.pure (Fc.valO (Drop6_spec _ _ (mat 0 c1) (by omega)) (cloL_ints _)) (by simp [cloL, clo, cloL_ints, cloL_intss]) (by intro g; simp only [go_sem, ren, renL]) ?_
      (refine Go1.out ?_; repeat' ((with_reducible first | refine Go1.mk ?_ | ((first | refine Br.dec ?_ ?_ | refine Br.beq ?_ ?_ | refine Br.bne ?_ ?_ | refine Br.mk ?_ ?_) <;> intro h)) <;> try simp -implicitDefEqProofs (maxSteps := 9000000) (disch := first | omega | (simp only [List.length_set, List.length_append, List.length_cons, List.length_nil]; omega)) only [go_sem]))
      exact sh_sl _ _
  · rw [comeP]; (repeat rw [if_neg (by omega)]); rw [if_pos (by omega)]
    refine Fc.pure (Fc.valS (slice12_spec _ _ (mat 0 c1) (by omega) c8)) (by simp [cloL, clo, cloL_ints, cloL_intss]) (by intro g; simp only [go_sem, ren, renL]) ?_
    (refine Go1.out ?_; repeat' ((with_reducible first | refine Go1.mk ?_ | ((first | refine Br.dec ?_ ?_ | refine Br.beq ?_ ?_ | refine Br.bne ?_ ?_ | refine Br.mk ?_ ?_) <;> intro h)) <;> try simp -implicitDefEqProofs (maxSteps := 9000000) (disch := first | omega | (simp only [List.length_set, List.length_append, List.length_cons, List.length_nil]; omega)) only [go_sem]))
    exact sh_sl _ _
  · rw [comeP]; (repeat rw [if_neg (by omega)]); rw [if_pos (by omega)]
    refine Fc.pure (Fc.valS (pad12_spec _ _ (mat 0 c1) (by omega) c8 (fun i _ => by have := c6 0 c1 i; omega))) (by simp [cloL, clo, cloL_ints, cloL_intss]) (by intro g; simp only [go_sem, ren, renL]) ?_
    (refine Go1.out ?_; repeat' ((with_reducible first | refine Go1.mk ?_ | ((first | refine Br.dec ?_ ?_ | refine Br.beq ?_ ?_ | refine Br.bne ?_ ?_ | refine Br.mk ?_ ?_) <;> intro h)) <;> try simp -implicitDefEqProofs (maxSteps := 9000000) (disch := first | omega | (simp only [List.length_set, List.length_append, List.length_cons, List.length_nil]; omega)) only [go_sem]))
    exact sh_sl _ _
  · rw [comeP]; (repeat rw [if_neg (by omega)]); rw [if_pos (by omega)]
    have h17 := c10 (by omega)
    have e : a.getD 0 0 = ((a.getD 0 0).toNat : Int) := by omega
    generalize (a.getD 0 0).toNat = x at e
    rw [e]
    refine Fc.pure (Fc.valS (concat12_spec x l (by omega) c1 (by omega) (fun k hk => by have := c5 k hk; omega) c6)) (by simp [cloL, clo, cloL_ints, cloL_intss]) (by intro g; simp only [go_sem, ren, renL]) ?_
    (refine Go1.out ?_; repeat' ((with_reducible first | refine Go1.mk ?_ | ((first | refine Br.dec ?_ ?_ | refine Br.beq ?_ ?_ | refine Br.bne ?_ ?_ | refine Br.mk ?_ ?_) <;> intro h)) <;> try simp -implicitDefEqProofs (maxSteps := 9000000) (disch := first | omega | (simp only [List.length_set, List.length_append, List.length_cons, List.length_nil]; omega)) only [go_sem]))
    exact sh_sl _ _
  · rw [comeP]; (repeat rw [if_neg (by omega)])
    exact sh_sl _ _

theorem dropP_le (x axes : List Int) (i : Nat) : (dropP x axes i).length ≤ i := dropP_length x axes i
theorem comeP_len {o : Int} {a : List Int} {l : List (List Int)} (h : ComeOK o a l) : (comeP o a l).1.length ≤ 17592186044416 := by
  have r0 := h.rank 0 h.one
  have hlen := h.len
  have hm : (matP (l.getD 0 []) (l.getD 1 [])).1.length ≤ 2 := by unfold matP; split <;> simp
  have hd := dropP_length (l.getD 0 []) a (l.getD 0 []).length
  have hs : (slcP (l.getD 0 []) a).1.length ≤ 4 := by unfold slcP; split <;> simp only [tab_length, List.length_nil] <;> omega
  have hp : (padP (l.getD 0 []) a).1.length ≤ 4 := by unfold padP; split <;> simp only [tab_length, List.length_nil] <;> omega
  have hq : (concP (a.getD 0 0).toNat l).1.length ≤ 4 := by unfold concP; split <;> simp only [List.length_set, List.length_nil] <;> omega
  unfold comeP
  simp only [apply_ite Prod.fst, apply_ite List.length, tab_length, List.length_nil]
  repeat' split
  all_goals omega
theorem Lists_spec (l : List (List Int)) (hl : l.length ≤ 1000000) : Fc C 12 [.sl l.length (intss l)] [] (fun v H => Ret 23 1 H v l.length (intss l)) := by
  refine Fc.keep (Fc.bodyT mixed Try.func12 w12 rfl Try.ntmps12 Try.results12 (Nat.le_of_ble_eq_true rfl) ?_)
  (refine Go1.out ?_; repeat' ((with_reducible first | refine Go1.mk ?_ | ((first | refine Br.dec ?_ ?_ | refine Br.beq ?_ ?_ | refine Br.bne ?_ ?_ | refine Br.mk ?_ ?_) <;> intro h)) <;> try simp -implicitDefEqProofs (maxSteps := 9000000) (disch := first | omega | (simp only [List.length_set, List.length_append, List.length_cons, List.length_nil]; omega)) only [go_sem]))
  refine TT_loop_inv (fun n ts H => ∃ i u, (i ≤ l.length) ∧ (n = l.length - i) ∧ (Bv.Own 23 1 H u i (intss (l.take i))) ∧ ts.length = 19 ∧ nth ts 0 = .sl l.length (intss l) ∧ nth ts 3 = u ∧ nth ts 4 = .int .i64 i) ?_ (n := l.length) ?_
  · skip
    rintro n ts H ⟨i, u, hi, hn, hu, hL, hs0, hs3, hs4⟩
    refine TT_env [(0, .sl l.length (intss l)), (3, u), (4, .int .i64 i)] hL (by simp only [List.forall_mem_cons, hs0, hs3, hs4, true_and]; exact fun _ h => nomatch h) ?_
    clear hL hs0 hs3 hs4 ts
    refine TT_of mixed ?_
    subst hn
    (refine Go1.out ?_; repeat' ((with_reducible first | refine Go1.mk ?_ | ((first | refine Br.dec ?_ ?_ | refine Br.beq ?_ ?_ | refine Br.bne ?_ ?_ | refine Br.mk ?_ ?_) <;> intro h)) <;> try simp -implicitDefEqProofs (maxSteps := 9000000) (disch := first | omega | (simp only [List.length_set, List.length_append, List.length_cons, List.length_nil]; omega)) only [go_sem]))
    · refine app_one hu rfl ⟨by decide, by decide⟩ (by omega) rfl (intss_scal _) fun v' H' hu' _ => ?_
      (refine Go1.out ?_; repeat' ((with_reducible first | refine Go1.mk ?_ | ((first | refine Br.dec ?_ ?_ | refine Br.beq ?_ ?_ | refine Br.bne ?_ ?_ | refine Br.mk ?_ ?_) <;> intro h)) <;> try simp -implicitDefEqProofs (maxSteps := 9000000) (disch := first | omega | (simp only [List.length_set, List.length_append, List.length_cons, List.length_nil]; omega)) only [go_sem]))
      exact ⟨_, by omega, i + 1, v', by omega, rfl, by rw [intss_take l (by omega)]; exact hu', (by (repeat' apply And.intro) <;> (first | rfl | omega | (congr 1; omega) | assumption | (congr 1; assumption)))⟩
    · obtain rfl : i = l.length := by omega
      rw [List.take_of_length_le (Nat.le_refl _)] at hu
      exact hu.ret (fun g => renL_intss g _) fun v H h => h
  · exact ⟨0, .nil, by omega, rfl, .nil .., rfl, rfl, rfl, rfl⟩

/-- The first error of a list of shapes. -/
def mayL : List (List Int) → Int
  | [] => 0
  | s :: l => if mayP s ≠ 0 then mayP s else mayL l
theorem mayL_zero {l : List (List Int)} : mayL l = 0 ↔ ∀ s ∈ l, mayP s = 0 := by
  induction l with
  | nil => simp [mayL]
  | cons s l ih =>
    simp only [mayL, List.mem_cons, forall_eq_or_imp]
    split
    · rename_i h; simp [h]
    · rename_i h; simp only [ne_eq, Decidable.not_not] at h; simp [h, ih]
theorem mayL_at {l : List (List Int)} {i : Nat} (h : ∀ j, j < i → mayP (l.getD j []) = 0) (hi : i < l.length) (hn : mayP (l.getD i []) ≠ 0) : mayL l = mayP (l.getD i []) := by
  induction l generalizing i with
  | nil => simp at hi
  | cons s l ih =>
    cases i with
    | zero => simp only [mayL, List.getD_cons_zero] at hn ⊢; rw [if_pos hn]
    | succ i =>
      have h0 := h 0 (by omega)
      simp only [List.getD_cons_zero] at h0
      simp only [mayL, List.getD_cons_succ] at hn ⊢
      rw [if_neg (by simp [h0])]
      exact ih (fun j hj => by have := h (j + 1) (by omega); simpa using this) (by simpa using hi) hn
theorem mayL_all {l : List (List Int)} (h : ∀ j, j < l.length → mayP (l.getD j []) = 0) : mayL l = 0 := by
  refine mayL_zero.2 fun s hs => ?_
  obtain ⟨j, hj, rfl⟩ := List.mem_iff_getElem.1 hs
  have := h j hj
  simpa [List.getD, hj] using this
/-- A node's shape, and an error. -/
def shapeP (v : Int) (n : Nd) (l : List (List Int)) : Sh :=
  if checkP v n ≠ 0 then ([], checkP v n) else if l.length ≠ n.args.length then ([], 10) else if mayL l ≠ 0 then ([], mayL l)
  else if (comeP n.op (explP v n (l.getD 0 []).length) l).2 ≠ 0 then ([], (comeP n.op (explP v n (l.getD 0 []).length) l).2)
  else if mayP (comeP n.op (explP v n (l.getD 0 []).length) l).1 ≠ 0 then ([], 14) else comeP n.op (explP v n (l.getD 0 []).length) l

theorem checkP_zero {v : Int} {d : Nd} (h : checkP v d = 0) : (1 ≤ v ∧ v ≤ 3) ∧ inP d.op v = true ∧ least d.op ≤ d.args.length ∧ d.args.length ≤ most d.op ∧ ((d.attrs.length = 0 ∧ noneP v d.op = true) ∨ attrsP d.op d.attrs = true) := by
  unfold checkP at h
  grind
theorem inP_op {o v : Int} (h : inP o v = true) : 1 ≤ o ∧ o ≤ 20 := by
  simp only [inP, decide_eq_true_eq] at h; omega
theorem up_getD {k i : Nat} (h : i < k) : (up k).getD i 0 = i := by simp [up, List.getD, h]
theorem down_getD {k i : Nat} (h : i < k) : (down k).getD i 0 = (k : Int) - 1 - i := by
  have := down_take k i h
  have h2 : ((down k).take (i + 1)).getD i 0 = (down k).getD i 0 := by simp [List.getD, List.getElem?_take, h]
  rw [← h2, this]
  have hl : ((down k).take i).length = i := take_len (by rw [down_length]; omega)
  rw [List.getD_eq_getElem?_getD, List.getElem?_append_right (by omega), hl]; simp
theorem comeOK_of {v : Int} {d : Nd} {l : List (List Int)} (r : Nat) (hat : d.attrs.length ≤ 17592186044416) (hc : checkP v d = 0) (hl : l.length = d.args.length) (hm : ∀ j, j < l.length → mayP (l.getD j []) = 0) : ComeOK d.op (explP v d r) l := by
  obtain ⟨hv, hin, h1, h2, h3⟩ := checkP_zero hc
  have ho := inP_op hin
  have hdim : ∀ k, k < l.length → ∀ i, 0 ≤ (l.getD k []).getD i 0 ∧ (l.getD k []).getD i 0 ≤ 1024 := fun k hk i => by
    obtain ⟨_, g2, g3⟩ := mayP_zero (hm k hk)
    by_cases hi : i < (l.getD k []).length
    · have := all_getD.1 g2 i hi
      have := getD_le_prodL g2 hi
      omega
    · rw [List.getD_eq_getElem?_getD, List.getElem?_eq_none (by omega)]; simp
  have hfew : most d.op ≤ 8 := by unfold most least; omega
  have hone : 1 ≤ least d.op := by unfold least; omega
  refine ⟨by omega, by omega, fun h => ?_, fun h => ?_, fun k hk => (mayP_zero (hm k hk)).1, hdim, ?_, ?_, ?_, ?_⟩
  · have : 2 ≤ least d.op := by unfold least; omega
    omega
  · have : 3 ≤ least d.op := by unfold least; omega
    omega
  all_goals
    by_cases hex : checkP v d ≠ 0 ∨ d.attrs.length > 0 ∨ noneP v d.op = false
    · rw [explP, if_pos hex]
      have hatt : attrsP d.op d.attrs = true := by
        rcases h3 with ⟨h3, h4⟩ | h3
        · rcases hex with hex | hex | hex
          · exact (hex hc).elim
          · omega
          · rw [h4] at hex; cases hex
        · exact h3
      simp only [attrsP, Bool.and_eq_true, Bool.not_eq_true'] at hatt
      obtain ⟨hfar, hop⟩ := hatt
      first
        | exact hat
        | exact fun i hi => farB_false hfar hi
        | (intro h11 i hi
           rw [h11] at hop
           rw [show opAttrs 11 d.attrs = (permB d.attrs && decide (d.attrs.length ≤ 4)) from rfl] at hop
           simp only [Bool.and_eq_true] at hop
           have := (permB_iff _).1 hop.1 i hi
           exact ⟨this.1, this.2.1⟩)
        | (intro h17
           rw [h17] at hop
           rw [show opAttrs 17 d.attrs = decide (d.attrs.length = 1 ∧ 0 ≤ d.attrs.getD 0 0 ∧ d.attrs.getD 0 0 ≤ 3) from rfl] at hop
           exact of_decide_eq_true hop)
    · rw [explP, if_neg hex]
      generalize hR : (if r > 4 then 0 else r) = R
      have hR4 : R ≤ 4 := by split at hR <;> omega
      split
      · first
          | (show 1 ≤ _; omega)
          | (intro i hi; simp at hi; subst hi; simp)
          | (intro h11; omega)
      · split
        · first
            | (show 1 ≤ _; omega)
            | (intro i hi; simp at hi; subst hi; simp)
            | (intro h11; omega)
            | (intro h17; simp)
        · split
          · first
              | (rw [down_length]; omega)
              | (intro i hi; rw [down_length] at hi; rw [down_getD hi]; omega)
              | (intro h11 i hi; rw [down_length] at hi ⊢; rw [down_getD hi]; omega)
              | (intro h17; omega)
          · first
              | (rw [up_length]; omega)
              | (intro i hi; rw [up_length] at hi; rw [up_getD hi]; omega)
              | (intro h11; omega)
              | (intro h17; omega)
theorem Shape12_spec (v : Int) (d : Nd) (l : List (List Int)) (ha : d.args.length ≤ 17592186044416) (hat : d.attrs.length ≤ 17592186044416) (hl : l.length ≤ 1000000) (hk : ∀ k, k < l.length → (l.getD k []).length ≤ 17592186044416) : Fc C 11 [.int .i64 v, .agg (ndC d), .sl l.length (intss l)] [] (fun u H => RSh u H (shapeP v d l)) := by
  refine Fc.keep (Fc.bodyT mixed Try.func11 w11 rfl Try.ntmps11 Try.results11 (Nat.le_of_ble_eq_true rfl) ?_)
  (refine Go1.out ?_; repeat' ((with_reducible first | refine Go1.mk ?_ | ((first | refine Br.dec ?_ ?_ | refine Br.beq ?_ ?_ | refine Br.bne ?_ ?_ | refine Br.mk ?_ ?_) <;> intro h)) <;> try simp -implicitDefEqProofs (maxSteps := 9000000) (disch := first | omega | (simp only [List.length_set, List.length_append, List.length_cons, List.length_nil]; omega)) only [go_sem]))
  refine Fc.pure (Check11_spec v d ha hat) (by simp [cloL, clo, cloL_ints, cloL_intss]) (by intro g; simp only [go_sem, ren, renL]) ?_
  (refine Go1.out ?_; repeat' ((with_reducible first | refine Go1.mk ?_ | ((first | refine Br.dec ?_ ?_ | refine Br.beq ?_ ?_ | refine Br.bne ?_ ?_ | refine Br.mk ?_ ?_) <;> intro h)) <;> try simp -implicitDefEqProofs (maxSteps := 9000000) (disch := first | omega | (simp only [List.length_set, List.length_append, List.length_cons, List.length_nil]; omega)) only [go_sem]))
  · rw [shapeP, if_pos (by assumption)]; exact sh_no _
  · rw [shapeP, if_neg (by omega), if_pos (by omega)]; exact sh_no _
  · skip
    refine TT_loop_inv (fun n ts H => ∃ i, (i ≤ l.length) ∧ (∀ j, j < i → mayP (l.getD j []) = 0) ∧ (n = l.length - i) ∧ (H = [some ⟨25, 3, ndC d⟩]) ∧ ts.length = 60 ∧ nth ts 0 = .int .i64 v ∧ nth ts 2 = .sl l.length (intss l) ∧ nth ts 4 = .ptr 0 0 ∧ nth ts 9 = .int .i64 i) ?_ (n := l.length) ?_
    · skip
      rintro n ts H ⟨i, hi, hm, hn, hH, hL, hs0, hs2, hs4, hs9⟩
      refine TT_env [(0, .int .i64 v), (2, .sl l.length (intss l)), (4, .ptr 0 0), (9, .int .i64 i)] hL (by simp only [List.forall_mem_cons, hs0, hs2, hs4, hs9, true_and]; exact fun _ h => nomatch h) ?_
      clear hL hs0 hs2 hs4 hs9 ts
      refine TT_of mixed ?_
      subst hn hH
      by_cases hlt : i < l.length
      · have hki := hk i hlt
        (refine Go1.out ?_; repeat' ((with_reducible first | refine Go1.mk ?_ | ((first | refine Br.dec ?_ ?_ | refine Br.beq ?_ ?_ | refine Br.bne ?_ ?_ | refine Br.mk ?_ ?_) <;> intro h)) <;> try simp -implicitDefEqProofs (maxSteps := 9000000) (disch := first | omega | (simp only [List.length_set, List.length_append, List.length_cons, List.length_nil]; omega)) only [go_sem]))
        refine Fc.pure (May6_spec _ hki) (by simp [cloL, clo, cloL_ints, cloL_intss]) (by intro g; simp only [go_sem, ren, renL]) ?_
        (refine Go1.out ?_; repeat' ((with_reducible first | refine Go1.mk ?_ | ((first | refine Br.dec ?_ ?_ | refine Br.beq ?_ ?_ | refine Br.bne ?_ ?_ | refine Br.mk ?_ ?_) <;> intro h)) <;> try simp -implicitDefEqProofs (maxSteps := 9000000) (disch := first | omega | (simp only [List.length_set, List.length_append, List.length_cons, List.length_nil]; omega)) only [go_sem]))
        · rw [shapeP, if_neg (by omega), if_neg (by omega), if_pos (by rw [mayL_at hm hlt (by assumption)]; assumption), mayL_at hm hlt (by assumption)]
          exact sh_no _
        · exact ⟨_, by omega, i + 1, by omega, allS hm (by assumption), rfl, (by (repeat' apply And.intro) <;> (first | rfl | omega | (congr 1; omega) | assumption | (congr 1; assumption)))⟩
      · obtain rfl : i = l.length := by omega
        have hc : checkP v d = 0 := by assumption
        have hok := comeOK_of (l.getD 0 []).length hat hc (by omega) hm
        have h1 := hok.one
        have hr := hok.rank 0 h1
        have hcl := comeP_len hok
        (refine Go1.out ?_; repeat' ((with_reducible first | refine Go1.mk ?_ | ((first | refine Br.dec ?_ ?_ | refine Br.beq ?_ ?_ | refine Br.bne ?_ ?_ | refine Br.mk ?_ ?_) <;> intro h)) <;> try simp -implicitDefEqProofs (maxSteps := 9000000) (disch := first | omega | (simp only [List.length_set, List.length_append, List.length_cons, List.length_nil]; omega)) only [go_sem]))
        refine Pc.pure (Fc.valL (Explicit11_spec v d _ (by omega) ha hat) (cloL_ints _)) (by simp [cloL, clo, cloL_ints, cloL_intss]) (by intro g; simp only [go_sem, ren, renL]) ?_
        (refine Go1.out ?_; repeat' ((with_reducible first | refine Go1.mk ?_ | ((first | refine Br.dec ?_ ?_ | refine Br.beq ?_ ?_ | refine Br.bne ?_ ?_ | refine Br.mk ?_ ?_) <;> intro h)) <;> try simp -implicitDefEqProofs (maxSteps := 9000000) (disch := first | omega | (simp only [List.length_set, List.length_append, List.length_cons, List.length_nil]; omega)) only [go_sem]))
        refine Pc.pure (Fc.valS (come12_spec _ _ _ hok)) (by simp [cloL, clo, cloL_ints, cloL_intss]) (by intro g; simp only [go_sem, ren, renL]) ?_
        (refine Go1.out ?_; repeat' ((with_reducible first | refine Go1.mk ?_ | ((first | refine Br.dec ?_ ?_ | refine Br.beq ?_ ?_ | refine Br.bne ?_ ?_ | refine Br.mk ?_ ?_) <;> intro h)) <;> try simp -implicitDefEqProofs (maxSteps := 9000000) (disch := first | omega | (simp only [List.length_set, List.length_append, List.length_cons, List.length_nil]; omega)) only [go_sem]))
        · rw [shapeP, if_neg (by omega), if_neg (by omega), if_neg (by rw [mayL_all hm]; simp), if_pos (by assumption)]
          exact sh_no _
        · skip
          refine Fc.pure (May6_spec _ hcl) (by simp [cloL, clo, cloL_ints, cloL_intss]) (by intro g; simp only [go_sem, ren, renL]) ?_
          (refine Go1.out ?_; repeat' ((with_reducible first | refine Go1.mk ?_ | ((first | refine Br.dec ?_ ?_ | refine Br.beq ?_ ?_ | refine Br.bne ?_ ?_ | refine Br.mk ?_ ?_) <;> intro h)) <;> try simp -implicitDefEqProofs (maxSteps := 9000000) (disch := first | omega | (simp only [List.length_set, List.length_append, List.length_cons, List.length_nil]; omega)) only [go_sem]))
          · rw [shapeP, if_neg (by omega), if_neg (by omega), if_neg (by rw [mayL_all hm]; simp), if_neg (by omega), if_pos (by assumption)]
            exact sh_no _
          · rw [shapeP, if_neg (by omega), if_neg (by omega), if_neg (by rw [mayL_all hm]; simp), if_neg (by omega), if_neg (by omega)]
            have h0 : (comeP d.op (explP v d (l.getD 0 []).length) l).2 = 0 := by assumption
            generalize comeP d.op (explP v d (l.getD 0 []).length) l = cc at h0 ⊢
            obtain ⟨c1, c2⟩ := cc
            simp only at h0; subst h0
            exact sh_sl _ _
    · exact ⟨0, by omega, fun j hj => by omega, rfl, rfl, rfl, rfl, rfl, rfl, rfl⟩
end Go.Proofs.Ytlomgfdepllanaa
end

section
set_option linter.unusedSimpArgs false
set_option linter.unusedVariables false
set_option maxRecDepth 100000
set_option pp.maxSteps 1500
set_option maxHeartbeats 4000000
namespace Go.Proofs.Ytlomgfdepllanaa
open Go.Bv
def prodP (xs : List Int) : Int := if prodL xs > 1024 then 1025 else prodL xs
theorem product_spec (xs : List Int) (hx : xs.length ≤ 17592186044416) (h1 : ∀ d ∈ xs, 1 ≤ d) : Pu C 34 [.sl xs.length (ints xs)] (.int .i64 (prodP xs)) := by
  refine Fc.keep (Fc.bodyT mixed Try.func34 w34 rfl Try.ntmps34 Try.results34 (Nat.le_of_ble_eq_true rfl) ?_)
  (refine Go1.out ?_; repeat' ((with_reducible first | refine Go1.mk ?_ | ((first | refine Br.dec ?_ ?_ | refine Br.beq ?_ ?_ | refine Br.bne ?_ ?_ | refine Br.mk ?_ ?_) <;> intro h)) <;> try simp -implicitDefEqProofs (maxSteps := 9000000) (disch := first | omega | (simp only [List.length_set, List.length_append, List.length_cons, List.length_nil]; omega)) only [go_sem]))
  refine TT_loop_inv (fun n ts H => ∃ k, (k ≤ xs.length) ∧ (prodL (xs.take k) ≤ 1024) ∧ (n = xs.length - k) ∧ (H = []) ∧ ts.length = 21 ∧ nth ts 3 = .int .i64 (prodL (xs.take k)) ∧ nth ts 6 = .sl xs.length (ints xs) ∧ nth ts 7 = .int .i64 xs.length ∧ nth ts 8 = .int .i64 k) ?_ (n := xs.length) ?_
  · skip
    rintro n ts H ⟨k, hk, hm, hn, hH, hL, hs3, hs6, hs7, hs8⟩
    refine TT_env [(3, .int .i64 (prodL (xs.take k))), (6, .sl xs.length (ints xs)), (7, .int .i64 xs.length), (8, .int .i64 k)] hL (by simp only [List.forall_mem_cons, hs3, hs6, hs7, hs8, true_and]; exact fun _ h => nomatch h) ?_
    clear hL hs3 hs6 hs7 hs8 ts
    refine TT_of mixed ?_
    subst hH hn
    have hm1 := prodL_pos (l := xs.take k) fun d hd => h1 d (List.mem_of_mem_take hd)
    have hd0 : 0 ≤ 1024 / prodL (xs.take k) := Int.ediv_nonneg (by omega) (by omega)
    have hd1 : 1024 / prodL (xs.take k) ≤ 1024 := Int.ediv_le_self _ (by omega)
    by_cases hlt : k < xs.length
    · have hx1 := all_getD.1 h1 k hlt
      have hle2 := prodL_le h1 (k + 1)
      rw [prodL_take hlt] at hle2
      generalize hq : xs.getD k 0 = q at hx1 hle2
      by_cases hbig : 1024 < prodL (xs.take k) * q
      · have hdiv : 1024 / prodL (xs.take k) < q := Int.ediv_lt_of_lt_mul (by omega) (by rw [Int.mul_comm]; exact hbig)
        (refine Go1.out ?_; repeat' ((with_reducible first | refine Go1.mk ?_ | ((first | refine Br.dec ?_ ?_ | refine Br.beq ?_ ?_ | refine Br.bne ?_ ?_ | refine Br.mk ?_ ?_) <;> intro h)) <;> try simp -implicitDefEqProofs (maxSteps := 9000000) (disch := first | omega | (simp only [List.length_set, List.length_append, List.length_cons, List.length_nil]; omega)) only [go_sem, hq]))
        (refine keepP (by intro g; simp only [go_sem, ren, renL]) ?_)
        rw [prodP, if_pos (by omega)]
      · have hdiv : q ≤ 1024 / prodL (xs.take k) := Int.le_ediv_of_mul_le (by omega) (by rw [Int.mul_comm]; omega)
        have hpos : 0 ≤ prodL (xs.take k) * q := Int.mul_nonneg (by omega) (by omega)
        (refine Go1.out ?_; repeat' ((with_reducible first | refine Go1.mk ?_ | ((first | refine Br.dec ?_ ?_ | refine Br.beq ?_ ?_ | refine Br.bne ?_ ?_ | refine Br.mk ?_ ?_) <;> intro h)) <;> try simp -implicitDefEqProofs (maxSteps := 9000000) (disch := first | omega | (simp only [List.length_set, List.length_append, List.length_cons, List.length_nil]; omega)) only [go_sem, hq]))
        exact ⟨_, by omega, k + 1, by omega, by rw [prodL_take hlt, hq]; omega, rfl, by rw [prodL_take hlt, hq], rfl⟩
    · have e : xs.take k = xs := List.take_of_length_le (by omega)
      rw [e] at hm
      (refine Go1.out ?_; repeat' ((with_reducible first | refine Go1.mk ?_ | ((first | refine Br.dec ?_ ?_ | refine Br.beq ?_ ?_ | refine Br.bne ?_ ?_ | refine Br.mk ?_ ?_) <;> intro h)) <;> try simp -implicitDefEqProofs (maxSteps := 9000000) (disch := first | omega | (simp only [List.length_set, List.length_append, List.length_cons, List.length_nil]; omega)) only [go_sem]))
      (refine keepP (by intro g; simp only [go_sem, ren, renL]) ?_)
      rw [prodP, if_neg (by omega), e]
  · exact ⟨0, by omega, by simp [prodL], rfl, rfl, rfl, rfl, rfl, rfl, rfl⟩

theorem May_spec (xs : List Int) (hlx : xs.length ≤ 17592186044416) : Pu C 23 [.sl xs.length (ints xs)] (.int .i64 (mayP xs)) := by
  refine Fc.keep (Fc.bodyT mixed Try.func23 w23 rfl Try.ntmps23 Try.results23 (Nat.le_of_ble_eq_true rfl) ?_)
  (refine Go1.out ?_; repeat' ((with_reducible first | refine Go1.mk ?_ | ((first | refine Br.dec ?_ ?_ | refine Br.beq ?_ ?_ | refine Br.bne ?_ ?_ | refine Br.mk ?_ ?_) <;> intro h)) <;> try simp -implicitDefEqProofs (maxSteps := 9000000) (disch := first | omega | (simp only [List.length_set, List.length_append, List.length_cons, List.length_nil]; omega)) only [go_sem]))
  · skip
    (refine keepP (by intro g; simp only [go_sem, ren, renL]) ?_)
    congr 1; symm; rw [mayP, if_pos (by omega)]
  · skip
    refine TT_loop_inv (fun n ts H => ∃ i, (i ≤ xs.length) ∧ (∀ j, j < i → 1 ≤ xs.getD j 0) ∧ (n = xs.length - i) ∧ (H = []) ∧ ts.length = 20 ∧ nth ts 0 = .sl xs.length (ints xs) ∧ nth ts 8 = .sl xs.length (ints xs) ∧ nth ts 9 = .int .i64 xs.length ∧ nth ts 10 = .int .i64 i) ?_ (n := xs.length) ?_
    · skip
      rintro n ts H ⟨i, hi, ha, hn, hH, hL, hs0, hs8, hs9, hs10⟩
      refine TT_env [(0, .sl xs.length (ints xs)), (8, .sl xs.length (ints xs)), (9, .int .i64 xs.length), (10, .int .i64 i)] hL (by simp only [List.forall_mem_cons, hs0, hs8, hs9, hs10, true_and]; exact fun _ h => nomatch h) ?_
      clear hL hs0 hs8 hs9 hs10 ts
      refine TT_of mixed ?_
      subst hH hn
      (refine Go1.out ?_; repeat' ((with_reducible first | refine Go1.mk ?_ | ((first | refine Br.dec ?_ ?_ | refine Br.beq ?_ ?_ | refine Br.bne ?_ ?_ | refine Br.mk ?_ ?_) <;> intro h)) <;> try simp -implicitDefEqProofs (maxSteps := 9000000) (disch := first | omega | (simp only [List.length_set, List.length_append, List.length_cons, List.length_nil]; omega)) only [go_sem]))
      · skip
        (refine keepP (by intro g; simp only [go_sem, ren, renL]) ?_)
        congr 1; symm; rw [mayP, if_neg (by omega), if_neg]
        intro hall; have := all_getD.1 (by simpa using hall) i (by omega); omega
      · exact ⟨_, by omega, i + 1, by omega, allS ha (by omega), rfl, (by (repeat' apply And.intro) <;> (first | rfl | omega | (congr 1; omega) | assumption | (congr 1; assumption)))⟩
      · have hall : ∀ d ∈ xs, 1 ≤ d := all_getD.2 fun j hj => ha j (by omega)
        have hall' : xs.all (fun d => decide (1 ≤ d)) = true := by simpa using hall
        have e1 : mayP xs = if prodL xs > 1024 then 14 else 0 := by rw [mayP, if_neg (by omega), if_pos hall']
        refine Fc.pure (product_spec xs hlx hall) (by simp [cloL, clo, cloL_ints, cloL_intss]) (by intro g; simp only [go_sem, ren, renL]) ?_
        have e2 : 1024 < prodP xs ↔ 1024 < prodL xs := by unfold prodP; split <;> omega
        by_cases hb : 1024 < prodL xs
        · have := e2.2 hb
          (refine Go1.out ?_; repeat' ((with_reducible first | refine Go1.mk ?_ | ((first | refine Br.dec ?_ ?_ | refine Br.beq ?_ ?_ | refine Br.bne ?_ ?_ | refine Br.mk ?_ ?_) <;> intro h)) <;> try simp -implicitDefEqProofs (maxSteps := 9000000) (disch := first | omega | (simp only [List.length_set, List.length_append, List.length_cons, List.length_nil]; omega)) only [go_sem]))
          (refine keepP (by intro g; simp only [go_sem, ren, renL]) ?_)
          rw [e1, if_pos (by omega)]
        · have hnb : ¬ 1024 < prodP xs := fun h => hb (e2.1 h)
          (refine Go1.out ?_; repeat' ((with_reducible first | refine Go1.mk ?_ | ((first | refine Br.dec ?_ ?_ | refine Br.beq ?_ ?_ | refine Br.bne ?_ ?_ | refine Br.mk ?_ ?_) <;> intro h)) <;> try simp -implicitDefEqProofs (maxSteps := 9000000) (disch := first | omega | (simp only [List.length_set, List.length_append, List.length_cons, List.length_nil]; omega)) only [go_sem]))
          (refine keepP (by intro g; simp only [go_sem, ren, renL]) ?_)
          rw [e1, if_neg (by omega)]
    · exact ⟨0, by omega, fun j hj => by omega, rfl, rfl, rfl, rfl, rfl, rfl, rfl⟩

theorem Count_spec (xs : List Int) (hlx : xs.length ≤ 17592186044416) : Pu C 29 [.sl xs.length (ints xs)] (.int .i64 (countP xs)) := by
  refine Fc.keep (Fc.bodyT mixed Try.func29 w29 rfl Try.ntmps29 Try.results29 (Nat.le_of_ble_eq_true rfl) ?_)
  (refine Go1.out ?_; repeat' ((with_reducible first | refine Go1.mk ?_ | ((first | refine Br.dec ?_ ?_ | refine Br.beq ?_ ?_ | refine Br.bne ?_ ?_ | refine Br.mk ?_ ?_) <;> intro h)) <;> try simp -implicitDefEqProofs (maxSteps := 9000000) (disch := first | omega | (simp only [List.length_set, List.length_append, List.length_cons, List.length_nil]; omega)) only [go_sem]))
  refine Fc.pure (May_spec xs hlx) (by simp [cloL, clo, cloL_ints, cloL_intss]) (by intro g; simp only [go_sem, ren, renL]) ?_
  (refine Go1.out ?_; repeat' ((with_reducible first | refine Go1.mk ?_ | ((first | refine Br.dec ?_ ?_ | refine Br.beq ?_ ?_ | refine Br.bne ?_ ?_ | refine Br.mk ?_ ?_) <;> intro h)) <;> try simp -implicitDefEqProofs (maxSteps := 9000000) (disch := first | omega | (simp only [List.length_set, List.length_append, List.length_cons, List.length_nil]; omega)) only [go_sem]))
  · skip
    (refine keepP (by intro g; simp only [go_sem, ren, renL]) ?_)
    simp only [countP, if_neg h]
  · obtain ⟨h4, ha, hp⟩ := mayP_zero h
    refine Fc.pure (product_spec xs hlx ha) (by simp [cloL, clo, cloL_ints, cloL_intss]) (by intro g; simp only [go_sem, ren, renL]) ?_
    (refine Go1.out ?_; repeat' ((with_reducible first | refine Go1.mk ?_ | ((first | refine Br.dec ?_ ?_ | refine Br.beq ?_ ?_ | refine Br.bne ?_ ?_ | refine Br.mk ?_ ?_) <;> intro h)) <;> try simp -implicitDefEqProofs (maxSteps := 9000000) (disch := first | omega | (simp only [List.length_set, List.length_append, List.length_cons, List.length_nil]; omega)) only [go_sem]))
    (refine keepP (by intro g; simp only [go_sem, ren, renL]) ?_)
    rw [countP, if_pos h, prodP, if_neg (by omega)]

theorem Equal_spec (xs ys : List Int) (hx : xs.length ≤ 17592186044416) : Pu C 59 [.sl xs.length (ints xs), .sl ys.length (ints ys)] (.bool (decide (xs = ys))) := by
  refine Fc.keep (Fc.bodyT mixed Try.func59 w59 rfl Try.ntmps59 Try.results59 (Nat.le_of_ble_eq_true rfl) ?_)
  (refine Go1.out ?_; repeat' ((with_reducible first | refine Go1.mk ?_ | ((first | refine Br.dec ?_ ?_ | refine Br.beq ?_ ?_ | refine Br.bne ?_ ?_ | refine Br.mk ?_ ?_) <;> intro h)) <;> try simp -implicitDefEqProofs (maxSteps := 9000000) (disch := first | omega | (simp only [List.length_set, List.length_append, List.length_cons, List.length_nil]; omega)) only [go_sem]))
  · skip
    (refine keepP (by intro g; simp only [go_sem, ren, renL]) ?_)
    congr 1; symm; simp; rintro rfl; exact h rfl
  · skip
    refine TT_loop_inv (fun n ts H => ∃ i, (i ≤ xs.length) ∧ (∀ j, j < i → xs.getD j 0 = ys.getD j 0) ∧ (n = xs.length - i) ∧ (H = []) ∧ ts.length = 26 ∧ nth ts 0 = .sl xs.length (ints xs) ∧ nth ts 1 = .sl ys.length (ints ys) ∧ nth ts 12 = .int .i64 xs.length ∧ nth ts 13 = .int .i64 i) ?_ (n := xs.length) ?_
    · skip
      rintro n ts H ⟨i, hi, he, hn, hH, hL, hs0, hs1, hs12, hs13⟩
      refine TT_env [(0, .sl xs.length (ints xs)), (1, .sl ys.length (ints ys)), (12, .int .i64 xs.length), (13, .int .i64 i)] hL (by simp only [List.forall_mem_cons, hs0, hs1, hs12, hs13, true_and]; exact fun _ h => nomatch h) ?_
      clear hL hs0 hs1 hs12 hs13 ts
      refine TT_of mixed ?_
      subst hH hn
      (refine Go1.out ?_; repeat' ((with_reducible first | refine Go1.mk ?_ | ((first | refine Br.dec ?_ ?_ | refine Br.beq ?_ ?_ | refine Br.bne ?_ ?_ | refine Br.mk ?_ ?_) <;> intro h)) <;> try simp -implicitDefEqProofs (maxSteps := 9000000) (disch := first | omega | (simp only [List.length_set, List.length_append, List.length_cons, List.length_nil]; omega)) only [go_sem]))
      · skip
        (refine keepP (by intro g; simp only [go_sem, ren, renL]) ?_)
        congr 1; symm; simp; rintro rfl; exact h rfl
      · exact ⟨_, by omega, i + 1, by omega, allS he h, rfl, (by (repeat' apply And.intro) <;> (first | rfl | omega | (congr 1; omega) | assumption | (congr 1; assumption)))⟩
      · skip
        (refine keepP (by intro g; simp only [go_sem, ren, renL]) ?_)
        congr 1; symm; simp; exact ext_getD (by omega) fun j hj => he j (by omega)
    · exact ⟨0, by omega, fun j hj => by omega, rfl, rfl, rfl, rfl, rfl, rfl, rfl⟩
theorem Same_spec (xs ys : List Int) (hx : xs.length ≤ 17592186044416) : Pu C 38 [.sl xs.length (ints xs), .sl ys.length (ints ys)] (.bool (decide (xs = ys))) := by
  refine Fc.keep (Fc.bodyT mixed Try.func38 w38 rfl Try.ntmps38 Try.results38 (Nat.le_of_ble_eq_true rfl) ?_)
  (refine Go1.out ?_; repeat' ((with_reducible first | refine Go1.mk ?_ | ((first | refine Br.dec ?_ ?_ | refine Br.beq ?_ ?_ | refine Br.bne ?_ ?_ | refine Br.mk ?_ ?_) <;> intro h)) <;> try simp -implicitDefEqProofs (maxSteps := 9000000) (disch := first | omega | (simp only [List.length_set, List.length_append, List.length_cons, List.length_nil]; omega)) only [go_sem]))
  refine Fc.pure (Equal_spec xs ys hx) (by simp [cloL, clo, cloL_ints, cloL_intss]) (by intro g; simp only [go_sem, ren, renL]) ?_
  (refine Go1.out ?_; repeat' ((with_reducible first | refine Go1.mk ?_ | ((first | refine Br.dec ?_ ?_ | refine Br.beq ?_ ?_ | refine Br.bne ?_ ?_ | refine Br.mk ?_ ?_) <;> intro h)) <;> try simp -implicitDefEqProofs (maxSteps := 9000000) (disch := first | omega | (simp only [List.length_set, List.length_append, List.length_cons, List.length_nil]; omega)) only [go_sem]))
  (refine keepP (by intro g; simp only [go_sem, ren, renL]) ?_)
  rfl

theorem Index_spec (xs : List Int) (m : Int) (hlx : xs.length ≤ 17592186044416) : Fc C 79 [.sl xs.length (ints xs), .int .i64 m] [] (fun v H => (∃ i : Int, v = .int .i64 i ∧ -1 ≤ i ∧ i < xs.length ∧ (xs.contains m = decide (0 ≤ i))) ∧ H = []) := by
  refine Fc.keep (Fc.bodyT mixed Try.func79 w79 rfl Try.ntmps79 Try.results79 (Nat.le_of_ble_eq_true rfl) ?_)
  (refine Go1.out ?_; repeat' ((with_reducible first | refine Go1.mk ?_ | ((first | refine Br.dec ?_ ?_ | refine Br.beq ?_ ?_ | refine Br.bne ?_ ?_ | refine Br.mk ?_ ?_) <;> intro h)) <;> try simp -implicitDefEqProofs (maxSteps := 9000000) (disch := first | omega | (simp only [List.length_set, List.length_append, List.length_cons, List.length_nil]; omega)) only [go_sem]))
  refine TT_loop_inv (fun n ts H => ∃ i, (i ≤ xs.length) ∧ (∀ j, j < i → m ≠ xs.getD j 0) ∧ (n = xs.length - i) ∧ (H = []) ∧ ts.length = 19 ∧ nth ts 0 = .sl xs.length (ints xs) ∧ nth ts 1 = .int .i64 m ∧ nth ts 7 = .int .i64 xs.length ∧ nth ts 8 = .int .i64 i) ?_ (n := xs.length) ?_
  · skip
    rintro n ts H ⟨i, hi, he, hn, hH, hL, hs0, hs1, hs7, hs8⟩
    refine TT_env [(0, .sl xs.length (ints xs)), (1, .int .i64 m), (7, .int .i64 xs.length), (8, .int .i64 i)] hL (by simp only [List.forall_mem_cons, hs0, hs1, hs7, hs8, true_and]; exact fun _ h => nomatch h) ?_
    clear hL hs0 hs1 hs7 hs8 ts
    refine TT_of mixed ?_
    subst hH hn
    (refine Go1.out ?_; repeat' ((with_reducible first | refine Go1.mk ?_ | ((first | refine Br.dec ?_ ?_ | refine Br.beq ?_ ?_ | refine Br.bne ?_ ?_ | refine Br.mk ?_ ?_) <;> intro h)) <;> try simp -implicitDefEqProofs (maxSteps := 9000000) (disch := first | omega | (simp only [List.length_set, List.length_append, List.length_cons, List.length_nil]; omega)) only [go_sem]))
    · refine ⟨[], by simp, by simp, ⟨i, rfl, by omega, by omega, ?_⟩, rfl⟩
      have e : xs.getD i 0 = xs[i]'(by omega) := by simp [List.getD, show i < xs.length by omega]
      rw [decide_eq_true (by omega), List.contains_iff_mem, h, e]; exact List.getElem_mem _
    · exact ⟨_, by omega, i + 1, by omega, allS he h, rfl, (by (repeat' apply And.intro) <;> (first | rfl | omega | (congr 1; omega) | assumption | (congr 1; assumption)))⟩
    · refine ⟨[], by simp, by simp, ⟨-1, rfl, by omega, by omega, ?_⟩, rfl⟩
      have := (all_getD (xs := xs) (p := fun d => m ≠ d)).2 fun j hj => he j (by omega)
      simp; exact fun hm => this m hm rfl
  · exact ⟨0, by omega, fun j hj => by omega, rfl, rfl, rfl, rfl, rfl, rfl, rfl⟩
theorem Contains_spec (xs : List Int) (m : Int) (hlx : xs.length ≤ 17592186044416) : Pu C 68 [.sl xs.length (ints xs), .int .i64 m] (.bool (xs.contains m)) := by
  refine Fc.keep (Fc.bodyT mixed Try.func68 w68 rfl Try.ntmps68 Try.results68 (Nat.le_of_ble_eq_true rfl) ?_)
  (refine Go1.out ?_; repeat' ((with_reducible first | refine Go1.mk ?_ | ((first | refine Br.dec ?_ ?_ | refine Br.beq ?_ ?_ | refine Br.bne ?_ ?_ | refine Br.mk ?_ ?_) <;> intro h)) <;> try simp -implicitDefEqProofs (maxSteps := 9000000) (disch := first | omega | (simp only [List.length_set, List.length_append, List.length_cons, List.length_nil]; omega)) only [go_sem]))
  refine Fc.call (Index_spec xs m hlx) (by simp [cloL, clo, cloL_ints]) ?_
  rintro v H' ⟨⟨i, rfl, h1, h2, h3⟩, rfl⟩
  simp only [ren, renH, List.map_nil, List.append_nil]
  (refine Go1.out ?_; repeat' ((with_reducible first | refine Go1.mk ?_ | ((first | refine Br.dec ?_ ?_ | refine Br.beq ?_ ?_ | refine Br.bne ?_ ?_ | refine Br.mk ?_ ?_) <;> intro h)) <;> try simp -implicitDefEqProofs (maxSteps := 9000000) (disch := first | omega | (simp only [List.length_set, List.length_append, List.length_cons, List.length_nil]; omega)) only [go_sem]))
  (refine keepP (by intro g; simp only [go_sem, ren, renL]) ?_)
  rw [h3]

theorem Fits_spec (f t : List Int) (hf : f.length ≤ 17592186044416) (ht : t.length ≤ 17592186044416) : Pu C 40 [.sl f.length (ints f), .sl t.length (ints t)] (.int .i64 (fitsP f t)) := by
  refine Fc.keep (Fc.bodyT mixed Try.func40 w40 rfl Try.ntmps40 Try.results40 (Nat.le_of_ble_eq_true rfl) ?_)
  (refine Go1.out ?_; repeat' ((with_reducible first | refine Go1.mk ?_ | ((first | refine Br.dec ?_ ?_ | refine Br.beq ?_ ?_ | refine Br.bne ?_ ?_ | refine Br.mk ?_ ?_) <;> intro h)) <;> try simp -implicitDefEqProofs (maxSteps := 9000000) (disch := first | omega | (simp only [List.length_set, List.length_append, List.length_cons, List.length_nil]; omega)) only [go_sem]))
  refine TT_loop_inv (fun n ts H => ∃ i, (i ≤ 2) ∧ (1 ≤ i → mayP f = 0) ∧ (2 ≤ i → mayP t = 0) ∧ (n = 2 - i) ∧ (H = [some ⟨28, 1, [.sl f.length (ints f), .sl t.length (ints t)]⟩]) ∧ ts.length = 52 ∧ nth ts 0 = .sl f.length (ints f) ∧ nth ts 1 = .sl t.length (ints t) ∧ nth ts 13 = .ref 0 0 2 ∧ nth ts 14 = .int .i64 2 ∧ nth ts 15 = .int .i64 i) ?_ (n := 2) ?_
  · skip
    rintro n ts H ⟨i, hi, h0, h1, hn, hH, hL, hs0, hs1, hs13, hs14, hs15⟩
    refine TT_env [(0, .sl f.length (ints f)), (1, .sl t.length (ints t)), (13, .ref 0 0 2), (14, .int .i64 2), (15, .int .i64 i)] hL (by simp only [List.forall_mem_cons, hs0, hs1, hs13, hs14, hs15, true_and]; exact fun _ h => nomatch h) ?_
    clear hL hs0 hs1 hs13 hs14 hs15 ts
    refine TT_of mixed ?_
    subst hH hn
    rcases (by omega : i = 0 ∨ i = 1 ∨ i = 2) with rfl | rfl | rfl
    · skip
      (refine Go1.out ?_; repeat' ((with_reducible first | refine Go1.mk ?_ | ((first | refine Br.dec ?_ ?_ | refine Br.beq ?_ ?_ | refine Br.bne ?_ ?_ | refine Br.mk ?_ ?_) <;> intro h)) <;> try simp -implicitDefEqProofs (maxSteps := 9000000) (disch := first | omega | (simp only [List.length_set, List.length_append, List.length_cons, List.length_nil]; omega)) only [go_sem]))
      refine Fc.pure (May_spec f hf) (by simp [cloL, clo, cloL_ints, cloL_intss]) (by intro g; simp only [go_sem, ren, renL]) ?_
      (refine Go1.out ?_; repeat' ((with_reducible first | refine Go1.mk ?_ | ((first | refine Br.dec ?_ ?_ | refine Br.beq ?_ ?_ | refine Br.bne ?_ ?_ | refine Br.mk ?_ ?_) <;> intro h)) <;> try simp -implicitDefEqProofs (maxSteps := 9000000) (disch := first | omega | (simp only [List.length_set, List.length_append, List.length_cons, List.length_nil]; omega)) only [go_sem]))
      · skip
        (refine keepP (by intro g; simp only [go_sem, ren, renL]) ?_)
        simp only [fitsP, if_neg h]
      · exact ⟨_, by omega, 1, by omega, fun _ => h, by omega, rfl, (by (repeat' apply And.intro) <;> (first | rfl | omega | (congr 1; omega) | assumption | (congr 1; assumption)))⟩
    · have g0 := h0 (by omega)
      (refine Go1.out ?_; repeat' ((with_reducible first | refine Go1.mk ?_ | ((first | refine Br.dec ?_ ?_ | refine Br.beq ?_ ?_ | refine Br.bne ?_ ?_ | refine Br.mk ?_ ?_) <;> intro h)) <;> try simp -implicitDefEqProofs (maxSteps := 9000000) (disch := first | omega | (simp only [List.length_set, List.length_append, List.length_cons, List.length_nil]; omega)) only [go_sem]))
      refine Fc.pure (May_spec t ht) (by simp [cloL, clo, cloL_ints, cloL_intss]) (by intro g; simp only [go_sem, ren, renL]) ?_
      (refine Go1.out ?_; repeat' ((with_reducible first | refine Go1.mk ?_ | ((first | refine Br.dec ?_ ?_ | refine Br.beq ?_ ?_ | refine Br.bne ?_ ?_ | refine Br.mk ?_ ?_) <;> intro h)) <;> try simp -implicitDefEqProofs (maxSteps := 9000000) (disch := first | omega | (simp only [List.length_set, List.length_append, List.length_cons, List.length_nil]; omega)) only [go_sem]))
      · skip
        (refine keepP (by intro g; simp only [go_sem, ren, renL]) ?_)
        simp only [fitsP, if_pos g0, if_neg h]
      · exact ⟨_, by omega, 2, by omega, fun _ => g0, fun _ => h, rfl, (by (repeat' apply And.intro) <;> (first | rfl | omega | (congr 1; omega) | assumption | (congr 1; assumption)))⟩
    · have g0 := h0 (by omega)
      have g1 := h1 (by omega)
      have hp : fitsP f t = if okB f t then 0 else 13 := by simp only [fitsP, if_pos g0, if_pos g1]
      obtain ⟨hf4, hf1, _⟩ := mayP_zero g0
      obtain ⟨ht4, ht1, _⟩ := mayP_zero g1
      (refine Go1.out ?_; repeat' ((with_reducible first | refine Go1.mk ?_ | ((first | refine Br.dec ?_ ?_ | refine Br.beq ?_ ?_ | refine Br.bne ?_ ?_ | refine Br.mk ?_ ?_) <;> intro h)) <;> try simp -implicitDefEqProofs (maxSteps := 9000000) (disch := first | omega | (simp only [List.length_set, List.length_append, List.length_cons, List.length_nil]; omega)) only [go_sem]))
      · skip
        (refine keepP (by intro g; simp only [go_sem, ren, renL]) ?_)
        rw [hp, if_neg]
        intro hok; have := ((okB_iff f t).1 hok).1; omega
      · skip
        refine TT_loop_inv (fun n ts H => ∃ i, (i ≤ f.length) ∧ (∀ j, j < i → (f.getD j 0 = 1 ∨ f.getD j 0 = t.getD (t.length - f.length + j) 0)) ∧ (n = f.length - i) ∧ ts.length = 52 ∧ nth ts 0 = .sl f.length (ints f) ∧ nth ts 1 = .sl t.length (ints t) ∧ nth ts 8 = .int .i64 ((t.length - f.length : Nat) : Int) ∧ nth ts 32 = .sl f.length (ints f) ∧ nth ts 33 = .int .i64 f.length ∧ nth ts 34 = .int .i64 i) ?_ (n := f.length) ?_
        · skip
          rintro n ts H ⟨i, hi, ha, hn, hL, hs0, hs1, hs8, hs32, hs33, hs34⟩
          refine TT_env [(0, .sl f.length (ints f)), (1, .sl t.length (ints t)), (8, .int .i64 ((t.length - f.length : Nat) : Int)), (32, .sl f.length (ints f)), (33, .int .i64 f.length), (34, .int .i64 i)] hL (by simp only [List.forall_mem_cons, hs0, hs1, hs8, hs32, hs33, hs34, true_and]; exact fun _ h => nomatch h) ?_
          clear hL hs0 hs1 hs8 hs32 hs33 hs34 ts
          refine TT_of mixed ?_
          subst hn
          have bad : i < f.length → ¬ (f.getD i 0 = 1 ∨ f.getD i 0 = t.getD (t.length - f.length + i) 0) → fitsP f t = 13 := fun hi hb => by
            rw [hp, if_neg]
            intro hok; exact hb (((okB_iff f t).1 hok).2 i hi)
          (refine Go1.out ?_; repeat' ((with_reducible first | refine Go1.mk ?_ | ((first | refine Br.dec ?_ ?_ | refine Br.beq ?_ ?_ | refine Br.bne ?_ ?_ | refine Br.mk ?_ ?_) <;> intro h)) <;> try simp -implicitDefEqProofs (maxSteps := 9000000) (disch := first | omega | (simp only [List.length_set, List.length_append, List.length_cons, List.length_nil]; omega)) only [go_sem]))
          · skip
            (refine keepP (by intro g; simp only [go_sem, ren, renL]) ?_)
            rw [bad (by omega) (by omega)]
          · exact ⟨_, by omega, i + 1, by omega, allS ha (by omega), rfl, (by (repeat' apply And.intro) <;> (first | rfl | omega | (congr 1; omega) | assumption | (congr 1; assumption)))⟩
          · exact ⟨_, by omega, i + 1, by omega, allS ha (by omega), rfl, (by (repeat' apply And.intro) <;> (first | rfl | omega | (congr 1; omega) | assumption | (congr 1; assumption)))⟩
          · skip
            (refine keepP (by intro g; simp only [go_sem, ren, renL]) ?_)
            rw [hp, if_pos]
            exact (okB_iff f t).2 ⟨by omega, fun j hj => ha j (by omega)⟩
        · exact ⟨0, by omega, fun j hj => by omega, rfl, rfl, rfl, rfl, by simp -implicitDefEqProofs (maxSteps := 9000000) (disch := first | omega | (simp only [List.length_set, List.length_append, List.length_cons, List.length_nil]; omega)) only [go_sem]; congr 1; omega, rfl, rfl, rfl⟩
  · exact ⟨0, by omega, by omega, by omega, rfl, rfl, rfl, rfl, rfl, rfl, rfl, rfl⟩

/-- Are these axes? -/
def axAt (l : List Int) (r : Int) (i : Nat) : Prop := (if i = 0 then -1 else l.getD (i - 1) 0) < l.getD i 0 ∧ l.getD i 0 < r
def axB (l : List Int) (r : Int) : Bool := (List.range l.length).all fun i => decide ((if i = 0 then -1 else l.getD (i - 1) 0) < l.getD i 0 ∧ l.getD i 0 < r)
theorem axB_iff (l : List Int) (r : Int) : axB l r = true ↔ ∀ i, i < l.length → axAt l r i := by simp only [axB, axAt, List.all_eq_true, List.mem_range, decide_eq_true_eq]
def axP (l : List Int) (r : Int) : Int := if axB l r = true then 0 else 11
theorem Axes_spec (l : List Int) (r : Int) (hl : l.length ≤ 17592186044416) : Pu C 42 [.sl l.length (ints l), .int .i64 r] (.int .i64 (axP l r)) := by
  refine Fc.keep (Fc.bodyT mixed Try.func42 w42 rfl Try.ntmps42 Try.results42 (Nat.le_of_ble_eq_true rfl) ?_)
  (refine Go1.out ?_; repeat' ((with_reducible first | refine Go1.mk ?_ | ((first | refine Br.dec ?_ ?_ | refine Br.beq ?_ ?_ | refine Br.bne ?_ ?_ | refine Br.mk ?_ ?_) <;> intro h)) <;> try simp -implicitDefEqProofs (maxSteps := 9000000) (disch := first | omega | (simp only [List.length_set, List.length_append, List.length_cons, List.length_nil]; omega)) only [go_sem]))
  refine TT_loop_inv (fun n ts H => ∃ i x, (i ≤ l.length) ∧ (x = (if i = 0 then -1 else l.getD (i - 1) 0)) ∧ (∀ j, j < i → axAt l r j) ∧ (n = l.length - i) ∧ (H = []) ∧ ts.length = 24 ∧ nth ts 1 = .int .i64 r ∧ nth ts 5 = .int .i64 x ∧ nth ts 8 = .sl l.length (ints l) ∧ nth ts 9 = .int .i64 l.length ∧ nth ts 10 = .int .i64 i) ?_ (n := l.length) ?_
  · skip
    rintro n ts H ⟨i, x, hi, hx, ha, hn, hH, hL, hs1, hs5, hs8, hs9, hs10⟩
    refine TT_env [(1, .int .i64 r), (5, .int .i64 x), (8, .sl l.length (ints l)), (9, .int .i64 l.length), (10, .int .i64 i)] hL (by simp only [List.forall_mem_cons, hs1, hs5, hs8, hs9, hs10, true_and]; exact fun _ h => nomatch h) ?_
    clear hL hs1 hs5 hs8 hs9 hs10 ts
    refine TT_of mixed ?_
    subst hH hn
    have bad : i < l.length → ¬ axAt l r i → axP l r = 11 := fun hi hb => by
      rw [axP, if_neg]
      intro hok; exact hb ((axB_iff l r).1 hok i hi)
    (refine Go1.out ?_; repeat' ((with_reducible first | refine Go1.mk ?_ | ((first | refine Br.dec ?_ ?_ | refine Br.beq ?_ ?_ | refine Br.bne ?_ ?_ | refine Br.mk ?_ ?_) <;> intro h)) <;> try simp -implicitDefEqProofs (maxSteps := 9000000) (disch := first | omega | (simp only [List.length_set, List.length_append, List.length_cons, List.length_nil]; omega)) only [go_sem]))
    · skip
      (refine keepP (by intro g; simp only [go_sem, ren, renL]) ?_)
      rw [bad (by omega) (fun hh => by have := hh.1; omega)]
    · skip
      (refine keepP (by intro g; simp only [go_sem, ren, renL]) ?_)
      rw [bad (by omega) (fun hh => by have := hh.2; omega)]
    · exact ⟨_, by omega, i + 1, _, by omega, by rw [if_neg (by omega)], allS ha ⟨by omega, by omega⟩, rfl, (by (repeat' apply And.intro) <;> (first | rfl | omega | (congr 1; omega) | assumption | (congr 1; assumption)))⟩
    · skip
      (refine keepP (by intro g; simp only [go_sem, ren, renL]) ?_)
      rw [axP, if_pos]
      exact (axB_iff l r).2 fun j hj => ha j (by omega)
  · exact ⟨0, -1, by omega, rfl, fun j hj => by omega, rfl, rfl, rfl, rfl, rfl, rfl, rfl, rfl⟩

theorem Drop1_spec (u : V) (H : Heap) : Fc C 62 [u] H (fun v H' => v = u ∧ H' = H) := by
  refine Fc.bodyT mixed Try.func62 w62 rfl Try.ntmps62 Try.results62 (Nat.le_of_ble_eq_true rfl) ?_
  (refine Go1.out ?_; repeat' ((with_reducible first | refine Go1.mk ?_ | ((first | refine Br.dec ?_ ?_ | refine Br.beq ?_ ?_ | refine Br.bne ?_ ?_ | refine Br.mk ?_ ?_) <;> intro h)) <;> try simp -implicitDefEqProofs (maxSteps := 9000000) (disch := first | omega | (simp only [List.length_set, List.length_append, List.length_cons, List.length_nil]; omega)) only [go_sem]))
theorem turned_spec (xs axes : List Int) (hx : xs.length ≤ 17592186044416) (ha : axes.length ≤ 17592186044416) : Fc C 61 [.sl xs.length (ints xs), .sl axes.length (ints axes), .fn (.func 62) [] []] [] (fun v H => Ret 3 1 H v (dropP xs axes xs.length).length (ints (dropP xs axes xs.length))) := by
  refine Fc.keep (Fc.bodyT mixed Try.func61 w61 rfl Try.ntmps61 Try.results61 (Nat.le_of_ble_eq_true rfl) ?_)
  (refine Go1.out ?_; repeat' ((with_reducible first | refine Go1.mk ?_ | ((first | refine Br.dec ?_ ?_ | refine Br.beq ?_ ?_ | refine Br.bne ?_ ?_ | refine Br.mk ?_ ?_) <;> intro h)) <;> try simp -implicitDefEqProofs (maxSteps := 9000000) (disch := first | omega | (simp only [List.length_set, List.length_append, List.length_cons, List.length_nil]; omega)) only [go_sem]))
  refine TT_loop_inv (fun n ts H => ∃ i u, (i ≤ xs.length) ∧ (n = xs.length - i) ∧ (Bv.Own 3 1 H u (dropP xs axes i).length (ints (dropP xs axes i))) ∧ ts.length = 28 ∧ nth ts 1 = .sl axes.length (ints axes) ∧ nth ts 2 = .fn (.func 62) [] [] ∧ nth ts 6 = u ∧ nth ts 9 = .sl xs.length (ints xs) ∧ nth ts 10 = .int .i64 xs.length ∧ nth ts 11 = .int .i64 i) ?_ (n := xs.length) ?_
  · skip
    rintro n ts H ⟨i, u, hi, hn, hu, hL, hs1, hs2, hs6, hs9, hs10, hs11⟩
    refine TT_env [(1, .sl axes.length (ints axes)), (2, .fn (.func 62) [] []), (6, u), (9, .sl xs.length (ints xs)), (10, .int .i64 xs.length), (11, .int .i64 i)] hL (by simp only [List.forall_mem_cons, hs1, hs2, hs6, hs9, hs10, hs11, true_and]; exact fun _ h => nomatch h) ?_
    clear hL hs1 hs2 hs6 hs9 hs10 hs11 ts
    refine TT_of mixed ?_
    subst hn
    (refine Go1.out ?_; repeat' ((with_reducible first | refine Go1.mk ?_ | ((first | refine Br.dec ?_ ?_ | refine Br.beq ?_ ?_ | refine Br.bne ?_ ?_ | refine Br.mk ?_ ?_) <;> intro h)) <;> try simp -implicitDefEqProofs (maxSteps := 9000000) (disch := first | omega | (simp only [List.length_set, List.length_append, List.length_cons, List.length_nil]; omega)) only [go_sem]))
    · skip
      refine Fc.pure (Contains_spec axes i ha) (by simp [cloL, clo, cloL_ints, cloL_intss]) (by intro g; simp only [go_sem, ren, renL]) ?_
      (refine Go1.out ?_; repeat' ((with_reducible first | refine Go1.mk ?_ | ((first | refine Br.dec ?_ ?_ | refine Br.beq ?_ ?_ | refine Br.bne ?_ ?_ | refine Br.mk ?_ ?_) <;> intro h)) <;> try simp -implicitDefEqProofs (maxSteps := 9000000) (disch := first | omega | (simp only [List.length_set, List.length_append, List.length_cons, List.length_nil]; omega)) only [go_sem]))
      · refine Fc.mono (Drop1_spec u H) ?_
        rintro v H' ⟨rfl, rfl⟩
        (refine Go1.out ?_; repeat' ((with_reducible first | refine Go1.mk ?_ | ((first | refine Br.dec ?_ ?_ | refine Br.beq ?_ ?_ | refine Br.bne ?_ ?_ | refine Br.mk ?_ ?_) <;> intro h)) <;> try simp -implicitDefEqProofs (maxSteps := 9000000) (disch := first | omega | (simp only [List.length_set, List.length_append, List.length_cons, List.length_nil]; omega)) only [go_sem]))
        have hc : axes.contains (i : Int) = true := by assumption
        exact ⟨_, by omega, i + 1, _, by omega, rfl, by simpa only [dropP, hc, if_true, List.append_nil] using hu, (by (repeat' apply And.intro) <;> (first | rfl | omega | (congr 1; omega) | assumption | (congr 1; assumption)))⟩
      · have hle : (dropP xs axes i).length ≤ i := dropP_length xs axes i
        refine app_int hu rfl ⟨by decide, by decide⟩ (by omega) fun v' H' hu' _ => ?_
        (refine Go1.out ?_; repeat' ((with_reducible first | refine Go1.mk ?_ | ((first | refine Br.dec ?_ ?_ | refine Br.beq ?_ ?_ | refine Br.bne ?_ ?_ | refine Br.mk ?_ ?_) <;> intro h)) <;> try simp -implicitDefEqProofs (maxSteps := 9000000) (disch := first | omega | (simp only [List.length_set, List.length_append, List.length_cons, List.length_nil]; omega)) only [go_sem]))
        have hc : axes.contains (i : Int) = false := by assumption
        exact ⟨_, by omega, i + 1, v', by omega, rfl, by simpa only [dropP, hc, Bool.false_eq_true, if_false] using hu', (by (repeat' apply And.intro) <;> (first | rfl | omega | (congr 1; omega) | assumption | (congr 1; assumption)))⟩
    · obtain rfl : i = xs.length := by omega
      exact hu.ret (fun g => renL_ints g _) fun v H h => h
  · exact ⟨0, .nil, by omega, rfl, .nil .., rfl, rfl, rfl, rfl, rfl, rfl, rfl⟩
theorem Drop_spec (xs axes : List Int) (hx : xs.length ≤ 17592186044416) (ha : axes.length ≤ 17592186044416) : Fc C 43 [.sl xs.length (ints xs), .sl axes.length (ints axes)] [] (fun v H => Ret 3 1 H v (dropP xs axes xs.length).length (ints (dropP xs axes xs.length))) := by
  refine Fc.keep (Fc.bodyT mixed Try.func43 w43 rfl Try.ntmps43 Try.results43 (Nat.le_of_ble_eq_true rfl) ?_)
  (refine Go1.out ?_; repeat' ((with_reducible first | refine Go1.mk ?_ | ((first | refine Br.dec ?_ ?_ | refine Br.beq ?_ ?_ | refine Br.bne ?_ ?_ | refine Br.mk ?_ ?_) <;> intro h)) <;> try simp -implicitDefEqProofs (maxSteps := 9000000) (disch := first | omega | (simp only [List.length_set, List.length_append, List.length_cons, List.length_nil]; omega)) only [go_sem]))
  refine Fc.own (turned_spec xs axes hx ha) (by simp [cloL, clo, cloL_ints]) (fun g => renL_ints g _) fun v X hv => ?_
  (refine Go1.out ?_; repeat' ((with_reducible first | refine Go1.mk ?_ | ((first | refine Br.dec ?_ ?_ | refine Br.beq ?_ ?_ | refine Br.bne ?_ ?_ | refine Br.mk ?_ ?_) <;> intro h)) <;> try simp -implicitDefEqProofs (maxSteps := 9000000) (disch := first | omega | (simp only [List.length_set, List.length_append, List.length_cons, List.length_nil]; omega)) only [go_sem]))
  exact hv.ret (fun g => renL_ints g _) fun v H h => h

theorem CloneS_spec (xs : List Int) (hx : xs.length ≤ 1000000000000) : Fc C 35 [.sl xs.length (ints xs)] [] (fun v H => Ret 3 1 H v xs.length (ints xs)) := by
  refine Fc.keep (Fc.bodyT mixed Try.func35 w35 rfl Try.ntmps35 Try.results35 (Nat.le_of_ble_eq_true rfl) ?_)
  (refine Go1.out ?_; repeat' ((with_reducible first | refine Go1.mk ?_ | ((first | refine Br.dec ?_ ?_ | refine Br.beq ?_ ?_ | refine Br.bne ?_ ?_ | refine Br.mk ?_ ?_) <;> intro h)) <;> try simp -implicitDefEqProofs (maxSteps := 9000000) (disch := first | omega | (simp only [List.length_set, List.length_append, List.length_cons, List.length_nil]; omega)) only [go_sem]))
  refine ⟨?_, fun h0 => ?_⟩
  · refine app_clone rfl rfl ⟨by decide, by decide⟩ (by omega) (ints_length xs) (ints_scal xs) fun v' H' hu' _ => ?_
    (refine Go1.out ?_; repeat' ((with_reducible first | refine Go1.mk ?_ | ((first | refine Br.dec ?_ ?_ | refine Br.beq ?_ ?_ | refine Br.bne ?_ ?_ | refine Br.mk ?_ ?_) <;> intro h)) <;> try simp -implicitDefEqProofs (maxSteps := 9000000) (disch := first | omega | (simp only [List.length_set, List.length_append, List.length_cons, List.length_nil]; omega)) only [go_sem]))
    exact hu'.ret (fun g => renL_ints g _) fun v H h => h
  · have hn : xs = [] := List.eq_nil_of_length_eq_zero h0
    subst hn
    (refine Go1.out ?_; repeat' ((with_reducible first | refine Go1.mk ?_ | ((first | refine Br.dec ?_ ?_ | refine Br.beq ?_ ?_ | refine Br.bne ?_ ?_ | refine Br.mk ?_ ?_) <;> intro h)) <;> try simp -implicitDefEqProofs (maxSteps := 9000000) (disch := first | omega | (simp only [List.length_set, List.length_append, List.length_cons, List.length_nil]; omega)) only [go_sem]))
    exact (Own.nil ..).ret (fun g => renL_ints g []) fun v H h => h
theorem CloneI_spec (xs : List Int) (hx : xs.length ≤ 1000000000000) : Fc C 36 [.sl xs.length (ints xs)] [] (fun v H => Ret 3 1 H v xs.length (ints xs)) := by
  refine Fc.keep (Fc.bodyT mixed Try.func36 w36 rfl Try.ntmps36 Try.results36 (Nat.le_of_ble_eq_true rfl) ?_)
  (refine Go1.out ?_; repeat' ((with_reducible first | refine Go1.mk ?_ | ((first | refine Br.dec ?_ ?_ | refine Br.beq ?_ ?_ | refine Br.bne ?_ ?_ | refine Br.mk ?_ ?_) <;> intro h)) <;> try simp -implicitDefEqProofs (maxSteps := 9000000) (disch := first | omega | (simp only [List.length_set, List.length_append, List.length_cons, List.length_nil]; omega)) only [go_sem]))
  refine ⟨?_, fun h0 => ?_⟩
  · refine app_clone rfl rfl ⟨by decide, by decide⟩ (by omega) (ints_length xs) (ints_scal xs) fun v' H' hu' _ => ?_
    (refine Go1.out ?_; repeat' ((with_reducible first | refine Go1.mk ?_ | ((first | refine Br.dec ?_ ?_ | refine Br.beq ?_ ?_ | refine Br.bne ?_ ?_ | refine Br.mk ?_ ?_) <;> intro h)) <;> try simp -implicitDefEqProofs (maxSteps := 9000000) (disch := first | omega | (simp only [List.length_set, List.length_append, List.length_cons, List.length_nil]; omega)) only [go_sem]))
    exact hu'.ret (fun g => renL_ints g _) fun v H h => h
  · have hn : xs = [] := List.eq_nil_of_length_eq_zero h0
    subst hn
    (refine Go1.out ?_; repeat' ((with_reducible first | refine Go1.mk ?_ | ((first | refine Br.dec ?_ ?_ | refine Br.beq ?_ ?_ | refine Br.bne ?_ ?_ | refine Br.mk ?_ ?_) <;> intro h)) <;> try simp -implicitDefEqProofs (maxSteps := 9000000) (disch := first | omega | (simp only [List.length_set, List.length_append, List.length_cons, List.length_nil]; omega)) only [go_sem]))
    exact (Own.nil ..).ret (fun g => renL_ints g []) fun v H h => h
end Go.Proofs.Ytlomgfdepllanaa
end

section
set_option linter.unusedSimpArgs false
set_option linter.unusedVariables false
set_option maxRecDepth 100000
set_option pp.maxSteps 1500
set_option maxHeartbeats 4000000
namespace Go.Proofs.Ytlomgfdepllanaa
open Go.Bv
theorem no_spec (l : List Int) : Pu C 70 [.sl l.length (ints l)] (.bool (decide (l.length = 0))) := by
  refine Fc.keep (Fc.bodyT mixed Try.func70 w70 rfl Try.ntmps70 Try.results70 (Nat.le_of_ble_eq_true rfl) ?_)
  (refine Go1.out ?_; repeat' ((with_reducible first | refine Go1.mk ?_ | ((first | refine Br.dec ?_ ?_ | refine Br.beq ?_ ?_ | refine Br.bne ?_ ?_ | refine Br.mk ?_ ?_) <;> intro h)) <;> try simp -implicitDefEqProofs (maxSteps := 9000000) (disch := first | omega | (simp only [List.length_set, List.length_append, List.length_cons, List.length_nil]; omega)) only [go_sem]))
  (refine keepP (by intro g; simp only [go_sem, ren, renL]) ?_)
  (simp only [V.tup.injEq, List.cons.injEq, V.int.injEq, V.bool.injEq, true_and, and_true]; (try rw [Bool.eq_iff_iff]); (try simp only [decide_eq_true_eq, decide_eq_false_iff_not, Decidable.not_not, true_and, and_true, Bool.not_eq_true, Bool.not_eq_eq_eq_not, Bool.not_true, Bool.and_eq_true, Bool.or_eq_true, beq_iff_eq, bne_iff_ne, ne_eq, Bool.false_eq_true, false_iff, true_iff, iff_false, iff_true]); (try omega))
theorem one1_spec (l : List Int) (m : Int) : Pu C 80 [.sl l.length (ints l), .rp [.int .i64 m] 0] (.bool (decide (l.length = 1 ∧ 0 ≤ l.getD 0 0 ∧ l.getD 0 0 ≤ m))) := by
  refine Fc.keep (Fc.bodyT mixed Try.func80 w80 rfl Try.ntmps80 Try.results80 (Nat.le_of_ble_eq_true rfl) ?_)
  (refine Go1.out ?_; repeat' ((with_reducible first | refine Go1.mk ?_ | ((first | refine Br.dec ?_ ?_ | refine Br.beq ?_ ?_ | refine Br.bne ?_ ?_ | refine Br.mk ?_ ?_) <;> intro h)) <;> try simp -implicitDefEqProofs (maxSteps := 9000000) (disch := first | omega | (simp only [List.length_set, List.length_append, List.length_cons, List.length_nil]; omega)) only [go_sem]))
  all_goals (refine keepP (by intro g; simp only [go_sem, ren, renL]) ?_)
  all_goals (simp only [V.tup.injEq, List.cons.injEq, V.int.injEq, V.bool.injEq, true_and, and_true]; (try rw [Bool.eq_iff_iff]); (try simp only [decide_eq_true_eq, decide_eq_false_iff_not, Decidable.not_not, true_and, and_true, Bool.not_eq_true, Bool.not_eq_eq_eq_not, Bool.not_true, Bool.and_eq_true, Bool.or_eq_true, beq_iff_eq, bne_iff_ne, ne_eq, Bool.false_eq_true, false_iff, true_iff, iff_false, iff_true]); (try omega))
theorem dims_spec (l : List Int) (hl : l.length ≤ 17592186044416) : Pu C 74 [.sl l.length (ints l)] (.bool (decide (mayP l = 0))) := by
  refine Fc.keep (Fc.bodyT mixed Try.func74 w74 rfl Try.ntmps74 Try.results74 (Nat.le_of_ble_eq_true rfl) ?_)
  (refine Go1.out ?_; repeat' ((with_reducible first | refine Go1.mk ?_ | ((first | refine Br.dec ?_ ?_ | refine Br.beq ?_ ?_ | refine Br.bne ?_ ?_ | refine Br.mk ?_ ?_) <;> intro h)) <;> try simp -implicitDefEqProofs (maxSteps := 9000000) (disch := first | omega | (simp only [List.length_set, List.length_append, List.length_cons, List.length_nil]; omega)) only [go_sem]))
  refine Fc.pure (May_spec l hl) (by simp [cloL, clo, cloL_ints, cloL_intss]) (by intro g; simp only [go_sem, ren, renL]) ?_
  (refine Go1.out ?_; repeat' ((with_reducible first | refine Go1.mk ?_ | ((first | refine Br.dec ?_ ?_ | refine Br.beq ?_ ?_ | refine Br.bne ?_ ?_ | refine Br.mk ?_ ?_) <;> intro h)) <;> try simp -implicitDefEqProofs (maxSteps := 9000000) (disch := first | omega | (simp only [List.length_set, List.length_append, List.length_cons, List.length_nil]; omega)) only [go_sem]))
  (refine keepP (by intro g; simp only [go_sem, ren, renL]) ?_)
  (simp only [V.tup.injEq, List.cons.injEq, V.int.injEq, V.bool.injEq, true_and, and_true]; (try rw [Bool.eq_iff_iff]); (try simp only [decide_eq_true_eq, decide_eq_false_iff_not, Decidable.not_not, true_and, and_true, Bool.not_eq_true, Bool.not_eq_eq_eq_not, Bool.not_true, Bool.and_eq_true, Bool.or_eq_true, beq_iff_eq, bne_iff_ne, ne_eq, Bool.false_eq_true, false_iff, true_iff, iff_false, iff_true]); (try omega))
theorem axB_rise (l : List Int) : axB l 4 = riseB l := by
  rw [Bool.eq_iff_iff, axB_iff, riseB_iff]
  constructor
  · intro h i hi
    have pos : ∀ i, i < l.length → 0 ≤ l.getD i 0 := by
      intro i
      induction i with
      | zero => intro hi; have := (h 0 hi).1; simp only [if_true] at this; omega
      | succ i ih => intro hi; have := (h (i + 1) hi).1; rw [if_neg (by omega)] at this; have := ih (by omega); simp only [Nat.add_sub_cancel] at *; omega
    have h1 := h i hi
    refine ⟨pos i hi, by have := h1.2; omega, fun h0 => ?_⟩
    have := h1.1; rw [if_neg (by omega)] at this; exact this
  · intro h i hi
    have h1 := h i hi
    refine ⟨?_, by have := h1.2.1; omega⟩
    split
    · have := h1.1; omega
    · exact h1.2.2 (by omega)
theorem rising_spec (l : List Int) (hl : l.length ≤ 17592186044416) : Pu C 75 [.sl l.length (ints l)] (.bool (riseB l)) := by
  refine Fc.keep (Fc.bodyT mixed Try.func75 w75 rfl Try.ntmps75 Try.results75 (Nat.le_of_ble_eq_true rfl) ?_)
  (refine Go1.out ?_; repeat' ((with_reducible first | refine Go1.mk ?_ | ((first | refine Br.dec ?_ ?_ | refine Br.beq ?_ ?_ | refine Br.bne ?_ ?_ | refine Br.mk ?_ ?_) <;> intro h)) <;> try simp -implicitDefEqProofs (maxSteps := 9000000) (disch := first | omega | (simp only [List.length_set, List.length_append, List.length_cons, List.length_nil]; omega)) only [go_sem]))
  refine Fc.pure (Axes_spec l 4 hl) (by simp [cloL, clo, cloL_ints, cloL_intss]) (by intro g; simp only [go_sem, ren, renL]) ?_
  (refine Go1.out ?_; repeat' ((with_reducible first | refine Go1.mk ?_ | ((first | refine Br.dec ?_ ?_ | refine Br.beq ?_ ?_ | refine Br.bne ?_ ?_ | refine Br.mk ?_ ?_) <;> intro h)) <;> try simp -implicitDefEqProofs (maxSteps := 9000000) (disch := first | omega | (simp only [List.length_set, List.length_append, List.length_cons, List.length_nil]; omega)) only [go_sem]))
  (refine keepP (by intro g; simp only [go_sem, ren, renL]) ?_)
  rw [← axB_rise]
  unfold axP
  cases axB l 4 <;> rfl
theorem cut_spec (a b : Int) : Pu C 77 [.int .i64 a, .int .i64 b] (.bool (decide (0 ≤ a ∧ 0 ≤ b ∧ a < b))) := by
  refine Fc.keep (Fc.bodyT mixed Try.func77 w77 rfl Try.ntmps77 Try.results77 (Nat.le_of_ble_eq_true rfl) ?_)
  (refine Go1.out ?_; repeat' ((with_reducible first | refine Go1.mk ?_ | ((first | refine Br.dec ?_ ?_ | refine Br.beq ?_ ?_ | refine Br.bne ?_ ?_ | refine Br.mk ?_ ?_) <;> intro h)) <;> try simp -implicitDefEqProofs (maxSteps := 9000000) (disch := first | omega | (simp only [List.length_set, List.length_append, List.length_cons, List.length_nil]; omega)) only [go_sem]))
  all_goals (refine keepP (by intro g; simp only [go_sem, ren, renL]) ?_)
  all_goals (simp only [V.tup.injEq, List.cons.injEq, V.int.injEq, V.bool.injEq, true_and, and_true]; (try rw [Bool.eq_iff_iff]); (try simp only [decide_eq_true_eq, decide_eq_false_iff_not, Decidable.not_not, true_and, and_true, Bool.not_eq_true, Bool.not_eq_eq_eq_not, Bool.not_true, Bool.and_eq_true, Bool.or_eq_true, beq_iff_eq, bne_iff_ne, ne_eq, Bool.false_eq_true, false_iff, true_iff, iff_false, iff_true]); (try omega))
theorem rim_spec (a b : Int) : Pu C 78 [.int .i64 a, .int .i64 b] (.bool (decide (0 ≤ a ∧ 0 ≤ b))) := by
  refine Fc.keep (Fc.bodyT mixed Try.func78 w78 rfl Try.ntmps78 Try.results78 (Nat.le_of_ble_eq_true rfl) ?_)
  (refine Go1.out ?_; repeat' ((with_reducible first | refine Go1.mk ?_ | ((first | refine Br.dec ?_ ?_ | refine Br.beq ?_ ?_ | refine Br.bne ?_ ?_ | refine Br.mk ?_ ?_) <;> intro h)) <;> try simp -implicitDefEqProofs (maxSteps := 9000000) (disch := first | omega | (simp only [List.length_set, List.length_append, List.length_cons, List.length_nil]; omega)) only [go_sem]))
  all_goals (refine keepP (by intro g; simp only [go_sem, ren, renL]) ?_)
  all_goals (simp only [V.tup.injEq, List.cons.injEq, V.int.injEq, V.bool.injEq, true_and, and_true]; (try rw [Bool.eq_iff_iff]); (try simp only [decide_eq_true_eq, decide_eq_false_iff_not, Decidable.not_not, true_and, and_true, Bool.not_eq_true, Bool.not_eq_eq_eq_not, Bool.not_true, Bool.and_eq_true, Bool.or_eq_true, beq_iff_eq, bne_iff_ne, ne_eq, Bool.false_eq_true, false_iff, true_iff, iff_false, iff_true]); (try omega))
theorem reduced_spec (l : List Int) (ha : Att l) : Pu C 72 [.sl l.length (ints l)] (.bool (decide (l.length = 2 ∧ 1 ≤ l.getD 1 0 ∧ Nat.gcd (l.getD 0 0).natAbs (l.getD 1 0).natAbs = 1))) := by
  refine Fc.keep (Fc.bodyT mixed Try.func72 w72 rfl Try.ntmps72 Try.results72 (Nat.le_of_ble_eq_true rfl) ?_)
  by_cases h2 : l.length = 2
  · have h0 := ha 0 (by omega)
    have h1 := ha 1 (by omega)
    (refine Go1.out ?_; repeat' ((with_reducible first | refine Go1.mk ?_ | ((first | refine Br.dec ?_ ?_ | refine Br.beq ?_ ?_ | refine Br.bne ?_ ?_ | refine Br.mk ?_ ?_) <;> intro h)) <;> try simp -implicitDefEqProofs (maxSteps := 9000000) (disch := first | omega | (simp only [List.length_set, List.length_append, List.length_cons, List.length_nil]; omega)) only [go_sem]))
    · skip
      (refine keepP (by intro g; simp only [go_sem, ren, renL]) ?_)
      (simp only [V.tup.injEq, List.cons.injEq, V.int.injEq, V.bool.injEq, true_and, and_true]; (try rw [Bool.eq_iff_iff]); (try simp only [decide_eq_true_eq, decide_eq_false_iff_not, Decidable.not_not, true_and, and_true, Bool.not_eq_true, Bool.not_eq_eq_eq_not, Bool.not_true, Bool.and_eq_true, Bool.or_eq_true, beq_iff_eq, bne_iff_ne, ne_eq, Bool.false_eq_true, false_iff, true_iff, iff_false, iff_true]); (try omega))
    · skip
      refine TT_loop_inv (fun n ts H => ∃ a b, (a ≤ 2147483647) ∧ (b ≤ 2147483647) ∧ (Nat.gcd a b = Nat.gcd (l.getD 0 0).natAbs (l.getD 1 0).natAbs) ∧ (n = b) ∧ (H = []) ∧ ts.length = 33 ∧ nth ts 3 = .int .i64 (a : Nat) ∧ nth ts 4 = .int .i64 (b : Nat)) ?_ (n := (l.getD 1 0).natAbs) ?_
      · skip
        rintro n ts H ⟨a, b, ha, hb, hg, hn, hH, hL, hs3, hs4⟩
        refine TT_env [(3, .int .i64 (a : Nat)), (4, .int .i64 (b : Nat))] hL (by simp only [List.forall_mem_cons, hs3, hs4, true_and]; exact fun _ h => nomatch h) ?_
        clear hL hs3 hs4 ts
        refine TT_of mixed ?_
        subst hH hn
        (refine Go1.out ?_; repeat' ((with_reducible first | refine Go1.mk ?_ | ((first | refine Br.dec ?_ ?_ | refine Br.beq ?_ ?_ | refine Br.bne ?_ ?_ | refine Br.mk ?_ ?_) <;> intro h)) <;> try simp -implicitDefEqProofs (maxSteps := 9000000) (disch := first | omega | (simp only [List.length_set, List.length_append, List.length_cons, List.length_nil]; omega)) only [go_sem]))
        · have e1 : (a : Int) % (n : Int) = ((a % n : Nat) : Int) := by simp
          have hm : a % n < n := Nat.mod_lt _ (by omega)
          exact ⟨_, hm, n, a % n, hb, by omega, by rw [Nat.gcd_comm, ← hg, Nat.gcd_comm a n, Nat.gcd_rec n a], rfl, rfl, by rw [e1]⟩
        · obtain rfl : n = 0 := by omega
          rw [Nat.gcd_zero_right] at hg
          (refine keepP (by intro g; simp only [go_sem, ren, renL]) ?_)
          simp only [← hg]
          (simp only [V.tup.injEq, List.cons.injEq, V.int.injEq, V.bool.injEq, true_and, and_true]; (try rw [Bool.eq_iff_iff]); (try simp only [decide_eq_true_eq, decide_eq_false_iff_not, Decidable.not_not, true_and, and_true, Bool.not_eq_true, Bool.not_eq_eq_eq_not, Bool.not_true, Bool.and_eq_true, Bool.or_eq_true, beq_iff_eq, bne_iff_ne, ne_eq, Bool.false_eq_true, false_iff, true_iff, iff_false, iff_true]); (try omega))
      · refine ⟨(l.getD 0 0).natAbs, (l.getD 1 0).natAbs, by omega, by omega, rfl, rfl, rfl, rfl, ?_, ?_⟩
        · skip
          simp -implicitDefEqProofs (maxSteps := 9000000) (disch := first | omega | (simp only [List.length_set, List.length_append, List.length_cons, List.length_nil]; omega)) only [go_sem]; congr 1; split <;> omega
        · skip
          simp -implicitDefEqProofs (maxSteps := 9000000) (disch := first | omega | (simp only [List.length_set, List.length_append, List.length_cons, List.length_nil]; omega)) only [go_sem]; congr 1; omega
  · skip
    (refine Go1.out ?_; repeat' ((with_reducible first | refine Go1.mk ?_ | ((first | refine Br.dec ?_ ?_ | refine Br.beq ?_ ?_ | refine Br.bne ?_ ?_ | refine Br.mk ?_ ?_) <;> intro h)) <;> try simp -implicitDefEqProofs (maxSteps := 9000000) (disch := first | omega | (simp only [List.length_set, List.length_append, List.length_cons, List.length_nil]; omega)) only [go_sem]))
    (refine keepP (by intro g; simp only [go_sem, ren, renL]) ?_)
    (simp only [V.tup.injEq, List.cons.injEq, V.int.injEq, V.bool.injEq, true_and, and_true]; (try rw [Bool.eq_iff_iff]); (try simp only [decide_eq_true_eq, decide_eq_false_iff_not, Decidable.not_not, true_and, and_true, Bool.not_eq_true, Bool.not_eq_eq_eq_not, Bool.not_true, Bool.and_eq_true, Bool.or_eq_true, beq_iff_eq, bne_iff_ne, ne_eq, Bool.false_eq_true, false_iff, true_iff, iff_false, iff_true]); (try omega))
theorem pairs1_spec (l : List Int) (g : Nat) (cut : Bool) (hl : l.length ≤ 17592186044416) (hg : ∀ a b : Int, Pu C g [.int .i64 a, .int .i64 b] (.bool (decide (0 ≤ a ∧ 0 ≤ b ∧ (cut = true → a < b))))) :
    Pu C 82 [.sl l.length (ints l), .rp [.fn (.func g) [] []] 0] (.bool (pairB cut l)) := by
  refine Fc.keep (Fc.bodyT mixed Try.func82 w82 rfl Try.ntmps82 Try.results82 (Nat.le_of_ble_eq_true rfl) ?_)
  (refine Go1.out ?_; repeat' ((with_reducible first | refine Go1.mk ?_ | ((first | refine Br.dec ?_ ?_ | refine Br.beq ?_ ?_ | refine Br.bne ?_ ?_ | refine Br.mk ?_ ?_) <;> intro h)) <;> try simp -implicitDefEqProofs (maxSteps := 9000000) (disch := first | omega | (simp only [List.length_set, List.length_append, List.length_cons, List.length_nil]; omega)) only [go_sem]))
  · skip
    (refine keepP (by intro g; simp only [go_sem, ren, renL]) ?_)
    rw [pairB_of (fun h => by have := h.1; omega)]
  · skip
    (refine keepP (by intro g; simp only [go_sem, ren, renL]) ?_)
    rw [pairB_of (fun h => by have := h.2.1; omega)]
  · skip
    refine TT_loop_inv (fun n ts H => ∃ k, (k ≤ l.length / 2) ∧ (∀ j, j < k → pairAt cut l j) ∧ (n = l.length / 2 - k) ∧ (H = []) ∧ ts.length = 32 ∧ nth ts 0 = .sl l.length (ints l) ∧ nth ts 1 = .rp [.fn (.func g) [] []] 0 ∧ nth ts 4 = .int .i64 (2 * k : Nat)) ?_ (n := l.length / 2) ?_
    · skip
      rintro n ts H ⟨k, hi, hp, hn, hH, hL, hs0, hs1, hs4⟩
      refine TT_env [(0, .sl l.length (ints l)), (1, .rp [.fn (.func g) [] []] 0), (4, .int .i64 (2 * k : Nat))] hL (by simp only [List.forall_mem_cons, hs0, hs1, hs4, true_and]; exact fun _ h => nomatch h) ?_
      clear hL hs0 hs1 hs4 ts
      refine TT_of mixed ?_
      subst hH hn
      have bad : 2 * k < l.length → ¬ pairAt cut l k → pairB cut l = false := fun h1 h2 => pairB_of fun h => h2 (h.2.2 k (by omega))
      (refine Go1.out ?_; repeat' ((with_reducible first | refine Go1.mk ?_ | ((first | refine Br.dec ?_ ?_ | refine Br.beq ?_ ?_ | refine Br.bne ?_ ?_ | refine Br.mk ?_ ?_) <;> intro h)) <;> try simp -implicitDefEqProofs (maxSteps := 9000000) (disch := first | omega | (simp only [List.length_set, List.length_append, List.length_cons, List.length_nil]; omega)) only [go_sem]))
      · skip
        refine Pc.pure (hg _ _) (by simp [cloL, clo, cloL_ints, cloL_intss]) (by intro g; simp only [go_sem, ren, renL]) ?_
        (refine Go1.out ?_; repeat' ((with_reducible first | refine Go1.mk ?_ | ((first | refine Br.dec ?_ ?_ | refine Br.beq ?_ ?_ | refine Br.bne ?_ ?_ | refine Br.mk ?_ ?_) <;> intro h)) <;> try simp -implicitDefEqProofs (maxSteps := 9000000) (disch := first | omega | (simp only [List.length_set, List.length_append, List.length_cons, List.length_nil]; omega)) only [go_sem]))
        · exact ⟨_, by omega, k + 1, by omega, allS hp (by assumption), rfl, (by (repeat' apply And.intro) <;> (first | rfl | omega | (congr 1; omega) | assumption | (congr 1; assumption)))⟩
        · skip
          (refine keepP (by intro g; simp only [go_sem, ren, renL]) ?_)
          rw [bad (by omega) (by assumption)]
      · skip
        (refine keepP (by intro g; simp only [go_sem, ren, renL]) ?_)
        rw [(pairB_iff _ l).2 ⟨by omega, by omega, fun j hj => hp j (by omega)⟩]
    · exact ⟨0, by omega, fun j hj => by omega, rfl, rfl, rfl, rfl, rfl, rfl⟩

/-- A row of the table of ops. -/
structure RowS where
  op : Int
  name : ByteArray
  first : Int
  last : Int
  least : Int
  most : Int
  may : V
  none : Int
def rowC (r : RowS) : List V := [.int .i64 r.op, .str r.name, .int .i64 r.first, .int .i64 r.last, .int .i64 r.least, .int .i64 r.most, r.may, .int .i64 r.none]
def vno : V := .fn (.func 70) [] []
def vone (m : Int) : V := .fn (.func 80) [] [.rp [.int .i64 m] 0]
def vpairs (g : Nat) : V := .fn (.func 82) [] [.rp [.fn (.func g) [] []] 0]
def vred : V := .fn (.func 72) [] []
def vtur : V := .fn (.func 73) [] []
def vdim : V := .fn (.func 74) [] []
def vris : V := .fn (.func 75) [] []
theorem vone_eq (m : Int) : vone m = .fn (.func 80) [] [.rp [.int .i64 m] 0] := rfl
theorem vpairs_eq (g : Nat) : vpairs g = .fn (.func 82) [] [.rp [.fn (.func g) [] []] 0] := rfl
attribute [go_sem] vone_eq vpairs_eq
theorem one_spec (m : Int) : Pu C 71 [.int .i64 m] (vone m) := by
  refine Fc.keep (Fc.sealR ?_)
  refine Fc.bodyT mixed Try.func71 w71 rfl Try.ntmps71 Try.results71 (Nat.le_of_ble_eq_true rfl) ?_
  (refine Go1.out ?_; repeat' ((with_reducible first | refine Go1.mk ?_ | ((first | refine Br.dec ?_ ?_ | refine Br.beq ?_ ?_ | refine Br.bne ?_ ?_ | refine Br.mk ?_ ?_) <;> intro h)) <;> try simp -implicitDefEqProofs (maxSteps := 9000000) (disch := first | omega | (simp only [List.length_set, List.length_append, List.length_cons, List.length_nil]; omega)) only [go_sem]))
  refine ⟨0, 3, 1, [.int .i64 m], rfl, rfl, [], by simp, by simp, ?_⟩
  simp [sz, szL, ren, renL, vone, selH]
theorem pairs_spec (g : Nat) : Pu C 76 [.fn (.func g) [] []] (vpairs g) := by
  refine Fc.keep (Fc.sealR ?_)
  refine Fc.bodyT mixed Try.func76 w76 rfl Try.ntmps76 Try.results76 (Nat.le_of_ble_eq_true rfl) ?_
  (refine Go1.out ?_; repeat' ((with_reducible first | refine Go1.mk ?_ | ((first | refine Br.dec ?_ ?_ | refine Br.beq ?_ ?_ | refine Br.bne ?_ ?_ | refine Br.mk ?_ ?_) <;> intro h)) <;> try simp -implicitDefEqProofs (maxSteps := 9000000) (disch := first | omega | (simp only [List.length_set, List.length_append, List.length_cons, List.length_nil]; omega)) only [go_sem]))
  refine ⟨0, _, 1, [.fn (.func g) [] []], rfl, rfl, [], by simp, by simp, ?_⟩
  simp [sz, szL, ren, renL, vpairs, selH]
def opsT : List RowS := [⟨1, ⟨#[97, 100, 100]⟩, 1, 3, 2, 2, vno, 0⟩,
  ⟨2, ⟨#[115, 117, 98]⟩, 1, 3, 2, 2, vno, 0⟩,
  ⟨3, ⟨#[109, 117, 108]⟩, 1, 3, 2, 2, vno, 0⟩,
  ⟨4, ⟨#[100, 105, 118]⟩, 1, 3, 2, 2, vno, 0⟩,
  ⟨5, ⟨#[110, 101, 103]⟩, 1, 3, 1, 1, vno, 0⟩,
  ⟨6, ⟨#[112, 111, 119]⟩, 1, 3, 1, 1, vone 16, 1⟩,
  ⟨7, ⟨#[114, 101, 108, 117]⟩, 1, 3, 1, 1, vno, 0⟩,
  ⟨8, ⟨#[115, 116, 101, 112]⟩, 3, 3, 1, 1, vno, 0⟩,
  ⟨9, ⟨#[115, 99, 97, 108, 101]⟩, 3, 3, 1, 1, vred, 0⟩,
  ⟨10, ⟨#[109, 97, 116, 109, 117, 108]⟩, 1, 3, 2, 2, vno, 0⟩,
  ⟨11, ⟨#[116, 114, 97, 110, 115, 112, 111, 115, 101]⟩, 1, 3, 1, 1, vtur, 1⟩,
  ⟨12, ⟨#[114, 101, 115, 104, 97, 112, 101]⟩, 1, 3, 1, 1, vdim, 0⟩,
  ⟨13, ⟨#[98, 114, 111, 97, 100, 99, 97, 115, 116]⟩, 1, 3, 1, 1, vdim, 0⟩,
  ⟨14, ⟨#[115, 117, 109]⟩, 1, 3, 1, 1, vris, 2⟩,
  ⟨15, ⟨#[115, 108, 105, 99, 101]⟩, 1, 3, 1, 1, vpairs 77, 0⟩,
  ⟨16, ⟨#[112, 97, 100]⟩, 1, 3, 1, 1, vpairs 78, 0⟩,
  ⟨17, ⟨#[99, 111, 110, 99, 97, 116]⟩, 1, 3, 1, 8, vone 3, 1⟩,
  ⟨18, ⟨#[115, 113, 117, 97, 114, 101]⟩, 1, 1, 1, 1, vno, 0⟩,
  ⟨19, ⟨#[103, 101, 109, 109]⟩, 1, 2, 3, 3, vno, 0⟩,
  ⟨20, ⟨#[109, 101, 97, 110]⟩, 1, 2, 1, 1, vris, 2⟩]
theorem table_spec : Pu C 66 [] (.sl 20 (opsT.flatMap rowC)) := by
  refine Fc.keep (Fc.sealR ?_)
  refine Fc.bodyT mixed Try.func66 w66 rfl Try.ntmps66 Try.results66 (Nat.le_of_ble_eq_true rfl) ?_
  (refine Go1.out ?_; repeat' ((with_reducible first | refine Go1.mk ?_ | ((first | refine Br.dec ?_ ?_ | refine Br.beq ?_ ?_ | refine Br.bne ?_ ?_ | refine Br.mk ?_ ?_) <;> intro h)) <;> try simp -implicitDefEqProofs (maxSteps := 9000000) (disch := first | omega | (simp only [List.length_set, List.length_append, List.length_cons, List.length_nil]; omega)) only [go_sem]))
  refine Fc.pure (one_spec 16) (by simp [cloL, clo, cloL_ints, cloL_intss]) (by intro g; simp only [go_sem, ren, renL]) ?_
  (refine Go1.out ?_; repeat' ((with_reducible first | refine Go1.mk ?_ | ((first | refine Br.dec ?_ ?_ | refine Br.beq ?_ ?_ | refine Br.bne ?_ ?_ | refine Br.mk ?_ ?_) <;> intro h)) <;> try simp -implicitDefEqProofs (maxSteps := 9000000) (disch := first | omega | (simp only [List.length_set, List.length_append, List.length_cons, List.length_nil]; omega)) only [go_sem]))
  refine Fc.pure (pairs_spec _) (by simp [cloL, clo, cloL_ints, cloL_intss]) (by intro g; simp only [go_sem, ren, renL]) ?_
  (refine Go1.out ?_; repeat' ((with_reducible first | refine Go1.mk ?_ | ((first | refine Br.dec ?_ ?_ | refine Br.beq ?_ ?_ | refine Br.bne ?_ ?_ | refine Br.mk ?_ ?_) <;> intro h)) <;> try simp -implicitDefEqProofs (maxSteps := 9000000) (disch := first | omega | (simp only [List.length_set, List.length_append, List.length_cons, List.length_nil]; omega)) only [go_sem]))
  refine Fc.pure (pairs_spec _) (by simp [cloL, clo, cloL_ints, cloL_intss]) (by intro g; simp only [go_sem, ren, renL]) ?_
  (refine Go1.out ?_; repeat' ((with_reducible first | refine Go1.mk ?_ | ((first | refine Br.dec ?_ ?_ | refine Br.beq ?_ ?_ | refine Br.bne ?_ ?_ | refine Br.mk ?_ ?_) <;> intro h)) <;> try simp -implicitDefEqProofs (maxSteps := 9000000) (disch := first | omega | (simp only [List.length_set, List.length_append, List.length_cons, List.length_nil]; omega)) only [go_sem]))
  refine Fc.pure (one_spec 3) (by simp [cloL, clo, cloL_ints, cloL_intss]) (by intro g; simp only [go_sem, ren, renL]) ?_
  (refine Go1.out ?_; repeat' ((with_reducible first | refine Go1.mk ?_ | ((first | refine Br.dec ?_ ?_ | refine Br.beq ?_ ?_ | refine Br.bne ?_ ?_ | refine Br.mk ?_ ?_) <;> intro h)) <;> try simp -implicitDefEqProofs (maxSteps := 9000000) (disch := first | omega | (simp only [List.length_set, List.length_append, List.length_cons, List.length_nil]; omega)) only [go_sem]))
  refine ⟨0, 57, 8, _, rfl, rfl, [], by simp, by simp, ?_⟩
  refine ⟨?_, rfl⟩
  rfl
end Go.Proofs.Ytlomgfdepllanaa
end

section
set_option linter.unusedSimpArgs false
set_option linter.unusedVariables false
set_option maxRecDepth 100000
set_option pp.maxSteps 1500
set_option maxHeartbeats 4000000
namespace Go.Proofs.Ytlomgfdepllanaa
open Go.Bv
def zrow : RowS := ⟨0, ⟨#[]⟩, 0, 0, 0, 0, .nilf, 0⟩
theorem rowC_eq (r : RowS) : rowC r = [.int .i64 r.op, .str r.name, .int .i64 r.first, .int .i64 r.last, .int .i64 r.least, .int .i64 r.most, r.may, .int .i64 r.none] := rfl
theorem rowC_len (l : List RowS) : (l.flatMap rowC).length = l.length * 8 := by
  induction l with
  | nil => rfl
  | cons a l ih => simp only [List.flatMap_cons, List.length_append, ih, List.length_cons]; simp only [rowC, List.length_cons, List.length_nil]; omega
theorem flat_nth (l : List RowS) : ∀ (i o : Nat), i < l.length → o < 8 → nth (l.flatMap rowC) (i * 8 + o) = nth (rowC (l.getD i zrow)) o := by
  induction l with
  | nil => intro i o h; simp at h
  | cons a l ih =>
    intro i o hi ho
    rw [List.flatMap_cons, nth_append]
    have h8 : (rowC a).length = 8 := rfl
    cases i with
    | zero => rw [if_pos (by omega)]; simp
    | succ i =>
      rw [if_neg (by omega), h8, show (i + 1) * 8 + o - 8 = i * 8 + o by omega, ih i o (by simpa using hi) ho]; simp
theorem flat_win (l : List RowS) (i : Nat) (hi : i < l.length) : win (l.flatMap rowC) (i * 8) 8 = rowC (l.getD i zrow) := by
  refine nth_ext (by rw [win_length]; rfl) fun j => ?_
  rw [nth_win]
  split
  · rename_i h; exact flat_nth l i j hi h
  · rename_i h; rw [nth_ge _ _ (by show 8 ≤ j; omega)]
attribute [go_sem] rowC_len
attribute [go_sem high] flat_win
theorem opsT_len : opsT.length = 20 := rfl
theorem opsT_op {j : Nat} (h : j < 20) : (opsT.getD j zrow).op = j + 1 := by
  rcases j with _ | _ | _ | _ | _ | _ | _ | _ | _ | _ | _ | _ | _ | _ | _ | _ | _ | _ | _ | _ | j
  all_goals first | rfl | omega
theorem of1_spec (r : RowS) (o : Int) (hc : clo r.may = true) : Pu C 57 [.agg (rowC r), .rp [.int .i64 o] 0] (.bool (r.op == o)) := by
  refine Fc.keep (Fc.bodyT mixed Try.func57 w57 rfl Try.ntmps57 Try.results57 (Nat.le_of_ble_eq_true rfl) ?_)
  (refine Go1.out ?_; repeat' ((with_reducible first | refine Go1.mk ?_ | ((first | refine Br.dec ?_ ?_ | refine Br.beq ?_ ?_ | refine Br.bne ?_ ?_ | refine Br.mk ?_ ?_) <;> intro h)) <;> try simp -implicitDefEqProofs (maxSteps := 9000000) (disch := first | omega | (simp only [List.length_set, List.length_append, List.length_cons, List.length_nil]; omega)) only [go_sem, rowC_eq]))
  (refine keepP (by intro g; simp only [go_sem, ren, renL]) ?_)
  rfl
theorem opsT_may {j : Nat} : clo (opsT.getD j zrow).may = true := by
  by_cases h : j < 20
  · rcases j with _ | _ | _ | _ | _ | _ | _ | _ | _ | _ | _ | _ | _ | _ | _ | _ | _ | _ | _ | _ | j
    all_goals first | rfl | omega
  · rw [List.getD_eq_getElem?_getD, List.getElem?_eq_none (by rw [opsT_len]; omega)]; rfl
theorem cloL_rowC (r : RowS) (h : clo r.may = true) : cloL (rowC r) = true := by simp [rowC, cloL, clo, h]
theorem cloL_opsT : cloL (opsT.flatMap rowC) = true := by rfl
theorem opsT_scal {j : Nat} : scal (opsT.getD j zrow).may = true := by
  by_cases h : j < 20
  · rcases j with _ | _ | _ | _ | _ | _ | _ | _ | _ | _ | _ | _ | _ | _ | _ | _ | _ | _ | _ | _ | j
    all_goals first | rfl | omega
  · rw [List.getD_eq_getElem?_getD, List.getElem?_eq_none (by rw [opsT_len]; omega)]; rfl
theorem renL_opsT (g : Nat → Option Nat) : renL g (opsT.flatMap rowC) = opsT.flatMap rowC := by rfl
attribute [go_sem] renL_opsT
def ixO (o : Int) : Int := if 1 ≤ o ∧ o ≤ 20 then o - 1 else -1
theorem IndexFuncR_spec (o : Int) : Pu C 67 [.sl 20 (opsT.flatMap rowC), .fn (.func 57) [] [.rp [.int .i64 o] 0]] (.int .i64 (ixO o)) := by
  refine Fc.keep (Fc.bodyT mixed Try.func67 w67 rfl Try.ntmps67 Try.results67 (Nat.le_of_ble_eq_true rfl) ?_)
  (refine Go1.out ?_; repeat' ((with_reducible first | refine Go1.mk ?_ | ((first | refine Br.dec ?_ ?_ | refine Br.beq ?_ ?_ | refine Br.bne ?_ ?_ | refine Br.mk ?_ ?_) <;> intro h)) <;> try simp -implicitDefEqProofs (maxSteps := 9000000) (disch := first | omega | (simp only [List.length_set, List.length_append, List.length_cons, List.length_nil]; omega)) only [go_sem]))
  refine TT_loop_inv (fun n ts H => ∃ (i : Nat), (i ≤ 20) ∧ (∀ j, j < i → ((j : Int) + 1) ≠ o) ∧ (n = 20 - i) ∧ (H = []) ∧ ts.length = 19 ∧ nth ts 0 = .sl 20 (opsT.flatMap rowC) ∧ nth ts 1 = .fn (.func 57) [] [.rp [.int .i64 o] 0] ∧ nth ts 7 = .int .i64 20 ∧ nth ts 8 = .int .i64 i) ?_ (n := 20) ?_
  · skip
    rintro n ts H ⟨i, hi, he, hn, hH, hL, hs0, hs1, hs7, hs8⟩
    refine TT_env [(0, .sl 20 (opsT.flatMap rowC)), (1, .fn (.func 57) [] [.rp [.int .i64 o] 0]), (7, .int .i64 20), (8, .int .i64 i)] hL (by simp only [List.forall_mem_cons, hs0, hs1, hs7, hs8, true_and]; exact fun _ h => nomatch h) ?_
    clear hL hs0 hs1 hs7 hs8 ts
    refine TT_of mixed ?_
    subst hH hn
    have hT := opsT_len
    by_cases hlt : i < 20
    · have ho := opsT_op hlt
      (refine Go1.out ?_; repeat' ((with_reducible first | refine Go1.mk ?_ | ((first | refine Br.dec ?_ ?_ | refine Br.beq ?_ ?_ | refine Br.bne ?_ ?_ | refine Br.mk ?_ ?_) <;> intro h)) <;> try simp -implicitDefEqProofs (maxSteps := 9000000) (disch := first | omega | (simp only [List.length_set, List.length_append, List.length_cons, List.length_nil]; omega)) only [go_sem]))
      refine Fc.pure (of1_spec _ o opsT_may) (by simp only [cloL, clo, cloL_rowC _ opsT_may, Bool.and_self]) (fun g => rfl) ?_
      (refine Go1.out ?_; repeat' ((with_reducible first | refine Go1.mk ?_ | ((first | refine Br.dec ?_ ?_ | refine Br.beq ?_ ?_ | refine Br.bne ?_ ?_ | refine Br.mk ?_ ?_) <;> intro h)) <;> try simp -implicitDefEqProofs (maxSteps := 9000000) (disch := first | omega | (simp only [List.length_set, List.length_append, List.length_cons, List.length_nil]; omega)) only [go_sem, ho]))
      · skip
        (refine keepP (by intro g; simp only [go_sem, ren, renL]) ?_)
        congr 1; rw [ixO]; split <;> omega
      · exact ⟨_, by omega, i + 1, by omega, allS he (by omega), rfl, (by (repeat' apply And.intro) <;> (first | rfl | omega | (congr 1; omega) | assumption | (congr 1; assumption)))⟩
    · obtain rfl : i = 20 := by omega
      (refine Go1.out ?_; repeat' ((with_reducible first | refine Go1.mk ?_ | ((first | refine Br.dec ?_ ?_ | refine Br.beq ?_ ?_ | refine Br.bne ?_ ?_ | refine Br.mk ?_ ?_) <;> intro h)) <;> try simp -implicitDefEqProofs (maxSteps := 9000000) (disch := first | omega | (simp only [List.length_set, List.length_append, List.length_cons, List.length_nil]; omega)) only [go_sem]))
      (refine keepP (by intro g; simp only [go_sem, ren, renL]) ?_)
      congr 1; rw [ixO, if_neg]
      intro h; exact he (o.toNat - 1) (by omega) (by omega)
  · exact ⟨0, by omega, fun j hj => by omega, rfl, rfl, rfl, rfl, rfl, rfl, rfl⟩
def rowFor (o : Int) : RowS := if 1 ≤ o ∧ o ≤ 20 then opsT.getD (o - 1).toNat zrow else zrow
theorem rowFor_may (o : Int) : clo (rowFor o).may = true := by
  unfold rowFor; split
  · exact opsT_may
  · rfl
def ofV (o : Int) : V := .tup [.agg (rowC (rowFor o)), .bool (decide (1 ≤ o ∧ o ≤ 20))]
theorem find_spec (o : Int) : Pu C 56 [.fn (.func 57) [] [.rp [.int .i64 o] 0]] (ofV o) := by
  refine Fc.keep (Fc.bodyT mixed Try.func56 w56 rfl Try.ntmps56 Try.results56 (Nat.le_of_ble_eq_true rfl) ?_)
  (refine Go1.out ?_; repeat' ((with_reducible first | refine Go1.mk ?_ | ((first | refine Br.dec ?_ ?_ | refine Br.beq ?_ ?_ | refine Br.bne ?_ ?_ | refine Br.mk ?_ ?_) <;> intro h)) <;> try simp -implicitDefEqProofs (maxSteps := 9000000) (disch := first | omega | (simp only [List.length_set, List.length_append, List.length_cons, List.length_nil]; omega)) only [go_sem]))
  refine Fc.pure (table_spec) (by simp [cloL, clo, cloL_ints, cloL_intss]) (by intro g; simp only [go_sem, ren, renL]) ?_
  (refine Go1.out ?_; repeat' ((with_reducible first | refine Go1.mk ?_ | ((first | refine Br.dec ?_ ?_ | refine Br.beq ?_ ?_ | refine Br.bne ?_ ?_ | refine Br.mk ?_ ?_) <;> intro h)) <;> try simp -implicitDefEqProofs (maxSteps := 9000000) (disch := first | omega | (simp only [List.length_set, List.length_append, List.length_cons, List.length_nil]; omega)) only [go_sem]))
  refine Fc.pure (IndexFuncR_spec o) (by simp [cloL, clo, cloL_opsT]) (fun g => rfl) ?_
  have hT := opsT_len
  by_cases h : 1 ≤ o ∧ o ≤ 20
  · have hi : ixO o = ((o.toNat - 1 : Nat) : Int) := by rw [ixO, if_pos h]; omega
    rw [hi]
    have hs := opsT_scal (j := o.toNat - 1)
    have hm := opsT_may (j := o.toNat - 1)
    have hr : rowFor o = opsT.getD (o.toNat - 1) zrow := by rw [rowFor, if_pos h]; congr 1; omega
    rw [ofV, hr, decide_eq_true h]
    (refine Go1.out ?_; repeat' ((with_reducible first | refine Go1.mk ?_ | ((first | refine Br.dec ?_ ?_ | refine Br.beq ?_ ?_ | refine Br.bne ?_ ?_ | refine Br.mk ?_ ?_) <;> intro h)) <;> try simp -implicitDefEqProofs (maxSteps := 9000000) (disch := first | omega | (simp only [List.length_set, List.length_append, List.length_cons, List.length_nil]; omega)) only [go_sem, rowC_eq, hs]))
    exact keepP (fun g => ren_clo g _ (by simp only [clo, cloL, hm, Bool.and_self])) rfl
  · have hi : ixO o = -1 := by rw [ixO, if_neg h]
    rw [hi]
    have hr : rowFor o = zrow := by rw [rowFor, if_neg h]
    rw [ofV, hr, decide_eq_false h]
    (refine Go1.out ?_; repeat' ((with_reducible first | refine Go1.mk ?_ | ((first | refine Br.dec ?_ ?_ | refine Br.beq ?_ ?_ | refine Br.bne ?_ ?_ | refine Br.mk ?_ ?_) <;> intro h)) <;> try simp -implicitDefEqProofs (maxSteps := 9000000) (disch := first | omega | (simp only [List.length_set, List.length_append, List.length_cons, List.length_nil]; omega)) only [go_sem, rowC_eq]))
    exact keepP (fun g => rfl) rfl
theorem cloL_rowFor (o : Int) : cloL (rowC (rowFor o)) = true := cloL_rowC _ (rowFor_may o)
theorem rowFor_scal (o : Int) : scal (rowFor o).may = true := by
  unfold rowFor; split
  · exact opsT_scal
  · rfl
theorem of_spec (o : Int) : Pu C 30 [.int .i64 o] (ofV o) := by
  refine Fc.keep (Fc.bodyT mixed Try.func30 w30 rfl Try.ntmps30 Try.results30 (Nat.le_of_ble_eq_true rfl) ?_)
  (refine Go1.out ?_; repeat' ((with_reducible first | refine Go1.mk ?_ | ((first | refine Br.dec ?_ ?_ | refine Br.beq ?_ ?_ | refine Br.bne ?_ ?_ | refine Br.mk ?_ ?_) <;> intro h)) <;> try simp -implicitDefEqProofs (maxSteps := 9000000) (disch := first | omega | (simp only [List.length_set, List.length_append, List.length_cons, List.length_nil]; omega)) only [go_sem]))
  refine Fc.sealed (r := 0) (cs := [.int .i64 o]) rfl rfl ?_
  simp only [szL, sz, if_true, List.set_cons_zero]
  have hs := rowFor_scal o
  have hm := rowFor_may o
  refine Fc.pure (find_spec o) rfl (fun g => ren_clo g _ (by simp only [ofV, clo, cloL, cloL_rowFor, Bool.and_self])) ?_
  rw [ofV]
  generalize rowFor o = r at hs hm
  (refine Go1.out ?_; repeat' ((with_reducible first | refine Go1.mk ?_ | ((first | refine Br.dec ?_ ?_ | refine Br.beq ?_ ?_ | refine Br.bne ?_ ?_ | refine Br.mk ?_ ?_) <;> intro h)) <;> try simp -implicitDefEqProofs (maxSteps := 9000000) (disch := first | omega | (simp only [List.length_set, List.length_append, List.length_cons, List.length_nil]; omega)) only [go_sem, rowC_eq, hs]))
  exact keepP (fun g => ren_clo g _ (by simp only [clo, cloL, hm, Bool.and_self])) rfl
theorem in_spec (r : RowS) (v : Int) : Pu C 32 [.agg (rowC r), .int .i64 v] (.bool (decide (r.first ≤ v ∧ v ≤ r.last))) := by
  refine Fc.keep (Fc.bodyT mixed Try.func32 w32 rfl Try.ntmps32 Try.results32 (Nat.le_of_ble_eq_true rfl) ?_)
  (refine Go1.out ?_; repeat' ((with_reducible first | refine Go1.mk ?_ | ((first | refine Br.dec ?_ ?_ | refine Br.beq ?_ ?_ | refine Br.bne ?_ ?_ | refine Br.mk ?_ ?_) <;> intro h)) <;> try simp -implicitDefEqProofs (maxSteps := 9000000) (disch := first | omega | (simp only [List.length_set, List.length_append, List.length_cons, List.length_nil]; omega)) only [go_sem, rowC_eq]))
  all_goals (refine keepP (by intro g; simp only [go_sem, ren, renL]) ?_)
  all_goals (simp only [V.tup.injEq, List.cons.injEq, V.int.injEq, V.bool.injEq, true_and, and_true]; (try rw [Bool.eq_iff_iff]); (try simp only [decide_eq_true_eq, decide_eq_false_iff_not, Decidable.not_not, true_and, and_true, Bool.not_eq_true, Bool.not_eq_eq_eq_not, Bool.not_true, Bool.and_eq_true, Bool.or_eq_true, beq_iff_eq, bne_iff_ne, ne_eq, Bool.false_eq_true, false_iff, true_iff, iff_false, iff_true]); (try omega))
theorem far_spec (a : Int) : Pu C 31 [.int .i64 a] (.bool (decide (a > 2147483647 ∨ a < -2147483647))) := by
  refine Fc.keep (Fc.bodyT mixed Try.func31 w31 rfl Try.ntmps31 Try.results31 (Nat.le_of_ble_eq_true rfl) ?_)
  (refine Go1.out ?_; repeat' ((with_reducible first | refine Go1.mk ?_ | ((first | refine Br.dec ?_ ?_ | refine Br.beq ?_ ?_ | refine Br.bne ?_ ?_ | refine Br.mk ?_ ?_) <;> intro h)) <;> try simp -implicitDefEqProofs (maxSteps := 9000000) (disch := first | omega | (simp only [List.length_set, List.length_append, List.length_cons, List.length_nil]; omega)) only [go_sem]))
  all_goals (refine keepP (by intro g; simp only [go_sem, ren, renL]) ?_)
  all_goals (simp only [V.tup.injEq, List.cons.injEq, V.int.injEq, V.bool.injEq, true_and, and_true]; (try rw [Bool.eq_iff_iff]); (try simp only [decide_eq_true_eq, decide_eq_false_iff_not, Decidable.not_not, true_and, and_true, Bool.not_eq_true, Bool.not_eq_eq_eq_not, Bool.not_true, Bool.and_eq_true, Bool.or_eq_true, beq_iff_eq, bne_iff_ne, ne_eq, Bool.false_eq_true, false_iff, true_iff, iff_false, iff_true]); (try omega))
theorem IndexFuncI_spec (l : List Int) (hl : l.length ≤ 17592186044416) : Fc C 58 [.sl l.length (ints l), .fn (.func 31) [] []] [] (fun v H => (∃ i : Int, v = .int .i64 i ∧ farB l = decide (0 ≤ i)) ∧ H = []) := by
  refine Fc.keep (Fc.bodyT mixed Try.func58 w58 rfl Try.ntmps58 Try.results58 (Nat.le_of_ble_eq_true rfl) ?_)
  (refine Go1.out ?_; repeat' ((with_reducible first | refine Go1.mk ?_ | ((first | refine Br.dec ?_ ?_ | refine Br.beq ?_ ?_ | refine Br.bne ?_ ?_ | refine Br.mk ?_ ?_) <;> intro h)) <;> try simp -implicitDefEqProofs (maxSteps := 9000000) (disch := first | omega | (simp only [List.length_set, List.length_append, List.length_cons, List.length_nil]; omega)) only [go_sem]))
  refine TT_loop_inv (fun n ts H => ∃ i, (i ≤ l.length) ∧ (∀ j, j < i → ¬ (l.getD j 0 > 2147483647 ∨ l.getD j 0 < -2147483647)) ∧ (n = l.length - i) ∧ (H = []) ∧ ts.length = 19 ∧ nth ts 0 = .sl l.length (ints l) ∧ nth ts 1 = .fn (.func 31) [] [] ∧ nth ts 7 = .int .i64 l.length ∧ nth ts 8 = .int .i64 i) ?_ (n := l.length) ?_
  · skip
    rintro n ts H ⟨i, hi, he, hn, hH, hL, hs0, hs1, hs7, hs8⟩
    refine TT_env [(0, .sl l.length (ints l)), (1, .fn (.func 31) [] []), (7, .int .i64 l.length), (8, .int .i64 i)] hL (by simp only [List.forall_mem_cons, hs0, hs1, hs7, hs8, true_and]; exact fun _ h => nomatch h) ?_
    clear hL hs0 hs1 hs7 hs8 ts
    refine TT_of mixed ?_
    subst hH hn
    (refine Go1.out ?_; repeat' ((with_reducible first | refine Go1.mk ?_ | ((first | refine Br.dec ?_ ?_ | refine Br.beq ?_ ?_ | refine Br.bne ?_ ?_ | refine Br.mk ?_ ?_) <;> intro h)) <;> try simp -implicitDefEqProofs (maxSteps := 9000000) (disch := first | omega | (simp only [List.length_set, List.length_append, List.length_cons, List.length_nil]; omega)) only [go_sem]))
    · skip
      refine Fc.pure (far_spec _) (by simp [cloL, clo, cloL_ints, cloL_intss]) (by intro g; simp only [go_sem, ren, renL]) ?_
      (refine Go1.out ?_; repeat' ((with_reducible first | refine Go1.mk ?_ | ((first | refine Br.dec ?_ ?_ | refine Br.beq ?_ ?_ | refine Br.bne ?_ ?_ | refine Br.mk ?_ ?_) <;> intro h)) <;> try simp -implicitDefEqProofs (maxSteps := 9000000) (disch := first | omega | (simp only [List.length_set, List.length_append, List.length_cons, List.length_nil]; omega)) only [go_sem]))
      · refine ⟨[], by simp, by simp, ⟨i, rfl, ?_⟩, rfl⟩
        rw [decide_eq_true (by omega)]
        simp only [farB, List.any_eq_true, decide_eq_true_eq]
        have e : l.getD i 0 = l[i]'(by omega) := by simp [List.getD, show i < l.length by omega]
        refine ⟨_, List.getElem_mem (show i < l.length by omega), ?_⟩
        rw [← e]; assumption
      · exact ⟨_, by omega, i + 1, by omega, allS he (by assumption), rfl, (by (repeat' apply And.intro) <;> (first | rfl | omega | (congr 1; omega) | assumption | (congr 1; assumption)))⟩
    · refine ⟨[], by simp, by simp, ⟨-1, rfl, ?_⟩, rfl⟩
      rw [decide_eq_false (by omega)]
      simp only [farB, List.any_eq_false, decide_eq_true_eq]
      exact (all_getD (xs := l) (p := fun x => ¬ (x > 2147483647 ∨ x < -2147483647))).2 fun j hj => he j (by omega)
  · exact ⟨0, by omega, fun j hj => by omega, rfl, rfl, rfl, rfl, rfl, rfl, rfl⟩
theorem ContainsFar_spec (l : List Int) (hl : l.length ≤ 17592186044416) : Pu C 33 [.sl l.length (ints l), .fn (.func 31) [] []] (.bool (farB l)) := by
  refine Fc.keep (Fc.bodyT mixed Try.func33 w33 rfl Try.ntmps33 Try.results33 (Nat.le_of_ble_eq_true rfl) ?_)
  (refine Go1.out ?_; repeat' ((with_reducible first | refine Go1.mk ?_ | ((first | refine Br.dec ?_ ?_ | refine Br.beq ?_ ?_ | refine Br.bne ?_ ?_ | refine Br.mk ?_ ?_) <;> intro h)) <;> try simp -implicitDefEqProofs (maxSteps := 9000000) (disch := first | omega | (simp only [List.length_set, List.length_append, List.length_cons, List.length_nil]; omega)) only [go_sem]))
  refine Fc.call (IndexFuncI_spec l hl) (by simp [cloL, clo, cloL_ints]) ?_
  rintro v H' ⟨⟨i, rfl, h3⟩, rfl⟩
  simp only [ren, renH, List.map_nil, List.append_nil]
  (refine Go1.out ?_; repeat' ((with_reducible first | refine Go1.mk ?_ | ((first | refine Br.dec ?_ ?_ | refine Br.beq ?_ ?_ | refine Br.bne ?_ ?_ | refine Br.mk ?_ ?_) <;> intro h)) <;> try simp -implicitDefEqProofs (maxSteps := 9000000) (disch := first | omega | (simp only [List.length_set, List.length_append, List.length_cons, List.length_nil]; omega)) only [go_sem]))
  (refine keepP (by intro g; simp only [go_sem, ren, renL]) ?_)
  rw [h3]
/-- What a row's function says of attributes that are not too great. -/
theorem may_spec (tur : ∀ l : List Int, l.length ≤ 17592186044416 → Pu C 73 [.sl l.length (ints l)] (.bool (permB l && decide (l.length ≤ 4)))) (o : Int) (ho : 1 ≤ o ∧ o ≤ 20) (l : List Int) (hl : l.length ≤ 17592186044416) (ha : Att l) :
    ∃ g ys, (rowFor o).may = .fn (.func g) [] ys ∧ cloL ys = true ∧ Pu C g (.sl l.length (ints l) :: ys) (.bool (opAttrs o l)) := by
  have hcs : o = 6 ∨ o = 9 ∨ o = 11 ∨ o = 12 ∨ o = 13 ∨ o = 14 ∨ o = 15 ∨ o = 16 ∨ o = 17 ∨ o = 20 ∨ (o = 1 ∨ o = 2 ∨ o = 3 ∨ o = 4 ∨ o = 5 ∨ o = 7 ∨ o = 8 ∨ o = 10 ∨ o = 18 ∨ o = 19) := by omega
  rcases hcs with rfl | rfl | rfl | rfl | rfl | rfl | rfl | rfl | rfl | rfl | hcs
  · exact ⟨_, _, rfl, rfl, one1_spec l 16⟩
  · exact ⟨_, _, rfl, rfl, reduced_spec l ha⟩
  · exact ⟨_, _, rfl, rfl, tur l hl⟩
  · exact ⟨_, _, rfl, rfl, dims_spec l hl⟩
  · exact ⟨_, _, rfl, rfl, dims_spec l hl⟩
  · exact ⟨_, _, rfl, rfl, rising_spec l hl⟩
  · exact ⟨_, _, rfl, rfl, pairs1_spec l _ true hl fun a b => by have := cut_spec a b; simpa using this⟩
  · exact ⟨_, _, rfl, rfl, pairs1_spec l _ false hl fun a b => by have := rim_spec a b; simpa using this⟩
  · exact ⟨_, _, rfl, rfl, one1_spec l 3⟩
  · exact ⟨_, _, rfl, rfl, rising_spec l hl⟩
  · rcases hcs with rfl | rfl | rfl | rfl | rfl | rfl | rfl | rfl | rfl | rfl <;> exact ⟨_, _, rfl, rfl, no_spec l⟩
end Go.Proofs.Ytlomgfdepllanaa
end

section
set_option linter.unusedSimpArgs false
set_option linter.unusedVariables false
set_option maxRecDepth 100000
set_option pp.maxSteps 1500
set_option maxHeartbeats 4000000
namespace Go.Proofs.Ytlomgfdepllanaa
open Go.Bv
theorem rowFor_facts (o : Int) (ho : 1 ≤ o ∧ o ≤ 20) : (∀ v, 1 ≤ v → v ≤ 3 → (inP o v = true ↔ (rowFor o).first ≤ v ∧ v ≤ (rowFor o).last) ∧ (noneP v o = true ↔ v ≤ (rowFor o).none)) ∧ (rowFor o).least = least o ∧ (rowFor o).most = most o := by
  have hcs : o = 1 ∨ o = 2 ∨ o = 3 ∨ o = 4 ∨ o = 5 ∨ o = 6 ∨ o = 7 ∨ o = 8 ∨ o = 9 ∨ o = 10 ∨ o = 11 ∨ o = 12 ∨ o = 13 ∨ o = 14 ∨ o = 15 ∨ o = 16 ∨ o = 17 ∨ o = 18 ∨ o = 19 ∨ o = 20 := by omega
  rcases hcs with rfl | rfl | rfl | rfl | rfl | rfl | rfl | rfl | rfl | rfl | rfl | rfl | rfl | rfl | rfl | rfl | rfl | rfl | rfl | rfl
  all_goals
    refine ⟨fun v h1 h2 => ?_, rfl, rfl⟩
    rcases (by omega : v = 1 ∨ v = 2 ∨ v = 3) with rfl | rfl | rfl
    all_goals exact ⟨by decide, by decide⟩
theorem Check_spec (tur : ∀ l : List Int, l.length ≤ 17592186044416 → Pu C 73 [.sl l.length (ints l)] (.bool (permB l && decide (l.length ≤ 4)))) (v : Int) (n : Nd) (ha : n.args.length ≤ 17592186044416) (hl : n.attrs.length ≤ 17592186044416) : Pu C 22 [.int .i64 v, .agg (ndC n)] (.int .i64 (checkP v n)) := by
  have hs := rowFor_scal n.op
  have hm := rowFor_may n.op
  refine Fc.keep (Fc.bodyT mixed Try.func22 w22 rfl Try.ntmps22 Try.results22 (Nat.le_of_ble_eq_true rfl) ?_)
  (refine Go1.out ?_; repeat' ((with_reducible first | refine Go1.mk ?_ | ((first | refine Br.dec ?_ ?_ | refine Br.beq ?_ ?_ | refine Br.bne ?_ ?_ | refine Br.mk ?_ ?_) <;> intro h)) <;> try simp -implicitDefEqProofs (maxSteps := 9000000) (disch := first | omega | (simp only [List.length_set, List.length_append, List.length_cons, List.length_nil]; omega)) only [go_sem]))
  refine Fc.pure (of_spec n.op) rfl (fun g => ren_clo g _ (by simp only [ofV, clo, cloL, cloL_rowFor, Bool.and_self])) ?_
  rw [ofV]
  (refine Go1.out ?_; repeat' ((with_reducible first | refine Go1.mk ?_ | ((first | refine Br.dec ?_ ?_ | refine Br.beq ?_ ?_ | refine Br.bne ?_ ?_ | refine Br.mk ?_ ?_) <;> intro h)) <;> try simp -implicitDefEqProofs (maxSteps := 9000000) (disch := first | omega | (simp only [List.length_set, List.length_append, List.length_cons, List.length_nil]; omega)) only [go_sem, rowC_eq, hs]))
  · skip
    (refine keepP (by intro g; simp only [go_sem, ren, renL]) ?_)
    rw [checkP, if_pos (by omega)]
  · skip
    (refine keepP (by intro g; simp only [go_sem, ren, renL]) ?_)
    rw [checkP, if_pos (by omega)]
  · have ho : 1 ≤ n.op ∧ n.op ≤ 20 := by assumption
    obtain ⟨f1, f2, f3⟩ := rowFor_facts n.op ho
    obtain ⟨f4, f5⟩ := f1 v (by omega) (by omega)
    have hc : checkP v n = if inP n.op v = false then 9 else if (n.args.length : Int) < least n.op ∨ (n.args.length : Int) > most n.op then 10 else if n.attrs.length = 0 ∧ noneP v n.op = true then 0 else if attrsP n.op n.attrs = true then 0 else 11 := by rw [checkP, if_neg (by omega)]
    refine Fc.pure (in_spec (rowFor n.op) v) (by simp only [cloL, clo, hm, Bool.and_self]) (fun g => rfl) ?_
    have hin : ¬ ((rowFor n.op).first ≤ v ∧ v ≤ (rowFor n.op).last) → inP n.op v = false := fun h => by
      cases hx : inP n.op v with
      | false => rfl
      | true => exact absurd (f4.1 hx) h
    by_cases hf : farB n.attrs = true
    · skip
      (refine Go1.out ?_; repeat' ((with_reducible first | refine Go1.mk ?_ | ((first | refine Br.dec ?_ ?_ | refine Br.beq ?_ ?_ | refine Br.bne ?_ ?_ | refine Br.mk ?_ ?_) <;> intro h)) <;> try simp -implicitDefEqProofs (maxSteps := 9000000) (disch := first | omega | (simp only [List.length_set, List.length_append, List.length_cons, List.length_nil]; omega)) only [go_sem, rowC_eq, hs]))
      · skip
        (refine keepP (by intro g; simp only [go_sem, ren, renL]) ?_)
        grind
      · skip
        (refine keepP (by intro g; simp only [go_sem, ren, renL]) ?_)
        grind
      · skip
        (refine keepP (by intro g; simp only [go_sem, ren, renL]) ?_)
        grind
      · skip
        refine Fc.pure (ContainsFar_spec _ hl) (by simp [cloL, clo, cloL_ints, cloL_intss]) (by intro g; simp only [go_sem, ren, renL]) ?_
        rw [hf]
        (refine Go1.out ?_; repeat' ((with_reducible first | refine Go1.mk ?_ | ((first | refine Br.dec ?_ ?_ | refine Br.beq ?_ ?_ | refine Br.bne ?_ ?_ | refine Br.mk ?_ ?_) <;> intro h)) <;> try simp -implicitDefEqProofs (maxSteps := 9000000) (disch := first | omega | (simp only [List.length_set, List.length_append, List.length_cons, List.length_nil]; omega)) only [go_sem, rowC_eq, hs]))
        (refine keepP (by intro g; simp only [go_sem, ren, renL]) ?_)
        grind [attrsP]
      · skip
        refine Fc.pure (ContainsFar_spec _ hl) (by simp [cloL, clo, cloL_ints, cloL_intss]) (by intro g; simp only [go_sem, ren, renL]) ?_
        rw [hf]
        (refine Go1.out ?_; repeat' ((with_reducible first | refine Go1.mk ?_ | ((first | refine Br.dec ?_ ?_ | refine Br.beq ?_ ?_ | refine Br.bne ?_ ?_ | refine Br.mk ?_ ?_) <;> intro h)) <;> try simp -implicitDefEqProofs (maxSteps := 9000000) (disch := first | omega | (simp only [List.length_set, List.length_append, List.length_cons, List.length_nil]; omega)) only [go_sem, rowC_eq, hs]))
        (refine keepP (by intro g; simp only [go_sem, ren, renL]) ?_)
        grind [attrsP]
      · skip
        (refine keepP (by intro g; simp only [go_sem, ren, renL]) ?_)
        rw [hc, if_pos (hin (by assumption))]
    · have hff : farB n.attrs = false := by simpa using hf
      obtain ⟨g, ys, he, hy, hsp⟩ := may_spec tur n.op ho n.attrs hl fun i hi => farB_false hff hi
      have hat : attrsP n.op n.attrs = opAttrs n.op n.attrs := by simp [attrsP, hff]
      (refine Go1.out ?_; repeat' ((with_reducible first | refine Go1.mk ?_ | ((first | refine Br.dec ?_ ?_ | refine Br.beq ?_ ?_ | refine Br.bne ?_ ?_ | refine Br.mk ?_ ?_) <;> intro h)) <;> try simp -implicitDefEqProofs (maxSteps := 9000000) (disch := first | omega | (simp only [List.length_set, List.length_append, List.length_cons, List.length_nil]; omega)) only [go_sem, rowC_eq, hs]))
      · skip
        (refine keepP (by intro g; simp only [go_sem, ren, renL]) ?_)
        grind
      · skip
        (refine keepP (by intro g; simp only [go_sem, ren, renL]) ?_)
        grind
      · skip
        (refine keepP (by intro g; simp only [go_sem, ren, renL]) ?_)
        grind
      · skip
        refine Fc.pure (ContainsFar_spec _ hl) (by simp [cloL, clo, cloL_ints, cloL_intss]) (by intro g; simp only [go_sem, ren, renL]) ?_
        rw [hff]
        (refine Go1.out ?_; repeat' ((with_reducible first | refine Go1.mk ?_ | ((first | refine Br.dec ?_ ?_ | refine Br.beq ?_ ?_ | refine Br.bne ?_ ?_ | refine Br.mk ?_ ?_) <;> intro h)) <;> try simp -implicitDefEqProofs (maxSteps := 9000000) (disch := first | omega | (simp only [List.length_set, List.length_append, List.length_cons, List.length_nil]; omega)) only [go_sem, rowC_eq, hs, he]))
        refine Fc.pure hsp (by simp only [cloL, clo, hy, cloL_ints, Bool.and_self]) (fun g => rfl) ?_
        (refine Go1.out ?_; repeat' ((with_reducible first | refine Go1.mk ?_ | ((first | refine Br.dec ?_ ?_ | refine Br.beq ?_ ?_ | refine Br.bne ?_ ?_ | refine Br.mk ?_ ?_) <;> intro h)) <;> try simp -implicitDefEqProofs (maxSteps := 9000000) (disch := first | omega | (simp only [List.length_set, List.length_append, List.length_cons, List.length_nil]; omega)) only [go_sem]))
        all_goals (refine keepP (by intro g; simp only [go_sem, ren, renL]) ?_)
        all_goals grind
      · skip
        refine Fc.pure (ContainsFar_spec _ hl) (by simp [cloL, clo, cloL_ints, cloL_intss]) (by intro g; simp only [go_sem, ren, renL]) ?_
        rw [hff]
        (refine Go1.out ?_; repeat' ((with_reducible first | refine Go1.mk ?_ | ((first | refine Br.dec ?_ ?_ | refine Br.beq ?_ ?_ | refine Br.bne ?_ ?_ | refine Br.mk ?_ ?_) <;> intro h)) <;> try simp -implicitDefEqProofs (maxSteps := 9000000) (disch := first | omega | (simp only [List.length_set, List.length_append, List.length_cons, List.length_nil]; omega)) only [go_sem, rowC_eq, hs, he]))
        refine Fc.pure hsp (by simp only [cloL, clo, hy, cloL_ints, Bool.and_self]) (fun g => rfl) ?_
        (refine Go1.out ?_; repeat' ((with_reducible first | refine Go1.mk ?_ | ((first | refine Br.dec ?_ ?_ | refine Br.beq ?_ ?_ | refine Br.bne ?_ ?_ | refine Br.mk ?_ ?_) <;> intro h)) <;> try simp -implicitDefEqProofs (maxSteps := 9000000) (disch := first | omega | (simp only [List.length_set, List.length_append, List.length_cons, List.length_nil]; omega)) only [go_sem]))
        all_goals (refine keepP (by intro g; simp only [go_sem, ren, renL]) ?_)
        all_goals grind
      · skip
        (refine keepP (by intro g; simp only [go_sem, ren, renL]) ?_)
        rw [hc, if_pos (hin (by assumption))]
  · skip
    (refine keepP (by intro g; simp only [go_sem, ren, renL]) ?_)
    have : inP n.op v = false := by
      cases hx : inP n.op v with
      | false => rfl
      | true => exact absurd (inP_op hx) (by assumption)
    rw [checkP, if_neg (by omega), if_pos this]
end Go.Proofs.Ytlomgfdepllanaa
end

section
set_option linter.unusedSimpArgs false
set_option linter.unusedVariables false
set_option maxRecDepth 100000
set_option pp.maxSteps 1500
set_option maxHeartbeats 4000000
namespace Go.Proofs.Ytlomgfdepllanaa
open Go.Bv
theorem isNaN_spec (a : Int) : Pu C 107 [.int .i64 a] (.bool false) := by
  refine Fc.keep (Fc.bodyT mixed Try.func107 w107 rfl Try.ntmps107 Try.results107 (Nat.le_of_ble_eq_true rfl) ?_)
  (refine Go1.out ?_; repeat' ((with_reducible first | refine Go1.mk ?_ | ((first | refine Br.dec ?_ ?_ | refine Br.beq ?_ ?_ | refine Br.bne ?_ ?_ | refine Br.mk ?_ ?_) <;> intro h)) <;> try simp -implicitDefEqProofs (maxSteps := 9000000) (disch := first | omega | (simp only [List.length_set, List.length_append, List.length_cons, List.length_nil]; omega)) only [go_sem]))
  (refine keepP (by intro g; simp only [go_sem, ren, renL]) ?_)
  simp
theorem Less_spec (a b : Int) : Pu C 97 [.int .i64 a, .int .i64 b] (.bool (decide (a < b))) := by
  refine Fc.keep (Fc.bodyT mixed Try.func97 w97 rfl Try.ntmps97 Try.results97 (Nat.le_of_ble_eq_true rfl) ?_)
  (refine Go1.out ?_; repeat' ((with_reducible first | refine Go1.mk ?_ | ((first | refine Br.dec ?_ ?_ | refine Br.beq ?_ ?_ | refine Br.bne ?_ ?_ | refine Br.mk ?_ ?_) <;> intro h)) <;> try simp -implicitDefEqProofs (maxSteps := 9000000) (disch := first | omega | (simp only [List.length_set, List.length_append, List.length_cons, List.length_nil]; omega)) only [go_sem]))
  refine Fc.pure (isNaN_spec a) (by simp [cloL, clo, cloL_ints, cloL_intss]) (by intro g; simp only [go_sem, ren, renL]) ?_
  (refine Go1.out ?_; repeat' ((with_reducible first | refine Go1.mk ?_ | ((first | refine Br.dec ?_ ?_ | refine Br.beq ?_ ?_ | refine Br.bne ?_ ?_ | refine Br.mk ?_ ?_) <;> intro h)) <;> try simp -implicitDefEqProofs (maxSteps := 9000000) (disch := first | omega | (simp only [List.length_set, List.length_append, List.length_cons, List.length_nil]; omega)) only [go_sem]))
  (refine keepP (by intro g; simp only [go_sem, ren, renL]) ?_)
  (simp only [V.tup.injEq, List.cons.injEq, V.int.injEq, V.bool.injEq, true_and, and_true]; (try rw [Bool.eq_iff_iff]); (try simp only [decide_eq_true_eq, decide_eq_false_iff_not, Decidable.not_not, true_and, and_true, Bool.not_eq_true, Bool.not_eq_eq_eq_not, Bool.not_true, Bool.and_eq_true, Bool.or_eq_true, beq_iff_eq, bne_iff_ne, ne_eq, Bool.false_eq_true, false_iff, true_iff, iff_false, iff_true]); (try omega))

/-! ### Sorting: the plain part -/
def swp (l : List Int) (j : Nat) : List Int := (l.set j (l.getD (j - 1) 0)).set (j - 1) (l.getD j 0)
theorem swp_length (l : List Int) (j : Nat) : (swp l j).length = l.length := by simp [swp]
theorem swp_perm (l : List Int) {j : Nat} (h0 : 0 < j) (h : j < l.length) : (swp l j).Perm l := by
  rw [List.perm_iff_count]
  intro a
  have h1 : j - 1 < l.length := by omega
  have e1 : l.getD j 0 = l[j] := by simp [List.getD, h]
  have e2 : l.getD (j - 1) 0 = l[j - 1] := by simp [List.getD, h1]
  have e3 : (l.set j l[j - 1])[j - 1]'(by simpa using h1) = l[j - 1] := by rw [List.getElem_set_ne (by omega)]
  rw [swp, e2, e1, List.count_set (by simpa using h1), List.count_set h, e3]
  have c1 : (if (l[j] == a) = true then 1 else 0) ≤ List.count a l := by
    split
    · rename_i hh; exact List.one_le_count_iff.2 (by rw [← eq_of_beq hh]; exact List.getElem_mem _)
    · omega
  have c2 : (if (l[j - 1] == a) = true then 1 else 0) ≤ List.count a l := by
    split
    · rename_i hh; exact List.one_le_count_iff.2 (by rw [← eq_of_beq hh]; exact List.getElem_mem _)
    · omega
  omega
theorem swp_getD (l : List Int) {j : Nat} (h0 : 0 < j) (h : j < l.length) (q : Nat) : (swp l j).getD q 0 = if q = j - 1 then l.getD j 0 else if q = j then l.getD (j - 1) 0 else l.getD q 0 := by
  unfold swp
  split
  · subst q; rw [Go.Bv.getD_set_eq _ (by simp; omega)]
  · rename_i hq
    rw [Go.Bv.getD_set_ne _ hq]
    split
    · subst q; rw [Go.Bv.getD_set_eq _ h]
    · rename_i hq2; rw [Go.Bv.getD_set_ne _ hq2]
/-- What holds while the j-th is let down among the first i + 1. -/
structure Ins (xs zs : List Int) (i j : Nat) : Prop where
  perm : zs.Perm xs
  others : ∀ p q, p < q → q ≤ i → p ≠ j → q ≠ j → zs.getD p 0 ≤ zs.getD q 0
  above : ∀ q, j < q → q ≤ i → zs.getD j 0 ≤ zs.getD q 0
theorem Ins.len {xs zs : List Int} {i j : Nat} (h : Ins xs zs i j) : zs.length = xs.length := h.perm.length_eq
theorem Ins.step {xs zs : List Int} {i j : Nat} (h : Ins xs zs i j) (h0 : 0 < j) (hj : j ≤ i) (hi : i < zs.length) (hlt : zs.getD j 0 < zs.getD (j - 1) 0) : Ins xs (swp zs j) i (j - 1) := by
  refine ⟨(swp_perm zs h0 (by omega)).trans h.perm, fun p q hpq hq hp1 hq1 => ?_, fun q hq hqi => ?_⟩
  · rw [swp_getD _ h0 (by omega), swp_getD _ h0 (by omega), if_neg hp1, if_neg hq1]
    split
    · subst p
      rw [if_neg (by omega)]
      exact h.others (j - 1) q (by omega) hq (by omega) (by omega)
    · split
      · subst q
        exact h.others p (j - 1) (by omega) (by omega) (by omega) (by omega)
      · exact h.others p q hpq hq (by omega) (by omega)
  · rw [swp_getD _ h0 (by omega), swp_getD _ h0 (by omega), if_pos rfl, if_neg (by omega)]
    split
    · omega
    · exact h.above q (by omega) hqi
theorem Ins.done {xs zs : List Int} {i j : Nat} (h : Ins xs zs i j) (hj : j ≤ i) (hx : j = 0 ∨ ¬ zs.getD j 0 < zs.getD (j - 1) 0) : ∀ p q, p < q → q ≤ i → zs.getD p 0 ≤ zs.getD q 0 := by
  intro p q hpq hq
  by_cases hp : p = j
  · subst hp; exact h.above q hpq hq
  · by_cases hqj : q = j
    · subst hqj
      rcases hx with hx | hx
      · omega
      · by_cases hp1 : p = q - 1
        · subst hp1; omega
        · have := h.others p (q - 1) (by omega) (by omega) (by omega) (by omega)
          omega
    · exact h.others p q hpq hq hp hqj

theorem row_same {H0 : Heap} {r : Nat} {row : Row} (hr : rowOf H0 r = some row) : H0.set r (some row) = H0 := by
  have := rowOf_some hr
  obtain ⟨h1, h2⟩ := List.getElem?_eq_some_iff.1 this
  rw [← h2]; exact List.set_getElem_self ..
theorem insSort_spec (r : Nat) (H0 : Heap) (xs : List Int) (hr : rowOf H0 r = some ⟨3, 1, ints xs⟩) (hn : xs.length ≤ 1000000) : Fc C 91 [.ref r 0 xs.length, .int .i64 0, .int .i64 xs.length] H0 (fun v H' => ∃ ys : List Int, v = .tup [] ∧ ys.Perm xs ∧ (∀ p q, p < q → q < ys.length → ys.getD p 0 ≤ ys.getD q 0) ∧ H' = H0.set r (some ⟨3, 1, ints ys⟩)) := by
  have hset : ∀ row, rowOf (H0.set r (some row)) r = some row := fun row => rowOf_set_eq hr
  have hsame := row_same hr
  refine Fc.bodyT mixed Try.func91 w91 rfl Try.ntmps91 Try.results91 (Nat.le_of_ble_eq_true rfl) ?_
  (refine Go1.out ?_; repeat' ((with_reducible first | refine Go1.mk ?_ | ((first | refine Br.dec ?_ ?_ | refine Br.beq ?_ ?_ | refine Br.bne ?_ ?_ | refine Br.mk ?_ ?_) <;> intro h)) <;> try simp -implicitDefEqProofs (maxSteps := 9000000) (disch := first | omega | (simp only [List.length_set, List.length_append, List.length_cons, List.length_nil]; omega)) only [go_sem]))
  by_cases h0 : xs.length = 0
  · obtain rfl : xs = [] := List.eq_nil_of_length_eq_zero h0
    refine TT_loop ?_
    refine TT_of mixed ?_
    (refine Go1.out ?_; repeat' ((with_reducible first | refine Go1.mk ?_ | ((first | refine Br.dec ?_ ?_ | refine Br.beq ?_ ?_ | refine Br.bne ?_ ?_ | refine Br.mk ?_ ?_) <;> intro h)) <;> try simp -implicitDefEqProofs (maxSteps := 9000000) (disch := first | omega | (simp only [List.length_set, List.length_append, List.length_cons, List.length_nil]; omega)) only [go_sem]))
    exact ⟨[], List.Perm.refl _, (fun p q h1 h2 => by simp at h2), hsame.symm⟩
  refine TT_loop_inv (fun n ts H => ∃ (i : Nat) (zs : List Int), (1 ≤ i) ∧ (i ≤ xs.length) ∧ (zs.Perm xs) ∧ (∀ p q, p < q → q < i → zs.getD p 0 ≤ zs.getD q 0) ∧ (n = xs.length - i) ∧ (H = H0.set r (some ⟨3, 1, ints zs⟩)) ∧ ts.length = 49 ∧ nth ts 0 = .ref r 0 xs.length ∧ nth ts 1 = .int .i64 0 ∧ nth ts 2 = .int .i64 xs.length ∧ nth ts 6 = .int .i64 i) ?_ (n := xs.length - 1) ?_
  · skip
    rintro n ts H ⟨i, zs, hi1, hi, hp, hs, hn, hH, hL, hs0, hs1, hs2, hs6⟩
    refine TT_env [(0, .ref r 0 xs.length), (1, .int .i64 0), (2, .int .i64 xs.length), (6, .int .i64 i)] hL (by simp only [List.forall_mem_cons, hs0, hs1, hs2, hs6, true_and]; exact fun _ h => nomatch h) ?_
    clear hL hs0 hs1 hs2 hs6 ts
    refine TT_of mixed ?_
    subst hn hH
    have hlz := hp.length_eq
    (refine Go1.out ?_; repeat' ((with_reducible first | refine Go1.mk ?_ | ((first | refine Br.dec ?_ ?_ | refine Br.beq ?_ ?_ | refine Br.bne ?_ ?_ | refine Br.mk ?_ ?_) <;> intro h)) <;> try simp -implicitDefEqProofs (maxSteps := 9000000) (disch := first | omega | (simp only [List.length_set, List.length_append, List.length_cons, List.length_nil]; omega)) only [go_sem]))
    · skip
      refine TT_loop_inv (fun n ts H => ∃ (j : Nat) (ws : List Int), (j ≤ i) ∧ (Ins xs ws i j) ∧ (n = j) ∧ (H = H0.set r (some ⟨3, 1, ints ws⟩)) ∧ ts.length = 49 ∧ nth ts 0 = .ref r 0 xs.length ∧ nth ts 1 = .int .i64 0 ∧ nth ts 2 = .int .i64 xs.length ∧ nth ts 6 = .int .i64 i ∧ nth ts 7 = .int .i64 j) ?_ (n := i) ?_
      · skip
        rintro n ts H ⟨j, ws, hj, hI, hn, hH, hL, hs0, hs1, hs2, hs6, hs7⟩
        refine TT_env [(0, .ref r 0 xs.length), (1, .int .i64 0), (2, .int .i64 xs.length), (6, .int .i64 i), (7, .int .i64 j)] hL (by simp only [List.forall_mem_cons, hs0, hs1, hs2, hs6, hs7, true_and]; exact fun _ h => nomatch h) ?_
        clear hL hs0 hs1 hs2 hs6 hs7 ts
        refine TT_of mixed ?_
        subst hn hH
        have hlw := hI.len
        (refine Go1.out ?_; repeat' ((with_reducible first | refine Go1.mk ?_ | ((first | refine Br.dec ?_ ?_ | refine Br.beq ?_ ?_ | refine Br.bne ?_ ?_ | refine Br.mk ?_ ?_) <;> intro h)) <;> try simp -implicitDefEqProofs (maxSteps := 9000000) (disch := first | omega | (simp only [List.length_set, List.length_append, List.length_cons, List.length_nil]; omega)) only [go_sem, hset]))
        · skip
          refine Pc.pure (Less_spec _ _) (by simp [cloL, clo, cloL_ints, cloL_intss]) (by intro g; simp only [go_sem, ren, renL]) ?_
          (refine Go1.out ?_; repeat' ((with_reducible first | refine Go1.mk ?_ | ((first | refine Br.dec ?_ ?_ | refine Br.beq ?_ ?_ | refine Br.bne ?_ ?_ | refine Br.mk ?_ ?_) <;> intro h)) <;> try simp -implicitDefEqProofs (maxSteps := 9000000) (disch := first | omega | (simp only [List.length_set, List.length_append, List.length_cons, List.length_nil]; omega)) only [go_sem, hset]))
          · have : ((n : Int) - 1) = ((n - 1 : Nat) : Int) := by omega
            exact ⟨n - 1, by omega, n - 1, swp ws n, by omega, hI.step (by omega) hj (by omega) (by assumption), rfl, rfl, by rw [this]⟩
          · have hd := hI.done hj (.inr (by assumption))
            exact ⟨xs.length - (i + 1), by omega, i + 1, ws, by omega, by omega, hI.perm, fun p q h1 h2 => hd p q h1 (by omega), rfl, rfl, by simp⟩
        · have hd := hI.done hj (.inl (by omega))
          exact ⟨xs.length - (i + 1), by omega, i + 1, ws, by omega, by omega, hI.perm, fun p q h1 h2 => hd p q h1 (by omega), rfl, rfl, by simp⟩
      · exact ⟨i, zs, by omega, ⟨hp, fun p q h1 h2 h3 h4 => hs p q h1 (by omega), fun q h1 h2 => by omega⟩, rfl, rfl, rfl, rfl, rfl, rfl, rfl, rfl⟩
    · exact ⟨zs, hp, fun p q h1 h2 => hs p q h1 (by omega), rfl⟩
  · exact ⟨1, xs, by omega, by omega, List.Perm.refl _, fun p q h1 h2 => by omega, rfl, hsame.symm, rfl, rfl, rfl, rfl, rfl⟩
end Go.Proofs.Ytlomgfdepllanaa
end

section
set_option linter.unusedSimpArgs false
set_option linter.unusedVariables false
set_option maxRecDepth 100000
set_option pp.maxSteps 1500
set_option maxHeartbeats 4000000
namespace Go.Proofs.Ytlomgfdepllanaa
open Go.Bv
@[go_sem] theorem convw_int {d : Ty} {k0 : IntKind} {n : Int} {K : V → Prop} : convw d (.int k0 n) K = (match d.ik with | some k => K (.int k (k.wrap n)) | none => False) := by unfold convw; cases d.ik <;> rfl
theorem indexw_str {ty : TypeId → Ty} {y : Ty} {s : ByteArray} {k : IntKind} {i : Nat} {K : V → Prop} (h : y.arr = none) (h2 : y.str = true) (hi : i < s.size) {u : V} (hu : .int .u8 ((s[i]?.getD 0).toNat : Int) = u) (hK : K u) : indexw ty y (.str s) (.int k (i : Int)) K := by
  subst hu
  simp only [indexw, h]
  exact ⟨h2, by omega, by simpa using hi, by simpa using hK⟩
@[go_sem] theorem wrapu8' {n : Int} (h : 0 ≤ n ∧ n ≤ 255) : IntKind.wrap .u8 n = n := by
  have e : IntKind.wrap .u8 n = n % 256 := rfl
  omega
@[go_sem] theorem wrapu64' {n : Int} (h : 0 ≤ n ∧ n ≤ 18446744073709551615) : IntKind.wrap .u64 n = n := by
  have e : IntKind.wrap .u64 n = n % 18446744073709551616 := rfl
  omega

theorem pdq_spec (lim : Int) (r : Nat) (H0 : Heap) (xs : List Int) (hr : rowOf H0 r = some ⟨3, 1, ints xs⟩) (hn : xs.length ≤ 12) : Fc C 89 [.ref r 0 xs.length, .int .i64 0, .int .i64 xs.length, .int .i64 lim] H0 (fun v H' => ∃ ys : List Int, v = .tup [] ∧ ys.Perm xs ∧ (∀ p q, p < q → q < ys.length → ys.getD p 0 ≤ ys.getD q 0) ∧ H' = H0.set r (some ⟨3, 1, ints ys⟩)) := by
  refine Fc.bodyT mixed Try.func89 w89 rfl Try.ntmps89 Try.results89 (Nat.le_of_ble_eq_true rfl) ?_
  (refine Go1.out ?_; repeat' ((with_reducible first | refine Go1.mk ?_ | ((first | refine Br.dec ?_ ?_ | refine Br.beq ?_ ?_ | refine Br.bne ?_ ?_ | refine Br.mk ?_ ?_) <;> intro h)) <;> try simp -implicitDefEqProofs (maxSteps := 9000000) (disch := first | omega | (simp only [List.length_set, List.length_append, List.length_cons, List.length_nil]; omega)) only [go_sem]))
  refine TT_loop ?_
  refine TT_of mixed ?_
  (refine Go1.out ?_; repeat' ((with_reducible first | refine Go1.mk ?_ | ((first | refine Br.dec ?_ ?_ | refine Br.beq ?_ ?_ | refine Br.bne ?_ ?_ | refine Br.mk ?_ ?_) <;> intro h)) <;> try simp -implicitDefEqProofs (maxSteps := 9000000) (disch := first | omega | (simp only [List.length_set, List.length_append, List.length_cons, List.length_nil]; omega)) only [go_sem]))
  refine Fc.mono (insSort_spec r H0 xs hr (by omega)) ?_
  rintro v H' ⟨ys, rfl, hp, hs, rfl⟩
  (refine Go1.out ?_; repeat' ((with_reducible first | refine Go1.mk ?_ | ((first | refine Br.dec ?_ ?_ | refine Br.beq ?_ ?_ | refine Br.bne ?_ ?_ | refine Br.mk ?_ ?_) <;> intro h)) <;> try simp -implicitDefEqProofs (maxSteps := 9000000) (disch := first | omega | (simp only [List.length_set, List.length_append, List.length_cons, List.length_nil]; omega)) only [go_sem]))
  exact ⟨ys, hp, hs, rfl⟩
theorem Len64_spec (a : Nat) (h : a ≤ 12) : Pu C 101 [.int .u64 a] (.int .i64 (Nat.log2 (2 * a))) := by
  refine Fc.keep (Fc.bodyT mixed Try.func101 w101 rfl Try.ntmps101 Try.results101 (Nat.le_of_ble_eq_true rfl) ?_)
  (refine Go1.out ?_; repeat' ((with_reducible first | refine Go1.mk ?_ | ((first | refine Br.dec ?_ ?_ | refine Br.beq ?_ ?_ | refine Br.bne ?_ ?_ | refine Br.mk ?_ ?_) <;> intro h)) <;> try simp -implicitDefEqProofs (maxSteps := 9000000) (disch := first | omega | (simp only [List.length_set, List.length_append, List.length_cons, List.length_nil]; omega)) only [go_sem]))
  have hx : a = 0 ∨ a = 1 ∨ a = 2 ∨ a = 3 ∨ a = 4 ∨ a = 5 ∨ a = 6 ∨ a = 7 ∨ a = 8 ∨ a = 9 ∨ a = 10 ∨ a = 11 ∨ a = 12 := by omega
  rcases hx with rfl | rfl | rfl | rfl | rfl | rfl | rfl | rfl | rfl | rfl | rfl | rfl | rfl
  all_goals refine indexw_str rfl rfl (by decide) (u := _) rfl ?_
  all_goals (refine Go1.out ?_; repeat' ((with_reducible first | refine Go1.mk ?_ | ((first | refine Br.dec ?_ ?_ | refine Br.beq ?_ ?_ | refine Br.bne ?_ ?_ | refine Br.mk ?_ ?_) <;> intro h)) <;> try simp -implicitDefEqProofs (maxSteps := 9000000) (disch := first | omega | (simp only [List.length_set, List.length_append, List.length_cons, List.length_nil]; omega)) only [go_sem]))
  all_goals (refine keepP (by intro g; simp only [go_sem, ren, renL]) ?_)
  all_goals rfl
theorem Len_spec (a : Nat) (h : a ≤ 12) : Pu C 90 [.int .u64 a] (.int .i64 (Nat.log2 (2 * a))) := by
  refine Fc.keep (Fc.bodyT mixed Try.func90 w90 rfl Try.ntmps90 Try.results90 (Nat.le_of_ble_eq_true rfl) ?_)
  (refine Go1.out ?_; repeat' ((with_reducible first | refine Go1.mk ?_ | ((first | refine Br.dec ?_ ?_ | refine Br.beq ?_ ?_ | refine Br.bne ?_ ?_ | refine Br.mk ?_ ?_) <;> intro h)) <;> try simp -implicitDefEqProofs (maxSteps := 9000000) (disch := first | omega | (simp only [List.length_set, List.length_append, List.length_cons, List.length_nil]; omega)) only [go_sem]))
  refine Fc.pure (Len64_spec a h) (by simp [cloL, clo, cloL_ints, cloL_intss]) (by intro g; simp only [go_sem, ren, renL]) ?_
  (refine Go1.out ?_; repeat' ((with_reducible first | refine Go1.mk ?_ | ((first | refine Br.dec ?_ ?_ | refine Br.beq ?_ ?_ | refine Br.bne ?_ ?_ | refine Br.mk ?_ ?_) <;> intro h)) <;> try simp -implicitDefEqProofs (maxSteps := 9000000) (disch := first | omega | (simp only [List.length_set, List.length_append, List.length_cons, List.length_nil]; omega)) only [go_sem]))
  (refine keepP (by intro g; simp only [go_sem, ren, renL]) ?_)
  rfl
theorem Sort_spec (r : Nat) (H0 : Heap) (xs : List Int) (hr : rowOf H0 r = some ⟨3, 1, ints xs⟩) (hn : xs.length ≤ 12) : Fc C 86 [.ref r 0 xs.length] H0 (fun v H' => ∃ ys : List Int, v = .tup [] ∧ ys.Perm xs ∧ (∀ p q, p < q → q < ys.length → ys.getD p 0 ≤ ys.getD q 0) ∧ H' = H0.set r (some ⟨3, 1, ints ys⟩)) := by
  refine Fc.bodyT mixed Try.func86 w86 rfl Try.ntmps86 Try.results86 (Nat.le_of_ble_eq_true rfl) ?_
  (refine Go1.out ?_; repeat' ((with_reducible first | refine Go1.mk ?_ | ((first | refine Br.dec ?_ ?_ | refine Br.beq ?_ ?_ | refine Br.bne ?_ ?_ | refine Br.mk ?_ ?_) <;> intro h)) <;> try simp -implicitDefEqProofs (maxSteps := 9000000) (disch := first | omega | (simp only [List.length_set, List.length_append, List.length_cons, List.length_nil]; omega)) only [go_sem]))
  refine Fc.pure (Len_spec _ hn) (by simp [cloL, clo, cloL_ints, cloL_intss]) (by intro g; simp only [go_sem, ren, renL]) ?_
  (refine Go1.out ?_; repeat' ((with_reducible first | refine Go1.mk ?_ | ((first | refine Br.dec ?_ ?_ | refine Br.beq ?_ ?_ | refine Br.bne ?_ ?_ | refine Br.mk ?_ ?_) <;> intro h)) <;> try simp -implicitDefEqProofs (maxSteps := 9000000) (disch := first | omega | (simp only [List.length_set, List.length_append, List.length_cons, List.length_nil]; omega)) only [go_sem]))
  refine Fc.mono (pdq_spec _ r H0 xs hr hn) ?_
  rintro v H' ⟨ys, rfl, hp, hs, rfl⟩
  (refine Go1.out ?_; repeat' ((with_reducible first | refine Go1.mk ?_ | ((first | refine Br.dec ?_ ?_ | refine Br.beq ?_ ?_ | refine Br.bne ?_ ?_ | refine Br.mk ?_ ?_) <;> intro h)) <;> try simp -implicitDefEqProofs (maxSteps := 9000000) (disch := first | omega | (simp only [List.length_set, List.length_append, List.length_cons, List.length_nil]; omega)) only [go_sem]))
  exact ⟨ys, hp, hs, rfl⟩
end Go.Proofs.Ytlomgfdepllanaa
end

section
set_option linter.unusedSimpArgs false
set_option linter.unusedVariables false
set_option maxRecDepth 100000
set_option pp.maxSteps 1500
set_option maxHeartbeats 4000000
namespace Go.Proofs.Ytlomgfdepllanaa
open Go.Bv
theorem yk87 : Try.f87.body.all yOK = true := by kernel_rfl
def vals (xs : List Int) : V := .fn (.func 87) [] [.rp [.sl xs.length (ints xs)] 0]
theorem Values_spec (xs : List Int) : Pu C 84 [.sl xs.length (ints xs)] (vals xs) := by
  refine Fc.keep (Fc.sealR ?_)
  refine Fc.bodyT mixed Try.func84 w84 rfl Try.ntmps84 Try.results84 (Nat.le_of_ble_eq_true rfl) ?_
  (refine Go1.out ?_; repeat' ((with_reducible first | refine Go1.mk ?_ | ((first | refine Br.dec ?_ ?_ | refine Br.beq ?_ ?_ | refine Br.bne ?_ ?_ | refine Br.mk ?_ ?_) <;> intro h)) <;> try simp -implicitDefEqProofs (maxSteps := 9000000) (disch := first | omega | (simp only [List.length_set, List.length_append, List.length_cons, List.length_nil]; omega)) only [go_sem]))
  refine ⟨0, _, 1, [.sl xs.length (ints xs)], rfl, by simp [cloL, clo, cloL_ints], [], by simp, by simp, ?_⟩
  simp [sz, szL, ren, renL, vals, selH, renL_ints]
theorem Values_gen (xs : List Int) (hx : xs.length ≤ 1000000) : Gen C 87 [.rp [.sl xs.length (ints xs)] 0] (xs.map fun a => [.int .i64 a]) := by
  refine Gen.of3 mixed Try.func87 w87 yk87 rfl Try.ntmps87 Try.results87 (Nat.le_of_ble_eq_true rfl) (by simp [cloL, clo]) ?_
  intro G l J hW
  (refine Go1.out ?_; repeat' ((with_reducible first | refine Go1.mk ?_ | ((first | refine Br.dec ?_ ?_ | refine Br.beq ?_ ?_ | refine Br.bne ?_ ?_ | refine Br.mk ?_ ?_) <;> intro h)) <;> try simp -implicitDefEqProofs (maxSteps := 9000000) (disch := first | omega | (simp only [List.length_set, List.length_append, List.length_cons, List.length_nil]; omega)) only [go_sem]))
  refine TTY_loop_inv (fun n ts H => ∃ (i : Nat), (i ≤ xs.length) ∧ (n = xs.length - i) ∧ (H.length = i) ∧ ts.length = 16 ∧ nth ts 0 = .fn (.yield l) [] [] ∧ nth ts 5 = .sl xs.length (ints xs) ∧ nth ts 6 = .int .i64 xs.length ∧ nth ts 7 = .int .i64 i) ?_ (n := xs.length) ?_
  · skip
    rintro n ts H ⟨i, hi, hn, hH, hL, hs0, hs5, hs6, hs7⟩
    refine TTY_env [(0, .fn (.yield l) [] []), (5, .sl xs.length (ints xs)), (6, .int .i64 xs.length), (7, .int .i64 i)] hL (by simp only [List.forall_mem_cons, hs0, hs5, hs6, hs7, true_and]; exact fun _ h => nomatch h) ?_
    clear hL hs0 hs5 hs6 hs7 ts
    refine hW _ _ _ _ ?_
    (refine Go1.out ?_; repeat' ((with_reducible first | refine Go1.mk ?_ | ((first | refine Br.dec ?_ ?_ | refine Br.beq ?_ ?_ | refine Br.bne ?_ ?_ | refine Br.mk ?_ ?_) <;> intro h)) <;> try simp -implicitDefEqProofs (maxSteps := 9000000) (disch := first | omega | (simp only [List.length_set, List.length_append, List.length_cons, List.length_nil]; omega)) only [go_sem]))
    · refine ⟨?_, ⟨xs.length - (i + 1), by omega, i + 1, by omega, rfl, by omega, rfl⟩, .inr trivial, .inr ?_⟩
      · have : i < xs.length := by omega
        simp [hH, List.getD, this]
      · simp only [List.length_replicate, List.length_map]; omega
    · refine ⟨.inl trivial, .inl ?_⟩
      simp only [List.length_map]; omega
  · exact ⟨0, by omega, by omega, rfl, rfl, rfl, rfl, rfl, rfl⟩
end Go.Proofs.Ytlomgfdepllanaa
end

section
set_option linter.unusedSimpArgs false
set_option linter.unusedVariables false
set_option maxRecDepth 100000
set_option pp.maxSteps 1500
set_option maxHeartbeats 4000000
namespace Go.Proofs.Ytlomgfdepllanaa
open Go.Bv
theorem AppendSeq_spec (xs : List Int) (hx : xs.length ≤ 1000000) : Fc C 88 [.nil, vals xs] [] (fun v H => Ret 3 1 H v xs.length (ints xs)) := by
  have hv : vals xs = .fn (.func 87) [] [.rp [.sl xs.length (ints xs)] 0] := rfl
  refine Fc.keep (Fc.bodyT mixed Try.func88 w88 rfl Try.ntmps88 Try.results88 (Nat.le_of_ble_eq_true rfl) ?_)
  (refine Go1.out ?_; repeat' ((with_reducible first | refine Go1.mk ?_ | ((first | refine Br.dec ?_ ?_ | refine Br.beq ?_ ?_ | refine Br.bne ?_ ?_ | refine Br.mk ?_ ?_) <;> intro h)) <;> try simp -implicitDefEqProofs (maxSteps := 9000000) (disch := first | omega | (simp only [List.length_set, List.length_append, List.length_cons, List.length_nil]; omega)) only [go_sem, hv]))
  refine TT_range (g := 87) (lb := [.rp [.sl xs.length (ints xs)] 0]) (xs := xs.map fun a => [.int .i64 a]) (by simp -implicitDefEqProofs (maxSteps := 9000000) (disch := first | omega | (simp only [List.length_set, List.length_append, List.length_cons, List.length_nil]; omega)) only [go_sem]) (by simp [cloL, clo, cloL_ints]) (Values_gen xs hx) (by simp) (fun k H => ∃ v, rowOf H 0 = some ⟨23, 1, [v]⟩ ∧ Go.Bv.Own 3 1 H v k (ints (xs.take k))) ⟨.nil, rfl, Go.Bv.Own.nil _ _ _⟩ ?_ ?_
  · intro k us H hk hI l
    obtain ⟨v, h0, hO⟩ := hI
    have hkl : k < xs.length := by simpa using (List.getElem?_eq_some_iff.1 hk).1
    obtain rfl : us = [.int .i64 (xs.getD k 0)] := by simp [hkl] at hk; simp [hk.symm, List.getD, hkl]
    (refine TT_of mixed ?_; simp -implicitDefEqProofs (maxSteps := 9000000) (disch := first | omega | (simp only [List.length_set, List.length_append, List.length_cons, List.length_nil]; omega)) only [go_sem, putl])
    (refine TT_of mixed ?_; simp -implicitDefEqProofs (maxSteps := 9000000) (disch := first | omega | (simp only [List.length_set, List.length_append, List.length_cons, List.length_nil]; omega)) only [go_sem, h0])
    refine app_one hO rfl ⟨by decide, by decide⟩ (by omega) rfl (ints_scal _) fun v' H' hO' hF => ?_
    have h0' : rowOf H' 0 = some ⟨23, 1, [v]⟩ := hF 0 _ (by
      rintro off n rfl
      rcases hO with ⟨h, _⟩ | ⟨r, h, hr, _⟩
      · cases h
      · injection h with h _ _; subst h; rw [h0] at hr; simp at hr) h0
    have hc : cellsOf v' = [v'] ∧ scal v' = true := by rcases hO' with ⟨rfl, _⟩ | ⟨r, rfl, _⟩ <;> exact ⟨rfl, rfl⟩
    (refine Go1.out ?_; repeat' ((with_reducible first | refine Go1.mk ?_ | ((first | refine Br.dec ?_ ?_ | refine Br.beq ?_ ?_ | refine Br.bne ?_ ?_ | refine Br.mk ?_ ?_) <;> intro h)) <;> try simp -implicitDefEqProofs (maxSteps := 9000000) (disch := first | omega | (simp only [List.length_set, List.length_append, List.length_cons, List.length_nil]; omega)) only [go_sem, h0', hc.1, hc.2, rangeQ, List.all_cons, List.all_nil]))
    have ht : ints (xs.take (k + 1)) = ints (xs.take k) ++ [V.int .i64 (xs.getD k 0)] := by rw [take_succ_getD xs 0 hkl]; simp [ints]
    refine ⟨v', rowOf_set_eq h0', ?_⟩
    rw [ht]
    rcases hO' with h | ⟨r, h, hr, hl⟩
    · exact .inl h
    · refine .inr ⟨r, h, ?_, hl⟩
      rw [rowOf_set_ne]
      · exact hr
      · rintro rfl; rw [h0'] at hr; simp at hr
  · intro H hI
    obtain ⟨v, h0, hO⟩ := hI
    (refine Go1.out ?_; repeat' ((with_reducible first | refine Go1.mk ?_ | ((first | refine Br.dec ?_ ?_ | refine Br.beq ?_ ?_ | refine Br.bne ?_ ?_ | refine Br.mk ?_ ?_) <;> intro h)) <;> try simp -implicitDefEqProofs (maxSteps := 9000000) (disch := first | omega | (simp only [List.length_set, List.length_append, List.length_cons, List.length_nil]; omega)) only [go_sem, h0]))
    simp only [List.length_map, List.take_length] at hO
    exact hO.ret (fun g => renL_ints g _) (fun v H h => h)
theorem Collect_spec (xs : List Int) (hx : xs.length ≤ 1000000) : Fc C 85 [vals xs] [] (fun v H => Ret 3 1 H v xs.length (ints xs)) := by
  refine Fc.keep (Fc.bodyT mixed Try.func85 w85 rfl Try.ntmps85 Try.results85 (Nat.le_of_ble_eq_true rfl) ?_)
  (refine Go1.out ?_; repeat' ((with_reducible first | refine Go1.mk ?_ | ((first | refine Br.dec ?_ ?_ | refine Br.beq ?_ ?_ | refine Br.bne ?_ ?_ | refine Br.mk ?_ ?_) <;> intro h)) <;> try simp -implicitDefEqProofs (maxSteps := 9000000) (disch := first | omega | (simp only [List.length_set, List.length_append, List.length_cons, List.length_nil]; omega)) only [go_sem]))
  refine Fc.own (AppendSeq_spec xs hx) (by simp [cloL, clo, vals, cloL_ints]) (fun g => renL_ints g _) fun v X hO => ?_
  (refine Go1.out ?_; repeat' ((with_reducible first | refine Go1.mk ?_ | ((first | refine Br.dec ?_ ?_ | refine Br.beq ?_ ?_ | refine Br.bne ?_ ?_ | refine Br.mk ?_ ?_) <;> intro h)) <;> try simp -implicitDefEqProofs (maxSteps := 9000000) (disch := first | omega | (simp only [List.length_set, List.length_append, List.length_cons, List.length_nil]; omega)) only [go_sem]))
  exact hO.ret (fun g => renL_ints g _) (fun v H h => h)
end Go.Proofs.Ytlomgfdepllanaa
end

section
set_option linter.unusedSimpArgs false
set_option linter.unusedVariables false
set_option maxRecDepth 100000
set_option pp.maxSteps 1500
set_option maxHeartbeats 4000000
namespace Go.Proofs.Ytlomgfdepllanaa
open Go.Bv
theorem insSort_nil : Pu C 91 [.nil, .int .i64 0, .int .i64 0] (.tup []) := by
  refine Fc.keep (Fc.bodyT mixed Try.func91 w91 rfl Try.ntmps91 Try.results91 (Nat.le_of_ble_eq_true rfl) ?_)
  (refine Go1.out ?_; repeat' ((with_reducible first | refine Go1.mk ?_ | ((first | refine Br.dec ?_ ?_ | refine Br.beq ?_ ?_ | refine Br.bne ?_ ?_ | refine Br.mk ?_ ?_) <;> intro h)) <;> try simp -implicitDefEqProofs (maxSteps := 9000000) (disch := first | omega | (simp only [List.length_set, List.length_append, List.length_cons, List.length_nil]; omega)) only [go_sem]))
  refine TT_loop ?_
  refine TT_of mixed ?_
  (refine Go1.out ?_; repeat' ((with_reducible first | refine Go1.mk ?_ | ((first | refine Br.dec ?_ ?_ | refine Br.beq ?_ ?_ | refine Br.bne ?_ ?_ | refine Br.mk ?_ ?_) <;> intro h)) <;> try simp -implicitDefEqProofs (maxSteps := 9000000) (disch := first | omega | (simp only [List.length_set, List.length_append, List.length_cons, List.length_nil]; omega)) only [go_sem]))
  (refine keepP (by intro g; simp only [go_sem, ren, renL]) ?_)
  rfl
theorem pdq_nil (lim : Int) : Pu C 89 [.nil, .int .i64 0, .int .i64 0, .int .i64 lim] (.tup []) := by
  refine Fc.keep (Fc.bodyT mixed Try.func89 w89 rfl Try.ntmps89 Try.results89 (Nat.le_of_ble_eq_true rfl) ?_)
  (refine Go1.out ?_; repeat' ((with_reducible first | refine Go1.mk ?_ | ((first | refine Br.dec ?_ ?_ | refine Br.beq ?_ ?_ | refine Br.bne ?_ ?_ | refine Br.mk ?_ ?_) <;> intro h)) <;> try simp -implicitDefEqProofs (maxSteps := 9000000) (disch := first | omega | (simp only [List.length_set, List.length_append, List.length_cons, List.length_nil]; omega)) only [go_sem]))
  refine TT_loop ?_
  refine TT_of mixed ?_
  (refine Go1.out ?_; repeat' ((with_reducible first | refine Go1.mk ?_ | ((first | refine Br.dec ?_ ?_ | refine Br.beq ?_ ?_ | refine Br.bne ?_ ?_ | refine Br.mk ?_ ?_) <;> intro h)) <;> try simp -implicitDefEqProofs (maxSteps := 9000000) (disch := first | omega | (simp only [List.length_set, List.length_append, List.length_cons, List.length_nil]; omega)) only [go_sem]))
  refine Fc.pure (insSort_nil) (by simp [cloL, clo, cloL_ints, cloL_intss]) (by intro g; simp only [go_sem, ren, renL]) ?_
  (refine Go1.out ?_; repeat' ((with_reducible first | refine Go1.mk ?_ | ((first | refine Br.dec ?_ ?_ | refine Br.beq ?_ ?_ | refine Br.bne ?_ ?_ | refine Br.mk ?_ ?_) <;> intro h)) <;> try simp -implicitDefEqProofs (maxSteps := 9000000) (disch := first | omega | (simp only [List.length_set, List.length_append, List.length_cons, List.length_nil]; omega)) only [go_sem]))
  (refine keepP (by intro g; simp only [go_sem, ren, renL]) ?_)
  rfl
theorem Sort_nil : Pu C 86 [.nil] (.tup []) := by
  refine Fc.keep (Fc.bodyT mixed Try.func86 w86 rfl Try.ntmps86 Try.results86 (Nat.le_of_ble_eq_true rfl) ?_)
  (refine Go1.out ?_; repeat' ((with_reducible first | refine Go1.mk ?_ | ((first | refine Br.dec ?_ ?_ | refine Br.beq ?_ ?_ | refine Br.bne ?_ ?_ | refine Br.mk ?_ ?_) <;> intro h)) <;> try simp -implicitDefEqProofs (maxSteps := 9000000) (disch := first | omega | (simp only [List.length_set, List.length_append, List.length_cons, List.length_nil]; omega)) only [go_sem]))
  refine Fc.pure (Len_spec 0 (by omega)) (by simp [cloL, clo, cloL_ints, cloL_intss]) (by intro g; simp only [go_sem, ren, renL]) ?_
  (refine Go1.out ?_; repeat' ((with_reducible first | refine Go1.mk ?_ | ((first | refine Br.dec ?_ ?_ | refine Br.beq ?_ ?_ | refine Br.bne ?_ ?_ | refine Br.mk ?_ ?_) <;> intro h)) <;> try simp -implicitDefEqProofs (maxSteps := 9000000) (disch := first | omega | (simp only [List.length_set, List.length_append, List.length_cons, List.length_nil]; omega)) only [go_sem]))
  refine Fc.pure (pdq_nil _) (by simp [cloL, clo, cloL_ints, cloL_intss]) (by intro g; simp only [go_sem, ren, renL]) ?_
  (refine Go1.out ?_; repeat' ((with_reducible first | refine Go1.mk ?_ | ((first | refine Br.dec ?_ ?_ | refine Br.beq ?_ ?_ | refine Br.bne ?_ ?_ | refine Br.mk ?_ ?_) <;> intro h)) <;> try simp -implicitDefEqProofs (maxSteps := 9000000) (disch := first | omega | (simp only [List.length_set, List.length_append, List.length_cons, List.length_nil]; omega)) only [go_sem]))
  (refine keepP (by intro g; simp only [go_sem, ren, renL]) ?_)
  rfl
theorem Sorted_spec (xs : List Int) (hx : xs.length ≤ 12) : Fc C 83 [vals xs] [] (fun v H => ∃ ys : List Int, ys.Perm xs ∧ (∀ p q, p < q → q < ys.length → ys.getD p 0 ≤ ys.getD q 0) ∧ Ret 3 1 H v ys.length (ints ys)) := by
  refine Fc.keep (Fc.bodyT mixed Try.func83 w83 rfl Try.ntmps83 Try.results83 (Nat.le_of_ble_eq_true rfl) ?_)
  (refine Go1.out ?_; repeat' ((with_reducible first | refine Go1.mk ?_ | ((first | refine Br.dec ?_ ?_ | refine Br.beq ?_ ?_ | refine Br.bne ?_ ?_ | refine Br.mk ?_ ?_) <;> intro h)) <;> try simp -implicitDefEqProofs (maxSteps := 9000000) (disch := first | omega | (simp only [List.length_set, List.length_append, List.length_cons, List.length_nil]; omega)) only [go_sem]))
  refine Fc.own (Collect_spec xs (by omega)) (by simp [cloL, clo, vals, cloL_ints]) (fun g => renL_ints g _) fun v X hO => ?_
  rcases hO with ⟨rfl, h, h'⟩ | ⟨r, rfl, hr, hl⟩
  · obtain rfl : xs = [] := List.eq_nil_of_length_eq_zero h
    (refine Go1.out ?_; repeat' ((with_reducible first | refine Go1.mk ?_ | ((first | refine Br.dec ?_ ?_ | refine Br.beq ?_ ?_ | refine Br.bne ?_ ?_ | refine Br.mk ?_ ?_) <;> intro h)) <;> try simp -implicitDefEqProofs (maxSteps := 9000000) (disch := first | omega | (simp only [List.length_set, List.length_append, List.length_cons, List.length_nil]; omega)) only [go_sem]))
    refine Fc.pure (Sort_nil) (by simp [cloL, clo, cloL_ints, cloL_intss]) (by intro g; simp only [go_sem, ren, renL]) ?_
    (refine Go1.out ?_; repeat' ((with_reducible first | refine Go1.mk ?_ | ((first | refine Br.dec ?_ ?_ | refine Br.beq ?_ ?_ | refine Br.bne ?_ ?_ | refine Br.mk ?_ ?_) <;> intro h)) <;> try simp -implicitDefEqProofs (maxSteps := 9000000) (disch := first | omega | (simp only [List.length_set, List.length_append, List.length_cons, List.length_nil]; omega)) only [go_sem]))
    exact (Go.Bv.Own.nil _ _ _).ret (fun g => rfl) (fun v H h => ⟨[], .refl _, fun p q h1 h2 => by simp at h2, h⟩)
  · skip
    (refine Go1.out ?_; repeat' ((with_reducible first | refine Go1.mk ?_ | ((first | refine Br.dec ?_ ?_ | refine Br.beq ?_ ?_ | refine Br.bne ?_ ?_ | refine Br.mk ?_ ?_) <;> intro h)) <;> try simp -implicitDefEqProofs (maxSteps := 9000000) (disch := first | omega | (simp only [List.length_set, List.length_append, List.length_cons, List.length_nil]; omega)) only [go_sem]))
    refine Fc.mono (Sort_spec r _ xs hr hx) ?_
    rintro v H' ⟨ys, rfl, hp, hs, rfl⟩
    (refine Go1.out ?_; repeat' ((with_reducible first | refine Go1.mk ?_ | ((first | refine Br.dec ?_ ?_ | refine Br.beq ?_ ?_ | refine Br.bne ?_ ?_ | refine Br.mk ?_ ?_) <;> intro h)) <;> try simp -implicitDefEqProofs (maxSteps := 9000000) (disch := first | omega | (simp only [List.length_set, List.length_append, List.length_cons, List.length_nil]; omega)) only [go_sem]))
    have hO : Go.Bv.Own 3 1 (List.set ([] ++ X) r (some ⟨3, 1, ints ys⟩)) (.ref r 0 xs.length) ys.length (ints ys) := .inr ⟨r, by rw [hp.length_eq], rowOf_set_eq hr, by simp [ints_length]⟩
    exact hO.ret (fun g => renL_ints g _) (fun v H h => ⟨ys, hp, hs, h⟩)
end Go.Proofs.Ytlomgfdepllanaa
end

section
set_option linter.unusedSimpArgs false
set_option linter.unusedVariables false
set_option maxRecDepth 100000
set_option pp.maxSteps 1500
set_option maxHeartbeats 4000000
namespace Go.Proofs.Ytlomgfdepllanaa
open Go.Bv

theorem permB_nodup {xs : List Int} (h : permB xs = true) : xs.Nodup := by
  rw [List.Nodup, List.pairwise_iff_getElem]
  intro i j hi hj hij he
  have := ((permB_iff xs).1 h j hj)
  simp only [permAt] at this
  have h2 := this.2.2
  refine h2 i hij ?_
  simp only [List.getD, List.getElem?_eq_getElem hi, List.getElem?_eq_getElem hj, Option.getD_some, he]
theorem permB_mem {xs : List Int} (h : permB xs = true) : ∀ a ∈ xs, 0 ≤ a ∧ a < xs.length := by
  intro a ha
  obtain ⟨i, hi, rfl⟩ := List.getElem_of_mem ha
  have := ((permB_iff xs).1 h i hi)
  simp only [permAt, List.getD, List.getElem?_eq_getElem hi, Option.getD_some] at this
  exact ⟨this.1, this.2.1⟩
theorem getD_mem' {ys : List Int} {i : Nat} (h : i < ys.length) : ys.getD i 0 ∈ ys := by
  simp only [List.getD, List.getElem?_eq_getElem h, Option.getD_some]; exact List.getElem_mem _
theorem sorted_range {xs ys : List Int} (hp : ys.Perm xs) (hs : ∀ p q, p < q → q < ys.length → ys.getD p 0 ≤ ys.getD q 0) : permB xs = true ↔ ∀ i, i < ys.length → ys.getD i 0 = i := by
  have hl := hp.length_eq
  constructor
  · intro h
    have hn : ys.Nodup := hp.nodup_iff.2 (permB_nodup h)
    have hm : ∀ i, i < ys.length → 0 ≤ ys.getD i 0 ∧ ys.getD i 0 < ys.length := fun i hi => by
      have := permB_mem h _ (hp.mem_iff.1 (getD_mem' hi)); rwa [← hl] at this
    have hlt : ∀ i, i + 1 < ys.length → ys.getD i 0 < ys.getD (i + 1) 0 := fun i hi => by
      have h1 := hs i (i + 1) (by omega) hi
      have h2 : ys.getD i 0 ≠ ys.getD (i + 1) 0 := by
        rw [List.Nodup, List.pairwise_iff_getElem] at hn
        have := hn i (i + 1) (by omega) hi (by omega)
        simpa only [List.getD, List.getElem?_eq_getElem hi, List.getElem?_eq_getElem (show i < ys.length by omega), Option.getD_some] using this
      omega
    have lo : ∀ i, i < ys.length → (i : Int) ≤ ys.getD i 0 := by
      intro i
      induction i with
      | zero => intro hi; exact (hm 0 hi).1
      | succ i ih => intro hi; have := ih (by omega); have := hlt i hi; omega
    have up : ∀ d i, i < ys.length → ys.length - 1 - i = d → ys.getD i 0 ≤ i := by
      intro d
      induction d with
      | zero => intro i hi hd; have := (hm i hi).2; omega
      | succ d ih => intro i hi hd; have := ih (i + 1) (by omega) (by omega); have := hlt i (by omega); omega
    intro i hi
    have := lo i hi; have := up _ i hi rfl; omega
  · intro h
    have hn : ys.Nodup := by
      rw [List.Nodup, List.pairwise_iff_getElem]
      intro i j hi hj hij he
      have h1 := h i hi; have h2 := h j hj
      simp only [List.getD, List.getElem?_eq_getElem hi, List.getElem?_eq_getElem hj, Option.getD_some] at h1 h2
      omega
    have hn' := hp.nodup_iff.1 hn
    rw [List.Nodup, List.pairwise_iff_getElem] at hn'
    refine (permB_iff xs).2 fun i hi => ?_
    obtain ⟨j, hj, he⟩ := List.getElem_of_mem (hp.mem_iff.2 (getD_mem' hi))
    have h1 := h j hj
    simp only [List.getD, List.getElem?_eq_getElem hj, Option.getD_some] at h1
    simp only [permAt]
    refine ⟨by omega, by omega, fun k hk => ?_⟩
    have := hn' k i (by omega) hi hk
    simpa only [List.getD, List.getElem?_eq_getElem hi, List.getElem?_eq_getElem (show k < xs.length by omega), Option.getD_some] using this
theorem Perm_spec (xs : List Int) (hx : xs.length ≤ 12) : Pu C 81 [.sl xs.length (ints xs), .int .i64 xs.length] (.int .i64 (if permB xs then 0 else 11)) := by
  refine Fc.keep (Fc.bodyT mixed Try.func81 w81 rfl Try.ntmps81 Try.results81 (Nat.le_of_ble_eq_true rfl) ?_)
  (refine Go1.out ?_; repeat' ((with_reducible first | refine Go1.mk ?_ | ((first | refine Br.dec ?_ ?_ | refine Br.beq ?_ ?_ | refine Br.bne ?_ ?_ | refine Br.mk ?_ ?_) <;> intro h)) <;> try simp -implicitDefEqProofs (maxSteps := 9000000) (disch := first | omega | (simp only [List.length_set, List.length_append, List.length_cons, List.length_nil]; omega)) only [go_sem]))
  refine Fc.pure (Values_spec xs) (by simp [cloL, clo, cloL_ints]) (fun g => ren_clo g _ (by simp [vals, cloL, clo, cloL_ints])) ?_
  (refine Go1.out ?_; repeat' ((with_reducible first | refine Go1.mk ?_ | ((first | refine Br.dec ?_ ?_ | refine Br.beq ?_ ?_ | refine Br.bne ?_ ?_ | refine Br.mk ?_ ?_) <;> intro h)) <;> try simp -implicitDefEqProofs (maxSteps := 9000000) (disch := first | omega | (simp only [List.length_set, List.length_append, List.length_cons, List.length_nil]; omega)) only [go_sem]))
  refine Fc.mono (Sorted_spec xs hx) ?_
  rintro v H' ⟨ys, hp, hs, hR⟩
  have hr := sorted_range hp hs
  have hl := hp.length_eq
  rcases hR with ⟨rfl, h, h', rfl⟩ | ⟨rfl, rfl, _⟩
  · obtain rfl : ys = [] := List.eq_nil_of_length_eq_zero h
    have hx : permB xs = true := hr.2 (by simp)
    rw [hx]
    (refine Go1.out ?_; repeat' ((with_reducible first | refine Go1.mk ?_ | ((first | refine Br.dec ?_ ?_ | refine Br.beq ?_ ?_ | refine Br.bne ?_ ?_ | refine Br.mk ?_ ?_) <;> intro h)) <;> try simp -implicitDefEqProofs (maxSteps := 9000000) (disch := first | omega | (simp only [List.length_set, List.length_append, List.length_cons, List.length_nil]; omega)) only [go_sem]))
    refine TT_loop ?_
    refine TT_of mixed ?_
    (refine Go1.out ?_; repeat' ((with_reducible first | refine Go1.mk ?_ | ((first | refine Br.dec ?_ ?_ | refine Br.beq ?_ ?_ | refine Br.bne ?_ ?_ | refine Br.mk ?_ ?_) <;> intro h)) <;> try simp -implicitDefEqProofs (maxSteps := 9000000) (disch := first | omega | (simp only [List.length_set, List.length_append, List.length_cons, List.length_nil]; omega)) only [go_sem]))
    (refine keepP (by intro g; simp only [go_sem, ren, renL]) ?_)
    rfl
  · skip
    (refine Go1.out ?_; repeat' ((with_reducible first | refine Go1.mk ?_ | ((first | refine Br.dec ?_ ?_ | refine Br.beq ?_ ?_ | refine Br.bne ?_ ?_ | refine Br.mk ?_ ?_) <;> intro h)) <;> try simp -implicitDefEqProofs (maxSteps := 9000000) (disch := first | omega | (simp only [List.length_set, List.length_append, List.length_cons, List.length_nil]; omega)) only [go_sem]))
    refine TT_loop_inv (fun n ts H => ∃ (i : Nat), (i ≤ ys.length) ∧ (H = [some ⟨3, 1, ints ys⟩]) ∧ (n = ys.length - i) ∧ (∀ k, k < i → ys.getD k 0 = k) ∧ ts.length = 27 ∧ nth ts 1 = .int .i64 xs.length ∧ nth ts 4 = .int .i64 0 ∧ nth ts 5 = .ref 0 0 ys.length ∧ nth ts 11 = .ref 0 0 ys.length ∧ nth ts 12 = .int .i64 ys.length ∧ nth ts 13 = .int .i64 i) ?_ (n := ys.length) ?_
    · skip
      rintro n ts H ⟨i, hi, hH, hn, hall, hL, hs1, hs4, hs5, hs11, hs12, hs13⟩
      refine TT_env [(1, .int .i64 xs.length), (4, .int .i64 0), (5, .ref 0 0 ys.length), (11, .ref 0 0 ys.length), (12, .int .i64 ys.length), (13, .int .i64 i)] hL (by simp only [List.forall_mem_cons, hs1, hs4, hs5, hs11, hs12, hs13, true_and]; exact fun _ h => nomatch h) ?_
      clear hL hs1 hs4 hs5 hs11 hs12 hs13 ts
      refine TT_of mixed ?_
      subst hH
      (refine Go1.out ?_; repeat' ((with_reducible first | refine Go1.mk ?_ | ((first | refine Br.dec ?_ ?_ | refine Br.beq ?_ ?_ | refine Br.bne ?_ ?_ | refine Br.mk ?_ ?_) <;> intro h)) <;> try simp -implicitDefEqProofs (maxSteps := 9000000) (disch := first | omega | (simp only [List.length_set, List.length_append, List.length_cons, List.length_nil]; omega)) only [go_sem]))
      · skip
        (refine keepP (by intro g; simp only [go_sem, ren, renL]) ?_)
        have : permB xs = false := by
          cases hb : permB xs with
          | false => rfl
          | true => exact absurd (hr.1 hb i (by omega)) (by assumption)
        simp [this]
      · refine ⟨ys.length - (i + 1), by omega, i + 1, by omega, rfl, fun k hk => ?_, rfl⟩
        rcases Nat.lt_or_ge k i with h1 | h1
        · exact hall k h1
        · obtain rfl : k = i := by omega
          assumption
      · skip
        (refine keepP (by intro g; simp only [go_sem, ren, renL]) ?_)
        have : permB xs = true := hr.2 fun k hk => hall k (by omega)
        simp [this]
    · exact ⟨0, by omega, rfl, rfl, fun k hk => by omega, rfl, rfl, rfl, rfl, rfl, rfl, rfl⟩
theorem opTurned_spec (l : List Int) (hl : l.length ≤ 17592186044416) : Pu C 73 [.sl l.length (ints l)] (.bool (permB l && decide (l.length ≤ 4))) := by
  refine Fc.keep (Fc.bodyT mixed Try.func73 w73 rfl Try.ntmps73 Try.results73 (Nat.le_of_ble_eq_true rfl) ?_)
  (refine Go1.out ?_; repeat' ((with_reducible first | refine Go1.mk ?_ | ((first | refine Br.dec ?_ ?_ | refine Br.beq ?_ ?_ | refine Br.bne ?_ ?_ | refine Br.mk ?_ ?_) <;> intro h)) <;> try simp -implicitDefEqProofs (maxSteps := 9000000) (disch := first | omega | (simp only [List.length_set, List.length_append, List.length_cons, List.length_nil]; omega)) only [go_sem]))
  · skip
    refine Fc.pure (Perm_spec l (by omega)) (by simp [cloL, clo, cloL_ints, cloL_intss]) (by intro g; simp only [go_sem, ren, renL]) ?_
    cases hp : permB l with
    | true =>
      (refine Go1.out ?_; repeat' ((with_reducible first | refine Go1.mk ?_ | ((first | refine Br.dec ?_ ?_ | refine Br.beq ?_ ?_ | refine Br.bne ?_ ?_ | refine Br.mk ?_ ?_) <;> intro h)) <;> try simp -implicitDefEqProofs (maxSteps := 9000000) (disch := first | omega | (simp only [List.length_set, List.length_append, List.length_cons, List.length_nil]; omega)) only [go_sem]))
      (refine keepP (by intro g; simp only [go_sem, ren, renL]) ?_)
      simp; omega
    | false =>
      (refine Go1.out ?_; repeat' ((with_reducible first | refine Go1.mk ?_ | ((first | refine Br.dec ?_ ?_ | refine Br.beq ?_ ?_ | refine Br.bne ?_ ?_ | refine Br.mk ?_ ?_) <;> intro h)) <;> try simp -implicitDefEqProofs (maxSteps := 9000000) (disch := first | omega | (simp only [List.length_set, List.length_append, List.length_cons, List.length_nil]; omega)) only [go_sem]))
      (refine keepP (by intro g; simp only [go_sem, ren, renL]) ?_)
      simp
  · skip
    (refine keepP (by intro g; simp only [go_sem, ren, renL]) ?_)
    have : ¬ l.length ≤ 4 := by omega
    simp [this]
theorem Check_spec' (v : Int) (n : Nd) (ha : n.args.length ≤ 17592186044416) (hl : n.attrs.length ≤ 17592186044416) : Pu C 22 [.int .i64 v, .agg (ndC n)] (.int .i64 (checkP v n)) := Check_spec opTurned_spec v n ha hl
end Go.Proofs.Ytlomgfdepllanaa
end
