/-
  Parts Perm1, Mov5, Mov6, La1, La2, La3, Rf0, Lw1, RowU, one behind the other: a program logic of our own, contracts of functions.
-/
import Derived.Test.YtjdbdmhjakfldaaGreatP5

section
set_option linter.unusedSimpArgs false
set_option linter.unusedVariables false
set_option maxRecDepth 100000
set_option pp.maxSteps 1500
set_option maxHeartbeats 4000000
namespace Go.Proofs.YtjdbdmhjakfldaaGreat
open Go.Bv
def permB (l : List Int) : Bool := (List.range l.length).all fun i => decide (0 ≤ l.getD i 0 ∧ l.getD i 0 < l.length) && (List.range i).all fun k => decide (l.getD k 0 ≠ l.getD i 0)
def permAt (l : List Int) (i : Nat) : Prop := 0 ≤ l.getD i 0 ∧ l.getD i 0 < l.length ∧ ∀ k, k < i → l.getD k 0 ≠ l.getD i 0
theorem permB_iff (l : List Int) : permB l = true ↔ ∀ i, i < l.length → permAt l i := by
  simp only [permB, permAt, List.all_eq_true, List.mem_range, Bool.and_eq_true, decide_eq_true_eq, and_assoc]
theorem permB_nodup {xs : List Int} (h : permB xs = true) : xs.Nodup := by
  rw [List.Nodup, List.pairwise_iff_getElem]
  intro i j hi hj hij he
  have := ((permB_iff xs).1 h j hj)
  simp only [permAt] at this
  have h2 := this.2.2
  refine h2 i hij ?_
  simp only [List.getD, List.getElem?_eq_getElem hi, List.getElem?_eq_getElem hj, Option.getD_some, he]
theorem permB_mem {xs : List Int} (h : permB xs = true) : ∀ a ∈ xs, 0 ≤ a ∧ a < xs.length := by
  intro a ha
  obtain ⟨i, hi, rfl⟩ := List.getElem_of_mem ha
  have := ((permB_iff xs).1 h i hi)
  simp only [permAt, List.getD, List.getElem?_eq_getElem hi, Option.getD_some] at this
  exact ⟨this.1, this.2.1⟩
theorem getD_mem' {ys : List Int} {i : Nat} (h : i < ys.length) : ys.getD i 0 ∈ ys := by
  simp only [List.getD, List.getElem?_eq_getElem h, Option.getD_some]; exact List.getElem_mem _
theorem sorted_range {xs ys : List Int} (hp : ys.Perm xs) (hs : ∀ p q, p < q → q < ys.length → ys.getD p 0 ≤ ys.getD q 0) : permB xs = true ↔ ∀ i, i < ys.length → ys.getD i 0 = i := by
  have hl := hp.length_eq
  constructor
  · intro h
    have hn : ys.Nodup := hp.nodup_iff.2 (permB_nodup h)
    have hm : ∀ i, i < ys.length → 0 ≤ ys.getD i 0 ∧ ys.getD i 0 < ys.length := fun i hi => by
      have := permB_mem h _ (hp.mem_iff.1 (getD_mem' hi)); rwa [← hl] at this
    have hlt : ∀ i, i + 1 < ys.length → ys.getD i 0 < ys.getD (i + 1) 0 := fun i hi => by
      have h1 := hs i (i + 1) (by omega) hi
      have h2 : ys.getD i 0 ≠ ys.getD (i + 1) 0 := by
        rw [List.Nodup, List.pairwise_iff_getElem] at hn
        have := hn i (i + 1) (by omega) hi (by omega)
        simpa only [List.getD, List.getElem?_eq_getElem hi, List.getElem?_eq_getElem (show i < ys.length by omega), Option.getD_some] using this
      omega
    have lo : ∀ i, i < ys.length → (i : Int) ≤ ys.getD i 0 := by
      intro i
      induction i with
      | zero => intro hi; exact (hm 0 hi).1
      | succ i ih => intro hi; have := ih (by omega); have := hlt i hi; omega
    have up : ∀ d i, i < ys.length → ys.length - 1 - i = d → ys.getD i 0 ≤ i := by
      intro d
      induction d with
      | zero => intro i hi hd; have := (hm i hi).2; omega
      | succ d ih => intro i hi hd; have := ih (i + 1) (by omega) (by omega); have := hlt i (by omega); omega
    intro i hi
    have := lo i hi; have := up _ i hi rfl; omega
  · intro h
    have hn : ys.Nodup := by
      rw [List.Nodup, List.pairwise_iff_getElem]
      intro i j hi hj hij he
      have h1 := h i hi; have h2 := h j hj
      simp only [List.getD, List.getElem?_eq_getElem hi, List.getElem?_eq_getElem hj, Option.getD_some] at h1 h2
      omega
    have hn' := hp.nodup_iff.1 hn
    rw [List.Nodup, List.pairwise_iff_getElem] at hn'
    refine (permB_iff xs).2 fun i hi => ?_
    obtain ⟨j, hj, he⟩ := List.getElem_of_mem (hp.mem_iff.2 (getD_mem' hi))
    have h1 := h j hj
    simp only [List.getD, List.getElem?_eq_getElem hj, Option.getD_some] at h1
    simp only [permAt]
    refine ⟨by omega, by omega, fun k hk => ?_⟩
    have := hn' k i (by omega) hi hk
    simpa only [List.getD, List.getElem?_eq_getElem hi, List.getElem?_eq_getElem (show k < xs.length by omega), Option.getD_some] using this
theorem Perm_spec (xs : List Int) (m : Nat) (hm : m ≤ 1000) (hx : xs.length ≤ 12) : Pu C 40 [.sl xs.length (ints xs), .int .i64 (m : Nat)] (.int .i64 (if (permB xs && decide (xs.length = m)) = true then 0 else 11)) := by
  refine Fc.keep (Fc.bodyT mixed Tryz.func40 w40 rfl Tryz.ntmps40 Tryz.results40 (Nat.le_of_ble_eq_true rfl) ?_)
  (refine Go1.out ?_; repeat' ((with_reducible first | refine Go1.mk ?_ | ((first | apply Br.dec | apply Br.beq | apply Br.bne | apply Br.mk) <;> intro h)) <;> try simp -implicitDefEqProofs (maxSteps := 9000000) (disch := first | omega | (simp only [lens]; omega)) only [go_sem]))
  refine Fc.pure (Values_spec xs) (by simp [cloL, clo, cloL_ints]) (fun g => ren_clo g _ (by simp [vals, cloL, clo, cloL_ints])) ?_
  (refine Go1.out ?_; repeat' ((with_reducible first | refine Go1.mk ?_ | ((first | apply Br.dec | apply Br.beq | apply Br.bne | apply Br.mk) <;> intro h)) <;> try simp -implicitDefEqProofs (maxSteps := 9000000) (disch := first | omega | (simp only [lens]; omega)) only [go_sem]))
  refine Fc.mono (Sorted_spec xs hx) ?_
  rintro v H' ⟨ys, hp, hs, hR⟩
  have hr := sorted_range hp hs
  have hl := hp.length_eq
  have hmx : (if (0 : Int) > (m : Int) then 0 else (m : Int)) = (m : Int) := if_neg (by omega)
  rcases hR with ⟨rfl, h, h', rfl⟩ | ⟨rfl, rfl, _⟩
  · obtain rfl : ys = [] := List.eq_nil_of_length_eq_zero h
    have hx : permB xs = true := hr.2 (by simp)
    rw [hx]
    (refine Go1.out ?_; repeat' ((with_reducible first | refine Go1.mk ?_ | ((first | apply Br.dec | apply Br.beq | apply Br.bne | apply Br.mk) <;> intro h)) <;> try simp -implicitDefEqProofs (maxSteps := 9000000) (disch := first | omega | (simp only [lens]; omega)) only [go_sem]))
    refine TT_loop ?_
    refine TT_of mixed ?_
    have hl0 : xs.length = 0 := hl.symm
    (refine Go1.out ?_; repeat' ((with_reducible first | refine Go1.mk ?_ | ((first | apply Br.dec | apply Br.beq | apply Br.bne | apply Br.mk) <;> intro h)) <;> try simp -implicitDefEqProofs (maxSteps := 9000000) (disch := first | omega | (simp only [lens]; omega)) only [go_sem, hmx]))
    all_goals (refine keepP (by intro g; simp only [go_sem, ren, renL]) ?_)
    · simp; omega
    · simp; omega
  · skip
    (refine Go1.out ?_; repeat' ((with_reducible first | refine Go1.mk ?_ | ((first | apply Br.dec | apply Br.beq | apply Br.bne | apply Br.mk) <;> intro h)) <;> try simp -implicitDefEqProofs (maxSteps := 9000000) (disch := first | omega | (simp only [lens]; omega)) only [go_sem]))
    refine TT_loop_inv (fun n ts H => ∃ (i : Nat), (i ≤ ys.length) ∧ (H = [some ⟨3, 1, ints ys⟩]) ∧ (n = ys.length - i) ∧ (∀ k, k < i → ys.getD k 0 = k) ∧ ts.length = 27 ∧ nth ts 1 = .int .i64 (m : Nat) ∧ nth ts 4 = .int .i64 0 ∧ nth ts 5 = .ref 0 0 ys.length ∧ nth ts 11 = .ref 0 0 ys.length ∧ nth ts 12 = .int .i64 ys.length ∧ nth ts 13 = .int .i64 i) ?_ (n := ys.length) ?_
    · skip
      rintro n ts H ⟨i, hi, hH, hn, hall, hL, hs1, hs4, hs5, hs11, hs12, hs13⟩
      refine TT_env [(1, .int .i64 (m : Nat)), (4, .int .i64 0), (5, .ref 0 0 ys.length), (11, .ref 0 0 ys.length), (12, .int .i64 ys.length), (13, .int .i64 i)] hL (by simp only [List.forall_mem_cons, hs1, hs4, hs5, hs11, hs12, hs13, true_and]; exact fun _ h => nomatch h) ?_
      clear hL hs1 hs4 hs5 hs11 hs12 hs13 ts
      refine TT_of mixed ?_
      subst hH
      (refine Go1.out ?_; repeat' ((with_reducible first | refine Go1.mk ?_ | ((first | apply Br.dec | apply Br.beq | apply Br.bne | apply Br.mk) <;> intro h)) <;> try simp -implicitDefEqProofs (maxSteps := 9000000) (disch := first | omega | (simp only [lens]; omega)) only [go_sem, hmx]))
      · skip
        (refine keepP (by intro g; simp only [go_sem, ren, renL]) ?_)
        have : permB xs = false := by
          cases hb : permB xs with
          | false => rfl
          | true => exact absurd (hr.1 hb i (by omega)) (by assumption)
        simp [this]
      · refine ⟨ys.length - (i + 1), by omega, i + 1, by omega, rfl, fun k hk => ?_, rfl⟩
        rcases Nat.lt_or_ge k i with h1 | h1
        · exact hall k h1
        · obtain rfl : k = i := by omega
          assumption
      · have : permB xs = true := hr.2 fun k hk => hall k (by omega)
        (refine keepP (by intro g; simp only [go_sem, ren, renL]) ?_)
        simp [this]; omega
      · have : permB xs = true := hr.2 fun k hk => hall k (by omega)
        (refine keepP (by intro g; simp only [go_sem, ren, renL]) ?_)
        simp [this]; omega
    · exact ⟨0, by omega, rfl, rfl, fun k hk => by omega, rfl, rfl, rfl, rfl, rfl, rfl, rfl⟩
end Go.Proofs.YtjdbdmhjakfldaaGreat
end
section
set_option linter.unusedSimpArgs false
set_option linter.unusedVariables false
set_option maxRecDepth 100000
set_option pp.maxSteps 1500
set_option maxHeartbeats 4000000
namespace Go.Proofs.YtjdbdmhjakfldaaGreat
open Go.Bv
def putP (p x : List Int) : Nat → List Int
  | 0 => List.replicate p.length 0
  | k + 1 => (putP p x k).set (p.getD k 0).toNat (x.getD k 0)
theorem putP_len (p x : List Int) (k : Nat) : (putP p x k).length = p.length := by
  induction k with
  | zero => simp [putP]
  | succ k ih => simp [putP, ih]
theorem trFrom_val (p x : List Int) (hp : p.length ≤ 1000) (hx : x.length = p.length) (hb : ∀ j, j < p.length → 0 ≤ p.getD j 0 ∧ p.getD j 0 < p.length) : Val C 42 [.sl x.length (ints x), .rp [.sl p.length (ints p)] 0] (.sl (putP p x p.length).length (ints (putP p x p.length))) := by
  refine Val.ofRet (e := 3) (s := 1) ?_ (cloL_ints _) (plainL_ints _)
  refine Fc.keep (Fc.bodyT mixed Tryz.func42 w42 rfl Tryz.ntmps42 Tryz.results42 (Nat.le_of_ble_eq_true rfl) ?_)
  (refine Go1.out ?_; repeat' ((with_reducible first | refine Go1.mk ?_ | ((first | apply Br.dec | apply Br.beq | apply Br.bne | apply Br.mk) <;> intro h)) <;> try simp -implicitDefEqProofs (maxSteps := 9000000) (disch := first | omega | (simp only [lens]; omega)) only [go_sem]))
  refine makew_k rfl rfl rfl rfl (by simp [t3bytes]) (by omega) ?_
  (refine Go1.out ?_; repeat' ((with_reducible first | refine Go1.mk ?_ | ((first | apply Br.dec | apply Br.beq | apply Br.bne | apply Br.mk) <;> intro h)) <;> try simp -implicitDefEqProofs (maxSteps := 9000000) (disch := first | omega | (simp only [lens]; omega)) only [go_sem]))
  refine TT_loop_inv (fun n ts H => ∃ (k : Nat), (k ≤ p.length) ∧ (n = p.length - k) ∧ (rowOf H 0 = some ⟨3, 1, ints (putP p x k)⟩) ∧ ts.length = 26 ∧ nth ts 0 = .sl x.length (ints x) ∧ nth ts 1 = .rp [.sl p.length (ints p)] 0 ∧ nth ts 4 = .ref 0 0 p.length ∧ nth ts 10 = .sl p.length (ints p) ∧ nth ts 11 = .int .i64 p.length ∧ nth ts 12 = .int .i64 (k : Nat)) ?_ (n := p.length) ?_
  · skip
    rintro n ts H ⟨k, hk, hn, h0, hL, hs0, hs1, hs4, hs10, hs11, hs12⟩
    refine TT_env [(0, .sl x.length (ints x)), (1, .rp [.sl p.length (ints p)] 0), (4, .ref 0 0 p.length), (10, .sl p.length (ints p)), (11, .int .i64 p.length), (12, .int .i64 (k : Nat))] hL (by simp only [List.forall_mem_cons, hs0, hs1, hs4, hs10, hs11, hs12, true_and]; exact fun _ h => nomatch h) ?_
    clear hL hs0 hs1 hs4 hs10 hs11 hs12 ts
    refine TT_of mixed ?_
    by_cases hc : k < p.length
    · obtain ⟨b1, b2⟩ := hb k hc
      obtain ⟨d, hd⟩ : ∃ d : Nat, p.getD k 0 = d := ⟨(p.getD k 0).toNat, by omega⟩
      have hl := putP_len p x k
      have hst : (putP p x k).set d (x.getD k 0) = putP p x (k + 1) := by rw [putP, hd]; rfl
      (refine Go1.out ?_; repeat' ((with_reducible first | refine Go1.mk ?_ | ((first | apply Br.dec | apply Br.beq | apply Br.bne | apply Br.mk) <;> intro h)) <;> try simp -implicitDefEqProofs (maxSteps := 9000000) (disch := first | omega | (simp only [lens]; omega)) only [go_sem, hd, h0, upd_ints, hst]))
      exact ⟨p.length - (k + 1), by omega, k + 1, by omega, rfl, rowOf_set_eq h0, (by (repeat' apply And.intro) <;> (first | rfl | omega | (congr 1; omega) | assumption | (congr 1; assumption)))⟩
    · have hks : k = p.length := by omega
      subst hks
      (refine Go1.out ?_; repeat' ((with_reducible first | refine Go1.mk ?_ | ((first | apply Br.dec | apply Br.beq | apply Br.bne | apply Br.mk) <;> intro h)) <;> try simp -implicitDefEqProofs (maxSteps := 9000000) (disch := first | omega | (simp only [lens]; omega)) only [go_sem]))
      rw [putP_len]
      exact Own.ret (.inr ⟨0, rfl, h0, by simp [ints_length, putP_len]⟩) (fun g => renL_ints g _) fun v H h => h
  · refine ⟨0, by omega, rfl, ?_, rfl, rfl, rfl, rfl, rfl, rfl, rfl⟩
    rw [putP, ← ints_zero]; rfl
def transS (p s : List Int) : List Int := tabI (fun i => s.getD (p.getD i 0).toNat 0) p.length
def transE (t : Tn) (p : List Int) : Int := if mayT t ≠ 0 then mayT t else if (permB p && decide (p.length = t.shape.length)) = false then 11 else 0
def transT (t : Tn) (p : List Int) : Tn := errT (mvT t (transS p t.shape) fun x => putP p x p.length) (transE t p)
theorem trans_val (hpm : ∀ s : List Int, mayP s = 0 → ∀ p : List Int, permB p = true → p.length = s.length → mayP (transS p s) = 0) (t : Tn) (ht : TnOK t) (p : List Int) (hp : p.length ≤ 12) : Val C 13 [tnV t, .sl p.length (ints p)] (.tup [tnV (transT t p), .int .i64 (transE t p)]) := by
  have hs := ht.s
  unfold transT
  refine Fc.keep (Fc.bodyT mixed Tryz.func13 w13 rfl Tryz.ntmps13 Tryz.results13 (Nat.le_of_ble_eq_true rfl) ?_)
  (refine Go1.out ?_; repeat' ((with_reducible first | refine Go1.mk ?_ | ((first | apply Br.dec | apply Br.beq | apply Br.bne | apply Br.mk) <;> intro h)) <;> try simp -implicitDefEqProofs (maxSteps := 9000000) (disch := first | omega | (simp only [lens]; omega)) only [go_sem]))
  refine Fc.pure (tmay_spec t ht) (by simp [cloL, clo, cloL_ints, cloL_raws]) (fun g => rfl) ?_
  by_cases hm : mayT t = 0
  case neg =>
    (refine Go1.out ?_; repeat' ((with_reducible first | refine Go1.mk ?_ | ((first | apply Br.dec | apply Br.beq | apply Br.bne | apply Br.mk) <;> intro h)) <;> try simp -implicitDefEqProofs (maxSteps := 9000000) (disch := first | omega | (simp only [lens]; omega)) only [go_sem]))
    exact Gd.ret (gd_no (by rw [transE, if_pos hm]) hm)
  obtain ⟨hf, hmp, hel⟩ := mayT_zero hm
  obtain ⟨m1, m2, m3⟩ := mayP_zero hmp
  rw [hm]
  (refine Go1.out ?_; repeat' ((with_reducible first | refine Go1.mk ?_ | ((first | apply Br.dec | apply Br.beq | apply Br.bne | apply Br.mk) <;> intro h)) <;> try simp -implicitDefEqProofs (maxSteps := 9000000) (disch := first | omega | (simp only [lens]; omega)) only [go_sem]))
  refine Fc.pure (Perm_spec p t.shape.length (by omega) hp) (by simp [cloL, clo, cloL_ints]) (fun g => rfl) ?_
  cases hb : (permB p && decide (p.length = t.shape.length)) with
  | false =>
    rw [if_neg (by decide)]
    (refine Go1.out ?_; repeat' ((with_reducible first | refine Go1.mk ?_ | ((first | apply Br.dec | apply Br.beq | apply Br.bne | apply Br.mk) <;> intro h)) <;> try simp -implicitDefEqProofs (maxSteps := 9000000) (disch := first | omega | (simp only [lens]; omega)) only [go_sem]))
    exact Gd.ret (gd_no (by rw [transE, if_neg (by omega), if_pos hb]) (by decide))
  | true =>
    rw [if_pos rfl]
    rw [Bool.and_eq_true, decide_eq_true_eq] at hb
    obtain ⟨hb, hpl⟩ := hb
    have hin : ∀ j, j < p.length → 0 ≤ p.getD j 0 ∧ p.getD j 0 < p.length := fun j hj => by
      have := (permB_iff p).1 hb j hj
      exact ⟨this.1, this.2.1⟩
    have hE : transE t p = 0 := by rw [transE, if_neg (by omega), if_neg (by simp [hb, hpl])]
    rw [errT_ok hE, hE]
    (refine Go1.out ?_; repeat' ((with_reducible first | refine Go1.mk ?_ | ((first | apply Br.dec | apply Br.beq | apply Br.bne | apply Br.mk) <;> intro h)) <;> try simp -implicitDefEqProofs (maxSteps := 9000000) (disch := first | omega | (simp only [lens]; omega)) only [go_sem]))
    refine makew_k rfl rfl rfl rfl (by simp [t3bytes]) (by omega) ?_
    (refine Go1.out ?_; repeat' ((with_reducible first | refine Go1.mk ?_ | ((first | apply Br.dec | apply Br.beq | apply Br.bne | apply Br.mk) <;> intro h)) <;> try simp -implicitDefEqProofs (maxSteps := 9000000) (disch := first | omega | (simp only [lens]; omega)) only [go_sem]))
    refine TT_loop_inv (fun n ts H => ∃ (k : Nat) (z : List Int), (k ≤ p.length) ∧ (n = p.length - k) ∧ (z.length = p.length) ∧ (z.take k = tabI (fun i => t.shape.getD (p.getD i 0).toNat 0) k) ∧ (rowOf H 0 = some ⟨26, 2, [.sl t.shape.length (ints t.shape), .sl t.el.length (rawsC t.el)]⟩) ∧ (rowOf H 1 = some ⟨22, 1, [.sl p.length (ints p)]⟩) ∧ (rowOf H 2 = some ⟨26, 2, [.nil, .nil]⟩) ∧ (rowOf H 3 = some ⟨3, 1, ints z⟩) ∧ ts.length = 51 ∧ nth ts 2 = .ptr 0 0 ∧ nth ts 3 = .ptr 1 0 ∧ nth ts 4 = .ptr 2 0 ∧ nth ts 8 = .ref 3 0 p.length ∧ nth ts 29 = .sl p.length (ints p) ∧ nth ts 30 = .int .i64 p.length ∧ nth ts 31 = .int .i64 (k : Nat)) ?_ (n := p.length) ?_
    · skip
      rintro n ts H ⟨k, z, hk, hn, hz, hzt, h0, h1, h2, h3, hL, hs2, hs3, hs4, hs8, hs29, hs30, hs31⟩
      refine TT_env [(2, .ptr 0 0), (3, .ptr 1 0), (4, .ptr 2 0), (8, .ref 3 0 p.length), (29, .sl p.length (ints p)), (30, .int .i64 p.length), (31, .int .i64 (k : Nat))] hL (by simp only [List.forall_mem_cons, hs2, hs3, hs4, hs8, hs29, hs30, hs31, true_and]; exact fun _ h => nomatch h) ?_
      clear hL hs2 hs3 hs4 hs8 hs29 hs30 hs31 ts
      refine TT_of mixed ?_
      by_cases hc : k < p.length
      · obtain ⟨b1, b2⟩ := hin k hc
        obtain ⟨d, hd⟩ : ∃ d : Nat, p.getD k 0 = d := ⟨(p.getD k 0).toNat, by omega⟩
        have e0 : ∀ q, rowOf (H.set 3 q) 0 = some ⟨26, 2, [.sl t.shape.length (ints t.shape), .sl t.el.length (rawsC t.el)]⟩ := fun q => by rw [rowOf_set_ne _ (by decide)]; exact h0
        have e1 : ∀ q, rowOf (H.set 3 q) 1 = some ⟨22, 1, [.sl p.length (ints p)]⟩ := fun q => by rw [rowOf_set_ne _ (by decide)]; exact h1
        have e2 : ∀ q, rowOf (H.set 3 q) 2 = some ⟨26, 2, [.nil, .nil]⟩ := fun q => by rw [rowOf_set_ne _ (by decide)]; exact h2
        (refine Go1.out ?_; repeat' ((with_reducible first | refine Go1.mk ?_ | ((first | apply Br.dec | apply Br.beq | apply Br.bne | apply Br.mk) <;> intro h)) <;> try simp -implicitDefEqProofs (maxSteps := 9000000) (disch := first | omega | (simp only [lens]; omega)) only [go_sem, hd, h0, h3, upd_ints]))
        refine ⟨p.length - (k + 1), by omega, k + 1, z.set k (t.shape.getD d 0), by omega, rfl, by simp [hz], ?_, e0 _, e1 _, e2 _, rowOf_set_eq h3, (by (repeat' apply And.intro) <;> (first | rfl | omega | (congr 1; omega) | assumption | (congr 1; assumption)))⟩
        rw [tabI_succ, ← hzt, hd]
        refine List.ext_getElem (by simp; omega) fun j h1 h2 => ?_
        simp only [List.length_take, List.length_set] at h1
        rw [List.getElem_take, List.getElem_set, List.getElem_append]
        simp only [List.length_take, List.getElem_take]
        split
        · rename_i hj; subst hj; rw [dif_neg (by omega)]; simp
        · rename_i hj; rw [dif_pos (by omega)]
      · have hks : k = p.length := by omega
        subst hks
        have hze : z = transS p t.shape := by rw [transS, ← hzt, ← hz, List.take_length]
        subst hze
        have hTm := hpm t.shape hmp p hb hpl
        have hmv := moved_val t ht hf (transS p t.shape) (by rw [hz]; omega) hTm 42 [.rp [.sl p.length (ints p)] 0] (by simp [cloL, clo, cloL_ints]) (fun x => putP p x p.length) (fun x hx hxb => ⟨by rw [putP_len]; omega, trFrom_val p x (by omega) (by omega) hin⟩)
        (refine Go1.out ?_; repeat' ((with_reducible first | refine Go1.mk ?_ | ((first | apply Br.dec | apply Br.beq | apply Br.bne | apply Br.mk) <;> intro h)) <;> try simp -implicitDefEqProofs (maxSteps := 9000000) (disch := first | omega | (simp only [lens]; omega)) only [go_sem, h0, h1]))
        refine Fc.sealed (r := 1) h1 (by simp [cloL, clo, cloL_ints]) ?_
        have he : szL 1 [.sl p.length (ints p)] [.agg [.sl t.shape.length (ints t.shape), .sl t.el.length (rawsC t.el)], .ref 3 0 p.length, .fn (.func 42) [] [.ptr 1 0]] = [tnV t, .ref 3 0 p.length, .fn (.func 42) [] [.rp [.sl p.length (ints p)] 0]] := by
          simp only [szL, sz, szL_clo _ _ _ (cloL_ints _), szL_clo _ _ _ (cloL_raws _), if_true]
          rfl
        rw [he]
        have hu : Bv.Own 3 1 (H.set 1 none) (.ref 3 0 p.length) (transS p t.shape).length (ints (transS p t.shape)) := by
          rw [hz]; exact .inr ⟨3, rfl, by rw [rowOf_set_ne _ (by decide)]; exact h3, by rw [ints_length, hz]; omega⟩
        have hlt := rowOf_lt h3
        refine hmv.keptF ⟨.self (clo_tnV t), hu.bor' (cloL_ints _), .self (by simp [cloL, clo, cloL_ints]), trivial⟩ fun v X hv => ?_
        have f2 : rowOf (H.set 1 none ++ X) 2 = some ⟨26, 2, [.nil, .nil]⟩ := rowOf_keep (by rw [rowOf_set_ne _ (by decide)]; exact h2) X
        have f22 : ∀ row, rowOf ((H.set 1 none ++ X).set 2 (some row)) 2 = some row := fun row => rowOf_set_eq f2
        obtain ⟨w, e, rfl, hw, he⟩ := hv.tup2
        obtain ⟨a, b, rfl, ha, hb⟩ := hw.agg2
        obtain ⟨ka, ca, sa⟩ := gd_sl ha.gd
        obtain ⟨kb, cb, sb⟩ := gd_sl hb.gd
        rw [he.gd.int_inv]
        (refine Go1.out ?_; repeat' ((with_reducible first | refine Go1.mk ?_ | ((first | apply Br.dec | apply Br.beq | apply Br.bne | apply Br.mk) <;> intro h)) <;> try simp -implicitDefEqProofs (maxSteps := 9000000) (disch := first | omega | (simp only [lens]; omega)) only [go_sem, f2, f22, ka, ca, sa, kb, cb, sb]))
        exact Gd.ret (Gd.tupL ⟨Gd.aggL ⟨(ha.set (q := 2) (by simp; omega) _).gd, (hb.set (q := 2) (by simp; omega) _).gd, trivial⟩, gd_i _ _, trivial⟩)
    · exact ⟨0, List.replicate p.length 0, by omega, rfl, by simp, by simp [tabI], rfl, rfl, rfl, by rw [← ints_zero]; rfl, rfl, rfl, rfl, rfl, rfl, rfl, rfl, rfl⟩
end Go.Proofs.YtjdbdmhjakfldaaGreat
end
section
set_option linter.unusedSimpArgs false
set_option linter.unusedVariables false
set_option maxRecDepth 100000
set_option pp.maxSteps 1500
set_option maxHeartbeats 4000000
namespace Go.Proofs.YtjdbdmhjakfldaaGreat
open Go.Bv
theorem prodL_perm {l m : List Int} (h : l.Perm m) : prodL l = prodL m := by
  induction h with
  | nil => rfl
  | cons a _ ih => simp only [prodL, ih]
  | swap a b l => simp only [prodL]; rw [← Int.mul_assoc, ← Int.mul_assoc, Int.mul_comm a b]
  | trans _ _ h1 h2 => exact h1.trans h2
theorem turn_perm {x a : List Int} (hl : a.length = x.length) (hp : permB a = true) : (tabI (fun i => x.getD (a.getD i 0).toNat 0) a.length).Perm x := by
  have h1 := List.mergeSort_perm a (fun p q => decide (p ≤ q))
  have h2 := List.pairwise_mergeSort (le := fun p q : Int => decide (p ≤ q)) (by intro p q r; simp; omega) (by intro p q; simp; omega) a
  generalize a.mergeSort (fun p q => decide (p ≤ q)) = ys at h1 h2
  have hy := (sorted_range h1 (fun p q hpq hq => by
    rw [List.pairwise_iff_getElem] at h2
    have := h2 p q (by omega) hq hpq
    simpa [List.getD, hq, show p < ys.length by omega] using this)).1 hp
  have hyl := h1.length_eq
  have e1 : tabI (fun i => x.getD (a.getD i 0).toNat 0) a.length = a.map fun d => x.getD d.toNat 0 := by
    refine ext_getD (by simp [tabI_len]) fun j hj => ?_
    rw [tabI_len] at hj
    rw [tabI_get hj]
    simp [List.getD, hj]
  have e2 : (ys.map fun d => x.getD d.toNat 0) = x := by
    refine ext_getD (by simp; omega) fun j hj => ?_
    have hj' : j < ys.length := by simpa using hj
    have := hy j hj'
    simp only [List.getD, List.getElem?_eq_getElem hj', Option.getD_some] at this
    simp [List.getD, hj', this]
  rw [e1]
  exact ((h1.map _).symm).trans (by rw [e2])
theorem transS_may (s : List Int) (h0 : mayP s = 0) (p : List Int) (hp : permB p = true) (hl : p.length = s.length) : mayP (transS p s) = 0 := by
  obtain ⟨h1, h2, h3⟩ := mayP_zero h0
  have hpm : (transS p s).Perm s := turn_perm hl hp
  have hm : ∀ d ∈ transS p s, 1 ≤ d := fun d hd => h2 d (hpm.mem_iff.1 hd)
  have hln := hpm.length_eq
  unfold mayP
  rw [if_neg (by omega), if_pos (by simpa using hm), if_neg (by rw [prodL_perm hpm]; omega)]
theorem transpose_val (t : Tn) (ht : TnOK t) (p : List Int) (hp : p.length ≤ 12) : Val C 13 [tnV t, .sl p.length (ints p)] (.tup [tnV (transT t p), .int .i64 (transE t p)]) := trans_val transS_may t ht p hp
def reshE (t : Tn) (s : List Int) : Int := if mayT t ≠ 0 then mayT t else if mayP s ≠ 0 then mayP s else if (t.el.length : Int) ≠ prodL s then 13 else 0
def reshT (t : Tn) (s : List Int) : Tn := errT (normT ⟨s, t.el⟩) (reshE t s)
def fits2 (t : Tn) (s : List Int) : Int := if mayT t ≠ 0 then mayT t else mayP s
theorem fits2_spec (t : Tn) (ht : TnOK t) (s : List Int) (hs : s.length ≤ 1000000000) : Pu C 58 [tnV t, .sl s.length (ints s)] (.int .i64 (fits2 t s)) := by
  refine Fc.keep (Fc.bodyT mixed Tryz.func58 w58 rfl Tryz.ntmps58 Tryz.results58 (Nat.le_of_ble_eq_true rfl) ?_)
  (refine Go1.out ?_; repeat' ((with_reducible first | refine Go1.mk ?_ | ((first | apply Br.dec | apply Br.beq | apply Br.bne | apply Br.mk) <;> intro h)) <;> try simp -implicitDefEqProofs (maxSteps := 9000000) (disch := first | omega | (simp only [lens]; omega)) only [go_sem]))
  refine Fc.pure (tmay_spec t ht) (by simp [cloL, clo, cloL_ints, cloL_raws]) (fun g => rfl) ?_
  (refine Go1.out ?_; repeat' ((with_reducible first | refine Go1.mk ?_ | ((first | apply Br.dec | apply Br.beq | apply Br.bne | apply Br.mk) <;> intro h)) <;> try simp -implicitDefEqProofs (maxSteps := 9000000) (disch := first | omega | (simp only [lens]; omega)) only [go_sem]))
  · skip
    (refine keepP (by intro g; simp only [go_sem, ren, renL]) ?_)
    rw [fits2, if_pos (by assumption)]
  · skip
    refine Fc.pure (May_spec s (by omega)) (by simp [go_sem, cloL, clo, cloL_ints, cloL_intss]) (by intro g; simp only [go_sem, ren, renL]) ?_
    (refine Go1.out ?_; repeat' ((with_reducible first | refine Go1.mk ?_ | ((first | apply Br.dec | apply Br.beq | apply Br.bne | apply Br.mk) <;> intro h)) <;> try simp -implicitDefEqProofs (maxSteps := 9000000) (disch := first | omega | (simp only [lens]; omega)) only [go_sem]))
    (refine keepP (by intro g; simp only [go_sem, ren, renL]) ?_)
    rw [fits2, if_neg (by omega)]
theorem reshape_val (t : Tn) (ht : TnOK t) (s : List Int) (hs : s.length ≤ 1000000000) : Val C 24 [tnV t, .sl s.length (ints s)] (.tup [tnV (reshT t s), .int .i64 (reshE t s)]) := by
  have hmk := tmake_val ⟨s, t.el⟩ ⟨hs, ht.e, ht.r⟩
  unfold reshT
  refine Fc.keep (Fc.bodyT mixed Tryz.func24 w24 rfl Tryz.ntmps24 Tryz.results24 (Nat.le_of_ble_eq_true rfl) ?_)
  (refine Go1.out ?_; repeat' ((with_reducible first | refine Go1.mk ?_ | ((first | apply Br.dec | apply Br.beq | apply Br.bne | apply Br.mk) <;> intro h)) <;> try simp -implicitDefEqProofs (maxSteps := 9000000) (disch := first | omega | (simp only [lens]; omega)) only [go_sem]))
  refine Fc.pure (fits2_spec t ht s hs) (by simp [cloL, clo, cloL_ints, cloL_raws]) (fun g => by simp [tnV, ren, renL, renL_ints, renL_clo _ _ (cloL_raws t.el)]) ?_
  by_cases h : fits2 t s = 0
  · have hm : mayT t = 0 := Classical.byContradiction fun hn => by rw [fits2, if_pos hn] at h; exact hn h
    have hs0 : mayP s = 0 := by rw [fits2, if_neg (by omega)] at h; exact h
    have hE : fitsT ⟨s, t.el⟩ = reshE t s := by
      show (if mayP s ≠ 0 then mayP s else if (t.el.length : Int) ≠ countP s then 13 else 0) = _
      have hc : countP s = prodL s := by rw [countP, if_pos hs0]
      simp only [reshE, hm, hs0, hc, ne_eq, not_true_eq_false, if_false]
    have hT : mkT ⟨s, t.el⟩ = (errT (normT ⟨s, t.el⟩) (reshE t s), reshE t s) := by
      rw [mkT, hE, errT]
      by_cases hz : reshE t s = 0
      · rw [if_neg (by omega), if_neg (by omega), hz]
      · rw [if_pos hz, if_pos hz]
    rw [hT] at hmk
    rw [h]
    (refine Go1.out ?_; repeat' ((with_reducible first | refine Go1.mk ?_ | ((first | apply Br.dec | apply Br.beq | apply Br.bne | apply Br.mk) <;> intro h)) <;> try simp -implicitDefEqProofs (maxSteps := 9000000) (disch := first | omega | (simp only [lens]; omega)) only [go_sem]))
    refine hmk.keptF ⟨.self (by simp [clo, cloL_ints]), .self (by simp [clo, cloL_raws]), trivial⟩ fun v X hv => ?_
    obtain ⟨w, e, rfl, hw, he⟩ := hv.tup2
    obtain ⟨a, b, rfl, ha, hb⟩ := hw.agg2
    obtain ⟨ka, ca, sa⟩ := gd_sl ha.gd
    obtain ⟨kb, cb, sb⟩ := gd_sl hb.gd
    rw [he.gd.int_inv]
    (refine Go1.out ?_; repeat' ((with_reducible first | refine Go1.mk ?_ | ((first | apply Br.dec | apply Br.beq | apply Br.bne | apply Br.mk) <;> intro h)) <;> try simp -implicitDefEqProofs (maxSteps := 9000000) (disch := first | omega | (simp only [lens]; omega)) only [go_sem, ka, ca, sa, kb, cb, sb]))
    exact Gd.ret (Gd.tupL ⟨Gd.aggL ⟨(ha.set (q := 1) (by simp) _).gd, (hb.set (q := 1) (by simp) _).gd, trivial⟩, gd_i _ _, trivial⟩)
  · have hE : reshE t s = fits2 t s := by
      unfold reshE fits2 at *
      by_cases hm : mayT t ≠ 0
      · rw [if_pos hm, if_pos hm]
      · rw [if_neg hm] at h
        rw [if_neg hm, if_neg hm, if_pos h]
    (refine Go1.out ?_; repeat' ((with_reducible first | refine Go1.mk ?_ | ((first | apply Br.dec | apply Br.beq | apply Br.bne | apply Br.mk) <;> intro h)) <;> try simp -implicitDefEqProofs (maxSteps := 9000000) (disch := first | omega | (simp only [lens]; omega)) only [go_sem]))
    exact Gd.ret (gd_no hE h)
end Go.Proofs.YtjdbdmhjakfldaaGreat
end
section
set_option linter.unusedSimpArgs false
set_option linter.unusedVariables false
set_option maxRecDepth 100000
set_option pp.maxSteps 1500
set_option maxHeartbeats 4000000
namespace Go.Proofs.YtjdbdmhjakfldaaGreat
open Go.Bv
theorem own09_spec (xs : List Int) (hx : xs.length ≤ 1000000000) : Fc C 15 [.sl xs.length (ints xs)] [] fun v H => Ret 3 1 H v xs.length (ints xs) := by
  refine Fc.keep (Fc.bodyT mixed Tryz.func15 w15 rfl Tryz.ntmps15 Tryz.results15 (Nat.le_of_ble_eq_true rfl) ?_)
  (refine Go1.out ?_; repeat' ((with_reducible first | refine Go1.mk ?_ | ((first | apply Br.dec | apply Br.beq | apply Br.bne | apply Br.mk) <;> intro h)) <;> try simp -implicitDefEqProofs (maxSteps := 9000000) (disch := first | omega | (simp only [lens]; omega)) only [go_sem]))
  all_goals exact Own.ret (.inr ⟨0, rfl, rfl, by simp [ints_length]⟩) (fun g => renL_ints g _) fun v H h => h
def wholeQ (s l : List Int) : Tq := ⟨s, l.map intQ⟩
def wholeT (s l : List Int) : Tn := tnBack (wholeQ s l)
theorem ints_snoc {xs : List Int} {i : Nat} (h : i < xs.length) : refsC ((xs.map intQ).take (i + 1)) = refsC ((xs.map intQ).take i) ++ [.bool (intQ (xs.getD i 0)).neg, DV (intQ (xs.getD i 0)).num, DV (intQ (xs.getD i 0)).den] := by
  have : (xs.map intQ).getD i q0 = intQ (xs.getD i 0) := by simp [List.getD, h]
  have hh := refs_snoc (xs := xs.map intQ) (i := i) (by simpa using h)
  rw [this] at hh
  exact hh
theorem whole_ok {s l : List Int} (hs : s.length ≤ 1000000000) (hl : l.length ≤ 1000000000) (hb : ∀ x ∈ l, -9223372036854775808 ≤ x ∧ x < 9223372036854775808) : TqOK (wholeQ s l) := ⟨hs, by simpa [wholeQ] using hl, fun x hx => by
  simp only [wholeQ, List.mem_map] at hx
  obtain ⟨a, ha, rfl⟩ := hx
  have := hb a ha
  refine ⟨?_, ?_⟩
  · have : dlen a.natAbs ≤ 16 := dlen_le (Nat.lt_of_lt_of_le (show a.natAbs < 9223372036854775809 by omega) (by decide))
    show dlen a.natAbs ≤ _
    omega
  · show dlen 1 ≤ _
    rw [dlen_one]; decide⟩
theorem whole_val (s l : List Int) (hs : s.length ≤ 1000000) (hl : l.length ≤ 1000000) (hb : ∀ x ∈ l, -9223372036854775808 ≤ x ∧ x < 9223372036854775808) : Val C 49 [.sl s.length (ints s), .sl l.length (ints l)] (tnV (wholeT s l)) := by
  refine Fc.keep (Fc.bodyT mixed Tryz.func49 w49 rfl Tryz.ntmps49 Tryz.results49 (Nat.le_of_ble_eq_true rfl) ?_)
  (refine Go1.out ?_; repeat' ((with_reducible first | refine Go1.mk ?_ | ((first | apply Br.dec | apply Br.beq | apply Br.bne | apply Br.mk) <;> intro h)) <;> try simp -implicitDefEqProofs (maxSteps := 9000000) (disch := first | omega | (simp only [lens]; omega)) only [go_sem]))
  refine TT_loop_inv (fun n ts H => ∃ (i : Nat) (u : V), (i ≤ l.length) ∧ (rowOf H 0 = some ⟨26, 2, [.nil, .nil]⟩) ∧ (rowOf H 1 = some ⟨34, 2, [.sl s.length (ints s), u]⟩) ∧ (Cel 2 72 3 H u i (refsC ((l.map intQ).take i))) ∧ (n = l.length - i) ∧ ts.length = 27 ∧ nth ts 1 = .sl l.length (ints l) ∧ nth ts 4 = .ptr 0 0 ∧ nth ts 5 = .ptr 1 0 ∧ nth ts 6 = .int .i64 (i : Nat)) ?_ (n := l.length) ?_
  · skip
    rintro n ts H ⟨i, u, hi, h0, h3, hu, hn, hL, hs1, hs4, hs5, hs6⟩
    refine TT_env [(1, .sl l.length (ints l)), (4, .ptr 0 0), (5, .ptr 1 0), (6, .int .i64 (i : Nat))] hL (by simp only [List.forall_mem_cons, hs1, hs4, hs5, hs6, true_and]; exact fun _ h => nomatch h) ?_
    clear hL hs1 hs4 hs5 hs6 ts
    refine TT_of mixed ?_
    have hlen := rowOf_lt h3
    by_cases hcase : i < l.length
    · have hx := all_getD.1 hb i hcase
      (refine Go1.out ?_; repeat' ((with_reducible first | refine Go1.mk ?_ | ((first | apply Br.dec | apply Br.beq | apply Br.bne | apply Br.mk) <;> intro h)) <;> try simp -implicitDefEqProofs (maxSteps := 9000000) (disch := first | omega | (simp only [lens]; omega)) only [go_sem, h3]))
      refine Pc.keptF (int03_spec (l.getD i 0) hx.1 hx.2) (refV_some _) ⟨.self rfl, trivial⟩ fun v X hv => ?_
      obtain ⟨v1, v2, v3, rfl, hv1, hv2, hv3⟩ := hv.agg3
      obtain ⟨k2, c2, s2⟩ := gd_sl hv2.gd
      obtain ⟨k3, c3, s3⟩ := gd_sl hv3.gd
      have e1 := hv1.gd.bool_inv
      subst e1
      (refine Go1.out ?_; repeat' ((with_reducible first | refine Go1.mk ?_ | ((first | apply Br.dec | apply Br.beq | apply Br.bne | apply Br.mk) <;> intro h)) <;> try simp -implicitDefEqProofs (maxSteps := 9000000) (disch := first | omega | (simp only [lens]; omega)) only [go_sem, h3, k2, c2, s2, k3, c3, s3]))
      refine Cel.push3 hu rfl rfl (by omega) (by omega) hv2 hv3 s2 s3 fun v' H' hu' hk' k4 c4 s4 => ?_
      have g0 := hk' 0 _ (by decide) h0
      have g3 := hk' 1 _ (by decide) h3
      (refine Go1.out ?_; repeat' ((with_reducible first | refine Go1.mk ?_ | ((first | apply Br.dec | apply Br.beq | apply Br.bne | apply Br.mk) <;> intro h)) <;> try simp -implicitDefEqProofs (maxSteps := 9000000) (disch := first | omega | (simp only [lens]; omega)) only [go_sem, g3, k4, c4, s4]))
      have f0 : ∀ (q : Nat) (row : Row) (z : Option Row), q ≠ 1 → rowOf H' q = some row → rowOf (H'.set 1 z) q = some row := fun q row z hq hr => by rw [rowOf_set_ne _ (Ne.symm hq)]; exact hr
      refine ⟨l.length - (i + 1), by omega, i + 1, v', by omega, f0 0 _ _ (by decide) g0, rowOf_set_eq g3, ?_, rfl, by congr 1⟩
      rw [ints_snoc hcase]
      exact Cel.set hu' (by decide) _
    · obtain ⟨k4, c4, s4⟩ := Cel.kn hu
      have hil : i = l.length := by omega
      rw [hil, List.take_of_length_le (by simp)] at hu
      have hg : Bor H (.agg [.sl s.length (ints s), u]) (tqV (wholeQ s l)) := Bor.aggL ⟨.self (by simp [clo, cloL_ints]), by simpa [wholeQ] using (Cel.gd hu).bor, trivial⟩
      (refine Go1.out ?_; repeat' ((with_reducible first | refine Go1.mk ?_ | ((first | apply Br.dec | apply Br.beq | apply Br.bne | apply Br.mk) <;> intro h)) <;> try simp -implicitDefEqProofs (maxSteps := 9000000) (disch := first | omega | (simp only [lens]; omega)) only [go_sem, h3, k4, c4, s4]))
      refine (back07_spec (wholeQ s l) (whole_ok (by omega) (by omega) hb)).keptF ⟨hg, trivial⟩ fun v X hv => ?_
      obtain ⟨a, b, rfl, ha, hb'⟩ := hv.agg2
      obtain ⟨ka, ca, sa⟩ := gd_sl ha.gd
      obtain ⟨kb, cb, sb⟩ := gd_sl hb'.gd
      have a0 := rowOf_keep h0 X
      have hst : ∀ z : Row, rowOf ((H ++ X).set 0 (some z)) 0 = some z := fun z => rowOf_set_eq a0
      (refine Go1.out ?_; repeat' ((with_reducible first | refine Go1.mk ?_ | ((first | apply Br.dec | apply Br.beq | apply Br.bne | apply Br.mk) <;> intro h)) <;> try simp -implicitDefEqProofs (maxSteps := 9000000) (disch := first | omega | (simp only [lens]; omega)) only [go_sem, a0, hst, ka, ca, sa, kb, cb, sb]))
      exact Gd.ret (Gd.aggL ⟨(ha.set (q := 0) (by omega) _).gd, (hb'.set (q := 0) (by omega) _).gd, trivial⟩)
  · exact ⟨0, .nil, by omega, rfl, rfl, Cel.nil _ _ _ _, rfl, rfl, rfl, rfl, rfl, rfl⟩
def zeroTq : Tq := ⟨[], [intQ 0]⟩
def ofT (t : Tn) : Tq := if mayT t ≠ 0 then zeroTq else tnOf t
theorem of09_val (t : Tn) (ht : TnOK t) : Val C 17 [tnV t] (tqV (ofT t)) := by
  refine Fc.keep (Fc.bodyT mixed Tryz.func17 w17 rfl Tryz.ntmps17 Tryz.results17 (Nat.le_of_ble_eq_true rfl) ?_)
  (refine Go1.out ?_; repeat' ((with_reducible first | refine Go1.mk ?_ | ((first | apply Br.dec | apply Br.beq | apply Br.bne | apply Br.mk) <;> intro h)) <;> try simp -implicitDefEqProofs (maxSteps := 9000000) (disch := first | omega | (simp only [lens]; omega)) only [go_sem]))
  refine Fc.pure (may07_spec t ht) (by simp [cloL, clo, cloL_ints, cloL_raws]) (fun g => rfl) ?_
  (refine Go1.out ?_; repeat' ((with_reducible first | refine Go1.mk ?_ | ((first | apply Br.dec | apply Br.beq | apply Br.bne | apply Br.mk) <;> intro h)) <;> try simp -implicitDefEqProofs (maxSteps := 9000000) (disch := first | omega | (simp only [lens]; omega)) only [go_sem]))
  · rw [ofT, if_pos (by assumption)]
    refine (int03_spec 0 (by decide) (by decide)).keptF ⟨.self rfl, trivial⟩ fun v X hv => ?_
    obtain ⟨v1, v2, v3, rfl, hv1, hv2, hv3⟩ := hv.agg3
    obtain ⟨k2, c2, s2⟩ := gd_sl hv2.gd
    obtain ⟨k3, c3, s3⟩ := gd_sl hv3.gd
    have e1 := hv1.gd.bool_inv
    subst e1
    (refine Go1.out ?_; repeat' ((with_reducible first | refine Go1.mk ?_ | ((first | apply Br.dec | apply Br.beq | apply Br.bne | apply Br.mk) <;> intro h)) <;> try simp -implicitDefEqProofs (maxSteps := 9000000) (disch := first | omega | (simp only [lens]; omega)) only [go_sem, k2, c2, s2, k3, c3, s3]))
    refine Gd.ret (Gd.aggL ⟨.nil _, ?_, trivial⟩)
    refine .ref (X.length + 2) 1 ⟨72, 3, [.bool (intQ 0).neg, v2, v3]⟩ (refsC [intQ 0]) (by simp [rowOf]) (by simp [plainL, hv2.gd.plain, hv3.gd.plain]; rfl) (Nat.le_refl _) fun j _ => ?_
    exact (GdL.all (l := [.bool (intQ 0).neg, v2, v3]) (m := [.bool (intQ 0).neg, DV (intQ 0).num, DV (intQ 0).den]) ⟨gd_b _, ((hv2.app _).set (q := 1) (by simp) _).gd, ((hv3.app _).set (q := 1) (by simp) _).gd, trivial⟩).2 j
  · rw [ofT, if_neg (by omega)]
    refine (of07_spec t ht).keptF ⟨.self (clo_tnV t), trivial⟩ fun v X hv => ?_
    obtain ⟨a, b, rfl, ha, hb⟩ := hv.agg2
    obtain ⟨ka, ca, sa⟩ := gd_sl ha.gd
    obtain ⟨kb, cb, sb⟩ := gd_sl hb.gd
    (refine Go1.out ?_; repeat' ((with_reducible first | refine Go1.mk ?_ | ((first | apply Br.dec | apply Br.beq | apply Br.bne | apply Br.mk) <;> intro h)) <;> try simp -implicitDefEqProofs (maxSteps := 9000000) (disch := first | omega | (simp only [lens]; omega)) only [go_sem, ka, ca, sa, kb, cb, sb]))
    exact Gd.ret (Gd.aggL ⟨(ha.set (q := 1) (by simp) _).gd, (hb.set (q := 1) (by simp) _).gd, trivial⟩)
def isB (t : Tn) (e : Int) (x : Tn) (w : Tq) (f : Int) : Bool :=
  if (if mayT x ≠ 0 then mayT x else f) ≠ 0 then decide (e = (if mayT x ≠ 0 then mayT x else f)) && (decide (t.shape.length = 0) && decide (t.el.length = 0)) else decide (e = 0) && isT w t
theorem is09_spec (t : Tn) (ht : TnOK t) (e : Int) (he : -1000000 ≤ e ∧ e ≤ 1000000) (x : Tn) (hx : TnOK x) (w : Tq) (hw : TqOK w) (f : Int) : Pu C 18 [tnV t, .int .i64 e, tnV x, tqV w, .int .i64 f] (.bool (isB t e x w f)) := by
  refine Fc.keep (Fc.bodyT mixed Tryz.func18 w18 rfl Tryz.ntmps18 Tryz.results18 (Nat.le_of_ble_eq_true rfl) ?_)
  (refine Go1.out ?_; repeat' ((with_reducible first | refine Go1.mk ?_ | ((first | apply Br.dec | apply Br.beq | apply Br.bne | apply Br.mk) <;> intro h)) <;> try simp -implicitDefEqProofs (maxSteps := 9000000) (disch := first | omega | (simp only [lens]; omega)) only [go_sem]))
  refine Fc.pure (may07_spec x hx) (by simp [cloL, clo, cloL_ints, cloL_raws]) (fun g => rfl) ?_
  by_cases hm : mayT x ≠ 0
  · by_cases hem : e = mayT x
    · skip
      (refine Go1.out ?_; repeat' ((with_reducible first | refine Go1.mk ?_ | ((first | apply Br.dec | apply Br.beq | apply Br.bne | apply Br.mk) <;> intro h)) <;> try simp -implicitDefEqProofs (maxSteps := 9000000) (disch := first | omega | (simp only [lens]; omega)) only [go_sem]))
      refine Fc.pure (empty_spec t) (by simp [cloL, clo, cloL_ints, cloL_raws]) (fun g => rfl) ?_
      (refine Go1.out ?_; repeat' ((with_reducible first | refine Go1.mk ?_ | ((first | apply Br.dec | apply Br.beq | apply Br.bne | apply Br.mk) <;> intro h)) <;> try simp -implicitDefEqProofs (maxSteps := 9000000) (disch := first | omega | (simp only [lens]; omega)) only [go_sem]))
      (refine keepP (by intro g; simp only [go_sem, ren, renL]) ?_)
      simp [isB, hm, hem]
    · skip
      (refine Go1.out ?_; repeat' ((with_reducible first | refine Go1.mk ?_ | ((first | apply Br.dec | apply Br.beq | apply Br.bne | apply Br.mk) <;> intro h)) <;> try simp -implicitDefEqProofs (maxSteps := 9000000) (disch := first | omega | (simp only [lens]; omega)) only [go_sem]))
      (refine keepP (by intro g; simp only [go_sem, ren, renL]) ?_)
      simp [isB, hm, hem]
  · have hm0 : mayT x = 0 := by omega
    rw [hm0]
    by_cases hf : f ≠ 0
    · by_cases hem : e = f
      · skip
        (refine Go1.out ?_; repeat' ((with_reducible first | refine Go1.mk ?_ | ((first | apply Br.dec | apply Br.beq | apply Br.bne | apply Br.mk) <;> intro h)) <;> try simp -implicitDefEqProofs (maxSteps := 9000000) (disch := first | omega | (simp only [lens]; omega)) only [go_sem]))
        refine Fc.pure (empty_spec t) (by simp [cloL, clo, cloL_ints, cloL_raws]) (fun g => rfl) ?_
        (refine Go1.out ?_; repeat' ((with_reducible first | refine Go1.mk ?_ | ((first | apply Br.dec | apply Br.beq | apply Br.bne | apply Br.mk) <;> intro h)) <;> try simp -implicitDefEqProofs (maxSteps := 9000000) (disch := first | omega | (simp only [lens]; omega)) only [go_sem]))
        (refine keepP (by intro g; simp only [go_sem, ren, renL]) ?_)
        simp [isB, hm0, hf, hem]
      · skip
        (refine Go1.out ?_; repeat' ((with_reducible first | refine Go1.mk ?_ | ((first | apply Br.dec | apply Br.beq | apply Br.bne | apply Br.mk) <;> intro h)) <;> try simp -implicitDefEqProofs (maxSteps := 9000000) (disch := first | omega | (simp only [lens]; omega)) only [go_sem]))
        (refine keepP (by intro g; simp only [go_sem, ren, renL]) ?_)
        simp [isB, hm0, hf, hem]
    · have hf0 : f = 0 := by omega
      subst hf0
      by_cases hem : e = 0
      · skip
        (refine Go1.out ?_; repeat' ((with_reducible first | refine Go1.mk ?_ | ((first | apply Br.dec | apply Br.beq | apply Br.bne | apply Br.mk) <;> intro h)) <;> try simp -implicitDefEqProofs (maxSteps := 9000000) (disch := first | omega | (simp only [lens]; omega)) only [go_sem]))
        refine Fc.pure (is07_spec w t hw ht) (by simp [cloL, clo, cloL_ints, cloL_raws, cloL_refs]) (fun g => rfl) ?_
        (refine Go1.out ?_; repeat' ((with_reducible first | refine Go1.mk ?_ | ((first | apply Br.dec | apply Br.beq | apply Br.bne | apply Br.mk) <;> intro h)) <;> try simp -implicitDefEqProofs (maxSteps := 9000000) (disch := first | omega | (simp only [lens]; omega)) only [go_sem]))
        (refine keepP (by intro g; simp only [go_sem, ren, renL]) ?_)
        simp [isB, hm0, hem]
      · skip
        (refine Go1.out ?_; repeat' ((with_reducible first | refine Go1.mk ?_ | ((first | apply Br.dec | apply Br.beq | apply Br.bne | apply Br.mk) <;> intro h)) <;> try simp -implicitDefEqProofs (maxSteps := 9000000) (disch := first | omega | (simp only [lens]; omega)) only [go_sem]))
        (refine keepP (by intro g; simp only [go_sem, ren, renL]) ?_)
        simp [isB, hm0, hem]
end Go.Proofs.YtjdbdmhjakfldaaGreat
end
section
set_option linter.unusedSimpArgs false
set_option linter.unusedVariables false
set_option maxRecDepth 100000
set_option pp.maxSteps 1500
set_option maxHeartbeats 4000000
namespace Go.Proofs.YtjdbdmhjakfldaaGreat
open Go.Bv
def NmQ (r : Rq) : Prop := valQ (rawOf r) = r
def atG (q : Tq) (l : List Int) : Rq := if offE q.shape l = 0 then q.el.getD (offN q.shape l).toNat q0 else intQ 0
def mvQ (q : Tq) (s : List Int) (g : List Int → List Int) : Tq := ⟨s, (List.range (prodL s).toNat).map fun i => atG q (g (idxL s (i : Nat)))⟩
theorem valQ_rawOf (r : Rq) : valQ (rawOf r) = normQ r.neg r.num r.den := by
  show normQ r.neg (lv 4294967296 (dg 4294967296 r.num)) (lv 4294967296 (dg 4294967296 r.den)) = _
  rw [lv_dg (by decide), lv_dg (by decide)]
theorem nm_int (a : Int) : NmQ (intQ a) := by
  rw [NmQ, valQ_rawOf]
  show normQ (decide (a < 0)) a.natAbs 1 = ⟨decide (a < 0), a.natAbs, 1⟩
  by_cases h : a = 0
  · subst h; rfl
  · rw [normQ, if_neg (by omega)]
    simp
theorem isT_back (q : Tq) : isT q (tnBack q) = true := by
  simp only [isT, tnBack, List.length_map, decide_true, Bool.true_and]
  rw [range_all]
  intro i hi
  rw [isQ_iff]
  simp [List.getD, hi]
theorem mvT_back (q : Tq) (hn : ∀ r ∈ q.el, NmQ r) (he : (q.el.length : Int) = prodL q.shape) (s : List Int) (g : List Int → List Int) : mvT (tnBack q) s g = tnBack (mvQ q s g) := by
  show (⟨s, ((mvL (tnBack q) s g (prodL s).toNat).map valQ).map rawOf⟩ : Tn) = ⟨s, (mvQ q s g).el.map rawOf⟩
  congr 2
  show (mvL (tnBack q) s g (prodL s).toNat).map valQ = (List.range (prodL s).toNat).map fun i => atG q (g (idxL s (i : Nat)))
  rw [mvL, gatL, List.map_map]
  refine List.map_congr_left fun i _ => ?_
  simp only [Function.comp]
  by_cases h : isAt (tnBack q) (g (idxL s (i : Nat))) = true
  · rw [if_pos h, if_pos h]
    have hz : offE q.shape (g (idxL s (i : Nat))) = 0 := of_decide_eq_true h
    obtain ⟨h1, h2, h3⟩ := offN_lt hz
    rw [atG, if_pos hz, pickT]
    obtain ⟨m, hm⟩ : ∃ m : Nat, offN q.shape (g (idxL s (i : Nat))) = m := ⟨(offN q.shape (g (idxL s (i : Nat)))).toNat, by omega⟩
    have hm' : m < q.el.length := by omega
    simp only [tnBack, hm, Int.toNat_natCast]
    have e1 : (q.el.map rawOf).getD m r0 = rawOf (q.el.getD m q0) := by simp [List.getD, hm']
    rw [e1]
    exact hn _ (by simp [List.getD, hm'])
  · rw [if_neg h]
    have hz : ¬ offE q.shape (g (idxL s (i : Nat))) = 0 := fun e => h (decide_eq_true e)
    rw [atG, if_neg hz, zeroR]
    exact nm_int 0
def mvI (s0 l s : List Int) (g : List Int → List Int) : List Int := (List.range (prodL s).toNat).map fun i => if offE s0 (g (idxL s (i : Nat))) = 0 then l.getD (offN s0 (g (idxL s (i : Nat)))).toNat 0 else 0
theorem atG_whole (s0 l p : List Int) : atG (wholeQ s0 l) p = if offE s0 p = 0 then (l.map intQ).getD (offN s0 p).toNat q0 else intQ 0 := rfl
theorem mvT_whole (s0 l : List Int) (he : (l.length : Int) = prodL s0) (s : List Int) (g : List Int → List Int) : mvT (wholeT s0 l) s g = wholeT s (mvI s0 l s g) := by
  rw [wholeT, mvT_back (wholeQ s0 l) (fun r hr => by
    simp only [wholeQ, List.mem_map] at hr
    obtain ⟨a, _, rfl⟩ := hr
    exact nm_int a) (by simpa [wholeQ] using he), wholeT]
  congr 1
  show (⟨s, (List.range (prodL s).toNat).map fun i => atG (wholeQ s0 l) (g (idxL s (i : Nat)))⟩ : Tq) = ⟨s, (mvI s0 l s g).map intQ⟩
  congr 1
  rw [mvI, List.map_map]
  refine List.map_congr_left fun i _ => ?_
  simp only [Function.comp, atG_whole]
  by_cases hz : offE s0 (g (idxL s (i : Nat))) = 0
  · rw [if_pos hz, if_pos hz]
    obtain ⟨h1, h2, h3⟩ := offN_lt hz
    have : (offN s0 (g (idxL s (i : Nat)))).toNat < l.length := by omega
    simp [List.getD, this]
  · rw [if_neg hz, if_neg hz]
theorem mayT_whole (s l : List Int) (hm : mayP s = 0) (he : (l.length : Int) = prodL s) : mayT (wholeT s l) = 0 := by
  have hf : fitsT (wholeT s l) = 0 := by
    show (if mayP s ≠ 0 then mayP s else if (((l.map intQ).map rawOf).length : Int) ≠ countP s then 13 else 0) = 0
    have hc : countP s = prodL s := by rw [countP, if_pos hm]
    rw [hm, hc]; simp [he]
  rw [mayT, hf, if_neg (by decide), if_pos]
  rw [List.all_eq_true]
  intro x hx
  simp only [wholeT, wholeQ, tnBack, List.mem_map] at hx
  obtain ⟨_, ⟨a, _, rfl⟩, rfl⟩ := hx
  rw [okR, isQ_iff, nm_int a]
theorem whole_tn {s l : List Int} (hs : s.length ≤ 1000000) (hl : l.length ≤ 1000000) (hb : ∀ x ∈ l, -9223372036854775808 ≤ x ∧ x < 9223372036854775808) : TnOK (wholeT s l) := by
  refine ⟨show s.length ≤ 1000000000 by omega, by simp [wholeT, wholeQ, tnBack]; omega, fun x hx => ?_⟩
  simp only [wholeT, wholeQ, tnBack, List.mem_map] at hx
  obtain ⟨_, ⟨a, ha, rfl⟩, rfl⟩ := hx
  have := hb a ha
  have h1 : (dg B32 a.natAbs).length ≤ 2 := dg_len_lt (by decide) _ _ (Nat.lt_of_lt_of_le (show a.natAbs < 9223372036854775809 by omega) (by decide))
  have h2 : (dg B32 1).length ≤ 1 := dg_len_lt (by decide) _ _ (by decide)
  exact ⟨show (dg B32 a.natAbs).length ≤ _ by omega, show (dg B32 1).length ≤ _ by omega, dg_Lim _, dg_Lim _⟩
theorem same_refl (t : Tn) : sameT t t = true := by
  simp only [sameT, decide_true, Bool.true_and]
  rw [range_all]
  intro i _
  simp [sameQ]
end Go.Proofs.YtjdbdmhjakfldaaGreat
end
section
set_option linter.unusedSimpArgs false
set_option linter.unusedVariables false
set_option maxRecDepth 100000
set_option pp.maxSteps 1500
set_option maxHeartbeats 4000000
namespace Go.Proofs.YtjdbdmhjakfldaaGreat
open Go.Bv
theorem k1E : transE (wholeT [2, 3] [1, 2, 3, 4, 5, 6]) [1, 0] = 0 := by
  rw [transE, mayT_whole _ _ (by decide) (by decide)]
  rfl
theorem k1T : transT (wholeT [2, 3] [1, 2, 3, 4, 5, 6]) [1, 0] = wholeT [3, 2] [1, 4, 2, 5, 3, 6] := by
  rw [transT, errT_ok k1E, mvT_whole _ _ (by decide)]
  rfl
theorem k2E : sliceE (wholeT [2, 3] [1, 2, 3, 4, 5, 6]) [0, 1, 1, 3] = 0 := by
  rw [sliceE, mayT_whole _ _ (by decide) (by decide)]
  rfl
theorem k2T : sliceT (wholeT [2, 3] [1, 2, 3, 4, 5, 6]) [0, 1, 1, 3] = wholeT [1, 2] [2, 3] := by
  rw [sliceT, errT_ok k2E, mvT_whole _ _ (by decide)]
  rfl
theorem k3E : padE (wholeT [1, 2] [2, 3]) [0, 0, 1, 0] = 0 := by
  rw [padE, mayT_whole _ _ (by decide) (by decide)]
  rfl
theorem k3T : padT (wholeT [1, 2] [2, 3]) [0, 0, 1, 0] = wholeT [1, 3] [0, 2, 3] := by
  rw [padT, errT_ok k3E, mvT_whole _ _ (by decide)]
  rfl
theorem t1_val : Val C 13 [tnV (wholeT [2, 3] [1, 2, 3, 4, 5, 6]), .sl 2 [.int .i64 1, .int .i64 0]] (.tup [tnV (wholeT [3, 2] [1, 4, 2, 5, 3, 6]), .int .i64 0]) := by
  have h := transpose_val (wholeT [2, 3] [1, 2, 3, 4, 5, 6]) (whole_tn (by decide) (by decide) (by decide)) [1, 0] (by decide)
  rw [k1E, k1T] at h
  exact h
theorem t2_val : Val C 20 [tnV (wholeT [2, 3] [1, 2, 3, 4, 5, 6]), .sl 4 [.int .i64 0, .int .i64 1, .int .i64 1, .int .i64 3]] (.tup [tnV (wholeT [1, 2] [2, 3]), .int .i64 0]) := by
  have h := slice_val (wholeT [2, 3] [1, 2, 3, 4, 5, 6]) (whole_tn (by decide) (by decide) (by decide)) [0, 1, 1, 3] (by decide)
  rw [k2E, k2T] at h
  exact h
theorem t3_val : Val C 22 [tnV (wholeT [1, 2] [2, 3]), .sl 4 [.int .i64 0, .int .i64 0, .int .i64 1, .int .i64 0]] (.tup [tnV (wholeT [1, 3] [0, 2, 3]), .int .i64 0]) := by
  have h := pad_val (wholeT [1, 2] [2, 3]) (whole_tn (by decide) (by decide) (by decide)) [0, 0, 1, 0] (by decide)
  rw [k3E, k3T] at h
  exact h
theorem w_val (s l : List Int) (hs : s.length ≤ 1000000) (hl : l.length ≤ 1000000) (hb : ∀ x ∈ l, -9223372036854775808 ≤ x ∧ x < 9223372036854775808) : ∃ T, T = wholeT s l ∧ TnOK T ∧ Val C 49 [.sl s.length (ints s), .sl l.length (ints l)] (tnV T) := ⟨_, rfl, whole_tn hs hl hb, whole_val s l hs hl hb⟩
theorem known_spec : Pu C 19 [] (.bool true) := by
  obtain ⟨X, hX, tX, wX⟩ := w_val [2, 3] [1, 2, 3, 4, 5, 6] (by decide) (by decide) (by decide)
  obtain ⟨A, hA, tA, wA⟩ := w_val [3, 2] [1, 4, 2, 5, 3, 6] (by decide) (by decide) (by decide)
  obtain ⟨B, hB, tB, wB⟩ := w_val [1, 2] [2, 3] (by decide) (by decide) (by decide)
  obtain ⟨D, hD, tD, wD⟩ := w_val [1, 3] [0, 2, 3] (by decide) (by decide) (by decide)
  have h1 := t1_val
  have h2 := t2_val
  have h3 := t3_val
  rw [← hX, ← hA] at h1
  rw [← hX, ← hB] at h2
  rw [← hB, ← hD] at h3
  have sA := same07_spec A A tA tA
  have sB := same07_spec B B tB tB
  have sD := same07_spec D D tD tD
  rw [same_refl] at sA sB sD
  clear hX hA hB hD
  refine Fc.keep (Fc.bodyT mixed Tryz.func19 w19 rfl Tryz.ntmps19 Tryz.results19 (Nat.le_of_ble_eq_true rfl) ?_)
  (refine Go1.out ?_; repeat' ((with_reducible first | refine Go1.mk ?_ | ((first | apply Br.dec | apply Br.beq | apply Br.bne | apply Br.mk) <;> intro h)) <;> try simp -implicitDefEqProofs (maxSteps := 9000000) (disch := first | omega | (simp only [lens]; omega)) only [go_sem]))
  refine wX.call ⟨.self rfl, .self rfl, trivial⟩ (clo_tnV _) ?_
  (refine Go1.out ?_; repeat' ((with_reducible first | refine Go1.mk ?_ | ((first | apply Br.dec | apply Br.beq | apply Br.bne | apply Br.mk) <;> intro h)) <;> try simp -implicitDefEqProofs (maxSteps := 9000000) (disch := first | omega | (simp only [lens]; omega)) only [go_sem]))
  refine h1.call ⟨.self (clo_tnV _), .self rfl, trivial⟩ (by simp [clo, cloL, clo_tnV]) ?_
  (refine Go1.out ?_; repeat' ((with_reducible first | refine Go1.mk ?_ | ((first | apply Br.dec | apply Br.beq | apply Br.bne | apply Br.mk) <;> intro h)) <;> try simp -implicitDefEqProofs (maxSteps := 9000000) (disch := first | omega | (simp only [lens]; omega)) only [go_sem]))
  refine h2.call ⟨.self (clo_tnV _), .self rfl, trivial⟩ (by simp [clo, cloL, clo_tnV]) ?_
  (refine Go1.out ?_; repeat' ((with_reducible first | refine Go1.mk ?_ | ((first | apply Br.dec | apply Br.beq | apply Br.bne | apply Br.mk) <;> intro h)) <;> try simp -implicitDefEqProofs (maxSteps := 9000000) (disch := first | omega | (simp only [lens]; omega)) only [go_sem]))
  refine h3.call ⟨.self (clo_tnV _), .self rfl, trivial⟩ (by simp [clo, cloL, clo_tnV]) ?_
  (refine Go1.out ?_; repeat' ((with_reducible first | refine Go1.mk ?_ | ((first | apply Br.dec | apply Br.beq | apply Br.bne | apply Br.mk) <;> intro h)) <;> try simp -implicitDefEqProofs (maxSteps := 9000000) (disch := first | omega | (simp only [lens]; omega)) only [go_sem]))
  refine wA.pc ⟨.self rfl, .self rfl, trivial⟩ (clo_tnV _) ?_
  (refine Go1.out ?_; repeat' ((with_reducible first | refine Go1.mk ?_ | ((first | apply Br.dec | apply Br.beq | apply Br.bne | apply Br.mk) <;> intro h)) <;> try simp -implicitDefEqProofs (maxSteps := 9000000) (disch := first | omega | (simp only [lens]; omega)) only [go_sem]))
  refine Pc.pure sA (by simp [cloL, clo, cloL_ints, cloL_raws]) (fun g => rfl) ?_
  (refine Go1.out ?_; repeat' ((with_reducible first | refine Go1.mk ?_ | ((first | apply Br.dec | apply Br.beq | apply Br.bne | apply Br.mk) <;> intro h)) <;> try simp -implicitDefEqProofs (maxSteps := 9000000) (disch := first | omega | (simp only [lens]; omega)) only [go_sem]))
  refine wB.pc ⟨.self rfl, .self rfl, trivial⟩ (clo_tnV _) ?_
  (refine Go1.out ?_; repeat' ((with_reducible first | refine Go1.mk ?_ | ((first | apply Br.dec | apply Br.beq | apply Br.bne | apply Br.mk) <;> intro h)) <;> try simp -implicitDefEqProofs (maxSteps := 9000000) (disch := first | omega | (simp only [lens]; omega)) only [go_sem]))
  refine Pc.pure sB (by simp [cloL, clo, cloL_ints, cloL_raws]) (fun g => rfl) ?_
  (refine Go1.out ?_; repeat' ((with_reducible first | refine Go1.mk ?_ | ((first | apply Br.dec | apply Br.beq | apply Br.bne | apply Br.mk) <;> intro h)) <;> try simp -implicitDefEqProofs (maxSteps := 9000000) (disch := first | omega | (simp only [lens]; omega)) only [go_sem]))
  refine wD.pc ⟨.self rfl, .self rfl, trivial⟩ (clo_tnV _) ?_
  (refine Go1.out ?_; repeat' ((with_reducible first | refine Go1.mk ?_ | ((first | apply Br.dec | apply Br.beq | apply Br.bne | apply Br.mk) <;> intro h)) <;> try simp -implicitDefEqProofs (maxSteps := 9000000) (disch := first | omega | (simp only [lens]; omega)) only [go_sem]))
  refine Pc.pure sD (by simp [cloL, clo, cloL_ints, cloL_raws]) (fun g => rfl) ?_
  (refine Go1.out ?_; repeat' ((with_reducible first | refine Go1.mk ?_ | ((first | apply Br.dec | apply Br.beq | apply Br.bne | apply Br.mk) <;> intro h)) <;> try simp -implicitDefEqProofs (maxSteps := 9000000) (disch := first | omega | (simp only [lens]; omega)) only [go_sem]))
  (refine keepP (by intro g; simp only [go_sem, ren, renL]) ?_)
  all_goals rfl
end Go.Proofs.YtjdbdmhjakfldaaGreat
end
section
set_option linter.unusedSimpArgs false
set_option linter.unusedVariables false
set_option maxRecDepth 100000
set_option pp.maxSteps 1500
set_option maxHeartbeats 4000000
namespace Go.Proofs.YtjdbdmhjakfldaaGreat
open Go.Bv
theorem count09_spec (xs : List Int) (hx : xs.length ≤ 1000000000) (h1 : ∀ d ∈ xs, 1 ≤ d) : Pu C 53 [.sl xs.length (ints xs)] (.int .i64 (prodP xs)) := by
  refine Fc.keep (Fc.bodyT mixed Tryz.func53 w53 rfl Tryz.ntmps53 Tryz.results53 (Nat.le_of_ble_eq_true rfl) ?_)
  (refine Go1.out ?_; repeat' ((with_reducible first | refine Go1.mk ?_ | ((first | apply Br.dec | apply Br.beq | apply Br.bne | apply Br.mk) <;> intro h)) <;> try simp -implicitDefEqProofs (maxSteps := 9000000) (disch := first | omega | (simp only [lens]; omega)) only [go_sem]))
  refine TT_loop_inv (fun n ts H => ∃ (k : Nat), (k ≤ xs.length) ∧ (prodL (xs.take k) ≤ 1024) ∧ (H = []) ∧ (n = xs.length - k) ∧ ts.length = 25 ∧ nth ts 0 = .sl xs.length (ints xs) ∧ nth ts 3 = .int .i64 (prodL (xs.take k)) ∧ nth ts 4 = .int .i64 (k : Nat)) ?_ (n := xs.length) ?_
  · skip
    rintro n ts H ⟨k, hk, hm, hH, hn, hL, hs0, hs3, hs4⟩
    refine TT_env [(0, .sl xs.length (ints xs)), (3, .int .i64 (prodL (xs.take k))), (4, .int .i64 (k : Nat))] hL (by simp only [List.forall_mem_cons, hs0, hs3, hs4, true_and]; exact fun _ h => nomatch h) ?_
    clear hL hs0 hs3 hs4 ts
    refine TT_of mixed ?_
    subst hH
    have hp1 := prodL_pos (l := xs.take k) fun d hd => h1 d (List.mem_of_mem_take hd)
    by_cases hkl : k < xs.length
    · have hd := getD_pos h1 hkl
      have hdu := getD_le_prodL h1 hkl
      have e := prodL_take hkl
      have hle := prodL_le h1 (k + 1)
      rw [e] at hle
      have hge : xs.getD k 0 ≤ prodL (xs.take k) * xs.getD k 0 := by
        have := Int.mul_le_mul_of_nonneg_right hp1 (show 0 ≤ xs.getD k 0 by omega)
        omega
      by_cases hbig : xs.getD k 0 > 1024
      · skip
        (refine Go1.out ?_; repeat' ((with_reducible first | refine Go1.mk ?_ | ((first | apply Br.dec | apply Br.beq | apply Br.bne | apply Br.mk) <;> intro h)) <;> try simp -implicitDefEqProofs (maxSteps := 9000000) (disch := first | omega | (simp only [lens]; omega)) only [go_sem]))
        (refine keepP (by intro g; simp only [go_sem, ren, renL]) ?_)
        rw [prodP, if_pos (by omega)]
      · have hmul : prodL (xs.take k) * xs.getD k 0 ≤ 1048576 := by
          have := Int.mul_le_mul hm (show xs.getD k 0 ≤ 1024 by omega) (by omega) (by decide)
          omega
        have hmul0 : 0 ≤ prodL (xs.take k) * xs.getD k 0 := Int.mul_nonneg (by omega) (by omega)
        rw [← e] at hle hge hmul hmul0
        have e' := e.symm
        generalize hz : prodL (xs.take (k + 1)) = z at *
        (refine Go1.out ?_; repeat' ((with_reducible first | refine Go1.mk ?_ | ((first | apply Br.dec | apply Br.beq | apply Br.bne | apply Br.mk) <;> intro h)) <;> try simp -implicitDefEqProofs (maxSteps := 9000000) (disch := first | omega | (simp only [lens]; omega)) only [go_sem, e']))
        · skip
          (refine keepP (by intro g; simp only [go_sem, ren, renL]) ?_)
          rw [prodP, if_pos (by omega)]
        · exact ⟨xs.length - (k + 1), by omega, k + 1, by omega, by rw [hz]; omega, rfl, by rw [hz], by congr 1⟩
    · have hks : k = xs.length := by omega
      subst hks
      rw [List.take_length] at hm
      (refine Go1.out ?_; repeat' ((with_reducible first | refine Go1.mk ?_ | ((first | apply Br.dec | apply Br.beq | apply Br.bne | apply Br.mk) <;> intro h)) <;> try simp -implicitDefEqProofs (maxSteps := 9000000) (disch := first | omega | (simp only [lens]; omega)) only [go_sem]))
      rw [List.take_length]
      (refine keepP (by intro g; simp only [go_sem, ren, renL]) ?_)
      rw [prodP, if_neg (by omega)]
  · exact ⟨0, by omega, by simp [prodL], rfl, rfl, rfl, rfl, rfl, rfl⟩
def emptyQ : Tq := ⟨[], []⟩
def errQ (p : Tq) (e : Int) : Tq := if e ≠ 0 then emptyQ else p
theorem errQ_no {p : Tq} {e : Int} (h : e ≠ 0) : errQ p e = emptyQ := if_pos h
theorem errQ_ok {p : Tq} {e : Int} (h : e = 0) : errQ p e = p := if_neg (by omega)
theorem bor_no {H : Heap} {p : Tq} {e k : Int} (h : e = k) (hk : k ≠ 0) : Bor H (.tup [.agg [.nil, .nil], .int .i64 k]) (.tup [tqV (errQ p e), .int .i64 e]) := by
  rw [errQ_no (by omega), h]
  exact Bor.tupL ⟨Bor.aggL ⟨.nil _, .nil _, trivial⟩, .self rfl, trivial⟩
theorem clo_ans (q : Tq) (e : Int) : clo (.tup [tqV q, .int .i64 e]) = true := by simp [clo, cloL, clo_tqV]
def reshF (q : Tq) (s : List Int) : Int := if mayP s ≠ 0 then mayP s else if prodP s ≠ q.el.length then 13 else 0
def reshQ (q : Tq) (s : List Int) : Tq := errQ ⟨s, q.el⟩ (reshF q s)
theorem reshape09_spec (q : Tq) (hq : TqOK q) (s : List Int) (hs : s.length ≤ 1000000000) : Pu C 25 [tqV q, .sl s.length (ints s)] (.tup [tqV (reshQ q s), .int .i64 (reshF q s)]) := by
  have he := hq.e
  refine Pu.ofBor (clo_ans _ _) ?_
  unfold reshQ
  refine Fc.bodyT mixed Tryz.func25 w25 rfl Tryz.ntmps25 Tryz.results25 (Nat.le_of_ble_eq_true rfl) ?_
  (refine Go1.out ?_; repeat' ((with_reducible first | refine Go1.mk ?_ | ((first | apply Br.dec | apply Br.beq | apply Br.bne | apply Br.mk) <;> intro h)) <;> try simp -implicitDefEqProofs (maxSteps := 9000000) (disch := first | omega | (simp only [lens]; omega)) only [go_sem]))
  refine Fc.pure (May6_spec s (by omega)) (by simp [go_sem, cloL, clo, cloL_ints, cloL_intss]) (by intro g; simp only [go_sem, ren, renL]) ?_
  by_cases hm : mayP s = 0
  · obtain ⟨m1, m2, m3⟩ := mayP_zero hm
    rw [hm]
    (refine Go1.out ?_; repeat' ((with_reducible first | refine Go1.mk ?_ | ((first | apply Br.dec | apply Br.beq | apply Br.bne | apply Br.mk) <;> intro h)) <;> try simp -implicitDefEqProofs (maxSteps := 9000000) (disch := first | omega | (simp only [lens]; omega)) only [go_sem]))
    refine Pc.pure (count09_spec s hs m2) (by simp [cloL, clo, cloL_ints]) (fun g => rfl) ?_
    by_cases hc : prodP s = q.el.length
    · have hE : reshF q s = 0 := by rw [reshF, if_neg (by omega), if_neg (by omega)]
      rw [errQ_ok hE, hE]
      (refine Go1.out ?_; repeat' ((with_reducible first | refine Go1.mk ?_ | ((first | apply Br.dec | apply Br.beq | apply Br.bne | apply Br.mk) <;> intro h)) <;> try simp -implicitDefEqProofs (maxSteps := 9000000) (disch := first | omega | (simp only [lens]; omega)) only [go_sem]))
      exact Bor.tupL ⟨Bor.aggL ⟨(show Bv.Own 3 1 _ (.ref 2 0 s.length) s.length (ints s) from .inr ⟨2, rfl, rfl, by simp [ints_length]⟩).bor' (cloL_ints _), .self (by simp [clo, cloL_refs]), trivial⟩, .self rfl, trivial⟩
    · have hE : reshF q s = 13 := by rw [reshF, if_neg (by omega), if_pos hc]
      (refine Go1.out ?_; repeat' ((with_reducible first | refine Go1.mk ?_ | ((first | apply Br.dec | apply Br.beq | apply Br.bne | apply Br.mk) <;> intro h)) <;> try simp -implicitDefEqProofs (maxSteps := 9000000) (disch := first | omega | (simp only [lens]; omega)) only [go_sem]))
      exact bor_no hE (by decide)
  · have hE : reshF q s = mayP s := by rw [reshF, if_pos hm]
    (refine Go1.out ?_; repeat' ((with_reducible first | refine Go1.mk ?_ | ((first | apply Br.dec | apply Br.beq | apply Br.bne | apply Br.mk) <;> intro h)) <;> try simp -implicitDefEqProofs (maxSteps := 9000000) (disch := first | omega | (simp only [lens]; omega)) only [go_sem]))
    exact bor_no hE hm
end Go.Proofs.YtjdbdmhjakfldaaGreat
end
section
set_option linter.unusedSimpArgs false
set_option linter.unusedVariables false
set_option maxRecDepth 100000
set_option pp.maxSteps 1500
set_option maxHeartbeats 4000000
namespace Go.Proofs.YtjdbdmhjakfldaaGreat
open Go.Bv
theorem intQ_ok (a : Int) (ha : -9223372036854775808 ≤ a ∧ a < 9223372036854775808) : RqOK (intQ a) := (whole_ok (s := []) (l := [a]) (by decide) (by simp) (by simpa using ha)).r _ (by simp [wholeQ])
theorem rawOf_ok {x : Raw} (h : RawOK x) : RawOK (rawOf (valQ x)) := by
  obtain ⟨h1, h2⟩ := normQ_le x.neg (lv 4294967296 x.num) (lv 4294967296 x.den)
  have n1 := h.n1
  have d1 := h.d1
  refine ⟨?_, ?_, dg_Lim _, dg_Lim _⟩
  · have := dg_len_lt (b := B32) (by decide) (valQ x).num x.num.length (Nat.lt_of_le_of_lt h1 (lv_lt32 h.nL))
    show (dg B32 (valQ x).num).length ≤ _
    omega
  · show (dg B32 (valQ x).den).length ≤ _
    rcases h2 with h2 | h2
    · have := dg_len_lt (b := B32) (by decide) (valQ x).den x.den.length (Nat.lt_of_le_of_lt h2 (lv_lt32 h.dL))
      omega
    · have e : (valQ x).den = 1 := h2
      have : (dg B32 1).length ≤ 1 := dg_len_lt (by decide) _ _ (by decide)
      rw [e]; omega
theorem normT_ok {t : Tn} (ht : TnOK t) : TnOK (normT t) := ⟨ht.s, by simpa [normT] using ht.e, fun x hx => by
  simp only [normT, List.mem_map] at hx
  obtain ⟨_, ⟨a, ha, rfl⟩, rfl⟩ := hx
  exact rawOf_ok (ht.r a ha)⟩
theorem emptyT_ok : TnOK emptyT := ⟨by decide, by decide, fun x hx => by simp [emptyT] at hx⟩
theorem emptyQ_ok : TqOK emptyQ := ⟨by decide, by decide, fun x hx => by simp [emptyQ] at hx⟩
theorem errT_TnOK {p : Tn} {e : Int} (h : e = 0 → TnOK p) : TnOK (errT p e) := by
  by_cases he : e = 0
  · rw [errT_ok he]; exact h he
  · rw [errT_no he]; exact emptyT_ok
theorem errQ_TqOK {p : Tq} {e : Int} (h : e = 0 → TqOK p) : TqOK (errQ p e) := by
  by_cases he : e = 0
  · rw [errQ_ok he]; exact h he
  · rw [errQ_no he]; exact emptyQ_ok
theorem ofT_ok {t : Tn} (ht : TnOK t) : TqOK (ofT t) := by
  rw [ofT]
  split
  · exact ⟨by decide, by decide, fun x hx => by simp [zeroTq] at hx; rw [hx]; exact intQ_ok 0 (by decide)⟩
  · exact ht.of
theorem isB_ok {t : Tn} {p : Tn} {q : Tq} {e f : Int} (h0 : mayT t ≠ 0 → e = mayT t) (h1 : mayT t = 0 → e = f) (h2 : mayT t = 0 → e = 0 → isT q p = true) : isB (errT p e) e t (errQ q f) f = true := by
  by_cases hm : mayT t ≠ 0
  · have he := h0 hm
    rw [errT_no (by omega)]
    simp only [isB, hm, he]
    simp [emptyT, hm]
  · have hm' : mayT t = 0 := by omega
    have he := h1 hm'
    by_cases hz : e = 0
    · have hf : f = 0 := by omega
      rw [errT_ok hz, errQ_ok hf]
      simp [isB, hm', hf, hz, h2 hm' hz]
    · rw [errT_no hz]
      subst he
      simp [isB, hm', hz, emptyT]
theorem reshapes_plain (t : Tn) (s : List Int) : isB (reshT t s) (reshE t s) t (reshQ (ofT t) s) (reshF (ofT t) s) = true := by
  refine isB_ok (fun h => by rw [reshE, if_pos h]) (fun h => ?_) (fun h he => ?_)
  · have e1 : ofT t = tnOf t := if_neg (by omega)
    rw [e1, reshE, if_neg (by omega), reshF]
    by_cases hs : mayP s = 0
    · obtain ⟨m1, m2, m3⟩ := mayP_zero hs
      have hp : prodP s = prodL s := by rw [prodP, if_neg (by omega)]
      have hl : (tnOf t).el.length = t.el.length := by simp [tnOf]
      rw [hp, hl]
      by_cases hc : (t.el.length : Int) = prodL s
      · simp [hs, hc]
      · have hc' : ¬ prodL s = (t.el.length : Int) := fun e => hc e.symm
        simp [hs, hc, hc']
    · rw [if_pos hs, if_pos hs]
  · have e1 : ofT t = tnOf t := if_neg (by omega)
    rw [e1]
    exact isT_back ⟨s, (tnOf t).el⟩
theorem mayT_cases (t : Tn) : mayT t = 0 ∨ mayT t = 6 ∨ mayT t = 11 ∨ mayT t = 13 ∨ mayT t = 14 := by
  have := mayP_cases t.shape
  unfold mayT fitsT
  split <;> (try split) <;> (try split) <;> (try split) <;> omega
theorem MoveReshapes_law (t : Tn) (ht : TnOK t) (s : List Int) (hs : s.length ≤ 1000000000) : Pu C 6 [tnV t, .sl s.length (ints s)] (.bool true) := by
  have hq := ofT_ok ht
  have hE : -1000000 ≤ reshE t s ∧ reshE t s ≤ 1000000 := by
    have h1 := mayT_cases t
    have h2 := mayP_cases s
    unfold reshE
    split <;> (try split) <;> (try split) <;> omega
  have hT : TnOK (reshT t s) := errT_TnOK fun _ => normT_ok ⟨hs, ht.e, ht.r⟩
  have hQ : TqOK (reshQ (ofT t) s) := errQ_TqOK fun _ => ⟨hs, hq.e, hq.r⟩
  have hi := is09_spec (reshT t s) hT (reshE t s) hE t ht (reshQ (ofT t) s) hQ (reshF (ofT t) s)
  rw [reshapes_plain] at hi
  have hw : Val C 15 [.sl s.length (ints s)] (.sl s.length (ints s)) := Val.ofRet (own09_spec s hs) (cloL_ints _) (plainL_ints _)
  have h1 := reshape_val t ht s hs
  have h2 := reshape09_spec (ofT t) hq s hs
  generalize reshT t s = T at *
  generalize reshE t s = e at *
  generalize reshQ (ofT t) s = Q at *
  generalize reshF (ofT t) s = f at *
  refine Fc.keep (Fc.bodyT mixed Tryz.func6 w6 rfl Tryz.ntmps6 Tryz.results6 (Nat.le_of_ble_eq_true rfl) ?_)
  (refine Go1.out ?_; repeat' ((with_reducible first | refine Go1.mk ?_ | ((first | apply Br.dec | apply Br.beq | apply Br.bne | apply Br.mk) <;> intro h)) <;> try simp -implicitDefEqProofs (maxSteps := 9000000) (disch := first | omega | (simp only [lens]; omega)) only [go_sem]))
  refine (own07_spec t ht).call ⟨.self (clo_tnV _), trivial⟩ (clo_tnV _) ?_
  (refine Go1.out ?_; repeat' ((with_reducible first | refine Go1.mk ?_ | ((first | apply Br.dec | apply Br.beq | apply Br.bne | apply Br.mk) <;> intro h)) <;> try simp -implicitDefEqProofs (maxSteps := 9000000) (disch := first | omega | (simp only [lens]; omega)) only [go_sem]))
  refine hw.call ⟨.self (by simp [clo, cloL_ints]), trivial⟩ (by simp [clo, cloL_ints]) ?_
  (refine Go1.out ?_; repeat' ((with_reducible first | refine Go1.mk ?_ | ((first | apply Br.dec | apply Br.beq | apply Br.bne | apply Br.mk) <;> intro h)) <;> try simp -implicitDefEqProofs (maxSteps := 9000000) (disch := first | omega | (simp only [lens]; omega)) only [go_sem]))
  refine h1.call ⟨.self (clo_tnV _), .self (by simp [clo, cloL_ints]), trivial⟩ (by simp [clo, cloL, clo_tnV]) ?_
  (refine Go1.out ?_; repeat' ((with_reducible first | refine Go1.mk ?_ | ((first | apply Br.dec | apply Br.beq | apply Br.bne | apply Br.mk) <;> intro h)) <;> try simp -implicitDefEqProofs (maxSteps := 9000000) (disch := first | omega | (simp only [lens]; omega)) only [go_sem]))
  refine (of09_val t ht).call ⟨.self (clo_tnV _), trivial⟩ (clo_tqV _) ?_
  (refine Go1.out ?_; repeat' ((with_reducible first | refine Go1.mk ?_ | ((first | apply Br.dec | apply Br.beq | apply Br.bne | apply Br.mk) <;> intro h)) <;> try simp -implicitDefEqProofs (maxSteps := 9000000) (disch := first | omega | (simp only [lens]; omega)) only [go_sem]))
  refine Fc.pure h2 (by simp [cloL, clo, cloL_ints, cloL_refs]) (fun g => ren_clo _ _ (clo_ans _ _)) ?_
  (refine Go1.out ?_; repeat' ((with_reducible first | refine Go1.mk ?_ | ((first | apply Br.dec | apply Br.beq | apply Br.bne | apply Br.mk) <;> intro h)) <;> try simp -implicitDefEqProofs (maxSteps := 9000000) (disch := first | omega | (simp only [lens]; omega)) only [go_sem]))
  refine Fc.pure hi (by simp [cloL, clo, cloL_ints, cloL_refs, cloL_raws]) (fun g => rfl) ?_
  (refine Go1.out ?_; repeat' ((with_reducible first | refine Go1.mk ?_ | ((first | apply Br.dec | apply Br.beq | apply Br.bne | apply Br.mk) <;> intro h)) <;> try simp -implicitDefEqProofs (maxSteps := 9000000) (disch := first | omega | (simp only [lens]; omega)) only [go_sem]))
  refine Fc.pure known_spec rfl (fun g => rfl) ?_
  (refine Go1.out ?_; repeat' ((with_reducible first | refine Go1.mk ?_ | ((first | apply Br.dec | apply Br.beq | apply Br.bne | apply Br.mk) <;> intro h)) <;> try simp -implicitDefEqProofs (maxSteps := 9000000) (disch := first | omega | (simp only [lens]; omega)) only [go_sem]))
  (refine keepP (by intro g; simp only [go_sem, ren, renL]) ?_)
  rfl
end Go.Proofs.YtjdbdmhjakfldaaGreat
end
section
set_option maxRecDepth 100000
namespace Go.Proofs.YtjdbdmhjakfldaaGreat
open Go.Bv
theorem a_own : ownKnob Tryz.prog.godebug = none := by kernel_rfl
theorem a_laid : laidOutB Tryz.prog = true := by kernel_rfl
theorem rd_ints {t : Nat} (hu : Tryz.prog.underlying t = some (.slice 3)) : U.Reads Tryz.prog t fun vs => ∃ xs : List Int, vs = [.sl xs.length (ints xs)] ∧ xs.length ≤ 1048576 ∧ ∀ x ∈ xs, (Lit.int .i64 x).wf = true := U.Reads.ints hu Tryz.underlying3 (by kernel_rfl)
theorem rd_u32 : U.Reads Tryz.prog 59 fun vs => ∃ n : Nat, vs = [V.int .u32 (n : Nat)] ∧ n < 4294967296 := U.Reads.mono (U.Reads.int Tryz.underlying59) fun vs ⟨n, h, hw⟩ => by
  have hx : 0 ≤ n ∧ n ≤ 4294967295 := by simpa [Lit.wf, IntKind.min, IntKind.max, IntKind.signed, IntKind.bits] using hw
  exact ⟨n.toNat, by rw [h]; congr 2; omega, by omega⟩
theorem rd_nat : U.Reads Tryz.prog 56 fun vs => ∃ l : List Nat, vs = [NA l] ∧ l.length ≤ 1048576 ∧ Lim l :=
  U.Reads.mono (U.Reads.slice1 (g := fun n : Nat => .int .u32 (n : Nat)) Tryz.underlying56 (by kernel_rfl) rd_u32) fun vs ⟨xs, h1, h2, h3⟩ => ⟨xs, h1, h2, h3⟩
theorem rd_rat : U.Reads Tryz.prog 58 fun vs => ∃ x : Raw, vs = [.bool x.neg, NA x.num, NA x.den] ∧ RawOK x := by
  refine U.Reads.mono (U.Reads.struct (Qs := fun i vs => if i = 0 then ∃ b, vs = [V.bool b] else ∃ l : List Nat, vs = [NA l] ∧ l.length ≤ 1048576 ∧ Lim l) a_laid (of_decide_eq_true (by kernel_rfl)) Tryz.underlying58 ?_) ?_
  · intro i f hf
    match i, hf with
    | 0, hf => cases hf; exact U.Reads.mono (U.Reads.bool Tryz.underlying4) fun vs h => by rw [if_pos rfl]; exact h
    | 1, hf => cases hf; exact U.Reads.mono rd_nat fun vs h => by rw [if_neg (by decide)]; exact h
    | 2, hf => cases hf; exact U.Reads.mono rd_nat fun vs h => by rw [if_neg (by decide)]; exact h
    | i + 3, hf => cases hf
  · rintro u ⟨l, hl, hq, rfl⟩
    match l, hl with
    | [a, b, c], _ =>
      have h0 := hq 0 (by decide)
      have h1 := hq 1 (by decide)
      have h2 := hq 2 (by decide)
      obtain ⟨n, rfl⟩ := h0
      obtain ⟨xs, rfl, hx, hx2⟩ := h1
      obtain ⟨ys, rfl, hy, hy2⟩ := h2
      exact ⟨⟨n, xs, ys⟩, rfl, by show xs.length ≤ _; omega, by show ys.length ≤ _; omega, hx2, hy2⟩
theorem raws_of : ∀ {l : List (List V)}, (∀ x ∈ l, ∃ r : Raw, x = [.bool r.neg, NA r.num, NA r.den] ∧ RawOK r) → ∃ xs : List Raw, xs.length = l.length ∧ l.flatten = rawsC xs ∧ ∀ x ∈ xs, RawOK x
  | [], _ => ⟨[], rfl, rfl, by simp⟩
  | x :: l, h => by
    obtain ⟨a, rfl, ha⟩ := h x (by simp)
    obtain ⟨xs, h1, h2, h3⟩ := raws_of (l := l) fun y hy => h y (by simp [hy])
    exact ⟨a :: xs, by simp [h1], by rw [List.flatten_cons, h2]; rfl, fun b hb => by
      rcases List.mem_cons.1 hb with rfl | hb
      · exact ha
      · exact h3 b hb⟩
theorem rd_rats : U.Reads Tryz.prog 24 fun vs => ∃ xs : List Raw, vs = [.sl xs.length (rawsC xs)] ∧ xs.length ≤ 1048576 ∧ ∀ x ∈ xs, RawOK x :=
  U.Reads.mono (U.Reads.slice (s := 3) Tryz.underlying24 (by kernel_rfl) (by decide) rd_rat) fun vs ⟨l, h1, h2, h3⟩ => by
    obtain ⟨xs, q1, q2, q3⟩ := raws_of h1
    exact ⟨xs, by rw [h3, q1, q2], by omega, q3⟩
theorem rd_tensor : U.Reads Tryz.prog 26 fun vs => ∃ t : Tn, vs = [.sl t.shape.length (ints t.shape), .sl t.el.length (rawsC t.el)] ∧ TnOK t := by
  refine U.Reads.mono (U.Reads.struct (Qs := fun i vs => if i = 0 then ∃ xs : List Int, vs = [.sl xs.length (ints xs)] ∧ xs.length ≤ 1048576 ∧ ∀ x ∈ xs, (Lit.int .i64 x).wf = true else ∃ xs : List Raw, vs = [.sl xs.length (rawsC xs)] ∧ xs.length ≤ 1048576 ∧ ∀ x ∈ xs, RawOK x) a_laid (of_decide_eq_true (by kernel_rfl)) Tryz.underlying26 ?_) ?_
  · intro i f hf
    match i, hf with
    | 0, hf => cases hf; exact U.Reads.mono (rd_ints Tryz.underlying23) fun vs h => by rw [if_pos rfl]; exact h
    | 1, hf => cases hf; exact U.Reads.mono rd_rats fun vs h => by rw [if_neg (by decide)]; exact h
    | i + 2, hf => cases hf
  · rintro u ⟨l, hl, hq, rfl⟩
    match l, hl with
    | [a, b], _ =>
      have h0 := hq 0 (by decide)
      have h1 := hq 1 (by decide)
      obtain ⟨xs, rfl, hx, _⟩ := h0
      obtain ⟨ys, rfl, hy, hy2⟩ := h1
      exact ⟨⟨xs, ys⟩, rfl, by show xs.length ≤ _; omega, by show ys.length ≤ _; omega, hy2⟩
theorem arg_tensor : U.ArgV Tryz.prog 26 fun u => ∃ t : Tn, u = tnV t ∧ TnOK t :=
  U.ArgV.mono (U.ArgV.struct rd_tensor Tryz.underlying26) fun u ⟨vs, h1, t, h2, h3⟩ => ⟨t, by rw [h1, h2]; rfl, h3⟩
theorem arg_ints {t : Nat} (hu : Tryz.prog.underlying t = some (.slice 3)) : U.ArgV Tryz.prog t fun u => ∃ xs : List Int, u = .sl xs.length (ints xs) ∧ xs.length ≤ 1048576 ∧ ∀ x ∈ xs, (Lit.int .i64 x).wf = true :=
  U.ArgV.mono (U.ArgV.one (rd_ints hu) (by rw [hu])) fun u ⟨xs, h, h1, h2⟩ => ⟨xs, by simpa using h, h1, h2⟩
theorem args_ts {t : Nat} (hu : Tryz.prog.underlying t = some (.slice 3)) : U.ArgsV Tryz.prog [26, t] fun us => ∃ (x : Tn) (s : List Int), us = [tnV x, .sl s.length (ints s)] ∧ TnOK x ∧ s.length ≤ 1048576 ∧ ∀ x ∈ s, (Lit.int .i64 x).wf = true := by
  refine U.ArgsV.mono (U.ArgsV.cons arg_tensor (U.ArgsV.cons (arg_ints hu) U.ArgsV.nil)) ?_
  rintro us ⟨_, _, rfl, ⟨x, rfl, h1⟩, _, _, rfl, ⟨s, rfl, h2, h3⟩, rfl⟩
  exact ⟨x, s, rfl, h1, h2, h3⟩
end Go.Proofs.YtjdbdmhjakfldaaGreat
end
