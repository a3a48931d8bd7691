/-
  Parts Rf1, Rf2, Lw2, Rf3, Lw3, RowU, one behind the other: a program logic of our own, contracts of functions.
-/
import Derived.Test.YtjdbdmhjakfldaaGreatQ5

section
set_option linter.unusedSimpArgs false
set_option linter.unusedVariables false
set_option maxRecDepth 100000
set_option pp.maxSteps 1500
set_option maxHeartbeats 4000000
namespace Go.Proofs.YtjdbdmhjakfldaaGreat
open Go.Bv
theorem index09_spec (s : List Int) (z : Int) (hs : s.length ≤ 1000000000) (h1 : ∀ d ∈ s, 1 ≤ d) (h0 : 0 ≤ z) (hn : z ≤ 1000000000) (hb : prodL s ≤ 1000000) : Fc C 45 [.sl s.length (ints s), .int .i64 z] [] fun v H => Ret 3 1 H v (idxL s z).length (ints (idxL s z)) := by
  refine Fc.keep (Fc.bodyT mixed Tryz.func45 w45 rfl Tryz.ntmps45 Tryz.results45 (Nat.le_of_ble_eq_true rfl) ?_)
  (refine Go1.out ?_; repeat' ((with_reducible first | refine Go1.mk ?_ | ((first | apply Br.dec | apply Br.beq | apply Br.bne | apply Br.mk) <;> intro h)) <;> try simp -implicitDefEqProofs (maxSteps := 9000000) (disch := first | omega | (simp only [lens]; omega)) only [go_sem]))
  refine makew_k rfl rfl rfl rfl (by simp [t3bytes]) (by omega) ?_
  (refine Go1.out ?_; repeat' ((with_reducible first | refine Go1.mk ?_ | ((first | apply Br.dec | apply Br.beq | apply Br.bne | apply Br.mk) <;> intro h)) <;> try simp -implicitDefEqProofs (maxSteps := 9000000) (disch := first | omega | (simp only [lens]; omega)) only [go_sem]))
  refine TT_loop_inv (fun n ts H => ∃ (k : Nat), (k ≤ s.length) ∧ (n = s.length - k) ∧ (rowOf H 0 = some ⟨3, 1, ints (outK s z k)⟩) ∧ ts.length = 33 ∧ nth ts 0 = .sl s.length (ints s) ∧ nth ts 1 = .int .i64 (z / prodL (s.drop (s.length - k))) ∧ nth ts 5 = .ref 0 0 s.length ∧ nth ts 6 = .int .i64 ((s.length : Int) - 1 - k)) ?_ (n := s.length) ?_
  · skip
    rintro n ts H ⟨k, hk, hn2, h0r, hL, hs0, hs1, hs5, hs6⟩
    refine TT_env [(0, .sl s.length (ints s)), (1, .int .i64 (z / prodL (s.drop (s.length - k)))), (5, .ref 0 0 s.length), (6, .int .i64 ((s.length : Int) - 1 - k))] hL (by simp only [List.forall_mem_cons, hs0, hs1, hs5, hs6, true_and]; exact fun _ h => nomatch h) ?_
    clear hL hs0 hs1 hs5 hs6 ts
    refine TT_of mixed ?_
    by_cases hkl : k < s.length
    · have e1 : ((s.length : Int) - 1 - (k : Int)) = ((s.length - 1 - k : Nat) : Int) := by omega
      have hd := getD_pos h1 (i := s.length - 1 - k) (by omega)
      have hdu := getD_le_prodL h1 (i := s.length - 1 - k) (by omega)
      have hq0 : 0 ≤ z / prodL (s.drop (s.length - k)) := Int.ediv_nonneg (by omega) (by have := prodL_pos (l := s.drop (s.length - k)) fun d hd => h1 d (List.mem_of_mem_drop hd); omega)
      have hq1 : z / prodL (s.drop (s.length - k)) ≤ z := Int.ediv_le_self _ (by omega)
      have hst := outK_step (n := z) hkl
      have hnx := idx_next h1 (n := z) (i := s.length - 1 - k) (by omega)
      have hii : idxAt s z (s.length - 1 - k) = z / prodL (s.drop (s.length - k)) % s.getD (s.length - 1 - k) 0 := by
        rw [idxAt, show s.length - 1 - k + 1 = s.length - k by omega]
      rw [show s.length - 1 - k + 1 = s.length - k by omega] at hnx
      have hlen := outK_len s z k
      have hw : s.length - (k + 1) = s.length - 1 - k := by omega
      rw [hii] at hst
      have hm1 := Int.emod_nonneg (z / prodL (s.drop (s.length - k))) (show s.getD (s.length - 1 - k) 0 ≠ 0 by omega)
      have hm2 := Int.emod_lt_of_pos (z / prodL (s.drop (s.length - k))) (show 0 < s.getD (s.length - 1 - k) 0 by omega)
      have hdv := Int.ediv_le_self (a := z / prodL (s.drop (s.length - k))) (s.getD (s.length - 1 - k) 0) hq0
      have hdv0 := Int.ediv_nonneg hq0 (show 0 ≤ s.getD (s.length - 1 - k) 0 by omega)
      have hfin : z / prodL (s.drop (s.length - (k + 1))) = z / prodL (s.drop (s.length - k)) / s.getD (s.length - 1 - k) 0 := by rw [hw, hnx]
      generalize z / prodL (s.drop (s.length - k)) = q at *
      generalize hdd : s.getD (s.length - 1 - k) 0 = d at *
      (refine Go1.out ?_; repeat' ((with_reducible first | refine Go1.mk ?_ | ((first | apply Br.dec | apply Br.beq | apply Br.bne | apply Br.mk) <;> intro h)) <;> try simp -implicitDefEqProofs (maxSteps := 9000000) (disch := first | omega | (simp only [lens]; omega)) only [go_sem, e1, h0r, upd_ints, hst, hdd]))
      refine ⟨s.length - (k + 1), by omega, k + 1, by omega, rfl, rowOf_set_eq h0r, by rw [hfin], by congr 1; omega⟩
    · have hks : k = s.length := by omega
      subst hks
      (refine Go1.out ?_; repeat' ((with_reducible first | refine Go1.mk ?_ | ((first | apply Br.dec | apply Br.beq | apply Br.bne | apply Br.mk) <;> intro h)) <;> try simp -implicitDefEqProofs (maxSteps := 9000000) (disch := first | omega | (simp only [lens]; omega)) only [go_sem]))
      rw [outK_full] at h0r
      rw [idxL_len]
      exact Own.ret (.inr ⟨0, rfl, h0r, by simp [ints_length, idxL_len]⟩) (fun g => renL_ints g _) fun v H h => h
  · refine ⟨0, by omega, rfl, ?_, rfl, rfl, ?_, rfl, ?_⟩
    · rw [outK_zero, ← ints_zero]; rfl
    · rw [Nat.sub_zero, List.drop_length]
      show V.int .i64 z = _
      simp [prodL]
    · skip
      simp -implicitDefEqProofs (maxSteps := 9000000) (disch := first | omega | (simp only [lens]; omega)) only [go_sem]
      congr 1; omega
theorem offP_pre {s xs : List Int} {i : Nat} (hi : i ≤ s.length) (hI : ∀ j, j < i → 0 ≤ xs.getD j 0 ∧ xs.getD j 0 < s.getD j 0) : 0 ≤ offP s xs i ∧ offP s xs i < prodL (s.take i) := by
  have hh : ∀ (m : Nat), m ≤ i → 0 ≤ offP s xs m ∧ offP s xs m < prodL (s.take m) := fun m => by
    induction m with
    | zero => intro _; simp [offP, prodL]
    | succ m ih =>
      intro hm
      obtain ⟨h1, h2⟩ := ih (by omega)
      obtain ⟨h3, h4⟩ := hI m (by omega)
      rw [prodL_take (by omega), offP]
      have h5 : offP s xs m * s.getD m 0 ≤ (prodL (s.take m) - 1) * s.getD m 0 := Int.mul_le_mul_of_nonneg_right (by omega) (by omega)
      have h6 : 0 ≤ offP s xs m * s.getD m 0 := Int.mul_nonneg h1 (by omega)
      rw [Int.sub_mul, Int.one_mul] at h5
      omega
  exact hh i (Nat.le_refl _)
def atQ (q : Tq) (l : List Int) : Rq := if inB q.shape l = true then q.el.getD (offP q.shape l q.shape.length).toNat q0 else intQ 0
theorem at09_spec (q : Tq) (hq : TqOK q) (hm : mayP q.shape = 0) (he : (q.el.length : Int) = prodL q.shape) (l : List Int) (hl : l.length = q.shape.length) (hb : ∀ j, j < l.length → -1000000000 ≤ l.getD j 0 ∧ l.getD j 0 ≤ 1000000000) :
    Pu C 46 [tqV q, .sl l.length (ints l)] (refV (atQ q l)) := by
  obtain ⟨m1, m2, m3⟩ := mayP_zero hm
  have hs := hq.s
  have hel := hq.e
  refine Pu.ofBor (clo_refV _) ?_
  refine Fc.bodyT mixed Tryz.func46 w46 rfl Tryz.ntmps46 Tryz.results46 (Nat.le_of_ble_eq_true rfl) ?_
  (refine Go1.out ?_; repeat' ((with_reducible first | refine Go1.mk ?_ | ((first | apply Br.dec | apply Br.beq | apply Br.bne | apply Br.mk) <;> intro h)) <;> try simp -implicitDefEqProofs (maxSteps := 9000000) (disch := first | omega | (simp only [lens]; omega)) only [go_sem]))
  refine TT_loop_inv (fun n ts H => ∃ (i : Nat), (i ≤ l.length) ∧ ((∀ j, j < i → 0 ≤ l.getD j 0 ∧ l.getD j 0 < q.shape.getD j 0)) ∧ (n = l.length - i) ∧ (rowOf H 0 = some ⟨34, 2, [.sl q.shape.length (ints q.shape), .sl q.el.length (refsC q.el)]⟩) ∧ (rowOf H 1 = some ⟨72, 3, [.bool false, .nil, .nil]⟩) ∧ ts.length = 48 ∧ nth ts 1 = .sl l.length (ints l) ∧ nth ts 2 = .ptr 0 0 ∧ nth ts 4 = .ptr 1 0 ∧ nth ts 5 = .int .i64 (offP q.shape l i) ∧ nth ts 6 = .int .i64 (i : Nat)) ?_ (n := l.length) ?_
  · skip
    rintro n ts H ⟨i, hi, hI, hn, h0, h1, hL, hs1, hs2, hs4, hs5, hs6⟩
    refine TT_env [(1, .sl l.length (ints l)), (2, .ptr 0 0), (4, .ptr 1 0), (5, .int .i64 (offP q.shape l i)), (6, .int .i64 (i : Nat))] hL (by simp only [List.forall_mem_cons, hs1, hs2, hs4, hs5, hs6, true_and]; exact fun _ h => nomatch h) ?_
    clear hL hs1 hs2 hs4 hs5 hs6 ts
    refine TT_of mixed ?_
    have hst : ∀ z : Row, rowOf (H.set 1 (some z)) 1 = some z := fun z => rowOf_set_eq h1
    by_cases hcase : i < l.length
    · have hsi := getD_pos m2 (i := i) (by omega)
      have hsu := getD_le_prodL m2 (i := i) (by omega)
      have hpl := prodL_le m2 i
      have hbi := hb i hcase
      have hoff : 0 ≤ offP q.shape l i ∧ offP q.shape l i < prodL (q.shape.take i) := offP_pre (by omega) hI
      have hmul : 0 ≤ offP q.shape l i * q.shape.getD i 0 ∧ offP q.shape l i * q.shape.getD i 0 ≤ 1048576 := by
        refine ⟨Int.mul_nonneg hoff.1 (by omega), ?_⟩
        have := Int.mul_le_mul (show offP q.shape l i ≤ 1024 by omega) (show q.shape.getD i 0 ≤ 1024 by omega) (by omega) (by decide)
        omega
      by_cases hin : 0 ≤ l.getD i 0 ∧ l.getD i 0 < q.shape.getD i 0
      · have e : offP q.shape l (i + 1) = offP q.shape l i * q.shape.getD i 0 + l.getD i 0 := rfl
        have hI' : ∀ j, j < i + 1 → 0 ≤ l.getD j 0 ∧ l.getD j 0 < q.shape.getD j 0 := allS hI hin
        generalize hqq : offP q.shape l i * q.shape.getD i 0 = qq at *
        generalize offP q.shape l i = o at *
        generalize hd : q.shape.getD i 0 = d at *
        generalize hxx : l.getD i 0 = x at *
        (refine Go1.out ?_; repeat' ((with_reducible first | refine Go1.mk ?_ | ((first | apply Br.dec | apply Br.beq | apply Br.bne | apply Br.mk) <;> intro h)) <;> try simp -implicitDefEqProofs (maxSteps := 9000000) (disch := first | omega | (simp only [lens]; omega)) only [go_sem, h0, hqq, hd, hxx]))
        refine ⟨l.length - (i + 1), by omega, i + 1, by omega, hI', rfl, h1, by rw [e], by congr 1⟩
      · have hno : inB q.shape l = false := by
          rw [Bool.eq_false_iff]
          intro hh
          exact hin (inB_iff.1 hh i (by omega))
        have hat : atQ q l = intQ 0 := by rw [atQ, if_neg (by rw [hno]; decide)]
        rw [hat]
        (refine Go1.out ?_; repeat' ((with_reducible first | refine Go1.mk ?_ | ((first | apply Br.dec | apply Br.beq | apply Br.bne | apply Br.mk) <;> intro h)) <;> try simp -implicitDefEqProofs (maxSteps := 9000000) (disch := first | omega | (simp only [lens]; omega)) only [go_sem, h0]))
        all_goals (refine (int03_spec 0 (by decide) (by decide)).call ⟨.self rfl, trivial⟩ (clo_refV _) ?_)
        all_goals (refine Go1.out ?_; repeat' ((with_reducible first | refine Go1.mk ?_ | ((first | apply Br.dec | apply Br.beq | apply Br.bne | apply Br.mk) <;> intro h)) <;> try simp -implicitDefEqProofs (maxSteps := 9000000) (disch := first | omega | (simp only [lens]; omega)) only [go_sem, h1, hst]))
        all_goals exact .self (clo_refV _)
    · have hil : i = q.shape.length := by omega
      have hyes : inB q.shape l = true := inB_iff.2 fun j hj => hI j (by omega)
      have hlt := offP_lt (inB_iff.1 hyes) q.shape.length (Nat.le_refl _)
      rw [List.take_length] at hlt
      obtain ⟨o, ho⟩ : ∃ o : Nat, offP q.shape l q.shape.length = o := ⟨(offP q.shape l q.shape.length).toNat, by omega⟩
      have hat : atQ q l = q.el.getD o q0 := by rw [atQ, if_pos hyes, ho]; rfl
      rw [hat]
      subst hil
      rw [ho] at hlt ⊢
      have hoe : o < q.el.length := by omega
      (refine Go1.out ?_; repeat' ((with_reducible first | refine Go1.mk ?_ | ((first | apply Br.dec | apply Br.beq | apply Br.bne | apply Br.mk) <;> intro h)) <;> try simp -implicitDefEqProofs (maxSteps := 9000000) (disch := first | omega | (simp only [lens]; omega)) only [go_sem, h0, h1, hst]))
      exact .self (clo_refV _)
  · exact ⟨0, by omega, fun j hj => by omega, rfl, rfl, rfl, rfl, rfl, rfl, rfl, rfl, rfl⟩
end Go.Proofs.YtjdbdmhjakfldaaGreat
end
section
set_option linter.unusedSimpArgs false
set_option linter.unusedVariables false
set_option maxRecDepth 100000
set_option pp.maxSteps 1500
set_option maxHeartbeats 4000000
namespace Go.Proofs.YtjdbdmhjakfldaaGreat
open Go.Bv
def elsQ (q : Tq) (S : List Int) (g : List Int → List Int) (N : Nat) : List Rq := (List.range N).map fun i => atQ q (g (idxL S (i : Nat)))
theorem elsQ_len (q : Tq) (S : List Int) (g : List Int → List Int) (N : Nat) : (elsQ q S g N).length = N := by simp [elsQ]
theorem elsQ_succ (q : Tq) (S : List Int) (g : List Int → List Int) (N : Nat) : elsQ q S g (N + 1) = elsQ q S g N ++ [atQ q (g (idxL S (N : Nat)))] := by simp [elsQ, List.range_succ]
theorem refsC_app (xs : List Rq) (x : Rq) : refsC (xs ++ [x]) = refsC xs ++ [.bool x.neg, DV x.num, DV x.den] := by rw [refsC, flat3_append]; rfl
theorem refsC_scal (xs : List Rq) : (refsC xs).all scal = true := by
  induction xs with
  | nil => rfl
  | cons x xs ih => simp only [refsC, flat3_cons, List.all_cons] at ih ⊢; rw [ih]; rfl
theorem push_ref {y : Ty} {e e' s' i : Nat} {H : Heap} {v : V} {xs : List Rq} {x : Rq} {K : V → Heap → Prop} (h : Bv.Own e 3 H v i (refsC xs)) (hy : y.size = 3) (hby : y.bytes = 56) (hn : i + 1 ≤ 1000000000)
    (hK : ∀ v' H', Bv.Own e 3 H' v' (i + 1) (refsC (xs ++ [x])) → Fr v H H' → kn v' = true ∧ cellsOf v' = [v'] ∧ scal v' = true → K v' H') :
    appw y e v (.ref H.length 0 1) (H ++ [some ⟨e', s', [.bool x.neg, DV x.num, DV x.den]⟩]) K := by
  rw [← hy] at h
  refine app_lit2 h (by rw [hy]; rfl) (by simp [scal, DV, DA]) (by omega) (by omega) (by rw [hby]; omega) (refsC_scal _) fun H' k1 k2 k3 => ?_
  rw [hy] at k1
  exact hK _ H' (by rw [refsC_app]; exact k1) k2 ⟨rfl, rfl, rfl⟩
structure FitQ (q : Tq) : Prop where
  ok : TqOK q
  m : mayP q.shape = 0
  l : (q.el.length : Int) = prodL q.shape
theorem Fc.ownF {C : Ctx} {f : FuncId} {args args' : List V} {H : Heap} {K : V → Heap → Prop} {e s n : Nat} {cs : List V} (h : Fc C f args' [] fun v H => Ret e s H v n cs) (hb : BorL H args args') (hc : ∀ g, renL g cs = cs) (hp : plainL cs = true) (hK : ∀ v X, Bv.Own e s (H ++ X) v n cs → (∀ r off m, v = .ref r off m → H.length ≤ r) → K v (H ++ X)) : Fc C f args H K :=
  h.borrow hb.all.1 hb.all.2 (fun v H' hv => hv.plain hp) fun v H' hv => hK _ _ (hv.own hc) (by
    rcases hv with ⟨rfl, _⟩ | ⟨rfl, _⟩
    · intro r off m e; cases e
    · intro r off m e
      simp only [ren, shift, Option.map_some, Option.some.injEq] at e
      injection e with e
      omega)
theorem own_far {e s : Nat} {H : Heap} {v : V} {n q : Nat} {cs : List V} {z : Option Row} (h : Bv.Own e s H v n cs) (hne : ∀ r off m, v = .ref r off m → r ≠ q) : Bv.Own e s (H.set q z) v n cs := by
  rcases h with h | ⟨r, h, hr, hl⟩
  · exact .inl h
  · exact .inr ⟨r, h, by rw [rowOf_set_ne _ (Ne.symm (hne r 0 n h))]; exact hr, hl⟩
theorem at09_nil (q : Tq) (hq : FitQ q) (h : q.shape = []) : Pu C 46 [tqV q, .nil] (refV (atQ q [])) := by
  have hel := hq.l
  rw [h] at hel
  have he1 : q.el.length = 1 := by have : prodL [] = 1 := rfl; omega
  have hat : atQ q [] = q.el.getD 0 q0 := by rw [atQ, h]; rfl
  have hlt : 0 < q.el.length := by omega
  rw [hat]
  refine Pu.ofBor (clo_refV _) ?_
  refine Fc.bodyT mixed Tryz.func46 w46 rfl Tryz.ntmps46 Tryz.results46 (Nat.le_of_ble_eq_true rfl) ?_
  (refine Go1.out ?_; repeat' ((with_reducible first | refine Go1.mk ?_ | ((first | apply Br.dec | apply Br.beq | apply Br.bne | apply Br.mk) <;> intro h)) <;> try simp -implicitDefEqProofs (maxSteps := 9000000) (disch := first | omega | (simp only [lens]; omega)) only [go_sem]))
  refine TT_loop ?_
  refine TT_of mixed ?_
  have z0 : nth (refsC q.el) 0 = .bool (q.el.getD 0 q0).neg := by simpa using nth_refs0 q.el 0 hlt
  have z1 : nth (refsC q.el) 1 = DV (q.el.getD 0 q0).num := by simpa using nth_refs1 q.el 0 hlt
  have z2 : nth (refsC q.el) 2 = DV (q.el.getD 0 q0).den := by simpa using nth_refs2 q.el 0 hlt
  (refine Go1.out ?_; repeat' ((with_reducible first | refine Go1.mk ?_ | ((first | apply Br.dec | apply Br.beq | apply Br.bne | apply Br.mk) <;> intro h)) <;> try simp -implicitDefEqProofs (maxSteps := 9000000) (disch := first | omega | (simp only [lens]; omega)) only [go_sem, z0, z1, z2]))
  exact .self (clo_refV _)
end Go.Proofs.YtjdbdmhjakfldaaGreat
end
section
set_option linter.unusedSimpArgs false
set_option linter.unusedVariables false
set_option maxRecDepth 100000
set_option pp.maxSteps 1500
set_option maxHeartbeats 4000000
namespace Go.Proofs.YtjdbdmhjakfldaaGreat
open Go.Bv
theorem ofT_fit {t : Tn} (ht : TnOK t) : FitQ (ofT t) := by
  refine ⟨ofT_ok ht, ?_, ?_⟩
  · by_cases hm : mayT t = 0
    · rw [ofT, if_neg (by omega)]; exact (mayT_zero hm).2.1
    · rw [ofT, if_pos hm]; rfl
  · by_cases hm : mayT t = 0
    · rw [ofT, if_neg (by omega)]
      have := (mayT_zero hm).2.2
      simpa [tnOf] using this
    · rw [ofT, if_pos hm]; rfl
theorem back_of {t : Tn} (hm : mayT t = 0) : tnBack (tnOf t) = t := by
  have hf := (mayT_zero hm).1
  rw [mayT, if_neg (by omega)] at hm
  have ha : t.el.all okR = true := by
    cases h : t.el.all okR with
    | true => rfl
    | false => rw [h] at hm; simp at hm
  obtain ⟨s, el⟩ := t
  show (⟨s, (el.map valQ).map rawOf⟩ : Tn) = ⟨s, el⟩
  congr 1
  rw [List.map_map]
  exact (List.map_congr_left fun x hx => (isQ_iff.1 (List.all_eq_true.1 ha x hx)).symm).trans (List.map_id _)
theorem atG_atQ (q : Tq) (hm : mayP q.shape = 0) (l : List Int) (hl : l.length = q.shape.length) : atG q l = atQ q l := by
  rw [atG, atQ]
  cases hb : inB q.shape l with
  | true =>
    have hz : offE q.shape l = 0 := by rw [offE, if_neg (by omega), if_neg (by omega), if_pos hb]
    rw [if_pos hz, if_pos rfl, offN, if_pos hz]
  | false =>
    have hz : ¬ offE q.shape l = 0 := by rw [offE, if_neg (by omega), if_neg (by omega), if_neg (by rw [hb]; decide)]; decide
    rw [if_neg hz, if_neg (by decide)]
theorem mv_isT {t : Tn} (hm : mayT t = 0) (S : List Int) (g : List Int → List Int) (hg : ∀ i : Nat, (g (idxL S (i : Nat))).length = t.shape.length) : isT ⟨S, elsQ (tnOf t) S g (prodL S).toNat⟩ (mvT t S g) = true := by
  have hmp := (mayT_zero hm).2.1
  have hel := (mayT_zero hm).2.2
  have e := mvT_back (tnOf t) (fun r hr => by
    simp only [tnOf, List.mem_map] at hr
    obtain ⟨x, _, rfl⟩ := hr
    exact nm_val x) (by simpa [tnOf] using hel) S g
  rw [back_of hm] at e
  rw [e]
  have : (⟨S, elsQ (tnOf t) S g (prodL S).toNat⟩ : Tq) = mvQ (tnOf t) S g := by
    rw [mvQ, elsQ]
    congr 1
    exact List.map_congr_left fun i _ => (atG_atQ (tnOf t) hmp _ (hg i)).symm
  rw [this]
  exact isT_back _
theorem elsQ_ok {q : Tq} (hq : TqOK q) {S : List Int} {g : List Int → List Int} {N : Nat} (hS : S.length ≤ 1000000000) (hN : N ≤ 1000000000) : TqOK ⟨S, elsQ q S g N⟩ := ⟨hS, by simpa [elsQ_len] using hN, fun x hx => by
  simp only [elsQ, List.mem_map] at hx
  obtain ⟨i, _, rfl⟩ := hx
  rw [atQ]
  split
  · rw [List.getD]
    cases h : q.el[(offP q.shape (g (idxL S (i : Nat))) q.shape.length).toNat]? with
    | none => exact intQ_ok 0 (by decide)
    | some r => exact hq.r r (List.mem_of_getElem? h)
  · exact intQ_ok 0 (by decide)⟩
end Go.Proofs.YtjdbdmhjakfldaaGreat
end
section
set_option linter.unusedSimpArgs false
set_option linter.unusedVariables false
set_option maxRecDepth 100000
set_option pp.maxSteps 1500
set_option maxHeartbeats 4000000
namespace Go.Proofs.YtjdbdmhjakfldaaGreat
open Go.Bv
def pdF (q : Tq) (l : List Int) : Int := if l.length ≠ 2 * q.shape.length then 11 else if negB l = true then 11 else if padsIn l q.shape.length = false then 14 else if prodP (padS l q.shape q.shape.length) > 1024 then 14 else 0
def pdQ (q : Tq) (l : List Int) : Tq := errQ ⟨padS l q.shape q.shape.length, elsQ q (padS l q.shape q.shape.length) (subL l) (prodL (padS l q.shape q.shape.length)).toNat⟩ (pdF q l)
theorem pad09_spec (q : Tq) (hq : FitQ q) (l : List Int) (hl : l.length ≤ 1000000000) : Pu C 23 [tqV q, .sl l.length (ints l)] (.tup [tqV (pdQ q l), .int .i64 (pdF q l)]) := by
  obtain ⟨m1, m2, m3⟩ := mayP_zero hq.m
  have hel := hq.l
  refine Pu.ofBor (clo_ans _ _) ?_
  unfold pdQ
  refine Fc.bodyT mixed Tryz.func23 w23 rfl Tryz.ntmps23 Tryz.results23 (Nat.le_of_ble_eq_true rfl) ?_
  (refine Go1.out ?_; repeat' ((with_reducible first | refine Go1.mk ?_ | ((first | apply Br.dec | apply Br.beq | apply Br.bne | apply Br.mk) <;> intro h)) <;> try simp -implicitDefEqProofs (maxSteps := 9000000) (disch := first | omega | (simp only [lens]; omega)) only [go_sem]))
  · exact bor_no (by rw [pdF, if_pos (by omega)]) (by decide)
  have hll : l.length = 2 * q.shape.length := by omega
  refine TT_loop_inv (fun n ts H => ∃ (k : Nat), (k ≤ l.length) ∧ ((∀ j, j < k → ¬ l.getD j 0 < 0)) ∧ (n = l.length - k) ∧ (H = [some ⟨34, 2, [.sl q.shape.length (ints q.shape), .sl q.el.length (refsC q.el)]⟩, some ⟨34, 2, [.nil, .nil]⟩]) ∧ ts.length = 123 ∧ nth ts 1 = .sl l.length (ints l) ∧ nth ts 2 = .ptr 0 0 ∧ nth ts 4 = .ptr 1 0 ∧ nth ts 6 = .int .i64 (k : Nat)) ?_ (n := l.length) ?_
  · skip
    rintro n ts H ⟨k, hk, hI, hn, hH, hL, hs1, hs2, hs4, hs6⟩
    refine TT_env [(1, .sl l.length (ints l)), (2, .ptr 0 0), (4, .ptr 1 0), (6, .int .i64 (k : Nat))] hL (by simp only [List.forall_mem_cons, hs1, hs2, hs4, hs6, true_and]; exact fun _ h => nomatch h) ?_
    clear hL hs1 hs2 hs4 hs6 ts
    refine TT_of mixed ?_
    subst hH
    by_cases hkl : k < l.length
    · by_cases hc : ¬ l.getD k 0 < 0
      · skip
        (refine Go1.out ?_; repeat' ((with_reducible first | refine Go1.mk ?_ | ((first | apply Br.dec | apply Br.beq | apply Br.bne | apply Br.mk) <;> intro h)) <;> try simp -implicitDefEqProofs (maxSteps := 9000000) (disch := first | omega | (simp only [lens]; omega)) only [go_sem]))
        exact ⟨l.length - (k + 1), by omega, k + 1, by omega, allS hI hc, rfl, (by (repeat' apply And.intro) <;> (first | rfl | omega | (congr 1; omega) | assumption | (congr 1; assumption)))⟩
      · have hno : negB l = true := by
          cases hb : negB l with
          | true => rfl
          | false => exact absurd (negB_getD.1 hb k hkl) hc
        have hE : pdF q l = 11 := by rw [pdF, if_neg (by omega), if_pos hno]
        (refine Go1.out ?_; repeat' ((with_reducible first | refine Go1.mk ?_ | ((first | apply Br.dec | apply Br.beq | apply Br.bne | apply Br.mk) <;> intro h)) <;> try simp -implicitDefEqProofs (maxSteps := 9000000) (disch := first | omega | (simp only [lens]; omega)) only [go_sem]))
        all_goals exact bor_no hE (by decide)
    · have hks : k = l.length := by omega
      subst hks
      have hyes : negB l = false := negB_getD.2 hI
      (refine Go1.out ?_; repeat' ((with_reducible first | refine Go1.mk ?_ | ((first | apply Br.dec | apply Br.beq | apply Br.bne | apply Br.mk) <;> intro h)) <;> try simp -implicitDefEqProofs (maxSteps := 9000000) (disch := first | omega | (simp only [lens]; omega)) only [go_sem]))
      refine TT_loop_inv (fun n ts H => ∃ (k : Nat) (u : V), (k ≤ q.shape.length) ∧ ((∀ j, j < k → l.getD (2 * j) 0 ≤ 1024 ∧ l.getD (2 * j + 1) 0 ≤ 1024)) ∧ (n = q.shape.length - k) ∧ (rowOf H 0 = some ⟨34, 2, [.sl q.shape.length (ints q.shape), .sl q.el.length (refsC q.el)]⟩) ∧ (rowOf H 1 = some ⟨34, 2, [.nil, .nil]⟩) ∧ (rowOf H 2 = some ⟨34, 2, [u, .nil]⟩) ∧ (Bv.Own 3 1 H u k (ints (padS l q.shape k))) ∧ ts.length = 123 ∧ nth ts 1 = .sl l.length (ints l) ∧ nth ts 2 = .ptr 0 0 ∧ nth ts 4 = .ptr 1 0 ∧ nth ts 7 = .ptr 2 0 ∧ nth ts 8 = .int .i64 (k : Nat)) ?_ (n := q.shape.length) ?_
      · skip
        rintro n ts H ⟨k, u, hk, hJ, hn, h0, h1, h2, hu, hL, hs1, hs2, hs4, hs7, hs8⟩
        refine TT_env [(1, .sl l.length (ints l)), (2, .ptr 0 0), (4, .ptr 1 0), (7, .ptr 2 0), (8, .int .i64 (k : Nat))] hL (by simp only [List.forall_mem_cons, hs1, hs2, hs4, hs7, hs8, true_and]; exact fun _ h => nomatch h) ?_
        clear hL hs1 hs2 hs4 hs7 hs8 ts
        refine TT_of mixed ?_
        have hst : ∀ z : Row, rowOf (H.set 1 (some z)) 1 = some z := fun z => rowOf_set_eq h1
        by_cases hkl : k < q.shape.length
        · have hn0 := hI (2 * k) (by omega)
          have hn1 := hI (2 * k + 1) (by omega)
          have hsd := getD_le_prodL m2 hkl
          have hsp := getD_pos m2 hkl
          by_cases hc : l.getD (2 * k) 0 ≤ 1024 ∧ l.getD (2 * k + 1) 0 ≤ 1024
          · have hlv := hu.lenw (C.ty 22)
            (refine Go1.out ?_; repeat' ((with_reducible first | refine Go1.mk ?_ | ((first | apply Br.dec | apply Br.beq | apply Br.bne | apply Br.mk) <;> intro h)) <;> try simp -implicitDefEqProofs (maxSteps := 9000000) (disch := first | omega | (simp only [lens]; omega)) only [go_sem, h0, h2, hlv]))
            refine app_int (xs := padS l q.shape k) (by rw [padS, tabI_len]; exact hu) rfl ⟨by decide, by decide⟩ (by rw [padS, tabI_len]; omega) fun v' H' hu' hF => ?_
            have d0 := fr_keep hu hF h0 (by decide)
            have d1 := fr_keep hu hF h1 (by decide)
            have d2 := fr_keep hu hF h2 (by decide)
            have hk' : kn v' = true ∧ cellsOf v' = [v'] ∧ scal v' = true := by rcases hu' with ⟨rfl, _⟩ | ⟨r, rfl, _⟩ <;> exact ⟨rfl, rfl, rfl⟩
            obtain ⟨k1, k2, k3⟩ := hk'
            (refine Go1.out ?_; repeat' ((with_reducible first | refine Go1.mk ?_ | ((first | apply Br.dec | apply Br.beq | apply Br.bne | apply Br.mk) <;> intro h)) <;> try simp -implicitDefEqProofs (maxSteps := 9000000) (disch := first | omega | (simp only [lens]; omega)) only [go_sem, d2, k1, k2, k3]))
            have hst2 : ∀ z : Row, rowOf (H'.set 2 (some z)) 2 = some z := fun z => rowOf_set_eq d2
            rw [show padS l q.shape k ++ [l.getD (2 * k) 0 + q.shape.getD k 0 + l.getD (2 * k + 1) 0] = padS l q.shape (k + 1) from (tabI_succ _ _).symm, show (padS l q.shape (k + 1)).length = k + 1 from tabI_len _ _] at hu'
            exact ⟨q.shape.length - (k + 1), by omega, k + 1, v', by omega, allS hJ hc, rfl, by rw [rowOf_set_ne _ (by decide)]; exact d0, by rw [rowOf_set_ne _ (by decide)]; exact d1, hst2 _, own_set hu' d2 (by decide), (by (repeat' apply And.intro) <;> (first | rfl | omega | (congr 1; omega) | assumption | (congr 1; assumption)))⟩
          · have hno : padsIn l q.shape.length = false := by
              rw [Bool.eq_false_iff]
              exact fun hh => hc (padsIn_iff.1 hh k hkl)
            have hE : pdF q l = 14 := by rw [pdF, if_neg (by omega), if_neg (by rw [hyes]; decide), if_pos hno]
            (refine Go1.out ?_; repeat' ((with_reducible first | refine Go1.mk ?_ | ((first | apply Br.dec | apply Br.beq | apply Br.bne | apply Br.mk) <;> intro h)) <;> try simp -implicitDefEqProofs (maxSteps := 9000000) (disch := first | omega | (simp only [lens]; omega)) only [go_sem, h0, h1, h2, hst]))
            all_goals exact bor_no hE (by decide)
        · have hks : k = q.shape.length := by omega
          subst hks
          have hin : padsIn l q.shape.length = true := padsIn_iff.2 hJ
          have hSl : (padS l q.shape q.shape.length).length = q.shape.length := tabI_len _ _
          have hSg : ∀ j, j < q.shape.length → (padS l q.shape q.shape.length).getD j 0 = l.getD (2 * j) 0 + q.shape.getD j 0 + l.getD (2 * j + 1) 0 := fun j hj => tabI_get hj
          have hS1 : ∀ d ∈ padS l q.shape q.shape.length, 1 ≤ d := all_getD.2 fun j hj => by
            have h1 := hI (2 * j) (by omega)
            have h2 := hI (2 * j + 1) (by omega)
            have h3 := getD_pos m2 (i := j) (by omega)
            rw [hSg j (by omega)]; omega
          have hct := count09_spec (padS l q.shape q.shape.length) (by omega) hS1
          have hus : Bv.Own 3 1 H u (padS l q.shape q.shape.length).length (ints (padS l q.shape q.shape.length)) := by rw [hSl]; exact hu
          (refine Go1.out ?_; repeat' ((with_reducible first | refine Go1.mk ?_ | ((first | apply Br.dec | apply Br.beq | apply Br.bne | apply Br.mk) <;> intro h)) <;> try simp -implicitDefEqProofs (maxSteps := 9000000) (disch := first | omega | (simp only [lens]; omega)) only [go_sem, h0, h2]))
          refine (Val.ofPu hct rfl rfl).call ⟨hus.bor' (cloL_ints _), trivial⟩ rfl ?_
          by_cases hbig : prodL (padS l q.shape q.shape.length) > 1024
          · have hpp : prodP (padS l q.shape q.shape.length) = 1025 := by rw [prodP, if_pos hbig]
            have hE : pdF q l = 14 := by rw [pdF, if_neg (by omega), if_neg (by rw [hyes]; decide), if_neg (by rw [hin]; decide), hpp]; rfl
            rw [hpp]
            (refine Go1.out ?_; repeat' ((with_reducible first | refine Go1.mk ?_ | ((first | apply Br.dec | apply Br.beq | apply Br.bne | apply Br.mk) <;> intro h)) <;> try simp -implicitDefEqProofs (maxSteps := 9000000) (disch := first | omega | (simp only [lens]; omega)) only [go_sem, h1, hst]))
            exact bor_no hE (by decide)
          have hSp : prodL (padS l q.shape q.shape.length) ≤ 1024 := by omega
          have hpp : prodP (padS l q.shape q.shape.length) = prodL (padS l q.shape q.shape.length) := by rw [prodP, if_neg (by omega)]
          have hE : pdF q l = 0 := by rw [pdF, if_neg (by omega), if_neg (by rw [hyes]; decide), if_neg (by rw [hin]; decide), hpp, if_neg (by omega)]
          rw [errQ_ok hE, hE]
          have hpos := prodL_pos hS1
          rw [hpp]
          have hx : ∀ (i : Nat) j, j < q.shape.length → 0 ≤ (idxL (padS l q.shape q.shape.length) (i : Nat)).getD j 0 ∧ (idxL (padS l q.shape q.shape.length) (i : Nat)).getD j 0 ≤ 1024 := fun i j hj => by
            have h3 := idxL_in hS1 (i : Nat) j (by omega)
            have h4 := getD_le_prodL hS1 (i := j) (by omega)
            omega
          have hcb : ∀ j, j < q.shape.length → 0 ≤ l.getD (2 * j) 0 ∧ l.getD (2 * j) 0 ≤ 1024 := fun j hj => by
            have h1 := hI (2 * j) (by omega)
            have h2 := hJ j (by omega)
            omega
          have hal : ∀ (i : Nat), subL l (idxL (padS l q.shape q.shape.length) (i : Nat)) = doneL (fun j => (idxL (padS l q.shape q.shape.length) (i : Nat)).getD j 0 - l.getD (2 * j) 0) (idxL (padS l q.shape q.shape.length) (i : Nat)) q.shape.length := fun i => by
            have := doneL_full (fun j => (idxL (padS l q.shape q.shape.length) (i : Nat)).getD j 0 - l.getD (2 * j) 0) (idxL (padS l q.shape q.shape.length) (i : Nat))
            rw [idxL_len, hSl] at this
            rw [this, subL, idxL_len, hSl]
          obtain ⟨N, hN⟩ : ∃ N : Nat, (N : Int) = prodL (padS l q.shape q.shape.length) := ⟨(prodL (padS l q.shape q.shape.length)).toNat, by omega⟩
          have hNN : (prodL (padS l q.shape q.shape.length)).toNat = N := by omega
          rw [hNN]
          rw [hpp, ← hN] at hct
          have hix : ∀ i : Nat, i < N → _ := fun i hi => index09_spec (padS l q.shape q.shape.length) (i : Nat) (by omega) hS1 (by omega) (by omega) (by omega)
          clear hu
          have hu := hus
          clear hus
          generalize hSS : padS l q.shape q.shape.length = S at *
          (refine Go1.out ?_; repeat' ((with_reducible first | refine Go1.mk ?_ | ((first | apply Br.dec | apply Br.beq | apply Br.bne | apply Br.mk) <;> intro h)) <;> try simp -implicitDefEqProofs (maxSteps := 9000000) (disch := first | omega | (simp only [lens]; omega)) only [go_sem, h0]))
          refine TT_loop_inv (fun n ts H => ∃ (i : Nat) (w : V), (i ≤ N) ∧ (n = N - i) ∧ (rowOf H 0 = some ⟨34, 2, [.sl q.shape.length (ints q.shape), .sl q.el.length (refsC q.el)]⟩) ∧ (rowOf H 1 = some ⟨34, 2, [.nil, .nil]⟩) ∧ (rowOf H 2 = some ⟨34, 2, [u, w]⟩) ∧ (Bv.Own 3 1 H u S.length (ints S)) ∧ (Bv.Own 72 3 H w i (refsC (elsQ q S (subL l) i))) ∧ ts.length = 123 ∧ nth ts 1 = .sl l.length (ints l) ∧ nth ts 2 = .ptr 0 0 ∧ nth ts 4 = .ptr 1 0 ∧ nth ts 7 = .ptr 2 0 ∧ nth ts 9 = .int .i64 (i : Nat)) ?_ (n := N) ?_
          · skip
            rintro n ts H ⟨i, w, hi, hn, h0, h1, h2, hu, hw, hL, hs1, hs2, hs4, hs7, hs9⟩
            refine TT_env [(1, .sl l.length (ints l)), (2, .ptr 0 0), (4, .ptr 1 0), (7, .ptr 2 0), (9, .int .i64 (i : Nat))] hL (by simp only [List.forall_mem_cons, hs1, hs2, hs4, hs7, hs9, true_and]; exact fun _ h => nomatch h) ?_
            clear hL hs1 hs2 hs4 hs7 hs9 ts
            refine TT_of mixed ?_
            (refine Go1.out ?_; repeat' ((with_reducible first | refine Go1.mk ?_ | ((first | apply Br.dec | apply Br.beq | apply Br.bne | apply Br.mk) <;> intro h)) <;> try simp -implicitDefEqProofs (maxSteps := 9000000) (disch := first | omega | (simp only [lens]; omega)) only [go_sem, h2]))
            refine (Val.ofPu hct rfl rfl).call ⟨hu.bor' (cloL_ints _), trivial⟩ rfl ?_
            by_cases hcase : i < N
            · skip
              (refine Go1.out ?_; repeat' ((with_reducible first | refine Go1.mk ?_ | ((first | apply Br.dec | apply Br.beq | apply Br.bne | apply Br.mk) <;> intro h)) <;> try simp -implicitDefEqProofs (maxSteps := 9000000) (disch := first | omega | (simp only [lens]; omega)) only [go_sem, h2]))
              refine Fc.ownF (hix i hcase) ⟨hu.bor' (cloL_ints _), .self rfl, trivial⟩ (fun g => renL_ints g _) (plainL_ints _) fun v X hv hvr => ?_
              have hk' : kn v = true ∧ cellsOf v = [v] ∧ scal v = true := by rcases hv with ⟨rfl, _⟩ | ⟨r, rfl, _⟩ <;> exact ⟨rfl, rfl, rfl⟩
              obtain ⟨k1, k2, k3⟩ := hk'
              have hlt := rowOf_lt h2
              have hvr' : ∀ r off m, v = .ref r off m → 3 ≤ r := fun r off m e => by have := hvr r off m e; omega
              have hul : ∀ r off m, u = .ref r off m → r < H.length := fun r off m e => by
                rcases hu with ⟨rfl, _⟩ | ⟨q, rfl, hq, _⟩
                · cases e
                · injection e with e; subst e; exact rowOf_lt hq
              have hne : ∀ r off m, v = .ref r off m → ∀ r' off' m', u = .ref r' off' m' → r ≠ r' := fun r off m e r' off' m' e' => by
                have h1 := hvr r off m e
                have h2 := hul r' off' m' e'
                omega
              have b0 := rowOf_keep h0 X
              have b1 := rowOf_keep h1 X
              have b2 := rowOf_keep h2 X
              have bu := hu.keep X
              have bw := hw.keep X
              rw [idxL_len] at hv
              have hlx : (idxL S (i : Nat)).length = S.length := idxL_len _ _
              have hxi := hx i
              have hali := hal i
              generalize hxe : idxL S (i : Nat) = x at *
              (refine Go1.out ?_; repeat' ((with_reducible first | refine Go1.mk ?_ | ((first | apply Br.dec | apply Br.beq | apply Br.bne | apply Br.mk) <;> intro h)) <;> try simp -implicitDefEqProofs (maxSteps := 9000000) (disch := first | omega | (simp only [lens]; omega)) only [go_sem, b2, k1, k2, k3]))
              clear hvr hul
              generalize H ++ X = H5 at *
              subst hn
              refine TT_loop_inv (fun n ts H => ∃ (k : Nat), (k ≤ S.length) ∧ (n = S.length - k) ∧ (rowOf H 0 = some ⟨34, 2, [.sl q.shape.length (ints q.shape), .sl q.el.length (refsC q.el)]⟩) ∧ (rowOf H 1 = some ⟨34, 2, [.nil, .nil]⟩) ∧ (rowOf H 2 = some ⟨34, 2, [u, w]⟩) ∧ (Bv.Own 3 1 H u S.length (ints S)) ∧ (Bv.Own 72 3 H w i (refsC (elsQ q S (subL l) i))) ∧ (Bv.Own 3 1 H v S.length (ints (doneL (fun j => x.getD j 0 - l.getD (2 * j) 0) x k))) ∧ ts.length = 123 ∧ nth ts 1 = .sl l.length (ints l) ∧ nth ts 2 = .ptr 0 0 ∧ nth ts 4 = .ptr 1 0 ∧ nth ts 7 = .ptr 2 0 ∧ nth ts 9 = .int .i64 (i : Nat) ∧ nth ts 10 = v ∧ nth ts 11 = .int .i64 (k : Nat)) ?_ (n := S.length) ?_
              · skip
                rintro n ts H ⟨k, hk, hn, h0, h1, h2, hu, hw, hv, hL, hs1, hs2, hs4, hs7, hs9, hs10, hs11⟩
                refine TT_env [(1, .sl l.length (ints l)), (2, .ptr 0 0), (4, .ptr 1 0), (7, .ptr 2 0), (9, .int .i64 (i : Nat)), (10, v), (11, .int .i64 (k : Nat))] hL (by simp only [List.forall_mem_cons, hs1, hs2, hs4, hs7, hs9, hs10, hs11, true_and]; exact fun _ h => nomatch h) ?_
                clear hL hs1 hs2 hs4 hs7 hs9 hs10 hs11 ts
                by_cases hkl : k < S.length
                · refine TT_of mixed ?_
                  obtain ⟨-, h0', -⟩ | ⟨r, rfl, hr, -⟩ := hv
                  · omega
                  have hr3 := hvr' r 0 _ rfl
                  have hdg := doneL_get (f := fun j => x.getD j 0 - l.getD (2 * j) 0) (x := x) (k := k) (by omega)
                  have hdl := doneL_len (fun j => x.getD j 0 - l.getD (2 * j) 0) x k
                  have hds := doneL_step (f := fun j => x.getD j 0 - l.getD (2 * j) 0) (x := x) (k := k) (by omega)
                  have hb' := hxi k (by omega)
                  have hc' := hcb k (by omega)
                  (refine Go1.out ?_; repeat' ((with_reducible first | refine Go1.mk ?_ | ((first | apply Br.dec | apply Br.beq | apply Br.bne | apply Br.mk) <;> intro h)) <;> try simp -implicitDefEqProofs (maxSteps := 9000000) (disch := first | omega | (simp only [lens]; omega)) only [go_sem, hr, hdg, upd_ints, hds]))
                  exact ⟨S.length - (k + 1), by omega, k + 1, by omega, rfl, by rw [rowOf_set_ne _ (by omega)]; exact h0, by rw [rowOf_set_ne _ (by omega)]; exact h1, by rw [rowOf_set_ne _ (by omega)]; exact h2, own_far hu fun r' off m e => Ne.symm (hne r 0 _ rfl r' off m e), own_set hw hr (by decide), .inr ⟨r, rfl, rowOf_set_eq hr, by rw [ints_length, doneL_len]; omega⟩, (by (repeat' apply And.intro) <;> (first | rfl | omega | (congr 1; omega) | assumption | (congr 1; assumption)))⟩
                · have hks : k = S.length := by omega
                  subst hks
                  rcases hv with ⟨rfl, h0', hnil⟩ | ⟨r, rfl, hr, -⟩
                  · have hS0 : S = [] := List.eq_nil_of_length_eq_zero h0'
                    have hq0 : q.shape = [] := List.eq_nil_of_length_eq_zero (by omega)
                    have hxn : x = [] := List.eq_nil_of_length_eq_zero (by omega)
                    have hal0 : subL l x = [] := by rw [hxn]; rfl
                    refine TT_of mixed ?_
                    have g0 := h0
                    have g1 := h1
                    have g2 := h2
                    have hu' := hu
                    have hw' := hw
                    have hlw := hw'.lenw (C.ty 32)
                    (refine Go1.out ?_; repeat' ((with_reducible first | refine Go1.mk ?_ | ((first | apply Br.dec | apply Br.beq | apply Br.bne | apply Br.mk) <;> intro h)) <;> try simp -implicitDefEqProofs (maxSteps := 9000000) (disch := first | omega | (simp only [lens]; omega)) only [go_sem, g0, g2]))
                    refine Pc.pure (at09_nil q hq hq0) (by simp [cloL, clo, cloL_ints, cloL_refs]) (fun g => ren_clo g _ (clo_refV _)) ?_
                    rw [← hal0]
                    (refine Go1.out ?_; repeat' ((with_reducible first | refine Go1.mk ?_ | ((first | apply Br.dec | apply Br.beq | apply Br.bne | apply Br.mk) <;> intro h)) <;> try simp -implicitDefEqProofs (maxSteps := 9000000) (disch := first | omega | (simp only [lens]; omega)) only [go_sem, g0, g2, hlw]))
                    refine push_ref hw' rfl rfl (by omega) fun w' H6 hw6 hF hkw => ?_
                    obtain ⟨kw1, kw2, kw3⟩ := hkw
                    have f0 := fr_keep hw' hF g0 (by decide)
                    have f1 := fr_keep hw' hF g1 (by decide)
                    have f2 := fr_keep hw' hF g2 (by decide)
                    have fu : Bv.Own 3 1 H6 u S.length (ints S) := by
                      rcases hu' with ⟨rfl, e1, e2⟩ | ⟨r', rfl, hr', hl'⟩
                      · exact .inl ⟨rfl, e1, e2⟩
                      · exact .inr ⟨r', rfl, fr_keep hw' hF hr' (by decide), hl'⟩
                    (refine Go1.out ?_; repeat' ((with_reducible first | refine Go1.mk ?_ | ((first | apply Br.dec | apply Br.beq | apply Br.bne | apply Br.mk) <;> intro h)) <;> try simp -implicitDefEqProofs (maxSteps := 9000000) (disch := first | omega | (simp only [lens]; omega)) only [go_sem, f2, kw1, kw2, kw3]))
                    rw [show elsQ q S (subL l) i ++ [atQ q (subL l x)] = elsQ q S (subL l) (i + 1) by rw [elsQ_succ, hxe]] at hw6
                    exact ⟨N - (i + 1), by omega, i + 1, w', by omega, rfl, by rw [rowOf_set_ne _ (by decide)]; exact f0, by rw [rowOf_set_ne _ (by decide)]; exact f1, rowOf_set_eq f2, own_set fu f2 (by decide), own_set hw6 f2 (by decide), (by (repeat' apply And.intro) <;> (first | rfl | omega | (congr 1; omega) | assumption | (congr 1; assumption)))⟩
                  · have hr3 := hvr' r 0 _ rfl
                    refine TT_seal hr (cloL_ints _) ?_
                    rw [szL_env]
                    have n0 : ¬ 0 = r := by omega
                    have n1 : ¬ 1 = r := by omega
                    have n2 : ¬ 2 = r := by omega
                    simp only [List.map_cons, List.map_nil, sz, szL_clo _ _ _ (cloL_ints _), n0, n1, n2, if_true, if_false, List.drop_zero]
                    refine TT_of mixed ?_
                    have g0 : rowOf (H.set r none) 0 = _ := (rowOf_set_ne _ (by omega)).trans h0
                    have g1 : rowOf (H.set r none) 1 = _ := (rowOf_set_ne _ (by omega)).trans h1
                    have g2 : rowOf (H.set r none) 2 = _ := (rowOf_set_ne _ (by omega)).trans h2
                    have hu' := own_far (z := none) hu fun r' off m e => Ne.symm (hne r 0 _ rfl r' off m e)
                    have hw' := own_set (z := none) hw hr (by decide)
                    have hdl : (doneL (fun j => x.getD j 0 - l.getD (2 * j) 0) x S.length).length = S.length := by rw [doneL_len]; omega
                    have hax : subL l x = doneL (fun j => x.getD j 0 - l.getD (2 * j) 0) x S.length := by rw [hali, hSl]
                    rw [← hax] at hdl ⊢
                    generalize H.set r none = H at *
                    have hlw := hw'.lenw (C.ty 32)
                    (refine Go1.out ?_; repeat' ((with_reducible first | refine Go1.mk ?_ | ((first | apply Br.dec | apply Br.beq | apply Br.bne | apply Br.mk) <;> intro h)) <;> try simp -implicitDefEqProofs (maxSteps := 9000000) (disch := first | omega | (simp only [lens]; omega)) only [go_sem, g0, g2]))
                    have hat := at09_spec q hq.ok hq.m hel (subL l x) (by omega) fun j hj => by
                      have h3 := hxi j (by omega)
                      have h4 := hcb j (by omega)
                      have h5 : (subL l x).getD j 0 = x.getD j 0 - l.getD (2 * j) 0 := by simp [subL, List.getD, show j < x.length by omega]
                      rw [h5]; omega
                    rw [hdl] at hat
                    refine Pc.pure hat (by simp [cloL, clo, cloL_ints, cloL_refs]) (fun g => ren_clo g _ (clo_refV _)) ?_
                    (refine Go1.out ?_; repeat' ((with_reducible first | refine Go1.mk ?_ | ((first | apply Br.dec | apply Br.beq | apply Br.bne | apply Br.mk) <;> intro h)) <;> try simp -implicitDefEqProofs (maxSteps := 9000000) (disch := first | omega | (simp only [lens]; omega)) only [go_sem, g0, g2, hlw]))
                    refine push_ref hw' rfl rfl (by omega) fun w' H6 hw6 hF hkw => ?_
                    obtain ⟨kw1, kw2, kw3⟩ := hkw
                    have f0 := fr_keep hw' hF g0 (by decide)
                    have f1 := fr_keep hw' hF g1 (by decide)
                    have f2 := fr_keep hw' hF g2 (by decide)
                    have fu : Bv.Own 3 1 H6 u S.length (ints S) := by
                      rcases hu' with ⟨rfl, e1, e2⟩ | ⟨r', rfl, hr', hl'⟩
                      · exact .inl ⟨rfl, e1, e2⟩
                      · exact .inr ⟨r', rfl, fr_keep hw' hF hr' (by decide), hl'⟩
                    (refine Go1.out ?_; repeat' ((with_reducible first | refine Go1.mk ?_ | ((first | apply Br.dec | apply Br.beq | apply Br.bne | apply Br.mk) <;> intro h)) <;> try simp -implicitDefEqProofs (maxSteps := 9000000) (disch := first | omega | (simp only [lens]; omega)) only [go_sem, f2, kw1, kw2, kw3]))
                    rw [show elsQ q S (subL l) i ++ [atQ q (subL l x)] = elsQ q S (subL l) (i + 1) by rw [elsQ_succ, hxe]] at hw6
                    exact ⟨N - (i + 1), by omega, i + 1, w', by omega, rfl, by rw [rowOf_set_ne _ (by decide)]; exact f0, by rw [rowOf_set_ne _ (by decide)]; exact f1, rowOf_set_eq f2, own_set fu f2 (by decide), own_set hw6 f2 (by decide), (by (repeat' apply And.intro) <;> (first | rfl | omega | (congr 1; omega) | assumption | (congr 1; assumption)))⟩
              · exact ⟨0, by omega, rfl, b0, b1, b2, bu, bw, by rw [doneL_zero]; exact hv, rfl, rfl, rfl, rfl, rfl, rfl, rfl, rfl⟩
            · have hsw : kn w = true ∧ cellsOf w = [w] ∧ scal w = true := by rcases hw with ⟨rfl, _⟩ | ⟨r, rfl, _⟩ <;> exact ⟨rfl, rfl, rfl⟩
              have hsu : kn u = true ∧ cellsOf u = [u] ∧ scal u = true := by rcases hu with ⟨rfl, _⟩ | ⟨r, rfl, _⟩ <;> exact ⟨rfl, rfl, rfl⟩
              obtain ⟨a1, a2, a3⟩ := hsw
              obtain ⟨c1, c2, c3⟩ := hsu
              have hst : ∀ z : Row, rowOf (H.set 1 (some z)) 1 = some z := fun z => rowOf_set_eq h1
              (refine Go1.out ?_; repeat' ((with_reducible first | refine Go1.mk ?_ | ((first | apply Br.dec | apply Br.beq | apply Br.bne | apply Br.mk) <;> intro h)) <;> try simp -implicitDefEqProofs (maxSteps := 9000000) (disch := first | omega | (simp only [lens]; omega)) only [go_sem, h2, h1, hst, a1, a2, a3, c1, c2, c3]))
              have hiN : i = N := by omega
              subst hiN
              have hsl := elsQ_len q S (subL l) i
              have eu := (own_set (z := some ⟨34, 2, [u, w]⟩) hu h1 (by decide)).bor' (cloL_ints _)
              have ew := (own_set (z := some ⟨34, 2, [u, w]⟩) hw h1 (by decide)).bor' (cloL_refs _)
              refine Bor.tupL ⟨Bor.aggL ⟨eu, ?_, trivial⟩, .self rfl, trivial⟩
              show Bor _ w (.sl (elsQ q S (subL l) i).length (refsC (elsQ q S (subL l) i)))
              rw [hsl]; exact ew
          · exact ⟨0, .nil, by omega, rfl, h0, h1, h2, hu, Bv.Own.nil _ _ _, rfl, rfl, rfl, rfl, rfl, rfl⟩
      · exact ⟨0, .nil, by omega, fun j hj => by omega, rfl, rfl, rfl, rfl, Bv.Own.nil _ _ _, rfl, rfl, rfl, rfl, rfl, rfl⟩
  · exact ⟨0, by omega, fun j hj => by omega, rfl, rfl, rfl, rfl, rfl, rfl, rfl⟩
end Go.Proofs.YtjdbdmhjakfldaaGreat
end
section
set_option linter.unusedSimpArgs false
set_option linter.unusedVariables false
set_option maxRecDepth 100000
set_option pp.maxSteps 1500
set_option maxHeartbeats 4000000
namespace Go.Proofs.YtjdbdmhjakfldaaGreat
open Go.Bv
theorem padE_zero {t : Tn} {l : List Int} (h : padE t l = 0) : mayT t = 0 ∧ mayP (padS l t.shape t.shape.length) = 0 := by
  unfold padE at h
  split at h
  · contradiction
  · split at h
    · cases h
    · split at h
      · cases h
      · split at h
        · cases h
        · exact ⟨by omega, h⟩
theorem padS_pos {l s : List Int} (hs : ∀ d ∈ s, 1 ≤ d) (hl : l.length = 2 * s.length) (hn : negB l = false) : ∀ d ∈ padS l s s.length, 1 ≤ d := all_getD.2 fun j hj => by
  rw [padS, tabI_len] at hj
  have hI := negB_getD.1 hn
  have h1 := hI (2 * j) (by omega)
  have h2 := hI (2 * j + 1) (by omega)
  have h3 := getD_pos hs hj
  rw [padS, tabI_get hj, padG]; omega
theorem padS_may {l s : List Int} (hm : mayP s = 0) (hl : l.length = 2 * s.length) (hn : negB l = false) : mayP (padS l s s.length) = if prodP (padS l s s.length) > 1024 then 14 else 0 := by
  obtain ⟨m1, m2, m3⟩ := mayP_zero hm
  have hp := padS_pos m2 hl hn
  have hS : (padS l s s.length).length = s.length := tabI_len _ _
  have ha : (padS l s s.length).all (fun d => decide (1 ≤ d)) = true := by simpa using hp
  rw [mayP, if_neg (by omega), if_pos ha, prodP]
  by_cases hb : prodL (padS l s s.length) > 1024
  · rw [if_pos hb, if_pos hb]; rfl
  · rw [if_neg hb, if_neg hb, if_neg (by omega)]
theorem pads_err (t : Tn) (hm : mayT t = 0) (l : List Int) : padE t l = pdF (tnOf t) l := by
  have hmp := (mayT_zero hm).2.1
  rw [padE, if_neg (by omega), pdF]
  have es : (tnOf t).shape = t.shape := rfl
  rw [es]
  by_cases h1 : l.length = 2 * t.shape.length
  · cases h2 : negB l with
    | true => simp [h1]
    | false => simp [h1, padS_may hmp h1 h2]
  · simp [h1]
theorem pads_plain (t : Tn) (l : List Int) : isB (padT t l) (padE t l) t (pdQ (ofT t) l) (pdF (ofT t) l) = true := by
  refine isB_ok (fun h => by rw [padE, if_pos h]) (fun h => ?_) (fun h he => ?_)
  · have e1 : ofT t = tnOf t := if_neg (by omega)
    rw [e1]
    exact pads_err t h l
  · have e1 : ofT t = tnOf t := if_neg (by omega)
    rw [e1]
    refine mv_isT h (padS l t.shape t.shape.length) (subL l) fun i => ?_
    simp [subL, idxL_len, padS, tabI_len]
theorem padE_small (t : Tn) (l : List Int) : -1000000 ≤ padE t l ∧ padE t l ≤ 1000000 := by
  have h1 := mayT_cases t
  have h2 := mayP_cases (padS l t.shape t.shape.length)
  unfold padE
  split <;> (try split) <;> (try split) <;> (try split) <;> omega
theorem padT_ok {t : Tn} (ht : TnOK t) (l : List Int) : TnOK (padT t l) := errT_TnOK fun h => by
  obtain ⟨h1, h2⟩ := padE_zero h
  exact mvT_ok ht h1 (by rw [padS, tabI_len]; exact ht.s) h2 _
theorem pdQ_ok {q : Tq} (hq : FitQ q) (l : List Int) : TqOK (pdQ q l) := errQ_TqOK fun h => by
  have hs := hq.ok.s
  unfold pdF at h
  split at h
  · cases h
  · split at h
    · cases h
    · split at h
      · cases h
      · split at h
        · cases h
        · rename_i h1 h2 h3 h4
          have hb : ¬ prodL (padS l q.shape q.shape.length) > 1024 := fun hb => h4 (by rw [prodP, if_pos hb]; decide)
          exact elsQ_ok hq.ok (by rw [padS, tabI_len]; exact hs) (by omega)
theorem MovePads_law (t : Tn) (ht : TnOK t) (s : List Int) (hs : s.length ≤ 1000000000) : Pu C 5 [tnV t, .sl s.length (ints s)] (.bool true) := by
  have hE : -1000000 ≤ padE t s ∧ padE t s ≤ 1000000 := padE_small t s
  have hT : TnOK (padT t s) := padT_ok ht s
  have hQ : TqOK (pdQ (ofT t) s) := pdQ_ok (ofT_fit ht) s
  have hi := is09_spec (padT t s) hT (padE t s) hE t ht (pdQ (ofT t) s) hQ (pdF (ofT t) s)
  rw [pads_plain] at hi
  have hw : Val C 15 [.sl s.length (ints s)] (.sl s.length (ints s)) := Val.ofRet (own09_spec s hs) (cloL_ints _) (plainL_ints _)
  have h1 := pad_val t ht s hs
  have h2 := pad09_spec (ofT t) (ofT_fit ht) s hs
  generalize padT t s = T at *
  generalize padE t s = e at *
  generalize pdQ (ofT t) s = Q at *
  generalize pdF (ofT t) s = f at *
  refine Fc.keep (Fc.bodyT mixed Tryz.func5 w5 rfl Tryz.ntmps5 Tryz.results5 (Nat.le_of_ble_eq_true rfl) ?_)
  (refine Go1.out ?_; repeat' ((with_reducible first | refine Go1.mk ?_ | ((first | apply Br.dec | apply Br.beq | apply Br.bne | apply Br.mk) <;> intro h)) <;> try simp -implicitDefEqProofs (maxSteps := 9000000) (disch := first | omega | (simp only [lens]; omega)) only [go_sem]))
  refine (own07_spec t ht).call ⟨.self (clo_tnV _), trivial⟩ (clo_tnV _) ?_
  (refine Go1.out ?_; repeat' ((with_reducible first | refine Go1.mk ?_ | ((first | apply Br.dec | apply Br.beq | apply Br.bne | apply Br.mk) <;> intro h)) <;> try simp -implicitDefEqProofs (maxSteps := 9000000) (disch := first | omega | (simp only [lens]; omega)) only [go_sem]))
  refine hw.call ⟨.self (by simp [clo, cloL_ints]), trivial⟩ (by simp [clo, cloL_ints]) ?_
  (refine Go1.out ?_; repeat' ((with_reducible first | refine Go1.mk ?_ | ((first | apply Br.dec | apply Br.beq | apply Br.bne | apply Br.mk) <;> intro h)) <;> try simp -implicitDefEqProofs (maxSteps := 9000000) (disch := first | omega | (simp only [lens]; omega)) only [go_sem]))
  refine h1.call ⟨.self (clo_tnV _), .self (by simp [clo, cloL_ints]), trivial⟩ (by simp [clo, cloL, clo_tnV]) ?_
  (refine Go1.out ?_; repeat' ((with_reducible first | refine Go1.mk ?_ | ((first | apply Br.dec | apply Br.beq | apply Br.bne | apply Br.mk) <;> intro h)) <;> try simp -implicitDefEqProofs (maxSteps := 9000000) (disch := first | omega | (simp only [lens]; omega)) only [go_sem]))
  refine (of09_val t ht).call ⟨.self (clo_tnV _), trivial⟩ (clo_tqV _) ?_
  (refine Go1.out ?_; repeat' ((with_reducible first | refine Go1.mk ?_ | ((first | apply Br.dec | apply Br.beq | apply Br.bne | apply Br.mk) <;> intro h)) <;> try simp -implicitDefEqProofs (maxSteps := 9000000) (disch := first | omega | (simp only [lens]; omega)) only [go_sem]))
  refine Fc.pure h2 (by simp [cloL, clo, cloL_ints, cloL_refs]) (fun g => ren_clo _ _ (clo_ans _ _)) ?_
  (refine Go1.out ?_; repeat' ((with_reducible first | refine Go1.mk ?_ | ((first | apply Br.dec | apply Br.beq | apply Br.bne | apply Br.mk) <;> intro h)) <;> try simp -implicitDefEqProofs (maxSteps := 9000000) (disch := first | omega | (simp only [lens]; omega)) only [go_sem]))
  refine Fc.pure hi (by simp [cloL, clo, cloL_ints, cloL_refs, cloL_raws]) (fun g => rfl) ?_
  (refine Go1.out ?_; repeat' ((with_reducible first | refine Go1.mk ?_ | ((first | apply Br.dec | apply Br.beq | apply Br.bne | apply Br.mk) <;> intro h)) <;> try simp -implicitDefEqProofs (maxSteps := 9000000) (disch := first | omega | (simp only [lens]; omega)) only [go_sem]))
  refine Fc.pure known_spec rfl (fun g => rfl) ?_
  (refine Go1.out ?_; repeat' ((with_reducible first | refine Go1.mk ?_ | ((first | apply Br.dec | apply Br.beq | apply Br.bne | apply Br.mk) <;> intro h)) <;> try simp -implicitDefEqProofs (maxSteps := 9000000) (disch := first | omega | (simp only [lens]; omega)) only [go_sem]))
  (refine keepP (by intro g; simp only [go_sem, ren, renL]) ?_)
  rfl
end Go.Proofs.YtjdbdmhjakfldaaGreat
end
section
set_option maxRecDepth 100000
namespace Go.Proofs.YtjdbdmhjakfldaaGreat
open Go.Bv
theorem a_own : ownKnob Tryz.prog.godebug = none := by kernel_rfl
theorem a_laid : laidOutB Tryz.prog = true := by kernel_rfl
theorem rd_ints {t : Nat} (hu : Tryz.prog.underlying t = some (.slice 3)) : U.Reads Tryz.prog t fun vs => ∃ xs : List Int, vs = [.sl xs.length (ints xs)] ∧ xs.length ≤ 1048576 ∧ ∀ x ∈ xs, (Lit.int .i64 x).wf = true := U.Reads.ints hu Tryz.underlying3 (by kernel_rfl)
theorem rd_u32 : U.Reads Tryz.prog 59 fun vs => ∃ n : Nat, vs = [V.int .u32 (n : Nat)] ∧ n < 4294967296 := U.Reads.mono (U.Reads.int Tryz.underlying59) fun vs ⟨n, h, hw⟩ => by
  have hx : 0 ≤ n ∧ n ≤ 4294967295 := by simpa [Lit.wf, IntKind.min, IntKind.max, IntKind.signed, IntKind.bits] using hw
  exact ⟨n.toNat, by rw [h]; congr 2; omega, by omega⟩
theorem rd_nat : U.Reads Tryz.prog 56 fun vs => ∃ l : List Nat, vs = [NA l] ∧ l.length ≤ 1048576 ∧ Lim l :=
  U.Reads.mono (U.Reads.slice1 (g := fun n : Nat => .int .u32 (n : Nat)) Tryz.underlying56 (by kernel_rfl) rd_u32) fun vs ⟨xs, h1, h2, h3⟩ => ⟨xs, h1, h2, h3⟩
theorem rd_rat : U.Reads Tryz.prog 58 fun vs => ∃ x : Raw, vs = [.bool x.neg, NA x.num, NA x.den] ∧ RawOK x := by
  refine U.Reads.mono (U.Reads.struct (Qs := fun i vs => if i = 0 then ∃ b, vs = [V.bool b] else ∃ l : List Nat, vs = [NA l] ∧ l.length ≤ 1048576 ∧ Lim l) a_laid (of_decide_eq_true (by kernel_rfl)) Tryz.underlying58 ?_) ?_
  · intro i f hf
    match i, hf with
    | 0, hf => cases hf; exact U.Reads.mono (U.Reads.bool Tryz.underlying4) fun vs h => by rw [if_pos rfl]; exact h
    | 1, hf => cases hf; exact U.Reads.mono rd_nat fun vs h => by rw [if_neg (by decide)]; exact h
    | 2, hf => cases hf; exact U.Reads.mono rd_nat fun vs h => by rw [if_neg (by decide)]; exact h
    | i + 3, hf => cases hf
  · rintro u ⟨l, hl, hq, rfl⟩
    match l, hl with
    | [a, b, c], _ =>
      have h0 := hq 0 (by decide)
      have h1 := hq 1 (by decide)
      have h2 := hq 2 (by decide)
      obtain ⟨n, rfl⟩ := h0
      obtain ⟨xs, rfl, hx, hx2⟩ := h1
      obtain ⟨ys, rfl, hy, hy2⟩ := h2
      exact ⟨⟨n, xs, ys⟩, rfl, by show xs.length ≤ _; omega, by show ys.length ≤ _; omega, hx2, hy2⟩
theorem raws_of : ∀ {l : List (List V)}, (∀ x ∈ l, ∃ r : Raw, x = [.bool r.neg, NA r.num, NA r.den] ∧ RawOK r) → ∃ xs : List Raw, xs.length = l.length ∧ l.flatten = rawsC xs ∧ ∀ x ∈ xs, RawOK x
  | [], _ => ⟨[], rfl, rfl, by simp⟩
  | x :: l, h => by
    obtain ⟨a, rfl, ha⟩ := h x (by simp)
    obtain ⟨xs, h1, h2, h3⟩ := raws_of (l := l) fun y hy => h y (by simp [hy])
    exact ⟨a :: xs, by simp [h1], by rw [List.flatten_cons, h2]; rfl, fun b hb => by
      rcases List.mem_cons.1 hb with rfl | hb
      · exact ha
      · exact h3 b hb⟩
theorem rd_rats : U.Reads Tryz.prog 24 fun vs => ∃ xs : List Raw, vs = [.sl xs.length (rawsC xs)] ∧ xs.length ≤ 1048576 ∧ ∀ x ∈ xs, RawOK x :=
  U.Reads.mono (U.Reads.slice (s := 3) Tryz.underlying24 (by kernel_rfl) (by decide) rd_rat) fun vs ⟨l, h1, h2, h3⟩ => by
    obtain ⟨xs, q1, q2, q3⟩ := raws_of h1
    exact ⟨xs, by rw [h3, q1, q2], by omega, q3⟩
theorem rd_tensor : U.Reads Tryz.prog 26 fun vs => ∃ t : Tn, vs = [.sl t.shape.length (ints t.shape), .sl t.el.length (rawsC t.el)] ∧ TnOK t := by
  refine U.Reads.mono (U.Reads.struct (Qs := fun i vs => if i = 0 then ∃ xs : List Int, vs = [.sl xs.length (ints xs)] ∧ xs.length ≤ 1048576 ∧ ∀ x ∈ xs, (Lit.int .i64 x).wf = true else ∃ xs : List Raw, vs = [.sl xs.length (rawsC xs)] ∧ xs.length ≤ 1048576 ∧ ∀ x ∈ xs, RawOK x) a_laid (of_decide_eq_true (by kernel_rfl)) Tryz.underlying26 ?_) ?_
  · intro i f hf
    match i, hf with
    | 0, hf => cases hf; exact U.Reads.mono (rd_ints Tryz.underlying23) fun vs h => by rw [if_pos rfl]; exact h
    | 1, hf => cases hf; exact U.Reads.mono rd_rats fun vs h => by rw [if_neg (by decide)]; exact h
    | i + 2, hf => cases hf
  · rintro u ⟨l, hl, hq, rfl⟩
    match l, hl with
    | [a, b], _ =>
      have h0 := hq 0 (by decide)
      have h1 := hq 1 (by decide)
      obtain ⟨xs, rfl, hx, _⟩ := h0
      obtain ⟨ys, rfl, hy, hy2⟩ := h1
      exact ⟨⟨xs, ys⟩, rfl, by show xs.length ≤ _; omega, by show ys.length ≤ _; omega, hy2⟩
theorem arg_tensor : U.ArgV Tryz.prog 26 fun u => ∃ t : Tn, u = tnV t ∧ TnOK t :=
  U.ArgV.mono (U.ArgV.struct rd_tensor Tryz.underlying26) fun u ⟨vs, h1, t, h2, h3⟩ => ⟨t, by rw [h1, h2]; rfl, h3⟩
theorem arg_ints {t : Nat} (hu : Tryz.prog.underlying t = some (.slice 3)) : U.ArgV Tryz.prog t fun u => ∃ xs : List Int, u = .sl xs.length (ints xs) ∧ xs.length ≤ 1048576 ∧ ∀ x ∈ xs, (Lit.int .i64 x).wf = true :=
  U.ArgV.mono (U.ArgV.one (rd_ints hu) (by rw [hu])) fun u ⟨xs, h, h1, h2⟩ => ⟨xs, by simpa using h, h1, h2⟩
theorem args_ts {t : Nat} (hu : Tryz.prog.underlying t = some (.slice 3)) : U.ArgsV Tryz.prog [26, t] fun us => ∃ (x : Tn) (s : List Int), us = [tnV x, .sl s.length (ints s)] ∧ TnOK x ∧ s.length ≤ 1048576 ∧ ∀ x ∈ s, (Lit.int .i64 x).wf = true := by
  refine U.ArgsV.mono (U.ArgsV.cons arg_tensor (U.ArgsV.cons (arg_ints hu) U.ArgsV.nil)) ?_
  rintro us ⟨_, _, rfl, ⟨x, rfl, h1⟩, _, _, rfl, ⟨s, rfl, h2, h3⟩, rfl⟩
  exact ⟨x, s, rfl, h1, h2, h3⟩
end Go.Proofs.YtjdbdmhjakfldaaGreat
end
