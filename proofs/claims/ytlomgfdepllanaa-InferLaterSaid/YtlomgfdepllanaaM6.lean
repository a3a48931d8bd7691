/-
  Parts Inf1, Inf2, Inf3, InfP, Inf4, Rev, Op5, Inf5, Law1, Law2, Law3, Row1, one behind the other: a program logic of our own, contracts of functions.
-/
import Derived.Test.YtlomgfdepllanaaM5
import Derived.Test.YtlomgfdepllanaaM4
import Derived.Test.YtlomgfdepllanaaM3
import Derived.Test.YtlomgfdepllanaaRows
section
set_option linter.unusedSimpArgs false
set_option linter.unusedVariables false
set_option maxRecDepth 100000
set_option pp.maxSteps 1500
set_option maxHeartbeats 4000000
namespace Go.Proofs.Ytlomgfdepllanaa
open Go.Bv
/-- A shape of one's own, and an error. -/
abbrev ROw (v : V) (H : Heap) (r : Sh) : Prop := RetO2 3 1 H v r.1.length (ints r.1) (.int .i64 r.2)
theorem ow_no {H : Heap} (e : Int) : ∃ sel, keepw sel (fun v H => ROw v H ([], e)) (.tup [.nil, .int .i64 e]) H := nil_two (fun _ => rfl)
theorem ow_of {H : Heap} {u : V} {s : List Int} (e : Int) (hO : Bv.Own 3 1 H u s.length (ints s)) : ∃ sel, keepw sel (fun v H => ROw v H (s, e)) (.tup [u, .int .i64 e]) H := hO.two (fun g => renL_ints g _) (fun _ => rfl)
theorem Fc.ow {f : FuncId} {args args' : List V} {H : Heap} {K : V → Heap → Prop} {r : Sh} (h : Fc C f args' [] fun v H => ROw v H r) (hb : BorL H args args') (hK : ∀ w X, Bv.Own 3 1 (H ++ X) w r.1.length (ints r.1) → K (.tup [w, .int .i64 r.2]) (H ++ X)) : Fc C f args H K :=
  Fc.own2 h hb (fun g => renL_ints g _) (plainL_ints _) (fun _ => rfl) rfl hK
theorem Pc.ow {f : FuncId} {args args' : List V} {H : Heap} {K : V → Heap → Prop} {r : Sh} (h : Fc C f args' [] fun v H => ROw v H r) (hb : BorL H args args') (hK : ∀ w X, Bv.Own 3 1 (H ++ X) w r.1.length (ints r.1) → K (.tup [w, .int .i64 r.2]) (H ++ X)) : Pc C f args H K :=
  Pc.own2 h hb (by simp [ints_length]) (fun g => renL_ints g _) (plainL_ints _) (fun _ => rfl) rfl hK
theorem Fc.valW {f : FuncId} {args : List V} {r : Sh} (h : Fc C f args [] fun v H => ROw v H r) : Pu C f args (shV r) := Fc.val2O h (cloL_ints _) rfl
/-- A shape that may be, or why not. -/
def limP (r : Sh) : Sh := if r.2 ≠ 0 then ([], r.2) else if mayP r.1 ≠ 0 then ([], mayP r.1) else r
theorem limP_no (e : Int) (he : e ≠ 0) : limP ([], e) = ([], e) := by simp [limP, he]
theorem limited_spec (s : List Int) (h : s.length ≤ 17592186044416) : Fc C 60 [.sl s.length (ints s)] [] (fun v H => RSh v H (limP (s, 0))) := by
  refine Fc.keep (Fc.bodyT mixed Try.func60 w60 rfl Try.ntmps60 Try.results60 (Nat.le_of_ble_eq_true rfl) ?_)
  (refine Go1.out ?_; repeat' ((with_reducible first | refine Go1.mk ?_ | ((first | refine Br.dec ?_ ?_ | refine Br.beq ?_ ?_ | refine Br.bne ?_ ?_ | refine Br.mk ?_ ?_) <;> intro h)) <;> try simp -implicitDefEqProofs (maxSteps := 9000000) (disch := first | omega | (simp only [List.length_set, List.length_append, List.length_cons, List.length_nil]; omega)) only [go_sem]))
  refine Fc.pure (May_spec s h) (by simp [cloL, clo, cloL_ints, cloL_intss]) (by intro g; simp only [go_sem, ren, renL]) ?_
  (refine Go1.out ?_; repeat' ((with_reducible first | refine Go1.mk ?_ | ((first | refine Br.dec ?_ ?_ | refine Br.beq ?_ ?_ | refine Br.bne ?_ ?_ | refine Br.mk ?_ ?_) <;> intro h)) <;> try simp -implicitDefEqProofs (maxSteps := 9000000) (disch := first | omega | (simp only [List.length_set, List.length_append, List.length_cons, List.length_nil]; omega)) only [go_sem]))
  · rw [limP, if_neg (by simp), if_pos (by assumption)]; exact sh_no _
  · rw [limP, if_neg (by simp), if_neg (by simp [*])]; exact sh_sl _ _
/-- .. of a row of one's own. -/
theorem limited_own {u : V} {H0 : Heap} {s : List Int} (hO : Bv.Own 3 1 H0 u s.length (ints s)) (h : s.length ≤ 17592186044416) : Fc C 60 [u] H0 (fun v H' => H' = H0 ∧ v = .tup [if mayP s ≠ 0 then .nil else u, .int .i64 (mayP s)]) := by
  refine Fc.bodyT mixed Try.func60 w60 rfl Try.ntmps60 Try.results60 (Nat.le_of_ble_eq_true rfl) ?_
  (refine Go1.out ?_; repeat' ((with_reducible first | refine Go1.mk ?_ | ((first | refine Br.dec ?_ ?_ | refine Br.beq ?_ ?_ | refine Br.bne ?_ ?_ | refine Br.mk ?_ ?_) <;> intro h)) <;> try simp -implicitDefEqProofs (maxSteps := 9000000) (disch := first | omega | (simp only [List.length_set, List.length_append, List.length_cons, List.length_nil]; omega)) only [go_sem]))
  refine Fc.pureL (May_spec s h) ⟨hO.bor' (cloL_ints _), trivial⟩ (fun _ => rfl) rfl ?_
  (refine Go1.out ?_; repeat' ((with_reducible first | refine Go1.mk ?_ | ((first | refine Br.dec ?_ ?_ | refine Br.beq ?_ ?_ | refine Br.bne ?_ ?_ | refine Br.mk ?_ ?_) <;> intro h)) <;> try simp -implicitDefEqProofs (maxSteps := 9000000) (disch := first | omega | (simp only [List.length_set, List.length_append, List.length_cons, List.length_nil]; omega)) only [go_sem]))
  · rw [if_pos (by assumption)]
  · rw [if_neg (by simp [*])]; simp [*]
theorem limP_own {H : Heap} {u : V} {s : List Int} (hO : Bv.Own 3 1 H u s.length (ints s)) : ∃ sel, keepw sel (fun v H => ROw v H (limP (s, 0))) (.tup [if mayP s ≠ 0 then .nil else u, .int .i64 (mayP s)]) H := by
  by_cases hm : mayP s ≠ 0
  · rw [if_pos hm, limP, if_neg (by simp), if_pos hm]; exact ow_no _
  · have : mayP s = 0 := by omega
    rw [if_neg hm, limP, if_neg (by simp), if_neg hm, this]
    exact ow_of _ hO
theorem inone_own (b : Bool) (u : V) (H0 : Heap) : Fc C 37 [.bool b, u] H0 (fun v H => H = H0 ∧ v = (if b = true then .tup [u, .int .i64 0] else .tup [.nil, .int .i64 13])) := by
  refine Fc.bodyT mixed Try.func37 w37 rfl Try.ntmps37 Try.results37 (Nat.le_of_ble_eq_true rfl) ?_
  (refine Go1.out ?_; repeat' ((with_reducible first | refine Go1.mk ?_ | ((first | refine Br.dec ?_ ?_ | refine Br.beq ?_ ?_ | refine Br.bne ?_ ?_ | refine Br.mk ?_ ?_) <;> intro h)) <;> try simp -implicitDefEqProofs (maxSteps := 9000000) (disch := first | omega | (simp only [List.length_set, List.length_append, List.length_cons, List.length_nil]; omega)) only [go_sem]))
  · rw [if_pos (by assumption)]
  · rw [if_neg (by simp [*])]
theorem icut_spec (d a b : Int) (ha : -2147483648 ≤ a ∧ a ≤ 2147483648) (hb : -2147483648 ≤ b ∧ b ≤ 2147483648) : Pu C 45 [.int .i64 d, .int .i64 a, .int .i64 b] (.tup [.int .i64 (b - a), .bool (decide (b ≤ d))]) := by
  refine Fc.keep (Fc.bodyT mixed Try.func45 w45 rfl Try.ntmps45 Try.results45 (Nat.le_of_ble_eq_true rfl) ?_)
  (refine Go1.out ?_; repeat' ((with_reducible first | refine Go1.mk ?_ | ((first | refine Br.dec ?_ ?_ | refine Br.beq ?_ ?_ | refine Br.bne ?_ ?_ | refine Br.mk ?_ ?_) <;> intro h)) <;> try simp -implicitDefEqProofs (maxSteps := 9000000) (disch := first | omega | (simp only [List.length_set, List.length_append, List.length_cons, List.length_nil]; omega)) only [go_sem]))
  (refine keepP (by intro g; simp only [go_sem, ren, renL]) ?_)
  simp
theorem irim_spec (d a b : Int) (hd : -2147483648 ≤ d ∧ d ≤ 2147483648) (ha : -2147483648 ≤ a ∧ a ≤ 2147483648) (hb : -2147483648 ≤ b ∧ b ≤ 2147483648) : Pu C 46 [.int .i64 d, .int .i64 a, .int .i64 b] (.tup [.int .i64 (d + a + b), .bool true]) := by
  refine Fc.keep (Fc.bodyT mixed Try.func46 w46 rfl Try.ntmps46 Try.results46 (Nat.le_of_ble_eq_true rfl) ?_)
  (refine Go1.out ?_; repeat' ((with_reducible first | refine Go1.mk ?_ | ((first | refine Br.dec ?_ ?_ | refine Br.beq ?_ ?_ | refine Br.bne ?_ ?_ | refine Br.mk ?_ ?_) <;> intro h)) <;> try simp -implicitDefEqProofs (maxSteps := 9000000) (disch := first | omega | (simp only [List.length_set, List.length_append, List.length_cons, List.length_nil]; omega)) only [go_sem]))
  (refine keepP (by intro g; simp only [go_sem, ren, renL]) ?_)
  simp
theorem imatrix_spec (x y : List Int) (hx : x.length ≤ 17592186044416) (hy : y.length ≤ 17592186044416) : Fc C 39 [.sl x.length (ints x), .sl y.length (ints y)] [] (fun v H => ROw v H (limP (matP x y))) := by
  refine Fc.keep (Fc.bodyT mixed Try.func39 w39 rfl Try.ntmps39 Try.results39 (Nat.le_of_ble_eq_true rfl) ?_)
  (refine Go1.out ?_; repeat' ((with_reducible first | refine Go1.mk ?_ | ((first | refine Br.dec ?_ ?_ | refine Br.beq ?_ ?_ | refine Br.bne ?_ ?_ | refine Br.mk ?_ ?_) <;> intro h)) <;> try simp -implicitDefEqProofs (maxSteps := 9000000) (disch := first | omega | (simp only [List.length_set, List.length_append, List.length_cons, List.length_nil]; omega)) only [go_sem]))
  · rw [matP, if_neg (by omega)]; exact ow_no _
  · rw [matP, if_neg (by omega)]; exact ow_no _
  · rw [matP, if_neg (by omega)]; exact ow_no _
  · rw [matP, if_pos (by omega)]
    refine Pc.gen (limited_own (s := [x.getD 0 0, y.getD 1 0]) (.inr ⟨0, rfl, rfl, rfl⟩) (by simp)) ⟨_, _, rfl, rfl⟩ ?_
    rintro v H' ⟨rfl, rfl⟩
    refine ⟨.refl _, ?_⟩
    (refine Go1.out ?_; repeat' ((with_reducible first | refine Go1.mk ?_ | ((first | refine Br.dec ?_ ?_ | refine Br.beq ?_ ?_ | refine Br.bne ?_ ?_ | refine Br.mk ?_ ?_) <;> intro h)) <;> try simp -implicitDefEqProofs (maxSteps := 9000000) (disch := first | omega | (simp only [List.length_set, List.length_append, List.length_cons, List.length_nil]; omega)) only [go_sem]))
    exact limP_own (s := [x.getD 0 0, y.getD 1 0]) (.inr ⟨0, rfl, rfl, rfl⟩)
theorem iturned_spec (x p : List Int) (hx : x.length ≤ 17592186044416) (hp : p.length ≤ 17592186044416) (hr : p.length = x.length → ∀ i, i < p.length → 0 ≤ p.getD i 0 ∧ p.getD i 0 < p.length) : Fc C 41 [.sl x.length (ints x), .sl p.length (ints p)] [] (fun v H => ROw v H (if p.length = x.length then (tab (fun i => x.getD (p.getD i 0).toNat 0) p.length, 0) else ([], 13))) := by
  refine Fc.keep (Fc.bodyT mixed Try.func41 w41 rfl Try.ntmps41 Try.results41 (Nat.le_of_ble_eq_true rfl) ?_)
  (refine Go1.out ?_; repeat' ((with_reducible first | refine Go1.mk ?_ | ((first | refine Br.dec ?_ ?_ | refine Br.beq ?_ ?_ | refine Br.bne ?_ ?_ | refine Br.mk ?_ ?_) <;> intro h)) <;> try simp -implicitDefEqProofs (maxSteps := 9000000) (disch := first | omega | (simp only [List.length_set, List.length_append, List.length_cons, List.length_nil]; omega)) only [go_sem]))
  · rw [if_neg (by omega)]; exact ow_no _
  · have hr := hr (by omega)
    rw [if_pos (by omega)]
    refine TT_loop_inv (fun n ts H => ∃ i u, (i ≤ p.length) ∧ (n = p.length - i) ∧ (Bv.Own 3 1 H u (tab (fun i => x.getD (p.getD i 0).toNat 0) i).length (ints (tab (fun i => x.getD (p.getD i 0).toNat 0) i))) ∧ ts.length = 28 ∧ nth ts 0 = .sl x.length (ints x) ∧ nth ts 4 = u ∧ nth ts 5 = .int .i64 0 ∧ nth ts 13 = .sl p.length (ints p) ∧ nth ts 14 = .int .i64 p.length ∧ nth ts 15 = .int .i64 i) ?_ (n := p.length) ?_
    · skip
      rintro n ts H ⟨i, u, hi, hn, hu, hL, hs0, hs4, hs5, hs13, hs14, hs15⟩
      refine TT_env [(0, .sl x.length (ints x)), (4, u), (5, .int .i64 0), (13, .sl p.length (ints p)), (14, .int .i64 p.length), (15, .int .i64 i)] hL (by simp only [List.forall_mem_cons, hs0, hs4, hs5, hs13, hs14, hs15, true_and]; exact fun _ h => nomatch h) ?_
      clear hL hs0 hs4 hs5 hs13 hs14 hs15 ts
      refine TT_of mixed ?_
      subst hn
      by_cases hlt : i < p.length
      · have hp := hr i hlt
        (refine Go1.out ?_; repeat' ((with_reducible first | refine Go1.mk ?_ | ((first | refine Br.dec ?_ ?_ | refine Br.beq ?_ ?_ | refine Br.bne ?_ ?_ | refine Br.mk ?_ ?_) <;> intro h)) <;> try simp -implicitDefEqProofs (maxSteps := 9000000) (disch := first | omega | (simp only [List.length_set, List.length_append, List.length_cons, List.length_nil]; omega)) only [go_sem]))
        refine app_int hu rfl ⟨by decide, by decide⟩ (by rw [tab_length]; omega) fun v' H' hu' _ => ?_
        (refine Go1.out ?_; repeat' ((with_reducible first | refine Go1.mk ?_ | ((first | refine Br.dec ?_ ?_ | refine Br.beq ?_ ?_ | refine Br.bne ?_ ?_ | refine Br.mk ?_ ?_) <;> intro h)) <;> try simp -implicitDefEqProofs (maxSteps := 9000000) (disch := first | omega | (simp only [List.length_set, List.length_append, List.length_cons, List.length_nil]; omega)) only [go_sem]))
        exact ⟨_, by omega, i + 1, v', by omega, rfl, by rw [tab_succ]; exact hu', (by (repeat' apply And.intro) <;> (first | rfl | omega | (congr 1; omega) | assumption | (congr 1; assumption)))⟩
      · obtain rfl : i = p.length := by omega
        (refine Go1.out ?_; repeat' ((with_reducible first | refine Go1.mk ?_ | ((first | refine Br.dec ?_ ?_ | refine Br.beq ?_ ?_ | refine Br.bne ?_ ?_ | refine Br.mk ?_ ?_) <;> intro h)) <;> try simp -implicitDefEqProofs (maxSteps := 9000000) (disch := first | omega | (simp only [List.length_set, List.length_append, List.length_cons, List.length_nil]; omega)) only [go_sem]))
        exact ow_of _ hu
    · exact ⟨0, .nil, by omega, rfl, .nil _ _ _, rfl, rfl, rfl, rfl, rfl, rfl, rfl⟩
theorem yk69 : Try.f69.body.all yOK = true := by kernel_rfl
def ipairs (l : List Int) : V := .fn (.func 69) [] [.rp [.sl l.length (ints l)] 0]
def twos (l : List Int) : List (List V) := (List.range (l.length / 2)).map fun i => [.int .i64 (l.getD (2 * i) 0), .int .i64 (l.getD (2 * i + 1) 0)]
theorem twos_length (l : List Int) : (twos l).length = l.length / 2 := by simp [twos]
theorem twos_at {l : List Int} {i : Nat} (h : i < l.length / 2) : (twos l)[i]? = some [.int .i64 (l.getD (2 * i) 0), .int .i64 (l.getD (2 * i + 1) 0)] := by simp [twos, h]
theorem ipairs_spec (l : List Int) : Pu C 63 [.sl l.length (ints l)] (ipairs l) := by
  refine Fc.keep (Fc.sealR ?_)
  refine Fc.bodyT mixed Try.func63 w63 rfl Try.ntmps63 Try.results63 (Nat.le_of_ble_eq_true rfl) ?_
  (refine Go1.out ?_; repeat' ((with_reducible first | refine Go1.mk ?_ | ((first | refine Br.dec ?_ ?_ | refine Br.beq ?_ ?_ | refine Br.bne ?_ ?_ | refine Br.mk ?_ ?_) <;> intro h)) <;> try simp -implicitDefEqProofs (maxSteps := 9000000) (disch := first | omega | (simp only [List.length_set, List.length_append, List.length_cons, List.length_nil]; omega)) only [go_sem]))
  refine ⟨0, _, 1, [.sl l.length (ints l)], rfl, by simp [cloL, clo, cloL_ints], [], by simp, by simp, ?_⟩
  simp [sz, szL, ren, renL, ipairs, selH, renL_ints]
theorem ipairs_gen (l : List Int) (hl : l.length ≤ 17592186044416) : Gen C 69 [.rp [.sl l.length (ints l)] 0] (twos l) := by
  refine Gen.of3 mixed Try.func69 w69 yk69 rfl Try.ntmps69 Try.results69 (Nat.le_of_ble_eq_true rfl) (by simp [twos, cloL, clo]) ?_
  intro G k J hW
  (refine Go1.out ?_; repeat' ((with_reducible first | refine Go1.mk ?_ | ((first | refine Br.dec ?_ ?_ | refine Br.beq ?_ ?_ | refine Br.bne ?_ ?_ | refine Br.mk ?_ ?_) <;> intro h)) <;> try simp -implicitDefEqProofs (maxSteps := 9000000) (disch := first | omega | (simp only [List.length_set, List.length_append, List.length_cons, List.length_nil]; omega)) only [go_sem]))
  refine TTY_loop_inv (fun n ts H => ∃ (i : Nat), (i ≤ l.length / 2) ∧ (n = l.length / 2 - i) ∧ (H.length = i) ∧ ts.length = 23 ∧ nth ts 0 = .fn (.yield k) [] [] ∧ nth ts 1 = .rp [.sl l.length (ints l)] 0 ∧ nth ts 3 = .int .i64 (2 * (i : Int))) ?_ (n := l.length / 2) ?_
  · skip
    rintro n ts H ⟨i, hi, hn, hH, hL, hs0, hs1, hs3⟩
    refine TTY_env [(0, .fn (.yield k) [] []), (1, .rp [.sl l.length (ints l)] 0), (3, .int .i64 (2 * (i : Int)))] hL (by simp only [List.forall_mem_cons, hs0, hs1, hs3, true_and]; exact fun _ h => nomatch h) ?_
    clear hL hs0 hs1 hs3 ts
    refine hW _ _ _ _ ?_
    (refine Go1.out ?_; repeat' ((with_reducible first | refine Go1.mk ?_ | ((first | refine Br.dec ?_ ?_ | refine Br.beq ?_ ?_ | refine Br.bne ?_ ?_ | refine Br.mk ?_ ?_) <;> intro h)) <;> try simp -implicitDefEqProofs (maxSteps := 9000000) (disch := first | omega | (simp only [List.length_set, List.length_append, List.length_cons, List.length_nil]; omega)) only [go_sem]))
    · refine ⟨by rw [hH]; exact twos_at (by omega), ⟨l.length / 2 - (i + 1), by omega, i + 1, by omega, rfl, by omega, ?_⟩, .inr trivial, .inr ?_⟩
      · congr 1 <;> omega
      · simp only [List.length_replicate, twos_length]; omega
    · refine ⟨.inl trivial, .inl ?_⟩
      rw [twos_length]; omega
  · exact ⟨0, by omega, by omega, rfl, rfl, rfl, rfl, rfl⟩
end Go.Proofs.Ytlomgfdepllanaa
end

section
set_option linter.unusedSimpArgs false
set_option linter.unusedVariables false
set_option maxRecDepth 100000
set_option pp.maxSteps 1500
set_option maxHeartbeats 4000000
namespace Go.Proofs.Ytlomgfdepllanaa
open Go.Bv

theorem own_set {e s e' s' : Nat} {H : Heap} {v : V} {n q : Nat} {cs cs' : List V} {z : Option Row} (h : Bv.Own e s H v n cs) (hq : rowOf H q = some ⟨e', s', cs'⟩) (hne : e' ≠ e) : Bv.Own e s (H.set q z) v n cs := by
  rcases h with h | ⟨r, h, hr, hl⟩
  · exact .inl h
  · refine .inr ⟨r, h, ?_, hl⟩
    rw [rowOf_set_ne]
    · exact hr
    · rintro rfl; rw [hq] at hr; injection hr with hr; injection hr with hr; exact hne hr
theorem fr_keep {e s e' s' : Nat} {H H' : Heap} {v : V} {n q : Nat} {cs cs' : List V} (h : Bv.Own e s H v n cs) (hF : Fr v H H') (hq : rowOf H q = some ⟨e', s', cs'⟩) (hne : e' ≠ e) : rowOf H' q = some ⟨e', s', cs'⟩ := hF q _ (by
  rintro off m rfl
  rcases h with ⟨h, _⟩ | ⟨r, h, hr, _⟩
  · cases h
  · injection h with h _ _; subst h; rw [hq] at hr; injection hr with hr; injection hr with hr; exact hne hr) hq
theorem spanned_spec (g : Nat) (f : Nat → Int) (b : Nat → Bool) (x l : List Int) (hx : x.length ≤ 1000000) (hl : l.length ≤ 17592186044416) (hg : ∀ i, i < x.length → Pu C g [.int .i64 (x.getD i 0), .int .i64 (l.getD (2 * i) 0), .int .i64 (l.getD (2 * i + 1) 0)] (.tup [.int .i64 (f i), .bool (b i)])) :
    Fc C 44 [.sl x.length (ints x), .sl l.length (ints l), .fn (.func g) [] []] [] (fun v H => ROw v H (if l.length = 2 * x.length ∧ (∀ i, i < x.length → b i = true) then limP (tab f x.length, 0) else ([], 13))) := by
  have hv : ipairs l = .fn (.func 69) [] [.rp [.sl l.length (ints l)] 0] := rfl
  refine Fc.keep (Fc.bodyT mixed Try.func44 w44 rfl Try.ntmps44 Try.results44 (Nat.le_of_ble_eq_true rfl) ?_)
  (refine Go1.out ?_; repeat' ((with_reducible first | refine Go1.mk ?_ | ((first | refine Br.dec ?_ ?_ | refine Br.beq ?_ ?_ | refine Br.bne ?_ ?_ | refine Br.mk ?_ ?_) <;> intro h)) <;> try simp -implicitDefEqProofs (maxSteps := 9000000) (disch := first | omega | (simp only [List.length_set, List.length_append, List.length_cons, List.length_nil]; omega)) only [go_sem]))
  · rw [if_neg (by omega)]; exact ow_no _
  · refine Fc.pure (ipairs_spec l) (by simp [cloL, clo, cloL_ints]) (fun g => ren_clo g _ (by simp [ipairs, cloL, clo, cloL_ints])) ?_
    (refine Go1.out ?_; repeat' ((with_reducible first | refine Go1.mk ?_ | ((first | refine Br.dec ?_ ?_ | refine Br.beq ?_ ?_ | refine Br.bne ?_ ?_ | refine Br.mk ?_ ?_) <;> intro h)) <;> try simp -implicitDefEqProofs (maxSteps := 9000000) (disch := first | omega | (simp only [List.length_set, List.length_append, List.length_cons, List.length_nil]; omega)) only [go_sem, hv]))
    have hl2 : l.length / 2 = x.length := by omega
    refine TT_range (g := 69) (lb := [.rp [.sl l.length (ints l)] 0]) (xs := twos l) (by simp -implicitDefEqProofs (maxSteps := 9000000) (disch := first | omega | (simp only [List.length_set, List.length_append, List.length_cons, List.length_nil]; omega)) only [go_sem]) (by simp [cloL, clo, cloL_ints]) (ipairs_gen l hl) (by simp [twos]) (fun k H => ∃ v, rowOf H 0 = some ⟨28, 1, [.sl x.length (ints x)]⟩ ∧ rowOf H 1 = some ⟨72, 1, [.fn (.func g) [] []]⟩ ∧ rowOf H 2 = some ⟨28, 1, [.nil]⟩ ∧ rowOf H 3 = some ⟨29, 1, [.int .i64 0]⟩ ∧ rowOf H 5 = some ⟨28, 1, [v]⟩ ∧ Bv.Own 3 1 H v k (ints (tab f k)) ∧ ∀ i, i < k → b i = true) ⟨.ref 4 0 0, rfl, rfl, rfl, rfl, rfl, .inr ⟨4, rfl, rfl, rfl⟩, fun i hi => by omega⟩ ?_ ?_
    · intro k us H hk hI lp
      obtain ⟨v, h0, h1, h2, h3, h5, hO, hb⟩ := hI
      have hkl : k < l.length / 2 := by simpa [twos_length] using (List.getElem?_eq_some_iff.1 hk).1
      obtain rfl := Option.some.inj ((twos_at hkl).symm.trans hk)
      have hgk := hg k (by omega)
      (refine TT_of mixed ?_; simp -implicitDefEqProofs (maxSteps := 9000000) (disch := first | omega | (simp only [List.length_set, List.length_append, List.length_cons, List.length_nil]; omega)) only [go_sem, putl])
      have hlv := hO.lenw (C.ty 28)
      (refine TT_of mixed ?_; simp -implicitDefEqProofs (maxSteps := 9000000) (disch := first | omega | (simp only [List.length_set, List.length_append, List.length_cons, List.length_nil]; omega)) only [go_sem, h0, h1, h5, hlv])
      skip
      cases hbk : b k with
      | false =>
        rw [hbk] at hgk
        have e3 : ∀ z, rowOf (H.set 2 z) 3 = some ⟨29, 1, [.int .i64 0]⟩ := fun z => by rw [rowOf_set_ne _ (by decide)]; exact h3
        have e2 : ∀ row z, rowOf ((H.set 2 (some row)).set 3 z) 2 = some row := fun row z => by rw [rowOf_set_ne _ (by decide)]; exact rowOf_set_eq h2
        have e33 : ∀ row z, rowOf ((H.set 2 z).set 3 (some row)) 3 = some row := fun row z => rowOf_set_eq (e3 z)
        refine Pc.pure (hgk) (by simp [cloL, clo, cloL_ints, cloL_intss]) (by intro g; simp only [go_sem, ren, renL]) ?_
        (refine Go1.out ?_; repeat' ((with_reducible first | refine Go1.mk ?_ | ((first | refine Br.dec ?_ ?_ | refine Br.beq ?_ ?_ | refine Br.bne ?_ ?_ | refine Br.mk ?_ ?_) <;> intro h)) <;> try simp -implicitDefEqProofs (maxSteps := 9000000) (disch := first | omega | (simp only [List.length_set, List.length_append, List.length_cons, List.length_nil]; omega)) only [go_sem, rangeQ, h2, e3, e2, e33]))
        rw [if_neg (fun hh => by have := hh.2 k (by omega); rw [hbk] at this; cases this)]
        exact ow_no _
      | true =>
        rw [hbk] at hgk
        refine Pc.pure (hgk) (by simp [cloL, clo, cloL_ints, cloL_intss]) (by intro g; simp only [go_sem, ren, renL]) ?_
        (refine Go1.out ?_; repeat' ((with_reducible first | refine Go1.mk ?_ | ((first | refine Br.dec ?_ ?_ | refine Br.beq ?_ ?_ | refine Br.bne ?_ ?_ | refine Br.mk ?_ ?_) <;> intro h)) <;> try simp -implicitDefEqProofs (maxSteps := 9000000) (disch := first | omega | (simp only [List.length_set, List.length_append, List.length_cons, List.length_nil]; omega)) only [go_sem, h5]))
        have hOt : Bv.Own 3 1 H v (tab f k).length (ints (tab f k)) := by rw [tab_length]; exact hO
        refine app_int hOt rfl ⟨by decide, by decide⟩ (by rw [tab_length]; omega) fun v' H' hO' hF => ?_
        have k0 := fr_keep hO hF h0 (by decide)
        have k1 := fr_keep hO hF h1 (by decide)
        have k2 := fr_keep hO hF h2 (by decide)
        have k3 := fr_keep hO hF h3 (by decide)
        have k5 := fr_keep hO hF h5 (by decide)
        have hc : cellsOf v' = [v'] ∧ scal v' = true := by rcases hO' with ⟨rfl, _⟩ | ⟨r, rfl, _⟩ <;> exact ⟨rfl, rfl⟩
        (refine Go1.out ?_; repeat' ((with_reducible first | refine Go1.mk ?_ | ((first | refine Br.dec ?_ ?_ | refine Br.beq ?_ ?_ | refine Br.bne ?_ ?_ | refine Br.mk ?_ ?_) <;> intro h)) <;> try simp -implicitDefEqProofs (maxSteps := 9000000) (disch := first | omega | (simp only [List.length_set, List.length_append, List.length_cons, List.length_nil]; omega)) only [go_sem, k5, hc.1, hc.2, rangeQ, List.all_cons, List.all_nil]))
        rw [← tab_succ, tab_length] at hO'
        refine ⟨v', by rw [rowOf_set_ne _ (by decide)]; exact k0, by rw [rowOf_set_ne _ (by decide)]; exact k1, by rw [rowOf_set_ne _ (by decide)]; exact k2, by rw [rowOf_set_ne _ (by decide)]; exact k3, rowOf_set_eq k5, own_set hO' k5 (by decide), fun i hi => ?_⟩
        rcases Nat.lt_or_ge i k with h' | h'
        · exact hb i h'
        · obtain rfl : i = k := by omega
          exact hbk
    · intro H hI
      obtain ⟨v, h0, h1, h2, h3, h5, hO, hb⟩ := hI
      rw [twos_length, hl2] at hO hb
      rw [if_pos ⟨by omega, hb⟩]
      (refine Go1.out ?_; repeat' ((with_reducible first | refine Go1.mk ?_ | ((first | refine Br.dec ?_ ?_ | refine Br.beq ?_ ?_ | refine Br.bne ?_ ?_ | refine Br.mk ?_ ?_) <;> intro h)) <;> try simp -implicitDefEqProofs (maxSteps := 9000000) (disch := first | omega | (simp only [List.length_set, List.length_append, List.length_cons, List.length_nil]; omega)) only [go_sem, h5]))
      refine Fc.mono (limited_own (s := tab f x.length) (by rw [tab_length]; exact hO) (by rw [tab_length]; omega)) ?_
      rintro v H' ⟨rfl, rfl⟩
      have hfin := fun (H : Heap) (h : Bv.Own 3 1 H v (tab f x.length).length (ints (tab f x.length))) => limP_own (H := H) h
      have hwc : cellsOf (if mayP (tab f x.length) ≠ 0 then V.nil else v) = [if mayP (tab f x.length) ≠ 0 then V.nil else v] ∧ scal (if mayP (tab f x.length) ≠ 0 then V.nil else v) = true := by
        split
        · exact ⟨rfl, rfl⟩
        · rcases hO with ⟨rfl, _⟩ | ⟨r, rfl, _⟩ <;> exact ⟨rfl, rfl⟩
      generalize (if mayP (tab f x.length) ≠ 0 then V.nil else v) = w at hfin hwc ⊢
      have e3 : ∀ z, rowOf (H'.set 2 z) 3 = some ⟨29, 1, [.int .i64 0]⟩ := fun z => by rw [rowOf_set_ne _ (by decide)]; exact h3
      have e2 : ∀ row z, rowOf ((H'.set 2 (some row)).set 3 z) 2 = some row := fun row z => by rw [rowOf_set_ne _ (by decide)]; exact rowOf_set_eq h2
      have e33 : ∀ row z, rowOf ((H'.set 2 z).set 3 (some row)) 3 = some row := fun row z => rowOf_set_eq (e3 z)
      (refine Go1.out ?_; repeat' ((with_reducible first | refine Go1.mk ?_ | ((first | refine Br.dec ?_ ?_ | refine Br.beq ?_ ?_ | refine Br.bne ?_ ?_ | refine Br.mk ?_ ?_) <;> intro h)) <;> try simp -implicitDefEqProofs (maxSteps := 9000000) (disch := first | omega | (simp only [List.length_set, List.length_append, List.length_cons, List.length_nil]; omega)) only [go_sem, h2, e3, e2, e33, hwc.1, hwc.2, List.all_cons, List.all_nil]))
      exact hfin _ (own_set (own_set (by rw [tab_length]; exact hO) h2 (by decide)) (e3 _) (by decide))
end Go.Proofs.Ytlomgfdepllanaa
end

section
set_option linter.unusedSimpArgs false
set_option linter.unusedVariables false
set_option maxRecDepth 100000
set_option pp.maxSteps 1500
set_option maxHeartbeats 4000000
namespace Go.Proofs.Ytlomgfdepllanaa
open Go.Bv
theorem slicew_one {ty : TypeId → Ty} {y : Ty} {n : Nat} {cs : List V} {H : Heap} {K : V → Prop} {e : TypeId} (hs : y.sl = some e) (ok : (ty e).ok = true) (sz : (ty e).size = 1) (hn : 1 ≤ n) (hK : K (.sl (n - 1) (cs.drop 1))) : slicew ty y (.sl n cs) (some (.int .i64 1)) none H K := by
  simp only [slicew, hs]
  refine ⟨ok, by omega, by omega, by omega, ?_⟩
  rw [sz]; exact hK
theorem intss_drop (l : List (List Int)) (k : Nat) : (intss l).drop k = intss (l.drop k) := by simp [intss]
theorem getD_drop1 (l : List (List Int)) (k : Nat) : (l.drop 1).getD k [] = l.getD (k + 1) [] := by simp [List.getD, Nat.add_comm]
theorem dropP_eq {s x : List Int} {axis : Nat} : ∀ i, dropP s [(axis : Int)] i = dropP x [(axis : Int)] i ↔ ∀ j, j < i → j ≠ axis → s.getD j 0 = x.getD j 0
  | 0 => by simp [dropP]
  | i + 1 => by
    have ih := dropP_eq (s := s) (x := x) (axis := axis) i
    by_cases h : i = axis
    · subst h
      simp only [dropP, List.contains_cons, BEq.rfl, Bool.true_or, if_true, List.append_nil]
      rw [ih]
      exact ⟨fun hh j hj hne => hh j (by omega) hne, fun hh j hj hne => hh j (by omega) hne⟩
    · have hc : ([(axis : Int)].contains (i : Int)) = false := by simp; omega
      simp only [dropP, hc, Bool.false_eq_true, if_false]
      constructor
      · intro hh
        have h2 := List.append_inj' hh rfl
        refine fun j hj hne => ?_
        rcases Nat.lt_or_ge j i with h3 | h3
        · exact ih.1 h2.1 j h3 hne
        · obtain rfl : j = i := by omega
          simpa using h2.2
      · intro hh
        rw [ih.2 fun j hj hne => hh j (by omega) hne, hh i (by omega) h]
theorem joined_spec (axis : Nat) (l : List (List Int)) (hax : axis ≤ 17592186044416) (h1 : 1 ≤ l.length) (hl : l.length ≤ 1000000) (hx : ∀ k, k < l.length → (l.getD k []).length ≤ 1000000) (hd : ∀ k, k < l.length → ∀ i, 0 ≤ (l.getD k []).getD i 0 ∧ (l.getD k []).getD i 0 ≤ 1024) : Fc C 47 [.int .i64 axis, .sl l.length (intss l)] [] (fun v H => ROw v H (limP (concP axis l))) := by
  have hx0 := hx 0 h1
  refine Fc.keep (Fc.bodyT mixed Try.func47 w47 rfl Try.ntmps47 Try.results47 (Nat.le_of_ble_eq_true rfl) ?_)
  (refine Go1.out ?_; repeat' ((with_reducible first | refine Go1.mk ?_ | ((first | refine Br.dec ?_ ?_ | refine Br.beq ?_ ?_ | refine Br.bne ?_ ?_ | refine Br.mk ?_ ?_) <;> intro h)) <;> try simp -implicitDefEqProofs (maxSteps := 9000000) (disch := first | omega | (simp only [List.length_set, List.length_append, List.length_cons, List.length_nil]; omega)) only [go_sem]))
  · rw [concP, if_neg (by omega)]; exact ow_no _
  · refine Fc.own (CloneS_spec (l.getD 0 []) (by omega)) (by simp [cloL, clo, cloL_ints]) (fun g => renL_ints g _) fun v X hO => ?_
    rcases hO with ⟨_, h', _⟩ | ⟨r, rfl, hr, _⟩
    · omega
    (refine Go1.out ?_; repeat' ((with_reducible first | refine Go1.mk ?_ | ((first | refine Br.dec ?_ ?_ | refine Br.beq ?_ ?_ | refine Br.bne ?_ ?_ | refine Br.mk ?_ ?_) <;> intro h)) <;> try simp -implicitDefEqProofs (maxSteps := 9000000) (disch := first | omega | (simp only [List.length_set, List.length_append, List.length_cons, List.length_nil]; omega)) only [go_sem]))
    refine slicew_one rfl rfl rfl h1 ?_
    rw [intss_drop]
    have hlen : (l.drop 1).length = l.length - 1 := by simp
    rw [← hlen]
    (refine Go1.out ?_; repeat' ((with_reducible first | refine Go1.mk ?_ | ((first | refine Br.dec ?_ ?_ | refine Br.beq ?_ ?_ | refine Br.bne ?_ ?_ | refine Br.mk ?_ ?_) <;> intro h)) <;> try simp -implicitDefEqProofs (maxSteps := 9000000) (disch := first | omega | (simp only [List.length_set, List.length_append, List.length_cons, List.length_nil]; omega)) only [go_sem]))
    refine TT_loop_inv (fun n ts H => ∃ k, (k ≤ l.length - 1) ∧ (∀ j, j < k + 1 → 1 ≤ j → conOk axis l j) ∧ (n = l.length - 1 - k) ∧ (rowOf H r = some ⟨3, 1, ints ((l.getD 0 []).set axis (conS axis l (k + 1)))⟩) ∧ ts.length = 58 ∧ nth ts 0 = .int .i64 axis ∧ nth ts 4 = .nil ∧ nth ts 5 = .int .i64 0 ∧ nth ts 6 = .sl (l.getD 0 []).length (ints (l.getD 0 [])) ∧ nth ts 7 = .ref r 0 (l.getD 0 []).length ∧ nth ts 20 = .sl (l.drop 1).length (intss (l.drop 1)) ∧ nth ts 21 = .int .i64 (l.drop 1).length ∧ nth ts 22 = .int .i64 k) ?_ (n := l.length - 1) ?_
    · skip
      rintro n ts H ⟨k, hk, hok, hn, hH, hL, hs0, hs4, hs5, hs6, hs7, hs20, hs21, hs22⟩
      refine TT_env [(0, .int .i64 axis), (4, .nil), (5, .int .i64 0), (6, .sl (l.getD 0 []).length (ints (l.getD 0 []))), (7, .ref r 0 (l.getD 0 []).length), (20, .sl (l.drop 1).length (intss (l.drop 1))), (21, .int .i64 (l.drop 1).length), (22, .int .i64 k)] hL (by simp only [List.forall_mem_cons, hs0, hs4, hs5, hs6, hs7, hs20, hs21, hs22, true_and]; exact fun _ h => nomatch h) ?_
      clear hL hs0 hs4 hs5 hs6 hs7 hs20 hs21 hs22 ts
      refine TT_of mixed ?_
      subst hn
      by_cases hlt : k < (l.drop 1).length
      · have hxk := hx (k + 1) (by omega)
        have bad : ¬ conOk axis l (k + 1) → limP (concP axis l) = ([], 13) := fun hb => by
          rw [concP, if_neg]
          · rfl
          · rintro ⟨_, h2⟩; exact hb ((conB_iff _ _ _).1 h2 (k + 1) (by omega) (by omega))
        (refine Go1.out ?_; repeat' ((with_reducible first | refine Go1.mk ?_ | ((first | refine Br.dec ?_ ?_ | refine Br.beq ?_ ?_ | refine Br.bne ?_ ?_ | refine Br.mk ?_ ?_) <;> intro h)) <;> try simp -implicitDefEqProofs (maxSteps := 9000000) (disch := first | omega | (simp only [List.length_set, List.length_append, List.length_cons, List.length_nil]; omega)) only [go_sem, getD_drop1]))
        · rw [bad (fun hc => by have := hc.1; omega)]; exact ow_no _
        · refine Fc.ownL (Drop_spec (l.getD (k + 1) []) [(axis : Int)] (by omega) (by simp)) ⟨.self (by simp [clo, cloL_ints]), (lit_own (e := 3) (s := 1) (cs := ints [(axis : Int)]) (n := 1) rfl).bor' (cloL_ints [(axis : Int)]), trivial⟩ (fun g => renL_ints g _) (plainL_ints _) fun v1 X1 hO1 => ?_
          have hH1 := rowOf_keep (rowOf_keep hH [some ⟨3, 1, ints [(axis : Int)]⟩]) X1
          generalize hG : H ++ [some ⟨3, 1, ints [(axis : Int)]⟩] ++ X1 = H1 at hH1
          change Bv.Own _ _ (H ++ [some ⟨3, 1, ints [(axis : Int)]⟩] ++ X1) _ _ _ at hO1
          rw [hG] at hO1
          have hG' : H ++ [some ⟨3, 1, [V.int .i64 axis]⟩] ++ X1 = H1 := hG
          rw [hG']
          (refine Go1.out ?_; repeat' ((with_reducible first | refine Go1.mk ?_ | ((first | refine Br.dec ?_ ?_ | refine Br.beq ?_ ?_ | refine Br.bne ?_ ?_ | refine Br.mk ?_ ?_) <;> intro h)) <;> try simp -implicitDefEqProofs (maxSteps := 9000000) (disch := first | omega | (simp only [List.length_set, List.length_append, List.length_cons, List.length_nil]; omega)) only [go_sem]))
          refine Fc.ownL (Drop_spec (l.getD 0 []) [(axis : Int)] (by omega) (by simp)) ⟨.self (by simp [clo, cloL_ints]), (lit_own (e := 3) (s := 1) (cs := ints [(axis : Int)]) (n := 1) rfl).bor' (cloL_ints [(axis : Int)]), trivial⟩ (fun g => renL_ints g _) (plainL_ints _) fun v2 X2 hO2 => ?_
          have hH2 := rowOf_keep (rowOf_keep hH1 [some ⟨3, 1, ints [(axis : Int)]⟩]) X2
          have hO1 := (hO1.keep [some ⟨3, 1, ints [(axis : Int)]⟩]).keep X2
          generalize hG2 : H1 ++ [some ⟨3, 1, ints [(axis : Int)]⟩] ++ X2 = H2 at hH2 hO1
          change Bv.Own _ _ (H1 ++ [some ⟨3, 1, ints [(axis : Int)]⟩] ++ X2) _ _ _ at hO2
          rw [hG2] at hO2
          have hG2' : H1 ++ [some ⟨3, 1, [V.int .i64 axis]⟩] ++ X2 = H2 := hG2
          rw [hG2']
          (refine Go1.out ?_; repeat' ((with_reducible first | refine Go1.mk ?_ | ((first | refine Br.dec ?_ ?_ | refine Br.beq ?_ ?_ | refine Br.bne ?_ ?_ | refine Br.mk ?_ ?_) <;> intro h)) <;> try simp -implicitDefEqProofs (maxSteps := 9000000) (disch := first | omega | (simp only [List.length_set, List.length_append, List.length_cons, List.length_nil]; omega)) only [go_sem]))
          refine Fc.pureL (Same_spec (dropP (l.getD (k + 1) []) [(axis : Int)] (l.getD (k + 1) []).length) (dropP (l.getD 0 []) [(axis : Int)] (l.getD 0 []).length) (by have := dropP_length (l.getD (k + 1) []) [(axis : Int)] (l.getD (k + 1) []).length; omega)) ⟨hO1.bor' (cloL_ints _), hO2.bor' (cloL_ints _), trivial⟩ (fun _ => rfl) rfl ?_
          have hb1 := conS_le (axis := axis) hd (k + 1) (by omega)
          have hb2 := hd (k + 1) (by omega) axis
          have hiff := dropP_eq (s := l.getD (k + 1) []) (x := l.getD 0 []) (axis := axis) (l.getD 0 []).length
          have hll : (l.getD (k + 1) []).length = (l.getD 0 []).length := by omega
          rw [hll]
          (refine Go1.out ?_; repeat' ((with_reducible first | refine Go1.mk ?_ | ((first | refine Br.dec ?_ ?_ | refine Br.beq ?_ ?_ | refine Br.bne ?_ ?_ | refine Br.mk ?_ ?_) <;> intro h)) <;> try simp -implicitDefEqProofs (maxSteps := 9000000) (disch := first | omega | (simp only [List.length_set, List.length_append, List.length_cons, List.length_nil]; omega)) only [go_sem, hH2]))
          · have hok1 : conOk axis l (k + 1) := ⟨hll, hiff.1 (by assumption)⟩
            refine ⟨l.length - 1 - (k + 1), by omega, k + 1, by omega, fun j h1 h2 => ?_, rfl, ?_, rfl⟩
            · rcases Nat.lt_or_ge j (k + 1) with h3 | h3
              · exact hok j h3 h2
              · obtain rfl : j = k + 1 := by omega
                exact hok1
            · rw [show conS axis l (k + 1 + 1) = conS axis l (k + 1) + (l.getD (k + 1) []).getD axis 0 from rfl]
              exact rowOf_set_eq hH2
          · rw [bad (fun hc => absurd (hiff.2 hc.2) (by assumption))]; exact ow_no _
      · obtain rfl : k = l.length - 1 := by omega
        (refine Go1.out ?_; repeat' ((with_reducible first | refine Go1.mk ?_ | ((first | refine Br.dec ?_ ?_ | refine Br.beq ?_ ?_ | refine Br.bne ?_ ?_ | refine Br.mk ?_ ?_) <;> intro h)) <;> try simp -implicitDefEqProofs (maxSteps := 9000000) (disch := first | omega | (simp only [List.length_set, List.length_append, List.length_cons, List.length_nil]; omega)) only [go_sem]))
        have hcl : l.length - 1 + 1 = l.length := by omega
        rw [hcl] at hH
        have hO : Bv.Own 3 1 H (.ref r 0 (l.getD 0 []).length) ((l.getD 0 []).set axis (conS axis l l.length)).length (ints ((l.getD 0 []).set axis (conS axis l l.length))) := .inr ⟨r, by simp, hH, by simp [ints_length]⟩
        refine Fc.mono (limited_own hO (by rw [List.length_set]; omega)) ?_
        rintro v H' ⟨rfl, rfl⟩
        (refine Go1.out ?_; repeat' ((with_reducible first | refine Go1.mk ?_ | ((first | refine Br.dec ?_ ?_ | refine Br.beq ?_ ?_ | refine Br.bne ?_ ?_ | refine Br.mk ?_ ?_) <;> intro h)) <;> try simp -implicitDefEqProofs (maxSteps := 9000000) (disch := first | omega | (simp only [List.length_set, List.length_append, List.length_cons, List.length_nil]; omega)) only [go_sem]))
        rw [concP, if_pos ⟨by omega, (conB_iff _ _ _).2 fun j h1 h2 => hok j (by omega) h2⟩]
        exact limP_own hO
    · exact ⟨0, by omega, fun j h1 h2 => by omega, by omega, by simp only [conS, Int.zero_add]; rw [set_self _ (by omega)]; exact hr, rfl, rfl, rfl, rfl, rfl, rfl, rfl, rfl, rfl⟩
end Go.Proofs.Ytlomgfdepllanaa
end

section
set_option linter.unusedSimpArgs false
set_option linter.unusedVariables false
set_option maxRecDepth 100000
set_option pp.maxSteps 1500
set_option maxHeartbeats 4000000
namespace Go.Proofs.Ytlomgfdepllanaa
open Go.Bv
theorem limP_ok0 {s : List Int} (h : mayP s = 0) : limP (s, 0) = (s, 0) := by simp [limP, h]
theorem may14 {s : List Int} (hl : s.length ≤ 4) (h : ∀ d ∈ s, 1 ≤ d) : mayP s = 0 ∨ mayP s = 14 := by
  unfold mayP
  rw [if_neg (by omega), if_pos (by simpa using h)]
  split <;> simp
theorem getD_pos {s : List Int} (h : ∀ d ∈ s, 1 ≤ d) {i : Nat} (hi : i < s.length) : 1 ≤ s.getD i 0 := h _ (getD_mem' hi)
theorem gemm_lim {o : Int} {a : List Int} {l : List (List Int)} (ho : o = 19) (h0 : mayP (l.getD 0 []) = 0) (h1 : mayP (l.getD 1 []) = 0) : limP (comeP o a l) = (if (limP (matP (l.getD 0 []) (l.getD 1 []))).2 ≠ 0 then ([], (limP (matP (l.getD 0 []) (l.getD 1 []))).2) else if fitsP (l.getD 2 []) (limP (matP (l.getD 0 []) (l.getD 1 []))).1 ≠ 0 then ([], 13) else limP (matP (l.getD 0 []) (l.getD 1 []))) := by
  have hm : (matP (l.getD 0 []) (l.getD 1 [])).2 = 0 → mayP (matP (l.getD 0 []) (l.getD 1 [])).1 = 0 ∨ mayP (matP (l.getD 0 []) (l.getD 1 [])).1 = 14 := by
    unfold matP
    split
    · rename_i hc
      intro _
      refine may14 (by simp) fun d hd => ?_
      have g0 := getD_pos (mayP_zero h0).2.1 (i := 0) (by omega)
      have g1 := getD_pos (mayP_zero h1).2.1 (i := 1) (by omega)
      simp only [List.mem_cons, List.not_mem_nil, or_false] at hd
      rcases hd with rfl | rfl <;> assumption
    · intro h; simp at h
  have hst : (matP (l.getD 0 []) (l.getD 1 [])).2 = 0 → matP (l.getD 0 []) (l.getD 1 []) = ((matP (l.getD 0 []) (l.getD 1 [])).1, 0) := fun h => Prod.ext rfl h
  rw [comeP, if_neg (by omega), if_neg (by omega), if_pos (by omega)]
  generalize matP (l.getD 0 []) (l.getD 1 []) = m at hm hst ⊢
  by_cases h2 : m.2 = 0
  · rcases hm h2 with h3 | h3
    · rw [hst h2, limP_ok0 h3]
      simp only [ne_eq, not_true_eq_false, if_false, h3]
      split
      · rfl
      · exact limP_ok0 h3
    · simp only [limP, h2, h3, ne_eq, not_true_eq_false, if_false]
      simp
  · simp only [limP, h2, ne_eq, not_false_eq_true, if_true]
theorem dropP_mem (xs axes : List Int) : ∀ i, i ≤ xs.length → ∀ d ∈ dropP xs axes i, d ∈ xs
  | 0, _ => by simp [dropP]
  | i + 1, h => by
    intro d hd
    simp only [dropP, List.mem_append] at hd
    rcases hd with hd | hd
    · exact dropP_mem xs axes i (by omega) d hd
    · split at hd
      · simp at hd
      · simp only [List.mem_cons, List.not_mem_nil, or_false] at hd
        subst hd; exact getD_mem' (by omega)
theorem dropP_prod {xs : List Int} (axes : List Int) (hp : ∀ d ∈ xs, 1 ≤ d) : ∀ i, i ≤ xs.length → 1 ≤ prodL (dropP xs axes i) ∧ prodL (dropP xs axes i) ≤ prodL (xs.take i)
  | 0, _ => by simp [dropP, prodL]
  | i + 1, h => by
    obtain ⟨h1, h2⟩ := dropP_prod axes hp i (by omega)
    have g := getD_pos hp (i := i) (by omega)
    rw [prodL_take (by omega)]
    simp only [dropP]
    split
    · rw [List.append_nil]
      refine ⟨h1, ?_⟩
      have := Int.mul_le_mul_of_nonneg_left g (show 0 ≤ prodL (xs.take i) by omega)
      omega
    · rw [prodL_snoc]
      refine ⟨?_, Int.mul_le_mul_of_nonneg_right h2 (by omega)⟩
      have := Int.mul_le_mul_of_nonneg_left g (show 0 ≤ prodL (dropP xs axes i) by omega)
      omega
theorem dropP_may {xs : List Int} (axes : List Int) (h : mayP xs = 0) : mayP (dropP xs axes xs.length) = 0 := by
  obtain ⟨h1, h2, h3⟩ := mayP_zero h
  have hl := dropP_length xs axes xs.length
  have hm : ∀ d ∈ dropP xs axes xs.length, 1 ≤ d := fun d hd => h2 d (dropP_mem xs axes _ (Nat.le_refl _) d hd)
  have hp := (dropP_prod axes h2 xs.length (Nat.le_refl _)).2
  rw [List.take_length] at hp
  unfold mayP
  rw [if_neg (by omega), if_pos (by simpa using hm), if_neg (by omega)]
theorem rise_le {a : List Int} (hr : ∀ i, i < a.length → riseAt a i) : ∀ d i, i + d < a.length → a.getD i 0 ≤ a.getD (i + d) 0
  | 0, _, _ => Int.le_refl _
  | d + 1, i, h => by
    have h1 := rise_le hr d i (by omega)
    have h2 := (hr (i + d + 1) (by omega)).2.2 (by omega)
    rw [show i + d + 1 - 1 = i + d by omega] at h2
    rw [show i + (d + 1) = i + d + 1 by omega]; omega
theorem drop_lim {o : Int} {a : List Int} {l : List (List Int)} (ho : o = 14 ∨ o = 20) (h0 : mayP (l.getD 0 []) = 0) (hr : ∀ i, i < a.length → riseAt a i) : limP (comeP o a l) = (if axP a (l.getD 0 []).length = 0 then (dropP (l.getD 0 []) a (l.getD 0 []).length, 0) else ([], 13)) := by
  rw [comeP, if_neg (by omega), if_neg (by omega), if_neg (by omega), if_neg (by omega), if_neg (by omega), if_neg (by omega), if_pos (by omega)]
  by_cases hx : a.length > 0 ∧ a.getD (a.length - 1) 0 ≥ (l.getD 0 []).length
  · rw [if_pos hx, if_neg, limP_no _ (by decide)]
    intro hax
    have hb : axB a (l.getD 0 []).length = true := by
      unfold axP at hax; split at hax
      · assumption
      · cases hax
    have := (axB_iff _ _).1 hb (a.length - 1) (by omega)
    unfold axAt at this
    omega
  · rw [if_neg hx, if_pos, limP_ok0 (dropP_may a h0)]
    rw [axP, if_pos]
    refine (axB_iff _ _).2 fun i hi => ?_
    have h1 := hr i hi
    have h2 := rise_le hr (a.length - 1 - i) i (by omega)
    rw [show i + (a.length - 1 - i) = a.length - 1 by omega] at h2
    unfold riseAt at h1
    unfold axAt
    have h3 : a.getD (a.length - 1) 0 < (l.getD 0 []).length := by
      by_cases h : a.getD (a.length - 1) 0 < (l.getD 0 []).length
      · exact h
      · exact absurd ⟨by omega, by omega⟩ hx
    refine ⟨?_, by omega⟩
    split <;> omega
theorem prodL_perm {l m : List Int} (h : l.Perm m) : prodL l = prodL m := by
  induction h with
  | nil => rfl
  | cons a _ ih => simp only [prodL, ih]
  | swap a b l => simp only [prodL]; rw [← Int.mul_assoc, ← Int.mul_assoc, Int.mul_comm a b]
  | trans _ _ h1 h2 => exact h1.trans h2
theorem turn_perm {x a : List Int} (hl : a.length = x.length) (hp : permB a = true) : (tab (fun i => x.getD (a.getD i 0).toNat 0) a.length).Perm x := by
  have h1 := List.mergeSort_perm a (fun p q => decide (p ≤ q))
  have h2 := List.pairwise_mergeSort (le := fun p q : Int => decide (p ≤ q)) (by intro p q r; simp; omega) (by intro p q; simp; omega) a
  generalize a.mergeSort (fun p q => decide (p ≤ q)) = ys at h1 h2
  have hy := (sorted_range h1 (fun p q hpq hq => by
    rw [List.pairwise_iff_getElem] at h2
    have := h2 p q (by omega) hq hpq
    simpa [List.getD, hq, show p < ys.length by omega] using this)).1 hp
  have hyl := h1.length_eq
  have e1 : tab (fun i => x.getD (a.getD i 0).toNat 0) a.length = a.map fun d => x.getD d.toNat 0 := by
    refine ext_getD (by simp [tab_length]) fun j hj => ?_
    rw [tab_length] at hj
    rw [tab_getD _ hj]
    simp [List.getD, hj]
  have e2 : (ys.map fun d => x.getD d.toNat 0) = x := by
    refine ext_getD (by simp; omega) fun j hj => ?_
    have hj' : j < ys.length := by simpa using hj
    have := hy j hj'
    simp only [List.getD, List.getElem?_eq_getElem hj', Option.getD_some] at this
    simp [List.getD, hj', this]
  rw [e1]
  exact ((h1.map _).symm).trans (by rw [e2])
theorem turn_lim {o : Int} {a : List Int} {l : List (List Int)} (ho : o = 11) (h0 : mayP (l.getD 0 []) = 0) (hp : permB a = true) : limP (comeP o a l) = (if a.length = (l.getD 0 []).length then (tab (fun i => (l.getD 0 []).getD (a.getD i 0).toNat 0) a.length, 0) else ([], 13)) := by
  rw [comeP, if_neg (by omega), if_neg (by omega), if_neg (by omega), if_pos ho]
  by_cases hl : a.length = (l.getD 0 []).length
  · rw [if_pos hl, limP_ok0]
    obtain ⟨h1, h2, h3⟩ := mayP_zero h0
    have hpm := turn_perm hl hp
    have hm : ∀ d ∈ tab (fun i => (l.getD 0 []).getD (a.getD i 0).toNat 0) a.length, 1 ≤ d := fun d hd => h2 d (hpm.mem_iff.1 hd)
    unfold mayP
    rw [if_neg (by rw [tab_length]; omega), if_pos (by simpa using hm), if_neg (by rw [prodL_perm hpm]; omega)]
  · rw [if_neg hl, limP_no _ (by decide)]
end Go.Proofs.Ytlomgfdepllanaa
end

section
set_option linter.unusedSimpArgs false
set_option linter.unusedVariables false
set_option maxRecDepth 100000
set_option pp.maxSteps 1500
set_option maxHeartbeats 4000000
namespace Go.Proofs.Ytlomgfdepllanaa
open Go.Bv
theorem limP_ok {s : List Int} (h : mayP s = 0) : limP (s, 0) = (s, 0) := by simp [limP, h]
theorem shV_lim (e : Int) (he : e ≠ 0) : limP ([], e) = ([], e) := limP_no e he
theorem limat_len (x y : List Int) : (limP (matP x y)).1.length ≤ 2 := by unfold limP matP; grind
theorem att2 {a : List Int} (h : Att a) (i : Nat) : -2147483648 ≤ a.getD i 0 ∧ a.getD i 0 ≤ 2147483648 := by
  by_cases hi : i < a.length
  · have := h i hi; omega
  · rw [show a.getD i 0 = 0 by simp [List.getD, List.getElem?_eq_none (Nat.le_of_not_lt hi)]]; omega
/-- What is told of a shape, by a number of 0. -/
theorem ow_pick {H : Heap} {u : V} {s : List Int} (b : Bool) (e : Sh) (he : e = if b = true then (s, 0) else ([], 13)) (hO : Bv.Own 3 1 H u s.length (ints s)) : ∀ v H', H' = H ∧ v = (if b = true then V.tup [u, .int .i64 0] else .tup [.nil, .int .i64 13]) → ∃ w z, v = .tup [w, .int .i64 z] ∧ Bv.Own 3 1 H w e.1.length (ints e.1) ∧ z = e.2 := by
  rintro v H' ⟨rfl, rfl⟩
  cases b with
  | true => exact ⟨u, 0, rfl, by rw [he]; exact hO, by rw [he]; rfl⟩
  | false => exact ⟨.nil, 13, rfl, by rw [he]; exact .nil _ _ _, by rw [he]; rfl⟩
theorem icome_spec (o : Int) (a : List Int) (l : List (List Int)) (h : ComeOK o a l) (ha : a.length ≤ 1000000) (hm : ∀ k, k < l.length → mayP (l.getD k []) = 0) (hperm : o = 11 → permB a = true) (hrise : (o = 14 ∨ o = 20) → ∀ i, i < a.length → riseAt a i) : Fc C 24 [.int .i64 o, .sl a.length (ints a), .sl l.length (intss l)] [] (fun v H => ROw v H (limP (comeP o a l))) := by
  obtain ⟨c1, c2, c3, c4, c5, c6, c7, c8, c9, c10⟩ := h
  have r0 := c5 0 c1
  have mat : ∀ k, k < l.length → (l.getD k []).length ≤ 17592186044416 := fun k hk => by have := c5 k hk; omega
  have clo0 : ∀ s : List Int, Bv.clo (.sl s.length (ints s)) = true := fun s => by simp [clo, cloL_ints]
  refine Fc.keep (Fc.bodyT mixed Try.func24 w24 rfl Try.ntmps24 Try.results24 (Nat.le_of_ble_eq_true rfl) ?_)
  (refine Go1.out ?_; repeat' ((with_reducible first | refine Go1.mk ?_ | ((first | refine Br.dec ?_ ?_ | refine Br.beq ?_ ?_ | refine Br.bne ?_ ?_ | refine Br.mk ?_ ?_) <;> intro h)) <;> try simp -implicitDefEqProofs (maxSteps := 9000000) (disch := first | omega | (simp only [List.length_set, List.length_append, List.length_cons, List.length_nil]; omega)) only [go_sem]))
  refine Fc.own (CloneS_spec (l.getD 0 []) (by omega)) (by simp [cloL, clo, cloL_ints]) (fun g => renL_ints g _) fun ux X1 hx => ?_
  generalize ([] ++ X1 : Heap) = G1 at hx ⊢
  (refine Go1.out ?_; repeat' ((with_reducible first | refine Go1.mk ?_ | ((first | refine Br.dec ?_ ?_ | refine Br.beq ?_ ?_ | refine Br.bne ?_ ?_ | refine Br.mk ?_ ?_) <;> intro h)) <;> try simp -implicitDefEqProofs (maxSteps := 9000000) (disch := first | omega | (simp only [List.length_set, List.length_append, List.length_cons, List.length_nil]; omega)) only [go_sem]))
  refine Fc.own (CloneI_spec a (by omega)) (by simp [cloL, clo, cloL_ints]) (fun g => renL_ints g _) fun ut X2 ht => ?_
  have hx := hx.keep X2
  generalize (G1 ++ X2 : Heap) = G at hx ht ⊢
  have bx := hx.bor' (cloL_ints _)
  have bt := ht.bor' (cloL_ints _)
  have hlx := hx.lenw (C.ty 28)
  (refine Go1.out ?_; repeat' ((with_reducible first | refine Go1.mk ?_ | ((first | refine Br.dec ?_ ?_ | refine Br.beq ?_ ?_ | refine Br.bne ?_ ?_ | refine Br.mk ?_ ?_) <;> intro h)) <;> try simp -implicitDefEqProofs (maxSteps := 9000000) (disch := first | omega | (simp only [List.length_set, List.length_append, List.length_cons, List.length_nil]; omega)) only [go_sem]))
  iterate 4
    · refine Fc.pureL (Same_spec (l.getD 0 []) (l.getD 1 []) (mat 0 c1)) ⟨bx, .self (clo0 _), trivial⟩ (fun _ => rfl) rfl ?_
      (refine Go1.out ?_; repeat' ((with_reducible first | refine Go1.mk ?_ | ((first | refine Br.dec ?_ ?_ | refine Br.beq ?_ ?_ | refine Br.bne ?_ ?_ | refine Br.mk ?_ ?_) <;> intro h)) <;> try simp -implicitDefEqProofs (maxSteps := 9000000) (disch := first | omega | (simp only [List.length_set, List.length_append, List.length_cons, List.length_nil]; omega)) only [go_sem]))
      have hc : limP (comeP o a l) = (if decide (l.getD 0 [] = l.getD 1 []) = true then (l.getD 0 [], 0) else ([], 13)) := by
        rw [comeP, if_pos (by omega)]
        by_cases he : l.getD 0 [] = l.getD 1 []
        · rw [if_pos he, if_pos (by simpa using he), limP_ok (hm 0 c1)]
        · rw [if_neg he, if_neg (by simpa using he)]; rfl
      refine Fc.mono (inone_own _ ux G) fun v H' hv => ?_
      obtain ⟨w, z, rfl, hO, rfl⟩ := ow_pick _ _ hc hx v H' hv
      obtain ⟨rfl, _⟩ := hv
      (refine Go1.out ?_; repeat' ((with_reducible first | refine Go1.mk ?_ | ((first | refine Br.dec ?_ ?_ | refine Br.beq ?_ ?_ | refine Br.bne ?_ ?_ | refine Br.mk ?_ ?_) <;> intro h)) <;> try simp -implicitDefEqProofs (maxSteps := 9000000) (disch := first | omega | (simp only [List.length_set, List.length_append, List.length_cons, List.length_nil]; omega)) only [go_sem]))
      exact ow_of _ hO
  · have l2 := c3 (by omega)
    have l3 := c4 (by omega)
    refine Fc.ow (imatrix_spec (l.getD 0 []) (l.getD 1 []) (mat 0 c1) (mat 1 l2)) ⟨bx, .self (clo0 _), trivial⟩ fun um X3 hom => ?_
    have bx := (hx.keep X3).bor' (cloL_ints _)
    have bm := hom.bor' (cloL_ints _)
    have hc := gemm_lim (o := o) (a := a) (l := l) (by assumption) (hm 0 c1) (hm 1 l2)
    have hml : (limP (matP (l.getD 0 []) (l.getD 1 []))).1.length ≤ 2 := limat_len _ _
    have hst : (limP (matP (l.getD 0 []) (l.getD 1 []))).2 = 0 → limP (matP (l.getD 0 []) (l.getD 1 [])) = ((limP (matP (l.getD 0 []) (l.getD 1 []))).1, 0) := fun h => Prod.ext rfl h
    have hsp := imatrix_spec (l.getD 0 []) (l.getD 1 []) (mat 0 c1) (mat 1 l2)
    generalize (G ++ X3 : Heap) = G3 at bx bm hom ⊢
    generalize hM : limP (matP (l.getD 0 []) (l.getD 1 [])) = m at hc hml hst hom bm hsp ⊢
    (refine Go1.out ?_; repeat' ((with_reducible first | refine Go1.mk ?_ | ((first | refine Br.dec ?_ ?_ | refine Br.beq ?_ ?_ | refine Br.bne ?_ ?_ | refine Br.mk ?_ ?_) <;> intro h)) <;> try simp -implicitDefEqProofs (maxSteps := 9000000) (disch := first | omega | (simp only [List.length_set, List.length_append, List.length_cons, List.length_nil]; omega)) only [go_sem]))
    · refine Fc.pureL (Fits_spec (l.getD 2 []) m.1 (mat 2 l3) (by omega)) ⟨.self (clo0 _), bm, trivial⟩ (fun _ => rfl) rfl ?_
      (refine Go1.out ?_; repeat' ((with_reducible first | refine Go1.mk ?_ | ((first | refine Br.dec ?_ ?_ | refine Br.beq ?_ ?_ | refine Br.bne ?_ ?_ | refine Br.mk ?_ ?_) <;> intro h)) <;> try simp -implicitDefEqProofs (maxSteps := 9000000) (disch := first | omega | (simp only [List.length_set, List.length_append, List.length_cons, List.length_nil]; omega)) only [go_sem]))
      · rw [hc, if_neg (by omega), if_pos (by assumption)]; exact ow_no _
      · refine Fc.ow hsp ⟨bx, .self (clo0 _), trivial⟩ fun u4 X4 ho4 => ?_
        (refine Go1.out ?_; repeat' ((with_reducible first | refine Go1.mk ?_ | ((first | refine Br.dec ?_ ?_ | refine Br.beq ?_ ?_ | refine Br.bne ?_ ?_ | refine Br.mk ?_ ?_) <;> intro h)) <;> try simp -implicitDefEqProofs (maxSteps := 9000000) (disch := first | omega | (simp only [List.length_set, List.length_append, List.length_cons, List.length_nil]; omega)) only [go_sem]))
        rw [hc, if_neg (by omega), if_neg (by omega)]
        exact ow_of _ ho4
    · rw [hc, if_pos (by assumption)]; exact ow_no _
  · have l2 := c3 (by omega)
    refine Fc.ow (imatrix_spec (l.getD 0 []) (l.getD 1 []) (mat 0 c1) (mat 1 l2)) ⟨bx, .self (clo0 _), trivial⟩ fun um X3 hom => ?_
    (refine Go1.out ?_; repeat' ((with_reducible first | refine Go1.mk ?_ | ((first | refine Br.dec ?_ ?_ | refine Br.beq ?_ ?_ | refine Br.bne ?_ ?_ | refine Br.mk ?_ ?_) <;> intro h)) <;> try simp -implicitDefEqProofs (maxSteps := 9000000) (disch := first | omega | (simp only [List.length_set, List.length_append, List.length_cons, List.length_nil]; omega)) only [go_sem]))
    rw [comeP, if_neg (by omega), if_pos (by omega)]
    exact ow_of _ hom
  · have hc := turn_lim (o := o) (a := a) (l := l) (by assumption) (hm 0 c1) (hperm (by assumption))
    refine Fc.ow (iturned_spec (l.getD 0 []) a (mat 0 c1) (by omega) (fun _ => c9 (by assumption))) ⟨bx, .self (clo0 _), trivial⟩ fun um X3 hom => ?_
    rw [← hc] at hom ⊢
    (refine Go1.out ?_; repeat' ((with_reducible first | refine Go1.mk ?_ | ((first | refine Br.dec ?_ ?_ | refine Br.beq ?_ ?_ | refine Br.bne ?_ ?_ | refine Br.mk ?_ ?_) <;> intro h)) <;> try simp -implicitDefEqProofs (maxSteps := 9000000) (disch := first | omega | (simp only [List.length_set, List.length_append, List.length_cons, List.length_nil]; omega)) only [go_sem]))
    exact ow_of _ hom
  · refine Fc.pureL (Count_spec (l.getD 0 []) (mat 0 c1)) ⟨bx, trivial⟩ (fun _ => rfl) rfl ?_
    (refine Go1.out ?_; repeat' ((with_reducible first | refine Go1.mk ?_ | ((first | refine Br.dec ?_ ?_ | refine Br.beq ?_ ?_ | refine Br.bne ?_ ?_ | refine Br.mk ?_ ?_) <;> intro h)) <;> try simp -implicitDefEqProofs (maxSteps := 9000000) (disch := first | omega | (simp only [List.length_set, List.length_append, List.length_cons, List.length_nil]; omega)) only [go_sem]))
    refine Fc.pureL (Count_spec a (by omega)) ⟨bt, trivial⟩ (fun _ => rfl) rfl ?_
    (refine Go1.out ?_; repeat' ((with_reducible first | refine Go1.mk ?_ | ((first | refine Br.dec ?_ ?_ | refine Br.beq ?_ ?_ | refine Br.bne ?_ ?_ | refine Br.mk ?_ ?_) <;> intro h)) <;> try simp -implicitDefEqProofs (maxSteps := 9000000) (disch := first | omega | (simp only [List.length_set, List.length_append, List.length_cons, List.length_nil]; omega)) only [go_sem]))
    have hc : limP (comeP o a l) = (if (countP (l.getD 0 []) == countP a) = true then (a, 0) else ([], 13)) := by
      rw [comeP, if_neg (by omega), if_neg (by omega), if_neg (by omega), if_neg (by omega), if_pos (by omega)]
      by_cases he : countP a = countP (l.getD 0 [])
      · have hma : mayP a = 0 := by
          have h1 : countP (l.getD 0 []) = prodL (l.getD 0 []) := by rw [countP, if_pos (hm 0 c1)]
          have h2 := prodL_pos (mayP_zero (hm 0 c1)).2.1
          by_cases hx : mayP a = 0
          · exact hx
          · have : countP a = 0 := by rw [countP, if_neg hx]
            omega
        rw [if_pos he, if_pos (by rw [beq_iff_eq]; omega), limP_ok hma]
      · rw [if_neg he, if_neg (by rw [beq_iff_eq]; omega)]; rfl
    refine Fc.mono (inone_own _ ut G) fun v H' hv => ?_
    obtain ⟨w, z, rfl, hO, rfl⟩ := ow_pick _ _ hc ht v H' hv
    obtain ⟨rfl, _⟩ := hv
    (refine Go1.out ?_; repeat' ((with_reducible first | refine Go1.mk ?_ | ((first | refine Br.dec ?_ ?_ | refine Br.beq ?_ ?_ | refine Br.bne ?_ ?_ | refine Br.mk ?_ ?_) <;> intro h)) <;> try simp -implicitDefEqProofs (maxSteps := 9000000) (disch := first | omega | (simp only [List.length_set, List.length_append, List.length_cons, List.length_nil]; omega)) only [go_sem]))
    exact ow_of _ hO
  · refine Fc.pureL (Fits_spec (l.getD 0 []) a (mat 0 c1) (by omega)) ⟨bx, bt, trivial⟩ (fun _ => rfl) rfl ?_
    (refine Go1.out ?_; repeat' ((with_reducible first | refine Go1.mk ?_ | ((first | refine Br.dec ?_ ?_ | refine Br.beq ?_ ?_ | refine Br.bne ?_ ?_ | refine Br.mk ?_ ?_) <;> intro h)) <;> try simp -implicitDefEqProofs (maxSteps := 9000000) (disch := first | omega | (simp only [List.length_set, List.length_append, List.length_cons, List.length_nil]; omega)) only [go_sem]))
    have hc : limP (comeP o a l) = (if (fitsP (l.getD 0 []) a == 0) = true then (a, 0) else ([], 13)) := by
      rw [comeP, if_neg (by omega), if_neg (by omega), if_neg (by omega), if_neg (by omega), if_neg (by omega), if_pos (by omega)]
      by_cases he : fitsP (l.getD 0 []) a = 0
      · have hma : mayP a = 0 := by
          unfold fitsP at he; rw [if_pos (hm 0 c1)] at he
          split at he
          · assumption
          · assumption
        rw [if_pos he, if_pos (by rw [beq_iff_eq]; omega), limP_ok hma]
      · rw [if_neg he, if_neg (by rw [beq_iff_eq]; omega)]; rfl
    refine Fc.mono (inone_own _ ut G) fun v H' hv => ?_
    obtain ⟨w, z, rfl, hO, rfl⟩ := ow_pick _ _ hc ht v H' hv
    obtain ⟨rfl, _⟩ := hv
    (refine Go1.out ?_; repeat' ((with_reducible first | refine Go1.mk ?_ | ((first | refine Br.dec ?_ ?_ | refine Br.beq ?_ ?_ | refine Br.bne ?_ ?_ | refine Br.mk ?_ ?_) <;> intro h)) <;> try simp -implicitDefEqProofs (maxSteps := 9000000) (disch := first | omega | (simp only [List.length_set, List.length_append, List.length_cons, List.length_nil]; omega)) only [go_sem]))
    exact ow_of _ hO
  iterate 2
    · have hc := drop_lim (o := o) (a := a) (l := l) (by omega) (hm 0 c1) (hrise (by omega))
      (refine Go1.out ?_; repeat' ((with_reducible first | refine Go1.mk ?_ | ((first | refine Br.dec ?_ ?_ | refine Br.beq ?_ ?_ | refine Br.bne ?_ ?_ | refine Br.mk ?_ ?_) <;> intro h)) <;> try simp -implicitDefEqProofs (maxSteps := 9000000) (disch := first | omega | (simp only [List.length_set, List.length_append, List.length_cons, List.length_nil]; omega)) only [go_sem, hlx]))
      refine Fc.pure (Axes_spec a _ (by omega)) (by simp [cloL, clo, cloL_ints, cloL_intss]) (by intro g; simp only [go_sem, ren, renL]) ?_
      (refine Go1.out ?_; repeat' ((with_reducible first | refine Go1.mk ?_ | ((first | refine Br.dec ?_ ?_ | refine Br.beq ?_ ?_ | refine Br.bne ?_ ?_ | refine Br.mk ?_ ?_) <;> intro h)) <;> try simp -implicitDefEqProofs (maxSteps := 9000000) (disch := first | omega | (simp only [List.length_set, List.length_append, List.length_cons, List.length_nil]; omega)) only [go_sem]))
      refine Fc.ownL (Drop_spec (l.getD 0 []) a (mat 0 c1) (by omega)) ⟨bx, .self (clo0 _), trivial⟩ (fun g => renL_ints g _) (plainL_ints _) fun ud X3 hod => ?_
      generalize (G ++ X3 : Heap) = G3 at hod ⊢
      (refine Go1.out ?_; repeat' ((with_reducible first | refine Go1.mk ?_ | ((first | refine Br.dec ?_ ?_ | refine Br.beq ?_ ?_ | refine Br.bne ?_ ?_ | refine Br.mk ?_ ?_) <;> intro h)) <;> try simp -implicitDefEqProofs (maxSteps := 9000000) (disch := first | omega | (simp only [List.length_set, List.length_append, List.length_cons, List.length_nil]; omega)) only [go_sem]))
      have hc : limP (comeP o a l) = (if (axP a (l.getD 0 []).length == 0) = true then (dropP (l.getD 0 []) a (l.getD 0 []).length, 0) else ([], 13)) := by
        rw [hc]
        by_cases he : axP a (l.getD 0 []).length = 0
        · rw [if_pos he, if_pos (by rw [beq_iff_eq]; exact he)]
        · rw [if_neg he, if_neg (by rw [beq_iff_eq]; exact he)]
      refine Fc.mono (inone_own _ ud G3) fun v H' hv => ?_
      obtain ⟨w, z, rfl, hO, rfl⟩ := ow_pick _ _ hc hod v H' hv
      obtain ⟨rfl, _⟩ := hv
      (refine Go1.out ?_; repeat' ((with_reducible first | refine Go1.mk ?_ | ((first | refine Br.dec ?_ ?_ | refine Br.beq ?_ ?_ | refine Br.bne ?_ ?_ | refine Br.mk ?_ ?_) <;> intro h)) <;> try simp -implicitDefEqProofs (maxSteps := 9000000) (disch := first | omega | (simp only [List.length_set, List.length_append, List.length_cons, List.length_nil]; omega)) only [go_sem]))
      exact ow_of _ hO
  · have hc : limP (comeP o a l) = (if a.length = 2 * (l.getD 0 []).length ∧ (∀ i, i < (l.getD 0 []).length → decide (a.getD (2 * i + 1) 0 ≤ (l.getD 0 []).getD i 0) = true) then limP (tab (slcF a) (l.getD 0 []).length, 0) else ([], 13)) := by
      rw [comeP, if_neg (by omega), if_neg (by omega), if_neg (by omega), if_neg (by omega), if_neg (by omega), if_neg (by omega), if_neg (by omega), if_pos (by omega), slcP]
      simp only [slcOk, List.all_eq_true, List.mem_range]
      split <;> rfl
    refine Fc.ow (spanned_spec 45 (slcF a) (fun i => decide (a.getD (2 * i + 1) 0 ≤ (l.getD 0 []).getD i 0)) (l.getD 0 []) a (by omega) (by omega) (fun i hi => icut_spec _ _ _ (att2 c8 _) (att2 c8 _))) ⟨bx, .self (clo0 _), .self rfl, trivial⟩ fun um X3 hom => ?_
    rw [← hc] at hom ⊢
    (refine Go1.out ?_; repeat' ((with_reducible first | refine Go1.mk ?_ | ((first | refine Br.dec ?_ ?_ | refine Br.beq ?_ ?_ | refine Br.bne ?_ ?_ | refine Br.mk ?_ ?_) <;> intro h)) <;> try simp -implicitDefEqProofs (maxSteps := 9000000) (disch := first | omega | (simp only [List.length_set, List.length_append, List.length_cons, List.length_nil]; omega)) only [go_sem]))
    exact ow_of _ hom
  · have hc : limP (comeP o a l) = (if a.length = 2 * (l.getD 0 []).length ∧ (∀ i, i < (l.getD 0 []).length → (fun _ => true) i = true) then limP (tab (fun i => (l.getD 0 []).getD i 0 + a.getD (2 * i) 0 + a.getD (2 * i + 1) 0) (l.getD 0 []).length, 0) else ([], 13)) := by
      rw [comeP, if_neg (by omega), if_neg (by omega), if_neg (by omega), if_neg (by omega), if_neg (by omega), if_neg (by omega), if_neg (by omega), if_neg (by omega), if_pos (by omega), padP]
      have : padF (l.getD 0 []) a = fun i => (l.getD 0 []).getD i 0 + a.getD (2 * i) 0 + a.getD (2 * i + 1) 0 := by funext i; simp only [padF]; omega
      rw [this]
      simp only [implies_true, and_true]
      split <;> rfl
    refine Fc.ow (spanned_spec 46 (fun i => (l.getD 0 []).getD i 0 + a.getD (2 * i) 0 + a.getD (2 * i + 1) 0) (fun _ => true) (l.getD 0 []) a (by omega) (by omega) (fun i hi => irim_spec _ _ _ (by have := c6 0 c1 i; omega) (att2 c8 _) (att2 c8 _))) ⟨bx, .self (clo0 _), .self rfl, trivial⟩ fun um X3 hom => ?_
    rw [← hc] at hom ⊢
    (refine Go1.out ?_; repeat' ((with_reducible first | refine Go1.mk ?_ | ((first | refine Br.dec ?_ ?_ | refine Br.beq ?_ ?_ | refine Br.bne ?_ ?_ | refine Br.mk ?_ ?_) <;> intro h)) <;> try simp -implicitDefEqProofs (maxSteps := 9000000) (disch := first | omega | (simp only [List.length_set, List.length_append, List.length_cons, List.length_nil]; omega)) only [go_sem]))
    exact ow_of _ hom
  · have hax := c10 (by omega)
    have hx : a.getD 0 0 = ((a.getD 0 0).toNat : Int) := by omega
    have hc : limP (comeP o a l) = limP (concP (a.getD 0 0).toNat l) := by
      rw [comeP, if_neg (by omega), if_neg (by omega), if_neg (by omega), if_neg (by omega), if_neg (by omega), if_neg (by omega), if_neg (by omega), if_neg (by omega), if_neg (by omega), if_pos (by omega)]
    have hj := joined_spec (a.getD 0 0).toNat l (by omega) c1 (by omega) (fun k hk => by have := c5 k hk; omega) c6
    rw [← hx] at hj
    (refine Go1.out ?_; repeat' ((with_reducible first | refine Go1.mk ?_ | ((first | refine Br.dec ?_ ?_ | refine Br.beq ?_ ?_ | refine Br.bne ?_ ?_ | refine Br.mk ?_ ?_) <;> intro h)) <;> try simp -implicitDefEqProofs (maxSteps := 9000000) (disch := first | omega | (simp only [List.length_set, List.length_append, List.length_cons, List.length_nil]; omega)) only [go_sem]))
    refine Fc.ow hj ⟨.self rfl, .self (by simp [clo, cloL_intss]), trivial⟩ fun um X3 hom => ?_
    rw [← hc] at hom ⊢
    (refine Go1.out ?_; repeat' ((with_reducible first | refine Go1.mk ?_ | ((first | refine Br.dec ?_ ?_ | refine Br.beq ?_ ?_ | refine Br.bne ?_ ?_ | refine Br.mk ?_ ?_) <;> intro h)) <;> try simp -implicitDefEqProofs (maxSteps := 9000000) (disch := first | omega | (simp only [List.length_set, List.length_append, List.length_cons, List.length_nil]; omega)) only [go_sem]))
    exact ow_of _ hom
  · have hc : comeP o a l = (l.getD 0 [], 0) := by
      rw [comeP, if_neg (by omega), if_neg (by omega), if_neg (by omega), if_neg (by omega), if_neg (by omega), if_neg (by omega), if_neg (by omega), if_neg (by omega), if_neg (by omega), if_neg (by omega)]
    rw [hc, limP_ok (hm 0 c1)]; exact ow_of _ hx
end Go.Proofs.Ytlomgfdepllanaa
end

section
set_option linter.unusedSimpArgs false
set_option linter.unusedVariables false
set_option maxRecDepth 100000
set_option pp.maxSteps 1500
set_option maxHeartbeats 4000000
namespace Go.Proofs.Ytlomgfdepllanaa
open Go.Bv
structure Rv (xs ys : List Int) (i : Nat) : Prop where
  len : ys.length = xs.length
  at_ : ∀ k, k < xs.length → ys.getD k 0 = if k < i ∨ xs.length - 1 - k < i then xs.getD (xs.length - 1 - k) 0 else xs.getD k 0
theorem Rv.zero (xs : List Int) : Rv xs xs 0 := ⟨rfl, fun k hk => by rw [if_neg (by omega)]⟩
theorem Rv.step {xs ys : List Int} {i : Nat} (h : Rv xs ys i) (hi : 2 * i + 1 < xs.length) : Rv xs ((ys.set i (ys.getD (xs.length - 1 - i) 0)).set (xs.length - 1 - i) (ys.getD i 0)) (i + 1) := by
  have hl := h.len
  refine ⟨by simp [hl], fun k hk => ?_⟩
  have a1 := h.at_ i (by omega)
  have a2 := h.at_ (xs.length - 1 - i) (by omega)
  have a3 := h.at_ k hk
  rw [if_neg (by omega)] at a1 a2
  by_cases e1 : k = xs.length - 1 - i
  · subst e1
    rw [Go.Bv.getD_set_eq _ (by simp; omega), a1, if_pos (by omega)]
    congr 1; omega
  · rw [Go.Bv.getD_set_ne _ e1]
    by_cases e2 : k = i
    · subst e2
      rw [Go.Bv.getD_set_eq _ (by omega), a2, if_pos (by omega)]
    · rw [Go.Bv.getD_set_ne _ e2, a3]
      by_cases e3 : k < i ∨ xs.length - 1 - k < i
      · rw [if_pos e3, if_pos (by omega)]
      · rw [if_neg e3, if_neg (by omega)]
theorem Rv.done {xs ys : List Int} {i : Nat} (h : Rv xs ys i) (hi : ¬ 2 * i + 1 < xs.length) : ys = xs.reverse := by
  refine ext_getD (by rw [h.len]; simp) fun k hk => ?_
  rw [h.len] at hk
  rw [h.at_ k hk]
  have e : xs.reverse.getD k 0 = xs.getD (xs.length - 1 - k) 0 := by simp [List.getD, List.getElem?_reverse hk]
  rw [e]
  split
  · rfl
  · congr 1; omega
theorem Reverse_spec (r : Nat) (H0 : Heap) (xs : List Int) (hr : rowOf H0 r = some ⟨3, 1, ints xs⟩) (hn : xs.length ≤ 1000000) : Fc C 48 [.ref r 0 xs.length] H0 (fun v H' => v = .tup [] ∧ H' = H0.set r (some ⟨3, 1, ints xs.reverse⟩)) := by
  have hset : ∀ row, rowOf (H0.set r (some row)) r = some row := fun row => rowOf_set_eq hr
  have hsame := row_same hr
  refine Fc.bodyT mixed Try.func48 w48 rfl Try.ntmps48 Try.results48 (Nat.le_of_ble_eq_true rfl) ?_
  (refine Go1.out ?_; repeat' ((with_reducible first | refine Go1.mk ?_ | ((first | refine Br.dec ?_ ?_ | refine Br.beq ?_ ?_ | refine Br.bne ?_ ?_ | refine Br.mk ?_ ?_) <;> intro h)) <;> try simp -implicitDefEqProofs (maxSteps := 9000000) (disch := first | omega | (simp only [List.length_set, List.length_append, List.length_cons, List.length_nil]; omega)) only [go_sem]))
  refine TT_loop_inv (fun n ts H => ∃ (i : Nat) (ys : List Int), (2 * i ≤ xs.length + 1) ∧ (Rv xs ys i) ∧ (n = xs.length - i) ∧ (H = H0.set r (some ⟨3, 1, ints ys⟩)) ∧ ts.length = 28 ∧ nth ts 0 = .ref r 0 xs.length ∧ nth ts 2 = .int .i64 i ∧ nth ts 3 = .int .i64 ((xs.length : Int) - 1 - i)) ?_ (n := xs.length) ?_
  · skip
    rintro n ts H ⟨i, ys, hi, hR, hn, hH, hL, hs0, hs2, hs3⟩
    refine TT_env [(0, .ref r 0 xs.length), (2, .int .i64 i), (3, .int .i64 ((xs.length : Int) - 1 - i))] hL (by simp only [List.forall_mem_cons, hs0, hs2, hs3, true_and]; exact fun _ h => nomatch h) ?_
    clear hL hs0 hs2 hs3 ts
    refine TT_of mixed ?_
    subst hn hH
    have hlz := hR.len
    by_cases hlt : 2 * i + 1 < xs.length
    · have hj : ((xs.length : Int) - 1 - i).toNat = xs.length - 1 - i := by omega
      (refine Go1.out ?_; repeat' ((with_reducible first | refine Go1.mk ?_ | ((first | refine Br.dec ?_ ?_ | refine Br.beq ?_ ?_ | refine Br.bne ?_ ?_ | refine Br.mk ?_ ?_) <;> intro h)) <;> try simp -implicitDefEqProofs (maxSteps := 9000000) (disch := first | omega | (simp only [List.length_set, List.length_append, List.length_cons, List.length_nil]; omega)) only [go_sem, hset, hj]))
      exact ⟨xs.length - (i + 1), by omega, i + 1, _, by omega, hR.step hlt, rfl, rfl, rfl, by congr 1; omega⟩
    · skip
      (refine Go1.out ?_; repeat' ((with_reducible first | refine Go1.mk ?_ | ((first | refine Br.dec ?_ ?_ | refine Br.beq ?_ ?_ | refine Br.bne ?_ ?_ | refine Br.mk ?_ ?_) <;> intro h)) <;> try simp -implicitDefEqProofs (maxSteps := 9000000) (disch := first | omega | (simp only [List.length_set, List.length_append, List.length_cons, List.length_nil]; omega)) only [go_sem, hset]))
      rw [hR.done hlt]
  · exact ⟨0, xs, by omega, .zero xs, rfl, hsame.symm, rfl, rfl, rfl, by simp -implicitDefEqProofs (maxSteps := 9000000) (disch := first | omega | (simp only [List.length_set, List.length_append, List.length_cons, List.length_nil]; omega)) only [go_sem]; congr 1; omega⟩
end Go.Proofs.Ytlomgfdepllanaa
end

section
set_option linter.unusedSimpArgs false
set_option linter.unusedVariables false
set_option maxRecDepth 100000
set_option pp.maxSteps 1500
set_option maxHeartbeats 4000000
namespace Go.Proofs.Ytlomgfdepllanaa
open Go.Bv
theorem Reverse_nil : Pu C 48 [.nil] (.tup []) := by
  refine Fc.keep (Fc.bodyT mixed Try.func48 w48 rfl Try.ntmps48 Try.results48 (Nat.le_of_ble_eq_true rfl) ?_)
  (refine Go1.out ?_; repeat' ((with_reducible first | refine Go1.mk ?_ | ((first | refine Br.dec ?_ ?_ | refine Br.beq ?_ ?_ | refine Br.bne ?_ ?_ | refine Br.mk ?_ ?_) <;> intro h)) <;> try simp -implicitDefEqProofs (maxSteps := 9000000) (disch := first | omega | (simp only [List.length_set, List.length_append, List.length_cons, List.length_nil]; omega)) only [go_sem]))
  refine TT_loop ?_
  refine TT_of mixed ?_
  (refine Go1.out ?_; repeat' ((with_reducible first | refine Go1.mk ?_ | ((first | refine Br.dec ?_ ?_ | refine Br.beq ?_ ?_ | refine Br.bne ?_ ?_ | refine Br.mk ?_ ?_) <;> intro h)) <;> try simp -implicitDefEqProofs (maxSteps := 9000000) (disch := first | omega | (simp only [List.length_set, List.length_append, List.length_cons, List.length_nil]; omega)) only [go_sem]))
  (refine keepP (by intro g; simp only [go_sem, ren, renL]) ?_)
  rfl
theorem Explicit_spec (v : Int) (d : Nd) (r : Nat) (hr : r ≤ 1000000) (ha : d.args.length ≤ 17592186044416) (hl : d.attrs.length ≤ 1000000) : Fc C 25 [.int .i64 v, .agg (ndC d), .sl 1 (ints [(r : Int)])] [] (fun v' H => Ret 3 1 H v' (explP v d r).length (ints (explP v d r))) := by
  have hs := rowFor_scal d.op
  refine Fc.keep (Fc.bodyT mixed Try.func25 w25 rfl Try.ntmps25 Try.results25 (Nat.le_of_ble_eq_true rfl) ?_)
  (refine Go1.out ?_; repeat' ((with_reducible first | refine Go1.mk ?_ | ((first | refine Br.dec ?_ ?_ | refine Br.beq ?_ ?_ | refine Br.bne ?_ ?_ | refine Br.mk ?_ ?_) <;> intro h)) <;> try simp -implicitDefEqProofs (maxSteps := 9000000) (disch := first | omega | (simp only [List.length_set, List.length_append, List.length_cons, List.length_nil]; omega)) only [go_sem]))
  refine Fc.own (CloneI_spec d.attrs (by omega)) (by simp [cloL, clo, cloL_ints]) (fun g => renL_ints g _) fun u X hO => ?_
  (refine Go1.out ?_; repeat' ((with_reducible first | refine Go1.mk ?_ | ((first | refine Br.dec ?_ ?_ | refine Br.beq ?_ ?_ | refine Br.bne ?_ ?_ | refine Br.mk ?_ ?_) <;> intro h)) <;> try simp -implicitDefEqProofs (maxSteps := 9000000) (disch := first | omega | (simp only [List.length_set, List.length_append, List.length_cons, List.length_nil]; omega)) only [go_sem]))
  refine Fc.pure (of_spec d.op) rfl (fun g => ren_clo g _ (by simp only [ofV, clo, cloL, cloL_rowFor, Bool.and_self])) ?_
  rw [ofV]
  (refine Go1.out ?_; repeat' ((with_reducible first | refine Go1.mk ?_ | ((first | refine Br.dec ?_ ?_ | refine Br.beq ?_ ?_ | refine Br.bne ?_ ?_ | refine Br.mk ?_ ?_) <;> intro h)) <;> try simp -implicitDefEqProofs (maxSteps := 9000000) (disch := first | omega | (simp only [List.length_set, List.length_append, List.length_cons, List.length_nil]; omega)) only [go_sem, rowC_eq, hs]))
  refine Fc.pure (Check_spec' v d ha (by omega)) (by simp [cloL, clo, cloL_ints, cloL_intss]) (by intro g; simp only [go_sem, ren, renL]) ?_
  have h0 : rowOf (some ⟨25, 3, [.int .i64 d.op, .sl d.args.length (ints d.args), .sl d.attrs.length (ints d.attrs)]⟩ :: (X ++ [some ⟨57, 8, rowC (rowFor d.op)⟩])) 0 = some ⟨25, 3, [.int .i64 d.op, .sl d.args.length (ints d.args), .sl d.attrs.length (ints d.attrs)]⟩ := rfl
  have h1 : rowOf (some ⟨25, 3, [.int .i64 d.op, .sl d.args.length (ints d.args), .sl d.attrs.length (ints d.attrs)]⟩ :: (X ++ [some ⟨57, 8, rowC (rowFor d.op)⟩])) (X.length + 1) = some ⟨57, 8, rowC (rowFor d.op)⟩ := by simp [rowOf]
  have hO : Bv.Own 3 1 (some ⟨25, 3, [.int .i64 d.op, .sl d.args.length (ints d.args), .sl d.attrs.length (ints d.attrs)]⟩ :: (X ++ [some ⟨57, 8, rowC (rowFor d.op)⟩])) u d.attrs.length (ints d.attrs) := hO.keep _
  simp only [rowC_eq] at h0 h1 hO
  generalize (some ⟨25, 3, [.int .i64 d.op, .sl d.args.length (ints d.args), .sl d.attrs.length (ints d.attrs)]⟩ :: (X ++ [some _]) : Heap) = G at h0 h1 hO ⊢
  have hnone : checkP v d = 0 → (noneP v d.op = true ↔ v ≤ (rowFor d.op).none) := fun h => by
    obtain ⟨g1, g2, _⟩ := checkP_zero h
    exact ((rowFor_facts d.op (inP_op g2)).1 v g1.1 g1.2).2
  have hlu := hO.lenw (C.ty 23)
  (refine Go1.out ?_; repeat' ((with_reducible first | refine Go1.mk ?_ | ((first | refine Br.dec ?_ ?_ | refine Br.beq ?_ ?_ | refine Br.bne ?_ ?_ | refine Br.mk ?_ ?_) <;> intro h)) <;> try simp -implicitDefEqProofs (maxSteps := 9000000) (disch := first | omega | (simp only [List.length_set, List.length_append, List.length_cons, List.length_nil]; omega)) only [go_sem, rowC_eq, hs, hlu, h0, h1]))
  · rw [explP, if_pos (.inl (by assumption))]; exact hO.ret (fun g => renL_ints g _) fun v H h => h
  · rw [explP, if_pos (.inr (.inl (by omega)))]; exact hO.ret (fun g => renL_ints g _) fun v H h => h
  · have hnn := hnone (by assumption)
    have : noneP v d.op = false := by
      cases hb : noneP v d.op with
      | false => rfl
      | true => have := hnn.1 hb; omega
    rw [explP, if_pos (.inr (.inr this))]; exact hO.ret (fun g => renL_ints g _) fun v H h => h
  all_goals
    have hnn := (hnone (by assumption)).2 (by omega)
    have hal : d.attrs = [] := List.eq_nil_of_length_eq_zero (by omega)
    have main : explP v d r = if d.op = 6 then [2] else if d.op = 17 then [0] else if d.op = 11 then down (if r > 4 then 0 else r) else up (if r > 4 then 0 else r) := by
      rw [explP, if_neg (by rw [hnn, hal]; simp [*])]
    rw [hal] at hO
    rw [main]
  iterate 2
    · refine app_int (xs := []) hO rfl ⟨by decide, by decide⟩ (by simp) fun v' H' hO' hF => ?_
      have k0 := fr_keep hO hF h0 (by decide)
      (refine Go1.out ?_; repeat' ((with_reducible first | refine Go1.mk ?_ | ((first | refine Br.dec ?_ ?_ | refine Br.beq ?_ ?_ | refine Br.bne ?_ ?_ | refine Br.mk ?_ ?_) <;> intro h)) <;> try simp -implicitDefEqProofs (maxSteps := 9000000) (disch := first | omega | (simp only [List.length_set, List.length_append, List.length_cons, List.length_nil]; omega)) only [go_sem, k0]))
      rw [if_pos (by assumption)]
      exact hO'.ret (fun g => renL_ints g _) fun v H h => h
    · refine app_int (xs := []) hO rfl ⟨by decide, by decide⟩ (by simp) fun v' H' hO' hF => ?_
      have k0 := fr_keep hO hF h0 (by decide)
      (refine Go1.out ?_; repeat' ((with_reducible first | refine Go1.mk ?_ | ((first | refine Br.dec ?_ ?_ | refine Br.beq ?_ ?_ | refine Br.bne ?_ ?_ | refine Br.mk ?_ ?_) <;> intro h)) <;> try simp -implicitDefEqProofs (maxSteps := 9000000) (disch := first | omega | (simp only [List.length_set, List.length_append, List.length_cons, List.length_nil]; omega)) only [go_sem, k0]))
      rw [if_neg (by assumption), if_pos (by assumption)]
      exact hO'.ret (fun g => renL_ints g _) fun v H h => h
    · rw [if_neg (by assumption), if_neg (by assumption)]
      obtain ⟨R, hR, hRe⟩ : ∃ R : Nat, R ≤ 4 ∧ (if r > 4 then 0 else r) = R := ⟨_, by split <;> omega, rfl⟩
      rw [hRe]
      have hgr : [(r : Int)].getD 0 0 = r := rfl
      refine TT_loop_inv (fun n ts H => ∃ (j : Nat) (u : V), (j ≤ R) ∧ (n = R - j) ∧ (rowOf H 0 = some ⟨25, 3, [.int .i64 d.op, .sl d.args.length (ints d.args), .sl d.attrs.length (ints d.attrs)]⟩) ∧ (Bv.Own 3 1 H u (up j).length (ints (up j))) ∧ ts.length = 82 ∧ nth ts 4 = .ptr 0 0 ∧ nth ts 6 = .nil ∧ nth ts 7 = u ∧ nth ts 57 = .int .i64 R ∧ nth ts 58 = .int .i64 j) ?_ (n := R) ?_
      · skip
        rintro n ts H ⟨j, u, hj, hn, hg, hu, hL, hs4, hs6, hs7, hs57, hs58⟩
        refine TT_env [(4, .ptr 0 0), (6, .nil), (7, u), (57, .int .i64 R), (58, .int .i64 j)] hL (by simp only [List.forall_mem_cons, hs4, hs6, hs7, hs57, hs58, true_and]; exact fun _ h => nomatch h) ?_
        clear hL hs4 hs6 hs7 hs57 hs58 ts
        refine TT_of mixed ?_
        subst hn
        by_cases hlt : j < R
        · skip
          (refine Go1.out ?_; repeat' ((with_reducible first | refine Go1.mk ?_ | ((first | refine Br.dec ?_ ?_ | refine Br.beq ?_ ?_ | refine Br.bne ?_ ?_ | refine Br.mk ?_ ?_) <;> intro h)) <;> try simp -implicitDefEqProofs (maxSteps := 9000000) (disch := first | omega | (simp only [List.length_set, List.length_append, List.length_cons, List.length_nil]; omega)) only [go_sem, hg]))
          refine app_int hu rfl ⟨by decide, by decide⟩ (by rw [up_length]; omega) fun v' H' hO' hF => ?_
          have k0 := fr_keep hu hF hg (by decide)
          (refine Go1.out ?_; repeat' ((with_reducible first | refine Go1.mk ?_ | ((first | refine Br.dec ?_ ?_ | refine Br.beq ?_ ?_ | refine Br.bne ?_ ?_ | refine Br.mk ?_ ?_) <;> intro h)) <;> try simp -implicitDefEqProofs (maxSteps := 9000000) (disch := first | omega | (simp only [List.length_set, List.length_append, List.length_cons, List.length_nil]; omega)) only [go_sem, k0]))
          exact ⟨R - (j + 1), by omega, j + 1, v', by omega, rfl, by rw [up_succ]; exact hO', (by (repeat' apply And.intro) <;> (first | rfl | omega | (congr 1; omega) | assumption | (congr 1; assumption)))⟩
        · have hjR : j = R := by omega
          (refine Go1.out ?_; repeat' ((with_reducible first | refine Go1.mk ?_ | ((first | refine Br.dec ?_ ?_ | refine Br.beq ?_ ?_ | refine Br.bne ?_ ?_ | refine Br.mk ?_ ?_) <;> intro h)) <;> try simp -implicitDefEqProofs (maxSteps := 9000000) (disch := first | omega | (simp only [List.length_set, List.length_append, List.length_cons, List.length_nil]; omega)) only [go_sem, hg]))
          all_goals subst hjR
          · rw [if_pos (by assumption)]
            rcases hu with ⟨rfl, h2, h3⟩ | ⟨q, rfl, hq, _⟩
            · obtain rfl : j = 0 := by rw [up_length] at h2; exact h2
              refine Fc.pure (Reverse_nil) (by simp [cloL, clo, cloL_ints, cloL_intss]) (by intro g; simp only [go_sem, ren, renL]) ?_
              (refine Go1.out ?_; repeat' ((with_reducible first | refine Go1.mk ?_ | ((first | refine Br.dec ?_ ?_ | refine Br.beq ?_ ?_ | refine Br.bne ?_ ?_ | refine Br.mk ?_ ?_) <;> intro h)) <;> try simp -implicitDefEqProofs (maxSteps := 9000000) (disch := first | omega | (simp only [List.length_set, List.length_append, List.length_cons, List.length_nil]; omega)) only [go_sem]))
              exact (Go.Bv.Own.nil _ _ _).ret (fun g => rfl) fun v H h => h
            · refine Fc.mono (Reverse_spec q _ (up j) hq (by rw [up_length]; omega)) ?_
              rintro v' H' ⟨rfl, rfl⟩
              (refine Go1.out ?_; repeat' ((with_reducible first | refine Go1.mk ?_ | ((first | refine Br.dec ?_ ?_ | refine Br.beq ?_ ?_ | refine Br.bne ?_ ?_ | refine Br.mk ?_ ?_) <;> intro h)) <;> try simp -implicitDefEqProofs (maxSteps := 9000000) (disch := first | omega | (simp only [List.length_set, List.length_append, List.length_cons, List.length_nil]; omega)) only [go_sem]))
              have hOd : Bv.Own 3 1 (H.set q (some ⟨3, 1, ints (up j).reverse⟩)) (.ref q 0 (up j).length) (down j).length (ints (down j)) := .inr ⟨q, by rw [down_length, up_length], rowOf_set_eq hq, by simp [ints_length]⟩
              exact hOd.ret (fun g => renL_ints g _) fun v H h => h
          · rw [if_neg (by assumption)]
            exact hu.ret (fun g => renL_ints g _) fun v H h => h
      · exact ⟨0, u, by omega, rfl, h0, hO, rfl, rfl, rfl, rfl, by simp -implicitDefEqProofs (maxSteps := 9000000) (disch := first | omega | (simp only [List.length_set, List.length_append, List.length_cons, List.length_nil]; omega)) only [go_sem]; congr 1; grind, rfl⟩
  · refine app_int (xs := []) hO rfl ⟨by decide, by decide⟩ (by simp) fun v' H' hO' hF => ?_
    have k0 := fr_keep hO hF h0 (by decide)
    (refine Go1.out ?_; repeat' ((with_reducible first | refine Go1.mk ?_ | ((first | refine Br.dec ?_ ?_ | refine Br.beq ?_ ?_ | refine Br.bne ?_ ?_ | refine Br.mk ?_ ?_) <;> intro h)) <;> try simp -implicitDefEqProofs (maxSteps := 9000000) (disch := first | omega | (simp only [List.length_set, List.length_append, List.length_cons, List.length_nil]; omega)) only [go_sem, k0]))
    rw [if_pos (by assumption)]
    exact hO'.ret (fun g => renL_ints g _) fun v H h => h
  · refine app_int (xs := []) hO rfl ⟨by decide, by decide⟩ (by simp) fun v' H' hO' hF => ?_
    have k0 := fr_keep hO hF h0 (by decide)
    (refine Go1.out ?_; repeat' ((with_reducible first | refine Go1.mk ?_ | ((first | refine Br.dec ?_ ?_ | refine Br.beq ?_ ?_ | refine Br.bne ?_ ?_ | refine Br.mk ?_ ?_) <;> intro h)) <;> try simp -implicitDefEqProofs (maxSteps := 9000000) (disch := first | omega | (simp only [List.length_set, List.length_append, List.length_cons, List.length_nil]; omega)) only [go_sem, k0]))
    rw [if_neg (by assumption), if_pos (by assumption)]
    exact hO'.ret (fun g => renL_ints g _) fun v H h => h
  · exfalso; have : [(r : Int)].getD 0 0 = r := rfl; omega
end Go.Proofs.Ytlomgfdepllanaa
end

section
set_option linter.unusedSimpArgs false
set_option linter.unusedVariables false
set_option maxRecDepth 100000
set_option pp.maxSteps 1500
set_option maxHeartbeats 4000000
namespace Go.Proofs.Ytlomgfdepllanaa
open Go.Bv
theorem permB_down (R : Nat) : permB (down R) = true := by
  refine (permB_iff _).2 fun i hi => ?_
  rw [down_length] at hi
  refine ⟨by rw [down_getD hi]; omega, by rw [down_getD hi, down_length]; omega, fun k hk => ?_⟩
  rw [down_getD hi, down_getD (by omega)]; omega
theorem riseB_up {R : Nat} (h : R ≤ 4) : riseB (up R) = true := by
  refine (riseB_iff _).2 fun i hi => ?_
  rw [up_length] at hi
  refine ⟨by rw [up_getD hi]; omega, by rw [up_getD hi]; omega, fun h0 => ?_⟩
  rw [up_getD hi, up_getD (by omega)]; omega
theorem farB_of {l : List Int} (h : ∀ i, i < l.length → -2147483647 ≤ l.getD i 0 ∧ l.getD i 0 ≤ 2147483647) : farB l = false := by
  simp only [farB, List.any_eq_false, decide_eq_true_eq]
  intro x hx
  obtain ⟨i, hi, rfl⟩ := List.mem_iff_getElem.1 hx
  have := h i hi
  rw [show l.getD i 0 = l[i] by simp [List.getD, hi]] at this
  omega
theorem noneP_op {v o : Int} (h : noneP v o = true) : o = 6 ∨ o = 11 ∨ o = 17 ∨ o = 14 ∨ o = 20 := by
  simp only [noneP, decide_eq_true_eq] at h; omega
/-- Explicit attributes may be the op's. -/
theorem expl_ok {v : Int} {d : Nd} (r : Nat) (hc : checkP v d = 0) : attrsP d.op (explP v d r) = true := by
  obtain ⟨hv, hin, h1, h2, h3⟩ := checkP_zero hc
  by_cases hex : checkP v d ≠ 0 ∨ d.attrs.length > 0 ∨ noneP v d.op = false
  · rw [explP, if_pos hex]
    rcases h3 with ⟨h3, h4⟩ | h3
    · rcases hex with hex | hex | hex
      · exact (hex hc).elim
      · omega
      · rw [h4] at hex; cases hex
    · exact h3
  · rw [explP, if_neg hex]
    have hn : noneP v d.op = true := by
      cases hb : noneP v d.op with
      | true => rfl
      | false => exact (hex (.inr (.inr hb))).elim
    generalize hR : (if r > 4 then 0 else r) = R
    have hR4 : R ≤ 4 := by split at hR <;> omega
    have ho := noneP_op hn
    have hd := permB_down R
    have hu := riseB_up hR4
    have fd : farB (down R) = false := farB_of fun i hi => by rw [down_length] at hi; rw [down_getD hi]; omega
    have fu : farB (up R) = false := farB_of fun i hi => by rw [up_length] at hi; rw [up_getD hi]; omega
    by_cases e6 : d.op = 6
    · rw [if_pos e6, e6]; decide
    rw [if_neg e6]
    by_cases e17 : d.op = 17
    · rw [if_pos e17, e17]; decide
    rw [if_neg e17]
    by_cases e11 : d.op = 11
    · rw [if_pos e11, e11, attrsP, fd]
      rw [show opAttrs 11 (down R) = (permB (down R) && decide ((down R).length ≤ 4)) from rfl, hd, down_length]
      simp [hR4]
    rw [if_neg e11, attrsP, fu]
    have : opAttrs d.op (up R) = riseB (up R) := by
      have e : d.op = 14 ∨ d.op = 20 := by omega
      rcases e with e | e <;> rw [e] <;> rfl
    rw [this, hu]; rfl
theorem rise_ge {l : List Int} (h : ∀ i, i < l.length → riseAt l i) : ∀ i, i < l.length → (i : Int) ≤ l.getD i 0
  | 0, hi => (h 0 hi).1
  | i + 1, hi => by
    have h1 := rise_ge h i (by omega)
    have h2 := (h (i + 1) hi).2.2 (by omega)
    rw [show i + 1 - 1 = i by omega] at h2
    omega
theorem rise_len {l : List Int} (h : ∀ i, i < l.length → riseAt l i) : l.length ≤ 4 := by
  rcases Nat.lt_or_ge 4 l.length with h1 | h1
  · have h2 := rise_ge h 4 h1
    have h3 := (h 4 h1).2.1
    omega
  · exact h1
theorem attrs_perm {a : List Int} (h : attrsP 11 a = true) : permB a = true ∧ a.length ≤ 4 := by
  simp only [attrsP, Bool.and_eq_true] at h
  have := h.2
  rw [show opAttrs 11 a = (permB a && decide (a.length ≤ 4)) from rfl] at this
  simpa using this
theorem attrs_rise {o : Int} {a : List Int} (h : attrsP o a = true) (ho : o = 14 ∨ o = 20) : ∀ i, i < a.length → riseAt a i := by
  simp only [attrsP, Bool.and_eq_true] at h
  have := h.2
  rcases ho with rfl | rfl <;> exact (riseB_iff _).1 this
theorem attrs_pair {o : Int} {a : List Int} (h : attrsP o a = true) (ho : o = 15 ∨ o = 16) : a.length ≤ 8 ∧ ∀ i, i < a.length / 2 → pairAt (decide (o = 15)) a i := by
  simp only [attrsP, Bool.and_eq_true] at h
  have := h.2
  rcases ho with rfl | rfl
  · exact ((pairB_iff true a).1 this).2
  · exact ((pairB_iff false a).1 this).2
theorem attrs_len {o : Int} {a : List Int} (h : attrsP o a = true) : a.length ≤ 8 := by
  by_cases h1 : o = 14 ∨ o = 20
  · have := rise_len (attrs_rise h h1); omega
  by_cases h2 : o = 15 ∨ o = 16
  · exact (attrs_pair h h2).1
  by_cases h3 : o = 12 ∨ o = 13
  · simp only [attrsP, Bool.and_eq_true] at h
    have h4 : mayP a = 0 := by
      have := h.2
      rcases h3 with rfl | rfl <;> exact of_decide_eq_true this
    have := (mayP_zero h4).1; omega
  simp only [attrsP, opAttrs, Bool.and_eq_true] at h
  have h4 := h.2
  split at h4
  · have := of_decide_eq_true h4; omega
  split at h4
  · have := of_decide_eq_true h4; omega
  split at h4
  · simp only [Bool.and_eq_true, decide_eq_true_eq] at h4; omega
  split at h4
  · have := of_decide_eq_true h4; omega
  · have := of_decide_eq_true h4; omega
theorem tab_pos {f : Nat → Int} {k : Nat} (h : ∀ i, i < k → 1 ≤ f i) : ∀ d ∈ tab f k, 1 ≤ d := by
  intro d hd
  simp only [tab, List.mem_map, List.mem_range] at hd
  obtain ⟨i, hi, rfl⟩ := hd
  exact h i hi
theorem conS_pos {axis : Nat} {l : List (List Int)} (hd : ∀ k, k < l.length → 1 ≤ (l.getD k []).getD axis 0) : ∀ k, k ≤ l.length → (k : Int) ≤ conS axis l k
  | 0, _ => by simp [conS]
  | k + 1, h => by
    have h1 := conS_pos hd k (by omega)
    have h2 := hd k (by omega)
    simp only [conS]; omega
/-- What comes may be, or is too great. -/
theorem come_14 {o : Int} {a : List Int} {l : List (List Int)} (h : ComeOK o a l) (ha : attrsP o a = true) (hm : ∀ k, k < l.length → mayP (l.getD k []) = 0) : (comeP o a l).2 = 0 → mayP (comeP o a l).1 = 0 ∨ mayP (comeP o a l).1 = 14 := by
  have m0 := hm 0 h.one
  obtain ⟨q1, q2, q3⟩ := mayP_zero m0
  have hmat : o = 10 ∨ o = 19 → (matP (l.getD 0 []) (l.getD 1 [])).2 = 0 → mayP (matP (l.getD 0 []) (l.getD 1 [])).1 = 0 ∨ mayP (matP (l.getD 0 []) (l.getD 1 [])).1 = 14 := by
    intro ho
    have h1 := hm 1 (h.two (by omega))
    unfold matP
    split
    · rename_i hc
      intro _
      refine may14 (by simp) fun d hd => ?_
      have g0 := getD_pos q2 (i := 0) (by omega)
      have g1 := getD_pos (mayP_zero h1).2.1 (i := 1) (by omega)
      simp only [List.mem_cons, List.not_mem_nil, or_false] at hd
      rcases hd with rfl | rfl <;> assumption
    · intro h; simp at h
  unfold comeP
  split
  · split
    · exact fun _ => .inl m0
    · intro h; simp at h
  split
  · exact hmat (by omega)
  split
  · split
    · intro h; exact absurd h (by assumption)
    · split
      · intro h; simp at h
      · split
        · intro h; simp at h
        · exact fun _ => hmat (by omega) (by omega)
  split
  · split
    · rename_i h11 hl
      intro _
      have hp := (attrs_perm (h11 ▸ ha)).1
      have hpm := turn_perm hl hp
      exact may14 (by rw [tab_length]; omega) fun d hd => q2 d (hpm.mem_iff.1 hd)
    · intro h; simp at h
  split
  · split
    · rename_i he
      intro _
      have h1 : countP (l.getD 0 []) = prodL (l.getD 0 []) := by rw [countP, if_pos m0]
      have h2 := prodL_pos q2
      by_cases hx : mayP a = 0
      · exact .inl hx
      · have : countP a = 0 := by rw [countP, if_neg hx]
        omega
    · intro h; simp at h
  split
  · split
    · rename_i he
      intro _
      unfold fitsP at he; rw [if_pos m0] at he
      split at he
      · exact .inl (by assumption)
      · exact .inl he
    · intro h; simp at h
  split
  · split
    · intro h; simp at h
    · exact fun _ => .inl (dropP_may a m0)
  split
  · unfold slcP
    split
    · rename_i ho hl
      intro _
      refine may14 (by rw [tab_length]; omega) (tab_pos fun i hi => ?_)
      have := (attrs_pair ha (.inl ho)).2 i (by omega)
      have := this.2.2 (by simpa using ho)
      unfold slcF; omega
    · intro h; simp at h
  split
  · unfold padP
    split
    · rename_i ho hl
      intro _
      refine may14 (by rw [tab_length]; omega) (tab_pos fun i hi => ?_)
      have g0 := getD_pos q2 hi
      have := (attrs_pair ha (.inr ho)).2 i (by omega)
      have h1 := this.1
      have h2 := this.2.1
      unfold padF; omega
    · intro h; simp at h
  split
  · unfold concP
    split
    · rename_i ho hl
      intro _
      refine may14 (by rw [List.length_set]; omega) fun d hd => ?_
      rcases List.mem_or_eq_of_mem_set hd with hd | rfl
      · exact q2 d hd
      · have := conS_pos (axis := (a.getD 0 0).toNat) (l := l) (fun k hk => by
          obtain ⟨_, g2, _⟩ := mayP_zero (hm k hk)
          refine getD_pos g2 ?_
          rcases Nat.eq_zero_or_pos k with rfl | hk0
          · exact hl.1
          · have := ((conB_iff _ _ _).1 hl.2 k hk hk0).1
            omega) l.length (Nat.le_refl _)
        have := h.one
        omega
    · intro h; simp at h
  exact fun _ => .inl m0
theorem shape_lim {v : Int} {d : Nd} {l : List (List Int)} (hat : d.attrs.length ≤ 17592186044416) (hc : checkP v d = 0) (hl : l.length = d.args.length) (hm : ∀ j, j < l.length → mayP (l.getD j []) = 0) : limP (comeP d.op (explP v d (l.getD 0 []).length) l) = shapeP v d l := by
  have hok := comeOK_of (l.getD 0 []).length hat hc hl hm
  have h14 := come_14 hok (expl_ok _ hc) hm
  rw [shapeP, if_neg (by omega), if_neg (by omega), if_neg (by rw [mayL_all hm]; simp)]
  generalize comeP d.op (explP v d (l.getD 0 []).length) l = c at h14 ⊢
  obtain ⟨s, e⟩ := c
  simp only [limP] at h14 ⊢
  by_cases he : e = 0
  · subst he
    rcases h14 rfl with h | h
    · simp [h]
    · simp [h]
  · simp [he]
theorem Shape_spec (v : Int) (d : Nd) (l : List (List Int)) (ha : d.args.length ≤ 17592186044416) (hat : d.attrs.length ≤ 17592186044416) (hl : l.length ≤ 1000000) (hk : ∀ k, k < l.length → (l.getD k []).length ≤ 17592186044416) : Fc C 10 [.int .i64 v, .agg (ndC d), .sl l.length (intss l)] [] (fun u H => ROw u H (shapeP v d l)) := by
  refine Fc.keep (Fc.bodyT mixed Try.func10 w10 rfl Try.ntmps10 Try.results10 (Nat.le_of_ble_eq_true rfl) ?_)
  (refine Go1.out ?_; repeat' ((with_reducible first | refine Go1.mk ?_ | ((first | refine Br.dec ?_ ?_ | refine Br.beq ?_ ?_ | refine Br.bne ?_ ?_ | refine Br.mk ?_ ?_) <;> intro h)) <;> try simp -implicitDefEqProofs (maxSteps := 9000000) (disch := first | omega | (simp only [List.length_set, List.length_append, List.length_cons, List.length_nil]; omega)) only [go_sem]))
  refine Fc.pure (Check_spec' v d ha hat) (by simp [cloL, clo, cloL_ints, cloL_intss]) (by intro g; simp only [go_sem, ren, renL]) ?_
  (refine Go1.out ?_; repeat' ((with_reducible first | refine Go1.mk ?_ | ((first | refine Br.dec ?_ ?_ | refine Br.beq ?_ ?_ | refine Br.bne ?_ ?_ | refine Br.mk ?_ ?_) <;> intro h)) <;> try simp -implicitDefEqProofs (maxSteps := 9000000) (disch := first | omega | (simp only [List.length_set, List.length_append, List.length_cons, List.length_nil]; omega)) only [go_sem]))
  · rw [shapeP, if_pos (by assumption)]; exact ow_no _
  · rw [shapeP, if_neg (by omega), if_pos (by omega)]; exact ow_no _
  · skip
    refine TT_loop_inv (fun n ts H => ∃ i, (i ≤ l.length) ∧ (∀ j, j < i → mayP (l.getD j []) = 0) ∧ (n = l.length - i) ∧ (H = [some ⟨25, 3, ndC d⟩]) ∧ ts.length = 50 ∧ nth ts 0 = .int .i64 v ∧ nth ts 2 = .sl l.length (intss l) ∧ nth ts 4 = .ptr 0 0 ∧ nth ts 24 = .sl l.length (intss l) ∧ nth ts 25 = .int .i64 l.length ∧ nth ts 26 = .int .i64 i) ?_ (n := l.length) ?_
    · skip
      rintro n ts H ⟨i, hi, hm, hn, hH, hL, hs0, hs2, hs4, hs24, hs25, hs26⟩
      refine TT_env [(0, .int .i64 v), (2, .sl l.length (intss l)), (4, .ptr 0 0), (24, .sl l.length (intss l)), (25, .int .i64 l.length), (26, .int .i64 i)] hL (by simp only [List.forall_mem_cons, hs0, hs2, hs4, hs24, hs25, hs26, true_and]; exact fun _ h => nomatch h) ?_
      clear hL hs0 hs2 hs4 hs24 hs25 hs26 ts
      refine TT_of mixed ?_
      subst hn hH
      by_cases hlt : i < l.length
      · have hki := hk i hlt
        (refine Go1.out ?_; repeat' ((with_reducible first | refine Go1.mk ?_ | ((first | refine Br.dec ?_ ?_ | refine Br.beq ?_ ?_ | refine Br.bne ?_ ?_ | refine Br.mk ?_ ?_) <;> intro h)) <;> try simp -implicitDefEqProofs (maxSteps := 9000000) (disch := first | omega | (simp only [List.length_set, List.length_append, List.length_cons, List.length_nil]; omega)) only [go_sem]))
        refine Fc.pure (May_spec _ hki) (by simp [cloL, clo, cloL_ints, cloL_intss]) (by intro g; simp only [go_sem, ren, renL]) ?_
        (refine Go1.out ?_; repeat' ((with_reducible first | refine Go1.mk ?_ | ((first | refine Br.dec ?_ ?_ | refine Br.beq ?_ ?_ | refine Br.bne ?_ ?_ | refine Br.mk ?_ ?_) <;> intro h)) <;> try simp -implicitDefEqProofs (maxSteps := 9000000) (disch := first | omega | (simp only [List.length_set, List.length_append, List.length_cons, List.length_nil]; omega)) only [go_sem]))
        · rw [shapeP, if_neg (by omega), if_neg (by omega), if_pos (by rw [mayL_at hm hlt (by assumption)]; assumption), mayL_at hm hlt (by assumption)]
          exact ow_no _
        · exact ⟨_, by omega, i + 1, by omega, allS hm (by assumption), rfl, (by (repeat' apply And.intro) <;> (first | rfl | omega | (congr 1; omega) | assumption | (congr 1; assumption)))⟩
      · obtain rfl : i = l.length := by omega
        have hc : checkP v d = 0 := by assumption
        have hll : l.length = d.args.length := by omega
        have hok := comeOK_of (l.getD 0 []).length hat hc hll hm
        have hat2 := expl_ok (l.getD 0 []).length hc
        have hlen := attrs_len hat2
        have h1 := hok.one
        have hr := hok.rank 0 h1
        have hs := shape_lim hat hc hll hm
        have hdl : d.attrs.length ≤ 1000000 := by
          obtain ⟨_, _, _, _, h3⟩ := checkP_zero hc
          rcases h3 with ⟨h3, _⟩ | h3
          · omega
          · have := attrs_len h3; omega
        (refine Go1.out ?_; repeat' ((with_reducible first | refine Go1.mk ?_ | ((first | refine Br.dec ?_ ?_ | refine Br.beq ?_ ?_ | refine Br.bne ?_ ?_ | refine Br.mk ?_ ?_) <;> intro h)) <;> try simp -implicitDefEqProofs (maxSteps := 9000000) (disch := first | omega | (simp only [List.length_set, List.length_append, List.length_cons, List.length_nil]; omega)) only [go_sem]))
        refine Pc.ownL (Explicit_spec v d (l.getD 0 []).length (by omega) ha hdl) ⟨.self rfl, .self (by simp [clo, cloL, cloL_ints]), (lit_own (H := [some ⟨25, 3, ndC d⟩]) (e := 3) (s := 1) (cs := ints [((l.getD 0 []).length : Int)]) (n := 1) rfl).bor' (cloL_ints [((l.getD 0 []).length : Int)]), trivial⟩ (by simp [ints_length]) (fun g => renL_ints g _) (plainL_ints _) fun ua X hO => ?_
        (refine Go1.out ?_; repeat' ((with_reducible first | refine Go1.mk ?_ | ((first | refine Br.dec ?_ ?_ | refine Br.beq ?_ ?_ | refine Br.bne ?_ ?_ | refine Br.mk ?_ ?_) <;> intro h)) <;> try simp -implicitDefEqProofs (maxSteps := 9000000) (disch := first | omega | (simp only [List.length_set, List.length_append, List.length_cons, List.length_nil]; omega)) only [go_sem]))
        refine Pc.ow (icome_spec _ _ _ hok (by omega) hm (fun h => (attrs_perm (h ▸ hat2)).1) (fun h => attrs_rise hat2 h)) ⟨.self rfl, hO.bor' (cloL_ints _), .self (by simp [clo, cloL_intss]), trivial⟩ fun w X2 hw => ?_
        rw [hs] at hw ⊢
        (refine Go1.out ?_; repeat' ((with_reducible first | refine Go1.mk ?_ | ((first | refine Br.dec ?_ ?_ | refine Br.beq ?_ ?_ | refine Br.bne ?_ ?_ | refine Br.mk ?_ ?_) <;> intro h)) <;> try simp -implicitDefEqProofs (maxSteps := 9000000) (disch := first | omega | (simp only [List.length_set, List.length_append, List.length_cons, List.length_nil]; omega)) only [go_sem]))
        exact ow_of _ hw
    · exact ⟨0, by omega, fun j hj => by omega, rfl, rfl, rfl, rfl, rfl, rfl, rfl, rfl, rfl⟩
end Go.Proofs.Ytlomgfdepllanaa
end

section
set_option linter.unusedSimpArgs false
set_option linter.unusedVariables false
set_option maxRecDepth 100000
set_option pp.maxSteps 1500
set_option maxHeartbeats 4000000
namespace Go.Proofs.Ytlomgfdepllanaa
open Go.Bv
theorem mkCells_int (n : Nat) : mkCells n [.int .i64 0] = ints (List.replicate n 0) := by
  induction n with
  | zero => rfl
  | succ n ih => rw [show mkCells (n + 1) [V.int .i64 0] = [V.int .i64 0] ++ mkCells n [V.int .i64 0] by simp [mkCells, List.replicate_succ], ih]; rfl
theorem makew_int {ty : TypeId → Ty} {t e n : Nat} {H : Heap} {K : V → Heap → Prop} (hs : (ty t).sl = some e) (hok : (ty e).ok = true) (hz : zsOf (ty e) = [.int .i64 0]) (h1 : (ty e).size = 1) (hb : (ty e).bytes = 8) (hn : n ≤ 17592186044416)
    (h : K (.ref H.length 0 n) (H ++ [some ⟨e, 1, ints (List.replicate n 0)⟩])) : makew ty t (.int .i64 n) (.int .i64 n) H K := by
  simp only [makew, hs]
  refine ⟨hok, trivial, by omega, by omega, by rw [hb]; simp; omega, ?_⟩
  rw [h1, hz, mkCells_int]; exact h
theorem node_spec (o : Int) (k : Nat) (u : V) (H0 : Heap) (hk : k ≤ 1000) (hu : kn u = true) (hc : cellsOf u = [u]) (hs : scal u = true) : Fc C 21 [.int .i64 o, .int .i64 k, u] H0 (fun v H => v = .agg [.int .i64 o, .ref (H0.length + 1) 0 k, u] ∧ H = H0 ++ [some ⟨25, 3, [.int .i64 o, .ref (H0.length + 1) 0 k, u]⟩, some ⟨3, 1, ints (List.replicate k 0)⟩]) := by
  refine Fc.bodyT mixed Try.func21 w21 rfl Try.ntmps21 Try.results21 (Nat.le_of_ble_eq_true rfl) ?_
  (refine Go1.out ?_; repeat' ((with_reducible first | refine Go1.mk ?_ | ((first | refine Br.dec ?_ ?_ | refine Br.beq ?_ ?_ | refine Br.bne ?_ ?_ | refine Br.mk ?_ ?_) <;> intro h)) <;> try simp -implicitDefEqProofs (maxSteps := 9000000) (disch := first | omega | (simp only [List.length_set, List.length_append, List.length_cons, List.length_nil]; omega)) only [go_sem, hu, hc, hs]))
  refine makew_int rfl rfl rfl rfl rfl (by omega) ?_
  (refine Go1.out ?_; repeat' ((with_reducible first | refine Go1.mk ?_ | ((first | refine Br.dec ?_ ?_ | refine Br.beq ?_ ?_ | refine Br.bne ?_ ?_ | refine Br.mk ?_ ?_) <;> intro h)) <;> try simp -implicitDefEqProofs (maxSteps := 9000000) (disch := first | omega | (simp only [List.length_set, List.length_append, List.length_cons, List.length_nil]; omega)) only [go_sem, hu, hc, hs, List.length_append]))
theorem Shape_call {v : Int} {d : Nd} {l : List (List Int)} {args : List V} {H : Heap} {K : V → Heap → Prop} (r : Sh) (hr : shapeP v d l = r) (hb : BorL H args [.int .i64 v, .agg (ndC d), .sl l.length (intss l)]) (hl : d.args.length ≤ 1000 ∧ d.attrs.length ≤ 1000 ∧ l.length ≤ 1000 ∧ ∀ k, k < l.length → (l.getD k []).length ≤ 1000) (hK : K (shV r) H) : Fc C 10 args H K := by
  subst hr
  exact Fc.byOwn2 (Shape_spec v d l (by omega) (by omega) (by omega) (fun k hk => by have := hl.2.2.2 k hk; omega)) hb (cloL_ints _) (plainL_ints _) rfl rfl hK
theorem Same_yes {xs : List Int} {args : List V} {H : Heap} {K : V → Heap → Prop} (hb : BorL H args [.sl xs.length (ints xs), .sl xs.length (ints xs)]) (hx : xs.length ≤ 1000) (hK : K (.bool true) H) : Fc C 13 args H K := by
  have h := SameList_spec xs xs (by omega)
  simp only [decide_true] at h
  exact Fc.pureL h hb (fun _ => rfl) rfl hK
theorem known_spec : Pu C 9 [] (.bool true) := by
  refine Fc.keep (Fc.bodyT mixed Try.func9 w9 rfl Try.ntmps9 Try.results9 (Nat.le_of_ble_eq_true rfl) ?_)
  (refine Go1.out ?_; repeat' ((with_reducible first | refine Go1.mk ?_ | ((first | refine Br.dec ?_ ?_ | refine Br.beq ?_ ?_ | refine Br.bne ?_ ?_ | refine Br.mk ?_ ?_) <;> intro h)) <;> try simp -implicitDefEqProofs (maxSteps := 9000000) (disch := first | omega | (simp only [List.length_set, List.length_append, List.length_cons, List.length_nil]; omega)) only [go_sem]))
  refine Fc.mono (node_spec 10 2 _ _ (by omega) rfl rfl rfl) ?_
  rintro v H ⟨rfl, rfl⟩
  (refine Go1.out ?_; repeat' ((with_reducible first | refine Go1.mk ?_ | ((first | refine Br.dec ?_ ?_ | refine Br.beq ?_ ?_ | refine Br.bne ?_ ?_ | refine Br.mk ?_ ?_) <;> intro h)) <;> try simp -implicitDefEqProofs (maxSteps := 9000000) (disch := first | omega | (simp only [List.length_set, List.length_append, List.length_cons, List.length_nil]; omega)) only [go_sem]))
  refine Shape_call (v := 3) (d := ⟨10, [0, 0], []⟩) (l := [[2,3],[3,4]]) ([2, 4], 0) (by decide) (borL_of 5 rfl) (by decide) ?_
  (refine Go1.out ?_; repeat' ((with_reducible first | refine Go1.mk ?_ | ((first | refine Br.dec ?_ ?_ | refine Br.beq ?_ ?_ | refine Br.bne ?_ ?_ | refine Br.mk ?_ ?_) <;> intro h)) <;> try simp -implicitDefEqProofs (maxSteps := 9000000) (disch := first | omega | (simp only [List.length_set, List.length_append, List.length_cons, List.length_nil]; omega)) only [go_sem]))
  refine Fc.mono (node_spec 10 2 _ _ (by omega) rfl rfl rfl) ?_
  rintro v H ⟨rfl, rfl⟩
  (refine Go1.out ?_; repeat' ((with_reducible first | refine Go1.mk ?_ | ((first | refine Br.dec ?_ ?_ | refine Br.beq ?_ ?_ | refine Br.bne ?_ ?_ | refine Br.mk ?_ ?_) <;> intro h)) <;> try simp -implicitDefEqProofs (maxSteps := 9000000) (disch := first | omega | (simp only [List.length_set, List.length_append, List.length_cons, List.length_nil]; omega)) only [go_sem]))
  refine Shape_call (v := 3) (d := ⟨10, [0, 0], []⟩) (l := [[2,3],[2,3]]) ([], 13) (by decide) (borL_of 5 rfl) (by decide) ?_
  (refine Go1.out ?_; repeat' ((with_reducible first | refine Go1.mk ?_ | ((first | refine Br.dec ?_ ?_ | refine Br.beq ?_ ?_ | refine Br.bne ?_ ?_ | refine Br.mk ?_ ?_) <;> intro h)) <;> try simp -implicitDefEqProofs (maxSteps := 9000000) (disch := first | omega | (simp only [List.length_set, List.length_append, List.length_cons, List.length_nil]; omega)) only [go_sem]))
  refine Fc.mono (node_spec 19 3 _ _ (by omega) rfl rfl rfl) ?_
  rintro v H ⟨rfl, rfl⟩
  (refine Go1.out ?_; repeat' ((with_reducible first | refine Go1.mk ?_ | ((first | refine Br.dec ?_ ?_ | refine Br.beq ?_ ?_ | refine Br.bne ?_ ?_ | refine Br.mk ?_ ?_) <;> intro h)) <;> try simp -implicitDefEqProofs (maxSteps := 9000000) (disch := first | omega | (simp only [List.length_set, List.length_append, List.length_cons, List.length_nil]; omega)) only [go_sem]))
  refine Shape_call (v := 2) (d := ⟨19, [0, 0, 0], []⟩) (l := [[2,3],[3,4],[4]]) ([2, 4], 0) (by decide) (borL_of 5 rfl) (by decide) ?_
  (refine Go1.out ?_; repeat' ((with_reducible first | refine Go1.mk ?_ | ((first | refine Br.dec ?_ ?_ | refine Br.beq ?_ ?_ | refine Br.bne ?_ ?_ | refine Br.mk ?_ ?_) <;> intro h)) <;> try simp -implicitDefEqProofs (maxSteps := 9000000) (disch := first | omega | (simp only [List.length_set, List.length_append, List.length_cons, List.length_nil]; omega)) only [go_sem]))
  refine Fc.mono (node_spec 19 3 _ _ (by omega) rfl rfl rfl) ?_
  rintro v H ⟨rfl, rfl⟩
  (refine Go1.out ?_; repeat' ((with_reducible first | refine Go1.mk ?_ | ((first | refine Br.dec ?_ ?_ | refine Br.beq ?_ ?_ | refine Br.bne ?_ ?_ | refine Br.mk ?_ ?_) <;> intro h)) <;> try simp -implicitDefEqProofs (maxSteps := 9000000) (disch := first | omega | (simp only [List.length_set, List.length_append, List.length_cons, List.length_nil]; omega)) only [go_sem]))
  refine Shape_call (v := 2) (d := ⟨19, [0, 0, 0], []⟩) (l := [[2,3],[3,4],[3]]) ([], 13) (by decide) (borL_of 5 rfl) (by decide) ?_
  (refine Go1.out ?_; repeat' ((with_reducible first | refine Go1.mk ?_ | ((first | refine Br.dec ?_ ?_ | refine Br.beq ?_ ?_ | refine Br.bne ?_ ?_ | refine Br.mk ?_ ?_) <;> intro h)) <;> try simp -implicitDefEqProofs (maxSteps := 9000000) (disch := first | omega | (simp only [List.length_set, List.length_append, List.length_cons, List.length_nil]; omega)) only [go_sem]))
  refine Fc.mono (node_spec 14 1 _ _ (by omega) rfl rfl rfl) ?_
  rintro v H ⟨rfl, rfl⟩
  (refine Go1.out ?_; repeat' ((with_reducible first | refine Go1.mk ?_ | ((first | refine Br.dec ?_ ?_ | refine Br.beq ?_ ?_ | refine Br.bne ?_ ?_ | refine Br.mk ?_ ?_) <;> intro h)) <;> try simp -implicitDefEqProofs (maxSteps := 9000000) (disch := first | omega | (simp only [List.length_set, List.length_append, List.length_cons, List.length_nil]; omega)) only [go_sem]))
  refine Shape_call (v := 3) (d := ⟨14, [0], [1]⟩) (l := [[2,3,4]]) ([2, 4], 0) (by decide) (borL_of 5 rfl) (by decide) ?_
  (refine Go1.out ?_; repeat' ((with_reducible first | refine Go1.mk ?_ | ((first | refine Br.dec ?_ ?_ | refine Br.beq ?_ ?_ | refine Br.bne ?_ ?_ | refine Br.mk ?_ ?_) <;> intro h)) <;> try simp -implicitDefEqProofs (maxSteps := 9000000) (disch := first | omega | (simp only [List.length_set, List.length_append, List.length_cons, List.length_nil]; omega)) only [go_sem]))
  refine Fc.mono (node_spec 16 1 _ _ (by omega) rfl rfl rfl) ?_
  rintro v H ⟨rfl, rfl⟩
  (refine Go1.out ?_; repeat' ((with_reducible first | refine Go1.mk ?_ | ((first | refine Br.dec ?_ ?_ | refine Br.beq ?_ ?_ | refine Br.bne ?_ ?_ | refine Br.mk ?_ ?_) <;> intro h)) <;> try simp -implicitDefEqProofs (maxSteps := 9000000) (disch := first | omega | (simp only [List.length_set, List.length_append, List.length_cons, List.length_nil]; omega)) only [go_sem]))
  refine Shape_call (v := 3) (d := ⟨16, [0], [1,0,0,2]⟩) (l := [[2,2]]) ([3, 4], 0) (by decide) (borL_of 5 rfl) (by decide) ?_
  (refine Go1.out ?_; repeat' ((with_reducible first | refine Go1.mk ?_ | ((first | refine Br.dec ?_ ?_ | refine Br.beq ?_ ?_ | refine Br.bne ?_ ?_ | refine Br.mk ?_ ?_) <;> intro h)) <;> try simp -implicitDefEqProofs (maxSteps := 9000000) (disch := first | omega | (simp only [List.length_set, List.length_append, List.length_cons, List.length_nil]; omega)) only [go_sem]))
  refine Fc.mono (node_spec 17 2 _ _ (by omega) rfl rfl rfl) ?_
  rintro v H ⟨rfl, rfl⟩
  (refine Go1.out ?_; repeat' ((with_reducible first | refine Go1.mk ?_ | ((first | refine Br.dec ?_ ?_ | refine Br.beq ?_ ?_ | refine Br.bne ?_ ?_ | refine Br.mk ?_ ?_) <;> intro h)) <;> try simp -implicitDefEqProofs (maxSteps := 9000000) (disch := first | omega | (simp only [List.length_set, List.length_append, List.length_cons, List.length_nil]; omega)) only [go_sem]))
  refine Shape_call (v := 3) (d := ⟨17, [0, 0], [0]⟩) (l := [[2,3],[5,3]]) ([7, 3], 0) (by decide) (borL_of 5 rfl) (by decide) ?_
  (refine Go1.out ?_; repeat' ((with_reducible first | refine Go1.mk ?_ | ((first | refine Br.dec ?_ ?_ | refine Br.beq ?_ ?_ | refine Br.bne ?_ ?_ | refine Br.mk ?_ ?_) <;> intro h)) <;> try simp -implicitDefEqProofs (maxSteps := 9000000) (disch := first | omega | (simp only [List.length_set, List.length_append, List.length_cons, List.length_nil]; omega)) only [go_sem]))
  refine Same_yes (xs := [2, 4]) (borL_of 5 rfl) (by decide) ?_
  (refine Go1.out ?_; repeat' ((with_reducible first | refine Go1.mk ?_ | ((first | refine Br.dec ?_ ?_ | refine Br.beq ?_ ?_ | refine Br.bne ?_ ?_ | refine Br.mk ?_ ?_) <;> intro h)) <;> try simp -implicitDefEqProofs (maxSteps := 9000000) (disch := first | omega | (simp only [List.length_set, List.length_append, List.length_cons, List.length_nil]; omega)) only [go_sem]))
  refine Same_yes (xs := [2, 4]) (borL_of 5 rfl) (by decide) ?_
  (refine Go1.out ?_; repeat' ((with_reducible first | refine Go1.mk ?_ | ((first | refine Br.dec ?_ ?_ | refine Br.beq ?_ ?_ | refine Br.bne ?_ ?_ | refine Br.mk ?_ ?_) <;> intro h)) <;> try simp -implicitDefEqProofs (maxSteps := 9000000) (disch := first | omega | (simp only [List.length_set, List.length_append, List.length_cons, List.length_nil]; omega)) only [go_sem]))
  refine Same_yes (xs := [2, 4]) (borL_of 5 rfl) (by decide) ?_
  (refine Go1.out ?_; repeat' ((with_reducible first | refine Go1.mk ?_ | ((first | refine Br.dec ?_ ?_ | refine Br.beq ?_ ?_ | refine Br.bne ?_ ?_ | refine Br.mk ?_ ?_) <;> intro h)) <;> try simp -implicitDefEqProofs (maxSteps := 9000000) (disch := first | omega | (simp only [List.length_set, List.length_append, List.length_cons, List.length_nil]; omega)) only [go_sem]))
  refine Same_yes (xs := [3, 4]) (borL_of 5 rfl) (by decide) ?_
  (refine Go1.out ?_; repeat' ((with_reducible first | refine Go1.mk ?_ | ((first | refine Br.dec ?_ ?_ | refine Br.beq ?_ ?_ | refine Br.bne ?_ ?_ | refine Br.mk ?_ ?_) <;> intro h)) <;> try simp -implicitDefEqProofs (maxSteps := 9000000) (disch := first | omega | (simp only [List.length_set, List.length_append, List.length_cons, List.length_nil]; omega)) only [go_sem]))
  refine Same_yes (xs := [7, 3]) (borL_of 5 rfl) (by decide) ?_
  (refine Go1.out ?_; repeat' ((with_reducible first | refine Go1.mk ?_ | ((first | refine Br.dec ?_ ?_ | refine Br.beq ?_ ?_ | refine Br.bne ?_ ?_ | refine Br.mk ?_ ?_) <;> intro h)) <;> try simp -implicitDefEqProofs (maxSteps := 9000000) (disch := first | omega | (simp only [List.length_set, List.length_append, List.length_cons, List.length_nil]; omega)) only [go_sem]))
  (refine keepP (by intro g; simp only [go_sem, ren, renL]) ?_)
  rfl
end Go.Proofs.Ytlomgfdepllanaa
end

section
set_option linter.unusedSimpArgs false
set_option linter.unusedVariables false
set_option maxRecDepth 100000
set_option pp.maxSteps 1500
set_option maxHeartbeats 4000000
namespace Go.Proofs.Ytlomgfdepllanaa
open Go.Bv
theorem SameV {xs ys : List Int} {args : List V} {H : Heap} {K : V → Heap → Prop} (hb : BorL H args [.sl xs.length (ints xs), .sl ys.length (ints ys)]) (hx : xs.length ≤ 17592186044416) (hK : K (.bool (decide (xs = ys))) H) : Fc C 13 args H K :=
  Fc.pureL (SameList_spec xs ys hx) hb (fun _ => rfl) rfl hK
theorem ShapeV {v : Int} {d : Nd} {l : List (List Int)} {args : List V} {H : Heap} {K : V → Heap → Prop} (hb : BorL H args [.int .i64 v, .agg (ndC d), .sl l.length (intss l)]) (ha : d.args.length ≤ 17592186044416) (hat : d.attrs.length ≤ 17592186044416) (hl : l.length ≤ 1000000) (hk : ∀ k, k < l.length → (l.getD k []).length ≤ 17592186044416) (hK : K (shV (shapeP v d l)) H) : Fc C 10 args H K :=
  Fc.byOwn2 (Shape_spec v d l ha hat hl hk) hb (cloL_ints _) (plainL_ints _) rfl rfl hK
theorem shapeP_len {v : Int} {d : Nd} {l : List (List Int)} : (shapeP v d l).1.length ≤ 4 := by
  unfold shapeP
  repeat' split
  all_goals first | exact Nat.zero_le _ | skip
  rename_i h
  exact (mayP_zero (Decidable.not_not.1 h)).1
theorem shapeP_zero {v : Int} {d : Nd} {l : List (List Int)} (h : (shapeP v d l).2 = 0) : checkP v d = 0 ∧ l.length = d.args.length ∧ mayL l = 0 ∧ (comeP d.op (explP v d (l.getD 0 []).length) l).2 = 0 ∧ mayP (shapeP v d l).1 = 0 ∧ shapeP v d l = comeP d.op (explP v d (l.getD 0 []).length) l := by
  unfold shapeP at h ⊢
  split at h
  · exact absurd h (by assumption)
  split at h
  · cases h
  split at h
  · exact absurd h (by assumption)
  split at h
  · exact absurd h (by assumption)
  split at h
  · cases h
  rename_i h1 h2 h3 h4 h5
  rw [if_neg h1, if_neg h2, if_neg h3, if_neg h4, if_neg h5]
  exact ⟨by omega, by omega, by omega, by omega, by omega, rfl⟩
theorem shapeP_bad {v : Int} {d : Nd} {l : List (List Int)} (h : (shapeP v d l).2 ≠ 0) : (shapeP v d l).1 = [] := by
  unfold shapeP at h ⊢
  repeat' split
  all_goals first | rfl | skip
  rename_i h1 h2 h3 h4 h5
  rw [if_neg h1, if_neg h2, if_neg h3, if_neg h4, if_neg h5] at h
  exact absurd h h4
def ErrOK (r : Sh) : Prop := r.2 = 0 ∨ r.2 = 13 ∨ r.2 = 14
theorem ErrOK.ite {p : Prop} [Decidable p] {a b : Sh} (ha : ErrOK a) (hb : ErrOK b) : ErrOK (if p then a else b) := by split <;> assumption
theorem comeP_err (o : Int) (a : List Int) (l : List (List Int)) : ErrOK (comeP o a l) := by
  have hm : ErrOK (matP (l.getD 0 []) (l.getD 1 [])) := by
    unfold matP
    split
    · exact .inl rfl
    · exact .inr (.inl rfl)
  have hm2 : ErrOK ([], (matP (l.getD 0 []) (l.getD 1 [])).2) := hm
  unfold comeP slcP padP concP
  repeat' (apply ErrOK.ite)
  all_goals first | exact hm | exact hm2 | exact .inl rfl | exact .inr (.inl rfl) | exact .inr (.inr rfl)
theorem shapeP_few {v : Int} {d : Nd} {l : List (List Int)} : (checkP v d ≠ 0 → (shapeP v d l).2 = checkP v d) ∧ (checkP v d = 0 → l.length ≠ d.args.length → (shapeP v d l).2 = 10) ∧ (checkP v d = 0 → l.length = d.args.length → mayL l ≠ 0 → (shapeP v d l).2 = mayL l) ∧
    (checkP v d = 0 → l.length = d.args.length → mayL l = 0 → (shapeP v d l).2 = 0 ∨ (shapeP v d l).2 = 13 ∨ (shapeP v d l).2 = 14) := by
  refine ⟨fun h => ?_, fun h h1 => ?_, fun h h1 h2 => ?_, fun h h1 h2 => ?_⟩
  · rw [shapeP, if_pos h]
  · rw [shapeP, if_neg (by omega), if_pos h1]
  · rw [shapeP, if_neg (by omega), if_neg (by omega), if_pos h2]
  · rw [shapeP, if_neg (by omega), if_neg (by omega), if_neg (by omega)]
    have := comeP_err d.op (explP v d (l.getD 0 []).length) l
    split
    · exact this
    · split
      · exact .inr (.inr rfl)
      · exact this
/-- A list of shapes, as long as they may be. -/
structure LOK (d : Nd) (l : List (List Int)) : Prop where
  args : d.args.length ≤ 17592186044416
  attrs : d.attrs.length ≤ 17592186044416
  each : ∀ k, k < l.length → (l.getD k []).length ≤ 17592186044416
theorem InferTells_spec (v : Int) (d : Nd) (l : List (List Int)) (hL : LOK d l) : Pu C 3 [.int .i64 v, .agg (ndC d), .sl l.length (intss l)] (.bool true) := by
  have hsl := @shapeP_len v d l
  refine Fc.keep (Fc.bodyT mixed Try.func3 w3 rfl Try.ntmps3 Try.results3 (Nat.le_of_ble_eq_true rfl) ?_)
  (refine Go1.out ?_; repeat' ((with_reducible first | refine Go1.mk ?_ | ((first | refine Br.dec ?_ ?_ | refine Br.beq ?_ ?_ | refine Br.bne ?_ ?_ | refine Br.mk ?_ ?_) <;> intro h)) <;> try simp -implicitDefEqProofs (maxSteps := 9000000) (disch := first | omega | (simp only [List.length_set, List.length_append, List.length_cons, List.length_nil]; omega)) only [go_sem]))
  · skip
    (refine Fc.pure (known_spec) (by simp [cloL, clo, cloL_ints, cloL_intss]) (by intro g; simp only [go_sem, ren, renL]) ?_; ((refine Go1.out ?_; repeat' ((with_reducible first | refine Go1.mk ?_ | ((first | refine Br.dec ?_ ?_ | refine Br.beq ?_ ?_ | refine Br.bne ?_ ?_ | refine Br.mk ?_ ?_) <;> intro h)) <;> try simp -implicitDefEqProofs (maxSteps := 9000000) (disch := first | omega | (simp only [List.length_set, List.length_append, List.length_cons, List.length_nil]; omega)) only [go_sem]))); (refine keepP (by intro g; simp only [go_sem, ren, renL]) ?_); rfl)
  · refine ShapeV (v := v) (d := d) (l := l) ⟨.self rfl, .self (by simp [clo, cloL, cloL_ints]), .self (by simp [clo, cloL_intss]), trivial⟩ hL.args hL.attrs (by omega) hL.each ?_
    (refine Go1.out ?_; repeat' ((with_reducible first | refine Go1.mk ?_ | ((first | refine Br.dec ?_ ?_ | refine Br.beq ?_ ?_ | refine Br.bne ?_ ?_ | refine Br.mk ?_ ?_) <;> intro h)) <;> try simp -implicitDefEqProofs (maxSteps := 9000000) (disch := first | omega | (simp only [List.length_set, List.length_append, List.length_cons, List.length_nil]; omega)) only [go_sem]))
    refine Pc.pure (Fc.valO (Lists_spec l (by omega)) (cloL_intss _)) (by simp [cloL, clo, cloL_ints, cloL_intss]) (by intro g; simp only [go_sem, ren, renL]) ?_
    (refine Go1.out ?_; repeat' ((with_reducible first | refine Go1.mk ?_ | ((first | refine Br.dec ?_ ?_ | refine Br.beq ?_ ?_ | refine Br.bne ?_ ?_ | refine Br.mk ?_ ?_) <;> intro h)) <;> try simp -implicitDefEqProofs (maxSteps := 9000000) (disch := first | omega | (simp only [List.length_set, List.length_append, List.length_cons, List.length_nil]; omega)) only [go_sem]))
    refine Pc.pure (Fc.valS (Shape12_spec v d l hL.args hL.attrs (by omega) hL.each)) (by simp [cloL, clo, cloL_ints, cloL_intss]) (by intro g; simp only [go_sem, ren, renL]) ?_
    (refine Go1.out ?_; repeat' ((with_reducible first | refine Go1.mk ?_ | ((first | refine Br.dec ?_ ?_ | refine Br.beq ?_ ?_ | refine Br.bne ?_ ?_ | refine Br.mk ?_ ?_) <;> intro h)) <;> try simp -implicitDefEqProofs (maxSteps := 9000000) (disch := first | omega | (simp only [List.length_set, List.length_append, List.length_cons, List.length_nil]; omega)) only [go_sem]))
    refine SameV (xs := (shapeP v d l).1) (ys := (shapeP v d l).1) ⟨.self (by simp [clo, cloL_ints]), .self (by simp [clo, cloL_ints]), trivial⟩ (by omega) ?_
    (refine Go1.out ?_; repeat' ((with_reducible first | refine Go1.mk ?_ | ((first | refine Br.dec ?_ ?_ | refine Br.beq ?_ ?_ | refine Br.bne ?_ ?_ | refine Br.mk ?_ ?_) <;> intro h)) <;> try simp -implicitDefEqProofs (maxSteps := 9000000) (disch := first | omega | (simp only [List.length_set, List.length_append, List.length_cons, List.length_nil]; omega)) only [go_sem]))
    (refine Fc.pure (known_spec) (by simp [cloL, clo, cloL_ints, cloL_intss]) (by intro g; simp only [go_sem, ren, renL]) ?_; ((refine Go1.out ?_; repeat' ((with_reducible first | refine Go1.mk ?_ | ((first | refine Br.dec ?_ ?_ | refine Br.beq ?_ ?_ | refine Br.bne ?_ ?_ | refine Br.mk ?_ ?_) <;> intro h)) <;> try simp -implicitDefEqProofs (maxSteps := 9000000) (disch := first | omega | (simp only [List.length_set, List.length_append, List.length_cons, List.length_nil]; omega)) only [go_sem]))); (refine keepP (by intro g; simp only [go_sem, ren, renL]) ?_); rfl)
theorem InferFew_spec (v : Int) (d : Nd) (l : List (List Int)) (hL : LOK d l) : Pu C 5 [.int .i64 v, .agg (ndC d), .sl l.length (intss l)] (.bool true) := by
  have hsl := @shapeP_len v d l
  obtain ⟨f1, f2, f3, f4⟩ := @shapeP_few v d l
  refine Fc.keep (Fc.bodyT mixed Try.func5 w5 rfl Try.ntmps5 Try.results5 (Nat.le_of_ble_eq_true rfl) ?_)
  (refine Go1.out ?_; repeat' ((with_reducible first | refine Go1.mk ?_ | ((first | refine Br.dec ?_ ?_ | refine Br.beq ?_ ?_ | refine Br.bne ?_ ?_ | refine Br.mk ?_ ?_) <;> intro h)) <;> try simp -implicitDefEqProofs (maxSteps := 9000000) (disch := first | omega | (simp only [List.length_set, List.length_append, List.length_cons, List.length_nil]; omega)) only [go_sem]))
  · skip
    (refine Fc.pure (known_spec) (by simp [cloL, clo, cloL_ints, cloL_intss]) (by intro g; simp only [go_sem, ren, renL]) ?_; ((refine Go1.out ?_; repeat' ((with_reducible first | refine Go1.mk ?_ | ((first | refine Br.dec ?_ ?_ | refine Br.beq ?_ ?_ | refine Br.bne ?_ ?_ | refine Br.mk ?_ ?_) <;> intro h)) <;> try simp -implicitDefEqProofs (maxSteps := 9000000) (disch := first | omega | (simp only [List.length_set, List.length_append, List.length_cons, List.length_nil]; omega)) only [go_sem]))); (refine keepP (by intro g; simp only [go_sem, ren, renL]) ?_); rfl)
  · refine ShapeV (v := v) (d := d) (l := l) ⟨.self rfl, .self (by simp [clo, cloL, cloL_ints]), .self (by simp [clo, cloL_intss]), trivial⟩ hL.args hL.attrs (by omega) hL.each ?_
    generalize shapeP v d l = r at hsl f1 f2 f3 f4 ⊢
    (refine Go1.out ?_; repeat' ((with_reducible first | refine Go1.mk ?_ | ((first | refine Br.dec ?_ ?_ | refine Br.beq ?_ ?_ | refine Br.bne ?_ ?_ | refine Br.mk ?_ ?_) <;> intro h)) <;> try simp -implicitDefEqProofs (maxSteps := 9000000) (disch := first | omega | (simp only [List.length_set, List.length_append, List.length_cons, List.length_nil]; omega)) only [go_sem]))
    refine Fc.pure (Check11_spec v d hL.args hL.attrs) (by simp [cloL, clo, cloL_ints, cloL_intss]) (by intro g; simp only [go_sem, ren, renL]) ?_
    (refine Go1.out ?_; repeat' ((with_reducible first | refine Go1.mk ?_ | ((first | refine Br.dec ?_ ?_ | refine Br.beq ?_ ?_ | refine Br.bne ?_ ?_ | refine Br.mk ?_ ?_) <;> intro h)) <;> try simp -implicitDefEqProofs (maxSteps := 9000000) (disch := first | omega | (simp only [List.length_set, List.length_append, List.length_cons, List.length_nil]; omega)) only [go_sem]))
    · skip
      refine Fc.pure (Check11_spec v d hL.args hL.attrs) (by simp [cloL, clo, cloL_ints, cloL_intss]) (by intro g; simp only [go_sem, ren, renL]) ?_
      have := f1 (by assumption)
      (refine Go1.out ?_; repeat' ((with_reducible first | refine Go1.mk ?_ | ((first | refine Br.dec ?_ ?_ | refine Br.beq ?_ ?_ | refine Br.bne ?_ ?_ | refine Br.mk ?_ ?_) <;> intro h)) <;> try simp -implicitDefEqProofs (maxSteps := 9000000) (disch := first | omega | (simp only [List.length_set, List.length_append, List.length_cons, List.length_nil]; omega)) only [go_sem]))
      (refine Fc.pure (known_spec) (by simp [cloL, clo, cloL_ints, cloL_intss]) (by intro g; simp only [go_sem, ren, renL]) ?_; ((refine Go1.out ?_; repeat' ((with_reducible first | refine Go1.mk ?_ | ((first | refine Br.dec ?_ ?_ | refine Br.beq ?_ ?_ | refine Br.bne ?_ ?_ | refine Br.mk ?_ ?_) <;> intro h)) <;> try simp -implicitDefEqProofs (maxSteps := 9000000) (disch := first | omega | (simp only [List.length_set, List.length_append, List.length_cons, List.length_nil]; omega)) only [go_sem]))); (refine keepP (by intro g; simp only [go_sem, ren, renL]) ?_); rfl)
    · have := f2 (by assumption) (by omega)
      (refine Go1.out ?_; repeat' ((with_reducible first | refine Go1.mk ?_ | ((first | refine Br.dec ?_ ?_ | refine Br.beq ?_ ?_ | refine Br.bne ?_ ?_ | refine Br.mk ?_ ?_) <;> intro h)) <;> try simp -implicitDefEqProofs (maxSteps := 9000000) (disch := first | omega | (simp only [List.length_set, List.length_append, List.length_cons, List.length_nil]; omega)) only [go_sem]))
      (refine Fc.pure (known_spec) (by simp [cloL, clo, cloL_ints, cloL_intss]) (by intro g; simp only [go_sem, ren, renL]) ?_; ((refine Go1.out ?_; repeat' ((with_reducible first | refine Go1.mk ?_ | ((first | refine Br.dec ?_ ?_ | refine Br.beq ?_ ?_ | refine Br.bne ?_ ?_ | refine Br.mk ?_ ?_) <;> intro h)) <;> try simp -implicitDefEqProofs (maxSteps := 9000000) (disch := first | omega | (simp only [List.length_set, List.length_append, List.length_cons, List.length_nil]; omega)) only [go_sem]))); (refine keepP (by intro g; simp only [go_sem, ren, renL]) ?_); rfl)
    · have hc : checkP v d = 0 := by assumption
      have hln : l.length = d.args.length := by omega
      refine TT_loop_inv (fun n ts H => ∃ i, (i ≤ l.length) ∧ (∀ j, j < i → mayP (l.getD j []) = 0) ∧ (n = l.length - i) ∧ (H = [some ⟨25, 3, ndC d⟩]) ∧ ts.length = 77 ∧ nth ts 0 = .int .i64 v ∧ nth ts 2 = .sl l.length (intss l) ∧ nth ts 4 = .ptr 0 0 ∧ nth ts 8 = .int .i64 r.2 ∧ nth ts 9 = .int .i64 i) ?_ (n := l.length) ?_
      · skip
        rintro n ts H ⟨i, hi, hm, hn, hH, hL, hs0, hs2, hs4, hs8, hs9⟩
        refine TT_env [(0, .int .i64 v), (2, .sl l.length (intss l)), (4, .ptr 0 0), (8, .int .i64 r.2), (9, .int .i64 i)] hL (by simp only [List.forall_mem_cons, hs0, hs2, hs4, hs8, hs9, true_and]; exact fun _ h => nomatch h) ?_
        clear hL hs0 hs2 hs4 hs8 hs9 ts
        refine TT_of mixed ?_
        subst hn hH
        by_cases hlt : i < l.length
        · have hki := hL.each i hlt
          by_cases h0 : mayP (l.getD i []) = 0
          · skip
            (refine Go1.out ?_; repeat' ((with_reducible first | refine Go1.mk ?_ | ((first | refine Br.dec ?_ ?_ | refine Br.beq ?_ ?_ | refine Br.bne ?_ ?_ | refine Br.mk ?_ ?_) <;> intro h)) <;> try simp -implicitDefEqProofs (maxSteps := 9000000) (disch := first | omega | (simp only [List.length_set, List.length_append, List.length_cons, List.length_nil]; omega)) only [go_sem]))
            refine Fc.pure (May6_spec _ hki) (by simp [cloL, clo, cloL_ints, cloL_intss]) (by intro g; simp only [go_sem, ren, renL]) ?_
            (refine Go1.out ?_; repeat' ((with_reducible first | refine Go1.mk ?_ | ((first | refine Br.dec ?_ ?_ | refine Br.beq ?_ ?_ | refine Br.bne ?_ ?_ | refine Br.mk ?_ ?_) <;> intro h)) <;> try simp -implicitDefEqProofs (maxSteps := 9000000) (disch := first | omega | (simp only [List.length_set, List.length_append, List.length_cons, List.length_nil]; omega)) only [go_sem]))
            exact ⟨_, by omega, i + 1, by omega, allS hm h0, rfl, (by (repeat' apply And.intro) <;> (first | rfl | omega | (congr 1; omega) | assumption | (congr 1; assumption)))⟩
          · have hx := mayL_at hm hlt h0
            have := f3 hc hln (by rw [hx]; assumption)
            have : r.2 = mayP (l.getD i []) := by omega
            (refine Go1.out ?_; repeat' ((with_reducible first | refine Go1.mk ?_ | ((first | refine Br.dec ?_ ?_ | refine Br.beq ?_ ?_ | refine Br.bne ?_ ?_ | refine Br.mk ?_ ?_) <;> intro h)) <;> try simp -implicitDefEqProofs (maxSteps := 9000000) (disch := first | omega | (simp only [List.length_set, List.length_append, List.length_cons, List.length_nil]; omega)) only [go_sem]))
            refine Fc.pure (May6_spec _ hki) (by simp [cloL, clo, cloL_ints, cloL_intss]) (by intro g; simp only [go_sem, ren, renL]) ?_
            (refine Go1.out ?_; repeat' ((with_reducible first | refine Go1.mk ?_ | ((first | refine Br.dec ?_ ?_ | refine Br.beq ?_ ?_ | refine Br.bne ?_ ?_ | refine Br.mk ?_ ?_) <;> intro h)) <;> try simp -implicitDefEqProofs (maxSteps := 9000000) (disch := first | omega | (simp only [List.length_set, List.length_append, List.length_cons, List.length_nil]; omega)) only [go_sem]))
            (refine Fc.pure (known_spec) (by simp [cloL, clo, cloL_ints, cloL_intss]) (by intro g; simp only [go_sem, ren, renL]) ?_; ((refine Go1.out ?_; repeat' ((with_reducible first | refine Go1.mk ?_ | ((first | refine Br.dec ?_ ?_ | refine Br.beq ?_ ?_ | refine Br.bne ?_ ?_ | refine Br.mk ?_ ?_) <;> intro h)) <;> try simp -implicitDefEqProofs (maxSteps := 9000000) (disch := first | omega | (simp only [List.length_set, List.length_append, List.length_cons, List.length_nil]; omega)) only [go_sem]))); (refine keepP (by intro g; simp only [go_sem, ren, renL]) ?_); rfl)
        · obtain rfl : i = l.length := by omega
          have := f4 hc hln (mayL_all hm)
          (refine Go1.out ?_; repeat' ((with_reducible first | refine Go1.mk ?_ | ((first | refine Br.dec ?_ ?_ | refine Br.beq ?_ ?_ | refine Br.bne ?_ ?_ | refine Br.mk ?_ ?_) <;> intro h)) <;> try simp -implicitDefEqProofs (maxSteps := 9000000) (disch := first | omega | (simp only [List.length_set, List.length_append, List.length_cons, List.length_nil]; omega)) only [go_sem]))
          all_goals (refine Fc.pure (known_spec) (by simp [cloL, clo, cloL_ints, cloL_intss]) (by intro g; simp only [go_sem, ren, renL]) ?_; ((refine Go1.out ?_; repeat' ((with_reducible first | refine Go1.mk ?_ | ((first | refine Br.dec ?_ ?_ | refine Br.beq ?_ ?_ | refine Br.bne ?_ ?_ | refine Br.mk ?_ ?_) <;> intro h)) <;> try simp -implicitDefEqProofs (maxSteps := 9000000) (disch := first | omega | (simp only [List.length_set, List.length_append, List.length_cons, List.length_nil]; omega)) only [go_sem]))); (refine keepP (by intro g; simp only [go_sem, ren, renL]) ?_); rfl)
      · exact ⟨0, by omega, fun j hj => by omega, rfl, rfl, rfl, rfl, rfl, rfl, rfl, rfl⟩
/-- The sum of the first few's elements. -/
def sumC (l : List (List Int)) : Nat → Int
  | 0 => 0
  | k + 1 => sumC l k + countP (l.getD k [])
theorem countP_le (s : List Int) : 0 ≤ countP s ∧ countP s ≤ 1024 := by
  unfold countP
  split
  · rename_i h
    obtain ⟨_, h2, h3⟩ := mayP_zero h
    have := prodL_pos h2
    omega
  · omega
theorem sumC_le (l : List (List Int)) : ∀ k, 0 ≤ sumC l k ∧ sumC l k ≤ 1024 * k
  | 0 => by simp [sumC]
  | k + 1 => by
    have h1 := sumC_le l k
    have h2 := countP_le (l.getD k [])
    simp only [sumC]; omega
def growP (v : Int) (d : Nd) (l : List (List Int)) : Bool := decide ((shapeP v d l).2 = 0 ∧ countP (shapeP v d l).1 > sumC l l.length)
theorem Grows_spec (v : Int) (d : Nd) (l : List (List Int)) (hL : LOK d l) (hl : l.length ≤ 1000000) : Pu C 20 [.int .i64 v, .agg (ndC d), .sl l.length (intss l)] (.bool (growP v d l)) := by
  have hsl := @shapeP_len v d l
  refine Fc.keep (Fc.bodyT mixed Try.func20 w20 rfl Try.ntmps20 Try.results20 (Nat.le_of_ble_eq_true rfl) ?_)
  (refine Go1.out ?_; repeat' ((with_reducible first | refine Go1.mk ?_ | ((first | refine Br.dec ?_ ?_ | refine Br.beq ?_ ?_ | refine Br.bne ?_ ?_ | refine Br.mk ?_ ?_) <;> intro h)) <;> try simp -implicitDefEqProofs (maxSteps := 9000000) (disch := first | omega | (simp only [List.length_set, List.length_append, List.length_cons, List.length_nil]; omega)) only [go_sem]))
  refine ShapeV (v := v) (d := d) (l := l) ⟨.self rfl, .self (by simp [clo, cloL, cloL_ints]), .self (by simp [clo, cloL_intss]), trivial⟩ hL.args hL.attrs (by omega) hL.each ?_
  unfold growP
  generalize shapeP v d l = r at hsl ⊢
  (refine Go1.out ?_; repeat' ((with_reducible first | refine Go1.mk ?_ | ((first | refine Br.dec ?_ ?_ | refine Br.beq ?_ ?_ | refine Br.bne ?_ ?_ | refine Br.mk ?_ ?_) <;> intro h)) <;> try simp -implicitDefEqProofs (maxSteps := 9000000) (disch := first | omega | (simp only [List.length_set, List.length_append, List.length_cons, List.length_nil]; omega)) only [go_sem]))
  refine TT_loop_inv (fun n ts H => ∃ i, (i ≤ l.length) ∧ (n = l.length - i) ∧ (H = [some ⟨25, 3, ndC d⟩]) ∧ ts.length = 38 ∧ nth ts 7 = .sl r.1.length (ints r.1) ∧ nth ts 8 = .int .i64 r.2 ∧ nth ts 9 = .int .i64 (sumC l i) ∧ nth ts 19 = .sl l.length (intss l) ∧ nth ts 20 = .int .i64 l.length ∧ nth ts 21 = .int .i64 i) ?_ (n := l.length) ?_
  · skip
    rintro n ts H ⟨i, hi, hn, hH, hL, hs7, hs8, hs9, hs19, hs20, hs21⟩
    refine TT_env [(7, .sl r.1.length (ints r.1)), (8, .int .i64 r.2), (9, .int .i64 (sumC l i)), (19, .sl l.length (intss l)), (20, .int .i64 l.length), (21, .int .i64 i)] hL (by simp only [List.forall_mem_cons, hs7, hs8, hs9, hs19, hs20, hs21, true_and]; exact fun _ h => nomatch h) ?_
    clear hL hs7 hs8 hs9 hs19 hs20 hs21 ts
    refine TT_of mixed ?_
    subst hn hH
    have hs1 := sumC_le l i
    by_cases hlt : i < l.length
    · have hki := hL.each i hlt
      have hc := countP_le (l.getD i [])
      (refine Go1.out ?_; repeat' ((with_reducible first | refine Go1.mk ?_ | ((first | refine Br.dec ?_ ?_ | refine Br.beq ?_ ?_ | refine Br.bne ?_ ?_ | refine Br.mk ?_ ?_) <;> intro h)) <;> try simp -implicitDefEqProofs (maxSteps := 9000000) (disch := first | omega | (simp only [List.length_set, List.length_append, List.length_cons, List.length_nil]; omega)) only [go_sem]))
      refine Fc.pure (Count_spec _ hki) (by simp [cloL, clo, cloL_ints, cloL_intss]) (by intro g; simp only [go_sem, ren, renL]) ?_
      (refine Go1.out ?_; repeat' ((with_reducible first | refine Go1.mk ?_ | ((first | refine Br.dec ?_ ?_ | refine Br.beq ?_ ?_ | refine Br.bne ?_ ?_ | refine Br.mk ?_ ?_) <;> intro h)) <;> try simp -implicitDefEqProofs (maxSteps := 9000000) (disch := first | omega | (simp only [List.length_set, List.length_append, List.length_cons, List.length_nil]; omega)) only [go_sem]))
      exact ⟨_, by omega, i + 1, by omega, rfl, (by (repeat' apply And.intro) <;> (first | rfl | omega | (congr 1; omega) | assumption | (congr 1; assumption)))⟩
    · obtain rfl : i = l.length := by omega
      (refine Go1.out ?_; repeat' ((with_reducible first | refine Go1.mk ?_ | ((first | refine Br.dec ?_ ?_ | refine Br.beq ?_ ?_ | refine Br.bne ?_ ?_ | refine Br.mk ?_ ?_) <;> intro h)) <;> try simp -implicitDefEqProofs (maxSteps := 9000000) (disch := first | omega | (simp only [List.length_set, List.length_append, List.length_cons, List.length_nil]; omega)) only [go_sem]))
      · skip
        refine Fc.pure (Count_spec _ (by omega)) (by simp [cloL, clo, cloL_ints, cloL_intss]) (by intro g; simp only [go_sem, ren, renL]) ?_
        (refine Go1.out ?_; repeat' ((with_reducible first | refine Go1.mk ?_ | ((first | refine Br.dec ?_ ?_ | refine Br.beq ?_ ?_ | refine Br.bne ?_ ?_ | refine Br.mk ?_ ?_) <;> intro h)) <;> try simp -implicitDefEqProofs (maxSteps := 9000000) (disch := first | omega | (simp only [List.length_set, List.length_append, List.length_cons, List.length_nil]; omega)) only [go_sem]))
        (refine keepP (by intro g; simp only [go_sem, ren, renL]) ?_)
        (simp only [V.tup.injEq, List.cons.injEq, V.int.injEq, V.bool.injEq, true_and, and_true]; (try rw [Bool.eq_iff_iff]); (try simp only [decide_eq_true_eq, decide_eq_false_iff_not, Decidable.not_not, true_and, and_true, Bool.not_eq_true, Bool.not_eq_eq_eq_not, Bool.not_true, Bool.and_eq_true, Bool.or_eq_true, beq_iff_eq, bne_iff_ne, ne_eq, Bool.false_eq_true, false_iff, true_iff, iff_false, iff_true]); (try omega))
      · skip
        (refine keepP (by intro g; simp only [go_sem, ren, renL]) ?_)
        (simp only [V.tup.injEq, List.cons.injEq, V.int.injEq, V.bool.injEq, true_and, and_true]; (try rw [Bool.eq_iff_iff]); (try simp only [decide_eq_true_eq, decide_eq_false_iff_not, Decidable.not_not, true_and, and_true, Bool.not_eq_true, Bool.not_eq_eq_eq_not, Bool.not_true, Bool.and_eq_true, Bool.or_eq_true, beq_iff_eq, bne_iff_ne, ne_eq, Bool.false_eq_true, false_iff, true_iff, iff_false, iff_true]); (try omega))
  · exact ⟨0, by omega, rfl, rfl, rfl, rfl, rfl, rfl, rfl, rfl, rfl⟩
theorem InferMay_spec (v : Int) (d : Nd) (l : List (List Int)) (hL : LOK d l) : Pu C 7 [.int .i64 v, .agg (ndC d), .sl l.length (intss l)] (.bool true) := by
  have hsl := @shapeP_len v d l
  refine Fc.keep (Fc.bodyT mixed Try.func7 w7 rfl Try.ntmps7 Try.results7 (Nat.le_of_ble_eq_true rfl) ?_)
  (refine Go1.out ?_; repeat' ((with_reducible first | refine Go1.mk ?_ | ((first | refine Br.dec ?_ ?_ | refine Br.beq ?_ ?_ | refine Br.bne ?_ ?_ | refine Br.mk ?_ ?_) <;> intro h)) <;> try simp -implicitDefEqProofs (maxSteps := 9000000) (disch := first | omega | (simp only [List.length_set, List.length_append, List.length_cons, List.length_nil]; omega)) only [go_sem]))
  · skip
    (refine Fc.pure (known_spec) (by simp [cloL, clo, cloL_ints, cloL_intss]) (by intro g; simp only [go_sem, ren, renL]) ?_; ((refine Go1.out ?_; repeat' ((with_reducible first | refine Go1.mk ?_ | ((first | refine Br.dec ?_ ?_ | refine Br.beq ?_ ?_ | refine Br.bne ?_ ?_ | refine Br.mk ?_ ?_) <;> intro h)) <;> try simp -implicitDefEqProofs (maxSteps := 9000000) (disch := first | omega | (simp only [List.length_set, List.length_append, List.length_cons, List.length_nil]; omega)) only [go_sem]))); (refine keepP (by intro g; simp only [go_sem, ren, renL]) ?_); rfl)
  · refine ShapeV (v := v) (d := d) (l := l) ⟨.self rfl, .self (by simp [clo, cloL, cloL_ints]), .self (by simp [clo, cloL_intss]), trivial⟩ hL.args hL.attrs (by omega) hL.each ?_
    have hg := Grows_spec v d l hL (by omega)
    have hz := @shapeP_zero v d l
    have hb := @shapeP_bad v d l
    unfold growP at hg
    generalize shapeP v d l = r at hsl hg hz hb ⊢
    (refine Go1.out ?_; repeat' ((with_reducible first | refine Go1.mk ?_ | ((first | refine Br.dec ?_ ?_ | refine Br.beq ?_ ?_ | refine Br.bne ?_ ?_ | refine Br.mk ?_ ?_) <;> intro h)) <;> try simp -implicitDefEqProofs (maxSteps := 9000000) (disch := first | omega | (simp only [List.length_set, List.length_append, List.length_cons, List.length_nil]; omega)) only [go_sem]))
    refine TT_loop_inv (fun n ts H => ∃ i, (i ≤ l.length) ∧ (n = l.length - i) ∧ (H = [some ⟨25, 3, ndC d⟩]) ∧ ts.length = 67 ∧ nth ts 0 = .int .i64 v ∧ nth ts 2 = .sl l.length (intss l) ∧ nth ts 4 = .ptr 0 0 ∧ nth ts 7 = .sl r.1.length (ints r.1) ∧ nth ts 8 = .int .i64 r.2 ∧ nth ts 9 = .int .i64 (sumC l i) ∧ nth ts 10 = .int .i64 i) ?_ (n := l.length) ?_
    · skip
      rintro n ts H ⟨i, hi, hn, hH, hL, hs0, hs2, hs4, hs7, hs8, hs9, hs10⟩
      refine TT_env [(0, .int .i64 v), (2, .sl l.length (intss l)), (4, .ptr 0 0), (7, .sl r.1.length (ints r.1)), (8, .int .i64 r.2), (9, .int .i64 (sumC l i)), (10, .int .i64 i)] hL (by simp only [List.forall_mem_cons, hs0, hs2, hs4, hs7, hs8, hs9, hs10, true_and]; exact fun _ h => nomatch h) ?_
      clear hL hs0 hs2 hs4 hs7 hs8 hs9 hs10 ts
      refine TT_of mixed ?_
      subst hn hH
      have hs1 := sumC_le l i
      by_cases hlt : i < l.length
      · have hki := hL.each i hlt
        have hc := countP_le (l.getD i [])
        (refine Go1.out ?_; repeat' ((with_reducible first | refine Go1.mk ?_ | ((first | refine Br.dec ?_ ?_ | refine Br.beq ?_ ?_ | refine Br.bne ?_ ?_ | refine Br.mk ?_ ?_) <;> intro h)) <;> try simp -implicitDefEqProofs (maxSteps := 9000000) (disch := first | omega | (simp only [List.length_set, List.length_append, List.length_cons, List.length_nil]; omega)) only [go_sem]))
        refine Fc.pure (Count6_spec _ hki) (by simp [cloL, clo, cloL_ints, cloL_intss]) (by intro g; simp only [go_sem, ren, renL]) ?_
        (refine Go1.out ?_; repeat' ((with_reducible first | refine Go1.mk ?_ | ((first | refine Br.dec ?_ ?_ | refine Br.beq ?_ ?_ | refine Br.bne ?_ ?_ | refine Br.mk ?_ ?_) <;> intro h)) <;> try simp -implicitDefEqProofs (maxSteps := 9000000) (disch := first | omega | (simp only [List.length_set, List.length_append, List.length_cons, List.length_nil]; omega)) only [go_sem]))
        exact ⟨_, by omega, i + 1, by omega, rfl, (by (repeat' apply And.intro) <;> (first | rfl | omega | (congr 1; omega) | assumption | (congr 1; assumption)))⟩
      · obtain rfl : i = l.length := by omega
        by_cases he : r.2 = 0
        · have hz := hz he
          simp only [he, true_and] at hg
          (refine Go1.out ?_; repeat' ((with_reducible first | refine Go1.mk ?_ | ((first | refine Br.dec ?_ ?_ | refine Br.beq ?_ ?_ | refine Br.bne ?_ ?_ | refine Br.mk ?_ ?_) <;> intro h)) <;> try simp -implicitDefEqProofs (maxSteps := 9000000) (disch := first | omega | (simp only [List.length_set, List.length_append, List.length_cons, List.length_nil]; omega)) only [go_sem]))
          refine Fc.pure (May6_spec r.1 (by omega)) (by simp [cloL, clo, cloL_ints, cloL_intss]) (by intro g; simp only [go_sem, ren, renL]) ?_
          (refine Go1.out ?_; repeat' ((with_reducible first | refine Go1.mk ?_ | ((first | refine Br.dec ?_ ?_ | refine Br.beq ?_ ?_ | refine Br.bne ?_ ?_ | refine Br.mk ?_ ?_) <;> intro h)) <;> try simp -implicitDefEqProofs (maxSteps := 9000000) (disch := first | omega | (simp only [List.length_set, List.length_append, List.length_cons, List.length_nil]; omega)) only [go_sem]))
          refine Fc.pure (hg) (by simp [cloL, clo, cloL_ints, cloL_intss]) (by intro g; simp only [go_sem, ren, renL]) ?_
          (refine Go1.out ?_; repeat' ((with_reducible first | refine Go1.mk ?_ | ((first | refine Br.dec ?_ ?_ | refine Br.beq ?_ ?_ | refine Br.bne ?_ ?_ | refine Br.mk ?_ ?_) <;> intro h)) <;> try simp -implicitDefEqProofs (maxSteps := 9000000) (disch := first | omega | (simp only [List.length_set, List.length_append, List.length_cons, List.length_nil]; omega)) only [go_sem]))
          refine Fc.pure (Count6_spec r.1 (by omega)) (by simp [cloL, clo, cloL_ints, cloL_intss]) (by intro g; simp only [go_sem, ren, renL]) ?_
          (refine Go1.out ?_; repeat' ((with_reducible first | refine Go1.mk ?_ | ((first | refine Br.dec ?_ ?_ | refine Br.beq ?_ ?_ | refine Br.bne ?_ ?_ | refine Br.mk ?_ ?_) <;> intro h)) <;> try simp -implicitDefEqProofs (maxSteps := 9000000) (disch := first | omega | (simp only [List.length_set, List.length_append, List.length_cons, List.length_nil]; omega)) only [go_sem]))
          (refine Fc.pure (known_spec) (by simp [cloL, clo, cloL_ints, cloL_intss]) (by intro g; simp only [go_sem, ren, renL]) ?_; ((refine Go1.out ?_; repeat' ((with_reducible first | refine Go1.mk ?_ | ((first | refine Br.dec ?_ ?_ | refine Br.beq ?_ ?_ | refine Br.bne ?_ ?_ | refine Br.mk ?_ ?_) <;> intro h)) <;> try simp -implicitDefEqProofs (maxSteps := 9000000) (disch := first | omega | (simp only [List.length_set, List.length_append, List.length_cons, List.length_nil]; omega)) only [go_sem]))); (refine keepP (by intro g; simp only [go_sem, ren, renL]) ?_); rfl)
        · have hb := hb he
          have hl0 : r.1.length = 0 := by rw [hb]; rfl
          simp only [he, false_and, decide_false] at hg
          (refine Go1.out ?_; repeat' ((with_reducible first | refine Go1.mk ?_ | ((first | refine Br.dec ?_ ?_ | refine Br.beq ?_ ?_ | refine Br.bne ?_ ?_ | refine Br.mk ?_ ?_) <;> intro h)) <;> try simp -implicitDefEqProofs (maxSteps := 9000000) (disch := first | omega | (simp only [List.length_set, List.length_append, List.length_cons, List.length_nil]; omega)) only [go_sem]))
          refine Fc.pure (hg) (by simp [cloL, clo, cloL_ints, cloL_intss]) (by intro g; simp only [go_sem, ren, renL]) ?_
          (refine Go1.out ?_; repeat' ((with_reducible first | refine Go1.mk ?_ | ((first | refine Br.dec ?_ ?_ | refine Br.beq ?_ ?_ | refine Br.bne ?_ ?_ | refine Br.mk ?_ ?_) <;> intro h)) <;> try simp -implicitDefEqProofs (maxSteps := 9000000) (disch := first | omega | (simp only [List.length_set, List.length_append, List.length_cons, List.length_nil]; omega)) only [go_sem]))
          (refine Fc.pure (known_spec) (by simp [cloL, clo, cloL_ints, cloL_intss]) (by intro g; simp only [go_sem, ren, renL]) ?_; ((refine Go1.out ?_; repeat' ((with_reducible first | refine Go1.mk ?_ | ((first | refine Br.dec ?_ ?_ | refine Br.beq ?_ ?_ | refine Br.bne ?_ ?_ | refine Br.mk ?_ ?_) <;> intro h)) <;> try simp -implicitDefEqProofs (maxSteps := 9000000) (disch := first | omega | (simp only [List.length_set, List.length_append, List.length_cons, List.length_nil]; omega)) only [go_sem]))); (refine keepP (by intro g; simp only [go_sem, ren, renL]) ?_); rfl)
    · exact ⟨0, by omega, rfl, rfl, rfl, rfl, rfl, rfl, rfl, rfl, rfl, rfl⟩
/-- With its explicit attributes. -/
def expl (v : Int) (d : Nd) (r : Nat) : Nd := ⟨d.op, d.args, explP v d r⟩
theorem checkP_ok {v : Int} {d : Nd} (hv : 1 ≤ v ∧ v ≤ 3) (hi : inP d.op v = true) (h1 : least d.op ≤ d.args.length) (h2 : d.args.length ≤ most d.op) (ha : attrsP d.op d.attrs = true) : checkP v d = 0 := by
  unfold checkP
  rw [if_neg (by omega), if_neg (by rw [hi]; decide), if_neg (by omega)]
  by_cases hx : d.attrs.length = 0 ∧ noneP v d.op = true
  · rw [if_pos hx]
  · rw [if_neg hx, if_pos ha]
theorem later_shape {v w : Int} {d : Nd} {l : List (List Int)} (hc : checkP v d = 0) (hw : v ≤ w ∧ w ≤ 3) (hi : inP d.op w = true) (hn : ¬ (w < 3 ∧ (explP v d (l.getD 0 []).length).length = 0 ∧ noneP w d.op = true)) (hs : (shapeP v d l).2 = 0) : shapeP w (expl v d (l.getD 0 []).length) l = shapeP v d l := by
  obtain ⟨_, h1, h2, h3, h4, h5⟩ := shapeP_zero hs
  obtain ⟨q1, q2, q3, q4, q5⟩ := checkP_zero hc
  have ho := expl_ok (l.getD 0 []).length hc
  have hn3 : w = 3 → noneP w d.op = false := by
    rintro rfl
    simp only [noneP, decide_eq_false_iff_not]; omega
  have hc' : checkP w (expl v d (l.getD 0 []).length) = 0 := by
    exact checkP_ok ⟨by omega, by omega⟩ hi q3 q4 ho
  have he : explP w (expl v d (l.getD 0 []).length) (l.getD 0 []).length = explP v d (l.getD 0 []).length := by
    rw [explP, if_pos]
    · rfl
    · by_cases hz : (explP v d (l.getD 0 []).length).length = 0
      · cases hnn : noneP w d.op with
        | false => exact .inr (.inr hnn)
        | true =>
          refine (hn ⟨?_, hz, hnn⟩).elim
          by_cases h : w < 3
          · exact h
          · rw [hn3 (by omega)] at hnn; cases hnn
      · exact .inr (.inl (Nat.pos_of_ne_zero hz))
  have h6 : (expl v d (l.getD 0 []).length).op = d.op := rfl
  have h7 : (expl v d (l.getD 0 []).length).args = d.args := rfl
  rw [shapeP, hc', if_neg (by omega), h7, if_neg (by omega), if_neg (by omega), he, h6, if_neg (by omega)]
  rw [h5] at h4 ⊢
  rw [if_neg (by omega)]
theorem expl_len (v : Int) (d : Nd) (r : Nat) (h : checkP v d = 0) : (explP v d r).length ≤ 8 := attrs_len (expl_ok r h)
theorem Grows_call {v : Int} {d : Nd} {l : List (List Int)} {args : List V} {H : Heap} {K : V → Heap → Prop} (r : Bool) (hr : growP v d l = r) (hb : BorL H args [.int .i64 v, .agg (ndC d), .sl l.length (intss l)]) (hl : d.args.length ≤ 1000 ∧ d.attrs.length ≤ 1000 ∧ l.length ≤ 1000 ∧ ∀ k, k < l.length → (l.getD k []).length ≤ 1000) (hK : K (.bool r) H) : Fc C 20 args H K := by
  subst hr
  exact Fc.pureL (Grows_spec v d l ⟨by omega, by omega, fun k hk => by have := hl.2.2.2 k hk; omega⟩ (by omega)) hb (fun _ => rfl) rfl hK
theorem InferScalars_spec : Pu C 8 [] (.bool true) := by
  refine Fc.keep (Fc.bodyT mixed Try.func8 w8 rfl Try.ntmps8 Try.results8 (Nat.le_of_ble_eq_true rfl) ?_)
  (refine Go1.out ?_; repeat' ((with_reducible first | refine Go1.mk ?_ | ((first | refine Br.dec ?_ ?_ | refine Br.beq ?_ ?_ | refine Br.bne ?_ ?_ | refine Br.mk ?_ ?_) <;> intro h)) <;> try simp -implicitDefEqProofs (maxSteps := 9000000) (disch := first | omega | (simp only [List.length_set, List.length_append, List.length_cons, List.length_nil]; omega)) only [go_sem]))
  refine Fc.mono (node_spec 1 2 _ _ (by omega) rfl rfl rfl) ?_
  rintro v H ⟨rfl, rfl⟩
  (refine Go1.out ?_; repeat' ((with_reducible first | refine Go1.mk ?_ | ((first | refine Br.dec ?_ ?_ | refine Br.beq ?_ ?_ | refine Br.bne ?_ ?_ | refine Br.mk ?_ ?_) <;> intro h)) <;> try simp -implicitDefEqProofs (maxSteps := 9000000) (disch := first | omega | (simp only [List.length_set, List.length_append, List.length_cons, List.length_nil]; omega)) only [go_sem]))
  refine Shape_call (v := 3) (d := ⟨1, [0, 0], []⟩) (l := [[], []]) ([], 0) (by decide) (borL_of 5 rfl) (by decide) ?_
  (refine Go1.out ?_; repeat' ((with_reducible first | refine Go1.mk ?_ | ((first | refine Br.dec ?_ ?_ | refine Br.beq ?_ ?_ | refine Br.bne ?_ ?_ | refine Br.mk ?_ ?_) <;> intro h)) <;> try simp -implicitDefEqProofs (maxSteps := 9000000) (disch := first | omega | (simp only [List.length_set, List.length_append, List.length_cons, List.length_nil]; omega)) only [go_sem]))
  refine Fc.mono (node_spec 14 1 _ _ (by omega) rfl rfl rfl) ?_
  rintro v H ⟨rfl, rfl⟩
  (refine Go1.out ?_; repeat' ((with_reducible first | refine Go1.mk ?_ | ((first | refine Br.dec ?_ ?_ | refine Br.beq ?_ ?_ | refine Br.bne ?_ ?_ | refine Br.mk ?_ ?_) <;> intro h)) <;> try simp -implicitDefEqProofs (maxSteps := 9000000) (disch := first | omega | (simp only [List.length_set, List.length_append, List.length_cons, List.length_nil]; omega)) only [go_sem]))
  refine Shape_call (v := 3) (d := ⟨14, [0], []⟩) (l := [[]]) ([], 0) (by decide) (borL_of 5 rfl) (by decide) ?_
  (refine Go1.out ?_; repeat' ((with_reducible first | refine Go1.mk ?_ | ((first | refine Br.dec ?_ ?_ | refine Br.beq ?_ ?_ | refine Br.bne ?_ ?_ | refine Br.mk ?_ ?_) <;> intro h)) <;> try simp -implicitDefEqProofs (maxSteps := 9000000) (disch := first | omega | (simp only [List.length_set, List.length_append, List.length_cons, List.length_nil]; omega)) only [go_sem]))
  refine Fc.mono (node_spec 11 1 _ _ (by omega) rfl rfl rfl) ?_
  rintro v H ⟨rfl, rfl⟩
  (refine Go1.out ?_; repeat' ((with_reducible first | refine Go1.mk ?_ | ((first | refine Br.dec ?_ ?_ | refine Br.beq ?_ ?_ | refine Br.bne ?_ ?_ | refine Br.mk ?_ ?_) <;> intro h)) <;> try simp -implicitDefEqProofs (maxSteps := 9000000) (disch := first | omega | (simp only [List.length_set, List.length_append, List.length_cons, List.length_nil]; omega)) only [go_sem]))
  refine Shape_call (v := 1) (d := ⟨11, [0], []⟩) (l := [[]]) ([], 0) (by decide) (borL_of 5 rfl) (by decide) ?_
  (refine Go1.out ?_; repeat' ((with_reducible first | refine Go1.mk ?_ | ((first | refine Br.dec ?_ ?_ | refine Br.beq ?_ ?_ | refine Br.bne ?_ ?_ | refine Br.mk ?_ ?_) <;> intro h)) <;> try simp -implicitDefEqProofs (maxSteps := 9000000) (disch := first | omega | (simp only [List.length_set, List.length_append, List.length_cons, List.length_nil]; omega)) only [go_sem]))
  refine Fc.mono (node_spec 13 1 _ _ (by omega) rfl rfl rfl) ?_
  rintro v H ⟨rfl, rfl⟩
  (refine Go1.out ?_; repeat' ((with_reducible first | refine Go1.mk ?_ | ((first | refine Br.dec ?_ ?_ | refine Br.beq ?_ ?_ | refine Br.bne ?_ ?_ | refine Br.mk ?_ ?_) <;> intro h)) <;> try simp -implicitDefEqProofs (maxSteps := 9000000) (disch := first | omega | (simp only [List.length_set, List.length_append, List.length_cons, List.length_nil]; omega)) only [go_sem]))
  refine Shape_call (v := 3) (d := ⟨13, [0], [2, 2]⟩) (l := [[]]) ([2, 2], 0) (by decide) (borL_of 5 rfl) (by decide) ?_
  (refine Go1.out ?_; repeat' ((with_reducible first | refine Go1.mk ?_ | ((first | refine Br.dec ?_ ?_ | refine Br.beq ?_ ?_ | refine Br.bne ?_ ?_ | refine Br.mk ?_ ?_) <;> intro h)) <;> try simp -implicitDefEqProofs (maxSteps := 9000000) (disch := first | omega | (simp only [List.length_set, List.length_append, List.length_cons, List.length_nil]; omega)) only [go_sem]))
  refine Fc.mono (node_spec 12 1 _ _ (by omega) rfl rfl rfl) ?_
  rintro v H ⟨rfl, rfl⟩
  (refine Go1.out ?_; repeat' ((with_reducible first | refine Go1.mk ?_ | ((first | refine Br.dec ?_ ?_ | refine Br.beq ?_ ?_ | refine Br.bne ?_ ?_ | refine Br.mk ?_ ?_) <;> intro h)) <;> try simp -implicitDefEqProofs (maxSteps := 9000000) (disch := first | omega | (simp only [List.length_set, List.length_append, List.length_cons, List.length_nil]; omega)) only [go_sem]))
  refine Shape_call (v := 3) (d := ⟨12, [0], []⟩) (l := [[1, 1]]) ([], 0) (by decide) (borL_of 5 rfl) (by decide) ?_
  (refine Go1.out ?_; repeat' ((with_reducible first | refine Go1.mk ?_ | ((first | refine Br.dec ?_ ?_ | refine Br.beq ?_ ?_ | refine Br.bne ?_ ?_ | refine Br.mk ?_ ?_) <;> intro h)) <;> try simp -implicitDefEqProofs (maxSteps := 9000000) (disch := first | omega | (simp only [List.length_set, List.length_append, List.length_cons, List.length_nil]; omega)) only [go_sem]))
  refine Fc.mono (node_spec 17 1 _ _ (by omega) rfl rfl rfl) ?_
  rintro v H ⟨rfl, rfl⟩
  (refine Go1.out ?_; repeat' ((with_reducible first | refine Go1.mk ?_ | ((first | refine Br.dec ?_ ?_ | refine Br.beq ?_ ?_ | refine Br.bne ?_ ?_ | refine Br.mk ?_ ?_) <;> intro h)) <;> try simp -implicitDefEqProofs (maxSteps := 9000000) (disch := first | omega | (simp only [List.length_set, List.length_append, List.length_cons, List.length_nil]; omega)) only [go_sem]))
  refine Shape_call (v := 3) (d := ⟨17, [0], [0]⟩) (l := [[]]) ([], 13) (by decide) (borL_of 5 rfl) (by decide) ?_
  (refine Go1.out ?_; repeat' ((with_reducible first | refine Go1.mk ?_ | ((first | refine Br.dec ?_ ?_ | refine Br.beq ?_ ?_ | refine Br.bne ?_ ?_ | refine Br.mk ?_ ?_) <;> intro h)) <;> try simp -implicitDefEqProofs (maxSteps := 9000000) (disch := first | omega | (simp only [List.length_set, List.length_append, List.length_cons, List.length_nil]; omega)) only [go_sem]))
  refine Fc.mono (node_spec 10 2 _ _ (by omega) rfl rfl rfl) ?_
  rintro v H ⟨rfl, rfl⟩
  (refine Go1.out ?_; repeat' ((with_reducible first | refine Go1.mk ?_ | ((first | refine Br.dec ?_ ?_ | refine Br.beq ?_ ?_ | refine Br.bne ?_ ?_ | refine Br.mk ?_ ?_) <;> intro h)) <;> try simp -implicitDefEqProofs (maxSteps := 9000000) (disch := first | omega | (simp only [List.length_set, List.length_append, List.length_cons, List.length_nil]; omega)) only [go_sem]))
  refine Shape_call (v := 3) (d := ⟨10, [0, 0], []⟩) (l := [[], []]) ([], 13) (by decide) (borL_of 5 rfl) (by decide) ?_
  (refine Go1.out ?_; repeat' ((with_reducible first | refine Go1.mk ?_ | ((first | refine Br.dec ?_ ?_ | refine Br.beq ?_ ?_ | refine Br.bne ?_ ?_ | refine Br.mk ?_ ?_) <;> intro h)) <;> try simp -implicitDefEqProofs (maxSteps := 9000000) (disch := first | omega | (simp only [List.length_set, List.length_append, List.length_cons, List.length_nil]; omega)) only [go_sem]))
  refine Same_yes (xs := [2, 2]) (borL_of 5 rfl) (by decide) ?_
  (refine Go1.out ?_; repeat' ((with_reducible first | refine Go1.mk ?_ | ((first | refine Br.dec ?_ ?_ | refine Br.beq ?_ ?_ | refine Br.bne ?_ ?_ | refine Br.mk ?_ ?_) <;> intro h)) <;> try simp -implicitDefEqProofs (maxSteps := 9000000) (disch := first | omega | (simp only [List.length_set, List.length_append, List.length_cons, List.length_nil]; omega)) only [go_sem]))
  refine Fc.mono (node_spec 13 1 _ _ (by omega) rfl rfl rfl) ?_
  rintro v H ⟨rfl, rfl⟩
  (refine Go1.out ?_; repeat' ((with_reducible first | refine Go1.mk ?_ | ((first | refine Br.dec ?_ ?_ | refine Br.beq ?_ ?_ | refine Br.bne ?_ ?_ | refine Br.mk ?_ ?_) <;> intro h)) <;> try simp -implicitDefEqProofs (maxSteps := 9000000) (disch := first | omega | (simp only [List.length_set, List.length_append, List.length_cons, List.length_nil]; omega)) only [go_sem]))
  refine Grows_call (v := 3) (d := ⟨13, [0], [2, 2]⟩) (l := [[]]) true (by decide) (borL_of 5 rfl) (by decide) ?_
  (refine Go1.out ?_; repeat' ((with_reducible first | refine Go1.mk ?_ | ((first | refine Br.dec ?_ ?_ | refine Br.beq ?_ ?_ | refine Br.bne ?_ ?_ | refine Br.mk ?_ ?_) <;> intro h)) <;> try simp -implicitDefEqProofs (maxSteps := 9000000) (disch := first | omega | (simp only [List.length_set, List.length_append, List.length_cons, List.length_nil]; omega)) only [go_sem]))
  refine Fc.mono (node_spec 1 2 _ _ (by omega) rfl rfl rfl) ?_
  rintro v H ⟨rfl, rfl⟩
  (refine Go1.out ?_; repeat' ((with_reducible first | refine Go1.mk ?_ | ((first | refine Br.dec ?_ ?_ | refine Br.beq ?_ ?_ | refine Br.bne ?_ ?_ | refine Br.mk ?_ ?_) <;> intro h)) <;> try simp -implicitDefEqProofs (maxSteps := 9000000) (disch := first | omega | (simp only [List.length_set, List.length_append, List.length_cons, List.length_nil]; omega)) only [go_sem]))
  refine Grows_call (v := 3) (d := ⟨1, [0, 0], []⟩) (l := [[], []]) false (by decide) (borL_of 5 rfl) (by decide) ?_
  (refine Go1.out ?_; repeat' ((with_reducible first | refine Go1.mk ?_ | ((first | refine Br.dec ?_ ?_ | refine Br.beq ?_ ?_ | refine Br.bne ?_ ?_ | refine Br.mk ?_ ?_) <;> intro h)) <;> try simp -implicitDefEqProofs (maxSteps := 9000000) (disch := first | omega | (simp only [List.length_set, List.length_append, List.length_cons, List.length_nil]; omega)) only [go_sem]))
  (refine Fc.pure (known_spec) (by simp [cloL, clo, cloL_ints, cloL_intss]) (by intro g; simp only [go_sem, ren, renL]) ?_; ((refine Go1.out ?_; repeat' ((with_reducible first | refine Go1.mk ?_ | ((first | refine Br.dec ?_ ?_ | refine Br.beq ?_ ?_ | refine Br.bne ?_ ?_ | refine Br.mk ?_ ?_) <;> intro h)) <;> try simp -implicitDefEqProofs (maxSteps := 9000000) (disch := first | omega | (simp only [List.length_set, List.length_append, List.length_cons, List.length_nil]; omega)) only [go_sem]))); (refine keepP (by intro g; simp only [go_sem, ren, renL]) ?_); rfl)
end Go.Proofs.Ytlomgfdepllanaa
end

section
set_option linter.unusedSimpArgs false
set_option linter.unusedVariables false
set_option maxRecDepth 100000
set_option pp.maxSteps 1500
set_option maxHeartbeats 4000000
namespace Go.Proofs.Ytlomgfdepllanaa
open Go.Bv
theorem InferLater_spec (v : Int) (d : Nd) (l : List (List Int)) (w : Int) (hL : LOK d l) : Pu C 4 [.int .i64 v, .agg (ndC d), .sl l.length (intss l), .int .i64 w] (.bool true) := by
  have hsl := @shapeP_len v d l
  refine Fc.keep (Fc.bodyT mixed Try.func4 w4 rfl Try.ntmps4 Try.results4 (Nat.le_of_ble_eq_true rfl) ?_)
  (refine Go1.out ?_; repeat' ((with_reducible first | refine Go1.mk ?_ | ((first | refine Br.dec ?_ ?_ | refine Br.beq ?_ ?_ | refine Br.bne ?_ ?_ | refine Br.mk ?_ ?_) <;> intro h)) <;> try simp -implicitDefEqProofs (maxSteps := 9000000) (disch := first | omega | (simp only [List.length_set, List.length_append, List.length_cons, List.length_nil]; omega)) only [go_sem]))
  · skip
    (refine Fc.pure (known_spec) (by simp [cloL, clo, cloL_ints, cloL_intss]) (by intro g; simp only [go_sem, ren, renL]) ?_; ((refine Go1.out ?_; repeat' ((with_reducible first | refine Go1.mk ?_ | ((first | refine Br.dec ?_ ?_ | refine Br.beq ?_ ?_ | refine Br.bne ?_ ?_ | refine Br.mk ?_ ?_) <;> intro h)) <;> try simp -implicitDefEqProofs (maxSteps := 9000000) (disch := first | omega | (simp only [List.length_set, List.length_append, List.length_cons, List.length_nil]; omega)) only [go_sem]))); (refine keepP (by intro g; simp only [go_sem, ren, renL]) ?_); rfl)
  · skip
    (refine Fc.pure (known_spec) (by simp [cloL, clo, cloL_ints, cloL_intss]) (by intro g; simp only [go_sem, ren, renL]) ?_; ((refine Go1.out ?_; repeat' ((with_reducible first | refine Go1.mk ?_ | ((first | refine Br.dec ?_ ?_ | refine Br.beq ?_ ?_ | refine Br.bne ?_ ?_ | refine Br.mk ?_ ?_) <;> intro h)) <;> try simp -implicitDefEqProofs (maxSteps := 9000000) (disch := first | omega | (simp only [List.length_set, List.length_append, List.length_cons, List.length_nil]; omega)) only [go_sem]))); (refine keepP (by intro g; simp only [go_sem, ren, renL]) ?_); rfl)
  · skip
    refine Fc.pure (Check11_spec v d hL.args hL.attrs) (by simp [cloL, clo, cloL_ints, cloL_intss]) (by intro g; simp only [go_sem, ren, renL]) ?_
    (refine Go1.out ?_; repeat' ((with_reducible first | refine Go1.mk ?_ | ((first | refine Br.dec ?_ ?_ | refine Br.beq ?_ ?_ | refine Br.bne ?_ ?_ | refine Br.mk ?_ ?_) <;> intro h)) <;> try simp -implicitDefEqProofs (maxSteps := 9000000) (disch := first | omega | (simp only [List.length_set, List.length_append, List.length_cons, List.length_nil]; omega)) only [go_sem]))
    all_goals try (refine Fc.pure (known_spec) (by simp [cloL, clo, cloL_ints, cloL_intss]) (by intro g; simp only [go_sem, ren, renL]) ?_; ((refine Go1.out ?_; repeat' ((with_reducible first | refine Go1.mk ?_ | ((first | refine Br.dec ?_ ?_ | refine Br.beq ?_ ?_ | refine Br.bne ?_ ?_ | refine Br.mk ?_ ?_) <;> intro h)) <;> try simp -implicitDefEqProofs (maxSteps := 9000000) (disch := first | omega | (simp only [List.length_set, List.length_append, List.length_cons, List.length_nil]; omega)) only [go_sem]))); (refine keepP (by intro g; simp only [go_sem, ren, renL]) ?_); rfl)
    refine Fc.pure (In_spec d.op w) (by simp [cloL, clo, cloL_ints, cloL_intss]) (by intro g; simp only [go_sem, ren, renL]) ?_
    cases hin : inP d.op w with
    | false =>
      (refine Go1.out ?_; repeat' ((with_reducible first | refine Go1.mk ?_ | ((first | refine Br.dec ?_ ?_ | refine Br.beq ?_ ?_ | refine Br.bne ?_ ?_ | refine Br.mk ?_ ?_) <;> intro h)) <;> try simp -implicitDefEqProofs (maxSteps := 9000000) (disch := first | omega | (simp only [List.length_set, List.length_append, List.length_cons, List.length_nil]; omega)) only [go_sem]))
      (refine Fc.pure (known_spec) (by simp [cloL, clo, cloL_ints, cloL_intss]) (by intro g; simp only [go_sem, ren, renL]) ?_; ((refine Go1.out ?_; repeat' ((with_reducible first | refine Go1.mk ?_ | ((first | refine Br.dec ?_ ?_ | refine Br.beq ?_ ?_ | refine Br.bne ?_ ?_ | refine Br.mk ?_ ?_) <;> intro h)) <;> try simp -implicitDefEqProofs (maxSteps := 9000000) (disch := first | omega | (simp only [List.length_set, List.length_append, List.length_cons, List.length_nil]; omega)) only [go_sem]))); (refine keepP (by intro g; simp only [go_sem, ren, renL]) ?_); rfl)
    | true =>
      (refine Go1.out ?_; repeat' ((with_reducible first | refine Go1.mk ?_ | ((first | refine Br.dec ?_ ?_ | refine Br.beq ?_ ?_ | refine Br.bne ?_ ?_ | refine Br.mk ?_ ?_) <;> intro h)) <;> try simp -implicitDefEqProofs (maxSteps := 9000000) (disch := first | omega | (simp only [List.length_set, List.length_append, List.length_cons, List.length_nil]; omega)) only [go_sem]))
      have h0 : 0 < l.length := by omega
      have hc : checkP v d = 0 := by assumption
      have hr0 := hL.each 0 h0
      have hel := expl_len v d (l.getD 0 []).length hc
      have hlt := @later_shape v w d l hc ⟨by omega, by omega⟩ hin
      refine Pc.pure (Fc.valL (Explicit11_spec v d (l.getD 0 []).length (by omega) hL.args hL.attrs) (cloL_ints _)) (by simp [cloL, clo, cloL_ints, ndC]) (by intro g; simp only [go_sem, ren, renL]) ?_
      (refine Go1.out ?_; repeat' ((with_reducible first | refine Go1.mk ?_ | ((first | refine Br.dec ?_ ?_ | refine Br.beq ?_ ?_ | refine Br.bne ?_ ?_ | refine Br.mk ?_ ?_) <;> intro h)) <;> try simp -implicitDefEqProofs (maxSteps := 9000000) (disch := first | omega | (simp only [List.length_set, List.length_append, List.length_cons, List.length_nil]; omega)) only [go_sem]))
      all_goals try (refine Fc.pure (known_spec) (by simp [cloL, clo, cloL_ints, cloL_intss]) (by intro g; simp only [go_sem, ren, renL]) ?_; ((refine Go1.out ?_; repeat' ((with_reducible first | refine Go1.mk ?_ | ((first | refine Br.dec ?_ ?_ | refine Br.beq ?_ ?_ | refine Br.bne ?_ ?_ | refine Br.mk ?_ ?_) <;> intro h)) <;> try simp -implicitDefEqProofs (maxSteps := 9000000) (disch := first | omega | (simp only [List.length_set, List.length_append, List.length_cons, List.length_nil]; omega)) only [go_sem]))); (refine keepP (by intro g; simp only [go_sem, ren, renL]) ?_); rfl)
      all_goals
        refine ShapeV (v := v) (d := d) (l := l) ⟨.self rfl, .self (by simp [clo, cloL, cloL_ints]), .self (by simp [clo, cloL_intss]), trivial⟩ hL.args hL.attrs (by omega) hL.each ?_
        by_cases he : (shapeP v d l).2 = 0
        · have fin : ¬ (w < 3 ∧ (explP v d (l.getD 0 []).length).length = 0 ∧ noneP w d.op = true) → shapeP w (expl v d (l.getD 0 []).length) l = shapeP v d l := fun h => hlt h he
          have ex : ndC (expl v d (l.getD 0 []).length) = [.int .i64 d.op, .sl d.args.length (ints d.args), .sl (explP v d (l.getD 0 []).length).length (ints (explP v d (l.getD 0 []).length))] := rfl
          have call : ∀ {args H K}, BorL H args [.int .i64 w, .agg (ndC (expl v d (l.getD 0 []).length)), .sl l.length (intss l)] → shapeP w (expl v d (l.getD 0 []).length) l = shapeP v d l → K (shV (shapeP v d l)) H → Fc C 10 args H K := fun hb hs hK => by
            refine ShapeV (v := w) (d := expl v d (l.getD 0 []).length) (l := l) hb hL.args (by show (explP v d (l.getD 0 []).length).length ≤ _; omega) (by omega) hL.each ?_
            rw [hs]; exact hK
          generalize explP v d (l.getD 0 []).length = a at hel fin ex call ⊢
          generalize shapeP v d l = r at hsl he fin call ⊢
          have last : ∀ {ts : List V} {H : Heap} {K : V → Heap → Prop}, K (.bool (decide (r.1 = r.1))) H → Fc C 13 [.sl r.1.length (ints r.1), .sl r.1.length (ints r.1)] H K := fun h => SameV (xs := r.1) (ys := r.1) ⟨.self (by simp [clo, cloL_ints]), .self (by simp [clo, cloL_ints]), trivial⟩ (by omega) h
          (refine Go1.out ?_; repeat' ((with_reducible first | refine Go1.mk ?_ | ((first | refine Br.dec ?_ ?_ | refine Br.beq ?_ ?_ | refine Br.bne ?_ ?_ | refine Br.mk ?_ ?_) <;> intro h)) <;> try simp -implicitDefEqProofs (maxSteps := 9000000) (disch := first | omega | (simp only [List.length_set, List.length_append, List.length_cons, List.length_nil]; omega)) only [go_sem]))
          · skip
            refine Fc.pure (None_spec w d.op) (by simp [cloL, clo, cloL_ints, cloL_intss]) (by intro g; simp only [go_sem, ren, renL]) ?_
            cases hn : noneP w d.op with
            | true =>
              (refine Go1.out ?_; repeat' ((with_reducible first | refine Go1.mk ?_ | ((first | refine Br.dec ?_ ?_ | refine Br.beq ?_ ?_ | refine Br.bne ?_ ?_ | refine Br.mk ?_ ?_) <;> intro h)) <;> try simp -implicitDefEqProofs (maxSteps := 9000000) (disch := first | omega | (simp only [List.length_set, List.length_append, List.length_cons, List.length_nil]; omega)) only [go_sem]))
              (refine Fc.pure (known_spec) (by simp [cloL, clo, cloL_ints, cloL_intss]) (by intro g; simp only [go_sem, ren, renL]) ?_; ((refine Go1.out ?_; repeat' ((with_reducible first | refine Go1.mk ?_ | ((first | refine Br.dec ?_ ?_ | refine Br.beq ?_ ?_ | refine Br.bne ?_ ?_ | refine Br.mk ?_ ?_) <;> intro h)) <;> try simp -implicitDefEqProofs (maxSteps := 9000000) (disch := first | omega | (simp only [List.length_set, List.length_append, List.length_cons, List.length_nil]; omega)) only [go_sem]))); (refine keepP (by intro g; simp only [go_sem, ren, renL]) ?_); rfl)
            | false =>
              (refine Go1.out ?_; repeat' ((with_reducible first | refine Go1.mk ?_ | ((first | refine Br.dec ?_ ?_ | refine Br.beq ?_ ?_ | refine Br.bne ?_ ?_ | refine Br.mk ?_ ?_) <;> intro h)) <;> try simp -implicitDefEqProofs (maxSteps := 9000000) (disch := first | omega | (simp only [List.length_set, List.length_append, List.length_cons, List.length_nil]; omega)) only [go_sem]))
              refine call (by rw [ex]; exact ⟨.self rfl, .self (by simp [clo, cloL, cloL_ints]), .self (by simp [clo, cloL_intss]), trivial⟩) (fin (fun h => by rw [hn] at h; exact absurd h.2.2 (by decide))) ?_
              (refine Go1.out ?_; repeat' ((with_reducible first | refine Go1.mk ?_ | ((first | refine Br.dec ?_ ?_ | refine Br.beq ?_ ?_ | refine Br.bne ?_ ?_ | refine Br.mk ?_ ?_) <;> intro h)) <;> try simp -implicitDefEqProofs (maxSteps := 9000000) (disch := first | omega | (simp only [List.length_set, List.length_append, List.length_cons, List.length_nil]; omega)) only [go_sem]))
              refine last (ts := []) ?_
              (refine Go1.out ?_; repeat' ((with_reducible first | refine Go1.mk ?_ | ((first | refine Br.dec ?_ ?_ | refine Br.beq ?_ ?_ | refine Br.bne ?_ ?_ | refine Br.mk ?_ ?_) <;> intro h)) <;> try simp -implicitDefEqProofs (maxSteps := 9000000) (disch := first | omega | (simp only [List.length_set, List.length_append, List.length_cons, List.length_nil]; omega)) only [go_sem]))
              (refine Fc.pure (known_spec) (by simp [cloL, clo, cloL_ints, cloL_intss]) (by intro g; simp only [go_sem, ren, renL]) ?_; ((refine Go1.out ?_; repeat' ((with_reducible first | refine Go1.mk ?_ | ((first | refine Br.dec ?_ ?_ | refine Br.beq ?_ ?_ | refine Br.bne ?_ ?_ | refine Br.mk ?_ ?_) <;> intro h)) <;> try simp -implicitDefEqProofs (maxSteps := 9000000) (disch := first | omega | (simp only [List.length_set, List.length_append, List.length_cons, List.length_nil]; omega)) only [go_sem]))); (refine keepP (by intro g; simp only [go_sem, ren, renL]) ?_); rfl)
          · skip
            refine call (by rw [ex]; exact ⟨.self rfl, .self (by simp [clo, cloL, cloL_ints]), .self (by simp [clo, cloL_intss]), trivial⟩) (fin (fun h => absurd h.2.1 (by omega))) ?_
            (refine Go1.out ?_; repeat' ((with_reducible first | refine Go1.mk ?_ | ((first | refine Br.dec ?_ ?_ | refine Br.beq ?_ ?_ | refine Br.bne ?_ ?_ | refine Br.mk ?_ ?_) <;> intro h)) <;> try simp -implicitDefEqProofs (maxSteps := 9000000) (disch := first | omega | (simp only [List.length_set, List.length_append, List.length_cons, List.length_nil]; omega)) only [go_sem]))
            refine last (ts := []) ?_
            (refine Go1.out ?_; repeat' ((with_reducible first | refine Go1.mk ?_ | ((first | refine Br.dec ?_ ?_ | refine Br.beq ?_ ?_ | refine Br.bne ?_ ?_ | refine Br.mk ?_ ?_) <;> intro h)) <;> try simp -implicitDefEqProofs (maxSteps := 9000000) (disch := first | omega | (simp only [List.length_set, List.length_append, List.length_cons, List.length_nil]; omega)) only [go_sem]))
            (refine Fc.pure (known_spec) (by simp [cloL, clo, cloL_ints, cloL_intss]) (by intro g; simp only [go_sem, ren, renL]) ?_; ((refine Go1.out ?_; repeat' ((with_reducible first | refine Go1.mk ?_ | ((first | refine Br.dec ?_ ?_ | refine Br.beq ?_ ?_ | refine Br.bne ?_ ?_ | refine Br.mk ?_ ?_) <;> intro h)) <;> try simp -implicitDefEqProofs (maxSteps := 9000000) (disch := first | omega | (simp only [List.length_set, List.length_append, List.length_cons, List.length_nil]; omega)) only [go_sem]))); (refine keepP (by intro g; simp only [go_sem, ren, renL]) ?_); rfl)
          · skip
            refine call (by rw [ex]; exact ⟨.self rfl, .self (by simp [clo, cloL, cloL_ints]), .self (by simp [clo, cloL_intss]), trivial⟩) (fin (fun h => absurd h.1 (by assumption))) ?_
            (refine Go1.out ?_; repeat' ((with_reducible first | refine Go1.mk ?_ | ((first | refine Br.dec ?_ ?_ | refine Br.beq ?_ ?_ | refine Br.bne ?_ ?_ | refine Br.mk ?_ ?_) <;> intro h)) <;> try simp -implicitDefEqProofs (maxSteps := 9000000) (disch := first | omega | (simp only [List.length_set, List.length_append, List.length_cons, List.length_nil]; omega)) only [go_sem]))
            refine last (ts := []) ?_
            (refine Go1.out ?_; repeat' ((with_reducible first | refine Go1.mk ?_ | ((first | refine Br.dec ?_ ?_ | refine Br.beq ?_ ?_ | refine Br.bne ?_ ?_ | refine Br.mk ?_ ?_) <;> intro h)) <;> try simp -implicitDefEqProofs (maxSteps := 9000000) (disch := first | omega | (simp only [List.length_set, List.length_append, List.length_cons, List.length_nil]; omega)) only [go_sem]))
            (refine Fc.pure (known_spec) (by simp [cloL, clo, cloL_ints, cloL_intss]) (by intro g; simp only [go_sem, ren, renL]) ?_; ((refine Go1.out ?_; repeat' ((with_reducible first | refine Go1.mk ?_ | ((first | refine Br.dec ?_ ?_ | refine Br.beq ?_ ?_ | refine Br.bne ?_ ?_ | refine Br.mk ?_ ?_) <;> intro h)) <;> try simp -implicitDefEqProofs (maxSteps := 9000000) (disch := first | omega | (simp only [List.length_set, List.length_append, List.length_cons, List.length_nil]; omega)) only [go_sem]))); (refine keepP (by intro g; simp only [go_sem, ren, renL]) ?_); rfl)
        · skip
          (refine Go1.out ?_; repeat' ((with_reducible first | refine Go1.mk ?_ | ((first | refine Br.dec ?_ ?_ | refine Br.beq ?_ ?_ | refine Br.bne ?_ ?_ | refine Br.mk ?_ ?_) <;> intro h)) <;> try simp -implicitDefEqProofs (maxSteps := 9000000) (disch := first | omega | (simp only [List.length_set, List.length_append, List.length_cons, List.length_nil]; omega)) only [go_sem]))
          (refine Fc.pure (known_spec) (by simp [cloL, clo, cloL_ints, cloL_intss]) (by intro g; simp only [go_sem, ren, renL]) ?_; ((refine Go1.out ?_; repeat' ((with_reducible first | refine Go1.mk ?_ | ((first | refine Br.dec ?_ ?_ | refine Br.beq ?_ ?_ | refine Br.bne ?_ ?_ | refine Br.mk ?_ ?_) <;> intro h)) <;> try simp -implicitDefEqProofs (maxSteps := 9000000) (disch := first | omega | (simp only [List.length_set, List.length_append, List.length_cons, List.length_nil]; omega)) only [go_sem]))); (refine keepP (by intro g; simp only [go_sem, ren, renL]) ?_); rfl)
end Go.Proofs.Ytlomgfdepllanaa
end

section
/-
  What is read of the arguments of the laws of layer 12: an int, a node, a list of shapes.
  Conditions: none.
-/
set_option maxRecDepth 100000
namespace Go.Proofs.Ytlomgfdepllanaa
open Go.Bv

theorem a_own : ownKnob Try.prog.godebug = none := by kernel_rfl
theorem a_laid : laidOutB Try.prog = true := by kernel_rfl
theorem rd_int : Reads Try.prog 3 fun vs => ∃ n, vs = [V.int .i64 n] ∧ (Lit.int .i64 n).wf = true := Reads.int Try.underlying3
theorem rd_ints {t : Nat} (hu : Try.prog.underlying t = some (.slice 3)) : Reads Try.prog t fun vs => ∃ xs : List Int, vs = [.sl xs.length (ints xs)] ∧ xs.length ≤ 17592186044416 := Reads.ints hu Try.underlying3 (by kernel_rfl) (by kernel_rfl)
theorem arg_int : ArgV Try.prog 3 fun u => ∃ n : Int, u = .int .i64 n := ArgV.mono (ArgV.one rd_int (by rw [Try.underlying3])) fun u ⟨n, h, _⟩ => ⟨n, by simpa using h⟩
theorem arg_shapes : ArgV Try.prog 26 fun u => ∃ l : List (List Int), u = .sl l.length (intss l) ∧ ∀ s ∈ l, s.length ≤ 17592186044416 :=
  ArgV.mono (ArgV.one (Reads.slice1 (g := fun s : List Int => .sl s.length (ints s)) Try.underlying26 (by kernel_rfl) rfl (rd_ints Try.underlying28)) (by rw [Try.underlying26])) fun u ⟨l, h, _, h2⟩ => ⟨l, by simpa [intss] using h, h2⟩
theorem arg_node : ArgV Try.prog 25 fun u => ∃ d : Nd, u = .agg (ndC d) ∧ d.args.length ≤ 17592186044416 ∧ d.attrs.length ≤ 17592186044416 := by
  refine ArgV.mono (ArgV.struct (Reads.struct (Qs := fun i vs => if i = 0 then ∃ n, vs = [V.int .i64 n] ∧ (Lit.int .i64 n).wf = true else ∃ xs : List Int, vs = [.sl xs.length (ints xs)] ∧ xs.length ≤ 17592186044416) a_laid (of_decide_eq_true (by kernel_rfl)) Try.underlying25 ?_) Try.underlying25) ?_
  · intro i f hf
    match i, hf with
    | 0, hf => cases hf; exact Reads.mono (Reads.int Try.underlying22) fun vs h => by rw [if_pos rfl]; exact h
    | 1, hf => cases hf; exact Reads.mono (rd_ints Try.underlying23) fun vs h => by rw [if_neg (by decide)]; exact h
    | 2, hf => cases hf; exact Reads.mono (rd_ints Try.underlying23) fun vs h => by rw [if_neg (by decide)]; exact h
    | i + 3, hf => cases hf
  · rintro u ⟨vs, rfl, l, hl, hq, rfl⟩
    match l, hl with
    | [a, b, c], _ =>
      have h0 := hq 0 (by decide)
      have h1 := hq 1 (by decide)
      have h2 := hq 2 (by decide)
      obtain ⟨n, rfl, _⟩ := h0
      obtain ⟨xs, rfl, hx⟩ := h1
      obtain ⟨ys, rfl, hy⟩ := h2
      exact ⟨⟨n, xs, ys⟩, rfl, hx, hy⟩
theorem args3 : ArgsV Try.prog [3, 25, 26] fun us => ∃ (v : Int) (d : Nd) (l : List (List Int)), us = [.int .i64 v, .agg (ndC d), .sl l.length (intss l)] ∧ LOK d l := by
  refine ArgsV.mono (ArgsV.cons arg_int (ArgsV.cons arg_node (ArgsV.cons arg_shapes ArgsV.nil))) ?_
  rintro us ⟨_, _, rfl, ⟨v, rfl⟩, _, _, rfl, ⟨d, rfl, h1, h2⟩, _, _, rfl, ⟨l, rfl, h3⟩, rfl⟩
  refine ⟨v, d, l, rfl, h1, h2, fun k hk => ?_⟩
  rw [show l.getD k [] = l[k] by simp [List.getD, hk]]
  exact h3 _ (List.getElem_mem hk)
theorem args0 : ArgsV Try.prog [] fun us => us = [] := ArgsV.nil
end Go.Proofs.Ytlomgfdepllanaa
end
