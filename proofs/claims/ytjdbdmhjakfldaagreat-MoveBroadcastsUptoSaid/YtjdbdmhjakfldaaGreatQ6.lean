/-
  Parts La3, Rf0, Lw1, Rf1, Rf2, Lw2, Rf4, Lw4, RowU, one behind the other: a program logic of our own, contracts of functions.
-/
import Derived.Test.YtjdbdmhjakfldaaGreatQ5

section
set_option linter.unusedSimpArgs false
set_option linter.unusedVariables false
set_option maxRecDepth 100000
set_option pp.maxSteps 1500
set_option maxHeartbeats 4000000
namespace Go.Proofs.YtjdbdmhjakfldaaGreat
open Go.Bv
theorem k1E : transE (wholeT [2, 3] [1, 2, 3, 4, 5, 6]) [1, 0] = 0 := by
  rw [transE, mayT_whole _ _ (by decide) (by decide)]
  rfl
theorem k1T : transT (wholeT [2, 3] [1, 2, 3, 4, 5, 6]) [1, 0] = wholeT [3, 2] [1, 4, 2, 5, 3, 6] := by
  rw [transT, errT_ok k1E, mvT_whole _ _ (by decide)]
  rfl
theorem k2E : sliceE (wholeT [2, 3] [1, 2, 3, 4, 5, 6]) [0, 1, 1, 3] = 0 := by
  rw [sliceE, mayT_whole _ _ (by decide) (by decide)]
  rfl
theorem k2T : sliceT (wholeT [2, 3] [1, 2, 3, 4, 5, 6]) [0, 1, 1, 3] = wholeT [1, 2] [2, 3] := by
  rw [sliceT, errT_ok k2E, mvT_whole _ _ (by decide)]
  rfl
theorem k3E : padE (wholeT [1, 2] [2, 3]) [0, 0, 1, 0] = 0 := by
  rw [padE, mayT_whole _ _ (by decide) (by decide)]
  rfl
theorem k3T : padT (wholeT [1, 2] [2, 3]) [0, 0, 1, 0] = wholeT [1, 3] [0, 2, 3] := by
  rw [padT, errT_ok k3E, mvT_whole _ _ (by decide)]
  rfl
theorem t1_val : Val C 13 [tnV (wholeT [2, 3] [1, 2, 3, 4, 5, 6]), .sl 2 [.int .i64 1, .int .i64 0]] (.tup [tnV (wholeT [3, 2] [1, 4, 2, 5, 3, 6]), .int .i64 0]) := by
  have h := transpose_val (wholeT [2, 3] [1, 2, 3, 4, 5, 6]) (whole_tn (by decide) (by decide) (by decide)) [1, 0] (by decide)
  rw [k1E, k1T] at h
  exact h
theorem t2_val : Val C 20 [tnV (wholeT [2, 3] [1, 2, 3, 4, 5, 6]), .sl 4 [.int .i64 0, .int .i64 1, .int .i64 1, .int .i64 3]] (.tup [tnV (wholeT [1, 2] [2, 3]), .int .i64 0]) := by
  have h := slice_val (wholeT [2, 3] [1, 2, 3, 4, 5, 6]) (whole_tn (by decide) (by decide) (by decide)) [0, 1, 1, 3] (by decide)
  rw [k2E, k2T] at h
  exact h
theorem t3_val : Val C 22 [tnV (wholeT [1, 2] [2, 3]), .sl 4 [.int .i64 0, .int .i64 0, .int .i64 1, .int .i64 0]] (.tup [tnV (wholeT [1, 3] [0, 2, 3]), .int .i64 0]) := by
  have h := pad_val (wholeT [1, 2] [2, 3]) (whole_tn (by decide) (by decide) (by decide)) [0, 0, 1, 0] (by decide)
  rw [k3E, k3T] at h
  exact h
theorem w_val (s l : List Int) (hs : s.length ≤ 1000000) (hl : l.length ≤ 1000000) (hb : ∀ x ∈ l, -9223372036854775808 ≤ x ∧ x < 9223372036854775808) : ∃ T, T = wholeT s l ∧ TnOK T ∧ Val C 49 [.sl s.length (ints s), .sl l.length (ints l)] (tnV T) := ⟨_, rfl, whole_tn hs hl hb, whole_val s l hs hl hb⟩
theorem known_spec : Pu C 19 [] (.bool true) := by
  obtain ⟨X, hX, tX, wX⟩ := w_val [2, 3] [1, 2, 3, 4, 5, 6] (by decide) (by decide) (by decide)
  obtain ⟨A, hA, tA, wA⟩ := w_val [3, 2] [1, 4, 2, 5, 3, 6] (by decide) (by decide) (by decide)
  obtain ⟨B, hB, tB, wB⟩ := w_val [1, 2] [2, 3] (by decide) (by decide) (by decide)
  obtain ⟨D, hD, tD, wD⟩ := w_val [1, 3] [0, 2, 3] (by decide) (by decide) (by decide)
  have h1 := t1_val
  have h2 := t2_val
  have h3 := t3_val
  rw [← hX, ← hA] at h1
  rw [← hX, ← hB] at h2
  rw [← hB, ← hD] at h3
  have sA := same07_spec A A tA tA
  have sB := same07_spec B B tB tB
  have sD := same07_spec D D tD tD
  rw [same_refl] at sA sB sD
  clear hX hA hB hD
  refine Fc.keep (Fc.bodyT mixed Tryz.func19 w19 rfl Tryz.ntmps19 Tryz.results19 (Nat.le_of_ble_eq_true rfl) ?_)
  (refine Go1.out ?_; repeat' ((with_reducible first | refine Go1.mk ?_ | ((first | apply Br.dec | apply Br.beq | apply Br.bne | apply Br.mk) <;> intro h)) <;> try simp -implicitDefEqProofs (maxSteps := 9000000) (disch := first | omega | (simp only [lens]; omega)) only [go_sem]))
  refine wX.call ⟨.self rfl, .self rfl, trivial⟩ (clo_tnV _) ?_
  (refine Go1.out ?_; repeat' ((with_reducible first | refine Go1.mk ?_ | ((first | apply Br.dec | apply Br.beq | apply Br.bne | apply Br.mk) <;> intro h)) <;> try simp -implicitDefEqProofs (maxSteps := 9000000) (disch := first | omega | (simp only [lens]; omega)) only [go_sem]))
  refine h1.call ⟨.self (clo_tnV _), .self rfl, trivial⟩ (by simp [clo, cloL, clo_tnV]) ?_
  (refine Go1.out ?_; repeat' ((with_reducible first | refine Go1.mk ?_ | ((first | apply Br.dec | apply Br.beq | apply Br.bne | apply Br.mk) <;> intro h)) <;> try simp -implicitDefEqProofs (maxSteps := 9000000) (disch := first | omega | (simp only [lens]; omega)) only [go_sem]))
  refine h2.call ⟨.self (clo_tnV _), .self rfl, trivial⟩ (by simp [clo, cloL, clo_tnV]) ?_
  (refine Go1.out ?_; repeat' ((with_reducible first | refine Go1.mk ?_ | ((first | apply Br.dec | apply Br.beq | apply Br.bne | apply Br.mk) <;> intro h)) <;> try simp -implicitDefEqProofs (maxSteps := 9000000) (disch := first | omega | (simp only [lens]; omega)) only [go_sem]))
  refine h3.call ⟨.self (clo_tnV _), .self rfl, trivial⟩ (by simp [clo, cloL, clo_tnV]) ?_
  (refine Go1.out ?_; repeat' ((with_reducible first | refine Go1.mk ?_ | ((first | apply Br.dec | apply Br.beq | apply Br.bne | apply Br.mk) <;> intro h)) <;> try simp -implicitDefEqProofs (maxSteps := 9000000) (disch := first | omega | (simp only [lens]; omega)) only [go_sem]))
  refine wA.pc ⟨.self rfl, .self rfl, trivial⟩ (clo_tnV _) ?_
  (refine Go1.out ?_; repeat' ((with_reducible first | refine Go1.mk ?_ | ((first | apply Br.dec | apply Br.beq | apply Br.bne | apply Br.mk) <;> intro h)) <;> try simp -implicitDefEqProofs (maxSteps := 9000000) (disch := first | omega | (simp only [lens]; omega)) only [go_sem]))
  refine Pc.pure sA (by simp [cloL, clo, cloL_ints, cloL_raws]) (fun g => rfl) ?_
  (refine Go1.out ?_; repeat' ((with_reducible first | refine Go1.mk ?_ | ((first | apply Br.dec | apply Br.beq | apply Br.bne | apply Br.mk) <;> intro h)) <;> try simp -implicitDefEqProofs (maxSteps := 9000000) (disch := first | omega | (simp only [lens]; omega)) only [go_sem]))
  refine wB.pc ⟨.self rfl, .self rfl, trivial⟩ (clo_tnV _) ?_
  (refine Go1.out ?_; repeat' ((with_reducible first | refine Go1.mk ?_ | ((first | apply Br.dec | apply Br.beq | apply Br.bne | apply Br.mk) <;> intro h)) <;> try simp -implicitDefEqProofs (maxSteps := 9000000) (disch := first | omega | (simp only [lens]; omega)) only [go_sem]))
  refine Pc.pure sB (by simp [cloL, clo, cloL_ints, cloL_raws]) (fun g => rfl) ?_
  (refine Go1.out ?_; repeat' ((with_reducible first | refine Go1.mk ?_ | ((first | apply Br.dec | apply Br.beq | apply Br.bne | apply Br.mk) <;> intro h)) <;> try simp -implicitDefEqProofs (maxSteps := 9000000) (disch := first | omega | (simp only [lens]; omega)) only [go_sem]))
  refine wD.pc ⟨.self rfl, .self rfl, trivial⟩ (clo_tnV _) ?_
  (refine Go1.out ?_; repeat' ((with_reducible first | refine Go1.mk ?_ | ((first | apply Br.dec | apply Br.beq | apply Br.bne | apply Br.mk) <;> intro h)) <;> try simp -implicitDefEqProofs (maxSteps := 9000000) (disch := first | omega | (simp only [lens]; omega)) only [go_sem]))
  refine Pc.pure sD (by simp [cloL, clo, cloL_ints, cloL_raws]) (fun g => rfl) ?_
  (refine Go1.out ?_; repeat' ((with_reducible first | refine Go1.mk ?_ | ((first | apply Br.dec | apply Br.beq | apply Br.bne | apply Br.mk) <;> intro h)) <;> try simp -implicitDefEqProofs (maxSteps := 9000000) (disch := first | omega | (simp only [lens]; omega)) only [go_sem]))
  (refine keepP (by intro g; simp only [go_sem, ren, renL]) ?_)
  all_goals rfl
end Go.Proofs.YtjdbdmhjakfldaaGreat
end
section
set_option linter.unusedSimpArgs false
set_option linter.unusedVariables false
set_option maxRecDepth 100000
set_option pp.maxSteps 1500
set_option maxHeartbeats 4000000
namespace Go.Proofs.YtjdbdmhjakfldaaGreat
open Go.Bv
theorem count09_spec (xs : List Int) (hx : xs.length ≤ 1000000000) (h1 : ∀ d ∈ xs, 1 ≤ d) : Pu C 53 [.sl xs.length (ints xs)] (.int .i64 (prodP xs)) := by
  refine Fc.keep (Fc.bodyT mixed Tryz.func53 w53 rfl Tryz.ntmps53 Tryz.results53 (Nat.le_of_ble_eq_true rfl) ?_)
  (refine Go1.out ?_; repeat' ((with_reducible first | refine Go1.mk ?_ | ((first | apply Br.dec | apply Br.beq | apply Br.bne | apply Br.mk) <;> intro h)) <;> try simp -implicitDefEqProofs (maxSteps := 9000000) (disch := first | omega | (simp only [lens]; omega)) only [go_sem]))
  refine TT_loop_inv (fun n ts H => ∃ (k : Nat), (k ≤ xs.length) ∧ (prodL (xs.take k) ≤ 1024) ∧ (H = []) ∧ (n = xs.length - k) ∧ ts.length = 25 ∧ nth ts 0 = .sl xs.length (ints xs) ∧ nth ts 3 = .int .i64 (prodL (xs.take k)) ∧ nth ts 4 = .int .i64 (k : Nat)) ?_ (n := xs.length) ?_
  · skip
    rintro n ts H ⟨k, hk, hm, hH, hn, hL, hs0, hs3, hs4⟩
    refine TT_env [(0, .sl xs.length (ints xs)), (3, .int .i64 (prodL (xs.take k))), (4, .int .i64 (k : Nat))] hL (by simp only [List.forall_mem_cons, hs0, hs3, hs4, true_and]; exact fun _ h => nomatch h) ?_
    clear hL hs0 hs3 hs4 ts
    refine TT_of mixed ?_
    subst hH
    have hp1 := prodL_pos (l := xs.take k) fun d hd => h1 d (List.mem_of_mem_take hd)
    by_cases hkl : k < xs.length
    · have hd := getD_pos h1 hkl
      have hdu := getD_le_prodL h1 hkl
      have e := prodL_take hkl
      have hle := prodL_le h1 (k + 1)
      rw [e] at hle
      have hge : xs.getD k 0 ≤ prodL (xs.take k) * xs.getD k 0 := by
        have := Int.mul_le_mul_of_nonneg_right hp1 (show 0 ≤ xs.getD k 0 by omega)
        omega
      by_cases hbig : xs.getD k 0 > 1024
      · skip
        (refine Go1.out ?_; repeat' ((with_reducible first | refine Go1.mk ?_ | ((first | apply Br.dec | apply Br.beq | apply Br.bne | apply Br.mk) <;> intro h)) <;> try simp -implicitDefEqProofs (maxSteps := 9000000) (disch := first | omega | (simp only [lens]; omega)) only [go_sem]))
        (refine keepP (by intro g; simp only [go_sem, ren, renL]) ?_)
        rw [prodP, if_pos (by omega)]
      · have hmul : prodL (xs.take k) * xs.getD k 0 ≤ 1048576 := by
          have := Int.mul_le_mul hm (show xs.getD k 0 ≤ 1024 by omega) (by omega) (by decide)
          omega
        have hmul0 : 0 ≤ prodL (xs.take k) * xs.getD k 0 := Int.mul_nonneg (by omega) (by omega)
        rw [← e] at hle hge hmul hmul0
        have e' := e.symm
        generalize hz : prodL (xs.take (k + 1)) = z at *
        (refine Go1.out ?_; repeat' ((with_reducible first | refine Go1.mk ?_ | ((first | apply Br.dec | apply Br.beq | apply Br.bne | apply Br.mk) <;> intro h)) <;> try simp -implicitDefEqProofs (maxSteps := 9000000) (disch := first | omega | (simp only [lens]; omega)) only [go_sem, e']))
        · skip
          (refine keepP (by intro g; simp only [go_sem, ren, renL]) ?_)
          rw [prodP, if_pos (by omega)]
        · exact ⟨xs.length - (k + 1), by omega, k + 1, by omega, by rw [hz]; omega, rfl, by rw [hz], by congr 1⟩
    · have hks : k = xs.length := by omega
      subst hks
      rw [List.take_length] at hm
      (refine Go1.out ?_; repeat' ((with_reducible first | refine Go1.mk ?_ | ((first | apply Br.dec | apply Br.beq | apply Br.bne | apply Br.mk) <;> intro h)) <;> try simp -implicitDefEqProofs (maxSteps := 9000000) (disch := first | omega | (simp only [lens]; omega)) only [go_sem]))
      rw [List.take_length]
      (refine keepP (by intro g; simp only [go_sem, ren, renL]) ?_)
      rw [prodP, if_neg (by omega)]
  · exact ⟨0, by omega, by simp [prodL], rfl, rfl, rfl, rfl, rfl, rfl⟩
def emptyQ : Tq := ⟨[], []⟩
def errQ (p : Tq) (e : Int) : Tq := if e ≠ 0 then emptyQ else p
theorem errQ_no {p : Tq} {e : Int} (h : e ≠ 0) : errQ p e = emptyQ := if_pos h
theorem errQ_ok {p : Tq} {e : Int} (h : e = 0) : errQ p e = p := if_neg (by omega)
theorem bor_no {H : Heap} {p : Tq} {e k : Int} (h : e = k) (hk : k ≠ 0) : Bor H (.tup [.agg [.nil, .nil], .int .i64 k]) (.tup [tqV (errQ p e), .int .i64 e]) := by
  rw [errQ_no (by omega), h]
  exact Bor.tupL ⟨Bor.aggL ⟨.nil _, .nil _, trivial⟩, .self rfl, trivial⟩
theorem clo_ans (q : Tq) (e : Int) : clo (.tup [tqV q, .int .i64 e]) = true := by simp [clo, cloL, clo_tqV]
end Go.Proofs.YtjdbdmhjakfldaaGreat
end
section
set_option linter.unusedSimpArgs false
set_option linter.unusedVariables false
set_option maxRecDepth 100000
set_option pp.maxSteps 1500
set_option maxHeartbeats 4000000
namespace Go.Proofs.YtjdbdmhjakfldaaGreat
open Go.Bv
theorem intQ_ok (a : Int) (ha : -9223372036854775808 ≤ a ∧ a < 9223372036854775808) : RqOK (intQ a) := (whole_ok (s := []) (l := [a]) (by decide) (by simp) (by simpa using ha)).r _ (by simp [wholeQ])
theorem rawOf_ok {x : Raw} (h : RawOK x) : RawOK (rawOf (valQ x)) := by
  obtain ⟨h1, h2⟩ := normQ_le x.neg (lv 4294967296 x.num) (lv 4294967296 x.den)
  have n1 := h.n1
  have d1 := h.d1
  refine ⟨?_, ?_, dg_Lim _, dg_Lim _⟩
  · have := dg_len_lt (b := B32) (by decide) (valQ x).num x.num.length (Nat.lt_of_le_of_lt h1 (lv_lt32 h.nL))
    show (dg B32 (valQ x).num).length ≤ _
    omega
  · show (dg B32 (valQ x).den).length ≤ _
    rcases h2 with h2 | h2
    · have := dg_len_lt (b := B32) (by decide) (valQ x).den x.den.length (Nat.lt_of_le_of_lt h2 (lv_lt32 h.dL))
      omega
    · have e : (valQ x).den = 1 := h2
      have : (dg B32 1).length ≤ 1 := dg_len_lt (by decide) _ _ (by decide)
      rw [e]; omega
theorem normT_ok {t : Tn} (ht : TnOK t) : TnOK (normT t) := ⟨ht.s, by simpa [normT] using ht.e, fun x hx => by
  simp only [normT, List.mem_map] at hx
  obtain ⟨_, ⟨a, ha, rfl⟩, rfl⟩ := hx
  exact rawOf_ok (ht.r a ha)⟩
theorem emptyT_ok : TnOK emptyT := ⟨by decide, by decide, fun x hx => by simp [emptyT] at hx⟩
theorem emptyQ_ok : TqOK emptyQ := ⟨by decide, by decide, fun x hx => by simp [emptyQ] at hx⟩
theorem errT_TnOK {p : Tn} {e : Int} (h : e = 0 → TnOK p) : TnOK (errT p e) := by
  by_cases he : e = 0
  · rw [errT_ok he]; exact h he
  · rw [errT_no he]; exact emptyT_ok
theorem errQ_TqOK {p : Tq} {e : Int} (h : e = 0 → TqOK p) : TqOK (errQ p e) := by
  by_cases he : e = 0
  · rw [errQ_ok he]; exact h he
  · rw [errQ_no he]; exact emptyQ_ok
theorem ofT_ok {t : Tn} (ht : TnOK t) : TqOK (ofT t) := by
  rw [ofT]
  split
  · exact ⟨by decide, by decide, fun x hx => by simp [zeroTq] at hx; rw [hx]; exact intQ_ok 0 (by decide)⟩
  · exact ht.of
theorem mvT_ok {t : Tn} (ht : TnOK t) (hm : mayT t = 0) {s : List Int} (hs : s.length ≤ 1000000000) (hp : mayP s = 0) (g : List Int → List Int) : TnOK (mvT t s g) := by
  obtain ⟨m1, m2, m3⟩ := mayP_zero hp
  exact normT_ok ⟨hs, by simp only [mvL, gatL_len]; omega, mvL_ok ht (mayT_zero hm).1 s g _⟩
theorem isB_ok {t : Tn} {p : Tn} {q : Tq} {e f : Int} (h0 : mayT t ≠ 0 → e = mayT t) (h1 : mayT t = 0 → e = f) (h2 : mayT t = 0 → e = 0 → isT q p = true) : isB (errT p e) e t (errQ q f) f = true := by
  by_cases hm : mayT t ≠ 0
  · have he := h0 hm
    rw [errT_no (by omega)]
    simp only [isB, hm, he]
    simp [emptyT, hm]
  · have hm' : mayT t = 0 := by omega
    have he := h1 hm'
    by_cases hz : e = 0
    · have hf : f = 0 := by omega
      rw [errT_ok hz, errQ_ok hf]
      simp [isB, hm', hf, hz, h2 hm' hz]
    · rw [errT_no hz]
      subst he
      simp [isB, hm', hz, emptyT]
theorem mayT_cases (t : Tn) : mayT t = 0 ∨ mayT t = 6 ∨ mayT t = 11 ∨ mayT t = 13 ∨ mayT t = 14 := by
  have := mayP_cases t.shape
  unfold mayT fitsT
  split <;> (try split) <;> (try split) <;> (try split) <;> omega
end Go.Proofs.YtjdbdmhjakfldaaGreat
end
section
set_option linter.unusedSimpArgs false
set_option linter.unusedVariables false
set_option maxRecDepth 100000
set_option pp.maxSteps 1500
set_option maxHeartbeats 4000000
namespace Go.Proofs.YtjdbdmhjakfldaaGreat
open Go.Bv
theorem Own.retR {e s r n : Nat} {H : Heap} {cs : List V} (h2 : rowOf H r = some ⟨e, s, cs⟩) (hc : ∀ g, renL g cs = cs) {Q : V → Heap → Prop} (hQ : Q (.ref 0 0 n) [some ⟨e, s, cs⟩]) : ∃ sel, keepw sel Q (.ref r 0 n) H := by
  refine ⟨[r], by simp, by simpa using rowOf_lt h2, ?_⟩
  simpa [ren, pos, selH, h2, renRow, hc] using hQ
theorem Fc.rowc {C : Ctx} {f : FuncId} {args args' : List V} {H : Heap} {K : V → Heap → Prop} {e s n : Nat} {cs : List V} (h : Fc C f args' [] fun v H => v = .ref 0 0 n ∧ H = [some ⟨e, s, cs⟩]) (hb : BorL H args args') (hc : ∀ g, renL g cs = cs) (hp : plainL cs = true) (hK : K (.ref H.length 0 n) (H ++ [some ⟨e, s, cs⟩])) : Fc C f args H K :=
  h.borrow hb.all.1 hb.all.2 (fun v H' hv => by
    obtain ⟨rfl, rfl⟩ := hv
    exact (show Ret e s [some ⟨e, s, cs⟩] (.ref 0 0 n) n cs ∨ True from .inr trivial) |> fun _ => ⟨rfl, by
      intro r row hr
      match r, hr with
      | 0, hr => simp [rowOf] at hr; subst hr; exact hp
      | r + 1, hr => simp [rowOf] at hr⟩) fun v H' hv => by
    obtain ⟨rfl, rfl⟩ := hv
    simpa [ren, shift, renH, renRow, hc] using hK
theorem index09_row (s : List Int) (z : Int) (hs : s.length ≤ 1000000000) (h1 : ∀ d ∈ s, 1 ≤ d) (h0 : 0 ≤ z) (hn : z ≤ 1000000000) (hb : prodL s ≤ 1000000) : Fc C 45 [.sl s.length (ints s), .int .i64 z] [] fun v H => v = .ref 0 0 s.length ∧ H = [some ⟨3, 1, ints (idxL s z)⟩] := by
  refine Fc.keep (Fc.bodyT mixed Tryz.func45 w45 rfl Tryz.ntmps45 Tryz.results45 (Nat.le_of_ble_eq_true rfl) ?_)
  (refine Go1.out ?_; repeat' ((with_reducible first | refine Go1.mk ?_ | ((first | apply Br.dec | apply Br.beq | apply Br.bne | apply Br.mk) <;> intro h)) <;> try simp -implicitDefEqProofs (maxSteps := 9000000) (disch := first | omega | (simp only [lens]; omega)) only [go_sem]))
  refine makew_k rfl rfl rfl rfl (by simp [t3bytes]) (by omega) ?_
  (refine Go1.out ?_; repeat' ((with_reducible first | refine Go1.mk ?_ | ((first | apply Br.dec | apply Br.beq | apply Br.bne | apply Br.mk) <;> intro h)) <;> try simp -implicitDefEqProofs (maxSteps := 9000000) (disch := first | omega | (simp only [lens]; omega)) only [go_sem]))
  refine TT_loop_inv (fun n ts H => ∃ (k : Nat), (k ≤ s.length) ∧ (n = s.length - k) ∧ (rowOf H 0 = some ⟨3, 1, ints (outK s z k)⟩) ∧ ts.length = 33 ∧ nth ts 0 = .sl s.length (ints s) ∧ nth ts 1 = .int .i64 (z / prodL (s.drop (s.length - k))) ∧ nth ts 5 = .ref 0 0 s.length ∧ nth ts 6 = .int .i64 ((s.length : Int) - 1 - k)) ?_ (n := s.length) ?_
  · skip
    rintro n ts H ⟨k, hk, hn2, h0r, hL, hs0, hs1, hs5, hs6⟩
    refine TT_env [(0, .sl s.length (ints s)), (1, .int .i64 (z / prodL (s.drop (s.length - k)))), (5, .ref 0 0 s.length), (6, .int .i64 ((s.length : Int) - 1 - k))] hL (by simp only [List.forall_mem_cons, hs0, hs1, hs5, hs6, true_and]; exact fun _ h => nomatch h) ?_
    clear hL hs0 hs1 hs5 hs6 ts
    refine TT_of mixed ?_
    by_cases hkl : k < s.length
    · have e1 : ((s.length : Int) - 1 - (k : Int)) = ((s.length - 1 - k : Nat) : Int) := by omega
      have hd := getD_pos h1 (i := s.length - 1 - k) (by omega)
      have hdu := getD_le_prodL h1 (i := s.length - 1 - k) (by omega)
      have hq0 : 0 ≤ z / prodL (s.drop (s.length - k)) := Int.ediv_nonneg (by omega) (by have := prodL_pos (l := s.drop (s.length - k)) fun d hd => h1 d (List.mem_of_mem_drop hd); omega)
      have hq1 : z / prodL (s.drop (s.length - k)) ≤ z := Int.ediv_le_self _ (by omega)
      have hst := outK_step (n := z) hkl
      have hnx := idx_next h1 (n := z) (i := s.length - 1 - k) (by omega)
      have hii : idxAt s z (s.length - 1 - k) = z / prodL (s.drop (s.length - k)) % s.getD (s.length - 1 - k) 0 := by
        rw [idxAt, show s.length - 1 - k + 1 = s.length - k by omega]
      rw [show s.length - 1 - k + 1 = s.length - k by omega] at hnx
      have hlen := outK_len s z k
      have hw : s.length - (k + 1) = s.length - 1 - k := by omega
      rw [hii] at hst
      have hm1 := Int.emod_nonneg (z / prodL (s.drop (s.length - k))) (show s.getD (s.length - 1 - k) 0 ≠ 0 by omega)
      have hm2 := Int.emod_lt_of_pos (z / prodL (s.drop (s.length - k))) (show 0 < s.getD (s.length - 1 - k) 0 by omega)
      have hdv := Int.ediv_le_self (a := z / prodL (s.drop (s.length - k))) (s.getD (s.length - 1 - k) 0) hq0
      have hdv0 := Int.ediv_nonneg hq0 (show 0 ≤ s.getD (s.length - 1 - k) 0 by omega)
      have hfin : z / prodL (s.drop (s.length - (k + 1))) = z / prodL (s.drop (s.length - k)) / s.getD (s.length - 1 - k) 0 := by rw [hw, hnx]
      generalize z / prodL (s.drop (s.length - k)) = q at *
      generalize hdd : s.getD (s.length - 1 - k) 0 = d at *
      (refine Go1.out ?_; repeat' ((with_reducible first | refine Go1.mk ?_ | ((first | apply Br.dec | apply Br.beq | apply Br.bne | apply Br.mk) <;> intro h)) <;> try simp -implicitDefEqProofs (maxSteps := 9000000) (disch := first | omega | (simp only [lens]; omega)) only [go_sem, e1, h0r, upd_ints, hst, hdd]))
      refine ⟨s.length - (k + 1), by omega, k + 1, by omega, rfl, rowOf_set_eq h0r, by rw [hfin], by congr 1; omega⟩
    · have hks : k = s.length := by omega
      subst hks
      (refine Go1.out ?_; repeat' ((with_reducible first | refine Go1.mk ?_ | ((first | apply Br.dec | apply Br.beq | apply Br.bne | apply Br.mk) <;> intro h)) <;> try simp -implicitDefEqProofs (maxSteps := 9000000) (disch := first | omega | (simp only [lens]; omega)) only [go_sem]))
      rw [outK_full] at h0r
      exact Own.retR h0r (fun g => renL_ints g _) ⟨rfl, rfl⟩
  · refine ⟨0, by omega, rfl, ?_, rfl, rfl, ?_, rfl, ?_⟩
    · rw [outK_zero, ← ints_zero]; rfl
    · rw [Nat.sub_zero, List.drop_length]
      show V.int .i64 z = _
      simp [prodL]
    · skip
      simp -implicitDefEqProofs (maxSteps := 9000000) (disch := first | omega | (simp only [lens]; omega)) only [go_sem]
      congr 1; omega
theorem offP_pre {s xs : List Int} {i : Nat} (hi : i ≤ s.length) (hI : ∀ j, j < i → 0 ≤ xs.getD j 0 ∧ xs.getD j 0 < s.getD j 0) : 0 ≤ offP s xs i ∧ offP s xs i < prodL (s.take i) := by
  have hh : ∀ (m : Nat), m ≤ i → 0 ≤ offP s xs m ∧ offP s xs m < prodL (s.take m) := fun m => by
    induction m with
    | zero => intro _; simp [offP, prodL]
    | succ m ih =>
      intro hm
      obtain ⟨h1, h2⟩ := ih (by omega)
      obtain ⟨h3, h4⟩ := hI m (by omega)
      rw [prodL_take (by omega), offP]
      have h5 : offP s xs m * s.getD m 0 ≤ (prodL (s.take m) - 1) * s.getD m 0 := Int.mul_le_mul_of_nonneg_right (by omega) (by omega)
      have h6 : 0 ≤ offP s xs m * s.getD m 0 := Int.mul_nonneg h1 (by omega)
      rw [Int.sub_mul, Int.one_mul] at h5
      omega
  exact hh i (Nat.le_refl _)
def atQ (q : Tq) (l : List Int) : Rq := if inB q.shape l = true then q.el.getD (offP q.shape l q.shape.length).toNat q0 else intQ 0
theorem at09_spec (q : Tq) (hq : TqOK q) (hm : mayP q.shape = 0) (he : (q.el.length : Int) = prodL q.shape) (l : List Int) (hl : l.length = q.shape.length) (hb : ∀ j, j < l.length → -1000000000 ≤ l.getD j 0 ∧ l.getD j 0 ≤ 1000000000) :
    Pu C 46 [tqV q, .sl l.length (ints l)] (refV (atQ q l)) := by
  obtain ⟨m1, m2, m3⟩ := mayP_zero hm
  have hs := hq.s
  have hel := hq.e
  refine Pu.ofBor (clo_refV _) ?_
  refine Fc.bodyT mixed Tryz.func46 w46 rfl Tryz.ntmps46 Tryz.results46 (Nat.le_of_ble_eq_true rfl) ?_
  (refine Go1.out ?_; repeat' ((with_reducible first | refine Go1.mk ?_ | ((first | apply Br.dec | apply Br.beq | apply Br.bne | apply Br.mk) <;> intro h)) <;> try simp -implicitDefEqProofs (maxSteps := 9000000) (disch := first | omega | (simp only [lens]; omega)) only [go_sem]))
  refine TT_loop_inv (fun n ts H => ∃ (i : Nat), (i ≤ l.length) ∧ ((∀ j, j < i → 0 ≤ l.getD j 0 ∧ l.getD j 0 < q.shape.getD j 0)) ∧ (n = l.length - i) ∧ (rowOf H 0 = some ⟨34, 2, [.sl q.shape.length (ints q.shape), .sl q.el.length (refsC q.el)]⟩) ∧ (rowOf H 1 = some ⟨72, 3, [.bool false, .nil, .nil]⟩) ∧ ts.length = 48 ∧ nth ts 1 = .sl l.length (ints l) ∧ nth ts 2 = .ptr 0 0 ∧ nth ts 4 = .ptr 1 0 ∧ nth ts 5 = .int .i64 (offP q.shape l i) ∧ nth ts 6 = .int .i64 (i : Nat)) ?_ (n := l.length) ?_
  · skip
    rintro n ts H ⟨i, hi, hI, hn, h0, h1, hL, hs1, hs2, hs4, hs5, hs6⟩
    refine TT_env [(1, .sl l.length (ints l)), (2, .ptr 0 0), (4, .ptr 1 0), (5, .int .i64 (offP q.shape l i)), (6, .int .i64 (i : Nat))] hL (by simp only [List.forall_mem_cons, hs1, hs2, hs4, hs5, hs6, true_and]; exact fun _ h => nomatch h) ?_
    clear hL hs1 hs2 hs4 hs5 hs6 ts
    refine TT_of mixed ?_
    have hst : ∀ z : Row, rowOf (H.set 1 (some z)) 1 = some z := fun z => rowOf_set_eq h1
    by_cases hcase : i < l.length
    · have hsi := getD_pos m2 (i := i) (by omega)
      have hsu := getD_le_prodL m2 (i := i) (by omega)
      have hpl := prodL_le m2 i
      have hbi := hb i hcase
      have hoff : 0 ≤ offP q.shape l i ∧ offP q.shape l i < prodL (q.shape.take i) := offP_pre (by omega) hI
      have hmul : 0 ≤ offP q.shape l i * q.shape.getD i 0 ∧ offP q.shape l i * q.shape.getD i 0 ≤ 1048576 := by
        refine ⟨Int.mul_nonneg hoff.1 (by omega), ?_⟩
        have := Int.mul_le_mul (show offP q.shape l i ≤ 1024 by omega) (show q.shape.getD i 0 ≤ 1024 by omega) (by omega) (by decide)
        omega
      by_cases hin : 0 ≤ l.getD i 0 ∧ l.getD i 0 < q.shape.getD i 0
      · have e : offP q.shape l (i + 1) = offP q.shape l i * q.shape.getD i 0 + l.getD i 0 := rfl
        have hI' : ∀ j, j < i + 1 → 0 ≤ l.getD j 0 ∧ l.getD j 0 < q.shape.getD j 0 := allS hI hin
        generalize hqq : offP q.shape l i * q.shape.getD i 0 = qq at *
        generalize offP q.shape l i = o at *
        generalize hd : q.shape.getD i 0 = d at *
        generalize hxx : l.getD i 0 = x at *
        (refine Go1.out ?_; repeat' ((with_reducible first | refine Go1.mk ?_ | ((first | apply Br.dec | apply Br.beq | apply Br.bne | apply Br.mk) <;> intro h)) <;> try simp -implicitDefEqProofs (maxSteps := 9000000) (disch := first | omega | (simp only [lens]; omega)) only [go_sem, h0, hqq, hd, hxx]))
        refine ⟨l.length - (i + 1), by omega, i + 1, by omega, hI', rfl, h1, by rw [e], by congr 1⟩
      · have hno : inB q.shape l = false := by
          rw [Bool.eq_false_iff]
          intro hh
          exact hin (inB_iff.1 hh i (by omega))
        have hat : atQ q l = intQ 0 := by rw [atQ, if_neg (by rw [hno]; decide)]
        rw [hat]
        (refine Go1.out ?_; repeat' ((with_reducible first | refine Go1.mk ?_ | ((first | apply Br.dec | apply Br.beq | apply Br.bne | apply Br.mk) <;> intro h)) <;> try simp -implicitDefEqProofs (maxSteps := 9000000) (disch := first | omega | (simp only [lens]; omega)) only [go_sem, h0]))
        all_goals (refine (int03_spec 0 (by decide) (by decide)).call ⟨.self rfl, trivial⟩ (clo_refV _) ?_)
        all_goals (refine Go1.out ?_; repeat' ((with_reducible first | refine Go1.mk ?_ | ((first | apply Br.dec | apply Br.beq | apply Br.bne | apply Br.mk) <;> intro h)) <;> try simp -implicitDefEqProofs (maxSteps := 9000000) (disch := first | omega | (simp only [lens]; omega)) only [go_sem, h1, hst]))
        all_goals exact .self (clo_refV _)
    · have hil : i = q.shape.length := by omega
      have hyes : inB q.shape l = true := inB_iff.2 fun j hj => hI j (by omega)
      have hlt := offP_lt (inB_iff.1 hyes) q.shape.length (Nat.le_refl _)
      rw [List.take_length] at hlt
      obtain ⟨o, ho⟩ : ∃ o : Nat, offP q.shape l q.shape.length = o := ⟨(offP q.shape l q.shape.length).toNat, by omega⟩
      have hat : atQ q l = q.el.getD o q0 := by rw [atQ, if_pos hyes, ho]; rfl
      rw [hat]
      subst hil
      rw [ho] at hlt ⊢
      have hoe : o < q.el.length := by omega
      (refine Go1.out ?_; repeat' ((with_reducible first | refine Go1.mk ?_ | ((first | apply Br.dec | apply Br.beq | apply Br.bne | apply Br.mk) <;> intro h)) <;> try simp -implicitDefEqProofs (maxSteps := 9000000) (disch := first | omega | (simp only [lens]; omega)) only [go_sem, h0, h1, hst]))
      exact .self (clo_refV _)
  · exact ⟨0, by omega, fun j hj => by omega, rfl, rfl, rfl, rfl, rfl, rfl, rfl, rfl, rfl⟩
end Go.Proofs.YtjdbdmhjakfldaaGreat
end
section
set_option linter.unusedSimpArgs false
set_option linter.unusedVariables false
set_option maxRecDepth 100000
set_option pp.maxSteps 1500
set_option maxHeartbeats 4000000
namespace Go.Proofs.YtjdbdmhjakfldaaGreat
open Go.Bv
def elsQ (q : Tq) (S : List Int) (g : List Int → List Int) (N : Nat) : List Rq := (List.range N).map fun i => atQ q (g (idxL S (i : Nat)))
theorem elsQ_len (q : Tq) (S : List Int) (g : List Int → List Int) (N : Nat) : (elsQ q S g N).length = N := by simp [elsQ]
theorem elsQ_succ (q : Tq) (S : List Int) (g : List Int → List Int) (N : Nat) : elsQ q S g (N + 1) = elsQ q S g N ++ [atQ q (g (idxL S (N : Nat)))] := by simp [elsQ, List.range_succ]
theorem refsC_app (xs : List Rq) (x : Rq) : refsC (xs ++ [x]) = refsC xs ++ [.bool x.neg, DV x.num, DV x.den] := by rw [refsC, flat3_append]; rfl
theorem refsC_scal (xs : List Rq) : (refsC xs).all scal = true := by
  induction xs with
  | nil => rfl
  | cons x xs ih => simp only [refsC, flat3_cons, List.all_cons] at ih ⊢; rw [ih]; rfl
theorem push_ref {y : Ty} {e e' s' i : Nat} {H : Heap} {v : V} {xs : List Rq} {x : Rq} {K : V → Heap → Prop} (h : Bv.Own e 3 H v i (refsC xs)) (hy : y.size = 3) (hby : y.bytes = 56) (hn : i + 1 ≤ 1000000000)
    (hK : ∀ v' H', Bv.Own e 3 H' v' (i + 1) (refsC (xs ++ [x])) → Fr v H H' → kn v' = true ∧ cellsOf v' = [v'] ∧ scal v' = true → K v' H') :
    appw y e v (.ref H.length 0 1) (H ++ [some ⟨e', s', [.bool x.neg, DV x.num, DV x.den]⟩]) K := by
  rw [← hy] at h
  refine app_lit2 h (by rw [hy]; rfl) (by simp [scal, DV, DA]) (by omega) (by omega) (by rw [hby]; omega) (refsC_scal _) fun H' k1 k2 k3 => ?_
  rw [hy] at k1
  exact hK _ H' (by rw [refsC_app]; exact k1) k2 ⟨rfl, rfl, rfl⟩
structure FitQ (q : Tq) : Prop where
  ok : TqOK q
  m : mayP q.shape = 0
  l : (q.el.length : Int) = prodL q.shape
end Go.Proofs.YtjdbdmhjakfldaaGreat
end
section
set_option linter.unusedSimpArgs false
set_option linter.unusedVariables false
set_option maxRecDepth 100000
set_option pp.maxSteps 1500
set_option maxHeartbeats 4000000
namespace Go.Proofs.YtjdbdmhjakfldaaGreat
open Go.Bv
theorem ofT_fit {t : Tn} (ht : TnOK t) : FitQ (ofT t) := by
  refine ⟨ofT_ok ht, ?_, ?_⟩
  · by_cases hm : mayT t = 0
    · rw [ofT, if_neg (by omega)]; exact (mayT_zero hm).2.1
    · rw [ofT, if_pos hm]; rfl
  · by_cases hm : mayT t = 0
    · rw [ofT, if_neg (by omega)]
      have := (mayT_zero hm).2.2
      simpa [tnOf] using this
    · rw [ofT, if_pos hm]; rfl
theorem back_of {t : Tn} (hm : mayT t = 0) : tnBack (tnOf t) = t := by
  have hf := (mayT_zero hm).1
  rw [mayT, if_neg (by omega)] at hm
  have ha : t.el.all okR = true := by
    cases h : t.el.all okR with
    | true => rfl
    | false => rw [h] at hm; simp at hm
  obtain ⟨s, el⟩ := t
  show (⟨s, (el.map valQ).map rawOf⟩ : Tn) = ⟨s, el⟩
  congr 1
  rw [List.map_map]
  exact (List.map_congr_left fun x hx => (isQ_iff.1 (List.all_eq_true.1 ha x hx)).symm).trans (List.map_id _)
theorem atG_atQ (q : Tq) (hm : mayP q.shape = 0) (l : List Int) (hl : l.length = q.shape.length) : atG q l = atQ q l := by
  rw [atG, atQ]
  cases hb : inB q.shape l with
  | true =>
    have hz : offE q.shape l = 0 := by rw [offE, if_neg (by omega), if_neg (by omega), if_pos hb]
    rw [if_pos hz, if_pos rfl, offN, if_pos hz]
  | false =>
    have hz : ¬ offE q.shape l = 0 := by rw [offE, if_neg (by omega), if_neg (by omega), if_neg (by rw [hb]; decide)]; decide
    rw [if_neg hz, if_neg (by decide)]
theorem mv_isT {t : Tn} (hm : mayT t = 0) (S : List Int) (g : List Int → List Int) (hg : ∀ i : Nat, (g (idxL S (i : Nat))).length = t.shape.length) : isT ⟨S, elsQ (tnOf t) S g (prodL S).toNat⟩ (mvT t S g) = true := by
  have hmp := (mayT_zero hm).2.1
  have hel := (mayT_zero hm).2.2
  have e := mvT_back (tnOf t) (fun r hr => by
    simp only [tnOf, List.mem_map] at hr
    obtain ⟨x, _, rfl⟩ := hr
    exact nm_val x) (by simpa [tnOf] using hel) S g
  rw [back_of hm] at e
  rw [e]
  have : (⟨S, elsQ (tnOf t) S g (prodL S).toNat⟩ : Tq) = mvQ (tnOf t) S g := by
    rw [mvQ, elsQ]
    congr 1
    exact List.map_congr_left fun i _ => (atG_atQ (tnOf t) hmp _ (hg i)).symm
  rw [this]
  exact isT_back _
theorem elsQ_ok {q : Tq} (hq : TqOK q) {S : List Int} {g : List Int → List Int} {N : Nat} (hS : S.length ≤ 1000000000) (hN : N ≤ 1000000000) : TqOK ⟨S, elsQ q S g N⟩ := ⟨hS, by simpa [elsQ_len] using hN, fun x hx => by
  simp only [elsQ, List.mem_map] at hx
  obtain ⟨i, _, rfl⟩ := hx
  rw [atQ]
  split
  · rw [List.getD]
    cases h : q.el[(offP q.shape (g (idxL S (i : Nat))) q.shape.length).toNat]? with
    | none => exact intQ_ok 0 (by decide)
    | some r => exact hq.r r (List.mem_of_getElem? h)
  · exact intQ_ok 0 (by decide)⟩
end Go.Proofs.YtjdbdmhjakfldaaGreat
end
section
set_option linter.unusedSimpArgs false
set_option linter.unusedVariables false
set_option maxRecDepth 100000
set_option pp.maxSteps 1500
set_option maxHeartbeats 4000000
namespace Go.Proofs.YtjdbdmhjakfldaaGreat
open Go.Bv
def bcF (q : Tq) (s : List Int) : Int := if mayP s ≠ 0 then mayP s else if okB q.shape s = false then 13 else 0
def bcQ (q : Tq) (s : List Int) : Tq := errQ ⟨s, elsQ q s (brL q.shape) (prodL s).toNat⟩ (bcF q s)
def bcP (sh x : List Int) (k0 k : Nat) : List Int := x.take k0 ++ doneL (fun j => if sh.getD j 0 = 1 then 0 else (x.drop k0).getD j 0) (x.drop k0) k
theorem bcP_len (sh x : List Int) (k0 k : Nat) : (bcP sh x k0 k).length = x.length := by
  rw [bcP, List.length_append, doneL_len, List.length_take, List.length_drop]; omega
theorem bcP_zero (sh x : List Int) (k0 : Nat) : bcP sh x k0 0 = x := by rw [bcP, doneL_zero, List.take_append_drop]
theorem bcP_drop {sh x : List Int} {k0 k : Nat} (h : k0 ≤ x.length) : (bcP sh x k0 k).drop k0 = doneL (fun j => if sh.getD j 0 = 1 then 0 else (x.drop k0).getD j 0) (x.drop k0) k := by
  rw [bcP, List.drop_append_of_le_length (by rw [List.length_take]; omega), List.drop_take_self, List.nil_append]
theorem bcP_one {sh x : List Int} {k0 k : Nat} (hk : k0 + k < x.length) (h : sh.getD k 0 = 1) : (bcP sh x k0 k).set (k0 + k) 0 = bcP sh x k0 (k + 1) := by
  have hs := doneL_step (f := fun j => if sh.getD j 0 = 1 then 0 else (x.drop k0).getD j 0) (x := x.drop k0) (k := k) (by rw [List.length_drop]; omega)
  simp only [h, if_true] at hs
  have hl : (x.take k0).length = k0 := by rw [List.length_take]; omega
  rw [bcP, List.set_append_right _ _ (by omega), hl, Nat.add_sub_cancel_left, hs, bcP]
theorem bcP_no {sh x : List Int} {k0 k : Nat} (hk : k0 + k < x.length) (h : sh.getD k 0 ≠ 1) : bcP sh x k0 k = bcP sh x k0 (k + 1) := by
  have hs := doneL_step (f := fun j => if sh.getD j 0 = 1 then 0 else (x.drop k0).getD j 0) (x := x.drop k0) (k := k) (by rw [List.length_drop]; omega)
  have hg := doneL_get (f := fun j => if sh.getD j 0 = 1 then 0 else (x.drop k0).getD j 0) (x := x.drop k0) (k := k) (by rw [List.length_drop]; omega)
  have hl := doneL_len (fun j => if sh.getD j 0 = 1 then 0 else (x.drop k0).getD j 0) (x.drop k0) k
  rw [List.length_drop] at hl
  simp only [h, if_false] at hs
  have hself : (doneL (fun j => if sh.getD j 0 = 1 then 0 else (x.drop k0).getD j 0) (x.drop k0) k).set k ((x.drop k0).getD k 0) = doneL (fun j => if sh.getD j 0 = 1 then 0 else (x.drop k0).getD j 0) (x.drop k0) k := by
    refine List.ext_getElem (by simp) fun j h1 h2 => ?_
    rw [List.getElem_set]
    split
    · rename_i e; subst e
      rw [← hg, List.getD, List.getElem?_eq_getElem h2]; rfl
    · rfl
  rw [bcP, bcP, ← hs, hself]
theorem brL_eq {sh s x : List Int} (hok : okB sh s = true) (h1 : ∀ d ∈ sh, 1 ≤ d) (hl : x.length = s.length) (hx : ∀ j, j < s.length → 0 ≤ x.getD j 0 ∧ x.getD j 0 < s.getD j 0) : brL sh x = doneL (fun j => if sh.getD j 0 = 1 then 0 else (x.drop (x.length - sh.length)).getD j 0) (x.drop (x.length - sh.length)) sh.length := by
  obtain ⟨o1, o2⟩ := (okB_iff _ _).1 hok
  rw [brL]
  refine List.ext_getElem (by simp [doneL_len]) fun j h2 h3 => ?_
  rw [doneL_len, List.length_drop] at h2
  have hj : j < sh.length := by omega
  simp only [doneL, List.getElem_map, List.getElem_range, hj, if_true, brF]
  have hd := getD_pos h1 hj
  have hxj := hx (s.length - sh.length + j) (by omega)
  have hg : (x.drop (x.length - sh.length)).getD j 0 = x.getD (s.length - sh.length + j) 0 := by rw [hl]; simp [List.getD]
  rw [hg]
  have ho := o2 j hj
  by_cases he : sh.getD j 0 = 1
  · rw [if_pos he, he]
    split <;> omega
  · rw [if_neg he]
    have : sh.getD j 0 = s.getD (s.length - sh.length + j) 0 := by rcases ho with h | h; exact absurd h he; exact h
    rw [if_neg (by omega)]
theorem broadcast09_spec (q : Tq) (hq : FitQ q) (s : List Int) (hs : s.length ≤ 1000000000) : Pu C 32 [tqV q, .sl s.length (ints s)] (.tup [tqV (bcQ q s), .int .i64 (bcF q s)]) := by
  obtain ⟨m1, m2, m3⟩ := mayP_zero hq.m
  have hel := hq.l
  refine Pu.ofBor (clo_ans _ _) ?_
  unfold bcQ
  refine Fc.bodyT mixed Tryz.func32 w32 rfl Tryz.ntmps32 Tryz.results32 (Nat.le_of_ble_eq_true rfl) ?_
  (refine Go1.out ?_; repeat' ((with_reducible first | refine Go1.mk ?_ | ((first | apply Br.dec | apply Br.beq | apply Br.bne | apply Br.mk) <;> intro h)) <;> try simp -implicitDefEqProofs (maxSteps := 9000000) (disch := first | omega | (simp only [lens]; omega)) only [go_sem]))
  refine Fc.pure (May6_spec s (by omega)) (by simp [go_sem, cloL, clo, cloL_ints, cloL_intss]) (by intro g; simp only [go_sem, ren, renL]) ?_
  by_cases hm : mayP s = 0
  case neg =>
    have hE : bcF q s = mayP s := by rw [bcF, if_pos hm]
    (refine Go1.out ?_; repeat' ((with_reducible first | refine Go1.mk ?_ | ((first | apply Br.dec | apply Br.beq | apply Br.bne | apply Br.mk) <;> intro h)) <;> try simp -implicitDefEqProofs (maxSteps := 9000000) (disch := first | omega | (simp only [lens]; omega)) only [go_sem]))
    exact bor_no hE hm
  obtain ⟨s1, s2, s3⟩ := mayP_zero hm
  rw [hm]
  by_cases hle : q.shape.length ≤ s.length
  case neg =>
    have hno : okB q.shape s = false := by
      rw [Bool.eq_false_iff]
      exact fun hh => hle ((okB_iff _ _).1 hh).1
    have hE : bcF q s = 13 := by simp [bcF, hm, hno]
    (refine Go1.out ?_; repeat' ((with_reducible first | refine Go1.mk ?_ | ((first | apply Br.dec | apply Br.beq | apply Br.bne | apply Br.mk) <;> intro h)) <;> try simp -implicitDefEqProofs (maxSteps := 9000000) (disch := first | omega | (simp only [lens]; omega)) only [go_sem]))
    exact bor_no hE (by decide)
  obtain ⟨k0, hk0⟩ : ∃ k0 : Nat, s.length - q.shape.length = k0 := ⟨_, rfl⟩
  have e1 : (s.length : Int) - (q.shape.length : Int) = (k0 : Nat) := by omega
  (refine Go1.out ?_; repeat' ((with_reducible first | refine Go1.mk ?_ | ((first | apply Br.dec | apply Br.beq | apply Br.bne | apply Br.mk) <;> intro h)) <;> try simp -implicitDefEqProofs (maxSteps := 9000000) (disch := first | omega | (simp only [lens]; omega)) only [go_sem, e1]))
  refine TT_loop_inv (fun n ts H => ∃ (k : Nat), (k ≤ q.shape.length) ∧ ((∀ j, j < k → q.shape.getD j 0 = 1 ∨ q.shape.getD j 0 = s.getD (k0 + j) 0)) ∧ (n = q.shape.length - k) ∧ (H = [some ⟨34, 2, [.sl q.shape.length (ints q.shape), .sl q.el.length (refsC q.el)]⟩, some ⟨34, 2, [.nil, .nil]⟩]) ∧ ts.length = 94 ∧ nth ts 1 = .sl s.length (ints s) ∧ nth ts 2 = .ptr 0 0 ∧ nth ts 4 = .ptr 1 0 ∧ nth ts 7 = .int .i64 (k0 : Nat) ∧ nth ts 8 = .int .i64 (k : Nat)) ?_ (n := q.shape.length) ?_
  · skip
    rintro n ts H ⟨k, hk, hI, hn, hH, hL, hs1, hs2, hs4, hs7, hs8⟩
    refine TT_env [(1, .sl s.length (ints s)), (2, .ptr 0 0), (4, .ptr 1 0), (7, .int .i64 (k0 : Nat)), (8, .int .i64 (k : Nat))] hL (by simp only [List.forall_mem_cons, hs1, hs2, hs4, hs7, hs8, true_and]; exact fun _ h => nomatch h) ?_
    clear hL hs1 hs2 hs4 hs7 hs8 ts
    refine TT_of mixed ?_
    subst hH
    by_cases hkl : k < q.shape.length
    · have e2 : (k0 : Int) + (k : Int) = ((k0 + k : Nat) : Int) := by omega
      by_cases hc : q.shape.getD k 0 = 1 ∨ q.shape.getD k 0 = s.getD (k0 + k) 0
      · have hI' : ∀ j, j < k + 1 → q.shape.getD j 0 = 1 ∨ q.shape.getD j 0 = s.getD (k0 + j) 0 := allS hI hc
        by_cases hc1 : q.shape.getD k 0 = 1
        · skip
          (refine Go1.out ?_; repeat' ((with_reducible first | refine Go1.mk ?_ | ((first | apply Br.dec | apply Br.beq | apply Br.bne | apply Br.mk) <;> intro h)) <;> try simp -implicitDefEqProofs (maxSteps := 9000000) (disch := first | omega | (simp only [lens]; omega)) only [go_sem, e2]))
          exact ⟨q.shape.length - (k + 1), by omega, k + 1, by omega, hI', rfl, (by (repeat' apply And.intro) <;> (first | rfl | omega | (congr 1; omega) | assumption | (congr 1; assumption)))⟩
        · have hc2 : q.shape.getD k 0 = s.getD (k0 + k) 0 := by rcases hc with h | h; exact absurd h hc1; exact h
          (refine Go1.out ?_; repeat' ((with_reducible first | refine Go1.mk ?_ | ((first | apply Br.dec | apply Br.beq | apply Br.bne | apply Br.mk) <;> intro h)) <;> try simp -implicitDefEqProofs (maxSteps := 9000000) (disch := first | omega | (simp only [lens]; omega)) only [go_sem, e2]))
          exact ⟨q.shape.length - (k + 1), by omega, k + 1, by omega, hI', rfl, (by (repeat' apply And.intro) <;> (first | rfl | omega | (congr 1; omega) | assumption | (congr 1; assumption)))⟩
      · have hno : okB q.shape s = false := by
          rw [Bool.eq_false_iff]
          refine fun hh => hc ?_
          have := ((okB_iff _ _).1 hh).2 k hkl
          rwa [hk0] at this
        have hE : bcF q s = 13 := by simp [bcF, hm, hno]
        have hc1 : q.shape.getD k 0 ≠ 1 := fun h => hc (.inl h)
        have hc2 : q.shape.getD k 0 ≠ s.getD (k0 + k) 0 := fun h => hc (.inr h)
        (refine Go1.out ?_; repeat' ((with_reducible first | refine Go1.mk ?_ | ((first | apply Br.dec | apply Br.beq | apply Br.bne | apply Br.mk) <;> intro h)) <;> try simp -implicitDefEqProofs (maxSteps := 9000000) (disch := first | omega | (simp only [lens]; omega)) only [go_sem, e2]))
        exact bor_no hE (by decide)
    · have hks : k = q.shape.length := by omega
      subst hks
      have hok : okB q.shape s = true := (okB_iff _ _).2 ⟨hle, fun j hj => by rw [hk0]; exact hI j hj⟩
      have hE : bcF q s = 0 := by simp [bcF, hm, hok]
      rw [errQ_ok hE, hE]
      have hpos := prodL_pos s2
      obtain ⟨N, hN⟩ : ∃ N : Nat, (N : Int) = prodL s := ⟨(prodL s).toNat, by omega⟩
      have hNN : (prodL s).toNat = N := by omega
      rw [hNN]
      have hct := count09_spec s (by omega) s2
      rw [show prodP s = (N : Int) by rw [prodP, if_neg (by omega), hN]] at hct
      have hok' := okB_iff q.shape s |>.1 hok
      (refine Go1.out ?_; repeat' ((with_reducible first | refine Go1.mk ?_ | ((first | apply Br.dec | apply Br.beq | apply Br.bne | apply Br.mk) <;> intro h)) <;> try simp -implicitDefEqProofs (maxSteps := 9000000) (disch := first | omega | (simp only [lens]; omega)) only [go_sem]))
      refine TT_loop_inv (fun n ts H => ∃ (i : Nat) (w : V), (i ≤ N) ∧ (n = N - i) ∧ (rowOf H 0 = some ⟨34, 2, [.sl q.shape.length (ints q.shape), .sl q.el.length (refsC q.el)]⟩) ∧ (rowOf H 1 = some ⟨34, 2, [.nil, .nil]⟩) ∧ (rowOf H 2 = some ⟨3, 1, ints s⟩) ∧ (rowOf H 3 = some ⟨34, 2, [.ref 2 0 s.length, w]⟩) ∧ (Bv.Own 72 3 H w i (refsC (elsQ q s (brL q.shape) i))) ∧ ts.length = 94 ∧ nth ts 1 = .sl s.length (ints s) ∧ nth ts 2 = .ptr 0 0 ∧ nth ts 4 = .ptr 1 0 ∧ nth ts 7 = .int .i64 (k0 : Nat) ∧ nth ts 9 = .ptr 3 0 ∧ nth ts 10 = .int .i64 (i : Nat)) ?_ (n := N) ?_
      · skip
        rintro n ts H ⟨i, w, hi, hn, h0, h1, h2, h3, hw, hL, hs1, hs2, hs4, hs7, hs9, hs10⟩
        refine TT_env [(1, .sl s.length (ints s)), (2, .ptr 0 0), (4, .ptr 1 0), (7, .int .i64 (k0 : Nat)), (9, .ptr 3 0), (10, .int .i64 (i : Nat))] hL (by simp only [List.forall_mem_cons, hs1, hs2, hs4, hs7, hs9, hs10, true_and]; exact fun _ h => nomatch h) ?_
        clear hL hs1 hs2 hs4 hs7 hs9 hs10 ts
        refine TT_of mixed ?_
        (refine Go1.out ?_; repeat' ((with_reducible first | refine Go1.mk ?_ | ((first | apply Br.dec | apply Br.beq | apply Br.bne | apply Br.mk) <;> intro h)) <;> try simp -implicitDefEqProofs (maxSteps := 9000000) (disch := first | omega | (simp only [lens]; omega)) only [go_sem]))
        refine Fc.pure hct (by simp [cloL, clo, cloL_ints]) (fun g => rfl) ?_
        by_cases hcase : i < N
        · have hix := index09_row s (i : Nat) hs s2 (by omega) (by omega) (by omega)
          (refine Go1.out ?_; repeat' ((with_reducible first | refine Go1.mk ?_ | ((first | apply Br.dec | apply Br.beq | apply Br.bne | apply Br.mk) <;> intro h)) <;> try simp -implicitDefEqProofs (maxSteps := 9000000) (disch := first | omega | (simp only [lens]; omega)) only [go_sem]))
          refine Fc.rowc hix ⟨.self (by simp [clo, cloL_ints]), .self rfl, trivial⟩ (fun g => renL_ints g _) (plainL_ints _) ?_
          obtain ⟨r, hr0⟩ : ∃ r, H.length = r := ⟨_, rfl⟩
          have hr3 : 3 < r := by rw [← hr0]; exact rowOf_lt h3
          have b0 := rowOf_keep h0 [some ⟨3, 1, ints (idxL s (i : Nat))⟩]
          have b1 := rowOf_keep h1 [some ⟨3, 1, ints (idxL s (i : Nat))⟩]
          have b2 := rowOf_keep h2 [some ⟨3, 1, ints (idxL s (i : Nat))⟩]
          have b3 := rowOf_keep h3 [some ⟨3, 1, ints (idxL s (i : Nat))⟩]
          have bw := hw.keep [some ⟨3, 1, ints (idxL s (i : Nat))⟩]
          have br : rowOf (H ++ [some (⟨3, 1, ints (idxL s (i : Nat))⟩ : Row)]) r = some ⟨3, 1, ints (idxL s (i : Nat))⟩ := by rw [← hr0]; exact rowOf_snoc _ _
          have hlx : (idxL s (i : Nat)).length = s.length := idxL_len _ _
          have hxi := idxL_in s2 (i : Nat)
          rw [hr0]
          generalize hH5 : H ++ [some (⟨3, 1, ints (idxL s (i : Nat))⟩ : Row)] = H5 at *
          generalize hxe : idxL s (i : Nat) = x at *
          have hbr := brL_eq hok m2 hlx hxi
          rw [show x.length - q.shape.length = k0 by omega] at hbr
          have hxb : ∀ j, j < s.length → 0 ≤ x.getD j 0 ∧ x.getD j 0 ≤ 1024 := fun j hj => by
            have h3 := hxi j hj
            have h4 := getD_le_prodL s2 hj
            omega
          subst hn
          clear hH5 hr0
          by_cases hrk : q.shape.length = 0
          · have hbn : brL q.shape x = [] := List.eq_nil_of_length_eq_zero (by rw [hbr, doneL_len, List.length_drop]; omega)
            have hat : Pu C 46 [tqV q, .sl 0 []] (refV (atQ q (brL q.shape x))) := by
              rw [hbn]
              exact at09_spec q hq.ok hq.m hel [] hrk.symm fun j hj => by simp at hj
            (refine Go1.out ?_; repeat' ((with_reducible first | refine Go1.mk ?_ | ((first | apply Br.dec | apply Br.beq | apply Br.bne | apply Br.mk) <;> intro h)) <;> try simp -implicitDefEqProofs (maxSteps := 9000000) (disch := first | omega | (simp only [lens]; omega)) only [go_sem]))
            refine ⟨rfl, by decide, by omega, isSome_row br, by omega, fun _ => ?_, fun e => absurd (by omega) e⟩
            (refine Go1.out ?_; repeat' ((with_reducible first | refine Go1.mk ?_ | ((first | apply Br.dec | apply Br.beq | apply Br.bne | apply Br.mk) <;> intro h)) <;> try simp -implicitDefEqProofs (maxSteps := 9000000) (disch := first | omega | (simp only [lens]; omega)) only [go_sem]))
            refine TT_loop ?_
            refine TT_of mixed ?_
            have g0 := b0
            have g1 := b1
            have g2 := b2
            have g3 := b3
            have hw' := bw
            have hlw := hw'.lenw (C.ty 32)
            (refine Go1.out ?_; repeat' ((with_reducible first | refine Go1.mk ?_ | ((first | apply Br.dec | apply Br.beq | apply Br.bne | apply Br.mk) <;> intro h)) <;> try simp -implicitDefEqProofs (maxSteps := 9000000) (disch := first | omega | (simp only [lens]; omega)) only [go_sem, g0, g3]))
            refine Pc.pure hat (by simp [cloL, clo, cloL_ints, cloL_refs]) (fun g => ren_clo g _ (clo_refV _)) ?_
            (refine Go1.out ?_; repeat' ((with_reducible first | refine Go1.mk ?_ | ((first | apply Br.dec | apply Br.beq | apply Br.bne | apply Br.mk) <;> intro h)) <;> try simp -implicitDefEqProofs (maxSteps := 9000000) (disch := first | omega | (simp only [lens]; omega)) only [go_sem, g0, g3, hlw]))
            refine push_ref hw' rfl rfl (by omega) fun w' H6 hw6 hF hkw => ?_
            obtain ⟨kw1, kw2, kw3⟩ := hkw
            have f0 := fr_keep hw' hF g0 (by decide)
            have f1 := fr_keep hw' hF g1 (by decide)
            have f2 := fr_keep hw' hF g2 (by decide)
            have f3 := fr_keep hw' hF g3 (by decide)
            (refine Go1.out ?_; repeat' ((with_reducible first | refine Go1.mk ?_ | ((first | apply Br.dec | apply Br.beq | apply Br.bne | apply Br.mk) <;> intro h)) <;> try simp -implicitDefEqProofs (maxSteps := 9000000) (disch := first | omega | (simp only [lens]; omega)) only [go_sem, f3, kw1, kw2, kw3]))
            rw [show elsQ q s (brL q.shape) i ++ [atQ q (brL q.shape x)] = elsQ q s (brL q.shape) (i + 1) by rw [elsQ_succ, hxe]] at hw6
            exact ⟨N - (i + 1), by omega, i + 1, w', by omega, rfl, by rw [rowOf_set_ne _ (by decide)]; exact f0, by rw [rowOf_set_ne _ (by decide)]; exact f1, by rw [rowOf_set_ne _ (by decide)]; exact f2, rowOf_set_eq f3, own_set hw6 f3 (by decide), (by (repeat' apply And.intro) <;> (first | rfl | omega | (congr 1; omega) | assumption | (congr 1; assumption)))⟩
          · skip
            (refine Go1.out ?_; repeat' ((with_reducible first | refine Go1.mk ?_ | ((first | apply Br.dec | apply Br.beq | apply Br.bne | apply Br.mk) <;> intro h)) <;> try simp -implicitDefEqProofs (maxSteps := 9000000) (disch := first | omega | (simp only [lens]; omega)) only [go_sem]))
            refine ⟨rfl, by decide, by omega, isSome_row br, by omega, fun e => absurd e (by omega), fun _ => ?_⟩
            rw [show 0 + (k0 : Int).toNat * (C.ty 3).size = k0 by rw [t3size]; omega, show s.length - (k0 : Int).toNat = q.shape.length by omega]
            (refine Go1.out ?_; repeat' ((with_reducible first | refine Go1.mk ?_ | ((first | apply Br.dec | apply Br.beq | apply Br.bne | apply Br.mk) <;> intro h)) <;> try simp -implicitDefEqProofs (maxSteps := 9000000) (disch := first | omega | (simp only [lens]; omega)) only [go_sem]))
            refine TT_loop_inv (fun n ts H => ∃ (k : Nat), (k ≤ q.shape.length) ∧ (n = q.shape.length - k) ∧ (rowOf H 0 = some ⟨34, 2, [.sl q.shape.length (ints q.shape), .sl q.el.length (refsC q.el)]⟩) ∧ (rowOf H 1 = some ⟨34, 2, [.nil, .nil]⟩) ∧ (rowOf H 2 = some ⟨3, 1, ints s⟩) ∧ (rowOf H 3 = some ⟨34, 2, [.ref 2 0 s.length, w]⟩) ∧ (Bv.Own 72 3 H w i (refsC (elsQ q s (brL q.shape) i))) ∧ (rowOf H r = some ⟨3, 1, ints (bcP q.shape x k0 k)⟩) ∧ ts.length = 94 ∧ nth ts 1 = .sl s.length (ints s) ∧ nth ts 2 = .ptr 0 0 ∧ nth ts 4 = .ptr 1 0 ∧ nth ts 7 = .int .i64 (k0 : Nat) ∧ nth ts 9 = .ptr 3 0 ∧ nth ts 10 = .int .i64 (i : Nat) ∧ nth ts 11 = .ref r k0 q.shape.length ∧ nth ts 12 = .int .i64 (k : Nat)) ?_ (n := q.shape.length) ?_
            · skip
              rintro n ts H ⟨k, hk, hn, h0, h1, h2, h3, hw, hr, hL, hs1, hs2, hs4, hs7, hs9, hs10, hs11, hs12⟩
              refine TT_env [(1, .sl s.length (ints s)), (2, .ptr 0 0), (4, .ptr 1 0), (7, .int .i64 (k0 : Nat)), (9, .ptr 3 0), (10, .int .i64 (i : Nat)), (11, .ref r k0 q.shape.length), (12, .int .i64 (k : Nat))] hL (by simp only [List.forall_mem_cons, hs1, hs2, hs4, hs7, hs9, hs10, hs11, hs12, true_and]; exact fun _ h => nomatch h) ?_
              clear hL hs1 hs2 hs4 hs7 hs9 hs10 hs11 hs12 ts
              by_cases hkl : k < q.shape.length
              · refine TT_of mixed ?_
                have hbl := bcP_len q.shape x k0 k
                by_cases hd : q.shape.getD k 0 = 1
                · have hset := bcP_one (sh := q.shape) (x := x) (k0 := k0) (k := k) (by omega) hd
                  (refine Go1.out ?_; repeat' ((with_reducible first | refine Go1.mk ?_ | ((first | apply Br.dec | apply Br.beq | apply Br.bne | apply Br.mk) <;> intro h)) <;> try simp -implicitDefEqProofs (maxSteps := 9000000) (disch := first | omega | (simp only [lens]; omega)) only [go_sem, h0, hr, upd_ints, hset]))
                  exact ⟨q.shape.length - (k + 1), by omega, k + 1, by omega, rfl, by rw [rowOf_set_ne _ (by omega)]; exact h0, by rw [rowOf_set_ne _ (by omega)]; exact h1, by rw [rowOf_set_ne _ (by omega)]; exact h2, by rw [rowOf_set_ne _ (by omega)]; exact h3, own_set hw hr (by decide), rowOf_set_eq hr, (by (repeat' apply And.intro) <;> (first | rfl | omega | (congr 1; omega) | assumption | (congr 1; assumption)))⟩
                · have hno := bcP_no (sh := q.shape) (x := x) (k0 := k0) (k := k) (by omega) hd
                  (refine Go1.out ?_; repeat' ((with_reducible first | refine Go1.mk ?_ | ((first | apply Br.dec | apply Br.beq | apply Br.bne | apply Br.mk) <;> intro h)) <;> try simp -implicitDefEqProofs (maxSteps := 9000000) (disch := first | omega | (simp only [lens]; omega)) only [go_sem, h0]))
                  exact ⟨q.shape.length - (k + 1), by omega, k + 1, by omega, rfl, h1, h2, h3, hw, by rw [← hno]; exact hr, (by (repeat' apply And.intro) <;> (first | rfl | omega | (congr 1; omega) | assumption | (congr 1; assumption)))⟩
              · have hks : k = q.shape.length := by omega
                subst hks
                refine TT_seal hr (cloL_ints _) ?_
                rw [szL_env]
                have n0 : ¬ 0 = r := by omega
                have n1 : ¬ 1 = r := by omega
                have n3 : ¬ 3 = r := by omega
                have hdr : (ints (bcP q.shape x k0 q.shape.length)).drop k0 = ints (brL q.shape x) := by rw [ints_drop, bcP_drop (by omega), hbr]
                simp only [List.map_cons, List.map_nil, sz, szL_clo _ _ _ (cloL_ints _), n0, n1, n3, if_true, if_false, hdr]
                refine TT_of mixed ?_
                have g0 : rowOf (H.set r none) 0 = _ := (rowOf_set_ne _ (by omega)).trans h0
                have g1 : rowOf (H.set r none) 1 = _ := (rowOf_set_ne _ (by omega)).trans h1
                have g2 : rowOf (H.set r none) 2 = _ := (rowOf_set_ne _ (by omega)).trans h2
                have g3 : rowOf (H.set r none) 3 = _ := (rowOf_set_ne _ (by omega)).trans h3
                have hw' := own_set (z := none) hw hr (by decide)
                have hdl : (brL q.shape x).length = q.shape.length := by rw [hbr, doneL_len, List.length_drop]; omega
                have hat := at09_spec q hq.ok hq.m hel (brL q.shape x) hdl fun j hj => by
                  have h5 := hxb (k0 + j) (by omega)
                  have h6 : (x.drop k0).getD j 0 = x.getD (k0 + j) 0 := by simp [List.getD]
                  have h7 : (brL q.shape x).getD j 0 = if q.shape.getD j 0 = 1 then 0 else (x.drop k0).getD j 0 := by
                    rw [hbr]
                    rw [hdl] at hj
                    have hjj : j < (x.drop k0).length := by rw [List.length_drop]; omega
                    simp only [doneL, List.getD, List.getElem?_map, List.getElem?_range hjj, Option.map_some, Option.getD_some, hj, if_true]
                  rw [h7, h6]
                  split <;> omega
                rw [hdl] at hat
                generalize H.set r none = H at *
                have hlw := hw'.lenw (C.ty 32)
                (refine Go1.out ?_; repeat' ((with_reducible first | refine Go1.mk ?_ | ((first | apply Br.dec | apply Br.beq | apply Br.bne | apply Br.mk) <;> intro h)) <;> try simp -implicitDefEqProofs (maxSteps := 9000000) (disch := first | omega | (simp only [lens]; omega)) only [go_sem, g0, g3]))
                refine Pc.pure hat (by simp [cloL, clo, cloL_ints, cloL_refs]) (fun g => ren_clo g _ (clo_refV _)) ?_
                (refine Go1.out ?_; repeat' ((with_reducible first | refine Go1.mk ?_ | ((first | apply Br.dec | apply Br.beq | apply Br.bne | apply Br.mk) <;> intro h)) <;> try simp -implicitDefEqProofs (maxSteps := 9000000) (disch := first | omega | (simp only [lens]; omega)) only [go_sem, g0, g3, hlw]))
                refine push_ref hw' rfl rfl (by omega) fun w' H6 hw6 hF hkw => ?_
                obtain ⟨kw1, kw2, kw3⟩ := hkw
                have f0 := fr_keep hw' hF g0 (by decide)
                have f1 := fr_keep hw' hF g1 (by decide)
                have f2 := fr_keep hw' hF g2 (by decide)
                have f3 := fr_keep hw' hF g3 (by decide)
                (refine Go1.out ?_; repeat' ((with_reducible first | refine Go1.mk ?_ | ((first | apply Br.dec | apply Br.beq | apply Br.bne | apply Br.mk) <;> intro h)) <;> try simp -implicitDefEqProofs (maxSteps := 9000000) (disch := first | omega | (simp only [lens]; omega)) only [go_sem, f3, kw1, kw2, kw3]))
                rw [show elsQ q s (brL q.shape) i ++ [atQ q (brL q.shape x)] = elsQ q s (brL q.shape) (i + 1) by rw [elsQ_succ, hxe]] at hw6
                exact ⟨N - (i + 1), by omega, i + 1, w', by omega, rfl, by rw [rowOf_set_ne _ (by decide)]; exact f0, by rw [rowOf_set_ne _ (by decide)]; exact f1, by rw [rowOf_set_ne _ (by decide)]; exact f2, rowOf_set_eq f3, own_set hw6 f3 (by decide), (by (repeat' apply And.intro) <;> (first | rfl | omega | (congr 1; omega) | assumption | (congr 1; assumption)))⟩
            · exact ⟨0, by omega, rfl, b0, b1, b2, b3, bw, by rw [bcP_zero]; exact br, rfl, rfl, rfl, rfl, rfl, rfl, rfl, rfl, rfl⟩
        · have hsw : kn w = true ∧ cellsOf w = [w] ∧ scal w = true := by rcases hw with ⟨rfl, _⟩ | ⟨r, rfl, _⟩ <;> exact ⟨rfl, rfl, rfl⟩
          obtain ⟨a1, a2, a3⟩ := hsw
          have hst : ∀ z : Row, rowOf (H.set 1 (some z)) 1 = some z := fun z => rowOf_set_eq h1
          (refine Go1.out ?_; repeat' ((with_reducible first | refine Go1.mk ?_ | ((first | apply Br.dec | apply Br.beq | apply Br.bne | apply Br.mk) <;> intro h)) <;> try simp -implicitDefEqProofs (maxSteps := 9000000) (disch := first | omega | (simp only [lens]; omega)) only [go_sem, h3, h1, hst, a1, a2, a3]))
          have hiN : i = N := by omega
          subst hiN
          have hsl := elsQ_len q s (brL q.shape) i
          have eu := (show Bv.Own 3 1 (H.set 1 (some ⟨34, 2, [.ref 2 0 s.length, w]⟩)) (.ref 2 0 s.length) s.length (ints s) from .inr ⟨2, rfl, by rw [rowOf_set_ne _ (by decide)]; exact h2, by rw [ints_length]; omega⟩).bor' (cloL_ints _)
          have ew := (own_set (z := some ⟨34, 2, [.ref 2 0 s.length, w]⟩) hw h1 (by decide)).bor' (cloL_refs _)
          refine Bor.tupL ⟨Bor.aggL ⟨eu, ?_, trivial⟩, .self rfl, trivial⟩
          show Bor _ w (.sl (elsQ q s (brL q.shape) i).length (refsC (elsQ q s (brL q.shape) i)))
          rw [hsl]; exact ew
      · exact ⟨0, .nil, by omega, rfl, rfl, rfl, rfl, rfl, Bv.Own.nil _ _ _, rfl, rfl, rfl, rfl, rfl, rfl, rfl⟩
  · exact ⟨0, by omega, fun j hj => by omega, rfl, rfl, rfl, rfl, rfl, rfl, rfl, rfl⟩
end Go.Proofs.YtjdbdmhjakfldaaGreat
end
section
set_option linter.unusedSimpArgs false
set_option linter.unusedVariables false
set_option maxRecDepth 100000
set_option pp.maxSteps 1500
set_option maxHeartbeats 4000000
namespace Go.Proofs.YtjdbdmhjakfldaaGreat
open Go.Bv
theorem brcE_zero {t : Tn} {s : List Int} (h : brcE t s = 0) : mayT t = 0 ∧ mayP s = 0 ∧ okB t.shape s = true := by
  unfold brcE at h
  split at h
  · contradiction
  · split at h
    · contradiction
    · split at h
      · cases h
      · rename_i h1 h2 h3
        exact ⟨by omega, by omega, by simpa using h3⟩
theorem bcF_zero {q : Tq} {s : List Int} (h : bcF q s = 0) : mayP s = 0 := by
  unfold bcF at h
  split at h
  · contradiction
  · omega
theorem broadcasts_plain (t : Tn) (s : List Int) : isB (brcT t s) (brcE t s) t (bcQ (ofT t) s) (bcF (ofT t) s) = true := by
  refine isB_ok (fun h => by rw [brcE, if_pos h]) (fun h => ?_) (fun h he => ?_)
  · have e1 : ofT t = tnOf t := if_neg (by omega)
    rw [e1, brcE, if_neg (by omega)]
    rfl
  · have e1 : ofT t = tnOf t := if_neg (by omega)
    rw [e1]
    obtain ⟨h1, h2, h3⟩ := brcE_zero he
    have h4 := ((okB_iff _ _).1 h3).1
    refine mv_isT h s (brL t.shape) fun i => ?_
    rw [brL, doneL_len, List.length_drop, idxL_len]; omega
theorem brcE_small (t : Tn) (s : List Int) : -1000000 ≤ brcE t s ∧ brcE t s ≤ 1000000 := by
  have h1 := mayT_cases t
  have h2 := mayP_cases s
  unfold brcE
  split <;> (try split) <;> (try split) <;> omega
theorem brcT_ok {t : Tn} (ht : TnOK t) {s : List Int} (hs : s.length ≤ 1000000000) : TnOK (brcT t s) := errT_TnOK fun h => by
  obtain ⟨h1, h2, h3⟩ := brcE_zero h
  exact mvT_ok ht h1 hs h2 _
theorem bcQ_ok {q : Tq} (hq : FitQ q) {s : List Int} (hs : s.length ≤ 1000000000) : TqOK (bcQ q s) := errQ_TqOK fun h => by
  obtain ⟨m1, m2, m3⟩ := mayP_zero (bcF_zero h)
  exact elsQ_ok hq.ok hs (by omega)
theorem MoveBroadcasts_law (t : Tn) (ht : TnOK t) (s : List Int) (hs : s.length ≤ 1000000000) : Pu C 8 [tnV t, .sl s.length (ints s)] (.bool true) := by
  have hE : -1000000 ≤ brcE t s ∧ brcE t s ≤ 1000000 := brcE_small t s
  have hT : TnOK (brcT t s) := brcT_ok ht hs
  have hQ : TqOK (bcQ (ofT t) s) := bcQ_ok (ofT_fit ht) hs
  have hi := is09_spec (brcT t s) hT (brcE t s) hE t ht (bcQ (ofT t) s) hQ (bcF (ofT t) s)
  rw [broadcasts_plain] at hi
  have hw : Val C 15 [.sl s.length (ints s)] (.sl s.length (ints s)) := Val.ofRet (own09_spec s hs) (cloL_ints _) (plainL_ints _)
  have h1 := broadcast_val t ht s hs
  have h2 := broadcast09_spec (ofT t) (ofT_fit ht) s hs
  generalize brcT t s = T at *
  generalize brcE t s = e at *
  generalize bcQ (ofT t) s = Q at *
  generalize bcF (ofT t) s = f at *
  refine Fc.keep (Fc.bodyT mixed Tryz.func8 w8 rfl Tryz.ntmps8 Tryz.results8 (Nat.le_of_ble_eq_true rfl) ?_)
  (refine Go1.out ?_; repeat' ((with_reducible first | refine Go1.mk ?_ | ((first | apply Br.dec | apply Br.beq | apply Br.bne | apply Br.mk) <;> intro h)) <;> try simp -implicitDefEqProofs (maxSteps := 9000000) (disch := first | omega | (simp only [lens]; omega)) only [go_sem]))
  refine (own07_spec t ht).call ⟨.self (clo_tnV _), trivial⟩ (clo_tnV _) ?_
  (refine Go1.out ?_; repeat' ((with_reducible first | refine Go1.mk ?_ | ((first | apply Br.dec | apply Br.beq | apply Br.bne | apply Br.mk) <;> intro h)) <;> try simp -implicitDefEqProofs (maxSteps := 9000000) (disch := first | omega | (simp only [lens]; omega)) only [go_sem]))
  refine hw.call ⟨.self (by simp [clo, cloL_ints]), trivial⟩ (by simp [clo, cloL_ints]) ?_
  (refine Go1.out ?_; repeat' ((with_reducible first | refine Go1.mk ?_ | ((first | apply Br.dec | apply Br.beq | apply Br.bne | apply Br.mk) <;> intro h)) <;> try simp -implicitDefEqProofs (maxSteps := 9000000) (disch := first | omega | (simp only [lens]; omega)) only [go_sem]))
  refine h1.call ⟨.self (clo_tnV _), .self (by simp [clo, cloL_ints]), trivial⟩ (by simp [clo, cloL, clo_tnV]) ?_
  (refine Go1.out ?_; repeat' ((with_reducible first | refine Go1.mk ?_ | ((first | apply Br.dec | apply Br.beq | apply Br.bne | apply Br.mk) <;> intro h)) <;> try simp -implicitDefEqProofs (maxSteps := 9000000) (disch := first | omega | (simp only [lens]; omega)) only [go_sem]))
  refine (of09_val t ht).call ⟨.self (clo_tnV _), trivial⟩ (clo_tqV _) ?_
  (refine Go1.out ?_; repeat' ((with_reducible first | refine Go1.mk ?_ | ((first | apply Br.dec | apply Br.beq | apply Br.bne | apply Br.mk) <;> intro h)) <;> try simp -implicitDefEqProofs (maxSteps := 9000000) (disch := first | omega | (simp only [lens]; omega)) only [go_sem]))
  refine Fc.pure h2 (by simp [cloL, clo, cloL_ints, cloL_refs]) (fun g => ren_clo _ _ (clo_ans _ _)) ?_
  (refine Go1.out ?_; repeat' ((with_reducible first | refine Go1.mk ?_ | ((first | apply Br.dec | apply Br.beq | apply Br.bne | apply Br.mk) <;> intro h)) <;> try simp -implicitDefEqProofs (maxSteps := 9000000) (disch := first | omega | (simp only [lens]; omega)) only [go_sem]))
  refine Fc.pure hi (by simp [cloL, clo, cloL_ints, cloL_refs, cloL_raws]) (fun g => rfl) ?_
  (refine Go1.out ?_; repeat' ((with_reducible first | refine Go1.mk ?_ | ((first | apply Br.dec | apply Br.beq | apply Br.bne | apply Br.mk) <;> intro h)) <;> try simp -implicitDefEqProofs (maxSteps := 9000000) (disch := first | omega | (simp only [lens]; omega)) only [go_sem]))
  refine Fc.pure known_spec rfl (fun g => rfl) ?_
  (refine Go1.out ?_; repeat' ((with_reducible first | refine Go1.mk ?_ | ((first | apply Br.dec | apply Br.beq | apply Br.bne | apply Br.mk) <;> intro h)) <;> try simp -implicitDefEqProofs (maxSteps := 9000000) (disch := first | omega | (simp only [lens]; omega)) only [go_sem]))
  (refine keepP (by intro g; simp only [go_sem, ren, renL]) ?_)
  rfl
end Go.Proofs.YtjdbdmhjakfldaaGreat
end
section
set_option maxRecDepth 100000
namespace Go.Proofs.YtjdbdmhjakfldaaGreat
open Go.Bv
theorem a_own : ownKnob Tryz.prog.godebug = none := by kernel_rfl
theorem a_laid : laidOutB Tryz.prog = true := by kernel_rfl
theorem rd_ints {t : Nat} (hu : Tryz.prog.underlying t = some (.slice 3)) : U.Reads Tryz.prog t fun vs => ∃ xs : List Int, vs = [.sl xs.length (ints xs)] ∧ xs.length ≤ 1048576 ∧ ∀ x ∈ xs, (Lit.int .i64 x).wf = true := U.Reads.ints hu Tryz.underlying3 (by kernel_rfl)
theorem rd_u32 : U.Reads Tryz.prog 59 fun vs => ∃ n : Nat, vs = [V.int .u32 (n : Nat)] ∧ n < 4294967296 := U.Reads.mono (U.Reads.int Tryz.underlying59) fun vs ⟨n, h, hw⟩ => by
  have hx : 0 ≤ n ∧ n ≤ 4294967295 := by simpa [Lit.wf, IntKind.min, IntKind.max, IntKind.signed, IntKind.bits] using hw
  exact ⟨n.toNat, by rw [h]; congr 2; omega, by omega⟩
theorem rd_nat : U.Reads Tryz.prog 56 fun vs => ∃ l : List Nat, vs = [NA l] ∧ l.length ≤ 1048576 ∧ Lim l :=
  U.Reads.mono (U.Reads.slice1 (g := fun n : Nat => .int .u32 (n : Nat)) Tryz.underlying56 (by kernel_rfl) rd_u32) fun vs ⟨xs, h1, h2, h3⟩ => ⟨xs, h1, h2, h3⟩
theorem rd_rat : U.Reads Tryz.prog 58 fun vs => ∃ x : Raw, vs = [.bool x.neg, NA x.num, NA x.den] ∧ RawOK x := by
  refine U.Reads.mono (U.Reads.struct (Qs := fun i vs => if i = 0 then ∃ b, vs = [V.bool b] else ∃ l : List Nat, vs = [NA l] ∧ l.length ≤ 1048576 ∧ Lim l) a_laid (of_decide_eq_true (by kernel_rfl)) Tryz.underlying58 ?_) ?_
  · intro i f hf
    match i, hf with
    | 0, hf => cases hf; exact U.Reads.mono (U.Reads.bool Tryz.underlying4) fun vs h => by rw [if_pos rfl]; exact h
    | 1, hf => cases hf; exact U.Reads.mono rd_nat fun vs h => by rw [if_neg (by decide)]; exact h
    | 2, hf => cases hf; exact U.Reads.mono rd_nat fun vs h => by rw [if_neg (by decide)]; exact h
    | i + 3, hf => cases hf
  · rintro u ⟨l, hl, hq, rfl⟩
    match l, hl with
    | [a, b, c], _ =>
      have h0 := hq 0 (by decide)
      have h1 := hq 1 (by decide)
      have h2 := hq 2 (by decide)
      obtain ⟨n, rfl⟩ := h0
      obtain ⟨xs, rfl, hx, hx2⟩ := h1
      obtain ⟨ys, rfl, hy, hy2⟩ := h2
      exact ⟨⟨n, xs, ys⟩, rfl, by show xs.length ≤ _; omega, by show ys.length ≤ _; omega, hx2, hy2⟩
theorem raws_of : ∀ {l : List (List V)}, (∀ x ∈ l, ∃ r : Raw, x = [.bool r.neg, NA r.num, NA r.den] ∧ RawOK r) → ∃ xs : List Raw, xs.length = l.length ∧ l.flatten = rawsC xs ∧ ∀ x ∈ xs, RawOK x
  | [], _ => ⟨[], rfl, rfl, by simp⟩
  | x :: l, h => by
    obtain ⟨a, rfl, ha⟩ := h x (by simp)
    obtain ⟨xs, h1, h2, h3⟩ := raws_of (l := l) fun y hy => h y (by simp [hy])
    exact ⟨a :: xs, by simp [h1], by rw [List.flatten_cons, h2]; rfl, fun b hb => by
      rcases List.mem_cons.1 hb with rfl | hb
      · exact ha
      · exact h3 b hb⟩
theorem rd_rats : U.Reads Tryz.prog 24 fun vs => ∃ xs : List Raw, vs = [.sl xs.length (rawsC xs)] ∧ xs.length ≤ 1048576 ∧ ∀ x ∈ xs, RawOK x :=
  U.Reads.mono (U.Reads.slice (s := 3) Tryz.underlying24 (by kernel_rfl) (by decide) rd_rat) fun vs ⟨l, h1, h2, h3⟩ => by
    obtain ⟨xs, q1, q2, q3⟩ := raws_of h1
    exact ⟨xs, by rw [h3, q1, q2], by omega, q3⟩
theorem rd_tensor : U.Reads Tryz.prog 26 fun vs => ∃ t : Tn, vs = [.sl t.shape.length (ints t.shape), .sl t.el.length (rawsC t.el)] ∧ TnOK t := by
  refine U.Reads.mono (U.Reads.struct (Qs := fun i vs => if i = 0 then ∃ xs : List Int, vs = [.sl xs.length (ints xs)] ∧ xs.length ≤ 1048576 ∧ ∀ x ∈ xs, (Lit.int .i64 x).wf = true else ∃ xs : List Raw, vs = [.sl xs.length (rawsC xs)] ∧ xs.length ≤ 1048576 ∧ ∀ x ∈ xs, RawOK x) a_laid (of_decide_eq_true (by kernel_rfl)) Tryz.underlying26 ?_) ?_
  · intro i f hf
    match i, hf with
    | 0, hf => cases hf; exact U.Reads.mono (rd_ints Tryz.underlying23) fun vs h => by rw [if_pos rfl]; exact h
    | 1, hf => cases hf; exact U.Reads.mono rd_rats fun vs h => by rw [if_neg (by decide)]; exact h
    | i + 2, hf => cases hf
  · rintro u ⟨l, hl, hq, rfl⟩
    match l, hl with
    | [a, b], _ =>
      have h0 := hq 0 (by decide)
      have h1 := hq 1 (by decide)
      obtain ⟨xs, rfl, hx, _⟩ := h0
      obtain ⟨ys, rfl, hy, hy2⟩ := h1
      exact ⟨⟨xs, ys⟩, rfl, by show xs.length ≤ _; omega, by show ys.length ≤ _; omega, hy2⟩
theorem arg_tensor : U.ArgV Tryz.prog 26 fun u => ∃ t : Tn, u = tnV t ∧ TnOK t :=
  U.ArgV.mono (U.ArgV.struct rd_tensor Tryz.underlying26) fun u ⟨vs, h1, t, h2, h3⟩ => ⟨t, by rw [h1, h2]; rfl, h3⟩
theorem arg_ints {t : Nat} (hu : Tryz.prog.underlying t = some (.slice 3)) : U.ArgV Tryz.prog t fun u => ∃ xs : List Int, u = .sl xs.length (ints xs) ∧ xs.length ≤ 1048576 ∧ ∀ x ∈ xs, (Lit.int .i64 x).wf = true :=
  U.ArgV.mono (U.ArgV.one (rd_ints hu) (by rw [hu])) fun u ⟨xs, h, h1, h2⟩ => ⟨xs, by simpa using h, h1, h2⟩
theorem args_ts {t : Nat} (hu : Tryz.prog.underlying t = some (.slice 3)) : U.ArgsV Tryz.prog [26, t] fun us => ∃ (x : Tn) (s : List Int), us = [tnV x, .sl s.length (ints s)] ∧ TnOK x ∧ s.length ≤ 1048576 ∧ ∀ x ∈ s, (Lit.int .i64 x).wf = true := by
  refine U.ArgsV.mono (U.ArgsV.cons arg_tensor (U.ArgsV.cons (arg_ints hu) U.ArgsV.nil)) ?_
  rintro us ⟨_, _, rfl, ⟨x, rfl, h1⟩, _, _, rfl, ⟨s, rfl, h2, h3⟩, rfl⟩
  exact ⟨x, s, rfl, h1, h2, h3⟩
end Go.Proofs.YtjdbdmhjakfldaaGreat
end
