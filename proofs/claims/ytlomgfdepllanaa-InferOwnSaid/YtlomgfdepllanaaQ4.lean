/-
  Parts Op3, Srt, Srt2, Seq1, Seq2, Seq3, Op4, Inf1, Inf2, Inf3, InfP, Inf4, Rev, Op5, Inf5, Law1, Own12, Row1o, one behind the other: a program logic of our own, contracts of functions.
-/
import Derived.Test.YtlomgfdepllanaaQ3
import Derived.Test.YtlomgfdepllanaaRows

set_option linter.unusedVariables false
set_option linter.unusedSimpArgs false
set_option maxRecDepth 100000
set_option maxHeartbeats 8000000
section
namespace Go.Proofs.Ytlomgfdepllanaa
open Go.Bv
theorem Qcl (o : Int) (ho : 1 ≤ o ∧ o ≤ 20) : (∀ v, 1 ≤ v → v ≤ 3 → (inP o v = true ↔ (Xo o).first ≤ v ∧ v ≤ (Xo o).last) ∧ (Qag v o = true ↔ v ≤ (Xo o).none)) ∧ (Xo o).least = least o ∧ (Xo o).most = most o := by
 have hcs : o = 1 ∨ o = 2 ∨ o = 3 ∨ o = 4 ∨ o = 5 ∨ o = 6 ∨ o = 7 ∨ o = 8 ∨ o = 9 ∨ o = 10 ∨ o = 11 ∨ o = 12 ∨ o = 13 ∨ o = 14 ∨ o = 15 ∨ o = 16 ∨ o = 17 ∨ o = 18 ∨ o = 19 ∨ o = 20 := by omega
 rcases hcs with rfl | rfl | rfl | rfl | rfl | rfl | rfl | rfl | rfl | rfl | rfl | rfl | rfl | rfl | rfl | rfl | rfl | rfl | rfl | rfl
 all_goals
  refine ⟨fun v h1 h2 => ?_, rfl, rfl⟩
  rcases (by omega : v = 1 ∨ v = 2 ∨ v = 3) with rfl | rfl | rfl
  all_goals exact ⟨by decide, by decide⟩
theorem Qlv (tur : ∀ l : List Int, l.length ≤ 17592186044416 → Pu C 73 [.sl l.length (ints l)] (.bool (Yr l && decide (l.length ≤ 4)))) (v : Int) (n : Nd) (ha : n.args.length ≤ 17592186044416) (hl : n.attrs.length ≤ 17592186044416) : Pu C 22 [.int .i64 v, .agg (ndC n)] (.int .i64 (Yl v n)) := by
 have hs := Qbi n.op
 have hm := Qcb n.op
 refine Fc.keep (Fc.bodyT Qi Try.func22 w22 rfl Try.ntmps22 Try.results22 (zLe rfl) ?_)
 (apply Zo;repeat' ((with_reducible first|apply Zk|(first|apply Za|apply Zb|apply Zc|apply Zd)<;>intro h)<;>try simp -implicitDefEqProofs (maxSteps:=9^7) (disch:=first|omega|(simp only [Qc];omega)) only [go_sem]))
 refine Fc.pure (Ql7 n.op) rfl (fun g => Zv g _ (by simp only [ofV, clo, Qm, Qbs, Bool.and_self])) ?_
 rw [ofV]
 (apply Zo;repeat' ((with_reducible first|apply Zk|(first|apply Za|apply Zb|apply Zc|apply Zd)<;>intro h)<;>try simp -implicitDefEqProofs (maxSteps:=9^7) (disch:=first|omega|(simp only [Qc];omega)) only [go_sem, Yj, hs]))
 ·skip
  (refine Ql (by intro g; simp only [go_sem, ren, Qf]) ?_)
  rw [Yl, if_pos (by omega)]
 ·skip
  (refine Ql (by intro g; simp only [go_sem, ren, Qf]) ?_)
  rw [Yl, if_pos (by omega)]
 ·have ho : 1 ≤ n.op ∧ n.op ≤ 20 := by assumption
  obtain ⟨f1, f2, f3⟩ := Qcl n.op ho;obtain ⟨f4, f5⟩ := f1 v (by omega) (by omega)
  have hc : Yl v n = if inP n.op v = false then 9 else if (n.args.length : Int) < least n.op ∨ (n.args.length : Int) > most n.op then 10 else if n.attrs.length = 0 ∧ Qag v n.op = true then 0 else if Xz n.op n.attrs = true then 0 else 11 := by rw [Yl, if_neg (by omega)]
  refine Fc.pure (Qur (Xo n.op) v) (by simp only [Qm, clo, hm, Bool.and_self]) (fun g => rfl) ?_
  have hin : ¬ ((Xo n.op).first ≤ v ∧ v ≤ (Xo n.op).last) → inP n.op v = false := fun h => by
   cases hx : inP n.op v with
   | false => rfl
   | true => exact absurd (f4.1 hx) h
  by_cases hf : Qdk n.attrs = true
  ·skip
   (apply Zo;repeat' ((with_reducible first|apply Zk|(first|apply Za|apply Zb|apply Zc|apply Zd)<;>intro h)<;>try simp -implicitDefEqProofs (maxSteps:=9^7) (disch:=first|omega|(simp only [Qc];omega)) only [go_sem, Yj, hs]))
   ·skip
    (refine Ql (by intro g; simp only [go_sem, ren, Qf]) ?_)
    grind
   ·skip
    (refine Ql (by intro g; simp only [go_sem, ren, Qf]) ?_)
    grind
   ·skip
    (refine Ql (by intro g; simp only [go_sem, ren, Qf]) ?_)
    grind
   ·skip
    refine Fc.pure (Ze _ hl) (by simp [go_sem, Qm, clo, Qb, Qg]) (by intro g; simp only [go_sem, ren, Qf]) ?_
    rw [hf]
    (apply Zo;repeat' ((with_reducible first|apply Zk|(first|apply Za|apply Zb|apply Zc|apply Zd)<;>intro h)<;>try simp -implicitDefEqProofs (maxSteps:=9^7) (disch:=first|omega|(simp only [Qc];omega)) only [go_sem, Yj, hs]))
    (refine Ql (by intro g; simp only [go_sem, ren, Qf]) ?_)
    grind [Xz]
   ·skip
    refine Fc.pure (Ze _ hl) (by simp [go_sem, Qm, clo, Qb, Qg]) (by intro g; simp only [go_sem, ren, Qf]) ?_
    rw [hf]
    (apply Zo;repeat' ((with_reducible first|apply Zk|(first|apply Za|apply Zb|apply Zc|apply Zd)<;>intro h)<;>try simp -implicitDefEqProofs (maxSteps:=9^7) (disch:=first|omega|(simp only [Qc];omega)) only [go_sem, Yj, hs]))
    (refine Ql (by intro g; simp only [go_sem, ren, Qf]) ?_)
    grind [Xz]
   ·skip
    (refine Ql (by intro g; simp only [go_sem, ren, Qf]) ?_)
    rw [hc, if_pos (hin (by assumption))]
  ·have hff : Qdk n.attrs = false := by simpa using hf
   obtain ⟨g, ys, he, hy, hsp⟩ := Qqt tur n.op ho n.attrs hl fun i hi => Qe1 hff hi
   have hat : Xz n.op n.attrs = Jz n.op n.attrs := by simp [Xz, hff]
   (apply Zo;repeat' ((with_reducible first|apply Zk|(first|apply Za|apply Zb|apply Zc|apply Zd)<;>intro h)<;>try simp -implicitDefEqProofs (maxSteps:=9^7) (disch:=first|omega|(simp only [Qc];omega)) only [go_sem, Yj, hs]))
   ·skip
    (refine Ql (by intro g; simp only [go_sem, ren, Qf]) ?_)
    grind
   ·skip
    (refine Ql (by intro g; simp only [go_sem, ren, Qf]) ?_)
    grind
   ·skip
    (refine Ql (by intro g; simp only [go_sem, ren, Qf]) ?_)
    grind
   ·skip
    refine Fc.pure (Ze _ hl) (by simp [go_sem, Qm, clo, Qb, Qg]) (by intro g; simp only [go_sem, ren, Qf]) ?_
    rw [hff]
    (apply Zo;repeat' ((with_reducible first|apply Zk|(first|apply Za|apply Zb|apply Zc|apply Zd)<;>intro h)<;>try simp -implicitDefEqProofs (maxSteps:=9^7) (disch:=first|omega|(simp only [Qc];omega)) only [go_sem, Yj, hs, he]))
    refine Fc.pure hsp (by simp only [Qm, clo, hy, Qb, Bool.and_self]) (fun g => rfl) ?_
    (apply Zo;repeat' ((with_reducible first|apply Zk|(first|apply Za|apply Zb|apply Zc|apply Zd)<;>intro h)<;>try simp -implicitDefEqProofs (maxSteps:=9^7) (disch:=first|omega|(simp only [Qc];omega)) only [go_sem]))
    all_goals (refine Ql (by intro g; simp only [go_sem, ren, Qf]) ?_)
    all_goals grind
   ·skip
    refine Fc.pure (Ze _ hl) (by simp [go_sem, Qm, clo, Qb, Qg]) (by intro g; simp only [go_sem, ren, Qf]) ?_
    rw [hff]
    (apply Zo;repeat' ((with_reducible first|apply Zk|(first|apply Za|apply Zb|apply Zc|apply Zd)<;>intro h)<;>try simp -implicitDefEqProofs (maxSteps:=9^7) (disch:=first|omega|(simp only [Qc];omega)) only [go_sem, Yj, hs, he]))
    refine Fc.pure hsp (by simp only [Qm, clo, hy, Qb, Bool.and_self]) (fun g => rfl) ?_
    (apply Zo;repeat' ((with_reducible first|apply Zk|(first|apply Za|apply Zb|apply Zc|apply Zd)<;>intro h)<;>try simp -implicitDefEqProofs (maxSteps:=9^7) (disch:=first|omega|(simp only [Qc];omega)) only [go_sem]))
    all_goals (refine Ql (by intro g; simp only [go_sem, ren, Qf]) ?_)
    all_goals grind
   ·skip
    (refine Ql (by intro g; simp only [go_sem, ren, Qf]) ?_)
    rw [hc, if_pos (hin (by assumption))]
 ·skip
  (refine Ql (by intro g; simp only [go_sem, ren, Qf]) ?_)
  have : inP n.op v = false := by
   cases hx : inP n.op v with
   | false => rfl
   | true => exact absurd (Qk1 hx) (by assumption)
  rw [Yl, if_neg (by omega), if_pos this]
theorem Qkt (a : Int) : Pu C 107 [.int .i64 a] (.bool false) := by
 refine Fc.keep (Fc.bodyT Qi Try.func107 w107 rfl Try.ntmps107 Try.results107 (zLe rfl) ?_)
 (apply Zo;repeat' ((with_reducible first|apply Zk|(first|apply Za|apply Zb|apply Zc|apply Zd)<;>intro h)<;>try simp -implicitDefEqProofs (maxSteps:=9^7) (disch:=first|omega|(simp only [Qc];omega)) only [go_sem]))
 (refine Ql (by intro g; simp only [go_sem, ren, Qf]) ?_)
 simp
theorem Qox (a b : Int) : Pu C 97 [.int .i64 a, .int .i64 b] (.bool (decide (a < b))) := by
 refine Fc.keep (Fc.bodyT Qi Try.func97 w97 rfl Try.ntmps97 Try.results97 (zLe rfl) ?_)
 (apply Zo;repeat' ((with_reducible first|apply Zk|(first|apply Za|apply Zb|apply Zc|apply Zd)<;>intro h)<;>try simp -implicitDefEqProofs (maxSteps:=9^7) (disch:=first|omega|(simp only [Qc];omega)) only [go_sem]))
 refine Fc.pure (Qkt a) (by simp [go_sem, Qm, clo, Qb, Qg]) (by intro g; simp only [go_sem, ren, Qf]) ?_
 (apply Zo;repeat' ((with_reducible first|apply Zk|(first|apply Za|apply Zb|apply Zc|apply Zd)<;>intro h)<;>try simp -implicitDefEqProofs (maxSteps:=9^7) (disch:=first|omega|(simp only [Qc];omega)) only [go_sem]))
 (refine Ql (by intro g; simp only [go_sem, ren, Qf]) ?_)
 (simp only [V.tup.injEq, List.cons.injEq, V.int.injEq, V.bool.injEq, true_and, and_true]; (try rw [Bool.eq_iff_iff]); (try simp only [decide_eq_true_eq, decide_eq_false_iff_not, Decidable.not_not, true_and, and_true, Bool.not_eq_true, Bool.not_eq_eq_eq_not, Bool.not_true, Bool.and_eq_true, Bool.or_eq_true, beq_iff_eq, bne_iff_ne, ne_eq, Bool.false_eq_true, false_iff, true_iff, iff_false, iff_true]); (try omega))
def swp (l : List Int) (j : Nat) : List Int := (l.set j (l.getD (j - 1) 0)).set (j - 1) (l.getD j 0)
theorem Qpl (l : List Int) {j : Nat} (h0 : 0 < j) (h : j < l.length) : (swp l j).Perm l := by
 rw [List.perm_iff_count];intro a
 have h1 : j - 1 < l.length := by omega
 have e1 : l.getD j 0 = l[j] := by simp [List.getD, h]
 have e2 : l.getD (j - 1) 0 = l[j - 1] := by simp [List.getD, h1]
 have e3 : (l.set j l[j - 1])[j - 1]'(by simpa using h1) = l[j - 1] := by rw [List.getElem_set_ne (by omega)]
 rw [swp, e2, e1, List.count_set (by simpa using h1), List.count_set h, e3]
 have c1 : (if (l[j] == a) = true then 1 else 0) ≤ List.count a l := by
  split
  ·rename_i hh; exact List.one_le_count_iff.2 (by rw [← eq_of_beq hh]; exact List.getElem_mem _)
  ·omega
 have c2 : (if (l[j - 1] == a) = true then 1 else 0) ≤ List.count a l := by
  split
  ·rename_i hh; exact List.one_le_count_iff.2 (by rw [← eq_of_beq hh]; exact List.getElem_mem _)
  ·omega
 omega
theorem Qci (l : List Int) {j : Nat} (h0 : 0 < j) (h : j < l.length) (q : Nat) : (swp l j).getD q 0 = if q = j - 1 then l.getD j 0 else if q = j then l.getD (j - 1) 0 else l.getD q 0 := by
 unfold swp;split
 ·subst q; rw [Go.Bv.getD_set_eq _ (by simp; omega)]
 ·rename_i hq;rw [Go.Bv.getD_set_ne _ hq];split
  ·subst q; rw [Go.Bv.getD_set_eq _ h]
  ·rename_i hq2; rw [Go.Bv.getD_set_ne _ hq2]
structure Ins (xs zs : List Int) (i j : Nat) : Prop where
 perm : zs.Perm xs
 others : ∀ p q, p < q → q ≤ i → p ≠ j → q ≠ j → zs.getD p 0 ≤ zs.getD q 0
 above : ∀ q, j < q → q ≤ i → zs.getD j 0 ≤ zs.getD q 0
theorem Ins.len {xs zs : List Int} {i j : Nat} (h : Ins xs zs i j) : zs.length = xs.length := h.perm.length_eq
theorem Ins.step {xs zs : List Int} {i j : Nat} (h : Ins xs zs i j) (h0 : 0 < j) (hj : j ≤ i) (hi : i < zs.length) (hlt : zs.getD j 0 < zs.getD (j - 1) 0) : Ins xs (swp zs j) i (j - 1) := by
 refine ⟨(Qpl zs h0 (by omega)).trans h.perm, fun p q hpq hq hp1 hq1 => ?_, fun q hq hqi => ?_⟩
 ·rw [Qci _ h0 (by omega), Qci _ h0 (by omega), if_neg hp1, if_neg hq1]
  split
  ·subst p;rw [if_neg (by omega)]
   exact h.others (j - 1) q (by omega) hq (by omega) (by omega)
  ·split
   ·subst q;exact h.others p (j - 1) (by omega) (by omega) (by omega) (by omega)
   ·exact h.others p q hpq hq (by omega) (by omega)
 ·rw [Qci _ h0 (by omega), Qci _ h0 (by omega), if_pos rfl, if_neg (by omega)]
  split
  ·omega
  ·exact h.above q (by omega) hqi
theorem Ins.done {xs zs : List Int} {i j : Nat} (h : Ins xs zs i j) (hj : j ≤ i) (hx : j = 0 ∨ ¬ zs.getD j 0 < zs.getD (j - 1) 0) : ∀ p q, p < q → q ≤ i → zs.getD p 0 ≤ zs.getD q 0 := by
 intro p q hpq hq;by_cases hp : p = j
 ·subst hp; exact h.above q hpq hq
 ·by_cases hqj : q = j
  ·subst hqj;rcases hx with hx | hx
   ·omega
   ·by_cases hp1 : p = q - 1
    ·subst hp1; omega
    ·have := h.others p (q - 1) (by omega) (by omega) (by omega) (by omega)
     omega
  ·exact h.others p q hpq hq hp hqj
theorem Qib {H0 : Qa} {r : Nat} {row : Row} (hr : Qd H0 r = some row) : H0.set r (some row) = H0 := by
 have := Qr hr
 obtain ⟨h1, h2⟩ := List.getElem?_eq_some_iff.1 this;rw [← h2]; exact List.set_getElem_self ..
theorem Qhf (r : Nat) (H0 : Qa) (xs : List Int) (hr : Qd H0 r = some ⟨3, 1, ints xs⟩) (hn : xs.length ≤ 1000000) : Fc C 91 [.ref r 0 xs.length, .int .i64 0, .int .i64 xs.length] H0 (fun v H' => ∃ ys : List Int, v = .tup [] ∧ ys.Perm xs ∧ (∀ p q, p < q → q < ys.length → ys.getD p 0 ≤ ys.getD q 0) ∧ H' = H0.set r (some ⟨3, 1, ints ys⟩)) := by
 have hset : ∀ row, Qd (H0.set r (some row)) r = some row := fun row => Xc hr
 have hsame := Qib hr
 refine Fc.bodyT Qi Try.func91 w91 rfl Try.ntmps91 Try.results91 (zLe rfl) ?_
 (apply Zo;repeat' ((with_reducible first|apply Zk|(first|apply Za|apply Zb|apply Zc|apply Zd)<;>intro h)<;>try simp -implicitDefEqProofs (maxSteps:=9^7) (disch:=first|omega|(simp only [Qc];omega)) only [go_sem]))
 by_cases h0 : xs.length = 0
 ·obtain rfl : xs = [] := List.eq_nil_of_length_eq_zero h0;refine Qb2 ?_;refine Xm Qi ?_
  (apply Zo;repeat' ((with_reducible first|apply Zk|(first|apply Za|apply Zb|apply Zc|apply Zd)<;>intro h)<;>try simp -implicitDefEqProofs (maxSteps:=9^7) (disch:=first|omega|(simp only [Qc];omega)) only [go_sem]))
  exact ⟨[], List.Perm.refl _, (fun p q h1 h2 => by simp at h2), hsame.symm⟩
 refine Qn (fun n ts H => ∃ (i : Nat) (zs : List Int), (1 ≤ i) ∧ (i ≤ xs.length) ∧ (zs.Perm xs) ∧ (∀ p q, p < q → q < i → zs.getD p 0 ≤ zs.getD q 0) ∧ (n = xs.length - i) ∧ (H = H0.set r (some ⟨3, 1, ints zs⟩)) ∧ ts.length = 49 ∧ nth ts 0 = .ref r 0 xs.length ∧ nth ts 1 = .int .i64 0 ∧ nth ts 2 = .int .i64 xs.length ∧ nth ts 6 = .int .i64 i) ?_ (n := xs.length - 1) ?_
 ·skip
  rintro n ts H ⟨i, zs, hi1, hi, hp, hs, hn, hH, hL, hs0, hs1, hs2, hs6⟩;refine Xt [(0, .ref r 0 xs.length), (1, .int .i64 0), (2, .int .i64 xs.length), (6, .int .i64 i)] hL (by simp only [zFm, hs0, hs1, hs2, hs6, true_and]; exact zNm) ?_
  clear hL hs0 hs1 hs2 hs6 ts
  refine Xm Qi ?_;subst hn hH
  have hlz := hp.length_eq
  (apply Zo;repeat' ((with_reducible first|apply Zk|(first|apply Za|apply Zb|apply Zc|apply Zd)<;>intro h)<;>try simp -implicitDefEqProofs (maxSteps:=9^7) (disch:=first|omega|(simp only [Qc];omega)) only [go_sem]))
  ·skip
   refine Qn (fun n ts H => ∃ (j : Nat) (ws : List Int), (j ≤ i) ∧ (Ins xs ws i j) ∧ (n = j) ∧ (H = H0.set r (some ⟨3, 1, ints ws⟩)) ∧ ts.length = 49 ∧ nth ts 0 = .ref r 0 xs.length ∧ nth ts 1 = .int .i64 0 ∧ nth ts 2 = .int .i64 xs.length ∧ nth ts 6 = .int .i64 i ∧ nth ts 7 = .int .i64 j) ?_ (n := i) ?_
   ·skip
    rintro n ts H ⟨j, ws, hj, hI, hn, hH, hL, hs0, hs1, hs2, hs6, hs7⟩;refine Xt [(0, .ref r 0 xs.length), (1, .int .i64 0), (2, .int .i64 xs.length), (6, .int .i64 i), (7, .int .i64 j)] hL (by simp only [zFm, hs0, hs1, hs2, hs6, hs7, true_and]; exact zNm) ?_
    clear hL hs0 hs1 hs2 hs6 hs7 ts
    refine Xm Qi ?_;subst hn hH
    have hlw := hI.len
    (apply Zo;repeat' ((with_reducible first|apply Zk|(first|apply Za|apply Zb|apply Zc|apply Zd)<;>intro h)<;>try simp -implicitDefEqProofs (maxSteps:=9^7) (disch:=first|omega|(simp only [Qc];omega)) only [go_sem, hset]))
    ·skip
     refine Pc.pure (Qox _ _) (by simp [go_sem, Qm, clo, Qb, Qg]) (by intro g; simp only [go_sem, ren, Qf]) ?_
     (apply Zo;repeat' ((with_reducible first|apply Zk|(first|apply Za|apply Zb|apply Zc|apply Zd)<;>intro h)<;>try simp -implicitDefEqProofs (maxSteps:=9^7) (disch:=first|omega|(simp only [Qc];omega)) only [go_sem, hset]))
     ·have : ((n : Int) - 1) = ((n - 1 : Nat) : Int) := by omega
      exact ⟨n - 1, by omega, n - 1, swp ws n, by omega, hI.step (by omega) hj (by omega) (by assumption), rfl, rfl, by rw [this]⟩
     ·have hd := hI.done hj (.inr (by assumption))
      exact ⟨xs.length - (i + 1), by omega, i + 1, ws, by omega, by omega, hI.perm, fun p q h1 h2 => hd p q h1 (by omega), rfl, rfl, by simp⟩
    ·have hd := hI.done hj (.inl (by omega))
     exact ⟨xs.length - (i + 1), by omega, i + 1, ws, by omega, by omega, hI.perm, fun p q h1 h2 => hd p q h1 (by omega), rfl, rfl, by simp⟩
   ·exact ⟨i, zs, by omega, ⟨hp, fun p q h1 h2 h3 h4 => hs p q h1 (by omega), fun q h1 h2 => by omega⟩, rfl, rfl, rfl, rfl, rfl, rfl, rfl, rfl⟩
  ·exact ⟨zs, hp, fun p q h1 h2 => hs p q h1 (by omega), rfl⟩
 ·exact ⟨1, xs, by omega, by omega, List.Perm.refl _, fun p q h1 h2 => by omega, rfl, hsame.symm, rfl, rfl, rfl, rfl, rfl⟩
@[go_sem] theorem Qy8 {d : Ty} {k0 : IntKind} {n : Int} {K : V → Prop} : Qa0 d (.int k0 n) K = (match d.ik with | some k => K (.int k (k.wrap n)) | none => False) := by unfold Qa0; cases d.ik <;> rfl
theorem Qkz {ty : TypeId → Ty} {y : Ty} {s : ByteArray} {k : IntKind} {i : Nat} {K : V → Prop} (h : y.arr = none) (h2 : y.str = true) (hi : i < s.size) {u : V} (hu : .int .u8 ((s[i]?.getD 0).toNat : Int) = u) (hK : K u) : Yp ty y (.str s) (.int k (i : Int)) K := by
 subst hu;simp only [Yp, h];exact ⟨h2, by omega, by simpa using hi, by simpa using hK⟩
@[go_sem] theorem Qz0 {n : Int} (h : 0 ≤ n ∧ n ≤ 255) : IntKind.wrap .u8 n = n := by
 have e : IntKind.wrap .u8 n = n % 256 := rfl
 omega
@[go_sem] theorem Qzd {n : Int} (h : 0 ≤ n ∧ n ≤ 18446744073709551615) : IntKind.wrap .u64 n = n := by
 have e : IntKind.wrap .u64 n = n % 18446744073709551616 := rfl
 omega
theorem Qp9 (lim : Int) (r : Nat) (H0 : Qa) (xs : List Int) (hr : Qd H0 r = some ⟨3, 1, ints xs⟩) (hn : xs.length ≤ 12) : Fc C 89 [.ref r 0 xs.length, .int .i64 0, .int .i64 xs.length, .int .i64 lim] H0 (fun v H' => ∃ ys : List Int, v = .tup [] ∧ ys.Perm xs ∧ (∀ p q, p < q → q < ys.length → ys.getD p 0 ≤ ys.getD q 0) ∧ H' = H0.set r (some ⟨3, 1, ints ys⟩)) := by
 refine Fc.bodyT Qi Try.func89 w89 rfl Try.ntmps89 Try.results89 (zLe rfl) ?_
 (apply Zo;repeat' ((with_reducible first|apply Zk|(first|apply Za|apply Zb|apply Zc|apply Zd)<;>intro h)<;>try simp -implicitDefEqProofs (maxSteps:=9^7) (disch:=first|omega|(simp only [Qc];omega)) only [go_sem]))
 refine Qb2 ?_;refine Xm Qi ?_
 (apply Zo;repeat' ((with_reducible first|apply Zk|(first|apply Za|apply Zb|apply Zc|apply Zd)<;>intro h)<;>try simp -implicitDefEqProofs (maxSteps:=9^7) (disch:=first|omega|(simp only [Qc];omega)) only [go_sem]))
 refine Fc.mono (Qhf r H0 xs hr (by omega)) ?_
 rintro v H' ⟨ys, rfl, hp, hs, rfl⟩
 (apply Zo;repeat' ((with_reducible first|apply Zk|(first|apply Za|apply Zb|apply Zc|apply Zd)<;>intro h)<;>try simp -implicitDefEqProofs (maxSteps:=9^7) (disch:=first|omega|(simp only [Qc];omega)) only [go_sem]))
 exact ⟨ys, hp, hs, rfl⟩
theorem Qlr (a : Nat) (h : a ≤ 12) : Pu C 101 [.int .u64 a] (.int .i64 (Nat.log2 (2 * a))) := by
 refine Fc.keep (Fc.bodyT Qi Try.func101 w101 rfl Try.ntmps101 Try.results101 (zLe rfl) ?_)
 (apply Zo;repeat' ((with_reducible first|apply Zk|(first|apply Za|apply Zb|apply Zc|apply Zd)<;>intro h)<;>try simp -implicitDefEqProofs (maxSteps:=9^7) (disch:=first|omega|(simp only [Qc];omega)) only [go_sem]))
 have hx : a = 0 ∨ a = 1 ∨ a = 2 ∨ a = 3 ∨ a = 4 ∨ a = 5 ∨ a = 6 ∨ a = 7 ∨ a = 8 ∨ a = 9 ∨ a = 10 ∨ a = 11 ∨ a = 12 := by omega
 rcases hx with rfl | rfl | rfl | rfl | rfl | rfl | rfl | rfl | rfl | rfl | rfl | rfl | rfl
 all_goals refine ⟨by decide, ?_⟩
 all_goals (apply Zo;repeat' ((with_reducible first|apply Zk|(first|apply Za|apply Zb|apply Zc|apply Zd)<;>intro h)<;>try simp -implicitDefEqProofs (maxSteps:=9^7) (disch:=first|omega|(simp only [Qc];omega)) only [go_sem]))
 all_goals (refine Ql (by intro g; simp only [go_sem, ren, Qf]) ?_)
 all_goals rfl
theorem Qju (a : Nat) (h : a ≤ 12) : Pu C 90 [.int .u64 a] (.int .i64 (Nat.log2 (2 * a))) := by
 refine Fc.keep (Fc.bodyT Qi Try.func90 w90 rfl Try.ntmps90 Try.results90 (zLe rfl) ?_)
 (apply Zo;repeat' ((with_reducible first|apply Zk|(first|apply Za|apply Zb|apply Zc|apply Zd)<;>intro h)<;>try simp -implicitDefEqProofs (maxSteps:=9^7) (disch:=first|omega|(simp only [Qc];omega)) only [go_sem]))
 refine Fc.pure (Qlr a h) (by simp [go_sem, Qm, clo, Qb, Qg]) (by intro g; simp only [go_sem, ren, Qf]) ?_
 (apply Zo;repeat' ((with_reducible first|apply Zk|(first|apply Za|apply Zb|apply Zc|apply Zd)<;>intro h)<;>try simp -implicitDefEqProofs (maxSteps:=9^7) (disch:=first|omega|(simp only [Qc];omega)) only [go_sem]))
 (refine Ql (by intro g; simp only [go_sem, ren, Qf]) ?_)
 rfl
theorem Qou (r : Nat) (H0 : Qa) (xs : List Int) (hr : Qd H0 r = some ⟨3, 1, ints xs⟩) (hn : xs.length ≤ 12) : Fc C 86 [.ref r 0 xs.length] H0 (fun v H' => ∃ ys : List Int, v = .tup [] ∧ ys.Perm xs ∧ (∀ p q, p < q → q < ys.length → ys.getD p 0 ≤ ys.getD q 0) ∧ H' = H0.set r (some ⟨3, 1, ints ys⟩)) := by
 refine Fc.bodyT Qi Try.func86 w86 rfl Try.ntmps86 Try.results86 (zLe rfl) ?_
 (apply Zo;repeat' ((with_reducible first|apply Zk|(first|apply Za|apply Zb|apply Zc|apply Zd)<;>intro h)<;>try simp -implicitDefEqProofs (maxSteps:=9^7) (disch:=first|omega|(simp only [Qc];omega)) only [go_sem]))
 refine Fc.pure (Qju _ hn) (by simp [go_sem, Qm, clo, Qb, Qg]) (by intro g; simp only [go_sem, ren, Qf]) ?_
 (apply Zo;repeat' ((with_reducible first|apply Zk|(first|apply Za|apply Zb|apply Zc|apply Zd)<;>intro h)<;>try simp -implicitDefEqProofs (maxSteps:=9^7) (disch:=first|omega|(simp only [Qc];omega)) only [go_sem]))
 refine Fc.mono (Qp9 _ r H0 xs hr hn) ?_;rintro v H' ⟨ys, rfl, hp, hs, rfl⟩
 (apply Zo;repeat' ((with_reducible first|apply Zk|(first|apply Za|apply Zb|apply Zc|apply Zd)<;>intro h)<;>try simp -implicitDefEqProofs (maxSteps:=9^7) (disch:=first|omega|(simp only [Qc];omega)) only [go_sem]))
 exact ⟨ys, hp, hs, rfl⟩
theorem Qz5 : Try.f87.body.all yOK = true := by kernel_rfl
def Qgt (xs : List Int) : V := .fn (.func 87) [] [.rp [.sl xs.length (ints xs)] 0]
theorem Qjn (xs : List Int) : Pu C 84 [.sl xs.length (ints xs)] (Qgt xs) := by
 refine Fc.keep (Fc.sealR ?_);refine Fc.bodyT Qi Try.func84 w84 rfl Try.ntmps84 Try.results84 (zLe rfl) ?_
 (apply Zo;repeat' ((with_reducible first|apply Zk|(first|apply Za|apply Zb|apply Zc|apply Zd)<;>intro h)<;>try simp -implicitDefEqProofs (maxSteps:=9^7) (disch:=first|omega|(simp only [Qc];omega)) only [go_sem]))
 refine ⟨0, _, 1, [.sl xs.length (ints xs)], rfl, by simp [Qm, clo, Qb], [], by simp, by simp, ?_⟩
 simp [sz, szL, ren, Qf, Qgt, Qan, Qk]
theorem Qlo (xs : List Int) (hx : xs.length ≤ 1048576) : Gen C 87 [.rp [.sl xs.length (ints xs)] 0] (xs.map fun a => [.int .i64 a]) := by
 refine Gen.of3 Qi Try.func87 w87 Qz5 rfl Try.ntmps87 Try.results87 (zLe rfl) (by simp [Qm, clo]) ?_
 intro G l J hW
 (apply Zo;repeat' ((with_reducible first|apply Zk|(first|apply Za|apply Zb|apply Zc|apply Zd)<;>intro h)<;>try simp -implicitDefEqProofs (maxSteps:=9^7) (disch:=first|omega|(simp only [Qc];omega)) only [go_sem]))
 refine Qc7 (fun n ts H => ∃ (i : Nat), (i ≤ xs.length) ∧ (n = xs.length - i) ∧ (H.length = i) ∧ ts.length = 16 ∧ nth ts 0 = .fn (.yield l) [] [] ∧ nth ts 5 = .sl xs.length (ints xs) ∧ nth ts 6 = .int .i64 xs.length ∧ nth ts 7 = .int .i64 i) ?_ (n := xs.length) ?_
 ·skip
  rintro n ts H ⟨i, hi, hn, hH, hL, hs0, hs5, hs6, hs7⟩;refine Qms [(0, .fn (.yield l) [] []), (5, .sl xs.length (ints xs)), (6, .int .i64 xs.length), (7, .int .i64 i)] hL (by simp only [zFm, hs0, hs5, hs6, hs7, true_and]; exact zNm) ?_
  clear hL hs0 hs5 hs6 hs7 ts
  refine hW _ _ _ _ ?_
  (apply Zo;repeat' ((with_reducible first|apply Zk|(first|apply Za|apply Zb|apply Zc|apply Zd)<;>intro h)<;>try simp -implicitDefEqProofs (maxSteps:=9^7) (disch:=first|omega|(simp only [Qc];omega)) only [go_sem]))
  ·refine ⟨?_, ⟨xs.length - (i + 1), by omega, i + 1, by omega, rfl, by omega, rfl⟩, .inr trivial, .inr ?_⟩
   ·have : i < xs.length := by omega
    simp [hH, List.getD, this]
   ·simp only [List.length_replicate, List.length_map]; omega
  ·refine ⟨.inl trivial, .inl ?_⟩;simp only [List.length_map]; omega
 ·exact ⟨0, by omega, by omega, rfl, rfl, rfl, rfl, rfl, rfl⟩
theorem Qfk (xs : List Int) (hx : xs.length ≤ 1048576) : Fc C 88 [.nil, Qgt xs] [] (fun v H => Ret 3 1 H v xs.length (ints xs)) := by
 have hv : Qgt xs = .fn (.func 87) [] [.rp [.sl xs.length (ints xs)] 0] := rfl
 refine Fc.keep (Fc.bodyT Qi Try.func88 w88 rfl Try.ntmps88 Try.results88 (zLe rfl) ?_)
 (apply Zo;repeat' ((with_reducible first|apply Zk|(first|apply Za|apply Zb|apply Zc|apply Zd)<;>intro h)<;>try simp -implicitDefEqProofs (maxSteps:=9^7) (disch:=first|omega|(simp only [Qc];omega)) only [go_sem, hv]))
 refine Qjq (g := 87) (lb := [.rp [.sl xs.length (ints xs)] 0]) (xs := xs.map fun a => [.int .i64 a]) (by simp -implicitDefEqProofs (maxSteps:=9^7) (disch := first | omega | (simp only [Qc]; omega)) only [go_sem]) (by simp [Qm, clo, Qb]) (Qlo xs hx) (by simp) (fun k H => ∃ v, Qd H 0 = some ⟨23, 1, [v]⟩ ∧ Go.Bv.Own 3 1 H v k (ints (xs.take k))) ⟨.nil, rfl, Go.Bv.Own.nil _ _ _⟩ ?_ ?_
 ·intro k us H hk hI l;obtain ⟨v, h0, hO⟩ := hI
  have hkl : k < xs.length := by simpa using (List.getElem?_eq_some_iff.1 hk).1
  obtain rfl : us = [.int .i64 (xs.getD k 0)] := by simp [hkl] at hk; simp [hk.symm, List.getD, hkl]
  (refine Xm Qi ?_; simp -implicitDefEqProofs (maxSteps:=9^7) (disch := first | omega | (simp only [Qc]; omega)) only [go_sem, Qg1])
  (refine Xm Qi ?_; simp -implicitDefEqProofs (maxSteps:=9^7) (disch := first | omega | (simp only [Qc]; omega)) only [go_sem, h0])
  refine Qvf hO rfl ⟨by decide, by decide⟩ (by omega) rfl (Qav _) fun v' H' hO' hF => ?_
  have h0' : Qd H' 0 = some ⟨23, 1, [v]⟩ := hF 0 _ (by
   rintro off n rfl;rcases hO with ⟨h, _⟩ | ⟨r, h, hr, _⟩
   ·cases h
   ·injection h with h _ _; subst h; rw [h0] at hr; simp at hr) h0
  have hc : cellsOf v' = [v'] ∧ Xx v' = true := by rcases hO' with ⟨rfl, _⟩ | ⟨r, rfl, _⟩ <;> exact ⟨rfl, rfl⟩
  (apply Zo;repeat' ((with_reducible first|apply Zk|(first|apply Za|apply Zb|apply Zc|apply Zd)<;>intro h)<;>try simp -implicitDefEqProofs (maxSteps:=9^7) (disch:=first|omega|(simp only [Qc];omega)) only [go_sem, h0', hc.1, hc.2, Qei, List.all_cons, List.all_nil]))
  have ht : ints (xs.take (k + 1)) = ints (xs.take k) ++ [V.int .i64 (xs.getD k 0)] := by rw [Qed xs 0 hkl]; simp [ints]
  refine ⟨v', Xc h0', ?_⟩;rw [ht];rcases hO' with h | ⟨r, h, hr, hl⟩
  ·exact .inl h
  ·refine .inr ⟨r, h, ?_, hl⟩;rw [Qo]
   ·exact hr
   ·rintro rfl; rw [h0'] at hr; simp at hr
 ·intro H hI;obtain ⟨v, h0, hO⟩ := hI
  (apply Zo;repeat' ((with_reducible first|apply Zk|(first|apply Za|apply Zb|apply Zc|apply Zd)<;>intro h)<;>try simp -implicitDefEqProofs (maxSteps:=9^7) (disch:=first|omega|(simp only [Qc];omega)) only [go_sem, h0]))
  simp only [List.length_map, List.take_length] at hO;exact hO.ret (fun g => Qk g _) (fun v H h => h)
theorem Qh0 (xs : List Int) (hx : xs.length ≤ 1048576) : Fc C 85 [Qgt xs] [] (fun v H => Ret 3 1 H v xs.length (ints xs)) := by
 refine Fc.keep (Fc.bodyT Qi Try.func85 w85 rfl Try.ntmps85 Try.results85 (zLe rfl) ?_)
 (apply Zo;repeat' ((with_reducible first|apply Zk|(first|apply Za|apply Zb|apply Zc|apply Zd)<;>intro h)<;>try simp -implicitDefEqProofs (maxSteps:=9^7) (disch:=first|omega|(simp only [Qc];omega)) only [go_sem]))
 refine Fc.own (Qfk xs hx) (by simp [Qm, clo, Qgt, Qb]) (fun g => Qk g _) fun v X hO => ?_
 (apply Zo;repeat' ((with_reducible first|apply Zk|(first|apply Za|apply Zb|apply Zc|apply Zd)<;>intro h)<;>try simp -implicitDefEqProofs (maxSteps:=9^7) (disch:=first|omega|(simp only [Qc];omega)) only [go_sem]))
 exact hO.ret (fun g => Qk g _) (fun v H h => h)
theorem Qi1 : Pu C 91 [.nil, .int .i64 0, .int .i64 0] (.tup []) := by
 refine Fc.keep (Fc.bodyT Qi Try.func91 w91 rfl Try.ntmps91 Try.results91 (zLe rfl) ?_)
 (apply Zo;repeat' ((with_reducible first|apply Zk|(first|apply Za|apply Zb|apply Zc|apply Zd)<;>intro h)<;>try simp -implicitDefEqProofs (maxSteps:=9^7) (disch:=first|omega|(simp only [Qc];omega)) only [go_sem]))
 refine Qb2 ?_;refine Xm Qi ?_
 (apply Zo;repeat' ((with_reducible first|apply Zk|(first|apply Za|apply Zb|apply Zc|apply Zd)<;>intro h)<;>try simp -implicitDefEqProofs (maxSteps:=9^7) (disch:=first|omega|(simp only [Qc];omega)) only [go_sem]))
 (refine Ql (by intro g; simp only [go_sem, ren, Qf]) ?_)
 rfl
theorem Qtz (lim : Int) : Pu C 89 [.nil, .int .i64 0, .int .i64 0, .int .i64 lim] (.tup []) := by
 refine Fc.keep (Fc.bodyT Qi Try.func89 w89 rfl Try.ntmps89 Try.results89 (zLe rfl) ?_)
 (apply Zo;repeat' ((with_reducible first|apply Zk|(first|apply Za|apply Zb|apply Zc|apply Zd)<;>intro h)<;>try simp -implicitDefEqProofs (maxSteps:=9^7) (disch:=first|omega|(simp only [Qc];omega)) only [go_sem]))
 refine Qb2 ?_;refine Xm Qi ?_
 (apply Zo;repeat' ((with_reducible first|apply Zk|(first|apply Za|apply Zb|apply Zc|apply Zd)<;>intro h)<;>try simp -implicitDefEqProofs (maxSteps:=9^7) (disch:=first|omega|(simp only [Qc];omega)) only [go_sem]))
 refine Fc.pure (Qi1) (by simp [go_sem, Qm, clo, Qb, Qg]) (by intro g; simp only [go_sem, ren, Qf]) ?_
 (apply Zo;repeat' ((with_reducible first|apply Zk|(first|apply Za|apply Zb|apply Zc|apply Zd)<;>intro h)<;>try simp -implicitDefEqProofs (maxSteps:=9^7) (disch:=first|omega|(simp only [Qc];omega)) only [go_sem]))
 (refine Ql (by intro g; simp only [go_sem, ren, Qf]) ?_)
 rfl
theorem Qsw : Pu C 86 [.nil] (.tup []) := by
 refine Fc.keep (Fc.bodyT Qi Try.func86 w86 rfl Try.ntmps86 Try.results86 (zLe rfl) ?_)
 (apply Zo;repeat' ((with_reducible first|apply Zk|(first|apply Za|apply Zb|apply Zc|apply Zd)<;>intro h)<;>try simp -implicitDefEqProofs (maxSteps:=9^7) (disch:=first|omega|(simp only [Qc];omega)) only [go_sem]))
 refine Fc.pure (Qju 0 (by omega)) (by simp [go_sem, Qm, clo, Qb, Qg]) (by intro g; simp only [go_sem, ren, Qf]) ?_
 (apply Zo;repeat' ((with_reducible first|apply Zk|(first|apply Za|apply Zb|apply Zc|apply Zd)<;>intro h)<;>try simp -implicitDefEqProofs (maxSteps:=9^7) (disch:=first|omega|(simp only [Qc];omega)) only [go_sem]))
 refine Fc.pure (Qtz _) (by simp [go_sem, Qm, clo, Qb, Qg]) (by intro g; simp only [go_sem, ren, Qf]) ?_
 (apply Zo;repeat' ((with_reducible first|apply Zk|(first|apply Za|apply Zb|apply Zc|apply Zd)<;>intro h)<;>try simp -implicitDefEqProofs (maxSteps:=9^7) (disch:=first|omega|(simp only [Qc];omega)) only [go_sem]))
 (refine Ql (by intro g; simp only [go_sem, ren, Qf]) ?_)
 rfl
theorem Qjr (xs : List Int) (hx : xs.length ≤ 12) : Fc C 83 [Qgt xs] [] (fun v H => ∃ ys : List Int, ys.Perm xs ∧ (∀ p q, p < q → q < ys.length → ys.getD p 0 ≤ ys.getD q 0) ∧ Ret 3 1 H v ys.length (ints ys)) := by
 refine Fc.keep (Fc.bodyT Qi Try.func83 w83 rfl Try.ntmps83 Try.results83 (zLe rfl) ?_)
 (apply Zo;repeat' ((with_reducible first|apply Zk|(first|apply Za|apply Zb|apply Zc|apply Zd)<;>intro h)<;>try simp -implicitDefEqProofs (maxSteps:=9^7) (disch:=first|omega|(simp only [Qc];omega)) only [go_sem]))
 refine Fc.own (Qh0 xs (by omega)) (by simp [Qm, clo, Qgt, Qb]) (fun g => Qk g _) fun v X hO => ?_
 rcases hO with ⟨rfl, h, h'⟩ | ⟨r, rfl, hr, hl⟩
 ·obtain rfl : xs = [] := List.eq_nil_of_length_eq_zero h
  (apply Zo;repeat' ((with_reducible first|apply Zk|(first|apply Za|apply Zb|apply Zc|apply Zd)<;>intro h)<;>try simp -implicitDefEqProofs (maxSteps:=9^7) (disch:=first|omega|(simp only [Qc];omega)) only [go_sem]))
  refine Fc.pure (Qsw) (by simp [go_sem, Qm, clo, Qb, Qg]) (by intro g; simp only [go_sem, ren, Qf]) ?_
  (apply Zo;repeat' ((with_reducible first|apply Zk|(first|apply Za|apply Zb|apply Zc|apply Zd)<;>intro h)<;>try simp -implicitDefEqProofs (maxSteps:=9^7) (disch:=first|omega|(simp only [Qc];omega)) only [go_sem]))
  exact (Go.Bv.Own.nil _ _ _).ret (fun g => rfl) (fun v H h => ⟨[], .refl _, fun p q h1 h2 => by simp at h2, h⟩)
 ·skip
  (apply Zo;repeat' ((with_reducible first|apply Zk|(first|apply Za|apply Zb|apply Zc|apply Zd)<;>intro h)<;>try simp -implicitDefEqProofs (maxSteps:=9^7) (disch:=first|omega|(simp only [Qc];omega)) only [go_sem]))
  refine Fc.mono (Qou r _ xs hr hx) ?_;rintro v H' ⟨ys, rfl, hp, hs, rfl⟩
  (apply Zo;repeat' ((with_reducible first|apply Zk|(first|apply Za|apply Zb|apply Zc|apply Zd)<;>intro h)<;>try simp -implicitDefEqProofs (maxSteps:=9^7) (disch:=first|omega|(simp only [Qc];omega)) only [go_sem]))
  have hO : Go.Bv.Own 3 1 (List.set ([] ++ X) r (some ⟨3, 1, ints ys⟩)) (.ref r 0 xs.length) ys.length (ints ys) := .inr ⟨r, by rw [hp.length_eq], Xc hr, by simp [Yc]⟩
  exact hO.ret (fun g => Qk g _) (fun v H h => ⟨ys, hp, hs, h⟩)
theorem Qie {xs : List Int} (h : Yr xs = true) : xs.Nodup := by
 rw [List.Nodup, List.pairwise_iff_getElem];intro i j hi hj hij he
 have := ((Qat xs).1 h j hj)
 simp only [Qen] at this
 have h2 := this.2.2
 refine h2 i hij ?_;simp only [List.getD, List.getElem?_eq_getElem hi, List.getElem?_eq_getElem hj, Option.getD_some, he]
theorem Qnf {xs : List Int} (h : Yr xs = true) : ∀ a ∈ xs, 0 ≤ a ∧ a < xs.length := by
 intro a ha;obtain ⟨i, hi, rfl⟩ := List.getElem_of_mem ha
 have := ((Qat xs).1 h i hi)
 simp only [Qen, List.getD, List.getElem?_eq_getElem hi, Option.getD_some] at this;exact ⟨this.1, this.2.1⟩
theorem Qbz {ys : List Int} {i : Nat} (h : i < ys.length) : ys.getD i 0 ∈ ys := by
 simp only [List.getD, List.getElem?_eq_getElem h, Option.getD_some]; exact List.getElem_mem _
theorem Qck {xs ys : List Int} (hp : ys.Perm xs) (hs : ∀ p q, p < q → q < ys.length → ys.getD p 0 ≤ ys.getD q 0) : Yr xs = true ↔ ∀ i, i < ys.length → ys.getD i 0 = i := by
 have hl := hp.length_eq
 constructor
 ·intro h
  have hn : ys.Nodup := hp.nodup_iff.2 (Qie h)
  have hm : ∀ i, i < ys.length → 0 ≤ ys.getD i 0 ∧ ys.getD i 0 < ys.length := fun i hi => by
   have := Qnf h _ (hp.mem_iff.1 (Qbz hi)); rwa [← hl] at this
  have hlt : ∀ i, i + 1 < ys.length → ys.getD i 0 < ys.getD (i + 1) 0 := fun i hi => by
   have h1 := hs i (i + 1) (by omega) hi
   have h2 : ys.getD i 0 ≠ ys.getD (i + 1) 0 := by
    rw [List.Nodup, List.pairwise_iff_getElem] at hn
    have := hn i (i + 1) (by omega) hi (by omega)
    simpa only [List.getD, List.getElem?_eq_getElem hi, List.getElem?_eq_getElem (show i < ys.length by omega), Option.getD_some] using this
   omega
  have lo : ∀ i, i < ys.length → (i : Int) ≤ ys.getD i 0 := by
   intro i
   induction i with
   | zero => intro hi; exact (hm 0 hi).1
   | succ i ih => intro hi; have := ih (by omega); have := hlt i hi; omega
  have up : ∀ d i, i < ys.length → ys.length - 1 - i = d → ys.getD i 0 ≤ i := by
   intro d
   induction d with
   | zero => intro i hi hd; have := (hm i hi).2; omega
   | succ d ih => intro i hi hd; have := ih (i + 1) (by omega) (by omega); have := hlt i (by omega); omega
  intro i hi
  have := lo i hi; have := up _ i hi rfl; omega
 ·intro h
  have hn : ys.Nodup := by
   rw [List.Nodup, List.pairwise_iff_getElem];intro i j hi hj hij he
   have h1 := h i hi; have h2 := h j hj
   simp only [List.getD, List.getElem?_eq_getElem hi, List.getElem?_eq_getElem hj, Option.getD_some] at h1 h2;omega
  have hn' := hp.nodup_iff.1 hn
  rw [List.Nodup, List.pairwise_iff_getElem] at hn';refine (Qat xs).2 fun i hi => ?_
  obtain ⟨j, hj, he⟩ := List.getElem_of_mem (hp.mem_iff.2 (Qbz hi))
  have h1 := h j hj
  simp only [List.getD, List.getElem?_eq_getElem hj, Option.getD_some] at h1;simp only [Qen];refine ⟨by omega, by omega, fun k hk => ?_⟩
  have := hn' k i (by omega) hi hk
  simpa only [List.getD, List.getElem?_eq_getElem hi, List.getElem?_eq_getElem (show k < xs.length by omega), Option.getD_some] using this
theorem Qov (xs : List Int) (hx : xs.length ≤ 12) : Pu C 81 [.sl xs.length (ints xs), .int .i64 xs.length] (.int .i64 (if Yr xs then 0 else 11)) := by
 refine Fc.keep (Fc.bodyT Qi Try.func81 w81 rfl Try.ntmps81 Try.results81 (zLe rfl) ?_)
 (apply Zo;repeat' ((with_reducible first|apply Zk|(first|apply Za|apply Zb|apply Zc|apply Zd)<;>intro h)<;>try simp -implicitDefEqProofs (maxSteps:=9^7) (disch:=first|omega|(simp only [Qc];omega)) only [go_sem]))
 refine Fc.pure (Qjn xs) (by simp [Qm, clo, Qb]) (fun g => Zv g _ (by simp [Qgt, Qm, clo, Qb])) ?_
 (apply Zo;repeat' ((with_reducible first|apply Zk|(first|apply Za|apply Zb|apply Zc|apply Zd)<;>intro h)<;>try simp -implicitDefEqProofs (maxSteps:=9^7) (disch:=first|omega|(simp only [Qc];omega)) only [go_sem]))
 refine Fc.mono (Qjr xs hx) ?_;rintro v H' ⟨ys, hp, hs, hR⟩
 have hr := Qck hp hs
 have hl := hp.length_eq
 rcases hR with ⟨rfl, h, h', rfl⟩ | ⟨rfl, rfl, _⟩
 ·obtain rfl : ys = [] := List.eq_nil_of_length_eq_zero h
  have hx : Yr xs = true := hr.2 (by simp)
  rw [hx]
  (apply Zo;repeat' ((with_reducible first|apply Zk|(first|apply Za|apply Zb|apply Zc|apply Zd)<;>intro h)<;>try simp -implicitDefEqProofs (maxSteps:=9^7) (disch:=first|omega|(simp only [Qc];omega)) only [go_sem]))
  refine Qb2 ?_;refine Xm Qi ?_
  (apply Zo;repeat' ((with_reducible first|apply Zk|(first|apply Za|apply Zb|apply Zc|apply Zd)<;>intro h)<;>try simp -implicitDefEqProofs (maxSteps:=9^7) (disch:=first|omega|(simp only [Qc];omega)) only [go_sem]))
  (refine Ql (by intro g; simp only [go_sem, ren, Qf]) ?_)
  rfl
 ·skip
  (apply Zo;repeat' ((with_reducible first|apply Zk|(first|apply Za|apply Zb|apply Zc|apply Zd)<;>intro h)<;>try simp -implicitDefEqProofs (maxSteps:=9^7) (disch:=first|omega|(simp only [Qc];omega)) only [go_sem]))
  refine Qn (fun n ts H => ∃ (i : Nat), (i ≤ ys.length) ∧ (H = [some ⟨3, 1, ints ys⟩]) ∧ (n = ys.length - i) ∧ (∀ k, k < i → ys.getD k 0 = k) ∧ ts.length = 27 ∧ nth ts 1 = .int .i64 xs.length ∧ nth ts 4 = .int .i64 0 ∧ nth ts 5 = .ref 0 0 ys.length ∧ nth ts 11 = .ref 0 0 ys.length ∧ nth ts 12 = .int .i64 ys.length ∧ nth ts 13 = .int .i64 i) ?_ (n := ys.length) ?_
  ·skip
   rintro n ts H ⟨i, hi, hH, hn, hall, hL, hs1, hs4, hs5, hs11, hs12, hs13⟩;refine Xt [(1, .int .i64 xs.length), (4, .int .i64 0), (5, .ref 0 0 ys.length), (11, .ref 0 0 ys.length), (12, .int .i64 ys.length), (13, .int .i64 i)] hL (by simp only [zFm, hs1, hs4, hs5, hs11, hs12, hs13, true_and]; exact zNm) ?_
   clear hL hs1 hs4 hs5 hs11 hs12 hs13 ts
   refine Xm Qi ?_;subst hH
   (apply Zo;repeat' ((with_reducible first|apply Zk|(first|apply Za|apply Zb|apply Zc|apply Zd)<;>intro h)<;>try simp -implicitDefEqProofs (maxSteps:=9^7) (disch:=first|omega|(simp only [Qc];omega)) only [go_sem]))
   ·skip
    (refine Ql (by intro g; simp only [go_sem, ren, Qf]) ?_)
    have : Yr xs = false := by
     cases hb : Yr xs with
     | false => rfl
     | true => exact absurd (hr.1 hb i (by omega)) (by assumption)
    simp [this]
   ·refine ⟨ys.length - (i + 1), by omega, i + 1, by omega, rfl, fun k hk => ?_, rfl⟩
    rcases Nat.lt_or_ge k i with h1 | h1
    ·exact hall k h1
    ·obtain rfl : k = i := by omega
     assumption
   ·skip
    (refine Ql (by intro g; simp only [go_sem, ren, Qf]) ?_)
    have : Yr xs = true := hr.2 fun k hk => hall k (by omega)
    simp [this]
  ·exact ⟨0, by omega, rfl, rfl, fun k hk => by omega, rfl, rfl, rfl, rfl, rfl, rfl, rfl⟩
theorem Qfq (l : List Int) (hl : l.length ≤ 17592186044416) : Pu C 73 [.sl l.length (ints l)] (.bool (Yr l && decide (l.length ≤ 4))) := by
 refine Fc.keep (Fc.bodyT Qi Try.func73 w73 rfl Try.ntmps73 Try.results73 (zLe rfl) ?_)
 (apply Zo;repeat' ((with_reducible first|apply Zk|(first|apply Za|apply Zb|apply Zc|apply Zd)<;>intro h)<;>try simp -implicitDefEqProofs (maxSteps:=9^7) (disch:=first|omega|(simp only [Qc];omega)) only [go_sem]))
 ·skip
  refine Fc.pure (Qov l (by omega)) (by simp [go_sem, Qm, clo, Qb, Qg]) (by intro g; simp only [go_sem, ren, Qf]) ?_
  cases hp : Yr l with
  | true =>
   (apply Zo;repeat' ((with_reducible first|apply Zk|(first|apply Za|apply Zb|apply Zc|apply Zd)<;>intro h)<;>try simp -implicitDefEqProofs (maxSteps:=9^7) (disch:=first|omega|(simp only [Qc];omega)) only [go_sem]))
   (refine Ql (by intro g; simp only [go_sem, ren, Qf]) ?_)
   simp; omega
  | false =>
   (apply Zo;repeat' ((with_reducible first|apply Zk|(first|apply Za|apply Zb|apply Zc|apply Zd)<;>intro h)<;>try simp -implicitDefEqProofs (maxSteps:=9^7) (disch:=first|omega|(simp only [Qc];omega)) only [go_sem]))
   (refine Ql (by intro g; simp only [go_sem, ren, Qf]) ?_)
   simp
 ·skip
  (refine Ql (by intro g; simp only [go_sem, ren, Qf]) ?_)
  have : ¬ l.length ≤ 4 := by omega
  simp [this]
theorem Qd3 (v : Int) (n : Nd) (ha : n.args.length ≤ 17592186044416) (hl : n.attrs.length ≤ 17592186044416) : Pu C 22 [.int .i64 v, .agg (ndC n)] (.int .i64 (Yl v n)) := Qlv Qfq v n ha hl
abbrev ROw (v : V) (H : Qa) (r : Sh) : Prop := RetO2 3 1 H v r.1.length (ints r.1) (.int .i64 r.2)
theorem Kk {H : Qa} (e : Int) : ∃ sel, Jx sel (fun v H => ROw v H ([], e)) (.tup [.nil, .int .i64 e]) H := Quh (fun _ => rfl)
theorem Qae {H : Qa} {u : V} {s : List Int} (e : Int) (hO : Bv.Own 3 1 H u s.length (ints s)) : ∃ sel, Jx sel (fun v H => ROw v H (s, e)) (.tup [u, .int .i64 e]) H := hO.two (fun g => Qk g _) (fun _ => rfl)
theorem Fc.ow {f : FuncId} {args args' : List V} {H : Qa} {K : V → Qa → Prop} {r : Sh} (h : Fc C f args' [] fun v H => ROw v H r) (hb : BorL H args args') (hK : ∀ w X, Bv.Own 3 1 (H ++ X) w r.1.length (ints r.1) → K (.tup [w, .int .i64 r.2]) (H ++ X)) : Fc C f args H K :=
 Fc.own2 h hb (fun g => Qk g _) (Xe _) (fun _ => rfl) rfl hK
theorem Pc.ow {H0 : Qa} {f : FuncId} {args args' : List V} {H : Qa} {K : V → Qa → Prop} {r : Sh} (h : Fc C f args' [] fun v H => ROw v H r) (hb : BorL H args args') (hK : ∀ w X, Bv.Own 3 1 (H ++ X) w r.1.length (ints r.1) → K (.tup [w, .int .i64 r.2]) (H ++ X)) : Pc C H0 f args H K :=
 Pc.own2 h hb (by simp [Yc]) (fun g => Qk g _) (Xe _) (fun _ => rfl) rfl hK
def Yg (r : Sh) : Sh := if r.2 ≠ 0 then ([], r.2) else if Xb r.1 ≠ 0 then ([], Xb r.1) else r
theorem Qmb (e : Int) (he : e ≠ 0) : Yg ([], e) = ([], e) := by simp [Yg, he]
theorem Qbn {u : V} {H0 : Qa} {s : List Int} (hO : Bv.Own 3 1 H0 u s.length (ints s)) (h : s.length ≤ 17592186044416) : Fc C 60 [u] H0 (fun v H' => H' = H0 ∧ v = .tup [if Xb s ≠ 0 then .nil else u, .int .i64 (Xb s)]) := by
 refine Fc.bodyT Qi Try.func60 w60 rfl Try.ntmps60 Try.results60 (zLe rfl) ?_
 (apply Zo;repeat' ((with_reducible first|apply Zk|(first|apply Za|apply Zb|apply Zc|apply Zd)<;>intro h)<;>try simp -implicitDefEqProofs (maxSteps:=9^7) (disch:=first|omega|(simp only [Qc];omega)) only [go_sem]))
 refine Fc.pureL (Qa3 s h) ⟨hO.bor' (Qb _), trivial⟩ (fun _ => rfl) rfl ?_
 (apply Zo;repeat' ((with_reducible first|apply Zk|(first|apply Za|apply Zb|apply Zc|apply Zd)<;>intro h)<;>try simp -implicitDefEqProofs (maxSteps:=9^7) (disch:=first|omega|(simp only [Qc];omega)) only [go_sem]))
 ·rw [if_pos (by assumption)]
 ·rw [if_neg (by simp [*])]; simp [*]
theorem Qex {H : Qa} {u : V} {s : List Int} (hO : Bv.Own 3 1 H u s.length (ints s)) : ∃ sel, Jx sel (fun v H => ROw v H (Yg (s, 0))) (.tup [if Xb s ≠ 0 then .nil else u, .int .i64 (Xb s)]) H := by
 by_cases hm : Xb s ≠ 0
 ·rw [if_pos hm, Yg, if_neg (by simp), if_pos hm]; exact Kk _
 ·have : Xb s = 0 := by omega
  rw [if_neg hm, Yg, if_neg (by simp), if_neg hm, this]
  exact Qae _ hO
theorem Qby (b : Bool) (u : V) (H0 : Qa) : Fc C 37 [.bool b, u] H0 (fun v H => H = H0 ∧ v = (if b = true then .tup [u, .int .i64 0] else .tup [.nil, .int .i64 13])) := by
 refine Fc.bodyT Qi Try.func37 w37 rfl Try.ntmps37 Try.results37 (zLe rfl) ?_
 (apply Zo;repeat' ((with_reducible first|apply Zk|(first|apply Za|apply Zb|apply Zc|apply Zd)<;>intro h)<;>try simp -implicitDefEqProofs (maxSteps:=9^7) (disch:=first|omega|(simp only [Qc];omega)) only [go_sem]))
 ·rw [if_pos (by assumption)]
 ·rw [if_neg (by simp [*])]
theorem Qoc (d a b : Int) (ha : -2147483648 ≤ a ∧ a ≤ 2147483648) (hb : -2147483648 ≤ b ∧ b ≤ 2147483648) : Pu C 45 [.int .i64 d, .int .i64 a, .int .i64 b] (.tup [.int .i64 (b - a), .bool (decide (b ≤ d))]) := by
 refine Fc.keep (Fc.bodyT Qi Try.func45 w45 rfl Try.ntmps45 Try.results45 (zLe rfl) ?_)
 (apply Zo;repeat' ((with_reducible first|apply Zk|(first|apply Za|apply Zb|apply Zc|apply Zd)<;>intro h)<;>try simp -implicitDefEqProofs (maxSteps:=9^7) (disch:=first|omega|(simp only [Qc];omega)) only [go_sem]))
 (refine Ql (by intro g; simp only [go_sem, ren, Qf]) ?_)
 simp
theorem Qn7 (d a b : Int) (hd : -2147483648 ≤ d ∧ d ≤ 2147483648) (ha : -2147483648 ≤ a ∧ a ≤ 2147483648) (hb : -2147483648 ≤ b ∧ b ≤ 2147483648) : Pu C 46 [.int .i64 d, .int .i64 a, .int .i64 b] (.tup [.int .i64 (d + a + b), .bool true]) := by
 refine Fc.keep (Fc.bodyT Qi Try.func46 w46 rfl Try.ntmps46 Try.results46 (zLe rfl) ?_)
 (apply Zo;repeat' ((with_reducible first|apply Zk|(first|apply Za|apply Zb|apply Zc|apply Zd)<;>intro h)<;>try simp -implicitDefEqProofs (maxSteps:=9^7) (disch:=first|omega|(simp only [Qc];omega)) only [go_sem]))
 (refine Ql (by intro g; simp only [go_sem, ren, Qf]) ?_)
 simp
theorem Qba (x y : List Int) (hx : x.length ≤ 17592186044416) (hy : y.length ≤ 17592186044416) : Fc C 39 [.sl x.length (ints x), .sl y.length (ints y)] [] (fun v H => ROw v H (Yg (Yx x y))) := by
 refine Fc.keep (Fc.bodyT Qi Try.func39 w39 rfl Try.ntmps39 Try.results39 (zLe rfl) ?_)
 (apply Zo;repeat' ((with_reducible first|apply Zk|(first|apply Za|apply Zb|apply Zc|apply Zd)<;>intro h)<;>try simp -implicitDefEqProofs (maxSteps:=9^7) (disch:=first|omega|(simp only [Qc];omega)) only [go_sem]))
 ·rw [Yx, if_neg (by omega)]; exact Kk _
 ·rw [Yx, if_neg (by omega)]; exact Kk _
 ·rw [Yx, if_neg (by omega)]; exact Kk _
 ·rw [Yx, if_pos (by omega)]
  refine Pc.gen (Qbn (s := [x.getD 0 0, y.getD 1 0]) (.inr ⟨0, rfl, rfl, rfl⟩) (by simp)) ⟨_, _, rfl, rfl⟩ ?_
  rintro v H' ⟨rfl, rfl⟩;refine ⟨.refl _ _, ?_⟩
  (apply Zo;repeat' ((with_reducible first|apply Zk|(first|apply Za|apply Zb|apply Zc|apply Zd)<;>intro h)<;>try simp -implicitDefEqProofs (maxSteps:=9^7) (disch:=first|omega|(simp only [Qc];omega)) only [go_sem]))
  exact Qex (s := [x.getD 0 0, y.getD 1 0]) (.inr ⟨0, rfl, rfl, rfl⟩)
theorem Qhb (x p : List Int) (hx : x.length ≤ 17592186044416) (hp : p.length ≤ 17592186044416) (hr : p.length = x.length → ∀ i, i < p.length → 0 ≤ p.getD i 0 ∧ p.getD i 0 < p.length) : Fc C 41 [.sl x.length (ints x), .sl p.length (ints p)] [] (fun v H => ROw v H (if p.length = x.length then (tab (fun i => x.getD (p.getD i 0).toNat 0) p.length, 0) else ([], 13))) := by
 refine Fc.keep (Fc.bodyT Qi Try.func41 w41 rfl Try.ntmps41 Try.results41 (zLe rfl) ?_)
 (apply Zo;repeat' ((with_reducible first|apply Zk|(first|apply Za|apply Zb|apply Zc|apply Zd)<;>intro h)<;>try simp -implicitDefEqProofs (maxSteps:=9^7) (disch:=first|omega|(simp only [Qc];omega)) only [go_sem]))
 ·rw [if_neg (by omega)]; exact Kk _
 ·have hr := hr (by omega)
  rw [if_pos (by omega)]
  refine Qn (fun n ts H => ∃ i u, (i ≤ p.length) ∧ (n = p.length - i) ∧ (Bv.Own 3 1 H u (tab (fun i => x.getD (p.getD i 0).toNat 0) i).length (ints (tab (fun i => x.getD (p.getD i 0).toNat 0) i))) ∧ ts.length = 28 ∧ nth ts 0 = .sl x.length (ints x) ∧ nth ts 4 = u ∧ nth ts 5 = .int .i64 0 ∧ nth ts 13 = .sl p.length (ints p) ∧ nth ts 14 = .int .i64 p.length ∧ nth ts 15 = .int .i64 i) ?_ (n := p.length) ?_
  ·skip
   rintro n ts H ⟨i, u, hi, hn, hu, hL, hs0, hs4, hs5, hs13, hs14, hs15⟩;refine Xt [(0, .sl x.length (ints x)), (4, u), (5, .int .i64 0), (13, .sl p.length (ints p)), (14, .int .i64 p.length), (15, .int .i64 i)] hL (by simp only [zFm, hs0, hs4, hs5, hs13, hs14, hs15, true_and]; exact zNm) ?_
   clear hL hs0 hs4 hs5 hs13 hs14 hs15 ts
   refine Xm Qi ?_;subst hn;by_cases hlt : i < p.length
   ·have hp := hr i hlt
    (apply Zo;repeat' ((with_reducible first|apply Zk|(first|apply Za|apply Zb|apply Zc|apply Zd)<;>intro h)<;>try simp -implicitDefEqProofs (maxSteps:=9^7) (disch:=first|omega|(simp only [Qc];omega)) only [go_sem]))
    refine Qal hu rfl ⟨by decide, by decide⟩ (by rw [Xj]; omega) fun v' H' hu' _ => ?_
    (apply Zo;repeat' ((with_reducible first|apply Zk|(first|apply Za|apply Zb|apply Zc|apply Zd)<;>intro h)<;>try simp -implicitDefEqProofs (maxSteps:=9^7) (disch:=first|omega|(simp only [Qc];omega)) only [go_sem]))
    exact ⟨_, by omega, i + 1, v', by omega, rfl, by rw [Qh5]; exact hu', (by (repeat' apply And.intro) <;> (first | rfl | omega | (congr 1; omega) | assumption | (congr 1; assumption)))⟩
   ·obtain rfl : i = p.length := by omega
    (apply Zo;repeat' ((with_reducible first|apply Zk|(first|apply Za|apply Zb|apply Zc|apply Zd)<;>intro h)<;>try simp -implicitDefEqProofs (maxSteps:=9^7) (disch:=first|omega|(simp only [Qc];omega)) only [go_sem]))
    exact Qae _ hu
  ·exact ⟨0, .nil, by omega, rfl, .nil _ _ _, rfl, rfl, rfl, rfl, rfl, rfl, rfl⟩
theorem Qz6 : Try.f69.body.all yOK = true := by kernel_rfl
def Qhc (l : List Int) : V := .fn (.func 69) [] [.rp [.sl l.length (ints l)] 0]
def Qh3 (l : List Int) : List (List V) := (List.range (l.length / 2)).map fun i => [.int .i64 (l.getD (2 * i) 0), .int .i64 (l.getD (2 * i + 1) 0)]
theorem Qab (l : List Int) : (Qh3 l).length = l.length / 2 := by simp [Qh3]
theorem Qlx {l : List Int} {i : Nat} (h : i < l.length / 2) : (Qh3 l)[i]? = some [.int .i64 (l.getD (2 * i) 0), .int .i64 (l.getD (2 * i + 1) 0)] := by simp [Qh3, h]
theorem Qiz (l : List Int) : Pu C 63 [.sl l.length (ints l)] (Qhc l) := by
 refine Fc.keep (Fc.sealR ?_);refine Fc.bodyT Qi Try.func63 w63 rfl Try.ntmps63 Try.results63 (zLe rfl) ?_
 (apply Zo;repeat' ((with_reducible first|apply Zk|(first|apply Za|apply Zb|apply Zc|apply Zd)<;>intro h)<;>try simp -implicitDefEqProofs (maxSteps:=9^7) (disch:=first|omega|(simp only [Qc];omega)) only [go_sem]))
 refine ⟨0, _, 1, [.sl l.length (ints l)], rfl, by simp [Qm, clo, Qb], [], by simp, by simp, ?_⟩
 simp [sz, szL, ren, Qf, Qhc, Qan, Qk]
theorem Qku (l : List Int) (hl : l.length ≤ 17592186044416) : Gen C 69 [.rp [.sl l.length (ints l)] 0] (Qh3 l) := by
 refine Gen.of3 Qi Try.func69 w69 Qz6 rfl Try.ntmps69 Try.results69 (zLe rfl) (by simp [Qh3, Qm, clo]) ?_
 intro G k J hW
 (apply Zo;repeat' ((with_reducible first|apply Zk|(first|apply Za|apply Zb|apply Zc|apply Zd)<;>intro h)<;>try simp -implicitDefEqProofs (maxSteps:=9^7) (disch:=first|omega|(simp only [Qc];omega)) only [go_sem]))
 refine Qc7 (fun n ts H => ∃ (i : Nat), (i ≤ l.length / 2) ∧ (n = l.length / 2 - i) ∧ (H.length = i) ∧ ts.length = 23 ∧ nth ts 0 = .fn (.yield k) [] [] ∧ nth ts 1 = .rp [.sl l.length (ints l)] 0 ∧ nth ts 3 = .int .i64 (2 * (i : Int))) ?_ (n := l.length / 2) ?_
 ·skip
  rintro n ts H ⟨i, hi, hn, hH, hL, hs0, hs1, hs3⟩;refine Qms [(0, .fn (.yield k) [] []), (1, .rp [.sl l.length (ints l)] 0), (3, .int .i64 (2 * (i : Int)))] hL (by simp only [zFm, hs0, hs1, hs3, true_and]; exact zNm) ?_
  clear hL hs0 hs1 hs3 ts
  refine hW _ _ _ _ ?_
  (apply Zo;repeat' ((with_reducible first|apply Zk|(first|apply Za|apply Zb|apply Zc|apply Zd)<;>intro h)<;>try simp -implicitDefEqProofs (maxSteps:=9^7) (disch:=first|omega|(simp only [Qc];omega)) only [go_sem]))
  ·refine ⟨by rw [hH]; exact Qlx (by omega), ⟨l.length / 2 - (i + 1), by omega, i + 1, by omega, rfl, by omega, ?_⟩, .inr trivial, .inr ?_⟩
   ·congr 1 <;> omega
   ·simp only [List.length_replicate, Qab]; omega
  ·refine ⟨.inl trivial, .inl ?_⟩;rw [Qab]; omega
 ·exact ⟨0, by omega, by omega, rfl, rfl, rfl, rfl, rfl⟩
theorem Qg2 {e s e' s' : Nat} {H : Qa} {v : V} {n q : Nat} {cs cs' : List V} {z : Option Row} (h : Bv.Own e s H v n cs) (hq : Qd H q = some ⟨e', s', cs'⟩) (hne : e' ≠ e) : Bv.Own e s (H.set q z) v n cs := by
 rcases h with h | ⟨r, h, hr, hl⟩
 ·exact .inl h
 ·refine .inr ⟨r, h, ?_, hl⟩;rw [Qo]
  ·exact hr
  ·rintro rfl; rw [hq] at hr; injection hr with hr; injection hr with hr; exact hne hr
theorem Jk {e s e' s' : Nat} {H H' : Qa} {v : V} {n q : Nat} {cs cs' : List V} (h : Bv.Own e s H v n cs) (hF : Fr v H H') (hq : Qd H q = some ⟨e', s', cs'⟩) (hne : e' ≠ e) : Qd H' q = some ⟨e', s', cs'⟩ := hF q _ (by
 rintro off m rfl;rcases h with ⟨h, _⟩ | ⟨r, h, hr, _⟩
 ·cases h
 ·injection h with h _ _; subst h; rw [hq] at hr; injection hr with hr; injection hr with hr; exact hne hr) hq
theorem Qcj (g : Nat) (f : Nat → Int) (b : Nat → Bool) (x l : List Int) (hx : x.length ≤ 1000000) (hl : l.length ≤ 17592186044416) (hg : ∀ i, i < x.length → Pu C g [.int .i64 (x.getD i 0), .int .i64 (l.getD (2 * i) 0), .int .i64 (l.getD (2 * i + 1) 0)] (.tup [.int .i64 (f i), .bool (b i)])) :
  Fc C 44 [.sl x.length (ints x), .sl l.length (ints l), .fn (.func g) [] []] [] (fun v H => ROw v H (if l.length = 2 * x.length ∧ (∀ i, i < x.length → b i = true) then Yg (tab f x.length, 0) else ([], 13))) := by
 have hv : Qhc l = .fn (.func 69) [] [.rp [.sl l.length (ints l)] 0] := rfl
 refine Fc.keep (Fc.bodyT Qi Try.func44 w44 rfl Try.ntmps44 Try.results44 (zLe rfl) ?_)
 (apply Zo;repeat' ((with_reducible first|apply Zk|(first|apply Za|apply Zb|apply Zc|apply Zd)<;>intro h)<;>try simp -implicitDefEqProofs (maxSteps:=9^7) (disch:=first|omega|(simp only [Qc];omega)) only [go_sem]))
 ·rw [if_neg (by omega)]; exact Kk _
 ·refine Fc.pure (Qiz l) (by simp [Qm, clo, Qb]) (fun g => Zv g _ (by simp [Qhc, Qm, clo, Qb])) ?_
  (apply Zo;repeat' ((with_reducible first|apply Zk|(first|apply Za|apply Zb|apply Zc|apply Zd)<;>intro h)<;>try simp -implicitDefEqProofs (maxSteps:=9^7) (disch:=first|omega|(simp only [Qc];omega)) only [go_sem, hv]))
  have hl2 : l.length / 2 = x.length := by omega
  refine Qjq (g := 69) (lb := [.rp [.sl l.length (ints l)] 0]) (xs := Qh3 l) (by simp -implicitDefEqProofs (maxSteps:=9^7) (disch := first | omega | (simp only [Qc]; omega)) only [go_sem]) (by simp [Qm, clo, Qb]) (Qku l hl) (by simp [Qh3]) (fun k H => ∃ v, Qd H 0 = some ⟨28, 1, [.sl x.length (ints x)]⟩ ∧ Qd H 1 = some ⟨72, 1, [.fn (.func g) [] []]⟩ ∧ Qd H 2 = some ⟨28, 1, [.nil]⟩ ∧ Qd H 3 = some ⟨29, 1, [.int .i64 0]⟩ ∧ Qd H 5 = some ⟨28, 1, [v]⟩ ∧ Bv.Own 3 1 H v k (ints (tab f k)) ∧ ∀ i, i < k → b i = true) ⟨.ref 4 0 0, rfl, rfl, rfl, rfl, rfl, .inr ⟨4, rfl, rfl, rfl⟩, fun i hi => by omega⟩ ?_ ?_
  ·intro k us H hk hI lp;obtain ⟨v, h0, h1, h2, h3, h5, hO, hb⟩ := hI
   have hkl : k < l.length / 2 := by simpa [Qab] using (List.getElem?_eq_some_iff.1 hk).1
   obtain rfl := Option.some.inj ((Qlx hkl).symm.trans hk)
   have hgk := hg k (by omega)
   (refine Xm Qi ?_; simp -implicitDefEqProofs (maxSteps:=9^7) (disch := first | omega | (simp only [Qc]; omega)) only [go_sem, Qg1])
   have hlv := hO.lenw (C.ty 28)
   (refine Xm Qi ?_; simp -implicitDefEqProofs (maxSteps:=9^7) (disch := first | omega | (simp only [Qc]; omega)) only [go_sem, h0, h1, h5, hlv])
   refine RunU.now ?_
   (apply Zo;repeat' ((with_reducible first|apply Zk|(first|apply Za|apply Zb|apply Zc|apply Zd)<;>intro h)<;>try simp -implicitDefEqProofs (maxSteps:=9^7) (disch:=first|omega|(simp only [Qc];omega)) only [go_sem, h0, h1, h5, hlv]))
   cases hbk : b k with
   | false =>
    rw [hbk] at hgk
    have e3 : ∀ z, Qd (H.set 2 z) 3 = some ⟨29, 1, [.int .i64 0]⟩ := fun z => by rw [Qo _ (by decide)]; exact h3
    have e2 : ∀ row z, Qd ((H.set 2 (some row)).set 3 z) 2 = some row := fun row z => by rw [Qo _ (by decide)]; exact Xc h2
    have e33 : ∀ row z, Qd ((H.set 2 z).set 3 (some row)) 3 = some row := fun row z => Xc (e3 z)
    refine Pc.pure (hgk) (by simp [go_sem, Qm, clo, Qb, Qg]) (by intro g; simp only [go_sem, ren, Qf]) ?_
    (apply Zo;repeat' ((with_reducible first|apply Zk|(first|apply Za|apply Zb|apply Zc|apply Zd)<;>intro h)<;>try simp -implicitDefEqProofs (maxSteps:=9^7) (disch:=first|omega|(simp only [Qc];omega)) only [go_sem, Qei, h2, e3, e2, e33]))
    rw [if_neg (fun hh => by have := hh.2 k (by omega); rw [hbk] at this; cases this)]
    exact Kk _
   | true =>
    rw [hbk] at hgk;refine Pc.pure (hgk) (by simp [go_sem, Qm, clo, Qb, Qg]) (by intro g; simp only [go_sem, ren, Qf]) ?_
    (apply Zo;repeat' ((with_reducible first|apply Zk|(first|apply Za|apply Zb|apply Zc|apply Zd)<;>intro h)<;>try simp -implicitDefEqProofs (maxSteps:=9^7) (disch:=first|omega|(simp only [Qc];omega)) only [go_sem, h5]))
    have hOt : Bv.Own 3 1 H v (tab f k).length (ints (tab f k)) := by rw [Xj]; exact hO
    refine Qal hOt rfl ⟨by decide, by decide⟩ (by rw [Xj]; omega) fun v' H' hO' hF => ?_
    have k0 := Jk hO hF h0 (by decide)
    have k1 := Jk hO hF h1 (by decide)
    have k2 := Jk hO hF h2 (by decide)
    have k3 := Jk hO hF h3 (by decide)
    have k5 := Jk hO hF h5 (by decide)
    have hc : cellsOf v' = [v'] ∧ Xx v' = true := by rcases hO' with ⟨rfl, _⟩ | ⟨r, rfl, _⟩ <;> exact ⟨rfl, rfl⟩
    (apply Zo;repeat' ((with_reducible first|apply Zk|(first|apply Za|apply Zb|apply Zc|apply Zd)<;>intro h)<;>try simp -implicitDefEqProofs (maxSteps:=9^7) (disch:=first|omega|(simp only [Qc];omega)) only [go_sem, k5, hc.1, hc.2, Qei, List.all_cons, List.all_nil]))
    rw [← Qh5, Xj] at hO';refine ⟨v', by rw [Qo _ (by decide)]; exact k0, by rw [Qo _ (by decide)]; exact k1, by rw [Qo _ (by decide)]; exact k2, by rw [Qo _ (by decide)]; exact k3, Xc k5, Qg2 hO' k5 (by decide), fun i hi => ?_⟩
    rcases Nat.lt_or_ge i k with h' | h'
    ·exact hb i h'
    ·obtain rfl : i = k := by omega
     exact hbk
  ·intro H hI;obtain ⟨v, h0, h1, h2, h3, h5, hO, hb⟩ := hI;rw [Qab, hl2] at hO hb;rw [if_pos ⟨by omega, hb⟩]
   (apply Zo;repeat' ((with_reducible first|apply Zk|(first|apply Za|apply Zb|apply Zc|apply Zd)<;>intro h)<;>try simp -implicitDefEqProofs (maxSteps:=9^7) (disch:=first|omega|(simp only [Qc];omega)) only [go_sem, h5]))
   refine Fc.mono (Qbn (s := tab f x.length) (by rw [Xj]; exact hO) (by rw [Xj]; omega)) ?_
   rintro v H' ⟨rfl, rfl⟩
   have hfin := fun (H : Qa) (h : Bv.Own 3 1 H v (tab f x.length).length (ints (tab f x.length))) => Qex (H := H) h
   have hwc : cellsOf (if Xb (tab f x.length) ≠ 0 then V.nil else v) = [if Xb (tab f x.length) ≠ 0 then V.nil else v] ∧ Xx (if Xb (tab f x.length) ≠ 0 then V.nil else v) = true := by
    split
    ·exact ⟨rfl, rfl⟩
    ·rcases hO with ⟨rfl, _⟩ | ⟨r, rfl, _⟩ <;> exact ⟨rfl, rfl⟩
   generalize (if Xb (tab f x.length) ≠ 0 then V.nil else v) = w at hfin hwc ⊢
   have e3 : ∀ z, Qd (H'.set 2 z) 3 = some ⟨29, 1, [.int .i64 0]⟩ := fun z => by rw [Qo _ (by decide)]; exact h3
   have e2 : ∀ row z, Qd ((H'.set 2 (some row)).set 3 z) 2 = some row := fun row z => by rw [Qo _ (by decide)]; exact Xc h2
   have e33 : ∀ row z, Qd ((H'.set 2 z).set 3 (some row)) 3 = some row := fun row z => Xc (e3 z)
   (apply Zo;repeat' ((with_reducible first|apply Zk|(first|apply Za|apply Zb|apply Zc|apply Zd)<;>intro h)<;>try simp -implicitDefEqProofs (maxSteps:=9^7) (disch:=first|omega|(simp only [Qc];omega)) only [go_sem, h2, e3, e2, e33, hwc.1, hwc.2, List.all_cons, List.all_nil]))
   exact hfin _ (Qg2 (Qg2 (by rw [Xj]; exact hO) h2 (by decide)) (e3 _) (by decide))
theorem Qky (l : List (List Int)) (k : Nat) : (Qz l).drop k = Qz (l.drop k) := by simp [Qz]
theorem Qk5 (l : List (List Int)) (k : Nat) : (l.drop 1).getD k [] = l.getD (k + 1) [] := by simp [List.getD, Nat.add_comm]
theorem Qi5 {s x : List Int} {axis : Nat} : ∀ i, Xp s [(axis : Int)] i = Xp x [(axis : Int)] i ↔ ∀ j, j < i → j ≠ axis → s.getD j 0 = x.getD j 0
 | 0 => by simp [Xp]
 | i + 1 => by
  have ih := Qi5 (s := s) (x := x) (axis := axis) i
  by_cases h : i = axis
  ·subst h;simp only [Xp, List.contains_cons, BEq.rfl, Bool.true_or, if_true, List.append_nil];rw [ih];exact ⟨fun hh j hj hne => hh j (by omega) hne, fun hh j hj hne => hh j (by omega) hne⟩
  ·have hc : ([(axis : Int)].contains (i : Int)) = false := by simp; omega
   simp only [Xp, hc, Bool.false_eq_true, if_false];constructor
   ·intro hh
    have h2 := List.append_inj' hh rfl
    refine fun j hj hne => ?_
    rcases Nat.lt_or_ge j i with h3 | h3
    ·exact ih.1 h2.1 j h3 hne
    ·obtain rfl : j = i := by omega
     simpa using h2.2
   ·intro hh;rw [ih.2 fun j hj hne => hh j (by omega) hne, hh i (by omega) h]
theorem Qix (axis : Nat) (l : List (List Int)) (hax : axis ≤ 17592186044416) (h1 : 1 ≤ l.length) (hl : l.length ≤ 1000000) (hx : ∀ k, k < l.length → (l.getD k []).length ≤ 1000000) (hd : ∀ k, k < l.length → ∀ i, 0 ≤ (l.getD k []).getD i 0 ∧ (l.getD k []).getD i 0 ≤ 1024) : Fc C 47 [.int .i64 axis, .sl l.length (Qz l)] [] (fun v H => ROw v H (Yg (Qdz axis l))) := by
 have hx0 := hx 0 h1
 refine Fc.keep (Fc.bodyT Qi Try.func47 w47 rfl Try.ntmps47 Try.results47 (zLe rfl) ?_)
 (apply Zo;repeat' ((with_reducible first|apply Zk|(first|apply Za|apply Zb|apply Zc|apply Zd)<;>intro h)<;>try simp -implicitDefEqProofs (maxSteps:=9^7) (disch:=first|omega|(simp only [Qc];omega)) only [go_sem]))
 ·rw [Qdz, if_neg (by omega)]; exact Kk _
 ·refine Fc.own (Qd1 (l.getD 0 []) (by omega)) (by simp [Qm, clo, Qb]) (fun g => Qk g _) fun v X hO => ?_
  rcases hO with ⟨_, h', _⟩ | ⟨r, rfl, hr, _⟩
  ·omega
  (apply Zo;repeat' ((with_reducible first|apply Zk|(first|apply Za|apply Zb|apply Zc|apply Zd)<;>intro h)<;>try simp -implicitDefEqProofs (maxSteps:=9^7) (disch:=first|omega|(simp only [Qc];omega)) only [go_sem]))
  rw [Qky]
  have hlen : (l.drop 1).length = l.length - 1 := by simp
  rw [← hlen];refine Qn (fun n ts H => ∃ k, (k ≤ l.length - 1) ∧ (∀ j, j < k + 1 → 1 ≤ j → Qgg axis l j) ∧ (n = l.length - 1 - k) ∧ (Qd H r = some ⟨3, 1, ints ((l.getD 0 []).set axis (Qce axis l (k + 1)))⟩) ∧ ts.length = 58 ∧ nth ts 0 = .int .i64 axis ∧ nth ts 4 = .nil ∧ nth ts 5 = .int .i64 0 ∧ nth ts 6 = .sl (l.getD 0 []).length (ints (l.getD 0 [])) ∧ nth ts 7 = .ref r 0 (l.getD 0 []).length ∧ nth ts 20 = .sl (l.drop 1).length (Qz (l.drop 1)) ∧ nth ts 21 = .int .i64 (l.drop 1).length ∧ nth ts 22 = .int .i64 k) ?_ (n := l.length - 1) ?_
  ·skip
   rintro n ts H ⟨k, hk, hok, hn, hH, hL, hs0, hs4, hs5, hs6, hs7, hs20, hs21, hs22⟩;refine Xt [(0, .int .i64 axis), (4, .nil), (5, .int .i64 0), (6, .sl (l.getD 0 []).length (ints (l.getD 0 []))), (7, .ref r 0 (l.getD 0 []).length), (20, .sl (l.drop 1).length (Qz (l.drop 1))), (21, .int .i64 (l.drop 1).length), (22, .int .i64 k)] hL (by simp only [zFm, hs0, hs4, hs5, hs6, hs7, hs20, hs21, hs22, true_and]; exact zNm) ?_
   clear hL hs0 hs4 hs5 hs6 hs7 hs20 hs21 hs22 ts
   refine Xm Qi ?_;subst hn;by_cases hlt : k < (l.drop 1).length
   ·have hxk := hx (k + 1) (by omega)
    have bad : ¬ Qgg axis l (k + 1) → Yg (Qdz axis l) = ([], 13) := fun hb => by
     rw [Qdz, if_neg]
     ·rfl
     ·rintro ⟨_, h2⟩; exact hb ((Qe5 _ _ _).1 h2 (k + 1) (by omega) (by omega))
    (apply Zo;repeat' ((with_reducible first|apply Zk|(first|apply Za|apply Zb|apply Zc|apply Zd)<;>intro h)<;>try simp -implicitDefEqProofs (maxSteps:=9^7) (disch:=first|omega|(simp only [Qc];omega)) only [go_sem, Qk5]))
    ·rw [bad (fun hc => by have := hc.1; omega)]; exact Kk _
    ·refine Fc.ownL (Qdt (l.getD (k + 1) []) [(axis : Int)] (by omega) (by simp)) ⟨.self (by simp [clo, Qb]), (Qha (e := 3) (s := 1) (cs := ints [(axis : Int)]) (n := 1) rfl).bor' (Qb [(axis : Int)]), trivial⟩ (fun g => Qk g _) (Xe _) fun v1 X1 hO1 => ?_
     have hH1 := Qy (Qy hH [some ⟨3, 1, ints [(axis : Int)]⟩]) X1
     generalize hG : H ++ [some ⟨3, 1, ints [(axis : Int)]⟩] ++ X1 = H1 at hH1
     change Bv.Own _ _ (H ++ [some ⟨3, 1, ints [(axis : Int)]⟩] ++ X1) _ _ _ at hO1
     rw [hG] at hO1
     have hG' : H ++ [some ⟨3, 1, [V.int .i64 axis]⟩] ++ X1 = H1 := hG
     rw [hG']
     (apply Zo;repeat' ((with_reducible first|apply Zk|(first|apply Za|apply Zb|apply Zc|apply Zd)<;>intro h)<;>try simp -implicitDefEqProofs (maxSteps:=9^7) (disch:=first|omega|(simp only [Qc];omega)) only [go_sem]))
     refine Fc.ownL (Qdt (l.getD 0 []) [(axis : Int)] (by omega) (by simp)) ⟨.self (by simp [clo, Qb]), (Qha (e := 3) (s := 1) (cs := ints [(axis : Int)]) (n := 1) rfl).bor' (Qb [(axis : Int)]), trivial⟩ (fun g => Qk g _) (Xe _) fun v2 X2 hO2 => ?_
     have hH2 := Qy (Qy hH1 [some ⟨3, 1, ints [(axis : Int)]⟩]) X2
     have hO1 := (hO1.keep [some ⟨3, 1, ints [(axis : Int)]⟩]).keep X2
     generalize hG2 : H1 ++ [some ⟨3, 1, ints [(axis : Int)]⟩] ++ X2 = H2 at hH2 hO1
     change Bv.Own _ _ (H1 ++ [some ⟨3, 1, ints [(axis : Int)]⟩] ++ X2) _ _ _ at hO2
     rw [hG2] at hO2
     have hG2' : H1 ++ [some ⟨3, 1, [V.int .i64 axis]⟩] ++ X2 = H2 := hG2
     rw [hG2']
     (apply Zo;repeat' ((with_reducible first|apply Zk|(first|apply Za|apply Zb|apply Zc|apply Zd)<;>intro h)<;>try simp -implicitDefEqProofs (maxSteps:=9^7) (disch:=first|omega|(simp only [Qc];omega)) only [go_sem]))
     refine Fc.pureL (Qgn (Xp (l.getD (k + 1) []) [(axis : Int)] (l.getD (k + 1) []).length) (Xp (l.getD 0 []) [(axis : Int)] (l.getD 0 []).length) (by have := Kc (l.getD (k + 1) []) [(axis : Int)] (l.getD (k + 1) []).length; omega)) ⟨hO1.bor' (Qb _), hO2.bor' (Qb _), trivial⟩ (fun _ => rfl) rfl ?_
     have hb1 := Qmn (axis := axis) hd (k + 1) (by omega)
     have hb2 := hd (k + 1) (by omega) axis
     have hiff := Qi5 (s := l.getD (k + 1) []) (x := l.getD 0 []) (axis := axis) (l.getD 0 []).length
     have hll : (l.getD (k + 1) []).length = (l.getD 0 []).length := by omega
     rw [hll]
     (apply Zo;repeat' ((with_reducible first|apply Zk|(first|apply Za|apply Zb|apply Zc|apply Zd)<;>intro h)<;>try simp -implicitDefEqProofs (maxSteps:=9^7) (disch:=first|omega|(simp only [Qc];omega)) only [go_sem, hH2]))
     ·have hok1 : Qgg axis l (k + 1) := ⟨hll, hiff.1 (by assumption)⟩
      refine ⟨l.length - 1 - (k + 1), by omega, k + 1, by omega, fun j h1 h2 => ?_, rfl, ?_, rfl⟩
      ·rcases Nat.lt_or_ge j (k + 1) with h3 | h3
       ·exact hok j h3 h2
       ·obtain rfl : j = k + 1 := by omega
        exact hok1
      ·rw [show Qce axis l (k + 1 + 1) = Qce axis l (k + 1) + (l.getD (k + 1) []).getD axis 0 from rfl];exact Xc hH2
     ·rw [bad (fun hc => absurd (hiff.2 hc.2) (by assumption))]; exact Kk _
   ·obtain rfl : k = l.length - 1 := by omega
    (apply Zo;repeat' ((with_reducible first|apply Zk|(first|apply Za|apply Zb|apply Zc|apply Zd)<;>intro h)<;>try simp -implicitDefEqProofs (maxSteps:=9^7) (disch:=first|omega|(simp only [Qc];omega)) only [go_sem]))
    have hcl : l.length - 1 + 1 = l.length := by omega
    rw [hcl] at hH
    have hO : Bv.Own 3 1 H (.ref r 0 (l.getD 0 []).length) ((l.getD 0 []).set axis (Qce axis l l.length)).length (ints ((l.getD 0 []).set axis (Qce axis l l.length))) := .inr ⟨r, by simp, hH, by simp [Yc]⟩
    refine Fc.mono (Qbn hO (by rw [List.length_set]; omega)) ?_
    rintro v H' ⟨rfl, rfl⟩
    (apply Zo;repeat' ((with_reducible first|apply Zk|(first|apply Za|apply Zb|apply Zc|apply Zd)<;>intro h)<;>try simp -implicitDefEqProofs (maxSteps:=9^7) (disch:=first|omega|(simp only [Qc];omega)) only [go_sem]))
    rw [Qdz, if_pos ⟨by omega, (Qe5 _ _ _).2 fun j h1 h2 => hok j (by omega) h2⟩]
    exact Qex hO
  ·exact ⟨0, by omega, fun j h1 h2 => by omega, by omega, by simp only [Qce, Int.zero_add]; rw [Qpm _ (by omega)]; exact hr, rfl, rfl, rfl, rfl, rfl, rfl, rfl, rfl, rfl⟩
theorem Qc0 {s : List Int} (h : Xb s = 0) : Yg (s, 0) = (s, 0) := by simp [Yg, h]
theorem Qgc {s : List Int} (hl : s.length ≤ 4) (h : ∀ d ∈ s, 1 ≤ d) : Xb s = 0 ∨ Xb s = 14 := by
 unfold Xb;rw [if_neg (by omega), if_pos (by simpa using h)]
 split <;> simp
theorem Kr {s : List Int} (h : ∀ d ∈ s, 1 ≤ d) {i : Nat} (hi : i < s.length) : 1 ≤ s.getD i 0 := h _ (Qbz hi)
theorem Qrr {o : Int} {a : List Int} {l : List (List Int)} (ho : o = 19) (h0 : Xb (l.getD 0 []) = 0) (h1 : Xb (l.getD 1 []) = 0) : Yg (Xq o a l) = (if (Yg (Yx (l.getD 0 []) (l.getD 1 []))).2 ≠ 0 then ([], (Yg (Yx (l.getD 0 []) (l.getD 1 []))).2) else if Qax (l.getD 2 []) (Yg (Yx (l.getD 0 []) (l.getD 1 []))).1 ≠ 0 then ([], 13) else Yg (Yx (l.getD 0 []) (l.getD 1 []))) := by
 have hm : (Yx (l.getD 0 []) (l.getD 1 [])).2 = 0 → Xb (Yx (l.getD 0 []) (l.getD 1 [])).1 = 0 ∨ Xb (Yx (l.getD 0 []) (l.getD 1 [])).1 = 14 := by
  unfold Yx;split
  ·rename_i hc;intro _;refine Qgc (by simp) fun d hd => ?_
   have g0 := Kr (Xk h0).2.1 (i := 0) (by omega)
   have g1 := Kr (Xk h1).2.1 (i := 1) (by omega)
   simp only [List.mem_cons, List.not_mem_nil, or_false] at hd;rcases hd with rfl | rfl <;> assumption
  ·intro h; simp at h
 have hst : (Yx (l.getD 0 []) (l.getD 1 [])).2 = 0 → Yx (l.getD 0 []) (l.getD 1 []) = ((Yx (l.getD 0 []) (l.getD 1 [])).1, 0) := fun h => Prod.ext rfl h
 rw [Xq, if_neg (by omega), if_neg (by omega), if_pos (by omega)]
 generalize Yx (l.getD 0 []) (l.getD 1 []) = m at hm hst ⊢;by_cases h2 : m.2 = 0
 ·rcases hm h2 with h3 | h3
  ·rw [hst h2, Qc0 h3];simp only [ne_eq, not_true_eq_false, if_false, h3];split
   ·rfl
   ·exact Qc0 h3
  ·simp only [Yg, h2, h3, ne_eq, not_true_eq_false, if_false];simp
 ·simp only [Yg, h2, ne_eq, not_false_eq_true, if_true]
theorem Qgd (xs axes : List Int) : ∀ i, i ≤ xs.length → ∀ d ∈ Xp xs axes i, d ∈ xs
 | 0, _ => by simp [Xp]
 | i + 1, h => by
  intro d hd;simp only [Xp, List.mem_append] at hd;rcases hd with hd | hd
  ·exact Qgd xs axes i (by omega) d hd
  ·split at hd
   ·simp at hd
   ·simp only [List.mem_cons, List.not_mem_nil, or_false] at hd;subst hd; exact Qbz (by omega)
theorem Qe3 {xs : List Int} (axes : List Int) (hp : ∀ d ∈ xs, 1 ≤ d) : ∀ i, i ≤ xs.length → 1 ≤ Qu (Xp xs axes i) ∧ Qu (Xp xs axes i) ≤ Qu (xs.take i)
 | 0, _ => by simp [Xp, Qu]
 | i + 1, h => by
  obtain ⟨h1, h2⟩ := Qe3 axes hp i (by omega)
  have g := Kr hp (i := i) (by omega)
  rw [Ki (by omega)]
  simp only [Xp];split
  ·rw [List.append_nil];refine ⟨h1, ?_⟩
   have := Int.mul_le_mul_of_nonneg_left g (show 0 ≤ Qu (xs.take i) by omega)
   omega
  ·rw [Qek];refine ⟨?_, Int.mul_le_mul_of_nonneg_right h2 (by omega)⟩
   have := Int.mul_le_mul_of_nonneg_left g (show 0 ≤ Qu (Xp xs axes i) by omega)
   omega
theorem Qge {xs : List Int} (axes : List Int) (h : Xb xs = 0) : Xb (Xp xs axes xs.length) = 0 := by
 obtain ⟨h1, h2, h3⟩ := Xk h
 have hl := Kc xs axes xs.length
 have hm : ∀ d ∈ Xp xs axes xs.length, 1 ≤ d := fun d hd => h2 d (Qgd xs axes _ (Nat.le_refl _) d hd)
 have hp := (Qe3 axes h2 xs.length (Nat.le_refl _)).2
 rw [List.take_length] at hp;unfold Xb;rw [if_neg (by omega), if_pos (by simpa using hm), if_neg (by omega)]
theorem Ql2 {a : List Int} (hr : ∀ i, i < a.length → Qa6 a i) : ∀ d i, i + d < a.length → a.getD i 0 ≤ a.getD (i + d) 0
 | 0, _, _ => Int.le_refl _
 | d + 1, i, h => by
  have h1 := Ql2 hr d i (by omega)
  have h2 := (hr (i + d + 1) (by omega)).2.2 (by omega)
  rw [show i + d + 1 - 1 = i + d by omega] at h2
  rw [show i + (d + 1) = i + d + 1 by omega]; omega
theorem Qr0 {o : Int} {a : List Int} {l : List (List Int)} (ho : o = 14 ∨ o = 20) (h0 : Xb (l.getD 0 []) = 0) (hr : ∀ i, i < a.length → Qa6 a i) : Yg (Xq o a l) = (if axP a (l.getD 0 []).length = 0 then (Xp (l.getD 0 []) a (l.getD 0 []).length, 0) else ([], 13)) := by
 rw [Xq, if_neg (by omega), if_neg (by omega), if_neg (by omega), if_neg (by omega), if_neg (by omega), if_neg (by omega), if_pos (by omega)]
 by_cases hx : a.length > 0 ∧ a.getD (a.length - 1) 0 ≥ (l.getD 0 []).length
 ·rw [if_pos hx, if_neg, Qmb _ (by decide)]
  intro hax
  have hb : axB a (l.getD 0 []).length = true := by
   unfold axP at hax; split at hax
   ·assumption
   ·cases hax
  have := (Qc4 _ _).1 hb (a.length - 1) (by omega)
  unfold Qoo at this;omega
 ·rw [if_neg hx, if_pos, Qc0 (Qge a h0)];rw [axP, if_pos];refine (Qc4 _ _).2 fun i hi => ?_
  have h1 := hr i hi
  have h2 := Ql2 hr (a.length - 1 - i) i (by omega)
  rw [show i + (a.length - 1 - i) = a.length - 1 by omega] at h2
  unfold Qa6 at h1;unfold Qoo
  have h3 : a.getD (a.length - 1) 0 < (l.getD 0 []).length := by
   by_cases h : a.getD (a.length - 1) 0 < (l.getD 0 []).length
   ·exact h
   ·exact absurd ⟨by omega, by omega⟩ hx
  refine ⟨?_, by omega⟩
  split <;> omega
theorem Qj5 {l m : List Int} (h : l.Perm m) : Qu l = Qu m := by
 induction h with
 | nil => rfl
 | cons a _ ih => simp only [Qu, ih]
 | swap a b l => simp only [Qu]; rw [← Int.mul_assoc, ← Int.mul_assoc, Int.mul_comm a b]
 | trans _ _ h1 h2 => exact h1.trans h2
theorem Qf2 {x a : List Int} (hl : a.length = x.length) (hp : Yr a = true) : (tab (fun i => x.getD (a.getD i 0).toNat 0) a.length).Perm x := by
 have h1 := List.mergeSort_perm a (fun p q => decide (p ≤ q))
 have h2 := List.pairwise_mergeSort (le := fun p q : Int => decide (p ≤ q)) (by intro p q r; simp; omega) (by intro p q; simp; omega) a
 generalize a.mergeSort (fun p q => decide (p ≤ q)) = ys at h1 h2
 have hy := (Qck h1 (fun p q hpq hq => by
  rw [List.pairwise_iff_getElem] at h2
  have := h2 p q (by omega) hq hpq
  simpa [List.getD, hq, show p < ys.length by omega] using this)).1 hp
 have hyl := h1.length_eq
 have e1 : tab (fun i => x.getD (a.getD i 0).toNat 0) a.length = a.map fun d => x.getD d.toNat 0 := by
  refine Qbq (by simp [Xj]) fun j hj => ?_
  rw [Xj] at hj;rw [Qpk _ hj];simp [List.getD, hj]
 have e2 : (ys.map fun d => x.getD d.toNat 0) = x := by
  refine Qbq (by simp; omega) fun j hj => ?_
  have hj' : j < ys.length := by simpa using hj
  have := hy j hj'
  simp only [List.getD, List.getElem?_eq_getElem hj', Option.getD_some] at this;simp [List.getD, hj', this]
 rw [e1];exact ((h1.map _).symm).trans (by rw [e2])
theorem Qpd {o : Int} {a : List Int} {l : List (List Int)} (ho : o = 11) (h0 : Xb (l.getD 0 []) = 0) (hp : Yr a = true) : Yg (Xq o a l) = (if a.length = (l.getD 0 []).length then (tab (fun i => (l.getD 0 []).getD (a.getD i 0).toNat 0) a.length, 0) else ([], 13)) := by
 rw [Xq, if_neg (by omega), if_neg (by omega), if_neg (by omega), if_pos ho]
 by_cases hl : a.length = (l.getD 0 []).length
 ·rw [if_pos hl, Qc0];obtain ⟨h1, h2, h3⟩ := Xk h0
  have hpm := Qf2 hl hp
  have hm : ∀ d ∈ tab (fun i => (l.getD 0 []).getD (a.getD i 0).toNat 0) a.length, 1 ≤ d := fun d hd => h2 d (hpm.mem_iff.1 hd)
  unfold Xb;rw [if_neg (by rw [Xj]; omega), if_pos (by simpa using hm), if_neg (by rw [Qj5 hpm]; omega)]
 ·rw [if_neg hl, Qmb _ (by decide)]
theorem Qea {s : List Int} (h : Xb s = 0) : Yg (s, 0) = (s, 0) := by simp [Yg, h]
theorem Qn5 (x y : List Int) : (Yg (Yx x y)).1.length ≤ 2 := by unfold Yg Yx; grind
theorem Qvd {a : List Int} (h : Att a) (i : Nat) : -2147483648 ≤ a.getD i 0 ∧ a.getD i 0 ≤ 2147483648 := by
 by_cases hi : i < a.length
 ·have := h i hi; omega
 ·rw [show a.getD i 0 = 0 by simp [List.getD, List.getElem?_eq_none (Nat.le_of_not_lt hi)]]; omega
theorem Qd9 {H : Qa} {u : V} {s : List Int} (b : Bool) (e : Sh) (he : e = if b = true then (s, 0) else ([], 13)) (hO : Bv.Own 3 1 H u s.length (ints s)) : ∀ v H', H' = H ∧ v = (if b = true then V.tup [u, .int .i64 0] else .tup [.nil, .int .i64 13]) → ∃ w z, v = .tup [w, .int .i64 z] ∧ Bv.Own 3 1 H w e.1.length (ints e.1) ∧ z = e.2 := by
 rintro v H' ⟨rfl, rfl⟩;cases b with
 | true => exact ⟨u, 0, rfl, by rw [he]; exact hO, by rw [he]; rfl⟩
 | false => exact ⟨.nil, 13, rfl, by rw [he]; exact .nil _ _ _, by rw [he]; rfl⟩
theorem Qk3 (o : Int) (a : List Int) (l : List (List Int)) (h : ComeOK o a l) (ha : a.length ≤ 1000000) (hm : ∀ k, k < l.length → Xb (l.getD k []) = 0) (hperm : o = 11 → Yr a = true) (hrise : (o = 14 ∨ o = 20) → ∀ i, i < a.length → Qa6 a i) : Fc C 24 [.int .i64 o, .sl a.length (ints a), .sl l.length (Qz l)] [] (fun v H => ROw v H (Yg (Xq o a l))) := by
 obtain ⟨c1, c2, c3, c4, c5, c6, c7, c8, c9, c10⟩ := h
 have r0 := c5 0 c1
 have mat : ∀ k, k < l.length → (l.getD k []).length ≤ 17592186044416 := fun k hk => by have := c5 k hk; omega
 have clo0 : ∀ s : List Int, Bv.clo (.sl s.length (ints s)) = true := fun s => by simp [clo, Qb]
 refine Fc.keep (Fc.bodyT Qi Try.func24 w24 rfl Try.ntmps24 Try.results24 (zLe rfl) ?_)
 (apply Zo;repeat' ((with_reducible first|apply Zk|(first|apply Za|apply Zb|apply Zc|apply Zd)<;>intro h)<;>try simp -implicitDefEqProofs (maxSteps:=9^7) (disch:=first|omega|(simp only [Qc];omega)) only [go_sem]))
 refine Fc.own (Qd1 (l.getD 0 []) (by omega)) (by simp [Qm, clo, Qb]) (fun g => Qk g _) fun ux X1 hx => ?_
 generalize ([] ++ X1 : Qa) = G1 at hx ⊢
 (apply Zo;repeat' ((with_reducible first|apply Zk|(first|apply Za|apply Zb|apply Zc|apply Zd)<;>intro h)<;>try simp -implicitDefEqProofs (maxSteps:=9^7) (disch:=first|omega|(simp only [Qc];omega)) only [go_sem]))
 refine Fc.own (Qd2 a (by omega)) (by simp [Qm, clo, Qb]) (fun g => Qk g _) fun ut X2 ht => ?_
 have hx := hx.keep X2
 generalize (G1 ++ X2 : Qa) = G at hx ht ⊢
 have bx := hx.bor' (Qb _)
 have bt := ht.bor' (Qb _)
 have hlx := hx.lenw (C.ty 28)
 (apply Zo;repeat' ((with_reducible first|apply Zk|(first|apply Za|apply Zb|apply Zc|apply Zd)<;>intro h)<;>try simp -implicitDefEqProofs (maxSteps:=9^7) (disch:=first|omega|(simp only [Qc];omega)) only [go_sem]))
 iterate 4
  ·refine Fc.pureL (Qgn (l.getD 0 []) (l.getD 1 []) (mat 0 c1)) ⟨bx, .self (clo0 _), trivial⟩ (fun _ => rfl) rfl ?_
   (apply Zo;repeat' ((with_reducible first|apply Zk|(first|apply Za|apply Zb|apply Zc|apply Zd)<;>intro h)<;>try simp -implicitDefEqProofs (maxSteps:=9^7) (disch:=first|omega|(simp only [Qc];omega)) only [go_sem]))
   have hc : Yg (Xq o a l) = (if decide (l.getD 0 [] = l.getD 1 []) = true then (l.getD 0 [], 0) else ([], 13)) := by
    rw [Xq, if_pos (by omega)]
    by_cases he : l.getD 0 [] = l.getD 1 []
    ·rw [if_pos he, if_pos (by simpa using he), Qea (hm 0 c1)]
    ·rw [if_neg he, if_neg (by simpa using he)]; rfl
   refine Fc.mono (Qby _ ux G) fun v H' hv => ?_
   obtain ⟨w, z, rfl, hO, rfl⟩ := Qd9 _ _ hc hx v H' hv;obtain ⟨rfl, _⟩ := hv
   (apply Zo;repeat' ((with_reducible first|apply Zk|(first|apply Za|apply Zb|apply Zc|apply Zd)<;>intro h)<;>try simp -implicitDefEqProofs (maxSteps:=9^7) (disch:=first|omega|(simp only [Qc];omega)) only [go_sem]))
   exact Qae _ hO
 ·have l2 := c3 (by omega)
  have l3 := c4 (by omega)
  refine Fc.ow (Qba (l.getD 0 []) (l.getD 1 []) (mat 0 c1) (mat 1 l2)) ⟨bx, .self (clo0 _), trivial⟩ fun um X3 hom => ?_
  have bx := (hx.keep X3).bor' (Qb _)
  have bm := hom.bor' (Qb _)
  have hc := Qrr (o := o) (a := a) (l := l) (by assumption) (hm 0 c1) (hm 1 l2)
  have hml : (Yg (Yx (l.getD 0 []) (l.getD 1 []))).1.length ≤ 2 := Qn5 _ _
  have hst : (Yg (Yx (l.getD 0 []) (l.getD 1 []))).2 = 0 → Yg (Yx (l.getD 0 []) (l.getD 1 [])) = ((Yg (Yx (l.getD 0 []) (l.getD 1 []))).1, 0) := fun h => Prod.ext rfl h
  have hsp := Qba (l.getD 0 []) (l.getD 1 []) (mat 0 c1) (mat 1 l2)
  generalize (G ++ X3 : Qa) = G3 at bx bm hom ⊢;generalize hM : Yg (Yx (l.getD 0 []) (l.getD 1 [])) = m at hc hml hst hom bm hsp ⊢
  (apply Zo;repeat' ((with_reducible first|apply Zk|(first|apply Za|apply Zb|apply Zc|apply Zd)<;>intro h)<;>try simp -implicitDefEqProofs (maxSteps:=9^7) (disch:=first|omega|(simp only [Qc];omega)) only [go_sem]))
  ·refine Fc.pureL (Qgp (l.getD 2 []) m.1 (mat 2 l3) (by omega)) ⟨.self (clo0 _), bm, trivial⟩ (fun _ => rfl) rfl ?_
   (apply Zo;repeat' ((with_reducible first|apply Zk|(first|apply Za|apply Zb|apply Zc|apply Zd)<;>intro h)<;>try simp -implicitDefEqProofs (maxSteps:=9^7) (disch:=first|omega|(simp only [Qc];omega)) only [go_sem]))
   ·rw [hc, if_neg (by omega), if_pos (by assumption)]; exact Kk _
   ·refine Fc.ow hsp ⟨bx, .self (clo0 _), trivial⟩ fun u4 X4 ho4 => ?_
    (apply Zo;repeat' ((with_reducible first|apply Zk|(first|apply Za|apply Zb|apply Zc|apply Zd)<;>intro h)<;>try simp -implicitDefEqProofs (maxSteps:=9^7) (disch:=first|omega|(simp only [Qc];omega)) only [go_sem]))
    rw [hc, if_neg (by omega), if_neg (by omega)]
    exact Qae _ ho4
  ·rw [hc, if_pos (by assumption)]; exact Kk _
 ·have l2 := c3 (by omega)
  refine Fc.ow (Qba (l.getD 0 []) (l.getD 1 []) (mat 0 c1) (mat 1 l2)) ⟨bx, .self (clo0 _), trivial⟩ fun um X3 hom => ?_
  (apply Zo;repeat' ((with_reducible first|apply Zk|(first|apply Za|apply Zb|apply Zc|apply Zd)<;>intro h)<;>try simp -implicitDefEqProofs (maxSteps:=9^7) (disch:=first|omega|(simp only [Qc];omega)) only [go_sem]))
  rw [Xq, if_neg (by omega), if_pos (by omega)]
  exact Qae _ hom
 ·have hc := Qpd (o := o) (a := a) (l := l) (by assumption) (hm 0 c1) (hperm (by assumption))
  refine Fc.ow (Qhb (l.getD 0 []) a (mat 0 c1) (by omega) (fun _ => c9 (by assumption))) ⟨bx, .self (clo0 _), trivial⟩ fun um X3 hom => ?_
  rw [← hc] at hom ⊢
  (apply Zo;repeat' ((with_reducible first|apply Zk|(first|apply Za|apply Zb|apply Zc|apply Zd)<;>intro h)<;>try simp -implicitDefEqProofs (maxSteps:=9^7) (disch:=first|omega|(simp only [Qc];omega)) only [go_sem]))
  exact Qae _ hom
 ·refine Fc.pureL (Qfi (l.getD 0 []) (mat 0 c1)) ⟨bx, trivial⟩ (fun _ => rfl) rfl ?_
  (apply Zo;repeat' ((with_reducible first|apply Zk|(first|apply Za|apply Zb|apply Zc|apply Zd)<;>intro h)<;>try simp -implicitDefEqProofs (maxSteps:=9^7) (disch:=first|omega|(simp only [Qc];omega)) only [go_sem]))
  refine Fc.pureL (Qfi a (by omega)) ⟨bt, trivial⟩ (fun _ => rfl) rfl ?_
  (apply Zo;repeat' ((with_reducible first|apply Zk|(first|apply Za|apply Zb|apply Zc|apply Zd)<;>intro h)<;>try simp -implicitDefEqProofs (maxSteps:=9^7) (disch:=first|omega|(simp only [Qc];omega)) only [go_sem]))
  have hc : Yg (Xq o a l) = (if (Yu (l.getD 0 []) == Yu a) = true then (a, 0) else ([], 13)) := by
   rw [Xq, if_neg (by omega), if_neg (by omega), if_neg (by omega), if_neg (by omega), if_pos (by omega)]
   by_cases he : Yu a = Yu (l.getD 0 [])
   ·have hma : Xb a = 0 := by
     have h1 : Yu (l.getD 0 []) = Qu (l.getD 0 []) := by rw [Yu, if_pos (hm 0 c1)]
     have h2 := Jf (Xk (hm 0 c1)).2.1
     by_cases hx : Xb a = 0
     ·exact hx
     ·have : Yu a = 0 := by rw [Yu, if_neg hx]
      omega
    rw [if_pos he, if_pos (by rw [beq_iff_eq]; omega), Qea hma]
   ·rw [if_neg he, if_neg (by rw [beq_iff_eq]; omega)]; rfl
  refine Fc.mono (Qby _ ut G) fun v H' hv => ?_
  obtain ⟨w, z, rfl, hO, rfl⟩ := Qd9 _ _ hc ht v H' hv;obtain ⟨rfl, _⟩ := hv
  (apply Zo;repeat' ((with_reducible first|apply Zk|(first|apply Za|apply Zb|apply Zc|apply Zd)<;>intro h)<;>try simp -implicitDefEqProofs (maxSteps:=9^7) (disch:=first|omega|(simp only [Qc];omega)) only [go_sem]))
  exact Qae _ hO
 ·refine Fc.pureL (Qgp (l.getD 0 []) a (mat 0 c1) (by omega)) ⟨bx, bt, trivial⟩ (fun _ => rfl) rfl ?_
  (apply Zo;repeat' ((with_reducible first|apply Zk|(first|apply Za|apply Zb|apply Zc|apply Zd)<;>intro h)<;>try simp -implicitDefEqProofs (maxSteps:=9^7) (disch:=first|omega|(simp only [Qc];omega)) only [go_sem]))
  have hc : Yg (Xq o a l) = (if (Qax (l.getD 0 []) a == 0) = true then (a, 0) else ([], 13)) := by
   rw [Xq, if_neg (by omega), if_neg (by omega), if_neg (by omega), if_neg (by omega), if_neg (by omega), if_pos (by omega)]
   by_cases he : Qax (l.getD 0 []) a = 0
   ·have hma : Xb a = 0 := by
     unfold Qax at he; rw [if_pos (hm 0 c1)] at he;split at he
     ·assumption
     ·assumption
    rw [if_pos he, if_pos (by rw [beq_iff_eq]; omega), Qea hma]
   ·rw [if_neg he, if_neg (by rw [beq_iff_eq]; omega)]; rfl
  refine Fc.mono (Qby _ ut G) fun v H' hv => ?_
  obtain ⟨w, z, rfl, hO, rfl⟩ := Qd9 _ _ hc ht v H' hv;obtain ⟨rfl, _⟩ := hv
  (apply Zo;repeat' ((with_reducible first|apply Zk|(first|apply Za|apply Zb|apply Zc|apply Zd)<;>intro h)<;>try simp -implicitDefEqProofs (maxSteps:=9^7) (disch:=first|omega|(simp only [Qc];omega)) only [go_sem]))
  exact Qae _ hO
 iterate 2
  ·have hc := Qr0 (o := o) (a := a) (l := l) (by omega) (hm 0 c1) (hrise (by omega))
   (apply Zo;repeat' ((with_reducible first|apply Zk|(first|apply Za|apply Zb|apply Zc|apply Zd)<;>intro h)<;>try simp -implicitDefEqProofs (maxSteps:=9^7) (disch:=first|omega|(simp only [Qc];omega)) only [go_sem, hlx]))
   refine Fc.pure (Qgq a _ (by omega)) (by simp [go_sem, Qm, clo, Qb, Qg]) (by intro g; simp only [go_sem, ren, Qf]) ?_
   (apply Zo;repeat' ((with_reducible first|apply Zk|(first|apply Za|apply Zb|apply Zc|apply Zd)<;>intro h)<;>try simp -implicitDefEqProofs (maxSteps:=9^7) (disch:=first|omega|(simp only [Qc];omega)) only [go_sem]))
   refine Fc.ownL (Qdt (l.getD 0 []) a (mat 0 c1) (by omega)) ⟨bx, .self (clo0 _), trivial⟩ (fun g => Qk g _) (Xe _) fun ud X3 hod => ?_
   generalize (G ++ X3 : Qa) = G3 at hod ⊢
   (apply Zo;repeat' ((with_reducible first|apply Zk|(first|apply Za|apply Zb|apply Zc|apply Zd)<;>intro h)<;>try simp -implicitDefEqProofs (maxSteps:=9^7) (disch:=first|omega|(simp only [Qc];omega)) only [go_sem]))
   have hc : Yg (Xq o a l) = (if (axP a (l.getD 0 []).length == 0) = true then (Xp (l.getD 0 []) a (l.getD 0 []).length, 0) else ([], 13)) := by
    rw [hc];by_cases he : axP a (l.getD 0 []).length = 0
    ·rw [if_pos he, if_pos (by rw [beq_iff_eq]; exact he)]
    ·rw [if_neg he, if_neg (by rw [beq_iff_eq]; exact he)]
   refine Fc.mono (Qby _ ud G3) fun v H' hv => ?_
   obtain ⟨w, z, rfl, hO, rfl⟩ := Qd9 _ _ hc hod v H' hv;obtain ⟨rfl, _⟩ := hv
   (apply Zo;repeat' ((with_reducible first|apply Zk|(first|apply Za|apply Zb|apply Zc|apply Zd)<;>intro h)<;>try simp -implicitDefEqProofs (maxSteps:=9^7) (disch:=first|omega|(simp only [Qc];omega)) only [go_sem]))
   exact Qae _ hO
 ·have hc : Yg (Xq o a l) = (if a.length = 2 * (l.getD 0 []).length ∧ (∀ i, i < (l.getD 0 []).length → decide (a.getD (2 * i + 1) 0 ≤ (l.getD 0 []).getD i 0) = true) then Yg (tab (Qtq a) (l.getD 0 []).length, 0) else ([], 13)) := by
   rw [Xq, if_neg (by omega), if_neg (by omega), if_neg (by omega), if_neg (by omega), if_neg (by omega), if_neg (by omega), if_neg (by omega), if_pos (by omega), Qwa]
   simp only [Qvm, List.all_eq_true, List.mem_range];split <;> rfl
  refine Fc.ow (Qcj 45 (Qtq a) (fun i => decide (a.getD (2 * i + 1) 0 ≤ (l.getD 0 []).getD i 0)) (l.getD 0 []) a (by omega) (by omega) (fun i hi => Qoc _ _ _ (Qvd c8 _) (Qvd c8 _))) ⟨bx, .self (clo0 _), .self rfl, trivial⟩ fun um X3 hom => ?_
  rw [← hc] at hom ⊢
  (apply Zo;repeat' ((with_reducible first|apply Zk|(first|apply Za|apply Zb|apply Zc|apply Zd)<;>intro h)<;>try simp -implicitDefEqProofs (maxSteps:=9^7) (disch:=first|omega|(simp only [Qc];omega)) only [go_sem]))
  exact Qae _ hom
 ·have hc : Yg (Xq o a l) = (if a.length = 2 * (l.getD 0 []).length ∧ (∀ i, i < (l.getD 0 []).length → (fun _ => true) i = true) then Yg (tab (fun i => (l.getD 0 []).getD i 0 + a.getD (2 * i) 0 + a.getD (2 * i + 1) 0) (l.getD 0 []).length, 0) else ([], 13)) := by
   rw [Xq, if_neg (by omega), if_neg (by omega), if_neg (by omega), if_neg (by omega), if_neg (by omega), if_neg (by omega), if_neg (by omega), if_neg (by omega), if_pos (by omega), Qw6]
   have : Qt0 (l.getD 0 []) a = fun i => (l.getD 0 []).getD i 0 + a.getD (2 * i) 0 + a.getD (2 * i + 1) 0 := by funext i; simp only [Qt0]; omega
   rw [this];simp only [implies_true, and_true];split <;> rfl
  refine Fc.ow (Qcj 46 (fun i => (l.getD 0 []).getD i 0 + a.getD (2 * i) 0 + a.getD (2 * i + 1) 0) (fun _ => true) (l.getD 0 []) a (by omega) (by omega) (fun i hi => Qn7 _ _ _ (by have := c6 0 c1 i; omega) (Qvd c8 _) (Qvd c8 _))) ⟨bx, .self (clo0 _), .self rfl, trivial⟩ fun um X3 hom => ?_
  rw [← hc] at hom ⊢
  (apply Zo;repeat' ((with_reducible first|apply Zk|(first|apply Za|apply Zb|apply Zc|apply Zd)<;>intro h)<;>try simp -implicitDefEqProofs (maxSteps:=9^7) (disch:=first|omega|(simp only [Qc];omega)) only [go_sem]))
  exact Qae _ hom
 ·have hax := c10 (by omega)
  have hx : a.getD 0 0 = ((a.getD 0 0).toNat : Int) := by omega
  have hc : Yg (Xq o a l) = Yg (Qdz (a.getD 0 0).toNat l) := by
   rw [Xq, if_neg (by omega), if_neg (by omega), if_neg (by omega), if_neg (by omega), if_neg (by omega), if_neg (by omega), if_neg (by omega), if_neg (by omega), if_neg (by omega), if_pos (by omega)]
  have hj := Qix (a.getD 0 0).toNat l (by omega) c1 (by omega) (fun k hk => by have := c5 k hk; omega) c6
  rw [← hx] at hj
  (apply Zo;repeat' ((with_reducible first|apply Zk|(first|apply Za|apply Zb|apply Zc|apply Zd)<;>intro h)<;>try simp -implicitDefEqProofs (maxSteps:=9^7) (disch:=first|omega|(simp only [Qc];omega)) only [go_sem]))
  refine Fc.ow hj ⟨.self rfl, .self (by simp [clo, Qg]), trivial⟩ fun um X3 hom => ?_
  rw [← hc] at hom ⊢
  (apply Zo;repeat' ((with_reducible first|apply Zk|(first|apply Za|apply Zb|apply Zc|apply Zd)<;>intro h)<;>try simp -implicitDefEqProofs (maxSteps:=9^7) (disch:=first|omega|(simp only [Qc];omega)) only [go_sem]))
  exact Qae _ hom
 ·have hc : Xq o a l = (l.getD 0 [], 0) := by
   rw [Xq, if_neg (by omega), if_neg (by omega), if_neg (by omega), if_neg (by omega), if_neg (by omega), if_neg (by omega), if_neg (by omega), if_neg (by omega), if_neg (by omega), if_neg (by omega)]
  rw [hc, Qea (hm 0 c1)]; exact Qae _ hx
structure Rv (xs ys : List Int) (i : Nat) : Prop where
 len : ys.length = xs.length
 at_ : ∀ k, k < xs.length → ys.getD k 0 = if k < i ∨ xs.length - 1 - k < i then xs.getD (xs.length - 1 - k) 0 else xs.getD k 0
theorem Rv.zero (xs : List Int) : Rv xs xs 0 := ⟨rfl, fun k hk => by rw [if_neg (by omega)]⟩
theorem Rv.step {xs ys : List Int} {i : Nat} (h : Rv xs ys i) (hi : 2 * i + 1 < xs.length) : Rv xs ((ys.set i (ys.getD (xs.length - 1 - i) 0)).set (xs.length - 1 - i) (ys.getD i 0)) (i + 1) := by
 have hl := h.len
 refine ⟨by simp [hl], fun k hk => ?_⟩
 have a1 := h.at_ i (by omega)
 have a2 := h.at_ (xs.length - 1 - i) (by omega)
 have a3 := h.at_ k hk
 rw [if_neg (by omega)] at a1 a2
 by_cases e1 : k = xs.length - 1 - i
 ·subst e1;rw [Go.Bv.getD_set_eq _ (by simp; omega), a1, if_pos (by omega)]
  congr 1; omega
 ·rw [Go.Bv.getD_set_ne _ e1];by_cases e2 : k = i
  ·subst e2;rw [Go.Bv.getD_set_eq _ (by omega), a2, if_pos (by omega)]
  ·rw [Go.Bv.getD_set_ne _ e2, a3];by_cases e3 : k < i ∨ xs.length - 1 - k < i
   ·rw [if_pos e3, if_pos (by omega)]
   ·rw [if_neg e3, if_neg (by omega)]
theorem Rv.done {xs ys : List Int} {i : Nat} (h : Rv xs ys i) (hi : ¬ 2 * i + 1 < xs.length) : ys = xs.reverse := by
 refine Qbq (by rw [h.len]; simp) fun k hk => ?_
 rw [h.len] at hk;rw [h.at_ k hk]
 have e : xs.reverse.getD k 0 = xs.getD (xs.length - 1 - k) 0 := by simp [List.getD, List.getElem?_reverse hk]
 rw [e];split
 ·rfl
 ·congr 1; omega
theorem Qhz (r : Nat) (H0 : Qa) (xs : List Int) (hr : Qd H0 r = some ⟨3, 1, ints xs⟩) (hn : xs.length ≤ 1000000) : Fc C 48 [.ref r 0 xs.length] H0 (fun v H' => v = .tup [] ∧ H' = H0.set r (some ⟨3, 1, ints xs.reverse⟩)) := by
 have hset : ∀ row, Qd (H0.set r (some row)) r = some row := fun row => Xc hr
 have hsame := Qib hr
 refine Fc.bodyT Qi Try.func48 w48 rfl Try.ntmps48 Try.results48 (zLe rfl) ?_
 (apply Zo;repeat' ((with_reducible first|apply Zk|(first|apply Za|apply Zb|apply Zc|apply Zd)<;>intro h)<;>try simp -implicitDefEqProofs (maxSteps:=9^7) (disch:=first|omega|(simp only [Qc];omega)) only [go_sem]))
 refine Qn (fun n ts H => ∃ (i : Nat) (ys : List Int), (2 * i ≤ xs.length + 1) ∧ (Rv xs ys i) ∧ (n = xs.length - i) ∧ (H = H0.set r (some ⟨3, 1, ints ys⟩)) ∧ ts.length = 28 ∧ nth ts 0 = .ref r 0 xs.length ∧ nth ts 2 = .int .i64 i ∧ nth ts 3 = .int .i64 ((xs.length : Int) - 1 - i)) ?_ (n := xs.length) ?_
 ·skip
  rintro n ts H ⟨i, ys, hi, hR, hn, hH, hL, hs0, hs2, hs3⟩;refine Xt [(0, .ref r 0 xs.length), (2, .int .i64 i), (3, .int .i64 ((xs.length : Int) - 1 - i))] hL (by simp only [zFm, hs0, hs2, hs3, true_and]; exact zNm) ?_
  clear hL hs0 hs2 hs3 ts
  refine Xm Qi ?_;subst hn hH
  have hlz := hR.len
  by_cases hlt : 2 * i + 1 < xs.length
  ·have hj : ((xs.length : Int) - 1 - i).toNat = xs.length - 1 - i := by omega
   (apply Zo;repeat' ((with_reducible first|apply Zk|(first|apply Za|apply Zb|apply Zc|apply Zd)<;>intro h)<;>try simp -implicitDefEqProofs (maxSteps:=9^7) (disch:=first|omega|(simp only [Qc];omega)) only [go_sem, hset, hj]))
   exact ⟨xs.length - (i + 1), by omega, i + 1, _, by omega, hR.step hlt, rfl, rfl, rfl, by congr 1; omega⟩
  ·skip
   (apply Zo;repeat' ((with_reducible first|apply Zk|(first|apply Za|apply Zb|apply Zc|apply Zd)<;>intro h)<;>try simp -implicitDefEqProofs (maxSteps:=9^7) (disch:=first|omega|(simp only [Qc];omega)) only [go_sem, hset]))
   rw [hR.done hlt]
 ·exact ⟨0, xs, by omega, .zero xs, rfl, hsame.symm, rfl, rfl, rfl, by simp -implicitDefEqProofs (maxSteps:=9^7) (disch := first | omega | (simp only [Qc]; omega)) only [go_sem]; congr 1; omega⟩
theorem Qjs : Pu C 48 [.nil] (.tup []) := by
 refine Fc.keep (Fc.bodyT Qi Try.func48 w48 rfl Try.ntmps48 Try.results48 (zLe rfl) ?_)
 (apply Zo;repeat' ((with_reducible first|apply Zk|(first|apply Za|apply Zb|apply Zc|apply Zd)<;>intro h)<;>try simp -implicitDefEqProofs (maxSteps:=9^7) (disch:=first|omega|(simp only [Qc];omega)) only [go_sem]))
 refine Qb2 ?_;refine Xm Qi ?_
 (apply Zo;repeat' ((with_reducible first|apply Zk|(first|apply Za|apply Zb|apply Zc|apply Zd)<;>intro h)<;>try simp -implicitDefEqProofs (maxSteps:=9^7) (disch:=first|omega|(simp only [Qc];omega)) only [go_sem]))
 (refine Ql (by intro g; simp only [go_sem, ren, Qf]) ?_)
 rfl
theorem Qfz (v : Int) (d : Nd) (r : Nat) (hr : r ≤ 1000000) (ha : d.args.length ≤ 17592186044416) (hl : d.attrs.length ≤ 1000000) : Fc C 25 [.int .i64 v, .agg (ndC d), .sl 1 (ints [(r : Int)])] [] (fun v' H => Ret 3 1 H v' (Zz v d r).length (ints (Zz v d r))) := by
 have hs := Qbi d.op
 refine Fc.keep (Fc.bodyT Qi Try.func25 w25 rfl Try.ntmps25 Try.results25 (zLe rfl) ?_)
 (apply Zo;repeat' ((with_reducible first|apply Zk|(first|apply Za|apply Zb|apply Zc|apply Zd)<;>intro h)<;>try simp -implicitDefEqProofs (maxSteps:=9^7) (disch:=first|omega|(simp only [Qc];omega)) only [go_sem]))
 refine Fc.own (Qd2 d.attrs (by omega)) (by simp [Qm, clo, Qb]) (fun g => Qk g _) fun u X hO => ?_
 (apply Zo;repeat' ((with_reducible first|apply Zk|(first|apply Za|apply Zb|apply Zc|apply Zd)<;>intro h)<;>try simp -implicitDefEqProofs (maxSteps:=9^7) (disch:=first|omega|(simp only [Qc];omega)) only [go_sem]))
 refine Fc.pure (Ql7 d.op) rfl (fun g => Zv g _ (by simp only [ofV, clo, Qm, Qbs, Bool.and_self])) ?_
 rw [ofV]
 (apply Zo;repeat' ((with_reducible first|apply Zk|(first|apply Za|apply Zb|apply Zc|apply Zd)<;>intro h)<;>try simp -implicitDefEqProofs (maxSteps:=9^7) (disch:=first|omega|(simp only [Qc];omega)) only [go_sem, Yj, hs]))
 refine Fc.pure (Qd3 v d ha (by omega)) (by simp [go_sem, Qm, clo, Qb, Qg]) (by intro g; simp only [go_sem, ren, Qf]) ?_
 have h0 : Qd (some ⟨25, 3, [.int .i64 d.op, .sl d.args.length (ints d.args), .sl d.attrs.length (ints d.attrs)]⟩ :: (X ++ [some ⟨57, 8, Js (Xo d.op)⟩])) 0 = some ⟨25, 3, [.int .i64 d.op, .sl d.args.length (ints d.args), .sl d.attrs.length (ints d.attrs)]⟩ := rfl
 have h1 : Qd (some ⟨25, 3, [.int .i64 d.op, .sl d.args.length (ints d.args), .sl d.attrs.length (ints d.attrs)]⟩ :: (X ++ [some ⟨57, 8, Js (Xo d.op)⟩])) (X.length + 1) = some ⟨57, 8, Js (Xo d.op)⟩ := by simp [Qd]
 have hO : Bv.Own 3 1 (some ⟨25, 3, [.int .i64 d.op, .sl d.args.length (ints d.args), .sl d.attrs.length (ints d.attrs)]⟩ :: (X ++ [some ⟨57, 8, Js (Xo d.op)⟩])) u d.attrs.length (ints d.attrs) := hO.keep _
 simp only [Yj] at h0 h1 hO;generalize (some ⟨25, 3, [.int .i64 d.op, .sl d.args.length (ints d.args), .sl d.attrs.length (ints d.attrs)]⟩ :: (X ++ [some _]) : Qa) = G at h0 h1 hO ⊢
 have hnone : Yl v d = 0 → (Qag v d.op = true ↔ v ≤ (Xo d.op).none) := fun h => by
  obtain ⟨g1, g2, _⟩ := Qai h;exact ((Qcl d.op (Qk1 g2)).1 v g1.1 g1.2).2
 have hlu := hO.lenw (C.ty 23)
 (apply Zo;repeat' ((with_reducible first|apply Zk|(first|apply Za|apply Zb|apply Zc|apply Zd)<;>intro h)<;>try simp -implicitDefEqProofs (maxSteps:=9^7) (disch:=first|omega|(simp only [Qc];omega)) only [go_sem, Yj, hs, hlu, h0, h1]))
 ·rw [Zz, if_pos (.inl (by assumption))]; exact hO.ret (fun g => Qk g _) fun v H h => h
 ·rw [Zz, if_pos (.inr (.inl (by omega)))]; exact hO.ret (fun g => Qk g _) fun v H h => h
 ·have hnn := hnone (by assumption)
  have : Qag v d.op = false := by
   cases hb : Qag v d.op with
   | false => rfl
   | true => have := hnn.1 hb; omega
  rw [Zz, if_pos (.inr (.inr this))]; exact hO.ret (fun g => Qk g _) fun v H h => h
 all_goals
  have hnn := (hnone (by assumption)).2 (by omega)
  have hal : d.attrs = [] := List.eq_nil_of_length_eq_zero (by omega)
  have main : Zz v d r = if d.op = 6 then [2] else if d.op = 17 then [0] else if d.op = 11 then Qbc (if r > 4 then 0 else r) else up (if r > 4 then 0 else r) := by
   rw [Zz, if_neg (by rw [hnn, hal]; simp [*])]
  rw [hal] at hO;rw [main]
 iterate 2
  ·refine Qal (xs := []) hO rfl ⟨by decide, by decide⟩ (by simp) fun v' H' hO' hF => ?_
   have k0 := Jk hO hF h0 (by decide)
   (apply Zo;repeat' ((with_reducible first|apply Zk|(first|apply Za|apply Zb|apply Zc|apply Zd)<;>intro h)<;>try simp -implicitDefEqProofs (maxSteps:=9^7) (disch:=first|omega|(simp only [Qc];omega)) only [go_sem, k0]))
   rw [if_pos (by assumption)]
   exact hO'.ret (fun g => Qk g _) fun v H h => h
  ·refine Qal (xs := []) hO rfl ⟨by decide, by decide⟩ (by simp) fun v' H' hO' hF => ?_
   have k0 := Jk hO hF h0 (by decide)
   (apply Zo;repeat' ((with_reducible first|apply Zk|(first|apply Za|apply Zb|apply Zc|apply Zd)<;>intro h)<;>try simp -implicitDefEqProofs (maxSteps:=9^7) (disch:=first|omega|(simp only [Qc];omega)) only [go_sem, k0]))
   rw [if_neg (by assumption), if_pos (by assumption)]
   exact hO'.ret (fun g => Qk g _) fun v H h => h
  ·rw [if_neg (by assumption), if_neg (by assumption)]
   obtain ⟨R, hR, hRe⟩ : ∃ R : Nat, R ≤ 4 ∧ (if r > 4 then 0 else r) = R := ⟨_, by split <;> omega, rfl⟩
   rw [hRe]
   have hgr : [(r : Int)].getD 0 0 = r := rfl
   refine Qn (fun n ts H => ∃ (j : Nat) (u : V), (j ≤ R) ∧ (n = R - j) ∧ (Qd H 0 = some ⟨25, 3, [.int .i64 d.op, .sl d.args.length (ints d.args), .sl d.attrs.length (ints d.attrs)]⟩) ∧ (Bv.Own 3 1 H u (up j).length (ints (up j))) ∧ ts.length = 82 ∧ nth ts 4 = .ptr 0 0 ∧ nth ts 6 = .nil ∧ nth ts 7 = u ∧ nth ts 57 = .int .i64 R ∧ nth ts 58 = .int .i64 j) ?_ (n := R) ?_
   ·skip
    rintro n ts H ⟨j, u, hj, hn, hg, hu, hL, hs4, hs6, hs7, hs57, hs58⟩;refine Xt [(4, .ptr 0 0), (6, .nil), (7, u), (57, .int .i64 R), (58, .int .i64 j)] hL (by simp only [zFm, hs4, hs6, hs7, hs57, hs58, true_and]; exact zNm) ?_
    clear hL hs4 hs6 hs7 hs57 hs58 ts
    refine Xm Qi ?_;subst hn;by_cases hlt : j < R
    ·skip
     (apply Zo;repeat' ((with_reducible first|apply Zk|(first|apply Za|apply Zb|apply Zc|apply Zd)<;>intro h)<;>try simp -implicitDefEqProofs (maxSteps:=9^7) (disch:=first|omega|(simp only [Qc];omega)) only [go_sem, hg]))
     refine Qal hu rfl ⟨by decide, by decide⟩ (by rw [Zt]; omega) fun v' H' hO' hF => ?_
     have k0 := Jk hu hF hg (by decide)
     (apply Zo;repeat' ((with_reducible first|apply Zk|(first|apply Za|apply Zb|apply Zc|apply Zd)<;>intro h)<;>try simp -implicitDefEqProofs (maxSteps:=9^7) (disch:=first|omega|(simp only [Qc];omega)) only [go_sem, k0]))
     exact ⟨R - (j + 1), by omega, j + 1, v', by omega, rfl, by rw [Qtd]; exact hO', (by (repeat' apply And.intro) <;> (first | rfl | omega | (congr 1; omega) | assumption | (congr 1; assumption)))⟩
    ·have hjR : j = R := by omega
     (apply Zo;repeat' ((with_reducible first|apply Zk|(first|apply Za|apply Zb|apply Zc|apply Zd)<;>intro h)<;>try simp -implicitDefEqProofs (maxSteps:=9^7) (disch:=first|omega|(simp only [Qc];omega)) only [go_sem, hg]))
     all_goals subst hjR
     ·rw [if_pos (by assumption)]
      rcases hu with ⟨rfl, h2, h3⟩ | ⟨q, rfl, hq, _⟩
      ·obtain rfl : j = 0 := by rw [Zt] at h2; exact h2
       refine Fc.pure (Qjs) (by simp [go_sem, Qm, clo, Qb, Qg]) (by intro g; simp only [go_sem, ren, Qf]) ?_
       (apply Zo;repeat' ((with_reducible first|apply Zk|(first|apply Za|apply Zb|apply Zc|apply Zd)<;>intro h)<;>try simp -implicitDefEqProofs (maxSteps:=9^7) (disch:=first|omega|(simp only [Qc];omega)) only [go_sem]))
       exact (Go.Bv.Own.nil _ _ _).ret (fun g => rfl) fun v H h => h
      ·refine Fc.mono (Qhz q _ (up j) hq (by rw [Zt]; omega)) ?_
       rintro v' H' ⟨rfl, rfl⟩
       (apply Zo;repeat' ((with_reducible first|apply Zk|(first|apply Za|apply Zb|apply Zc|apply Zd)<;>intro h)<;>try simp -implicitDefEqProofs (maxSteps:=9^7) (disch:=first|omega|(simp only [Qc];omega)) only [go_sem]))
       have hOd : Bv.Own 3 1 (H.set q (some ⟨3, 1, ints (up j).reverse⟩)) (.ref q 0 (up j).length) (Qbc j).length (ints (Qbc j)) := .inr ⟨q, by rw [Yd, Zt], Xc hq, by simp [Yc]⟩
       exact hOd.ret (fun g => Qk g _) fun v H h => h
     ·rw [if_neg (by assumption)]
      exact hu.ret (fun g => Qk g _) fun v H h => h
   ·exact ⟨0, u, by omega, rfl, h0, hO, rfl, rfl, rfl, rfl, by simp -implicitDefEqProofs (maxSteps:=9^7) (disch := first | omega | (simp only [Qc]; omega)) only [go_sem]; congr 1; grind, rfl⟩
 ·refine Qal (xs := []) hO rfl ⟨by decide, by decide⟩ (by simp) fun v' H' hO' hF => ?_
  have k0 := Jk hO hF h0 (by decide)
  (apply Zo;repeat' ((with_reducible first|apply Zk|(first|apply Za|apply Zb|apply Zc|apply Zd)<;>intro h)<;>try simp -implicitDefEqProofs (maxSteps:=9^7) (disch:=first|omega|(simp only [Qc];omega)) only [go_sem, k0]))
  rw [if_pos (by assumption)]
  exact hO'.ret (fun g => Qk g _) fun v H h => h
 ·refine Qal (xs := []) hO rfl ⟨by decide, by decide⟩ (by simp) fun v' H' hO' hF => ?_
  have k0 := Jk hO hF h0 (by decide)
  (apply Zo;repeat' ((with_reducible first|apply Zk|(first|apply Za|apply Zb|apply Zc|apply Zd)<;>intro h)<;>try simp -implicitDefEqProofs (maxSteps:=9^7) (disch:=first|omega|(simp only [Qc];omega)) only [go_sem, k0]))
  rw [if_neg (by assumption), if_pos (by assumption)]
  exact hO'.ret (fun g => Qk g _) fun v H h => h
 ·exfalso; have : [(r : Int)].getD 0 0 = r := rfl; omega
theorem Qj7 (R : Nat) : Yr (Qbc R) = true := by
 refine (Qat _).2 fun i hi => ?_
 rw [Yd] at hi;refine ⟨by rw [Jj hi]; omega, by rw [Jj hi, Yd]; omega, fun k hk => ?_⟩
 rw [Jj hi, Jj (by omega)]; omega
theorem Qp3 {R : Nat} (h : R ≤ 4) : Qeh (up R) = true := by
 refine (Qda _).2 fun i hi => ?_
 rw [Zt] at hi;refine ⟨by rw [Qbu hi]; omega, by rw [Qbu hi]; omega, fun h0 => ?_⟩
 rw [Qbu hi, Qbu (by omega)]; omega
theorem Qmf {l : List Int} (h : ∀ i, i < l.length → -2147483647 ≤ l.getD i 0 ∧ l.getD i 0 ≤ 2147483647) : Qdk l = false := by
 simp only [Qdk, List.any_eq_false, decide_eq_true_eq];intro x hx;obtain ⟨i, hi, rfl⟩ := List.mem_iff_getElem.1 hx
 have := h i hi
 rw [show l.getD i 0 = l[i] by simp [List.getD, hi]] at this
 omega
theorem Qqq {v o : Int} (h : Qag v o = true) : o = 6 ∨ o = 11 ∨ o = 17 ∨ o = 14 ∨ o = 20 := by
 simp only [Qag, decide_eq_true_eq] at h; omega
theorem Qmh {v : Int} {d : Nd} (r : Nat) (hc : Yl v d = 0) : Xz d.op (Zz v d r) = true := by
 obtain ⟨hv, hin, h1, h2, h3⟩ := Qai hc;by_cases hex : Yl v d ≠ 0 ∨ d.attrs.length > 0 ∨ Qag v d.op = false
 ·rw [Zz, if_pos hex];rcases h3 with ⟨h3, h4⟩ | h3
  ·rcases hex with hex | hex | hex
   ·exact (hex hc).elim
   ·omega
   ·rw [h4] at hex; cases hex
  ·exact h3
 ·rw [Zz, if_neg hex]
  have hn : Qag v d.op = true := by
   cases hb : Qag v d.op with
   | true => rfl
   | false => exact (hex (.inr (.inr hb))).elim
  generalize hR : (if r > 4 then 0 else r) = R
  have hR4 : R ≤ 4 := by split at hR <;> omega
  have ho := Qqq hn
  have hd := Qj7 R
  have hu := Qp3 hR4
  have fd : Qdk (Qbc R) = false := Qmf fun i hi => by rw [Yd] at hi; rw [Jj hi]; omega
  have fu : Qdk (up R) = false := Qmf fun i hi => by rw [Zt] at hi; rw [Qbu hi]; omega
  by_cases e6 : d.op = 6
  ·rw [if_pos e6, e6]; decide
  rw [if_neg e6];by_cases e17 : d.op = 17
  ·rw [if_pos e17, e17]; decide
  rw [if_neg e17];by_cases e11 : d.op = 11
  ·rw [if_pos e11, e11, Xz, fd];rw [show Jz 11 (Qbc R) = (Yr (Qbc R) && decide ((Qbc R).length ≤ 4)) from rfl, hd, Yd];simp [hR4]
  rw [if_neg e11, Xz, fu]
  have : Jz d.op (up R) = Qeh (up R) := by
   have e : d.op = 14 ∨ d.op = 20 := by omega
   rcases e with e | e <;> rw [e] <;> rfl
  rw [this, hu]; rfl
theorem Ql3 {l : List Int} (h : ∀ i, i < l.length → Qa6 l i) : ∀ i, i < l.length → (i : Int) ≤ l.getD i 0
 | 0, hi => (h 0 hi).1
 | i + 1, hi => by
  have h1 := Ql3 h i (by omega)
  have h2 := (h (i + 1) hi).2.2 (by omega)
  rw [show i + 1 - 1 = i by omega] at h2
  omega
theorem Qp2 {l : List Int} (h : ∀ i, i < l.length → Qa6 l i) : l.length ≤ 4 := by
 rcases Nat.lt_or_ge 4 l.length with h1 | h1
 ·have h2 := Ql3 h 4 h1
  have h3 := (h 4 h1).2.1
  omega
 ·exact h1
theorem Qfa {a : List Int} (h : Xz 11 a = true) : Yr a = true ∧ a.length ≤ 4 := by
 simp only [Xz, Bool.and_eq_true] at h
 have := h.2
 rw [show Jz 11 a = (Yr a && decide (a.length ≤ 4)) from rfl] at this;simpa using this
theorem Qe9 {o : Int} {a : List Int} (h : Xz o a = true) (ho : o = 14 ∨ o = 20) : ∀ i, i < a.length → Qa6 a i := by
 simp only [Xz, Bool.and_eq_true] at h
 have := h.2
 rcases ho with rfl | rfl <;> exact (Qda _).1 this
theorem Qcg {o : Int} {a : List Int} (h : Xz o a = true) (ho : o = 15 ∨ o = 16) : a.length ≤ 8 ∧ ∀ i, i < a.length / 2 → Qdf (decide (o = 15)) a i := by
 simp only [Xz, Bool.and_eq_true] at h
 have := h.2
 rcases ho with rfl | rfl
 ·exact ((Qbw true a).1 this).2
 ·exact ((Qbw false a).1 this).2
theorem Qgl {o : Int} {a : List Int} (h : Xz o a = true) : a.length ≤ 8 := by
 by_cases h1 : o = 14 ∨ o = 20
 ·have := Qp2 (Qe9 h h1); omega
 by_cases h2 : o = 15 ∨ o = 16
 ·exact (Qcg h h2).1
 by_cases h3 : o = 12 ∨ o = 13
 ·simp only [Xz, Bool.and_eq_true] at h
  have h4 : Xb a = 0 := by
   have := h.2
   rcases h3 with rfl | rfl <;> exact of_decide_eq_true this
  have := (Xk h4).1; omega
 simp only [Xz, Jz, Bool.and_eq_true] at h
 have h4 := h.2
 split at h4
 ·have := of_decide_eq_true h4; omega
 split at h4
 ·have := of_decide_eq_true h4; omega
 split at h4
 ·simp only [Bool.and_eq_true, decide_eq_true_eq] at h4; omega
 split at h4
 ·have := of_decide_eq_true h4; omega
 ·have := of_decide_eq_true h4; omega
theorem Ql0 {f : Nat → Int} {k : Nat} (h : ∀ i, i < k → 1 ≤ f i) : ∀ d ∈ tab f k, 1 ≤ d := by
 intro d hd;simp only [tab, List.mem_map, List.mem_range] at hd;obtain ⟨i, hi, rfl⟩ := hd;exact h i hi
theorem Qi9 {axis : Nat} {l : List (List Int)} (hd : ∀ k, k < l.length → 1 ≤ (l.getD k []).getD axis 0) : ∀ k, k ≤ l.length → (k : Int) ≤ Qce axis l k
 | 0, _ => by simp [Qce]
 | k + 1, h => by
  have h1 := Qi9 hd k (by omega)
  have h2 := hd k (by omega)
  simp only [Qce]; omega
theorem Qu8 {o : Int} {a : List Int} {l : List (List Int)} (h : ComeOK o a l) (ha : Xz o a = true) (hm : ∀ k, k < l.length → Xb (l.getD k []) = 0) : (Xq o a l).2 = 0 → Xb (Xq o a l).1 = 0 ∨ Xb (Xq o a l).1 = 14 := by
 have m0 := hm 0 h.one
 obtain ⟨q1, q2, q3⟩ := Xk m0
 have hmat : o = 10 ∨ o = 19 → (Yx (l.getD 0 []) (l.getD 1 [])).2 = 0 → Xb (Yx (l.getD 0 []) (l.getD 1 [])).1 = 0 ∨ Xb (Yx (l.getD 0 []) (l.getD 1 [])).1 = 14 := by
  intro ho
  have h1 := hm 1 (h.two (by omega))
  unfold Yx;split
  ·rename_i hc;intro _;refine Qgc (by simp) fun d hd => ?_
   have g0 := Kr q2 (i := 0) (by omega)
   have g1 := Kr (Xk h1).2.1 (i := 1) (by omega)
   simp only [List.mem_cons, List.not_mem_nil, or_false] at hd;rcases hd with rfl | rfl <;> assumption
  ·intro h; simp at h
 unfold Xq;split
 ·split
  ·exact fun _ => .inl m0
  ·intro h; simp at h
 split
 ·exact hmat (by omega)
 split
 ·split
  ·intro h; exact absurd h (by assumption)
  ·split
   ·intro h; simp at h
   ·split
    ·intro h; simp at h
    ·exact fun _ => hmat (by omega) (by omega)
 split
 ·split
  ·rename_i h11 hl;intro _
   have hp := (Qfa (h11 ▸ ha)).1
   have hpm := Qf2 hl hp
   exact Qgc (by rw [Xj]; omega) fun d hd => q2 d (hpm.mem_iff.1 hd)
  ·intro h; simp at h
 split
 ·split
  ·rename_i he;intro _
   have h1 : Yu (l.getD 0 []) = Qu (l.getD 0 []) := by rw [Yu, if_pos m0]
   have h2 := Jf q2
   by_cases hx : Xb a = 0
   ·exact .inl hx
   ·have : Yu a = 0 := by rw [Yu, if_neg hx]
    omega
  ·intro h; simp at h
 split
 ·split
  ·rename_i he;intro _;unfold Qax at he; rw [if_pos m0] at he;split at he
   ·exact .inl (by assumption)
   ·exact .inl he
  ·intro h; simp at h
 split
 ·split
  ·intro h; simp at h
  ·exact fun _ => .inl (Qge a m0)
 split
 ·unfold Qwa;split
  ·rename_i ho hl;intro _;refine Qgc (by rw [Xj]; omega) (Ql0 fun i hi => ?_)
   have := (Qcg ha (.inl ho)).2 i (by omega)
   have := this.2.2 (by simpa using ho)
   unfold Qtq; omega
  ·intro h; simp at h
 split
 ·unfold Qw6;split
  ·rename_i ho hl;intro _;refine Qgc (by rw [Xj]; omega) (Ql0 fun i hi => ?_)
   have g0 := Kr q2 hi
   have := (Qcg ha (.inr ho)).2 i (by omega)
   have h1 := this.1
   have h2 := this.2.1
   unfold Qt0; omega
  ·intro h; simp at h
 split
 ·unfold Qdz;split
  ·rename_i ho hl;intro _;refine Qgc (by rw [List.length_set]; omega) fun d hd => ?_
   rcases List.mem_or_eq_of_mem_set hd with hd | rfl
   ·exact q2 d hd
   ·have := Qi9 (axis := (a.getD 0 0).toNat) (l := l) (fun k hk => by
     obtain ⟨_, g2, _⟩ := Xk (hm k hk);refine Kr g2 ?_;rcases Nat.eq_zero_or_pos k with rfl | hk0
     ·exact hl.1
     ·have := ((Qe5 _ _ _).1 hl.2 k hk hk0).1
      omega) l.length (Nat.le_refl _)
    have := h.one
    omega
  ·intro h; simp at h
 exact fun _ => .inl m0
theorem Qm2 {v : Int} {d : Nd} {l : List (List Int)} (hat : d.attrs.length ≤ 17592186044416) (hc : Yl v d = 0) (hl : l.length = d.args.length) (hm : ∀ j, j < l.length → Xb (l.getD j []) = 0) : Yg (Xq d.op (Zz v d (l.getD 0 []).length) l) = Qam v d l := by
 have hok := Qgh (l.getD 0 []).length hat hc hl hm
 have h14 := Qu8 hok (Qmh _ hc) hm
 rw [Qam, if_neg (by omega), if_neg (by omega), if_neg (by rw [Qqu hm]; simp)]
 generalize Xq d.op (Zz v d (l.getD 0 []).length) l = c at h14 ⊢;obtain ⟨s, e⟩ := c;simp only [Yg] at h14 ⊢;by_cases he : e = 0
 ·subst he;rcases h14 rfl with h | h
  ·simp [h]
  ·simp [h]
 ·simp [he]
theorem Qfh (v : Int) (d : Nd) (l : List (List Int)) (ha : d.args.length ≤ 17592186044416) (hat : d.attrs.length ≤ 17592186044416) (hl : l.length ≤ 1000000) (hk : ∀ k, k < l.length → (l.getD k []).length ≤ 17592186044416) : Fc C 10 [.int .i64 v, .agg (ndC d), .sl l.length (Qz l)] [] (fun u H => ROw u H (Qam v d l)) := by
 refine Fc.keep (Fc.bodyT Qi Try.func10 w10 rfl Try.ntmps10 Try.results10 (zLe rfl) ?_)
 (apply Zo;repeat' ((with_reducible first|apply Zk|(first|apply Za|apply Zb|apply Zc|apply Zd)<;>intro h)<;>try simp -implicitDefEqProofs (maxSteps:=9^7) (disch:=first|omega|(simp only [Qc];omega)) only [go_sem]))
 refine Fc.pure (Qd3 v d ha hat) (by simp [go_sem, Qm, clo, Qb, Qg]) (by intro g; simp only [go_sem, ren, Qf]) ?_
 (apply Zo;repeat' ((with_reducible first|apply Zk|(first|apply Za|apply Zb|apply Zc|apply Zd)<;>intro h)<;>try simp -implicitDefEqProofs (maxSteps:=9^7) (disch:=first|omega|(simp only [Qc];omega)) only [go_sem]))
 ·rw [Qam, if_pos (by assumption)]; exact Kk _
 ·rw [Qam, if_neg (by omega), if_pos (by omega)]; exact Kk _
 ·skip
  refine Qn (fun n ts H => ∃ i, (i ≤ l.length) ∧ (∀ j, j < i → Xb (l.getD j []) = 0) ∧ (n = l.length - i) ∧ (H = [some ⟨25, 3, ndC d⟩]) ∧ ts.length = 50 ∧ nth ts 0 = .int .i64 v ∧ nth ts 2 = .sl l.length (Qz l) ∧ nth ts 4 = .ptr 0 0 ∧ nth ts 24 = .sl l.length (Qz l) ∧ nth ts 25 = .int .i64 l.length ∧ nth ts 26 = .int .i64 i) ?_ (n := l.length) ?_
  ·skip
   rintro n ts H ⟨i, hi, hm, hn, hH, hL, hs0, hs2, hs4, hs24, hs25, hs26⟩;refine Xt [(0, .int .i64 v), (2, .sl l.length (Qz l)), (4, .ptr 0 0), (24, .sl l.length (Qz l)), (25, .int .i64 l.length), (26, .int .i64 i)] hL (by simp only [zFm, hs0, hs2, hs4, hs24, hs25, hs26, true_and]; exact zNm) ?_
   clear hL hs0 hs2 hs4 hs24 hs25 hs26 ts
   refine Xm Qi ?_;subst hn hH;by_cases hlt : i < l.length
   ·have hki := hk i hlt
    (apply Zo;repeat' ((with_reducible first|apply Zk|(first|apply Za|apply Zb|apply Zc|apply Zd)<;>intro h)<;>try simp -implicitDefEqProofs (maxSteps:=9^7) (disch:=first|omega|(simp only [Qc];omega)) only [go_sem]))
    refine Fc.pure (Qa3 _ hki) (by simp [go_sem, Qm, clo, Qb, Qg]) (by intro g; simp only [go_sem, ren, Qf]) ?_
    (apply Zo;repeat' ((with_reducible first|apply Zk|(first|apply Za|apply Zb|apply Zc|apply Zd)<;>intro h)<;>try simp -implicitDefEqProofs (maxSteps:=9^7) (disch:=first|omega|(simp only [Qc];omega)) only [go_sem]))
    ·rw [Qam, if_neg (by omega), if_neg (by omega), if_pos (by rw [Ql9 hm hlt (by assumption)]; assumption), Ql9 hm hlt (by assumption)]
     exact Kk _
    ·exact ⟨_, by omega, i + 1, by omega, Qff hm (by assumption), rfl, (by (repeat' apply And.intro) <;> (first | rfl | omega | (congr 1; omega) | assumption | (congr 1; assumption)))⟩
   ·obtain rfl : i = l.length := by omega
    have hc : Yl v d = 0 := by assumption
    have hll : l.length = d.args.length := by omega
    have hok := Qgh (l.getD 0 []).length hat hc hll hm
    have hat2 := Qmh (l.getD 0 []).length hc
    have hlen := Qgl hat2
    have h1 := hok.one
    have hr := hok.rank 0 h1
    have hs := Qm2 hat hc hll hm
    have hdl : d.attrs.length ≤ 1000000 := by
     obtain ⟨_, _, _, _, h3⟩ := Qai hc;rcases h3 with ⟨h3, _⟩ | h3
     ·omega
     ·have := Qgl h3; omega
    (apply Zo;repeat' ((with_reducible first|apply Zk|(first|apply Za|apply Zb|apply Zc|apply Zd)<;>intro h)<;>try simp -implicitDefEqProofs (maxSteps:=9^7) (disch:=first|omega|(simp only [Qc];omega)) only [go_sem]))
    refine Pc.ownL (Qfz v d (l.getD 0 []).length (by omega) ha hdl) ⟨.self rfl, .self (by simp [clo, Qm, Qb]), (Qha (H := [some ⟨25, 3, ndC d⟩]) (e := 3) (s := 1) (cs := ints [((l.getD 0 []).length : Int)]) (n := 1) rfl).bor' (Qb [((l.getD 0 []).length : Int)]), trivial⟩ (by simp [Yc]) (fun g => Qk g _) (Xe _) fun ua X hO => ?_
    (apply Zo;repeat' ((with_reducible first|apply Zk|(first|apply Za|apply Zb|apply Zc|apply Zd)<;>intro h)<;>try simp -implicitDefEqProofs (maxSteps:=9^7) (disch:=first|omega|(simp only [Qc];omega)) only [go_sem]))
    refine Pc.ow (Qk3 _ _ _ hok (by omega) hm (fun h => (Qfa (h ▸ hat2)).1) (fun h => Qe9 hat2 h)) ⟨.self rfl, hO.bor' (Qb _), .self (by simp [clo, Qg]), trivial⟩ fun w X2 hw => ?_
    rw [hs] at hw ⊢
    (apply Zo;repeat' ((with_reducible first|apply Zk|(first|apply Za|apply Zb|apply Zc|apply Zd)<;>intro h)<;>try simp -implicitDefEqProofs (maxSteps:=9^7) (disch:=first|omega|(simp only [Qc];omega)) only [go_sem]))
    exact Qae _ hw
  ·exact ⟨0, by omega, fun j hj => by omega, rfl, rfl, rfl, rfl, rfl, rfl, rfl, rfl, rfl⟩
theorem Qiq (n : Nat) : Zi n [.int .i64 0] = ints (List.replicate n 0) := by
 induction n with
 | zero => rfl
 | succ n ih => rw [show Zi (n + 1) [V.int .i64 0] = [V.int .i64 0] ++ Zi n [V.int .i64 0] by simp [Zi, List.replicate_succ], ih]; rfl
theorem Qn0 {ty : TypeId → Ty} {t e n : Nat} {H : Qa} {K : V → Qa → Prop} (hs : (ty t).sl = some e) (hok : (ty e).ok = true) (hz : Xa (ty e) = [.int .i64 0]) (h1 : (ty e).size = 1) (hb : (ty e).bytes = 8) (hn : n ≤ 17592186044416)
  (h : K (.ref H.length 0 n) (H ++ [some ⟨e, 1, ints (List.replicate n 0)⟩])) : Qah ty t (.int .i64 n) (.int .i64 n) H K := by
 simp only [Qah, hs];refine ⟨hok, trivial, by omega, by omega, by rw [hb]; simp; omega, ?_⟩
 rw [h1, hz, Qiq]; exact h
theorem Jh (o : Int) (k : Nat) (u : V) (H0 : Qa) (hk : k ≤ 1000) (hu : kn u = true) (hc : cellsOf u = [u]) (hs : Xx u = true) : Fc C 21 [.int .i64 o, .int .i64 k, u] H0 (fun v H => v = .agg [.int .i64 o, .ref (H0.length + 1) 0 k, u] ∧ H = H0 ++ [some ⟨25, 3, [.int .i64 o, .ref (H0.length + 1) 0 k, u]⟩, some ⟨3, 1, ints (List.replicate k 0)⟩]) := by
 refine Fc.bodyT Qi Try.func21 w21 rfl Try.ntmps21 Try.results21 (zLe rfl) ?_
 (apply Zo;repeat' ((with_reducible first|apply Zk|(first|apply Za|apply Zb|apply Zc|apply Zd)<;>intro h)<;>try simp -implicitDefEqProofs (maxSteps:=9^7) (disch:=first|omega|(simp only [Qc];omega)) only [go_sem, hu, hc, hs]))
 refine Qn0 rfl rfl rfl rfl rfl (by omega) ?_
 (apply Zo;repeat' ((with_reducible first|apply Zk|(first|apply Za|apply Zb|apply Zc|apply Zd)<;>intro h)<;>try simp -implicitDefEqProofs (maxSteps:=9^7) (disch:=first|omega|(simp only [Qc];omega)) only [go_sem, hu, hc, hs, List.length_append]))
theorem Zs {v : Int} {d : Nd} {l : List (List Int)} {args : List V} {H : Qa} {K : V → Qa → Prop} (r : Sh) (hr : Qam v d l = r) (hb : BorL H args [.int .i64 v, .agg (ndC d), .sl l.length (Qz l)]) (hl : d.args.length ≤ 1000 ∧ d.attrs.length ≤ 1000 ∧ l.length ≤ 1000 ∧ ∀ k, k < l.length → (l.getD k []).length ≤ 1000) (hK : K (shV r) H) : Fc C 10 args H K := by
 subst hr;exact Fc.byOwn2 (Qfh v d l (by omega) (by omega) (by omega) (fun k hk => by have := hl.2.2.2 k hk; omega)) hb (Qb _) (Xe _) rfl rfl hK
theorem Qbt {xs : List Int} {args : List V} {H : Qa} {K : V → Qa → Prop} (hb : BorL H args [.sl xs.length (ints xs), .sl xs.length (ints xs)]) (hx : xs.length ≤ 1000) (hK : K (.bool true) H) : Fc C 13 args H K := by
 have h := Qca xs xs (by omega)
 simp only [decide_true] at h;exact Fc.pureL h hb (fun _ => rfl) rfl hK
theorem Qez : Pu C 9 [] (.bool true) := by
 refine Fc.keep (Fc.bodyT Qi Try.func9 w9 rfl Try.ntmps9 Try.results9 (zLe rfl) ?_)
 (apply Zo;repeat' ((with_reducible first|apply Zk|(first|apply Za|apply Zb|apply Zc|apply Zd)<;>intro h)<;>try simp -implicitDefEqProofs (maxSteps:=9^7) (disch:=first|omega|(simp only [Qc];omega)) only [go_sem]))
 refine Fc.mono (Jh 10 2 _ _ (by omega) rfl rfl rfl) ?_
 rintro v H ⟨rfl, rfl⟩
 (apply Zo;repeat' ((with_reducible first|apply Zk|(first|apply Za|apply Zb|apply Zc|apply Zd)<;>intro h)<;>try simp -implicitDefEqProofs (maxSteps:=9^7) (disch:=first|omega|(simp only [Qc];omega)) only [go_sem]))
 refine Zs (v := 3) (d := ⟨10, [0, 0], []⟩) (l := [[2,3],[3,4]]) ([2, 4], 0) (by decide) (Yz 5 rfl) (by decide) ?_
 (apply Zo;repeat' ((with_reducible first|apply Zk|(first|apply Za|apply Zb|apply Zc|apply Zd)<;>intro h)<;>try simp -implicitDefEqProofs (maxSteps:=9^7) (disch:=first|omega|(simp only [Qc];omega)) only [go_sem]))
 refine Fc.mono (Jh 10 2 _ _ (by omega) rfl rfl rfl) ?_
 rintro v H ⟨rfl, rfl⟩
 (apply Zo;repeat' ((with_reducible first|apply Zk|(first|apply Za|apply Zb|apply Zc|apply Zd)<;>intro h)<;>try simp -implicitDefEqProofs (maxSteps:=9^7) (disch:=first|omega|(simp only [Qc];omega)) only [go_sem]))
 refine Zs (v := 3) (d := ⟨10, [0, 0], []⟩) (l := [[2,3],[2,3]]) ([], 13) (by decide) (Yz 5 rfl) (by decide) ?_
 (apply Zo;repeat' ((with_reducible first|apply Zk|(first|apply Za|apply Zb|apply Zc|apply Zd)<;>intro h)<;>try simp -implicitDefEqProofs (maxSteps:=9^7) (disch:=first|omega|(simp only [Qc];omega)) only [go_sem]))
 refine Fc.mono (Jh 19 3 _ _ (by omega) rfl rfl rfl) ?_
 rintro v H ⟨rfl, rfl⟩
 (apply Zo;repeat' ((with_reducible first|apply Zk|(first|apply Za|apply Zb|apply Zc|apply Zd)<;>intro h)<;>try simp -implicitDefEqProofs (maxSteps:=9^7) (disch:=first|omega|(simp only [Qc];omega)) only [go_sem]))
 refine Zs (v := 2) (d := ⟨19, [0, 0, 0], []⟩) (l := [[2,3],[3,4],[4]]) ([2, 4], 0) (by decide) (Yz 5 rfl) (by decide) ?_
 (apply Zo;repeat' ((with_reducible first|apply Zk|(first|apply Za|apply Zb|apply Zc|apply Zd)<;>intro h)<;>try simp -implicitDefEqProofs (maxSteps:=9^7) (disch:=first|omega|(simp only [Qc];omega)) only [go_sem]))
 refine Fc.mono (Jh 19 3 _ _ (by omega) rfl rfl rfl) ?_
 rintro v H ⟨rfl, rfl⟩
 (apply Zo;repeat' ((with_reducible first|apply Zk|(first|apply Za|apply Zb|apply Zc|apply Zd)<;>intro h)<;>try simp -implicitDefEqProofs (maxSteps:=9^7) (disch:=first|omega|(simp only [Qc];omega)) only [go_sem]))
 refine Zs (v := 2) (d := ⟨19, [0, 0, 0], []⟩) (l := [[2,3],[3,4],[3]]) ([], 13) (by decide) (Yz 5 rfl) (by decide) ?_
 (apply Zo;repeat' ((with_reducible first|apply Zk|(first|apply Za|apply Zb|apply Zc|apply Zd)<;>intro h)<;>try simp -implicitDefEqProofs (maxSteps:=9^7) (disch:=first|omega|(simp only [Qc];omega)) only [go_sem]))
 refine Fc.mono (Jh 14 1 _ _ (by omega) rfl rfl rfl) ?_
 rintro v H ⟨rfl, rfl⟩
 (apply Zo;repeat' ((with_reducible first|apply Zk|(first|apply Za|apply Zb|apply Zc|apply Zd)<;>intro h)<;>try simp -implicitDefEqProofs (maxSteps:=9^7) (disch:=first|omega|(simp only [Qc];omega)) only [go_sem]))
 refine Zs (v := 3) (d := ⟨14, [0], [1]⟩) (l := [[2,3,4]]) ([2, 4], 0) (by decide) (Yz 5 rfl) (by decide) ?_
 (apply Zo;repeat' ((with_reducible first|apply Zk|(first|apply Za|apply Zb|apply Zc|apply Zd)<;>intro h)<;>try simp -implicitDefEqProofs (maxSteps:=9^7) (disch:=first|omega|(simp only [Qc];omega)) only [go_sem]))
 refine Fc.mono (Jh 16 1 _ _ (by omega) rfl rfl rfl) ?_
 rintro v H ⟨rfl, rfl⟩
 (apply Zo;repeat' ((with_reducible first|apply Zk|(first|apply Za|apply Zb|apply Zc|apply Zd)<;>intro h)<;>try simp -implicitDefEqProofs (maxSteps:=9^7) (disch:=first|omega|(simp only [Qc];omega)) only [go_sem]))
 refine Zs (v := 3) (d := ⟨16, [0], [1,0,0,2]⟩) (l := [[2,2]]) ([3, 4], 0) (by decide) (Yz 5 rfl) (by decide) ?_
 (apply Zo;repeat' ((with_reducible first|apply Zk|(first|apply Za|apply Zb|apply Zc|apply Zd)<;>intro h)<;>try simp -implicitDefEqProofs (maxSteps:=9^7) (disch:=first|omega|(simp only [Qc];omega)) only [go_sem]))
 refine Fc.mono (Jh 17 2 _ _ (by omega) rfl rfl rfl) ?_
 rintro v H ⟨rfl, rfl⟩
 (apply Zo;repeat' ((with_reducible first|apply Zk|(first|apply Za|apply Zb|apply Zc|apply Zd)<;>intro h)<;>try simp -implicitDefEqProofs (maxSteps:=9^7) (disch:=first|omega|(simp only [Qc];omega)) only [go_sem]))
 refine Zs (v := 3) (d := ⟨17, [0, 0], [0]⟩) (l := [[2,3],[5,3]]) ([7, 3], 0) (by decide) (Yz 5 rfl) (by decide) ?_
 (apply Zo;repeat' ((with_reducible first|apply Zk|(first|apply Za|apply Zb|apply Zc|apply Zd)<;>intro h)<;>try simp -implicitDefEqProofs (maxSteps:=9^7) (disch:=first|omega|(simp only [Qc];omega)) only [go_sem]))
 refine Qbt (xs := [2, 4]) (Yz 5 rfl) (by decide) ?_
 (apply Zo;repeat' ((with_reducible first|apply Zk|(first|apply Za|apply Zb|apply Zc|apply Zd)<;>intro h)<;>try simp -implicitDefEqProofs (maxSteps:=9^7) (disch:=first|omega|(simp only [Qc];omega)) only [go_sem]))
 refine Qbt (xs := [2, 4]) (Yz 5 rfl) (by decide) ?_
 (apply Zo;repeat' ((with_reducible first|apply Zk|(first|apply Za|apply Zb|apply Zc|apply Zd)<;>intro h)<;>try simp -implicitDefEqProofs (maxSteps:=9^7) (disch:=first|omega|(simp only [Qc];omega)) only [go_sem]))
 refine Qbt (xs := [2, 4]) (Yz 5 rfl) (by decide) ?_
 (apply Zo;repeat' ((with_reducible first|apply Zk|(first|apply Za|apply Zb|apply Zc|apply Zd)<;>intro h)<;>try simp -implicitDefEqProofs (maxSteps:=9^7) (disch:=first|omega|(simp only [Qc];omega)) only [go_sem]))
 refine Qbt (xs := [3, 4]) (Yz 5 rfl) (by decide) ?_
 (apply Zo;repeat' ((with_reducible first|apply Zk|(first|apply Za|apply Zb|apply Zc|apply Zd)<;>intro h)<;>try simp -implicitDefEqProofs (maxSteps:=9^7) (disch:=first|omega|(simp only [Qc];omega)) only [go_sem]))
 refine Qbt (xs := [7, 3]) (Yz 5 rfl) (by decide) ?_
 (apply Zo;repeat' ((with_reducible first|apply Zk|(first|apply Za|apply Zb|apply Zc|apply Zd)<;>intro h)<;>try simp -implicitDefEqProofs (maxSteps:=9^7) (disch:=first|omega|(simp only [Qc];omega)) only [go_sem]))
 (refine Ql (by intro g; simp only [go_sem, ren, Qf]) ?_)
 rfl
structure LOK (d : Nd) (l : List (List Int)) : Prop where
 args : d.args.length ≤ 17592186044416
 attrs : d.attrs.length ≤ 17592186044416
 each : ∀ k, k < l.length → (l.getD k []).length ≤ 17592186044416
theorem Qj1 {v : Int} {d : Nd} {l : List (List Int)} : (Qam v d l).1.length ≤ 4 := by
 unfold Qam
 repeat' split
 all_goals first | exact Nat.zero_le _ | skip
 rename_i h;exact (Xk (Decidable.not_not.1 h)).1
theorem Val.ofO2 {C : Ctx} {f : FuncId} {args : List V} {e s n : Nat} {cs : List V} {u : V} (h : Fc C f args [] fun v H => RetO2 e s H v n cs u) (hc : Qm cs = true) (hp : Qt cs = true) (hu : clo u = true) (hpu : plain u = true) : Val C f args (.tup [.sl n cs, u]) :=
 h.mono fun v H hv => by
  refine ⟨?_, (hv.plain hp hpu).2⟩;obtain ⟨w, rfl, hw⟩ := hv;refine Gd.tupL ⟨?_, .leaf _ hu hpu, trivial⟩;rcases hw with ⟨rfl, rfl, rfl, rfl⟩ | ⟨rfl, rfl, hl⟩
  ·exact .nil _
  ·exact .flat 0 n e s cs rfl hc hp
theorem Qvu {H : Qa} {v : V} {n : Nat} {cs : List V} (h : Gd H v (.sl n cs)) : kn v = true ∧ cellsOf v = [v] ∧ Xx v = true := by
 generalize hu : V.sl n cs = u at h;cases h with
 | leaf v hc hp => subst hu; exact ⟨rfl, rfl, rfl⟩
 | nil cs => exact ⟨rfl, rfl, rfl⟩
 | ref r n row cs hr hp hl h => exact ⟨rfl, rfl, rfl⟩
 | agg l m hl h => cases hu
 | tup l m hl h => cases hu
theorem Qme {n : Nat} {H : Qa} {v : V} {m : Nat} {cs : List V} (h : GdF n H v (.sl m cs)) : (m = 0 ∧ (v = .nil ∨ v = .sl 0 cs)) ∨ ∃ r row, v = .ref r 0 m ∧ n ≤ r ∧ Qd H r = some row ∧ cs.length ≤ row.cs.length ∧ ∀ j, j < cs.length → GdF n H (nth row.cs j) (nth cs j) := by
 have hg := h.gd
 generalize hu : V.sl m cs = u at hg;cases hg with
 | leaf _ hc hp =>
  subst hu
  have : m = 0 := by simpa [plain] using hp
  subst this;exact .inl ⟨rfl, .inr rfl⟩
 | nil cs' => injection hu with e1 e2; exact .inl ⟨e1, .inl rfl⟩
 | ref r n' row cs' hr hp hl hj =>
  injection hu with e1 e2
  subst e1 e2
  have key : ∀ H2 : Qa, (∀ q row, n ≤ q → Qd H q = some row → Qd H2 q = some row) → ∃ row2, Qd H2 r = some row2 ∧ ∀ j, j < cs.length → Gd H2 (nth row2.cs j) (nth cs j) := fun H2 h2 => by
   have hg2 := h H2 h2
   generalize hv : V.ref r 0 m = v2 at hg2;generalize hu2 : V.sl m cs = u2 at hg2;cases hg2 with
   | leaf _ hc hp => subst hu2; cases hv
   | nil => cases hv
   | ref r2 n2 row2 cs2 hr2 hp2 hl2 hj2 =>
    injection hu2 with e3 e4
    injection hv with e5
    subst e4 e5;exact ⟨row2, hr2, hj2⟩
   | agg => cases hu2
   | tup => cases hu2
  have hn : n ≤ r := by
   refine Nat.not_lt.1 fun hlt => ?_
   obtain ⟨row2, h3, -⟩ := key (H.set r none) fun q row' hq hr' => by rw [Qo _ (by omega)]; exact hr'
   rw [show Qd (H.set r none) r = none by simp [Qd, List.getElem?_set]] at h3
   cases h3
  refine .inr ⟨r, row, rfl, hn, hr, hl, fun j hjl H2 h2 => ?_⟩
  obtain ⟨row2, h3, h4⟩ := key H2 h2;rw [h2 r row hn hr] at h3;cases h3;exact h4 j hjl
 | agg => cases hu
 | tup => cases hu
structure St (lo hi : Nat) (ok : Prop) (re : Nat) (H1 H : Qa) : Prop where
 out : ∀ r, ¬ (lo ≤ r ∧ r < hi) → Qd H r = Qd H1 r
 len : ∀ r row, Qd H1 r = some row → ∃ row', Qd H r = some row' ∧ row'.cs.length = row.cs.length
 e : ok → Qd H re = Qd H1 re
theorem St.refl {lo hi : Nat} {ok : Prop} {re : Nat} {H1 : Qa} : St lo hi ok re H1 H1 := ⟨fun _ _ => rfl, fun r row h => ⟨row, h, rfl⟩, fun _ => rfl⟩
theorem Qp7 (cs : List V) (j : Nat) (v : V) : (Ky cs j [v]).length = cs.length := by simp only [Ky, Ye]
theorem St.set {lo hi : Nat} {ok : Prop} {re : Nat} {H1 H : Qa} (h : St lo hi ok re H1 H) {r : Nat} {row : Row} (hr : Qd H r = some row) (hl : lo ≤ r) (hh : r < hi) (hne : ok → r ≠ re) {e s : Nat} {cs : List V} (hc : cs.length = row.cs.length) : St lo hi ok re H1 (H.set r (some ⟨e, s, cs⟩)) := by
 refine ⟨fun q hq => ?_, fun q rw0 hq => ?_, fun hk => ?_⟩
 ·rw [Qo _ (by rintro rfl; exact hq ⟨hl, hh⟩)]; exact h.out q hq
 ·by_cases hqr : q = r
  ·subst hqr;obtain ⟨row', h1, h2⟩ := h.len q rw0 hq;rw [hr] at h1;cases h1;exact ⟨_, Xc hr, by rw [← h2]; exact hc⟩
  ·obtain ⟨row', h1, h2⟩ := h.len q rw0 hq;exact ⟨row', by rw [Qo _ (Ne.symm hqr)]; exact h1, h2⟩
 ·rw [Qo _ (hne hk)]; exact h.e hk
theorem Qrs {n : Nat} {H : Qa} {v : V} {m : Nat} {cs : List V} (h : GdF n H v (.sl m cs)) (y : Ty) (KP : V → Prop) : lenw y v KP = (y.sl.isSome = true ∧ KP (.int .i64 m)) := by
 rcases Qme h with ⟨rfl, rfl | rfl⟩ | ⟨r, row, rfl, _⟩
 ·rfl
 ·rfl
 ·rfl
theorem Qsd {y : Ty} {b e e0 e' s' n : Nat} {H : Qa} {u : V} {us : List V} {xs : List Int} {K : V → Qa → Prop} (h : Cel b e 1 H u n us) (h0 : 0 < b) (hb : b ≤ H.length) (hy : y.size = 1) (hby : 0 < y.bytes ∧ y.bytes ≤ 1000) (hn : n + 1 ≤ 100000000000)
  (hK : ∀ v' H', Cel b e 1 H' v' (n + 1) (us ++ [.sl xs.length (ints xs)]) → (∀ row, Qd H 0 = some row → Qd H' 0 = some row) → Bv.kn v' = true → cellsOf v' = [v'] → Xx v' = true → K v' H') :
  Jr y e u (.ref (H.length + 1) 0 1) (H ++ [some ⟨e0, 1, ints xs⟩, some ⟨e', s', [.ref H.length 0 xs.length]⟩]) K := by
 have e1 : H ++ [some (⟨e0, 1, ints xs⟩ : Row), some ⟨e', s', [.ref H.length 0 xs.length]⟩] = (H ++ [some ⟨e0, 1, ints xs⟩]) ++ [some ⟨e', s', [.ref H.length 0 xs.length]⟩] := by simp
 have e2 : H.length + 1 = (H ++ [some (⟨e0, 1, ints xs⟩ : Row)]).length := by simp
 rw [e1, e2]
 have h' : Cel b e y.size (H ++ [some ⟨e0, 1, ints xs⟩]) u n us := by rw [hy]; exact h.app _
 refine h'.append (ns := [.ref H.length 0 xs.length]) (ms := [.sl xs.length (ints xs)]) (by simp; omega) (by rw [hy]; rfl) rfl rfl rfl (.cons (fun H2 h2 => Gd.flat H.length xs.length e0 1 (ints xs) (h2 _ _ hb (fun off m e => by have := h.lt _ _ _ e; omega) (Zq _ _)) (Qb _) (Xe _)) (.nil _ _ _)) (by omega) hby hn fun v' H' k1 k2 k3 k4 => ?_
 rw [hy] at k1;obtain ⟨q1, q2, q3⟩ := k1.kn;exact hK v' H' k1 (fun row hr => k2 0 row (h.ne h0) (Qy hr _)) q1 q2 q3
theorem Qkw (l : List (List Int)) {i : Nat} (h : i < l.length) : Qz (l.take (i + 1)) = Qz (l.take i) ++ [.sl (l.getD i []).length (ints (l.getD i []))] := by
 rw [List.take_add_one, List.getElem?_eq_getElem h, Qhe];simp [Qz, List.getD, h]
theorem Qds (xs : List Int) (hx : xs.length ≤ 17592186044416) : Pu C 13 [.sl xs.length (ints xs), .sl xs.length (ints xs)] (.bool true) := by
 have h := Qca xs xs hx
 rwa [decide_eq_true rfl] at h
theorem Qfy (v : Int) (d : Nd) (l : List (List Int)) (hL : LOK d l) : Pu C 6 [.int .i64 v, .agg (ndC d), .sl l.length (Qz l)] (.bool true) := by
 have ha := hL.args
 have hat := hL.attrs
 have hk := hL.each
 refine Fc.keep (Fc.bodyT Qi Try.func6 w6 rfl Try.ntmps6 Try.results6 (zLe rfl) ?_)
 (apply Zo;repeat' ((with_reducible first|apply Zk|(first|apply Za|apply Zb|apply Zc|apply Zd)<;>intro h)<;>try simp -implicitDefEqProofs (maxSteps:=9^7) (disch:=first|omega|(simp only [Qc];omega)) only [go_sem]))
 ·skip
  (refine Fc.pure (Qez) (by simp [go_sem, Qm, clo, Qb, Qg]) (by intro g; simp only [go_sem, ren, Qf]) ?_; ((apply Zo;repeat' ((with_reducible first|apply Zk|(first|apply Za|apply Zb|apply Zc|apply Zd)<;>intro h)<;>try simp -implicitDefEqProofs (maxSteps:=9^7) (disch:=first|omega|(simp only [Qc];omega)) only [go_sem]))); (refine Ql (by intro g; simp only [go_sem, ren, Qf]) ?_); rfl)
 ·skip
  refine Qn (fun n ts H => ∃ (i : Nat) (u : V), (i ≤ l.length) ∧ (Qd H 0 = some ⟨25, 3, ndC d⟩) ∧ (Cel 1 28 1 H u i (Qz (l.take i))) ∧ (n = l.length - i) ∧ ts.length = 88 ∧ nth ts 0 = .int .i64 v ∧ nth ts 2 = .sl l.length (Qz l) ∧ nth ts 4 = .ptr 0 0 ∧ nth ts 7 = u ∧ nth ts 8 = .int .i64 (i : Nat)) ?_ (n := l.length) ?_
  ·skip
   rintro n ts H ⟨i, u, hi, h0, hu, hn, hL, hs0, hs2, hs4, hs7, hs8⟩;refine Xt [(0, .int .i64 v), (2, .sl l.length (Qz l)), (4, .ptr 0 0), (7, u), (8, .int .i64 (i : Nat))] hL (by simp only [zFm, hs0, hs2, hs4, hs7, hs8, true_and]; exact zNm) ?_
   clear hL hs0 hs2 hs4 hs7 hs8 ts
   refine Xm Qi ?_;by_cases hil : i < l.length
   ·have hki := hk i hil
    (apply Zo;repeat' ((with_reducible first|apply Zk|(first|apply Za|apply Zb|apply Zc|apply Zd)<;>intro h)<;>try simp -implicitDefEqProofs (maxSteps:=9^7) (disch:=first|omega|(simp only [Qc];omega)) only [go_sem, h0]))
    refine Qsd hu (by decide) (Yq h0) rfl ⟨by decide, by decide⟩ (by omega) fun v' H' k1 k2 q1 q2 q3 => ?_
    have k0 := k2 _ h0
    (apply Zo;repeat' ((with_reducible first|apply Zk|(first|apply Za|apply Zb|apply Zc|apply Zd)<;>intro h)<;>try simp -implicitDefEqProofs (maxSteps:=9^7) (disch:=first|omega|(simp only [Qc];omega)) only [go_sem, q1, q2, q3]))
    refine ⟨l.length - (i + 1), by omega, i + 1, v', by omega, k0, ?_, rfl, (by (repeat' apply And.intro) <;> (first | rfl | omega | (congr 1; omega) | assumption | (congr 1; assumption)))⟩
    rw [Qkw l hil];exact k1
   ·have hil' : i = l.length := by omega
    subst hil';rw [List.take_length] at hu;obtain ⟨q1, q2, q3⟩ := hu.kn
    (apply Zo;repeat' ((with_reducible first|apply Zk|(first|apply Za|apply Zb|apply Zc|apply Zd)<;>intro h)<;>try simp -implicitDefEqProofs (maxSteps:=9^7) (disch:=first|omega|(simp only [Qc];omega)) only [go_sem, h0, q1, q2, q3]))
    have ex : ∃ G : Qa, G = H ++ [some ⟨3, 1, ints d.args⟩, some ⟨3, 1, ints d.attrs⟩, some ⟨25, 3, [V.int .i64 d.op, V.ref H.length 0 d.args.length, V.ref (H.length + 1) 0 d.attrs.length]⟩] := ⟨_, rfl⟩
    obtain ⟨G, hG⟩ := ex
    have g0 : Qd G 0 = some ⟨25, 3, ndC d⟩ := by rw [hG]; exact Qy h0 _
    have r1 : Qd G H.length = some ⟨3, 1, ints d.args⟩ := by rw [hG]; simp [Qd]
    have r2 : Qd G (H.length + 1) = some ⟨3, 1, ints d.attrs⟩ := by rw [hG]; simp [Qd]
    have r3 : Qd G (H.length + 2) = some ⟨25, 3, [V.int .i64 d.op, V.ref H.length 0 d.args.length, V.ref (H.length + 1) 0 d.attrs.length]⟩ := by rw [hG]; simp [Qd]
    have hu' : Cel 1 28 1 G u l.length (Qz l) := by rw [hG]; exact hu.app _
    rw [← hG]
    clear hG hu h0
    generalize H.length = p at *
    clear H hi hil hn
    have hlk := hk
    have hsp := Qfh v d l (by omega) (by omega) (by omega) (fun k h => by have := hk k h; omega)
    refine (Val.ofO2 hsp (Qb _) (Xe _) rfl rfl).keptF ⟨.self rfl, Bor.aggL ⟨.self rfl, (Gd.flat _ _ _ _ _ r1 (Qb _) (Xe _)).bor, (Gd.flat _ _ _ _ _ r2 (Qb _) (Xe _)).bor, trivial⟩, hu'.gd.bor, trivial⟩ fun w X hw => ?_
    obtain ⟨w, e, rfl, hw, he⟩ := hw.tup2;rw [he.gd.int_inv]
    clear he
    have hs4 := @Qj1 v d l
    generalize (Qam v d l).1 = sh at hw hs4;obtain ⟨a1, a2, a3⟩ := Qvu hw.gd
    have hlw := fun y KP => Qrs hw y KP
    (apply Zo;repeat' ((with_reducible first|apply Zk|(first|apply Za|apply Zb|apply Zc|apply Zd)<;>intro h)<;>try simp -implicitDefEqProofs (maxSteps:=9^7) (disch:=first|omega|(simp only [Qc];omega)) only [go_sem, a1, a2, a3]))
    have hFr : ∀ H', St G.length (G ++ X).length False 0 (G ++ X) H' → ∀ q row, Qd G q = some row → Qd H' q = some row := fun H' hS q row hq => by
     have := Yq hq
     rw [hS.out q (by omega)]
     exact Qy hq X
    have hin := Qme hw
    have hR : ∀ r row, Qd (G ++ X) r = some row → r < (G ++ X).length := fun r row h => Yq h
    generalize G ++ X = H1 at *;generalize G.length = g at *
    clear hw
    refine Qn (fun n ts H => ∃ (i : Nat), (i ≤ sh.length) ∧ (St g H1.length False 0 H1 H) ∧ (n = sh.length - i) ∧ ts.length = 88 ∧ nth ts 0 = .int .i64 v ∧ nth ts 2 = .sl l.length (Qz l) ∧ nth ts 4 = .ptr 0 0 ∧ nth ts 7 = u ∧ nth ts 9 = .ptr (p + 2) 0 ∧ nth ts 10 = w ∧ nth ts 12 = .int .i64 (i : Nat)) ?_ (n := sh.length) ?_
    ·skip
     rintro n ts H ⟨i, hi, hS, hn, hL, hs0, hs2, hs4, hs7, hs9, hs10, hs12⟩;refine Xt [(0, .int .i64 v), (2, .sl l.length (Qz l)), (4, .ptr 0 0), (7, u), (9, .ptr (p + 2) 0), (10, w), (12, .int .i64 (i : Nat))] hL (by simp only [zFm, hs0, hs2, hs4, hs7, hs9, hs10, hs12, true_and]; exact zNm) ?_
     clear hL hs0 hs2 hs4 hs7 hs9 hs10 hs12 ts
     refine Xm Qi ?_;by_cases his : i < sh.length
     ·rcases hin with ⟨h0, _⟩ | ⟨r, row, rfl, c1, c2, c3, _⟩
      ·omega
      rw [Yc] at c3;obtain ⟨row', d1, d2⟩ := hS.len r row c2;obtain ⟨e', s', cs'⟩ := row'
      have d2 : cs'.length = row.cs.length := d2
      have hl' := hlw
      (apply Zo;repeat' ((with_reducible first|apply Zk|(first|apply Za|apply Zb|apply Zc|apply Zd)<;>intro h)<;>try simp -implicitDefEqProofs (maxSteps:=9^7) (disch:=first|omega|(simp only [Qc];omega)) only [go_sem, d1, hlw]))
      exact ⟨sh.length - (i + 1), by omega, i + 1, by omega, hS.set d1 c1 (hR r row c2) (fun h => h.elim) (by simp only [Ye, Qp7]), rfl, (by (repeat' apply And.intro) <;> (first | rfl | omega | (congr 1; omega) | assumption | (congr 1; assumption)))⟩
     ·have f := hFr H hS
      have f0 := f _ _ g0
      have f1 := f _ _ r1
      have f2 := f _ _ r2
      have f3 := f _ _ r3
      have hu := hu'.far fun q row _ h => f q row h
      clear f hFr hS g0 r1 r2 r3 hu'
      (apply Zo;repeat' ((with_reducible first|apply Zk|(first|apply Za|apply Zb|apply Zc|apply Zd)<;>intro h)<;>try simp -implicitDefEqProofs (maxSteps:=9^7) (disch:=first|omega|(simp only [Qc];omega)) only [go_sem, hlw]))
      clear hlw hin a1 a2 a3 hR hsp
      have hn : sh.length = 0 ∨ 0 < sh.length := by omega
      obtain ⟨cs, hO, hb, hcl, hcp, hcs, hG0⟩ := hu;refine Qn (fun n ts H => ∃ (k : Nat), (k ≤ l.length) ∧ (Qd H 0 = some ⟨25, 3, ndC d⟩) ∧ (Qd H p = some ⟨3, 1, ints d.args⟩) ∧ (Qd H (p + 1) = some ⟨3, 1, ints d.attrs⟩) ∧ (Qd H (p + 2) = some ⟨25, 3, [V.int .i64 d.op, V.ref p 0 d.args.length, V.ref (p + 1) 0 d.attrs.length]⟩) ∧ (Bv.Own 28 1 H u l.length cs) ∧ ((∀ j, Gd H (nth cs j) (nth (Qz l) j))) ∧ (n = l.length - k) ∧ ts.length = 88 ∧ nth ts 0 = .int .i64 v ∧ nth ts 2 = .sl l.length (Qz l) ∧ nth ts 4 = .ptr 0 0 ∧ nth ts 7 = u ∧ nth ts 9 = .ptr (p + 2) 0 ∧ nth ts 13 = .int .i64 (k : Nat)) ?_ (n := l.length) ?_
      ·skip
       rintro n ts H ⟨k, hk, h0, h1, h2, h3, hO, hG, hn, hL, hs0, hs2, hs4, hs7, hs9, hs13⟩;refine Xt [(0, .int .i64 v), (2, .sl l.length (Qz l)), (4, .ptr 0 0), (7, u), (9, .ptr (p + 2) 0), (13, .int .i64 (k : Nat))] hL (by simp only [zFm, hs0, hs2, hs4, hs7, hs9, hs13, true_and]; exact zNm) ?_
       clear hL hs0 hs2 hs4 hs7 hs9 hs13 ts
       refine Xm Qi ?_;by_cases hkl : k < l.length
       ·rcases hO with ⟨_, h', _⟩ | ⟨r, rfl, d1, d2⟩
        ·omega
        have gk := hG k
        rw [Qga l k hkl] at gk;obtain ⟨b1, b2, b3⟩ := Qvu gk
        have hkk := hlk k hkl
        (apply Zo;repeat' ((with_reducible first|apply Zk|(first|apply Za|apply Zb|apply Zc|apply Zd)<;>intro h)<;>try simp -implicitDefEqProofs (maxSteps:=9^7) (disch:=first|omega|(simp only [Qc];omega)) only [go_sem, d1, d2, b1, b2, b3]))
        refine (Val.ofPu (Qds (l.getD k []) (by omega)) rfl rfl).pc ⟨gk.bor, .self (by simp [clo, Qb]), trivial⟩ rfl ?_
        (apply Zo;repeat' ((with_reducible first|apply Zk|(first|apply Za|apply Zb|apply Zc|apply Zd)<;>intro h)<;>try simp -implicitDefEqProofs (maxSteps:=9^7) (disch:=first|omega|(simp only [Qc];omega)) only [go_sem]))
        exact ⟨l.length - (k + 1), by omega, k + 1, by omega, h0, h1, h2, h3, .inr ⟨r, rfl, d1, d2⟩, hG, rfl, (by (repeat' apply And.intro) <;> (first | rfl | omega | (congr 1; omega) | assumption | (congr 1; assumption)))⟩
       ·skip
        (apply Zo;repeat' ((with_reducible first|apply Zk|(first|apply Za|apply Zb|apply Zc|apply Zd)<;>intro h)<;>try simp -implicitDefEqProofs (maxSteps:=9^7) (disch:=first|omega|(simp only [Qc];omega)) only [go_sem, h0, h1, h2, h3]))
        refine (Val.ofPu (Qds d.attrs (by omega)) rfl rfl).call ⟨(Gd.flat _ _ _ _ _ h2 (Qb _) (Xe _)).bor, .self (by simp [clo, Qb]), trivial⟩ rfl ?_
        (apply Zo;repeat' ((with_reducible first|apply Zk|(first|apply Za|apply Zb|apply Zc|apply Zd)<;>intro h)<;>try simp -implicitDefEqProofs (maxSteps:=9^7) (disch:=first|omega|(simp only [Qc];omega)) only [go_sem, h0, h1, h2, h3]))
        refine (Val.ofPu (Qds d.args (by omega)) rfl rfl).call ⟨(Gd.flat _ _ _ _ _ h1 (Qb _) (Xe _)).bor, .self (by simp [clo, Qb]), trivial⟩ rfl ?_
        (apply Zo;repeat' ((with_reducible first|apply Zk|(first|apply Za|apply Zb|apply Zc|apply Zd)<;>intro h)<;>try simp -implicitDefEqProofs (maxSteps:=9^7) (disch:=first|omega|(simp only [Qc];omega)) only [go_sem]))
        (refine Fc.pure (Qez) (by simp [go_sem, Qm, clo, Qb, Qg]) (by intro g; simp only [go_sem, ren, Qf]) ?_; ((apply Zo;repeat' ((with_reducible first|apply Zk|(first|apply Za|apply Zb|apply Zc|apply Zd)<;>intro h)<;>try simp -implicitDefEqProofs (maxSteps:=9^7) (disch:=first|omega|(simp only [Qc];omega)) only [go_sem]))); (refine Ql (by intro g; simp only [go_sem, ren, Qf]) ?_); rfl)
      ·exact ⟨0, by omega, f0, f1, f2, f3, hO, fun j => hG0 H (fun q row _ _ hq => hq) j, rfl, rfl, rfl, rfl, rfl, rfl, rfl, rfl⟩
    ·exact ⟨0, by omega, .refl, rfl, rfl, rfl, rfl, rfl, rfl, rfl, rfl, rfl⟩
  ·exact ⟨0, .nil, by omega, rfl, Cel.nil _ _ _ _, rfl, rfl, rfl, rfl, rfl, rfl, rfl⟩
theorem a_own : ownKnob Try.prog.godebug = none := by kernel_rfl
theorem a_laid : laidOutB Try.prog = true := by kernel_rfl
theorem Qw4 : Reads Try.prog 3 fun vs => ∃ n, vs = [V.int .i64 n] ∧ (Lit.int .i64 n).wf = true := Reads.int Try.underlying3
theorem Qg0 {t : Nat} (hu : Try.prog.underlying t = some (.slice 3)) : Reads Try.prog t fun vs => ∃ xs : List Int, vs = [.sl xs.length (ints xs)] ∧ xs.length ≤ 17592186044416 := Reads.ints hu Try.underlying3 (by kernel_rfl) (by kernel_rfl)
theorem Qve : ArgV Try.prog 3 fun u => ∃ n : Int, u = .int .i64 n := ArgV.mono (ArgV.one Qw4 (by rw [Try.underlying3])) fun u ⟨n, h, _⟩ => ⟨n, by simpa using h⟩
theorem Qll : ArgV Try.prog 26 fun u => ∃ l : List (List Int), u = .sl l.length (Qz l) ∧ ∀ s ∈ l, s.length ≤ 17592186044416 :=
 ArgV.mono (ArgV.one (Reads.slice1 (g := fun s : List Int => .sl s.length (ints s)) Try.underlying26 (by kernel_rfl) rfl (Qg0 Try.underlying28)) (by rw [Try.underlying26])) fun u ⟨l, h, _, h2⟩ => ⟨l, by simpa [Qz] using h, h2⟩
theorem Qsm : ArgV Try.prog 25 fun u => ∃ d : Nd, u = .agg (ndC d) ∧ d.args.length ≤ 17592186044416 ∧ d.attrs.length ≤ 17592186044416 := by
 refine ArgV.mono (ArgV.struct (Reads.struct (Qs := fun i vs => if i = 0 then ∃ n, vs = [V.int .i64 n] ∧ (Lit.int .i64 n).wf = true else ∃ xs : List Int, vs = [.sl xs.length (ints xs)] ∧ xs.length ≤ 17592186044416) a_laid (of_decide_eq_true (by kernel_rfl)) Try.underlying25 ?_) Try.underlying25) ?_
 ·intro i f hf
  match i, hf with
  | 0, hf => cases hf; exact Reads.mono (Reads.int Try.underlying22) fun vs h => by rw [if_pos rfl]; exact h
  | 1, hf => cases hf; exact Reads.mono (Qg0 Try.underlying23) fun vs h => by rw [if_neg (by decide)]; exact h
  | 2, hf => cases hf; exact Reads.mono (Qg0 Try.underlying23) fun vs h => by rw [if_neg (by decide)]; exact h
  | i + 3, hf => cases hf
 ·rintro u ⟨vs, rfl, l, hl, hq, rfl⟩
  match l, hl with
  | [a, b, c], _ =>
   have h0 := hq 0 (by decide)
   have h1 := hq 1 (by decide)
   have h2 := hq 2 (by decide)
   obtain ⟨n, rfl, _⟩ := h0;obtain ⟨xs, rfl, hx⟩ := h1;obtain ⟨ys, rfl, hy⟩ := h2;exact ⟨⟨n, xs, ys⟩, rfl, hx, hy⟩
theorem Qzt : ArgsV Try.prog [3, 25, 26] fun us => ∃ (v : Int) (d : Nd) (l : List (List Int)), us = [.int .i64 v, .agg (ndC d), .sl l.length (Qz l)] ∧ LOK d l := by
 refine ArgsV.mono (ArgsV.cons Qve (ArgsV.cons Qsm (ArgsV.cons Qll ArgsV.nil))) ?_;rintro us ⟨_, _, rfl, ⟨v, rfl⟩, _, _, rfl, ⟨d, rfl, h1, h2⟩, _, _, rfl, ⟨l, rfl, h3⟩, rfl⟩;refine ⟨v, d, l, rfl, h1, h2, fun k hk => ?_⟩
 rw [show l.getD k [] = l[k] by simp [List.getD, hk]]
 exact h3 _ (List.getElem_mem hk)
end Go.Proofs.Ytlomgfdepllanaa
end
