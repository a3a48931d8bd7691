/-
  Parts RefN4, Num15, Num16, RefN5, RefN6, Num17, Ten1, Ten2, Ten3, Ten4, Shp1, Shp2, Mov1, Mov2, Mov3, Mov4, Perm1, Pdq1, Pdq2, Pdq3, Pdq4, Pdq5, Pdq6, Pdq7, Pdq8, Pdq9, one behind the other: a program logic of our own, contracts of functions.
-/
import Derived.Test.YtjdbdmhjakfldaaGreatU4

set_option linter.unusedVariables false
set_option linter.unusedSimpArgs false
set_option maxRecDepth 100000
set_option maxHeartbeats 8000000
section
namespace Go.Proofs.YtjdbdmhjakfldaaGreat
open Go.Bv
theorem Qi6 {H0 : Qa} {v : V} {l : List Nat} (hO : OwnD H0 v l) (hl : l.length ≤ 2000000000000) : Fc C 139 [v] H0 fun u H' => H' = H0 ∧ TrimQ v l u := by
 rcases hO with ⟨rfl, h2, h3⟩ | ⟨r, rfl, hr, hlen⟩
 ·have : l = [] := List.length_eq_zero_iff.1 h2
  subst this;refine Fc.bodyT Qe Tryz.func139 w139 rfl Tryz.ntmps139 Tryz.results139 (zLe rfl) ?_
  (apply Zo;repeat' ((with_reducible first|apply Zk|(first|apply Za|apply Zb|apply Zc|apply Zd)<;>intro h)<;>try simp -implicitDefEqProofs (maxSteps:=9^7) (disch:=first|omega|(simp only [Qb];omega)) only [go_sem]))
  refine Qf (fun n ts H => (n = 0) ∧ (H = H0) ∧ ts.length = 21 ∧ nth ts 0 = .nil ∧ nth ts 3 = .int .i64 0) ?_ (n := 0) ?_
  ·skip
   rintro n ts H ⟨hn, hH, hL, hs0, hs3⟩;refine Qv [(0, .nil), (3, .int .i64 0)] hL (by simp only [zFm, hs0, hs3, true_and]; exact zNm) ?_
   clear hL hs0 hs3 ts
   refine Qu Qe ?_;subst hH
   (apply Zo;repeat' ((with_reducible first|apply Zk|(first|apply Za|apply Zb|apply Zc|apply Zd)<;>intro h)<;>try simp -implicitDefEqProofs (maxSteps:=9^7) (disch:=first|omega|(simp only [Qb];omega)) only [go_sem]))
   exact .inl ⟨rfl, rfl⟩
  ·exact ⟨rfl, rfl, rfl, rfl, rfl⟩
 ·skip
  refine Fc.bodyT Qe Tryz.func139 w139 rfl Tryz.ntmps139 Tryz.results139 (zLe rfl) ?_
  (apply Zo;repeat' ((with_reducible first|apply Zk|(first|apply Za|apply Zb|apply Zc|apply Zd)<;>intro h)<;>try simp -implicitDefEqProofs (maxSteps:=9^7) (disch:=first|omega|(simp only [Qb];omega)) only [go_sem, hr]))
  refine Qf (fun n ts H => ∃ (m : Nat), (m ≤ l.length) ∧ (Xx (l.take m) = Xx l) ∧ (n = m) ∧ (H = H0) ∧ ts.length = 21 ∧ nth ts 0 = .ref r 0 l.length ∧ nth ts 3 = .int .i64 (m : Nat)) ?_ (n := l.length) ?_
  ·skip
   rintro n ts H ⟨m, hm, ht, hn, hH, hL, hs0, hs3⟩;refine Qv [(0, .ref r 0 l.length), (3, .int .i64 (m : Nat))] hL (by simp only [zFm, hs0, hs3, true_and]; exact zNm) ?_
   clear hL hs0 hs3 ts
   refine Qu Qe ?_;subst hH
   (apply Zo;repeat' ((with_reducible first|apply Zk|(first|apply Za|apply Zb|apply Zc|apply Zd)<;>intro h)<;>try simp -implicitDefEqProofs (maxSteps:=9^7) (disch:=first|omega|(simp only [Qb];omega)) only [go_sem, hr]))
   ·obtain ⟨m, rfl⟩ : ∃ k, m = k + 1 := ⟨m - 1, by omega⟩
    rw [Kt (by omega)] at ht
    simp only [Nat.add_sub_cancel] at h;rw [if_pos (by omega)] at ht
    exact ⟨m, by omega, m, (by (repeat' apply And.intro) <;> (first | rfl | omega | (congr 1; omega) | assumption | (congr 1; assumption)))⟩
   ·obtain ⟨m, rfl⟩ : ∃ k, m = k + 1 := ⟨m - 1, by omega⟩
    rw [Kt (by omega)] at ht
    simp only [Nat.add_sub_cancel] at h;rw [if_neg (by omega)] at ht
    refine Qe0 (.inr ⟨r, rfl, hr, hlen⟩) (by simp [t3ok]) (by simp [t3size]) hm (fun h0 => by omega) (fun h0 => by omega) fun q h0 hv => ?_
    (apply Zo;repeat' ((with_reducible first|apply Zk|(first|apply Za|apply Zb|apply Zc|apply Zd)<;>intro h)<;>try simp -implicitDefEqProofs (maxSteps:=9^7) (disch:=first|omega|(simp only [Qb];omega)) only [go_sem]))
    exact .inr (.inr ⟨q, hv, by rw [ht]⟩)
   ·obtain rfl : m = 0 := by omega
    refine Qe0 (.inr ⟨r, rfl, hr, hlen⟩) (by simp [t3ok]) (by simp [t3size]) hm (fun h0 hv => nomatch hv) (fun h0 hv => ?_) fun q h0 hv => by omega
    (apply Zo;repeat' ((with_reducible first|apply Zk|(first|apply Za|apply Zb|apply Zc|apply Zd)<;>intro h)<;>try simp -implicitDefEqProofs (maxSteps:=9^7) (disch:=first|omega|(simp only [Qb];omega)) only [go_sem]))
    exact .inr (.inl ⟨rfl, by rw [← ht]; rfl⟩)
  ·exact ⟨l.length, Nat.le_refl _, by rw [List.take_length], rfl, rfl, rfl, rfl, rfl⟩
theorem Gd.elems_nats {H : Qa} {v : V} {k : IntKind} {l : List Nat} {y : Ty} (hy : y.size = 1) (h : Gd H v (.sl l.length (Xa k l))) : Jt y v H = some (l.length, Xa k l) := by
 generalize hu : V.sl l.length (Xa k l) = u at h;cases h with
 | leaf v hc hp => subst hu; rfl
 | nil cs =>
  injection hu with h1 h2
  have : l = [] := List.length_eq_zero_iff.1 h1
  subst this; rfl
 | ref r n row cs hr hp hl h =>
  injection hu with h1 h2
  subst h1 h2;simp only [Jt, hr, hy, Nat.mul_one, List.drop_zero, Option.some.injEq, Prod.mk.injEq, true_and];rw [Yg] at hl h;refine List.ext_getElem (by rw [List.length_take, Yg]; omega) fun i h1 h2 => ?_
  rw [Yg] at h2
  have h3 := h i h2
  rw [Qhe _ _ h2] at h3
  have h4 := h3.int_inv
  rw [Yi] at h4;rw [List.getElem_take]
  have h5 : row.cs.getD i .any = row.cs[i]'(by omega) := by simp [List.getD, show i < row.cs.length by omega]
  rw [← h5, h4];simp [Xa, List.getD, h2]
 | agg l m hl h => cases hu
 | tup l m hl h => cases hu
theorem Own.set_ne {e s q : Nat} {H : Qa} {v : V} {n : Nat} {cs : List V} (h : Bv.Own e s H v n cs) (hne : ∀ off n, v ≠ .ref q off n) (z : Option Row) : Bv.Own e s (H.set q z) v n cs := by
 rcases h with h | ⟨r, rfl, h2, h3⟩
 ·exact .inl h
 ·exact .inr ⟨r, rfl, by rw [Qh _ (fun e => hne 0 n (by rw [e]))]; exact h2, h3⟩
theorem Qn3 (r b : Nat) (hr : Qq r ≤ 1000000000000) (hb : Qq b ≤ 100000000000) (h0 : 0 < b) (hrb : r < b * D10) : Pu C 140 [DV r, DV b] (.int .i64 (r / b : Nat)) := by
 have hq : r / b < 10000 := Nat.div_lt_of_lt_mul hrb
 refine Fc.keep (Fc.bodyT Qe Tryz.func140 w140 rfl Tryz.ntmps140 Tryz.results140 (zLe rfl) ?_)
 (apply Zo;repeat' ((with_reducible first|apply Zk|(first|apply Za|apply Zb|apply Zc|apply Zd)<;>intro h)<;>try simp -implicitDefEqProofs (maxSteps:=9^7) (disch:=first|omega|(simp only [Qb];omega)) only [go_sem]))
 refine Qf (fun n ts H => ∃ (lo : Nat) (hi : Nat), (lo ≤ r / b) ∧ (r / b < hi) ∧ (hi ≤ 10000) ∧ (H = []) ∧ (n = hi - lo) ∧ ts.length = 25 ∧ nth ts 0 = DV r ∧ nth ts 1 = DV b ∧ nth ts 5 = .int .i64 (lo : Nat) ∧ nth ts 6 = .int .i64 (hi : Nat)) ?_ (n := 10000) ?_
 ·skip
  rintro n ts H ⟨lo, hi, h1, h2, h3, hH, hn, hL, hs0, hs1, hs5, hs6⟩;refine Qv [(0, DV r), (1, DV b), (5, .int .i64 (lo : Nat)), (6, .int .i64 (hi : Nat))] hL (by simp only [zFm, hs0, hs1, hs5, hs6, true_and]; exact zNm) ?_
  clear hL hs0 hs1 hs5 hs6 ts
  refine Qu Qe ?_;subst hH;by_cases hcase : 1 < hi - lo
  ·obtain ⟨m, hm⟩ : ∃ m, m = (lo + hi) / 2 := ⟨_, rfl⟩
   have e1 : (((lo : Int) + (hi : Int)) / 2) = (m : Int) := by omega
   have hml := Qfn b m
   have hmd : Qq m ≤ 2 := Qad (Nat.lt_of_lt_of_le (show m < 10000 by omega) (by decide))
   have hle : b * m ≤ r ↔ m ≤ r / b := by rw [Nat.le_div_iff_mul_le h0, Nat.mul_comm]
   have hcm : Qal (b * m) r ≤ 0 ↔ m ≤ r / b := by rw [← hle]; unfold Qal; split <;> (try split) <;> omega
   (apply Zo;repeat' ((with_reducible first|apply Zk|(first|apply Za|apply Zb|apply Zc|apply Zd)<;>intro h)<;>try simp -implicitDefEqProofs (maxSteps:=9^7) (disch:=first|omega|(simp only [Qb];omega)) only [go_sem, e1]))
   refine (Qb5 b m (by omega) (by omega)).call ⟨.self (Yf _), .self rfl, trivial⟩ (Yf _) ?_
   (apply Zo;repeat' ((with_reducible first|apply Zk|(first|apply Za|apply Zb|apply Zc|apply Zd)<;>intro h)<;>try simp -implicitDefEqProofs (maxSteps:=9^7) (disch:=first|omega|(simp only [Qb];omega)) only [go_sem, e1]))
   refine Fc.pure (Qcx (b * m) r (by omega) hr) (by simp [Qi, clo, Qk]) (fun g => rfl) ?_
   (apply Zo;repeat' ((with_reducible first|apply Zk|(first|apply Za|apply Zb|apply Zc|apply Zd)<;>intro h)<;>try simp -implicitDefEqProofs (maxSteps:=9^7) (disch:=first|omega|(simp only [Qb];omega)) only [go_sem, e1]))
   ·have h := hcm.1 h
    exact ⟨hi - m, by omega, m, hi, (by (repeat' apply And.intro) <;> (first | rfl | omega | (congr 1; omega) | assumption | (congr 1; assumption)))⟩
   ·have h := fun hh => h (hcm.2 hh)
    exact ⟨m - lo, by omega, lo, m, (by (repeat' apply And.intro) <;> (first | rfl | omega | (congr 1; omega) | assumption | (congr 1; assumption)))⟩
  ·skip
   (apply Zo;repeat' ((with_reducible first|apply Zk|(first|apply Za|apply Zb|apply Zc|apply Zd)<;>intro h)<;>try simp -implicitDefEqProofs (maxSteps:=9^7) (disch:=first|omega|(simp only [Qb];omega)) only [go_sem]))
   (refine Qo (by intro g; simp only [go_sem, ren, Ql]) ?_)
   congr 2; omega
 ·exact ⟨0, 10000, Nat.zero_le _, hq, Nat.le_refl _, rfl, rfl, rfl, rfl, rfl, rfl, rfl⟩
theorem Qdl (x y : Nat) (hx : Qq x ≤ 100000000000) (hy : Qq y ≤ 100000000000) (h0 : 0 < y) : Val C 120 [DV x, DV y] (.tup [DV (x / y), DV (x % y)]) := by
 have lx : (dg D10 x).length = Qq x := rfl
 refine Fc.keep (Fc.bodyT Qe Tryz.func120 w120 rfl Tryz.ntmps120 Tryz.results120 (zLe rfl) ?_)
 (apply Zo;repeat' ((with_reducible first|apply Zk|(first|apply Za|apply Zb|apply Zc|apply Zd)<;>intro h)<;>try simp -implicitDefEqProofs (maxSteps:=9^7) (disch:=first|omega|(simp only [Qb];omega)) only [go_sem]))
 refine Qb8 rfl rfl rfl rfl (by simp [t3bytes]) (by omega) ?_
 (apply Zo;repeat' ((with_reducible first|apply Zk|(first|apply Za|apply Zb|apply Zc|apply Zd)<;>intro h)<;>try simp -implicitDefEqProofs (maxSteps:=9^7) (disch:=first|omega|(simp only [Qb];omega)) only [go_sem]))
 refine Qf (fun n ts H => ∃ (m : Nat) (Q : List Nat) (r : V), (m ≤ Qq x) ∧ (Q.length = Qq x) ∧ ((∀ e ∈ Q, e < D10)) ∧ (Gd H r (DV (x / D10 ^ m % y))) ∧ (lv D10 (Q.drop m) = x / D10 ^ m / y) ∧ (n = m) ∧ (Qd H 0 = some ⟨3, 1, Xa .i64 Q⟩) ∧ ts.length = 49 ∧ nth ts 0 = DV x ∧ nth ts 1 = DV y ∧ nth ts 6 = .ref 0 0 (Qq x) ∧ nth ts 7 = r ∧ nth ts 8 = .int .i64 ((m : Int) - 1)) ?_ (n := Qq x) ?_
 ·skip
  rintro n ts H ⟨m, Q, r, hm, hQl, hQ, hG, hinv, hn, hrq, hL, hs0, hs1, hs6, hs7, hs8⟩;refine Qv [(0, DV x), (1, DV y), (6, .ref 0 0 (Qq x)), (7, r), (8, .int .i64 ((m : Int) - 1))] hL (by simp only [zFm, hs0, hs1, hs6, hs7, hs8, true_and]; exact zNm) ?_
  clear hL hs0 hs1 hs6 hs7 hs8 ts
  refine Qu Qe ?_;by_cases hcase : 0 < m
  ·obtain ⟨k, rfl⟩ : ∃ k, m = k + 1 := ⟨m - 1, by omega⟩
   have hkk : ((k + 1 : Nat) : Int) - 1 = (k : Int) := by omega
   have sx := Qjy x k
   have a1 := Nat.mod_lt (x / D10 ^ k) (show 0 < D10 by decide)
   have hgx := Qgq Qde x k
   obtain ⟨dx, hdx⟩ : ∃ e, e = x / D10 ^ k % D10 := ⟨_, rfl⟩;rw [← hdx] at a1 sx hgx
   have b1 : dx < 10000 := a1
   have hRy := Nat.mod_lt (x / D10 ^ (k + 1)) h0
   obtain ⟨R, hR⟩ : ∃ R, R = x / D10 ^ (k + 1) % y := ⟨_, rfl⟩;rw [← hR] at hG hRy
   have hRl := Jn (Nat.le_of_lt hRy)
   have lR : (dg D10 R).length = Qq R := rfl
   (apply Zo;repeat' ((with_reducible first|apply Zk|(first|apply Za|apply Zb|apply Zc|apply Zd)<;>intro h)<;>try simp -implicitDefEqProofs (maxSteps:=9^7) (disch:=first|omega|(simp only [Qb];omega)) only [go_sem, hkk, hgx]))
   refine Qfq (n := 1) (m := Qq R) (cs := [.int .i64 (dx : Nat)]) (news := Xa .i64 (dg D10 R)) (.inr ⟨_, rfl, Yd _ _, rfl⟩) (Gd.elems_nats (by simp [t3size]) (hG.more (Keep.app _ _))) (by simp [Yg, t3size, lR]) (Qdy _ _) (by simp [t3size]) (by simp [t3bytes]) (by simp only [t3bytes]; omega) rfl fun v' H' hv' hFr _ hform => ?_
   have hv2 : OwnD H' v' (dx :: dg D10 R) := by
    have : ([V.int .i64 (dx : Nat)] ++ Xa .i64 (dg D10 R)) = Xa .i64 (dx :: dg D10 R) := rfl
    rw [this] at hv'
    have e : 1 + Qq R = (dx :: dg D10 R).length := by rw [List.length_cons, lR]; omega
    rw [e] at hv';exact hv'
   have hH : 0 < H.length := Xg hrq
   have hrq1 : Qd H' 0 = some ⟨3, 1, Xa .i64 Q⟩ := hFr 0 _ (fun off n e => by injection e with e; omega) (Qj hrq _)
   (apply Zo;repeat' ((with_reducible first|apply Zk|(first|apply Za|apply Zb|apply Zc|apply Zd)<;>intro h)<;>try simp -implicitDefEqProofs (maxSteps:=9^7) (disch:=first|omega|(simp only [Qb];omega)) only [go_sem, hkk, hgx]))
   refine (Qi6 hv2 (by rw [List.length_cons, lR]; omega)).mono ?_
   rintro u H2 ⟨rfl, hq⟩
   have hdl : ∀ e ∈ dx :: dg D10 R, e < D10 := fun e he => by
    rcases List.mem_cons.1 he with rfl | he
    ·exact a1
    ·exact Quz Qde R e he
   have hval : lv D10 (dx :: dg D10 R) = dx + D10 * R := by rw [lv, Qks Qde]
   have hGu : Gd H2 u (DV (dx + D10 * R)) := by rw [← Qca hdl hval]; exact hq.gd hv2
   have hlt : dx + D10 * R < y * D10 := by
    have := Nat.mul_le_mul_left D10 (show R + 1 ≤ y from hRy)
    rw [Nat.mul_add, Nat.mul_one, Nat.mul_comm D10 y] at this;omega
   have hlz : Qq (dx + D10 * R) ≤ Qq y + 3 := by
    have h1 := Jn (Nat.le_of_lt hlt)
    have h2 := Qfn y D10
    have h3 : Qq D10 ≤ 2 := Qad (by decide)
    omega
   have hsp : x / D10 ^ k = (dx + D10 * R) + y * (D10 * (x / D10 ^ (k + 1) / y)) := by
    have hdm := Nat.div_add_mod (x / D10 ^ (k + 1)) y
    rw [← hR] at hdm
    have e : D10 * (x / D10 ^ (k + 1)) = D10 * R + y * (D10 * (x / D10 ^ (k + 1) / y)) := by
     rw [Nat.mul_left_comm y, ← Nat.mul_add, Nat.add_comm R, hdm]
    omega
   have hX : x / D10 ^ k / y = (dx + D10 * R) / y + D10 * (x / D10 ^ (k + 1) / y) := by
    rw [hsp, Nat.add_mul_div_left _ _ h0]
   have hXm : x / D10 ^ k % y = (dx + D10 * R) % y := by
    rw [hsp, Nat.add_mul_mod_self_left]
   have hql : (dx + D10 * R) / y < 10000 := Nat.div_lt_of_lt_mul hlt
   have hmod : (dx + D10 * R) % y = (dx + D10 * R) - y * ((dx + D10 * R) / y) := by
    have := Nat.div_add_mod (dx + D10 * R) y
    omega
   have hdle : y * ((dx + D10 * R) / y) ≤ dx + D10 * R := Nat.mul_div_le _ _
   generalize dx + D10 * R = z at *
   (apply Zo;repeat' ((with_reducible first|apply Zk|(first|apply Za|apply Zb|apply Zc|apply Zd)<;>intro h)<;>try simp -implicitDefEqProofs (maxSteps:=9^7) (disch:=first|omega|(simp only [Qb];omega)) only [go_sem, hkk, hgx]))
   refine Fc.pureL (Qn3 z y (by omega) hy h0 hlt) ⟨hGu.bor, .self (Yf _), trivial⟩ (fun g => rfl) rfl ?_
   obtain ⟨q, hqq⟩ : ∃ q, q = z / y := ⟨_, rfl⟩;rw [← hqq] at hX hql hmod hdle ⊢
   have q1 : (Q.set k q).length = Qq x := by rw [List.length_set]; exact hQl
   have q2 : ∀ e ∈ Q.set k q, e < D10 := fun e he => by
    rcases List.mem_or_eq_of_mem_set he with h1 | h1
    ·exact hQ e h1
    ·rw [h1]; exact hql
   have q3 : lv D10 ((Q.set k q).drop k) = x / D10 ^ k / y := by
    rw [Qbe (l := Q.set _ _) (by rw [List.length_set]; omega), Qdk (by omega), Jp (by omega), hinv, hX]
   (apply Zo;repeat' ((with_reducible first|apply Zk|(first|apply Za|apply Zb|apply Zc|apply Zd)<;>intro h)<;>try simp -implicitDefEqProofs (maxSteps:=9^7) (disch:=first|omega|(simp only [Qb];omega)) only [go_sem, hkk, hgx, hrq1, Jv]))
   refine (Qb5 y q (by omega) (by omega)).call ⟨.self (Yf _), .self rfl, trivial⟩ (Yf _) ?_
   have hv3 := fun z => Own.set_ne (q := 0) hv2 (fun off n e => by obtain ⟨r, hr⟩ := hform; rw [hr] at e; injection e with e; rw [List.length_append] at e; simp at e) z
   have hGu3 : ∀ zz, Gd (H2.set 0 zz) u (DV z) := fun zz => by rw [← Qca hdl hval]; exact hq.gd (hv3 zz)
   have hyq : Qq (y * q) ≤ 1000000000000 := by
    have := Jn hdle
    omega
   (apply Zo;repeat' ((with_reducible first|apply Zk|(first|apply Za|apply Zb|apply Zc|apply Zd)<;>intro h)<;>try simp -implicitDefEqProofs (maxSteps:=9^7) (disch:=first|omega|(simp only [Qb];omega)) only [go_sem, hkk, hgx, hrq1, Jv]))
   refine (Qrp z (y * q) (by omega) hdle).kept ⟨(hGu3 _).bor, .self (Yf _), trivial⟩ fun v X hv => ?_
   rw [← hmod, ← hXm] at hv;obtain ⟨w1, w2, rfl, hw1, hw2⟩ := hv.tup2
   have hrq2 := Qj (Qg (row' := (⟨3, 1, Xa .i64 (Q.set k q)⟩ : Row)) hrq1) X
   (apply Zo;repeat' ((with_reducible first|apply Zk|(first|apply Za|apply Zb|apply Zc|apply Zd)<;>intro h)<;>try simp -implicitDefEqProofs (maxSteps:=9^7) (disch:=first|omega|(simp only [Qb];omega)) only [go_sem, hkk, hgx, hrq1, Jv]))
   exact ⟨k, by omega, k, Q.set k q, w1, (by (repeat' apply And.intro) <;> (first | rfl | omega | (congr 1; omega) | assumption | (congr 1; assumption)))⟩
  ·obtain rfl : m = 0 := by omega
   simp only [List.drop_zero, Nat.pow_zero, Nat.div_one] at hinv hG
   (apply Zo;repeat' ((with_reducible first|apply Zk|(first|apply Za|apply Zb|apply Zc|apply Zd)<;>intro h)<;>try simp -implicitDefEqProofs (maxSteps:=9^7) (disch:=first|omega|(simp only [Qb];omega)) only [go_sem]))
   have hu : OwnD H (.ref 0 0 (Qq x)) Q := .inr ⟨0, by rw [hQl], hrq, by simp [Yg]⟩
   refine (Qi6 hu (by omega)).mono ?_
   rintro u' H' ⟨rfl, hq⟩
   (apply Zo;repeat' ((with_reducible first|apply Zk|(first|apply Za|apply Zb|apply Zc|apply Zd)<;>intro h)<;>try simp -implicitDefEqProofs (maxSteps:=9^7) (disch:=first|omega|(simp only [Qb];omega)) only [go_sem]))
   refine Gd.ret (Gd.tupL ⟨?_, hG, trivial⟩);rw [← Qca hQ hinv];rw [← hQl] at hq hu;exact hq.gd hu
 ·refine ⟨Qq x, List.replicate (Qq x) 0, .nil, Nat.le_refl _, by simp, fun x hx => by rw [(List.mem_replicate.1 hx).2]; decide, ?_, ?_, rfl, rfl, rfl, rfl, rfl, rfl, rfl, rfl⟩
  ·rw [Nat.div_eq_of_lt (Qaw x), Nat.zero_mod, DV, Xv]; exact .nil _
  ·rw [Nat.div_eq_of_lt (Qaw x), Nat.zero_div]; simp [lv]
theorem Qgz (l : List Nat) (hl : l.length ≤ 17592186044416) (hL : Lim l) : Val C 157 [NA l] (Ye (lv B32 l)) := Val.ofN (Qf5 l hl hL)
theorem Qua (a : List Nat) (n : Nat) (ha : a.length ≤ 4398046511104) (hA : Lim a) (hn : n ≤ 70368744177664) : Val C 171 [NA a, .int .i64 (n : Nat)] (Ye (lv B32 a * 2 ^ n)) := Val.ofN (Xc7 a n ha hA hn)
theorem IsN.isL {v : V} {H : Qa} {x : Nat} (h : IsN v H x) : IsL 59 1 H v (dg B32 x).length (Xa .u32 (dg B32 x)) := IsZ.isL h
theorem IsN.bor {v : V} {H : Qa} {x : Nat} (h : IsN v H x) : Bor H v (Ye x) := h.isL.bor (Qk _ _)
theorem IsN.keep {v : V} {H : Qa} {x : Nat} (h : IsN v H x) (X : Qa) : IsN v (H ++ X) x := by
 rcases h with h | h
 ·exact .inl h
 ·exact .inr (h.keep X)
theorem IsN.len {v : V} {H : Qa} {x : Nat} (h : IsN v H x) (y : Ty) (K : V → Prop) : lenw y v K = (y.sl.isSome = true ∧ K (.int .i64 ((dg B32 x).length : Nat))) := h.isL.lenw y K
theorem Qn5 (a b : List Nat) (ha : a.length ≤ 8796093022208) (hb : b.length ≤ 8796093022208) (hA : Lim a) (hB : Lim b) : Val C 122 [NA a, NA b] (.int .i64 (Qal (lv B32 a) (lv B32 b))) := Val.ofPu (Qrb a b ha hb hA hB) rfl rfl
theorem Qcd {l : List Nat} (hL : Lim l) : (dg B32 (lv B32 l)).length ≤ l.length := Xe (by decide) _ _ (Kf hL)
theorem Qma (k : IntKind) : ∀ (l xs : List Nat) (off : Nat), off + l.length ≤ xs.length → Qbv (Xa k xs) off (Xa k l) = Xa k (xs.take off ++ l ++ xs.drop (off + l.length))
 | [], xs, off, h => by simp [Xa, Qbv, List.take_append_drop]
 | v :: l, xs, off, h => by
  have e : Xa k (v :: l) = .int k (v : Nat) :: Xa k l := rfl
  simp only [List.length_cons] at h ⊢;rw [e, Qbv, Jv, Qma k l _ _ (by rw [List.length_set]; omega)]
  congr 1
  have e1 : (xs.set off v).take (off + 1) = xs.take off ++ [v] := by
   rw [List.take_add_one, Qbg (Nat.le_refl _)];simp [show off < xs.length by omega]
  rw [e1, Jp (by omega), show off + 1 + l.length = off + (l.length + 1) by omega]
  simp
theorem Qwj (k : IntKind) (l : List Nat) (n : Nat) (h : l.length ≤ n) : Qbv (Xa k (List.replicate n 0)) 0 (Xa k l) = Xa k (l ++ List.replicate (n - l.length) 0) := by
 rw [Qma _ _ _ _ (by simp; omega), List.take_zero, List.nil_append, List.drop_replicate, Nat.zero_add]
theorem Qjk (a b : List Nat) (ha : a.length ≤ 1099511627776) (hb : b.length ≤ 1099511627776) (hA : Lim a) (hB : Lim b) (h0 : 0 < lv B32 b) : Val C 158 [NA a, NA b] (.tup [Ye (lv B32 a / lv B32 b), Ye (lv B32 a % lv B32 b), .int .i64 0]) := by
 have la := Qcd hA
 have lb := Qcd hB
 refine Fc.keep (Fc.bodyT Qe Tryz.func158 w158 rfl Tryz.ntmps158 Tryz.results158 (zLe rfl) ?_)
 (apply Zo;repeat' ((with_reducible first|apply Zk|(first|apply Za|apply Zb|apply Zc|apply Zd)<;>intro h)<;>try simp -implicitDefEqProofs (maxSteps:=9^7) (disch:=first|omega|(simp only [Qb];omega)) only [go_sem]))
 refine Fc.isN (Qf5 a (by omega) hA) ⟨.self (Xl _), trivial⟩ fun va X hva => ?_
 (apply Zo;repeat' ((with_reducible first|apply Zk|(first|apply Za|apply Zb|apply Zc|apply Zd)<;>intro h)<;>try simp -implicitDefEqProofs (maxSteps:=9^7) (disch:=first|omega|(simp only [Qb];omega)) only [go_sem]))
 refine (Qgz b (by omega) hB).call ⟨.self (Xl _), trivial⟩ (Xi _) ?_
 have hlen := hva.len (C.ty 56)
 have hne : (dg B32 (lv B32 b)).length ≠ 0 := fun h => by
  have := List.length_eq_zero_iff.1 h
  have e := Xf (lv B32 b)
  rw [this] at e; simp [lv] at e; omega
 rw [List.nil_append] at hva
 (apply Zo;repeat' ((with_reducible first|apply Zk|(first|apply Za|apply Zb|apply Zc|apply Zd)<;>intro h)<;>try simp -implicitDefEqProofs (maxSteps:=9^7) (disch:=first|omega|(simp only [Qb];omega)) only [go_sem, hlen]))
 refine (Qn5 (dg B32 (lv B32 a)) (dg B32 (lv B32 b)) (by omega) (by omega) (Xp _) (Xp _)).call ⟨hva.bor, .self (Xl _), trivial⟩ rfl ?_
 rw [Xf, Xf]
 have hc : Qal (lv B32 a) (lv B32 b) < 0 ↔ lv B32 a < lv B32 b := by unfold Qal; split <;> (try split) <;> omega
 (apply Zo;repeat' ((with_reducible first|apply Zk|(first|apply Za|apply Zb|apply Zc|apply Zd)<;>intro h)<;>try simp -implicitDefEqProofs (maxSteps:=9^7) (disch:=first|omega|(simp only [Qb];omega)) only [go_sem, hlen]))
 ·have hlt := hc.1 h
  rw [Nat.div_eq_of_lt hlt, Nat.mod_eq_of_lt hlt];refine Gd.ret (Gd.tupL ?_);exact ⟨by rw [show Ye 0 = .sl 0 [] by simp [Ye, NA, Xv, Xa]]; exact .nil _, hva.gd, .leaf _ rfl rfl, trivial⟩
 ·have hl1 : (dg B32 (lv B32 b)).length = 1 := by omega
  obtain ⟨d, hd⟩ : ∃ d, dg B32 (lv B32 b) = [d] := by
   match hh : dg B32 (lv B32 b), hl1 with
   | [d], _ => exact ⟨d, rfl⟩
  have hdv : lv B32 b = d := by rw [← Xf (lv B32 b), hd]; simp [lv]
  have hdl : d < 4294967296 := Xp (lv B32 b) d (by rw [hd]; simp)
  rw [hd]
  (apply Zo;repeat' ((with_reducible first|apply Zk|(first|apply Za|apply Zb|apply Zc|apply Zd)<;>intro h)<;>try simp -implicitDefEqProofs (maxSteps:=9^7) (disch:=first|omega|(simp only [Qb];omega)) only [go_sem]))
  have hS := Qt2 (dg B32 (lv B32 a)) d (by omega) (Xp _) (by omega) hdl
  rw [Xf] at hS;refine hS.kept ⟨hva.bor, .self rfl, trivial⟩ fun v Y hv => ?_
  obtain ⟨q, r, e, rfl, hq, hr, he⟩ := hv.tup3;rw [hr.int_inv, he.int_inv]
  have hrl : lv B32 a % d < 4294967296 := Nat.lt_of_lt_of_le (Nat.mod_lt _ (by omega)) (by omega)
  (apply Zo;repeat' ((with_reducible first|apply Zk|(first|apply Za|apply Zb|apply Zc|apply Zd)<;>intro h)<;>try simp -implicitDefEqProofs (maxSteps:=9^7) (disch:=first|omega|(simp only [Qb];omega)) only [go_sem]))
  refine Fc.isN (Qj0 (lv B32 a % d) (by omega)) (by exact ⟨.self rfl, trivial⟩) fun w Z hw => ?_
  (apply Zo;repeat' ((with_reducible first|apply Zk|(first|apply Za|apply Zb|apply Zc|apply Zd)<;>intro h)<;>try simp -implicitDefEqProofs (maxSteps:=9^7) (disch:=first|omega|(simp only [Qb];omega)) only [go_sem]))
  rw [hdv];rw [List.append_assoc] at hw;exact Gd.ret (Gd.tupL ⟨hq.more (by rw [← List.append_assoc]; exact Keep.app _ _), hw.gd, .leaf _ rfl rfl, trivial⟩)
 ·have hn2 : 2 ≤ (dg B32 (lv B32 b)).length := by omega
  have hge : lv B32 b ≤ lv B32 a := by omega
  obtain ⟨k, hk⟩ : ∃ k, (dg B32 (lv B32 b)).length = k + 2 := ⟨(dg B32 (lv B32 b)).length - 2, by omega⟩
  have hlenle : (dg B32 (lv B32 b)).length ≤ (dg B32 (lv B32 a)).length := Xe (by decide) _ _ (Nat.lt_of_le_of_lt hge (Yh (by decide) _))
  have hgt := Qgq (b := B32) (by decide) (lv B32 b) (k + 1)
  have ht := (Xp (lv B32 b)).get (k + 1)
  have hbk : lv B32 b < B32 ^ (k + 2) := hk ▸ Yh (by decide) _
  have hbk1 : lv B32 b / B32 ^ (k + 1) < B32 := by rw [Nat.div_lt_iff_lt_mul (Nat.pow_pos (by decide)), Nat.mul_comm, ← Nat.pow_succ]; exact hbk
  rw [Nat.mod_eq_of_lt hbk1] at hgt
  have e1 : (dg B32 (lv B32 b)).length - 1 = k + 1 := by omega
  (apply Zo;repeat' ((with_reducible first|apply Zk|(first|apply Za|apply Zb|apply Zc|apply Zd)<;>intro h)<;>try simp -implicitDefEqProofs (maxSteps:=9^7) (disch:=first|omega|(simp only [Qb];omega)) only [go_sem]))
  rw [e1];refine Fc.pure (Qxk _ ht) rfl (fun g => rfl) ?_
  rw [hgt];obtain ⟨s, hs⟩ : ∃ s, s = 32 - Yq (lv B32 b / B32 ^ (k + 1)) := ⟨_, rfl⟩;rw [← hs];obtain ⟨n1, n2, n3⟩ := Xfq hk rfl hs
  (apply Zo;repeat' ((with_reducible first|apply Zk|(first|apply Za|apply Zb|apply Zc|apply Zd)<;>intro h)<;>try simp -implicitDefEqProofs (maxSteps:=9^7) (disch:=first|omega|(simp only [Qb];omega)) only [go_sem]))
  refine (Qua (dg B32 (lv B32 b)) s (by omega) (Xp _) (by omega)).call ⟨.self (Xl _), .self rfl, trivial⟩ (Xi _) ?_
  rw [Xf]
  have hVl : (dg B32 (lv B32 b * 2 ^ s)).length = k + 2 := by
   have c1 := Xe (b := B32) (by decide) _ _ n1
   have c2 : ¬ (dg B32 (lv B32 b * 2 ^ s)).length ≤ k + 1 := fun hh => by
    have c3 : lv B32 b * 2 ^ s < B32 ^ (k + 1) := Nat.lt_of_lt_of_le (Yh (by decide) _) (Nat.pow_le_pow_right (by decide) hh)
    have c4 : 0 < B32 ^ (k + 1) := Nat.pow_pos (by decide)
    simp only [B32] at *;omega
   omega
  have hVg : 2147483648 ≤ (dg B32 (lv B32 b * 2 ^ s)).getD (k + 1) 0 := by
   rw [Qgq (by decide), Nat.mod_eq_of_lt (Nat.div_lt_of_lt_mul (by rw [← Nat.pow_succ]; exact n1)), Nat.le_div_iff_mul_le (Nat.pow_pos (by decide)), Nat.mul_comm 2147483648]
   exact n2
  have hbge : B32 ^ (k + 2 - 1) ≤ lv B32 b := Nat.le_of_not_lt fun hh => by
   have := Xe (b := B32) (by decide) _ _ hh
   omega
  have hfst := Xb3 (s := s) (V := lv B32 b * 2 ^ s) (B := B32) (by decide) (Yh (b := B32) (by decide) (lv B32 a)) (by omega) (by omega) hbge rfl
  have hAl : lv B32 a * 2 ^ s < B32 ^ ((dg B32 (lv B32 a)).length + 1) := by
   rw [Nat.pow_succ];refine Nat.mul_lt_mul'' (Yh (by decide) _) ?_
   exact Nat.lt_of_le_of_lt (Nat.pow_le_pow_right (by decide) n3) (by decide)
  have hAll := Xe (b := B32) (by decide) _ _ hAl
  have hA0 : (dg B32 (lv B32 a * 2 ^ s)).length ≠ 0 := fun hh => by
   have e := Xf (lv B32 a * 2 ^ s)
   rw [List.length_eq_zero_iff.1 hh] at e
   have hp := Nat.mul_pos (show 0 < lv B32 a by omega) (Nat.two_pow_pos s)
   rw [← e] at hp;exact absurd hp (by simp [lv])
  have hV0 : 0 < lv B32 b * 2 ^ s := Nat.mul_pos h0 (Nat.two_pow_pos s)
  obtain ⟨V, hV⟩ : ∃ V, V = lv B32 b * 2 ^ s := ⟨_, rfl⟩;obtain ⟨A, hAA⟩ : ∃ A, A = lv B32 a * 2 ^ s := ⟨_, rfl⟩;rw [← hV] at hVl hVg hfst hV0 n1 ⊢;rw [← hAA] at hfst hAl hAll hA0;obtain ⟨m, hm⟩ : ∃ m, m = (dg B32 (lv B32 a)).length := ⟨_, rfl⟩
  have em : (((dg B32 (lv B32 a)).length : Int) + 1) = ((m + 1 : Nat) : Int) := by omega
  (apply Zo;repeat' ((with_reducible first|apply Zk|(first|apply Za|apply Zb|apply Zc|apply Zd)<;>intro h)<;>try simp -implicitDefEqProofs (maxSteps:=9^7) (disch:=first|omega|(simp only [Qb];omega)) only [go_sem, hlen, em]))
  refine Qb8 rfl rfl rfl rfl (by simp [t59bytes]) (by omega) ?_
  (apply Zo;repeat' ((with_reducible first|apply Zk|(first|apply Za|apply Zb|apply Zc|apply Zd)<;>intro h)<;>try simp -implicitDefEqProofs (maxSteps:=9^7) (disch:=first|omega|(simp only [Qb];omega)) only [go_sem]))
  refine (Qua (dg B32 (lv B32 a)) s (by omega) (Xp _) (by omega)).call ⟨(hva.keep _).bor, .self rfl, trivial⟩ (Xi _) ?_
  rw [Xf, ← hAA]
  (apply Zo;repeat' ((with_reducible first|apply Zk|(first|apply Za|apply Zb|apply Zc|apply Zd)<;>intro h)<;>try simp -implicitDefEqProofs (maxSteps:=9^7) (disch:=first|omega|(simp only [Qb];omega)) only [go_sem]))
  refine Xcd (e := 59) (s := 1) (cs := Xa .u32 (List.replicate (m + 1) 0)) (news := Xa .u32 (dg B32 A)) (Yd _ _) (by simp [Yg]) (Qdy _ _) rfl (by omega) (by omega) (by simp [Yg]; omega) ?_
  rw [Qwj _ _ _ (by omega)]
  have w1 : (dg B32 A ++ List.replicate (m + 1 - (dg B32 A).length) 0).length = m + 1 := by simp; omega
  have w2 : Lim (dg B32 A ++ List.replicate (m + 1 - (dg B32 A).length) 0) := fun x hx => by
   rcases List.mem_append.1 hx with h | h
   ·exact Xp _ x h
   ·rw [(List.mem_replicate.1 h).2]; decide
  have w3 : lv B32 (dg B32 A ++ List.replicate (m + 1 - (dg B32 A).length) 0) = A := by rw [Xap, Xf]
  generalize dg B32 A ++ List.replicate (m + 1 - (dg B32 A).length) 0 = W0 at *;generalize hH1 : (X ++ [some (⟨59, 1, Xa .u32 (List.replicate (m + 1) 0)⟩ : Row)]).set X.length (some ⟨59, 1, Xa .u32 W0⟩) = H1
  have hru : Qd H1 X.length = some ⟨59, 1, Xa .u32 W0⟩ := by rw [← hH1]; exact Qg (Yd _ _)
  have hH1l : H1.length = X.length + 1 := by rw [← hH1]; simp
  have eq1 : (((dg B32 (lv B32 a)).length : Int) - ((dg B32 V).length : Int) + 1) = ((m - (k + 2) + 1 : Nat) : Int) := by omega
  (apply Zo;repeat' ((with_reducible first|apply Zk|(first|apply Za|apply Zb|apply Zc|apply Zd)<;>intro h)<;>try simp -implicitDefEqProofs (maxSteps:=9^7) (disch:=first|omega|(simp only [Qb];omega)) only [go_sem, hlen, eq1]))
  refine Qb8 rfl rfl rfl rfl (by simp [t59bytes]) (by omega) ?_
  (apply Zo;repeat' ((with_reducible first|apply Zk|(first|apply Za|apply Zb|apply Zc|apply Zd)<;>intro h)<;>try simp -implicitDefEqProofs (maxSteps:=9^7) (disch:=first|omega|(simp only [Qb];omega)) only [go_sem]))
  rw [← hm] at hfst;refine Qf (fun n ts H => ∃ (j : Nat) (W Q : List Nat), (j ≤ m - (k + 2) + 1) ∧ (W.length = m + 1) ∧ (Lim W) ∧ (Q.length = m - (k + 2) + 1) ∧ (Lim Q) ∧ (lv B32 (Q.drop j) * (B32 ^ j * V) + lv B32 W = A) ∧ (lv B32 (W.drop j) < V) ∧ (n = j) ∧ (Qd H X.length = some ⟨59, 1, Xa .u32 W⟩) ∧ (Qd H (X.length + 1) = some ⟨59, 1, Xa .u32 Q⟩) ∧ ts.length = 113 ∧ nth ts 10 = .int .i64 (s : Nat) ∧ nth ts 11 = Ye V ∧ nth ts 12 = .ref X.length 0 (m + 1) ∧ nth ts 13 = .ref (X.length + 1) 0 (m - (k + 2) + 1) ∧ nth ts 14 = .int .i64 ((j : Int) - 1)) ?_ (n := m - (k + 2) + 1) ?_
  ·skip
   rintro n ts H ⟨j, W, Q, hj, hWl, hWL, hQl, hQL, hinv, hlt, hn, hru, hrq, hL, hs10, hs11, hs12, hs13, hs14⟩;refine Qv [(10, .int .i64 (s : Nat)), (11, Ye V), (12, .ref X.length 0 (m + 1)), (13, .ref (X.length + 1) 0 (m - (k + 2) + 1)), (14, .int .i64 ((j : Int) - 1))] hL (by simp only [zFm, hs10, hs11, hs12, hs13, hs14, true_and]; exact zNm) ?_
   clear hL hs10 hs11 hs12 hs13 hs14 ts
   refine Qu Qe ?_;by_cases hcase : 0 < j
   ·obtain ⟨i, rfl⟩ : ∃ i, j = i + 1 := ⟨j - 1, by omega⟩
    have e1 : (((i + 1 : Nat) : Int) - 1) = (i : Int) := by omega
    have e2 : ((i : Int) + ((dg B32 V).length : Int) + 1) = ((i + (k + 3) : Nat) : Int) := by omega
    (apply Zo;repeat' ((with_reducible first|apply Zk|(first|apply Za|apply Zb|apply Zc|apply Zd)<;>intro h)<;>try simp -implicitDefEqProofs (maxSteps:=9^7) (disch:=first|omega|(simp only [Qb];omega)) only [go_sem, e1, e2]))
    refine Qy6 hru (by simp [t59ok]) (by simp [t59size]) (by omega) (by omega) ?_
    rw [Nat.zero_add, show i + (k + 3) - i = k + 2 + 1 by omega]
    (apply Zo;repeat' ((with_reducible first|apply Zk|(first|apply Za|apply Zb|apply Zc|apply Zd)<;>intro h)<;>try simp -implicitDefEqProofs (maxSteps:=9^7) (disch:=first|omega|(simp only [Qb];omega)) only [go_sem]))
    obtain ⟨u1, u2, u3⟩ := Xlm (b := B32) (by decide) hWL (Nat.le_of_lt n1) (show i + (k + 2 + 1) ≤ W.length by omega) hlt
    have hpl : ((W.drop i).take (k + 2 + 1)).length = k + 2 + 1 := by rw [List.length_take, List.length_drop]; omega
    have hpL : Lim ((W.drop i).take (k + 2 + 1)) := fun x hx => hWL x (List.mem_of_mem_drop (List.mem_of_mem_take hx))
    have hgs := Qs2 ((W.drop i).take (k + 2 + 1)) (dg B32 V) k hVl hpl (by omega) hpL (Xp V) hVg (by rw [← u2, Xf]; exact u1)
    have hbor : BorL H [.ref X.length i (k + 2 + 1), Ye V] [NA ((W.drop i).take (k + 2 + 1)), Ye V] := by
     refine ⟨?_, .self (Xi _), trivial⟩;rw [NA, hpl];refine .ref X.length i _ _ _ hru (by simp [Yg]; omega) fun q hq => ?_
     have hq' : q < k + 2 + 1 := by rwa [Yg, hpl] at hq
     have : nth (Xa .u32 W) (i + q) = nth (Xa .u32 ((W.drop i).take (k + 2 + 1))) q := by
      rw [Qhe _ _ (by omega), Qhe _ _ (by omega)]
      simp [List.getD, List.getElem?_take, hq']
     rw [this];exact .self (Zi (Qk _ _) q)
    refine hgs.borrow hbor.all.1 hbor.all.2 (by rintro v H' ⟨rfl, g, rfl, _⟩; exact ⟨rfl, fun r row hr => by simp at hr⟩) ?_
    rintro v H' ⟨rfl, g, rfl, g1, g2, g3⟩;simp only [ren, Qbu, List.map_nil, List.append_nil];rw [Xf, ← u2] at g1 g2
    (apply Zo;repeat' ((with_reducible first|apply Zk|(first|apply Za|apply Zb|apply Zc|apply Zd)<;>intro h)<;>try simp -implicitDefEqProofs (maxSteps:=9^7) (disch:=first|omega|(simp only [Qb];omega)) only [go_sem]))
    have htk := Qvw (q := g) (v := dg B32 V) hru (j := i) (by omega) (by omega) hWL (Xp V) g3
    rw [hVl, Xf, ← u2] at htk;refine htk.mono ?_;rintro r H' ⟨W', b', rfl, rfl, hb', t1, t2, t3, t4, t5⟩
    have hru' : Qd (H.set X.length (some (⟨59, 1, Xa .u32 W'⟩ : Row))) X.length = some ⟨59, 1, Xa .u32 W'⟩ := Qg hru
    have hrq' : ∀ z, Qd (H.set X.length z) (X.length + 1) = some ⟨59, 1, Xa .u32 Q⟩ := fun z => by rw [Qh _ (by omega)]; exact hrq
    have hset : ∀ (z z' : Option Row), (H.set X.length z).set X.length z' = H.set X.length z' := fun z z' => List.set_set ..
    have hUM : lv B32 (W.drop i) / V < B32 := Nat.div_lt_of_lt_mul (by rw [Nat.mul_comm]; exact u1)
    have hp1 : ∀ W'' : List Nat, Lim W'' → W''.length = W.length → lv B32 ((W''.drop i).take (k + 2 + 1)) < B32 ^ (k + 2 + 1) := fun W'' h1 h2 => by
     have := Kl (l := W''.drop i) (b := B32) (fun x hx => h1 x (List.mem_of_mem_drop hx)) (k + 2 + 1) (by rw [List.length_drop]; omega)
     exact this
    have hVM : V ≤ B32 ^ (k + 2 + 1) := Nat.le_trans (Nat.le_of_lt n1) (Nat.pow_le_pow_right (by decide) (by omega))
    have hset2 : ∀ W'' : List Nat, Lim W'' → W''.length = W.length → W''.take i = W.take i → W''.drop (i + (k + 2 + 1)) = W.drop (i + (k + 2 + 1)) → lv B32 ((W''.drop i).take (k + 2 + 1)) = lv B32 (W.drop i) % V →
      lv B32 ((Q.set i (lv B32 (W.drop i) / V)).drop i) * (B32 ^ i * V) + lv B32 W'' = A ∧ lv B32 (W''.drop i) < V := fun W'' h1 h2 h3 h4 h5 =>
     Xfo (b := B32) (by decide) hWL (Nat.le_of_lt n1) hV0 (by omega) hlt h2 h3 h4 h5 (by omega) hinv
    have fin : ∀ W'' : List Nat, Lim W'' → W''.length = W.length → W''.take i = W.take i → W''.drop (i + (k + 2 + 1)) = W.drop (i + (k + 2 + 1)) → lv B32 ((W''.drop i).take (k + 2 + 1)) = lv B32 (W.drop i) % V → ∀ P : Prop,
      (∀ (Q' : List Nat) (H'' : Qa), Q' = Q.set i (lv B32 (W.drop i) / V) → H'' = (H.set X.length (some (⟨59, 1, Xa .u32 W''⟩ : Row))).set (X.length + 1) (some ⟨59, 1, Xa .u32 Q'⟩) → W''.length = m + 1 → Q'.length = m - (k + 2) + 1 → Lim Q' → lv B32 (Q'.drop i) * (B32 ^ i * V) + lv B32 W'' = A → lv B32 (W''.drop i) < V →
       Qd H'' X.length = some ⟨59, 1, Xa .u32 W''⟩ → Qd H'' (X.length + 1) = some ⟨59, 1, Xa .u32 Q'⟩ → P) → P := fun W'' h1 h2 h3 h4 h5 P hP => by
     obtain ⟨f1, f2⟩ := hset2 W'' h1 h2 h3 h4 h5;refine hP _ _ rfl rfl (by omega) (by rw [List.length_set]; exact hQl) (Lim.set hQL _ hUM) f1 f2 ?_ ?_
     ·rw [Qh _ (by omega)]; exact Qg hru
     ·exact Qg (hrq' _)
    have gl : g < 4294967296 := g3
    have hwl : ∀ x : Nat, x < 4294967296 → IntKind.wrap .u32 (x : Int) = ((x : Nat) : Int) := fun x hx => by rw [Qjs, Nat.mod_eq_of_lt hx]
    obtain rfl | rfl : b' = 0 ∨ b' = 1 := by omega
    ·rw [Nat.mul_zero, Nat.add_zero] at t5;obtain ⟨d1, d2⟩ := Xlk hV0 g1 t5
     have hb0 : ((0 : Nat) == 1) = false := rfl
     refine fin W' t2 (by omega) t3 t4 d2 _ fun Q' H'' hQ' hH'' k1 k2 k3 k4 k5 k6 k7 => ?_
     rw [← d1] at hQ'
     have hw := hwl g gl
     (apply Zo;repeat' ((with_reducible first|apply Zk|(first|apply Za|apply Zb|apply Zc|apply Zd)<;>intro h)<;>try simp -implicitDefEqProofs (maxSteps:=9^7) (disch:=first|omega|(simp only [Qb];omega)) only [go_sem, hb0, hrq', hw, Jv]))
     subst hQ' hH'';exact ⟨i, by omega, i, W', Q.set i g, (by (repeat' apply And.intro) <;> (first | rfl | omega | (congr 1; omega) | assumption | (congr 1; assumption)))⟩
    ·rw [Nat.mul_one] at t5
     have hb0 : ((1 : Nat) == 1) = true := rfl
     have hg1 : 1 ≤ g := by
      refine Nat.pos_of_ne_zero fun h => ?_
      rw [h, Nat.zero_mul, Nat.add_zero] at t5
      have := hp1 W' t2 (by omega)
      omega
     have e4 : ((g : Int) - 1) = ((g - 1 : Nat) : Int) := by omega
     (apply Zo;repeat' ((with_reducible first|apply Zk|(first|apply Za|apply Zb|apply Zc|apply Zd)<;>intro h)<;>try simp -implicitDefEqProofs (maxSteps:=9^7) (disch:=first|omega|(simp only [Qb];omega)) only [go_sem, hb0, e4]))
     have hbk := Qx7 (v := dg B32 V) hru' (j := i) (by omega) (by omega) t2 (Xp V)
     rw [hVl, Xf] at hbk;refine hbk.mono ?_;rintro r2 H2 ⟨W2, c2, rfl, s1, s2, s3, s4, s5⟩;obtain ⟨d1, d2⟩ := Xlj hV0 hVM g1 g2 t5 (hp1 W' t2 (by omega)) s5 (hp1 W2 s2 (by omega))
     refine fin W2 s2 (by omega) (by rw [s3, t3]) (by rw [s4]; exact t4) d2 _ fun Q' H'' hQ' hH'' k1 k2 k3 k4 k5 k6 k7 => ?_
     have d3 : lv B32 (W.drop i) / V = g - 1 := by omega
     rw [d3] at hQ'
     have hw := hwl (g - 1) (by omega)
     (apply Zo;repeat' ((with_reducible first|apply Zk|(first|apply Za|apply Zb|apply Zc|apply Zd)<;>intro h)<;>try simp -implicitDefEqProofs (maxSteps:=9^7) (disch:=first|omega|(simp only [Qb];omega)) only [go_sem, hset, hrq', e4, hw, Jv]))
     subst hQ' hH'';exact ⟨i, by omega, i, W2, Q.set i (g - 1), (by (repeat' apply And.intro) <;> (first | rfl | omega | (congr 1; omega) | assumption | (congr 1; assumption)))⟩
   ·obtain rfl : j = 0 := by omega
    simp only [List.drop_zero, Nat.pow_zero, Nat.one_mul] at hinv hlt;rw [hAA] at hinv;obtain ⟨f1, f2⟩ := Xi9 hV (Nat.two_pow_pos s) h0 hinv hlt
    (apply Zo;repeat' ((with_reducible first|apply Zk|(first|apply Za|apply Zb|apply Zc|apply Zd)<;>intro h)<;>try simp -implicitDefEqProofs (maxSteps:=9^7) (disch:=first|omega|(simp only [Qb];omega)) only [go_sem]))
    refine Fc.isN (Qf5 Q (by omega) hQL) (by rw [← hQl]; exact Qog hrq (Qk _ _)) fun vq Y hvq => ?_
    (apply Zo;repeat' ((with_reducible first|apply Zk|(first|apply Za|apply Zb|apply Zc|apply Zd)<;>intro h)<;>try simp -implicitDefEqProofs (maxSteps:=9^7) (disch:=first|omega|(simp only [Qb];omega)) only [go_sem]))
    refine (Qgz W (by omega) hWL).call (by rw [← hWl]; exact Qog (Qj hru _) (Qk _ _)) (Xi _) ?_
    (apply Zo;repeat' ((with_reducible first|apply Zk|(first|apply Za|apply Zb|apply Zc|apply Zd)<;>intro h)<;>try simp -implicitDefEqProofs (maxSteps:=9^7) (disch:=first|omega|(simp only [Qb];omega)) only [go_sem]))
    have hwle : (dg B32 (lv B32 W)).length ≤ m + 1 := hWl ▸ Qcd hWL
    refine Fc.isN (Xc6 (dg B32 (lv B32 W)) s (by omega) (Xp _) (by omega)) ⟨.self (Xl _), .self rfl, trivial⟩ fun vr Z hvr => ?_
    rw [Xf, f2] at hvr;rw [f1] at hvq
    (apply Zo;repeat' ((with_reducible first|apply Zk|(first|apply Za|apply Zb|apply Zc|apply Zd)<;>intro h)<;>try simp -implicitDefEqProofs (maxSteps:=9^7) (disch:=first|omega|(simp only [Qb];omega)) only [go_sem]))
    exact Gd.ret (Gd.tupL ⟨(hvq.gd).more (by rw [← List.append_assoc]; exact Keep.app _ _), by rw [List.append_assoc] at hvr; exact hvr.gd, .leaf _ rfl rfl, trivial⟩)
  ·refine ⟨m - (k + 2) + 1, W0, List.replicate (m - (k + 2) + 1) 0, Nat.le_refl _, w1, w2, by simp, fun x hx => by rw [(List.mem_replicate.1 hx).2]; decide, ?_, ?_, rfl, ?_, ?_, rfl, rfl, rfl, rfl, rfl, rfl⟩
   ·rw [List.drop_eq_nil_of_le (by simp)]; simp [lv, w3]
   ·rw [Qpx (b := B32) (by decide) w2, w3]; exact hfst
   ·simp [Qd]
   ·simp [Qd, List.replicate_succ]
theorem Xb5 {x : Nat} (h : 0 < x) : 0 < (dg B32 x).length := by rw [Qcv (by decide) h]; simp
theorem Qmr {x y : Nat} (h : x ≤ y) : (dg B32 x).length ≤ (dg B32 y).length := Xe (by decide) _ _ (Nat.lt_of_le_of_lt h (Yh (by decide) y))
theorem Qqd (x y : Nat) : Nat.gcd y (x % y) = Nat.gcd x y := by rw [Nat.gcd_comm x y, Nat.gcd_rec y x, Nat.gcd_comm]
theorem Qtc (x y : Nat) (hx : (dg B32 x).length ≤ 1099511627776) (hy : (dg B32 y).length ≤ 1099511627776) (h0 : 0 < y) : Val C 158 [Ye x, Ye y] (.tup [Ye (x / y), Ye (x % y), .int .i64 0]) := by
 have h := Qjk (dg B32 x) (dg B32 y) hx hy (Xp _) (Xp _) (by rw [Xf]; exact h0)
 rw [Xf, Xf] at h;exact h
theorem Xbv (a b : List Nat) (ha : a.length ≤ 1000000000000) (hb : b.length ≤ 1000000000000) (hA : Lim a) (hB : Lim b) : Pu C 129 [NA a, NA b] (Ye (Nat.gcd (lv B32 a) (lv B32 b))) := by
 have la := Qcd hA
 have lb := Qcd hB
 refine Fc.keep (Fc.bodyT Qe Tryz.func129 w129 rfl Tryz.ntmps129 Tryz.results129 (zLe rfl) ?_)
 (apply Zo;repeat' ((with_reducible first|apply Zk|(first|apply Za|apply Zb|apply Zc|apply Zd)<;>intro h)<;>try simp -implicitDefEqProofs (maxSteps:=9^7) (disch:=first|omega|(simp only [Qb];omega)) only [go_sem]))
 refine (Qgz a (by omega) hA).call ⟨.self (Xl _), trivial⟩ (Xi _) ?_
 (apply Zo;repeat' ((with_reducible first|apply Zk|(first|apply Za|apply Zb|apply Zc|apply Zd)<;>intro h)<;>try simp -implicitDefEqProofs (maxSteps:=9^7) (disch:=first|omega|(simp only [Qb];omega)) only [go_sem]))
 refine (Qgz b (by omega) hB).call ⟨.self (Xl _), trivial⟩ (Xi _) ?_
 (apply Zo;repeat' ((with_reducible first|apply Zk|(first|apply Za|apply Zb|apply Zc|apply Zd)<;>intro h)<;>try simp -implicitDefEqProofs (maxSteps:=9^7) (disch:=first|omega|(simp only [Qb];omega)) only [go_sem]))
 refine Qf (fun n ts H => ∃ (x : Nat) (y : Nat), (Nat.gcd x y = Nat.gcd (lv B32 a) (lv B32 b)) ∧ ((dg B32 x).length ≤ 1000000000000) ∧ ((dg B32 y).length ≤ 1000000000000) ∧ (H = []) ∧ (n = y) ∧ ts.length = 25 ∧ nth ts 0 = Ye x ∧ nth ts 1 = Ye y) ?_ (n := lv B32 b) ?_
 ·skip
  rintro n ts H ⟨x, y, hg, hx, hy, hH, hn, hL, hs0, hs1⟩;refine Qv [(0, Ye x), (1, Ye y)] hL (by simp only [zFm, hs0, hs1, true_and]; exact zNm) ?_
  clear hL hs0 hs1 ts
  refine Qu Qe ?_;subst hH;by_cases hcase : 0 < y
  ·have hp := Xb5 hcase
   have hlt := Nat.mod_lt x hcase
   have hm := Qmr (Nat.le_of_lt hlt)
   have hg' := Qqd x y
   (apply Zo;repeat' ((with_reducible first|apply Zk|(first|apply Za|apply Zb|apply Zc|apply Zd)<;>intro h)<;>try simp -implicitDefEqProofs (maxSteps:=9^7) (disch:=first|omega|(simp only [Qb];omega)) only [go_sem]))
   refine (Qtc x y (by omega) (by omega) hcase).call ⟨.self (Xl _), .self (Xl _), trivial⟩ (by simp [clo, Qi, Xi]) ?_
   rw [hg] at hg';generalize x % y = z at *
   (apply Zo;repeat' ((with_reducible first|apply Zk|(first|apply Za|apply Zb|apply Zc|apply Zd)<;>intro h)<;>try simp -implicitDefEqProofs (maxSteps:=9^7) (disch:=first|omega|(simp only [Qb];omega)) only [go_sem]))
   exact ⟨z, by omega, y, z, (by (repeat' apply And.intro) <;> (first | rfl | omega | (congr 1; omega) | assumption | (congr 1; assumption)))⟩
  ·obtain rfl : y = 0 := by omega
   have h00 : (dg B32 0).length = 0 := by rw [Xv]; rfl
   (apply Zo;repeat' ((with_reducible first|apply Zk|(first|apply Za|apply Zb|apply Zc|apply Zd)<;>intro h)<;>try simp -implicitDefEqProofs (maxSteps:=9^7) (disch:=first|omega|(simp only [Qb];omega)) only [go_sem]))
   rw [Nat.gcd_zero_right] at hg;refine Qo (fun g => Xh3 g _) ?_
   rw [← hg]; rfl
 ·exact ⟨lv B32 a, lv B32 b, rfl, by omega, by omega, rfl, rfl, rfl, rfl, rfl⟩
theorem one_val : Val C 96 [] (Ye 1) := by
 refine Fc.keep (Fc.bodyT Qe Tryz.func96 w96 rfl Tryz.ntmps96 Tryz.results96 (zLe rfl) ?_)
 (apply Zo;repeat' ((with_reducible first|apply Zk|(first|apply Za|apply Zb|apply Zc|apply Zd)<;>intro h)<;>try simp -implicitDefEqProofs (maxSteps:=9^7) (disch:=first|omega|(simp only [Qb];omega)) only [go_sem]))
 refine Fc.isN (Qj0 1 (by decide)) ⟨.self rfl, trivial⟩ fun v X hv => ?_
 (apply Zo;repeat' ((with_reducible first|apply Zk|(first|apply Za|apply Zb|apply Zc|apply Zd)<;>intro h)<;>try simp -implicitDefEqProofs (maxSteps:=9^7) (disch:=first|omega|(simp only [Qb];omega)) only [go_sem]))
 exact Gd.ret hv.gd
theorem Xjh (a b : List Nat) (ha : a.length ≤ 1099511627776) (hb : b.length ≤ 1099511627776) (hA : Lim a) (hB : Lim b) (h0 : 0 < lv B32 b) : Val C 131 [NA a, NA b] (Ye (lv B32 a / lv B32 b)) := by
 refine Fc.keep (Fc.bodyT Qe Tryz.func131 w131 rfl Tryz.ntmps131 Tryz.results131 (zLe rfl) ?_)
 (apply Zo;repeat' ((with_reducible first|apply Zk|(first|apply Za|apply Zb|apply Zc|apply Zd)<;>intro h)<;>try simp -implicitDefEqProofs (maxSteps:=9^7) (disch:=first|omega|(simp only [Qb];omega)) only [go_sem]))
 refine (Qjk a b ha hb hA hB h0).kept ⟨.self (Xl _), .self (Xl _), trivial⟩ fun v X hv => ?_
 obtain ⟨q, r, e, rfl, hq, _, _⟩ := hv.tup3
 (apply Zo;repeat' ((with_reducible first|apply Zk|(first|apply Za|apply Zb|apply Zc|apply Zd)<;>intro h)<;>try simp -implicitDefEqProofs (maxSteps:=9^7) (disch:=first|omega|(simp only [Qb];omega)) only [go_sem]))
 exact Gd.ret hq
theorem Qs4 (a b : Nat) (ha : Qq a ≤ 100000000000) (hb : Qq b ≤ 100000000000) : Pu C 119 [DV a, DV b] (DV (Nat.gcd a b)) := by
 refine Fc.keep (Fc.bodyT Qe Tryz.func119 w119 rfl Tryz.ntmps119 Tryz.results119 (zLe rfl) ?_)
 (apply Zo;repeat' ((with_reducible first|apply Zk|(first|apply Za|apply Zb|apply Zc|apply Zd)<;>intro h)<;>try simp -implicitDefEqProofs (maxSteps:=9^7) (disch:=first|omega|(simp only [Qb];omega)) only [go_sem]))
 refine Qf (fun n ts H => ∃ (x : Nat) (y : Nat), (Nat.gcd x y = Nat.gcd a b) ∧ (Qq x ≤ 100000000000) ∧ (Qq y ≤ 100000000000) ∧ (H = []) ∧ (n = y) ∧ ts.length = 19 ∧ nth ts 0 = DV x ∧ nth ts 1 = DV y) ?_ (n := b) ?_
 ·skip
  rintro n ts H ⟨x, y, hg, hx, hy, hH, hn, hL, hs0, hs1⟩;refine Qv [(0, DV x), (1, DV y)] hL (by simp only [zFm, hs0, hs1, true_and]; exact zNm) ?_
  clear hL hs0 hs1 ts
  refine Qu Qe ?_;subst hH
  have ly : (dg D10 y).length = Qq y := rfl
  by_cases hcase : 0 < y
  ·have hp : Qq y ≠ 0 := fun h => by have := dlen_zero.1 h; omega
   have hlt := Nat.mod_lt x hcase
   have hm := Jn (Nat.le_of_lt hlt)
   have hg' := Qqd x y
   (apply Zo;repeat' ((with_reducible first|apply Zk|(first|apply Za|apply Zb|apply Zc|apply Zd)<;>intro h)<;>try simp -implicitDefEqProofs (maxSteps:=9^7) (disch:=first|omega|(simp only [Qb];omega)) only [go_sem]))
   refine (Qdl x y hx hy hcase).call ⟨.self (Yf _), .self (Yf _), trivial⟩ (by simp [clo, Qi, Yf]) ?_
   rw [hg] at hg';generalize x % y = z at *
   (apply Zo;repeat' ((with_reducible first|apply Zk|(first|apply Za|apply Zb|apply Zc|apply Zd)<;>intro h)<;>try simp -implicitDefEqProofs (maxSteps:=9^7) (disch:=first|omega|(simp only [Qb];omega)) only [go_sem]))
   exact ⟨z, by omega, y, z, (by (repeat' apply And.intro) <;> (first | rfl | omega | (congr 1; omega) | assumption | (congr 1; assumption)))⟩
  ·obtain rfl : y = 0 := by omega
   have hz := dlen_zero.2 (rfl : (0 : Nat) = 0)
   have hz2 : (dg D10 0).length = Qq 0 := rfl
   (apply Zo;repeat' ((with_reducible first|apply Zk|(first|apply Za|apply Zb|apply Zc|apply Zd)<;>intro h)<;>try simp -implicitDefEqProofs (maxSteps:=9^7) (disch:=first|omega|(simp only [Qb];omega)) only [go_sem]))
   rw [Nat.gcd_zero_right] at hg;refine Qo (fun g => by simp [ren, Jy]) ?_
   rw [← hg]; rfl
 ·exact ⟨a, b, rfl, ha, hb, rfl, rfl, rfl, rfl, rfl⟩
def Qnd (r : Rq) : V := .agg [.bool r.neg, DV r.num, DV r.den]
def Qa8 (x : Raw) : V := .agg [.bool x.neg, NA x.num, NA x.den]
def Qc2 (r : Rq) : V := .agg [.bool r.neg, Ye r.num, Ye r.den]
theorem Ky (r : Rq) : Qc2 r = Qa8 (Qz r) := rfl
attribute [go_sem] Qnd Qa8 Qc2
theorem Qhu (r : Rq) : clo (Qnd r) = true := by simp [Qnd, clo, Qi, Yf]
theorem Qw (x : Raw) : clo (Qa8 x) = true := by simp [Qa8, clo, Qi, Xl]
theorem Qk7 (r : Rq) : clo (Qc2 r) = true := Qw (Qz r)
theorem Qtd (b : Nat) (hb : 1 < b) : dg b 1 = [1] := by
 rw [Qcv hb (by decide), Nat.mod_eq_of_lt hb, Nat.div_eq_of_lt hb, Xv]
theorem Qor : DV 1 = .sl 1 [.int .i64 1] := by rw [DV, Qtd _ Qde]; rfl
theorem Xgf : DV 0 = .sl 0 [] := by rw [DV, Xv]; rfl
theorem Qxe : Ye 0 = .sl 0 [] := by rw [Ye, Xv]; rfl
theorem Xbu {H : Qa} : Gd H .nil (DV 0) := by rw [Xgf]; exact .nil _
theorem Qnw {H : Qa} : Gd H .nil (Ye 0) := by rw [Qxe]; exact .nil _
theorem Qhn {H : Qa} (b : Bool) : Gd H (.bool b) (.bool b) := .leaf _ rfl rfl
theorem Qly {H : Qa} (k : IntKind) (n : Int) : Gd H (.int k n) (.int k n) := .leaf _ rfl rfl
theorem Qo1 {k : IntKind} (b : Bool) (l m : List Nat) : ∃ v H, Gd H v (.agg [.bool b, .sl l.length (Xa k l), .sl m.length (Xa k m)]) ∧ Ji H :=
 ⟨.agg [.bool b, .ref 0 0 l.length, .ref 1 0 m.length], [some ⟨0, 1, Xa k l⟩, some ⟨0, 1, Xa k m⟩], Gd.aggL ⟨Qhn b, .flat 0 _ 0 1 _ rfl (Qk _ _) (Xz _ _), .flat 1 _ 0 1 _ rfl (Qk _ _) (Xz _ _), trivial⟩, fun r row hr => by
  match r, hr with
  | 0, hr => simp at hr; subst hr; exact Xz _ _
  | 1, hr => simp at hr; subst hr; exact Xz _ _
  | r + 2, hr => simp at hr⟩
theorem Ql8 (r : Rq) : ∃ v H, Gd H v (Qnd r) ∧ Ji H := Qo1 (k := .i64) r.neg (dg D10 r.num) (dg D10 r.den)
theorem Qwh (x : Raw) : ∃ v H, Gd H v (Qa8 x) ∧ Ji H := Qo1 (k := .u32) x.neg x.num x.den
theorem Ql9 (r : Rq) : ∃ v H, Gd H v (Qc2 r) ∧ Ji H := Qwh (Qz r)
theorem Qvf (l : List Nat) : ∃ v H, Gd H v (NA l) ∧ Ji H := Gd.some_sl (Qk _ _) (Xz _ _)
theorem Yu {H : Qa} {v : V} {n : Nat} {cs : List V} (h : Gd H v (.sl n cs)) : kn v = true ∧ cellsOf v = [v] ∧ Yr v = true := by
 generalize hu : V.sl n cs = u at h;cases h with
 | leaf v hc hp => subst hu; exact ⟨rfl, rfl, rfl⟩
 | nil cs => exact ⟨rfl, rfl, rfl⟩
 | ref r n row cs hr hp hl h => exact ⟨rfl, rfl, rfl⟩
 | agg l m hl h => cases hu
 | tup l m hl h => cases hu
theorem Qpw (s : Bool) (p q : Nat) (hp : Qq p ≤ 30000000000) (hq : Qq q ≤ 30000000000) : Val C 101 [.bool s, DV p, DV q] (Qnd (Jg s p q)) := by
 have lp : (dg D10 p).length = Qq p := rfl
 have lq : (dg D10 q).length = Qq q := rfl
 have hp0 : p = 0 ↔ Qq p = 0 := dlen_zero.symm
 have hq0 : q = 0 ↔ Qq q = 0 := dlen_zero.symm
 refine Fc.keep (Fc.bodyT Qe Tryz.func101 w101 rfl Tryz.ntmps101 Tryz.results101 (zLe rfl) ?_)
 (apply Zo;repeat' ((with_reducible first|apply Zk|(first|apply Za|apply Zb|apply Zc|apply Zd)<;>intro h)<;>try simp -implicitDefEqProofs (maxSteps:=9^7) (disch:=first|omega|(simp only [Qb];omega)) only [go_sem]))
 ·rw [Jd (.inl (by omega))]
  refine Gd.ret (Gd.aggL ⟨Qhn _, Xbu, ?_, trivial⟩);rw [Qor];exact .flat _ _ _ _ _ rfl rfl rfl
 ·rw [Jd (.inr (by omega))]
  refine Gd.ret (Gd.aggL ⟨Qhn _, Xbu, ?_, trivial⟩);rw [Qor];exact .flat _ _ _ _ _ rfl rfl rfl
 ·have hpq : ¬ (p = 0 ∨ q = 0) := by omega
  have hg := Qd5 hpq
  rw [Qmj hpq];refine Fc.pure (Qs4 p q (by omega) (by omega)) (by simp [Qi, clo, Qk]) (fun g => by simp [DV, DA, ren, Jy]) ?_
  have hgl : Qq (Nat.gcd p q) ≤ Qq p := Jn (Nat.gcd_le_left _ (by omega))
  generalize Nat.gcd p q = g at *
  (apply Zo;repeat' ((with_reducible first|apply Zk|(first|apply Za|apply Zb|apply Zc|apply Zd)<;>intro h)<;>try simp -implicitDefEqProofs (maxSteps:=9^7) (disch:=first|omega|(simp only [Qb];omega)) only [go_sem]))
  refine (Qdl p g (by omega) (by omega) hg).keptF ⟨.self (Yf _), .self (Yf _), trivial⟩ fun v X hv => ?_
  obtain ⟨v1, v2, rfl, hv1, hv2⟩ := hv.tup2
  (apply Zo;repeat' ((with_reducible first|apply Zk|(first|apply Za|apply Zb|apply Zc|apply Zd)<;>intro h)<;>try simp -implicitDefEqProofs (maxSteps:=9^7) (disch:=first|omega|(simp only [Qb];omega)) only [go_sem]))
  refine (Qdl q g (by omega) (by omega) hg).keptF ⟨.self (Yf _), .self (Yf _), trivial⟩ fun w Y hw => ?_
  obtain ⟨w1, w2, rfl, hw1, hw2⟩ := hw.tup2;obtain ⟨k1, c1, s1⟩ := Yu hv1.gd;obtain ⟨k2, c2, s2⟩ := Yu hw1.gd
  (apply Zo;repeat' ((with_reducible first|apply Zk|(first|apply Za|apply Zb|apply Zc|apply Zd)<;>intro h)<;>try simp -implicitDefEqProofs (maxSteps:=9^7) (disch:=first|omega|(simp only [Qb];omega)) only [go_sem, k1, c1, s1, k2, c2, s2]))
  exact Gd.ret (Gd.aggL ⟨Qhn _, ((hv1.app Y).set (q := 0) (by decide) _).gd, (hw1.set (q := 0) (by simp) _).gd, trivial⟩)
theorem Qig (x : Raw) (h : RawOK x) : Val C 76 [Qa8 x] (Qnd (Xc x)) := by
 have h1 := h.n1
 have h2 := h.d1
 refine Fc.keep (Fc.bodyT Qe Tryz.func76 w76 rfl Tryz.ntmps76 Tryz.results76 (zLe rfl) ?_)
 (apply Zo;repeat' ((with_reducible first|apply Zk|(first|apply Za|apply Zb|apply Zc|apply Zd)<;>intro h)<;>try simp -implicitDefEqProofs (maxSteps:=9^7) (disch:=first|omega|(simp only [Qb];omega)) only [go_sem]))
 refine (Qif x.num (by omega) h.nL).pc ⟨.self (Xl _), trivial⟩ (Yf _) ?_
 (apply Zo;repeat' ((with_reducible first|apply Zk|(first|apply Za|apply Zb|apply Zc|apply Zd)<;>intro h)<;>try simp -implicitDefEqProofs (maxSteps:=9^7) (disch:=first|omega|(simp only [Qb];omega)) only [go_sem]))
 refine (Qif x.den (by omega) h.dL).pc ⟨.self (Xl _), trivial⟩ (Yf _) ?_
 (apply Zo;repeat' ((with_reducible first|apply Zk|(first|apply Za|apply Zb|apply Zc|apply Zd)<;>intro h)<;>try simp -implicitDefEqProofs (maxSteps:=9^7) (disch:=first|omega|(simp only [Qb];omega)) only [go_sem]))
 refine Pc.keptF (Qpw x.neg (lv B32 x.num) (lv B32 x.den) h.p h.q) (Ql8 _) ⟨.self rfl, .self (Yf _), .self (Yf _), trivial⟩ fun v X hv => ?_
 obtain ⟨v1, v2, v3, rfl, hv1, hv2, hv3⟩ := hv.agg3;obtain ⟨k2, c2, s2⟩ := Yu hv2.gd;obtain ⟨k3, c3, s3⟩ := Yu hv3.gd
 have e1 := hv1.gd.bool_inv
 subst e1
 (apply Zo;repeat' ((with_reducible first|apply Zk|(first|apply Za|apply Zb|apply Zc|apply Zd)<;>intro h)<;>try simp -implicitDefEqProofs (maxSteps:=9^7) (disch:=first|omega|(simp only [Qb];omega)) only [go_sem, k2, c2, s2, k3, c3, s3]))
 exact Gd.ret (Gd.aggL ⟨Qhn _, (hv2.set (q := 1) (by simp) _).gd, (hv3.set (q := 1) (by simp) _).gd, trivial⟩)
theorem Qqy (r : Rq) (h : RqOK r) : Val C 109 [Qnd r] (Qc2 r) := by
 have h1 := h.n1
 have h2 := h.d1
 refine Fc.keep (Fc.bodyT Qe Tryz.func109 w109 rfl Tryz.ntmps109 Tryz.results109 (zLe rfl) ?_)
 (apply Zo;repeat' ((with_reducible first|apply Zk|(first|apply Za|apply Zb|apply Zc|apply Zd)<;>intro h)<;>try simp -implicitDefEqProofs (maxSteps:=9^7) (disch:=first|omega|(simp only [Qb];omega)) only [go_sem]))
 refine Pc.keptF (Qku r.num (by omega)) (Qvf _) ⟨.self (Yf _), trivial⟩ fun v X hv => ?_
 obtain ⟨k1, c1, s1⟩ := Yu hv.gd
 (apply Zo;repeat' ((with_reducible first|apply Zk|(first|apply Za|apply Zb|apply Zc|apply Zd)<;>intro h)<;>try simp -implicitDefEqProofs (maxSteps:=9^7) (disch:=first|omega|(simp only [Qb];omega)) only [go_sem, k1, c1, s1]))
 refine Pc.keptF (Qku r.den (by omega)) (Qvf _) ⟨.self (Yf _), trivial⟩ fun w Y hw => ?_
 obtain ⟨k2, c2, s2⟩ := Yu hw.gd
 (apply Zo;repeat' ((with_reducible first|apply Zk|(first|apply Za|apply Zb|apply Zc|apply Zd)<;>intro h)<;>try simp -implicitDefEqProofs (maxSteps:=9^7) (disch:=first|omega|(simp only [Qb];omega)) only [go_sem, k1, c1, s1, k2, c2, s2]))
 exact Gd.ret (Gd.aggL ⟨Qhn _, ((hv.app Y).set (q := 1) (by simp) _).gd, (hw.set (q := 1) (by simp) _).gd, trivial⟩)
theorem Qxm (r : Rq) (x : Raw) (hr : RqOK r) (hx : RawOK x) : Pu C 69 [Qnd r, Qa8 x] (.bool (isQ r x)) := by
 have h1 := hx.n1
 have h2 := hx.d1
 have h3 := hr.n1
 have h4 := hr.d1
 refine Fc.keep (Fc.bodyT Qe Tryz.func69 w69 rfl Tryz.ntmps69 Tryz.results69 (zLe rfl) ?_)
 (apply Zo;repeat' ((with_reducible first|apply Zk|(first|apply Za|apply Zb|apply Zc|apply Zd)<;>intro h)<;>try simp -implicitDefEqProofs (maxSteps:=9^7) (disch:=first|omega|(simp only [Qb];omega)) only [go_sem]))
 ·refine Fc.pure (Qmm r.num x.num (by omega) (by omega) hx.nL) (by simp [Qi, clo, Qk]) (fun g => rfl) ?_
  (apply Zo;repeat' ((with_reducible first|apply Zk|(first|apply Za|apply Zb|apply Zc|apply Zd)<;>intro h)<;>try simp -implicitDefEqProofs (maxSteps:=9^7) (disch:=first|omega|(simp only [Qb];omega)) only [go_sem]))
  ·refine Fc.pure (Qmm r.den x.den (by omega) (by omega) hx.dL) (by simp [Qi, clo, Qk]) (fun g => rfl) ?_
   (apply Zo;repeat' ((with_reducible first|apply Zk|(first|apply Za|apply Zb|apply Zc|apply Zd)<;>intro h)<;>try simp -implicitDefEqProofs (maxSteps:=9^7) (disch:=first|omega|(simp only [Qb];omega)) only [go_sem]))
   (refine Qo (by intro g; simp only [go_sem, ren, Ql]) ?_)
   simp_all [isQ, B32]; rfl
  ·skip
   (refine Qo (by intro g; simp only [go_sem, ren, Ql]) ?_)
   simp_all [isQ, B32]
 ·skip
  (refine Qo (by intro g; simp only [go_sem, ren, Ql]) ?_)
  simp_all [isQ]
theorem Qsm (x : Raw) (h : RawOK x) : Pu C 62 [Qa8 x] (.int .i64 (if okR x then 0 else 6)) := by
 refine Fc.keep (Fc.bodyT Qe Tryz.func62 w62 rfl Tryz.ntmps62 Tryz.results62 (zLe rfl) ?_)
 (apply Zo;repeat' ((with_reducible first|apply Zk|(first|apply Za|apply Zb|apply Zc|apply Zd)<;>intro h)<;>try simp -implicitDefEqProofs (maxSteps:=9^7) (disch:=first|omega|(simp only [Qb];omega)) only [go_sem]))
 refine (Qig x h).call ⟨.self (Qw _), trivial⟩ (Qhu _) ?_
 (apply Zo;repeat' ((with_reducible first|apply Zk|(first|apply Za|apply Zb|apply Zc|apply Zd)<;>intro h)<;>try simp -implicitDefEqProofs (maxSteps:=9^7) (disch:=first|omega|(simp only [Qb];omega)) only [go_sem]))
 refine Fc.pure (Qxm (Xc x) x h.val h) (by simp [Qi, clo, Qk]) (fun g => rfl) ?_
 have e : isQ (Xc x) x = okR x := rfl
 rw [e]
 (apply Zo;repeat' ((with_reducible first|apply Zk|(first|apply Za|apply Zb|apply Zc|apply Zd)<;>intro h)<;>try simp -implicitDefEqProofs (maxSteps:=9^7) (disch:=first|omega|(simp only [Qb];omega)) only [go_sem]))
 ·skip
  (refine Qo (by intro g; simp only [go_sem, ren, Ql]) ?_)
  simp_all
 ·skip
  (refine Qo (by intro g; simp only [go_sem, ren, Ql]) ?_)
  simp_all
theorem Qo2 (n : Int) (h1 : -9223372036854775808 ≤ n) (h2 : n < 9223372036854775808) : Val C 84 [.int .i64 n] (DV n.natAbs) := by
 refine Fc.keep (Fc.bodyT Qe Tryz.func84 w84 rfl Tryz.ntmps84 Tryz.results84 (zLe rfl) ?_)
 (apply Zo;repeat' ((with_reducible first|apply Zk|(first|apply Za|apply Zb|apply Zc|apply Zd)<;>intro h)<;>try simp -implicitDefEqProofs (maxSteps:=9^7) (disch:=first|omega|(simp only [Qb];omega)) only [go_sem]))
 ·have e : 0 - (n + 1) = ((n.natAbs - 1 : Nat) : Int) := by omega
  have hl : Qq (n.natAbs - 1) ≤ 16 := Qad (Nat.lt_of_lt_of_le (show n.natAbs - 1 < 9223372036854775808 by omega) (by decide))
  (apply Zo;repeat' ((with_reducible first|apply Zk|(first|apply Za|apply Zb|apply Zc|apply Zd)<;>intro h)<;>try simp -implicitDefEqProofs (maxSteps:=9^7) (disch:=first|omega|(simp only [Qb];omega)) only [go_sem, e]))
  refine (Qgg (n.natAbs - 1) (by omega)).call ⟨.self rfl, trivial⟩ (Yf _) ?_
  (apply Zo;repeat' ((with_reducible first|apply Zk|(first|apply Za|apply Zb|apply Zc|apply Zd)<;>intro h)<;>try simp -implicitDefEqProofs (maxSteps:=9^7) (disch:=first|omega|(simp only [Qb];omega)) only [go_sem, e]))
  have h1 : Qq 1 ≤ 1 := Nat.le_of_eq Qk6
  refine (Qli (n.natAbs - 1) 1 (by omega) (by omega)).kept ⟨.self (Yf _), Gd.bor (by rw [Qor]; exact .flat _ _ _ _ _ rfl rfl rfl), trivial⟩ fun v X hv => ?_
  (apply Zo;repeat' ((with_reducible first|apply Zk|(first|apply Za|apply Zb|apply Zc|apply Zd)<;>intro h)<;>try simp -implicitDefEqProofs (maxSteps:=9^7) (disch:=first|omega|(simp only [Qb];omega)) only [go_sem]))
  rw [show n.natAbs - 1 + 1 = n.natAbs by omega] at hv
  exact Gd.ret hv
 ·have e : n = ((n.natAbs : Nat) : Int) := by omega
  rw [e, Int.natAbs_natCast];refine (Qgg n.natAbs (by omega)).kept ⟨.self rfl, trivial⟩ fun v X hv => ?_
  (apply Zo;repeat' ((with_reducible first|apply Zk|(first|apply Za|apply Zb|apply Zc|apply Zd)<;>intro h)<;>try simp -implicitDefEqProofs (maxSteps:=9^7) (disch:=first|omega|(simp only [Qb];omega)) only [go_sem]))
  exact Gd.ret hv
theorem Qsy (n : Int) (h1 : -9223372036854775808 ≤ n) (h2 : n < 9223372036854775808) : Val C 47 [.int .i64 n] (Qnd (Zh n)) := by
 refine Fc.keep (Fc.bodyT Qe Tryz.func47 w47 rfl Tryz.ntmps47 Tryz.results47 (zLe rfl) ?_)
 (apply Zo;repeat' ((with_reducible first|apply Zk|(first|apply Za|apply Zb|apply Zc|apply Zd)<;>intro h)<;>try simp -implicitDefEqProofs (maxSteps:=9^7) (disch:=first|omega|(simp only [Qb];omega)) only [go_sem]))
 refine (Qo2 n h1 h2).keptF ⟨.self rfl, trivial⟩ fun v X hv => ?_
 obtain ⟨k1, c1, s1⟩ := Yu hv.gd
 (apply Zo;repeat' ((with_reducible first|apply Zk|(first|apply Za|apply Zb|apply Zc|apply Zd)<;>intro h)<;>try simp -implicitDefEqProofs (maxSteps:=9^7) (disch:=first|omega|(simp only [Qb];omega)) only [go_sem, k1, c1, s1]))
 refine Gd.ret (Gd.aggL ⟨Qhn _, ((hv.app _).set (q := 0) (by simp) _).gd, ?_, trivial⟩)
 rw [show (Zh n).den = 1 from rfl, Qor];exact .flat _ _ _ _ _ (Yd _ _) rfl rfl
theorem Qbi (x y : Raw) (hx : RawOK x) (hy : RawOK y) : Pu C 38 [Qa8 x, Qa8 y] (.bool (Qe1 (Xc x) (Xc y))) := by
 have h1 := hx.val.n1
 have h2 := hx.val.d1
 have h3 := hy.val.n1
 have h4 := hy.val.d1
 have hc : ∀ a b : Nat, Qal a b = 0 ↔ a = b := fun a b => by unfold Qal; split <;> (try split) <;> omega
 have hcb : ∀ a b : Nat, (Qal a b == 0) = decide (a = b) := fun a b => by rw [Bool.eq_iff_iff, beq_iff_eq, decide_eq_true_eq, hc]
 refine Fc.keep (Fc.bodyT Qe Tryz.func38 w38 rfl Tryz.ntmps38 Tryz.results38 (zLe rfl) ?_)
 (apply Zo;repeat' ((with_reducible first|apply Zk|(first|apply Za|apply Zb|apply Zc|apply Zd)<;>intro h)<;>try simp -implicitDefEqProofs (maxSteps:=9^7) (disch:=first|omega|(simp only [Qb];omega)) only [go_sem]))
 refine (Qig x hx).pc ⟨.self (Qw _), trivial⟩ (Qhu _) ?_
 (apply Zo;repeat' ((with_reducible first|apply Zk|(first|apply Za|apply Zb|apply Zc|apply Zd)<;>intro h)<;>try simp -implicitDefEqProofs (maxSteps:=9^7) (disch:=first|omega|(simp only [Qb];omega)) only [go_sem]))
 refine (Qig y hy).pc ⟨.self (Qw _), trivial⟩ (Qhu _) ?_;generalize Xc x = r at *;generalize Xc y = t at *
 (apply Zo;repeat' ((with_reducible first|apply Zk|(first|apply Za|apply Zb|apply Zc|apply Zd)<;>intro h)<;>try simp -implicitDefEqProofs (maxSteps:=9^7) (disch:=first|omega|(simp only [Qb];omega)) only [go_sem]))
 ·refine Fc.pure (Qcx r.num t.num (by omega) (by omega)) (by simp [Qi, clo, Qk]) (fun g => rfl) ?_
  (apply Zo;repeat' ((with_reducible first|apply Zk|(first|apply Za|apply Zb|apply Zc|apply Zd)<;>intro h)<;>try simp -implicitDefEqProofs (maxSteps:=9^7) (disch:=first|omega|(simp only [Qb];omega)) only [go_sem]))
  ·refine Fc.pure (Qcx r.den t.den (by omega) (by omega)) (by simp [Qi, clo, Qk]) (fun g => rfl) ?_
   (apply Zo;repeat' ((with_reducible first|apply Zk|(first|apply Za|apply Zb|apply Zc|apply Zd)<;>intro h)<;>try simp -implicitDefEqProofs (maxSteps:=9^7) (disch:=first|omega|(simp only [Qb];omega)) only [go_sem]))
   (refine Qo (by intro g; simp only [go_sem, ren, Ql]) ?_)
   simp_all [Qe1]
  ·skip
   (refine Qo (by intro g; simp only [go_sem, ren, Ql]) ?_)
   simp_all [Qe1]
 ·skip
  (refine Qo (by intro g; simp only [go_sem, ren, Ql]) ?_)
  simp_all [Qe1]
end Go.Proofs.YtjdbdmhjakfldaaGreat
end
section
namespace Go.Proofs.YtjdbdmhjakfldaaGreat
open Go.Bv
def Jk (s : Bool) (p q : Nat) : Rq × Int := if q = 0 then (⟨false, 0, 0⟩, 17) else (Jg s p q, 0)
theorem Qmk (a : List Nat) (g : Nat) (ha : a.length ≤ 1099511627776) (hA : Lim a) (hg : (dg B32 g).length ≤ 1099511627776) (h0 : 0 < g) : Val C 130 [NA a, .rp [Ye g] 0] (Ye (lv B32 a / g)) := by
 refine Fc.keep (Fc.bodyT Qe Tryz.func130 w130 rfl Tryz.ntmps130 Tryz.results130 (zLe rfl) ?_)
 (apply Zo;repeat' ((with_reducible first|apply Zk|(first|apply Za|apply Zb|apply Zc|apply Zd)<;>intro h)<;>try simp -implicitDefEqProofs (maxSteps:=9^7) (disch:=first|omega|(simp only [Qb];omega)) only [go_sem]))
 have hb := Xjh a (dg B32 g) ha hg hA (Xp _) (by rw [Xf]; exact h0)
 rw [Xf] at hb;refine hb.kept ⟨.self (Xl _), .self (Xl _), trivial⟩ fun v X hv => ?_
 (apply Zo;repeat' ((with_reducible first|apply Zk|(first|apply Za|apply Zb|apply Zc|apply Zd)<;>intro h)<;>try simp -implicitDefEqProofs (maxSteps:=9^7) (disch:=first|omega|(simp only [Qb];omega)) only [go_sem]))
 exact Gd.ret hv
theorem Qqv (x : Nat) : (Yq x : Int) = 0 ↔ x = 0 := by
 constructor
 ·intro h
  have := Qf1 x
  rw [show Yq x = 0 by omega] at this
  simpa using this
 ·rintro rfl; simp [Qi0]
theorem Qim (s : Bool) (a b : List Nat) (ha : a.length ≤ 1000000000000) (hb : b.length ≤ 1000000000000) (hA : Lim a) (hB : Lim b) : Val C 110 [.bool s, NA a, NA b] (.tup [Qc2 (Jk s (lv B32 a) (lv B32 b)).1, .int .i64 (Jk s (lv B32 a) (lv B32 b)).2]) := by
 have ip := Qqv (lv B32 a)
 have iq := Qqv (lv B32 b)
 have hla := Qcd hA
 refine Fc.keep (Fc.bodyT Qe Tryz.func110 w110 rfl Tryz.ntmps110 Tryz.results110 (zLe rfl) ?_)
 (apply Zo;repeat' ((with_reducible first|apply Zk|(first|apply Za|apply Zb|apply Zc|apply Zd)<;>intro h)<;>try simp -implicitDefEqProofs (maxSteps:=9^7) (disch:=first|omega|(simp only [Qb];omega)) only [go_sem]))
 refine Fc.pure (Qm0 b (by omega) hB) (by simp [Qi, clo, Qk]) (fun g => rfl) ?_
 (apply Zo;repeat' ((with_reducible first|apply Zk|(first|apply Za|apply Zb|apply Zc|apply Zd)<;>intro h)<;>try simp -implicitDefEqProofs (maxSteps:=9^7) (disch:=first|omega|(simp only [Qb];omega)) only [go_sem]))
 ·rw [Jk, if_pos (iq.1 h)];refine Gd.ret (Gd.tupL ⟨Gd.aggL ⟨Qhn _, Qnw, Qnw, trivial⟩, Qly _ _, trivial⟩)
 ·have hq0 : ¬ lv B32 b = 0 := fun hh => h (iq.2 hh)
  refine Fc.pure (Qm0 a (by omega) hA) (by simp [Qi, clo, Qk]) (fun g => rfl) ?_
  rw [Jk, if_neg hq0]
  (apply Zo;repeat' ((with_reducible first|apply Zk|(first|apply Za|apply Zb|apply Zc|apply Zd)<;>intro h)<;>try simp -implicitDefEqProofs (maxSteps:=9^7) (disch:=first|omega|(simp only [Qb];omega)) only [go_sem]))
  ·rw [Jd (.inl (ip.1 ‹_›))];refine one_val.keptF trivial fun v X hv => ?_
   obtain ⟨k1, c1, s1⟩ := Yu hv.gd
   (apply Zo;repeat' ((with_reducible first|apply Zk|(first|apply Za|apply Zb|apply Zc|apply Zd)<;>intro h)<;>try simp -implicitDefEqProofs (maxSteps:=9^7) (disch:=first|omega|(simp only [Qb];omega)) only [go_sem, k1, c1, s1]))
   refine Gd.ret (Gd.tupL ⟨Gd.aggL ⟨Qhn _, Qnw, (hv.set (q := 0) (by simp) _).gd, trivial⟩, Qly _ _, trivial⟩)
  ·have hp0 : ¬ lv B32 a = 0 := fun hh => ‹¬ (Yq (lv B32 a) : Int) = 0› (ip.2 hh)
   have hpq : ¬ (lv B32 a = 0 ∨ lv B32 b = 0) := by omega
   have hg := Qd5 hpq
   rw [Qmj hpq];refine Fc.pure (Xbv a b (by omega) (by omega) hA hB) (by simp [Qi, clo, Qk]) (fun g => by simp [Ye, NA, ren, Jy]) ?_
   have hgl := Qmr (Nat.gcd_le_left (lv B32 b) (show 0 < lv B32 a by omega))
   generalize Nat.gcd (lv B32 a) (lv B32 b) = g at *
   (apply Zo;repeat' ((with_reducible first|apply Zk|(first|apply Za|apply Zb|apply Zc|apply Zd)<;>intro h)<;>try simp -implicitDefEqProofs (maxSteps:=9^7) (disch:=first|omega|(simp only [Qb];omega)) only [go_sem]))
   refine (Qmk a g (by omega) hA (by omega) hg).keptF (Qaz 5 (by simp [go_sem, Qb1, clo, Qi, Qd])) fun v X hv => ?_
   obtain ⟨k1, c1, s1⟩ := Yu hv.gd
   (apply Zo;repeat' ((with_reducible first|apply Zk|(first|apply Za|apply Zb|apply Zc|apply Zd)<;>intro h)<;>try simp -implicitDefEqProofs (maxSteps:=9^7) (disch:=first|omega|(simp only [Qb];omega)) only [go_sem, k1, c1, s1]))
   refine (Qmk b g (by omega) hB (by omega) hg).keptF (Qaz 5 (by simp [go_sem, Qb1, clo, Qi, Qd])) fun w Y hw => ?_
   obtain ⟨k2, c2, s2⟩ := Yu hw.gd
   (apply Zo;repeat' ((with_reducible first|apply Zk|(first|apply Za|apply Zb|apply Zc|apply Zd)<;>intro h)<;>try simp -implicitDefEqProofs (maxSteps:=9^7) (disch:=first|omega|(simp only [Qb];omega)) only [go_sem, k1, c1, s1, k2, c2, s2]))
   exact Gd.ret (Gd.tupL ⟨Gd.aggL ⟨Qhn _, ((hv.app Y).set (q := 0) (by simp) _).gd, (hw.set (q := 0) (by simp) _).gd, trivial⟩, Qly _ _, trivial⟩)
theorem Qe8 (x : Raw) (h : RawOK x) : Val C 91 [Qa8 x] (Qc2 (Xc x)) := by
 have h1 := h.n1
 have h2 := h.d1
 have hm := Qim x.neg x.num x.den (by omega) (by omega) h.nL h.dL
 refine Fc.keep (Fc.bodyT Qe Tryz.func91 w91 rfl Tryz.ntmps91 Tryz.results91 (zLe rfl) ?_)
 (apply Zo;repeat' ((with_reducible first|apply Zk|(first|apply Za|apply Zb|apply Zc|apply Zd)<;>intro h)<;>try simp -implicitDefEqProofs (maxSteps:=9^7) (disch:=first|omega|(simp only [Qb];omega)) only [go_sem]))
 by_cases h0 : lv B32 x.den = 0
 ·rw [Jk, if_pos h0] at hm;refine hm.call ⟨.self rfl, .self (Xl _), .self (Xl _), trivial⟩ (by simp [clo, Qi, Qk7]) ?_
  (apply Zo;repeat' ((with_reducible first|apply Zk|(first|apply Za|apply Zb|apply Zc|apply Zd)<;>intro h)<;>try simp -implicitDefEqProofs (maxSteps:=9^7) (disch:=first|omega|(simp only [Qb];omega)) only [go_sem]))
  refine one_val.keptF trivial fun v X hv => ?_
  obtain ⟨k1, c1, s1⟩ := Yu hv.gd
  (apply Zo;repeat' ((with_reducible first|apply Zk|(first|apply Za|apply Zb|apply Zc|apply Zd)<;>intro h)<;>try simp -implicitDefEqProofs (maxSteps:=9^7) (disch:=first|omega|(simp only [Qb];omega)) only [go_sem, k1, c1, s1]))
  have e : Xc x = ⟨false, 0, 1⟩ := Jd (.inr h0)
  rw [e];exact Gd.ret (Gd.aggL ⟨Qhn _, Qnw, (hv.set (q := 1) (by simp) _).gd, trivial⟩)
 ·rw [Jk, if_neg h0] at hm;refine hm.keptF ⟨.self rfl, .self (Xl _), .self (Xl _), trivial⟩ fun v X hv => ?_
  obtain ⟨w, e, rfl, hw, he⟩ := hv.tup2;obtain ⟨v1, v2, v3, rfl, hv1, hv2, hv3⟩ := hw.agg3;obtain ⟨k2, c2, s2⟩ := Yu hv2.gd;obtain ⟨k3, c3, s3⟩ := Yu hv3.gd;rw [hv1.gd.bool_inv, he.gd.int_inv]
  (apply Zo;repeat' ((with_reducible first|apply Zk|(first|apply Za|apply Zb|apply Zc|apply Zd)<;>intro h)<;>try simp -implicitDefEqProofs (maxSteps:=9^7) (disch:=first|omega|(simp only [Qb];omega)) only [go_sem, k2, c2, s2, k3, c3, s3]))
  have e : Xc x = Jg x.neg (lv B32 x.num) (lv B32 x.den) := rfl
  rw [e];exact Gd.ret (Gd.aggL ⟨Qhn _, ((hv2.app _).set (q := 1) (by simp) _).gd, ((hv3.app _).set (q := 1) (by simp) _).gd, trivial⟩)
theorem Qhk (a b : List Nat) (ha : a.length ≤ 1000000000000) (hb : b.length ≤ 1000000000000) (hA : Lim a) (hB : Lim b) : Pu C 103 [NA a, NA b] (.bool (decide (a = b))) := by
 have hc : Qal (lv B32 a) (lv B32 b) = 0 ↔ lv B32 a = lv B32 b := by unfold Qal; split <;> (try split) <;> omega
 refine Fc.keep (Fc.bodyT Qe Tryz.func103 w103 rfl Tryz.ntmps103 Tryz.results103 (zLe rfl) ?_)
 (apply Zo;repeat' ((with_reducible first|apply Zk|(first|apply Za|apply Zb|apply Zc|apply Zd)<;>intro h)<;>try simp -implicitDefEqProofs (maxSteps:=9^7) (disch:=first|omega|(simp only [Qb];omega)) only [go_sem]))
 ·refine Fc.pure (Qrb a b (by omega) (by omega) hA hB) (by simp [Qi, clo, Qk]) (fun g => rfl) ?_
  (apply Zo;repeat' ((with_reducible first|apply Zk|(first|apply Za|apply Zb|apply Zc|apply Zd)<;>intro h)<;>try simp -implicitDefEqProofs (maxSteps:=9^7) (disch:=first|omega|(simp only [Qb];omega)) only [go_sem]))
  (refine Qo (by intro g; simp only [go_sem, ren, Ql]) ?_)
  (simp only [V.tup.injEq, List.cons.injEq, V.int.injEq, V.bool.injEq, true_and, and_true]; (try rw [Bool.eq_iff_iff]); (try simp only [decide_eq_true_eq, decide_eq_false_iff_not, Decidable.not_not, true_and, and_true, Bool.not_eq_true, Bool.not_eq_eq_eq_not, Bool.not_true, Bool.and_eq_true, Bool.or_eq_true, beq_iff_eq, bne_iff_ne, ne_eq, Bool.false_eq_true, false_iff, true_iff, iff_false, iff_true]); (try omega))
  rw [hc];exact ⟨fun hh => Qkr (b := B32) (by decide) hA hB (by omega) hh, fun hh => by rw [hh]⟩
 ·skip
  (refine Qo (by intro g; simp only [go_sem, ren, Ql]) ?_)
  (simp only [V.tup.injEq, List.cons.injEq, V.int.injEq, V.bool.injEq, true_and, and_true]; (try rw [Bool.eq_iff_iff]); (try simp only [decide_eq_true_eq, decide_eq_false_iff_not, Decidable.not_not, true_and, and_true, Bool.not_eq_true, Bool.not_eq_eq_eq_not, Bool.not_true, Bool.and_eq_true, Bool.or_eq_true, beq_iff_eq, bne_iff_ne, ne_eq, Bool.false_eq_true, false_iff, true_iff, iff_false, iff_true]); (try omega))
  intro hh; rw [hh] at h; exact h rfl
theorem Xan (x : Raw) (hx : RawOK x) : Pu C 79 [Qa8 x] (.int .i64 (if okR x then 0 else 6)) := by
 have h1 := hx.n1
 have h2 := hx.d1
 have h3 := hx.val.n1
 have h4 := hx.val.d1
 have h5 : (dg B32 (Xc x).num).length ≤ Qq (Xc x).num := Qgk _
 have h6 : (dg B32 (Xc x).den).length ≤ Qq (Xc x).den := Qgk _
 have hk : okR x = isQ (Xc x) x := rfl
 refine Fc.keep (Fc.bodyT Qe Tryz.func79 w79 rfl Tryz.ntmps79 Tryz.results79 (zLe rfl) ?_)
 (apply Zo;repeat' ((with_reducible first|apply Zk|(first|apply Za|apply Zb|apply Zc|apply Zd)<;>intro h)<;>try simp -implicitDefEqProofs (maxSteps:=9^7) (disch:=first|omega|(simp only [Qb];omega)) only [go_sem]))
 refine (Qe8 x hx).call ⟨.self (Qw _), trivial⟩ (Qk7 _) ?_;rw [hk];generalize Xc x = r at *
 (apply Zo;repeat' ((with_reducible first|apply Zk|(first|apply Za|apply Zb|apply Zc|apply Zd)<;>intro h)<;>try simp -implicitDefEqProofs (maxSteps:=9^7) (disch:=first|omega|(simp only [Qb];omega)) only [go_sem]))
 ·have hn : r.neg = x.neg := by simpa using h
  refine Fc.pure (Qhk (dg B32 r.num) x.num (by omega) (by omega) (Xp _) hx.nL) (by simp [Qi, clo, Qk]) (fun g => rfl) ?_
  (apply Zo;repeat' ((with_reducible first|apply Zk|(first|apply Za|apply Zb|apply Zc|apply Zd)<;>intro h)<;>try simp -implicitDefEqProofs (maxSteps:=9^7) (disch:=first|omega|(simp only [Qb];omega)) only [go_sem]))
  ·rename_i hm;refine Fc.pure (Qhk (dg B32 r.den) x.den (by omega) (by omega) (Xp _) hx.dL) (by simp [Qi, clo, Qk]) (fun g => rfl) ?_
   (apply Zo;repeat' ((with_reducible first|apply Zk|(first|apply Za|apply Zb|apply Zc|apply Zd)<;>intro h)<;>try simp -implicitDefEqProofs (maxSteps:=9^7) (disch:=first|omega|(simp only [Qb];omega)) only [go_sem]))
   ·skip
    (refine Qo (by intro g; simp only [go_sem, ren, Ql]) ?_)
    rw [if_pos (Qei.2 ?_)];obtain ⟨a, b, c⟩ := x
    simp_all [Qz, B32]
   ·skip
    (refine Qo (by intro g; simp only [go_sem, ren, Ql]) ?_)
    rw [if_neg fun hh => h (by rw [Qei.1 hh]; rfl)]
  ·skip
   (refine Qo (by intro g; simp only [go_sem, ren, Ql]) ?_)
   rw [if_neg fun hh => h (by rw [Qei.1 hh]; rfl)]
 ·skip
  (refine Qo (by intro g; simp only [go_sem, ren, Ql]) ?_)
  rw [if_neg fun hh => by rw [Qei.1 hh] at h; simp [Qz] at h]
theorem Qy7 (n : Int) (h1 : -9223372036854775808 ≤ n) (h2 : n < 9223372036854775808) : Val C 95 [.int .i64 n] (Ye n.natAbs) := by
 refine Fc.keep (Fc.bodyT Qe Tryz.func95 w95 rfl Tryz.ntmps95 Tryz.results95 (zLe rfl) ?_)
 (apply Zo;repeat' ((with_reducible first|apply Zk|(first|apply Za|apply Zb|apply Zc|apply Zd)<;>intro h)<;>try simp -implicitDefEqProofs (maxSteps:=9^7) (disch:=first|omega|(simp only [Qb];omega)) only [go_sem]))
 ·have e : 0 - (n + 1) = ((n.natAbs - 1 : Nat) : Int) := by omega
  (apply Zo;repeat' ((with_reducible first|apply Zk|(first|apply Za|apply Zb|apply Zc|apply Zd)<;>intro h)<;>try simp -implicitDefEqProofs (maxSteps:=9^7) (disch:=first|omega|(simp only [Qb];omega)) only [go_sem, e]))
  rw [show ((n.natAbs - 1 : Nat) : Int) + 1 = ((n.natAbs : Nat) : Int) by omega]
  refine Fc.isN (Qj0 n.natAbs (by omega)) ⟨.self rfl, trivial⟩ fun v X hv => ?_
  (apply Zo;repeat' ((with_reducible first|apply Zk|(first|apply Za|apply Zb|apply Zc|apply Zd)<;>intro h)<;>try simp -implicitDefEqProofs (maxSteps:=9^7) (disch:=first|omega|(simp only [Qb];omega)) only [go_sem]))
  exact Gd.ret hv.gd
 ·have e : n = ((n.natAbs : Nat) : Int) := by omega
  rw [e, Int.natAbs_natCast];refine Fc.isN (Qj0 n.natAbs (by omega)) ⟨.self rfl, trivial⟩ fun v X hv => ?_
  (apply Zo;repeat' ((with_reducible first|apply Zk|(first|apply Za|apply Zb|apply Zc|apply Zd)<;>intro h)<;>try simp -implicitDefEqProofs (maxSteps:=9^7) (disch:=first|omega|(simp only [Qb];omega)) only [go_sem]))
  exact Gd.ret hv.gd
theorem Qns (n : Int) (h1 : -9223372036854775808 ≤ n) (h2 : n < 9223372036854775808) : Val C 71 [.int .i64 n] (Qc2 (Zh n)) := by
 refine Fc.keep (Fc.bodyT Qe Tryz.func71 w71 rfl Tryz.ntmps71 Tryz.results71 (zLe rfl) ?_)
 (apply Zo;repeat' ((with_reducible first|apply Zk|(first|apply Za|apply Zb|apply Zc|apply Zd)<;>intro h)<;>try simp -implicitDefEqProofs (maxSteps:=9^7) (disch:=first|omega|(simp only [Qb];omega)) only [go_sem]))
 refine (Qy7 n h1 h2).keptF ⟨.self rfl, trivial⟩ fun v X hv => ?_
 obtain ⟨k1, c1, s1⟩ := Yu hv.gd
 (apply Zo;repeat' ((with_reducible first|apply Zk|(first|apply Za|apply Zb|apply Zc|apply Zd)<;>intro h)<;>try simp -implicitDefEqProofs (maxSteps:=9^7) (disch:=first|omega|(simp only [Qb];omega)) only [go_sem, k1, c1, s1]))
 refine one_val.keptF trivial fun w Y hw => ?_
 obtain ⟨k2, c2, s2⟩ := Yu hw.gd
 (apply Zo;repeat' ((with_reducible first|apply Zk|(first|apply Za|apply Zb|apply Zc|apply Zd)<;>intro h)<;>try simp -implicitDefEqProofs (maxSteps:=9^7) (disch:=first|omega|(simp only [Qb];omega)) only [go_sem, k1, c1, s1, k2, c2, s2]))
 exact Gd.ret (Gd.aggL ⟨Qhn _, ((hv.app _).set (q := 0) (by simp) _).gd, (hw.set (q := 0) (by simp) _).gd, trivial⟩)
def Xea (x : Raw) : V × V × V := (.bool x.neg, NA x.num, NA x.den)
def Xd8 (r : Rq) : V × V × V := (.bool r.neg, DV r.num, DV r.den)
def Xd (xs : List Raw) : List V := Qdb Xea xs
def Qb2 (rs : List Rq) : List V := Qdb Xd8 rs
def tnV (t : Tn) : V := .agg [.sl t.shape.length (ints t.shape), .sl t.el.length (Xd t.el)]
def tqV (t : Tq) : V := .agg [.sl t.shape.length (ints t.shape), .sl t.el.length (Qb2 t.el)]
attribute [go_sem] tnV tqV
@[go_sem] theorem Xj3 (xs : List Raw) : (Xd xs).length = xs.length * 3 := Qhp _ _
@[go_sem] theorem Xj2 (xs : List Rq) : (Qb2 xs).length = xs.length * 3 := Qhp _ _
@[go_sem] theorem Xka (xs : List Raw) (i : Nat) (h : i < xs.length) : nth (Xd xs) (i * 3) = .bool (xs.getD i r0).neg := (Qba Xea r0 xs i h).1
@[go_sem] theorem Xj9 (xs : List Raw) (i : Nat) (h : i < xs.length) : nth (Xd xs) (i * 3 + 1) = NA (xs.getD i r0).num := (Qba Xea r0 xs i h).2.1
@[go_sem] theorem Xj8 (xs : List Raw) (i : Nat) (h : i < xs.length) : nth (Xd xs) (i * 3 + 2) = NA (xs.getD i r0).den := (Qba Xea r0 xs i h).2.2
@[go_sem] theorem Xj7 (xs : List Rq) (i : Nat) (h : i < xs.length) : nth (Qb2 xs) (i * 3) = .bool (xs.getD i q0).neg := (Qba Xd8 q0 xs i h).1
@[go_sem] theorem Xj6 (xs : List Rq) (i : Nat) (h : i < xs.length) : nth (Qb2 xs) (i * 3 + 1) = DV (xs.getD i q0).num := (Qba Xd8 q0 xs i h).2.1
@[go_sem] theorem Xj5 (xs : List Rq) (i : Nat) (h : i < xs.length) : nth (Qb2 xs) (i * 3 + 2) = DV (xs.getD i q0).den := (Qba Xd8 q0 xs i h).2.2
theorem Qm (xs : List Raw) : Qi (Xd xs) = true := Qti fun x => ⟨rfl, Xl _, Xl _⟩
theorem Xo (t : Tn) : clo (tnV t) = true := by simp [tnV, clo, Qi, Qc, Qm]
theorem Kj (xs ys : List Int) (hx : xs.length ≤ 17592186044416) : Pu C 29 [.sl xs.length (ints xs), .sl ys.length (ints ys)] (.bool (decide (xs = ys))) := by
 refine Fc.keep (Fc.bodyT Qe Tryz.func29 w29 rfl Tryz.ntmps29 Tryz.results29 (zLe rfl) ?_)
 (apply Zo;repeat' ((with_reducible first|apply Zk|(first|apply Za|apply Zb|apply Zc|apply Zd)<;>intro h)<;>try simp -implicitDefEqProofs (maxSteps:=9^7) (disch:=first|omega|(simp only [Qb];omega)) only [go_sem]))
 ·skip
  (refine Qo (by intro g; simp only [go_sem, ren, Ql]) ?_)
  (simp only [V.tup.injEq, List.cons.injEq, V.int.injEq, V.bool.injEq, true_and, and_true]; (try rw [Bool.eq_iff_iff]); (try simp only [decide_eq_true_eq, decide_eq_false_iff_not, Decidable.not_not, true_and, and_true, Bool.not_eq_true, Bool.not_eq_eq_eq_not, Bool.not_true, Bool.and_eq_true, Bool.or_eq_true, beq_iff_eq, bne_iff_ne, ne_eq, Bool.false_eq_true, false_iff, true_iff, iff_false, iff_true]); (try omega))
  intro hh; subst hh; omega
 ·skip
  refine Qf (fun n ts H => ∃ (i : Nat), (i ≤ xs.length) ∧ ((∀ j, j < i → xs.getD j 0 = ys.getD j 0)) ∧ (n = xs.length - i) ∧ (H = []) ∧ ts.length = 26 ∧ nth ts 0 = .sl xs.length (ints xs) ∧ nth ts 1 = .sl ys.length (ints ys) ∧ nth ts 5 = .int .i64 (i : Nat)) ?_ (n := xs.length) ?_
  ·skip
   rintro n ts H ⟨i, hi, hI, hn, hH, hL, hs0, hs1, hs5⟩;refine Qv [(0, .sl xs.length (ints xs)), (1, .sl ys.length (ints ys)), (5, .int .i64 (i : Nat))] hL (by simp only [zFm, hs0, hs1, hs5, true_and]; exact zNm) ?_
   clear hL hs0 hs1 hs5 ts
   refine Qu Qe ?_;subst hH
   have hl : xs.length = ys.length := by omega
   (apply Zo;repeat' ((with_reducible first|apply Zk|(first|apply Za|apply Zb|apply Zc|apply Zd)<;>intro h)<;>try simp -implicitDefEqProofs (maxSteps:=9^7) (disch:=first|omega|(simp only [Qb];omega)) only [go_sem]))
   ·skip
    (refine Qo (by intro g; simp only [go_sem, ren, Ql]) ?_)
    (simp only [V.tup.injEq, List.cons.injEq, V.int.injEq, V.bool.injEq, true_and, and_true]; (try rw [Bool.eq_iff_iff]); (try simp only [decide_eq_true_eq, decide_eq_false_iff_not, Decidable.not_not, true_and, and_true, Bool.not_eq_true, Bool.not_eq_eq_eq_not, Bool.not_true, Bool.and_eq_true, Bool.or_eq_true, beq_iff_eq, bne_iff_ne, ne_eq, Bool.false_eq_true, false_iff, true_iff, iff_false, iff_true]); (try omega))
    rintro rfl;exact absurd rfl ‹xs.getD i 0 ≠ xs.getD i 0›
   ·have hI' : ∀ j, j < i + 1 → xs.getD j 0 = ys.getD j 0 := fun j hj => by
     by_cases e : j = i
     ·subst e; assumption
     ·exact hI j (by omega)
    exact ⟨xs.length - (i + 1), by omega, i + 1, (by (repeat' apply And.intro) <;> (first | rfl | omega | (congr 1; omega) | assumption | (congr 1; assumption)))⟩
   ·skip
    (refine Qo (by intro g; simp only [go_sem, ren, Ql]) ?_)
    (simp only [V.tup.injEq, List.cons.injEq, V.int.injEq, V.bool.injEq, true_and, and_true]; (try rw [Bool.eq_iff_iff]); (try simp only [decide_eq_true_eq, decide_eq_false_iff_not, Decidable.not_not, true_and, and_true, Bool.not_eq_true, Bool.not_eq_eq_eq_not, Bool.not_true, Bool.and_eq_true, Bool.or_eq_true, beq_iff_eq, bne_iff_ne, ne_eq, Bool.false_eq_true, false_iff, true_iff, iff_false, iff_true]); (try omega))
    refine List.ext_getElem hl fun j h1 h2 => ?_
    have := hI j (by omega)
    simpa [List.getD, h1, h2] using this
  ·exact ⟨0, by omega, fun j hj => by omega, rfl, rfl, rfl, rfl, rfl, rfl⟩
theorem Qwe {xs : List Rq} {i : Nat} (h : i < xs.length) : Qb2 (xs.take (i + 1)) = Qb2 (xs.take i) ++ [.bool (xs.getD i q0).neg, DV (xs.getD i q0).num, DV (xs.getD i q0).den] := by
 rw [Qh4 xs q0 h, Qb2, Qem]; rfl
theorem Qwf {xs : List Raw} {i : Nat} (h : i < xs.length) : Xd (xs.take (i + 1)) = Xd (xs.take i) ++ [.bool (xs.getD i r0).neg, NA (xs.getD i r0).num, NA (xs.getD i r0).den] := by
 rw [Qh4 xs r0 h, Xd, Qem]; rfl
theorem Qj8 {xs : List Rq} {i : Nat} (h : i < xs.length) : Xd ((xs.map Qz).take (i + 1)) = Xd ((xs.map Qz).take i) ++ [.bool (xs.getD i q0).neg, Ye (xs.getD i q0).num, Ye (xs.getD i q0).den] := by
 rw [Qwf (by simpa using h)]
 have : (xs.map Qz).getD i r0 = Qz (xs.getD i q0) := by simp [List.getD, h]
 rw [this]; rfl
theorem Qqx (t : Tq) (ht : TqOK t) : Val C 85 [tqV t] (tnV (Jq t)) := by
 have hs := ht.s
 have he := ht.e
 refine Fc.keep (Fc.bodyT Qe Tryz.func85 w85 rfl Tryz.ntmps85 Tryz.results85 (zLe rfl) ?_)
 (apply Zo;repeat' ((with_reducible first|apply Zk|(first|apply Za|apply Zb|apply Zc|apply Zd)<;>intro h)<;>try simp -implicitDefEqProofs (maxSteps:=9^7) (disch:=first|omega|(simp only [Qb];omega)) only [go_sem]))
 refine Qf (fun n ts H => ∃ (i : Nat) (u : V), (i ≤ t.el.length) ∧ (Qd H 0 = some ⟨34, 2, [.sl t.shape.length (ints t.shape), .sl t.el.length (Qb2 t.el)]⟩) ∧ (Qd H 1 = some ⟨26, 2, [.nil, .nil]⟩) ∧ (Qd H 2 = some ⟨3, 1, ints t.shape⟩) ∧ (Qd H 3 = some ⟨26, 2, [.ref 2 0 t.shape.length, u]⟩) ∧ (Cel 4 58 3 H u i (Xd ((t.el.map Qz).take i))) ∧ (n = t.el.length - i) ∧ ts.length = 28 ∧ nth ts 1 = .ptr 0 0 ∧ nth ts 2 = .ptr 1 0 ∧ nth ts 3 = .ptr 3 0 ∧ nth ts 4 = .int .i64 (i : Nat)) ?_ (n := t.el.length) ?_
 ·skip
  rintro n ts H ⟨i, u, hi, h0, h1, h2, h3, hu, hn, hL, hs1, hs2, hs3, hs4⟩;refine Qv [(1, .ptr 0 0), (2, .ptr 1 0), (3, .ptr 3 0), (4, .int .i64 (i : Nat))] hL (by simp only [zFm, hs1, hs2, hs3, hs4, true_and]; exact zNm) ?_
  clear hL hs1 hs2 hs3 hs4 ts
  refine Qu Qe ?_
  have hlen := Xg h3
  by_cases hcase : i < t.el.length
  ·have hx := ht.get hcase
   (apply Zo;repeat' ((with_reducible first|apply Zk|(first|apply Za|apply Zb|apply Zc|apply Zd)<;>intro h)<;>try simp -implicitDefEqProofs (maxSteps:=9^7) (disch:=first|omega|(simp only [Qb];omega)) only [go_sem, h0, h3]))
   refine Pc.keptF (Qqy _ hx) (Ql9 _) ⟨.self (Qhu _), trivial⟩ fun v X hv => ?_
   obtain ⟨v1, v2, v3, rfl, hv1, hv2, hv3⟩ := hv.agg3;obtain ⟨k2, c2, s2⟩ := Yu hv2.gd;obtain ⟨k3, c3, s3⟩ := Yu hv3.gd
   have e1 := hv1.gd.bool_inv
   subst e1
   (apply Zo;repeat' ((with_reducible first|apply Zk|(first|apply Za|apply Zb|apply Zc|apply Zd)<;>intro h)<;>try simp -implicitDefEqProofs (maxSteps:=9^7) (disch:=first|omega|(simp only [Qb];omega)) only [go_sem, h0, h3, k2, c2, s2, k3, c3, s3]))
   refine Cel.push3 hu rfl rfl (by omega) (by omega) hv2 hv3 s2 s3 fun v' H' hu' hk' k4 c4 s4 => ?_
   have g0 := hk' 0 _ (by decide) h0
   have g1 := hk' 1 _ (by decide) h1
   have g2 := hk' 2 _ (by decide) h2
   have g3 := hk' 3 _ (by decide) h3
   (apply Zo;repeat' ((with_reducible first|apply Zk|(first|apply Za|apply Zb|apply Zc|apply Zd)<;>intro h)<;>try simp -implicitDefEqProofs (maxSteps:=9^7) (disch:=first|omega|(simp only [Qb];omega)) only [go_sem, g3, k4, c4, s4]))
   have f0 : ∀ (q : Nat) (row : Row) (z : Option Row), q ≠ 3 → Qd H' q = some row → Qd (H'.set 3 z) q = some row := fun q row z hq hr => by rw [Qh _ (Ne.symm hq)]; exact hr
   refine ⟨t.el.length - (i + 1), by omega, i + 1, v', by omega, f0 0 _ _ (by decide) g0, f0 1 _ _ (by decide) g1, f0 2 _ _ (by decide) g2, Qg g3, ?_, rfl, by congr 1⟩
   rw [Qj8 hcase];exact Cel.set hu' (by decide) _
  ·obtain ⟨k4, c4, s4⟩ := Cel.kn hu
   have hs1 : ∀ z : Row, Qd (H.set 1 (some z)) 1 = some z := fun z => Qg h1
   (apply Zo;repeat' ((with_reducible first|apply Zk|(first|apply Za|apply Zb|apply Zc|apply Zd)<;>intro h)<;>try simp -implicitDefEqProofs (maxSteps:=9^7) (disch:=first|omega|(simp only [Qb];omega)) only [go_sem, h0, h1, h3, hs1, k4, c4, s4]))
   have hil : i = t.el.length := by omega
   rw [hil, List.take_of_length_le (by simp)] at hu
   have hg := Cel.gd (Cel.set hu (q := 1) (by decide) (some ⟨26, 2, [.ref 2 0 t.shape.length, u]⟩))
   refine Gd.ret (Gd.aggL ⟨?_, ?_, trivial⟩)
   ·exact .flat 2 _ _ _ _ (by rw [Qh _ (by decide)]; exact h2) (Qc _) (Zl _)
   ·simpa [Qao, Jq] using hg
 ·exact ⟨0, .nil, by omega, rfl, rfl, rfl, rfl, Cel.nil _ _ _ _, rfl, rfl, rfl, rfl, rfl, rfl⟩
end Go.Proofs.YtjdbdmhjakfldaaGreat
end
section
namespace Go.Proofs.YtjdbdmhjakfldaaGreat
open Go.Bv
def Zt (t : Tn) : Int := if Yo t.shape ≠ 0 then Yo t.shape else if (t.el.length : Int) ≠ countP t.shape then 13 else 0
def Yy (t : Tn) : Int := if Zt t ≠ 0 then Zt t else if t.el.all okR then 0 else 6
theorem Qjz {α : Type} {xs : List α} {p : α → Bool} (d : α) : xs.all p = true ↔ ∀ j, j < xs.length → p (xs.getD j d) = true := by
 rw [List.all_eq_true];constructor
 ·intro h j hj
  have e : xs.getD j d = xs[j] := by simp [List.getD, hj]
  rw [e]; exact h _ (List.getElem_mem hj)
 ·intro h x hx;obtain ⟨j, hj, rfl⟩ := List.mem_iff_getElem.1 hx
  have e : xs.getD j d = xs[j] := by simp [List.getD, hj]
  rw [← e]; exact h j hj
theorem Qgj (t : Tn) (ht : TnOK t) : Pu C 26 [tnV t] (.int .i64 (Yy t)) := by
 have hs := ht.s
 have he := ht.e
 refine Fc.keep (Fc.bodyT Qe Tryz.func26 w26 rfl Tryz.ntmps26 Tryz.results26 (zLe rfl) ?_)
 (apply Zo;repeat' ((with_reducible first|apply Zk|(first|apply Za|apply Zb|apply Zc|apply Zd)<;>intro h)<;>try simp -implicitDefEqProofs (maxSteps:=9^7) (disch:=first|omega|(simp only [Qb];omega)) only [go_sem]))
 refine Fc.pure (Qmz t.shape (by omega)) (by simp [Qi, clo, Qc]) (fun g => rfl) ?_
 (apply Zo;repeat' ((with_reducible first|apply Zk|(first|apply Za|apply Zb|apply Zc|apply Zd)<;>intro h)<;>try simp -implicitDefEqProofs (maxSteps:=9^7) (disch:=first|omega|(simp only [Qb];omega)) only [go_sem]))
 ·skip
  (refine Qo (by intro g; simp only [go_sem, ren, Ql]) ?_)
  have hf : Zt t = Yo t.shape := by rw [Zt, if_pos h]
  rw [Yy, hf, if_pos h]
 ·have hm : Yo t.shape = 0 := by omega
  refine Pc.pure (Qra t.shape (by omega)) (by simp [Qi, clo, Qc]) (fun g => rfl) ?_
  (apply Zo;repeat' ((with_reducible first|apply Zk|(first|apply Za|apply Zb|apply Zc|apply Zd)<;>intro h)<;>try simp -implicitDefEqProofs (maxSteps:=9^7) (disch:=first|omega|(simp only [Qb];omega)) only [go_sem]))
  ·skip
   (refine Qo (by intro g; simp only [go_sem, ren, Ql]) ?_)
   have hf : Zt t = 13 := by rw [Zt, if_neg (by omega), if_pos (by assumption)]
   rw [Yy, hf, if_pos (by decide)]
  ·have hf : Zt t = 0 := by rw [Zt, if_neg (by omega), if_neg (by omega)]
   have hmt : Yy t = if t.el.all okR then 0 else 6 := by rw [Yy, hf, if_neg (by decide)]
   refine Qf (fun n ts H => ∃ (i : Nat), (i ≤ t.el.length) ∧ ((∀ j, j < i → okR (t.el.getD j r0) = true)) ∧ (Qd H 0 = some ⟨26, 2, [.sl t.shape.length (ints t.shape), .sl t.el.length (Xd t.el)]⟩) ∧ (n = t.el.length - i) ∧ ts.length = 32 ∧ nth ts 1 = .ptr 0 0 ∧ nth ts 4 = .int .i64 (i : Nat)) ?_ (n := t.el.length) ?_
   ·skip
    rintro n ts H ⟨i, hi, hI, h0, hn, hL, hs1, hs4⟩;refine Qv [(1, .ptr 0 0), (4, .int .i64 (i : Nat))] hL (by simp only [zFm, hs1, hs4, true_and]; exact zNm) ?_
    clear hL hs1 hs4 ts
    refine Qu Qe ?_;by_cases hcase : i < t.el.length
    ·skip
     (apply Zo;repeat' ((with_reducible first|apply Zk|(first|apply Za|apply Zb|apply Zc|apply Zd)<;>intro h)<;>try simp -implicitDefEqProofs (maxSteps:=9^7) (disch:=first|omega|(simp only [Qb];omega)) only [go_sem, h0]))
     refine Fc.pure (Qsm (t.el.getD i r0) (ht.get hcase)) (by simp [Qi, clo, Qk]) (fun g => rfl) ?_
     cases hb : okR (t.el.getD i r0) with
     | true =>
      rw [if_pos rfl]
      (apply Zo;repeat' ((with_reducible first|apply Zk|(first|apply Za|apply Zb|apply Zc|apply Zd)<;>intro h)<;>try simp -implicitDefEqProofs (maxSteps:=9^7) (disch:=first|omega|(simp only [Qb];omega)) only [go_sem, h0]))
      have hI' : ∀ j, j < i + 1 → okR (t.el.getD j r0) = true := Qlh hI hb
      exact ⟨t.el.length - (i + 1), by omega, i + 1, (by (repeat' apply And.intro) <;> (first | rfl | omega | (congr 1; omega) | assumption | (congr 1; assumption)))⟩
     | false =>
      rw [if_neg (by decide)]
      (apply Zo;repeat' ((with_reducible first|apply Zk|(first|apply Za|apply Zb|apply Zc|apply Zd)<;>intro h)<;>try simp -implicitDefEqProofs (maxSteps:=9^7) (disch:=first|omega|(simp only [Qb];omega)) only [go_sem, h0]))
      (refine Qo (by intro g; simp only [go_sem, ren, Ql]) ?_)
      rw [hmt, if_neg];intro hh
      have := (Qjz r0).1 hh i hcase
      rw [hb] at this; cases this
    ·skip
     (apply Zo;repeat' ((with_reducible first|apply Zk|(first|apply Za|apply Zb|apply Zc|apply Zd)<;>intro h)<;>try simp -implicitDefEqProofs (maxSteps:=9^7) (disch:=first|omega|(simp only [Qb];omega)) only [go_sem, h0]))
     (refine Qo (by intro g; simp only [go_sem, ren, Ql]) ?_)
     rw [hmt, if_pos ((Qjz r0).2 fun j hj => hI j (by omega))]
   ·exact ⟨0, by omega, fun j hj => by omega, rfl, rfl, rfl, rfl, rfl⟩
def Qj5 (a b : Tn) : Bool := decide (a.shape = b.shape) && (decide (a.el.length = b.el.length) && (List.range a.el.length).all fun i => Qe1 (Xc (a.el.getD i r0)) (Xc (b.el.getD i r0)))
theorem Qh7 {n : Nat} {p : Nat → Bool} : (List.range n).all p = true ↔ ∀ i, i < n → p i = true := by simp
theorem Qe2 (a b : Tn) (ha : TnOK a) (hb : TnOK b) : Pu C 28 [tnV a, tnV b] (.bool (Qj5 a b)) := by
 have hs := ha.s
 have he := ha.e
 have hs' := hb.s
 have he' := hb.e
 refine Fc.keep (Fc.bodyT Qe Tryz.func28 w28 rfl Tryz.ntmps28 Tryz.results28 (zLe rfl) ?_)
 (apply Zo;repeat' ((with_reducible first|apply Zk|(first|apply Za|apply Zb|apply Zc|apply Zd)<;>intro h)<;>try simp -implicitDefEqProofs (maxSteps:=9^7) (disch:=first|omega|(simp only [Qb];omega)) only [go_sem]))
 refine Fc.pure (Kj a.shape b.shape (by omega)) (by simp [Qi, clo, Qc]) (fun g => rfl) ?_
 (apply Zo;repeat' ((with_reducible first|apply Zk|(first|apply Za|apply Zb|apply Zc|apply Zd)<;>intro h)<;>try simp -implicitDefEqProofs (maxSteps:=9^7) (disch:=first|omega|(simp only [Qb];omega)) only [go_sem]))
 ·have hel : ¬ a.el.length = b.el.length := by omega
  (refine Qo (by intro g; simp only [go_sem, ren, Ql]) ?_)
  congr 1
  symm
  simp [Qj5, hel]
 ·have hel : a.el.length = b.el.length := by omega
  ·skip
   refine Qf (fun n ts H => ∃ (i : Nat), (i ≤ a.el.length) ∧ ((∀ j, j < i → Qe1 (Xc (a.el.getD j r0)) (Xc (b.el.getD j r0)) = true)) ∧ (Qd H 0 = some ⟨26, 2, [.sl a.shape.length (ints a.shape), .sl a.el.length (Xd a.el)]⟩) ∧ (Qd H 1 = some ⟨26, 2, [.sl b.shape.length (ints b.shape), .sl b.el.length (Xd b.el)]⟩) ∧ (n = a.el.length - i) ∧ ts.length = 40 ∧ nth ts 2 = .ptr 0 0 ∧ nth ts 3 = .ptr 1 0 ∧ nth ts 5 = .int .i64 (i : Nat)) ?_ (n := a.el.length) ?_
   ·skip
    rintro n ts H ⟨i, hi, hI, h0, h1, hn, hL, hs2, hs3, hs5⟩;refine Qv [(2, .ptr 0 0), (3, .ptr 1 0), (5, .int .i64 (i : Nat))] hL (by simp only [zFm, hs2, hs3, hs5, true_and]; exact zNm) ?_
    clear hL hs2 hs3 hs5 ts
    refine Qu Qe ?_;by_cases hcase : i < a.el.length
    ·skip
     (apply Zo;repeat' ((with_reducible first|apply Zk|(first|apply Za|apply Zb|apply Zc|apply Zd)<;>intro h)<;>try simp -implicitDefEqProofs (maxSteps:=9^7) (disch:=first|omega|(simp only [Qb];omega)) only [go_sem, h0, h1]))
     refine Pc.pure (Qbi (a.el.getD i r0) (b.el.getD i r0) (ha.get hcase) (hb.get (by omega))) (by simp [Qi, clo, Qk]) (fun g => rfl) ?_
     cases hbb : Qe1 (Xc (a.el.getD i r0)) (Xc (b.el.getD i r0)) with
     | true =>
      (apply Zo;repeat' ((with_reducible first|apply Zk|(first|apply Za|apply Zb|apply Zc|apply Zd)<;>intro h)<;>try simp -implicitDefEqProofs (maxSteps:=9^7) (disch:=first|omega|(simp only [Qb];omega)) only [go_sem, h0, h1]))
      have hI' : ∀ j, j < i + 1 → Qe1 (Xc (a.el.getD j r0)) (Xc (b.el.getD j r0)) = true := Qlh hI hbb
      exact ⟨a.el.length - (i + 1), by omega, i + 1, (by (repeat' apply And.intro) <;> (first | rfl | omega | (congr 1; omega) | assumption | (congr 1; assumption)))⟩
     | false =>
      (apply Zo;repeat' ((with_reducible first|apply Zk|(first|apply Za|apply Zb|apply Zc|apply Zd)<;>intro h)<;>try simp -implicitDefEqProofs (maxSteps:=9^7) (disch:=first|omega|(simp only [Qb];omega)) only [go_sem, h0, h1]))
      (refine Qo (by intro g; simp only [go_sem, ren, Ql]) ?_)
      congr 1
      symm
      rw [Bool.eq_false_iff];intro hh;simp only [Qj5, Bool.and_eq_true, Qh7] at hh
      have := hh.2.2 i hcase
      rw [hbb] at this; cases this
    ·skip
     (apply Zo;repeat' ((with_reducible first|apply Zk|(first|apply Za|apply Zb|apply Zc|apply Zd)<;>intro h)<;>try simp -implicitDefEqProofs (maxSteps:=9^7) (disch:=first|omega|(simp only [Qb];omega)) only [go_sem, h0, h1]))
     (refine Qo (by intro g; simp only [go_sem, ren, Ql]) ?_)
     congr 1
     symm
     simp only [Qj5, Bool.and_eq_true, Qh7, decide_eq_true_eq];exact ⟨by assumption, hel, fun j hj => hI j (by omega)⟩
   ·exact ⟨0, by omega, fun j hj => by omega, rfl, rfl, rfl, rfl, rfl, rfl, rfl⟩
 ·skip
  (refine Qo (by intro g; simp only [go_sem, ren, Ql]) ?_)
  congr 1
  symm
  simp [Qj5, h]
theorem Qmo (t : Tn) (ht : TnOK t) : Pu C 78 [tnV t] (.int .i64 (Zt t)) := by
 have hs := ht.s
 have he := ht.e
 refine Fc.keep (Fc.bodyT Qe Tryz.func78 w78 rfl Tryz.ntmps78 Tryz.results78 (zLe rfl) ?_)
 (apply Zo;repeat' ((with_reducible first|apply Zk|(first|apply Za|apply Zb|apply Zc|apply Zd)<;>intro h)<;>try simp -implicitDefEqProofs (maxSteps:=9^7) (disch:=first|omega|(simp only [Qb];omega)) only [go_sem]))
 refine Fc.pure (Qfr t.shape (by omega)) (by simp [Qi, clo, Qc]) (fun g => rfl) ?_
 (apply Zo;repeat' ((with_reducible first|apply Zk|(first|apply Za|apply Zb|apply Zc|apply Zd)<;>intro h)<;>try simp -implicitDefEqProofs (maxSteps:=9^7) (disch:=first|omega|(simp only [Qb];omega)) only [go_sem]))
 ·skip
  (refine Qo (by intro g; simp only [go_sem, ren, Ql]) ?_)
  rw [Zt, if_pos h]
 ·refine Pc.pure (Qll t.shape (by omega)) (by simp [Qi, clo, Qc]) (fun g => rfl) ?_
  (apply Zo;repeat' ((with_reducible first|apply Zk|(first|apply Za|apply Zb|apply Zc|apply Zd)<;>intro h)<;>try simp -implicitDefEqProofs (maxSteps:=9^7) (disch:=first|omega|(simp only [Qb];omega)) only [go_sem]))
  ·skip
   (refine Qo (by intro g; simp only [go_sem, ren, Ql]) ?_)
   rw [Zt, if_neg (by omega), if_pos (by assumption)]
  ·skip
   (refine Qo (by intro g; simp only [go_sem, ren, Ql]) ?_)
   rw [Zt, if_neg (by omega), if_neg (by omega)]
theorem Qnk (t : Tn) : Pu C 72 [tnV t] (tnV t) := by
 refine Fc.keep (Fc.bodyT Qe Tryz.func72 w72 rfl Tryz.ntmps72 Tryz.results72 (zLe rfl) ?_)
 (apply Zo;repeat' ((with_reducible first|apply Zk|(first|apply Za|apply Zb|apply Zc|apply Zd)<;>intro h)<;>try simp -implicitDefEqProofs (maxSteps:=9^7) (disch:=first|omega|(simp only [Qb];omega)) only [go_sem]))
 exact Qo (fun g => by simp [ren, Ql, Qy, Yw _ _ (Qm t.el)]) rfl
theorem Xl1 : Tryz.f97.body.all yOK = true := by kernel_rfl
def Qq3 (t : Tn) : V := .fn (.func 97) [] [.rp [.sl t.shape.length (ints t.shape), .sl t.el.length (Xd t.el)] 0]
theorem Qlg (t : Tn) : Pu C 73 [tnV t] (Qq3 t) := by
 refine Fc.keep (Fc.sealR ?_);refine Fc.bodyT Qe Tryz.func73 w73 rfl Tryz.ntmps73 Tryz.results73 (zLe rfl) ?_
 (apply Zo;repeat' ((with_reducible first|apply Zk|(first|apply Za|apply Zb|apply Zc|apply Zd)<;>intro h)<;>try simp -implicitDefEqProofs (maxSteps:=9^7) (disch:=first|omega|(simp only [Qb];omega)) only [go_sem]))
 refine ⟨0, _, 2, [.sl t.shape.length (ints t.shape), .sl t.el.length (Xd t.el)], rfl, by simp [Qi, clo, Qc, Qm], [], by simp, by simp, ?_⟩
 simp [sz, szL, ren, Ql, Qq3, Qdg, Qy, Yw _ _ (Qm t.el)]
def Qby (t : Tn) : List (List V) := (List.range t.el.length).map fun i => [.int .i64 (i : Nat), Qa8 (t.el.getD i r0)]
theorem Qeh {t : Tn} {i : Nat} (h : i < t.el.length) : (Qby t)[i]? = some [.int .i64 (i : Nat), Qa8 (t.el.getD i r0)] := by simp [Qby, h]
theorem Kn (t : Tn) : (Qby t).length = t.el.length := by simp [Qby]
theorem Qon (t : Tn) (ht : TnOK t) : Gen C 97 [.rp [.sl t.shape.length (ints t.shape), .sl t.el.length (Xd t.el)] 0] (Qby t) := by
 have he := ht.e
 refine Gen.of3 Qe Tryz.func97 w97 Xl1 rfl Tryz.ntmps97 Tryz.results97 (zLe rfl) (fun bs hb => by
  simp only [Qby, List.mem_map, List.mem_range] at hb;obtain ⟨i, _, rfl⟩ := hb;simp [Qi, clo, Qw]) ?_
 intro G l J hW
 (apply Zo;repeat' ((with_reducible first|apply Zk|(first|apply Za|apply Zb|apply Zc|apply Zd)<;>intro h)<;>try simp -implicitDefEqProofs (maxSteps:=9^7) (disch:=first|omega|(simp only [Qb];omega)) only [go_sem]))
 refine Qa2 (fun n ts H => ∃ (i : Nat), (i ≤ t.el.length) ∧ (n = t.el.length - i) ∧ (H.length = i) ∧ ts.length = 19 ∧ nth ts 0 = .fn (.yield l) [] [] ∧ nth ts 6 = .sl t.el.length (Xd t.el) ∧ nth ts 7 = .int .i64 (t.el.length : Nat) ∧ nth ts 8 = .int .i64 (i : Nat)) ?_ (n := t.el.length) ?_
 ·skip
  rintro n ts H ⟨i, hi, hn, hH, hL, hs0, hs6, hs7, hs8⟩;refine Qh0 [(0, .fn (.yield l) [] []), (6, .sl t.el.length (Xd t.el)), (7, .int .i64 (t.el.length : Nat)), (8, .int .i64 (i : Nat))] hL (by simp only [zFm, hs0, hs6, hs7, hs8, true_and]; exact zNm) ?_
  clear hL hs0 hs6 hs7 hs8 ts
  refine hW _ _ _ _ ?_;by_cases hcase : i < t.el.length
  ·skip
   (apply Zo;repeat' ((with_reducible first|apply Zk|(first|apply Za|apply Zb|apply Zc|apply Zd)<;>intro h)<;>try simp -implicitDefEqProofs (maxSteps:=9^7) (disch:=first|omega|(simp only [Qb];omega)) only [go_sem]))
   refine ⟨_, _, _, 19, [(0, .fn (.yield l) [] []), (3, .int .i64 (i : Nat)), (4, .rp [.bool (t.el.getD i r0).neg, NA (t.el.getD i r0).num, NA (t.el.getD i r0).den] 0), (6, .sl t.el.length (Xd t.el)), (7, .int .i64 (t.el.length : Nat)), (8, .int .i64 (i : Nat))], rfl, ?_, by simp [Ko], ?_, ?_⟩
   ·simp [Qi, clo, Qk]
   ·simp only [zFm, Qbc, List.not_mem_nil, false_implies, implies_true, and_true];refine ⟨⟨?_, ?_⟩, ⟨?_, ?_⟩, ⟨?_, ?_⟩, ⟨?_, ?_⟩, ⟨?_, ?_⟩, ⟨?_, ?_⟩⟩
    all_goals first | rfl | (simp [clo, Qi, Qm, Xl]; done) | skip
    ·show sz (List.length H) _ (.ptr (List.length H) 0) = _
     rw [sz, if_pos rfl]; rfl
    ·exact Qy2 _ _ (.sl t.el.length (Xd t.el)) (Qm _)
   ·skip
    (apply Zo;repeat' ((with_reducible first|apply Zk|(first|apply Za|apply Zb|apply Zc|apply Zd)<;>intro h)<;>try simp -implicitDefEqProofs (maxSteps:=9^7) (disch:=first|omega|(simp only [Qb];omega)) only [go_sem]))
    rw [hH, Kn];refine ⟨Qeh hcase, ⟨t.el.length - (i + 1), by omega, i + 1, by omega, rfl, rfl, rfl⟩, .inr trivial, .inr ?_⟩
    rw [List.length_replicate]; omega
  ·skip
   (apply Zo;repeat' ((with_reducible first|apply Zk|(first|apply Za|apply Zb|apply Zc|apply Zd)<;>intro h)<;>try simp -implicitDefEqProofs (maxSteps:=9^7) (disch:=first|omega|(simp only [Qb];omega)) only [go_sem]))
   rw [Kn];exact ⟨.inl trivial, .inl (by omega)⟩
 ·exact ⟨0, by omega, by omega, rfl, rfl, rfl, rfl, rfl, rfl⟩
theorem Qdq (t : Tn) (ht : TnOK t) : Pu C 39 [tnV t] (.int .i64 (Yy t)) := by
 have hs := ht.s
 have he := ht.e
 have hv : Qq3 t = .fn (.func 97) [] [.rp [.sl t.shape.length (ints t.shape), .sl t.el.length (Xd t.el)] 0] := rfl
 refine Fc.keep (Fc.bodyT Qe Tryz.func39 w39 rfl Tryz.ntmps39 Tryz.results39 (zLe rfl) ?_)
 (apply Zo;repeat' ((with_reducible first|apply Zk|(first|apply Za|apply Zb|apply Zc|apply Zd)<;>intro h)<;>try simp -implicitDefEqProofs (maxSteps:=9^7) (disch:=first|omega|(simp only [Qb];omega)) only [go_sem]))
 refine Fc.pure (Qmo t ht) (by simp [Qi, clo, Qc, Qm]) (fun g => rfl) ?_
 (apply Zo;repeat' ((with_reducible first|apply Zk|(first|apply Za|apply Zb|apply Zc|apply Zd)<;>intro h)<;>try simp -implicitDefEqProofs (maxSteps:=9^7) (disch:=first|omega|(simp only [Qb];omega)) only [go_sem]))
 ·skip
  (refine Qo (by intro g; simp only [go_sem, ren, Ql]) ?_)
  rw [Yy, if_pos h]
 ·have hf : Zt t = 0 := by omega
  have hmt : Yy t = if t.el.all okR then 0 else 6 := by rw [Yy, hf, if_neg (by decide)]
  refine Fc.pure (Qnk t) (by simp [Qi, clo, Qc, Qm]) (fun g => by simp [tnV, ren, Ql, Qy, Yw _ _ (Qm t.el)]) ?_
  (apply Zo;repeat' ((with_reducible first|apply Zk|(first|apply Za|apply Zb|apply Zc|apply Zd)<;>intro h)<;>try simp -implicitDefEqProofs (maxSteps:=9^7) (disch:=first|omega|(simp only [Qb];omega)) only [go_sem]))
  refine Fc.pure (Qlg t) (by simp [Qi, clo, Qc, Qm]) (fun g => by simp [Qq3, ren, Ql, Qy, Yw _ _ (Qm t.el)]) ?_
  (apply Zo;repeat' ((with_reducible first|apply Zk|(first|apply Za|apply Zb|apply Zc|apply Zd)<;>intro h)<;>try simp -implicitDefEqProofs (maxSteps:=9^7) (disch:=first|omega|(simp only [Qb];omega)) only [go_sem, hv]))
  refine Ks (g := 97) (lb := [.rp [.sl t.shape.length (ints t.shape), .sl t.el.length (Xd t.el)] 0]) (xs := Qby t) (by simp -implicitDefEqProofs (maxSteps:=9^7) (disch := first | omega | (simp only [Qb]; omega)) only [go_sem]) (by simp [Qi, clo, Qc, Qm]) (Qon t ht) (fun bs hb => by
   simp only [Qby, List.mem_map, List.mem_range] at hb;obtain ⟨i, _, rfl⟩ := hb
   rfl) (fun k H => (∀ j, j < k → okR (t.el.getD j r0) = true) ∧ Qd H 1 = some ⟨27, 1, [.int .i64 0]⟩) ⟨fun j hj => by omega, rfl⟩ ?_ ?_
  ·rintro k us H hk ⟨hI, h1⟩ l
   have hkl : k < t.el.length := by
    have := (List.getElem?_eq_some_iff.1 hk).1
    rwa [Kn] at this
   rw [Qeh hkl] at hk;injection hk with hk
   subst hk
   have h1' : ∀ X, Qd (H ++ X) 1 = some ⟨27, 1, [.int .i64 0]⟩ := fun X => Qj h1 X
   (refine Qu Qe ?_; simp -implicitDefEqProofs (maxSteps:=9^7) (disch := first | omega | (simp only [Qb]; omega)) only [go_sem, Qes])
   (refine Qu Qe ?_; simp -implicitDefEqProofs (maxSteps:=9^7) (disch := first | omega | (simp only [Qb]; omega)) only [go_sem, h1'])
   refine Fc.pure (Xan (t.el.getD k r0) (ht.get hkl)) (by simp [Qi, clo, Qk]) (fun g => rfl) ?_
   cases hb : okR (t.el.getD k r0) with
   | true =>
    rw [if_pos rfl]
    (apply Zo;repeat' ((with_reducible first|apply Zk|(first|apply Za|apply Zb|apply Zc|apply Zd)<;>intro h)<;>try simp -implicitDefEqProofs (maxSteps:=9^7) (disch:=first|omega|(simp only [Qb];omega)) only [go_sem, h1', Jr]))
    exact Qlh hI hb
   | false =>
    rw [if_neg (by decide)]
    have hst : ∀ X z, Qd ((H ++ X).set 1 (some z)) 1 = some z := fun X z => Qg (h1' X)
    (apply Zo;repeat' ((with_reducible first|apply Zk|(first|apply Za|apply Zb|apply Zc|apply Zd)<;>intro h)<;>try simp -implicitDefEqProofs (maxSteps:=9^7) (disch:=first|omega|(simp only [Qb];omega)) only [go_sem, h1', hst, Jr]))
    (refine Qo (by intro g; simp only [go_sem, ren, Ql]) ?_)
    rw [hmt, if_neg fun hh => ?_]
    have := (Qjz r0).1 hh k hkl
    rw [hb] at this; cases this
  ·rintro H ⟨hI, h1⟩;rw [Kn] at hI
   have hst : ∀ z, Qd (H.set 1 (some z)) 1 = some z := fun z => Qg h1
   (apply Zo;repeat' ((with_reducible first|apply Zk|(first|apply Za|apply Zb|apply Zc|apply Zd)<;>intro h)<;>try simp -implicitDefEqProofs (maxSteps:=9^7) (disch:=first|omega|(simp only [Qb];omega)) only [go_sem, h1, hst]))
   (refine Qo (by intro g; simp only [go_sem, ren, Ql]) ?_)
   rw [hmt, if_pos ((Qjz r0).2 hI)]
def Qkk (t : Tn) : Tn := ⟨t.shape, (t.el.map Xc).map Qz⟩
theorem Qxd {xs : List Raw} {i : Nat} (h : i < xs.length) : Xd (((xs.map Xc).map Qz).take (i + 1)) = Xd (((xs.map Xc).map Qz).take i) ++ [.bool (Xc (xs.getD i r0)).neg, Ye (Xc (xs.getD i r0)).num, Ye (Xc (xs.getD i r0)).den] := by
 rw [Qj8 (by simpa using h)]
 have : (xs.map Xc).getD i q0 = Xc (xs.getD i r0) := by simp [List.getD, h]
 rw [this]
theorem Qri (t : Tn) (ht : TnOK t) : Val C 90 [tnV t, .fn (.func 91) [] []] (tnV (Qkk t)) := by
 have hs := ht.s
 have he := ht.e
 have hv : Qq3 t = .fn (.func 97) [] [.rp [.sl t.shape.length (ints t.shape), .sl t.el.length (Xd t.el)] 0] := rfl
 refine Fc.keep (Fc.bodyT Qe Tryz.func90 w90 rfl Tryz.ntmps90 Tryz.results90 (zLe rfl) ?_)
 (apply Zo;repeat' ((with_reducible first|apply Zk|(first|apply Za|apply Zb|apply Zc|apply Zd)<;>intro h)<;>try simp -implicitDefEqProofs (maxSteps:=9^7) (disch:=first|omega|(simp only [Qb];omega)) only [go_sem]))
 refine Val.keptF (Val.ofRet (Qrc t.shape (by omega)) (Qc _) (Zl _)) ⟨.self (by simp [clo, Qc]), trivial⟩ fun sv X hsv => ?_
 obtain ⟨k0, c0, s0⟩ := Yu hsv.gd
 (apply Zo;repeat' ((with_reducible first|apply Zk|(first|apply Za|apply Zb|apply Zc|apply Zd)<;>intro h)<;>try simp -implicitDefEqProofs (maxSteps:=9^7) (disch:=first|omega|(simp only [Qb];omega)) only [go_sem, k0, c0, s0]))
 refine Fc.pure (Qlg t) (by simp [Qi, clo, Qc, Qm]) (fun g => by simp [Qq3, ren, Ql, Qy, Yw _ _ (Qm t.el)]) ?_
 (apply Zo;repeat' ((with_reducible first|apply Zk|(first|apply Za|apply Zb|apply Zc|apply Zd)<;>intro h)<;>try simp -implicitDefEqProofs (maxSteps:=9^7) (disch:=first|omega|(simp only [Qb];omega)) only [go_sem, hv]))
 have hsv2 := GdIn.app hsv.within [some ⟨99, 2, [sv, .nil]⟩]
 obtain ⟨P, hP⟩ : ∃ P, P = X.length + 3 := ⟨_, rfl⟩
 have hPl : ([some (⟨99, 2, [.sl t.shape.length (ints t.shape), .sl t.el.length (Xd t.el)]⟩ : Row), some ⟨67, 1, [.fn (.func 91) [] []]⟩, some ⟨99, 2, [.nil, .nil]⟩] ++ X).length = P := by rw [hP]; simp
 rw [hPl] at hsv2;rw [← hP];refine Ks (g := 97) (lb := [.rp [.sl t.shape.length (ints t.shape), .sl t.el.length (Xd t.el)] 0]) (xs := Qby t) (by simp -implicitDefEqProofs (maxSteps:=9^7) (disch := first | omega | (simp only [Qb]; omega)) only [go_sem]) (by simp [Qi, clo, Qc, Qm]) (Qon t ht) (fun bs hb => by
   simp only [Qby, List.mem_map, List.mem_range] at hb;obtain ⟨i, _, rfl⟩ := hb
   rfl) (fun k H => ∃ u, Qd H 1 = some ⟨67, 1, [.fn (.func 91) [] []]⟩ ∧ Qd H 2 = some ⟨99, 2, [.nil, .nil]⟩ ∧ Qd H P = some ⟨99, 2, [sv, u]⟩ ∧ GdIn 3 P H sv (.sl t.shape.length (ints t.shape)) ∧ Cel (P + 1) 58 3 H u k (Xd (((t.el.map Xc).map Qz).take k))) ?_ ?_ ?_
 ·refine ⟨.nil, rfl, rfl, ?_, hsv2, Cel.nil _ _ _ _⟩;rw [hP]; simp [Qd]
 ·rintro k us H hk ⟨u, h1, h2, h3, h4, hu⟩ l
  have hkl : k < t.el.length := by
   have := (List.getElem?_eq_some_iff.1 hk).1
   rwa [Kn] at this
  rw [Qeh hkl] at hk;injection hk with hk
  subst hk
  (refine Qu Qe ?_; simp -implicitDefEqProofs (maxSteps:=9^7) (disch := first | omega | (simp only [Qb]; omega)) only [go_sem, Qes])
  have hx := ht.get hkl
  obtain ⟨HH, hHH⟩ : ∃ HH, HH = H ++ [some (⟨58, 3, [.bool (t.el.getD k r0).neg, .sl (t.el.getD k r0).num.length (Xa .u32 (t.el.getD k r0).num), .sl (t.el.getD k r0).den.length (Xa .u32 (t.el.getD k r0).den)]⟩ : Row)] := ⟨_, rfl⟩;rw [← hHH]
  have hn : Qd HH H.length = some ⟨58, 3, [.bool (t.el.getD k r0).neg, .sl (t.el.getD k r0).num.length (Xa .u32 (t.el.getD k r0).num), .sl (t.el.getD k r0).den.length (Xa .u32 (t.el.getD k r0).den)]⟩ := by rw [hHH]; exact Yd _ _
  have hP1 := Xg h3
  have hL : HH.length = H.length + 1 := by rw [hHH]; simp
  have hkeep : ∀ q row, Qd H q = some row → Qd HH q = some row := fun q row hr => by rw [hHH]; exact Qj hr _
  have g1 := hkeep 1 _ h1
  have g2 := hkeep 2 _ h2
  have g3 := hkeep P _ h3
  have g4 := h4.app [some (⟨58, 3, [.bool (t.el.getD k r0).neg, .sl (t.el.getD k r0).num.length (Xa .u32 (t.el.getD k r0).num), .sl (t.el.getD k r0).den.length (Xa .u32 (t.el.getD k r0).den)]⟩ : Row)]
  have gu := Cel.app hu [some (⟨58, 3, [.bool (t.el.getD k r0).neg, .sl (t.el.getD k r0).num.length (Xa .u32 (t.el.getD k r0).num), .sl (t.el.getD k r0).den.length (Xa .u32 (t.el.getD k r0).den)]⟩ : Row)]
  rw [← hHH] at g4 gu
  (refine Qu Qe ?_; simp -implicitDefEqProofs (maxSteps:=9^7) (disch := first | omega | (simp only [Qb]; omega)) only [go_sem, g1, g3, hn])
  refine RunU.now ?_
  (apply Zo;repeat' ((with_reducible first|apply Zk|(first|apply Za|apply Zb|apply Zc|apply Zd)<;>intro h)<;>try simp -implicitDefEqProofs (maxSteps:=9^7) (disch:=first|omega|(simp only [Qb];omega)) only [go_sem, g1, g3, hn]))
  refine Pc.keptF (Qe8 _ hx) (Ql9 _) ⟨.self (Qw _), trivial⟩ fun v Y hv => ?_
  obtain ⟨v1, v2, v3, rfl, hv1, hv2, hv3⟩ := hv.agg3;obtain ⟨k2, c2, s2⟩ := Yu hv2.gd;obtain ⟨k3, c3, s3⟩ := Yu hv3.gd
  have e1 := hv1.gd.bool_inv
  subst e1
  (apply Zo;repeat' ((with_reducible first|apply Zk|(first|apply Za|apply Zb|apply Zc|apply Zd)<;>intro h)<;>try simp -implicitDefEqProofs (maxSteps:=9^7) (disch:=first|omega|(simp only [Qb];omega)) only [go_sem, g1, g3, hn, k2, c2, s2, k3, c3, s3]))
  refine Cel.push3 gu rfl rfl (by omega) (by omega) hv2 hv3 s2 s3 fun v' H' hu' hk' k4 c4 s4 => ?_
  have f1 := hk' 1 _ (by omega) g1
  have f2 := hk' 2 _ (by omega) g2
  have f3 := hk' P _ (by omega) g3
  have f4 := GdIn.far g4 (H' := H') fun r row hr1 hr2 hr => hk' r row (by omega) hr
  (apply Zo;repeat' ((with_reducible first|apply Zk|(first|apply Za|apply Zb|apply Zc|apply Zd)<;>intro h)<;>try simp -implicitDefEqProofs (maxSteps:=9^7) (disch:=first|omega|(simp only [Qb];omega)) only [go_sem, f3, k4, c4, s4, Jr]))
  refine ⟨v', ?_, ?_, Qg f3, f4.set (.inr (Nat.le_refl _)) _, ?_⟩
  ·rw [Qh _ (by omega)]; exact f1
  ·rw [Qh _ (by omega)]; exact f2
  ·rw [Qxd hkl];exact Cel.set hu' (by omega) _
 ·rintro H ⟨u, h1, h2, h3, h4, hu⟩;obtain ⟨k4, c4, s4⟩ := Cel.kn hu
  have hst : ∀ z, Qd (H.set 2 (some z)) 2 = some z := fun z => Qg h2
  (apply Zo;repeat' ((with_reducible first|apply Zk|(first|apply Za|apply Zb|apply Zc|apply Zd)<;>intro h)<;>try simp -implicitDefEqProofs (maxSteps:=9^7) (disch:=first|omega|(simp only [Qb];omega)) only [go_sem, h1, h2, h3, hst, k0, c0, s0, k4, c4, s4]))
  rw [Kn, List.take_of_length_le (by simp)] at hu
  refine Gd.ret (Gd.aggL ⟨(h4.set (.inl (by decide)) _).gd, ?_, trivial⟩)
  have hg := Cel.gd (Cel.set hu (q := 2) (by omega) (some ⟨99, 2, [sv, u]⟩))
  simpa [Qkk] using hg
def Qit : Tn := ⟨[], []⟩
def mkT (t : Tn) : Tn × Int := if Zt t ≠ 0 then (Qit, Zt t) else (Qkk t, 0)
theorem Qqc {H : Qa} : Gd H (.agg [.nil, .nil]) (tnV Qit) := Gd.aggL ⟨.nil _, .nil _, trivial⟩
theorem Xcr (a b : V) (H : Qa) (ka : kn a = true) (ca : cellsOf a = [a]) (sa : Yr a = true) (kb : kn b = true) (cb : cellsOf b = [b]) (sb : Yr b = true) : Fc C 89 [.agg [a, b]] H fun v H' => v = .agg [a, b] ∧ ∃ X, H' = H ++ X := by
 refine Fc.bodyT Qe Tryz.func89 w89 rfl Tryz.ntmps89 Tryz.results89 (zLe rfl) ?_
 (apply Zo;repeat' ((with_reducible first|apply Zk|(first|apply Za|apply Zb|apply Zc|apply Zd)<;>intro h)<;>try simp -implicitDefEqProofs (maxSteps:=9^7) (disch:=first|omega|(simp only [Qb];omega)) only [go_sem, ka, ca, sa, kb, cb, sb]))
 exact ⟨_, rfl⟩
theorem Qvv (t : Tn) (ht : TnOK t) : Val C 59 [.sl t.shape.length (ints t.shape), .sl t.el.length (Xd t.el)] (.tup [tnV (mkT t).1, .int .i64 (mkT t).2]) := by
 refine Fc.keep (Fc.bodyT Qe Tryz.func59 w59 rfl Tryz.ntmps59 Tryz.results59 (zLe rfl) ?_)
 (apply Zo;repeat' ((with_reducible first|apply Zk|(first|apply Za|apply Zb|apply Zc|apply Zd)<;>intro h)<;>try simp -implicitDefEqProofs (maxSteps:=9^7) (disch:=first|omega|(simp only [Qb];omega)) only [go_sem]))
 refine Fc.pure (Qmo t ht) (by simp [Qi, clo, Qc, Qm]) (fun g => rfl) ?_
 (apply Zo;repeat' ((with_reducible first|apply Zk|(first|apply Za|apply Zb|apply Zc|apply Zd)<;>intro h)<;>try simp -implicitDefEqProofs (maxSteps:=9^7) (disch:=first|omega|(simp only [Qb];omega)) only [go_sem]))
 ·rw [mkT, if_pos h];exact Gd.ret (Gd.tupL ⟨Qqc, Qly _ _, trivial⟩)
 ·rw [mkT, if_neg (by omega)]
  refine Fc.pure (Qnk t) (by simp [Qi, clo, Qc, Qm]) (fun g => by simp [tnV, ren, Ql, Qy, Yw _ _ (Qm t.el)]) ?_
  (apply Zo;repeat' ((with_reducible first|apply Zk|(first|apply Za|apply Zb|apply Zc|apply Zd)<;>intro h)<;>try simp -implicitDefEqProofs (maxSteps:=9^7) (disch:=first|omega|(simp only [Qb];omega)) only [go_sem]))
  refine (Qri t ht).keptF ⟨.self (Xo t), .self rfl, trivial⟩ fun v X hv => ?_
  obtain ⟨a, b, rfl, ha, hb⟩ := hv.agg2;obtain ⟨ka, ca, sa⟩ := Yu ha.gd;obtain ⟨kb, cb, sb⟩ := Yu hb.gd
  (apply Zo;repeat' ((with_reducible first|apply Zk|(first|apply Za|apply Zb|apply Zc|apply Zd)<;>intro h)<;>try simp -implicitDefEqProofs (maxSteps:=9^7) (disch:=first|omega|(simp only [Qb];omega)) only [go_sem]))
  refine (Xcr a b _ ka ca sa kb cb sb).mono ?_;rintro v H' ⟨rfl, Y, rfl⟩
  (apply Zo;repeat' ((with_reducible first|apply Zk|(first|apply Za|apply Zb|apply Zc|apply Zd)<;>intro h)<;>try simp -implicitDefEqProofs (maxSteps:=9^7) (disch:=first|omega|(simp only [Qb];omega)) only [go_sem, ka, ca, sa, kb, cb, sb]))
  exact Gd.ret (Gd.tupL ⟨Gd.aggL ⟨((ha.app Y).set (q := 0) (by simp) _).gd, ((hb.app Y).set (q := 0) (by simp) _).gd, trivial⟩, Qly _ _, trivial⟩)
def Jw (s xs : List Int) : Nat → Int
 | 0 => 0
 | i + 1 => Jw s xs i * s.getD i 0 + xs.getD i 0
def inB (s xs : List Int) : Bool := (List.range s.length).all fun i => decide (0 ≤ xs.getD i 0 ∧ xs.getD i 0 < s.getD i 0)
def Qav (s xs : List Int) : Int := if Yo s ≠ 0 then Yo s else if xs.length ≠ s.length then 2 else if inB s xs then 0 else 21
def Jj (s xs : List Int) : Int := if Qav s xs = 0 then Jw s xs s.length else 0
theorem Qek {s xs : List Int} : inB s xs = true ↔ ∀ i, i < s.length → 0 ≤ xs.getD i 0 ∧ xs.getD i 0 < s.getD i 0 := by simp [inB]
theorem Qun {s xs : List Int} (h : ∀ i, i < s.length → 0 ≤ xs.getD i 0 ∧ xs.getD i 0 < s.getD i 0) : ∀ i, i ≤ s.length → 0 ≤ Jw s xs i ∧ Jw s xs i < Qp (s.take i)
 | 0, _ => by simp [Jw, Qp]
 | i + 1, hi => by
  obtain ⟨h1, h2⟩ := Qun h i (by omega)
  obtain ⟨h3, h4⟩ := h i (by omega)
  rw [Zr (by omega), Jw]
  have h5 : Jw s xs i * s.getD i 0 ≤ (Qp (s.take i) - 1) * s.getD i 0 := Int.mul_le_mul_of_nonneg_right (by omega) (by omega)
  have h6 : 0 ≤ Jw s xs i * s.getD i 0 := Int.mul_nonneg h1 (by omega)
  rw [Int.sub_mul, Int.one_mul] at h5;omega
theorem Qpl (s xs : List Int) (hs : s.length ≤ 1000000000) (hx : xs.length ≤ 1000000000) : Pu C 68 [.sl s.length (ints s), .sl xs.length (ints xs)] (.tup [.int .i64 (Jj s xs), .int .i64 (Qav s xs)]) := by
 refine Fc.keep (Fc.bodyT Qe Tryz.func68 w68 rfl Tryz.ntmps68 Tryz.results68 (zLe rfl) ?_)
 (apply Zo;repeat' ((with_reducible first|apply Zk|(first|apply Za|apply Zb|apply Zc|apply Zd)<;>intro h)<;>try simp -implicitDefEqProofs (maxSteps:=9^7) (disch:=first|omega|(simp only [Qb];omega)) only [go_sem]))
 refine Fc.pure (Qfr s (by omega)) (by simp [go_sem, Qi, clo, Qc, Qx]) (by intro g; simp only [go_sem, ren, Ql]) ?_
 (apply Zo;repeat' ((with_reducible first|apply Zk|(first|apply Za|apply Zb|apply Zc|apply Zd)<;>intro h)<;>try simp -implicitDefEqProofs (maxSteps:=9^7) (disch:=first|omega|(simp only [Qb];omega)) only [go_sem]))
 ·skip
  (refine Qo (by intro g; simp only [go_sem, ren, Ql]) ?_)
  have : Qav s xs = Yo s := if_pos h
  rw [Jj, this, if_neg h]
 ·have hm : Yo s = 0 := by omega
  (refine Qo (by intro g; simp only [go_sem, ren, Ql]) ?_)
  have : Qav s xs = 2 := by rw [Qav, if_neg (by omega), if_pos (by omega)]
  rw [Jj, this, if_neg (by decide)]
 ·have hm : Yo s = 0 := by omega
  have hl : xs.length = s.length := by omega
  obtain ⟨m1, m2, m3⟩ := Xs hm
  have hoe : Qav s xs = if inB s xs then 0 else 21 := by rw [Qav, if_neg (by omega), if_neg (by omega)]
  refine Qf (fun n ts H => ∃ (i : Nat), (i ≤ s.length) ∧ ((∀ j, j < i → 0 ≤ xs.getD j 0 ∧ xs.getD j 0 < s.getD j 0)) ∧ (H = []) ∧ (n = s.length - i) ∧ ts.length = 50 ∧ nth ts 0 = .sl s.length (ints s) ∧ nth ts 1 = .sl xs.length (ints xs) ∧ nth ts 7 = .int .i64 (Jw s xs i) ∧ nth ts 20 = .sl s.length (ints s) ∧ nth ts 21 = .int .i64 (s.length : Nat) ∧ nth ts 22 = .int .i64 (i : Nat)) ?_ (n := s.length) ?_
  ·skip
   rintro n ts H ⟨i, hi, hI, hH, hn, hL, hs0, hs1, hs7, hs20, hs21, hs22⟩;refine Qv [(0, .sl s.length (ints s)), (1, .sl xs.length (ints xs)), (7, .int .i64 (Jw s xs i)), (20, .sl s.length (ints s)), (21, .int .i64 (s.length : Nat)), (22, .int .i64 (i : Nat))] hL (by simp only [zFm, hs0, hs1, hs7, hs20, hs21, hs22, true_and]; exact zNm) ?_
   clear hL hs0 hs1 hs7 hs20 hs21 hs22 ts
   refine Qu Qe ?_;subst hH;by_cases hcase : i < s.length
   ·have hsi : 1 ≤ s.getD i 0 := Jx.1 m2 i hcase
    have hsu : s.getD i 0 ≤ Qp s := Ya m2 hcase
    have hpl := Qe4 m2 i
    have hoff : 0 ≤ Jw s xs i ∧ Jw s xs i < Qp (s.take i) := by
     have hh : ∀ (m : Nat), m ≤ i → 0 ≤ Jw s xs m ∧ Jw s xs m < Qp (s.take m) := fun m => by
      induction m with
      | zero => intro _; simp [Jw, Qp]
      | succ m ih =>
       intro hm;obtain ⟨h1, h2⟩ := ih (by omega)
       obtain ⟨h3, h4⟩ := hI m (by omega)
       rw [Zr (by omega), Jw]
       have h5 : Jw s xs m * s.getD m 0 ≤ (Qp (s.take m) - 1) * s.getD m 0 := Int.mul_le_mul_of_nonneg_right (by omega) (by omega)
       have h6 : 0 ≤ Jw s xs m * s.getD m 0 := Int.mul_nonneg h1 (by omega)
       rw [Int.sub_mul, Int.one_mul] at h5;omega
     exact hh i (Nat.le_refl _)
    have hmul : 0 ≤ Jw s xs i * s.getD i 0 ∧ Jw s xs i * s.getD i 0 ≤ 1048576 := by
     refine ⟨Int.mul_nonneg hoff.1 (by omega), ?_⟩
     have := Int.mul_le_mul (show Jw s xs i ≤ 1024 by omega) (show s.getD i 0 ≤ 1024 by omega) (by omega) (by decide)
     omega
    by_cases hin : 0 ≤ xs.getD i 0 ∧ xs.getD i 0 < s.getD i 0
    ·have e : Jw s xs (i + 1) = Jw s xs i * s.getD i 0 + xs.getD i 0 := rfl
     generalize hq : Jw s xs i * s.getD i 0 = q at *;generalize Jw s xs i = o at *;generalize hd : s.getD i 0 = d at *;generalize hxx : xs.getD i 0 = x at *
     have hI' : ∀ j, j < i + 1 → 0 ≤ xs.getD j 0 ∧ xs.getD j 0 < s.getD j 0 := Qlh hI (by rw [hd, hxx]; exact hin)
     (apply Zo;repeat' ((with_reducible first|apply Zk|(first|apply Za|apply Zb|apply Zc|apply Zd)<;>intro h)<;>try simp -implicitDefEqProofs (maxSteps:=9^7) (disch:=first|omega|(simp only [Qb];omega)) only [go_sem, hq, hd, hxx]))
     refine ⟨s.length - (i + 1), by omega, i + 1, by omega, hI', rfl, by rw [e], by congr 1⟩
    ·have hno : inB s xs = false := by
      rw [Bool.eq_false_iff];intro hh;exact hin (Qek.1 hh i hcase)
     have e21 : Qav s xs = 21 := by rw [hoe, hno]; rfl
     have e0 : Jj s xs = 0 := by rw [Jj, e21, if_neg (by decide)]
     rw [e21, e0]
     (apply Zo;repeat' ((with_reducible first|apply Zk|(first|apply Za|apply Zb|apply Zc|apply Zd)<;>intro h)<;>try simp -implicitDefEqProofs (maxSteps:=9^7) (disch:=first|omega|(simp only [Qb];omega)) only [go_sem]))
     all_goals (refine Qo (by intro g; simp only [go_sem, ren, Ql]) ?_)
     all_goals rfl
   ·have hil : i = s.length := by omega
    subst hil
    have hyes : inB s xs = true := Qek.2 hI
    (apply Zo;repeat' ((with_reducible first|apply Zk|(first|apply Za|apply Zb|apply Zc|apply Zd)<;>intro h)<;>try simp -implicitDefEqProofs (maxSteps:=9^7) (disch:=first|omega|(simp only [Qb];omega)) only [go_sem]))
    (refine Qo (by intro g; simp only [go_sem, ren, Ql]) ?_)
    have e21 : Qav s xs = 0 := by rw [hoe, hyes]; rfl
    rw [e21, Jj, if_pos e21]
  ·exact ⟨0, by omega, fun j hj => by omega, rfl, rfl, rfl, rfl, rfl, rfl, rfl, rfl, rfl⟩
theorem Xkt : Tryz.f132.body.all yOK = true := by kernel_rfl
def Qu8 (s : List Int) : V := .fn (.func 132) [] [.rp [.sl s.length (ints s)] 0]
theorem Ql2 (s : List Int) : Pu C 111 [.sl s.length (ints s)] (Qu8 s) := by
 refine Fc.keep (Fc.sealR ?_);refine Fc.bodyT Qe Tryz.func111 w111 rfl Tryz.ntmps111 Tryz.results111 (zLe rfl) ?_
 (apply Zo;repeat' ((with_reducible first|apply Zk|(first|apply Za|apply Zb|apply Zc|apply Zd)<;>intro h)<;>try simp -implicitDefEqProofs (maxSteps:=9^7) (disch:=first|omega|(simp only [Qb];omega)) only [go_sem]))
 refine ⟨0, _, 1, [.sl s.length (ints s)], rfl, by simp [Qi, clo, Qc], [], by simp, by simp, ?_⟩
 simp [sz, szL, ren, Ql, Qu8, Qdg, Qy]
def Qji (s : List Int) : List (List V) := (List.range s.length).map fun k => [.int .i64 (s.length - 1 - k : Nat), .int .i64 (s.getD (s.length - 1 - k) 0)]
theorem Qmu {s : List Int} {k : Nat} (h : k < s.length) : (Qji s)[k]? = some [.int .i64 (s.length - 1 - k : Nat), .int .i64 (s.getD (s.length - 1 - k) 0)] := by simp [Qji, h]
theorem Qf2 (s : List Int) : (Qji s).length = s.length := by simp [Qji]
theorem Qol (s : List Int) (hs : s.length ≤ 1000000000) : Gen C 132 [.rp [.sl s.length (ints s)] 0] (Qji s) := by
 refine Gen.of3 Qe Tryz.func132 w132 Xkt rfl Tryz.ntmps132 Tryz.results132 (zLe rfl) (fun bs hb => by
  simp only [Qji, List.mem_map, List.mem_range] at hb;obtain ⟨i, _, rfl⟩ := hb;simp [Qi, clo]) ?_
 intro G l J hW
 (apply Zo;repeat' ((with_reducible first|apply Zk|(first|apply Za|apply Zb|apply Zc|apply Zd)<;>intro h)<;>try simp -implicitDefEqProofs (maxSteps:=9^7) (disch:=first|omega|(simp only [Qb];omega)) only [go_sem]))
 refine Qa2 (fun n ts H => ∃ (i : Nat), (i ≤ s.length) ∧ (n = s.length - i) ∧ (H.length = i) ∧ ts.length = 19 ∧ nth ts 0 = .fn (.yield l) [] [] ∧ nth ts 1 = .rp [.sl s.length (ints s)] 0 ∧ nth ts 3 = .int .i64 ((s.length : Int) - 1 - i)) ?_ (n := s.length) ?_
 ·skip
  rintro n ts H ⟨i, hi, hn, hH, hL, hs0, hs1, hs3⟩;refine Qh0 [(0, .fn (.yield l) [] []), (1, .rp [.sl s.length (ints s)] 0), (3, .int .i64 ((s.length : Int) - 1 - i))] hL (by simp only [zFm, hs0, hs1, hs3, true_and]; exact zNm) ?_
  clear hL hs0 hs1 hs3 ts
  refine hW _ _ _ _ ?_;by_cases hcase : i < s.length
  ·have e : ((s.length : Int) - 1 - (i : Int)) = ((s.length - 1 - i : Nat) : Int) := by omega
   (apply Zo;repeat' ((with_reducible first|apply Zk|(first|apply Za|apply Zb|apply Zc|apply Zd)<;>intro h)<;>try simp -implicitDefEqProofs (maxSteps:=9^7) (disch:=first|omega|(simp only [Qb];omega)) only [go_sem, e]))
   rw [hH, Qf2];refine ⟨Qmu hcase, ⟨s.length - (i + 1), by omega, i + 1, by omega, rfl, rfl, by congr 1; omega⟩, .inr trivial, .inr ?_⟩
   rw [List.length_replicate]; omega
  ·skip
   (apply Zo;repeat' ((with_reducible first|apply Zk|(first|apply Za|apply Zb|apply Zc|apply Zd)<;>intro h)<;>try simp -implicitDefEqProofs (maxSteps:=9^7) (disch:=first|omega|(simp only [Qb];omega)) only [go_sem]))
   rw [Qf2];exact ⟨.inl trivial, .inl (by omega)⟩
 ·exact ⟨0, by omega, by omega, rfl, rfl, rfl, by simp -implicitDefEqProofs (maxSteps:=9^7) (disch := first | omega | (simp only [Qb]; omega)) only [go_sem]; congr 1; omega⟩
def Qeq (s : List Int) (n : Int) (i : Nat) : Int := (n / Qp (s.drop (i + 1))) % s.getD i 0
def Xq (s : List Int) (n : Int) : List Int := (List.range s.length).map (Qeq s n)
def Qjp (s : List Int) (n : Int) (k : Nat) : List Int := (List.range s.length).map fun j => if s.length - k ≤ j then Qeq s n j else 0
theorem Qzx (s : List Int) (n : Int) (k : Nat) : (Qjp s n k).length = s.length := by simp [Qjp]
theorem Kz (s : List Int) (n : Int) : (Xq s n).length = s.length := by simp [Xq]
theorem Qwr (s : List Int) (n : Int) : Qjp s n s.length = Xq s n := by simp [Qjp, Xq]
theorem Qwp (s : List Int) (n : Int) : Qjp s n 0 = List.replicate s.length 0 := by
 refine List.ext_getElem (by simp [Qjp]) fun j h1 h2 => ?_
 simp [Qjp] at h1 ⊢
 intro; omega
theorem Qwq {s : List Int} {n : Int} {k : Nat} (h : k < s.length) : (Qjp s n k).set (s.length - 1 - k) (Qeq s n (s.length - 1 - k)) = Qjp s n (k + 1) := by
 refine List.ext_getElem (by simp [Qjp]) fun j h1 h2 => ?_
 rw [List.getElem_set];simp [Qjp] at h1 h2 ⊢;split
 ·rename_i e; subst e; rw [if_pos (by omega)]
 ·rename_i e;by_cases hj : s.length ≤ j + k
  ·rw [if_pos hj, if_pos (by omega)]
  ·rw [if_neg hj, if_neg (by omega)]
theorem Qr4 {s : List Int} {i : Nat} (h : i < s.length) : Qp (s.drop i) = s.getD i 0 * Qp (s.drop (i + 1)) := by
 rw [List.drop_eq_getElem_cons h]; simp [Qp, List.getD, h]
theorem Qbr {s : List Int} (h : ∀ d ∈ s, 1 ≤ d) {i : Nat} (hi : i < s.length) : 1 ≤ s.getD i 0 := Jx.1 h i hi
theorem Qk1 {s : List Int} (h : ∀ d ∈ s, 1 ≤ d) {n : Int} {i : Nat} (hi : i < s.length) : n / Qp (s.drop (i + 1)) / s.getD i 0 = n / Qp (s.drop i) := by
 have h2 := Zv (l := s.drop (i + 1)) fun d hd => h d (List.mem_of_mem_drop hd)
 rw [Qr4 hi, Int.ediv_ediv_of_nonneg (by omega), Int.mul_comm]
theorem Xbq {s : List Int} (h : ∀ d ∈ s, 1 ≤ d) (n : Int) {i : Nat} (hi : i < s.length) : 0 ≤ Qeq s n i ∧ Qeq s n i < s.getD i 0 := by
 have := Qbr h hi
 exact ⟨Int.emod_nonneg _ (by omega), Int.emod_lt_of_pos _ (by omega)⟩
theorem Qfy (n : Nat) : Xa .i64 (List.replicate n 0) = ints (List.replicate n 0) := by
 induction n with
 | zero => rfl
 | succ n ih => simp only [List.replicate_succ, Xa, ints, List.map_cons] at ih ⊢; rw [ih]; rfl
theorem Qxq (s : List Int) (n : Int) (hs : s.length ≤ 1000000000) (hm : Yo s = 0) (h0 : 0 ≤ n) (hn : n < Qp s) : Val C 93 [.sl s.length (ints s), .int .i64 n] (.tup [.sl (Xq s n).length (ints (Xq s n)), .int .i64 0]) := by
 obtain ⟨m1, m2, m3⟩ := Xs hm
 have hv : Qu8 s = .fn (.func 132) [] [.rp [.sl s.length (ints s)] 0] := rfl
 have hp : Qg8 s = Qp s := by unfold Qg8; rw [if_neg (by omega)]
 refine Fc.keep (Fc.bodyT Qe Tryz.func93 w93 rfl Tryz.ntmps93 Tryz.results93 (zLe rfl) ?_)
 (apply Zo;repeat' ((with_reducible first|apply Zk|(first|apply Za|apply Zb|apply Zc|apply Zd)<;>intro h)<;>try simp -implicitDefEqProofs (maxSteps:=9^7) (disch:=first|omega|(simp only [Qb];omega)) only [go_sem]))
 refine Fc.pure (Qfr s (by omega)) (by simp [go_sem, Qi, clo, Qc, Qx]) (by intro g; simp only [go_sem, ren, Ql]) ?_
 rw [hm]
 (apply Zo;repeat' ((with_reducible first|apply Zk|(first|apply Za|apply Zb|apply Zc|apply Zd)<;>intro h)<;>try simp -implicitDefEqProofs (maxSteps:=9^7) (disch:=first|omega|(simp only [Qb];omega)) only [go_sem]))
 refine Pc.pure (Qed s (by omega) m2) (by simp [Qi, clo, Qc]) (fun g => rfl) ?_
 rw [hp]
 (apply Zo;repeat' ((with_reducible first|apply Zk|(first|apply Za|apply Zb|apply Zc|apply Zd)<;>intro h)<;>try simp -implicitDefEqProofs (maxSteps:=9^7) (disch:=first|omega|(simp only [Qb];omega)) only [go_sem]))
 refine Qb8 rfl rfl rfl rfl (by simp [t3bytes]) (by omega) ?_
 (apply Zo;repeat' ((with_reducible first|apply Zk|(first|apply Za|apply Zb|apply Zc|apply Zd)<;>intro h)<;>try simp -implicitDefEqProofs (maxSteps:=9^7) (disch:=first|omega|(simp only [Qb];omega)) only [go_sem]))
 refine Fc.pure (Ql2 s) (by simp [Qi, clo, Qc]) (fun g => by simp [Qu8, ren, Ql, Qy]) ?_
 (apply Zo;repeat' ((with_reducible first|apply Zk|(first|apply Za|apply Zb|apply Zc|apply Zd)<;>intro h)<;>try simp -implicitDefEqProofs (maxSteps:=9^7) (disch:=first|omega|(simp only [Qb];omega)) only [go_sem, hv]))
 refine Ks (g := 132) (lb := [.rp [.sl s.length (ints s)] 0]) (xs := Qji s) (by simp -implicitDefEqProofs (maxSteps:=9^7) (disch := first | omega | (simp only [Qb]; omega)) only [go_sem]) (by simp [Qi, clo, Qc]) (Qol s hs) (fun bs hb => by
   simp only [Qji, List.mem_map, List.mem_range] at hb;obtain ⟨i, _, rfl⟩ := hb
   rfl) (fun k H => Qd H 0 = some ⟨3, 1, [.int .i64 (n / Qp (s.drop (s.length - k)))]⟩ ∧ Qd H 1 = some ⟨3, 1, ints (Qjp s n k)⟩ ∧ Qd H 2 = some ⟨22, 1, [.ref 1 0 s.length]⟩) ?_ ?_ ?_
 ·refine ⟨?_, ?_, rfl⟩
  ·rw [Nat.sub_zero, List.drop_length];simp [Qd, Qp]
  ·rw [Qwp, ← Qfy]; rfl
 ·rintro k us H hk ⟨h0, h1, h2⟩ l
  have hkl : k < s.length := by
   have := (List.getElem?_eq_some_iff.1 hk).1
   rwa [Qf2] at this
  rw [Qmu hkl] at hk;injection hk with hk
  subst hk
  have hd := Qbr m2 (i := s.length - 1 - k) (by omega)
  have hdu := Ya m2 (i := s.length - 1 - k) (by omega)
  have hq0 : 0 ≤ n / Qp (s.drop (s.length - k)) := Int.ediv_nonneg (by omega) (by have := Zv (l := s.drop (s.length - k)) fun d hd => m2 d (List.mem_of_mem_drop hd); omega)
  have hq1 : n / Qp (s.drop (s.length - k)) ≤ n := Int.ediv_le_self _ (by omega)
  have hst := Qwq (n := n) hkl
  have hnx := Qk1 m2 (n := n) (i := s.length - 1 - k) (by omega)
  have hii : Qeq s n (s.length - 1 - k) = n / Qp (s.drop (s.length - k)) % s.getD (s.length - 1 - k) 0 := by
   rw [Qeq, show s.length - 1 - k + 1 = s.length - k by omega]
  rw [show s.length - 1 - k + 1 = s.length - k by omega] at hnx
  have hlen := Qzx s n k
  have hw : s.length - (k + 1) = s.length - 1 - k := by omega
  rw [hw];rw [hii] at hst;rw [← hnx]
  have hm1 := Int.emod_nonneg (n / Qp (s.drop (s.length - k))) (show s.getD (s.length - 1 - k) 0 ≠ 0 by omega)
  have hm2 := Int.emod_lt_of_pos (n / Qp (s.drop (s.length - k))) (show 0 < s.getD (s.length - 1 - k) 0 by omega)
  have hdv := Int.ediv_le_self (a := n / Qp (s.drop (s.length - k))) (s.getD (s.length - 1 - k) 0) hq0
  have hdv0 := Int.ediv_nonneg hq0 (show 0 ≤ s.getD (s.length - 1 - k) 0 by omega)
  generalize n / Qp (s.drop (s.length - k)) = q at *;generalize s.getD (s.length - 1 - k) 0 = d at *
  have f0 : ∀ z, Qd (H.set 1 z) 0 = some ⟨3, 1, [.int .i64 q]⟩ := fun z => by rw [Qh _ (by decide)]; exact h0
  (refine Qu Qe ?_; simp -implicitDefEqProofs (maxSteps:=9^7) (disch := first | omega | (simp only [Qb]; omega)) only [go_sem, Qes])
  (refine Qu Qe ?_; simp -implicitDefEqProofs (maxSteps:=9^7) (disch := first | omega | (simp only [Qb]; omega)) only [go_sem, h0, h1, h2, f0, Xu, hst, Jr])
  refine ⟨Qg (f0 _), ?_, ?_⟩
  ·rw [Qh _ (by decide)]; exact Qg h1
  ·rw [Qh _ (by decide), Qh _ (by decide)]; exact h2
 ·rintro H ⟨h0, h1, h2⟩;rw [Qf2, Qwr] at h1
  (apply Zo;repeat' ((with_reducible first|apply Zk|(first|apply Za|apply Zb|apply Zc|apply Zd)<;>intro h)<;>try simp -implicitDefEqProofs (maxSteps:=9^7) (disch:=first|omega|(simp only [Qb];omega)) only [go_sem, h0, h1, h2]))
  rw [Kz];exact Gd.ret (Gd.tupL ⟨.flat 1 _ _ _ _ h1 (Qc _) (Zl _), .leaf _ rfl rfl, trivial⟩)
def Qf8 : Raw := Qz (Zh 0)
def Qgm (N : Nat) (none : Raw) (p : Nat → Raw) (b : Nat → Bool) : List Raw := (List.range N).map fun i => if b i then p i else none
theorem Qho (N : Nat) (no : Raw) (p : Nat → Raw) (b : Nat → Bool) : (Qgm N no p b).length = N := by simp [Qgm]
theorem Qmn (N : Nat) (no : Raw) (p : Nat → Raw) (b : Nat → Bool) : Qgm (N + 1) no p b = Qgm N no p b ++ [if b N then p N else no] := by simp [Qgm, List.range_succ]
theorem Qwg (xs : List Raw) (x : Raw) : Xd (xs ++ [x]) = Xd xs ++ [.bool x.neg, NA x.num, NA x.den] := by rw [Xd, Qem]; rfl
theorem Qr0 (xs : List Raw) : (Xd xs).all Yr = true := by
 induction xs with
 | nil => rfl
 | cons x xs ih => simp only [Xd, Qgn, List.all_cons] at ih ⊢; rw [ih]; rfl
theorem Qo9 {y : Ty} {e e' s' i : Nat} {H : Qa} {v : V} {xs : List Raw} {x : Raw} {r1 : Option Row} {K : V → Qa → Prop} (h : Bv.Own e 3 H v i (Xd xs)) (hy : y.size = 3) (hby : y.bytes = 56) (hn : i + 1 ≤ 1000000000)
  (hK : ∀ v' H', Bv.Own e 3 H' v' (i + 1) (Xd (xs ++ [x])) → (∀ q row, (∀ off m, v ≠ .ref q off m) → Qd H q = some row → Qd H' q = some row) → (∀ r off m, v' = .ref r off m → 1 ≤ r) → K v' H') :
  Qan y e v (.ref (H.length + 1) 0 1) (H ++ [r1, some ⟨e', s', [.bool x.neg, .sl x.num.length (Xa .u32 x.num), .sl x.den.length (Xa .u32 x.den)]⟩]) K := by
 rw [show H ++ [r1, some (⟨e', s', [.bool x.neg, .sl x.num.length (Xa .u32 x.num), .sl x.den.length (Xa .u32 x.den)]⟩ : Row)] = (H ++ [r1]) ++ [some ⟨e', s', [.bool x.neg, .sl x.num.length (Xa .u32 x.num), .sl x.den.length (Xa .u32 x.den)]⟩] by simp, show H.length + 1 = (H ++ [r1]).length by simp]
 have h' := h.keep [r1]
 rw [← hy] at h';refine Qhw h' (by rw [hy]; rfl) (by simp [Yr]) (by omega) (by omega) (by rw [hby]; omega) (Qr0 _) fun H' k1 k2 k3 => ?_
 rw [hy] at k1;refine hK _ H' (by rw [Qwg]; exact k1) (fun q row hq hr => k2 q row hq (Qj hr _)) fun r off m e => by injection e with e; omega
theorem Qnx (s : List Int) (no : Raw) (f : Nat) (caps : List V) (p : Nat → Raw) (b : Nat → Bool) (N : Nat) (hs : s.length ≤ 1000000000) (hm : Yo s = 0) (hN : (N : Int) = Qp s) (hc : Qi caps = true)
  (hp : ∀ i, i < N → Pu C f (.sl (Xq s (i : Nat)).length (ints (Xq s (i : Nat))) :: caps) (.tup [Qa8 (p i), .bool (b i)])) :
  Pu C 66 [.sl s.length (ints s), Qa8 no, .fn (.func f) [] caps] (.sl N (Xd (Qgm N no p b))) := by
 obtain ⟨m1, m2, m3⟩ := Xs hm
 have hct : countP s = (N : Int) := by rw [countP, if_pos hm, hN]
 refine Fc.valO (e := 58) (s := 3) ?_ (Qm _);refine Fc.keep (Fc.bodyT Qe Tryz.func66 w66 rfl Tryz.ntmps66 Tryz.results66 (zLe rfl) ?_)
 (apply Zo;repeat' ((with_reducible first|apply Zk|(first|apply Za|apply Zb|apply Zc|apply Zd)<;>intro h)<;>try simp -implicitDefEqProofs (maxSteps:=9^7) (disch:=first|omega|(simp only [Qb];omega)) only [go_sem]))
 refine Fc.pure (Qll s (by omega)) (by simp [go_sem, Qi, clo, Qc, Qx]) (by intro g; simp only [go_sem, ren, Ql]) ?_
 rw [hct]
 (apply Zo;repeat' ((with_reducible first|apply Zk|(first|apply Za|apply Zb|apply Zc|apply Zd)<;>intro h)<;>try simp -implicitDefEqProofs (maxSteps:=9^7) (disch:=first|omega|(simp only [Qb];omega)) only [go_sem]))
 refine Qf (fun n ts H => ∃ (i : Nat) (u : V), (i ≤ N) ∧ (n = N - i) ∧ (Qd H 0 = some ⟨58, 3, [.bool no.neg, NA no.num, NA no.den]⟩) ∧ (Bv.Own 58 3 H u i (Xd (Qgm i no p b))) ∧ ((∀ r off m, u = .ref r off m → 1 ≤ r)) ∧ ts.length = 39 ∧ nth ts 0 = .sl s.length (ints s) ∧ nth ts 2 = .fn (.func f) [] caps ∧ nth ts 4 = .ptr 0 0 ∧ nth ts 7 = u ∧ nth ts 14 = .int .i64 (N : Nat) ∧ nth ts 15 = .int .i64 (i : Nat)) ?_ (n := N) ?_
 ·skip
  rintro n ts H ⟨i, u, hi, hn, h0, hu, hr, hL, hs0, hs2, hs4, hs7, hs14, hs15⟩;refine Qv [(0, .sl s.length (ints s)), (2, .fn (.func f) [] caps), (4, .ptr 0 0), (7, u), (14, .int .i64 (N : Nat)), (15, .int .i64 (i : Nat))] hL (by simp only [zFm, hs0, hs2, hs4, hs7, hs14, hs15, true_and]; exact zNm) ?_
  clear hL hs0 hs2 hs4 hs7 hs14 hs15 ts
  refine Qu Qe ?_;by_cases hcase : i < N
  ·skip
   (apply Zo;repeat' ((with_reducible first|apply Zk|(first|apply Za|apply Zb|apply Zc|apply Zd)<;>intro h)<;>try simp -implicitDefEqProofs (maxSteps:=9^7) (disch:=first|omega|(simp only [Qb];omega)) only [go_sem]))
   refine (Qxq s (i : Nat) hs hm (by omega) (by omega)).call ⟨.self (by simp [clo, Qc]), .self rfl, trivial⟩ (by simp [clo, Qi, Qc]) ?_
   (apply Zo;repeat' ((with_reducible first|apply Zk|(first|apply Za|apply Zb|apply Zc|apply Zd)<;>intro h)<;>try simp -implicitDefEqProofs (maxSteps:=9^7) (disch:=first|omega|(simp only [Qb];omega)) only [go_sem]))
   refine Fc.pure (hp i hcase) (by simp [Qi, clo, Qc, hc]) (fun g => by simp [ren, Ql, Qa8, NA, Jy]) ?_
   have hkeep : ∀ X, Qd (H ++ X) 0 = some ⟨58, 3, [.bool no.neg, NA no.num, NA no.den]⟩ := fun X => Qj h0 X
   have hlen := Xg h0
   cases hb : b i with
   | true =>
    (apply Zo;repeat' ((with_reducible first|apply Zk|(first|apply Za|apply Zb|apply Zc|apply Zd)<;>intro h)<;>try simp -implicitDefEqProofs (maxSteps:=9^7) (disch:=first|omega|(simp only [Qb];omega)) only [go_sem, hkeep]))
    refine Qo9 hu rfl rfl (by omega) fun v' H' hu' hk hr' => ?_
    have h0' := hk 0 _ (fun off m e => by have := hr _ _ _ e; omega) h0
    have hg : Xd (Qgm (i + 1) no p b) = Xd (Qgm i no p b ++ [p i]) := by rw [Qmn, hb]; rfl
    rw [← hg] at hu'
    (apply Zo;repeat' ((with_reducible first|apply Zk|(first|apply Za|apply Zb|apply Zc|apply Zd)<;>intro h)<;>try simp -implicitDefEqProofs (maxSteps:=9^7) (disch:=first|omega|(simp only [Qb];omega)) only [go_sem]))
    exact ⟨N - (i + 1), by omega, i + 1, v', (by (repeat' apply And.intro) <;> (first | rfl | omega | (congr 1; omega) | assumption | (congr 1; assumption)))⟩
   | false =>
    (apply Zo;repeat' ((with_reducible first|apply Zk|(first|apply Za|apply Zb|apply Zc|apply Zd)<;>intro h)<;>try simp -implicitDefEqProofs (maxSteps:=9^7) (disch:=first|omega|(simp only [Qb];omega)) only [go_sem, hkeep]))
    refine Qo9 hu rfl rfl (by omega) fun v' H' hu' hk hr' => ?_
    have h0' := hk 0 _ (fun off m e => by have := hr _ _ _ e; omega) h0
    have hg : Xd (Qgm (i + 1) no p b) = Xd (Qgm i no p b ++ [no]) := by rw [Qmn, hb]; rfl
    rw [← hg] at hu'
    (apply Zo;repeat' ((with_reducible first|apply Zk|(first|apply Za|apply Zb|apply Zc|apply Zd)<;>intro h)<;>try simp -implicitDefEqProofs (maxSteps:=9^7) (disch:=first|omega|(simp only [Qb];omega)) only [go_sem]))
    exact ⟨N - (i + 1), by omega, i + 1, v', (by (repeat' apply And.intro) <;> (first | rfl | omega | (congr 1; omega) | assumption | (congr 1; assumption)))⟩
  ·skip
   (apply Zo;repeat' ((with_reducible first|apply Zk|(first|apply Za|apply Zb|apply Zc|apply Zd)<;>intro h)<;>try simp -implicitDefEqProofs (maxSteps:=9^7) (disch:=first|omega|(simp only [Qb];omega)) only [go_sem]))
   have : i = N := by omega
   subst this;exact Own.ret hu (fun g => Yw _ _ (Qm _)) fun v H h => h
 ·exact ⟨0, .nil, by omega, rfl, rfl, .inl ⟨rfl, rfl, rfl⟩, (fun r off m e => nomatch e), rfl, rfl, rfl, rfl, rfl, rfl, rfl⟩
def Qi8 (t : Tn) (l : List Int) : Raw := t.el.getD (Jj t.shape l).toNat r0
def Qgl (t : Tn) (l : List Int) : Bool := decide (Qav t.shape l = 0)
theorem Qfw {s l : List Int} (h : Qav s l = 0) : 0 ≤ Jj s l ∧ Jj s l < Qp s ∧ Yo s = 0 := by
 have hm : Yo s = 0 := by
  refine Classical.byContradiction fun hn => ?_
  rw [Qav, if_pos hn] at h; exact hn h
 have hl : l.length = s.length := by
  refine Classical.byContradiction fun hn => ?_
  rw [Qav, if_neg (by omega), if_pos hn] at h; cases h
 have hi : inB s l = true := by
  refine Classical.byContradiction fun hn => ?_
  rw [Qav, if_neg (by omega), if_neg (by omega), if_neg hn] at h; cases h
 have := Qun (Qek.1 hi) s.length (Nat.le_refl _)
 rw [List.take_length] at this;rw [Jj, if_pos h];exact ⟨this.1, this.2, hm⟩
theorem Xal (t : Tn) (ht : TnOK t) (hf : Zt t = 0) (f : Nat) (caps : List V) (hc : Qi caps = true) (x l : List Int) (hx : x.length ≤ 1000000000) (hl : l.length ≤ 1000000000) (hp : Val C f (.sl x.length (ints x) :: caps) (.sl l.length (ints l))) :
  Pu C 82 [.sl x.length (ints x), .rp [.sl t.shape.length (ints t.shape), .sl t.el.length (Xd t.el)] 0, .rp [.fn (.func f) [] caps] 0] (.tup [Qa8 (if Qgl t l then Qi8 t l else r0), .bool (Qgl t l)]) := by
 have hs := ht.s
 have he := ht.e
 refine Pu.ofBor (by simp [clo, Qi, Qw]) ?_
 refine Fc.bodyT Qe Tryz.func82 w82 rfl Tryz.ntmps82 Tryz.results82 (zLe rfl) ?_
 (apply Zo;repeat' ((with_reducible first|apply Zk|(first|apply Za|apply Zb|apply Zc|apply Zd)<;>intro h)<;>try simp -implicitDefEqProofs (maxSteps:=9^7) (disch:=first|omega|(simp only [Qb];omega)) only [go_sem]))
 refine RunU.now ?_
 (apply Zo;repeat' ((with_reducible first|apply Zk|(first|apply Za|apply Zb|apply Zc|apply Zd)<;>intro h)<;>try simp -implicitDefEqProofs (maxSteps:=9^7) (disch:=first|omega|(simp only [Qb];omega)) only [go_sem]))
 refine Val.pc hp ⟨.self (by simp [clo, Qc]), BorL.selfs hc⟩ (by simp [clo, Qc]) ?_
 (apply Zo;repeat' ((with_reducible first|apply Zk|(first|apply Za|apply Zb|apply Zc|apply Zd)<;>intro h)<;>try simp -implicitDefEqProofs (maxSteps:=9^7) (disch:=first|omega|(simp only [Qb];omega)) only [go_sem]))
 refine Pc.pure (Qpl t.shape l hs hl) (by simp [Qi, clo, Qc]) (fun g => rfl) ?_
 by_cases hz : Qav t.shape l = 0
 ·obtain ⟨h1, h2, h3⟩ := Qfw hz
  have hel : (t.el.length : Int) = Qp t.shape := by
   rw [Zt, if_neg (by omega)] at hf
   split at hf
   ·cases hf
   ·rename_i h; rw [countP, if_pos h3] at h; omega
  obtain ⟨m, hm⟩ : ∃ m : Nat, Jj t.shape l = m := ⟨(Jj t.shape l).toNat, by omega⟩
  have hia : Qgl t l = true := by simp [Qgl, hz]
  have hpk : Qi8 t l = t.el.getD m r0 := by rw [Qi8, hm]; rfl
  rw [hia, if_pos rfl, hpk, hm, hz]
  have hlt : m < t.el.length := by omega
  (apply Zo;repeat' ((with_reducible first|apply Zk|(first|apply Za|apply Zb|apply Zc|apply Zd)<;>intro h)<;>try simp -implicitDefEqProofs (maxSteps:=9^7) (disch:=first|omega|(simp only [Qb];omega)) only [go_sem]))
  exact .self (by simp [clo, Qi, Qk])
 ·have hia : Qgl t l = false := by simp [Qgl, hz]
  rw [hia, if_neg (by decide)]
  (apply Zo;repeat' ((with_reducible first|apply Zk|(first|apply Za|apply Zb|apply Zc|apply Zd)<;>intro h)<;>try simp -implicitDefEqProofs (maxSteps:=9^7) (disch:=first|omega|(simp only [Qb];omega)) only [go_sem]))
  exact Bor.tupL ⟨Bor.aggL ⟨.self rfl, .nil _, .nil _, trivial⟩, .self rfl, trivial⟩
theorem Qjx {s : List Int} (h : ∀ d ∈ s, 1 ≤ d) (n : Int) : ∀ j, j < s.length → 0 ≤ (Xq s n).getD j 0 ∧ (Xq s n).getD j 0 < s.getD j 0 := fun j hj => by
 have e : (Xq s n).getD j 0 = Qeq s n j := by simp [Xq, List.getD, hj]
 rw [e];exact Xbq h n hj
def mvL (t : Tn) (s : List Int) (g : List Int → List Int) (N : Nat) : List Raw := Qgm N Qf8 (fun i => if Qgl t (g (Xq s (i : Nat))) then Qi8 t (g (Xq s (i : Nat))) else r0) (fun i => Qgl t (g (Xq s (i : Nat))))
def mvT (t : Tn) (s : List Int) (g : List Int → List Int) : Tn := Qkk ⟨s, mvL t s g (Qp s).toNat⟩
theorem Qyg : RawOK Qf8 := ⟨by simp [Qf8, Qz, Zh, Xv], by rw [Qf8, Qz, Zh, Qtd _ (by decide)]; decide, fun x hx => by simp [Qf8, Qz, Zh, Xv] at hx, fun x hx => by
 rw [Qf8, Qz, Zh, Qtd _ (by decide)] at hx
 simp at hx; rw [hx]; decide⟩
theorem Quh {t : Tn} (ht : TnOK t) (hf : Zt t = 0) {l : List Int} (h : Qgl t l = true) : RawOK (Qi8 t l) := by
 simp only [Qgl, decide_eq_true_eq] at h;obtain ⟨h1, h2, h3⟩ := Qfw h
 have hel : (t.el.length : Int) = Qp t.shape := by
  rw [Zt, if_neg (by omega)] at hf
  split at hf
  ·cases hf
  ·rename_i h; rw [countP, if_pos h3] at h; omega
 exact ht.get (by omega)
theorem Xak {t : Tn} (ht : TnOK t) (hf : Zt t = 0) (s : List Int) (g : List Int → List Int) (N : Nat) : ∀ x ∈ mvL t s g N, RawOK x := fun x hx => by
 simp only [mvL, Qgm, List.mem_map, List.mem_range] at hx;obtain ⟨i, _, rfl⟩ := hx;split
 ·rename_i h; first | exact Quh ht hf h | (rw [if_pos h]; exact Quh ht hf h)
 ·exact Qyg
theorem Qil (t : Tn) (ht : TnOK t) (hf : Zt t = 0) (s : List Int) (hs : s.length ≤ 1000000000) (hm : Yo s = 0) (f : Nat) (caps : List V) (hc : Qi caps = true) (g : List Int → List Int)
  (hp : ∀ x : List Int, x.length = s.length → (∀ j, j < s.length → 0 ≤ x.getD j 0 ∧ x.getD j 0 < s.getD j 0) → (g x).length ≤ 1000000000 ∧ Val C f (.sl x.length (ints x) :: caps) (.sl (g x).length (ints (g x)))) :
  Val C 41 [tnV t, .sl s.length (ints s), .fn (.func f) [] caps] (.tup [tnV (mvT t s g), .int .i64 0]) := by
 obtain ⟨m1, m2, m3⟩ := Xs hm
 have hpos := Zv m2
 obtain ⟨N, hN⟩ : ∃ N : Nat, (N : Int) = Qp s := ⟨(Qp s).toNat, by omega⟩
 have hNN : (Qp s).toNat = N := by omega
 have hok : TnOK ⟨s, mvL t s g N⟩ := ⟨hs, by simp only [mvL, Qho]; omega, Xak ht hf s g N⟩
 have hfit : Zt ⟨s, mvL t s g N⟩ = 0 := by
  have hm' : ¬ Yo s ≠ 0 := by omega
  rw [Zt, if_neg hm', if_neg]
  show ¬ _ ≠ countP s
  rw [countP, if_pos hm];simp only [mvL, Qho];omega
 have hmk : mkT ⟨s, mvL t s g N⟩ = (mvT t s g, 0) := by rw [mkT, if_neg (by omega), mvT, hNN]
 have hmake := Qvv ⟨s, mvL t s g N⟩ hok
 rw [hmk] at hmake
 have hlN : (mvL t s g N).length = N := Qho _ _ _ _
 simp only [hlN] at hmake
 have hgat := Qnx s Qf8 82 [.rp [.sl t.shape.length (ints t.shape), .sl t.el.length (Xd t.el)] 0, .rp [.fn (.func f) [] caps] 0] (fun i => if Qgl t (g (Xq s (i : Nat))) then Qi8 t (g (Xq s (i : Nat))) else r0) (fun i => Qgl t (g (Xq s (i : Nat)))) N hs hm hN (by simp [Qi, clo, Qc, Qm, hc]) (fun i hi =>
  Xal t ht hf f caps hc (Xq s (i : Nat)) (g (Xq s (i : Nat))) (by rw [Kz]; omega) (hp _ (Kz _ _) (Qjx m2 _)).1 (hp _ (Kz _ _) (Qjx m2 _)).2)
 refine Fc.keep (Fc.bodyT Qe Tryz.func41 w41 rfl Tryz.ntmps41 Tryz.results41 (zLe rfl) ?_)
 (apply Zo;repeat' ((with_reducible first|apply Zk|(first|apply Za|apply Zb|apply Zc|apply Zd)<;>intro h)<;>try simp -implicitDefEqProofs (maxSteps:=9^7) (disch:=first|omega|(simp only [Qb];omega)) only [go_sem]))
 refine (Qns 0 (by decide) (by decide)).call ⟨.self rfl, trivial⟩ (Qk7 _) ?_
 (apply Zo;repeat' ((with_reducible first|apply Zk|(first|apply Za|apply Zb|apply Zc|apply Zd)<;>intro h)<;>try simp -implicitDefEqProofs (maxSteps:=9^7) (disch:=first|omega|(simp only [Qb];omega)) only [go_sem]))
 refine Fc.sealed (r := 0) rfl (by simp [Qi, clo, Qc, Qm]) ?_
 refine Fc.sealed (r := 1) rfl (by simp [Qi, clo, hc]) ?_
 have e : szL 1 [.fn (.func f) [] caps] (szL 0 [.sl t.shape.length (ints t.shape), .sl t.el.length (Xd t.el)] [.sl s.length (ints s), .agg [.bool (Zh 0).neg, .sl (dg B32 (Zh 0).num).length (Xa .u32 (dg B32 (Zh 0).num)), .sl (dg B32 (Zh 0).den).length (Xa .u32 (dg B32 (Zh 0).den))], .fn (.func 82) [] [.ptr 0 0, .ptr 1 0]]) =
   [.sl s.length (ints s), Qa8 Qf8, .fn (.func 82) [] [.rp [.sl t.shape.length (ints t.shape), .sl t.el.length (Xd t.el)] 0, .rp [.fn (.func f) [] caps] 0]] := by
  simp only [szL, sz, Zy _ _ _ (Qc _), Zy _ _ _ (Qm _), Zy _ _ _ hc, Zy _ _ _ (Qk _ _), if_true, Nat.one_ne_zero, if_false]
  rfl
 rw [e];refine Fc.pure hgat (by simp [Qi, clo, Qc, Qm, hc, Qw]) (fun g => by simp [ren, Yw _ _ (Qm _)]) ?_
 rw [show Qgm N Qf8 (fun i => if Qgl t (g (Xq s (i : Nat))) then Qi8 t (g (Xq s (i : Nat))) else r0) (fun i => Qgl t (g (Xq s (i : Nat)))) = mvL t s g N from rfl]
 (apply Zo;repeat' ((with_reducible first|apply Zk|(first|apply Za|apply Zb|apply Zc|apply Zd)<;>intro h)<;>try simp -implicitDefEqProofs (maxSteps:=9^7) (disch:=first|omega|(simp only [Qb];omega)) only [go_sem]))
 refine hmake.keptF ⟨.self (by simp [clo, Qc]), .self (by simp [clo, Qm]), trivial⟩ fun v X hv => ?_
 obtain ⟨w, e, rfl, hw, he⟩ := hv.tup2;obtain ⟨a, b, rfl, ha, hb⟩ := hw.agg2;obtain ⟨ka, ca, sa⟩ := Yu ha.gd;obtain ⟨kb, cb, sb⟩ := Yu hb.gd;rw [he.gd.int_inv]
 (apply Zo;repeat' ((with_reducible first|apply Zk|(first|apply Za|apply Zb|apply Zc|apply Zd)<;>intro h)<;>try simp -implicitDefEqProofs (maxSteps:=9^7) (disch:=first|omega|(simp only [Qb];omega)) only [go_sem, ka, ca, sa, kb, cb, sb]))
 exact Gd.ret (Gd.tupL ⟨Gd.aggL ⟨(ha.set (q := 2) (by simp) _).gd, (hb.set (q := 2) (by simp) _).gd, trivial⟩, Qly _ _, trivial⟩)
theorem Xg6 (r off : Nat) (i : Int) (H : Qa) (K : V → Prop) : Qk0 C.ty (C.ty 79) (.ptr r off) (.int .i64 i) H K = ((Qd H r).isSome = true ∧ 0 ≤ i ∧ i < 2 ∧ K (.ptr r (off + i.toNat))) := by
 simp only [Qk0, Xt, show (C.ty 79).sl = none from rfl, t79arr, t3ok, t3size, true_and, Nat.mul_one]
 rfl
attribute [go_sem] Xg6
theorem Xl2 : Tryz.f86.body.all yOK = true := by kernel_rfl
def Qck (l : List Int) : V := .fn (.func 86) [] [.rp [.sl l.length (ints l)] 0]
theorem Qcj (l : List Int) : Pu C 50 [.sl l.length (ints l)] (Qck l) := by
 refine Fc.keep (Fc.sealR ?_);refine Fc.bodyT Qe Tryz.func50 w50 rfl Tryz.ntmps50 Tryz.results50 (zLe rfl) ?_
 (apply Zo;repeat' ((with_reducible first|apply Zk|(first|apply Za|apply Zb|apply Zc|apply Zd)<;>intro h)<;>try simp -implicitDefEqProofs (maxSteps:=9^7) (disch:=first|omega|(simp only [Qb];omega)) only [go_sem]))
 refine ⟨0, _, 1, [.sl l.length (ints l)], rfl, by simp [Qi, clo, Qc], [], by simp, by simp, ?_⟩
 simp [sz, szL, ren, Ql, Qck, Qdg, Qy]
def Qdv (l : List Int) : List (List V) := (List.range (l.length / 2)).map fun k => [.int .i64 (k : Nat), .agg [.int .i64 (l.getD (2 * k) 0), .int .i64 (l.getD (2 * k + 1) 0)]]
theorem Qcb {l : List Int} {k : Nat} (h : k < l.length / 2) : (Qdv l)[k]? = some [.int .i64 (k : Nat), .agg [.int .i64 (l.getD (2 * k) 0), .int .i64 (l.getD (2 * k + 1) 0)]] := by simp [Qdv, h]
theorem Zw (l : List Int) : (Qdv l).length = l.length / 2 := by simp [Qdv]
theorem Qdu (s : List Int) (hs : s.length ≤ 1000000000) : Gen C 86 [.rp [.sl s.length (ints s)] 0] (Qdv s) := by
 refine Gen.of3 Qe Tryz.func86 w86 Xl2 rfl Tryz.ntmps86 Tryz.results86 (zLe rfl) (fun bs hb => by
  simp only [Qdv, List.mem_map, List.mem_range] at hb;obtain ⟨i, _, rfl⟩ := hb;simp [Qi, clo]) ?_
 intro G l J hW
 (apply Zo;repeat' ((with_reducible first|apply Zk|(first|apply Za|apply Zb|apply Zc|apply Zd)<;>intro h)<;>try simp -implicitDefEqProofs (maxSteps:=9^7) (disch:=first|omega|(simp only [Qb];omega)) only [go_sem]))
 refine Qa2 (fun n ts H => ∃ (i : Nat), (i ≤ s.length / 2) ∧ (n = s.length / 2 - i) ∧ (H.length = i) ∧ ts.length = 26 ∧ nth ts 0 = .fn (.yield l) [] [] ∧ nth ts 1 = .rp [.sl s.length (ints s)] 0 ∧ nth ts 3 = .int .i64 ((2 * i : Nat) : Int)) ?_ (n := s.length / 2) ?_
 ·skip
  rintro n ts H ⟨i, hi, hn, hH, hL, hs0, hs1, hs3⟩;refine Qh0 [(0, .fn (.yield l) [] []), (1, .rp [.sl s.length (ints s)] 0), (3, .int .i64 ((2 * i : Nat) : Int))] hL (by simp only [zFm, hs0, hs1, hs3, true_and]; exact zNm) ?_
  clear hL hs0 hs1 hs3 ts
  refine hW _ _ _ _ ?_;by_cases hcase : i < s.length / 2
  ·have e1 : (((2 * i : Nat) : Int) / 2) = (i : Int) := by omega
   have e2 : (((2 * i : Nat) : Int) + 1) = ((2 * i + 1 : Nat) : Int) := by omega
   (apply Zo;repeat' ((with_reducible first|apply Zk|(first|apply Za|apply Zb|apply Zc|apply Zd)<;>intro h)<;>try simp -implicitDefEqProofs (maxSteps:=9^7) (disch:=first|omega|(simp only [Qb];omega)) only [go_sem, e1, e2]))
   rw [hH, Zw];refine ⟨Qcb hcase, ⟨s.length / 2 - (i + 1), by omega, i + 1, by omega, rfl, rfl, by congr 1⟩, .inr trivial, .inr ?_⟩
   rw [List.length_replicate]; omega
  ·skip
   (apply Zo;repeat' ((with_reducible first|apply Zk|(first|apply Za|apply Zb|apply Zc|apply Zd)<;>intro h)<;>try simp -implicitDefEqProofs (maxSteps:=9^7) (disch:=first|omega|(simp only [Qb];omega)) only [go_sem]))
   rw [Zw];exact ⟨.inl trivial, .inl (by omega)⟩
 ·exact ⟨0, by omega, by omega, rfl, rfl, rfl, rfl, rfl⟩
theorem Qcl {l : List Int} {n : Nat} (hn : n = 2) : ∀ bs ∈ Qdv l, bs.length = n := fun bs hb => by
 subst hn;simp only [Qdv, List.mem_map, List.mem_range] at hb;obtain ⟨i, _, rfl⟩ := hb
 rfl
def Qc4 (l x : List Int) : List Int := (List.range x.length).map fun i => x.getD i 0 + l.getD (2 * i) 0
def Qdf (l x : List Int) : List Int := (List.range x.length).map fun i => x.getD i 0 - l.getD (2 * i) 0
def Qam (f : Nat → Int) (x : List Int) (k : Nat) : List Int := (List.range x.length).map fun i => if i < k then f i else x.getD i 0
theorem Qfz (f : Nat → Int) (x : List Int) (k : Nat) : (Qam f x k).length = x.length := by simp [Qam]
theorem Qk3 (f : Nat → Int) (x : List Int) : Qam f x 0 = x := by
 refine List.ext_getElem (by simp [Qam]) fun j h1 h2 => ?_
 simp [Qam, List.getD, h2]
theorem Qk5 (f : Nat → Int) (x : List Int) : Qam f x x.length = (List.range x.length).map f := by
 refine List.ext_getElem (by simp [Qam]) fun j h1 h2 => ?_
 simp [Qam] at h1 ⊢
 intro; omega
theorem Qmq {f : Nat → Int} {x : List Int} {k : Nat} (h : k < x.length) : (Qam f x k).getD k 0 = x.getD k 0 := by simp [Qam, List.getD, h]
theorem Qk4 {f : Nat → Int} {x : List Int} {k : Nat} (h : k < x.length) : (Qam f x k).set k (f k) = Qam f x (k + 1) := by
 refine List.ext_getElem (by simp [Qam]) fun j h1 h2 => ?_
 rw [List.getElem_set];simp [Qam] at h1 h2 ⊢;split
 ·rename_i e; subst e; rw [if_pos (by omega)]
 ·rename_i e;by_cases hj : j < k
  ·rw [if_pos hj, if_pos (by omega)]
  ·rw [if_neg hj, if_neg (by omega)]
theorem Qrt (l x : List Int) (hx : x.length ≤ 1000) (hl : l.length = 2 * x.length) (hb : ∀ j, j < x.length → 0 ≤ x.getD j 0 ∧ x.getD j 0 ≤ 1024) (hc : ∀ j, j < x.length → 0 ≤ l.getD (2 * j) 0 ∧ l.getD (2 * j) 0 ≤ 1024) : Val C 51 [.sl x.length (ints x), .rp [.sl l.length (ints l)] 0] (.sl (Qc4 l x).length (ints (Qc4 l x))) := by
 have hv : Qck l = .fn (.func 86) [] [.rp [.sl l.length (ints l)] 0] := rfl
 have hfin : Qam (fun i => x.getD i 0 + l.getD (2 * i) 0) x x.length = Qc4 l x := Qk5 _ _
 have hll : (Qc4 l x).length = x.length := by simp [Qc4]
 refine Val.ofRet (e := 3) (s := 1) ?_ (Qc _) (Zl _);refine Fc.keep (Fc.bodyT Qe Tryz.func51 w51 rfl Tryz.ntmps51 Tryz.results51 (zLe rfl) ?_)
 (apply Zo;repeat' ((with_reducible first|apply Zk|(first|apply Za|apply Zb|apply Zc|apply Zd)<;>intro h)<;>try simp -implicitDefEqProofs (maxSteps:=9^7) (disch:=first|omega|(simp only [Qb];omega)) only [go_sem]))
 refine Fc.ownL (Qjl x (by omega)) ⟨.self (by simp [clo, Qc]), trivial⟩ (fun g => Qy g _) (Zl _) fun v X hv0 => ?_
 have hkn : kn v = true ∧ cellsOf v = [v] ∧ Yr v = true := by rcases hv0 with ⟨rfl, _⟩ | ⟨r, rfl, _⟩ <;> exact ⟨rfl, rfl, rfl⟩
 obtain ⟨k1, c1, s1⟩ := hkn
 have hne : ∀ r off m, v = .ref r off m → r < X.length := fun r off m e => by
  rcases hv0 with ⟨rfl, _⟩ | ⟨q, rfl, hq, _⟩
  ·cases e
  ·injection e with e; subst e; have := Xg hq; simpa using this
 (apply Zo;repeat' ((with_reducible first|apply Zk|(first|apply Za|apply Zb|apply Zc|apply Zd)<;>intro h)<;>try simp -implicitDefEqProofs (maxSteps:=9^7) (disch:=first|omega|(simp only [Qb];omega)) only [go_sem, k1, c1, s1]))
 refine Fc.pure (Qcj l) (by simp [Qi, clo, Qc]) (fun g => by simp [Qck, ren, Ql, Qy]) ?_
 (apply Zo;repeat' ((with_reducible first|apply Zk|(first|apply Za|apply Zb|apply Zc|apply Zd)<;>intro h)<;>try simp -implicitDefEqProofs (maxSteps:=9^7) (disch:=first|omega|(simp only [Qb];omega)) only [go_sem, hv]))
 refine Ks (g := 86) (lb := [.rp [.sl l.length (ints l)] 0]) (xs := Qdv l) (by simp -implicitDefEqProofs (maxSteps:=9^7) (disch := first | omega | (simp only [Qb]; omega)) only [go_sem]) (by simp [Qi, clo, Qc]) (Qdu l (by omega)) (Qcl rfl) (fun k H => Qd H X.length = some ⟨22, 1, [v]⟩ ∧ Bv.Own 3 1 H v x.length (ints (Qam (fun i => x.getD i 0 + l.getD (2 * i) 0) x k))) ⟨by simp [Qd], ?_⟩ ?_ ?_
 ·rw [Qk3]; exact hv0.keep _
 ·rintro k us H hk ⟨hb1, hw⟩ lv
  have hkl : k < x.length := by
   have := (List.getElem?_eq_some_iff.1 hk).1
   rw [Zw] at this; omega
  rw [Qcb (by omega)] at hk
  injection hk with hk
  subst hk;obtain ⟨-, h0, -⟩ | ⟨r, rfl, hr, -⟩ := hw
  ·omega
  have hrX := hne r 0 x.length rfl
  have hHX := Xg hb1
  have hap : ∀ Y, Qd (H ++ Y) X.length = some ⟨22, 1, [.ref r 0 x.length]⟩ := fun Y => Qj hb1 Y
  have har : ∀ Y, Qd (H ++ Y) r = some ⟨3, 1, ints (Qam (fun i => x.getD i 0 + l.getD (2 * i) 0) x k)⟩ := fun Y => Qj hr Y
  have hdg := Qmq (f := fun i => x.getD i 0 + l.getD (2 * i) 0) hkl
  have hdl := Qfz (fun i => x.getD i 0 + l.getD (2 * i) 0) x k
  have hds := Qk4 (f := fun i => x.getD i 0 + l.getD (2 * i) 0) hkl
  have hb' := hb k hkl
  have hc' := hc k hkl
  (refine Qu Qe ?_; simp -implicitDefEqProofs (maxSteps:=9^7) (disch := first | omega | (simp only [Qb]; omega)) only [go_sem, Qes])
  (refine Qu Qe ?_; simp -implicitDefEqProofs (maxSteps:=9^7) (disch := first | omega | (simp only [Qb]; omega)) only [go_sem, hap, har])
  (apply Zo;repeat' ((with_reducible first|apply Zk|(first|apply Za|apply Zb|apply Zc|apply Zd)<;>intro h)<;>try simp -implicitDefEqProofs (maxSteps:=9^7) (disch:=first|omega|(simp only [Qb];omega)) only [go_sem, hap, har, hdg, Xu, hds, Jr]))
  refine ⟨?_, .inr ⟨r, rfl, Qg (har _), by rw [Zn, Qfz]; omega⟩⟩
  rw [Qh _ (by omega)]; exact hap _
 ·rintro H ⟨hb1, hw⟩;rw [Zw, show l.length / 2 = x.length by omega, hfin] at hw
  (apply Zo;repeat' ((with_reducible first|apply Zk|(first|apply Za|apply Zb|apply Zc|apply Zd)<;>intro h)<;>try simp -implicitDefEqProofs (maxSteps:=9^7) (disch:=first|omega|(simp only [Qb];omega)) only [go_sem, hb1]))
  rw [hll];exact Own.ret hw (fun g => Qy g _) fun v H h => h
theorem Qpe (l x : List Int) (hx : x.length ≤ 1000) (hl : l.length = 2 * x.length) (hb : ∀ j, j < x.length → 0 ≤ x.getD j 0 ∧ x.getD j 0 ≤ 1024) (hc : ∀ j, j < x.length → 0 ≤ l.getD (2 * j) 0 ∧ l.getD (2 * j) 0 ≤ 1024) : Val C 57 [.sl x.length (ints x), .rp [.sl l.length (ints l)] 0] (.sl (Qdf l x).length (ints (Qdf l x))) := by
 have hv : Qck l = .fn (.func 86) [] [.rp [.sl l.length (ints l)] 0] := rfl
 have hfin : Qam (fun i => x.getD i 0 - l.getD (2 * i) 0) x x.length = Qdf l x := Qk5 _ _
 have hll : (Qdf l x).length = x.length := by simp [Qdf]
 refine Val.ofRet (e := 3) (s := 1) ?_ (Qc _) (Zl _);refine Fc.keep (Fc.bodyT Qe Tryz.func57 w57 rfl Tryz.ntmps57 Tryz.results57 (zLe rfl) ?_)
 (apply Zo;repeat' ((with_reducible first|apply Zk|(first|apply Za|apply Zb|apply Zc|apply Zd)<;>intro h)<;>try simp -implicitDefEqProofs (maxSteps:=9^7) (disch:=first|omega|(simp only [Qb];omega)) only [go_sem]))
 refine Fc.ownL (Qjl x (by omega)) ⟨.self (by simp [clo, Qc]), trivial⟩ (fun g => Qy g _) (Zl _) fun v X hv0 => ?_
 have hkn : kn v = true ∧ cellsOf v = [v] ∧ Yr v = true := by rcases hv0 with ⟨rfl, _⟩ | ⟨r, rfl, _⟩ <;> exact ⟨rfl, rfl, rfl⟩
 obtain ⟨k1, c1, s1⟩ := hkn
 have hne : ∀ r off m, v = .ref r off m → r < X.length := fun r off m e => by
  rcases hv0 with ⟨rfl, _⟩ | ⟨q, rfl, hq, _⟩
  ·cases e
  ·injection e with e; subst e; have := Xg hq; simpa using this
 (apply Zo;repeat' ((with_reducible first|apply Zk|(first|apply Za|apply Zb|apply Zc|apply Zd)<;>intro h)<;>try simp -implicitDefEqProofs (maxSteps:=9^7) (disch:=first|omega|(simp only [Qb];omega)) only [go_sem, k1, c1, s1]))
 refine Fc.pure (Qcj l) (by simp [Qi, clo, Qc]) (fun g => by simp [Qck, ren, Ql, Qy]) ?_
 (apply Zo;repeat' ((with_reducible first|apply Zk|(first|apply Za|apply Zb|apply Zc|apply Zd)<;>intro h)<;>try simp -implicitDefEqProofs (maxSteps:=9^7) (disch:=first|omega|(simp only [Qb];omega)) only [go_sem, hv]))
 refine Ks (g := 86) (lb := [.rp [.sl l.length (ints l)] 0]) (xs := Qdv l) (by simp -implicitDefEqProofs (maxSteps:=9^7) (disch := first | omega | (simp only [Qb]; omega)) only [go_sem]) (by simp [Qi, clo, Qc]) (Qdu l (by omega)) (Qcl rfl) (fun k H => Qd H X.length = some ⟨22, 1, [v]⟩ ∧ Bv.Own 3 1 H v x.length (ints (Qam (fun i => x.getD i 0 - l.getD (2 * i) 0) x k))) ⟨by simp [Qd], ?_⟩ ?_ ?_
 ·rw [Qk3]; exact hv0.keep _
 ·rintro k us H hk ⟨hb1, hw⟩ lv
  have hkl : k < x.length := by
   have := (List.getElem?_eq_some_iff.1 hk).1
   rw [Zw] at this; omega
  rw [Qcb (by omega)] at hk
  injection hk with hk
  subst hk;obtain ⟨-, h0, -⟩ | ⟨r, rfl, hr, -⟩ := hw
  ·omega
  have hrX := hne r 0 x.length rfl
  have hHX := Xg hb1
  have hap : ∀ Y, Qd (H ++ Y) X.length = some ⟨22, 1, [.ref r 0 x.length]⟩ := fun Y => Qj hb1 Y
  have har : ∀ Y, Qd (H ++ Y) r = some ⟨3, 1, ints (Qam (fun i => x.getD i 0 - l.getD (2 * i) 0) x k)⟩ := fun Y => Qj hr Y
  have hdg := Qmq (f := fun i => x.getD i 0 - l.getD (2 * i) 0) hkl
  have hdl := Qfz (fun i => x.getD i 0 - l.getD (2 * i) 0) x k
  have hds := Qk4 (f := fun i => x.getD i 0 - l.getD (2 * i) 0) hkl
  have hb' := hb k hkl
  have hc' := hc k hkl
  (refine Qu Qe ?_; simp -implicitDefEqProofs (maxSteps:=9^7) (disch := first | omega | (simp only [Qb]; omega)) only [go_sem, Qes])
  (refine Qu Qe ?_; simp -implicitDefEqProofs (maxSteps:=9^7) (disch := first | omega | (simp only [Qb]; omega)) only [go_sem, hap, har])
  (apply Zo;repeat' ((with_reducible first|apply Zk|(first|apply Za|apply Zb|apply Zc|apply Zd)<;>intro h)<;>try simp -implicitDefEqProofs (maxSteps:=9^7) (disch:=first|omega|(simp only [Qb];omega)) only [go_sem, hap, har, hdg, Xu, hds, Jr]))
  refine ⟨?_, .inr ⟨r, rfl, Qg (har _), by rw [Zn, Qfz]; omega⟩⟩
  rw [Qh _ (by omega)]; exact hap _
 ·rintro H ⟨hb1, hw⟩;rw [Zw, show l.length / 2 = x.length by omega, hfin] at hw
  (apply Zo;repeat' ((with_reducible first|apply Zk|(first|apply Za|apply Zb|apply Zc|apply Zd)<;>intro h)<;>try simp -implicitDefEqProofs (maxSteps:=9^7) (disch:=first|omega|(simp only [Qb];omega)) only [go_sem, hb1]))
  rw [hll];exact Own.ret hw (fun g => Qy g _) fun v H h => h
end Go.Proofs.YtjdbdmhjakfldaaGreat
end
section
namespace Go.Proofs.YtjdbdmhjakfldaaGreat
open Go.Bv
theorem Qju {e s e' s' : Nat} {H : Qa} {v : V} {n q : Nat} {cs cs' : List V} {z : Option Row} (h : Bv.Own e s H v n cs) (hq : Qd H q = some ⟨e', s', cs'⟩) (hne : e' ≠ e) : Bv.Own e s (H.set q z) v n cs := by
 rcases h with h | ⟨r, h, hr, hl⟩
 ·exact .inl h
 ·refine .inr ⟨r, h, ?_, hl⟩;rw [Qh]
  ·exact hr
  ·rintro rfl; rw [hq] at hr; injection hr with hr; injection hr with hr; exact hne hr
theorem Qbf {e s e' s' : Nat} {H H' : Qa} {v : V} {n q : Nat} {cs cs' : List V} (h : Bv.Own e s H v n cs) (hF : Fr v H H') (hq : Qd H q = some ⟨e', s', cs'⟩) (hne : e' ≠ e) : Qd H' q = some ⟨e', s', cs'⟩ := hF q _ (by
 rintro off m rfl;rcases h with ⟨h, _⟩ | ⟨r, h, hr, _⟩
 ·cases h
 ·injection h with h _ _; subst h; rw [hq] at hr; injection hr with hr; injection hr with hr; exact hne hr) hq
def Qg1 (f : Nat → Int) (k : Nat) : List Int := (List.range k).map f
theorem Yv (f : Nat → Int) (k : Nat) : (Qg1 f k).length = k := by simp [Qg1]
theorem Qh5 (f : Nat → Int) (k : Nat) : Qg1 f (k + 1) = Qg1 f k ++ [f k] := by simp [Qg1, List.range_succ]
theorem Qbh {f : Nat → Int} {k j : Nat} (h : j < k) : (Qg1 f k).getD j 0 = f j := by simp [Qg1, List.getD, h]
theorem Qj9 : ∀ {a b : List Int}, a.length = b.length → (∀ j, j < a.length → 1 ≤ a.getD j 0 ∧ a.getD j 0 ≤ b.getD j 0) → Qp a ≤ Qp b
 | [], [], _, _ => by simp [Qp]
 | x :: a, y :: b, hl, h => by
  have h0 := h 0 (by simp)
  have hr := Qj9 (a := a) (b := b) (by simpa using hl) fun j hj => by simpa using h (j + 1) (by simpa using hj)
  have hp : 1 ≤ Qp a := Zv (Jx.2 fun j hj => by have := h (j + 1) (by simpa using hj); simpa using this.1)
  simp only [List.getD_cons_zero] at h0
  show x * Qp a ≤ y * Qp b
  have h1 := Int.mul_le_mul_of_nonneg_right h0.2 (show 0 ≤ Qp a by omega)
  have h2 := Int.mul_le_mul_of_nonneg_left hr (show 0 ≤ y by omega)
  omega
theorem Xex {s : List Int} (h1 : s.length ≤ 4) (h2 : ∀ j, j < s.length → 1 ≤ s.getD j 0) (h3 : Qp s ≤ 1024) : Yo s = 0 := by
 have : s.all (fun d => decide (1 ≤ d)) = true := by simpa using Jx.2 h2
 rw [Yo, if_neg (by omega), if_pos this, if_neg (by omega)]
theorem Xw {t : Tn} (h : Yy t = 0) : Zt t = 0 ∧ Yo t.shape = 0 ∧ (t.el.length : Int) = Qp t.shape := by
 have hf : Zt t = 0 := Classical.byContradiction fun hn => by rw [Yy, if_pos hn] at h; exact hn h
 have hm : Yo t.shape = 0 := Classical.byContradiction fun hn => by rw [Zt, if_pos hn] at hf; exact hn hf
 refine ⟨hf, hm, ?_⟩;rw [Zt, if_neg (by omega)] at hf
 split at hf
 ·cases hf
 ·rename_i h; rw [countP, if_pos hm] at h; omega
theorem Qpa {y : Ty} {e e' s' k : Nat} {v : V} {H : Qa} {xs : List Int} {x : Int} {r1 : Option Row} {K : V → Qa → Prop} (h : Bv.Own e 1 H v k (ints xs)) (hk : k = xs.length) (hy : y.size = 1) (hb : 0 < y.bytes ∧ y.bytes ≤ 8) (hl : xs.length + 1 ≤ 17592186044416)
  (hK : ∀ v' H', Bv.Own e 1 H' v' (k + 1) (ints (xs ++ [x])) → Fr v (H ++ [r1]) H' → kn v' = true ∧ cellsOf v' = [v'] ∧ Yr v' = true → K v' H') : Qan y e v (.ref (H.length + 1) 0 1) (H ++ [r1, some ⟨e', s', [.int .i64 x]⟩]) K := by
 subst hk;rw [show H ++ [r1, some (⟨e', s', [.int .i64 x]⟩ : Row)] = (H ++ [r1]) ++ [some ⟨e', s', [.int .i64 x]⟩] by simp, show H.length + 1 = (H ++ [r1]).length by simp]
 refine Xf7 (h.keep [r1]) hy hb hl fun v' H' hu' hF => hK v' H' (by simpa using hu') hF ?_
 rcases hu' with ⟨rfl, _⟩ | ⟨r, rfl, _⟩ <;> exact ⟨rfl, rfl, rfl⟩
def Qiw (l : List Int) (n : Nat) : Bool := (List.range n).all fun k => decide (0 ≤ l.getD (2 * k) 0 ∧ l.getD (2 * k) 0 < l.getD (2 * k + 1) 0)
def Qix (l s : List Int) : Bool := (List.range s.length).all fun k => decide (l.getD (2 * k + 1) 0 ≤ s.getD k 0)
theorem Qgs {l : List Int} {n : Nat} : Qiw l n = true ↔ ∀ k, k < n → 0 ≤ l.getD (2 * k) 0 ∧ l.getD (2 * k) 0 < l.getD (2 * k + 1) 0 := by simp [Qiw]
theorem Qgt {l s : List Int} : Qix l s = true ↔ ∀ k, k < s.length → l.getD (2 * k + 1) 0 ≤ s.getD k 0 := by simp [Qix]
def Qaq (t : Tn) (l : List Int) : Int := if Yy t ≠ 0 then Yy t else if l.length ≠ 2 * t.shape.length then 11 else if Qiw l t.shape.length = false then 11 else if Qix l t.shape = false then 13 else 0
def Qap (l : List Int) (n : Nat) : List Int := Qg1 (fun k => l.getD (2 * k + 1) 0 - l.getD (2 * k) 0) n
def Qs7 (p : Tn) (e : Int) : Tn := if e ≠ 0 then Qit else p
def Qbt (t : Tn) (l : List Int) : Tn := Qs7 (mvT t (Qap l t.shape.length) (Qc4 l)) (Qaq t l)
theorem Quv {p : Tn} {e : Int} (h : e ≠ 0) : Qs7 p e = Qit := if_pos h
theorem Qay {p : Tn} {e : Int} (h : e = 0) : Qs7 p e = p := if_neg (by omega)
theorem Qfl {H : Qa} {p : Tn} {e k : Int} (h : e = k) (hk : k ≠ 0) : Gd H (.tup [.agg [.nil, .nil], .int .i64 k]) (.tup [tnV (Qs7 p e), .int .i64 e]) := by
 rw [Quv (by omega), h]
 exact Gd.tupL ⟨Qqc, Qly _ _, trivial⟩
theorem Qft (t : Tn) (ht : TnOK t) (l : List Int) (hl : l.length ≤ 1000000000) : Val C 20 [tnV t, .sl l.length (ints l)] (.tup [tnV (Qbt t l), .int .i64 (Qaq t l)]) := by
 have hv : Qck l = .fn (.func 86) [] [.rp [.sl l.length (ints l)] 0] := rfl
 have hs := ht.s
 unfold Qbt;refine Fc.keep (Fc.bodyT Qe Tryz.func20 w20 rfl Tryz.ntmps20 Tryz.results20 (zLe rfl) ?_)
 (apply Zo;repeat' ((with_reducible first|apply Zk|(first|apply Za|apply Zb|apply Zc|apply Zd)<;>intro h)<;>try simp -implicitDefEqProofs (maxSteps:=9^7) (disch:=first|omega|(simp only [Qb];omega)) only [go_sem]))
 refine Fc.pure (Qdq t ht) (by simp [Qi, clo, Qc, Qm]) (fun g => rfl) ?_
 by_cases hm : Yy t = 0
 case neg =>
  (apply Zo;repeat' ((with_reducible first|apply Zk|(first|apply Za|apply Zb|apply Zc|apply Zd)<;>intro h)<;>try simp -implicitDefEqProofs (maxSteps:=9^7) (disch:=first|omega|(simp only [Qb];omega)) only [go_sem]))
  exact Gd.ret (Qfl (by rw [Qaq, if_pos hm]) hm)
 obtain ⟨hf, hmp, hel⟩ := Xw hm;obtain ⟨m1, m2, m3⟩ := Xs hmp;rw [hm];by_cases hll : l.length = 2 * t.shape.length
 case neg =>
  (apply Zo;repeat' ((with_reducible first|apply Zk|(first|apply Za|apply Zb|apply Zc|apply Zd)<;>intro h)<;>try simp -implicitDefEqProofs (maxSteps:=9^7) (disch:=first|omega|(simp only [Qb];omega)) only [go_sem]))
  exact Gd.ret (Qfl (by rw [Qaq, if_neg (by omega), if_pos hll]) (by decide))
 (apply Zo;repeat' ((with_reducible first|apply Zk|(first|apply Za|apply Zb|apply Zc|apply Zd)<;>intro h)<;>try simp -implicitDefEqProofs (maxSteps:=9^7) (disch:=first|omega|(simp only [Qb];omega)) only [go_sem]))
 refine Fc.pure (Qcj l) (by simp [Qi, clo, Qc]) (fun g => by simp [Qck, ren, Ql, Qy]) ?_
 (apply Zo;repeat' ((with_reducible first|apply Zk|(first|apply Za|apply Zb|apply Zc|apply Zd)<;>intro h)<;>try simp -implicitDefEqProofs (maxSteps:=9^7) (disch:=first|omega|(simp only [Qb];omega)) only [go_sem, hv]))
 refine Ks (g := 86) (lb := [.rp [.sl l.length (ints l)] 0]) (xs := Qdv l) (by simp -implicitDefEqProofs (maxSteps:=9^7) (disch := first | omega | (simp only [Qb]; omega)) only [go_sem]) (by simp [Qi, clo, Qc]) (Qdu l (by omega)) (Qcl rfl) (fun k H => (∀ j, j < k → 0 ≤ l.getD (2 * j) 0 ∧ l.getD (2 * j) 0 < l.getD (2 * j + 1) 0) ∧ Qd H 0 = some ⟨26, 2, [.sl t.shape.length (ints t.shape), .sl t.el.length (Xd t.el)]⟩ ∧ Qd H 1 = some ⟨22, 1, [.sl l.length (ints l)]⟩ ∧ Qd H 2 = some ⟨26, 2, [.nil, .nil]⟩ ∧ Qd H 3 = some ⟨27, 1, [.int .i64 0]⟩) ⟨fun j hj => by omega, rfl, rfl, rfl, rfl⟩ ?_ ?_
 ·rintro k us H hk ⟨hI, h0, h1, h2, h3⟩ lv
  have hkl : k < t.shape.length := by
   have := (List.getElem?_eq_some_iff.1 hk).1
   rw [Zw] at this; omega
  rw [Qcb (by omega)] at hk
  injection hk with hk
  subst hk
  have a0 : ∀ Y, Qd (H ++ Y) 0 = some ⟨26, 2, [.sl t.shape.length (ints t.shape), .sl t.el.length (Xd t.el)]⟩ := fun Y => Qj h0 Y
  have a1 : ∀ Y, Qd (H ++ Y) 1 = some ⟨22, 1, [.sl l.length (ints l)]⟩ := fun Y => Qj h1 Y
  have a2 : ∀ Y, Qd (H ++ Y) 2 = some ⟨26, 2, [.nil, .nil]⟩ := fun Y => Qj h2 Y
  have a3 : ∀ Y, Qd (H ++ Y) 3 = some ⟨27, 1, [.int .i64 0]⟩ := fun Y => Qj h3 Y
  have b3 : ∀ Y z, Qd ((H ++ Y).set 2 z) 3 = some ⟨27, 1, [.int .i64 0]⟩ := fun Y z => by rw [Qh _ (by decide)]; exact a3 Y
  have b2 : ∀ Y row z, Qd (((H ++ Y).set 2 (some row)).set 3 z) 2 = some row := fun Y row z => by rw [Qh _ (by decide)]; exact Qg (a2 Y)
  have b33 : ∀ Y row z, Qd (((H ++ Y).set 2 z).set 3 (some row)) 3 = some row := fun Y row z => Qg (b3 Y z)
  (refine Qu Qe ?_; simp -implicitDefEqProofs (maxSteps:=9^7) (disch := first | omega | (simp only [Qb]; omega)) only [go_sem, Qes])
  by_cases hc : 0 ≤ l.getD (2 * k) 0 ∧ l.getD (2 * k) 0 < l.getD (2 * k + 1) 0
  ·skip
   (refine Qu Qe ?_; simp -implicitDefEqProofs (maxSteps:=9^7) (disch := first | omega | (simp only [Qb]; omega)) only [go_sem, a0])
   (apply Zo;repeat' ((with_reducible first|apply Zk|(first|apply Za|apply Zb|apply Zc|apply Zd)<;>intro h)<;>try simp -implicitDefEqProofs (maxSteps:=9^7) (disch:=first|omega|(simp only [Qb];omega)) only [go_sem, a0, a1, a2, a3, b3, b2, b33, Jr]))
   exact Qlh hI hc
  ·have hno : Qiw l t.shape.length = false := by
    rw [Bool.eq_false_iff];exact fun hh => hc (Qgs.1 hh k hkl)
   (refine Qu Qe ?_; simp -implicitDefEqProofs (maxSteps:=9^7) (disch := first | omega | (simp only [Qb]; omega)) only [go_sem, a0])
   (apply Zo;repeat' ((with_reducible first|apply Zk|(first|apply Za|apply Zb|apply Zc|apply Zd)<;>intro h)<;>try simp -implicitDefEqProofs (maxSteps:=9^7) (disch:=first|omega|(simp only [Qb];omega)) only [go_sem, a0, a1, a2, a3, b3, b2, b33, Jr]))
   all_goals exact Gd.ret (Qfl (by rw [Qaq, if_neg (by omega), if_neg (by omega), if_pos hno]) (by decide))
 ·rintro H ⟨hI, h0, h1, h2, h3⟩;rw [Zw, show l.length / 2 = t.shape.length by omega] at hI
  have hyes : Qiw l t.shape.length = true := Qgs.2 hI
  have a0 : ∀ Y, Qd (H ++ Y) 0 = some ⟨26, 2, [.sl t.shape.length (ints t.shape), .sl t.el.length (Xd t.el)]⟩ := fun Y => Qj h0 Y
  have a1 : ∀ Y, Qd (H ++ Y) 1 = some ⟨22, 1, [.sl l.length (ints l)]⟩ := fun Y => Qj h1 Y
  have a2 : ∀ Y, Qd (H ++ Y) 2 = some ⟨26, 2, [.nil, .nil]⟩ := fun Y => Qj h2 Y
  have a3 : ∀ Y, Qd (H ++ Y) 3 = some ⟨27, 1, [.int .i64 0]⟩ := fun Y => Qj h3 Y
  have hP := Xg h3
  (apply Zo;repeat' ((with_reducible first|apply Zk|(first|apply Za|apply Zb|apply Zc|apply Zd)<;>intro h)<;>try simp -implicitDefEqProofs (maxSteps:=9^7) (disch:=first|omega|(simp only [Qb];omega)) only [go_sem, a0, a1]))
  refine Fc.pure (Qcj l) (by simp [Qi, clo, Qc]) (fun g => by simp [Qck, ren, Ql, Qy]) ?_
  (apply Zo;repeat' ((with_reducible first|apply Zk|(first|apply Za|apply Zb|apply Zc|apply Zd)<;>intro h)<;>try simp -implicitDefEqProofs (maxSteps:=9^7) (disch:=first|omega|(simp only [Qb];omega)) only [go_sem, hv]))
  obtain ⟨P, hPe⟩ : ∃ P, P = H.length := ⟨_, rfl⟩;rw [← hPe];rw [← hPe] at hP;refine Ks (g := 86) (lb := [.rp [.sl l.length (ints l)] 0]) (xs := Qdv l) (by simp -implicitDefEqProofs (maxSteps:=9^7) (disch := first | omega | (simp only [Qb]; omega)) only [go_sem]) (by simp [Qi, clo, Qc]) (Qdu l (by omega)) (Qcl rfl) (fun k H => ∃ u, (∀ j, j < k → l.getD (2 * j + 1) 0 ≤ t.shape.getD j 0) ∧ Qd H 0 = some ⟨26, 2, [.sl t.shape.length (ints t.shape), .sl t.el.length (Xd t.el)]⟩ ∧ Qd H 1 = some ⟨22, 1, [.sl l.length (ints l)]⟩ ∧ Qd H 2 = some ⟨26, 2, [.nil, .nil]⟩ ∧ Qd H 3 = some ⟨27, 1, [.int .i64 0]⟩ ∧ Qd H P = some ⟨23, 1, [u]⟩ ∧ Bv.Own 3 1 H u k (ints (Qap l k))) ⟨.nil, fun j hj => by omega, a0 _, a1 _, a2 _, a3 _, by rw [hPe]; simp [Qd], Bv.Own.nil _ _ _⟩ ?_ ?_
  ·rintro k us H2 hk ⟨u, hJ, g0, g1, g2, g3, gP, hu⟩ lv
   have hkl : k < t.shape.length := by
    have := (List.getElem?_eq_some_iff.1 hk).1
    rw [Zw] at this; omega
   rw [Qcb (by omega)] at hk
   injection hk with hk
   subst hk
   have c0 : ∀ Y, Qd (H2 ++ Y) 0 = some ⟨26, 2, [.sl t.shape.length (ints t.shape), .sl t.el.length (Xd t.el)]⟩ := fun Y => Qj g0 Y
   have c1 : ∀ Y, Qd (H2 ++ Y) 1 = some ⟨22, 1, [.sl l.length (ints l)]⟩ := fun Y => Qj g1 Y
   have c2 : ∀ Y, Qd (H2 ++ Y) 2 = some ⟨26, 2, [.nil, .nil]⟩ := fun Y => Qj g2 Y
   have c3 : ∀ Y, Qd (H2 ++ Y) 3 = some ⟨27, 1, [.int .i64 0]⟩ := fun Y => Qj g3 Y
   have cP : ∀ Y, Qd (H2 ++ Y) P = some ⟨23, 1, [u]⟩ := fun Y => Qj gP Y
   have b3 : ∀ Y z, Qd ((H2 ++ Y).set 2 z) 3 = some ⟨27, 1, [.int .i64 0]⟩ := fun Y z => by rw [Qh _ (by decide)]; exact c3 Y
   have b2 : ∀ Y row z, Qd (((H2 ++ Y).set 2 (some row)).set 3 z) 2 = some row := fun Y row z => by rw [Qh _ (by decide)]; exact Qg (c2 Y)
   have b33 : ∀ Y row z, Qd (((H2 ++ Y).set 2 z).set 3 (some row)) 3 = some row := fun Y row z => Qg (b3 Y z)
   have hck := hI k hkl
   have hsd := Ya m2 hkl
   (refine Qu Qe ?_; simp -implicitDefEqProofs (maxSteps:=9^7) (disch := first | omega | (simp only [Qb]; omega)) only [go_sem, Qes])
   (refine Qu Qe ?_; simp -implicitDefEqProofs (maxSteps:=9^7) (disch := first | omega | (simp only [Qb]; omega)) only [go_sem, c0])
   by_cases hc : l.getD (2 * k + 1) 0 ≤ t.shape.getD k 0
   ·have hlv := hu.lenw (C.ty 23)
    (apply Zo;repeat' ((with_reducible first|apply Zk|(first|apply Za|apply Zb|apply Zc|apply Zd)<;>intro h)<;>try simp -implicitDefEqProofs (maxSteps:=9^7) (disch:=first|omega|(simp only [Qb];omega)) only [go_sem, c0, cP, hlv, Jr]))
    refine Qpa hu (by rw [Qap, Yv]) rfl ⟨by decide, by decide⟩ (by rw [Qap, Yv]; omega) fun v' H' hu' hF hk' => ?_
    have d0 := Qbf (hu.keep _) hF (c0 _) (by decide)
    have d1 := Qbf (hu.keep _) hF (c1 _) (by decide)
    have d2 := Qbf (hu.keep _) hF (c2 _) (by decide)
    have d3 := Qbf (hu.keep _) hF (c3 _) (by decide)
    have dP := Qbf (hu.keep _) hF (cP _) (by decide)
    obtain ⟨k1, k2, k3⟩ := hk'
    (apply Zo;repeat' ((with_reducible first|apply Zk|(first|apply Za|apply Zb|apply Zc|apply Zd)<;>intro h)<;>try simp -implicitDefEqProofs (maxSteps:=9^7) (disch:=first|omega|(simp only [Qb];omega)) only [go_sem, dP, k1, k2, k3, Jr]))
    rw [Qap, ← Qh5 (f := fun k => l.getD (2 * k + 1) 0 - l.getD (2 * k) 0)] at hu'
    exact ⟨v', Qlh hJ hc, by rw [Qh _ (by omega)]; exact d0, by rw [Qh _ (by omega)]; exact d1, by rw [Qh _ (by omega)]; exact d2, by rw [Qh _ (by omega)]; exact d3, Qg dP, Qju hu' dP (by decide)⟩
   ·have hno : Qix l t.shape = false := by
     rw [Bool.eq_false_iff];exact fun hh => hc (Qgt.1 hh k hkl)
    (apply Zo;repeat' ((with_reducible first|apply Zk|(first|apply Za|apply Zb|apply Zc|apply Zd)<;>intro h)<;>try simp -implicitDefEqProofs (maxSteps:=9^7) (disch:=first|omega|(simp only [Qb];omega)) only [go_sem, c0, c1, c2, c3, b3, b2, b33, Jr]))
    exact Gd.ret (Qfl (by rw [Qaq, if_neg (by omega), if_neg (by omega), if_neg (by rw [hyes]; decide), if_pos hno]) (by decide))
  ·rintro H2 ⟨u, hJ, g0, g1, g2, g3, gP, hu⟩;rw [Zw, show l.length / 2 = t.shape.length by omega] at hJ hu
   have hin : Qix l t.shape = true := Qgt.2 hJ
   have hE : Qaq t l = 0 := by rw [Qaq, if_neg (by omega), if_neg (by omega), if_neg (by rw [hyes]; decide), if_neg (by rw [hin]; decide)]
   have hSl : (Qap l t.shape.length).length = t.shape.length := Yv _ _
   have hSg : ∀ j, j < t.shape.length → (Qap l t.shape.length).getD j 0 = l.getD (2 * j + 1) 0 - l.getD (2 * j) 0 := fun j hj => Qbh hj
   have hSm : Yo (Qap l t.shape.length) = 0 := by
    refine Xex (by omega) (fun j hj => ?_) ?_
    ·have := hI j (by omega)
     rw [hSg j (by omega)]; omega
    ·have := Qj9 (a := Qap l t.shape.length) (b := t.shape) hSl fun j hj => by
      have h1 := hI j (by omega)
      have h2 := hJ j (by omega)
      rw [hSg j (by omega)]; omega
     omega
   have hmv := Qil t ht hf (Qap l t.shape.length) (by omega) hSm 51 [.rp [.sl l.length (ints l)] 0] (by simp [Qi, clo, Qc]) (Qc4 l) (fun x hx hxb => ⟨by simp only [Qc4, List.length_map, List.length_range]; omega, by
    refine Qrt l x (by omega) (by omega) (fun j hj => ?_) (fun j hj => ?_)
    ·have h1 := hI j (by omega)
     have h2 := hJ j (by omega)
     have h3 := hxb j (by omega)
     have h4 := Ya m2 (i := j) (by omega)
     rw [hSg j (by omega)] at h3; omega
    ·have h1 := hI j (by omega)
     have h2 := hJ j (by omega)
     have h4 := Ya m2 (i := j) (by omega)
     omega⟩)
   rw [Qay hE, hE]
   have hku : kn u = true ∧ cellsOf u = [u] ∧ Yr u = true := by rcases hu with ⟨rfl, _⟩ | ⟨r, rfl, _⟩ <;> exact ⟨rfl, rfl, rfl⟩
   obtain ⟨k1, k2, k3⟩ := hku
   (apply Zo;repeat' ((with_reducible first|apply Zk|(first|apply Za|apply Zb|apply Zc|apply Zd)<;>intro h)<;>try simp -implicitDefEqProofs (maxSteps:=9^7) (disch:=first|omega|(simp only [Qb];omega)) only [go_sem, g0, gP, k1, k2, k3]))
   refine Fc.sealed (r := 1) g1 (by simp [Qi, clo, Qc]) ?_
   have hu1 : sz 1 [.sl l.length (ints l)] u = u := by
    rcases hu with ⟨rfl, _⟩ | ⟨r, rfl, hr, _⟩
    ·rfl
    ·have : r ≠ 1 := by rintro rfl; rw [g1] at hr; cases hr
     simp [sz, this]
   have he : szL 1 [.sl l.length (ints l)] [.agg [.sl t.shape.length (ints t.shape), .sl t.el.length (Xd t.el)], u, .fn (.func 51) [] [.ptr 1 0]] = [tnV t, u, .fn (.func 51) [] [.rp [.sl l.length (ints l)] 0]] := by
    simp only [szL, sz, Zy _ _ _ (Qc _), Zy _ _ _ (Qm _), hu1, if_true]
    rfl
   rw [he];rw [hSl] at hmv
   have hlt := Xg gP
   refine hmv.keptF ⟨.self (Xo t), (Qju hu g1 (by decide)).bor' (Qc _), .self (by simp [Qi, clo, Qc]), trivial⟩ fun v X hv => ?_
   have f2 : Qd (H2.set 1 none ++ X) 2 = some ⟨26, 2, [.nil, .nil]⟩ := Qj (by rw [Qh _ (by decide)]; exact g2) X
   have f3 : ∀ z, Qd ((H2.set 1 none ++ X).set 2 z) 3 = some ⟨27, 1, [.int .i64 0]⟩ := fun z => by rw [Qh _ (by decide)]; exact Qj (by rw [Qh _ (by decide)]; exact g3) X
   have f22 : ∀ row z, Qd (((H2.set 1 none ++ X).set 2 (some row)).set 3 z) 2 = some row := fun row z => by rw [Qh _ (by decide)]; exact Qg f2
   have f33 : ∀ z row, Qd (((H2.set 1 none ++ X).set 2 z).set 3 (some row)) 3 = some row := fun z row => Qg (f3 z)
   obtain ⟨w, e, rfl, hw, he⟩ := hv.tup2;obtain ⟨a, b, rfl, ha, hb⟩ := hw.agg2;obtain ⟨ka, ca, sa⟩ := Yu ha.gd;obtain ⟨kb, cb, sb⟩ := Yu hb.gd;rw [he.gd.int_inv]
   (apply Zo;repeat' ((with_reducible first|apply Zk|(first|apply Za|apply Zb|apply Zc|apply Zd)<;>intro h)<;>try simp -implicitDefEqProofs (maxSteps:=9^7) (disch:=first|omega|(simp only [Qb];omega)) only [go_sem, f2, f3, f22, f33, ka, ca, sa, kb, cb, sb]))
   exact Gd.ret (Gd.tupL ⟨Gd.aggL ⟨((ha.set (q := 2) (by simp; omega) _).set (q := 3) (by simp; omega) _).gd, ((hb.set (q := 2) (by simp; omega) _).set (q := 3) (by simp; omega) _).gd, trivial⟩, Qly _ _, trivial⟩)
def Qno (l : List Int) : Bool := l.any fun a => decide (a < 0)
theorem Xai (a : Int) : Pu C 55 [.int .i64 a] (.bool (decide (a < 0))) := by
 refine Fc.keep (Fc.bodyT Qe Tryz.func55 w55 rfl Tryz.ntmps55 Tryz.results55 (zLe rfl) ?_)
 (apply Zo;repeat' ((with_reducible first|apply Zk|(first|apply Za|apply Zb|apply Zc|apply Zd)<;>intro h)<;>try simp -implicitDefEqProofs (maxSteps:=9^7) (disch:=first|omega|(simp only [Qb];omega)) only [go_sem]))
 all_goals (refine Qo (by intro g; simp only [go_sem, ren, Ql]) ?_)
 all_goals (simp only [V.tup.injEq, List.cons.injEq, V.int.injEq, V.bool.injEq, true_and, and_true]; (try rw [Bool.eq_iff_iff]); (try simp only [decide_eq_true_eq, decide_eq_false_iff_not, Decidable.not_not, true_and, and_true, Bool.not_eq_true, Bool.not_eq_eq_eq_not, Bool.not_true, Bool.and_eq_true, Bool.or_eq_true, beq_iff_eq, bne_iff_ne, ne_eq, Bool.false_eq_true, false_iff, true_iff, iff_false, iff_true]); (try omega))
theorem Qdx {l : List Int} : Qno l = false ↔ ∀ j, j < l.length → ¬ l.getD j 0 < 0 := by
 rw [Qno, List.any_eq_false];simp only [decide_eq_true_eq];exact Jx (xs := l) (p := fun x => ¬ x < 0)
theorem Ql5 (l : List Int) (hl : l.length ≤ 17592186044416) : Fc C 87 [.sl l.length (ints l), .fn (.func 55) [] []] [] (fun v H => (∃ i : Int, v = .int .i64 i ∧ Qno l = decide (0 ≤ i)) ∧ H = []) := by
 refine Fc.keep (Fc.bodyT Qe Tryz.func87 w87 rfl Tryz.ntmps87 Tryz.results87 (zLe rfl) ?_)
 (apply Zo;repeat' ((with_reducible first|apply Zk|(first|apply Za|apply Zb|apply Zc|apply Zd)<;>intro h)<;>try simp -implicitDefEqProofs (maxSteps:=9^7) (disch:=first|omega|(simp only [Qb];omega)) only [go_sem]))
 refine Qf (fun n ts H => ∃ (i : Nat), (i ≤ l.length) ∧ (∀ j, j < i → ¬ l.getD j 0 < 0) ∧ (n = l.length - i) ∧ (H = []) ∧ ts.length = 19 ∧ nth ts 0 = .sl l.length (ints l) ∧ nth ts 1 = .fn (.func 55) [] [] ∧ nth ts 7 = .int .i64 l.length ∧ nth ts 8 = .int .i64 i) ?_ (n := l.length) ?_
 ·skip
  rintro n ts H ⟨i, hi, he, hn, hH, hL, hs0, hs1, hs7, hs8⟩;refine Qv [(0, .sl l.length (ints l)), (1, .fn (.func 55) [] []), (7, .int .i64 l.length), (8, .int .i64 i)] hL (by simp only [zFm, hs0, hs1, hs7, hs8, true_and]; exact zNm) ?_
  clear hL hs0 hs1 hs7 hs8 ts
  refine Qu Qe ?_;subst hH hn
  (apply Zo;repeat' ((with_reducible first|apply Zk|(first|apply Za|apply Zb|apply Zc|apply Zd)<;>intro h)<;>try simp -implicitDefEqProofs (maxSteps:=9^7) (disch:=first|omega|(simp only [Qb];omega)) only [go_sem]))
  ·skip
   refine Fc.pure (Xai _) (by simp [go_sem, Qi, clo, Qc, Qx]) (by intro g; simp only [go_sem, ren, Ql]) ?_
   (apply Zo;repeat' ((with_reducible first|apply Zk|(first|apply Za|apply Zb|apply Zc|apply Zd)<;>intro h)<;>try simp -implicitDefEqProofs (maxSteps:=9^7) (disch:=first|omega|(simp only [Qb];omega)) only [go_sem]))
   ·refine ⟨[], by simp, by simp, ⟨i, rfl, ?_⟩, rfl⟩
    rw [decide_eq_true (by omega)]
    cases hb : Qno l with
    | true => rfl
    | false => exact absurd (by assumption) (Qdx.1 hb i (by omega))
   ·exact ⟨_, by omega, i + 1, by omega, Qlh he (by omega), rfl, (by (repeat' apply And.intro) <;> (first | rfl | omega | (congr 1; omega) | assumption | (congr 1; assumption)))⟩
  ·refine ⟨[], by simp, by simp, ⟨-1, rfl, ?_⟩, rfl⟩
   rw [decide_eq_false (by omega)]
   exact Qdx.2 fun j hj => he j (by omega)
 ·exact ⟨0, by omega, fun j hj => by omega, rfl, rfl, rfl, rfl, rfl, rfl, rfl⟩
theorem Qi5 (l : List Int) (hl : l.length ≤ 17592186044416) : Pu C 54 [.sl l.length (ints l), .fn (.func 55) [] []] (.bool (Qno l)) := by
 refine Fc.keep (Fc.bodyT Qe Tryz.func54 w54 rfl Tryz.ntmps54 Tryz.results54 (zLe rfl) ?_)
 (apply Zo;repeat' ((with_reducible first|apply Zk|(first|apply Za|apply Zb|apply Zc|apply Zd)<;>intro h)<;>try simp -implicitDefEqProofs (maxSteps:=9^7) (disch:=first|omega|(simp only [Qb];omega)) only [go_sem]))
 refine Fc.call (Ql5 l hl) (by simp [Qi, clo, Qc]) ?_
 rintro v H' ⟨⟨i, rfl, h3⟩, rfl⟩;simp only [ren, Qbu, List.map_nil, List.append_nil]
 (apply Zo;repeat' ((with_reducible first|apply Zk|(first|apply Za|apply Zb|apply Zc|apply Zd)<;>intro h)<;>try simp -implicitDefEqProofs (maxSteps:=9^7) (disch:=first|omega|(simp only [Qb];omega)) only [go_sem]))
 (refine Qo (by intro g; simp only [go_sem, ren, Ql]) ?_)
 rw [h3]
def Qid (l : List Int) (n : Nat) : Bool := (List.range n).all fun k => decide (l.getD (2 * k) 0 ≤ 1024 ∧ l.getD (2 * k + 1) 0 ≤ 1024)
theorem Qgh {l : List Int} {n : Nat} : Qid l n = true ↔ ∀ k, k < n → l.getD (2 * k) 0 ≤ 1024 ∧ l.getD (2 * k + 1) 0 ≤ 1024 := by simp [Qid]
def Xh6 (l s : List Int) (k : Nat) : Int := l.getD (2 * k) 0 + s.getD k 0 + l.getD (2 * k + 1) 0
def Qb6 (l s : List Int) (n : Nat) : List Int := Qg1 (Xh6 l s) n
def Qbw (t : Tn) (l : List Int) : Int := if Yy t ≠ 0 then Yy t else if l.length ≠ 2 * t.shape.length then 11 else if Qno l = true then 11 else if Qid l t.shape.length = false then 14 else Yo (Qb6 l t.shape t.shape.length)
def Qet (t : Tn) (l : List Int) : Tn := Qs7 (mvT t (Qb6 l t.shape t.shape.length) (Qdf l)) (Qbw t l)
theorem Quj (t : Tn) (ht : TnOK t) (l : List Int) (hl : l.length ≤ 1000000000) : Val C 22 [tnV t, .sl l.length (ints l)] (.tup [tnV (Qet t l), .int .i64 (Qbw t l)]) := by
 have hv : Qck l = .fn (.func 86) [] [.rp [.sl l.length (ints l)] 0] := rfl
 have hs := ht.s
 unfold Qet;refine Fc.keep (Fc.bodyT Qe Tryz.func22 w22 rfl Tryz.ntmps22 Tryz.results22 (zLe rfl) ?_)
 (apply Zo;repeat' ((with_reducible first|apply Zk|(first|apply Za|apply Zb|apply Zc|apply Zd)<;>intro h)<;>try simp -implicitDefEqProofs (maxSteps:=9^7) (disch:=first|omega|(simp only [Qb];omega)) only [go_sem]))
 refine Fc.pure (Qdq t ht) (by simp [Qi, clo, Qc, Qm]) (fun g => rfl) ?_
 by_cases hm : Yy t = 0
 case neg =>
  (apply Zo;repeat' ((with_reducible first|apply Zk|(first|apply Za|apply Zb|apply Zc|apply Zd)<;>intro h)<;>try simp -implicitDefEqProofs (maxSteps:=9^7) (disch:=first|omega|(simp only [Qb];omega)) only [go_sem]))
  exact Gd.ret (Qfl (by rw [Qbw, if_pos hm]) hm)
 obtain ⟨hf, hmp, hel⟩ := Xw hm;obtain ⟨m1, m2, m3⟩ := Xs hmp;rw [hm];by_cases hll : l.length = 2 * t.shape.length
 case neg =>
  (apply Zo;repeat' ((with_reducible first|apply Zk|(first|apply Za|apply Zb|apply Zc|apply Zd)<;>intro h)<;>try simp -implicitDefEqProofs (maxSteps:=9^7) (disch:=first|omega|(simp only [Qb];omega)) only [go_sem]))
  exact Gd.ret (Qfl (by rw [Qbw, if_neg (by omega), if_pos hll]) (by decide))
 (apply Zo;repeat' ((with_reducible first|apply Zk|(first|apply Za|apply Zb|apply Zc|apply Zd)<;>intro h)<;>try simp -implicitDefEqProofs (maxSteps:=9^7) (disch:=first|omega|(simp only [Qb];omega)) only [go_sem]))
 refine Fc.pure (Qi5 l (by omega)) (by simp [Qi, clo, Qc]) (fun g => rfl) ?_
 cases hneg : Qno l with
 | true =>
  (apply Zo;repeat' ((with_reducible first|apply Zk|(first|apply Za|apply Zb|apply Zc|apply Zd)<;>intro h)<;>try simp -implicitDefEqProofs (maxSteps:=9^7) (disch:=first|omega|(simp only [Qb];omega)) only [go_sem]))
  exact Gd.ret (Qfl (by rw [Qbw, if_neg (by omega), if_neg (by omega), if_pos hneg]) (by decide))
 | false =>
  have hn := Qdx.1 hneg
  (apply Zo;repeat' ((with_reducible first|apply Zk|(first|apply Za|apply Zb|apply Zc|apply Zd)<;>intro h)<;>try simp -implicitDefEqProofs (maxSteps:=9^7) (disch:=first|omega|(simp only [Qb];omega)) only [go_sem]))
  refine Fc.pure (Qcj l) (by simp [Qi, clo, Qc]) (fun g => by simp [Qck, ren, Ql, Qy]) ?_
  (apply Zo;repeat' ((with_reducible first|apply Zk|(first|apply Za|apply Zb|apply Zc|apply Zd)<;>intro h)<;>try simp -implicitDefEqProofs (maxSteps:=9^7) (disch:=first|omega|(simp only [Qb];omega)) only [go_sem, hv]))
  refine Ks (g := 86) (lb := [.rp [.sl l.length (ints l)] 0]) (xs := Qdv l) (by simp -implicitDefEqProofs (maxSteps:=9^7) (disch := first | omega | (simp only [Qb]; omega)) only [go_sem]) (by simp [Qi, clo, Qc]) (Qdu l (by omega)) (Qcl rfl) (fun k H => ∃ u, (∀ j, j < k → l.getD (2 * j) 0 ≤ 1024 ∧ l.getD (2 * j + 1) 0 ≤ 1024) ∧ Qd H 0 = some ⟨26, 2, [.sl t.shape.length (ints t.shape), .sl t.el.length (Xd t.el)]⟩ ∧ Qd H 1 = some ⟨22, 1, [.sl l.length (ints l)]⟩ ∧ Qd H 2 = some ⟨26, 2, [.nil, .nil]⟩ ∧ Qd H 3 = some ⟨27, 1, [.int .i64 0]⟩ ∧ Qd H 4 = some ⟨23, 1, [u]⟩ ∧ Bv.Own 3 1 H u k (ints (Qb6 l t.shape k))) ⟨.nil, fun j hj => by omega, rfl, rfl, rfl, rfl, rfl, Bv.Own.nil _ _ _⟩ ?_ ?_
  ·rintro k us H2 hk ⟨u, hJ, g0, g1, g2, g3, gP, hu⟩ lv
   have hkl : k < t.shape.length := by
    have := (List.getElem?_eq_some_iff.1 hk).1
    rw [Zw] at this; omega
   rw [Qcb (by omega)] at hk
   injection hk with hk
   subst hk
   have c0 : ∀ Y, Qd (H2 ++ Y) 0 = some ⟨26, 2, [.sl t.shape.length (ints t.shape), .sl t.el.length (Xd t.el)]⟩ := fun Y => Qj g0 Y
   have c1 : ∀ Y, Qd (H2 ++ Y) 1 = some ⟨22, 1, [.sl l.length (ints l)]⟩ := fun Y => Qj g1 Y
   have c2 : ∀ Y, Qd (H2 ++ Y) 2 = some ⟨26, 2, [.nil, .nil]⟩ := fun Y => Qj g2 Y
   have c3 : ∀ Y, Qd (H2 ++ Y) 3 = some ⟨27, 1, [.int .i64 0]⟩ := fun Y => Qj g3 Y
   have cP : ∀ Y, Qd (H2 ++ Y) 4 = some ⟨23, 1, [u]⟩ := fun Y => Qj gP Y
   have b3 : ∀ Y z, Qd ((H2 ++ Y).set 2 z) 3 = some ⟨27, 1, [.int .i64 0]⟩ := fun Y z => by rw [Qh _ (by decide)]; exact c3 Y
   have b2 : ∀ Y row z, Qd (((H2 ++ Y).set 2 (some row)).set 3 z) 2 = some row := fun Y row z => by rw [Qh _ (by decide)]; exact Qg (c2 Y)
   have b33 : ∀ Y row z, Qd (((H2 ++ Y).set 2 z).set 3 (some row)) 3 = some row := fun Y row z => Qg (b3 Y z)
   have hn0 := hn (2 * k) (by omega)
   have hn1 := hn (2 * k + 1) (by omega)
   have hsd := Ya m2 hkl
   have hsp := Qbr m2 hkl
   (refine Qu Qe ?_; simp -implicitDefEqProofs (maxSteps:=9^7) (disch := first | omega | (simp only [Qb]; omega)) only [go_sem, Qes])
   (refine Qu Qe ?_; simp -implicitDefEqProofs (maxSteps:=9^7) (disch := first | omega | (simp only [Qb]; omega)) only [go_sem, c0])
   by_cases hc : l.getD (2 * k) 0 ≤ 1024 ∧ l.getD (2 * k + 1) 0 ≤ 1024
   ·have hlv := hu.lenw (C.ty 23)
    (apply Zo;repeat' ((with_reducible first|apply Zk|(first|apply Za|apply Zb|apply Zc|apply Zd)<;>intro h)<;>try simp -implicitDefEqProofs (maxSteps:=9^7) (disch:=first|omega|(simp only [Qb];omega)) only [go_sem, c0, cP, hlv, Jr]))
    refine Qpa hu (by rw [Qb6, Yv]) rfl ⟨by decide, by decide⟩ (by rw [Qb6, Yv]; omega) fun v' H' hu' hF hk' => ?_
    have d0 := Qbf (hu.keep _) hF (c0 _) (by decide)
    have d1 := Qbf (hu.keep _) hF (c1 _) (by decide)
    have d2 := Qbf (hu.keep _) hF (c2 _) (by decide)
    have d3 := Qbf (hu.keep _) hF (c3 _) (by decide)
    have dP := Qbf (hu.keep _) hF (cP _) (by decide)
    obtain ⟨k1, k2, k3⟩ := hk'
    (apply Zo;repeat' ((with_reducible first|apply Zk|(first|apply Za|apply Zb|apply Zc|apply Zd)<;>intro h)<;>try simp -implicitDefEqProofs (maxSteps:=9^7) (disch:=first|omega|(simp only [Qb];omega)) only [go_sem, dP, k1, k2, k3, Jr]))
    rw [Qb6, show l.getD (2 * k) 0 + t.shape.getD k 0 + l.getD (2 * k + 1) 0 = Xh6 l t.shape k from rfl, ← Qh5 (f := Xh6 l t.shape)] at hu';exact ⟨v', Qlh hJ hc, by rw [Qh _ (by omega)]; exact d0, by rw [Qh _ (by omega)]; exact d1, by rw [Qh _ (by omega)]; exact d2, by rw [Qh _ (by omega)]; exact d3, Qg dP, Qju hu' dP (by decide)⟩
   ·have hno : Qid l t.shape.length = false := by
     rw [Bool.eq_false_iff];exact fun hh => hc (Qgh.1 hh k hkl)
    (apply Zo;repeat' ((with_reducible first|apply Zk|(first|apply Za|apply Zb|apply Zc|apply Zd)<;>intro h)<;>try simp -implicitDefEqProofs (maxSteps:=9^7) (disch:=first|omega|(simp only [Qb];omega)) only [go_sem, c0, c1, c2, c3, b3, b2, b33, Jr]))
    all_goals exact Gd.ret (Qfl (by rw [Qbw, if_neg (by omega), if_neg (by omega), if_neg (by rw [hneg]; decide), if_pos hno]) (by decide))
  ·rintro H2 ⟨u, hJ, g0, g1, g2, g3, gP, hu⟩;rw [Zw, show l.length / 2 = t.shape.length by omega] at hJ hu
   have hin : Qid l t.shape.length = true := Qgh.2 hJ
   have hE : Qbw t l = Yo (Qb6 l t.shape t.shape.length) := by rw [Qbw, if_neg (by omega), if_neg (by omega), if_neg (by rw [hneg]; decide), if_neg (by rw [hin]; decide)]
   have hSl : (Qb6 l t.shape t.shape.length).length = t.shape.length := Yv _ _
   have hSg : ∀ j, j < t.shape.length → (Qb6 l t.shape t.shape.length).getD j 0 = l.getD (2 * j) 0 + t.shape.getD j 0 + l.getD (2 * j + 1) 0 := fun j hj => Qbh hj
   have hku : kn u = true ∧ cellsOf u = [u] ∧ Yr u = true := by rcases hu with ⟨rfl, _⟩ | ⟨r, rfl, _⟩ <;> exact ⟨rfl, rfl, rfl⟩
   obtain ⟨k1, k2, k3⟩ := hku
   have hu9 : Bv.Own 3 1 H2 u (Qb6 l t.shape t.shape.length).length (ints (Qb6 l t.shape t.shape.length)) := by rw [hSl]; exact hu
   have hbu : Bor H2 u (.sl (Qb6 l t.shape t.shape.length).length (ints (Qb6 l t.shape t.shape.length))) := hu9.bor' (Qc _)
   (apply Zo;repeat' ((with_reducible first|apply Zk|(first|apply Za|apply Zb|apply Zc|apply Zd)<;>intro h)<;>try simp -implicitDefEqProofs (maxSteps:=9^7) (disch:=first|omega|(simp only [Qb];omega)) only [go_sem, gP, k1, k2, k3]))
   refine (Val.ofPu (Qfr (Qb6 l t.shape t.shape.length) (by omega)) rfl rfl).call ⟨hbu, trivial⟩ rfl ?_
   by_cases hz : Yo (Qb6 l t.shape t.shape.length) = 0
   ·have hE' : Qbw t l = 0 := hE.trans hz
    obtain ⟨n1, n2, n3⟩ := Xs hz
    have hmv := Qil t ht hf (Qb6 l t.shape t.shape.length) (by omega) hz 57 [.rp [.sl l.length (ints l)] 0] (by simp [Qi, clo, Qc]) (Qdf l) (fun x hx hxb => ⟨by simp only [Qdf, List.length_map, List.length_range]; omega, by
     refine Qpe l x (by omega) (by omega) (fun j hj => ?_) (fun j hj => ?_)
     ·have h3 := hxb j (by omega)
      have h4 := Ya n2 (i := j) (by omega)
      omega
     ·have h1 := hn (2 * j) (by omega)
      have h2 := hJ j (by omega)
      omega⟩)
    rw [hz];rw [Qay hE', hE']
    (apply Zo;repeat' ((with_reducible first|apply Zk|(first|apply Za|apply Zb|apply Zc|apply Zd)<;>intro h)<;>try simp -implicitDefEqProofs (maxSteps:=9^7) (disch:=first|omega|(simp only [Qb];omega)) only [go_sem, g0, gP, k1, k2, k3]))
    refine Fc.sealed (r := 1) g1 (by simp [Qi, clo, Qc]) ?_
    have hu1 : sz 1 [.sl l.length (ints l)] u = u := by
     rcases hu with ⟨rfl, _⟩ | ⟨r, rfl, hr, _⟩
     ·rfl
     ·have : r ≠ 1 := by rintro rfl; rw [g1] at hr; cases hr
      simp [sz, this]
    have he : szL 1 [.sl l.length (ints l)] [.agg [.sl t.shape.length (ints t.shape), .sl t.el.length (Xd t.el)], u, .fn (.func 57) [] [.ptr 1 0]] = [tnV t, u, .fn (.func 57) [] [.rp [.sl l.length (ints l)] 0]] := by
     simp only [szL, sz, Zy _ _ _ (Qc _), Zy _ _ _ (Qm _), hu1, if_true]
     rfl
    rw [he]
    have hlt := Xg gP
    refine hmv.keptF ⟨.self (Xo t), (Qju hu9 g1 (by decide)).bor' (Qc _), .self (by simp [Qi, clo, Qc]), trivial⟩ fun v X hv => ?_
    have f2 : Qd (H2.set 1 none ++ X) 2 = some ⟨26, 2, [.nil, .nil]⟩ := Qj (by rw [Qh _ (by decide)]; exact g2) X
    have f3 : ∀ z, Qd ((H2.set 1 none ++ X).set 2 z) 3 = some ⟨27, 1, [.int .i64 0]⟩ := fun z => by rw [Qh _ (by decide)]; exact Qj (by rw [Qh _ (by decide)]; exact g3) X
    have f22 : ∀ row z, Qd (((H2.set 1 none ++ X).set 2 (some row)).set 3 z) 2 = some row := fun row z => by rw [Qh _ (by decide)]; exact Qg f2
    have f33 : ∀ z row, Qd (((H2.set 1 none ++ X).set 2 z).set 3 (some row)) 3 = some row := fun z row => Qg (f3 z)
    obtain ⟨w, e, rfl, hw, he⟩ := hv.tup2;obtain ⟨a, b, rfl, ha, hb⟩ := hw.agg2;obtain ⟨ka, ca, sa⟩ := Yu ha.gd;obtain ⟨kb, cb, sb⟩ := Yu hb.gd;rw [he.gd.int_inv]
    (apply Zo;repeat' ((with_reducible first|apply Zk|(first|apply Za|apply Zb|apply Zc|apply Zd)<;>intro h)<;>try simp -implicitDefEqProofs (maxSteps:=9^7) (disch:=first|omega|(simp only [Qb];omega)) only [go_sem, f2, f3, f22, f33, ka, ca, sa, kb, cb, sb]))
    exact Gd.ret (Gd.tupL ⟨Gd.aggL ⟨((ha.set (q := 2) (by simp; omega) _).set (q := 3) (by simp; omega) _).gd, ((hb.set (q := 2) (by simp; omega) _).set (q := 3) (by simp; omega) _).gd, trivial⟩, Qly _ _, trivial⟩)
   ·have b3 : ∀ z, Qd (H2.set 2 z) 3 = some ⟨27, 1, [.int .i64 0]⟩ := fun z => by rw [Qh _ (by decide)]; exact g3
    have b2 : ∀ row z, Qd ((H2.set 2 (some row)).set 3 z) 2 = some row := fun row z => by rw [Qh _ (by decide)]; exact Qg g2
    have b33 : ∀ row z, Qd ((H2.set 2 z).set 3 (some row)) 3 = some row := fun row z => Qg (b3 z)
    (apply Zo;repeat' ((with_reducible first|apply Zk|(first|apply Za|apply Zb|apply Zc|apply Zd)<;>intro h)<;>try simp -implicitDefEqProofs (maxSteps:=9^7) (disch:=first|omega|(simp only [Qb];omega)) only [go_sem, g2, g3, b3, b2, b33]))
    exact Gd.ret (Qfl hE hz)
def Zm (l : List Int) : Bool := (List.range l.length).all fun i => decide (0 ≤ l.getD i 0 ∧ l.getD i 0 < l.length) && (List.range i).all fun k => decide (l.getD k 0 ≠ l.getD i 0)
def Qkc (l : List Int) (i : Nat) : Prop := 0 ≤ l.getD i 0 ∧ l.getD i 0 < l.length ∧ ∀ k, k < i → l.getD k 0 ≠ l.getD i 0
theorem Jz (l : List Int) : Zm l = true ↔ ∀ i, i < l.length → Qkc l i := by
 simp only [Zm, Qkc, List.all_eq_true, List.mem_range, Bool.and_eq_true, decide_eq_true_eq, and_assoc]
theorem Qi9 {xs : List Int} (h : Zm xs = true) : xs.Nodup := by
 rw [List.Nodup, List.pairwise_iff_getElem];intro i j hi hj hij he
 have := ((Jz xs).1 h j hj)
 simp only [Qkc] at this
 have h2 := this.2.2
 refine h2 i hij ?_;simp only [List.getD, List.getElem?_eq_getElem hi, List.getElem?_eq_getElem hj, Option.getD_some, he]
theorem Qme {xs : List Int} (h : Zm xs = true) : ∀ a ∈ xs, 0 ≤ a ∧ a < xs.length := by
 intro a ha;obtain ⟨i, hi, rfl⟩ := List.getElem_of_mem ha
 have := ((Jz xs).1 h i hi)
 simp only [Qkc, List.getD, List.getElem?_eq_getElem hi, Option.getD_some] at this;exact ⟨this.1, this.2.1⟩
theorem Qis {ys : List Int} {i : Nat} (h : i < ys.length) : ys.getD i 0 ∈ ys := by
 simp only [List.getD, List.getElem?_eq_getElem h, Option.getD_some]; exact List.getElem_mem _
theorem Qg3 {xs ys : List Int} (hp : ys.Perm xs) (hs : ∀ p q, p < q → q < ys.length → ys.getD p 0 ≤ ys.getD q 0) : Zm xs = true ↔ ∀ i, i < ys.length → ys.getD i 0 = i := by
 have hl := hp.length_eq
 constructor
 ·intro h
  have hn : ys.Nodup := hp.nodup_iff.2 (Qi9 h)
  have hm : ∀ i, i < ys.length → 0 ≤ ys.getD i 0 ∧ ys.getD i 0 < ys.length := fun i hi => by
   have := Qme h _ (hp.mem_iff.1 (Qis hi)); rwa [← hl] at this
  have hlt : ∀ i, i + 1 < ys.length → ys.getD i 0 < ys.getD (i + 1) 0 := fun i hi => by
   have h1 := hs i (i + 1) (by omega) hi
   have h2 : ys.getD i 0 ≠ ys.getD (i + 1) 0 := by
    rw [List.Nodup, List.pairwise_iff_getElem] at hn
    have := hn i (i + 1) (by omega) hi (by omega)
    simpa only [List.getD, List.getElem?_eq_getElem hi, List.getElem?_eq_getElem (show i < ys.length by omega), Option.getD_some] using this
   omega
  have lo : ∀ i, i < ys.length → (i : Int) ≤ ys.getD i 0 := by
   intro i
   induction i with
   | zero => intro hi; exact (hm 0 hi).1
   | succ i ih => intro hi; have := ih (by omega); have := hlt i hi; omega
  have up : ∀ d i, i < ys.length → ys.length - 1 - i = d → ys.getD i 0 ≤ i := by
   intro d
   induction d with
   | zero => intro i hi hd; have := (hm i hi).2; omega
   | succ d ih => intro i hi hd; have := ih (i + 1) (by omega) (by omega); have := hlt i (by omega); omega
  intro i hi
  have := lo i hi; have := up _ i hi rfl; omega
 ·intro h
  have hn : ys.Nodup := by
   rw [List.Nodup, List.pairwise_iff_getElem];intro i j hi hj hij he
   have h1 := h i hi; have h2 := h j hj
   simp only [List.getD, List.getElem?_eq_getElem hi, List.getElem?_eq_getElem hj, Option.getD_some] at h1 h2;omega
  have hn' := hp.nodup_iff.1 hn
  rw [List.Nodup, List.pairwise_iff_getElem] at hn';refine (Jz xs).2 fun i hi => ?_
  obtain ⟨j, hj, he⟩ := List.getElem_of_mem (hp.mem_iff.2 (Qis hi))
  have h1 := h j hj
  simp only [List.getD, List.getElem?_eq_getElem hj, Option.getD_some] at h1;simp only [Qkc];refine ⟨by omega, by omega, fun k hk => ?_⟩
  have := hn' k i (by omega) hi hk
  simpa only [List.getD, List.getElem?_eq_getElem hi, List.getElem?_eq_getElem (show k < xs.length by omega), Option.getD_some] using this
theorem Qmx (xs : List Int) (m : Nat) (hm : m ≤ 1000) (hx : xs.length ≤ 12) : Pu C 40 [.sl xs.length (ints xs), .int .i64 (m : Nat)] (.int .i64 (if (Zm xs && decide (xs.length = m)) = true then 0 else 11)) := by
 refine Fc.keep (Fc.bodyT Qe Tryz.func40 w40 rfl Tryz.ntmps40 Tryz.results40 (zLe rfl) ?_)
 (apply Zo;repeat' ((with_reducible first|apply Zk|(first|apply Za|apply Zb|apply Zc|apply Zd)<;>intro h)<;>try simp -implicitDefEqProofs (maxSteps:=9^7) (disch:=first|omega|(simp only [Qb];omega)) only [go_sem]))
 refine Fc.pure (Qjj xs) (by simp [Qi, clo, Qc]) (fun g => Ym g _ (by simp [Qjm, Qi, clo, Qc])) ?_
 (apply Zo;repeat' ((with_reducible first|apply Zk|(first|apply Za|apply Zb|apply Zc|apply Zd)<;>intro h)<;>try simp -implicitDefEqProofs (maxSteps:=9^7) (disch:=first|omega|(simp only [Qb];omega)) only [go_sem]))
 refine Fc.mono (Qq7 xs hx) ?_;rintro v H' ⟨ys, hp, hs, hR⟩
 have hr := Qg3 hp hs
 have hl := hp.length_eq
 have hmx : (if (0 : Int) > (m : Int) then 0 else (m : Int)) = (m : Int) := if_neg (by omega)
 rcases hR with ⟨rfl, h, h', rfl⟩ | ⟨rfl, rfl, _⟩
 ·obtain rfl : ys = [] := List.eq_nil_of_length_eq_zero h
  have hx : Zm xs = true := hr.2 (by simp)
  rw [hx]
  (apply Zo;repeat' ((with_reducible first|apply Zk|(first|apply Za|apply Zb|apply Zc|apply Zd)<;>intro h)<;>try simp -implicitDefEqProofs (maxSteps:=9^7) (disch:=first|omega|(simp only [Qb];omega)) only [go_sem]))
  refine Qhz ?_;refine Qu Qe ?_
  have hl0 : xs.length = 0 := hl.symm
  (apply Zo;repeat' ((with_reducible first|apply Zk|(first|apply Za|apply Zb|apply Zc|apply Zd)<;>intro h)<;>try simp -implicitDefEqProofs (maxSteps:=9^7) (disch:=first|omega|(simp only [Qb];omega)) only [go_sem, hmx]))
  all_goals (refine Qo (by intro g; simp only [go_sem, ren, Ql]) ?_)
  ·simp; omega
  ·simp; omega
 ·skip
  (apply Zo;repeat' ((with_reducible first|apply Zk|(first|apply Za|apply Zb|apply Zc|apply Zd)<;>intro h)<;>try simp -implicitDefEqProofs (maxSteps:=9^7) (disch:=first|omega|(simp only [Qb];omega)) only [go_sem]))
  refine Qf (fun n ts H => ∃ (i : Nat), (i ≤ ys.length) ∧ (H = [some ⟨3, 1, ints ys⟩]) ∧ (n = ys.length - i) ∧ (∀ k, k < i → ys.getD k 0 = k) ∧ ts.length = 27 ∧ nth ts 1 = .int .i64 (m : Nat) ∧ nth ts 4 = .int .i64 0 ∧ nth ts 5 = .ref 0 0 ys.length ∧ nth ts 11 = .ref 0 0 ys.length ∧ nth ts 12 = .int .i64 ys.length ∧ nth ts 13 = .int .i64 i) ?_ (n := ys.length) ?_
  ·skip
   rintro n ts H ⟨i, hi, hH, hn, hall, hL, hs1, hs4, hs5, hs11, hs12, hs13⟩;refine Qv [(1, .int .i64 (m : Nat)), (4, .int .i64 0), (5, .ref 0 0 ys.length), (11, .ref 0 0 ys.length), (12, .int .i64 ys.length), (13, .int .i64 i)] hL (by simp only [zFm, hs1, hs4, hs5, hs11, hs12, hs13, true_and]; exact zNm) ?_
   clear hL hs1 hs4 hs5 hs11 hs12 hs13 ts
   refine Qu Qe ?_;subst hH
   (apply Zo;repeat' ((with_reducible first|apply Zk|(first|apply Za|apply Zb|apply Zc|apply Zd)<;>intro h)<;>try simp -implicitDefEqProofs (maxSteps:=9^7) (disch:=first|omega|(simp only [Qb];omega)) only [go_sem, hmx]))
   ·skip
    (refine Qo (by intro g; simp only [go_sem, ren, Ql]) ?_)
    have : Zm xs = false := by
     cases hb : Zm xs with
     | false => rfl
     | true => exact absurd (hr.1 hb i (by omega)) (by assumption)
    simp [this]
   ·refine ⟨ys.length - (i + 1), by omega, i + 1, by omega, rfl, fun k hk => ?_, rfl⟩
    rcases Nat.lt_or_ge k i with h1 | h1
    ·exact hall k h1
    ·obtain rfl : k = i := by omega
     assumption
   ·have : Zm xs = true := hr.2 fun k hk => hall k (by omega)
    (refine Qo (by intro g; simp only [go_sem, ren, Ql]) ?_)
    simp [this]; omega
   ·have : Zm xs = true := hr.2 fun k hk => hall k (by omega)
    (refine Qo (by intro g; simp only [go_sem, ren, Ql]) ?_)
    simp [this]; omega
  ·exact ⟨0, by omega, rfl, rfl, fun k hk => by omega, rfl, rfl, rfl, rfl, rfl, rfl, rfl⟩
theorem Qe5 (r q lo hi : Nat) (a b s : Nat) (H0 : Qa) (xs : List Int) (hr : Qd H0 r = some ⟨3, 1, ints xs⟩) (hq : Qd H0 q = some ⟨3, 1, [.int .i64 (s : Nat)]⟩) (hhi : hi ≤ xs.length) (ha : lo ≤ a ∧ a < hi) (hb : lo ≤ b ∧ b < hi) (hn : xs.length ≤ 1048576) (hs : s ≤ 1000) :
  Fc C 176 [.ref r 0 xs.length, .int .i64 (a : Nat), .int .i64 (b : Nat), .ptr q 0] H0 (fun v H' => ∃ x y s' : Nat, v = .tup [.int .i64 (x : Nat), .int .i64 (y : Nat)] ∧ (lo ≤ x ∧ x < hi) ∧ (lo ≤ y ∧ y < hi) ∧ s' ≤ s + 1 ∧ H' = H0.set q (some ⟨3, 1, [.int .i64 (s' : Nat)]⟩)) := by
 have hst : ∀ z : Row, Qd (H0.set q (some z)) q = some z := fun z => Qg hq
 have hsame := Qat hq
 refine Fc.bodyT Qe Tryz.func176 w176 rfl Tryz.ntmps176 Tryz.results176 (zLe rfl) ?_
 (apply Zo;repeat' ((with_reducible first|apply Zk|(first|apply Za|apply Zb|apply Zc|apply Zd)<;>intro h)<;>try simp -implicitDefEqProofs (maxSteps:=9^7) (disch:=first|omega|(simp only [Qb];omega)) only [go_sem, hr]))
 refine Pc.pure (Yb _ _) rfl (fun g => rfl) ?_
 by_cases hlt : xs.getD b 0 < xs.getD a 0
 ·skip
  (apply Zo;repeat' ((with_reducible first|apply Zk|(first|apply Za|apply Zb|apply Zc|apply Zd)<;>intro h)<;>try simp -implicitDefEqProofs (maxSteps:=9^7) (disch:=first|omega|(simp only [Qb];omega)) only [go_sem, hq, hst]))
  exact ⟨b, a, s + 1, rfl, hb, ha, by omega, by simp⟩
 ·skip
  (apply Zo;repeat' ((with_reducible first|apply Zk|(first|apply Za|apply Zb|apply Zc|apply Zd)<;>intro h)<;>try simp -implicitDefEqProofs (maxSteps:=9^7) (disch:=first|omega|(simp only [Qb];omega)) only [go_sem]))
  exact ⟨a, b, s, rfl, ha, hb, by omega, hsame.symm⟩
theorem Qff (r q lo hi : Nat) (a b c s : Nat) (H0 : Qa) (xs : List Int) (hr : Qd H0 r = some ⟨3, 1, ints xs⟩) (hq : Qd H0 q = some ⟨3, 1, [.int .i64 (s : Nat)]⟩) (hne : r ≠ q) (hhi : hi ≤ xs.length) (ha : lo ≤ a ∧ a < hi) (hb : lo ≤ b ∧ b < hi) (hc : lo ≤ c ∧ c < hi) (hn : xs.length ≤ 1048576) (hs : s ≤ 900) :
  Fc C 166 [.ref r 0 xs.length, .int .i64 (a : Nat), .int .i64 (b : Nat), .int .i64 (c : Nat), .ptr q 0] H0 (fun v H' => ∃ x s' : Nat, v = .int .i64 (x : Nat) ∧ (lo ≤ x ∧ x < hi) ∧ s' ≤ s + 3 ∧ H' = H0.set q (some ⟨3, 1, [.int .i64 (s' : Nat)]⟩)) := by
 have hst : ∀ z : Row, Qd (H0.set q (some z)) q = some z := fun z => Qg hq
 have hrr : ∀ z, Qd (H0.set q z) r = some ⟨3, 1, ints xs⟩ := fun z => by rw [Qh _ (Ne.symm hne)]; exact hr
 refine Fc.bodyT Qe Tryz.func166 w166 rfl Tryz.ntmps166 Tryz.results166 (zLe rfl) ?_
 (apply Zo;repeat' ((with_reducible first|apply Zk|(first|apply Za|apply Zb|apply Zc|apply Zd)<;>intro h)<;>try simp -implicitDefEqProofs (maxSteps:=9^7) (disch:=first|omega|(simp only [Qb];omega)) only [go_sem]))
 refine Fc.mono (Qe5 r q lo hi a b s _ xs hr hq hhi ha hb hn (by omega)) ?_
 rintro v H' ⟨a1, b1, s1, rfl, ha1, hb1, hs1, rfl⟩
 (apply Zo;repeat' ((with_reducible first|apply Zk|(first|apply Za|apply Zb|apply Zc|apply Zd)<;>intro h)<;>try simp -implicitDefEqProofs (maxSteps:=9^7) (disch:=first|omega|(simp only [Qb];omega)) only [go_sem]))
 refine Fc.mono (Qe5 r q lo hi b1 c s1 _ xs (hrr _) (hst _) hhi hb1 hc hn (by omega)) ?_
 rintro v H' ⟨b2, c2, s2, rfl, hb2, hc2, hs2, rfl⟩;rw [List.set_set]
 (apply Zo;repeat' ((with_reducible first|apply Zk|(first|apply Za|apply Zb|apply Zc|apply Zd)<;>intro h)<;>try simp -implicitDefEqProofs (maxSteps:=9^7) (disch:=first|omega|(simp only [Qb];omega)) only [go_sem]))
 refine Fc.mono (Qe5 r q lo hi a1 b2 s2 _ xs (hrr _) (hst _) hhi ha1 hb2 hn (by omega)) ?_
 rintro v H' ⟨a3, b3, s3, rfl, ha3, hb3, hs3, rfl⟩;rw [List.set_set]
 (apply Zo;repeat' ((with_reducible first|apply Zk|(first|apply Za|apply Zb|apply Zc|apply Zd)<;>intro h)<;>try simp -implicitDefEqProofs (maxSteps:=9^7) (disch:=first|omega|(simp only [Qb];omega)) only [go_sem]))
 exact ⟨b3, s3, rfl, hb3, by omega, rfl⟩
theorem Qcn (r q lo hi : Nat) (a s : Nat) (H0 : Qa) (xs : List Int) (hr : Qd H0 r = some ⟨3, 1, ints xs⟩) (hq : Qd H0 q = some ⟨3, 1, [.int .i64 (s : Nat)]⟩) (hne : r ≠ q) (hhi : hi ≤ xs.length) (ha : lo + 1 ≤ a ∧ a + 1 < hi) (hn : xs.length ≤ 1048576) (hs : s ≤ 900) :
  Fc C 165 [.ref r 0 xs.length, .int .i64 (a : Nat), .ptr q 0] H0 (fun v H' => ∃ x s' : Nat, v = .int .i64 (x : Nat) ∧ (lo ≤ x ∧ x < hi) ∧ s' ≤ s + 3 ∧ H' = H0.set q (some ⟨3, 1, [.int .i64 (s' : Nat)]⟩)) := by
 refine Fc.bodyT Qe Tryz.func165 w165 rfl Tryz.ntmps165 Tryz.results165 (zLe rfl) ?_
 (apply Zo;repeat' ((with_reducible first|apply Zk|(first|apply Za|apply Zb|apply Zc|apply Zd)<;>intro h)<;>try simp -implicitDefEqProofs (maxSteps:=9^7) (disch:=first|omega|(simp only [Qb];omega)) only [go_sem]))
 have e1 : ((a : Int) - 1) = ((a - 1 : Nat) : Int) := by omega
 have e2 : ((a : Int) + 1) = ((a + 1 : Nat) : Int) := by omega
 rw [e1, e2];refine Fc.mono (Qff r q lo hi (a - 1) a (a + 1) s _ xs hr hq hne hhi (by omega) (by omega) (by omega) hn hs) ?_
 rintro v H' ⟨b3, s3, rfl, hb3, hs3, rfl⟩
 (apply Zo;repeat' ((with_reducible first|apply Zk|(first|apply Za|apply Zb|apply Zc|apply Zd)<;>intro h)<;>try simp -implicitDefEqProofs (maxSteps:=9^7) (disch:=first|omega|(simp only [Qb];omega)) only [go_sem]))
 exact ⟨b3, s3, rfl, hb3, by omega, rfl⟩
theorem Qlq (r : Nat) (a b : Nat) (H0 : Qa) (xs : List Int) (hr : Qd H0 r = some ⟨3, 1, ints xs⟩) (hab : a ≤ b) (hb : b ≤ xs.length) (hn : xs.length ≤ 1048576) :
  Fc C 148 [.ref r 0 xs.length, .int .i64 (a : Nat), .int .i64 (b : Nat)] H0 (fun v H' => ∃ ys : List Int, v = .tup [] ∧ ys.length = xs.length ∧ H' = H0.set r (some ⟨3, 1, ints ys⟩)) := by
 have hset : ∀ row, Qd (H0.set r (some row)) r = some row := fun row => Qg hr
 have hsame := Qat hr
 refine Fc.bodyT Qe Tryz.func148 w148 rfl Tryz.ntmps148 Tryz.results148 (zLe rfl) ?_
 (apply Zo;repeat' ((with_reducible first|apply Zk|(first|apply Za|apply Zb|apply Zc|apply Zd)<;>intro h)<;>try simp -implicitDefEqProofs (maxSteps:=9^7) (disch:=first|omega|(simp only [Qb];omega)) only [go_sem]))
 refine Qf (fun n ts H => ∃ (i : Nat) (j : Int) (ws : List Int), (a ≤ i) ∧ (i ≤ b) ∧ (j < (b : Nat)) ∧ ((a : Int) - 1 ≤ j) ∧ (ws.length = xs.length) ∧ (H = H0.set r (some ⟨3, 1, ints ws⟩)) ∧ (n = (j + 1 - i).toNat) ∧ ts.length = 32 ∧ nth ts 0 = .ref r 0 xs.length ∧ nth ts 6 = .int .i64 (i : Nat) ∧ nth ts 7 = .int .i64 j) ?_ (n := (b - a : Nat)) ?_
 ·skip
  rintro n ts H ⟨i, j, ws, hi, hi2, hj, hj2, hl, hH, hn2, hL, hs0, hs6, hs7⟩;refine Qv [(0, .ref r 0 xs.length), (6, .int .i64 (i : Nat)), (7, .int .i64 j)] hL (by simp only [zFm, hs0, hs6, hs7, true_and]; exact zNm) ?_
  clear hL hs0 hs6 hs7 ts
  refine Qu Qe ?_;subst hH;by_cases hij : (i : Int) < j
  ·obtain ⟨m, rfl⟩ : ∃ m : Nat, j = m := ⟨j.toNat, by omega⟩
   (apply Zo;repeat' ((with_reducible first|apply Zk|(first|apply Za|apply Zb|apply Zc|apply Zd)<;>intro h)<;>try simp -implicitDefEqProofs (maxSteps:=9^7) (disch:=first|omega|(simp only [Qb];omega)) only [go_sem, hset, Xu]))
   exact ⟨((m : Int) - 1 + 1 - ((i + 1 : Nat) : Int)).toNat, by omega, i + 1, (m : Int) - 1, _, by omega, by omega, by omega, by omega, by simp [hl], rfl, rfl, by congr 1, by congr 1⟩
  ·skip
   (apply Zo;repeat' ((with_reducible first|apply Zk|(first|apply Za|apply Zb|apply Zc|apply Zd)<;>intro h)<;>try simp -implicitDefEqProofs (maxSteps:=9^7) (disch:=first|omega|(simp only [Qb];omega)) only [go_sem]))
   exact ⟨ws, hl, rfl⟩
 ·exact ⟨a, (b : Int) - 1, xs, by omega, by omega, by omega, by omega, rfl, hsame.symm, by omega, rfl, rfl, rfl, rfl⟩
theorem Qf9 (r : Nat) (lo hi first : Nat) (H0 : Qa) (xs : List Int) (hr : Qd H0 r = some ⟨3, 1, ints xs⟩) (hb : first + hi ≤ xs.length) (hn : xs.length ≤ 1048576) (hlo : lo ≤ hi) :
  Fc C 162 [.ref r 0 xs.length, .int .i64 (lo : Nat), .int .i64 (hi : Nat), .int .i64 (first : Nat)] H0 (fun v H' => ∃ ys : List Int, v = .tup [] ∧ ys.length = xs.length ∧ H' = H0.set r (some ⟨3, 1, ints ys⟩)) := by
 have hset : ∀ row, Qd (H0.set r (some row)) r = some row := fun row => Qg hr
 have hsame := Qat hr
 refine Fc.bodyT Qe Tryz.func162 w162 rfl Tryz.ntmps162 Tryz.results162 (zLe rfl) ?_
 (apply Zo;repeat' ((with_reducible first|apply Zk|(first|apply Za|apply Zb|apply Zc|apply Zd)<;>intro h)<;>try simp -implicitDefEqProofs (maxSteps:=9^7) (disch:=first|omega|(simp only [Qb];omega)) only [go_sem]))
 refine Qf (fun n ts H => ∃ (i : Nat) (ws : List Int), (i ≤ hi) ∧ (ws.length = xs.length) ∧ (H = H0.set r (some ⟨3, 1, ints ws⟩)) ∧ (n = hi - i) ∧ ts.length = 76 ∧ nth ts 0 = .ref r 0 xs.length ∧ nth ts 2 = .int .i64 (hi : Nat) ∧ nth ts 3 = .int .i64 (first : Nat) ∧ nth ts 8 = .int .i64 (i : Nat)) ?_ (n := (hi - lo : Nat)) ?_
 ·skip
  rintro n ts H ⟨i, ws, hi1, hl, hH, hn2, hL, hs0, hs2, hs3, hs8⟩;refine Qv [(0, .ref r 0 xs.length), (2, .int .i64 (hi : Nat)), (3, .int .i64 (first : Nat)), (8, .int .i64 (i : Nat))] hL (by simp only [zFm, hs0, hs2, hs3, hs8, true_and]; exact zNm) ?_
  clear hL hs0 hs2 hs3 hs8 ts
  refine Qu Qe ?_;subst hH;by_cases hc : 2 * i + 1 < hi
  ·skip
   (apply Zo;repeat' ((with_reducible first|apply Zk|(first|apply Za|apply Zb|apply Zc|apply Zd)<;>intro h)<;>try simp -implicitDefEqProofs (maxSteps:=9^7) (disch:=first|omega|(simp only [Qb];omega)) only [go_sem, hset]))
   ·refine Pc.pure (Yb _ _) rfl (fun g => rfl) ?_
    (apply Zo;repeat' ((with_reducible first|apply Zk|(first|apply Za|apply Zb|apply Zc|apply Zd)<;>intro h)<;>try simp -implicitDefEqProofs (maxSteps:=9^7) (disch:=first|omega|(simp only [Qb];omega)) only [go_sem, hset]))
    ·refine Pc.pure (Yb _ _) rfl (fun g => rfl) ?_
     (apply Zo;repeat' ((with_reducible first|apply Zk|(first|apply Za|apply Zb|apply Zc|apply Zd)<;>intro h)<;>try simp -implicitDefEqProofs (maxSteps:=9^7) (disch:=first|omega|(simp only [Qb];omega)) only [go_sem, hset, Xu]))
     ·exact ⟨hi - (2 * i + 2), by omega, 2 * i + 2, _, by omega, by simp [hl], rfl, rfl, by congr 1⟩
     ·exact ⟨_, hl, rfl⟩
    ·refine Pc.pure (Yb _ _) rfl (fun g => rfl) ?_
     (apply Zo;repeat' ((with_reducible first|apply Zk|(first|apply Za|apply Zb|apply Zc|apply Zd)<;>intro h)<;>try simp -implicitDefEqProofs (maxSteps:=9^7) (disch:=first|omega|(simp only [Qb];omega)) only [go_sem, hset, Xu]))
     ·exact ⟨hi - (2 * i + 1), by omega, 2 * i + 1, _, by omega, by simp [hl], rfl, rfl, by congr 1⟩
     ·exact ⟨_, hl, rfl⟩
   ·refine Pc.pure (Yb _ _) rfl (fun g => rfl) ?_
    (apply Zo;repeat' ((with_reducible first|apply Zk|(first|apply Za|apply Zb|apply Zc|apply Zd)<;>intro h)<;>try simp -implicitDefEqProofs (maxSteps:=9^7) (disch:=first|omega|(simp only [Qb];omega)) only [go_sem, hset, Xu]))
    ·exact ⟨hi - (2 * i + 1), by omega, 2 * i + 1, _, by omega, by simp [hl], rfl, rfl, by congr 1⟩
    ·exact ⟨_, hl, rfl⟩
  ·skip
   (apply Zo;repeat' ((with_reducible first|apply Zk|(first|apply Za|apply Zb|apply Zc|apply Zd)<;>intro h)<;>try simp -implicitDefEqProofs (maxSteps:=9^7) (disch:=first|omega|(simp only [Qb];omega)) only [go_sem]))
   exact ⟨ws, hl, rfl⟩
 ·exact ⟨lo, xs, by omega, rfl, hsame.symm, by omega, rfl, rfl, rfl, rfl, rfl⟩
theorem Qlx (r : Nat) (a b : Nat) (H0 : Qa) (xs : List Int) (hr : Qd H0 r = some ⟨3, 1, ints xs⟩) (hab : a + 1 ≤ b) (hb : b ≤ xs.length) (hn : xs.length ≤ 1048576) :
  Fc C 145 [.ref r 0 xs.length, .int .i64 (a : Nat), .int .i64 (b : Nat)] H0 (fun v H' => ∃ ys : List Int, v = .tup [] ∧ ys.length = xs.length ∧ H' = H0.set r (some ⟨3, 1, ints ys⟩)) := by
 have hset : ∀ row, Qd (H0.set r (some row)) r = some row := fun row => Qg hr
 have hsame := Qat hr
 obtain ⟨m, rfl⟩ : ∃ m : Nat, b = a + m := ⟨b - a, by omega⟩
 refine Fc.bodyT Qe Tryz.func145 w145 rfl Tryz.ntmps145 Tryz.results145 (zLe rfl) ?_
 have hm : (((a + m : Nat) : Int) - (a : Int)) = (m : Nat) := by omega
 (apply Zo;repeat' ((with_reducible first|apply Zk|(first|apply Za|apply Zb|apply Zc|apply Zd)<;>intro h)<;>try simp -implicitDefEqProofs (maxSteps:=9^7) (disch:=first|omega|(simp only [Qb];omega)) only [go_sem, hm]))
 refine Qf (fun n ts H => ∃ (i : Int) (ws : List Int), (-1 ≤ i) ∧ (i < m) ∧ (ws.length = xs.length) ∧ (H = H0.set r (some ⟨3, 1, ints ws⟩)) ∧ (n = (i + 1).toNat) ∧ ts.length = 56 ∧ nth ts 0 = .ref r 0 xs.length ∧ nth ts 6 = .int .i64 (a : Nat) ∧ nth ts 7 = .int .i64 0 ∧ nth ts 8 = .int .i64 (m : Nat) ∧ nth ts 9 = .int .i64 i) ?_ (n := (((m : Int) - 1) / 2 + 1).toNat) ?_
 ·skip
  rintro n ts H ⟨i, ws, hi, hi2, hl, hH, hn2, hL, hs0, hs6, hs7, hs8, hs9⟩;refine Qv [(0, .ref r 0 xs.length), (6, .int .i64 (a : Nat)), (7, .int .i64 0), (8, .int .i64 (m : Nat)), (9, .int .i64 i)] hL (by simp only [zFm, hs0, hs6, hs7, hs8, hs9, true_and]; exact zNm) ?_
  clear hL hs0 hs6 hs7 hs8 hs9 ts
  refine Qu Qe ?_;subst hH;by_cases hi0 : 0 ≤ i
  ·obtain ⟨k, rfl⟩ : ∃ k : Nat, i = k := ⟨i.toNat, by omega⟩
   (apply Zo;repeat' ((with_reducible first|apply Zk|(first|apply Za|apply Zb|apply Zc|apply Zd)<;>intro h)<;>try simp -implicitDefEqProofs (maxSteps:=9^7) (disch:=first|omega|(simp only [Qb];omega)) only [go_sem]))
   have hs := Qf9 r k m a (H0.set r (some ⟨3, 1, ints ws⟩)) ws (hset _) (by omega) (by omega) (by omega)
   rw [hl] at hs;refine Fc.mono hs ?_;rintro v H' ⟨ys, rfl, hy, rfl⟩;rw [List.set_set]
   (apply Zo;repeat' ((with_reducible first|apply Zk|(first|apply Za|apply Zb|apply Zc|apply Zd)<;>intro h)<;>try simp -implicitDefEqProofs (maxSteps:=9^7) (disch:=first|omega|(simp only [Qb];omega)) only [go_sem]))
   exact ⟨((k : Int) - 1 + 1).toNat, by omega, (k : Int) - 1, ys, by omega, by omega, by omega, rfl, rfl, rfl⟩
  ·obtain rfl : i = -1 := by omega
   subst hn2
   (apply Zo;repeat' ((with_reducible first|apply Zk|(first|apply Za|apply Zb|apply Zc|apply Zd)<;>intro h)<;>try simp -implicitDefEqProofs (maxSteps:=9^7) (disch:=first|omega|(simp only [Qb];omega)) only [go_sem]))
   refine Qf (fun n ts H => ∃ (i : Int) (ws : List Int), (-1 ≤ i) ∧ (i < m) ∧ (ws.length = xs.length) ∧ (H = H0.set r (some ⟨3, 1, ints ws⟩)) ∧ (n = (i + 1).toNat) ∧ ts.length = 56 ∧ nth ts 0 = .ref r 0 xs.length ∧ nth ts 6 = .int .i64 (a : Nat) ∧ nth ts 7 = .int .i64 0 ∧ nth ts 10 = .int .i64 i) ?_ (n := m) ?_
   ·skip
    rintro n ts H ⟨i, ws, hi, hi2, hl, hH, hn2, hL, hs0, hs6, hs7, hs10⟩;refine Qv [(0, .ref r 0 xs.length), (6, .int .i64 (a : Nat)), (7, .int .i64 0), (10, .int .i64 i)] hL (by simp only [zFm, hs0, hs6, hs7, hs10, true_and]; exact zNm) ?_
    clear hL hs0 hs6 hs7 hs10 ts
    refine Qu Qe ?_;subst hH;by_cases hi0 : 0 ≤ i
    ·obtain ⟨k, rfl⟩ : ∃ k : Nat, i = k := ⟨i.toNat, by omega⟩
     (apply Zo;repeat' ((with_reducible first|apply Zk|(first|apply Za|apply Zb|apply Zc|apply Zd)<;>intro h)<;>try simp -implicitDefEqProofs (maxSteps:=9^7) (disch:=first|omega|(simp only [Qb];omega)) only [go_sem, hset, Xu]))
     obtain ⟨zs, hz⟩ : ∃ zs, zs = (ws.set a (ws.getD (a + k) 0)).set (a + k) (ws.getD a 0) := ⟨_, rfl⟩
     have hzl : zs.length = xs.length := by rw [hz]; simp [hl]
     rw [← hz]
     have hs := Qf9 r 0 k a (H0.set r (some ⟨3, 1, ints zs⟩)) zs (hset _) (by omega) (by omega) (by omega)
     rw [hzl] at hs;refine Fc.mono hs ?_;rintro v H' ⟨ys, rfl, hy, rfl⟩;rw [List.set_set]
     (apply Zo;repeat' ((with_reducible first|apply Zk|(first|apply Za|apply Zb|apply Zc|apply Zd)<;>intro h)<;>try simp -implicitDefEqProofs (maxSteps:=9^7) (disch:=first|omega|(simp only [Qb];omega)) only [go_sem]))
     exact ⟨((k : Int) - 1 + 1).toNat, by omega, (k : Int) - 1, ys, by omega, by omega, by omega, rfl, rfl, rfl⟩
    ·skip
     (apply Zo;repeat' ((with_reducible first|apply Zk|(first|apply Za|apply Zb|apply Zc|apply Zd)<;>intro h)<;>try simp -implicitDefEqProofs (maxSteps:=9^7) (disch:=first|omega|(simp only [Qb];omega)) only [go_sem]))
     exact ⟨ws, hl, rfl⟩
   ·exact ⟨(m : Int) - 1, ws, by omega, by omega, hl, rfl, by omega, rfl, rfl, rfl, rfl, rfl⟩
 ·exact ⟨((m : Int) - 1) / 2, xs, by omega, by omega, rfl, hsame.symm, by omega, rfl, rfl, rfl, rfl, rfl, rfl⟩
theorem Qkd (r : Nat) (a b p : Nat) (H0 : Qa) (xs : List Int) (hr : Qd H0 r = some ⟨3, 1, ints xs⟩) (hab : a + 1 ≤ b) (hb : b ≤ xs.length) (hp : p < xs.length) (hn : xs.length ≤ 1048576) :
  Fc C 152 [.ref r 0 xs.length, .int .i64 (a : Nat), .int .i64 (b : Nat), .int .i64 (p : Nat)] H0 (fun v H' => ∃ (ys : List Int) (m : Nat) (w : Bool), v = .tup [.int .i64 (m : Nat), .bool w] ∧ a ≤ m ∧ m < b ∧ ys.length = xs.length ∧ H' = H0.set r (some ⟨3, 1, ints ys⟩)) := by
 have hset : ∀ row, Qd (H0.set r (some row)) r = some row := fun row => Qg hr
 refine Fc.bodyT Qe Tryz.func152 w152 rfl Tryz.ntmps152 Tryz.results152 (zLe rfl) ?_
 have hb1 : ((b : Int) - 1) = ((b - 1 : Nat) : Int) := by omega
 (apply Zo;repeat' ((with_reducible first|apply Zk|(first|apply Za|apply Zb|apply Zc|apply Zd)<;>intro h)<;>try simp -implicitDefEqProofs (maxSteps:=9^7) (disch:=first|omega|(simp only [Qb];omega)) only [go_sem, hr, hset, Xu, hb1]))
 obtain ⟨zs, hz⟩ : ∃ zs, zs = (xs.set a (xs.getD p 0)).set p (xs.getD a 0) := ⟨_, rfl⟩
 have hzl : zs.length = xs.length := by rw [hz]; simp
 rw [← hz]
 clear hz
 refine Qf (fun n ts H => ∃ (i j : Nat), (a + 1 ≤ i) ∧ (i ≤ b) ∧ (a ≤ j) ∧ (j < b) ∧ (H = H0.set r (some ⟨3, 1, ints zs⟩)) ∧ (n = j + 1 - i) ∧ ts.length = 168 ∧ nth ts 0 = .ref r 0 xs.length ∧ nth ts 1 = .int .i64 (a : Nat) ∧ nth ts 10 = .int .i64 (i : Nat) ∧ nth ts 11 = .int .i64 (j : Nat)) ?_ (n := (b - a - 1 : Nat)) ?_
 ·skip
  rintro n ts H ⟨i, j, hi, hi2, hj, hj2, hH, hn2, hL, hs0, hs1, hs10, hs11⟩;refine Qv [(0, .ref r 0 xs.length), (1, .int .i64 (a : Nat)), (10, .int .i64 (i : Nat)), (11, .int .i64 (j : Nat))] hL (by simp only [zFm, hs0, hs1, hs10, hs11, true_and]; exact zNm) ?_
  clear hL hs0 hs1 hs10 hs11 ts
  refine Qu Qe ?_;subst hH
  (apply Zo;repeat' ((with_reducible first|apply Zk|(first|apply Za|apply Zb|apply Zc|apply Zd)<;>intro h)<;>try simp -implicitDefEqProofs (maxSteps:=9^7) (disch:=first|omega|(simp only [Qb];omega)) only [go_sem, hset]))
  refine Pc.pure (Yb _ _) rfl (fun g => rfl) ?_
  focus
   (apply Zo;repeat' ((with_reducible first|apply Zk|(first|apply Za|apply Zb|apply Zc|apply Zd)<;>intro h)<;>try simp -implicitDefEqProofs (maxSteps:=9^7) (disch:=first|omega|(simp only [Qb];omega)) only [go_sem, hset]))
  exact ⟨j + 1 - (i + 1), by omega, i + 1, j, by omega, by omega, by omega, by omega, rfl, rfl, rfl⟩
  all_goals
   refine Qf (fun n ts H => ∃ (i j : Nat), (a + 1 ≤ i) ∧ (i ≤ b) ∧ (a ≤ j) ∧ (j < b) ∧ (H = H0.set r (some ⟨3, 1, ints zs⟩)) ∧ (n = j + 1 - i) ∧ ts.length = 168 ∧ nth ts 0 = .ref r 0 xs.length ∧ nth ts 1 = .int .i64 (a : Nat) ∧ nth ts 10 = .int .i64 (i : Nat) ∧ nth ts 11 = .int .i64 (j : Nat)) ?_ (n := (j + 1 - i : Nat)) ?_
   ·skip
    rintro n ts H ⟨i, j, hi, hi2, hj, hj2, hH, hn2, hL, hs0, hs1, hs10, hs11⟩;refine Qv [(0, .ref r 0 xs.length), (1, .int .i64 (a : Nat)), (10, .int .i64 (i : Nat)), (11, .int .i64 (j : Nat))] hL (by simp only [zFm, hs0, hs1, hs10, hs11, true_and]; exact zNm) ?_
    clear hL hs0 hs1 hs10 hs11 ts
    refine Qu Qe ?_;subst hH
    (apply Zo;repeat' ((with_reducible first|apply Zk|(first|apply Za|apply Zb|apply Zc|apply Zd)<;>intro h)<;>try simp -implicitDefEqProofs (maxSteps:=9^7) (disch:=first|omega|(simp only [Qb];omega)) only [go_sem, hset]))
    refine Pc.pure (Yb _ _) rfl (fun g => rfl) ?_
    focus
     (apply Zo;repeat' ((with_reducible first|apply Zk|(first|apply Za|apply Zb|apply Zc|apply Zd)<;>intro h)<;>try simp -implicitDefEqProofs (maxSteps:=9^7) (disch:=first|omega|(simp only [Qb];omega)) only [go_sem, hset, Xu]))
    ·skip
     refine Qf (fun n ts H => ∃ (i0 j0 : Nat) (ws : List Int), (a + 1 ≤ i0) ∧ (i0 ≤ b) ∧ (a ≤ j0) ∧ (j0 < b) ∧ (ws.length = xs.length) ∧ (H = H0.set r (some ⟨3, 1, ints ws⟩)) ∧ (n = j0 + 1 - i0) ∧ ts.length = 168 ∧ nth ts 0 = .ref r 0 xs.length ∧ nth ts 1 = .int .i64 (a : Nat) ∧ nth ts 10 = .int .i64 (i0 : Nat) ∧ nth ts 11 = .int .i64 (j0 : Nat)) ?_ (n := (j - 1 + 1 - (i + 1) : Nat)) ?_
     ·skip
      rintro n ts H ⟨i0, j0, ws, hi, hi2, hj, hj2, hl, hH, hn2, hL, hs0, hs1, hs10, hs11⟩;refine Qv [(0, .ref r 0 xs.length), (1, .int .i64 (a : Nat)), (10, .int .i64 (i0 : Nat)), (11, .int .i64 (j0 : Nat))] hL (by simp only [zFm, hs0, hs1, hs10, hs11, true_and]; exact zNm) ?_
      clear hL hs0 hs1 hs10 hs11 ts
      refine Qu Qe ?_;subst hH hn2
      (apply Zo;repeat' ((with_reducible first|apply Zk|(first|apply Za|apply Zb|apply Zc|apply Zd)<;>intro h)<;>try simp -implicitDefEqProofs (maxSteps:=9^7) (disch:=first|omega|(simp only [Qb];omega)) only [go_sem, hset]))
      refine Qf (fun n ts H => ∃ (i j : Nat), (a + 1 ≤ i) ∧ (i ≤ b) ∧ (a ≤ j) ∧ (j < b) ∧ (j + 1 - i ≤ j0 + 1 - i0) ∧ (H = H0.set r (some ⟨3, 1, ints ws⟩)) ∧ (n = j + 1 - i) ∧ ts.length = 168 ∧ nth ts 0 = .ref r 0 xs.length ∧ nth ts 1 = .int .i64 (a : Nat) ∧ nth ts 10 = .int .i64 (i : Nat) ∧ nth ts 11 = .int .i64 (j : Nat)) ?_ (n := (j0 + 1 - i0 : Nat)) ?_
      ·skip
       rintro n ts H ⟨i, j, hi, hi2, hj, hj2, hm, hH, hn2, hL, hs0, hs1, hs10, hs11⟩;refine Qv [(0, .ref r 0 xs.length), (1, .int .i64 (a : Nat)), (10, .int .i64 (i : Nat)), (11, .int .i64 (j : Nat))] hL (by simp only [zFm, hs0, hs1, hs10, hs11, true_and]; exact zNm) ?_
       clear hL hs0 hs1 hs10 hs11 ts
       refine Qu Qe ?_;subst hH
       (apply Zo;repeat' ((with_reducible first|apply Zk|(first|apply Za|apply Zb|apply Zc|apply Zd)<;>intro h)<;>try simp -implicitDefEqProofs (maxSteps:=9^7) (disch:=first|omega|(simp only [Qb];omega)) only [go_sem, hset]))
       refine Pc.pure (Yb _ _) rfl (fun g => rfl) ?_
       focus
        (apply Zo;repeat' ((with_reducible first|apply Zk|(first|apply Za|apply Zb|apply Zc|apply Zd)<;>intro h)<;>try simp -implicitDefEqProofs (maxSteps:=9^7) (disch:=first|omega|(simp only [Qb];omega)) only [go_sem, hset]))
       exact ⟨j + 1 - (i + 1), by omega, i + 1, j, by omega, by omega, by omega, by omega, by omega, rfl, rfl, rfl⟩
       all_goals
        refine Qf (fun n ts H => ∃ (i j : Nat), (a + 1 ≤ i) ∧ (i ≤ b) ∧ (a ≤ j) ∧ (j < b) ∧ (j + 1 - i ≤ j0 + 1 - i0) ∧ (H = H0.set r (some ⟨3, 1, ints ws⟩)) ∧ (n = j + 1 - i) ∧ ts.length = 168 ∧ nth ts 0 = .ref r 0 xs.length ∧ nth ts 1 = .int .i64 (a : Nat) ∧ nth ts 10 = .int .i64 (i : Nat) ∧ nth ts 11 = .int .i64 (j : Nat)) ?_ (n := (j + 1 - i : Nat)) ?_
        ·skip
         rintro n ts H ⟨i, j, hi, hi2, hj, hj2, hm, hH, hn2, hL, hs0, hs1, hs10, hs11⟩;refine Qv [(0, .ref r 0 xs.length), (1, .int .i64 (a : Nat)), (10, .int .i64 (i : Nat)), (11, .int .i64 (j : Nat))] hL (by simp only [zFm, hs0, hs1, hs10, hs11, true_and]; exact zNm) ?_
         clear hL hs0 hs1 hs10 hs11 ts
         refine Qu Qe ?_;subst hH
         (apply Zo;repeat' ((with_reducible first|apply Zk|(first|apply Za|apply Zb|apply Zc|apply Zd)<;>intro h)<;>try simp -implicitDefEqProofs (maxSteps:=9^7) (disch:=first|omega|(simp only [Qb];omega)) only [go_sem, hset]))
         refine Pc.pure (Yb _ _) rfl (fun g => rfl) ?_
         focus
          (apply Zo;repeat' ((with_reducible first|apply Zk|(first|apply Za|apply Zb|apply Zc|apply Zd)<;>intro h)<;>try simp -implicitDefEqProofs (maxSteps:=9^7) (disch:=first|omega|(simp only [Qb];omega)) only [go_sem, hset, Xu]))
         ·skip
          exact ⟨j - 1 + 1 - (i + 1), by omega, i + 1, j - 1, (ws.set i (ws.getD j 0)).set j (ws.getD i 0), by omega, by omega, by omega, by omega, by simp [hl], rfl, rfl, by congr 1, by congr 1; omega⟩
         ·exact ⟨j - 1 + 1 - i, by omega, i, j - 1, by omega, by omega, by omega, by omega, by omega, rfl, rfl, by congr 1; omega⟩
         ·skip
          exact ⟨(ws.set j (ws.getD a 0)).set a (ws.getD j 0), j, false, rfl, by omega, by omega, by simp [hl], rfl⟩
        ·exact ⟨i, j, by omega, by omega, by omega, by omega, by omega, rfl, by omega, rfl, rfl, rfl, rfl, rfl⟩
      ·exact ⟨i0, j0, by omega, by omega, by omega, by omega, by omega, rfl, by omega, rfl, rfl, rfl, rfl, rfl⟩
     ·exact ⟨i + 1, j - 1, (zs.set i (zs.getD j 0)).set j (zs.getD i 0), by omega, by omega, by omega, by omega, by simp [hzl], rfl, rfl, rfl, rfl, rfl, rfl, by show V.int .i64 ((j : Int) - 1) = _; congr 1; omega⟩
    ·exact ⟨j - 1 + 1 - i, by omega, i, j - 1, by omega, by omega, by omega, by omega, rfl, rfl, by congr 1; omega⟩
    ·skip
     exact ⟨(zs.set j (zs.getD a 0)).set a (zs.getD j 0), j, true, rfl, by omega, by omega, by simp [hzl], rfl⟩
   ·exact ⟨i, j, by omega, by omega, by omega, by omega, rfl, by omega, rfl, rfl, rfl, rfl, rfl⟩
 ·exact ⟨a + 1, b - 1, by omega, by omega, by omega, by omega, rfl, by omega, rfl, rfl, rfl, rfl, rfl⟩
theorem Qke (r : Nat) (a b p : Nat) (H0 : Qa) (xs : List Int) (hr : Qd H0 r = some ⟨3, 1, ints xs⟩) (hab : a + 1 ≤ b) (hb : b ≤ xs.length) (hp : p < xs.length) (hn : xs.length ≤ 1048576) :
  Fc C 151 [.ref r 0 xs.length, .int .i64 (a : Nat), .int .i64 (b : Nat), .int .i64 (p : Nat)] H0 (fun v H' => ∃ (ys : List Int) (m : Nat), v = .int .i64 (m : Nat) ∧ a + 1 ≤ m ∧ m ≤ b ∧ ys.length = xs.length ∧ H' = H0.set r (some ⟨3, 1, ints ys⟩)) := by
 have hset : ∀ row, Qd (H0.set r (some row)) r = some row := fun row => Qg hr
 refine Fc.bodyT Qe Tryz.func151 w151 rfl Tryz.ntmps151 Tryz.results151 (zLe rfl) ?_
 have hb1 : ((b : Int) - 1) = ((b - 1 : Nat) : Int) := by omega
 (apply Zo;repeat' ((with_reducible first|apply Zk|(first|apply Za|apply Zb|apply Zc|apply Zd)<;>intro h)<;>try simp -implicitDefEqProofs (maxSteps:=9^7) (disch:=first|omega|(simp only [Qb];omega)) only [go_sem, hr, hset, Xu, hb1]))
 obtain ⟨zs, hz⟩ : ∃ zs, zs = (xs.set a (xs.getD p 0)).set p (xs.getD a 0) := ⟨_, rfl⟩
 have hzl : zs.length = xs.length := by rw [hz]; simp
 rw [← hz]
 clear hz
 refine Qf (fun n ts H => ∃ (i0 j0 : Nat) (ws : List Int), (a + 1 ≤ i0) ∧ (i0 ≤ b) ∧ (a ≤ j0) ∧ (j0 < b) ∧ (ws.length = xs.length) ∧ (H = H0.set r (some ⟨3, 1, ints ws⟩)) ∧ (n = j0 + 1 - i0) ∧ ts.length = 84 ∧ nth ts 0 = .ref r 0 xs.length ∧ nth ts 1 = .int .i64 (a : Nat) ∧ nth ts 9 = .int .i64 (i0 : Nat) ∧ nth ts 10 = .int .i64 (j0 : Nat)) ?_ (n := (b - a - 1 : Nat)) ?_
 ·skip
  rintro n ts H ⟨i0, j0, ws, hi, hi2, hj, hj2, hl, hH, hn2, hL, hs0, hs1, hs9, hs10⟩;refine Qv [(0, .ref r 0 xs.length), (1, .int .i64 (a : Nat)), (9, .int .i64 (i0 : Nat)), (10, .int .i64 (j0 : Nat))] hL (by simp only [zFm, hs0, hs1, hs9, hs10, true_and]; exact zNm) ?_
  clear hL hs0 hs1 hs9 hs10 ts
  refine Qu Qe ?_;subst hH hn2
  (apply Zo;repeat' ((with_reducible first|apply Zk|(first|apply Za|apply Zb|apply Zc|apply Zd)<;>intro h)<;>try simp -implicitDefEqProofs (maxSteps:=9^7) (disch:=first|omega|(simp only [Qb];omega)) only [go_sem, hset]))
  refine Qf (fun n ts H => ∃ (i j : Nat), (a + 1 ≤ i) ∧ (i ≤ b) ∧ (a ≤ j) ∧ (j < b) ∧ (j + 1 - i ≤ j0 + 1 - i0) ∧ (H = H0.set r (some ⟨3, 1, ints ws⟩)) ∧ (n = j + 1 - i) ∧ ts.length = 84 ∧ nth ts 0 = .ref r 0 xs.length ∧ nth ts 1 = .int .i64 (a : Nat) ∧ nth ts 9 = .int .i64 (i : Nat) ∧ nth ts 10 = .int .i64 (j : Nat)) ?_ (n := (j0 + 1 - i0 : Nat)) ?_
  ·skip
   rintro n ts H ⟨i, j, hi, hi2, hj, hj2, hm, hH, hn2, hL, hs0, hs1, hs9, hs10⟩;refine Qv [(0, .ref r 0 xs.length), (1, .int .i64 (a : Nat)), (9, .int .i64 (i : Nat)), (10, .int .i64 (j : Nat))] hL (by simp only [zFm, hs0, hs1, hs9, hs10, true_and]; exact zNm) ?_
   clear hL hs0 hs1 hs9 hs10 ts
   refine Qu Qe ?_;subst hH
   (apply Zo;repeat' ((with_reducible first|apply Zk|(first|apply Za|apply Zb|apply Zc|apply Zd)<;>intro h)<;>try simp -implicitDefEqProofs (maxSteps:=9^7) (disch:=first|omega|(simp only [Qb];omega)) only [go_sem, hset]))
   refine Pc.pure (Yb _ _) rfl (fun g => rfl) ?_
   focus
    (apply Zo;repeat' ((with_reducible first|apply Zk|(first|apply Za|apply Zb|apply Zc|apply Zd)<;>intro h)<;>try simp -implicitDefEqProofs (maxSteps:=9^7) (disch:=first|omega|(simp only [Qb];omega)) only [go_sem, hset]))
   rotate_left
   focus
    exact ⟨j + 1 - (i + 1), by omega, i + 1, j, by omega, by omega, by omega, by omega, by omega, rfl, rfl, rfl⟩
   all_goals
    refine Qf (fun n ts H => ∃ (i j : Nat), (a + 1 ≤ i) ∧ (i ≤ b) ∧ (a ≤ j) ∧ (j < b) ∧ (j + 1 - i ≤ j0 + 1 - i0) ∧ (H = H0.set r (some ⟨3, 1, ints ws⟩)) ∧ (n = j + 1 - i) ∧ ts.length = 84 ∧ nth ts 0 = .ref r 0 xs.length ∧ nth ts 1 = .int .i64 (a : Nat) ∧ nth ts 9 = .int .i64 (i : Nat) ∧ nth ts 10 = .int .i64 (j : Nat)) ?_ (n := (j + 1 - i : Nat)) ?_
    ·skip
     rintro n ts H ⟨i, j, hi, hi2, hj, hj2, hm, hH, hn2, hL, hs0, hs1, hs9, hs10⟩;refine Qv [(0, .ref r 0 xs.length), (1, .int .i64 (a : Nat)), (9, .int .i64 (i : Nat)), (10, .int .i64 (j : Nat))] hL (by simp only [zFm, hs0, hs1, hs9, hs10, true_and]; exact zNm) ?_
     clear hL hs0 hs1 hs9 hs10 ts
     refine Qu Qe ?_;subst hH
     (apply Zo;repeat' ((with_reducible first|apply Zk|(first|apply Za|apply Zb|apply Zc|apply Zd)<;>intro h)<;>try simp -implicitDefEqProofs (maxSteps:=9^7) (disch:=first|omega|(simp only [Qb];omega)) only [go_sem, hset]))
     refine Pc.pure (Yb _ _) rfl (fun g => rfl) ?_
     focus
      (apply Zo;repeat' ((with_reducible first|apply Zk|(first|apply Za|apply Zb|apply Zc|apply Zd)<;>intro h)<;>try simp -implicitDefEqProofs (maxSteps:=9^7) (disch:=first|omega|(simp only [Qb];omega)) only [go_sem, hset, Xu]))
     ·exact ⟨j - 1 + 1 - i, by omega, i, j - 1, by omega, by omega, by omega, by omega, by omega, rfl, rfl, by congr 1; omega⟩
     ·skip
      exact ⟨j - 1 + 1 - (i + 1), by omega, i + 1, j - 1, (ws.set i (ws.getD j 0)).set j (ws.getD i 0), by omega, by omega, by omega, by omega, by simp [hl], rfl, rfl, by congr 1, by congr 1; omega⟩
     ·skip
      exact ⟨ws, i, rfl, by omega, by omega, hl, rfl⟩
    ·exact ⟨i, j, by omega, by omega, by omega, by omega, by omega, rfl, by omega, rfl, rfl, rfl, rfl, rfl⟩
  ·exact ⟨i0, j0, by omega, by omega, by omega, by omega, by omega, rfl, by omega, rfl, rfl, rfl, rfl, rfl⟩
 ·exact ⟨a + 1, b - 1, zs, by omega, by omega, by omega, by omega, hzl, rfl, by omega, rfl, rfl, rfl, rfl, rfl⟩
theorem Qkz (r : Nat) (a b : Nat) (H0 : Qa) (xs : List Int) (hr : Qd H0 r = some ⟨3, 1, ints xs⟩) (hab : a ≤ b) (hb : b ≤ xs.length) (hn : xs.length ≤ 1048576) :
  Fc C 144 [.ref r 0 xs.length, .int .i64 (a : Nat), .int .i64 (b : Nat)] H0 (fun v H' => ∃ ys : List Int, v = .tup [] ∧ ys.length = xs.length ∧ H' = H0.set r (some ⟨3, 1, ints ys⟩)) := by
 have hset : ∀ row, Qd (H0.set r (some row)) r = some row := fun row => Qg hr
 have hsame := Qat hr
 refine Fc.bodyT Qe Tryz.func144 w144 rfl Tryz.ntmps144 Tryz.results144 (zLe rfl) ?_
 (apply Zo;repeat' ((with_reducible first|apply Zk|(first|apply Za|apply Zb|apply Zc|apply Zd)<;>intro h)<;>try simp -implicitDefEqProofs (maxSteps:=9^7) (disch:=first|omega|(simp only [Qb];omega)) only [go_sem]))
 refine Qf (fun n ts H => ∃ (i : Nat) (zs : List Int), (a + 1 ≤ i) ∧ (i ≤ b + 1) ∧ (zs.length = xs.length) ∧ (n = b + 1 - i) ∧ (H = H0.set r (some ⟨3, 1, ints zs⟩)) ∧ ts.length = 49 ∧ nth ts 0 = .ref r 0 xs.length ∧ nth ts 1 = .int .i64 (a : Nat) ∧ nth ts 2 = .int .i64 (b : Nat) ∧ nth ts 6 = .int .i64 (i : Nat)) ?_ (n := b - a) ?_
 ·skip
  rintro n ts H ⟨i, zs, hi1, hi, hl, hn2, hH, hL, hs0, hs1, hs2, hs6⟩;refine Qv [(0, .ref r 0 xs.length), (1, .int .i64 (a : Nat)), (2, .int .i64 (b : Nat)), (6, .int .i64 (i : Nat))] hL (by simp only [zFm, hs0, hs1, hs2, hs6, true_and]; exact zNm) ?_
  clear hL hs0 hs1 hs2 hs6 ts
  refine Qu Qe ?_;subst hH hn2
  (apply Zo;repeat' ((with_reducible first|apply Zk|(first|apply Za|apply Zb|apply Zc|apply Zd)<;>intro h)<;>try simp -implicitDefEqProofs (maxSteps:=9^7) (disch:=first|omega|(simp only [Qb];omega)) only [go_sem]))
  ·skip
   refine Qf (fun n ts H => ∃ (j : Nat) (ws : List Int), (j ≤ i) ∧ (a ≤ j) ∧ (ws.length = xs.length) ∧ (n = j) ∧ (H = H0.set r (some ⟨3, 1, ints ws⟩)) ∧ ts.length = 49 ∧ nth ts 0 = .ref r 0 xs.length ∧ nth ts 1 = .int .i64 (a : Nat) ∧ nth ts 2 = .int .i64 (b : Nat) ∧ nth ts 6 = .int .i64 (i : Nat) ∧ nth ts 7 = .int .i64 (j : Nat)) ?_ (n := i) ?_
   ·skip
    rintro n ts H ⟨j, ws, hj, hj2, hlw, hn2, hH, hL, hs0, hs1, hs2, hs6, hs7⟩;refine Qv [(0, .ref r 0 xs.length), (1, .int .i64 (a : Nat)), (2, .int .i64 (b : Nat)), (6, .int .i64 (i : Nat)), (7, .int .i64 (j : Nat))] hL (by simp only [zFm, hs0, hs1, hs2, hs6, hs7, true_and]; exact zNm) ?_
    clear hL hs0 hs1 hs2 hs6 hs7 ts
    refine Qu Qe ?_;subst hH;by_cases hja : j > a
    ·have e1 : ((j : Int) - 1) = ((j - 1 : Nat) : Int) := by omega
     (apply Zo;repeat' ((with_reducible first|apply Zk|(first|apply Za|apply Zb|apply Zc|apply Zd)<;>intro h)<;>try simp -implicitDefEqProofs (maxSteps:=9^7) (disch:=first|omega|(simp only [Qb];omega)) only [go_sem, hset, e1]))
     refine Pc.pure (Yb _ _) rfl (fun g => rfl) ?_
     (apply Zo;repeat' ((with_reducible first|apply Zk|(first|apply Za|apply Zb|apply Zc|apply Zd)<;>intro h)<;>try simp -implicitDefEqProofs (maxSteps:=9^7) (disch:=first|omega|(simp only [Qb];omega)) only [go_sem, hset, Xu, e1]))
     ·exact ⟨j - 1, by omega, j - 1, _, by omega, by omega, by simp [hlw], rfl, rfl, rfl⟩
     ·exact ⟨b + 1 - (i + 1), by omega, i + 1, ws, by omega, by omega, hlw, rfl, rfl, rfl⟩
    ·skip
     (apply Zo;repeat' ((with_reducible first|apply Zk|(first|apply Za|apply Zb|apply Zc|apply Zd)<;>intro h)<;>try simp -implicitDefEqProofs (maxSteps:=9^7) (disch:=first|omega|(simp only [Qb];omega)) only [go_sem]))
     exact ⟨b + 1 - (i + 1), by omega, i + 1, ws, by omega, by omega, hlw, rfl, rfl, rfl⟩
   ·exact ⟨i, zs, by omega, by omega, hl, rfl, rfl, rfl, rfl, rfl, rfl, rfl, rfl⟩
  ·exact ⟨zs, hl, rfl⟩
 ·exact ⟨a + 1, xs, by omega, by omega, rfl, by omega, hsame.symm, rfl, rfl, rfl, rfl, rfl⟩
theorem Qne (r : Nat) (a b : Nat) (H0 : Qa) (xs : List Int) (hr : Qd H0 r = some ⟨3, 1, ints xs⟩) (hab : a + 1 ≤ b) (hb : b ≤ xs.length) (hn : xs.length ≤ 1048576) :
  Fc C 149 [.ref r 0 xs.length, .int .i64 (a : Nat), .int .i64 (b : Nat)] H0 (fun v H' => ∃ (ys : List Int) (w : Bool), v = .bool w ∧ ys.length = xs.length ∧ H' = H0.set r (some ⟨3, 1, ints ys⟩)) := by
 have hset : ∀ row, Qd (H0.set r (some row)) r = some row := fun row => Qg hr
 have hsame := Qat hr
 refine Fc.bodyT Qe Tryz.func149 w149 rfl Tryz.ntmps149 Tryz.results149 (zLe rfl) ?_
 (apply Zo;repeat' ((with_reducible first|apply Zk|(first|apply Za|apply Zb|apply Zc|apply Zd)<;>intro h)<;>try simp -implicitDefEqProofs (maxSteps:=9^7) (disch:=first|omega|(simp only [Qb];omega)) only [go_sem]))
 refine Qf (fun n ts H => ∃ (c i : Nat) (ws : List Int), (c ≤ 5) ∧ (a + 1 ≤ i) ∧ (i ≤ b) ∧ (ws.length = xs.length) ∧ (H = H0.set r (some ⟨3, 1, ints ws⟩)) ∧ (n = 5 - c) ∧ ts.length = 133 ∧ nth ts 0 = .ref r 0 xs.length ∧ nth ts 1 = .int .i64 (a : Nat) ∧ nth ts 2 = .int .i64 (b : Nat) ∧ nth ts 7 = .int .i64 (i : Nat) ∧ nth ts 8 = .int .i64 (c : Nat)) ?_ (n := 5) ?_
 ·skip
  rintro n ts H ⟨c, i, ws, hc, hi, hi2, hl, hH, hn2, hL, hs0, hs1, hs2, hs7, hs8⟩;refine Qv [(0, .ref r 0 xs.length), (1, .int .i64 (a : Nat)), (2, .int .i64 (b : Nat)), (7, .int .i64 (i : Nat)), (8, .int .i64 (c : Nat))] hL (by simp only [zFm, hs0, hs1, hs2, hs7, hs8, true_and]; exact zNm) ?_
  clear hL hs0 hs1 hs2 hs7 hs8 ts
  refine Qu Qe ?_;subst hH hn2;by_cases hc5 : c < 5
  case neg =>
   (apply Zo;repeat' ((with_reducible first|apply Zk|(first|apply Za|apply Zb|apply Zc|apply Zd)<;>intro h)<;>try simp -implicitDefEqProofs (maxSteps:=9^7) (disch:=first|omega|(simp only [Qb];omega)) only [go_sem]))
   exact ⟨ws, false, rfl, hl, rfl⟩
  (apply Zo;repeat' ((with_reducible first|apply Zk|(first|apply Za|apply Zb|apply Zc|apply Zd)<;>intro h)<;>try simp -implicitDefEqProofs (maxSteps:=9^7) (disch:=first|omega|(simp only [Qb];omega)) only [go_sem]))
  refine Qf (fun n ts H => ∃ (i : Nat), (a + 1 ≤ i) ∧ (i ≤ b) ∧ (H = H0.set r (some ⟨3, 1, ints ws⟩)) ∧ (n = b - i) ∧ ts.length = 133 ∧ nth ts 0 = .ref r 0 xs.length ∧ nth ts 1 = .int .i64 (a : Nat) ∧ nth ts 2 = .int .i64 (b : Nat) ∧ nth ts 7 = .int .i64 (i : Nat) ∧ nth ts 8 = .int .i64 (c : Nat)) ?_ (n := b - i) ?_
  ·skip
   rintro n ts H ⟨i, hi, hi2, hH, hn2, hL, hs0, hs1, hs2, hs7, hs8⟩;refine Qv [(0, .ref r 0 xs.length), (1, .int .i64 (a : Nat)), (2, .int .i64 (b : Nat)), (7, .int .i64 (i : Nat)), (8, .int .i64 (c : Nat))] hL (by simp only [zFm, hs0, hs1, hs2, hs7, hs8, true_and]; exact zNm) ?_
   clear hL hs0 hs1 hs2 hs7 hs8 ts
   refine Qu Qe ?_;subst hH
   have e1 : ((i : Int) - 1) = ((i - 1 : Nat) : Int) := by omega
   by_cases hib : i < b
   ·skip
    (apply Zo;repeat' ((with_reducible first|apply Zk|(first|apply Za|apply Zb|apply Zc|apply Zd)<;>intro h)<;>try simp -implicitDefEqProofs (maxSteps:=9^7) (disch:=first|omega|(simp only [Qb];omega)) only [go_sem, hset, e1]))
    refine Pc.pure (Yb _ _) rfl (fun g => rfl) ?_
    (apply Zo;repeat' ((with_reducible first|apply Zk|(first|apply Za|apply Zb|apply Zc|apply Zd)<;>intro h)<;>try simp -implicitDefEqProofs (maxSteps:=9^7) (disch:=first|omega|(simp only [Qb];omega)) only [go_sem, hset, Xu, e1]))
    ·exact ⟨ws, false, rfl, hl, rfl⟩
    ·subst hn2;refine Qf (fun n ts H => ∃ (j : Nat) (us : List Int), (j < i) ∧ (us.length = xs.length) ∧ (H = H0.set r (some ⟨3, 1, ints us⟩)) ∧ (n = j) ∧ ts.length = 133 ∧ nth ts 0 = .ref r 0 xs.length ∧ nth ts 1 = .int .i64 (a : Nat) ∧ nth ts 2 = .int .i64 (b : Nat) ∧ nth ts 7 = .int .i64 (i : Nat) ∧ nth ts 8 = .int .i64 (c : Nat) ∧ nth ts 9 = .int .i64 (j : Nat)) ?_ (n := i - 1) ?_
     ·skip
      rintro n ts H ⟨j, us, hj, hul, hH, hn2, hL, hs0, hs1, hs2, hs7, hs8, hs9⟩;refine Qv [(0, .ref r 0 xs.length), (1, .int .i64 (a : Nat)), (2, .int .i64 (b : Nat)), (7, .int .i64 (i : Nat)), (8, .int .i64 (c : Nat)), (9, .int .i64 (j : Nat))] hL (by simp only [zFm, hs0, hs1, hs2, hs7, hs8, hs9, true_and]; exact zNm) ?_
      clear hL hs0 hs1 hs2 hs7 hs8 hs9 ts
      refine Qu Qe ?_;subst hH;by_cases hjb : 1 ≤ j
      ·have e2 : ((j : Int) - 1) = ((j - 1 : Nat) : Int) := by omega
       (apply Zo;repeat' ((with_reducible first|apply Zk|(first|apply Za|apply Zb|apply Zc|apply Zd)<;>intro h)<;>try simp -implicitDefEqProofs (maxSteps:=9^7) (disch:=first|omega|(simp only [Qb];omega)) only [go_sem, hset, e2]))
       refine Pc.pure (Yb _ _) rfl (fun g => rfl) ?_
       (apply Zo;repeat' ((with_reducible first|apply Zk|(first|apply Za|apply Zb|apply Zc|apply Zd)<;>intro h)<;>try simp -implicitDefEqProofs (maxSteps:=9^7) (disch:=first|omega|(simp only [Qb];omega)) only [go_sem, hset, Xu, e2]))
       ·exact ⟨j - 1, by omega, j - 1, _, by omega, by simp [hul], rfl, rfl, rfl⟩
       ·skip
        refine Qf (fun n ts H => ∃ (j : Nat) (us : List Int), (i + 1 ≤ j) ∧ (j ≤ b) ∧ (us.length = xs.length) ∧ (H = H0.set r (some ⟨3, 1, ints us⟩)) ∧ (n = b - j) ∧ ts.length = 133 ∧ nth ts 0 = .ref r 0 xs.length ∧ nth ts 1 = .int .i64 (a : Nat) ∧ nth ts 2 = .int .i64 (b : Nat) ∧ nth ts 7 = .int .i64 (i : Nat) ∧ nth ts 8 = .int .i64 (c : Nat) ∧ nth ts 10 = .int .i64 (j : Nat)) ?_ (n := b - (i + 1)) ?_
        ·skip
         rintro n ts H ⟨j, us, hj, hj2, hul, hH, hn2, hL, hs0, hs1, hs2, hs7, hs8, hs10⟩;refine Qv [(0, .ref r 0 xs.length), (1, .int .i64 (a : Nat)), (2, .int .i64 (b : Nat)), (7, .int .i64 (i : Nat)), (8, .int .i64 (c : Nat)), (10, .int .i64 (j : Nat))] hL (by simp only [zFm, hs0, hs1, hs2, hs7, hs8, hs10, true_and]; exact zNm) ?_
         clear hL hs0 hs1 hs2 hs7 hs8 hs10 ts
         refine Qu Qe ?_;subst hH
         have e2 : ((j : Int) - 1) = ((j - 1 : Nat) : Int) := by omega
         by_cases hjb : j < b
         ·skip
          (apply Zo;repeat' ((with_reducible first|apply Zk|(first|apply Za|apply Zb|apply Zc|apply Zd)<;>intro h)<;>try simp -implicitDefEqProofs (maxSteps:=9^7) (disch:=first|omega|(simp only [Qb];omega)) only [go_sem, hset, e2]))
          refine Pc.pure (Yb _ _) rfl (fun g => rfl) ?_
          (apply Zo;repeat' ((with_reducible first|apply Zk|(first|apply Za|apply Zb|apply Zc|apply Zd)<;>intro h)<;>try simp -implicitDefEqProofs (maxSteps:=9^7) (disch:=first|omega|(simp only [Qb];omega)) only [go_sem, hset, Xu, e2]))
          ·exact ⟨b - (j + 1), by omega, j + 1, _, by omega, by omega, by simp [hul], rfl, rfl, by congr 1⟩
          ·exact ⟨5 - (c + 1), by omega, c + 1, i, us, by omega, by omega, by omega, by simp [*], rfl, rfl, rfl, rfl⟩
         ·skip
          (apply Zo;repeat' ((with_reducible first|apply Zk|(first|apply Za|apply Zb|apply Zc|apply Zd)<;>intro h)<;>try simp -implicitDefEqProofs (maxSteps:=9^7) (disch:=first|omega|(simp only [Qb];omega)) only [go_sem]))
          exact ⟨5 - (c + 1), by omega, c + 1, i, us, by omega, by omega, by omega, by simp [*], rfl, rfl, rfl, rfl⟩
        ·exact ⟨i + 1, us, by omega, by omega, by simp [*], rfl, rfl, rfl, rfl, rfl, rfl, rfl, rfl, rfl⟩
       ·exact ⟨5 - (c + 1), by omega, c + 1, i, us, by omega, by omega, by omega, by simp [*], rfl, rfl, rfl, rfl⟩
      ·skip
       (apply Zo;repeat' ((with_reducible first|apply Zk|(first|apply Za|apply Zb|apply Zc|apply Zd)<;>intro h)<;>try simp -implicitDefEqProofs (maxSteps:=9^7) (disch:=first|omega|(simp only [Qb];omega)) only [go_sem]))
       ·skip
        refine Qf (fun n ts H => ∃ (j : Nat) (us : List Int), (i + 1 ≤ j) ∧ (j ≤ b) ∧ (us.length = xs.length) ∧ (H = H0.set r (some ⟨3, 1, ints us⟩)) ∧ (n = b - j) ∧ ts.length = 133 ∧ nth ts 0 = .ref r 0 xs.length ∧ nth ts 1 = .int .i64 (a : Nat) ∧ nth ts 2 = .int .i64 (b : Nat) ∧ nth ts 7 = .int .i64 (i : Nat) ∧ nth ts 8 = .int .i64 (c : Nat) ∧ nth ts 10 = .int .i64 (j : Nat)) ?_ (n := b - (i + 1)) ?_
        ·skip
         rintro n ts H ⟨j, us, hj, hj2, hul, hH, hn2, hL, hs0, hs1, hs2, hs7, hs8, hs10⟩;refine Qv [(0, .ref r 0 xs.length), (1, .int .i64 (a : Nat)), (2, .int .i64 (b : Nat)), (7, .int .i64 (i : Nat)), (8, .int .i64 (c : Nat)), (10, .int .i64 (j : Nat))] hL (by simp only [zFm, hs0, hs1, hs2, hs7, hs8, hs10, true_and]; exact zNm) ?_
         clear hL hs0 hs1 hs2 hs7 hs8 hs10 ts
         refine Qu Qe ?_;subst hH
         have e2 : ((j : Int) - 1) = ((j - 1 : Nat) : Int) := by omega
         by_cases hjb : j < b
         ·skip
          (apply Zo;repeat' ((with_reducible first|apply Zk|(first|apply Za|apply Zb|apply Zc|apply Zd)<;>intro h)<;>try simp -implicitDefEqProofs (maxSteps:=9^7) (disch:=first|omega|(simp only [Qb];omega)) only [go_sem, hset, e2]))
          refine Pc.pure (Yb _ _) rfl (fun g => rfl) ?_
          (apply Zo;repeat' ((with_reducible first|apply Zk|(first|apply Za|apply Zb|apply Zc|apply Zd)<;>intro h)<;>try simp -implicitDefEqProofs (maxSteps:=9^7) (disch:=first|omega|(simp only [Qb];omega)) only [go_sem, hset, Xu, e2]))
          ·exact ⟨b - (j + 1), by omega, j + 1, _, by omega, by omega, by simp [hul], rfl, rfl, by congr 1⟩
          ·exact ⟨5 - (c + 1), by omega, c + 1, i, us, by omega, by omega, by omega, by simp [*], rfl, rfl, rfl, rfl⟩
         ·skip
          (apply Zo;repeat' ((with_reducible first|apply Zk|(first|apply Za|apply Zb|apply Zc|apply Zd)<;>intro h)<;>try simp -implicitDefEqProofs (maxSteps:=9^7) (disch:=first|omega|(simp only [Qb];omega)) only [go_sem]))
          exact ⟨5 - (c + 1), by omega, c + 1, i, us, by omega, by omega, by omega, by simp [*], rfl, rfl, rfl, rfl⟩
        ·exact ⟨i + 1, us, by omega, by omega, by simp [*], rfl, rfl, rfl, rfl, rfl, rfl, rfl, rfl, rfl⟩
       ·exact ⟨5 - (c + 1), by omega, c + 1, i, us, by omega, by omega, by omega, by simp [*], rfl, rfl, rfl, rfl⟩
     ·exact ⟨i - 1, (ws.set i (ws.getD (i - 1) 0)).set (i - 1) (ws.getD i 0), by omega, by simp [hl], rfl, rfl, rfl, rfl, rfl, rfl, rfl, rfl, rfl⟩
    ·subst hn2;refine Qf (fun n ts H => ∃ (j : Nat) (us : List Int), (i + 1 ≤ j) ∧ (j ≤ b) ∧ (us.length = xs.length) ∧ (H = H0.set r (some ⟨3, 1, ints us⟩)) ∧ (n = b - j) ∧ ts.length = 133 ∧ nth ts 0 = .ref r 0 xs.length ∧ nth ts 1 = .int .i64 (a : Nat) ∧ nth ts 2 = .int .i64 (b : Nat) ∧ nth ts 7 = .int .i64 (i : Nat) ∧ nth ts 8 = .int .i64 (c : Nat) ∧ nth ts 10 = .int .i64 (j : Nat)) ?_ (n := b - (i + 1)) ?_
     ·skip
      rintro n ts H ⟨j, us, hj, hj2, hul, hH, hn2, hL, hs0, hs1, hs2, hs7, hs8, hs10⟩;refine Qv [(0, .ref r 0 xs.length), (1, .int .i64 (a : Nat)), (2, .int .i64 (b : Nat)), (7, .int .i64 (i : Nat)), (8, .int .i64 (c : Nat)), (10, .int .i64 (j : Nat))] hL (by simp only [zFm, hs0, hs1, hs2, hs7, hs8, hs10, true_and]; exact zNm) ?_
      clear hL hs0 hs1 hs2 hs7 hs8 hs10 ts
      refine Qu Qe ?_;subst hH
      have e2 : ((j : Int) - 1) = ((j - 1 : Nat) : Int) := by omega
      by_cases hjb : j < b
      ·skip
       (apply Zo;repeat' ((with_reducible first|apply Zk|(first|apply Za|apply Zb|apply Zc|apply Zd)<;>intro h)<;>try simp -implicitDefEqProofs (maxSteps:=9^7) (disch:=first|omega|(simp only [Qb];omega)) only [go_sem, hset, e2]))
       refine Pc.pure (Yb _ _) rfl (fun g => rfl) ?_
       (apply Zo;repeat' ((with_reducible first|apply Zk|(first|apply Za|apply Zb|apply Zc|apply Zd)<;>intro h)<;>try simp -implicitDefEqProofs (maxSteps:=9^7) (disch:=first|omega|(simp only [Qb];omega)) only [go_sem, hset, Xu, e2]))
       ·exact ⟨b - (j + 1), by omega, j + 1, _, by omega, by omega, by simp [hul], rfl, rfl, by congr 1⟩
       ·exact ⟨5 - (c + 1), by omega, c + 1, i, us, by omega, by omega, by omega, by simp [*], rfl, rfl, rfl, rfl⟩
      ·skip
       (apply Zo;repeat' ((with_reducible first|apply Zk|(first|apply Za|apply Zb|apply Zc|apply Zd)<;>intro h)<;>try simp -implicitDefEqProofs (maxSteps:=9^7) (disch:=first|omega|(simp only [Qb];omega)) only [go_sem]))
       exact ⟨5 - (c + 1), by omega, c + 1, i, us, by omega, by omega, by omega, by simp [*], rfl, rfl, rfl, rfl⟩
     ·exact ⟨i + 1, (ws.set i (ws.getD (i - 1) 0)).set (i - 1) (ws.getD i 0), by omega, by omega, by simp [*], rfl, rfl, rfl, rfl, rfl, rfl, rfl, rfl, rfl⟩
    ·exact ⟨b - (i + 1), by omega, i + 1, by omega, by omega, rfl, rfl⟩
   ·skip
    (apply Zo;repeat' ((with_reducible first|apply Zk|(first|apply Za|apply Zb|apply Zc|apply Zd)<;>intro h)<;>try simp -implicitDefEqProofs (maxSteps:=9^7) (disch:=first|omega|(simp only [Qb];omega)) only [go_sem]))
    exact ⟨ws, true, rfl, hl, rfl⟩
  ·exact ⟨i, by omega, by omega, rfl, rfl, rfl, rfl, rfl, rfl, rfl, rfl⟩
 ·exact ⟨0, a + 1, xs, by omega, by omega, by omega, rfl, hsame.symm, rfl, rfl, rfl, rfl, rfl, rfl, rfl⟩
theorem Qst (x : Nat) (hx : x < 4294967296) : Pu C 154 [.int .u64 (x : Nat)] (.int .i64 (Yq x : Nat)) := by
 have b0 : x < 256 → Yq x ≤ 8 := fun h => Ju (by omega)
 have b1 : x < 65536 → Yq (x / 256) ≤ 8 := fun h => Ju (by omega)
 have b2 : x < 16777216 → Yq (x / 65536) ≤ 8 := fun h => Ju (by omega)
 have b3 : Yq (x / 65536 / 256) ≤ 8 := Ju (by omega)
 have s16 : (x : Int).fdiv (2 ^ min 16 64) = ((x / 65536 : Nat) : Int) := Qar x 16
 have s8 : ∀ x : Nat, (x : Int).fdiv (2 ^ min 8 64) = ((x / 256 : Nat) : Int) := fun x => Qar x 8
 refine Fc.keep (Fc.bodyT Qe Tryz.func154 w154 rfl Tryz.ntmps154 Tryz.results154 (zLe rfl) ?_)
 (apply Zo;repeat' ((with_reducible first|apply Zk|(first|apply Za|apply Zb|apply Zc|apply Zd)<;>intro h)<;>try simp -implicitDefEqProofs (maxSteps:=9^7) (disch:=first|omega|(simp only [Qb];omega)) only [go_sem, s16, s8, Qyi, Qp4, Qml]))
 ·skip
  (refine Qo (by intro g; simp only [go_sem, ren, Ql]) ?_)
  rw [Qa0 (n := x) (k := 16) (by omega), Qa0 (n := x / 2 ^ 16) (k := 8) (by omega)]
  congr 1; simp only [Nat.reducePow]; omega
 ·skip
  (refine Qo (by intro g; simp only [go_sem, ren, Ql]) ?_)
  rw [Qa0 (n := x) (k := 16) (by omega)]
  congr 1
 ·skip
  (refine Qo (by intro g; simp only [go_sem, ren, Ql]) ?_)
  rw [Qa0 (n := x) (k := 8) (by omega)]
  congr 1
 ·skip
  (refine Qo (by intro g; simp only [go_sem, ren, Ql]) ?_)
  congr 1; omega
theorem Qp3 (x : Nat) (hx : x < 4294967296) : Pu C 125 [.int .u64 (x : Nat)] (.int .i64 (Yq x : Nat)) := by
 refine Fc.keep (Fc.bodyT Qe Tryz.func125 w125 rfl Tryz.ntmps125 Tryz.results125 (zLe rfl) ?_)
 (apply Zo;repeat' ((with_reducible first|apply Zk|(first|apply Za|apply Zb|apply Zc|apply Zd)<;>intro h)<;>try simp -implicitDefEqProofs (maxSteps:=9^7) (disch:=first|omega|(simp only [Qb];omega)) only [go_sem]))
 refine Fc.pure (Qst x hx) (by simp [go_sem, Qi, clo, Qc, Qx]) (by intro g; simp only [go_sem, ren, Ql]) ?_
 (apply Zo;repeat' ((with_reducible first|apply Zk|(first|apply Za|apply Zb|apply Zc|apply Zd)<;>intro h)<;>try simp -implicitDefEqProofs (maxSteps:=9^7) (disch:=first|omega|(simp only [Qb];omega)) only [go_sem]))
 (refine Qo (by intro g; simp only [go_sem, ren, Ql]) ?_)
 rfl
theorem Qnn (x : Nat) (hx : x ≤ 1048576) : Pu C 163 [.int .i64 (x : Nat)] (.int .u64 ((2 ^ Yq x : Nat) : Int)) := by
 have hb : Yq x ≤ 21 := Ju (by omega)
 refine Fc.keep (Fc.bodyT Qe Tryz.func163 w163 rfl Tryz.ntmps163 Tryz.results163 (zLe rfl) ?_)
 (apply Zo;repeat' ((with_reducible first|apply Zk|(first|apply Za|apply Zb|apply Zc|apply Zd)<;>intro h)<;>try simp -implicitDefEqProofs (maxSteps:=9^7) (disch:=first|omega|(simp only [Qb];omega)) only [go_sem]))
 refine Fc.pure (Qp3 x (by omega)) (by simp [go_sem, Qi, clo, Qc, Qx]) (by intro g; simp only [go_sem, ren, Ql]) ?_
 (apply Zo;repeat' ((with_reducible first|apply Zk|(first|apply Za|apply Zb|apply Zc|apply Zd)<;>intro h)<;>try simp -implicitDefEqProofs (maxSteps:=9^7) (disch:=first|omega|(simp only [Qb];omega)) only [go_sem]))
 (refine Qo (by intro g; simp only [go_sem, ren, Ql]) ?_)
 have h2 : (2 : Nat) ^ Yq x ≤ 2 ^ 21 := Nat.pow_le_pow_right (by decide) hb
 have h3 : ((2 ^ Yq x : Nat) : Int) = 2 ^ Yq x := by simp
 rw [Nat.min_eq_left (by omega), Int.one_mul, ← h3]
 generalize 2 ^ Yq x = P at *;rw [Qyh (by omega)]
theorem Qre (q : Nat) (s : Int) (H0 : Qa) (hq : Qd H0 q = some ⟨183, 1, [.int .u64 s]⟩) :
  Fc C 164 [.ptr q 0] H0 (fun v H' => ∃ s' : Int, v = .int .u64 s' ∧ H' = H0.set q (some ⟨183, 1, [.int .u64 s']⟩)) := by
 have hst : ∀ z : Row, Qd (H0.set q (some z)) q = some z := fun z => Qg hq
 refine Fc.bodyT Qe Tryz.func164 w164 rfl Tryz.ntmps164 Tryz.results164 (zLe rfl) ?_
 (apply Zo;repeat' ((with_reducible first|apply Zk|(first|apply Za|apply Zb|apply Zc|apply Zd)<;>intro h)<;>try simp -implicitDefEqProofs (maxSteps:=9^7) (disch:=first|omega|(simp only [Qb];omega)) only [go_sem, hq, hst]))
 exact ⟨_, rfl, rfl⟩
theorem Qqt (r : Nat) (a b : Nat) (H0 : Qa) (xs : List Int) (hr : Qd H0 r = some ⟨3, 1, ints xs⟩) (hab : a ≤ b) (hb : b ≤ xs.length) (hn : xs.length ≤ 1048576) :
  Fc C 146 [.ref r 0 xs.length, .int .i64 (a : Nat), .int .i64 (b : Nat)] H0 (fun v H' => ∃ (ys : List Int) (X : Qa), v = .tup [] ∧ ys.length = xs.length ∧ H' = H0.set r (some ⟨3, 1, ints ys⟩) ++ X) := by
 have hset : ∀ row, Qd (H0.set r (some row)) r = some row := fun row => Qg hr
 have hsame := Qat hr
 obtain ⟨m, rfl⟩ : ∃ m : Nat, b = a + m := ⟨b - a, by omega⟩
 have hm : (((a + m : Nat) : Int) - (a : Int)) = (m : Nat) := by omega
 refine Fc.bodyT Qe Tryz.func146 w146 rfl Tryz.ntmps146 Tryz.results146 (zLe rfl) ?_
 (apply Zo;repeat' ((with_reducible first|apply Zk|(first|apply Za|apply Zb|apply Zc|apply Zd)<;>intro h)<;>try simp -implicitDefEqProofs (maxSteps:=9^7) (disch:=first|omega|(simp only [Qb];omega)) only [go_sem, hm]))
 ·refine Fc.pure (Qnn m (by omega)) rfl (fun g => rfl) ?_
  have hp1 : 2 ^ Yq m ≤ 2 * m := by
   have := Qlc (n := m) (by omega)
   have h1 : 1 ≤ Yq m := by have := Qoi (n := m) (k := 0) (by omega); omega
   rw [show Yq m = Yq m - 1 + 1 by omega, Nat.pow_succ]; omega
  have hp2 := Qf1 m
  generalize 2 ^ Yq m = P at *;obtain ⟨q, hq⟩ : ∃ q, H0.length = q := ⟨_, rfl⟩
  have hrq : r < q := by rw [← hq]; exact Xg hr
  rw [hq]
  have hk : ((m : Int) / 4 * 2) = ((m / 4 * 2 : Nat) : Int) := by omega
  (apply Zo;repeat' ((with_reducible first|apply Zk|(first|apply Za|apply Zb|apply Zc|apply Zd)<;>intro h)<;>try simp -implicitDefEqProofs (maxSteps:=9^7) (disch:=first|omega|(simp only [Qb];omega)) only [go_sem, hk]))
  refine Qf (fun n ts H => ∃ (i : Nat) (s : Int) (ws : List Int), (a + m / 4 * 2 - 1 ≤ i) ∧ (i ≤ a + m / 4 * 2 + 2) ∧ (ws.length = xs.length) ∧ (H = H0.set r (some ⟨3, 1, ints ws⟩) ++ [some ⟨183, 1, [.int .u64 s]⟩]) ∧ (n = a + m / 4 * 2 + 2 - i) ∧ ts.length = 65 ∧ nth ts 0 = .ref r 0 xs.length ∧ nth ts 1 = .int .i64 (a : Nat) ∧ nth ts 6 = .int .i64 (m : Nat) ∧ nth ts 7 = .ptr q 0 ∧ nth ts 8 = .int .u64 (P : Nat) ∧ nth ts 9 = .int .i64 (i : Nat)) ?_ (n := 3) ?_
  ·skip
   rintro n ts H ⟨i, s, ws, hi, hi2, hl, hH, hn2, hL, hs0, hs1, hs6, hs7, hs8, hs9⟩;refine Qv [(0, .ref r 0 xs.length), (1, .int .i64 (a : Nat)), (6, .int .i64 (m : Nat)), (7, .ptr q 0), (8, .int .u64 (P : Nat)), (9, .int .i64 (i : Nat))] hL (by simp only [zFm, hs0, hs1, hs6, hs7, hs8, hs9, true_and]; exact zNm) ?_
   clear hL hs0 hs1 hs6 hs7 hs8 hs9 ts
   refine Qu Qe ?_;subst hH
   have hq2 : ∀ (w : Option Row) (z : Row), Qd (H0.set r w ++ [some z]) q = some z := fun w z => by
    have := Yd (H0.set r w) z
    rwa [List.length_set, hq] at this
   have hr2 : ∀ (w : Row) Y, Qd (H0.set r (some w) ++ Y) r = some w := fun w Y => Qj (hset w) Y
   have hs2 : ∀ (w z z' : Option Row), (H0.set r w ++ [z]).set q z' = H0.set r w ++ [z'] := fun w z z' => by
    rw [List.set_append_right _ _ (by rw [List.length_set]; omega), List.length_set, hq, Nat.sub_self]; rfl
   have hs3 : ∀ (w w' : Option Row) Y, (H0.set r w ++ Y).set r w' = H0.set r w' ++ Y := fun w w' Y => by
    rw [List.set_append_left _ _ (by rw [List.length_set]; omega), List.set_set]
   by_cases hil : i ≤ a + m / 4 * 2 + 1
   ·skip
    (apply Zo;repeat' ((with_reducible first|apply Zk|(first|apply Za|apply Zb|apply Zc|apply Zd)<;>intro h)<;>try simp -implicitDefEqProofs (maxSteps:=9^7) (disch:=first|omega|(simp only [Qb];omega)) only [go_sem, hk]))
    refine Fc.mono (Qre q s _ (hq2 _ _)) ?_;rintro v H' ⟨s', rfl, rfl⟩;rw [hs2];obtain ⟨o, ho, hoP⟩ : ∃ o : Nat, (@HAnd.hAnd (BitVec 64) (BitVec 64) (BitVec 64) (@instHAndOfAndOp (BitVec IntKind.u64.bits) (@BitVec.instAndOp IntKind.u64.bits)) (BitVec.ofInt 64 s') (BitVec.ofInt 64 ((P : Int) - 1))).toNat = o ∧ o < P := ⟨_, rfl, by
     show (BitVec.ofInt 64 s' &&& BitVec.ofInt 64 ((P : Int) - 1)).toNat < P
     have h1 := Nat.and_le_right (n := (BitVec.ofInt 64 s').toNat) (m := (BitVec.ofInt 64 ((P : Int) - 1)).toNat)
     rw [BitVec.toNat_and]
     have h2 : (BitVec.ofInt 64 ((P : Int) - 1)).toNat = P - 1 := by
      rw [BitVec.toNat_ofInt];omega
     omega⟩
    (apply Zo;repeat' ((with_reducible first|apply Zk|(first|apply Za|apply Zb|apply Zc|apply Zd)<;>intro h)<;>try simp -implicitDefEqProofs (maxSteps:=9^7) (disch:=first|omega|(simp only [Qb];omega)) only [go_sem, ho, hr2, hs3, Xu]))
    all_goals exact ⟨a + m / 4 * 2 + 2 - (i + 1), by omega, i + 1, s', _, by omega, by omega, by simp [hl], rfl, rfl, by congr 1⟩
   ·skip
    (apply Zo;repeat' ((with_reducible first|apply Zk|(first|apply Za|apply Zb|apply Zc|apply Zd)<;>intro h)<;>try simp -implicitDefEqProofs (maxSteps:=9^7) (disch:=first|omega|(simp only [Qb];omega)) only [go_sem, hk]))
    exact ⟨ws, _, hl, rfl⟩
  ·exact ⟨a + m / 4 * 2 - 1, m, xs, by omega, by omega, rfl, by rw [hsame], by omega, rfl, rfl, rfl, rfl, rfl, rfl, by show V.int .i64 ((a : Int) + ((m / 4 * 2 : Nat) : Int) - 1) = _; congr 1; omega⟩
 ·exact ⟨xs, [], rfl, by rw [hsame]; simp⟩
theorem Qn6 (r : Nat) (a b : Nat) (H0 : Qa) (xs : List Int) (hr : Qd H0 r = some ⟨3, 1, ints xs⟩) (hab : a + 12 < b) (hb : b ≤ xs.length) (hn : xs.length ≤ 1048576) :
  Fc C 147 [.ref r 0 xs.length, .int .i64 (a : Nat), .int .i64 (b : Nat)] H0 (fun v H' => ∃ (p : Nat) (h : Int) (X : Qa), v = .tup [.int .i64 (p : Nat), .int .i64 h] ∧ (a ≤ p ∧ p < b) ∧ 0 ≤ h ∧ h ≤ 2 ∧ H' = H0 ++ X) := by
 obtain ⟨m, rfl⟩ : ∃ m : Nat, b = a + m := ⟨b - a, by omega⟩
 have hm : (((a + m : Nat) : Int) - (a : Int)) = (m : Nat) := by omega
 have hk1 : ((a : Int) + (m : Int) / 4 * 1) = ((a + m / 4 : Nat) : Int) := by omega
 have hk2 : ((a : Int) + (m : Int) / 4 * 2) = ((a + m / 4 * 2 : Nat) : Int) := by omega
 have hk3 : ((a : Int) + (m : Int) / 4 * 3) = ((a + m / 4 * 3 : Nat) : Int) := by omega
 obtain ⟨q, hq⟩ : ∃ q, H0.length = q := ⟨_, rfl⟩
 have hrq : r < q := by rw [← hq]; exact Xg hr
 have hq2 : ∀ (z : Row), Qd (H0 ++ [some z]) q = some z := fun z => by
  have := Yd H0 z
  rwa [hq] at this
 have hs2 : ∀ (z z' : Option Row), (H0 ++ [z]).set q z' = H0 ++ [z'] := fun z z' => by
  rw [List.set_append_right _ _ (by omega), hq, Nat.sub_self]; rfl
 have hr2 : ∀ Y, Qd (H0 ++ Y) r = some ⟨3, 1, ints xs⟩ := fun Y => Qj hr Y
 refine Fc.bodyT Qe Tryz.func147 w147 rfl Tryz.ntmps147 Tryz.results147 (zLe rfl) ?_
 (apply Zo;repeat' ((with_reducible first|apply Zk|(first|apply Za|apply Zb|apply Zc|apply Zd)<;>intro h)<;>try simp -implicitDefEqProofs (maxSteps:=9^7) (disch:=first|omega|(simp only [Qb];omega)) only [go_sem, hm, hk1, hk2, hk3, hq]))
 ·refine Fc.mono (Qcn r q a (a + m) (a + m / 4) 0 _ xs (hr2 _) (hq2 _) (by omega) hb (by omega) hn (by omega)) ?_
  rintro v H' ⟨i, s1, rfl, hi, hs1, rfl⟩;rw [hs2]
  (apply Zo;repeat' ((with_reducible first|apply Zk|(first|apply Za|apply Zb|apply Zc|apply Zd)<;>intro h)<;>try simp -implicitDefEqProofs (maxSteps:=9^7) (disch:=first|omega|(simp only [Qb];omega)) only [go_sem]))
  refine Fc.mono (Qcn r q a (a + m) (a + m / 4 * 2) s1 _ xs (hr2 _) (hq2 _) (by omega) hb (by omega) hn (by omega)) ?_
  rintro v H' ⟨j, s2, rfl, hj, hs2', rfl⟩;rw [hs2]
  (apply Zo;repeat' ((with_reducible first|apply Zk|(first|apply Za|apply Zb|apply Zc|apply Zd)<;>intro h)<;>try simp -implicitDefEqProofs (maxSteps:=9^7) (disch:=first|omega|(simp only [Qb];omega)) only [go_sem]))
  refine Fc.mono (Qcn r q a (a + m) (a + m / 4 * 3) s2 _ xs (hr2 _) (hq2 _) (by omega) hb (by omega) hn (by omega)) ?_
  rintro v H' ⟨k, s3, rfl, hk, hs3, rfl⟩;rw [hs2]
  (apply Zo;repeat' ((with_reducible first|apply Zk|(first|apply Za|apply Zb|apply Zc|apply Zd)<;>intro h)<;>try simp -implicitDefEqProofs (maxSteps:=9^7) (disch:=first|omega|(simp only [Qb];omega)) only [go_sem]))
  refine Fc.mono (Qff r q a (a + m) i j k s3 _ xs (hr2 _) (hq2 _) (by omega) hb (by omega) (by omega) (by omega) hn (by omega)) ?_
  rintro v H' ⟨p, s4, rfl, hp, hs4, rfl⟩;rw [hs2]
  (apply Zo;repeat' ((with_reducible first|apply Zk|(first|apply Za|apply Zb|apply Zc|apply Zd)<;>intro h)<;>try simp -implicitDefEqProofs (maxSteps:=9^7) (disch:=first|omega|(simp only [Qb];omega)) only [go_sem, hq2]))
  ·exact ⟨p, 1, [_], rfl, hp, by decide, by decide, rfl⟩
  ·exact ⟨p, 2, [_], rfl, hp, by decide, by decide, rfl⟩
  ·exact ⟨p, 0, [_], rfl, hp, by decide, by decide, rfl⟩
 ·skip
  refine Fc.mono (Qff r q a (a + m) (a + m / 4) (a + m / 4 * 2) (a + m / 4 * 3) 0 _ xs (hr2 _) (hq2 _) (by omega) hb (by omega) (by omega) (by omega) hn (by omega)) ?_
  rintro v H' ⟨p, s4, rfl, hp, hs4, rfl⟩;rw [hs2]
  (apply Zo;repeat' ((with_reducible first|apply Zk|(first|apply Za|apply Zb|apply Zc|apply Zd)<;>intro h)<;>try simp -implicitDefEqProofs (maxSteps:=9^7) (disch:=first|omega|(simp only [Qb];omega)) only [go_sem, hq2]))
  ·exact ⟨p, 1, [_], rfl, hp, by decide, by decide, rfl⟩
  ·exact ⟨p, 0, [_], rfl, hp, by decide, by decide, rfl⟩
end Go.Proofs.YtjdbdmhjakfldaaGreat
end
