/-
  Parts RefN4, Num15, Num16, RefN5, RefN6, Num17, Ten1, Ten2, Ten3, Ten4, Shp1, Shp2, Mov1, Mov2, Mov3, Mov4, Perm1, Pdq1, Pdq2, Pdq3, Pdq4, Pdq5, Pdq6, Pdq7, Pdq8, one behind the other: a program logic of our own, contracts of functions.
-/
import Derived.Test.YtjdbdmhjakfldaaGreatB4

set_option linter.unusedVariables false
set_option linter.unusedSimpArgs false
set_option maxRecDepth 100000
set_option maxHeartbeats 8000000
section
namespace Go.Proofs.YtjdbdmhjakfldaaGreat
open Go.Bv
theorem Qddz {H0 : Heap} {v : V} {l : List Nat} (hO : OwnD H0 v l) (hl : l.length ≤ 2000000000000) : Fc C 139 [v] H0 fun u H' => H' = H0 ∧ TrimQ v l u := by
 rcases hO with ⟨rfl, h2, h3⟩ | ⟨r, rfl, hr, hlen⟩
 ·have : l = [] := List.length_eq_zero_iff.1 h2
  subst this
  refine Fc.bodyT Qfz Tryz.func139 w139 rfl Tryz.ntmps139 Tryz.results139 (zLe rfl) ?_
  (refine Zo ?_;repeat' ((with_reducible first|refine Zk ?_|(first|apply Za|apply Zb|apply Zc|apply Zd)<;>intro h)<;>try simp -implicitDefEqProofs (maxSteps:=9^7) (disch:=first|omega|(simp only [lens];omega)) only [go_sem]))
  refine Qcz (fun n ts H => (n = 0) ∧ (H = H0) ∧ ts.length = 21 ∧ nth ts 0 = .nil ∧ nth ts 3 = .int .i64 0) ?_ (n := 0) ?_
  ·skip
   rintro n ts H ⟨hn, hH, hL, hs0, hs3⟩
   refine Qqz [(0, .nil), (3, .int .i64 0)] hL (by simp only [zFm, hs0, hs3, true_and]; exact zNm) ?_
   clear hL hs0 hs3 ts
   refine Qsz Qfz ?_
   subst hH
   (refine Zo ?_;repeat' ((with_reducible first|refine Zk ?_|(first|apply Za|apply Zb|apply Zc|apply Zd)<;>intro h)<;>try simp -implicitDefEqProofs (maxSteps:=9^7) (disch:=first|omega|(simp only [lens];omega)) only [go_sem]))
   exact .inl ⟨rfl, rfl⟩
  ·exact ⟨rfl, rfl, rfl, rfl, rfl⟩
 ·skip
  refine Fc.bodyT Qfz Tryz.func139 w139 rfl Tryz.ntmps139 Tryz.results139 (zLe rfl) ?_
  (refine Zo ?_;repeat' ((with_reducible first|refine Zk ?_|(first|apply Za|apply Zb|apply Zc|apply Zd)<;>intro h)<;>try simp -implicitDefEqProofs (maxSteps:=9^7) (disch:=first|omega|(simp only [lens];omega)) only [go_sem, hr]))
  refine Qcz (fun n ts H => ∃ (m : Nat), (m ≤ l.length) ∧ (topN (l.take m) = topN l) ∧ (n = m) ∧ (H = H0) ∧ ts.length = 21 ∧ nth ts 0 = .ref r 0 l.length ∧ nth ts 3 = .int .i64 (m : Nat)) ?_ (n := l.length) ?_
  ·skip
   rintro n ts H ⟨m, hm, ht, hn, hH, hL, hs0, hs3⟩
   refine Qqz [(0, .ref r 0 l.length), (3, .int .i64 (m : Nat))] hL (by simp only [zFm, hs0, hs3, true_and]; exact zNm) ?_
   clear hL hs0 hs3 ts
   refine Qsz Qfz ?_
   subst hH
   (refine Zo ?_;repeat' ((with_reducible first|refine Zk ?_|(first|apply Za|apply Zb|apply Zc|apply Zd)<;>intro h)<;>try simp -implicitDefEqProofs (maxSteps:=9^7) (disch:=first|omega|(simp only [lens];omega)) only [go_sem, hr]))
   ·obtain ⟨m, rfl⟩ : ∃ k, m = k + 1 := ⟨m - 1, by omega⟩
    rw [XAz (by omega)] at ht
    simp only [Nat.add_sub_cancel] at h
    rw [if_pos (by omega)] at ht
    exact ⟨m, by omega, m, (by (repeat' apply And.intro) <;> (first | rfl | omega | (congr 1; omega) | assumption | (congr 1; assumption)))⟩
   ·obtain ⟨m, rfl⟩ : ∃ k, m = k + 1 := ⟨m - 1, by omega⟩
    rw [XAz (by omega)] at ht
    simp only [Nat.add_sub_cancel] at h
    rw [if_neg (by omega)] at ht
    refine Z0z (.inr ⟨r, rfl, hr, hlen⟩) (by simp [t3ok]) (by simp [t3size]) hm (fun h0 => by omega) (fun h0 => by omega) fun q h0 hv => ?_
    (refine Zo ?_;repeat' ((with_reducible first|refine Zk ?_|(first|apply Za|apply Zb|apply Zc|apply Zd)<;>intro h)<;>try simp -implicitDefEqProofs (maxSteps:=9^7) (disch:=first|omega|(simp only [lens];omega)) only [go_sem]))
    exact .inr (.inr ⟨q, hv, by rw [ht]⟩)
   ·obtain rfl : m = 0 := by omega
    refine Z0z (.inr ⟨r, rfl, hr, hlen⟩) (by simp [t3ok]) (by simp [t3size]) hm (fun h0 hv => nomatch hv) (fun h0 hv => ?_) fun q h0 hv => by omega
    (refine Zo ?_;repeat' ((with_reducible first|refine Zk ?_|(first|apply Za|apply Zb|apply Zc|apply Zd)<;>intro h)<;>try simp -implicitDefEqProofs (maxSteps:=9^7) (disch:=first|omega|(simp only [lens];omega)) only [go_sem]))
    exact .inr (.inl ⟨rfl, by rw [← ht]; rfl⟩)
  ·exact ⟨l.length, Nat.le_refl _, by rw [List.take_length], rfl, rfl, rfl, rfl, rfl⟩
theorem Gd.elems_nats {H : Heap} {v : V} {k : IntKind} {l : List Nat} {y : Ty} (hy : y.size = 1) (h : Gd H v (.sl l.length (nats k l))) : Xqz y v H = some (l.length, nats k l) := by
 generalize hu : V.sl l.length (nats k l) = u at h
 cases h with
 | leaf v hc hp => subst hu; rfl
 | nil cs =>
  injection hu with h1 h2
  have : l = [] := List.length_eq_zero_iff.1 h1
  subst this; rfl
 | ref r n row cs hr hp hl h =>
  injection hu with h1 h2
  subst h1 h2
  simp only [Xqz, hr, hy, Nat.mul_one, List.drop_zero, Option.some.injEq, Prod.mk.injEq, true_and]
  rw [QDz] at hl h
  refine List.ext_getElem (by rw [List.length_take, QDz]; omega) fun i h1 h2 => ?_
  rw [QDz] at h2
  have h3 := h i h2
  rw [Qcqz _ _ h2] at h3
  have h4 := h3.int_inv
  rw [QGz] at h4
  rw [List.getElem_take]
  have h5 : row.cs.getD i .any = row.cs[i]'(by omega) := by simp [List.getD, show i < row.cs.length by omega]
  rw [← h5, h4]
  simp [nats, List.getD, h2]
 | agg l m hl h => cases hu
 | tup l m hl h => cases hu
theorem Own.set_ne {e s q : Nat} {H : Heap} {v : V} {n : Nat} {cs : List V} (h : Bv.Own e s H v n cs) (hne : ∀ off n, v ≠ .ref q off n) (z : Option Row) : Bv.Own e s (H.set q z) v n cs := by
 rcases h with h | ⟨r, rfl, h2, h3⟩
 ·exact .inl h
 ·exact .inr ⟨r, rfl, by rw [Qdz _ (fun e => hne 0 n (by rw [e]))]; exact h2, h3⟩
theorem Qkbz (r b : Nat) (hr : dlen r ≤ 1000000000000) (hb : dlen b ≤ 100000000000) (h0 : 0 < b) (hrb : r < b * D10) : Pu C 140 [DV r, DV b] (.int .i64 (r / b : Nat)) := by
 have hq : r / b < 10000 := Nat.div_lt_of_lt_mul hrb
 refine Fc.keep (Fc.bodyT Qfz Tryz.func140 w140 rfl Tryz.ntmps140 Tryz.results140 (zLe rfl) ?_)
 (refine Zo ?_;repeat' ((with_reducible first|refine Zk ?_|(first|apply Za|apply Zb|apply Zc|apply Zd)<;>intro h)<;>try simp -implicitDefEqProofs (maxSteps:=9^7) (disch:=first|omega|(simp only [lens];omega)) only [go_sem]))
 refine Qcz (fun n ts H => ∃ (lo : Nat) (hi : Nat), (lo ≤ r / b) ∧ (r / b < hi) ∧ (hi ≤ 10000) ∧ (H = []) ∧ (n = hi - lo) ∧ ts.length = 25 ∧ nth ts 0 = DV r ∧ nth ts 1 = DV b ∧ nth ts 5 = .int .i64 (lo : Nat) ∧ nth ts 6 = .int .i64 (hi : Nat)) ?_ (n := 10000) ?_
 ·skip
  rintro n ts H ⟨lo, hi, h1, h2, h3, hH, hn, hL, hs0, hs1, hs5, hs6⟩
  refine Qqz [(0, DV r), (1, DV b), (5, .int .i64 (lo : Nat)), (6, .int .i64 (hi : Nat))] hL (by simp only [zFm, hs0, hs1, hs5, hs6, true_and]; exact zNm) ?_
  clear hL hs0 hs1 hs5 hs6 ts
  refine Qsz Qfz ?_
  subst hH
  by_cases hcase : 1 < hi - lo
  ·obtain ⟨m, hm⟩ : ∃ m, m = (lo + hi) / 2 := ⟨_, rfl⟩
   have e1 : (((lo : Int) + (hi : Int)) / 2) = (m : Int) := by omega
   have hml := Qaiz b m
   have hmd : dlen m ≤ 2 := XUz (Nat.lt_of_lt_of_le (show m < 10000 by omega) (by decide))
   have hle : b * m ≤ r ↔ m ≤ r / b := by rw [Nat.le_div_iff_mul_le h0, Nat.mul_comm]
   have hcm : cmpN (b * m) r ≤ 0 ↔ m ≤ r / b := by rw [← hle]; unfold cmpN; split <;> (try split) <;> omega
   (refine Zo ?_;repeat' ((with_reducible first|refine Zk ?_|(first|apply Za|apply Zb|apply Zc|apply Zd)<;>intro h)<;>try simp -implicitDefEqProofs (maxSteps:=9^7) (disch:=first|omega|(simp only [lens];omega)) only [go_sem, e1]))
   refine (Ykz b m (by omega) (by omega)).call ⟨.self (QIz _), .self rfl, trivial⟩ (QIz _) ?_
   (refine Zo ?_;repeat' ((with_reducible first|refine Zk ?_|(first|apply Za|apply Zb|apply Zc|apply Zd)<;>intro h)<;>try simp -implicitDefEqProofs (maxSteps:=9^7) (disch:=first|omega|(simp only [lens];omega)) only [go_sem, e1]))
   refine Fc.pure (YNz (b * m) r (by omega) hr) (by simp [cloL, clo, Qkz]) (fun g => rfl) ?_
   (refine Zo ?_;repeat' ((with_reducible first|refine Zk ?_|(first|apply Za|apply Zb|apply Zc|apply Zd)<;>intro h)<;>try simp -implicitDefEqProofs (maxSteps:=9^7) (disch:=first|omega|(simp only [lens];omega)) only [go_sem, e1]))
   ·have h := hcm.1 h
    exact ⟨hi - m, by omega, m, hi, (by (repeat' apply And.intro) <;> (first | rfl | omega | (congr 1; omega) | assumption | (congr 1; assumption)))⟩
   ·have h := fun hh => h (hcm.2 hh)
    exact ⟨m - lo, by omega, lo, m, (by (repeat' apply And.intro) <;> (first | rfl | omega | (congr 1; omega) | assumption | (congr 1; assumption)))⟩
  ·skip
   (refine Zo ?_;repeat' ((with_reducible first|refine Zk ?_|(first|apply Za|apply Zb|apply Zc|apply Zd)<;>intro h)<;>try simp -implicitDefEqProofs (maxSteps:=9^7) (disch:=first|omega|(simp only [lens];omega)) only [go_sem]))
   (refine Qmz (by intro g; simp only [go_sem, ren, renL]) ?_)
   congr 2; omega
 ·exact ⟨0, 10000, Nat.zero_le _, hq, Nat.le_refl _, rfl, rfl, rfl, rfl, rfl, rfl, rfl⟩
theorem Y7z (x y : Nat) (hx : dlen x ≤ 100000000000) (hy : dlen y ≤ 100000000000) (h0 : 0 < y) : Val C 120 [DV x, DV y] (.tup [DV (x / y), DV (x % y)]) := by
 have lx : (dg D10 x).length = dlen x := rfl
 refine Fc.keep (Fc.bodyT Qfz Tryz.func120 w120 rfl Tryz.ntmps120 Tryz.results120 (zLe rfl) ?_)
 (refine Zo ?_;repeat' ((with_reducible first|refine Zk ?_|(first|apply Za|apply Zb|apply Zc|apply Zd)<;>intro h)<;>try simp -implicitDefEqProofs (maxSteps:=9^7) (disch:=first|omega|(simp only [lens];omega)) only [go_sem]))
 refine Y1z rfl rfl rfl rfl (by simp [t3bytes]) (by omega) ?_
 (refine Zo ?_;repeat' ((with_reducible first|refine Zk ?_|(first|apply Za|apply Zb|apply Zc|apply Zd)<;>intro h)<;>try simp -implicitDefEqProofs (maxSteps:=9^7) (disch:=first|omega|(simp only [lens];omega)) only [go_sem]))
 refine Qcz (fun n ts H => ∃ (m : Nat) (Q : List Nat) (r : V), (m ≤ dlen x) ∧ (Q.length = dlen x) ∧ ((∀ e ∈ Q, e < D10)) ∧ (Gd H r (DV (x / D10 ^ m % y))) ∧ (lv D10 (Q.drop m) = x / D10 ^ m / y) ∧ (n = m) ∧ (Qbz H 0 = some ⟨3, 1, nats .i64 Q⟩) ∧ ts.length = 49 ∧ nth ts 0 = DV x ∧ nth ts 1 = DV y ∧ nth ts 6 = .ref 0 0 (dlen x) ∧ nth ts 7 = r ∧ nth ts 8 = .int .i64 ((m : Int) - 1)) ?_ (n := dlen x) ?_
 ·skip
  rintro n ts H ⟨m, Q, r, hm, hQl, hQ, hG, hinv, hn, hrq, hL, hs0, hs1, hs6, hs7, hs8⟩
  refine Qqz [(0, DV x), (1, DV y), (6, .ref 0 0 (dlen x)), (7, r), (8, .int .i64 ((m : Int) - 1))] hL (by simp only [zFm, hs0, hs1, hs6, hs7, hs8, true_and]; exact zNm) ?_
  clear hL hs0 hs1 hs6 hs7 hs8 ts
  refine Qsz Qfz ?_
  by_cases hcase : 0 < m
  ·obtain ⟨k, rfl⟩ : ∃ k, m = k + 1 := ⟨m - 1, by omega⟩
   have hkk : ((k + 1 : Nat) : Int) - 1 = (k : Int) := by omega
   have sx := Qhpz x k
   have a1 := Nat.mod_lt (x / D10 ^ k) (show 0 < D10 by decide)
   have hgx := Qepz Qaqz x k
   obtain ⟨dx, hdx⟩ : ∃ e, e = x / D10 ^ k % D10 := ⟨_, rfl⟩
   rw [← hdx] at a1 sx hgx
   have b1 : dx < 10000 := a1
   have hRy := Nat.mod_lt (x / D10 ^ (k + 1)) h0
   obtain ⟨R, hR⟩ : ∃ R, R = x / D10 ^ (k + 1) % y := ⟨_, rfl⟩
   rw [← hR] at hG hRy
   have hRl := Xfz (Nat.le_of_lt hRy)
   have lR : (dg D10 R).length = dlen R := rfl
   (refine Zo ?_;repeat' ((with_reducible first|refine Zk ?_|(first|apply Za|apply Zb|apply Zc|apply Zd)<;>intro h)<;>try simp -implicitDefEqProofs (maxSteps:=9^7) (disch:=first|omega|(simp only [lens];omega)) only [go_sem, hkk, hgx]))
   refine Qanz (n := 1) (m := dlen R) (cs := [.int .i64 (dx : Nat)]) (news := nats .i64 (dg D10 R)) (.inr ⟨_, rfl, QQz _ _, rfl⟩) (Gd.elems_nats (by simp [t3size]) (hG.more (Keep.app _ _))) (by simp [QDz, t3size, lR]) (Ztz _ _) (by simp [t3size]) (by simp [t3bytes]) (by simp only [t3bytes]; omega) rfl fun v' H' hv' hFr _ hform => ?_
   have hv2 : OwnD H' v' (dx :: dg D10 R) := by
    have : ([V.int .i64 (dx : Nat)] ++ nats .i64 (dg D10 R)) = nats .i64 (dx :: dg D10 R) := rfl
    rw [this] at hv'
    have e : 1 + dlen R = (dx :: dg D10 R).length := by rw [List.length_cons, lR]; omega
    rw [e] at hv'
    exact hv'
   have hH : 0 < H.length := Qtz hrq
   have hrq1 : Qbz H' 0 = some ⟨3, 1, nats .i64 Q⟩ := hFr 0 _ (fun off n e => by injection e with e; omega) (Qgz hrq _)
   (refine Zo ?_;repeat' ((with_reducible first|refine Zk ?_|(first|apply Za|apply Zb|apply Zc|apply Zd)<;>intro h)<;>try simp -implicitDefEqProofs (maxSteps:=9^7) (disch:=first|omega|(simp only [lens];omega)) only [go_sem, hkk, hgx]))
   refine (Qddz hv2 (by rw [List.length_cons, lR]; omega)).mono ?_
   rintro u H2 ⟨rfl, hq⟩
   have hdl : ∀ e ∈ dx :: dg D10 R, e < D10 := fun e he => by
    rcases List.mem_cons.1 he with rfl | he
    ·exact a1
    ·exact dg_lt Qaqz R e he
   have hval : lv D10 (dx :: dg D10 R) = dx + D10 * R := by rw [lv, Qmlz Qaqz]
   have hGu : Gd H2 u (DV (dx + D10 * R)) := by rw [← Yzz hdl hval]; exact hq.gd hv2
   have hlt : dx + D10 * R < y * D10 := by
    have := Nat.mul_le_mul_left D10 (show R + 1 ≤ y from hRy)
    rw [Nat.mul_add, Nat.mul_one, Nat.mul_comm D10 y] at this
    omega
   have hlz : dlen (dx + D10 * R) ≤ dlen y + 3 := by
    have h1 := Xfz (Nat.le_of_lt hlt)
    have h2 := Qaiz y D10
    have h3 : dlen D10 ≤ 2 := XUz (by decide)
    omega
   have hsp : x / D10 ^ k = (dx + D10 * R) + y * (D10 * (x / D10 ^ (k + 1) / y)) := by
    have hdm := Nat.div_add_mod (x / D10 ^ (k + 1)) y
    rw [← hR] at hdm
    have e : D10 * (x / D10 ^ (k + 1)) = D10 * R + y * (D10 * (x / D10 ^ (k + 1) / y)) := by
     rw [Nat.mul_left_comm y, ← Nat.mul_add, Nat.add_comm R, hdm]
    omega
   have hX : x / D10 ^ k / y = (dx + D10 * R) / y + D10 * (x / D10 ^ (k + 1) / y) := by
    rw [hsp, Nat.add_mul_div_left _ _ h0]
   have hXm : x / D10 ^ k % y = (dx + D10 * R) % y := by
    rw [hsp, Nat.add_mul_mod_self_left]
   have hql : (dx + D10 * R) / y < 10000 := Nat.div_lt_of_lt_mul hlt
   have hmod : (dx + D10 * R) % y = (dx + D10 * R) - y * ((dx + D10 * R) / y) := by
    have := Nat.div_add_mod (dx + D10 * R) y
    omega
   have hdle : y * ((dx + D10 * R) / y) ≤ dx + D10 * R := Nat.mul_div_le _ _
   generalize dx + D10 * R = z at *
   (refine Zo ?_;repeat' ((with_reducible first|refine Zk ?_|(first|apply Za|apply Zb|apply Zc|apply Zd)<;>intro h)<;>try simp -implicitDefEqProofs (maxSteps:=9^7) (disch:=first|omega|(simp only [lens];omega)) only [go_sem, hkk, hgx]))
   refine Fc.pureL (Qkbz z y (by omega) hy h0 hlt) ⟨hGu.bor, .self (QIz _), trivial⟩ (fun g => rfl) rfl ?_
   obtain ⟨q, hqq⟩ : ∃ q, q = z / y := ⟨_, rfl⟩
   rw [← hqq] at hX hql hmod hdle ⊢
   have q1 : (Q.set k q).length = dlen x := by rw [List.length_set]; exact hQl
   have q2 : ∀ e ∈ Q.set k q, e < D10 := fun e he => by
    rcases List.mem_or_eq_of_mem_set he with h1 | h1
    ·exact hQ e h1
    ·rw [h1]; exact hql
   have q3 : lv D10 ((Q.set k q).drop k) = x / D10 ^ k / y := by
    rw [Yxz (l := Q.set _ _) (by rw [List.length_set]; omega), Y5z (by omega), Xez (by omega), hinv, hX]
   (refine Zo ?_;repeat' ((with_reducible first|refine Zk ?_|(first|apply Za|apply Zb|apply Zc|apply Zd)<;>intro h)<;>try simp -implicitDefEqProofs (maxSteps:=9^7) (disch:=first|omega|(simp only [lens];omega)) only [go_sem, hkk, hgx, hrq1, Xmz]))
   refine (Ykz y q (by omega) (by omega)).call ⟨.self (QIz _), .self rfl, trivial⟩ (QIz _) ?_
   have hv3 := fun z => Own.set_ne (q := 0) hv2 (fun off n e => by obtain ⟨r, hr⟩ := hform; rw [hr] at e; injection e with e; rw [List.length_append] at e; simp at e) z
   have hGu3 : ∀ zz, Gd (H2.set 0 zz) u (DV z) := fun zz => by rw [← Yzz hdl hval]; exact hq.gd (hv3 zz)
   have hyq : dlen (y * q) ≤ 1000000000000 := by
    have := Xfz hdle
    omega
   (refine Zo ?_;repeat' ((with_reducible first|refine Zk ?_|(first|apply Za|apply Zb|apply Zc|apply Zd)<;>intro h)<;>try simp -implicitDefEqProofs (maxSteps:=9^7) (disch:=first|omega|(simp only [lens];omega)) only [go_sem, hkk, hgx, hrq1, Xmz]))
   refine (Qplz z (y * q) (by omega) hdle).kept ⟨(hGu3 _).bor, .self (QIz _), trivial⟩ fun v X hv => ?_
   rw [← hmod, ← hXm] at hv
   obtain ⟨w1, w2, rfl, hw1, hw2⟩ := hv.tup2
   have hrq2 := Qgz (Qez (row' := (⟨3, 1, nats .i64 (Q.set k q)⟩ : Row)) hrq1) X
   (refine Zo ?_;repeat' ((with_reducible first|refine Zk ?_|(first|apply Za|apply Zb|apply Zc|apply Zd)<;>intro h)<;>try simp -implicitDefEqProofs (maxSteps:=9^7) (disch:=first|omega|(simp only [lens];omega)) only [go_sem, hkk, hgx, hrq1, Xmz]))
   exact ⟨k, by omega, k, Q.set k q, w1, (by (repeat' apply And.intro) <;> (first | rfl | omega | (congr 1; omega) | assumption | (congr 1; assumption)))⟩
  ·obtain rfl : m = 0 := by omega
   simp only [List.drop_zero, Nat.pow_zero, Nat.div_one] at hinv hG
   (refine Zo ?_;repeat' ((with_reducible first|refine Zk ?_|(first|apply Za|apply Zb|apply Zc|apply Zd)<;>intro h)<;>try simp -implicitDefEqProofs (maxSteps:=9^7) (disch:=first|omega|(simp only [lens];omega)) only [go_sem]))
   have hu : OwnD H (.ref 0 0 (dlen x)) Q := .inr ⟨0, by rw [hQl], hrq, by simp [QDz]⟩
   refine (Qddz hu (by omega)).mono ?_
   rintro u' H' ⟨rfl, hq⟩
   (refine Zo ?_;repeat' ((with_reducible first|refine Zk ?_|(first|apply Za|apply Zb|apply Zc|apply Zd)<;>intro h)<;>try simp -implicitDefEqProofs (maxSteps:=9^7) (disch:=first|omega|(simp only [lens];omega)) only [go_sem]))
   refine Gd.ret (Gd.tupL ⟨?_, hG, trivial⟩)
   rw [← Yzz hQ hinv]
   rw [← hQl] at hq hu
   exact hq.gd hu
 ·refine ⟨dlen x, List.replicate (dlen x) 0, .nil, Nat.le_refl _, by simp, fun x hx => by rw [(List.mem_replicate.1 hx).2]; decide, ?_, ?_, rfl, rfl, rfl, rfl, rfl, rfl, rfl, rfl⟩
  ·rw [Nat.div_eq_of_lt (Ygz x), Nat.zero_mod, DV, QJz]; exact .nil _
  ·rw [Nat.div_eq_of_lt (Ygz x), Nat.zero_div]; simp [lv]
end Go.Proofs.YtjdbdmhjakfldaaGreat
end
section
namespace Go.Proofs.YtjdbdmhjakfldaaGreat
open Go.Bv
theorem Qclz (l : List Nat) (hl : l.length ≤ 17592186044416) (hL : Lim l) : Val C 157 [NA l] (natV (lv B32 l)) := Val.ofN (Qapz l hl hL)
theorem shl_val (a : List Nat) (n : Nat) (ha : a.length ≤ 4398046511104) (hA : Lim a) (hn : n ≤ 70368744177664) : Val C 171 [NA a, .int .i64 (n : Nat)] (natV (lv B32 a * 2 ^ n)) := Val.ofN (Shl_spec a n ha hA hn)
theorem IsN.isL {v : V} {H : Heap} {x : Nat} (h : IsN v H x) : IsL 59 1 H v (dg B32 x).length (nats .u32 (dg B32 x)) := IsZ.isL h
theorem IsN.bor {v : V} {H : Heap} {x : Nat} (h : IsN v H x) : Bor H v (natV x) := h.isL.bor (Qkz _ _)
theorem IsN.keep {v : V} {H : Heap} {x : Nat} (h : IsN v H x) (X : Heap) : IsN v (H ++ X) x := by
 rcases h with h | h
 ·exact .inl h
 ·exact .inr (h.keep X)
theorem IsN.len {v : V} {H : Heap} {x : Nat} (h : IsN v H x) (y : Ty) (K : V → Prop) : lenw y v K = (y.sl.isSome = true ∧ K (.int .i64 ((dg B32 x).length : Nat))) := h.isL.lenw y K
theorem cmp_val (a b : List Nat) (ha : a.length ≤ 8796093022208) (hb : b.length ≤ 8796093022208) (hA : Lim a) (hB : Lim b) : Val C 122 [NA a, NA b] (.int .i64 (cmpN (lv B32 a) (lv B32 b))) := Val.ofPu (Qpdz a b ha hb hA hB) rfl rfl
theorem YMz {l : List Nat} (hL : Lim l) : (dg B32 (lv B32 l)).length ≤ l.length := QKz (by decide) _ _ (Qbbz hL)
theorem Qitz (k : IntKind) : ∀ (l xs : List Nat) (off : Nat), off + l.length ≤ xs.length → puts (nats k xs) off (nats k l) = nats k (xs.take off ++ l ++ xs.drop (off + l.length))
 | [], xs, off, h => by simp [nats, puts, List.take_append_drop]
 | v :: l, xs, off, h => by
  have e : nats k (v :: l) = .int k (v : Nat) :: nats k l := rfl
  simp only [List.length_cons] at h ⊢
  rw [e, puts, Xmz, Qitz k l _ _ (by rw [List.length_set]; omega)]
  congr 1
  have e1 : (xs.set off v).take (off + 1) = xs.take off ++ [v] := by
   rw [List.take_add_one, Yaz (Nat.le_refl _)]
   simp [show off < xs.length by omega]
  rw [e1, Xez (by omega), show off + 1 + l.length = off + (l.length + 1) by omega]
  simp
theorem puts_zero (k : IntKind) (l : List Nat) (n : Nat) (h : l.length ≤ n) : puts (nats k (List.replicate n 0)) 0 (nats k l) = nats k (l ++ List.replicate (n - l.length) 0) := by
 rw [Qitz _ _ _ _ (by simp; omega), List.take_zero, List.nil_append, List.drop_replicate, Nat.zero_add]
theorem Qfaz (a b : List Nat) (ha : a.length ≤ 1099511627776) (hb : b.length ≤ 1099511627776) (hA : Lim a) (hB : Lim b) (h0 : 0 < lv B32 b) : Val C 158 [NA a, NA b] (.tup [natV (lv B32 a / lv B32 b), natV (lv B32 a % lv B32 b), .int .i64 0]) := by
 have la := YMz hA
 have lb := YMz hB
 refine Fc.keep (Fc.bodyT Qfz Tryz.func158 w158 rfl Tryz.ntmps158 Tryz.results158 (zLe rfl) ?_)
 (refine Zo ?_;repeat' ((with_reducible first|refine Zk ?_|(first|apply Za|apply Zb|apply Zc|apply Zd)<;>intro h)<;>try simp -implicitDefEqProofs (maxSteps:=9^7) (disch:=first|omega|(simp only [lens];omega)) only [go_sem]))
 refine Fc.isN (Qapz a (by omega) hA) ⟨.self (QSz _), trivial⟩ fun va X hva => ?_
 (refine Zo ?_;repeat' ((with_reducible first|refine Zk ?_|(first|apply Za|apply Zb|apply Zc|apply Zd)<;>intro h)<;>try simp -implicitDefEqProofs (maxSteps:=9^7) (disch:=first|omega|(simp only [lens];omega)) only [go_sem]))
 refine (Qclz b (by omega) hB).call ⟨.self (QSz _), trivial⟩ (Yrz _) ?_
 have hlen := hva.len (C.ty 56)
 have hne : (dg B32 (lv B32 b)).length ≠ 0 := fun h => by
  have := List.length_eq_zero_iff.1 h
  have e := Q1z (lv B32 b)
  rw [this] at e; simp [lv] at e; omega
 rw [List.nil_append] at hva
 (refine Zo ?_;repeat' ((with_reducible first|refine Zk ?_|(first|apply Za|apply Zb|apply Zc|apply Zd)<;>intro h)<;>try simp -implicitDefEqProofs (maxSteps:=9^7) (disch:=first|omega|(simp only [lens];omega)) only [go_sem, hlen]))
 refine (cmp_val (dg B32 (lv B32 a)) (dg B32 (lv B32 b)) (by omega) (by omega) (Xlz _) (Xlz _)).call ⟨hva.bor, .self (QSz _), trivial⟩ rfl ?_
 rw [Q1z, Q1z]
 have hc : cmpN (lv B32 a) (lv B32 b) < 0 ↔ lv B32 a < lv B32 b := by unfold cmpN; split <;> (try split) <;> omega
 (refine Zo ?_;repeat' ((with_reducible first|refine Zk ?_|(first|apply Za|apply Zb|apply Zc|apply Zd)<;>intro h)<;>try simp -implicitDefEqProofs (maxSteps:=9^7) (disch:=first|omega|(simp only [lens];omega)) only [go_sem, hlen]))
 ·have hlt := hc.1 h
  rw [Nat.div_eq_of_lt hlt, Nat.mod_eq_of_lt hlt]
  refine Gd.ret (Gd.tupL ?_)
  exact ⟨by rw [show natV 0 = .sl 0 [] by simp [natV, NA, QJz, nats]]; exact .nil _, hva.gd, .leaf _ rfl rfl, trivial⟩
 ·have hl1 : (dg B32 (lv B32 b)).length = 1 := by omega
  obtain ⟨d, hd⟩ : ∃ d, dg B32 (lv B32 b) = [d] := by
   match hh : dg B32 (lv B32 b), hl1 with
   | [d], _ => exact ⟨d, rfl⟩
  have hdv : lv B32 b = d := by rw [← Q1z (lv B32 b), hd]; simp [lv]
  have hdl : d < 4294967296 := Xlz (lv B32 b) d (by rw [hd]; simp)
  rw [hd]
  (refine Zo ?_;repeat' ((with_reducible first|refine Zk ?_|(first|apply Za|apply Zb|apply Zc|apply Zd)<;>intro h)<;>try simp -implicitDefEqProofs (maxSteps:=9^7) (disch:=first|omega|(simp only [lens];omega)) only [go_sem]))
  have hS := Short_spec (dg B32 (lv B32 a)) d (by omega) (Xlz _) (by omega) hdl
  rw [Q1z] at hS
  refine hS.kept ⟨hva.bor, .self rfl, trivial⟩ fun v Y hv => ?_
  obtain ⟨q, r, e, rfl, hq, hr, he⟩ := hv.tup3
  rw [hr.int_inv, he.int_inv]
  have hrl : lv B32 a % d < 4294967296 := Nat.lt_of_lt_of_le (Nat.mod_lt _ (by omega)) (by omega)
  (refine Zo ?_;repeat' ((with_reducible first|refine Zk ?_|(first|apply Za|apply Zb|apply Zc|apply Zd)<;>intro h)<;>try simp -implicitDefEqProofs (maxSteps:=9^7) (disch:=first|omega|(simp only [lens];omega)) only [go_sem]))
  refine Fc.isN (Qibz (lv B32 a % d) (by omega)) (by exact ⟨.self rfl, trivial⟩) fun w Z hw => ?_
  (refine Zo ?_;repeat' ((with_reducible first|refine Zk ?_|(first|apply Za|apply Zb|apply Zc|apply Zd)<;>intro h)<;>try simp -implicitDefEqProofs (maxSteps:=9^7) (disch:=first|omega|(simp only [lens];omega)) only [go_sem]))
  rw [hdv]
  rw [List.append_assoc] at hw
  exact Gd.ret (Gd.tupL ⟨hq.more (by rw [← List.append_assoc]; exact Keep.app _ _), hw.gd, .leaf _ rfl rfl, trivial⟩)
 ·have hn2 : 2 ≤ (dg B32 (lv B32 b)).length := by omega
  have hge : lv B32 b ≤ lv B32 a := by omega
  obtain ⟨k, hk⟩ : ∃ k, (dg B32 (lv B32 b)).length = k + 2 := ⟨(dg B32 (lv B32 b)).length - 2, by omega⟩
  have hlenle : (dg B32 (lv B32 b)).length ≤ (dg B32 (lv B32 a)).length := QKz (by decide) _ _ (Nat.lt_of_le_of_lt hge (XGz (by decide) _))
  have hgt := Qepz (b := B32) (by decide) (lv B32 b) (k + 1)
  have ht := (Xlz (lv B32 b)).get (k + 1)
  have hbk : lv B32 b < B32 ^ (k + 2) := hk ▸ XGz (by decide) _
  have hbk1 : lv B32 b / B32 ^ (k + 1) < B32 := by rw [Nat.div_lt_iff_lt_mul (Nat.pow_pos (by decide)), Nat.mul_comm, ← Nat.pow_succ]; exact hbk
  rw [Nat.mod_eq_of_lt hbk1] at hgt
  have e1 : (dg B32 (lv B32 b)).length - 1 = k + 1 := by omega
  (refine Zo ?_;repeat' ((with_reducible first|refine Zk ?_|(first|apply Za|apply Zb|apply Zc|apply Zd)<;>intro h)<;>try simp -implicitDefEqProofs (maxSteps:=9^7) (disch:=first|omega|(simp only [lens];omega)) only [go_sem]))
  rw [e1]
  refine Fc.pure (lead_spec _ ht) rfl (fun g => rfl) ?_
  rw [hgt]
  obtain ⟨s, hs⟩ : ∃ s, s = 32 - blen (lv B32 b / B32 ^ (k + 1)) := ⟨_, rfl⟩
  rw [← hs]
  obtain ⟨n1, n2, n3⟩ := dm_norm hk rfl hs
  (refine Zo ?_;repeat' ((with_reducible first|refine Zk ?_|(first|apply Za|apply Zb|apply Zc|apply Zd)<;>intro h)<;>try simp -implicitDefEqProofs (maxSteps:=9^7) (disch:=first|omega|(simp only [lens];omega)) only [go_sem]))
  refine (shl_val (dg B32 (lv B32 b)) s (by omega) (Xlz _) (by omega)).call ⟨.self (QSz _), .self rfl, trivial⟩ (Yrz _) ?_
  rw [Q1z]
  have hVl : (dg B32 (lv B32 b * 2 ^ s)).length = k + 2 := by
   have c1 := QKz (b := B32) (by decide) _ _ n1
   have c2 : ¬ (dg B32 (lv B32 b * 2 ^ s)).length ≤ k + 1 := fun hh => by
    have c3 : lv B32 b * 2 ^ s < B32 ^ (k + 1) := Nat.lt_of_lt_of_le (XGz (by decide) _) (Nat.pow_le_pow_right (by decide) hh)
    have c4 : 0 < B32 ^ (k + 1) := Nat.pow_pos (by decide)
    simp only [B32] at *
    omega
   omega
  have hVg : 2147483648 ≤ (dg B32 (lv B32 b * 2 ^ s)).getD (k + 1) 0 := by
   rw [Qepz (by decide), Nat.mod_eq_of_lt (Nat.div_lt_of_lt_mul (by rw [← Nat.pow_succ]; exact n1)), Nat.le_div_iff_mul_le (Nat.pow_pos (by decide)), Nat.mul_comm 2147483648]
   exact n2
  have hbge : B32 ^ (k + 2 - 1) ≤ lv B32 b := Nat.le_of_not_lt fun hh => by
   have := QKz (b := B32) (by decide) _ _ hh
   omega
  have hfst := dm_first (s := s) (V := lv B32 b * 2 ^ s) (B := B32) (by decide) (XGz (b := B32) (by decide) (lv B32 a)) (by omega) (by omega) hbge rfl
  have hAl : lv B32 a * 2 ^ s < B32 ^ ((dg B32 (lv B32 a)).length + 1) := by
   rw [Nat.pow_succ]
   refine Nat.mul_lt_mul'' (XGz (by decide) _) ?_
   exact Nat.lt_of_le_of_lt (Nat.pow_le_pow_right (by decide) n3) (by decide)
  have hAll := QKz (b := B32) (by decide) _ _ hAl
  have hA0 : (dg B32 (lv B32 a * 2 ^ s)).length ≠ 0 := fun hh => by
   have e := Q1z (lv B32 a * 2 ^ s)
   rw [List.length_eq_zero_iff.1 hh] at e
   have hp := Nat.mul_pos (show 0 < lv B32 a by omega) (Nat.two_pow_pos s)
   rw [← e] at hp
   exact absurd hp (by simp [lv])
  have hV0 : 0 < lv B32 b * 2 ^ s := Nat.mul_pos h0 (Nat.two_pow_pos s)
  obtain ⟨V, hV⟩ : ∃ V, V = lv B32 b * 2 ^ s := ⟨_, rfl⟩
  obtain ⟨A, hAA⟩ : ∃ A, A = lv B32 a * 2 ^ s := ⟨_, rfl⟩
  rw [← hV] at hVl hVg hfst hV0 n1 ⊢
  rw [← hAA] at hfst hAl hAll hA0
  obtain ⟨m, hm⟩ : ∃ m, m = (dg B32 (lv B32 a)).length := ⟨_, rfl⟩
  have em : (((dg B32 (lv B32 a)).length : Int) + 1) = ((m + 1 : Nat) : Int) := by omega
  (refine Zo ?_;repeat' ((with_reducible first|refine Zk ?_|(first|apply Za|apply Zb|apply Zc|apply Zd)<;>intro h)<;>try simp -implicitDefEqProofs (maxSteps:=9^7) (disch:=first|omega|(simp only [lens];omega)) only [go_sem, hlen, em]))
  refine Y1z rfl rfl rfl rfl (by simp [t59bytes]) (by omega) ?_
  (refine Zo ?_;repeat' ((with_reducible first|refine Zk ?_|(first|apply Za|apply Zb|apply Zc|apply Zd)<;>intro h)<;>try simp -implicitDefEqProofs (maxSteps:=9^7) (disch:=first|omega|(simp only [lens];omega)) only [go_sem]))
  refine (shl_val (dg B32 (lv B32 a)) s (by omega) (Xlz _) (by omega)).call ⟨(hva.keep _).bor, .self rfl, trivial⟩ (Yrz _) ?_
  rw [Q1z, ← hAA]
  (refine Zo ?_;repeat' ((with_reducible first|refine Zk ?_|(first|apply Za|apply Zb|apply Zc|apply Zd)<;>intro h)<;>try simp -implicitDefEqProofs (maxSteps:=9^7) (disch:=first|omega|(simp only [lens];omega)) only [go_sem]))
  refine copyw_sl (e := 59) (s := 1) (cs := nats .u32 (List.replicate (m + 1) 0)) (news := nats .u32 (dg B32 A)) (QQz _ _) (by simp [QDz]) (Ztz _ _) rfl (by omega) (by omega) (by simp [QDz]; omega) ?_
  rw [puts_zero _ _ _ (by omega)]
  have w1 : (dg B32 A ++ List.replicate (m + 1 - (dg B32 A).length) 0).length = m + 1 := by simp; omega
  have w2 : Lim (dg B32 A ++ List.replicate (m + 1 - (dg B32 A).length) 0) := fun x hx => by
   rcases List.mem_append.1 hx with h | h
   ·exact Xlz _ x h
   ·rw [(List.mem_replicate.1 h).2]; decide
  have w3 : lv B32 (dg B32 A ++ List.replicate (m + 1 - (dg B32 A).length) 0) = A := by rw [lv_zeros, Q1z]
  generalize dg B32 A ++ List.replicate (m + 1 - (dg B32 A).length) 0 = W0 at *
  generalize hH1 : (X ++ [some (⟨59, 1, nats .u32 (List.replicate (m + 1) 0)⟩ : Row)]).set X.length (some ⟨59, 1, nats .u32 W0⟩) = H1
  have hru : Qbz H1 X.length = some ⟨59, 1, nats .u32 W0⟩ := by rw [← hH1]; exact Qez (QQz _ _)
  have hH1l : H1.length = X.length + 1 := by rw [← hH1]; simp
  have eq1 : (((dg B32 (lv B32 a)).length : Int) - ((dg B32 V).length : Int) + 1) = ((m - (k + 2) + 1 : Nat) : Int) := by omega
  (refine Zo ?_;repeat' ((with_reducible first|refine Zk ?_|(first|apply Za|apply Zb|apply Zc|apply Zd)<;>intro h)<;>try simp -implicitDefEqProofs (maxSteps:=9^7) (disch:=first|omega|(simp only [lens];omega)) only [go_sem, hlen, eq1]))
  refine Y1z rfl rfl rfl rfl (by simp [t59bytes]) (by omega) ?_
  (refine Zo ?_;repeat' ((with_reducible first|refine Zk ?_|(first|apply Za|apply Zb|apply Zc|apply Zd)<;>intro h)<;>try simp -implicitDefEqProofs (maxSteps:=9^7) (disch:=first|omega|(simp only [lens];omega)) only [go_sem]))
  rw [← hm] at hfst
  refine Qcz (fun n ts H => ∃ (j : Nat) (W Q : List Nat), (j ≤ m - (k + 2) + 1) ∧ (W.length = m + 1) ∧ (Lim W) ∧ (Q.length = m - (k + 2) + 1) ∧ (Lim Q) ∧ (lv B32 (Q.drop j) * (B32 ^ j * V) + lv B32 W = A) ∧ (lv B32 (W.drop j) < V) ∧ (n = j) ∧ (Qbz H X.length = some ⟨59, 1, nats .u32 W⟩) ∧ (Qbz H (X.length + 1) = some ⟨59, 1, nats .u32 Q⟩) ∧ ts.length = 113 ∧ nth ts 10 = .int .i64 (s : Nat) ∧ nth ts 11 = natV V ∧ nth ts 12 = .ref X.length 0 (m + 1) ∧ nth ts 13 = .ref (X.length + 1) 0 (m - (k + 2) + 1) ∧ nth ts 14 = .int .i64 ((j : Int) - 1)) ?_ (n := m - (k + 2) + 1) ?_
  ·skip
   rintro n ts H ⟨j, W, Q, hj, hWl, hWL, hQl, hQL, hinv, hlt, hn, hru, hrq, hL, hs10, hs11, hs12, hs13, hs14⟩
   refine Qqz [(10, .int .i64 (s : Nat)), (11, natV V), (12, .ref X.length 0 (m + 1)), (13, .ref (X.length + 1) 0 (m - (k + 2) + 1)), (14, .int .i64 ((j : Int) - 1))] hL (by simp only [zFm, hs10, hs11, hs12, hs13, hs14, true_and]; exact zNm) ?_
   clear hL hs10 hs11 hs12 hs13 hs14 ts
   refine Qsz Qfz ?_
   by_cases hcase : 0 < j
   ·obtain ⟨i, rfl⟩ : ∃ i, j = i + 1 := ⟨j - 1, by omega⟩
    have e1 : (((i + 1 : Nat) : Int) - 1) = (i : Int) := by omega
    have e2 : ((i : Int) + ((dg B32 V).length : Int) + 1) = ((i + (k + 3) : Nat) : Int) := by omega
    (refine Zo ?_;repeat' ((with_reducible first|refine Zk ?_|(first|apply Za|apply Zb|apply Zc|apply Zd)<;>intro h)<;>try simp -implicitDefEqProofs (maxSteps:=9^7) (disch:=first|omega|(simp only [lens];omega)) only [go_sem, e1, e2]))
    refine slcb_ref hru (by simp [t59ok]) (by simp [t59size]) (by omega) (by omega) ?_
    rw [Nat.zero_add, show i + (k + 3) - i = k + 2 + 1 by omega]
    (refine Zo ?_;repeat' ((with_reducible first|refine Zk ?_|(first|apply Za|apply Zb|apply Zc|apply Zd)<;>intro h)<;>try simp -implicitDefEqProofs (maxSteps:=9^7) (disch:=first|omega|(simp only [lens];omega)) only [go_sem]))
    obtain ⟨u1, u2, u3⟩ := dm_U (b := B32) (by decide) hWL (Nat.le_of_lt n1) (show i + (k + 2 + 1) ≤ W.length by omega) hlt
    have hpl : ((W.drop i).take (k + 2 + 1)).length = k + 2 + 1 := by rw [List.length_take, List.length_drop]; omega
    have hpL : Lim ((W.drop i).take (k + 2 + 1)) := fun x hx => hWL x (List.mem_of_mem_drop (List.mem_of_mem_take hx))
    have hgs := Qraz ((W.drop i).take (k + 2 + 1)) (dg B32 V) k hVl hpl (by omega) hpL (Xlz V) hVg (by rw [← u2, Q1z]; exact u1)
    have hbor : BorL H [.ref X.length i (k + 2 + 1), natV V] [NA ((W.drop i).take (k + 2 + 1)), natV V] := by
     refine ⟨?_, .self (Yrz _), trivial⟩
     rw [NA, hpl]
     refine .ref X.length i _ _ _ hru (by simp [QDz]; omega) fun q hq => ?_
     have hq' : q < k + 2 + 1 := by rwa [QDz, hpl] at hq
     have : nth (nats .u32 W) (i + q) = nth (nats .u32 ((W.drop i).take (k + 2 + 1))) q := by
      rw [Qcqz _ _ (by omega), Qcqz _ _ (by omega)]
      simp [List.getD, List.getElem?_take, hq']
     rw [this]
     exact .self (Q4z (Qkz _ _) q)
    refine hgs.borrow hbor.all.1 hbor.all.2 (by rintro v H' ⟨rfl, g, rfl, _⟩; exact ⟨rfl, fun r row hr => by simp at hr⟩) ?_
    rintro v H' ⟨rfl, g, rfl, g1, g2, g3⟩
    simp only [ren, renH, List.map_nil, List.append_nil]
    rw [Q1z, ← u2] at g1 g2
    (refine Zo ?_;repeat' ((with_reducible first|refine Zk ?_|(first|apply Za|apply Zb|apply Zc|apply Zd)<;>intro h)<;>try simp -implicitDefEqProofs (maxSteps:=9^7) (disch:=first|omega|(simp only [lens];omega)) only [go_sem]))
    have htk := take_spec (q := g) (v := dg B32 V) hru (j := i) (by omega) (by omega) hWL (Xlz V) g3
    rw [hVl, Q1z, ← u2] at htk
    refine htk.mono ?_
    rintro r H' ⟨W', b', rfl, rfl, hb', t1, t2, t3, t4, t5⟩
    have hru' : Qbz (H.set X.length (some (⟨59, 1, nats .u32 W'⟩ : Row))) X.length = some ⟨59, 1, nats .u32 W'⟩ := Qez hru
    have hrq' : ∀ z, Qbz (H.set X.length z) (X.length + 1) = some ⟨59, 1, nats .u32 Q⟩ := fun z => by rw [Qdz _ (by omega)]; exact hrq
    have hset : ∀ (z z' : Option Row), (H.set X.length z).set X.length z' = H.set X.length z' := fun z z' => List.set_set ..
    have hUM : lv B32 (W.drop i) / V < B32 := Nat.div_lt_of_lt_mul (by rw [Nat.mul_comm]; exact u1)
    have hp1 : ∀ W'' : List Nat, Lim W'' → W''.length = W.length → lv B32 ((W''.drop i).take (k + 2 + 1)) < B32 ^ (k + 2 + 1) := fun W'' h1 h2 => by
     have := X5z (l := W''.drop i) (b := B32) (fun x hx => h1 x (List.mem_of_mem_drop hx)) (k + 2 + 1) (by rw [List.length_drop]; omega)
     exact this
    have hVM : V ≤ B32 ^ (k + 2 + 1) := Nat.le_trans (Nat.le_of_lt n1) (Nat.pow_le_pow_right (by decide) (by omega))
    have hset2 : ∀ W'' : List Nat, Lim W'' → W''.length = W.length → W''.take i = W.take i → W''.drop (i + (k + 2 + 1)) = W.drop (i + (k + 2 + 1)) → lv B32 ((W''.drop i).take (k + 2 + 1)) = lv B32 (W.drop i) % V →
      lv B32 ((Q.set i (lv B32 (W.drop i) / V)).drop i) * (B32 ^ i * V) + lv B32 W'' = A ∧ lv B32 (W''.drop i) < V := fun W'' h1 h2 h3 h4 h5 =>
     dm_step (b := B32) (by decide) hWL (Nat.le_of_lt n1) hV0 (by omega) hlt h2 h3 h4 h5 (by omega) hinv
    have fin : ∀ W'' : List Nat, Lim W'' → W''.length = W.length → W''.take i = W.take i → W''.drop (i + (k + 2 + 1)) = W.drop (i + (k + 2 + 1)) → lv B32 ((W''.drop i).take (k + 2 + 1)) = lv B32 (W.drop i) % V → ∀ P : Prop,
      (∀ (Q' : List Nat) (H'' : Heap), Q' = Q.set i (lv B32 (W.drop i) / V) → H'' = (H.set X.length (some (⟨59, 1, nats .u32 W''⟩ : Row))).set (X.length + 1) (some ⟨59, 1, nats .u32 Q'⟩) → W''.length = m + 1 → Q'.length = m - (k + 2) + 1 → Lim Q' → lv B32 (Q'.drop i) * (B32 ^ i * V) + lv B32 W'' = A → lv B32 (W''.drop i) < V →
       Qbz H'' X.length = some ⟨59, 1, nats .u32 W''⟩ → Qbz H'' (X.length + 1) = some ⟨59, 1, nats .u32 Q'⟩ → P) → P := fun W'' h1 h2 h3 h4 h5 P hP => by
     obtain ⟨f1, f2⟩ := hset2 W'' h1 h2 h3 h4 h5
     refine hP _ _ rfl rfl (by omega) (by rw [List.length_set]; exact hQl) (Lim.set hQL _ hUM) f1 f2 ?_ ?_
     ·rw [Qdz _ (by omega)]; exact Qez hru
     ·exact Qez (hrq' _)
    have gl : g < 4294967296 := g3
    have hwl : ∀ x : Nat, x < 4294967296 → IntKind.wrap .u32 (x : Int) = ((x : Nat) : Int) := fun x hx => by rw [Qgsz, Nat.mod_eq_of_lt hx]
    obtain rfl | rfl : b' = 0 ∨ b' = 1 := by omega
    ·rw [Nat.mul_zero, Nat.add_zero] at t5
     obtain ⟨d1, d2⟩ := dm_q0 hV0 g1 t5
     have hb0 : ((0 : Nat) == 1) = false := rfl
     refine fin W' t2 (by omega) t3 t4 d2 _ fun Q' H'' hQ' hH'' k1 k2 k3 k4 k5 k6 k7 => ?_
     rw [← d1] at hQ'
     have hw := hwl g gl
     (refine Zo ?_;repeat' ((with_reducible first|refine Zk ?_|(first|apply Za|apply Zb|apply Zc|apply Zd)<;>intro h)<;>try simp -implicitDefEqProofs (maxSteps:=9^7) (disch:=first|omega|(simp only [lens];omega)) only [go_sem, hb0, hrq', hw, Xmz]))
     subst hQ' hH''
     exact ⟨i, by omega, i, W', Q.set i g, (by (repeat' apply And.intro) <;> (first | rfl | omega | (congr 1; omega) | assumption | (congr 1; assumption)))⟩
    ·rw [Nat.mul_one] at t5
     have hb0 : ((1 : Nat) == 1) = true := rfl
     have hg1 : 1 ≤ g := by
      refine Nat.pos_of_ne_zero fun h => ?_
      rw [h, Nat.zero_mul, Nat.add_zero] at t5
      have := hp1 W' t2 (by omega)
      omega
     have e4 : ((g : Int) - 1) = ((g - 1 : Nat) : Int) := by omega
     (refine Zo ?_;repeat' ((with_reducible first|refine Zk ?_|(first|apply Za|apply Zb|apply Zc|apply Zd)<;>intro h)<;>try simp -implicitDefEqProofs (maxSteps:=9^7) (disch:=first|omega|(simp only [lens];omega)) only [go_sem, hb0, e4]))
     have hbk := back_spec (v := dg B32 V) hru' (j := i) (by omega) (by omega) t2 (Xlz V)
     rw [hVl, Q1z] at hbk
     refine hbk.mono ?_
     rintro r2 H2 ⟨W2, c2, rfl, s1, s2, s3, s4, s5⟩
     obtain ⟨d1, d2⟩ := dm_q1 hV0 hVM g1 g2 t5 (hp1 W' t2 (by omega)) s5 (hp1 W2 s2 (by omega))
     refine fin W2 s2 (by omega) (by rw [s3, t3]) (by rw [s4]; exact t4) d2 _ fun Q' H'' hQ' hH'' k1 k2 k3 k4 k5 k6 k7 => ?_
     have d3 : lv B32 (W.drop i) / V = g - 1 := by omega
     rw [d3] at hQ'
     have hw := hwl (g - 1) (by omega)
     (refine Zo ?_;repeat' ((with_reducible first|refine Zk ?_|(first|apply Za|apply Zb|apply Zc|apply Zd)<;>intro h)<;>try simp -implicitDefEqProofs (maxSteps:=9^7) (disch:=first|omega|(simp only [lens];omega)) only [go_sem, hset, hrq', e4, hw, Xmz]))
     subst hQ' hH''
     exact ⟨i, by omega, i, W2, Q.set i (g - 1), (by (repeat' apply And.intro) <;> (first | rfl | omega | (congr 1; omega) | assumption | (congr 1; assumption)))⟩
   ·obtain rfl : j = 0 := by omega
    simp only [List.drop_zero, Nat.pow_zero, Nat.one_mul] at hinv hlt
    rw [hAA] at hinv
    obtain ⟨f1, f2⟩ := dm_end hV (Nat.two_pow_pos s) h0 hinv hlt
    (refine Zo ?_;repeat' ((with_reducible first|refine Zk ?_|(first|apply Za|apply Zb|apply Zc|apply Zd)<;>intro h)<;>try simp -implicitDefEqProofs (maxSteps:=9^7) (disch:=first|omega|(simp only [lens];omega)) only [go_sem]))
    refine Fc.isN (Qapz Q (by omega) hQL) (by rw [← hQl]; exact Qnez hrq (Qkz _ _)) fun vq Y hvq => ?_
    (refine Zo ?_;repeat' ((with_reducible first|refine Zk ?_|(first|apply Za|apply Zb|apply Zc|apply Zd)<;>intro h)<;>try simp -implicitDefEqProofs (maxSteps:=9^7) (disch:=first|omega|(simp only [lens];omega)) only [go_sem]))
    refine (Qclz W (by omega) hWL).call (by rw [← hWl]; exact Qnez (Qgz hru _) (Qkz _ _)) (Yrz _) ?_
    (refine Zo ?_;repeat' ((with_reducible first|refine Zk ?_|(first|apply Za|apply Zb|apply Zc|apply Zd)<;>intro h)<;>try simp -implicitDefEqProofs (maxSteps:=9^7) (disch:=first|omega|(simp only [lens];omega)) only [go_sem]))
    have hwle : (dg B32 (lv B32 W)).length ≤ m + 1 := hWl ▸ YMz hWL
    refine Fc.isN (Shr_spec (dg B32 (lv B32 W)) s (by omega) (Xlz _) (by omega)) ⟨.self (QSz _), .self rfl, trivial⟩ fun vr Z hvr => ?_
    rw [Q1z, f2] at hvr
    rw [f1] at hvq
    (refine Zo ?_;repeat' ((with_reducible first|refine Zk ?_|(first|apply Za|apply Zb|apply Zc|apply Zd)<;>intro h)<;>try simp -implicitDefEqProofs (maxSteps:=9^7) (disch:=first|omega|(simp only [lens];omega)) only [go_sem]))
    exact Gd.ret (Gd.tupL ⟨(hvq.gd).more (by rw [← List.append_assoc]; exact Keep.app _ _), by rw [List.append_assoc] at hvr; exact hvr.gd, .leaf _ rfl rfl, trivial⟩)
  ·refine ⟨m - (k + 2) + 1, W0, List.replicate (m - (k + 2) + 1) 0, Nat.le_refl _, w1, w2, by simp, fun x hx => by rw [(List.mem_replicate.1 hx).2]; decide, ?_, ?_, rfl, ?_, ?_, rfl, rfl, rfl, rfl, rfl, rfl⟩
   ·rw [List.drop_eq_nil_of_le (by simp)]; simp [lv, w3]
   ·rw [Qmkz (b := B32) (by decide) w2, w3]; exact hfst
   ·simp [Qbz]
   ·simp [Qbz, List.replicate_succ]
end Go.Proofs.YtjdbdmhjakfldaaGreat
end
section
namespace Go.Proofs.YtjdbdmhjakfldaaGreat
open Go.Bv
theorem dg32_pos {x : Nat} (h : 0 < x) : 0 < (dg B32 x).length := by rw [ZAz (by decide) h]; simp
theorem Qkdz {x y : Nat} (h : x ≤ y) : (dg B32 x).length ≤ (dg B32 y).length := QKz (by decide) _ _ (Nat.lt_of_le_of_lt h (XGz (by decide) y))
theorem Qorz (x y : Nat) : Nat.gcd y (x % y) = Nat.gcd x y := by rw [Nat.gcd_comm x y, Nat.gcd_rec y x, Nat.gcd_comm]
theorem Qrjz (x y : Nat) (hx : (dg B32 x).length ≤ 1099511627776) (hy : (dg B32 y).length ≤ 1099511627776) (h0 : 0 < y) : Val C 158 [natV x, natV y] (.tup [natV (x / y), natV (x % y), .int .i64 0]) := by
 have h := Qfaz (dg B32 x) (dg B32 y) hx hy (Xlz _) (Xlz _) (by rw [Q1z]; exact h0)
 rw [Q1z, Q1z] at h
 exact h
theorem gcd_spec (a b : List Nat) (ha : a.length ≤ 1000000000000) (hb : b.length ≤ 1000000000000) (hA : Lim a) (hB : Lim b) : Pu C 129 [NA a, NA b] (natV (Nat.gcd (lv B32 a) (lv B32 b))) := by
 have la := YMz hA
 have lb := YMz hB
 refine Fc.keep (Fc.bodyT Qfz Tryz.func129 w129 rfl Tryz.ntmps129 Tryz.results129 (zLe rfl) ?_)
 (refine Zo ?_;repeat' ((with_reducible first|refine Zk ?_|(first|apply Za|apply Zb|apply Zc|apply Zd)<;>intro h)<;>try simp -implicitDefEqProofs (maxSteps:=9^7) (disch:=first|omega|(simp only [lens];omega)) only [go_sem]))
 refine (Qclz a (by omega) hA).call ⟨.self (QSz _), trivial⟩ (Yrz _) ?_
 (refine Zo ?_;repeat' ((with_reducible first|refine Zk ?_|(first|apply Za|apply Zb|apply Zc|apply Zd)<;>intro h)<;>try simp -implicitDefEqProofs (maxSteps:=9^7) (disch:=first|omega|(simp only [lens];omega)) only [go_sem]))
 refine (Qclz b (by omega) hB).call ⟨.self (QSz _), trivial⟩ (Yrz _) ?_
 (refine Zo ?_;repeat' ((with_reducible first|refine Zk ?_|(first|apply Za|apply Zb|apply Zc|apply Zd)<;>intro h)<;>try simp -implicitDefEqProofs (maxSteps:=9^7) (disch:=first|omega|(simp only [lens];omega)) only [go_sem]))
 refine Qcz (fun n ts H => ∃ (x : Nat) (y : Nat), (Nat.gcd x y = Nat.gcd (lv B32 a) (lv B32 b)) ∧ ((dg B32 x).length ≤ 1000000000000) ∧ ((dg B32 y).length ≤ 1000000000000) ∧ (H = []) ∧ (n = y) ∧ ts.length = 25 ∧ nth ts 0 = natV x ∧ nth ts 1 = natV y) ?_ (n := lv B32 b) ?_
 ·skip
  rintro n ts H ⟨x, y, hg, hx, hy, hH, hn, hL, hs0, hs1⟩
  refine Qqz [(0, natV x), (1, natV y)] hL (by simp only [zFm, hs0, hs1, true_and]; exact zNm) ?_
  clear hL hs0 hs1 ts
  refine Qsz Qfz ?_
  subst hH
  by_cases hcase : 0 < y
  ·have hp := dg32_pos hcase
   have hlt := Nat.mod_lt x hcase
   have hm := Qkdz (Nat.le_of_lt hlt)
   have hg' := Qorz x y
   (refine Zo ?_;repeat' ((with_reducible first|refine Zk ?_|(first|apply Za|apply Zb|apply Zc|apply Zd)<;>intro h)<;>try simp -implicitDefEqProofs (maxSteps:=9^7) (disch:=first|omega|(simp only [lens];omega)) only [go_sem]))
   refine (Qrjz x y (by omega) (by omega) hcase).call ⟨.self (QSz _), .self (QSz _), trivial⟩ (by simp [clo, cloL, Yrz]) ?_
   rw [hg] at hg'
   generalize x % y = z at *
   (refine Zo ?_;repeat' ((with_reducible first|refine Zk ?_|(first|apply Za|apply Zb|apply Zc|apply Zd)<;>intro h)<;>try simp -implicitDefEqProofs (maxSteps:=9^7) (disch:=first|omega|(simp only [lens];omega)) only [go_sem]))
   exact ⟨z, by omega, y, z, (by (repeat' apply And.intro) <;> (first | rfl | omega | (congr 1; omega) | assumption | (congr 1; assumption)))⟩
  ·obtain rfl : y = 0 := by omega
   have h00 : (dg B32 0).length = 0 := by rw [QJz]; rfl
   (refine Zo ?_;repeat' ((with_reducible first|refine Zk ?_|(first|apply Za|apply Zb|apply Zc|apply Zd)<;>intro h)<;>try simp -implicitDefEqProofs (maxSteps:=9^7) (disch:=first|omega|(simp only [lens];omega)) only [go_sem]))
   rw [Nat.gcd_zero_right] at hg
   refine Qmz (fun g => ren_NA g _) ?_
   rw [← hg]; rfl
 ·exact ⟨lv B32 a, lv B32 b, rfl, by omega, by omega, rfl, rfl, rfl, rfl, rfl⟩
theorem one_val : Val C 96 [] (natV 1) := by
 refine Fc.keep (Fc.bodyT Qfz Tryz.func96 w96 rfl Tryz.ntmps96 Tryz.results96 (zLe rfl) ?_)
 (refine Zo ?_;repeat' ((with_reducible first|refine Zk ?_|(first|apply Za|apply Zb|apply Zc|apply Zd)<;>intro h)<;>try simp -implicitDefEqProofs (maxSteps:=9^7) (disch:=first|omega|(simp only [lens];omega)) only [go_sem]))
 refine Fc.isN (Qibz 1 (by decide)) ⟨.self rfl, trivial⟩ fun v X hv => ?_
 (refine Zo ?_;repeat' ((with_reducible first|refine Zk ?_|(first|apply Za|apply Zb|apply Zc|apply Zd)<;>intro h)<;>try simp -implicitDefEqProofs (maxSteps:=9^7) (disch:=first|omega|(simp only [lens];omega)) only [go_sem]))
 exact Gd.ret hv.gd
theorem by_val (a b : List Nat) (ha : a.length ≤ 1099511627776) (hb : b.length ≤ 1099511627776) (hA : Lim a) (hB : Lim b) (h0 : 0 < lv B32 b) : Val C 131 [NA a, NA b] (natV (lv B32 a / lv B32 b)) := by
 refine Fc.keep (Fc.bodyT Qfz Tryz.func131 w131 rfl Tryz.ntmps131 Tryz.results131 (zLe rfl) ?_)
 (refine Zo ?_;repeat' ((with_reducible first|refine Zk ?_|(first|apply Za|apply Zb|apply Zc|apply Zd)<;>intro h)<;>try simp -implicitDefEqProofs (maxSteps:=9^7) (disch:=first|omega|(simp only [lens];omega)) only [go_sem]))
 refine (Qfaz a b ha hb hA hB h0).kept ⟨.self (QSz _), .self (QSz _), trivial⟩ fun v X hv => ?_
 obtain ⟨q, r, e, rfl, hq, _, _⟩ := hv.tup3
 (refine Zo ?_;repeat' ((with_reducible first|refine Zk ?_|(first|apply Za|apply Zb|apply Zc|apply Zd)<;>intro h)<;>try simp -implicitDefEqProofs (maxSteps:=9^7) (disch:=first|omega|(simp only [lens];omega)) only [go_sem]))
 exact Gd.ret hq
end Go.Proofs.YtjdbdmhjakfldaaGreat
end
section
namespace Go.Proofs.YtjdbdmhjakfldaaGreat
open Go.Bv
theorem Qrcz (a b : Nat) (ha : dlen a ≤ 100000000000) (hb : dlen b ≤ 100000000000) : Pu C 119 [DV a, DV b] (DV (Nat.gcd a b)) := by
 refine Fc.keep (Fc.bodyT Qfz Tryz.func119 w119 rfl Tryz.ntmps119 Tryz.results119 (zLe rfl) ?_)
 (refine Zo ?_;repeat' ((with_reducible first|refine Zk ?_|(first|apply Za|apply Zb|apply Zc|apply Zd)<;>intro h)<;>try simp -implicitDefEqProofs (maxSteps:=9^7) (disch:=first|omega|(simp only [lens];omega)) only [go_sem]))
 refine Qcz (fun n ts H => ∃ (x : Nat) (y : Nat), (Nat.gcd x y = Nat.gcd a b) ∧ (dlen x ≤ 100000000000) ∧ (dlen y ≤ 100000000000) ∧ (H = []) ∧ (n = y) ∧ ts.length = 19 ∧ nth ts 0 = DV x ∧ nth ts 1 = DV y) ?_ (n := b) ?_
 ·skip
  rintro n ts H ⟨x, y, hg, hx, hy, hH, hn, hL, hs0, hs1⟩
  refine Qqz [(0, DV x), (1, DV y)] hL (by simp only [zFm, hs0, hs1, true_and]; exact zNm) ?_
  clear hL hs0 hs1 ts
  refine Qsz Qfz ?_
  subst hH
  have ly : (dg D10 y).length = dlen y := rfl
  by_cases hcase : 0 < y
  ·have hp : dlen y ≠ 0 := fun h => by have := dlen_zero.1 h; omega
   have hlt := Nat.mod_lt x hcase
   have hm := Xfz (Nat.le_of_lt hlt)
   have hg' := Qorz x y
   (refine Zo ?_;repeat' ((with_reducible first|refine Zk ?_|(first|apply Za|apply Zb|apply Zc|apply Zd)<;>intro h)<;>try simp -implicitDefEqProofs (maxSteps:=9^7) (disch:=first|omega|(simp only [lens];omega)) only [go_sem]))
   refine (Y7z x y hx hy hcase).call ⟨.self (QIz _), .self (QIz _), trivial⟩ (by simp [clo, cloL, QIz]) ?_
   rw [hg] at hg'
   generalize x % y = z at *
   (refine Zo ?_;repeat' ((with_reducible first|refine Zk ?_|(first|apply Za|apply Zb|apply Zc|apply Zd)<;>intro h)<;>try simp -implicitDefEqProofs (maxSteps:=9^7) (disch:=first|omega|(simp only [lens];omega)) only [go_sem]))
   exact ⟨z, by omega, y, z, (by (repeat' apply And.intro) <;> (first | rfl | omega | (congr 1; omega) | assumption | (congr 1; assumption)))⟩
  ·obtain rfl : y = 0 := by omega
   have hz := dlen_zero.2 (rfl : (0 : Nat) = 0)
   have hz2 : (dg D10 0).length = dlen 0 := rfl
   (refine Zo ?_;repeat' ((with_reducible first|refine Zk ?_|(first|apply Za|apply Zb|apply Zc|apply Zd)<;>intro h)<;>try simp -implicitDefEqProofs (maxSteps:=9^7) (disch:=first|omega|(simp only [lens];omega)) only [go_sem]))
   rw [Nat.gcd_zero_right] at hg
   refine Qmz (fun g => by simp [ren, Xkz]) ?_
   rw [← hg]; rfl
 ·exact ⟨a, b, rfl, ha, hb, rfl, rfl, rfl, rfl, rfl⟩
end Go.Proofs.YtjdbdmhjakfldaaGreat
end
section
namespace Go.Proofs.YtjdbdmhjakfldaaGreat
open Go.Bv
def refV (r : Rq) : V := .agg [.bool r.neg, DV r.num, DV r.den]
def rawV (x : Raw) : V := .agg [.bool x.neg, NA x.num, NA x.den]
def ratV (r : Rq) : V := .agg [.bool r.neg, natV r.num, natV r.den]
attribute [go_sem] refV rawV ratV
theorem Qcxz (r : Rq) : clo (refV r) = true := by simp [refV, clo, cloL, QIz]
theorem X2z (x : Raw) : clo (rawV x) = true := by simp [rawV, clo, cloL, QSz]
theorem Qhrz (r : Rq) : clo (ratV r) = true := X2z (Xoz r)
theorem dg_one (b : Nat) (hb : 1 < b) : dg b 1 = [1] := by
 rw [ZAz hb (by decide), Nat.mod_eq_of_lt hb, Nat.div_eq_of_lt hb, QJz]
theorem Qpcz : DV 1 = .sl 1 [.int .i64 1] := by rw [DV, dg_one _ Qaqz]; rfl
theorem DV_zero : DV 0 = .sl 0 [] := by rw [DV, QJz]; rfl
theorem natV_zero : natV 0 = .sl 0 [] := by rw [natV, QJz]; rfl
theorem gd_dv0 {H : Heap} : Gd H .nil (DV 0) := by rw [DV_zero]; exact .nil _
theorem Qopz {H : Heap} : Gd H .nil (natV 0) := by rw [natV_zero]; exact .nil _
theorem gd_b {H : Heap} (b : Bool) : Gd H (.bool b) (.bool b) := .leaf _ rfl rfl
theorem gd_i {H : Heap} (k : IntKind) (n : Int) : Gd H (.int k n) (.int k n) := .leaf _ rfl rfl
theorem Qntz {k : IntKind} (b : Bool) (l m : List Nat) : ∃ v H, Gd H v (.agg [.bool b, .sl l.length (nats k l), .sl m.length (nats k m)]) ∧ Xwz H :=
 ⟨.agg [.bool b, .ref 0 0 l.length, .ref 1 0 m.length], [some ⟨0, 1, nats k l⟩, some ⟨0, 1, nats k m⟩], Gd.aggL ⟨gd_b b, .flat 0 _ 0 1 _ rfl (Qkz _ _) (QCz _ _), .flat 1 _ 0 1 _ rfl (Qkz _ _) (QCz _ _), trivial⟩, fun r row hr => by
  match r, hr with
  | 0, hr => simp at hr; subst hr; exact QCz _ _
  | 1, hr => simp at hr; subst hr; exact QCz _ _
  | r + 2, hr => simp at hr⟩
theorem Qirz (r : Rq) : ∃ v H, Gd H v (refV r) ∧ Xwz H := Qntz (k := .i64) r.neg (dg D10 r.num) (dg D10 r.den)
theorem rawV_some (x : Raw) : ∃ v H, Gd H v (rawV x) ∧ Xwz H := Qntz (k := .u32) x.neg x.num x.den
theorem Qisz (r : Rq) : ∃ v H, Gd H v (ratV r) ∧ Xwz H := rawV_some (Xoz r)
theorem NA_some (l : List Nat) : ∃ v H, Gd H v (NA l) ∧ Xwz H := Gd.some_sl (Qkz _ _) (QCz _ _)
theorem Q9z {H : Heap} {v : V} {n : Nat} {cs : List V} (h : Gd H v (.sl n cs)) : kn v = true ∧ cellsOf v = [v] ∧ scal v = true := by
 generalize hu : V.sl n cs = u at h
 cases h with
 | leaf v hc hp => subst hu; exact ⟨rfl, rfl, rfl⟩
 | nil cs => exact ⟨rfl, rfl, rfl⟩
 | ref r n row cs hr hp hl h => exact ⟨rfl, rfl, rfl⟩
 | agg l m hl h => cases hu
 | tup l m hl h => cases hu
theorem Qmjz (s : Bool) (p q : Nat) (hp : dlen p ≤ 30000000000) (hq : dlen q ≤ 30000000000) : Val C 101 [.bool s, DV p, DV q] (refV (Zfz s p q)) := by
 have lp : (dg D10 p).length = dlen p := rfl
 have lq : (dg D10 q).length = dlen q := rfl
 have hp0 : p = 0 ↔ dlen p = 0 := dlen_zero.symm
 have hq0 : q = 0 ↔ dlen q = 0 := dlen_zero.symm
 refine Fc.keep (Fc.bodyT Qfz Tryz.func101 w101 rfl Tryz.ntmps101 Tryz.results101 (zLe rfl) ?_)
 (refine Zo ?_;repeat' ((with_reducible first|refine Zk ?_|(first|apply Za|apply Zb|apply Zc|apply Zd)<;>intro h)<;>try simp -implicitDefEqProofs (maxSteps:=9^7) (disch:=first|omega|(simp only [lens];omega)) only [go_sem]))
 ·rw [X4z (.inl (by omega))]
  refine Gd.ret (Gd.aggL ⟨gd_b _, gd_dv0, ?_, trivial⟩)
  rw [Qpcz]
  exact .flat _ _ _ _ _ rfl rfl rfl
 ·rw [X4z (.inr (by omega))]
  refine Gd.ret (Gd.aggL ⟨gd_b _, gd_dv0, ?_, trivial⟩)
  rw [Qpcz]
  exact .flat _ _ _ _ _ rfl rfl rfl
 ·have hpq : ¬ (p = 0 ∨ q = 0) := by omega
  have hg := Qhnz hpq
  rw [Qjlz hpq]
  refine Fc.pure (Qrcz p q (by omega) (by omega)) (by simp [cloL, clo, Qkz]) (fun g => by simp [DV, DA, ren, Xkz]) ?_
  have hgl : dlen (Nat.gcd p q) ≤ dlen p := Xfz (Nat.gcd_le_left _ (by omega))
  generalize Nat.gcd p q = g at *
  (refine Zo ?_;repeat' ((with_reducible first|refine Zk ?_|(first|apply Za|apply Zb|apply Zc|apply Zd)<;>intro h)<;>try simp -implicitDefEqProofs (maxSteps:=9^7) (disch:=first|omega|(simp only [lens];omega)) only [go_sem]))
  refine (Y7z p g (by omega) (by omega) hg).keptF ⟨.self (QIz _), .self (QIz _), trivial⟩ fun v X hv => ?_
  obtain ⟨v1, v2, rfl, hv1, hv2⟩ := hv.tup2
  (refine Zo ?_;repeat' ((with_reducible first|refine Zk ?_|(first|apply Za|apply Zb|apply Zc|apply Zd)<;>intro h)<;>try simp -implicitDefEqProofs (maxSteps:=9^7) (disch:=first|omega|(simp only [lens];omega)) only [go_sem]))
  refine (Y7z q g (by omega) (by omega) hg).keptF ⟨.self (QIz _), .self (QIz _), trivial⟩ fun w Y hw => ?_
  obtain ⟨w1, w2, rfl, hw1, hw2⟩ := hw.tup2
  obtain ⟨k1, c1, s1⟩ := Q9z hv1.gd
  obtain ⟨k2, c2, s2⟩ := Q9z hw1.gd
  (refine Zo ?_;repeat' ((with_reducible first|refine Zk ?_|(first|apply Za|apply Zb|apply Zc|apply Zd)<;>intro h)<;>try simp -implicitDefEqProofs (maxSteps:=9^7) (disch:=first|omega|(simp only [lens];omega)) only [go_sem, k1, c1, s1, k2, c2, s2]))
  exact Gd.ret (Gd.aggL ⟨gd_b _, ((hv1.app Y).set (q := 0) (by decide) _).gd, (hw1.set (q := 0) (by simp) _).gd, trivial⟩)
theorem Qdvz (x : Raw) (h : RawOK x) : Val C 76 [rawV x] (refV (valQ x)) := by
 have h1 := h.n1
 have h2 := h.d1
 refine Fc.keep (Fc.bodyT Qfz Tryz.func76 w76 rfl Tryz.ntmps76 Tryz.results76 (zLe rfl) ?_)
 (refine Zo ?_;repeat' ((with_reducible first|refine Zk ?_|(first|apply Za|apply Zb|apply Zc|apply Zd)<;>intro h)<;>try simp -implicitDefEqProofs (maxSteps:=9^7) (disch:=first|omega|(simp only [lens];omega)) only [go_sem]))
 refine (Qduz x.num (by omega) h.nL).pc ⟨.self (QSz _), trivial⟩ (QIz _) ?_
 (refine Zo ?_;repeat' ((with_reducible first|refine Zk ?_|(first|apply Za|apply Zb|apply Zc|apply Zd)<;>intro h)<;>try simp -implicitDefEqProofs (maxSteps:=9^7) (disch:=first|omega|(simp only [lens];omega)) only [go_sem]))
 refine (Qduz x.den (by omega) h.dL).pc ⟨.self (QSz _), trivial⟩ (QIz _) ?_
 (refine Zo ?_;repeat' ((with_reducible first|refine Zk ?_|(first|apply Za|apply Zb|apply Zc|apply Zd)<;>intro h)<;>try simp -implicitDefEqProofs (maxSteps:=9^7) (disch:=first|omega|(simp only [lens];omega)) only [go_sem]))
 refine Pc.keptF (Qmjz x.neg (lv B32 x.num) (lv B32 x.den) h.p h.q) (Qirz _) ⟨.self rfl, .self (QIz _), .self (QIz _), trivial⟩ fun v X hv => ?_
 obtain ⟨v1, v2, v3, rfl, hv1, hv2, hv3⟩ := hv.agg3
 obtain ⟨k2, c2, s2⟩ := Q9z hv2.gd
 obtain ⟨k3, c3, s3⟩ := Q9z hv3.gd
 have e1 := hv1.gd.bool_inv
 subst e1
 (refine Zo ?_;repeat' ((with_reducible first|refine Zk ?_|(first|apply Za|apply Zb|apply Zc|apply Zd)<;>intro h)<;>try simp -implicitDefEqProofs (maxSteps:=9^7) (disch:=first|omega|(simp only [lens];omega)) only [go_sem, k2, c2, s2, k3, c3, s3]))
 exact Gd.ret (Gd.aggL ⟨gd_b _, (hv2.set (q := 1) (by simp) _).gd, (hv3.set (q := 1) (by simp) _).gd, trivial⟩)
theorem Qniz (r : Rq) (h : RqOK r) : Val C 109 [refV r] (ratV r) := by
 have h1 := h.n1
 have h2 := h.d1
 refine Fc.keep (Fc.bodyT Qfz Tryz.func109 w109 rfl Tryz.ntmps109 Tryz.results109 (zLe rfl) ?_)
 (refine Zo ?_;repeat' ((with_reducible first|refine Zk ?_|(first|apply Za|apply Zb|apply Zc|apply Zd)<;>intro h)<;>try simp -implicitDefEqProofs (maxSteps:=9^7) (disch:=first|omega|(simp only [lens];omega)) only [go_sem]))
 refine Pc.keptF (Qgbz r.num (by omega)) (NA_some _) ⟨.self (QIz _), trivial⟩ fun v X hv => ?_
 obtain ⟨k1, c1, s1⟩ := Q9z hv.gd
 (refine Zo ?_;repeat' ((with_reducible first|refine Zk ?_|(first|apply Za|apply Zb|apply Zc|apply Zd)<;>intro h)<;>try simp -implicitDefEqProofs (maxSteps:=9^7) (disch:=first|omega|(simp only [lens];omega)) only [go_sem, k1, c1, s1]))
 refine Pc.keptF (Qgbz r.den (by omega)) (NA_some _) ⟨.self (QIz _), trivial⟩ fun w Y hw => ?_
 obtain ⟨k2, c2, s2⟩ := Q9z hw.gd
 (refine Zo ?_;repeat' ((with_reducible first|refine Zk ?_|(first|apply Za|apply Zb|apply Zc|apply Zd)<;>intro h)<;>try simp -implicitDefEqProofs (maxSteps:=9^7) (disch:=first|omega|(simp only [lens];omega)) only [go_sem, k1, c1, s1, k2, c2, s2]))
 exact Gd.ret (Gd.aggL ⟨gd_b _, ((hv.app Y).set (q := 1) (by simp) _).gd, (hw.set (q := 1) (by simp) _).gd, trivial⟩)
theorem is03_spec (r : Rq) (x : Raw) (hr : RqOK r) (hx : RawOK x) : Pu C 69 [refV r, rawV x] (.bool (isQ r x)) := by
 have h1 := hx.n1
 have h2 := hx.d1
 have h3 := hr.n1
 have h4 := hr.d1
 refine Fc.keep (Fc.bodyT Qfz Tryz.func69 w69 rfl Tryz.ntmps69 Tryz.results69 (zLe rfl) ?_)
 (refine Zo ?_;repeat' ((with_reducible first|refine Zk ?_|(first|apply Za|apply Zb|apply Zc|apply Zd)<;>intro h)<;>try simp -implicitDefEqProofs (maxSteps:=9^7) (disch:=first|omega|(simp only [lens];omega)) only [go_sem]))
 ·refine Fc.pure (Qjqz r.num x.num (by omega) (by omega) hx.nL) (by simp [cloL, clo, Qkz]) (fun g => rfl) ?_
  (refine Zo ?_;repeat' ((with_reducible first|refine Zk ?_|(first|apply Za|apply Zb|apply Zc|apply Zd)<;>intro h)<;>try simp -implicitDefEqProofs (maxSteps:=9^7) (disch:=first|omega|(simp only [lens];omega)) only [go_sem]))
  ·refine Fc.pure (Qjqz r.den x.den (by omega) (by omega) hx.dL) (by simp [cloL, clo, Qkz]) (fun g => rfl) ?_
   (refine Zo ?_;repeat' ((with_reducible first|refine Zk ?_|(first|apply Za|apply Zb|apply Zc|apply Zd)<;>intro h)<;>try simp -implicitDefEqProofs (maxSteps:=9^7) (disch:=first|omega|(simp only [lens];omega)) only [go_sem]))
   (refine Qmz (by intro g; simp only [go_sem, ren, renL]) ?_)
   simp_all [isQ, B32]; rfl
  ·skip
   (refine Qmz (by intro g; simp only [go_sem, ren, renL]) ?_)
   simp_all [isQ, B32]
 ·skip
  (refine Qmz (by intro g; simp only [go_sem, ren, renL]) ?_)
  simp_all [isQ]
theorem Qqmz (x : Raw) (h : RawOK x) : Pu C 62 [rawV x] (.int .i64 (if okR x then 0 else 6)) := by
 refine Fc.keep (Fc.bodyT Qfz Tryz.func62 w62 rfl Tryz.ntmps62 Tryz.results62 (zLe rfl) ?_)
 (refine Zo ?_;repeat' ((with_reducible first|refine Zk ?_|(first|apply Za|apply Zb|apply Zc|apply Zd)<;>intro h)<;>try simp -implicitDefEqProofs (maxSteps:=9^7) (disch:=first|omega|(simp only [lens];omega)) only [go_sem]))
 refine (Qdvz x h).call ⟨.self (X2z _), trivial⟩ (Qcxz _) ?_
 (refine Zo ?_;repeat' ((with_reducible first|refine Zk ?_|(first|apply Za|apply Zb|apply Zc|apply Zd)<;>intro h)<;>try simp -implicitDefEqProofs (maxSteps:=9^7) (disch:=first|omega|(simp only [lens];omega)) only [go_sem]))
 refine Fc.pure (is03_spec (valQ x) x h.val h) (by simp [cloL, clo, Qkz]) (fun g => rfl) ?_
 have e : isQ (valQ x) x = okR x := rfl
 rw [e]
 (refine Zo ?_;repeat' ((with_reducible first|refine Zk ?_|(first|apply Za|apply Zb|apply Zc|apply Zd)<;>intro h)<;>try simp -implicitDefEqProofs (maxSteps:=9^7) (disch:=first|omega|(simp only [lens];omega)) only [go_sem]))
 ·skip
  (refine Qmz (by intro g; simp only [go_sem, ren, renL]) ?_)
  simp_all
 ·skip
  (refine Qmz (by intro g; simp only [go_sem, ren, renL]) ?_)
  simp_all
theorem Qlmz (n : Int) (h1 : -9223372036854775808 ≤ n) (h2 : n < 9223372036854775808) : Val C 84 [.int .i64 n] (DV n.natAbs) := by
 refine Fc.keep (Fc.bodyT Qfz Tryz.func84 w84 rfl Tryz.ntmps84 Tryz.results84 (zLe rfl) ?_)
 (refine Zo ?_;repeat' ((with_reducible first|refine Zk ?_|(first|apply Za|apply Zb|apply Zc|apply Zd)<;>intro h)<;>try simp -implicitDefEqProofs (maxSteps:=9^7) (disch:=first|omega|(simp only [lens];omega)) only [go_sem]))
 ·have e : 0 - (n + 1) = ((n.natAbs - 1 : Nat) : Int) := by omega
  have hl : dlen (n.natAbs - 1) ≤ 16 := XUz (Nat.lt_of_lt_of_le (show n.natAbs - 1 < 9223372036854775808 by omega) (by decide))
  (refine Zo ?_;repeat' ((with_reducible first|refine Zk ?_|(first|apply Za|apply Zb|apply Zc|apply Zd)<;>intro h)<;>try simp -implicitDefEqProofs (maxSteps:=9^7) (disch:=first|omega|(simp only [lens];omega)) only [go_sem, e]))
  refine (Qatz (n.natAbs - 1) (by omega)).call ⟨.self rfl, trivial⟩ (QIz _) ?_
  (refine Zo ?_;repeat' ((with_reducible first|refine Zk ?_|(first|apply Za|apply Zb|apply Zc|apply Zd)<;>intro h)<;>try simp -implicitDefEqProofs (maxSteps:=9^7) (disch:=first|omega|(simp only [lens];omega)) only [go_sem, e]))
  have h1 : dlen 1 ≤ 1 := Nat.le_of_eq Qhoz
  refine (Qgqz (n.natAbs - 1) 1 (by omega) (by omega)).kept ⟨.self (QIz _), Gd.bor (by rw [Qpcz]; exact .flat _ _ _ _ _ rfl rfl rfl), trivial⟩ fun v X hv => ?_
  (refine Zo ?_;repeat' ((with_reducible first|refine Zk ?_|(first|apply Za|apply Zb|apply Zc|apply Zd)<;>intro h)<;>try simp -implicitDefEqProofs (maxSteps:=9^7) (disch:=first|omega|(simp only [lens];omega)) only [go_sem]))
  rw [show n.natAbs - 1 + 1 = n.natAbs by omega] at hv
  exact Gd.ret hv
 ·have e : n = ((n.natAbs : Nat) : Int) := by omega
  rw [e, Int.natAbs_natCast]
  refine (Qatz n.natAbs (by omega)).kept ⟨.self rfl, trivial⟩ fun v X hv => ?_
  (refine Zo ?_;repeat' ((with_reducible first|refine Zk ?_|(first|apply Za|apply Zb|apply Zc|apply Zd)<;>intro h)<;>try simp -implicitDefEqProofs (maxSteps:=9^7) (disch:=first|omega|(simp only [lens];omega)) only [go_sem]))
  exact Gd.ret hv
theorem Qqwz (n : Int) (h1 : -9223372036854775808 ≤ n) (h2 : n < 9223372036854775808) : Val C 47 [.int .i64 n] (refV (intQ n)) := by
 refine Fc.keep (Fc.bodyT Qfz Tryz.func47 w47 rfl Tryz.ntmps47 Tryz.results47 (zLe rfl) ?_)
 (refine Zo ?_;repeat' ((with_reducible first|refine Zk ?_|(first|apply Za|apply Zb|apply Zc|apply Zd)<;>intro h)<;>try simp -implicitDefEqProofs (maxSteps:=9^7) (disch:=first|omega|(simp only [lens];omega)) only [go_sem]))
 refine (Qlmz n h1 h2).keptF ⟨.self rfl, trivial⟩ fun v X hv => ?_
 obtain ⟨k1, c1, s1⟩ := Q9z hv.gd
 (refine Zo ?_;repeat' ((with_reducible first|refine Zk ?_|(first|apply Za|apply Zb|apply Zc|apply Zd)<;>intro h)<;>try simp -implicitDefEqProofs (maxSteps:=9^7) (disch:=first|omega|(simp only [lens];omega)) only [go_sem, k1, c1, s1]))
 refine Gd.ret (Gd.aggL ⟨gd_b _, ((hv.app _).set (q := 0) (by simp) _).gd, ?_, trivial⟩)
 rw [show (intQ n).den = 1 from rfl, Qpcz]
 exact .flat _ _ _ _ _ (QQz _ _) rfl rfl
theorem Qlqz (x y : Raw) (hx : RawOK x) (hy : RawOK y) : Pu C 38 [rawV x, rawV y] (.bool (Qgwz (valQ x) (valQ y))) := by
 have h1 := hx.val.n1
 have h2 := hx.val.d1
 have h3 := hy.val.n1
 have h4 := hy.val.d1
 have hc : ∀ a b : Nat, cmpN a b = 0 ↔ a = b := fun a b => by unfold cmpN; split <;> (try split) <;> omega
 have hcb : ∀ a b : Nat, (cmpN a b == 0) = decide (a = b) := fun a b => by rw [Bool.eq_iff_iff, beq_iff_eq, decide_eq_true_eq, hc]
 refine Fc.keep (Fc.bodyT Qfz Tryz.func38 w38 rfl Tryz.ntmps38 Tryz.results38 (zLe rfl) ?_)
 (refine Zo ?_;repeat' ((with_reducible first|refine Zk ?_|(first|apply Za|apply Zb|apply Zc|apply Zd)<;>intro h)<;>try simp -implicitDefEqProofs (maxSteps:=9^7) (disch:=first|omega|(simp only [lens];omega)) only [go_sem]))
 refine (Qdvz x hx).pc ⟨.self (X2z _), trivial⟩ (Qcxz _) ?_
 (refine Zo ?_;repeat' ((with_reducible first|refine Zk ?_|(first|apply Za|apply Zb|apply Zc|apply Zd)<;>intro h)<;>try simp -implicitDefEqProofs (maxSteps:=9^7) (disch:=first|omega|(simp only [lens];omega)) only [go_sem]))
 refine (Qdvz y hy).pc ⟨.self (X2z _), trivial⟩ (Qcxz _) ?_
 generalize valQ x = r at *
 generalize valQ y = t at *
 (refine Zo ?_;repeat' ((with_reducible first|refine Zk ?_|(first|apply Za|apply Zb|apply Zc|apply Zd)<;>intro h)<;>try simp -implicitDefEqProofs (maxSteps:=9^7) (disch:=first|omega|(simp only [lens];omega)) only [go_sem]))
 ·refine Fc.pure (YNz r.num t.num (by omega) (by omega)) (by simp [cloL, clo, Qkz]) (fun g => rfl) ?_
  (refine Zo ?_;repeat' ((with_reducible first|refine Zk ?_|(first|apply Za|apply Zb|apply Zc|apply Zd)<;>intro h)<;>try simp -implicitDefEqProofs (maxSteps:=9^7) (disch:=first|omega|(simp only [lens];omega)) only [go_sem]))
  ·refine Fc.pure (YNz r.den t.den (by omega) (by omega)) (by simp [cloL, clo, Qkz]) (fun g => rfl) ?_
   (refine Zo ?_;repeat' ((with_reducible first|refine Zk ?_|(first|apply Za|apply Zb|apply Zc|apply Zd)<;>intro h)<;>try simp -implicitDefEqProofs (maxSteps:=9^7) (disch:=first|omega|(simp only [lens];omega)) only [go_sem]))
   (refine Qmz (by intro g; simp only [go_sem, ren, renL]) ?_)
   simp_all [Qgwz]
  ·skip
   (refine Qmz (by intro g; simp only [go_sem, ren, renL]) ?_)
   simp_all [Qgwz]
 ·skip
  (refine Qmz (by intro g; simp only [go_sem, ren, renL]) ?_)
  simp_all [Qgwz]
end Go.Proofs.YtjdbdmhjakfldaaGreat
end
section
namespace Go.Proofs.YtjdbdmhjakfldaaGreat
open Go.Bv
def Qqoz (s : Bool) (p q : Nat) : Rq × Int := if q = 0 then (⟨false, 0, 0⟩, 17) else (Zfz s p q, 0)
theorem Qjnz (a : List Nat) (g : Nat) (ha : a.length ≤ 1099511627776) (hA : Lim a) (hg : (dg B32 g).length ≤ 1099511627776) (h0 : 0 < g) : Val C 130 [NA a, .rp [natV g] 0] (natV (lv B32 a / g)) := by
 refine Fc.keep (Fc.bodyT Qfz Tryz.func130 w130 rfl Tryz.ntmps130 Tryz.results130 (zLe rfl) ?_)
 (refine Zo ?_;repeat' ((with_reducible first|refine Zk ?_|(first|apply Za|apply Zb|apply Zc|apply Zd)<;>intro h)<;>try simp -implicitDefEqProofs (maxSteps:=9^7) (disch:=first|omega|(simp only [lens];omega)) only [go_sem]))
 have hb := by_val a (dg B32 g) ha hg hA (Xlz _) (by rw [Q1z]; exact h0)
 rw [Q1z] at hb
 refine hb.kept ⟨.self (QSz _), .self (QSz _), trivial⟩ fun v X hv => ?_
 (refine Zo ?_;repeat' ((with_reducible first|refine Zk ?_|(first|apply Za|apply Zb|apply Zc|apply Zd)<;>intro h)<;>try simp -implicitDefEqProofs (maxSteps:=9^7) (disch:=first|omega|(simp only [lens];omega)) only [go_sem]))
 exact Gd.ret hv
theorem Qovz (x : Nat) : (blen x : Int) = 0 ↔ x = 0 := by
 constructor
 ·intro h
  have := Qbnz x
  rw [show blen x = 0 by omega] at this
  simpa using this
 ·rintro rfl; simp [Qeuz]
theorem make_spec (s : Bool) (a b : List Nat) (ha : a.length ≤ 1000000000000) (hb : b.length ≤ 1000000000000) (hA : Lim a) (hB : Lim b) : Val C 110 [.bool s, NA a, NA b] (.tup [ratV (Qqoz s (lv B32 a) (lv B32 b)).1, .int .i64 (Qqoz s (lv B32 a) (lv B32 b)).2]) := by
 have ip := Qovz (lv B32 a)
 have iq := Qovz (lv B32 b)
 have hla := YMz hA
 refine Fc.keep (Fc.bodyT Qfz Tryz.func110 w110 rfl Tryz.ntmps110 Tryz.results110 (zLe rfl) ?_)
 (refine Zo ?_;repeat' ((with_reducible first|refine Zk ?_|(first|apply Za|apply Zb|apply Zc|apply Zd)<;>intro h)<;>try simp -implicitDefEqProofs (maxSteps:=9^7) (disch:=first|omega|(simp only [lens];omega)) only [go_sem]))
 refine Fc.pure (Qliz b (by omega) hB) (by simp [cloL, clo, Qkz]) (fun g => rfl) ?_
 (refine Zo ?_;repeat' ((with_reducible first|refine Zk ?_|(first|apply Za|apply Zb|apply Zc|apply Zd)<;>intro h)<;>try simp -implicitDefEqProofs (maxSteps:=9^7) (disch:=first|omega|(simp only [lens];omega)) only [go_sem]))
 ·rw [Qqoz, if_pos (iq.1 h)]
  refine Gd.ret (Gd.tupL ⟨Gd.aggL ⟨gd_b _, Qopz, Qopz, trivial⟩, gd_i _ _, trivial⟩)
 ·have hq0 : ¬ lv B32 b = 0 := fun hh => h (iq.2 hh)
  refine Fc.pure (Qliz a (by omega) hA) (by simp [cloL, clo, Qkz]) (fun g => rfl) ?_
  rw [Qqoz, if_neg hq0]
  (refine Zo ?_;repeat' ((with_reducible first|refine Zk ?_|(first|apply Za|apply Zb|apply Zc|apply Zd)<;>intro h)<;>try simp -implicitDefEqProofs (maxSteps:=9^7) (disch:=first|omega|(simp only [lens];omega)) only [go_sem]))
  ·rw [X4z (.inl (ip.1 ‹_›))]
   refine one_val.keptF trivial fun v X hv => ?_
   obtain ⟨k1, c1, s1⟩ := Q9z hv.gd
   (refine Zo ?_;repeat' ((with_reducible first|refine Zk ?_|(first|apply Za|apply Zb|apply Zc|apply Zd)<;>intro h)<;>try simp -implicitDefEqProofs (maxSteps:=9^7) (disch:=first|omega|(simp only [lens];omega)) only [go_sem, k1, c1, s1]))
   refine Gd.ret (Gd.tupL ⟨Gd.aggL ⟨gd_b _, Qopz, (hv.set (q := 0) (by simp) _).gd, trivial⟩, gd_i _ _, trivial⟩)
  ·have hp0 : ¬ lv B32 a = 0 := fun hh => ‹¬ (blen (lv B32 a) : Int) = 0› (ip.2 hh)
   have hpq : ¬ (lv B32 a = 0 ∨ lv B32 b = 0) := by omega
   have hg := Qhnz hpq
   rw [Qjlz hpq]
   refine Fc.pure (gcd_spec a b (by omega) (by omega) hA hB) (by simp [cloL, clo, Qkz]) (fun g => by simp [natV, NA, ren, Xkz]) ?_
   have hgl := Qkdz (Nat.gcd_le_left (lv B32 b) (show 0 < lv B32 a by omega))
   generalize Nat.gcd (lv B32 a) (lv B32 b) = g at *
   (refine Zo ?_;repeat' ((with_reducible first|refine Zk ?_|(first|apply Za|apply Zb|apply Zc|apply Zd)<;>intro h)<;>try simp -implicitDefEqProofs (maxSteps:=9^7) (disch:=first|omega|(simp only [lens];omega)) only [go_sem]))
   refine (Qjnz a g (by omega) hA (by omega) hg).keptF (ZWz 5 (by simp [go_sem, borV, clo, cloL, Qbz])) fun v X hv => ?_
   obtain ⟨k1, c1, s1⟩ := Q9z hv.gd
   (refine Zo ?_;repeat' ((with_reducible first|refine Zk ?_|(first|apply Za|apply Zb|apply Zc|apply Zd)<;>intro h)<;>try simp -implicitDefEqProofs (maxSteps:=9^7) (disch:=first|omega|(simp only [lens];omega)) only [go_sem, k1, c1, s1]))
   refine (Qjnz b g (by omega) hB (by omega) hg).keptF (ZWz 5 (by simp [go_sem, borV, clo, cloL, Qbz])) fun w Y hw => ?_
   obtain ⟨k2, c2, s2⟩ := Q9z hw.gd
   (refine Zo ?_;repeat' ((with_reducible first|refine Zk ?_|(first|apply Za|apply Zb|apply Zc|apply Zd)<;>intro h)<;>try simp -implicitDefEqProofs (maxSteps:=9^7) (disch:=first|omega|(simp only [lens];omega)) only [go_sem, k1, c1, s1, k2, c2, s2]))
   exact Gd.ret (Gd.tupL ⟨Gd.aggL ⟨gd_b _, ((hv.app Y).set (q := 0) (by simp) _).gd, (hw.set (q := 0) (by simp) _).gd, trivial⟩, gd_i _ _, trivial⟩)
theorem Qobz (x : Raw) (h : RawOK x) : Val C 91 [rawV x] (ratV (valQ x)) := by
 have h1 := h.n1
 have h2 := h.d1
 have hm := make_spec x.neg x.num x.den (by omega) (by omega) h.nL h.dL
 refine Fc.keep (Fc.bodyT Qfz Tryz.func91 w91 rfl Tryz.ntmps91 Tryz.results91 (zLe rfl) ?_)
 (refine Zo ?_;repeat' ((with_reducible first|refine Zk ?_|(first|apply Za|apply Zb|apply Zc|apply Zd)<;>intro h)<;>try simp -implicitDefEqProofs (maxSteps:=9^7) (disch:=first|omega|(simp only [lens];omega)) only [go_sem]))
 by_cases h0 : lv B32 x.den = 0
 ·rw [Qqoz, if_pos h0] at hm
  refine hm.call ⟨.self rfl, .self (QSz _), .self (QSz _), trivial⟩ (by simp [clo, cloL, Qhrz]) ?_
  (refine Zo ?_;repeat' ((with_reducible first|refine Zk ?_|(first|apply Za|apply Zb|apply Zc|apply Zd)<;>intro h)<;>try simp -implicitDefEqProofs (maxSteps:=9^7) (disch:=first|omega|(simp only [lens];omega)) only [go_sem]))
  refine one_val.keptF trivial fun v X hv => ?_
  obtain ⟨k1, c1, s1⟩ := Q9z hv.gd
  (refine Zo ?_;repeat' ((with_reducible first|refine Zk ?_|(first|apply Za|apply Zb|apply Zc|apply Zd)<;>intro h)<;>try simp -implicitDefEqProofs (maxSteps:=9^7) (disch:=first|omega|(simp only [lens];omega)) only [go_sem, k1, c1, s1]))
  have e : valQ x = ⟨false, 0, 1⟩ := X4z (.inr h0)
  rw [e]
  exact Gd.ret (Gd.aggL ⟨gd_b _, Qopz, (hv.set (q := 1) (by simp) _).gd, trivial⟩)
 ·rw [Qqoz, if_neg h0] at hm
  refine hm.keptF ⟨.self rfl, .self (QSz _), .self (QSz _), trivial⟩ fun v X hv => ?_
  obtain ⟨w, e, rfl, hw, he⟩ := hv.tup2
  obtain ⟨v1, v2, v3, rfl, hv1, hv2, hv3⟩ := hw.agg3
  obtain ⟨k2, c2, s2⟩ := Q9z hv2.gd
  obtain ⟨k3, c3, s3⟩ := Q9z hv3.gd
  rw [hv1.gd.bool_inv, he.gd.int_inv]
  (refine Zo ?_;repeat' ((with_reducible first|refine Zk ?_|(first|apply Za|apply Zb|apply Zc|apply Zd)<;>intro h)<;>try simp -implicitDefEqProofs (maxSteps:=9^7) (disch:=first|omega|(simp only [lens];omega)) only [go_sem, k2, c2, s2, k3, c3, s3]))
  have e : valQ x = Zfz x.neg (lv B32 x.num) (lv B32 x.den) := rfl
  rw [e]
  exact Gd.ret (Gd.aggL ⟨gd_b _, ((hv2.app _).set (q := 1) (by simp) _).gd, ((hv3.app _).set (q := 1) (by simp) _).gd, trivial⟩)
theorem Qbwz (a b : List Nat) (ha : a.length ≤ 1000000000000) (hb : b.length ≤ 1000000000000) (hA : Lim a) (hB : Lim b) : Pu C 103 [NA a, NA b] (.bool (decide (a = b))) := by
 have hc : cmpN (lv B32 a) (lv B32 b) = 0 ↔ lv B32 a = lv B32 b := by unfold cmpN; split <;> (try split) <;> omega
 refine Fc.keep (Fc.bodyT Qfz Tryz.func103 w103 rfl Tryz.ntmps103 Tryz.results103 (zLe rfl) ?_)
 (refine Zo ?_;repeat' ((with_reducible first|refine Zk ?_|(first|apply Za|apply Zb|apply Zc|apply Zd)<;>intro h)<;>try simp -implicitDefEqProofs (maxSteps:=9^7) (disch:=first|omega|(simp only [lens];omega)) only [go_sem]))
 ·refine Fc.pure (Qpdz a b (by omega) (by omega) hA hB) (by simp [cloL, clo, Qkz]) (fun g => rfl) ?_
  (refine Zo ?_;repeat' ((with_reducible first|refine Zk ?_|(first|apply Za|apply Zb|apply Zc|apply Zd)<;>intro h)<;>try simp -implicitDefEqProofs (maxSteps:=9^7) (disch:=first|omega|(simp only [lens];omega)) only [go_sem]))
  (refine Qmz (by intro g; simp only [go_sem, ren, renL]) ?_)
  (simp only [V.tup.injEq, List.cons.injEq, V.int.injEq, V.bool.injEq, true_and, and_true]; (try rw [Bool.eq_iff_iff]); (try simp only [decide_eq_true_eq, decide_eq_false_iff_not, Decidable.not_not, true_and, and_true, Bool.not_eq_true, Bool.not_eq_eq_eq_not, Bool.not_true, Bool.and_eq_true, Bool.or_eq_true, beq_iff_eq, bne_iff_ne, ne_eq, Bool.false_eq_true, false_iff, true_iff, iff_false, iff_true]); (try omega))
  rw [hc]
  exact ⟨fun hh => Qgaz (b := B32) (by decide) hA hB (by omega) hh, fun hh => by rw [hh]⟩
 ·skip
  (refine Qmz (by intro g; simp only [go_sem, ren, renL]) ?_)
  (simp only [V.tup.injEq, List.cons.injEq, V.int.injEq, V.bool.injEq, true_and, and_true]; (try rw [Bool.eq_iff_iff]); (try simp only [decide_eq_true_eq, decide_eq_false_iff_not, Decidable.not_not, true_and, and_true, Bool.not_eq_true, Bool.not_eq_eq_eq_not, Bool.not_true, Bool.and_eq_true, Bool.or_eq_true, beq_iff_eq, bne_iff_ne, ne_eq, Bool.false_eq_true, false_iff, true_iff, iff_false, iff_true]); (try omega))
  intro hh; rw [hh] at h; exact h rfl
theorem may_spec (x : Raw) (hx : RawOK x) : Pu C 79 [rawV x] (.int .i64 (if okR x then 0 else 6)) := by
 have h1 := hx.n1
 have h2 := hx.d1
 have h3 := hx.val.n1
 have h4 := hx.val.d1
 have h5 : (dg B32 (valQ x).num).length ≤ dlen (valQ x).num := Qbcz _
 have h6 : (dg B32 (valQ x).den).length ≤ dlen (valQ x).den := Qbcz _
 have hk : okR x = isQ (valQ x) x := rfl
 refine Fc.keep (Fc.bodyT Qfz Tryz.func79 w79 rfl Tryz.ntmps79 Tryz.results79 (zLe rfl) ?_)
 (refine Zo ?_;repeat' ((with_reducible first|refine Zk ?_|(first|apply Za|apply Zb|apply Zc|apply Zd)<;>intro h)<;>try simp -implicitDefEqProofs (maxSteps:=9^7) (disch:=first|omega|(simp only [lens];omega)) only [go_sem]))
 refine (Qobz x hx).call ⟨.self (X2z _), trivial⟩ (Qhrz _) ?_
 rw [hk]
 generalize valQ x = r at *
 (refine Zo ?_;repeat' ((with_reducible first|refine Zk ?_|(first|apply Za|apply Zb|apply Zc|apply Zd)<;>intro h)<;>try simp -implicitDefEqProofs (maxSteps:=9^7) (disch:=first|omega|(simp only [lens];omega)) only [go_sem]))
 ·have hn : r.neg = x.neg := by simpa using h
  refine Fc.pure (Qbwz (dg B32 r.num) x.num (by omega) (by omega) (Xlz _) hx.nL) (by simp [cloL, clo, Qkz]) (fun g => rfl) ?_
  (refine Zo ?_;repeat' ((with_reducible first|refine Zk ?_|(first|apply Za|apply Zb|apply Zc|apply Zd)<;>intro h)<;>try simp -implicitDefEqProofs (maxSteps:=9^7) (disch:=first|omega|(simp only [lens];omega)) only [go_sem]))
  ·rename_i hm
   refine Fc.pure (Qbwz (dg B32 r.den) x.den (by omega) (by omega) (Xlz _) hx.dL) (by simp [cloL, clo, Qkz]) (fun g => rfl) ?_
   (refine Zo ?_;repeat' ((with_reducible first|refine Zk ?_|(first|apply Za|apply Zb|apply Zc|apply Zd)<;>intro h)<;>try simp -implicitDefEqProofs (maxSteps:=9^7) (disch:=first|omega|(simp only [lens];omega)) only [go_sem]))
   ·skip
    (refine Qmz (by intro g; simp only [go_sem, ren, renL]) ?_)
    rw [if_pos (ZRz.2 ?_)]
    obtain ⟨a, b, c⟩ := x
    simp_all [Xoz, B32]
   ·skip
    (refine Qmz (by intro g; simp only [go_sem, ren, renL]) ?_)
    rw [if_neg fun hh => h (by rw [ZRz.1 hh]; rfl)]
  ·skip
   (refine Qmz (by intro g; simp only [go_sem, ren, renL]) ?_)
   rw [if_neg fun hh => h (by rw [ZRz.1 hh]; rfl)]
 ·skip
  (refine Qmz (by intro g; simp only [go_sem, ren, renL]) ?_)
  rw [if_neg fun hh => by rw [ZRz.1 hh] at h; simp [Xoz] at h]
theorem size_val (n : Int) (h1 : -9223372036854775808 ≤ n) (h2 : n < 9223372036854775808) : Val C 95 [.int .i64 n] (natV n.natAbs) := by
 refine Fc.keep (Fc.bodyT Qfz Tryz.func95 w95 rfl Tryz.ntmps95 Tryz.results95 (zLe rfl) ?_)
 (refine Zo ?_;repeat' ((with_reducible first|refine Zk ?_|(first|apply Za|apply Zb|apply Zc|apply Zd)<;>intro h)<;>try simp -implicitDefEqProofs (maxSteps:=9^7) (disch:=first|omega|(simp only [lens];omega)) only [go_sem]))
 ·have e : 0 - (n + 1) = ((n.natAbs - 1 : Nat) : Int) := by omega
  (refine Zo ?_;repeat' ((with_reducible first|refine Zk ?_|(first|apply Za|apply Zb|apply Zc|apply Zd)<;>intro h)<;>try simp -implicitDefEqProofs (maxSteps:=9^7) (disch:=first|omega|(simp only [lens];omega)) only [go_sem, e]))
  rw [show ((n.natAbs - 1 : Nat) : Int) + 1 = ((n.natAbs : Nat) : Int) by omega]
  refine Fc.isN (Qibz n.natAbs (by omega)) ⟨.self rfl, trivial⟩ fun v X hv => ?_
  (refine Zo ?_;repeat' ((with_reducible first|refine Zk ?_|(first|apply Za|apply Zb|apply Zc|apply Zd)<;>intro h)<;>try simp -implicitDefEqProofs (maxSteps:=9^7) (disch:=first|omega|(simp only [lens];omega)) only [go_sem]))
  exact Gd.ret hv.gd
 ·have e : n = ((n.natAbs : Nat) : Int) := by omega
  rw [e, Int.natAbs_natCast]
  refine Fc.isN (Qibz n.natAbs (by omega)) ⟨.self rfl, trivial⟩ fun v X hv => ?_
  (refine Zo ?_;repeat' ((with_reducible first|refine Zk ?_|(first|apply Za|apply Zb|apply Zc|apply Zd)<;>intro h)<;>try simp -implicitDefEqProofs (maxSteps:=9^7) (disch:=first|omega|(simp only [lens];omega)) only [go_sem]))
  exact Gd.ret hv.gd
theorem int_val (n : Int) (h1 : -9223372036854775808 ≤ n) (h2 : n < 9223372036854775808) : Val C 71 [.int .i64 n] (ratV (intQ n)) := by
 refine Fc.keep (Fc.bodyT Qfz Tryz.func71 w71 rfl Tryz.ntmps71 Tryz.results71 (zLe rfl) ?_)
 (refine Zo ?_;repeat' ((with_reducible first|refine Zk ?_|(first|apply Za|apply Zb|apply Zc|apply Zd)<;>intro h)<;>try simp -implicitDefEqProofs (maxSteps:=9^7) (disch:=first|omega|(simp only [lens];omega)) only [go_sem]))
 refine (size_val n h1 h2).keptF ⟨.self rfl, trivial⟩ fun v X hv => ?_
 obtain ⟨k1, c1, s1⟩ := Q9z hv.gd
 (refine Zo ?_;repeat' ((with_reducible first|refine Zk ?_|(first|apply Za|apply Zb|apply Zc|apply Zd)<;>intro h)<;>try simp -implicitDefEqProofs (maxSteps:=9^7) (disch:=first|omega|(simp only [lens];omega)) only [go_sem, k1, c1, s1]))
 refine one_val.keptF trivial fun w Y hw => ?_
 obtain ⟨k2, c2, s2⟩ := Q9z hw.gd
 (refine Zo ?_;repeat' ((with_reducible first|refine Zk ?_|(first|apply Za|apply Zb|apply Zc|apply Zd)<;>intro h)<;>try simp -implicitDefEqProofs (maxSteps:=9^7) (disch:=first|omega|(simp only [lens];omega)) only [go_sem, k1, c1, s1, k2, c2, s2]))
 exact Gd.ret (Gd.aggL ⟨gd_b _, ((hv.app _).set (q := 0) (by simp) _).gd, (hw.set (q := 0) (by simp) _).gd, trivial⟩)
end Go.Proofs.YtjdbdmhjakfldaaGreat
end
section
namespace Go.Proofs.YtjdbdmhjakfldaaGreat
open Go.Bv
def rawG (x : Raw) : V × V × V := (.bool x.neg, NA x.num, NA x.den)
def refG (r : Rq) : V × V × V := (.bool r.neg, DV r.num, DV r.den)
def Qxz (xs : List Raw) : List V := Qagz rawG xs
def ZGz (rs : List Rq) : List V := Qagz refG rs
def tnV (t : Tn) : V := .agg [.sl t.shape.length (ints t.shape), .sl t.el.length (Qxz t.el)]
def tqV (t : Tq) : V := .agg [.sl t.shape.length (ints t.shape), .sl t.el.length (ZGz t.el)]
attribute [go_sem] tnV tqV
@[go_sem] theorem rawsC_len (xs : List Raw) : (Qxz xs).length = xs.length * 3 := Qbxz _ _
@[go_sem] theorem refsC_len (xs : List Rq) : (ZGz xs).length = xs.length * 3 := Qbxz _ _
@[go_sem] theorem nth_raws0 (xs : List Raw) (i : Nat) (h : i < xs.length) : nth (Qxz xs) (i * 3) = .bool (xs.getD i r0).neg := (Yez rawG r0 xs i h).1
@[go_sem] theorem nth_raws1 (xs : List Raw) (i : Nat) (h : i < xs.length) : nth (Qxz xs) (i * 3 + 1) = NA (xs.getD i r0).num := (Yez rawG r0 xs i h).2.1
@[go_sem] theorem nth_raws2 (xs : List Raw) (i : Nat) (h : i < xs.length) : nth (Qxz xs) (i * 3 + 2) = NA (xs.getD i r0).den := (Yez rawG r0 xs i h).2.2
@[go_sem] theorem nth_refs0 (xs : List Rq) (i : Nat) (h : i < xs.length) : nth (ZGz xs) (i * 3) = .bool (xs.getD i q0).neg := (Yez refG q0 xs i h).1
@[go_sem] theorem nth_refs1 (xs : List Rq) (i : Nat) (h : i < xs.length) : nth (ZGz xs) (i * 3 + 1) = DV (xs.getD i q0).num := (Yez refG q0 xs i h).2.1
@[go_sem] theorem nth_refs2 (xs : List Rq) (i : Nat) (h : i < xs.length) : nth (ZGz xs) (i * 3 + 2) = DV (xs.getD i q0).den := (Yez refG q0 xs i h).2.2
theorem Qiz (xs : List Raw) : cloL (Qxz xs) = true := cloL_flat3 fun x => ⟨rfl, QSz _, QSz _⟩
theorem Qrz (t : Tn) : clo (tnV t) = true := by simp [tnV, clo, cloL, Qaz, Qiz]
theorem ZHz (xs ys : List Int) (hx : xs.length ≤ 17592186044416) : Pu C 29 [.sl xs.length (ints xs), .sl ys.length (ints ys)] (.bool (decide (xs = ys))) := by
 refine Fc.keep (Fc.bodyT Qfz Tryz.func29 w29 rfl Tryz.ntmps29 Tryz.results29 (zLe rfl) ?_)
 (refine Zo ?_;repeat' ((with_reducible first|refine Zk ?_|(first|apply Za|apply Zb|apply Zc|apply Zd)<;>intro h)<;>try simp -implicitDefEqProofs (maxSteps:=9^7) (disch:=first|omega|(simp only [lens];omega)) only [go_sem]))
 ·skip
  (refine Qmz (by intro g; simp only [go_sem, ren, renL]) ?_)
  (simp only [V.tup.injEq, List.cons.injEq, V.int.injEq, V.bool.injEq, true_and, and_true]; (try rw [Bool.eq_iff_iff]); (try simp only [decide_eq_true_eq, decide_eq_false_iff_not, Decidable.not_not, true_and, and_true, Bool.not_eq_true, Bool.not_eq_eq_eq_not, Bool.not_true, Bool.and_eq_true, Bool.or_eq_true, beq_iff_eq, bne_iff_ne, ne_eq, Bool.false_eq_true, false_iff, true_iff, iff_false, iff_true]); (try omega))
  intro hh; subst hh; omega
 ·skip
  refine Qcz (fun n ts H => ∃ (i : Nat), (i ≤ xs.length) ∧ ((∀ j, j < i → xs.getD j 0 = ys.getD j 0)) ∧ (n = xs.length - i) ∧ (H = []) ∧ ts.length = 26 ∧ nth ts 0 = .sl xs.length (ints xs) ∧ nth ts 1 = .sl ys.length (ints ys) ∧ nth ts 5 = .int .i64 (i : Nat)) ?_ (n := xs.length) ?_
  ·skip
   rintro n ts H ⟨i, hi, hI, hn, hH, hL, hs0, hs1, hs5⟩
   refine Qqz [(0, .sl xs.length (ints xs)), (1, .sl ys.length (ints ys)), (5, .int .i64 (i : Nat))] hL (by simp only [zFm, hs0, hs1, hs5, true_and]; exact zNm) ?_
   clear hL hs0 hs1 hs5 ts
   refine Qsz Qfz ?_
   subst hH
   have hl : xs.length = ys.length := by omega
   (refine Zo ?_;repeat' ((with_reducible first|refine Zk ?_|(first|apply Za|apply Zb|apply Zc|apply Zd)<;>intro h)<;>try simp -implicitDefEqProofs (maxSteps:=9^7) (disch:=first|omega|(simp only [lens];omega)) only [go_sem]))
   ·skip
    (refine Qmz (by intro g; simp only [go_sem, ren, renL]) ?_)
    (simp only [V.tup.injEq, List.cons.injEq, V.int.injEq, V.bool.injEq, true_and, and_true]; (try rw [Bool.eq_iff_iff]); (try simp only [decide_eq_true_eq, decide_eq_false_iff_not, Decidable.not_not, true_and, and_true, Bool.not_eq_true, Bool.not_eq_eq_eq_not, Bool.not_true, Bool.and_eq_true, Bool.or_eq_true, beq_iff_eq, bne_iff_ne, ne_eq, Bool.false_eq_true, false_iff, true_iff, iff_false, iff_true]); (try omega))
    rintro rfl
    exact absurd rfl ‹xs.getD i 0 ≠ xs.getD i 0›
   ·have hI' : ∀ j, j < i + 1 → xs.getD j 0 = ys.getD j 0 := fun j hj => by
     by_cases e : j = i
     ·subst e; assumption
     ·exact hI j (by omega)
    exact ⟨xs.length - (i + 1), by omega, i + 1, (by (repeat' apply And.intro) <;> (first | rfl | omega | (congr 1; omega) | assumption | (congr 1; assumption)))⟩
   ·skip
    (refine Qmz (by intro g; simp only [go_sem, ren, renL]) ?_)
    (simp only [V.tup.injEq, List.cons.injEq, V.int.injEq, V.bool.injEq, true_and, and_true]; (try rw [Bool.eq_iff_iff]); (try simp only [decide_eq_true_eq, decide_eq_false_iff_not, Decidable.not_not, true_and, and_true, Bool.not_eq_true, Bool.not_eq_eq_eq_not, Bool.not_true, Bool.and_eq_true, Bool.or_eq_true, beq_iff_eq, bne_iff_ne, ne_eq, Bool.false_eq_true, false_iff, true_iff, iff_false, iff_true]); (try omega))
    refine List.ext_getElem hl fun j h1 h2 => ?_
    have := hI j (by omega)
    simpa [List.getD, h1, h2] using this
  ·exact ⟨0, by omega, fun j hj => by omega, rfl, rfl, rfl, rfl, rfl, rfl⟩
theorem refs_snoc {xs : List Rq} {i : Nat} (h : i < xs.length) : ZGz (xs.take (i + 1)) = ZGz (xs.take i) ++ [.bool (xs.getD i q0).neg, DV (xs.getD i q0).num, DV (xs.getD i q0).den] := by
 rw [Qijz xs q0 h, ZGz, Zyz]; rfl
theorem raws_snoc {xs : List Raw} {i : Nat} (h : i < xs.length) : Qxz (xs.take (i + 1)) = Qxz (xs.take i) ++ [.bool (xs.getD i r0).neg, NA (xs.getD i r0).num, NA (xs.getD i r0).den] := by
 rw [Qijz xs r0 h, Qxz, Zyz]; rfl
theorem Qfwz {xs : List Rq} {i : Nat} (h : i < xs.length) : Qxz ((xs.map Xoz).take (i + 1)) = Qxz ((xs.map Xoz).take i) ++ [.bool (xs.getD i q0).neg, natV (xs.getD i q0).num, natV (xs.getD i q0).den] := by
 rw [raws_snoc (by simpa using h)]
 have : (xs.map Xoz).getD i r0 = Xoz (xs.getD i q0) := by simp [List.getD, h]
 rw [this]; rfl
theorem Qnhz (t : Tq) (ht : TqOK t) : Val C 85 [tqV t] (tnV (Xvz t)) := by
 have hs := ht.s
 have he := ht.e
 refine Fc.keep (Fc.bodyT Qfz Tryz.func85 w85 rfl Tryz.ntmps85 Tryz.results85 (zLe rfl) ?_)
 (refine Zo ?_;repeat' ((with_reducible first|refine Zk ?_|(first|apply Za|apply Zb|apply Zc|apply Zd)<;>intro h)<;>try simp -implicitDefEqProofs (maxSteps:=9^7) (disch:=first|omega|(simp only [lens];omega)) only [go_sem]))
 refine Qcz (fun n ts H => ∃ (i : Nat) (u : V), (i ≤ t.el.length) ∧ (Qbz H 0 = some ⟨34, 2, [.sl t.shape.length (ints t.shape), .sl t.el.length (ZGz t.el)]⟩) ∧ (Qbz H 1 = some ⟨26, 2, [.nil, .nil]⟩) ∧ (Qbz H 2 = some ⟨3, 1, ints t.shape⟩) ∧ (Qbz H 3 = some ⟨26, 2, [.ref 2 0 t.shape.length, u]⟩) ∧ (Cel 4 58 3 H u i (Qxz ((t.el.map Xoz).take i))) ∧ (n = t.el.length - i) ∧ ts.length = 28 ∧ nth ts 1 = .ptr 0 0 ∧ nth ts 2 = .ptr 1 0 ∧ nth ts 3 = .ptr 3 0 ∧ nth ts 4 = .int .i64 (i : Nat)) ?_ (n := t.el.length) ?_
 ·skip
  rintro n ts H ⟨i, u, hi, h0, h1, h2, h3, hu, hn, hL, hs1, hs2, hs3, hs4⟩
  refine Qqz [(1, .ptr 0 0), (2, .ptr 1 0), (3, .ptr 3 0), (4, .int .i64 (i : Nat))] hL (by simp only [zFm, hs1, hs2, hs3, hs4, true_and]; exact zNm) ?_
  clear hL hs1 hs2 hs3 hs4 ts
  refine Qsz Qfz ?_
  have hlen := Qtz h3
  by_cases hcase : i < t.el.length
  ·have hx := ht.get hcase
   (refine Zo ?_;repeat' ((with_reducible first|refine Zk ?_|(first|apply Za|apply Zb|apply Zc|apply Zd)<;>intro h)<;>try simp -implicitDefEqProofs (maxSteps:=9^7) (disch:=first|omega|(simp only [lens];omega)) only [go_sem, h0, h3]))
   refine Pc.keptF (Qniz _ hx) (Qisz _) ⟨.self (Qcxz _), trivial⟩ fun v X hv => ?_
   obtain ⟨v1, v2, v3, rfl, hv1, hv2, hv3⟩ := hv.agg3
   obtain ⟨k2, c2, s2⟩ := Q9z hv2.gd
   obtain ⟨k3, c3, s3⟩ := Q9z hv3.gd
   have e1 := hv1.gd.bool_inv
   subst e1
   (refine Zo ?_;repeat' ((with_reducible first|refine Zk ?_|(first|apply Za|apply Zb|apply Zc|apply Zd)<;>intro h)<;>try simp -implicitDefEqProofs (maxSteps:=9^7) (disch:=first|omega|(simp only [lens];omega)) only [go_sem, h0, h3, k2, c2, s2, k3, c3, s3]))
   refine Cel.push3 hu rfl rfl (by omega) (by omega) hv2 hv3 s2 s3 fun v' H' hu' hk' k4 c4 s4 => ?_
   have g0 := hk' 0 _ (by decide) h0
   have g1 := hk' 1 _ (by decide) h1
   have g2 := hk' 2 _ (by decide) h2
   have g3 := hk' 3 _ (by decide) h3
   (refine Zo ?_;repeat' ((with_reducible first|refine Zk ?_|(first|apply Za|apply Zb|apply Zc|apply Zd)<;>intro h)<;>try simp -implicitDefEqProofs (maxSteps:=9^7) (disch:=first|omega|(simp only [lens];omega)) only [go_sem, g3, k4, c4, s4]))
   have f0 : ∀ (q : Nat) (row : Row) (z : Option Row), q ≠ 3 → Qbz H' q = some row → Qbz (H'.set 3 z) q = some row := fun q row z hq hr => by rw [Qdz _ (Ne.symm hq)]; exact hr
   refine ⟨t.el.length - (i + 1), by omega, i + 1, v', by omega, f0 0 _ _ (by decide) g0, f0 1 _ _ (by decide) g1, f0 2 _ _ (by decide) g2, Qez g3, ?_, rfl, by congr 1⟩
   rw [Qfwz hcase]
   exact Cel.set hu' (by decide) _
  ·obtain ⟨k4, c4, s4⟩ := Cel.kn hu
   have hs1 : ∀ z : Row, Qbz (H.set 1 (some z)) 1 = some z := fun z => Qez h1
   (refine Zo ?_;repeat' ((with_reducible first|refine Zk ?_|(first|apply Za|apply Zb|apply Zc|apply Zd)<;>intro h)<;>try simp -implicitDefEqProofs (maxSteps:=9^7) (disch:=first|omega|(simp only [lens];omega)) only [go_sem, h0, h1, h3, hs1, k4, c4, s4]))
   have hil : i = t.el.length := by omega
   rw [hil, List.take_of_length_le (by simp)] at hu
   have hg := Cel.gd (Cel.set hu (q := 1) (by decide) (some ⟨26, 2, [.ref 2 0 t.shape.length, u]⟩))
   refine Gd.ret (Gd.aggL ⟨?_, ?_, trivial⟩)
   ·exact .flat 2 _ _ _ _ (by rw [Qdz _ (by decide)]; exact h2) (Qaz _) (QTz _)
   ·simpa [tnOf, Xvz] using hg
 ·exact ⟨0, .nil, by omega, rfl, rfl, rfl, rfl, Cel.nil _ _ _ _, rfl, rfl, rfl, rfl, rfl, rfl⟩
end Go.Proofs.YtjdbdmhjakfldaaGreat
end
section
namespace Go.Proofs.YtjdbdmhjakfldaaGreat
open Go.Bv
def Xpz (t : Tn) : Int := if mayP t.shape ≠ 0 then mayP t.shape else if (t.el.length : Int) ≠ countP t.shape then 13 else 0
def mayT (t : Tn) : Int := if Xpz t ≠ 0 then Xpz t else if t.el.all okR then 0 else 6
theorem Qiaz {α : Type} {xs : List α} {p : α → Bool} (d : α) : xs.all p = true ↔ ∀ j, j < xs.length → p (xs.getD j d) = true := by
 rw [List.all_eq_true]
 constructor
 ·intro h j hj
  have e : xs.getD j d = xs[j] := by simp [List.getD, hj]
  rw [e]; exact h _ (List.getElem_mem hj)
 ·intro h x hx
  obtain ⟨j, hj, rfl⟩ := List.mem_iff_getElem.1 hx
  have e : xs.getD j d = xs[j] := by simp [List.getD, hj]
  rw [← e]; exact h j hj
theorem Qqlz (t : Tn) (ht : TnOK t) : Pu C 26 [tnV t] (.int .i64 (mayT t)) := by
 have hs := ht.s
 have he := ht.e
 refine Fc.keep (Fc.bodyT Qfz Tryz.func26 w26 rfl Tryz.ntmps26 Tryz.results26 (zLe rfl) ?_)
 (refine Zo ?_;repeat' ((with_reducible first|refine Zk ?_|(first|apply Za|apply Zb|apply Zc|apply Zd)<;>intro h)<;>try simp -implicitDefEqProofs (maxSteps:=9^7) (disch:=first|omega|(simp only [lens];omega)) only [go_sem]))
 refine Fc.pure (Qlgz t.shape (by omega)) (by simp [cloL, clo, Qaz]) (fun g => rfl) ?_
 (refine Zo ?_;repeat' ((with_reducible first|refine Zk ?_|(first|apply Za|apply Zb|apply Zc|apply Zd)<;>intro h)<;>try simp -implicitDefEqProofs (maxSteps:=9^7) (disch:=first|omega|(simp only [lens];omega)) only [go_sem]))
 ·skip
  (refine Qmz (by intro g; simp only [go_sem, ren, renL]) ?_)
  have hf : Xpz t = mayP t.shape := by rw [Xpz, if_pos h]
  rw [mayT, hf, if_pos h]
 ·have hm : mayP t.shape = 0 := by omega
  refine Pc.pure (Qnoz t.shape (by omega)) (by simp [cloL, clo, Qaz]) (fun g => rfl) ?_
  (refine Zo ?_;repeat' ((with_reducible first|refine Zk ?_|(first|apply Za|apply Zb|apply Zc|apply Zd)<;>intro h)<;>try simp -implicitDefEqProofs (maxSteps:=9^7) (disch:=first|omega|(simp only [lens];omega)) only [go_sem]))
  ·skip
   (refine Qmz (by intro g; simp only [go_sem, ren, renL]) ?_)
   have hf : Xpz t = 13 := by rw [Xpz, if_neg (by omega), if_pos (by assumption)]
   rw [mayT, hf, if_pos (by decide)]
  ·have hf : Xpz t = 0 := by rw [Xpz, if_neg (by omega), if_neg (by omega)]
   have hmt : mayT t = if t.el.all okR then 0 else 6 := by rw [mayT, hf, if_neg (by decide)]
   refine Qcz (fun n ts H => ∃ (i : Nat), (i ≤ t.el.length) ∧ ((∀ j, j < i → okR (t.el.getD j r0) = true)) ∧ (Qbz H 0 = some ⟨26, 2, [.sl t.shape.length (ints t.shape), .sl t.el.length (Qxz t.el)]⟩) ∧ (n = t.el.length - i) ∧ ts.length = 32 ∧ nth ts 1 = .ptr 0 0 ∧ nth ts 4 = .int .i64 (i : Nat)) ?_ (n := t.el.length) ?_
   ·skip
    rintro n ts H ⟨i, hi, hI, h0, hn, hL, hs1, hs4⟩
    refine Qqz [(1, .ptr 0 0), (4, .int .i64 (i : Nat))] hL (by simp only [zFm, hs1, hs4, true_and]; exact zNm) ?_
    clear hL hs1 hs4 ts
    refine Qsz Qfz ?_
    by_cases hcase : i < t.el.length
    ·skip
     (refine Zo ?_;repeat' ((with_reducible first|refine Zk ?_|(first|apply Za|apply Zb|apply Zc|apply Zd)<;>intro h)<;>try simp -implicitDefEqProofs (maxSteps:=9^7) (disch:=first|omega|(simp only [lens];omega)) only [go_sem, h0]))
     refine Fc.pure (Qqmz (t.el.getD i r0) (ht.get hcase)) (by simp [cloL, clo, Qkz]) (fun g => rfl) ?_
     cases hb : okR (t.el.getD i r0) with
     | true =>
      rw [if_pos rfl]
      (refine Zo ?_;repeat' ((with_reducible first|refine Zk ?_|(first|apply Za|apply Zb|apply Zc|apply Zd)<;>intro h)<;>try simp -implicitDefEqProofs (maxSteps:=9^7) (disch:=first|omega|(simp only [lens];omega)) only [go_sem, h0]))
      have hI' : ∀ j, j < i + 1 → okR (t.el.getD j r0) = true := allS hI hb
      exact ⟨t.el.length - (i + 1), by omega, i + 1, (by (repeat' apply And.intro) <;> (first | rfl | omega | (congr 1; omega) | assumption | (congr 1; assumption)))⟩
     | false =>
      rw [if_neg (by decide)]
      (refine Zo ?_;repeat' ((with_reducible first|refine Zk ?_|(first|apply Za|apply Zb|apply Zc|apply Zd)<;>intro h)<;>try simp -implicitDefEqProofs (maxSteps:=9^7) (disch:=first|omega|(simp only [lens];omega)) only [go_sem, h0]))
      (refine Qmz (by intro g; simp only [go_sem, ren, renL]) ?_)
      rw [hmt, if_neg]
      intro hh
      have := (Qiaz r0).1 hh i hcase
      rw [hb] at this; cases this
    ·skip
     (refine Zo ?_;repeat' ((with_reducible first|refine Zk ?_|(first|apply Za|apply Zb|apply Zc|apply Zd)<;>intro h)<;>try simp -implicitDefEqProofs (maxSteps:=9^7) (disch:=first|omega|(simp only [lens];omega)) only [go_sem, h0]))
     (refine Qmz (by intro g; simp only [go_sem, ren, renL]) ?_)
     rw [hmt, if_pos ((Qiaz r0).2 fun j hj => hI j (by omega))]
   ·exact ⟨0, by omega, fun j hj => by omega, rfl, rfl, rfl, rfl, rfl⟩
def Qlpz (a b : Tn) : Bool := decide (a.shape = b.shape) && (decide (a.el.length = b.el.length) && (List.range a.el.length).all fun i => Qgwz (valQ (a.el.getD i r0)) (valQ (b.el.getD i r0)))
theorem Qdiz {n : Nat} {p : Nat → Bool} : (List.range n).all p = true ↔ ∀ i, i < n → p i = true := by simp
theorem YTz (a b : Tn) (ha : TnOK a) (hb : TnOK b) : Pu C 28 [tnV a, tnV b] (.bool (Qlpz a b)) := by
 have hs := ha.s
 have he := ha.e
 have hs' := hb.s
 have he' := hb.e
 refine Fc.keep (Fc.bodyT Qfz Tryz.func28 w28 rfl Tryz.ntmps28 Tryz.results28 (zLe rfl) ?_)
 (refine Zo ?_;repeat' ((with_reducible first|refine Zk ?_|(first|apply Za|apply Zb|apply Zc|apply Zd)<;>intro h)<;>try simp -implicitDefEqProofs (maxSteps:=9^7) (disch:=first|omega|(simp only [lens];omega)) only [go_sem]))
 refine Fc.pure (ZHz a.shape b.shape (by omega)) (by simp [cloL, clo, Qaz]) (fun g => rfl) ?_
 (refine Zo ?_;repeat' ((with_reducible first|refine Zk ?_|(first|apply Za|apply Zb|apply Zc|apply Zd)<;>intro h)<;>try simp -implicitDefEqProofs (maxSteps:=9^7) (disch:=first|omega|(simp only [lens];omega)) only [go_sem]))
 ·have hel : ¬ a.el.length = b.el.length := by omega
  (refine Qmz (by intro g; simp only [go_sem, ren, renL]) ?_)
  congr 1
  symm
  simp [Qlpz, hel]
 ·have hel : a.el.length = b.el.length := by omega
  ·skip
   refine Qcz (fun n ts H => ∃ (i : Nat), (i ≤ a.el.length) ∧ ((∀ j, j < i → Qgwz (valQ (a.el.getD j r0)) (valQ (b.el.getD j r0)) = true)) ∧ (Qbz H 0 = some ⟨26, 2, [.sl a.shape.length (ints a.shape), .sl a.el.length (Qxz a.el)]⟩) ∧ (Qbz H 1 = some ⟨26, 2, [.sl b.shape.length (ints b.shape), .sl b.el.length (Qxz b.el)]⟩) ∧ (n = a.el.length - i) ∧ ts.length = 40 ∧ nth ts 2 = .ptr 0 0 ∧ nth ts 3 = .ptr 1 0 ∧ nth ts 5 = .int .i64 (i : Nat)) ?_ (n := a.el.length) ?_
   ·skip
    rintro n ts H ⟨i, hi, hI, h0, h1, hn, hL, hs2, hs3, hs5⟩
    refine Qqz [(2, .ptr 0 0), (3, .ptr 1 0), (5, .int .i64 (i : Nat))] hL (by simp only [zFm, hs2, hs3, hs5, true_and]; exact zNm) ?_
    clear hL hs2 hs3 hs5 ts
    refine Qsz Qfz ?_
    by_cases hcase : i < a.el.length
    ·skip
     (refine Zo ?_;repeat' ((with_reducible first|refine Zk ?_|(first|apply Za|apply Zb|apply Zc|apply Zd)<;>intro h)<;>try simp -implicitDefEqProofs (maxSteps:=9^7) (disch:=first|omega|(simp only [lens];omega)) only [go_sem, h0, h1]))
     refine Pc.pure (Qlqz (a.el.getD i r0) (b.el.getD i r0) (ha.get hcase) (hb.get (by omega))) (by simp [cloL, clo, Qkz]) (fun g => rfl) ?_
     cases hbb : Qgwz (valQ (a.el.getD i r0)) (valQ (b.el.getD i r0)) with
     | true =>
      (refine Zo ?_;repeat' ((with_reducible first|refine Zk ?_|(first|apply Za|apply Zb|apply Zc|apply Zd)<;>intro h)<;>try simp -implicitDefEqProofs (maxSteps:=9^7) (disch:=first|omega|(simp only [lens];omega)) only [go_sem, h0, h1]))
      have hI' : ∀ j, j < i + 1 → Qgwz (valQ (a.el.getD j r0)) (valQ (b.el.getD j r0)) = true := allS hI hbb
      exact ⟨a.el.length - (i + 1), by omega, i + 1, (by (repeat' apply And.intro) <;> (first | rfl | omega | (congr 1; omega) | assumption | (congr 1; assumption)))⟩
     | false =>
      (refine Zo ?_;repeat' ((with_reducible first|refine Zk ?_|(first|apply Za|apply Zb|apply Zc|apply Zd)<;>intro h)<;>try simp -implicitDefEqProofs (maxSteps:=9^7) (disch:=first|omega|(simp only [lens];omega)) only [go_sem, h0, h1]))
      (refine Qmz (by intro g; simp only [go_sem, ren, renL]) ?_)
      congr 1
      symm
      rw [Bool.eq_false_iff]
      intro hh
      simp only [Qlpz, Bool.and_eq_true, Qdiz] at hh
      have := hh.2.2 i hcase
      rw [hbb] at this; cases this
    ·skip
     (refine Zo ?_;repeat' ((with_reducible first|refine Zk ?_|(first|apply Za|apply Zb|apply Zc|apply Zd)<;>intro h)<;>try simp -implicitDefEqProofs (maxSteps:=9^7) (disch:=first|omega|(simp only [lens];omega)) only [go_sem, h0, h1]))
     (refine Qmz (by intro g; simp only [go_sem, ren, renL]) ?_)
     congr 1
     symm
     simp only [Qlpz, Bool.and_eq_true, Qdiz, decide_eq_true_eq]
     exact ⟨by assumption, hel, fun j hj => hI j (by omega)⟩
   ·exact ⟨0, by omega, fun j hj => by omega, rfl, rfl, rfl, rfl, rfl, rfl, rfl⟩
 ·skip
  (refine Qmz (by intro g; simp only [go_sem, ren, renL]) ?_)
  congr 1
  symm
  simp [Qlpz, h]
end Go.Proofs.YtjdbdmhjakfldaaGreat
end
section
namespace Go.Proofs.YtjdbdmhjakfldaaGreat
open Go.Bv
theorem Qjwz (t : Tn) (ht : TnOK t) : Pu C 78 [tnV t] (.int .i64 (Xpz t)) := by
 have hs := ht.s
 have he := ht.e
 refine Fc.keep (Fc.bodyT Qfz Tryz.func78 w78 rfl Tryz.ntmps78 Tryz.results78 (zLe rfl) ?_)
 (refine Zo ?_;repeat' ((with_reducible first|refine Zk ?_|(first|apply Za|apply Zb|apply Zc|apply Zd)<;>intro h)<;>try simp -implicitDefEqProofs (maxSteps:=9^7) (disch:=first|omega|(simp only [lens];omega)) only [go_sem]))
 refine Fc.pure (ZFz t.shape (by omega)) (by simp [cloL, clo, Qaz]) (fun g => rfl) ?_
 (refine Zo ?_;repeat' ((with_reducible first|refine Zk ?_|(first|apply Za|apply Zb|apply Zc|apply Zd)<;>intro h)<;>try simp -implicitDefEqProofs (maxSteps:=9^7) (disch:=first|omega|(simp only [lens];omega)) only [go_sem]))
 ·skip
  (refine Qmz (by intro g; simp only [go_sem, ren, renL]) ?_)
  rw [Xpz, if_pos h]
 ·refine Pc.pure (Qgrz t.shape (by omega)) (by simp [cloL, clo, Qaz]) (fun g => rfl) ?_
  (refine Zo ?_;repeat' ((with_reducible first|refine Zk ?_|(first|apply Za|apply Zb|apply Zc|apply Zd)<;>intro h)<;>try simp -implicitDefEqProofs (maxSteps:=9^7) (disch:=first|omega|(simp only [lens];omega)) only [go_sem]))
  ·skip
   (refine Qmz (by intro g; simp only [go_sem, ren, renL]) ?_)
   rw [Xpz, if_neg (by omega), if_pos (by assumption)]
  ·skip
   (refine Qmz (by intro g; simp only [go_sem, ren, renL]) ?_)
   rw [Xpz, if_neg (by omega), if_neg (by omega)]
theorem of_spec (t : Tn) : Pu C 72 [tnV t] (tnV t) := by
 refine Fc.keep (Fc.bodyT Qfz Tryz.func72 w72 rfl Tryz.ntmps72 Tryz.results72 (zLe rfl) ?_)
 (refine Zo ?_;repeat' ((with_reducible first|refine Zk ?_|(first|apply Za|apply Zb|apply Zc|apply Zd)<;>intro h)<;>try simp -implicitDefEqProofs (maxSteps:=9^7) (disch:=first|omega|(simp only [lens];omega)) only [go_sem]))
 exact Qmz (fun g => by simp [ren, renL, Qpz, QWz _ _ (Qiz t.el)]) rfl
theorem yk97 : Tryz.f97.body.all yOK = true := by kernel_rfl
def allV (t : Tn) : V := .fn (.func 97) [] [.rp [.sl t.shape.length (ints t.shape), .sl t.el.length (Qxz t.el)] 0]
theorem Qoyz (t : Tn) : Pu C 73 [tnV t] (allV t) := by
 refine Fc.keep (Fc.sealR ?_)
 refine Fc.bodyT Qfz Tryz.func73 w73 rfl Tryz.ntmps73 Tryz.results73 (zLe rfl) ?_
 (refine Zo ?_;repeat' ((with_reducible first|refine Zk ?_|(first|apply Za|apply Zb|apply Zc|apply Zd)<;>intro h)<;>try simp -implicitDefEqProofs (maxSteps:=9^7) (disch:=first|omega|(simp only [lens];omega)) only [go_sem]))
 refine ⟨0, _, 2, [.sl t.shape.length (ints t.shape), .sl t.el.length (Qxz t.el)], rfl, by simp [cloL, clo, Qaz, Qiz], [], by simp, by simp, ?_⟩
 simp [sz, szL, ren, renL, allV, selH, Qpz, QWz _ _ (Qiz t.el)]
def ZJz (t : Tn) : List (List V) := (List.range t.el.length).map fun i => [.int .i64 (i : Nat), rawV (t.el.getD i r0)]
theorem Qbez {t : Tn} {i : Nat} (h : i < t.el.length) : (ZJz t)[i]? = some [.int .i64 (i : Nat), rawV (t.el.getD i r0)] := by simp [ZJz, h]
theorem X6z (t : Tn) : (ZJz t).length = t.el.length := by simp [ZJz]
theorem all_gen (t : Tn) (ht : TnOK t) : Gen C 97 [.rp [.sl t.shape.length (ints t.shape), .sl t.el.length (Qxz t.el)] 0] (ZJz t) := by
 have he := ht.e
 refine Gen.of3 Qfz Tryz.func97 w97 yk97 rfl Tryz.ntmps97 Tryz.results97 (zLe rfl) (fun bs hb => by
  simp only [ZJz, List.mem_map, List.mem_range] at hb
  obtain ⟨i, _, rfl⟩ := hb
  simp [cloL, clo, X2z]) ?_
 intro G l J hW
 (refine Zo ?_;repeat' ((with_reducible first|refine Zk ?_|(first|apply Za|apply Zb|apply Zc|apply Zd)<;>intro h)<;>try simp -implicitDefEqProofs (maxSteps:=9^7) (disch:=first|omega|(simp only [lens];omega)) only [go_sem]))
 refine XSz (fun n ts H => ∃ (i : Nat), (i ≤ t.el.length) ∧ (n = t.el.length - i) ∧ (H.length = i) ∧ ts.length = 19 ∧ nth ts 0 = .fn (.yield l) [] [] ∧ nth ts 6 = .sl t.el.length (Qxz t.el) ∧ nth ts 7 = .int .i64 (t.el.length : Nat) ∧ nth ts 8 = .int .i64 (i : Nat)) ?_ (n := t.el.length) ?_
 ·skip
  rintro n ts H ⟨i, hi, hn, hH, hL, hs0, hs6, hs7, hs8⟩
  refine Qezz [(0, .fn (.yield l) [] []), (6, .sl t.el.length (Qxz t.el)), (7, .int .i64 (t.el.length : Nat)), (8, .int .i64 (i : Nat))] hL (by simp only [zFm, hs0, hs6, hs7, hs8, true_and]; exact zNm) ?_
  clear hL hs0 hs6 hs7 hs8 ts
  refine hW _ _ _ _ ?_
  by_cases hcase : i < t.el.length
  ·skip
   (refine Zo ?_;repeat' ((with_reducible first|refine Zk ?_|(first|apply Za|apply Zb|apply Zc|apply Zd)<;>intro h)<;>try simp -implicitDefEqProofs (maxSteps:=9^7) (disch:=first|omega|(simp only [lens];omega)) only [go_sem]))
   refine ⟨_, _, _, 19, [(0, .fn (.yield l) [] []), (3, .int .i64 (i : Nat)), (4, .rp [.bool (t.el.getD i r0).neg, NA (t.el.getD i r0).num, NA (t.el.getD i r0).den] 0), (6, .sl t.el.length (Qxz t.el)), (7, .int .i64 (t.el.length : Nat)), (8, .int .i64 (i : Nat))], rfl, ?_, by simp [Xxz], ?_, ?_⟩
   ·simp [cloL, clo, Qkz]
   ·simp only [zFm, Yuz, List.not_mem_nil, false_implies, implies_true, and_true]
    refine ⟨⟨?_, ?_⟩, ⟨?_, ?_⟩, ⟨?_, ?_⟩, ⟨?_, ?_⟩, ⟨?_, ?_⟩, ⟨?_, ?_⟩⟩
    all_goals first | rfl | (simp [clo, cloL, Qiz, QSz]; done) | skip
    ·show sz (List.length H) _ (.ptr (List.length H) 0) = _
     rw [sz, if_pos rfl]; rfl
    ·exact sz_clo _ _ (.sl t.el.length (Qxz t.el)) (Qiz _)
   ·skip
    (refine Zo ?_;repeat' ((with_reducible first|refine Zk ?_|(first|apply Za|apply Zb|apply Zc|apply Zd)<;>intro h)<;>try simp -implicitDefEqProofs (maxSteps:=9^7) (disch:=first|omega|(simp only [lens];omega)) only [go_sem]))
    rw [hH, X6z]
    refine ⟨Qbez hcase, ⟨t.el.length - (i + 1), by omega, i + 1, by omega, rfl, rfl, rfl⟩, .inr trivial, .inr ?_⟩
    rw [List.length_replicate]; omega
  ·skip
   (refine Zo ?_;repeat' ((with_reducible first|refine Zk ?_|(first|apply Za|apply Zb|apply Zc|apply Zd)<;>intro h)<;>try simp -implicitDefEqProofs (maxSteps:=9^7) (disch:=first|omega|(simp only [lens];omega)) only [go_sem]))
   rw [X6z]
   exact ⟨.inl trivial, .inl (by omega)⟩
 ·exact ⟨0, by omega, by omega, rfl, rfl, rfl, rfl, rfl, rfl⟩
theorem ZZz (t : Tn) (ht : TnOK t) : Pu C 39 [tnV t] (.int .i64 (mayT t)) := by
 have hs := ht.s
 have he := ht.e
 have hv : allV t = .fn (.func 97) [] [.rp [.sl t.shape.length (ints t.shape), .sl t.el.length (Qxz t.el)] 0] := rfl
 refine Fc.keep (Fc.bodyT Qfz Tryz.func39 w39 rfl Tryz.ntmps39 Tryz.results39 (zLe rfl) ?_)
 (refine Zo ?_;repeat' ((with_reducible first|refine Zk ?_|(first|apply Za|apply Zb|apply Zc|apply Zd)<;>intro h)<;>try simp -implicitDefEqProofs (maxSteps:=9^7) (disch:=first|omega|(simp only [lens];omega)) only [go_sem]))
 refine Fc.pure (Qjwz t ht) (by simp [cloL, clo, Qaz, Qiz]) (fun g => rfl) ?_
 (refine Zo ?_;repeat' ((with_reducible first|refine Zk ?_|(first|apply Za|apply Zb|apply Zc|apply Zd)<;>intro h)<;>try simp -implicitDefEqProofs (maxSteps:=9^7) (disch:=first|omega|(simp only [lens];omega)) only [go_sem]))
 ·skip
  (refine Qmz (by intro g; simp only [go_sem, ren, renL]) ?_)
  rw [mayT, if_pos h]
 ·have hf : Xpz t = 0 := by omega
  have hmt : mayT t = if t.el.all okR then 0 else 6 := by rw [mayT, hf, if_neg (by decide)]
  refine Fc.pure (of_spec t) (by simp [cloL, clo, Qaz, Qiz]) (fun g => by simp [tnV, ren, renL, Qpz, QWz _ _ (Qiz t.el)]) ?_
  (refine Zo ?_;repeat' ((with_reducible first|refine Zk ?_|(first|apply Za|apply Zb|apply Zc|apply Zd)<;>intro h)<;>try simp -implicitDefEqProofs (maxSteps:=9^7) (disch:=first|omega|(simp only [lens];omega)) only [go_sem]))
  refine Fc.pure (Qoyz t) (by simp [cloL, clo, Qaz, Qiz]) (fun g => by simp [allV, ren, renL, Qpz, QWz _ _ (Qiz t.el)]) ?_
  (refine Zo ?_;repeat' ((with_reducible first|refine Zk ?_|(first|apply Za|apply Zb|apply Zc|apply Zd)<;>intro h)<;>try simp -implicitDefEqProofs (maxSteps:=9^7) (disch:=first|omega|(simp only [lens];omega)) only [go_sem, hv]))
  refine XPz (g := 97) (lb := [.rp [.sl t.shape.length (ints t.shape), .sl t.el.length (Qxz t.el)] 0]) (xs := ZJz t) (by simp -implicitDefEqProofs (maxSteps:=9^7) (disch := first | omega | (simp only [lens]; omega)) only [go_sem]) (by simp [cloL, clo, Qaz, Qiz]) (all_gen t ht) (fun bs hb => by
   simp only [ZJz, List.mem_map, List.mem_range] at hb
   obtain ⟨i, _, rfl⟩ := hb
   rfl) (fun k H => (∀ j, j < k → okR (t.el.getD j r0) = true) ∧ Qbz H 1 = some ⟨27, 1, [.int .i64 0]⟩) ⟨fun j hj => by omega, rfl⟩ ?_ ?_
  ·rintro k us H hk ⟨hI, h1⟩ l
   have hkl : k < t.el.length := by
    have := (List.getElem?_eq_some_iff.1 hk).1
    rwa [X6z] at this
   rw [Qbez hkl] at hk
   injection hk with hk
   subst hk
   have h1' : ∀ X, Qbz (H ++ X) 1 = some ⟨27, 1, [.int .i64 0]⟩ := fun X => Qgz h1 X
   (refine Qsz Qfz ?_; simp -implicitDefEqProofs (maxSteps:=9^7) (disch := first | omega | (simp only [lens]; omega)) only [go_sem, putl])
   (refine Qsz Qfz ?_; simp -implicitDefEqProofs (maxSteps:=9^7) (disch := first | omega | (simp only [lens]; omega)) only [go_sem, h1'])
   refine Fc.pure (may_spec (t.el.getD k r0) (ht.get hkl)) (by simp [cloL, clo, Qkz]) (fun g => rfl) ?_
   cases hb : okR (t.el.getD k r0) with
   | true =>
    rw [if_pos rfl]
    (refine Zo ?_;repeat' ((with_reducible first|refine Zk ?_|(first|apply Za|apply Zb|apply Zc|apply Zd)<;>intro h)<;>try simp -implicitDefEqProofs (maxSteps:=9^7) (disch:=first|omega|(simp only [lens];omega)) only [go_sem, h1', XJz]))
    exact allS hI hb
   | false =>
    rw [if_neg (by decide)]
    have hst : ∀ X z, Qbz ((H ++ X).set 1 (some z)) 1 = some z := fun X z => Qez (h1' X)
    (refine Zo ?_;repeat' ((with_reducible first|refine Zk ?_|(first|apply Za|apply Zb|apply Zc|apply Zd)<;>intro h)<;>try simp -implicitDefEqProofs (maxSteps:=9^7) (disch:=first|omega|(simp only [lens];omega)) only [go_sem, h1', hst, XJz]))
    (refine Qmz (by intro g; simp only [go_sem, ren, renL]) ?_)
    rw [hmt, if_neg fun hh => ?_]
    have := (Qiaz r0).1 hh k hkl
    rw [hb] at this; cases this
  ·rintro H ⟨hI, h1⟩
   rw [X6z] at hI
   have hst : ∀ z, Qbz (H.set 1 (some z)) 1 = some z := fun z => Qez h1
   (refine Zo ?_;repeat' ((with_reducible first|refine Zk ?_|(first|apply Za|apply Zb|apply Zc|apply Zd)<;>intro h)<;>try simp -implicitDefEqProofs (maxSteps:=9^7) (disch:=first|omega|(simp only [lens];omega)) only [go_sem, h1, hst]))
   (refine Qmz (by intro g; simp only [go_sem, ren, renL]) ?_)
   rw [hmt, if_pos ((Qiaz r0).2 hI)]
def Qhgz (t : Tn) : Tn := ⟨t.shape, (t.el.map valQ).map Xoz⟩
theorem norm_snoc {xs : List Raw} {i : Nat} (h : i < xs.length) : Qxz (((xs.map valQ).map Xoz).take (i + 1)) = Qxz (((xs.map valQ).map Xoz).take i) ++ [.bool (valQ (xs.getD i r0)).neg, natV (valQ (xs.getD i r0)).num, natV (valQ (xs.getD i r0)).den] := by
 rw [Qfwz (by simpa using h)]
 have : (xs.map valQ).getD i q0 = valQ (xs.getD i r0) := by simp [List.getD, h]
 rw [this]
theorem Qpiz (t : Tn) (ht : TnOK t) : Val C 90 [tnV t, .fn (.func 91) [] []] (tnV (Qhgz t)) := by
 have hs := ht.s
 have he := ht.e
 have hv : allV t = .fn (.func 97) [] [.rp [.sl t.shape.length (ints t.shape), .sl t.el.length (Qxz t.el)] 0] := rfl
 refine Fc.keep (Fc.bodyT Qfz Tryz.func90 w90 rfl Tryz.ntmps90 Tryz.results90 (zLe rfl) ?_)
 (refine Zo ?_;repeat' ((with_reducible first|refine Zk ?_|(first|apply Za|apply Zb|apply Zc|apply Zd)<;>intro h)<;>try simp -implicitDefEqProofs (maxSteps:=9^7) (disch:=first|omega|(simp only [lens];omega)) only [go_sem]))
 refine Val.keptF (Val.ofRet (Qnpz t.shape (by omega)) (Qaz _) (QTz _)) ⟨.self (by simp [clo, Qaz]), trivial⟩ fun sv X hsv => ?_
 obtain ⟨k0, c0, s0⟩ := Q9z hsv.gd
 (refine Zo ?_;repeat' ((with_reducible first|refine Zk ?_|(first|apply Za|apply Zb|apply Zc|apply Zd)<;>intro h)<;>try simp -implicitDefEqProofs (maxSteps:=9^7) (disch:=first|omega|(simp only [lens];omega)) only [go_sem, k0, c0, s0]))
 refine Fc.pure (Qoyz t) (by simp [cloL, clo, Qaz, Qiz]) (fun g => by simp [allV, ren, renL, Qpz, QWz _ _ (Qiz t.el)]) ?_
 (refine Zo ?_;repeat' ((with_reducible first|refine Zk ?_|(first|apply Za|apply Zb|apply Zc|apply Zd)<;>intro h)<;>try simp -implicitDefEqProofs (maxSteps:=9^7) (disch:=first|omega|(simp only [lens];omega)) only [go_sem, hv]))
 have hsv2 := GdIn.app hsv.within [some ⟨99, 2, [sv, .nil]⟩]
 obtain ⟨P, hP⟩ : ∃ P, P = X.length + 3 := ⟨_, rfl⟩
 have hPl : ([some (⟨99, 2, [.sl t.shape.length (ints t.shape), .sl t.el.length (Qxz t.el)]⟩ : Row), some ⟨67, 1, [.fn (.func 91) [] []]⟩, some ⟨99, 2, [.nil, .nil]⟩] ++ X).length = P := by rw [hP]; simp
 rw [hPl] at hsv2
 rw [← hP]
 refine XPz (g := 97) (lb := [.rp [.sl t.shape.length (ints t.shape), .sl t.el.length (Qxz t.el)] 0]) (xs := ZJz t) (by simp -implicitDefEqProofs (maxSteps:=9^7) (disch := first | omega | (simp only [lens]; omega)) only [go_sem]) (by simp [cloL, clo, Qaz, Qiz]) (all_gen t ht) (fun bs hb => by
   simp only [ZJz, List.mem_map, List.mem_range] at hb
   obtain ⟨i, _, rfl⟩ := hb
   rfl) (fun k H => ∃ u, Qbz H 1 = some ⟨67, 1, [.fn (.func 91) [] []]⟩ ∧ Qbz H 2 = some ⟨99, 2, [.nil, .nil]⟩ ∧ Qbz H P = some ⟨99, 2, [sv, u]⟩ ∧ GdIn 3 P H sv (.sl t.shape.length (ints t.shape)) ∧ Cel (P + 1) 58 3 H u k (Qxz (((t.el.map valQ).map Xoz).take k))) ?_ ?_ ?_
 ·refine ⟨.nil, rfl, rfl, ?_, hsv2, Cel.nil _ _ _ _⟩
  rw [hP]; simp [Qbz]
 ·rintro k us H hk ⟨u, h1, h2, h3, h4, hu⟩ l
  have hkl : k < t.el.length := by
   have := (List.getElem?_eq_some_iff.1 hk).1
   rwa [X6z] at this
  rw [Qbez hkl] at hk
  injection hk with hk
  subst hk
  (refine Qsz Qfz ?_; simp -implicitDefEqProofs (maxSteps:=9^7) (disch := first | omega | (simp only [lens]; omega)) only [go_sem, putl])
  have hx := ht.get hkl
  obtain ⟨HH, hHH⟩ : ∃ HH, HH = H ++ [some (⟨58, 3, [.bool (t.el.getD k r0).neg, .sl (t.el.getD k r0).num.length (nats .u32 (t.el.getD k r0).num), .sl (t.el.getD k r0).den.length (nats .u32 (t.el.getD k r0).den)]⟩ : Row)] := ⟨_, rfl⟩
  rw [← hHH]
  have hn : Qbz HH H.length = some ⟨58, 3, [.bool (t.el.getD k r0).neg, .sl (t.el.getD k r0).num.length (nats .u32 (t.el.getD k r0).num), .sl (t.el.getD k r0).den.length (nats .u32 (t.el.getD k r0).den)]⟩ := by rw [hHH]; exact QQz _ _
  have hP1 := Qtz h3
  have hL : HH.length = H.length + 1 := by rw [hHH]; simp
  have hkeep : ∀ q row, Qbz H q = some row → Qbz HH q = some row := fun q row hr => by rw [hHH]; exact Qgz hr _
  have g1 := hkeep 1 _ h1
  have g2 := hkeep 2 _ h2
  have g3 := hkeep P _ h3
  have g4 := h4.app [some (⟨58, 3, [.bool (t.el.getD k r0).neg, .sl (t.el.getD k r0).num.length (nats .u32 (t.el.getD k r0).num), .sl (t.el.getD k r0).den.length (nats .u32 (t.el.getD k r0).den)]⟩ : Row)]
  have gu := Cel.app hu [some (⟨58, 3, [.bool (t.el.getD k r0).neg, .sl (t.el.getD k r0).num.length (nats .u32 (t.el.getD k r0).num), .sl (t.el.getD k r0).den.length (nats .u32 (t.el.getD k r0).den)]⟩ : Row)]
  rw [← hHH] at g4 gu
  (refine Qsz Qfz ?_; simp -implicitDefEqProofs (maxSteps:=9^7) (disch := first | omega | (simp only [lens]; omega)) only [go_sem, g1, g3, hn])
  refine RunU.now ?_
  (refine Zo ?_;repeat' ((with_reducible first|refine Zk ?_|(first|apply Za|apply Zb|apply Zc|apply Zd)<;>intro h)<;>try simp -implicitDefEqProofs (maxSteps:=9^7) (disch:=first|omega|(simp only [lens];omega)) only [go_sem, g1, g3, hn]))
  refine Pc.keptF (Qobz _ hx) (Qisz _) ⟨.self (X2z _), trivial⟩ fun v Y hv => ?_
  obtain ⟨v1, v2, v3, rfl, hv1, hv2, hv3⟩ := hv.agg3
  obtain ⟨k2, c2, s2⟩ := Q9z hv2.gd
  obtain ⟨k3, c3, s3⟩ := Q9z hv3.gd
  have e1 := hv1.gd.bool_inv
  subst e1
  (refine Zo ?_;repeat' ((with_reducible first|refine Zk ?_|(first|apply Za|apply Zb|apply Zc|apply Zd)<;>intro h)<;>try simp -implicitDefEqProofs (maxSteps:=9^7) (disch:=first|omega|(simp only [lens];omega)) only [go_sem, g1, g3, hn, k2, c2, s2, k3, c3, s3]))
  refine Cel.push3 gu rfl rfl (by omega) (by omega) hv2 hv3 s2 s3 fun v' H' hu' hk' k4 c4 s4 => ?_
  have f1 := hk' 1 _ (by omega) g1
  have f2 := hk' 2 _ (by omega) g2
  have f3 := hk' P _ (by omega) g3
  have f4 := GdIn.far g4 (H' := H') fun r row hr1 hr2 hr => hk' r row (by omega) hr
  (refine Zo ?_;repeat' ((with_reducible first|refine Zk ?_|(first|apply Za|apply Zb|apply Zc|apply Zd)<;>intro h)<;>try simp -implicitDefEqProofs (maxSteps:=9^7) (disch:=first|omega|(simp only [lens];omega)) only [go_sem, f3, k4, c4, s4, XJz]))
  refine ⟨v', ?_, ?_, Qez f3, f4.set (.inr (Nat.le_refl _)) _, ?_⟩
  ·rw [Qdz _ (by omega)]; exact f1
  ·rw [Qdz _ (by omega)]; exact f2
  ·rw [norm_snoc hkl]
   exact Cel.set hu' (by omega) _
 ·rintro H ⟨u, h1, h2, h3, h4, hu⟩
  obtain ⟨k4, c4, s4⟩ := Cel.kn hu
  have hst : ∀ z, Qbz (H.set 2 (some z)) 2 = some z := fun z => Qez h2
  (refine Zo ?_;repeat' ((with_reducible first|refine Zk ?_|(first|apply Za|apply Zb|apply Zc|apply Zd)<;>intro h)<;>try simp -implicitDefEqProofs (maxSteps:=9^7) (disch:=first|omega|(simp only [lens];omega)) only [go_sem, h1, h2, h3, hst, k0, c0, s0, k4, c4, s4]))
  rw [X6z, List.take_of_length_le (by simp)] at hu
  refine Gd.ret (Gd.aggL ⟨(h4.set (.inl (by decide)) _).gd, ?_, trivial⟩)
  have hg := Cel.gd (Cel.set hu (q := 2) (by omega) (some ⟨99, 2, [sv, u]⟩))
  simpa [Qhgz] using hg
end Go.Proofs.YtjdbdmhjakfldaaGreat
end
section
namespace Go.Proofs.YtjdbdmhjakfldaaGreat
open Go.Bv
def Qgfz : Tn := ⟨[], []⟩
def mkT (t : Tn) : Tn × Int := if Xpz t ≠ 0 then (Qgfz, Xpz t) else (Qhgz t, 0)
theorem Qoqz {H : Heap} : Gd H (.agg [.nil, .nil]) (tnV Qgfz) := Gd.aggL ⟨.nil _, .nil _, trivial⟩
theorem back_own (a b : V) (H : Heap) (ka : kn a = true) (ca : cellsOf a = [a]) (sa : scal a = true) (kb : kn b = true) (cb : cellsOf b = [b]) (sb : scal b = true) : Fc C 89 [.agg [a, b]] H fun v H' => v = .agg [a, b] ∧ ∃ X, H' = H ++ X := by
 refine Fc.bodyT Qfz Tryz.func89 w89 rfl Tryz.ntmps89 Tryz.results89 (zLe rfl) ?_
 (refine Zo ?_;repeat' ((with_reducible first|refine Zk ?_|(first|apply Za|apply Zb|apply Zc|apply Zd)<;>intro h)<;>try simp -implicitDefEqProofs (maxSteps:=9^7) (disch:=first|omega|(simp only [lens];omega)) only [go_sem, ka, ca, sa, kb, cb, sb]))
 exact ⟨_, rfl⟩
theorem Qiiz (t : Tn) (ht : TnOK t) : Val C 59 [.sl t.shape.length (ints t.shape), .sl t.el.length (Qxz t.el)] (.tup [tnV (mkT t).1, .int .i64 (mkT t).2]) := by
 refine Fc.keep (Fc.bodyT Qfz Tryz.func59 w59 rfl Tryz.ntmps59 Tryz.results59 (zLe rfl) ?_)
 (refine Zo ?_;repeat' ((with_reducible first|refine Zk ?_|(first|apply Za|apply Zb|apply Zc|apply Zd)<;>intro h)<;>try simp -implicitDefEqProofs (maxSteps:=9^7) (disch:=first|omega|(simp only [lens];omega)) only [go_sem]))
 refine Fc.pure (Qjwz t ht) (by simp [cloL, clo, Qaz, Qiz]) (fun g => rfl) ?_
 (refine Zo ?_;repeat' ((with_reducible first|refine Zk ?_|(first|apply Za|apply Zb|apply Zc|apply Zd)<;>intro h)<;>try simp -implicitDefEqProofs (maxSteps:=9^7) (disch:=first|omega|(simp only [lens];omega)) only [go_sem]))
 ·rw [mkT, if_pos h]
  exact Gd.ret (Gd.tupL ⟨Qoqz, gd_i _ _, trivial⟩)
 ·rw [mkT, if_neg (by omega)]
  refine Fc.pure (of_spec t) (by simp [cloL, clo, Qaz, Qiz]) (fun g => by simp [tnV, ren, renL, Qpz, QWz _ _ (Qiz t.el)]) ?_
  (refine Zo ?_;repeat' ((with_reducible first|refine Zk ?_|(first|apply Za|apply Zb|apply Zc|apply Zd)<;>intro h)<;>try simp -implicitDefEqProofs (maxSteps:=9^7) (disch:=first|omega|(simp only [lens];omega)) only [go_sem]))
  refine (Qpiz t ht).keptF ⟨.self (Qrz t), .self rfl, trivial⟩ fun v X hv => ?_
  obtain ⟨a, b, rfl, ha, hb⟩ := hv.agg2
  obtain ⟨ka, ca, sa⟩ := Q9z ha.gd
  obtain ⟨kb, cb, sb⟩ := Q9z hb.gd
  (refine Zo ?_;repeat' ((with_reducible first|refine Zk ?_|(first|apply Za|apply Zb|apply Zc|apply Zd)<;>intro h)<;>try simp -implicitDefEqProofs (maxSteps:=9^7) (disch:=first|omega|(simp only [lens];omega)) only [go_sem]))
  refine (back_own a b _ ka ca sa kb cb sb).mono ?_
  rintro v H' ⟨rfl, Y, rfl⟩
  (refine Zo ?_;repeat' ((with_reducible first|refine Zk ?_|(first|apply Za|apply Zb|apply Zc|apply Zd)<;>intro h)<;>try simp -implicitDefEqProofs (maxSteps:=9^7) (disch:=first|omega|(simp only [lens];omega)) only [go_sem, ka, ca, sa, kb, cb, sb]))
  exact Gd.ret (Gd.tupL ⟨Gd.aggL ⟨((ha.app Y).set (q := 0) (by simp) _).gd, ((hb.app Y).set (q := 0) (by simp) _).gd, trivial⟩, gd_i _ _, trivial⟩)
end Go.Proofs.YtjdbdmhjakfldaaGreat
end
section
namespace Go.Proofs.YtjdbdmhjakfldaaGreat
open Go.Bv
def offP (s xs : List Int) : Nat → Int
 | 0 => 0
 | i + 1 => offP s xs i * s.getD i 0 + xs.getD i 0
def inB (s xs : List Int) : Bool := (List.range s.length).all fun i => decide (0 ≤ xs.getD i 0 ∧ xs.getD i 0 < s.getD i 0)
def offE (s xs : List Int) : Int := if mayP s ≠ 0 then mayP s else if xs.length ≠ s.length then 2 else if inB s xs then 0 else 21
def offN (s xs : List Int) : Int := if offE s xs = 0 then offP s xs s.length else 0
theorem Qejz {s xs : List Int} : inB s xs = true ↔ ∀ i, i < s.length → 0 ≤ xs.getD i 0 ∧ xs.getD i 0 < s.getD i 0 := by simp [inB]
theorem offP_lt {s xs : List Int} (h : ∀ i, i < s.length → 0 ≤ xs.getD i 0 ∧ xs.getD i 0 < s.getD i 0) : ∀ i, i ≤ s.length → 0 ≤ offP s xs i ∧ offP s xs i < Qlz (s.take i)
 | 0, _ => by simp [offP, Qlz]
 | i + 1, hi => by
  obtain ⟨h1, h2⟩ := offP_lt h i (by omega)
  obtain ⟨h3, h4⟩ := h i (by omega)
  rw [QYz (by omega), offP]
  have h5 : offP s xs i * s.getD i 0 ≤ (Qlz (s.take i) - 1) * s.getD i 0 := Int.mul_le_mul_of_nonneg_right (by omega) (by omega)
  have h6 : 0 ≤ offP s xs i * s.getD i 0 := Int.mul_nonneg h1 (by omega)
  rw [Int.sub_mul, Int.one_mul] at h5
  omega
theorem Qmcz (s xs : List Int) (hs : s.length ≤ 1000000000) (hx : xs.length ≤ 1000000000) : Pu C 68 [.sl s.length (ints s), .sl xs.length (ints xs)] (.tup [.int .i64 (offN s xs), .int .i64 (offE s xs)]) := by
 refine Fc.keep (Fc.bodyT Qfz Tryz.func68 w68 rfl Tryz.ntmps68 Tryz.results68 (zLe rfl) ?_)
 (refine Zo ?_;repeat' ((with_reducible first|refine Zk ?_|(first|apply Za|apply Zb|apply Zc|apply Zd)<;>intro h)<;>try simp -implicitDefEqProofs (maxSteps:=9^7) (disch:=first|omega|(simp only [lens];omega)) only [go_sem]))
 refine Fc.pure (ZFz s (by omega)) (by simp [go_sem, cloL, clo, Qaz, Qnz]) (by intro g; simp only [go_sem, ren, renL]) ?_
 (refine Zo ?_;repeat' ((with_reducible first|refine Zk ?_|(first|apply Za|apply Zb|apply Zc|apply Zd)<;>intro h)<;>try simp -implicitDefEqProofs (maxSteps:=9^7) (disch:=first|omega|(simp only [lens];omega)) only [go_sem]))
 ·skip
  (refine Qmz (by intro g; simp only [go_sem, ren, renL]) ?_)
  have : offE s xs = mayP s := if_pos h
  rw [offN, this, if_neg h]
 ·have hm : mayP s = 0 := by omega
  (refine Qmz (by intro g; simp only [go_sem, ren, renL]) ?_)
  have : offE s xs = 2 := by rw [offE, if_neg (by omega), if_pos (by omega)]
  rw [offN, this, if_neg (by decide)]
 ·have hm : mayP s = 0 := by omega
  have hl : xs.length = s.length := by omega
  obtain ⟨m1, m2, m3⟩ := QFz hm
  have hoe : offE s xs = if inB s xs then 0 else 21 := by rw [offE, if_neg (by omega), if_neg (by omega)]
  refine Qcz (fun n ts H => ∃ (i : Nat), (i ≤ s.length) ∧ ((∀ j, j < i → 0 ≤ xs.getD j 0 ∧ xs.getD j 0 < s.getD j 0)) ∧ (H = []) ∧ (n = s.length - i) ∧ ts.length = 50 ∧ nth ts 0 = .sl s.length (ints s) ∧ nth ts 1 = .sl xs.length (ints xs) ∧ nth ts 7 = .int .i64 (offP s xs i) ∧ nth ts 20 = .sl s.length (ints s) ∧ nth ts 21 = .int .i64 (s.length : Nat) ∧ nth ts 22 = .int .i64 (i : Nat)) ?_ (n := s.length) ?_
  ·skip
   rintro n ts H ⟨i, hi, hI, hH, hn, hL, hs0, hs1, hs7, hs20, hs21, hs22⟩
   refine Qqz [(0, .sl s.length (ints s)), (1, .sl xs.length (ints xs)), (7, .int .i64 (offP s xs i)), (20, .sl s.length (ints s)), (21, .int .i64 (s.length : Nat)), (22, .int .i64 (i : Nat))] hL (by simp only [zFm, hs0, hs1, hs7, hs20, hs21, hs22, true_and]; exact zNm) ?_
   clear hL hs0 hs1 hs7 hs20 hs21 hs22 ts
   refine Qsz Qfz ?_
   subst hH
   by_cases hcase : i < s.length
   ·have hsi : 1 ≤ s.getD i 0 := Xnz.1 m2 i hcase
    have hsu : s.getD i 0 ≤ Qlz s := Qwz m2 hcase
    have hpl := Z5z m2 i
    have hoff : 0 ≤ offP s xs i ∧ offP s xs i < Qlz (s.take i) := by
     have hh : ∀ (m : Nat), m ≤ i → 0 ≤ offP s xs m ∧ offP s xs m < Qlz (s.take m) := fun m => by
      induction m with
      | zero => intro _; simp [offP, Qlz]
      | succ m ih =>
       intro hm
       obtain ⟨h1, h2⟩ := ih (by omega)
       obtain ⟨h3, h4⟩ := hI m (by omega)
       rw [QYz (by omega), offP]
       have h5 : offP s xs m * s.getD m 0 ≤ (Qlz (s.take m) - 1) * s.getD m 0 := Int.mul_le_mul_of_nonneg_right (by omega) (by omega)
       have h6 : 0 ≤ offP s xs m * s.getD m 0 := Int.mul_nonneg h1 (by omega)
       rw [Int.sub_mul, Int.one_mul] at h5
       omega
     exact hh i (Nat.le_refl _)
    have hmul : 0 ≤ offP s xs i * s.getD i 0 ∧ offP s xs i * s.getD i 0 ≤ 1048576 := by
     refine ⟨Int.mul_nonneg hoff.1 (by omega), ?_⟩
     have := Int.mul_le_mul (show offP s xs i ≤ 1024 by omega) (show s.getD i 0 ≤ 1024 by omega) (by omega) (by decide)
     omega
    by_cases hin : 0 ≤ xs.getD i 0 ∧ xs.getD i 0 < s.getD i 0
    ·have e : offP s xs (i + 1) = offP s xs i * s.getD i 0 + xs.getD i 0 := rfl
     generalize hq : offP s xs i * s.getD i 0 = q at *
     generalize offP s xs i = o at *
     generalize hd : s.getD i 0 = d at *
     generalize hxx : xs.getD i 0 = x at *
     have hI' : ∀ j, j < i + 1 → 0 ≤ xs.getD j 0 ∧ xs.getD j 0 < s.getD j 0 := allS hI (by rw [hd, hxx]; exact hin)
     (refine Zo ?_;repeat' ((with_reducible first|refine Zk ?_|(first|apply Za|apply Zb|apply Zc|apply Zd)<;>intro h)<;>try simp -implicitDefEqProofs (maxSteps:=9^7) (disch:=first|omega|(simp only [lens];omega)) only [go_sem, hq, hd, hxx]))
     refine ⟨s.length - (i + 1), by omega, i + 1, by omega, hI', rfl, by rw [e], by congr 1⟩
    ·have hno : inB s xs = false := by
      rw [Bool.eq_false_iff]
      intro hh
      exact hin (Qejz.1 hh i hcase)
     have e21 : offE s xs = 21 := by rw [hoe, hno]; rfl
     have e0 : offN s xs = 0 := by rw [offN, e21, if_neg (by decide)]
     rw [e21, e0]
     (refine Zo ?_;repeat' ((with_reducible first|refine Zk ?_|(first|apply Za|apply Zb|apply Zc|apply Zd)<;>intro h)<;>try simp -implicitDefEqProofs (maxSteps:=9^7) (disch:=first|omega|(simp only [lens];omega)) only [go_sem]))
     all_goals (refine Qmz (by intro g; simp only [go_sem, ren, renL]) ?_)
     all_goals rfl
   ·have hil : i = s.length := by omega
    subst hil
    have hyes : inB s xs = true := Qejz.2 hI
    (refine Zo ?_;repeat' ((with_reducible first|refine Zk ?_|(first|apply Za|apply Zb|apply Zc|apply Zd)<;>intro h)<;>try simp -implicitDefEqProofs (maxSteps:=9^7) (disch:=first|omega|(simp only [lens];omega)) only [go_sem]))
    (refine Qmz (by intro g; simp only [go_sem, ren, renL]) ?_)
    have e21 : offE s xs = 0 := by rw [hoe, hyes]; rfl
    rw [e21, offN, if_pos e21]
  ·exact ⟨0, by omega, fun j hj => by omega, rfl, rfl, rfl, rfl, rfl, rfl, rfl, rfl, rfl⟩
theorem yk132 : Tryz.f132.body.all yOK = true := by kernel_rfl
def backV (s : List Int) : V := .fn (.func 132) [] [.rp [.sl s.length (ints s)] 0]
theorem Qhwz (s : List Int) : Pu C 111 [.sl s.length (ints s)] (backV s) := by
 refine Fc.keep (Fc.sealR ?_)
 refine Fc.bodyT Qfz Tryz.func111 w111 rfl Tryz.ntmps111 Tryz.results111 (zLe rfl) ?_
 (refine Zo ?_;repeat' ((with_reducible first|refine Zk ?_|(first|apply Za|apply Zb|apply Zc|apply Zd)<;>intro h)<;>try simp -implicitDefEqProofs (maxSteps:=9^7) (disch:=first|omega|(simp only [lens];omega)) only [go_sem]))
 refine ⟨0, _, 1, [.sl s.length (ints s)], rfl, by simp [cloL, clo, Qaz], [], by simp, by simp, ?_⟩
 simp [sz, szL, ren, renL, backV, selH, Qpz]
def Qkxz (s : List Int) : List (List V) := (List.range s.length).map fun k => [.int .i64 (s.length - 1 - k : Nat), .int .i64 (s.getD (s.length - 1 - k) 0)]
theorem Qkwz {s : List Int} {k : Nat} (h : k < s.length) : (Qkxz s)[k]? = some [.int .i64 (s.length - 1 - k : Nat), .int .i64 (s.getD (s.length - 1 - k) 0)] := by simp [Qkxz, h]
theorem Qalz (s : List Int) : (Qkxz s).length = s.length := by simp [Qkxz]
theorem Qkuz (s : List Int) (hs : s.length ≤ 1000000000) : Gen C 132 [.rp [.sl s.length (ints s)] 0] (Qkxz s) := by
 refine Gen.of3 Qfz Tryz.func132 w132 yk132 rfl Tryz.ntmps132 Tryz.results132 (zLe rfl) (fun bs hb => by
  simp only [Qkxz, List.mem_map, List.mem_range] at hb
  obtain ⟨i, _, rfl⟩ := hb
  simp [cloL, clo]) ?_
 intro G l J hW
 (refine Zo ?_;repeat' ((with_reducible first|refine Zk ?_|(first|apply Za|apply Zb|apply Zc|apply Zd)<;>intro h)<;>try simp -implicitDefEqProofs (maxSteps:=9^7) (disch:=first|omega|(simp only [lens];omega)) only [go_sem]))
 refine XSz (fun n ts H => ∃ (i : Nat), (i ≤ s.length) ∧ (n = s.length - i) ∧ (H.length = i) ∧ ts.length = 19 ∧ nth ts 0 = .fn (.yield l) [] [] ∧ nth ts 1 = .rp [.sl s.length (ints s)] 0 ∧ nth ts 3 = .int .i64 ((s.length : Int) - 1 - i)) ?_ (n := s.length) ?_
 ·skip
  rintro n ts H ⟨i, hi, hn, hH, hL, hs0, hs1, hs3⟩
  refine Qezz [(0, .fn (.yield l) [] []), (1, .rp [.sl s.length (ints s)] 0), (3, .int .i64 ((s.length : Int) - 1 - i))] hL (by simp only [zFm, hs0, hs1, hs3, true_and]; exact zNm) ?_
  clear hL hs0 hs1 hs3 ts
  refine hW _ _ _ _ ?_
  by_cases hcase : i < s.length
  ·have e : ((s.length : Int) - 1 - (i : Int)) = ((s.length - 1 - i : Nat) : Int) := by omega
   (refine Zo ?_;repeat' ((with_reducible first|refine Zk ?_|(first|apply Za|apply Zb|apply Zc|apply Zd)<;>intro h)<;>try simp -implicitDefEqProofs (maxSteps:=9^7) (disch:=first|omega|(simp only [lens];omega)) only [go_sem, e]))
   rw [hH, Qalz]
   refine ⟨Qkwz hcase, ⟨s.length - (i + 1), by omega, i + 1, by omega, rfl, rfl, by congr 1; omega⟩, .inr trivial, .inr ?_⟩
   rw [List.length_replicate]; omega
  ·skip
   (refine Zo ?_;repeat' ((with_reducible first|refine Zk ?_|(first|apply Za|apply Zb|apply Zc|apply Zd)<;>intro h)<;>try simp -implicitDefEqProofs (maxSteps:=9^7) (disch:=first|omega|(simp only [lens];omega)) only [go_sem]))
   rw [Qalz]
   exact ⟨.inl trivial, .inl (by omega)⟩
 ·exact ⟨0, by omega, by omega, rfl, rfl, rfl, by simp -implicitDefEqProofs (maxSteps:=9^7) (disch := first | omega | (simp only [lens]; omega)) only [go_sem]; congr 1; omega⟩
end Go.Proofs.YtjdbdmhjakfldaaGreat
end
section
namespace Go.Proofs.YtjdbdmhjakfldaaGreat
open Go.Bv
def Qcbz (s : List Int) (n : Int) (i : Nat) : Int := (n / Qlz (s.drop (i + 1))) % s.getD i 0
def idxL (s : List Int) (n : Int) : List Int := (List.range s.length).map (Qcbz s n)
def outK (s : List Int) (n : Int) (k : Nat) : List Int := (List.range s.length).map fun j => if s.length - k ≤ j then Qcbz s n j else 0
theorem outK_len (s : List Int) (n : Int) (k : Nat) : (outK s n k).length = s.length := by simp [outK]
theorem Y4z (s : List Int) (n : Int) : (idxL s n).length = s.length := by simp [idxL]
theorem outK_full (s : List Int) (n : Int) : outK s n s.length = idxL s n := by simp [outK, idxL]
theorem outK_zero (s : List Int) (n : Int) : outK s n 0 = List.replicate s.length 0 := by
 refine List.ext_getElem (by simp [outK]) fun j h1 h2 => ?_
 simp [outK] at h1 ⊢
 intro; omega
theorem outK_step {s : List Int} {n : Int} {k : Nat} (h : k < s.length) : (outK s n k).set (s.length - 1 - k) (Qcbz s n (s.length - 1 - k)) = outK s n (k + 1) := by
 refine List.ext_getElem (by simp [outK]) fun j h1 h2 => ?_
 rw [List.getElem_set]
 simp [outK] at h1 h2 ⊢
 split
 ·rename_i e; subst e; rw [if_pos (by omega)]
 ·rename_i e
  by_cases hj : s.length ≤ j + k
  ·rw [if_pos hj, if_pos (by omega)]
  ·rw [if_neg hj, if_neg (by omega)]
theorem Qpxz {s : List Int} {i : Nat} (h : i < s.length) : Qlz (s.drop i) = s.getD i 0 * Qlz (s.drop (i + 1)) := by
 rw [List.drop_eq_getElem_cons h]; simp [Qlz, List.getD, h]
theorem X1z {s : List Int} (h : ∀ d ∈ s, 1 ≤ d) {i : Nat} (hi : i < s.length) : 1 ≤ s.getD i 0 := Xnz.1 h i hi
theorem Qhlz {s : List Int} (h : ∀ d ∈ s, 1 ≤ d) {n : Int} {i : Nat} (hi : i < s.length) : n / Qlz (s.drop (i + 1)) / s.getD i 0 = n / Qlz (s.drop i) := by
 have h2 := Q7z (l := s.drop (i + 1)) fun d hd => h d (List.mem_of_mem_drop hd)
 rw [Qpxz hi, Int.ediv_ediv_of_nonneg (by omega), Int.mul_comm]
theorem idxAt_in {s : List Int} (h : ∀ d ∈ s, 1 ≤ d) (n : Int) {i : Nat} (hi : i < s.length) : 0 ≤ Qcbz s n i ∧ Qcbz s n i < s.getD i 0 := by
 have := X1z h hi
 exact ⟨Int.emod_nonneg _ (by omega), Int.emod_lt_of_pos _ (by omega)⟩
theorem Qafz (n : Nat) : nats .i64 (List.replicate n 0) = ints (List.replicate n 0) := by
 induction n with
 | zero => rfl
 | succ n ih => simp only [List.replicate_succ, nats, ints, List.map_cons] at ih ⊢; rw [ih]; rfl
theorem index_val (s : List Int) (n : Int) (hs : s.length ≤ 1000000000) (hm : mayP s = 0) (h0 : 0 ≤ n) (hn : n < Qlz s) : Val C 93 [.sl s.length (ints s), .int .i64 n] (.tup [.sl (idxL s n).length (ints (idxL s n)), .int .i64 0]) := by
 obtain ⟨m1, m2, m3⟩ := QFz hm
 have hv : backV s = .fn (.func 132) [] [.rp [.sl s.length (ints s)] 0] := rfl
 have hp : Qgyz s = Qlz s := by unfold Qgyz; rw [if_neg (by omega)]
 refine Fc.keep (Fc.bodyT Qfz Tryz.func93 w93 rfl Tryz.ntmps93 Tryz.results93 (zLe rfl) ?_)
 (refine Zo ?_;repeat' ((with_reducible first|refine Zk ?_|(first|apply Za|apply Zb|apply Zc|apply Zd)<;>intro h)<;>try simp -implicitDefEqProofs (maxSteps:=9^7) (disch:=first|omega|(simp only [lens];omega)) only [go_sem]))
 refine Fc.pure (ZFz s (by omega)) (by simp [go_sem, cloL, clo, Qaz, Qnz]) (by intro g; simp only [go_sem, ren, renL]) ?_
 rw [hm]
 (refine Zo ?_;repeat' ((with_reducible first|refine Zk ?_|(first|apply Za|apply Zb|apply Zc|apply Zd)<;>intro h)<;>try simp -implicitDefEqProofs (maxSteps:=9^7) (disch:=first|omega|(simp only [lens];omega)) only [go_sem]))
 refine Pc.pure (Znz s (by omega) m2) (by simp [cloL, clo, Qaz]) (fun g => rfl) ?_
 rw [hp]
 (refine Zo ?_;repeat' ((with_reducible first|refine Zk ?_|(first|apply Za|apply Zb|apply Zc|apply Zd)<;>intro h)<;>try simp -implicitDefEqProofs (maxSteps:=9^7) (disch:=first|omega|(simp only [lens];omega)) only [go_sem]))
 refine Y1z rfl rfl rfl rfl (by simp [t3bytes]) (by omega) ?_
 (refine Zo ?_;repeat' ((with_reducible first|refine Zk ?_|(first|apply Za|apply Zb|apply Zc|apply Zd)<;>intro h)<;>try simp -implicitDefEqProofs (maxSteps:=9^7) (disch:=first|omega|(simp only [lens];omega)) only [go_sem]))
 refine Fc.pure (Qhwz s) (by simp [cloL, clo, Qaz]) (fun g => by simp [backV, ren, renL, Qpz]) ?_
 (refine Zo ?_;repeat' ((with_reducible first|refine Zk ?_|(first|apply Za|apply Zb|apply Zc|apply Zd)<;>intro h)<;>try simp -implicitDefEqProofs (maxSteps:=9^7) (disch:=first|omega|(simp only [lens];omega)) only [go_sem, hv]))
 refine XPz (g := 132) (lb := [.rp [.sl s.length (ints s)] 0]) (xs := Qkxz s) (by simp -implicitDefEqProofs (maxSteps:=9^7) (disch := first | omega | (simp only [lens]; omega)) only [go_sem]) (by simp [cloL, clo, Qaz]) (Qkuz s hs) (fun bs hb => by
   simp only [Qkxz, List.mem_map, List.mem_range] at hb
   obtain ⟨i, _, rfl⟩ := hb
   rfl) (fun k H => Qbz H 0 = some ⟨3, 1, [.int .i64 (n / Qlz (s.drop (s.length - k)))]⟩ ∧ Qbz H 1 = some ⟨3, 1, ints (outK s n k)⟩ ∧ Qbz H 2 = some ⟨22, 1, [.ref 1 0 s.length]⟩) ?_ ?_ ?_
 ·refine ⟨?_, ?_, rfl⟩
  ·rw [Nat.sub_zero, List.drop_length]
   simp [Qbz, Qlz]
  ·rw [outK_zero, ← Qafz]; rfl
 ·rintro k us H hk ⟨h0, h1, h2⟩ l
  have hkl : k < s.length := by
   have := (List.getElem?_eq_some_iff.1 hk).1
   rwa [Qalz] at this
  rw [Qkwz hkl] at hk
  injection hk with hk
  subst hk
  have hd := X1z m2 (i := s.length - 1 - k) (by omega)
  have hdu := Qwz m2 (i := s.length - 1 - k) (by omega)
  have hq0 : 0 ≤ n / Qlz (s.drop (s.length - k)) := Int.ediv_nonneg (by omega) (by have := Q7z (l := s.drop (s.length - k)) fun d hd => m2 d (List.mem_of_mem_drop hd); omega)
  have hq1 : n / Qlz (s.drop (s.length - k)) ≤ n := Int.ediv_le_self _ (by omega)
  have hst := outK_step (n := n) hkl
  have hnx := Qhlz m2 (n := n) (i := s.length - 1 - k) (by omega)
  have hii : Qcbz s n (s.length - 1 - k) = n / Qlz (s.drop (s.length - k)) % s.getD (s.length - 1 - k) 0 := by
   rw [Qcbz, show s.length - 1 - k + 1 = s.length - k by omega]
  rw [show s.length - 1 - k + 1 = s.length - k by omega] at hnx
  have hlen := outK_len s n k
  have hw : s.length - (k + 1) = s.length - 1 - k := by omega
  rw [hw]
  rw [hii] at hst
  rw [← hnx]
  have hm1 := Int.emod_nonneg (n / Qlz (s.drop (s.length - k))) (show s.getD (s.length - 1 - k) 0 ≠ 0 by omega)
  have hm2 := Int.emod_lt_of_pos (n / Qlz (s.drop (s.length - k))) (show 0 < s.getD (s.length - 1 - k) 0 by omega)
  have hdv := Int.ediv_le_self (a := n / Qlz (s.drop (s.length - k))) (s.getD (s.length - 1 - k) 0) hq0
  have hdv0 := Int.ediv_nonneg hq0 (show 0 ≤ s.getD (s.length - 1 - k) 0 by omega)
  generalize n / Qlz (s.drop (s.length - k)) = q at *
  generalize s.getD (s.length - 1 - k) 0 = d at *
  have f0 : ∀ z, Qbz (H.set 1 z) 0 = some ⟨3, 1, [.int .i64 q]⟩ := fun z => by rw [Qdz _ (by decide)]; exact h0
  (refine Qsz Qfz ?_; simp -implicitDefEqProofs (maxSteps:=9^7) (disch := first | omega | (simp only [lens]; omega)) only [go_sem, putl])
  (refine Qsz Qfz ?_; simp -implicitDefEqProofs (maxSteps:=9^7) (disch := first | omega | (simp only [lens]; omega)) only [go_sem, h0, h1, h2, f0, QBz, hst, XJz])
  refine ⟨Qez (f0 _), ?_, ?_⟩
  ·rw [Qdz _ (by decide)]; exact Qez h1
  ·rw [Qdz _ (by decide), Qdz _ (by decide)]; exact h2
 ·rintro H ⟨h0, h1, h2⟩
  rw [Qalz, outK_full] at h1
  (refine Zo ?_;repeat' ((with_reducible first|refine Zk ?_|(first|apply Za|apply Zb|apply Zc|apply Zd)<;>intro h)<;>try simp -implicitDefEqProofs (maxSteps:=9^7) (disch:=first|omega|(simp only [lens];omega)) only [go_sem, h0, h1, h2]))
  rw [Y4z]
  exact Gd.ret (Gd.tupL ⟨.flat 1 _ _ _ _ h1 (Qaz _) (QTz _), .leaf _ rfl rfl, trivial⟩)
end Go.Proofs.YtjdbdmhjakfldaaGreat
end
section
namespace Go.Proofs.YtjdbdmhjakfldaaGreat
open Go.Bv
def Qfcz : Raw := Xoz (intQ 0)
def gatL (N : Nat) (none : Raw) (p : Nat → Raw) (b : Nat → Bool) : List Raw := (List.range N).map fun i => if b i then p i else none
theorem Qcuz (N : Nat) (no : Raw) (p : Nat → Raw) (b : Nat → Bool) : (gatL N no p b).length = N := by simp [gatL]
theorem Qjvz (N : Nat) (no : Raw) (p : Nat → Raw) (b : Nat → Bool) : gatL (N + 1) no p b = gatL N no p b ++ [if b N then p N else no] := by simp [gatL, List.range_succ]
theorem rawsC_app (xs : List Raw) (x : Raw) : Qxz (xs ++ [x]) = Qxz xs ++ [.bool x.neg, NA x.num, NA x.den] := by rw [Qxz, Zyz]; rfl
theorem Qpuz (xs : List Raw) : (Qxz xs).all scal = true := by
 induction xs with
 | nil => rfl
 | cons x xs ih => simp only [Qxz, Qbgz, List.all_cons] at ih ⊢; rw [ih]; rfl
theorem Qnxz {y : Ty} {e e' s' i : Nat} {H : Heap} {v : V} {xs : List Raw} {x : Raw} {r1 : Option Row} {K : V → Heap → Prop} (h : Bv.Own e 3 H v i (Qxz xs)) (hy : y.size = 3) (hby : y.bytes = 56) (hn : i + 1 ≤ 1000000000)
  (hK : ∀ v' H', Bv.Own e 3 H' v' (i + 1) (Qxz (xs ++ [x])) → (∀ q row, (∀ off m, v ≠ .ref q off m) → Qbz H q = some row → Qbz H' q = some row) → (∀ r off m, v' = .ref r off m → 1 ≤ r) → K v' H') :
  appw y e v (.ref (H.length + 1) 0 1) (H ++ [r1, some ⟨e', s', [.bool x.neg, .sl x.num.length (nats .u32 x.num), .sl x.den.length (nats .u32 x.den)]⟩]) K := by
 rw [show H ++ [r1, some (⟨e', s', [.bool x.neg, .sl x.num.length (nats .u32 x.num), .sl x.den.length (nats .u32 x.den)]⟩ : Row)] = (H ++ [r1]) ++ [some ⟨e', s', [.bool x.neg, .sl x.num.length (nats .u32 x.num), .sl x.den.length (nats .u32 x.den)]⟩] by simp, show H.length + 1 = (H ++ [r1]).length by simp]
 have h' := h.keep [r1]
 rw [← hy] at h'
 refine Qcyz h' (by rw [hy]; rfl) (by simp [scal]) (by omega) (by omega) (by rw [hby]; omega) (Qpuz _) fun H' k1 k2 k3 => ?_
 rw [hy] at k1
 refine hK _ H' (by rw [rawsC_app]; exact k1) (fun q row hq hr => k2 q row hq (Qgz hr _)) fun r off m e => by injection e with e; omega
theorem Qjuz (s : List Int) (no : Raw) (f : Nat) (caps : List V) (p : Nat → Raw) (b : Nat → Bool) (N : Nat) (hs : s.length ≤ 1000000000) (hm : mayP s = 0) (hN : (N : Int) = Qlz s) (hc : cloL caps = true)
  (hp : ∀ i, i < N → Pu C f (.sl (idxL s (i : Nat)).length (ints (idxL s (i : Nat))) :: caps) (.tup [rawV (p i), .bool (b i)])) :
  Pu C 66 [.sl s.length (ints s), rawV no, .fn (.func f) [] caps] (.sl N (Qxz (gatL N no p b))) := by
 obtain ⟨m1, m2, m3⟩ := QFz hm
 have hct : countP s = (N : Int) := by rw [countP, if_pos hm, hN]
 refine Fc.valO (e := 58) (s := 3) ?_ (Qiz _)
 refine Fc.keep (Fc.bodyT Qfz Tryz.func66 w66 rfl Tryz.ntmps66 Tryz.results66 (zLe rfl) ?_)
 (refine Zo ?_;repeat' ((with_reducible first|refine Zk ?_|(first|apply Za|apply Zb|apply Zc|apply Zd)<;>intro h)<;>try simp -implicitDefEqProofs (maxSteps:=9^7) (disch:=first|omega|(simp only [lens];omega)) only [go_sem]))
 refine Fc.pure (Qgrz s (by omega)) (by simp [go_sem, cloL, clo, Qaz, Qnz]) (by intro g; simp only [go_sem, ren, renL]) ?_
 rw [hct]
 (refine Zo ?_;repeat' ((with_reducible first|refine Zk ?_|(first|apply Za|apply Zb|apply Zc|apply Zd)<;>intro h)<;>try simp -implicitDefEqProofs (maxSteps:=9^7) (disch:=first|omega|(simp only [lens];omega)) only [go_sem]))
 refine Qcz (fun n ts H => ∃ (i : Nat) (u : V), (i ≤ N) ∧ (n = N - i) ∧ (Qbz H 0 = some ⟨58, 3, [.bool no.neg, NA no.num, NA no.den]⟩) ∧ (Bv.Own 58 3 H u i (Qxz (gatL i no p b))) ∧ ((∀ r off m, u = .ref r off m → 1 ≤ r)) ∧ ts.length = 39 ∧ nth ts 0 = .sl s.length (ints s) ∧ nth ts 2 = .fn (.func f) [] caps ∧ nth ts 4 = .ptr 0 0 ∧ nth ts 7 = u ∧ nth ts 14 = .int .i64 (N : Nat) ∧ nth ts 15 = .int .i64 (i : Nat)) ?_ (n := N) ?_
 ·skip
  rintro n ts H ⟨i, u, hi, hn, h0, hu, hr, hL, hs0, hs2, hs4, hs7, hs14, hs15⟩
  refine Qqz [(0, .sl s.length (ints s)), (2, .fn (.func f) [] caps), (4, .ptr 0 0), (7, u), (14, .int .i64 (N : Nat)), (15, .int .i64 (i : Nat))] hL (by simp only [zFm, hs0, hs2, hs4, hs7, hs14, hs15, true_and]; exact zNm) ?_
  clear hL hs0 hs2 hs4 hs7 hs14 hs15 ts
  refine Qsz Qfz ?_
  by_cases hcase : i < N
  ·skip
   (refine Zo ?_;repeat' ((with_reducible first|refine Zk ?_|(first|apply Za|apply Zb|apply Zc|apply Zd)<;>intro h)<;>try simp -implicitDefEqProofs (maxSteps:=9^7) (disch:=first|omega|(simp only [lens];omega)) only [go_sem]))
   refine (index_val s (i : Nat) hs hm (by omega) (by omega)).call ⟨.self (by simp [clo, Qaz]), .self rfl, trivial⟩ (by simp [clo, cloL, Qaz]) ?_
   (refine Zo ?_;repeat' ((with_reducible first|refine Zk ?_|(first|apply Za|apply Zb|apply Zc|apply Zd)<;>intro h)<;>try simp -implicitDefEqProofs (maxSteps:=9^7) (disch:=first|omega|(simp only [lens];omega)) only [go_sem]))
   refine Fc.pure (hp i hcase) (by simp [cloL, clo, Qaz, hc]) (fun g => by simp [ren, renL, rawV, NA, Xkz]) ?_
   have hkeep : ∀ X, Qbz (H ++ X) 0 = some ⟨58, 3, [.bool no.neg, NA no.num, NA no.den]⟩ := fun X => Qgz h0 X
   have hlen := Qtz h0
   cases hb : b i with
   | true =>
    (refine Zo ?_;repeat' ((with_reducible first|refine Zk ?_|(first|apply Za|apply Zb|apply Zc|apply Zd)<;>intro h)<;>try simp -implicitDefEqProofs (maxSteps:=9^7) (disch:=first|omega|(simp only [lens];omega)) only [go_sem, hkeep]))
    refine Qnxz hu rfl rfl (by omega) fun v' H' hu' hk hr' => ?_
    have h0' := hk 0 _ (fun off m e => by have := hr _ _ _ e; omega) h0
    have hg : Qxz (gatL (i + 1) no p b) = Qxz (gatL i no p b ++ [p i]) := by rw [Qjvz, hb]; rfl
    rw [← hg] at hu'
    (refine Zo ?_;repeat' ((with_reducible first|refine Zk ?_|(first|apply Za|apply Zb|apply Zc|apply Zd)<;>intro h)<;>try simp -implicitDefEqProofs (maxSteps:=9^7) (disch:=first|omega|(simp only [lens];omega)) only [go_sem]))
    exact ⟨N - (i + 1), by omega, i + 1, v', (by (repeat' apply And.intro) <;> (first | rfl | omega | (congr 1; omega) | assumption | (congr 1; assumption)))⟩
   | false =>
    (refine Zo ?_;repeat' ((with_reducible first|refine Zk ?_|(first|apply Za|apply Zb|apply Zc|apply Zd)<;>intro h)<;>try simp -implicitDefEqProofs (maxSteps:=9^7) (disch:=first|omega|(simp only [lens];omega)) only [go_sem, hkeep]))
    refine Qnxz hu rfl rfl (by omega) fun v' H' hu' hk hr' => ?_
    have h0' := hk 0 _ (fun off m e => by have := hr _ _ _ e; omega) h0
    have hg : Qxz (gatL (i + 1) no p b) = Qxz (gatL i no p b ++ [no]) := by rw [Qjvz, hb]; rfl
    rw [← hg] at hu'
    (refine Zo ?_;repeat' ((with_reducible first|refine Zk ?_|(first|apply Za|apply Zb|apply Zc|apply Zd)<;>intro h)<;>try simp -implicitDefEqProofs (maxSteps:=9^7) (disch:=first|omega|(simp only [lens];omega)) only [go_sem]))
    exact ⟨N - (i + 1), by omega, i + 1, v', (by (repeat' apply And.intro) <;> (first | rfl | omega | (congr 1; omega) | assumption | (congr 1; assumption)))⟩
  ·skip
   (refine Zo ?_;repeat' ((with_reducible first|refine Zk ?_|(first|apply Za|apply Zb|apply Zc|apply Zd)<;>intro h)<;>try simp -implicitDefEqProofs (maxSteps:=9^7) (disch:=first|omega|(simp only [lens];omega)) only [go_sem]))
   have : i = N := by omega
   subst this
   exact Own.ret hu (fun g => QWz _ _ (Qiz _)) fun v H h => h
 ·exact ⟨0, .nil, by omega, rfl, rfl, .inl ⟨rfl, rfl, rfl⟩, (fun r off m e => nomatch e), rfl, rfl, rfl, rfl, rfl, rfl, rfl⟩
def Qiwz (t : Tn) (l : List Int) : Raw := t.el.getD (offN t.shape l).toNat r0
def isAt (t : Tn) (l : List Int) : Bool := decide (offE t.shape l = 0)
theorem Qdtz {s l : List Int} (h : offE s l = 0) : 0 ≤ offN s l ∧ offN s l < Qlz s ∧ mayP s = 0 := by
 have hm : mayP s = 0 := by
  refine Classical.byContradiction fun hn => ?_
  rw [offE, if_pos hn] at h; exact hn h
 have hl : l.length = s.length := by
  refine Classical.byContradiction fun hn => ?_
  rw [offE, if_neg (by omega), if_pos hn] at h; cases h
 have hi : inB s l = true := by
  refine Classical.byContradiction fun hn => ?_
  rw [offE, if_neg (by omega), if_neg (by omega), if_neg hn] at h; cases h
 have := offP_lt (Qejz.1 hi) s.length (Nat.le_refl _)
 rw [List.take_length] at this
 rw [offN, if_pos h]
 exact ⟨this.1, this.2, hm⟩
theorem mv1_spec (t : Tn) (ht : TnOK t) (hf : Xpz t = 0) (f : Nat) (caps : List V) (hc : cloL caps = true) (x l : List Int) (hx : x.length ≤ 1000000000) (hl : l.length ≤ 1000000000) (hp : Val C f (.sl x.length (ints x) :: caps) (.sl l.length (ints l))) :
  Pu C 82 [.sl x.length (ints x), .rp [.sl t.shape.length (ints t.shape), .sl t.el.length (Qxz t.el)] 0, .rp [.fn (.func f) [] caps] 0] (.tup [rawV (if isAt t l then Qiwz t l else r0), .bool (isAt t l)]) := by
 have hs := ht.s
 have he := ht.e
 refine Pu.ofBor (by simp [clo, cloL, X2z]) ?_
 refine Fc.bodyT Qfz Tryz.func82 w82 rfl Tryz.ntmps82 Tryz.results82 (zLe rfl) ?_
 (refine Zo ?_;repeat' ((with_reducible first|refine Zk ?_|(first|apply Za|apply Zb|apply Zc|apply Zd)<;>intro h)<;>try simp -implicitDefEqProofs (maxSteps:=9^7) (disch:=first|omega|(simp only [lens];omega)) only [go_sem]))
 refine RunU.now ?_
 (refine Zo ?_;repeat' ((with_reducible first|refine Zk ?_|(first|apply Za|apply Zb|apply Zc|apply Zd)<;>intro h)<;>try simp -implicitDefEqProofs (maxSteps:=9^7) (disch:=first|omega|(simp only [lens];omega)) only [go_sem]))
 refine Val.pc hp ⟨.self (by simp [clo, Qaz]), BorL.selfs hc⟩ (by simp [clo, Qaz]) ?_
 (refine Zo ?_;repeat' ((with_reducible first|refine Zk ?_|(first|apply Za|apply Zb|apply Zc|apply Zd)<;>intro h)<;>try simp -implicitDefEqProofs (maxSteps:=9^7) (disch:=first|omega|(simp only [lens];omega)) only [go_sem]))
 refine Pc.pure (Qmcz t.shape l hs hl) (by simp [cloL, clo, Qaz]) (fun g => rfl) ?_
 by_cases hz : offE t.shape l = 0
 ·obtain ⟨h1, h2, h3⟩ := Qdtz hz
  have hel : (t.el.length : Int) = Qlz t.shape := by
   rw [Xpz, if_neg (by omega)] at hf
   split at hf
   ·cases hf
   ·rename_i h; rw [countP, if_pos h3] at h; omega
  obtain ⟨m, hm⟩ : ∃ m : Nat, offN t.shape l = m := ⟨(offN t.shape l).toNat, by omega⟩
  have hia : isAt t l = true := by simp [isAt, hz]
  have hpk : Qiwz t l = t.el.getD m r0 := by rw [Qiwz, hm]; rfl
  rw [hia, if_pos rfl, hpk, hm, hz]
  have hlt : m < t.el.length := by omega
  (refine Zo ?_;repeat' ((with_reducible first|refine Zk ?_|(first|apply Za|apply Zb|apply Zc|apply Zd)<;>intro h)<;>try simp -implicitDefEqProofs (maxSteps:=9^7) (disch:=first|omega|(simp only [lens];omega)) only [go_sem]))
  exact .self (by simp [clo, cloL, Qkz])
 ·have hia : isAt t l = false := by simp [isAt, hz]
  rw [hia, if_neg (by decide)]
  (refine Zo ?_;repeat' ((with_reducible first|refine Zk ?_|(first|apply Za|apply Zb|apply Zc|apply Zd)<;>intro h)<;>try simp -implicitDefEqProofs (maxSteps:=9^7) (disch:=first|omega|(simp only [lens];omega)) only [go_sem]))
  exact Bor.tupL ⟨Bor.aggL ⟨.self rfl, .nil _, .nil _, trivial⟩, .self rfl, trivial⟩
theorem Qmpz {s : List Int} (h : ∀ d ∈ s, 1 ≤ d) (n : Int) : ∀ j, j < s.length → 0 ≤ (idxL s n).getD j 0 ∧ (idxL s n).getD j 0 < s.getD j 0 := fun j hj => by
 have e : (idxL s n).getD j 0 = Qcbz s n j := by simp [idxL, List.getD, hj]
 rw [e]
 exact idxAt_in h n hj
def mvL (t : Tn) (s : List Int) (g : List Int → List Int) (N : Nat) : List Raw := gatL N Qfcz (fun i => if isAt t (g (idxL s (i : Nat))) then Qiwz t (g (idxL s (i : Nat))) else r0) (fun i => isAt t (g (idxL s (i : Nat))))
def mvT (t : Tn) (s : List Int) (g : List Int → List Int) : Tn := Qhgz ⟨s, mvL t s g (Qlz s).toNat⟩
theorem zeroR_ok : RawOK Qfcz := ⟨by simp [Qfcz, Xoz, intQ, QJz], by rw [Qfcz, Xoz, intQ, dg_one _ (by decide)]; decide, fun x hx => by simp [Qfcz, Xoz, intQ, QJz] at hx, fun x hx => by
 rw [Qfcz, Xoz, intQ, dg_one _ (by decide)] at hx
 simp at hx; rw [hx]; decide⟩
theorem pick_ok {t : Tn} (ht : TnOK t) (hf : Xpz t = 0) {l : List Int} (h : isAt t l = true) : RawOK (Qiwz t l) := by
 simp only [isAt, decide_eq_true_eq] at h
 obtain ⟨h1, h2, h3⟩ := Qdtz h
 have hel : (t.el.length : Int) = Qlz t.shape := by
  rw [Xpz, if_neg (by omega)] at hf
  split at hf
  ·cases hf
  ·rename_i h; rw [countP, if_pos h3] at h; omega
 exact ht.get (by omega)
theorem mvL_ok {t : Tn} (ht : TnOK t) (hf : Xpz t = 0) (s : List Int) (g : List Int → List Int) (N : Nat) : ∀ x ∈ mvL t s g N, RawOK x := fun x hx => by
 simp only [mvL, gatL, List.mem_map, List.mem_range] at hx
 obtain ⟨i, _, rfl⟩ := hx
 split
 ·rename_i h; first | exact pick_ok ht hf h | (rw [if_pos h]; exact pick_ok ht hf h)
 ·exact zeroR_ok
theorem Qdzz (t : Tn) (ht : TnOK t) (hf : Xpz t = 0) (s : List Int) (hs : s.length ≤ 1000000000) (hm : mayP s = 0) (f : Nat) (caps : List V) (hc : cloL caps = true) (g : List Int → List Int)
  (hp : ∀ x : List Int, x.length = s.length → (∀ j, j < s.length → 0 ≤ x.getD j 0 ∧ x.getD j 0 < s.getD j 0) → (g x).length ≤ 1000000000 ∧ Val C f (.sl x.length (ints x) :: caps) (.sl (g x).length (ints (g x)))) :
  Val C 41 [tnV t, .sl s.length (ints s), .fn (.func f) [] caps] (.tup [tnV (mvT t s g), .int .i64 0]) := by
 obtain ⟨m1, m2, m3⟩ := QFz hm
 have hpos := Q7z m2
 obtain ⟨N, hN⟩ : ∃ N : Nat, (N : Int) = Qlz s := ⟨(Qlz s).toNat, by omega⟩
 have hNN : (Qlz s).toNat = N := by omega
 have hok : TnOK ⟨s, mvL t s g N⟩ := ⟨hs, by simp only [mvL, Qcuz]; omega, mvL_ok ht hf s g N⟩
 have hfit : Xpz ⟨s, mvL t s g N⟩ = 0 := by
  have hm' : ¬ mayP s ≠ 0 := by omega
  rw [Xpz, if_neg hm', if_neg]
  show ¬ _ ≠ countP s
  rw [countP, if_pos hm]
  simp only [mvL, Qcuz]
  omega
 have hmk : mkT ⟨s, mvL t s g N⟩ = (mvT t s g, 0) := by rw [mkT, if_neg (by omega), mvT, hNN]
 have hmake := Qiiz ⟨s, mvL t s g N⟩ hok
 rw [hmk] at hmake
 have hlN : (mvL t s g N).length = N := Qcuz _ _ _ _
 simp only [hlN] at hmake
 have hgat := Qjuz s Qfcz 82 [.rp [.sl t.shape.length (ints t.shape), .sl t.el.length (Qxz t.el)] 0, .rp [.fn (.func f) [] caps] 0] (fun i => if isAt t (g (idxL s (i : Nat))) then Qiwz t (g (idxL s (i : Nat))) else r0) (fun i => isAt t (g (idxL s (i : Nat)))) N hs hm hN (by simp [cloL, clo, Qaz, Qiz, hc]) (fun i hi =>
  mv1_spec t ht hf f caps hc (idxL s (i : Nat)) (g (idxL s (i : Nat))) (by rw [Y4z]; omega) (hp _ (Y4z _ _) (Qmpz m2 _)).1 (hp _ (Y4z _ _) (Qmpz m2 _)).2)
 refine Fc.keep (Fc.bodyT Qfz Tryz.func41 w41 rfl Tryz.ntmps41 Tryz.results41 (zLe rfl) ?_)
 (refine Zo ?_;repeat' ((with_reducible first|refine Zk ?_|(first|apply Za|apply Zb|apply Zc|apply Zd)<;>intro h)<;>try simp -implicitDefEqProofs (maxSteps:=9^7) (disch:=first|omega|(simp only [lens];omega)) only [go_sem]))
 refine (int_val 0 (by decide) (by decide)).call ⟨.self rfl, trivial⟩ (Qhrz _) ?_
 (refine Zo ?_;repeat' ((with_reducible first|refine Zk ?_|(first|apply Za|apply Zb|apply Zc|apply Zd)<;>intro h)<;>try simp -implicitDefEqProofs (maxSteps:=9^7) (disch:=first|omega|(simp only [lens];omega)) only [go_sem]))
 refine Fc.sealed (r := 0) rfl (by simp [cloL, clo, Qaz, Qiz]) ?_
 refine Fc.sealed (r := 1) rfl (by simp [cloL, clo, hc]) ?_
 have e : szL 1 [.fn (.func f) [] caps] (szL 0 [.sl t.shape.length (ints t.shape), .sl t.el.length (Qxz t.el)] [.sl s.length (ints s), .agg [.bool (intQ 0).neg, .sl (dg B32 (intQ 0).num).length (nats .u32 (dg B32 (intQ 0).num)), .sl (dg B32 (intQ 0).den).length (nats .u32 (dg B32 (intQ 0).den))], .fn (.func 82) [] [.ptr 0 0, .ptr 1 0]]) =
   [.sl s.length (ints s), rawV Qfcz, .fn (.func 82) [] [.rp [.sl t.shape.length (ints t.shape), .sl t.el.length (Qxz t.el)] 0, .rp [.fn (.func f) [] caps] 0]] := by
  simp only [szL, sz, Xbz _ _ _ (Qaz _), Xbz _ _ _ (Qiz _), Xbz _ _ _ hc, Xbz _ _ _ (Qkz _ _), if_true, Nat.one_ne_zero, if_false]
  rfl
 rw [e]
 refine Fc.pure hgat (by simp [cloL, clo, Qaz, Qiz, hc, X2z]) (fun g => by simp [ren, QWz _ _ (Qiz _)]) ?_
 rw [show gatL N Qfcz (fun i => if isAt t (g (idxL s (i : Nat))) then Qiwz t (g (idxL s (i : Nat))) else r0) (fun i => isAt t (g (idxL s (i : Nat)))) = mvL t s g N from rfl]
 (refine Zo ?_;repeat' ((with_reducible first|refine Zk ?_|(first|apply Za|apply Zb|apply Zc|apply Zd)<;>intro h)<;>try simp -implicitDefEqProofs (maxSteps:=9^7) (disch:=first|omega|(simp only [lens];omega)) only [go_sem]))
 refine hmake.keptF ⟨.self (by simp [clo, Qaz]), .self (by simp [clo, Qiz]), trivial⟩ fun v X hv => ?_
 obtain ⟨w, e, rfl, hw, he⟩ := hv.tup2
 obtain ⟨a, b, rfl, ha, hb⟩ := hw.agg2
 obtain ⟨ka, ca, sa⟩ := Q9z ha.gd
 obtain ⟨kb, cb, sb⟩ := Q9z hb.gd
 rw [he.gd.int_inv]
 (refine Zo ?_;repeat' ((with_reducible first|refine Zk ?_|(first|apply Za|apply Zb|apply Zc|apply Zd)<;>intro h)<;>try simp -implicitDefEqProofs (maxSteps:=9^7) (disch:=first|omega|(simp only [lens];omega)) only [go_sem, ka, ca, sa, kb, cb, sb]))
 exact Gd.ret (Gd.tupL ⟨Gd.aggL ⟨(ha.set (q := 2) (by simp) _).gd, (hb.set (q := 2) (by simp) _).gd, trivial⟩, gd_i _ _, trivial⟩)
end Go.Proofs.YtjdbdmhjakfldaaGreat
end
section
namespace Go.Proofs.YtjdbdmhjakfldaaGreat
open Go.Bv
theorem two_at (r off : Nat) (i : Int) (H : Heap) (K : V → Prop) : idxw C.ty (C.ty 79) (.ptr r off) (.int .i64 i) H K = ((Qbz H r).isSome = true ∧ 0 ≤ i ∧ i < 2 ∧ K (.ptr r (off + i.toNat))) := by
 simp only [idxw, Qzz, show (C.ty 79).sl = none from rfl, t79arr, t3ok, t3size, true_and, Nat.mul_one]
 rfl
attribute [go_sem] two_at
theorem yk86 : Tryz.f86.body.all yOK = true := by kernel_rfl
def Zqz (l : List Int) : V := .fn (.func 86) [] [.rp [.sl l.length (ints l)] 0]
theorem YCz (l : List Int) : Pu C 50 [.sl l.length (ints l)] (Zqz l) := by
 refine Fc.keep (Fc.sealR ?_)
 refine Fc.bodyT Qfz Tryz.func50 w50 rfl Tryz.ntmps50 Tryz.results50 (zLe rfl) ?_
 (refine Zo ?_;repeat' ((with_reducible first|refine Zk ?_|(first|apply Za|apply Zb|apply Zc|apply Zd)<;>intro h)<;>try simp -implicitDefEqProofs (maxSteps:=9^7) (disch:=first|omega|(simp only [lens];omega)) only [go_sem]))
 refine ⟨0, _, 1, [.sl l.length (ints l)], rfl, by simp [cloL, clo, Qaz], [], by simp, by simp, ?_⟩
 simp [sz, szL, ren, renL, Zqz, selH, Qpz]
def Qavz (l : List Int) : List (List V) := (List.range (l.length / 2)).map fun k => [.int .i64 (k : Nat), .agg [.int .i64 (l.getD (2 * k) 0), .int .i64 (l.getD (2 * k + 1) 0)]]
theorem YEz {l : List Int} {k : Nat} (h : k < l.length / 2) : (Qavz l)[k]? = some [.int .i64 (k : Nat), .agg [.int .i64 (l.getD (2 * k) 0), .int .i64 (l.getD (2 * k + 1) 0)]] := by simp [Qavz, h]
theorem Q8z (l : List Int) : (Qavz l).length = l.length / 2 := by simp [Qavz]
theorem Zpz (s : List Int) (hs : s.length ≤ 1000000000) : Gen C 86 [.rp [.sl s.length (ints s)] 0] (Qavz s) := by
 refine Gen.of3 Qfz Tryz.func86 w86 yk86 rfl Tryz.ntmps86 Tryz.results86 (zLe rfl) (fun bs hb => by
  simp only [Qavz, List.mem_map, List.mem_range] at hb
  obtain ⟨i, _, rfl⟩ := hb
  simp [cloL, clo]) ?_
 intro G l J hW
 (refine Zo ?_;repeat' ((with_reducible first|refine Zk ?_|(first|apply Za|apply Zb|apply Zc|apply Zd)<;>intro h)<;>try simp -implicitDefEqProofs (maxSteps:=9^7) (disch:=first|omega|(simp only [lens];omega)) only [go_sem]))
 refine XSz (fun n ts H => ∃ (i : Nat), (i ≤ s.length / 2) ∧ (n = s.length / 2 - i) ∧ (H.length = i) ∧ ts.length = 26 ∧ nth ts 0 = .fn (.yield l) [] [] ∧ nth ts 1 = .rp [.sl s.length (ints s)] 0 ∧ nth ts 3 = .int .i64 ((2 * i : Nat) : Int)) ?_ (n := s.length / 2) ?_
 ·skip
  rintro n ts H ⟨i, hi, hn, hH, hL, hs0, hs1, hs3⟩
  refine Qezz [(0, .fn (.yield l) [] []), (1, .rp [.sl s.length (ints s)] 0), (3, .int .i64 ((2 * i : Nat) : Int))] hL (by simp only [zFm, hs0, hs1, hs3, true_and]; exact zNm) ?_
  clear hL hs0 hs1 hs3 ts
  refine hW _ _ _ _ ?_
  by_cases hcase : i < s.length / 2
  ·have e1 : (((2 * i : Nat) : Int) / 2) = (i : Int) := by omega
   have e2 : (((2 * i : Nat) : Int) + 1) = ((2 * i + 1 : Nat) : Int) := by omega
   (refine Zo ?_;repeat' ((with_reducible first|refine Zk ?_|(first|apply Za|apply Zb|apply Zc|apply Zd)<;>intro h)<;>try simp -implicitDefEqProofs (maxSteps:=9^7) (disch:=first|omega|(simp only [lens];omega)) only [go_sem, e1, e2]))
   rw [hH, Q8z]
   refine ⟨YEz hcase, ⟨s.length / 2 - (i + 1), by omega, i + 1, by omega, rfl, rfl, by congr 1⟩, .inr trivial, .inr ?_⟩
   rw [List.length_replicate]; omega
  ·skip
   (refine Zo ?_;repeat' ((with_reducible first|refine Zk ?_|(first|apply Za|apply Zb|apply Zc|apply Zd)<;>intro h)<;>try simp -implicitDefEqProofs (maxSteps:=9^7) (disch:=first|omega|(simp only [lens];omega)) only [go_sem]))
   rw [Q8z]
   exact ⟨.inl trivial, .inl (by omega)⟩
 ·exact ⟨0, by omega, by omega, rfl, rfl, rfl, rfl, rfl⟩
theorem YDz {l : List Int} {n : Nat} (hn : n = 2) : ∀ bs ∈ Qavz l, bs.length = n := fun bs hb => by
 subst hn
 simp only [Qavz, List.mem_map, List.mem_range] at hb
 obtain ⟨i, _, rfl⟩ := hb
 rfl
def addL (l x : List Int) : List Int := (List.range x.length).map fun i => x.getD i 0 + l.getD (2 * i) 0
def subL (l x : List Int) : List Int := (List.range x.length).map fun i => x.getD i 0 - l.getD (2 * i) 0
def YLz (f : Nat → Int) (x : List Int) (k : Nat) : List Int := (List.range x.length).map fun i => if i < k then f i else x.getD i 0
theorem Qahz (f : Nat → Int) (x : List Int) (k : Nat) : (YLz f x k).length = x.length := by simp [YLz]
theorem Qghz (f : Nat → Int) (x : List Int) : YLz f x 0 = x := by
 refine List.ext_getElem (by simp [YLz]) fun j h1 h2 => ?_
 simp [YLz, List.getD, h2]
theorem Qgjz (f : Nat → Int) (x : List Int) : YLz f x x.length = (List.range x.length).map f := by
 refine List.ext_getElem (by simp [YLz]) fun j h1 h2 => ?_
 simp [YLz] at h1 ⊢
 intro; omega
theorem Qkaz {f : Nat → Int} {x : List Int} {k : Nat} (h : k < x.length) : (YLz f x k).getD k 0 = x.getD k 0 := by simp [YLz, List.getD, h]
theorem Qgiz {f : Nat → Int} {x : List Int} {k : Nat} (h : k < x.length) : (YLz f x k).set k (f k) = YLz f x (k + 1) := by
 refine List.ext_getElem (by simp [YLz]) fun j h1 h2 => ?_
 rw [List.getElem_set]
 simp [YLz] at h1 h2 ⊢
 split
 ·rename_i e; subst e; rw [if_pos (by omega)]
 ·rename_i e
  by_cases hj : j < k
  ·rw [if_pos hj, if_pos (by omega)]
  ·rw [if_neg hj, if_neg (by omega)]
theorem Qpoz (l x : List Int) (hx : x.length ≤ 1000) (hl : l.length = 2 * x.length) (hb : ∀ j, j < x.length → 0 ≤ x.getD j 0 ∧ x.getD j 0 ≤ 1024) (hc : ∀ j, j < x.length → 0 ≤ l.getD (2 * j) 0 ∧ l.getD (2 * j) 0 ≤ 1024) : Val C 51 [.sl x.length (ints x), .rp [.sl l.length (ints l)] 0] (.sl (addL l x).length (ints (addL l x))) := by
 have hv : Zqz l = .fn (.func 86) [] [.rp [.sl l.length (ints l)] 0] := rfl
 have hfin : YLz (fun i => x.getD i 0 + l.getD (2 * i) 0) x x.length = addL l x := Qgjz _ _
 have hll : (addL l x).length = x.length := by simp [addL]
 refine Val.ofRet (e := 3) (s := 1) ?_ (Qaz _) (QTz _)
 refine Fc.keep (Fc.bodyT Qfz Tryz.func51 w51 rfl Tryz.ntmps51 Tryz.results51 (zLe rfl) ?_)
 (refine Zo ?_;repeat' ((with_reducible first|refine Zk ?_|(first|apply Za|apply Zb|apply Zc|apply Zd)<;>intro h)<;>try simp -implicitDefEqProofs (maxSteps:=9^7) (disch:=first|omega|(simp only [lens];omega)) only [go_sem]))
 refine Fc.ownL (Qfbz x (by omega)) ⟨.self (by simp [clo, Qaz]), trivial⟩ (fun g => Qpz g _) (QTz _) fun v X hv0 => ?_
 have hkn : kn v = true ∧ cellsOf v = [v] ∧ scal v = true := by rcases hv0 with ⟨rfl, _⟩ | ⟨r, rfl, _⟩ <;> exact ⟨rfl, rfl, rfl⟩
 obtain ⟨k1, c1, s1⟩ := hkn
 have hne : ∀ r off m, v = .ref r off m → r < X.length := fun r off m e => by
  rcases hv0 with ⟨rfl, _⟩ | ⟨q, rfl, hq, _⟩
  ·cases e
  ·injection e with e; subst e; have := Qtz hq; simpa using this
 (refine Zo ?_;repeat' ((with_reducible first|refine Zk ?_|(first|apply Za|apply Zb|apply Zc|apply Zd)<;>intro h)<;>try simp -implicitDefEqProofs (maxSteps:=9^7) (disch:=first|omega|(simp only [lens];omega)) only [go_sem, k1, c1, s1]))
 refine Fc.pure (YCz l) (by simp [cloL, clo, Qaz]) (fun g => by simp [Zqz, ren, renL, Qpz]) ?_
 (refine Zo ?_;repeat' ((with_reducible first|refine Zk ?_|(first|apply Za|apply Zb|apply Zc|apply Zd)<;>intro h)<;>try simp -implicitDefEqProofs (maxSteps:=9^7) (disch:=first|omega|(simp only [lens];omega)) only [go_sem, hv]))
 refine XPz (g := 86) (lb := [.rp [.sl l.length (ints l)] 0]) (xs := Qavz l) (by simp -implicitDefEqProofs (maxSteps:=9^7) (disch := first | omega | (simp only [lens]; omega)) only [go_sem]) (by simp [cloL, clo, Qaz]) (Zpz l (by omega)) (YDz rfl) (fun k H => Qbz H X.length = some ⟨22, 1, [v]⟩ ∧ Bv.Own 3 1 H v x.length (ints (YLz (fun i => x.getD i 0 + l.getD (2 * i) 0) x k))) ⟨by simp [Qbz], ?_⟩ ?_ ?_
 ·rw [Qghz]; exact hv0.keep _
 ·rintro k us H hk ⟨hb1, hw⟩ lv
  have hkl : k < x.length := by
   have := (List.getElem?_eq_some_iff.1 hk).1
   rw [Q8z] at this; omega
  rw [YEz (by omega)] at hk
  injection hk with hk
  subst hk
  obtain ⟨-, h0, -⟩ | ⟨r, rfl, hr, -⟩ := hw
  ·omega
  have hrX := hne r 0 x.length rfl
  have hHX := Qtz hb1
  have hap : ∀ Y, Qbz (H ++ Y) X.length = some ⟨22, 1, [.ref r 0 x.length]⟩ := fun Y => Qgz hb1 Y
  have har : ∀ Y, Qbz (H ++ Y) r = some ⟨3, 1, ints (YLz (fun i => x.getD i 0 + l.getD (2 * i) 0) x k)⟩ := fun Y => Qgz hr Y
  have hdg := Qkaz (f := fun i => x.getD i 0 + l.getD (2 * i) 0) hkl
  have hdl := Qahz (fun i => x.getD i 0 + l.getD (2 * i) 0) x k
  have hds := Qgiz (f := fun i => x.getD i 0 + l.getD (2 * i) 0) hkl
  have hb' := hb k hkl
  have hc' := hc k hkl
  (refine Qsz Qfz ?_; simp -implicitDefEqProofs (maxSteps:=9^7) (disch := first | omega | (simp only [lens]; omega)) only [go_sem, putl])
  (refine Qsz Qfz ?_; simp -implicitDefEqProofs (maxSteps:=9^7) (disch := first | omega | (simp only [lens]; omega)) only [go_sem, hap, har])
  (refine Zo ?_;repeat' ((with_reducible first|refine Zk ?_|(first|apply Za|apply Zb|apply Zc|apply Zd)<;>intro h)<;>try simp -implicitDefEqProofs (maxSteps:=9^7) (disch:=first|omega|(simp only [lens];omega)) only [go_sem, hap, har, hdg, QBz, hds, XJz]))
  refine ⟨?_, .inr ⟨r, rfl, Qez (har _), by rw [QUz, Qahz]; omega⟩⟩
  rw [Qdz _ (by omega)]; exact hap _
 ·rintro H ⟨hb1, hw⟩
  rw [Q8z, show l.length / 2 = x.length by omega, hfin] at hw
  (refine Zo ?_;repeat' ((with_reducible first|refine Zk ?_|(first|apply Za|apply Zb|apply Zc|apply Zd)<;>intro h)<;>try simp -implicitDefEqProofs (maxSteps:=9^7) (disch:=first|omega|(simp only [lens];omega)) only [go_sem, hb1]))
  rw [hll]
  exact Own.ret hw (fun g => Qpz g _) fun v H h => h
theorem Qluz (l x : List Int) (hx : x.length ≤ 1000) (hl : l.length = 2 * x.length) (hb : ∀ j, j < x.length → 0 ≤ x.getD j 0 ∧ x.getD j 0 ≤ 1024) (hc : ∀ j, j < x.length → 0 ≤ l.getD (2 * j) 0 ∧ l.getD (2 * j) 0 ≤ 1024) : Val C 57 [.sl x.length (ints x), .rp [.sl l.length (ints l)] 0] (.sl (subL l x).length (ints (subL l x))) := by
 have hv : Zqz l = .fn (.func 86) [] [.rp [.sl l.length (ints l)] 0] := rfl
 have hfin : YLz (fun i => x.getD i 0 - l.getD (2 * i) 0) x x.length = subL l x := Qgjz _ _
 have hll : (subL l x).length = x.length := by simp [subL]
 refine Val.ofRet (e := 3) (s := 1) ?_ (Qaz _) (QTz _)
 refine Fc.keep (Fc.bodyT Qfz Tryz.func57 w57 rfl Tryz.ntmps57 Tryz.results57 (zLe rfl) ?_)
 (refine Zo ?_;repeat' ((with_reducible first|refine Zk ?_|(first|apply Za|apply Zb|apply Zc|apply Zd)<;>intro h)<;>try simp -implicitDefEqProofs (maxSteps:=9^7) (disch:=first|omega|(simp only [lens];omega)) only [go_sem]))
 refine Fc.ownL (Qfbz x (by omega)) ⟨.self (by simp [clo, Qaz]), trivial⟩ (fun g => Qpz g _) (QTz _) fun v X hv0 => ?_
 have hkn : kn v = true ∧ cellsOf v = [v] ∧ scal v = true := by rcases hv0 with ⟨rfl, _⟩ | ⟨r, rfl, _⟩ <;> exact ⟨rfl, rfl, rfl⟩
 obtain ⟨k1, c1, s1⟩ := hkn
 have hne : ∀ r off m, v = .ref r off m → r < X.length := fun r off m e => by
  rcases hv0 with ⟨rfl, _⟩ | ⟨q, rfl, hq, _⟩
  ·cases e
  ·injection e with e; subst e; have := Qtz hq; simpa using this
 (refine Zo ?_;repeat' ((with_reducible first|refine Zk ?_|(first|apply Za|apply Zb|apply Zc|apply Zd)<;>intro h)<;>try simp -implicitDefEqProofs (maxSteps:=9^7) (disch:=first|omega|(simp only [lens];omega)) only [go_sem, k1, c1, s1]))
 refine Fc.pure (YCz l) (by simp [cloL, clo, Qaz]) (fun g => by simp [Zqz, ren, renL, Qpz]) ?_
 (refine Zo ?_;repeat' ((with_reducible first|refine Zk ?_|(first|apply Za|apply Zb|apply Zc|apply Zd)<;>intro h)<;>try simp -implicitDefEqProofs (maxSteps:=9^7) (disch:=first|omega|(simp only [lens];omega)) only [go_sem, hv]))
 refine XPz (g := 86) (lb := [.rp [.sl l.length (ints l)] 0]) (xs := Qavz l) (by simp -implicitDefEqProofs (maxSteps:=9^7) (disch := first | omega | (simp only [lens]; omega)) only [go_sem]) (by simp [cloL, clo, Qaz]) (Zpz l (by omega)) (YDz rfl) (fun k H => Qbz H X.length = some ⟨22, 1, [v]⟩ ∧ Bv.Own 3 1 H v x.length (ints (YLz (fun i => x.getD i 0 - l.getD (2 * i) 0) x k))) ⟨by simp [Qbz], ?_⟩ ?_ ?_
 ·rw [Qghz]; exact hv0.keep _
 ·rintro k us H hk ⟨hb1, hw⟩ lv
  have hkl : k < x.length := by
   have := (List.getElem?_eq_some_iff.1 hk).1
   rw [Q8z] at this; omega
  rw [YEz (by omega)] at hk
  injection hk with hk
  subst hk
  obtain ⟨-, h0, -⟩ | ⟨r, rfl, hr, -⟩ := hw
  ·omega
  have hrX := hne r 0 x.length rfl
  have hHX := Qtz hb1
  have hap : ∀ Y, Qbz (H ++ Y) X.length = some ⟨22, 1, [.ref r 0 x.length]⟩ := fun Y => Qgz hb1 Y
  have har : ∀ Y, Qbz (H ++ Y) r = some ⟨3, 1, ints (YLz (fun i => x.getD i 0 - l.getD (2 * i) 0) x k)⟩ := fun Y => Qgz hr Y
  have hdg := Qkaz (f := fun i => x.getD i 0 - l.getD (2 * i) 0) hkl
  have hdl := Qahz (fun i => x.getD i 0 - l.getD (2 * i) 0) x k
  have hds := Qgiz (f := fun i => x.getD i 0 - l.getD (2 * i) 0) hkl
  have hb' := hb k hkl
  have hc' := hc k hkl
  (refine Qsz Qfz ?_; simp -implicitDefEqProofs (maxSteps:=9^7) (disch := first | omega | (simp only [lens]; omega)) only [go_sem, putl])
  (refine Qsz Qfz ?_; simp -implicitDefEqProofs (maxSteps:=9^7) (disch := first | omega | (simp only [lens]; omega)) only [go_sem, hap, har])
  (refine Zo ?_;repeat' ((with_reducible first|refine Zk ?_|(first|apply Za|apply Zb|apply Zc|apply Zd)<;>intro h)<;>try simp -implicitDefEqProofs (maxSteps:=9^7) (disch:=first|omega|(simp only [lens];omega)) only [go_sem, hap, har, hdg, QBz, hds, XJz]))
  refine ⟨?_, .inr ⟨r, rfl, Qez (har _), by rw [QUz, Qahz]; omega⟩⟩
  rw [Qdz _ (by omega)]; exact hap _
 ·rintro H ⟨hb1, hw⟩
  rw [Q8z, show l.length / 2 = x.length by omega, hfin] at hw
  (refine Zo ?_;repeat' ((with_reducible first|refine Zk ?_|(first|apply Za|apply Zb|apply Zc|apply Zd)<;>intro h)<;>try simp -implicitDefEqProofs (maxSteps:=9^7) (disch:=first|omega|(simp only [lens];omega)) only [go_sem, hb1]))
  rw [hll]
  exact Own.ret hw (fun g => Qpz g _) fun v H h => h
end Go.Proofs.YtjdbdmhjakfldaaGreat
end
section
namespace Go.Proofs.YtjdbdmhjakfldaaGreat
open Go.Bv
theorem Qhaz {e s e' s' : Nat} {H : Heap} {v : V} {n q : Nat} {cs cs' : List V} {z : Option Row} (h : Bv.Own e s H v n cs) (hq : Qbz H q = some ⟨e', s', cs'⟩) (hne : e' ≠ e) : Bv.Own e s (H.set q z) v n cs := by
 rcases h with h | ⟨r, h, hr, hl⟩
 ·exact .inl h
 ·refine .inr ⟨r, h, ?_, hl⟩
  rw [Qdz]
  ·exact hr
  ·rintro rfl; rw [hq] at hr; injection hr with hr; injection hr with hr; exact hne hr
theorem Yyz {e s e' s' : Nat} {H H' : Heap} {v : V} {n q : Nat} {cs cs' : List V} (h : Bv.Own e s H v n cs) (hF : Fr v H H') (hq : Qbz H q = some ⟨e', s', cs'⟩) (hne : e' ≠ e) : Qbz H' q = some ⟨e', s', cs'⟩ := hF q _ (by
 rintro off m rfl
 rcases h with ⟨h, _⟩ | ⟨r, h, hr, _⟩
 ·cases h
 ·injection h with h _ _; subst h; rw [hq] at hr; injection hr with hr; injection hr with hr; exact hne hr) hq
def tabI (f : Nat → Int) (k : Nat) : List Int := (List.range k).map f
theorem QVz (f : Nat → Int) (k : Nat) : (tabI f k).length = k := by simp [tabI]
theorem Qdez (f : Nat → Int) (k : Nat) : tabI f (k + 1) = tabI f k ++ [f k] := by simp [tabI, List.range_succ]
theorem Ylz {f : Nat → Int} {k j : Nat} (h : j < k) : (tabI f k).getD j 0 = f j := by simp [tabI, List.getD, h]
theorem Qfxz : ∀ {a b : List Int}, a.length = b.length → (∀ j, j < a.length → 1 ≤ a.getD j 0 ∧ a.getD j 0 ≤ b.getD j 0) → Qlz a ≤ Qlz b
 | [], [], _, _ => by simp [Qlz]
 | x :: a, y :: b, hl, h => by
  have h0 := h 0 (by simp)
  have hr := Qfxz (a := a) (b := b) (by simpa using hl) fun j hj => by simpa using h (j + 1) (by simpa using hj)
  have hp : 1 ≤ Qlz a := Q7z (Xnz.2 fun j hj => by have := h (j + 1) (by simpa using hj); simpa using this.1)
  simp only [List.getD_cons_zero] at h0
  show x * Qlz a ≤ y * Qlz b
  have h1 := Int.mul_le_mul_of_nonneg_right h0.2 (show 0 ≤ Qlz a by omega)
  have h2 := Int.mul_le_mul_of_nonneg_left hr (show 0 ≤ y by omega)
  omega
theorem mayP_ok {s : List Int} (h1 : s.length ≤ 4) (h2 : ∀ j, j < s.length → 1 ≤ s.getD j 0) (h3 : Qlz s ≤ 1024) : mayP s = 0 := by
 have : s.all (fun d => decide (1 ≤ d)) = true := by simpa using Xnz.2 h2
 rw [mayP, if_neg (by omega), if_pos this, if_neg (by omega)]
theorem Q0z {t : Tn} (h : mayT t = 0) : Xpz t = 0 ∧ mayP t.shape = 0 ∧ (t.el.length : Int) = Qlz t.shape := by
 have hf : Xpz t = 0 := Classical.byContradiction fun hn => by rw [mayT, if_pos hn] at h; exact hn h
 have hm : mayP t.shape = 0 := Classical.byContradiction fun hn => by rw [Xpz, if_pos hn] at hf; exact hn hf
 refine ⟨hf, hm, ?_⟩
 rw [Xpz, if_neg (by omega)] at hf
 split at hf
 ·cases hf
 ·rename_i h; rw [countP, if_pos hm] at h; omega
theorem Qnyz {y : Ty} {e e' s' k : Nat} {v : V} {H : Heap} {xs : List Int} {x : Int} {r1 : Option Row} {K : V → Heap → Prop} (h : Bv.Own e 1 H v k (ints xs)) (hk : k = xs.length) (hy : y.size = 1) (hb : 0 < y.bytes ∧ y.bytes ≤ 8) (hl : xs.length + 1 ≤ 17592186044416)
  (hK : ∀ v' H', Bv.Own e 1 H' v' (k + 1) (ints (xs ++ [x])) → Fr v (H ++ [r1]) H' → kn v' = true ∧ cellsOf v' = [v'] ∧ scal v' = true → K v' H') : appw y e v (.ref (H.length + 1) 0 1) (H ++ [r1, some ⟨e', s', [.int .i64 x]⟩]) K := by
 subst hk
 rw [show H ++ [r1, some (⟨e', s', [.int .i64 x]⟩ : Row)] = (H ++ [r1]) ++ [some ⟨e', s', [.int .i64 x]⟩] by simp, show H.length + 1 = (H ++ [r1]).length by simp]
 refine app_int (h.keep [r1]) hy hb hl fun v' H' hu' hF => hK v' H' (by simpa using hu') hF ?_
 rcases hu' with ⟨rfl, _⟩ | ⟨r, rfl, _⟩ <;> exact ⟨rfl, rfl, rfl⟩
def Qgkz (l : List Int) (n : Nat) : Bool := (List.range n).all fun k => decide (0 ≤ l.getD (2 * k) 0 ∧ l.getD (2 * k) 0 < l.getD (2 * k + 1) 0)
def Qglz (l s : List Int) : Bool := (List.range s.length).all fun k => decide (l.getD (2 * k + 1) 0 ≤ s.getD k 0)
theorem Qbkz {l : List Int} {n : Nat} : Qgkz l n = true ↔ ∀ k, k < n → 0 ≤ l.getD (2 * k) 0 ∧ l.getD (2 * k) 0 < l.getD (2 * k + 1) 0 := by simp [Qgkz]
theorem Qblz {l s : List Int} : Qglz l s = true ↔ ∀ k, k < s.length → l.getD (2 * k + 1) 0 ≤ s.getD k 0 := by simp [Qglz]
def YBz (t : Tn) (l : List Int) : Int := if mayT t ≠ 0 then mayT t else if l.length ≠ 2 * t.shape.length then 11 else if Qgkz l t.shape.length = false then 11 else if Qglz l t.shape = false then 13 else 0
def Ymz (l : List Int) (n : Nat) : List Int := tabI (fun k => l.getD (2 * k + 1) 0 - l.getD (2 * k) 0) n
def errT (p : Tn) (e : Int) : Tn := if e ≠ 0 then Qgfz else p
def Qfvz (t : Tn) (l : List Int) : Tn := errT (mvT t (Ymz l t.shape.length) (addL l)) (YBz t l)
theorem errT_no {p : Tn} {e : Int} (h : e ≠ 0) : errT p e = Qgfz := if_pos h
theorem XFz {p : Tn} {e : Int} (h : e = 0) : errT p e = p := if_neg (by omega)
theorem Qccz {H : Heap} {p : Tn} {e k : Int} (h : e = k) (hk : k ≠ 0) : Gd H (.tup [.agg [.nil, .nil], .int .i64 k]) (.tup [tnV (errT p e), .int .i64 e]) := by
 rw [errT_no (by omega), h]
 exact Gd.tupL ⟨Qoqz, gd_i _ _, trivial⟩
theorem Ziz (t : Tn) (ht : TnOK t) (l : List Int) (hl : l.length ≤ 1000000000) : Val C 20 [tnV t, .sl l.length (ints l)] (.tup [tnV (Qfvz t l), .int .i64 (YBz t l)]) := by
 have hv : Zqz l = .fn (.func 86) [] [.rp [.sl l.length (ints l)] 0] := rfl
 have hs := ht.s
 unfold Qfvz
 refine Fc.keep (Fc.bodyT Qfz Tryz.func20 w20 rfl Tryz.ntmps20 Tryz.results20 (zLe rfl) ?_)
 (refine Zo ?_;repeat' ((with_reducible first|refine Zk ?_|(first|apply Za|apply Zb|apply Zc|apply Zd)<;>intro h)<;>try simp -implicitDefEqProofs (maxSteps:=9^7) (disch:=first|omega|(simp only [lens];omega)) only [go_sem]))
 refine Fc.pure (ZZz t ht) (by simp [cloL, clo, Qaz, Qiz]) (fun g => rfl) ?_
 by_cases hm : mayT t = 0
 case neg =>
  (refine Zo ?_;repeat' ((with_reducible first|refine Zk ?_|(first|apply Za|apply Zb|apply Zc|apply Zd)<;>intro h)<;>try simp -implicitDefEqProofs (maxSteps:=9^7) (disch:=first|omega|(simp only [lens];omega)) only [go_sem]))
  exact Gd.ret (Qccz (by rw [YBz, if_pos hm]) hm)
 obtain ⟨hf, hmp, hel⟩ := Q0z hm
 obtain ⟨m1, m2, m3⟩ := QFz hmp
 rw [hm]
 by_cases hll : l.length = 2 * t.shape.length
 case neg =>
  (refine Zo ?_;repeat' ((with_reducible first|refine Zk ?_|(first|apply Za|apply Zb|apply Zc|apply Zd)<;>intro h)<;>try simp -implicitDefEqProofs (maxSteps:=9^7) (disch:=first|omega|(simp only [lens];omega)) only [go_sem]))
  exact Gd.ret (Qccz (by rw [YBz, if_neg (by omega), if_pos hll]) (by decide))
 (refine Zo ?_;repeat' ((with_reducible first|refine Zk ?_|(first|apply Za|apply Zb|apply Zc|apply Zd)<;>intro h)<;>try simp -implicitDefEqProofs (maxSteps:=9^7) (disch:=first|omega|(simp only [lens];omega)) only [go_sem]))
 refine Fc.pure (YCz l) (by simp [cloL, clo, Qaz]) (fun g => by simp [Zqz, ren, renL, Qpz]) ?_
 (refine Zo ?_;repeat' ((with_reducible first|refine Zk ?_|(first|apply Za|apply Zb|apply Zc|apply Zd)<;>intro h)<;>try simp -implicitDefEqProofs (maxSteps:=9^7) (disch:=first|omega|(simp only [lens];omega)) only [go_sem, hv]))
 refine XPz (g := 86) (lb := [.rp [.sl l.length (ints l)] 0]) (xs := Qavz l) (by simp -implicitDefEqProofs (maxSteps:=9^7) (disch := first | omega | (simp only [lens]; omega)) only [go_sem]) (by simp [cloL, clo, Qaz]) (Zpz l (by omega)) (YDz rfl) (fun k H => (∀ j, j < k → 0 ≤ l.getD (2 * j) 0 ∧ l.getD (2 * j) 0 < l.getD (2 * j + 1) 0) ∧ Qbz H 0 = some ⟨26, 2, [.sl t.shape.length (ints t.shape), .sl t.el.length (Qxz t.el)]⟩ ∧ Qbz H 1 = some ⟨22, 1, [.sl l.length (ints l)]⟩ ∧ Qbz H 2 = some ⟨26, 2, [.nil, .nil]⟩ ∧ Qbz H 3 = some ⟨27, 1, [.int .i64 0]⟩) ⟨fun j hj => by omega, rfl, rfl, rfl, rfl⟩ ?_ ?_
 ·rintro k us H hk ⟨hI, h0, h1, h2, h3⟩ lv
  have hkl : k < t.shape.length := by
   have := (List.getElem?_eq_some_iff.1 hk).1
   rw [Q8z] at this; omega
  rw [YEz (by omega)] at hk
  injection hk with hk
  subst hk
  have a0 : ∀ Y, Qbz (H ++ Y) 0 = some ⟨26, 2, [.sl t.shape.length (ints t.shape), .sl t.el.length (Qxz t.el)]⟩ := fun Y => Qgz h0 Y
  have a1 : ∀ Y, Qbz (H ++ Y) 1 = some ⟨22, 1, [.sl l.length (ints l)]⟩ := fun Y => Qgz h1 Y
  have a2 : ∀ Y, Qbz (H ++ Y) 2 = some ⟨26, 2, [.nil, .nil]⟩ := fun Y => Qgz h2 Y
  have a3 : ∀ Y, Qbz (H ++ Y) 3 = some ⟨27, 1, [.int .i64 0]⟩ := fun Y => Qgz h3 Y
  have b3 : ∀ Y z, Qbz ((H ++ Y).set 2 z) 3 = some ⟨27, 1, [.int .i64 0]⟩ := fun Y z => by rw [Qdz _ (by decide)]; exact a3 Y
  have b2 : ∀ Y row z, Qbz (((H ++ Y).set 2 (some row)).set 3 z) 2 = some row := fun Y row z => by rw [Qdz _ (by decide)]; exact Qez (a2 Y)
  have b33 : ∀ Y row z, Qbz (((H ++ Y).set 2 z).set 3 (some row)) 3 = some row := fun Y row z => Qez (b3 Y z)
  (refine Qsz Qfz ?_; simp -implicitDefEqProofs (maxSteps:=9^7) (disch := first | omega | (simp only [lens]; omega)) only [go_sem, putl])
  by_cases hc : 0 ≤ l.getD (2 * k) 0 ∧ l.getD (2 * k) 0 < l.getD (2 * k + 1) 0
  ·skip
   (refine Qsz Qfz ?_; simp -implicitDefEqProofs (maxSteps:=9^7) (disch := first | omega | (simp only [lens]; omega)) only [go_sem, a0])
   (refine Zo ?_;repeat' ((with_reducible first|refine Zk ?_|(first|apply Za|apply Zb|apply Zc|apply Zd)<;>intro h)<;>try simp -implicitDefEqProofs (maxSteps:=9^7) (disch:=first|omega|(simp only [lens];omega)) only [go_sem, a0, a1, a2, a3, b3, b2, b33, XJz]))
   exact allS hI hc
  ·have hno : Qgkz l t.shape.length = false := by
    rw [Bool.eq_false_iff]
    exact fun hh => hc (Qbkz.1 hh k hkl)
   (refine Qsz Qfz ?_; simp -implicitDefEqProofs (maxSteps:=9^7) (disch := first | omega | (simp only [lens]; omega)) only [go_sem, a0])
   (refine Zo ?_;repeat' ((with_reducible first|refine Zk ?_|(first|apply Za|apply Zb|apply Zc|apply Zd)<;>intro h)<;>try simp -implicitDefEqProofs (maxSteps:=9^7) (disch:=first|omega|(simp only [lens];omega)) only [go_sem, a0, a1, a2, a3, b3, b2, b33, XJz]))
   all_goals exact Gd.ret (Qccz (by rw [YBz, if_neg (by omega), if_neg (by omega), if_pos hno]) (by decide))
 ·rintro H ⟨hI, h0, h1, h2, h3⟩
  rw [Q8z, show l.length / 2 = t.shape.length by omega] at hI
  have hyes : Qgkz l t.shape.length = true := Qbkz.2 hI
  have a0 : ∀ Y, Qbz (H ++ Y) 0 = some ⟨26, 2, [.sl t.shape.length (ints t.shape), .sl t.el.length (Qxz t.el)]⟩ := fun Y => Qgz h0 Y
  have a1 : ∀ Y, Qbz (H ++ Y) 1 = some ⟨22, 1, [.sl l.length (ints l)]⟩ := fun Y => Qgz h1 Y
  have a2 : ∀ Y, Qbz (H ++ Y) 2 = some ⟨26, 2, [.nil, .nil]⟩ := fun Y => Qgz h2 Y
  have a3 : ∀ Y, Qbz (H ++ Y) 3 = some ⟨27, 1, [.int .i64 0]⟩ := fun Y => Qgz h3 Y
  have hP := Qtz h3
  (refine Zo ?_;repeat' ((with_reducible first|refine Zk ?_|(first|apply Za|apply Zb|apply Zc|apply Zd)<;>intro h)<;>try simp -implicitDefEqProofs (maxSteps:=9^7) (disch:=first|omega|(simp only [lens];omega)) only [go_sem, a0, a1]))
  refine Fc.pure (YCz l) (by simp [cloL, clo, Qaz]) (fun g => by simp [Zqz, ren, renL, Qpz]) ?_
  (refine Zo ?_;repeat' ((with_reducible first|refine Zk ?_|(first|apply Za|apply Zb|apply Zc|apply Zd)<;>intro h)<;>try simp -implicitDefEqProofs (maxSteps:=9^7) (disch:=first|omega|(simp only [lens];omega)) only [go_sem, hv]))
  obtain ⟨P, hPe⟩ : ∃ P, P = H.length := ⟨_, rfl⟩
  rw [← hPe]
  rw [← hPe] at hP
  refine XPz (g := 86) (lb := [.rp [.sl l.length (ints l)] 0]) (xs := Qavz l) (by simp -implicitDefEqProofs (maxSteps:=9^7) (disch := first | omega | (simp only [lens]; omega)) only [go_sem]) (by simp [cloL, clo, Qaz]) (Zpz l (by omega)) (YDz rfl) (fun k H => ∃ u, (∀ j, j < k → l.getD (2 * j + 1) 0 ≤ t.shape.getD j 0) ∧ Qbz H 0 = some ⟨26, 2, [.sl t.shape.length (ints t.shape), .sl t.el.length (Qxz t.el)]⟩ ∧ Qbz H 1 = some ⟨22, 1, [.sl l.length (ints l)]⟩ ∧ Qbz H 2 = some ⟨26, 2, [.nil, .nil]⟩ ∧ Qbz H 3 = some ⟨27, 1, [.int .i64 0]⟩ ∧ Qbz H P = some ⟨23, 1, [u]⟩ ∧ Bv.Own 3 1 H u k (ints (Ymz l k))) ⟨.nil, fun j hj => by omega, a0 _, a1 _, a2 _, a3 _, by rw [hPe]; simp [Qbz], Bv.Own.nil _ _ _⟩ ?_ ?_
  ·rintro k us H2 hk ⟨u, hJ, g0, g1, g2, g3, gP, hu⟩ lv
   have hkl : k < t.shape.length := by
    have := (List.getElem?_eq_some_iff.1 hk).1
    rw [Q8z] at this; omega
   rw [YEz (by omega)] at hk
   injection hk with hk
   subst hk
   have c0 : ∀ Y, Qbz (H2 ++ Y) 0 = some ⟨26, 2, [.sl t.shape.length (ints t.shape), .sl t.el.length (Qxz t.el)]⟩ := fun Y => Qgz g0 Y
   have c1 : ∀ Y, Qbz (H2 ++ Y) 1 = some ⟨22, 1, [.sl l.length (ints l)]⟩ := fun Y => Qgz g1 Y
   have c2 : ∀ Y, Qbz (H2 ++ Y) 2 = some ⟨26, 2, [.nil, .nil]⟩ := fun Y => Qgz g2 Y
   have c3 : ∀ Y, Qbz (H2 ++ Y) 3 = some ⟨27, 1, [.int .i64 0]⟩ := fun Y => Qgz g3 Y
   have cP : ∀ Y, Qbz (H2 ++ Y) P = some ⟨23, 1, [u]⟩ := fun Y => Qgz gP Y
   have b3 : ∀ Y z, Qbz ((H2 ++ Y).set 2 z) 3 = some ⟨27, 1, [.int .i64 0]⟩ := fun Y z => by rw [Qdz _ (by decide)]; exact c3 Y
   have b2 : ∀ Y row z, Qbz (((H2 ++ Y).set 2 (some row)).set 3 z) 2 = some row := fun Y row z => by rw [Qdz _ (by decide)]; exact Qez (c2 Y)
   have b33 : ∀ Y row z, Qbz (((H2 ++ Y).set 2 z).set 3 (some row)) 3 = some row := fun Y row z => Qez (b3 Y z)
   have hck := hI k hkl
   have hsd := Qwz m2 hkl
   (refine Qsz Qfz ?_; simp -implicitDefEqProofs (maxSteps:=9^7) (disch := first | omega | (simp only [lens]; omega)) only [go_sem, putl])
   (refine Qsz Qfz ?_; simp -implicitDefEqProofs (maxSteps:=9^7) (disch := first | omega | (simp only [lens]; omega)) only [go_sem, c0])
   by_cases hc : l.getD (2 * k + 1) 0 ≤ t.shape.getD k 0
   ·have hlv := hu.lenw (C.ty 23)
    (refine Zo ?_;repeat' ((with_reducible first|refine Zk ?_|(first|apply Za|apply Zb|apply Zc|apply Zd)<;>intro h)<;>try simp -implicitDefEqProofs (maxSteps:=9^7) (disch:=first|omega|(simp only [lens];omega)) only [go_sem, c0, cP, hlv, XJz]))
    refine Qnyz hu (by rw [Ymz, QVz]) rfl ⟨by decide, by decide⟩ (by rw [Ymz, QVz]; omega) fun v' H' hu' hF hk' => ?_
    have d0 := Yyz (hu.keep _) hF (c0 _) (by decide)
    have d1 := Yyz (hu.keep _) hF (c1 _) (by decide)
    have d2 := Yyz (hu.keep _) hF (c2 _) (by decide)
    have d3 := Yyz (hu.keep _) hF (c3 _) (by decide)
    have dP := Yyz (hu.keep _) hF (cP _) (by decide)
    obtain ⟨k1, k2, k3⟩ := hk'
    (refine Zo ?_;repeat' ((with_reducible first|refine Zk ?_|(first|apply Za|apply Zb|apply Zc|apply Zd)<;>intro h)<;>try simp -implicitDefEqProofs (maxSteps:=9^7) (disch:=first|omega|(simp only [lens];omega)) only [go_sem, dP, k1, k2, k3, XJz]))
    rw [Ymz, ← Qdez (f := fun k => l.getD (2 * k + 1) 0 - l.getD (2 * k) 0)] at hu'
    exact ⟨v', allS hJ hc, by rw [Qdz _ (by omega)]; exact d0, by rw [Qdz _ (by omega)]; exact d1, by rw [Qdz _ (by omega)]; exact d2, by rw [Qdz _ (by omega)]; exact d3, Qez dP, Qhaz hu' dP (by decide)⟩
   ·have hno : Qglz l t.shape = false := by
     rw [Bool.eq_false_iff]
     exact fun hh => hc (Qblz.1 hh k hkl)
    (refine Zo ?_;repeat' ((with_reducible first|refine Zk ?_|(first|apply Za|apply Zb|apply Zc|apply Zd)<;>intro h)<;>try simp -implicitDefEqProofs (maxSteps:=9^7) (disch:=first|omega|(simp only [lens];omega)) only [go_sem, c0, c1, c2, c3, b3, b2, b33, XJz]))
    exact Gd.ret (Qccz (by rw [YBz, if_neg (by omega), if_neg (by omega), if_neg (by rw [hyes]; decide), if_pos hno]) (by decide))
  ·rintro H2 ⟨u, hJ, g0, g1, g2, g3, gP, hu⟩
   rw [Q8z, show l.length / 2 = t.shape.length by omega] at hJ hu
   have hin : Qglz l t.shape = true := Qblz.2 hJ
   have hE : YBz t l = 0 := by rw [YBz, if_neg (by omega), if_neg (by omega), if_neg (by rw [hyes]; decide), if_neg (by rw [hin]; decide)]
   have hSl : (Ymz l t.shape.length).length = t.shape.length := QVz _ _
   have hSg : ∀ j, j < t.shape.length → (Ymz l t.shape.length).getD j 0 = l.getD (2 * j + 1) 0 - l.getD (2 * j) 0 := fun j hj => Ylz hj
   have hSm : mayP (Ymz l t.shape.length) = 0 := by
    refine mayP_ok (by omega) (fun j hj => ?_) ?_
    ·have := hI j (by omega)
     rw [hSg j (by omega)]; omega
    ·have := Qfxz (a := Ymz l t.shape.length) (b := t.shape) hSl fun j hj => by
      have h1 := hI j (by omega)
      have h2 := hJ j (by omega)
      rw [hSg j (by omega)]; omega
     omega
   have hmv := Qdzz t ht hf (Ymz l t.shape.length) (by omega) hSm 51 [.rp [.sl l.length (ints l)] 0] (by simp [cloL, clo, Qaz]) (addL l) (fun x hx hxb => ⟨by simp only [addL, List.length_map, List.length_range]; omega, by
    refine Qpoz l x (by omega) (by omega) (fun j hj => ?_) (fun j hj => ?_)
    ·have h1 := hI j (by omega)
     have h2 := hJ j (by omega)
     have h3 := hxb j (by omega)
     have h4 := Qwz m2 (i := j) (by omega)
     rw [hSg j (by omega)] at h3; omega
    ·have h1 := hI j (by omega)
     have h2 := hJ j (by omega)
     have h4 := Qwz m2 (i := j) (by omega)
     omega⟩)
   rw [XFz hE, hE]
   have hku : kn u = true ∧ cellsOf u = [u] ∧ scal u = true := by rcases hu with ⟨rfl, _⟩ | ⟨r, rfl, _⟩ <;> exact ⟨rfl, rfl, rfl⟩
   obtain ⟨k1, k2, k3⟩ := hku
   (refine Zo ?_;repeat' ((with_reducible first|refine Zk ?_|(first|apply Za|apply Zb|apply Zc|apply Zd)<;>intro h)<;>try simp -implicitDefEqProofs (maxSteps:=9^7) (disch:=first|omega|(simp only [lens];omega)) only [go_sem, g0, gP, k1, k2, k3]))
   refine Fc.sealed (r := 1) g1 (by simp [cloL, clo, Qaz]) ?_
   have hu1 : sz 1 [.sl l.length (ints l)] u = u := by
    rcases hu with ⟨rfl, _⟩ | ⟨r, rfl, hr, _⟩
    ·rfl
    ·have : r ≠ 1 := by rintro rfl; rw [g1] at hr; cases hr
     simp [sz, this]
   have he : szL 1 [.sl l.length (ints l)] [.agg [.sl t.shape.length (ints t.shape), .sl t.el.length (Qxz t.el)], u, .fn (.func 51) [] [.ptr 1 0]] = [tnV t, u, .fn (.func 51) [] [.rp [.sl l.length (ints l)] 0]] := by
    simp only [szL, sz, Xbz _ _ _ (Qaz _), Xbz _ _ _ (Qiz _), hu1, if_true]
    rfl
   rw [he]
   rw [hSl] at hmv
   have hlt := Qtz gP
   refine hmv.keptF ⟨.self (Qrz t), (Qhaz hu g1 (by decide)).bor' (Qaz _), .self (by simp [cloL, clo, Qaz]), trivial⟩ fun v X hv => ?_
   have f2 : Qbz (H2.set 1 none ++ X) 2 = some ⟨26, 2, [.nil, .nil]⟩ := Qgz (by rw [Qdz _ (by decide)]; exact g2) X
   have f3 : ∀ z, Qbz ((H2.set 1 none ++ X).set 2 z) 3 = some ⟨27, 1, [.int .i64 0]⟩ := fun z => by rw [Qdz _ (by decide)]; exact Qgz (by rw [Qdz _ (by decide)]; exact g3) X
   have f22 : ∀ row z, Qbz (((H2.set 1 none ++ X).set 2 (some row)).set 3 z) 2 = some row := fun row z => by rw [Qdz _ (by decide)]; exact Qez f2
   have f33 : ∀ z row, Qbz (((H2.set 1 none ++ X).set 2 z).set 3 (some row)) 3 = some row := fun z row => Qez (f3 z)
   obtain ⟨w, e, rfl, hw, he⟩ := hv.tup2
   obtain ⟨a, b, rfl, ha, hb⟩ := hw.agg2
   obtain ⟨ka, ca, sa⟩ := Q9z ha.gd
   obtain ⟨kb, cb, sb⟩ := Q9z hb.gd
   rw [he.gd.int_inv]
   (refine Zo ?_;repeat' ((with_reducible first|refine Zk ?_|(first|apply Za|apply Zb|apply Zc|apply Zd)<;>intro h)<;>try simp -implicitDefEqProofs (maxSteps:=9^7) (disch:=first|omega|(simp only [lens];omega)) only [go_sem, f2, f3, f22, f33, ka, ca, sa, kb, cb, sb]))
   exact Gd.ret (Gd.tupL ⟨Gd.aggL ⟨((ha.set (q := 2) (by simp; omega) _).set (q := 3) (by simp; omega) _).gd, ((hb.set (q := 2) (by simp; omega) _).set (q := 3) (by simp; omega) _).gd, trivial⟩, gd_i _ _, trivial⟩)
end Go.Proofs.YtjdbdmhjakfldaaGreat
end
section
namespace Go.Proofs.YtjdbdmhjakfldaaGreat
open Go.Bv
def negB (l : List Int) : Bool := l.any fun a => decide (a < 0)
theorem neg_spec (a : Int) : Pu C 55 [.int .i64 a] (.bool (decide (a < 0))) := by
 refine Fc.keep (Fc.bodyT Qfz Tryz.func55 w55 rfl Tryz.ntmps55 Tryz.results55 (zLe rfl) ?_)
 (refine Zo ?_;repeat' ((with_reducible first|refine Zk ?_|(first|apply Za|apply Zb|apply Zc|apply Zd)<;>intro h)<;>try simp -implicitDefEqProofs (maxSteps:=9^7) (disch:=first|omega|(simp only [lens];omega)) only [go_sem]))
 all_goals (refine Qmz (by intro g; simp only [go_sem, ren, renL]) ?_)
 all_goals (simp only [V.tup.injEq, List.cons.injEq, V.int.injEq, V.bool.injEq, true_and, and_true]; (try rw [Bool.eq_iff_iff]); (try simp only [decide_eq_true_eq, decide_eq_false_iff_not, Decidable.not_not, true_and, and_true, Bool.not_eq_true, Bool.not_eq_eq_eq_not, Bool.not_true, Bool.and_eq_true, Bool.or_eq_true, beq_iff_eq, bne_iff_ne, ne_eq, Bool.false_eq_true, false_iff, true_iff, iff_false, iff_true]); (try omega))
theorem Zsz {l : List Int} : negB l = false ↔ ∀ j, j < l.length → ¬ l.getD j 0 < 0 := by
 rw [negB, List.any_eq_false]
 simp only [decide_eq_true_eq]
 exact Xnz (xs := l) (p := fun x => ¬ x < 0)
theorem Qicz (l : List Int) (hl : l.length ≤ 17592186044416) : Fc C 87 [.sl l.length (ints l), .fn (.func 55) [] []] [] (fun v H => (∃ i : Int, v = .int .i64 i ∧ negB l = decide (0 ≤ i)) ∧ H = []) := by
 refine Fc.keep (Fc.bodyT Qfz Tryz.func87 w87 rfl Tryz.ntmps87 Tryz.results87 (zLe rfl) ?_)
 (refine Zo ?_;repeat' ((with_reducible first|refine Zk ?_|(first|apply Za|apply Zb|apply Zc|apply Zd)<;>intro h)<;>try simp -implicitDefEqProofs (maxSteps:=9^7) (disch:=first|omega|(simp only [lens];omega)) only [go_sem]))
 refine Qcz (fun n ts H => ∃ (i : Nat), (i ≤ l.length) ∧ (∀ j, j < i → ¬ l.getD j 0 < 0) ∧ (n = l.length - i) ∧ (H = []) ∧ ts.length = 19 ∧ nth ts 0 = .sl l.length (ints l) ∧ nth ts 1 = .fn (.func 55) [] [] ∧ nth ts 7 = .int .i64 l.length ∧ nth ts 8 = .int .i64 i) ?_ (n := l.length) ?_
 ·skip
  rintro n ts H ⟨i, hi, he, hn, hH, hL, hs0, hs1, hs7, hs8⟩
  refine Qqz [(0, .sl l.length (ints l)), (1, .fn (.func 55) [] []), (7, .int .i64 l.length), (8, .int .i64 i)] hL (by simp only [zFm, hs0, hs1, hs7, hs8, true_and]; exact zNm) ?_
  clear hL hs0 hs1 hs7 hs8 ts
  refine Qsz Qfz ?_
  subst hH hn
  (refine Zo ?_;repeat' ((with_reducible first|refine Zk ?_|(first|apply Za|apply Zb|apply Zc|apply Zd)<;>intro h)<;>try simp -implicitDefEqProofs (maxSteps:=9^7) (disch:=first|omega|(simp only [lens];omega)) only [go_sem]))
  ·skip
   refine Fc.pure (neg_spec _) (by simp [go_sem, cloL, clo, Qaz, Qnz]) (by intro g; simp only [go_sem, ren, renL]) ?_
   (refine Zo ?_;repeat' ((with_reducible first|refine Zk ?_|(first|apply Za|apply Zb|apply Zc|apply Zd)<;>intro h)<;>try simp -implicitDefEqProofs (maxSteps:=9^7) (disch:=first|omega|(simp only [lens];omega)) only [go_sem]))
   ·refine ⟨[], by simp, by simp, ⟨i, rfl, ?_⟩, rfl⟩
    rw [decide_eq_true (by omega)]
    cases hb : negB l with
    | true => rfl
    | false => exact absurd (by assumption) (Zsz.1 hb i (by omega))
   ·exact ⟨_, by omega, i + 1, by omega, allS he (by omega), rfl, (by (repeat' apply And.intro) <;> (first | rfl | omega | (congr 1; omega) | assumption | (congr 1; assumption)))⟩
  ·refine ⟨[], by simp, by simp, ⟨-1, rfl, ?_⟩, rfl⟩
   rw [decide_eq_false (by omega)]
   exact Zsz.2 fun j hj => he j (by omega)
 ·exact ⟨0, by omega, fun j hj => by omega, rfl, rfl, rfl, rfl, rfl, rfl, rfl⟩
theorem Qcjz (l : List Int) (hl : l.length ≤ 17592186044416) : Pu C 54 [.sl l.length (ints l), .fn (.func 55) [] []] (.bool (negB l)) := by
 refine Fc.keep (Fc.bodyT Qfz Tryz.func54 w54 rfl Tryz.ntmps54 Tryz.results54 (zLe rfl) ?_)
 (refine Zo ?_;repeat' ((with_reducible first|refine Zk ?_|(first|apply Za|apply Zb|apply Zc|apply Zd)<;>intro h)<;>try simp -implicitDefEqProofs (maxSteps:=9^7) (disch:=first|omega|(simp only [lens];omega)) only [go_sem]))
 refine Fc.call (Qicz l hl) (by simp [cloL, clo, Qaz]) ?_
 rintro v H' ⟨⟨i, rfl, h3⟩, rfl⟩
 simp only [ren, renH, List.map_nil, List.append_nil]
 (refine Zo ?_;repeat' ((with_reducible first|refine Zk ?_|(first|apply Za|apply Zb|apply Zc|apply Zd)<;>intro h)<;>try simp -implicitDefEqProofs (maxSteps:=9^7) (disch:=first|omega|(simp only [lens];omega)) only [go_sem]))
 (refine Qmz (by intro g; simp only [go_sem, ren, renL]) ?_)
 rw [h3]
def Qfzz (l : List Int) (n : Nat) : Bool := (List.range n).all fun k => decide (l.getD (2 * k) 0 ≤ 1024 ∧ l.getD (2 * k + 1) 0 ≤ 1024)
theorem Qawz {l : List Int} {n : Nat} : Qfzz l n = true ↔ ∀ k, k < n → l.getD (2 * k) 0 ≤ 1024 ∧ l.getD (2 * k + 1) 0 ≤ 1024 := by simp [Qfzz]
def padG (l s : List Int) (k : Nat) : Int := l.getD (2 * k) 0 + s.getD k 0 + l.getD (2 * k + 1) 0
def padS (l s : List Int) (n : Nat) : List Int := tabI (padG l s) n
def padE (t : Tn) (l : List Int) : Int := if mayT t ≠ 0 then mayT t else if l.length ≠ 2 * t.shape.length then 11 else if negB l = true then 11 else if Qfzz l t.shape.length = false then 14 else mayP (padS l t.shape t.shape.length)
def padT (t : Tn) (l : List Int) : Tn := errT (mvT t (padS l t.shape t.shape.length) (subL l)) (padE t l)
theorem pad_val (t : Tn) (ht : TnOK t) (l : List Int) (hl : l.length ≤ 1000000000) : Val C 22 [tnV t, .sl l.length (ints l)] (.tup [tnV (padT t l), .int .i64 (padE t l)]) := by
 have hv : Zqz l = .fn (.func 86) [] [.rp [.sl l.length (ints l)] 0] := rfl
 have hs := ht.s
 unfold padT
 refine Fc.keep (Fc.bodyT Qfz Tryz.func22 w22 rfl Tryz.ntmps22 Tryz.results22 (zLe rfl) ?_)
 (refine Zo ?_;repeat' ((with_reducible first|refine Zk ?_|(first|apply Za|apply Zb|apply Zc|apply Zd)<;>intro h)<;>try simp -implicitDefEqProofs (maxSteps:=9^7) (disch:=first|omega|(simp only [lens];omega)) only [go_sem]))
 refine Fc.pure (ZZz t ht) (by simp [cloL, clo, Qaz, Qiz]) (fun g => rfl) ?_
 by_cases hm : mayT t = 0
 case neg =>
  (refine Zo ?_;repeat' ((with_reducible first|refine Zk ?_|(first|apply Za|apply Zb|apply Zc|apply Zd)<;>intro h)<;>try simp -implicitDefEqProofs (maxSteps:=9^7) (disch:=first|omega|(simp only [lens];omega)) only [go_sem]))
  exact Gd.ret (Qccz (by rw [padE, if_pos hm]) hm)
 obtain ⟨hf, hmp, hel⟩ := Q0z hm
 obtain ⟨m1, m2, m3⟩ := QFz hmp
 rw [hm]
 by_cases hll : l.length = 2 * t.shape.length
 case neg =>
  (refine Zo ?_;repeat' ((with_reducible first|refine Zk ?_|(first|apply Za|apply Zb|apply Zc|apply Zd)<;>intro h)<;>try simp -implicitDefEqProofs (maxSteps:=9^7) (disch:=first|omega|(simp only [lens];omega)) only [go_sem]))
  exact Gd.ret (Qccz (by rw [padE, if_neg (by omega), if_pos hll]) (by decide))
 (refine Zo ?_;repeat' ((with_reducible first|refine Zk ?_|(first|apply Za|apply Zb|apply Zc|apply Zd)<;>intro h)<;>try simp -implicitDefEqProofs (maxSteps:=9^7) (disch:=first|omega|(simp only [lens];omega)) only [go_sem]))
 refine Fc.pure (Qcjz l (by omega)) (by simp [cloL, clo, Qaz]) (fun g => rfl) ?_
 cases hneg : negB l with
 | true =>
  (refine Zo ?_;repeat' ((with_reducible first|refine Zk ?_|(first|apply Za|apply Zb|apply Zc|apply Zd)<;>intro h)<;>try simp -implicitDefEqProofs (maxSteps:=9^7) (disch:=first|omega|(simp only [lens];omega)) only [go_sem]))
  exact Gd.ret (Qccz (by rw [padE, if_neg (by omega), if_neg (by omega), if_pos hneg]) (by decide))
 | false =>
  have hn := Zsz.1 hneg
  (refine Zo ?_;repeat' ((with_reducible first|refine Zk ?_|(first|apply Za|apply Zb|apply Zc|apply Zd)<;>intro h)<;>try simp -implicitDefEqProofs (maxSteps:=9^7) (disch:=first|omega|(simp only [lens];omega)) only [go_sem]))
  refine Fc.pure (YCz l) (by simp [cloL, clo, Qaz]) (fun g => by simp [Zqz, ren, renL, Qpz]) ?_
  (refine Zo ?_;repeat' ((with_reducible first|refine Zk ?_|(first|apply Za|apply Zb|apply Zc|apply Zd)<;>intro h)<;>try simp -implicitDefEqProofs (maxSteps:=9^7) (disch:=first|omega|(simp only [lens];omega)) only [go_sem, hv]))
  refine XPz (g := 86) (lb := [.rp [.sl l.length (ints l)] 0]) (xs := Qavz l) (by simp -implicitDefEqProofs (maxSteps:=9^7) (disch := first | omega | (simp only [lens]; omega)) only [go_sem]) (by simp [cloL, clo, Qaz]) (Zpz l (by omega)) (YDz rfl) (fun k H => ∃ u, (∀ j, j < k → l.getD (2 * j) 0 ≤ 1024 ∧ l.getD (2 * j + 1) 0 ≤ 1024) ∧ Qbz H 0 = some ⟨26, 2, [.sl t.shape.length (ints t.shape), .sl t.el.length (Qxz t.el)]⟩ ∧ Qbz H 1 = some ⟨22, 1, [.sl l.length (ints l)]⟩ ∧ Qbz H 2 = some ⟨26, 2, [.nil, .nil]⟩ ∧ Qbz H 3 = some ⟨27, 1, [.int .i64 0]⟩ ∧ Qbz H 4 = some ⟨23, 1, [u]⟩ ∧ Bv.Own 3 1 H u k (ints (padS l t.shape k))) ⟨.nil, fun j hj => by omega, rfl, rfl, rfl, rfl, rfl, Bv.Own.nil _ _ _⟩ ?_ ?_
  ·rintro k us H2 hk ⟨u, hJ, g0, g1, g2, g3, gP, hu⟩ lv
   have hkl : k < t.shape.length := by
    have := (List.getElem?_eq_some_iff.1 hk).1
    rw [Q8z] at this; omega
   rw [YEz (by omega)] at hk
   injection hk with hk
   subst hk
   have c0 : ∀ Y, Qbz (H2 ++ Y) 0 = some ⟨26, 2, [.sl t.shape.length (ints t.shape), .sl t.el.length (Qxz t.el)]⟩ := fun Y => Qgz g0 Y
   have c1 : ∀ Y, Qbz (H2 ++ Y) 1 = some ⟨22, 1, [.sl l.length (ints l)]⟩ := fun Y => Qgz g1 Y
   have c2 : ∀ Y, Qbz (H2 ++ Y) 2 = some ⟨26, 2, [.nil, .nil]⟩ := fun Y => Qgz g2 Y
   have c3 : ∀ Y, Qbz (H2 ++ Y) 3 = some ⟨27, 1, [.int .i64 0]⟩ := fun Y => Qgz g3 Y
   have cP : ∀ Y, Qbz (H2 ++ Y) 4 = some ⟨23, 1, [u]⟩ := fun Y => Qgz gP Y
   have b3 : ∀ Y z, Qbz ((H2 ++ Y).set 2 z) 3 = some ⟨27, 1, [.int .i64 0]⟩ := fun Y z => by rw [Qdz _ (by decide)]; exact c3 Y
   have b2 : ∀ Y row z, Qbz (((H2 ++ Y).set 2 (some row)).set 3 z) 2 = some row := fun Y row z => by rw [Qdz _ (by decide)]; exact Qez (c2 Y)
   have b33 : ∀ Y row z, Qbz (((H2 ++ Y).set 2 z).set 3 (some row)) 3 = some row := fun Y row z => Qez (b3 Y z)
   have hn0 := hn (2 * k) (by omega)
   have hn1 := hn (2 * k + 1) (by omega)
   have hsd := Qwz m2 hkl
   have hsp := X1z m2 hkl
   (refine Qsz Qfz ?_; simp -implicitDefEqProofs (maxSteps:=9^7) (disch := first | omega | (simp only [lens]; omega)) only [go_sem, putl])
   (refine Qsz Qfz ?_; simp -implicitDefEqProofs (maxSteps:=9^7) (disch := first | omega | (simp only [lens]; omega)) only [go_sem, c0])
   by_cases hc : l.getD (2 * k) 0 ≤ 1024 ∧ l.getD (2 * k + 1) 0 ≤ 1024
   ·have hlv := hu.lenw (C.ty 23)
    (refine Zo ?_;repeat' ((with_reducible first|refine Zk ?_|(first|apply Za|apply Zb|apply Zc|apply Zd)<;>intro h)<;>try simp -implicitDefEqProofs (maxSteps:=9^7) (disch:=first|omega|(simp only [lens];omega)) only [go_sem, c0, cP, hlv, XJz]))
    refine Qnyz hu (by rw [padS, QVz]) rfl ⟨by decide, by decide⟩ (by rw [padS, QVz]; omega) fun v' H' hu' hF hk' => ?_
    have d0 := Yyz (hu.keep _) hF (c0 _) (by decide)
    have d1 := Yyz (hu.keep _) hF (c1 _) (by decide)
    have d2 := Yyz (hu.keep _) hF (c2 _) (by decide)
    have d3 := Yyz (hu.keep _) hF (c3 _) (by decide)
    have dP := Yyz (hu.keep _) hF (cP _) (by decide)
    obtain ⟨k1, k2, k3⟩ := hk'
    (refine Zo ?_;repeat' ((with_reducible first|refine Zk ?_|(first|apply Za|apply Zb|apply Zc|apply Zd)<;>intro h)<;>try simp -implicitDefEqProofs (maxSteps:=9^7) (disch:=first|omega|(simp only [lens];omega)) only [go_sem, dP, k1, k2, k3, XJz]))
    rw [padS, show l.getD (2 * k) 0 + t.shape.getD k 0 + l.getD (2 * k + 1) 0 = padG l t.shape k from rfl, ← Qdez (f := padG l t.shape)] at hu'
    exact ⟨v', allS hJ hc, by rw [Qdz _ (by omega)]; exact d0, by rw [Qdz _ (by omega)]; exact d1, by rw [Qdz _ (by omega)]; exact d2, by rw [Qdz _ (by omega)]; exact d3, Qez dP, Qhaz hu' dP (by decide)⟩
   ·have hno : Qfzz l t.shape.length = false := by
     rw [Bool.eq_false_iff]
     exact fun hh => hc (Qawz.1 hh k hkl)
    (refine Zo ?_;repeat' ((with_reducible first|refine Zk ?_|(first|apply Za|apply Zb|apply Zc|apply Zd)<;>intro h)<;>try simp -implicitDefEqProofs (maxSteps:=9^7) (disch:=first|omega|(simp only [lens];omega)) only [go_sem, c0, c1, c2, c3, b3, b2, b33, XJz]))
    all_goals exact Gd.ret (Qccz (by rw [padE, if_neg (by omega), if_neg (by omega), if_neg (by rw [hneg]; decide), if_pos hno]) (by decide))
  ·rintro H2 ⟨u, hJ, g0, g1, g2, g3, gP, hu⟩
   rw [Q8z, show l.length / 2 = t.shape.length by omega] at hJ hu
   have hin : Qfzz l t.shape.length = true := Qawz.2 hJ
   have hE : padE t l = mayP (padS l t.shape t.shape.length) := by rw [padE, if_neg (by omega), if_neg (by omega), if_neg (by rw [hneg]; decide), if_neg (by rw [hin]; decide)]
   have hSl : (padS l t.shape t.shape.length).length = t.shape.length := QVz _ _
   have hSg : ∀ j, j < t.shape.length → (padS l t.shape t.shape.length).getD j 0 = l.getD (2 * j) 0 + t.shape.getD j 0 + l.getD (2 * j + 1) 0 := fun j hj => Ylz hj
   have hku : kn u = true ∧ cellsOf u = [u] ∧ scal u = true := by rcases hu with ⟨rfl, _⟩ | ⟨r, rfl, _⟩ <;> exact ⟨rfl, rfl, rfl⟩
   obtain ⟨k1, k2, k3⟩ := hku
   have hu9 : Bv.Own 3 1 H2 u (padS l t.shape t.shape.length).length (ints (padS l t.shape t.shape.length)) := by rw [hSl]; exact hu
   have hbu : Bor H2 u (.sl (padS l t.shape t.shape.length).length (ints (padS l t.shape t.shape.length))) := hu9.bor' (Qaz _)
   (refine Zo ?_;repeat' ((with_reducible first|refine Zk ?_|(first|apply Za|apply Zb|apply Zc|apply Zd)<;>intro h)<;>try simp -implicitDefEqProofs (maxSteps:=9^7) (disch:=first|omega|(simp only [lens];omega)) only [go_sem, gP, k1, k2, k3]))
   refine (Val.ofPu (ZFz (padS l t.shape t.shape.length) (by omega)) rfl rfl).call ⟨hbu, trivial⟩ rfl ?_
   by_cases hz : mayP (padS l t.shape t.shape.length) = 0
   ·have hE' : padE t l = 0 := hE.trans hz
    obtain ⟨n1, n2, n3⟩ := QFz hz
    have hmv := Qdzz t ht hf (padS l t.shape t.shape.length) (by omega) hz 57 [.rp [.sl l.length (ints l)] 0] (by simp [cloL, clo, Qaz]) (subL l) (fun x hx hxb => ⟨by simp only [subL, List.length_map, List.length_range]; omega, by
     refine Qluz l x (by omega) (by omega) (fun j hj => ?_) (fun j hj => ?_)
     ·have h3 := hxb j (by omega)
      have h4 := Qwz n2 (i := j) (by omega)
      omega
     ·have h1 := hn (2 * j) (by omega)
      have h2 := hJ j (by omega)
      omega⟩)
    rw [hz]
    rw [XFz hE', hE']
    (refine Zo ?_;repeat' ((with_reducible first|refine Zk ?_|(first|apply Za|apply Zb|apply Zc|apply Zd)<;>intro h)<;>try simp -implicitDefEqProofs (maxSteps:=9^7) (disch:=first|omega|(simp only [lens];omega)) only [go_sem, g0, gP, k1, k2, k3]))
    refine Fc.sealed (r := 1) g1 (by simp [cloL, clo, Qaz]) ?_
    have hu1 : sz 1 [.sl l.length (ints l)] u = u := by
     rcases hu with ⟨rfl, _⟩ | ⟨r, rfl, hr, _⟩
     ·rfl
     ·have : r ≠ 1 := by rintro rfl; rw [g1] at hr; cases hr
      simp [sz, this]
    have he : szL 1 [.sl l.length (ints l)] [.agg [.sl t.shape.length (ints t.shape), .sl t.el.length (Qxz t.el)], u, .fn (.func 57) [] [.ptr 1 0]] = [tnV t, u, .fn (.func 57) [] [.rp [.sl l.length (ints l)] 0]] := by
     simp only [szL, sz, Xbz _ _ _ (Qaz _), Xbz _ _ _ (Qiz _), hu1, if_true]
     rfl
    rw [he]
    have hlt := Qtz gP
    refine hmv.keptF ⟨.self (Qrz t), (Qhaz hu9 g1 (by decide)).bor' (Qaz _), .self (by simp [cloL, clo, Qaz]), trivial⟩ fun v X hv => ?_
    have f2 : Qbz (H2.set 1 none ++ X) 2 = some ⟨26, 2, [.nil, .nil]⟩ := Qgz (by rw [Qdz _ (by decide)]; exact g2) X
    have f3 : ∀ z, Qbz ((H2.set 1 none ++ X).set 2 z) 3 = some ⟨27, 1, [.int .i64 0]⟩ := fun z => by rw [Qdz _ (by decide)]; exact Qgz (by rw [Qdz _ (by decide)]; exact g3) X
    have f22 : ∀ row z, Qbz (((H2.set 1 none ++ X).set 2 (some row)).set 3 z) 2 = some row := fun row z => by rw [Qdz _ (by decide)]; exact Qez f2
    have f33 : ∀ z row, Qbz (((H2.set 1 none ++ X).set 2 z).set 3 (some row)) 3 = some row := fun z row => Qez (f3 z)
    obtain ⟨w, e, rfl, hw, he⟩ := hv.tup2
    obtain ⟨a, b, rfl, ha, hb⟩ := hw.agg2
    obtain ⟨ka, ca, sa⟩ := Q9z ha.gd
    obtain ⟨kb, cb, sb⟩ := Q9z hb.gd
    rw [he.gd.int_inv]
    (refine Zo ?_;repeat' ((with_reducible first|refine Zk ?_|(first|apply Za|apply Zb|apply Zc|apply Zd)<;>intro h)<;>try simp -implicitDefEqProofs (maxSteps:=9^7) (disch:=first|omega|(simp only [lens];omega)) only [go_sem, f2, f3, f22, f33, ka, ca, sa, kb, cb, sb]))
    exact Gd.ret (Gd.tupL ⟨Gd.aggL ⟨((ha.set (q := 2) (by simp; omega) _).set (q := 3) (by simp; omega) _).gd, ((hb.set (q := 2) (by simp; omega) _).set (q := 3) (by simp; omega) _).gd, trivial⟩, gd_i _ _, trivial⟩)
   ·have b3 : ∀ z, Qbz (H2.set 2 z) 3 = some ⟨27, 1, [.int .i64 0]⟩ := fun z => by rw [Qdz _ (by decide)]; exact g3
    have b2 : ∀ row z, Qbz ((H2.set 2 (some row)).set 3 z) 2 = some row := fun row z => by rw [Qdz _ (by decide)]; exact Qez g2
    have b33 : ∀ row z, Qbz ((H2.set 2 z).set 3 (some row)) 3 = some row := fun row z => Qez (b3 z)
    (refine Zo ?_;repeat' ((with_reducible first|refine Zk ?_|(first|apply Za|apply Zb|apply Zc|apply Zd)<;>intro h)<;>try simp -implicitDefEqProofs (maxSteps:=9^7) (disch:=first|omega|(simp only [lens];omega)) only [go_sem, g2, g3, b3, b2, b33]))
    exact Gd.ret (Qccz hE hz)
end Go.Proofs.YtjdbdmhjakfldaaGreat
end
section
namespace Go.Proofs.YtjdbdmhjakfldaaGreat
open Go.Bv
def Xyz (l : List Int) : Bool := (List.range l.length).all fun i => decide (0 ≤ l.getD i 0 ∧ l.getD i 0 < l.length) && (List.range i).all fun k => decide (l.getD k 0 ≠ l.getD i 0)
def Qizz (l : List Int) (i : Nat) : Prop := 0 ≤ l.getD i 0 ∧ l.getD i 0 < l.length ∧ ∀ k, k < i → l.getD k 0 ≠ l.getD i 0
theorem XDz (l : List Int) : Xyz l = true ↔ ∀ i, i < l.length → Qizz l i := by
 simp only [Xyz, Qizz, List.all_eq_true, List.mem_range, Bool.and_eq_true, decide_eq_true_eq, and_assoc]
theorem Qdnz {xs : List Int} (h : Xyz xs = true) : xs.Nodup := by
 rw [List.Nodup, List.pairwise_iff_getElem]
 intro i j hi hj hij he
 have := ((XDz xs).1 h j hj)
 simp only [Qizz] at this
 have h2 := this.2.2
 refine h2 i hij ?_
 simp only [List.getD, List.getElem?_eq_getElem hi, List.getElem?_eq_getElem hj, Option.getD_some, he]
theorem Qiyz {xs : List Int} (h : Xyz xs = true) : ∀ a ∈ xs, 0 ≤ a ∧ a < xs.length := by
 intro a ha
 obtain ⟨i, hi, rfl⟩ := List.getElem_of_mem ha
 have := ((XDz xs).1 h i hi)
 simp only [Qizz, List.getD, List.getElem?_eq_getElem hi, Option.getD_some] at this
 exact ⟨this.1, this.2.1⟩
theorem Qemz {ys : List Int} {i : Nat} (h : i < ys.length) : ys.getD i 0 ∈ ys := by
 simp only [List.getD, List.getElem?_eq_getElem h, Option.getD_some]; exact List.getElem_mem _
theorem Qbsz {xs ys : List Int} (hp : ys.Perm xs) (hs : ∀ p q, p < q → q < ys.length → ys.getD p 0 ≤ ys.getD q 0) : Xyz xs = true ↔ ∀ i, i < ys.length → ys.getD i 0 = i := by
 have hl := hp.length_eq
 constructor
 ·intro h
  have hn : ys.Nodup := hp.nodup_iff.2 (Qdnz h)
  have hm : ∀ i, i < ys.length → 0 ≤ ys.getD i 0 ∧ ys.getD i 0 < ys.length := fun i hi => by
   have := Qiyz h _ (hp.mem_iff.1 (Qemz hi)); rwa [← hl] at this
  have hlt : ∀ i, i + 1 < ys.length → ys.getD i 0 < ys.getD (i + 1) 0 := fun i hi => by
   have h1 := hs i (i + 1) (by omega) hi
   have h2 : ys.getD i 0 ≠ ys.getD (i + 1) 0 := by
    rw [List.Nodup, List.pairwise_iff_getElem] at hn
    have := hn i (i + 1) (by omega) hi (by omega)
    simpa only [List.getD, List.getElem?_eq_getElem hi, List.getElem?_eq_getElem (show i < ys.length by omega), Option.getD_some] using this
   omega
  have lo : ∀ i, i < ys.length → (i : Int) ≤ ys.getD i 0 := by
   intro i
   induction i with
   | zero => intro hi; exact (hm 0 hi).1
   | succ i ih => intro hi; have := ih (by omega); have := hlt i hi; omega
  have up : ∀ d i, i < ys.length → ys.length - 1 - i = d → ys.getD i 0 ≤ i := by
   intro d
   induction d with
   | zero => intro i hi hd; have := (hm i hi).2; omega
   | succ d ih => intro i hi hd; have := ih (i + 1) (by omega) (by omega); have := hlt i (by omega); omega
  intro i hi
  have := lo i hi; have := up _ i hi rfl; omega
 ·intro h
  have hn : ys.Nodup := by
   rw [List.Nodup, List.pairwise_iff_getElem]
   intro i j hi hj hij he
   have h1 := h i hi; have h2 := h j hj
   simp only [List.getD, List.getElem?_eq_getElem hi, List.getElem?_eq_getElem hj, Option.getD_some] at h1 h2
   omega
  have hn' := hp.nodup_iff.1 hn
  rw [List.Nodup, List.pairwise_iff_getElem] at hn'
  refine (XDz xs).2 fun i hi => ?_
  obtain ⟨j, hj, he⟩ := List.getElem_of_mem (hp.mem_iff.2 (Qemz hi))
  have h1 := h j hj
  simp only [List.getD, List.getElem?_eq_getElem hj, Option.getD_some] at h1
  simp only [Qizz]
  refine ⟨by omega, by omega, fun k hk => ?_⟩
  have := hn' k i (by omega) hi hk
  simpa only [List.getD, List.getElem?_eq_getElem hi, List.getElem?_eq_getElem (show k < xs.length by omega), Option.getD_some] using this
theorem Qlbz (xs : List Int) (m : Nat) (hm : m ≤ 1000) (hx : xs.length ≤ 12) : Pu C 40 [.sl xs.length (ints xs), .int .i64 (m : Nat)] (.int .i64 (if (Xyz xs && decide (xs.length = m)) = true then 0 else 11)) := by
 refine Fc.keep (Fc.bodyT Qfz Tryz.func40 w40 rfl Tryz.ntmps40 Tryz.results40 (zLe rfl) ?_)
 (refine Zo ?_;repeat' ((with_reducible first|refine Zk ?_|(first|apply Za|apply Zb|apply Zc|apply Zd)<;>intro h)<;>try simp -implicitDefEqProofs (maxSteps:=9^7) (disch:=first|omega|(simp only [lens];omega)) only [go_sem]))
 refine Fc.pure (Qexz xs) (by simp [cloL, clo, Qaz]) (fun g => Qauz g _ (by simp [vals, cloL, clo, Qaz])) ?_
 (refine Zo ?_;repeat' ((with_reducible first|refine Zk ?_|(first|apply Za|apply Zb|apply Zc|apply Zd)<;>intro h)<;>try simp -implicitDefEqProofs (maxSteps:=9^7) (disch:=first|omega|(simp only [lens];omega)) only [go_sem]))
 refine Fc.mono (Qnnz xs hx) ?_
 rintro v H' ⟨ys, hp, hs, hR⟩
 have hr := Qbsz hp hs
 have hl := hp.length_eq
 have hmx : (if (0 : Int) > (m : Int) then 0 else (m : Int)) = (m : Int) := if_neg (by omega)
 rcases hR with ⟨rfl, h, h', rfl⟩ | ⟨rfl, rfl, _⟩
 ·obtain rfl : ys = [] := List.eq_nil_of_length_eq_zero h
  have hx : Xyz xs = true := hr.2 (by simp)
  rw [hx]
  (refine Zo ?_;repeat' ((with_reducible first|refine Zk ?_|(first|apply Za|apply Zb|apply Zc|apply Zd)<;>intro h)<;>try simp -implicitDefEqProofs (maxSteps:=9^7) (disch:=first|omega|(simp only [lens];omega)) only [go_sem]))
  refine Qeyz ?_
  refine Qsz Qfz ?_
  have hl0 : xs.length = 0 := hl.symm
  (refine Zo ?_;repeat' ((with_reducible first|refine Zk ?_|(first|apply Za|apply Zb|apply Zc|apply Zd)<;>intro h)<;>try simp -implicitDefEqProofs (maxSteps:=9^7) (disch:=first|omega|(simp only [lens];omega)) only [go_sem, hmx]))
  all_goals (refine Qmz (by intro g; simp only [go_sem, ren, renL]) ?_)
  ·simp; omega
  ·simp; omega
 ·skip
  (refine Zo ?_;repeat' ((with_reducible first|refine Zk ?_|(first|apply Za|apply Zb|apply Zc|apply Zd)<;>intro h)<;>try simp -implicitDefEqProofs (maxSteps:=9^7) (disch:=first|omega|(simp only [lens];omega)) only [go_sem]))
  refine Qcz (fun n ts H => ∃ (i : Nat), (i ≤ ys.length) ∧ (H = [some ⟨3, 1, ints ys⟩]) ∧ (n = ys.length - i) ∧ (∀ k, k < i → ys.getD k 0 = k) ∧ ts.length = 27 ∧ nth ts 1 = .int .i64 (m : Nat) ∧ nth ts 4 = .int .i64 0 ∧ nth ts 5 = .ref 0 0 ys.length ∧ nth ts 11 = .ref 0 0 ys.length ∧ nth ts 12 = .int .i64 ys.length ∧ nth ts 13 = .int .i64 i) ?_ (n := ys.length) ?_
  ·skip
   rintro n ts H ⟨i, hi, hH, hn, hall, hL, hs1, hs4, hs5, hs11, hs12, hs13⟩
   refine Qqz [(1, .int .i64 (m : Nat)), (4, .int .i64 0), (5, .ref 0 0 ys.length), (11, .ref 0 0 ys.length), (12, .int .i64 ys.length), (13, .int .i64 i)] hL (by simp only [zFm, hs1, hs4, hs5, hs11, hs12, hs13, true_and]; exact zNm) ?_
   clear hL hs1 hs4 hs5 hs11 hs12 hs13 ts
   refine Qsz Qfz ?_
   subst hH
   (refine Zo ?_;repeat' ((with_reducible first|refine Zk ?_|(first|apply Za|apply Zb|apply Zc|apply Zd)<;>intro h)<;>try simp -implicitDefEqProofs (maxSteps:=9^7) (disch:=first|omega|(simp only [lens];omega)) only [go_sem, hmx]))
   ·skip
    (refine Qmz (by intro g; simp only [go_sem, ren, renL]) ?_)
    have : Xyz xs = false := by
     cases hb : Xyz xs with
     | false => rfl
     | true => exact absurd (hr.1 hb i (by omega)) (by assumption)
    simp [this]
   ·refine ⟨ys.length - (i + 1), by omega, i + 1, by omega, rfl, fun k hk => ?_, rfl⟩
    rcases Nat.lt_or_ge k i with h1 | h1
    ·exact hall k h1
    ·obtain rfl : k = i := by omega
     assumption
   ·have : Xyz xs = true := hr.2 fun k hk => hall k (by omega)
    (refine Qmz (by intro g; simp only [go_sem, ren, renL]) ?_)
    simp [this]; omega
   ·have : Xyz xs = true := hr.2 fun k hk => hall k (by omega)
    (refine Qmz (by intro g; simp only [go_sem, ren, renL]) ?_)
    simp [this]; omega
  ·exact ⟨0, by omega, rfl, rfl, fun k hk => by omega, rfl, rfl, rfl, rfl, rfl, rfl, rfl⟩
end Go.Proofs.YtjdbdmhjakfldaaGreat
end
section
namespace Go.Proofs.YtjdbdmhjakfldaaGreat
open Go.Bv
theorem ZOz (r q lo hi : Nat) (a b s : Nat) (H0 : Heap) (xs : List Int) (hr : Qbz H0 r = some ⟨3, 1, ints xs⟩) (hq : Qbz H0 q = some ⟨3, 1, [.int .i64 (s : Nat)]⟩) (hhi : hi ≤ xs.length) (ha : lo ≤ a ∧ a < hi) (hb : lo ≤ b ∧ b < hi) (hn : xs.length ≤ 1048576) (hs : s ≤ 1000) :
  Fc C 176 [.ref r 0 xs.length, .int .i64 (a : Nat), .int .i64 (b : Nat), .ptr q 0] H0 (fun v H' => ∃ x y s' : Nat, v = .tup [.int .i64 (x : Nat), .int .i64 (y : Nat)] ∧ (lo ≤ x ∧ x < hi) ∧ (lo ≤ y ∧ y < hi) ∧ s' ≤ s + 1 ∧ H' = H0.set q (some ⟨3, 1, [.int .i64 (s' : Nat)]⟩)) := by
 have hst : ∀ z : Row, Qbz (H0.set q (some z)) q = some z := fun z => Qez hq
 have hsame := XXz hq
 refine Fc.bodyT Qfz Tryz.func176 w176 rfl Tryz.ntmps176 Tryz.results176 (zLe rfl) ?_
 (refine Zo ?_;repeat' ((with_reducible first|refine Zk ?_|(first|apply Za|apply Zb|apply Zc|apply Zd)<;>intro h)<;>try simp -implicitDefEqProofs (maxSteps:=9^7) (disch:=first|omega|(simp only [lens];omega)) only [go_sem, hr]))
 refine Pc.pure (QEz _ _) rfl (fun g => rfl) ?_
 by_cases hlt : xs.getD b 0 < xs.getD a 0
 ·skip
  (refine Zo ?_;repeat' ((with_reducible first|refine Zk ?_|(first|apply Za|apply Zb|apply Zc|apply Zd)<;>intro h)<;>try simp -implicitDefEqProofs (maxSteps:=9^7) (disch:=first|omega|(simp only [lens];omega)) only [go_sem, hq, hst]))
  exact ⟨b, a, s + 1, rfl, hb, ha, by omega, by simp⟩
 ·skip
  (refine Zo ?_;repeat' ((with_reducible first|refine Zk ?_|(first|apply Za|apply Zb|apply Zc|apply Zd)<;>intro h)<;>try simp -implicitDefEqProofs (maxSteps:=9^7) (disch:=first|omega|(simp only [lens];omega)) only [go_sem]))
  exact ⟨a, b, s, rfl, ha, hb, by omega, hsame.symm⟩
theorem ZPz (r q lo hi : Nat) (a b c s : Nat) (H0 : Heap) (xs : List Int) (hr : Qbz H0 r = some ⟨3, 1, ints xs⟩) (hq : Qbz H0 q = some ⟨3, 1, [.int .i64 (s : Nat)]⟩) (hne : r ≠ q) (hhi : hi ≤ xs.length) (ha : lo ≤ a ∧ a < hi) (hb : lo ≤ b ∧ b < hi) (hc : lo ≤ c ∧ c < hi) (hn : xs.length ≤ 1048576) (hs : s ≤ 900) :
  Fc C 166 [.ref r 0 xs.length, .int .i64 (a : Nat), .int .i64 (b : Nat), .int .i64 (c : Nat), .ptr q 0] H0 (fun v H' => ∃ x s' : Nat, v = .int .i64 (x : Nat) ∧ (lo ≤ x ∧ x < hi) ∧ s' ≤ s + 3 ∧ H' = H0.set q (some ⟨3, 1, [.int .i64 (s' : Nat)]⟩)) := by
 have hst : ∀ z : Row, Qbz (H0.set q (some z)) q = some z := fun z => Qez hq
 have hrr : ∀ z, Qbz (H0.set q z) r = some ⟨3, 1, ints xs⟩ := fun z => by rw [Qdz _ (Ne.symm hne)]; exact hr
 refine Fc.bodyT Qfz Tryz.func166 w166 rfl Tryz.ntmps166 Tryz.results166 (zLe rfl) ?_
 (refine Zo ?_;repeat' ((with_reducible first|refine Zk ?_|(first|apply Za|apply Zb|apply Zc|apply Zd)<;>intro h)<;>try simp -implicitDefEqProofs (maxSteps:=9^7) (disch:=first|omega|(simp only [lens];omega)) only [go_sem]))
 refine Fc.mono (ZOz r q lo hi a b s _ xs hr hq hhi ha hb hn (by omega)) ?_
 rintro v H' ⟨a1, b1, s1, rfl, ha1, hb1, hs1, rfl⟩
 (refine Zo ?_;repeat' ((with_reducible first|refine Zk ?_|(first|apply Za|apply Zb|apply Zc|apply Zd)<;>intro h)<;>try simp -implicitDefEqProofs (maxSteps:=9^7) (disch:=first|omega|(simp only [lens];omega)) only [go_sem]))
 refine Fc.mono (ZOz r q lo hi b1 c s1 _ xs (hrr _) (hst _) hhi hb1 hc hn (by omega)) ?_
 rintro v H' ⟨b2, c2, s2, rfl, hb2, hc2, hs2, rfl⟩
 rw [List.set_set]
 (refine Zo ?_;repeat' ((with_reducible first|refine Zk ?_|(first|apply Za|apply Zb|apply Zc|apply Zd)<;>intro h)<;>try simp -implicitDefEqProofs (maxSteps:=9^7) (disch:=first|omega|(simp only [lens];omega)) only [go_sem]))
 refine Fc.mono (ZOz r q lo hi a1 b2 s2 _ xs (hrr _) (hst _) hhi ha1 hb2 hn (by omega)) ?_
 rintro v H' ⟨a3, b3, s3, rfl, ha3, hb3, hs3, rfl⟩
 rw [List.set_set]
 (refine Zo ?_;repeat' ((with_reducible first|refine Zk ?_|(first|apply Za|apply Zb|apply Zc|apply Zd)<;>intro h)<;>try simp -implicitDefEqProofs (maxSteps:=9^7) (disch:=first|omega|(simp only [lens];omega)) only [go_sem]))
 exact ⟨b3, s3, rfl, hb3, by omega, rfl⟩
theorem Ywz (r q lo hi : Nat) (a s : Nat) (H0 : Heap) (xs : List Int) (hr : Qbz H0 r = some ⟨3, 1, ints xs⟩) (hq : Qbz H0 q = some ⟨3, 1, [.int .i64 (s : Nat)]⟩) (hne : r ≠ q) (hhi : hi ≤ xs.length) (ha : lo + 1 ≤ a ∧ a + 1 < hi) (hn : xs.length ≤ 1048576) (hs : s ≤ 900) :
  Fc C 165 [.ref r 0 xs.length, .int .i64 (a : Nat), .ptr q 0] H0 (fun v H' => ∃ x s' : Nat, v = .int .i64 (x : Nat) ∧ (lo ≤ x ∧ x < hi) ∧ s' ≤ s + 3 ∧ H' = H0.set q (some ⟨3, 1, [.int .i64 (s' : Nat)]⟩)) := by
 refine Fc.bodyT Qfz Tryz.func165 w165 rfl Tryz.ntmps165 Tryz.results165 (zLe rfl) ?_
 (refine Zo ?_;repeat' ((with_reducible first|refine Zk ?_|(first|apply Za|apply Zb|apply Zc|apply Zd)<;>intro h)<;>try simp -implicitDefEqProofs (maxSteps:=9^7) (disch:=first|omega|(simp only [lens];omega)) only [go_sem]))
 have e1 : ((a : Int) - 1) = ((a - 1 : Nat) : Int) := by omega
 have e2 : ((a : Int) + 1) = ((a + 1 : Nat) : Int) := by omega
 rw [e1, e2]
 refine Fc.mono (ZPz r q lo hi (a - 1) a (a + 1) s _ xs hr hq hne hhi (by omega) (by omega) (by omega) hn hs) ?_
 rintro v H' ⟨b3, s3, rfl, hb3, hs3, rfl⟩
 (refine Zo ?_;repeat' ((with_reducible first|refine Zk ?_|(first|apply Za|apply Zb|apply Zc|apply Zd)<;>intro h)<;>try simp -implicitDefEqProofs (maxSteps:=9^7) (disch:=first|omega|(simp only [lens];omega)) only [go_sem]))
 exact ⟨b3, s3, rfl, hb3, by omega, rfl⟩
end Go.Proofs.YtjdbdmhjakfldaaGreat
end
section
namespace Go.Proofs.YtjdbdmhjakfldaaGreat
open Go.Bv
theorem Qgxz (r : Nat) (a b : Nat) (H0 : Heap) (xs : List Int) (hr : Qbz H0 r = some ⟨3, 1, ints xs⟩) (hab : a ≤ b) (hb : b ≤ xs.length) (hn : xs.length ≤ 1048576) :
  Fc C 148 [.ref r 0 xs.length, .int .i64 (a : Nat), .int .i64 (b : Nat)] H0 (fun v H' => ∃ ys : List Int, v = .tup [] ∧ ys.length = xs.length ∧ H' = H0.set r (some ⟨3, 1, ints ys⟩)) := by
 have hset : ∀ row, Qbz (H0.set r (some row)) r = some row := fun row => Qez hr
 have hsame := XXz hr
 refine Fc.bodyT Qfz Tryz.func148 w148 rfl Tryz.ntmps148 Tryz.results148 (zLe rfl) ?_
 (refine Zo ?_;repeat' ((with_reducible first|refine Zk ?_|(first|apply Za|apply Zb|apply Zc|apply Zd)<;>intro h)<;>try simp -implicitDefEqProofs (maxSteps:=9^7) (disch:=first|omega|(simp only [lens];omega)) only [go_sem]))
 refine Qcz (fun n ts H => ∃ (i : Nat) (j : Int) (ws : List Int), (a ≤ i) ∧ (i ≤ b) ∧ (j < (b : Nat)) ∧ ((a : Int) - 1 ≤ j) ∧ (ws.length = xs.length) ∧ (H = H0.set r (some ⟨3, 1, ints ws⟩)) ∧ (n = (j + 1 - i).toNat) ∧ ts.length = 32 ∧ nth ts 0 = .ref r 0 xs.length ∧ nth ts 6 = .int .i64 (i : Nat) ∧ nth ts 7 = .int .i64 j) ?_ (n := (b - a : Nat)) ?_
 ·skip
  rintro n ts H ⟨i, j, ws, hi, hi2, hj, hj2, hl, hH, hn2, hL, hs0, hs6, hs7⟩
  refine Qqz [(0, .ref r 0 xs.length), (6, .int .i64 (i : Nat)), (7, .int .i64 j)] hL (by simp only [zFm, hs0, hs6, hs7, true_and]; exact zNm) ?_
  clear hL hs0 hs6 hs7 ts
  refine Qsz Qfz ?_
  subst hH
  by_cases hij : (i : Int) < j
  ·obtain ⟨m, rfl⟩ : ∃ m : Nat, j = m := ⟨j.toNat, by omega⟩
   (refine Zo ?_;repeat' ((with_reducible first|refine Zk ?_|(first|apply Za|apply Zb|apply Zc|apply Zd)<;>intro h)<;>try simp -implicitDefEqProofs (maxSteps:=9^7) (disch:=first|omega|(simp only [lens];omega)) only [go_sem, hset, QBz]))
   exact ⟨((m : Int) - 1 + 1 - ((i + 1 : Nat) : Int)).toNat, by omega, i + 1, (m : Int) - 1, _, by omega, by omega, by omega, by omega, by simp [hl], rfl, rfl, by congr 1, by congr 1⟩
  ·skip
   (refine Zo ?_;repeat' ((with_reducible first|refine Zk ?_|(first|apply Za|apply Zb|apply Zc|apply Zd)<;>intro h)<;>try simp -implicitDefEqProofs (maxSteps:=9^7) (disch:=first|omega|(simp only [lens];omega)) only [go_sem]))
   exact ⟨ws, hl, rfl⟩
 ·exact ⟨a, (b : Int) - 1, xs, by omega, by omega, by omega, by omega, rfl, hsame.symm, by omega, rfl, rfl, rfl, rfl⟩
theorem Z1z (r : Nat) (lo hi first : Nat) (H0 : Heap) (xs : List Int) (hr : Qbz H0 r = some ⟨3, 1, ints xs⟩) (hb : first + hi ≤ xs.length) (hn : xs.length ≤ 1048576) (hlo : lo ≤ hi) :
  Fc C 162 [.ref r 0 xs.length, .int .i64 (lo : Nat), .int .i64 (hi : Nat), .int .i64 (first : Nat)] H0 (fun v H' => ∃ ys : List Int, v = .tup [] ∧ ys.length = xs.length ∧ H' = H0.set r (some ⟨3, 1, ints ys⟩)) := by
 have hset : ∀ row, Qbz (H0.set r (some row)) r = some row := fun row => Qez hr
 have hsame := XXz hr
 refine Fc.bodyT Qfz Tryz.func162 w162 rfl Tryz.ntmps162 Tryz.results162 (zLe rfl) ?_
 (refine Zo ?_;repeat' ((with_reducible first|refine Zk ?_|(first|apply Za|apply Zb|apply Zc|apply Zd)<;>intro h)<;>try simp -implicitDefEqProofs (maxSteps:=9^7) (disch:=first|omega|(simp only [lens];omega)) only [go_sem]))
 refine Qcz (fun n ts H => ∃ (i : Nat) (ws : List Int), (i ≤ hi) ∧ (ws.length = xs.length) ∧ (H = H0.set r (some ⟨3, 1, ints ws⟩)) ∧ (n = hi - i) ∧ ts.length = 76 ∧ nth ts 0 = .ref r 0 xs.length ∧ nth ts 2 = .int .i64 (hi : Nat) ∧ nth ts 3 = .int .i64 (first : Nat) ∧ nth ts 8 = .int .i64 (i : Nat)) ?_ (n := (hi - lo : Nat)) ?_
 ·skip
  rintro n ts H ⟨i, ws, hi1, hl, hH, hn2, hL, hs0, hs2, hs3, hs8⟩
  refine Qqz [(0, .ref r 0 xs.length), (2, .int .i64 (hi : Nat)), (3, .int .i64 (first : Nat)), (8, .int .i64 (i : Nat))] hL (by simp only [zFm, hs0, hs2, hs3, hs8, true_and]; exact zNm) ?_
  clear hL hs0 hs2 hs3 hs8 ts
  refine Qsz Qfz ?_
  subst hH
  by_cases hc : 2 * i + 1 < hi
  ·skip
   (refine Zo ?_;repeat' ((with_reducible first|refine Zk ?_|(first|apply Za|apply Zb|apply Zc|apply Zd)<;>intro h)<;>try simp -implicitDefEqProofs (maxSteps:=9^7) (disch:=first|omega|(simp only [lens];omega)) only [go_sem, hset]))
   ·refine Pc.pure (QEz _ _) rfl (fun g => rfl) ?_
    (refine Zo ?_;repeat' ((with_reducible first|refine Zk ?_|(first|apply Za|apply Zb|apply Zc|apply Zd)<;>intro h)<;>try simp -implicitDefEqProofs (maxSteps:=9^7) (disch:=first|omega|(simp only [lens];omega)) only [go_sem, hset]))
    ·refine Pc.pure (QEz _ _) rfl (fun g => rfl) ?_
     (refine Zo ?_;repeat' ((with_reducible first|refine Zk ?_|(first|apply Za|apply Zb|apply Zc|apply Zd)<;>intro h)<;>try simp -implicitDefEqProofs (maxSteps:=9^7) (disch:=first|omega|(simp only [lens];omega)) only [go_sem, hset, QBz]))
     ·exact ⟨hi - (2 * i + 2), by omega, 2 * i + 2, _, by omega, by simp [hl], rfl, rfl, by congr 1⟩
     ·exact ⟨_, hl, rfl⟩
    ·refine Pc.pure (QEz _ _) rfl (fun g => rfl) ?_
     (refine Zo ?_;repeat' ((with_reducible first|refine Zk ?_|(first|apply Za|apply Zb|apply Zc|apply Zd)<;>intro h)<;>try simp -implicitDefEqProofs (maxSteps:=9^7) (disch:=first|omega|(simp only [lens];omega)) only [go_sem, hset, QBz]))
     ·exact ⟨hi - (2 * i + 1), by omega, 2 * i + 1, _, by omega, by simp [hl], rfl, rfl, by congr 1⟩
     ·exact ⟨_, hl, rfl⟩
   ·refine Pc.pure (QEz _ _) rfl (fun g => rfl) ?_
    (refine Zo ?_;repeat' ((with_reducible first|refine Zk ?_|(first|apply Za|apply Zb|apply Zc|apply Zd)<;>intro h)<;>try simp -implicitDefEqProofs (maxSteps:=9^7) (disch:=first|omega|(simp only [lens];omega)) only [go_sem, hset, QBz]))
    ·exact ⟨hi - (2 * i + 1), by omega, 2 * i + 1, _, by omega, by simp [hl], rfl, rfl, by congr 1⟩
    ·exact ⟨_, hl, rfl⟩
  ·skip
   (refine Zo ?_;repeat' ((with_reducible first|refine Zk ?_|(first|apply Za|apply Zb|apply Zc|apply Zd)<;>intro h)<;>try simp -implicitDefEqProofs (maxSteps:=9^7) (disch:=first|omega|(simp only [lens];omega)) only [go_sem]))
   exact ⟨ws, hl, rfl⟩
 ·exact ⟨lo, xs, by omega, rfl, hsame.symm, by omega, rfl, rfl, rfl, rfl, rfl⟩
end Go.Proofs.YtjdbdmhjakfldaaGreat
end
section
namespace Go.Proofs.YtjdbdmhjakfldaaGreat
open Go.Bv
theorem Qhmz (r : Nat) (a b : Nat) (H0 : Heap) (xs : List Int) (hr : Qbz H0 r = some ⟨3, 1, ints xs⟩) (hab : a + 1 ≤ b) (hb : b ≤ xs.length) (hn : xs.length ≤ 1048576) :
  Fc C 145 [.ref r 0 xs.length, .int .i64 (a : Nat), .int .i64 (b : Nat)] H0 (fun v H' => ∃ ys : List Int, v = .tup [] ∧ ys.length = xs.length ∧ H' = H0.set r (some ⟨3, 1, ints ys⟩)) := by
 have hset : ∀ row, Qbz (H0.set r (some row)) r = some row := fun row => Qez hr
 have hsame := XXz hr
 obtain ⟨m, rfl⟩ : ∃ m : Nat, b = a + m := ⟨b - a, by omega⟩
 refine Fc.bodyT Qfz Tryz.func145 w145 rfl Tryz.ntmps145 Tryz.results145 (zLe rfl) ?_
 have hm : (((a + m : Nat) : Int) - (a : Int)) = (m : Nat) := by omega
 (refine Zo ?_;repeat' ((with_reducible first|refine Zk ?_|(first|apply Za|apply Zb|apply Zc|apply Zd)<;>intro h)<;>try simp -implicitDefEqProofs (maxSteps:=9^7) (disch:=first|omega|(simp only [lens];omega)) only [go_sem, hm]))
 refine Qcz (fun n ts H => ∃ (i : Int) (ws : List Int), (-1 ≤ i) ∧ (i < m) ∧ (ws.length = xs.length) ∧ (H = H0.set r (some ⟨3, 1, ints ws⟩)) ∧ (n = (i + 1).toNat) ∧ ts.length = 56 ∧ nth ts 0 = .ref r 0 xs.length ∧ nth ts 6 = .int .i64 (a : Nat) ∧ nth ts 7 = .int .i64 0 ∧ nth ts 8 = .int .i64 (m : Nat) ∧ nth ts 9 = .int .i64 i) ?_ (n := (((m : Int) - 1) / 2 + 1).toNat) ?_
 ·skip
  rintro n ts H ⟨i, ws, hi, hi2, hl, hH, hn2, hL, hs0, hs6, hs7, hs8, hs9⟩
  refine Qqz [(0, .ref r 0 xs.length), (6, .int .i64 (a : Nat)), (7, .int .i64 0), (8, .int .i64 (m : Nat)), (9, .int .i64 i)] hL (by simp only [zFm, hs0, hs6, hs7, hs8, hs9, true_and]; exact zNm) ?_
  clear hL hs0 hs6 hs7 hs8 hs9 ts
  refine Qsz Qfz ?_
  subst hH
  by_cases hi0 : 0 ≤ i
  ·obtain ⟨k, rfl⟩ : ∃ k : Nat, i = k := ⟨i.toNat, by omega⟩
   (refine Zo ?_;repeat' ((with_reducible first|refine Zk ?_|(first|apply Za|apply Zb|apply Zc|apply Zd)<;>intro h)<;>try simp -implicitDefEqProofs (maxSteps:=9^7) (disch:=first|omega|(simp only [lens];omega)) only [go_sem]))
   have hs := Z1z r k m a (H0.set r (some ⟨3, 1, ints ws⟩)) ws (hset _) (by omega) (by omega) (by omega)
   rw [hl] at hs
   refine Fc.mono hs ?_
   rintro v H' ⟨ys, rfl, hy, rfl⟩
   rw [List.set_set]
   (refine Zo ?_;repeat' ((with_reducible first|refine Zk ?_|(first|apply Za|apply Zb|apply Zc|apply Zd)<;>intro h)<;>try simp -implicitDefEqProofs (maxSteps:=9^7) (disch:=first|omega|(simp only [lens];omega)) only [go_sem]))
   exact ⟨((k : Int) - 1 + 1).toNat, by omega, (k : Int) - 1, ys, by omega, by omega, by omega, rfl, rfl, rfl⟩
  ·obtain rfl : i = -1 := by omega
   subst hn2
   (refine Zo ?_;repeat' ((with_reducible first|refine Zk ?_|(first|apply Za|apply Zb|apply Zc|apply Zd)<;>intro h)<;>try simp -implicitDefEqProofs (maxSteps:=9^7) (disch:=first|omega|(simp only [lens];omega)) only [go_sem]))
   refine Qcz (fun n ts H => ∃ (i : Int) (ws : List Int), (-1 ≤ i) ∧ (i < m) ∧ (ws.length = xs.length) ∧ (H = H0.set r (some ⟨3, 1, ints ws⟩)) ∧ (n = (i + 1).toNat) ∧ ts.length = 56 ∧ nth ts 0 = .ref r 0 xs.length ∧ nth ts 6 = .int .i64 (a : Nat) ∧ nth ts 7 = .int .i64 0 ∧ nth ts 10 = .int .i64 i) ?_ (n := m) ?_
   ·skip
    rintro n ts H ⟨i, ws, hi, hi2, hl, hH, hn2, hL, hs0, hs6, hs7, hs10⟩
    refine Qqz [(0, .ref r 0 xs.length), (6, .int .i64 (a : Nat)), (7, .int .i64 0), (10, .int .i64 i)] hL (by simp only [zFm, hs0, hs6, hs7, hs10, true_and]; exact zNm) ?_
    clear hL hs0 hs6 hs7 hs10 ts
    refine Qsz Qfz ?_
    subst hH
    by_cases hi0 : 0 ≤ i
    ·obtain ⟨k, rfl⟩ : ∃ k : Nat, i = k := ⟨i.toNat, by omega⟩
     (refine Zo ?_;repeat' ((with_reducible first|refine Zk ?_|(first|apply Za|apply Zb|apply Zc|apply Zd)<;>intro h)<;>try simp -implicitDefEqProofs (maxSteps:=9^7) (disch:=first|omega|(simp only [lens];omega)) only [go_sem, hset, QBz]))
     obtain ⟨zs, hz⟩ : ∃ zs, zs = (ws.set a (ws.getD (a + k) 0)).set (a + k) (ws.getD a 0) := ⟨_, rfl⟩
     have hzl : zs.length = xs.length := by rw [hz]; simp [hl]
     rw [← hz]
     have hs := Z1z r 0 k a (H0.set r (some ⟨3, 1, ints zs⟩)) zs (hset _) (by omega) (by omega) (by omega)
     rw [hzl] at hs
     refine Fc.mono hs ?_
     rintro v H' ⟨ys, rfl, hy, rfl⟩
     rw [List.set_set]
     (refine Zo ?_;repeat' ((with_reducible first|refine Zk ?_|(first|apply Za|apply Zb|apply Zc|apply Zd)<;>intro h)<;>try simp -implicitDefEqProofs (maxSteps:=9^7) (disch:=first|omega|(simp only [lens];omega)) only [go_sem]))
     exact ⟨((k : Int) - 1 + 1).toNat, by omega, (k : Int) - 1, ys, by omega, by omega, by omega, rfl, rfl, rfl⟩
    ·skip
     (refine Zo ?_;repeat' ((with_reducible first|refine Zk ?_|(first|apply Za|apply Zb|apply Zc|apply Zd)<;>intro h)<;>try simp -implicitDefEqProofs (maxSteps:=9^7) (disch:=first|omega|(simp only [lens];omega)) only [go_sem]))
     exact ⟨ws, hl, rfl⟩
   ·exact ⟨(m : Int) - 1, ws, by omega, by omega, hl, rfl, by omega, rfl, rfl, rfl, rfl, rfl⟩
 ·exact ⟨((m : Int) - 1) / 2, xs, by omega, by omega, rfl, hsame.symm, by omega, rfl, rfl, rfl, rfl, rfl, rfl⟩
end Go.Proofs.YtjdbdmhjakfldaaGreat
end
section
namespace Go.Proofs.YtjdbdmhjakfldaaGreat
open Go.Bv
theorem Qfgz (r : Nat) (a b p : Nat) (H0 : Heap) (xs : List Int) (hr : Qbz H0 r = some ⟨3, 1, ints xs⟩) (hab : a + 1 ≤ b) (hb : b ≤ xs.length) (hp : p < xs.length) (hn : xs.length ≤ 1048576) :
  Fc C 152 [.ref r 0 xs.length, .int .i64 (a : Nat), .int .i64 (b : Nat), .int .i64 (p : Nat)] H0 (fun v H' => ∃ (ys : List Int) (m : Nat) (w : Bool), v = .tup [.int .i64 (m : Nat), .bool w] ∧ a ≤ m ∧ m < b ∧ ys.length = xs.length ∧ H' = H0.set r (some ⟨3, 1, ints ys⟩)) := by
 have hset : ∀ row, Qbz (H0.set r (some row)) r = some row := fun row => Qez hr
 refine Fc.bodyT Qfz Tryz.func152 w152 rfl Tryz.ntmps152 Tryz.results152 (zLe rfl) ?_
 have hb1 : ((b : Int) - 1) = ((b - 1 : Nat) : Int) := by omega
 (refine Zo ?_;repeat' ((with_reducible first|refine Zk ?_|(first|apply Za|apply Zb|apply Zc|apply Zd)<;>intro h)<;>try simp -implicitDefEqProofs (maxSteps:=9^7) (disch:=first|omega|(simp only [lens];omega)) only [go_sem, hr, hset, QBz, hb1]))
 obtain ⟨zs, hz⟩ : ∃ zs, zs = (xs.set a (xs.getD p 0)).set p (xs.getD a 0) := ⟨_, rfl⟩
 have hzl : zs.length = xs.length := by rw [hz]; simp
 rw [← hz]
 clear hz
 refine Qcz (fun n ts H => ∃ (i j : Nat), (a + 1 ≤ i) ∧ (i ≤ b) ∧ (a ≤ j) ∧ (j < b) ∧ (H = H0.set r (some ⟨3, 1, ints zs⟩)) ∧ (n = j + 1 - i) ∧ ts.length = 168 ∧ nth ts 0 = .ref r 0 xs.length ∧ nth ts 1 = .int .i64 (a : Nat) ∧ nth ts 10 = .int .i64 (i : Nat) ∧ nth ts 11 = .int .i64 (j : Nat)) ?_ (n := (b - a - 1 : Nat)) ?_
 ·skip
  rintro n ts H ⟨i, j, hi, hi2, hj, hj2, hH, hn2, hL, hs0, hs1, hs10, hs11⟩
  refine Qqz [(0, .ref r 0 xs.length), (1, .int .i64 (a : Nat)), (10, .int .i64 (i : Nat)), (11, .int .i64 (j : Nat))] hL (by simp only [zFm, hs0, hs1, hs10, hs11, true_and]; exact zNm) ?_
  clear hL hs0 hs1 hs10 hs11 ts
  refine Qsz Qfz ?_
  subst hH
  (refine Zo ?_;repeat' ((with_reducible first|refine Zk ?_|(first|apply Za|apply Zb|apply Zc|apply Zd)<;>intro h)<;>try simp -implicitDefEqProofs (maxSteps:=9^7) (disch:=first|omega|(simp only [lens];omega)) only [go_sem, hset]))
  refine Pc.pure (QEz _ _) rfl (fun g => rfl) ?_
  focus
   (refine Zo ?_;repeat' ((with_reducible first|refine Zk ?_|(first|apply Za|apply Zb|apply Zc|apply Zd)<;>intro h)<;>try simp -implicitDefEqProofs (maxSteps:=9^7) (disch:=first|omega|(simp only [lens];omega)) only [go_sem, hset]))
  exact ⟨j + 1 - (i + 1), by omega, i + 1, j, by omega, by omega, by omega, by omega, rfl, rfl, rfl⟩
  all_goals
   refine Qcz (fun n ts H => ∃ (i j : Nat), (a + 1 ≤ i) ∧ (i ≤ b) ∧ (a ≤ j) ∧ (j < b) ∧ (H = H0.set r (some ⟨3, 1, ints zs⟩)) ∧ (n = j + 1 - i) ∧ ts.length = 168 ∧ nth ts 0 = .ref r 0 xs.length ∧ nth ts 1 = .int .i64 (a : Nat) ∧ nth ts 10 = .int .i64 (i : Nat) ∧ nth ts 11 = .int .i64 (j : Nat)) ?_ (n := (j + 1 - i : Nat)) ?_
   ·skip
    rintro n ts H ⟨i, j, hi, hi2, hj, hj2, hH, hn2, hL, hs0, hs1, hs10, hs11⟩
    refine Qqz [(0, .ref r 0 xs.length), (1, .int .i64 (a : Nat)), (10, .int .i64 (i : Nat)), (11, .int .i64 (j : Nat))] hL (by simp only [zFm, hs0, hs1, hs10, hs11, true_and]; exact zNm) ?_
    clear hL hs0 hs1 hs10 hs11 ts
    refine Qsz Qfz ?_
    subst hH
    (refine Zo ?_;repeat' ((with_reducible first|refine Zk ?_|(first|apply Za|apply Zb|apply Zc|apply Zd)<;>intro h)<;>try simp -implicitDefEqProofs (maxSteps:=9^7) (disch:=first|omega|(simp only [lens];omega)) only [go_sem, hset]))
    refine Pc.pure (QEz _ _) rfl (fun g => rfl) ?_
    focus
     (refine Zo ?_;repeat' ((with_reducible first|refine Zk ?_|(first|apply Za|apply Zb|apply Zc|apply Zd)<;>intro h)<;>try simp -implicitDefEqProofs (maxSteps:=9^7) (disch:=first|omega|(simp only [lens];omega)) only [go_sem, hset, QBz]))
    ·skip
     refine Qcz (fun n ts H => ∃ (i0 j0 : Nat) (ws : List Int), (a + 1 ≤ i0) ∧ (i0 ≤ b) ∧ (a ≤ j0) ∧ (j0 < b) ∧ (ws.length = xs.length) ∧ (H = H0.set r (some ⟨3, 1, ints ws⟩)) ∧ (n = j0 + 1 - i0) ∧ ts.length = 168 ∧ nth ts 0 = .ref r 0 xs.length ∧ nth ts 1 = .int .i64 (a : Nat) ∧ nth ts 10 = .int .i64 (i0 : Nat) ∧ nth ts 11 = .int .i64 (j0 : Nat)) ?_ (n := (j - 1 + 1 - (i + 1) : Nat)) ?_
     ·skip
      rintro n ts H ⟨i0, j0, ws, hi, hi2, hj, hj2, hl, hH, hn2, hL, hs0, hs1, hs10, hs11⟩
      refine Qqz [(0, .ref r 0 xs.length), (1, .int .i64 (a : Nat)), (10, .int .i64 (i0 : Nat)), (11, .int .i64 (j0 : Nat))] hL (by simp only [zFm, hs0, hs1, hs10, hs11, true_and]; exact zNm) ?_
      clear hL hs0 hs1 hs10 hs11 ts
      refine Qsz Qfz ?_
      subst hH hn2
      (refine Zo ?_;repeat' ((with_reducible first|refine Zk ?_|(first|apply Za|apply Zb|apply Zc|apply Zd)<;>intro h)<;>try simp -implicitDefEqProofs (maxSteps:=9^7) (disch:=first|omega|(simp only [lens];omega)) only [go_sem, hset]))
      refine Qcz (fun n ts H => ∃ (i j : Nat), (a + 1 ≤ i) ∧ (i ≤ b) ∧ (a ≤ j) ∧ (j < b) ∧ (j + 1 - i ≤ j0 + 1 - i0) ∧ (H = H0.set r (some ⟨3, 1, ints ws⟩)) ∧ (n = j + 1 - i) ∧ ts.length = 168 ∧ nth ts 0 = .ref r 0 xs.length ∧ nth ts 1 = .int .i64 (a : Nat) ∧ nth ts 10 = .int .i64 (i : Nat) ∧ nth ts 11 = .int .i64 (j : Nat)) ?_ (n := (j0 + 1 - i0 : Nat)) ?_
      ·skip
       rintro n ts H ⟨i, j, hi, hi2, hj, hj2, hm, hH, hn2, hL, hs0, hs1, hs10, hs11⟩
       refine Qqz [(0, .ref r 0 xs.length), (1, .int .i64 (a : Nat)), (10, .int .i64 (i : Nat)), (11, .int .i64 (j : Nat))] hL (by simp only [zFm, hs0, hs1, hs10, hs11, true_and]; exact zNm) ?_
       clear hL hs0 hs1 hs10 hs11 ts
       refine Qsz Qfz ?_
       subst hH
       (refine Zo ?_;repeat' ((with_reducible first|refine Zk ?_|(first|apply Za|apply Zb|apply Zc|apply Zd)<;>intro h)<;>try simp -implicitDefEqProofs (maxSteps:=9^7) (disch:=first|omega|(simp only [lens];omega)) only [go_sem, hset]))
       refine Pc.pure (QEz _ _) rfl (fun g => rfl) ?_
       focus
        (refine Zo ?_;repeat' ((with_reducible first|refine Zk ?_|(first|apply Za|apply Zb|apply Zc|apply Zd)<;>intro h)<;>try simp -implicitDefEqProofs (maxSteps:=9^7) (disch:=first|omega|(simp only [lens];omega)) only [go_sem, hset]))
       exact ⟨j + 1 - (i + 1), by omega, i + 1, j, by omega, by omega, by omega, by omega, by omega, rfl, rfl, rfl⟩
       all_goals
        refine Qcz (fun n ts H => ∃ (i j : Nat), (a + 1 ≤ i) ∧ (i ≤ b) ∧ (a ≤ j) ∧ (j < b) ∧ (j + 1 - i ≤ j0 + 1 - i0) ∧ (H = H0.set r (some ⟨3, 1, ints ws⟩)) ∧ (n = j + 1 - i) ∧ ts.length = 168 ∧ nth ts 0 = .ref r 0 xs.length ∧ nth ts 1 = .int .i64 (a : Nat) ∧ nth ts 10 = .int .i64 (i : Nat) ∧ nth ts 11 = .int .i64 (j : Nat)) ?_ (n := (j + 1 - i : Nat)) ?_
        ·skip
         rintro n ts H ⟨i, j, hi, hi2, hj, hj2, hm, hH, hn2, hL, hs0, hs1, hs10, hs11⟩
         refine Qqz [(0, .ref r 0 xs.length), (1, .int .i64 (a : Nat)), (10, .int .i64 (i : Nat)), (11, .int .i64 (j : Nat))] hL (by simp only [zFm, hs0, hs1, hs10, hs11, true_and]; exact zNm) ?_
         clear hL hs0 hs1 hs10 hs11 ts
         refine Qsz Qfz ?_
         subst hH
         (refine Zo ?_;repeat' ((with_reducible first|refine Zk ?_|(first|apply Za|apply Zb|apply Zc|apply Zd)<;>intro h)<;>try simp -implicitDefEqProofs (maxSteps:=9^7) (disch:=first|omega|(simp only [lens];omega)) only [go_sem, hset]))
         refine Pc.pure (QEz _ _) rfl (fun g => rfl) ?_
         focus
          (refine Zo ?_;repeat' ((with_reducible first|refine Zk ?_|(first|apply Za|apply Zb|apply Zc|apply Zd)<;>intro h)<;>try simp -implicitDefEqProofs (maxSteps:=9^7) (disch:=first|omega|(simp only [lens];omega)) only [go_sem, hset, QBz]))
         ·skip
          exact ⟨j - 1 + 1 - (i + 1), by omega, i + 1, j - 1, (ws.set i (ws.getD j 0)).set j (ws.getD i 0), by omega, by omega, by omega, by omega, by simp [hl], rfl, rfl, by congr 1, by congr 1; omega⟩
         ·exact ⟨j - 1 + 1 - i, by omega, i, j - 1, by omega, by omega, by omega, by omega, by omega, rfl, rfl, by congr 1; omega⟩
         ·skip
          exact ⟨(ws.set j (ws.getD a 0)).set a (ws.getD j 0), j, false, rfl, by omega, by omega, by simp [hl], rfl⟩
        ·exact ⟨i, j, by omega, by omega, by omega, by omega, by omega, rfl, by omega, rfl, rfl, rfl, rfl, rfl⟩
      ·exact ⟨i0, j0, by omega, by omega, by omega, by omega, by omega, rfl, by omega, rfl, rfl, rfl, rfl, rfl⟩
     ·exact ⟨i + 1, j - 1, (zs.set i (zs.getD j 0)).set j (zs.getD i 0), by omega, by omega, by omega, by omega, by simp [hzl], rfl, rfl, rfl, rfl, rfl, rfl, by show V.int .i64 ((j : Int) - 1) = _; congr 1; omega⟩
    ·exact ⟨j - 1 + 1 - i, by omega, i, j - 1, by omega, by omega, by omega, by omega, rfl, rfl, by congr 1; omega⟩
    ·skip
     exact ⟨(zs.set j (zs.getD a 0)).set a (zs.getD j 0), j, true, rfl, by omega, by omega, by simp [hzl], rfl⟩
   ·exact ⟨i, j, by omega, by omega, by omega, by omega, rfl, by omega, rfl, rfl, rfl, rfl, rfl⟩
 ·exact ⟨a + 1, b - 1, by omega, by omega, by omega, by omega, rfl, by omega, rfl, rfl, rfl, rfl, rfl⟩
end Go.Proofs.YtjdbdmhjakfldaaGreat
end
section
namespace Go.Proofs.YtjdbdmhjakfldaaGreat
open Go.Bv
theorem Qfhz (r : Nat) (a b p : Nat) (H0 : Heap) (xs : List Int) (hr : Qbz H0 r = some ⟨3, 1, ints xs⟩) (hab : a + 1 ≤ b) (hb : b ≤ xs.length) (hp : p < xs.length) (hn : xs.length ≤ 1048576) :
  Fc C 151 [.ref r 0 xs.length, .int .i64 (a : Nat), .int .i64 (b : Nat), .int .i64 (p : Nat)] H0 (fun v H' => ∃ (ys : List Int) (m : Nat), v = .int .i64 (m : Nat) ∧ a + 1 ≤ m ∧ m ≤ b ∧ ys.length = xs.length ∧ H' = H0.set r (some ⟨3, 1, ints ys⟩)) := by
 have hset : ∀ row, Qbz (H0.set r (some row)) r = some row := fun row => Qez hr
 refine Fc.bodyT Qfz Tryz.func151 w151 rfl Tryz.ntmps151 Tryz.results151 (zLe rfl) ?_
 have hb1 : ((b : Int) - 1) = ((b - 1 : Nat) : Int) := by omega
 (refine Zo ?_;repeat' ((with_reducible first|refine Zk ?_|(first|apply Za|apply Zb|apply Zc|apply Zd)<;>intro h)<;>try simp -implicitDefEqProofs (maxSteps:=9^7) (disch:=first|omega|(simp only [lens];omega)) only [go_sem, hr, hset, QBz, hb1]))
 obtain ⟨zs, hz⟩ : ∃ zs, zs = (xs.set a (xs.getD p 0)).set p (xs.getD a 0) := ⟨_, rfl⟩
 have hzl : zs.length = xs.length := by rw [hz]; simp
 rw [← hz]
 clear hz
 refine Qcz (fun n ts H => ∃ (i0 j0 : Nat) (ws : List Int), (a + 1 ≤ i0) ∧ (i0 ≤ b) ∧ (a ≤ j0) ∧ (j0 < b) ∧ (ws.length = xs.length) ∧ (H = H0.set r (some ⟨3, 1, ints ws⟩)) ∧ (n = j0 + 1 - i0) ∧ ts.length = 84 ∧ nth ts 0 = .ref r 0 xs.length ∧ nth ts 1 = .int .i64 (a : Nat) ∧ nth ts 9 = .int .i64 (i0 : Nat) ∧ nth ts 10 = .int .i64 (j0 : Nat)) ?_ (n := (b - a - 1 : Nat)) ?_
 ·skip
  rintro n ts H ⟨i0, j0, ws, hi, hi2, hj, hj2, hl, hH, hn2, hL, hs0, hs1, hs9, hs10⟩
  refine Qqz [(0, .ref r 0 xs.length), (1, .int .i64 (a : Nat)), (9, .int .i64 (i0 : Nat)), (10, .int .i64 (j0 : Nat))] hL (by simp only [zFm, hs0, hs1, hs9, hs10, true_and]; exact zNm) ?_
  clear hL hs0 hs1 hs9 hs10 ts
  refine Qsz Qfz ?_
  subst hH hn2
  (refine Zo ?_;repeat' ((with_reducible first|refine Zk ?_|(first|apply Za|apply Zb|apply Zc|apply Zd)<;>intro h)<;>try simp -implicitDefEqProofs (maxSteps:=9^7) (disch:=first|omega|(simp only [lens];omega)) only [go_sem, hset]))
  refine Qcz (fun n ts H => ∃ (i j : Nat), (a + 1 ≤ i) ∧ (i ≤ b) ∧ (a ≤ j) ∧ (j < b) ∧ (j + 1 - i ≤ j0 + 1 - i0) ∧ (H = H0.set r (some ⟨3, 1, ints ws⟩)) ∧ (n = j + 1 - i) ∧ ts.length = 84 ∧ nth ts 0 = .ref r 0 xs.length ∧ nth ts 1 = .int .i64 (a : Nat) ∧ nth ts 9 = .int .i64 (i : Nat) ∧ nth ts 10 = .int .i64 (j : Nat)) ?_ (n := (j0 + 1 - i0 : Nat)) ?_
  ·skip
   rintro n ts H ⟨i, j, hi, hi2, hj, hj2, hm, hH, hn2, hL, hs0, hs1, hs9, hs10⟩
   refine Qqz [(0, .ref r 0 xs.length), (1, .int .i64 (a : Nat)), (9, .int .i64 (i : Nat)), (10, .int .i64 (j : Nat))] hL (by simp only [zFm, hs0, hs1, hs9, hs10, true_and]; exact zNm) ?_
   clear hL hs0 hs1 hs9 hs10 ts
   refine Qsz Qfz ?_
   subst hH
   (refine Zo ?_;repeat' ((with_reducible first|refine Zk ?_|(first|apply Za|apply Zb|apply Zc|apply Zd)<;>intro h)<;>try simp -implicitDefEqProofs (maxSteps:=9^7) (disch:=first|omega|(simp only [lens];omega)) only [go_sem, hset]))
   refine Pc.pure (QEz _ _) rfl (fun g => rfl) ?_
   focus
    (refine Zo ?_;repeat' ((with_reducible first|refine Zk ?_|(first|apply Za|apply Zb|apply Zc|apply Zd)<;>intro h)<;>try simp -implicitDefEqProofs (maxSteps:=9^7) (disch:=first|omega|(simp only [lens];omega)) only [go_sem, hset]))
   rotate_left
   focus
    exact ⟨j + 1 - (i + 1), by omega, i + 1, j, by omega, by omega, by omega, by omega, by omega, rfl, rfl, rfl⟩
   all_goals
    refine Qcz (fun n ts H => ∃ (i j : Nat), (a + 1 ≤ i) ∧ (i ≤ b) ∧ (a ≤ j) ∧ (j < b) ∧ (j + 1 - i ≤ j0 + 1 - i0) ∧ (H = H0.set r (some ⟨3, 1, ints ws⟩)) ∧ (n = j + 1 - i) ∧ ts.length = 84 ∧ nth ts 0 = .ref r 0 xs.length ∧ nth ts 1 = .int .i64 (a : Nat) ∧ nth ts 9 = .int .i64 (i : Nat) ∧ nth ts 10 = .int .i64 (j : Nat)) ?_ (n := (j + 1 - i : Nat)) ?_
    ·skip
     rintro n ts H ⟨i, j, hi, hi2, hj, hj2, hm, hH, hn2, hL, hs0, hs1, hs9, hs10⟩
     refine Qqz [(0, .ref r 0 xs.length), (1, .int .i64 (a : Nat)), (9, .int .i64 (i : Nat)), (10, .int .i64 (j : Nat))] hL (by simp only [zFm, hs0, hs1, hs9, hs10, true_and]; exact zNm) ?_
     clear hL hs0 hs1 hs9 hs10 ts
     refine Qsz Qfz ?_
     subst hH
     (refine Zo ?_;repeat' ((with_reducible first|refine Zk ?_|(first|apply Za|apply Zb|apply Zc|apply Zd)<;>intro h)<;>try simp -implicitDefEqProofs (maxSteps:=9^7) (disch:=first|omega|(simp only [lens];omega)) only [go_sem, hset]))
     refine Pc.pure (QEz _ _) rfl (fun g => rfl) ?_
     focus
      (refine Zo ?_;repeat' ((with_reducible first|refine Zk ?_|(first|apply Za|apply Zb|apply Zc|apply Zd)<;>intro h)<;>try simp -implicitDefEqProofs (maxSteps:=9^7) (disch:=first|omega|(simp only [lens];omega)) only [go_sem, hset, QBz]))
     ·exact ⟨j - 1 + 1 - i, by omega, i, j - 1, by omega, by omega, by omega, by omega, by omega, rfl, rfl, by congr 1; omega⟩
     ·skip
      exact ⟨j - 1 + 1 - (i + 1), by omega, i + 1, j - 1, (ws.set i (ws.getD j 0)).set j (ws.getD i 0), by omega, by omega, by omega, by omega, by simp [hl], rfl, rfl, by congr 1, by congr 1; omega⟩
     ·skip
      exact ⟨ws, i, rfl, by omega, by omega, hl, rfl⟩
    ·exact ⟨i, j, by omega, by omega, by omega, by omega, by omega, rfl, by omega, rfl, rfl, rfl, rfl, rfl⟩
  ·exact ⟨i0, j0, by omega, by omega, by omega, by omega, by omega, rfl, by omega, rfl, rfl, rfl, rfl, rfl⟩
 ·exact ⟨a + 1, b - 1, zs, by omega, by omega, by omega, by omega, hzl, rfl, by omega, rfl, rfl, rfl, rfl, rfl⟩
end Go.Proofs.YtjdbdmhjakfldaaGreat
end
section
namespace Go.Proofs.YtjdbdmhjakfldaaGreat
open Go.Bv
theorem Qfnz (r : Nat) (a b : Nat) (H0 : Heap) (xs : List Int) (hr : Qbz H0 r = some ⟨3, 1, ints xs⟩) (hab : a ≤ b) (hb : b ≤ xs.length) (hn : xs.length ≤ 1048576) :
  Fc C 144 [.ref r 0 xs.length, .int .i64 (a : Nat), .int .i64 (b : Nat)] H0 (fun v H' => ∃ ys : List Int, v = .tup [] ∧ ys.length = xs.length ∧ H' = H0.set r (some ⟨3, 1, ints ys⟩)) := by
 have hset : ∀ row, Qbz (H0.set r (some row)) r = some row := fun row => Qez hr
 have hsame := XXz hr
 refine Fc.bodyT Qfz Tryz.func144 w144 rfl Tryz.ntmps144 Tryz.results144 (zLe rfl) ?_
 (refine Zo ?_;repeat' ((with_reducible first|refine Zk ?_|(first|apply Za|apply Zb|apply Zc|apply Zd)<;>intro h)<;>try simp -implicitDefEqProofs (maxSteps:=9^7) (disch:=first|omega|(simp only [lens];omega)) only [go_sem]))
 refine Qcz (fun n ts H => ∃ (i : Nat) (zs : List Int), (a + 1 ≤ i) ∧ (i ≤ b + 1) ∧ (zs.length = xs.length) ∧ (n = b + 1 - i) ∧ (H = H0.set r (some ⟨3, 1, ints zs⟩)) ∧ ts.length = 49 ∧ nth ts 0 = .ref r 0 xs.length ∧ nth ts 1 = .int .i64 (a : Nat) ∧ nth ts 2 = .int .i64 (b : Nat) ∧ nth ts 6 = .int .i64 (i : Nat)) ?_ (n := b - a) ?_
 ·skip
  rintro n ts H ⟨i, zs, hi1, hi, hl, hn2, hH, hL, hs0, hs1, hs2, hs6⟩
  refine Qqz [(0, .ref r 0 xs.length), (1, .int .i64 (a : Nat)), (2, .int .i64 (b : Nat)), (6, .int .i64 (i : Nat))] hL (by simp only [zFm, hs0, hs1, hs2, hs6, true_and]; exact zNm) ?_
  clear hL hs0 hs1 hs2 hs6 ts
  refine Qsz Qfz ?_
  subst hH hn2
  (refine Zo ?_;repeat' ((with_reducible first|refine Zk ?_|(first|apply Za|apply Zb|apply Zc|apply Zd)<;>intro h)<;>try simp -implicitDefEqProofs (maxSteps:=9^7) (disch:=first|omega|(simp only [lens];omega)) only [go_sem]))
  ·skip
   refine Qcz (fun n ts H => ∃ (j : Nat) (ws : List Int), (j ≤ i) ∧ (a ≤ j) ∧ (ws.length = xs.length) ∧ (n = j) ∧ (H = H0.set r (some ⟨3, 1, ints ws⟩)) ∧ ts.length = 49 ∧ nth ts 0 = .ref r 0 xs.length ∧ nth ts 1 = .int .i64 (a : Nat) ∧ nth ts 2 = .int .i64 (b : Nat) ∧ nth ts 6 = .int .i64 (i : Nat) ∧ nth ts 7 = .int .i64 (j : Nat)) ?_ (n := i) ?_
   ·skip
    rintro n ts H ⟨j, ws, hj, hj2, hlw, hn2, hH, hL, hs0, hs1, hs2, hs6, hs7⟩
    refine Qqz [(0, .ref r 0 xs.length), (1, .int .i64 (a : Nat)), (2, .int .i64 (b : Nat)), (6, .int .i64 (i : Nat)), (7, .int .i64 (j : Nat))] hL (by simp only [zFm, hs0, hs1, hs2, hs6, hs7, true_and]; exact zNm) ?_
    clear hL hs0 hs1 hs2 hs6 hs7 ts
    refine Qsz Qfz ?_
    subst hH
    by_cases hja : j > a
    ·have e1 : ((j : Int) - 1) = ((j - 1 : Nat) : Int) := by omega
     (refine Zo ?_;repeat' ((with_reducible first|refine Zk ?_|(first|apply Za|apply Zb|apply Zc|apply Zd)<;>intro h)<;>try simp -implicitDefEqProofs (maxSteps:=9^7) (disch:=first|omega|(simp only [lens];omega)) only [go_sem, hset, e1]))
     refine Pc.pure (QEz _ _) rfl (fun g => rfl) ?_
     (refine Zo ?_;repeat' ((with_reducible first|refine Zk ?_|(first|apply Za|apply Zb|apply Zc|apply Zd)<;>intro h)<;>try simp -implicitDefEqProofs (maxSteps:=9^7) (disch:=first|omega|(simp only [lens];omega)) only [go_sem, hset, QBz, e1]))
     ·exact ⟨j - 1, by omega, j - 1, _, by omega, by omega, by simp [hlw], rfl, rfl, rfl⟩
     ·exact ⟨b + 1 - (i + 1), by omega, i + 1, ws, by omega, by omega, hlw, rfl, rfl, rfl⟩
    ·skip
     (refine Zo ?_;repeat' ((with_reducible first|refine Zk ?_|(first|apply Za|apply Zb|apply Zc|apply Zd)<;>intro h)<;>try simp -implicitDefEqProofs (maxSteps:=9^7) (disch:=first|omega|(simp only [lens];omega)) only [go_sem]))
     exact ⟨b + 1 - (i + 1), by omega, i + 1, ws, by omega, by omega, hlw, rfl, rfl, rfl⟩
   ·exact ⟨i, zs, by omega, by omega, hl, rfl, rfl, rfl, rfl, rfl, rfl, rfl, rfl⟩
  ·exact ⟨zs, hl, rfl⟩
 ·exact ⟨a + 1, xs, by omega, by omega, rfl, by omega, hsame.symm, rfl, rfl, rfl, rfl, rfl⟩
end Go.Proofs.YtjdbdmhjakfldaaGreat
end
section
namespace Go.Proofs.YtjdbdmhjakfldaaGreat
open Go.Bv
theorem Qjaz (r : Nat) (a b : Nat) (H0 : Heap) (xs : List Int) (hr : Qbz H0 r = some ⟨3, 1, ints xs⟩) (hab : a + 1 ≤ b) (hb : b ≤ xs.length) (hn : xs.length ≤ 1048576) :
  Fc C 149 [.ref r 0 xs.length, .int .i64 (a : Nat), .int .i64 (b : Nat)] H0 (fun v H' => ∃ (ys : List Int) (w : Bool), v = .bool w ∧ ys.length = xs.length ∧ H' = H0.set r (some ⟨3, 1, ints ys⟩)) := by
 have hset : ∀ row, Qbz (H0.set r (some row)) r = some row := fun row => Qez hr
 have hsame := XXz hr
 refine Fc.bodyT Qfz Tryz.func149 w149 rfl Tryz.ntmps149 Tryz.results149 (zLe rfl) ?_
 (refine Zo ?_;repeat' ((with_reducible first|refine Zk ?_|(first|apply Za|apply Zb|apply Zc|apply Zd)<;>intro h)<;>try simp -implicitDefEqProofs (maxSteps:=9^7) (disch:=first|omega|(simp only [lens];omega)) only [go_sem]))
 refine Qcz (fun n ts H => ∃ (c i : Nat) (ws : List Int), (c ≤ 5) ∧ (a + 1 ≤ i) ∧ (i ≤ b) ∧ (ws.length = xs.length) ∧ (H = H0.set r (some ⟨3, 1, ints ws⟩)) ∧ (n = 5 - c) ∧ ts.length = 133 ∧ nth ts 0 = .ref r 0 xs.length ∧ nth ts 1 = .int .i64 (a : Nat) ∧ nth ts 2 = .int .i64 (b : Nat) ∧ nth ts 7 = .int .i64 (i : Nat) ∧ nth ts 8 = .int .i64 (c : Nat)) ?_ (n := 5) ?_
 ·skip
  rintro n ts H ⟨c, i, ws, hc, hi, hi2, hl, hH, hn2, hL, hs0, hs1, hs2, hs7, hs8⟩
  refine Qqz [(0, .ref r 0 xs.length), (1, .int .i64 (a : Nat)), (2, .int .i64 (b : Nat)), (7, .int .i64 (i : Nat)), (8, .int .i64 (c : Nat))] hL (by simp only [zFm, hs0, hs1, hs2, hs7, hs8, true_and]; exact zNm) ?_
  clear hL hs0 hs1 hs2 hs7 hs8 ts
  refine Qsz Qfz ?_
  subst hH hn2
  by_cases hc5 : c < 5
  case neg =>
   (refine Zo ?_;repeat' ((with_reducible first|refine Zk ?_|(first|apply Za|apply Zb|apply Zc|apply Zd)<;>intro h)<;>try simp -implicitDefEqProofs (maxSteps:=9^7) (disch:=first|omega|(simp only [lens];omega)) only [go_sem]))
   exact ⟨ws, false, rfl, hl, rfl⟩
  (refine Zo ?_;repeat' ((with_reducible first|refine Zk ?_|(first|apply Za|apply Zb|apply Zc|apply Zd)<;>intro h)<;>try simp -implicitDefEqProofs (maxSteps:=9^7) (disch:=first|omega|(simp only [lens];omega)) only [go_sem]))
  refine Qcz (fun n ts H => ∃ (i : Nat), (a + 1 ≤ i) ∧ (i ≤ b) ∧ (H = H0.set r (some ⟨3, 1, ints ws⟩)) ∧ (n = b - i) ∧ ts.length = 133 ∧ nth ts 0 = .ref r 0 xs.length ∧ nth ts 1 = .int .i64 (a : Nat) ∧ nth ts 2 = .int .i64 (b : Nat) ∧ nth ts 7 = .int .i64 (i : Nat) ∧ nth ts 8 = .int .i64 (c : Nat)) ?_ (n := b - i) ?_
  ·skip
   rintro n ts H ⟨i, hi, hi2, hH, hn2, hL, hs0, hs1, hs2, hs7, hs8⟩
   refine Qqz [(0, .ref r 0 xs.length), (1, .int .i64 (a : Nat)), (2, .int .i64 (b : Nat)), (7, .int .i64 (i : Nat)), (8, .int .i64 (c : Nat))] hL (by simp only [zFm, hs0, hs1, hs2, hs7, hs8, true_and]; exact zNm) ?_
   clear hL hs0 hs1 hs2 hs7 hs8 ts
   refine Qsz Qfz ?_
   subst hH
   have e1 : ((i : Int) - 1) = ((i - 1 : Nat) : Int) := by omega
   by_cases hib : i < b
   ·skip
    (refine Zo ?_;repeat' ((with_reducible first|refine Zk ?_|(first|apply Za|apply Zb|apply Zc|apply Zd)<;>intro h)<;>try simp -implicitDefEqProofs (maxSteps:=9^7) (disch:=first|omega|(simp only [lens];omega)) only [go_sem, hset, e1]))
    refine Pc.pure (QEz _ _) rfl (fun g => rfl) ?_
    (refine Zo ?_;repeat' ((with_reducible first|refine Zk ?_|(first|apply Za|apply Zb|apply Zc|apply Zd)<;>intro h)<;>try simp -implicitDefEqProofs (maxSteps:=9^7) (disch:=first|omega|(simp only [lens];omega)) only [go_sem, hset, QBz, e1]))
    ·exact ⟨ws, false, rfl, hl, rfl⟩
    ·subst hn2
     refine Qcz (fun n ts H => ∃ (j : Nat) (us : List Int), (j < i) ∧ (us.length = xs.length) ∧ (H = H0.set r (some ⟨3, 1, ints us⟩)) ∧ (n = j) ∧ ts.length = 133 ∧ nth ts 0 = .ref r 0 xs.length ∧ nth ts 1 = .int .i64 (a : Nat) ∧ nth ts 2 = .int .i64 (b : Nat) ∧ nth ts 7 = .int .i64 (i : Nat) ∧ nth ts 8 = .int .i64 (c : Nat) ∧ nth ts 9 = .int .i64 (j : Nat)) ?_ (n := i - 1) ?_
     ·skip
      rintro n ts H ⟨j, us, hj, hul, hH, hn2, hL, hs0, hs1, hs2, hs7, hs8, hs9⟩
      refine Qqz [(0, .ref r 0 xs.length), (1, .int .i64 (a : Nat)), (2, .int .i64 (b : Nat)), (7, .int .i64 (i : Nat)), (8, .int .i64 (c : Nat)), (9, .int .i64 (j : Nat))] hL (by simp only [zFm, hs0, hs1, hs2, hs7, hs8, hs9, true_and]; exact zNm) ?_
      clear hL hs0 hs1 hs2 hs7 hs8 hs9 ts
      refine Qsz Qfz ?_
      subst hH
      by_cases hjb : 1 ≤ j
      ·have e2 : ((j : Int) - 1) = ((j - 1 : Nat) : Int) := by omega
       (refine Zo ?_;repeat' ((with_reducible first|refine Zk ?_|(first|apply Za|apply Zb|apply Zc|apply Zd)<;>intro h)<;>try simp -implicitDefEqProofs (maxSteps:=9^7) (disch:=first|omega|(simp only [lens];omega)) only [go_sem, hset, e2]))
       refine Pc.pure (QEz _ _) rfl (fun g => rfl) ?_
       (refine Zo ?_;repeat' ((with_reducible first|refine Zk ?_|(first|apply Za|apply Zb|apply Zc|apply Zd)<;>intro h)<;>try simp -implicitDefEqProofs (maxSteps:=9^7) (disch:=first|omega|(simp only [lens];omega)) only [go_sem, hset, QBz, e2]))
       ·exact ⟨j - 1, by omega, j - 1, _, by omega, by simp [hul], rfl, rfl, rfl⟩
       ·skip
        refine Qcz (fun n ts H => ∃ (j : Nat) (us : List Int), (i + 1 ≤ j) ∧ (j ≤ b) ∧ (us.length = xs.length) ∧ (H = H0.set r (some ⟨3, 1, ints us⟩)) ∧ (n = b - j) ∧ ts.length = 133 ∧ nth ts 0 = .ref r 0 xs.length ∧ nth ts 1 = .int .i64 (a : Nat) ∧ nth ts 2 = .int .i64 (b : Nat) ∧ nth ts 7 = .int .i64 (i : Nat) ∧ nth ts 8 = .int .i64 (c : Nat) ∧ nth ts 10 = .int .i64 (j : Nat)) ?_ (n := b - (i + 1)) ?_
        ·skip
         rintro n ts H ⟨j, us, hj, hj2, hul, hH, hn2, hL, hs0, hs1, hs2, hs7, hs8, hs10⟩
         refine Qqz [(0, .ref r 0 xs.length), (1, .int .i64 (a : Nat)), (2, .int .i64 (b : Nat)), (7, .int .i64 (i : Nat)), (8, .int .i64 (c : Nat)), (10, .int .i64 (j : Nat))] hL (by simp only [zFm, hs0, hs1, hs2, hs7, hs8, hs10, true_and]; exact zNm) ?_
         clear hL hs0 hs1 hs2 hs7 hs8 hs10 ts
         refine Qsz Qfz ?_
         subst hH
         have e2 : ((j : Int) - 1) = ((j - 1 : Nat) : Int) := by omega
         by_cases hjb : j < b
         ·skip
          (refine Zo ?_;repeat' ((with_reducible first|refine Zk ?_|(first|apply Za|apply Zb|apply Zc|apply Zd)<;>intro h)<;>try simp -implicitDefEqProofs (maxSteps:=9^7) (disch:=first|omega|(simp only [lens];omega)) only [go_sem, hset, e2]))
          refine Pc.pure (QEz _ _) rfl (fun g => rfl) ?_
          (refine Zo ?_;repeat' ((with_reducible first|refine Zk ?_|(first|apply Za|apply Zb|apply Zc|apply Zd)<;>intro h)<;>try simp -implicitDefEqProofs (maxSteps:=9^7) (disch:=first|omega|(simp only [lens];omega)) only [go_sem, hset, QBz, e2]))
          ·exact ⟨b - (j + 1), by omega, j + 1, _, by omega, by omega, by simp [hul], rfl, rfl, by congr 1⟩
          ·exact ⟨5 - (c + 1), by omega, c + 1, i, us, by omega, by omega, by omega, by simp [*], rfl, rfl, rfl, rfl⟩
         ·skip
          (refine Zo ?_;repeat' ((with_reducible first|refine Zk ?_|(first|apply Za|apply Zb|apply Zc|apply Zd)<;>intro h)<;>try simp -implicitDefEqProofs (maxSteps:=9^7) (disch:=first|omega|(simp only [lens];omega)) only [go_sem]))
          exact ⟨5 - (c + 1), by omega, c + 1, i, us, by omega, by omega, by omega, by simp [*], rfl, rfl, rfl, rfl⟩
        ·exact ⟨i + 1, us, by omega, by omega, by simp [*], rfl, rfl, rfl, rfl, rfl, rfl, rfl, rfl, rfl⟩
       ·exact ⟨5 - (c + 1), by omega, c + 1, i, us, by omega, by omega, by omega, by simp [*], rfl, rfl, rfl, rfl⟩
      ·skip
       (refine Zo ?_;repeat' ((with_reducible first|refine Zk ?_|(first|apply Za|apply Zb|apply Zc|apply Zd)<;>intro h)<;>try simp -implicitDefEqProofs (maxSteps:=9^7) (disch:=first|omega|(simp only [lens];omega)) only [go_sem]))
       ·skip
        refine Qcz (fun n ts H => ∃ (j : Nat) (us : List Int), (i + 1 ≤ j) ∧ (j ≤ b) ∧ (us.length = xs.length) ∧ (H = H0.set r (some ⟨3, 1, ints us⟩)) ∧ (n = b - j) ∧ ts.length = 133 ∧ nth ts 0 = .ref r 0 xs.length ∧ nth ts 1 = .int .i64 (a : Nat) ∧ nth ts 2 = .int .i64 (b : Nat) ∧ nth ts 7 = .int .i64 (i : Nat) ∧ nth ts 8 = .int .i64 (c : Nat) ∧ nth ts 10 = .int .i64 (j : Nat)) ?_ (n := b - (i + 1)) ?_
        ·skip
         rintro n ts H ⟨j, us, hj, hj2, hul, hH, hn2, hL, hs0, hs1, hs2, hs7, hs8, hs10⟩
         refine Qqz [(0, .ref r 0 xs.length), (1, .int .i64 (a : Nat)), (2, .int .i64 (b : Nat)), (7, .int .i64 (i : Nat)), (8, .int .i64 (c : Nat)), (10, .int .i64 (j : Nat))] hL (by simp only [zFm, hs0, hs1, hs2, hs7, hs8, hs10, true_and]; exact zNm) ?_
         clear hL hs0 hs1 hs2 hs7 hs8 hs10 ts
         refine Qsz Qfz ?_
         subst hH
         have e2 : ((j : Int) - 1) = ((j - 1 : Nat) : Int) := by omega
         by_cases hjb : j < b
         ·skip
          (refine Zo ?_;repeat' ((with_reducible first|refine Zk ?_|(first|apply Za|apply Zb|apply Zc|apply Zd)<;>intro h)<;>try simp -implicitDefEqProofs (maxSteps:=9^7) (disch:=first|omega|(simp only [lens];omega)) only [go_sem, hset, e2]))
          refine Pc.pure (QEz _ _) rfl (fun g => rfl) ?_
          (refine Zo ?_;repeat' ((with_reducible first|refine Zk ?_|(first|apply Za|apply Zb|apply Zc|apply Zd)<;>intro h)<;>try simp -implicitDefEqProofs (maxSteps:=9^7) (disch:=first|omega|(simp only [lens];omega)) only [go_sem, hset, QBz, e2]))
          ·exact ⟨b - (j + 1), by omega, j + 1, _, by omega, by omega, by simp [hul], rfl, rfl, by congr 1⟩
          ·exact ⟨5 - (c + 1), by omega, c + 1, i, us, by omega, by omega, by omega, by simp [*], rfl, rfl, rfl, rfl⟩
         ·skip
          (refine Zo ?_;repeat' ((with_reducible first|refine Zk ?_|(first|apply Za|apply Zb|apply Zc|apply Zd)<;>intro h)<;>try simp -implicitDefEqProofs (maxSteps:=9^7) (disch:=first|omega|(simp only [lens];omega)) only [go_sem]))
          exact ⟨5 - (c + 1), by omega, c + 1, i, us, by omega, by omega, by omega, by simp [*], rfl, rfl, rfl, rfl⟩
        ·exact ⟨i + 1, us, by omega, by omega, by simp [*], rfl, rfl, rfl, rfl, rfl, rfl, rfl, rfl, rfl⟩
       ·exact ⟨5 - (c + 1), by omega, c + 1, i, us, by omega, by omega, by omega, by simp [*], rfl, rfl, rfl, rfl⟩
     ·exact ⟨i - 1, (ws.set i (ws.getD (i - 1) 0)).set (i - 1) (ws.getD i 0), by omega, by simp [hl], rfl, rfl, rfl, rfl, rfl, rfl, rfl, rfl, rfl⟩
    ·subst hn2
     refine Qcz (fun n ts H => ∃ (j : Nat) (us : List Int), (i + 1 ≤ j) ∧ (j ≤ b) ∧ (us.length = xs.length) ∧ (H = H0.set r (some ⟨3, 1, ints us⟩)) ∧ (n = b - j) ∧ ts.length = 133 ∧ nth ts 0 = .ref r 0 xs.length ∧ nth ts 1 = .int .i64 (a : Nat) ∧ nth ts 2 = .int .i64 (b : Nat) ∧ nth ts 7 = .int .i64 (i : Nat) ∧ nth ts 8 = .int .i64 (c : Nat) ∧ nth ts 10 = .int .i64 (j : Nat)) ?_ (n := b - (i + 1)) ?_
     ·skip
      rintro n ts H ⟨j, us, hj, hj2, hul, hH, hn2, hL, hs0, hs1, hs2, hs7, hs8, hs10⟩
      refine Qqz [(0, .ref r 0 xs.length), (1, .int .i64 (a : Nat)), (2, .int .i64 (b : Nat)), (7, .int .i64 (i : Nat)), (8, .int .i64 (c : Nat)), (10, .int .i64 (j : Nat))] hL (by simp only [zFm, hs0, hs1, hs2, hs7, hs8, hs10, true_and]; exact zNm) ?_
      clear hL hs0 hs1 hs2 hs7 hs8 hs10 ts
      refine Qsz Qfz ?_
      subst hH
      have e2 : ((j : Int) - 1) = ((j - 1 : Nat) : Int) := by omega
      by_cases hjb : j < b
      ·skip
       (refine Zo ?_;repeat' ((with_reducible first|refine Zk ?_|(first|apply Za|apply Zb|apply Zc|apply Zd)<;>intro h)<;>try simp -implicitDefEqProofs (maxSteps:=9^7) (disch:=first|omega|(simp only [lens];omega)) only [go_sem, hset, e2]))
       refine Pc.pure (QEz _ _) rfl (fun g => rfl) ?_
       (refine Zo ?_;repeat' ((with_reducible first|refine Zk ?_|(first|apply Za|apply Zb|apply Zc|apply Zd)<;>intro h)<;>try simp -implicitDefEqProofs (maxSteps:=9^7) (disch:=first|omega|(simp only [lens];omega)) only [go_sem, hset, QBz, e2]))
       ·exact ⟨b - (j + 1), by omega, j + 1, _, by omega, by omega, by simp [hul], rfl, rfl, by congr 1⟩
       ·exact ⟨5 - (c + 1), by omega, c + 1, i, us, by omega, by omega, by omega, by simp [*], rfl, rfl, rfl, rfl⟩
      ·skip
       (refine Zo ?_;repeat' ((with_reducible first|refine Zk ?_|(first|apply Za|apply Zb|apply Zc|apply Zd)<;>intro h)<;>try simp -implicitDefEqProofs (maxSteps:=9^7) (disch:=first|omega|(simp only [lens];omega)) only [go_sem]))
       exact ⟨5 - (c + 1), by omega, c + 1, i, us, by omega, by omega, by omega, by simp [*], rfl, rfl, rfl, rfl⟩
     ·exact ⟨i + 1, (ws.set i (ws.getD (i - 1) 0)).set (i - 1) (ws.getD i 0), by omega, by omega, by simp [*], rfl, rfl, rfl, rfl, rfl, rfl, rfl, rfl, rfl⟩
    ·exact ⟨b - (i + 1), by omega, i + 1, by omega, by omega, rfl, rfl⟩
   ·skip
    (refine Zo ?_;repeat' ((with_reducible first|refine Zk ?_|(first|apply Za|apply Zb|apply Zc|apply Zd)<;>intro h)<;>try simp -implicitDefEqProofs (maxSteps:=9^7) (disch:=first|omega|(simp only [lens];omega)) only [go_sem]))
    exact ⟨ws, true, rfl, hl, rfl⟩
  ·exact ⟨i, by omega, by omega, rfl, rfl, rfl, rfl, rfl, rfl, rfl, rfl⟩
 ·exact ⟨0, a + 1, xs, by omega, by omega, by omega, rfl, hsame.symm, rfl, rfl, rfl, rfl, rfl, rfl, rfl⟩
end Go.Proofs.YtjdbdmhjakfldaaGreat
end
section
namespace Go.Proofs.YtjdbdmhjakfldaaGreat
open Go.Bv
theorem Qqsz (x : Nat) (hx : x < 4294967296) : Pu C 154 [.int .u64 (x : Nat)] (.int .i64 (blen x : Nat)) := by
 have b0 : x < 256 → blen x ≤ 8 := fun h => Xrz (by omega)
 have b1 : x < 65536 → blen (x / 256) ≤ 8 := fun h => Xrz (by omega)
 have b2 : x < 16777216 → blen (x / 65536) ≤ 8 := fun h => Xrz (by omega)
 have b3 : blen (x / 65536 / 256) ≤ 8 := Xrz (by omega)
 have s16 : (x : Int).fdiv (2 ^ min 16 64) = ((x / 65536 : Nat) : Int) := Ytz x 16
 have s8 : ∀ x : Nat, (x : Int).fdiv (2 ^ min 8 64) = ((x / 256 : Nat) : Int) := fun x => Ytz x 8
 refine Fc.keep (Fc.bodyT Qfz Tryz.func154 w154 rfl Tryz.ntmps154 Tryz.results154 (zLe rfl) ?_)
 (refine Zo ?_;repeat' ((with_reducible first|refine Zk ?_|(first|apply Za|apply Zb|apply Zc|apply Zd)<;>intro h)<;>try simp -implicitDefEqProofs (maxSteps:=9^7) (disch:=first|omega|(simp only [lens];omega)) only [go_sem, s16, s8, wrapU8, Qokz, Qjoz]))
 ·skip
  (refine Qmz (by intro g; simp only [go_sem, ren, renL]) ?_)
  rw [X3z (n := x) (k := 16) (by omega), X3z (n := x / 2 ^ 16) (k := 8) (by omega)]
  congr 1; simp only [Nat.reducePow]; omega
 ·skip
  (refine Qmz (by intro g; simp only [go_sem, ren, renL]) ?_)
  rw [X3z (n := x) (k := 16) (by omega)]
  congr 1
 ·skip
  (refine Qmz (by intro g; simp only [go_sem, ren, renL]) ?_)
  rw [X3z (n := x) (k := 8) (by omega)]
  congr 1
 ·skip
  (refine Qmz (by intro g; simp only [go_sem, ren, renL]) ?_)
  congr 1; omega
theorem Qojz (x : Nat) (hx : x < 4294967296) : Pu C 125 [.int .u64 (x : Nat)] (.int .i64 (blen x : Nat)) := by
 refine Fc.keep (Fc.bodyT Qfz Tryz.func125 w125 rfl Tryz.ntmps125 Tryz.results125 (zLe rfl) ?_)
 (refine Zo ?_;repeat' ((with_reducible first|refine Zk ?_|(first|apply Za|apply Zb|apply Zc|apply Zd)<;>intro h)<;>try simp -implicitDefEqProofs (maxSteps:=9^7) (disch:=first|omega|(simp only [lens];omega)) only [go_sem]))
 refine Fc.pure (Qqsz x hx) (by simp [go_sem, cloL, clo, Qaz, Qnz]) (by intro g; simp only [go_sem, ren, renL]) ?_
 (refine Zo ?_;repeat' ((with_reducible first|refine Zk ?_|(first|apply Za|apply Zb|apply Zc|apply Zd)<;>intro h)<;>try simp -implicitDefEqProofs (maxSteps:=9^7) (disch:=first|omega|(simp only [lens];omega)) only [go_sem]))
 (refine Qmz (by intro g; simp only [go_sem, ren, renL]) ?_)
 rfl
theorem Qjmz (x : Nat) (hx : x ≤ 1048576) : Pu C 163 [.int .i64 (x : Nat)] (.int .u64 ((2 ^ blen x : Nat) : Int)) := by
 have hb : blen x ≤ 21 := Xrz (by omega)
 refine Fc.keep (Fc.bodyT Qfz Tryz.func163 w163 rfl Tryz.ntmps163 Tryz.results163 (zLe rfl) ?_)
 (refine Zo ?_;repeat' ((with_reducible first|refine Zk ?_|(first|apply Za|apply Zb|apply Zc|apply Zd)<;>intro h)<;>try simp -implicitDefEqProofs (maxSteps:=9^7) (disch:=first|omega|(simp only [lens];omega)) only [go_sem]))
 refine Fc.pure (Qojz x (by omega)) (by simp [go_sem, cloL, clo, Qaz, Qnz]) (by intro g; simp only [go_sem, ren, renL]) ?_
 (refine Zo ?_;repeat' ((with_reducible first|refine Zk ?_|(first|apply Za|apply Zb|apply Zc|apply Zd)<;>intro h)<;>try simp -implicitDefEqProofs (maxSteps:=9^7) (disch:=first|omega|(simp only [lens];omega)) only [go_sem]))
 (refine Qmz (by intro g; simp only [go_sem, ren, renL]) ?_)
 have h2 : (2 : Nat) ^ blen x ≤ 2 ^ 21 := Nat.pow_le_pow_right (by decide) hb
 have h3 : ((2 ^ blen x : Nat) : Int) = 2 ^ blen x := by simp
 rw [Nat.min_eq_left (by omega), Int.one_mul, ← h3]
 generalize 2 ^ blen x = P at *
 rw [wrapu64' (by omega)]
theorem Qpez (q : Nat) (s : Int) (H0 : Heap) (hq : Qbz H0 q = some ⟨183, 1, [.int .u64 s]⟩) :
  Fc C 164 [.ptr q 0] H0 (fun v H' => ∃ s' : Int, v = .int .u64 s' ∧ H' = H0.set q (some ⟨183, 1, [.int .u64 s']⟩)) := by
 have hst : ∀ z : Row, Qbz (H0.set q (some z)) q = some z := fun z => Qez hq
 refine Fc.bodyT Qfz Tryz.func164 w164 rfl Tryz.ntmps164 Tryz.results164 (zLe rfl) ?_
 (refine Zo ?_;repeat' ((with_reducible first|refine Zk ?_|(first|apply Za|apply Zb|apply Zc|apply Zd)<;>intro h)<;>try simp -implicitDefEqProofs (maxSteps:=9^7) (disch:=first|omega|(simp only [lens];omega)) only [go_sem, hq, hst]))
 exact ⟨_, rfl, rfl⟩
theorem Qndz (r : Nat) (a b : Nat) (H0 : Heap) (xs : List Int) (hr : Qbz H0 r = some ⟨3, 1, ints xs⟩) (hab : a ≤ b) (hb : b ≤ xs.length) (hn : xs.length ≤ 1048576) :
  Fc C 146 [.ref r 0 xs.length, .int .i64 (a : Nat), .int .i64 (b : Nat)] H0 (fun v H' => ∃ (ys : List Int) (X : Heap), v = .tup [] ∧ ys.length = xs.length ∧ H' = H0.set r (some ⟨3, 1, ints ys⟩) ++ X) := by
 have hset : ∀ row, Qbz (H0.set r (some row)) r = some row := fun row => Qez hr
 have hsame := XXz hr
 obtain ⟨m, rfl⟩ : ∃ m : Nat, b = a + m := ⟨b - a, by omega⟩
 have hm : (((a + m : Nat) : Int) - (a : Int)) = (m : Nat) := by omega
 refine Fc.bodyT Qfz Tryz.func146 w146 rfl Tryz.ntmps146 Tryz.results146 (zLe rfl) ?_
 (refine Zo ?_;repeat' ((with_reducible first|refine Zk ?_|(first|apply Za|apply Zb|apply Zc|apply Zd)<;>intro h)<;>try simp -implicitDefEqProofs (maxSteps:=9^7) (disch:=first|omega|(simp only [lens];omega)) only [go_sem, hm]))
 ·refine Fc.pure (Qjmz m (by omega)) rfl (fun g => rfl) ?_
  have hp1 : 2 ^ blen m ≤ 2 * m := by
   have := Qhtz (n := m) (by omega)
   have h1 : 1 ≤ blen m := by have := Qngz (n := m) (k := 0) (by omega); omega
   rw [show blen m = blen m - 1 + 1 by omega, Nat.pow_succ]; omega
  have hp2 := Qbnz m
  generalize 2 ^ blen m = P at *
  obtain ⟨q, hq⟩ : ∃ q, H0.length = q := ⟨_, rfl⟩
  have hrq : r < q := by rw [← hq]; exact Qtz hr
  rw [hq]
  have hk : ((m : Int) / 4 * 2) = ((m / 4 * 2 : Nat) : Int) := by omega
  (refine Zo ?_;repeat' ((with_reducible first|refine Zk ?_|(first|apply Za|apply Zb|apply Zc|apply Zd)<;>intro h)<;>try simp -implicitDefEqProofs (maxSteps:=9^7) (disch:=first|omega|(simp only [lens];omega)) only [go_sem, hk]))
  refine Qcz (fun n ts H => ∃ (i : Nat) (s : Int) (ws : List Int), (a + m / 4 * 2 - 1 ≤ i) ∧ (i ≤ a + m / 4 * 2 + 2) ∧ (ws.length = xs.length) ∧ (H = H0.set r (some ⟨3, 1, ints ws⟩) ++ [some ⟨183, 1, [.int .u64 s]⟩]) ∧ (n = a + m / 4 * 2 + 2 - i) ∧ ts.length = 65 ∧ nth ts 0 = .ref r 0 xs.length ∧ nth ts 1 = .int .i64 (a : Nat) ∧ nth ts 6 = .int .i64 (m : Nat) ∧ nth ts 7 = .ptr q 0 ∧ nth ts 8 = .int .u64 (P : Nat) ∧ nth ts 9 = .int .i64 (i : Nat)) ?_ (n := 3) ?_
  ·skip
   rintro n ts H ⟨i, s, ws, hi, hi2, hl, hH, hn2, hL, hs0, hs1, hs6, hs7, hs8, hs9⟩
   refine Qqz [(0, .ref r 0 xs.length), (1, .int .i64 (a : Nat)), (6, .int .i64 (m : Nat)), (7, .ptr q 0), (8, .int .u64 (P : Nat)), (9, .int .i64 (i : Nat))] hL (by simp only [zFm, hs0, hs1, hs6, hs7, hs8, hs9, true_and]; exact zNm) ?_
   clear hL hs0 hs1 hs6 hs7 hs8 hs9 ts
   refine Qsz Qfz ?_
   subst hH
   have hq2 : ∀ (w : Option Row) (z : Row), Qbz (H0.set r w ++ [some z]) q = some z := fun w z => by
    have := QQz (H0.set r w) z
    rwa [List.length_set, hq] at this
   have hr2 : ∀ (w : Row) Y, Qbz (H0.set r (some w) ++ Y) r = some w := fun w Y => Qgz (hset w) Y
   have hs2 : ∀ (w z z' : Option Row), (H0.set r w ++ [z]).set q z' = H0.set r w ++ [z'] := fun w z z' => by
    rw [List.set_append_right _ _ (by rw [List.length_set]; omega), List.length_set, hq, Nat.sub_self]; rfl
   have hs3 : ∀ (w w' : Option Row) Y, (H0.set r w ++ Y).set r w' = H0.set r w' ++ Y := fun w w' Y => by
    rw [List.set_append_left _ _ (by rw [List.length_set]; omega), List.set_set]
   by_cases hil : i ≤ a + m / 4 * 2 + 1
   ·skip
    (refine Zo ?_;repeat' ((with_reducible first|refine Zk ?_|(first|apply Za|apply Zb|apply Zc|apply Zd)<;>intro h)<;>try simp -implicitDefEqProofs (maxSteps:=9^7) (disch:=first|omega|(simp only [lens];omega)) only [go_sem, hk]))
    refine Fc.mono (Qpez q s _ (hq2 _ _)) ?_
    rintro v H' ⟨s', rfl, rfl⟩
    rw [hs2]
    obtain ⟨o, ho, hoP⟩ : ∃ o : Nat, (@HAnd.hAnd (BitVec 64) (BitVec 64) (BitVec 64) (@instHAndOfAndOp (BitVec IntKind.u64.bits) (@BitVec.instAndOp IntKind.u64.bits)) (BitVec.ofInt 64 s') (BitVec.ofInt 64 ((P : Int) - 1))).toNat = o ∧ o < P := ⟨_, rfl, by
     show (BitVec.ofInt 64 s' &&& BitVec.ofInt 64 ((P : Int) - 1)).toNat < P
     have h1 := Nat.and_le_right (n := (BitVec.ofInt 64 s').toNat) (m := (BitVec.ofInt 64 ((P : Int) - 1)).toNat)
     rw [BitVec.toNat_and]
     have h2 : (BitVec.ofInt 64 ((P : Int) - 1)).toNat = P - 1 := by
      rw [BitVec.toNat_ofInt]
      omega
     omega⟩
    (refine Zo ?_;repeat' ((with_reducible first|refine Zk ?_|(first|apply Za|apply Zb|apply Zc|apply Zd)<;>intro h)<;>try simp -implicitDefEqProofs (maxSteps:=9^7) (disch:=first|omega|(simp only [lens];omega)) only [go_sem, ho, hr2, hs3, QBz]))
    all_goals exact ⟨a + m / 4 * 2 + 2 - (i + 1), by omega, i + 1, s', _, by omega, by omega, by simp [hl], rfl, rfl, by congr 1⟩
   ·skip
    (refine Zo ?_;repeat' ((with_reducible first|refine Zk ?_|(first|apply Za|apply Zb|apply Zc|apply Zd)<;>intro h)<;>try simp -implicitDefEqProofs (maxSteps:=9^7) (disch:=first|omega|(simp only [lens];omega)) only [go_sem, hk]))
    exact ⟨ws, _, hl, rfl⟩
  ·exact ⟨a + m / 4 * 2 - 1, m, xs, by omega, by omega, rfl, by rw [hsame], by omega, rfl, rfl, rfl, rfl, rfl, rfl, by show V.int .i64 ((a : Int) + ((m / 4 * 2 : Nat) : Int) - 1) = _; congr 1; omega⟩
 ·exact ⟨xs, [], rfl, by rw [hsame]; simp⟩
end Go.Proofs.YtjdbdmhjakfldaaGreat
end
