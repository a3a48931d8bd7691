/-
  Parts Num15, Num16, RefN5, RefN6, Num17, Ten1, Ten2, Ten3, Ten4, Shp1, Shp2, Mov1, Mov2, Mov3, Mov4, Perm1, Pdq1, Pdq2, Pdq3, Pdq4, Pdq5, Pdq6, Pdq7, Pdq8, Pdq9, Pdq10, Pdq11, Pdq12, Mov5, Mov6, Mov7, La1, La2, La3, Rf0, Lw1, Rf1, Rf2, Lw2, Cat1, Cat3, Cat2, Rf5, Lw5, Rf6, Rf7, Rf4, Lw4, Lw10, Lw6, Lw8, Lw9, Lw11, Lw12, Lw14, one behind the other: a program logic of our own, contracts of functions.
-/
import Derived.Test.YtjdbdmhjakfldaaGreatO4

set_option linter.unusedVariables false
set_option linter.unusedSimpArgs false
set_option maxRecDepth 100000
set_option maxHeartbeats 8000000
section
namespace Go.Proofs.YtjdbdmhjakfldaaGreat
open Go.Bv
theorem Qbxz (l : List Nat) (hl : l.length ≤ 17592186044416) (hL : Lim l) : Val C 157 [NA l] (natV (lv B32 l)) := Val.ofN (Qafz l hl hL)
theorem shl_val (a : List Nat) (n : Nat) (ha : a.length ≤ 4398046511104) (hA : Lim a) (hn : n ≤ 70368744177664) : Val C 171 [NA a, .int .i64 (n : Nat)] (natV (lv B32 a * 2 ^ n)) := Val.ofN (Shl_spec a n ha hA hn)
theorem IsN.isL {v : V} {H : Heap} {x : Nat} (h : IsN v H x) : IsL 59 1 H v (dg B32 x).length (nats .u32 (dg B32 x)) := IsZ.isL h
theorem IsN.bor {v : V} {H : Heap} {x : Nat} (h : IsN v H x) : Bor H v (natV x) := h.isL.bor (Qkz _ _)
theorem IsN.keep {v : V} {H : Heap} {x : Nat} (h : IsN v H x) (X : Heap) : IsN v (H ++ X) x := by
 rcases h with h | h
 ·exact .inl h
 ·exact .inr (h.keep X)
theorem IsN.len {v : V} {H : Heap} {x : Nat} (h : IsN v H x) (y : Ty) (K : V → Prop) : lenw y v K = (y.sl.isSome = true ∧ K (.int .i64 ((dg B32 x).length : Nat))) := h.isL.lenw y K
theorem cmp_val (a b : List Nat) (ha : a.length ≤ 8796093022208) (hb : b.length ≤ 8796093022208) (hA : Lim a) (hB : Lim b) : Val C 122 [NA a, NA b] (.int .i64 (cmpN (lv B32 a) (lv B32 b))) := Val.ofPu (Qnsz a b ha hb hA hB) rfl rfl
theorem Yzz {l : List Nat} (hL : Lim l) : (dg B32 (lv B32 l)).length ≤ l.length := Q7z (by decide) _ _ (Qgjz hL)
theorem Qhuz (k : IntKind) : ∀ (l xs : List Nat) (off : Nat), off + l.length ≤ xs.length → puts (nats k xs) off (nats k l) = nats k (xs.take off ++ l ++ xs.drop (off + l.length))
 | [], xs, off, h => by simp [nats, puts, List.take_append_drop]
 | v :: l, xs, off, h => by
  have e : nats k (v :: l) = .int k (v : Nat) :: nats k l := rfl
  simp only [List.length_cons] at h ⊢
  rw [e, puts, Xkz, Qhuz k l _ _ (by rw [List.length_set]; omega)]
  congr 1
  have e1 : (xs.set off v).take (off + 1) = xs.take off ++ [v] := by
   rw [List.take_add_one, X1z (Nat.le_refl _)]
   simp [show off < xs.length by omega]
  rw [e1, Xbz (by omega), show off + 1 + l.length = off + (l.length + 1) by omega]
  simp
theorem puts_zero (k : IntKind) (l : List Nat) (n : Nat) (h : l.length ≤ n) : puts (nats k (List.replicate n 0)) 0 (nats k l) = nats k (l ++ List.replicate (n - l.length) 0) := by
 rw [Qhuz _ _ _ _ (by simp; omega), List.take_zero, List.nil_append, List.drop_replicate, Nat.zero_add]
theorem Qeiz (a b : List Nat) (ha : a.length ≤ 1099511627776) (hb : b.length ≤ 1099511627776) (hA : Lim a) (hB : Lim b) (h0 : 0 < lv B32 b) : Val C 158 [NA a, NA b] (.tup [natV (lv B32 a / lv B32 b), natV (lv B32 a % lv B32 b), .int .i64 0]) := by
 have la := Yzz hA
 have lb := Yzz hB
 refine Fc.keep (Fc.bodyT Qgz Tryz.func158 w158 rfl Tryz.ntmps158 Tryz.results158 (zLe rfl) ?_)
 (refine Zo ?_;repeat' ((with_reducible first|refine Zk ?_|(first|apply Za|apply Zb|apply Zc|apply Zd)<;>intro h)<;>try simp -implicitDefEqProofs (maxSteps:=9^7) (disch:=first|omega|(simp only [lens];omega)) only [go_sem]))
 refine Fc.isN (Qafz a (by omega) hA) ⟨.self (QMz _), trivial⟩ fun va X hva => ?_
 (refine Zo ?_;repeat' ((with_reducible first|refine Zk ?_|(first|apply Za|apply Zb|apply Zc|apply Zd)<;>intro h)<;>try simp -implicitDefEqProofs (maxSteps:=9^7) (disch:=first|omega|(simp only [lens];omega)) only [go_sem]))
 refine (Qbxz b (by omega) hB).call ⟨.self (QMz _), trivial⟩ (Yfz _) ?_
 have hlen := hva.len (C.ty 56)
 have hne : (dg B32 (lv B32 b)).length ≠ 0 := fun h => by
  have := List.length_eq_zero_iff.1 h
  have e := QYz (lv B32 b)
  rw [this] at e; simp [lv] at e; omega
 rw [List.nil_append] at hva
 (refine Zo ?_;repeat' ((with_reducible first|refine Zk ?_|(first|apply Za|apply Zb|apply Zc|apply Zd)<;>intro h)<;>try simp -implicitDefEqProofs (maxSteps:=9^7) (disch:=first|omega|(simp only [lens];omega)) only [go_sem, hlen]))
 refine (cmp_val (dg B32 (lv B32 a)) (dg B32 (lv B32 b)) (by omega) (by omega) (Xxz _) (Xxz _)).call ⟨hva.bor, .self (QMz _), trivial⟩ rfl ?_
 rw [QYz, QYz]
 have hc : cmpN (lv B32 a) (lv B32 b) < 0 ↔ lv B32 a < lv B32 b := by unfold cmpN; split <;> (try split) <;> omega
 (refine Zo ?_;repeat' ((with_reducible first|refine Zk ?_|(first|apply Za|apply Zb|apply Zc|apply Zd)<;>intro h)<;>try simp -implicitDefEqProofs (maxSteps:=9^7) (disch:=first|omega|(simp only [lens];omega)) only [go_sem, hlen]))
 ·have hlt := hc.1 h
  rw [Nat.div_eq_of_lt hlt, Nat.mod_eq_of_lt hlt]
  refine Gd.ret (Gd.tupL ?_)
  exact ⟨by rw [show natV 0 = .sl 0 [] by simp [natV, NA, QLz, nats]]; exact .nil _, hva.gd, .leaf _ rfl rfl, trivial⟩
 ·have hl1 : (dg B32 (lv B32 b)).length = 1 := by omega
  obtain ⟨d, hd⟩ : ∃ d, dg B32 (lv B32 b) = [d] := by
   match hh : dg B32 (lv B32 b), hl1 with
   | [d], _ => exact ⟨d, rfl⟩
  have hdv : lv B32 b = d := by rw [← QYz (lv B32 b), hd]; simp [lv]
  have hdl : d < 4294967296 := Xxz (lv B32 b) d (by rw [hd]; simp)
  rw [hd]
  (refine Zo ?_;repeat' ((with_reducible first|refine Zk ?_|(first|apply Za|apply Zb|apply Zc|apply Zd)<;>intro h)<;>try simp -implicitDefEqProofs (maxSteps:=9^7) (disch:=first|omega|(simp only [lens];omega)) only [go_sem]))
  have hS := Qqrz (dg B32 (lv B32 a)) d (by omega) (Xxz _) (by omega) hdl
  rw [QYz] at hS
  refine hS.kept ⟨hva.bor, .self rfl, trivial⟩ fun v Y hv => ?_
  obtain ⟨q, r, e, rfl, hq, hr, he⟩ := hv.tup3
  rw [hr.int_inv, he.int_inv]
  have hrl : lv B32 a % d < 4294967296 := Nat.lt_of_lt_of_le (Nat.mod_lt _ (by omega)) (by omega)
  (refine Zo ?_;repeat' ((with_reducible first|refine Zk ?_|(first|apply Za|apply Zb|apply Zc|apply Zd)<;>intro h)<;>try simp -implicitDefEqProofs (maxSteps:=9^7) (disch:=first|omega|(simp only [lens];omega)) only [go_sem]))
  refine Fc.isN (Qhbz (lv B32 a % d) (by omega)) (by exact ⟨.self rfl, trivial⟩) fun w Z hw => ?_
  (refine Zo ?_;repeat' ((with_reducible first|refine Zk ?_|(first|apply Za|apply Zb|apply Zc|apply Zd)<;>intro h)<;>try simp -implicitDefEqProofs (maxSteps:=9^7) (disch:=first|omega|(simp only [lens];omega)) only [go_sem]))
  rw [hdv]
  rw [List.append_assoc] at hw
  exact Gd.ret (Gd.tupL ⟨hq.more (by rw [← List.append_assoc]; exact Keep.app _ _), hw.gd, .leaf _ rfl rfl, trivial⟩)
 ·have hn2 : 2 ≤ (dg B32 (lv B32 b)).length := by omega
  have hge : lv B32 b ≤ lv B32 a := by omega
  obtain ⟨k, hk⟩ : ∃ k, (dg B32 (lv B32 b)).length = k + 2 := ⟨(dg B32 (lv B32 b)).length - 2, by omega⟩
  have hlenle : (dg B32 (lv B32 b)).length ≤ (dg B32 (lv B32 a)).length := Q7z (by decide) _ _ (Nat.lt_of_le_of_lt hge (Xwz (by decide) _))
  have hgt := Qdxz (b := B32) (by decide) (lv B32 b) (k + 1)
  have ht := (Xxz (lv B32 b)).get (k + 1)
  have hbk : lv B32 b < B32 ^ (k + 2) := hk ▸ Xwz (by decide) _
  have hbk1 : lv B32 b / B32 ^ (k + 1) < B32 := by rw [Nat.div_lt_iff_lt_mul (Nat.pow_pos (by decide)), Nat.mul_comm, ← Nat.pow_succ]; exact hbk
  rw [Nat.mod_eq_of_lt hbk1] at hgt
  have e1 : (dg B32 (lv B32 b)).length - 1 = k + 1 := by omega
  (refine Zo ?_;repeat' ((with_reducible first|refine Zk ?_|(first|apply Za|apply Zb|apply Zc|apply Zd)<;>intro h)<;>try simp -implicitDefEqProofs (maxSteps:=9^7) (disch:=first|omega|(simp only [lens];omega)) only [go_sem]))
  rw [e1]
  refine Fc.pure (lead_spec _ ht) rfl (fun g => rfl) ?_
  rw [hgt]
  obtain ⟨s, hs⟩ : ∃ s, s = 32 - blen (lv B32 b / B32 ^ (k + 1)) := ⟨_, rfl⟩
  rw [← hs]
  obtain ⟨n1, n2, n3⟩ := dm_norm hk rfl hs
  (refine Zo ?_;repeat' ((with_reducible first|refine Zk ?_|(first|apply Za|apply Zb|apply Zc|apply Zd)<;>intro h)<;>try simp -implicitDefEqProofs (maxSteps:=9^7) (disch:=first|omega|(simp only [lens];omega)) only [go_sem]))
  refine (shl_val (dg B32 (lv B32 b)) s (by omega) (Xxz _) (by omega)).call ⟨.self (QMz _), .self rfl, trivial⟩ (Yfz _) ?_
  rw [QYz]
  have hVl : (dg B32 (lv B32 b * 2 ^ s)).length = k + 2 := by
   have c1 := Q7z (b := B32) (by decide) _ _ n1
   have c2 : ¬ (dg B32 (lv B32 b * 2 ^ s)).length ≤ k + 1 := fun hh => by
    have c3 : lv B32 b * 2 ^ s < B32 ^ (k + 1) := Nat.lt_of_lt_of_le (Xwz (by decide) _) (Nat.pow_le_pow_right (by decide) hh)
    have c4 : 0 < B32 ^ (k + 1) := Nat.pow_pos (by decide)
    simp only [B32] at *
    omega
   omega
  have hVg : 2147483648 ≤ (dg B32 (lv B32 b * 2 ^ s)).getD (k + 1) 0 := by
   rw [Qdxz (by decide), Nat.mod_eq_of_lt (Nat.div_lt_of_lt_mul (by rw [← Nat.pow_succ]; exact n1)), Nat.le_div_iff_mul_le (Nat.pow_pos (by decide)), Nat.mul_comm 2147483648]
   exact n2
  have hbge : B32 ^ (k + 2 - 1) ≤ lv B32 b := Nat.le_of_not_lt fun hh => by
   have := Q7z (b := B32) (by decide) _ _ hh
   omega
  have hfst := dm_first (s := s) (V := lv B32 b * 2 ^ s) (B := B32) (by decide) (Xwz (b := B32) (by decide) (lv B32 a)) (by omega) (by omega) hbge rfl
  have hAl : lv B32 a * 2 ^ s < B32 ^ ((dg B32 (lv B32 a)).length + 1) := by
   rw [Nat.pow_succ]
   refine Nat.mul_lt_mul'' (Xwz (by decide) _) ?_
   exact Nat.lt_of_le_of_lt (Nat.pow_le_pow_right (by decide) n3) (by decide)
  have hAll := Q7z (b := B32) (by decide) _ _ hAl
  have hA0 : (dg B32 (lv B32 a * 2 ^ s)).length ≠ 0 := fun hh => by
   have e := QYz (lv B32 a * 2 ^ s)
   rw [List.length_eq_zero_iff.1 hh] at e
   have hp := Nat.mul_pos (show 0 < lv B32 a by omega) (Nat.two_pow_pos s)
   rw [← e] at hp
   exact absurd hp (by simp [lv])
  have hV0 : 0 < lv B32 b * 2 ^ s := Nat.mul_pos h0 (Nat.two_pow_pos s)
  obtain ⟨V, hV⟩ : ∃ V, V = lv B32 b * 2 ^ s := ⟨_, rfl⟩
  obtain ⟨A, hAA⟩ : ∃ A, A = lv B32 a * 2 ^ s := ⟨_, rfl⟩
  rw [← hV] at hVl hVg hfst hV0 n1 ⊢
  rw [← hAA] at hfst hAl hAll hA0
  obtain ⟨m, hm⟩ : ∃ m, m = (dg B32 (lv B32 a)).length := ⟨_, rfl⟩
  have em : (((dg B32 (lv B32 a)).length : Int) + 1) = ((m + 1 : Nat) : Int) := by omega
  (refine Zo ?_;repeat' ((with_reducible first|refine Zk ?_|(first|apply Za|apply Zb|apply Zc|apply Zd)<;>intro h)<;>try simp -implicitDefEqProofs (maxSteps:=9^7) (disch:=first|omega|(simp only [lens];omega)) only [go_sem, hlen, em]))
  refine YQz rfl rfl rfl rfl (by simp [t59bytes]) (by omega) ?_
  (refine Zo ?_;repeat' ((with_reducible first|refine Zk ?_|(first|apply Za|apply Zb|apply Zc|apply Zd)<;>intro h)<;>try simp -implicitDefEqProofs (maxSteps:=9^7) (disch:=first|omega|(simp only [lens];omega)) only [go_sem]))
  refine (shl_val (dg B32 (lv B32 a)) s (by omega) (Xxz _) (by omega)).call ⟨(hva.keep _).bor, .self rfl, trivial⟩ (Yfz _) ?_
  rw [QYz, ← hAA]
  (refine Zo ?_;repeat' ((with_reducible first|refine Zk ?_|(first|apply Za|apply Zb|apply Zc|apply Zd)<;>intro h)<;>try simp -implicitDefEqProofs (maxSteps:=9^7) (disch:=first|omega|(simp only [lens];omega)) only [go_sem]))
  refine copyw_sl (e := 59) (s := 1) (cs := nats .u32 (List.replicate (m + 1) 0)) (news := nats .u32 (dg B32 A)) (QAz _ _) (by simp [Qwz]) (Zfz _ _) rfl (by omega) (by omega) (by simp [Qwz]; omega) ?_
  rw [puts_zero _ _ _ (by omega)]
  have w1 : (dg B32 A ++ List.replicate (m + 1 - (dg B32 A).length) 0).length = m + 1 := by simp; omega
  have w2 : Lim (dg B32 A ++ List.replicate (m + 1 - (dg B32 A).length) 0) := fun x hx => by
   rcases List.mem_append.1 hx with h | h
   ·exact Xxz _ x h
   ·rw [(List.mem_replicate.1 h).2]; decide
  have w3 : lv B32 (dg B32 A ++ List.replicate (m + 1 - (dg B32 A).length) 0) = A := by rw [lv_zeros, QYz]
  generalize dg B32 A ++ List.replicate (m + 1 - (dg B32 A).length) 0 = W0 at *
  generalize hH1 : (X ++ [some (⟨59, 1, nats .u32 (List.replicate (m + 1) 0)⟩ : Row)]).set X.length (some ⟨59, 1, nats .u32 W0⟩) = H1
  have hru : Qcz H1 X.length = some ⟨59, 1, nats .u32 W0⟩ := by rw [← hH1]; exact Qez (QAz _ _)
  have hH1l : H1.length = X.length + 1 := by rw [← hH1]; simp
  have eq1 : (((dg B32 (lv B32 a)).length : Int) - ((dg B32 V).length : Int) + 1) = ((m - (k + 2) + 1 : Nat) : Int) := by omega
  (refine Zo ?_;repeat' ((with_reducible first|refine Zk ?_|(first|apply Za|apply Zb|apply Zc|apply Zd)<;>intro h)<;>try simp -implicitDefEqProofs (maxSteps:=9^7) (disch:=first|omega|(simp only [lens];omega)) only [go_sem, hlen, eq1]))
  refine YQz rfl rfl rfl rfl (by simp [t59bytes]) (by omega) ?_
  (refine Zo ?_;repeat' ((with_reducible first|refine Zk ?_|(first|apply Za|apply Zb|apply Zc|apply Zd)<;>intro h)<;>try simp -implicitDefEqProofs (maxSteps:=9^7) (disch:=first|omega|(simp only [lens];omega)) only [go_sem]))
  rw [← hm] at hfst
  refine Qfz (fun n ts H => ∃ (j : Nat) (W Q : List Nat), (j ≤ m - (k + 2) + 1) ∧ (W.length = m + 1) ∧ (Lim W) ∧ (Q.length = m - (k + 2) + 1) ∧ (Lim Q) ∧ (lv B32 (Q.drop j) * (B32 ^ j * V) + lv B32 W = A) ∧ (lv B32 (W.drop j) < V) ∧ (n = j) ∧ (Qcz H X.length = some ⟨59, 1, nats .u32 W⟩) ∧ (Qcz H (X.length + 1) = some ⟨59, 1, nats .u32 Q⟩) ∧ ts.length = 113 ∧ nth ts 10 = .int .i64 (s : Nat) ∧ nth ts 11 = natV V ∧ nth ts 12 = .ref X.length 0 (m + 1) ∧ nth ts 13 = .ref (X.length + 1) 0 (m - (k + 2) + 1) ∧ nth ts 14 = .int .i64 ((j : Int) - 1)) ?_ (n := m - (k + 2) + 1) ?_
  ·skip
   rintro n ts H ⟨j, W, Q, hj, hWl, hWL, hQl, hQL, hinv, hlt, hn, hru, hrq, hL, hs10, hs11, hs12, hs13, hs14⟩
   refine Qsz [(10, .int .i64 (s : Nat)), (11, natV V), (12, .ref X.length 0 (m + 1)), (13, .ref (X.length + 1) 0 (m - (k + 2) + 1)), (14, .int .i64 ((j : Int) - 1))] hL (by simp only [zFm, hs10, hs11, hs12, hs13, hs14, true_and]; exact zNm) ?_
   clear hL hs10 hs11 hs12 hs13 hs14 ts
   refine Qrz Qgz ?_
   by_cases hcase : 0 < j
   ·obtain ⟨i, rfl⟩ : ∃ i, j = i + 1 := ⟨j - 1, by omega⟩
    have e1 : (((i + 1 : Nat) : Int) - 1) = (i : Int) := by omega
    have e2 : ((i : Int) + ((dg B32 V).length : Int) + 1) = ((i + (k + 3) : Nat) : Int) := by omega
    (refine Zo ?_;repeat' ((with_reducible first|refine Zk ?_|(first|apply Za|apply Zb|apply Zc|apply Zd)<;>intro h)<;>try simp -implicitDefEqProofs (maxSteps:=9^7) (disch:=first|omega|(simp only [lens];omega)) only [go_sem, e1, e2]))
    refine slcb_ref hru (by simp [t59ok]) (by simp [t59size]) (by omega) (by omega) ?_
    rw [Nat.zero_add, show i + (k + 3) - i = k + 2 + 1 by omega]
    (refine Zo ?_;repeat' ((with_reducible first|refine Zk ?_|(first|apply Za|apply Zb|apply Zc|apply Zd)<;>intro h)<;>try simp -implicitDefEqProofs (maxSteps:=9^7) (disch:=first|omega|(simp only [lens];omega)) only [go_sem]))
    obtain ⟨u1, u2, u3⟩ := dm_U (b := B32) (by decide) hWL (Nat.le_of_lt n1) (show i + (k + 2 + 1) ≤ W.length by omega) hlt
    have hpl : ((W.drop i).take (k + 2 + 1)).length = k + 2 + 1 := by rw [List.length_take, List.length_drop]; omega
    have hpL : Lim ((W.drop i).take (k + 2 + 1)) := fun x hx => hWL x (List.mem_of_mem_drop (List.mem_of_mem_take hx))
    have hgs := Qpsz ((W.drop i).take (k + 2 + 1)) (dg B32 V) k hVl hpl (by omega) hpL (Xxz V) hVg (by rw [← u2, QYz]; exact u1)
    have hbor : BorL H [.ref X.length i (k + 2 + 1), natV V] [NA ((W.drop i).take (k + 2 + 1)), natV V] := by
     refine ⟨?_, .self (Yfz _), trivial⟩
     rw [NA, hpl]
     refine .ref X.length i _ _ _ hru (by simp [Qwz]; omega) fun q hq => ?_
     have hq' : q < k + 2 + 1 := by rwa [Qwz, hpl] at hq
     have : nth (nats .u32 W) (i + q) = nth (nats .u32 ((W.drop i).take (k + 2 + 1))) q := by
      rw [ZTz _ _ (by omega), ZTz _ _ (by omega)]
      simp [List.getD, List.getElem?_take, hq']
     rw [this]
     exact .self (Q2z (Qkz _ _) q)
    refine hgs.borrow hbor.all.1 hbor.all.2 (by rintro v H' ⟨rfl, g, rfl, _⟩; exact ⟨rfl, fun r row hr => by simp at hr⟩) ?_
    rintro v H' ⟨rfl, g, rfl, g1, g2, g3⟩
    simp only [ren, renH, List.map_nil, List.append_nil]
    rw [QYz, ← u2] at g1 g2
    (refine Zo ?_;repeat' ((with_reducible first|refine Zk ?_|(first|apply Za|apply Zb|apply Zc|apply Zd)<;>intro h)<;>try simp -implicitDefEqProofs (maxSteps:=9^7) (disch:=first|omega|(simp only [lens];omega)) only [go_sem]))
    have htk := take_spec (q := g) (v := dg B32 V) hru (j := i) (by omega) (by omega) hWL (Xxz V) g3
    rw [hVl, QYz, ← u2] at htk
    refine htk.mono ?_
    rintro r H' ⟨W', b', rfl, rfl, hb', t1, t2, t3, t4, t5⟩
    have hru' : Qcz (H.set X.length (some (⟨59, 1, nats .u32 W'⟩ : Row))) X.length = some ⟨59, 1, nats .u32 W'⟩ := Qez hru
    have hrq' : ∀ z, Qcz (H.set X.length z) (X.length + 1) = some ⟨59, 1, nats .u32 Q⟩ := fun z => by rw [Qdz _ (by omega)]; exact hrq
    have hset : ∀ (z z' : Option Row), (H.set X.length z).set X.length z' = H.set X.length z' := fun z z' => List.set_set ..
    have hUM : lv B32 (W.drop i) / V < B32 := Nat.div_lt_of_lt_mul (by rw [Nat.mul_comm]; exact u1)
    have hp1 : ∀ W'' : List Nat, Lim W'' → W''.length = W.length → lv B32 ((W''.drop i).take (k + 2 + 1)) < B32 ^ (k + 2 + 1) := fun W'' h1 h2 => by
     have := XXz (l := W''.drop i) (b := B32) (fun x hx => h1 x (List.mem_of_mem_drop hx)) (k + 2 + 1) (by rw [List.length_drop]; omega)
     exact this
    have hVM : V ≤ B32 ^ (k + 2 + 1) := Nat.le_trans (Nat.le_of_lt n1) (Nat.pow_le_pow_right (by decide) (by omega))
    have hset2 : ∀ W'' : List Nat, Lim W'' → W''.length = W.length → W''.take i = W.take i → W''.drop (i + (k + 2 + 1)) = W.drop (i + (k + 2 + 1)) → lv B32 ((W''.drop i).take (k + 2 + 1)) = lv B32 (W.drop i) % V →
      lv B32 ((Q.set i (lv B32 (W.drop i) / V)).drop i) * (B32 ^ i * V) + lv B32 W'' = A ∧ lv B32 (W''.drop i) < V := fun W'' h1 h2 h3 h4 h5 =>
     dm_step (b := B32) (by decide) hWL (Nat.le_of_lt n1) hV0 (by omega) hlt h2 h3 h4 h5 (by omega) hinv
    have fin : ∀ W'' : List Nat, Lim W'' → W''.length = W.length → W''.take i = W.take i → W''.drop (i + (k + 2 + 1)) = W.drop (i + (k + 2 + 1)) → lv B32 ((W''.drop i).take (k + 2 + 1)) = lv B32 (W.drop i) % V → ∀ P : Prop,
      (∀ (Q' : List Nat) (H'' : Heap), Q' = Q.set i (lv B32 (W.drop i) / V) → H'' = (H.set X.length (some (⟨59, 1, nats .u32 W''⟩ : Row))).set (X.length + 1) (some ⟨59, 1, nats .u32 Q'⟩) → W''.length = m + 1 → Q'.length = m - (k + 2) + 1 → Lim Q' → lv B32 (Q'.drop i) * (B32 ^ i * V) + lv B32 W'' = A → lv B32 (W''.drop i) < V →
       Qcz H'' X.length = some ⟨59, 1, nats .u32 W''⟩ → Qcz H'' (X.length + 1) = some ⟨59, 1, nats .u32 Q'⟩ → P) → P := fun W'' h1 h2 h3 h4 h5 P hP => by
     obtain ⟨f1, f2⟩ := hset2 W'' h1 h2 h3 h4 h5
     refine hP _ _ rfl rfl (by omega) (by rw [List.length_set]; exact hQl) (Lim.set hQL _ hUM) f1 f2 ?_ ?_
     ·rw [Qdz _ (by omega)]; exact Qez hru
     ·exact Qez (hrq' _)
    have gl : g < 4294967296 := g3
    have hwl : ∀ x : Nat, x < 4294967296 → IntKind.wrap .u32 (x : Int) = ((x : Nat) : Int) := fun x hx => by rw [Qfvz, Nat.mod_eq_of_lt hx]
    obtain rfl | rfl : b' = 0 ∨ b' = 1 := by omega
    ·rw [Nat.mul_zero, Nat.add_zero] at t5
     obtain ⟨d1, d2⟩ := dm_q0 hV0 g1 t5
     have hb0 : ((0 : Nat) == 1) = false := rfl
     refine fin W' t2 (by omega) t3 t4 d2 _ fun Q' H'' hQ' hH'' k1 k2 k3 k4 k5 k6 k7 => ?_
     rw [← d1] at hQ'
     have hw := hwl g gl
     (refine Zo ?_;repeat' ((with_reducible first|refine Zk ?_|(first|apply Za|apply Zb|apply Zc|apply Zd)<;>intro h)<;>try simp -implicitDefEqProofs (maxSteps:=9^7) (disch:=first|omega|(simp only [lens];omega)) only [go_sem, hb0, hrq', hw, Xkz]))
     subst hQ' hH''
     exact ⟨i, by omega, i, W', Q.set i g, (by (repeat' apply And.intro) <;> (first | rfl | omega | (congr 1; omega) | assumption | (congr 1; assumption)))⟩
    ·rw [Nat.mul_one] at t5
     have hb0 : ((1 : Nat) == 1) = true := rfl
     have hg1 : 1 ≤ g := by
      refine Nat.pos_of_ne_zero fun h => ?_
      rw [h, Nat.zero_mul, Nat.add_zero] at t5
      have := hp1 W' t2 (by omega)
      omega
     have e4 : ((g : Int) - 1) = ((g - 1 : Nat) : Int) := by omega
     (refine Zo ?_;repeat' ((with_reducible first|refine Zk ?_|(first|apply Za|apply Zb|apply Zc|apply Zd)<;>intro h)<;>try simp -implicitDefEqProofs (maxSteps:=9^7) (disch:=first|omega|(simp only [lens];omega)) only [go_sem, hb0, e4]))
     have hbk := back_spec (v := dg B32 V) hru' (j := i) (by omega) (by omega) t2 (Xxz V)
     rw [hVl, QYz] at hbk
     refine hbk.mono ?_
     rintro r2 H2 ⟨W2, c2, rfl, s1, s2, s3, s4, s5⟩
     obtain ⟨d1, d2⟩ := dm_q1 hV0 hVM g1 g2 t5 (hp1 W' t2 (by omega)) s5 (hp1 W2 s2 (by omega))
     refine fin W2 s2 (by omega) (by rw [s3, t3]) (by rw [s4]; exact t4) d2 _ fun Q' H'' hQ' hH'' k1 k2 k3 k4 k5 k6 k7 => ?_
     have d3 : lv B32 (W.drop i) / V = g - 1 := by omega
     rw [d3] at hQ'
     have hw := hwl (g - 1) (by omega)
     (refine Zo ?_;repeat' ((with_reducible first|refine Zk ?_|(first|apply Za|apply Zb|apply Zc|apply Zd)<;>intro h)<;>try simp -implicitDefEqProofs (maxSteps:=9^7) (disch:=first|omega|(simp only [lens];omega)) only [go_sem, hset, hrq', e4, hw, Xkz]))
     subst hQ' hH''
     exact ⟨i, by omega, i, W2, Q.set i (g - 1), (by (repeat' apply And.intro) <;> (first | rfl | omega | (congr 1; omega) | assumption | (congr 1; assumption)))⟩
   ·obtain rfl : j = 0 := by omega
    simp only [List.drop_zero, Nat.pow_zero, Nat.one_mul] at hinv hlt
    rw [hAA] at hinv
    obtain ⟨f1, f2⟩ := dm_end hV (Nat.two_pow_pos s) h0 hinv hlt
    (refine Zo ?_;repeat' ((with_reducible first|refine Zk ?_|(first|apply Za|apply Zb|apply Zc|apply Zd)<;>intro h)<;>try simp -implicitDefEqProofs (maxSteps:=9^7) (disch:=first|omega|(simp only [lens];omega)) only [go_sem]))
    refine Fc.isN (Qafz Q (by omega) hQL) (by rw [← hQl]; exact Qlrz hrq (Qkz _ _)) fun vq Y hvq => ?_
    (refine Zo ?_;repeat' ((with_reducible first|refine Zk ?_|(first|apply Za|apply Zb|apply Zc|apply Zd)<;>intro h)<;>try simp -implicitDefEqProofs (maxSteps:=9^7) (disch:=first|omega|(simp only [lens];omega)) only [go_sem]))
    refine (Qbxz W (by omega) hWL).call (by rw [← hWl]; exact Qlrz (Qaz hru _) (Qkz _ _)) (Yfz _) ?_
    (refine Zo ?_;repeat' ((with_reducible first|refine Zk ?_|(first|apply Za|apply Zb|apply Zc|apply Zd)<;>intro h)<;>try simp -implicitDefEqProofs (maxSteps:=9^7) (disch:=first|omega|(simp only [lens];omega)) only [go_sem]))
    have hwle : (dg B32 (lv B32 W)).length ≤ m + 1 := hWl ▸ Yzz hWL
    refine Fc.isN (Shr_spec (dg B32 (lv B32 W)) s (by omega) (Xxz _) (by omega)) ⟨.self (QMz _), .self rfl, trivial⟩ fun vr Z hvr => ?_
    rw [QYz, f2] at hvr
    rw [f1] at hvq
    (refine Zo ?_;repeat' ((with_reducible first|refine Zk ?_|(first|apply Za|apply Zb|apply Zc|apply Zd)<;>intro h)<;>try simp -implicitDefEqProofs (maxSteps:=9^7) (disch:=first|omega|(simp only [lens];omega)) only [go_sem]))
    exact Gd.ret (Gd.tupL ⟨(hvq.gd).more (by rw [← List.append_assoc]; exact Keep.app _ _), by rw [List.append_assoc] at hvr; exact hvr.gd, .leaf _ rfl rfl, trivial⟩)
  ·refine ⟨m - (k + 2) + 1, W0, List.replicate (m - (k + 2) + 1) 0, Nat.le_refl _, w1, w2, by simp, fun x hx => by rw [(List.mem_replicate.1 hx).2]; decide, ?_, ?_, rfl, ?_, ?_, rfl, rfl, rfl, rfl, rfl, rfl⟩
   ·rw [List.drop_eq_nil_of_le (by simp)]; simp [lv, w3]
   ·rw [Qkzz (b := B32) (by decide) w2, w3]; exact hfst
   ·simp [Qcz]
   ·simp [Qcz, List.replicate_succ]
end Go.Proofs.YtjdbdmhjakfldaaGreat
end
section
namespace Go.Proofs.YtjdbdmhjakfldaaGreat
open Go.Bv
theorem dg32_pos {x : Nat} (h : 0 < x) : 0 < (dg B32 x).length := by rw [Znz (by decide) h]; simp
theorem Qizz {x y : Nat} (h : x ≤ y) : (dg B32 x).length ≤ (dg B32 y).length := Q7z (by decide) _ _ (Nat.lt_of_le_of_lt h (Xwz (by decide) y))
theorem Qnez (x y : Nat) : Nat.gcd y (x % y) = Nat.gcd x y := by rw [Nat.gcd_comm x y, Nat.gcd_rec y x, Nat.gcd_comm]
theorem Qqaz (x y : Nat) (hx : (dg B32 x).length ≤ 1099511627776) (hy : (dg B32 y).length ≤ 1099511627776) (h0 : 0 < y) : Val C 158 [natV x, natV y] (.tup [natV (x / y), natV (x % y), .int .i64 0]) := by
 have h := Qeiz (dg B32 x) (dg B32 y) hx hy (Xxz _) (Xxz _) (by rw [QYz]; exact h0)
 rw [QYz, QYz] at h
 exact h
theorem gcd_spec (a b : List Nat) (ha : a.length ≤ 1000000000000) (hb : b.length ≤ 1000000000000) (hA : Lim a) (hB : Lim b) : Pu C 129 [NA a, NA b] (natV (Nat.gcd (lv B32 a) (lv B32 b))) := by
 have la := Yzz hA
 have lb := Yzz hB
 refine Fc.keep (Fc.bodyT Qgz Tryz.func129 w129 rfl Tryz.ntmps129 Tryz.results129 (zLe rfl) ?_)
 (refine Zo ?_;repeat' ((with_reducible first|refine Zk ?_|(first|apply Za|apply Zb|apply Zc|apply Zd)<;>intro h)<;>try simp -implicitDefEqProofs (maxSteps:=9^7) (disch:=first|omega|(simp only [lens];omega)) only [go_sem]))
 refine (Qbxz a (by omega) hA).call ⟨.self (QMz _), trivial⟩ (Yfz _) ?_
 (refine Zo ?_;repeat' ((with_reducible first|refine Zk ?_|(first|apply Za|apply Zb|apply Zc|apply Zd)<;>intro h)<;>try simp -implicitDefEqProofs (maxSteps:=9^7) (disch:=first|omega|(simp only [lens];omega)) only [go_sem]))
 refine (Qbxz b (by omega) hB).call ⟨.self (QMz _), trivial⟩ (Yfz _) ?_
 (refine Zo ?_;repeat' ((with_reducible first|refine Zk ?_|(first|apply Za|apply Zb|apply Zc|apply Zd)<;>intro h)<;>try simp -implicitDefEqProofs (maxSteps:=9^7) (disch:=first|omega|(simp only [lens];omega)) only [go_sem]))
 refine Qfz (fun n ts H => ∃ (x : Nat) (y : Nat), (Nat.gcd x y = Nat.gcd (lv B32 a) (lv B32 b)) ∧ ((dg B32 x).length ≤ 1000000000000) ∧ ((dg B32 y).length ≤ 1000000000000) ∧ (H = []) ∧ (n = y) ∧ ts.length = 25 ∧ nth ts 0 = natV x ∧ nth ts 1 = natV y) ?_ (n := lv B32 b) ?_
 ·skip
  rintro n ts H ⟨x, y, hg, hx, hy, hH, hn, hL, hs0, hs1⟩
  refine Qsz [(0, natV x), (1, natV y)] hL (by simp only [zFm, hs0, hs1, true_and]; exact zNm) ?_
  clear hL hs0 hs1 ts
  refine Qrz Qgz ?_
  subst hH
  by_cases hcase : 0 < y
  ·have hp := dg32_pos hcase
   have hlt := Nat.mod_lt x hcase
   have hm := Qizz (Nat.le_of_lt hlt)
   have hg' := Qnez x y
   (refine Zo ?_;repeat' ((with_reducible first|refine Zk ?_|(first|apply Za|apply Zb|apply Zc|apply Zd)<;>intro h)<;>try simp -implicitDefEqProofs (maxSteps:=9^7) (disch:=first|omega|(simp only [lens];omega)) only [go_sem]))
   refine (Qqaz x y (by omega) (by omega) hcase).call ⟨.self (QMz _), .self (QMz _), trivial⟩ (by simp [clo, cloL, Yfz]) ?_
   rw [hg] at hg'
   generalize x % y = z at *
   (refine Zo ?_;repeat' ((with_reducible first|refine Zk ?_|(first|apply Za|apply Zb|apply Zc|apply Zd)<;>intro h)<;>try simp -implicitDefEqProofs (maxSteps:=9^7) (disch:=first|omega|(simp only [lens];omega)) only [go_sem]))
   exact ⟨z, by omega, y, z, (by (repeat' apply And.intro) <;> (first | rfl | omega | (congr 1; omega) | assumption | (congr 1; assumption)))⟩
  ·obtain rfl : y = 0 := by omega
   have h00 : (dg B32 0).length = 0 := by rw [QLz]; rfl
   (refine Zo ?_;repeat' ((with_reducible first|refine Zk ?_|(first|apply Za|apply Zb|apply Zc|apply Zd)<;>intro h)<;>try simp -implicitDefEqProofs (maxSteps:=9^7) (disch:=first|omega|(simp only [lens];omega)) only [go_sem]))
   rw [Nat.gcd_zero_right] at hg
   refine Qoz (fun g => ren_NA g _) ?_
   rw [← hg]; rfl
 ·exact ⟨lv B32 a, lv B32 b, rfl, by omega, by omega, rfl, rfl, rfl, rfl, rfl⟩
theorem one_val : Val C 96 [] (natV 1) := by
 refine Fc.keep (Fc.bodyT Qgz Tryz.func96 w96 rfl Tryz.ntmps96 Tryz.results96 (zLe rfl) ?_)
 (refine Zo ?_;repeat' ((with_reducible first|refine Zk ?_|(first|apply Za|apply Zb|apply Zc|apply Zd)<;>intro h)<;>try simp -implicitDefEqProofs (maxSteps:=9^7) (disch:=first|omega|(simp only [lens];omega)) only [go_sem]))
 refine Fc.isN (Qhbz 1 (by decide)) ⟨.self rfl, trivial⟩ fun v X hv => ?_
 (refine Zo ?_;repeat' ((with_reducible first|refine Zk ?_|(first|apply Za|apply Zb|apply Zc|apply Zd)<;>intro h)<;>try simp -implicitDefEqProofs (maxSteps:=9^7) (disch:=first|omega|(simp only [lens];omega)) only [go_sem]))
 exact Gd.ret hv.gd
theorem by_val (a b : List Nat) (ha : a.length ≤ 1099511627776) (hb : b.length ≤ 1099511627776) (hA : Lim a) (hB : Lim b) (h0 : 0 < lv B32 b) : Val C 131 [NA a, NA b] (natV (lv B32 a / lv B32 b)) := by
 refine Fc.keep (Fc.bodyT Qgz Tryz.func131 w131 rfl Tryz.ntmps131 Tryz.results131 (zLe rfl) ?_)
 (refine Zo ?_;repeat' ((with_reducible first|refine Zk ?_|(first|apply Za|apply Zb|apply Zc|apply Zd)<;>intro h)<;>try simp -implicitDefEqProofs (maxSteps:=9^7) (disch:=first|omega|(simp only [lens];omega)) only [go_sem]))
 refine (Qeiz a b ha hb hA hB h0).kept ⟨.self (QMz _), .self (QMz _), trivial⟩ fun v X hv => ?_
 obtain ⟨q, r, e, rfl, hq, _, _⟩ := hv.tup3
 (refine Zo ?_;repeat' ((with_reducible first|refine Zk ?_|(first|apply Za|apply Zb|apply Zc|apply Zd)<;>intro h)<;>try simp -implicitDefEqProofs (maxSteps:=9^7) (disch:=first|omega|(simp only [lens];omega)) only [go_sem]))
 exact Gd.ret hq
end Go.Proofs.YtjdbdmhjakfldaaGreat
end
section
namespace Go.Proofs.YtjdbdmhjakfldaaGreat
open Go.Bv
theorem Qpuz (a b : Nat) (ha : dlen a ≤ 100000000000) (hb : dlen b ≤ 100000000000) : Pu C 119 [DV a, DV b] (DV (Nat.gcd a b)) := by
 refine Fc.keep (Fc.bodyT Qgz Tryz.func119 w119 rfl Tryz.ntmps119 Tryz.results119 (zLe rfl) ?_)
 (refine Zo ?_;repeat' ((with_reducible first|refine Zk ?_|(first|apply Za|apply Zb|apply Zc|apply Zd)<;>intro h)<;>try simp -implicitDefEqProofs (maxSteps:=9^7) (disch:=first|omega|(simp only [lens];omega)) only [go_sem]))
 refine Qfz (fun n ts H => ∃ (x : Nat) (y : Nat), (Nat.gcd x y = Nat.gcd a b) ∧ (dlen x ≤ 100000000000) ∧ (dlen y ≤ 100000000000) ∧ (H = []) ∧ (n = y) ∧ ts.length = 19 ∧ nth ts 0 = DV x ∧ nth ts 1 = DV y) ?_ (n := b) ?_
 ·skip
  rintro n ts H ⟨x, y, hg, hx, hy, hH, hn, hL, hs0, hs1⟩
  refine Qsz [(0, DV x), (1, DV y)] hL (by simp only [zFm, hs0, hs1, true_and]; exact zNm) ?_
  clear hL hs0 hs1 ts
  refine Qrz Qgz ?_
  subst hH
  have ly : (dg D10 y).length = dlen y := rfl
  by_cases hcase : 0 < y
  ·have hp : dlen y ≠ 0 := fun h => by have := dlen_zero.1 h; omega
   have hlt := Nat.mod_lt x hcase
   have hm := Xcz (Nat.le_of_lt hlt)
   have hg' := Qnez x y
   (refine Zo ?_;repeat' ((with_reducible first|refine Zk ?_|(first|apply Za|apply Zb|apply Zc|apply Zd)<;>intro h)<;>try simp -implicitDefEqProofs (maxSteps:=9^7) (disch:=first|omega|(simp only [lens];omega)) only [go_sem]))
   refine (YTz x y hx hy hcase).call ⟨.self (QIz _), .self (QIz _), trivial⟩ (by simp [clo, cloL, QIz]) ?_
   rw [hg] at hg'
   generalize x % y = z at *
   (refine Zo ?_;repeat' ((with_reducible first|refine Zk ?_|(first|apply Za|apply Zb|apply Zc|apply Zd)<;>intro h)<;>try simp -implicitDefEqProofs (maxSteps:=9^7) (disch:=first|omega|(simp only [lens];omega)) only [go_sem]))
   exact ⟨z, by omega, y, z, (by (repeat' apply And.intro) <;> (first | rfl | omega | (congr 1; omega) | assumption | (congr 1; assumption)))⟩
  ·obtain rfl : y = 0 := by omega
   have hz := dlen_zero.2 (rfl : (0 : Nat) = 0)
   have hz2 : (dg D10 0).length = dlen 0 := rfl
   (refine Zo ?_;repeat' ((with_reducible first|refine Zk ?_|(first|apply Za|apply Zb|apply Zc|apply Zd)<;>intro h)<;>try simp -implicitDefEqProofs (maxSteps:=9^7) (disch:=first|omega|(simp only [lens];omega)) only [go_sem]))
   rw [Nat.gcd_zero_right] at hg
   refine Qoz (fun g => by simp [ren, Xjz]) ?_
   rw [← hg]; rfl
 ·exact ⟨a, b, rfl, ha, hb, rfl, rfl, rfl, rfl, rfl⟩
end Go.Proofs.YtjdbdmhjakfldaaGreat
end
section
namespace Go.Proofs.YtjdbdmhjakfldaaGreat
open Go.Bv
def refV (r : Rq) : V := .agg [.bool r.neg, DV r.num, DV r.den]
def rawV (x : Raw) : V := .agg [.bool x.neg, NA x.num, NA x.den]
def ratV (r : Rq) : V := .agg [.bool r.neg, natV r.num, natV r.den]
attribute [go_sem] refV rawV ratV
theorem Qcjz (r : Rq) : clo (refV r) = true := by simp [refV, clo, cloL, QIz]
theorem XHz (x : Raw) : clo (rawV x) = true := by simp [rawV, clo, cloL, QMz]
theorem Qgtz (r : Rq) : clo (ratV r) = true := XHz (Xpz r)
theorem dg_one (b : Nat) (hb : 1 < b) : dg b 1 = [1] := by
 rw [Znz hb (by decide), Nat.mod_eq_of_lt hb, Nat.div_eq_of_lt hb, QLz]
theorem Qnrz : DV 1 = .sl 1 [.int .i64 1] := by rw [DV, dg_one _ Qagz]; rfl
theorem DV_zero : DV 0 = .sl 0 [] := by rw [DV, QLz]; rfl
theorem natV_zero : natV 0 = .sl 0 [] := by rw [natV, QLz]; rfl
theorem gd_dv0 {H : Heap} : Gd H .nil (DV 0) := by rw [DV_zero]; exact .nil _
theorem Qncz {H : Heap} : Gd H .nil (natV 0) := by rw [natV_zero]; exact .nil _
theorem gd_b {H : Heap} (b : Bool) : Gd H (.bool b) (.bool b) := .leaf _ rfl rfl
theorem gd_i {H : Heap} (k : IntKind) (n : Int) : Gd H (.int k n) (.int k n) := .leaf _ rfl rfl
theorem Qmiz {k : IntKind} (b : Bool) (l m : List Nat) : ∃ v H, Gd H v (.agg [.bool b, .sl l.length (nats k l), .sl m.length (nats k m)]) ∧ Xhz H :=
 ⟨.agg [.bool b, .ref 0 0 l.length, .ref 1 0 m.length], [some ⟨0, 1, nats k l⟩, some ⟨0, 1, nats k m⟩], Gd.aggL ⟨gd_b b, .flat 0 _ 0 1 _ rfl (Qkz _ _) (Qzz _ _), .flat 1 _ 0 1 _ rfl (Qkz _ _) (Qzz _ _), trivial⟩, fun r row hr => by
  match r, hr with
  | 0, hr => simp at hr; subst hr; exact Qzz _ _
  | 1, hr => simp at hr; subst hr; exact Qzz _ _
  | r + 2, hr => simp at hr⟩
theorem Qhqz (r : Rq) : ∃ v H, Gd H v (refV r) ∧ Xhz H := Qmiz (k := .i64) r.neg (dg D10 r.num) (dg D10 r.den)
theorem Qhsz (x : Raw) : ∃ v H, Gd H v (rawV x) ∧ Xhz H := Qmiz (k := .u32) x.neg x.num x.den
theorem Qhtz (r : Rq) : ∃ v H, Gd H v (ratV r) ∧ Xhz H := Qhsz (Xpz r)
theorem Qhcz (l : List Nat) : ∃ v H, Gd H v (NA l) ∧ Xhz H := Gd.some_sl (Qkz _ _) (Qzz _ _)
theorem QJz {H : Heap} {v : V} {n : Nat} {cs : List V} (h : Gd H v (.sl n cs)) : kn v = true ∧ cellsOf v = [v] ∧ scal v = true := by
 generalize hu : V.sl n cs = u at h
 cases h with
 | leaf v hc hp => subst hu; exact ⟨rfl, rfl, rfl⟩
 | nil cs => exact ⟨rfl, rfl, rfl⟩
 | ref r n row cs hr hp hl h => exact ⟨rfl, rfl, rfl⟩
 | agg l m hl h => cases hu
 | tup l m hl h => cases hu
theorem Qkyz (s : Bool) (p q : Nat) (hp : dlen p ≤ 30000000000) (hq : dlen q ≤ 30000000000) : Val C 101 [.bool s, DV p, DV q] (refV (Y2z s p q)) := by
 have lp : (dg D10 p).length = dlen p := rfl
 have lq : (dg D10 q).length = dlen q := rfl
 have hp0 : p = 0 ↔ dlen p = 0 := dlen_zero.symm
 have hq0 : q = 0 ↔ dlen q = 0 := dlen_zero.symm
 refine Fc.keep (Fc.bodyT Qgz Tryz.func101 w101 rfl Tryz.ntmps101 Tryz.results101 (zLe rfl) ?_)
 (refine Zo ?_;repeat' ((with_reducible first|refine Zk ?_|(first|apply Za|apply Zb|apply Zc|apply Zd)<;>intro h)<;>try simp -implicitDefEqProofs (maxSteps:=9^7) (disch:=first|omega|(simp only [lens];omega)) only [go_sem]))
 ·rw [XWz (.inl (by omega))]
  refine Gd.ret (Gd.aggL ⟨gd_b _, gd_dv0, ?_, trivial⟩)
  rw [Qnrz]
  exact .flat _ _ _ _ _ rfl rfl rfl
 ·rw [XWz (.inr (by omega))]
  refine Gd.ret (Gd.aggL ⟨gd_b _, gd_dv0, ?_, trivial⟩)
  rw [Qnrz]
  exact .flat _ _ _ _ _ rfl rfl rfl
 ·have hpq : ¬ (p = 0 ∨ q = 0) := by omega
  have hg := Qgoz hpq
  rw [Qiiz hpq]
  refine Fc.pure (Qpuz p q (by omega) (by omega)) (by simp [cloL, clo, Qkz]) (fun g => by simp [DV, DA, ren, Xjz]) ?_
  have hgl : dlen (Nat.gcd p q) ≤ dlen p := Xcz (Nat.gcd_le_left _ (by omega))
  generalize Nat.gcd p q = g at *
  (refine Zo ?_;repeat' ((with_reducible first|refine Zk ?_|(first|apply Za|apply Zb|apply Zc|apply Zd)<;>intro h)<;>try simp -implicitDefEqProofs (maxSteps:=9^7) (disch:=first|omega|(simp only [lens];omega)) only [go_sem]))
  refine (YTz p g (by omega) (by omega) hg).keptF ⟨.self (QIz _), .self (QIz _), trivial⟩ fun v X hv => ?_
  obtain ⟨v1, v2, rfl, hv1, hv2⟩ := hv.tup2
  (refine Zo ?_;repeat' ((with_reducible first|refine Zk ?_|(first|apply Za|apply Zb|apply Zc|apply Zd)<;>intro h)<;>try simp -implicitDefEqProofs (maxSteps:=9^7) (disch:=first|omega|(simp only [lens];omega)) only [go_sem]))
  refine (YTz q g (by omega) (by omega) hg).keptF ⟨.self (QIz _), .self (QIz _), trivial⟩ fun w Y hw => ?_
  obtain ⟨w1, w2, rfl, hw1, hw2⟩ := hw.tup2
  obtain ⟨k1, c1, s1⟩ := QJz hv1.gd
  obtain ⟨k2, c2, s2⟩ := QJz hw1.gd
  (refine Zo ?_;repeat' ((with_reducible first|refine Zk ?_|(first|apply Za|apply Zb|apply Zc|apply Zd)<;>intro h)<;>try simp -implicitDefEqProofs (maxSteps:=9^7) (disch:=first|omega|(simp only [lens];omega)) only [go_sem, k1, c1, s1, k2, c2, s2]))
  exact Gd.ret (Gd.aggL ⟨gd_b _, ((hv1.app Y).set (q := 0) (by decide) _).gd, (hw1.set (q := 0) (by simp) _).gd, trivial⟩)
theorem Qdgz (x : Raw) (h : RawOK x) : Val C 76 [rawV x] (refV (valQ x)) := by
 have h1 := h.n1
 have h2 := h.d1
 refine Fc.keep (Fc.bodyT Qgz Tryz.func76 w76 rfl Tryz.ntmps76 Tryz.results76 (zLe rfl) ?_)
 (refine Zo ?_;repeat' ((with_reducible first|refine Zk ?_|(first|apply Za|apply Zb|apply Zc|apply Zd)<;>intro h)<;>try simp -implicitDefEqProofs (maxSteps:=9^7) (disch:=first|omega|(simp only [lens];omega)) only [go_sem]))
 refine (Qdfz x.num (by omega) h.nL).pc ⟨.self (QMz _), trivial⟩ (QIz _) ?_
 (refine Zo ?_;repeat' ((with_reducible first|refine Zk ?_|(first|apply Za|apply Zb|apply Zc|apply Zd)<;>intro h)<;>try simp -implicitDefEqProofs (maxSteps:=9^7) (disch:=first|omega|(simp only [lens];omega)) only [go_sem]))
 refine (Qdfz x.den (by omega) h.dL).pc ⟨.self (QMz _), trivial⟩ (QIz _) ?_
 (refine Zo ?_;repeat' ((with_reducible first|refine Zk ?_|(first|apply Za|apply Zb|apply Zc|apply Zd)<;>intro h)<;>try simp -implicitDefEqProofs (maxSteps:=9^7) (disch:=first|omega|(simp only [lens];omega)) only [go_sem]))
 refine Pc.keptF (Qkyz x.neg (lv B32 x.num) (lv B32 x.den) h.p h.q) (Qhqz _) ⟨.self rfl, .self (QIz _), .self (QIz _), trivial⟩ fun v X hv => ?_
 obtain ⟨v1, v2, v3, rfl, hv1, hv2, hv3⟩ := hv.agg3
 obtain ⟨k2, c2, s2⟩ := QJz hv2.gd
 obtain ⟨k3, c3, s3⟩ := QJz hv3.gd
 have e1 := hv1.gd.bool_inv
 subst e1
 (refine Zo ?_;repeat' ((with_reducible first|refine Zk ?_|(first|apply Za|apply Zb|apply Zc|apply Zd)<;>intro h)<;>try simp -implicitDefEqProofs (maxSteps:=9^7) (disch:=first|omega|(simp only [lens];omega)) only [go_sem, k2, c2, s2, k3, c3, s3]))
 exact Gd.ret (Gd.aggL ⟨gd_b _, (hv2.set (q := 1) (by simp) _).gd, (hv3.set (q := 1) (by simp) _).gd, trivial⟩)
theorem Qlvz (r : Rq) (h : RqOK r) : Val C 109 [refV r] (ratV r) := by
 have h1 := h.n1
 have h2 := h.d1
 refine Fc.keep (Fc.bodyT Qgz Tryz.func109 w109 rfl Tryz.ntmps109 Tryz.results109 (zLe rfl) ?_)
 (refine Zo ?_;repeat' ((with_reducible first|refine Zk ?_|(first|apply Za|apply Zb|apply Zc|apply Zd)<;>intro h)<;>try simp -implicitDefEqProofs (maxSteps:=9^7) (disch:=first|omega|(simp only [lens];omega)) only [go_sem]))
 refine Pc.keptF (Qfgz r.num (by omega)) (Qhcz _) ⟨.self (QIz _), trivial⟩ fun v X hv => ?_
 obtain ⟨k1, c1, s1⟩ := QJz hv.gd
 (refine Zo ?_;repeat' ((with_reducible first|refine Zk ?_|(first|apply Za|apply Zb|apply Zc|apply Zd)<;>intro h)<;>try simp -implicitDefEqProofs (maxSteps:=9^7) (disch:=first|omega|(simp only [lens];omega)) only [go_sem, k1, c1, s1]))
 refine Pc.keptF (Qfgz r.den (by omega)) (Qhcz _) ⟨.self (QIz _), trivial⟩ fun w Y hw => ?_
 obtain ⟨k2, c2, s2⟩ := QJz hw.gd
 (refine Zo ?_;repeat' ((with_reducible first|refine Zk ?_|(first|apply Za|apply Zb|apply Zc|apply Zd)<;>intro h)<;>try simp -implicitDefEqProofs (maxSteps:=9^7) (disch:=first|omega|(simp only [lens];omega)) only [go_sem, k1, c1, s1, k2, c2, s2]))
 exact Gd.ret (Gd.aggL ⟨gd_b _, ((hv.app Y).set (q := 1) (by simp) _).gd, (hw.set (q := 1) (by simp) _).gd, trivial⟩)
theorem is03_spec (r : Rq) (x : Raw) (hr : RqOK r) (hx : RawOK x) : Pu C 69 [refV r, rawV x] (.bool (isQ r x)) := by
 have h1 := hx.n1
 have h2 := hx.d1
 have h3 := hr.n1
 have h4 := hr.d1
 refine Fc.keep (Fc.bodyT Qgz Tryz.func69 w69 rfl Tryz.ntmps69 Tryz.results69 (zLe rfl) ?_)
 (refine Zo ?_;repeat' ((with_reducible first|refine Zk ?_|(first|apply Za|apply Zb|apply Zc|apply Zd)<;>intro h)<;>try simp -implicitDefEqProofs (maxSteps:=9^7) (disch:=first|omega|(simp only [lens];omega)) only [go_sem]))
 ·refine Fc.pure (Qilz r.num x.num (by omega) (by omega) hx.nL) (by simp [cloL, clo, Qkz]) (fun g => rfl) ?_
  (refine Zo ?_;repeat' ((with_reducible first|refine Zk ?_|(first|apply Za|apply Zb|apply Zc|apply Zd)<;>intro h)<;>try simp -implicitDefEqProofs (maxSteps:=9^7) (disch:=first|omega|(simp only [lens];omega)) only [go_sem]))
  ·refine Fc.pure (Qilz r.den x.den (by omega) (by omega) hx.dL) (by simp [cloL, clo, Qkz]) (fun g => rfl) ?_
   (refine Zo ?_;repeat' ((with_reducible first|refine Zk ?_|(first|apply Za|apply Zb|apply Zc|apply Zd)<;>intro h)<;>try simp -implicitDefEqProofs (maxSteps:=9^7) (disch:=first|omega|(simp only [lens];omega)) only [go_sem]))
   (refine Qoz (by intro g; simp only [go_sem, ren, renL]) ?_)
   simp_all [isQ, B32]; rfl
  ·skip
   (refine Qoz (by intro g; simp only [go_sem, ren, renL]) ?_)
   simp_all [isQ, B32]
 ·skip
  (refine Qoz (by intro g; simp only [go_sem, ren, renL]) ?_)
  simp_all [isQ]
theorem Qpfz (x : Raw) (h : RawOK x) : Pu C 62 [rawV x] (.int .i64 (if okR x then 0 else 6)) := by
 refine Fc.keep (Fc.bodyT Qgz Tryz.func62 w62 rfl Tryz.ntmps62 Tryz.results62 (zLe rfl) ?_)
 (refine Zo ?_;repeat' ((with_reducible first|refine Zk ?_|(first|apply Za|apply Zb|apply Zc|apply Zd)<;>intro h)<;>try simp -implicitDefEqProofs (maxSteps:=9^7) (disch:=first|omega|(simp only [lens];omega)) only [go_sem]))
 refine (Qdgz x h).call ⟨.self (XHz _), trivial⟩ (Qcjz _) ?_
 (refine Zo ?_;repeat' ((with_reducible first|refine Zk ?_|(first|apply Za|apply Zb|apply Zc|apply Zd)<;>intro h)<;>try simp -implicitDefEqProofs (maxSteps:=9^7) (disch:=first|omega|(simp only [lens];omega)) only [go_sem]))
 refine Fc.pure (is03_spec (valQ x) x h.val h) (by simp [cloL, clo, Qkz]) (fun g => rfl) ?_
 have e : isQ (valQ x) x = okR x := rfl
 rw [e]
 (refine Zo ?_;repeat' ((with_reducible first|refine Zk ?_|(first|apply Za|apply Zb|apply Zc|apply Zd)<;>intro h)<;>try simp -implicitDefEqProofs (maxSteps:=9^7) (disch:=first|omega|(simp only [lens];omega)) only [go_sem]))
 ·skip
  (refine Qoz (by intro g; simp only [go_sem, ren, renL]) ?_)
  simp_all
 ·skip
  (refine Qoz (by intro g; simp only [go_sem, ren, renL]) ?_)
  simp_all
theorem Qkbz (n : Int) (h1 : -9223372036854775808 ≤ n) (h2 : n < 9223372036854775808) : Val C 84 [.int .i64 n] (DV n.natAbs) := by
 refine Fc.keep (Fc.bodyT Qgz Tryz.func84 w84 rfl Tryz.ntmps84 Tryz.results84 (zLe rfl) ?_)
 (refine Zo ?_;repeat' ((with_reducible first|refine Zk ?_|(first|apply Za|apply Zb|apply Zc|apply Zd)<;>intro h)<;>try simp -implicitDefEqProofs (maxSteps:=9^7) (disch:=first|omega|(simp only [lens];omega)) only [go_sem]))
 ·have e : 0 - (n + 1) = ((n.natAbs - 1 : Nat) : Int) := by omega
  have hl : dlen (n.natAbs - 1) ≤ 16 := XQz (Nat.lt_of_lt_of_le (show n.natAbs - 1 < 9223372036854775808 by omega) (by decide))
  (refine Zo ?_;repeat' ((with_reducible first|refine Zk ?_|(first|apply Za|apply Zb|apply Zc|apply Zd)<;>intro h)<;>try simp -implicitDefEqProofs (maxSteps:=9^7) (disch:=first|omega|(simp only [lens];omega)) only [go_sem, e]))
  refine (Qajz (n.natAbs - 1) (by omega)).call ⟨.self rfl, trivial⟩ (QIz _) ?_
  (refine Zo ?_;repeat' ((with_reducible first|refine Zk ?_|(first|apply Za|apply Zb|apply Zc|apply Zd)<;>intro h)<;>try simp -implicitDefEqProofs (maxSteps:=9^7) (disch:=first|omega|(simp only [lens];omega)) only [go_sem, e]))
  have h1 : dlen 1 ≤ 1 := Nat.le_of_eq Qgqz
  refine (Qftz (n.natAbs - 1) 1 (by omega) (by omega)).kept ⟨.self (QIz _), Gd.bor (by rw [Qnrz]; exact .flat _ _ _ _ _ rfl rfl rfl), trivial⟩ fun v X hv => ?_
  (refine Zo ?_;repeat' ((with_reducible first|refine Zk ?_|(first|apply Za|apply Zb|apply Zc|apply Zd)<;>intro h)<;>try simp -implicitDefEqProofs (maxSteps:=9^7) (disch:=first|omega|(simp only [lens];omega)) only [go_sem]))
  rw [show n.natAbs - 1 + 1 = n.natAbs by omega] at hv
  exact Gd.ret hv
 ·have e : n = ((n.natAbs : Nat) : Int) := by omega
  rw [e, Int.natAbs_natCast]
  refine (Qajz n.natAbs (by omega)).kept ⟨.self rfl, trivial⟩ fun v X hv => ?_
  (refine Zo ?_;repeat' ((with_reducible first|refine Zk ?_|(first|apply Za|apply Zb|apply Zc|apply Zd)<;>intro h)<;>try simp -implicitDefEqProofs (maxSteps:=9^7) (disch:=first|omega|(simp only [lens];omega)) only [go_sem]))
  exact Gd.ret hv
theorem Qpoz (n : Int) (h1 : -9223372036854775808 ≤ n) (h2 : n < 9223372036854775808) : Val C 47 [.int .i64 n] (refV (intQ n)) := by
 refine Fc.keep (Fc.bodyT Qgz Tryz.func47 w47 rfl Tryz.ntmps47 Tryz.results47 (zLe rfl) ?_)
 (refine Zo ?_;repeat' ((with_reducible first|refine Zk ?_|(first|apply Za|apply Zb|apply Zc|apply Zd)<;>intro h)<;>try simp -implicitDefEqProofs (maxSteps:=9^7) (disch:=first|omega|(simp only [lens];omega)) only [go_sem]))
 refine (Qkbz n h1 h2).keptF ⟨.self rfl, trivial⟩ fun v X hv => ?_
 obtain ⟨k1, c1, s1⟩ := QJz hv.gd
 (refine Zo ?_;repeat' ((with_reducible first|refine Zk ?_|(first|apply Za|apply Zb|apply Zc|apply Zd)<;>intro h)<;>try simp -implicitDefEqProofs (maxSteps:=9^7) (disch:=first|omega|(simp only [lens];omega)) only [go_sem, k1, c1, s1]))
 refine Gd.ret (Gd.aggL ⟨gd_b _, ((hv.app _).set (q := 0) (by simp) _).gd, ?_, trivial⟩)
 rw [show (intQ n).den = 1 from rfl, Qnrz]
 exact .flat _ _ _ _ _ (QAz _ _) rfl rfl
theorem Qkfz (x y : Raw) (hx : RawOK x) (hy : RawOK y) : Pu C 38 [rawV x, rawV y] (.bool (Qfyz (valQ x) (valQ y))) := by
 have h1 := hx.val.n1
 have h2 := hx.val.d1
 have h3 := hy.val.n1
 have h4 := hy.val.d1
 have hc : ∀ a b : Nat, cmpN a b = 0 ↔ a = b := fun a b => by unfold cmpN; split <;> (try split) <;> omega
 have hcb : ∀ a b : Nat, (cmpN a b == 0) = decide (a = b) := fun a b => by rw [Bool.eq_iff_iff, beq_iff_eq, decide_eq_true_eq, hc]
 refine Fc.keep (Fc.bodyT Qgz Tryz.func38 w38 rfl Tryz.ntmps38 Tryz.results38 (zLe rfl) ?_)
 (refine Zo ?_;repeat' ((with_reducible first|refine Zk ?_|(first|apply Za|apply Zb|apply Zc|apply Zd)<;>intro h)<;>try simp -implicitDefEqProofs (maxSteps:=9^7) (disch:=first|omega|(simp only [lens];omega)) only [go_sem]))
 refine (Qdgz x hx).pc ⟨.self (XHz _), trivial⟩ (Qcjz _) ?_
 (refine Zo ?_;repeat' ((with_reducible first|refine Zk ?_|(first|apply Za|apply Zb|apply Zc|apply Zd)<;>intro h)<;>try simp -implicitDefEqProofs (maxSteps:=9^7) (disch:=first|omega|(simp only [lens];omega)) only [go_sem]))
 refine (Qdgz y hy).pc ⟨.self (XHz _), trivial⟩ (Qcjz _) ?_
 generalize valQ x = r at *
 generalize valQ y = t at *
 (refine Zo ?_;repeat' ((with_reducible first|refine Zk ?_|(first|apply Za|apply Zb|apply Zc|apply Zd)<;>intro h)<;>try simp -implicitDefEqProofs (maxSteps:=9^7) (disch:=first|omega|(simp only [lens];omega)) only [go_sem]))
 ·refine Fc.pure (YAz r.num t.num (by omega) (by omega)) (by simp [cloL, clo, Qkz]) (fun g => rfl) ?_
  (refine Zo ?_;repeat' ((with_reducible first|refine Zk ?_|(first|apply Za|apply Zb|apply Zc|apply Zd)<;>intro h)<;>try simp -implicitDefEqProofs (maxSteps:=9^7) (disch:=first|omega|(simp only [lens];omega)) only [go_sem]))
  ·refine Fc.pure (YAz r.den t.den (by omega) (by omega)) (by simp [cloL, clo, Qkz]) (fun g => rfl) ?_
   (refine Zo ?_;repeat' ((with_reducible first|refine Zk ?_|(first|apply Za|apply Zb|apply Zc|apply Zd)<;>intro h)<;>try simp -implicitDefEqProofs (maxSteps:=9^7) (disch:=first|omega|(simp only [lens];omega)) only [go_sem]))
   (refine Qoz (by intro g; simp only [go_sem, ren, renL]) ?_)
   simp_all [Qfyz]
  ·skip
   (refine Qoz (by intro g; simp only [go_sem, ren, renL]) ?_)
   simp_all [Qfyz]
 ·skip
  (refine Qoz (by intro g; simp only [go_sem, ren, renL]) ?_)
  simp_all [Qfyz]
theorem Qopz (x : Raw) (h : RawOK x) : Val C 43 [rawV x] (rawV x) := by
 have h1 := h.n1
 have h2 := h.d1
 refine Fc.keep (Fc.bodyT Qgz Tryz.func43 w43 rfl Tryz.ntmps43 Tryz.results43 (zLe rfl) ?_)
 (refine Zo ?_;repeat' ((with_reducible first|refine Zk ?_|(first|apply Za|apply Zb|apply Zc|apply Zd)<;>intro h)<;>try simp -implicitDefEqProofs (maxSteps:=9^7) (disch:=first|omega|(simp only [lens];omega)) only [go_sem]))
 refine Pc.keptF (Qfez x.num (by omega)) (Qhcz _) ⟨.self (QMz _), trivial⟩ fun v X hv => ?_
 obtain ⟨k1, c1, s1⟩ := QJz hv.gd
 (refine Zo ?_;repeat' ((with_reducible first|refine Zk ?_|(first|apply Za|apply Zb|apply Zc|apply Zd)<;>intro h)<;>try simp -implicitDefEqProofs (maxSteps:=9^7) (disch:=first|omega|(simp only [lens];omega)) only [go_sem, k1, c1, s1]))
 refine Pc.keptF (Qfez x.den (by omega)) (Qhcz _) ⟨.self (QMz _), trivial⟩ fun w Y hw => ?_
 obtain ⟨k2, c2, s2⟩ := QJz hw.gd
 (refine Zo ?_;repeat' ((with_reducible first|refine Zk ?_|(first|apply Za|apply Zb|apply Zc|apply Zd)<;>intro h)<;>try simp -implicitDefEqProofs (maxSteps:=9^7) (disch:=first|omega|(simp only [lens];omega)) only [go_sem, k1, c1, s1, k2, c2, s2]))
 exact Gd.ret (Gd.aggL ⟨gd_b _, ((hv.app Y).set (q := 1) (by simp) _).gd, (hw.set (q := 1) (by simp) _).gd, trivial⟩)
end Go.Proofs.YtjdbdmhjakfldaaGreat
end
section
namespace Go.Proofs.YtjdbdmhjakfldaaGreat
open Go.Bv
def Qphz (s : Bool) (p q : Nat) : Rq × Int := if q = 0 then (⟨false, 0, 0⟩, 17) else (Y2z s p q, 0)
theorem Qijz (a : List Nat) (g : Nat) (ha : a.length ≤ 1099511627776) (hA : Lim a) (hg : (dg B32 g).length ≤ 1099511627776) (h0 : 0 < g) : Val C 130 [NA a, .rp [natV g] 0] (natV (lv B32 a / g)) := by
 refine Fc.keep (Fc.bodyT Qgz Tryz.func130 w130 rfl Tryz.ntmps130 Tryz.results130 (zLe rfl) ?_)
 (refine Zo ?_;repeat' ((with_reducible first|refine Zk ?_|(first|apply Za|apply Zb|apply Zc|apply Zd)<;>intro h)<;>try simp -implicitDefEqProofs (maxSteps:=9^7) (disch:=first|omega|(simp only [lens];omega)) only [go_sem]))
 have hb := by_val a (dg B32 g) ha hg hA (Xxz _) (by rw [QYz]; exact h0)
 rw [QYz] at hb
 refine hb.kept ⟨.self (QMz _), .self (QMz _), trivial⟩ fun v X hv => ?_
 (refine Zo ?_;repeat' ((with_reducible first|refine Zk ?_|(first|apply Za|apply Zb|apply Zc|apply Zd)<;>intro h)<;>try simp -implicitDefEqProofs (maxSteps:=9^7) (disch:=first|omega|(simp only [lens];omega)) only [go_sem]))
 exact Gd.ret hv
theorem Qnkz (x : Nat) : (blen x : Int) = 0 ↔ x = 0 := by
 constructor
 ·intro h
  have := Qeez x
  rw [show blen x = 0 by omega] at this
  simpa using this
 ·rintro rfl; simp [Qedz]
theorem make_spec (s : Bool) (a b : List Nat) (ha : a.length ≤ 1000000000000) (hb : b.length ≤ 1000000000000) (hA : Lim a) (hB : Lim b) : Val C 110 [.bool s, NA a, NA b] (.tup [ratV (Qphz s (lv B32 a) (lv B32 b)).1, .int .i64 (Qphz s (lv B32 a) (lv B32 b)).2]) := by
 have ip := Qnkz (lv B32 a)
 have iq := Qnkz (lv B32 b)
 have hla := Yzz hA
 refine Fc.keep (Fc.bodyT Qgz Tryz.func110 w110 rfl Tryz.ntmps110 Tryz.results110 (zLe rfl) ?_)
 (refine Zo ?_;repeat' ((with_reducible first|refine Zk ?_|(first|apply Za|apply Zb|apply Zc|apply Zd)<;>intro h)<;>try simp -implicitDefEqProofs (maxSteps:=9^7) (disch:=first|omega|(simp only [lens];omega)) only [go_sem]))
 refine Fc.pure (Qjyz b (by omega) hB) (by simp [cloL, clo, Qkz]) (fun g => rfl) ?_
 (refine Zo ?_;repeat' ((with_reducible first|refine Zk ?_|(first|apply Za|apply Zb|apply Zc|apply Zd)<;>intro h)<;>try simp -implicitDefEqProofs (maxSteps:=9^7) (disch:=first|omega|(simp only [lens];omega)) only [go_sem]))
 ·rw [Qphz, if_pos (iq.1 h)]
  refine Gd.ret (Gd.tupL ⟨Gd.aggL ⟨gd_b _, Qncz, Qncz, trivial⟩, gd_i _ _, trivial⟩)
 ·have hq0 : ¬ lv B32 b = 0 := fun hh => h (iq.2 hh)
  refine Fc.pure (Qjyz a (by omega) hA) (by simp [cloL, clo, Qkz]) (fun g => rfl) ?_
  rw [Qphz, if_neg hq0]
  (refine Zo ?_;repeat' ((with_reducible first|refine Zk ?_|(first|apply Za|apply Zb|apply Zc|apply Zd)<;>intro h)<;>try simp -implicitDefEqProofs (maxSteps:=9^7) (disch:=first|omega|(simp only [lens];omega)) only [go_sem]))
  ·rw [XWz (.inl (ip.1 ‹_›))]
   refine one_val.keptF trivial fun v X hv => ?_
   obtain ⟨k1, c1, s1⟩ := QJz hv.gd
   (refine Zo ?_;repeat' ((with_reducible first|refine Zk ?_|(first|apply Za|apply Zb|apply Zc|apply Zd)<;>intro h)<;>try simp -implicitDefEqProofs (maxSteps:=9^7) (disch:=first|omega|(simp only [lens];omega)) only [go_sem, k1, c1, s1]))
   refine Gd.ret (Gd.tupL ⟨Gd.aggL ⟨gd_b _, Qncz, (hv.set (q := 0) (by simp) _).gd, trivial⟩, gd_i _ _, trivial⟩)
  ·have hp0 : ¬ lv B32 a = 0 := fun hh => ‹¬ (blen (lv B32 a) : Int) = 0› (ip.2 hh)
   have hpq : ¬ (lv B32 a = 0 ∨ lv B32 b = 0) := by omega
   have hg := Qgoz hpq
   rw [Qiiz hpq]
   refine Fc.pure (gcd_spec a b (by omega) (by omega) hA hB) (by simp [cloL, clo, Qkz]) (fun g => by simp [natV, NA, ren, Xjz]) ?_
   have hgl := Qizz (Nat.gcd_le_left (lv B32 b) (show 0 < lv B32 a by omega))
   generalize Nat.gcd (lv B32 a) (lv B32 b) = g at *
   (refine Zo ?_;repeat' ((with_reducible first|refine Zk ?_|(first|apply Za|apply Zb|apply Zc|apply Zd)<;>intro h)<;>try simp -implicitDefEqProofs (maxSteps:=9^7) (disch:=first|omega|(simp only [lens];omega)) only [go_sem]))
   refine (Qijz a g (by omega) hA (by omega) hg).keptF (ZGz 5 (by simp [go_sem, borV, clo, cloL, Qcz])) fun v X hv => ?_
   obtain ⟨k1, c1, s1⟩ := QJz hv.gd
   (refine Zo ?_;repeat' ((with_reducible first|refine Zk ?_|(first|apply Za|apply Zb|apply Zc|apply Zd)<;>intro h)<;>try simp -implicitDefEqProofs (maxSteps:=9^7) (disch:=first|omega|(simp only [lens];omega)) only [go_sem, k1, c1, s1]))
   refine (Qijz b g (by omega) hB (by omega) hg).keptF (ZGz 5 (by simp [go_sem, borV, clo, cloL, Qcz])) fun w Y hw => ?_
   obtain ⟨k2, c2, s2⟩ := QJz hw.gd
   (refine Zo ?_;repeat' ((with_reducible first|refine Zk ?_|(first|apply Za|apply Zb|apply Zc|apply Zd)<;>intro h)<;>try simp -implicitDefEqProofs (maxSteps:=9^7) (disch:=first|omega|(simp only [lens];omega)) only [go_sem, k1, c1, s1, k2, c2, s2]))
   exact Gd.ret (Gd.tupL ⟨Gd.aggL ⟨gd_b _, ((hv.app Y).set (q := 0) (by simp) _).gd, (hw.set (q := 0) (by simp) _).gd, trivial⟩, gd_i _ _, trivial⟩)
theorem Qmrz (x : Raw) (h : RawOK x) : Val C 91 [rawV x] (ratV (valQ x)) := by
 have h1 := h.n1
 have h2 := h.d1
 have hm := make_spec x.neg x.num x.den (by omega) (by omega) h.nL h.dL
 refine Fc.keep (Fc.bodyT Qgz Tryz.func91 w91 rfl Tryz.ntmps91 Tryz.results91 (zLe rfl) ?_)
 (refine Zo ?_;repeat' ((with_reducible first|refine Zk ?_|(first|apply Za|apply Zb|apply Zc|apply Zd)<;>intro h)<;>try simp -implicitDefEqProofs (maxSteps:=9^7) (disch:=first|omega|(simp only [lens];omega)) only [go_sem]))
 by_cases h0 : lv B32 x.den = 0
 ·rw [Qphz, if_pos h0] at hm
  refine hm.call ⟨.self rfl, .self (QMz _), .self (QMz _), trivial⟩ (by simp [clo, cloL, Qgtz]) ?_
  (refine Zo ?_;repeat' ((with_reducible first|refine Zk ?_|(first|apply Za|apply Zb|apply Zc|apply Zd)<;>intro h)<;>try simp -implicitDefEqProofs (maxSteps:=9^7) (disch:=first|omega|(simp only [lens];omega)) only [go_sem]))
  refine one_val.keptF trivial fun v X hv => ?_
  obtain ⟨k1, c1, s1⟩ := QJz hv.gd
  (refine Zo ?_;repeat' ((with_reducible first|refine Zk ?_|(first|apply Za|apply Zb|apply Zc|apply Zd)<;>intro h)<;>try simp -implicitDefEqProofs (maxSteps:=9^7) (disch:=first|omega|(simp only [lens];omega)) only [go_sem, k1, c1, s1]))
  have e : valQ x = ⟨false, 0, 1⟩ := XWz (.inr h0)
  rw [e]
  exact Gd.ret (Gd.aggL ⟨gd_b _, Qncz, (hv.set (q := 1) (by simp) _).gd, trivial⟩)
 ·rw [Qphz, if_neg h0] at hm
  refine hm.keptF ⟨.self rfl, .self (QMz _), .self (QMz _), trivial⟩ fun v X hv => ?_
  obtain ⟨w, e, rfl, hw, he⟩ := hv.tup2
  obtain ⟨v1, v2, v3, rfl, hv1, hv2, hv3⟩ := hw.agg3
  obtain ⟨k2, c2, s2⟩ := QJz hv2.gd
  obtain ⟨k3, c3, s3⟩ := QJz hv3.gd
  rw [hv1.gd.bool_inv, he.gd.int_inv]
  (refine Zo ?_;repeat' ((with_reducible first|refine Zk ?_|(first|apply Za|apply Zb|apply Zc|apply Zd)<;>intro h)<;>try simp -implicitDefEqProofs (maxSteps:=9^7) (disch:=first|omega|(simp only [lens];omega)) only [go_sem, k2, c2, s2, k3, c3, s3]))
  have e : valQ x = Y2z x.neg (lv B32 x.num) (lv B32 x.den) := rfl
  rw [e]
  exact Gd.ret (Gd.aggL ⟨gd_b _, ((hv2.app _).set (q := 1) (by simp) _).gd, ((hv3.app _).set (q := 1) (by simp) _).gd, trivial⟩)
theorem Qblz (a b : List Nat) (ha : a.length ≤ 1000000000000) (hb : b.length ≤ 1000000000000) (hA : Lim a) (hB : Lim b) : Pu C 103 [NA a, NA b] (.bool (decide (a = b))) := by
 have hc : cmpN (lv B32 a) (lv B32 b) = 0 ↔ lv B32 a = lv B32 b := by unfold cmpN; split <;> (try split) <;> omega
 refine Fc.keep (Fc.bodyT Qgz Tryz.func103 w103 rfl Tryz.ntmps103 Tryz.results103 (zLe rfl) ?_)
 (refine Zo ?_;repeat' ((with_reducible first|refine Zk ?_|(first|apply Za|apply Zb|apply Zc|apply Zd)<;>intro h)<;>try simp -implicitDefEqProofs (maxSteps:=9^7) (disch:=first|omega|(simp only [lens];omega)) only [go_sem]))
 ·refine Fc.pure (Qnsz a b (by omega) (by omega) hA hB) (by simp [cloL, clo, Qkz]) (fun g => rfl) ?_
  (refine Zo ?_;repeat' ((with_reducible first|refine Zk ?_|(first|apply Za|apply Zb|apply Zc|apply Zd)<;>intro h)<;>try simp -implicitDefEqProofs (maxSteps:=9^7) (disch:=first|omega|(simp only [lens];omega)) only [go_sem]))
  (refine Qoz (by intro g; simp only [go_sem, ren, renL]) ?_)
  (simp only [V.tup.injEq, List.cons.injEq, V.int.injEq, V.bool.injEq, true_and, and_true]; (try rw [Bool.eq_iff_iff]); (try simp only [decide_eq_true_eq, decide_eq_false_iff_not, Decidable.not_not, true_and, and_true, Bool.not_eq_true, Bool.not_eq_eq_eq_not, Bool.not_true, Bool.and_eq_true, Bool.or_eq_true, beq_iff_eq, bne_iff_ne, ne_eq, Bool.false_eq_true, false_iff, true_iff, iff_false, iff_true]); (try omega))
  rw [hc]
  exact ⟨fun hh => Qffz (b := B32) (by decide) hA hB (by omega) hh, fun hh => by rw [hh]⟩
 ·skip
  (refine Qoz (by intro g; simp only [go_sem, ren, renL]) ?_)
  (simp only [V.tup.injEq, List.cons.injEq, V.int.injEq, V.bool.injEq, true_and, and_true]; (try rw [Bool.eq_iff_iff]); (try simp only [decide_eq_true_eq, decide_eq_false_iff_not, Decidable.not_not, true_and, and_true, Bool.not_eq_true, Bool.not_eq_eq_eq_not, Bool.not_true, Bool.and_eq_true, Bool.or_eq_true, beq_iff_eq, bne_iff_ne, ne_eq, Bool.false_eq_true, false_iff, true_iff, iff_false, iff_true]); (try omega))
  intro hh; rw [hh] at h; exact h rfl
theorem may_spec (x : Raw) (hx : RawOK x) : Pu C 79 [rawV x] (.int .i64 (if okR x then 0 else 6)) := by
 have h1 := hx.n1
 have h2 := hx.d1
 have h3 := hx.val.n1
 have h4 := hx.val.d1
 have h5 : (dg B32 (valQ x).num).length ≤ dlen (valQ x).num := Qaoz _
 have h6 : (dg B32 (valQ x).den).length ≤ dlen (valQ x).den := Qaoz _
 have hk : okR x = isQ (valQ x) x := rfl
 refine Fc.keep (Fc.bodyT Qgz Tryz.func79 w79 rfl Tryz.ntmps79 Tryz.results79 (zLe rfl) ?_)
 (refine Zo ?_;repeat' ((with_reducible first|refine Zk ?_|(first|apply Za|apply Zb|apply Zc|apply Zd)<;>intro h)<;>try simp -implicitDefEqProofs (maxSteps:=9^7) (disch:=first|omega|(simp only [lens];omega)) only [go_sem]))
 refine (Qmrz x hx).call ⟨.self (XHz _), trivial⟩ (Qgtz _) ?_
 rw [hk]
 generalize valQ x = r at *
 (refine Zo ?_;repeat' ((with_reducible first|refine Zk ?_|(first|apply Za|apply Zb|apply Zc|apply Zd)<;>intro h)<;>try simp -implicitDefEqProofs (maxSteps:=9^7) (disch:=first|omega|(simp only [lens];omega)) only [go_sem]))
 ·have hn : r.neg = x.neg := by simpa using h
  refine Fc.pure (Qblz (dg B32 r.num) x.num (by omega) (by omega) (Xxz _) hx.nL) (by simp [cloL, clo, Qkz]) (fun g => rfl) ?_
  (refine Zo ?_;repeat' ((with_reducible first|refine Zk ?_|(first|apply Za|apply Zb|apply Zc|apply Zd)<;>intro h)<;>try simp -implicitDefEqProofs (maxSteps:=9^7) (disch:=first|omega|(simp only [lens];omega)) only [go_sem]))
  ·rename_i hm
   refine Fc.pure (Qblz (dg B32 r.den) x.den (by omega) (by omega) (Xxz _) hx.dL) (by simp [cloL, clo, Qkz]) (fun g => rfl) ?_
   (refine Zo ?_;repeat' ((with_reducible first|refine Zk ?_|(first|apply Za|apply Zb|apply Zc|apply Zd)<;>intro h)<;>try simp -implicitDefEqProofs (maxSteps:=9^7) (disch:=first|omega|(simp only [lens];omega)) only [go_sem]))
   ·skip
    (refine Qoz (by intro g; simp only [go_sem, ren, renL]) ?_)
    rw [if_pos (ZAz.2 ?_)]
    obtain ⟨a, b, c⟩ := x
    simp_all [Xpz, B32]
   ·skip
    (refine Qoz (by intro g; simp only [go_sem, ren, renL]) ?_)
    rw [if_neg fun hh => h (by rw [ZAz.1 hh]; rfl)]
  ·skip
   (refine Qoz (by intro g; simp only [go_sem, ren, renL]) ?_)
   rw [if_neg fun hh => h (by rw [ZAz.1 hh]; rfl)]
 ·skip
  (refine Qoz (by intro g; simp only [go_sem, ren, renL]) ?_)
  rw [if_neg fun hh => by rw [ZAz.1 hh] at h; simp [Xpz] at h]
theorem size_val (n : Int) (h1 : -9223372036854775808 ≤ n) (h2 : n < 9223372036854775808) : Val C 95 [.int .i64 n] (natV n.natAbs) := by
 refine Fc.keep (Fc.bodyT Qgz Tryz.func95 w95 rfl Tryz.ntmps95 Tryz.results95 (zLe rfl) ?_)
 (refine Zo ?_;repeat' ((with_reducible first|refine Zk ?_|(first|apply Za|apply Zb|apply Zc|apply Zd)<;>intro h)<;>try simp -implicitDefEqProofs (maxSteps:=9^7) (disch:=first|omega|(simp only [lens];omega)) only [go_sem]))
 ·have e : 0 - (n + 1) = ((n.natAbs - 1 : Nat) : Int) := by omega
  (refine Zo ?_;repeat' ((with_reducible first|refine Zk ?_|(first|apply Za|apply Zb|apply Zc|apply Zd)<;>intro h)<;>try simp -implicitDefEqProofs (maxSteps:=9^7) (disch:=first|omega|(simp only [lens];omega)) only [go_sem, e]))
  rw [show ((n.natAbs - 1 : Nat) : Int) + 1 = ((n.natAbs : Nat) : Int) by omega]
  refine Fc.isN (Qhbz n.natAbs (by omega)) ⟨.self rfl, trivial⟩ fun v X hv => ?_
  (refine Zo ?_;repeat' ((with_reducible first|refine Zk ?_|(first|apply Za|apply Zb|apply Zc|apply Zd)<;>intro h)<;>try simp -implicitDefEqProofs (maxSteps:=9^7) (disch:=first|omega|(simp only [lens];omega)) only [go_sem]))
  exact Gd.ret hv.gd
 ·have e : n = ((n.natAbs : Nat) : Int) := by omega
  rw [e, Int.natAbs_natCast]
  refine Fc.isN (Qhbz n.natAbs (by omega)) ⟨.self rfl, trivial⟩ fun v X hv => ?_
  (refine Zo ?_;repeat' ((with_reducible first|refine Zk ?_|(first|apply Za|apply Zb|apply Zc|apply Zd)<;>intro h)<;>try simp -implicitDefEqProofs (maxSteps:=9^7) (disch:=first|omega|(simp only [lens];omega)) only [go_sem]))
  exact Gd.ret hv.gd
theorem int_val (n : Int) (h1 : -9223372036854775808 ≤ n) (h2 : n < 9223372036854775808) : Val C 71 [.int .i64 n] (ratV (intQ n)) := by
 refine Fc.keep (Fc.bodyT Qgz Tryz.func71 w71 rfl Tryz.ntmps71 Tryz.results71 (zLe rfl) ?_)
 (refine Zo ?_;repeat' ((with_reducible first|refine Zk ?_|(first|apply Za|apply Zb|apply Zc|apply Zd)<;>intro h)<;>try simp -implicitDefEqProofs (maxSteps:=9^7) (disch:=first|omega|(simp only [lens];omega)) only [go_sem]))
 refine (size_val n h1 h2).keptF ⟨.self rfl, trivial⟩ fun v X hv => ?_
 obtain ⟨k1, c1, s1⟩ := QJz hv.gd
 (refine Zo ?_;repeat' ((with_reducible first|refine Zk ?_|(first|apply Za|apply Zb|apply Zc|apply Zd)<;>intro h)<;>try simp -implicitDefEqProofs (maxSteps:=9^7) (disch:=first|omega|(simp only [lens];omega)) only [go_sem, k1, c1, s1]))
 refine one_val.keptF trivial fun w Y hw => ?_
 obtain ⟨k2, c2, s2⟩ := QJz hw.gd
 (refine Zo ?_;repeat' ((with_reducible first|refine Zk ?_|(first|apply Za|apply Zb|apply Zc|apply Zd)<;>intro h)<;>try simp -implicitDefEqProofs (maxSteps:=9^7) (disch:=first|omega|(simp only [lens];omega)) only [go_sem, k1, c1, s1, k2, c2, s2]))
 exact Gd.ret (Gd.aggL ⟨gd_b _, ((hv.app _).set (q := 0) (by simp) _).gd, (hw.set (q := 0) (by simp) _).gd, trivial⟩)
end Go.Proofs.YtjdbdmhjakfldaaGreat
end
section
namespace Go.Proofs.YtjdbdmhjakfldaaGreat
open Go.Bv
def rawG (x : Raw) : V × V × V := (.bool x.neg, NA x.num, NA x.den)
def refG (r : Rq) : V × V × V := (.bool r.neg, DV r.num, DV r.den)
def Qqz (xs : List Raw) : List V := Z5z rawG xs
def Zvz (rs : List Rq) : List V := Z5z refG rs
def tnV (t : Tn) : V := .agg [.sl t.shape.length (ints t.shape), .sl t.el.length (Qqz t.el)]
def tqV (t : Tq) : V := .agg [.sl t.shape.length (ints t.shape), .sl t.el.length (Zvz t.el)]
attribute [go_sem] tnV tqV
@[go_sem] theorem rawsC_len (xs : List Raw) : (Qqz xs).length = xs.length * 3 := Zkz _ _
@[go_sem] theorem refsC_len (xs : List Rq) : (Zvz xs).length = xs.length * 3 := Zkz _ _
@[go_sem] theorem nth_raws0 (xs : List Raw) (i : Nat) (h : i < xs.length) : nth (Qqz xs) (i * 3) = .bool (xs.getD i r0).neg := (X5z rawG r0 xs i h).1
@[go_sem] theorem nth_raws1 (xs : List Raw) (i : Nat) (h : i < xs.length) : nth (Qqz xs) (i * 3 + 1) = NA (xs.getD i r0).num := (X5z rawG r0 xs i h).2.1
@[go_sem] theorem nth_raws2 (xs : List Raw) (i : Nat) (h : i < xs.length) : nth (Qqz xs) (i * 3 + 2) = NA (xs.getD i r0).den := (X5z rawG r0 xs i h).2.2
@[go_sem] theorem nth_refs0 (xs : List Rq) (i : Nat) (h : i < xs.length) : nth (Zvz xs) (i * 3) = .bool (xs.getD i q0).neg := (X5z refG q0 xs i h).1
@[go_sem] theorem nth_refs1 (xs : List Rq) (i : Nat) (h : i < xs.length) : nth (Zvz xs) (i * 3 + 1) = DV (xs.getD i q0).num := (X5z refG q0 xs i h).2.1
@[go_sem] theorem nth_refs2 (xs : List Rq) (i : Nat) (h : i < xs.length) : nth (Zvz xs) (i * 3 + 2) = DV (xs.getD i q0).den := (X5z refG q0 xs i h).2.2
theorem Qiz (xs : List Raw) : cloL (Qqz xs) = true := Qqcz fun x => ⟨rfl, QMz _, QMz _⟩
theorem QHz (t : Tn) : clo (tnV t) = true := by simp [tnV, clo, cloL, Qbz, Qiz]
theorem Qelz (xs ys : List Int) (hx : xs.length ≤ 17592186044416) : Pu C 29 [.sl xs.length (ints xs), .sl ys.length (ints ys)] (.bool (decide (xs = ys))) := by
 refine Fc.keep (Fc.bodyT Qgz Tryz.func29 w29 rfl Tryz.ntmps29 Tryz.results29 (zLe rfl) ?_)
 (refine Zo ?_;repeat' ((with_reducible first|refine Zk ?_|(first|apply Za|apply Zb|apply Zc|apply Zd)<;>intro h)<;>try simp -implicitDefEqProofs (maxSteps:=9^7) (disch:=first|omega|(simp only [lens];omega)) only [go_sem]))
 ·skip
  (refine Qoz (by intro g; simp only [go_sem, ren, renL]) ?_)
  (simp only [V.tup.injEq, List.cons.injEq, V.int.injEq, V.bool.injEq, true_and, and_true]; (try rw [Bool.eq_iff_iff]); (try simp only [decide_eq_true_eq, decide_eq_false_iff_not, Decidable.not_not, true_and, and_true, Bool.not_eq_true, Bool.not_eq_eq_eq_not, Bool.not_true, Bool.and_eq_true, Bool.or_eq_true, beq_iff_eq, bne_iff_ne, ne_eq, Bool.false_eq_true, false_iff, true_iff, iff_false, iff_true]); (try omega))
  intro hh; subst hh; omega
 ·skip
  refine Qfz (fun n ts H => ∃ (i : Nat), (i ≤ xs.length) ∧ ((∀ j, j < i → xs.getD j 0 = ys.getD j 0)) ∧ (n = xs.length - i) ∧ (H = []) ∧ ts.length = 26 ∧ nth ts 0 = .sl xs.length (ints xs) ∧ nth ts 1 = .sl ys.length (ints ys) ∧ nth ts 5 = .int .i64 (i : Nat)) ?_ (n := xs.length) ?_
  ·skip
   rintro n ts H ⟨i, hi, hI, hn, hH, hL, hs0, hs1, hs5⟩
   refine Qsz [(0, .sl xs.length (ints xs)), (1, .sl ys.length (ints ys)), (5, .int .i64 (i : Nat))] hL (by simp only [zFm, hs0, hs1, hs5, true_and]; exact zNm) ?_
   clear hL hs0 hs1 hs5 ts
   refine Qrz Qgz ?_
   subst hH
   have hl : xs.length = ys.length := by omega
   (refine Zo ?_;repeat' ((with_reducible first|refine Zk ?_|(first|apply Za|apply Zb|apply Zc|apply Zd)<;>intro h)<;>try simp -implicitDefEqProofs (maxSteps:=9^7) (disch:=first|omega|(simp only [lens];omega)) only [go_sem]))
   ·skip
    (refine Qoz (by intro g; simp only [go_sem, ren, renL]) ?_)
    (simp only [V.tup.injEq, List.cons.injEq, V.int.injEq, V.bool.injEq, true_and, and_true]; (try rw [Bool.eq_iff_iff]); (try simp only [decide_eq_true_eq, decide_eq_false_iff_not, Decidable.not_not, true_and, and_true, Bool.not_eq_true, Bool.not_eq_eq_eq_not, Bool.not_true, Bool.and_eq_true, Bool.or_eq_true, beq_iff_eq, bne_iff_ne, ne_eq, Bool.false_eq_true, false_iff, true_iff, iff_false, iff_true]); (try omega))
    rintro rfl
    exact absurd rfl ‹xs.getD i 0 ≠ xs.getD i 0›
   ·have hI' : ∀ j, j < i + 1 → xs.getD j 0 = ys.getD j 0 := fun j hj => by
     by_cases e : j = i
     ·subst e; assumption
     ·exact hI j (by omega)
    exact ⟨xs.length - (i + 1), by omega, i + 1, (by (repeat' apply And.intro) <;> (first | rfl | omega | (congr 1; omega) | assumption | (congr 1; assumption)))⟩
   ·skip
    (refine Qoz (by intro g; simp only [go_sem, ren, renL]) ?_)
    (simp only [V.tup.injEq, List.cons.injEq, V.int.injEq, V.bool.injEq, true_and, and_true]; (try rw [Bool.eq_iff_iff]); (try simp only [decide_eq_true_eq, decide_eq_false_iff_not, Decidable.not_not, true_and, and_true, Bool.not_eq_true, Bool.not_eq_eq_eq_not, Bool.not_true, Bool.and_eq_true, Bool.or_eq_true, beq_iff_eq, bne_iff_ne, ne_eq, Bool.false_eq_true, false_iff, true_iff, iff_false, iff_true]); (try omega))
    refine List.ext_getElem hl fun j h1 h2 => ?_
    have := hI j (by omega)
    simpa [List.getD, h1, h2] using this
  ·exact ⟨0, by omega, fun j hj => by omega, rfl, rfl, rfl, rfl, rfl, rfl⟩
theorem refs_snoc {xs : List Rq} {i : Nat} (h : i < xs.length) : Zvz (xs.take (i + 1)) = Zvz (xs.take i) ++ [.bool (xs.getD i q0).neg, DV (xs.getD i q0).num, DV (xs.getD i q0).den] := by
 rw [Qhhz xs q0 h, Zvz, Zlz]; rfl
theorem Qhrz {xs : List Raw} {i : Nat} (h : i < xs.length) : Qqz (xs.take (i + 1)) = Qqz (xs.take i) ++ [.bool (xs.getD i r0).neg, NA (xs.getD i r0).num, NA (xs.getD i r0).den] := by
 rw [Qhhz xs r0 h, Qqz, Zlz]; rfl
theorem Qfaz {xs : List Rq} {i : Nat} (h : i < xs.length) : Qqz ((xs.map Xpz).take (i + 1)) = Qqz ((xs.map Xpz).take i) ++ [.bool (xs.getD i q0).neg, natV (xs.getD i q0).num, natV (xs.getD i q0).den] := by
 rw [Qhrz (by simpa using h)]
 have : (xs.map Xpz).getD i r0 = Xpz (xs.getD i q0) := by simp [List.getD, h]
 rw [this]; rfl
theorem Qluz (t : Tq) (ht : TqOK t) : Val C 85 [tqV t] (tnV (Xzz t)) := by
 have hs := ht.s
 have he := ht.e
 refine Fc.keep (Fc.bodyT Qgz Tryz.func85 w85 rfl Tryz.ntmps85 Tryz.results85 (zLe rfl) ?_)
 (refine Zo ?_;repeat' ((with_reducible first|refine Zk ?_|(first|apply Za|apply Zb|apply Zc|apply Zd)<;>intro h)<;>try simp -implicitDefEqProofs (maxSteps:=9^7) (disch:=first|omega|(simp only [lens];omega)) only [go_sem]))
 refine Qfz (fun n ts H => ∃ (i : Nat) (u : V), (i ≤ t.el.length) ∧ (Qcz H 0 = some ⟨34, 2, [.sl t.shape.length (ints t.shape), .sl t.el.length (Zvz t.el)]⟩) ∧ (Qcz H 1 = some ⟨26, 2, [.nil, .nil]⟩) ∧ (Qcz H 2 = some ⟨3, 1, ints t.shape⟩) ∧ (Qcz H 3 = some ⟨26, 2, [.ref 2 0 t.shape.length, u]⟩) ∧ (Cel 4 58 3 H u i (Qqz ((t.el.map Xpz).take i))) ∧ (n = t.el.length - i) ∧ ts.length = 28 ∧ nth ts 1 = .ptr 0 0 ∧ nth ts 2 = .ptr 1 0 ∧ nth ts 3 = .ptr 3 0 ∧ nth ts 4 = .int .i64 (i : Nat)) ?_ (n := t.el.length) ?_
 ·skip
  rintro n ts H ⟨i, u, hi, h0, h1, h2, h3, hu, hn, hL, hs1, hs2, hs3, hs4⟩
  refine Qsz [(1, .ptr 0 0), (2, .ptr 1 0), (3, .ptr 3 0), (4, .int .i64 (i : Nat))] hL (by simp only [zFm, hs1, hs2, hs3, hs4, true_and]; exact zNm) ?_
  clear hL hs1 hs2 hs3 hs4 ts
  refine Qrz Qgz ?_
  have hlen := Qtz h3
  by_cases hcase : i < t.el.length
  ·have hx := ht.get hcase
   (refine Zo ?_;repeat' ((with_reducible first|refine Zk ?_|(first|apply Za|apply Zb|apply Zc|apply Zd)<;>intro h)<;>try simp -implicitDefEqProofs (maxSteps:=9^7) (disch:=first|omega|(simp only [lens];omega)) only [go_sem, h0, h3]))
   refine Pc.keptF (Qlvz _ hx) (Qhtz _) ⟨.self (Qcjz _), trivial⟩ fun v X hv => ?_
   obtain ⟨v1, v2, v3, rfl, hv1, hv2, hv3⟩ := hv.agg3
   obtain ⟨k2, c2, s2⟩ := QJz hv2.gd
   obtain ⟨k3, c3, s3⟩ := QJz hv3.gd
   have e1 := hv1.gd.bool_inv
   subst e1
   (refine Zo ?_;repeat' ((with_reducible first|refine Zk ?_|(first|apply Za|apply Zb|apply Zc|apply Zd)<;>intro h)<;>try simp -implicitDefEqProofs (maxSteps:=9^7) (disch:=first|omega|(simp only [lens];omega)) only [go_sem, h0, h3, k2, c2, s2, k3, c3, s3]))
   refine Cel.push3 hu rfl rfl (by omega) (by omega) hv2 hv3 s2 s3 fun v' H' hu' hk' k4 c4 s4 => ?_
   have g0 := hk' 0 _ (by decide) h0
   have g1 := hk' 1 _ (by decide) h1
   have g2 := hk' 2 _ (by decide) h2
   have g3 := hk' 3 _ (by decide) h3
   (refine Zo ?_;repeat' ((with_reducible first|refine Zk ?_|(first|apply Za|apply Zb|apply Zc|apply Zd)<;>intro h)<;>try simp -implicitDefEqProofs (maxSteps:=9^7) (disch:=first|omega|(simp only [lens];omega)) only [go_sem, g3, k4, c4, s4]))
   have f0 : ∀ (q : Nat) (row : Row) (z : Option Row), q ≠ 3 → Qcz H' q = some row → Qcz (H'.set 3 z) q = some row := fun q row z hq hr => by rw [Qdz _ (Ne.symm hq)]; exact hr
   refine ⟨t.el.length - (i + 1), by omega, i + 1, v', by omega, f0 0 _ _ (by decide) g0, f0 1 _ _ (by decide) g1, f0 2 _ _ (by decide) g2, Qez g3, ?_, rfl, by congr 1⟩
   rw [Qfaz hcase]
   exact Cel.set hu' (by decide) _
  ·obtain ⟨k4, c4, s4⟩ := Cel.kn hu
   have hs1 : ∀ z : Row, Qcz (H.set 1 (some z)) 1 = some z := fun z => Qez h1
   (refine Zo ?_;repeat' ((with_reducible first|refine Zk ?_|(first|apply Za|apply Zb|apply Zc|apply Zd)<;>intro h)<;>try simp -implicitDefEqProofs (maxSteps:=9^7) (disch:=first|omega|(simp only [lens];omega)) only [go_sem, h0, h1, h3, hs1, k4, c4, s4]))
   have hil : i = t.el.length := by omega
   rw [hil, List.take_of_length_le (by simp)] at hu
   have hg := Cel.gd (Cel.set hu (q := 1) (by decide) (some ⟨26, 2, [.ref 2 0 t.shape.length, u]⟩))
   refine Gd.ret (Gd.aggL ⟨?_, ?_, trivial⟩)
   ·exact .flat 2 _ _ _ _ (by rw [Qdz _ (by decide)]; exact h2) (Qbz _) (QKz _)
   ·simpa [tnOf, Xzz] using hg
 ·exact ⟨0, .nil, by omega, rfl, rfl, rfl, rfl, Cel.nil _ _ _ _, rfl, rfl, rfl, rfl, rfl, rfl⟩
theorem Qooz (t : Tn) (ht : TnOK t) : Val C 14 [tnV t] (tnV t) := by
 have hs := ht.s
 have he := ht.e
 refine Fc.keep (Fc.bodyT Qgz Tryz.func14 w14 rfl Tryz.ntmps14 Tryz.results14 (zLe rfl) ?_)
 (refine Zo ?_;repeat' ((with_reducible first|refine Zk ?_|(first|apply Za|apply Zb|apply Zc|apply Zd)<;>intro h)<;>try simp -implicitDefEqProofs (maxSteps:=9^7) (disch:=first|omega|(simp only [lens];omega)) only [go_sem]))
 refine Qfz (fun n ts H => ∃ (i : Nat) (u : V), (i ≤ t.el.length) ∧ (Qcz H 0 = some ⟨26, 2, [.sl t.shape.length (ints t.shape), .sl t.el.length (Qqz t.el)]⟩) ∧ (Qcz H 1 = some ⟨26, 2, [.nil, .nil]⟩) ∧ (Qcz H 2 = some ⟨3, 1, ints t.shape⟩) ∧ (Qcz H 3 = some ⟨26, 2, [.ref 2 0 t.shape.length, u]⟩) ∧ (Cel 4 58 3 H u i (Qqz (t.el.take i))) ∧ (n = t.el.length - i) ∧ ts.length = 28 ∧ nth ts 1 = .ptr 0 0 ∧ nth ts 2 = .ptr 1 0 ∧ nth ts 3 = .ptr 3 0 ∧ nth ts 4 = .int .i64 (i : Nat)) ?_ (n := t.el.length) ?_
 ·skip
  rintro n ts H ⟨i, u, hi, h0, h1, h2, h3, hu, hn, hL, hs1, hs2, hs3, hs4⟩
  refine Qsz [(1, .ptr 0 0), (2, .ptr 1 0), (3, .ptr 3 0), (4, .int .i64 (i : Nat))] hL (by simp only [zFm, hs1, hs2, hs3, hs4, true_and]; exact zNm) ?_
  clear hL hs1 hs2 hs3 hs4 ts
  refine Qrz Qgz ?_
  have hlen := Qtz h3
  by_cases hcase : i < t.el.length
  ·have hx := ht.get hcase
   (refine Zo ?_;repeat' ((with_reducible first|refine Zk ?_|(first|apply Za|apply Zb|apply Zc|apply Zd)<;>intro h)<;>try simp -implicitDefEqProofs (maxSteps:=9^7) (disch:=first|omega|(simp only [lens];omega)) only [go_sem, h0, h3]))
   refine Pc.keptF (Qopz _ hx) (Qhsz _) ⟨.self (XHz _), trivial⟩ fun v X hv => ?_
   obtain ⟨v1, v2, v3, rfl, hv1, hv2, hv3⟩ := hv.agg3
   obtain ⟨k2, c2, s2⟩ := QJz hv2.gd
   obtain ⟨k3, c3, s3⟩ := QJz hv3.gd
   have e1 := hv1.gd.bool_inv
   subst e1
   (refine Zo ?_;repeat' ((with_reducible first|refine Zk ?_|(first|apply Za|apply Zb|apply Zc|apply Zd)<;>intro h)<;>try simp -implicitDefEqProofs (maxSteps:=9^7) (disch:=first|omega|(simp only [lens];omega)) only [go_sem, h0, h3, k2, c2, s2, k3, c3, s3]))
   refine Cel.push3 hu rfl rfl (by omega) (by omega) hv2 hv3 s2 s3 fun v' H' hu' hk' k4 c4 s4 => ?_
   have g0 := hk' 0 _ (by decide) h0
   have g1 := hk' 1 _ (by decide) h1
   have g2 := hk' 2 _ (by decide) h2
   have g3 := hk' 3 _ (by decide) h3
   (refine Zo ?_;repeat' ((with_reducible first|refine Zk ?_|(first|apply Za|apply Zb|apply Zc|apply Zd)<;>intro h)<;>try simp -implicitDefEqProofs (maxSteps:=9^7) (disch:=first|omega|(simp only [lens];omega)) only [go_sem, g3, k4, c4, s4]))
   have f0 : ∀ (q : Nat) (row : Row) (z : Option Row), q ≠ 3 → Qcz H' q = some row → Qcz (H'.set 3 z) q = some row := fun q row z hq hr => by rw [Qdz _ (Ne.symm hq)]; exact hr
   refine ⟨t.el.length - (i + 1), by omega, i + 1, v', by omega, f0 0 _ _ (by decide) g0, f0 1 _ _ (by decide) g1, f0 2 _ _ (by decide) g2, Qez g3, ?_, rfl, by congr 1⟩
   rw [Qhrz hcase]
   exact Cel.set hu' (by decide) _
  ·obtain ⟨k4, c4, s4⟩ := Cel.kn hu
   have hs1 : ∀ z : Row, Qcz (H.set 1 (some z)) 1 = some z := fun z => Qez h1
   (refine Zo ?_;repeat' ((with_reducible first|refine Zk ?_|(first|apply Za|apply Zb|apply Zc|apply Zd)<;>intro h)<;>try simp -implicitDefEqProofs (maxSteps:=9^7) (disch:=first|omega|(simp only [lens];omega)) only [go_sem, h0, h1, h3, hs1, k4, c4, s4]))
   have hil : i = t.el.length := by omega
   rw [hil, List.take_of_length_le (by simp)] at hu
   have hg := Cel.gd (Cel.set hu (q := 1) (by decide) (some ⟨26, 2, [.ref 2 0 t.shape.length, u]⟩))
   refine Gd.ret (Gd.aggL ⟨?_, ?_, trivial⟩)
   ·exact .flat 2 _ _ _ _ (by rw [Qdz _ (by decide)]; exact h2) (Qbz _) (QKz _)
   ·simpa [tnOf, Xzz] using hg
 ·exact ⟨0, .nil, by omega, rfl, rfl, rfl, rfl, Cel.nil _ _ _ _, rfl, rfl, rfl, rfl, rfl, rfl⟩
end Go.Proofs.YtjdbdmhjakfldaaGreat
end
section
namespace Go.Proofs.YtjdbdmhjakfldaaGreat
open Go.Bv
def Xqz (t : Tn) : Int := if mayP t.shape ≠ 0 then mayP t.shape else if (t.el.length : Int) ≠ Xdz t.shape then 13 else 0
def mayT (t : Tn) : Int := if Xqz t ≠ 0 then Xqz t else if t.el.all okR then 0 else 6
theorem Qhaz {α : Type} {xs : List α} {p : α → Bool} (d : α) : xs.all p = true ↔ ∀ j, j < xs.length → p (xs.getD j d) = true := by
 rw [List.all_eq_true]
 constructor
 ·intro h j hj
  have e : xs.getD j d = xs[j] := by simp [List.getD, hj]
  rw [e]; exact h _ (List.getElem_mem hj)
 ·intro h x hx
  obtain ⟨j, hj, rfl⟩ := List.mem_iff_getElem.1 hx
  have e : xs.getD j d = xs[j] := by simp [List.getD, hj]
  rw [← e]; exact h j hj
theorem Qpez (t : Tn) (ht : TnOK t) : Pu C 26 [tnV t] (.int .i64 (mayT t)) := by
 have hs := ht.s
 have he := ht.e
 refine Fc.keep (Fc.bodyT Qgz Tryz.func26 w26 rfl Tryz.ntmps26 Tryz.results26 (zLe rfl) ?_)
 (refine Zo ?_;repeat' ((with_reducible first|refine Zk ?_|(first|apply Za|apply Zb|apply Zc|apply Zd)<;>intro h)<;>try simp -implicitDefEqProofs (maxSteps:=9^7) (disch:=first|omega|(simp only [lens];omega)) only [go_sem]))
 refine Fc.pure (Qjvz t.shape (by omega)) (by simp [cloL, clo, Qbz]) (fun g => rfl) ?_
 (refine Zo ?_;repeat' ((with_reducible first|refine Zk ?_|(first|apply Za|apply Zb|apply Zc|apply Zd)<;>intro h)<;>try simp -implicitDefEqProofs (maxSteps:=9^7) (disch:=first|omega|(simp only [lens];omega)) only [go_sem]))
 ·skip
  (refine Qoz (by intro g; simp only [go_sem, ren, renL]) ?_)
  have hf : Xqz t = mayP t.shape := by rw [Xqz, if_pos h]
  rw [mayT, hf, if_pos h]
 ·have hm : mayP t.shape = 0 := by omega
  refine Pc.pure (Qmdz t.shape (by omega)) (by simp [cloL, clo, Qbz]) (fun g => rfl) ?_
  (refine Zo ?_;repeat' ((with_reducible first|refine Zk ?_|(first|apply Za|apply Zb|apply Zc|apply Zd)<;>intro h)<;>try simp -implicitDefEqProofs (maxSteps:=9^7) (disch:=first|omega|(simp only [lens];omega)) only [go_sem]))
  ·skip
   (refine Qoz (by intro g; simp only [go_sem, ren, renL]) ?_)
   have hf : Xqz t = 13 := by rw [Xqz, if_neg (by omega), if_pos (by assumption)]
   rw [mayT, hf, if_pos (by decide)]
  ·have hf : Xqz t = 0 := by rw [Xqz, if_neg (by omega), if_neg (by omega)]
   have hmt : mayT t = if t.el.all okR then 0 else 6 := by rw [mayT, hf, if_neg (by decide)]
   refine Qfz (fun n ts H => ∃ (i : Nat), (i ≤ t.el.length) ∧ ((∀ j, j < i → okR (t.el.getD j r0) = true)) ∧ (Qcz H 0 = some ⟨26, 2, [.sl t.shape.length (ints t.shape), .sl t.el.length (Qqz t.el)]⟩) ∧ (n = t.el.length - i) ∧ ts.length = 32 ∧ nth ts 1 = .ptr 0 0 ∧ nth ts 4 = .int .i64 (i : Nat)) ?_ (n := t.el.length) ?_
   ·skip
    rintro n ts H ⟨i, hi, hI, h0, hn, hL, hs1, hs4⟩
    refine Qsz [(1, .ptr 0 0), (4, .int .i64 (i : Nat))] hL (by simp only [zFm, hs1, hs4, true_and]; exact zNm) ?_
    clear hL hs1 hs4 ts
    refine Qrz Qgz ?_
    by_cases hcase : i < t.el.length
    ·skip
     (refine Zo ?_;repeat' ((with_reducible first|refine Zk ?_|(first|apply Za|apply Zb|apply Zc|apply Zd)<;>intro h)<;>try simp -implicitDefEqProofs (maxSteps:=9^7) (disch:=first|omega|(simp only [lens];omega)) only [go_sem, h0]))
     refine Fc.pure (Qpfz (t.el.getD i r0) (ht.get hcase)) (by simp [cloL, clo, Qkz]) (fun g => rfl) ?_
     cases hb : okR (t.el.getD i r0) with
     | true =>
      rw [if_pos rfl]
      (refine Zo ?_;repeat' ((with_reducible first|refine Zk ?_|(first|apply Za|apply Zb|apply Zc|apply Zd)<;>intro h)<;>try simp -implicitDefEqProofs (maxSteps:=9^7) (disch:=first|omega|(simp only [lens];omega)) only [go_sem, h0]))
      have hI' : ∀ j, j < i + 1 → okR (t.el.getD j r0) = true := allS hI hb
      exact ⟨t.el.length - (i + 1), by omega, i + 1, (by (repeat' apply And.intro) <;> (first | rfl | omega | (congr 1; omega) | assumption | (congr 1; assumption)))⟩
     | false =>
      rw [if_neg (by decide)]
      (refine Zo ?_;repeat' ((with_reducible first|refine Zk ?_|(first|apply Za|apply Zb|apply Zc|apply Zd)<;>intro h)<;>try simp -implicitDefEqProofs (maxSteps:=9^7) (disch:=first|omega|(simp only [lens];omega)) only [go_sem, h0]))
      (refine Qoz (by intro g; simp only [go_sem, ren, renL]) ?_)
      rw [hmt, if_neg]
      intro hh
      have := (Qhaz r0).1 hh i hcase
      rw [hb] at this; cases this
    ·skip
     (refine Zo ?_;repeat' ((with_reducible first|refine Zk ?_|(first|apply Za|apply Zb|apply Zc|apply Zd)<;>intro h)<;>try simp -implicitDefEqProofs (maxSteps:=9^7) (disch:=first|omega|(simp only [lens];omega)) only [go_sem, h0]))
     (refine Qoz (by intro g; simp only [go_sem, ren, renL]) ?_)
     rw [hmt, if_pos ((Qhaz r0).2 fun j hj => hI j (by omega))]
   ·exact ⟨0, by omega, fun j hj => by omega, rfl, rfl, rfl, rfl, rfl⟩
def Qkez (a b : Tn) : Bool := decide (a.shape = b.shape) && (decide (a.el.length = b.el.length) && (List.range a.el.length).all fun i => Qfyz (valQ (a.el.getD i r0)) (valQ (b.el.getD i r0)))
theorem Qcvz {n : Nat} {p : Nat → Bool} : (List.range n).all p = true ↔ ∀ i, i < n → p i = true := by simp
theorem YHz (a b : Tn) (ha : TnOK a) (hb : TnOK b) : Pu C 28 [tnV a, tnV b] (.bool (Qkez a b)) := by
 have hs := ha.s
 have he := ha.e
 have hs' := hb.s
 have he' := hb.e
 refine Fc.keep (Fc.bodyT Qgz Tryz.func28 w28 rfl Tryz.ntmps28 Tryz.results28 (zLe rfl) ?_)
 (refine Zo ?_;repeat' ((with_reducible first|refine Zk ?_|(first|apply Za|apply Zb|apply Zc|apply Zd)<;>intro h)<;>try simp -implicitDefEqProofs (maxSteps:=9^7) (disch:=first|omega|(simp only [lens];omega)) only [go_sem]))
 refine Fc.pure (Qelz a.shape b.shape (by omega)) (by simp [cloL, clo, Qbz]) (fun g => rfl) ?_
 (refine Zo ?_;repeat' ((with_reducible first|refine Zk ?_|(first|apply Za|apply Zb|apply Zc|apply Zd)<;>intro h)<;>try simp -implicitDefEqProofs (maxSteps:=9^7) (disch:=first|omega|(simp only [lens];omega)) only [go_sem]))
 ·have hel : ¬ a.el.length = b.el.length := by omega
  (refine Qoz (by intro g; simp only [go_sem, ren, renL]) ?_)
  congr 1
  symm
  simp [Qkez, hel]
 ·have hel : a.el.length = b.el.length := by omega
  ·skip
   refine Qfz (fun n ts H => ∃ (i : Nat), (i ≤ a.el.length) ∧ ((∀ j, j < i → Qfyz (valQ (a.el.getD j r0)) (valQ (b.el.getD j r0)) = true)) ∧ (Qcz H 0 = some ⟨26, 2, [.sl a.shape.length (ints a.shape), .sl a.el.length (Qqz a.el)]⟩) ∧ (Qcz H 1 = some ⟨26, 2, [.sl b.shape.length (ints b.shape), .sl b.el.length (Qqz b.el)]⟩) ∧ (n = a.el.length - i) ∧ ts.length = 40 ∧ nth ts 2 = .ptr 0 0 ∧ nth ts 3 = .ptr 1 0 ∧ nth ts 5 = .int .i64 (i : Nat)) ?_ (n := a.el.length) ?_
   ·skip
    rintro n ts H ⟨i, hi, hI, h0, h1, hn, hL, hs2, hs3, hs5⟩
    refine Qsz [(2, .ptr 0 0), (3, .ptr 1 0), (5, .int .i64 (i : Nat))] hL (by simp only [zFm, hs2, hs3, hs5, true_and]; exact zNm) ?_
    clear hL hs2 hs3 hs5 ts
    refine Qrz Qgz ?_
    by_cases hcase : i < a.el.length
    ·skip
     (refine Zo ?_;repeat' ((with_reducible first|refine Zk ?_|(first|apply Za|apply Zb|apply Zc|apply Zd)<;>intro h)<;>try simp -implicitDefEqProofs (maxSteps:=9^7) (disch:=first|omega|(simp only [lens];omega)) only [go_sem, h0, h1]))
     refine Pc.pure (Qkfz (a.el.getD i r0) (b.el.getD i r0) (ha.get hcase) (hb.get (by omega))) (by simp [cloL, clo, Qkz]) (fun g => rfl) ?_
     cases hbb : Qfyz (valQ (a.el.getD i r0)) (valQ (b.el.getD i r0)) with
     | true =>
      (refine Zo ?_;repeat' ((with_reducible first|refine Zk ?_|(first|apply Za|apply Zb|apply Zc|apply Zd)<;>intro h)<;>try simp -implicitDefEqProofs (maxSteps:=9^7) (disch:=first|omega|(simp only [lens];omega)) only [go_sem, h0, h1]))
      have hI' : ∀ j, j < i + 1 → Qfyz (valQ (a.el.getD j r0)) (valQ (b.el.getD j r0)) = true := allS hI hbb
      exact ⟨a.el.length - (i + 1), by omega, i + 1, (by (repeat' apply And.intro) <;> (first | rfl | omega | (congr 1; omega) | assumption | (congr 1; assumption)))⟩
     | false =>
      (refine Zo ?_;repeat' ((with_reducible first|refine Zk ?_|(first|apply Za|apply Zb|apply Zc|apply Zd)<;>intro h)<;>try simp -implicitDefEqProofs (maxSteps:=9^7) (disch:=first|omega|(simp only [lens];omega)) only [go_sem, h0, h1]))
      (refine Qoz (by intro g; simp only [go_sem, ren, renL]) ?_)
      congr 1
      symm
      rw [Bool.eq_false_iff]
      intro hh
      simp only [Qkez, Bool.and_eq_true, Qcvz] at hh
      have := hh.2.2 i hcase
      rw [hbb] at this; cases this
    ·skip
     (refine Zo ?_;repeat' ((with_reducible first|refine Zk ?_|(first|apply Za|apply Zb|apply Zc|apply Zd)<;>intro h)<;>try simp -implicitDefEqProofs (maxSteps:=9^7) (disch:=first|omega|(simp only [lens];omega)) only [go_sem, h0, h1]))
     (refine Qoz (by intro g; simp only [go_sem, ren, renL]) ?_)
     congr 1
     symm
     simp only [Qkez, Bool.and_eq_true, Qcvz, decide_eq_true_eq]
     exact ⟨by assumption, hel, fun j hj => hI j (by omega)⟩
   ·exact ⟨0, by omega, fun j hj => by omega, rfl, rfl, rfl, rfl, rfl, rfl, rfl⟩
 ·skip
  (refine Qoz (by intro g; simp only [go_sem, ren, renL]) ?_)
  congr 1
  symm
  simp [Qkez, h]
end Go.Proofs.YtjdbdmhjakfldaaGreat
end
section
namespace Go.Proofs.YtjdbdmhjakfldaaGreat
open Go.Bv
theorem Qitz (t : Tn) (ht : TnOK t) : Pu C 78 [tnV t] (.int .i64 (Xqz t)) := by
 have hs := ht.s
 have he := ht.e
 refine Fc.keep (Fc.bodyT Qgz Tryz.func78 w78 rfl Tryz.ntmps78 Tryz.results78 (zLe rfl) ?_)
 (refine Zo ?_;repeat' ((with_reducible first|refine Zk ?_|(first|apply Za|apply Zb|apply Zc|apply Zd)<;>intro h)<;>try simp -implicitDefEqProofs (maxSteps:=9^7) (disch:=first|omega|(simp only [lens];omega)) only [go_sem]))
 refine Fc.pure (Yhz t.shape (by omega)) (by simp [cloL, clo, Qbz]) (fun g => rfl) ?_
 (refine Zo ?_;repeat' ((with_reducible first|refine Zk ?_|(first|apply Za|apply Zb|apply Zc|apply Zd)<;>intro h)<;>try simp -implicitDefEqProofs (maxSteps:=9^7) (disch:=first|omega|(simp only [lens];omega)) only [go_sem]))
 ·skip
  (refine Qoz (by intro g; simp only [go_sem, ren, renL]) ?_)
  rw [Xqz, if_pos h]
 ·refine Pc.pure (Qfuz t.shape (by omega)) (by simp [cloL, clo, Qbz]) (fun g => rfl) ?_
  (refine Zo ?_;repeat' ((with_reducible first|refine Zk ?_|(first|apply Za|apply Zb|apply Zc|apply Zd)<;>intro h)<;>try simp -implicitDefEqProofs (maxSteps:=9^7) (disch:=first|omega|(simp only [lens];omega)) only [go_sem]))
  ·skip
   (refine Qoz (by intro g; simp only [go_sem, ren, renL]) ?_)
   rw [Xqz, if_neg (by omega), if_pos (by assumption)]
  ·skip
   (refine Qoz (by intro g; simp only [go_sem, ren, renL]) ?_)
   rw [Xqz, if_neg (by omega), if_neg (by omega)]
theorem of_spec (t : Tn) : Pu C 72 [tnV t] (tnV t) := by
 refine Fc.keep (Fc.bodyT Qgz Tryz.func72 w72 rfl Tryz.ntmps72 Tryz.results72 (zLe rfl) ?_)
 (refine Zo ?_;repeat' ((with_reducible first|refine Zk ?_|(first|apply Za|apply Zb|apply Zc|apply Zd)<;>intro h)<;>try simp -implicitDefEqProofs (maxSteps:=9^7) (disch:=first|omega|(simp only [lens];omega)) only [go_sem]))
 exact Qoz (fun g => by simp [ren, renL, Qpz, QSz _ _ (Qiz t.el)]) rfl
theorem yk97 : Tryz.f97.body.all yOK = true := by kernel_rfl
def allV (t : Tn) : V := .fn (.func 97) [] [.rp [.sl t.shape.length (ints t.shape), .sl t.el.length (Qqz t.el)] 0]
theorem Qnnz (t : Tn) : Pu C 73 [tnV t] (allV t) := by
 refine Fc.keep (Fc.sealR ?_)
 refine Fc.bodyT Qgz Tryz.func73 w73 rfl Tryz.ntmps73 Tryz.results73 (zLe rfl) ?_
 (refine Zo ?_;repeat' ((with_reducible first|refine Zk ?_|(first|apply Za|apply Zb|apply Zc|apply Zd)<;>intro h)<;>try simp -implicitDefEqProofs (maxSteps:=9^7) (disch:=first|omega|(simp only [lens];omega)) only [go_sem]))
 refine ⟨0, _, 2, [.sl t.shape.length (ints t.shape), .sl t.el.length (Qqz t.el)], rfl, by simp [cloL, clo, Qbz, Qiz], [], by simp, by simp, ?_⟩
 simp [sz, szL, ren, renL, allV, selH, Qpz, QSz _ _ (Qiz t.el)]
def Zxz (t : Tn) : List (List V) := (List.range t.el.length).map fun i => [.int .i64 (i : Nat), rawV (t.el.getD i r0)]
theorem Qaqz {t : Tn} {i : Nat} (h : i < t.el.length) : (Zxz t)[i]? = some [.int .i64 (i : Nat), rawV (t.el.getD i r0)] := by simp [Zxz, h]
theorem XYz (t : Tn) : (Zxz t).length = t.el.length := by simp [Zxz]
theorem all_gen (t : Tn) (ht : TnOK t) : Gen C 97 [.rp [.sl t.shape.length (ints t.shape), .sl t.el.length (Qqz t.el)] 0] (Zxz t) := by
 have he := ht.e
 refine Gen.of3 Qgz Tryz.func97 w97 yk97 rfl Tryz.ntmps97 Tryz.results97 (zLe rfl) (fun bs hb => by
  simp only [Zxz, List.mem_map, List.mem_range] at hb
  obtain ⟨i, _, rfl⟩ := hb
  simp [cloL, clo, XHz]) ?_
 intro G l J hW
 (refine Zo ?_;repeat' ((with_reducible first|refine Zk ?_|(first|apply Za|apply Zb|apply Zc|apply Zd)<;>intro h)<;>try simp -implicitDefEqProofs (maxSteps:=9^7) (disch:=first|omega|(simp only [lens];omega)) only [go_sem]))
 refine XMz (fun n ts H => ∃ (i : Nat), (i ≤ t.el.length) ∧ (n = t.el.length - i) ∧ (H.length = i) ∧ ts.length = 19 ∧ nth ts 0 = .fn (.yield l) [] [] ∧ nth ts 6 = .sl t.el.length (Qqz t.el) ∧ nth ts 7 = .int .i64 (t.el.length : Nat) ∧ nth ts 8 = .int .i64 (i : Nat)) ?_ (n := t.el.length) ?_
 ·skip
  rintro n ts H ⟨i, hi, hn, hH, hL, hs0, hs6, hs7, hs8⟩
  refine Qehz [(0, .fn (.yield l) [] []), (6, .sl t.el.length (Qqz t.el)), (7, .int .i64 (t.el.length : Nat)), (8, .int .i64 (i : Nat))] hL (by simp only [zFm, hs0, hs6, hs7, hs8, true_and]; exact zNm) ?_
  clear hL hs0 hs6 hs7 hs8 ts
  refine hW _ _ _ _ ?_
  by_cases hcase : i < t.el.length
  ·skip
   (refine Zo ?_;repeat' ((with_reducible first|refine Zk ?_|(first|apply Za|apply Zb|apply Zc|apply Zd)<;>intro h)<;>try simp -implicitDefEqProofs (maxSteps:=9^7) (disch:=first|omega|(simp only [lens];omega)) only [go_sem]))
   refine ⟨_, _, _, 19, [(0, .fn (.yield l) [] []), (3, .int .i64 (i : Nat)), (4, .rp [.bool (t.el.getD i r0).neg, NA (t.el.getD i r0).num, NA (t.el.getD i r0).den] 0), (6, .sl t.el.length (Qqz t.el)), (7, .int .i64 (t.el.length : Nat)), (8, .int .i64 (i : Nat))], rfl, ?_, by simp [Xoz], ?_, ?_⟩
   ·simp [cloL, clo, Qkz]
   ·simp only [zFm, Yiz, List.not_mem_nil, false_implies, implies_true, and_true]
    refine ⟨⟨?_, ?_⟩, ⟨?_, ?_⟩, ⟨?_, ?_⟩, ⟨?_, ?_⟩, ⟨?_, ?_⟩, ⟨?_, ?_⟩⟩
    all_goals first | rfl | (simp [clo, cloL, Qiz, QMz]; done) | skip
    ·show sz (List.length H) _ (.ptr (List.length H) 0) = _
     rw [sz, if_pos rfl]; rfl
    ·exact sz_clo _ _ (.sl t.el.length (Qqz t.el)) (Qiz _)
   ·skip
    (refine Zo ?_;repeat' ((with_reducible first|refine Zk ?_|(first|apply Za|apply Zb|apply Zc|apply Zd)<;>intro h)<;>try simp -implicitDefEqProofs (maxSteps:=9^7) (disch:=first|omega|(simp only [lens];omega)) only [go_sem]))
    rw [hH, XYz]
    refine ⟨Qaqz hcase, ⟨t.el.length - (i + 1), by omega, i + 1, by omega, rfl, rfl, rfl⟩, .inr trivial, .inr ?_⟩
    rw [List.length_replicate]; omega
  ·skip
   (refine Zo ?_;repeat' ((with_reducible first|refine Zk ?_|(first|apply Za|apply Zb|apply Zc|apply Zd)<;>intro h)<;>try simp -implicitDefEqProofs (maxSteps:=9^7) (disch:=first|omega|(simp only [lens];omega)) only [go_sem]))
   rw [XYz]
   exact ⟨.inl trivial, .inl (by omega)⟩
 ·exact ⟨0, by omega, by omega, rfl, rfl, rfl, rfl, rfl, rfl⟩
theorem ZLz (t : Tn) (ht : TnOK t) : Pu C 39 [tnV t] (.int .i64 (mayT t)) := by
 have hs := ht.s
 have he := ht.e
 have hv : allV t = .fn (.func 97) [] [.rp [.sl t.shape.length (ints t.shape), .sl t.el.length (Qqz t.el)] 0] := rfl
 refine Fc.keep (Fc.bodyT Qgz Tryz.func39 w39 rfl Tryz.ntmps39 Tryz.results39 (zLe rfl) ?_)
 (refine Zo ?_;repeat' ((with_reducible first|refine Zk ?_|(first|apply Za|apply Zb|apply Zc|apply Zd)<;>intro h)<;>try simp -implicitDefEqProofs (maxSteps:=9^7) (disch:=first|omega|(simp only [lens];omega)) only [go_sem]))
 refine Fc.pure (Qitz t ht) (by simp [cloL, clo, Qbz, Qiz]) (fun g => rfl) ?_
 (refine Zo ?_;repeat' ((with_reducible first|refine Zk ?_|(first|apply Za|apply Zb|apply Zc|apply Zd)<;>intro h)<;>try simp -implicitDefEqProofs (maxSteps:=9^7) (disch:=first|omega|(simp only [lens];omega)) only [go_sem]))
 ·skip
  (refine Qoz (by intro g; simp only [go_sem, ren, renL]) ?_)
  rw [mayT, if_pos h]
 ·have hf : Xqz t = 0 := by omega
  have hmt : mayT t = if t.el.all okR then 0 else 6 := by rw [mayT, hf, if_neg (by decide)]
  refine Fc.pure (of_spec t) (by simp [cloL, clo, Qbz, Qiz]) (fun g => by simp [tnV, ren, renL, Qpz, QSz _ _ (Qiz t.el)]) ?_
  (refine Zo ?_;repeat' ((with_reducible first|refine Zk ?_|(first|apply Za|apply Zb|apply Zc|apply Zd)<;>intro h)<;>try simp -implicitDefEqProofs (maxSteps:=9^7) (disch:=first|omega|(simp only [lens];omega)) only [go_sem]))
  refine Fc.pure (Qnnz t) (by simp [cloL, clo, Qbz, Qiz]) (fun g => by simp [allV, ren, renL, Qpz, QSz _ _ (Qiz t.el)]) ?_
  (refine Zo ?_;repeat' ((with_reducible first|refine Zk ?_|(first|apply Za|apply Zb|apply Zc|apply Zd)<;>intro h)<;>try simp -implicitDefEqProofs (maxSteps:=9^7) (disch:=first|omega|(simp only [lens];omega)) only [go_sem, hv]))
  refine XIz (g := 97) (lb := [.rp [.sl t.shape.length (ints t.shape), .sl t.el.length (Qqz t.el)] 0]) (xs := Zxz t) (by simp -implicitDefEqProofs (maxSteps:=9^7) (disch := first | omega | (simp only [lens]; omega)) only [go_sem]) (by simp [cloL, clo, Qbz, Qiz]) (all_gen t ht) (fun bs hb => by
   simp only [Zxz, List.mem_map, List.mem_range] at hb
   obtain ⟨i, _, rfl⟩ := hb
   rfl) (fun k H => (∀ j, j < k → okR (t.el.getD j r0) = true) ∧ Qcz H 1 = some ⟨27, 1, [.int .i64 0]⟩) ⟨fun j hj => by omega, rfl⟩ ?_ ?_
  ·rintro k us H hk ⟨hI, h1⟩ l
   have hkl : k < t.el.length := by
    have := (List.getElem?_eq_some_iff.1 hk).1
    rwa [XYz] at this
   rw [Qaqz hkl] at hk
   injection hk with hk
   subst hk
   have h1' : ∀ X, Qcz (H ++ X) 1 = some ⟨27, 1, [.int .i64 0]⟩ := fun X => Qaz h1 X
   (refine Qrz Qgz ?_; simp -implicitDefEqProofs (maxSteps:=9^7) (disch := first | omega | (simp only [lens]; omega)) only [go_sem, putl])
   (refine Qrz Qgz ?_; simp -implicitDefEqProofs (maxSteps:=9^7) (disch := first | omega | (simp only [lens]; omega)) only [go_sem, h1'])
   refine Fc.pure (may_spec (t.el.getD k r0) (ht.get hkl)) (by simp [cloL, clo, Qkz]) (fun g => rfl) ?_
   cases hb : okR (t.el.getD k r0) with
   | true =>
    rw [if_pos rfl]
    (refine Zo ?_;repeat' ((with_reducible first|refine Zk ?_|(first|apply Za|apply Zb|apply Zc|apply Zd)<;>intro h)<;>try simp -implicitDefEqProofs (maxSteps:=9^7) (disch:=first|omega|(simp only [lens];omega)) only [go_sem, h1', XBz]))
    exact allS hI hb
   | false =>
    rw [if_neg (by decide)]
    have hst : ∀ X z, Qcz ((H ++ X).set 1 (some z)) 1 = some z := fun X z => Qez (h1' X)
    (refine Zo ?_;repeat' ((with_reducible first|refine Zk ?_|(first|apply Za|apply Zb|apply Zc|apply Zd)<;>intro h)<;>try simp -implicitDefEqProofs (maxSteps:=9^7) (disch:=first|omega|(simp only [lens];omega)) only [go_sem, h1', hst, XBz]))
    (refine Qoz (by intro g; simp only [go_sem, ren, renL]) ?_)
    rw [hmt, if_neg fun hh => ?_]
    have := (Qhaz r0).1 hh k hkl
    rw [hb] at this; cases this
  ·rintro H ⟨hI, h1⟩
   rw [XYz] at hI
   have hst : ∀ z, Qcz (H.set 1 (some z)) 1 = some z := fun z => Qez h1
   (refine Zo ?_;repeat' ((with_reducible first|refine Zk ?_|(first|apply Za|apply Zb|apply Zc|apply Zd)<;>intro h)<;>try simp -implicitDefEqProofs (maxSteps:=9^7) (disch:=first|omega|(simp only [lens];omega)) only [go_sem, h1, hst]))
   (refine Qoz (by intro g; simp only [go_sem, ren, renL]) ?_)
   rw [hmt, if_pos ((Qhaz r0).2 hI)]
def Qpbz (t : Tn) : Tn := ⟨t.shape, (t.el.map valQ).map Xpz⟩
theorem norm_snoc {xs : List Raw} {i : Nat} (h : i < xs.length) : Qqz (((xs.map valQ).map Xpz).take (i + 1)) = Qqz (((xs.map valQ).map Xpz).take i) ++ [.bool (valQ (xs.getD i r0)).neg, natV (valQ (xs.getD i r0)).num, natV (valQ (xs.getD i r0)).den] := by
 rw [Qfaz (by simpa using h)]
 have : (xs.map valQ).getD i q0 = valQ (xs.getD i r0) := by simp [List.getD, h]
 rw [this]
theorem Qnwz (t : Tn) (ht : TnOK t) : Val C 90 [tnV t, .fn (.func 91) [] []] (tnV (Qpbz t)) := by
 have hs := ht.s
 have he := ht.e
 have hv : allV t = .fn (.func 97) [] [.rp [.sl t.shape.length (ints t.shape), .sl t.el.length (Qqz t.el)] 0] := rfl
 refine Fc.keep (Fc.bodyT Qgz Tryz.func90 w90 rfl Tryz.ntmps90 Tryz.results90 (zLe rfl) ?_)
 (refine Zo ?_;repeat' ((with_reducible first|refine Zk ?_|(first|apply Za|apply Zb|apply Zc|apply Zd)<;>intro h)<;>try simp -implicitDefEqProofs (maxSteps:=9^7) (disch:=first|omega|(simp only [lens];omega)) only [go_sem]))
 refine Val.keptF (Val.ofRet (Qmez t.shape (by omega)) (Qbz _) (QKz _)) ⟨.self (by simp [clo, Qbz]), trivial⟩ fun sv X hsv => ?_
 obtain ⟨k0, c0, s0⟩ := QJz hsv.gd
 (refine Zo ?_;repeat' ((with_reducible first|refine Zk ?_|(first|apply Za|apply Zb|apply Zc|apply Zd)<;>intro h)<;>try simp -implicitDefEqProofs (maxSteps:=9^7) (disch:=first|omega|(simp only [lens];omega)) only [go_sem, k0, c0, s0]))
 refine Fc.pure (Qnnz t) (by simp [cloL, clo, Qbz, Qiz]) (fun g => by simp [allV, ren, renL, Qpz, QSz _ _ (Qiz t.el)]) ?_
 (refine Zo ?_;repeat' ((with_reducible first|refine Zk ?_|(first|apply Za|apply Zb|apply Zc|apply Zd)<;>intro h)<;>try simp -implicitDefEqProofs (maxSteps:=9^7) (disch:=first|omega|(simp only [lens];omega)) only [go_sem, hv]))
 have hsv2 := GdIn.app hsv.within [some ⟨99, 2, [sv, .nil]⟩]
 obtain ⟨P, hP⟩ : ∃ P, P = X.length + 3 := ⟨_, rfl⟩
 have hPl : ([some (⟨99, 2, [.sl t.shape.length (ints t.shape), .sl t.el.length (Qqz t.el)]⟩ : Row), some ⟨67, 1, [.fn (.func 91) [] []]⟩, some ⟨99, 2, [.nil, .nil]⟩] ++ X).length = P := by rw [hP]; simp
 rw [hPl] at hsv2
 rw [← hP]
 refine XIz (g := 97) (lb := [.rp [.sl t.shape.length (ints t.shape), .sl t.el.length (Qqz t.el)] 0]) (xs := Zxz t) (by simp -implicitDefEqProofs (maxSteps:=9^7) (disch := first | omega | (simp only [lens]; omega)) only [go_sem]) (by simp [cloL, clo, Qbz, Qiz]) (all_gen t ht) (fun bs hb => by
   simp only [Zxz, List.mem_map, List.mem_range] at hb
   obtain ⟨i, _, rfl⟩ := hb
   rfl) (fun k H => ∃ u, Qcz H 1 = some ⟨67, 1, [.fn (.func 91) [] []]⟩ ∧ Qcz H 2 = some ⟨99, 2, [.nil, .nil]⟩ ∧ Qcz H P = some ⟨99, 2, [sv, u]⟩ ∧ GdIn 3 P H sv (.sl t.shape.length (ints t.shape)) ∧ Cel (P + 1) 58 3 H u k (Qqz (((t.el.map valQ).map Xpz).take k))) ?_ ?_ ?_
 ·refine ⟨.nil, rfl, rfl, ?_, hsv2, Cel.nil _ _ _ _⟩
  rw [hP]; simp [Qcz]
 ·rintro k us H hk ⟨u, h1, h2, h3, h4, hu⟩ l
  have hkl : k < t.el.length := by
   have := (List.getElem?_eq_some_iff.1 hk).1
   rwa [XYz] at this
  rw [Qaqz hkl] at hk
  injection hk with hk
  subst hk
  (refine Qrz Qgz ?_; simp -implicitDefEqProofs (maxSteps:=9^7) (disch := first | omega | (simp only [lens]; omega)) only [go_sem, putl])
  have hx := ht.get hkl
  obtain ⟨HH, hHH⟩ : ∃ HH, HH = H ++ [some (⟨58, 3, [.bool (t.el.getD k r0).neg, .sl (t.el.getD k r0).num.length (nats .u32 (t.el.getD k r0).num), .sl (t.el.getD k r0).den.length (nats .u32 (t.el.getD k r0).den)]⟩ : Row)] := ⟨_, rfl⟩
  rw [← hHH]
  have hn : Qcz HH H.length = some ⟨58, 3, [.bool (t.el.getD k r0).neg, .sl (t.el.getD k r0).num.length (nats .u32 (t.el.getD k r0).num), .sl (t.el.getD k r0).den.length (nats .u32 (t.el.getD k r0).den)]⟩ := by rw [hHH]; exact QAz _ _
  have hP1 := Qtz h3
  have hL : HH.length = H.length + 1 := by rw [hHH]; simp
  have hkeep : ∀ q row, Qcz H q = some row → Qcz HH q = some row := fun q row hr => by rw [hHH]; exact Qaz hr _
  have g1 := hkeep 1 _ h1
  have g2 := hkeep 2 _ h2
  have g3 := hkeep P _ h3
  have g4 := h4.app [some (⟨58, 3, [.bool (t.el.getD k r0).neg, .sl (t.el.getD k r0).num.length (nats .u32 (t.el.getD k r0).num), .sl (t.el.getD k r0).den.length (nats .u32 (t.el.getD k r0).den)]⟩ : Row)]
  have gu := Cel.app hu [some (⟨58, 3, [.bool (t.el.getD k r0).neg, .sl (t.el.getD k r0).num.length (nats .u32 (t.el.getD k r0).num), .sl (t.el.getD k r0).den.length (nats .u32 (t.el.getD k r0).den)]⟩ : Row)]
  rw [← hHH] at g4 gu
  (refine Qrz Qgz ?_; simp -implicitDefEqProofs (maxSteps:=9^7) (disch := first | omega | (simp only [lens]; omega)) only [go_sem, g1, g3, hn])
  refine RunU.now ?_
  (refine Zo ?_;repeat' ((with_reducible first|refine Zk ?_|(first|apply Za|apply Zb|apply Zc|apply Zd)<;>intro h)<;>try simp -implicitDefEqProofs (maxSteps:=9^7) (disch:=first|omega|(simp only [lens];omega)) only [go_sem, g1, g3, hn]))
  refine Pc.keptF (Qmrz _ hx) (Qhtz _) ⟨.self (XHz _), trivial⟩ fun v Y hv => ?_
  obtain ⟨v1, v2, v3, rfl, hv1, hv2, hv3⟩ := hv.agg3
  obtain ⟨k2, c2, s2⟩ := QJz hv2.gd
  obtain ⟨k3, c3, s3⟩ := QJz hv3.gd
  have e1 := hv1.gd.bool_inv
  subst e1
  (refine Zo ?_;repeat' ((with_reducible first|refine Zk ?_|(first|apply Za|apply Zb|apply Zc|apply Zd)<;>intro h)<;>try simp -implicitDefEqProofs (maxSteps:=9^7) (disch:=first|omega|(simp only [lens];omega)) only [go_sem, g1, g3, hn, k2, c2, s2, k3, c3, s3]))
  refine Cel.push3 gu rfl rfl (by omega) (by omega) hv2 hv3 s2 s3 fun v' H' hu' hk' k4 c4 s4 => ?_
  have f1 := hk' 1 _ (by omega) g1
  have f2 := hk' 2 _ (by omega) g2
  have f3 := hk' P _ (by omega) g3
  have f4 := GdIn.far g4 (H' := H') fun r row hr1 hr2 hr => hk' r row (by omega) hr
  (refine Zo ?_;repeat' ((with_reducible first|refine Zk ?_|(first|apply Za|apply Zb|apply Zc|apply Zd)<;>intro h)<;>try simp -implicitDefEqProofs (maxSteps:=9^7) (disch:=first|omega|(simp only [lens];omega)) only [go_sem, f3, k4, c4, s4, XBz]))
  refine ⟨v', ?_, ?_, Qez f3, f4.set (.inr (Nat.le_refl _)) _, ?_⟩
  ·rw [Qdz _ (by omega)]; exact f1
  ·rw [Qdz _ (by omega)]; exact f2
  ·rw [norm_snoc hkl]
   exact Cel.set hu' (by omega) _
 ·rintro H ⟨u, h1, h2, h3, h4, hu⟩
  obtain ⟨k4, c4, s4⟩ := Cel.kn hu
  have hst : ∀ z, Qcz (H.set 2 (some z)) 2 = some z := fun z => Qez h2
  (refine Zo ?_;repeat' ((with_reducible first|refine Zk ?_|(first|apply Za|apply Zb|apply Zc|apply Zd)<;>intro h)<;>try simp -implicitDefEqProofs (maxSteps:=9^7) (disch:=first|omega|(simp only [lens];omega)) only [go_sem, h1, h2, h3, hst, k0, c0, s0, k4, c4, s4]))
  rw [XYz, List.take_of_length_le (by simp)] at hu
  refine Gd.ret (Gd.aggL ⟨(h4.set (.inl (by decide)) _).gd, ?_, trivial⟩)
  have hg := Cel.gd (Cel.set hu (q := 2) (by omega) (some ⟨99, 2, [sv, u]⟩))
  simpa [Qpbz] using hg
end Go.Proofs.YtjdbdmhjakfldaaGreat
end
section
namespace Go.Proofs.YtjdbdmhjakfldaaGreat
open Go.Bv
def Qnfz : Tn := ⟨[], []⟩
def mkT (t : Tn) : Tn × Int := if Xqz t ≠ 0 then (Qnfz, Xqz t) else (Qpbz t, 0)
theorem Qndz {H : Heap} : Gd H (.agg [.nil, .nil]) (tnV Qnfz) := Gd.aggL ⟨.nil _, .nil _, trivial⟩
theorem back_own (a b : V) (H : Heap) (ka : kn a = true) (ca : cellsOf a = [a]) (sa : scal a = true) (kb : kn b = true) (cb : cellsOf b = [b]) (sb : scal b = true) : Fc C 89 [.agg [a, b]] H fun v H' => v = .agg [a, b] ∧ ∃ X, H' = H ++ X := by
 refine Fc.bodyT Qgz Tryz.func89 w89 rfl Tryz.ntmps89 Tryz.results89 (zLe rfl) ?_
 (refine Zo ?_;repeat' ((with_reducible first|refine Zk ?_|(first|apply Za|apply Zb|apply Zc|apply Zd)<;>intro h)<;>try simp -implicitDefEqProofs (maxSteps:=9^7) (disch:=first|omega|(simp only [lens];omega)) only [go_sem, ka, ca, sa, kb, cb, sb]))
 exact ⟨_, rfl⟩
theorem Qhgz (t : Tn) (ht : TnOK t) : Val C 59 [.sl t.shape.length (ints t.shape), .sl t.el.length (Qqz t.el)] (.tup [tnV (mkT t).1, .int .i64 (mkT t).2]) := by
 refine Fc.keep (Fc.bodyT Qgz Tryz.func59 w59 rfl Tryz.ntmps59 Tryz.results59 (zLe rfl) ?_)
 (refine Zo ?_;repeat' ((with_reducible first|refine Zk ?_|(first|apply Za|apply Zb|apply Zc|apply Zd)<;>intro h)<;>try simp -implicitDefEqProofs (maxSteps:=9^7) (disch:=first|omega|(simp only [lens];omega)) only [go_sem]))
 refine Fc.pure (Qitz t ht) (by simp [cloL, clo, Qbz, Qiz]) (fun g => rfl) ?_
 (refine Zo ?_;repeat' ((with_reducible first|refine Zk ?_|(first|apply Za|apply Zb|apply Zc|apply Zd)<;>intro h)<;>try simp -implicitDefEqProofs (maxSteps:=9^7) (disch:=first|omega|(simp only [lens];omega)) only [go_sem]))
 ·rw [mkT, if_pos h]
  exact Gd.ret (Gd.tupL ⟨Qndz, gd_i _ _, trivial⟩)
 ·rw [mkT, if_neg (by omega)]
  refine Fc.pure (of_spec t) (by simp [cloL, clo, Qbz, Qiz]) (fun g => by simp [tnV, ren, renL, Qpz, QSz _ _ (Qiz t.el)]) ?_
  (refine Zo ?_;repeat' ((with_reducible first|refine Zk ?_|(first|apply Za|apply Zb|apply Zc|apply Zd)<;>intro h)<;>try simp -implicitDefEqProofs (maxSteps:=9^7) (disch:=first|omega|(simp only [lens];omega)) only [go_sem]))
  refine (Qnwz t ht).keptF ⟨.self (QHz t), .self rfl, trivial⟩ fun v X hv => ?_
  obtain ⟨a, b, rfl, ha, hb⟩ := hv.agg2
  obtain ⟨ka, ca, sa⟩ := QJz ha.gd
  obtain ⟨kb, cb, sb⟩ := QJz hb.gd
  (refine Zo ?_;repeat' ((with_reducible first|refine Zk ?_|(first|apply Za|apply Zb|apply Zc|apply Zd)<;>intro h)<;>try simp -implicitDefEqProofs (maxSteps:=9^7) (disch:=first|omega|(simp only [lens];omega)) only [go_sem]))
  refine (back_own a b _ ka ca sa kb cb sb).mono ?_
  rintro v H' ⟨rfl, Y, rfl⟩
  (refine Zo ?_;repeat' ((with_reducible first|refine Zk ?_|(first|apply Za|apply Zb|apply Zc|apply Zd)<;>intro h)<;>try simp -implicitDefEqProofs (maxSteps:=9^7) (disch:=first|omega|(simp only [lens];omega)) only [go_sem, ka, ca, sa, kb, cb, sb]))
  exact Gd.ret (Gd.tupL ⟨Gd.aggL ⟨((ha.app Y).set (q := 0) (by simp) _).gd, ((hb.app Y).set (q := 0) (by simp) _).gd, trivial⟩, gd_i _ _, trivial⟩)
end Go.Proofs.YtjdbdmhjakfldaaGreat
end
section
namespace Go.Proofs.YtjdbdmhjakfldaaGreat
open Go.Bv
def offP (s xs : List Int) : Nat → Int
 | 0 => 0
 | i + 1 => offP s xs i * s.getD i 0 + xs.getD i 0
def inB (s xs : List Int) : Bool := (List.range s.length).all fun i => decide (0 ≤ xs.getD i 0 ∧ xs.getD i 0 < s.getD i 0)
def offE (s xs : List Int) : Int := if mayP s ≠ 0 then mayP s else if xs.length ≠ s.length then 2 else if inB s xs then 0 else 21
def offN (s xs : List Int) : Int := if offE s xs = 0 then offP s xs s.length else 0
theorem Qgmz {s xs : List Int} : inB s xs = true ↔ ∀ i, i < s.length → 0 ≤ xs.getD i 0 ∧ xs.getD i 0 < s.getD i 0 := by simp [inB]
theorem offP_lt {s xs : List Int} (h : ∀ i, i < s.length → 0 ≤ xs.getD i 0 ∧ xs.getD i 0 < s.getD i 0) : ∀ i, i ≤ s.length → 0 ≤ offP s xs i ∧ offP s xs i < Qlz (s.take i)
 | 0, _ => by simp [offP, Qlz]
 | i + 1, hi => by
  obtain ⟨h1, h2⟩ := offP_lt h i (by omega)
  obtain ⟨h3, h4⟩ := h i (by omega)
  rw [QVz (by omega), offP]
  have h5 : offP s xs i * s.getD i 0 ≤ (Qlz (s.take i) - 1) * s.getD i 0 := Int.mul_le_mul_of_nonneg_right (by omega) (by omega)
  have h6 : 0 ≤ offP s xs i * s.getD i 0 := Int.mul_nonneg h1 (by omega)
  rw [Int.sub_mul, Int.one_mul] at h5
  omega
theorem Qkrz (s xs : List Int) (hs : s.length ≤ 1000000000) (hx : xs.length ≤ 1000000000) : Pu C 68 [.sl s.length (ints s), .sl xs.length (ints xs)] (.tup [.int .i64 (offN s xs), .int .i64 (offE s xs)]) := by
 refine Fc.keep (Fc.bodyT Qgz Tryz.func68 w68 rfl Tryz.ntmps68 Tryz.results68 (zLe rfl) ?_)
 (refine Zo ?_;repeat' ((with_reducible first|refine Zk ?_|(first|apply Za|apply Zb|apply Zc|apply Zd)<;>intro h)<;>try simp -implicitDefEqProofs (maxSteps:=9^7) (disch:=first|omega|(simp only [lens];omega)) only [go_sem]))
 refine Fc.pure (Yhz s (by omega)) (by simp [go_sem, cloL, clo, Qbz, Qmz]) (by intro g; simp only [go_sem, ren, renL]) ?_
 (refine Zo ?_;repeat' ((with_reducible first|refine Zk ?_|(first|apply Za|apply Zb|apply Zc|apply Zd)<;>intro h)<;>try simp -implicitDefEqProofs (maxSteps:=9^7) (disch:=first|omega|(simp only [lens];omega)) only [go_sem]))
 ·skip
  (refine Qoz (by intro g; simp only [go_sem, ren, renL]) ?_)
  have : offE s xs = mayP s := if_pos h
  rw [offN, this, if_neg h]
 ·have hm : mayP s = 0 := by omega
  (refine Qoz (by intro g; simp only [go_sem, ren, renL]) ?_)
  have : offE s xs = 2 := by rw [offE, if_neg (by omega), if_pos (by omega)]
  rw [offN, this, if_neg (by decide)]
 ·have hm : mayP s = 0 := by omega
  have hl : xs.length = s.length := by omega
  obtain ⟨m1, m2, m3⟩ := QCz hm
  have hoe : offE s xs = if inB s xs then 0 else 21 := by rw [offE, if_neg (by omega), if_neg (by omega)]
  refine Qfz (fun n ts H => ∃ (i : Nat), (i ≤ s.length) ∧ ((∀ j, j < i → 0 ≤ xs.getD j 0 ∧ xs.getD j 0 < s.getD j 0)) ∧ (H = []) ∧ (n = s.length - i) ∧ ts.length = 50 ∧ nth ts 0 = .sl s.length (ints s) ∧ nth ts 1 = .sl xs.length (ints xs) ∧ nth ts 7 = .int .i64 (offP s xs i) ∧ nth ts 20 = .sl s.length (ints s) ∧ nth ts 21 = .int .i64 (s.length : Nat) ∧ nth ts 22 = .int .i64 (i : Nat)) ?_ (n := s.length) ?_
  ·skip
   rintro n ts H ⟨i, hi, hI, hH, hn, hL, hs0, hs1, hs7, hs20, hs21, hs22⟩
   refine Qsz [(0, .sl s.length (ints s)), (1, .sl xs.length (ints xs)), (7, .int .i64 (offP s xs i)), (20, .sl s.length (ints s)), (21, .int .i64 (s.length : Nat)), (22, .int .i64 (i : Nat))] hL (by simp only [zFm, hs0, hs1, hs7, hs20, hs21, hs22, true_and]; exact zNm) ?_
   clear hL hs0 hs1 hs7 hs20 hs21 hs22 ts
   refine Qrz Qgz ?_
   subst hH
   by_cases hcase : i < s.length
   ·have hsi : 1 ≤ s.getD i 0 := Xlz.1 m2 i hcase
    have hsu : s.getD i 0 ≤ Qlz s := QFz m2 hcase
    have hpl := ZPz m2 i
    have hoff : 0 ≤ offP s xs i ∧ offP s xs i < Qlz (s.take i) := by
     have hh : ∀ (m : Nat), m ≤ i → 0 ≤ offP s xs m ∧ offP s xs m < Qlz (s.take m) := fun m => by
      induction m with
      | zero => intro _; simp [offP, Qlz]
      | succ m ih =>
       intro hm
       obtain ⟨h1, h2⟩ := ih (by omega)
       obtain ⟨h3, h4⟩ := hI m (by omega)
       rw [QVz (by omega), offP]
       have h5 : offP s xs m * s.getD m 0 ≤ (Qlz (s.take m) - 1) * s.getD m 0 := Int.mul_le_mul_of_nonneg_right (by omega) (by omega)
       have h6 : 0 ≤ offP s xs m * s.getD m 0 := Int.mul_nonneg h1 (by omega)
       rw [Int.sub_mul, Int.one_mul] at h5
       omega
     exact hh i (Nat.le_refl _)
    have hmul : 0 ≤ offP s xs i * s.getD i 0 ∧ offP s xs i * s.getD i 0 ≤ 1048576 := by
     refine ⟨Int.mul_nonneg hoff.1 (by omega), ?_⟩
     have := Int.mul_le_mul (show offP s xs i ≤ 1024 by omega) (show s.getD i 0 ≤ 1024 by omega) (by omega) (by decide)
     omega
    by_cases hin : 0 ≤ xs.getD i 0 ∧ xs.getD i 0 < s.getD i 0
    ·have e : offP s xs (i + 1) = offP s xs i * s.getD i 0 + xs.getD i 0 := rfl
     generalize hq : offP s xs i * s.getD i 0 = q at *
     generalize offP s xs i = o at *
     generalize hd : s.getD i 0 = d at *
     generalize hxx : xs.getD i 0 = x at *
     have hI' : ∀ j, j < i + 1 → 0 ≤ xs.getD j 0 ∧ xs.getD j 0 < s.getD j 0 := allS hI (by rw [hd, hxx]; exact hin)
     (refine Zo ?_;repeat' ((with_reducible first|refine Zk ?_|(first|apply Za|apply Zb|apply Zc|apply Zd)<;>intro h)<;>try simp -implicitDefEqProofs (maxSteps:=9^7) (disch:=first|omega|(simp only [lens];omega)) only [go_sem, hq, hd, hxx]))
     refine ⟨s.length - (i + 1), by omega, i + 1, by omega, hI', rfl, by rw [e], by congr 1⟩
    ·have hno : inB s xs = false := by
      rw [Bool.eq_false_iff]
      intro hh
      exact hin (Qgmz.1 hh i hcase)
     have e21 : offE s xs = 21 := by rw [hoe, hno]; rfl
     have e0 : offN s xs = 0 := by rw [offN, e21, if_neg (by decide)]
     rw [e21, e0]
     (refine Zo ?_;repeat' ((with_reducible first|refine Zk ?_|(first|apply Za|apply Zb|apply Zc|apply Zd)<;>intro h)<;>try simp -implicitDefEqProofs (maxSteps:=9^7) (disch:=first|omega|(simp only [lens];omega)) only [go_sem]))
     all_goals (refine Qoz (by intro g; simp only [go_sem, ren, renL]) ?_)
     all_goals rfl
   ·have hil : i = s.length := by omega
    subst hil
    have hyes : inB s xs = true := Qgmz.2 hI
    (refine Zo ?_;repeat' ((with_reducible first|refine Zk ?_|(first|apply Za|apply Zb|apply Zc|apply Zd)<;>intro h)<;>try simp -implicitDefEqProofs (maxSteps:=9^7) (disch:=first|omega|(simp only [lens];omega)) only [go_sem]))
    (refine Qoz (by intro g; simp only [go_sem, ren, renL]) ?_)
    have e21 : offE s xs = 0 := by rw [hoe, hyes]; rfl
    rw [e21, offN, if_pos e21]
  ·exact ⟨0, by omega, fun j hj => by omega, rfl, rfl, rfl, rfl, rfl, rfl, rfl, rfl, rfl⟩
theorem yk132 : Tryz.f132.body.all yOK = true := by kernel_rfl
def backV (s : List Int) : V := .fn (.func 132) [] [.rp [.sl s.length (ints s)] 0]
theorem Qgyz (s : List Int) : Pu C 111 [.sl s.length (ints s)] (backV s) := by
 refine Fc.keep (Fc.sealR ?_)
 refine Fc.bodyT Qgz Tryz.func111 w111 rfl Tryz.ntmps111 Tryz.results111 (zLe rfl) ?_
 (refine Zo ?_;repeat' ((with_reducible first|refine Zk ?_|(first|apply Za|apply Zb|apply Zc|apply Zd)<;>intro h)<;>try simp -implicitDefEqProofs (maxSteps:=9^7) (disch:=first|omega|(simp only [lens];omega)) only [go_sem]))
 refine ⟨0, _, 1, [.sl s.length (ints s)], rfl, by simp [cloL, clo, Qbz], [], by simp, by simp, ?_⟩
 simp [sz, szL, ren, renL, backV, selH, Qpz]
def Qjrz (s : List Int) : List (List V) := (List.range s.length).map fun k => [.int .i64 (s.length - 1 - k : Nat), .int .i64 (s.getD (s.length - 1 - k) 0)]
theorem Qjqz {s : List Int} {k : Nat} (h : k < s.length) : (Qjrz s)[k]? = some [.int .i64 (s.length - 1 - k : Nat), .int .i64 (s.getD (s.length - 1 - k) 0)] := by simp [Qjrz, h]
theorem Qaaz (s : List Int) : (Qjrz s).length = s.length := by simp [Qjrz]
theorem Qjpz (s : List Int) (hs : s.length ≤ 1000000000) : Gen C 132 [.rp [.sl s.length (ints s)] 0] (Qjrz s) := by
 refine Gen.of3 Qgz Tryz.func132 w132 yk132 rfl Tryz.ntmps132 Tryz.results132 (zLe rfl) (fun bs hb => by
  simp only [Qjrz, List.mem_map, List.mem_range] at hb
  obtain ⟨i, _, rfl⟩ := hb
  simp [cloL, clo]) ?_
 intro G l J hW
 (refine Zo ?_;repeat' ((with_reducible first|refine Zk ?_|(first|apply Za|apply Zb|apply Zc|apply Zd)<;>intro h)<;>try simp -implicitDefEqProofs (maxSteps:=9^7) (disch:=first|omega|(simp only [lens];omega)) only [go_sem]))
 refine XMz (fun n ts H => ∃ (i : Nat), (i ≤ s.length) ∧ (n = s.length - i) ∧ (H.length = i) ∧ ts.length = 19 ∧ nth ts 0 = .fn (.yield l) [] [] ∧ nth ts 1 = .rp [.sl s.length (ints s)] 0 ∧ nth ts 3 = .int .i64 ((s.length : Int) - 1 - i)) ?_ (n := s.length) ?_
 ·skip
  rintro n ts H ⟨i, hi, hn, hH, hL, hs0, hs1, hs3⟩
  refine Qehz [(0, .fn (.yield l) [] []), (1, .rp [.sl s.length (ints s)] 0), (3, .int .i64 ((s.length : Int) - 1 - i))] hL (by simp only [zFm, hs0, hs1, hs3, true_and]; exact zNm) ?_
  clear hL hs0 hs1 hs3 ts
  refine hW _ _ _ _ ?_
  by_cases hcase : i < s.length
  ·have e : ((s.length : Int) - 1 - (i : Int)) = ((s.length - 1 - i : Nat) : Int) := by omega
   (refine Zo ?_;repeat' ((with_reducible first|refine Zk ?_|(first|apply Za|apply Zb|apply Zc|apply Zd)<;>intro h)<;>try simp -implicitDefEqProofs (maxSteps:=9^7) (disch:=first|omega|(simp only [lens];omega)) only [go_sem, e]))
   rw [hH, Qaaz]
   refine ⟨Qjqz hcase, ⟨s.length - (i + 1), by omega, i + 1, by omega, rfl, rfl, by congr 1; omega⟩, .inr trivial, .inr ?_⟩
   rw [List.length_replicate]; omega
  ·skip
   (refine Zo ?_;repeat' ((with_reducible first|refine Zk ?_|(first|apply Za|apply Zb|apply Zc|apply Zd)<;>intro h)<;>try simp -implicitDefEqProofs (maxSteps:=9^7) (disch:=first|omega|(simp only [lens];omega)) only [go_sem]))
   rw [Qaaz]
   exact ⟨.inl trivial, .inl (by omega)⟩
 ·exact ⟨0, by omega, by omega, rfl, rfl, rfl, by simp -implicitDefEqProofs (maxSteps:=9^7) (disch := first | omega | (simp only [lens]; omega)) only [go_sem]; congr 1; omega⟩
end Go.Proofs.YtjdbdmhjakfldaaGreat
end
section
namespace Go.Proofs.YtjdbdmhjakfldaaGreat
open Go.Bv
def Qetz (s : List Int) (n : Int) (i : Nat) : Int := (n / Qlz (s.drop (i + 1))) % s.getD i 0
def idxL (s : List Int) (n : Int) : List Int := (List.range s.length).map (Qetz s n)
def outK (s : List Int) (n : Int) (k : Nat) : List Int := (List.range s.length).map fun j => if s.length - k ≤ j then Qetz s n j else 0
theorem outK_len (s : List Int) (n : Int) (k : Nat) : (outK s n k).length = s.length := by simp [outK]
theorem Z3z (s : List Int) (n : Int) : (idxL s n).length = s.length := by simp [idxL]
theorem outK_full (s : List Int) (n : Int) : outK s n s.length = idxL s n := by simp [outK, idxL]
theorem outK_zero (s : List Int) (n : Int) : outK s n 0 = List.replicate s.length 0 := by
 refine List.ext_getElem (by simp [outK]) fun j h1 h2 => ?_
 simp [outK] at h1 ⊢
 intro; omega
theorem outK_step {s : List Int} {n : Int} {k : Nat} (h : k < s.length) : (outK s n k).set (s.length - 1 - k) (Qetz s n (s.length - 1 - k)) = outK s n (k + 1) := by
 refine List.ext_getElem (by simp [outK]) fun j h1 h2 => ?_
 rw [List.getElem_set]
 simp [outK] at h1 h2 ⊢
 split
 ·rename_i e; subst e; rw [if_pos (by omega)]
 ·rename_i e
  by_cases hj : s.length ≤ j + k
  ·rw [if_pos hj, if_pos (by omega)]
  ·rw [if_neg hj, if_neg (by omega)]
theorem Qonz {s : List Int} {i : Nat} (h : i < s.length) : Qlz (s.drop i) = s.getD i 0 * Qlz (s.drop (i + 1)) := by
 rw [List.drop_eq_getElem_cons h]; simp [Qlz, List.getD, h]
theorem Ztz {s : List Int} (h : ∀ d ∈ s, 1 ≤ d) {i : Nat} (hi : i < s.length) : 1 ≤ s.getD i 0 := Xlz.1 h i hi
theorem Qnaz {s : List Int} (h : ∀ d ∈ s, 1 ≤ d) {n : Int} {i : Nat} (hi : i < s.length) : n / Qlz (s.drop (i + 1)) / s.getD i 0 = n / Qlz (s.drop i) := by
 have h2 := Q5z (l := s.drop (i + 1)) fun d hd => h d (List.mem_of_mem_drop hd)
 rw [Qonz hi, Int.ediv_ediv_of_nonneg (by omega), Int.mul_comm]
theorem idxAt_in {s : List Int} (h : ∀ d ∈ s, 1 ≤ d) (n : Int) {i : Nat} (hi : i < s.length) : 0 ≤ Qetz s n i ∧ Qetz s n i < s.getD i 0 := by
 have := Ztz h hi
 exact ⟨Int.emod_nonneg _ (by omega), Int.emod_lt_of_pos _ (by omega)⟩
theorem Z2z (n : Nat) : nats .i64 (List.replicate n 0) = ints (List.replicate n 0) := by
 induction n with
 | zero => rfl
 | succ n ih => simp only [List.replicate_succ, nats, ints, List.map_cons] at ih ⊢; rw [ih]; rfl
theorem index_val (s : List Int) (n : Int) (hs : s.length ≤ 1000000000) (hm : mayP s = 0) (h0 : 0 ≤ n) (hn : n < Qlz s) : Val C 93 [.sl s.length (ints s), .int .i64 n] (.tup [.sl (idxL s n).length (ints (idxL s n)), .int .i64 0]) := by
 obtain ⟨m1, m2, m3⟩ := QCz hm
 have hv : backV s = .fn (.func 132) [] [.rp [.sl s.length (ints s)] 0] := rfl
 have hp : Qfzz s = Qlz s := by unfold Qfzz; rw [if_neg (by omega)]
 refine Fc.keep (Fc.bodyT Qgz Tryz.func93 w93 rfl Tryz.ntmps93 Tryz.results93 (zLe rfl) ?_)
 (refine Zo ?_;repeat' ((with_reducible first|refine Zk ?_|(first|apply Za|apply Zb|apply Zc|apply Zd)<;>intro h)<;>try simp -implicitDefEqProofs (maxSteps:=9^7) (disch:=first|omega|(simp only [lens];omega)) only [go_sem]))
 refine Fc.pure (Yhz s (by omega)) (by simp [go_sem, cloL, clo, Qbz, Qmz]) (by intro g; simp only [go_sem, ren, renL]) ?_
 rw [hm]
 (refine Zo ?_;repeat' ((with_reducible first|refine Zk ?_|(first|apply Za|apply Zb|apply Zc|apply Zd)<;>intro h)<;>try simp -implicitDefEqProofs (maxSteps:=9^7) (disch:=first|omega|(simp only [lens];omega)) only [go_sem]))
 refine Pc.pure (Zaz s (by omega) m2) (by simp [cloL, clo, Qbz]) (fun g => rfl) ?_
 rw [hp]
 (refine Zo ?_;repeat' ((with_reducible first|refine Zk ?_|(first|apply Za|apply Zb|apply Zc|apply Zd)<;>intro h)<;>try simp -implicitDefEqProofs (maxSteps:=9^7) (disch:=first|omega|(simp only [lens];omega)) only [go_sem]))
 refine YQz rfl rfl rfl rfl (by simp [t3bytes]) (by omega) ?_
 (refine Zo ?_;repeat' ((with_reducible first|refine Zk ?_|(first|apply Za|apply Zb|apply Zc|apply Zd)<;>intro h)<;>try simp -implicitDefEqProofs (maxSteps:=9^7) (disch:=first|omega|(simp only [lens];omega)) only [go_sem]))
 refine Fc.pure (Qgyz s) (by simp [cloL, clo, Qbz]) (fun g => by simp [backV, ren, renL, Qpz]) ?_
 (refine Zo ?_;repeat' ((with_reducible first|refine Zk ?_|(first|apply Za|apply Zb|apply Zc|apply Zd)<;>intro h)<;>try simp -implicitDefEqProofs (maxSteps:=9^7) (disch:=first|omega|(simp only [lens];omega)) only [go_sem, hv]))
 refine XIz (g := 132) (lb := [.rp [.sl s.length (ints s)] 0]) (xs := Qjrz s) (by simp -implicitDefEqProofs (maxSteps:=9^7) (disch := first | omega | (simp only [lens]; omega)) only [go_sem]) (by simp [cloL, clo, Qbz]) (Qjpz s hs) (fun bs hb => by
   simp only [Qjrz, List.mem_map, List.mem_range] at hb
   obtain ⟨i, _, rfl⟩ := hb
   rfl) (fun k H => Qcz H 0 = some ⟨3, 1, [.int .i64 (n / Qlz (s.drop (s.length - k)))]⟩ ∧ Qcz H 1 = some ⟨3, 1, ints (outK s n k)⟩ ∧ Qcz H 2 = some ⟨22, 1, [.ref 1 0 s.length]⟩) ?_ ?_ ?_
 ·refine ⟨?_, ?_, rfl⟩
  ·rw [Nat.sub_zero, List.drop_length]
   simp [Qcz, Qlz]
  ·rw [outK_zero, ← Z2z]; rfl
 ·rintro k us H hk ⟨h0, h1, h2⟩ l
  have hkl : k < s.length := by
   have := (List.getElem?_eq_some_iff.1 hk).1
   rwa [Qaaz] at this
  rw [Qjqz hkl] at hk
  injection hk with hk
  subst hk
  have hd := Ztz m2 (i := s.length - 1 - k) (by omega)
  have hdu := QFz m2 (i := s.length - 1 - k) (by omega)
  have hq0 : 0 ≤ n / Qlz (s.drop (s.length - k)) := Int.ediv_nonneg (by omega) (by have := Q5z (l := s.drop (s.length - k)) fun d hd => m2 d (List.mem_of_mem_drop hd); omega)
  have hq1 : n / Qlz (s.drop (s.length - k)) ≤ n := Int.ediv_le_self _ (by omega)
  have hst := outK_step (n := n) hkl
  have hnx := Qnaz m2 (n := n) (i := s.length - 1 - k) (by omega)
  have hii : Qetz s n (s.length - 1 - k) = n / Qlz (s.drop (s.length - k)) % s.getD (s.length - 1 - k) 0 := by
   rw [Qetz, show s.length - 1 - k + 1 = s.length - k by omega]
  rw [show s.length - 1 - k + 1 = s.length - k by omega] at hnx
  have hlen := outK_len s n k
  have hw : s.length - (k + 1) = s.length - 1 - k := by omega
  rw [hw]
  rw [hii] at hst
  rw [← hnx]
  have hm1 := Int.emod_nonneg (n / Qlz (s.drop (s.length - k))) (show s.getD (s.length - 1 - k) 0 ≠ 0 by omega)
  have hm2 := Int.emod_lt_of_pos (n / Qlz (s.drop (s.length - k))) (show 0 < s.getD (s.length - 1 - k) 0 by omega)
  have hdv := Int.ediv_le_self (a := n / Qlz (s.drop (s.length - k))) (s.getD (s.length - 1 - k) 0) hq0
  have hdv0 := Int.ediv_nonneg hq0 (show 0 ≤ s.getD (s.length - 1 - k) 0 by omega)
  generalize n / Qlz (s.drop (s.length - k)) = q at *
  generalize s.getD (s.length - 1 - k) 0 = d at *
  have f0 : ∀ z, Qcz (H.set 1 z) 0 = some ⟨3, 1, [.int .i64 q]⟩ := fun z => by rw [Qdz _ (by decide)]; exact h0
  (refine Qrz Qgz ?_; simp -implicitDefEqProofs (maxSteps:=9^7) (disch := first | omega | (simp only [lens]; omega)) only [go_sem, putl])
  (refine Qrz Qgz ?_; simp -implicitDefEqProofs (maxSteps:=9^7) (disch := first | omega | (simp only [lens]; omega)) only [go_sem, h0, h1, h2, f0, YFz, hst, XBz])
  refine ⟨Qez (f0 _), ?_, ?_⟩
  ·rw [Qdz _ (by decide)]; exact Qez h1
  ·rw [Qdz _ (by decide), Qdz _ (by decide)]; exact h2
 ·rintro H ⟨h0, h1, h2⟩
  rw [Qaaz, outK_full] at h1
  (refine Zo ?_;repeat' ((with_reducible first|refine Zk ?_|(first|apply Za|apply Zb|apply Zc|apply Zd)<;>intro h)<;>try simp -implicitDefEqProofs (maxSteps:=9^7) (disch:=first|omega|(simp only [lens];omega)) only [go_sem, h0, h1, h2]))
  rw [Z3z]
  exact Gd.ret (Gd.tupL ⟨.flat 1 _ _ _ _ h1 (Qbz _) (QKz _), .leaf _ rfl rfl, trivial⟩)
end Go.Proofs.YtjdbdmhjakfldaaGreat
end
section
namespace Go.Proofs.YtjdbdmhjakfldaaGreat
open Go.Bv
def Qejz : Raw := Xpz (intQ 0)
def gatL (N : Nat) (none : Raw) (p : Nat → Raw) (b : Nat → Bool) : List Raw := (List.range N).map fun i => if b i then p i else none
theorem Qgpz (N : Nat) (no : Raw) (p : Nat → Raw) (b : Nat → Bool) : (gatL N no p b).length = N := by simp [gatL]
theorem Qisz (N : Nat) (no : Raw) (p : Nat → Raw) (b : Nat → Bool) : gatL (N + 1) no p b = gatL N no p b ++ [if b N then p N else no] := by simp [gatL, List.range_succ]
theorem rawsC_app (xs : List Raw) (x : Raw) : Qqz (xs ++ [x]) = Qqz xs ++ [.bool x.neg, NA x.num, NA x.den] := by rw [Qqz, Zlz]; rfl
theorem Qokz (xs : List Raw) : (Qqz xs).all scal = true := by
 induction xs with
 | nil => rfl
 | cons x xs ih => simp only [Qqz, Qasz, List.all_cons] at ih ⊢; rw [ih]; rfl
theorem Qmnz {y : Ty} {e e' s' i : Nat} {H : Heap} {v : V} {xs : List Raw} {x : Raw} {r1 : Option Row} {K : V → Heap → Prop} (h : Bv.Own e 3 H v i (Qqz xs)) (hy : y.size = 3) (hby : y.bytes = 56) (hn : i + 1 ≤ 1000000000)
  (hK : ∀ v' H', Bv.Own e 3 H' v' (i + 1) (Qqz (xs ++ [x])) → (∀ q row, (∀ off m, v ≠ .ref q off m) → Qcz H q = some row → Qcz H' q = some row) → (∀ r off m, v' = .ref r off m → 1 ≤ r) → K v' H') :
  appw y e v (.ref (H.length + 1) 0 1) (H ++ [r1, some ⟨e', s', [.bool x.neg, .sl x.num.length (nats .u32 x.num), .sl x.den.length (nats .u32 x.den)]⟩]) K := by
 rw [show H ++ [r1, some (⟨e', s', [.bool x.neg, .sl x.num.length (nats .u32 x.num), .sl x.den.length (nats .u32 x.den)]⟩ : Row)] = (H ++ [r1]) ++ [some ⟨e', s', [.bool x.neg, .sl x.num.length (nats .u32 x.num), .sl x.den.length (nats .u32 x.den)]⟩] by simp, show H.length + 1 = (H ++ [r1]).length by simp]
 have h' := h.keep [r1]
 rw [← hy] at h'
 refine Qadz h' (by rw [hy]; rfl) (by simp [scal]) (by omega) (by omega) (by rw [hby]; omega) (Qokz _) fun H' k1 k2 k3 => ?_
 rw [hy] at k1
 refine hK _ H' (by rw [rawsC_app]; exact k1) (fun q row hq hr => k2 q row hq (Qaz hr _)) fun r off m e => by injection e with e; omega
theorem Qirz (s : List Int) (no : Raw) (f : Nat) (caps : List V) (p : Nat → Raw) (b : Nat → Bool) (N : Nat) (hs : s.length ≤ 1000000000) (hm : mayP s = 0) (hN : (N : Int) = Qlz s) (hc : cloL caps = true)
  (hp : ∀ i, i < N → Pu C f (.sl (idxL s (i : Nat)).length (ints (idxL s (i : Nat))) :: caps) (.tup [rawV (p i), .bool (b i)])) :
  Pu C 66 [.sl s.length (ints s), rawV no, .fn (.func f) [] caps] (.sl N (Qqz (gatL N no p b))) := by
 obtain ⟨m1, m2, m3⟩ := QCz hm
 have hct : Xdz s = (N : Int) := by rw [Xdz, if_pos hm, hN]
 refine Fc.valO (e := 58) (s := 3) ?_ (Qiz _)
 refine Fc.keep (Fc.bodyT Qgz Tryz.func66 w66 rfl Tryz.ntmps66 Tryz.results66 (zLe rfl) ?_)
 (refine Zo ?_;repeat' ((with_reducible first|refine Zk ?_|(first|apply Za|apply Zb|apply Zc|apply Zd)<;>intro h)<;>try simp -implicitDefEqProofs (maxSteps:=9^7) (disch:=first|omega|(simp only [lens];omega)) only [go_sem]))
 refine Fc.pure (Qfuz s (by omega)) (by simp [go_sem, cloL, clo, Qbz, Qmz]) (by intro g; simp only [go_sem, ren, renL]) ?_
 rw [hct]
 (refine Zo ?_;repeat' ((with_reducible first|refine Zk ?_|(first|apply Za|apply Zb|apply Zc|apply Zd)<;>intro h)<;>try simp -implicitDefEqProofs (maxSteps:=9^7) (disch:=first|omega|(simp only [lens];omega)) only [go_sem]))
 refine Qfz (fun n ts H => ∃ (i : Nat) (u : V), (i ≤ N) ∧ (n = N - i) ∧ (Qcz H 0 = some ⟨58, 3, [.bool no.neg, NA no.num, NA no.den]⟩) ∧ (Bv.Own 58 3 H u i (Qqz (gatL i no p b))) ∧ ((∀ r off m, u = .ref r off m → 1 ≤ r)) ∧ ts.length = 39 ∧ nth ts 0 = .sl s.length (ints s) ∧ nth ts 2 = .fn (.func f) [] caps ∧ nth ts 4 = .ptr 0 0 ∧ nth ts 7 = u ∧ nth ts 14 = .int .i64 (N : Nat) ∧ nth ts 15 = .int .i64 (i : Nat)) ?_ (n := N) ?_
 ·skip
  rintro n ts H ⟨i, u, hi, hn, h0, hu, hr, hL, hs0, hs2, hs4, hs7, hs14, hs15⟩
  refine Qsz [(0, .sl s.length (ints s)), (2, .fn (.func f) [] caps), (4, .ptr 0 0), (7, u), (14, .int .i64 (N : Nat)), (15, .int .i64 (i : Nat))] hL (by simp only [zFm, hs0, hs2, hs4, hs7, hs14, hs15, true_and]; exact zNm) ?_
  clear hL hs0 hs2 hs4 hs7 hs14 hs15 ts
  refine Qrz Qgz ?_
  by_cases hcase : i < N
  ·skip
   (refine Zo ?_;repeat' ((with_reducible first|refine Zk ?_|(first|apply Za|apply Zb|apply Zc|apply Zd)<;>intro h)<;>try simp -implicitDefEqProofs (maxSteps:=9^7) (disch:=first|omega|(simp only [lens];omega)) only [go_sem]))
   refine (index_val s (i : Nat) hs hm (by omega) (by omega)).call ⟨.self (by simp [clo, Qbz]), .self rfl, trivial⟩ (by simp [clo, cloL, Qbz]) ?_
   (refine Zo ?_;repeat' ((with_reducible first|refine Zk ?_|(first|apply Za|apply Zb|apply Zc|apply Zd)<;>intro h)<;>try simp -implicitDefEqProofs (maxSteps:=9^7) (disch:=first|omega|(simp only [lens];omega)) only [go_sem]))
   refine Fc.pure (hp i hcase) (by simp [cloL, clo, Qbz, hc]) (fun g => by simp [ren, renL, rawV, NA, Xjz]) ?_
   have hkeep : ∀ X, Qcz (H ++ X) 0 = some ⟨58, 3, [.bool no.neg, NA no.num, NA no.den]⟩ := fun X => Qaz h0 X
   have hlen := Qtz h0
   cases hb : b i with
   | true =>
    (refine Zo ?_;repeat' ((with_reducible first|refine Zk ?_|(first|apply Za|apply Zb|apply Zc|apply Zd)<;>intro h)<;>try simp -implicitDefEqProofs (maxSteps:=9^7) (disch:=first|omega|(simp only [lens];omega)) only [go_sem, hkeep]))
    refine Qmnz hu rfl rfl (by omega) fun v' H' hu' hk hr' => ?_
    have h0' := hk 0 _ (fun off m e => by have := hr _ _ _ e; omega) h0
    have hg : Qqz (gatL (i + 1) no p b) = Qqz (gatL i no p b ++ [p i]) := by rw [Qisz, hb]; rfl
    rw [← hg] at hu'
    (refine Zo ?_;repeat' ((with_reducible first|refine Zk ?_|(first|apply Za|apply Zb|apply Zc|apply Zd)<;>intro h)<;>try simp -implicitDefEqProofs (maxSteps:=9^7) (disch:=first|omega|(simp only [lens];omega)) only [go_sem]))
    exact ⟨N - (i + 1), by omega, i + 1, v', (by (repeat' apply And.intro) <;> (first | rfl | omega | (congr 1; omega) | assumption | (congr 1; assumption)))⟩
   | false =>
    (refine Zo ?_;repeat' ((with_reducible first|refine Zk ?_|(first|apply Za|apply Zb|apply Zc|apply Zd)<;>intro h)<;>try simp -implicitDefEqProofs (maxSteps:=9^7) (disch:=first|omega|(simp only [lens];omega)) only [go_sem, hkeep]))
    refine Qmnz hu rfl rfl (by omega) fun v' H' hu' hk hr' => ?_
    have h0' := hk 0 _ (fun off m e => by have := hr _ _ _ e; omega) h0
    have hg : Qqz (gatL (i + 1) no p b) = Qqz (gatL i no p b ++ [no]) := by rw [Qisz, hb]; rfl
    rw [← hg] at hu'
    (refine Zo ?_;repeat' ((with_reducible first|refine Zk ?_|(first|apply Za|apply Zb|apply Zc|apply Zd)<;>intro h)<;>try simp -implicitDefEqProofs (maxSteps:=9^7) (disch:=first|omega|(simp only [lens];omega)) only [go_sem]))
    exact ⟨N - (i + 1), by omega, i + 1, v', (by (repeat' apply And.intro) <;> (first | rfl | omega | (congr 1; omega) | assumption | (congr 1; assumption)))⟩
  ·skip
   (refine Zo ?_;repeat' ((with_reducible first|refine Zk ?_|(first|apply Za|apply Zb|apply Zc|apply Zd)<;>intro h)<;>try simp -implicitDefEqProofs (maxSteps:=9^7) (disch:=first|omega|(simp only [lens];omega)) only [go_sem]))
   have : i = N := by omega
   subst this
   exact Own.ret hu (fun g => QSz _ _ (Qiz _)) fun v H h => h
 ·exact ⟨0, .nil, by omega, rfl, rfl, .inl ⟨rfl, rfl, rfl⟩, (fun r off m e => nomatch e), rfl, rfl, rfl, rfl, rfl, rfl, rfl⟩
def Qhxz (t : Tn) (l : List Int) : Raw := t.el.getD (offN t.shape l).toNat r0
def isAt (t : Tn) (l : List Int) : Bool := decide (offE t.shape l = 0)
theorem Qghz {s l : List Int} (h : offE s l = 0) : 0 ≤ offN s l ∧ offN s l < Qlz s ∧ mayP s = 0 := by
 have hm : mayP s = 0 := by
  refine Classical.byContradiction fun hn => ?_
  rw [offE, if_pos hn] at h; exact hn h
 have hl : l.length = s.length := by
  refine Classical.byContradiction fun hn => ?_
  rw [offE, if_neg (by omega), if_pos hn] at h; cases h
 have hi : inB s l = true := by
  refine Classical.byContradiction fun hn => ?_
  rw [offE, if_neg (by omega), if_neg (by omega), if_neg hn] at h; cases h
 have := offP_lt (Qgmz.1 hi) s.length (Nat.le_refl _)
 rw [List.take_length] at this
 rw [offN, if_pos h]
 exact ⟨this.1, this.2, hm⟩
theorem mv1_spec (t : Tn) (ht : TnOK t) (hf : Xqz t = 0) (f : Nat) (caps : List V) (hc : cloL caps = true) (x l : List Int) (hx : x.length ≤ 1000000000) (hl : l.length ≤ 1000000000) (hp : Val C f (.sl x.length (ints x) :: caps) (.sl l.length (ints l))) :
  Pu C 82 [.sl x.length (ints x), .rp [.sl t.shape.length (ints t.shape), .sl t.el.length (Qqz t.el)] 0, .rp [.fn (.func f) [] caps] 0] (.tup [rawV (if isAt t l then Qhxz t l else r0), .bool (isAt t l)]) := by
 have hs := ht.s
 have he := ht.e
 refine Pu.ofBor (by simp [clo, cloL, XHz]) ?_
 refine Fc.bodyT Qgz Tryz.func82 w82 rfl Tryz.ntmps82 Tryz.results82 (zLe rfl) ?_
 (refine Zo ?_;repeat' ((with_reducible first|refine Zk ?_|(first|apply Za|apply Zb|apply Zc|apply Zd)<;>intro h)<;>try simp -implicitDefEqProofs (maxSteps:=9^7) (disch:=first|omega|(simp only [lens];omega)) only [go_sem]))
 refine RunU.now ?_
 (refine Zo ?_;repeat' ((with_reducible first|refine Zk ?_|(first|apply Za|apply Zb|apply Zc|apply Zd)<;>intro h)<;>try simp -implicitDefEqProofs (maxSteps:=9^7) (disch:=first|omega|(simp only [lens];omega)) only [go_sem]))
 refine Val.pc hp ⟨.self (by simp [clo, Qbz]), BorL.selfs hc⟩ (by simp [clo, Qbz]) ?_
 (refine Zo ?_;repeat' ((with_reducible first|refine Zk ?_|(first|apply Za|apply Zb|apply Zc|apply Zd)<;>intro h)<;>try simp -implicitDefEqProofs (maxSteps:=9^7) (disch:=first|omega|(simp only [lens];omega)) only [go_sem]))
 refine Pc.pure (Qkrz t.shape l hs hl) (by simp [cloL, clo, Qbz]) (fun g => rfl) ?_
 by_cases hz : offE t.shape l = 0
 ·obtain ⟨h1, h2, h3⟩ := Qghz hz
  have hel : (t.el.length : Int) = Qlz t.shape := by
   rw [Xqz, if_neg (by omega)] at hf
   split at hf
   ·cases hf
   ·rename_i h; rw [Xdz, if_pos h3] at h; omega
  obtain ⟨m, hm⟩ : ∃ m : Nat, offN t.shape l = m := ⟨(offN t.shape l).toNat, by omega⟩
  have hia : isAt t l = true := by simp [isAt, hz]
  have hpk : Qhxz t l = t.el.getD m r0 := by rw [Qhxz, hm]; rfl
  rw [hia, if_pos rfl, hpk, hm, hz]
  have hlt : m < t.el.length := by omega
  (refine Zo ?_;repeat' ((with_reducible first|refine Zk ?_|(first|apply Za|apply Zb|apply Zc|apply Zd)<;>intro h)<;>try simp -implicitDefEqProofs (maxSteps:=9^7) (disch:=first|omega|(simp only [lens];omega)) only [go_sem]))
  exact .self (by simp [clo, cloL, Qkz])
 ·have hia : isAt t l = false := by simp [isAt, hz]
  rw [hia, if_neg (by decide)]
  (refine Zo ?_;repeat' ((with_reducible first|refine Zk ?_|(first|apply Za|apply Zb|apply Zc|apply Zd)<;>intro h)<;>try simp -implicitDefEqProofs (maxSteps:=9^7) (disch:=first|omega|(simp only [lens];omega)) only [go_sem]))
  exact Bor.tupL ⟨Bor.aggL ⟨.self rfl, .nil _, .nil _, trivial⟩, .self rfl, trivial⟩
theorem Qlez {s : List Int} (h : ∀ d ∈ s, 1 ≤ d) (n : Int) : ∀ j, j < s.length → 0 ≤ (idxL s n).getD j 0 ∧ (idxL s n).getD j 0 < s.getD j 0 := fun j hj => by
 have e : (idxL s n).getD j 0 = Qetz s n j := by simp [idxL, List.getD, hj]
 rw [e]
 exact idxAt_in h n hj
def mvL (t : Tn) (s : List Int) (g : List Int → List Int) (N : Nat) : List Raw := gatL N Qejz (fun i => if isAt t (g (idxL s (i : Nat))) then Qhxz t (g (idxL s (i : Nat))) else r0) (fun i => isAt t (g (idxL s (i : Nat))))
def mvT (t : Tn) (s : List Int) (g : List Int → List Int) : Tn := Qpbz ⟨s, mvL t s g (Qlz s).toNat⟩
theorem zeroR_ok : RawOK Qejz := ⟨by simp [Qejz, Xpz, intQ, QLz], by rw [Qejz, Xpz, intQ, dg_one _ (by decide)]; decide, fun x hx => by simp [Qejz, Xpz, intQ, QLz] at hx, fun x hx => by
 rw [Qejz, Xpz, intQ, dg_one _ (by decide)] at hx
 simp at hx; rw [hx]; decide⟩
theorem pick_ok {t : Tn} (ht : TnOK t) (hf : Xqz t = 0) {l : List Int} (h : isAt t l = true) : RawOK (Qhxz t l) := by
 simp only [isAt, decide_eq_true_eq] at h
 obtain ⟨h1, h2, h3⟩ := Qghz h
 have hel : (t.el.length : Int) = Qlz t.shape := by
  rw [Xqz, if_neg (by omega)] at hf
  split at hf
  ·cases hf
  ·rename_i h; rw [Xdz, if_pos h3] at h; omega
 exact ht.get (by omega)
theorem mvL_ok {t : Tn} (ht : TnOK t) (hf : Xqz t = 0) (s : List Int) (g : List Int → List Int) (N : Nat) : ∀ x ∈ mvL t s g N, RawOK x := fun x hx => by
 simp only [mvL, gatL, List.mem_map, List.mem_range] at hx
 obtain ⟨i, _, rfl⟩ := hx
 split
 ·rename_i h; first | exact pick_ok ht hf h | (rw [if_pos h]; exact pick_ok ht hf h)
 ·exact zeroR_ok
theorem ZXz (t : Tn) (ht : TnOK t) (hf : Xqz t = 0) (s : List Int) (hs : s.length ≤ 1000000000) (hm : mayP s = 0) (f : Nat) (caps : List V) (hc : cloL caps = true) (g : List Int → List Int)
  (hp : ∀ x : List Int, x.length = s.length → (∀ j, j < s.length → 0 ≤ x.getD j 0 ∧ x.getD j 0 < s.getD j 0) → (g x).length ≤ 1000000000 ∧ Val C f (.sl x.length (ints x) :: caps) (.sl (g x).length (ints (g x)))) :
  Val C 41 [tnV t, .sl s.length (ints s), .fn (.func f) [] caps] (.tup [tnV (mvT t s g), .int .i64 0]) := by
 obtain ⟨m1, m2, m3⟩ := QCz hm
 have hpos := Q5z m2
 obtain ⟨N, hN⟩ : ∃ N : Nat, (N : Int) = Qlz s := ⟨(Qlz s).toNat, by omega⟩
 have hNN : (Qlz s).toNat = N := by omega
 have hok : TnOK ⟨s, mvL t s g N⟩ := ⟨hs, by simp only [mvL, Qgpz]; omega, mvL_ok ht hf s g N⟩
 have hfit : Xqz ⟨s, mvL t s g N⟩ = 0 := by
  have hm' : ¬ mayP s ≠ 0 := by omega
  rw [Xqz, if_neg hm', if_neg]
  show ¬ _ ≠ Xdz s
  rw [Xdz, if_pos hm]
  simp only [mvL, Qgpz]
  omega
 have hmk : mkT ⟨s, mvL t s g N⟩ = (mvT t s g, 0) := by rw [mkT, if_neg (by omega), mvT, hNN]
 have hmake := Qhgz ⟨s, mvL t s g N⟩ hok
 rw [hmk] at hmake
 have hlN : (mvL t s g N).length = N := Qgpz _ _ _ _
 simp only [hlN] at hmake
 have hgat := Qirz s Qejz 82 [.rp [.sl t.shape.length (ints t.shape), .sl t.el.length (Qqz t.el)] 0, .rp [.fn (.func f) [] caps] 0] (fun i => if isAt t (g (idxL s (i : Nat))) then Qhxz t (g (idxL s (i : Nat))) else r0) (fun i => isAt t (g (idxL s (i : Nat)))) N hs hm hN (by simp [cloL, clo, Qbz, Qiz, hc]) (fun i hi =>
  mv1_spec t ht hf f caps hc (idxL s (i : Nat)) (g (idxL s (i : Nat))) (by rw [Z3z]; omega) (hp _ (Z3z _ _) (Qlez m2 _)).1 (hp _ (Z3z _ _) (Qlez m2 _)).2)
 refine Fc.keep (Fc.bodyT Qgz Tryz.func41 w41 rfl Tryz.ntmps41 Tryz.results41 (zLe rfl) ?_)
 (refine Zo ?_;repeat' ((with_reducible first|refine Zk ?_|(first|apply Za|apply Zb|apply Zc|apply Zd)<;>intro h)<;>try simp -implicitDefEqProofs (maxSteps:=9^7) (disch:=first|omega|(simp only [lens];omega)) only [go_sem]))
 refine (int_val 0 (by decide) (by decide)).call ⟨.self rfl, trivial⟩ (Qgtz _) ?_
 (refine Zo ?_;repeat' ((with_reducible first|refine Zk ?_|(first|apply Za|apply Zb|apply Zc|apply Zd)<;>intro h)<;>try simp -implicitDefEqProofs (maxSteps:=9^7) (disch:=first|omega|(simp only [lens];omega)) only [go_sem]))
 refine Fc.sealed (r := 0) rfl (by simp [cloL, clo, Qbz, Qiz]) ?_
 refine Fc.sealed (r := 1) rfl (by simp [cloL, clo, hc]) ?_
 have e : szL 1 [.fn (.func f) [] caps] (szL 0 [.sl t.shape.length (ints t.shape), .sl t.el.length (Qqz t.el)] [.sl s.length (ints s), .agg [.bool (intQ 0).neg, .sl (dg B32 (intQ 0).num).length (nats .u32 (dg B32 (intQ 0).num)), .sl (dg B32 (intQ 0).den).length (nats .u32 (dg B32 (intQ 0).den))], .fn (.func 82) [] [.ptr 0 0, .ptr 1 0]]) =
   [.sl s.length (ints s), rawV Qejz, .fn (.func 82) [] [.rp [.sl t.shape.length (ints t.shape), .sl t.el.length (Qqz t.el)] 0, .rp [.fn (.func f) [] caps] 0]] := by
  simp only [szL, sz, Q0z _ _ _ (Qbz _), Q0z _ _ _ (Qiz _), Q0z _ _ _ hc, Q0z _ _ _ (Qkz _ _), if_true, Nat.one_ne_zero, if_false]
  rfl
 rw [e]
 refine Fc.pure hgat (by simp [cloL, clo, Qbz, Qiz, hc, XHz]) (fun g => by simp [ren, QSz _ _ (Qiz _)]) ?_
 rw [show gatL N Qejz (fun i => if isAt t (g (idxL s (i : Nat))) then Qhxz t (g (idxL s (i : Nat))) else r0) (fun i => isAt t (g (idxL s (i : Nat)))) = mvL t s g N from rfl]
 (refine Zo ?_;repeat' ((with_reducible first|refine Zk ?_|(first|apply Za|apply Zb|apply Zc|apply Zd)<;>intro h)<;>try simp -implicitDefEqProofs (maxSteps:=9^7) (disch:=first|omega|(simp only [lens];omega)) only [go_sem]))
 refine hmake.keptF ⟨.self (by simp [clo, Qbz]), .self (by simp [clo, Qiz]), trivial⟩ fun v X hv => ?_
 obtain ⟨w, e, rfl, hw, he⟩ := hv.tup2
 obtain ⟨a, b, rfl, ha, hb⟩ := hw.agg2
 obtain ⟨ka, ca, sa⟩ := QJz ha.gd
 obtain ⟨kb, cb, sb⟩ := QJz hb.gd
 rw [he.gd.int_inv]
 (refine Zo ?_;repeat' ((with_reducible first|refine Zk ?_|(first|apply Za|apply Zb|apply Zc|apply Zd)<;>intro h)<;>try simp -implicitDefEqProofs (maxSteps:=9^7) (disch:=first|omega|(simp only [lens];omega)) only [go_sem, ka, ca, sa, kb, cb, sb]))
 exact Gd.ret (Gd.tupL ⟨Gd.aggL ⟨(ha.set (q := 2) (by simp) _).gd, (hb.set (q := 2) (by simp) _).gd, trivial⟩, gd_i _ _, trivial⟩)
end Go.Proofs.YtjdbdmhjakfldaaGreat
end
section
namespace Go.Proofs.YtjdbdmhjakfldaaGreat
open Go.Bv
theorem two_at (r off : Nat) (i : Int) (H : Heap) (K : V → Prop) : idxw C.ty (C.ty 79) (.ptr r off) (.int .i64 i) H K = ((Qcz H r).isSome = true ∧ 0 ≤ i ∧ i < 2 ∧ K (.ptr r (off + i.toNat))) := by
 simp only [idxw, Qyz, show (C.ty 79).sl = none from rfl, t79arr, t3ok, t3size, true_and, Nat.mul_one]
 rfl
attribute [go_sem] two_at
theorem yk86 : Tryz.f86.body.all yOK = true := by kernel_rfl
def Zdz (l : List Int) : V := .fn (.func 86) [] [.rp [.sl l.length (ints l)] 0]
theorem Yrz (l : List Int) : Pu C 50 [.sl l.length (ints l)] (Zdz l) := by
 refine Fc.keep (Fc.sealR ?_)
 refine Fc.bodyT Qgz Tryz.func50 w50 rfl Tryz.ntmps50 Tryz.results50 (zLe rfl) ?_
 (refine Zo ?_;repeat' ((with_reducible first|refine Zk ?_|(first|apply Za|apply Zb|apply Zc|apply Zd)<;>intro h)<;>try simp -implicitDefEqProofs (maxSteps:=9^7) (disch:=first|omega|(simp only [lens];omega)) only [go_sem]))
 refine ⟨0, _, 1, [.sl l.length (ints l)], rfl, by simp [cloL, clo, Qbz], [], by simp, by simp, ?_⟩
 simp [sz, szL, ren, renL, Zdz, selH, Qpz]
def Qakz (l : List Int) : List (List V) := (List.range (l.length / 2)).map fun k => [.int .i64 (k : Nat), .agg [.int .i64 (l.getD (2 * k) 0), .int .i64 (l.getD (2 * k + 1) 0)]]
theorem Ytz {l : List Int} {k : Nat} (h : k < l.length / 2) : (Qakz l)[k]? = some [.int .i64 (k : Nat), .agg [.int .i64 (l.getD (2 * k) 0), .int .i64 (l.getD (2 * k + 1) 0)]] := by simp [Qakz, h]
theorem Q6z (l : List Int) : (Qakz l).length = l.length / 2 := by simp [Qakz]
theorem Zcz (s : List Int) (hs : s.length ≤ 1000000000) : Gen C 86 [.rp [.sl s.length (ints s)] 0] (Qakz s) := by
 refine Gen.of3 Qgz Tryz.func86 w86 yk86 rfl Tryz.ntmps86 Tryz.results86 (zLe rfl) (fun bs hb => by
  simp only [Qakz, List.mem_map, List.mem_range] at hb
  obtain ⟨i, _, rfl⟩ := hb
  simp [cloL, clo]) ?_
 intro G l J hW
 (refine Zo ?_;repeat' ((with_reducible first|refine Zk ?_|(first|apply Za|apply Zb|apply Zc|apply Zd)<;>intro h)<;>try simp -implicitDefEqProofs (maxSteps:=9^7) (disch:=first|omega|(simp only [lens];omega)) only [go_sem]))
 refine XMz (fun n ts H => ∃ (i : Nat), (i ≤ s.length / 2) ∧ (n = s.length / 2 - i) ∧ (H.length = i) ∧ ts.length = 26 ∧ nth ts 0 = .fn (.yield l) [] [] ∧ nth ts 1 = .rp [.sl s.length (ints s)] 0 ∧ nth ts 3 = .int .i64 ((2 * i : Nat) : Int)) ?_ (n := s.length / 2) ?_
 ·skip
  rintro n ts H ⟨i, hi, hn, hH, hL, hs0, hs1, hs3⟩
  refine Qehz [(0, .fn (.yield l) [] []), (1, .rp [.sl s.length (ints s)] 0), (3, .int .i64 ((2 * i : Nat) : Int))] hL (by simp only [zFm, hs0, hs1, hs3, true_and]; exact zNm) ?_
  clear hL hs0 hs1 hs3 ts
  refine hW _ _ _ _ ?_
  by_cases hcase : i < s.length / 2
  ·have e1 : (((2 * i : Nat) : Int) / 2) = (i : Int) := by omega
   have e2 : (((2 * i : Nat) : Int) + 1) = ((2 * i + 1 : Nat) : Int) := by omega
   (refine Zo ?_;repeat' ((with_reducible first|refine Zk ?_|(first|apply Za|apply Zb|apply Zc|apply Zd)<;>intro h)<;>try simp -implicitDefEqProofs (maxSteps:=9^7) (disch:=first|omega|(simp only [lens];omega)) only [go_sem, e1, e2]))
   rw [hH, Q6z]
   refine ⟨Ytz hcase, ⟨s.length / 2 - (i + 1), by omega, i + 1, by omega, rfl, rfl, by congr 1⟩, .inr trivial, .inr ?_⟩
   rw [List.length_replicate]; omega
  ·skip
   (refine Zo ?_;repeat' ((with_reducible first|refine Zk ?_|(first|apply Za|apply Zb|apply Zc|apply Zd)<;>intro h)<;>try simp -implicitDefEqProofs (maxSteps:=9^7) (disch:=first|omega|(simp only [lens];omega)) only [go_sem]))
   rw [Q6z]
   exact ⟨.inl trivial, .inl (by omega)⟩
 ·exact ⟨0, by omega, by omega, rfl, rfl, rfl, rfl, rfl⟩
theorem Ysz {l : List Int} {n : Nat} (hn : n = 2) : ∀ bs ∈ Qakz l, bs.length = n := fun bs hb => by
 subst hn
 simp only [Qakz, List.mem_map, List.mem_range] at hb
 obtain ⟨i, _, rfl⟩ := hb
 rfl
def addL (l x : List Int) : List Int := (List.range x.length).map fun i => x.getD i 0 + l.getD (2 * i) 0
def subL (l x : List Int) : List Int := (List.range x.length).map fun i => x.getD i 0 - l.getD (2 * i) 0
def XPz (f : Nat → Int) (x : List Int) (k : Nat) : List Int := (List.range x.length).map fun i => if i < k then f i else x.getD i 0
theorem XLz (f : Nat → Int) (x : List Int) (k : Nat) : (XPz f x k).length = x.length := by simp [XPz]
theorem Qawz (f : Nat → Int) (x : List Int) : XPz f x 0 = x := by
 refine List.ext_getElem (by simp [XPz]) fun j h1 h2 => ?_
 simp [XPz, List.getD, h2]
theorem Qayz (f : Nat → Int) (x : List Int) : XPz f x x.length = (List.range x.length).map f := by
 refine List.ext_getElem (by simp [XPz]) fun j h1 h2 => ?_
 simp [XPz] at h1 ⊢
 intro; omega
theorem Qdvz {f : Nat → Int} {x : List Int} {k : Nat} (h : k < x.length) : (XPz f x k).getD k 0 = x.getD k 0 := by simp [XPz, List.getD, h]
theorem Qaxz {f : Nat → Int} {x : List Int} {k : Nat} (h : k < x.length) : (XPz f x k).set k (f k) = XPz f x (k + 1) := by
 refine List.ext_getElem (by simp [XPz]) fun j h1 h2 => ?_
 rw [List.getElem_set]
 simp [XPz] at h1 h2 ⊢
 split
 ·rename_i e; subst e; rw [if_pos (by omega)]
 ·rename_i e
  by_cases hj : j < k
  ·rw [if_pos hj, if_pos (by omega)]
  ·rw [if_neg hj, if_neg (by omega)]
theorem Qoez (l x : List Int) (hx : x.length ≤ 1000) (hl : l.length = 2 * x.length) (hb : ∀ j, j < x.length → 0 ≤ x.getD j 0 ∧ x.getD j 0 ≤ 1024) (hc : ∀ j, j < x.length → 0 ≤ l.getD (2 * j) 0 ∧ l.getD (2 * j) 0 ≤ 1024) : Val C 51 [.sl x.length (ints x), .rp [.sl l.length (ints l)] 0] (.sl (addL l x).length (ints (addL l x))) := by
 have hv : Zdz l = .fn (.func 86) [] [.rp [.sl l.length (ints l)] 0] := rfl
 have hfin : XPz (fun i => x.getD i 0 + l.getD (2 * i) 0) x x.length = addL l x := Qayz _ _
 have hll : (addL l x).length = x.length := by simp [addL]
 refine Val.ofRet (e := 3) (s := 1) ?_ (Qbz _) (QKz _)
 refine Fc.keep (Fc.bodyT Qgz Tryz.func51 w51 rfl Tryz.ntmps51 Tryz.results51 (zLe rfl) ?_)
 (refine Zo ?_;repeat' ((with_reducible first|refine Zk ?_|(first|apply Za|apply Zb|apply Zc|apply Zd)<;>intro h)<;>try simp -implicitDefEqProofs (maxSteps:=9^7) (disch:=first|omega|(simp only [lens];omega)) only [go_sem]))
 refine Fc.ownL (ZIz x (by omega)) ⟨.self (by simp [clo, Qbz]), trivial⟩ (fun g => Qpz g _) (QKz _) fun v X hv0 => ?_
 have hkn : kn v = true ∧ cellsOf v = [v] ∧ scal v = true := by rcases hv0 with ⟨rfl, _⟩ | ⟨r, rfl, _⟩ <;> exact ⟨rfl, rfl, rfl⟩
 obtain ⟨k1, c1, s1⟩ := hkn
 have hne : ∀ r off m, v = .ref r off m → r < X.length := fun r off m e => by
  rcases hv0 with ⟨rfl, _⟩ | ⟨q, rfl, hq, _⟩
  ·cases e
  ·injection e with e; subst e; have := Qtz hq; simpa using this
 (refine Zo ?_;repeat' ((with_reducible first|refine Zk ?_|(first|apply Za|apply Zb|apply Zc|apply Zd)<;>intro h)<;>try simp -implicitDefEqProofs (maxSteps:=9^7) (disch:=first|omega|(simp only [lens];omega)) only [go_sem, k1, c1, s1]))
 refine Fc.pure (Yrz l) (by simp [cloL, clo, Qbz]) (fun g => by simp [Zdz, ren, renL, Qpz]) ?_
 (refine Zo ?_;repeat' ((with_reducible first|refine Zk ?_|(first|apply Za|apply Zb|apply Zc|apply Zd)<;>intro h)<;>try simp -implicitDefEqProofs (maxSteps:=9^7) (disch:=first|omega|(simp only [lens];omega)) only [go_sem, hv]))
 refine XIz (g := 86) (lb := [.rp [.sl l.length (ints l)] 0]) (xs := Qakz l) (by simp -implicitDefEqProofs (maxSteps:=9^7) (disch := first | omega | (simp only [lens]; omega)) only [go_sem]) (by simp [cloL, clo, Qbz]) (Zcz l (by omega)) (Ysz rfl) (fun k H => Qcz H X.length = some ⟨22, 1, [v]⟩ ∧ Bv.Own 3 1 H v x.length (ints (XPz (fun i => x.getD i 0 + l.getD (2 * i) 0) x k))) ⟨by simp [Qcz], ?_⟩ ?_ ?_
 ·rw [Qawz]; exact hv0.keep _
 ·rintro k us H hk ⟨hb1, hw⟩ lv
  have hkl : k < x.length := by
   have := (List.getElem?_eq_some_iff.1 hk).1
   rw [Q6z] at this; omega
  rw [Ytz (by omega)] at hk
  injection hk with hk
  subst hk
  obtain ⟨-, h0, -⟩ | ⟨r, rfl, hr, -⟩ := hw
  ·omega
  have hrX := hne r 0 x.length rfl
  have hHX := Qtz hb1
  have hap : ∀ Y, Qcz (H ++ Y) X.length = some ⟨22, 1, [.ref r 0 x.length]⟩ := fun Y => Qaz hb1 Y
  have har : ∀ Y, Qcz (H ++ Y) r = some ⟨3, 1, ints (XPz (fun i => x.getD i 0 + l.getD (2 * i) 0) x k)⟩ := fun Y => Qaz hr Y
  have hdg := Qdvz (f := fun i => x.getD i 0 + l.getD (2 * i) 0) hkl
  have hdl := XLz (fun i => x.getD i 0 + l.getD (2 * i) 0) x k
  have hds := Qaxz (f := fun i => x.getD i 0 + l.getD (2 * i) 0) hkl
  have hb' := hb k hkl
  have hc' := hc k hkl
  (refine Qrz Qgz ?_; simp -implicitDefEqProofs (maxSteps:=9^7) (disch := first | omega | (simp only [lens]; omega)) only [go_sem, putl])
  (refine Qrz Qgz ?_; simp -implicitDefEqProofs (maxSteps:=9^7) (disch := first | omega | (simp only [lens]; omega)) only [go_sem, hap, har])
  (refine Zo ?_;repeat' ((with_reducible first|refine Zk ?_|(first|apply Za|apply Zb|apply Zc|apply Zd)<;>intro h)<;>try simp -implicitDefEqProofs (maxSteps:=9^7) (disch:=first|omega|(simp only [lens];omega)) only [go_sem, hap, har, hdg, YFz, hds, XBz]))
  refine ⟨?_, .inr ⟨r, rfl, Qez (har _), by rw [QDz, XLz]; omega⟩⟩
  rw [Qdz _ (by omega)]; exact hap _
 ·rintro H ⟨hb1, hw⟩
  rw [Q6z, show l.length / 2 = x.length by omega, hfin] at hw
  (refine Zo ?_;repeat' ((with_reducible first|refine Zk ?_|(first|apply Za|apply Zb|apply Zc|apply Zd)<;>intro h)<;>try simp -implicitDefEqProofs (maxSteps:=9^7) (disch:=first|omega|(simp only [lens];omega)) only [go_sem, hb1]))
  rw [hll]
  exact Own.ret hw (fun g => Qpz g _) fun v H h => h
theorem Qkjz (l x : List Int) (hx : x.length ≤ 1000) (hl : l.length = 2 * x.length) (hb : ∀ j, j < x.length → 0 ≤ x.getD j 0 ∧ x.getD j 0 ≤ 1024) (hc : ∀ j, j < x.length → 0 ≤ l.getD (2 * j) 0 ∧ l.getD (2 * j) 0 ≤ 1024) : Val C 57 [.sl x.length (ints x), .rp [.sl l.length (ints l)] 0] (.sl (subL l x).length (ints (subL l x))) := by
 have hv : Zdz l = .fn (.func 86) [] [.rp [.sl l.length (ints l)] 0] := rfl
 have hfin : XPz (fun i => x.getD i 0 - l.getD (2 * i) 0) x x.length = subL l x := Qayz _ _
 have hll : (subL l x).length = x.length := by simp [subL]
 refine Val.ofRet (e := 3) (s := 1) ?_ (Qbz _) (QKz _)
 refine Fc.keep (Fc.bodyT Qgz Tryz.func57 w57 rfl Tryz.ntmps57 Tryz.results57 (zLe rfl) ?_)
 (refine Zo ?_;repeat' ((with_reducible first|refine Zk ?_|(first|apply Za|apply Zb|apply Zc|apply Zd)<;>intro h)<;>try simp -implicitDefEqProofs (maxSteps:=9^7) (disch:=first|omega|(simp only [lens];omega)) only [go_sem]))
 refine Fc.ownL (ZIz x (by omega)) ⟨.self (by simp [clo, Qbz]), trivial⟩ (fun g => Qpz g _) (QKz _) fun v X hv0 => ?_
 have hkn : kn v = true ∧ cellsOf v = [v] ∧ scal v = true := by rcases hv0 with ⟨rfl, _⟩ | ⟨r, rfl, _⟩ <;> exact ⟨rfl, rfl, rfl⟩
 obtain ⟨k1, c1, s1⟩ := hkn
 have hne : ∀ r off m, v = .ref r off m → r < X.length := fun r off m e => by
  rcases hv0 with ⟨rfl, _⟩ | ⟨q, rfl, hq, _⟩
  ·cases e
  ·injection e with e; subst e; have := Qtz hq; simpa using this
 (refine Zo ?_;repeat' ((with_reducible first|refine Zk ?_|(first|apply Za|apply Zb|apply Zc|apply Zd)<;>intro h)<;>try simp -implicitDefEqProofs (maxSteps:=9^7) (disch:=first|omega|(simp only [lens];omega)) only [go_sem, k1, c1, s1]))
 refine Fc.pure (Yrz l) (by simp [cloL, clo, Qbz]) (fun g => by simp [Zdz, ren, renL, Qpz]) ?_
 (refine Zo ?_;repeat' ((with_reducible first|refine Zk ?_|(first|apply Za|apply Zb|apply Zc|apply Zd)<;>intro h)<;>try simp -implicitDefEqProofs (maxSteps:=9^7) (disch:=first|omega|(simp only [lens];omega)) only [go_sem, hv]))
 refine XIz (g := 86) (lb := [.rp [.sl l.length (ints l)] 0]) (xs := Qakz l) (by simp -implicitDefEqProofs (maxSteps:=9^7) (disch := first | omega | (simp only [lens]; omega)) only [go_sem]) (by simp [cloL, clo, Qbz]) (Zcz l (by omega)) (Ysz rfl) (fun k H => Qcz H X.length = some ⟨22, 1, [v]⟩ ∧ Bv.Own 3 1 H v x.length (ints (XPz (fun i => x.getD i 0 - l.getD (2 * i) 0) x k))) ⟨by simp [Qcz], ?_⟩ ?_ ?_
 ·rw [Qawz]; exact hv0.keep _
 ·rintro k us H hk ⟨hb1, hw⟩ lv
  have hkl : k < x.length := by
   have := (List.getElem?_eq_some_iff.1 hk).1
   rw [Q6z] at this; omega
  rw [Ytz (by omega)] at hk
  injection hk with hk
  subst hk
  obtain ⟨-, h0, -⟩ | ⟨r, rfl, hr, -⟩ := hw
  ·omega
  have hrX := hne r 0 x.length rfl
  have hHX := Qtz hb1
  have hap : ∀ Y, Qcz (H ++ Y) X.length = some ⟨22, 1, [.ref r 0 x.length]⟩ := fun Y => Qaz hb1 Y
  have har : ∀ Y, Qcz (H ++ Y) r = some ⟨3, 1, ints (XPz (fun i => x.getD i 0 - l.getD (2 * i) 0) x k)⟩ := fun Y => Qaz hr Y
  have hdg := Qdvz (f := fun i => x.getD i 0 - l.getD (2 * i) 0) hkl
  have hdl := XLz (fun i => x.getD i 0 - l.getD (2 * i) 0) x k
  have hds := Qaxz (f := fun i => x.getD i 0 - l.getD (2 * i) 0) hkl
  have hb' := hb k hkl
  have hc' := hc k hkl
  (refine Qrz Qgz ?_; simp -implicitDefEqProofs (maxSteps:=9^7) (disch := first | omega | (simp only [lens]; omega)) only [go_sem, putl])
  (refine Qrz Qgz ?_; simp -implicitDefEqProofs (maxSteps:=9^7) (disch := first | omega | (simp only [lens]; omega)) only [go_sem, hap, har])
  (refine Zo ?_;repeat' ((with_reducible first|refine Zk ?_|(first|apply Za|apply Zb|apply Zc|apply Zd)<;>intro h)<;>try simp -implicitDefEqProofs (maxSteps:=9^7) (disch:=first|omega|(simp only [lens];omega)) only [go_sem, hap, har, hdg, YFz, hds, XBz]))
  refine ⟨?_, .inr ⟨r, rfl, Qez (har _), by rw [QDz, XLz]; omega⟩⟩
  rw [Qdz _ (by omega)]; exact hap _
 ·rintro H ⟨hb1, hw⟩
  rw [Q6z, show l.length / 2 = x.length by omega, hfin] at hw
  (refine Zo ?_;repeat' ((with_reducible first|refine Zk ?_|(first|apply Za|apply Zb|apply Zc|apply Zd)<;>intro h)<;>try simp -implicitDefEqProofs (maxSteps:=9^7) (disch:=first|omega|(simp only [lens];omega)) only [go_sem, hb1]))
  rw [hll]
  exact Own.ret hw (fun g => Qpz g _) fun v H h => h
end Go.Proofs.YtjdbdmhjakfldaaGreat
end
section
namespace Go.Proofs.YtjdbdmhjakfldaaGreat
open Go.Bv
theorem Qgbz {e s e' s' : Nat} {H : Heap} {v : V} {n q : Nat} {cs cs' : List V} {z : Option Row} (h : Bv.Own e s H v n cs) (hq : Qcz H q = some ⟨e', s', cs'⟩) (hne : e' ≠ e) : Bv.Own e s (H.set q z) v n cs := by
 rcases h with h | ⟨r, h, hr, hl⟩
 ·exact .inl h
 ·refine .inr ⟨r, h, ?_, hl⟩
  rw [Qdz]
  ·exact hr
  ·rintro rfl; rw [hq] at hr; injection hr with hr; injection hr with hr; exact hne hr
theorem Xvz {e s e' s' : Nat} {H H' : Heap} {v : V} {n q : Nat} {cs cs' : List V} (h : Bv.Own e s H v n cs) (hF : Fr v H H') (hq : Qcz H q = some ⟨e', s', cs'⟩) (hne : e' ≠ e) : Qcz H' q = some ⟨e', s', cs'⟩ := hF q _ (by
 rintro off m rfl
 rcases h with ⟨h, _⟩ | ⟨r, h, hr, _⟩
 ·cases h
 ·injection h with h _ _; subst h; rw [hq] at hr; injection hr with hr; injection hr with hr; exact hne hr) hq
def tabI (f : Nat → Int) (k : Nat) : List Int := (List.range k).map f
theorem Q8z (f : Nat → Int) (k : Nat) : (tabI f k).length = k := by simp [tabI]
theorem Qcqz (f : Nat → Int) (k : Nat) : tabI f (k + 1) = tabI f k ++ [f k] := by simp [tabI, List.range_succ]
theorem Zpz {f : Nat → Int} {k j : Nat} (h : j < k) : (tabI f k).getD j 0 = f j := by simp [tabI, List.getD, h]
theorem Qfbz : ∀ {a b : List Int}, a.length = b.length → (∀ j, j < a.length → 1 ≤ a.getD j 0 ∧ a.getD j 0 ≤ b.getD j 0) → Qlz a ≤ Qlz b
 | [], [], _, _ => by simp [Qlz]
 | x :: a, y :: b, hl, h => by
  have h0 := h 0 (by simp)
  have hr := Qfbz (a := a) (b := b) (by simpa using hl) fun j hj => by simpa using h (j + 1) (by simpa using hj)
  have hp : 1 ≤ Qlz a := Q5z (Xlz.2 fun j hj => by have := h (j + 1) (by simpa using hj); simpa using this.1)
  simp only [List.getD_cons_zero] at h0
  show x * Qlz a ≤ y * Qlz b
  have h1 := Int.mul_le_mul_of_nonneg_right h0.2 (show 0 ≤ Qlz a by omega)
  have h2 := Int.mul_le_mul_of_nonneg_left hr (show 0 ≤ y by omega)
  omega
theorem mayP_ok {s : List Int} (h1 : s.length ≤ 4) (h2 : ∀ j, j < s.length → 1 ≤ s.getD j 0) (h3 : Qlz s ≤ 1024) : mayP s = 0 := by
 have : s.all (fun d => decide (1 ≤ d)) = true := by simpa using Xlz.2 h2
 rw [mayP, if_neg (by omega), if_pos this, if_neg (by omega)]
theorem QXz {t : Tn} (h : mayT t = 0) : Xqz t = 0 ∧ mayP t.shape = 0 ∧ (t.el.length : Int) = Qlz t.shape := by
 have hf : Xqz t = 0 := Classical.byContradiction fun hn => by rw [mayT, if_pos hn] at h; exact hn h
 have hm : mayP t.shape = 0 := Classical.byContradiction fun hn => by rw [Xqz, if_pos hn] at hf; exact hn hf
 refine ⟨hf, hm, ?_⟩
 rw [Xqz, if_neg (by omega)] at hf
 split at hf
 ·cases hf
 ·rename_i h; rw [Xdz, if_pos hm] at h; omega
theorem Qmoz {y : Ty} {e e' s' k : Nat} {v : V} {H : Heap} {xs : List Int} {x : Int} {r1 : Option Row} {K : V → Heap → Prop} (h : Bv.Own e 1 H v k (ints xs)) (hk : k = xs.length) (hy : y.size = 1) (hb : 0 < y.bytes ∧ y.bytes ≤ 8) (hl : xs.length + 1 ≤ 17592186044416)
  (hK : ∀ v' H', Bv.Own e 1 H' v' (k + 1) (ints (xs ++ [x])) → Fr v (H ++ [r1]) H' → kn v' = true ∧ cellsOf v' = [v'] ∧ scal v' = true → K v' H') : appw y e v (.ref (H.length + 1) 0 1) (H ++ [r1, some ⟨e', s', [.int .i64 x]⟩]) K := by
 subst hk
 rw [show H ++ [r1, some (⟨e', s', [.int .i64 x]⟩ : Row)] = (H ++ [r1]) ++ [some ⟨e', s', [.int .i64 x]⟩] by simp, show H.length + 1 = (H ++ [r1]).length by simp]
 refine app_int (h.keep [r1]) hy hb hl fun v' H' hu' hF => hK v' H' (by simpa using hu') hF ?_
 rcases hu' with ⟨rfl, _⟩ | ⟨r, rfl, _⟩ <;> exact ⟨rfl, rfl, rfl⟩
def Qfnz (l : List Int) (n : Nat) : Bool := (List.range n).all fun k => decide (0 ≤ l.getD (2 * k) 0 ∧ l.getD (2 * k) 0 < l.getD (2 * k + 1) 0)
def Qfoz (l s : List Int) : Bool := (List.range s.length).all fun k => decide (l.getD (2 * k + 1) 0 ≤ s.getD k 0)
theorem Qbaz {l : List Int} {n : Nat} : Qfnz l n = true ↔ ∀ k, k < n → 0 ≤ l.getD (2 * k) 0 ∧ l.getD (2 * k) 0 < l.getD (2 * k + 1) 0 := by simp [Qfnz]
theorem Qbbz {l s : List Int} : Qfoz l s = true ↔ ∀ k, k < s.length → l.getD (2 * k + 1) 0 ≤ s.getD k 0 := by simp [Qfoz]
def Ypz (t : Tn) (l : List Int) : Int := if mayT t ≠ 0 then mayT t else if l.length ≠ 2 * t.shape.length then 11 else if Qfnz l t.shape.length = false then 11 else if Qfoz l t.shape = false then 13 else 0
def Yoz (l : List Int) (n : Nat) : List Int := tabI (fun k => l.getD (2 * k + 1) 0 - l.getD (2 * k) 0) n
def errT (p : Tn) (e : Int) : Tn := if e ≠ 0 then Qnfz else p
def Qezz (t : Tn) (l : List Int) : Tn := errT (mvT t (Yoz l t.shape.length) (addL l)) (Ypz t l)
theorem errT_no {p : Tn} {e : Int} (h : e ≠ 0) : errT p e = Qnfz := if_pos h
theorem XOz {p : Tn} {e : Int} (h : e = 0) : errT p e = p := if_neg (by omega)
theorem Z4z {H : Heap} {p : Tn} {e k : Int} (h : e = k) (hk : k ≠ 0) : Gd H (.tup [.agg [.nil, .nil], .int .i64 k]) (.tup [tnV (errT p e), .int .i64 e]) := by
 rw [errT_no (by omega), h]
 exact Gd.tupL ⟨Qndz, gd_i _ _, trivial⟩
theorem Qhmz (t : Tn) (ht : TnOK t) (l : List Int) (hl : l.length ≤ 1000000000) : Val C 20 [tnV t, .sl l.length (ints l)] (.tup [tnV (Qezz t l), .int .i64 (Ypz t l)]) := by
 have hv : Zdz l = .fn (.func 86) [] [.rp [.sl l.length (ints l)] 0] := rfl
 have hs := ht.s
 unfold Qezz
 refine Fc.keep (Fc.bodyT Qgz Tryz.func20 w20 rfl Tryz.ntmps20 Tryz.results20 (zLe rfl) ?_)
 (refine Zo ?_;repeat' ((with_reducible first|refine Zk ?_|(first|apply Za|apply Zb|apply Zc|apply Zd)<;>intro h)<;>try simp -implicitDefEqProofs (maxSteps:=9^7) (disch:=first|omega|(simp only [lens];omega)) only [go_sem]))
 refine Fc.pure (ZLz t ht) (by simp [cloL, clo, Qbz, Qiz]) (fun g => rfl) ?_
 by_cases hm : mayT t = 0
 case neg =>
  (refine Zo ?_;repeat' ((with_reducible first|refine Zk ?_|(first|apply Za|apply Zb|apply Zc|apply Zd)<;>intro h)<;>try simp -implicitDefEqProofs (maxSteps:=9^7) (disch:=first|omega|(simp only [lens];omega)) only [go_sem]))
  exact Gd.ret (Z4z (by rw [Ypz, if_pos hm]) hm)
 obtain ⟨hf, hmp, hel⟩ := QXz hm
 obtain ⟨m1, m2, m3⟩ := QCz hmp
 rw [hm]
 by_cases hll : l.length = 2 * t.shape.length
 case neg =>
  (refine Zo ?_;repeat' ((with_reducible first|refine Zk ?_|(first|apply Za|apply Zb|apply Zc|apply Zd)<;>intro h)<;>try simp -implicitDefEqProofs (maxSteps:=9^7) (disch:=first|omega|(simp only [lens];omega)) only [go_sem]))
  exact Gd.ret (Z4z (by rw [Ypz, if_neg (by omega), if_pos hll]) (by decide))
 (refine Zo ?_;repeat' ((with_reducible first|refine Zk ?_|(first|apply Za|apply Zb|apply Zc|apply Zd)<;>intro h)<;>try simp -implicitDefEqProofs (maxSteps:=9^7) (disch:=first|omega|(simp only [lens];omega)) only [go_sem]))
 refine Fc.pure (Yrz l) (by simp [cloL, clo, Qbz]) (fun g => by simp [Zdz, ren, renL, Qpz]) ?_
 (refine Zo ?_;repeat' ((with_reducible first|refine Zk ?_|(first|apply Za|apply Zb|apply Zc|apply Zd)<;>intro h)<;>try simp -implicitDefEqProofs (maxSteps:=9^7) (disch:=first|omega|(simp only [lens];omega)) only [go_sem, hv]))
 refine XIz (g := 86) (lb := [.rp [.sl l.length (ints l)] 0]) (xs := Qakz l) (by simp -implicitDefEqProofs (maxSteps:=9^7) (disch := first | omega | (simp only [lens]; omega)) only [go_sem]) (by simp [cloL, clo, Qbz]) (Zcz l (by omega)) (Ysz rfl) (fun k H => (∀ j, j < k → 0 ≤ l.getD (2 * j) 0 ∧ l.getD (2 * j) 0 < l.getD (2 * j + 1) 0) ∧ Qcz H 0 = some ⟨26, 2, [.sl t.shape.length (ints t.shape), .sl t.el.length (Qqz t.el)]⟩ ∧ Qcz H 1 = some ⟨22, 1, [.sl l.length (ints l)]⟩ ∧ Qcz H 2 = some ⟨26, 2, [.nil, .nil]⟩ ∧ Qcz H 3 = some ⟨27, 1, [.int .i64 0]⟩) ⟨fun j hj => by omega, rfl, rfl, rfl, rfl⟩ ?_ ?_
 ·rintro k us H hk ⟨hI, h0, h1, h2, h3⟩ lv
  have hkl : k < t.shape.length := by
   have := (List.getElem?_eq_some_iff.1 hk).1
   rw [Q6z] at this; omega
  rw [Ytz (by omega)] at hk
  injection hk with hk
  subst hk
  have a0 : ∀ Y, Qcz (H ++ Y) 0 = some ⟨26, 2, [.sl t.shape.length (ints t.shape), .sl t.el.length (Qqz t.el)]⟩ := fun Y => Qaz h0 Y
  have a1 : ∀ Y, Qcz (H ++ Y) 1 = some ⟨22, 1, [.sl l.length (ints l)]⟩ := fun Y => Qaz h1 Y
  have a2 : ∀ Y, Qcz (H ++ Y) 2 = some ⟨26, 2, [.nil, .nil]⟩ := fun Y => Qaz h2 Y
  have a3 : ∀ Y, Qcz (H ++ Y) 3 = some ⟨27, 1, [.int .i64 0]⟩ := fun Y => Qaz h3 Y
  have b3 : ∀ Y z, Qcz ((H ++ Y).set 2 z) 3 = some ⟨27, 1, [.int .i64 0]⟩ := fun Y z => by rw [Qdz _ (by decide)]; exact a3 Y
  have b2 : ∀ Y row z, Qcz (((H ++ Y).set 2 (some row)).set 3 z) 2 = some row := fun Y row z => by rw [Qdz _ (by decide)]; exact Qez (a2 Y)
  have b33 : ∀ Y row z, Qcz (((H ++ Y).set 2 z).set 3 (some row)) 3 = some row := fun Y row z => Qez (b3 Y z)
  (refine Qrz Qgz ?_; simp -implicitDefEqProofs (maxSteps:=9^7) (disch := first | omega | (simp only [lens]; omega)) only [go_sem, putl])
  by_cases hc : 0 ≤ l.getD (2 * k) 0 ∧ l.getD (2 * k) 0 < l.getD (2 * k + 1) 0
  ·skip
   (refine Qrz Qgz ?_; simp -implicitDefEqProofs (maxSteps:=9^7) (disch := first | omega | (simp only [lens]; omega)) only [go_sem, a0])
   (refine Zo ?_;repeat' ((with_reducible first|refine Zk ?_|(first|apply Za|apply Zb|apply Zc|apply Zd)<;>intro h)<;>try simp -implicitDefEqProofs (maxSteps:=9^7) (disch:=first|omega|(simp only [lens];omega)) only [go_sem, a0, a1, a2, a3, b3, b2, b33, XBz]))
   exact allS hI hc
  ·have hno : Qfnz l t.shape.length = false := by
    rw [Bool.eq_false_iff]
    exact fun hh => hc (Qbaz.1 hh k hkl)
   (refine Qrz Qgz ?_; simp -implicitDefEqProofs (maxSteps:=9^7) (disch := first | omega | (simp only [lens]; omega)) only [go_sem, a0])
   (refine Zo ?_;repeat' ((with_reducible first|refine Zk ?_|(first|apply Za|apply Zb|apply Zc|apply Zd)<;>intro h)<;>try simp -implicitDefEqProofs (maxSteps:=9^7) (disch:=first|omega|(simp only [lens];omega)) only [go_sem, a0, a1, a2, a3, b3, b2, b33, XBz]))
   all_goals exact Gd.ret (Z4z (by rw [Ypz, if_neg (by omega), if_neg (by omega), if_pos hno]) (by decide))
 ·rintro H ⟨hI, h0, h1, h2, h3⟩
  rw [Q6z, show l.length / 2 = t.shape.length by omega] at hI
  have hyes : Qfnz l t.shape.length = true := Qbaz.2 hI
  have a0 : ∀ Y, Qcz (H ++ Y) 0 = some ⟨26, 2, [.sl t.shape.length (ints t.shape), .sl t.el.length (Qqz t.el)]⟩ := fun Y => Qaz h0 Y
  have a1 : ∀ Y, Qcz (H ++ Y) 1 = some ⟨22, 1, [.sl l.length (ints l)]⟩ := fun Y => Qaz h1 Y
  have a2 : ∀ Y, Qcz (H ++ Y) 2 = some ⟨26, 2, [.nil, .nil]⟩ := fun Y => Qaz h2 Y
  have a3 : ∀ Y, Qcz (H ++ Y) 3 = some ⟨27, 1, [.int .i64 0]⟩ := fun Y => Qaz h3 Y
  have hP := Qtz h3
  (refine Zo ?_;repeat' ((with_reducible first|refine Zk ?_|(first|apply Za|apply Zb|apply Zc|apply Zd)<;>intro h)<;>try simp -implicitDefEqProofs (maxSteps:=9^7) (disch:=first|omega|(simp only [lens];omega)) only [go_sem, a0, a1]))
  refine Fc.pure (Yrz l) (by simp [cloL, clo, Qbz]) (fun g => by simp [Zdz, ren, renL, Qpz]) ?_
  (refine Zo ?_;repeat' ((with_reducible first|refine Zk ?_|(first|apply Za|apply Zb|apply Zc|apply Zd)<;>intro h)<;>try simp -implicitDefEqProofs (maxSteps:=9^7) (disch:=first|omega|(simp only [lens];omega)) only [go_sem, hv]))
  obtain ⟨P, hPe⟩ : ∃ P, P = H.length := ⟨_, rfl⟩
  rw [← hPe]
  rw [← hPe] at hP
  refine XIz (g := 86) (lb := [.rp [.sl l.length (ints l)] 0]) (xs := Qakz l) (by simp -implicitDefEqProofs (maxSteps:=9^7) (disch := first | omega | (simp only [lens]; omega)) only [go_sem]) (by simp [cloL, clo, Qbz]) (Zcz l (by omega)) (Ysz rfl) (fun k H => ∃ u, (∀ j, j < k → l.getD (2 * j + 1) 0 ≤ t.shape.getD j 0) ∧ Qcz H 0 = some ⟨26, 2, [.sl t.shape.length (ints t.shape), .sl t.el.length (Qqz t.el)]⟩ ∧ Qcz H 1 = some ⟨22, 1, [.sl l.length (ints l)]⟩ ∧ Qcz H 2 = some ⟨26, 2, [.nil, .nil]⟩ ∧ Qcz H 3 = some ⟨27, 1, [.int .i64 0]⟩ ∧ Qcz H P = some ⟨23, 1, [u]⟩ ∧ Bv.Own 3 1 H u k (ints (Yoz l k))) ⟨.nil, fun j hj => by omega, a0 _, a1 _, a2 _, a3 _, by rw [hPe]; simp [Qcz], Bv.Own.nil _ _ _⟩ ?_ ?_
  ·rintro k us H2 hk ⟨u, hJ, g0, g1, g2, g3, gP, hu⟩ lv
   have hkl : k < t.shape.length := by
    have := (List.getElem?_eq_some_iff.1 hk).1
    rw [Q6z] at this; omega
   rw [Ytz (by omega)] at hk
   injection hk with hk
   subst hk
   have c0 : ∀ Y, Qcz (H2 ++ Y) 0 = some ⟨26, 2, [.sl t.shape.length (ints t.shape), .sl t.el.length (Qqz t.el)]⟩ := fun Y => Qaz g0 Y
   have c1 : ∀ Y, Qcz (H2 ++ Y) 1 = some ⟨22, 1, [.sl l.length (ints l)]⟩ := fun Y => Qaz g1 Y
   have c2 : ∀ Y, Qcz (H2 ++ Y) 2 = some ⟨26, 2, [.nil, .nil]⟩ := fun Y => Qaz g2 Y
   have c3 : ∀ Y, Qcz (H2 ++ Y) 3 = some ⟨27, 1, [.int .i64 0]⟩ := fun Y => Qaz g3 Y
   have cP : ∀ Y, Qcz (H2 ++ Y) P = some ⟨23, 1, [u]⟩ := fun Y => Qaz gP Y
   have b3 : ∀ Y z, Qcz ((H2 ++ Y).set 2 z) 3 = some ⟨27, 1, [.int .i64 0]⟩ := fun Y z => by rw [Qdz _ (by decide)]; exact c3 Y
   have b2 : ∀ Y row z, Qcz (((H2 ++ Y).set 2 (some row)).set 3 z) 2 = some row := fun Y row z => by rw [Qdz _ (by decide)]; exact Qez (c2 Y)
   have b33 : ∀ Y row z, Qcz (((H2 ++ Y).set 2 z).set 3 (some row)) 3 = some row := fun Y row z => Qez (b3 Y z)
   have hck := hI k hkl
   have hsd := QFz m2 hkl
   (refine Qrz Qgz ?_; simp -implicitDefEqProofs (maxSteps:=9^7) (disch := first | omega | (simp only [lens]; omega)) only [go_sem, putl])
   (refine Qrz Qgz ?_; simp -implicitDefEqProofs (maxSteps:=9^7) (disch := first | omega | (simp only [lens]; omega)) only [go_sem, c0])
   by_cases hc : l.getD (2 * k + 1) 0 ≤ t.shape.getD k 0
   ·have hlv := hu.lenw (C.ty 23)
    (refine Zo ?_;repeat' ((with_reducible first|refine Zk ?_|(first|apply Za|apply Zb|apply Zc|apply Zd)<;>intro h)<;>try simp -implicitDefEqProofs (maxSteps:=9^7) (disch:=first|omega|(simp only [lens];omega)) only [go_sem, c0, cP, hlv, XBz]))
    refine Qmoz hu (by rw [Yoz, Q8z]) rfl ⟨by decide, by decide⟩ (by rw [Yoz, Q8z]; omega) fun v' H' hu' hF hk' => ?_
    have d0 := Xvz (hu.keep _) hF (c0 _) (by decide)
    have d1 := Xvz (hu.keep _) hF (c1 _) (by decide)
    have d2 := Xvz (hu.keep _) hF (c2 _) (by decide)
    have d3 := Xvz (hu.keep _) hF (c3 _) (by decide)
    have dP := Xvz (hu.keep _) hF (cP _) (by decide)
    obtain ⟨k1, k2, k3⟩ := hk'
    (refine Zo ?_;repeat' ((with_reducible first|refine Zk ?_|(first|apply Za|apply Zb|apply Zc|apply Zd)<;>intro h)<;>try simp -implicitDefEqProofs (maxSteps:=9^7) (disch:=first|omega|(simp only [lens];omega)) only [go_sem, dP, k1, k2, k3, XBz]))
    rw [Yoz, ← Qcqz (f := fun k => l.getD (2 * k + 1) 0 - l.getD (2 * k) 0)] at hu'
    exact ⟨v', allS hJ hc, by rw [Qdz _ (by omega)]; exact d0, by rw [Qdz _ (by omega)]; exact d1, by rw [Qdz _ (by omega)]; exact d2, by rw [Qdz _ (by omega)]; exact d3, Qez dP, Qgbz hu' dP (by decide)⟩
   ·have hno : Qfoz l t.shape = false := by
     rw [Bool.eq_false_iff]
     exact fun hh => hc (Qbbz.1 hh k hkl)
    (refine Zo ?_;repeat' ((with_reducible first|refine Zk ?_|(first|apply Za|apply Zb|apply Zc|apply Zd)<;>intro h)<;>try simp -implicitDefEqProofs (maxSteps:=9^7) (disch:=first|omega|(simp only [lens];omega)) only [go_sem, c0, c1, c2, c3, b3, b2, b33, XBz]))
    exact Gd.ret (Z4z (by rw [Ypz, if_neg (by omega), if_neg (by omega), if_neg (by rw [hyes]; decide), if_pos hno]) (by decide))
  ·rintro H2 ⟨u, hJ, g0, g1, g2, g3, gP, hu⟩
   rw [Q6z, show l.length / 2 = t.shape.length by omega] at hJ hu
   have hin : Qfoz l t.shape = true := Qbbz.2 hJ
   have hE : Ypz t l = 0 := by rw [Ypz, if_neg (by omega), if_neg (by omega), if_neg (by rw [hyes]; decide), if_neg (by rw [hin]; decide)]
   have hSl : (Yoz l t.shape.length).length = t.shape.length := Q8z _ _
   have hSg : ∀ j, j < t.shape.length → (Yoz l t.shape.length).getD j 0 = l.getD (2 * j + 1) 0 - l.getD (2 * j) 0 := fun j hj => Zpz hj
   have hSm : mayP (Yoz l t.shape.length) = 0 := by
    refine mayP_ok (by omega) (fun j hj => ?_) ?_
    ·have := hI j (by omega)
     rw [hSg j (by omega)]; omega
    ·have := Qfbz (a := Yoz l t.shape.length) (b := t.shape) hSl fun j hj => by
      have h1 := hI j (by omega)
      have h2 := hJ j (by omega)
      rw [hSg j (by omega)]; omega
     omega
   have hmv := ZXz t ht hf (Yoz l t.shape.length) (by omega) hSm 51 [.rp [.sl l.length (ints l)] 0] (by simp [cloL, clo, Qbz]) (addL l) (fun x hx hxb => ⟨by simp only [addL, List.length_map, List.length_range]; omega, by
    refine Qoez l x (by omega) (by omega) (fun j hj => ?_) (fun j hj => ?_)
    ·have h1 := hI j (by omega)
     have h2 := hJ j (by omega)
     have h3 := hxb j (by omega)
     have h4 := QFz m2 (i := j) (by omega)
     rw [hSg j (by omega)] at h3; omega
    ·have h1 := hI j (by omega)
     have h2 := hJ j (by omega)
     have h4 := QFz m2 (i := j) (by omega)
     omega⟩)
   rw [XOz hE, hE]
   have hku : kn u = true ∧ cellsOf u = [u] ∧ scal u = true := by rcases hu with ⟨rfl, _⟩ | ⟨r, rfl, _⟩ <;> exact ⟨rfl, rfl, rfl⟩
   obtain ⟨k1, k2, k3⟩ := hku
   (refine Zo ?_;repeat' ((with_reducible first|refine Zk ?_|(first|apply Za|apply Zb|apply Zc|apply Zd)<;>intro h)<;>try simp -implicitDefEqProofs (maxSteps:=9^7) (disch:=first|omega|(simp only [lens];omega)) only [go_sem, g0, gP, k1, k2, k3]))
   refine Fc.sealed (r := 1) g1 (by simp [cloL, clo, Qbz]) ?_
   have hu1 : sz 1 [.sl l.length (ints l)] u = u := by
    rcases hu with ⟨rfl, _⟩ | ⟨r, rfl, hr, _⟩
    ·rfl
    ·have : r ≠ 1 := by rintro rfl; rw [g1] at hr; cases hr
     simp [sz, this]
   have he : szL 1 [.sl l.length (ints l)] [.agg [.sl t.shape.length (ints t.shape), .sl t.el.length (Qqz t.el)], u, .fn (.func 51) [] [.ptr 1 0]] = [tnV t, u, .fn (.func 51) [] [.rp [.sl l.length (ints l)] 0]] := by
    simp only [szL, sz, Q0z _ _ _ (Qbz _), Q0z _ _ _ (Qiz _), hu1, if_true]
    rfl
   rw [he]
   rw [hSl] at hmv
   have hlt := Qtz gP
   refine hmv.keptF ⟨.self (QHz t), (Qgbz hu g1 (by decide)).bor' (Qbz _), .self (by simp [cloL, clo, Qbz]), trivial⟩ fun v X hv => ?_
   have f2 : Qcz (H2.set 1 none ++ X) 2 = some ⟨26, 2, [.nil, .nil]⟩ := Qaz (by rw [Qdz _ (by decide)]; exact g2) X
   have f3 : ∀ z, Qcz ((H2.set 1 none ++ X).set 2 z) 3 = some ⟨27, 1, [.int .i64 0]⟩ := fun z => by rw [Qdz _ (by decide)]; exact Qaz (by rw [Qdz _ (by decide)]; exact g3) X
   have f22 : ∀ row z, Qcz (((H2.set 1 none ++ X).set 2 (some row)).set 3 z) 2 = some row := fun row z => by rw [Qdz _ (by decide)]; exact Qez f2
   have f33 : ∀ z row, Qcz (((H2.set 1 none ++ X).set 2 z).set 3 (some row)) 3 = some row := fun z row => Qez (f3 z)
   obtain ⟨w, e, rfl, hw, he⟩ := hv.tup2
   obtain ⟨a, b, rfl, ha, hb⟩ := hw.agg2
   obtain ⟨ka, ca, sa⟩ := QJz ha.gd
   obtain ⟨kb, cb, sb⟩ := QJz hb.gd
   rw [he.gd.int_inv]
   (refine Zo ?_;repeat' ((with_reducible first|refine Zk ?_|(first|apply Za|apply Zb|apply Zc|apply Zd)<;>intro h)<;>try simp -implicitDefEqProofs (maxSteps:=9^7) (disch:=first|omega|(simp only [lens];omega)) only [go_sem, f2, f3, f22, f33, ka, ca, sa, kb, cb, sb]))
   exact Gd.ret (Gd.tupL ⟨Gd.aggL ⟨((ha.set (q := 2) (by simp; omega) _).set (q := 3) (by simp; omega) _).gd, ((hb.set (q := 2) (by simp; omega) _).set (q := 3) (by simp; omega) _).gd, trivial⟩, gd_i _ _, trivial⟩)
end Go.Proofs.YtjdbdmhjakfldaaGreat
end
section
namespace Go.Proofs.YtjdbdmhjakfldaaGreat
open Go.Bv
def negB (l : List Int) : Bool := l.any fun a => decide (a < 0)
theorem neg_spec (a : Int) : Pu C 55 [.int .i64 a] (.bool (decide (a < 0))) := by
 refine Fc.keep (Fc.bodyT Qgz Tryz.func55 w55 rfl Tryz.ntmps55 Tryz.results55 (zLe rfl) ?_)
 (refine Zo ?_;repeat' ((with_reducible first|refine Zk ?_|(first|apply Za|apply Zb|apply Zc|apply Zd)<;>intro h)<;>try simp -implicitDefEqProofs (maxSteps:=9^7) (disch:=first|omega|(simp only [lens];omega)) only [go_sem]))
 all_goals (refine Qoz (by intro g; simp only [go_sem, ren, renL]) ?_)
 all_goals (simp only [V.tup.injEq, List.cons.injEq, V.int.injEq, V.bool.injEq, true_and, and_true]; (try rw [Bool.eq_iff_iff]); (try simp only [decide_eq_true_eq, decide_eq_false_iff_not, Decidable.not_not, true_and, and_true, Bool.not_eq_true, Bool.not_eq_eq_eq_not, Bool.not_true, Bool.and_eq_true, Bool.or_eq_true, beq_iff_eq, bne_iff_ne, ne_eq, Bool.false_eq_true, false_iff, true_iff, iff_false, iff_true]); (try omega))
theorem ZWz {l : List Int} : negB l = false ↔ ∀ j, j < l.length → ¬ l.getD j 0 < 0 := by
 rw [negB, List.any_eq_false]
 simp only [decide_eq_true_eq]
 exact Xlz (xs := l) (p := fun x => ¬ x < 0)
theorem Qhdz (l : List Int) (hl : l.length ≤ 17592186044416) : Fc C 87 [.sl l.length (ints l), .fn (.func 55) [] []] [] (fun v H => (∃ i : Int, v = .int .i64 i ∧ negB l = decide (0 ≤ i)) ∧ H = []) := by
 refine Fc.keep (Fc.bodyT Qgz Tryz.func87 w87 rfl Tryz.ntmps87 Tryz.results87 (zLe rfl) ?_)
 (refine Zo ?_;repeat' ((with_reducible first|refine Zk ?_|(first|apply Za|apply Zb|apply Zc|apply Zd)<;>intro h)<;>try simp -implicitDefEqProofs (maxSteps:=9^7) (disch:=first|omega|(simp only [lens];omega)) only [go_sem]))
 refine Qfz (fun n ts H => ∃ (i : Nat), (i ≤ l.length) ∧ (∀ j, j < i → ¬ l.getD j 0 < 0) ∧ (n = l.length - i) ∧ (H = []) ∧ ts.length = 19 ∧ nth ts 0 = .sl l.length (ints l) ∧ nth ts 1 = .fn (.func 55) [] [] ∧ nth ts 7 = .int .i64 l.length ∧ nth ts 8 = .int .i64 i) ?_ (n := l.length) ?_
 ·skip
  rintro n ts H ⟨i, hi, he, hn, hH, hL, hs0, hs1, hs7, hs8⟩
  refine Qsz [(0, .sl l.length (ints l)), (1, .fn (.func 55) [] []), (7, .int .i64 l.length), (8, .int .i64 i)] hL (by simp only [zFm, hs0, hs1, hs7, hs8, true_and]; exact zNm) ?_
  clear hL hs0 hs1 hs7 hs8 ts
  refine Qrz Qgz ?_
  subst hH hn
  (refine Zo ?_;repeat' ((with_reducible first|refine Zk ?_|(first|apply Za|apply Zb|apply Zc|apply Zd)<;>intro h)<;>try simp -implicitDefEqProofs (maxSteps:=9^7) (disch:=first|omega|(simp only [lens];omega)) only [go_sem]))
  ·skip
   refine Fc.pure (neg_spec _) (by simp [go_sem, cloL, clo, Qbz, Qmz]) (by intro g; simp only [go_sem, ren, renL]) ?_
   (refine Zo ?_;repeat' ((with_reducible first|refine Zk ?_|(first|apply Za|apply Zb|apply Zc|apply Zd)<;>intro h)<;>try simp -implicitDefEqProofs (maxSteps:=9^7) (disch:=first|omega|(simp only [lens];omega)) only [go_sem]))
   ·refine ⟨[], by simp, by simp, ⟨i, rfl, ?_⟩, rfl⟩
    rw [decide_eq_true (by omega)]
    cases hb : negB l with
    | true => rfl
    | false => exact absurd (by assumption) (ZWz.1 hb i (by omega))
   ·exact ⟨_, by omega, i + 1, by omega, allS he (by omega), rfl, (by (repeat' apply And.intro) <;> (first | rfl | omega | (congr 1; omega) | assumption | (congr 1; assumption)))⟩
  ·refine ⟨[], by simp, by simp, ⟨-1, rfl, ?_⟩, rfl⟩
   rw [decide_eq_false (by omega)]
   exact ZWz.2 fun j hj => he j (by omega)
 ·exact ⟨0, by omega, fun j hj => by omega, rfl, rfl, rfl, rfl, rfl, rfl, rfl⟩
theorem Qbvz (l : List Int) (hl : l.length ≤ 17592186044416) : Pu C 54 [.sl l.length (ints l), .fn (.func 55) [] []] (.bool (negB l)) := by
 refine Fc.keep (Fc.bodyT Qgz Tryz.func54 w54 rfl Tryz.ntmps54 Tryz.results54 (zLe rfl) ?_)
 (refine Zo ?_;repeat' ((with_reducible first|refine Zk ?_|(first|apply Za|apply Zb|apply Zc|apply Zd)<;>intro h)<;>try simp -implicitDefEqProofs (maxSteps:=9^7) (disch:=first|omega|(simp only [lens];omega)) only [go_sem]))
 refine Fc.call (Qhdz l hl) (by simp [cloL, clo, Qbz]) ?_
 rintro v H' ⟨⟨i, rfl, h3⟩, rfl⟩
 simp only [ren, renH, List.map_nil, List.append_nil]
 (refine Zo ?_;repeat' ((with_reducible first|refine Zk ?_|(first|apply Za|apply Zb|apply Zc|apply Zd)<;>intro h)<;>try simp -implicitDefEqProofs (maxSteps:=9^7) (disch:=first|omega|(simp only [lens];omega)) only [go_sem]))
 (refine Qoz (by intro g; simp only [go_sem, ren, renL]) ?_)
 rw [h3]
def Qfdz (l : List Int) (n : Nat) : Bool := (List.range n).all fun k => decide (l.getD (2 * k) 0 ≤ 1024 ∧ l.getD (2 * k + 1) 0 ≤ 1024)
theorem Qalz {l : List Int} {n : Nat} : Qfdz l n = true ↔ ∀ k, k < n → l.getD (2 * k) 0 ≤ 1024 ∧ l.getD (2 * k + 1) 0 ≤ 1024 := by simp [Qfdz]
def padG (l s : List Int) (k : Nat) : Int := l.getD (2 * k) 0 + s.getD k 0 + l.getD (2 * k + 1) 0
def padS (l s : List Int) (n : Nat) : List Int := tabI (padG l s) n
def padE (t : Tn) (l : List Int) : Int := if mayT t ≠ 0 then mayT t else if l.length ≠ 2 * t.shape.length then 11 else if negB l = true then 11 else if Qfdz l t.shape.length = false then 14 else mayP (padS l t.shape t.shape.length)
def padT (t : Tn) (l : List Int) : Tn := errT (mvT t (padS l t.shape t.shape.length) (subL l)) (padE t l)
theorem pad_val (t : Tn) (ht : TnOK t) (l : List Int) (hl : l.length ≤ 1000000000) : Val C 22 [tnV t, .sl l.length (ints l)] (.tup [tnV (padT t l), .int .i64 (padE t l)]) := by
 have hv : Zdz l = .fn (.func 86) [] [.rp [.sl l.length (ints l)] 0] := rfl
 have hs := ht.s
 unfold padT
 refine Fc.keep (Fc.bodyT Qgz Tryz.func22 w22 rfl Tryz.ntmps22 Tryz.results22 (zLe rfl) ?_)
 (refine Zo ?_;repeat' ((with_reducible first|refine Zk ?_|(first|apply Za|apply Zb|apply Zc|apply Zd)<;>intro h)<;>try simp -implicitDefEqProofs (maxSteps:=9^7) (disch:=first|omega|(simp only [lens];omega)) only [go_sem]))
 refine Fc.pure (ZLz t ht) (by simp [cloL, clo, Qbz, Qiz]) (fun g => rfl) ?_
 by_cases hm : mayT t = 0
 case neg =>
  (refine Zo ?_;repeat' ((with_reducible first|refine Zk ?_|(first|apply Za|apply Zb|apply Zc|apply Zd)<;>intro h)<;>try simp -implicitDefEqProofs (maxSteps:=9^7) (disch:=first|omega|(simp only [lens];omega)) only [go_sem]))
  exact Gd.ret (Z4z (by rw [padE, if_pos hm]) hm)
 obtain ⟨hf, hmp, hel⟩ := QXz hm
 obtain ⟨m1, m2, m3⟩ := QCz hmp
 rw [hm]
 by_cases hll : l.length = 2 * t.shape.length
 case neg =>
  (refine Zo ?_;repeat' ((with_reducible first|refine Zk ?_|(first|apply Za|apply Zb|apply Zc|apply Zd)<;>intro h)<;>try simp -implicitDefEqProofs (maxSteps:=9^7) (disch:=first|omega|(simp only [lens];omega)) only [go_sem]))
  exact Gd.ret (Z4z (by rw [padE, if_neg (by omega), if_pos hll]) (by decide))
 (refine Zo ?_;repeat' ((with_reducible first|refine Zk ?_|(first|apply Za|apply Zb|apply Zc|apply Zd)<;>intro h)<;>try simp -implicitDefEqProofs (maxSteps:=9^7) (disch:=first|omega|(simp only [lens];omega)) only [go_sem]))
 refine Fc.pure (Qbvz l (by omega)) (by simp [cloL, clo, Qbz]) (fun g => rfl) ?_
 cases hneg : negB l with
 | true =>
  (refine Zo ?_;repeat' ((with_reducible first|refine Zk ?_|(first|apply Za|apply Zb|apply Zc|apply Zd)<;>intro h)<;>try simp -implicitDefEqProofs (maxSteps:=9^7) (disch:=first|omega|(simp only [lens];omega)) only [go_sem]))
  exact Gd.ret (Z4z (by rw [padE, if_neg (by omega), if_neg (by omega), if_pos hneg]) (by decide))
 | false =>
  have hn := ZWz.1 hneg
  (refine Zo ?_;repeat' ((with_reducible first|refine Zk ?_|(first|apply Za|apply Zb|apply Zc|apply Zd)<;>intro h)<;>try simp -implicitDefEqProofs (maxSteps:=9^7) (disch:=first|omega|(simp only [lens];omega)) only [go_sem]))
  refine Fc.pure (Yrz l) (by simp [cloL, clo, Qbz]) (fun g => by simp [Zdz, ren, renL, Qpz]) ?_
  (refine Zo ?_;repeat' ((with_reducible first|refine Zk ?_|(first|apply Za|apply Zb|apply Zc|apply Zd)<;>intro h)<;>try simp -implicitDefEqProofs (maxSteps:=9^7) (disch:=first|omega|(simp only [lens];omega)) only [go_sem, hv]))
  refine XIz (g := 86) (lb := [.rp [.sl l.length (ints l)] 0]) (xs := Qakz l) (by simp -implicitDefEqProofs (maxSteps:=9^7) (disch := first | omega | (simp only [lens]; omega)) only [go_sem]) (by simp [cloL, clo, Qbz]) (Zcz l (by omega)) (Ysz rfl) (fun k H => ∃ u, (∀ j, j < k → l.getD (2 * j) 0 ≤ 1024 ∧ l.getD (2 * j + 1) 0 ≤ 1024) ∧ Qcz H 0 = some ⟨26, 2, [.sl t.shape.length (ints t.shape), .sl t.el.length (Qqz t.el)]⟩ ∧ Qcz H 1 = some ⟨22, 1, [.sl l.length (ints l)]⟩ ∧ Qcz H 2 = some ⟨26, 2, [.nil, .nil]⟩ ∧ Qcz H 3 = some ⟨27, 1, [.int .i64 0]⟩ ∧ Qcz H 4 = some ⟨23, 1, [u]⟩ ∧ Bv.Own 3 1 H u k (ints (padS l t.shape k))) ⟨.nil, fun j hj => by omega, rfl, rfl, rfl, rfl, rfl, Bv.Own.nil _ _ _⟩ ?_ ?_
  ·rintro k us H2 hk ⟨u, hJ, g0, g1, g2, g3, gP, hu⟩ lv
   have hkl : k < t.shape.length := by
    have := (List.getElem?_eq_some_iff.1 hk).1
    rw [Q6z] at this; omega
   rw [Ytz (by omega)] at hk
   injection hk with hk
   subst hk
   have c0 : ∀ Y, Qcz (H2 ++ Y) 0 = some ⟨26, 2, [.sl t.shape.length (ints t.shape), .sl t.el.length (Qqz t.el)]⟩ := fun Y => Qaz g0 Y
   have c1 : ∀ Y, Qcz (H2 ++ Y) 1 = some ⟨22, 1, [.sl l.length (ints l)]⟩ := fun Y => Qaz g1 Y
   have c2 : ∀ Y, Qcz (H2 ++ Y) 2 = some ⟨26, 2, [.nil, .nil]⟩ := fun Y => Qaz g2 Y
   have c3 : ∀ Y, Qcz (H2 ++ Y) 3 = some ⟨27, 1, [.int .i64 0]⟩ := fun Y => Qaz g3 Y
   have cP : ∀ Y, Qcz (H2 ++ Y) 4 = some ⟨23, 1, [u]⟩ := fun Y => Qaz gP Y
   have b3 : ∀ Y z, Qcz ((H2 ++ Y).set 2 z) 3 = some ⟨27, 1, [.int .i64 0]⟩ := fun Y z => by rw [Qdz _ (by decide)]; exact c3 Y
   have b2 : ∀ Y row z, Qcz (((H2 ++ Y).set 2 (some row)).set 3 z) 2 = some row := fun Y row z => by rw [Qdz _ (by decide)]; exact Qez (c2 Y)
   have b33 : ∀ Y row z, Qcz (((H2 ++ Y).set 2 z).set 3 (some row)) 3 = some row := fun Y row z => Qez (b3 Y z)
   have hn0 := hn (2 * k) (by omega)
   have hn1 := hn (2 * k + 1) (by omega)
   have hsd := QFz m2 hkl
   have hsp := Ztz m2 hkl
   (refine Qrz Qgz ?_; simp -implicitDefEqProofs (maxSteps:=9^7) (disch := first | omega | (simp only [lens]; omega)) only [go_sem, putl])
   (refine Qrz Qgz ?_; simp -implicitDefEqProofs (maxSteps:=9^7) (disch := first | omega | (simp only [lens]; omega)) only [go_sem, c0])
   by_cases hc : l.getD (2 * k) 0 ≤ 1024 ∧ l.getD (2 * k + 1) 0 ≤ 1024
   ·have hlv := hu.lenw (C.ty 23)
    (refine Zo ?_;repeat' ((with_reducible first|refine Zk ?_|(first|apply Za|apply Zb|apply Zc|apply Zd)<;>intro h)<;>try simp -implicitDefEqProofs (maxSteps:=9^7) (disch:=first|omega|(simp only [lens];omega)) only [go_sem, c0, cP, hlv, XBz]))
    refine Qmoz hu (by rw [padS, Q8z]) rfl ⟨by decide, by decide⟩ (by rw [padS, Q8z]; omega) fun v' H' hu' hF hk' => ?_
    have d0 := Xvz (hu.keep _) hF (c0 _) (by decide)
    have d1 := Xvz (hu.keep _) hF (c1 _) (by decide)
    have d2 := Xvz (hu.keep _) hF (c2 _) (by decide)
    have d3 := Xvz (hu.keep _) hF (c3 _) (by decide)
    have dP := Xvz (hu.keep _) hF (cP _) (by decide)
    obtain ⟨k1, k2, k3⟩ := hk'
    (refine Zo ?_;repeat' ((with_reducible first|refine Zk ?_|(first|apply Za|apply Zb|apply Zc|apply Zd)<;>intro h)<;>try simp -implicitDefEqProofs (maxSteps:=9^7) (disch:=first|omega|(simp only [lens];omega)) only [go_sem, dP, k1, k2, k3, XBz]))
    rw [padS, show l.getD (2 * k) 0 + t.shape.getD k 0 + l.getD (2 * k + 1) 0 = padG l t.shape k from rfl, ← Qcqz (f := padG l t.shape)] at hu'
    exact ⟨v', allS hJ hc, by rw [Qdz _ (by omega)]; exact d0, by rw [Qdz _ (by omega)]; exact d1, by rw [Qdz _ (by omega)]; exact d2, by rw [Qdz _ (by omega)]; exact d3, Qez dP, Qgbz hu' dP (by decide)⟩
   ·have hno : Qfdz l t.shape.length = false := by
     rw [Bool.eq_false_iff]
     exact fun hh => hc (Qalz.1 hh k hkl)
    (refine Zo ?_;repeat' ((with_reducible first|refine Zk ?_|(first|apply Za|apply Zb|apply Zc|apply Zd)<;>intro h)<;>try simp -implicitDefEqProofs (maxSteps:=9^7) (disch:=first|omega|(simp only [lens];omega)) only [go_sem, c0, c1, c2, c3, b3, b2, b33, XBz]))
    all_goals exact Gd.ret (Z4z (by rw [padE, if_neg (by omega), if_neg (by omega), if_neg (by rw [hneg]; decide), if_pos hno]) (by decide))
  ·rintro H2 ⟨u, hJ, g0, g1, g2, g3, gP, hu⟩
   rw [Q6z, show l.length / 2 = t.shape.length by omega] at hJ hu
   have hin : Qfdz l t.shape.length = true := Qalz.2 hJ
   have hE : padE t l = mayP (padS l t.shape t.shape.length) := by rw [padE, if_neg (by omega), if_neg (by omega), if_neg (by rw [hneg]; decide), if_neg (by rw [hin]; decide)]
   have hSl : (padS l t.shape t.shape.length).length = t.shape.length := Q8z _ _
   have hSg : ∀ j, j < t.shape.length → (padS l t.shape t.shape.length).getD j 0 = l.getD (2 * j) 0 + t.shape.getD j 0 + l.getD (2 * j + 1) 0 := fun j hj => Zpz hj
   have hku : kn u = true ∧ cellsOf u = [u] ∧ scal u = true := by rcases hu with ⟨rfl, _⟩ | ⟨r, rfl, _⟩ <;> exact ⟨rfl, rfl, rfl⟩
   obtain ⟨k1, k2, k3⟩ := hku
   have hu9 : Bv.Own 3 1 H2 u (padS l t.shape t.shape.length).length (ints (padS l t.shape t.shape.length)) := by rw [hSl]; exact hu
   have hbu : Bor H2 u (.sl (padS l t.shape t.shape.length).length (ints (padS l t.shape t.shape.length))) := hu9.bor' (Qbz _)
   (refine Zo ?_;repeat' ((with_reducible first|refine Zk ?_|(first|apply Za|apply Zb|apply Zc|apply Zd)<;>intro h)<;>try simp -implicitDefEqProofs (maxSteps:=9^7) (disch:=first|omega|(simp only [lens];omega)) only [go_sem, gP, k1, k2, k3]))
   refine (Val.ofPu (Yhz (padS l t.shape t.shape.length) (by omega)) rfl rfl).call ⟨hbu, trivial⟩ rfl ?_
   by_cases hz : mayP (padS l t.shape t.shape.length) = 0
   ·have hE' : padE t l = 0 := hE.trans hz
    obtain ⟨n1, n2, n3⟩ := QCz hz
    have hmv := ZXz t ht hf (padS l t.shape t.shape.length) (by omega) hz 57 [.rp [.sl l.length (ints l)] 0] (by simp [cloL, clo, Qbz]) (subL l) (fun x hx hxb => ⟨by simp only [subL, List.length_map, List.length_range]; omega, by
     refine Qkjz l x (by omega) (by omega) (fun j hj => ?_) (fun j hj => ?_)
     ·have h3 := hxb j (by omega)
      have h4 := QFz n2 (i := j) (by omega)
      omega
     ·have h1 := hn (2 * j) (by omega)
      have h2 := hJ j (by omega)
      omega⟩)
    rw [hz]
    rw [XOz hE', hE']
    (refine Zo ?_;repeat' ((with_reducible first|refine Zk ?_|(first|apply Za|apply Zb|apply Zc|apply Zd)<;>intro h)<;>try simp -implicitDefEqProofs (maxSteps:=9^7) (disch:=first|omega|(simp only [lens];omega)) only [go_sem, g0, gP, k1, k2, k3]))
    refine Fc.sealed (r := 1) g1 (by simp [cloL, clo, Qbz]) ?_
    have hu1 : sz 1 [.sl l.length (ints l)] u = u := by
     rcases hu with ⟨rfl, _⟩ | ⟨r, rfl, hr, _⟩
     ·rfl
     ·have : r ≠ 1 := by rintro rfl; rw [g1] at hr; cases hr
      simp [sz, this]
    have he : szL 1 [.sl l.length (ints l)] [.agg [.sl t.shape.length (ints t.shape), .sl t.el.length (Qqz t.el)], u, .fn (.func 57) [] [.ptr 1 0]] = [tnV t, u, .fn (.func 57) [] [.rp [.sl l.length (ints l)] 0]] := by
     simp only [szL, sz, Q0z _ _ _ (Qbz _), Q0z _ _ _ (Qiz _), hu1, if_true]
     rfl
    rw [he]
    have hlt := Qtz gP
    refine hmv.keptF ⟨.self (QHz t), (Qgbz hu9 g1 (by decide)).bor' (Qbz _), .self (by simp [cloL, clo, Qbz]), trivial⟩ fun v X hv => ?_
    have f2 : Qcz (H2.set 1 none ++ X) 2 = some ⟨26, 2, [.nil, .nil]⟩ := Qaz (by rw [Qdz _ (by decide)]; exact g2) X
    have f3 : ∀ z, Qcz ((H2.set 1 none ++ X).set 2 z) 3 = some ⟨27, 1, [.int .i64 0]⟩ := fun z => by rw [Qdz _ (by decide)]; exact Qaz (by rw [Qdz _ (by decide)]; exact g3) X
    have f22 : ∀ row z, Qcz (((H2.set 1 none ++ X).set 2 (some row)).set 3 z) 2 = some row := fun row z => by rw [Qdz _ (by decide)]; exact Qez f2
    have f33 : ∀ z row, Qcz (((H2.set 1 none ++ X).set 2 z).set 3 (some row)) 3 = some row := fun z row => Qez (f3 z)
    obtain ⟨w, e, rfl, hw, he⟩ := hv.tup2
    obtain ⟨a, b, rfl, ha, hb⟩ := hw.agg2
    obtain ⟨ka, ca, sa⟩ := QJz ha.gd
    obtain ⟨kb, cb, sb⟩ := QJz hb.gd
    rw [he.gd.int_inv]
    (refine Zo ?_;repeat' ((with_reducible first|refine Zk ?_|(first|apply Za|apply Zb|apply Zc|apply Zd)<;>intro h)<;>try simp -implicitDefEqProofs (maxSteps:=9^7) (disch:=first|omega|(simp only [lens];omega)) only [go_sem, f2, f3, f22, f33, ka, ca, sa, kb, cb, sb]))
    exact Gd.ret (Gd.tupL ⟨Gd.aggL ⟨((ha.set (q := 2) (by simp; omega) _).set (q := 3) (by simp; omega) _).gd, ((hb.set (q := 2) (by simp; omega) _).set (q := 3) (by simp; omega) _).gd, trivial⟩, gd_i _ _, trivial⟩)
   ·have b3 : ∀ z, Qcz (H2.set 2 z) 3 = some ⟨27, 1, [.int .i64 0]⟩ := fun z => by rw [Qdz _ (by decide)]; exact g3
    have b2 : ∀ row z, Qcz ((H2.set 2 (some row)).set 3 z) 2 = some row := fun row z => by rw [Qdz _ (by decide)]; exact Qez g2
    have b33 : ∀ row z, Qcz ((H2.set 2 z).set 3 (some row)) 3 = some row := fun row z => Qez (b3 z)
    (refine Zo ?_;repeat' ((with_reducible first|refine Zk ?_|(first|apply Za|apply Zb|apply Zc|apply Zd)<;>intro h)<;>try simp -implicitDefEqProofs (maxSteps:=9^7) (disch:=first|omega|(simp only [lens];omega)) only [go_sem, g2, g3, b3, b2, b33]))
    exact Gd.ret (Z4z hE hz)
end Go.Proofs.YtjdbdmhjakfldaaGreat
end
section
namespace Go.Proofs.YtjdbdmhjakfldaaGreat
open Go.Bv
def YMz (l : List Int) : Bool := (List.range l.length).all fun i => decide (0 ≤ l.getD i 0 ∧ l.getD i 0 < l.length) && (List.range i).all fun k => decide (l.getD k 0 ≠ l.getD i 0)
def Qhyz (l : List Int) (i : Nat) : Prop := 0 ≤ l.getD i 0 ∧ l.getD i 0 < l.length ∧ ∀ k, k < i → l.getD k 0 ≠ l.getD i 0
theorem Yqz (l : List Int) : YMz l = true ↔ ∀ i, i < l.length → Qhyz l i := by
 simp only [YMz, Qhyz, List.all_eq_true, List.mem_range, Bool.and_eq_true, decide_eq_true_eq, and_assoc]
theorem Qkiz {xs : List Int} (h : YMz xs = true) : xs.Nodup := by
 rw [List.Nodup, List.pairwise_iff_getElem]
 intro i j hi hj hij he
 have := ((Yqz xs).1 h j hj)
 simp only [Qhyz] at this
 have h2 := this.2.2
 refine h2 i hij ?_
 simp only [List.getD, List.getElem?_eq_getElem hi, List.getElem?_eq_getElem hj, Option.getD_some, he]
theorem permB_mem {xs : List Int} (h : YMz xs = true) : ∀ a ∈ xs, 0 ≤ a ∧ a < xs.length := by
 intro a ha
 obtain ⟨i, hi, rfl⟩ := List.getElem_of_mem ha
 have := ((Yqz xs).1 h i hi)
 simp only [Qhyz, List.getD, List.getElem?_eq_getElem hi, Option.getD_some] at this
 exact ⟨this.1, this.2.1⟩
theorem Qiqz {ys : List Int} {i : Nat} (h : i < ys.length) : ys.getD i 0 ∈ ys := by
 simp only [List.getD, List.getElem?_eq_getElem h, Option.getD_some]; exact List.getElem_mem _
theorem Qbhz {xs ys : List Int} (hp : ys.Perm xs) (hs : ∀ p q, p < q → q < ys.length → ys.getD p 0 ≤ ys.getD q 0) : YMz xs = true ↔ ∀ i, i < ys.length → ys.getD i 0 = i := by
 have hl := hp.length_eq
 constructor
 ·intro h
  have hn : ys.Nodup := hp.nodup_iff.2 (Qkiz h)
  have hm : ∀ i, i < ys.length → 0 ≤ ys.getD i 0 ∧ ys.getD i 0 < ys.length := fun i hi => by
   have := permB_mem h _ (hp.mem_iff.1 (Qiqz hi)); rwa [← hl] at this
  have hlt : ∀ i, i + 1 < ys.length → ys.getD i 0 < ys.getD (i + 1) 0 := fun i hi => by
   have h1 := hs i (i + 1) (by omega) hi
   have h2 : ys.getD i 0 ≠ ys.getD (i + 1) 0 := by
    rw [List.Nodup, List.pairwise_iff_getElem] at hn
    have := hn i (i + 1) (by omega) hi (by omega)
    simpa only [List.getD, List.getElem?_eq_getElem hi, List.getElem?_eq_getElem (show i < ys.length by omega), Option.getD_some] using this
   omega
  have lo : ∀ i, i < ys.length → (i : Int) ≤ ys.getD i 0 := by
   intro i
   induction i with
   | zero => intro hi; exact (hm 0 hi).1
   | succ i ih => intro hi; have := ih (by omega); have := hlt i hi; omega
  have up : ∀ d i, i < ys.length → ys.length - 1 - i = d → ys.getD i 0 ≤ i := by
   intro d
   induction d with
   | zero => intro i hi hd; have := (hm i hi).2; omega
   | succ d ih => intro i hi hd; have := ih (i + 1) (by omega) (by omega); have := hlt i (by omega); omega
  intro i hi
  have := lo i hi; have := up _ i hi rfl; omega
 ·intro h
  have hn : ys.Nodup := by
   rw [List.Nodup, List.pairwise_iff_getElem]
   intro i j hi hj hij he
   have h1 := h i hi; have h2 := h j hj
   simp only [List.getD, List.getElem?_eq_getElem hi, List.getElem?_eq_getElem hj, Option.getD_some] at h1 h2
   omega
  have hn' := hp.nodup_iff.1 hn
  rw [List.Nodup, List.pairwise_iff_getElem] at hn'
  refine (Yqz xs).2 fun i hi => ?_
  obtain ⟨j, hj, he⟩ := List.getElem_of_mem (hp.mem_iff.2 (Qiqz hi))
  have h1 := h j hj
  simp only [List.getD, List.getElem?_eq_getElem hj, Option.getD_some] at h1
  simp only [Qhyz]
  refine ⟨by omega, by omega, fun k hk => ?_⟩
  have := hn' k i (by omega) hi hk
  simpa only [List.getD, List.getElem?_eq_getElem hi, List.getElem?_eq_getElem (show k < xs.length by omega), Option.getD_some] using this
theorem Perm_spec (xs : List Int) (m : Nat) (hm : m ≤ 1000) (hx : xs.length ≤ 12) : Pu C 40 [.sl xs.length (ints xs), .int .i64 (m : Nat)] (.int .i64 (if (YMz xs && decide (xs.length = m)) = true then 0 else 11)) := by
 refine Fc.keep (Fc.bodyT Qgz Tryz.func40 w40 rfl Tryz.ntmps40 Tryz.results40 (zLe rfl) ?_)
 (refine Zo ?_;repeat' ((with_reducible first|refine Zk ?_|(first|apply Za|apply Zb|apply Zc|apply Zd)<;>intro h)<;>try simp -implicitDefEqProofs (maxSteps:=9^7) (disch:=first|omega|(simp only [lens];omega)) only [go_sem]))
 refine Fc.pure (Qlzz xs) (by simp [cloL, clo, Qbz]) (fun g => Qcuz g _ (by simp [vals, cloL, clo, Qbz])) ?_
 (refine Zo ?_;repeat' ((with_reducible first|refine Zk ?_|(first|apply Za|apply Zb|apply Zc|apply Zd)<;>intro h)<;>try simp -implicitDefEqProofs (maxSteps:=9^7) (disch:=first|omega|(simp only [lens];omega)) only [go_sem]))
 refine Fc.mono (Qmbz xs hx) ?_
 rintro v H' ⟨ys, hp, hs, hR⟩
 have hr := Qbhz hp hs
 have hl := hp.length_eq
 have hmx : (if (0 : Int) > (m : Int) then 0 else (m : Int)) = (m : Int) := if_neg (by omega)
 rcases hR with ⟨rfl, h, h', rfl⟩ | ⟨rfl, rfl, _⟩
 ·obtain rfl : ys = [] := List.eq_nil_of_length_eq_zero h
  have hx : YMz xs = true := hr.2 (by simp)
  rw [hx]
  (refine Zo ?_;repeat' ((with_reducible first|refine Zk ?_|(first|apply Za|apply Zb|apply Zc|apply Zd)<;>intro h)<;>try simp -implicitDefEqProofs (maxSteps:=9^7) (disch:=first|omega|(simp only [lens];omega)) only [go_sem]))
  refine Qegz ?_
  refine Qrz Qgz ?_
  have hl0 : xs.length = 0 := hl.symm
  (refine Zo ?_;repeat' ((with_reducible first|refine Zk ?_|(first|apply Za|apply Zb|apply Zc|apply Zd)<;>intro h)<;>try simp -implicitDefEqProofs (maxSteps:=9^7) (disch:=first|omega|(simp only [lens];omega)) only [go_sem, hmx]))
  all_goals (refine Qoz (by intro g; simp only [go_sem, ren, renL]) ?_)
  ·simp; omega
  ·simp; omega
 ·skip
  (refine Zo ?_;repeat' ((with_reducible first|refine Zk ?_|(first|apply Za|apply Zb|apply Zc|apply Zd)<;>intro h)<;>try simp -implicitDefEqProofs (maxSteps:=9^7) (disch:=first|omega|(simp only [lens];omega)) only [go_sem]))
  refine Qfz (fun n ts H => ∃ (i : Nat), (i ≤ ys.length) ∧ (H = [some ⟨3, 1, ints ys⟩]) ∧ (n = ys.length - i) ∧ (∀ k, k < i → ys.getD k 0 = k) ∧ ts.length = 27 ∧ nth ts 1 = .int .i64 (m : Nat) ∧ nth ts 4 = .int .i64 0 ∧ nth ts 5 = .ref 0 0 ys.length ∧ nth ts 11 = .ref 0 0 ys.length ∧ nth ts 12 = .int .i64 ys.length ∧ nth ts 13 = .int .i64 i) ?_ (n := ys.length) ?_
  ·skip
   rintro n ts H ⟨i, hi, hH, hn, hall, hL, hs1, hs4, hs5, hs11, hs12, hs13⟩
   refine Qsz [(1, .int .i64 (m : Nat)), (4, .int .i64 0), (5, .ref 0 0 ys.length), (11, .ref 0 0 ys.length), (12, .int .i64 ys.length), (13, .int .i64 i)] hL (by simp only [zFm, hs1, hs4, hs5, hs11, hs12, hs13, true_and]; exact zNm) ?_
   clear hL hs1 hs4 hs5 hs11 hs12 hs13 ts
   refine Qrz Qgz ?_
   subst hH
   (refine Zo ?_;repeat' ((with_reducible first|refine Zk ?_|(first|apply Za|apply Zb|apply Zc|apply Zd)<;>intro h)<;>try simp -implicitDefEqProofs (maxSteps:=9^7) (disch:=first|omega|(simp only [lens];omega)) only [go_sem, hmx]))
   ·skip
    (refine Qoz (by intro g; simp only [go_sem, ren, renL]) ?_)
    have : YMz xs = false := by
     cases hb : YMz xs with
     | false => rfl
     | true => exact absurd (hr.1 hb i (by omega)) (by assumption)
    simp [this]
   ·refine ⟨ys.length - (i + 1), by omega, i + 1, by omega, rfl, fun k hk => ?_, rfl⟩
    rcases Nat.lt_or_ge k i with h1 | h1
    ·exact hall k h1
    ·obtain rfl : k = i := by omega
     assumption
   ·have : YMz xs = true := hr.2 fun k hk => hall k (by omega)
    (refine Qoz (by intro g; simp only [go_sem, ren, renL]) ?_)
    simp [this]; omega
   ·have : YMz xs = true := hr.2 fun k hk => hall k (by omega)
    (refine Qoz (by intro g; simp only [go_sem, ren, renL]) ?_)
    simp [this]; omega
  ·exact ⟨0, by omega, rfl, rfl, fun k hk => by omega, rfl, rfl, rfl, rfl, rfl, rfl, rfl⟩
end Go.Proofs.YtjdbdmhjakfldaaGreat
end
section
namespace Go.Proofs.YtjdbdmhjakfldaaGreat
open Go.Bv
end Go.Proofs.YtjdbdmhjakfldaaGreat
end
section
namespace Go.Proofs.YtjdbdmhjakfldaaGreat
open Go.Bv
end Go.Proofs.YtjdbdmhjakfldaaGreat
end
section
namespace Go.Proofs.YtjdbdmhjakfldaaGreat
open Go.Bv
end Go.Proofs.YtjdbdmhjakfldaaGreat
end
section
namespace Go.Proofs.YtjdbdmhjakfldaaGreat
open Go.Bv
end Go.Proofs.YtjdbdmhjakfldaaGreat
end
section
namespace Go.Proofs.YtjdbdmhjakfldaaGreat
open Go.Bv
end Go.Proofs.YtjdbdmhjakfldaaGreat
end
section
namespace Go.Proofs.YtjdbdmhjakfldaaGreat
open Go.Bv
end Go.Proofs.YtjdbdmhjakfldaaGreat
end
section
namespace Go.Proofs.YtjdbdmhjakfldaaGreat
open Go.Bv
end Go.Proofs.YtjdbdmhjakfldaaGreat
end
section
namespace Go.Proofs.YtjdbdmhjakfldaaGreat
open Go.Bv
end Go.Proofs.YtjdbdmhjakfldaaGreat
end
section
namespace Go.Proofs.YtjdbdmhjakfldaaGreat
open Go.Bv
end Go.Proofs.YtjdbdmhjakfldaaGreat
end
section
namespace Go.Proofs.YtjdbdmhjakfldaaGreat
open Go.Bv
section
variable {H0 X : Heap} {r L a b : Nat} {ws : List Int} {K : V → Heap → Prop} (hr : r < H0.length) (hl : ws.length = L) (hn : L ≤ 1048576)
include hr hl hn
end
end Go.Proofs.YtjdbdmhjakfldaaGreat
end
section
namespace Go.Proofs.YtjdbdmhjakfldaaGreat
open Go.Bv
end Go.Proofs.YtjdbdmhjakfldaaGreat
end
section
namespace Go.Proofs.YtjdbdmhjakfldaaGreat
open Go.Bv
end Go.Proofs.YtjdbdmhjakfldaaGreat
end
section
namespace Go.Proofs.YtjdbdmhjakfldaaGreat
open Go.Bv
def putP (p x : List Int) : Nat → List Int
 | 0 => List.replicate p.length 0
 | k + 1 => (putP p x k).set (p.getD k 0).toNat (x.getD k 0)
theorem YKz (p x : List Int) (k : Nat) : (putP p x k).length = p.length := by
 induction k with
 | zero => simp [putP]
 | succ k ih => simp [putP, ih]
theorem Qnzz (p x : List Int) (hp : p.length ≤ 1000) (hx : x.length = p.length) (hb : ∀ j, j < p.length → 0 ≤ p.getD j 0 ∧ p.getD j 0 < p.length) : Val C 42 [.sl x.length (ints x), .rp [.sl p.length (ints p)] 0] (.sl (putP p x p.length).length (ints (putP p x p.length))) := by
 refine Val.ofRet (e := 3) (s := 1) ?_ (Qbz _) (QKz _)
 refine Fc.keep (Fc.bodyT Qgz Tryz.func42 w42 rfl Tryz.ntmps42 Tryz.results42 (zLe rfl) ?_)
 (refine Zo ?_;repeat' ((with_reducible first|refine Zk ?_|(first|apply Za|apply Zb|apply Zc|apply Zd)<;>intro h)<;>try simp -implicitDefEqProofs (maxSteps:=9^7) (disch:=first|omega|(simp only [lens];omega)) only [go_sem]))
 refine YQz rfl rfl rfl rfl (by simp [t3bytes]) (by omega) ?_
 (refine Zo ?_;repeat' ((with_reducible first|refine Zk ?_|(first|apply Za|apply Zb|apply Zc|apply Zd)<;>intro h)<;>try simp -implicitDefEqProofs (maxSteps:=9^7) (disch:=first|omega|(simp only [lens];omega)) only [go_sem]))
 refine Qfz (fun n ts H => ∃ (k : Nat), (k ≤ p.length) ∧ (n = p.length - k) ∧ (Qcz H 0 = some ⟨3, 1, ints (putP p x k)⟩) ∧ ts.length = 26 ∧ nth ts 0 = .sl x.length (ints x) ∧ nth ts 1 = .rp [.sl p.length (ints p)] 0 ∧ nth ts 4 = .ref 0 0 p.length ∧ nth ts 10 = .sl p.length (ints p) ∧ nth ts 11 = .int .i64 p.length ∧ nth ts 12 = .int .i64 (k : Nat)) ?_ (n := p.length) ?_
 ·skip
  rintro n ts H ⟨k, hk, hn, h0, hL, hs0, hs1, hs4, hs10, hs11, hs12⟩
  refine Qsz [(0, .sl x.length (ints x)), (1, .rp [.sl p.length (ints p)] 0), (4, .ref 0 0 p.length), (10, .sl p.length (ints p)), (11, .int .i64 p.length), (12, .int .i64 (k : Nat))] hL (by simp only [zFm, hs0, hs1, hs4, hs10, hs11, hs12, true_and]; exact zNm) ?_
  clear hL hs0 hs1 hs4 hs10 hs11 hs12 ts
  refine Qrz Qgz ?_
  by_cases hc : k < p.length
  ·obtain ⟨b1, b2⟩ := hb k hc
   obtain ⟨d, hd⟩ : ∃ d : Nat, p.getD k 0 = d := ⟨(p.getD k 0).toNat, by omega⟩
   have hl := YKz p x k
   have hst : (putP p x k).set d (x.getD k 0) = putP p x (k + 1) := by rw [putP, hd]; rfl
   (refine Zo ?_;repeat' ((with_reducible first|refine Zk ?_|(first|apply Za|apply Zb|apply Zc|apply Zd)<;>intro h)<;>try simp -implicitDefEqProofs (maxSteps:=9^7) (disch:=first|omega|(simp only [lens];omega)) only [go_sem, hd, h0, YFz, hst]))
   exact ⟨p.length - (k + 1), by omega, k + 1, by omega, rfl, Qez h0, (by (repeat' apply And.intro) <;> (first | rfl | omega | (congr 1; omega) | assumption | (congr 1; assumption)))⟩
  ·have hks : k = p.length := by omega
   subst hks
   (refine Zo ?_;repeat' ((with_reducible first|refine Zk ?_|(first|apply Za|apply Zb|apply Zc|apply Zd)<;>intro h)<;>try simp -implicitDefEqProofs (maxSteps:=9^7) (disch:=first|omega|(simp only [lens];omega)) only [go_sem]))
   rw [YKz]
   exact Own.ret (.inr ⟨0, rfl, h0, by simp [QDz, YKz]⟩) (fun g => Qpz g _) fun v H h => h
 ·refine ⟨0, by omega, rfl, ?_, rfl, rfl, rfl, rfl, rfl, rfl, rfl⟩
  rw [putP, ← Z2z]; rfl
def Ymz (p s : List Int) : List Int := tabI (fun i => s.getD (p.getD i 0).toNat 0) p.length
def YZz (t : Tn) (p : List Int) : Int := if mayT t ≠ 0 then mayT t else if (YMz p && decide (p.length = t.shape.length)) = false then 11 else 0
def Qcpz (t : Tn) (p : List Int) : Tn := errT (mvT t (Ymz p t.shape) fun x => putP p x p.length) (YZz t p)
theorem Qrdz (hpm : ∀ s : List Int, mayP s = 0 → ∀ p : List Int, YMz p = true → p.length = s.length → mayP (Ymz p s) = 0) (t : Tn) (ht : TnOK t) (p : List Int) (hp : p.length ≤ 1048576) (hPs : t.shape.length ≤ 4 → Pu C 40 [.sl p.length (ints p), .int .i64 (t.shape.length : Nat)] (.int .i64 (if (YMz p && decide (p.length = t.shape.length)) = true then 0 else 11))) : Val C 13 [tnV t, .sl p.length (ints p)] (.tup [tnV (Qcpz t p), .int .i64 (YZz t p)]) := by
 have hs := ht.s
 unfold Qcpz
 refine Fc.keep (Fc.bodyT Qgz Tryz.func13 w13 rfl Tryz.ntmps13 Tryz.results13 (zLe rfl) ?_)
 (refine Zo ?_;repeat' ((with_reducible first|refine Zk ?_|(first|apply Za|apply Zb|apply Zc|apply Zd)<;>intro h)<;>try simp -implicitDefEqProofs (maxSteps:=9^7) (disch:=first|omega|(simp only [lens];omega)) only [go_sem]))
 refine Fc.pure (ZLz t ht) (by simp [cloL, clo, Qbz, Qiz]) (fun g => rfl) ?_
 by_cases hm : mayT t = 0
 case neg =>
  (refine Zo ?_;repeat' ((with_reducible first|refine Zk ?_|(first|apply Za|apply Zb|apply Zc|apply Zd)<;>intro h)<;>try simp -implicitDefEqProofs (maxSteps:=9^7) (disch:=first|omega|(simp only [lens];omega)) only [go_sem]))
  exact Gd.ret (Z4z (by rw [YZz, if_pos hm]) hm)
 obtain ⟨hf, hmp, hel⟩ := QXz hm
 obtain ⟨m1, m2, m3⟩ := QCz hmp
 rw [hm]
 (refine Zo ?_;repeat' ((with_reducible first|refine Zk ?_|(first|apply Za|apply Zb|apply Zc|apply Zd)<;>intro h)<;>try simp -implicitDefEqProofs (maxSteps:=9^7) (disch:=first|omega|(simp only [lens];omega)) only [go_sem]))
 refine Fc.pure (hPs (by omega)) (by simp [cloL, clo, Qbz]) (fun g => rfl) ?_
 cases hb : (YMz p && decide (p.length = t.shape.length)) with
 | false =>
  rw [if_neg (by decide)]
  (refine Zo ?_;repeat' ((with_reducible first|refine Zk ?_|(first|apply Za|apply Zb|apply Zc|apply Zd)<;>intro h)<;>try simp -implicitDefEqProofs (maxSteps:=9^7) (disch:=first|omega|(simp only [lens];omega)) only [go_sem]))
  exact Gd.ret (Z4z (by rw [YZz, if_neg (by omega), if_pos hb]) (by decide))
 | true =>
  rw [if_pos rfl]
  rw [Bool.and_eq_true, decide_eq_true_eq] at hb
  obtain ⟨hb, hpl⟩ := hb
  have hin : ∀ j, j < p.length → 0 ≤ p.getD j 0 ∧ p.getD j 0 < p.length := fun j hj => by
   have := (Yqz p).1 hb j hj
   exact ⟨this.1, this.2.1⟩
  have hE : YZz t p = 0 := by rw [YZz, if_neg (by omega), if_neg (by simp [hb, hpl])]
  rw [XOz hE, hE]
  (refine Zo ?_;repeat' ((with_reducible first|refine Zk ?_|(first|apply Za|apply Zb|apply Zc|apply Zd)<;>intro h)<;>try simp -implicitDefEqProofs (maxSteps:=9^7) (disch:=first|omega|(simp only [lens];omega)) only [go_sem]))
  refine YQz rfl rfl rfl rfl (by simp [t3bytes]) (by omega) ?_
  (refine Zo ?_;repeat' ((with_reducible first|refine Zk ?_|(first|apply Za|apply Zb|apply Zc|apply Zd)<;>intro h)<;>try simp -implicitDefEqProofs (maxSteps:=9^7) (disch:=first|omega|(simp only [lens];omega)) only [go_sem]))
  refine Qfz (fun n ts H => ∃ (k : Nat) (z : List Int), (k ≤ p.length) ∧ (n = p.length - k) ∧ (z.length = p.length) ∧ (z.take k = tabI (fun i => t.shape.getD (p.getD i 0).toNat 0) k) ∧ (Qcz H 0 = some ⟨26, 2, [.sl t.shape.length (ints t.shape), .sl t.el.length (Qqz t.el)]⟩) ∧ (Qcz H 1 = some ⟨22, 1, [.sl p.length (ints p)]⟩) ∧ (Qcz H 2 = some ⟨26, 2, [.nil, .nil]⟩) ∧ (Qcz H 3 = some ⟨3, 1, ints z⟩) ∧ ts.length = 51 ∧ nth ts 2 = .ptr 0 0 ∧ nth ts 3 = .ptr 1 0 ∧ nth ts 4 = .ptr 2 0 ∧ nth ts 8 = .ref 3 0 p.length ∧ nth ts 29 = .sl p.length (ints p) ∧ nth ts 30 = .int .i64 p.length ∧ nth ts 31 = .int .i64 (k : Nat)) ?_ (n := p.length) ?_
  ·skip
   rintro n ts H ⟨k, z, hk, hn, hz, hzt, h0, h1, h2, h3, hL, hs2, hs3, hs4, hs8, hs29, hs30, hs31⟩
   refine Qsz [(2, .ptr 0 0), (3, .ptr 1 0), (4, .ptr 2 0), (8, .ref 3 0 p.length), (29, .sl p.length (ints p)), (30, .int .i64 p.length), (31, .int .i64 (k : Nat))] hL (by simp only [zFm, hs2, hs3, hs4, hs8, hs29, hs30, hs31, true_and]; exact zNm) ?_
   clear hL hs2 hs3 hs4 hs8 hs29 hs30 hs31 ts
   refine Qrz Qgz ?_
   by_cases hc : k < p.length
   ·obtain ⟨b1, b2⟩ := hin k hc
    obtain ⟨d, hd⟩ : ∃ d : Nat, p.getD k 0 = d := ⟨(p.getD k 0).toNat, by omega⟩
    have e0 : ∀ q, Qcz (H.set 3 q) 0 = some ⟨26, 2, [.sl t.shape.length (ints t.shape), .sl t.el.length (Qqz t.el)]⟩ := fun q => by rw [Qdz _ (by decide)]; exact h0
    have e1 : ∀ q, Qcz (H.set 3 q) 1 = some ⟨22, 1, [.sl p.length (ints p)]⟩ := fun q => by rw [Qdz _ (by decide)]; exact h1
    have e2 : ∀ q, Qcz (H.set 3 q) 2 = some ⟨26, 2, [.nil, .nil]⟩ := fun q => by rw [Qdz _ (by decide)]; exact h2
    (refine Zo ?_;repeat' ((with_reducible first|refine Zk ?_|(first|apply Za|apply Zb|apply Zc|apply Zd)<;>intro h)<;>try simp -implicitDefEqProofs (maxSteps:=9^7) (disch:=first|omega|(simp only [lens];omega)) only [go_sem, hd, h0, h3, YFz]))
    refine ⟨p.length - (k + 1), by omega, k + 1, z.set k (t.shape.getD d 0), by omega, rfl, by simp [hz], ?_, e0 _, e1 _, e2 _, Qez h3, (by (repeat' apply And.intro) <;> (first | rfl | omega | (congr 1; omega) | assumption | (congr 1; assumption)))⟩
    rw [Qcqz, ← hzt, hd]
    refine List.ext_getElem (by simp; omega) fun j h1 h2 => ?_
    simp only [List.length_take, List.length_set] at h1
    rw [List.getElem_take, List.getElem_set, List.getElem_append]
    simp only [List.length_take, List.getElem_take]
    split
    ·rename_i hj; subst hj; rw [dif_neg (by omega)]; simp
    ·rename_i hj; rw [dif_pos (by omega)]
   ·have hks : k = p.length := by omega
    subst hks
    have hze : z = Ymz p t.shape := by rw [Ymz, ← hzt, ← hz, List.take_length]
    subst hze
    have hTm := hpm t.shape hmp p hb hpl
    have hmv := ZXz t ht hf (Ymz p t.shape) (by rw [hz]; omega) hTm 42 [.rp [.sl p.length (ints p)] 0] (by simp [cloL, clo, Qbz]) (fun x => putP p x p.length) (fun x hx hxb => ⟨by rw [YKz]; omega, Qnzz p x (by omega) (by omega) hin⟩)
    (refine Zo ?_;repeat' ((with_reducible first|refine Zk ?_|(first|apply Za|apply Zb|apply Zc|apply Zd)<;>intro h)<;>try simp -implicitDefEqProofs (maxSteps:=9^7) (disch:=first|omega|(simp only [lens];omega)) only [go_sem, h0, h1]))
    refine Fc.sealed (r := 1) h1 (by simp [cloL, clo, Qbz]) ?_
    have he : szL 1 [.sl p.length (ints p)] [.agg [.sl t.shape.length (ints t.shape), .sl t.el.length (Qqz t.el)], .ref 3 0 p.length, .fn (.func 42) [] [.ptr 1 0]] = [tnV t, .ref 3 0 p.length, .fn (.func 42) [] [.rp [.sl p.length (ints p)] 0]] := by
     simp only [szL, sz, Q0z _ _ _ (Qbz _), Q0z _ _ _ (Qiz _), if_true]
     rfl
    rw [he]
    have hu : Bv.Own 3 1 (H.set 1 none) (.ref 3 0 p.length) (Ymz p t.shape).length (ints (Ymz p t.shape)) := by
     rw [hz]; exact .inr ⟨3, rfl, by rw [Qdz _ (by decide)]; exact h3, by rw [QDz, hz]; omega⟩
    have hlt := Qtz h3
    refine hmv.keptF ⟨.self (QHz t), hu.bor' (Qbz _), .self (by simp [cloL, clo, Qbz]), trivial⟩ fun v X hv => ?_
    have f2 : Qcz (H.set 1 none ++ X) 2 = some ⟨26, 2, [.nil, .nil]⟩ := Qaz (by rw [Qdz _ (by decide)]; exact h2) X
    have f22 : ∀ row, Qcz ((H.set 1 none ++ X).set 2 (some row)) 2 = some row := fun row => Qez f2
    obtain ⟨w, e, rfl, hw, he⟩ := hv.tup2
    obtain ⟨a, b, rfl, ha, hb⟩ := hw.agg2
    obtain ⟨ka, ca, sa⟩ := QJz ha.gd
    obtain ⟨kb, cb, sb⟩ := QJz hb.gd
    rw [he.gd.int_inv]
    (refine Zo ?_;repeat' ((with_reducible first|refine Zk ?_|(first|apply Za|apply Zb|apply Zc|apply Zd)<;>intro h)<;>try simp -implicitDefEqProofs (maxSteps:=9^7) (disch:=first|omega|(simp only [lens];omega)) only [go_sem, f2, f22, ka, ca, sa, kb, cb, sb]))
    exact Gd.ret (Gd.tupL ⟨Gd.aggL ⟨(ha.set (q := 2) (by simp; omega) _).gd, (hb.set (q := 2) (by simp; omega) _).gd, trivial⟩, gd_i _ _, trivial⟩)
  ·exact ⟨0, List.replicate p.length 0, by omega, rfl, by simp, by simp [tabI], rfl, rfl, rfl, by rw [← Z2z]; rfl, rfl, rfl, rfl, rfl, rfl, rfl, rfl, rfl⟩
end Go.Proofs.YtjdbdmhjakfldaaGreat
end
section
namespace Go.Proofs.YtjdbdmhjakfldaaGreat
open Go.Bv
theorem Qomz {l m : List Int} (h : l.Perm m) : Qlz l = Qlz m := by
 induction h with
 | nil => rfl
 | cons a _ ih => simp only [Qlz, ih]
 | swap a b l => simp only [Qlz]; rw [← Int.mul_assoc, ← Int.mul_assoc, Int.mul_comm a b]
 | trans _ _ h1 h2 => exact h1.trans h2
theorem Qrbz {x a : List Int} (hl : a.length = x.length) (hp : YMz a = true) : (tabI (fun i => x.getD (a.getD i 0).toNat 0) a.length).Perm x := by
 have h1 := List.mergeSort_perm a (fun p q => decide (p ≤ q))
 have h2 := List.pairwise_mergeSort (le := fun p q : Int => decide (p ≤ q)) (by intro p q r; simp; omega) (by intro p q; simp; omega) a
 generalize a.mergeSort (fun p q => decide (p ≤ q)) = ys at h1 h2
 have hy := (Qbhz h1 (fun p q hpq hq => by
  rw [List.pairwise_iff_getElem] at h2
  have := h2 p q (by omega) hq hpq
  simpa [List.getD, hq, show p < ys.length by omega] using this)).1 hp
 have hyl := h1.length_eq
 have e1 : tabI (fun i => x.getD (a.getD i 0).toNat 0) a.length = a.map fun d => x.getD d.toNat 0 := by
  refine XVz (by simp [Q8z]) fun j hj => ?_
  rw [Q8z] at hj
  rw [Zpz hj]
  simp [List.getD, hj]
 have e2 : (ys.map fun d => x.getD d.toNat 0) = x := by
  refine XVz (by simp; omega) fun j hj => ?_
  have hj' : j < ys.length := by simpa using hj
  have := hy j hj'
  simp only [List.getD, List.getElem?_eq_getElem hj', Option.getD_some] at this
  simp [List.getD, hj', this]
 rw [e1]
 exact ((h1.map _).symm).trans (by rw [e2])
theorem Qnyz (s : List Int) (h0 : mayP s = 0) (p : List Int) (hp : YMz p = true) (hl : p.length = s.length) : mayP (Ymz p s) = 0 := by
 obtain ⟨h1, h2, h3⟩ := QCz h0
 have hpm : (Ymz p s).Perm s := Qrbz hl hp
 have hm : ∀ d ∈ Ymz p s, 1 ≤ d := fun d hd => h2 d (hpm.mem_iff.1 hd)
 have hln := hpm.length_eq
 unfold mayP
 rw [if_neg (by omega), if_pos (by simpa using hm), if_neg (by rw [Qomz hpm]; omega)]
theorem ZKz (t : Tn) (ht : TnOK t) (p : List Int) (hp : p.length ≤ 12) : Val C 13 [tnV t, .sl p.length (ints p)] (.tup [tnV (Qcpz t p), .int .i64 (YZz t p)]) := Qrdz Qnyz t ht p (by omega) fun h => Perm_spec p t.shape.length (by omega) hp
def Qbnz (t : Tn) (s : List Int) : Int := if mayT t ≠ 0 then mayT t else if mayP s ≠ 0 then mayP s else if (t.el.length : Int) ≠ Qlz s then 13 else 0
def reshT (t : Tn) (s : List Int) : Tn := errT (Qpbz ⟨s, t.el⟩) (Qbnz t s)
def Qatz (t : Tn) (s : List Int) : Int := if mayT t ≠ 0 then mayT t else mayP s
theorem Qflz (t : Tn) (ht : TnOK t) (s : List Int) (hs : s.length ≤ 1000000000) : Pu C 58 [tnV t, .sl s.length (ints s)] (.int .i64 (Qatz t s)) := by
 refine Fc.keep (Fc.bodyT Qgz Tryz.func58 w58 rfl Tryz.ntmps58 Tryz.results58 (zLe rfl) ?_)
 (refine Zo ?_;repeat' ((with_reducible first|refine Zk ?_|(first|apply Za|apply Zb|apply Zc|apply Zd)<;>intro h)<;>try simp -implicitDefEqProofs (maxSteps:=9^7) (disch:=first|omega|(simp only [lens];omega)) only [go_sem]))
 refine Fc.pure (ZLz t ht) (by simp [cloL, clo, Qbz, Qiz]) (fun g => rfl) ?_
 (refine Zo ?_;repeat' ((with_reducible first|refine Zk ?_|(first|apply Za|apply Zb|apply Zc|apply Zd)<;>intro h)<;>try simp -implicitDefEqProofs (maxSteps:=9^7) (disch:=first|omega|(simp only [lens];omega)) only [go_sem]))
 ·skip
  (refine Qoz (by intro g; simp only [go_sem, ren, renL]) ?_)
  rw [Qatz, if_pos (by assumption)]
 ·skip
  refine Fc.pure (Yhz s (by omega)) (by simp [go_sem, cloL, clo, Qbz, Qmz]) (by intro g; simp only [go_sem, ren, renL]) ?_
  (refine Zo ?_;repeat' ((with_reducible first|refine Zk ?_|(first|apply Za|apply Zb|apply Zc|apply Zd)<;>intro h)<;>try simp -implicitDefEqProofs (maxSteps:=9^7) (disch:=first|omega|(simp only [lens];omega)) only [go_sem]))
  (refine Qoz (by intro g; simp only [go_sem, ren, renL]) ?_)
  rw [Qatz, if_neg (by omega)]
theorem Qkgz (t : Tn) (ht : TnOK t) (s : List Int) (hs : s.length ≤ 1000000000) : Val C 24 [tnV t, .sl s.length (ints s)] (.tup [tnV (reshT t s), .int .i64 (Qbnz t s)]) := by
 have hmk := Qhgz ⟨s, t.el⟩ ⟨hs, ht.e, ht.r⟩
 unfold reshT
 refine Fc.keep (Fc.bodyT Qgz Tryz.func24 w24 rfl Tryz.ntmps24 Tryz.results24 (zLe rfl) ?_)
 (refine Zo ?_;repeat' ((with_reducible first|refine Zk ?_|(first|apply Za|apply Zb|apply Zc|apply Zd)<;>intro h)<;>try simp -implicitDefEqProofs (maxSteps:=9^7) (disch:=first|omega|(simp only [lens];omega)) only [go_sem]))
 refine Fc.pure (Qflz t ht s hs) (by simp [cloL, clo, Qbz, Qiz]) (fun g => by simp [tnV, ren, renL, Qpz, QSz _ _ (Qiz t.el)]) ?_
 by_cases h : Qatz t s = 0
 ·have hm : mayT t = 0 := Classical.byContradiction fun hn => by rw [Qatz, if_pos hn] at h; exact hn h
  have hs0 : mayP s = 0 := by rw [Qatz, if_neg (by omega)] at h; exact h
  have hE : Xqz ⟨s, t.el⟩ = Qbnz t s := by
   show (if mayP s ≠ 0 then mayP s else if (t.el.length : Int) ≠ Xdz s then 13 else 0) = _
   have hc : Xdz s = Qlz s := by rw [Xdz, if_pos hs0]
   simp only [Qbnz, hm, hs0, hc, ne_eq, not_true_eq_false, if_false]
  have hT : mkT ⟨s, t.el⟩ = (errT (Qpbz ⟨s, t.el⟩) (Qbnz t s), Qbnz t s) := by
   rw [mkT, hE, errT]
   by_cases hz : Qbnz t s = 0
   ·rw [if_neg (by omega), if_neg (by omega), hz]
   ·rw [if_pos hz, if_pos hz]
  rw [hT] at hmk
  rw [h]
  (refine Zo ?_;repeat' ((with_reducible first|refine Zk ?_|(first|apply Za|apply Zb|apply Zc|apply Zd)<;>intro h)<;>try simp -implicitDefEqProofs (maxSteps:=9^7) (disch:=first|omega|(simp only [lens];omega)) only [go_sem]))
  refine hmk.keptF ⟨.self (by simp [clo, Qbz]), .self (by simp [clo, Qiz]), trivial⟩ fun v X hv => ?_
  obtain ⟨w, e, rfl, hw, he⟩ := hv.tup2
  obtain ⟨a, b, rfl, ha, hb⟩ := hw.agg2
  obtain ⟨ka, ca, sa⟩ := QJz ha.gd
  obtain ⟨kb, cb, sb⟩ := QJz hb.gd
  rw [he.gd.int_inv]
  (refine Zo ?_;repeat' ((with_reducible first|refine Zk ?_|(first|apply Za|apply Zb|apply Zc|apply Zd)<;>intro h)<;>try simp -implicitDefEqProofs (maxSteps:=9^7) (disch:=first|omega|(simp only [lens];omega)) only [go_sem, ka, ca, sa, kb, cb, sb]))
  exact Gd.ret (Gd.tupL ⟨Gd.aggL ⟨(ha.set (q := 1) (by simp) _).gd, (hb.set (q := 1) (by simp) _).gd, trivial⟩, gd_i _ _, trivial⟩)
 ·have hE : Qbnz t s = Qatz t s := by
   unfold Qbnz Qatz at *
   by_cases hm : mayT t ≠ 0
   ·rw [if_pos hm, if_pos hm]
   ·rw [if_neg hm] at h
    rw [if_neg hm, if_neg hm, if_pos h]
  (refine Zo ?_;repeat' ((with_reducible first|refine Zk ?_|(first|apply Za|apply Zb|apply Zc|apply Zd)<;>intro h)<;>try simp -implicitDefEqProofs (maxSteps:=9^7) (disch:=first|omega|(simp only [lens];omega)) only [go_sem]))
  exact Gd.ret (Z4z hE h)
end Go.Proofs.YtjdbdmhjakfldaaGreat
end
section
namespace Go.Proofs.YtjdbdmhjakfldaaGreat
open Go.Bv
def brF (s x : List Int) (i : Nat) : Int := if s.getD i 0 - 1 < x.getD i 0 then s.getD i 0 - 1 else x.getD i 0
def brL (s x : List Int) : List Int := XPz (brF s (x.drop (x.length - s.length))) (x.drop (x.length - s.length)) s.length
theorem ints_drop (x : List Int) (k : Nat) : (ints x).drop k = ints (x.drop k) := by simp [ints]
theorem Qqhz (t : Tn) (s x : List Int) (hs : s.length ≤ 1000) (ht : t.shape.length ≤ s.length) (hx : x.length = s.length) (h1 : ∀ j, j < t.shape.length → 1 ≤ t.shape.getD j 0 ∧ t.shape.getD j 0 ≤ 1024) :
  Val C 64 [.sl x.length (ints x), .rp [.sl s.length (ints s)] 0, .rp [.sl t.shape.length (ints t.shape), .sl t.el.length (Qqz t.el)] 0] (.sl (brL t.shape x).length (ints (brL t.shape x))) := by
 obtain ⟨k0, hk0⟩ : ∃ k0 : Nat, x.length - t.shape.length = k0 := ⟨_, rfl⟩
 have e1 : (s.length : Int) - (t.shape.length : Int) = (k0 : Nat) := by omega
 have hyl : (x.drop k0).length = t.shape.length := by rw [List.length_drop]; omega
 have hbr : brL t.shape x = XPz (brF t.shape (x.drop k0)) (x.drop k0) t.shape.length := by rw [brL, hk0]
 have hk0x : k0 ≤ x.length := by omega
 have hidr := ints_drop x k0
 have hxk : x.length - k0 = (x.drop k0).length := by rw [List.length_drop]
 rw [hbr]
 refine Val.ofRet (e := 3) (s := 1) ?_ (Qbz _) (QKz _)
 refine Fc.keep (Fc.bodyT Qgz Tryz.func64 w64 rfl Tryz.ntmps64 Tryz.results64 (zLe rfl) ?_)
 (refine Zo ?_;repeat' ((with_reducible first|refine Zk ?_|(first|apply Za|apply Zb|apply Zc|apply Zd)<;>intro h)<;>try simp -implicitDefEqProofs (maxSteps:=9^7) (disch:=first|omega|(simp only [lens];omega)) only [go_sem, e1, hidr, hxk]))
 have hyb : (x.drop k0).length ≤ 1000 := by omega
 clear hbr hidr hxk
 generalize x.drop k0 = y at *
 refine Fc.ownL (ZIz y (by omega)) ⟨.self (by simp [clo, Qbz]), trivial⟩ (fun g => Qpz g _) (QKz _) fun v X hv0 => ?_
 have hkn : kn v = true ∧ cellsOf v = [v] ∧ scal v = true := by rcases hv0 with ⟨rfl, _⟩ | ⟨r, rfl, _⟩ <;> exact ⟨rfl, rfl, rfl⟩
 obtain ⟨k1, c1, s1⟩ := hkn
 (refine Zo ?_;repeat' ((with_reducible first|refine Zk ?_|(first|apply Za|apply Zb|apply Zc|apply Zd)<;>intro h)<;>try simp -implicitDefEqProofs (maxSteps:=9^7) (disch:=first|omega|(simp only [lens];omega)) only [go_sem, k1, c1, s1]))
 rw [hyl] at hv0
 refine Qfz (fun n ts H => ∃ (k : Nat), (k ≤ t.shape.length) ∧ (n = t.shape.length - k) ∧ (Bv.Own 3 1 H v t.shape.length (ints (XPz (brF t.shape y) y k))) ∧ ts.length = 37 ∧ nth ts 5 = v ∧ nth ts 18 = .sl t.shape.length (ints t.shape) ∧ nth ts 19 = .int .i64 t.shape.length ∧ nth ts 20 = .int .i64 (k : Nat)) ?_ (n := t.shape.length) ?_
 ·skip
  rintro n ts H ⟨k, hk, hn, hv, hL, hs5, hs18, hs19, hs20⟩
  refine Qsz [(5, v), (18, .sl t.shape.length (ints t.shape)), (19, .int .i64 t.shape.length), (20, .int .i64 (k : Nat))] hL (by simp only [zFm, hs5, hs18, hs19, hs20, true_and]; exact zNm) ?_
  clear hL hs5 hs18 hs19 hs20 ts
  refine Qrz Qgz ?_
  by_cases hkl : k < t.shape.length
  ·obtain ⟨-, h0', -⟩ | ⟨r, rfl, hr, -⟩ := hv
   ·omega
   have hdg := Qdvz (f := brF t.shape y) (x := y) (k := k) (by omega)
   have hdl := XLz (brF t.shape y) y k
   have hds : (XPz (brF t.shape y) y k).set k (if t.shape.getD k 0 - 1 < y.getD k 0 then t.shape.getD k 0 - 1 else y.getD k 0) = XPz (brF t.shape y) y (k + 1) := Qaxz (f := brF t.shape y) (x := y) (k := k) (by omega)
   have hb' := h1 k hkl
   (refine Zo ?_;repeat' ((with_reducible first|refine Zk ?_|(first|apply Za|apply Zb|apply Zc|apply Zd)<;>intro h)<;>try simp -implicitDefEqProofs (maxSteps:=9^7) (disch:=first|omega|(simp only [lens];omega)) only [go_sem, hr, hdg, YFz, hds]))
   exact ⟨t.shape.length - (k + 1), by omega, k + 1, by omega, rfl, .inr ⟨r, rfl, Qez hr, by rw [QDz, XLz]; omega⟩, (by (repeat' apply And.intro) <;> (first | rfl | omega | (congr 1; omega) | assumption | (congr 1; assumption)))⟩
  ·have hks : k = t.shape.length := by omega
   subst hks
   (refine Zo ?_;repeat' ((with_reducible first|refine Zk ?_|(first|apply Za|apply Zb|apply Zc|apply Zd)<;>intro h)<;>try simp -implicitDefEqProofs (maxSteps:=9^7) (disch:=first|omega|(simp only [lens];omega)) only [go_sem, k1, c1, s1]))
   rw [XLz, hyl]
   exact Own.ret hv (fun g => Qpz g _) fun v H h => h
 ·exact ⟨0, by omega, rfl, by rw [Qawz]; exact hv0, rfl, rfl, rfl, rfl, rfl⟩
def brcE (t : Tn) (s : List Int) : Int := if mayT t ≠ 0 then mayT t else if mayP s ≠ 0 then mayP s else if okB t.shape s = false then 13 else 0
def brcT (t : Tn) (s : List Int) : Tn := errT (mvT t s (brL t.shape)) (brcE t s)
theorem Qguz (t : Tn) (ht : TnOK t) (s : List Int) (hs : s.length ≤ 1000000000) : Val C 31 [tnV t, .sl s.length (ints s)] (.tup [tnV (brcT t s), .int .i64 (brcE t s)]) := by
 have hts := ht.s
 unfold brcT
 refine Fc.keep (Fc.bodyT Qgz Tryz.func31 w31 rfl Tryz.ntmps31 Tryz.results31 (zLe rfl) ?_)
 (refine Zo ?_;repeat' ((with_reducible first|refine Zk ?_|(first|apply Za|apply Zb|apply Zc|apply Zd)<;>intro h)<;>try simp -implicitDefEqProofs (maxSteps:=9^7) (disch:=first|omega|(simp only [lens];omega)) only [go_sem]))
 refine Fc.pure (Qflz t ht s hs) (by simp [cloL, clo, Qbz, Qiz]) (fun g => by simp [tnV, ren, renL, Qpz, QSz _ _ (Qiz t.el)]) ?_
 by_cases hf : Qatz t s = 0
 case neg =>
  have hE : brcE t s = Qatz t s := by
   unfold brcE Qatz at *
   by_cases hm : mayT t ≠ 0
   ·rw [if_pos hm, if_pos hm]
   ·rw [if_neg hm] at hf
    rw [if_neg hm, if_neg hm, if_pos hf]
  (refine Zo ?_;repeat' ((with_reducible first|refine Zk ?_|(first|apply Za|apply Zb|apply Zc|apply Zd)<;>intro h)<;>try simp -implicitDefEqProofs (maxSteps:=9^7) (disch:=first|omega|(simp only [lens];omega)) only [go_sem]))
  exact Gd.ret (Z4z hE hf)
 have hm : mayT t = 0 := Classical.byContradiction fun hn => by rw [Qatz, if_pos hn] at hf; exact hn hf
 have hs0 : mayP s = 0 := by rw [Qatz, if_neg (by omega)] at hf; exact hf
 obtain ⟨hft, hmp, hel⟩ := QXz hm
 obtain ⟨m1, m2, m3⟩ := QCz hmp
 obtain ⟨s1, s2, s3⟩ := QCz hs0
 rw [hf]
 (refine Zo ?_;repeat' ((with_reducible first|refine Zk ?_|(first|apply Za|apply Zb|apply Zc|apply Zd)<;>intro h)<;>try simp -implicitDefEqProofs (maxSteps:=9^7) (disch:=first|omega|(simp only [lens];omega)) only [go_sem]))
 refine Fc.pure (Fits_spec t.shape s (by omega) (by omega)) (by simp [cloL, clo, Qbz]) (fun g => rfl) ?_
 have hfp : Qiuz t.shape s = if okB t.shape s = true then 0 else 13 := by rw [Qiuz, if_pos hmp, if_pos hs0]
 cases hok : okB t.shape s with
 | false =>
  have hE : brcE t s = 13 := by simp [brcE, hm, hs0, hok]
  rw [hok, if_neg (by decide)] at hfp
  rw [hfp]
  (refine Zo ?_;repeat' ((with_reducible first|refine Zk ?_|(first|apply Za|apply Zb|apply Zc|apply Zd)<;>intro h)<;>try simp -implicitDefEqProofs (maxSteps:=9^7) (disch:=first|omega|(simp only [lens];omega)) only [go_sem]))
  exact Gd.ret (Z4z hE (by decide))
 | true =>
  have hE : brcE t s = 0 := by simp [brcE, hm, hs0, hok]
  rw [hok, if_pos rfl] at hfp
  rw [hfp, XOz hE, hE]
  obtain ⟨o1, o2⟩ := (Qdez _ _).1 hok
  have hmv := ZXz t ht hft s hs hs0 64 [.rp [.sl s.length (ints s)] 0, .rp [.sl t.shape.length (ints t.shape), .sl t.el.length (Qqz t.el)] 0] (by simp [cloL, clo, Qbz, Qiz]) (brL t.shape) (fun x hx hxb => ⟨by rw [brL, XLz, List.length_drop]; omega, Qqhz t s x (by omega) o1 hx fun j hj => by
   have h1 := Ztz m2 hj
   have h2 := QFz m2 hj
   omega⟩)
  (refine Zo ?_;repeat' ((with_reducible first|refine Zk ?_|(first|apply Za|apply Zb|apply Zc|apply Zd)<;>intro h)<;>try simp -implicitDefEqProofs (maxSteps:=9^7) (disch:=first|omega|(simp only [lens];omega)) only [go_sem]))
  refine Fc.sealed (r := 0) rfl (by simp [cloL, clo, Qbz, Qiz]) ?_
  refine Fc.sealed (r := 1) rfl (by simp [cloL, clo, Qbz]) ?_
  have he : szL 1 [.sl s.length (ints s)] (szL 0 [.sl t.shape.length (ints t.shape), .sl t.el.length (Qqz t.el)] [.agg [.sl t.shape.length (ints t.shape), .sl t.el.length (Qqz t.el)], .sl s.length (ints s), .fn (.func 64) [] [.ptr 1 0, .ptr 0 0]]) = [tnV t, .sl s.length (ints s), .fn (.func 64) [] [.rp [.sl s.length (ints s)] 0, .rp [.sl t.shape.length (ints t.shape), .sl t.el.length (Qqz t.el)] 0]] := by
   simp only [szL, sz, Q0z _ _ _ (Qbz _), Q0z _ _ _ (Qiz _), if_true, Nat.one_ne_zero, Nat.zero_ne_one, if_false]
   rfl
  rw [he]
  refine hmv.keptF ⟨.self (QHz t), .self (by simp [clo, Qbz]), .self (by simp [cloL, clo, Qbz, Qiz]), trivial⟩ fun v X hv => ?_
  obtain ⟨w, e, rfl, hw, he⟩ := hv.tup2
  obtain ⟨a, b, rfl, ha, hb⟩ := hw.agg2
  obtain ⟨ka, ca, sa⟩ := QJz ha.gd
  obtain ⟨kb, cb, sb⟩ := QJz hb.gd
  rw [he.gd.int_inv]
  (refine Zo ?_;repeat' ((with_reducible first|refine Zk ?_|(first|apply Za|apply Zb|apply Zc|apply Zd)<;>intro h)<;>try simp -implicitDefEqProofs (maxSteps:=9^7) (disch:=first|omega|(simp only [lens];omega)) only [go_sem, ka, ca, sa, kb, cb, sb]))
  exact Gd.ret (Gd.tupL ⟨Gd.aggL ⟨(ha.set (q := 2) (by simp) _).gd, (hb.set (q := 2) (by simp) _).gd, trivial⟩, gd_i _ _, trivial⟩)
end Go.Proofs.YtjdbdmhjakfldaaGreat
end
section
namespace Go.Proofs.YtjdbdmhjakfldaaGreat
open Go.Bv
def X0z (s l : List Int) : Tq := ⟨s, l.map intQ⟩
def QOz (s l : List Int) : Tn := Xzz (X0z s l)
theorem ints_snoc {xs : List Int} {i : Nat} (h : i < xs.length) : Zvz ((xs.map intQ).take (i + 1)) = Zvz ((xs.map intQ).take i) ++ [.bool (intQ (xs.getD i 0)).neg, DV (intQ (xs.getD i 0)).num, DV (intQ (xs.getD i 0)).den] := by
 have : (xs.map intQ).getD i q0 = intQ (xs.getD i 0) := by simp [List.getD, h]
 have hh := refs_snoc (xs := xs.map intQ) (i := i) (by simpa using h)
 rw [this] at hh
 exact hh
theorem whole_ok {s l : List Int} (hs : s.length ≤ 1000000000) (hl : l.length ≤ 1000000000) (hb : ∀ x ∈ l, -9223372036854775808 ≤ x ∧ x < 9223372036854775808) : TqOK (X0z s l) := ⟨hs, by simpa [X0z] using hl, fun x hx => by
 simp only [X0z, List.mem_map] at hx
 obtain ⟨a, ha, rfl⟩ := hx
 have := hb a ha
 refine ⟨?_, ?_⟩
 ·have : dlen a.natAbs ≤ 16 := XQz (Nat.lt_of_lt_of_le (show a.natAbs < 9223372036854775809 by omega) (by decide))
  show dlen a.natAbs ≤ _
  omega
 ·show dlen 1 ≤ _
  rw [Qgqz]; decide⟩
theorem Qqyz (s l : List Int) (hs : s.length ≤ 1000000) (hl : l.length ≤ 1000000) (hb : ∀ x ∈ l, -9223372036854775808 ≤ x ∧ x < 9223372036854775808) : Val C 49 [.sl s.length (ints s), .sl l.length (ints l)] (tnV (QOz s l)) := by
 refine Fc.keep (Fc.bodyT Qgz Tryz.func49 w49 rfl Tryz.ntmps49 Tryz.results49 (zLe rfl) ?_)
 (refine Zo ?_;repeat' ((with_reducible first|refine Zk ?_|(first|apply Za|apply Zb|apply Zc|apply Zd)<;>intro h)<;>try simp -implicitDefEqProofs (maxSteps:=9^7) (disch:=first|omega|(simp only [lens];omega)) only [go_sem]))
 refine Qfz (fun n ts H => ∃ (i : Nat) (u : V), (i ≤ l.length) ∧ (Qcz H 0 = some ⟨26, 2, [.nil, .nil]⟩) ∧ (Qcz H 1 = some ⟨34, 2, [.sl s.length (ints s), u]⟩) ∧ (Cel 2 72 3 H u i (Zvz ((l.map intQ).take i))) ∧ (n = l.length - i) ∧ ts.length = 27 ∧ nth ts 1 = .sl l.length (ints l) ∧ nth ts 4 = .ptr 0 0 ∧ nth ts 5 = .ptr 1 0 ∧ nth ts 6 = .int .i64 (i : Nat)) ?_ (n := l.length) ?_
 ·skip
  rintro n ts H ⟨i, u, hi, h0, h3, hu, hn, hL, hs1, hs4, hs5, hs6⟩
  refine Qsz [(1, .sl l.length (ints l)), (4, .ptr 0 0), (5, .ptr 1 0), (6, .int .i64 (i : Nat))] hL (by simp only [zFm, hs1, hs4, hs5, hs6, true_and]; exact zNm) ?_
  clear hL hs1 hs4 hs5 hs6 ts
  refine Qrz Qgz ?_
  have hlen := Qtz h3
  by_cases hcase : i < l.length
  ·have hx := Xlz.1 hb i hcase
   (refine Zo ?_;repeat' ((with_reducible first|refine Zk ?_|(first|apply Za|apply Zb|apply Zc|apply Zd)<;>intro h)<;>try simp -implicitDefEqProofs (maxSteps:=9^7) (disch:=first|omega|(simp only [lens];omega)) only [go_sem, h3]))
   refine Pc.keptF (Qpoz (l.getD i 0) hx.1 hx.2) (Qhqz _) ⟨.self rfl, trivial⟩ fun v X hv => ?_
   obtain ⟨v1, v2, v3, rfl, hv1, hv2, hv3⟩ := hv.agg3
   obtain ⟨k2, c2, s2⟩ := QJz hv2.gd
   obtain ⟨k3, c3, s3⟩ := QJz hv3.gd
   have e1 := hv1.gd.bool_inv
   subst e1
   (refine Zo ?_;repeat' ((with_reducible first|refine Zk ?_|(first|apply Za|apply Zb|apply Zc|apply Zd)<;>intro h)<;>try simp -implicitDefEqProofs (maxSteps:=9^7) (disch:=first|omega|(simp only [lens];omega)) only [go_sem, h3, k2, c2, s2, k3, c3, s3]))
   refine Cel.push3 hu rfl rfl (by omega) (by omega) hv2 hv3 s2 s3 fun v' H' hu' hk' k4 c4 s4 => ?_
   have g0 := hk' 0 _ (by decide) h0
   have g3 := hk' 1 _ (by decide) h3
   (refine Zo ?_;repeat' ((with_reducible first|refine Zk ?_|(first|apply Za|apply Zb|apply Zc|apply Zd)<;>intro h)<;>try simp -implicitDefEqProofs (maxSteps:=9^7) (disch:=first|omega|(simp only [lens];omega)) only [go_sem, g3, k4, c4, s4]))
   have f0 : ∀ (q : Nat) (row : Row) (z : Option Row), q ≠ 1 → Qcz H' q = some row → Qcz (H'.set 1 z) q = some row := fun q row z hq hr => by rw [Qdz _ (Ne.symm hq)]; exact hr
   refine ⟨l.length - (i + 1), by omega, i + 1, v', by omega, f0 0 _ _ (by decide) g0, Qez g3, ?_, rfl, by congr 1⟩
   rw [ints_snoc hcase]
   exact Cel.set hu' (by decide) _
  ·obtain ⟨k4, c4, s4⟩ := Cel.kn hu
   have hil : i = l.length := by omega
   rw [hil, List.take_of_length_le (by simp)] at hu
   have hg : Bor H (.agg [.sl s.length (ints s), u]) (tqV (X0z s l)) := Bor.aggL ⟨.self (by simp [clo, Qbz]), by simpa [X0z] using (Cel.gd hu).bor, trivial⟩
   (refine Zo ?_;repeat' ((with_reducible first|refine Zk ?_|(first|apply Za|apply Zb|apply Zc|apply Zd)<;>intro h)<;>try simp -implicitDefEqProofs (maxSteps:=9^7) (disch:=first|omega|(simp only [lens];omega)) only [go_sem, h3, k4, c4, s4]))
   refine (Qluz (X0z s l) (whole_ok (by omega) (by omega) hb)).keptF ⟨hg, trivial⟩ fun v X hv => ?_
   obtain ⟨a, b, rfl, ha, hb'⟩ := hv.agg2
   obtain ⟨ka, ca, sa⟩ := QJz ha.gd
   obtain ⟨kb, cb, sb⟩ := QJz hb'.gd
   have a0 := Qaz h0 X
   have hst : ∀ z : Row, Qcz ((H ++ X).set 0 (some z)) 0 = some z := fun z => Qez a0
   (refine Zo ?_;repeat' ((with_reducible first|refine Zk ?_|(first|apply Za|apply Zb|apply Zc|apply Zd)<;>intro h)<;>try simp -implicitDefEqProofs (maxSteps:=9^7) (disch:=first|omega|(simp only [lens];omega)) only [go_sem, a0, hst, ka, ca, sa, kb, cb, sb]))
   exact Gd.ret (Gd.aggL ⟨(ha.set (q := 0) (by omega) _).gd, (hb'.set (q := 0) (by omega) _).gd, trivial⟩)
 ·exact ⟨0, .nil, by omega, rfl, rfl, Cel.nil _ _ _ _, rfl, rfl, rfl, rfl, rfl, rfl⟩
end Go.Proofs.YtjdbdmhjakfldaaGreat
end
section
namespace Go.Proofs.YtjdbdmhjakfldaaGreat
open Go.Bv
def NmQ (r : Rq) : Prop := valQ (Xpz r) = r
def atG (q : Tq) (l : List Int) : Rq := if offE q.shape l = 0 then q.el.getD (offN q.shape l).toNat q0 else intQ 0
def mvQ (q : Tq) (s : List Int) (g : List Int → List Int) : Tq := ⟨s, (List.range (Qlz s).toNat).map fun i => atG q (g (idxL s (i : Nat)))⟩
theorem Qaiz (r : Rq) : valQ (Xpz r) = Y2z r.neg r.num r.den := by
 show Y2z r.neg (lv 4294967296 (dg 4294967296 r.num)) (lv 4294967296 (dg 4294967296 r.den)) = _
 rw [Qlaz (by decide), Qlaz (by decide)]
theorem Qmsz (a : Int) : NmQ (intQ a) := by
 rw [NmQ, Qaiz]
 show Y2z (decide (a < 0)) a.natAbs 1 = ⟨decide (a < 0), a.natAbs, 1⟩
 by_cases h : a = 0
 ·subst h; rfl
 ·rw [Y2z, if_neg (by omega)]
  simp
theorem nm_val (x : Raw) : NmQ (valQ x) := by
 rw [NmQ, Qaiz, valQ]
 generalize lv 4294967296 x.num = p
 generalize lv 4294967296 x.den = q
 by_cases h : p = 0 ∨ q = 0
 ·rw [XWz h]; rfl
 ·have hg := Qgoz h
  have hc : Nat.gcd (p / Nat.gcd p q) (q / Nat.gcd p q) = 1 := Nat.coprime_div_gcd_div_gcd hg
  have h1 : 0 < p / Nat.gcd p q := Nat.div_pos (Nat.le_of_dvd (by omega) (Nat.gcd_dvd_left p q)) hg
  have h2 : 0 < q / Nat.gcd p q := Nat.div_pos (Nat.le_of_dvd (by omega) (Nat.gcd_dvd_right p q)) hg
  have e : Y2z x.neg p q = ⟨x.neg, p / Nat.gcd p q, q / Nat.gcd p q⟩ := if_neg h
  rw [e]
  show Y2z x.neg (p / Nat.gcd p q) (q / Nat.gcd p q) = _
  rw [Y2z, if_neg (by omega), hc, Nat.div_one, Nat.div_one]
theorem Qmuz (q : Tq) (hn : ∀ r ∈ q.el, NmQ r) (he : (q.el.length : Int) = Qlz q.shape) (s : List Int) (g : List Int → List Int) : mvT (Xzz q) s g = Xzz (mvQ q s g) := by
 show (⟨s, ((mvL (Xzz q) s g (Qlz s).toNat).map valQ).map Xpz⟩ : Tn) = ⟨s, (mvQ q s g).el.map Xpz⟩
 congr 2
 show (mvL (Xzz q) s g (Qlz s).toNat).map valQ = (List.range (Qlz s).toNat).map fun i => atG q (g (idxL s (i : Nat)))
 rw [mvL, gatL, List.map_map]
 refine List.map_congr_left fun i _ => ?_
 simp only [Function.comp]
 by_cases h : isAt (Xzz q) (g (idxL s (i : Nat))) = true
 ·rw [if_pos h, if_pos h]
  have hz : offE q.shape (g (idxL s (i : Nat))) = 0 := of_decide_eq_true h
  obtain ⟨h1, h2, h3⟩ := Qghz hz
  rw [atG, if_pos hz, Qhxz]
  obtain ⟨m, hm⟩ : ∃ m : Nat, offN q.shape (g (idxL s (i : Nat))) = m := ⟨(offN q.shape (g (idxL s (i : Nat)))).toNat, by omega⟩
  have hm' : m < q.el.length := by omega
  simp only [Xzz, hm, Int.toNat_natCast]
  have e1 : (q.el.map Xpz).getD m r0 = Xpz (q.el.getD m q0) := by simp [List.getD, hm']
  rw [e1]
  exact hn _ (by simp [List.getD, hm'])
 ·rw [if_neg h]
  have hz : ¬ offE q.shape (g (idxL s (i : Nat))) = 0 := fun e => h (decide_eq_true e)
  rw [atG, if_neg hz, Qejz]
  exact Qmsz 0
def mvI (s0 l s : List Int) (g : List Int → List Int) : List Int := (List.range (Qlz s).toNat).map fun i => if offE s0 (g (idxL s (i : Nat))) = 0 then l.getD (offN s0 (g (idxL s (i : Nat)))).toNat 0 else 0
theorem atG_whole (s0 l p : List Int) : atG (X0z s0 l) p = if offE s0 p = 0 then (l.map intQ).getD (offN s0 p).toNat q0 else intQ 0 := rfl
theorem Qdjz (s0 l : List Int) (he : (l.length : Int) = Qlz s0) (s : List Int) (g : List Int → List Int) : mvT (QOz s0 l) s g = QOz s (mvI s0 l s g) := by
 rw [QOz, Qmuz (X0z s0 l) (fun r hr => by
  simp only [X0z, List.mem_map] at hr
  obtain ⟨a, _, rfl⟩ := hr
  exact Qmsz a) (by simpa [X0z] using he), QOz]
 congr 1
 show (⟨s, (List.range (Qlz s).toNat).map fun i => atG (X0z s0 l) (g (idxL s (i : Nat)))⟩ : Tq) = ⟨s, (mvI s0 l s g).map intQ⟩
 congr 1
 rw [mvI, List.map_map]
 refine List.map_congr_left fun i _ => ?_
 simp only [Function.comp, atG_whole]
 by_cases hz : offE s0 (g (idxL s (i : Nat))) = 0
 ·rw [if_pos hz, if_pos hz]
  obtain ⟨h1, h2, h3⟩ := Qghz hz
  have : (offN s0 (g (idxL s (i : Nat)))).toNat < l.length := by omega
  simp [List.getD, this]
 ·rw [if_neg hz, if_neg hz]
theorem Qanz (s l : List Int) (hm : mayP s = 0) (he : (l.length : Int) = Qlz s) : mayT (QOz s l) = 0 := by
 have hf : Xqz (QOz s l) = 0 := by
  show (if mayP s ≠ 0 then mayP s else if (((l.map intQ).map Xpz).length : Int) ≠ Xdz s then 13 else 0) = 0
  have hc : Xdz s = Qlz s := by rw [Xdz, if_pos hm]
  rw [hm, hc]; simp [he]
 rw [mayT, hf, if_neg (by decide), if_pos]
 rw [List.all_eq_true]
 intro x hx
 simp only [QOz, X0z, Xzz, List.mem_map] at hx
 obtain ⟨_, ⟨a, _, rfl⟩, rfl⟩ := hx
 rw [okR, ZAz, Qmsz a]
theorem Qbwz {s l : List Int} (hs : s.length ≤ 1000000) (hl : l.length ≤ 1000000) (hb : ∀ x ∈ l, -9223372036854775808 ≤ x ∧ x < 9223372036854775808) : TnOK (QOz s l) := by
 refine ⟨show s.length ≤ 1000000000 by omega, by simp [QOz, X0z, Xzz]; omega, fun x hx => ?_⟩
 simp only [QOz, X0z, Xzz, List.mem_map] at hx
 obtain ⟨_, ⟨a, ha, rfl⟩, rfl⟩ := hx
 have := hb a ha
 have h1 : (dg B32 a.natAbs).length ≤ 2 := Q7z (by decide) _ _ (Nat.lt_of_lt_of_le (show a.natAbs < 9223372036854775809 by omega) (by decide))
 have h2 : (dg B32 1).length ≤ 1 := Q7z (by decide) _ _ (by decide)
 exact ⟨show (dg B32 a.natAbs).length ≤ _ by omega, show (dg B32 1).length ≤ _ by omega, Xxz _, Xxz _⟩
theorem Qhpz (t : Tn) : Qkez t t = true := by
 simp only [Qkez, decide_true, Bool.true_and]
 rw [Qcvz]
 intro i _
 simp [Qfyz]
end Go.Proofs.YtjdbdmhjakfldaaGreat
end
section
namespace Go.Proofs.YtjdbdmhjakfldaaGreat
open Go.Bv
theorem k1E : YZz (QOz [2, 3] [1, 2, 3, 4, 5, 6]) [1, 0] = 0 := by
 rw [YZz, Qanz _ _ (by decide) (by decide)]
 rfl
theorem k1T : Qcpz (QOz [2, 3] [1, 2, 3, 4, 5, 6]) [1, 0] = QOz [3, 2] [1, 4, 2, 5, 3, 6] := by
 rw [Qcpz, XOz k1E, Qdjz _ _ (by decide)]
 rfl
theorem k2E : Ypz (QOz [2, 3] [1, 2, 3, 4, 5, 6]) [0, 1, 1, 3] = 0 := by
 rw [Ypz, Qanz _ _ (by decide) (by decide)]
 rfl
theorem k2T : Qezz (QOz [2, 3] [1, 2, 3, 4, 5, 6]) [0, 1, 1, 3] = QOz [1, 2] [2, 3] := by
 rw [Qezz, XOz k2E, Qdjz _ _ (by decide)]
 rfl
theorem k3E : padE (QOz [1, 2] [2, 3]) [0, 0, 1, 0] = 0 := by
 rw [padE, Qanz _ _ (by decide) (by decide)]
 rfl
theorem k3T : padT (QOz [1, 2] [2, 3]) [0, 0, 1, 0] = QOz [1, 3] [0, 2, 3] := by
 rw [padT, XOz k3E, Qdjz _ _ (by decide)]
 rfl
theorem t1_val : Val C 13 [tnV (QOz [2, 3] [1, 2, 3, 4, 5, 6]), .sl 2 [.int .i64 1, .int .i64 0]] (.tup [tnV (QOz [3, 2] [1, 4, 2, 5, 3, 6]), .int .i64 0]) := by
 have h := ZKz (QOz [2, 3] [1, 2, 3, 4, 5, 6]) (Qbwz (by decide) (by decide) (by decide)) [1, 0] (by decide)
 rw [k1E, k1T] at h
 exact h
theorem t2_val : Val C 20 [tnV (QOz [2, 3] [1, 2, 3, 4, 5, 6]), .sl 4 [.int .i64 0, .int .i64 1, .int .i64 1, .int .i64 3]] (.tup [tnV (QOz [1, 2] [2, 3]), .int .i64 0]) := by
 have h := Qhmz (QOz [2, 3] [1, 2, 3, 4, 5, 6]) (Qbwz (by decide) (by decide) (by decide)) [0, 1, 1, 3] (by decide)
 rw [k2E, k2T] at h
 exact h
theorem t3_val : Val C 22 [tnV (QOz [1, 2] [2, 3]), .sl 4 [.int .i64 0, .int .i64 0, .int .i64 1, .int .i64 0]] (.tup [tnV (QOz [1, 3] [0, 2, 3]), .int .i64 0]) := by
 have h := pad_val (QOz [1, 2] [2, 3]) (Qbwz (by decide) (by decide) (by decide)) [0, 0, 1, 0] (by decide)
 rw [k3E, k3T] at h
 exact h
theorem w_val (s l : List Int) (hs : s.length ≤ 1000000) (hl : l.length ≤ 1000000) (hb : ∀ x ∈ l, -9223372036854775808 ≤ x ∧ x < 9223372036854775808) : ∃ T, T = QOz s l ∧ TnOK T ∧ Val C 49 [.sl s.length (ints s), .sl l.length (ints l)] (tnV T) := ⟨_, rfl, Qbwz hs hl hb, Qqyz s l hs hl hb⟩
theorem Qfiz : Pu C 19 [] (.bool true) := by
 obtain ⟨X, hX, tX, wX⟩ := w_val [2, 3] [1, 2, 3, 4, 5, 6] (by decide) (by decide) (by decide)
 obtain ⟨A, hA, tA, wA⟩ := w_val [3, 2] [1, 4, 2, 5, 3, 6] (by decide) (by decide) (by decide)
 obtain ⟨B, hB, tB, wB⟩ := w_val [1, 2] [2, 3] (by decide) (by decide) (by decide)
 obtain ⟨D, hD, tD, wD⟩ := w_val [1, 3] [0, 2, 3] (by decide) (by decide) (by decide)
 have h1 := t1_val
 have h2 := t2_val
 have h3 := t3_val
 rw [← hX, ← hA] at h1
 rw [← hX, ← hB] at h2
 rw [← hB, ← hD] at h3
 have sA := YHz A A tA tA
 have sB := YHz B B tB tB
 have sD := YHz D D tD tD
 rw [Qhpz] at sA sB sD
 clear hX hA hB hD
 refine Fc.keep (Fc.bodyT Qgz Tryz.func19 w19 rfl Tryz.ntmps19 Tryz.results19 (zLe rfl) ?_)
 (refine Zo ?_;repeat' ((with_reducible first|refine Zk ?_|(first|apply Za|apply Zb|apply Zc|apply Zd)<;>intro h)<;>try simp -implicitDefEqProofs (maxSteps:=9^7) (disch:=first|omega|(simp only [lens];omega)) only [go_sem]))
 refine wX.call ⟨.self rfl, .self rfl, trivial⟩ (QHz _) ?_
 (refine Zo ?_;repeat' ((with_reducible first|refine Zk ?_|(first|apply Za|apply Zb|apply Zc|apply Zd)<;>intro h)<;>try simp -implicitDefEqProofs (maxSteps:=9^7) (disch:=first|omega|(simp only [lens];omega)) only [go_sem]))
 refine h1.call ⟨.self (QHz _), .self rfl, trivial⟩ (by simp [clo, cloL, QHz]) ?_
 (refine Zo ?_;repeat' ((with_reducible first|refine Zk ?_|(first|apply Za|apply Zb|apply Zc|apply Zd)<;>intro h)<;>try simp -implicitDefEqProofs (maxSteps:=9^7) (disch:=first|omega|(simp only [lens];omega)) only [go_sem]))
 refine h2.call ⟨.self (QHz _), .self rfl, trivial⟩ (by simp [clo, cloL, QHz]) ?_
 (refine Zo ?_;repeat' ((with_reducible first|refine Zk ?_|(first|apply Za|apply Zb|apply Zc|apply Zd)<;>intro h)<;>try simp -implicitDefEqProofs (maxSteps:=9^7) (disch:=first|omega|(simp only [lens];omega)) only [go_sem]))
 refine h3.call ⟨.self (QHz _), .self rfl, trivial⟩ (by simp [clo, cloL, QHz]) ?_
 (refine Zo ?_;repeat' ((with_reducible first|refine Zk ?_|(first|apply Za|apply Zb|apply Zc|apply Zd)<;>intro h)<;>try simp -implicitDefEqProofs (maxSteps:=9^7) (disch:=first|omega|(simp only [lens];omega)) only [go_sem]))
 refine wA.pc ⟨.self rfl, .self rfl, trivial⟩ (QHz _) ?_
 (refine Zo ?_;repeat' ((with_reducible first|refine Zk ?_|(first|apply Za|apply Zb|apply Zc|apply Zd)<;>intro h)<;>try simp -implicitDefEqProofs (maxSteps:=9^7) (disch:=first|omega|(simp only [lens];omega)) only [go_sem]))
 refine Pc.pure sA (by simp [cloL, clo, Qbz, Qiz]) (fun g => rfl) ?_
 (refine Zo ?_;repeat' ((with_reducible first|refine Zk ?_|(first|apply Za|apply Zb|apply Zc|apply Zd)<;>intro h)<;>try simp -implicitDefEqProofs (maxSteps:=9^7) (disch:=first|omega|(simp only [lens];omega)) only [go_sem]))
 refine wB.pc ⟨.self rfl, .self rfl, trivial⟩ (QHz _) ?_
 (refine Zo ?_;repeat' ((with_reducible first|refine Zk ?_|(first|apply Za|apply Zb|apply Zc|apply Zd)<;>intro h)<;>try simp -implicitDefEqProofs (maxSteps:=9^7) (disch:=first|omega|(simp only [lens];omega)) only [go_sem]))
 refine Pc.pure sB (by simp [cloL, clo, Qbz, Qiz]) (fun g => rfl) ?_
 (refine Zo ?_;repeat' ((with_reducible first|refine Zk ?_|(first|apply Za|apply Zb|apply Zc|apply Zd)<;>intro h)<;>try simp -implicitDefEqProofs (maxSteps:=9^7) (disch:=first|omega|(simp only [lens];omega)) only [go_sem]))
 refine wD.pc ⟨.self rfl, .self rfl, trivial⟩ (QHz _) ?_
 (refine Zo ?_;repeat' ((with_reducible first|refine Zk ?_|(first|apply Za|apply Zb|apply Zc|apply Zd)<;>intro h)<;>try simp -implicitDefEqProofs (maxSteps:=9^7) (disch:=first|omega|(simp only [lens];omega)) only [go_sem]))
 refine Pc.pure sD (by simp [cloL, clo, Qbz, Qiz]) (fun g => rfl) ?_
 (refine Zo ?_;repeat' ((with_reducible first|refine Zk ?_|(first|apply Za|apply Zb|apply Zc|apply Zd)<;>intro h)<;>try simp -implicitDefEqProofs (maxSteps:=9^7) (disch:=first|omega|(simp only [lens];omega)) only [go_sem]))
 (refine Qoz (by intro g; simp only [go_sem, ren, renL]) ?_)
 all_goals rfl
end Go.Proofs.YtjdbdmhjakfldaaGreat
end
section
namespace Go.Proofs.YtjdbdmhjakfldaaGreat
open Go.Bv
end Go.Proofs.YtjdbdmhjakfldaaGreat
end
section
namespace Go.Proofs.YtjdbdmhjakfldaaGreat
open Go.Bv
end Go.Proofs.YtjdbdmhjakfldaaGreat
end
section
namespace Go.Proofs.YtjdbdmhjakfldaaGreat
open Go.Bv
end Go.Proofs.YtjdbdmhjakfldaaGreat
end
section
namespace Go.Proofs.YtjdbdmhjakfldaaGreat
open Go.Bv
structure FitQ (q : Tq) : Prop where
 ok : TqOK q
 m : mayP q.shape = 0
 l : (q.el.length : Int) = Qlz q.shape
end Go.Proofs.YtjdbdmhjakfldaaGreat
end
section
namespace Go.Proofs.YtjdbdmhjakfldaaGreat
open Go.Bv
theorem Qltz {t : Tn} (hm : mayT t = 0) : Xzz (tnOf t) = t := by
 have hf := (QXz hm).1
 rw [mayT, if_neg (by omega)] at hm
 have ha : t.el.all okR = true := by
  cases h : t.el.all okR with
  | true => rfl
  | false => rw [h] at hm; simp at hm
 obtain ⟨s, el⟩ := t
 show (⟨s, (el.map valQ).map Xpz⟩ : Tn) = ⟨s, el⟩
 congr 1
 rw [List.map_map]
 exact (List.map_congr_left fun x hx => (ZAz.1 (List.all_eq_true.1 ha x hx)).symm).trans (List.map_id _)
end Go.Proofs.YtjdbdmhjakfldaaGreat
end
section
namespace Go.Proofs.YtjdbdmhjakfldaaGreat
open Go.Bv
def tnsC (ts : List Tn) : List V := ts.flatMap fun t => [.sl t.shape.length (ints t.shape), .sl t.el.length (Qqz t.el)]
def t0n : Tn := ⟨[], []⟩
@[go_sem] theorem tnsC_len (ts : List Tn) : (tnsC ts).length = ts.length * 2 := by
 induction ts with
 | nil => rfl
 | cons t ts ih => simp only [tnsC, List.flatMap_cons, List.length_append, List.length_cons, List.length_nil] at ih ⊢; rw [ih]; omega
theorem Qriz (t : Tn) (ts : List Tn) : tnsC (t :: ts) = .sl t.shape.length (ints t.shape) :: .sl t.el.length (Qqz t.el) :: tnsC ts := rfl
theorem Qktz : ∀ (ts : List Tn) (i : Nat), i < ts.length → nth (tnsC ts) (i * 2) = .sl (ts.getD i t0n).shape.length (ints (ts.getD i t0n).shape) ∧ nth (tnsC ts) (i * 2 + 1) = .sl (ts.getD i t0n).el.length (Qqz (ts.getD i t0n).el)
 | [], i, h => by simp at h
 | t :: ts, 0, _ => ⟨rfl, rfl⟩
 | t :: ts, i + 1, h => by
  have := Qktz ts i (by simpa using h)
  rw [Qriz, show (i + 1) * 2 = i * 2 + 1 + 1 by omega]
  simpa [nth] using this
@[go_sem] theorem nth_tns0 (ts : List Tn) (i : Nat) (h : i < ts.length) : nth (tnsC ts) (i * 2) = .sl (ts.getD i t0n).shape.length (ints (ts.getD i t0n).shape) := (Qktz ts i h).1
@[go_sem] theorem nth_tns1 (ts : List Tn) (i : Nat) (h : i < ts.length) : nth (tnsC ts) (i * 2 + 1) = .sl (ts.getD i t0n).el.length (Qqz (ts.getD i t0n).el) := (Qktz ts i h).2
end Go.Proofs.YtjdbdmhjakfldaaGreat
end
section
namespace Go.Proofs.YtjdbdmhjakfldaaGreat
open Go.Bv
end Go.Proofs.YtjdbdmhjakfldaaGreat
end
section
namespace Go.Proofs.YtjdbdmhjakfldaaGreat
open Go.Bv
def sumK (tl : List Tn) (a : Nat) : Nat → Int
 | 0 => 0
 | k + 1 => sumK tl a k + (tl.getD k t0n).shape.getD a 0
def catS (tl : List Tn) (a : Nat) (k : Nat) : List Int := ((tl.getD 0 t0n).shape).set a (sumK tl a k)
end Go.Proofs.YtjdbdmhjakfldaaGreat
end
section
namespace Go.Proofs.YtjdbdmhjakfldaaGreat
open Go.Bv
def tqsC (ws : List Tq) : List V := ws.flatMap fun t => [.sl t.shape.length (ints t.shape), .sl t.el.length (Zvz t.el)]
def q0n : Tq := ⟨[], []⟩
@[go_sem] theorem tqsC_len (ws : List Tq) : (tqsC ws).length = ws.length * 2 := by
 induction ws with
 | nil => rfl
 | cons t ws ih => simp only [tqsC, List.flatMap_cons, List.length_append, List.length_cons, List.length_nil] at ih ⊢; rw [ih]; omega
theorem Qrez (t : Tq) (ws : List Tq) : tqsC (t :: ws) = .sl t.shape.length (ints t.shape) :: .sl t.el.length (Zvz t.el) :: tqsC ws := rfl
theorem Qksz : ∀ (ws : List Tq) (i : Nat), i < ws.length → nth (tqsC ws) (i * 2) = .sl (ws.getD i q0n).shape.length (ints (ws.getD i q0n).shape) ∧ nth (tqsC ws) (i * 2 + 1) = .sl (ws.getD i q0n).el.length (Zvz (ws.getD i q0n).el)
 | [], i, h => by simp at h
 | t :: ws, 0, _ => ⟨rfl, rfl⟩
 | t :: ws, i + 1, h => by
  have := Qksz ws i (by simpa using h)
  rw [Qrez, show (i + 1) * 2 = i * 2 + 1 + 1 by omega]
  simpa [nth] using this
@[go_sem] theorem nth_tqs0 (ws : List Tq) (i : Nat) (h : i < ws.length) : nth (tqsC ws) (i * 2) = .sl (ws.getD i q0n).shape.length (ints (ws.getD i q0n).shape) := (Qksz ws i h).1
@[go_sem] theorem nth_tqs1 (ws : List Tq) (i : Nat) (h : i < ws.length) : nth (tqsC ws) (i * 2 + 1) = .sl (ws.getD i q0n).el.length (Zvz (ws.getD i q0n).el) := (Qksz ws i h).2
end Go.Proofs.YtjdbdmhjakfldaaGreat
end
section
namespace Go.Proofs.YtjdbdmhjakfldaaGreat
open Go.Bv
structure CatOK (tl : List Tn) (a : Nat) : Prop where
 n : 0 < tl.length
 m : ∀ j, j < tl.length → mayT (tl.getD j t0n) = 0
 ha : a < (tl.getD 0 t0n).shape.length
 f : ∀ j, j < tl.length → (tl.getD j t0n).shape.length = (tl.getD 0 t0n).shape.length ∧ ∀ i, i < (tl.getD 0 t0n).shape.length → i ≠ a → (tl.getD j t0n).shape.getD i 0 = (tl.getD 0 t0n).shape.getD i 0
 s : ∀ k, k < tl.length → mayP (catS tl a (k + 1)) = 0
theorem CatOK.d {tl : List Tn} {a : Nat} (h : CatOK tl a) {j i : Nat} (hj : j < tl.length) (hi : i < (tl.getD 0 t0n).shape.length) : 1 ≤ (tl.getD j t0n).shape.getD i 0 ∧ (tl.getD j t0n).shape.getD i 0 ≤ 1024 := by
 obtain ⟨_, hm, _⟩ := QXz (h.m j hj)
 obtain ⟨t1, t2, t3⟩ := QCz hm
 have hl := (h.f j hj).1
 have h1 := Ztz t2 (i := i) (by omega)
 have h2 := QFz t2 (i := i) (by omega)
 omega
theorem CatOK.last {tl : List Tn} {a : Nat} (h : CatOK tl a) : mayP (catS tl a tl.length) = 0 := by
 have := h.s (tl.length - 1) (by have := h.n; omega)
 rwa [show tl.length - 1 + 1 = tl.length by have := h.n; omega] at this
theorem catS_at {tl : List Tn} {a : Nat} (ha : a < (tl.getD 0 t0n).shape.length) (k : Nat) (i : Nat) : (catS tl a k).getD i 0 = if i = a then sumK tl a k else (tl.getD 0 t0n).shape.getD i 0 := by
 rw [catS]
 generalize (tl.getD 0 t0n).shape = S at *
 by_cases hia : i = a
 ·subst hia; simp [List.getD, ha]
 ·rw [if_neg hia]; simp [List.getD, Ne.symm hia]
theorem CatOK.x {tl : List Tn} {a : Nat} (h : CatOK tl a) {x : List Int} (hx : ∀ i, i < (tl.getD 0 t0n).shape.length → 0 ≤ x.getD i 0 ∧ x.getD i 0 < (catS tl a tl.length).getD i 0) : (∀ j, j < tl.length → ∀ i, i < (tl.getD 0 t0n).shape.length → i ≠ a → 0 ≤ x.getD i 0 ∧ x.getD i 0 < (tl.getD j t0n).shape.getD i 0) ∧ 0 ≤ x.getD a 0 ∧ x.getD a 0 < sumK tl a tl.length := by
 refine ⟨fun j hj i hi hia => ?_, ?_⟩
 ·have := hx i hi
  rw [catS_at h.ha, if_neg hia, ← (h.f j hj).2 i hi hia] at this
  exact this
 ·have := hx a h.ha
  rw [catS_at h.ha, if_pos rfl] at this
  exact this
end Go.Proofs.YtjdbdmhjakfldaaGreat
end
section
namespace Go.Proofs.YtjdbdmhjakfldaaGreat
open Go.Bv
end Go.Proofs.YtjdbdmhjakfldaaGreat
end
section
namespace Go.Proofs.YtjdbdmhjakfldaaGreat
open Go.Bv
end Go.Proofs.YtjdbdmhjakfldaaGreat
end
section
namespace Go.Proofs.YtjdbdmhjakfldaaGreat
open Go.Bv
end Go.Proofs.YtjdbdmhjakfldaaGreat
end
section
namespace Go.Proofs.YtjdbdmhjakfldaaGreat
open Go.Bv
end Go.Proofs.YtjdbdmhjakfldaaGreat
end
section
namespace Go.Proofs.YtjdbdmhjakfldaaGreat
open Go.Bv
end Go.Proofs.YtjdbdmhjakfldaaGreat
end
section
namespace Go.Proofs.YtjdbdmhjakfldaaGreat
open Go.Bv
theorem own_sw {e s : Nat} {H : Heap} {w : V} {n : Nat} {cs : List V} (hw : Bv.Own e s H w n cs) : kn w = true ∧ cellsOf w = [w] ∧ scal w = true := by
 rcases hw with ⟨rfl, _⟩ | ⟨r, rfl, _⟩ <;> exact ⟨rfl, rfl, rfl⟩
end Go.Proofs.YtjdbdmhjakfldaaGreat
end
section
namespace Go.Proofs.YtjdbdmhjakfldaaGreat
open Go.Bv
theorem Qmzz {s : List Int} (h : ∀ d ∈ s, 1 ≤ d) {m : Int} (h0 : 0 ≤ m) (h1 : m < Qlz s) : ∀ i : Nat, i ≤ s.length → offP s (idxL s m) i = m / Qlz (s.drop i)
 | 0, _ => by rw [List.drop_zero, Int.ediv_eq_zero_of_lt h0 h1]; rfl
 | i + 1, hi => by
  show offP s (idxL s m) i * s.getD i 0 + (idxL s m).getD i 0 = _
  have e : (idxL s m).getD i 0 = Qetz s m i := by simp [idxL, List.getD, show i < s.length by omega]
  rw [Qmzz h h0 h1 i (by omega), e, Qetz, ← Qnaz h (by omega : i < s.length)]
  exact Int.ediv_mul_add_emod _ _
theorem off_idx {s : List Int} (h : ∀ d ∈ s, 1 ≤ d) {m : Int} (h0 : 0 ≤ m) (h1 : m < Qlz s) : offP s (idxL s m) s.length = m := by
 rw [Qmzz h h0 h1 _ (Nat.le_refl _), List.drop_length]
 simp [Qlz]
theorem Qoaz {q : Tq} (hm : mayP q.shape = 0) (he : (q.el.length : Int) = Qlz q.shape) (hn : ∀ r ∈ q.el, NmQ r) : mayT (Xzz q) = 0 := by
 have hf : Xqz (Xzz q) = 0 := by
  show (if mayP q.shape ≠ 0 then mayP q.shape else if ((q.el.map Xpz).length : Int) ≠ Xdz q.shape then 13 else 0) = 0
  have hc : Xdz q.shape = Qlz q.shape := by rw [Xdz, if_pos hm]
  rw [hm, hc]; simp [he]
 rw [mayT, hf, if_neg (by decide), if_pos]
 rw [List.all_eq_true]
 intro x hx
 simp only [Xzz, List.mem_map] at hx
 obtain ⟨r, hr, rfl⟩ := hx
 rw [okR, ZAz, hn r hr]
theorem CatOK.sum {tl : List Tn} {a : Nat} (h : CatOK tl a) {j : Nat} : ∀ k : Nat, j ≤ k → k ≤ tl.length → sumK tl a j ≤ sumK tl a k
 | 0, h1, _ => by rw [show j = 0 by omega]; exact Int.le_refl _
 | k + 1, h1, h2 => by
  by_cases he : j = k + 1
  ·rw [he]; exact Int.le_refl _
  ·have ih := h.sum (j := j) k (by omega) (by omega)
   have := (h.d (j := k) (by omega) h.ha).1
   show _ ≤ sumK tl a k + _
   omega
def cutL (f : Int) (s : List Int) (a : Nat) (m : Nat) : List Int := (List.range m).flatMap fun j => if j = a then [f, f + s.getD j 0] else [0, s.getD j 0]
theorem Qeaz (f : Int) (s : List Int) (a m : Nat) : cutL f s a (m + 1) = cutL f s a m ++ (if m = a then [f, f + s.getD m 0] else [0, s.getD m 0]) := by simp [cutL, List.range_succ]
theorem Qciz (f : Int) (s : List Int) (a : Nat) : ∀ m, (cutL f s a m).length = 2 * m
 | 0 => rfl
 | m + 1 => by rw [Qeaz, List.length_append, Qciz f s a m]; split <;> simp <;> omega
theorem Qnhz (f : Int) (s : List Int) (a : Nat) : ∀ m j, j < m → (cutL f s a m).getD (2 * j) 0 = (if j = a then f else 0) ∧ (cutL f s a m).getD (2 * j + 1) 0 = (if j = a then f else 0) + s.getD j 0
 | 0, j, h => by omega
 | m + 1, j, h => by
  rw [Qeaz]
  have hl := Qciz f s a m
  by_cases hj : j = m
  ·subst hj
   simp only [List.getD]
   rw [List.getElem?_append_right (by omega), List.getElem?_append_right (by omega), hl, show 2 * j - 2 * j = 0 by omega, show 2 * j + 1 - 2 * j = 1 by omega]
   by_cases hja : j = a
   ·simp [hja]
   ·simp [hja]
  ·obtain ⟨h1, h2⟩ := Qnhz f s a m j (by omega)
   simp only [List.getD] at h1 h2 ⊢
   rw [List.getElem?_append_left (by omega), List.getElem?_append_left (by omega)]
   exact ⟨h1, h2⟩
end Go.Proofs.YtjdbdmhjakfldaaGreat
end
section
namespace Go.Proofs.YtjdbdmhjakfldaaGreat
open Go.Bv
end Go.Proofs.YtjdbdmhjakfldaaGreat
end
section
namespace Go.Proofs.YtjdbdmhjakfldaaGreat
open Go.Bv
theorem mvQ_nm {q : Tq} (hn : ∀ r ∈ q.el, NmQ r) (S : List Int) (g : List Int → List Int) : ∀ r ∈ (mvQ q S g).el, NmQ r := fun r hr => by
 simp only [mvQ, List.mem_map] at hr
 obtain ⟨i, _, rfl⟩ := hr
 rw [atG]
 split
 ·rename_i hz
  by_cases hl : (offN q.shape (g (idxL S (i : Nat)))).toNat < q.el.length
  ·exact hn _ (by simp [List.getD, hl])
  ·have : q.el.getD (offN q.shape (g (idxL S (i : Nat)))).toNat q0 = q0 := by simp [List.getD, hl]
   rw [this, NmQ, Qaiz]; exact XWz (.inl rfl)
 ·exact Qmsz 0
theorem mvQ_len {q : Tq} {S : List Int} (hS : mayP S = 0) (g : List Int → List Int) : ((mvQ q S g).el.length : Int) = Qlz (mvQ q S g).shape := by
 have := Q5z (QCz hS).2.1
 show (((List.range (Qlz S).toNat).map fun i => atG q (g (idxL S (i : Nat)))).length : Int) = Qlz S
 rw [List.length_map, List.length_range]; omega
theorem mv_may {t : Tn} (hm : mayT t = 0) {S : List Int} (hS : mayP S = 0) (g : List Int → List Int) : mvT t S g = Xzz (mvQ (tnOf t) S g) ∧ mayT (mvT t S g) = 0 := by
 have hel := (QXz hm).2.2
 have hn : ∀ r ∈ (tnOf t).el, NmQ r := fun r hr => by
  simp only [tnOf, List.mem_map] at hr
  obtain ⟨x, _, rfl⟩ := hr
  exact nm_val x
 have e := Qmuz (tnOf t) hn (by simpa [tnOf] using hel) S g
 rw [Qltz hm] at e
 refine ⟨e, ?_⟩
 rw [e]
 exact Qoaz (q := mvQ (tnOf t) S g) hS (mvQ_len hS g) (mvQ_nm hn S g)
def iota (n : Nat) : List Int := (List.range n).map fun i : Nat => (i : Int)
theorem Zsz {n j : Nat} (h : j < n) : (iota n).getD j 0 = j := by simp [iota, List.getD, h]
theorem Xfz (n : Nat) : (iota n).length = n := by simp [iota]
theorem putP_at {p x : List Int} (hb : YMz p = true) {j : Nat} (hj : j < p.length) : ∀ k : Nat, j < k → k ≤ p.length → (putP p x k).getD (p.getD j 0).toNat 0 = x.getD j 0
 | 0, h, _ => by omega
 | k + 1, h, hk => by
  have hp := (Yqz p).1 hb
  rw [putP]
  have hl := YKz p x k
  by_cases hjk : j = k
  ·subst hjk
   obtain ⟨p1, p2, p3⟩ := hp j hj
   have h1 : (p.getD j 0).toNat < (putP p x j).length := by rw [hl]; omega
   generalize (p.getD j 0).toNat = m at *
   simp [List.getD, h1]
  ·have ih := putP_at (x := x) hb hj k (by omega) (by omega)
   have h1 := hp k (by omega)
   have h2 := hp j hj
   have hne : (p.getD k 0).toNat ≠ (p.getD j 0).toNat := fun e => by
    obtain ⟨p1, p2, p3⟩ := h1
    obtain ⟨r1, r2, r3⟩ := h2
    have := p3 j (by omega)
    omega
   generalize (p.getD k 0).toNat = m at *
   generalize (p.getD j 0).toNat = m' at *
   simp only [List.getD] at ih ⊢
   rw [List.getElem?_set_ne hne]; exact ih
end Go.Proofs.YtjdbdmhjakfldaaGreat
end
section
namespace Go.Proofs.YtjdbdmhjakfldaaGreat
open Go.Bv
end Go.Proofs.YtjdbdmhjakfldaaGreat
end
section
namespace Go.Proofs.YtjdbdmhjakfldaaGreat
open Go.Bv
theorem mvQ_id {q : Tq} (hq : mayP q.shape = 0) (he : (q.el.length : Int) = Qlz q.shape) {g : List Int → List Int}
  (h : ∀ x : List Int, x.length = q.shape.length → (∀ i, i < q.shape.length → 0 ≤ x.getD i 0 ∧ x.getD i 0 < q.shape.getD i 0) → g x = x) : mvQ q q.shape g = q := by
 obtain ⟨s, el⟩ := q
 show (⟨s, _⟩ : Tq) = ⟨s, el⟩
 have hq : mayP s = 0 := hq
 have he : (el.length : Int) = Qlz s := he
 have h : ∀ x : List Int, x.length = s.length → (∀ i, i < s.length → 0 ≤ x.getD i 0 ∧ x.getD i 0 < s.getD i 0) → g x = x := h
 obtain ⟨m1, m2, m3⟩ := QCz hq
 congr 1
 refine List.ext_getElem (by rw [List.length_map, List.length_range]; show (Qlz s).toNat = el.length; omega) fun i i1 i2 => ?_
 simp only [List.length_map, List.length_range] at i1
 simp only [List.getElem_map, List.getElem_range]
 have hin := Qlez m2 (i : Nat)
 have hxl : (idxL s (i : Nat)).length = s.length := Z3z _ _
 have hoff := off_idx m2 (m := (i : Nat)) (by omega) (by omega)
 generalize idxL s (i : Nat) = x at *
 have hzx : offE s x = 0 := by rw [offE, if_neg (by omega), if_neg (by omega), if_pos (Qgmz.2 hin)]
 have hoNx : offN s x = (i : Nat) := by rw [offN, if_pos hzx, hoff]
 rw [h x hxl hin, atG]
 show (if offE s x = 0 then el.getD (offN s x).toNat q0 else intQ 0) = _
 rw [if_pos hzx, hoNx]
 simp [List.getD, i2]
theorem Qmtz {t : Tn} (hm : mayT t = 0) {S : List Int} (hS : S = t.shape) {g : List Int → List Int}
  (h : ∀ x : List Int, x.length = t.shape.length → (∀ i, i < t.shape.length → 0 ≤ x.getD i 0 ∧ x.getD i 0 < t.shape.getD i 0) → g x = x) : mvT t S g = t := by
 subst hS
 obtain ⟨hf, hmp, hel⟩ := QXz hm
 rw [(mv_may hm hmp g).1]
 have := mvQ_id (q := tnOf t) hmp (by simpa [tnOf] using hel) (g := g) h
 rw [show (tnOf t).shape = t.shape from rfl] at this
 rw [this]
 exact Qltz hm
theorem Qimz (n : Nat) : YMz (iota n) = true := by
 refine (Yqz _).2 fun i hi => ?_
 rw [Xfz] at hi
 refine ⟨by rw [Zsz hi]; omega, by rw [Zsz hi, Xfz]; omega, fun k hk => ?_⟩
 rw [Zsz hi, Zsz (by omega)]; omega
theorem iota_succ (n : Nat) : iota (n + 1) = iota n ++ [(n : Int)] := by simp [iota, List.range_succ]
theorem own_trans {t : Tn} (hm : mayT t = 0) : YZz t (iota t.shape.length) = 0 ∧ Qcpz t (iota t.shape.length) = t := by
 have hE : YZz t (iota t.shape.length) = 0 := by rw [YZz, if_neg (by omega), if_neg (by rw [Qimz, Xfz]; simp)]
 refine ⟨hE, ?_⟩
 rw [Qcpz, XOz hE]
 refine Qmtz hm ?_ fun x hx _ => ?_
 ·refine XVz (by rw [Ymz, Q8z, Xfz]) fun j hj => ?_
  rw [Ymz, Q8z, Xfz] at hj
  rw [Ymz, Zpz (by rw [Xfz]; exact hj), Zsz hj, Int.toNat_natCast]
 ·refine XVz (by rw [YKz, Xfz, hx]) fun j hj => ?_
  rw [YKz, Xfz] at hj
  have := putP_at (p := iota t.shape.length) (x := x) (Qimz _) (j := j) (by rw [Xfz]; exact hj) _ (by rw [Xfz]; exact hj) (Nat.le_refl _)
  rwa [Zsz hj, Int.toNat_natCast] at this
theorem own_resh {t : Tn} (hm : mayT t = 0) : Qbnz t t.shape = 0 ∧ reshT t t.shape = t := by
 obtain ⟨hf, hmp, hel⟩ := QXz hm
 have hE : Qbnz t t.shape = 0 := by rw [Qbnz, if_neg (by omega), if_neg (by omega), if_neg (by omega)]
 refine ⟨hE, ?_⟩
 rw [reshT, XOz hE]
 exact Qltz hm
theorem own_slice {t : Tn} (hm : mayT t = 0) : Ypz t (cutL 0 t.shape t.shape.length t.shape.length) = 0 ∧ Qezz t (cutL 0 t.shape t.shape.length t.shape.length) = t := by
 obtain ⟨hf, hmp, hel⟩ := QXz hm
 obtain ⟨m1, m2, m3⟩ := QCz hmp
 have hg : ∀ j, j < t.shape.length → (cutL 0 t.shape t.shape.length t.shape.length).getD (2 * j) 0 = 0 ∧ (cutL 0 t.shape t.shape.length t.shape.length).getD (2 * j + 1) 0 = t.shape.getD j 0 := fun j hj => by
  have := Qnhz 0 t.shape t.shape.length t.shape.length j hj
  rw [if_neg (by omega)] at this
  omega
 have hE : Ypz t (cutL 0 t.shape t.shape.length t.shape.length) = 0 := by
  rw [Ypz, if_neg (by omega), Qciz, if_neg (by omega), if_neg, if_neg]
  ·intro hc
   have : Qfoz (cutL 0 t.shape t.shape.length t.shape.length) t.shape = true := Qbbz.2 fun j hj => by rw [(hg j hj).2]; omega
   rw [this] at hc; cases hc
  ·intro hc
   have : Qfnz (cutL 0 t.shape t.shape.length t.shape.length) t.shape.length = true := Qbaz.2 fun j hj => by
    have := Ztz m2 hj
    rw [(hg j hj).1, (hg j hj).2]; omega
   rw [this] at hc; cases hc
 refine ⟨hE, ?_⟩
 rw [Qezz, XOz hE]
 refine Qmtz hm ?_ fun x hx _ => ?_
 ·refine XVz (by rw [Yoz, Q8z]) fun j hj => ?_
  rw [Yoz, Q8z] at hj
  rw [Yoz, Zpz hj, (hg j hj).1, (hg j hj).2]; omega
 ·refine XVz (by simp [addL]) fun j hj => ?_
  have hj' : j < x.length := by simpa [addL] using hj
  have e : (addL (cutL 0 t.shape t.shape.length t.shape.length) x).getD j 0 = x.getD j 0 + (cutL 0 t.shape t.shape.length t.shape.length).getD (2 * j) 0 := by simp [addL, List.getD, hj']
  rw [e, (hg j (by omega)).1]; omega
theorem Qahz (n j : Nat) : (List.replicate n (0 : Int)).getD j 0 = 0 := by
 by_cases h : j < n
 ·simp [List.getD, h]
 ·simp [List.getD, h]
theorem own_pad {t : Tn} (hm : mayT t = 0) : padE t (List.replicate (2 * t.shape.length) 0) = 0 ∧ padT t (List.replicate (2 * t.shape.length) 0) = t := by
 obtain ⟨hf, hmp, hel⟩ := QXz hm
 have hS : padS (List.replicate (2 * t.shape.length) 0) t.shape t.shape.length = t.shape := by
  refine XVz (by rw [padS, Q8z]) fun j hj => ?_
  rw [padS, Q8z] at hj
  rw [padS, Zpz hj, padG, Qahz, Qahz]; omega
 have hE : padE t (List.replicate (2 * t.shape.length) 0) = 0 := by
  rw [padE, if_neg (by omega), if_neg (by simp), if_neg, if_neg, hS, hmp]
  ·intro hc
   have : Qfdz (List.replicate (2 * t.shape.length) 0) t.shape.length = true := Qalz.2 fun j hj => by rw [Qahz, Qahz]; omega
   rw [this] at hc; cases hc
  ·intro hc
   have : negB (List.replicate (2 * t.shape.length) 0) = false := ZWz.2 fun j hj => by rw [Qahz]; omega
   rw [this] at hc; cases hc
 refine ⟨hE, ?_⟩
 rw [padT, XOz hE]
 refine Qmtz hm hS fun x hx _ => ?_
 refine XVz (by simp [subL]) fun j hj => ?_
 have hj' : j < x.length := by simpa [subL] using hj
 have e : (subL (List.replicate (2 * t.shape.length) 0) x).getD j 0 = x.getD j 0 - (List.replicate (2 * t.shape.length) (0 : Int)).getD (2 * j) 0 := by
  generalize List.replicate (2 * t.shape.length) (0 : Int) = z
  simp [subL, List.getD, hj']
 rw [e, Qahz]; omega
theorem own_brc {t : Tn} (hm : mayT t = 0) : brcE t t.shape = 0 ∧ brcT t t.shape = t := by
 obtain ⟨hf, hmp, hel⟩ := QXz hm
 have hb : okB t.shape t.shape = true := (Qdez _ _).2 ⟨Nat.le_refl _, fun i hi => .inr (by rw [Nat.sub_self, Nat.zero_add])⟩
 have hE : brcE t t.shape = 0 := by rw [brcE, if_neg (by omega), if_neg (by omega), if_neg (by rw [hb]; decide)]
 refine ⟨hE, ?_⟩
 rw [brcT, XOz hE]
 refine Qmtz hm rfl fun x hx hin => ?_
 have hd := Qayz (brF t.shape x) x
 rw [hx] at hd
 rw [brL, hx, Nat.sub_self, List.drop_zero, hd]
 refine XVz (by simp [hx]) fun j hj => ?_
 have hj' : j < t.shape.length := by simpa using hj
 have e : ((List.range t.shape.length).map (brF t.shape x)).getD j 0 = brF t.shape x j := by simp [List.getD, hj']
 have := hin j hj'
 rw [e, brF]
 split <;> omega
end Go.Proofs.YtjdbdmhjakfldaaGreat
end
