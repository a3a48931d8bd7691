/-
  Parts Lw15, Lw16, RowU, RowO, one behind the other: a program logic of our own, contracts of functions.
-/
import Derived.Test.YtjdbdmhjakfldaaGreatO5

set_option linter.unusedVariables false
set_option linter.unusedSimpArgs false
set_option maxRecDepth 100000
set_option maxHeartbeats 8000000
section
namespace Go.Proofs.YtjdbdmhjakfldaaGreat
open Go.Bv
theorem Zrz {H : Heap} {hi r : Nat} : Qcz (H.take hi) r = if r < hi then Qcz H r else none := by
 simp only [Qcz, List.getElem?_take]
 split <;> rfl
def GdR (lo hi : Nat) (H : Heap) (v u : V) : Prop := GdF lo (H.take hi) v u
theorem GdR.gd {lo hi : Nat} {H : Heap} {v u : V} (h : GdR lo hi H v u) : Gd H v u := h H fun r row _ hr => by
 rw [Zrz] at hr
 split at hr
 ·exact hr
 ·cases hr
theorem GdR.keep {lo hi : Nat} {H H' : Heap} {v u : V} (h : GdR lo hi H v u) (hk : ∀ r row, lo ≤ r → r < hi → Qcz H r = some row → Qcz H' r = some row) : GdR lo hi H' v u := by
 refine GdF.far h fun r row hl hr => ?_
 rw [Zrz] at hr ⊢
 split at hr
 ·rename_i hlt; rw [if_pos hlt]; exact hk r row hl hlt hr
 ·cases hr
theorem GdR.of {lo hi : Nat} {H : Heap} {v u : V} (h : GdF lo H v u) (hh : H.length = hi) : GdR lo hi H v u := by
 rw [GdR, ← hh, List.take_length]; exact h
theorem Qduz {n : Nat} {H : Heap} {v : V} {m : Nat} {cs : List V} (h : GdF n H v (.sl m cs)) : (m = 0 ∧ (v = .nil ∨ v = .sl 0 cs)) ∨ ∃ r row, v = .ref r 0 m ∧ n ≤ r ∧ Qcz H r = some row ∧ cs.length ≤ row.cs.length ∧ ∀ j, j < cs.length → GdF n H (nth row.cs j) (nth cs j) := by
 have hg := h.gd
 generalize hu : V.sl m cs = u at hg
 cases hg with
 | leaf _ hc hp =>
  subst hu
  have : m = 0 := by simpa [plain] using hp
  subst this
  exact .inl ⟨rfl, .inr rfl⟩
 | nil cs' => injection hu with e1 e2; exact .inl ⟨e1, .inl rfl⟩
 | ref r n' row cs' hr hp hl hj =>
  injection hu with e1 e2
  subst e1 e2
  have key : ∀ H2 : Heap, (∀ q row, n ≤ q → Qcz H q = some row → Qcz H2 q = some row) → ∃ row2, Qcz H2 r = some row2 ∧ ∀ j, j < cs.length → Gd H2 (nth row2.cs j) (nth cs j) := fun H2 h2 => by
   have hg2 := h H2 h2
   generalize hv : V.ref r 0 m = v2 at hg2
   generalize hu2 : V.sl m cs = u2 at hg2
   cases hg2 with
   | leaf _ hc hp => subst hu2; cases hv
   | nil => cases hv
   | ref r2 n2 row2 cs2 hr2 hp2 hl2 hj2 =>
    injection hu2 with e3 e4
    injection hv with e5
    subst e4 e5
    exact ⟨row2, hr2, hj2⟩
   | agg => cases hu2
   | tup => cases hu2
  have hn : n ≤ r := by
   refine Nat.not_lt.1 fun hlt => ?_
   obtain ⟨row2, h3, -⟩ := key (H.set r none) fun q row' hq hr' => by rw [Qdz _ (by omega)]; exact hr'
   rw [show Qcz (H.set r none) r = none by simp [Qcz, List.getElem?_set]] at h3
   cases h3
  refine .inr ⟨r, row, rfl, hn, hr, hl, fun j hjl H2 h2 => ?_⟩
  obtain ⟨row2, h3, h4⟩ := key H2 h2
  rw [h2 r row hn hr] at h3
  cases h3
  exact h4 j hjl
 | agg => cases hu
 | tup => cases hu
structure St (lo hi : Nat) (ok : Prop) (re : Nat) (H1 H : Heap) : Prop where
 out : ∀ r, ¬ (lo ≤ r ∧ r < hi) → Qcz H r = Qcz H1 r
 len : ∀ r row, Qcz H1 r = some row → ∃ row', Qcz H r = some row' ∧ row'.cs.length = row.cs.length
 e : ok → Qcz H re = Qcz H1 re
theorem St.refl {lo hi : Nat} {ok : Prop} {re : Nat} {H1 : Heap} : St lo hi ok re H1 H1 := ⟨fun _ _ => rfl, fun r row h => ⟨row, h, rfl⟩, fun _ => rfl⟩
theorem Qmkz (cs : List V) (j : Nat) (v : V) : (puts cs j [v]).length = cs.length := by simp only [puts, QUz]
theorem St.set {lo hi : Nat} {ok : Prop} {re : Nat} {H1 H : Heap} (h : St lo hi ok re H1 H) {r : Nat} {row : Row} (hr : Qcz H r = some row) (hl : lo ≤ r) (hh : r < hi) (hne : ok → r ≠ re) {e s : Nat} {cs : List V} (hc : cs.length = row.cs.length) : St lo hi ok re H1 (H.set r (some ⟨e, s, cs⟩)) := by
 refine ⟨fun q hq => ?_, fun q rw0 hq => ?_, fun hk => ?_⟩
 ·rw [Qdz _ (by rintro rfl; exact hq ⟨hl, hh⟩)]; exact h.out q hq
 ·by_cases hqr : q = r
  ·subst hqr
   obtain ⟨row', h1, h2⟩ := h.len q rw0 hq
   rw [hr] at h1
   cases h1
   exact ⟨_, Qez hr, by rw [← h2]; exact hc⟩
  ·obtain ⟨row', h1, h2⟩ := h.len q rw0 hq
   exact ⟨row', by rw [Qdz _ (Ne.symm hqr)]; exact h1, h2⟩
 ·rw [Qdz _ (hne hk)]; exact h.e hk
theorem Qgnz {n : Nat} {H : Heap} {v : V} {m : Nat} {cs : List V} (h : GdF n H v (.sl m cs)) (y : Ty) (KP : V → Prop) : lenw y v KP = (y.sl.isSome = true ∧ KP (.int .i64 m)) := by
 rcases Qduz h with ⟨rfl, rfl | rfl⟩ | ⟨r, row, rfl, _⟩
 ·rfl
 ·rfl
 ·rfl
structure Wr (lo hi : Nat) (H : Heap) (t : Tn) (a b : V) (re : Nat) (ecs : List V) : Prop where
 s : 0 < t.shape.length → ∃ r row, a = .ref r 0 t.shape.length ∧ lo ≤ r ∧ r < hi ∧ Qcz H r = some row ∧ t.shape.length ≤ row.cs.length ∧ (0 < t.el.length → r ≠ re)
 e : 0 < t.el.length → b = .ref re 0 t.el.length ∧ lo ≤ re ∧ re < hi ∧ (∃ e s, Qcz H re = some ⟨e, s, ecs⟩) ∧ t.el.length * 3 ≤ ecs.length
 d : ∀ m, m < t.el.length → ∃ x : Raw, x = t.el.getD m r0 ∧ (∀ y KP, lenw y (nth ecs (m * 3 + 2)) KP = (y.sl.isSome = true ∧ KP (.int .i64 x.den.length))) ∧ kn (nth ecs (m * 3 + 2)) = true ∧ cellsOf (nth ecs (m * 3 + 2)) = [nth ecs (m * 3 + 2)] ∧ scal (nth ecs (m * 3 + 2)) = true ∧ (0 < x.den.length → ∃ r row, nth ecs (m * 3 + 2) = .ref r 0 x.den.length ∧ lo ≤ r ∧ r < hi ∧ Qcz H r = some row ∧ x.den.length ≤ row.cs.length ∧ r ≠ re)
theorem Wr.of {lo hi : Nat} {H : Heap} {t : Tn} {a b : V} (h : GdR lo hi H (.agg [a, b]) (tnV t)) : ∃ re ecs, Wr lo hi H t a b re ecs := by
 obtain ⟨a', b', e, ha, hb⟩ := GdF.agg2 h
 cases e
 have hup : ∀ r row, Qcz (H.take hi) r = some row → r < hi ∧ Qcz H r = some row := fun r row hr => by
  rw [Zrz] at hr
  split at hr
  ·exact ⟨by assumption, hr⟩
  ·cases hr
 have hl3 : (Qqz t.el).length = t.el.length * 3 := by rw [Qqz, Zkz]
 rcases Qduz hb with ⟨h0, hb'⟩ | ⟨re, rowe, rfl, hle, hre, hll, hj⟩
 ·refine ⟨0, [], ⟨fun hs => ?_, fun he => by omega, fun m hm => by omega⟩⟩
  rcases Qduz ha with ⟨h1, _⟩ | ⟨r, row, rfl, q1, q2, q3, q4⟩
  ·omega
  ·obtain ⟨q5, q6⟩ := hup r row q2
   exact ⟨r, row, rfl, q1, q5, q6, by rwa [QDz] at q3, fun he => by omega⟩
 ·obtain ⟨hre1, hre2⟩ := hup re rowe hre
  have hcell : ∀ m, m < t.el.length → nth rowe.cs (m * 3) = .bool (t.el.getD m r0).neg ∧ GdF lo (H.take hi) (nth rowe.cs (m * 3 + 2)) (NA (t.el.getD m r0).den) := fun m hm => by
   have g0 := hj (m * 3) (by omega)
   have g2 := hj (m * 3 + 2) (by omega)
   have n0 := nth_raws0 t.el m hm
   have n2 := nth_raws2 t.el m hm
   rw [n0] at g0
   rw [n2] at g2
   exact ⟨g0.gd.bool_inv, g2⟩
  refine ⟨re, rowe.cs, ⟨fun hs => ?_, fun he => ⟨rfl, hle, hre1, ⟨rowe.e, rowe.s, hre2⟩, by omega⟩, fun m hm => ?_⟩⟩
  ·rcases Qduz ha with ⟨h1, _⟩ | ⟨r, row, rfl, q1, q2, q3, q4⟩
   ·omega
   ·obtain ⟨q5, q6⟩ := hup r row q2
    refine ⟨r, row, rfl, q1, q5, q6, by rwa [QDz] at q3, fun he hrr => ?_⟩
    subst hrr
    rw [q6] at hre2
    cases hre2
    have g := (q4 0 (by rw [QDz]; exact hs)).gd
    have g0 := (hcell 0 he).1
    rw [Nat.zero_mul] at g0
    rw [g0, Qmqz t.shape 0 hs] at g
    cases g
  ·obtain ⟨g0, g2⟩ := hcell m hm
   obtain ⟨k1, k2, k3⟩ := QJz g2.gd
   refine ⟨t.el.getD m r0, rfl, fun y KP => Qgnz g2 y KP, k1, k2, k3, fun hd => ?_⟩
   rcases Qduz g2 with ⟨h1, _⟩ | ⟨r, row, q0, q1, q2, q3, q4⟩
   ·omega
   ·obtain ⟨q5, q6⟩ := hup r row q2
    refine ⟨r, row, q0, q1, q5, q6, by rwa [Qwz] at q3, fun hrr => ?_⟩
    subst hrr
    rw [q6] at hre2
    cases hre2
    have g := (q4 0 (by rw [Qwz]; exact hd)).gd
    have g0 := (hcell 0 (by omega)).1
    rw [Nat.zero_mul] at g0
    rw [g0] at g
    have hn := ZTz (k := .u32) (t.el.getD m r0).den 0 hd
    rw [hn] at g
    cases g
end Go.Proofs.YtjdbdmhjakfldaaGreat
end
section
namespace Go.Proofs.YtjdbdmhjakfldaaGreat
open Go.Bv
theorem GdR.wide {lo hi hi' : Nat} {H : Heap} {v u : V} (h : GdR lo hi H v u) (hh : hi ≤ hi') : GdR lo hi' H v u := by
 refine GdF.far h fun r row hl hr => ?_
 rw [Zrz] at hr ⊢
 split at hr
 ·rw [if_pos (by omega)]; exact hr
 ·cases hr
theorem push_one' {y : Ty} {e e' s' k : Nat} {v : V} {H : Heap} {xs : List Int} {p : Int} {K : V → Heap → Prop} (h : Bv.Own e 1 H v k (ints xs)) (hk : k = xs.length) (hy : y.size = 1) (hb : 0 < y.bytes ∧ y.bytes ≤ 8) (hl : xs.length + 2 ≤ 17592186044416)
  (hK : ∀ H', Bv.Own e 1 H' (.ref (H.length + 1) 0 (k + 1)) (k + 1) (ints (xs ++ [p])) → Fr v H H' → H'.length = H.length + 2 → K (.ref (H.length + 1) 0 (k + 1)) H') :
  appw y e v (.ref H.length 0 1) (H ++ [some ⟨e', s', [.int .i64 p]⟩]) K := by
 rw [← hy] at h
 refine Qadz h (by rw [hy]; rfl) (by simp [scal]) (by omega) (by omega) (by have : (k + 1) * y.bytes ≤ (k + 1) * 8 := Nat.mul_le_mul_left _ hb.2; omega) (X8z _) fun H' k1 k2 k3 => ?_
 rw [hy] at k1
 exact hK H' (by rw [ZCz]; exact k1) k2 k3
theorem push_two' {y : Ty} {e e' s' k : Nat} {v : V} {H : Heap} {xs : List Int} {p q : Int} {K : V → Heap → Prop} (h : Bv.Own e 1 H v k (ints xs)) (hk : k = xs.length) (hy : y.size = 1) (hb : 0 < y.bytes ∧ y.bytes ≤ 8) (hl : xs.length + 2 ≤ 17592186044416)
  (hK : ∀ H', Bv.Own e 1 H' (.ref (H.length + 1) 0 (k + 2)) (k + 2) (ints (xs ++ [p, q])) → Fr v H H' → H'.length = H.length + 2 → K (.ref (H.length + 1) 0 (k + 2)) H') :
  appw y e v (.ref H.length 0 2) (H ++ [some ⟨e', s', [.int .i64 p, .int .i64 q]⟩]) K := by
 rw [← hy] at h
 refine Qadz h (by rw [hy]; rfl) (by simp [scal]) (by omega) (by omega) (by have : (k + 2) * y.bytes ≤ (k + 2) * 8 := Nat.mul_le_mul_left _ hb.2; omega) (X8z _) fun H' k1 k2 k3 => ?_
 rw [hy] at k1
 exact hK H' (by rw [ZCz]; exact k1) k2 k3
theorem Qccz {C : Ctx} {f : FuncId} {args args' : List V} {K : V → Heap → Prop} {t : Tn} (hv : Val C f args' (.tup [tnV t, .int .i64 0])) {H : Heap} (hb : BorL H args args') (hK : ∀ (a b : V) (X : Heap), GdR H.length (H ++ X).length (H ++ X) (.agg [a, b]) (tnV t) → kn a = true ∧ cellsOf a = [a] ∧ scal a = true → kn b = true ∧ cellsOf b = [b] ∧ scal b = true → K (.tup [.agg [a, b], .int .i64 0]) (H ++ X)) : Fc C f args H K :=
 hv.keptF hb fun v X hv => by
  obtain ⟨w, e, rfl, hw, he⟩ := hv.tup2
  obtain ⟨a, b, rfl, ha, hb⟩ := hw.agg2
  rw [he.gd.int_inv]
  exact hK a b X (GdR.of hw rfl) (QJz ha.gd) (QJz hb.gd)
theorem own_stepP {C : Ctx} {f : FuncId} {args args' : List V} {K : V → Heap → Prop} {t : Tn} (hv : Val C f args' (.tup [tnV t, .int .i64 0])) (hs : ∃ v H, Gd H v (.tup [tnV t, .int .i64 0]) ∧ Xhz H) {H0 H : Heap} (hb : BorL H args args') (hK : ∀ (a b : V) (X : Heap), GdR H.length (H ++ X).length (H ++ X) (.agg [a, b]) (tnV t) → kn a = true ∧ cellsOf a = [a] ∧ scal a = true → kn b = true ∧ cellsOf b = [b] ∧ scal b = true → K (.tup [.agg [a, b], .int .i64 0]) (H ++ X)) : Pc C H0 f args H K :=
 Pc.keptF hv hs hb fun v X hv => by
  obtain ⟨w, e, rfl, hw, he⟩ := hv.tup2
  obtain ⟨a, b, rfl, ha, hb⟩ := hw.agg2
  rw [he.gd.int_inv]
  exact hK a b X (GdR.of hw rfl) (QJz ha.gd) (QJz hb.gd)
theorem Qmcz (t : Tn) (ht : TnOK t) : Pu C 11 [tnV t] (.bool true) := by
 refine Fc.keep (Fc.bodyT Qgz Tryz.func11 w11 rfl Tryz.ntmps11 Tryz.results11 (zLe rfl) ?_)
 (refine Zo ?_;repeat' ((with_reducible first|refine Zk ?_|(first|apply Za|apply Zb|apply Zc|apply Zd)<;>intro h)<;>try simp -implicitDefEqProofs (maxSteps:=9^7) (disch:=first|omega|(simp only [lens];omega)) only [go_sem]))
 refine Fc.pure (Qpez t ht) (by simp [cloL, clo, Qbz, Qiz, QHz]) (fun g => rfl) ?_
 by_cases hm : mayT t = 0
 case neg =>
  (refine Zo ?_;repeat' ((with_reducible first|refine Zk ?_|(first|apply Za|apply Zb|apply Zc|apply Zd)<;>intro h)<;>try simp -implicitDefEqProofs (maxSteps:=9^7) (disch:=first|omega|(simp only [lens];omega)) only [go_sem]))
  refine Fc.pure Qfiz rfl (fun g => rfl) ?_
  (refine Zo ?_;repeat' ((with_reducible first|refine Zk ?_|(first|apply Za|apply Zb|apply Zc|apply Zd)<;>intro h)<;>try simp -implicitDefEqProofs (maxSteps:=9^7) (disch:=first|omega|(simp only [lens];omega)) only [go_sem]))
  (refine Qoz (by intro g; simp only [go_sem, ren, renL]) ?_)
  all_goals rfl
 rw [hm]
 obtain ⟨hf, hmp, hel⟩ := QXz hm
 obtain ⟨m1, m2, m3⟩ := QCz hmp
 (refine Zo ?_;repeat' ((with_reducible first|refine Zk ?_|(first|apply Za|apply Zb|apply Zc|apply Zd)<;>intro h)<;>try simp -implicitDefEqProofs (maxSteps:=9^7) (disch:=first|omega|(simp only [lens];omega)) only [go_sem]))
 refine (Qooz t ht).call ⟨.self (QHz _), trivial⟩ (QHz _) ?_
 (refine Zo ?_;repeat' ((with_reducible first|refine Zk ?_|(first|apply Za|apply Zb|apply Zc|apply Zd)<;>intro h)<;>try simp -implicitDefEqProofs (maxSteps:=9^7) (disch:=first|omega|(simp only [lens];omega)) only [go_sem]))
 refine Qfz (fun n ts H => ∃ (k : Nat) (u w : V), (k ≤ t.shape.length) ∧ (Qcz H 0 = some ⟨26, 2, [.sl t.shape.length (ints t.shape), .sl t.el.length (Qqz t.el)]⟩) ∧ (Qcz H 1 = some ⟨26, 2, [.sl t.shape.length (ints t.shape), .sl t.el.length (Qqz t.el)]⟩) ∧ (Bv.Own 3 1 H u k (ints (iota k))) ∧ (Bv.Own 3 1 H w (2 * k) (ints (cutL 0 t.shape t.shape.length k))) ∧ ((∀ q off n m, u = .ref q off n → w ≠ .ref q 0 m)) ∧ (n = t.shape.length - k) ∧ ts.length = 178 ∧ nth ts 1 = .ptr 0 0 ∧ nth ts 3 = .ptr 1 0 ∧ nth ts 4 = u ∧ nth ts 5 = w ∧ nth ts 6 = .int .i64 (k : Nat)) ?_ (n := t.shape.length) ?_
 ·skip
  rintro n ts H ⟨k, u, w, hk, h0, h1, hu, hw, hd, hn, hL, hs1, hs3, hs4, hs5, hs6⟩
  refine Qsz [(1, .ptr 0 0), (3, .ptr 1 0), (4, u), (5, w), (6, .int .i64 (k : Nat))] hL (by simp only [zFm, hs1, hs3, hs4, hs5, hs6, true_and]; exact zNm) ?_
  clear hL hs1 hs3 hs4 hs5 hs6 ts
  refine Qrz Qgz ?_
  obtain ⟨a1, a2, a3⟩ := own_sw hu
  obtain ⟨b1, b2, b3⟩ := own_sw hw
  have hlu := Xfz k
  have hlw := Qciz 0 t.shape t.shape.length k
  by_cases hkl : k < t.shape.length
  ·have hcs := Qeaz 0 t.shape t.shape.length k
   rw [if_neg (by omega)] at hcs
   have his := iota_succ k
   (refine Zo ?_;repeat' ((with_reducible first|refine Zk ?_|(first|apply Za|apply Zb|apply Zc|apply Zd)<;>intro h)<;>try simp -implicitDefEqProofs (maxSteps:=9^7) (disch:=first|omega|(simp only [lens];omega)) only [go_sem, h0, a1, a2, a3, b1, b2, b3]))
   refine push_one' hu hlu.symm rfl ⟨by decide, by decide⟩ (by omega) fun H1 hu1 hF hl1 => ?_
   have hw1 := hw.fr hF hd
   rw [← his] at hu1
   have g0 := Xvz hu hF h0 (by decide)
   have g1 := Xvz hu hF h1 (by decide)
   (refine Zo ?_;repeat' ((with_reducible first|refine Zk ?_|(first|apply Za|apply Zb|apply Zc|apply Zd)<;>intro h)<;>try simp -implicitDefEqProofs (maxSteps:=9^7) (disch:=first|omega|(simp only [lens];omega)) only [go_sem, g0, b1, b2, b3]))
   refine push_two' hw1 hlw.symm rfl ⟨by decide, by decide⟩ (by omega) fun H2 hw2 hF2 hl2 => ?_
   rw [← hcs] at hw2
   have f0 := Xvz hw1 hF2 g0 (by decide)
   have f1 := Xvz hw1 hF2 g1 (by decide)
   have hwl : ∀ q off n, w = .ref q off n → q < H.length := fun q off n e => by
    rcases hw with ⟨rfl, _⟩ | ⟨q', rfl, hq', _⟩
    ·cases e
    ·injection e with e; subst e; exact Qtz hq'
   have hu2 := hu1.fr hF2 fun q off n m e1 e2 => by
    have := hwl q off n e1
    injection e2 with e2
    omega
   (refine Zo ?_;repeat' ((with_reducible first|refine Zk ?_|(first|apply Za|apply Zb|apply Zc|apply Zd)<;>intro h)<;>try simp -implicitDefEqProofs (maxSteps:=9^7) (disch:=first|omega|(simp only [lens];omega)) only [go_sem]))
   refine ⟨t.shape.length - (k + 1), by omega, k + 1, _, _, by omega, f0, f1, hu2, hw2, fun q off n m e1 e2 => ?_, rfl, (by (repeat' apply And.intro) <;> (first | rfl | omega | (congr 1; omega) | assumption | (congr 1; assumption)))⟩
   injection e1 with e1
   injection e2 with e2
   omega
  ·have hks : k = t.shape.length := by omega
   subst hks
   obtain ⟨oe1, oq1⟩ := own_trans hm
   have v1 := ZKz t ht (iota t.shape.length) (by rw [Xfz]; omega)
   rw [oe1, oq1, Xfz] at v1
   obtain ⟨oe2, oq2⟩ := own_resh hm
   have v2 := Qkgz t ht t.shape (by omega)
   rw [oe2, oq2] at v2
   obtain ⟨oe3, oq3⟩ := own_brc hm
   have v3 := Qguz t ht t.shape (by omega)
   rw [oe3, oq3] at v3
   obtain ⟨oe4, oq4⟩ := own_slice hm
   have v4 := Qhmz t ht (cutL 0 t.shape t.shape.length t.shape.length) (by omega)
   rw [oe4, oq4, hlw] at v4
   obtain ⟨oe5, oq5⟩ := own_pad hm
   have v5 := pad_val t ht (List.replicate (2 * t.shape.length) 0) (by simp; omega)
   rw [oe5, oq5, List.length_replicate] at v5
   clear oe1 oq1 oe2 oq2 oe3 oq3 oe4 oq4 oe5 oq5
   (refine Zo ?_;repeat' ((with_reducible first|refine Zk ?_|(first|apply Za|apply Zb|apply Zc|apply Zd)<;>intro h)<;>try simp -implicitDefEqProofs (maxSteps:=9^7) (disch:=first|omega|(simp only [lens];omega)) only [go_sem, h0, h1, a1, a2, a3, b1, b2, b3]))
   refine Qccz v1 (H := H) ⟨.self (QHz _), hu.bor' (Qbz _), trivial⟩ fun p1 q1 X1 g1 kp1 kq1 => ?_
   obtain ⟨x11, x12, x13⟩ := kp1
   obtain ⟨y11, y12, y13⟩ := kq1
   obtain ⟨l1, hl1⟩ : ∃ l, H.length = l := ⟨_, rfl⟩
   have hl12 : 2 ≤ l1 := by rw [← hl1]; exact Qtz h1
   obtain ⟨e1, he1⟩ : ∃ l, (H ++ X1).length = l := ⟨_, rfl⟩
   have hle1 : l1 ≤ e1 := by rw [← hl1, ← he1, List.length_append]; omega
   rw [hl1, he1] at g1
   have h0 := Qaz h0 X1
   have h1 := Qaz h1 X1
   have hw := hw.keep X1
   generalize H ++ X1 = G at *
   have c0 : ∀ Y, Qcz (G ++ Y) 0 = _ := fun Y => Qaz h0 Y
   have c1 : ∀ Y, Qcz (G ++ Y) 1 = _ := fun Y => Qaz h1 Y
   have kA : ∀ y : Row, Qcz (G ++ [some y]) e1 = some y := fun y => by rw [← he1]; exact QAz _ _
   have kB : ∀ x y : Option Row, (G ++ [x]).set e1 y = G ++ [y] := fun x y => by
    rw [List.set_append_right _ _ (by omega), he1, Nat.sub_self]; rfl
   (refine Zo ?_;repeat' ((with_reducible first|refine Zk ?_|(first|apply Za|apply Zb|apply Zc|apply Zd)<;>intro h)<;>try simp -implicitDefEqProofs (maxSteps:=9^7) (disch:=first|omega|(simp only [lens];omega)) only [go_sem, c0, c1, he1, kA, kB, x11, x12, x13, y11, y12, y13, b1, b2, b3]))
   have h0 := c0 [some ⟨26, 2, [p1, q1]⟩]
   have h1 := c1 [some ⟨26, 2, [p1, q1]⟩]
   have hw := hw.keep [some ⟨26, 2, [p1, q1]⟩]
   have hr1 := kA ⟨26, 2, [p1, q1]⟩
   have g1 := g1.keep fun r row _ _ hr => Qaz hr [some ⟨26, 2, [p1, q1]⟩]
   have hz1 : (G ++ [some (⟨26, 2, [p1, q1]⟩ : Row)]).length = e1 + 1 := by rw [List.length_append, he1]; rfl
   clear c0 c1 kA kB
   clear he1 hl1
   generalize G ++ [some (⟨26, 2, [p1, q1]⟩ : Row)] = H at *
   refine Qccz v2 (H := H) ⟨.self (QHz _), .self (by simp [clo, Qbz]), trivial⟩ fun p2 q2 X2 g2 kp2 kq2 => ?_
   obtain ⟨x21, x22, x23⟩ := kp2
   obtain ⟨y21, y22, y23⟩ := kq2
   obtain ⟨l2, hl2⟩ : ∃ l, H.length = l := ⟨_, rfl⟩
   have hll2 : l2 = e1 + 1 := by rw [← hl2]; exact hz1
   obtain ⟨e2, he2⟩ : ∃ l, (H ++ X2).length = l := ⟨_, rfl⟩
   have hle2 : l2 ≤ e2 := by rw [← hl2, ← he2, List.length_append]; omega
   rw [hl2, he2] at g2
   have h0 := Qaz h0 X2
   have h1 := Qaz h1 X2
   have hw := hw.keep X2
   have g1 := g1.keep fun r row _ _ hr => Qaz hr X2
   have hr1 := Qaz hr1 X2
   generalize H ++ X2 = G at *
   have c0 : ∀ Y, Qcz (G ++ Y) 0 = _ := fun Y => Qaz h0 Y
   have c1 : ∀ Y, Qcz (G ++ Y) 1 = _ := fun Y => Qaz h1 Y
   have kA : ∀ y : Row, Qcz (G ++ [some y]) e2 = some y := fun y => by rw [← he2]; exact QAz _ _
   have kB : ∀ x y : Option Row, (G ++ [x]).set e2 y = G ++ [y] := fun x y => by
    rw [List.set_append_right _ _ (by omega), he2, Nat.sub_self]; rfl
   (refine Zo ?_;repeat' ((with_reducible first|refine Zk ?_|(first|apply Za|apply Zb|apply Zc|apply Zd)<;>intro h)<;>try simp -implicitDefEqProofs (maxSteps:=9^7) (disch:=first|omega|(simp only [lens];omega)) only [go_sem, c0, c1, he2, kA, kB, x21, x22, x23, y21, y22, y23, b1, b2, b3]))
   have h0 := c0 [some ⟨26, 2, [p2, q2]⟩]
   have h1 := c1 [some ⟨26, 2, [p2, q2]⟩]
   have hw := hw.keep [some ⟨26, 2, [p2, q2]⟩]
   have hr2 := kA ⟨26, 2, [p2, q2]⟩
   have g1 := g1.keep fun r row _ _ hr => Qaz hr [some ⟨26, 2, [p2, q2]⟩]
   have g2 := g2.keep fun r row _ _ hr => Qaz hr [some ⟨26, 2, [p2, q2]⟩]
   have hr1 := Qaz hr1 [some ⟨26, 2, [p2, q2]⟩]
   have hz2 : (G ++ [some (⟨26, 2, [p2, q2]⟩ : Row)]).length = e2 + 1 := by rw [List.length_append, he2]; rfl
   clear c0 c1 kA kB
   clear he2 hl2
   generalize G ++ [some (⟨26, 2, [p2, q2]⟩ : Row)] = H at *
   refine Qccz v3 (H := H) ⟨.self (QHz _), .self (by simp [clo, Qbz]), trivial⟩ fun p3 q3 X3 g3 kp3 kq3 => ?_
   obtain ⟨x31, x32, x33⟩ := kp3
   obtain ⟨y31, y32, y33⟩ := kq3
   obtain ⟨l3, hl3⟩ : ∃ l, H.length = l := ⟨_, rfl⟩
   have hll3 : l3 = e2 + 1 := by rw [← hl3]; exact hz2
   obtain ⟨e3, he3⟩ : ∃ l, (H ++ X3).length = l := ⟨_, rfl⟩
   have hle3 : l3 ≤ e3 := by rw [← hl3, ← he3, List.length_append]; omega
   rw [hl3, he3] at g3
   have h0 := Qaz h0 X3
   have h1 := Qaz h1 X3
   have hw := hw.keep X3
   have g1 := g1.keep fun r row _ _ hr => Qaz hr X3
   have g2 := g2.keep fun r row _ _ hr => Qaz hr X3
   have hr1 := Qaz hr1 X3
   have hr2 := Qaz hr2 X3
   generalize H ++ X3 = G at *
   have c0 : ∀ Y, Qcz (G ++ Y) 0 = _ := fun Y => Qaz h0 Y
   have c1 : ∀ Y, Qcz (G ++ Y) 1 = _ := fun Y => Qaz h1 Y
   have kA : ∀ y : Row, Qcz (G ++ [some y]) e3 = some y := fun y => by rw [← he3]; exact QAz _ _
   have kB : ∀ x y : Option Row, (G ++ [x]).set e3 y = G ++ [y] := fun x y => by
    rw [List.set_append_right _ _ (by omega), he3, Nat.sub_self]; rfl
   (refine Zo ?_;repeat' ((with_reducible first|refine Zk ?_|(first|apply Za|apply Zb|apply Zc|apply Zd)<;>intro h)<;>try simp -implicitDefEqProofs (maxSteps:=9^7) (disch:=first|omega|(simp only [lens];omega)) only [go_sem, c0, c1, he3, kA, kB, x31, x32, x33, y31, y32, y33, b1, b2, b3]))
   have h0 := c0 [some ⟨26, 2, [p3, q3]⟩]
   have h1 := c1 [some ⟨26, 2, [p3, q3]⟩]
   have hw := hw.keep [some ⟨26, 2, [p3, q3]⟩]
   have hr3 := kA ⟨26, 2, [p3, q3]⟩
   have g1 := g1.keep fun r row _ _ hr => Qaz hr [some ⟨26, 2, [p3, q3]⟩]
   have g2 := g2.keep fun r row _ _ hr => Qaz hr [some ⟨26, 2, [p3, q3]⟩]
   have g3 := g3.keep fun r row _ _ hr => Qaz hr [some ⟨26, 2, [p3, q3]⟩]
   have hr1 := Qaz hr1 [some ⟨26, 2, [p3, q3]⟩]
   have hr2 := Qaz hr2 [some ⟨26, 2, [p3, q3]⟩]
   have hz3 : (G ++ [some (⟨26, 2, [p3, q3]⟩ : Row)]).length = e3 + 1 := by rw [List.length_append, he3]; rfl
   clear c0 c1 kA kB
   clear he3 hl3
   generalize G ++ [some (⟨26, 2, [p3, q3]⟩ : Row)] = H at *
   refine Qccz v4 (H := H) ⟨.self (QHz _), hw.bor' (Qbz _), trivial⟩ fun p4 q4 X4 g4 kp4 kq4 => ?_
   obtain ⟨x41, x42, x43⟩ := kp4
   obtain ⟨y41, y42, y43⟩ := kq4
   obtain ⟨l4, hl4⟩ : ∃ l, H.length = l := ⟨_, rfl⟩
   have hll4 : l4 = e3 + 1 := by rw [← hl4]; exact hz3
   obtain ⟨e4, he4⟩ : ∃ l, (H ++ X4).length = l := ⟨_, rfl⟩
   have hle4 : l4 ≤ e4 := by rw [← hl4, ← he4, List.length_append]; omega
   rw [hl4, he4] at g4
   have h0 := Qaz h0 X4
   have h1 := Qaz h1 X4
   have hw := hw.keep X4
   have g1 := g1.keep fun r row _ _ hr => Qaz hr X4
   have g2 := g2.keep fun r row _ _ hr => Qaz hr X4
   have g3 := g3.keep fun r row _ _ hr => Qaz hr X4
   have hr1 := Qaz hr1 X4
   have hr2 := Qaz hr2 X4
   have hr3 := Qaz hr3 X4
   generalize H ++ X4 = G at *
   have c0 : ∀ Y, Qcz (G ++ Y) 0 = _ := fun Y => Qaz h0 Y
   have c1 : ∀ Y, Qcz (G ++ Y) 1 = _ := fun Y => Qaz h1 Y
   have kA : ∀ y : Row, Qcz (G ++ [some y]) e4 = some y := fun y => by rw [← he4]; exact QAz _ _
   have kB : ∀ x y : Option Row, (G ++ [x]).set e4 y = G ++ [y] := fun x y => by
    rw [List.set_append_right _ _ (by omega), he4, Nat.sub_self]; rfl
   have hlw2 := hw.lenw (C.ty 22)
   (refine Zo ?_;repeat' ((with_reducible first|refine Zk ?_|(first|apply Za|apply Zb|apply Zc|apply Zd)<;>intro h)<;>try simp -implicitDefEqProofs (maxSteps:=9^7) (disch:=first|omega|(simp only [lens];omega)) only [go_sem, hlw2, c0, c1, he4, kA, kB, x41, x42, x43, y41, y42, y43, b1, b2, b3]))
   have h0 := c0 [some ⟨26, 2, [p4, q4]⟩]
   have h1 := c1 [some ⟨26, 2, [p4, q4]⟩]
   have hw := hw.keep [some ⟨26, 2, [p4, q4]⟩]
   have hr4 := kA ⟨26, 2, [p4, q4]⟩
   have g1 := g1.keep fun r row _ _ hr => Qaz hr [some ⟨26, 2, [p4, q4]⟩]
   have g2 := g2.keep fun r row _ _ hr => Qaz hr [some ⟨26, 2, [p4, q4]⟩]
   have g3 := g3.keep fun r row _ _ hr => Qaz hr [some ⟨26, 2, [p4, q4]⟩]
   have g4 := g4.keep fun r row _ _ hr => Qaz hr [some ⟨26, 2, [p4, q4]⟩]
   have hr1 := Qaz hr1 [some ⟨26, 2, [p4, q4]⟩]
   have hr2 := Qaz hr2 [some ⟨26, 2, [p4, q4]⟩]
   have hr3 := Qaz hr3 [some ⟨26, 2, [p4, q4]⟩]
   have hz4 : (G ++ [some (⟨26, 2, [p4, q4]⟩ : Row)]).length = e4 + 1 := by rw [List.length_append, he4]; rfl
   clear c0 c1 kA kB
   clear he4 hl4
   generalize G ++ [some (⟨26, 2, [p4, q4]⟩ : Row)] = H at *
   have hsome : ∃ v H, Gd H v (.tup [tnV t, .int .i64 0]) ∧ Xhz H := ⟨_, _, (Gd.tupL (H := H) (l := [.agg [p1, q1], .int .i64 0]) (m := [tnV t, .int .i64 0]) ⟨g1.gd, gd_i _ _, trivial⟩).keep, Qdsz H⟩
   obtain ⟨l5, hl5⟩ : ∃ l, H.length = l := ⟨_, rfl⟩
   have hll5 : l5 = e4 + 1 := by rw [← hl5]; exact hz4
   have hzr := QAz H ⟨3, 1, nats .i64 (List.replicate (2 * t.shape.length) 0)⟩
   rw [hl5] at hzr
   have hzo : Bv.Own 3 1 (H ++ [some (⟨3, 1, nats .i64 (List.replicate (2 * t.shape.length) 0)⟩ : Row)]) (.ref l5 0 (2 * t.shape.length)) (2 * t.shape.length) (ints (List.replicate (2 * t.shape.length) 0)) := .inr ⟨l5, rfl, by rw [← Z2z]; exact hzr, by rw [QDz, List.length_replicate]; omega⟩
   refine YQz rfl rfl rfl rfl (by simp [t3bytes]) (by omega) ?_
   rw [hl5]
   (refine Zo ?_;repeat' ((with_reducible first|refine Zk ?_|(first|apply Za|apply Zb|apply Zc|apply Zd)<;>intro h)<;>try simp -implicitDefEqProofs (maxSteps:=9^7) (disch:=first|omega|(simp only [lens];omega)) only [go_sem, h0, h1]))
   refine own_stepP v5 hsome (H := H ++ [some (⟨3, 1, nats .i64 (List.replicate (2 * t.shape.length) 0)⟩ : Row)]) ⟨.self (QHz _), hzo.bor' (Qbz _), trivial⟩ fun p5 q5 X5 g5 kp5 kq5 => ?_
   obtain ⟨x51, x52, x53⟩ := kp5
   obtain ⟨y51, y52, y53⟩ := kq5
   have hl6 : (H ++ [some (⟨3, 1, nats .i64 (List.replicate (2 * t.shape.length) 0)⟩ : Row)]).length = l5 + 1 := by rw [List.length_append, hl5]; rfl
   obtain ⟨e5, he5⟩ : ∃ l, ((H ++ [some (⟨3, 1, nats .i64 (List.replicate (2 * t.shape.length) 0)⟩ : Row)]) ++ X5).length = l := ⟨_, rfl⟩
   have hle5 : l5 + 1 ≤ e5 := by rw [← hl6, ← he5]; simp only [List.length_append]; omega
   rw [hl6, he5] at g5
   have h0 := Qaz (Qaz h0 [some (⟨3, 1, nats .i64 (List.replicate (2 * t.shape.length) 0)⟩ : Row)]) X5
   have h1 := Qaz (Qaz h1 [some (⟨3, 1, nats .i64 (List.replicate (2 * t.shape.length) 0)⟩ : Row)]) X5
   have hr1 := Qaz (Qaz hr1 [some (⟨3, 1, nats .i64 (List.replicate (2 * t.shape.length) 0)⟩ : Row)]) X5
   have hr2 := Qaz (Qaz hr2 [some (⟨3, 1, nats .i64 (List.replicate (2 * t.shape.length) 0)⟩ : Row)]) X5
   have hr3 := Qaz (Qaz hr3 [some (⟨3, 1, nats .i64 (List.replicate (2 * t.shape.length) 0)⟩ : Row)]) X5
   have hr4 := Qaz (Qaz hr4 [some (⟨3, 1, nats .i64 (List.replicate (2 * t.shape.length) 0)⟩ : Row)]) X5
   have g1 := (g1.keep fun r row _ _ hr => Qaz hr [some (⟨3, 1, nats .i64 (List.replicate (2 * t.shape.length) 0)⟩ : Row)]).keep fun r row _ _ hr => Qaz hr X5
   have g2 := (g2.keep fun r row _ _ hr => Qaz hr [some (⟨3, 1, nats .i64 (List.replicate (2 * t.shape.length) 0)⟩ : Row)]).keep fun r row _ _ hr => Qaz hr X5
   have g3 := (g3.keep fun r row _ _ hr => Qaz hr [some (⟨3, 1, nats .i64 (List.replicate (2 * t.shape.length) 0)⟩ : Row)]).keep fun r row _ _ hr => Qaz hr X5
   have g4 := (g4.keep fun r row _ _ hr => Qaz hr [some (⟨3, 1, nats .i64 (List.replicate (2 * t.shape.length) 0)⟩ : Row)]).keep fun r row _ _ hr => Qaz hr X5
   generalize (H ++ [some (⟨3, 1, nats .i64 (List.replicate (2 * t.shape.length) 0)⟩ : Row)]) ++ X5 = G at *
   have c0 : ∀ Y, Qcz (G ++ Y) 0 = _ := fun Y => Qaz h0 Y
   have c1 : ∀ Y, Qcz (G ++ Y) 1 = _ := fun Y => Qaz h1 Y
   have hr1 := fun Y => Qaz hr1 Y
   have hr2 := fun Y => Qaz hr2 Y
   have hr3 := fun Y => Qaz hr3 Y
   have hr4 := fun Y => Qaz hr4 Y
   have kA : ∀ y : Row, Qcz (G ++ [some y]) e5 = some y := fun y => by rw [← he5]; exact QAz _ _
   have kB : ∀ x y : Option Row, (G ++ [x]).set e5 y = G ++ [y] := fun x y => by
    rw [List.set_append_right _ _ (by omega), he5, Nat.sub_self]; rfl
   (refine Zo ?_;repeat' ((with_reducible first|refine Zk ?_|(first|apply Za|apply Zb|apply Zc|apply Zd)<;>intro h)<;>try simp -implicitDefEqProofs (maxSteps:=9^7) (disch:=first|omega|(simp only [lens];omega)) only [go_sem, c0, c1, he5, kA, kB, hr1, hr2, hr3, hr4, x11, x12, x13, y11, y12, y13, x21, x22, x23, y21, y22, y23, x31, x32, x33, y31, y32, y33, x41, x42, x43, y41, y42, y43, x51, x52, x53, y51, y52, y53]))
   have hLr : Qcz ((G ++ [some (⟨26, 2, [p5, q5]⟩ : Row)]) ++ [some (⟨26, 2, [p1, q1, p2, q2, p3, q3, p4, q4, p5, q5]⟩ : Row)]) (e5 + 1) = some ⟨26, 2, [p1, q1, p2, q2, p3, q3, p4, q4, p5, q5]⟩ := by
    have := QAz (G ++ [some (⟨26, 2, [p5, q5]⟩ : Row)]) ⟨26, 2, [p1, q1, p2, q2, p3, q3, p4, q4, p5, q5]⟩
    rwa [List.length_append, he5] at this
   obtain ⟨B, hB⟩ : ∃ B : Nat → Nat, B = fun m => [l1, l2, l3, l4, l5, e5].getD m 0 := ⟨_, rfl⟩
   obtain ⟨lc, hlc⟩ : ∃ lc : List V, lc = [p1, q1, p2, q2, p3, q3, p4, q4, p5, q5] := ⟨_, rfl⟩
   have hadj : ∀ i, i < 5 → B i ≤ B (i + 1) := fun i hi => by
    rw [hB]
    match i, hi with
    | 0, _ => show l1 ≤ l2; omega
    | 1, _ => show l2 ≤ l3; omega
    | 2, _ => show l3 ≤ l4; omega
    | 3, _ => show l4 ≤ l5; omega
    | 4, _ => show l5 ≤ e5; omega
   have hBd : ∀ d i, i + d ≤ 5 → B i ≤ B (i + d) := fun d => by
    induction d with
    | zero => intro i _; exact Nat.le_refl _
    | succ d ih => intro i h; have h1 := ih i (by omega); have h2 := hadj (i + d) (by omega); rw [show i + (d + 1) = i + d + 1 by omega]; omega
   have hB0 : 2 ≤ B 0 := by rw [hB]; exact hl12
   have hB5 : B 5 = e5 := by rw [hB]; rfl
   have hll : lc.length = 10 := by rw [hlc]; rfl
   have hG0 : ∀ j, j < 5 → GdR (B j) (B (j + 1)) ((G ++ [some (⟨26, 2, [p5, q5]⟩ : Row)]) ++ [some (⟨26, 2, lc⟩ : Row)]) (.agg [nth lc (j * 2), nth lc (j * 2 + 1)]) (tnV t) := fun j hj => by
    rw [hB, hlc]
    have kk : ∀ lo hi a b, GdR lo hi G (.agg [a, b]) (tnV t) → GdR lo hi ((G ++ [some (⟨26, 2, [p5, q5]⟩ : Row)]) ++ [some (⟨26, 2, [p1, q1, p2, q2, p3, q3, p4, q4, p5, q5]⟩ : Row)]) (.agg [a, b]) (tnV t) := fun lo hi a b g => (g.keep fun r row _ _ hr => Qaz hr _).keep fun r row _ _ hr => Qaz hr _
    match j, hj with
    | 0, _ => exact (kk _ _ _ _ g1).wide (by show e1 ≤ l2; omega)
    | 1, _ => exact (kk _ _ _ _ g2).wide (by show e2 ≤ l3; omega)
    | 2, _ => exact (kk _ _ _ _ g3).wide (by show e3 ≤ l4; omega)
    | 3, _ => exact (kk _ _ _ _ g4).wide (by show e4 ≤ l5; omega)
    | 4, _ =>
     refine GdF.low (kk _ _ _ _ g5) ?_
     show l5 ≤ l5 + 1
     omega
   have h0' := Qaz (c0 [some (⟨26, 2, [p5, q5]⟩ : Row)]) [some (⟨26, 2, lc⟩ : Row)]
   have h1' := Qaz (c1 [some (⟨26, 2, [p5, q5]⟩ : Row)]) [some (⟨26, 2, lc⟩ : Row)]
   rw [← hlc] at hLr
   have hsm := YHz t t ht ht
   rw [Qhpz] at hsm
   refine Qfz (fun n ts H => ∃ (m : Nat), (m ≤ 5) ∧ (Qcz H 0 = some ⟨26, 2, [.sl t.shape.length (ints t.shape), .sl t.el.length (Qqz t.el)]⟩) ∧ (Qcz H 1 = some ⟨26, 2, [.sl t.shape.length (ints t.shape), .sl t.el.length (Qqz t.el)]⟩) ∧ (Qcz H (e5 + 1) = some ⟨26, 2, lc⟩) ∧ ((∀ j, m ≤ j → j < 5 → GdR (B j) (B (j + 1)) H (.agg [nth lc (j * 2), nth lc (j * 2 + 1)]) (tnV t))) ∧ (n = 5 - m) ∧ ts.length = 178 ∧ nth ts 1 = .ptr 0 0 ∧ nth ts 3 = .ptr 1 0 ∧ nth ts 8 = .int .i64 0 ∧ nth ts 10 = .int .i64 0 ∧ nth ts 12 = .int .i64 0 ∧ nth ts 14 = .int .i64 0 ∧ nth ts 16 = .int .i64 0 ∧ nth ts 17 = .ref (e5 + 1) 0 5 ∧ nth ts 18 = .int .i64 (m : Nat)) ?_ (n := 5) ?_
   ·skip
    rintro n ts H ⟨m, hm5, h0, h1, hL, hG, hn, hL, hs1, hs3, hs8, hs10, hs12, hs14, hs16, hs17, hs18⟩
    refine Qsz [(1, .ptr 0 0), (3, .ptr 1 0), (8, .int .i64 0), (10, .int .i64 0), (12, .int .i64 0), (14, .int .i64 0), (16, .int .i64 0), (17, .ref (e5 + 1) 0 5), (18, .int .i64 (m : Nat))] hL (by simp only [zFm, hs1, hs3, hs8, hs10, hs12, hs14, hs16, hs17, hs18, true_and]; exact zNm) ?_
    clear hL hs1 hs3 hs8 hs10 hs12 hs14 hs16 hs17 hs18 ts
    refine Qrz Qgz ?_
    by_cases hm : m < 5
    ·have g := hG m (Nat.le_refl _) hm
     obtain ⟨re, ecs, W⟩ := Wr.of g
     obtain ⟨a', b', e, ha, hb⟩ := GdF.agg2 g
     injection e with e
     injection e with e1' e2'
     injection e2' with e2'
     subst e1' e2'
     obtain ⟨u1, u2, u3⟩ := QJz ha.gd
     obtain ⟨v1, v2, v3⟩ := QJz hb.gd
     subst hn
     (refine Zo ?_;repeat' ((with_reducible first|refine Zk ?_|(first|apply Za|apply Zb|apply Zc|apply Zd)<;>intro h)<;>try simp -implicitDefEqProofs (maxSteps:=9^7) (disch:=first|omega|(simp only [lens];omega)) only [go_sem, hL, h0, u1, u2, u3, v1, v2, v3]))
     refine (Val.ofPu hsm rfl rfl).pc ⟨g.gd.bor, .self (QHz _), trivial⟩ rfl ?_
     (refine Zo ?_;repeat' ((with_reducible first|refine Zk ?_|(first|apply Za|apply Zb|apply Zc|apply Zd)<;>intro h)<;>try simp -implicitDefEqProofs (maxSteps:=9^7) (disch:=first|omega|(simp only [lens];omega)) only [go_sem]))
     have hla := fun y KP => Qgnz ha y KP
     have hlb := fun y KP => Qgnz hb y KP
     have hBm := hBd m 0 (by omega)
     have hBm1 := hBd (5 - (m + 1)) (m + 1) (by omega)
     rw [show m + 1 + (5 - (m + 1)) = 5 by omega, hB5] at hBm1
     rw [Nat.zero_add] at hBm
     obtain ⟨H1, rfl⟩ : ∃ H1, H1 = H := ⟨_, rfl⟩
     refine Qfz (fun n ts H => ∃ (i : Nat), (i ≤ t.shape.length) ∧ (St (B m) (B (m + 1)) (0 < t.el.length) re H1 H) ∧ (n = t.shape.length - i) ∧ ts.length = 178 ∧ nth ts 1 = .ptr 0 0 ∧ nth ts 3 = .ptr 1 0 ∧ nth ts 8 = .int .i64 0 ∧ nth ts 10 = .int .i64 0 ∧ nth ts 12 = .int .i64 0 ∧ nth ts 14 = .int .i64 0 ∧ nth ts 16 = .int .i64 0 ∧ nth ts 17 = .ref (e5 + 1) 0 5 ∧ nth ts 18 = .int .i64 (m : Nat) ∧ nth ts 19 = .int .i64 (i : Nat)) ?_ (n := t.shape.length) ?_
     ·skip
      rintro n ts H ⟨i, hi, hS, hn, hL, hs1, hs3, hs8, hs10, hs12, hs14, hs16, hs17, hs18, hs19⟩
      refine Qsz [(1, .ptr 0 0), (3, .ptr 1 0), (8, .int .i64 0), (10, .int .i64 0), (12, .int .i64 0), (14, .int .i64 0), (16, .int .i64 0), (17, .ref (e5 + 1) 0 5), (18, .int .i64 (m : Nat)), (19, .int .i64 (i : Nat))] hL (by simp only [zFm, hs1, hs3, hs8, hs10, hs12, hs14, hs16, hs17, hs18, hs19, true_and]; exact zNm) ?_
      clear hL hs1 hs3 hs8 hs10 hs12 hs14 hs16 hs17 hs18 hs19 ts
      refine Qrz Qgz ?_
      have f0 : Qcz H 0 = _ := (hS.out 0 (by omega)).trans h0
      have f1 : Qcz H 1 = _ := (hS.out 1 (by omega)).trans h1
      have fL : Qcz H (e5 + 1) = _ := (hS.out (e5 + 1) (by omega)).trans hL
      by_cases his : i < t.shape.length
      ·obtain ⟨r, row, hae, c1, c2, c3, c4, c5⟩ := W.s (by omega)
       obtain ⟨row', r1, r2⟩ := hS.len r row c3
       obtain ⟨e', s', cs'⟩ := row'
       have r2 : cs'.length = row.cs.length := r2
       (refine Zo ?_;repeat' ((with_reducible first|refine Zk ?_|(first|apply Za|apply Zb|apply Zc|apply Zd)<;>intro h)<;>try simp -implicitDefEqProofs (maxSteps:=9^7) (disch:=first|omega|(simp only [lens];omega)) only [go_sem, fL, hae, r1, u1, u2, u3, v1, v2, v3, hla, hlb]))
       exact ⟨t.shape.length - (i + 1), by omega, i + 1, by omega, hS.set r1 c1 c2 c5 (by simp only [QUz, Qmkz]), rfl, (by (repeat' apply And.intro) <;> (first | rfl | omega | (congr 1; omega) | assumption | (congr 1; assumption)))⟩
      ·subst hn
       (refine Zo ?_;repeat' ((with_reducible first|refine Zk ?_|(first|apply Za|apply Zb|apply Zc|apply Zd)<;>intro h)<;>try simp -implicitDefEqProofs (maxSteps:=9^7) (disch:=first|omega|(simp only [lens];omega)) only [go_sem, fL, u1, u2, u3, v1, v2, v3, hla, hlb]))
       refine Qfz (fun n ts H => ∃ (i : Nat), (i ≤ t.el.length) ∧ (St (B m) (B (m + 1)) (0 < t.el.length) re H1 H) ∧ (n = t.el.length - i) ∧ ts.length = 178 ∧ nth ts 1 = .ptr 0 0 ∧ nth ts 3 = .ptr 1 0 ∧ nth ts 8 = .int .i64 0 ∧ nth ts 10 = .int .i64 0 ∧ nth ts 12 = .int .i64 0 ∧ nth ts 14 = .int .i64 0 ∧ nth ts 16 = .int .i64 0 ∧ nth ts 17 = .ref (e5 + 1) 0 5 ∧ nth ts 18 = .int .i64 (m : Nat) ∧ nth ts 20 = .int .i64 (i : Nat)) ?_ (n := t.el.length) ?_
       ·skip
        rintro n ts H ⟨i, hi, hS, hn, hL, hs1, hs3, hs8, hs10, hs12, hs14, hs16, hs17, hs18, hs20⟩
        refine Qsz [(1, .ptr 0 0), (3, .ptr 1 0), (8, .int .i64 0), (10, .int .i64 0), (12, .int .i64 0), (14, .int .i64 0), (16, .int .i64 0), (17, .ref (e5 + 1) 0 5), (18, .int .i64 (m : Nat)), (20, .int .i64 (i : Nat))] hL (by simp only [zFm, hs1, hs3, hs8, hs10, hs12, hs14, hs16, hs17, hs18, hs20, true_and]; exact zNm) ?_
        clear hL hs1 hs3 hs8 hs10 hs12 hs14 hs16 hs17 hs18 hs20 ts
        refine Qrz Qgz ?_
        have f0 : Qcz H 0 = _ := (hS.out 0 (by omega)).trans h0
        have f1 : Qcz H 1 = _ := (hS.out 1 (by omega)).trans h1
        have fL : Qcz H (e5 + 1) = _ := (hS.out (e5 + 1) (by omega)).trans hL
        by_cases hie : i < t.el.length
        ·have hk0 : 0 < t.el.length := by omega
         obtain ⟨hbe, b1, b2, hrow, b4⟩ := W.e hk0
         obtain ⟨x, hx0, hx1, w1, w2, w3, hx2⟩ := W.d i hie
         have hxd := (ht.r x (by rw [hx0]; simp [List.getD, hie])).d1
         subst hn
         (refine Zo ?_;repeat' ((with_reducible first|refine Zk ?_|(first|apply Za|apply Zb|apply Zc|apply Zd)<;>intro h)<;>try simp -implicitDefEqProofs (maxSteps:=9^7) (disch:=first|omega|(simp only [lens];omega)) only [go_sem, fL, hbe, u1, u2, u3, v1, v2, v3, hla, hlb]))
         refine Qfz (fun n ts H => ∃ (j : Nat), (j ≤ x.den.length) ∧ (St (B m) (B (m + 1)) (0 < t.el.length) re H1 H) ∧ (n = x.den.length - j) ∧ ts.length = 178 ∧ nth ts 1 = .ptr 0 0 ∧ nth ts 3 = .ptr 1 0 ∧ nth ts 8 = .int .i64 0 ∧ nth ts 10 = .int .i64 0 ∧ nth ts 12 = .int .i64 0 ∧ nth ts 14 = .int .i64 0 ∧ nth ts 16 = .int .i64 0 ∧ nth ts 17 = .ref (e5 + 1) 0 5 ∧ nth ts 18 = .int .i64 (m : Nat) ∧ nth ts 20 = .int .i64 (i : Nat) ∧ nth ts 21 = .int .i64 (j : Nat)) ?_ (n := x.den.length) ?_
         ·skip
          rintro n ts H ⟨j, hj, hS, hn, hL, hs1, hs3, hs8, hs10, hs12, hs14, hs16, hs17, hs18, hs20, hs21⟩
          refine Qsz [(1, .ptr 0 0), (3, .ptr 1 0), (8, .int .i64 0), (10, .int .i64 0), (12, .int .i64 0), (14, .int .i64 0), (16, .int .i64 0), (17, .ref (e5 + 1) 0 5), (18, .int .i64 (m : Nat)), (20, .int .i64 (i : Nat)), (21, .int .i64 (j : Nat))] hL (by simp only [zFm, hs1, hs3, hs8, hs10, hs12, hs14, hs16, hs17, hs18, hs20, hs21, true_and]; exact zNm) ?_
          clear hL hs1 hs3 hs8 hs10 hs12 hs14 hs16 hs17 hs18 hs20 hs21 ts
          refine Qrz Qgz ?_
          have f0 : Qcz H 0 = _ := (hS.out 0 (by omega)).trans h0
          have f1 : Qcz H 1 = _ := (hS.out 1 (by omega)).trans h1
          have fL : Qcz H (e5 + 1) = _ := (hS.out (e5 + 1) (by omega)).trans hL
          obtain ⟨ee, es, hre⟩ := hrow
          have fe : Qcz H re = _ := (hS.e hk0).trans hre
          by_cases hjd : j < x.den.length
          ·obtain ⟨r, row, hc, c1, c2, c3, c4, c5⟩ := hx2 (by omega)
           obtain ⟨row', r1, r2⟩ := hS.len r row c3
           obtain ⟨e', s', cs'⟩ := row'
           have r2 : cs'.length = row.cs.length := r2
           (refine Zo ?_;repeat' ((with_reducible first|refine Zk ?_|(first|apply Za|apply Zb|apply Zc|apply Zd)<;>intro h)<;>try simp -implicitDefEqProofs (maxSteps:=9^7) (disch:=first|omega|(simp only [lens];omega)) only [go_sem, fL, fe, hbe, hx1, hc, r1, u1, u2, u3, v1, v2, v3, hla, hlb]))
           exact ⟨x.den.length - (j + 1), by omega, j + 1, by omega, hS.set r1 c1 c2 (fun _ => c5) (by simp only [QUz, Qmkz]), rfl, (by (repeat' apply And.intro) <;> (first | rfl | omega | (congr 1; omega) | assumption | (congr 1; assumption)))⟩
          ·skip
           (refine Zo ?_;repeat' ((with_reducible first|refine Zk ?_|(first|apply Za|apply Zb|apply Zc|apply Zd)<;>intro h)<;>try simp -implicitDefEqProofs (maxSteps:=9^7) (disch:=first|omega|(simp only [lens];omega)) only [go_sem, fL, fe, hbe, hx1, u1, u2, u3, v1, v2, v3, hla, hlb, w1, w2, w3]))
           exact ⟨t.el.length - (i + 1), by omega, i + 1, by omega, hS, rfl, (by (repeat' apply And.intro) <;> (first | rfl | omega | (congr 1; omega) | assumption | (congr 1; assumption)))⟩
         ·exact ⟨0, by omega, hS, rfl, rfl, rfl, rfl, rfl, rfl, rfl, rfl, rfl, rfl, rfl, rfl, rfl⟩
        ·skip
         (refine Zo ?_;repeat' ((with_reducible first|refine Zk ?_|(first|apply Za|apply Zb|apply Zc|apply Zd)<;>intro h)<;>try simp -implicitDefEqProofs (maxSteps:=9^7) (disch:=first|omega|(simp only [lens];omega)) only [go_sem, fL, u1, u2, u3, v1, v2, v3, hla, hlb]))
         exact ⟨5 - (m + 1), by omega, m + 1, by omega, f0, f1, fun j hj1 hj2 => (hG j (by omega) hj2).keep fun r row q1 q2 q3 => by rw [hS.out r (by have := hBd (j - (m + 1)) (m + 1) (by omega); rw [show m + 1 + (j - (m + 1)) = j by omega] at this; omega)]; exact q3, rfl, (by (repeat' apply And.intro) <;> (first | rfl | omega | (congr 1; omega) | assumption | (congr 1; assumption)))⟩
       ·exact ⟨0, by omega, hS, rfl, rfl, rfl, rfl, rfl, rfl, rfl, rfl, rfl, rfl, rfl, rfl⟩
     ·exact ⟨0, by omega, .refl, rfl, rfl, rfl, rfl, rfl, rfl, rfl, rfl, rfl, rfl, rfl, rfl⟩
    ·have hm5' : m = 5 := by omega
     subst hm5'
     (refine Zo ?_;repeat' ((with_reducible first|refine Zk ?_|(first|apply Za|apply Zb|apply Zc|apply Zd)<;>intro h)<;>try simp -implicitDefEqProofs (maxSteps:=9^7) (disch:=first|omega|(simp only [lens];omega)) only [go_sem, h0, h1]))
     refine Fc.pure hsm (by simp [cloL, clo, Qbz, Qiz, QHz]) (fun g => rfl) ?_
     (refine Zo ?_;repeat' ((with_reducible first|refine Zk ?_|(first|apply Za|apply Zb|apply Zc|apply Zd)<;>intro h)<;>try simp -implicitDefEqProofs (maxSteps:=9^7) (disch:=first|omega|(simp only [lens];omega)) only [go_sem]))
     refine Fc.pure Qfiz rfl (fun g => rfl) ?_
     (refine Zo ?_;repeat' ((with_reducible first|refine Zk ?_|(first|apply Za|apply Zb|apply Zc|apply Zd)<;>intro h)<;>try simp -implicitDefEqProofs (maxSteps:=9^7) (disch:=first|omega|(simp only [lens];omega)) only [go_sem]))
     (refine Qoz (by intro g; simp only [go_sem, ren, renL]) ?_)
     all_goals rfl
   ·exact ⟨0, by omega, by simpa [hlc] using h0', by simpa [hlc] using h1', by simpa [hlc] using hLr, fun j _ hj => by simpa [hlc] using hG0 j hj, rfl, rfl, rfl, rfl, rfl, rfl, rfl, rfl, rfl, rfl, rfl⟩
 ·exact ⟨0, .nil, .nil, by omega, rfl, rfl, Bv.Own.nil _ _ _, Bv.Own.nil _ _ _, fun q off n m e => (by cases e), rfl, rfl, rfl, rfl, rfl, rfl, rfl⟩
end Go.Proofs.YtjdbdmhjakfldaaGreat
end
section
namespace Go.Proofs.YtjdbdmhjakfldaaGreat
open Go.Bv
theorem a_own : ownKnob Tryz.prog.godebug = none := by kernel_rfl
theorem a_laid : laidOutB Tryz.prog = true := by kernel_rfl
theorem rd_ints {t : Nat} (hu : Tryz.prog.underlying t = some (.slice 3)) : U.Reads Tryz.prog t fun vs => ∃ xs : List Int, vs = [.sl xs.length (ints xs)] ∧ xs.length ≤ 1048576 ∧ ∀ x ∈ xs, (Lit.int .i64 x).wf = true := U.Reads.ints hu Tryz.underlying3 (by kernel_rfl)
theorem rd_u32 : U.Reads Tryz.prog 59 fun vs => ∃ n : Nat, vs = [V.int .u32 (n : Nat)] ∧ n < 4294967296 := U.Reads.mono (U.Reads.int Tryz.underlying59) fun vs ⟨n, h, hw⟩ => by
 have hx : 0 ≤ n ∧ n ≤ 4294967295 := by simpa [Lit.wf, IntKind.min, IntKind.max, IntKind.signed, IntKind.bits] using hw
 exact ⟨n.toNat, by rw [h]; congr 2; omega, by omega⟩
theorem rd_nat : U.Reads Tryz.prog 56 fun vs => ∃ l : List Nat, vs = [NA l] ∧ l.length ≤ 1048576 ∧ Lim l :=
 U.Reads.mono (U.Reads.slice1 (g := fun n : Nat => .int .u32 (n : Nat)) Tryz.underlying56 (by kernel_rfl) rd_u32) fun vs ⟨xs, h1, h2, h3⟩ => ⟨xs, h1, h2, h3⟩
theorem rd_rat : U.Reads Tryz.prog 58 fun vs => ∃ x : Raw, vs = [.bool x.neg, NA x.num, NA x.den] ∧ RawOK x := by
 refine U.Reads.mono (U.Reads.struct (Qs := fun i vs => if i = 0 then ∃ b, vs = [V.bool b] else ∃ l : List Nat, vs = [NA l] ∧ l.length ≤ 1048576 ∧ Lim l) a_laid (of_decide_eq_true (by kernel_rfl)) Tryz.underlying58 ?_) ?_
 ·intro i f hf
  match i, hf with
  | 0, hf => cases hf; exact U.Reads.mono (U.Reads.bool Tryz.underlying4) fun vs h => by rw [if_pos rfl]; exact h
  | 1, hf => cases hf; exact U.Reads.mono rd_nat fun vs h => by rw [if_neg (by decide)]; exact h
  | 2, hf => cases hf; exact U.Reads.mono rd_nat fun vs h => by rw [if_neg (by decide)]; exact h
  | i + 3, hf => cases hf
 ·rintro u ⟨l, hl, hq, rfl⟩
  match l, hl with
  | [a, b, c], _ =>
   have h0 := hq 0 (by decide)
   have h1 := hq 1 (by decide)
   have h2 := hq 2 (by decide)
   obtain ⟨n, rfl⟩ := h0
   obtain ⟨xs, rfl, hx, hx2⟩ := h1
   obtain ⟨ys, rfl, hy, hy2⟩ := h2
   exact ⟨⟨n, xs, ys⟩, rfl, by show xs.length ≤ _; omega, by show ys.length ≤ _; omega, hx2, hy2⟩
theorem raws_of : ∀ {l : List (List V)}, (∀ x ∈ l, ∃ r : Raw, x = [.bool r.neg, NA r.num, NA r.den] ∧ RawOK r) → ∃ xs : List Raw, xs.length = l.length ∧ l.flatten = Qqz xs ∧ ∀ x ∈ xs, RawOK x
 | [], _ => ⟨[], rfl, rfl, by simp⟩
 | x :: l, h => by
  obtain ⟨a, rfl, ha⟩ := h x (by simp)
  obtain ⟨xs, h1, h2, h3⟩ := raws_of (l := l) fun y hy => h y (by simp [hy])
  exact ⟨a :: xs, by simp [h1], by rw [List.flatten_cons, h2]; rfl, fun b hb => by
   rcases List.mem_cons.1 hb with rfl | hb
   ·exact ha
   ·exact h3 b hb⟩
theorem rd_rats : U.Reads Tryz.prog 24 fun vs => ∃ xs : List Raw, vs = [.sl xs.length (Qqz xs)] ∧ xs.length ≤ 1048576 ∧ ∀ x ∈ xs, RawOK x :=
 U.Reads.mono (U.Reads.slice (s := 3) Tryz.underlying24 (by kernel_rfl) (by decide) rd_rat) fun vs ⟨l, h1, h2, h3⟩ => by
  obtain ⟨xs, q1, q2, q3⟩ := raws_of h1
  exact ⟨xs, by rw [h3, q1, q2], by omega, q3⟩
theorem rd_tensor : U.Reads Tryz.prog 26 fun vs => ∃ t : Tn, vs = [.sl t.shape.length (ints t.shape), .sl t.el.length (Qqz t.el)] ∧ TnOK t := by
 refine U.Reads.mono (U.Reads.struct (Qs := fun i vs => if i = 0 then ∃ xs : List Int, vs = [.sl xs.length (ints xs)] ∧ xs.length ≤ 1048576 ∧ ∀ x ∈ xs, (Lit.int .i64 x).wf = true else ∃ xs : List Raw, vs = [.sl xs.length (Qqz xs)] ∧ xs.length ≤ 1048576 ∧ ∀ x ∈ xs, RawOK x) a_laid (of_decide_eq_true (by kernel_rfl)) Tryz.underlying26 ?_) ?_
 ·intro i f hf
  match i, hf with
  | 0, hf => cases hf; exact U.Reads.mono (rd_ints Tryz.underlying23) fun vs h => by rw [if_pos rfl]; exact h
  | 1, hf => cases hf; exact U.Reads.mono rd_rats fun vs h => by rw [if_neg (by decide)]; exact h
  | i + 2, hf => cases hf
 ·rintro u ⟨l, hl, hq, rfl⟩
  match l, hl with
  | [a, b], _ =>
   have h0 := hq 0 (by decide)
   have h1 := hq 1 (by decide)
   obtain ⟨xs, rfl, hx, _⟩ := h0
   obtain ⟨ys, rfl, hy, hy2⟩ := h1
   exact ⟨⟨xs, ys⟩, rfl, by show xs.length ≤ _; omega, by show ys.length ≤ _; omega, hy2⟩
theorem Qqlz : U.ArgV Tryz.prog 26 fun u => ∃ t : Tn, u = tnV t ∧ TnOK t :=
 U.ArgV.mono (U.ArgV.struct rd_tensor Tryz.underlying26) fun u ⟨vs, h1, t, h2, h3⟩ => ⟨t, by rw [h1, h2]; rfl, h3⟩
end Go.Proofs.YtjdbdmhjakfldaaGreat
end
section
namespace Go.Proofs.YtjdbdmhjakfldaaGreat
open Go.Bv
theorem args_one : U.ArgsV Tryz.prog [26] fun us => ∃ x : Tn, us = [tnV x] ∧ TnOK x := by
 refine U.ArgsV.mono (U.ArgsV.cons Qqlz U.ArgsV.nil) ?_
 rintro us ⟨_, _, rfl, ⟨x, rfl, h1⟩, rfl⟩
 exact ⟨x, rfl, h1⟩
end Go.Proofs.YtjdbdmhjakfldaaGreat
end
