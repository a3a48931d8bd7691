/-
  Parts Pdq10, Pdq11, Pdq12, Mov5, Mov6, Mov7, La1, La2, La3, Rf0, Lw1, Rf1, Rf2, Lw2, Cat1, Cat3, Cat2, Rf5, Lw5, Rf6, Rf7, Lw10, Lw6, Lw8, Lw9, Lw11, Lw12, Lw13, Num18, Num19, Num20, Ten5, Lw17, Lw18, Lw19, Lw20, RowU, RowS, one behind the other: a program logic of our own, contracts of functions.
-/
import Derived.Test.YtjdbdmhjakfldaaGreatU5

set_option linter.unusedVariables false
set_option linter.unusedSimpArgs false
set_option maxRecDepth 100000
set_option maxHeartbeats 8000000
section
namespace Go.Proofs.YtjdbdmhjakfldaaGreat
open Go.Bv
def Wh (H0 : Qa) (r : Nat) (ys : List Int) (X : Qa) : Qa := H0.set r (some ⟨3, 1, ints ys⟩) ++ X
theorem Qdm {H0 : Qa} {r : Nat} (h : r < H0.length) (ys : List Int) (X : Qa) : Qd (Wh H0 r ys X) r = some ⟨3, 1, ints ys⟩ :=
 Qj (by simp [Qd, h]) _
theorem Qgw {H0 : Qa} {r : Nat} (h : r < H0.length) (ys zs : List Int) (X : Qa) : (Wh H0 r ys X).set r (some ⟨3, 1, ints zs⟩) = Wh H0 r zs X := by
 rw [Wh, Wh, List.set_append_left _ _ (by rw [List.length_set]; exact h), List.set_set]
theorem Xc0 (H0 : Qa) (r : Nat) (ys : List Int) (X Y : Qa) : Wh H0 r ys X ++ Y = Wh H0 r ys (X ++ Y) := by rw [Wh, Wh, List.append_assoc]
section
variable {H0 X : Qa} {r L a b : Nat} {ws : List Int} {K : V → Qa → Prop} (hr : r < H0.length) (hl : ws.length = L) (hn : L ≤ 1048576)
include hr hl hn
theorem Xmd (hab : a ≤ b) (hb : b ≤ L) (hK : ∀ ys : List Int, ys.length = L → K (.tup []) (Wh H0 r ys X)) : Fc C 144 [.ref r 0 L, .int .i64 (a : Nat), .int .i64 (b : Nat)] (Wh H0 r ws X) K := by
 subst hl;refine Fc.mono (Qkz r a b _ ws (Qdm hr _ _) hab hb hn) ?_;rintro v H' ⟨ys, rfl, h, rfl⟩;rw [Qgw hr]; exact hK ys h
theorem Xle (hab : a + 1 ≤ b) (hb : b ≤ L) (hK : ∀ ys : List Int, ys.length = L → K (.tup []) (Wh H0 r ys X)) : Fc C 145 [.ref r 0 L, .int .i64 (a : Nat), .int .i64 (b : Nat)] (Wh H0 r ws X) K := by
 subst hl;refine Fc.mono (Qlx r a b _ ws (Qdm hr _ _) hab hb hn) ?_;rintro v H' ⟨ys, rfl, h, rfl⟩;rw [Qgw hr]; exact hK ys h
theorem Xmc (hab : a ≤ b) (hb : b ≤ L) (hK : ∀ ys : List Int, ys.length = L → K (.tup []) (Wh H0 r ys X)) : Fc C 148 [.ref r 0 L, .int .i64 (a : Nat), .int .i64 (b : Nat)] (Wh H0 r ws X) K := by
 subst hl;refine Fc.mono (Qlq r a b _ ws (Qdm hr _ _) hab hb hn) ?_;rintro v H' ⟨ys, rfl, h, rfl⟩;rw [Qgw hr]; exact hK ys h
theorem Xjj (hab : a ≤ b) (hb : b ≤ L) (hK : ∀ (ys : List Int) (X : Qa), ys.length = L → K (.tup []) (Wh H0 r ys X)) : Fc C 146 [.ref r 0 L, .int .i64 (a : Nat), .int .i64 (b : Nat)] (Wh H0 r ws X) K := by
 subst hl;refine Fc.mono (Qqt r a b _ ws (Qdm hr _ _) hab hb hn) ?_;rintro v H' ⟨ys, Y, rfl, h, rfl⟩;rw [Qgw hr, Xc0]; exact hK ys _ h
theorem Xfz (hab : a + 12 < b) (hb : b ≤ L) (hK : ∀ (p : Nat) (h : Int) (X : Qa), a ≤ p → p < b → 0 ≤ h → h ≤ 2 → K (.tup [.int .i64 (p : Nat), .int .i64 h]) (Wh H0 r ws X)) : Fc C 147 [.ref r 0 L, .int .i64 (a : Nat), .int .i64 (b : Nat)] (Wh H0 r ws X) K := by
 subst hl;refine Fc.mono (Qn6 r a b _ ws (Qdm hr _ _) hab hb hn) ?_;rintro v H' ⟨p, h, Y, rfl, h1, h2, h3, rfl⟩;rw [Xc0]; exact hK p h _ h1.1 h1.2 h2 h3
theorem Qzw (hab : a + 1 ≤ b) (hb : b ≤ L) (hK : ∀ (ys : List Int) (w : Bool), ys.length = L → K (.bool w) (Wh H0 r ys X)) : Fc C 149 [.ref r 0 L, .int .i64 (a : Nat), .int .i64 (b : Nat)] (Wh H0 r ws X) K := by
 subst hl;refine Fc.mono (Qne r a b _ ws (Qdm hr _ _) hab hb hn) ?_;rintro v H' ⟨ys, w, rfl, h, rfl⟩;rw [Qgw hr]; exact hK ys w h
theorem Xee {p : Nat} (hab : a + 1 ≤ b) (hb : b ≤ L) (hp : p < L) (hK : ∀ (ys : List Int) (m : Nat), ys.length = L → a + 1 ≤ m → m ≤ b → K (.int .i64 (m : Nat)) (Wh H0 r ys X)) : Fc C 151 [.ref r 0 L, .int .i64 (a : Nat), .int .i64 (b : Nat), .int .i64 (p : Nat)] (Wh H0 r ws X) K := by
 subst hl;refine Fc.mono (Qke r a b p _ ws (Qdm hr _ _) hab hb hp hn) ?_;rintro v H' ⟨ys, m, rfl, h1, h2, h, rfl⟩;rw [Qgw hr]; exact hK ys m h h1 h2
theorem Xk2 {p : Nat} (hab : a + 1 ≤ b) (hb : b ≤ L) (hp : p < L) (hK : ∀ (ys : List Int) (m : Nat) (w : Bool), ys.length = L → a ≤ m → m < b → K (.tup [.int .i64 (m : Nat), .bool w]) (Wh H0 r ys X)) : Fc C 152 [.ref r 0 L, .int .i64 (a : Nat), .int .i64 (b : Nat), .int .i64 (p : Nat)] (Wh H0 r ws X) K := by
 subst hl;refine Fc.mono (Qkd r a b p _ ws (Qdm hr _ _) hab hb hp hn) ?_;rintro v H' ⟨ys, m, w, rfl, h1, h2, h, rfl⟩;rw [Qgw hr]; exact hK ys m w h h1 h2
end
end Go.Proofs.YtjdbdmhjakfldaaGreat
end
section
namespace Go.Proofs.YtjdbdmhjakfldaaGreat
open Go.Bv
theorem Qpd (r L : Nat) (hL : L ≤ 1048576) : ∀ (N a b : Nat) (lim : Int) (H0 X : Qa) (xs : List Int), b - a ≤ N → r < H0.length → xs.length = L → a ≤ b → b ≤ L → 0 ≤ lim → lim ≤ 64 →
  Fc C 124 [.ref r 0 L, .int .i64 (a : Nat), .int .i64 (b : Nat), .int .i64 lim] (Wh H0 r xs X) (fun v H' => ∃ (ys : List Int) (X : Qa), v = .tup [] ∧ ys.length = L ∧ H' = Wh H0 r ys X) := by
 intro N
 induction N using Nat.strongRecOn with
 | ind N ih =>
 intro a b lim H0 X xs hN hr hxl hab hb hl0 hl1;refine Fc.bodyT Qe Tryz.func124 w124 rfl Tryz.ntmps124 Tryz.results124 (zLe rfl) ?_
 (apply Zo;repeat' ((with_reducible first|apply Zk|(first|apply Za|apply Zb|apply Zc|apply Zd)<;>intro h)<;>try simp -implicitDefEqProofs (maxSteps:=9^7) (disch:=first|omega|(simp only [Qb];omega)) only [go_sem]))
 refine Qf (fun n ts H => ∃ (a b : Nat) (lim : Int) (w1 w2 : Bool) (ws : List Int) (X : Qa), (a ≤ b) ∧ (b ≤ L) ∧ (b - a ≤ N) ∧ (0 ≤ lim) ∧ (lim ≤ 64) ∧ (ws.length = L) ∧ (H = Wh H0 r ws X) ∧ (n = b - a) ∧ ts.length = 134 ∧ nth ts 0 = .ref r 0 L ∧ nth ts 1 = .int .i64 (a : Nat) ∧ nth ts 2 = .int .i64 (b : Nat) ∧ nth ts 3 = .int .i64 lim ∧ nth ts 8 = .bool w1 ∧ nth ts 9 = .bool w2) ?_ (n := b - a) ?_
 ·skip
  rintro n ts H ⟨a, b, lim, w1, w2, ws, X, hab, hb, hN, hl0, hl1, hl, hH, hn2, hL, hs0, hs1, hs2, hs3, hs8, hs9⟩;refine Qv [(0, .ref r 0 L), (1, .int .i64 (a : Nat)), (2, .int .i64 (b : Nat)), (3, .int .i64 lim), (8, .bool w1), (9, .bool w2)] hL (by simp only [zFm, hs0, hs1, hs2, hs3, hs8, hs9, true_and]; exact zNm) ?_
  clear hL hs0 hs1 hs2 hs3 hs8 hs9 ts
  refine Qu Qe ?_;subst hH
  have hw := fun ys X => Qdm (X := X) hr ys
  (apply Zo;repeat' ((with_reducible first|apply Zk|(first|apply Za|apply Zb|apply Zc|apply Zd)<;>intro h)<;>try simp -implicitDefEqProofs (maxSteps:=9^7) (disch:=first|omega|(simp only [Qb];omega)) only [go_sem]))
  repeat' first
   | (with_reducible refine Xfz hr (by assumption) hL (by omega) hb fun p h X hp1 hp2 hh1 hh2 => ?_
      cases w1
      all_goals first
       | contradiction
       | ((apply Zo;repeat' ((with_reducible first|apply Zk|(first|apply Za|apply Zb|apply Zc|apply Zd)<;>intro h)<;>try simp -implicitDefEqProofs (maxSteps:=9^7) (disch:=first|omega|(simp only [Qb];omega)) only [go_sem, hw]))))
   | (with_reducible refine Xmc hr (by assumption) hL hab hb fun ys hy => ?_
      have hpv : ((b : Int) - 1 - ((p : Int) - (a : Int))) = ((b - 1 - (p - a) : Nat) : Int) := by omega
      (apply Zo;repeat' ((with_reducible first|apply Zk|(first|apply Za|apply Zb|apply Zc|apply Zd)<;>intro h)<;>try simp -implicitDefEqProofs (maxSteps:=9^7) (disch:=first|omega|(simp only [Qb];omega)) only [go_sem, hw, hpv])))
   | (with_reducible refine Qzw hr (by assumption) hL (by omega) hb fun ys w hy => ?_
      cases w
      rotate_left
      focus
       (apply Zo;repeat' ((with_reducible first|apply Zk|(first|apply Za|apply Zb|apply Zc|apply Zd)<;>intro h)<;>try simp -implicitDefEqProofs (maxSteps:=9^7) (disch:=first|omega|(simp only [Qb];omega)) only [go_sem, hw]))
       exact ⟨_, _, by assumption, rfl⟩
      (apply Zo;repeat' ((with_reducible first|apply Zk|(first|apply Za|apply Zb|apply Zc|apply Zd)<;>intro h)<;>try simp -implicitDefEqProofs (maxSteps:=9^7) (disch:=first|omega|(simp only [Qb];omega)) only [go_sem, hw])))
   | (with_reducible refine Pc.pure (Yb _ _) rfl (fun g => rfl) ?_
      (apply Zo;repeat' ((with_reducible first|apply Zk|(first|apply Za|apply Zb|apply Zc|apply Zd)<;>intro h)<;>try simp -implicitDefEqProofs (maxSteps:=9^7) (disch:=first|omega|(simp only [Qb];omega)) only [go_sem, hw])))
   | (with_reducible refine Xee hr (by assumption) hL (by omega) hb (by omega) fun ys m hy hm1 hm2 => ?_
      (apply Zo;repeat' ((with_reducible first|apply Zk|(first|apply Za|apply Zb|apply Zc|apply Zd)<;>intro h)<;>try simp -implicitDefEqProofs (maxSteps:=9^7) (disch:=first|omega|(simp only [Qb];omega)) only [go_sem]))
      exact ⟨b - m, by omega, m, b, _, _, _, _, _, by omega, by omega, by omega, by omega, by omega, by assumption, rfl, rfl, rfl, rfl, rfl, rfl, rfl⟩)
   | (with_reducible refine Xk2 hr (by assumption) hL (by omega) hb (by omega) fun ys m w hy hm1 hm2 => ?_
      have hm3 : ((m : Int) + 1) = ((m + 1 : Nat) : Int) := rfl
      (apply Zo;repeat' ((with_reducible first|apply Zk|(first|apply Za|apply Zb|apply Zc|apply Zd)<;>intro h)<;>try simp -implicitDefEqProofs (maxSteps:=9^7) (disch:=first|omega|(simp only [Qb];omega)) only [go_sem, hm3])))
   | (with_reducible refine Fc.mono (ih (N - 1) (by omega) a m _ _ _ _ (by omega) hr (by assumption) (by omega) (by omega) (by omega) (by omega)) ?_
      rintro v H' ⟨ys, X, rfl, hy, rfl⟩
      have hm3 : ((m : Int) + 1) = ((m + 1 : Nat) : Int) := rfl
      (apply Zo;repeat' ((with_reducible first|apply Zk|(first|apply Za|apply Zb|apply Zc|apply Zd)<;>intro h)<;>try simp -implicitDefEqProofs (maxSteps:=9^7) (disch:=first|omega|(simp only [Qb];omega)) only [go_sem, hm3]))
      exact ⟨b - (m + 1), by omega, m + 1, b, _, _, _, _, _, by omega, by omega, by omega, by omega, by omega, by assumption, rfl, rfl, rfl, rfl, rfl, rfl, rfl⟩)
   | (with_reducible refine Fc.mono (ih (N - 1) (by omega) (m + 1) b _ _ _ _ (by omega) hr (by assumption) (by omega) (by omega) (by omega) (by omega)) ?_
      rintro v H' ⟨ys, X, rfl, hy, rfl⟩
      (apply Zo;repeat' ((with_reducible first|apply Zk|(first|apply Za|apply Zb|apply Zc|apply Zd)<;>intro h)<;>try simp -implicitDefEqProofs (maxSteps:=9^7) (disch:=first|omega|(simp only [Qb];omega)) only [go_sem]))
      exact ⟨m - a, by omega, a, m, _, _, _, _, _, by omega, by omega, by omega, by omega, by omega, by assumption, rfl, rfl, rfl, rfl, rfl, rfl, rfl⟩)
   | (with_reducible refine Xmd hr (by assumption) hL hab hb fun ys hy => ?_
      (apply Zo;repeat' ((with_reducible first|apply Zk|(first|apply Za|apply Zb|apply Zc|apply Zd)<;>intro h)<;>try simp -implicitDefEqProofs (maxSteps:=9^7) (disch:=first|omega|(simp only [Qb];omega)) only [go_sem]))
      exact ⟨_, _, by assumption, rfl⟩)
   | (with_reducible refine Xle hr (by assumption) hL (by omega) hb fun ys hy => ?_
      (apply Zo;repeat' ((with_reducible first|apply Zk|(first|apply Za|apply Zb|apply Zc|apply Zd)<;>intro h)<;>try simp -implicitDefEqProofs (maxSteps:=9^7) (disch:=first|omega|(simp only [Qb];omega)) only [go_sem]))
      exact ⟨_, _, by assumption, rfl⟩)
   | (with_reducible refine Xjj hr (by assumption) hL hab hb fun ys X hy => ?_
      (apply Zo;repeat' ((with_reducible first|apply Zk|(first|apply Za|apply Zb|apply Zc|apply Zd)<;>intro h)<;>try simp -implicitDefEqProofs (maxSteps:=9^7) (disch:=first|omega|(simp only [Qb];omega)) only [go_sem])))
 ·exact ⟨a, b, lim, true, true, xs, X, by omega, by omega, by omega, by omega, by omega, hxl, rfl, by omega, rfl, rfl, rfl, rfl, rfl, rfl, rfl⟩
theorem Qoo (r : Nat) (H0 : Qa) (xs : List Int) (hr : Qd H0 r = some ⟨3, 1, ints xs⟩) (hn : xs.length ≤ 1048576) : Fc C 105 [.ref r 0 xs.length] H0 (fun v H' => ∃ (ys : List Int) (X : Qa), v = .tup [] ∧ ys.length = xs.length ∧ H' = Wh H0 r ys X) := by
 have hb : Yq xs.length ≤ 21 := Ju (by omega)
 have h := Qpd r xs.length hn xs.length 0 xs.length (Yq xs.length : Nat) H0 [] xs (by omega) (Xg hr) rfl (by omega) (Nat.le_refl _) (by omega) (by omega)
 rw [show Wh H0 r xs [] = H0 by rw [Wh, Qat hr, List.append_nil]] at h
 refine Fc.bodyT Qe Tryz.func105 w105 rfl Tryz.ntmps105 Tryz.results105 (zLe rfl) ?_
 (apply Zo;repeat' ((with_reducible first|apply Zk|(first|apply Za|apply Zb|apply Zc|apply Zd)<;>intro h)<;>try simp -implicitDefEqProofs (maxSteps:=9^7) (disch:=first|omega|(simp only [Qb];omega)) only [go_sem]))
 refine Fc.pure (Qp3 _ (by omega)) (by simp [go_sem, Qi, clo, Qc, Qx]) (by intro g; simp only [go_sem, ren, Ql]) ?_
 (apply Zo;repeat' ((with_reducible first|apply Zk|(first|apply Za|apply Zb|apply Zc|apply Zd)<;>intro h)<;>try simp -implicitDefEqProofs (maxSteps:=9^7) (disch:=first|omega|(simp only [Qb];omega)) only [go_sem]))
 refine Fc.mono h ?_;rintro v H' ⟨ys, X, rfl, hy, rfl⟩
 (apply Zo;repeat' ((with_reducible first|apply Zk|(first|apply Za|apply Zb|apply Zc|apply Zd)<;>intro h)<;>try simp -implicitDefEqProofs (maxSteps:=9^7) (disch:=first|omega|(simp only [Qb];omega)) only [go_sem]))
 exact ⟨ys, X, hy, rfl⟩
theorem Qlk (xs : List Int) (h0 : 0 < xs.length) (hx : xs.length ≤ 1048576) : Fc C 80 [Qjm xs] [] (fun v H => ∃ ys : List Int, ys.length = xs.length ∧ Ret 3 1 H v ys.length (ints ys)) := by
 refine Fc.keep (Fc.bodyT Qe Tryz.func80 w80 rfl Tryz.ntmps80 Tryz.results80 (zLe rfl) ?_)
 (apply Zo;repeat' ((with_reducible first|apply Zk|(first|apply Za|apply Zb|apply Zc|apply Zd)<;>intro h)<;>try simp -implicitDefEqProofs (maxSteps:=9^7) (disch:=first|omega|(simp only [Qb];omega)) only [go_sem]))
 refine Fc.own (Qh1 xs (by omega)) (by simp [Qi, clo, Qjm, Qc]) (fun g => Qy g _) fun v X hO => ?_
 rcases hO with ⟨rfl, h, h'⟩ | ⟨r, rfl, hr, hl⟩
 ·omega
 ·skip
  (apply Zo;repeat' ((with_reducible first|apply Zk|(first|apply Za|apply Zb|apply Zc|apply Zd)<;>intro h)<;>try simp -implicitDefEqProofs (maxSteps:=9^7) (disch:=first|omega|(simp only [Qb];omega)) only [go_sem]))
  refine Fc.mono (Qoo r _ xs hr hx) ?_;rintro v H' ⟨ys, Y, rfl, hy, rfl⟩
  (apply Zo;repeat' ((with_reducible first|apply Zk|(first|apply Za|apply Zb|apply Zc|apply Zd)<;>intro h)<;>try simp -implicitDefEqProofs (maxSteps:=9^7) (disch:=first|omega|(simp only [Qb];omega)) only [go_sem]))
  have hO : Go.Bv.Own 3 1 (Wh ([] ++ X) r ys Y) (.ref r 0 xs.length) ys.length (ints ys) := .inr ⟨r, by rw [hy], Qdm (Xg hr) _ _, by simp [Zn]⟩
  exact hO.ret (fun g => Qy g _) (fun v H h => ⟨ys, hy, h⟩)
theorem Qop (xs : List Int) (m : Nat) (hm : m ≤ 12) (h0 : 12 < xs.length) (hx : xs.length ≤ 1048576) : Pu C 40 [.sl xs.length (ints xs), .int .i64 (m : Nat)] (.int .i64 11) := by
 refine Fc.keep (Fc.bodyT Qe Tryz.func40 w40 rfl Tryz.ntmps40 Tryz.results40 (zLe rfl) ?_)
 (apply Zo;repeat' ((with_reducible first|apply Zk|(first|apply Za|apply Zb|apply Zc|apply Zd)<;>intro h)<;>try simp -implicitDefEqProofs (maxSteps:=9^7) (disch:=first|omega|(simp only [Qb];omega)) only [go_sem]))
 refine Fc.pure (Qjj xs) (by simp [Qi, clo, Qc]) (fun g => Ym g _ (by simp [Qjm, Qi, clo, Qc])) ?_
 (apply Zo;repeat' ((with_reducible first|apply Zk|(first|apply Za|apply Zb|apply Zc|apply Zd)<;>intro h)<;>try simp -implicitDefEqProofs (maxSteps:=9^7) (disch:=first|omega|(simp only [Qb];omega)) only [go_sem]))
 refine Fc.mono (Qlk xs (by omega) hx) ?_
 rintro v H' ⟨ys, hl, hR⟩
 have hmx : (if (0 : Int) > (m : Int) then 0 else (m : Int)) = (m : Int) := if_neg (by omega)
 rcases hR with ⟨rfl, h, h', rfl⟩ | ⟨rfl, rfl, _⟩
 ·omega
 ·skip
  (apply Zo;repeat' ((with_reducible first|apply Zk|(first|apply Za|apply Zb|apply Zc|apply Zd)<;>intro h)<;>try simp -implicitDefEqProofs (maxSteps:=9^7) (disch:=first|omega|(simp only [Qb];omega)) only [go_sem]))
  refine Qf (fun n ts H => ∃ (i : Nat), (i ≤ ys.length) ∧ (H = [some ⟨3, 1, ints ys⟩]) ∧ (n = ys.length - i) ∧ ts.length = 27 ∧ nth ts 1 = .int .i64 (m : Nat) ∧ nth ts 4 = .int .i64 0 ∧ nth ts 5 = .ref 0 0 ys.length ∧ nth ts 11 = .ref 0 0 ys.length ∧ nth ts 12 = .int .i64 ys.length ∧ nth ts 13 = .int .i64 i) ?_ (n := ys.length) ?_
  ·skip
   rintro n ts H ⟨i, hi, hH, hn, hL, hs1, hs4, hs5, hs11, hs12, hs13⟩;refine Qv [(1, .int .i64 (m : Nat)), (4, .int .i64 0), (5, .ref 0 0 ys.length), (11, .ref 0 0 ys.length), (12, .int .i64 ys.length), (13, .int .i64 i)] hL (by simp only [zFm, hs1, hs4, hs5, hs11, hs12, hs13, true_and]; exact zNm) ?_
   clear hL hs1 hs4 hs5 hs11 hs12 hs13 ts
   refine Qu Qe ?_;subst hH
   (apply Zo;repeat' ((with_reducible first|apply Zk|(first|apply Za|apply Zb|apply Zc|apply Zd)<;>intro h)<;>try simp -implicitDefEqProofs (maxSteps:=9^7) (disch:=first|omega|(simp only [Qb];omega)) only [go_sem, hmx]))
   ·skip
    (refine Qo (by intro g; simp only [go_sem, ren, Ql]) ?_)
    rfl
   ·exact ⟨ys.length - (i + 1), by omega, i + 1, by omega, rfl, rfl⟩
   ·skip
    (refine Qo (by intro g; simp only [go_sem, ren, Ql]) ?_)
    rfl
  ·exact ⟨0, by omega, rfl, rfl, rfl, rfl, rfl, rfl, rfl, rfl, rfl⟩
theorem Qoq (xs : List Int) (m : Nat) (hm : m ≤ 12) (hx : xs.length ≤ 1048576) : Pu C 40 [.sl xs.length (ints xs), .int .i64 (m : Nat)] (.int .i64 (if (Zm xs && decide (xs.length = m)) = true then 0 else 11)) := by
 by_cases h : xs.length ≤ 12
 ·exact Qmx xs m (by omega) h
 ·have := Qop xs m hm (by omega) hx
  rwa [if_neg (by simp; omega)]
def Kc (p x : List Int) : Nat → List Int
 | 0 => List.replicate p.length 0
 | k + 1 => (Kc p x k).set (p.getD k 0).toNat (x.getD k 0)
theorem Zz (p x : List Int) (k : Nat) : (Kc p x k).length = p.length := by
 induction k with
 | zero => simp [Kc]
 | succ k ih => simp [Kc, ih]
theorem Qrm (p x : List Int) (hp : p.length ≤ 1000) (hx : x.length = p.length) (hb : ∀ j, j < p.length → 0 ≤ p.getD j 0 ∧ p.getD j 0 < p.length) : Val C 42 [.sl x.length (ints x), .rp [.sl p.length (ints p)] 0] (.sl (Kc p x p.length).length (ints (Kc p x p.length))) := by
 refine Val.ofRet (e := 3) (s := 1) ?_ (Qc _) (Zl _);refine Fc.keep (Fc.bodyT Qe Tryz.func42 w42 rfl Tryz.ntmps42 Tryz.results42 (zLe rfl) ?_)
 (apply Zo;repeat' ((with_reducible first|apply Zk|(first|apply Za|apply Zb|apply Zc|apply Zd)<;>intro h)<;>try simp -implicitDefEqProofs (maxSteps:=9^7) (disch:=first|omega|(simp only [Qb];omega)) only [go_sem]))
 refine Qb8 rfl rfl rfl rfl (by simp [t3bytes]) (by omega) ?_
 (apply Zo;repeat' ((with_reducible first|apply Zk|(first|apply Za|apply Zb|apply Zc|apply Zd)<;>intro h)<;>try simp -implicitDefEqProofs (maxSteps:=9^7) (disch:=first|omega|(simp only [Qb];omega)) only [go_sem]))
 refine Qf (fun n ts H => ∃ (k : Nat), (k ≤ p.length) ∧ (n = p.length - k) ∧ (Qd H 0 = some ⟨3, 1, ints (Kc p x k)⟩) ∧ ts.length = 26 ∧ nth ts 0 = .sl x.length (ints x) ∧ nth ts 1 = .rp [.sl p.length (ints p)] 0 ∧ nth ts 4 = .ref 0 0 p.length ∧ nth ts 10 = .sl p.length (ints p) ∧ nth ts 11 = .int .i64 p.length ∧ nth ts 12 = .int .i64 (k : Nat)) ?_ (n := p.length) ?_
 ·skip
  rintro n ts H ⟨k, hk, hn, h0, hL, hs0, hs1, hs4, hs10, hs11, hs12⟩;refine Qv [(0, .sl x.length (ints x)), (1, .rp [.sl p.length (ints p)] 0), (4, .ref 0 0 p.length), (10, .sl p.length (ints p)), (11, .int .i64 p.length), (12, .int .i64 (k : Nat))] hL (by simp only [zFm, hs0, hs1, hs4, hs10, hs11, hs12, true_and]; exact zNm) ?_
  clear hL hs0 hs1 hs4 hs10 hs11 hs12 ts
  refine Qu Qe ?_;by_cases hc : k < p.length
  ·obtain ⟨b1, b2⟩ := hb k hc;obtain ⟨d, hd⟩ : ∃ d : Nat, p.getD k 0 = d := ⟨(p.getD k 0).toNat, by omega⟩
   have hl := Zz p x k
   have hst : (Kc p x k).set d (x.getD k 0) = Kc p x (k + 1) := by rw [Kc, hd]; rfl
   (apply Zo;repeat' ((with_reducible first|apply Zk|(first|apply Za|apply Zb|apply Zc|apply Zd)<;>intro h)<;>try simp -implicitDefEqProofs (maxSteps:=9^7) (disch:=first|omega|(simp only [Qb];omega)) only [go_sem, hd, h0, Xu, hst]))
   exact ⟨p.length - (k + 1), by omega, k + 1, by omega, rfl, Qg h0, (by (repeat' apply And.intro) <;> (first | rfl | omega | (congr 1; omega) | assumption | (congr 1; assumption)))⟩
  ·have hks : k = p.length := by omega
   subst hks
   (apply Zo;repeat' ((with_reducible first|apply Zk|(first|apply Za|apply Zb|apply Zc|apply Zd)<;>intro h)<;>try simp -implicitDefEqProofs (maxSteps:=9^7) (disch:=first|omega|(simp only [Qb];omega)) only [go_sem]))
   rw [Zz];exact Own.ret (.inr ⟨0, rfl, h0, by simp [Zn, Zz]⟩) (fun g => Qy g _) fun v H h => h
 ·refine ⟨0, by omega, rfl, ?_, rfl, rfl, rfl, rfl, rfl, rfl, rfl⟩
  rw [Kc, ← Qfy]; rfl
def Ze (p s : List Int) : List Int := Qg1 (fun i => s.getD (p.getD i 0).toNat 0) p.length
def Jc (t : Tn) (p : List Int) : Int := if Yy t ≠ 0 then Yy t else if (Zm p && decide (p.length = t.shape.length)) = false then 11 else 0
def Jb (t : Tn) (p : List Int) : Tn := Qs7 (mvT t (Ze p t.shape) fun x => Kc p x p.length) (Jc t p)
theorem Ql7 (hpm : ∀ s : List Int, Yo s = 0 → ∀ p : List Int, Zm p = true → p.length = s.length → Yo (Ze p s) = 0) (t : Tn) (ht : TnOK t) (p : List Int) (hp : p.length ≤ 1048576) (hPs : t.shape.length ≤ 4 → Pu C 40 [.sl p.length (ints p), .int .i64 (t.shape.length : Nat)] (.int .i64 (if (Zm p && decide (p.length = t.shape.length)) = true then 0 else 11))) : Val C 13 [tnV t, .sl p.length (ints p)] (.tup [tnV (Jb t p), .int .i64 (Jc t p)]) := by
 have hs := ht.s
 unfold Jb;refine Fc.keep (Fc.bodyT Qe Tryz.func13 w13 rfl Tryz.ntmps13 Tryz.results13 (zLe rfl) ?_)
 (apply Zo;repeat' ((with_reducible first|apply Zk|(first|apply Za|apply Zb|apply Zc|apply Zd)<;>intro h)<;>try simp -implicitDefEqProofs (maxSteps:=9^7) (disch:=first|omega|(simp only [Qb];omega)) only [go_sem]))
 refine Fc.pure (Qdq t ht) (by simp [Qi, clo, Qc, Qm]) (fun g => rfl) ?_
 by_cases hm : Yy t = 0
 case neg =>
  (apply Zo;repeat' ((with_reducible first|apply Zk|(first|apply Za|apply Zb|apply Zc|apply Zd)<;>intro h)<;>try simp -implicitDefEqProofs (maxSteps:=9^7) (disch:=first|omega|(simp only [Qb];omega)) only [go_sem]))
  exact Gd.ret (Qfl (by rw [Jc, if_pos hm]) hm)
 obtain ⟨hf, hmp, hel⟩ := Xw hm;obtain ⟨m1, m2, m3⟩ := Xs hmp;rw [hm]
 (apply Zo;repeat' ((with_reducible first|apply Zk|(first|apply Za|apply Zb|apply Zc|apply Zd)<;>intro h)<;>try simp -implicitDefEqProofs (maxSteps:=9^7) (disch:=first|omega|(simp only [Qb];omega)) only [go_sem]))
 refine Fc.pure (hPs (by omega)) (by simp [Qi, clo, Qc]) (fun g => rfl) ?_
 cases hb : (Zm p && decide (p.length = t.shape.length)) with
 | false =>
  rw [if_neg (by decide)]
  (apply Zo;repeat' ((with_reducible first|apply Zk|(first|apply Za|apply Zb|apply Zc|apply Zd)<;>intro h)<;>try simp -implicitDefEqProofs (maxSteps:=9^7) (disch:=first|omega|(simp only [Qb];omega)) only [go_sem]))
  exact Gd.ret (Qfl (by rw [Jc, if_neg (by omega), if_pos hb]) (by decide))
 | true =>
  rw [if_pos rfl];rw [Bool.and_eq_true, decide_eq_true_eq] at hb;obtain ⟨hb, hpl⟩ := hb
  have hin : ∀ j, j < p.length → 0 ≤ p.getD j 0 ∧ p.getD j 0 < p.length := fun j hj => by
   have := (Jz p).1 hb j hj
   exact ⟨this.1, this.2.1⟩
  have hE : Jc t p = 0 := by rw [Jc, if_neg (by omega), if_neg (by simp [hb, hpl])]
  rw [Qay hE, hE]
  (apply Zo;repeat' ((with_reducible first|apply Zk|(first|apply Za|apply Zb|apply Zc|apply Zd)<;>intro h)<;>try simp -implicitDefEqProofs (maxSteps:=9^7) (disch:=first|omega|(simp only [Qb];omega)) only [go_sem]))
  refine Qb8 rfl rfl rfl rfl (by simp [t3bytes]) (by omega) ?_
  (apply Zo;repeat' ((with_reducible first|apply Zk|(first|apply Za|apply Zb|apply Zc|apply Zd)<;>intro h)<;>try simp -implicitDefEqProofs (maxSteps:=9^7) (disch:=first|omega|(simp only [Qb];omega)) only [go_sem]))
  refine Qf (fun n ts H => ∃ (k : Nat) (z : List Int), (k ≤ p.length) ∧ (n = p.length - k) ∧ (z.length = p.length) ∧ (z.take k = Qg1 (fun i => t.shape.getD (p.getD i 0).toNat 0) k) ∧ (Qd H 0 = some ⟨26, 2, [.sl t.shape.length (ints t.shape), .sl t.el.length (Xd t.el)]⟩) ∧ (Qd H 1 = some ⟨22, 1, [.sl p.length (ints p)]⟩) ∧ (Qd H 2 = some ⟨26, 2, [.nil, .nil]⟩) ∧ (Qd H 3 = some ⟨3, 1, ints z⟩) ∧ ts.length = 51 ∧ nth ts 2 = .ptr 0 0 ∧ nth ts 3 = .ptr 1 0 ∧ nth ts 4 = .ptr 2 0 ∧ nth ts 8 = .ref 3 0 p.length ∧ nth ts 29 = .sl p.length (ints p) ∧ nth ts 30 = .int .i64 p.length ∧ nth ts 31 = .int .i64 (k : Nat)) ?_ (n := p.length) ?_
  ·skip
   rintro n ts H ⟨k, z, hk, hn, hz, hzt, h0, h1, h2, h3, hL, hs2, hs3, hs4, hs8, hs29, hs30, hs31⟩;refine Qv [(2, .ptr 0 0), (3, .ptr 1 0), (4, .ptr 2 0), (8, .ref 3 0 p.length), (29, .sl p.length (ints p)), (30, .int .i64 p.length), (31, .int .i64 (k : Nat))] hL (by simp only [zFm, hs2, hs3, hs4, hs8, hs29, hs30, hs31, true_and]; exact zNm) ?_
   clear hL hs2 hs3 hs4 hs8 hs29 hs30 hs31 ts
   refine Qu Qe ?_;by_cases hc : k < p.length
   ·obtain ⟨b1, b2⟩ := hin k hc;obtain ⟨d, hd⟩ : ∃ d : Nat, p.getD k 0 = d := ⟨(p.getD k 0).toNat, by omega⟩
    have e0 : ∀ q, Qd (H.set 3 q) 0 = some ⟨26, 2, [.sl t.shape.length (ints t.shape), .sl t.el.length (Xd t.el)]⟩ := fun q => by rw [Qh _ (by decide)]; exact h0
    have e1 : ∀ q, Qd (H.set 3 q) 1 = some ⟨22, 1, [.sl p.length (ints p)]⟩ := fun q => by rw [Qh _ (by decide)]; exact h1
    have e2 : ∀ q, Qd (H.set 3 q) 2 = some ⟨26, 2, [.nil, .nil]⟩ := fun q => by rw [Qh _ (by decide)]; exact h2
    (apply Zo;repeat' ((with_reducible first|apply Zk|(first|apply Za|apply Zb|apply Zc|apply Zd)<;>intro h)<;>try simp -implicitDefEqProofs (maxSteps:=9^7) (disch:=first|omega|(simp only [Qb];omega)) only [go_sem, hd, h0, h3, Xu]))
    refine ⟨p.length - (k + 1), by omega, k + 1, z.set k (t.shape.getD d 0), by omega, rfl, by simp [hz], ?_, e0 _, e1 _, e2 _, Qg h3, (by (repeat' apply And.intro) <;> (first | rfl | omega | (congr 1; omega) | assumption | (congr 1; assumption)))⟩
    rw [Qh5, ← hzt, hd];refine List.ext_getElem (by simp; omega) fun j h1 h2 => ?_
    simp only [List.length_take, List.length_set] at h1;rw [List.getElem_take, List.getElem_set, List.getElem_append];simp only [List.length_take, List.getElem_take];split
    ·rename_i hj; subst hj; rw [dif_neg (by omega)]; simp
    ·rename_i hj; rw [dif_pos (by omega)]
   ·have hks : k = p.length := by omega
    subst hks
    have hze : z = Ze p t.shape := by rw [Ze, ← hzt, ← hz, List.take_length]
    subst hze
    have hTm := hpm t.shape hmp p hb hpl
    have hmv := Qil t ht hf (Ze p t.shape) (by rw [hz]; omega) hTm 42 [.rp [.sl p.length (ints p)] 0] (by simp [Qi, clo, Qc]) (fun x => Kc p x p.length) (fun x hx hxb => ⟨by rw [Zz]; omega, Qrm p x (by omega) (by omega) hin⟩)
    (apply Zo;repeat' ((with_reducible first|apply Zk|(first|apply Za|apply Zb|apply Zc|apply Zd)<;>intro h)<;>try simp -implicitDefEqProofs (maxSteps:=9^7) (disch:=first|omega|(simp only [Qb];omega)) only [go_sem, h0, h1]))
    refine Fc.sealed (r := 1) h1 (by simp [Qi, clo, Qc]) ?_
    have he : szL 1 [.sl p.length (ints p)] [.agg [.sl t.shape.length (ints t.shape), .sl t.el.length (Xd t.el)], .ref 3 0 p.length, .fn (.func 42) [] [.ptr 1 0]] = [tnV t, .ref 3 0 p.length, .fn (.func 42) [] [.rp [.sl p.length (ints p)] 0]] := by
     simp only [szL, sz, Zy _ _ _ (Qc _), Zy _ _ _ (Qm _), if_true]
     rfl
    rw [he]
    have hu : Bv.Own 3 1 (H.set 1 none) (.ref 3 0 p.length) (Ze p t.shape).length (ints (Ze p t.shape)) := by
     rw [hz]; exact .inr ⟨3, rfl, by rw [Qh _ (by decide)]; exact h3, by rw [Zn, hz]; omega⟩
    have hlt := Xg h3
    refine hmv.keptF ⟨.self (Xo t), hu.bor' (Qc _), .self (by simp [Qi, clo, Qc]), trivial⟩ fun v X hv => ?_
    have f2 : Qd (H.set 1 none ++ X) 2 = some ⟨26, 2, [.nil, .nil]⟩ := Qj (by rw [Qh _ (by decide)]; exact h2) X
    have f22 : ∀ row, Qd ((H.set 1 none ++ X).set 2 (some row)) 2 = some row := fun row => Qg f2
    obtain ⟨w, e, rfl, hw, he⟩ := hv.tup2;obtain ⟨a, b, rfl, ha, hb⟩ := hw.agg2;obtain ⟨ka, ca, sa⟩ := Yu ha.gd;obtain ⟨kb, cb, sb⟩ := Yu hb.gd;rw [he.gd.int_inv]
    (apply Zo;repeat' ((with_reducible first|apply Zk|(first|apply Za|apply Zb|apply Zc|apply Zd)<;>intro h)<;>try simp -implicitDefEqProofs (maxSteps:=9^7) (disch:=first|omega|(simp only [Qb];omega)) only [go_sem, f2, f22, ka, ca, sa, kb, cb, sb]))
    exact Gd.ret (Gd.tupL ⟨Gd.aggL ⟨(ha.set (q := 2) (by simp; omega) _).gd, (hb.set (q := 2) (by simp; omega) _).gd, trivial⟩, Qly _ _, trivial⟩)
  ·exact ⟨0, List.replicate p.length 0, by omega, rfl, by simp, by simp [Qg1], rfl, rfl, rfl, by rw [← Qfy]; rfl, rfl, rfl, rfl, rfl, rfl, rfl, rfl, rfl⟩
theorem Qr3 {l m : List Int} (h : l.Perm m) : Qp l = Qp m := by
 induction h with
 | nil => rfl
 | cons a _ ih => simp only [Qp, ih]
 | swap a b l => simp only [Qp]; rw [← Int.mul_assoc, ← Int.mul_assoc, Int.mul_comm a b]
 | trans _ _ h1 h2 => exact h1.trans h2
theorem Qvm {x a : List Int} (hl : a.length = x.length) (hp : Zm a = true) : (Qg1 (fun i => x.getD (a.getD i 0).toNat 0) a.length).Perm x := by
 have h1 := List.mergeSort_perm a (fun p q => decide (p ≤ q))
 have h2 := List.pairwise_mergeSort (le := fun p q : Int => decide (p ≤ q)) (by intro p q r; simp; omega) (by intro p q; simp; omega) a
 generalize a.mergeSort (fun p q => decide (p ≤ q)) = ys at h1 h2
 have hy := (Qg3 h1 (fun p q hpq hq => by
  rw [List.pairwise_iff_getElem] at h2
  have := h2 p q (by omega) hq hpq
  simpa [List.getD, hq, show p < ys.length by omega] using this)).1 hp
 have hyl := h1.length_eq
 have e1 : Qg1 (fun i => x.getD (a.getD i 0).toNat 0) a.length = a.map fun d => x.getD d.toNat 0 := by
  refine Qaa (by simp [Yv]) fun j hj => ?_
  rw [Yv] at hj;rw [Qbh hj];simp [List.getD, hj]
 have e2 : (ys.map fun d => x.getD d.toNat 0) = x := by
  refine Qaa (by simp; omega) fun j hj => ?_
  have hj' : j < ys.length := by simpa using hj
  have := hy j hj'
  simp only [List.getD, List.getElem?_eq_getElem hj', Option.getD_some] at this;simp [List.getD, hj', this]
 rw [e1];exact ((h1.map _).symm).trans (by rw [e2])
theorem Qgf (s : List Int) (h0 : Yo s = 0) (p : List Int) (hp : Zm p = true) (hl : p.length = s.length) : Yo (Ze p s) = 0 := by
 obtain ⟨h1, h2, h3⟩ := Xs h0
 have hpm : (Ze p s).Perm s := Qvm hl hp
 have hm : ∀ d ∈ Ze p s, 1 ≤ d := fun d hd => h2 d (hpm.mem_iff.1 hd)
 have hln := hpm.length_eq
 unfold Yo;rw [if_neg (by omega), if_pos (by simpa using hm), if_neg (by rw [Qr3 hpm]; omega)]
theorem Qlo (t : Tn) (ht : TnOK t) (p : List Int) (hp : p.length ≤ 12) : Val C 13 [tnV t, .sl p.length (ints p)] (.tup [tnV (Jb t p), .int .i64 (Jc t p)]) := Ql7 Qgf t ht p (by omega) fun h => Qmx p t.shape.length (by omega) hp
def Qae (s l : List Int) : Tq := ⟨s, l.map Zh⟩
def Yn (s l : List Int) : Tn := Jq (Qae s l)
theorem Qxp {xs : List Int} {i : Nat} (h : i < xs.length) : Qb2 ((xs.map Zh).take (i + 1)) = Qb2 ((xs.map Zh).take i) ++ [.bool (Zh (xs.getD i 0)).neg, DV (Zh (xs.getD i 0)).num, DV (Zh (xs.getD i 0)).den] := by
 have : (xs.map Zh).getD i q0 = Zh (xs.getD i 0) := by simp [List.getD, h]
 have hh := Qwe (xs := xs.map Zh) (i := i) (by simpa using h)
 rw [this] at hh;exact hh
theorem Qyq {s l : List Int} (hs : s.length ≤ 1000000000) (hl : l.length ≤ 1000000000) (hb : ∀ x ∈ l, -9223372036854775808 ≤ x ∧ x < 9223372036854775808) : TqOK (Qae s l) := ⟨hs, by simpa [Qae] using hl, fun x hx => by
 simp only [Qae, List.mem_map] at hx;obtain ⟨a, ha, rfl⟩ := hx
 have := hb a ha
 refine ⟨?_, ?_⟩
 ·have : Qq a.natAbs ≤ 16 := Qad (Nat.lt_of_lt_of_le (show a.natAbs < 9223372036854775809 by omega) (by decide))
  show Qq a.natAbs ≤ _
  omega
 ·show Qq 1 ≤ _
  rw [Qk6]; decide⟩
theorem Qvi (s l : List Int) (hs : s.length ≤ 1000000) (hl : l.length ≤ 1000000) (hb : ∀ x ∈ l, -9223372036854775808 ≤ x ∧ x < 9223372036854775808) : Val C 49 [.sl s.length (ints s), .sl l.length (ints l)] (tnV (Yn s l)) := by
 refine Fc.keep (Fc.bodyT Qe Tryz.func49 w49 rfl Tryz.ntmps49 Tryz.results49 (zLe rfl) ?_)
 (apply Zo;repeat' ((with_reducible first|apply Zk|(first|apply Za|apply Zb|apply Zc|apply Zd)<;>intro h)<;>try simp -implicitDefEqProofs (maxSteps:=9^7) (disch:=first|omega|(simp only [Qb];omega)) only [go_sem]))
 refine Qf (fun n ts H => ∃ (i : Nat) (u : V), (i ≤ l.length) ∧ (Qd H 0 = some ⟨26, 2, [.nil, .nil]⟩) ∧ (Qd H 1 = some ⟨34, 2, [.sl s.length (ints s), u]⟩) ∧ (Cel 2 72 3 H u i (Qb2 ((l.map Zh).take i))) ∧ (n = l.length - i) ∧ ts.length = 27 ∧ nth ts 1 = .sl l.length (ints l) ∧ nth ts 4 = .ptr 0 0 ∧ nth ts 5 = .ptr 1 0 ∧ nth ts 6 = .int .i64 (i : Nat)) ?_ (n := l.length) ?_
 ·skip
  rintro n ts H ⟨i, u, hi, h0, h3, hu, hn, hL, hs1, hs4, hs5, hs6⟩;refine Qv [(1, .sl l.length (ints l)), (4, .ptr 0 0), (5, .ptr 1 0), (6, .int .i64 (i : Nat))] hL (by simp only [zFm, hs1, hs4, hs5, hs6, true_and]; exact zNm) ?_
  clear hL hs1 hs4 hs5 hs6 ts
  refine Qu Qe ?_
  have hlen := Xg h3
  by_cases hcase : i < l.length
  ·have hx := Jx.1 hb i hcase
   (apply Zo;repeat' ((with_reducible first|apply Zk|(first|apply Za|apply Zb|apply Zc|apply Zd)<;>intro h)<;>try simp -implicitDefEqProofs (maxSteps:=9^7) (disch:=first|omega|(simp only [Qb];omega)) only [go_sem, h3]))
   refine Pc.keptF (Qsy (l.getD i 0) hx.1 hx.2) (Ql8 _) ⟨.self rfl, trivial⟩ fun v X hv => ?_
   obtain ⟨v1, v2, v3, rfl, hv1, hv2, hv3⟩ := hv.agg3;obtain ⟨k2, c2, s2⟩ := Yu hv2.gd;obtain ⟨k3, c3, s3⟩ := Yu hv3.gd
   have e1 := hv1.gd.bool_inv
   subst e1
   (apply Zo;repeat' ((with_reducible first|apply Zk|(first|apply Za|apply Zb|apply Zc|apply Zd)<;>intro h)<;>try simp -implicitDefEqProofs (maxSteps:=9^7) (disch:=first|omega|(simp only [Qb];omega)) only [go_sem, h3, k2, c2, s2, k3, c3, s3]))
   refine Cel.push3 hu rfl rfl (by omega) (by omega) hv2 hv3 s2 s3 fun v' H' hu' hk' k4 c4 s4 => ?_
   have g0 := hk' 0 _ (by decide) h0
   have g3 := hk' 1 _ (by decide) h3
   (apply Zo;repeat' ((with_reducible first|apply Zk|(first|apply Za|apply Zb|apply Zc|apply Zd)<;>intro h)<;>try simp -implicitDefEqProofs (maxSteps:=9^7) (disch:=first|omega|(simp only [Qb];omega)) only [go_sem, g3, k4, c4, s4]))
   have f0 : ∀ (q : Nat) (row : Row) (z : Option Row), q ≠ 1 → Qd H' q = some row → Qd (H'.set 1 z) q = some row := fun q row z hq hr => by rw [Qh _ (Ne.symm hq)]; exact hr
   refine ⟨l.length - (i + 1), by omega, i + 1, v', by omega, f0 0 _ _ (by decide) g0, Qg g3, ?_, rfl, by congr 1⟩
   rw [Qxp hcase];exact Cel.set hu' (by decide) _
  ·obtain ⟨k4, c4, s4⟩ := Cel.kn hu
   have hil : i = l.length := by omega
   rw [hil, List.take_of_length_le (by simp)] at hu
   have hg : Bor H (.agg [.sl s.length (ints s), u]) (tqV (Qae s l)) := Bor.aggL ⟨.self (by simp [clo, Qc]), by simpa [Qae] using (Cel.gd hu).bor, trivial⟩
   (apply Zo;repeat' ((with_reducible first|apply Zk|(first|apply Za|apply Zb|apply Zc|apply Zd)<;>intro h)<;>try simp -implicitDefEqProofs (maxSteps:=9^7) (disch:=first|omega|(simp only [Qb];omega)) only [go_sem, h3, k4, c4, s4]))
   refine (Qqx (Qae s l) (Qyq (by omega) (by omega) hb)).keptF ⟨hg, trivial⟩ fun v X hv => ?_
   obtain ⟨a, b, rfl, ha, hb'⟩ := hv.agg2;obtain ⟨ka, ca, sa⟩ := Yu ha.gd;obtain ⟨kb, cb, sb⟩ := Yu hb'.gd
   have a0 := Qj h0 X
   have hst : ∀ z : Row, Qd ((H ++ X).set 0 (some z)) 0 = some z := fun z => Qg a0
   (apply Zo;repeat' ((with_reducible first|apply Zk|(first|apply Za|apply Zb|apply Zc|apply Zd)<;>intro h)<;>try simp -implicitDefEqProofs (maxSteps:=9^7) (disch:=first|omega|(simp only [Qb];omega)) only [go_sem, a0, hst, ka, ca, sa, kb, cb, sb]))
   exact Gd.ret (Gd.aggL ⟨(ha.set (q := 0) (by omega) _).gd, (hb'.set (q := 0) (by omega) _).gd, trivial⟩)
 ·exact ⟨0, .nil, by omega, rfl, rfl, Cel.nil _ _ _ _, rfl, rfl, rfl, rfl, rfl, rfl⟩
def NmQ (r : Rq) : Prop := Xc (Qz r) = r
def atG (q : Tq) (l : List Int) : Rq := if Qav q.shape l = 0 then q.el.getD (Jj q.shape l).toNat q0 else Zh 0
def mvQ (q : Tq) (s : List Int) (g : List Int → List Int) : Tq := ⟨s, (List.range (Qp s).toNat).map fun i => atG q (g (Xq s (i : Nat)))⟩
theorem Qa6 (r : Rq) : Xc (Qz r) = Jg r.neg r.num r.den := by
 show Jg r.neg (lv 4294967296 (dg 4294967296 r.num)) (lv 4294967296 (dg 4294967296 r.den)) = _
 rw [Qks (by decide), Qks (by decide)]
theorem Qih (a : Int) : NmQ (Zh a) := by
 rw [NmQ, Qa6]
 show Jg (decide (a < 0)) a.natAbs 1 = ⟨decide (a < 0), a.natAbs, 1⟩
 by_cases h : a = 0
 ·subst h; rfl
 ·rw [Jg, if_neg (by omega)]
  simp
theorem Qkl (x : Raw) : NmQ (Xc x) := by
 rw [NmQ, Qa6, Xc];generalize lv 4294967296 x.num = p;generalize lv 4294967296 x.den = q;by_cases h : p = 0 ∨ q = 0
 ·rw [Jd h]; rfl
 ·have hg := Qd5 h
  have hc : Nat.gcd (p / Nat.gcd p q) (q / Nat.gcd p q) = 1 := Nat.coprime_div_gcd_div_gcd hg
  have h1 : 0 < p / Nat.gcd p q := Nat.div_pos (Nat.le_of_dvd (by omega) (Nat.gcd_dvd_left p q)) hg
  have h2 : 0 < q / Nat.gcd p q := Nat.div_pos (Nat.le_of_dvd (by omega) (Nat.gcd_dvd_right p q)) hg
  have e : Jg x.neg p q = ⟨x.neg, p / Nat.gcd p q, q / Nat.gcd p q⟩ := if_neg h
  rw [e]
  show Jg x.neg (p / Nat.gcd p q) (q / Nat.gcd p q) = _
  rw [Jg, if_neg (by omega), hc, Nat.div_one, Nat.div_one]
theorem Qps (q : Tq) (hn : ∀ r ∈ q.el, NmQ r) (he : (q.el.length : Int) = Qp q.shape) (s : List Int) (g : List Int → List Int) : mvT (Jq q) s g = Jq (mvQ q s g) := by
 show (⟨s, ((mvL (Jq q) s g (Qp s).toNat).map Xc).map Qz⟩ : Tn) = ⟨s, (mvQ q s g).el.map Qz⟩
 congr 2
 show (mvL (Jq q) s g (Qp s).toNat).map Xc = (List.range (Qp s).toNat).map fun i => atG q (g (Xq s (i : Nat)))
 rw [mvL, Qgm, List.map_map];refine List.map_congr_left fun i _ => ?_
 simp only [Function.comp];by_cases h : Qgl (Jq q) (g (Xq s (i : Nat))) = true
 ·rw [if_pos h, if_pos h]
  have hz : Qav q.shape (g (Xq s (i : Nat))) = 0 := of_decide_eq_true h
  obtain ⟨h1, h2, h3⟩ := Qfw hz;rw [atG, if_pos hz, Qi8];obtain ⟨m, hm⟩ : ∃ m : Nat, Jj q.shape (g (Xq s (i : Nat))) = m := ⟨(Jj q.shape (g (Xq s (i : Nat)))).toNat, by omega⟩
  have hm' : m < q.el.length := by omega
  simp only [Jq, hm, Int.toNat_natCast]
  have e1 : (q.el.map Qz).getD m r0 = Qz (q.el.getD m q0) := by simp [List.getD, hm']
  rw [e1];exact hn _ (by simp [List.getD, hm'])
 ·rw [if_neg h]
  have hz : ¬ Qav q.shape (g (Xq s (i : Nat))) = 0 := fun e => h (decide_eq_true e)
  rw [atG, if_neg hz, Qf8];exact Qih 0
def mvI (s0 l s : List Int) (g : List Int → List Int) : List Int := (List.range (Qp s).toNat).map fun i => if Qav s0 (g (Xq s (i : Nat))) = 0 then l.getD (Jj s0 (g (Xq s (i : Nat)))).toNat 0 else 0
theorem Qx8 (s0 l p : List Int) : atG (Qae s0 l) p = if Qav s0 p = 0 then (l.map Zh).getD (Jj s0 p).toNat q0 else Zh 0 := rfl
theorem Qij (s0 l : List Int) (he : (l.length : Int) = Qp s0) (s : List Int) (g : List Int → List Int) : mvT (Yn s0 l) s g = Yn s (mvI s0 l s g) := by
 rw [Yn, Qps (Qae s0 l) (fun r hr => by
  simp only [Qae, List.mem_map] at hr;obtain ⟨a, _, rfl⟩ := hr;exact Qih a) (by simpa [Qae] using he), Yn]
 congr 1
 show (⟨s, (List.range (Qp s).toNat).map fun i => atG (Qae s0 l) (g (Xq s (i : Nat)))⟩ : Tq) = ⟨s, (mvI s0 l s g).map Zh⟩
 congr 1
 rw [mvI, List.map_map];refine List.map_congr_left fun i _ => ?_
 simp only [Function.comp, Qx8];by_cases hz : Qav s0 (g (Xq s (i : Nat))) = 0
 ·rw [if_pos hz, if_pos hz];obtain ⟨h1, h2, h3⟩ := Qfw hz
  have : (Jj s0 (g (Xq s (i : Nat)))).toNat < l.length := by omega
  simp [List.getD, this]
 ·rw [if_neg hz, if_neg hz]
theorem Qgi (s l : List Int) (hm : Yo s = 0) (he : (l.length : Int) = Qp s) : Yy (Yn s l) = 0 := by
 have hf : Zt (Yn s l) = 0 := by
  show (if Yo s ≠ 0 then Yo s else if (((l.map Zh).map Qz).length : Int) ≠ countP s then 13 else 0) = 0
  have hc : countP s = Qp s := by rw [countP, if_pos hm]
  rw [hm, hc]; simp [he]
 rw [Yy, hf, if_neg (by decide), if_pos]
 rw [List.all_eq_true];intro x hx;simp only [Yn, Qae, Jq, List.mem_map] at hx;obtain ⟨_, ⟨a, _, rfl⟩, rfl⟩ := hx;rw [okR, Qei, Qih a]
theorem Qgy {s l : List Int} (hs : s.length ≤ 1000000) (hl : l.length ≤ 1000000) (hb : ∀ x ∈ l, -9223372036854775808 ≤ x ∧ x < 9223372036854775808) : TnOK (Yn s l) := by
 refine ⟨show s.length ≤ 1000000000 by omega, by simp [Yn, Qae, Jq]; omega, fun x hx => ?_⟩
 simp only [Yn, Qae, Jq, List.mem_map] at hx;obtain ⟨_, ⟨a, ha, rfl⟩, rfl⟩ := hx
 have := hb a ha
 have h1 : (dg B32 a.natAbs).length ≤ 2 := Xe (by decide) _ _ (Nat.lt_of_lt_of_le (show a.natAbs < 9223372036854775809 by omega) (by decide))
 have h2 : (dg B32 1).length ≤ 1 := Xe (by decide) _ _ (by decide)
 exact ⟨show (dg B32 a.natAbs).length ≤ _ by omega, show (dg B32 1).length ≤ _ by omega, Xp _, Xp _⟩
theorem Qv7 (t : Tn) : Qj5 t t = true := by
 simp only [Qj5, decide_true, Bool.true_and];rw [Qh7];intro i _;simp [Qe1]
theorem k1E : Jc (Yn [2, 3] [1, 2, 3, 4, 5, 6]) [1, 0] = 0 := by
 rw [Jc, Qgi _ _ (by decide) (by decide)]
 rfl
theorem k1T : Jb (Yn [2, 3] [1, 2, 3, 4, 5, 6]) [1, 0] = Yn [3, 2] [1, 4, 2, 5, 3, 6] := by
 rw [Jb, Qay k1E, Qij _ _ (by decide)]
 rfl
theorem k2E : Qaq (Yn [2, 3] [1, 2, 3, 4, 5, 6]) [0, 1, 1, 3] = 0 := by
 rw [Qaq, Qgi _ _ (by decide) (by decide)]
 rfl
theorem k2T : Qbt (Yn [2, 3] [1, 2, 3, 4, 5, 6]) [0, 1, 1, 3] = Yn [1, 2] [2, 3] := by
 rw [Qbt, Qay k2E, Qij _ _ (by decide)]
 rfl
theorem k3E : Qbw (Yn [1, 2] [2, 3]) [0, 0, 1, 0] = 0 := by
 rw [Qbw, Qgi _ _ (by decide) (by decide)]
 rfl
theorem k3T : Qet (Yn [1, 2] [2, 3]) [0, 0, 1, 0] = Yn [1, 3] [0, 2, 3] := by
 rw [Qet, Qay k3E, Qij _ _ (by decide)]
 rfl
theorem t1_val : Val C 13 [tnV (Yn [2, 3] [1, 2, 3, 4, 5, 6]), .sl 2 [.int .i64 1, .int .i64 0]] (.tup [tnV (Yn [3, 2] [1, 4, 2, 5, 3, 6]), .int .i64 0]) := by
 have h := Qlo (Yn [2, 3] [1, 2, 3, 4, 5, 6]) (Qgy (by decide) (by decide) (by decide)) [1, 0] (by decide)
 rw [k1E, k1T] at h;exact h
theorem t2_val : Val C 20 [tnV (Yn [2, 3] [1, 2, 3, 4, 5, 6]), .sl 4 [.int .i64 0, .int .i64 1, .int .i64 1, .int .i64 3]] (.tup [tnV (Yn [1, 2] [2, 3]), .int .i64 0]) := by
 have h := Qft (Yn [2, 3] [1, 2, 3, 4, 5, 6]) (Qgy (by decide) (by decide) (by decide)) [0, 1, 1, 3] (by decide)
 rw [k2E, k2T] at h;exact h
theorem t3_val : Val C 22 [tnV (Yn [1, 2] [2, 3]), .sl 4 [.int .i64 0, .int .i64 0, .int .i64 1, .int .i64 0]] (.tup [tnV (Yn [1, 3] [0, 2, 3]), .int .i64 0]) := by
 have h := Quj (Yn [1, 2] [2, 3]) (Qgy (by decide) (by decide) (by decide)) [0, 0, 1, 0] (by decide)
 rw [k3E, k3T] at h;exact h
theorem Qt7 (s l : List Int) (hs : s.length ≤ 1000000) (hl : l.length ≤ 1000000) (hb : ∀ x ∈ l, -9223372036854775808 ≤ x ∧ x < 9223372036854775808) : ∃ T, T = Yn s l ∧ TnOK T ∧ Val C 49 [.sl s.length (ints s), .sl l.length (ints l)] (tnV T) := ⟨_, rfl, Qgy hs hl hb, Qvi s l hs hl hb⟩
theorem Zf : Pu C 19 [] (.bool true) := by
 obtain ⟨X, hX, tX, wX⟩ := Qt7 [2, 3] [1, 2, 3, 4, 5, 6] (by decide) (by decide) (by decide)
 obtain ⟨A, hA, tA, wA⟩ := Qt7 [3, 2] [1, 4, 2, 5, 3, 6] (by decide) (by decide) (by decide)
 obtain ⟨B, hB, tB, wB⟩ := Qt7 [1, 2] [2, 3] (by decide) (by decide) (by decide)
 obtain ⟨D, hD, tD, wD⟩ := Qt7 [1, 3] [0, 2, 3] (by decide) (by decide) (by decide)
 have h1 := t1_val
 have h2 := t2_val
 have h3 := t3_val
 rw [← hX, ← hA] at h1;rw [← hX, ← hB] at h2;rw [← hB, ← hD] at h3
 have sA := Qe2 A A tA tA
 have sB := Qe2 B B tB tB
 have sD := Qe2 D D tD tD
 rw [Qv7] at sA sB sD
 clear hX hA hB hD
 refine Fc.keep (Fc.bodyT Qe Tryz.func19 w19 rfl Tryz.ntmps19 Tryz.results19 (zLe rfl) ?_)
 (apply Zo;repeat' ((with_reducible first|apply Zk|(first|apply Za|apply Zb|apply Zc|apply Zd)<;>intro h)<;>try simp -implicitDefEqProofs (maxSteps:=9^7) (disch:=first|omega|(simp only [Qb];omega)) only [go_sem]))
 refine wX.call ⟨.self rfl, .self rfl, trivial⟩ (Xo _) ?_
 (apply Zo;repeat' ((with_reducible first|apply Zk|(first|apply Za|apply Zb|apply Zc|apply Zd)<;>intro h)<;>try simp -implicitDefEqProofs (maxSteps:=9^7) (disch:=first|omega|(simp only [Qb];omega)) only [go_sem]))
 refine h1.call ⟨.self (Xo _), .self rfl, trivial⟩ (by simp [clo, Qi, Xo]) ?_
 (apply Zo;repeat' ((with_reducible first|apply Zk|(first|apply Za|apply Zb|apply Zc|apply Zd)<;>intro h)<;>try simp -implicitDefEqProofs (maxSteps:=9^7) (disch:=first|omega|(simp only [Qb];omega)) only [go_sem]))
 refine h2.call ⟨.self (Xo _), .self rfl, trivial⟩ (by simp [clo, Qi, Xo]) ?_
 (apply Zo;repeat' ((with_reducible first|apply Zk|(first|apply Za|apply Zb|apply Zc|apply Zd)<;>intro h)<;>try simp -implicitDefEqProofs (maxSteps:=9^7) (disch:=first|omega|(simp only [Qb];omega)) only [go_sem]))
 refine h3.call ⟨.self (Xo _), .self rfl, trivial⟩ (by simp [clo, Qi, Xo]) ?_
 (apply Zo;repeat' ((with_reducible first|apply Zk|(first|apply Za|apply Zb|apply Zc|apply Zd)<;>intro h)<;>try simp -implicitDefEqProofs (maxSteps:=9^7) (disch:=first|omega|(simp only [Qb];omega)) only [go_sem]))
 refine wA.pc ⟨.self rfl, .self rfl, trivial⟩ (Xo _) ?_
 (apply Zo;repeat' ((with_reducible first|apply Zk|(first|apply Za|apply Zb|apply Zc|apply Zd)<;>intro h)<;>try simp -implicitDefEqProofs (maxSteps:=9^7) (disch:=first|omega|(simp only [Qb];omega)) only [go_sem]))
 refine Pc.pure sA (by simp [Qi, clo, Qc, Qm]) (fun g => rfl) ?_
 (apply Zo;repeat' ((with_reducible first|apply Zk|(first|apply Za|apply Zb|apply Zc|apply Zd)<;>intro h)<;>try simp -implicitDefEqProofs (maxSteps:=9^7) (disch:=first|omega|(simp only [Qb];omega)) only [go_sem]))
 refine wB.pc ⟨.self rfl, .self rfl, trivial⟩ (Xo _) ?_
 (apply Zo;repeat' ((with_reducible first|apply Zk|(first|apply Za|apply Zb|apply Zc|apply Zd)<;>intro h)<;>try simp -implicitDefEqProofs (maxSteps:=9^7) (disch:=first|omega|(simp only [Qb];omega)) only [go_sem]))
 refine Pc.pure sB (by simp [Qi, clo, Qc, Qm]) (fun g => rfl) ?_
 (apply Zo;repeat' ((with_reducible first|apply Zk|(first|apply Za|apply Zb|apply Zc|apply Zd)<;>intro h)<;>try simp -implicitDefEqProofs (maxSteps:=9^7) (disch:=first|omega|(simp only [Qb];omega)) only [go_sem]))
 refine wD.pc ⟨.self rfl, .self rfl, trivial⟩ (Xo _) ?_
 (apply Zo;repeat' ((with_reducible first|apply Zk|(first|apply Za|apply Zb|apply Zc|apply Zd)<;>intro h)<;>try simp -implicitDefEqProofs (maxSteps:=9^7) (disch:=first|omega|(simp only [Qb];omega)) only [go_sem]))
 refine Pc.pure sD (by simp [Qi, clo, Qc, Qm]) (fun g => rfl) ?_
 (apply Zo;repeat' ((with_reducible first|apply Zk|(first|apply Za|apply Zb|apply Zc|apply Zd)<;>intro h)<;>try simp -implicitDefEqProofs (maxSteps:=9^7) (disch:=first|omega|(simp only [Qb];omega)) only [go_sem]))
 (refine Qo (by intro g; simp only [go_sem, ren, Ql]) ?_)
 all_goals rfl
theorem Qzr {x : Raw} (h : RawOK x) : RawOK (Qz (Xc x)) := by
 obtain ⟨h1, h2⟩ := Qe9 x.neg (lv 4294967296 x.num) (lv 4294967296 x.den)
 have n1 := h.n1
 have d1 := h.d1
 refine ⟨?_, ?_, Xp _, Xp _⟩
 ·have := Xe (b := B32) (by decide) (Xc x).num x.num.length (Nat.lt_of_le_of_lt h1 (Kf h.nL))
  show (dg B32 (Xc x).num).length ≤ _
  omega
 ·show (dg B32 (Xc x).den).length ≤ _
  rcases h2 with h2 | h2
  ·have := Xe (b := B32) (by decide) (Xc x).den x.den.length (Nat.lt_of_le_of_lt h2 (Kf h.dL))
   omega
  ·have e : (Xc x).den = 1 := h2
   have : (dg B32 1).length ≤ 1 := Xe (by decide) _ _ (by decide)
   rw [e]; omega
theorem Xae {t : Tn} (ht : TnOK t) : TnOK (Qkk t) := ⟨ht.s, by simpa [Qkk] using ht.e, fun x hx => by
 simp only [Qkk, List.mem_map] at hx;obtain ⟨_, ⟨a, ha, rfl⟩, rfl⟩ := hx;exact Qzr (ht.r a ha)⟩
theorem Qxx : TnOK Qit := ⟨by decide, by decide, fun x hx => by simp [Qit] at hx⟩
theorem Qmp {p : Tn} {e : Int} (h : e = 0 → TnOK p) : TnOK (Qs7 p e) := by
 by_cases he : e = 0
 ·rw [Qay he]; exact h he
 ·rw [Quv he]; exact Qxx
theorem Qnp {t : Tn} (ht : TnOK t) (hm : Yy t = 0) {s : List Int} (hs : s.length ≤ 1000000000) (hp : Yo s = 0) (g : List Int → List Int) : TnOK (mvT t s g) := by
 obtain ⟨m1, m2, m3⟩ := Xs hp;exact Xae ⟨hs, by simp only [mvL, Qho]; omega, Xak ht (Xw hm).1 s g _⟩
theorem Qko (t : Tn) : Yy t = 0 ∨ Yy t = 6 ∨ Yy t = 11 ∨ Yy t = 13 ∨ Yy t = 14 := by
 have := Qkp t.shape
 unfold Yy Zt;split <;> (try split) <;> (try split) <;> (try split) <;> omega
structure FitQ (q : Tq) : Prop where
 ok : TqOK q
 m : Yo q.shape = 0
 l : (q.el.length : Int) = Qp q.shape
theorem Xf4 {t : Tn} (hm : Yy t = 0) : Jq (Qao t) = t := by
 have hf := (Xw hm).1
 rw [Yy, if_neg (by omega)] at hm
 have ha : t.el.all okR = true := by
  cases h : t.el.all okR with
  | true => rfl
  | false => rw [h] at hm; simp at hm
 obtain ⟨s, el⟩ := t
 show (⟨s, (el.map Xc).map Qz⟩ : Tn) = ⟨s, el⟩
 congr 1
 rw [List.map_map];exact (List.map_congr_left fun x hx => (Qei.1 (List.all_eq_true.1 ha x hx)).symm).trans (List.map_id _)
def Qox (ts : List Tn) : List V := ts.flatMap fun t => [.sl t.shape.length (ints t.shape), .sl t.el.length (Xd t.el)]
def t0n : Tn := ⟨[], []⟩
@[go_sem] theorem Xky (ts : List Tn) : (Qox ts).length = ts.length * 2 := by
 induction ts with
 | nil => rfl
 | cons t ts ih => simp only [Qox, List.flatMap_cons, List.length_append, List.length_cons, List.length_nil] at ih ⊢; rw [ih]; omega
theorem Qvt (t : Tn) (ts : List Tn) : Qox (t :: ts) = .sl t.shape.length (ints t.shape) :: .sl t.el.length (Xd t.el) :: Qox ts := rfl
theorem Qnm : ∀ (ts : List Tn) (i : Nat), i < ts.length → nth (Qox ts) (i * 2) = .sl (ts.getD i t0n).shape.length (ints (ts.getD i t0n).shape) ∧ nth (Qox ts) (i * 2 + 1) = .sl (ts.getD i t0n).el.length (Xd (ts.getD i t0n).el)
 | [], i, h => by simp at h
 | t :: ts, 0, _ => ⟨rfl, rfl⟩
 | t :: ts, i + 1, h => by
  have := Qnm ts i (by simpa using h)
  rw [Qvt, show (i + 1) * 2 = i * 2 + 1 + 1 by omega]
  simpa [nth] using this
@[go_sem] theorem Xk9 (ts : List Tn) (i : Nat) (h : i < ts.length) : nth (Qox ts) (i * 2) = .sl (ts.getD i t0n).shape.length (ints (ts.getD i t0n).shape) := (Qnm ts i h).1
@[go_sem] theorem Xk8 (ts : List Tn) (i : Nat) (h : i < ts.length) : nth (Qox ts) (i * 2 + 1) = .sl (ts.getD i t0n).el.length (Xd (ts.getD i t0n).el) := (Qnm ts i h).2
def Qro (tl : List Tn) (a : Nat) : Nat → Int
 | 0 => 0
 | k + 1 => Qro tl a k + (tl.getD k t0n).shape.getD a 0
def Xch (tl : List Tn) (a : Nat) (k : Nat) : List Int := ((tl.getD 0 t0n).shape).set a (Qro tl a k)
def Qow (ws : List Tq) : List V := ws.flatMap fun t => [.sl t.shape.length (ints t.shape), .sl t.el.length (Qb2 t.el)]
def q0n : Tq := ⟨[], []⟩
@[go_sem] theorem Xkx (ws : List Tq) : (Qow ws).length = ws.length * 2 := by
 induction ws with
 | nil => rfl
 | cons t ws ih => simp only [Qow, List.flatMap_cons, List.length_append, List.length_cons, List.length_nil] at ih ⊢; rw [ih]; omega
theorem Qvp (t : Tq) (ws : List Tq) : Qow (t :: ws) = .sl t.shape.length (ints t.shape) :: .sl t.el.length (Qb2 t.el) :: Qow ws := rfl
theorem Qnl : ∀ (ws : List Tq) (i : Nat), i < ws.length → nth (Qow ws) (i * 2) = .sl (ws.getD i q0n).shape.length (ints (ws.getD i q0n).shape) ∧ nth (Qow ws) (i * 2 + 1) = .sl (ws.getD i q0n).el.length (Qb2 (ws.getD i q0n).el)
 | [], i, h => by simp at h
 | t :: ws, 0, _ => ⟨rfl, rfl⟩
 | t :: ws, i + 1, h => by
  have := Qnl ws i (by simpa using h)
  rw [Qvp, show (i + 1) * 2 = i * 2 + 1 + 1 by omega]
  simpa [nth] using this
@[go_sem] theorem Xk7 (ws : List Tq) (i : Nat) (h : i < ws.length) : nth (Qow ws) (i * 2) = .sl (ws.getD i q0n).shape.length (ints (ws.getD i q0n).shape) := (Qnl ws i h).1
@[go_sem] theorem Xk6 (ws : List Tq) (i : Nat) (h : i < ws.length) : nth (Qow ws) (i * 2 + 1) = .sl (ws.getD i q0n).el.length (Qb2 (ws.getD i q0n).el) := (Qnl ws i h).2
structure CatOK (tl : List Tn) (a : Nat) : Prop where
 n : 0 < tl.length
 m : ∀ j, j < tl.length → Yy (tl.getD j t0n) = 0
 ha : a < (tl.getD 0 t0n).shape.length
 f : ∀ j, j < tl.length → (tl.getD j t0n).shape.length = (tl.getD 0 t0n).shape.length ∧ ∀ i, i < (tl.getD 0 t0n).shape.length → i ≠ a → (tl.getD j t0n).shape.getD i 0 = (tl.getD 0 t0n).shape.getD i 0
 s : ∀ k, k < tl.length → Yo (Xch tl a (k + 1)) = 0
theorem CatOK.d {tl : List Tn} {a : Nat} (h : CatOK tl a) {j i : Nat} (hj : j < tl.length) (hi : i < (tl.getD 0 t0n).shape.length) : 1 ≤ (tl.getD j t0n).shape.getD i 0 ∧ (tl.getD j t0n).shape.getD i 0 ≤ 1024 := by
 obtain ⟨_, hm, _⟩ := Xw (h.m j hj);obtain ⟨t1, t2, t3⟩ := Xs hm
 have hl := (h.f j hj).1
 have h1 := Qbr t2 (i := i) (by omega)
 have h2 := Ya t2 (i := i) (by omega)
 omega
theorem CatOK.last {tl : List Tn} {a : Nat} (h : CatOK tl a) : Yo (Xch tl a tl.length) = 0 := by
 have := h.s (tl.length - 1) (by have := h.n; omega)
 rwa [show tl.length - 1 + 1 = tl.length by have := h.n; omega] at this
theorem Qu6 {tl : List Tn} {a : Nat} (ha : a < (tl.getD 0 t0n).shape.length) (k : Nat) (i : Nat) : (Xch tl a k).getD i 0 = if i = a then Qro tl a k else (tl.getD 0 t0n).shape.getD i 0 := by
 rw [Xch];generalize (tl.getD 0 t0n).shape = S at *;by_cases hia : i = a
 ·subst hia; simp [List.getD, ha]
 ·rw [if_neg hia]; simp [List.getD, Ne.symm hia]
theorem CatOK.x {tl : List Tn} {a : Nat} (h : CatOK tl a) {x : List Int} (hx : ∀ i, i < (tl.getD 0 t0n).shape.length → 0 ≤ x.getD i 0 ∧ x.getD i 0 < (Xch tl a tl.length).getD i 0) : (∀ j, j < tl.length → ∀ i, i < (tl.getD 0 t0n).shape.length → i ≠ a → 0 ≤ x.getD i 0 ∧ x.getD i 0 < (tl.getD j t0n).shape.getD i 0) ∧ 0 ≤ x.getD a 0 ∧ x.getD a 0 < Qro tl a tl.length := by
 refine ⟨fun j hj i hi hia => ?_, ?_⟩
 ·have := hx i hi
  rw [Qu6 h.ha, if_neg hia, ← (h.f j hj).2 i hi hia] at this;exact this
 ·have := hx a h.ha
  rw [Qu6 h.ha, if_pos rfl] at this;exact this
theorem Xfy (p : List Int) (m : Nat) : p.countP (fun x => decide (0 ≤ x ∧ x < ((m + 1 : Nat) : Int))) = p.countP (fun x => decide (0 ≤ x ∧ x < ((m : Nat) : Int))) + p.count (m : Int) := by
 induction p with
 | nil => rfl
 | cons x p ih =>
  rw [List.countP_cons, List.countP_cons, List.count_cons, ih];simp only [decide_eq_true_eq, beq_iff_eq];split <;> split <;> split <;> omega
theorem Qql {p : List Int} (h : ∀ d : Nat, d < p.length → p.count (d : Int) = 1) : ∀ m : Nat, m ≤ p.length → p.countP (fun x => decide (0 ≤ x ∧ x < ((m : Nat) : Int))) = m
 | 0, _ => by
  rw [List.countP_eq_zero];intro x _;simp only [decide_eq_true_eq];omega
 | m + 1, hm => by rw [Xfy, Qql h m (by omega), h m (by omega)]
theorem Xfx {p : List Int} (h : ∀ a, p.count a ≤ 1) (m : Nat) : p.countP (fun x => decide (0 ≤ x ∧ x < ((m : Nat) : Int))) ≤ m := by
 induction m with
 | zero =>
  have : p.countP (fun x => decide (0 ≤ x ∧ x < ((0 : Nat) : Int))) = 0 := by
   rw [List.countP_eq_zero];intro x _;simp only [decide_eq_true_eq];omega
  omega
 | succ m ih => rw [Xfy]; have := h (m : Int); omega
theorem Qu5 {p : List Int} (h : ∀ a, p.count a ≤ 1) (m : Nat) : ∀ k : Nat, p.countP (fun x => decide (0 ≤ x ∧ x < ((m + k : Nat) : Int))) ≤ p.countP (fun x => decide (0 ≤ x ∧ x < ((m : Nat) : Int))) + k
 | 0 => by simp
 | k + 1 => by
  have h1 := Qu5 h m k
  have h2 := Xfy p (m + k)
  have h3 := h ((m + k : Nat) : Int)
  rw [show m + (k + 1) = m + k + 1 by omega]
  omega
theorem Qpc (p : List Int) : Zm p = true ↔ ∀ d : Nat, d < p.length → p.count (d : Int) = 1 := by
 constructor
 ·intro h d hd
  have hn := List.nodup_iff_count.1 (Qi9 h)
  have hm := Qme h
  have hall : p.countP (fun x => decide (0 ≤ x ∧ x < ((p.length : Nat) : Int))) = p.length := List.countP_eq_length.2 fun x hx => by
   have := hm x hx
   simpa using this
  have h1 := Xfx hn d
  have h2 := Qu5 hn (d + 1) (p.length - (d + 1))
  have h3 := Xfy p d
  have h4 := hn (d : Int)
  rw [show d + 1 + (p.length - (d + 1)) = p.length by omega] at h2
  omega
 ·intro h
  have hall := Qql h p.length (Nat.le_refl _)
  have hmem : ∀ a ∈ p, 0 ≤ a ∧ a < p.length := fun a ha => by
   have := List.countP_eq_length.1 hall a ha
   simpa using this
  have hn : p.Nodup := List.nodup_iff_count.2 fun a => by
   by_cases ha : a ∈ p
   ·have h1 := hmem a ha
    have := h a.toNat (by omega)
    rw [show ((a.toNat : Nat) : Int) = a by omega] at this
    omega
   ·rw [List.count_eq_zero.2 ha]; omega
  refine (Jz p).2 fun i hi => ?_
  have h1 := hmem _ (Qis hi)
  refine ⟨h1.1, h1.2, fun k hk he => ?_⟩
  rw [List.Nodup, List.pairwise_iff_getElem] at hn
  have := hn k i (by omega) hi hk
  simp only [List.getD, List.getElem?_eq_getElem hi, List.getElem?_eq_getElem (show k < p.length by omega), Option.getD_some] at he
  exact this he
theorem Qdo (t : Tn) (ht : TnOK t) (p : List Int) (hp : p.length ≤ 1048576) : Val C 13 [tnV t, .sl p.length (ints p)] (.tup [tnV (Jb t p), .int .i64 (Jc t p)]) :=
 Ql7 Qgf t ht p hp fun h => Qoq p t.shape.length (by omega) hp
theorem Qey {t : Tn} {p : List Int} (h : Jc t p = 0) : Yy t = 0 ∧ Zm p = true ∧ p.length = t.shape.length := by
 rw [Jc] at h;split at h
 ·contradiction
 split at h
 ·cases h
 rename_i h1 h2
 have h2 : (Zm p && decide (p.length = t.shape.length)) = true := by simpa using h2
 rw [Bool.and_eq_true, decide_eq_true_eq] at h2;exact ⟨by omega, h2⟩
theorem Qm7 (t : Tn) (p : List Int) : -1000000 ≤ Jc t p ∧ Jc t p ≤ 1000000 := by
 have h1 := Qko t
 unfold Jc;split <;> (try split) <;> omega
theorem Qvo {t : Tn} (ht : TnOK t) {p : List Int} (hp : p.length ≤ 1048576) : TnOK (Jb t p) := Qmp fun h => by
 obtain ⟨h1, h2, h3⟩ := Qey h
 have := Yv (fun i => t.shape.getD (p.getD i 0).toNat 0) p.length
 exact Qnp ht h1 (by rw [Ze, this]; omega) (Qgf _ (Xw h1).2.1 p h2 h3) _
theorem Xh7 {e s : Nat} {H : Qa} {w : V} {n : Nat} {cs : List V} (hw : Bv.Own e s H w n cs) : kn w = true ∧ cellsOf w = [w] ∧ Yr w = true := by
 rcases hw with ⟨rfl, _⟩ | ⟨r, rfl, _⟩ <;> exact ⟨rfl, rfl, rfl⟩
theorem Qum {s x : List Int} (h : ∀ d ∈ s, 1 ≤ d) (hx : ∀ i, i < s.length → 0 ≤ x.getD i 0 ∧ x.getD i 0 < s.getD i 0) : ∀ k i : Nat, i + k = s.length → Jw s x s.length / Qp (s.drop i) = Jw s x i
 | 0, i, hi => by
  have : s.length = i := by omega
  rw [← this, List.drop_length];simp [Qp]
 | k + 1, i, hi => by
  have ih := Qum h hx k (i + 1) (by omega)
  have h1 := hx i (by omega)
  rw [← Qk1 h (by omega : i < s.length), ih]
  show (Jw s x i * s.getD i 0 + x.getD i 0) / s.getD i 0 = _
  rw [Int.add_comm, Int.add_mul_ediv_right _ _ (by omega), Int.ediv_eq_zero_of_lt h1.1 h1.2]
  omega
theorem Qus {s x : List Int} (h : ∀ d ∈ s, 1 ≤ d) (hl : x.length = s.length) (hx : ∀ i, i < s.length → 0 ≤ x.getD i 0 ∧ x.getD i 0 < s.getD i 0) : Xq s (Jw s x s.length) = x := by
 refine Qaa (by rw [Kz, hl]) fun j hj => ?_
 rw [Kz] at hj
 have e : (Xq s (Jw s x s.length)).getD j 0 = Qeq s (Jw s x s.length) j := by simp [Xq, List.getD, hj]
 have h1 := hx j hj
 rw [e, Qeq, Qum h hx (s.length - (j + 1)) (j + 1) (by omega)]
 show (Jw s x j * s.getD j 0 + x.getD j 0) % s.getD j 0 = _
 rw [Int.add_comm, Int.add_mul_emod_self_right, Int.emod_eq_of_lt h1.1 h1.2]
theorem Qqa {s : List Int} (h : ∀ d ∈ s, 1 ≤ d) {m : Int} (h0 : 0 ≤ m) (h1 : m < Qp s) : ∀ i : Nat, i ≤ s.length → Jw s (Xq s m) i = m / Qp (s.drop i)
 | 0, _ => by rw [List.drop_zero, Int.ediv_eq_zero_of_lt h0 h1]; rfl
 | i + 1, hi => by
  show Jw s (Xq s m) i * s.getD i 0 + (Xq s m).getD i 0 = _
  have e : (Xq s m).getD i 0 = Qeq s m i := by simp [Xq, List.getD, show i < s.length by omega]
  rw [Qqa h h0 h1 i (by omega), e, Qeq, ← Qk1 h (by omega : i < s.length)]
  exact Int.ediv_mul_add_emod _ _
theorem Qul {s : List Int} (h : ∀ d ∈ s, 1 ≤ d) {m : Int} (h0 : 0 ≤ m) (h1 : m < Qp s) : Jw s (Xq s m) s.length = m := by
 rw [Qqa h h0 h1 _ (Nat.le_refl _), List.drop_length];simp [Qp]
theorem Qrn {q : Tq} (hm : Yo q.shape = 0) (he : (q.el.length : Int) = Qp q.shape) (hn : ∀ r ∈ q.el, NmQ r) : Yy (Jq q) = 0 := by
 have hf : Zt (Jq q) = 0 := by
  show (if Yo q.shape ≠ 0 then Yo q.shape else if ((q.el.map Qz).length : Int) ≠ countP q.shape then 13 else 0) = 0
  have hc : countP q.shape = Qp q.shape := by rw [countP, if_pos hm]
  rw [hm, hc]; simp [he]
 rw [Yy, hf, if_neg (by decide), if_pos]
 rw [List.all_eq_true];intro x hx;simp only [Jq, List.mem_map] at hx;obtain ⟨r, hr, rfl⟩ := hx;rw [okR, Qei, hn r hr]
theorem CatOK.sum {tl : List Tn} {a : Nat} (h : CatOK tl a) {j : Nat} : ∀ k : Nat, j ≤ k → k ≤ tl.length → Qro tl a j ≤ Qro tl a k
 | 0, h1, _ => by rw [show j = 0 by omega]; exact Int.le_refl _
 | k + 1, h1, h2 => by
  by_cases he : j = k + 1
  ·rw [he]; exact Int.le_refl _
  ·have ih := h.sum (j := j) k (by omega) (by omega)
   have := (h.d (j := k) (by omega) h.ha).1
   show _ ≤ Qro tl a k + _
   omega
theorem Qzt {y : Ty} {e e' s' k : Nat} {v : V} {H : Qa} {xs : List Int} {p q : Int} {K : V → Qa → Prop} (h : Bv.Own e 1 H v k (ints xs)) (hk : k = xs.length) (hy : y.size = 1) (hb : 0 < y.bytes ∧ y.bytes ≤ 8) (hl : xs.length + 2 ≤ 17592186044416)
  (hK : ∀ v' H', Bv.Own e 1 H' v' (k + 2) (ints (xs ++ [p, q])) → Fr v H H' → kn v' = true ∧ cellsOf v' = [v'] ∧ Yr v' = true → K v' H') :
  Qan y e v (.ref H.length 0 2) (H ++ [some ⟨e', s', [.int .i64 p, .int .i64 q]⟩]) K := by
 rw [← hy] at h;refine Qhw h (by rw [hy]; rfl) (by simp [Yr]) (by omega) (by omega) (by have : (k + 2) * y.bytes ≤ (k + 2) * 8 := Nat.mul_le_mul_left _ hb.2; omega) (Qcc _) fun H' k1 k2 k3 => ?_
 rw [hy] at k1;exact hK _ H' (by rw [Qjd]; exact k1) k2 ⟨rfl, rfl, rfl⟩
theorem Xif {q : Tq} (hn : ∀ r ∈ q.el, NmQ r) (S : List Int) (g : List Int → List Int) : ∀ r ∈ (mvQ q S g).el, NmQ r := fun r hr => by
 simp only [mvQ, List.mem_map] at hr;obtain ⟨i, _, rfl⟩ := hr;rw [atG];split
 ·rename_i hz;by_cases hl : (Jj q.shape (g (Xq S (i : Nat)))).toNat < q.el.length
  ·exact hn _ (by simp [List.getD, hl])
  ·have : q.el.getD (Jj q.shape (g (Xq S (i : Nat)))).toNat q0 = q0 := by simp [List.getD, hl]
   rw [this, NmQ, Qa6]; exact Jd (.inl rfl)
 ·exact Qih 0
theorem Xew {q : Tq} {S : List Int} (hS : Yo S = 0) (g : List Int → List Int) : ((mvQ q S g).el.length : Int) = Qp (mvQ q S g).shape := by
 have := Zv (Xs hS).2.1
 show (((List.range (Qp S).toNat).map fun i => atG q (g (Xq S (i : Nat)))).length : Int) = Qp S
 rw [List.length_map, List.length_range]; omega
theorem Qkn {t : Tn} (hm : Yy t = 0) {S : List Int} (hS : Yo S = 0) (g : List Int → List Int) : mvT t S g = Jq (mvQ (Qao t) S g) ∧ Yy (mvT t S g) = 0 := by
 have hel := (Xw hm).2.2
 have hn : ∀ r ∈ (Qao t).el, NmQ r := fun r hr => by
  simp only [Qao, List.mem_map] at hr;obtain ⟨x, _, rfl⟩ := hr;exact Qkl x
 have e := Qps (Qao t) hn (by simpa [Qao] using hel) S g
 rw [Xf4 hm] at e;refine ⟨e, ?_⟩;rw [e];exact Qrn (q := mvQ (Qao t) S g) hS (Xew hS g) (Xif hn S g)
def Qsv (n : Nat) : List Int := (List.range n).map fun i : Nat => (i : Int)
theorem Qp7 {n j : Nat} (h : j < n) : (Qsv n).getD j 0 = j := by simp [Qsv, List.getD, h]
theorem Qec {p x : List Int} (hb : Zm p = true) {j : Nat} (hj : j < p.length) : ∀ k : Nat, j < k → k ≤ p.length → (Kc p x k).getD (p.getD j 0).toNat 0 = x.getD j 0
 | 0, h, _ => by omega
 | k + 1, h, hk => by
  have hp := (Jz p).1 hb
  rw [Kc]
  have hl := Zz p x k
  by_cases hjk : j = k
  ·subst hjk;obtain ⟨p1, p2, p3⟩ := hp j hj
   have h1 : (p.getD j 0).toNat < (Kc p x j).length := by rw [hl]; omega
   generalize (p.getD j 0).toNat = m at *;simp [List.getD, h1]
  ·have ih := Qec (x := x) hb hj k (by omega) (by omega)
   have h1 := hp k (by omega)
   have h2 := hp j hj
   have hne : (p.getD k 0).toNat ≠ (p.getD j 0).toNat := fun e => by
    obtain ⟨p1, p2, p3⟩ := h1;obtain ⟨r1, r2, r3⟩ := h2
    have := p3 j (by omega)
    omega
   generalize (p.getD k 0).toNat = m at *;generalize (p.getD j 0).toNat = m' at *;simp only [List.getD] at ih ⊢;rw [List.getElem?_set_ne hne]; exact ih
def Yj (p : List Int) : List Int := Kc p (Qsv p.length) p.length
theorem Yl (p : List Int) : (Yj p).length = p.length := Zz _ _ _
theorem Qm5 {p : List Int} (hb : Zm p = true) {j : Nat} (hj : j < p.length) : (Yj p).getD (p.getD j 0).toNat 0 = j := by
 rw [Yj, Qec hb hj _ hj (Nat.le_refl _), Qp7 hj]
theorem Qmd {p : List Int} (hb : Zm p = true) {d : Nat} (hd : d < p.length) : ∃ j, j < p.length ∧ p.getD j 0 = d := by
 have h1 := (Qpc p).1 hb d hd
 have h2 : (d : Int) ∈ p := List.count_pos_iff.1 (by omega)
 obtain ⟨j, hj, he⟩ := List.getElem_of_mem h2;exact ⟨j, hj, by simp [List.getD, hj, he]⟩
theorem Qr6 {p : List Int} (hb : Zm p = true) {d : Nat} (hd : d < p.length) : 0 ≤ (Yj p).getD d 0 ∧ (Yj p).getD d 0 < p.length ∧ p.getD ((Yj p).getD d 0).toNat 0 = d := by
 obtain ⟨j, hj, he⟩ := Qmd hb hd
 have h1 := Qm5 hb hj
 rw [he, Int.toNat_natCast] at h1;rw [h1, Int.toNat_natCast];exact ⟨by omega, by omega, he⟩
theorem Qd8 {p : List Int} (hb : Zm p = true) : Zm (Yj p) = true := by
 refine (Jz _).2 fun i hi => ?_
 rw [Yl] at hi;obtain ⟨h1, h2, h3⟩ := Qr6 hb hi;refine ⟨h1, by rw [Yl]; exact h2, fun k hk he => ?_⟩
 obtain ⟨h4, h5, h6⟩ := Qr6 hb (d := k) (by omega)
 rw [he] at h6;omega
theorem Qvn {p x : List Int} (hb : Zm p = true) (hx : x.length = p.length) : Kc p (Kc (Yj p) x (Yj p).length) p.length = x := by
 refine Qaa (by rw [Zz, hx]) fun j hj => ?_
 rw [Zz] at hj;obtain ⟨k, hk, he⟩ := Qmd hb hj
 have h1 := Qec (x := Kc (Yj p) x (Yj p).length) hb hk p.length hk (Nat.le_refl _)
 rw [he, Int.toNat_natCast] at h1
 have h2 := Qm5 hb hk
 rw [he, Int.toNat_natCast] at h2
 have h3 := Qec (p := Yj p) (x := x) (Qd8 hb) (j := j) (by rw [Yl]; exact hj) (Yj p).length (by rw [Yl]; exact hj) (Nat.le_refl _)
 rw [h2, Int.toNat_natCast] at h3;rw [h1, h3]
theorem Qov {p s : List Int} (hb : Zm p = true) (hl : p.length = s.length) : Ze (Yj p) (Ze p s) = s := by
 refine Qaa (by rw [Ze, Yv, Yl, hl]) fun j hj => ?_
 rw [Ze, Yv, Yl] at hj;obtain ⟨h1, h2, h3⟩ := Qr6 hb hj;rw [Ze, Qbh (by rw [Yl]; exact hj), Ze, Qbh (by omega), h3, Int.toNat_natCast]
def Kg (s l : List Int) (m : Nat) : List Int := (List.range m).flatMap fun j => [l.getD (2 * j) 0, l.getD (2 * j) 0 + s.getD j 0]
theorem Qip (s l : List Int) (m : Nat) : Kg s l (m + 1) = Kg s l m ++ [l.getD (2 * m) 0, l.getD (2 * m) 0 + s.getD m 0] := by simp [Kg, List.range_succ]
theorem Qbp (s l : List Int) : ∀ m, (Kg s l m).length = 2 * m
 | 0 => rfl
 | m + 1 => by rw [Qip, List.length_append, Qbp s l m]; simp; omega
theorem Qcq (s l : List Int) : ∀ m j, j < m → (Kg s l m).getD (2 * j) 0 = l.getD (2 * j) 0 ∧ (Kg s l m).getD (2 * j + 1) 0 = l.getD (2 * j) 0 + s.getD j 0
 | 0, j, h => by omega
 | m + 1, j, h => by
  rw [Qip]
  have hl := Qbp s l m
  by_cases hj : j = m
  ·subst hj;simp only [List.getD];rw [List.getElem?_append_right (by omega), List.getElem?_append_right (by omega), hl, show 2 * j - 2 * j = 0 by omega, show 2 * j + 1 - 2 * j = 1 by omega]
   simp
  ·obtain ⟨h1, h2⟩ := Qcq s l m j (by omega)
   simp only [List.getD] at h1 h2 ⊢;rw [List.getElem?_append_left (by omega), List.getElem?_append_left (by omega)]
   exact ⟨h1, h2⟩
theorem Qm4 (p : List Int) (hb : Zm p = true) (hp : p.length ≤ 1000) : Val C 27 [.sl p.length (ints p)] (.sl (Yj p).length (ints (Yj p))) := by
 refine Val.ofRet (e := 3) (s := 1) ?_ (Qc _) (Zl _);refine Fc.keep (Fc.bodyT Qe Tryz.func27 w27 rfl Tryz.ntmps27 Tryz.results27 (zLe rfl) ?_)
 (apply Zo;repeat' ((with_reducible first|apply Zk|(first|apply Za|apply Zb|apply Zc|apply Zd)<;>intro h)<;>try simp -implicitDefEqProofs (maxSteps:=9^7) (disch:=first|omega|(simp only [Qb];omega)) only [go_sem]))
 refine Qb8 rfl rfl rfl rfl (by simp [t3bytes]) (by omega) ?_
 (apply Zo;repeat' ((with_reducible first|apply Zk|(first|apply Za|apply Zb|apply Zc|apply Zd)<;>intro h)<;>try simp -implicitDefEqProofs (maxSteps:=9^7) (disch:=first|omega|(simp only [Qb];omega)) only [go_sem]))
 refine Qf (fun n ts H => ∃ (k : Nat), (k ≤ p.length) ∧ (n = p.length - k) ∧ (Qd H 0 = some ⟨3, 1, ints (Kc p (Qsv p.length) k)⟩) ∧ ts.length = 36 ∧ nth ts 0 = .sl p.length (ints p) ∧ nth ts 3 = .ref 0 0 p.length ∧ nth ts 4 = .int .i64 (k : Nat)) ?_ (n := p.length) ?_
 ·skip
  rintro n ts H ⟨k, hk, hn, h0, hL, hs0, hs3, hs4⟩;refine Qv [(0, .sl p.length (ints p)), (3, .ref 0 0 p.length), (4, .int .i64 (k : Nat))] hL (by simp only [zFm, hs0, hs3, hs4, true_and]; exact zNm) ?_
  clear hL hs0 hs3 hs4 ts
  refine Qu Qe ?_;by_cases hc : k < p.length
  ·obtain ⟨b1, b2, -⟩ := (Jz p).1 hb k hc;obtain ⟨d, hd⟩ : ∃ d : Nat, p.getD k 0 = d := ⟨(p.getD k 0).toNat, by omega⟩
   have hl := Zz p (Qsv p.length) k
   have hst : (Kc p (Qsv p.length) k).set d (k : Int) = Kc p (Qsv p.length) (k + 1) := by rw [Kc, hd, Qp7 hc]; rfl
   (apply Zo;repeat' ((with_reducible first|apply Zk|(first|apply Za|apply Zb|apply Zc|apply Zd)<;>intro h)<;>try simp -implicitDefEqProofs (maxSteps:=9^7) (disch:=first|omega|(simp only [Qb];omega)) only [go_sem, hd, h0, Xu, hst]))
   exact ⟨p.length - (k + 1), by omega, k + 1, by omega, rfl, Qg h0, (by (repeat' apply And.intro) <;> (first | rfl | omega | (congr 1; omega) | assumption | (congr 1; assumption)))⟩
  ·have hks : k = p.length := by omega
   subst hks
   (apply Zo;repeat' ((with_reducible first|apply Zk|(first|apply Za|apply Zb|apply Zc|apply Zd)<;>intro h)<;>try simp -implicitDefEqProofs (maxSteps:=9^7) (disch:=first|omega|(simp only [Qb];omega)) only [go_sem]))
   rw [Yl];exact Own.ret (.inr ⟨0, rfl, h0, by simp [Zn, Zz]⟩) (fun g => Qy g _) fun v H h => h
 ·refine ⟨0, by omega, rfl, ?_, rfl, rfl, rfl, rfl⟩
  rw [Kc, ← Qfy]; rfl
theorem Qej (s l : List Int) (hl : l.length = 2 * s.length) (hs : s.length ≤ 1000) (h1 : ∀ j, j < s.length → 1 ≤ s.getD j 0 ∧ s.getD j 0 ≤ 1024) (h2 : ∀ j, j < s.length → 0 ≤ l.getD (2 * j) 0 ∧ l.getD (2 * j) 0 ≤ 1024) : Val C 30 [.sl s.length (ints s), .sl l.length (ints l)] (.sl (Kg s l s.length).length (ints (Kg s l s.length))) := by
 refine Val.ofRet (e := 3) (s := 1) ?_ (Qc _) (Zl _);refine Fc.keep (Fc.bodyT Qe Tryz.func30 w30 rfl Tryz.ntmps30 Tryz.results30 (zLe rfl) ?_)
 (apply Zo;repeat' ((with_reducible first|apply Zk|(first|apply Za|apply Zb|apply Zc|apply Zd)<;>intro h)<;>try simp -implicitDefEqProofs (maxSteps:=9^7) (disch:=first|omega|(simp only [Qb];omega)) only [go_sem]))
 refine Qf (fun n ts H => ∃ (k : Nat) (u : V), (k ≤ s.length) ∧ (n = s.length - k) ∧ (Bv.Own 3 1 H u (2 * k) (ints (Kg s l k))) ∧ ts.length = 32 ∧ nth ts 0 = .sl s.length (ints s) ∧ nth ts 1 = .sl l.length (ints l) ∧ nth ts 5 = u ∧ nth ts 6 = .int .i64 (k : Nat)) ?_ (n := s.length) ?_
 ·skip
  rintro n ts H ⟨k, u, hk, hn, hu, hL, hs0, hs1, hs5, hs6⟩;refine Qv [(0, .sl s.length (ints s)), (1, .sl l.length (ints l)), (5, u), (6, .int .i64 (k : Nat))] hL (by simp only [zFm, hs0, hs1, hs5, hs6, true_and]; exact zNm) ?_
  clear hL hs0 hs1 hs5 hs6 ts
  refine Qu Qe ?_;obtain ⟨a1, a2, a3⟩ := Xh7 hu;by_cases hc : k < s.length
  ·obtain ⟨c1, c2⟩ := h1 k hc;obtain ⟨d1, d2⟩ := h2 k hc
   have hcl := Qbp s l k
   have hcs := Qip s l k
   (apply Zo;repeat' ((with_reducible first|apply Zk|(first|apply Za|apply Zb|apply Zc|apply Zd)<;>intro h)<;>try simp -implicitDefEqProofs (maxSteps:=9^7) (disch:=first|omega|(simp only [Qb];omega)) only [go_sem, a1, a2, a3]))
   refine Qzt hu hcl.symm rfl ⟨by decide, by decide⟩ (by omega) fun u' H1 hu1 hF hk2 => ?_
   obtain ⟨b1, b2, b3⟩ := hk2;rw [← hcs] at hu1
   (apply Zo;repeat' ((with_reducible first|apply Zk|(first|apply Za|apply Zb|apply Zc|apply Zd)<;>intro h)<;>try simp -implicitDefEqProofs (maxSteps:=9^7) (disch:=first|omega|(simp only [Qb];omega)) only [go_sem, b1, b2, b3]))
   exact ⟨s.length - (k + 1), by omega, k + 1, u', by omega, rfl, hu1, (by (repeat' apply And.intro) <;> (first | rfl | omega | (congr 1; omega) | assumption | (congr 1; assumption)))⟩
  ·have hks : k = s.length := by omega
   subst hks
   (apply Zo;repeat' ((with_reducible first|apply Zk|(first|apply Za|apply Zb|apply Zc|apply Zd)<;>intro h)<;>try simp -implicitDefEqProofs (maxSteps:=9^7) (disch:=first|omega|(simp only [Qb];omega)) only [go_sem, a1, a2, a3]))
   rw [Qbp];exact hu.ret (fun g => Qy g _) fun v H h => h
 ·exact ⟨0, .nil, by omega, rfl, Bv.Own.nil _ _ _, rfl, rfl, rfl, rfl, rfl⟩
theorem Qdw {t : Tn} {l : List Int} (h : Qbw t l = 0) : Yy t = 0 ∧ l.length = 2 * t.shape.length ∧ (∀ j, j < t.shape.length → 0 ≤ l.getD (2 * j) 0 ∧ l.getD (2 * j) 0 ≤ 1024) ∧ Yo (Qb6 l t.shape t.shape.length) = 0 := by
 rw [Qbw] at h;split at h
 ·contradiction
 split at h
 ·cases h
 split at h
 ·cases h
 split at h
 ·cases h
 rename_i h1 h2 h3 h4;refine ⟨by omega, by omega, fun j hj => ?_, h⟩
 have hb : Qno l = false := by simpa using h3
 have h5 := Qdx.1 hb (2 * j) (by omega)
 have hp : Qid l t.shape.length = true := by simpa using h4
 have h6 := Qgh.1 hp j hj
 omega
def bow (a b : List Nat) : Nat → Nat
 | 0 => 0
 | i + 1 => if Xm a (i : Nat) < Xm b (i : Nat) + bow a b i then 1 else 0
def dif (a b : List Nat) (i : Nat) : Nat := Xm a (i : Nat) + 4294967296 * bow a b (i + 1) - (Xm b (i : Nat) + bow a b i)
theorem Qtq (a b : List Nat) : ∀ i, bow a b i ≤ 1
 | 0 => by simp [bow]
 | i + 1 => by rw [bow]; split <;> omega
theorem Qn4 {a b : List Nat} (hA : Lim a) (hB : Lim b) (i : Nat) : dif a b i + (Xm b (i : Nat) + bow a b i) = Xm a (i : Nat) + 4294967296 * bow a b (i + 1) ∧ dif a b i < 4294967296 := by
 have h1 := Jm hA (i : Nat)
 have h2 := Jm hB (i : Nat)
 have h3 := Qtq a b i
 rw [dif]
 have e : bow a b (i + 1) = if Xm a (i : Nat) < Xm b (i : Nat) + bow a b i then 1 else 0 := rfl
 rw [e];split <;> omega
theorem Xar {a b : List Nat} (hA : Lim a) (hB : Lim b) : ∀ n, lv B32 (XS (dif a b) n) + lv B32 (XS (fun i => Xm b (i : Int)) n) = lv B32 (XS (fun i => Xm a (i : Int)) n) + B32 ^ n * bow a b n
 | 0 => by simp [XS, lv, bow]
 | n + 1 => by
  have ih := Xar hA hB n
  have h := (Qn4 hA hB n).1
  rw [Qb3, Qb3, Qb3, Nat.pow_succ]
  have e : B32 ^ n * dif a b n + B32 ^ n * Xm b (n : Nat) + B32 ^ n * bow a b n = B32 ^ n * Xm a (n : Nat) + B32 ^ n * B32 * bow a b (n + 1) := by
   rw [← Nat.mul_add, ← Nat.mul_add, Nat.mul_assoc, ← Nat.mul_add, Nat.add_assoc];exact congrArg _ h
  omega
theorem Qso (b : List Nat) (n : Nat) : lv B32 (XS (fun i => Xm b (i : Int)) n) = lv B32 (b.take n) := by
 by_cases h : b.length ≤ n
 ·rw [Qd0 b n h, List.take_of_length_le h]
 ·have := Qd0 (b := B32) (b.take n) n (by rw [List.length_take]; omega)
  rw [← this]
  congr 1
  refine List.map_congr_left fun i hi => ?_
  have hi := List.mem_range.1 hi
  simp [Xm, List.getD, List.getElem?_take, hi]
theorem Km (b : List Nat) (n : Nat) : lv B32 b = lv B32 (b.take n) + B32 ^ n * lv B32 (b.drop n) := by
 by_cases h : n ≤ b.length
 ·have := Qd1 B32 (b.take n) (b.drop n)
  rw [List.take_append_drop, List.length_take, Nat.min_eq_left h] at this;exact this
 ·rw [List.take_of_length_le (by omega), List.drop_of_length_le (by omega)]; simp [lv]
theorem Xfr {a b : List Nat} (hA : Lim a) (hB : Lim b) (h : lv B32 b ≤ lv B32 a) : lv B32 (XS (dif a b) a.length) = lv B32 a - lv B32 b := by
 have h1 := Xar hA hB a.length
 rw [Qd0 a _ (Nat.le_refl _), Qso] at h1
 have h2 := Kf hA
 have h3 := Km b a.length
 have hL : Lim (XS (dif a b) a.length) := fun x hx => by
  simp only [XS, List.mem_map] at hx;obtain ⟨i, _, rfl⟩ := hx;exact (Qn4 hA hB i).2
 have h4 := Kf hL
 rw [Xcz] at h4
 have h5 : lv B32 (b.drop a.length) = 0 := by
  refine Nat.eq_zero_of_not_pos fun hp => ?_
  have : B32 ^ a.length * 1 ≤ B32 ^ a.length * lv B32 (b.drop a.length) := Nat.mul_le_mul_left _ hp
  omega
 rw [h5, Nat.mul_zero, Nat.add_zero] at h3
 have h6 := Qtq a b a.length
 have h7 : bow a b a.length = 0 ∨ bow a b a.length = 1 := by omega
 rcases h7 with h7 | h7
 ·rw [h7] at h1; omega
 ·rw [h7] at h1; omega
theorem Qvy (a b : List Nat) (i : Nat) (ha : a.length ≤ 17592186044416) (hb : b.length ≤ 17592186044416) (hA : Lim a) (hB : Lim b) (hi : i ≤ 17592186044416) (H : Qa) (h0 : Qd H 0 = some ⟨56, 1, [NA a]⟩) (h1 : Qd H 1 = some ⟨56, 1, [NA b]⟩) (h2 : Qd H 2 = some ⟨142, 1, [.int .u64 (bow a b i : Nat)]⟩) :
  Fc C 138 [.int .i64 (i : Nat), .ptr 0 0, .ptr 1 0, .ptr 2 0] H fun v H' => v = .int .u64 (dif a b i : Nat) ∧ H' = H.set 2 (some ⟨142, 1, [.int .u64 (bow a b (i + 1) : Nat)]⟩) := by
 have q1 := Jm hA (i : Nat)
 have q2 := Jm hB (i : Nat)
 have q3 := Qtq a b i
 have q4 := Qn4 hA hB i
 have e : bow a b (i + 1) = if Xm a (i : Nat) < Xm b (i : Nat) + bow a b i then 1 else 0 := rfl
 have hst : ∀ z : Row, Qd (H.set 2 (some z)) 2 = some z := fun z => Qg h2
 have l1 := Jl a (i : Nat) ha hA
 have l2 := Jl b (i : Nat) hb hB
 by_cases hlt : Xm a (i : Nat) < Xm b (i : Nat) + bow a b i
 ·rw [if_pos hlt] at e;generalize dif a b i = d at *;rw [e] at q4 ⊢;generalize Xm a (i : Nat) = x at *;generalize Xm b (i : Nat) = y at *;generalize bow a b i = c at *;refine Fc.bodyT Qe Tryz.func138 w138 rfl Tryz.ntmps138 Tryz.results138 (zLe rfl) ?_
  (apply Zo;repeat' ((with_reducible first|apply Zk|(first|apply Za|apply Zb|apply Zc|apply Zd)<;>intro h)<;>try simp -implicitDefEqProofs (maxSteps:=9^7) (disch:=first|omega|(simp only [Qb];omega)) only [go_sem, h0, h1, h2]))
  refine Pc.pure l1 (by simp [Qi, clo, Xl, Qk]) (fun g => rfl) ?_
  (apply Zo;repeat' ((with_reducible first|apply Zk|(first|apply Za|apply Zb|apply Zc|apply Zd)<;>intro h)<;>try simp -implicitDefEqProofs (maxSteps:=9^7) (disch:=first|omega|(simp only [Qb];omega)) only [go_sem, h0, h1, h2]))
  refine Pc.pure l2 (by simp [Qi, clo, Xl, Qk]) (fun g => rfl) ?_
  (apply Zo;repeat' ((with_reducible first|apply Zk|(first|apply Za|apply Zb|apply Zc|apply Zd)<;>intro h)<;>try simp -implicitDefEqProofs (maxSteps:=9^7) (disch:=first|omega|(simp only [Qb];omega)) only [go_sem, h0, h1, h2, hst]))
  exact ⟨by congr 1; omega, rfl⟩
 ·rw [if_neg hlt] at e;generalize dif a b i = d at *;rw [e] at q4 ⊢;generalize Xm a (i : Nat) = x at *;generalize Xm b (i : Nat) = y at *;generalize bow a b i = c at *;refine Fc.bodyT Qe Tryz.func138 w138 rfl Tryz.ntmps138 Tryz.results138 (zLe rfl) ?_
  (apply Zo;repeat' ((with_reducible first|apply Zk|(first|apply Za|apply Zb|apply Zc|apply Zd)<;>intro h)<;>try simp -implicitDefEqProofs (maxSteps:=9^7) (disch:=first|omega|(simp only [Qb];omega)) only [go_sem, h0, h1, h2]))
  refine Pc.pure l1 (by simp [Qi, clo, Xl, Qk]) (fun g => rfl) ?_
  (apply Zo;repeat' ((with_reducible first|apply Zk|(first|apply Za|apply Zb|apply Zc|apply Zd)<;>intro h)<;>try simp -implicitDefEqProofs (maxSteps:=9^7) (disch:=first|omega|(simp only [Qb];omega)) only [go_sem, h0, h1, h2]))
  refine Pc.pure l2 (by simp [Qi, clo, Xl, Qk]) (fun g => rfl) ?_
  (apply Zo;repeat' ((with_reducible first|apply Zk|(first|apply Za|apply Zb|apply Zc|apply Zd)<;>intro h)<;>try simp -implicitDefEqProofs (maxSteps:=9^7) (disch:=first|omega|(simp only [Qb];omega)) only [go_sem, h0, h1, h2, hst]))
  exact ⟨by congr 1; omega, rfl⟩
theorem Qy5 (a b : List Nat) (ha : a.length ≤ 8796093022208) (hb : b.length ≤ 8796093022208) (hA : Lim a) (hB : Lim b) (h : lv B32 b ≤ lv B32 a) : Val C 117 [NA a, NA b] (.tup [Ye (lv B32 a - lv B32 b), .int .i64 0]) := by
 have hc : ¬ Qal (lv B32 a) (lv B32 b) < 0 := by unfold Qal; split <;> (try split) <;> omega
 have hc2 : -1 ≤ Qal (lv B32 a) (lv B32 b) ∧ Qal (lv B32 a) (lv B32 b) ≤ 1 := by unfold Qal; split <;> (try split) <;> omega
 have hcv := Qn5 a b ha hb hA hB
 refine Fc.keep (Fc.bodyT Qe Tryz.func117 w117 rfl Tryz.ntmps117 Tryz.results117 (zLe rfl) ?_)
 (apply Zo;repeat' ((with_reducible first|apply Zk|(first|apply Za|apply Zb|apply Zc|apply Zd)<;>intro h)<;>try simp -implicitDefEqProofs (maxSteps:=9^7) (disch:=first|omega|(simp only [Qb];omega)) only [go_sem]))
 refine hcv.call ⟨.self (Xl _), .self (Xl _), trivial⟩ rfl ?_
 (apply Zo;repeat' ((with_reducible first|apply Zk|(first|apply Za|apply Zb|apply Zc|apply Zd)<;>intro h)<;>try simp -implicitDefEqProofs (maxSteps:=9^7) (disch:=first|omega|(simp only [Qb];omega)) only [go_sem]))
 have hg := Qfm (f := 138) (caps := [.ptr 0 0, .ptr 1 0, .ptr 2 0]) (st := some 2) (B := [some ⟨56, 1, [NA a]⟩, some ⟨56, 1, [NA b]⟩, some ⟨142, 1, [.int .u64 0]⟩]) (rs := fun i => ⟨142, 1, [.int .u64 (bow a b i : Nat)]⟩) (N := a.length) (xs := dif a b) (fun q hq => by injection hq with hq; subst hq; simp) (fun q hq => by injection hq with hq; subst hq; rfl) ha (fun i _ => by have := (Qn4 hA hB i).2; omega) (fun i hi H hk hs => Qvy a b i (by omega) (by omega) hA hB (by omega) H (hk 0 _ (by decide) rfl) (hk 1 _ (by decide) rfl) (hs 2 rfl))
 refine Fc.mono hg ?_;rintro v H' ⟨h1, h2, h3⟩
 have h1 : IsN v H' (lv B32 (XS (dif a b) a.length)) := h1
 rw [Xfr hA hB h] at h1
 (apply Zo;repeat' ((with_reducible first|apply Zk|(first|apply Za|apply Zb|apply Zc|apply Zd)<;>intro h)<;>try simp -implicitDefEqProofs (maxSteps:=9^7) (disch:=first|omega|(simp only [Qb];omega)) only [go_sem]))
 exact Gd.ret (Gd.tupL ⟨h1.gd, Gd.leaf _ rfl rfl, trivial⟩)
theorem Xg7 (a b : List Nat) (ha : a.length ≤ 8796093022208) (hb : b.length ≤ 8796093022208) (hA : Lim a) (hB : Lim b) (h : lv B32 a < lv B32 b) : Val C 117 [NA a, NA b] (.tup [Ye 0, .int .i64 20]) := by
 have hc : Qal (lv B32 a) (lv B32 b) < 0 := by unfold Qal; split <;> (try split) <;> omega
 have hcv := Qn5 a b ha hb hA hB
 refine Fc.keep (Fc.bodyT Qe Tryz.func117 w117 rfl Tryz.ntmps117 Tryz.results117 (zLe rfl) ?_)
 (apply Zo;repeat' ((with_reducible first|apply Zk|(first|apply Za|apply Zb|apply Zc|apply Zd)<;>intro h)<;>try simp -implicitDefEqProofs (maxSteps:=9^7) (disch:=first|omega|(simp only [Qb];omega)) only [go_sem]))
 refine hcv.call ⟨.self (Xl _), .self (Xl _), trivial⟩ rfl ?_
 (apply Zo;repeat' ((with_reducible first|apply Zk|(first|apply Za|apply Zb|apply Zc|apply Zd)<;>intro h)<;>try simp -implicitDefEqProofs (maxSteps:=9^7) (disch:=first|omega|(simp only [Qb];omega)) only [go_sem]))
 exact Gd.ret (Gd.tupL ⟨by rw [show Ye 0 = .sl 0 [] by simp [Ye, NA, Xv, Xa]]; exact .nil _, Gd.leaf _ rfl rfl, trivial⟩)
def car (a : List Nat) (m : Nat) : Nat → Nat
 | 0 => 0
 | i + 1 => (a.getD i 0 * m + car a m i) / 4294967296
def Qj7 (a : List Nat) (m up i : Nat) : Nat := if i < up then 0 else (Xm a ((i - up : Nat) : Int) * m + car a m (i - up)) % 4294967296
theorem Qtm {a : List Nat} {m : Nat} (hA : Lim a) (hm : m < 4294967296) : ∀ i, car a m i < 4294967296
 | 0 => by simp [car]
 | i + 1 => by
  have ih := Qtm hA hm i
  have h1 := hA.get i
  rw [car]
  have : a.getD i 0 * m ≤ 4294967295 * 4294967295 := Nat.mul_le_mul (by omega) (by omega)
  omega
theorem Xaq {a : List Nat} {m : Nat} : ∀ n, lv B32 (XS (fun j => (a.getD j 0 * m + car a m j) % 4294967296) n) + B32 ^ n * car a m n = m * lv B32 (XS (fun j => a.getD j 0) n)
 | 0 => by simp [XS, lv, car]
 | n + 1 => by
  have ih := Xaq (a := a) (m := m) n
  rw [Qb3, Qb3, Nat.pow_succ, Nat.mul_add m]
  have h : (a.getD n 0 * m + car a m n) % 4294967296 + 4294967296 * car a m (n + 1) = a.getD n 0 * m + car a m n := by rw [car]; exact Nat.mod_add_div _ _
  have e : B32 ^ n * ((a.getD n 0 * m + car a m n) % 4294967296) + B32 ^ n * B32 * car a m (n + 1) = B32 ^ n * (a.getD n 0 * m) + B32 ^ n * car a m n := by
   rw [Nat.mul_assoc, ← Nat.mul_add, ← Nat.mul_add];exact congrArg _ h
  have e2 : B32 ^ n * (a.getD n 0 * m) = m * (B32 ^ n * a.getD n 0) := by rw [Nat.mul_left_comm m, Nat.mul_comm m]
  omega
theorem Qud {a : List Nat} {m up : Nat} : ∀ k, lv B32 (XS (Qj7 a m up) (up + k)) = B32 ^ up * lv B32 (XS (fun j => (a.getD j 0 * m + car a m j) % 4294967296) k)
 | 0 => by
  have h : ∀ n, n ≤ up → lv B32 (XS (Qj7 a m up) n) = 0 := fun n => by
   induction n with
   | zero => intro _; simp [XS, lv]
   | succ n ih => intro hn; rw [Qb3, ih (by omega), Qj7, if_pos (by omega)]; simp
  rw [Nat.add_zero, h up (Nat.le_refl _)]; simp [XS, lv]
 | k + 1 => by
  rw [← Nat.add_assoc, Qb3, Qb3, Qud k, Qj7, if_neg (by omega), show up + k - up = k by omega, Nat.pow_add, Nat.mul_add, Nat.mul_assoc]
  simp [Xm]
theorem Xd7 {a : List Nat} {m up : Nat} (hm : m < 4294967296) (hA : Lim a) : lv B32 (XS (Qj7 a m up) (a.length + up + 1)) = B32 ^ up * (m * lv B32 a) := by
 rw [show a.length + up + 1 = up + (a.length + 1) by omega, Qud]
 have h1 := Xaq (a := a) (m := m) (a.length + 1)
 have h2 := Qtm hA hm a.length
 have h3 : car a m (a.length + 1) = 0 := by
  rw [car]
  have : a.getD a.length 0 = 0 := by simp [List.getD]
  rw [this]; omega
 have h4 := Qd0 (b := B32) a (a.length + 1) (by omega)
 have h5 : XS (fun i => Xm a (i : Int)) (a.length + 1) = XS (fun j => a.getD j 0) (a.length + 1) := List.map_congr_left fun i _ => by simp [Xm]
 rw [h5] at h4;rw [h3, Nat.mul_zero, Nat.add_zero, h4] at h1;rw [h1]
theorem Qwb (a : List Nat) (m up i : Nat) (ha : a.length ≤ 17592186044416) (hA : Lim a) (hm : m < 4294967296) (hu : up ≤ 17592186044416) (hi : i ≤ 35184372088832) (H : Qa) (h0 : Qd H 0 = some ⟨56, 1, [NA a]⟩) (h1 : Qd H 1 = some ⟨59, 1, [.int .u32 (m : Nat)]⟩) (h2 : Qd H 2 = some ⟨3, 1, [.int .i64 (up : Nat)]⟩) (h3 : Qd H 3 = some ⟨142, 1, [.int .u64 (car a m (i - up) : Nat)]⟩) :
  Fc C 160 [.int .i64 (i : Nat), .ptr 2 0, .ptr 0 0, .ptr 1 0, .ptr 3 0] H fun v H' => v = .int .u64 (Qj7 a m up i : Nat) ∧ H' = H.set 3 (some ⟨142, 1, [.int .u64 (car a m (i + 1 - up) : Nat)]⟩) := by
 have hst : ∀ z : Row, Qd (H.set 3 (some z)) 3 = some z := fun z => Qg h3
 by_cases hiu : i < up
 ·rw [Qj7, if_pos hiu, show i + 1 - up = i - up by omega]
  have hsame : H.set 3 (some ⟨142, 1, [.int .u64 (car a m (i - up) : Nat)]⟩) = H := by
   obtain ⟨k1, k2⟩ := List.getElem?_eq_some_iff.1 (Xn h3);rw [← k2]; exact List.set_getElem_self ..
  refine Fc.bodyT Qe Tryz.func160 w160 rfl Tryz.ntmps160 Tryz.results160 (zLe rfl) ?_
  (apply Zo;repeat' ((with_reducible first|apply Zk|(first|apply Za|apply Zb|apply Zc|apply Zd)<;>intro h)<;>try simp -implicitDefEqProofs (maxSteps:=9^7) (disch:=first|omega|(simp only [Qb];omega)) only [go_sem, h2]))
  exact ⟨rfl, hsame.symm⟩
 ·rw [Qj7, if_neg hiu];obtain ⟨j, rfl⟩ : ∃ j, i = up + j := ⟨i - up, by omega⟩
  rw [show up + j - up = j by omega] at h3 ⊢
  rw [show up + j + 1 - up = j + 1 by omega]
  have hl := Jl a ((j : Nat) : Int) ha hA
  have q1 := Jm hA (j : Nat)
  have q2 := Qtm hA hm j
  have hx : Xm a ((j : Nat) : Int) * m ≤ 4294967295 * 4294967295 := Nat.mul_le_mul (by omega) (by omega)
  have e1 : car a m (j + 1) = (Xm a ((j : Nat) : Int) * m + car a m j) / 4294967296 := by rw [car]; simp [Xm]
  have hs : ∀ x : Nat, (x : Int).fdiv (2 ^ min 32 64) = ((x / 4294967296 : Nat) : Int) := fun x => Qar x 32
  have ei : (((up + j : Nat) : Int) - (up : Int)) = (j : Nat) := by omega
  rw [e1];generalize Xm a ((j : Nat) : Int) = x at *;generalize car a m j = c at *
  have hxm : ((x : Int) * (m : Int)) = ((x * m : Nat) : Int) := by simp
  have hxc : (((x * m : Nat) : Int) + (c : Int)) = ((x * m + c : Nat) : Int) := by simp
  have hmk := Qnq (x * m + c) (by omega)
  generalize hy : x * m = y at *;refine Fc.bodyT Qe Tryz.func160 w160 rfl Tryz.ntmps160 Tryz.results160 (zLe rfl) ?_
  (apply Zo;repeat' ((with_reducible first|apply Zk|(first|apply Za|apply Zb|apply Zc|apply Zd)<;>intro h)<;>try simp -implicitDefEqProofs (maxSteps:=9^7) (disch:=first|omega|(simp only [Qb];omega)) only [go_sem, h0, h1, h2, h3, ei]))
  refine Pc.pure hl (by simp [Qi, clo, Xl, Qk]) (fun g => rfl) ?_
  (apply Zo;repeat' ((with_reducible first|apply Zk|(first|apply Za|apply Zb|apply Zc|apply Zd)<;>intro h)<;>try simp -implicitDefEqProofs (maxSteps:=9^7) (disch:=first|omega|(simp only [Qb];omega)) only [go_sem, h0, h1, h2, h3, hst, hxm, hxc, hs]))
  exact congrArg (fun n : Nat => V.int .u64 (n : Int)) hmk
theorem Qzl (a : List Nat) (m up : Nat) (ha : a.length ≤ 4398046511103) (hA : Lim a) (hm : m < 4294967296) (hu : up ≤ 4398046511103) : Fc C 135 [NA a, .int .u32 (m : Nat), .int .i64 (up : Nat)] [] fun v H => Qjr v H (B32 ^ up * (m * lv B32 a)) := by
 refine Fc.keep (Fc.bodyT Qe Tryz.func135 w135 rfl Tryz.ntmps135 Tryz.results135 (zLe rfl) ?_)
 (apply Zo;repeat' ((with_reducible first|apply Zk|(first|apply Za|apply Zb|apply Zc|apply Zd)<;>intro h)<;>try simp -implicitDefEqProofs (maxSteps:=9^7) (disch:=first|omega|(simp only [Qb];omega)) only [go_sem]))
 have e : ((a.length : Int) + (up : Int) + 1) = ((a.length + up + 1 : Nat) : Int) := by omega
 have hg := Qfm (f := 160) (caps := [.ptr 2 0, .ptr 0 0, .ptr 1 0, .ptr 3 0]) (st := some 3) (B := [some ⟨56, 1, [NA a]⟩, some ⟨59, 1, [.int .u32 (m : Nat)]⟩, some ⟨3, 1, [.int .i64 (up : Nat)]⟩, some ⟨142, 1, [.int .u64 0]⟩]) (rs := fun i => ⟨142, 1, [.int .u64 (car a m (i - up) : Nat)]⟩) (N := a.length + up + 1) (xs := Qj7 a m up) (fun q hq => by injection hq with hq; subst hq; simp) (fun q hq => by injection hq with hq; subst hq; simp only [Nat.zero_sub]; rfl) (by omega) (fun i _ => by
  rw [Qj7];split
  ·omega
  ·have := Nat.mod_lt (Xm a ((i - up : Nat) : Int) * m + car a m (i - up)) (show 0 < 4294967296 by decide)
   omega) (fun i hi H hk hs => Qwb a m up i (by omega) hA hm (by omega) (by omega) H (hk 0 _ (by decide) rfl) (hk 1 _ (by decide) rfl) (hk 2 _ (by decide) rfl) (hs 3 rfl))
 rw [e];refine Fc.mono hg ?_;rintro v H' ⟨h1, h2, h3⟩
 have h1 : IsN v H' (lv B32 (XS (Qj7 a m up) (a.length + up + 1))) := h1
 rw [Xd7 hm hA] at h1
 (apply Zo;repeat' ((with_reducible first|apply Zk|(first|apply Za|apply Zb|apply Zc|apply Zd)<;>intro h)<;>try simp -implicitDefEqProofs (maxSteps:=9^7) (disch:=first|omega|(simp only [Qb];omega)) only [go_sem]))
 exact h1.ret
theorem Xe0 (b : List Nat) {k : Nat} (hk : k < b.length) : lv B32 (b.take (k + 1)) = lv B32 (b.take k) + B32 ^ k * b.getD k 0 := by
 have e : b.take (k + 1) = b.take k ++ [b.getD k 0] := by rw [List.take_add_one]; simp [List.getD, hk]
 rw [e, Ke, List.length_take, Nat.min_eq_left (by omega)]
theorem Kl {b : List Nat} (hB : Lim b) (k : Nat) : lv B32 (b.take k) < B32 ^ k := by
 have h1 := Kf (fun x hx => hB x (List.mem_of_mem_take hx) : Lim (b.take k))
 exact Nat.lt_of_lt_of_le h1 (Nat.pow_le_pow_right (by decide) (by rw [List.length_take]; omega))
theorem Qgp {x y m n : Nat} (hx : x < B32 ^ m) (hy : y < B32 ^ n) : (dg B32 (x * y)).length ≤ m + n := Xe (by decide) _ _ (by
 rw [Nat.pow_add];by_cases h0 : x = 0
 ·subst h0; rw [Nat.zero_mul]; exact Nat.mul_pos (Nat.pow_pos (by decide)) (Nat.pow_pos (by decide))
 ·exact Nat.mul_lt_mul_of_lt_of_le hx (Nat.le_of_lt hy) (by omega))
theorem Xam (a b : List Nat) (ha : a.length ≤ 1000000000000) (hb : b.length ≤ 1000000000000) (hA : Lim a) (hB : Lim b) : Pu C 114 [NA a, NA b] (Ye (lv B32 a * lv B32 b)) := by
 refine Pu.ofBor (Xi _) ?_;refine Fc.bodyT Qe Tryz.func114 w114 rfl Tryz.ntmps114 Tryz.results114 (zLe rfl) ?_
 (apply Zo;repeat' ((with_reducible first|apply Zk|(first|apply Za|apply Zb|apply Zc|apply Zd)<;>intro h)<;>try simp -implicitDefEqProofs (maxSteps:=9^7) (disch:=first|omega|(simp only [Qb];omega)) only [go_sem]))
 refine Qf (fun n ts H => ∃ (k : Nat) (u : V), (k ≤ b.length) ∧ ((u = .nil ∧ k = 0) ∨ u = Ye (lv B32 a * lv B32 (b.take k))) ∧ (H = []) ∧ (n = b.length - k) ∧ ts.length = 23 ∧ nth ts 0 = NA a ∧ nth ts 5 = u ∧ nth ts 8 = NA b ∧ nth ts 9 = .int .i64 b.length ∧ nth ts 10 = .int .i64 (k : Nat)) ?_ (n := b.length) ?_
 ·skip
  rintro n ts H ⟨k, u, hk, hu, hH, hn, hL, hs0, hs5, hs8, hs9, hs10⟩;refine Qv [(0, NA a), (5, u), (8, NA b), (9, .int .i64 b.length), (10, .int .i64 (k : Nat))] hL (by simp only [zFm, hs0, hs5, hs8, hs9, hs10, true_and]; exact zNm) ?_
  clear hL hs0 hs5 hs8 hs9 hs10 ts
  refine Qu Qe ?_;subst hH;by_cases hkl : k < b.length
  ·have hbk := hB.get k
   have hrow := Qzl a (b.getD k 0) k (by omega) hA hbk (by omega)
   have hlt := Kl hB k
   have hla := Kf hA
   have hd1 := Qgp hla hlt
   have hd2 : (dg B32 (B32 ^ k * (b.getD k 0 * lv B32 a))).length ≤ k + 1 + a.length + 1 := by
    have h1 : b.getD k 0 * lv B32 a < B32 ^ (a.length + 1) := by
     rw [Nat.pow_succ, Nat.mul_comm];by_cases h0 : b.getD k 0 = 0
     ·rw [h0, Nat.mul_zero]; exact Nat.mul_pos (Nat.pow_pos (by decide)) (by decide)
     ·exact Nat.mul_lt_mul_of_lt_of_le hla (by simp only [B32]; omega) (by decide)
    have h2 := Qgp (x := B32 ^ k) (m := k + 1) (Nat.pow_lt_pow_right (by decide) (by omega)) h1
    omega
   have hadd := Qrd (dg B32 (lv B32 a * lv B32 (b.take k))) (dg B32 (B32 ^ k * (b.getD k 0 * lv B32 a))) (by omega) (by omega) (Xp _) (Xp _)
   rw [Xf, Xf] at hadd
   have hs : lv B32 a * lv B32 (b.take k) + B32 ^ k * (b.getD k 0 * lv B32 a) = lv B32 a * lv B32 (b.take (k + 1)) := by
    rw [Xe0 b hkl, Nat.mul_add]
    congr 1
    rw [Nat.mul_left_comm, Nat.mul_comm (b.getD k 0), Nat.mul_comm (B32 ^ k), Nat.mul_assoc]
   rw [hs] at hadd
   have hbu : Bor [] u (Ye (lv B32 a * lv B32 (b.take k))) := by
    rcases hu with ⟨rfl, rfl⟩ | rfl
    ·rw [show Ye (lv B32 a * lv B32 (b.take 0)) = .sl 0 [] by simp [Ye, NA, Xv, Xa, lv]]; exact .nil _
    ·exact .self (Xi _)
   (apply Zo;repeat' ((with_reducible first|apply Zk|(first|apply Za|apply Zb|apply Zc|apply Zd)<;>intro h)<;>try simp -implicitDefEqProofs (maxSteps:=9^7) (disch:=first|omega|(simp only [Qb];omega)) only [go_sem]))
   refine Fc.byN hrow ⟨.self (Xl _), .self rfl, .self rfl, trivial⟩ ?_
   (apply Zo;repeat' ((with_reducible first|apply Zk|(first|apply Za|apply Zb|apply Zc|apply Zd)<;>intro h)<;>try simp -implicitDefEqProofs (maxSteps:=9^7) (disch:=first|omega|(simp only [Qb];omega)) only [go_sem]))
   refine Fc.byN hadd ⟨hbu, .self (Xi _), trivial⟩ ?_
   (apply Zo;repeat' ((with_reducible first|apply Zk|(first|apply Za|apply Zb|apply Zc|apply Zd)<;>intro h)<;>try simp -implicitDefEqProofs (maxSteps:=9^7) (disch:=first|omega|(simp only [Qb];omega)) only [go_sem]))
   exact ⟨b.length - (k + 1), by omega, k + 1, _, by omega, .inr rfl, rfl, rfl, (by (repeat' apply And.intro) <;> (first | rfl | omega | (congr 1; omega) | assumption | (congr 1; assumption)))⟩
  ·have hks : k = b.length := by omega
   subst hks;rw [List.take_length] at hu
   (apply Zo;repeat' ((with_reducible first|apply Zk|(first|apply Za|apply Zb|apply Zc|apply Zd)<;>intro h)<;>try simp -implicitDefEqProofs (maxSteps:=9^7) (disch:=first|omega|(simp only [Qb];omega)) only [go_sem]))
   rcases hu with ⟨rfl, hb0⟩ | rfl
   ·have : b = [] := List.eq_nil_of_length_eq_zero hb0
    subst this
    show Bor [] V.nil (Ye (lv B32 a * lv B32 []))
    rw [show Ye (lv B32 a * lv B32 []) = .sl 0 [] by simp [Ye, NA, Xv, Xa, lv]]
    exact .nil _
   ·exact .self (Xi _)
 ·exact ⟨0, .nil, by omega, .inl ⟨rfl, rfl⟩, rfl, rfl, rfl, rfl, rfl, rfl, rfl, rfl⟩
def B12 (x : Nat) : Prop := (dg B32 x).length ≤ 100000000000
def Qik (r s : Rq) : Rq := (Jk (r.neg != s.neg) (r.num * s.num) (r.den * s.den)).1
def Xh : List Raw → Rq
 | l => l.foldl (fun out x => Qik out (Xc x)) (Zh 1)
theorem Qr1 (l : List Raw) (x : Raw) : Xh (l ++ [x]) = Qik (Xh l) (Xc x) := by simp [Xh, List.foldl_append]
theorem Qfb (x y : Nat) (hx : B12 x) (hy : B12 y) : Pu C 114 [Ye x, Ye y] (Ye (x * y)) := by
 have hx : (dg B32 x).length ≤ 100000000000 := hx
 have hy : (dg B32 y).length ≤ 100000000000 := hy
 have := Xam (dg B32 x) (dg B32 y) (by omega) (by omega) (Xp _) (Xp _)
 rwa [Xf, Xf] at this
theorem Qac (x y : Nat) : (dg B32 (x * y)).length ≤ (dg B32 x).length + (dg B32 y).length := Qgp (Yh (by decide) x) (Yh (by decide) y)
theorem Qlr (l : List Raw) (hl : l.length ≤ 1000) (hok : ∀ x ∈ l, RawOK x) (hb : ∀ k, k ≤ l.length → B12 (Xh (l.take k)).num ∧ B12 (Xh (l.take k)).den) : Pu C 100 [.sl l.length (Xd l)] (Qc2 (Xh l)) := by
 refine Pu.ofBor (Qw (Qz (Xh l))) ?_;refine Fc.bodyT Qe Tryz.func100 w100 rfl Tryz.ntmps100 Tryz.results100 (zLe rfl) ?_
 (apply Zo;repeat' ((with_reducible first|apply Zk|(first|apply Za|apply Zb|apply Zc|apply Zd)<;>intro h)<;>try simp -implicitDefEqProofs (maxSteps:=9^7) (disch:=first|omega|(simp only [Qb];omega)) only [go_sem]))
 refine (Qns 1 (by decide) (by decide)).call ⟨.self rfl, trivial⟩ (Qw (Qz (Zh 1))) ?_
 (apply Zo;repeat' ((with_reducible first|apply Zk|(first|apply Za|apply Zb|apply Zc|apply Zd)<;>intro h)<;>try simp -implicitDefEqProofs (maxSteps:=9^7) (disch:=first|omega|(simp only [Qb];omega)) only [go_sem]))
 refine Qf (fun n ts H => ∃ (k : Nat), (k ≤ l.length) ∧ (n = l.length - k) ∧ (Qd H 0 = some ⟨58, 3, [.bool false, .nil, .nil]⟩) ∧ (Qd H 1 = some ⟨58, 3, [.bool (Xh (l.take k)).neg, Ye (Xh (l.take k)).num, Ye (Xh (l.take k)).den]⟩) ∧ ts.length = 36 ∧ nth ts 2 = .ptr 0 0 ∧ nth ts 3 = .ptr 1 0 ∧ nth ts 7 = .sl l.length (Xd l) ∧ nth ts 8 = .int .i64 l.length ∧ nth ts 9 = .int .i64 (k : Nat)) ?_ (n := l.length) ?_
 ·skip
  rintro n ts H ⟨k, hk, hn, h0, h1, hL, hs2, hs3, hs7, hs8, hs9⟩;refine Qv [(2, .ptr 0 0), (3, .ptr 1 0), (7, .sl l.length (Xd l)), (8, .int .i64 l.length), (9, .int .i64 (k : Nat))] hL (by simp only [zFm, hs2, hs3, hs7, hs8, hs9, true_and]; exact zNm) ?_
  clear hL hs2 hs3 hs7 hs8 hs9 ts
  refine Qu Qe ?_;by_cases hkl : k < l.length
  ·have hx := hok (l.getD k r0) (by simp [List.getD, hkl])
   have hs : Xh (l.take (k + 1)) = Qik (Xh (l.take k)) (Xc (l.getD k r0)) := by rw [Qh4 l r0 hkl, Qr1]
   obtain ⟨p1, p2⟩ := hb k hk;obtain ⟨v1, v2⟩ := Qe9 (l.getD k r0).neg (lv 4294967296 (l.getD k r0).num) (lv 4294967296 (l.getD k r0).den)
   have q1 : B12 (Xc (l.getD k r0)).num := by
    have := Xe (b := B32) (by decide) (Xc (l.getD k r0)).num (l.getD k r0).num.length (Nat.lt_of_le_of_lt v1 (Kf hx.nL))
    have := hx.n1
    show (dg B32 _).length ≤ _
    omega
   have q2 : B12 (Xc (l.getD k r0)).den := by
    have := hx.d1
    show (dg B32 _).length ≤ _
    rcases v2 with v2 | v2
    ·have := Xe (b := B32) (by decide) (Xc (l.getD k r0)).den (l.getD k r0).den.length (Nat.lt_of_le_of_lt v2 (Kf hx.dL))
     omega
    ·have e : (Xc (l.getD k r0)).den = 1 := v2
     have : (dg B32 1).length ≤ 1 := Xe (by decide) _ _ (by decide)
     rw [e]; omega
   have m1 := Qfb _ _ p1 q1
   have m2 := Qfb _ _ p2 q2
   have p1 : (dg B32 _).length ≤ _ := p1
   have p2 : (dg B32 _).length ≤ _ := p2
   have q1 : (dg B32 _).length ≤ _ := q1
   have q2 : (dg B32 _).length ≤ _ := q2
   have w1 := Qac (Xh (l.take k)).num (Xc (l.getD k r0)).num
   have w2 := Qac (Xh (l.take k)).den (Xc (l.getD k r0)).den
   have mk := Qim ((Xh (l.take k)).neg != (Xc (l.getD k r0)).neg) (dg B32 ((Xh (l.take k)).num * (Xc (l.getD k r0)).num)) (dg B32 ((Xh (l.take k)).den * (Xc (l.getD k r0)).den)) (by omega) (by omega) (Xp _) (Xp _)
   rw [Xf, Xf] at mk
   have nv := Qe8 (l.getD k r0) hx
   have e1 : (Jk ((Xh (l.take k)).neg != (Xc (l.getD k r0)).neg) ((Xh (l.take k)).num * (Xc (l.getD k r0)).num) ((Xh (l.take k)).den * (Xc (l.getD k r0)).den)).1 = Xh (l.take (k + 1)) := hs.symm
   rw [e1] at mk;generalize (Jk ((Xh (l.take k)).neg != (Xc (l.getD k r0)).neg) ((Xh (l.take k)).num * (Xc (l.getD k r0)).num) ((Xh (l.take k)).den * (Xc (l.getD k r0)).den)).2 = er at *;generalize hP : Xh (l.take k) = P at *;generalize hP' : Xh (l.take (k + 1)) = P' at *;generalize hV : Xc (l.getD k r0) = R at *
   (apply Zo;repeat' ((with_reducible first|apply Zk|(first|apply Za|apply Zb|apply Zc|apply Zd)<;>intro h)<;>try simp -implicitDefEqProofs (maxSteps:=9^7) (disch:=first|omega|(simp only [Qb];omega)) only [go_sem]))
   refine nv.call ⟨.self (Qw _), trivial⟩ (Qw (Qz R)) ?_
   have hst : ∀ (x : Row), Qd (H ++ [some x]) H.length = some x := fun x => Yd _ _
   have hst2 : ∀ (x y : Row), Qd ((H ++ [some x]).set H.length (some y)) H.length = some y := fun x y => Qg (hst x)
   have g1 : ∀ Y, Qd (H ++ Y) 1 = _ := fun Y => Qj h1 Y
   have g0 : ∀ Y, Qd (H ++ Y) 0 = _ := fun Y => Qj h0 Y
   (apply Zo;repeat' ((with_reducible first|apply Zk|(first|apply Za|apply Zb|apply Zc|apply Zd)<;>intro h)<;>try simp -implicitDefEqProofs (maxSteps:=9^7) (disch:=first|omega|(simp only [Qb];omega)) only [go_sem, hst, hst2, g1]))
   refine Pc.pure m1 (by simp [Qi, clo, Qk, Xi]) (fun g => Ym _ _ (Xi _)) ?_
   (apply Zo;repeat' ((with_reducible first|apply Zk|(first|apply Za|apply Zb|apply Zc|apply Zd)<;>intro h)<;>try simp -implicitDefEqProofs (maxSteps:=9^7) (disch:=first|omega|(simp only [Qb];omega)) only [go_sem, hst, hst2, g1]))
   refine Pc.pure m2 (by simp [Qi, clo, Qk, Xi]) (fun g => Ym _ _ (Xi _)) ?_
   (apply Zo;repeat' ((with_reducible first|apply Zk|(first|apply Za|apply Zb|apply Zc|apply Zd)<;>intro h)<;>try simp -implicitDefEqProofs (maxSteps:=9^7) (disch:=first|omega|(simp only [Qb];omega)) only [go_sem, hst, hst2, g1]))
   refine mk.pc ⟨.self rfl, .self (Xl _), .self (Xl _), trivial⟩ (by simp [clo, Qi, Qw, Ky]) ?_
   have g11 : ∀ Y (z : Row), Qd ((H ++ Y).set 1 (some z)) 1 = some z := fun Y z => Qg (g1 Y)
   (apply Zo;repeat' ((with_reducible first|apply Zk|(first|apply Za|apply Zb|apply Zc|apply Zd)<;>intro h)<;>try simp -implicitDefEqProofs (maxSteps:=9^7) (disch:=first|omega|(simp only [Qb];omega)) only [go_sem, hst, hst2, g1, g11]))
   exact ⟨l.length - (k + 1), by omega, k + 1, by omega, rfl, by rw [Qh _ (by decide)]; exact g0 _, by rw [hP'], by congr 1⟩
  ·have hks : k = l.length := by omega
   subst hks;rw [List.take_length] at h1
   have hst : ∀ x : Row, Qd (H.set 0 (some x)) 0 = some x := fun x => Qg h0
   (apply Zo;repeat' ((with_reducible first|apply Zk|(first|apply Za|apply Zb|apply Zc|apply Zd)<;>intro h)<;>try simp -implicitDefEqProofs (maxSteps:=9^7) (disch:=first|omega|(simp only [Qb];omega)) only [go_sem, h1, h0, hst]))
   exact .self (Qw (Qz (Xh l)))
 ·exact ⟨0, by omega, rfl, rfl, rfl, rfl, rfl, rfl, rfl, rfl, rfl⟩
theorem Qdz (s : Bool) (p q : Nat) : (dg B32 (Jk s p q).1.num).length ≤ (dg B32 p).length ∧ (dg B32 (Jk s p q).1.den).length ≤ (dg B32 q).length + 1 := by
 have h1 : (dg B32 1).length ≤ 1 := Xe (by decide) _ _ (by decide)
 have h0 : (dg B32 0).length = 0 := by simp [Xv]
 rw [Jk];split
 ·simp only [h0]; omega
 ·obtain ⟨v1, v2⟩ := Qe9 s p q;refine ⟨Xe (by decide) _ _ (Nat.lt_of_le_of_lt v1 (Yh (by decide) p)), ?_⟩
  rcases v2 with v2 | v2
  ·have := Xe (b := B32) (by decide) (Jg s p q).den _ (Nat.lt_of_le_of_lt v2 (Yh (by decide) q))
   show (dg B32 (Jg s p q).den).length ≤ _
   omega
  ·show (dg B32 (Jg s p q).den).length ≤ _
   rw [v2]; omega
theorem Qex {x : Raw} (h : RawOK x) : (dg B32 (Xc x).num).length ≤ x.num.length ∧ (dg B32 (Xc x).den).length ≤ x.den.length + 1 := by
 obtain ⟨v1, v2⟩ := Qe9 x.neg (lv 4294967296 x.num) (lv 4294967296 x.den)
 have h1 : (dg B32 1).length ≤ 1 := Xe (by decide) _ _ (by decide)
 refine ⟨Xe (b := B32) (by decide) (Xc x).num x.num.length (Nat.lt_of_le_of_lt v1 (Kf h.nL)), ?_⟩
 rcases v2 with v2 | v2
 ·have := Xe (b := B32) (by decide) (Xc x).den x.den.length (Nat.lt_of_le_of_lt v2 (Kf h.dL))
  omega
 ·have e : (Xc x).den = 1 := v2
  rw [e]; omega
theorem Qib {x y : Raw} (hx : RawOK x) (hy : RawOK y) : ((dg B32 (Xh [x]).num).length ≤ x.num.length + 1 ∧ (dg B32 (Xh [x]).den).length ≤ x.den.length + 3) ∧ ((dg B32 (Xh [x, y]).num).length ≤ x.num.length + 1 + y.num.length ∧ (dg B32 (Xh [x, y]).den).length ≤ x.den.length + y.den.length + 5) := by
 have h1 : (dg B32 1).length ≤ 1 := Xe (by decide) _ _ (by decide)
 obtain ⟨a1, a2⟩ := Qex hx;obtain ⟨b1, b2⟩ := Qex hy
 have e1 : Xh [x] = Qik (Zh 1) (Xc x) := rfl
 have e2 : Xh [x, y] = Qik (Xh [x]) (Xc y) := rfl
 have n1 : (Zh 1).num = 1 := rfl
 have n2 : (Zh 1).den = 1 := rfl
 have c1 := Qdz ((Zh 1).neg != (Xc x).neg) ((Zh 1).num * (Xc x).num) ((Zh 1).den * (Xc x).den)
 have c2 := Qac (Zh 1).num (Xc x).num
 have c3 := Qac (Zh 1).den (Xc x).den
 rw [n1] at c2; rw [n2] at c3;rw [n1, n2] at c1
 have d : (dg B32 (Xh [x]).num).length ≤ x.num.length + 1 ∧ (dg B32 (Xh [x]).den).length ≤ x.den.length + 3 := by
  rw [e1, Qik, n1, n2]; omega
 refine ⟨d, ?_⟩
 have c4 := Qdz ((Xh [x]).neg != (Xc y).neg) ((Xh [x]).num * (Xc y).num) ((Xh [x]).den * (Xc y).den)
 have c5 := Qac (Xh [x]).num (Xc y).num
 have c6 := Qac (Xh [x]).den (Xc y).den
 rw [e2, Qik]; omega
theorem Qwc (x y : Raw) (hx : RawOK x) (hy : RawOK y) : Pu C 75 [Qa8 x, Qa8 y] (Qc2 (Xh [x, y])) := by
 have h1 : (dg B32 1).length ≤ 1 := Xe (by decide) _ _ (by decide)
 obtain ⟨⟨l1, l2⟩, l3, l4⟩ := Qib hx hy
 have x1 := hx.n1
 have x2 := hx.d1
 have y1 := hy.n1
 have y2 := hy.d1
 have hp := Qlr [x, y] (by simp) (fun z hz => by simp at hz; rcases hz with rfl | rfl <;> assumption) (fun k hk => by
  have hk : k = 0 ∨ k = 1 ∨ k = 2 := by simp at hk; omega
  rcases hk with rfl | rfl | rfl
  ·exact ⟨show (dg B32 1).length ≤ _ by omega, show (dg B32 1).length ≤ _ by omega⟩
  ·exact ⟨show (dg B32 (Xh [x]).num).length ≤ _ by omega, show (dg B32 (Xh [x]).den).length ≤ _ by omega⟩
  ·exact ⟨show (dg B32 (Xh [x, y]).num).length ≤ _ by omega, show (dg B32 (Xh [x, y]).den).length ≤ _ by omega⟩)
 have hp : Pu C 100 [.sl 2 [.bool x.neg, NA x.num, NA x.den, .bool y.neg, NA y.num, NA y.den]] (Qc2 (Xh [x, y])) := hp
 generalize Xh [x, y] = P at *;refine Pu.ofBor (Qw (Qz P)) ?_;refine Fc.bodyT Qe Tryz.func75 w75 rfl Tryz.ntmps75 Tryz.results75 (zLe rfl) ?_
 (apply Zo;repeat' ((with_reducible first|apply Zk|(first|apply Za|apply Zb|apply Zc|apply Zd)<;>intro h)<;>try simp -implicitDefEqProofs (maxSteps:=9^7) (disch:=first|omega|(simp only [Qb];omega)) only [go_sem]))
 refine Fc.sealed (r := 3) rfl (by simp [Qi, clo, Qk]) ?_
 simp only [szL, sz, if_true, List.drop_zero];refine Fc.pure hp (by simp [Qi, clo, Qk, Xl]) (fun g => Ym _ _ (Qw (Qz P))) ?_
 (apply Zo;repeat' ((with_reducible first|apply Zk|(first|apply Za|apply Zb|apply Zc|apply Zd)<;>intro h)<;>try simp -implicitDefEqProofs (maxSteps:=9^7) (disch:=first|omega|(simp only [Qb];omega)) only [go_sem]))
 exact .self (Qw (Qz P))
theorem Qv1 (x : Raw) : Pu C 99 [.agg [.bool false], Qa8 x] (Qa8 x) := by
 refine Pu.ofBor (Qw x) ?_;refine Fc.bodyT Qe Tryz.func99 w99 rfl Tryz.ntmps99 Tryz.results99 (zLe rfl) ?_
 (apply Zo;repeat' ((with_reducible first|apply Zk|(first|apply Za|apply Zb|apply Zc|apply Zd)<;>intro h)<;>try simp -implicitDefEqProofs (maxSteps:=9^7) (disch:=first|omega|(simp only [Qb];omega)) only [go_sem]))
 exact .self (Qw x)
theorem Xe3 (x y : Nat) : (dg B32 (x + y)).length ≤ (dg B32 x).length + (dg B32 y).length + 1 := Xe (by decide) _ _ (by
 have h1 := Yh (b := B32) (by decide) x
 have h2 := Yh (b := B32) (by decide) y
 have h3 : B32 ^ (dg B32 x).length ≤ B32 ^ ((dg B32 x).length + (dg B32 y).length) := Nat.pow_le_pow_right (by decide) (by omega)
 have h4 : B32 ^ (dg B32 y).length ≤ B32 ^ ((dg B32 x).length + (dg B32 y).length) := Nat.pow_le_pow_right (by decide) (by omega)
 rw [Nat.pow_succ]
 have h5 : B32 ^ ((dg B32 x).length + (dg B32 y).length) * 2 ≤ B32 ^ ((dg B32 x).length + (dg B32 y).length) * B32 := Nat.mul_le_mul_left _ (by decide)
 omega)
theorem Qjw (x y : Nat) : (dg B32 (x - y)).length ≤ (dg B32 x).length := Xe (by decide) _ _ (Nat.lt_of_le_of_lt (Nat.sub_le _ _) (Yh (by decide) x))
theorem Qkq (s : Bool) (p d : Nat) (hp : (dg B32 p).length ≤ 1000000000000) (hd : (dg B32 d).length ≤ 1000000000000) : Val C 115 [.bool s, Ye p, .rp [Ye d] 0] (Qc2 (Jk s p d).1) := by
 have mk := Qim s (dg B32 p) (dg B32 d) hp hd (Xp _) (Xp _)
 rw [Xf, Xf] at mk;generalize (Jk s p d).2 = er at *;generalize (Jk s p d).1 = R at *;refine Fc.keep (Fc.bodyT Qe Tryz.func115 w115 rfl Tryz.ntmps115 Tryz.results115 (zLe rfl) ?_)
 (apply Zo;repeat' ((with_reducible first|apply Zk|(first|apply Za|apply Zb|apply Zc|apply Zd)<;>intro h)<;>try simp -implicitDefEqProofs (maxSteps:=9^7) (disch:=first|omega|(simp only [Qb];omega)) only [go_sem]))
 refine mk.keptF ⟨.self rfl, .self (Xl _), .self (Xl _), trivial⟩ fun v X hv => ?_
 obtain ⟨w, e, rfl, hw, he⟩ := hv.tup2;obtain ⟨v1, v2, v3, rfl, hv1, hv2, hv3⟩ := hw.agg3;obtain ⟨k2, c2, s2⟩ := Yu hv2.gd;obtain ⟨k3, c3, s3⟩ := Yu hv3.gd
 have eb := hv1.gd.bool_inv
 subst eb;rw [he.gd.int_inv]
 (apply Zo;repeat' ((with_reducible first|apply Zk|(first|apply Za|apply Zb|apply Zc|apply Zd)<;>intro h)<;>try simp -implicitDefEqProofs (maxSteps:=9^7) (disch:=first|omega|(simp only [Qb];omega)) only [go_sem, k2, c2, s2, k3, c3, s3]))
 exact Gd.ret (Gd.aggL ⟨Qhn _, ((hv2.app _).set (q := 0) (by simp) _).gd, ((hv3.app _).set (q := 0) (by simp) _).gd, trivial⟩)
theorem Xf9 (p q : Nat) (hp : (dg B32 p).length ≤ 1000000000000) (hq : (dg B32 q).length ≤ 1000000000000) : Val C 116 [Ye p, Ye q] (Ye (p + q)) := by
 have := Qrd (dg B32 p) (dg B32 q) (by omega) (by omega) (Xp _) (Xp _)
 rw [Xf, Xf] at this;exact Val.ofN this
def Qf7 (r s : Rq) : Rq :=
 if r.neg = s.neg then (Jk r.neg (r.num * s.den + s.num * r.den) (r.den * s.den)).1
 else if s.num * r.den ≤ r.num * s.den then (Jk r.neg (r.num * s.den - s.num * r.den) (r.den * s.den)).1
 else (Jk s.neg (s.num * r.den - r.num * s.den) (r.den * s.den)).1
theorem Qy4 (x y : Raw) (hx : RawOK x) (hy : RawOK y) : Pu C 98 [Qa8 x, Qa8 y, .fn (.func 99) [.agg [.bool false]] []] (Qc2 (Qf7 (Xc x) (Xc y))) := by
 obtain ⟨a1, a2⟩ := Qex hx;obtain ⟨b1, b2⟩ := Qex hy
 have x1 := hx.n1
 have x2 := hx.d1
 have y1 := hy.n1
 have y2 := hy.d1
 have nx := Qe8 x hx
 have ny := Qe8 y hy
 have tk := Qv1 (Qz (Xc y))
 generalize Xc x = R at *;generalize Xc y = S at *
 have tk : Pu C 99 [.agg [.bool false], Qc2 S] (Qc2 S) := tk
 have m1 := Qfb R.num S.den (show (dg B32 _).length ≤ _ by omega) (show (dg B32 _).length ≤ _ by omega)
 have m2 := Qfb S.num R.den (show (dg B32 _).length ≤ _ by omega) (show (dg B32 _).length ≤ _ by omega)
 have m3 := Qfb R.den S.den (show (dg B32 _).length ≤ _ by omega) (show (dg B32 _).length ≤ _ by omega)
 have w1 := Qac R.num S.den
 have w2 := Qac S.num R.den
 have w3 := Qac R.den S.den
 rw [Qf7]
 have wa := Xe3 (R.num * S.den) (S.num * R.den)
 have wb := Qjw (R.num * S.den) (S.num * R.den)
 have wc := Qjw (S.num * R.den) (R.num * S.den)
 have av := Xf9 (R.num * S.den) (S.num * R.den) (by omega) (by omega)
 generalize R.num * S.den = p at *;generalize S.num * R.den = q at *;generalize R.den * S.den = d at *;refine Pu.ofBor (by split <;> (try split) <;> exact Qw (Qz _)) ?_
 refine Fc.bodyT Qe Tryz.func98 w98 rfl Tryz.ntmps98 Tryz.results98 (zLe rfl) ?_
 (apply Zo;repeat' ((with_reducible first|apply Zk|(first|apply Za|apply Zb|apply Zc|apply Zd)<;>intro h)<;>try simp -implicitDefEqProofs (maxSteps:=9^7) (disch:=first|omega|(simp only [Qb];omega)) only [go_sem]))
 refine RunU.now ?_
 (apply Zo;repeat' ((with_reducible first|apply Zk|(first|apply Za|apply Zb|apply Zc|apply Zd)<;>intro h)<;>try simp -implicitDefEqProofs (maxSteps:=9^7) (disch:=first|omega|(simp only [Qb];omega)) only [go_sem]))
 refine nx.pc ⟨.self (Qw _), trivial⟩ (Qw (Qz R)) ?_
 (apply Zo;repeat' ((with_reducible first|apply Zk|(first|apply Za|apply Zb|apply Zc|apply Zd)<;>intro h)<;>try simp -implicitDefEqProofs (maxSteps:=9^7) (disch:=first|omega|(simp only [Qb];omega)) only [go_sem]))
 refine ny.pc ⟨.self (Qw _), trivial⟩ (Qw (Qz S)) ?_
 (apply Zo;repeat' ((with_reducible first|apply Zk|(first|apply Za|apply Zb|apply Zc|apply Zd)<;>intro h)<;>try simp -implicitDefEqProofs (maxSteps:=9^7) (disch:=first|omega|(simp only [Qb];omega)) only [go_sem]))
 refine Pc.pure tk (by simp [Qi, clo, Qk]) (fun g => Ym _ _ (Qw (Qz S))) ?_
 (apply Zo;repeat' ((with_reducible first|apply Zk|(first|apply Za|apply Zb|apply Zc|apply Zd)<;>intro h)<;>try simp -implicitDefEqProofs (maxSteps:=9^7) (disch:=first|omega|(simp only [Qb];omega)) only [go_sem]))
 refine Pc.pure m1 (by simp [Qi, clo, Qk]) (fun g => Ym _ _ (Xi _)) ?_
 (apply Zo;repeat' ((with_reducible first|apply Zk|(first|apply Za|apply Zb|apply Zc|apply Zd)<;>intro h)<;>try simp -implicitDefEqProofs (maxSteps:=9^7) (disch:=first|omega|(simp only [Qb];omega)) only [go_sem]))
 refine Pc.pure m2 (by simp [Qi, clo, Qk]) (fun g => Ym _ _ (Xi _)) ?_
 (apply Zo;repeat' ((with_reducible first|apply Zk|(first|apply Za|apply Zb|apply Zc|apply Zd)<;>intro h)<;>try simp -implicitDefEqProofs (maxSteps:=9^7) (disch:=first|omega|(simp only [Qb];omega)) only [go_sem]))
 refine Fc.pure m3 (by simp [Qi, clo, Qk]) (fun g => Ym _ _ (Xi _)) ?_
 (apply Zo;repeat' ((with_reducible first|apply Zk|(first|apply Za|apply Zb|apply Zc|apply Zd)<;>intro h)<;>try simp -implicitDefEqProofs (maxSteps:=9^7) (disch:=first|omega|(simp only [Qb];omega)) only [go_sem]))
 ·have mv := Qkq R.neg (p + q) d (by omega) (by omega)
  have h' : R.neg = S.neg := by simpa using h
  rw [if_pos h'];generalize (Jk R.neg (p + q) d).1 = M at *;refine RunU.now ?_
  (apply Zo;repeat' ((with_reducible first|apply Zk|(first|apply Za|apply Zb|apply Zc|apply Zd)<;>intro h)<;>try simp -implicitDefEqProofs (maxSteps:=9^7) (disch:=first|omega|(simp only [Qb];omega)) only [go_sem]))
  refine av.pc ⟨.self (Xi _), .self (Xi _), trivial⟩ (Xi _) ?_
  (apply Zo;repeat' ((with_reducible first|apply Zk|(first|apply Za|apply Zb|apply Zc|apply Zd)<;>intro h)<;>try simp -implicitDefEqProofs (maxSteps:=9^7) (disch:=first|omega|(simp only [Qb];omega)) only [go_sem]))
  refine mv.pc (Qaz 5 (by simp [go_sem, Qb1, clo, Qi, Qd])) (Qw (Qz M)) ?_
  (apply Zo;repeat' ((with_reducible first|apply Zk|(first|apply Za|apply Zb|apply Zc|apply Zd)<;>intro h)<;>try simp -implicitDefEqProofs (maxSteps:=9^7) (disch:=first|omega|(simp only [Qb];omega)) only [go_sem]))
  exact .self (Qw (Qz M))
 ·have h' : ¬ R.neg = S.neg := by simpa using h
  rw [if_neg h'];by_cases hle : q ≤ p
  ·have sv := Qy5 (dg B32 p) (dg B32 q) (by omega) (by omega) (Xp _) (Xp _) (by rw [Xf, Xf]; exact hle)
   rw [Xf, Xf] at sv
   have mv := Qkq R.neg (p - q) d (by omega) (by omega)
   rw [if_pos hle];generalize (Jk R.neg (p - q) d).1 = M at *;refine sv.call ⟨.self (Xi _), .self (Xi _), trivial⟩ (by simp [clo, Qi, Xi]) ?_
   (apply Zo;repeat' ((with_reducible first|apply Zk|(first|apply Za|apply Zb|apply Zc|apply Zd)<;>intro h)<;>try simp -implicitDefEqProofs (maxSteps:=9^7) (disch:=first|omega|(simp only [Qb];omega)) only [go_sem]))
   refine mv.call (Qaz 5 (by simp [go_sem, Qb1, clo, Qi, Qd])) (Qw (Qz M)) ?_
   (apply Zo;repeat' ((with_reducible first|apply Zk|(first|apply Za|apply Zb|apply Zc|apply Zd)<;>intro h)<;>try simp -implicitDefEqProofs (maxSteps:=9^7) (disch:=first|omega|(simp only [Qb];omega)) only [go_sem]))
   exact .self (Qw (Qz M))
  ·have sv := Xg7 (dg B32 p) (dg B32 q) (by omega) (by omega) (Xp _) (Xp _) (by rw [Xf, Xf]; omega)
   have sw := Qy5 (dg B32 q) (dg B32 p) (by omega) (by omega) (Xp _) (Xp _) (by rw [Xf, Xf]; omega)
   rw [Xf, Xf] at sw
   have mv := Qkq S.neg (q - p) d (by omega) (by omega)
   rw [if_neg hle];generalize (Jk S.neg (q - p) d).1 = M at *;refine sv.call ⟨.self (Xi _), .self (Xi _), trivial⟩ (by simp [clo, Qi, Xi]) ?_
   (apply Zo;repeat' ((with_reducible first|apply Zk|(first|apply Za|apply Zb|apply Zc|apply Zd)<;>intro h)<;>try simp -implicitDefEqProofs (maxSteps:=9^7) (disch:=first|omega|(simp only [Qb];omega)) only [go_sem]))
   refine sw.call ⟨.self (Xi _), .self (Xi _), trivial⟩ (by simp [clo, Qi, Xi]) ?_
   (apply Zo;repeat' ((with_reducible first|apply Zk|(first|apply Za|apply Zb|apply Zc|apply Zd)<;>intro h)<;>try simp -implicitDefEqProofs (maxSteps:=9^7) (disch:=first|omega|(simp only [Qb];omega)) only [go_sem]))
   refine mv.call (Qaz 5 (by simp [go_sem, Qb1, clo, Qi, Qd])) (Qw (Qz M)) ?_
   (apply Zo;repeat' ((with_reducible first|apply Zk|(first|apply Za|apply Zb|apply Zc|apply Zd)<;>intro h)<;>try simp -implicitDefEqProofs (maxSteps:=9^7) (disch:=first|omega|(simp only [Qb];omega)) only [go_sem]))
   exact .self (Qw (Qz M))
theorem Qwi (x y : Raw) (hx : RawOK x) (hy : RawOK y) : Pu C 74 [Qa8 x, Qa8 y] (Qc2 (Qf7 (Xc x) (Xc y))) := by
 have hs := Qy4 x y hx hy
 generalize Qf7 (Xc x) (Xc y) = M at *;refine Pu.ofBor (Qw (Qz M)) ?_;refine Fc.bodyT Qe Tryz.func74 w74 rfl Tryz.ntmps74 Tryz.results74 (zLe rfl) ?_
 (apply Zo;repeat' ((with_reducible first|apply Zk|(first|apply Za|apply Zb|apply Zc|apply Zd)<;>intro h)<;>try simp -implicitDefEqProofs (maxSteps:=9^7) (disch:=first|omega|(simp only [Qb];omega)) only [go_sem]))
 refine Fc.pure hs (by simp [Qi, clo, Qk]) (fun g => Ym _ _ (Qw (Qz M))) ?_
 (apply Zo;repeat' ((with_reducible first|apply Zk|(first|apply Za|apply Zb|apply Zc|apply Zd)<;>intro h)<;>try simp -implicitDefEqProofs (maxSteps:=9^7) (disch:=first|omega|(simp only [Qb];omega)) only [go_sem]))
 exact .self (Qw (Qz M))
def Kq (a b : Tn) : Nat → Rq
 | 0 => Zh 0
 | k + 1 => Qf7 (Xc (Qz (Kq a b k))) (Xc (Qz (Xh [a.el.getD k r0, b.el.getD k r0])))
theorem Qqf (a b : Tn) (ha : TnOK a) (hb : TnOK b) (ma : Yy a = 0) (mb : Yy b = 0) (hs : a.shape = b.shape) (hD : ∀ k, k ≤ a.el.length → RawOK (Qz (Kq a b k))) (hP : ∀ k, k < a.el.length → RawOK (Qz (Xh [a.el.getD k r0, b.el.getD k r0]))) :
  Pu C 37 [tnV a, tnV b] (.tup [Qc2 (Kq a b a.el.length), .int .i64 0]) := by
 have hel : (a.el.length : Int) = b.el.length := by rw [(Xw ma).2.2, (Xw mb).2.2, hs]
 have tb := Qdq b hb
 have ta := Qdq a ha
 rw [ma] at ta;rw [mb] at tb
 have has := ha.s
 have hv : Qq3 a = .fn (.func 97) [] [.rp [.sl a.shape.length (ints a.shape), .sl a.el.length (Xd a.el)] 0] := rfl
 refine Pu.ofBor (by simp [clo, Qi, Qw, Ky]) ?_
 refine Fc.bodyT Qe Tryz.func37 w37 rfl Tryz.ntmps37 Tryz.results37 (zLe rfl) ?_
 (apply Zo;repeat' ((with_reducible first|apply Zk|(first|apply Za|apply Zb|apply Zc|apply Zd)<;>intro h)<;>try simp -implicitDefEqProofs (maxSteps:=9^7) (disch:=first|omega|(simp only [Qb];omega)) only [go_sem]))
 refine Qf (fun n ts H => ∃ (k : Nat), (k ≤ 2) ∧ (n = 2 - k) ∧ (Qd H 0 = some ⟨26, 2, [.sl a.shape.length (ints a.shape), .sl a.el.length (Xd a.el)]⟩) ∧ (Qd H 1 = some ⟨26, 2, [.sl b.shape.length (ints b.shape), .sl b.el.length (Xd b.el)]⟩) ∧ (Qd H 2 = some ⟨58, 3, [.bool false, .nil, .nil]⟩) ∧ (Qd H 3 = some ⟨26, 2, [.sl a.shape.length (ints a.shape), .sl a.el.length (Xd a.el), .sl b.shape.length (ints b.shape), .sl b.el.length (Xd b.el)]⟩) ∧ ts.length = 50 ∧ nth ts 2 = .ptr 0 0 ∧ nth ts 3 = .ptr 1 0 ∧ nth ts 4 = .ptr 2 0 ∧ nth ts 14 = .ref 3 0 2 ∧ nth ts 15 = .int .i64 2 ∧ nth ts 16 = .int .i64 (k : Nat)) ?_ (n := 2) ?_
 ·skip
  rintro n ts H ⟨k, hk, hn, h0, h1, h2, h3, hL, hs2, hs3, hs4, hs14, hs15, hs16⟩;refine Qv [(2, .ptr 0 0), (3, .ptr 1 0), (4, .ptr 2 0), (14, .ref 3 0 2), (15, .int .i64 2), (16, .int .i64 (k : Nat))] hL (by simp only [zFm, hs2, hs3, hs4, hs14, hs15, hs16, true_and]; exact zNm) ?_
  clear hL hs2 hs3 hs4 hs14 hs15 hs16 ts
  refine Qu Qe ?_
  have hk' : k = 0 ∨ k = 1 ∨ k = 2 := by omega
  have hst : ∀ (x : Row), Qd (H ++ [some x]) H.length = some x := fun x => Yd _ _
  have hst2 : ∀ (x y : Row), Qd ((H ++ [some x]).set H.length (some y)) H.length = some y := fun x y => Qg (hst x)
  rcases hk' with rfl | rfl | rfl
  ·skip
   (apply Zo;repeat' ((with_reducible first|apply Zk|(first|apply Za|apply Zb|apply Zc|apply Zd)<;>intro h)<;>try simp -implicitDefEqProofs (maxSteps:=9^7) (disch:=first|omega|(simp only [Qb];omega)) only [go_sem, h3, hst, hst2]))
   refine Fc.pure ta (by simp [Qi, clo, Qc, Qm]) (fun g => rfl) ?_
   (apply Zo;repeat' ((with_reducible first|apply Zk|(first|apply Za|apply Zb|apply Zc|apply Zd)<;>intro h)<;>try simp -implicitDefEqProofs (maxSteps:=9^7) (disch:=first|omega|(simp only [Qb];omega)) only [go_sem]))
   exact ⟨1, by omega, 1, by omega, rfl, Qj h0 _, Qj h1 _, Qj h2 _, Qj h3 _, (by (repeat' apply And.intro) <;> (first | rfl | omega | (congr 1; omega) | assumption | (congr 1; assumption)))⟩
  ·skip
   (apply Zo;repeat' ((with_reducible first|apply Zk|(first|apply Za|apply Zb|apply Zc|apply Zd)<;>intro h)<;>try simp -implicitDefEqProofs (maxSteps:=9^7) (disch:=first|omega|(simp only [Qb];omega)) only [go_sem, h3, hst, hst2]))
   refine Fc.pure tb (by simp [Qi, clo, Qc, Qm]) (fun g => rfl) ?_
   (apply Zo;repeat' ((with_reducible first|apply Zk|(first|apply Za|apply Zb|apply Zc|apply Zd)<;>intro h)<;>try simp -implicitDefEqProofs (maxSteps:=9^7) (disch:=first|omega|(simp only [Qb];omega)) only [go_sem]))
   exact ⟨0, by omega, 2, by omega, rfl, Qj h0 _, Qj h1 _, Qj h2 _, Qj h3 _, (by (repeat' apply And.intro) <;> (first | rfl | omega | (congr 1; omega) | assumption | (congr 1; assumption)))⟩
  ·have eqs := Qt4 a.shape b.shape (by omega)
   rw [decide_eq_true hs] at eqs
   (apply Zo;repeat' ((with_reducible first|apply Zk|(first|apply Za|apply Zb|apply Zc|apply Zd)<;>intro h)<;>try simp -implicitDefEqProofs (maxSteps:=9^7) (disch:=first|omega|(simp only [Qb];omega)) only [go_sem, h0, h1]))
   refine Fc.pure eqs (by simp [Qi, clo, Qc]) (fun g => rfl) ?_
   (apply Zo;repeat' ((with_reducible first|apply Zk|(first|apply Za|apply Zb|apply Zc|apply Zd)<;>intro h)<;>try simp -implicitDefEqProofs (maxSteps:=9^7) (disch:=first|omega|(simp only [Qb];omega)) only [go_sem]))
   refine (Qns 0 (by decide) (by decide)).call ⟨.self rfl, trivial⟩ (Qw (Qz (Zh 0))) ?_
   obtain ⟨r, hr⟩ : ∃ r, H.length = r := ⟨_, rfl⟩
   have hr3 : 3 < r := by rw [← hr]; exact Xg h3
   have hst : ∀ (x : Row), Qd (H ++ [some x]) r = some x := fun x => by rw [← hr]; exact Yd _ _
   have hst2 : ∀ (x y : Option Row), (H ++ [x]).set r y = H ++ [y] := fun x y => by rw [List.set_append_right _ _ (by omega), hr, Nat.sub_self]; rfl
   have g0 : ∀ Y, Qd (H ++ Y) 0 = _ := fun Y => Qj h0 Y
   (apply Zo;repeat' ((with_reducible first|apply Zk|(first|apply Za|apply Zb|apply Zc|apply Zd)<;>intro h)<;>try simp -implicitDefEqProofs (maxSteps:=9^7) (disch:=first|omega|(simp only [Qb];omega)) only [go_sem, hst, hst2, hr, g0]))
   refine Fc.pure (Qnk a) (by simp [Qi, clo, Qc, Qm]) (fun g => by simp [tnV, ren, Ql, Qy, Yw _ _ (Qm a.el)]) ?_
   (apply Zo;repeat' ((with_reducible first|apply Zk|(first|apply Za|apply Zb|apply Zc|apply Zd)<;>intro h)<;>try simp -implicitDefEqProofs (maxSteps:=9^7) (disch:=first|omega|(simp only [Qb];omega)) only [go_sem]))
   refine Fc.pure (Qlg a) (by simp [Qi, clo, Qc, Qm]) (fun g => by simp [Qq3, ren, Ql, Qy, Yw _ _ (Qm a.el)]) ?_
   (apply Zo;repeat' ((with_reducible first|apply Zk|(first|apply Za|apply Zb|apply Zc|apply Zd)<;>intro h)<;>try simp -implicitDefEqProofs (maxSteps:=9^7) (disch:=first|omega|(simp only [Qb];omega)) only [go_sem, hv]))
   refine Ks (g := 97) (lb := [.rp [.sl a.shape.length (ints a.shape), .sl a.el.length (Xd a.el)] 0]) (xs := Qby a) (by simp -implicitDefEqProofs (maxSteps:=9^7) (disch := first | omega | (simp only [Qb]; omega)) only [go_sem]) (by simp [Qi, clo, Qc, Qm]) (Qon a ha) (fun bs hb => by
    simp only [Qby, List.mem_map, List.mem_range] at hb;obtain ⟨i, _, rfl⟩ := hb
    rfl) (fun k H => Qd H r = some ⟨58, 3, [.bool (Kq a b k).neg, Ye (Kq a b k).num, Ye (Kq a b k).den]⟩ ∧ Qd H 1 = some ⟨26, 2, [.sl b.shape.length (ints b.shape), .sl b.el.length (Xd b.el)]⟩ ∧ Qd H 2 = some ⟨58, 3, [.bool false, .nil, .nil]⟩) ⟨hst _, Qj h1 _, Qj h2 _⟩ ?_ ?_
   ·rintro k us H hk ⟨k9, k1, k2⟩ l
    have hkl : k < a.el.length := by
     have := (List.getElem?_eq_some_iff.1 hk).1
     rwa [Kn] at this
    rw [Qeh hkl] at hk;injection hk with hk
    subst hk
    have j1 : ∀ X, Qd (H ++ X) 1 = _ := fun X => Qj k1 X
    have j2 : ∀ X, Qd (H ++ X) 2 = _ := fun X => Qj k2 X
    have j9 : ∀ X, Qd (H ++ X) r = _ := fun X => Qj k9 X
    have mst : ∀ (x : Row), Qd (H ++ [some x]) H.length = some x := fun x => Yd _ _
    have mst2 : ∀ (x y : Row), Qd ((H ++ [some x]).set H.length (some y)) H.length = some y := fun x y => Qg (mst x)
    (refine Qu Qe ?_; simp -implicitDefEqProofs (maxSteps:=9^7) (disch := first | omega | (simp only [Qb]; omega)) only [go_sem, Qes])
    (refine Qu Qe ?_; simp -implicitDefEqProofs (maxSteps:=9^7) (disch := first | omega | (simp only [Qb]; omega)) only [go_sem, j1, j9, mst, mst2])
    have rm := Qwc (a.el.getD k r0) (b.el.getD k r0) (ha.get hkl) (hb.get (by omega))
    have ra := Qwi (Qz (Kq a b k)) (Qz (Xh [a.el.getD k r0, b.el.getD k r0])) (hD k (by omega)) (hP k hkl)
    have ra : Pu C 74 [Qc2 (Kq a b k), Qc2 (Xh [a.el.getD k r0, b.el.getD k r0])] (Qc2 (Kq a b (k + 1))) := ra
    generalize Xh [a.el.getD k r0, b.el.getD k r0] = P at *;generalize Kq a b k = D at *;generalize Kq a b (k + 1) = D' at *;refine Pc.pure rm (by simp [Qi, clo, Qk]) (fun g => Ym _ _ (Qw (Qz P))) ?_
    (apply Zo;repeat' ((with_reducible first|apply Zk|(first|apply Za|apply Zb|apply Zc|apply Zd)<;>intro h)<;>try simp -implicitDefEqProofs (maxSteps:=9^7) (disch:=first|omega|(simp only [Qb];omega)) only [go_sem, j1, j9, mst, mst2]))
    refine Pc.pure ra (by simp [Qi, clo, Qk]) (fun g => Ym _ _ (Qw (Qz D'))) ?_
    have mst9 : ∀ X (y : Row), Qd ((H ++ X).set r (some y)) r = some y := fun X y => Qg (j9 X)
    (apply Zo;repeat' ((with_reducible first|apply Zk|(first|apply Za|apply Zb|apply Zc|apply Zd)<;>intro h)<;>try simp -implicitDefEqProofs (maxSteps:=9^7) (disch:=first|omega|(simp only [Qb];omega)) only [go_sem, j1, j9, mst, mst2, Jr]))
    exact ⟨mst9 _ _, by rw [Qh _ (by omega)]; exact j1 _, by rw [Qh _ (by omega)]; exact j2 _⟩
   ·rintro H ⟨k9, k1, k2⟩;rw [Kn] at k9
    have hst : ∀ z : Row, Qd (H.set 2 (some z)) 2 = some z := fun z => Qg k2
    (apply Zo;repeat' ((with_reducible first|apply Zk|(first|apply Za|apply Zb|apply Zc|apply Zd)<;>intro h)<;>try simp -implicitDefEqProofs (maxSteps:=9^7) (disch:=first|omega|(simp only [Qb];omega)) only [go_sem, k9, k2, hst]))
    exact .self (by simp [clo, Qi, Qk])
 ·exact ⟨0, by omega, by omega, rfl, rfl, rfl, rfl, rfl, rfl, rfl, rfl, rfl, rfl, rfl⟩
def sg (b : Bool) (n : Nat) : Int := if b then -(n : Int) else n
def Qdn (r : Rq) : Rat := mkRat (sg r.neg r.num) r.den
theorem Qub (b : Bool) : sg b 0 = 0 := by cases b <;> rfl
theorem Qvk (s : Bool) (p q : Nat) (hq : q ≠ 0) : Qdn (Jg s p q) = mkRat (sg s p) q := by
 by_cases hp : p = 0
 ·rw [Jd (.inl hp), hp, Qub]
  show mkRat (sg false 0) 1 = _
  rw [Qub, Rat.zero_mkRat, Rat.zero_mkRat]
 ·have hpq : ¬ (p = 0 ∨ q = 0) := by omega
  rw [Jg, if_neg hpq]
  have hg : Nat.gcd p q ≠ 0 := by have := Qd5 hpq; omega
  obtain ⟨a, ha⟩ := Nat.gcd_dvd_left p q;obtain ⟨b, hb⟩ := Nat.gcd_dvd_right p q
  show mkRat (sg s (p / Nat.gcd p q)) (q / Nat.gcd p q) = _
  generalize Nat.gcd p q = g at *
  have e1 : p / g = a := by rw [ha]; exact Nat.mul_div_cancel_left _ (by omega)
  have e2 : q / g = b := by rw [hb]; exact Nat.mul_div_cancel_left _ (by omega)
  rw [e1, e2, ha, hb, ← Rat.mkRat_mul_left (n := sg s a) (d := b) hg]
  congr 1
  cases s
  ·simp [sg]
  ·simp [sg, Int.mul_neg]
theorem Qfs (s : Bool) (p q : Nat) (hq : q ≠ 0) : Qdn (Jk s p q).1 = mkRat (sg s p) q := by
 rw [Jk, if_neg hq]; exact Qvk s p q hq
theorem Qpp (s : Bool) (p q : Nat) : (Jg s p q).den ≠ 0 := by
 by_cases h : p = 0 ∨ q = 0
 ·rw [Jd h]; decide
 ·rw [Jg, if_neg h]
  have hg := Qd5 h
  obtain ⟨b, hb⟩ := Nat.gcd_dvd_right p q
  show q / Nat.gcd p q ≠ 0
  have : 0 < q / Nat.gcd p q := Nat.div_pos (Nat.le_of_dvd (by omega) (Nat.gcd_dvd_right p q)) hg
  omega
theorem Qhg (s : Bool) (p q : Nat) (hq : q ≠ 0) : (Jk s p q).1.den ≠ 0 := by rw [Jk, if_neg hq]; exact Qpp s p q
theorem Qpt {r s : Rq} (hr : r.den ≠ 0) (hs : s.den ≠ 0) : Qdn (Qik r s) = Qdn r * Qdn s ∧ (Qik r s).den ≠ 0 := by
 have h : r.den * s.den ≠ 0 := Nat.mul_ne_zero hr hs
 refine ⟨?_, Qhg _ _ _ h⟩;rw [Qik, Qfs _ _ _ h, Qdn, Qdn, Rat.mkRat_mul_mkRat]
 congr 1
 cases r.neg <;> cases s.neg <;> simp [sg, Int.neg_mul, Int.mul_neg]
theorem Xcw {r s : Rq} (hr : r.den ≠ 0) (hs : s.den ≠ 0) : Qdn (Qf7 r s) = Qdn r + Qdn s ∧ (Qf7 r s).den ≠ 0 := by
 have h : r.den * s.den ≠ 0 := Nat.mul_ne_zero hr hs
 show Qdn (Qf7 r s) = mkRat (sg r.neg r.num) r.den + mkRat (sg s.neg s.num) s.den ∧ _
 rw [Rat.mkRat_add_mkRat _ _ hr hs, Qf7];by_cases hn : r.neg = s.neg
 ·rw [if_pos hn];refine ⟨?_, Qhg _ _ _ h⟩;rw [Qfs _ _ _ h, hn]
  congr 1
  cases s.neg <;> simp [sg] <;> (try rw [Int.neg_mul, Int.neg_mul]) <;> omega
 ·rw [if_neg hn];by_cases hle : s.num * r.den ≤ r.num * s.den
  ·rw [if_pos hle];refine ⟨?_, Qhg _ _ _ h⟩;rw [Qfs _ _ _ h]
   congr 1
   have hc : ((r.num * s.den - s.num * r.den : Nat) : Int) = (r.num : Int) * s.den - s.num * r.den := by
    rw [Int.ofNat_sub hle]; simp
   cases hb : r.neg <;> cases hd : s.neg <;> simp_all [sg, Int.neg_mul] <;> omega
  ·rw [if_neg hle];refine ⟨?_, Qhg _ _ _ h⟩;rw [Qfs _ _ _ h]
   congr 1
   have hc : ((s.num * r.den - r.num * s.den : Nat) : Int) = (s.num : Int) * r.den - r.num * s.den := by
    rw [Int.ofNat_sub (by omega)]; simp
   cases hb : r.neg <;> cases hd : s.neg <;> simp_all [sg, Int.neg_mul] <;> omega
theorem NmQ.den {r : Rq} (h : NmQ r) : r.den ≠ 0 := by
 rw [NmQ, Qa6] at h;rw [← h]; exact Qpp _ _ _
theorem Qys {r s : Rq} (hr : NmQ r) (hs : NmQ s) (h : Qdn r = Qdn s) : r = s := by
 have dr := hr.den
 have ds := hs.den
 rw [Qdn, Qdn, Rat.mkRat_eq_iff dr ds] at h;rw [NmQ, Qa6] at hr hs
 have hab : r.num * s.den = s.num * r.den := by
  have := congrArg Int.natAbs h
  rw [Int.natAbs_mul, Int.natAbs_mul] at this
  have e : ∀ b n, (sg b n).natAbs = n := fun b n => by cases b <;> simp [sg]
  rw [e, e] at this;simpa using this
 by_cases hz : r.num = 0 ∨ s.num = 0
 ·have hrz : r.num = 0 := by
   rcases hz with hz | hz
   ·exact hz
   ·rw [hz, Nat.zero_mul] at hab;rcases Nat.mul_eq_zero.1 hab with h1 | h1
    ·exact h1
    ·exact absurd h1 ds
  have hsz : s.num = 0 := by
   rw [hrz, Nat.zero_mul] at hab;rcases Nat.mul_eq_zero.1 hab.symm with h1 | h1
   ·exact h1
   ·exact absurd h1 dr
  rw [Jd (.inl hrz)] at hr;rw [Jd (.inl hsz)] at hs;rw [← hr, ← hs]
 ·have cop : ∀ {r : Rq}, Jg r.neg r.num r.den = r → r.num ≠ 0 → r.den ≠ 0 → Nat.gcd r.num r.den = 1 := fun {r} hr h1 h2 => by
   have hn : ¬ (r.num = 0 ∨ r.den = 0) := by omega
   have h5 := congrArg Rq.num hr
   rw [Jg, if_neg hn] at h5
   have h5 : r.num / Nat.gcd r.num r.den = r.num := h5
   have hg := Qd5 hn
   obtain ⟨a, ha⟩ := Nat.gcd_dvd_left r.num r.den;generalize Nat.gcd r.num r.den = g at *
   have e1 : r.num / g = a := by
    have := Nat.mul_div_cancel_left a hg
    rw [← ha] at this; exact this
   rw [e1] at h5;rw [h5] at ha
   have h6 : 0 < r.num := by omega
   exact Nat.eq_of_mul_eq_mul_right h6 (by rw [Nat.one_mul]; exact ha.symm)
  have c1 := cop hr (by omega) dr
  have c2 := cop hs (by omega) ds
  have d1 : r.den ∣ s.den := (Nat.Coprime.symm c1 : Nat.Coprime r.den r.num).dvd_of_dvd_mul_left ⟨s.num, by rw [hab, Nat.mul_comm]⟩
  have d2 : s.den ∣ r.den := (Nat.Coprime.symm c2 : Nat.Coprime s.den s.num).dvd_of_dvd_mul_left ⟨r.num, by rw [← hab, Nat.mul_comm]⟩
  have hd : r.den = s.den := Nat.dvd_antisymm d1 d2
  have hnum : r.num = s.num := by
   rw [hd] at hab;exact Nat.eq_of_mul_eq_mul_right (by omega) hab
  have hneg : r.neg = s.neg := by
   rw [hd, hnum] at h
   have h7 := Int.eq_of_mul_eq_mul_right (by omega) h
   have h8 : s.num ≠ 0 := by omega
   cases hb : r.neg <;> cases hc : s.neg <;> rw [hb, hc] at h7 <;> first | rfl | (exfalso; simp only [sg, if_true, Bool.false_eq_true, if_false] at h7; omega)
  obtain ⟨a, b, c⟩ := r;obtain ⟨d, e, f⟩ := s;simp only at hd hnum hneg;rw [hd, hnum, hneg]
def Qez (f : Nat → Rat) : Nat → Rat
 | 0 => 0
 | n + 1 => Qez f n + f n
theorem Qd9 {f g : Nat → Rat} : ∀ n, (∀ i, i < n → f i = g i) → Qez f n = Qez g n
 | 0, _ => rfl
 | n + 1, h => by rw [Qez, Qez, Qd9 n fun i hi => h i (by omega), h n (by omega)]
theorem Qvx {f : Nat → Rat} (n : Nat) (h : ∀ i, i < n → f i = 0) : Qez f n = 0 := by
 induction n with
 | zero => rfl
 | succ n ih => rw [Qez, ih fun i hi => h i (by omega), h n (by omega), Rat.add_zero]
theorem Qoy (f : Nat → Rat) (m : Nat) : ∀ n, m < n → Qez f n = Qez (fun i => if i = m then 0 else f i) n + f m
 | 0, h => by omega
 | n + 1, h => by
  by_cases hm : m = n
  ·subst hm;rw [Qez, Qez, if_pos rfl, Rat.add_zero]
   congr 1
   exact Qd9 _ fun i hi => by rw [if_neg (by omega)]
  ·rw [Qez, Qez, if_neg (by omega), Qoy f m n (by omega), Rat.add_assoc, Rat.add_assoc, Rat.add_comm (f m)]
theorem Qoz (π : Nat → Nat) (M : Nat) : ∀ (N : Nat) (G : Nat → Rat), (∀ j, j < N → π j < M) → (∀ j k, j < N → k < N → π j = π k → j = k) → (∀ i, i < M → (∀ j, j < N → π j ≠ i) → G i = 0) → Qez G M = Qez (fun j => G (π j)) N
 | 0, G, _, _, hz => Qvx M fun i hi => hz i hi fun j hj => by omega
 | N + 1, G, h1, h2, hz => by
  rw [Qoy G (π N) M (h1 N (by omega)), Qez]
  congr 1
  rw [Qoz π M N (fun i => if i = π N then 0 else G i) (fun j hj => h1 j (by omega)) (fun j k hj hk => h2 j k (by omega) (by omega)) fun i hi hn => ?_]
  ·exact Qd9 N fun j hj => by rw [if_neg fun e => by have := h2 j N (by omega) (by omega) e; omega]
  ·by_cases he : i = π N
   ·rw [if_pos he]
   ·rw [if_neg he];refine hz i hi fun j hj => ?_
    by_cases hjN : j = N
    ·rw [hjN]; exact fun e => he e.symm
    ·exact hn j (by omega)
def vR (x : Raw) : Rat := Qdn (Xc x)
def TnS (M : Nat) (t : Tn) : Prop := ∀ x ∈ t.el, x.num.length ≤ M ∧ x.den.length ≤ M
theorem Xeu (s : Bool) (p q : Nat) : NmQ (Jg s p q) := by
 have := Qkl (Qz ⟨s, p, q⟩)
 rwa [Qa6] at this
theorem Qjv (s : Bool) (p q : Nat) (hq : q ≠ 0) : NmQ (Jk s p q).1 := by rw [Jk, if_neg hq]; exact Xeu _ _ _
theorem Qm3 (x : Raw) : (Xc x).den ≠ 0 := (Qkl x).den
theorem Qug (x y : Raw) : NmQ (Xh [x, y]) ∧ Qdn (Xh [x, y]) = vR x * vR y := by
 have h1 := Qpt (r := Zh 1) (s := Xc x) (by decide) (Qm3 x)
 have h2 := Qpt (r := Qik (Zh 1) (Xc x)) (s := Xc y) h1.2 (Qm3 y)
 have e : Xh [x, y] = Qik (Qik (Zh 1) (Xc x)) (Xc y) := rfl
 rw [e];refine ⟨Qjv _ _ _ (Nat.mul_ne_zero h1.2 (Qm3 y)), ?_⟩;rw [h2.1, h1.1]
 have : Qdn (Zh 1) = 1 := by show mkRat 1 1 = 1; rfl
 rw [this, Rat.one_mul]; rfl
theorem Xjp {r s : Rq} (hr : r.den ≠ 0) (hs : s.den ≠ 0) : NmQ (Qf7 r s) := by
 have h : r.den * s.den ≠ 0 := Nat.mul_ne_zero hr hs
 rw [Qf7];split
 ·exact Qjv _ _ _ h
 ·split
  ·exact Qjv _ _ _ h
  ·exact Qjv _ _ _ h
theorem Qhs (a b : Tn) : ∀ k, NmQ (Kq a b k) ∧ Qdn (Kq a b k) = Qez (fun i => vR (a.el.getD i r0) * vR (b.el.getD i r0)) k
 | 0 => ⟨Qih 0, by show mkRat 0 1 = 0; rfl⟩
 | k + 1 => by
  obtain ⟨h1, h2⟩ := Qhs a b k;obtain ⟨h3, h4⟩ := Qug (a.el.getD k r0) (b.el.getD k r0)
  have e : Kq a b (k + 1) = Qf7 (Xc (Qz (Kq a b k))) (Xc (Qz (Xh [a.el.getD k r0, b.el.getD k r0]))) := rfl
  rw [e, show Xc (Qz (Kq a b k)) = Kq a b k from h1, show Xc (Qz (Xh [a.el.getD k r0, b.el.getD k r0])) = Xh [a.el.getD k r0, b.el.getD k r0] from h3]
  have h5 := Xcw h1.den h3.den
  exact ⟨Xjp h1.den h3.den, by rw [h5.1, h2, h4]; rfl⟩
theorem Xa5 (x y : Nat) : (dg B32 (x + y)).length ≤ max (dg B32 x).length (dg B32 y).length + 1 := Xe (by decide) _ _ (by
 have h1 := Yh (b := B32) (by decide) x
 have h2 := Yh (b := B32) (by decide) y
 have h3 : B32 ^ (dg B32 x).length ≤ B32 ^ (max (dg B32 x).length (dg B32 y).length) := Nat.pow_le_pow_right (by decide) (by omega)
 have h4 : B32 ^ (dg B32 y).length ≤ B32 ^ (max (dg B32 x).length (dg B32 y).length) := Nat.pow_le_pow_right (by decide) (by omega)
 rw [Nat.pow_succ]
 have h5 : B32 ^ (max (dg B32 x).length (dg B32 y).length) * 2 ≤ B32 ^ (max (dg B32 x).length (dg B32 y).length) * B32 := Nat.mul_le_mul_left _ (by decide)
 omega)
theorem Xcx (r s : Rq) : (dg B32 (Qf7 r s).num).length ≤ max (dg B32 (r.num * s.den)).length (dg B32 (s.num * r.den)).length + 1 ∧ (dg B32 (Qf7 r s).den).length ≤ (dg B32 (r.den * s.den)).length + 1 := by
 have h1 := Xa5 (r.num * s.den) (s.num * r.den)
 have h2 := Qjw (r.num * s.den) (s.num * r.den)
 have h3 := Qjw (s.num * r.den) (r.num * s.den)
 rw [Qf7];split
 ·have := Qdz r.neg (r.num * s.den + s.num * r.den) (r.den * s.den); omega
 ·split
  ·have := Qdz r.neg (r.num * s.den - s.num * r.den) (r.den * s.den); omega
  ·have := Qdz s.neg (s.num * r.den - r.num * s.den) (r.den * s.den); omega
theorem Qux {a b : Tn} (ha : TnOK a) (hb : TnOK b) (sa : TnS 1100000 a) (sb : TnS 1100000 b) (hl : a.el.length = b.el.length) : ∀ k, k ≤ a.el.length → (dg B32 (Kq a b k).num).length ≤ 3000000 * (k + 1) ∧ (dg B32 (Kq a b k).den).length ≤ 3000000 * (k + 1)
 | 0, _ => by
  have h1 : (dg B32 1).length ≤ 1 := Xe (by decide) _ _ (by decide)
  have h0 : (dg B32 0).length = 0 := by simp [Xv]
  have e1 : (Kq a b 0).num = 0 := rfl
  have e2 : (Kq a b 0).den = 1 := rfl
  rw [e1, e2]; omega
 | k + 1, hk => by
  obtain ⟨i1, i2⟩ := Qux ha hb sa sb hl k (by omega)
  have ma : a.el.getD k r0 ∈ a.el := by simp [List.getD, show k < a.el.length by omega]
  have mb : b.el.getD k r0 ∈ b.el := by simp [List.getD, show k < b.el.length by omega]
  obtain ⟨p1, p2⟩ := (Qib (ha.r _ ma) (hb.r _ mb)).2;obtain ⟨q1, q2⟩ := sa _ ma;obtain ⟨q3, q4⟩ := sb _ mb;obtain ⟨h1, h2⟩ := Qhs a b k;obtain ⟨h3, h4⟩ := Qug (a.el.getD k r0) (b.el.getD k r0)
  have e : Kq a b (k + 1) = Qf7 (Xc (Qz (Kq a b k))) (Xc (Qz (Xh [a.el.getD k r0, b.el.getD k r0]))) := rfl
  rw [e, show Xc (Qz (Kq a b k)) = Kq a b k from h1, show Xc (Qz (Xh [a.el.getD k r0, b.el.getD k r0])) = Xh [a.el.getD k r0, b.el.getD k r0] from h3];generalize Xh [a.el.getD k r0, b.el.getD k r0] = P at *;generalize Kq a b k = D at *
  have w := Xcx D P
  have w1 := Qac D.num P.den
  have w2 := Qac P.num D.den
  have w3 := Qac D.den P.den
  omega
theorem Xb2 {a b : Tn} (ha : TnOK a) (hb : TnOK b) (sa : TnS 1100000 a) (sb : TnS 1100000 b) (hl : a.el.length = b.el.length) (hn : a.el.length ≤ 1024) : (∀ k, k ≤ a.el.length → RawOK (Qz (Kq a b k))) ∧ ∀ k, k < a.el.length → RawOK (Qz (Xh [a.el.getD k r0, b.el.getD k r0])) := by
 refine ⟨fun k hk => ?_, fun k hk => ?_⟩
 ·obtain ⟨i1, i2⟩ := Qux ha hb sa sb hl k hk;exact ⟨show (dg B32 _).length ≤ _ by omega, show (dg B32 _).length ≤ _ by omega, Xp _, Xp _⟩
 ·have ma : a.el.getD k r0 ∈ a.el := by simp [List.getD, hk]
  have mb : b.el.getD k r0 ∈ b.el := by simp [List.getD, show k < b.el.length by omega]
  obtain ⟨p1, p2⟩ := (Qib (ha.r _ ma) (hb.r _ mb)).2;obtain ⟨q1, q2⟩ := sa _ ma;obtain ⟨q3, q4⟩ := sb _ mb;exact ⟨show (dg B32 _).length ≤ _ by omega, show (dg B32 _).length ≤ _ by omega, Xp _, Xp _⟩
theorem Xaj {t : Tn} (hm : Yy t = 0) {S : List Int} (hS : Yo S = 0) (g : List Int → List Int) {i : Nat} (hi : i < (Qp S).toNat) : (mvT t S g).el.getD i r0 = Qz (atG (Qao t) (g (Xq S (i : Nat)))) := by
 rw [(Qkn hm hS g).1];simp [Jq, mvQ, List.getD, hi]
theorem Qvu (t : Tn) (k : Nat) : (k < t.el.length → (Qao t).el.getD k q0 = Xc (t.el.getD k r0)) ∧ (¬ k < t.el.length → (Qao t).el.getD k q0 = q0) := by
 refine ⟨fun h => by simp [Qao, List.getD, h], fun h => ?_⟩
 have : (Qao t).el.length ≤ k := by simp [Qao]; omega
 simp [List.getD, this]
theorem Xf6 {t : Tn} {M : Nat} (hM : 1 ≤ M) (ht : TnOK t) (hs : TnS M t) (l : List Int) : (dg B32 (atG (Qao t) l).num).length ≤ M ∧ (dg B32 (atG (Qao t) l).den).length ≤ M + 1 := by
 have h1 : (dg B32 1).length ≤ 1 := Xe (by decide) _ _ (by decide)
 have h0 : (dg B32 0).length = 0 := by simp [Xv]
 rw [atG];split
 ·have hk := Qvu t (Jj (Qao t).shape l).toNat
  generalize (Jj (Qao t).shape l).toNat = k at *;by_cases hl : k < t.el.length
  ·have hm : t.el.getD k r0 ∈ t.el := by simp [List.getD, hl]
   have h2 := Qex (ht.r _ hm)
   have h3 := hs _ hm
   rw [hk.1 hl]; omega
  ·rw [hk.2 hl]
   show (dg B32 0).length ≤ _ ∧ (dg B32 1).length ≤ _
   omega
 ·show (dg B32 0).length ≤ _ ∧ (dg B32 1).length ≤ _
  omega
theorem Qpr {t : Tn} (hm : Yy t = 0) (ht : TnOK t) (hs : TnS 1048576 t) {S : List Int} (hS : Yo S = 0) (g : List Int → List Int) : TnS 1100000 (mvT t S g) := fun x hx => by
 rw [(Qkn hm hS g).1] at hx;simp only [Jq, mvQ, List.mem_map] at hx;obtain ⟨r, ⟨i, _, rfl⟩, rfl⟩ := hx
 have := Xf6 (M := 1048576) (by omega) ht hs (g (Xq S (i : Nat)))
 exact ⟨show (dg B32 _).length ≤ _ by omega, show (dg B32 _).length ≤ _ by omega⟩
theorem Qqg {x z : Tn} (mx : Yy x = 0) (mz : Yy z = 0) {g1 g2 : List Int → List Int}
  (h : ∀ p : List Int, p.length = x.shape.length → (∀ i, i < x.shape.length → 0 ≤ p.getD i 0 ∧ p.getD i 0 < x.shape.getD i 0) → (g2 p).length = z.shape.length ∧ (∀ i, i < z.shape.length → 0 ≤ (g2 p).getD i 0 ∧ (g2 p).getD i 0 < z.shape.getD i 0) ∧ g1 (g2 p) = p)
  (h' : ∀ p : List Int, p.length = z.shape.length → (g1 p).length = x.shape.length ∧ g2 (g1 p) = p) :
  Kq (mvT x z.shape g1) z (mvT x z.shape g1).el.length = Kq x (mvT z x.shape g2) x.el.length := by
 obtain ⟨_, px, ex⟩ := Xw mx;obtain ⟨_, pz, ez⟩ := Xw mz;obtain ⟨m1, m2, m3⟩ := Xs px;obtain ⟨n1, n2, n3⟩ := Xs pz
 have hl1 : (mvT x z.shape g1).el.length = (Qp z.shape).toNat := by
  have := (Xw (Qkn mx pz g1).2).2.2
  rw [show (mvT x z.shape g1).shape = z.shape from rfl] at this;omega
 have hl2 : x.el.length = (Qp x.shape).toNat := by omega
 have a1 := Qhs (mvT x z.shape g1) z (mvT x z.shape g1).el.length
 have a2 := Qhs x (mvT z x.shape g2) x.el.length
 refine Qys a1.1 a2.1 ?_;rw [a1.2, a2.2, hl1, hl2]
 have hin := fun j : Nat => Qjx m2 (j : Nat)
 have hio : ∀ j : Nat, j < (Qp x.shape).toNat → Jw x.shape (Xq x.shape (j : Nat)) x.shape.length = (j : Nat) := fun j hj => Qul m2 (by omega) (by omega)
 have hx := fun j : Nat => h (Xq x.shape (j : Nat)) (Kz _ _) (hin j)
 have hz : ∀ j : Nat, Qav z.shape (g2 (Xq x.shape (j : Nat))) = 0 := fun j => by
  obtain ⟨y1, y2, y3⟩ := hx j;rw [Qav, if_neg (by omega), if_neg (by omega), if_pos (Qek.2 y2)]
 have hπ := fun j : Nat => Qfw (hz j)
 have hπi : ∀ j : Nat, Xq z.shape (((Jj z.shape (g2 (Xq x.shape (j : Nat)))).toNat : Nat) : Int) = g2 (Xq x.shape (j : Nat)) := fun j => by
  obtain ⟨y1, y2, y3⟩ := hx j;obtain ⟨o1, o2, o3⟩ := hπ j
  have hoN : Jj z.shape (g2 (Xq x.shape (j : Nat))) = Jw z.shape (g2 (Xq x.shape (j : Nat))) z.shape.length := by rw [Jj, if_pos (hz j)]
  rw [show (((Jj z.shape (g2 (Xq x.shape (j : Nat)))).toNat : Nat) : Int) = Jj z.shape (g2 (Xq x.shape (j : Nat))) by omega, hoN, Qus n2 y1 y2]
 rw [Qoz (fun j => (Jj z.shape (g2 (Xq x.shape (j : Nat)))).toNat) (Qp z.shape).toNat (Qp x.shape).toNat _ (fun j hj => by have := hπ j; omega) (fun j k hj hk e => ?_) (fun i hi hne => ?_)]
 ·refine Qd9 _ fun j hj => ?_
  have hπl := hπ j
  rw [Xaj mx pz g1 (by omega), Xaj mz px g2 hj, hπi j, (hx j).2.2]
  have e1 : atG (Qao x) (Xq x.shape (j : Nat)) = Xc (x.el.getD j r0) := by
   have hzx : Qav x.shape (Xq x.shape (j : Nat)) = 0 := by rw [Qav, if_neg (by omega), if_neg (by rw [Kz]; omega), if_pos (Qek.2 (hin j))]
   rw [atG, show (Qao x).shape = x.shape from rfl, if_pos hzx, Jj, if_pos hzx, hio j hj];simp [Qao, List.getD, show j < x.el.length by omega]
  have e2 : atG (Qao z) (g2 (Xq x.shape (j : Nat))) = Xc (z.el.getD (Jj z.shape (g2 (Xq x.shape (j : Nat)))).toNat r0) := by
   rw [atG, show (Qao z).shape = z.shape from rfl, if_pos (hz j)]
   have : (Jj z.shape (g2 (Xq x.shape (j : Nat)))).toNat < z.el.length := by omega
   simp [Qao, List.getD, this]
  rw [vR, vR, vR, vR, e1, e2];rw [show Xc (Qz (Xc (x.el.getD j r0))) = Xc (x.el.getD j r0) from Qkl _, show Xc (Qz (Xc (z.el.getD (Jj z.shape (g2 (Xq x.shape (j : Nat)))).toNat r0))) = Xc (z.el.getD (Jj z.shape (g2 (Xq x.shape (j : Nat)))).toNat r0) from Qkl _]
 ·have e1 := hπi j
  have e2 := hπi k
  have e : (Jj z.shape (g2 (Xq x.shape (j : Nat)))).toNat = (Jj z.shape (g2 (Xq x.shape (k : Nat)))).toNat := e
  rw [e, e2] at e1
  have e3 := congrArg g1 e1
  rw [(hx j).2.2, (hx k).2.2] at e3
  have e4 := hio j hj
  rw [← e3, hio k hk] at e4;omega
 ·rw [Xaj mx pz g1 hi]
  have hzn : ¬ Qav x.shape (g1 (Xq z.shape (i : Nat))) = 0 := fun he => by
   obtain ⟨l1, l2⟩ := h' (Xq z.shape (i : Nat)) (Kz _ _);obtain ⟨o1, o2, o3⟩ := Qfw he
   have hinb : inB x.shape (g1 (Xq z.shape (i : Nat))) = true := by
    cases hb : inB x.shape (g1 (Xq z.shape (i : Nat))) with
    | true => rfl
    | false => rw [Qav, if_neg (by omega), if_neg (by omega), if_neg (by rw [hb]; decide)] at he; cases he
   have hoN : Jj x.shape (g1 (Xq z.shape (i : Nat))) = Jw x.shape (g1 (Xq z.shape (i : Nat))) x.shape.length := by rw [Jj, if_pos he]
   have hid := Qus m2 l1 (Qek.1 hinb)
   rw [← hoN] at hid;refine hne (Jj x.shape (g1 (Xq z.shape (i : Nat)))).toNat (by omega) ?_
   rw [show (((Jj x.shape (g1 (Xq z.shape (i : Nat)))).toNat : Nat) : Int) = Jj x.shape (g1 (Xq z.shape (i : Nat))) by omega, hid, l2]
   have hzz : Qav z.shape (Xq z.shape (i : Nat)) = 0 := by rw [Qav, if_neg (by omega), if_neg (by rw [Kz]; omega), if_pos (Qek.2 (Qjx n2 (i : Nat)))]
   rw [Jj, if_pos hzz, Qul n2 (by omega) (by omega)]
   omega
  have e : atG (Qao x) (g1 (Xq z.shape (i : Nat))) = Zh 0 := by rw [atG, show (Qao x).shape = x.shape from rfl, if_neg hzn]
  rw [vR, e, show Xc (Qz (Zh 0)) = Zh 0 from Qih 0]
  have : Qdn (Zh 0) = 0 := by show mkRat 0 1 = 0; rfl
  rw [this, Rat.zero_mul]
theorem Qrk {p x : List Int} (hb : Zm p = true) (hx : x.length = p.length) : Kc (Yj p) (Kc p x p.length) (Yj p).length = x := by
 refine Qaa (by rw [Zz, Yl, hx]) fun j hj => ?_
 rw [Zz, Yl] at hj;obtain ⟨p1, p2, p3⟩ := (Jz p).1 hb j hj
 have h1 := Qm5 hb hj
 have h2 := Qec (p := Yj p) (x := Kc p x p.length) (Qd8 hb) (j := (p.getD j 0).toNat) (by rw [Yl]; omega) (Yj p).length (by rw [Yl]; omega) (Nat.le_refl _)
 rw [h1, Int.toNat_natCast] at h2;rw [h2];exact Qec (x := x) hb hj p.length hj (Nat.le_refl _)
theorem Qrj {s p : List Int} (hb : Zm p = true) (hl : p.length = s.length) {x : List Int} (hx : x.length = s.length) (hin : ∀ i, i < s.length → 0 ≤ x.getD i 0 ∧ x.getD i 0 < s.getD i 0) : (Kc (Yj p) x (Yj p).length).length = (Ze p s).length ∧ (∀ i, i < (Ze p s).length → 0 ≤ (Kc (Yj p) x (Yj p).length).getD i 0 ∧ (Kc (Yj p) x (Yj p).length).getD i 0 < (Ze p s).getD i 0) ∧ Kc p (Kc (Yj p) x (Yj p).length) p.length = x := by
 have hSl : (Ze p s).length = p.length := Yv _ _
 refine ⟨by rw [Zz, Yl, hSl], fun i hi => ?_, Qvn hb (by omega)⟩
 rw [hSl] at hi;obtain ⟨p1, p2, p3⟩ := (Jz p).1 hb i hi
 have h5 := Qec (p := Yj p) (x := x) (Qd8 hb) (j := (p.getD i 0).toNat) (by rw [Yl]; omega) (Yj p).length (by rw [Yl]; omega) (Nat.le_refl _)
 rw [Qm5 hb hi, Int.toNat_natCast] at h5;rw [h5, Ze, Qbh hi];exact hin _ (by omega)
theorem Qx0 {x y : Tn} {p : List Int} (h : Jc x p = 0) (my : Yy y = 0) (hs : (Jb x p).shape = y.shape) : Jc y (Yj p) = 0 ∧ (Jb y (Yj p)).shape = x.shape ∧ Kq (Jb x p) y (Jb x p).el.length = Kq x (Jb y (Yj p)) x.el.length ∧ (Jb x p = mvT x y.shape fun q => Kc p q p.length) ∧ Jb y (Yj p) = mvT y x.shape fun q => Kc (Yj p) q (Yj p).length := by
 obtain ⟨mx, hb, hl⟩ := Qey h
 have hT : Jb x p = mvT x (Ze p x.shape) fun q => Kc p q p.length := by rw [Jb, Qay h]
 have hy : y.shape = Ze p x.shape := by rw [← hs, hT]; rfl
 have hSl : (Ze p x.shape).length = p.length := Yv _ _
 have hE : Jc y (Yj p) = 0 := by rw [Jc, if_neg (by omega), if_neg (by rw [Qd8 hb, Yl, hy, hSl]; simp)]
 have hT2 : Jb y (Yj p) = mvT y x.shape fun q => Kc (Yj p) q (Yj p).length := by rw [Jb, Qay hE, hy, Qov hb hl]
 rw [← hy] at hT;refine ⟨hE, by rw [hT2]; rfl, ?_, hT, hT2⟩
 rw [hT, hT2];refine Qqg mx my (fun q hq hin => ?_) fun q hq => ⟨by rw [Zz]; exact hl, Qrk hb (by rw [hq, hy, hSl])⟩
 have := Qrj hb hl hq hin
 rw [← hy] at this;exact this
theorem Qwo {t : Tn} {l : List Int} (h : Qbw t l = 0) {z : Tn} (mz : Yy z = 0) (hz : z.shape = Qb6 l t.shape t.shape.length) : Qaq z (Kg t.shape l t.shape.length) = 0 ∧ Qbt z (Kg t.shape l t.shape.length) = mvT z t.shape (Qc4 (Kg t.shape l t.shape.length)) ∧ (∀ x : List Int, x.length = t.shape.length → (∀ i, i < t.shape.length → 0 ≤ x.getD i 0 ∧ x.getD i 0 < t.shape.getD i 0) → (Qc4 (Kg t.shape l t.shape.length) x).length = z.shape.length ∧ (∀ i, i < z.shape.length → 0 ≤ (Qc4 (Kg t.shape l t.shape.length) x).getD i 0 ∧ (Qc4 (Kg t.shape l t.shape.length) x).getD i 0 < z.shape.getD i 0) ∧ Qdf l (Qc4 (Kg t.shape l t.shape.length) x) = x) ∧ (∀ q : List Int, q.length = z.shape.length → (Qdf l q).length = t.shape.length ∧ Qc4 (Kg t.shape l t.shape.length) (Qdf l q) = q) := by
 have h0 := h
 rw [Qbw] at h;split at h
 ·contradiction
 split at h
 ·cases h
 split at h
 ·cases h
 split at h
 ·cases h
 rename_i h1 h2 h3 h4
 have hm : Yy t = 0 := by omega
 obtain ⟨hf, hmp, hel⟩ := Xw hm;obtain ⟨m1, m2, m3⟩ := Xs hmp
 have hng : ∀ j, j < l.length → 0 ≤ l.getD j 0 := fun j hj => by
  have hb : Qno l = false := by simpa using h3
  have := Qdx.1 hb j hj
  omega
 have hSl : (Qb6 l t.shape t.shape.length).length = t.shape.length := Yv _ _
 have hSg : ∀ j, j < t.shape.length → (Qb6 l t.shape t.shape.length).getD j 0 = l.getD (2 * j) 0 + t.shape.getD j 0 + l.getD (2 * j + 1) 0 := fun j hj => Qbh hj
 rw [← hz] at hSl hSg
 have hE : Qaq z (Kg t.shape l t.shape.length) = 0 := by
  rw [Qaq, if_neg (by omega), hSl, Qbp, if_neg (by omega), if_neg, if_neg]
  ·intro hc
   have : Qix (Kg t.shape l t.shape.length) z.shape = true := Qgt.2 fun j hj => by
    rw [hSl] at hj
    have h5 := hng (2 * j + 1) (by omega)
    rw [(Qcq t.shape l _ j hj).2, hSg j hj]; omega
   rw [this] at hc; cases hc
  ·intro hc
   have : Qiw (Kg t.shape l t.shape.length) t.shape.length = true := Qgs.2 fun j hj => by
    have h5 := hng (2 * j) (by omega)
    have h6 := Qbr m2 hj
    rw [(Qcq t.shape l _ j hj).1, (Qcq t.shape l _ j hj).2]; omega
   rw [this] at hc; cases hc
 have hS : Qap (Kg t.shape l t.shape.length) t.shape.length = t.shape := by
  refine Qaa (by rw [Qap, Yv]) fun j hj => ?_
  rw [Qap, Yv] at hj;rw [Qap, Qbh hj, (Qcq t.shape l _ j hj).1, (Qcq t.shape l _ j hj).2];omega
 have hag : ∀ (x : List Int) j, x.length = t.shape.length → j < t.shape.length → (Qc4 (Kg t.shape l t.shape.length) x).getD j 0 = x.getD j 0 + l.getD (2 * j) 0 := fun x j hx hj => by
  have := (Qcq t.shape l _ j hj).1
  have e : (Qc4 (Kg t.shape l t.shape.length) x).getD j 0 = x.getD j 0 + (Kg t.shape l t.shape.length).getD (2 * j) 0 := by simp [Qc4, List.getD, show j < x.length by omega]
  rw [e, this]
 have hsg : ∀ (x : List Int) j, j < x.length → (Qdf l x).getD j 0 = x.getD j 0 - l.getD (2 * j) 0 := fun x j hj => by simp [Qdf, List.getD, hj]
 refine ⟨hE, by rw [Qbt, Qay hE, hSl, hS], fun x hx hin => ?_, fun q hq => ?_⟩
 ·have hal : (Qc4 (Kg t.shape l t.shape.length) x).length = t.shape.length := by simp [Qc4, hx]
  refine ⟨by omega, fun j hj => ?_, ?_⟩
  ·rw [hSl] at hj
   have h5 := hng (2 * j) (by omega)
   have h6 := hng (2 * j + 1) (by omega)
   have h7 := hin j hj
   rw [hag x j hx hj, hSg j hj]; omega
  ·refine Qaa (by simp [Qdf, hal, hx]) fun j hj => ?_
   have hj' : j < t.shape.length := by simpa [Qdf, hal] using hj
   rw [hsg _ j (by omega), hag x j hx hj']; omega
 ·have hsl : (Qdf l q).length = t.shape.length := by simp [Qdf]; omega
  refine ⟨hsl, Qaa (by simp [Qc4, Qdf]) fun j hj => ?_⟩
  have hj' : j < t.shape.length := by
   have : j < (Qdf l q).length := by simpa [Qc4] using hj
   omega
  rw [hag _ j hsl hj', hsg q j (by omega)]; omega
theorem Qn2 {x z : Tn} {l : List Int} (h : Qbw x l = 0) (mz : Yy z = 0) (hs : (Qet x l).shape = z.shape) : Qaq z (Kg x.shape l x.shape.length) = 0 ∧ (Qbt z (Kg x.shape l x.shape.length)).shape = x.shape ∧ Kq (Qet x l) z (Qet x l).el.length = Kq x (Qbt z (Kg x.shape l x.shape.length)) x.el.length ∧ Qet x l = mvT x z.shape (Qdf l) ∧ Qbt z (Kg x.shape l x.shape.length) = mvT z x.shape (Qc4 (Kg x.shape l x.shape.length)) := by
 have hm := (Qdw h).1
 have hT : Qet x l = mvT x (Qb6 l x.shape x.shape.length) (Qdf l) := by rw [Qet, Qay h]
 have hz : z.shape = Qb6 l x.shape x.shape.length := by rw [← hs, hT]; rfl
 obtain ⟨f1, f2, f3, f4⟩ := Qwo h mz hz;rw [← hz] at hT;refine ⟨f1, by rw [f2]; rfl, ?_, hT, f2⟩
 rw [hT, f2];exact Qqg hm mz f3 f4
theorem Xfn {x z c d : Tn} (hx : TnOK x) (hz : TnOK z) (sx : TnS 1048576 x) (sz : TnS 1048576 z) (mx : Yy x = 0) (mz : Yy z = 0) {g1 g2 : List Int → List Int} (hc : c = mvT x z.shape g1) (hd : d = mvT z x.shape g2) (he : Kq c z c.el.length = Kq x d x.el.length) : ∃ D, RawOK (Qz D) ∧ Pu C 37 [tnV c, tnV z] (.tup [Qc2 D, .int .i64 0]) ∧ Pu C 37 [tnV x, tnV d] (.tup [Qc2 D, .int .i64 0]) := by
 obtain ⟨_, px, ex⟩ := Xw mx;obtain ⟨_, pz, ez⟩ := Xw mz;obtain ⟨m1, m2, m3⟩ := Xs px;obtain ⟨n1, n2, n3⟩ := Xs pz
 have mc := (Qkn mx pz g1).2
 have md := (Qkn mz px g2).2
 have tc := Qnp hx mx hz.s pz g1
 have td := Qnp hz mz hx.s px g2
 have sc := Qpr mx hx sx pz g1
 have sd := Qpr mz hz sz px g2
 rw [← hc] at mc tc sc;rw [← hd] at md td sd
 have sc' : c.shape = z.shape := by rw [hc]; rfl
 have sd' : d.shape = x.shape := by rw [hd]; rfl
 have ec := (Xw mc).2.2
 have ed := (Xw md).2.2
 rw [sc'] at ec;rw [sd'] at ed
 have w1 : TnS 1100000 z := fun r hr => by have := sz r hr; omega
 have w2 : TnS 1100000 x := fun r hr => by have := sx r hr; omega
 obtain ⟨o1, o2⟩ := Xb2 tc hz sc w1 (by omega) (by omega)
 obtain ⟨o3, o4⟩ := Xb2 hx td w2 sd (by omega) (by omega)
 have d1 := Qqf c z tc hz mc mz sc' o1 o2
 have d2 := Qqf x d hx td mx md sd'.symm o3 o4
 rw [← he] at d2;exact ⟨_, o1 _ (Nat.le_refl _), d1, d2⟩
theorem Ql4 (x : Tn) (p l : List Int) (y z : Tn) (hx : TnOK x) (hy : TnOK y) (hz : TnOK z) (sx : TnS 1048576 x) (sy : TnS 1048576 y) (sz : TnS 1048576 z) (hp : p.length ≤ 1048576) (hl : l.length ≤ 1048576) : Pu C 12 [tnV x, .sl p.length (ints p), .sl l.length (ints l), tnV y, tnV z] (.bool true) := by
 refine Fc.keep (Fc.bodyT Qe Tryz.func12 w12 rfl Tryz.ntmps12 Tryz.results12 (zLe rfl) ?_)
 (apply Zo;repeat' ((with_reducible first|apply Zk|(first|apply Za|apply Zb|apply Zc|apply Zd)<;>intro h)<;>try simp -implicitDefEqProofs (maxSteps:=9^7) (disch:=first|omega|(simp only [Qb];omega)) only [go_sem]))
 refine Fc.pure (Qgj x hx) (by simp [Qi, clo, Qc, Qm, Xo]) (fun g => rfl) ?_
 by_cases mx : Yy x = 0
 case neg =>
  (apply Zo;repeat' ((with_reducible first|apply Zk|(first|apply Za|apply Zb|apply Zc|apply Zd)<;>intro h)<;>try simp -implicitDefEqProofs (maxSteps:=9^7) (disch:=first|omega|(simp only [Qb];omega)) only [go_sem]))
  refine Fc.pure Zf rfl (fun g => rfl) ?_
  (apply Zo;repeat' ((with_reducible first|apply Zk|(first|apply Za|apply Zb|apply Zc|apply Zd)<;>intro h)<;>try simp -implicitDefEqProofs (maxSteps:=9^7) (disch:=first|omega|(simp only [Qb];omega)) only [go_sem]))
  (refine Qo (by intro g; simp only [go_sem, ren, Ql]) ?_)
  all_goals rfl
 rw [mx]
 (apply Zo;repeat' ((with_reducible first|apply Zk|(first|apply Za|apply Zb|apply Zc|apply Zd)<;>intro h)<;>try simp -implicitDefEqProofs (maxSteps:=9^7) (disch:=first|omega|(simp only [Qb];omega)) only [go_sem]))
 refine Fc.pure (Qgj y hy) (by simp [Qi, clo, Qc, Qm, Xo]) (fun g => rfl) ?_
 by_cases my : Yy y = 0
 case neg =>
  (apply Zo;repeat' ((with_reducible first|apply Zk|(first|apply Za|apply Zb|apply Zc|apply Zd)<;>intro h)<;>try simp -implicitDefEqProofs (maxSteps:=9^7) (disch:=first|omega|(simp only [Qb];omega)) only [go_sem]))
  refine Fc.pure Zf rfl (fun g => rfl) ?_
  (apply Zo;repeat' ((with_reducible first|apply Zk|(first|apply Za|apply Zb|apply Zc|apply Zd)<;>intro h)<;>try simp -implicitDefEqProofs (maxSteps:=9^7) (disch:=first|omega|(simp only [Qb];omega)) only [go_sem]))
  (refine Qo (by intro g; simp only [go_sem, ren, Ql]) ?_)
  all_goals rfl
 rw [my]
 (apply Zo;repeat' ((with_reducible first|apply Zk|(first|apply Za|apply Zb|apply Zc|apply Zd)<;>intro h)<;>try simp -implicitDefEqProofs (maxSteps:=9^7) (disch:=first|omega|(simp only [Qb];omega)) only [go_sem]))
 refine Fc.pure (Qgj z hz) (by simp [Qi, clo, Qc, Qm, Xo]) (fun g => rfl) ?_
 by_cases mz : Yy z = 0
 case neg =>
  (apply Zo;repeat' ((with_reducible first|apply Zk|(first|apply Za|apply Zb|apply Zc|apply Zd)<;>intro h)<;>try simp -implicitDefEqProofs (maxSteps:=9^7) (disch:=first|omega|(simp only [Qb];omega)) only [go_sem]))
  refine Fc.pure Zf rfl (fun g => rfl) ?_
  (apply Zo;repeat' ((with_reducible first|apply Zk|(first|apply Za|apply Zb|apply Zc|apply Zd)<;>intro h)<;>try simp -implicitDefEqProofs (maxSteps:=9^7) (disch:=first|omega|(simp only [Qb];omega)) only [go_sem]))
  (refine Qo (by intro g; simp only [go_sem, ren, Ql]) ?_)
  all_goals rfl
 rw [mz];obtain ⟨hf, hmp, hel⟩ := Xw mx;obtain ⟨m1, m2, m3⟩ := Xs hmp;obtain ⟨-, hmy, -⟩ := Xw my;obtain ⟨y1, y2, y3⟩ := Xs hmy
 have v1 := Qdo x hx p hp
 have T1 := Qvo hx hp
 have s1 := Qm7 x p
 have t1 := T1.s
 have v3 := Quj x hx l (by omega)
 have s3 : -1000000 ≤ Qbw x l ∧ Qbw x l ≤ 1000000 := by
  have h1 := Qko x
  have h2 := Qkp (Qb6 l x.shape x.shape.length)
  unfold Qbw;split <;> (try split) <;> (try split) <;> (try split) <;> omega
 have t3 : (Qet x l).shape.length ≤ 1000000000 := (Qmp fun h => by
  obtain ⟨q1, q2, q3, q4⟩ := Qdw h;exact Qnp hx mx (by rw [Qb6, Yv]; omega) q4 _ : TnOK (Qet x l)).s
 (apply Zo;repeat' ((with_reducible first|apply Zk|(first|apply Za|apply Zb|apply Zc|apply Zd)<;>intro h)<;>try simp -implicitDefEqProofs (maxSteps:=9^7) (disch:=first|omega|(simp only [Qb];omega)) only [go_sem]))
 refine v1.call ⟨.self (Xo _), .self (by simp [clo, Qc]), trivial⟩ (by simp [clo, Qi, Xo]) ?_
 by_cases h1 : Jc x p = 0
 ·obtain ⟨-, hb, hlp⟩ := Qey h1
  have dt := @Qx0 x y p h1 my
  rw [h1];generalize Jb x p = A at *
  (apply Zo;repeat' ((with_reducible first|apply Zk|(first|apply Za|apply Zb|apply Zc|apply Zd)<;>intro h)<;>try simp -implicitDefEqProofs (maxSteps:=9^7) (disch:=first|omega|(simp only [Qb];omega)) only [go_sem]))
  refine Fc.pure (Kj A.shape y.shape (by omega)) (by simp [Qi, clo, Qc]) (fun g => rfl) ?_
  by_cases e1 : A.shape = y.shape
  ·rw [decide_eq_true e1];obtain ⟨q1, q2, q3, q4, q5⟩ := dt e1;obtain ⟨D, o1, dA, dB⟩ := Xfn hx hy sx sy mx my q4 q5 q3
   have hsame := Qbi (Qz D) (Qz D) o1 o1
   rw [Qfu.2 rfl] at hsame
   have w1 := Qm4 p hb (by omega)
   have w2 := Qdo y hy (Yj p) (by rw [Yl]; omega)
   rw [q1] at w2;generalize Jb y (Yj p) = Bb at *
   (apply Zo;repeat' ((with_reducible first|apply Zk|(first|apply Za|apply Zb|apply Zc|apply Zd)<;>intro h)<;>try simp -implicitDefEqProofs (maxSteps:=9^7) (disch:=first|omega|(simp only [Qb];omega)) only [go_sem]))
   refine w1.pc ⟨.self (by simp [clo, Qc]), trivial⟩ (by simp [clo, Qc]) ?_
   (apply Zo;repeat' ((with_reducible first|apply Zk|(first|apply Za|apply Zb|apply Zc|apply Zd)<;>intro h)<;>try simp -implicitDefEqProofs (maxSteps:=9^7) (disch:=first|omega|(simp only [Qb];omega)) only [go_sem]))
   refine w2.pc ⟨.self (Xo _), .self (by simp [clo, Qc]), trivial⟩ (by simp [clo, Qi, Xo]) ?_
   (apply Zo;repeat' ((with_reducible first|apply Zk|(first|apply Za|apply Zb|apply Zc|apply Zd)<;>intro h)<;>try simp -implicitDefEqProofs (maxSteps:=9^7) (disch:=first|omega|(simp only [Qb];omega)) only [go_sem]))
   refine Fc.pure dA (by simp [Qi, clo, Qc, Qm]) (fun g => Ym _ _ (by simp [clo, Qi, Qw, Ky])) ?_
   (apply Zo;repeat' ((with_reducible first|apply Zk|(first|apply Za|apply Zb|apply Zc|apply Zd)<;>intro h)<;>try simp -implicitDefEqProofs (maxSteps:=9^7) (disch:=first|omega|(simp only [Qb];omega)) only [go_sem]))
   refine Fc.pure dB (by simp [Qi, clo, Qc, Qm]) (fun g => Ym _ _ (by simp [clo, Qi, Qw, Ky])) ?_
   (apply Zo;repeat' ((with_reducible first|apply Zk|(first|apply Za|apply Zb|apply Zc|apply Zd)<;>intro h)<;>try simp -implicitDefEqProofs (maxSteps:=9^7) (disch:=first|omega|(simp only [Qb];omega)) only [go_sem]))
   refine Fc.pure hsame (by simp [Qi, clo, Qk]) (fun g => rfl) ?_
   (apply Zo;repeat' ((with_reducible first|apply Zk|(first|apply Za|apply Zb|apply Zc|apply Zd)<;>intro h)<;>try simp -implicitDefEqProofs (maxSteps:=9^7) (disch:=first|omega|(simp only [Qb];omega)) only [go_sem]))
   refine v3.call ⟨.self (Xo _), .self (by simp [clo, Qc]), trivial⟩ (by simp [clo, Qi, Xo]) ?_
   by_cases h3 : Qbw x l = 0
   ·obtain ⟨-, r1, r2, -⟩ := Qdw h3
    have dp := @Qn2 x z l h3 mz
    rw [h3];generalize Qet x l = Cc at *
    (apply Zo;repeat' ((with_reducible first|apply Zk|(first|apply Za|apply Zb|apply Zc|apply Zd)<;>intro h)<;>try simp -implicitDefEqProofs (maxSteps:=9^7) (disch:=first|omega|(simp only [Qb];omega)) only [go_sem]))
    refine Fc.pure (Kj Cc.shape z.shape (by omega)) (by simp [Qi, clo, Qc]) (fun g => rfl) ?_
    by_cases e3 : Cc.shape = z.shape
    ·rw [decide_eq_true e3];obtain ⟨q1, q2, q3, q4, q5⟩ := dp e3;obtain ⟨D, o1, dA, dB⟩ := Xfn hx hz sx sz mx mz q4 q5 q3
     have hsame := Qbi (Qz D) (Qz D) o1 o1
     rw [Qfu.2 rfl] at hsame
     have w1 := Qej x.shape l r1 (by omega) (fun j hj => ⟨Qbr m2 hj, by have := Ya m2 hj; omega⟩) r2
     have w2 := Qft z hz (Kg x.shape l x.shape.length) (by rw [Qbp]; omega)
     rw [q1] at w2;generalize Qbt z (Kg x.shape l x.shape.length) = Dd at *
     (apply Zo;repeat' ((with_reducible first|apply Zk|(first|apply Za|apply Zb|apply Zc|apply Zd)<;>intro h)<;>try simp -implicitDefEqProofs (maxSteps:=9^7) (disch:=first|omega|(simp only [Qb];omega)) only [go_sem]))
     refine w1.pc ⟨.self (by simp [clo, Qc]), .self (by simp [clo, Qc]), trivial⟩ (by simp [clo, Qc]) ?_
     (apply Zo;repeat' ((with_reducible first|apply Zk|(first|apply Za|apply Zb|apply Zc|apply Zd)<;>intro h)<;>try simp -implicitDefEqProofs (maxSteps:=9^7) (disch:=first|omega|(simp only [Qb];omega)) only [go_sem]))
     refine w2.pc ⟨.self (Xo _), .self (by simp [clo, Qc]), trivial⟩ (by simp [clo, Qi, Xo]) ?_
     (apply Zo;repeat' ((with_reducible first|apply Zk|(first|apply Za|apply Zb|apply Zc|apply Zd)<;>intro h)<;>try simp -implicitDefEqProofs (maxSteps:=9^7) (disch:=first|omega|(simp only [Qb];omega)) only [go_sem]))
     refine Fc.pure dA (by simp [Qi, clo, Qc, Qm]) (fun g => Ym _ _ (by simp [clo, Qi, Qw, Ky])) ?_
     (apply Zo;repeat' ((with_reducible first|apply Zk|(first|apply Za|apply Zb|apply Zc|apply Zd)<;>intro h)<;>try simp -implicitDefEqProofs (maxSteps:=9^7) (disch:=first|omega|(simp only [Qb];omega)) only [go_sem]))
     refine Fc.pure dB (by simp [Qi, clo, Qc, Qm]) (fun g => Ym _ _ (by simp [clo, Qi, Qw, Ky])) ?_
     (apply Zo;repeat' ((with_reducible first|apply Zk|(first|apply Za|apply Zb|apply Zc|apply Zd)<;>intro h)<;>try simp -implicitDefEqProofs (maxSteps:=9^7) (disch:=first|omega|(simp only [Qb];omega)) only [go_sem]))
     refine Fc.pure hsame (by simp [Qi, clo, Qk]) (fun g => rfl) ?_
     (apply Zo;repeat' ((with_reducible first|apply Zk|(first|apply Za|apply Zb|apply Zc|apply Zd)<;>intro h)<;>try simp -implicitDefEqProofs (maxSteps:=9^7) (disch:=first|omega|(simp only [Qb];omega)) only [go_sem]))
     refine Fc.pure Zf rfl (fun g => rfl) ?_
     (apply Zo;repeat' ((with_reducible first|apply Zk|(first|apply Za|apply Zb|apply Zc|apply Zd)<;>intro h)<;>try simp -implicitDefEqProofs (maxSteps:=9^7) (disch:=first|omega|(simp only [Qb];omega)) only [go_sem]))
     (refine Qo (by intro g; simp only [go_sem, ren, Ql]) ?_)
     all_goals rfl
    ·rw [decide_eq_false e3]
     (apply Zo;repeat' ((with_reducible first|apply Zk|(first|apply Za|apply Zb|apply Zc|apply Zd)<;>intro h)<;>try simp -implicitDefEqProofs (maxSteps:=9^7) (disch:=first|omega|(simp only [Qb];omega)) only [go_sem]))
     refine Fc.pure Zf rfl (fun g => rfl) ?_
     (apply Zo;repeat' ((with_reducible first|apply Zk|(first|apply Za|apply Zb|apply Zc|apply Zd)<;>intro h)<;>try simp -implicitDefEqProofs (maxSteps:=9^7) (disch:=first|omega|(simp only [Qb];omega)) only [go_sem]))
     (refine Qo (by intro g; simp only [go_sem, ren, Ql]) ?_)
     all_goals rfl
   ·generalize Qbw x l = e3 at *;generalize Qet x l = Cc at *
    (apply Zo;repeat' ((with_reducible first|apply Zk|(first|apply Za|apply Zb|apply Zc|apply Zd)<;>intro h)<;>try simp -implicitDefEqProofs (maxSteps:=9^7) (disch:=first|omega|(simp only [Qb];omega)) only [go_sem]))
    refine Fc.pure Zf rfl (fun g => rfl) ?_
    (apply Zo;repeat' ((with_reducible first|apply Zk|(first|apply Za|apply Zb|apply Zc|apply Zd)<;>intro h)<;>try simp -implicitDefEqProofs (maxSteps:=9^7) (disch:=first|omega|(simp only [Qb];omega)) only [go_sem]))
    (refine Qo (by intro g; simp only [go_sem, ren, Ql]) ?_)
    all_goals rfl
  ·rw [decide_eq_false e1]
   (apply Zo;repeat' ((with_reducible first|apply Zk|(first|apply Za|apply Zb|apply Zc|apply Zd)<;>intro h)<;>try simp -implicitDefEqProofs (maxSteps:=9^7) (disch:=first|omega|(simp only [Qb];omega)) only [go_sem]))
   refine v3.call ⟨.self (Xo _), .self (by simp [clo, Qc]), trivial⟩ (by simp [clo, Qi, Xo]) ?_
   by_cases h3 : Qbw x l = 0
   ·obtain ⟨-, r1, r2, -⟩ := Qdw h3
    have dp := @Qn2 x z l h3 mz
    rw [h3];generalize Qet x l = Cc at *
    (apply Zo;repeat' ((with_reducible first|apply Zk|(first|apply Za|apply Zb|apply Zc|apply Zd)<;>intro h)<;>try simp -implicitDefEqProofs (maxSteps:=9^7) (disch:=first|omega|(simp only [Qb];omega)) only [go_sem]))
    refine Fc.pure (Kj Cc.shape z.shape (by omega)) (by simp [Qi, clo, Qc]) (fun g => rfl) ?_
    by_cases e3 : Cc.shape = z.shape
    ·rw [decide_eq_true e3];obtain ⟨q1, q2, q3, q4, q5⟩ := dp e3;obtain ⟨D, o1, dA, dB⟩ := Xfn hx hz sx sz mx mz q4 q5 q3
     have hsame := Qbi (Qz D) (Qz D) o1 o1
     rw [Qfu.2 rfl] at hsame
     have w1 := Qej x.shape l r1 (by omega) (fun j hj => ⟨Qbr m2 hj, by have := Ya m2 hj; omega⟩) r2
     have w2 := Qft z hz (Kg x.shape l x.shape.length) (by rw [Qbp]; omega)
     rw [q1] at w2;generalize Qbt z (Kg x.shape l x.shape.length) = Dd at *
     (apply Zo;repeat' ((with_reducible first|apply Zk|(first|apply Za|apply Zb|apply Zc|apply Zd)<;>intro h)<;>try simp -implicitDefEqProofs (maxSteps:=9^7) (disch:=first|omega|(simp only [Qb];omega)) only [go_sem]))
     refine w1.pc ⟨.self (by simp [clo, Qc]), .self (by simp [clo, Qc]), trivial⟩ (by simp [clo, Qc]) ?_
     (apply Zo;repeat' ((with_reducible first|apply Zk|(first|apply Za|apply Zb|apply Zc|apply Zd)<;>intro h)<;>try simp -implicitDefEqProofs (maxSteps:=9^7) (disch:=first|omega|(simp only [Qb];omega)) only [go_sem]))
     refine w2.pc ⟨.self (Xo _), .self (by simp [clo, Qc]), trivial⟩ (by simp [clo, Qi, Xo]) ?_
     (apply Zo;repeat' ((with_reducible first|apply Zk|(first|apply Za|apply Zb|apply Zc|apply Zd)<;>intro h)<;>try simp -implicitDefEqProofs (maxSteps:=9^7) (disch:=first|omega|(simp only [Qb];omega)) only [go_sem]))
     refine Fc.pure dA (by simp [Qi, clo, Qc, Qm]) (fun g => Ym _ _ (by simp [clo, Qi, Qw, Ky])) ?_
     (apply Zo;repeat' ((with_reducible first|apply Zk|(first|apply Za|apply Zb|apply Zc|apply Zd)<;>intro h)<;>try simp -implicitDefEqProofs (maxSteps:=9^7) (disch:=first|omega|(simp only [Qb];omega)) only [go_sem]))
     refine Fc.pure dB (by simp [Qi, clo, Qc, Qm]) (fun g => Ym _ _ (by simp [clo, Qi, Qw, Ky])) ?_
     (apply Zo;repeat' ((with_reducible first|apply Zk|(first|apply Za|apply Zb|apply Zc|apply Zd)<;>intro h)<;>try simp -implicitDefEqProofs (maxSteps:=9^7) (disch:=first|omega|(simp only [Qb];omega)) only [go_sem]))
     refine Fc.pure hsame (by simp [Qi, clo, Qk]) (fun g => rfl) ?_
     (apply Zo;repeat' ((with_reducible first|apply Zk|(first|apply Za|apply Zb|apply Zc|apply Zd)<;>intro h)<;>try simp -implicitDefEqProofs (maxSteps:=9^7) (disch:=first|omega|(simp only [Qb];omega)) only [go_sem]))
     refine Fc.pure Zf rfl (fun g => rfl) ?_
     (apply Zo;repeat' ((with_reducible first|apply Zk|(first|apply Za|apply Zb|apply Zc|apply Zd)<;>intro h)<;>try simp -implicitDefEqProofs (maxSteps:=9^7) (disch:=first|omega|(simp only [Qb];omega)) only [go_sem]))
     (refine Qo (by intro g; simp only [go_sem, ren, Ql]) ?_)
     all_goals rfl
    ·rw [decide_eq_false e3]
     (apply Zo;repeat' ((with_reducible first|apply Zk|(first|apply Za|apply Zb|apply Zc|apply Zd)<;>intro h)<;>try simp -implicitDefEqProofs (maxSteps:=9^7) (disch:=first|omega|(simp only [Qb];omega)) only [go_sem]))
     refine Fc.pure Zf rfl (fun g => rfl) ?_
     (apply Zo;repeat' ((with_reducible first|apply Zk|(first|apply Za|apply Zb|apply Zc|apply Zd)<;>intro h)<;>try simp -implicitDefEqProofs (maxSteps:=9^7) (disch:=first|omega|(simp only [Qb];omega)) only [go_sem]))
     (refine Qo (by intro g; simp only [go_sem, ren, Ql]) ?_)
     all_goals rfl
   ·generalize Qbw x l = e3 at *;generalize Qet x l = Cc at *
    (apply Zo;repeat' ((with_reducible first|apply Zk|(first|apply Za|apply Zb|apply Zc|apply Zd)<;>intro h)<;>try simp -implicitDefEqProofs (maxSteps:=9^7) (disch:=first|omega|(simp only [Qb];omega)) only [go_sem]))
    refine Fc.pure Zf rfl (fun g => rfl) ?_
    (apply Zo;repeat' ((with_reducible first|apply Zk|(first|apply Za|apply Zb|apply Zc|apply Zd)<;>intro h)<;>try simp -implicitDefEqProofs (maxSteps:=9^7) (disch:=first|omega|(simp only [Qb];omega)) only [go_sem]))
    (refine Qo (by intro g; simp only [go_sem, ren, Ql]) ?_)
    all_goals rfl
 ·generalize Jc x p = e1 at *;generalize Jb x p = A at *
  (apply Zo;repeat' ((with_reducible first|apply Zk|(first|apply Za|apply Zb|apply Zc|apply Zd)<;>intro h)<;>try simp -implicitDefEqProofs (maxSteps:=9^7) (disch:=first|omega|(simp only [Qb];omega)) only [go_sem]))
  refine v3.call ⟨.self (Xo _), .self (by simp [clo, Qc]), trivial⟩ (by simp [clo, Qi, Xo]) ?_
  by_cases h3 : Qbw x l = 0
  ·obtain ⟨-, r1, r2, -⟩ := Qdw h3
   have dp := @Qn2 x z l h3 mz
   rw [h3];generalize Qet x l = Cc at *
   (apply Zo;repeat' ((with_reducible first|apply Zk|(first|apply Za|apply Zb|apply Zc|apply Zd)<;>intro h)<;>try simp -implicitDefEqProofs (maxSteps:=9^7) (disch:=first|omega|(simp only [Qb];omega)) only [go_sem]))
   refine Fc.pure (Kj Cc.shape z.shape (by omega)) (by simp [Qi, clo, Qc]) (fun g => rfl) ?_
   by_cases e3 : Cc.shape = z.shape
   ·rw [decide_eq_true e3];obtain ⟨q1, q2, q3, q4, q5⟩ := dp e3;obtain ⟨D, o1, dA, dB⟩ := Xfn hx hz sx sz mx mz q4 q5 q3
    have hsame := Qbi (Qz D) (Qz D) o1 o1
    rw [Qfu.2 rfl] at hsame
    have w1 := Qej x.shape l r1 (by omega) (fun j hj => ⟨Qbr m2 hj, by have := Ya m2 hj; omega⟩) r2
    have w2 := Qft z hz (Kg x.shape l x.shape.length) (by rw [Qbp]; omega)
    rw [q1] at w2;generalize Qbt z (Kg x.shape l x.shape.length) = Dd at *
    (apply Zo;repeat' ((with_reducible first|apply Zk|(first|apply Za|apply Zb|apply Zc|apply Zd)<;>intro h)<;>try simp -implicitDefEqProofs (maxSteps:=9^7) (disch:=first|omega|(simp only [Qb];omega)) only [go_sem]))
    refine w1.pc ⟨.self (by simp [clo, Qc]), .self (by simp [clo, Qc]), trivial⟩ (by simp [clo, Qc]) ?_
    (apply Zo;repeat' ((with_reducible first|apply Zk|(first|apply Za|apply Zb|apply Zc|apply Zd)<;>intro h)<;>try simp -implicitDefEqProofs (maxSteps:=9^7) (disch:=first|omega|(simp only [Qb];omega)) only [go_sem]))
    refine w2.pc ⟨.self (Xo _), .self (by simp [clo, Qc]), trivial⟩ (by simp [clo, Qi, Xo]) ?_
    (apply Zo;repeat' ((with_reducible first|apply Zk|(first|apply Za|apply Zb|apply Zc|apply Zd)<;>intro h)<;>try simp -implicitDefEqProofs (maxSteps:=9^7) (disch:=first|omega|(simp only [Qb];omega)) only [go_sem]))
    refine Fc.pure dA (by simp [Qi, clo, Qc, Qm]) (fun g => Ym _ _ (by simp [clo, Qi, Qw, Ky])) ?_
    (apply Zo;repeat' ((with_reducible first|apply Zk|(first|apply Za|apply Zb|apply Zc|apply Zd)<;>intro h)<;>try simp -implicitDefEqProofs (maxSteps:=9^7) (disch:=first|omega|(simp only [Qb];omega)) only [go_sem]))
    refine Fc.pure dB (by simp [Qi, clo, Qc, Qm]) (fun g => Ym _ _ (by simp [clo, Qi, Qw, Ky])) ?_
    (apply Zo;repeat' ((with_reducible first|apply Zk|(first|apply Za|apply Zb|apply Zc|apply Zd)<;>intro h)<;>try simp -implicitDefEqProofs (maxSteps:=9^7) (disch:=first|omega|(simp only [Qb];omega)) only [go_sem]))
    refine Fc.pure hsame (by simp [Qi, clo, Qk]) (fun g => rfl) ?_
    (apply Zo;repeat' ((with_reducible first|apply Zk|(first|apply Za|apply Zb|apply Zc|apply Zd)<;>intro h)<;>try simp -implicitDefEqProofs (maxSteps:=9^7) (disch:=first|omega|(simp only [Qb];omega)) only [go_sem]))
    refine Fc.pure Zf rfl (fun g => rfl) ?_
    (apply Zo;repeat' ((with_reducible first|apply Zk|(first|apply Za|apply Zb|apply Zc|apply Zd)<;>intro h)<;>try simp -implicitDefEqProofs (maxSteps:=9^7) (disch:=first|omega|(simp only [Qb];omega)) only [go_sem]))
    (refine Qo (by intro g; simp only [go_sem, ren, Ql]) ?_)
    all_goals rfl
   ·rw [decide_eq_false e3]
    (apply Zo;repeat' ((with_reducible first|apply Zk|(first|apply Za|apply Zb|apply Zc|apply Zd)<;>intro h)<;>try simp -implicitDefEqProofs (maxSteps:=9^7) (disch:=first|omega|(simp only [Qb];omega)) only [go_sem]))
    refine Fc.pure Zf rfl (fun g => rfl) ?_
    (apply Zo;repeat' ((with_reducible first|apply Zk|(first|apply Za|apply Zb|apply Zc|apply Zd)<;>intro h)<;>try simp -implicitDefEqProofs (maxSteps:=9^7) (disch:=first|omega|(simp only [Qb];omega)) only [go_sem]))
    (refine Qo (by intro g; simp only [go_sem, ren, Ql]) ?_)
    all_goals rfl
  ·generalize Qbw x l = e3 at *;generalize Qet x l = Cc at *
   (apply Zo;repeat' ((with_reducible first|apply Zk|(first|apply Za|apply Zb|apply Zc|apply Zd)<;>intro h)<;>try simp -implicitDefEqProofs (maxSteps:=9^7) (disch:=first|omega|(simp only [Qb];omega)) only [go_sem]))
   refine Fc.pure Zf rfl (fun g => rfl) ?_
   (apply Zo;repeat' ((with_reducible first|apply Zk|(first|apply Za|apply Zb|apply Zc|apply Zd)<;>intro h)<;>try simp -implicitDefEqProofs (maxSteps:=9^7) (disch:=first|omega|(simp only [Qb];omega)) only [go_sem]))
   (refine Qo (by intro g; simp only [go_sem, ren, Ql]) ?_)
   all_goals rfl
theorem a_own : ownKnob Tryz.prog.godebug = none := by kernel_rfl
theorem a_laid : laidOutB Tryz.prog = true := by kernel_rfl
theorem Que {t : Nat} (hu : Tryz.prog.underlying t = some (.slice 3)) : U.Reads Tryz.prog t fun vs => ∃ xs : List Int, vs = [.sl xs.length (ints xs)] ∧ xs.length ≤ 1048576 ∧ ∀ x ∈ xs, (Lit.int .i64 x).wf = true := U.Reads.ints hu Tryz.underlying3 (by kernel_rfl)
theorem Xh4 : U.Reads Tryz.prog 59 fun vs => ∃ n : Nat, vs = [V.int .u32 (n : Nat)] ∧ n < 4294967296 := U.Reads.mono (U.Reads.int Tryz.underlying59) fun vs ⟨n, h, hw⟩ => by
 have hx : 0 ≤ n ∧ n ≤ 4294967295 := by simpa [Lit.wf, IntKind.min, IntKind.max, IntKind.signed, IntKind.bits] using hw
 exact ⟨n.toNat, by rw [h]; congr 2; omega, by omega⟩
theorem Qzq : U.Reads Tryz.prog 56 fun vs => ∃ l : List Nat, vs = [NA l] ∧ l.length ≤ 1048576 ∧ Lim l :=
 U.Reads.mono (U.Reads.slice1 (g := fun n : Nat => .int .u32 (n : Nat)) Tryz.underlying56 (by kernel_rfl) Xh4) fun vs ⟨xs, h1, h2, h3⟩ => ⟨xs, h1, h2, h3⟩
theorem Qqz {t : Nat} (hu : Tryz.prog.underlying t = some (.slice 3)) : U.ArgV Tryz.prog t fun u => ∃ xs : List Int, u = .sl xs.length (ints xs) ∧ xs.length ≤ 1048576 ∧ ∀ x ∈ xs, (Lit.int .i64 x).wf = true :=
 U.ArgV.mono (U.ArgV.one (Que hu) (by rw [hu])) fun u ⟨xs, h, h1, h2⟩ => ⟨xs, by simpa using h, h1, h2⟩
def SmR (x : Raw) : Prop := RawOK x ∧ x.num.length ≤ 1048576 ∧ x.den.length ≤ 1048576
theorem Xd9 : U.Reads Tryz.prog 58 fun vs => ∃ x : Raw, vs = [.bool x.neg, NA x.num, NA x.den] ∧ SmR x := by
 refine U.Reads.mono (U.Reads.struct (Qs := fun i vs => if i = 0 then ∃ b, vs = [V.bool b] else ∃ l : List Nat, vs = [NA l] ∧ l.length ≤ 1048576 ∧ Lim l) a_laid (of_decide_eq_true (by kernel_rfl)) Tryz.underlying58 ?_) ?_
 ·intro i f hf
  match i, hf with
  | 0, hf => cases hf; exact U.Reads.mono (U.Reads.bool Tryz.underlying4) fun vs h => by rw [if_pos rfl]; exact h
  | 1, hf => cases hf; exact U.Reads.mono Qzq fun vs h => by rw [if_neg (by decide)]; exact h
  | 2, hf => cases hf; exact U.Reads.mono Qzq fun vs h => by rw [if_neg (by decide)]; exact h
  | i + 3, hf => cases hf
 ·rintro u ⟨l, hl, hq, rfl⟩
  match l, hl with
  | [a, b, c], _ =>
   have h0 := hq 0 (by decide)
   have h1 := hq 1 (by decide)
   have h2 := hq 2 (by decide)
   obtain ⟨n, rfl⟩ := h0;obtain ⟨xs, rfl, hx, hx2⟩ := h1;obtain ⟨ys, rfl, hy, hy2⟩ := h2;exact ⟨⟨n, xs, ys⟩, rfl, ⟨by show xs.length ≤ _; omega, by show ys.length ≤ _; omega, hx2, hy2⟩, hx, hy⟩
theorem Qo6 : ∀ {l : List (List V)}, (∀ x ∈ l, ∃ r : Raw, x = [.bool r.neg, NA r.num, NA r.den] ∧ SmR r) → ∃ xs : List Raw, xs.length = l.length ∧ l.flatten = Xd xs ∧ ∀ x ∈ xs, SmR x
 | [], _ => ⟨[], rfl, rfl, by simp⟩
 | x :: l, h => by
  obtain ⟨a, rfl, ha⟩ := h x (by simp)
  obtain ⟨xs, h1, h2, h3⟩ := Qo6 (l := l) fun y hy => h y (by simp [hy])
  exact ⟨a :: xs, by simp [h1], by rw [List.flatten_cons, h2]; rfl, fun b hb => by
   rcases List.mem_cons.1 hb with rfl | hb
   ·exact ha
   ·exact h3 b hb⟩
theorem Qzp : U.Reads Tryz.prog 24 fun vs => ∃ xs : List Raw, vs = [.sl xs.length (Xd xs)] ∧ xs.length ≤ 1048576 ∧ ∀ x ∈ xs, SmR x :=
 U.Reads.mono (U.Reads.slice (s := 3) Tryz.underlying24 (by kernel_rfl) (by decide) Xd9) fun vs ⟨l, h1, h2, h3⟩ => by
  obtain ⟨xs, q1, q2, q3⟩ := Qo6 h1;exact ⟨xs, by rw [h3, q1, q2], by omega, q3⟩
theorem Qrz : U.Reads Tryz.prog 26 fun vs => ∃ t : Tn, vs = [.sl t.shape.length (ints t.shape), .sl t.el.length (Xd t.el)] ∧ TnOK t ∧ TnS 1048576 t := by
 refine U.Reads.mono (U.Reads.struct (Qs := fun i vs => if i = 0 then ∃ xs : List Int, vs = [.sl xs.length (ints xs)] ∧ xs.length ≤ 1048576 ∧ ∀ x ∈ xs, (Lit.int .i64 x).wf = true else ∃ xs : List Raw, vs = [.sl xs.length (Xd xs)] ∧ xs.length ≤ 1048576 ∧ ∀ x ∈ xs, SmR x) a_laid (of_decide_eq_true (by kernel_rfl)) Tryz.underlying26 ?_) ?_
 ·intro i f hf
  match i, hf with
  | 0, hf => cases hf; exact U.Reads.mono (Que Tryz.underlying23) fun vs h => by rw [if_pos rfl]; exact h
  | 1, hf => cases hf; exact U.Reads.mono Qzp fun vs h => by rw [if_neg (by decide)]; exact h
  | i + 2, hf => cases hf
 ·rintro u ⟨l, hl, hq, rfl⟩
  match l, hl with
  | [a, b], _ =>
   have h0 := hq 0 (by decide)
   have h1 := hq 1 (by decide)
   obtain ⟨xs, rfl, hx, _⟩ := h0;obtain ⟨ys, rfl, hy, hy2⟩ := h1;exact ⟨⟨xs, ys⟩, rfl, ⟨by show xs.length ≤ _; omega, by show ys.length ≤ _; omega, fun y h => (hy2 y h).1⟩, fun y h => (hy2 y h).2⟩
theorem Qfp : U.ArgV Tryz.prog 26 fun u => ∃ t : Tn, u = tnV t ∧ TnOK t ∧ TnS 1048576 t :=
 U.ArgV.mono (U.ArgV.struct Qrz Tryz.underlying26) fun u ⟨vs, h1, t, h2, h3⟩ => ⟨t, by rw [h1, h2]; rfl, h3⟩
theorem Qtu : U.ArgsV Tryz.prog [26, 22, 22, 26, 26] fun us => ∃ (x : Tn) (p l : List Int) (y z : Tn), us = [tnV x, .sl p.length (ints p), .sl l.length (ints l), tnV y, tnV z] ∧ (TnOK x ∧ TnOK y ∧ TnOK z) ∧ (TnS 1048576 x ∧ TnS 1048576 y ∧ TnS 1048576 z) ∧ p.length ≤ 1048576 ∧ l.length ≤ 1048576 := by
 refine U.ArgsV.mono (U.ArgsV.cons Qfp (U.ArgsV.cons (Qqz Tryz.underlying22) (U.ArgsV.cons (Qqz Tryz.underlying22) (U.ArgsV.cons Qfp (U.ArgsV.cons Qfp U.ArgsV.nil))))) ?_;rintro us ⟨_, _, rfl, ⟨x, rfl, hx, sx⟩, _, _, rfl, ⟨p, rfl, h2, _⟩, _, _, rfl, ⟨l, rfl, h3, _⟩, _, _, rfl, ⟨y, rfl, hy, sy⟩, _, _, rfl, ⟨z, rfl, hz, sz⟩, rfl⟩;exact ⟨x, p, l, y, z, rfl, ⟨hx, hy, hz⟩, ⟨sx, sy, sz⟩, h2, h3⟩
end Go.Proofs.YtjdbdmhjakfldaaGreat
end
