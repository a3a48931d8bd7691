/-
  Parts Pdq9, Pdq10, Pdq11, Pdq12, Mov5, Mov6, Mov7, La1, La2, La3, Rf0, Lw1, Rf1, Rf2, Lw2, Cat1, Cat3, Cat2, Rf5, Lw5, Rf6, Rf7, Lw10, Lw6, Lw8, Lw9, Lw11, Lw12, Lw13, RowU, RowB, one behind the other: a program logic of our own, contracts of functions.
-/
import Derived.Test.YtjdbdmhjakfldaaGreatB5

set_option linter.unusedVariables false
set_option linter.unusedSimpArgs false
set_option maxRecDepth 100000
set_option maxHeartbeats 8000000
section
namespace Go.Proofs.YtjdbdmhjakfldaaGreat
open Go.Bv
theorem Qkfz (r : Nat) (a b : Nat) (H0 : Heap) (xs : List Int) (hr : Qbz H0 r = some ⟨3, 1, ints xs⟩) (hab : a + 12 < b) (hb : b ≤ xs.length) (hn : xs.length ≤ 1048576) :
  Fc C 147 [.ref r 0 xs.length, .int .i64 (a : Nat), .int .i64 (b : Nat)] H0 (fun v H' => ∃ (p : Nat) (h : Int) (X : Heap), v = .tup [.int .i64 (p : Nat), .int .i64 h] ∧ (a ≤ p ∧ p < b) ∧ 0 ≤ h ∧ h ≤ 2 ∧ H' = H0 ++ X) := by
 obtain ⟨m, rfl⟩ : ∃ m : Nat, b = a + m := ⟨b - a, by omega⟩
 have hm : (((a + m : Nat) : Int) - (a : Int)) = (m : Nat) := by omega
 have hk1 : ((a : Int) + (m : Int) / 4 * 1) = ((a + m / 4 : Nat) : Int) := by omega
 have hk2 : ((a : Int) + (m : Int) / 4 * 2) = ((a + m / 4 * 2 : Nat) : Int) := by omega
 have hk3 : ((a : Int) + (m : Int) / 4 * 3) = ((a + m / 4 * 3 : Nat) : Int) := by omega
 obtain ⟨q, hq⟩ : ∃ q, H0.length = q := ⟨_, rfl⟩
 have hrq : r < q := by rw [← hq]; exact Qtz hr
 have hq2 : ∀ (z : Row), Qbz (H0 ++ [some z]) q = some z := fun z => by
  have := QQz H0 z
  rwa [hq] at this
 have hs2 : ∀ (z z' : Option Row), (H0 ++ [z]).set q z' = H0 ++ [z'] := fun z z' => by
  rw [List.set_append_right _ _ (by omega), hq, Nat.sub_self]; rfl
 have hr2 : ∀ Y, Qbz (H0 ++ Y) r = some ⟨3, 1, ints xs⟩ := fun Y => Qgz hr Y
 refine Fc.bodyT Qfz Tryz.func147 w147 rfl Tryz.ntmps147 Tryz.results147 (zLe rfl) ?_
 (refine Zo ?_;repeat' ((with_reducible first|refine Zk ?_|(first|apply Za|apply Zb|apply Zc|apply Zd)<;>intro h)<;>try simp -implicitDefEqProofs (maxSteps:=9^7) (disch:=first|omega|(simp only [lens];omega)) only [go_sem, hm, hk1, hk2, hk3, hq]))
 ·refine Fc.mono (Ywz r q a (a + m) (a + m / 4) 0 _ xs (hr2 _) (hq2 _) (by omega) hb (by omega) hn (by omega)) ?_
  rintro v H' ⟨i, s1, rfl, hi, hs1, rfl⟩
  rw [hs2]
  (refine Zo ?_;repeat' ((with_reducible first|refine Zk ?_|(first|apply Za|apply Zb|apply Zc|apply Zd)<;>intro h)<;>try simp -implicitDefEqProofs (maxSteps:=9^7) (disch:=first|omega|(simp only [lens];omega)) only [go_sem]))
  refine Fc.mono (Ywz r q a (a + m) (a + m / 4 * 2) s1 _ xs (hr2 _) (hq2 _) (by omega) hb (by omega) hn (by omega)) ?_
  rintro v H' ⟨j, s2, rfl, hj, hs2', rfl⟩
  rw [hs2]
  (refine Zo ?_;repeat' ((with_reducible first|refine Zk ?_|(first|apply Za|apply Zb|apply Zc|apply Zd)<;>intro h)<;>try simp -implicitDefEqProofs (maxSteps:=9^7) (disch:=first|omega|(simp only [lens];omega)) only [go_sem]))
  refine Fc.mono (Ywz r q a (a + m) (a + m / 4 * 3) s2 _ xs (hr2 _) (hq2 _) (by omega) hb (by omega) hn (by omega)) ?_
  rintro v H' ⟨k, s3, rfl, hk, hs3, rfl⟩
  rw [hs2]
  (refine Zo ?_;repeat' ((with_reducible first|refine Zk ?_|(first|apply Za|apply Zb|apply Zc|apply Zd)<;>intro h)<;>try simp -implicitDefEqProofs (maxSteps:=9^7) (disch:=first|omega|(simp only [lens];omega)) only [go_sem]))
  refine Fc.mono (ZPz r q a (a + m) i j k s3 _ xs (hr2 _) (hq2 _) (by omega) hb (by omega) (by omega) (by omega) hn (by omega)) ?_
  rintro v H' ⟨p, s4, rfl, hp, hs4, rfl⟩
  rw [hs2]
  (refine Zo ?_;repeat' ((with_reducible first|refine Zk ?_|(first|apply Za|apply Zb|apply Zc|apply Zd)<;>intro h)<;>try simp -implicitDefEqProofs (maxSteps:=9^7) (disch:=first|omega|(simp only [lens];omega)) only [go_sem, hq2]))
  ·exact ⟨p, 1, [_], rfl, hp, by decide, by decide, rfl⟩
  ·exact ⟨p, 2, [_], rfl, hp, by decide, by decide, rfl⟩
  ·exact ⟨p, 0, [_], rfl, hp, by decide, by decide, rfl⟩
 ·skip
  refine Fc.mono (ZPz r q a (a + m) (a + m / 4) (a + m / 4 * 2) (a + m / 4 * 3) 0 _ xs (hr2 _) (hq2 _) (by omega) hb (by omega) (by omega) (by omega) hn (by omega)) ?_
  rintro v H' ⟨p, s4, rfl, hp, hs4, rfl⟩
  rw [hs2]
  (refine Zo ?_;repeat' ((with_reducible first|refine Zk ?_|(first|apply Za|apply Zb|apply Zc|apply Zd)<;>intro h)<;>try simp -implicitDefEqProofs (maxSteps:=9^7) (disch:=first|omega|(simp only [lens];omega)) only [go_sem, hq2]))
  ·exact ⟨p, 1, [_], rfl, hp, by decide, by decide, rfl⟩
  ·exact ⟨p, 0, [_], rfl, hp, by decide, by decide, rfl⟩
end Go.Proofs.YtjdbdmhjakfldaaGreat
end
section
namespace Go.Proofs.YtjdbdmhjakfldaaGreat
open Go.Bv
def Wh (H0 : Heap) (r : Nat) (ys : List Int) (X : Heap) : Heap := H0.set r (some ⟨3, 1, ints ys⟩) ++ X
theorem ZKz {H0 : Heap} {r : Nat} (h : r < H0.length) (ys : List Int) (X : Heap) : Qbz (Wh H0 r ys X) r = some ⟨3, 1, ints ys⟩ :=
 Qgz (by simp [Qbz, h]) _
theorem Qewz {H0 : Heap} {r : Nat} (h : r < H0.length) (ys zs : List Int) (X : Heap) : (Wh H0 r ys X).set r (some ⟨3, 1, ints zs⟩) = Wh H0 r zs X := by
 rw [Wh, Wh, List.set_append_left _ _ (by rw [List.length_set]; exact h), List.set_set]
theorem Wh_app (H0 : Heap) (r : Nat) (ys : List Int) (X Y : Heap) : Wh H0 r ys X ++ Y = Wh H0 r ys (X ++ Y) := by rw [Wh, Wh, List.append_assoc]
section
variable {H0 X : Heap} {r L a b : Nat} {ws : List Int} {K : V → Heap → Prop} (hr : r < H0.length) (hl : ws.length = L) (hn : L ≤ 1048576)
include hr hl hn
theorem insW (hab : a ≤ b) (hb : b ≤ L) (hK : ∀ ys : List Int, ys.length = L → K (.tup []) (Wh H0 r ys X)) : Fc C 144 [.ref r 0 L, .int .i64 (a : Nat), .int .i64 (b : Nat)] (Wh H0 r ws X) K := by
 subst hl
 refine Fc.mono (Qfnz r a b _ ws (ZKz hr _ _) hab hb hn) ?_
 rintro v H' ⟨ys, rfl, h, rfl⟩
 rw [Qewz hr]; exact hK ys h
theorem heapW (hab : a + 1 ≤ b) (hb : b ≤ L) (hK : ∀ ys : List Int, ys.length = L → K (.tup []) (Wh H0 r ys X)) : Fc C 145 [.ref r 0 L, .int .i64 (a : Nat), .int .i64 (b : Nat)] (Wh H0 r ws X) K := by
 subst hl
 refine Fc.mono (Qhmz r a b _ ws (ZKz hr _ _) hab hb hn) ?_
 rintro v H' ⟨ys, rfl, h, rfl⟩
 rw [Qewz hr]; exact hK ys h
theorem revW (hab : a ≤ b) (hb : b ≤ L) (hK : ∀ ys : List Int, ys.length = L → K (.tup []) (Wh H0 r ys X)) : Fc C 148 [.ref r 0 L, .int .i64 (a : Nat), .int .i64 (b : Nat)] (Wh H0 r ws X) K := by
 subst hl
 refine Fc.mono (Qgxz r a b _ ws (ZKz hr _ _) hab hb hn) ?_
 rintro v H' ⟨ys, rfl, h, rfl⟩
 rw [Qewz hr]; exact hK ys h
theorem breakW (hab : a ≤ b) (hb : b ≤ L) (hK : ∀ (ys : List Int) (X : Heap), ys.length = L → K (.tup []) (Wh H0 r ys X)) : Fc C 146 [.ref r 0 L, .int .i64 (a : Nat), .int .i64 (b : Nat)] (Wh H0 r ws X) K := by
 subst hl
 refine Fc.mono (Qndz r a b _ ws (ZKz hr _ _) hab hb hn) ?_
 rintro v H' ⟨ys, Y, rfl, h, rfl⟩
 rw [Qewz hr, Wh_app]; exact hK ys _ h
theorem chooseW (hab : a + 12 < b) (hb : b ≤ L) (hK : ∀ (p : Nat) (h : Int) (X : Heap), a ≤ p → p < b → 0 ≤ h → h ≤ 2 → K (.tup [.int .i64 (p : Nat), .int .i64 h]) (Wh H0 r ws X)) : Fc C 147 [.ref r 0 L, .int .i64 (a : Nat), .int .i64 (b : Nat)] (Wh H0 r ws X) K := by
 subst hl
 refine Fc.mono (Qkfz r a b _ ws (ZKz hr _ _) hab hb hn) ?_
 rintro v H' ⟨p, h, Y, rfl, h1, h2, h3, rfl⟩
 rw [Wh_app]; exact hK p h _ h1.1 h1.2 h2 h3
theorem partInsW (hab : a + 1 ≤ b) (hb : b ≤ L) (hK : ∀ (ys : List Int) (w : Bool), ys.length = L → K (.bool w) (Wh H0 r ys X)) : Fc C 149 [.ref r 0 L, .int .i64 (a : Nat), .int .i64 (b : Nat)] (Wh H0 r ws X) K := by
 subst hl
 refine Fc.mono (Qjaz r a b _ ws (ZKz hr _ _) hab hb hn) ?_
 rintro v H' ⟨ys, w, rfl, h, rfl⟩
 rw [Qewz hr]; exact hK ys w h
theorem partEqW {p : Nat} (hab : a + 1 ≤ b) (hb : b ≤ L) (hp : p < L) (hK : ∀ (ys : List Int) (m : Nat), ys.length = L → a + 1 ≤ m → m ≤ b → K (.int .i64 (m : Nat)) (Wh H0 r ys X)) : Fc C 151 [.ref r 0 L, .int .i64 (a : Nat), .int .i64 (b : Nat), .int .i64 (p : Nat)] (Wh H0 r ws X) K := by
 subst hl
 refine Fc.mono (Qfhz r a b p _ ws (ZKz hr _ _) hab hb hp hn) ?_
 rintro v H' ⟨ys, m, rfl, h1, h2, h, rfl⟩
 rw [Qewz hr]; exact hK ys m h h1 h2
theorem partW {p : Nat} (hab : a + 1 ≤ b) (hb : b ≤ L) (hp : p < L) (hK : ∀ (ys : List Int) (m : Nat) (w : Bool), ys.length = L → a ≤ m → m < b → K (.tup [.int .i64 (m : Nat), .bool w]) (Wh H0 r ys X)) : Fc C 152 [.ref r 0 L, .int .i64 (a : Nat), .int .i64 (b : Nat), .int .i64 (p : Nat)] (Wh H0 r ws X) K := by
 subst hl
 refine Fc.mono (Qfgz r a b p _ ws (ZKz hr _ _) hab hb hp hn) ?_
 rintro v H' ⟨ys, m, w, rfl, h1, h2, h, rfl⟩
 rw [Qewz hr]; exact hK ys m w h h1 h2
end
end Go.Proofs.YtjdbdmhjakfldaaGreat
end
section
namespace Go.Proofs.YtjdbdmhjakfldaaGreat
open Go.Bv
theorem Qltz (r L : Nat) (hL : L ≤ 1048576) : ∀ (N a b : Nat) (lim : Int) (H0 X : Heap) (xs : List Int), b - a ≤ N → r < H0.length → xs.length = L → a ≤ b → b ≤ L → 0 ≤ lim → lim ≤ 64 →
  Fc C 124 [.ref r 0 L, .int .i64 (a : Nat), .int .i64 (b : Nat), .int .i64 lim] (Wh H0 r xs X) (fun v H' => ∃ (ys : List Int) (X : Heap), v = .tup [] ∧ ys.length = L ∧ H' = Wh H0 r ys X) := by
 intro N
 induction N using Nat.strongRecOn with
 | ind N ih =>
 intro a b lim H0 X xs hN hr hxl hab hb hl0 hl1
 refine Fc.bodyT Qfz Tryz.func124 w124 rfl Tryz.ntmps124 Tryz.results124 (zLe rfl) ?_
 (refine Zo ?_;repeat' ((with_reducible first|refine Zk ?_|(first|apply Za|apply Zb|apply Zc|apply Zd)<;>intro h)<;>try simp -implicitDefEqProofs (maxSteps:=9^7) (disch:=first|omega|(simp only [lens];omega)) only [go_sem]))
 refine Qcz (fun n ts H => ∃ (a b : Nat) (lim : Int) (w1 w2 : Bool) (ws : List Int) (X : Heap), (a ≤ b) ∧ (b ≤ L) ∧ (b - a ≤ N) ∧ (0 ≤ lim) ∧ (lim ≤ 64) ∧ (ws.length = L) ∧ (H = Wh H0 r ws X) ∧ (n = b - a) ∧ ts.length = 134 ∧ nth ts 0 = .ref r 0 L ∧ nth ts 1 = .int .i64 (a : Nat) ∧ nth ts 2 = .int .i64 (b : Nat) ∧ nth ts 3 = .int .i64 lim ∧ nth ts 8 = .bool w1 ∧ nth ts 9 = .bool w2) ?_ (n := b - a) ?_
 ·skip
  rintro n ts H ⟨a, b, lim, w1, w2, ws, X, hab, hb, hN, hl0, hl1, hl, hH, hn2, hL, hs0, hs1, hs2, hs3, hs8, hs9⟩
  refine Qqz [(0, .ref r 0 L), (1, .int .i64 (a : Nat)), (2, .int .i64 (b : Nat)), (3, .int .i64 lim), (8, .bool w1), (9, .bool w2)] hL (by simp only [zFm, hs0, hs1, hs2, hs3, hs8, hs9, true_and]; exact zNm) ?_
  clear hL hs0 hs1 hs2 hs3 hs8 hs9 ts
  refine Qsz Qfz ?_
  subst hH
  have hw := fun ys X => ZKz (X := X) hr ys
  (refine Zo ?_;repeat' ((with_reducible first|refine Zk ?_|(first|apply Za|apply Zb|apply Zc|apply Zd)<;>intro h)<;>try simp -implicitDefEqProofs (maxSteps:=9^7) (disch:=first|omega|(simp only [lens];omega)) only [go_sem]))
  repeat' first
   | (with_reducible refine chooseW hr (by assumption) hL (by omega) hb fun p h X hp1 hp2 hh1 hh2 => ?_
      cases w1
      all_goals first
       | contradiction
       | ((refine Zo ?_;repeat' ((with_reducible first|refine Zk ?_|(first|apply Za|apply Zb|apply Zc|apply Zd)<;>intro h)<;>try simp -implicitDefEqProofs (maxSteps:=9^7) (disch:=first|omega|(simp only [lens];omega)) only [go_sem, hw]))))
   | (with_reducible refine revW hr (by assumption) hL hab hb fun ys hy => ?_
      have hpv : ((b : Int) - 1 - ((p : Int) - (a : Int))) = ((b - 1 - (p - a) : Nat) : Int) := by omega
      (refine Zo ?_;repeat' ((with_reducible first|refine Zk ?_|(first|apply Za|apply Zb|apply Zc|apply Zd)<;>intro h)<;>try simp -implicitDefEqProofs (maxSteps:=9^7) (disch:=first|omega|(simp only [lens];omega)) only [go_sem, hw, hpv])))
   | (with_reducible refine partInsW hr (by assumption) hL (by omega) hb fun ys w hy => ?_
      cases w
      rotate_left
      focus
       (refine Zo ?_;repeat' ((with_reducible first|refine Zk ?_|(first|apply Za|apply Zb|apply Zc|apply Zd)<;>intro h)<;>try simp -implicitDefEqProofs (maxSteps:=9^7) (disch:=first|omega|(simp only [lens];omega)) only [go_sem, hw]))
       exact ⟨_, _, by assumption, rfl⟩
      (refine Zo ?_;repeat' ((with_reducible first|refine Zk ?_|(first|apply Za|apply Zb|apply Zc|apply Zd)<;>intro h)<;>try simp -implicitDefEqProofs (maxSteps:=9^7) (disch:=first|omega|(simp only [lens];omega)) only [go_sem, hw])))
   | (with_reducible refine Pc.pure (QEz _ _) rfl (fun g => rfl) ?_
      (refine Zo ?_;repeat' ((with_reducible first|refine Zk ?_|(first|apply Za|apply Zb|apply Zc|apply Zd)<;>intro h)<;>try simp -implicitDefEqProofs (maxSteps:=9^7) (disch:=first|omega|(simp only [lens];omega)) only [go_sem, hw])))
   | (with_reducible refine partEqW hr (by assumption) hL (by omega) hb (by omega) fun ys m hy hm1 hm2 => ?_
      (refine Zo ?_;repeat' ((with_reducible first|refine Zk ?_|(first|apply Za|apply Zb|apply Zc|apply Zd)<;>intro h)<;>try simp -implicitDefEqProofs (maxSteps:=9^7) (disch:=first|omega|(simp only [lens];omega)) only [go_sem]))
      exact ⟨b - m, by omega, m, b, _, _, _, _, _, by omega, by omega, by omega, by omega, by omega, by assumption, rfl, rfl, rfl, rfl, rfl, rfl, rfl⟩)
   | (with_reducible refine partW hr (by assumption) hL (by omega) hb (by omega) fun ys m w hy hm1 hm2 => ?_
      have hm3 : ((m : Int) + 1) = ((m + 1 : Nat) : Int) := rfl
      (refine Zo ?_;repeat' ((with_reducible first|refine Zk ?_|(first|apply Za|apply Zb|apply Zc|apply Zd)<;>intro h)<;>try simp -implicitDefEqProofs (maxSteps:=9^7) (disch:=first|omega|(simp only [lens];omega)) only [go_sem, hm3])))
   | (with_reducible refine Fc.mono (ih (N - 1) (by omega) a m _ _ _ _ (by omega) hr (by assumption) (by omega) (by omega) (by omega) (by omega)) ?_
      rintro v H' ⟨ys, X, rfl, hy, rfl⟩
      have hm3 : ((m : Int) + 1) = ((m + 1 : Nat) : Int) := rfl
      (refine Zo ?_;repeat' ((with_reducible first|refine Zk ?_|(first|apply Za|apply Zb|apply Zc|apply Zd)<;>intro h)<;>try simp -implicitDefEqProofs (maxSteps:=9^7) (disch:=first|omega|(simp only [lens];omega)) only [go_sem, hm3]))
      exact ⟨b - (m + 1), by omega, m + 1, b, _, _, _, _, _, by omega, by omega, by omega, by omega, by omega, by assumption, rfl, rfl, rfl, rfl, rfl, rfl, rfl⟩)
   | (with_reducible refine Fc.mono (ih (N - 1) (by omega) (m + 1) b _ _ _ _ (by omega) hr (by assumption) (by omega) (by omega) (by omega) (by omega)) ?_
      rintro v H' ⟨ys, X, rfl, hy, rfl⟩
      (refine Zo ?_;repeat' ((with_reducible first|refine Zk ?_|(first|apply Za|apply Zb|apply Zc|apply Zd)<;>intro h)<;>try simp -implicitDefEqProofs (maxSteps:=9^7) (disch:=first|omega|(simp only [lens];omega)) only [go_sem]))
      exact ⟨m - a, by omega, a, m, _, _, _, _, _, by omega, by omega, by omega, by omega, by omega, by assumption, rfl, rfl, rfl, rfl, rfl, rfl, rfl⟩)
   | (with_reducible refine insW hr (by assumption) hL hab hb fun ys hy => ?_
      (refine Zo ?_;repeat' ((with_reducible first|refine Zk ?_|(first|apply Za|apply Zb|apply Zc|apply Zd)<;>intro h)<;>try simp -implicitDefEqProofs (maxSteps:=9^7) (disch:=first|omega|(simp only [lens];omega)) only [go_sem]))
      exact ⟨_, _, by assumption, rfl⟩)
   | (with_reducible refine heapW hr (by assumption) hL (by omega) hb fun ys hy => ?_
      (refine Zo ?_;repeat' ((with_reducible first|refine Zk ?_|(first|apply Za|apply Zb|apply Zc|apply Zd)<;>intro h)<;>try simp -implicitDefEqProofs (maxSteps:=9^7) (disch:=first|omega|(simp only [lens];omega)) only [go_sem]))
      exact ⟨_, _, by assumption, rfl⟩)
   | (with_reducible refine breakW hr (by assumption) hL hab hb fun ys X hy => ?_
      (refine Zo ?_;repeat' ((with_reducible first|refine Zk ?_|(first|apply Za|apply Zb|apply Zc|apply Zd)<;>intro h)<;>try simp -implicitDefEqProofs (maxSteps:=9^7) (disch:=first|omega|(simp only [lens];omega)) only [go_sem])))
 ·exact ⟨a, b, lim, true, true, xs, X, by omega, by omega, by omega, by omega, by omega, hxl, rfl, by omega, rfl, rfl, rfl, rfl, rfl, rfl, rfl⟩
end Go.Proofs.YtjdbdmhjakfldaaGreat
end
section
namespace Go.Proofs.YtjdbdmhjakfldaaGreat
open Go.Bv
theorem Qlaz (r : Nat) (H0 : Heap) (xs : List Int) (hr : Qbz H0 r = some ⟨3, 1, ints xs⟩) (hn : xs.length ≤ 1048576) : Fc C 105 [.ref r 0 xs.length] H0 (fun v H' => ∃ (ys : List Int) (X : Heap), v = .tup [] ∧ ys.length = xs.length ∧ H' = Wh H0 r ys X) := by
 have hb : blen xs.length ≤ 21 := Xrz (by omega)
 have h := Qltz r xs.length hn xs.length 0 xs.length (blen xs.length : Nat) H0 [] xs (by omega) (Qtz hr) rfl (by omega) (Nat.le_refl _) (by omega) (by omega)
 rw [show Wh H0 r xs [] = H0 by rw [Wh, XXz hr, List.append_nil]] at h
 refine Fc.bodyT Qfz Tryz.func105 w105 rfl Tryz.ntmps105 Tryz.results105 (zLe rfl) ?_
 (refine Zo ?_;repeat' ((with_reducible first|refine Zk ?_|(first|apply Za|apply Zb|apply Zc|apply Zd)<;>intro h)<;>try simp -implicitDefEqProofs (maxSteps:=9^7) (disch:=first|omega|(simp only [lens];omega)) only [go_sem]))
 refine Fc.pure (Qojz _ (by omega)) (by simp [go_sem, cloL, clo, Qaz, Qnz]) (by intro g; simp only [go_sem, ren, renL]) ?_
 (refine Zo ?_;repeat' ((with_reducible first|refine Zk ?_|(first|apply Za|apply Zb|apply Zc|apply Zd)<;>intro h)<;>try simp -implicitDefEqProofs (maxSteps:=9^7) (disch:=first|omega|(simp only [lens];omega)) only [go_sem]))
 refine Fc.mono h ?_
 rintro v H' ⟨ys, X, rfl, hy, rfl⟩
 (refine Zo ?_;repeat' ((with_reducible first|refine Zk ?_|(first|apply Za|apply Zb|apply Zc|apply Zd)<;>intro h)<;>try simp -implicitDefEqProofs (maxSteps:=9^7) (disch:=first|omega|(simp only [lens];omega)) only [go_sem]))
 exact ⟨ys, X, hy, rfl⟩
theorem Qfrz (xs : List Int) (h0 : 0 < xs.length) (hx : xs.length ≤ 1048576) : Fc C 80 [vals xs] [] (fun v H => ∃ ys : List Int, ys.length = xs.length ∧ Ret 3 1 H v ys.length (ints ys)) := by
 refine Fc.keep (Fc.bodyT Qfz Tryz.func80 w80 rfl Tryz.ntmps80 Tryz.results80 (zLe rfl) ?_)
 (refine Zo ?_;repeat' ((with_reducible first|refine Zk ?_|(first|apply Za|apply Zb|apply Zc|apply Zd)<;>intro h)<;>try simp -implicitDefEqProofs (maxSteps:=9^7) (disch:=first|omega|(simp only [lens];omega)) only [go_sem]))
 refine Fc.own (Qbzz xs (by omega)) (by simp [cloL, clo, vals, Qaz]) (fun g => Qpz g _) fun v X hO => ?_
 rcases hO with ⟨rfl, h, h'⟩ | ⟨r, rfl, hr, hl⟩
 ·omega
 ·skip
  (refine Zo ?_;repeat' ((with_reducible first|refine Zk ?_|(first|apply Za|apply Zb|apply Zc|apply Zd)<;>intro h)<;>try simp -implicitDefEqProofs (maxSteps:=9^7) (disch:=first|omega|(simp only [lens];omega)) only [go_sem]))
  refine Fc.mono (Qlaz r _ xs hr hx) ?_
  rintro v H' ⟨ys, Y, rfl, hy, rfl⟩
  (refine Zo ?_;repeat' ((with_reducible first|refine Zk ?_|(first|apply Za|apply Zb|apply Zc|apply Zd)<;>intro h)<;>try simp -implicitDefEqProofs (maxSteps:=9^7) (disch:=first|omega|(simp only [lens];omega)) only [go_sem]))
  have hO : Go.Bv.Own 3 1 (Wh ([] ++ X) r ys Y) (.ref r 0 xs.length) ys.length (ints ys) := .inr ⟨r, by rw [hy], ZKz (Qtz hr) _ _, by simp [QUz]⟩
  exact hO.ret (fun g => Qpz g _) (fun v H h => ⟨ys, hy, h⟩)
theorem Qlcz (xs : List Int) (m : Nat) (hm : m ≤ 12) (h0 : 12 < xs.length) (hx : xs.length ≤ 1048576) : Pu C 40 [.sl xs.length (ints xs), .int .i64 (m : Nat)] (.int .i64 11) := by
 refine Fc.keep (Fc.bodyT Qfz Tryz.func40 w40 rfl Tryz.ntmps40 Tryz.results40 (zLe rfl) ?_)
 (refine Zo ?_;repeat' ((with_reducible first|refine Zk ?_|(first|apply Za|apply Zb|apply Zc|apply Zd)<;>intro h)<;>try simp -implicitDefEqProofs (maxSteps:=9^7) (disch:=first|omega|(simp only [lens];omega)) only [go_sem]))
 refine Fc.pure (Qexz xs) (by simp [cloL, clo, Qaz]) (fun g => Qauz g _ (by simp [vals, cloL, clo, Qaz])) ?_
 (refine Zo ?_;repeat' ((with_reducible first|refine Zk ?_|(first|apply Za|apply Zb|apply Zc|apply Zd)<;>intro h)<;>try simp -implicitDefEqProofs (maxSteps:=9^7) (disch:=first|omega|(simp only [lens];omega)) only [go_sem]))
 refine Fc.mono (Qfrz xs (by omega) hx) ?_
 rintro v H' ⟨ys, hl, hR⟩
 have hmx : (if (0 : Int) > (m : Int) then 0 else (m : Int)) = (m : Int) := if_neg (by omega)
 rcases hR with ⟨rfl, h, h', rfl⟩ | ⟨rfl, rfl, _⟩
 ·omega
 ·skip
  (refine Zo ?_;repeat' ((with_reducible first|refine Zk ?_|(first|apply Za|apply Zb|apply Zc|apply Zd)<;>intro h)<;>try simp -implicitDefEqProofs (maxSteps:=9^7) (disch:=first|omega|(simp only [lens];omega)) only [go_sem]))
  refine Qcz (fun n ts H => ∃ (i : Nat), (i ≤ ys.length) ∧ (H = [some ⟨3, 1, ints ys⟩]) ∧ (n = ys.length - i) ∧ ts.length = 27 ∧ nth ts 1 = .int .i64 (m : Nat) ∧ nth ts 4 = .int .i64 0 ∧ nth ts 5 = .ref 0 0 ys.length ∧ nth ts 11 = .ref 0 0 ys.length ∧ nth ts 12 = .int .i64 ys.length ∧ nth ts 13 = .int .i64 i) ?_ (n := ys.length) ?_
  ·skip
   rintro n ts H ⟨i, hi, hH, hn, hL, hs1, hs4, hs5, hs11, hs12, hs13⟩
   refine Qqz [(1, .int .i64 (m : Nat)), (4, .int .i64 0), (5, .ref 0 0 ys.length), (11, .ref 0 0 ys.length), (12, .int .i64 ys.length), (13, .int .i64 i)] hL (by simp only [zFm, hs1, hs4, hs5, hs11, hs12, hs13, true_and]; exact zNm) ?_
   clear hL hs1 hs4 hs5 hs11 hs12 hs13 ts
   refine Qsz Qfz ?_
   subst hH
   (refine Zo ?_;repeat' ((with_reducible first|refine Zk ?_|(first|apply Za|apply Zb|apply Zc|apply Zd)<;>intro h)<;>try simp -implicitDefEqProofs (maxSteps:=9^7) (disch:=first|omega|(simp only [lens];omega)) only [go_sem, hmx]))
   ·skip
    (refine Qmz (by intro g; simp only [go_sem, ren, renL]) ?_)
    rfl
   ·exact ⟨ys.length - (i + 1), by omega, i + 1, by omega, rfl, rfl⟩
   ·skip
    (refine Qmz (by intro g; simp only [go_sem, ren, renL]) ?_)
    rfl
  ·exact ⟨0, by omega, rfl, rfl, rfl, rfl, rfl, rfl, rfl, rfl, rfl⟩
theorem Qldz (xs : List Int) (m : Nat) (hm : m ≤ 12) (hx : xs.length ≤ 1048576) : Pu C 40 [.sl xs.length (ints xs), .int .i64 (m : Nat)] (.int .i64 (if (Xyz xs && decide (xs.length = m)) = true then 0 else 11)) := by
 by_cases h : xs.length ≤ 12
 ·exact Qlbz xs m (by omega) h
 ·have := Qlcz xs m hm (by omega) hx
  rwa [if_neg (by simp; omega)]
end Go.Proofs.YtjdbdmhjakfldaaGreat
end
section
namespace Go.Proofs.YtjdbdmhjakfldaaGreat
open Go.Bv
def putP (p x : List Int) : Nat → List Int
 | 0 => List.replicate p.length 0
 | k + 1 => (putP p x k).set (p.getD k 0).toNat (x.getD k 0)
theorem XBz (p x : List Int) (k : Nat) : (putP p x k).length = p.length := by
 induction k with
 | zero => simp [putP]
 | succ k ih => simp [putP, ih]
theorem Qpkz (p x : List Int) (hp : p.length ≤ 1000) (hx : x.length = p.length) (hb : ∀ j, j < p.length → 0 ≤ p.getD j 0 ∧ p.getD j 0 < p.length) : Val C 42 [.sl x.length (ints x), .rp [.sl p.length (ints p)] 0] (.sl (putP p x p.length).length (ints (putP p x p.length))) := by
 refine Val.ofRet (e := 3) (s := 1) ?_ (Qaz _) (QTz _)
 refine Fc.keep (Fc.bodyT Qfz Tryz.func42 w42 rfl Tryz.ntmps42 Tryz.results42 (zLe rfl) ?_)
 (refine Zo ?_;repeat' ((with_reducible first|refine Zk ?_|(first|apply Za|apply Zb|apply Zc|apply Zd)<;>intro h)<;>try simp -implicitDefEqProofs (maxSteps:=9^7) (disch:=first|omega|(simp only [lens];omega)) only [go_sem]))
 refine Y1z rfl rfl rfl rfl (by simp [t3bytes]) (by omega) ?_
 (refine Zo ?_;repeat' ((with_reducible first|refine Zk ?_|(first|apply Za|apply Zb|apply Zc|apply Zd)<;>intro h)<;>try simp -implicitDefEqProofs (maxSteps:=9^7) (disch:=first|omega|(simp only [lens];omega)) only [go_sem]))
 refine Qcz (fun n ts H => ∃ (k : Nat), (k ≤ p.length) ∧ (n = p.length - k) ∧ (Qbz H 0 = some ⟨3, 1, ints (putP p x k)⟩) ∧ ts.length = 26 ∧ nth ts 0 = .sl x.length (ints x) ∧ nth ts 1 = .rp [.sl p.length (ints p)] 0 ∧ nth ts 4 = .ref 0 0 p.length ∧ nth ts 10 = .sl p.length (ints p) ∧ nth ts 11 = .int .i64 p.length ∧ nth ts 12 = .int .i64 (k : Nat)) ?_ (n := p.length) ?_
 ·skip
  rintro n ts H ⟨k, hk, hn, h0, hL, hs0, hs1, hs4, hs10, hs11, hs12⟩
  refine Qqz [(0, .sl x.length (ints x)), (1, .rp [.sl p.length (ints p)] 0), (4, .ref 0 0 p.length), (10, .sl p.length (ints p)), (11, .int .i64 p.length), (12, .int .i64 (k : Nat))] hL (by simp only [zFm, hs0, hs1, hs4, hs10, hs11, hs12, true_and]; exact zNm) ?_
  clear hL hs0 hs1 hs4 hs10 hs11 hs12 ts
  refine Qsz Qfz ?_
  by_cases hc : k < p.length
  ·obtain ⟨b1, b2⟩ := hb k hc
   obtain ⟨d, hd⟩ : ∃ d : Nat, p.getD k 0 = d := ⟨(p.getD k 0).toNat, by omega⟩
   have hl := XBz p x k
   have hst : (putP p x k).set d (x.getD k 0) = putP p x (k + 1) := by rw [putP, hd]; rfl
   (refine Zo ?_;repeat' ((with_reducible first|refine Zk ?_|(first|apply Za|apply Zb|apply Zc|apply Zd)<;>intro h)<;>try simp -implicitDefEqProofs (maxSteps:=9^7) (disch:=first|omega|(simp only [lens];omega)) only [go_sem, hd, h0, QBz, hst]))
   exact ⟨p.length - (k + 1), by omega, k + 1, by omega, rfl, Qez h0, (by (repeat' apply And.intro) <;> (first | rfl | omega | (congr 1; omega) | assumption | (congr 1; assumption)))⟩
  ·have hks : k = p.length := by omega
   subst hks
   (refine Zo ?_;repeat' ((with_reducible first|refine Zk ?_|(first|apply Za|apply Zb|apply Zc|apply Zd)<;>intro h)<;>try simp -implicitDefEqProofs (maxSteps:=9^7) (disch:=first|omega|(simp only [lens];omega)) only [go_sem]))
   rw [XBz]
   exact Own.ret (.inr ⟨0, rfl, h0, by simp [QUz, XBz]⟩) (fun g => Qpz g _) fun v H h => h
 ·refine ⟨0, by omega, rfl, ?_, rfl, rfl, rfl, rfl, rfl, rfl, rfl⟩
  rw [putP, ← Qafz]; rfl
def Xaz (p s : List Int) : List Int := tabI (fun i => s.getD (p.getD i 0).toNat 0) p.length
def Xuz (t : Tn) (p : List Int) : Int := if mayT t ≠ 0 then mayT t else if (Xyz p && decide (p.length = t.shape.length)) = false then 11 else 0
def X9z (t : Tn) (p : List Int) : Tn := errT (mvT t (Xaz p t.shape) fun x => putP p x p.length) (Xuz t p)
theorem Qigz (hpm : ∀ s : List Int, mayP s = 0 → ∀ p : List Int, Xyz p = true → p.length = s.length → mayP (Xaz p s) = 0) (t : Tn) (ht : TnOK t) (p : List Int) (hp : p.length ≤ 1048576) (hPs : t.shape.length ≤ 4 → Pu C 40 [.sl p.length (ints p), .int .i64 (t.shape.length : Nat)] (.int .i64 (if (Xyz p && decide (p.length = t.shape.length)) = true then 0 else 11))) : Val C 13 [tnV t, .sl p.length (ints p)] (.tup [tnV (X9z t p), .int .i64 (Xuz t p)]) := by
 have hs := ht.s
 unfold X9z
 refine Fc.keep (Fc.bodyT Qfz Tryz.func13 w13 rfl Tryz.ntmps13 Tryz.results13 (zLe rfl) ?_)
 (refine Zo ?_;repeat' ((with_reducible first|refine Zk ?_|(first|apply Za|apply Zb|apply Zc|apply Zd)<;>intro h)<;>try simp -implicitDefEqProofs (maxSteps:=9^7) (disch:=first|omega|(simp only [lens];omega)) only [go_sem]))
 refine Fc.pure (ZZz t ht) (by simp [cloL, clo, Qaz, Qiz]) (fun g => rfl) ?_
 by_cases hm : mayT t = 0
 case neg =>
  (refine Zo ?_;repeat' ((with_reducible first|refine Zk ?_|(first|apply Za|apply Zb|apply Zc|apply Zd)<;>intro h)<;>try simp -implicitDefEqProofs (maxSteps:=9^7) (disch:=first|omega|(simp only [lens];omega)) only [go_sem]))
  exact Gd.ret (Qccz (by rw [Xuz, if_pos hm]) hm)
 obtain ⟨hf, hmp, hel⟩ := Q0z hm
 obtain ⟨m1, m2, m3⟩ := QFz hmp
 rw [hm]
 (refine Zo ?_;repeat' ((with_reducible first|refine Zk ?_|(first|apply Za|apply Zb|apply Zc|apply Zd)<;>intro h)<;>try simp -implicitDefEqProofs (maxSteps:=9^7) (disch:=first|omega|(simp only [lens];omega)) only [go_sem]))
 refine Fc.pure (hPs (by omega)) (by simp [cloL, clo, Qaz]) (fun g => rfl) ?_
 cases hb : (Xyz p && decide (p.length = t.shape.length)) with
 | false =>
  rw [if_neg (by decide)]
  (refine Zo ?_;repeat' ((with_reducible first|refine Zk ?_|(first|apply Za|apply Zb|apply Zc|apply Zd)<;>intro h)<;>try simp -implicitDefEqProofs (maxSteps:=9^7) (disch:=first|omega|(simp only [lens];omega)) only [go_sem]))
  exact Gd.ret (Qccz (by rw [Xuz, if_neg (by omega), if_pos hb]) (by decide))
 | true =>
  rw [if_pos rfl]
  rw [Bool.and_eq_true, decide_eq_true_eq] at hb
  obtain ⟨hb, hpl⟩ := hb
  have hin : ∀ j, j < p.length → 0 ≤ p.getD j 0 ∧ p.getD j 0 < p.length := fun j hj => by
   have := (XDz p).1 hb j hj
   exact ⟨this.1, this.2.1⟩
  have hE : Xuz t p = 0 := by rw [Xuz, if_neg (by omega), if_neg (by simp [hb, hpl])]
  rw [XFz hE, hE]
  (refine Zo ?_;repeat' ((with_reducible first|refine Zk ?_|(first|apply Za|apply Zb|apply Zc|apply Zd)<;>intro h)<;>try simp -implicitDefEqProofs (maxSteps:=9^7) (disch:=first|omega|(simp only [lens];omega)) only [go_sem]))
  refine Y1z rfl rfl rfl rfl (by simp [t3bytes]) (by omega) ?_
  (refine Zo ?_;repeat' ((with_reducible first|refine Zk ?_|(first|apply Za|apply Zb|apply Zc|apply Zd)<;>intro h)<;>try simp -implicitDefEqProofs (maxSteps:=9^7) (disch:=first|omega|(simp only [lens];omega)) only [go_sem]))
  refine Qcz (fun n ts H => ∃ (k : Nat) (z : List Int), (k ≤ p.length) ∧ (n = p.length - k) ∧ (z.length = p.length) ∧ (z.take k = tabI (fun i => t.shape.getD (p.getD i 0).toNat 0) k) ∧ (Qbz H 0 = some ⟨26, 2, [.sl t.shape.length (ints t.shape), .sl t.el.length (Qxz t.el)]⟩) ∧ (Qbz H 1 = some ⟨22, 1, [.sl p.length (ints p)]⟩) ∧ (Qbz H 2 = some ⟨26, 2, [.nil, .nil]⟩) ∧ (Qbz H 3 = some ⟨3, 1, ints z⟩) ∧ ts.length = 51 ∧ nth ts 2 = .ptr 0 0 ∧ nth ts 3 = .ptr 1 0 ∧ nth ts 4 = .ptr 2 0 ∧ nth ts 8 = .ref 3 0 p.length ∧ nth ts 29 = .sl p.length (ints p) ∧ nth ts 30 = .int .i64 p.length ∧ nth ts 31 = .int .i64 (k : Nat)) ?_ (n := p.length) ?_
  ·skip
   rintro n ts H ⟨k, z, hk, hn, hz, hzt, h0, h1, h2, h3, hL, hs2, hs3, hs4, hs8, hs29, hs30, hs31⟩
   refine Qqz [(2, .ptr 0 0), (3, .ptr 1 0), (4, .ptr 2 0), (8, .ref 3 0 p.length), (29, .sl p.length (ints p)), (30, .int .i64 p.length), (31, .int .i64 (k : Nat))] hL (by simp only [zFm, hs2, hs3, hs4, hs8, hs29, hs30, hs31, true_and]; exact zNm) ?_
   clear hL hs2 hs3 hs4 hs8 hs29 hs30 hs31 ts
   refine Qsz Qfz ?_
   by_cases hc : k < p.length
   ·obtain ⟨b1, b2⟩ := hin k hc
    obtain ⟨d, hd⟩ : ∃ d : Nat, p.getD k 0 = d := ⟨(p.getD k 0).toNat, by omega⟩
    have e0 : ∀ q, Qbz (H.set 3 q) 0 = some ⟨26, 2, [.sl t.shape.length (ints t.shape), .sl t.el.length (Qxz t.el)]⟩ := fun q => by rw [Qdz _ (by decide)]; exact h0
    have e1 : ∀ q, Qbz (H.set 3 q) 1 = some ⟨22, 1, [.sl p.length (ints p)]⟩ := fun q => by rw [Qdz _ (by decide)]; exact h1
    have e2 : ∀ q, Qbz (H.set 3 q) 2 = some ⟨26, 2, [.nil, .nil]⟩ := fun q => by rw [Qdz _ (by decide)]; exact h2
    (refine Zo ?_;repeat' ((with_reducible first|refine Zk ?_|(first|apply Za|apply Zb|apply Zc|apply Zd)<;>intro h)<;>try simp -implicitDefEqProofs (maxSteps:=9^7) (disch:=first|omega|(simp only [lens];omega)) only [go_sem, hd, h0, h3, QBz]))
    refine ⟨p.length - (k + 1), by omega, k + 1, z.set k (t.shape.getD d 0), by omega, rfl, by simp [hz], ?_, e0 _, e1 _, e2 _, Qez h3, (by (repeat' apply And.intro) <;> (first | rfl | omega | (congr 1; omega) | assumption | (congr 1; assumption)))⟩
    rw [Qdez, ← hzt, hd]
    refine List.ext_getElem (by simp; omega) fun j h1 h2 => ?_
    simp only [List.length_take, List.length_set] at h1
    rw [List.getElem_take, List.getElem_set, List.getElem_append]
    simp only [List.length_take, List.getElem_take]
    split
    ·rename_i hj; subst hj; rw [dif_neg (by omega)]; simp
    ·rename_i hj; rw [dif_pos (by omega)]
   ·have hks : k = p.length := by omega
    subst hks
    have hze : z = Xaz p t.shape := by rw [Xaz, ← hzt, ← hz, List.take_length]
    subst hze
    have hTm := hpm t.shape hmp p hb hpl
    have hmv := Qdzz t ht hf (Xaz p t.shape) (by rw [hz]; omega) hTm 42 [.rp [.sl p.length (ints p)] 0] (by simp [cloL, clo, Qaz]) (fun x => putP p x p.length) (fun x hx hxb => ⟨by rw [XBz]; omega, Qpkz p x (by omega) (by omega) hin⟩)
    (refine Zo ?_;repeat' ((with_reducible first|refine Zk ?_|(first|apply Za|apply Zb|apply Zc|apply Zd)<;>intro h)<;>try simp -implicitDefEqProofs (maxSteps:=9^7) (disch:=first|omega|(simp only [lens];omega)) only [go_sem, h0, h1]))
    refine Fc.sealed (r := 1) h1 (by simp [cloL, clo, Qaz]) ?_
    have he : szL 1 [.sl p.length (ints p)] [.agg [.sl t.shape.length (ints t.shape), .sl t.el.length (Qxz t.el)], .ref 3 0 p.length, .fn (.func 42) [] [.ptr 1 0]] = [tnV t, .ref 3 0 p.length, .fn (.func 42) [] [.rp [.sl p.length (ints p)] 0]] := by
     simp only [szL, sz, Xbz _ _ _ (Qaz _), Xbz _ _ _ (Qiz _), if_true]
     rfl
    rw [he]
    have hu : Bv.Own 3 1 (H.set 1 none) (.ref 3 0 p.length) (Xaz p t.shape).length (ints (Xaz p t.shape)) := by
     rw [hz]; exact .inr ⟨3, rfl, by rw [Qdz _ (by decide)]; exact h3, by rw [QUz, hz]; omega⟩
    have hlt := Qtz h3
    refine hmv.keptF ⟨.self (Qrz t), hu.bor' (Qaz _), .self (by simp [cloL, clo, Qaz]), trivial⟩ fun v X hv => ?_
    have f2 : Qbz (H.set 1 none ++ X) 2 = some ⟨26, 2, [.nil, .nil]⟩ := Qgz (by rw [Qdz _ (by decide)]; exact h2) X
    have f22 : ∀ row, Qbz ((H.set 1 none ++ X).set 2 (some row)) 2 = some row := fun row => Qez f2
    obtain ⟨w, e, rfl, hw, he⟩ := hv.tup2
    obtain ⟨a, b, rfl, ha, hb⟩ := hw.agg2
    obtain ⟨ka, ca, sa⟩ := Q9z ha.gd
    obtain ⟨kb, cb, sb⟩ := Q9z hb.gd
    rw [he.gd.int_inv]
    (refine Zo ?_;repeat' ((with_reducible first|refine Zk ?_|(first|apply Za|apply Zb|apply Zc|apply Zd)<;>intro h)<;>try simp -implicitDefEqProofs (maxSteps:=9^7) (disch:=first|omega|(simp only [lens];omega)) only [go_sem, f2, f22, ka, ca, sa, kb, cb, sb]))
    exact Gd.ret (Gd.tupL ⟨Gd.aggL ⟨(ha.set (q := 2) (by simp; omega) _).gd, (hb.set (q := 2) (by simp; omega) _).gd, trivial⟩, gd_i _ _, trivial⟩)
  ·exact ⟨0, List.replicate p.length 0, by omega, rfl, by simp, by simp [tabI], rfl, rfl, rfl, by rw [← Qafz]; rfl, rfl, rfl, rfl, rfl, rfl, rfl, rfl, rfl⟩
end Go.Proofs.YtjdbdmhjakfldaaGreat
end
section
namespace Go.Proofs.YtjdbdmhjakfldaaGreat
open Go.Bv
theorem Qpwz {l m : List Int} (h : l.Perm m) : Qlz l = Qlz m := by
 induction h with
 | nil => rfl
 | cons a _ ih => simp only [Qlz, ih]
 | swap a b l => simp only [Qlz]; rw [← Int.mul_assoc, ← Int.mul_assoc, Int.mul_comm a b]
 | trans _ _ h1 h2 => exact h1.trans h2
theorem turn_perm {x a : List Int} (hl : a.length = x.length) (hp : Xyz a = true) : (tabI (fun i => x.getD (a.getD i 0).toNat 0) a.length).Perm x := by
 have h1 := List.mergeSort_perm a (fun p q => decide (p ≤ q))
 have h2 := List.pairwise_mergeSort (le := fun p q : Int => decide (p ≤ q)) (by intro p q r; simp; omega) (by intro p q; simp; omega) a
 generalize a.mergeSort (fun p q => decide (p ≤ q)) = ys at h1 h2
 have hy := (Qbsz h1 (fun p q hpq hq => by
  rw [List.pairwise_iff_getElem] at h2
  have := h2 p q (by omega) hq hpq
  simpa [List.getD, hq, show p < ys.length by omega] using this)).1 hp
 have hyl := h1.length_eq
 have e1 : tabI (fun i => x.getD (a.getD i 0).toNat 0) a.length = a.map fun d => x.getD d.toNat 0 := by
  refine Y6z (by simp [QVz]) fun j hj => ?_
  rw [QVz] at hj
  rw [Ylz hj]
  simp [List.getD, hj]
 have e2 : (ys.map fun d => x.getD d.toNat 0) = x := by
  refine Y6z (by simp; omega) fun j hj => ?_
  have hj' : j < ys.length := by simpa using hj
  have := hy j hj'
  simp only [List.getD, List.getElem?_eq_getElem hj', Option.getD_some] at this
  simp [List.getD, hj', this]
 rw [e1]
 exact ((h1.map _).symm).trans (by rw [e2])
theorem ZCz (s : List Int) (h0 : mayP s = 0) (p : List Int) (hp : Xyz p = true) (hl : p.length = s.length) : mayP (Xaz p s) = 0 := by
 obtain ⟨h1, h2, h3⟩ := QFz h0
 have hpm : (Xaz p s).Perm s := turn_perm hl hp
 have hm : ∀ d ∈ Xaz p s, 1 ≤ d := fun d hd => h2 d (hpm.mem_iff.1 hd)
 have hln := hpm.length_eq
 unfold mayP
 rw [if_neg (by omega), if_pos (by simpa using hm), if_neg (by rw [Qpwz hpm]; omega)]
theorem Qguz (t : Tn) (ht : TnOK t) (p : List Int) (hp : p.length ≤ 12) : Val C 13 [tnV t, .sl p.length (ints p)] (.tup [tnV (X9z t p), .int .i64 (Xuz t p)]) := Qigz ZCz t ht p (by omega) fun h => Qlbz p t.shape.length (by omega) hp
def YVz (t : Tn) (s : List Int) : Int := if mayT t ≠ 0 then mayT t else if mayP s ≠ 0 then mayP s else if (t.el.length : Int) ≠ Qlz s then 13 else 0
def Z3z (t : Tn) (s : List Int) : Tn := errT (Qhgz ⟨s, t.el⟩) (YVz t s)
def Qjxz (t : Tn) (s : List Int) : Int := if mayT t ≠ 0 then mayT t else mayP s
theorem Qrdz (t : Tn) (ht : TnOK t) (s : List Int) (hs : s.length ≤ 1000000000) : Pu C 58 [tnV t, .sl s.length (ints s)] (.int .i64 (Qjxz t s)) := by
 refine Fc.keep (Fc.bodyT Qfz Tryz.func58 w58 rfl Tryz.ntmps58 Tryz.results58 (zLe rfl) ?_)
 (refine Zo ?_;repeat' ((with_reducible first|refine Zk ?_|(first|apply Za|apply Zb|apply Zc|apply Zd)<;>intro h)<;>try simp -implicitDefEqProofs (maxSteps:=9^7) (disch:=first|omega|(simp only [lens];omega)) only [go_sem]))
 refine Fc.pure (ZZz t ht) (by simp [cloL, clo, Qaz, Qiz]) (fun g => rfl) ?_
 (refine Zo ?_;repeat' ((with_reducible first|refine Zk ?_|(first|apply Za|apply Zb|apply Zc|apply Zd)<;>intro h)<;>try simp -implicitDefEqProofs (maxSteps:=9^7) (disch:=first|omega|(simp only [lens];omega)) only [go_sem]))
 ·skip
  (refine Qmz (by intro g; simp only [go_sem, ren, renL]) ?_)
  rw [Qjxz, if_pos (by assumption)]
 ·skip
  refine Fc.pure (ZFz s (by omega)) (by simp [go_sem, cloL, clo, Qaz, Qnz]) (by intro g; simp only [go_sem, ren, renL]) ?_
  (refine Zo ?_;repeat' ((with_reducible first|refine Zk ?_|(first|apply Za|apply Zb|apply Zc|apply Zd)<;>intro h)<;>try simp -implicitDefEqProofs (maxSteps:=9^7) (disch:=first|omega|(simp only [lens];omega)) only [go_sem]))
  (refine Qmz (by intro g; simp only [go_sem, ren, renL]) ?_)
  rw [Qjxz, if_neg (by omega)]
theorem ZNz (t : Tn) (ht : TnOK t) (s : List Int) (hs : s.length ≤ 1000000000) : Val C 24 [tnV t, .sl s.length (ints s)] (.tup [tnV (Z3z t s), .int .i64 (YVz t s)]) := by
 have hmk := Qiiz ⟨s, t.el⟩ ⟨hs, ht.e, ht.r⟩
 unfold Z3z
 refine Fc.keep (Fc.bodyT Qfz Tryz.func24 w24 rfl Tryz.ntmps24 Tryz.results24 (zLe rfl) ?_)
 (refine Zo ?_;repeat' ((with_reducible first|refine Zk ?_|(first|apply Za|apply Zb|apply Zc|apply Zd)<;>intro h)<;>try simp -implicitDefEqProofs (maxSteps:=9^7) (disch:=first|omega|(simp only [lens];omega)) only [go_sem]))
 refine Fc.pure (Qrdz t ht s hs) (by simp [cloL, clo, Qaz, Qiz]) (fun g => by simp [tnV, ren, renL, Qpz, QWz _ _ (Qiz t.el)]) ?_
 by_cases h : Qjxz t s = 0
 ·have hm : mayT t = 0 := Classical.byContradiction fun hn => by rw [Qjxz, if_pos hn] at h; exact hn h
  have hs0 : mayP s = 0 := by rw [Qjxz, if_neg (by omega)] at h; exact h
  have hE : Xpz ⟨s, t.el⟩ = YVz t s := by
   show (if mayP s ≠ 0 then mayP s else if (t.el.length : Int) ≠ countP s then 13 else 0) = _
   have hc : countP s = Qlz s := by rw [countP, if_pos hs0]
   simp only [YVz, hm, hs0, hc, ne_eq, not_true_eq_false, if_false]
  have hT : mkT ⟨s, t.el⟩ = (errT (Qhgz ⟨s, t.el⟩) (YVz t s), YVz t s) := by
   rw [mkT, hE, errT]
   by_cases hz : YVz t s = 0
   ·rw [if_neg (by omega), if_neg (by omega), hz]
   ·rw [if_pos hz, if_pos hz]
  rw [hT] at hmk
  rw [h]
  (refine Zo ?_;repeat' ((with_reducible first|refine Zk ?_|(first|apply Za|apply Zb|apply Zc|apply Zd)<;>intro h)<;>try simp -implicitDefEqProofs (maxSteps:=9^7) (disch:=first|omega|(simp only [lens];omega)) only [go_sem]))
  refine hmk.keptF ⟨.self (by simp [clo, Qaz]), .self (by simp [clo, Qiz]), trivial⟩ fun v X hv => ?_
  obtain ⟨w, e, rfl, hw, he⟩ := hv.tup2
  obtain ⟨a, b, rfl, ha, hb⟩ := hw.agg2
  obtain ⟨ka, ca, sa⟩ := Q9z ha.gd
  obtain ⟨kb, cb, sb⟩ := Q9z hb.gd
  rw [he.gd.int_inv]
  (refine Zo ?_;repeat' ((with_reducible first|refine Zk ?_|(first|apply Za|apply Zb|apply Zc|apply Zd)<;>intro h)<;>try simp -implicitDefEqProofs (maxSteps:=9^7) (disch:=first|omega|(simp only [lens];omega)) only [go_sem, ka, ca, sa, kb, cb, sb]))
  exact Gd.ret (Gd.tupL ⟨Gd.aggL ⟨(ha.set (q := 1) (by simp) _).gd, (hb.set (q := 1) (by simp) _).gd, trivial⟩, gd_i _ _, trivial⟩)
 ·have hE : YVz t s = Qjxz t s := by
   unfold YVz Qjxz at *
   by_cases hm : mayT t ≠ 0
   ·rw [if_pos hm, if_pos hm]
   ·rw [if_neg hm] at h
    rw [if_neg hm, if_neg hm, if_pos h]
  (refine Zo ?_;repeat' ((with_reducible first|refine Zk ?_|(first|apply Za|apply Zb|apply Zc|apply Zd)<;>intro h)<;>try simp -implicitDefEqProofs (maxSteps:=9^7) (disch:=first|omega|(simp only [lens];omega)) only [go_sem]))
  exact Gd.ret (Qccz hE h)
end Go.Proofs.YtjdbdmhjakfldaaGreat
end
section
namespace Go.Proofs.YtjdbdmhjakfldaaGreat
open Go.Bv
end Go.Proofs.YtjdbdmhjakfldaaGreat
end
section
namespace Go.Proofs.YtjdbdmhjakfldaaGreat
open Go.Bv
def X8z (s l : List Int) : Tq := ⟨s, l.map intQ⟩
def QMz (s l : List Int) : Tn := Xvz (X8z s l)
theorem ints_snoc {xs : List Int} {i : Nat} (h : i < xs.length) : ZGz ((xs.map intQ).take (i + 1)) = ZGz ((xs.map intQ).take i) ++ [.bool (intQ (xs.getD i 0)).neg, DV (intQ (xs.getD i 0)).num, DV (intQ (xs.getD i 0)).den] := by
 have : (xs.map intQ).getD i q0 = intQ (xs.getD i 0) := by simp [List.getD, h]
 have hh := refs_snoc (xs := xs.map intQ) (i := i) (by simpa using h)
 rw [this] at hh
 exact hh
theorem whole_ok {s l : List Int} (hs : s.length ≤ 1000000000) (hl : l.length ≤ 1000000000) (hb : ∀ x ∈ l, -9223372036854775808 ≤ x ∧ x < 9223372036854775808) : TqOK (X8z s l) := ⟨hs, by simpa [X8z] using hl, fun x hx => by
 simp only [X8z, List.mem_map] at hx
 obtain ⟨a, ha, rfl⟩ := hx
 have := hb a ha
 refine ⟨?_, ?_⟩
 ·have : dlen a.natAbs ≤ 16 := XUz (Nat.lt_of_lt_of_le (show a.natAbs < 9223372036854775809 by omega) (by decide))
  show dlen a.natAbs ≤ _
  omega
 ·show dlen 1 ≤ _
  rw [Qhoz]; decide⟩
theorem whole_val (s l : List Int) (hs : s.length ≤ 1000000) (hl : l.length ≤ 1000000) (hb : ∀ x ∈ l, -9223372036854775808 ≤ x ∧ x < 9223372036854775808) : Val C 49 [.sl s.length (ints s), .sl l.length (ints l)] (tnV (QMz s l)) := by
 refine Fc.keep (Fc.bodyT Qfz Tryz.func49 w49 rfl Tryz.ntmps49 Tryz.results49 (zLe rfl) ?_)
 (refine Zo ?_;repeat' ((with_reducible first|refine Zk ?_|(first|apply Za|apply Zb|apply Zc|apply Zd)<;>intro h)<;>try simp -implicitDefEqProofs (maxSteps:=9^7) (disch:=first|omega|(simp only [lens];omega)) only [go_sem]))
 refine Qcz (fun n ts H => ∃ (i : Nat) (u : V), (i ≤ l.length) ∧ (Qbz H 0 = some ⟨26, 2, [.nil, .nil]⟩) ∧ (Qbz H 1 = some ⟨34, 2, [.sl s.length (ints s), u]⟩) ∧ (Cel 2 72 3 H u i (ZGz ((l.map intQ).take i))) ∧ (n = l.length - i) ∧ ts.length = 27 ∧ nth ts 1 = .sl l.length (ints l) ∧ nth ts 4 = .ptr 0 0 ∧ nth ts 5 = .ptr 1 0 ∧ nth ts 6 = .int .i64 (i : Nat)) ?_ (n := l.length) ?_
 ·skip
  rintro n ts H ⟨i, u, hi, h0, h3, hu, hn, hL, hs1, hs4, hs5, hs6⟩
  refine Qqz [(1, .sl l.length (ints l)), (4, .ptr 0 0), (5, .ptr 1 0), (6, .int .i64 (i : Nat))] hL (by simp only [zFm, hs1, hs4, hs5, hs6, true_and]; exact zNm) ?_
  clear hL hs1 hs4 hs5 hs6 ts
  refine Qsz Qfz ?_
  have hlen := Qtz h3
  by_cases hcase : i < l.length
  ·have hx := Xnz.1 hb i hcase
   (refine Zo ?_;repeat' ((with_reducible first|refine Zk ?_|(first|apply Za|apply Zb|apply Zc|apply Zd)<;>intro h)<;>try simp -implicitDefEqProofs (maxSteps:=9^7) (disch:=first|omega|(simp only [lens];omega)) only [go_sem, h3]))
   refine Pc.keptF (Qqwz (l.getD i 0) hx.1 hx.2) (Qirz _) ⟨.self rfl, trivial⟩ fun v X hv => ?_
   obtain ⟨v1, v2, v3, rfl, hv1, hv2, hv3⟩ := hv.agg3
   obtain ⟨k2, c2, s2⟩ := Q9z hv2.gd
   obtain ⟨k3, c3, s3⟩ := Q9z hv3.gd
   have e1 := hv1.gd.bool_inv
   subst e1
   (refine Zo ?_;repeat' ((with_reducible first|refine Zk ?_|(first|apply Za|apply Zb|apply Zc|apply Zd)<;>intro h)<;>try simp -implicitDefEqProofs (maxSteps:=9^7) (disch:=first|omega|(simp only [lens];omega)) only [go_sem, h3, k2, c2, s2, k3, c3, s3]))
   refine Cel.push3 hu rfl rfl (by omega) (by omega) hv2 hv3 s2 s3 fun v' H' hu' hk' k4 c4 s4 => ?_
   have g0 := hk' 0 _ (by decide) h0
   have g3 := hk' 1 _ (by decide) h3
   (refine Zo ?_;repeat' ((with_reducible first|refine Zk ?_|(first|apply Za|apply Zb|apply Zc|apply Zd)<;>intro h)<;>try simp -implicitDefEqProofs (maxSteps:=9^7) (disch:=first|omega|(simp only [lens];omega)) only [go_sem, g3, k4, c4, s4]))
   have f0 : ∀ (q : Nat) (row : Row) (z : Option Row), q ≠ 1 → Qbz H' q = some row → Qbz (H'.set 1 z) q = some row := fun q row z hq hr => by rw [Qdz _ (Ne.symm hq)]; exact hr
   refine ⟨l.length - (i + 1), by omega, i + 1, v', by omega, f0 0 _ _ (by decide) g0, Qez g3, ?_, rfl, by congr 1⟩
   rw [ints_snoc hcase]
   exact Cel.set hu' (by decide) _
  ·obtain ⟨k4, c4, s4⟩ := Cel.kn hu
   have hil : i = l.length := by omega
   rw [hil, List.take_of_length_le (by simp)] at hu
   have hg : Bor H (.agg [.sl s.length (ints s), u]) (tqV (X8z s l)) := Bor.aggL ⟨.self (by simp [clo, Qaz]), by simpa [X8z] using (Cel.gd hu).bor, trivial⟩
   (refine Zo ?_;repeat' ((with_reducible first|refine Zk ?_|(first|apply Za|apply Zb|apply Zc|apply Zd)<;>intro h)<;>try simp -implicitDefEqProofs (maxSteps:=9^7) (disch:=first|omega|(simp only [lens];omega)) only [go_sem, h3, k4, c4, s4]))
   refine (Qnhz (X8z s l) (whole_ok (by omega) (by omega) hb)).keptF ⟨hg, trivial⟩ fun v X hv => ?_
   obtain ⟨a, b, rfl, ha, hb'⟩ := hv.agg2
   obtain ⟨ka, ca, sa⟩ := Q9z ha.gd
   obtain ⟨kb, cb, sb⟩ := Q9z hb'.gd
   have a0 := Qgz h0 X
   have hst : ∀ z : Row, Qbz ((H ++ X).set 0 (some z)) 0 = some z := fun z => Qez a0
   (refine Zo ?_;repeat' ((with_reducible first|refine Zk ?_|(first|apply Za|apply Zb|apply Zc|apply Zd)<;>intro h)<;>try simp -implicitDefEqProofs (maxSteps:=9^7) (disch:=first|omega|(simp only [lens];omega)) only [go_sem, a0, hst, ka, ca, sa, kb, cb, sb]))
   exact Gd.ret (Gd.aggL ⟨(ha.set (q := 0) (by omega) _).gd, (hb'.set (q := 0) (by omega) _).gd, trivial⟩)
 ·exact ⟨0, .nil, by omega, rfl, rfl, Cel.nil _ _ _ _, rfl, rfl, rfl, rfl, rfl, rfl⟩
end Go.Proofs.YtjdbdmhjakfldaaGreat
end
section
namespace Go.Proofs.YtjdbdmhjakfldaaGreat
open Go.Bv
def NmQ (r : Rq) : Prop := valQ (Xoz r) = r
def atG (q : Tq) (l : List Int) : Rq := if offE q.shape l = 0 then q.el.getD (offN q.shape l).toNat q0 else intQ 0
def mvQ (q : Tq) (s : List Int) (g : List Int → List Int) : Tq := ⟨s, (List.range (Qlz s).toNat).map fun i => atG q (g (idxL s (i : Nat)))⟩
theorem Qarz (r : Rq) : valQ (Xoz r) = Zfz r.neg r.num r.den := by
 show Zfz r.neg (lv 4294967296 (dg 4294967296 r.num)) (lv 4294967296 (dg 4294967296 r.den)) = _
 rw [Qmlz (by decide), Qmlz (by decide)]
theorem Qoez (a : Int) : NmQ (intQ a) := by
 rw [NmQ, Qarz]
 show Zfz (decide (a < 0)) a.natAbs 1 = ⟨decide (a < 0), a.natAbs, 1⟩
 by_cases h : a = 0
 ·subst h; rfl
 ·rw [Zfz, if_neg (by omega)]
  simp
theorem nm_val (x : Raw) : NmQ (valQ x) := by
 rw [NmQ, Qarz, valQ]
 generalize lv 4294967296 x.num = p
 generalize lv 4294967296 x.den = q
 by_cases h : p = 0 ∨ q = 0
 ·rw [X4z h]; rfl
 ·have hg := Qhnz h
  have hc : Nat.gcd (p / Nat.gcd p q) (q / Nat.gcd p q) = 1 := Nat.coprime_div_gcd_div_gcd hg
  have h1 : 0 < p / Nat.gcd p q := Nat.div_pos (Nat.le_of_dvd (by omega) (Nat.gcd_dvd_left p q)) hg
  have h2 : 0 < q / Nat.gcd p q := Nat.div_pos (Nat.le_of_dvd (by omega) (Nat.gcd_dvd_right p q)) hg
  have e : Zfz x.neg p q = ⟨x.neg, p / Nat.gcd p q, q / Nat.gcd p q⟩ := if_neg h
  rw [e]
  show Zfz x.neg (p / Nat.gcd p q) (q / Nat.gcd p q) = _
  rw [Zfz, if_neg (by omega), hc, Nat.div_one, Nat.div_one]
theorem Qhiz (q : Tq) (hn : ∀ r ∈ q.el, NmQ r) (he : (q.el.length : Int) = Qlz q.shape) (s : List Int) (g : List Int → List Int) : mvT (Xvz q) s g = Xvz (mvQ q s g) := by
 show (⟨s, ((mvL (Xvz q) s g (Qlz s).toNat).map valQ).map Xoz⟩ : Tn) = ⟨s, (mvQ q s g).el.map Xoz⟩
 congr 2
 show (mvL (Xvz q) s g (Qlz s).toNat).map valQ = (List.range (Qlz s).toNat).map fun i => atG q (g (idxL s (i : Nat)))
 rw [mvL, gatL, List.map_map]
 refine List.map_congr_left fun i _ => ?_
 simp only [Function.comp]
 by_cases h : isAt (Xvz q) (g (idxL s (i : Nat))) = true
 ·rw [if_pos h, if_pos h]
  have hz : offE q.shape (g (idxL s (i : Nat))) = 0 := of_decide_eq_true h
  obtain ⟨h1, h2, h3⟩ := Qdtz hz
  rw [atG, if_pos hz, Qiwz]
  obtain ⟨m, hm⟩ : ∃ m : Nat, offN q.shape (g (idxL s (i : Nat))) = m := ⟨(offN q.shape (g (idxL s (i : Nat)))).toNat, by omega⟩
  have hm' : m < q.el.length := by omega
  simp only [Xvz, hm, Int.toNat_natCast]
  have e1 : (q.el.map Xoz).getD m r0 = Xoz (q.el.getD m q0) := by simp [List.getD, hm']
  rw [e1]
  exact hn _ (by simp [List.getD, hm'])
 ·rw [if_neg h]
  have hz : ¬ offE q.shape (g (idxL s (i : Nat))) = 0 := fun e => h (decide_eq_true e)
  rw [atG, if_neg hz, Qfcz]
  exact Qoez 0
def mvI (s0 l s : List Int) (g : List Int → List Int) : List Int := (List.range (Qlz s).toNat).map fun i => if offE s0 (g (idxL s (i : Nat))) = 0 then l.getD (offN s0 (g (idxL s (i : Nat)))).toNat 0 else 0
theorem atG_whole (s0 l p : List Int) : atG (X8z s0 l) p = if offE s0 p = 0 then (l.map intQ).getD (offN s0 p).toNat q0 else intQ 0 := rfl
theorem Qdyz (s0 l : List Int) (he : (l.length : Int) = Qlz s0) (s : List Int) (g : List Int → List Int) : mvT (QMz s0 l) s g = QMz s (mvI s0 l s g) := by
 rw [QMz, Qhiz (X8z s0 l) (fun r hr => by
  simp only [X8z, List.mem_map] at hr
  obtain ⟨a, _, rfl⟩ := hr
  exact Qoez a) (by simpa [X8z] using he), QMz]
 congr 1
 show (⟨s, (List.range (Qlz s).toNat).map fun i => atG (X8z s0 l) (g (idxL s (i : Nat)))⟩ : Tq) = ⟨s, (mvI s0 l s g).map intQ⟩
 congr 1
 rw [mvI, List.map_map]
 refine List.map_congr_left fun i _ => ?_
 simp only [Function.comp, atG_whole]
 by_cases hz : offE s0 (g (idxL s (i : Nat))) = 0
 ·rw [if_pos hz, if_pos hz]
  obtain ⟨h1, h2, h3⟩ := Qdtz hz
  have : (offN s0 (g (idxL s (i : Nat)))).toNat < l.length := by omega
  simp [List.getD, this]
 ·rw [if_neg hz, if_neg hz]
theorem Qayz (s l : List Int) (hm : mayP s = 0) (he : (l.length : Int) = Qlz s) : mayT (QMz s l) = 0 := by
 have hf : Xpz (QMz s l) = 0 := by
  show (if mayP s ≠ 0 then mayP s else if (((l.map intQ).map Xoz).length : Int) ≠ countP s then 13 else 0) = 0
  have hc : countP s = Qlz s := by rw [countP, if_pos hm]
  rw [hm, hc]; simp [he]
 rw [mayT, hf, if_neg (by decide), if_pos]
 rw [List.all_eq_true]
 intro x hx
 simp only [QMz, X8z, Xvz, List.mem_map] at hx
 obtain ⟨_, ⟨a, _, rfl⟩, rfl⟩ := hx
 rw [okR, ZRz, Qoez a]
theorem Qckz {s l : List Int} (hs : s.length ≤ 1000000) (hl : l.length ≤ 1000000) (hb : ∀ x ∈ l, -9223372036854775808 ≤ x ∧ x < 9223372036854775808) : TnOK (QMz s l) := by
 refine ⟨show s.length ≤ 1000000000 by omega, by simp [QMz, X8z, Xvz]; omega, fun x hx => ?_⟩
 simp only [QMz, X8z, Xvz, List.mem_map] at hx
 obtain ⟨_, ⟨a, ha, rfl⟩, rfl⟩ := hx
 have := hb a ha
 have h1 : (dg B32 a.natAbs).length ≤ 2 := QKz (by decide) _ _ (Nat.lt_of_lt_of_le (show a.natAbs < 9223372036854775809 by omega) (by decide))
 have h2 : (dg B32 1).length ≤ 1 := QKz (by decide) _ _ (by decide)
 exact ⟨show (dg B32 a.natAbs).length ≤ _ by omega, show (dg B32 1).length ≤ _ by omega, Xlz _, Xlz _⟩
theorem Qiqz (t : Tn) : Qlpz t t = true := by
 simp only [Qlpz, decide_true, Bool.true_and]
 rw [Qdiz]
 intro i _
 simp [Qgwz]
end Go.Proofs.YtjdbdmhjakfldaaGreat
end
section
namespace Go.Proofs.YtjdbdmhjakfldaaGreat
open Go.Bv
theorem k1E : Xuz (QMz [2, 3] [1, 2, 3, 4, 5, 6]) [1, 0] = 0 := by
 rw [Xuz, Qayz _ _ (by decide) (by decide)]
 rfl
theorem k1T : X9z (QMz [2, 3] [1, 2, 3, 4, 5, 6]) [1, 0] = QMz [3, 2] [1, 4, 2, 5, 3, 6] := by
 rw [X9z, XFz k1E, Qdyz _ _ (by decide)]
 rfl
theorem k2E : YBz (QMz [2, 3] [1, 2, 3, 4, 5, 6]) [0, 1, 1, 3] = 0 := by
 rw [YBz, Qayz _ _ (by decide) (by decide)]
 rfl
theorem k2T : Qfvz (QMz [2, 3] [1, 2, 3, 4, 5, 6]) [0, 1, 1, 3] = QMz [1, 2] [2, 3] := by
 rw [Qfvz, XFz k2E, Qdyz _ _ (by decide)]
 rfl
theorem k3E : padE (QMz [1, 2] [2, 3]) [0, 0, 1, 0] = 0 := by
 rw [padE, Qayz _ _ (by decide) (by decide)]
 rfl
theorem k3T : padT (QMz [1, 2] [2, 3]) [0, 0, 1, 0] = QMz [1, 3] [0, 2, 3] := by
 rw [padT, XFz k3E, Qdyz _ _ (by decide)]
 rfl
theorem t1_val : Val C 13 [tnV (QMz [2, 3] [1, 2, 3, 4, 5, 6]), .sl 2 [.int .i64 1, .int .i64 0]] (.tup [tnV (QMz [3, 2] [1, 4, 2, 5, 3, 6]), .int .i64 0]) := by
 have h := Qguz (QMz [2, 3] [1, 2, 3, 4, 5, 6]) (Qckz (by decide) (by decide) (by decide)) [1, 0] (by decide)
 rw [k1E, k1T] at h
 exact h
theorem t2_val : Val C 20 [tnV (QMz [2, 3] [1, 2, 3, 4, 5, 6]), .sl 4 [.int .i64 0, .int .i64 1, .int .i64 1, .int .i64 3]] (.tup [tnV (QMz [1, 2] [2, 3]), .int .i64 0]) := by
 have h := Ziz (QMz [2, 3] [1, 2, 3, 4, 5, 6]) (Qckz (by decide) (by decide) (by decide)) [0, 1, 1, 3] (by decide)
 rw [k2E, k2T] at h
 exact h
theorem t3_val : Val C 22 [tnV (QMz [1, 2] [2, 3]), .sl 4 [.int .i64 0, .int .i64 0, .int .i64 1, .int .i64 0]] (.tup [tnV (QMz [1, 3] [0, 2, 3]), .int .i64 0]) := by
 have h := pad_val (QMz [1, 2] [2, 3]) (Qckz (by decide) (by decide) (by decide)) [0, 0, 1, 0] (by decide)
 rw [k3E, k3T] at h
 exact h
theorem w_val (s l : List Int) (hs : s.length ≤ 1000000) (hl : l.length ≤ 1000000) (hb : ∀ x ∈ l, -9223372036854775808 ≤ x ∧ x < 9223372036854775808) : ∃ T, T = QMz s l ∧ TnOK T ∧ Val C 49 [.sl s.length (ints s), .sl l.length (ints l)] (tnV T) := ⟨_, rfl, Qckz hs hl hb, whole_val s l hs hl hb⟩
theorem Xhz : Pu C 19 [] (.bool true) := by
 obtain ⟨X, hX, tX, wX⟩ := w_val [2, 3] [1, 2, 3, 4, 5, 6] (by decide) (by decide) (by decide)
 obtain ⟨A, hA, tA, wA⟩ := w_val [3, 2] [1, 4, 2, 5, 3, 6] (by decide) (by decide) (by decide)
 obtain ⟨B, hB, tB, wB⟩ := w_val [1, 2] [2, 3] (by decide) (by decide) (by decide)
 obtain ⟨D, hD, tD, wD⟩ := w_val [1, 3] [0, 2, 3] (by decide) (by decide) (by decide)
 have h1 := t1_val
 have h2 := t2_val
 have h3 := t3_val
 rw [← hX, ← hA] at h1
 rw [← hX, ← hB] at h2
 rw [← hB, ← hD] at h3
 have sA := YTz A A tA tA
 have sB := YTz B B tB tB
 have sD := YTz D D tD tD
 rw [Qiqz] at sA sB sD
 clear hX hA hB hD
 refine Fc.keep (Fc.bodyT Qfz Tryz.func19 w19 rfl Tryz.ntmps19 Tryz.results19 (zLe rfl) ?_)
 (refine Zo ?_;repeat' ((with_reducible first|refine Zk ?_|(first|apply Za|apply Zb|apply Zc|apply Zd)<;>intro h)<;>try simp -implicitDefEqProofs (maxSteps:=9^7) (disch:=first|omega|(simp only [lens];omega)) only [go_sem]))
 refine wX.call ⟨.self rfl, .self rfl, trivial⟩ (Qrz _) ?_
 (refine Zo ?_;repeat' ((with_reducible first|refine Zk ?_|(first|apply Za|apply Zb|apply Zc|apply Zd)<;>intro h)<;>try simp -implicitDefEqProofs (maxSteps:=9^7) (disch:=first|omega|(simp only [lens];omega)) only [go_sem]))
 refine h1.call ⟨.self (Qrz _), .self rfl, trivial⟩ (by simp [clo, cloL, Qrz]) ?_
 (refine Zo ?_;repeat' ((with_reducible first|refine Zk ?_|(first|apply Za|apply Zb|apply Zc|apply Zd)<;>intro h)<;>try simp -implicitDefEqProofs (maxSteps:=9^7) (disch:=first|omega|(simp only [lens];omega)) only [go_sem]))
 refine h2.call ⟨.self (Qrz _), .self rfl, trivial⟩ (by simp [clo, cloL, Qrz]) ?_
 (refine Zo ?_;repeat' ((with_reducible first|refine Zk ?_|(first|apply Za|apply Zb|apply Zc|apply Zd)<;>intro h)<;>try simp -implicitDefEqProofs (maxSteps:=9^7) (disch:=first|omega|(simp only [lens];omega)) only [go_sem]))
 refine h3.call ⟨.self (Qrz _), .self rfl, trivial⟩ (by simp [clo, cloL, Qrz]) ?_
 (refine Zo ?_;repeat' ((with_reducible first|refine Zk ?_|(first|apply Za|apply Zb|apply Zc|apply Zd)<;>intro h)<;>try simp -implicitDefEqProofs (maxSteps:=9^7) (disch:=first|omega|(simp only [lens];omega)) only [go_sem]))
 refine wA.pc ⟨.self rfl, .self rfl, trivial⟩ (Qrz _) ?_
 (refine Zo ?_;repeat' ((with_reducible first|refine Zk ?_|(first|apply Za|apply Zb|apply Zc|apply Zd)<;>intro h)<;>try simp -implicitDefEqProofs (maxSteps:=9^7) (disch:=first|omega|(simp only [lens];omega)) only [go_sem]))
 refine Pc.pure sA (by simp [cloL, clo, Qaz, Qiz]) (fun g => rfl) ?_
 (refine Zo ?_;repeat' ((with_reducible first|refine Zk ?_|(first|apply Za|apply Zb|apply Zc|apply Zd)<;>intro h)<;>try simp -implicitDefEqProofs (maxSteps:=9^7) (disch:=first|omega|(simp only [lens];omega)) only [go_sem]))
 refine wB.pc ⟨.self rfl, .self rfl, trivial⟩ (Qrz _) ?_
 (refine Zo ?_;repeat' ((with_reducible first|refine Zk ?_|(first|apply Za|apply Zb|apply Zc|apply Zd)<;>intro h)<;>try simp -implicitDefEqProofs (maxSteps:=9^7) (disch:=first|omega|(simp only [lens];omega)) only [go_sem]))
 refine Pc.pure sB (by simp [cloL, clo, Qaz, Qiz]) (fun g => rfl) ?_
 (refine Zo ?_;repeat' ((with_reducible first|refine Zk ?_|(first|apply Za|apply Zb|apply Zc|apply Zd)<;>intro h)<;>try simp -implicitDefEqProofs (maxSteps:=9^7) (disch:=first|omega|(simp only [lens];omega)) only [go_sem]))
 refine wD.pc ⟨.self rfl, .self rfl, trivial⟩ (Qrz _) ?_
 (refine Zo ?_;repeat' ((with_reducible first|refine Zk ?_|(first|apply Za|apply Zb|apply Zc|apply Zd)<;>intro h)<;>try simp -implicitDefEqProofs (maxSteps:=9^7) (disch:=first|omega|(simp only [lens];omega)) only [go_sem]))
 refine Pc.pure sD (by simp [cloL, clo, Qaz, Qiz]) (fun g => rfl) ?_
 (refine Zo ?_;repeat' ((with_reducible first|refine Zk ?_|(first|apply Za|apply Zb|apply Zc|apply Zd)<;>intro h)<;>try simp -implicitDefEqProofs (maxSteps:=9^7) (disch:=first|omega|(simp only [lens];omega)) only [go_sem]))
 (refine Qmz (by intro g; simp only [go_sem, ren, renL]) ?_)
 all_goals rfl
end Go.Proofs.YtjdbdmhjakfldaaGreat
end
section
namespace Go.Proofs.YtjdbdmhjakfldaaGreat
open Go.Bv
end Go.Proofs.YtjdbdmhjakfldaaGreat
end
section
namespace Go.Proofs.YtjdbdmhjakfldaaGreat
open Go.Bv
theorem rawOf_ok {x : Raw} (h : RawOK x) : RawOK (Xoz (valQ x)) := by
 obtain ⟨h1, h2⟩ := Qodz x.neg (lv 4294967296 x.num) (lv 4294967296 x.den)
 have n1 := h.n1
 have d1 := h.d1
 refine ⟨?_, ?_, Xlz _, Xlz _⟩
 ·have := QKz (b := B32) (by decide) (valQ x).num x.num.length (Nat.lt_of_le_of_lt h1 (Qbbz h.nL))
  show (dg B32 (valQ x).num).length ≤ _
  omega
 ·show (dg B32 (valQ x).den).length ≤ _
  rcases h2 with h2 | h2
  ·have := QKz (b := B32) (by decide) (valQ x).den x.den.length (Nat.lt_of_le_of_lt h2 (Qbbz h.dL))
   omega
  ·have e : (valQ x).den = 1 := h2
   have : (dg B32 1).length ≤ 1 := QKz (by decide) _ _ (by decide)
   rw [e]; omega
theorem Qocz {t : Tn} (ht : TnOK t) : TnOK (Qhgz t) := ⟨ht.s, by simpa [Qhgz] using ht.e, fun x hx => by
 simp only [Qhgz, List.mem_map] at hx
 obtain ⟨_, ⟨a, ha, rfl⟩, rfl⟩ := hx
 exact rawOf_ok (ht.r a ha)⟩
theorem emptyT_ok : TnOK Qgfz := ⟨by decide, by decide, fun x hx => by simp [Qgfz] at hx⟩
theorem Qenz {p : Tn} {e : Int} (h : e = 0 → TnOK p) : TnOK (errT p e) := by
 by_cases he : e = 0
 ·rw [XFz he]; exact h he
 ·rw [errT_no he]; exact emptyT_ok
theorem mvT_ok {t : Tn} (ht : TnOK t) (hm : mayT t = 0) {s : List Int} (hs : s.length ≤ 1000000000) (hp : mayP s = 0) (g : List Int → List Int) : TnOK (mvT t s g) := by
 obtain ⟨m1, m2, m3⟩ := QFz hp
 exact Qocz ⟨hs, by simp only [mvL, Qcuz]; omega, mvL_ok ht (Q0z hm).1 s g _⟩
theorem Qazz (t : Tn) : mayT t = 0 ∨ mayT t = 6 ∨ mayT t = 11 ∨ mayT t = 13 ∨ mayT t = 14 := by
 have := Qbaz t.shape
 unfold mayT Xpz
 split <;> (try split) <;> (try split) <;> (try split) <;> omega
end Go.Proofs.YtjdbdmhjakfldaaGreat
end
section
namespace Go.Proofs.YtjdbdmhjakfldaaGreat
open Go.Bv
end Go.Proofs.YtjdbdmhjakfldaaGreat
end
section
namespace Go.Proofs.YtjdbdmhjakfldaaGreat
open Go.Bv
structure FitQ (q : Tq) : Prop where
 ok : TqOK q
 m : mayP q.shape = 0
 l : (q.el.length : Int) = Qlz q.shape
end Go.Proofs.YtjdbdmhjakfldaaGreat
end
section
namespace Go.Proofs.YtjdbdmhjakfldaaGreat
open Go.Bv
theorem Qhxz {t : Tn} (hm : mayT t = 0) : Xvz (tnOf t) = t := by
 have hf := (Q0z hm).1
 rw [mayT, if_neg (by omega)] at hm
 have ha : t.el.all okR = true := by
  cases h : t.el.all okR with
  | true => rfl
  | false => rw [h] at hm; simp at hm
 obtain ⟨s, el⟩ := t
 show (⟨s, (el.map valQ).map Xoz⟩ : Tn) = ⟨s, el⟩
 congr 1
 rw [List.map_map]
 exact (List.map_congr_left fun x hx => (ZRz.1 (List.all_eq_true.1 ha x hx)).symm).trans (List.map_id _)
end Go.Proofs.YtjdbdmhjakfldaaGreat
end
section
namespace Go.Proofs.YtjdbdmhjakfldaaGreat
open Go.Bv
def tnsC (ts : List Tn) : List V := ts.flatMap fun t => [.sl t.shape.length (ints t.shape), .sl t.el.length (Qxz t.el)]
def t0n : Tn := ⟨[], []⟩
@[go_sem] theorem tnsC_len (ts : List Tn) : (tnsC ts).length = ts.length * 2 := by
 induction ts with
 | nil => rfl
 | cons t ts ih => simp only [tnsC, List.flatMap_cons, List.length_append, List.length_cons, List.length_nil] at ih ⊢; rw [ih]; omega
theorem tnsC_cons (t : Tn) (ts : List Tn) : tnsC (t :: ts) = .sl t.shape.length (ints t.shape) :: .sl t.el.length (Qxz t.el) :: tnsC ts := rfl
theorem Qmez : ∀ (ts : List Tn) (i : Nat), i < ts.length → nth (tnsC ts) (i * 2) = .sl (ts.getD i t0n).shape.length (ints (ts.getD i t0n).shape) ∧ nth (tnsC ts) (i * 2 + 1) = .sl (ts.getD i t0n).el.length (Qxz (ts.getD i t0n).el)
 | [], i, h => by simp at h
 | t :: ts, 0, _ => ⟨rfl, rfl⟩
 | t :: ts, i + 1, h => by
  have := Qmez ts i (by simpa using h)
  rw [tnsC_cons, show (i + 1) * 2 = i * 2 + 1 + 1 by omega]
  simpa [nth] using this
@[go_sem] theorem nth_tns0 (ts : List Tn) (i : Nat) (h : i < ts.length) : nth (tnsC ts) (i * 2) = .sl (ts.getD i t0n).shape.length (ints (ts.getD i t0n).shape) := (Qmez ts i h).1
@[go_sem] theorem nth_tns1 (ts : List Tn) (i : Nat) (h : i < ts.length) : nth (tnsC ts) (i * 2 + 1) = .sl (ts.getD i t0n).el.length (Qxz (ts.getD i t0n).el) := (Qmez ts i h).2
end Go.Proofs.YtjdbdmhjakfldaaGreat
end
section
namespace Go.Proofs.YtjdbdmhjakfldaaGreat
open Go.Bv
end Go.Proofs.YtjdbdmhjakfldaaGreat
end
section
namespace Go.Proofs.YtjdbdmhjakfldaaGreat
open Go.Bv
def sumK (tl : List Tn) (a : Nat) : Nat → Int
 | 0 => 0
 | k + 1 => sumK tl a k + (tl.getD k t0n).shape.getD a 0
def catS (tl : List Tn) (a : Nat) (k : Nat) : List Int := ((tl.getD 0 t0n).shape).set a (sumK tl a k)
end Go.Proofs.YtjdbdmhjakfldaaGreat
end
section
namespace Go.Proofs.YtjdbdmhjakfldaaGreat
open Go.Bv
def tqsC (ws : List Tq) : List V := ws.flatMap fun t => [.sl t.shape.length (ints t.shape), .sl t.el.length (ZGz t.el)]
def q0n : Tq := ⟨[], []⟩
@[go_sem] theorem tqsC_len (ws : List Tq) : (tqsC ws).length = ws.length * 2 := by
 induction ws with
 | nil => rfl
 | cons t ws ih => simp only [tqsC, List.flatMap_cons, List.length_append, List.length_cons, List.length_nil] at ih ⊢; rw [ih]; omega
theorem tqsC_cons (t : Tq) (ws : List Tq) : tqsC (t :: ws) = .sl t.shape.length (ints t.shape) :: .sl t.el.length (ZGz t.el) :: tqsC ws := rfl
theorem Qmdz : ∀ (ws : List Tq) (i : Nat), i < ws.length → nth (tqsC ws) (i * 2) = .sl (ws.getD i q0n).shape.length (ints (ws.getD i q0n).shape) ∧ nth (tqsC ws) (i * 2 + 1) = .sl (ws.getD i q0n).el.length (ZGz (ws.getD i q0n).el)
 | [], i, h => by simp at h
 | t :: ws, 0, _ => ⟨rfl, rfl⟩
 | t :: ws, i + 1, h => by
  have := Qmdz ws i (by simpa using h)
  rw [tqsC_cons, show (i + 1) * 2 = i * 2 + 1 + 1 by omega]
  simpa [nth] using this
@[go_sem] theorem nth_tqs0 (ws : List Tq) (i : Nat) (h : i < ws.length) : nth (tqsC ws) (i * 2) = .sl (ws.getD i q0n).shape.length (ints (ws.getD i q0n).shape) := (Qmdz ws i h).1
@[go_sem] theorem nth_tqs1 (ws : List Tq) (i : Nat) (h : i < ws.length) : nth (tqsC ws) (i * 2 + 1) = .sl (ws.getD i q0n).el.length (ZGz (ws.getD i q0n).el) := (Qmdz ws i h).2
end Go.Proofs.YtjdbdmhjakfldaaGreat
end
section
namespace Go.Proofs.YtjdbdmhjakfldaaGreat
open Go.Bv
structure CatOK (tl : List Tn) (a : Nat) : Prop where
 n : 0 < tl.length
 m : ∀ j, j < tl.length → mayT (tl.getD j t0n) = 0
 ha : a < (tl.getD 0 t0n).shape.length
 f : ∀ j, j < tl.length → (tl.getD j t0n).shape.length = (tl.getD 0 t0n).shape.length ∧ ∀ i, i < (tl.getD 0 t0n).shape.length → i ≠ a → (tl.getD j t0n).shape.getD i 0 = (tl.getD 0 t0n).shape.getD i 0
 s : ∀ k, k < tl.length → mayP (catS tl a (k + 1)) = 0
theorem CatOK.d {tl : List Tn} {a : Nat} (h : CatOK tl a) {j i : Nat} (hj : j < tl.length) (hi : i < (tl.getD 0 t0n).shape.length) : 1 ≤ (tl.getD j t0n).shape.getD i 0 ∧ (tl.getD j t0n).shape.getD i 0 ≤ 1024 := by
 obtain ⟨_, hm, _⟩ := Q0z (h.m j hj)
 obtain ⟨t1, t2, t3⟩ := QFz hm
 have hl := (h.f j hj).1
 have h1 := X1z t2 (i := i) (by omega)
 have h2 := Qwz t2 (i := i) (by omega)
 omega
theorem CatOK.last {tl : List Tn} {a : Nat} (h : CatOK tl a) : mayP (catS tl a tl.length) = 0 := by
 have := h.s (tl.length - 1) (by have := h.n; omega)
 rwa [show tl.length - 1 + 1 = tl.length by have := h.n; omega] at this
theorem catS_at {tl : List Tn} {a : Nat} (ha : a < (tl.getD 0 t0n).shape.length) (k : Nat) (i : Nat) : (catS tl a k).getD i 0 = if i = a then sumK tl a k else (tl.getD 0 t0n).shape.getD i 0 := by
 rw [catS]
 generalize (tl.getD 0 t0n).shape = S at *
 by_cases hia : i = a
 ·subst hia; simp [List.getD, ha]
 ·rw [if_neg hia]; simp [List.getD, Ne.symm hia]
theorem CatOK.x {tl : List Tn} {a : Nat} (h : CatOK tl a) {x : List Int} (hx : ∀ i, i < (tl.getD 0 t0n).shape.length → 0 ≤ x.getD i 0 ∧ x.getD i 0 < (catS tl a tl.length).getD i 0) : (∀ j, j < tl.length → ∀ i, i < (tl.getD 0 t0n).shape.length → i ≠ a → 0 ≤ x.getD i 0 ∧ x.getD i 0 < (tl.getD j t0n).shape.getD i 0) ∧ 0 ≤ x.getD a 0 ∧ x.getD a 0 < sumK tl a tl.length := by
 refine ⟨fun j hj i hi hia => ?_, ?_⟩
 ·have := hx i hi
  rw [catS_at h.ha, if_neg hia, ← (h.f j hj).2 i hi hia] at this
  exact this
 ·have := hx a h.ha
  rw [catS_at h.ha, if_pos rfl] at this
  exact this
end Go.Proofs.YtjdbdmhjakfldaaGreat
end
section
namespace Go.Proofs.YtjdbdmhjakfldaaGreat
open Go.Bv
theorem cntS (p : List Int) (m : Nat) : p.countP (fun x => decide (0 ≤ x ∧ x < ((m + 1 : Nat) : Int))) = p.countP (fun x => decide (0 ≤ x ∧ x < ((m : Nat) : Int))) + p.count (m : Int) := by
 induction p with
 | nil => rfl
 | cons x p ih =>
  rw [List.countP_cons, List.countP_cons, List.count_cons, ih]
  simp only [decide_eq_true_eq, beq_iff_eq]
  split <;> split <;> split <;> omega
theorem Qotz {p : List Int} (h : ∀ d : Nat, d < p.length → p.count (d : Int) = 1) : ∀ m : Nat, m ≤ p.length → p.countP (fun x => decide (0 ≤ x ∧ x < ((m : Nat) : Int))) = m
 | 0, _ => by
  rw [List.countP_eq_zero]
  intro x _
  simp only [decide_eq_true_eq]
  omega
 | m + 1, hm => by rw [cntS, Qotz h m (by omega), h m (by omega)]
theorem cntS_le {p : List Int} (h : ∀ a, p.count a ≤ 1) (m : Nat) : p.countP (fun x => decide (0 ≤ x ∧ x < ((m : Nat) : Int))) ≤ m := by
 induction m with
 | zero =>
  have : p.countP (fun x => decide (0 ≤ x ∧ x < ((0 : Nat) : Int))) = 0 := by
   rw [List.countP_eq_zero]
   intro x _
   simp only [decide_eq_true_eq]
   omega
  omega
 | succ m ih => rw [cntS]; have := h (m : Int); omega
theorem cntS_up {p : List Int} (h : ∀ a, p.count a ≤ 1) (m : Nat) : ∀ k : Nat, p.countP (fun x => decide (0 ≤ x ∧ x < ((m + k : Nat) : Int))) ≤ p.countP (fun x => decide (0 ≤ x ∧ x < ((m : Nat) : Int))) + k
 | 0 => by simp
 | k + 1 => by
  have h1 := cntS_up h m k
  have h2 := cntS p (m + k)
  have h3 := h ((m + k : Nat) : Int)
  rw [show m + (k + 1) = m + k + 1 by omega]
  omega
theorem Qlsz (p : List Int) : Xyz p = true ↔ ∀ d : Nat, d < p.length → p.count (d : Int) = 1 := by
 constructor
 ·intro h d hd
  have hn := List.nodup_iff_count.1 (Qdnz h)
  have hm := Qiyz h
  have hall : p.countP (fun x => decide (0 ≤ x ∧ x < ((p.length : Nat) : Int))) = p.length := List.countP_eq_length.2 fun x hx => by
   have := hm x hx
   simpa using this
  have h1 := cntS_le hn d
  have h2 := cntS_up hn (d + 1) (p.length - (d + 1))
  have h3 := cntS p d
  have h4 := hn (d : Int)
  rw [show d + 1 + (p.length - (d + 1)) = p.length by omega] at h2
  omega
 ·intro h
  have hall := Qotz h p.length (Nat.le_refl _)
  have hmem : ∀ a ∈ p, 0 ≤ a ∧ a < p.length := fun a ha => by
   have := List.countP_eq_length.1 hall a ha
   simpa using this
  have hn : p.Nodup := List.nodup_iff_count.2 fun a => by
   by_cases ha : a ∈ p
   ·have h1 := hmem a ha
    have := h a.toNat (by omega)
    rw [show ((a.toNat : Nat) : Int) = a by omega] at this
    omega
   ·rw [List.count_eq_zero.2 ha]; omega
  refine (XDz p).2 fun i hi => ?_
  have h1 := hmem _ (Qemz hi)
  refine ⟨h1.1, h1.2, fun k hk he => ?_⟩
  rw [List.Nodup, List.pairwise_iff_getElem] at hn
  have := hn k i (by omega) hi hk
  simp only [List.getD, List.getElem?_eq_getElem hi, List.getElem?_eq_getElem (show k < p.length by omega), Option.getD_some] at he
  exact this he
end Go.Proofs.YtjdbdmhjakfldaaGreat
end
section
namespace Go.Proofs.YtjdbdmhjakfldaaGreat
open Go.Bv
end Go.Proofs.YtjdbdmhjakfldaaGreat
end
section
namespace Go.Proofs.YtjdbdmhjakfldaaGreat
open Go.Bv
theorem Zcz (t : Tn) (ht : TnOK t) (p : List Int) (hp : p.length ≤ 1048576) : Val C 13 [tnV t, .sl p.length (ints p)] (.tup [tnV (X9z t p), .int .i64 (Xuz t p)]) :=
 Qigz ZCz t ht p hp fun h => Qldz p t.shape.length (by omega) hp
theorem ZMz {t : Tn} {p : List Int} (h : Xuz t p = 0) : mayT t = 0 ∧ Xyz p = true ∧ p.length = t.shape.length := by
 rw [Xuz] at h
 split at h
 ·contradiction
 split at h
 ·cases h
 rename_i h1 h2
 have h2 : (Xyz p && decide (p.length = t.shape.length)) = true := by simpa using h2
 rw [Bool.and_eq_true, decide_eq_true_eq] at h2
 exact ⟨by omega, h2⟩
theorem Qihz (t : Tn) (p : List Int) : -1000000 ≤ Xuz t p ∧ Xuz t p ≤ 1000000 := by
 have h1 := Qazz t
 unfold Xuz
 split <;> (try split) <;> omega
theorem transT_ok {t : Tn} (ht : TnOK t) {p : List Int} (hp : p.length ≤ 1048576) : TnOK (X9z t p) := Qenz fun h => by
 obtain ⟨h1, h2, h3⟩ := ZMz h
 have := QVz (fun i => t.shape.getD (p.getD i 0).toNat 0) p.length
 exact mvT_ok ht h1 (by rw [Xaz, this]; omega) (ZCz _ (Q0z h1).2.1 p h2 h3) _
end Go.Proofs.YtjdbdmhjakfldaaGreat
end
section
namespace Go.Proofs.YtjdbdmhjakfldaaGreat
open Go.Bv
theorem own_sw {e s : Nat} {H : Heap} {w : V} {n : Nat} {cs : List V} (hw : Bv.Own e s H w n cs) : kn w = true ∧ cellsOf w = [w] ∧ scal w = true := by
 rcases hw with ⟨rfl, _⟩ | ⟨r, rfl, _⟩ <;> exact ⟨rfl, rfl, rfl⟩
end Go.Proofs.YtjdbdmhjakfldaaGreat
end
section
namespace Go.Proofs.YtjdbdmhjakfldaaGreat
open Go.Bv
theorem off_div {s x : List Int} (h : ∀ d ∈ s, 1 ≤ d) (hx : ∀ i, i < s.length → 0 ≤ x.getD i 0 ∧ x.getD i 0 < s.getD i 0) : ∀ k i : Nat, i + k = s.length → offP s x s.length / Qlz (s.drop i) = offP s x i
 | 0, i, hi => by
  have : s.length = i := by omega
  rw [← this, List.drop_length]
  simp [Qlz]
 | k + 1, i, hi => by
  have ih := off_div h hx k (i + 1) (by omega)
  have h1 := hx i (by omega)
  rw [← Qhlz h (by omega : i < s.length), ih]
  show (offP s x i * s.getD i 0 + x.getD i 0) / s.getD i 0 = _
  rw [Int.add_comm, Int.add_mul_ediv_right _ _ (by omega), Int.ediv_eq_zero_of_lt h1.1 h1.2]
  omega
theorem idx_off {s x : List Int} (h : ∀ d ∈ s, 1 ≤ d) (hl : x.length = s.length) (hx : ∀ i, i < s.length → 0 ≤ x.getD i 0 ∧ x.getD i 0 < s.getD i 0) : idxL s (offP s x s.length) = x := by
 refine Y6z (by rw [Y4z, hl]) fun j hj => ?_
 rw [Y4z] at hj
 have e : (idxL s (offP s x s.length)).getD j 0 = Qcbz s (offP s x s.length) j := by simp [idxL, List.getD, hj]
 have h1 := hx j hj
 rw [e, Qcbz, off_div h hx (s.length - (j + 1)) (j + 1) (by omega)]
 show (offP s x j * s.getD j 0 + x.getD j 0) % s.getD j 0 = _
 rw [Int.add_comm, Int.add_mul_emod_self_right, Int.emod_eq_of_lt h1.1 h1.2]
theorem Qonz {s : List Int} (h : ∀ d ∈ s, 1 ≤ d) {m : Int} (h0 : 0 ≤ m) (h1 : m < Qlz s) : ∀ i : Nat, i ≤ s.length → offP s (idxL s m) i = m / Qlz (s.drop i)
 | 0, _ => by rw [List.drop_zero, Int.ediv_eq_zero_of_lt h0 h1]; rfl
 | i + 1, hi => by
  show offP s (idxL s m) i * s.getD i 0 + (idxL s m).getD i 0 = _
  have e : (idxL s m).getD i 0 = Qcbz s m i := by simp [idxL, List.getD, show i < s.length by omega]
  rw [Qonz h h0 h1 i (by omega), e, Qcbz, ← Qhlz h (by omega : i < s.length)]
  exact Int.ediv_mul_add_emod _ _
theorem off_idx {s : List Int} (h : ∀ d ∈ s, 1 ≤ d) {m : Int} (h0 : 0 ≤ m) (h1 : m < Qlz s) : offP s (idxL s m) s.length = m := by
 rw [Qonz h h0 h1 _ (Nat.le_refl _), List.drop_length]
 simp [Qlz]
theorem Qftz {q : Tq} (hm : mayP q.shape = 0) (he : (q.el.length : Int) = Qlz q.shape) (hn : ∀ r ∈ q.el, NmQ r) : mayT (Xvz q) = 0 := by
 have hf : Xpz (Xvz q) = 0 := by
  show (if mayP q.shape ≠ 0 then mayP q.shape else if ((q.el.map Xoz).length : Int) ≠ countP q.shape then 13 else 0) = 0
  have hc : countP q.shape = Qlz q.shape := by rw [countP, if_pos hm]
  rw [hm, hc]; simp [he]
 rw [mayT, hf, if_neg (by decide), if_pos]
 rw [List.all_eq_true]
 intro x hx
 simp only [Xvz, List.mem_map] at hx
 obtain ⟨r, hr, rfl⟩ := hx
 rw [okR, ZRz, hn r hr]
theorem CatOK.sum {tl : List Tn} {a : Nat} (h : CatOK tl a) {j : Nat} : ∀ k : Nat, j ≤ k → k ≤ tl.length → sumK tl a j ≤ sumK tl a k
 | 0, h1, _ => by rw [show j = 0 by omega]; exact Int.le_refl _
 | k + 1, h1, h2 => by
  by_cases he : j = k + 1
  ·rw [he]; exact Int.le_refl _
  ·have ih := h.sum (j := j) k (by omega) (by omega)
   have := (h.d (j := k) (by omega) h.ha).1
   show _ ≤ sumK tl a k + _
   omega
end Go.Proofs.YtjdbdmhjakfldaaGreat
end
section
namespace Go.Proofs.YtjdbdmhjakfldaaGreat
open Go.Bv
theorem push_two {y : Ty} {e e' s' k : Nat} {v : V} {H : Heap} {xs : List Int} {p q : Int} {K : V → Heap → Prop} (h : Bv.Own e 1 H v k (ints xs)) (hk : k = xs.length) (hy : y.size = 1) (hb : 0 < y.bytes ∧ y.bytes ≤ 8) (hl : xs.length + 2 ≤ 17592186044416)
  (hK : ∀ v' H', Bv.Own e 1 H' v' (k + 2) (ints (xs ++ [p, q])) → Fr v H H' → kn v' = true ∧ cellsOf v' = [v'] ∧ scal v' = true → K v' H') :
  appw y e v (.ref H.length 0 2) (H ++ [some ⟨e', s', [.int .i64 p, .int .i64 q]⟩]) K := by
 rw [← hy] at h
 refine Qcyz h (by rw [hy]; rfl) (by simp [scal]) (by omega) (by omega) (by have : (k + 2) * y.bytes ≤ (k + 2) * 8 := Nat.mul_le_mul_left _ hb.2; omega) (YHz _) fun H' k1 k2 k3 => ?_
 rw [hy] at k1
 exact hK _ H' (by rw [Qehz]; exact k1) k2 ⟨rfl, rfl, rfl⟩
end Go.Proofs.YtjdbdmhjakfldaaGreat
end
section
namespace Go.Proofs.YtjdbdmhjakfldaaGreat
open Go.Bv
theorem mvQ_nm {q : Tq} (hn : ∀ r ∈ q.el, NmQ r) (S : List Int) (g : List Int → List Int) : ∀ r ∈ (mvQ q S g).el, NmQ r := fun r hr => by
 simp only [mvQ, List.mem_map] at hr
 obtain ⟨i, _, rfl⟩ := hr
 rw [atG]
 split
 ·rename_i hz
  by_cases hl : (offN q.shape (g (idxL S (i : Nat)))).toNat < q.el.length
  ·exact hn _ (by simp [List.getD, hl])
  ·have : q.el.getD (offN q.shape (g (idxL S (i : Nat)))).toNat q0 = q0 := by simp [List.getD, hl]
   rw [this, NmQ, Qarz]; exact X4z (.inl rfl)
 ·exact Qoez 0
theorem mvQ_len {q : Tq} {S : List Int} (hS : mayP S = 0) (g : List Int → List Int) : ((mvQ q S g).el.length : Int) = Qlz (mvQ q S g).shape := by
 have := Q7z (QFz hS).2.1
 show (((List.range (Qlz S).toNat).map fun i => atG q (g (idxL S (i : Nat)))).length : Int) = Qlz S
 rw [List.length_map, List.length_range]; omega
theorem mv_mv {q : Tq} (hq : mayP q.shape = 0) (he : (q.el.length : Int) = Qlz q.shape) {S : List Int} (hS : mayP S = 0) {g1 g2 : List Int → List Int}
  (h : ∀ x : List Int, x.length = q.shape.length → (∀ i, i < q.shape.length → 0 ≤ x.getD i 0 ∧ x.getD i 0 < q.shape.getD i 0) → (g2 x).length = S.length ∧ (∀ i, i < S.length → 0 ≤ (g2 x).getD i 0 ∧ (g2 x).getD i 0 < S.getD i 0) ∧ g1 (g2 x) = x) : mvQ (mvQ q S g1) q.shape g2 = q := by
 obtain ⟨n1, n2, n3⟩ := QFz hS
 obtain ⟨s, el⟩ := q
 show (⟨s, _⟩ : Tq) = ⟨s, el⟩
 have hq : mayP s = 0 := hq
 have he : (el.length : Int) = Qlz s := he
 have h : ∀ x : List Int, x.length = s.length → (∀ i, i < s.length → 0 ≤ x.getD i 0 ∧ x.getD i 0 < s.getD i 0) → (g2 x).length = S.length ∧ (∀ i, i < S.length → 0 ≤ (g2 x).getD i 0 ∧ (g2 x).getD i 0 < S.getD i 0) ∧ g1 (g2 x) = x := h
 obtain ⟨m1, m2, m3⟩ := QFz hq
 congr 1
 refine List.ext_getElem (by rw [List.length_map, List.length_range]; show (Qlz s).toNat = el.length; omega) fun i i1 i2 => ?_
 simp only [List.length_map, List.length_range] at i1
 simp only [List.getElem_map, List.getElem_range]
 have hin := Qmpz m2 (i : Nat)
 have hxl : (idxL s (i : Nat)).length = s.length := Y4z _ _
 have hoff := off_idx m2 (m := (i : Nat)) (by omega) (by omega)
 generalize idxL s (i : Nat) = x at *
 obtain ⟨y1, y2, y3⟩ := h x hxl hin
 have hz : offE S (g2 x) = 0 := by rw [offE, if_neg (by omega), if_neg (by omega), if_pos (Qejz.2 y2)]
 obtain ⟨o1, o2, o3⟩ := Qdtz hz
 have hoN : offN S (g2 x) = offP S (g2 x) S.length := by rw [offN, if_pos hz]
 have hzx : offE s x = 0 := by rw [offE, if_neg (by omega), if_neg (by omega), if_pos (Qejz.2 hin)]
 have hoNx : offN s x = (i : Nat) := by rw [offN, if_pos hzx, hoff]
 have e1 : atG (mvQ ⟨s, el⟩ S g1) (g2 x) = atG ⟨s, el⟩ (g1 (idxL S ((offN S (g2 x)).toNat : Nat))) := by
  have : (offN S (g2 x)).toNat < (Qlz S).toNat := by omega
  rw [atG, show (mvQ ⟨s, el⟩ S g1).shape = S from rfl, if_pos hz]
  simp [mvQ, List.getD, this]
 rw [e1, show (((offN S (g2 x)).toNat : Nat) : Int) = offN S (g2 x) by omega, hoN, idx_off n2 y1 y2, y3, atG]
 show (if offE s x = 0 then el.getD (offN s x).toNat q0 else intQ 0) = _
 rw [if_pos hzx, hoNx]
 simp [List.getD, i2]
theorem mv_may {t : Tn} (hm : mayT t = 0) {S : List Int} (hS : mayP S = 0) (g : List Int → List Int) : mvT t S g = Xvz (mvQ (tnOf t) S g) ∧ mayT (mvT t S g) = 0 := by
 have hel := (Q0z hm).2.2
 have hn : ∀ r ∈ (tnOf t).el, NmQ r := fun r hr => by
  simp only [tnOf, List.mem_map] at hr
  obtain ⟨x, _, rfl⟩ := hr
  exact nm_val x
 have e := Qhiz (tnOf t) hn (by simpa [tnOf] using hel) S g
 rw [Qhxz hm] at e
 refine ⟨e, ?_⟩
 rw [e]
 exact Qftz (q := mvQ (tnOf t) S g) hS (mvQ_len hS g) (mvQ_nm hn S g)
theorem Qofz {t : Tn} (hm : mayT t = 0) {S : List Int} (hS : mayP S = 0) {g1 g2 : List Int → List Int}
  (h : ∀ x : List Int, x.length = t.shape.length → (∀ i, i < t.shape.length → 0 ≤ x.getD i 0 ∧ x.getD i 0 < t.shape.getD i 0) → (g2 x).length = S.length ∧ (∀ i, i < S.length → 0 ≤ (g2 x).getD i 0 ∧ (g2 x).getD i 0 < S.getD i 0) ∧ g1 (g2 x) = x) : mvT (mvT t S g1) t.shape g2 = t := by
 obtain ⟨hf, hmp, hel⟩ := Q0z hm
 obtain ⟨e1, e2⟩ := mv_may hm hS g1
 have hn : ∀ r ∈ (tnOf t).el, NmQ r := fun r hr => by
  simp only [tnOf, List.mem_map] at hr
  obtain ⟨x, _, rfl⟩ := hr
  exact nm_val x
 rw [e1, Qhiz _ (mvQ_nm hn S g1) (mvQ_len hS g1)]
 have := mv_mv (q := tnOf t) hmp (by simpa [tnOf] using hel) hS (g1 := g1) (g2 := g2) h
 rw [show (tnOf t).shape = t.shape from rfl] at this
 rw [this]
 exact Qhxz hm
def iota (n : Nat) : List Int := (List.range n).map fun i : Nat => (i : Int)
theorem Qomz {n j : Nat} (h : j < n) : (iota n).getD j 0 = j := by simp [iota, List.getD, h]
theorem Qdmz {p x : List Int} (hb : Xyz p = true) {j : Nat} (hj : j < p.length) : ∀ k : Nat, j < k → k ≤ p.length → (putP p x k).getD (p.getD j 0).toNat 0 = x.getD j 0
 | 0, h, _ => by omega
 | k + 1, h, hk => by
  have hp := (XDz p).1 hb
  rw [putP]
  have hl := XBz p x k
  by_cases hjk : j = k
  ·subst hjk
   obtain ⟨p1, p2, p3⟩ := hp j hj
   have h1 : (p.getD j 0).toNat < (putP p x j).length := by rw [hl]; omega
   generalize (p.getD j 0).toNat = m at *
   simp [List.getD, h1]
  ·have ih := Qdmz (x := x) hb hj k (by omega) (by omega)
   have h1 := hp k (by omega)
   have h2 := hp j hj
   have hne : (p.getD k 0).toNat ≠ (p.getD j 0).toNat := fun e => by
    obtain ⟨p1, p2, p3⟩ := h1
    obtain ⟨r1, r2, r3⟩ := h2
    have := p3 j (by omega)
    omega
   generalize (p.getD k 0).toNat = m at *
   generalize (p.getD j 0).toNat = m' at *
   simp only [List.getD] at ih ⊢
   rw [List.getElem?_set_ne hne]; exact ih
def Yjz (p : List Int) : List Int := putP p (iota p.length) p.length
theorem QXz (p : List Int) : (Yjz p).length = p.length := XBz _ _ _
theorem turn_p {p : List Int} (hb : Xyz p = true) {j : Nat} (hj : j < p.length) : (Yjz p).getD (p.getD j 0).toNat 0 = j := by
 rw [Yjz, Qdmz hb hj _ hj (Nat.le_refl _), Qomz hj]
theorem Qixz {p : List Int} (hb : Xyz p = true) {d : Nat} (hd : d < p.length) : ∃ j, j < p.length ∧ p.getD j 0 = d := by
 have h1 := (Qlsz p).1 hb d hd
 have h2 : (d : Int) ∈ p := List.count_pos_iff.1 (by omega)
 obtain ⟨j, hj, he⟩ := List.getElem_of_mem h2
 exact ⟨j, hj, by simp [List.getD, hj, he]⟩
theorem Qnzz {p : List Int} (hb : Xyz p = true) {d : Nat} (hd : d < p.length) : 0 ≤ (Yjz p).getD d 0 ∧ (Yjz p).getD d 0 < p.length ∧ p.getD ((Yjz p).getD d 0).toNat 0 = d := by
 obtain ⟨j, hj, he⟩ := Qixz hb hd
 have h1 := turn_p hb hj
 rw [he, Int.toNat_natCast] at h1
 rw [h1, Int.toNat_natCast]
 exact ⟨by omega, by omega, he⟩
theorem Qasz {p : List Int} (hb : Xyz p = true) : Xyz (Yjz p) = true := by
 refine (XDz _).2 fun i hi => ?_
 rw [QXz] at hi
 obtain ⟨h1, h2, h3⟩ := Qnzz hb hi
 refine ⟨h1, by rw [QXz]; exact h2, fun k hk he => ?_⟩
 obtain ⟨h4, h5, h6⟩ := Qnzz hb (d := k) (by omega)
 rw [he] at h6
 omega
theorem turn_back {p x : List Int} (hb : Xyz p = true) (hx : x.length = p.length) : putP p (putP (Yjz p) x (Yjz p).length) p.length = x := by
 refine Y6z (by rw [XBz, hx]) fun j hj => ?_
 rw [XBz] at hj
 obtain ⟨k, hk, he⟩ := Qixz hb hj
 have h1 := Qdmz (x := putP (Yjz p) x (Yjz p).length) hb hk p.length hk (Nat.le_refl _)
 rw [he, Int.toNat_natCast] at h1
 have h2 := turn_p hb hk
 rw [he, Int.toNat_natCast] at h2
 have h3 := Qdmz (p := Yjz p) (x := x) (Qasz hb) (j := j) (by rw [QXz]; exact hj) (Yjz p).length (by rw [QXz]; exact hj) (Nat.le_refl _)
 rw [h2, Int.toNat_natCast] at h3
 rw [h1, h3]
theorem Qllz {p s : List Int} (hb : Xyz p = true) (hl : p.length = s.length) : Xaz (Yjz p) (Xaz p s) = s := by
 refine Y6z (by rw [Xaz, QVz, QXz, hl]) fun j hj => ?_
 rw [Xaz, QVz, QXz] at hj
 obtain ⟨h1, h2, h3⟩ := Qnzz hb hj
 rw [Xaz, Ylz (by rw [QXz]; exact hj), Xaz, Ylz (by omega), h3, Int.toNat_natCast]
theorem back_trans {t : Tn} {p : List Int} (h : Xuz t p = 0) : Xuz (X9z t p) (Yjz p) = 0 ∧ X9z (X9z t p) (Yjz p) = t := by
 obtain ⟨hm, hb, hl⟩ := ZMz h
 obtain ⟨hf, hmp, hel⟩ := Q0z hm
 have hmS := ZCz t.shape hmp p hb hl
 have hSl : (Xaz p t.shape).length = p.length := QVz _ _
 obtain ⟨e1, e2⟩ := mv_may hm hmS fun x => putP p x p.length
 have hE : Xuz (X9z t p) (Yjz p) = 0 := by
  rw [X9z, XFz h, Xuz, if_neg (by omega), if_neg]
  have : (mvT t (Xaz p t.shape) fun x => putP p x p.length).shape = Xaz p t.shape := rfl
  rw [Qasz hb, this, QXz, hSl]
  simp
 refine ⟨hE, ?_⟩
 rw [X9z, XFz hE, X9z, XFz h]
 have : (mvT t (Xaz p t.shape) fun x => putP p x p.length).shape = Xaz p t.shape := rfl
 rw [this, Qllz hb hl]
 refine Qofz hm hmS fun x hx hin => ?_
 refine ⟨by rw [XBz, QXz, hSl], fun i hi => ?_, turn_back hb (by omega)⟩
 rw [hSl] at hi
 obtain ⟨h1, h2, h3⟩ := Qnzz hb hi
 obtain ⟨p1, p2, p3⟩ := (XDz p).1 hb i hi
 have h5 := Qdmz (p := Yjz p) (x := x) (Qasz hb) (j := (p.getD i 0).toNat) (by rw [QXz]; omega) (Yjz p).length (by rw [QXz]; omega) (Nat.le_refl _)
 rw [turn_p hb hi, Int.toNat_natCast] at h5
 rw [h5, Xaz, Ylz hi]
 exact hin _ (by omega)
theorem Qkvz {t : Tn} {s : List Int} (h : YVz t s = 0) : (Z3z t s).shape = s ∧ YVz (Z3z t s) t.shape = 0 ∧ Z3z (Z3z t s) t.shape = t := by
 rw [YVz] at h
 split at h
 ·contradiction
 split at h
 ·contradiction
 split at h
 ·cases h
 rename_i h1 h2 h3
 have hm : mayT t = 0 := by omega
 have hs : mayP s = 0 := by omega
 have hel : (t.el.length : Int) = Qlz s := by omega
 obtain ⟨hf, hmp, hel2⟩ := Q0z hm
 have hb := Qhxz hm
 have hr : Z3z t s = Xvz ⟨s, t.el.map valQ⟩ := by
  rw [Z3z, XFz (by rw [YVz, if_neg (by omega), if_neg (by omega), if_neg (by omega)])]; rfl
 have hn : ∀ r ∈ t.el.map valQ, NmQ r := fun r hr => by
  simp only [List.mem_map] at hr
  obtain ⟨x, _, rfl⟩ := hr
  exact nm_val x
 have hm2 : mayT (Z3z t s) = 0 := by rw [hr]; exact Qftz hs (by simpa using hel) hn
 have hE : YVz (Z3z t s) t.shape = 0 := by
  rw [YVz, if_neg (by omega), if_neg (by omega), if_neg]
  rw [hr]
  simp [Xvz, hel2]
 refine ⟨by rw [hr]; rfl, hE, ?_⟩
 have hb2 := Qhxz hm2
 rw [Z3z, XFz hE]
 have e1 : (Z3z t s).el = t.el := by
  rw [hr]
  have : (Xvz (tnOf t)).el = t.el := by rw [hb]
  exact this
 rw [e1]
 exact hb
def insL (s l : List Int) (m : Nat) : List Int := (List.range m).flatMap fun j => [l.getD (2 * j) 0, l.getD (2 * j) 0 + s.getD j 0]
theorem Qeiz (s l : List Int) (m : Nat) : insL s l (m + 1) = insL s l m ++ [l.getD (2 * m) 0, l.getD (2 * m) 0 + s.getD m 0] := by simp [insL, List.range_succ]
theorem X0z (s l : List Int) : ∀ m, (insL s l m).length = 2 * m
 | 0 => rfl
 | m + 1 => by rw [Qeiz, List.length_append, X0z s l m]; simp; omega
theorem Y3z (s l : List Int) : ∀ m j, j < m → (insL s l m).getD (2 * j) 0 = l.getD (2 * j) 0 ∧ (insL s l m).getD (2 * j + 1) 0 = l.getD (2 * j) 0 + s.getD j 0
 | 0, j, h => by omega
 | m + 1, j, h => by
  rw [Qeiz]
  have hl := X0z s l m
  by_cases hj : j = m
  ·subst hj
   simp only [List.getD]
   rw [List.getElem?_append_right (by omega), List.getElem?_append_right (by omega), hl, show 2 * j - 2 * j = 0 by omega, show 2 * j + 1 - 2 * j = 1 by omega]
   simp
  ·obtain ⟨h1, h2⟩ := Y3z s l m j (by omega)
   simp only [List.getD] at h1 h2 ⊢
   rw [List.getElem?_append_left (by omega), List.getElem?_append_left (by omega)]
   exact ⟨h1, h2⟩
theorem back_pad {t : Tn} {l : List Int} (h : padE t l = 0) : YBz (padT t l) (insL t.shape l t.shape.length) = 0 ∧ Qfvz (padT t l) (insL t.shape l t.shape.length) = t := by
 have h0 := h
 rw [padE] at h
 split at h
 ·contradiction
 split at h
 ·cases h
 split at h
 ·cases h
 split at h
 ·cases h
 rename_i h1 h2 h3 h4
 have hm : mayT t = 0 := by omega
 obtain ⟨hf, hmp, hel⟩ := Q0z hm
 obtain ⟨m1, m2, m3⟩ := QFz hmp
 have hng : ∀ j, j < l.length → 0 ≤ l.getD j 0 := fun j hj => by
  have hb : negB l = false := by simpa using h3
  have := Zsz.1 hb j hj
  omega
 have hSl : (padS l t.shape t.shape.length).length = t.shape.length := QVz _ _
 have hSg : ∀ j, j < t.shape.length → (padS l t.shape t.shape.length).getD j 0 = l.getD (2 * j) 0 + t.shape.getD j 0 + l.getD (2 * j + 1) 0 := fun j hj => Ylz hj
 obtain ⟨e1, e2⟩ := mv_may hm h (subL l)
 have hT : padT t l = mvT t (padS l t.shape t.shape.length) (subL l) := by rw [padT, XFz h0]
 have hs : (mvT t (padS l t.shape t.shape.length) (subL l)).shape = padS l t.shape t.shape.length := rfl
 have hE : YBz (padT t l) (insL t.shape l t.shape.length) = 0 := by
  rw [hT, YBz, if_neg (by omega), hs, hSl, X0z, if_neg (by omega), if_neg, if_neg]
  ·intro hc
   have : Qglz (insL t.shape l t.shape.length) (padS l t.shape t.shape.length) = true := Qblz.2 fun j hj => by
    rw [hSl] at hj
    have h5 := hng (2 * j + 1) (by omega)
    rw [(Y3z t.shape l _ j hj).2, hSg j hj]; omega
   rw [this] at hc; cases hc
  ·intro hc
   have : Qgkz (insL t.shape l t.shape.length) t.shape.length = true := Qbkz.2 fun j hj => by
    have h5 := hng (2 * j) (by omega)
    have h6 := X1z m2 hj
    rw [(Y3z t.shape l _ j hj).1, (Y3z t.shape l _ j hj).2]; omega
   rw [this] at hc; cases hc
 refine ⟨hE, ?_⟩
 rw [Qfvz, XFz hE, hT, hs, hSl]
 have hS : Ymz (insL t.shape l t.shape.length) t.shape.length = t.shape := by
  refine Y6z (by rw [Ymz, QVz]) fun j hj => ?_
  rw [Ymz, QVz] at hj
  rw [Ymz, Ylz hj, (Y3z t.shape l _ j hj).1, (Y3z t.shape l _ j hj).2]
  omega
 rw [hS]
 refine Qofz hm h fun x hx hin => ?_
 have hal : (addL (insL t.shape l t.shape.length) x).length = t.shape.length := by simp [addL, hx]
 have hag : ∀ j, j < t.shape.length → (addL (insL t.shape l t.shape.length) x).getD j 0 = x.getD j 0 + l.getD (2 * j) 0 := fun j hj => by
  have := (Y3z t.shape l _ j hj).1
  have e : (addL (insL t.shape l t.shape.length) x).getD j 0 = x.getD j 0 + (insL t.shape l t.shape.length).getD (2 * j) 0 := by simp [addL, List.getD, show j < x.length by omega]
  rw [e, this]
 refine ⟨by omega, fun j hj => ?_, ?_⟩
 ·rw [hSl] at hj
  have h5 := hng (2 * j) (by omega)
  have h6 := hng (2 * j + 1) (by omega)
  have h7 := hin j hj
  rw [hag j hj, hSg j hj]; omega
 ·refine Y6z (by simp [subL, hal, hx]) fun j hj => ?_
  have hj' : j < t.shape.length := by simpa [subL, hal] using hj
  have e : (subL l (addL (insL t.shape l t.shape.length) x)).getD j 0 = (addL (insL t.shape l t.shape.length) x).getD j 0 - l.getD (2 * j) 0 := by simp [subL, List.getD, show j < (addL (insL t.shape l t.shape.length) x).length by omega]
  rw [e, hag j hj']; omega
end Go.Proofs.YtjdbdmhjakfldaaGreat
end
section
namespace Go.Proofs.YtjdbdmhjakfldaaGreat
open Go.Bv
theorem Qifz (p : List Int) (hb : Xyz p = true) (hp : p.length ≤ 1000) : Val C 27 [.sl p.length (ints p)] (.sl (Yjz p).length (ints (Yjz p))) := by
 refine Val.ofRet (e := 3) (s := 1) ?_ (Qaz _) (QTz _)
 refine Fc.keep (Fc.bodyT Qfz Tryz.func27 w27 rfl Tryz.ntmps27 Tryz.results27 (zLe rfl) ?_)
 (refine Zo ?_;repeat' ((with_reducible first|refine Zk ?_|(first|apply Za|apply Zb|apply Zc|apply Zd)<;>intro h)<;>try simp -implicitDefEqProofs (maxSteps:=9^7) (disch:=first|omega|(simp only [lens];omega)) only [go_sem]))
 refine Y1z rfl rfl rfl rfl (by simp [t3bytes]) (by omega) ?_
 (refine Zo ?_;repeat' ((with_reducible first|refine Zk ?_|(first|apply Za|apply Zb|apply Zc|apply Zd)<;>intro h)<;>try simp -implicitDefEqProofs (maxSteps:=9^7) (disch:=first|omega|(simp only [lens];omega)) only [go_sem]))
 refine Qcz (fun n ts H => ∃ (k : Nat), (k ≤ p.length) ∧ (n = p.length - k) ∧ (Qbz H 0 = some ⟨3, 1, ints (putP p (iota p.length) k)⟩) ∧ ts.length = 36 ∧ nth ts 0 = .sl p.length (ints p) ∧ nth ts 3 = .ref 0 0 p.length ∧ nth ts 4 = .int .i64 (k : Nat)) ?_ (n := p.length) ?_
 ·skip
  rintro n ts H ⟨k, hk, hn, h0, hL, hs0, hs3, hs4⟩
  refine Qqz [(0, .sl p.length (ints p)), (3, .ref 0 0 p.length), (4, .int .i64 (k : Nat))] hL (by simp only [zFm, hs0, hs3, hs4, true_and]; exact zNm) ?_
  clear hL hs0 hs3 hs4 ts
  refine Qsz Qfz ?_
  by_cases hc : k < p.length
  ·obtain ⟨b1, b2, -⟩ := (XDz p).1 hb k hc
   obtain ⟨d, hd⟩ : ∃ d : Nat, p.getD k 0 = d := ⟨(p.getD k 0).toNat, by omega⟩
   have hl := XBz p (iota p.length) k
   have hst : (putP p (iota p.length) k).set d (k : Int) = putP p (iota p.length) (k + 1) := by rw [putP, hd, Qomz hc]; rfl
   (refine Zo ?_;repeat' ((with_reducible first|refine Zk ?_|(first|apply Za|apply Zb|apply Zc|apply Zd)<;>intro h)<;>try simp -implicitDefEqProofs (maxSteps:=9^7) (disch:=first|omega|(simp only [lens];omega)) only [go_sem, hd, h0, QBz, hst]))
   exact ⟨p.length - (k + 1), by omega, k + 1, by omega, rfl, Qez h0, (by (repeat' apply And.intro) <;> (first | rfl | omega | (congr 1; omega) | assumption | (congr 1; assumption)))⟩
  ·have hks : k = p.length := by omega
   subst hks
   (refine Zo ?_;repeat' ((with_reducible first|refine Zk ?_|(first|apply Za|apply Zb|apply Zc|apply Zd)<;>intro h)<;>try simp -implicitDefEqProofs (maxSteps:=9^7) (disch:=first|omega|(simp only [lens];omega)) only [go_sem]))
   rw [QXz]
   exact Own.ret (.inr ⟨0, rfl, h0, by simp [QUz, XBz]⟩) (fun g => Qpz g _) fun v H h => h
 ·refine ⟨0, by omega, rfl, ?_, rfl, rfl, rfl, rfl⟩
  rw [putP, ← Qafz]; rfl
theorem Ypz (s l : List Int) (hl : l.length = 2 * s.length) (hs : s.length ≤ 1000) (h1 : ∀ j, j < s.length → 1 ≤ s.getD j 0 ∧ s.getD j 0 ≤ 1024) (h2 : ∀ j, j < s.length → 0 ≤ l.getD (2 * j) 0 ∧ l.getD (2 * j) 0 ≤ 1024) : Val C 30 [.sl s.length (ints s), .sl l.length (ints l)] (.sl (insL s l s.length).length (ints (insL s l s.length))) := by
 refine Val.ofRet (e := 3) (s := 1) ?_ (Qaz _) (QTz _)
 refine Fc.keep (Fc.bodyT Qfz Tryz.func30 w30 rfl Tryz.ntmps30 Tryz.results30 (zLe rfl) ?_)
 (refine Zo ?_;repeat' ((with_reducible first|refine Zk ?_|(first|apply Za|apply Zb|apply Zc|apply Zd)<;>intro h)<;>try simp -implicitDefEqProofs (maxSteps:=9^7) (disch:=first|omega|(simp only [lens];omega)) only [go_sem]))
 refine Qcz (fun n ts H => ∃ (k : Nat) (u : V), (k ≤ s.length) ∧ (n = s.length - k) ∧ (Bv.Own 3 1 H u (2 * k) (ints (insL s l k))) ∧ ts.length = 32 ∧ nth ts 0 = .sl s.length (ints s) ∧ nth ts 1 = .sl l.length (ints l) ∧ nth ts 5 = u ∧ nth ts 6 = .int .i64 (k : Nat)) ?_ (n := s.length) ?_
 ·skip
  rintro n ts H ⟨k, u, hk, hn, hu, hL, hs0, hs1, hs5, hs6⟩
  refine Qqz [(0, .sl s.length (ints s)), (1, .sl l.length (ints l)), (5, u), (6, .int .i64 (k : Nat))] hL (by simp only [zFm, hs0, hs1, hs5, hs6, true_and]; exact zNm) ?_
  clear hL hs0 hs1 hs5 hs6 ts
  refine Qsz Qfz ?_
  obtain ⟨a1, a2, a3⟩ := own_sw hu
  by_cases hc : k < s.length
  ·obtain ⟨c1, c2⟩ := h1 k hc
   obtain ⟨d1, d2⟩ := h2 k hc
   have hcl := X0z s l k
   have hcs := Qeiz s l k
   (refine Zo ?_;repeat' ((with_reducible first|refine Zk ?_|(first|apply Za|apply Zb|apply Zc|apply Zd)<;>intro h)<;>try simp -implicitDefEqProofs (maxSteps:=9^7) (disch:=first|omega|(simp only [lens];omega)) only [go_sem, a1, a2, a3]))
   refine push_two hu hcl.symm rfl ⟨by decide, by decide⟩ (by omega) fun u' H1 hu1 hF hk2 => ?_
   obtain ⟨b1, b2, b3⟩ := hk2
   rw [← hcs] at hu1
   (refine Zo ?_;repeat' ((with_reducible first|refine Zk ?_|(first|apply Za|apply Zb|apply Zc|apply Zd)<;>intro h)<;>try simp -implicitDefEqProofs (maxSteps:=9^7) (disch:=first|omega|(simp only [lens];omega)) only [go_sem, b1, b2, b3]))
   exact ⟨s.length - (k + 1), by omega, k + 1, u', by omega, rfl, hu1, (by (repeat' apply And.intro) <;> (first | rfl | omega | (congr 1; omega) | assumption | (congr 1; assumption)))⟩
  ·have hks : k = s.length := by omega
   subst hks
   (refine Zo ?_;repeat' ((with_reducible first|refine Zk ?_|(first|apply Za|apply Zb|apply Zc|apply Zd)<;>intro h)<;>try simp -implicitDefEqProofs (maxSteps:=9^7) (disch:=first|omega|(simp only [lens];omega)) only [go_sem, a1, a2, a3]))
   rw [X0z]
   exact hu.ret (fun g => Qpz g _) fun v H h => h
 ·exact ⟨0, .nil, by omega, rfl, Bv.Own.nil _ _ _, rfl, rfl, rfl, rfl, rfl⟩
end Go.Proofs.YtjdbdmhjakfldaaGreat
end
section
namespace Go.Proofs.YtjdbdmhjakfldaaGreat
open Go.Bv
theorem Qjbz {t : Tn} {l : List Int} (h : padE t l = 0) : mayT t = 0 ∧ l.length = 2 * t.shape.length ∧ (∀ j, j < t.shape.length → 0 ≤ l.getD (2 * j) 0 ∧ l.getD (2 * j) 0 ≤ 1024) ∧ mayP (padS l t.shape t.shape.length) = 0 := by
 rw [padE] at h
 split at h
 ·contradiction
 split at h
 ·cases h
 split at h
 ·cases h
 split at h
 ·cases h
 rename_i h1 h2 h3 h4
 refine ⟨by omega, by omega, fun j hj => ?_, h⟩
 have hb : negB l = false := by simpa using h3
 have h5 := Zsz.1 hb (2 * j) (by omega)
 have hp : Qfzz l t.shape.length = true := by simpa using h4
 have h6 := Qawz.1 hp j hj
 omega
theorem Qlfz (t : Tn) (ht : TnOK t) (p s l : List Int) (hp : p.length ≤ 1048576) (hs : s.length ≤ 1048576) (hl : l.length ≤ 1048576) : Pu C 7 [tnV t, .sl p.length (ints p), .sl s.length (ints s), .sl l.length (ints l)] (.bool true) := by
 refine Fc.keep (Fc.bodyT Qfz Tryz.func7 w7 rfl Tryz.ntmps7 Tryz.results7 (zLe rfl) ?_)
 (refine Zo ?_;repeat' ((with_reducible first|refine Zk ?_|(first|apply Za|apply Zb|apply Zc|apply Zd)<;>intro h)<;>try simp -implicitDefEqProofs (maxSteps:=9^7) (disch:=first|omega|(simp only [lens];omega)) only [go_sem]))
 refine Fc.pure (Qqlz t ht) (by simp [cloL, clo, Qaz, Qiz, Qrz]) (fun g => rfl) ?_
 by_cases hm : mayT t = 0
 case neg =>
  (refine Zo ?_;repeat' ((with_reducible first|refine Zk ?_|(first|apply Za|apply Zb|apply Zc|apply Zd)<;>intro h)<;>try simp -implicitDefEqProofs (maxSteps:=9^7) (disch:=first|omega|(simp only [lens];omega)) only [go_sem]))
  refine Fc.pure Xhz rfl (fun g => rfl) ?_
  (refine Zo ?_;repeat' ((with_reducible first|refine Zk ?_|(first|apply Za|apply Zb|apply Zc|apply Zd)<;>intro h)<;>try simp -implicitDefEqProofs (maxSteps:=9^7) (disch:=first|omega|(simp only [lens];omega)) only [go_sem]))
  (refine Qmz (by intro g; simp only [go_sem, ren, renL]) ?_)
  all_goals rfl
 rw [hm]
 obtain ⟨hf, hmp, hel⟩ := Q0z hm
 obtain ⟨m1, m2, m3⟩ := QFz hmp
 have hsm := YTz t t ht ht
 rw [Qiqz] at hsm
 have v1 := Zcz t ht p hp
 have T1 := transT_ok ht hp
 have s1 := Qihz t p
 have b1 := @back_trans t p
 have z1 := @ZMz t p
 have v2 := ZNz t ht s (by omega)
 have b2 := @Qkvz t s
 have s2 : -1000000 ≤ YVz t s ∧ YVz t s ≤ 1000000 := by
  have h1 := Qazz t
  have h2 := Qbaz s
  unfold YVz
  split <;> (try split) <;> (try split) <;> omega
 have T2 : TnOK (Z3z t s) := Qenz fun _ => Qocz ⟨by show s.length ≤ _; omega, ht.e, ht.r⟩
 have v3 := pad_val t ht l (by omega)
 have b3 := @back_pad t l
 have z3 := @Qjbz t l
 have T3 : TnOK (padT t l) := Qenz fun h => by
  obtain ⟨q1, q2, q3, q4⟩ := Qjbz h
  exact mvT_ok ht hm (by rw [padS, QVz]; omega) q4 _
 have s3 : -1000000 ≤ padE t l ∧ padE t l ≤ 1000000 := by
  have h1 := Qazz t
  have h2 := Qbaz (padS l t.shape t.shape.length)
  unfold padE
  split <;> (try split) <;> (try split) <;> (try split) <;> omega
 have hst : ∀ xs : List Int, xs.length ≤ 17592186044416 → Pu C 29 [.sl xs.length (ints xs), .sl xs.length (ints xs)] (.bool true) := fun xs hx => by
  have := ZHz xs xs hx
  rwa [decide_eq_true rfl] at this
 generalize Xuz t p = e1 at *
 generalize X9z t p = A at *
 generalize YVz t s = e2 at *
 generalize Z3z t s = B at *
 generalize padE t l = e3 at *
 generalize padT t l = D at *
 (refine Zo ?_;repeat' ((with_reducible first|refine Zk ?_|(first|apply Za|apply Zb|apply Zc|apply Zd)<;>intro h)<;>try simp -implicitDefEqProofs (maxSteps:=9^7) (disch:=first|omega|(simp only [lens];omega)) only [go_sem]))
 refine v1.call ⟨.self (Qrz _), .self (by simp [clo, Qaz]), trivial⟩ (by simp [clo, cloL, Qrz]) ?_
 by_cases h1 : e1 = 0
 ·skip
  (refine Zo ?_;repeat' ((with_reducible first|refine Zk ?_|(first|apply Za|apply Zb|apply Zc|apply Zd)<;>intro h)<;>try simp -implicitDefEqProofs (maxSteps:=9^7) (disch:=first|omega|(simp only [lens];omega)) only [go_sem]))
  obtain ⟨q1, q2⟩ := b1 h1
  obtain ⟨-, hb, hlp⟩ := z1 h1
  have w1 := Qifz p hb (by omega)
  have w2 := Zcz A T1 (Yjz p) (by rw [QXz]; omega)
  rw [q1, q2] at w2
  refine w1.pc ⟨.self (by simp [clo, Qaz]), trivial⟩ (by simp [clo, Qaz]) ?_
  (refine Zo ?_;repeat' ((with_reducible first|refine Zk ?_|(first|apply Za|apply Zb|apply Zc|apply Zd)<;>intro h)<;>try simp -implicitDefEqProofs (maxSteps:=9^7) (disch:=first|omega|(simp only [lens];omega)) only [go_sem]))
  refine w2.pc ⟨.self (Qrz _), .self (by simp [clo, Qaz]), trivial⟩ (by simp [clo, cloL, Qrz]) ?_
  (refine Zo ?_;repeat' ((with_reducible first|refine Zk ?_|(first|apply Za|apply Zb|apply Zc|apply Zd)<;>intro h)<;>try simp -implicitDefEqProofs (maxSteps:=9^7) (disch:=first|omega|(simp only [lens];omega)) only [go_sem]))
  refine Fc.pure hsm (by simp [cloL, clo, Qaz, Qiz, Qrz]) (fun g => rfl) ?_
  (refine Zo ?_;repeat' ((with_reducible first|refine Zk ?_|(first|apply Za|apply Zb|apply Zc|apply Zd)<;>intro h)<;>try simp -implicitDefEqProofs (maxSteps:=9^7) (disch:=first|omega|(simp only [lens];omega)) only [go_sem]))
  refine v2.call ⟨.self (Qrz _), .self (by simp [clo, Qaz]), trivial⟩ (by simp [clo, cloL, Qrz]) ?_
  by_cases h2 : e2 = 0
  ·skip
   (refine Zo ?_;repeat' ((with_reducible first|refine Zk ?_|(first|apply Za|apply Zb|apply Zc|apply Zd)<;>intro h)<;>try simp -implicitDefEqProofs (maxSteps:=9^7) (disch:=first|omega|(simp only [lens];omega)) only [go_sem]))
   obtain ⟨q1, q2, q3⟩ := b2 h2
   have w2 := ZNz B T2 t.shape (by omega)
   rw [q2, q3] at w2
   refine w2.call ⟨.self (Qrz _), .self (by simp [clo, Qaz]), trivial⟩ (by simp [clo, cloL, Qrz]) ?_
   (refine Zo ?_;repeat' ((with_reducible first|refine Zk ?_|(first|apply Za|apply Zb|apply Zc|apply Zd)<;>intro h)<;>try simp -implicitDefEqProofs (maxSteps:=9^7) (disch:=first|omega|(simp only [lens];omega)) only [go_sem]))
   refine Fc.pure hsm (by simp [cloL, clo, Qaz, Qiz, Qrz]) (fun g => rfl) ?_
   (refine Zo ?_;repeat' ((with_reducible first|refine Zk ?_|(first|apply Za|apply Zb|apply Zc|apply Zd)<;>intro h)<;>try simp -implicitDefEqProofs (maxSteps:=9^7) (disch:=first|omega|(simp only [lens];omega)) only [go_sem]))
   rw [q1]
   refine Fc.pure (hst s (by omega)) (by simp [cloL, clo, Qaz]) (fun g => rfl) ?_
   (refine Zo ?_;repeat' ((with_reducible first|refine Zk ?_|(first|apply Za|apply Zb|apply Zc|apply Zd)<;>intro h)<;>try simp -implicitDefEqProofs (maxSteps:=9^7) (disch:=first|omega|(simp only [lens];omega)) only [go_sem]))
   refine v3.call ⟨.self (Qrz _), .self (by simp [clo, Qaz]), trivial⟩ (by simp [clo, cloL, Qrz]) ?_
   by_cases h3 : e3 = 0
   ·skip
    (refine Zo ?_;repeat' ((with_reducible first|refine Zk ?_|(first|apply Za|apply Zb|apply Zc|apply Zd)<;>intro h)<;>try simp -implicitDefEqProofs (maxSteps:=9^7) (disch:=first|omega|(simp only [lens];omega)) only [go_sem]))
    obtain ⟨q1, q2⟩ := b3 h3
    obtain ⟨-, r1, r2, -⟩ := z3 h3
    have w1 := Ypz t.shape l r1 (by omega) (fun j hj => ⟨X1z m2 hj, by have := Qwz m2 hj; omega⟩) r2
    have w2 := Ziz D T3 (insL t.shape l t.shape.length) (by rw [X0z]; omega)
    rw [q1, q2] at w2
    refine w1.pc ⟨.self (by simp [clo, Qaz]), .self (by simp [clo, Qaz]), trivial⟩ (by simp [clo, Qaz]) ?_
    (refine Zo ?_;repeat' ((with_reducible first|refine Zk ?_|(first|apply Za|apply Zb|apply Zc|apply Zd)<;>intro h)<;>try simp -implicitDefEqProofs (maxSteps:=9^7) (disch:=first|omega|(simp only [lens];omega)) only [go_sem]))
    refine w2.pc ⟨.self (Qrz _), .self (by simp [clo, Qaz]), trivial⟩ (by simp [clo, cloL, Qrz]) ?_
    (refine Zo ?_;repeat' ((with_reducible first|refine Zk ?_|(first|apply Za|apply Zb|apply Zc|apply Zd)<;>intro h)<;>try simp -implicitDefEqProofs (maxSteps:=9^7) (disch:=first|omega|(simp only [lens];omega)) only [go_sem]))
    refine Fc.pure hsm (by simp [cloL, clo, Qaz, Qiz, Qrz]) (fun g => rfl) ?_
    (refine Zo ?_;repeat' ((with_reducible first|refine Zk ?_|(first|apply Za|apply Zb|apply Zc|apply Zd)<;>intro h)<;>try simp -implicitDefEqProofs (maxSteps:=9^7) (disch:=first|omega|(simp only [lens];omega)) only [go_sem]))
    refine Fc.pure Xhz rfl (fun g => rfl) ?_
    (refine Zo ?_;repeat' ((with_reducible first|refine Zk ?_|(first|apply Za|apply Zb|apply Zc|apply Zd)<;>intro h)<;>try simp -implicitDefEqProofs (maxSteps:=9^7) (disch:=first|omega|(simp only [lens];omega)) only [go_sem]))
    (refine Qmz (by intro g; simp only [go_sem, ren, renL]) ?_)
    all_goals rfl
   ·skip
    (refine Zo ?_;repeat' ((with_reducible first|refine Zk ?_|(first|apply Za|apply Zb|apply Zc|apply Zd)<;>intro h)<;>try simp -implicitDefEqProofs (maxSteps:=9^7) (disch:=first|omega|(simp only [lens];omega)) only [go_sem]))
    refine Fc.pure Xhz rfl (fun g => rfl) ?_
    (refine Zo ?_;repeat' ((with_reducible first|refine Zk ?_|(first|apply Za|apply Zb|apply Zc|apply Zd)<;>intro h)<;>try simp -implicitDefEqProofs (maxSteps:=9^7) (disch:=first|omega|(simp only [lens];omega)) only [go_sem]))
    (refine Qmz (by intro g; simp only [go_sem, ren, renL]) ?_)
    all_goals rfl
  ·skip
   (refine Zo ?_;repeat' ((with_reducible first|refine Zk ?_|(first|apply Za|apply Zb|apply Zc|apply Zd)<;>intro h)<;>try simp -implicitDefEqProofs (maxSteps:=9^7) (disch:=first|omega|(simp only [lens];omega)) only [go_sem]))
   refine v3.call ⟨.self (Qrz _), .self (by simp [clo, Qaz]), trivial⟩ (by simp [clo, cloL, Qrz]) ?_
   by_cases h3 : e3 = 0
   ·skip
    (refine Zo ?_;repeat' ((with_reducible first|refine Zk ?_|(first|apply Za|apply Zb|apply Zc|apply Zd)<;>intro h)<;>try simp -implicitDefEqProofs (maxSteps:=9^7) (disch:=first|omega|(simp only [lens];omega)) only [go_sem]))
    obtain ⟨q1, q2⟩ := b3 h3
    obtain ⟨-, r1, r2, -⟩ := z3 h3
    have w1 := Ypz t.shape l r1 (by omega) (fun j hj => ⟨X1z m2 hj, by have := Qwz m2 hj; omega⟩) r2
    have w2 := Ziz D T3 (insL t.shape l t.shape.length) (by rw [X0z]; omega)
    rw [q1, q2] at w2
    refine w1.pc ⟨.self (by simp [clo, Qaz]), .self (by simp [clo, Qaz]), trivial⟩ (by simp [clo, Qaz]) ?_
    (refine Zo ?_;repeat' ((with_reducible first|refine Zk ?_|(first|apply Za|apply Zb|apply Zc|apply Zd)<;>intro h)<;>try simp -implicitDefEqProofs (maxSteps:=9^7) (disch:=first|omega|(simp only [lens];omega)) only [go_sem]))
    refine w2.pc ⟨.self (Qrz _), .self (by simp [clo, Qaz]), trivial⟩ (by simp [clo, cloL, Qrz]) ?_
    (refine Zo ?_;repeat' ((with_reducible first|refine Zk ?_|(first|apply Za|apply Zb|apply Zc|apply Zd)<;>intro h)<;>try simp -implicitDefEqProofs (maxSteps:=9^7) (disch:=first|omega|(simp only [lens];omega)) only [go_sem]))
    refine Fc.pure hsm (by simp [cloL, clo, Qaz, Qiz, Qrz]) (fun g => rfl) ?_
    (refine Zo ?_;repeat' ((with_reducible first|refine Zk ?_|(first|apply Za|apply Zb|apply Zc|apply Zd)<;>intro h)<;>try simp -implicitDefEqProofs (maxSteps:=9^7) (disch:=first|omega|(simp only [lens];omega)) only [go_sem]))
    refine Fc.pure Xhz rfl (fun g => rfl) ?_
    (refine Zo ?_;repeat' ((with_reducible first|refine Zk ?_|(first|apply Za|apply Zb|apply Zc|apply Zd)<;>intro h)<;>try simp -implicitDefEqProofs (maxSteps:=9^7) (disch:=first|omega|(simp only [lens];omega)) only [go_sem]))
    (refine Qmz (by intro g; simp only [go_sem, ren, renL]) ?_)
    all_goals rfl
   ·skip
    (refine Zo ?_;repeat' ((with_reducible first|refine Zk ?_|(first|apply Za|apply Zb|apply Zc|apply Zd)<;>intro h)<;>try simp -implicitDefEqProofs (maxSteps:=9^7) (disch:=first|omega|(simp only [lens];omega)) only [go_sem]))
    refine Fc.pure Xhz rfl (fun g => rfl) ?_
    (refine Zo ?_;repeat' ((with_reducible first|refine Zk ?_|(first|apply Za|apply Zb|apply Zc|apply Zd)<;>intro h)<;>try simp -implicitDefEqProofs (maxSteps:=9^7) (disch:=first|omega|(simp only [lens];omega)) only [go_sem]))
    (refine Qmz (by intro g; simp only [go_sem, ren, renL]) ?_)
    all_goals rfl
 ·skip
  (refine Zo ?_;repeat' ((with_reducible first|refine Zk ?_|(first|apply Za|apply Zb|apply Zc|apply Zd)<;>intro h)<;>try simp -implicitDefEqProofs (maxSteps:=9^7) (disch:=first|omega|(simp only [lens];omega)) only [go_sem]))
  refine v2.call ⟨.self (Qrz _), .self (by simp [clo, Qaz]), trivial⟩ (by simp [clo, cloL, Qrz]) ?_
  by_cases h2 : e2 = 0
  ·skip
   (refine Zo ?_;repeat' ((with_reducible first|refine Zk ?_|(first|apply Za|apply Zb|apply Zc|apply Zd)<;>intro h)<;>try simp -implicitDefEqProofs (maxSteps:=9^7) (disch:=first|omega|(simp only [lens];omega)) only [go_sem]))
   obtain ⟨q1, q2, q3⟩ := b2 h2
   have w2 := ZNz B T2 t.shape (by omega)
   rw [q2, q3] at w2
   refine w2.call ⟨.self (Qrz _), .self (by simp [clo, Qaz]), trivial⟩ (by simp [clo, cloL, Qrz]) ?_
   (refine Zo ?_;repeat' ((with_reducible first|refine Zk ?_|(first|apply Za|apply Zb|apply Zc|apply Zd)<;>intro h)<;>try simp -implicitDefEqProofs (maxSteps:=9^7) (disch:=first|omega|(simp only [lens];omega)) only [go_sem]))
   refine Fc.pure hsm (by simp [cloL, clo, Qaz, Qiz, Qrz]) (fun g => rfl) ?_
   (refine Zo ?_;repeat' ((with_reducible first|refine Zk ?_|(first|apply Za|apply Zb|apply Zc|apply Zd)<;>intro h)<;>try simp -implicitDefEqProofs (maxSteps:=9^7) (disch:=first|omega|(simp only [lens];omega)) only [go_sem]))
   rw [q1]
   refine Fc.pure (hst s (by omega)) (by simp [cloL, clo, Qaz]) (fun g => rfl) ?_
   (refine Zo ?_;repeat' ((with_reducible first|refine Zk ?_|(first|apply Za|apply Zb|apply Zc|apply Zd)<;>intro h)<;>try simp -implicitDefEqProofs (maxSteps:=9^7) (disch:=first|omega|(simp only [lens];omega)) only [go_sem]))
   refine v3.call ⟨.self (Qrz _), .self (by simp [clo, Qaz]), trivial⟩ (by simp [clo, cloL, Qrz]) ?_
   by_cases h3 : e3 = 0
   ·skip
    (refine Zo ?_;repeat' ((with_reducible first|refine Zk ?_|(first|apply Za|apply Zb|apply Zc|apply Zd)<;>intro h)<;>try simp -implicitDefEqProofs (maxSteps:=9^7) (disch:=first|omega|(simp only [lens];omega)) only [go_sem]))
    obtain ⟨q1, q2⟩ := b3 h3
    obtain ⟨-, r1, r2, -⟩ := z3 h3
    have w1 := Ypz t.shape l r1 (by omega) (fun j hj => ⟨X1z m2 hj, by have := Qwz m2 hj; omega⟩) r2
    have w2 := Ziz D T3 (insL t.shape l t.shape.length) (by rw [X0z]; omega)
    rw [q1, q2] at w2
    refine w1.pc ⟨.self (by simp [clo, Qaz]), .self (by simp [clo, Qaz]), trivial⟩ (by simp [clo, Qaz]) ?_
    (refine Zo ?_;repeat' ((with_reducible first|refine Zk ?_|(first|apply Za|apply Zb|apply Zc|apply Zd)<;>intro h)<;>try simp -implicitDefEqProofs (maxSteps:=9^7) (disch:=first|omega|(simp only [lens];omega)) only [go_sem]))
    refine w2.pc ⟨.self (Qrz _), .self (by simp [clo, Qaz]), trivial⟩ (by simp [clo, cloL, Qrz]) ?_
    (refine Zo ?_;repeat' ((with_reducible first|refine Zk ?_|(first|apply Za|apply Zb|apply Zc|apply Zd)<;>intro h)<;>try simp -implicitDefEqProofs (maxSteps:=9^7) (disch:=first|omega|(simp only [lens];omega)) only [go_sem]))
    refine Fc.pure hsm (by simp [cloL, clo, Qaz, Qiz, Qrz]) (fun g => rfl) ?_
    (refine Zo ?_;repeat' ((with_reducible first|refine Zk ?_|(first|apply Za|apply Zb|apply Zc|apply Zd)<;>intro h)<;>try simp -implicitDefEqProofs (maxSteps:=9^7) (disch:=first|omega|(simp only [lens];omega)) only [go_sem]))
    refine Fc.pure Xhz rfl (fun g => rfl) ?_
    (refine Zo ?_;repeat' ((with_reducible first|refine Zk ?_|(first|apply Za|apply Zb|apply Zc|apply Zd)<;>intro h)<;>try simp -implicitDefEqProofs (maxSteps:=9^7) (disch:=first|omega|(simp only [lens];omega)) only [go_sem]))
    (refine Qmz (by intro g; simp only [go_sem, ren, renL]) ?_)
    all_goals rfl
   ·skip
    (refine Zo ?_;repeat' ((with_reducible first|refine Zk ?_|(first|apply Za|apply Zb|apply Zc|apply Zd)<;>intro h)<;>try simp -implicitDefEqProofs (maxSteps:=9^7) (disch:=first|omega|(simp only [lens];omega)) only [go_sem]))
    refine Fc.pure Xhz rfl (fun g => rfl) ?_
    (refine Zo ?_;repeat' ((with_reducible first|refine Zk ?_|(first|apply Za|apply Zb|apply Zc|apply Zd)<;>intro h)<;>try simp -implicitDefEqProofs (maxSteps:=9^7) (disch:=first|omega|(simp only [lens];omega)) only [go_sem]))
    (refine Qmz (by intro g; simp only [go_sem, ren, renL]) ?_)
    all_goals rfl
  ·skip
   (refine Zo ?_;repeat' ((with_reducible first|refine Zk ?_|(first|apply Za|apply Zb|apply Zc|apply Zd)<;>intro h)<;>try simp -implicitDefEqProofs (maxSteps:=9^7) (disch:=first|omega|(simp only [lens];omega)) only [go_sem]))
   refine v3.call ⟨.self (Qrz _), .self (by simp [clo, Qaz]), trivial⟩ (by simp [clo, cloL, Qrz]) ?_
   by_cases h3 : e3 = 0
   ·skip
    (refine Zo ?_;repeat' ((with_reducible first|refine Zk ?_|(first|apply Za|apply Zb|apply Zc|apply Zd)<;>intro h)<;>try simp -implicitDefEqProofs (maxSteps:=9^7) (disch:=first|omega|(simp only [lens];omega)) only [go_sem]))
    obtain ⟨q1, q2⟩ := b3 h3
    obtain ⟨-, r1, r2, -⟩ := z3 h3
    have w1 := Ypz t.shape l r1 (by omega) (fun j hj => ⟨X1z m2 hj, by have := Qwz m2 hj; omega⟩) r2
    have w2 := Ziz D T3 (insL t.shape l t.shape.length) (by rw [X0z]; omega)
    rw [q1, q2] at w2
    refine w1.pc ⟨.self (by simp [clo, Qaz]), .self (by simp [clo, Qaz]), trivial⟩ (by simp [clo, Qaz]) ?_
    (refine Zo ?_;repeat' ((with_reducible first|refine Zk ?_|(first|apply Za|apply Zb|apply Zc|apply Zd)<;>intro h)<;>try simp -implicitDefEqProofs (maxSteps:=9^7) (disch:=first|omega|(simp only [lens];omega)) only [go_sem]))
    refine w2.pc ⟨.self (Qrz _), .self (by simp [clo, Qaz]), trivial⟩ (by simp [clo, cloL, Qrz]) ?_
    (refine Zo ?_;repeat' ((with_reducible first|refine Zk ?_|(first|apply Za|apply Zb|apply Zc|apply Zd)<;>intro h)<;>try simp -implicitDefEqProofs (maxSteps:=9^7) (disch:=first|omega|(simp only [lens];omega)) only [go_sem]))
    refine Fc.pure hsm (by simp [cloL, clo, Qaz, Qiz, Qrz]) (fun g => rfl) ?_
    (refine Zo ?_;repeat' ((with_reducible first|refine Zk ?_|(first|apply Za|apply Zb|apply Zc|apply Zd)<;>intro h)<;>try simp -implicitDefEqProofs (maxSteps:=9^7) (disch:=first|omega|(simp only [lens];omega)) only [go_sem]))
    refine Fc.pure Xhz rfl (fun g => rfl) ?_
    (refine Zo ?_;repeat' ((with_reducible first|refine Zk ?_|(first|apply Za|apply Zb|apply Zc|apply Zd)<;>intro h)<;>try simp -implicitDefEqProofs (maxSteps:=9^7) (disch:=first|omega|(simp only [lens];omega)) only [go_sem]))
    (refine Qmz (by intro g; simp only [go_sem, ren, renL]) ?_)
    all_goals rfl
   ·skip
    (refine Zo ?_;repeat' ((with_reducible first|refine Zk ?_|(first|apply Za|apply Zb|apply Zc|apply Zd)<;>intro h)<;>try simp -implicitDefEqProofs (maxSteps:=9^7) (disch:=first|omega|(simp only [lens];omega)) only [go_sem]))
    refine Fc.pure Xhz rfl (fun g => rfl) ?_
    (refine Zo ?_;repeat' ((with_reducible first|refine Zk ?_|(first|apply Za|apply Zb|apply Zc|apply Zd)<;>intro h)<;>try simp -implicitDefEqProofs (maxSteps:=9^7) (disch:=first|omega|(simp only [lens];omega)) only [go_sem]))
    (refine Qmz (by intro g; simp only [go_sem, ren, renL]) ?_)
    all_goals rfl
end Go.Proofs.YtjdbdmhjakfldaaGreat
end
section
namespace Go.Proofs.YtjdbdmhjakfldaaGreat
open Go.Bv
theorem a_own : ownKnob Tryz.prog.godebug = none := by kernel_rfl
theorem a_laid : laidOutB Tryz.prog = true := by kernel_rfl
theorem rd_ints {t : Nat} (hu : Tryz.prog.underlying t = some (.slice 3)) : U.Reads Tryz.prog t fun vs => ∃ xs : List Int, vs = [.sl xs.length (ints xs)] ∧ xs.length ≤ 1048576 ∧ ∀ x ∈ xs, (Lit.int .i64 x).wf = true := U.Reads.ints hu Tryz.underlying3 (by kernel_rfl)
theorem rd_u32 : U.Reads Tryz.prog 59 fun vs => ∃ n : Nat, vs = [V.int .u32 (n : Nat)] ∧ n < 4294967296 := U.Reads.mono (U.Reads.int Tryz.underlying59) fun vs ⟨n, h, hw⟩ => by
 have hx : 0 ≤ n ∧ n ≤ 4294967295 := by simpa [Lit.wf, IntKind.min, IntKind.max, IntKind.signed, IntKind.bits] using hw
 exact ⟨n.toNat, by rw [h]; congr 2; omega, by omega⟩
theorem rd_nat : U.Reads Tryz.prog 56 fun vs => ∃ l : List Nat, vs = [NA l] ∧ l.length ≤ 1048576 ∧ Lim l :=
 U.Reads.mono (U.Reads.slice1 (g := fun n : Nat => .int .u32 (n : Nat)) Tryz.underlying56 (by kernel_rfl) rd_u32) fun vs ⟨xs, h1, h2, h3⟩ => ⟨xs, h1, h2, h3⟩
theorem rd_rat : U.Reads Tryz.prog 58 fun vs => ∃ x : Raw, vs = [.bool x.neg, NA x.num, NA x.den] ∧ RawOK x := by
 refine U.Reads.mono (U.Reads.struct (Qs := fun i vs => if i = 0 then ∃ b, vs = [V.bool b] else ∃ l : List Nat, vs = [NA l] ∧ l.length ≤ 1048576 ∧ Lim l) a_laid (of_decide_eq_true (by kernel_rfl)) Tryz.underlying58 ?_) ?_
 ·intro i f hf
  match i, hf with
  | 0, hf => cases hf; exact U.Reads.mono (U.Reads.bool Tryz.underlying4) fun vs h => by rw [if_pos rfl]; exact h
  | 1, hf => cases hf; exact U.Reads.mono rd_nat fun vs h => by rw [if_neg (by decide)]; exact h
  | 2, hf => cases hf; exact U.Reads.mono rd_nat fun vs h => by rw [if_neg (by decide)]; exact h
  | i + 3, hf => cases hf
 ·rintro u ⟨l, hl, hq, rfl⟩
  match l, hl with
  | [a, b, c], _ =>
   have h0 := hq 0 (by decide)
   have h1 := hq 1 (by decide)
   have h2 := hq 2 (by decide)
   obtain ⟨n, rfl⟩ := h0
   obtain ⟨xs, rfl, hx, hx2⟩ := h1
   obtain ⟨ys, rfl, hy, hy2⟩ := h2
   exact ⟨⟨n, xs, ys⟩, rfl, by show xs.length ≤ _; omega, by show ys.length ≤ _; omega, hx2, hy2⟩
theorem raws_of : ∀ {l : List (List V)}, (∀ x ∈ l, ∃ r : Raw, x = [.bool r.neg, NA r.num, NA r.den] ∧ RawOK r) → ∃ xs : List Raw, xs.length = l.length ∧ l.flatten = Qxz xs ∧ ∀ x ∈ xs, RawOK x
 | [], _ => ⟨[], rfl, rfl, by simp⟩
 | x :: l, h => by
  obtain ⟨a, rfl, ha⟩ := h x (by simp)
  obtain ⟨xs, h1, h2, h3⟩ := raws_of (l := l) fun y hy => h y (by simp [hy])
  exact ⟨a :: xs, by simp [h1], by rw [List.flatten_cons, h2]; rfl, fun b hb => by
   rcases List.mem_cons.1 hb with rfl | hb
   ·exact ha
   ·exact h3 b hb⟩
theorem rd_rats : U.Reads Tryz.prog 24 fun vs => ∃ xs : List Raw, vs = [.sl xs.length (Qxz xs)] ∧ xs.length ≤ 1048576 ∧ ∀ x ∈ xs, RawOK x :=
 U.Reads.mono (U.Reads.slice (s := 3) Tryz.underlying24 (by kernel_rfl) (by decide) rd_rat) fun vs ⟨l, h1, h2, h3⟩ => by
  obtain ⟨xs, q1, q2, q3⟩ := raws_of h1
  exact ⟨xs, by rw [h3, q1, q2], by omega, q3⟩
theorem rd_tensor : U.Reads Tryz.prog 26 fun vs => ∃ t : Tn, vs = [.sl t.shape.length (ints t.shape), .sl t.el.length (Qxz t.el)] ∧ TnOK t := by
 refine U.Reads.mono (U.Reads.struct (Qs := fun i vs => if i = 0 then ∃ xs : List Int, vs = [.sl xs.length (ints xs)] ∧ xs.length ≤ 1048576 ∧ ∀ x ∈ xs, (Lit.int .i64 x).wf = true else ∃ xs : List Raw, vs = [.sl xs.length (Qxz xs)] ∧ xs.length ≤ 1048576 ∧ ∀ x ∈ xs, RawOK x) a_laid (of_decide_eq_true (by kernel_rfl)) Tryz.underlying26 ?_) ?_
 ·intro i f hf
  match i, hf with
  | 0, hf => cases hf; exact U.Reads.mono (rd_ints Tryz.underlying23) fun vs h => by rw [if_pos rfl]; exact h
  | 1, hf => cases hf; exact U.Reads.mono rd_rats fun vs h => by rw [if_neg (by decide)]; exact h
  | i + 2, hf => cases hf
 ·rintro u ⟨l, hl, hq, rfl⟩
  match l, hl with
  | [a, b], _ =>
   have h0 := hq 0 (by decide)
   have h1 := hq 1 (by decide)
   obtain ⟨xs, rfl, hx, _⟩ := h0
   obtain ⟨ys, rfl, hy, hy2⟩ := h1
   exact ⟨⟨xs, ys⟩, rfl, by show xs.length ≤ _; omega, by show ys.length ≤ _; omega, hy2⟩
theorem arg_tensor : U.ArgV Tryz.prog 26 fun u => ∃ t : Tn, u = tnV t ∧ TnOK t :=
 U.ArgV.mono (U.ArgV.struct rd_tensor Tryz.underlying26) fun u ⟨vs, h1, t, h2, h3⟩ => ⟨t, by rw [h1, h2]; rfl, h3⟩
theorem Qhyz {t : Nat} (hu : Tryz.prog.underlying t = some (.slice 3)) : U.ArgV Tryz.prog t fun u => ∃ xs : List Int, u = .sl xs.length (ints xs) ∧ xs.length ≤ 1048576 ∧ ∀ x ∈ xs, (Lit.int .i64 x).wf = true :=
 U.ArgV.mono (U.ArgV.one (rd_ints hu) (by rw [hu])) fun u ⟨xs, h, h1, h2⟩ => ⟨xs, by simpa using h, h1, h2⟩
end Go.Proofs.YtjdbdmhjakfldaaGreat
end
section
namespace Go.Proofs.YtjdbdmhjakfldaaGreat
open Go.Bv
theorem args_back : U.ArgsV Tryz.prog [26, 22, 23, 22] fun us => ∃ (x : Tn) (p s l : List Int), us = [tnV x, .sl p.length (ints p), .sl s.length (ints s), .sl l.length (ints l)] ∧ TnOK x ∧ p.length ≤ 1048576 ∧ s.length ≤ 1048576 ∧ l.length ≤ 1048576 := by
 refine U.ArgsV.mono (U.ArgsV.cons arg_tensor (U.ArgsV.cons (Qhyz Tryz.underlying22) (U.ArgsV.cons (Qhyz Tryz.underlying23) (U.ArgsV.cons (Qhyz Tryz.underlying22) U.ArgsV.nil)))) ?_
 rintro us ⟨_, _, rfl, ⟨x, rfl, h1⟩, _, _, rfl, ⟨p, rfl, h2, _⟩, _, _, rfl, ⟨s, rfl, h3, _⟩, _, _, rfl, ⟨l, rfl, h4, _⟩, rfl⟩
 exact ⟨x, p, s, l, rfl, h1, h2, h3, h4⟩
end Go.Proofs.YtjdbdmhjakfldaaGreat
end
