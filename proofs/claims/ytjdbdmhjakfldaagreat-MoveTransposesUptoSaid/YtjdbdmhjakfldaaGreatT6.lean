/-
  Parts Pdq7, Pdq8, Pdq9, Pdq10, Pdq11, Pdq12, Mov5, Mov6, La1, La2, La3, Rf0, Lw1, Rf1, Rf2, Lw2, Rf6, Rf7, Lw10, RowU, one behind the other: a program logic of our own, contracts of functions.
-/
import Derived.Test.YtjdbdmhjakfldaaGreatT5

set_option linter.unusedVariables false
set_option linter.unusedSimpArgs false
set_option maxRecDepth 100000
set_option maxHeartbeats 8000000
section
namespace Go.Proofs.YtjdbdmhjakfldaaGreat
open Go.Bv
theorem Qilz (r : Nat) (a b : Nat) (H0 : Heap) (xs : List Int) (hr : Qbz H0 r = some ⟨3, 1, ints xs⟩) (hab : a + 1 ≤ b) (hb : b ≤ xs.length) (hn : xs.length ≤ 1048576) :
  Fc C 149 [.ref r 0 xs.length, .int .i64 (a : Nat), .int .i64 (b : Nat)] H0 (fun v H' => ∃ (ys : List Int) (w : Bool), v = .bool w ∧ ys.length = xs.length ∧ H' = H0.set r (some ⟨3, 1, ints ys⟩)) := by
 have hset : ∀ row, Qbz (H0.set r (some row)) r = some row := fun row => Qez hr
 have hsame := XXz hr
 refine Fc.bodyT Qfz Tryz.func149 w149 rfl Tryz.ntmps149 Tryz.results149 (zLe rfl) ?_
 (refine Zo ?_;repeat' ((with_reducible first|refine Zk ?_|(first|apply Za|apply Zb|apply Zc|apply Zd)<;>intro h)<;>try simp -implicitDefEqProofs (maxSteps:=9^7) (disch:=first|omega|(simp only [lens];omega)) only [go_sem]))
 refine Qdz (fun n ts H => ∃ (c i : Nat) (ws : List Int), (c ≤ 5) ∧ (a + 1 ≤ i) ∧ (i ≤ b) ∧ (ws.length = xs.length) ∧ (H = H0.set r (some ⟨3, 1, ints ws⟩)) ∧ (n = 5 - c) ∧ ts.length = 133 ∧ nth ts 0 = .ref r 0 xs.length ∧ nth ts 1 = .int .i64 (a : Nat) ∧ nth ts 2 = .int .i64 (b : Nat) ∧ nth ts 7 = .int .i64 (i : Nat) ∧ nth ts 8 = .int .i64 (c : Nat)) ?_ (n := 5) ?_
 ·skip
  rintro n ts H ⟨c, i, ws, hc, hi, hi2, hl, hH, hn2, hL, hs0, hs1, hs2, hs7, hs8⟩
  refine Qnz [(0, .ref r 0 xs.length), (1, .int .i64 (a : Nat)), (2, .int .i64 (b : Nat)), (7, .int .i64 (i : Nat)), (8, .int .i64 (c : Nat))] hL (by simp only [zFm, hs0, hs1, hs2, hs7, hs8, true_and]; exact zNm) ?_
  clear hL hs0 hs1 hs2 hs7 hs8 ts
  refine Qrz Qfz ?_
  subst hH hn2
  by_cases hc5 : c < 5
  case neg =>
   (refine Zo ?_;repeat' ((with_reducible first|refine Zk ?_|(first|apply Za|apply Zb|apply Zc|apply Zd)<;>intro h)<;>try simp -implicitDefEqProofs (maxSteps:=9^7) (disch:=first|omega|(simp only [lens];omega)) only [go_sem]))
   exact ⟨ws, false, rfl, hl, rfl⟩
  (refine Zo ?_;repeat' ((with_reducible first|refine Zk ?_|(first|apply Za|apply Zb|apply Zc|apply Zd)<;>intro h)<;>try simp -implicitDefEqProofs (maxSteps:=9^7) (disch:=first|omega|(simp only [lens];omega)) only [go_sem]))
  refine Qdz (fun n ts H => ∃ (i : Nat), (a + 1 ≤ i) ∧ (i ≤ b) ∧ (H = H0.set r (some ⟨3, 1, ints ws⟩)) ∧ (n = b - i) ∧ ts.length = 133 ∧ nth ts 0 = .ref r 0 xs.length ∧ nth ts 1 = .int .i64 (a : Nat) ∧ nth ts 2 = .int .i64 (b : Nat) ∧ nth ts 7 = .int .i64 (i : Nat) ∧ nth ts 8 = .int .i64 (c : Nat)) ?_ (n := b - i) ?_
  ·skip
   rintro n ts H ⟨i, hi, hi2, hH, hn2, hL, hs0, hs1, hs2, hs7, hs8⟩
   refine Qnz [(0, .ref r 0 xs.length), (1, .int .i64 (a : Nat)), (2, .int .i64 (b : Nat)), (7, .int .i64 (i : Nat)), (8, .int .i64 (c : Nat))] hL (by simp only [zFm, hs0, hs1, hs2, hs7, hs8, true_and]; exact zNm) ?_
   clear hL hs0 hs1 hs2 hs7 hs8 ts
   refine Qrz Qfz ?_
   subst hH
   have e1 : ((i : Int) - 1) = ((i - 1 : Nat) : Int) := by omega
   by_cases hib : i < b
   ·skip
    (refine Zo ?_;repeat' ((with_reducible first|refine Zk ?_|(first|apply Za|apply Zb|apply Zc|apply Zd)<;>intro h)<;>try simp -implicitDefEqProofs (maxSteps:=9^7) (disch:=first|omega|(simp only [lens];omega)) only [go_sem, hset, e1]))
    refine Pc.pure (QDz _ _) rfl (fun g => rfl) ?_
    (refine Zo ?_;repeat' ((with_reducible first|refine Zk ?_|(first|apply Za|apply Zb|apply Zc|apply Zd)<;>intro h)<;>try simp -implicitDefEqProofs (maxSteps:=9^7) (disch:=first|omega|(simp only [lens];omega)) only [go_sem, hset, Qyz, e1]))
    ·exact ⟨ws, false, rfl, hl, rfl⟩
    ·subst hn2
     refine Qdz (fun n ts H => ∃ (j : Nat) (us : List Int), (j < i) ∧ (us.length = xs.length) ∧ (H = H0.set r (some ⟨3, 1, ints us⟩)) ∧ (n = j) ∧ ts.length = 133 ∧ nth ts 0 = .ref r 0 xs.length ∧ nth ts 1 = .int .i64 (a : Nat) ∧ nth ts 2 = .int .i64 (b : Nat) ∧ nth ts 7 = .int .i64 (i : Nat) ∧ nth ts 8 = .int .i64 (c : Nat) ∧ nth ts 9 = .int .i64 (j : Nat)) ?_ (n := i - 1) ?_
     ·skip
      rintro n ts H ⟨j, us, hj, hul, hH, hn2, hL, hs0, hs1, hs2, hs7, hs8, hs9⟩
      refine Qnz [(0, .ref r 0 xs.length), (1, .int .i64 (a : Nat)), (2, .int .i64 (b : Nat)), (7, .int .i64 (i : Nat)), (8, .int .i64 (c : Nat)), (9, .int .i64 (j : Nat))] hL (by simp only [zFm, hs0, hs1, hs2, hs7, hs8, hs9, true_and]; exact zNm) ?_
      clear hL hs0 hs1 hs2 hs7 hs8 hs9 ts
      refine Qrz Qfz ?_
      subst hH
      by_cases hjb : 1 ≤ j
      ·have e2 : ((j : Int) - 1) = ((j - 1 : Nat) : Int) := by omega
       (refine Zo ?_;repeat' ((with_reducible first|refine Zk ?_|(first|apply Za|apply Zb|apply Zc|apply Zd)<;>intro h)<;>try simp -implicitDefEqProofs (maxSteps:=9^7) (disch:=first|omega|(simp only [lens];omega)) only [go_sem, hset, e2]))
       refine Pc.pure (QDz _ _) rfl (fun g => rfl) ?_
       (refine Zo ?_;repeat' ((with_reducible first|refine Zk ?_|(first|apply Za|apply Zb|apply Zc|apply Zd)<;>intro h)<;>try simp -implicitDefEqProofs (maxSteps:=9^7) (disch:=first|omega|(simp only [lens];omega)) only [go_sem, hset, Qyz, e2]))
       ·exact ⟨j - 1, by omega, j - 1, _, by omega, by simp [hul], rfl, rfl, rfl⟩
       ·skip
        refine Qdz (fun n ts H => ∃ (j : Nat) (us : List Int), (i + 1 ≤ j) ∧ (j ≤ b) ∧ (us.length = xs.length) ∧ (H = H0.set r (some ⟨3, 1, ints us⟩)) ∧ (n = b - j) ∧ ts.length = 133 ∧ nth ts 0 = .ref r 0 xs.length ∧ nth ts 1 = .int .i64 (a : Nat) ∧ nth ts 2 = .int .i64 (b : Nat) ∧ nth ts 7 = .int .i64 (i : Nat) ∧ nth ts 8 = .int .i64 (c : Nat) ∧ nth ts 10 = .int .i64 (j : Nat)) ?_ (n := b - (i + 1)) ?_
        ·skip
         rintro n ts H ⟨j, us, hj, hj2, hul, hH, hn2, hL, hs0, hs1, hs2, hs7, hs8, hs10⟩
         refine Qnz [(0, .ref r 0 xs.length), (1, .int .i64 (a : Nat)), (2, .int .i64 (b : Nat)), (7, .int .i64 (i : Nat)), (8, .int .i64 (c : Nat)), (10, .int .i64 (j : Nat))] hL (by simp only [zFm, hs0, hs1, hs2, hs7, hs8, hs10, true_and]; exact zNm) ?_
         clear hL hs0 hs1 hs2 hs7 hs8 hs10 ts
         refine Qrz Qfz ?_
         subst hH
         have e2 : ((j : Int) - 1) = ((j - 1 : Nat) : Int) := by omega
         by_cases hjb : j < b
         ·skip
          (refine Zo ?_;repeat' ((with_reducible first|refine Zk ?_|(first|apply Za|apply Zb|apply Zc|apply Zd)<;>intro h)<;>try simp -implicitDefEqProofs (maxSteps:=9^7) (disch:=first|omega|(simp only [lens];omega)) only [go_sem, hset, e2]))
          refine Pc.pure (QDz _ _) rfl (fun g => rfl) ?_
          (refine Zo ?_;repeat' ((with_reducible first|refine Zk ?_|(first|apply Za|apply Zb|apply Zc|apply Zd)<;>intro h)<;>try simp -implicitDefEqProofs (maxSteps:=9^7) (disch:=first|omega|(simp only [lens];omega)) only [go_sem, hset, Qyz, e2]))
          ·exact ⟨b - (j + 1), by omega, j + 1, _, by omega, by omega, by simp [hul], rfl, rfl, by congr 1⟩
          ·exact ⟨5 - (c + 1), by omega, c + 1, i, us, by omega, by omega, by omega, by simp [*], rfl, rfl, rfl, rfl⟩
         ·skip
          (refine Zo ?_;repeat' ((with_reducible first|refine Zk ?_|(first|apply Za|apply Zb|apply Zc|apply Zd)<;>intro h)<;>try simp -implicitDefEqProofs (maxSteps:=9^7) (disch:=first|omega|(simp only [lens];omega)) only [go_sem]))
          exact ⟨5 - (c + 1), by omega, c + 1, i, us, by omega, by omega, by omega, by simp [*], rfl, rfl, rfl, rfl⟩
        ·exact ⟨i + 1, us, by omega, by omega, by simp [*], rfl, rfl, rfl, rfl, rfl, rfl, rfl, rfl, rfl⟩
       ·exact ⟨5 - (c + 1), by omega, c + 1, i, us, by omega, by omega, by omega, by simp [*], rfl, rfl, rfl, rfl⟩
      ·skip
       (refine Zo ?_;repeat' ((with_reducible first|refine Zk ?_|(first|apply Za|apply Zb|apply Zc|apply Zd)<;>intro h)<;>try simp -implicitDefEqProofs (maxSteps:=9^7) (disch:=first|omega|(simp only [lens];omega)) only [go_sem]))
       ·skip
        refine Qdz (fun n ts H => ∃ (j : Nat) (us : List Int), (i + 1 ≤ j) ∧ (j ≤ b) ∧ (us.length = xs.length) ∧ (H = H0.set r (some ⟨3, 1, ints us⟩)) ∧ (n = b - j) ∧ ts.length = 133 ∧ nth ts 0 = .ref r 0 xs.length ∧ nth ts 1 = .int .i64 (a : Nat) ∧ nth ts 2 = .int .i64 (b : Nat) ∧ nth ts 7 = .int .i64 (i : Nat) ∧ nth ts 8 = .int .i64 (c : Nat) ∧ nth ts 10 = .int .i64 (j : Nat)) ?_ (n := b - (i + 1)) ?_
        ·skip
         rintro n ts H ⟨j, us, hj, hj2, hul, hH, hn2, hL, hs0, hs1, hs2, hs7, hs8, hs10⟩
         refine Qnz [(0, .ref r 0 xs.length), (1, .int .i64 (a : Nat)), (2, .int .i64 (b : Nat)), (7, .int .i64 (i : Nat)), (8, .int .i64 (c : Nat)), (10, .int .i64 (j : Nat))] hL (by simp only [zFm, hs0, hs1, hs2, hs7, hs8, hs10, true_and]; exact zNm) ?_
         clear hL hs0 hs1 hs2 hs7 hs8 hs10 ts
         refine Qrz Qfz ?_
         subst hH
         have e2 : ((j : Int) - 1) = ((j - 1 : Nat) : Int) := by omega
         by_cases hjb : j < b
         ·skip
          (refine Zo ?_;repeat' ((with_reducible first|refine Zk ?_|(first|apply Za|apply Zb|apply Zc|apply Zd)<;>intro h)<;>try simp -implicitDefEqProofs (maxSteps:=9^7) (disch:=first|omega|(simp only [lens];omega)) only [go_sem, hset, e2]))
          refine Pc.pure (QDz _ _) rfl (fun g => rfl) ?_
          (refine Zo ?_;repeat' ((with_reducible first|refine Zk ?_|(first|apply Za|apply Zb|apply Zc|apply Zd)<;>intro h)<;>try simp -implicitDefEqProofs (maxSteps:=9^7) (disch:=first|omega|(simp only [lens];omega)) only [go_sem, hset, Qyz, e2]))
          ·exact ⟨b - (j + 1), by omega, j + 1, _, by omega, by omega, by simp [hul], rfl, rfl, by congr 1⟩
          ·exact ⟨5 - (c + 1), by omega, c + 1, i, us, by omega, by omega, by omega, by simp [*], rfl, rfl, rfl, rfl⟩
         ·skip
          (refine Zo ?_;repeat' ((with_reducible first|refine Zk ?_|(first|apply Za|apply Zb|apply Zc|apply Zd)<;>intro h)<;>try simp -implicitDefEqProofs (maxSteps:=9^7) (disch:=first|omega|(simp only [lens];omega)) only [go_sem]))
          exact ⟨5 - (c + 1), by omega, c + 1, i, us, by omega, by omega, by omega, by simp [*], rfl, rfl, rfl, rfl⟩
        ·exact ⟨i + 1, us, by omega, by omega, by simp [*], rfl, rfl, rfl, rfl, rfl, rfl, rfl, rfl, rfl⟩
       ·exact ⟨5 - (c + 1), by omega, c + 1, i, us, by omega, by omega, by omega, by simp [*], rfl, rfl, rfl, rfl⟩
     ·exact ⟨i - 1, (ws.set i (ws.getD (i - 1) 0)).set (i - 1) (ws.getD i 0), by omega, by simp [hl], rfl, rfl, rfl, rfl, rfl, rfl, rfl, rfl, rfl⟩
    ·subst hn2
     refine Qdz (fun n ts H => ∃ (j : Nat) (us : List Int), (i + 1 ≤ j) ∧ (j ≤ b) ∧ (us.length = xs.length) ∧ (H = H0.set r (some ⟨3, 1, ints us⟩)) ∧ (n = b - j) ∧ ts.length = 133 ∧ nth ts 0 = .ref r 0 xs.length ∧ nth ts 1 = .int .i64 (a : Nat) ∧ nth ts 2 = .int .i64 (b : Nat) ∧ nth ts 7 = .int .i64 (i : Nat) ∧ nth ts 8 = .int .i64 (c : Nat) ∧ nth ts 10 = .int .i64 (j : Nat)) ?_ (n := b - (i + 1)) ?_
     ·skip
      rintro n ts H ⟨j, us, hj, hj2, hul, hH, hn2, hL, hs0, hs1, hs2, hs7, hs8, hs10⟩
      refine Qnz [(0, .ref r 0 xs.length), (1, .int .i64 (a : Nat)), (2, .int .i64 (b : Nat)), (7, .int .i64 (i : Nat)), (8, .int .i64 (c : Nat)), (10, .int .i64 (j : Nat))] hL (by simp only [zFm, hs0, hs1, hs2, hs7, hs8, hs10, true_and]; exact zNm) ?_
      clear hL hs0 hs1 hs2 hs7 hs8 hs10 ts
      refine Qrz Qfz ?_
      subst hH
      have e2 : ((j : Int) - 1) = ((j - 1 : Nat) : Int) := by omega
      by_cases hjb : j < b
      ·skip
       (refine Zo ?_;repeat' ((with_reducible first|refine Zk ?_|(first|apply Za|apply Zb|apply Zc|apply Zd)<;>intro h)<;>try simp -implicitDefEqProofs (maxSteps:=9^7) (disch:=first|omega|(simp only [lens];omega)) only [go_sem, hset, e2]))
       refine Pc.pure (QDz _ _) rfl (fun g => rfl) ?_
       (refine Zo ?_;repeat' ((with_reducible first|refine Zk ?_|(first|apply Za|apply Zb|apply Zc|apply Zd)<;>intro h)<;>try simp -implicitDefEqProofs (maxSteps:=9^7) (disch:=first|omega|(simp only [lens];omega)) only [go_sem, hset, Qyz, e2]))
       ·exact ⟨b - (j + 1), by omega, j + 1, _, by omega, by omega, by simp [hul], rfl, rfl, by congr 1⟩
       ·exact ⟨5 - (c + 1), by omega, c + 1, i, us, by omega, by omega, by omega, by simp [*], rfl, rfl, rfl, rfl⟩
      ·skip
       (refine Zo ?_;repeat' ((with_reducible first|refine Zk ?_|(first|apply Za|apply Zb|apply Zc|apply Zd)<;>intro h)<;>try simp -implicitDefEqProofs (maxSteps:=9^7) (disch:=first|omega|(simp only [lens];omega)) only [go_sem]))
       exact ⟨5 - (c + 1), by omega, c + 1, i, us, by omega, by omega, by omega, by simp [*], rfl, rfl, rfl, rfl⟩
     ·exact ⟨i + 1, (ws.set i (ws.getD (i - 1) 0)).set (i - 1) (ws.getD i 0), by omega, by omega, by simp [*], rfl, rfl, rfl, rfl, rfl, rfl, rfl, rfl, rfl⟩
    ·exact ⟨b - (i + 1), by omega, i + 1, by omega, by omega, rfl, rfl⟩
   ·skip
    (refine Zo ?_;repeat' ((with_reducible first|refine Zk ?_|(first|apply Za|apply Zb|apply Zc|apply Zd)<;>intro h)<;>try simp -implicitDefEqProofs (maxSteps:=9^7) (disch:=first|omega|(simp only [lens];omega)) only [go_sem]))
    exact ⟨ws, true, rfl, hl, rfl⟩
  ·exact ⟨i, by omega, by omega, rfl, rfl, rfl, rfl, rfl, rfl, rfl, rfl⟩
 ·exact ⟨0, a + 1, xs, by omega, by omega, by omega, rfl, hsame.symm, rfl, rfl, rfl, rfl, rfl, rfl, rfl⟩
end Go.Proofs.YtjdbdmhjakfldaaGreat
end
section
namespace Go.Proofs.YtjdbdmhjakfldaaGreat
open Go.Bv
theorem Qqqz (x : Nat) (hx : x < 4294967296) : Pu C 154 [.int .u64 (x : Nat)] (.int .i64 (blen x : Nat)) := by
 have b0 : x < 256 → blen x ≤ 8 := fun h => Xsz (by omega)
 have b1 : x < 65536 → blen (x / 256) ≤ 8 := fun h => Xsz (by omega)
 have b2 : x < 16777216 → blen (x / 65536) ≤ 8 := fun h => Xsz (by omega)
 have b3 : blen (x / 65536 / 256) ≤ 8 := Xsz (by omega)
 have s16 : (x : Int).fdiv (2 ^ min 16 64) = ((x / 65536 : Nat) : Int) := Ymz x 16
 have s8 : ∀ x : Nat, (x : Int).fdiv (2 ^ min 8 64) = ((x / 256 : Nat) : Int) := fun x => Ymz x 8
 refine Fc.keep (Fc.bodyT Qfz Tryz.func154 w154 rfl Tryz.ntmps154 Tryz.results154 (zLe rfl) ?_)
 (refine Zo ?_;repeat' ((with_reducible first|refine Zk ?_|(first|apply Za|apply Zb|apply Zc|apply Zd)<;>intro h)<;>try simp -implicitDefEqProofs (maxSteps:=9^7) (disch:=first|omega|(simp only [lens];omega)) only [go_sem, s16, s8, wrapU8, Qocz, Qjcz]))
 ·skip
  (refine Qmz (by intro g; simp only [go_sem, ren, renL]) ?_)
  rw [X1z (n := x) (k := 16) (by omega), X1z (n := x / 2 ^ 16) (k := 8) (by omega)]
  congr 1; simp only [Nat.reducePow]; omega
 ·skip
  (refine Qmz (by intro g; simp only [go_sem, ren, renL]) ?_)
  rw [X1z (n := x) (k := 16) (by omega)]
  congr 1
 ·skip
  (refine Qmz (by intro g; simp only [go_sem, ren, renL]) ?_)
  rw [X1z (n := x) (k := 8) (by omega)]
  congr 1
 ·skip
  (refine Qmz (by intro g; simp only [go_sem, ren, renL]) ?_)
  congr 1; omega
theorem Qobz (x : Nat) (hx : x < 4294967296) : Pu C 125 [.int .u64 (x : Nat)] (.int .i64 (blen x : Nat)) := by
 refine Fc.keep (Fc.bodyT Qfz Tryz.func125 w125 rfl Tryz.ntmps125 Tryz.results125 (zLe rfl) ?_)
 (refine Zo ?_;repeat' ((with_reducible first|refine Zk ?_|(first|apply Za|apply Zb|apply Zc|apply Zd)<;>intro h)<;>try simp -implicitDefEqProofs (maxSteps:=9^7) (disch:=first|omega|(simp only [lens];omega)) only [go_sem]))
 refine Fc.pure (Qqqz x hx) (by simp [go_sem, cloL, clo, Qaz, Qoz]) (by intro g; simp only [go_sem, ren, renL]) ?_
 (refine Zo ?_;repeat' ((with_reducible first|refine Zk ?_|(first|apply Za|apply Zb|apply Zc|apply Zd)<;>intro h)<;>try simp -implicitDefEqProofs (maxSteps:=9^7) (disch:=first|omega|(simp only [lens];omega)) only [go_sem]))
 (refine Qmz (by intro g; simp only [go_sem, ren, renL]) ?_)
 rfl
theorem Qjaz (x : Nat) (hx : x ≤ 1048576) : Pu C 163 [.int .i64 (x : Nat)] (.int .u64 ((2 ^ blen x : Nat) : Int)) := by
 have hb : blen x ≤ 21 := Xsz (by omega)
 refine Fc.keep (Fc.bodyT Qfz Tryz.func163 w163 rfl Tryz.ntmps163 Tryz.results163 (zLe rfl) ?_)
 (refine Zo ?_;repeat' ((with_reducible first|refine Zk ?_|(first|apply Za|apply Zb|apply Zc|apply Zd)<;>intro h)<;>try simp -implicitDefEqProofs (maxSteps:=9^7) (disch:=first|omega|(simp only [lens];omega)) only [go_sem]))
 refine Fc.pure (Qobz x (by omega)) (by simp [go_sem, cloL, clo, Qaz, Qoz]) (by intro g; simp only [go_sem, ren, renL]) ?_
 (refine Zo ?_;repeat' ((with_reducible first|refine Zk ?_|(first|apply Za|apply Zb|apply Zc|apply Zd)<;>intro h)<;>try simp -implicitDefEqProofs (maxSteps:=9^7) (disch:=first|omega|(simp only [lens];omega)) only [go_sem]))
 (refine Qmz (by intro g; simp only [go_sem, ren, renL]) ?_)
 have h2 : (2 : Nat) ^ blen x ≤ 2 ^ 21 := Nat.pow_le_pow_right (by decide) hb
 have h3 : ((2 ^ blen x : Nat) : Int) = 2 ^ blen x := by simp
 rw [Nat.min_eq_left (by omega), Int.one_mul, ← h3]
 generalize 2 ^ blen x = P at *
 rw [wrapu64' (by omega)]
theorem Qoyz (q : Nat) (s : Int) (H0 : Heap) (hq : Qbz H0 q = some ⟨183, 1, [.int .u64 s]⟩) :
  Fc C 164 [.ptr q 0] H0 (fun v H' => ∃ s' : Int, v = .int .u64 s' ∧ H' = H0.set q (some ⟨183, 1, [.int .u64 s']⟩)) := by
 have hst : ∀ z : Row, Qbz (H0.set q (some z)) q = some z := fun z => Qez hq
 refine Fc.bodyT Qfz Tryz.func164 w164 rfl Tryz.ntmps164 Tryz.results164 (zLe rfl) ?_
 (refine Zo ?_;repeat' ((with_reducible first|refine Zk ?_|(first|apply Za|apply Zb|apply Zc|apply Zd)<;>intro h)<;>try simp -implicitDefEqProofs (maxSteps:=9^7) (disch:=first|omega|(simp only [lens];omega)) only [go_sem, hq, hst]))
 exact ⟨_, rfl, rfl⟩
theorem Qmvz (r : Nat) (a b : Nat) (H0 : Heap) (xs : List Int) (hr : Qbz H0 r = some ⟨3, 1, ints xs⟩) (hab : a ≤ b) (hb : b ≤ xs.length) (hn : xs.length ≤ 1048576) :
  Fc C 146 [.ref r 0 xs.length, .int .i64 (a : Nat), .int .i64 (b : Nat)] H0 (fun v H' => ∃ (ys : List Int) (X : Heap), v = .tup [] ∧ ys.length = xs.length ∧ H' = H0.set r (some ⟨3, 1, ints ys⟩) ++ X) := by
 have hset : ∀ row, Qbz (H0.set r (some row)) r = some row := fun row => Qez hr
 have hsame := XXz hr
 obtain ⟨m, rfl⟩ : ∃ m : Nat, b = a + m := ⟨b - a, by omega⟩
 have hm : (((a + m : Nat) : Int) - (a : Int)) = (m : Nat) := by omega
 refine Fc.bodyT Qfz Tryz.func146 w146 rfl Tryz.ntmps146 Tryz.results146 (zLe rfl) ?_
 (refine Zo ?_;repeat' ((with_reducible first|refine Zk ?_|(first|apply Za|apply Zb|apply Zc|apply Zd)<;>intro h)<;>try simp -implicitDefEqProofs (maxSteps:=9^7) (disch:=first|omega|(simp only [lens];omega)) only [go_sem, hm]))
 ·refine Fc.pure (Qjaz m (by omega)) rfl (fun g => rfl) ?_
  have hp1 : 2 ^ blen m ≤ 2 * m := by
   have := Qhgz (n := m) (by omega)
   have h1 : 1 ≤ blen m := by have := Qmyz (n := m) (k := 0) (by omega); omega
   rw [show blen m = blen m - 1 + 1 by omega, Nat.pow_succ]; omega
  have hp2 := Qbaz m
  generalize 2 ^ blen m = P at *
  obtain ⟨q, hq⟩ : ∃ q, H0.length = q := ⟨_, rfl⟩
  have hrq : r < q := by rw [← hq]; exact Qsz hr
  rw [hq]
  have hk : ((m : Int) / 4 * 2) = ((m / 4 * 2 : Nat) : Int) := by omega
  (refine Zo ?_;repeat' ((with_reducible first|refine Zk ?_|(first|apply Za|apply Zb|apply Zc|apply Zd)<;>intro h)<;>try simp -implicitDefEqProofs (maxSteps:=9^7) (disch:=first|omega|(simp only [lens];omega)) only [go_sem, hk]))
  refine Qdz (fun n ts H => ∃ (i : Nat) (s : Int) (ws : List Int), (a + m / 4 * 2 - 1 ≤ i) ∧ (i ≤ a + m / 4 * 2 + 2) ∧ (ws.length = xs.length) ∧ (H = H0.set r (some ⟨3, 1, ints ws⟩) ++ [some ⟨183, 1, [.int .u64 s]⟩]) ∧ (n = a + m / 4 * 2 + 2 - i) ∧ ts.length = 65 ∧ nth ts 0 = .ref r 0 xs.length ∧ nth ts 1 = .int .i64 (a : Nat) ∧ nth ts 6 = .int .i64 (m : Nat) ∧ nth ts 7 = .ptr q 0 ∧ nth ts 8 = .int .u64 (P : Nat) ∧ nth ts 9 = .int .i64 (i : Nat)) ?_ (n := 3) ?_
  ·skip
   rintro n ts H ⟨i, s, ws, hi, hi2, hl, hH, hn2, hL, hs0, hs1, hs6, hs7, hs8, hs9⟩
   refine Qnz [(0, .ref r 0 xs.length), (1, .int .i64 (a : Nat)), (6, .int .i64 (m : Nat)), (7, .ptr q 0), (8, .int .u64 (P : Nat)), (9, .int .i64 (i : Nat))] hL (by simp only [zFm, hs0, hs1, hs6, hs7, hs8, hs9, true_and]; exact zNm) ?_
   clear hL hs0 hs1 hs6 hs7 hs8 hs9 ts
   refine Qrz Qfz ?_
   subst hH
   have hq2 : ∀ (w : Option Row) (z : Row), Qbz (H0.set r w ++ [some z]) q = some z := fun w z => by
    have := QGz (H0.set r w) z
    rwa [List.length_set, hq] at this
   have hr2 : ∀ (w : Row) Y, Qbz (H0.set r (some w) ++ Y) r = some w := fun w Y => Qgz (hset w) Y
   have hs2 : ∀ (w z z' : Option Row), (H0.set r w ++ [z]).set q z' = H0.set r w ++ [z'] := fun w z z' => by
    rw [List.set_append_right _ _ (by rw [List.length_set]; omega), List.length_set, hq, Nat.sub_self]; rfl
   have hs3 : ∀ (w w' : Option Row) Y, (H0.set r w ++ Y).set r w' = H0.set r w' ++ Y := fun w w' Y => by
    rw [List.set_append_left _ _ (by rw [List.length_set]; omega), List.set_set]
   by_cases hil : i ≤ a + m / 4 * 2 + 1
   ·skip
    (refine Zo ?_;repeat' ((with_reducible first|refine Zk ?_|(first|apply Za|apply Zb|apply Zc|apply Zd)<;>intro h)<;>try simp -implicitDefEqProofs (maxSteps:=9^7) (disch:=first|omega|(simp only [lens];omega)) only [go_sem, hk]))
    refine Fc.mono (Qoyz q s _ (hq2 _ _)) ?_
    rintro v H' ⟨s', rfl, rfl⟩
    rw [hs2]
    obtain ⟨o, ho, hoP⟩ : ∃ o : Nat, (@HAnd.hAnd (BitVec 64) (BitVec 64) (BitVec 64) (@instHAndOfAndOp (BitVec IntKind.u64.bits) (@BitVec.instAndOp IntKind.u64.bits)) (BitVec.ofInt 64 s') (BitVec.ofInt 64 ((P : Int) - 1))).toNat = o ∧ o < P := ⟨_, rfl, by
     show (BitVec.ofInt 64 s' &&& BitVec.ofInt 64 ((P : Int) - 1)).toNat < P
     have h1 := Nat.and_le_right (n := (BitVec.ofInt 64 s').toNat) (m := (BitVec.ofInt 64 ((P : Int) - 1)).toNat)
     rw [BitVec.toNat_and]
     have h2 : (BitVec.ofInt 64 ((P : Int) - 1)).toNat = P - 1 := by
      rw [BitVec.toNat_ofInt]
      omega
     omega⟩
    (refine Zo ?_;repeat' ((with_reducible first|refine Zk ?_|(first|apply Za|apply Zb|apply Zc|apply Zd)<;>intro h)<;>try simp -implicitDefEqProofs (maxSteps:=9^7) (disch:=first|omega|(simp only [lens];omega)) only [go_sem, ho, hr2, hs3, Qyz]))
    all_goals exact ⟨a + m / 4 * 2 + 2 - (i + 1), by omega, i + 1, s', _, by omega, by omega, by simp [hl], rfl, rfl, by congr 1⟩
   ·skip
    (refine Zo ?_;repeat' ((with_reducible first|refine Zk ?_|(first|apply Za|apply Zb|apply Zc|apply Zd)<;>intro h)<;>try simp -implicitDefEqProofs (maxSteps:=9^7) (disch:=first|omega|(simp only [lens];omega)) only [go_sem, hk]))
    exact ⟨ws, _, hl, rfl⟩
  ·exact ⟨a + m / 4 * 2 - 1, m, xs, by omega, by omega, rfl, by rw [hsame], by omega, rfl, rfl, rfl, rfl, rfl, rfl, by show V.int .i64 ((a : Int) + ((m / 4 * 2 : Nat) : Int) - 1) = _; congr 1; omega⟩
 ·exact ⟨xs, [], rfl, by rw [hsame]; simp⟩
end Go.Proofs.YtjdbdmhjakfldaaGreat
end
section
namespace Go.Proofs.YtjdbdmhjakfldaaGreat
open Go.Bv
theorem Qjvz (r : Nat) (a b : Nat) (H0 : Heap) (xs : List Int) (hr : Qbz H0 r = some ⟨3, 1, ints xs⟩) (hab : a + 12 < b) (hb : b ≤ xs.length) (hn : xs.length ≤ 1048576) :
  Fc C 147 [.ref r 0 xs.length, .int .i64 (a : Nat), .int .i64 (b : Nat)] H0 (fun v H' => ∃ (p : Nat) (h : Int) (X : Heap), v = .tup [.int .i64 (p : Nat), .int .i64 h] ∧ (a ≤ p ∧ p < b) ∧ 0 ≤ h ∧ h ≤ 2 ∧ H' = H0 ++ X) := by
 obtain ⟨m, rfl⟩ : ∃ m : Nat, b = a + m := ⟨b - a, by omega⟩
 have hm : (((a + m : Nat) : Int) - (a : Int)) = (m : Nat) := by omega
 have hk1 : ((a : Int) + (m : Int) / 4 * 1) = ((a + m / 4 : Nat) : Int) := by omega
 have hk2 : ((a : Int) + (m : Int) / 4 * 2) = ((a + m / 4 * 2 : Nat) : Int) := by omega
 have hk3 : ((a : Int) + (m : Int) / 4 * 3) = ((a + m / 4 * 3 : Nat) : Int) := by omega
 obtain ⟨q, hq⟩ : ∃ q, H0.length = q := ⟨_, rfl⟩
 have hrq : r < q := by rw [← hq]; exact Qsz hr
 have hq2 : ∀ (z : Row), Qbz (H0 ++ [some z]) q = some z := fun z => by
  have := QGz H0 z
  rwa [hq] at this
 have hs2 : ∀ (z z' : Option Row), (H0 ++ [z]).set q z' = H0 ++ [z'] := fun z z' => by
  rw [List.set_append_right _ _ (by omega), hq, Nat.sub_self]; rfl
 have hr2 : ∀ Y, Qbz (H0 ++ Y) r = some ⟨3, 1, ints xs⟩ := fun Y => Qgz hr Y
 refine Fc.bodyT Qfz Tryz.func147 w147 rfl Tryz.ntmps147 Tryz.results147 (zLe rfl) ?_
 (refine Zo ?_;repeat' ((with_reducible first|refine Zk ?_|(first|apply Za|apply Zb|apply Zc|apply Zd)<;>intro h)<;>try simp -implicitDefEqProofs (maxSteps:=9^7) (disch:=first|omega|(simp only [lens];omega)) only [go_sem, hm, hk1, hk2, hk3, hq]))
 ·refine Fc.mono (Yoz r q a (a + m) (a + m / 4) 0 _ xs (hr2 _) (hq2 _) (by omega) hb (by omega) hn (by omega)) ?_
  rintro v H' ⟨i, s1, rfl, hi, hs1, rfl⟩
  rw [hs2]
  (refine Zo ?_;repeat' ((with_reducible first|refine Zk ?_|(first|apply Za|apply Zb|apply Zc|apply Zd)<;>intro h)<;>try simp -implicitDefEqProofs (maxSteps:=9^7) (disch:=first|omega|(simp only [lens];omega)) only [go_sem]))
  refine Fc.mono (Yoz r q a (a + m) (a + m / 4 * 2) s1 _ xs (hr2 _) (hq2 _) (by omega) hb (by omega) hn (by omega)) ?_
  rintro v H' ⟨j, s2, rfl, hj, hs2', rfl⟩
  rw [hs2]
  (refine Zo ?_;repeat' ((with_reducible first|refine Zk ?_|(first|apply Za|apply Zb|apply Zc|apply Zd)<;>intro h)<;>try simp -implicitDefEqProofs (maxSteps:=9^7) (disch:=first|omega|(simp only [lens];omega)) only [go_sem]))
  refine Fc.mono (Yoz r q a (a + m) (a + m / 4 * 3) s2 _ xs (hr2 _) (hq2 _) (by omega) hb (by omega) hn (by omega)) ?_
  rintro v H' ⟨k, s3, rfl, hk, hs3, rfl⟩
  rw [hs2]
  (refine Zo ?_;repeat' ((with_reducible first|refine Zk ?_|(first|apply Za|apply Zb|apply Zc|apply Zd)<;>intro h)<;>try simp -implicitDefEqProofs (maxSteps:=9^7) (disch:=first|omega|(simp only [lens];omega)) only [go_sem]))
  refine Fc.mono (ZHz r q a (a + m) i j k s3 _ xs (hr2 _) (hq2 _) (by omega) hb (by omega) (by omega) (by omega) hn (by omega)) ?_
  rintro v H' ⟨p, s4, rfl, hp, hs4, rfl⟩
  rw [hs2]
  (refine Zo ?_;repeat' ((with_reducible first|refine Zk ?_|(first|apply Za|apply Zb|apply Zc|apply Zd)<;>intro h)<;>try simp -implicitDefEqProofs (maxSteps:=9^7) (disch:=first|omega|(simp only [lens];omega)) only [go_sem, hq2]))
  ·exact ⟨p, 1, [_], rfl, hp, by decide, by decide, rfl⟩
  ·exact ⟨p, 2, [_], rfl, hp, by decide, by decide, rfl⟩
  ·exact ⟨p, 0, [_], rfl, hp, by decide, by decide, rfl⟩
 ·skip
  refine Fc.mono (ZHz r q a (a + m) (a + m / 4) (a + m / 4 * 2) (a + m / 4 * 3) 0 _ xs (hr2 _) (hq2 _) (by omega) hb (by omega) (by omega) (by omega) hn (by omega)) ?_
  rintro v H' ⟨p, s4, rfl, hp, hs4, rfl⟩
  rw [hs2]
  (refine Zo ?_;repeat' ((with_reducible first|refine Zk ?_|(first|apply Za|apply Zb|apply Zc|apply Zd)<;>intro h)<;>try simp -implicitDefEqProofs (maxSteps:=9^7) (disch:=first|omega|(simp only [lens];omega)) only [go_sem, hq2]))
  ·exact ⟨p, 1, [_], rfl, hp, by decide, by decide, rfl⟩
  ·exact ⟨p, 0, [_], rfl, hp, by decide, by decide, rfl⟩
end Go.Proofs.YtjdbdmhjakfldaaGreat
end
section
namespace Go.Proofs.YtjdbdmhjakfldaaGreat
open Go.Bv
def Wh (H0 : Heap) (r : Nat) (ys : List Int) (X : Heap) : Heap := H0.set r (some ⟨3, 1, ints ys⟩) ++ X
theorem ZDz {H0 : Heap} {r : Nat} (h : r < H0.length) (ys : List Int) (X : Heap) : Qbz (Wh H0 r ys X) r = some ⟨3, 1, ints ys⟩ :=
 Qgz (by simp [Qbz, h]) _
theorem Qegz {H0 : Heap} {r : Nat} (h : r < H0.length) (ys zs : List Int) (X : Heap) : (Wh H0 r ys X).set r (some ⟨3, 1, ints zs⟩) = Wh H0 r zs X := by
 rw [Wh, Wh, List.set_append_left _ _ (by rw [List.length_set]; exact h), List.set_set]
theorem Wh_app (H0 : Heap) (r : Nat) (ys : List Int) (X Y : Heap) : Wh H0 r ys X ++ Y = Wh H0 r ys (X ++ Y) := by rw [Wh, Wh, List.append_assoc]
section
variable {H0 X : Heap} {r L a b : Nat} {ws : List Int} {K : V → Heap → Prop} (hr : r < H0.length) (hl : ws.length = L) (hn : L ≤ 1048576)
include hr hl hn
theorem insW (hab : a ≤ b) (hb : b ≤ L) (hK : ∀ ys : List Int, ys.length = L → K (.tup []) (Wh H0 r ys X)) : Fc C 144 [.ref r 0 L, .int .i64 (a : Nat), .int .i64 (b : Nat)] (Wh H0 r ws X) K := by
 subst hl
 refine Fc.mono (Qexz r a b _ ws (ZDz hr _ _) hab hb hn) ?_
 rintro v H' ⟨ys, rfl, h, rfl⟩
 rw [Qegz hr]; exact hK ys h
theorem heapW (hab : a + 1 ≤ b) (hb : b ≤ L) (hK : ∀ ys : List Int, ys.length = L → K (.tup []) (Wh H0 r ys X)) : Fc C 145 [.ref r 0 L, .int .i64 (a : Nat), .int .i64 (b : Nat)] (Wh H0 r ws X) K := by
 subst hl
 refine Fc.mono (Qgyz r a b _ ws (ZDz hr _ _) hab hb hn) ?_
 rintro v H' ⟨ys, rfl, h, rfl⟩
 rw [Qegz hr]; exact hK ys h
theorem revW (hab : a ≤ b) (hb : b ≤ L) (hK : ∀ ys : List Int, ys.length = L → K (.tup []) (Wh H0 r ys X)) : Fc C 148 [.ref r 0 L, .int .i64 (a : Nat), .int .i64 (b : Nat)] (Wh H0 r ws X) K := by
 subst hl
 refine Fc.mono (Qgmz r a b _ ws (ZDz hr _ _) hab hb hn) ?_
 rintro v H' ⟨ys, rfl, h, rfl⟩
 rw [Qegz hr]; exact hK ys h
theorem breakW (hab : a ≤ b) (hb : b ≤ L) (hK : ∀ (ys : List Int) (X : Heap), ys.length = L → K (.tup []) (Wh H0 r ys X)) : Fc C 146 [.ref r 0 L, .int .i64 (a : Nat), .int .i64 (b : Nat)] (Wh H0 r ws X) K := by
 subst hl
 refine Fc.mono (Qmvz r a b _ ws (ZDz hr _ _) hab hb hn) ?_
 rintro v H' ⟨ys, Y, rfl, h, rfl⟩
 rw [Qegz hr, Wh_app]; exact hK ys _ h
theorem chooseW (hab : a + 12 < b) (hb : b ≤ L) (hK : ∀ (p : Nat) (h : Int) (X : Heap), a ≤ p → p < b → 0 ≤ h → h ≤ 2 → K (.tup [.int .i64 (p : Nat), .int .i64 h]) (Wh H0 r ws X)) : Fc C 147 [.ref r 0 L, .int .i64 (a : Nat), .int .i64 (b : Nat)] (Wh H0 r ws X) K := by
 subst hl
 refine Fc.mono (Qjvz r a b _ ws (ZDz hr _ _) hab hb hn) ?_
 rintro v H' ⟨p, h, Y, rfl, h1, h2, h3, rfl⟩
 rw [Wh_app]; exact hK p h _ h1.1 h1.2 h2 h3
theorem partInsW (hab : a + 1 ≤ b) (hb : b ≤ L) (hK : ∀ (ys : List Int) (w : Bool), ys.length = L → K (.bool w) (Wh H0 r ys X)) : Fc C 149 [.ref r 0 L, .int .i64 (a : Nat), .int .i64 (b : Nat)] (Wh H0 r ws X) K := by
 subst hl
 refine Fc.mono (Qilz r a b _ ws (ZDz hr _ _) hab hb hn) ?_
 rintro v H' ⟨ys, w, rfl, h, rfl⟩
 rw [Qegz hr]; exact hK ys w h
theorem partEqW {p : Nat} (hab : a + 1 ≤ b) (hb : b ≤ L) (hp : p < L) (hK : ∀ (ys : List Int) (m : Nat), ys.length = L → a + 1 ≤ m → m ≤ b → K (.int .i64 (m : Nat)) (Wh H0 r ys X)) : Fc C 151 [.ref r 0 L, .int .i64 (a : Nat), .int .i64 (b : Nat), .int .i64 (p : Nat)] (Wh H0 r ws X) K := by
 subst hl
 refine Fc.mono (Qerz r a b p _ ws (ZDz hr _ _) hab hb hp hn) ?_
 rintro v H' ⟨ys, m, rfl, h1, h2, h, rfl⟩
 rw [Qegz hr]; exact hK ys m h h1 h2
theorem partW {p : Nat} (hab : a + 1 ≤ b) (hb : b ≤ L) (hp : p < L) (hK : ∀ (ys : List Int) (m : Nat) (w : Bool), ys.length = L → a ≤ m → m < b → K (.tup [.int .i64 (m : Nat), .bool w]) (Wh H0 r ys X)) : Fc C 152 [.ref r 0 L, .int .i64 (a : Nat), .int .i64 (b : Nat), .int .i64 (p : Nat)] (Wh H0 r ws X) K := by
 subst hl
 refine Fc.mono (Qeqz r a b p _ ws (ZDz hr _ _) hab hb hp hn) ?_
 rintro v H' ⟨ys, m, w, rfl, h1, h2, h, rfl⟩
 rw [Qegz hr]; exact hK ys m w h h1 h2
end
end Go.Proofs.YtjdbdmhjakfldaaGreat
end
section
namespace Go.Proofs.YtjdbdmhjakfldaaGreat
open Go.Bv
theorem Qlgz (r L : Nat) (hL : L ≤ 1048576) : ∀ (N a b : Nat) (lim : Int) (H0 X : Heap) (xs : List Int), b - a ≤ N → r < H0.length → xs.length = L → a ≤ b → b ≤ L → 0 ≤ lim → lim ≤ 64 →
  Fc C 124 [.ref r 0 L, .int .i64 (a : Nat), .int .i64 (b : Nat), .int .i64 lim] (Wh H0 r xs X) (fun v H' => ∃ (ys : List Int) (X : Heap), v = .tup [] ∧ ys.length = L ∧ H' = Wh H0 r ys X) := by
 intro N
 induction N using Nat.strongRecOn with
 | ind N ih =>
 intro a b lim H0 X xs hN hr hxl hab hb hl0 hl1
 refine Fc.bodyT Qfz Tryz.func124 w124 rfl Tryz.ntmps124 Tryz.results124 (zLe rfl) ?_
 (refine Zo ?_;repeat' ((with_reducible first|refine Zk ?_|(first|apply Za|apply Zb|apply Zc|apply Zd)<;>intro h)<;>try simp -implicitDefEqProofs (maxSteps:=9^7) (disch:=first|omega|(simp only [lens];omega)) only [go_sem]))
 refine Qdz (fun n ts H => ∃ (a b : Nat) (lim : Int) (w1 w2 : Bool) (ws : List Int) (X : Heap), (a ≤ b) ∧ (b ≤ L) ∧ (b - a ≤ N) ∧ (0 ≤ lim) ∧ (lim ≤ 64) ∧ (ws.length = L) ∧ (H = Wh H0 r ws X) ∧ (n = b - a) ∧ ts.length = 134 ∧ nth ts 0 = .ref r 0 L ∧ nth ts 1 = .int .i64 (a : Nat) ∧ nth ts 2 = .int .i64 (b : Nat) ∧ nth ts 3 = .int .i64 lim ∧ nth ts 8 = .bool w1 ∧ nth ts 9 = .bool w2) ?_ (n := b - a) ?_
 ·skip
  rintro n ts H ⟨a, b, lim, w1, w2, ws, X, hab, hb, hN, hl0, hl1, hl, hH, hn2, hL, hs0, hs1, hs2, hs3, hs8, hs9⟩
  refine Qnz [(0, .ref r 0 L), (1, .int .i64 (a : Nat)), (2, .int .i64 (b : Nat)), (3, .int .i64 lim), (8, .bool w1), (9, .bool w2)] hL (by simp only [zFm, hs0, hs1, hs2, hs3, hs8, hs9, true_and]; exact zNm) ?_
  clear hL hs0 hs1 hs2 hs3 hs8 hs9 ts
  refine Qrz Qfz ?_
  subst hH
  have hw := fun ys X => ZDz (X := X) hr ys
  (refine Zo ?_;repeat' ((with_reducible first|refine Zk ?_|(first|apply Za|apply Zb|apply Zc|apply Zd)<;>intro h)<;>try simp -implicitDefEqProofs (maxSteps:=9^7) (disch:=first|omega|(simp only [lens];omega)) only [go_sem]))
  repeat' first
   | (with_reducible refine chooseW hr (by assumption) hL (by omega) hb fun p h X hp1 hp2 hh1 hh2 => ?_
      cases w1
      all_goals first
       | contradiction
       | ((refine Zo ?_;repeat' ((with_reducible first|refine Zk ?_|(first|apply Za|apply Zb|apply Zc|apply Zd)<;>intro h)<;>try simp -implicitDefEqProofs (maxSteps:=9^7) (disch:=first|omega|(simp only [lens];omega)) only [go_sem, hw]))))
   | (with_reducible refine revW hr (by assumption) hL hab hb fun ys hy => ?_
      have hpv : ((b : Int) - 1 - ((p : Int) - (a : Int))) = ((b - 1 - (p - a) : Nat) : Int) := by omega
      (refine Zo ?_;repeat' ((with_reducible first|refine Zk ?_|(first|apply Za|apply Zb|apply Zc|apply Zd)<;>intro h)<;>try simp -implicitDefEqProofs (maxSteps:=9^7) (disch:=first|omega|(simp only [lens];omega)) only [go_sem, hw, hpv])))
   | (with_reducible refine partInsW hr (by assumption) hL (by omega) hb fun ys w hy => ?_
      cases w
      rotate_left
      focus
       (refine Zo ?_;repeat' ((with_reducible first|refine Zk ?_|(first|apply Za|apply Zb|apply Zc|apply Zd)<;>intro h)<;>try simp -implicitDefEqProofs (maxSteps:=9^7) (disch:=first|omega|(simp only [lens];omega)) only [go_sem, hw]))
       exact ⟨_, _, by assumption, rfl⟩
      (refine Zo ?_;repeat' ((with_reducible first|refine Zk ?_|(first|apply Za|apply Zb|apply Zc|apply Zd)<;>intro h)<;>try simp -implicitDefEqProofs (maxSteps:=9^7) (disch:=first|omega|(simp only [lens];omega)) only [go_sem, hw])))
   | (with_reducible refine Pc.pure (QDz _ _) rfl (fun g => rfl) ?_
      (refine Zo ?_;repeat' ((with_reducible first|refine Zk ?_|(first|apply Za|apply Zb|apply Zc|apply Zd)<;>intro h)<;>try simp -implicitDefEqProofs (maxSteps:=9^7) (disch:=first|omega|(simp only [lens];omega)) only [go_sem, hw])))
   | (with_reducible refine partEqW hr (by assumption) hL (by omega) hb (by omega) fun ys m hy hm1 hm2 => ?_
      (refine Zo ?_;repeat' ((with_reducible first|refine Zk ?_|(first|apply Za|apply Zb|apply Zc|apply Zd)<;>intro h)<;>try simp -implicitDefEqProofs (maxSteps:=9^7) (disch:=first|omega|(simp only [lens];omega)) only [go_sem]))
      exact ⟨b - m, by omega, m, b, _, _, _, _, _, by omega, by omega, by omega, by omega, by omega, by assumption, rfl, rfl, rfl, rfl, rfl, rfl, rfl⟩)
   | (with_reducible refine partW hr (by assumption) hL (by omega) hb (by omega) fun ys m w hy hm1 hm2 => ?_
      have hm3 : ((m : Int) + 1) = ((m + 1 : Nat) : Int) := rfl
      (refine Zo ?_;repeat' ((with_reducible first|refine Zk ?_|(first|apply Za|apply Zb|apply Zc|apply Zd)<;>intro h)<;>try simp -implicitDefEqProofs (maxSteps:=9^7) (disch:=first|omega|(simp only [lens];omega)) only [go_sem, hm3])))
   | (with_reducible refine Fc.mono (ih (N - 1) (by omega) a m _ _ _ _ (by omega) hr (by assumption) (by omega) (by omega) (by omega) (by omega)) ?_
      rintro v H' ⟨ys, X, rfl, hy, rfl⟩
      have hm3 : ((m : Int) + 1) = ((m + 1 : Nat) : Int) := rfl
      (refine Zo ?_;repeat' ((with_reducible first|refine Zk ?_|(first|apply Za|apply Zb|apply Zc|apply Zd)<;>intro h)<;>try simp -implicitDefEqProofs (maxSteps:=9^7) (disch:=first|omega|(simp only [lens];omega)) only [go_sem, hm3]))
      exact ⟨b - (m + 1), by omega, m + 1, b, _, _, _, _, _, by omega, by omega, by omega, by omega, by omega, by assumption, rfl, rfl, rfl, rfl, rfl, rfl, rfl⟩)
   | (with_reducible refine Fc.mono (ih (N - 1) (by omega) (m + 1) b _ _ _ _ (by omega) hr (by assumption) (by omega) (by omega) (by omega) (by omega)) ?_
      rintro v H' ⟨ys, X, rfl, hy, rfl⟩
      (refine Zo ?_;repeat' ((with_reducible first|refine Zk ?_|(first|apply Za|apply Zb|apply Zc|apply Zd)<;>intro h)<;>try simp -implicitDefEqProofs (maxSteps:=9^7) (disch:=first|omega|(simp only [lens];omega)) only [go_sem]))
      exact ⟨m - a, by omega, a, m, _, _, _, _, _, by omega, by omega, by omega, by omega, by omega, by assumption, rfl, rfl, rfl, rfl, rfl, rfl, rfl⟩)
   | (with_reducible refine insW hr (by assumption) hL hab hb fun ys hy => ?_
      (refine Zo ?_;repeat' ((with_reducible first|refine Zk ?_|(first|apply Za|apply Zb|apply Zc|apply Zd)<;>intro h)<;>try simp -implicitDefEqProofs (maxSteps:=9^7) (disch:=first|omega|(simp only [lens];omega)) only [go_sem]))
      exact ⟨_, _, by assumption, rfl⟩)
   | (with_reducible refine heapW hr (by assumption) hL (by omega) hb fun ys hy => ?_
      (refine Zo ?_;repeat' ((with_reducible first|refine Zk ?_|(first|apply Za|apply Zb|apply Zc|apply Zd)<;>intro h)<;>try simp -implicitDefEqProofs (maxSteps:=9^7) (disch:=first|omega|(simp only [lens];omega)) only [go_sem]))
      exact ⟨_, _, by assumption, rfl⟩)
   | (with_reducible refine breakW hr (by assumption) hL hab hb fun ys X hy => ?_
      (refine Zo ?_;repeat' ((with_reducible first|refine Zk ?_|(first|apply Za|apply Zb|apply Zc|apply Zd)<;>intro h)<;>try simp -implicitDefEqProofs (maxSteps:=9^7) (disch:=first|omega|(simp only [lens];omega)) only [go_sem])))
 ·exact ⟨a, b, lim, true, true, xs, X, by omega, by omega, by omega, by omega, by omega, hxl, rfl, by omega, rfl, rfl, rfl, rfl, rfl, rfl, rfl⟩
end Go.Proofs.YtjdbdmhjakfldaaGreat
end
section
namespace Go.Proofs.YtjdbdmhjakfldaaGreat
open Go.Bv
theorem Qkpz (r : Nat) (H0 : Heap) (xs : List Int) (hr : Qbz H0 r = some ⟨3, 1, ints xs⟩) (hn : xs.length ≤ 1048576) : Fc C 105 [.ref r 0 xs.length] H0 (fun v H' => ∃ (ys : List Int) (X : Heap), v = .tup [] ∧ ys.length = xs.length ∧ H' = Wh H0 r ys X) := by
 have hb : blen xs.length ≤ 21 := Xsz (by omega)
 have h := Qlgz r xs.length hn xs.length 0 xs.length (blen xs.length : Nat) H0 [] xs (by omega) (Qsz hr) rfl (by omega) (Nat.le_refl _) (by omega) (by omega)
 rw [show Wh H0 r xs [] = H0 by rw [Wh, XXz hr, List.append_nil]] at h
 refine Fc.bodyT Qfz Tryz.func105 w105 rfl Tryz.ntmps105 Tryz.results105 (zLe rfl) ?_
 (refine Zo ?_;repeat' ((with_reducible first|refine Zk ?_|(first|apply Za|apply Zb|apply Zc|apply Zd)<;>intro h)<;>try simp -implicitDefEqProofs (maxSteps:=9^7) (disch:=first|omega|(simp only [lens];omega)) only [go_sem]))
 refine Fc.pure (Qobz _ (by omega)) (by simp [go_sem, cloL, clo, Qaz, Qoz]) (by intro g; simp only [go_sem, ren, renL]) ?_
 (refine Zo ?_;repeat' ((with_reducible first|refine Zk ?_|(first|apply Za|apply Zb|apply Zc|apply Zd)<;>intro h)<;>try simp -implicitDefEqProofs (maxSteps:=9^7) (disch:=first|omega|(simp only [lens];omega)) only [go_sem]))
 refine Fc.mono h ?_
 rintro v H' ⟨ys, X, rfl, hy, rfl⟩
 (refine Zo ?_;repeat' ((with_reducible first|refine Zk ?_|(first|apply Za|apply Zb|apply Zc|apply Zd)<;>intro h)<;>try simp -implicitDefEqProofs (maxSteps:=9^7) (disch:=first|omega|(simp only [lens];omega)) only [go_sem]))
 exact ⟨ys, X, hy, rfl⟩
theorem Qfcz (xs : List Int) (h0 : 0 < xs.length) (hx : xs.length ≤ 1048576) : Fc C 80 [vals xs] [] (fun v H => ∃ ys : List Int, ys.length = xs.length ∧ Ret 3 1 H v ys.length (ints ys)) := by
 refine Fc.keep (Fc.bodyT Qfz Tryz.func80 w80 rfl Tryz.ntmps80 Tryz.results80 (zLe rfl) ?_)
 (refine Zo ?_;repeat' ((with_reducible first|refine Zk ?_|(first|apply Za|apply Zb|apply Zc|apply Zd)<;>intro h)<;>try simp -implicitDefEqProofs (maxSteps:=9^7) (disch:=first|omega|(simp only [lens];omega)) only [go_sem]))
 refine Fc.own (Qbnz xs (by omega)) (by simp [cloL, clo, vals, Qaz]) (fun g => Qqz g _) fun v X hO => ?_
 rcases hO with ⟨rfl, h, h'⟩ | ⟨r, rfl, hr, hl⟩
 ·omega
 ·skip
  (refine Zo ?_;repeat' ((with_reducible first|refine Zk ?_|(first|apply Za|apply Zb|apply Zc|apply Zd)<;>intro h)<;>try simp -implicitDefEqProofs (maxSteps:=9^7) (disch:=first|omega|(simp only [lens];omega)) only [go_sem]))
  refine Fc.mono (Qkpz r _ xs hr hx) ?_
  rintro v H' ⟨ys, Y, rfl, hy, rfl⟩
  (refine Zo ?_;repeat' ((with_reducible first|refine Zk ?_|(first|apply Za|apply Zb|apply Zc|apply Zd)<;>intro h)<;>try simp -implicitDefEqProofs (maxSteps:=9^7) (disch:=first|omega|(simp only [lens];omega)) only [go_sem]))
  have hO : Go.Bv.Own 3 1 (Wh ([] ++ X) r ys Y) (.ref r 0 xs.length) ys.length (ints ys) := .inr ⟨r, by rw [hy], ZDz (Qsz hr) _ _, by simp [QVz]⟩
  exact hO.ret (fun g => Qqz g _) (fun v H h => ⟨ys, hy, h⟩)
theorem Qkrz (xs : List Int) (m : Nat) (hm : m ≤ 12) (h0 : 12 < xs.length) (hx : xs.length ≤ 1048576) : Pu C 40 [.sl xs.length (ints xs), .int .i64 (m : Nat)] (.int .i64 11) := by
 refine Fc.keep (Fc.bodyT Qfz Tryz.func40 w40 rfl Tryz.ntmps40 Tryz.results40 (zLe rfl) ?_)
 (refine Zo ?_;repeat' ((with_reducible first|refine Zk ?_|(first|apply Za|apply Zb|apply Zc|apply Zd)<;>intro h)<;>try simp -implicitDefEqProofs (maxSteps:=9^7) (disch:=first|omega|(simp only [lens];omega)) only [go_sem]))
 refine Fc.pure (Qehz xs) (by simp [cloL, clo, Qaz]) (fun g => Zaz g _ (by simp [vals, cloL, clo, Qaz])) ?_
 (refine Zo ?_;repeat' ((with_reducible first|refine Zk ?_|(first|apply Za|apply Zb|apply Zc|apply Zd)<;>intro h)<;>try simp -implicitDefEqProofs (maxSteps:=9^7) (disch:=first|omega|(simp only [lens];omega)) only [go_sem]))
 refine Fc.mono (Qfcz xs (by omega) hx) ?_
 rintro v H' ⟨ys, hl, hR⟩
 have hmx : (if (0 : Int) > (m : Int) then 0 else (m : Int)) = (m : Int) := if_neg (by omega)
 rcases hR with ⟨rfl, h, h', rfl⟩ | ⟨rfl, rfl, _⟩
 ·omega
 ·skip
  (refine Zo ?_;repeat' ((with_reducible first|refine Zk ?_|(first|apply Za|apply Zb|apply Zc|apply Zd)<;>intro h)<;>try simp -implicitDefEqProofs (maxSteps:=9^7) (disch:=first|omega|(simp only [lens];omega)) only [go_sem]))
  refine Qdz (fun n ts H => ∃ (i : Nat), (i ≤ ys.length) ∧ (H = [some ⟨3, 1, ints ys⟩]) ∧ (n = ys.length - i) ∧ ts.length = 27 ∧ nth ts 1 = .int .i64 (m : Nat) ∧ nth ts 4 = .int .i64 0 ∧ nth ts 5 = .ref 0 0 ys.length ∧ nth ts 11 = .ref 0 0 ys.length ∧ nth ts 12 = .int .i64 ys.length ∧ nth ts 13 = .int .i64 i) ?_ (n := ys.length) ?_
  ·skip
   rintro n ts H ⟨i, hi, hH, hn, hL, hs1, hs4, hs5, hs11, hs12, hs13⟩
   refine Qnz [(1, .int .i64 (m : Nat)), (4, .int .i64 0), (5, .ref 0 0 ys.length), (11, .ref 0 0 ys.length), (12, .int .i64 ys.length), (13, .int .i64 i)] hL (by simp only [zFm, hs1, hs4, hs5, hs11, hs12, hs13, true_and]; exact zNm) ?_
   clear hL hs1 hs4 hs5 hs11 hs12 hs13 ts
   refine Qrz Qfz ?_
   subst hH
   (refine Zo ?_;repeat' ((with_reducible first|refine Zk ?_|(first|apply Za|apply Zb|apply Zc|apply Zd)<;>intro h)<;>try simp -implicitDefEqProofs (maxSteps:=9^7) (disch:=first|omega|(simp only [lens];omega)) only [go_sem, hmx]))
   ·skip
    (refine Qmz (by intro g; simp only [go_sem, ren, renL]) ?_)
    rfl
   ·exact ⟨ys.length - (i + 1), by omega, i + 1, by omega, rfl, rfl⟩
   ·skip
    (refine Qmz (by intro g; simp only [go_sem, ren, renL]) ?_)
    rfl
  ·exact ⟨0, by omega, rfl, rfl, rfl, rfl, rfl, rfl, rfl, rfl, rfl⟩
theorem Qksz (xs : List Int) (m : Nat) (hm : m ≤ 12) (hx : xs.length ≤ 1048576) : Pu C 40 [.sl xs.length (ints xs), .int .i64 (m : Nat)] (.int .i64 (if (XGz xs && decide (xs.length = m)) = true then 0 else 11)) := by
 by_cases h : xs.length ≤ 12
 ·exact Qkqz xs m (by omega) h
 ·have := Qkrz xs m hm (by omega) hx
  rwa [if_neg (by simp; omega)]
end Go.Proofs.YtjdbdmhjakfldaaGreat
end
section
namespace Go.Proofs.YtjdbdmhjakfldaaGreat
open Go.Bv
def putP (p x : List Int) : Nat → List Int
 | 0 => List.replicate p.length 0
 | k + 1 => (putP p x k).set (p.getD k 0).toNat (x.getD k 0)
theorem Zuz (p x : List Int) (k : Nat) : (putP p x k).length = p.length := by
 induction k with
 | zero => simp [putP]
 | succ k ih => simp [putP, ih]
theorem Qpez (p x : List Int) (hp : p.length ≤ 1000) (hx : x.length = p.length) (hb : ∀ j, j < p.length → 0 ≤ p.getD j 0 ∧ p.getD j 0 < p.length) : Val C 42 [.sl x.length (ints x), .rp [.sl p.length (ints p)] 0] (.sl (putP p x p.length).length (ints (putP p x p.length))) := by
 refine Val.ofRet (e := 3) (s := 1) ?_ (Qaz _) (QIz _)
 refine Fc.keep (Fc.bodyT Qfz Tryz.func42 w42 rfl Tryz.ntmps42 Tryz.results42 (zLe rfl) ?_)
 (refine Zo ?_;repeat' ((with_reducible first|refine Zk ?_|(first|apply Za|apply Zb|apply Zc|apply Zd)<;>intro h)<;>try simp -implicitDefEqProofs (maxSteps:=9^7) (disch:=first|omega|(simp only [lens];omega)) only [go_sem]))
 refine Ypz rfl rfl rfl rfl (by simp [t3bytes]) (by omega) ?_
 (refine Zo ?_;repeat' ((with_reducible first|refine Zk ?_|(first|apply Za|apply Zb|apply Zc|apply Zd)<;>intro h)<;>try simp -implicitDefEqProofs (maxSteps:=9^7) (disch:=first|omega|(simp only [lens];omega)) only [go_sem]))
 refine Qdz (fun n ts H => ∃ (k : Nat), (k ≤ p.length) ∧ (n = p.length - k) ∧ (Qbz H 0 = some ⟨3, 1, ints (putP p x k)⟩) ∧ ts.length = 26 ∧ nth ts 0 = .sl x.length (ints x) ∧ nth ts 1 = .rp [.sl p.length (ints p)] 0 ∧ nth ts 4 = .ref 0 0 p.length ∧ nth ts 10 = .sl p.length (ints p) ∧ nth ts 11 = .int .i64 p.length ∧ nth ts 12 = .int .i64 (k : Nat)) ?_ (n := p.length) ?_
 ·skip
  rintro n ts H ⟨k, hk, hn, h0, hL, hs0, hs1, hs4, hs10, hs11, hs12⟩
  refine Qnz [(0, .sl x.length (ints x)), (1, .rp [.sl p.length (ints p)] 0), (4, .ref 0 0 p.length), (10, .sl p.length (ints p)), (11, .int .i64 p.length), (12, .int .i64 (k : Nat))] hL (by simp only [zFm, hs0, hs1, hs4, hs10, hs11, hs12, true_and]; exact zNm) ?_
  clear hL hs0 hs1 hs4 hs10 hs11 hs12 ts
  refine Qrz Qfz ?_
  by_cases hc : k < p.length
  ·obtain ⟨b1, b2⟩ := hb k hc
   obtain ⟨d, hd⟩ : ∃ d : Nat, p.getD k 0 = d := ⟨(p.getD k 0).toNat, by omega⟩
   have hl := Zuz p x k
   have hst : (putP p x k).set d (x.getD k 0) = putP p x (k + 1) := by rw [putP, hd]; rfl
   (refine Zo ?_;repeat' ((with_reducible first|refine Zk ?_|(first|apply Za|apply Zb|apply Zc|apply Zd)<;>intro h)<;>try simp -implicitDefEqProofs (maxSteps:=9^7) (disch:=first|omega|(simp only [lens];omega)) only [go_sem, hd, h0, Qyz, hst]))
   exact ⟨p.length - (k + 1), by omega, k + 1, by omega, rfl, Qez h0, (by (repeat' apply And.intro) <;> (first | rfl | omega | (congr 1; omega) | assumption | (congr 1; assumption)))⟩
  ·have hks : k = p.length := by omega
   subst hks
   (refine Zo ?_;repeat' ((with_reducible first|refine Zk ?_|(first|apply Za|apply Zb|apply Zc|apply Zd)<;>intro h)<;>try simp -implicitDefEqProofs (maxSteps:=9^7) (disch:=first|omega|(simp only [lens];omega)) only [go_sem]))
   rw [Zuz]
   exact Own.ret (.inr ⟨0, rfl, h0, by simp [QVz, Zuz]⟩) (fun g => Qqz g _) fun v H h => h
 ·refine ⟨0, by omega, rfl, ?_, rfl, rfl, rfl, rfl, rfl, rfl, rfl⟩
  rw [putP, ← Zlz]; rfl
def Q5z (p s : List Int) : List Int := tabI (fun i => s.getD (p.getD i 0).toNat 0) p.length
def Xiz (t : Tn) (p : List Int) : Int := if mayT t ≠ 0 then mayT t else if (XGz p && decide (p.length = t.shape.length)) = false then 11 else 0
def Y5z (t : Tn) (p : List Int) : Tn := errT (mvT t (Q5z p t.shape) fun x => putP p x p.length) (Xiz t p)
theorem Qhsz (hpm : ∀ s : List Int, mayP s = 0 → ∀ p : List Int, XGz p = true → p.length = s.length → mayP (Q5z p s) = 0) (t : Tn) (ht : TnOK t) (p : List Int) (hp : p.length ≤ 1048576) (hPs : t.shape.length ≤ 4 → Pu C 40 [.sl p.length (ints p), .int .i64 (t.shape.length : Nat)] (.int .i64 (if (XGz p && decide (p.length = t.shape.length)) = true then 0 else 11))) : Val C 13 [tnV t, .sl p.length (ints p)] (.tup [tnV (Y5z t p), .int .i64 (Xiz t p)]) := by
 have hs := ht.s
 unfold Y5z
 refine Fc.keep (Fc.bodyT Qfz Tryz.func13 w13 rfl Tryz.ntmps13 Tryz.results13 (zLe rfl) ?_)
 (refine Zo ?_;repeat' ((with_reducible first|refine Zk ?_|(first|apply Za|apply Zb|apply Zc|apply Zd)<;>intro h)<;>try simp -implicitDefEqProofs (maxSteps:=9^7) (disch:=first|omega|(simp only [lens];omega)) only [go_sem]))
 refine Fc.pure (Qcsz t ht) (by simp [cloL, clo, Qaz, Qlz]) (fun g => rfl) ?_
 by_cases hm : mayT t = 0
 case neg =>
  (refine Zo ?_;repeat' ((with_reducible first|refine Zk ?_|(first|apply Za|apply Zb|apply Zc|apply Zd)<;>intro h)<;>try simp -implicitDefEqProofs (maxSteps:=9^7) (disch:=first|omega|(simp only [lens];omega)) only [go_sem]))
  exact Gd.ret (Qdxz (by rw [Xiz, if_pos hm]) hm)
 obtain ⟨hf, hmp, hel⟩ := Xmz hm
 obtain ⟨m1, m2, m3⟩ := QJz hmp
 rw [hm]
 (refine Zo ?_;repeat' ((with_reducible first|refine Zk ?_|(first|apply Za|apply Zb|apply Zc|apply Zd)<;>intro h)<;>try simp -implicitDefEqProofs (maxSteps:=9^7) (disch:=first|omega|(simp only [lens];omega)) only [go_sem]))
 refine Fc.pure (hPs (by omega)) (by simp [cloL, clo, Qaz]) (fun g => rfl) ?_
 cases hb : (XGz p && decide (p.length = t.shape.length)) with
 | false =>
  rw [if_neg (by decide)]
  (refine Zo ?_;repeat' ((with_reducible first|refine Zk ?_|(first|apply Za|apply Zb|apply Zc|apply Zd)<;>intro h)<;>try simp -implicitDefEqProofs (maxSteps:=9^7) (disch:=first|omega|(simp only [lens];omega)) only [go_sem]))
  exact Gd.ret (Qdxz (by rw [Xiz, if_neg (by omega), if_pos hb]) (by decide))
 | true =>
  rw [if_pos rfl]
  rw [Bool.and_eq_true, decide_eq_true_eq] at hb
  obtain ⟨hb, hpl⟩ := hb
  have hin : ∀ j, j < p.length → 0 ≤ p.getD j 0 ∧ p.getD j 0 < p.length := fun j hj => by
   have := (Ywz p).1 hb j hj
   exact ⟨this.1, this.2.1⟩
  have hE : Xiz t p = 0 := by rw [Xiz, if_neg (by omega), if_neg (by simp [hb, hpl])]
  rw [Zqz hE, hE]
  (refine Zo ?_;repeat' ((with_reducible first|refine Zk ?_|(first|apply Za|apply Zb|apply Zc|apply Zd)<;>intro h)<;>try simp -implicitDefEqProofs (maxSteps:=9^7) (disch:=first|omega|(simp only [lens];omega)) only [go_sem]))
  refine Ypz rfl rfl rfl rfl (by simp [t3bytes]) (by omega) ?_
  (refine Zo ?_;repeat' ((with_reducible first|refine Zk ?_|(first|apply Za|apply Zb|apply Zc|apply Zd)<;>intro h)<;>try simp -implicitDefEqProofs (maxSteps:=9^7) (disch:=first|omega|(simp only [lens];omega)) only [go_sem]))
  refine Qdz (fun n ts H => ∃ (k : Nat) (z : List Int), (k ≤ p.length) ∧ (n = p.length - k) ∧ (z.length = p.length) ∧ (z.take k = tabI (fun i => t.shape.getD (p.getD i 0).toNat 0) k) ∧ (Qbz H 0 = some ⟨26, 2, [.sl t.shape.length (ints t.shape), .sl t.el.length (Qwz t.el)]⟩) ∧ (Qbz H 1 = some ⟨22, 1, [.sl p.length (ints p)]⟩) ∧ (Qbz H 2 = some ⟨26, 2, [.nil, .nil]⟩) ∧ (Qbz H 3 = some ⟨3, 1, ints z⟩) ∧ ts.length = 51 ∧ nth ts 2 = .ptr 0 0 ∧ nth ts 3 = .ptr 1 0 ∧ nth ts 4 = .ptr 2 0 ∧ nth ts 8 = .ref 3 0 p.length ∧ nth ts 29 = .sl p.length (ints p) ∧ nth ts 30 = .int .i64 p.length ∧ nth ts 31 = .int .i64 (k : Nat)) ?_ (n := p.length) ?_
  ·skip
   rintro n ts H ⟨k, z, hk, hn, hz, hzt, h0, h1, h2, h3, hL, hs2, hs3, hs4, hs8, hs29, hs30, hs31⟩
   refine Qnz [(2, .ptr 0 0), (3, .ptr 1 0), (4, .ptr 2 0), (8, .ref 3 0 p.length), (29, .sl p.length (ints p)), (30, .int .i64 p.length), (31, .int .i64 (k : Nat))] hL (by simp only [zFm, hs2, hs3, hs4, hs8, hs29, hs30, hs31, true_and]; exact zNm) ?_
   clear hL hs2 hs3 hs4 hs8 hs29 hs30 hs31 ts
   refine Qrz Qfz ?_
   by_cases hc : k < p.length
   ·obtain ⟨b1, b2⟩ := hin k hc
    obtain ⟨d, hd⟩ : ∃ d : Nat, p.getD k 0 = d := ⟨(p.getD k 0).toNat, by omega⟩
    have e0 : ∀ q, Qbz (H.set 3 q) 0 = some ⟨26, 2, [.sl t.shape.length (ints t.shape), .sl t.el.length (Qwz t.el)]⟩ := fun q => by rw [Qcz _ (by decide)]; exact h0
    have e1 : ∀ q, Qbz (H.set 3 q) 1 = some ⟨22, 1, [.sl p.length (ints p)]⟩ := fun q => by rw [Qcz _ (by decide)]; exact h1
    have e2 : ∀ q, Qbz (H.set 3 q) 2 = some ⟨26, 2, [.nil, .nil]⟩ := fun q => by rw [Qcz _ (by decide)]; exact h2
    (refine Zo ?_;repeat' ((with_reducible first|refine Zk ?_|(first|apply Za|apply Zb|apply Zc|apply Zd)<;>intro h)<;>try simp -implicitDefEqProofs (maxSteps:=9^7) (disch:=first|omega|(simp only [lens];omega)) only [go_sem, hd, h0, h3, Qyz]))
    refine ⟨p.length - (k + 1), by omega, k + 1, z.set k (t.shape.getD d 0), by omega, rfl, by simp [hz], ?_, e0 _, e1 _, e2 _, Qez h3, (by (repeat' apply And.intro) <;> (first | rfl | omega | (congr 1; omega) | assumption | (congr 1; assumption)))⟩
    rw [ZRz, ← hzt, hd]
    refine List.ext_getElem (by simp; omega) fun j h1 h2 => ?_
    simp only [List.length_take, List.length_set] at h1
    rw [List.getElem_take, List.getElem_set, List.getElem_append]
    simp only [List.length_take, List.getElem_take]
    split
    ·rename_i hj; subst hj; rw [dif_neg (by omega)]; simp
    ·rename_i hj; rw [dif_pos (by omega)]
   ·have hks : k = p.length := by omega
    subst hks
    have hze : z = Q5z p t.shape := by rw [Q5z, ← hzt, ← hz, List.take_length]
    subst hze
    have hTm := hpm t.shape hmp p hb hpl
    have hmv := Qdnz t ht hf (Q5z p t.shape) (by rw [hz]; omega) hTm 42 [.rp [.sl p.length (ints p)] 0] (by simp [cloL, clo, Qaz]) (fun x => putP p x p.length) (fun x hx hxb => ⟨by rw [Zuz]; omega, Qpez p x (by omega) (by omega) hin⟩)
    (refine Zo ?_;repeat' ((with_reducible first|refine Zk ?_|(first|apply Za|apply Zb|apply Zc|apply Zd)<;>intro h)<;>try simp -implicitDefEqProofs (maxSteps:=9^7) (disch:=first|omega|(simp only [lens];omega)) only [go_sem, h0, h1]))
    refine Fc.sealed (r := 1) h1 (by simp [cloL, clo, Qaz]) ?_
    have he : szL 1 [.sl p.length (ints p)] [.agg [.sl t.shape.length (ints t.shape), .sl t.el.length (Qwz t.el)], .ref 3 0 p.length, .fn (.func 42) [] [.ptr 1 0]] = [tnV t, .ref 3 0 p.length, .fn (.func 42) [] [.rp [.sl p.length (ints p)] 0]] := by
     simp only [szL, sz, Q9z _ _ _ (Qaz _), Q9z _ _ _ (Qlz _), if_true]
     rfl
    rw [he]
    have hu : Bv.Own 3 1 (H.set 1 none) (.ref 3 0 p.length) (Q5z p t.shape).length (ints (Q5z p t.shape)) := by
     rw [hz]; exact .inr ⟨3, rfl, by rw [Qcz _ (by decide)]; exact h3, by rw [QVz, hz]; omega⟩
    have hlt := Qsz h3
    refine hmv.keptF ⟨.self (QZz t), hu.bor' (Qaz _), .self (by simp [cloL, clo, Qaz]), trivial⟩ fun v X hv => ?_
    have f2 : Qbz (H.set 1 none ++ X) 2 = some ⟨26, 2, [.nil, .nil]⟩ := Qgz (by rw [Qcz _ (by decide)]; exact h2) X
    have f22 : ∀ row, Qbz ((H.set 1 none ++ X).set 2 (some row)) 2 = some row := fun row => Qez f2
    obtain ⟨w, e, rfl, hw, he⟩ := hv.tup2
    obtain ⟨a, b, rfl, ha, hb⟩ := hw.agg2
    obtain ⟨ka, ca, sa⟩ := QUz ha.gd
    obtain ⟨kb, cb, sb⟩ := QUz hb.gd
    rw [he.gd.int_inv]
    (refine Zo ?_;repeat' ((with_reducible first|refine Zk ?_|(first|apply Za|apply Zb|apply Zc|apply Zd)<;>intro h)<;>try simp -implicitDefEqProofs (maxSteps:=9^7) (disch:=first|omega|(simp only [lens];omega)) only [go_sem, f2, f22, ka, ca, sa, kb, cb, sb]))
    exact Gd.ret (Gd.tupL ⟨Gd.aggL ⟨(ha.set (q := 2) (by simp; omega) _).gd, (hb.set (q := 2) (by simp; omega) _).gd, trivial⟩, gd_i _ _, trivial⟩)
  ·exact ⟨0, List.replicate p.length 0, by omega, rfl, by simp, by simp [tabI], rfl, rfl, rfl, by rw [← Zlz]; rfl, rfl, rfl, rfl, rfl, rfl, rfl, rfl, rfl⟩
end Go.Proofs.YtjdbdmhjakfldaaGreat
end
section
namespace Go.Proofs.YtjdbdmhjakfldaaGreat
open Go.Bv
theorem Qfhz {l m : List Int} (h : l.Perm m) : Qkz l = Qkz m := by
 induction h with
 | nil => rfl
 | cons a _ ih => simp only [Qkz, ih]
 | swap a b l => simp only [Qkz]; rw [← Int.mul_assoc, ← Int.mul_assoc, Int.mul_comm a b]
 | trans _ _ h1 h2 => exact h1.trans h2
theorem Qhrz {x a : List Int} (hl : a.length = x.length) (hp : XGz a = true) : (tabI (fun i => x.getD (a.getD i 0).toNat 0) a.length).Perm x := by
 have h1 := List.mergeSort_perm a (fun p q => decide (p ≤ q))
 have h2 := List.pairwise_mergeSort (le := fun p q : Int => decide (p ≤ q)) (by intro p q r; simp; omega) (by intro p q; simp; omega) a
 generalize a.mergeSort (fun p q => decide (p ≤ q)) = ys at h1 h2
 have hy := (Qbfz h1 (fun p q hpq hq => by
  rw [List.pairwise_iff_getElem] at h2
  have := h2 p q (by omega) hq hpq
  simpa [List.getD, hq, show p < ys.length by omega] using this)).1 hp
 have hyl := h1.length_eq
 have e1 : tabI (fun i => x.getD (a.getD i 0).toNat 0) a.length = a.map fun d => x.getD d.toNat 0 := by
  refine Qojz (by simp [Xpz]) fun j hj => ?_
  rw [Xpz] at hj
  rw [Qgjz hj]
  simp [List.getD, hj]
 have e2 : (ys.map fun d => x.getD d.toNat 0) = x := by
  refine Qojz (by simp; omega) fun j hj => ?_
  have hj' : j < ys.length := by simpa using hj
  have := hy j hj'
  simp only [List.getD, List.getElem?_eq_getElem hj', Option.getD_some] at this
  simp [List.getD, hj', this]
 rw [e1]
 exact ((h1.map _).symm).trans (by rw [e2])
theorem Ysz (s : List Int) (h0 : mayP s = 0) (p : List Int) (hp : XGz p = true) (hl : p.length = s.length) : mayP (Q5z p s) = 0 := by
 obtain ⟨h1, h2, h3⟩ := QJz h0
 have hpm : (Q5z p s).Perm s := Qhrz hl hp
 have hm : ∀ d ∈ Q5z p s, 1 ≤ d := fun d hd => h2 d (hpm.mem_iff.1 hd)
 have hln := hpm.length_eq
 unfold mayP
 rw [if_neg (by omega), if_pos (by simpa using hm), if_neg (by rw [Qfhz hpm]; omega)]
theorem Qgiz (t : Tn) (ht : TnOK t) (p : List Int) (hp : p.length ≤ 12) : Val C 13 [tnV t, .sl p.length (ints p)] (.tup [tnV (Y5z t p), .int .i64 (Xiz t p)]) := Qhsz Ysz t ht p (by omega) fun h => Qkqz p t.shape.length (by omega) hp
end Go.Proofs.YtjdbdmhjakfldaaGreat
end
section
namespace Go.Proofs.YtjdbdmhjakfldaaGreat
open Go.Bv
theorem Qpsz (xs : List Int) (hx : xs.length ≤ 1000000000) : Fc C 15 [.sl xs.length (ints xs)] [] fun v H => Ret 3 1 H v xs.length (ints xs) := by
 refine Fc.keep (Fc.bodyT Qfz Tryz.func15 w15 rfl Tryz.ntmps15 Tryz.results15 (zLe rfl) ?_)
 (refine Zo ?_;repeat' ((with_reducible first|refine Zk ?_|(first|apply Za|apply Zb|apply Zc|apply Zd)<;>intro h)<;>try simp -implicitDefEqProofs (maxSteps:=9^7) (disch:=first|omega|(simp only [lens];omega)) only [go_sem]))
 all_goals exact Own.ret (.inr ⟨0, rfl, rfl, by simp [QVz]⟩) (fun g => Qqz g _) fun v H h => h
def XUz (s l : List Int) : Tq := ⟨s, l.map intQ⟩
def QOz (s l : List Int) : Tn := XNz (XUz s l)
theorem ints_snoc {xs : List Int} {i : Nat} (h : i < xs.length) : Xlz ((xs.map intQ).take (i + 1)) = Xlz ((xs.map intQ).take i) ++ [.bool (intQ (xs.getD i 0)).neg, DV (intQ (xs.getD i 0)).num, DV (intQ (xs.getD i 0)).den] := by
 have : (xs.map intQ).getD i q0 = intQ (xs.getD i 0) := by simp [List.getD, h]
 have hh := Qibz (xs := xs.map intQ) (i := i) (by simpa using h)
 rw [this] at hh
 exact hh
theorem Qnkz {s l : List Int} (hs : s.length ≤ 1000000000) (hl : l.length ≤ 1000000000) (hb : ∀ x ∈ l, -9223372036854775808 ≤ x ∧ x < 9223372036854775808) : TqOK (XUz s l) := ⟨hs, by simpa [XUz] using hl, fun x hx => by
 simp only [XUz, List.mem_map] at hx
 obtain ⟨a, ha, rfl⟩ := hx
 have := hb a ha
 refine ⟨?_, ?_⟩
 ·have : dlen a.natAbs ≤ 16 := XTz (Nat.lt_of_lt_of_le (show a.natAbs < 9223372036854775809 by omega) (by decide))
  show dlen a.natAbs ≤ _
  omega
 ·show dlen 1 ≤ _
  rw [Qhbz]; decide⟩
theorem whole_val (s l : List Int) (hs : s.length ≤ 1000000) (hl : l.length ≤ 1000000) (hb : ∀ x ∈ l, -9223372036854775808 ≤ x ∧ x < 9223372036854775808) : Val C 49 [.sl s.length (ints s), .sl l.length (ints l)] (tnV (QOz s l)) := by
 refine Fc.keep (Fc.bodyT Qfz Tryz.func49 w49 rfl Tryz.ntmps49 Tryz.results49 (zLe rfl) ?_)
 (refine Zo ?_;repeat' ((with_reducible first|refine Zk ?_|(first|apply Za|apply Zb|apply Zc|apply Zd)<;>intro h)<;>try simp -implicitDefEqProofs (maxSteps:=9^7) (disch:=first|omega|(simp only [lens];omega)) only [go_sem]))
 refine Qdz (fun n ts H => ∃ (i : Nat) (u : V), (i ≤ l.length) ∧ (Qbz H 0 = some ⟨26, 2, [.nil, .nil]⟩) ∧ (Qbz H 1 = some ⟨34, 2, [.sl s.length (ints s), u]⟩) ∧ (Cel 2 72 3 H u i (Xlz ((l.map intQ).take i))) ∧ (n = l.length - i) ∧ ts.length = 27 ∧ nth ts 1 = .sl l.length (ints l) ∧ nth ts 4 = .ptr 0 0 ∧ nth ts 5 = .ptr 1 0 ∧ nth ts 6 = .int .i64 (i : Nat)) ?_ (n := l.length) ?_
 ·skip
  rintro n ts H ⟨i, u, hi, h0, h3, hu, hn, hL, hs1, hs4, hs5, hs6⟩
  refine Qnz [(1, .sl l.length (ints l)), (4, .ptr 0 0), (5, .ptr 1 0), (6, .int .i64 (i : Nat))] hL (by simp only [zFm, hs1, hs4, hs5, hs6, true_and]; exact zNm) ?_
  clear hL hs1 hs4 hs5 hs6 ts
  refine Qrz Qfz ?_
  have hlen := Qsz h3
  by_cases hcase : i < l.length
  ·have hx := Xqz.1 hb i hcase
   (refine Zo ?_;repeat' ((with_reducible first|refine Zk ?_|(first|apply Za|apply Zb|apply Zc|apply Zd)<;>intro h)<;>try simp -implicitDefEqProofs (maxSteps:=9^7) (disch:=first|omega|(simp only [lens];omega)) only [go_sem, h3]))
   refine Pc.keptF (Qatz (l.getD i 0) hx.1 hx.2) (Qcxz _) ⟨.self rfl, trivial⟩ fun v X hv => ?_
   obtain ⟨v1, v2, v3, rfl, hv1, hv2, hv3⟩ := hv.agg3
   obtain ⟨k2, c2, s2⟩ := QUz hv2.gd
   obtain ⟨k3, c3, s3⟩ := QUz hv3.gd
   have e1 := hv1.gd.bool_inv
   subst e1
   (refine Zo ?_;repeat' ((with_reducible first|refine Zk ?_|(first|apply Za|apply Zb|apply Zc|apply Zd)<;>intro h)<;>try simp -implicitDefEqProofs (maxSteps:=9^7) (disch:=first|omega|(simp only [lens];omega)) only [go_sem, h3, k2, c2, s2, k3, c3, s3]))
   refine Cel.push3 hu rfl rfl (by omega) (by omega) hv2 hv3 s2 s3 fun v' H' hu' hk' k4 c4 s4 => ?_
   have g0 := hk' 0 _ (by decide) h0
   have g3 := hk' 1 _ (by decide) h3
   (refine Zo ?_;repeat' ((with_reducible first|refine Zk ?_|(first|apply Za|apply Zb|apply Zc|apply Zd)<;>intro h)<;>try simp -implicitDefEqProofs (maxSteps:=9^7) (disch:=first|omega|(simp only [lens];omega)) only [go_sem, g3, k4, c4, s4]))
   have f0 : ∀ (q : Nat) (row : Row) (z : Option Row), q ≠ 1 → Qbz H' q = some row → Qbz (H'.set 1 z) q = some row := fun q row z hq hr => by rw [Qcz _ (Ne.symm hq)]; exact hr
   refine ⟨l.length - (i + 1), by omega, i + 1, v', by omega, f0 0 _ _ (by decide) g0, Qez g3, ?_, rfl, by congr 1⟩
   rw [ints_snoc hcase]
   exact Cel.set hu' (by decide) _
  ·obtain ⟨k4, c4, s4⟩ := Cel.kn hu
   have hil : i = l.length := by omega
   rw [hil, List.take_of_length_le (by simp)] at hu
   have hg : Bor H (.agg [.sl s.length (ints s), u]) (tqV (XUz s l)) := Bor.aggL ⟨.self (by simp [clo, Qaz]), by simpa [XUz] using (Cel.gd hu).bor, trivial⟩
   (refine Zo ?_;repeat' ((with_reducible first|refine Zk ?_|(first|apply Za|apply Zb|apply Zc|apply Zd)<;>intro h)<;>try simp -implicitDefEqProofs (maxSteps:=9^7) (disch:=first|omega|(simp only [lens];omega)) only [go_sem, h3, k4, c4, s4]))
   refine (Qmzz (XUz s l) (Qnkz (by omega) (by omega) hb)).keptF ⟨hg, trivial⟩ fun v X hv => ?_
   obtain ⟨a, b, rfl, ha, hb'⟩ := hv.agg2
   obtain ⟨ka, ca, sa⟩ := QUz ha.gd
   obtain ⟨kb, cb, sb⟩ := QUz hb'.gd
   have a0 := Qgz h0 X
   have hst : ∀ z : Row, Qbz ((H ++ X).set 0 (some z)) 0 = some z := fun z => Qez a0
   (refine Zo ?_;repeat' ((with_reducible first|refine Zk ?_|(first|apply Za|apply Zb|apply Zc|apply Zd)<;>intro h)<;>try simp -implicitDefEqProofs (maxSteps:=9^7) (disch:=first|omega|(simp only [lens];omega)) only [go_sem, a0, hst, ka, ca, sa, kb, cb, sb]))
   exact Gd.ret (Gd.aggL ⟨(ha.set (q := 0) (by omega) _).gd, (hb'.set (q := 0) (by omega) _).gd, trivial⟩)
 ·exact ⟨0, .nil, by omega, rfl, rfl, Cel.nil _ _ _ _, rfl, rfl, rfl, rfl, rfl, rfl⟩
def zeroTq : Tq := ⟨[], [intQ 0]⟩
def ofT (t : Tn) : Tq := if mayT t ≠ 0 then zeroTq else tnOf t
theorem of09_val (t : Tn) (ht : TnOK t) : Val C 17 [tnV t] (tqV (ofT t)) := by
 refine Fc.keep (Fc.bodyT Qfz Tryz.func17 w17 rfl Tryz.ntmps17 Tryz.results17 (zLe rfl) ?_)
 (refine Zo ?_;repeat' ((with_reducible first|refine Zk ?_|(first|apply Za|apply Zb|apply Zc|apply Zd)<;>intro h)<;>try simp -implicitDefEqProofs (maxSteps:=9^7) (disch:=first|omega|(simp only [lens];omega)) only [go_sem]))
 refine Fc.pure (Qfmz t ht) (by simp [cloL, clo, Qaz, Qlz]) (fun g => rfl) ?_
 (refine Zo ?_;repeat' ((with_reducible first|refine Zk ?_|(first|apply Za|apply Zb|apply Zc|apply Zd)<;>intro h)<;>try simp -implicitDefEqProofs (maxSteps:=9^7) (disch:=first|omega|(simp only [lens];omega)) only [go_sem]))
 ·rw [ofT, if_pos (by assumption)]
  refine (Qatz 0 (by decide) (by decide)).keptF ⟨.self rfl, trivial⟩ fun v X hv => ?_
  obtain ⟨v1, v2, v3, rfl, hv1, hv2, hv3⟩ := hv.agg3
  obtain ⟨k2, c2, s2⟩ := QUz hv2.gd
  obtain ⟨k3, c3, s3⟩ := QUz hv3.gd
  have e1 := hv1.gd.bool_inv
  subst e1
  (refine Zo ?_;repeat' ((with_reducible first|refine Zk ?_|(first|apply Za|apply Zb|apply Zc|apply Zd)<;>intro h)<;>try simp -implicitDefEqProofs (maxSteps:=9^7) (disch:=first|omega|(simp only [lens];omega)) only [go_sem, k2, c2, s2, k3, c3, s3]))
  refine Gd.ret (Gd.aggL ⟨.nil _, ?_, trivial⟩)
  refine .ref (X.length + 2) 1 ⟨72, 3, [.bool (intQ 0).neg, v2, v3]⟩ (Xlz [intQ 0]) (by simp [Qbz]) (by simp [Qvz, hv2.gd.plain, hv3.gd.plain]; rfl) (Nat.le_refl _) fun j _ => ?_
  exact (GdL.all (l := [.bool (intQ 0).neg, v2, v3]) (m := [.bool (intQ 0).neg, DV (intQ 0).num, DV (intQ 0).den]) ⟨gd_b _, ((hv2.app _).set (q := 1) (by simp) _).gd, ((hv3.app _).set (q := 1) (by simp) _).gd, trivial⟩).2 j
 ·rw [ofT, if_neg (by omega)]
  refine (of07_spec t ht).keptF ⟨.self (QZz t), trivial⟩ fun v X hv => ?_
  obtain ⟨a, b, rfl, ha, hb⟩ := hv.agg2
  obtain ⟨ka, ca, sa⟩ := QUz ha.gd
  obtain ⟨kb, cb, sb⟩ := QUz hb.gd
  (refine Zo ?_;repeat' ((with_reducible first|refine Zk ?_|(first|apply Za|apply Zb|apply Zc|apply Zd)<;>intro h)<;>try simp -implicitDefEqProofs (maxSteps:=9^7) (disch:=first|omega|(simp only [lens];omega)) only [go_sem, ka, ca, sa, kb, cb, sb]))
  exact Gd.ret (Gd.aggL ⟨(ha.set (q := 1) (by simp) _).gd, (hb.set (q := 1) (by simp) _).gd, trivial⟩)
def isB (t : Tn) (e : Int) (x : Tn) (w : Tq) (f : Int) : Bool :=
 if (if mayT x ≠ 0 then mayT x else f) ≠ 0 then decide (e = (if mayT x ≠ 0 then mayT x else f)) && (decide (t.shape.length = 0) && decide (t.el.length = 0)) else decide (e = 0) && isT w t
theorem is09_spec (t : Tn) (ht : TnOK t) (e : Int) (he : -1000000 ≤ e ∧ e ≤ 1000000) (x : Tn) (hx : TnOK x) (w : Tq) (hw : TqOK w) (f : Int) : Pu C 18 [tnV t, .int .i64 e, tnV x, tqV w, .int .i64 f] (.bool (isB t e x w f)) := by
 refine Fc.keep (Fc.bodyT Qfz Tryz.func18 w18 rfl Tryz.ntmps18 Tryz.results18 (zLe rfl) ?_)
 (refine Zo ?_;repeat' ((with_reducible first|refine Zk ?_|(first|apply Za|apply Zb|apply Zc|apply Zd)<;>intro h)<;>try simp -implicitDefEqProofs (maxSteps:=9^7) (disch:=first|omega|(simp only [lens];omega)) only [go_sem]))
 refine Fc.pure (Qfmz x hx) (by simp [cloL, clo, Qaz, Qlz]) (fun g => rfl) ?_
 by_cases hm : mayT x ≠ 0
 ·by_cases hem : e = mayT x
  ·skip
   (refine Zo ?_;repeat' ((with_reducible first|refine Zk ?_|(first|apply Za|apply Zb|apply Zc|apply Zd)<;>intro h)<;>try simp -implicitDefEqProofs (maxSteps:=9^7) (disch:=first|omega|(simp only [lens];omega)) only [go_sem]))
   refine Fc.pure (Qfsz t) (by simp [cloL, clo, Qaz, Qlz]) (fun g => rfl) ?_
   (refine Zo ?_;repeat' ((with_reducible first|refine Zk ?_|(first|apply Za|apply Zb|apply Zc|apply Zd)<;>intro h)<;>try simp -implicitDefEqProofs (maxSteps:=9^7) (disch:=first|omega|(simp only [lens];omega)) only [go_sem]))
   (refine Qmz (by intro g; simp only [go_sem, ren, renL]) ?_)
   simp [isB, hm, hem]
  ·skip
   (refine Zo ?_;repeat' ((with_reducible first|refine Zk ?_|(first|apply Za|apply Zb|apply Zc|apply Zd)<;>intro h)<;>try simp -implicitDefEqProofs (maxSteps:=9^7) (disch:=first|omega|(simp only [lens];omega)) only [go_sem]))
   (refine Qmz (by intro g; simp only [go_sem, ren, renL]) ?_)
   simp [isB, hm, hem]
 ·have hm0 : mayT x = 0 := by omega
  rw [hm0]
  by_cases hf : f ≠ 0
  ·by_cases hem : e = f
   ·skip
    (refine Zo ?_;repeat' ((with_reducible first|refine Zk ?_|(first|apply Za|apply Zb|apply Zc|apply Zd)<;>intro h)<;>try simp -implicitDefEqProofs (maxSteps:=9^7) (disch:=first|omega|(simp only [lens];omega)) only [go_sem]))
    refine Fc.pure (Qfsz t) (by simp [cloL, clo, Qaz, Qlz]) (fun g => rfl) ?_
    (refine Zo ?_;repeat' ((with_reducible first|refine Zk ?_|(first|apply Za|apply Zb|apply Zc|apply Zd)<;>intro h)<;>try simp -implicitDefEqProofs (maxSteps:=9^7) (disch:=first|omega|(simp only [lens];omega)) only [go_sem]))
    (refine Qmz (by intro g; simp only [go_sem, ren, renL]) ?_)
    simp [isB, hm0, hf, hem]
   ·skip
    (refine Zo ?_;repeat' ((with_reducible first|refine Zk ?_|(first|apply Za|apply Zb|apply Zc|apply Zd)<;>intro h)<;>try simp -implicitDefEqProofs (maxSteps:=9^7) (disch:=first|omega|(simp only [lens];omega)) only [go_sem]))
    (refine Qmz (by intro g; simp only [go_sem, ren, renL]) ?_)
    simp [isB, hm0, hf, hem]
  ·have hf0 : f = 0 := by omega
   subst hf0
   by_cases hem : e = 0
   ·skip
    (refine Zo ?_;repeat' ((with_reducible first|refine Zk ?_|(first|apply Za|apply Zb|apply Zc|apply Zd)<;>intro h)<;>try simp -implicitDefEqProofs (maxSteps:=9^7) (disch:=first|omega|(simp only [lens];omega)) only [go_sem]))
    refine Fc.pure (is07_spec w t hw ht) (by simp [cloL, clo, Qaz, Qlz, YJz]) (fun g => rfl) ?_
    (refine Zo ?_;repeat' ((with_reducible first|refine Zk ?_|(first|apply Za|apply Zb|apply Zc|apply Zd)<;>intro h)<;>try simp -implicitDefEqProofs (maxSteps:=9^7) (disch:=first|omega|(simp only [lens];omega)) only [go_sem]))
    (refine Qmz (by intro g; simp only [go_sem, ren, renL]) ?_)
    simp [isB, hm0, hem]
   ·skip
    (refine Zo ?_;repeat' ((with_reducible first|refine Zk ?_|(first|apply Za|apply Zb|apply Zc|apply Zd)<;>intro h)<;>try simp -implicitDefEqProofs (maxSteps:=9^7) (disch:=first|omega|(simp only [lens];omega)) only [go_sem]))
    (refine Qmz (by intro g; simp only [go_sem, ren, renL]) ?_)
    simp [isB, hm0, hem]
end Go.Proofs.YtjdbdmhjakfldaaGreat
end
section
namespace Go.Proofs.YtjdbdmhjakfldaaGreat
open Go.Bv
def NmQ (r : Rq) : Prop := valQ (Xxz r) = r
def atG (q : Tq) (l : List Int) : Rq := if offE q.shape l = 0 then q.el.getD (offN q.shape l).toNat q0 else intQ 0
def mvQ (q : Tq) (s : List Int) (g : List Int → List Int) : Tq := ⟨s, (List.range (Qkz s).toNat).map fun i => atG q (g (idxL s (i : Nat)))⟩
theorem Qfez (r : Rq) : valQ (Xxz r) = Y4z r.neg r.num r.den := by
 show Y4z r.neg (lv 4294967296 (dg 4294967296 r.num)) (lv 4294967296 (dg 4294967296 r.den)) = _
 rw [Qlzz (by decide), Qlzz (by decide)]
theorem nm_int (a : Int) : NmQ (intQ a) := by
 rw [NmQ, Qfez]
 show Y4z (decide (a < 0)) a.natAbs 1 = ⟨decide (a < 0), a.natAbs, 1⟩
 by_cases h : a = 0
 ·subst h; rfl
 ·rw [Y4z, if_neg (by omega)]
  simp
theorem nm_val (x : Raw) : NmQ (valQ x) := by
 rw [NmQ, Qfez, valQ]
 generalize lv 4294967296 x.num = p
 generalize lv 4294967296 x.den = q
 by_cases h : p = 0 ∨ q = 0
 ·rw [YAz h]; rfl
 ·have hg := Qgzz h
  have hc : Nat.gcd (p / Nat.gcd p q) (q / Nat.gcd p q) = 1 := Nat.coprime_div_gcd_div_gcd hg
  have h1 : 0 < p / Nat.gcd p q := Nat.div_pos (Nat.le_of_dvd (by omega) (Nat.gcd_dvd_left p q)) hg
  have h2 : 0 < q / Nat.gcd p q := Nat.div_pos (Nat.le_of_dvd (by omega) (Nat.gcd_dvd_right p q)) hg
  have e : Y4z x.neg p q = ⟨x.neg, p / Nat.gcd p q, q / Nat.gcd p q⟩ := if_neg h
  rw [e]
  show Y4z x.neg (p / Nat.gcd p q) (q / Nat.gcd p q) = _
  rw [Y4z, if_neg (by omega), hc, Nat.div_one, Nat.div_one]
theorem isT_back (q : Tq) : isT q (XNz q) = true := by
 simp only [isT, XNz, List.length_map, decide_true, Bool.true_and]
 rw [Yvz]
 intro i hi
 rw [ZJz]
 simp [List.getD, hi]
theorem Qnxz (q : Tq) (hn : ∀ r ∈ q.el, NmQ r) (he : (q.el.length : Int) = Qkz q.shape) (s : List Int) (g : List Int → List Int) : mvT (XNz q) s g = XNz (mvQ q s g) := by
 show (⟨s, ((mvL (XNz q) s g (Qkz s).toNat).map valQ).map Xxz⟩ : Tn) = ⟨s, (mvQ q s g).el.map Xxz⟩
 congr 2
 show (mvL (XNz q) s g (Qkz s).toNat).map valQ = (List.range (Qkz s).toNat).map fun i => atG q (g (idxL s (i : Nat)))
 rw [mvL, gatL, List.map_map]
 refine List.map_congr_left fun i _ => ?_
 simp only [Function.comp]
 by_cases h : isAt (XNz q) (g (idxL s (i : Nat))) = true
 ·rw [if_pos h, if_pos h]
  have hz : offE q.shape (g (idxL s (i : Nat))) = 0 := of_decide_eq_true h
  obtain ⟨h1, h2, h3⟩ := Qguz hz
  rw [atG, if_pos hz, Qiiz]
  obtain ⟨m, hm⟩ : ∃ m : Nat, offN q.shape (g (idxL s (i : Nat))) = m := ⟨(offN q.shape (g (idxL s (i : Nat)))).toNat, by omega⟩
  have hm' : m < q.el.length := by omega
  simp only [XNz, hm, Int.toNat_natCast]
  have e1 : (q.el.map Xxz).getD m r0 = Xxz (q.el.getD m q0) := by simp [List.getD, hm']
  rw [e1]
  exact hn _ (by simp [List.getD, hm'])
 ·rw [if_neg h]
  have hz : ¬ offE q.shape (g (idxL s (i : Nat))) = 0 := fun e => h (decide_eq_true e)
  rw [atG, if_neg hz, Qemz]
  exact nm_int 0
def mvI (s0 l s : List Int) (g : List Int → List Int) : List Int := (List.range (Qkz s).toNat).map fun i => if offE s0 (g (idxL s (i : Nat))) = 0 then l.getD (offN s0 (g (idxL s (i : Nat)))).toNat 0 else 0
theorem atG_whole (s0 l p : List Int) : atG (XUz s0 l) p = if offE s0 p = 0 then (l.map intQ).getD (offN s0 p).toNat q0 else intQ 0 := rfl
theorem Qdmz (s0 l : List Int) (he : (l.length : Int) = Qkz s0) (s : List Int) (g : List Int → List Int) : mvT (QOz s0 l) s g = QOz s (mvI s0 l s g) := by
 rw [QOz, Qnxz (XUz s0 l) (fun r hr => by
  simp only [XUz, List.mem_map] at hr
  obtain ⟨a, _, rfl⟩ := hr
  exact nm_int a) (by simpa [XUz] using he), QOz]
 congr 1
 show (⟨s, (List.range (Qkz s).toNat).map fun i => atG (XUz s0 l) (g (idxL s (i : Nat)))⟩ : Tq) = ⟨s, (mvI s0 l s g).map intQ⟩
 congr 1
 rw [mvI, List.map_map]
 refine List.map_congr_left fun i _ => ?_
 simp only [Function.comp, atG_whole]
 by_cases hz : offE s0 (g (idxL s (i : Nat))) = 0
 ·rw [if_pos hz, if_pos hz]
  obtain ⟨h1, h2, h3⟩ := Qguz hz
  have : (offN s0 (g (idxL s (i : Nat)))).toNat < l.length := by omega
  simp [List.getD, this]
 ·rw [if_neg hz, if_neg hz]
theorem Qapz (s l : List Int) (hm : mayP s = 0) (he : (l.length : Int) = Qkz s) : mayT (QOz s l) = 0 := by
 have hf : XCz (QOz s l) = 0 := by
  show (if mayP s ≠ 0 then mayP s else if (((l.map intQ).map Xxz).length : Int) ≠ countP s then 13 else 0) = 0
  have hc : countP s = Qkz s := by rw [countP, if_pos hm]
  rw [hm, hc]; simp [he]
 rw [mayT, hf, if_neg (by decide), if_pos]
 rw [List.all_eq_true]
 intro x hx
 simp only [QOz, XUz, XNz, List.mem_map] at hx
 obtain ⟨_, ⟨a, _, rfl⟩, rfl⟩ := hx
 rw [okR, ZJz, nm_int a]
theorem Qbyz {s l : List Int} (hs : s.length ≤ 1000000) (hl : l.length ≤ 1000000) (hb : ∀ x ∈ l, -9223372036854775808 ≤ x ∧ x < 9223372036854775808) : TnOK (QOz s l) := by
 refine ⟨show s.length ≤ 1000000000 by omega, by simp [QOz, XUz, XNz]; omega, fun x hx => ?_⟩
 simp only [QOz, XUz, XNz, List.mem_map] at hx
 obtain ⟨_, ⟨a, ha, rfl⟩, rfl⟩ := hx
 have := hb a ha
 have h1 : (dg B32 a.natAbs).length ≤ 2 := QLz (by decide) _ _ (Nat.lt_of_lt_of_le (show a.natAbs < 9223372036854775809 by omega) (by decide))
 have h2 : (dg B32 1).length ≤ 1 := QLz (by decide) _ _ (by decide)
 exact ⟨show (dg B32 a.natAbs).length ≤ _ by omega, show (dg B32 1).length ≤ _ by omega, Xnz _, Xnz _⟩
theorem same_refl (t : Tn) : Qlcz t t = true := by
 simp only [Qlcz, decide_true, Bool.true_and]
 rw [Yvz]
 intro i _
 simp [Qglz]
end Go.Proofs.YtjdbdmhjakfldaaGreat
end
section
namespace Go.Proofs.YtjdbdmhjakfldaaGreat
open Go.Bv
theorem k1E : Xiz (QOz [2, 3] [1, 2, 3, 4, 5, 6]) [1, 0] = 0 := by
 rw [Xiz, Qapz _ _ (by decide) (by decide)]
 rfl
theorem k1T : Y5z (QOz [2, 3] [1, 2, 3, 4, 5, 6]) [1, 0] = QOz [3, 2] [1, 4, 2, 5, 3, 6] := by
 rw [Y5z, Zqz k1E, Qdmz _ _ (by decide)]
 rfl
theorem k2E : Zzz (QOz [2, 3] [1, 2, 3, 4, 5, 6]) [0, 1, 1, 3] = 0 := by
 rw [Zzz, Qapz _ _ (by decide) (by decide)]
 rfl
theorem k2T : Qnlz (QOz [2, 3] [1, 2, 3, 4, 5, 6]) [0, 1, 1, 3] = QOz [1, 2] [2, 3] := by
 rw [Qnlz, Zqz k2E, Qdmz _ _ (by decide)]
 rfl
theorem k3E : padE (QOz [1, 2] [2, 3]) [0, 0, 1, 0] = 0 := by
 rw [padE, Qapz _ _ (by decide) (by decide)]
 rfl
theorem k3T : padT (QOz [1, 2] [2, 3]) [0, 0, 1, 0] = QOz [1, 3] [0, 2, 3] := by
 rw [padT, Zqz k3E, Qdmz _ _ (by decide)]
 rfl
theorem t1_val : Val C 13 [tnV (QOz [2, 3] [1, 2, 3, 4, 5, 6]), .sl 2 [.int .i64 1, .int .i64 0]] (.tup [tnV (QOz [3, 2] [1, 4, 2, 5, 3, 6]), .int .i64 0]) := by
 have h := Qgiz (QOz [2, 3] [1, 2, 3, 4, 5, 6]) (Qbyz (by decide) (by decide) (by decide)) [1, 0] (by decide)
 rw [k1E, k1T] at h
 exact h
theorem t2_val : Val C 20 [tnV (QOz [2, 3] [1, 2, 3, 4, 5, 6]), .sl 4 [.int .i64 0, .int .i64 1, .int .i64 1, .int .i64 3]] (.tup [tnV (QOz [1, 2] [2, 3]), .int .i64 0]) := by
 have h := slice_val (QOz [2, 3] [1, 2, 3, 4, 5, 6]) (Qbyz (by decide) (by decide) (by decide)) [0, 1, 1, 3] (by decide)
 rw [k2E, k2T] at h
 exact h
theorem t3_val : Val C 22 [tnV (QOz [1, 2] [2, 3]), .sl 4 [.int .i64 0, .int .i64 0, .int .i64 1, .int .i64 0]] (.tup [tnV (QOz [1, 3] [0, 2, 3]), .int .i64 0]) := by
 have h := pad_val (QOz [1, 2] [2, 3]) (Qbyz (by decide) (by decide) (by decide)) [0, 0, 1, 0] (by decide)
 rw [k3E, k3T] at h
 exact h
theorem w_val (s l : List Int) (hs : s.length ≤ 1000000) (hl : l.length ≤ 1000000) (hb : ∀ x ∈ l, -9223372036854775808 ≤ x ∧ x < 9223372036854775808) : ∃ T, T = QOz s l ∧ TnOK T ∧ Val C 49 [.sl s.length (ints s), .sl l.length (ints l)] (tnV T) := ⟨_, rfl, Qbyz hs hl hb, whole_val s l hs hl hb⟩
theorem Qqrz : Pu C 19 [] (.bool true) := by
 obtain ⟨X, hX, tX, wX⟩ := w_val [2, 3] [1, 2, 3, 4, 5, 6] (by decide) (by decide) (by decide)
 obtain ⟨A, hA, tA, wA⟩ := w_val [3, 2] [1, 4, 2, 5, 3, 6] (by decide) (by decide) (by decide)
 obtain ⟨B, hB, tB, wB⟩ := w_val [1, 2] [2, 3] (by decide) (by decide) (by decide)
 obtain ⟨D, hD, tD, wD⟩ := w_val [1, 3] [0, 2, 3] (by decide) (by decide) (by decide)
 have h1 := t1_val
 have h2 := t2_val
 have h3 := t3_val
 rw [← hX, ← hA] at h1
 rw [← hX, ← hB] at h2
 rw [← hB, ← hD] at h3
 have sA := ZFz A A tA tA
 have sB := ZFz B B tB tB
 have sD := ZFz D D tD tD
 rw [same_refl] at sA sB sD
 clear hX hA hB hD
 refine Fc.keep (Fc.bodyT Qfz Tryz.func19 w19 rfl Tryz.ntmps19 Tryz.results19 (zLe rfl) ?_)
 (refine Zo ?_;repeat' ((with_reducible first|refine Zk ?_|(first|apply Za|apply Zb|apply Zc|apply Zd)<;>intro h)<;>try simp -implicitDefEqProofs (maxSteps:=9^7) (disch:=first|omega|(simp only [lens];omega)) only [go_sem]))
 refine wX.call ⟨.self rfl, .self rfl, trivial⟩ (QZz _) ?_
 (refine Zo ?_;repeat' ((with_reducible first|refine Zk ?_|(first|apply Za|apply Zb|apply Zc|apply Zd)<;>intro h)<;>try simp -implicitDefEqProofs (maxSteps:=9^7) (disch:=first|omega|(simp only [lens];omega)) only [go_sem]))
 refine h1.call ⟨.self (QZz _), .self rfl, trivial⟩ (by simp [clo, cloL, QZz]) ?_
 (refine Zo ?_;repeat' ((with_reducible first|refine Zk ?_|(first|apply Za|apply Zb|apply Zc|apply Zd)<;>intro h)<;>try simp -implicitDefEqProofs (maxSteps:=9^7) (disch:=first|omega|(simp only [lens];omega)) only [go_sem]))
 refine h2.call ⟨.self (QZz _), .self rfl, trivial⟩ (by simp [clo, cloL, QZz]) ?_
 (refine Zo ?_;repeat' ((with_reducible first|refine Zk ?_|(first|apply Za|apply Zb|apply Zc|apply Zd)<;>intro h)<;>try simp -implicitDefEqProofs (maxSteps:=9^7) (disch:=first|omega|(simp only [lens];omega)) only [go_sem]))
 refine h3.call ⟨.self (QZz _), .self rfl, trivial⟩ (by simp [clo, cloL, QZz]) ?_
 (refine Zo ?_;repeat' ((with_reducible first|refine Zk ?_|(first|apply Za|apply Zb|apply Zc|apply Zd)<;>intro h)<;>try simp -implicitDefEqProofs (maxSteps:=9^7) (disch:=first|omega|(simp only [lens];omega)) only [go_sem]))
 refine wA.pc ⟨.self rfl, .self rfl, trivial⟩ (QZz _) ?_
 (refine Zo ?_;repeat' ((with_reducible first|refine Zk ?_|(first|apply Za|apply Zb|apply Zc|apply Zd)<;>intro h)<;>try simp -implicitDefEqProofs (maxSteps:=9^7) (disch:=first|omega|(simp only [lens];omega)) only [go_sem]))
 refine Pc.pure sA (by simp [cloL, clo, Qaz, Qlz]) (fun g => rfl) ?_
 (refine Zo ?_;repeat' ((with_reducible first|refine Zk ?_|(first|apply Za|apply Zb|apply Zc|apply Zd)<;>intro h)<;>try simp -implicitDefEqProofs (maxSteps:=9^7) (disch:=first|omega|(simp only [lens];omega)) only [go_sem]))
 refine wB.pc ⟨.self rfl, .self rfl, trivial⟩ (QZz _) ?_
 (refine Zo ?_;repeat' ((with_reducible first|refine Zk ?_|(first|apply Za|apply Zb|apply Zc|apply Zd)<;>intro h)<;>try simp -implicitDefEqProofs (maxSteps:=9^7) (disch:=first|omega|(simp only [lens];omega)) only [go_sem]))
 refine Pc.pure sB (by simp [cloL, clo, Qaz, Qlz]) (fun g => rfl) ?_
 (refine Zo ?_;repeat' ((with_reducible first|refine Zk ?_|(first|apply Za|apply Zb|apply Zc|apply Zd)<;>intro h)<;>try simp -implicitDefEqProofs (maxSteps:=9^7) (disch:=first|omega|(simp only [lens];omega)) only [go_sem]))
 refine wD.pc ⟨.self rfl, .self rfl, trivial⟩ (QZz _) ?_
 (refine Zo ?_;repeat' ((with_reducible first|refine Zk ?_|(first|apply Za|apply Zb|apply Zc|apply Zd)<;>intro h)<;>try simp -implicitDefEqProofs (maxSteps:=9^7) (disch:=first|omega|(simp only [lens];omega)) only [go_sem]))
 refine Pc.pure sD (by simp [cloL, clo, Qaz, Qlz]) (fun g => rfl) ?_
 (refine Zo ?_;repeat' ((with_reducible first|refine Zk ?_|(first|apply Za|apply Zb|apply Zc|apply Zd)<;>intro h)<;>try simp -implicitDefEqProofs (maxSteps:=9^7) (disch:=first|omega|(simp only [lens];omega)) only [go_sem]))
 (refine Qmz (by intro g; simp only [go_sem, ren, renL]) ?_)
 all_goals rfl
end Go.Proofs.YtjdbdmhjakfldaaGreat
end
section
namespace Go.Proofs.YtjdbdmhjakfldaaGreat
open Go.Bv
def Qokz : Tq := ⟨[], []⟩
def errQ (p : Tq) (e : Int) : Tq := if e ≠ 0 then Qokz else p
theorem errQ_no {p : Tq} {e : Int} (h : e ≠ 0) : errQ p e = Qokz := if_pos h
theorem Qmlz {p : Tq} {e : Int} (h : e = 0) : errQ p e = p := if_neg (by omega)
theorem bor_no {H : Heap} {p : Tq} {e k : Int} (h : e = k) (hk : k ≠ 0) : Bor H (.tup [.agg [.nil, .nil], .int .i64 k]) (.tup [tqV (errQ p e), .int .i64 e]) := by
 rw [errQ_no (by omega), h]
 exact Bor.tupL ⟨Bor.aggL ⟨.nil _, .nil _, trivial⟩, .self rfl, trivial⟩
theorem clo_ans (q : Tq) (e : Int) : clo (.tup [tqV q, .int .i64 e]) = true := by simp [clo, cloL, clo_tqV]
end Go.Proofs.YtjdbdmhjakfldaaGreat
end
section
namespace Go.Proofs.YtjdbdmhjakfldaaGreat
open Go.Bv
theorem Qmdz (a : Int) (ha : -9223372036854775808 ≤ a ∧ a < 9223372036854775808) : RqOK (intQ a) := (Qnkz (s := []) (l := [a]) (by decide) (by simp) (by simpa using ha)).r _ (by simp [XUz])
theorem rawOf_ok {x : Raw} (h : RawOK x) : RawOK (Xxz (valQ x)) := by
 obtain ⟨h1, h2⟩ := Qnwz x.neg (lv 4294967296 x.num) (lv 4294967296 x.den)
 have n1 := h.n1
 have d1 := h.d1
 refine ⟨?_, ?_, Xnz _, Xnz _⟩
 ·have := QLz (b := B32) (by decide) (valQ x).num x.num.length (Nat.lt_of_le_of_lt h1 (Qaqz h.nL))
  show (dg B32 (valQ x).num).length ≤ _
  omega
 ·show (dg B32 (valQ x).den).length ≤ _
  rcases h2 with h2 | h2
  ·have := QLz (b := B32) (by decide) (valQ x).den x.den.length (Nat.lt_of_le_of_lt h2 (Qaqz h.dL))
   omega
  ·have e : (valQ x).den = 1 := h2
   have : (dg B32 1).length ≤ 1 := QLz (by decide) _ _ (by decide)
   rw [e]; omega
theorem normT_ok {t : Tn} (ht : TnOK t) : TnOK (Qluz t) := ⟨ht.s, by simpa [Qluz] using ht.e, fun x hx => by
 simp only [Qluz, List.mem_map] at hx
 obtain ⟨_, ⟨a, ha, rfl⟩, rfl⟩ := hx
 exact rawOf_ok (ht.r a ha)⟩
theorem emptyT_ok : TnOK Qblz := ⟨by decide, by decide, fun x hx => by simp [Qblz] at hx⟩
theorem emptyQ_ok : TqOK Qokz := ⟨by decide, by decide, fun x hx => by simp [Qokz] at hx⟩
theorem errT_TnOK {p : Tn} {e : Int} (h : e = 0 → TnOK p) : TnOK (errT p e) := by
 by_cases he : e = 0
 ·rw [Zqz he]; exact h he
 ·rw [Qhaz he]; exact emptyT_ok
theorem errQ_TqOK {p : Tq} {e : Int} (h : e = 0 → TqOK p) : TqOK (errQ p e) := by
 by_cases he : e = 0
 ·rw [Qmlz he]; exact h he
 ·rw [errQ_no he]; exact emptyQ_ok
theorem ofT_ok {t : Tn} (ht : TnOK t) : TqOK (ofT t) := by
 rw [ofT]
 split
 ·exact ⟨by decide, by decide, fun x hx => by simp [zeroTq] at hx; rw [hx]; exact Qmdz 0 (by decide)⟩
 ·exact ht.of
theorem mvT_ok {t : Tn} (ht : TnOK t) (hm : mayT t = 0) {s : List Int} (hs : s.length ≤ 1000000000) (hp : mayP s = 0) (g : List Int → List Int) : TnOK (mvT t s g) := by
 obtain ⟨m1, m2, m3⟩ := QJz hp
 exact normT_ok ⟨hs, by simp only [mvL, Qciz]; omega, mvL_ok ht (Xmz hm).1 s g _⟩
theorem isB_ok {t : Tn} {p : Tn} {q : Tq} {e f : Int} (h0 : mayT t ≠ 0 → e = mayT t) (h1 : mayT t = 0 → e = f) (h2 : mayT t = 0 → e = 0 → isT q p = true) : isB (errT p e) e t (errQ q f) f = true := by
 by_cases hm : mayT t ≠ 0
 ·have he := h0 hm
  rw [Qhaz (by omega)]
  simp only [isB, hm, he]
  simp [Qblz, hm]
 ·have hm' : mayT t = 0 := by omega
  have he := h1 hm'
  by_cases hz : e = 0
  ·have hf : f = 0 := by omega
   rw [Zqz hz, Qmlz hf]
   simp [isB, hm', hf, hz, h2 hm' hz]
  ·rw [Qhaz hz]
   subst he
   simp [isB, hm', hz, Qblz]
theorem Qqiz (t : Tn) : mayT t = 0 ∨ mayT t = 6 ∨ mayT t = 11 ∨ mayT t = 13 ∨ mayT t = 14 := by
 have := Qqjz t.shape
 unfold mayT XCz
 split <;> (try split) <;> (try split) <;> (try split) <;> omega
end Go.Proofs.YtjdbdmhjakfldaaGreat
end
section
namespace Go.Proofs.YtjdbdmhjakfldaaGreat
open Go.Bv
theorem Own.retR {e s r n : Nat} {H : Heap} {cs : List V} (h2 : Qbz H r = some ⟨e, s, cs⟩) (hc : ∀ g, renL g cs = cs) {Q : V → Heap → Prop} (hQ : Q (.ref 0 0 n) [some ⟨e, s, cs⟩]) : ∃ sel, Z7z sel Q (.ref r 0 n) H := by
 refine ⟨[r], by simp, by simpa using Qsz h2, ?_⟩
 simpa [ren, pos, selH, h2, Xvz, hc] using hQ
theorem Fc.rowc {C : Ctx} {f : FuncId} {args args' : List V} {H : Heap} {K : V → Heap → Prop} {e s n : Nat} {cs : List V} (h : Fc C f args' [] fun v H => v = .ref 0 0 n ∧ H = [some ⟨e, s, cs⟩]) (hb : BorL H args args') (hc : ∀ g, renL g cs = cs) (hp : Qvz cs = true) (hK : K (.ref H.length 0 n) (H ++ [some ⟨e, s, cs⟩])) : Fc C f args H K :=
 h.borrow hb.all.1 hb.all.2 (fun v H' hv => by
  obtain ⟨rfl, rfl⟩ := hv
  exact (show Ret e s [some ⟨e, s, cs⟩] (.ref 0 0 n) n cs ∨ True from .inr trivial) |> fun _ => ⟨rfl, by
   intro r row hr
   match r, hr with
   | 0, hr => simp [Qbz] at hr; subst hr; exact hp
   | r + 1, hr => simp [Qbz] at hr⟩) fun v H' hv => by
  obtain ⟨rfl, rfl⟩ := hv
  simpa [ren, shift, renH, Xvz, hc] using hK
theorem Qmfz (s : List Int) (z : Int) (hs : s.length ≤ 1000000000) (h1 : ∀ d ∈ s, 1 ≤ d) (h0 : 0 ≤ z) (hn : z ≤ 1000000000) (hb : Qkz s ≤ 1000000) : Fc C 45 [.sl s.length (ints s), .int .i64 z] [] fun v H => v = .ref 0 0 s.length ∧ H = [some ⟨3, 1, ints (idxL s z)⟩] := by
 refine Fc.keep (Fc.bodyT Qfz Tryz.func45 w45 rfl Tryz.ntmps45 Tryz.results45 (zLe rfl) ?_)
 (refine Zo ?_;repeat' ((with_reducible first|refine Zk ?_|(first|apply Za|apply Zb|apply Zc|apply Zd)<;>intro h)<;>try simp -implicitDefEqProofs (maxSteps:=9^7) (disch:=first|omega|(simp only [lens];omega)) only [go_sem]))
 refine Ypz rfl rfl rfl rfl (by simp [t3bytes]) (by omega) ?_
 (refine Zo ?_;repeat' ((with_reducible first|refine Zk ?_|(first|apply Za|apply Zb|apply Zc|apply Zd)<;>intro h)<;>try simp -implicitDefEqProofs (maxSteps:=9^7) (disch:=first|omega|(simp only [lens];omega)) only [go_sem]))
 refine Qdz (fun n ts H => ∃ (k : Nat), (k ≤ s.length) ∧ (n = s.length - k) ∧ (Qbz H 0 = some ⟨3, 1, ints (outK s z k)⟩) ∧ ts.length = 33 ∧ nth ts 0 = .sl s.length (ints s) ∧ nth ts 1 = .int .i64 (z / Qkz (s.drop (s.length - k))) ∧ nth ts 5 = .ref 0 0 s.length ∧ nth ts 6 = .int .i64 ((s.length : Int) - 1 - k)) ?_ (n := s.length) ?_
 ·skip
  rintro n ts H ⟨k, hk, hn2, h0r, hL, hs0, hs1, hs5, hs6⟩
  refine Qnz [(0, .sl s.length (ints s)), (1, .int .i64 (z / Qkz (s.drop (s.length - k)))), (5, .ref 0 0 s.length), (6, .int .i64 ((s.length : Int) - 1 - k))] hL (by simp only [zFm, hs0, hs1, hs5, hs6, true_and]; exact zNm) ?_
  clear hL hs0 hs1 hs5 hs6 ts
  refine Qrz Qfz ?_
  by_cases hkl : k < s.length
  ·have e1 : ((s.length : Int) - 1 - (k : Int)) = ((s.length - 1 - k : Nat) : Int) := by omega
   have hd := Z9z h1 (i := s.length - 1 - k) (by omega)
   have hdu := QCz h1 (i := s.length - 1 - k) (by omega)
   have hq0 : 0 ≤ z / Qkz (s.drop (s.length - k)) := Int.ediv_nonneg (by omega) (by have := Q6z (l := s.drop (s.length - k)) fun d hd => h1 d (List.mem_of_mem_drop hd); omega)
   have hq1 : z / Qkz (s.drop (s.length - k)) ≤ z := Int.ediv_le_self _ (by omega)
   have hst := Qioz (n := z) hkl
   have hnx := Qoez h1 (n := z) (i := s.length - 1 - k) (by omega)
   have hii : Qeyz s z (s.length - 1 - k) = z / Qkz (s.drop (s.length - k)) % s.getD (s.length - 1 - k) 0 := by
    rw [Qeyz, show s.length - 1 - k + 1 = s.length - k by omega]
   rw [show s.length - 1 - k + 1 = s.length - k by omega] at hnx
   have hlen := Qntz s z k
   have hw : s.length - (k + 1) = s.length - 1 - k := by omega
   rw [hii] at hst
   have hm1 := Int.emod_nonneg (z / Qkz (s.drop (s.length - k))) (show s.getD (s.length - 1 - k) 0 ≠ 0 by omega)
   have hm2 := Int.emod_lt_of_pos (z / Qkz (s.drop (s.length - k))) (show 0 < s.getD (s.length - 1 - k) 0 by omega)
   have hdv := Int.ediv_le_self (a := z / Qkz (s.drop (s.length - k))) (s.getD (s.length - 1 - k) 0) hq0
   have hdv0 := Int.ediv_nonneg hq0 (show 0 ≤ s.getD (s.length - 1 - k) 0 by omega)
   have hfin : z / Qkz (s.drop (s.length - (k + 1))) = z / Qkz (s.drop (s.length - k)) / s.getD (s.length - 1 - k) 0 := by rw [hw, hnx]
   generalize z / Qkz (s.drop (s.length - k)) = q at *
   generalize hdd : s.getD (s.length - 1 - k) 0 = d at *
   (refine Zo ?_;repeat' ((with_reducible first|refine Zk ?_|(first|apply Za|apply Zb|apply Zc|apply Zd)<;>intro h)<;>try simp -implicitDefEqProofs (maxSteps:=9^7) (disch:=first|omega|(simp only [lens];omega)) only [go_sem, e1, h0r, Qyz, hst, hdd]))
   refine ⟨s.length - (k + 1), by omega, k + 1, by omega, rfl, Qez h0r, by rw [hfin], by congr 1; omega⟩
  ·have hks : k = s.length := by omega
   subst hks
   (refine Zo ?_;repeat' ((with_reducible first|refine Zk ?_|(first|apply Za|apply Zb|apply Zc|apply Zd)<;>intro h)<;>try simp -implicitDefEqProofs (maxSteps:=9^7) (disch:=first|omega|(simp only [lens];omega)) only [go_sem]))
   rw [Qipz] at h0r
   exact Own.retR h0r (fun g => Qqz g _) ⟨rfl, rfl⟩
 ·refine ⟨0, by omega, rfl, ?_, rfl, rfl, ?_, rfl, ?_⟩
  ·rw [Qinz, ← Zlz]; rfl
  ·rw [Nat.sub_zero, List.drop_length]
   show V.int .i64 z = _
   simp [Qkz]
  ·skip
   simp -implicitDefEqProofs (maxSteps:=9^7) (disch := first | omega | (simp only [lens]; omega)) only [go_sem]
   congr 1; omega
theorem offP_pre {s xs : List Int} {i : Nat} (hi : i ≤ s.length) (hI : ∀ j, j < i → 0 ≤ xs.getD j 0 ∧ xs.getD j 0 < s.getD j 0) : 0 ≤ offP s xs i ∧ offP s xs i < Qkz (s.take i) := by
 have hh : ∀ (m : Nat), m ≤ i → 0 ≤ offP s xs m ∧ offP s xs m < Qkz (s.take m) := fun m => by
  induction m with
  | zero => intro _; simp [offP, Qkz]
  | succ m ih =>
   intro hm
   obtain ⟨h1, h2⟩ := ih (by omega)
   obtain ⟨h3, h4⟩ := hI m (by omega)
   rw [QSz (by omega), offP]
   have h5 : offP s xs m * s.getD m 0 ≤ (Qkz (s.take m) - 1) * s.getD m 0 := Int.mul_le_mul_of_nonneg_right (by omega) (by omega)
   have h6 : 0 ≤ offP s xs m * s.getD m 0 := Int.mul_nonneg h1 (by omega)
   rw [Int.sub_mul, Int.one_mul] at h5
   omega
 exact hh i (Nat.le_refl _)
def atQ (q : Tq) (l : List Int) : Rq := if inB q.shape l = true then q.el.getD (offP q.shape l q.shape.length).toNat q0 else intQ 0
theorem at09_spec (q : Tq) (hq : TqOK q) (hm : mayP q.shape = 0) (he : (q.el.length : Int) = Qkz q.shape) (l : List Int) (hl : l.length = q.shape.length) (hb : ∀ j, j < l.length → -1000000000 ≤ l.getD j 0 ∧ l.getD j 0 ≤ 1000000000) :
  Pu C 46 [tqV q, .sl l.length (ints l)] (refV (atQ q l)) := by
 obtain ⟨m1, m2, m3⟩ := QJz hm
 have hs := hq.s
 have hel := hq.e
 refine Pu.ofBor (X0z _) ?_
 refine Fc.bodyT Qfz Tryz.func46 w46 rfl Tryz.ntmps46 Tryz.results46 (zLe rfl) ?_
 (refine Zo ?_;repeat' ((with_reducible first|refine Zk ?_|(first|apply Za|apply Zb|apply Zc|apply Zd)<;>intro h)<;>try simp -implicitDefEqProofs (maxSteps:=9^7) (disch:=first|omega|(simp only [lens];omega)) only [go_sem]))
 refine Qdz (fun n ts H => ∃ (i : Nat), (i ≤ l.length) ∧ ((∀ j, j < i → 0 ≤ l.getD j 0 ∧ l.getD j 0 < q.shape.getD j 0)) ∧ (n = l.length - i) ∧ (Qbz H 0 = some ⟨34, 2, [.sl q.shape.length (ints q.shape), .sl q.el.length (Xlz q.el)]⟩) ∧ (Qbz H 1 = some ⟨72, 3, [.bool false, .nil, .nil]⟩) ∧ ts.length = 48 ∧ nth ts 1 = .sl l.length (ints l) ∧ nth ts 2 = .ptr 0 0 ∧ nth ts 4 = .ptr 1 0 ∧ nth ts 5 = .int .i64 (offP q.shape l i) ∧ nth ts 6 = .int .i64 (i : Nat)) ?_ (n := l.length) ?_
 ·skip
  rintro n ts H ⟨i, hi, hI, hn, h0, h1, hL, hs1, hs2, hs4, hs5, hs6⟩
  refine Qnz [(1, .sl l.length (ints l)), (2, .ptr 0 0), (4, .ptr 1 0), (5, .int .i64 (offP q.shape l i)), (6, .int .i64 (i : Nat))] hL (by simp only [zFm, hs1, hs2, hs4, hs5, hs6, true_and]; exact zNm) ?_
  clear hL hs1 hs2 hs4 hs5 hs6 ts
  refine Qrz Qfz ?_
  have hst : ∀ z : Row, Qbz (H.set 1 (some z)) 1 = some z := fun z => Qez h1
  by_cases hcase : i < l.length
  ·have hsi := Z9z m2 (i := i) (by omega)
   have hsu := QCz m2 (i := i) (by omega)
   have hpl := Zvz m2 i
   have hbi := hb i hcase
   have hoff : 0 ≤ offP q.shape l i ∧ offP q.shape l i < Qkz (q.shape.take i) := offP_pre (by omega) hI
   have hmul : 0 ≤ offP q.shape l i * q.shape.getD i 0 ∧ offP q.shape l i * q.shape.getD i 0 ≤ 1048576 := by
    refine ⟨Int.mul_nonneg hoff.1 (by omega), ?_⟩
    have := Int.mul_le_mul (show offP q.shape l i ≤ 1024 by omega) (show q.shape.getD i 0 ≤ 1024 by omega) (by omega) (by decide)
    omega
   by_cases hin : 0 ≤ l.getD i 0 ∧ l.getD i 0 < q.shape.getD i 0
   ·have e : offP q.shape l (i + 1) = offP q.shape l i * q.shape.getD i 0 + l.getD i 0 := rfl
    have hI' : ∀ j, j < i + 1 → 0 ≤ l.getD j 0 ∧ l.getD j 0 < q.shape.getD j 0 := allS hI hin
    generalize hqq : offP q.shape l i * q.shape.getD i 0 = qq at *
    generalize offP q.shape l i = o at *
    generalize hd : q.shape.getD i 0 = d at *
    generalize hxx : l.getD i 0 = x at *
    (refine Zo ?_;repeat' ((with_reducible first|refine Zk ?_|(first|apply Za|apply Zb|apply Zc|apply Zd)<;>intro h)<;>try simp -implicitDefEqProofs (maxSteps:=9^7) (disch:=first|omega|(simp only [lens];omega)) only [go_sem, h0, hqq, hd, hxx]))
    refine ⟨l.length - (i + 1), by omega, i + 1, by omega, hI', rfl, h1, by rw [e], by congr 1⟩
   ·have hno : inB q.shape l = false := by
     rw [Bool.eq_false_iff]
     intro hh
     exact hin (Qauz.1 hh i (by omega))
    have hat : atQ q l = intQ 0 := by rw [atQ, if_neg (by rw [hno]; decide)]
    rw [hat]
    (refine Zo ?_;repeat' ((with_reducible first|refine Zk ?_|(first|apply Za|apply Zb|apply Zc|apply Zd)<;>intro h)<;>try simp -implicitDefEqProofs (maxSteps:=9^7) (disch:=first|omega|(simp only [lens];omega)) only [go_sem, h0]))
    all_goals (refine (Qatz 0 (by decide) (by decide)).call ⟨.self rfl, trivial⟩ (X0z _) ?_)
    all_goals (refine Zo ?_;repeat' ((with_reducible first|refine Zk ?_|(first|apply Za|apply Zb|apply Zc|apply Zd)<;>intro h)<;>try simp -implicitDefEqProofs (maxSteps:=9^7) (disch:=first|omega|(simp only [lens];omega)) only [go_sem, h1, hst]))
    all_goals exact .self (X0z _)
  ·have hil : i = q.shape.length := by omega
   have hyes : inB q.shape l = true := Qauz.2 fun j hj => hI j (by omega)
   have hlt := Qlqz (Qauz.1 hyes) q.shape.length (Nat.le_refl _)
   rw [List.take_length] at hlt
   obtain ⟨o, ho⟩ : ∃ o : Nat, offP q.shape l q.shape.length = o := ⟨(offP q.shape l q.shape.length).toNat, by omega⟩
   have hat : atQ q l = q.el.getD o q0 := by rw [atQ, if_pos hyes, ho]; rfl
   rw [hat]
   subst hil
   rw [ho] at hlt ⊢
   have hoe : o < q.el.length := by omega
   (refine Zo ?_;repeat' ((with_reducible first|refine Zk ?_|(first|apply Za|apply Zb|apply Zc|apply Zd)<;>intro h)<;>try simp -implicitDefEqProofs (maxSteps:=9^7) (disch:=first|omega|(simp only [lens];omega)) only [go_sem, h0, h1, hst]))
   exact .self (X0z _)
 ·exact ⟨0, by omega, fun j hj => by omega, rfl, rfl, rfl, rfl, rfl, rfl, rfl, rfl, rfl⟩
end Go.Proofs.YtjdbdmhjakfldaaGreat
end
section
namespace Go.Proofs.YtjdbdmhjakfldaaGreat
open Go.Bv
def elsQ (q : Tq) (S : List Int) (g : List Int → List Int) (N : Nat) : List Rq := (List.range N).map fun i => atQ q (g (idxL S (i : Nat)))
theorem Qolz (q : Tq) (S : List Int) (g : List Int → List Int) (N : Nat) : (elsQ q S g N).length = N := by simp [elsQ]
theorem elsQ_succ (q : Tq) (S : List Int) (g : List Int → List Int) (N : Nat) : elsQ q S g (N + 1) = elsQ q S g N ++ [atQ q (g (idxL S (N : Nat)))] := by simp [elsQ, List.range_succ]
theorem refsC_app (xs : List Rq) (x : Rq) : Xlz (xs ++ [x]) = Xlz xs ++ [.bool x.neg, DV x.num, DV x.den] := by rw [Xlz, Yiz]; rfl
theorem Qpoz (xs : List Rq) : (Xlz xs).all scal = true := by
 induction xs with
 | nil => rfl
 | cons x xs ih => simp only [Xlz, Zwz, List.all_cons] at ih ⊢; rw [ih]; rfl
theorem push_ref {y : Ty} {e e' s' i : Nat} {H : Heap} {v : V} {xs : List Rq} {x : Rq} {K : V → Heap → Prop} (h : Bv.Own e 3 H v i (Xlz xs)) (hy : y.size = 3) (hby : y.bytes = 56) (hn : i + 1 ≤ 1000000000)
  (hK : ∀ v' H', Bv.Own e 3 H' v' (i + 1) (Xlz (xs ++ [x])) → Fr v H H' → kn v' = true ∧ cellsOf v' = [v'] ∧ scal v' = true → K v' H') :
  appw y e v (.ref H.length 0 1) (H ++ [some ⟨e', s', [.bool x.neg, DV x.num, DV x.den]⟩]) K := by
 rw [← hy] at h
 refine Qclz h (by rw [hy]; rfl) (by simp [scal, DV, DA]) (by omega) (by omega) (by rw [hby]; omega) (Qpoz _) fun H' k1 k2 k3 => ?_
 rw [hy] at k1
 exact hK _ H' (by rw [refsC_app]; exact k1) k2 ⟨rfl, rfl, rfl⟩
structure FitQ (q : Tq) : Prop where
 ok : TqOK q
 m : mayP q.shape = 0
 l : (q.el.length : Int) = Qkz q.shape
theorem own_far {e s : Nat} {H : Heap} {v : V} {n q : Nat} {cs : List V} {z : Option Row} (h : Bv.Own e s H v n cs) (hne : ∀ r off m, v = .ref r off m → r ≠ q) : Bv.Own e s (H.set q z) v n cs := by
 rcases h with h | ⟨r, h, hr, hl⟩
 ·exact .inl h
 ·exact .inr ⟨r, h, by rw [Qcz _ (Ne.symm (hne r 0 n h))]; exact hr, hl⟩
end Go.Proofs.YtjdbdmhjakfldaaGreat
end
section
namespace Go.Proofs.YtjdbdmhjakfldaaGreat
open Go.Bv
theorem ofT_fit {t : Tn} (ht : TnOK t) : FitQ (ofT t) := by
 refine ⟨ofT_ok ht, ?_, ?_⟩
 ·by_cases hm : mayT t = 0
  ·rw [ofT, if_neg (by omega)]; exact (Xmz hm).2.1
  ·rw [ofT, if_pos hm]; rfl
 ·by_cases hm : mayT t = 0
  ·rw [ofT, if_neg (by omega)]
   have := (Xmz hm).2.2
   simpa [tnOf] using this
  ·rw [ofT, if_pos hm]; rfl
theorem back_of {t : Tn} (hm : mayT t = 0) : XNz (tnOf t) = t := by
 have hf := (Xmz hm).1
 rw [mayT, if_neg (by omega)] at hm
 have ha : t.el.all okR = true := by
  cases h : t.el.all okR with
  | true => rfl
  | false => rw [h] at hm; simp at hm
 obtain ⟨s, el⟩ := t
 show (⟨s, (el.map valQ).map Xxz⟩ : Tn) = ⟨s, el⟩
 congr 1
 rw [List.map_map]
 exact (List.map_congr_left fun x hx => (ZJz.1 (List.all_eq_true.1 ha x hx)).symm).trans (List.map_id _)
theorem atG_atQ (q : Tq) (hm : mayP q.shape = 0) (l : List Int) (hl : l.length = q.shape.length) : atG q l = atQ q l := by
 rw [atG, atQ]
 cases hb : inB q.shape l with
 | true =>
  have hz : offE q.shape l = 0 := by rw [offE, if_neg (by omega), if_neg (by omega), if_pos hb]
  rw [if_pos hz, if_pos rfl, offN, if_pos hz]
 | false =>
  have hz : ¬ offE q.shape l = 0 := by rw [offE, if_neg (by omega), if_neg (by omega), if_neg (by rw [hb]; decide)]; decide
  rw [if_neg hz, if_neg (by decide)]
theorem mv_isT {t : Tn} (hm : mayT t = 0) (S : List Int) (g : List Int → List Int) (hg : ∀ i : Nat, (g (idxL S (i : Nat))).length = t.shape.length) : isT ⟨S, elsQ (tnOf t) S g (Qkz S).toNat⟩ (mvT t S g) = true := by
 have hmp := (Xmz hm).2.1
 have hel := (Xmz hm).2.2
 have e := Qnxz (tnOf t) (fun r hr => by
  simp only [tnOf, List.mem_map] at hr
  obtain ⟨x, _, rfl⟩ := hr
  exact nm_val x) (by simpa [tnOf] using hel) S g
 rw [back_of hm] at e
 rw [e]
 have : (⟨S, elsQ (tnOf t) S g (Qkz S).toNat⟩ : Tq) = mvQ (tnOf t) S g := by
  rw [mvQ, elsQ]
  congr 1
  exact List.map_congr_left fun i _ => (atG_atQ (tnOf t) hmp _ (hg i)).symm
 rw [this]
 exact isT_back _
theorem elsQ_ok {q : Tq} (hq : TqOK q) {S : List Int} {g : List Int → List Int} {N : Nat} (hS : S.length ≤ 1000000000) (hN : N ≤ 1000000000) : TqOK ⟨S, elsQ q S g N⟩ := ⟨hS, by simpa [Qolz] using hN, fun x hx => by
 simp only [elsQ, List.mem_map] at hx
 obtain ⟨i, _, rfl⟩ := hx
 rw [atQ]
 split
 ·rw [List.getD]
  cases h : q.el[(offP q.shape (g (idxL S (i : Nat))) q.shape.length).toNat]? with
  | none => exact Qmdz 0 (by decide)
  | some r => exact hq.r r (List.mem_of_getElem? h)
 ·exact Qmdz 0 (by decide)⟩
end Go.Proofs.YtjdbdmhjakfldaaGreat
end
section
namespace Go.Proofs.YtjdbdmhjakfldaaGreat
open Go.Bv
theorem cntS (p : List Int) (m : Nat) : p.countP (fun x => decide (0 ≤ x ∧ x < ((m + 1 : Nat) : Int))) = p.countP (fun x => decide (0 ≤ x ∧ x < ((m : Nat) : Int))) + p.count (m : Int) := by
 induction p with
 | nil => rfl
 | cons x p ih =>
  rw [List.countP_cons, List.countP_cons, List.count_cons, ih]
  simp only [decide_eq_true_eq, beq_iff_eq]
  split <;> split <;> split <;> omega
theorem Qonz {p : List Int} (h : ∀ d : Nat, d < p.length → p.count (d : Int) = 1) : ∀ m : Nat, m ≤ p.length → p.countP (fun x => decide (0 ≤ x ∧ x < ((m : Nat) : Int))) = m
 | 0, _ => by
  rw [List.countP_eq_zero]
  intro x _
  simp only [decide_eq_true_eq]
  omega
 | m + 1, hm => by rw [cntS, Qonz h m (by omega), h m (by omega)]
theorem cntS_le {p : List Int} (h : ∀ a, p.count a ≤ 1) (m : Nat) : p.countP (fun x => decide (0 ≤ x ∧ x < ((m : Nat) : Int))) ≤ m := by
 induction m with
 | zero =>
  have : p.countP (fun x => decide (0 ≤ x ∧ x < ((0 : Nat) : Int))) = 0 := by
   rw [List.countP_eq_zero]
   intro x _
   simp only [decide_eq_true_eq]
   omega
  omega
 | succ m ih => rw [cntS]; have := h (m : Int); omega
theorem cntS_up {p : List Int} (h : ∀ a, p.count a ≤ 1) (m : Nat) : ∀ k : Nat, p.countP (fun x => decide (0 ≤ x ∧ x < ((m + k : Nat) : Int))) ≤ p.countP (fun x => decide (0 ≤ x ∧ x < ((m : Nat) : Int))) + k
 | 0 => by simp
 | k + 1 => by
  have h1 := cntS_up h m k
  have h2 := cntS p (m + k)
  have h3 := h ((m + k : Nat) : Int)
  rw [show m + (k + 1) = m + k + 1 by omega]
  omega
theorem Qdcz (p : List Int) : XGz p = true ↔ ∀ d : Nat, d < p.length → p.count (d : Int) = 1 := by
 constructor
 ·intro h d hd
  have hn := List.nodup_iff_count.1 (Qdbz h)
  have hm := Qijz h
  have hall : p.countP (fun x => decide (0 ≤ x ∧ x < ((p.length : Nat) : Int))) = p.length := List.countP_eq_length.2 fun x hx => by
   have := hm x hx
   simpa using this
  have h1 := cntS_le hn d
  have h2 := cntS_up hn (d + 1) (p.length - (d + 1))
  have h3 := cntS p d
  have h4 := hn (d : Int)
  rw [show d + 1 + (p.length - (d + 1)) = p.length by omega] at h2
  omega
 ·intro h
  have hall := Qonz h p.length (Nat.le_refl _)
  have hmem : ∀ a ∈ p, 0 ≤ a ∧ a < p.length := fun a ha => by
   have := List.countP_eq_length.1 hall a ha
   simpa using this
  have hn : p.Nodup := List.nodup_iff_count.2 fun a => by
   by_cases ha : a ∈ p
   ·have h1 := hmem a ha
    have := h a.toNat (by omega)
    rw [show ((a.toNat : Nat) : Int) = a by omega] at this
    omega
   ·rw [List.count_eq_zero.2 ha]; omega
  refine (Ywz p).2 fun i hi => ?_
  have h1 := hmem _ (Qdwz hi)
  refine ⟨h1.1, h1.2, fun k hk he => ?_⟩
  rw [List.Nodup, List.pairwise_iff_getElem] at hn
  have := hn k i (by omega) hi hk
  simp only [List.getD, List.getElem?_eq_getElem hi, List.getElem?_eq_getElem (show k < p.length by omega), Option.getD_some] at he
  exact this he
theorem cnt_take {p : List Int} {i : Nat} (hi : i < p.length) (d : Int) : (p.take (i + 1)).count d = (p.take i).count d + if p.getD i 0 = d then 1 else 0 := by
 rw [Qctz p 0 hi, List.count_append, List.count_singleton]
 simp only [beq_iff_eq]
theorem Qlfz (p : List Int) (n : Nat) (hp : p.length ≤ 1048576) (hn : n ≤ 1000) : Pu C 44 [.sl p.length (ints p), .int .i64 (n : Nat)] (.bool (XGz p && decide (p.length = n))) := by
 obtain ⟨m, rfl⟩ : ∃ m, m = n := ⟨n, rfl⟩
 refine Fc.keep (Fc.bodyT Qfz Tryz.func44 w44 rfl Tryz.ntmps44 Tryz.results44 (zLe rfl) ?_)
 by_cases hl : p.length = m
 case neg =>
  (refine Zo ?_;repeat' ((with_reducible first|refine Zk ?_|(first|apply Za|apply Zb|apply Zc|apply Zd)<;>intro h)<;>try simp -implicitDefEqProofs (maxSteps:=9^7) (disch:=first|omega|(simp only [lens];omega)) only [go_sem]))
  (refine Qmz (by intro g; simp only [go_sem, ren, renL]) ?_)
  simp [hl]
 subst hl
 (refine Zo ?_;repeat' ((with_reducible first|refine Zk ?_|(first|apply Za|apply Zb|apply Zc|apply Zd)<;>intro h)<;>try simp -implicitDefEqProofs (maxSteps:=9^7) (disch:=first|omega|(simp only [lens];omega)) only [go_sem]))
 refine Qdz (fun n ts H => ∃ (d : Nat), (d ≤ p.length) ∧ ((∀ j : Nat, j < d → p.count (j : Int) = 1)) ∧ (n = p.length - d) ∧ (H = []) ∧ ts.length = 32 ∧ nth ts 0 = .sl p.length (ints p) ∧ nth ts 1 = .int .i64 p.length ∧ nth ts 5 = .int .i64 (d : Nat)) ?_ (n := p.length) ?_
 ·skip
  rintro n ts H ⟨d, hd, hI, hn, hH, hL, hs0, hs1, hs5⟩
  refine Qnz [(0, .sl p.length (ints p)), (1, .int .i64 p.length), (5, .int .i64 (d : Nat))] hL (by simp only [zFm, hs0, hs1, hs5, true_and]; exact zNm) ?_
  clear hL hs0 hs1 hs5 ts
  refine Qrz Qfz ?_
  subst hH hn
  by_cases hdl : d < p.length
  ·skip
   (refine Zo ?_;repeat' ((with_reducible first|refine Zk ?_|(first|apply Za|apply Zb|apply Zc|apply Zd)<;>intro h)<;>try simp -implicitDefEqProofs (maxSteps:=9^7) (disch:=first|omega|(simp only [lens];omega)) only [go_sem]))
   refine Qdz (fun n ts H => ∃ (i : Nat), (i ≤ p.length) ∧ (n = p.length - i) ∧ (H = []) ∧ ts.length = 32 ∧ nth ts 0 = .sl p.length (ints p) ∧ nth ts 1 = .int .i64 p.length ∧ nth ts 5 = .int .i64 (d : Nat) ∧ nth ts 6 = .int .i64 ((p.take i).count (d : Int) : Nat) ∧ nth ts 7 = .int .i64 (i : Nat)) ?_ (n := p.length) ?_
   ·skip
    rintro n ts H ⟨i, hi, hn, hH, hL, hs0, hs1, hs5, hs6, hs7⟩
    refine Qnz [(0, .sl p.length (ints p)), (1, .int .i64 p.length), (5, .int .i64 (d : Nat)), (6, .int .i64 ((p.take i).count (d : Int) : Nat)), (7, .int .i64 (i : Nat))] hL (by simp only [zFm, hs0, hs1, hs5, hs6, hs7, true_and]; exact zNm) ?_
    clear hL hs0 hs1 hs5 hs6 hs7 ts
    refine Qrz Qfz ?_
    subst hH hn
    have hcl : (p.take i).count (d : Int) ≤ (p.take i).length := List.count_le_length
    rw [List.length_take] at hcl
    by_cases hil : i < p.length
    ·have hct := cnt_take hil (d : Int)
     by_cases he : p.getD i 0 = d
     ·rw [if_pos he] at hct
      (refine Zo ?_;repeat' ((with_reducible first|refine Zk ?_|(first|apply Za|apply Zb|apply Zc|apply Zd)<;>intro h)<;>try simp -implicitDefEqProofs (maxSteps:=9^7) (disch:=first|omega|(simp only [lens];omega)) only [go_sem, he]))
      exact ⟨p.length - (i + 1), by omega, i + 1, by omega, rfl, by rw [hct]; rfl, by congr 1⟩
     ·rw [if_neg he] at hct
      (refine Zo ?_;repeat' ((with_reducible first|refine Zk ?_|(first|apply Za|apply Zb|apply Zc|apply Zd)<;>intro h)<;>try simp -implicitDefEqProofs (maxSteps:=9^7) (disch:=first|omega|(simp only [lens];omega)) only [go_sem]))
      exact ⟨p.length - (i + 1), by omega, i + 1, by omega, rfl, by rw [hct]; rfl, by congr 1⟩
    ·have his : i = p.length := by omega
     subst his
     rw [List.take_length]
     by_cases hc : p.count (d : Int) = 1
     ·rw [hc]
      (refine Zo ?_;repeat' ((with_reducible first|refine Zk ?_|(first|apply Za|apply Zb|apply Zc|apply Zd)<;>intro h)<;>try simp -implicitDefEqProofs (maxSteps:=9^7) (disch:=first|omega|(simp only [lens];omega)) only [go_sem]))
      exact ⟨p.length - (d + 1), by omega, d + 1, by omega, fun j hj => by
       by_cases hjd : j = d
       ·rw [hjd]; exact hc
       ·exact hI j (by omega), rfl, rfl⟩
     ·skip
      (refine Zo ?_;repeat' ((with_reducible first|refine Zk ?_|(first|apply Za|apply Zb|apply Zc|apply Zd)<;>intro h)<;>try simp -implicitDefEqProofs (maxSteps:=9^7) (disch:=first|omega|(simp only [lens];omega)) only [go_sem]))
      (refine Qmz (by intro g; simp only [go_sem, ren, renL]) ?_)
      have hb : XGz p = false := by
       rw [Bool.eq_false_iff]
       exact fun h => hc ((Qdcz p).1 h d hdl)
      simp [hb]
   ·exact ⟨0, by omega, rfl, rfl, rfl, rfl, rfl, rfl, rfl, rfl⟩
  ·skip
   (refine Zo ?_;repeat' ((with_reducible first|refine Zk ?_|(first|apply Za|apply Zb|apply Zc|apply Zd)<;>intro h)<;>try simp -implicitDefEqProofs (maxSteps:=9^7) (disch:=first|omega|(simp only [lens];omega)) only [go_sem]))
   have hb : XGz p = true := (Qdcz p).2 fun j hj => hI j (by omega)
   (refine Qmz (by intro g; simp only [go_sem, ren, renL]) ?_)
   simp [hb]
 ·exact ⟨0, by omega, fun j hj => by omega, rfl, rfl, rfl, rfl, rfl, rfl⟩
end Go.Proofs.YtjdbdmhjakfldaaGreat
end
section
namespace Go.Proofs.YtjdbdmhjakfldaaGreat
open Go.Bv
def trF (q : Tq) (p : List Int) : Int := if (XGz p && decide (p.length = q.shape.length)) = false then 11 else 0
def trQ (q : Tq) (p : List Int) : Tq := errQ ⟨Q5z p q.shape, elsQ q (Q5z p q.shape) (fun x => putP p x p.length) (Qkz (Q5z p q.shape)).toNat⟩ (trF q p)
theorem putP_nn (p x : List Int) (hx : ∀ j, 0 ≤ x.getD j 0 ∧ x.getD j 0 ≤ 1024) (k : Nat) : ∀ j, 0 ≤ (putP p x k).getD j 0 ∧ (putP p x k).getD j 0 ≤ 1024 := by
 induction k with
 | zero =>
  intro j
  have : (putP p x 0).getD j 0 = 0 := by
   rw [putP]
   by_cases hj : j < p.length
   ·simp [List.getD, hj]
   ·simp [List.getD, hj]
  omega
 | succ k ih =>
  intro j
  rw [putP]
  by_cases hj : j = (p.getD k 0).toNat
  ·by_cases hl : j < (putP p x k).length
   ·have : ((putP p x k).set (p.getD k 0).toNat (x.getD k 0)).getD j 0 = x.getD k 0 := by rw [← hj]; simp [List.getD, hl]
    rw [this]; exact hx k
   ·have : ((putP p x k).set (p.getD k 0).toNat (x.getD k 0)).getD j 0 = 0 := by simp [List.getD, hl]
    omega
  ·have : ((putP p x k).set (p.getD k 0).toNat (x.getD k 0)).getD j 0 = (putP p x k).getD j 0 := by
    generalize (p.getD k 0).toNat = m at *
    simp [List.getD, Ne.symm hj]
   rw [this]; exact ih j
theorem Qhuz (q : Tq) (hq : FitQ q) (p : List Int) (hp : p.length ≤ 1048576) : Pu C 16 [tqV q, .sl p.length (ints p)] (.tup [tqV (trQ q p), .int .i64 (trF q p)]) := by
 obtain ⟨m1, m2, m3⟩ := QJz hq.m
 have hel := hq.l
 refine Pu.ofBor (clo_ans _ _) ?_
 unfold trQ
 refine Fc.bodyT Qfz Tryz.func16 w16 rfl Tryz.ntmps16 Tryz.results16 (zLe rfl) ?_
 (refine Zo ?_;repeat' ((with_reducible first|refine Zk ?_|(first|apply Za|apply Zb|apply Zc|apply Zd)<;>intro h)<;>try simp -implicitDefEqProofs (maxSteps:=9^7) (disch:=first|omega|(simp only [lens];omega)) only [go_sem]))
 refine Fc.pure (Qlfz p q.shape.length (by omega) (by omega)) (by simp [cloL, clo, Qaz]) (fun g => rfl) ?_
 cases hb : (XGz p && decide (p.length = q.shape.length)) with
 | false =>
  have hE : trF q p = 11 := by rw [trF, if_pos hb]
  (refine Zo ?_;repeat' ((with_reducible first|refine Zk ?_|(first|apply Za|apply Zb|apply Zc|apply Zd)<;>intro h)<;>try simp -implicitDefEqProofs (maxSteps:=9^7) (disch:=first|omega|(simp only [lens];omega)) only [go_sem]))
  exact bor_no hE (by decide)
 | true =>
  have hE : trF q p = 0 := by rw [trF, if_neg (by rw [hb]; decide)]
  rw [Qmlz hE, hE]
  rw [Bool.and_eq_true, decide_eq_true_eq] at hb
  obtain ⟨hpb, hpl⟩ := hb
  have hin : ∀ j, j < p.length → 0 ≤ p.getD j 0 ∧ p.getD j 0 < p.length := fun j hj => by
   have := (Ywz p).1 hpb j hj
   exact ⟨this.1, this.2.1⟩
  have hperm : (Q5z p q.shape).Perm q.shape := Qhrz hpl hpb
  have hmS := Ysz q.shape hq.m p hpb hpl
  have hSl : (Q5z p q.shape).length = p.length := Xpz _ _
  have hNN : (Qkz (Q5z p q.shape)).toNat = q.el.length := by rw [Qfhz hperm]; omega
  rw [hNN]
  (refine Zo ?_;repeat' ((with_reducible first|refine Zk ?_|(first|apply Za|apply Zb|apply Zc|apply Zd)<;>intro h)<;>try simp -implicitDefEqProofs (maxSteps:=9^7) (disch:=first|omega|(simp only [lens];omega)) only [go_sem]))
  refine Qdz (fun n ts H => ∃ (k : Nat) (u : V), (k ≤ p.length) ∧ (n = p.length - k) ∧ (Qbz H 0 = some ⟨34, 2, [.sl q.shape.length (ints q.shape), .sl q.el.length (Xlz q.el)]⟩) ∧ (Qbz H 1 = some ⟨34, 2, [.nil, .nil]⟩) ∧ (Qbz H 2 = some ⟨34, 2, [u, .nil]⟩) ∧ (Bv.Own 3 1 H u k (ints (tabI (fun i => q.shape.getD (p.getD i 0).toNat 0) k))) ∧ ts.length = 78 ∧ nth ts 1 = .sl p.length (ints p) ∧ nth ts 2 = .ptr 0 0 ∧ nth ts 4 = .ptr 1 0 ∧ nth ts 6 = .ptr 2 0 ∧ nth ts 7 = .int .i64 (k : Nat)) ?_ (n := p.length) ?_
  ·skip
   rintro n ts H ⟨k, u, hk, hn, h0, h1, h2, hu, hL, hs1, hs2, hs4, hs6, hs7⟩
   refine Qnz [(1, .sl p.length (ints p)), (2, .ptr 0 0), (4, .ptr 1 0), (6, .ptr 2 0), (7, .int .i64 (k : Nat))] hL (by simp only [zFm, hs1, hs2, hs4, hs6, hs7, true_and]; exact zNm) ?_
   clear hL hs1 hs2 hs4 hs6 hs7 ts
   refine Qrz Qfz ?_
   by_cases hkl : k < p.length
   ·obtain ⟨b1, b2⟩ := hin k hkl
    obtain ⟨d, hd⟩ : ∃ d : Nat, p.getD k 0 = d := ⟨(p.getD k 0).toNat, by omega⟩
    have hlv := hu.lenw (C.ty 22)
    have htl := Xpz (fun i => q.shape.getD (p.getD i 0).toNat 0) k
    have hts := ZRz (fun i => q.shape.getD (p.getD i 0).toNat 0) k
    have hts' := Xpz (fun i => q.shape.getD (p.getD i 0).toNat 0) (k + 1)
    rw [show q.shape.getD (p.getD k 0).toNat 0 = q.shape.getD d 0 by rw [hd]; rfl] at hts
    generalize tabI (fun i => q.shape.getD (p.getD i 0).toNat 0) k = z at *
    (refine Zo ?_;repeat' ((with_reducible first|refine Zk ?_|(first|apply Za|apply Zb|apply Zc|apply Zd)<;>intro h)<;>try simp -implicitDefEqProofs (maxSteps:=9^7) (disch:=first|omega|(simp only [lens];omega)) only [go_sem, h0, h2, hd, hlv]))
    refine app_int (xs := z) (by rw [htl]; exact hu) rfl ⟨by decide, by decide⟩ (by omega) fun v' H' hu' hF => ?_
    have d0 := Xcz hu hF h0 (by decide)
    have d1 := Xcz hu hF h1 (by decide)
    have d2 := Xcz hu hF h2 (by decide)
    have hk' : kn v' = true ∧ cellsOf v' = [v'] ∧ scal v' = true := by rcases hu' with ⟨rfl, _⟩ | ⟨r, rfl, _⟩ <;> exact ⟨rfl, rfl, rfl⟩
    obtain ⟨k1, k2, k3⟩ := hk'
    (refine Zo ?_;repeat' ((with_reducible first|refine Zk ?_|(first|apply Za|apply Zb|apply Zc|apply Zd)<;>intro h)<;>try simp -implicitDefEqProofs (maxSteps:=9^7) (disch:=first|omega|(simp only [lens];omega)) only [go_sem, d2, k1, k2, k3]))
    have hst2 : ∀ z : Row, Qbz (H'.set 2 (some z)) 2 = some z := fun z => Qez d2
    rw [← hts, hts'] at hu'
    exact ⟨p.length - (k + 1), by omega, k + 1, v', by omega, rfl, by rw [Qcz _ (by decide)]; exact d0, by rw [Qcz _ (by decide)]; exact d1, hst2 _, X7z hu' d2 (by decide), (by (repeat' apply And.intro) <;> (first | rfl | omega | (congr 1; omega) | assumption | (congr 1; assumption)))⟩
   ·have hks : k = p.length := by omega
    subst hks
    change Bv.Own _ _ _ _ _ (ints (Q5z p q.shape)) at hu
    obtain ⟨n1, n2, n3⟩ := QJz hmS
    have hix : ∀ i : Nat, i < q.el.length → _ := fun i hi => Qmfz (Q5z p q.shape) (i : Nat) (by omega) n2 (by omega) (by omega) (by omega)
    have hx : ∀ (i : Nat) j, 0 ≤ (idxL (Q5z p q.shape) (i : Nat)).getD j 0 ∧ (idxL (Q5z p q.shape) (i : Nat)).getD j 0 ≤ 1024 := fun i j => by
     by_cases hj : j < (Q5z p q.shape).length
     ·have h3 := Qmgz n2 (i : Nat) j hj
      have h4 := QCz n2 hj
      omega
     ·have : (idxL (Q5z p q.shape) (i : Nat)).getD j 0 = 0 := by simp [List.getD, idxL, hj]
      omega
    generalize hSS : Q5z p q.shape = S at *
    (refine Zo ?_;repeat' ((with_reducible first|refine Zk ?_|(first|apply Za|apply Zb|apply Zc|apply Zd)<;>intro h)<;>try simp -implicitDefEqProofs (maxSteps:=9^7) (disch:=first|omega|(simp only [lens];omega)) only [go_sem, h0]))
    refine Qdz (fun n ts H => ∃ (i : Nat) (w : V), (i ≤ q.el.length) ∧ (n = q.el.length - i) ∧ (Qbz H 0 = some ⟨34, 2, [.sl q.shape.length (ints q.shape), .sl q.el.length (Xlz q.el)]⟩) ∧ (Qbz H 1 = some ⟨34, 2, [.nil, .nil]⟩) ∧ (Qbz H 2 = some ⟨34, 2, [u, w]⟩) ∧ (Bv.Own 3 1 H u p.length (ints S)) ∧ (Bv.Own 72 3 H w i (Xlz (elsQ q S (fun x => putP p x p.length) i))) ∧ ts.length = 78 ∧ nth ts 1 = .sl p.length (ints p) ∧ nth ts 2 = .ptr 0 0 ∧ nth ts 4 = .ptr 1 0 ∧ nth ts 6 = .ptr 2 0 ∧ nth ts 8 = .int .i64 (i : Nat)) ?_ (n := q.el.length) ?_
    ·skip
     rintro n ts H ⟨i, w, hi, hn, h0, h1, h2, hu, hw, hL, hs1, hs2, hs4, hs6, hs8⟩
     refine Qnz [(1, .sl p.length (ints p)), (2, .ptr 0 0), (4, .ptr 1 0), (6, .ptr 2 0), (8, .int .i64 (i : Nat))] hL (by simp only [zFm, hs1, hs2, hs4, hs6, hs8, true_and]; exact zNm) ?_
     clear hL hs1 hs2 hs4 hs6 hs8 ts
     refine Qrz Qfz ?_
     by_cases hcase : i < q.el.length
     ·skip
      (refine Zo ?_;repeat' ((with_reducible first|refine Zk ?_|(first|apply Za|apply Zb|apply Zc|apply Zd)<;>intro h)<;>try simp -implicitDefEqProofs (maxSteps:=9^7) (disch:=first|omega|(simp only [lens];omega)) only [go_sem, h0, h2]))
      have hu2 : Bv.Own 3 1 H u S.length (ints S) := by rw [hSl]; exact hu
      refine Fc.rowc (hix i hcase) ⟨hu2.bor' (Qaz _), .self rfl, trivial⟩ (fun g => Qqz g _) (QIz _) ?_
      obtain ⟨r, hr0⟩ : ∃ r, H.length = r := ⟨_, rfl⟩
      have hr3 : 2 < r := by rw [← hr0]; exact Qsz h2
      have hul : ∀ r' off m, u = .ref r' off m → r' < r := fun r' off m e => by
       rcases hu with ⟨rfl, _⟩ | ⟨q', rfl, hq', _⟩
       ·cases e
       ·injection e with e; subst e; rw [← hr0]; exact Qsz hq'
      have hxi := hx i
      have hlx : (idxL S (i : Nat)).length = p.length := by rw [Z8z, hSl]
      rw [hr0]
      generalize hxe : idxL S (i : Nat) = x at *
      (refine Zo ?_;repeat' ((with_reducible first|refine Zk ?_|(first|apply Za|apply Zb|apply Zc|apply Zd)<;>intro h)<;>try simp -implicitDefEqProofs (maxSteps:=9^7) (disch:=first|omega|(simp only [lens];omega)) only [go_sem]))
      refine Ypz rfl rfl rfl rfl (by simp [t3bytes]) (by omega) ?_
      have hl1 : (H ++ [some (⟨3, 1, ints x⟩ : Row)]).length = r + 1 := by simp [hr0]
      have br : Qbz (H ++ [some (⟨3, 1, ints x⟩ : Row)]) r = some ⟨3, 1, ints x⟩ := by rw [← hr0]; exact QGz _ _
      have c0 := Qgz (Qgz h0 [some ⟨3, 1, ints x⟩]) [some ⟨3, 1, nats .i64 (List.replicate S.length 0)⟩]
      have c1 := Qgz (Qgz h1 [some ⟨3, 1, ints x⟩]) [some ⟨3, 1, nats .i64 (List.replicate S.length 0)⟩]
      have c2 := Qgz (Qgz h2 [some ⟨3, 1, ints x⟩]) [some ⟨3, 1, nats .i64 (List.replicate S.length 0)⟩]
      have cr := Qgz br [some ⟨3, 1, nats .i64 (List.replicate S.length 0)⟩]
      have cf := QGz (H ++ [some (⟨3, 1, ints x⟩ : Row)]) ⟨3, 1, nats .i64 (List.replicate S.length 0)⟩
      have cu := (hu.keep [some ⟨3, 1, ints x⟩]).keep [some ⟨3, 1, nats .i64 (List.replicate S.length 0)⟩]
      have cw := (hw.keep [some ⟨3, 1, ints x⟩]).keep [some ⟨3, 1, nats .i64 (List.replicate S.length 0)⟩]
      rw [hl1] at cf ⊢
      generalize (H ++ [some (⟨3, 1, ints x⟩ : Row)]) ++ [some (⟨3, 1, nats .i64 (List.replicate S.length 0)⟩ : Row)] = H5 at *
      subst hn
      (refine Zo ?_;repeat' ((with_reducible first|refine Zk ?_|(first|apply Za|apply Zb|apply Zc|apply Zd)<;>intro h)<;>try simp -implicitDefEqProofs (maxSteps:=9^7) (disch:=first|omega|(simp only [lens];omega)) only [go_sem]))
      refine Qdz (fun n ts H => ∃ (k : Nat), (k ≤ p.length) ∧ (n = p.length - k) ∧ (Qbz H 0 = some ⟨34, 2, [.sl q.shape.length (ints q.shape), .sl q.el.length (Xlz q.el)]⟩) ∧ (Qbz H 1 = some ⟨34, 2, [.nil, .nil]⟩) ∧ (Qbz H 2 = some ⟨34, 2, [u, w]⟩) ∧ (Bv.Own 3 1 H u p.length (ints S)) ∧ (Bv.Own 72 3 H w i (Xlz (elsQ q S (fun x => putP p x p.length) i))) ∧ (Qbz H r = some ⟨3, 1, ints x⟩) ∧ (Qbz H (r + 1) = some ⟨3, 1, ints (putP p x k)⟩) ∧ ts.length = 78 ∧ nth ts 1 = .sl p.length (ints p) ∧ nth ts 2 = .ptr 0 0 ∧ nth ts 4 = .ptr 1 0 ∧ nth ts 6 = .ptr 2 0 ∧ nth ts 8 = .int .i64 (i : Nat) ∧ nth ts 9 = .ref r 0 S.length ∧ nth ts 10 = .ref (r + 1) 0 S.length ∧ nth ts 11 = .int .i64 (k : Nat)) ?_ (n := p.length) ?_
      ·skip
       rintro n ts H ⟨k, hk, hn, h0, h1, h2, hu, hw, hr, hf, hL, hs1, hs2, hs4, hs6, hs8, hs9, hs10, hs11⟩
       refine Qnz [(1, .sl p.length (ints p)), (2, .ptr 0 0), (4, .ptr 1 0), (6, .ptr 2 0), (8, .int .i64 (i : Nat)), (9, .ref r 0 S.length), (10, .ref (r + 1) 0 S.length), (11, .int .i64 (k : Nat))] hL (by simp only [zFm, hs1, hs2, hs4, hs6, hs8, hs9, hs10, hs11, true_and]; exact zNm) ?_
       clear hL hs1 hs2 hs4 hs6 hs8 hs9 hs10 hs11 ts
       have hpl' := Zuz p x k
       by_cases hkl : k < p.length
       ·refine Qrz Qfz ?_
        obtain ⟨b1, b2⟩ := hin k hkl
        obtain ⟨d, hd⟩ : ∃ d : Nat, p.getD k 0 = d := ⟨(p.getD k 0).toNat, by omega⟩
        have hst : (putP p x k).set d (x.getD k 0) = putP p x (k + 1) := by rw [putP, hd]; rfl
        (refine Zo ?_;repeat' ((with_reducible first|refine Zk ?_|(first|apply Za|apply Zb|apply Zc|apply Zd)<;>intro h)<;>try simp -implicitDefEqProofs (maxSteps:=9^7) (disch:=first|omega|(simp only [lens];omega)) only [go_sem, hd, hr, hf, Qyz, hst]))
        exact ⟨p.length - (k + 1), by omega, k + 1, by omega, rfl, by rw [Qcz _ (by omega)]; exact h0, by rw [Qcz _ (by omega)]; exact h1, by rw [Qcz _ (by omega)]; exact h2, own_far hu fun r' off m e => by have := hul r' off m e; omega, X7z hw hf (by decide), by rw [Qcz _ (by omega)]; exact hr, Qez hf, (by (repeat' apply And.intro) <;> (first | rfl | omega | (congr 1; omega) | assumption | (congr 1; assumption)))⟩
       ·have hks : k = p.length := by omega
        subst hks
        refine TT_seal hf (Qaz _) ?_
        rw [szL_env]
        have n0 : ¬ 0 = r + 1 := by omega
        have n1 : ¬ 1 = r + 1 := by omega
        have n2 : ¬ 2 = r + 1 := by omega
        have nr : ¬ r = r + 1 := by omega
        simp only [List.map_cons, List.map_nil, sz, Q9z _ _ _ (Qaz _), n0, n1, n2, nr, if_true, if_false, List.drop_zero]
        refine Qrz Qfz ?_
        have g0 : Qbz (H.set (r + 1) none) 0 = _ := (Qcz _ (by omega)).trans h0
        have g1 : Qbz (H.set (r + 1) none) 1 = _ := (Qcz _ (by omega)).trans h1
        have g2 : Qbz (H.set (r + 1) none) 2 = _ := (Qcz _ (by omega)).trans h2
        have hu' := own_far (z := none) hu (q := r + 1) fun r' off m e => by have := hul r' off m e; omega
        have hw' := X7z (z := none) hw hf (by decide)
        generalize H.set (r + 1) none = H at *
        have hlw := hw'.lenw (C.ty 32)
        (refine Zo ?_;repeat' ((with_reducible first|refine Zk ?_|(first|apply Za|apply Zb|apply Zc|apply Zd)<;>intro h)<;>try simp -implicitDefEqProofs (maxSteps:=9^7) (disch:=first|omega|(simp only [lens];omega)) only [go_sem, g0, g2]))
        have hat := at09_spec q hq.ok hq.m hel (putP p x p.length) (by omega) fun j hj => by
         have := putP_nn p x hxi p.length j
         omega
        rw [show (putP p x p.length).length = S.length by omega] at hat
        refine Pc.pure hat (by simp [cloL, clo, Qaz, YJz]) (fun g => Zaz g _ (X0z _)) ?_
        (refine Zo ?_;repeat' ((with_reducible first|refine Zk ?_|(first|apply Za|apply Zb|apply Zc|apply Zd)<;>intro h)<;>try simp -implicitDefEqProofs (maxSteps:=9^7) (disch:=first|omega|(simp only [lens];omega)) only [go_sem, g0, g2, hlw]))
        refine push_ref hw' rfl rfl (by omega) fun w' H6 hw6 hF hkw => ?_
        obtain ⟨kw1, kw2, kw3⟩ := hkw
        have f0 := Xcz hw' hF g0 (by decide)
        have f1 := Xcz hw' hF g1 (by decide)
        have f2 := Xcz hw' hF g2 (by decide)
        have fu : Bv.Own 3 1 H6 u p.length (ints S) := by
         rcases hu' with ⟨rfl, e1, e2⟩ | ⟨r', rfl, hr', hl'⟩
         ·exact .inl ⟨rfl, e1, e2⟩
         ·exact .inr ⟨r', rfl, Xcz hw' hF hr' (by decide), hl'⟩
        (refine Zo ?_;repeat' ((with_reducible first|refine Zk ?_|(first|apply Za|apply Zb|apply Zc|apply Zd)<;>intro h)<;>try simp -implicitDefEqProofs (maxSteps:=9^7) (disch:=first|omega|(simp only [lens];omega)) only [go_sem, f2, kw1, kw2, kw3]))
        rw [show elsQ q S (fun x => putP p x p.length) i ++ [atQ q (putP p x p.length)] = elsQ q S (fun x => putP p x p.length) (i + 1) by rw [elsQ_succ, hxe]] at hw6
        exact ⟨q.el.length - (i + 1), by omega, i + 1, w', by omega, rfl, by rw [Qcz _ (by decide)]; exact f0, by rw [Qcz _ (by decide)]; exact f1, Qez f2, X7z fu f2 (by decide), X7z hw6 f2 (by decide), (by (repeat' apply And.intro) <;> (first | rfl | omega | (congr 1; omega) | assumption | (congr 1; assumption)))⟩
      ·exact ⟨0, by omega, rfl, c0, c1, c2, cu, cw, cr, by rw [putP, ← hSl, ← Zlz]; exact cf, rfl, rfl, rfl, rfl, rfl, rfl, rfl, rfl, rfl⟩
     ·have hiN : i = q.el.length := by omega
      subst hiN
      obtain ⟨a1, a2, a3⟩ : kn w = true ∧ cellsOf w = [w] ∧ scal w = true := by rcases hw with ⟨rfl, _⟩ | ⟨r, rfl, _⟩ <;> exact ⟨rfl, rfl, rfl⟩
      obtain ⟨b1, b2, b3⟩ : kn u = true ∧ cellsOf u = [u] ∧ scal u = true := by rcases hu with ⟨rfl, _⟩ | ⟨r, rfl, _⟩ <;> exact ⟨rfl, rfl, rfl⟩
      have hst : ∀ z : Row, Qbz (H.set 1 (some z)) 1 = some z := fun z => Qez h1
      (refine Zo ?_;repeat' ((with_reducible first|refine Zk ?_|(first|apply Za|apply Zb|apply Zc|apply Zd)<;>intro h)<;>try simp -implicitDefEqProofs (maxSteps:=9^7) (disch:=first|omega|(simp only [lens];omega)) only [go_sem, h0, h2, h1, hst, a1, a2, a3, b1, b2, b3]))
      have hsl := Qolz q S (fun x => putP p x p.length) q.el.length
      have hu2 : Bv.Own 3 1 H u S.length (ints S) := by rw [hSl]; exact hu
      have eu := (X7z (z := some ⟨34, 2, [u, w]⟩) hu2 h1 (by decide)).bor' (Qaz _)
      have ew := (X7z (z := some ⟨34, 2, [u, w]⟩) hw h1 (by decide)).bor' (YJz _)
      refine Bor.tupL ⟨Bor.aggL ⟨eu, ?_, trivial⟩, .self rfl, trivial⟩
      show Bor _ w (.sl (elsQ q S (fun x => putP p x p.length) q.el.length).length (Xlz (elsQ q S (fun x => putP p x p.length) q.el.length)))
      rw [hsl]; exact ew
    ·exact ⟨0, .nil, by omega, rfl, h0, h1, h2, hu, Bv.Own.nil _ _ _, rfl, rfl, rfl, rfl, rfl, rfl⟩
  ·exact ⟨0, .nil, by omega, rfl, rfl, rfl, rfl, Bv.Own.nil _ _ _, rfl, rfl, rfl, rfl, rfl, rfl⟩
end Go.Proofs.YtjdbdmhjakfldaaGreat
end
section
namespace Go.Proofs.YtjdbdmhjakfldaaGreat
open Go.Bv
theorem Qbpz (t : Tn) (ht : TnOK t) (p : List Int) (hp : p.length ≤ 1048576) : Val C 13 [tnV t, .sl p.length (ints p)] (.tup [tnV (Y5z t p), .int .i64 (Xiz t p)]) :=
 Qhsz Ysz t ht p hp fun h => Qksz p t.shape.length (by omega) hp
theorem Qcrz {t : Tn} {p : List Int} (h : Xiz t p = 0) : mayT t = 0 ∧ XGz p = true ∧ p.length = t.shape.length := by
 rw [Xiz] at h
 split at h
 ·contradiction
 split at h
 ·cases h
 rename_i h1 h2
 have h2 : (XGz p && decide (p.length = t.shape.length)) = true := by simpa using h2
 rw [Bool.and_eq_true, decide_eq_true_eq] at h2
 exact ⟨by omega, h2⟩
theorem Qboz (t : Tn) (p : List Int) : isB (Y5z t p) (Xiz t p) t (trQ (ofT t) p) (trF (ofT t) p) = true := by
 refine isB_ok (fun h => by rw [Xiz, if_pos h]) (fun h => ?_) (fun h he => ?_)
 ·have e1 : ofT t = tnOf t := if_neg (by omega)
  rw [e1, Xiz, if_neg (by omega)]
  rfl
 ·have e1 : ofT t = tnOf t := if_neg (by omega)
  rw [e1]
  obtain ⟨h1, h2, h3⟩ := Qcrz he
  exact mv_isT h (Q5z p t.shape) (fun x => putP p x p.length) fun i => by rw [Zuz]; exact h3
theorem Qhtz (t : Tn) (p : List Int) : -1000000 ≤ Xiz t p ∧ Xiz t p ≤ 1000000 := by
 have h1 := Qqiz t
 unfold Xiz
 split <;> (try split) <;> omega
theorem transT_ok {t : Tn} (ht : TnOK t) {p : List Int} (hp : p.length ≤ 1048576) : TnOK (Y5z t p) := errT_TnOK fun h => by
 obtain ⟨h1, h2, h3⟩ := Qcrz h
 have := Xpz (fun i => t.shape.getD (p.getD i 0).toNat 0) p.length
 exact mvT_ok ht h1 (by rw [Q5z, this]; omega) (Ysz _ (Xmz h1).2.1 p h2 h3) _
theorem trQ_ok {q : Tq} (hq : FitQ q) {p : List Int} (hp : p.length ≤ 1048576) : TqOK (trQ q p) := errQ_TqOK fun h => by
 have hb : (XGz p && decide (p.length = q.shape.length)) = true := by
  cases hb : (XGz p && decide (p.length = q.shape.length)) with
  | true => rfl
  | false => rw [trF, if_pos hb] at h; cases h
 rw [Bool.and_eq_true, decide_eq_true_eq] at hb
 obtain ⟨m1, m2, m3⟩ := QJz (Ysz q.shape hq.m p hb.1 hb.2)
 exact elsQ_ok hq.ok (by omega) (by omega)
theorem Qakz (t : Tn) (ht : TnOK t) (s : List Int) (hs : s.length ≤ 1048576) : Pu C 3 [tnV t, .sl s.length (ints s)] (.bool true) := by
 have hE : -1000000 ≤ Xiz t s ∧ Xiz t s ≤ 1000000 := Qhtz t s
 have hT : TnOK (Y5z t s) := transT_ok ht hs
 have hQ : TqOK (trQ (ofT t) s) := trQ_ok (ofT_fit ht) hs
 have hi := is09_spec (Y5z t s) hT (Xiz t s) hE t ht (trQ (ofT t) s) hQ (trF (ofT t) s)
 rw [Qboz] at hi
 have hw : Val C 15 [.sl s.length (ints s)] (.sl s.length (ints s)) := Val.ofRet (Qpsz s (by omega)) (Qaz _) (QIz _)
 have h1 := Qbpz t ht s hs
 have h2 := Qhuz (ofT t) (ofT_fit ht) s hs
 generalize Y5z t s = T at *
 generalize Xiz t s = e at *
 generalize trQ (ofT t) s = Q at *
 generalize trF (ofT t) s = f at *
 refine Fc.keep (Fc.bodyT Qfz Tryz.func3 w3 rfl Tryz.ntmps3 Tryz.results3 (zLe rfl) ?_)
 (refine Zo ?_;repeat' ((with_reducible first|refine Zk ?_|(first|apply Za|apply Zb|apply Zc|apply Zd)<;>intro h)<;>try simp -implicitDefEqProofs (maxSteps:=9^7) (disch:=first|omega|(simp only [lens];omega)) only [go_sem]))
 refine (Qptz t ht).call ⟨.self (QZz _), trivial⟩ (QZz _) ?_
 (refine Zo ?_;repeat' ((with_reducible first|refine Zk ?_|(first|apply Za|apply Zb|apply Zc|apply Zd)<;>intro h)<;>try simp -implicitDefEqProofs (maxSteps:=9^7) (disch:=first|omega|(simp only [lens];omega)) only [go_sem]))
 refine hw.call ⟨.self (by simp [clo, Qaz]), trivial⟩ (by simp [clo, Qaz]) ?_
 (refine Zo ?_;repeat' ((with_reducible first|refine Zk ?_|(first|apply Za|apply Zb|apply Zc|apply Zd)<;>intro h)<;>try simp -implicitDefEqProofs (maxSteps:=9^7) (disch:=first|omega|(simp only [lens];omega)) only [go_sem]))
 refine h1.call ⟨.self (QZz _), .self (by simp [clo, Qaz]), trivial⟩ (by simp [clo, cloL, QZz]) ?_
 (refine Zo ?_;repeat' ((with_reducible first|refine Zk ?_|(first|apply Za|apply Zb|apply Zc|apply Zd)<;>intro h)<;>try simp -implicitDefEqProofs (maxSteps:=9^7) (disch:=first|omega|(simp only [lens];omega)) only [go_sem]))
 refine (of09_val t ht).call ⟨.self (QZz _), trivial⟩ (clo_tqV _) ?_
 (refine Zo ?_;repeat' ((with_reducible first|refine Zk ?_|(first|apply Za|apply Zb|apply Zc|apply Zd)<;>intro h)<;>try simp -implicitDefEqProofs (maxSteps:=9^7) (disch:=first|omega|(simp only [lens];omega)) only [go_sem]))
 refine Fc.pure h2 (by simp [cloL, clo, Qaz, YJz]) (fun g => Zaz _ _ (clo_ans _ _)) ?_
 (refine Zo ?_;repeat' ((with_reducible first|refine Zk ?_|(first|apply Za|apply Zb|apply Zc|apply Zd)<;>intro h)<;>try simp -implicitDefEqProofs (maxSteps:=9^7) (disch:=first|omega|(simp only [lens];omega)) only [go_sem]))
 refine Fc.pure hi (by simp [cloL, clo, Qaz, YJz, Qlz]) (fun g => rfl) ?_
 (refine Zo ?_;repeat' ((with_reducible first|refine Zk ?_|(first|apply Za|apply Zb|apply Zc|apply Zd)<;>intro h)<;>try simp -implicitDefEqProofs (maxSteps:=9^7) (disch:=first|omega|(simp only [lens];omega)) only [go_sem]))
 refine Fc.pure Qqrz rfl (fun g => rfl) ?_
 (refine Zo ?_;repeat' ((with_reducible first|refine Zk ?_|(first|apply Za|apply Zb|apply Zc|apply Zd)<;>intro h)<;>try simp -implicitDefEqProofs (maxSteps:=9^7) (disch:=first|omega|(simp only [lens];omega)) only [go_sem]))
 (refine Qmz (by intro g; simp only [go_sem, ren, renL]) ?_)
 rfl
end Go.Proofs.YtjdbdmhjakfldaaGreat
end
section
namespace Go.Proofs.YtjdbdmhjakfldaaGreat
open Go.Bv
theorem a_own : ownKnob Tryz.prog.godebug = none := by kernel_rfl
theorem a_laid : laidOutB Tryz.prog = true := by kernel_rfl
theorem rd_ints {t : Nat} (hu : Tryz.prog.underlying t = some (.slice 3)) : U.Reads Tryz.prog t fun vs => ∃ xs : List Int, vs = [.sl xs.length (ints xs)] ∧ xs.length ≤ 1048576 ∧ ∀ x ∈ xs, (Lit.int .i64 x).wf = true := U.Reads.ints hu Tryz.underlying3 (by kernel_rfl)
theorem rd_u32 : U.Reads Tryz.prog 59 fun vs => ∃ n : Nat, vs = [V.int .u32 (n : Nat)] ∧ n < 4294967296 := U.Reads.mono (U.Reads.int Tryz.underlying59) fun vs ⟨n, h, hw⟩ => by
 have hx : 0 ≤ n ∧ n ≤ 4294967295 := by simpa [Lit.wf, IntKind.min, IntKind.max, IntKind.signed, IntKind.bits] using hw
 exact ⟨n.toNat, by rw [h]; congr 2; omega, by omega⟩
theorem rd_nat : U.Reads Tryz.prog 56 fun vs => ∃ l : List Nat, vs = [NA l] ∧ l.length ≤ 1048576 ∧ Lim l :=
 U.Reads.mono (U.Reads.slice1 (g := fun n : Nat => .int .u32 (n : Nat)) Tryz.underlying56 (by kernel_rfl) rd_u32) fun vs ⟨xs, h1, h2, h3⟩ => ⟨xs, h1, h2, h3⟩
theorem rd_rat : U.Reads Tryz.prog 58 fun vs => ∃ x : Raw, vs = [.bool x.neg, NA x.num, NA x.den] ∧ RawOK x := by
 refine U.Reads.mono (U.Reads.struct (Qs := fun i vs => if i = 0 then ∃ b, vs = [V.bool b] else ∃ l : List Nat, vs = [NA l] ∧ l.length ≤ 1048576 ∧ Lim l) a_laid (of_decide_eq_true (by kernel_rfl)) Tryz.underlying58 ?_) ?_
 ·intro i f hf
  match i, hf with
  | 0, hf => cases hf; exact U.Reads.mono (U.Reads.bool Tryz.underlying4) fun vs h => by rw [if_pos rfl]; exact h
  | 1, hf => cases hf; exact U.Reads.mono rd_nat fun vs h => by rw [if_neg (by decide)]; exact h
  | 2, hf => cases hf; exact U.Reads.mono rd_nat fun vs h => by rw [if_neg (by decide)]; exact h
  | i + 3, hf => cases hf
 ·rintro u ⟨l, hl, hq, rfl⟩
  match l, hl with
  | [a, b, c], _ =>
   have h0 := hq 0 (by decide)
   have h1 := hq 1 (by decide)
   have h2 := hq 2 (by decide)
   obtain ⟨n, rfl⟩ := h0
   obtain ⟨xs, rfl, hx, hx2⟩ := h1
   obtain ⟨ys, rfl, hy, hy2⟩ := h2
   exact ⟨⟨n, xs, ys⟩, rfl, by show xs.length ≤ _; omega, by show ys.length ≤ _; omega, hx2, hy2⟩
theorem raws_of : ∀ {l : List (List V)}, (∀ x ∈ l, ∃ r : Raw, x = [.bool r.neg, NA r.num, NA r.den] ∧ RawOK r) → ∃ xs : List Raw, xs.length = l.length ∧ l.flatten = Qwz xs ∧ ∀ x ∈ xs, RawOK x
 | [], _ => ⟨[], rfl, rfl, by simp⟩
 | x :: l, h => by
  obtain ⟨a, rfl, ha⟩ := h x (by simp)
  obtain ⟨xs, h1, h2, h3⟩ := raws_of (l := l) fun y hy => h y (by simp [hy])
  exact ⟨a :: xs, by simp [h1], by rw [List.flatten_cons, h2]; rfl, fun b hb => by
   rcases List.mem_cons.1 hb with rfl | hb
   ·exact ha
   ·exact h3 b hb⟩
theorem rd_rats : U.Reads Tryz.prog 24 fun vs => ∃ xs : List Raw, vs = [.sl xs.length (Qwz xs)] ∧ xs.length ≤ 1048576 ∧ ∀ x ∈ xs, RawOK x :=
 U.Reads.mono (U.Reads.slice (s := 3) Tryz.underlying24 (by kernel_rfl) (by decide) rd_rat) fun vs ⟨l, h1, h2, h3⟩ => by
  obtain ⟨xs, q1, q2, q3⟩ := raws_of h1
  exact ⟨xs, by rw [h3, q1, q2], by omega, q3⟩
theorem rd_tensor : U.Reads Tryz.prog 26 fun vs => ∃ t : Tn, vs = [.sl t.shape.length (ints t.shape), .sl t.el.length (Qwz t.el)] ∧ TnOK t := by
 refine U.Reads.mono (U.Reads.struct (Qs := fun i vs => if i = 0 then ∃ xs : List Int, vs = [.sl xs.length (ints xs)] ∧ xs.length ≤ 1048576 ∧ ∀ x ∈ xs, (Lit.int .i64 x).wf = true else ∃ xs : List Raw, vs = [.sl xs.length (Qwz xs)] ∧ xs.length ≤ 1048576 ∧ ∀ x ∈ xs, RawOK x) a_laid (of_decide_eq_true (by kernel_rfl)) Tryz.underlying26 ?_) ?_
 ·intro i f hf
  match i, hf with
  | 0, hf => cases hf; exact U.Reads.mono (rd_ints Tryz.underlying23) fun vs h => by rw [if_pos rfl]; exact h
  | 1, hf => cases hf; exact U.Reads.mono rd_rats fun vs h => by rw [if_neg (by decide)]; exact h
  | i + 2, hf => cases hf
 ·rintro u ⟨l, hl, hq, rfl⟩
  match l, hl with
  | [a, b], _ =>
   have h0 := hq 0 (by decide)
   have h1 := hq 1 (by decide)
   obtain ⟨xs, rfl, hx, _⟩ := h0
   obtain ⟨ys, rfl, hy, hy2⟩ := h1
   exact ⟨⟨xs, ys⟩, rfl, by show xs.length ≤ _; omega, by show ys.length ≤ _; omega, hy2⟩
theorem arg_tensor : U.ArgV Tryz.prog 26 fun u => ∃ t : Tn, u = tnV t ∧ TnOK t :=
 U.ArgV.mono (U.ArgV.struct rd_tensor Tryz.underlying26) fun u ⟨vs, h1, t, h2, h3⟩ => ⟨t, by rw [h1, h2]; rfl, h3⟩
theorem arg_ints {t : Nat} (hu : Tryz.prog.underlying t = some (.slice 3)) : U.ArgV Tryz.prog t fun u => ∃ xs : List Int, u = .sl xs.length (ints xs) ∧ xs.length ≤ 1048576 ∧ ∀ x ∈ xs, (Lit.int .i64 x).wf = true :=
 U.ArgV.mono (U.ArgV.one (rd_ints hu) (by rw [hu])) fun u ⟨xs, h, h1, h2⟩ => ⟨xs, by simpa using h, h1, h2⟩
theorem args_ts {t : Nat} (hu : Tryz.prog.underlying t = some (.slice 3)) : U.ArgsV Tryz.prog [26, t] fun us => ∃ (x : Tn) (s : List Int), us = [tnV x, .sl s.length (ints s)] ∧ TnOK x ∧ s.length ≤ 1048576 ∧ ∀ x ∈ s, (Lit.int .i64 x).wf = true := by
 refine U.ArgsV.mono (U.ArgsV.cons arg_tensor (U.ArgsV.cons (arg_ints hu) U.ArgsV.nil)) ?_
 rintro us ⟨_, _, rfl, ⟨x, rfl, h1⟩, _, _, rfl, ⟨s, rfl, h2, h3⟩, rfl⟩
 exact ⟨x, s, rfl, h1, h2, h3⟩
end Go.Proofs.YtjdbdmhjakfldaaGreat
end
