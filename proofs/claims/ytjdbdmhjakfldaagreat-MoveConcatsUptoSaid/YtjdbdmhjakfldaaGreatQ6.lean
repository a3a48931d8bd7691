/-
  Parts Cat2, Rf5, Lw5, Lw6, Lw7, RowU, RowT, one behind the other: a program logic of our own, contracts of functions.
-/
import Derived.Test.YtjdbdmhjakfldaaGreatQ5

set_option linter.unusedVariables false
set_option linter.unusedSimpArgs false
set_option maxRecDepth 100000
set_option maxHeartbeats 8000000
section
namespace Go.Proofs.YtjdbdmhjakfldaaGreat
open Go.Bv
def firstM : List Tn → Int
 | [] => 0
 | t :: tl => if mayT t ≠ 0 then mayT t else firstM tl
theorem firstM_at {tl : List Tn} {k : Nat} (hk : k < tl.length) (h : ∀ j, j < k → mayT (tl.getD j t0n) = 0) (hm : mayT (tl.getD k t0n) ≠ 0) : firstM tl = mayT (tl.getD k t0n) := by
 induction tl generalizing k with
 | nil => simp at hk
 | cons t tl ih =>
  cases k with
  | zero =>
   have e : (t :: tl).getD 0 t0n = t := rfl
   rw [e] at hm ⊢
   rw [firstM, if_pos hm]
  | succ k =>
   have e : (t :: tl).getD (k + 1) t0n = tl.getD k t0n := by simp
   have h0 := h 0 (by omega)
   have e0 : (t :: tl).getD 0 t0n = t := rfl
   rw [e0] at h0
   rw [e] at hm ⊢
   rw [firstM, if_neg (by omega)]
   exact ih (by simpa using hk) (fun j hj => by have := h (j + 1) (by omega); simpa using this) hm
theorem firstM_zero {tl : List Tn} : firstM tl = 0 ↔ ∀ j, j < tl.length → mayT (tl.getD j t0n) = 0 := by
 induction tl with
 | nil => simp [firstM]
 | cons t tl ih =>
  rw [firstM]
  by_cases hm : mayT t ≠ 0
  ·rw [if_pos hm]
   exact ⟨fun h => absurd h hm, fun h => by have := h 0 (by simp); simpa using this⟩
  ·rw [if_neg hm, ih]
   constructor
   ·intro h j hj
    cases j with
    | zero => simpa using (by omega : mayT t = 0)
    | succ j => have := h j (by simpa using hj); simpa using this
   ·intro h j hj
    have := h (j + 1) (by simpa using hj); simpa using this
def sumK (tl : List Tn) (a : Nat) : Nat → Int
 | 0 => 0
 | k + 1 => sumK tl a k + (tl.getD k t0n).shape.getD a 0
def catS (tl : List Tn) (a : Nat) (k : Nat) : List Int := ((tl.getD 0 t0n).shape).set a (sumK tl a k)
def fitA (tl : List Tn) (a : Nat) (k : Nat) : Bool := decide ((tl.getD k t0n).shape.length = (tl.getD 0 t0n).shape.length) && (List.range (tl.getD 0 t0n).shape.length).all fun i => decide (i ≠ a → (tl.getD k t0n).shape.getD i 0 = (tl.getD 0 t0n).shape.getD i 0)
def catE (tl : List Tn) (axis : Int) : Int :=
 if tl.length = 0 then 2 else if firstM tl ≠ 0 then firstM tl
 else if ¬ (0 ≤ axis ∧ axis < (tl.getD 0 t0n).shape.length) then 11
 else if ¬ (∀ k, k < tl.length → fitA tl axis.toNat k = true) then 13
 else if ¬ (∀ k, k < tl.length → mayP (catS tl axis.toNat (k + 1)) = 0) then 14 else 0
def catL (tl : List Tn) (a : Nat) (S : List Int) (N : Nat) : List Raw := gatL N r0 (fun i => (catR tl a (idxL S (i : Nat))).1) (fun i => (catR tl a (idxL S (i : Nat))).2)
def catT (tl : List Tn) (axis : Int) : Tn := errT (normT ⟨catS tl axis.toNat tl.length, catL tl axis.toNat (catS tl axis.toNat tl.length) (prodL (catS tl axis.toNat tl.length)).toNat⟩) (catE tl axis)
theorem sumK_le {tl : List Tn} {a : Nat} (h : ∀ j, j < tl.length → 1 ≤ (tl.getD j t0n).shape.getD a 0 ∧ (tl.getD j t0n).shape.getD a 0 ≤ 1024) : ∀ k : Nat, k ≤ tl.length → (k : Int) ≤ sumK tl a k ∧ sumK tl a k ≤ 1024 * k
 | 0, _ => by simp [sumK]
 | k + 1, hk => by
  have ih := sumK_le h k (by omega)
  have := h k (by omega)
  rw [sumK]; omega
theorem catS_len (tl : List Tn) (a k : Nat) : (catS tl a k).length = (tl.getD 0 t0n).shape.length := by simp [catS]
theorem catS_next (tl : List Tn) (a k : Nat) : (catS tl a k).set a (sumK tl a k + (tl.getD k t0n).shape.getD a 0) = catS tl a (k + 1) := by rw [catS, catS, List.set_set, sumK]
theorem catS_get {tl : List Tn} {a : Nat} (h : a < (tl.getD 0 t0n).shape.length) (k : Nat) : (catS tl a k).getD a 0 = sumK tl a k := by
 rw [catS]
 generalize (tl.getD 0 t0n).shape = S at *
 simp [List.getD, h]
theorem catR_ok : ∀ (tl : List Tn) (a : Nat) (x : List Int), (∀ j, j < tl.length → TnOK (tl.getD j t0n) ∧ fitsT (tl.getD j t0n) = 0) → (catR tl a x).2 = true → RawOK (catR tl a x).1
 | [], a, x, h, hb => by simp [catR] at hb
 | t :: tl, a, x, h, hb => by
  rw [catR] at hb ⊢
  by_cases hz : offE t.shape x = 0
  ·rw [if_pos hz]
   have := h 0 (by simp)
   exact pick_ok (t := t) this.1 this.2 (by simp [isAt, hz])
  ·rw [if_neg hz] at hb ⊢
   exact catR_ok tl a _ (fun j hj => by have := h (j + 1) (by simpa using hj); simpa using this) hb
theorem fold_app (x : Int) : ∀ l : List Int, (l ++ [x]).foldr (· + ·) 0 = l.foldr (· + ·) 0 + x
 | [] => by simp
 | a :: l => by simp only [List.cons_append, List.foldr_cons, fold_app x l]; omega
theorem sumK_fold (tl : List Tn) (a : Nat) : ∀ k : Nat, k ≤ tl.length → ((tl.take k).map fun t => t.shape.getD a 0).foldr (· + ·) 0 = sumK tl a k
 | 0, _ => by simp [sumK]
 | k + 1, hk => by
  rw [take_snoc tl t0n (by omega), List.map_append, List.map_cons, List.map_nil, fold_app, sumK_fold tl a k (by omega), sumK]
theorem concat_val (tl : List Tn) (htl : tl.length ≤ 1048576) (hok : ∀ j, j < tl.length → TnOK (tl.getD j t0n)) (axis : Int) : Val C 33 [.int .i64 axis, .sl tl.length (tnsC tl)] (.tup [tnV (catT tl axis), .int .i64 (catE tl axis)]) := by
 unfold catT
 refine Fc.keep (Fc.bodyT mixed Tryz.func33 w33 rfl Tryz.ntmps33 Tryz.results33 (Nat.le_of_ble_eq_true rfl) ?_)
 (refine Go1.out ?_;repeat' ((with_reducible first|refine Go1.mk ?_|((first|apply Br.dec|apply Br.beq|apply Br.bne|apply Br.mk)<;>intro h))<;>try simp -implicitDefEqProofs (maxSteps:=9000000) (disch:=first|omega|(simp only [lens];omega)) only [go_sem]))
 ·exact Gd.ret (gd_no (by rw [catE, if_pos (by omega)]) (by decide))
 refine TT_loop_inv (fun n ts H => ∃ (k : Nat), (k ≤ tl.length) ∧ ((∀ j, j < k → mayT (tl.getD j t0n) = 0)) ∧ (n = tl.length - k) ∧ (rowOf H 0 = some ⟨3, 1, [.int .i64 axis]⟩) ∧ (rowOf H 1 = some ⟨48, 1, [.sl tl.length (tnsC tl)]⟩) ∧ (rowOf H 2 = some ⟨26, 2, [.nil, .nil]⟩) ∧ ts.length = 115 ∧ nth ts 2 = .ptr 0 0 ∧ nth ts 3 = .ptr 1 0 ∧ nth ts 4 = .ptr 2 0 ∧ nth ts 20 = .sl tl.length (tnsC tl) ∧ nth ts 21 = .int .i64 tl.length ∧ nth ts 22 = .int .i64 (k : Nat)) ?_ (n := tl.length) ?_
 ·skip
  rintro n ts H ⟨k, hk, hI, hn, h0, h1, h2, hL, hs2, hs3, hs4, hs20, hs21, hs22⟩
  refine TT_env [(2, .ptr 0 0), (3, .ptr 1 0), (4, .ptr 2 0), (20, .sl tl.length (tnsC tl)), (21, .int .i64 tl.length), (22, .int .i64 (k : Nat))] hL (by simp only [List.forall_mem_cons, hs2, hs3, hs4, hs20, hs21, hs22, true_and]; exact fun _ h => nomatch h) ?_
  clear hL hs2 hs3 hs4 hs20 hs21 hs22 ts
  refine TT_of mixed ?_
  by_cases hkl : k < tl.length
  ·have hT := hok k hkl
   generalize hTT : tl.getD k t0n = T at *
   have a2 : ∀ Y, rowOf (H ++ Y) 2 = some ⟨26, 2, [.nil, .nil]⟩ := fun Y => rowOf_keep h2 Y
   have hst : ∀ Y (z : Row), rowOf ((H ++ Y).set 2 (some z)) 2 = some z := fun Y z => rowOf_set_eq (a2 Y)
   (refine Go1.out ?_;repeat' ((with_reducible first|refine Go1.mk ?_|((first|apply Br.dec|apply Br.beq|apply Br.bne|apply Br.mk)<;>intro h))<;>try simp -implicitDefEqProofs (maxSteps:=9000000) (disch:=first|omega|(simp only [lens];omega)) only [go_sem, hTT]))
   refine Fc.pure (tmay_spec T hT) (by simp [cloL, clo, cloL_ints, cloL_raws]) (fun g => rfl) ?_
   by_cases hm : mayT T = 0
   ·rw [hm]
    (refine Go1.out ?_;repeat' ((with_reducible first|refine Go1.mk ?_|((first|apply Br.dec|apply Br.beq|apply Br.bne|apply Br.mk)<;>intro h))<;>try simp -implicitDefEqProofs (maxSteps:=9000000) (disch:=first|omega|(simp only [lens];omega)) only [go_sem]))
    exact ⟨tl.length - (k + 1), by omega, k + 1, by omega, allS hI (by rw [hTT]; exact hm), rfl, rowOf_keep h0 _, rowOf_keep h1 _, a2 _, (by (repeat' apply And.intro) <;> (first | rfl | omega | (congr 1; omega) | assumption | (congr 1; assumption)))⟩
   ·have hF := firstM_at hkl hI (by rw [hTT]; exact hm)
    rw [hTT] at hF
    have hE : catE tl axis = mayT T := by rw [catE, if_neg (by omega), hF, if_pos hm]
    (refine Go1.out ?_;repeat' ((with_reducible first|refine Go1.mk ?_|((first|apply Br.dec|apply Br.beq|apply Br.bne|apply Br.mk)<;>intro h))<;>try simp -implicitDefEqProofs (maxSteps:=9000000) (disch:=first|omega|(simp only [lens];omega)) only [go_sem, a2, hst]))
    exact Gd.ret (gd_no hE hm)
  ·have hks : k = tl.length := by omega
   subst hks
   have hF : firstM tl = 0 := firstM_zero.2 hI
   have z0 : nth (tnsC tl) 0 = .sl (tl.getD 0 t0n).shape.length (ints (tl.getD 0 t0n).shape) := by simpa using nth_tns0 tl 0 (by omega)
   have hT0 := hok 0 (by omega)
   have hS0 := hT0.s
   obtain ⟨hf0, hm0, hl0⟩ := mayT_zero (hI 0 (by omega))
   obtain ⟨p1, p2, p3⟩ := mayP_zero hm0
   (refine Go1.out ?_;repeat' ((with_reducible first|refine Go1.mk ?_|((first|apply Br.dec|apply Br.beq|apply Br.bne|apply Br.mk)<;>intro h))<;>try simp -implicitDefEqProofs (maxSteps:=9000000) (disch:=first|omega|(simp only [lens];omega)) only [go_sem, h1, z0]))
   refine Fc.ownF (CloneS_spec (tl.getD 0 t0n).shape (by omega)) ⟨.self (by simp [clo, cloL_ints]), trivial⟩ (fun g => renL_ints g _) (plainL_ints _) fun v X hv hvr => ?_
   have hlt := rowOf_lt h2
   have b0 := rowOf_keep h0 X
   have b1 := rowOf_keep h1 X
   have b2 := rowOf_keep h2 X
   generalize H ++ X = H5 at *
   have hkn : kn v = true ∧ cellsOf v = [v] ∧ scal v = true := by rcases hv with ⟨rfl, _⟩ | ⟨r, rfl, _⟩ <;> exact ⟨rfl, rfl, rfl⟩
   obtain ⟨k1, c1, s1⟩ := hkn
   have hlv := hv.lenw (C.ty 23)
   have hst2 : ∀ z : Row, rowOf (H5.set 2 (some z)) 2 = some z := fun z => rowOf_set_eq b2
   by_cases hax : 0 ≤ axis ∧ axis < (tl.getD 0 t0n).shape.length
   ·obtain ⟨a, rfl⟩ : ∃ a : Nat, axis = a := ⟨axis.toNat, by omega⟩
    have ha : a < (tl.getD 0 t0n).shape.length := by omega
    obtain ⟨-, h0', -⟩ | ⟨r, rfl, hr, -⟩ := hv
    ·omega
    have hr3 : 3 ≤ r := by have := hvr r 0 _ rfl; omega
    have st0 : ∀ z, rowOf (H5.set r z) 0 = some ⟨3, 1, [.int .i64 (a : Nat)]⟩ := fun z => by rw [rowOf_set_ne _ (by omega)]; exact b0
    have st1 : ∀ z, rowOf (H5.set r z) 1 = some ⟨48, 1, [.sl tl.length (tnsC tl)]⟩ := fun z => by rw [rowOf_set_ne _ (by omega)]; exact b1
    have st2 : ∀ z, rowOf (H5.set r z) 2 = some ⟨26, 2, [.nil, .nil]⟩ := fun z => by rw [rowOf_set_ne _ (by omega)]; exact b2
    have str : ∀ z, rowOf (H5.set r (some z)) r = some z := fun z => rowOf_set_eq hr
    generalize hS : (tl.getD 0 t0n).shape = S0 at *
    (refine Go1.out ?_;repeat' ((with_reducible first|refine Go1.mk ?_|((first|apply Br.dec|apply Br.beq|apply Br.bne|apply Br.mk)<;>intro h))<;>try simp -implicitDefEqProofs (maxSteps:=9000000) (disch:=first|omega|(simp only [lens];omega)) only [go_sem, b0, hlv, hr, upd_ints, st1]))
    have hF13 : (∃ k, k < tl.length ∧ fitA tl a k = false) → catE tl a = 13 := by
     rintro ⟨k, hk, hf⟩
     rw [catE, if_neg (by omega), if_neg (by omega), hS, if_neg (fun h => h ⟨by omega, by omega⟩), Int.toNat_natCast, if_pos]
     intro h
     have := h k hk
     rw [hf] at this; cases this
    refine TT_loop_inv (fun n ts H => ∃ (k : Nat), (k ≤ tl.length) ∧ ((∀ j, j < k → fitA tl a j = true)) ∧ (n = tl.length - k) ∧ (rowOf H 0 = some ⟨3, 1, [.int .i64 (a : Nat)]⟩) ∧ (rowOf H 1 = some ⟨48, 1, [.sl tl.length (tnsC tl)]⟩) ∧ (rowOf H 2 = some ⟨26, 2, [.nil, .nil]⟩) ∧ (rowOf H r = some ⟨3, 1, ints (S0.set a 0)⟩) ∧ ts.length = 115 ∧ nth ts 2 = .ptr 0 0 ∧ nth ts 3 = .ptr 1 0 ∧ nth ts 4 = .ptr 2 0 ∧ nth ts 9 = .ref r 0 S0.length ∧ nth ts 50 = .sl tl.length (tnsC tl) ∧ nth ts 51 = .int .i64 tl.length ∧ nth ts 52 = .int .i64 (k : Nat)) ?_ (n := tl.length) ?_
    ·skip
     rintro n ts H ⟨k, hk, hA, hn, h0, h1, h2, hr, hL, hs2, hs3, hs4, hs9, hs50, hs51, hs52⟩
     refine TT_env [(2, .ptr 0 0), (3, .ptr 1 0), (4, .ptr 2 0), (9, .ref r 0 S0.length), (50, .sl tl.length (tnsC tl)), (51, .int .i64 tl.length), (52, .int .i64 (k : Nat))] hL (by simp only [List.forall_mem_cons, hs2, hs3, hs4, hs9, hs50, hs51, hs52, true_and]; exact fun _ h => nomatch h) ?_
     clear hL hs2 hs3 hs4 hs9 hs50 hs51 hs52 ts
     refine TT_of mixed ?_
     by_cases hkl : k < tl.length
     ·have hT := hok k hkl
      obtain ⟨hfT, hmT, hlT⟩ := mayT_zero (hI k hkl)
      obtain ⟨t1, t2, t3⟩ := mayP_zero hmT
      have hfA : fitA tl a k = (decide ((tl.getD k t0n).shape.length = S0.length) && (List.range S0.length).all fun i => decide (i ≠ a → (tl.getD k t0n).shape.getD i 0 = S0.getD i 0)) := by rw [fitA, hS]
      generalize hTT : tl.getD k t0n = T at *
      have e0 : ∀ Y, rowOf (H ++ Y) 0 = some ⟨3, 1, [.int .i64 (a : Nat)]⟩ := fun Y => rowOf_keep h0 Y
      have e1 : ∀ Y, rowOf (H ++ Y) 1 = some ⟨48, 1, [.sl tl.length (tnsC tl)]⟩ := fun Y => rowOf_keep h1 Y
      have e2 : ∀ Y, rowOf (H ++ Y) 2 = some ⟨26, 2, [.nil, .nil]⟩ := fun Y => rowOf_keep h2 Y
      have er : ∀ Y, rowOf (H ++ Y) r = some ⟨3, 1, ints (S0.set a 0)⟩ := fun Y => rowOf_keep hr Y
      have est : ∀ Y (z : Row), rowOf ((H ++ Y).set 2 (some z)) 2 = some z := fun Y z => rowOf_set_eq (e2 Y)
      by_cases hln : T.shape.length = S0.length
      ·subst hn
       (refine Go1.out ?_;repeat' ((with_reducible first|refine Go1.mk ?_|((first|apply Br.dec|apply Br.beq|apply Br.bne|apply Br.mk)<;>intro h))<;>try simp -implicitDefEqProofs (maxSteps:=9000000) (disch:=first|omega|(simp only [lens];omega)) only [go_sem, hTT]))
       have f0 := e0 [some ⟨26, 2, [.sl T.shape.length (ints T.shape), .sl T.el.length (rawsC T.el)]⟩]
       have f1 := e1 [some ⟨26, 2, [.sl T.shape.length (ints T.shape), .sl T.el.length (rawsC T.el)]⟩]
       have f2 := e2 [some ⟨26, 2, [.sl T.shape.length (ints T.shape), .sl T.el.length (rawsC T.el)]⟩]
       have fr := er [some ⟨26, 2, [.sl T.shape.length (ints T.shape), .sl T.el.length (rawsC T.el)]⟩]
       clear e0 e1 e2 er est
       generalize H ++ [some (⟨26, 2, [.sl T.shape.length (ints T.shape), .sl T.el.length (rawsC T.el)]⟩ : Row)] = H7 at *
       refine TT_loop_inv (fun n ts H => ∃ (i : Nat), (i ≤ S0.length) ∧ ((∀ j, j < i → (j ≠ a → T.shape.getD j 0 = S0.getD j 0))) ∧ (n = S0.length - i) ∧ (rowOf H 0 = some ⟨3, 1, [.int .i64 (a : Nat)]⟩) ∧ (rowOf H 1 = some ⟨48, 1, [.sl tl.length (tnsC tl)]⟩) ∧ (rowOf H 2 = some ⟨26, 2, [.nil, .nil]⟩) ∧ (rowOf H r = some ⟨3, 1, ints (S0.set a 0)⟩) ∧ ts.length = 115 ∧ nth ts 2 = .ptr 0 0 ∧ nth ts 3 = .ptr 1 0 ∧ nth ts 4 = .ptr 2 0 ∧ nth ts 9 = .ref r 0 S0.length ∧ nth ts 50 = .sl tl.length (tnsC tl) ∧ nth ts 51 = .int .i64 tl.length ∧ nth ts 52 = .int .i64 (k : Nat) ∧ nth ts 64 = .sl T.shape.length (ints T.shape) ∧ nth ts 65 = .int .i64 T.shape.length ∧ nth ts 66 = .int .i64 (i : Nat)) ?_ (n := S0.length) ?_
       ·skip
        rintro n ts H ⟨i, hi, hB, hn, h0, h1, h2, hr, hL, hs2, hs3, hs4, hs9, hs50, hs51, hs52, hs64, hs65, hs66⟩
        refine TT_env [(2, .ptr 0 0), (3, .ptr 1 0), (4, .ptr 2 0), (9, .ref r 0 S0.length), (50, .sl tl.length (tnsC tl)), (51, .int .i64 tl.length), (52, .int .i64 (k : Nat)), (64, .sl T.shape.length (ints T.shape)), (65, .int .i64 T.shape.length), (66, .int .i64 (i : Nat))] hL (by simp only [List.forall_mem_cons, hs2, hs3, hs4, hs9, hs50, hs51, hs52, hs64, hs65, hs66, true_and]; exact fun _ h => nomatch h) ?_
        clear hL hs2 hs3 hs4 hs9 hs50 hs51 hs52 hs64 hs65 hs66 ts
        refine TT_of mixed ?_
        have hst2 : ∀ z : Row, rowOf (H.set 2 (some z)) 2 = some z := fun z => rowOf_set_eq h2
        by_cases hil : i < S0.length
        ·by_cases hia : i = a
         ·have hia' : (i : Int) = (a : Nat) := by omega
          (refine Go1.out ?_;repeat' ((with_reducible first|refine Go1.mk ?_|((first|apply Br.dec|apply Br.beq|apply Br.bne|apply Br.mk)<;>intro h))<;>try simp -implicitDefEqProofs (maxSteps:=9000000) (disch:=first|omega|(simp only [lens];omega)) only [go_sem, h0]))
          exact ⟨S0.length - (i + 1), by omega, i + 1, by omega, allS hB (fun h => absurd hia h), rfl, h1, h2, hr, (by (repeat' apply And.intro) <;> (first | rfl | omega | (congr 1; omega) | assumption | (congr 1; assumption)))⟩
         ·have hz : (S0.set a 0).getD i 0 = S0.getD i 0 := by simp [List.getD, Ne.symm hia]
          have hzl : (S0.set a 0).length = S0.length := by simp
          by_cases hd : T.shape.getD i 0 = S0.getD i 0
          ·skip
           (refine Go1.out ?_;repeat' ((with_reducible first|refine Go1.mk ?_|((first|apply Br.dec|apply Br.beq|apply Br.bne|apply Br.mk)<;>intro h))<;>try simp -implicitDefEqProofs (maxSteps:=9000000) (disch:=first|omega|(simp only [lens];omega)) only [go_sem, h0, hr, hz]))
           exact ⟨S0.length - (i + 1), by omega, i + 1, by omega, allS hB (fun _ => hd), rfl, h1, h2, (by (repeat' apply And.intro) <;> (first | rfl | omega | (congr 1; omega) | assumption | (congr 1; assumption)))⟩
          ·have hE := hF13 ⟨k, hkl, by
            rw [hfA]
            cases hc : ((List.range S0.length).all fun i => decide (i ≠ a → T.shape.getD i 0 = S0.getD i 0)) with
            | false => simp
            | true => exact absurd (of_decide_eq_true (List.all_eq_true.1 hc i (List.mem_range.2 hil)) hia) hd⟩
           (refine Go1.out ?_;repeat' ((with_reducible first|refine Go1.mk ?_|((first|apply Br.dec|apply Br.beq|apply Br.bne|apply Br.mk)<;>intro h))<;>try simp -implicitDefEqProofs (maxSteps:=9000000) (disch:=first|omega|(simp only [lens];omega)) only [go_sem, h0, hr, hz, h2, hst2]))
           all_goals exact Gd.ret (gd_no hE (by decide))
        ·have his : i = S0.length := by omega
         subst his
         have hfk : fitA tl a k = true := by
          rw [hfA, hln]
          simp only [decide_true, Bool.true_and, List.all_eq_true, List.mem_range, decide_eq_true_eq]
          exact fun j hj hja => hB j hj hja
         (refine Go1.out ?_;repeat' ((with_reducible first|refine Go1.mk ?_|((first|apply Br.dec|apply Br.beq|apply Br.bne|apply Br.mk)<;>intro h))<;>try simp -implicitDefEqProofs (maxSteps:=9000000) (disch:=first|omega|(simp only [lens];omega)) only [go_sem]))
         exact ⟨tl.length - (k + 1), by omega, k + 1, by omega, allS hA hfk, rfl, h0, h1, h2, hr, (by (repeat' apply And.intro) <;> (first | rfl | omega | (congr 1; omega) | assumption | (congr 1; assumption)))⟩
       ·exact ⟨0, by omega, fun j hj => by omega, rfl, f0, f1, f2, fr, rfl, rfl, rfl, rfl, rfl, rfl, rfl, rfl, rfl, rfl, rfl⟩
      ·have hE := hF13 ⟨k, hkl, by rw [hfA]; simp [hln]⟩
       (refine Go1.out ?_;repeat' ((with_reducible first|refine Go1.mk ?_|((first|apply Br.dec|apply Br.beq|apply Br.bne|apply Br.mk)<;>intro h))<;>try simp -implicitDefEqProofs (maxSteps:=9000000) (disch:=first|omega|(simp only [lens];omega)) only [go_sem, hTT, e2, est]))
       exact Gd.ret (gd_no hE (by decide))
     ·have hks : k = tl.length := by omega
      subst hks
      (refine Go1.out ?_;repeat' ((with_reducible first|refine Go1.mk ?_|((first|apply Br.dec|apply Br.beq|apply Br.bne|apply Br.mk)<;>intro h))<;>try simp -implicitDefEqProofs (maxSteps:=9000000) (disch:=first|omega|(simp only [lens];omega)) only [go_sem, h1]))
      have hTa : ∀ j, j < tl.length → 1 ≤ (tl.getD j t0n).shape.getD a 0 ∧ (tl.getD j t0n).shape.getD a 0 ≤ 1024 := fun j hj => by
       obtain ⟨hfT, hmT, hlT⟩ := mayT_zero (hI j hj)
       obtain ⟨t1, t2, t3⟩ := mayP_zero hmT
       have hfk := hA j hj
       rw [fitA, Bool.and_eq_true, decide_eq_true_eq, hS] at hfk
       have h1 := getD_pos t2 (i := a) (by omega)
       have h2 := getD_le_prodL t2 (i := a) (by omega)
       omega
      have hTl : ∀ j, j < tl.length → (tl.getD j t0n).shape.length = S0.length := fun j hj => by
       have hfk := hA j hj
       rw [fitA, Bool.and_eq_true, decide_eq_true_eq, hS] at hfk
       exact hfk.1
      have hF14 : (∃ k, k < tl.length ∧ mayP (catS tl a (k + 1)) ≠ 0) → catE tl a = 14 := by
       rintro ⟨k, hk, hf⟩
       rw [catE, if_neg (by omega), if_neg (by omega), hS, if_neg (fun h => h ⟨by omega, by omega⟩), Int.toNat_natCast, if_neg (fun h => h hA), if_pos]
       exact fun h => hf (h k hk)
      have hr' : rowOf H r = some ⟨3, 1, ints (catS tl a 0)⟩ := by rw [catS, hS]; exact hr
      refine TT_loop_inv (fun n ts H => ∃ (k : Nat), (k ≤ tl.length) ∧ ((∀ j, j < k → mayP (catS tl a (j + 1)) = 0)) ∧ (n = tl.length - k) ∧ (rowOf H 0 = some ⟨3, 1, [.int .i64 (a : Nat)]⟩) ∧ (rowOf H 1 = some ⟨48, 1, [.sl tl.length (tnsC tl)]⟩) ∧ (rowOf H 2 = some ⟨26, 2, [.nil, .nil]⟩) ∧ (rowOf H r = some ⟨3, 1, ints (catS tl a k)⟩) ∧ ts.length = 115 ∧ nth ts 2 = .ptr 0 0 ∧ nth ts 3 = .ptr 1 0 ∧ nth ts 4 = .ptr 2 0 ∧ nth ts 9 = .ref r 0 S0.length ∧ nth ts 85 = .sl tl.length (tnsC tl) ∧ nth ts 86 = .int .i64 tl.length ∧ nth ts 87 = .int .i64 (k : Nat)) ?_ (n := tl.length) ?_
      ·skip
       rintro n ts H ⟨k, hk, hM, hn, h0, h1, h2, hr, hL, hs2, hs3, hs4, hs9, hs85, hs86, hs87⟩
       refine TT_env [(2, .ptr 0 0), (3, .ptr 1 0), (4, .ptr 2 0), (9, .ref r 0 S0.length), (85, .sl tl.length (tnsC tl)), (86, .int .i64 tl.length), (87, .int .i64 (k : Nat))] hL (by simp only [List.forall_mem_cons, hs2, hs3, hs4, hs9, hs85, hs86, hs87, true_and]; exact fun _ h => nomatch h) ?_
       clear hL hs2 hs3 hs4 hs9 hs85 hs86 hs87 ts
       by_cases hkl : k < tl.length
       ·refine TT_of mixed ?_
        have hTk := hTa k hkl
        have hlk := hTl k hkl
        have hsk := sumK_le hTa k (by omega)
        have hcl := catS_len tl a k
        have hcl' := catS_len tl a (k + 1)
        rw [hS] at hcl hcl'
        have hcg := catS_get (tl := tl) (a := a) (by rw [hS]; exact ha) k
        have hcn := catS_next tl a k
        generalize hTT : tl.getD k t0n = T at *
        generalize hss : sumK tl a k = ss at *
        have e0 : ∀ Y, rowOf (H ++ Y) 0 = some ⟨3, 1, [.int .i64 (a : Nat)]⟩ := fun Y => rowOf_keep h0 Y
        have e1 : ∀ Y, rowOf (H ++ Y) 1 = some ⟨48, 1, [.sl tl.length (tnsC tl)]⟩ := fun Y => rowOf_keep h1 Y
        have e2 : ∀ Y, rowOf (H ++ Y) 2 = some ⟨26, 2, [.nil, .nil]⟩ := fun Y => rowOf_keep h2 Y
        have er : ∀ Y, rowOf (H ++ Y) r = some ⟨3, 1, ints (catS tl a k)⟩ := fun Y => rowOf_keep hr Y
        (refine Go1.out ?_;repeat' ((with_reducible first|refine Go1.mk ?_|((first|apply Br.dec|apply Br.beq|apply Br.bne|apply Br.mk)<;>intro h))<;>try simp -implicitDefEqProofs (maxSteps:=9000000) (disch:=first|omega|(simp only [lens];omega)) only [go_sem, hTT, e0, er, upd_ints, hcg, hcn]))
        have g0 : ∀ Y z, rowOf ((H ++ Y).set r z) 0 = _ := fun Y z => (rowOf_set_ne _ (by omega)).trans (e0 Y)
        have g1 : ∀ Y z, rowOf ((H ++ Y).set r z) 1 = _ := fun Y z => (rowOf_set_ne _ (by omega)).trans (e1 Y)
        have g2 : ∀ Y z, rowOf ((H ++ Y).set r z) 2 = _ := fun Y z => (rowOf_set_ne _ (by omega)).trans (e2 Y)
        have gr : ∀ Y z, rowOf ((H ++ Y).set r (some z)) r = _ := fun Y z => rowOf_set_eq (er Y)
        have ow : ∀ Y, Bv.Own 3 1 ((H ++ Y).set r (some ⟨3, 1, ints (catS tl a (k + 1))⟩)) (.ref r 0 S0.length) (catS tl a (k + 1)).length (ints (catS tl a (k + 1))) := fun Y => by rw [hcl']; exact .inr ⟨r, rfl, gr Y _, by rw [ints_length]; omega⟩
        have gst : ∀ Y z (q : Row), rowOf (((H ++ Y).set r z).set 2 (some q)) 2 = some q := fun Y z q => rowOf_set_eq (g2 Y z)
        refine (Val.ofPu (May_spec (catS tl a (k + 1)) (by omega)) rfl rfl).call ⟨(ow _).bor' (cloL_ints _), trivial⟩ rfl ?_
        by_cases hm : mayP (catS tl a (k + 1)) = 0
        ·rw [hm]
         (refine Go1.out ?_;repeat' ((with_reducible first|refine Go1.mk ?_|((first|apply Br.dec|apply Br.beq|apply Br.bne|apply Br.mk)<;>intro h))<;>try simp -implicitDefEqProofs (maxSteps:=9000000) (disch:=first|omega|(simp only [lens];omega)) only [go_sem]))
         exact ⟨tl.length - (k + 1), by omega, k + 1, by omega, allS hM hm, rfl, g0 _ _, g1 _ _, g2 _ _, gr _ _, (by (repeat' apply And.intro) <;> (first | rfl | omega | (congr 1; omega) | assumption | (congr 1; assumption)))⟩
        ·have hE := hF14 ⟨k, hkl, hm⟩
         (refine Go1.out ?_;repeat' ((with_reducible first|refine Go1.mk ?_|((first|apply Br.dec|apply Br.beq|apply Br.bne|apply Br.mk)<;>intro h))<;>try simp -implicitDefEqProofs (maxSteps:=9000000) (disch:=first|omega|(simp only [lens];omega)) only [go_sem, g2, gst]))
         all_goals exact Gd.ret (gd_no hE (by decide))
       ·have hks : k = tl.length := by omega
        subst hks
        have hSm : mayP (catS tl a tl.length) = 0 := by have := hM (tl.length - 1) (by omega); rwa [show tl.length - 1 + 1 = tl.length by omega] at this
        have hE : catE tl a = 0 := by rw [catE, if_neg (by omega), if_neg (by omega), hS, if_neg (fun h => h ⟨by omega, by omega⟩), Int.toNat_natCast, if_neg (fun h => h hA), if_neg (fun h => h hM)]
        have hSl := catS_len tl a tl.length
        rw [hS] at hSl
        obtain ⟨q1, q2, q3⟩ := mayP_zero hSm
        have hpos := prodL_pos q2
        rw [errT_ok hE, hE, Int.toNat_natCast]
        have hgetS : ∀ i, i < S0.length → (catS tl a tl.length).getD i 0 = if i = a then sumK tl a tl.length else S0.getD i 0 := fun i hi => by
         rw [catS, hS]
         by_cases hia : i = a
         ·subst hia; simp [List.getD, hi]
         ·rw [if_neg hia]; simp [List.getD, Ne.symm hia]
        have hfold : (tl.map fun t => t.shape.getD a 0).foldr (· + ·) 0 = sumK tl a tl.length := by have := sumK_fold tl a tl.length (Nat.le_refl _); rwa [List.take_length] at this
        have hfound : ∀ i : Nat, (catR tl a (idxL (catS tl a tl.length) (i : Nat))).2 = true := fun i => by
         have hx := idxL_in q2 (i : Nat)
         refine catR_found tl a _ S0.length (by rw [idxL_len]; exact hSl) ha (fun j hj => ⟨(mayT_zero (hI j hj)).2.1, hTl j hj⟩) (fun j hj i' hi' hia => ?_) (hx a (by omega)).1 ?_
         ·have h5 := hx i' (by omega)
          rw [hgetS i' hi', if_neg hia] at h5
          have hfk := hA j hj
          rw [fitA, Bool.and_eq_true, hS, List.all_eq_true] at hfk
          have := of_decide_eq_true (hfk.2 i' (List.mem_range.2 hi')) hia
          rw [this]; exact h5
         ·have h5 := hx a (by omega)
          rw [hgetS a ha, if_pos rfl] at h5
          rw [hfold]; exact h5.2
        obtain ⟨N, hN⟩ : ∃ N : Nat, (N : Int) = prodL (catS tl a tl.length) := ⟨(prodL (catS tl a tl.length)).toNat, by omega⟩
        have hNN : (prodL (catS tl a tl.length)).toNat = N := by omega
        have hgat := gatherA_spec (catS tl a tl.length) 67 [.rp [.sl tl.length (tnsC tl)] 0, .rp [.int .i64 (a : Nat)] 0] (fun i => (catR tl a (idxL (catS tl a tl.length) (i : Nat))).1) N (by omega) hSm hN (by simp [cloL, clo, cloL_tns]) (fun i hi => by
         have hx := idxL_in q2 (i : Nat) a (by omega)
         have hu := getD_le_prodL q2 (i := a) (by omega)
         have := cat1_spec tl a (idxL (catS tl a tl.length) (i : Nat)) htl (fun j hj => ⟨hok j hj, (mayT_zero (hI j hj)).1, by rw [idxL_len, hSl]; exact hTl j hj⟩) (by rw [idxL_len]; omega) (by rw [idxL_len]; omega) (by omega)
         rw [hfound i] at this
         exact this)
        have hcat : catL tl a (catS tl a tl.length) N = gatL N r0 (fun i => (catR tl a (idxL (catS tl a tl.length) (i : Nat))).1) (fun _ => true) := by
         rw [catL]
         congr 1
         funext i
         exact hfound i
        rw [hNN]
        rw [← hcat] at hgat
        have hTk : ∀ x ∈ catL tl a (catS tl a tl.length) N, RawOK x := fun x hx => by
         rw [hcat] at hx
         simp only [gatL, List.mem_map, if_true] at hx
         obtain ⟨i, _, rfl⟩ := hx
         exact catR_ok tl a _ (fun j hj => ⟨hok j hj, (mayT_zero (hI j hj)).1⟩) (hfound i)
        have hcl : (catL tl a (catS tl a tl.length) N).length = N := gatL_len _ _ _ _
        have hmk := tmake_val ⟨catS tl a tl.length, catL tl a (catS tl a tl.length) N⟩ ⟨by show (catS tl a tl.length).length ≤ _; omega, by show (catL tl a (catS tl a tl.length) N).length ≤ _; omega, hTk⟩
        have hfit : fitsT ⟨catS tl a tl.length, catL tl a (catS tl a tl.length) N⟩ = 0 := by
         show (if mayP (catS tl a tl.length) ≠ 0 then mayP (catS tl a tl.length) else if ((catL tl a (catS tl a tl.length) N).length : Int) ≠ countP (catS tl a tl.length) then 13 else 0) = 0
         have hc : countP (catS tl a tl.length) = prodL (catS tl a tl.length) := by rw [countP, if_pos hSm]
         rw [hSm, hc, hcl, hN]; simp
        have hmm : mkT ⟨catS tl a tl.length, catL tl a (catS tl a tl.length) N⟩ = (normT ⟨catS tl a tl.length, catL tl a (catS tl a tl.length) N⟩, 0) := by rw [mkT, if_neg (by omega)]
        rw [hmm] at hmk
        simp only [hcl] at hmk
        have n0 : ¬ 0 = r := by omega
        have n1 : ¬ 1 = r := by omega
        have n2 : ¬ 2 = r := by omega
        refine TT_seal hr (cloL_ints _) ?_
        rw [szL_env]
        simp only [List.map_cons, List.map_nil, sz, szL_clo _ _ _ (cloL_tns _), n0, n1, n2, if_true, if_false, List.drop_zero]
        have g0 : rowOf (H.set r none) 0 = _ := (rowOf_set_ne _ (by omega)).trans h0
        have g1 : rowOf (H.set r none) 1 = _ := (rowOf_set_ne _ (by omega)).trans h1
        have g2 : rowOf (H.set r none) 2 = _ := (rowOf_set_ne _ (by omega)).trans h2
        have hlen : 2 < (H.set r none).length := rowOf_lt g2
        generalize H.set r none = H at *
        refine TT_seal g1 (by simp [cloL, clo, cloL_tns]) ?_
        rw [szL_env]
        simp only [List.map_cons, List.map_nil, sz, szL_clo _ _ _ (cloL_tns _), szL_clo _ _ _ (cloL_ints _), Nat.zero_ne_one, if_true, if_false, show ¬ 2 = 1 by decide]
        have g0' : rowOf (H.set 1 none) 0 = _ := (rowOf_set_ne _ (by decide)).trans g0
        have g2' : rowOf (H.set 1 none) 2 = _ := (rowOf_set_ne _ (by decide)).trans g2
        have hlen' : 2 < (H.set 1 none).length := rowOf_lt g2'
        generalize H.set 1 none = H at *
        refine TT_seal g0' (by simp [cloL, clo]) ?_
        rw [szL_env]
        simp only [List.map_cons, List.map_nil, sz, szL, szL_clo _ _ _ (cloL_tns _), szL_clo _ _ _ (cloL_ints _), if_true, if_false, show ¬ 2 = 0 by decide]
        have g2'' : rowOf (H.set 0 none) 2 = _ := (rowOf_set_ne _ (by decide)).trans g2'
        have hlen'' : 2 < (H.set 0 none).length := rowOf_lt g2''
        generalize H.set 0 none = H at *
        refine TT_of mixed ?_
        rw [← hSl]
        (refine Go1.out ?_;repeat' ((with_reducible first|refine Go1.mk ?_|((first|apply Br.dec|apply Br.beq|apply Br.bne|apply Br.mk)<;>intro h))<;>try simp -implicitDefEqProofs (maxSteps:=9000000) (disch:=first|omega|(simp only [lens];omega)) only [go_sem, g2'']))
        refine Fc.pure hgat (by simp [cloL, clo, cloL_ints, cloL_tns]) (fun g => by simp [ren, renL_clo _ _ (cloL_raws _)]) ?_
        (refine Go1.out ?_;repeat' ((with_reducible first|refine Go1.mk ?_|((first|apply Br.dec|apply Br.beq|apply Br.bne|apply Br.mk)<;>intro h))<;>try simp -implicitDefEqProofs (maxSteps:=9000000) (disch:=first|omega|(simp only [lens];omega)) only [go_sem, g2'']))
        refine hmk.keptF ⟨.self (by simp [clo, cloL_ints]), .self (by simp [clo, cloL_raws]), trivial⟩ fun v X hv => ?_
        have f2 := rowOf_keep g2'' X
        have f22 : ∀ row : Row, rowOf ((H ++ X).set 2 (some row)) 2 = some row := fun row => rowOf_set_eq f2
        obtain ⟨w, e, rfl, hw, he⟩ := hv.tup2
        obtain ⟨x1, x2, rfl, ha', hb'⟩ := hw.agg2
        obtain ⟨ka, ca, sa⟩ := gd_sl ha'.gd
        obtain ⟨kb, cb, sb⟩ := gd_sl hb'.gd
        rw [he.gd.int_inv]
        (refine Go1.out ?_;repeat' ((with_reducible first|refine Go1.mk ?_|((first|apply Br.dec|apply Br.beq|apply Br.bne|apply Br.mk)<;>intro h))<;>try simp -implicitDefEqProofs (maxSteps:=9000000) (disch:=first|omega|(simp only [lens];omega)) only [go_sem, f2, f22, ka, ca, sa, kb, cb, sb]))
        exact Gd.ret (Gd.tupL ⟨Gd.aggL ⟨(ha'.set (q := 2) (by omega) _).gd, (hb'.set (q := 2) (by omega) _).gd, trivial⟩, gd_i _ _, trivial⟩)
      ·exact ⟨0, by omega, fun j hj => by omega, rfl, h0, h1, h2, hr', rfl, rfl, rfl, rfl, rfl, rfl, rfl, rfl⟩
    ·exact ⟨0, by omega, fun j hj => by omega, rfl, st0 _, st1 _, st2 _, str _, rfl, rfl, rfl, rfl, rfl, rfl, rfl, rfl⟩
   ·have hE : catE tl axis = 11 := by rw [catE, if_neg (by omega), if_neg (by omega), if_pos hax]
    (refine Go1.out ?_;repeat' ((with_reducible first|refine Go1.mk ?_|((first|apply Br.dec|apply Br.beq|apply Br.bne|apply Br.mk)<;>intro h))<;>try simp -implicitDefEqProofs (maxSteps:=9000000) (disch:=first|omega|(simp only [lens];omega)) only [go_sem, b0, b2, hlv, hst2, k1, c1, s1]))
    all_goals exact Gd.ret (gd_no hE (by decide))
 ·exact ⟨0, by omega, fun j hj => by omega, rfl, rfl, rfl, rfl, rfl, rfl, rfl, rfl, rfl, rfl, rfl⟩
end Go.Proofs.YtjdbdmhjakfldaaGreat
end
section
namespace Go.Proofs.YtjdbdmhjakfldaaGreat
open Go.Bv
def tqsC (ws : List Tq) : List V := ws.flatMap fun t => [.sl t.shape.length (ints t.shape), .sl t.el.length (refsC t.el)]
def q0n : Tq := ⟨[], []⟩
@[go_sem] theorem tqsC_len (ws : List Tq) : (tqsC ws).length = ws.length * 2 := by
 induction ws with
 | nil => rfl
 | cons t ws ih => simp only [tqsC, List.flatMap_cons, List.length_append, List.length_cons, List.length_nil] at ih ⊢; rw [ih]; omega
theorem tqsC_cons (t : Tq) (ws : List Tq) : tqsC (t :: ws) = .sl t.shape.length (ints t.shape) :: .sl t.el.length (refsC t.el) :: tqsC ws := rfl
theorem nth_tqs : ∀ (ws : List Tq) (i : Nat), i < ws.length → nth (tqsC ws) (i * 2) = .sl (ws.getD i q0n).shape.length (ints (ws.getD i q0n).shape) ∧ nth (tqsC ws) (i * 2 + 1) = .sl (ws.getD i q0n).el.length (refsC (ws.getD i q0n).el)
 | [], i, h => by simp at h
 | t :: ws, 0, _ => ⟨rfl, rfl⟩
 | t :: ws, i + 1, h => by
  have := nth_tqs ws i (by simpa using h)
  rw [tqsC_cons, show (i + 1) * 2 = i * 2 + 1 + 1 by omega]
  simpa [nth] using this
@[go_sem] theorem nth_tqs0 (ws : List Tq) (i : Nat) (h : i < ws.length) : nth (tqsC ws) (i * 2) = .sl (ws.getD i q0n).shape.length (ints (ws.getD i q0n).shape) := (nth_tqs ws i h).1
@[go_sem] theorem nth_tqs1 (ws : List Tq) (i : Nat) (h : i < ws.length) : nth (tqsC ws) (i * 2 + 1) = .sl (ws.getD i q0n).el.length (refsC (ws.getD i q0n).el) := (nth_tqs ws i h).2
theorem cloL_tqs (ws : List Tq) : cloL (tqsC ws) = true := by
 induction ws with
 | nil => rfl
 | cons t ws ih => rw [tqsC_cons]; simp [cloL, clo, cloL_ints, cloL_refs, ih]
def sumQ (ws : List Tq) (a : Nat) : Nat → Int
 | 0 => 0
 | k + 1 => sumQ ws a k + (ws.getD k q0n).shape.getD a 0
def fitB (ws : List Tq) (a : Nat) (k : Nat) : Bool := decide ((ws.getD k q0n).shape.length = (ws.getD 0 q0n).shape.length) && (List.range (ws.getD 0 q0n).shape.length).all fun i => decide (i ≠ a → (ws.getD k q0n).shape.getD i 0 = (ws.getD 0 q0n).shape.getD i 0)
def ctS (ws : List Tq) (a : Nat) : List Int := ((ws.getD 0 q0n).shape).set a (sumQ ws a ws.length)
def ctF (ws : List Tq) (axis : Int) : Int :=
 if ¬ (0 ≤ axis ∧ axis < (ws.getD 0 q0n).shape.length) then 11
 else if ¬ (∀ k, k < ws.length → fitB ws axis.toNat k = true) then 13
 else if prodP (ctS ws axis.toNat) > 1024 then 14 else 0
def ctR : List Tq → Nat → List Int → Rq
 | [], _, _ => intQ 0
 | t :: ws, a, x => if x.getD a 0 < t.shape.getD a 0 then atQ t x else ctR ws a (x.set a (x.getD a 0 - t.shape.getD a 0))
def elsC (ws : List Tq) (a : Nat) (S : List Int) (N : Nat) : List Rq := (List.range N).map fun i => ctR ws a (idxL S (i : Nat))
theorem elsC_len (ws : List Tq) (a : Nat) (S : List Int) (N : Nat) : (elsC ws a S N).length = N := by simp [elsC]
theorem elsC_succ (ws : List Tq) (a : Nat) (S : List Int) (N : Nat) : elsC ws a S (N + 1) = elsC ws a S N ++ [ctR ws a (idxL S (N : Nat))] := by simp [elsC, List.range_succ]
def ctQ (ws : List Tq) (axis : Int) : Tq := errQ ⟨ctS ws axis.toNat, elsC ws axis.toNat (ctS ws axis.toNat) (prodL (ctS ws axis.toNat)).toNat⟩ (ctF ws axis)
def ctX : List Tq → Nat → List Int → Nat → List Int
 | _, _, x, 0 => x
 | ws, a, x, k + 1 => (ctX ws a x k).set a ((ctX ws a x k).getD a 0 - (ws.getD k q0n).shape.getD a 0)
theorem ctX_len (ws : List Tq) (a : Nat) (x : List Int) (k : Nat) : (ctX ws a x k).length = x.length := by
 induction k with
 | zero => rfl
 | succ k ih => rw [ctX, List.length_set, ih]
theorem ctX_a (ws : List Tq) (a : Nat) (x : List Int) (ha : a < x.length) : ∀ k : Nat, (ctX ws a x k).getD a 0 = x.getD a 0 - sumQ ws a k
 | 0 => by simp [ctX, sumQ]
 | k + 1 => by
  have ih := ctX_a ws a x ha k
  have hl := ctX_len ws a x k
  have e : (ctX ws a x (k + 1)).getD a 0 = (ctX ws a x k).getD a 0 - (ws.getD k q0n).shape.getD a 0 := by
   rw [ctX]; simp [List.getD, show a < (ctX ws a x k).length by omega]
  rw [e, ih, sumQ]; omega
theorem ctX_b (ws : List Tq) (a : Nat) (x : List Int) {i : Nat} (hi : i ≠ a) : ∀ k : Nat, (ctX ws a x k).getD i 0 = x.getD i 0
 | 0 => rfl
 | k + 1 => by
  have ih := ctX_b ws a x hi k
  rw [ctX]
  simp only [List.getD] at ih ⊢
  rw [List.getElem?_set_ne (Ne.symm hi)]
  exact ih
theorem ctR_step (ws : List Tq) (a : Nat) (x : List Int) (k : Nat) (h : k ≤ ws.length) (hn : ∀ j, j < k → ¬ (ctX ws a x j).getD a 0 < (ws.getD j q0n).shape.getD a 0) : ctR ws a x = ctR (ws.drop k) a (ctX ws a x k) := by
 induction k with
 | zero => rfl
 | succ k ih =>
  rw [ih (by omega) fun j hj => hn j (by omega)]
  have e : ws.drop k = ws.getD k q0n :: ws.drop (k + 1) := by
   rw [List.drop_eq_getElem_cons (by omega)]; simp [List.getD, show k < ws.length by omega]
  rw [e, ctR, if_neg (hn k (by omega))]
  rfl
theorem concat09_spec (ws : List Tq) (hws : ws.length ≤ 1048576) (hw0 : 0 < ws.length) (hok : ∀ j, j < ws.length → FitQ (ws.getD j q0n)) (axis : Int) : Pu C 35 [.int .i64 axis, .sl ws.length (tqsC ws)] (.tup [tqV (ctQ ws axis), .int .i64 (ctF ws axis)]) := by
 have z0 : nth (tqsC ws) 0 = .sl (ws.getD 0 q0n).shape.length (ints (ws.getD 0 q0n).shape) := by simpa using nth_tqs0 ws 0 (by omega)
 refine Pu.ofBor (clo_ans _ _) ?_
 unfold ctQ
 generalize hS : (ws.getD 0 q0n).shape = S0 at *
 refine Fc.bodyT mixed Tryz.func35 w35 rfl Tryz.ntmps35 Tryz.results35 (Nat.le_of_ble_eq_true rfl) ?_
 by_cases hax : 0 ≤ axis ∧ axis < S0.length
 case neg =>
  have hE : ctF ws axis = 11 := by rw [ctF, hS, if_pos hax]
  (refine Go1.out ?_;repeat' ((with_reducible first|refine Go1.mk ?_|((first|apply Br.dec|apply Br.beq|apply Br.bne|apply Br.mk)<;>intro h))<;>try simp -implicitDefEqProofs (maxSteps:=9000000) (disch:=first|omega|(simp only [lens];omega)) only [go_sem, z0]))
  all_goals exact bor_no hE (by decide)
 obtain ⟨a, rfl⟩ : ∃ a : Nat, axis = a := ⟨axis.toNat, by omega⟩
 (refine Go1.out ?_;repeat' ((with_reducible first|refine Go1.mk ?_|((first|apply Br.dec|apply Br.beq|apply Br.bne|apply Br.mk)<;>intro h))<;>try simp -implicitDefEqProofs (maxSteps:=9000000) (disch:=first|omega|(simp only [lens];omega)) only [go_sem, z0]))
 have hF13 : (∃ k, k < ws.length ∧ fitB ws a k = false) → ctF ws a = 13 := by
  rintro ⟨k, hk, hf⟩
  rw [ctF, hS, if_neg (fun h => h ⟨by omega, by omega⟩), Int.toNat_natCast, if_pos]
  intro h
  have := h k hk
  rw [hf] at this; cases this
 have hbd : ∀ j, j < ws.length → ∀ i, i < (ws.getD j q0n).shape.length → 1 ≤ (ws.getD j q0n).shape.getD i 0 ∧ (ws.getD j q0n).shape.getD i 0 ≤ 1024 := fun j hj i hi => by
  obtain ⟨t1, t2, t3⟩ := mayP_zero (hok j hj).m
  have h1 := getD_pos t2 hi
  have h2 := getD_le_prodL t2 hi
  omega
 have hrk : ∀ j, j < ws.length → (ws.getD j q0n).shape.length ≤ 4 := fun j hj => (mayP_zero (hok j hj).m).1
 refine TT_loop_inv (fun n ts H => ∃ (k : Nat), (k ≤ ws.length) ∧ ((∀ j, j < k → fitB ws a j = true)) ∧ ((k : Int) ≤ sumQ ws a k ∧ sumQ ws a k ≤ 1024 * k) ∧ (n = ws.length - k) ∧ (H = [some ⟨34, 2, [.nil, .nil]⟩]) ∧ ts.length = 145 ∧ nth ts 0 = .int .i64 (a : Nat) ∧ nth ts 1 = .sl ws.length (tqsC ws) ∧ nth ts 4 = .ptr 0 0 ∧ nth ts 6 = .sl S0.length (ints S0) ∧ nth ts 7 = .int .i64 (sumQ ws a k) ∧ nth ts 8 = .int .i64 (k : Nat)) ?_ (n := ws.length) ?_
 ·skip
  rintro n ts H ⟨k, hk, hA, hs, hn, hH, hL, hs0, hs1, hs4, hs6, hs7, hs8⟩
  refine TT_env [(0, .int .i64 (a : Nat)), (1, .sl ws.length (tqsC ws)), (4, .ptr 0 0), (6, .sl S0.length (ints S0)), (7, .int .i64 (sumQ ws a k)), (8, .int .i64 (k : Nat))] hL (by simp only [List.forall_mem_cons, hs0, hs1, hs4, hs6, hs7, hs8, true_and]; exact fun _ h => nomatch h) ?_
  clear hL hs0 hs1 hs4 hs6 hs7 hs8 ts
  refine TT_of mixed ?_
  subst hH
  by_cases hkl : k < ws.length
  ·have hbk := hbd k hkl
   have hrk' := hrk k hkl
   have hnx : sumQ ws a (k + 1) = sumQ ws a k + (ws.getD k q0n).shape.getD a 0 := rfl
   have hfA : fitB ws a k = (decide ((ws.getD k q0n).shape.length = S0.length) && (List.range S0.length).all fun i => decide (i ≠ a → (ws.getD k q0n).shape.getD i 0 = S0.getD i 0)) := by rw [fitB, hS]
   generalize hTT : ws.getD k q0n = T at *
   by_cases hln : T.shape.length = S0.length
   ·subst hn
    (refine Go1.out ?_;repeat' ((with_reducible first|refine Go1.mk ?_|((first|apply Br.dec|apply Br.beq|apply Br.bne|apply Br.mk)<;>intro h))<;>try simp -implicitDefEqProofs (maxSteps:=9000000) (disch:=first|omega|(simp only [lens];omega)) only [go_sem, hTT]))
    refine TT_loop_inv (fun n ts H => ∃ (i : Nat), (i ≤ S0.length) ∧ ((∀ j, j < i → (j ≠ a → T.shape.getD j 0 = S0.getD j 0))) ∧ (n = S0.length - i) ∧ (H = [some ⟨34, 2, [.nil, .nil]⟩]) ∧ ts.length = 145 ∧ nth ts 0 = .int .i64 (a : Nat) ∧ nth ts 1 = .sl ws.length (tqsC ws) ∧ nth ts 4 = .ptr 0 0 ∧ nth ts 6 = .sl S0.length (ints S0) ∧ nth ts 7 = .int .i64 (sumQ ws a k) ∧ nth ts 8 = .int .i64 (k : Nat) ∧ nth ts 9 = .int .i64 (i : Nat)) ?_ (n := S0.length) ?_
    ·skip
     rintro n ts H ⟨i, hi, hB, hn, hH, hL, hs0, hs1, hs4, hs6, hs7, hs8, hs9⟩
     refine TT_env [(0, .int .i64 (a : Nat)), (1, .sl ws.length (tqsC ws)), (4, .ptr 0 0), (6, .sl S0.length (ints S0)), (7, .int .i64 (sumQ ws a k)), (8, .int .i64 (k : Nat)), (9, .int .i64 (i : Nat))] hL (by simp only [List.forall_mem_cons, hs0, hs1, hs4, hs6, hs7, hs8, hs9, true_and]; exact fun _ h => nomatch h) ?_
     clear hL hs0 hs1 hs4 hs6 hs7 hs8 hs9 ts
     refine TT_of mixed ?_
     subst hH
     by_cases hil : i < S0.length
     ·by_cases hia : i = a
      ·have hia' : (i : Int) = (a : Nat) := by omega
       (refine Go1.out ?_;repeat' ((with_reducible first|refine Go1.mk ?_|((first|apply Br.dec|apply Br.beq|apply Br.bne|apply Br.mk)<;>intro h))<;>try simp -implicitDefEqProofs (maxSteps:=9000000) (disch:=first|omega|(simp only [lens];omega)) only [go_sem]))
       exact ⟨S0.length - (i + 1), by omega, i + 1, by omega, allS hB (fun h => absurd hia h), rfl, (by (repeat' apply And.intro) <;> (first | rfl | omega | (congr 1; omega) | assumption | (congr 1; assumption)))⟩
      ·by_cases hd : T.shape.getD i 0 = S0.getD i 0
       ·skip
        (refine Go1.out ?_;repeat' ((with_reducible first|refine Go1.mk ?_|((first|apply Br.dec|apply Br.beq|apply Br.bne|apply Br.mk)<;>intro h))<;>try simp -implicitDefEqProofs (maxSteps:=9000000) (disch:=first|omega|(simp only [lens];omega)) only [go_sem, hTT]))
        exact ⟨S0.length - (i + 1), by omega, i + 1, by omega, allS hB (fun _ => hd), rfl, (by (repeat' apply And.intro) <;> (first | rfl | omega | (congr 1; omega) | assumption | (congr 1; assumption)))⟩
       ·have hE := hF13 ⟨k, hkl, by
         rw [hfA]
         cases hc : ((List.range S0.length).all fun i => decide (i ≠ a → T.shape.getD i 0 = S0.getD i 0)) with
         | false => simp
         | true => exact absurd (of_decide_eq_true (List.all_eq_true.1 hc i (List.mem_range.2 hil)) hia) hd⟩
        (refine Go1.out ?_;repeat' ((with_reducible first|refine Go1.mk ?_|((first|apply Br.dec|apply Br.beq|apply Br.bne|apply Br.mk)<;>intro h))<;>try simp -implicitDefEqProofs (maxSteps:=9000000) (disch:=first|omega|(simp only [lens];omega)) only [go_sem, hTT]))
        all_goals exact bor_no hE (by decide)
     ·have his : i = S0.length := by omega
      subst his
      have hfk : fitB ws a k = true := by
       rw [hfA, hln]
       simp only [decide_true, Bool.true_and, List.all_eq_true, List.mem_range, decide_eq_true_eq]
       exact fun j hj hja => hB j hj hja
      have hba := hbk a (by omega)
      (refine Go1.out ?_;repeat' ((with_reducible first|refine Go1.mk ?_|((first|apply Br.dec|apply Br.beq|apply Br.bne|apply Br.mk)<;>intro h))<;>try simp -implicitDefEqProofs (maxSteps:=9000000) (disch:=first|omega|(simp only [lens];omega)) only [go_sem, hTT]))
      exact ⟨ws.length - (k + 1), by omega, k + 1, by omega, allS hA hfk, by rw [hnx]; omega, rfl, by rw [hnx], by congr 1⟩
    ·exact ⟨0, by omega, fun j hj => by omega, rfl, rfl, rfl, rfl, rfl, rfl, rfl, rfl, rfl, rfl⟩
   ·have hE := hF13 ⟨k, hkl, by rw [hfA]; simp [hln]⟩
    (refine Go1.out ?_;repeat' ((with_reducible first|refine Go1.mk ?_|((first|apply Br.dec|apply Br.beq|apply Br.bne|apply Br.mk)<;>intro h))<;>try simp -implicitDefEqProofs (maxSteps:=9000000) (disch:=first|omega|(simp only [lens];omega)) only [go_sem, hTT]))
    exact bor_no hE (by decide)
  ·have hks : k = ws.length := by omega
   subst hks
   have h04 : S0.length ≤ 4 := by have := hrk 0 (by omega); rwa [hS] at this
   have hcS : S0.set a (sumQ ws a ws.length) = ctS ws a := by rw [ctS, hS]
   have hcl : (ctS ws a).length = S0.length := by rw [← hcS]; simp
   have hpos1 : ∀ d ∈ ctS ws a, 1 ≤ d := all_getD.2 fun j hj => by
    rw [← hcS]
    by_cases hja : j = a
    ·subst hja
     have : (S0.set j (sumQ ws j ws.length)).getD j 0 = sumQ ws j ws.length := by simp [List.getD, show j < S0.length by omega]
     rw [this]; omega
    ·have : (S0.set a (sumQ ws a ws.length)).getD j 0 = S0.getD j 0 := by simp [List.getD, Ne.symm hja]
     rw [this]
     have h0 := hbd 0 (by omega) j (by rw [hS]; omega)
     rw [hS] at h0
     exact h0.1
   have hct := count09_spec (ctS ws a) (by omega) hpos1
   (refine Go1.out ?_;repeat' ((with_reducible first|refine Go1.mk ?_|((first|apply Br.dec|apply Br.beq|apply Br.bne|apply Br.mk)<;>intro h))<;>try simp -implicitDefEqProofs (maxSteps:=9000000) (disch:=first|omega|(simp only [lens];omega)) only [go_sem, upd_ints, hcS]))
   have hus : Bv.Own 3 1 [some ⟨34, 2, [.nil, .nil]⟩, some ⟨3, 1, ints (ctS ws a)⟩, some ⟨34, 2, [.ref 1 0 S0.length, .nil]⟩] (.ref 1 0 S0.length) (ctS ws a).length (ints (ctS ws a)) := by rw [hcl]; exact .inr ⟨1, rfl, rfl, by rw [ints_length]; omega⟩
   refine (Val.ofPu hct rfl rfl).call ⟨hus.bor' (cloL_ints _), trivial⟩ rfl ?_
   by_cases hbig : prodL (ctS ws a) > 1024
   ·have hpp : prodP (ctS ws a) = 1025 := by rw [prodP, if_pos hbig]
    have hE : ctF ws a = 14 := by rw [ctF, hS, if_neg (fun h => h ⟨by omega, by omega⟩), Int.toNat_natCast, if_neg (fun h => h hA), hpp]; rfl
    rw [hpp]
    (refine Go1.out ?_;repeat' ((with_reducible first|refine Go1.mk ?_|((first|apply Br.dec|apply Br.beq|apply Br.bne|apply Br.mk)<;>intro h))<;>try simp -implicitDefEqProofs (maxSteps:=9000000) (disch:=first|omega|(simp only [lens];omega)) only [go_sem]))
    exact bor_no hE (by decide)
   have hpp : prodP (ctS ws a) = prodL (ctS ws a) := by rw [prodP, if_neg (by omega)]
   have hE : ctF ws a = 0 := by rw [ctF, hS, if_neg (fun h => h ⟨by omega, by omega⟩), Int.toNat_natCast, if_neg (fun h => h hA), hpp, if_neg (by omega)]
   rw [errQ_ok hE, hE, Int.toNat_natCast]
   have hpos := prodL_pos hpos1
   obtain ⟨N, hN⟩ : ∃ N : Nat, (N : Int) = prodL (ctS ws a) := ⟨(prodL (ctS ws a)).toNat, by omega⟩
   have hNN : (prodL (ctS ws a)).toNat = N := by omega
   rw [hNN, hpp]
   rw [hpp, ← hN] at hct
   (refine Go1.out ?_;repeat' ((with_reducible first|refine Go1.mk ?_|((first|apply Br.dec|apply Br.beq|apply Br.bne|apply Br.mk)<;>intro h))<;>try simp -implicitDefEqProofs (maxSteps:=9000000) (disch:=first|omega|(simp only [lens];omega)) only [go_sem]))
   refine TT_loop_inv (fun n ts H => ∃ (i : Nat) (w : V), (i ≤ N) ∧ (n = N - i) ∧ (rowOf H 0 = some ⟨34, 2, [.nil, .nil]⟩) ∧ (rowOf H 1 = some ⟨3, 1, ints (ctS ws a)⟩) ∧ (rowOf H 2 = some ⟨34, 2, [.ref 1 0 S0.length, w]⟩) ∧ (Bv.Own 72 3 H w i (refsC (elsC ws a (ctS ws a) i))) ∧ ts.length = 145 ∧ nth ts 0 = .int .i64 (a : Nat) ∧ nth ts 1 = .sl ws.length (tqsC ws) ∧ nth ts 4 = .ptr 0 0 ∧ nth ts 10 = .ptr 2 0 ∧ nth ts 11 = .int .i64 (i : Nat)) ?_ (n := N) ?_
   ·skip
    rintro n ts H ⟨i, w, hi, hn, h0, h1, h2, hw, hL, hs0, hs1, hs4, hs10, hs11⟩
    refine TT_env [(0, .int .i64 (a : Nat)), (1, .sl ws.length (tqsC ws)), (4, .ptr 0 0), (10, .ptr 2 0), (11, .int .i64 (i : Nat))] hL (by simp only [List.forall_mem_cons, hs0, hs1, hs4, hs10, hs11, true_and]; exact fun _ h => nomatch h) ?_
    clear hL hs0 hs1 hs4 hs10 hs11 ts
    refine TT_of mixed ?_
    have hu : Bv.Own 3 1 H (.ref 1 0 S0.length) (ctS ws a).length (ints (ctS ws a)) := by rw [hcl]; exact .inr ⟨1, rfl, h1, by rw [ints_length]; omega⟩
    (refine Go1.out ?_;repeat' ((with_reducible first|refine Go1.mk ?_|((first|apply Br.dec|apply Br.beq|apply Br.bne|apply Br.mk)<;>intro h))<;>try simp -implicitDefEqProofs (maxSteps:=9000000) (disch:=first|omega|(simp only [lens];omega)) only [go_sem, h2]))
    refine (Val.ofPu hct rfl rfl).call ⟨hu.bor' (cloL_ints _), trivial⟩ rfl ?_
    by_cases hcase : i < N
    ·have hix := index09_row (ctS ws a) (i : Nat) (by omega) hpos1 (by omega) (by omega) (by omega)
     (refine Go1.out ?_;repeat' ((with_reducible first|refine Go1.mk ?_|((first|apply Br.dec|apply Br.beq|apply Br.bne|apply Br.mk)<;>intro h))<;>try simp -implicitDefEqProofs (maxSteps:=9000000) (disch:=first|omega|(simp only [lens];omega)) only [go_sem, h2]))
     refine Fc.rowc hix ⟨hu.bor' (cloL_ints _), .self rfl, trivial⟩ (fun g => renL_ints g _) (plainL_ints _) ?_
     obtain ⟨r, hr0⟩ : ∃ r, H.length = r := ⟨_, rfl⟩
     have hr3 : 2 < r := by rw [← hr0]; exact rowOf_lt h2
     have b0 := rowOf_keep h0 [some ⟨3, 1, ints (idxL (ctS ws a) (i : Nat))⟩]
     have b1 := rowOf_keep h1 [some ⟨3, 1, ints (idxL (ctS ws a) (i : Nat))⟩]
     have b2 := rowOf_keep h2 [some ⟨3, 1, ints (idxL (ctS ws a) (i : Nat))⟩]
     have bw := hw.keep [some ⟨3, 1, ints (idxL (ctS ws a) (i : Nat))⟩]
     have br : rowOf (H ++ [some (⟨3, 1, ints (idxL (ctS ws a) (i : Nat))⟩ : Row)]) r = some ⟨3, 1, ints (idxL (ctS ws a) (i : Nat))⟩ := by rw [← hr0]; exact rowOf_snoc _ _
     have hlx : (idxL (ctS ws a) (i : Nat)).length = S0.length := by rw [idxL_len, hcl]
     have hxi := idxL_in hpos1 (i : Nat)
     rw [hr0]
     generalize hH5 : H ++ [some (⟨3, 1, ints (idxL (ctS ws a) (i : Nat))⟩ : Row)] = H5 at *
     generalize hxe : idxL (ctS ws a) (i : Nat) = x at *
     have hxa := hxi a (by omega)
     have hxs : (ctS ws a).getD a 0 = sumQ ws a ws.length := by rw [← hcS]; simp [List.getD, show a < S0.length by omega]
     rw [hxs] at hxa
     subst hn
     clear hH5 hr0
     (refine Go1.out ?_;repeat' ((with_reducible first|refine Go1.mk ?_|((first|apply Br.dec|apply Br.beq|apply Br.bne|apply Br.mk)<;>intro h))<;>try simp -implicitDefEqProofs (maxSteps:=9000000) (disch:=first|omega|(simp only [lens];omega)) only [go_sem]))
     refine TT_loop_inv (fun n ts H => ∃ (k : Nat), (k < ws.length) ∧ ((∀ j, j < k → ¬ (ctX ws a x j).getD a 0 < (ws.getD j q0n).shape.getD a 0)) ∧ (sumQ ws a k ≤ x.getD a 0) ∧ (n = ws.length - k) ∧ (rowOf H 0 = some ⟨34, 2, [.nil, .nil]⟩) ∧ (rowOf H 1 = some ⟨3, 1, ints (ctS ws a)⟩) ∧ (rowOf H 2 = some ⟨34, 2, [.ref 1 0 S0.length, w]⟩) ∧ (Bv.Own 72 3 H w i (refsC (elsC ws a (ctS ws a) i))) ∧ (rowOf H r = some ⟨3, 1, ints (ctX ws a x k)⟩) ∧ ts.length = 145 ∧ nth ts 0 = .int .i64 (a : Nat) ∧ nth ts 1 = .sl ws.length (tqsC ws) ∧ nth ts 4 = .ptr 0 0 ∧ nth ts 10 = .ptr 2 0 ∧ nth ts 11 = .int .i64 (i : Nat) ∧ nth ts 12 = .ref r 0 (ctS ws a).length ∧ nth ts 13 = .int .i64 (k : Nat)) ?_ (n := ws.length) ?_
     ·skip
      rintro n ts H ⟨k, hk, hg, hp, hn, h0, h1, h2, hw, hr, hL, hs0, hs1, hs4, hs10, hs11, hs12, hs13⟩
      refine TT_env [(0, .int .i64 (a : Nat)), (1, .sl ws.length (tqsC ws)), (4, .ptr 0 0), (10, .ptr 2 0), (11, .int .i64 (i : Nat)), (12, .ref r 0 (ctS ws a).length), (13, .int .i64 (k : Nat))] hL (by simp only [List.forall_mem_cons, hs0, hs1, hs4, hs10, hs11, hs12, hs13, true_and]; exact fun _ h => nomatch h) ?_
      clear hL hs0 hs1 hs4 hs10 hs11 hs12 hs13 ts
      have hax' := ctX_a ws a x (by omega) k
      have hzl := ctX_len ws a x k
      have hTb := hbd k hk
      have hfk := hA k hk
      rw [fitB, Bool.and_eq_true, decide_eq_true_eq, hS] at hfk
      obtain ⟨hTl, hTe⟩ := hfk
      have hTa := hTb a (by omega)
      have hnx : (ctX ws a x k).set a ((ctX ws a x k).getD a 0 - (ws.getD k q0n).shape.getD a 0) = ctX ws a x (k + 1) := rfl
      have hsn : sumQ ws a (k + 1) = sumQ ws a k + (ws.getD k q0n).shape.getD a 0 := rfl
      have hxu : x.getD a 0 ≤ 1024 := by have := getD_le_prodL hpos1 (i := a) (by omega); rw [hxs] at this; omega
      have hsk : 0 ≤ sumQ ws a k := by
       have hgen : ∀ m : Nat, m ≤ ws.length → 0 ≤ sumQ ws a m := fun m => by
        induction m with
        | zero => intro _; simp [sumQ]
        | succ m ih =>
         intro hm
         have h1 := ih (by omega)
         have h2 := hA m (by omega)
         rw [fitB, Bool.and_eq_true, decide_eq_true_eq, hS] at h2
         have h3 := hbd m (by omega) a (by omega)
         rw [sumQ]; omega
       exact hgen k (by omega)
      by_cases hlt : (ctX ws a x k).getD a 0 < (ws.getD k q0n).shape.getD a 0
      ·have hst := ctR_step ws a x k (by omega) hg
       have hdr : ws.drop k = ws.getD k q0n :: ws.drop (k + 1) := by
        rw [List.drop_eq_getElem_cons (by omega)]; simp [List.getD, show k < ws.length by omega]
       have hcr : ctR ws a x = atQ (ws.getD k q0n) (ctX ws a x k) := by rw [hst, hdr, ctR, if_pos hlt]
       have hat := at09_spec (ws.getD k q0n) (hok k hk).ok (hok k hk).m (hok k hk).l (ctX ws a x k) (by omega) fun j hj => by
        by_cases hja : j = a
        ·subst hja; omega
        ·rw [ctX_b ws a x hja]
         have h5 := hxi j (by omega)
         have h6 := getD_le_prodL hpos1 (i := j) (by omega)
         omega
       rw [← hcr] at hat
       generalize hTT : ws.getD k q0n = T at *
       refine TT_seal hr (cloL_ints _) ?_
       rw [szL_env]
       have n0 : ¬ 0 = r := by omega
       have n2 : ¬ 2 = r := by omega
       simp only [List.map_cons, List.map_nil, sz, szL_clo _ _ _ (cloL_tqs _), n0, n2, if_true, if_false, List.drop_zero]
       have g0 : rowOf (H.set r none) 0 = _ := (rowOf_set_ne _ (by omega)).trans h0
       have g1 : rowOf (H.set r none) 1 = _ := (rowOf_set_ne _ (by omega)).trans h1
       have g2 : rowOf (H.set r none) 2 = _ := (rowOf_set_ne _ (by omega)).trans h2
       have hw' := own_set (z := none) hw hr (by decide)
       generalize H.set r none = H at *
       rw [show (ctS ws a).length = (ctX ws a x k).length by omega]
       refine TT_of mixed ?_
       have hlw := hw'.lenw (C.ty 32)
       (refine Go1.out ?_;repeat' ((with_reducible first|refine Go1.mk ?_|((first|apply Br.dec|apply Br.beq|apply Br.bne|apply Br.mk)<;>intro h))<;>try simp -implicitDefEqProofs (maxSteps:=9000000) (disch:=first|omega|(simp only [lens];omega)) only [go_sem, g2, hTT]))
       refine Pc.pure hat (by simp [cloL, clo, cloL_ints, cloL_refs]) (fun g => ren_clo g _ (clo_refV _)) ?_
       (refine Go1.out ?_;repeat' ((with_reducible first|refine Go1.mk ?_|((first|apply Br.dec|apply Br.beq|apply Br.bne|apply Br.mk)<;>intro h))<;>try simp -implicitDefEqProofs (maxSteps:=9000000) (disch:=first|omega|(simp only [lens];omega)) only [go_sem, g2, hlw]))
       refine push_ref hw' rfl rfl (by omega) fun w' H6 hw6 hF hkw => ?_
       obtain ⟨kw1, kw2, kw3⟩ := hkw
       have f0 := fr_keep hw' hF g0 (by decide)
       have f1 := fr_keep hw' hF g1 (by decide)
       have f2 := fr_keep hw' hF g2 (by decide)
       (refine Go1.out ?_;repeat' ((with_reducible first|refine Go1.mk ?_|((first|apply Br.dec|apply Br.beq|apply Br.bne|apply Br.mk)<;>intro h))<;>try simp -implicitDefEqProofs (maxSteps:=9000000) (disch:=first|omega|(simp only [lens];omega)) only [go_sem, f2, kw1, kw2, kw3]))
       rw [show elsC ws a (ctS ws a) i ++ [ctR ws a x] = elsC ws a (ctS ws a) (i + 1) by rw [elsC_succ, hxe]] at hw6
       exact ⟨N - (i + 1), by omega, i + 1, w', by omega, rfl, by rw [rowOf_set_ne _ (by decide)]; exact f0, by rw [rowOf_set_ne _ (by decide)]; exact f1, rowOf_set_eq f2, own_set hw6 f2 (by decide), (by (repeat' apply And.intro) <;> (first | rfl | omega | (congr 1; omega) | assumption | (congr 1; assumption)))⟩
      ·refine TT_of mixed ?_
       have hk1 : k + 1 < ws.length := by
        refine Classical.byContradiction fun hn => ?_
        have : k + 1 = ws.length := by omega
        rw [this] at hsn
        omega
       (refine Go1.out ?_;repeat' ((with_reducible first|refine Go1.mk ?_|((first|apply Br.dec|apply Br.beq|apply Br.bne|apply Br.mk)<;>intro h))<;>try simp -implicitDefEqProofs (maxSteps:=9000000) (disch:=first|omega|(simp only [lens];omega)) only [go_sem, hr, upd_ints, hnx]))
       exact ⟨ws.length - (k + 1), by omega, k + 1, by omega, allS hg hlt, by rw [hsn]; omega, rfl, by rw [rowOf_set_ne _ (by omega)]; exact h0, by rw [rowOf_set_ne _ (by omega)]; exact h1, by rw [rowOf_set_ne _ (by omega)]; exact h2, own_set hw hr (by decide), rowOf_set_eq hr, (by (repeat' apply And.intro) <;> (first | rfl | omega | (congr 1; omega) | assumption | (congr 1; assumption)))⟩
     ·exact ⟨0, by omega, fun j hj => by omega, by simpa [sumQ] using hxa.1, rfl, b0, b1, b2, bw, br, rfl, rfl, rfl, rfl, rfl, rfl, rfl, rfl⟩
    ·have hsw : kn w = true ∧ cellsOf w = [w] ∧ scal w = true := by rcases hw with ⟨rfl, _⟩ | ⟨r, rfl, _⟩ <;> exact ⟨rfl, rfl, rfl⟩
     obtain ⟨a1, a2, a3⟩ := hsw
     have hst : ∀ z : Row, rowOf (H.set 0 (some z)) 0 = some z := fun z => rowOf_set_eq h0
     (refine Go1.out ?_;repeat' ((with_reducible first|refine Go1.mk ?_|((first|apply Br.dec|apply Br.beq|apply Br.bne|apply Br.mk)<;>intro h))<;>try simp -implicitDefEqProofs (maxSteps:=9000000) (disch:=first|omega|(simp only [lens];omega)) only [go_sem, h2, h0, hst, a1, a2, a3]))
     have hiN : i = N := by omega
     subst hiN
     have hsl := elsC_len ws a (ctS ws a) i
     have eu := (own_far (z := some ⟨34, 2, [.ref 1 0 S0.length, w]⟩) (q := 0) hu fun r off m e => by injection e with e; omega).bor' (cloL_ints _)
     have ew := (own_set (z := some ⟨34, 2, [.ref 1 0 S0.length, w]⟩) hw h0 (by decide)).bor' (cloL_refs _)
     refine Bor.tupL ⟨Bor.aggL ⟨eu, ?_, trivial⟩, .self rfl, trivial⟩
     show Bor _ w (.sl (elsC ws a (ctS ws a) i).length (refsC (elsC ws a (ctS ws a) i)))
     rw [hsl]; exact ew
   ·exact ⟨0, .nil, by omega, rfl, rfl, rfl, rfl, Bv.Own.nil _ _ _, rfl, rfl, rfl, rfl, rfl, rfl⟩
 ·exact ⟨0, by omega, fun j hj => by omega, by simp [sumQ], rfl, rfl, rfl, rfl, rfl, rfl, rfl, rfl, rfl⟩
end Go.Proofs.YtjdbdmhjakfldaaGreat
end
section
namespace Go.Proofs.YtjdbdmhjakfldaaGreat
open Go.Bv
theorem set_sub (x : List Int) (a : Nat) (d : Int) (ha : a < x.length) (i : Nat) : (x.set a (x.getD a 0 - d)).getD i 0 = if i = a then x.getD a 0 - d else x.getD i 0 := by
 by_cases hia : i = a
 ·subst hia; simp [List.getD, ha]
 ·rw [if_neg hia]; simp [List.getD, Ne.symm hia]
theorem catR_ctR : ∀ (tl : List Tn) (a : Nat) (x : List Int) (n : Nat), x.length = n → a < n → (∀ j, j < tl.length → mayT (tl.getD j t0n) = 0 ∧ (tl.getD j t0n).shape.length = n) → (∀ j, j < tl.length → ∀ i, i < n → i ≠ a → 0 ≤ x.getD i 0 ∧ x.getD i 0 < (tl.getD j t0n).shape.getD i 0) → 0 ≤ x.getD a 0 → (catR tl a x).2 = true → ctR (tl.map tnOf) a x = valQ (catR tl a x).1
 | [], a, x, n, hx, ha, hm, hi, h0, h1 => by simp [catR] at h1
 | t :: tl, a, x, n, hx, ha, hm, hi, h0, h1 => by
  have e0 : (t :: tl).getD 0 t0n = t := rfl
  obtain ⟨hmt, hl0⟩ := hm 0 (by simp)
  rw [e0] at hmt hl0
  obtain ⟨hf, hm0, hel⟩ := mayT_zero hmt
  rw [catR] at h1 ⊢
  rw [List.map_cons, ctR]
  have es : (tnOf t).shape = t.shape := rfl
  rw [es]
  by_cases hlt : x.getD a 0 < t.shape.getD a 0
  ·have hin : inB t.shape x = true := inB_iff.2 fun i hi' => by
    by_cases hia : i = a
    ·subst hia; exact ⟨h0, hlt⟩
    ·have := hi 0 (by simp) i (by omega) hia
     rwa [e0] at this
   have hz : offE t.shape x = 0 := by rw [offE, if_neg (by omega), if_neg (by omega), if_pos hin]
   rw [if_pos hlt, if_pos hz, pickT, ← atG_atQ (tnOf t) hm0 x (by rw [es]; omega), atG, es, if_pos hz]
   obtain ⟨o1, o2, o3⟩ := offN_lt hz
   have hk : (offN t.shape x).toNat < t.el.length := by omega
   show (t.el.map valQ).getD _ q0 = _
   simp [List.getD, hk]
  ·have hin : ¬ inB t.shape x = true := fun h => hlt ((inB_iff.1 h a (by omega)).2)
   have hz : ¬ offE t.shape x = 0 := by rw [offE, if_neg (by omega), if_neg (by omega), if_neg hin]; decide
   rw [if_neg hz] at h1 ⊢
   rw [if_neg hlt]
   have hg := set_sub x a (t.shape.getD a 0) (by omega)
   refine catR_ctR tl a _ n (by simp [hx]) ha (fun j hj => by have := hm (j + 1) (by simpa using hj); simpa using this) (fun j hj i hi' hia => ?_) ?_ h1
   ·rw [hg, if_neg hia]
    have := hi (j + 1) (by simpa using hj) i hi' hia
    simpa using this
   ·rw [hg, if_pos rfl]; omega
theorem getD_tq {tl : List Tn} {k : Nat} (hk : k < tl.length) (f : Tn → Tq) : (tl.map f).getD k q0n = f (tl.getD k t0n) := by simp [List.getD, hk]
theorem sumQ_map (tl : List Tn) (a : Nat) : ∀ k : Nat, k ≤ tl.length → sumQ (tl.map tnOf) a k = sumK tl a k
 | 0, _ => rfl
 | k + 1, h => by rw [sumQ, sumK, sumQ_map tl a k (by omega), getD_tq (by omega)]; rfl
theorem fitB_map {tl : List Tn} {a k : Nat} (hk : k < tl.length) : fitB (tl.map tnOf) a k = fitA tl a k := by
 rw [fitB, fitA, getD_tq hk, getD_tq (by omega)]; rfl
theorem ctS_map {tl : List Tn} (a : Nat) (h : 0 < tl.length) : ctS (tl.map tnOf) a = catS tl a tl.length := by
 rw [ctS, catS, List.length_map, sumQ_map tl a _ (Nat.le_refl _), getD_tq h]; rfl
theorem ofT_map {tl : List Tn} (h : firstM tl = 0) : tl.map ofT = tl.map tnOf :=
 List.map_congr_left fun t ht => by
  obtain ⟨j, hj, rfl⟩ := List.getElem_of_mem ht
  have := firstM_zero.1 h j hj
  rw [show tl.getD j t0n = tl[j] by simp [List.getD, hj]] at this
  exact if_neg (by omega)
structure CatOK (tl : List Tn) (a : Nat) : Prop where
 n : 0 < tl.length
 m : ∀ j, j < tl.length → mayT (tl.getD j t0n) = 0
 ha : a < (tl.getD 0 t0n).shape.length
 f : ∀ j, j < tl.length → (tl.getD j t0n).shape.length = (tl.getD 0 t0n).shape.length ∧ ∀ i, i < (tl.getD 0 t0n).shape.length → i ≠ a → (tl.getD j t0n).shape.getD i 0 = (tl.getD 0 t0n).shape.getD i 0
 s : ∀ k, k < tl.length → mayP (catS tl a (k + 1)) = 0
theorem fitA_iff {tl : List Tn} {a k : Nat} : fitA tl a k = true ↔ (tl.getD k t0n).shape.length = (tl.getD 0 t0n).shape.length ∧ ∀ i, i < (tl.getD 0 t0n).shape.length → i ≠ a → (tl.getD k t0n).shape.getD i 0 = (tl.getD 0 t0n).shape.getD i 0 := by
 rw [fitA, Bool.and_eq_true, decide_eq_true_eq, List.all_eq_true]
 simp only [List.mem_range, decide_eq_true_eq]
theorem catE_zero {tl : List Tn} {axis : Int} (h : catE tl axis = 0) : ∃ a : Nat, axis = a ∧ CatOK tl a := by
 rw [catE] at h
 split at h
 ·cases h
 split at h
 ·contradiction
 split at h
 ·cases h
 split at h
 ·cases h
 split at h
 ·cases h
 rename_i h1 h2 h3 h4 h5
 have h3 := Classical.not_not.1 h3
 have h4 := Classical.not_not.1 h4
 have h5 := Classical.not_not.1 h5
 have h2 : firstM tl = 0 := by omega
 refine ⟨axis.toNat, by omega, by omega, firstM_zero.1 h2, by omega, fun j hj => fitA_iff.1 (h4 j hj), h5⟩
theorem CatOK.d {tl : List Tn} {a : Nat} (h : CatOK tl a) {j i : Nat} (hj : j < tl.length) (hi : i < (tl.getD 0 t0n).shape.length) : 1 ≤ (tl.getD j t0n).shape.getD i 0 ∧ (tl.getD j t0n).shape.getD i 0 ≤ 1024 := by
 obtain ⟨_, hm, _⟩ := mayT_zero (h.m j hj)
 obtain ⟨t1, t2, t3⟩ := mayP_zero hm
 have hl := (h.f j hj).1
 have h1 := getD_pos t2 (i := i) (by omega)
 have h2 := getD_le_prodL t2 (i := i) (by omega)
 omega
theorem CatOK.last {tl : List Tn} {a : Nat} (h : CatOK tl a) : mayP (catS tl a tl.length) = 0 := by
 have := h.s (tl.length - 1) (by have := h.n; omega)
 rwa [show tl.length - 1 + 1 = tl.length by have := h.n; omega] at this
theorem catS_at {tl : List Tn} {a : Nat} (ha : a < (tl.getD 0 t0n).shape.length) (k : Nat) (i : Nat) : (catS tl a k).getD i 0 = if i = a then sumK tl a k else (tl.getD 0 t0n).shape.getD i 0 := by
 rw [catS]
 generalize (tl.getD 0 t0n).shape = S at *
 by_cases hia : i = a
 ·subst hia; simp [List.getD, ha]
 ·rw [if_neg hia]; simp [List.getD, Ne.symm hia]
theorem CatOK.x {tl : List Tn} {a : Nat} (h : CatOK tl a) {x : List Int} (hx : ∀ i, i < (tl.getD 0 t0n).shape.length → 0 ≤ x.getD i 0 ∧ x.getD i 0 < (catS tl a tl.length).getD i 0) : (∀ j, j < tl.length → ∀ i, i < (tl.getD 0 t0n).shape.length → i ≠ a → 0 ≤ x.getD i 0 ∧ x.getD i 0 < (tl.getD j t0n).shape.getD i 0) ∧ 0 ≤ x.getD a 0 ∧ x.getD a 0 < sumK tl a tl.length := by
 refine ⟨fun j hj i hi hia => ?_, ?_⟩
 ·have := hx i hi
  rw [catS_at h.ha, if_neg hia, ← (h.f j hj).2 i hi hia] at this
  exact this
 ·have := hx a h.ha
  rw [catS_at h.ha, if_pos rfl] at this
  exact this
theorem CatOK.found {tl : List Tn} {a : Nat} (h : CatOK tl a) {x : List Int} (hl : x.length = (tl.getD 0 t0n).shape.length) (hx : ∀ i, i < (tl.getD 0 t0n).shape.length → 0 ≤ x.getD i 0 ∧ x.getD i 0 < (catS tl a tl.length).getD i 0) : (catR tl a x).2 = true := by
 obtain ⟨h1, h2, h3⟩ := h.x hx
 refine catR_found tl a x _ hl h.ha (fun j hj => ⟨(mayT_zero (h.m j hj)).2.1, (h.f j hj).1⟩) h1 h2 ?_
 have := sumK_fold tl a tl.length (Nat.le_refl _)
 rw [List.take_length] at this
 rw [this]; exact h3
theorem CatOK.ct {tl : List Tn} {a : Nat} (h : CatOK tl a) {x : List Int} (hl : x.length = (tl.getD 0 t0n).shape.length) (hx : ∀ i, i < (tl.getD 0 t0n).shape.length → 0 ≤ x.getD i 0 ∧ x.getD i 0 < (catS tl a tl.length).getD i 0) : ctR (tl.map tnOf) a x = valQ (catR tl a x).1 := by
 obtain ⟨h1, h2, h3⟩ := h.x hx
 exact catR_ctR tl a x _ hl h.ha (fun j hj => ⟨h.m j hj, (h.f j hj).1⟩) h1 h2 (h.found hl hx)
theorem catS_pos {tl : List Tn} {a : Nat} (h0 : 0 < tl.length) (hm : ∀ j, j < tl.length → mayT (tl.getD j t0n) = 0) (ha : a < (tl.getD 0 t0n).shape.length) (hf : ∀ j, j < tl.length → fitA tl a j = true) {k : Nat} (hk : k < tl.length) : ∀ i, i < (catS tl a (k + 1)).length → 1 ≤ (catS tl a (k + 1)).getD i 0 ∧ (catS tl a (k + 1)).getD i 0 ≤ (catS tl a tl.length).getD i 0 := by
 have hd : ∀ j, j < tl.length → ∀ i, i < (tl.getD 0 t0n).shape.length → 1 ≤ (tl.getD j t0n).shape.getD i 0 := fun j hj i hi => by
  obtain ⟨_, hm, _⟩ := mayT_zero (hm j hj)
  obtain ⟨t1, t2, t3⟩ := mayP_zero hm
  have hl := (fitA_iff.1 (hf j hj)).1
  exact getD_pos t2 (i := i) (by omega)
 have hmono : ∀ m : Nat, k + 1 ≤ m → m ≤ tl.length → sumK tl a (k + 1) ≤ sumK tl a m := fun m => by
  induction m with
  | zero => intro h; omega
  | succ m ih =>
   intro h1 h2
   by_cases he : k = m
   ·subst he; exact Int.le_refl _
   ·have := ih (by omega) (by omega)
    have := hd m (by omega) a ha
    show _ ≤ sumK tl a m + _
    omega
 have hpos : ∀ m : Nat, m ≤ tl.length → 0 ≤ sumK tl a m := fun m => by
  induction m with
  | zero => intro _; simp [sumK]
  | succ m ih =>
   intro h2
   have := ih (by omega)
   have := hd m (by omega) a ha
   rw [sumK]; omega
 intro i hi
 rw [catS_len] at hi
 rw [catS_at ha, catS_at ha]
 by_cases hia : i = a
 ·rw [if_pos hia, if_pos hia]
  have h1 := hmono tl.length (by omega) (Nat.le_refl _)
  have h2 := hpos k (by omega)
  have h3 := hd k (by omega) a ha
  rw [show sumK tl a (k + 1) = sumK tl a k + (tl.getD k t0n).shape.getD a 0 from rfl] at h1 ⊢
  omega
 ·rw [if_neg hia, if_neg hia]
  exact ⟨hd 0 h0 i hi, by omega⟩
theorem ctF_map {tl : List Tn} (h0 : 0 < tl.length) (hF : firstM tl = 0) (axis : Int) : ctF (tl.map tnOf) axis = catE tl axis := by
 have hm := firstM_zero.1 hF
 rw [catE, if_neg (by omega), if_neg (by omega), ctF, getD_tq h0]
 have es : (tnOf (tl.getD 0 t0n)).shape = (tl.getD 0 t0n).shape := rfl
 rw [es]
 by_cases hax : 0 ≤ axis ∧ axis < (tl.getD 0 t0n).shape.length
 case neg => rw [if_pos hax, if_pos hax]
 have n1 : ¬ ¬ (0 ≤ axis ∧ axis < (tl.getD 0 t0n).shape.length) := fun h => h hax
 rw [if_neg n1, if_neg n1]
 obtain ⟨a, rfl⟩ : ∃ a : Nat, axis = a := ⟨axis.toNat, by omega⟩
 rw [Int.toNat_natCast]
 have ha : a < (tl.getD 0 t0n).shape.length := by omega
 have hfi : (∀ k, k < (tl.map tnOf).length → fitB (tl.map tnOf) a k = true) ↔ ∀ k, k < tl.length → fitA tl a k = true := by
  rw [List.length_map]
  exact ⟨fun h k hk => by rw [← fitB_map hk]; exact h k hk, fun h k hk => by rw [fitB_map hk]; exact h k hk⟩
 by_cases hf : ∀ k, k < tl.length → fitA tl a k = true
 case neg =>
  have n2 : ¬ ∀ k, k < (tl.map tnOf).length → fitB (tl.map tnOf) a k = true := fun h => hf (hfi.1 h)
  rw [if_pos n2, if_pos hf]
 have n2 : ¬ ¬ ∀ k, k < (tl.map tnOf).length → fitB (tl.map tnOf) a k = true := fun h => h (hfi.2 hf)
 have n3 : ¬ ¬ ∀ k, k < tl.length → fitA tl a k = true := fun h => h hf
 rw [if_neg n2, if_neg n3, ctS_map a h0]
 have hS4 : (tl.getD 0 t0n).shape.length ≤ 4 := (mayP_zero (mayT_zero (hm 0 h0)).2.1).1
 by_cases hs : ∀ k, k < tl.length → mayP (catS tl a (k + 1)) = 0
 ·have n4 : ¬ ¬ ∀ k, k < tl.length → mayP (catS tl a (k + 1)) = 0 := fun h => h hs
  rw [if_neg n4]
  have hl := hs (tl.length - 1) (by omega)
  rw [show tl.length - 1 + 1 = tl.length by omega] at hl
  have := (mayP_zero hl).2.2
  rw [prodP, if_neg (by omega)]; first | done | exact if_neg (by omega)
 ·rw [if_pos hs]
  have hbig : prodL (catS tl a tl.length) > 1024 := by
   refine Int.not_le.1 fun hle => hs fun k hk => ?_
   have hp := catS_pos h0 hm ha hf hk
   refine mayP_ok (by rw [catS_len]; exact hS4) (fun i hi => (hp i hi).1) ?_
   have := prodL_mono (a := catS tl a (k + 1)) (b := catS tl a tl.length) (by rw [catS_len, catS_len]) hp
   omega
  rw [prodP, if_pos hbig, if_pos (by decide)]
theorem cat_back {tl : List Tn} {a : Nat} (h : CatOK tl a) : normT ⟨catS tl a tl.length, catL tl a (catS tl a tl.length) (prodL (catS tl a tl.length)).toNat⟩ = tnBack ⟨catS tl a tl.length, elsC (tl.map tnOf) a (catS tl a tl.length) (prodL (catS tl a tl.length)).toNat⟩ := by
 obtain ⟨m1, m2, m3⟩ := mayP_zero h.last
 show (⟨_, ((catL tl a (catS tl a tl.length) (prodL (catS tl a tl.length)).toNat).map valQ).map rawOf⟩ : Tn) = ⟨_, (elsC _ _ _ _).map rawOf⟩
 congr 2
 rw [catL, gatL, elsC, List.map_map]
 refine List.map_congr_left fun i _ => ?_
 have hl : (idxL (catS tl a tl.length) (i : Nat)).length = (tl.getD 0 t0n).shape.length := by rw [idxL_len, catS_len]
 have hx : ∀ j, j < (tl.getD 0 t0n).shape.length → 0 ≤ (idxL (catS tl a tl.length) (i : Nat)).getD j 0 ∧ (idxL (catS tl a tl.length) (i : Nat)).getD j 0 < (catS tl a tl.length).getD j 0 := fun j hj => idxL_in m2 (i : Nat) j (by rw [catS_len]; exact hj)
 simp only [Function.comp]
 rw [if_pos (h.found hl hx), h.ct hl hx]
theorem cat_isT {tl : List Tn} {axis : Int} (h : catE tl axis = 0) : isT (ctQ (tl.map tnOf) axis) (catT tl axis) = true := by
 obtain ⟨a, rfl, hc⟩ := catE_zero h
 have hF := firstM_zero.2 hc.m
 rw [catT, errT_ok h, ctQ, errQ_ok (by rw [ctF_map hc.n hF]; exact h), Int.toNat_natCast, ctS_map a hc.n, cat_back hc]
 exact isT_back _
theorem catT_ok {tl : List Tn} (hok : ∀ j, j < tl.length → TnOK (tl.getD j t0n)) (axis : Int) : TnOK (catT tl axis) := errT_TnOK fun h => by
 obtain ⟨a, rfl, hc⟩ := catE_zero h
 rw [Int.toNat_natCast]
 obtain ⟨m1, m2, m3⟩ := mayP_zero hc.last
 refine normT_ok ⟨by show (catS tl a tl.length).length ≤ _; omega, by show (catL _ _ _ _).length ≤ _; rw [catL, gatL_len]; omega, fun x hx => ?_⟩
 have hx : x ∈ catL tl a (catS tl a tl.length) (prodL (catS tl a tl.length)).toNat := hx
 simp only [catL, gatL, List.mem_map] at hx
 obtain ⟨i, _, rfl⟩ := hx
 have hl : (idxL (catS tl a tl.length) (i : Nat)).length = (tl.getD 0 t0n).shape.length := by rw [idxL_len, catS_len]
 have hxx : ∀ j, j < (tl.getD 0 t0n).shape.length → 0 ≤ (idxL (catS tl a tl.length) (i : Nat)).getD j 0 ∧ (idxL (catS tl a tl.length) (i : Nat)).getD j 0 < (catS tl a tl.length).getD j 0 := fun j hj => idxL_in m2 (i : Nat) j (by rw [catS_len]; exact hj)
 rw [if_pos (hc.found hl hxx)]
 exact catR_ok tl a _ (fun j hj => ⟨hok j hj, (mayT_zero (hc.m j hj)).1⟩) (hc.found hl hxx)
theorem ctR_ok : ∀ (ws : List Tq) (a : Nat) (x : List Int), (∀ j, j < ws.length → TqOK (ws.getD j q0n)) → RqOK (ctR ws a x)
 | [], _, _, _ => intQ_ok 0 (by decide)
 | t :: ws, a, x, h => by
  rw [ctR]
  have ht : TqOK t := h 0 (by simp)
  split
  ·rw [atQ]
   split
   ·rw [List.getD]
    cases h : t.el[(offP t.shape x t.shape.length).toNat]? with
    | none => exact intQ_ok 0 (by decide)
    | some r => exact ht.r r (List.mem_of_getElem? h)
   ·exact intQ_ok 0 (by decide)
  ·exact ctR_ok ws a _ fun j hj => by have := h (j + 1) (by simpa using hj); simpa using this
theorem ctQ_ok {ws : List Tq} (hok : ∀ j, j < ws.length → FitQ (ws.getD j q0n)) (h0 : 0 < ws.length) (axis : Int) : TqOK (ctQ ws axis) := errQ_TqOK fun h => by
 have hl : (ctS ws axis.toNat).length ≤ 4 := by rw [ctS, List.length_set]; exact (mayP_zero (hok 0 h0).m).1
 have hp : prodP (ctS ws axis.toNat) ≤ 1024 := by
  rw [ctF] at h
  split at h
  ·cases h
  split at h
  ·cases h
  split at h
  ·cases h
  ·omega
 have hp' : prodL (ctS ws axis.toNat) ≤ 1024 := by
  rw [prodP] at hp
  split at hp <;> omega
 refine ⟨by show (ctS ws axis.toNat).length ≤ _; omega, by show (elsC _ _ _ _).length ≤ _; rw [elsC_len]; omega, fun x hx => ?_⟩
 have hx : x ∈ elsC ws axis.toNat (ctS ws axis.toNat) (prodL (ctS ws axis.toNat)).toNat := hx
 simp only [elsC, List.mem_map] at hx
 obtain ⟨i, _, rfl⟩ := hx
 exact ctR_ok ws _ _ fun j hj => (hok j hj).ok
theorem catE_small (tl : List Tn) (axis : Int) : -1000000 ≤ catE tl axis ∧ catE tl axis ≤ 1000000 := by
 have h1 : ∀ l : List Tn, -1000000 ≤ firstM l ∧ firstM l ≤ 1000000 := fun l => by
  induction l with
  | nil => simp [firstM]
  | cons t l ih => rw [firstM]; have := mayT_cases t; split <;> omega
 have := h1 tl
 unfold catE
 split <;> (try split) <;> (try split) <;> (try split) <;> (try split) <;> omega
end Go.Proofs.YtjdbdmhjakfldaaGreat
end
section
namespace Go.Proofs.YtjdbdmhjakfldaaGreat
open Go.Bv
theorem tnsC_app (xs : List Tn) (t : Tn) : tnsC (xs ++ [t]) = tnsC xs ++ [.sl t.shape.length (ints t.shape), .sl t.el.length (rawsC t.el)] := by simp [tnsC]
theorem tqsC_app (xs : List Tq) (t : Tq) : tqsC (xs ++ [t]) = tqsC xs ++ [.sl t.shape.length (ints t.shape), .sl t.el.length (refsC t.el)] := by simp [tqsC]
theorem tnsC_scal (xs : List Tn) : (tnsC xs).all scal = true := by
 induction xs with
 | nil => rfl
 | cons x xs ih => rw [tnsC_cons]; simp [scal, ih]
theorem tqsC_scal (xs : List Tq) : (tqsC xs).all scal = true := by
 induction xs with
 | nil => rfl
 | cons x xs ih => rw [tqsC_cons]; simp [scal, ih]
theorem push_tn {y : Ty} {e e' s' i : Nat} {H : Heap} {v : V} {xs : List Tn} {t : Tn} {K : V → Heap → Prop} (h : Bv.Own e 2 H v i (tnsC xs)) (hy : y.size = 2) (hby : y.bytes = 48) (hn : i + 1 ≤ 1000000000)
  (hK : ∀ v' H', Bv.Own e 2 H' v' (i + 1) (tnsC (xs ++ [t])) → Fr v H H' → kn v' = true ∧ cellsOf v' = [v'] ∧ scal v' = true → K v' H') :
  appw y e v (.ref H.length 0 1) (H ++ [some ⟨e', s', [.sl t.shape.length (ints t.shape), .sl t.el.length (rawsC t.el)]⟩]) K := by
 rw [← hy] at h
 refine app_lit2 h (by rw [hy]; rfl) (by simp [scal]) (by omega) (by omega) (by rw [hby]; omega) (tnsC_scal _) fun H' k1 k2 k3 => ?_
 rw [hy] at k1
 exact hK _ H' (by rw [tnsC_app]; exact k1) k2 ⟨rfl, rfl, rfl⟩
theorem push_tq {y : Ty} {e e' s' i : Nat} {H : Heap} {v : V} {xs : List Tq} {t : Tq} {K : V → Heap → Prop} (h : Bv.Own e 2 H v i (tqsC xs)) (hy : y.size = 2) (hby : y.bytes = 48) (hn : i + 1 ≤ 1000000000)
  (hK : ∀ v' H', Bv.Own e 2 H' v' (i + 1) (tqsC (xs ++ [t])) → Fr v H H' → kn v' = true ∧ cellsOf v' = [v'] ∧ scal v' = true → K v' H') :
  appw y e v (.ref H.length 0 1) (H ++ [some ⟨e', s', [.sl t.shape.length (ints t.shape), .sl t.el.length (refsC t.el)]⟩]) K := by
 rw [← hy] at h
 refine app_lit2 h (by rw [hy]; rfl) (by simp [scal]) (by omega) (by omega) (by rw [hby]; omega) (tqsC_scal _) fun H' k1 k2 k3 => ?_
 rw [hy] at k1
 exact hK _ H' (by rw [tqsC_app]; exact k1) k2 ⟨rfl, rfl, rfl⟩
theorem own_fr2 {e s e2 s2 : Nat} {H H' : Heap} {w u : V} {n m : Nat} {cs cs2 : List V} (hw : Bv.Own e s H w n cs) (hu : Bv.Own e2 s2 H u m cs2) (hne : e ≠ e2) (hF : Fr u H H') : Bv.Own e s H' w n cs := by
 rcases hw with hw | ⟨r, h1, h2, h3⟩
 ·exact .inl hw
 ·exact .inr ⟨r, h1, fr_keep hu hF h2 hne, h3⟩
theorem own_sw {e s : Nat} {H : Heap} {w : V} {n : Nat} {cs : List V} (hw : Bv.Own e s H w n cs) : kn w = true ∧ cellsOf w = [w] ∧ scal w = true := by
 rcases hw with ⟨rfl, _⟩ | ⟨r, rfl, _⟩ <;> exact ⟨rfl, rfl, rfl⟩
theorem firstM_snoc (l : List Tn) (t : Tn) : firstM (l ++ [t]) = if firstM l ≠ 0 then firstM l else mayT t := by
 induction l with
 | nil => simp only [List.nil_append, firstM]; simp; exact fun h => h.symm
 | cons x l ih =>
  rw [List.cons_append, firstM, ih, firstM]
  by_cases hm : mayT x ≠ 0
  ·rw [if_pos hm, if_pos hm, if_pos hm]
  ·rw [if_neg hm, if_neg hm]
theorem firstM_small (l : List Tn) : -1000000 ≤ firstM l ∧ firstM l ≤ 1000000 := by
 induction l with
 | nil => simp [firstM]
 | cons t l ih => rw [firstM]; have := mayT_cases t; split <;> omega
end Go.Proofs.YtjdbdmhjakfldaaGreat
end
section
namespace Go.Proofs.YtjdbdmhjakfldaaGreat
open Go.Bv
theorem MoveConcats_law (axis : Int) (tl : List Tn) (htl : tl.length ≤ 1048576) (hok : ∀ j, j < tl.length → TnOK (tl.getD j t0n)) : Pu C 9 [.int .i64 axis, .sl tl.length (tnsC tl)] (.bool true) := by
 refine Fc.keep (Fc.bodyT mixed Tryz.func9 w9 rfl Tryz.ntmps9 Tryz.results9 (Nat.le_of_ble_eq_true rfl) ?_)
 (refine Go1.out ?_;repeat' ((with_reducible first|refine Go1.mk ?_|((first|apply Br.dec|apply Br.beq|apply Br.bne|apply Br.mk)<;>intro h))<;>try simp -implicitDefEqProofs (maxSteps:=9000000) (disch:=first|omega|(simp only [lens];omega)) only [go_sem]))
 refine TT_loop_inv (fun n ts H => ∃ (k : Nat) (l w : V), (k ≤ tl.length) ∧ (Bv.Own 26 2 H l k (tnsC (tl.take k))) ∧ (Bv.Own 34 2 H w k (tqsC ((tl.take k).map ofT))) ∧ (n = tl.length - k) ∧ ts.length = 91 ∧ nth ts 0 = .int .i64 axis ∧ nth ts 1 = .sl tl.length (tnsC tl) ∧ nth ts 5 = l ∧ nth ts 6 = w ∧ nth ts 7 = .int .i64 (firstM (tl.take k)) ∧ nth ts 8 = .int .i64 (k : Nat)) ?_ (n := tl.length) ?_
 ·skip
  rintro n ts H ⟨k, l, w, hk, hl, hw, hn, hL, hs0, hs1, hs5, hs6, hs7, hs8⟩
  refine TT_env [(0, .int .i64 axis), (1, .sl tl.length (tnsC tl)), (5, l), (6, w), (7, .int .i64 (firstM (tl.take k))), (8, .int .i64 (k : Nat))] hL (by simp only [List.forall_mem_cons, hs0, hs1, hs5, hs6, hs7, hs8, true_and]; exact fun _ h => nomatch h) ?_
  clear hL hs0 hs1 hs5 hs6 hs7 hs8 ts
  refine TT_of mixed ?_
  by_cases hkl : k < tl.length
  ·have hT := hok k hkl
   have hsn := take_snoc tl t0n hkl
   obtain ⟨a1, a2, a3⟩ := own_sw hl
   obtain ⟨b1, b2, b3⟩ := own_sw hw
   have hfs := firstM_snoc (tl.take k) (tl.getD k t0n)
   rw [← hsn] at hfs
   have hsm := firstM_small (tl.take k)
   generalize hTT : tl.getD k t0n = T at *
   (refine Go1.out ?_;repeat' ((with_reducible first|refine Go1.mk ?_|((first|apply Br.dec|apply Br.beq|apply Br.bne|apply Br.mk)<;>intro h))<;>try simp -implicitDefEqProofs (maxSteps:=9000000) (disch:=first|omega|(simp only [lens];omega)) only [go_sem, hTT, a1, a2, a3, b1, b2, b3]))
   refine (own07_spec T hT).call ⟨.self (clo_tnV _), trivial⟩ (clo_tnV _) ?_
   (refine Go1.out ?_;repeat' ((with_reducible first|refine Go1.mk ?_|((first|apply Br.dec|apply Br.beq|apply Br.bne|apply Br.mk)<;>intro h))<;>try simp -implicitDefEqProofs (maxSteps:=9000000) (disch:=first|omega|(simp only [lens];omega)) only [go_sem]))
   refine push_tn hl rfl rfl (by omega) fun l' H1 hl1 hF hk1 => ?_
   obtain ⟨c1, c2, c3⟩ := hk1
   have hw1 := own_fr2 hw hl (by decide) hF
   rw [← hsn] at hl1
   (refine Go1.out ?_;repeat' ((with_reducible first|refine Go1.mk ?_|((first|apply Br.dec|apply Br.beq|apply Br.bne|apply Br.mk)<;>intro h))<;>try simp -implicitDefEqProofs (maxSteps:=9000000) (disch:=first|omega|(simp only [lens];omega)) only [go_sem, hTT, c1, c2, c3, b1, b2, b3]))
   refine (of09_val T hT).call ⟨.self (clo_tnV _), trivial⟩ (clo_tqV _) ?_
   (refine Go1.out ?_;repeat' ((with_reducible first|refine Go1.mk ?_|((first|apply Br.dec|apply Br.beq|apply Br.bne|apply Br.mk)<;>intro h))<;>try simp -implicitDefEqProofs (maxSteps:=9000000) (disch:=first|omega|(simp only [lens];omega)) only [go_sem]))
   refine push_tq hw1 rfl rfl (by omega) fun w' H2 hw2 hF2 hk2 => ?_
   obtain ⟨d1, d2, d3⟩ := hk2
   have hl2 := own_fr2 hl1 hw1 (by decide) hF2
   rw [show (tl.take k).map ofT ++ [ofT T] = (tl.take (k + 1)).map ofT by rw [hsn]; simp] at hw2
   by_cases hz : firstM (tl.take k) = 0
   ·rw [if_neg (by omega)] at hfs
    (refine Go1.out ?_;repeat' ((with_reducible first|refine Go1.mk ?_|((first|apply Br.dec|apply Br.beq|apply Br.bne|apply Br.mk)<;>intro h))<;>try simp -implicitDefEqProofs (maxSteps:=9000000) (disch:=first|omega|(simp only [lens];omega)) only [go_sem, hTT, c1, c2, c3, d1, d2, d3, hz]))
    refine Fc.pure (may07_spec T hT) (by simp [cloL, clo, cloL_ints, cloL_raws]) (fun g => rfl) ?_
    rw [← hfs]
    (refine Go1.out ?_;repeat' ((with_reducible first|refine Go1.mk ?_|((first|apply Br.dec|apply Br.beq|apply Br.bne|apply Br.mk)<;>intro h))<;>try simp -implicitDefEqProofs (maxSteps:=9000000) (disch:=first|omega|(simp only [lens];omega)) only [go_sem]))
    exact ⟨tl.length - (k + 1), by omega, k + 1, l', w', by omega, hl2, hw2, rfl, (by (repeat' apply And.intro) <;> (first | rfl | omega | (congr 1; omega) | assumption | (congr 1; assumption)))⟩
   ·rw [if_pos hz] at hfs
    rw [← hfs] at *
    (refine Go1.out ?_;repeat' ((with_reducible first|refine Go1.mk ?_|((first|apply Br.dec|apply Br.beq|apply Br.bne|apply Br.mk)<;>intro h))<;>try simp -implicitDefEqProofs (maxSteps:=9000000) (disch:=first|omega|(simp only [lens];omega)) only [go_sem, hTT, c1, c2, c3, d1, d2, d3]))
    exact ⟨tl.length - (k + 1), by omega, k + 1, l', w', by omega, hl2, hw2, rfl, (by (repeat' apply And.intro) <;> (first | rfl | omega | (congr 1; omega) | assumption | (congr 1; assumption)))⟩
  ·have hks : k = tl.length := by omega
   subst hks
   rw [List.take_length] at *
   have hsm := firstM_small tl
   have hcE := catE_small tl axis
   have hcT := catT_ok hok axis
   obtain ⟨a1, a2, a3⟩ := own_sw hl
   obtain ⟨b1, b2, b3⟩ := own_sw hw
   have hcv := concat_val tl htl hok axis
   have hcE2 : tl.length = 0 → catE tl axis = 2 := fun h => by rw [catE, if_pos h]
   have hfc := @ctF_map tl
   have hit := @cat_isT tl axis
   have hTe : catE tl axis ≠ 0 → catT tl axis = emptyT := fun h => by rw [catT]; exact errT_no h
   have hcF : firstM tl ≠ 0 → 0 < tl.length → catE tl axis = firstM tl := fun h h' => by rw [catE, if_neg (by omega), if_pos h]
   have hq : ∀ j, j < (tl.map ofT).length → FitQ ((tl.map ofT).getD j q0n) := fun j hj => by
    rw [List.length_map] at hj
    rw [getD_tq hj]
    exact ofT_fit (hok j hj)
   generalize hcT : catT tl axis = T at *
   generalize hcE' : catE tl axis = e at *
   (refine Go1.out ?_;repeat' ((with_reducible first|refine Go1.mk ?_|((first|apply Br.dec|apply Br.beq|apply Br.bne|apply Br.mk)<;>intro h))<;>try simp -implicitDefEqProofs (maxSteps:=9000000) (disch:=first|omega|(simp only [lens];omega)) only [go_sem, a1, a2, a3, b1, b2, b3]))
   refine hcv.call ⟨.self rfl, hl.bor' (cloL_tns _), trivial⟩ (by simp [clo, cloL, clo_tnV]) ?_
   by_cases h0 : tl.length = 0
   ·obtain rfl := hcE2 h0
    have hT0 := hTe (by decide)
    have t1 : T.shape.length = 0 := by rw [hT0]; rfl
    have t2 : T.el.length = 0 := by rw [hT0]; rfl
    (refine Go1.out ?_;repeat' ((with_reducible first|refine Go1.mk ?_|((first|apply Br.dec|apply Br.beq|apply Br.bne|apply Br.mk)<;>intro h))<;>try simp -implicitDefEqProofs (maxSteps:=9000000) (disch:=first|omega|(simp only [lens];omega)) only [go_sem]))
    refine Fc.pure (empty_spec T) (by simp [cloL, clo, cloL_ints, cloL_raws, clo_tnV]) (fun g => rfl) ?_
    (refine Go1.out ?_;repeat' ((with_reducible first|refine Go1.mk ?_|((first|apply Br.dec|apply Br.beq|apply Br.bne|apply Br.mk)<;>intro h))<;>try simp -implicitDefEqProofs (maxSteps:=9000000) (disch:=first|omega|(simp only [lens];omega)) only [go_sem]))
    refine Fc.pure known_spec rfl (fun g => rfl) ?_
    (refine Go1.out ?_;repeat' ((with_reducible first|refine Go1.mk ?_|((first|apply Br.dec|apply Br.beq|apply Br.bne|apply Br.mk)<;>intro h))<;>try simp -implicitDefEqProofs (maxSteps:=9000000) (disch:=first|omega|(simp only [lens];omega)) only [go_sem]))
    (refine keepP (by intro g; simp only [go_sem, ren, renL]) ?_)
    rfl
   ·have hc9 := concat09_spec (tl.map ofT) (by simpa using htl) (by rw [List.length_map]; omega) hq axis
    have hQ := ctQ_ok hq (by rw [List.length_map]; omega) axis
    rw [List.length_map] at hc9
    have hFQ : firstM tl = 0 → ctF (tl.map ofT) axis = e ∧ (e = 0 → isT (ctQ (tl.map ofT) axis) T = true) := fun h => by
     rw [ofT_map h]
     exact ⟨(hfc (by omega) h axis).trans hcE', hit⟩
    have hcF' := fun h => hcF h (by omega)
    have hiT := is07_spec (ctQ (tl.map ofT) axis) T hQ hcT
    generalize ctQ (tl.map ofT) axis = Q at *
    generalize ctF (tl.map ofT) axis = f at *
    (refine Go1.out ?_;repeat' ((with_reducible first|refine Go1.mk ?_|((first|apply Br.dec|apply Br.beq|apply Br.bne|apply Br.mk)<;>intro h))<;>try simp -implicitDefEqProofs (maxSteps:=9000000) (disch:=first|omega|(simp only [lens];omega)) only [go_sem]))
    obtain ⟨r, rfl, hr, -⟩ : ∃ r, w = .ref r 0 tl.length ∧ rowOf H r = some ⟨34, 2, tqsC (tl.map ofT)⟩ ∧ True := by
     rcases hw with ⟨_, h, _⟩ | ⟨r, h1, h2, _⟩
     ·omega
     ·exact ⟨r, h1, h2, trivial⟩
    have hrl := rowOf_lt hr
    refine Fc.sealed (rowOf_keep hr _) (cloL_tqs _) ?_
    simp only [szL, sz, if_true, List.drop_zero]
    refine Fc.pure hc9 (by simp [cloL, clo, cloL_tqs]) (fun g => ren_clo _ _ (clo_ans _ _)) ?_
    have hTt : e ≠ 0 → T.shape.length = 0 ∧ T.el.length = 0 := fun h => by rw [hTe h]; exact ⟨rfl, rfl⟩
    obtain ⟨m, hm⟩ : ∃ m, H.length = m := ⟨_, rfl⟩
    have hkp : ∀ (x : Row), rowOf ((H ++ [some x]).set r none) m = some x := fun x => by rw [rowOf_set_ne _ (by omega), ← hm]; exact rowOf_snoc _ _
    have hlk : ∀ (x : Row), ((H ++ [some x]).set r none).length = m + 1 := fun x => by simp [hm]
    rw [hm]
    have hx := hkp ⟨26, 2, [.sl T.shape.length (ints T.shape), .sl T.el.length (rawsC T.el)]⟩
    have hxl := hlk ⟨26, 2, [.sl T.shape.length (ints T.shape), .sl T.el.length (rawsC T.el)]⟩
    generalize (H ++ [some (⟨26, 2, [.sl T.shape.length (ints T.shape), .sl T.el.length (rawsC T.el)]⟩ : Row)]).set r none = H2 at *
    have k1 : ∀ y : Row, rowOf (H2 ++ [some y]) H2.length = some y := fun y => rowOf_snoc _ _
    have k2 : ∀ y z : Row, rowOf ((H2 ++ [some y]).set H2.length (some z)) H2.length = some z := fun y z => rowOf_set_eq (k1 y)
    have k3 : ∀ (y : Row) z, rowOf ((H2 ++ [some y]).set H2.length z) m = some ⟨26, 2, [.sl T.shape.length (ints T.shape), .sl T.el.length (rawsC T.el)]⟩ := fun y z => by rw [rowOf_set_ne _ (by omega)]; exact rowOf_keep hx _
    have k4 : ∀ y : Row, rowOf (H2 ++ [some y]) m = some ⟨26, 2, [.sl T.shape.length (ints T.shape), .sl T.el.length (rawsC T.el)]⟩ := fun y => rowOf_keep hx _
    by_cases hF : firstM tl = 0
    ·obtain ⟨rfl, hi⟩ := hFQ hF
     rw [hF]
     by_cases he : f = 0
     ·subst he
      rw [hi rfl] at hiT
      (refine Go1.out ?_;repeat' ((with_reducible first|refine Go1.mk ?_|((first|apply Br.dec|apply Br.beq|apply Br.bne|apply Br.mk)<;>intro h))<;>try simp -implicitDefEqProofs (maxSteps:=9000000) (disch:=first|omega|(simp only [lens];omega)) only [go_sem, k1, k2, k3, k4]))
      refine Fc.pure hiT (by simp [cloL, clo, cloL_ints, cloL_raws, cloL_refs, clo_tnV, clo_tqV]) (fun g => rfl) ?_
      (refine Go1.out ?_;repeat' ((with_reducible first|refine Go1.mk ?_|((first|apply Br.dec|apply Br.beq|apply Br.bne|apply Br.mk)<;>intro h))<;>try simp -implicitDefEqProofs (maxSteps:=9000000) (disch:=first|omega|(simp only [lens];omega)) only [go_sem]))
      refine Fc.pure known_spec rfl (fun g => rfl) ?_
      (refine Go1.out ?_;repeat' ((with_reducible first|refine Go1.mk ?_|((first|apply Br.dec|apply Br.beq|apply Br.bne|apply Br.mk)<;>intro h))<;>try simp -implicitDefEqProofs (maxSteps:=9000000) (disch:=first|omega|(simp only [lens];omega)) only [go_sem]))
      (refine keepP (by intro g; simp only [go_sem, ren, renL]) ?_)
      rfl
     ·obtain ⟨t1, t2⟩ := hTt he
      (refine Go1.out ?_;repeat' ((with_reducible first|refine Go1.mk ?_|((first|apply Br.dec|apply Br.beq|apply Br.bne|apply Br.mk)<;>intro h))<;>try simp -implicitDefEqProofs (maxSteps:=9000000) (disch:=first|omega|(simp only [lens];omega)) only [go_sem, k1, k2, k3, k4]))
      refine Fc.pure (empty_spec T) (by simp [cloL, clo, cloL_ints, cloL_raws, clo_tnV]) (fun g => rfl) ?_
      (refine Go1.out ?_;repeat' ((with_reducible first|refine Go1.mk ?_|((first|apply Br.dec|apply Br.beq|apply Br.bne|apply Br.mk)<;>intro h))<;>try simp -implicitDefEqProofs (maxSteps:=9000000) (disch:=first|omega|(simp only [lens];omega)) only [go_sem]))
      refine Fc.pure known_spec rfl (fun g => rfl) ?_
      (refine Go1.out ?_;repeat' ((with_reducible first|refine Go1.mk ?_|((first|apply Br.dec|apply Br.beq|apply Br.bne|apply Br.mk)<;>intro h))<;>try simp -implicitDefEqProofs (maxSteps:=9000000) (disch:=first|omega|(simp only [lens];omega)) only [go_sem]))
      (refine keepP (by intro g; simp only [go_sem, ren, renL]) ?_)
      rfl
    ·obtain rfl := hcF' hF
     obtain ⟨t1, t2⟩ := hTt hF
     (refine Go1.out ?_;repeat' ((with_reducible first|refine Go1.mk ?_|((first|apply Br.dec|apply Br.beq|apply Br.bne|apply Br.mk)<;>intro h))<;>try simp -implicitDefEqProofs (maxSteps:=9000000) (disch:=first|omega|(simp only [lens];omega)) only [go_sem, k1, k2, k3, k4]))
     refine Fc.pure (empty_spec T) (by simp [cloL, clo, cloL_ints, cloL_raws, clo_tnV]) (fun g => rfl) ?_
     (refine Go1.out ?_;repeat' ((with_reducible first|refine Go1.mk ?_|((first|apply Br.dec|apply Br.beq|apply Br.bne|apply Br.mk)<;>intro h))<;>try simp -implicitDefEqProofs (maxSteps:=9000000) (disch:=first|omega|(simp only [lens];omega)) only [go_sem]))
     refine Fc.pure known_spec rfl (fun g => rfl) ?_
     (refine Go1.out ?_;repeat' ((with_reducible first|refine Go1.mk ?_|((first|apply Br.dec|apply Br.beq|apply Br.bne|apply Br.mk)<;>intro h))<;>try simp -implicitDefEqProofs (maxSteps:=9000000) (disch:=first|omega|(simp only [lens];omega)) only [go_sem]))
     (refine keepP (by intro g; simp only [go_sem, ren, renL]) ?_)
     rfl
 ·exact ⟨0, .nil, .nil, by omega, Bv.Own.nil _ _ _, Bv.Own.nil _ _ _, rfl, rfl, rfl, rfl, rfl, rfl, rfl, rfl⟩
end Go.Proofs.YtjdbdmhjakfldaaGreat
end
section
namespace Go.Proofs.YtjdbdmhjakfldaaGreat
open Go.Bv
theorem a_own : ownKnob Tryz.prog.godebug = none := by kernel_rfl
theorem a_laid : laidOutB Tryz.prog = true := by kernel_rfl
theorem rd_int : U.Reads Tryz.prog 3 fun vs => ∃ n, vs = [V.int .i64 n] ∧ (Lit.int .i64 n).wf = true := U.Reads.int Tryz.underlying3
theorem rd_ints {t : Nat} (hu : Tryz.prog.underlying t = some (.slice 3)) : U.Reads Tryz.prog t fun vs => ∃ xs : List Int, vs = [.sl xs.length (ints xs)] ∧ xs.length ≤ 1048576 ∧ ∀ x ∈ xs, (Lit.int .i64 x).wf = true := U.Reads.ints hu Tryz.underlying3 (by kernel_rfl)
theorem rd_u32 : U.Reads Tryz.prog 59 fun vs => ∃ n : Nat, vs = [V.int .u32 (n : Nat)] ∧ n < 4294967296 := U.Reads.mono (U.Reads.int Tryz.underlying59) fun vs ⟨n, h, hw⟩ => by
 have hx : 0 ≤ n ∧ n ≤ 4294967295 := by simpa [Lit.wf, IntKind.min, IntKind.max, IntKind.signed, IntKind.bits] using hw
 exact ⟨n.toNat, by rw [h]; congr 2; omega, by omega⟩
theorem rd_nat : U.Reads Tryz.prog 56 fun vs => ∃ l : List Nat, vs = [NA l] ∧ l.length ≤ 1048576 ∧ Lim l :=
 U.Reads.mono (U.Reads.slice1 (g := fun n : Nat => .int .u32 (n : Nat)) Tryz.underlying56 (by kernel_rfl) rd_u32) fun vs ⟨xs, h1, h2, h3⟩ => ⟨xs, h1, h2, h3⟩
theorem rd_rat : U.Reads Tryz.prog 58 fun vs => ∃ x : Raw, vs = [.bool x.neg, NA x.num, NA x.den] ∧ RawOK x := by
 refine U.Reads.mono (U.Reads.struct (Qs := fun i vs => if i = 0 then ∃ b, vs = [V.bool b] else ∃ l : List Nat, vs = [NA l] ∧ l.length ≤ 1048576 ∧ Lim l) a_laid (of_decide_eq_true (by kernel_rfl)) Tryz.underlying58 ?_) ?_
 ·intro i f hf
  match i, hf with
  | 0, hf => cases hf; exact U.Reads.mono (U.Reads.bool Tryz.underlying4) fun vs h => by rw [if_pos rfl]; exact h
  | 1, hf => cases hf; exact U.Reads.mono rd_nat fun vs h => by rw [if_neg (by decide)]; exact h
  | 2, hf => cases hf; exact U.Reads.mono rd_nat fun vs h => by rw [if_neg (by decide)]; exact h
  | i + 3, hf => cases hf
 ·rintro u ⟨l, hl, hq, rfl⟩
  match l, hl with
  | [a, b, c], _ =>
   have h0 := hq 0 (by decide)
   have h1 := hq 1 (by decide)
   have h2 := hq 2 (by decide)
   obtain ⟨n, rfl⟩ := h0
   obtain ⟨xs, rfl, hx, hx2⟩ := h1
   obtain ⟨ys, rfl, hy, hy2⟩ := h2
   exact ⟨⟨n, xs, ys⟩, rfl, by show xs.length ≤ _; omega, by show ys.length ≤ _; omega, hx2, hy2⟩
theorem raws_of : ∀ {l : List (List V)}, (∀ x ∈ l, ∃ r : Raw, x = [.bool r.neg, NA r.num, NA r.den] ∧ RawOK r) → ∃ xs : List Raw, xs.length = l.length ∧ l.flatten = rawsC xs ∧ ∀ x ∈ xs, RawOK x
 | [], _ => ⟨[], rfl, rfl, by simp⟩
 | x :: l, h => by
  obtain ⟨a, rfl, ha⟩ := h x (by simp)
  obtain ⟨xs, h1, h2, h3⟩ := raws_of (l := l) fun y hy => h y (by simp [hy])
  exact ⟨a :: xs, by simp [h1], by rw [List.flatten_cons, h2]; rfl, fun b hb => by
   rcases List.mem_cons.1 hb with rfl | hb
   ·exact ha
   ·exact h3 b hb⟩
theorem rd_rats : U.Reads Tryz.prog 24 fun vs => ∃ xs : List Raw, vs = [.sl xs.length (rawsC xs)] ∧ xs.length ≤ 1048576 ∧ ∀ x ∈ xs, RawOK x :=
 U.Reads.mono (U.Reads.slice (s := 3) Tryz.underlying24 (by kernel_rfl) (by decide) rd_rat) fun vs ⟨l, h1, h2, h3⟩ => by
  obtain ⟨xs, q1, q2, q3⟩ := raws_of h1
  exact ⟨xs, by rw [h3, q1, q2], by omega, q3⟩
theorem rd_tensor : U.Reads Tryz.prog 26 fun vs => ∃ t : Tn, vs = [.sl t.shape.length (ints t.shape), .sl t.el.length (rawsC t.el)] ∧ TnOK t := by
 refine U.Reads.mono (U.Reads.struct (Qs := fun i vs => if i = 0 then ∃ xs : List Int, vs = [.sl xs.length (ints xs)] ∧ xs.length ≤ 1048576 ∧ ∀ x ∈ xs, (Lit.int .i64 x).wf = true else ∃ xs : List Raw, vs = [.sl xs.length (rawsC xs)] ∧ xs.length ≤ 1048576 ∧ ∀ x ∈ xs, RawOK x) a_laid (of_decide_eq_true (by kernel_rfl)) Tryz.underlying26 ?_) ?_
 ·intro i f hf
  match i, hf with
  | 0, hf => cases hf; exact U.Reads.mono (rd_ints Tryz.underlying23) fun vs h => by rw [if_pos rfl]; exact h
  | 1, hf => cases hf; exact U.Reads.mono rd_rats fun vs h => by rw [if_neg (by decide)]; exact h
  | i + 2, hf => cases hf
 ·rintro u ⟨l, hl, hq, rfl⟩
  match l, hl with
  | [a, b], _ =>
   have h0 := hq 0 (by decide)
   have h1 := hq 1 (by decide)
   obtain ⟨xs, rfl, hx, _⟩ := h0
   obtain ⟨ys, rfl, hy, hy2⟩ := h1
   exact ⟨⟨xs, ys⟩, rfl, by show xs.length ≤ _; omega, by show ys.length ≤ _; omega, hy2⟩
theorem arg_int : U.ArgV Tryz.prog 3 fun u => ∃ n : Int, u = .int .i64 n ∧ (Lit.int .i64 n).wf = true := U.ArgV.mono (U.ArgV.one rd_int (by rw [Tryz.underlying3])) fun u ⟨n, h, h2⟩ => ⟨n, by simpa using h, h2⟩
end Go.Proofs.YtjdbdmhjakfldaaGreat
end
section
namespace Go.Proofs.YtjdbdmhjakfldaaGreat
open Go.Bv
theorem tns_of : ∀ {l : List (List V)}, (∀ x ∈ l, ∃ t : Tn, x = [.sl t.shape.length (ints t.shape), .sl t.el.length (rawsC t.el)] ∧ TnOK t) → ∃ tl : List Tn, tl.length = l.length ∧ l.flatten = tnsC tl ∧ ∀ t ∈ tl, TnOK t
 | [], _ => ⟨[], rfl, rfl, by simp⟩
 | x :: l, h => by
  obtain ⟨a, rfl, ha⟩ := h x (by simp)
  obtain ⟨tl, h1, h2, h3⟩ := tns_of (l := l) fun y hy => h y (by simp [hy])
  exact ⟨a :: tl, by simp [h1], by rw [List.flatten_cons, h2]; rfl, fun b hb => by
   rcases List.mem_cons.1 hb with rfl | hb
   ·exact ha
   ·exact h3 b hb⟩
theorem rd_tensors : U.Reads Tryz.prog 48 fun vs => ∃ tl : List Tn, vs = [.sl tl.length (tnsC tl)] ∧ tl.length ≤ 1048576 ∧ ∀ t ∈ tl, TnOK t :=
 U.Reads.mono (U.Reads.slice (s := 2) Tryz.underlying48 (by kernel_rfl) (by decide) rd_tensor) fun vs ⟨l, h1, h2, h3⟩ => by
  obtain ⟨tl, q1, q2, q3⟩ := tns_of h1
  exact ⟨tl, by rw [h3, q1, q2], by omega, q3⟩
theorem arg_tensors : U.ArgV Tryz.prog 48 fun u => ∃ tl : List Tn, u = .sl tl.length (tnsC tl) ∧ tl.length ≤ 1048576 ∧ ∀ t ∈ tl, TnOK t :=
 U.ArgV.mono (U.ArgV.one rd_tensors (by rw [Tryz.underlying48])) fun u ⟨tl, h, h1, h2⟩ => ⟨tl, by simpa using h, h1, h2⟩
theorem args_at : U.ArgsV Tryz.prog [3, 48] fun us => ∃ (n : Int) (tl : List Tn), us = [.int .i64 n, .sl tl.length (tnsC tl)] ∧ (Lit.int .i64 n).wf = true ∧ tl.length ≤ 1048576 ∧ ∀ t ∈ tl, TnOK t := by
 refine U.ArgsV.mono (U.ArgsV.cons arg_int (U.ArgsV.cons arg_tensors U.ArgsV.nil)) ?_
 rintro us ⟨_, _, rfl, ⟨n, rfl, h1⟩, _, _, rfl, ⟨tl, rfl, h2, h3⟩, rfl⟩
 exact ⟨n, tl, rfl, h1, h2, h3⟩
end Go.Proofs.YtjdbdmhjakfldaaGreat
end
