/-
  Parts Ten1, Ten2, Ten3, Ten4, Shp1, Shp2, Mov1, Mov2, Mov3, Mov4, Perm1, Mov5, Mov6, Mov7, La1, La2, La3, Rf0, Lw1, Rf1, Rf2, Lw2, Cat1, Cat3, Cat2, Rf5, Lw5, Lw6, Lw8, Lw9, RowU, RowT, one behind the other: a program logic of our own, contracts of functions.
-/
import Derived.Test.YtjdbdmhjakfldaaGreatP4

set_option linter.unusedVariables false
set_option linter.unusedSimpArgs false
set_option maxRecDepth 100000
set_option maxHeartbeats 8000000
section
namespace Go.Proofs.YtjdbdmhjakfldaaGreat
open Go.Bv
def rawG (x : Raw) : V × V × V := (.bool x.neg, NA x.num, NA x.den)
def refG (r : Rq) : V × V × V := (.bool r.neg, DV r.num, DV r.den)
def rawsC (xs : List Raw) : List V := flat3 rawG xs
def refsC (rs : List Rq) : List V := flat3 refG rs
def tnV (t : Tn) : V := .agg [.sl t.shape.length (ints t.shape), .sl t.el.length (rawsC t.el)]
def tqV (t : Tq) : V := .agg [.sl t.shape.length (ints t.shape), .sl t.el.length (refsC t.el)]
attribute [go_sem] tnV tqV
@[go_sem] theorem rawsC_len (xs : List Raw) : (rawsC xs).length = xs.length * 3 := flat3_length _ _
@[go_sem] theorem refsC_len (xs : List Rq) : (refsC xs).length = xs.length * 3 := flat3_length _ _
@[go_sem] theorem nth_raws0 (xs : List Raw) (i : Nat) (h : i < xs.length) : nth (rawsC xs) (i * 3) = .bool (xs.getD i r0).neg := (nth_flat3 rawG r0 xs i h).1
@[go_sem] theorem nth_raws1 (xs : List Raw) (i : Nat) (h : i < xs.length) : nth (rawsC xs) (i * 3 + 1) = NA (xs.getD i r0).num := (nth_flat3 rawG r0 xs i h).2.1
@[go_sem] theorem nth_raws2 (xs : List Raw) (i : Nat) (h : i < xs.length) : nth (rawsC xs) (i * 3 + 2) = NA (xs.getD i r0).den := (nth_flat3 rawG r0 xs i h).2.2
@[go_sem] theorem nth_refs0 (xs : List Rq) (i : Nat) (h : i < xs.length) : nth (refsC xs) (i * 3) = .bool (xs.getD i q0).neg := (nth_flat3 refG q0 xs i h).1
@[go_sem] theorem nth_refs1 (xs : List Rq) (i : Nat) (h : i < xs.length) : nth (refsC xs) (i * 3 + 1) = DV (xs.getD i q0).num := (nth_flat3 refG q0 xs i h).2.1
@[go_sem] theorem nth_refs2 (xs : List Rq) (i : Nat) (h : i < xs.length) : nth (refsC xs) (i * 3 + 2) = DV (xs.getD i q0).den := (nth_flat3 refG q0 xs i h).2.2
theorem cloL_raws (xs : List Raw) : cloL (rawsC xs) = true := cloL_flat3 fun x => ⟨rfl, clo_NA _, clo_NA _⟩
theorem clo_tnV (t : Tn) : clo (tnV t) = true := by simp [tnV, clo, cloL, cloL_ints, cloL_raws]
theorem sameShape_spec (xs ys : List Int) (hx : xs.length ≤ 17592186044416) : Pu C 29 [.sl xs.length (ints xs), .sl ys.length (ints ys)] (.bool (decide (xs = ys))) := by
 refine Fc.keep (Fc.bodyT mixed Tryz.func29 w29 rfl Tryz.ntmps29 Tryz.results29 (Nat.le_of_ble_eq_true rfl) ?_)
 (refine Go1.out ?_;repeat' ((with_reducible first|refine Go1.mk ?_|((first|apply Br.dec|apply Br.beq|apply Br.bne|apply Br.mk)<;>intro h))<;>try simp -implicitDefEqProofs (maxSteps:=9000000) (disch:=first|omega|(simp only [lens];omega)) only [go_sem]))
 ·skip
  (refine keepP (by intro g; simp only [go_sem, ren, renL]) ?_)
  (simp only [V.tup.injEq, List.cons.injEq, V.int.injEq, V.bool.injEq, true_and, and_true]; (try rw [Bool.eq_iff_iff]); (try simp only [decide_eq_true_eq, decide_eq_false_iff_not, Decidable.not_not, true_and, and_true, Bool.not_eq_true, Bool.not_eq_eq_eq_not, Bool.not_true, Bool.and_eq_true, Bool.or_eq_true, beq_iff_eq, bne_iff_ne, ne_eq, Bool.false_eq_true, false_iff, true_iff, iff_false, iff_true]); (try omega))
  intro hh; subst hh; omega
 ·skip
  refine TT_loop_inv (fun n ts H => ∃ (i : Nat), (i ≤ xs.length) ∧ ((∀ j, j < i → xs.getD j 0 = ys.getD j 0)) ∧ (n = xs.length - i) ∧ (H = []) ∧ ts.length = 26 ∧ nth ts 0 = .sl xs.length (ints xs) ∧ nth ts 1 = .sl ys.length (ints ys) ∧ nth ts 5 = .int .i64 (i : Nat)) ?_ (n := xs.length) ?_
  ·skip
   rintro n ts H ⟨i, hi, hI, hn, hH, hL, hs0, hs1, hs5⟩
   refine TT_env [(0, .sl xs.length (ints xs)), (1, .sl ys.length (ints ys)), (5, .int .i64 (i : Nat))] hL (by simp only [List.forall_mem_cons, hs0, hs1, hs5, true_and]; exact fun _ h => nomatch h) ?_
   clear hL hs0 hs1 hs5 ts
   refine TT_of mixed ?_
   subst hH
   have hl : xs.length = ys.length := by omega
   (refine Go1.out ?_;repeat' ((with_reducible first|refine Go1.mk ?_|((first|apply Br.dec|apply Br.beq|apply Br.bne|apply Br.mk)<;>intro h))<;>try simp -implicitDefEqProofs (maxSteps:=9000000) (disch:=first|omega|(simp only [lens];omega)) only [go_sem]))
   ·skip
    (refine keepP (by intro g; simp only [go_sem, ren, renL]) ?_)
    (simp only [V.tup.injEq, List.cons.injEq, V.int.injEq, V.bool.injEq, true_and, and_true]; (try rw [Bool.eq_iff_iff]); (try simp only [decide_eq_true_eq, decide_eq_false_iff_not, Decidable.not_not, true_and, and_true, Bool.not_eq_true, Bool.not_eq_eq_eq_not, Bool.not_true, Bool.and_eq_true, Bool.or_eq_true, beq_iff_eq, bne_iff_ne, ne_eq, Bool.false_eq_true, false_iff, true_iff, iff_false, iff_true]); (try omega))
    rintro rfl
    exact absurd rfl ‹xs.getD i 0 ≠ xs.getD i 0›
   ·have hI' : ∀ j, j < i + 1 → xs.getD j 0 = ys.getD j 0 := fun j hj => by
     by_cases e : j = i
     ·subst e; assumption
     ·exact hI j (by omega)
    exact ⟨xs.length - (i + 1), by omega, i + 1, (by (repeat' apply And.intro) <;> (first | rfl | omega | (congr 1; omega) | assumption | (congr 1; assumption)))⟩
   ·skip
    (refine keepP (by intro g; simp only [go_sem, ren, renL]) ?_)
    (simp only [V.tup.injEq, List.cons.injEq, V.int.injEq, V.bool.injEq, true_and, and_true]; (try rw [Bool.eq_iff_iff]); (try simp only [decide_eq_true_eq, decide_eq_false_iff_not, Decidable.not_not, true_and, and_true, Bool.not_eq_true, Bool.not_eq_eq_eq_not, Bool.not_true, Bool.and_eq_true, Bool.or_eq_true, beq_iff_eq, bne_iff_ne, ne_eq, Bool.false_eq_true, false_iff, true_iff, iff_false, iff_true]); (try omega))
    refine List.ext_getElem hl fun j h1 h2 => ?_
    have := hI j (by omega)
    simpa [List.getD, h1, h2] using this
  ·exact ⟨0, by omega, fun j hj => by omega, rfl, rfl, rfl, rfl, rfl, rfl⟩
theorem refs_snoc {xs : List Rq} {i : Nat} (h : i < xs.length) : refsC (xs.take (i + 1)) = refsC (xs.take i) ++ [.bool (xs.getD i q0).neg, DV (xs.getD i q0).num, DV (xs.getD i q0).den] := by
 rw [take_snoc xs q0 h, refsC, flat3_append]; rfl
theorem raws_snoc {xs : List Raw} {i : Nat} (h : i < xs.length) : rawsC (xs.take (i + 1)) = rawsC (xs.take i) ++ [.bool (xs.getD i r0).neg, NA (xs.getD i r0).num, NA (xs.getD i r0).den] := by
 rw [take_snoc xs r0 h, rawsC, flat3_append]; rfl
theorem rawOf_snoc {xs : List Rq} {i : Nat} (h : i < xs.length) : rawsC ((xs.map rawOf).take (i + 1)) = rawsC ((xs.map rawOf).take i) ++ [.bool (xs.getD i q0).neg, natV (xs.getD i q0).num, natV (xs.getD i q0).den] := by
 rw [raws_snoc (by simpa using h)]
 have : (xs.map rawOf).getD i r0 = rawOf (xs.getD i q0) := by simp [List.getD, h]
 rw [this]; rfl
theorem back07_spec (t : Tq) (ht : TqOK t) : Val C 85 [tqV t] (tnV (tnBack t)) := by
 have hs := ht.s
 have he := ht.e
 refine Fc.keep (Fc.bodyT mixed Tryz.func85 w85 rfl Tryz.ntmps85 Tryz.results85 (Nat.le_of_ble_eq_true rfl) ?_)
 (refine Go1.out ?_;repeat' ((with_reducible first|refine Go1.mk ?_|((first|apply Br.dec|apply Br.beq|apply Br.bne|apply Br.mk)<;>intro h))<;>try simp -implicitDefEqProofs (maxSteps:=9000000) (disch:=first|omega|(simp only [lens];omega)) only [go_sem]))
 refine TT_loop_inv (fun n ts H => ∃ (i : Nat) (u : V), (i ≤ t.el.length) ∧ (rowOf H 0 = some ⟨34, 2, [.sl t.shape.length (ints t.shape), .sl t.el.length (refsC t.el)]⟩) ∧ (rowOf H 1 = some ⟨26, 2, [.nil, .nil]⟩) ∧ (rowOf H 2 = some ⟨3, 1, ints t.shape⟩) ∧ (rowOf H 3 = some ⟨26, 2, [.ref 2 0 t.shape.length, u]⟩) ∧ (Cel 4 58 3 H u i (rawsC ((t.el.map rawOf).take i))) ∧ (n = t.el.length - i) ∧ ts.length = 28 ∧ nth ts 1 = .ptr 0 0 ∧ nth ts 2 = .ptr 1 0 ∧ nth ts 3 = .ptr 3 0 ∧ nth ts 4 = .int .i64 (i : Nat)) ?_ (n := t.el.length) ?_
 ·skip
  rintro n ts H ⟨i, u, hi, h0, h1, h2, h3, hu, hn, hL, hs1, hs2, hs3, hs4⟩
  refine TT_env [(1, .ptr 0 0), (2, .ptr 1 0), (3, .ptr 3 0), (4, .int .i64 (i : Nat))] hL (by simp only [List.forall_mem_cons, hs1, hs2, hs3, hs4, true_and]; exact fun _ h => nomatch h) ?_
  clear hL hs1 hs2 hs3 hs4 ts
  refine TT_of mixed ?_
  have hlen := rowOf_lt h3
  by_cases hcase : i < t.el.length
  ·have hx := ht.get hcase
   (refine Go1.out ?_;repeat' ((with_reducible first|refine Go1.mk ?_|((first|apply Br.dec|apply Br.beq|apply Br.bne|apply Br.mk)<;>intro h))<;>try simp -implicitDefEqProofs (maxSteps:=9000000) (disch:=first|omega|(simp only [lens];omega)) only [go_sem, h0, h3]))
   refine Pc.keptF (back03_spec _ hx) (ratV_some _) ⟨.self (clo_refV _), trivial⟩ fun v X hv => ?_
   obtain ⟨v1, v2, v3, rfl, hv1, hv2, hv3⟩ := hv.agg3
   obtain ⟨k2, c2, s2⟩ := gd_sl hv2.gd
   obtain ⟨k3, c3, s3⟩ := gd_sl hv3.gd
   have e1 := hv1.gd.bool_inv
   subst e1
   (refine Go1.out ?_;repeat' ((with_reducible first|refine Go1.mk ?_|((first|apply Br.dec|apply Br.beq|apply Br.bne|apply Br.mk)<;>intro h))<;>try simp -implicitDefEqProofs (maxSteps:=9000000) (disch:=first|omega|(simp only [lens];omega)) only [go_sem, h0, h3, k2, c2, s2, k3, c3, s3]))
   refine Cel.push3 hu rfl rfl (by omega) (by omega) hv2 hv3 s2 s3 fun v' H' hu' hk' k4 c4 s4 => ?_
   have g0 := hk' 0 _ (by decide) h0
   have g1 := hk' 1 _ (by decide) h1
   have g2 := hk' 2 _ (by decide) h2
   have g3 := hk' 3 _ (by decide) h3
   (refine Go1.out ?_;repeat' ((with_reducible first|refine Go1.mk ?_|((first|apply Br.dec|apply Br.beq|apply Br.bne|apply Br.mk)<;>intro h))<;>try simp -implicitDefEqProofs (maxSteps:=9000000) (disch:=first|omega|(simp only [lens];omega)) only [go_sem, g3, k4, c4, s4]))
   have f0 : ∀ (q : Nat) (row : Row) (z : Option Row), q ≠ 3 → rowOf H' q = some row → rowOf (H'.set 3 z) q = some row := fun q row z hq hr => by rw [rowOf_set_ne _ (Ne.symm hq)]; exact hr
   refine ⟨t.el.length - (i + 1), by omega, i + 1, v', by omega, f0 0 _ _ (by decide) g0, f0 1 _ _ (by decide) g1, f0 2 _ _ (by decide) g2, rowOf_set_eq g3, ?_, rfl, by congr 1⟩
   rw [rawOf_snoc hcase]
   exact Cel.set hu' (by decide) _
  ·obtain ⟨k4, c4, s4⟩ := Cel.kn hu
   have hs1 : ∀ z : Row, rowOf (H.set 1 (some z)) 1 = some z := fun z => rowOf_set_eq h1
   (refine Go1.out ?_;repeat' ((with_reducible first|refine Go1.mk ?_|((first|apply Br.dec|apply Br.beq|apply Br.bne|apply Br.mk)<;>intro h))<;>try simp -implicitDefEqProofs (maxSteps:=9000000) (disch:=first|omega|(simp only [lens];omega)) only [go_sem, h0, h1, h3, hs1, k4, c4, s4]))
   have hil : i = t.el.length := by omega
   rw [hil, List.take_of_length_le (by simp)] at hu
   have hg := Cel.gd (Cel.set hu (q := 1) (by decide) (some ⟨26, 2, [.ref 2 0 t.shape.length, u]⟩))
   refine Gd.ret (Gd.aggL ⟨?_, ?_, trivial⟩)
   ·exact .flat 2 _ _ _ _ (by rw [rowOf_set_ne _ (by decide)]; exact h2) (cloL_ints _) (plainL_ints _)
   ·simpa [tnOf, tnBack] using hg
 ·exact ⟨0, .nil, by omega, rfl, rfl, rfl, rfl, Cel.nil _ _ _ _, rfl, rfl, rfl, rfl, rfl, rfl⟩
end Go.Proofs.YtjdbdmhjakfldaaGreat
end
section
namespace Go.Proofs.YtjdbdmhjakfldaaGreat
open Go.Bv
def fitsT (t : Tn) : Int := if mayP t.shape ≠ 0 then mayP t.shape else if (t.el.length : Int) ≠ countP t.shape then 13 else 0
def mayT (t : Tn) : Int := if fitsT t ≠ 0 then fitsT t else if t.el.all okR then 0 else 6
theorem all_get {α : Type} {xs : List α} {p : α → Bool} (d : α) : xs.all p = true ↔ ∀ j, j < xs.length → p (xs.getD j d) = true := by
 rw [List.all_eq_true]
 constructor
 ·intro h j hj
  have e : xs.getD j d = xs[j] := by simp [List.getD, hj]
  rw [e]; exact h _ (List.getElem_mem hj)
 ·intro h x hx
  obtain ⟨j, hj, rfl⟩ := List.mem_iff_getElem.1 hx
  have e : xs.getD j d = xs[j] := by simp [List.getD, hj]
  rw [← e]; exact h j hj
def sameT (a b : Tn) : Bool := decide (a.shape = b.shape) && (decide (a.el.length = b.el.length) && (List.range a.el.length).all fun i => sameQ (valQ (a.el.getD i r0)) (valQ (b.el.getD i r0)))
theorem range_all {n : Nat} {p : Nat → Bool} : (List.range n).all p = true ↔ ∀ i, i < n → p i = true := by simp
theorem same07_spec (a b : Tn) (ha : TnOK a) (hb : TnOK b) : Pu C 28 [tnV a, tnV b] (.bool (sameT a b)) := by
 have hs := ha.s
 have he := ha.e
 have hs' := hb.s
 have he' := hb.e
 refine Fc.keep (Fc.bodyT mixed Tryz.func28 w28 rfl Tryz.ntmps28 Tryz.results28 (Nat.le_of_ble_eq_true rfl) ?_)
 (refine Go1.out ?_;repeat' ((with_reducible first|refine Go1.mk ?_|((first|apply Br.dec|apply Br.beq|apply Br.bne|apply Br.mk)<;>intro h))<;>try simp -implicitDefEqProofs (maxSteps:=9000000) (disch:=first|omega|(simp only [lens];omega)) only [go_sem]))
 refine Fc.pure (sameShape_spec a.shape b.shape (by omega)) (by simp [cloL, clo, cloL_ints]) (fun g => rfl) ?_
 (refine Go1.out ?_;repeat' ((with_reducible first|refine Go1.mk ?_|((first|apply Br.dec|apply Br.beq|apply Br.bne|apply Br.mk)<;>intro h))<;>try simp -implicitDefEqProofs (maxSteps:=9000000) (disch:=first|omega|(simp only [lens];omega)) only [go_sem]))
 ·have hel : ¬ a.el.length = b.el.length := by omega
  (refine keepP (by intro g; simp only [go_sem, ren, renL]) ?_)
  congr 1
  symm
  simp [sameT, hel]
 ·have hel : a.el.length = b.el.length := by omega
  ·skip
   refine TT_loop_inv (fun n ts H => ∃ (i : Nat), (i ≤ a.el.length) ∧ ((∀ j, j < i → sameQ (valQ (a.el.getD j r0)) (valQ (b.el.getD j r0)) = true)) ∧ (rowOf H 0 = some ⟨26, 2, [.sl a.shape.length (ints a.shape), .sl a.el.length (rawsC a.el)]⟩) ∧ (rowOf H 1 = some ⟨26, 2, [.sl b.shape.length (ints b.shape), .sl b.el.length (rawsC b.el)]⟩) ∧ (n = a.el.length - i) ∧ ts.length = 40 ∧ nth ts 2 = .ptr 0 0 ∧ nth ts 3 = .ptr 1 0 ∧ nth ts 5 = .int .i64 (i : Nat)) ?_ (n := a.el.length) ?_
   ·skip
    rintro n ts H ⟨i, hi, hI, h0, h1, hn, hL, hs2, hs3, hs5⟩
    refine TT_env [(2, .ptr 0 0), (3, .ptr 1 0), (5, .int .i64 (i : Nat))] hL (by simp only [List.forall_mem_cons, hs2, hs3, hs5, true_and]; exact fun _ h => nomatch h) ?_
    clear hL hs2 hs3 hs5 ts
    refine TT_of mixed ?_
    by_cases hcase : i < a.el.length
    ·skip
     (refine Go1.out ?_;repeat' ((with_reducible first|refine Go1.mk ?_|((first|apply Br.dec|apply Br.beq|apply Br.bne|apply Br.mk)<;>intro h))<;>try simp -implicitDefEqProofs (maxSteps:=9000000) (disch:=first|omega|(simp only [lens];omega)) only [go_sem, h0, h1]))
     refine Pc.pure (same03_spec (a.el.getD i r0) (b.el.getD i r0) (ha.get hcase) (hb.get (by omega))) (by simp [cloL, clo, cloL_nats]) (fun g => rfl) ?_
     cases hbb : sameQ (valQ (a.el.getD i r0)) (valQ (b.el.getD i r0)) with
     | true =>
      (refine Go1.out ?_;repeat' ((with_reducible first|refine Go1.mk ?_|((first|apply Br.dec|apply Br.beq|apply Br.bne|apply Br.mk)<;>intro h))<;>try simp -implicitDefEqProofs (maxSteps:=9000000) (disch:=first|omega|(simp only [lens];omega)) only [go_sem, h0, h1]))
      have hI' : ∀ j, j < i + 1 → sameQ (valQ (a.el.getD j r0)) (valQ (b.el.getD j r0)) = true := allS hI hbb
      exact ⟨a.el.length - (i + 1), by omega, i + 1, (by (repeat' apply And.intro) <;> (first | rfl | omega | (congr 1; omega) | assumption | (congr 1; assumption)))⟩
     | false =>
      (refine Go1.out ?_;repeat' ((with_reducible first|refine Go1.mk ?_|((first|apply Br.dec|apply Br.beq|apply Br.bne|apply Br.mk)<;>intro h))<;>try simp -implicitDefEqProofs (maxSteps:=9000000) (disch:=first|omega|(simp only [lens];omega)) only [go_sem, h0, h1]))
      (refine keepP (by intro g; simp only [go_sem, ren, renL]) ?_)
      congr 1
      symm
      rw [Bool.eq_false_iff]
      intro hh
      simp only [sameT, Bool.and_eq_true, range_all] at hh
      have := hh.2.2 i hcase
      rw [hbb] at this; cases this
    ·skip
     (refine Go1.out ?_;repeat' ((with_reducible first|refine Go1.mk ?_|((first|apply Br.dec|apply Br.beq|apply Br.bne|apply Br.mk)<;>intro h))<;>try simp -implicitDefEqProofs (maxSteps:=9000000) (disch:=first|omega|(simp only [lens];omega)) only [go_sem, h0, h1]))
     (refine keepP (by intro g; simp only [go_sem, ren, renL]) ?_)
     congr 1
     symm
     simp only [sameT, Bool.and_eq_true, range_all, decide_eq_true_eq]
     exact ⟨by assumption, hel, fun j hj => hI j (by omega)⟩
   ·exact ⟨0, by omega, fun j hj => by omega, rfl, rfl, rfl, rfl, rfl, rfl, rfl⟩
 ·skip
  (refine keepP (by intro g; simp only [go_sem, ren, renL]) ?_)
  congr 1
  symm
  simp [sameT, h]
end Go.Proofs.YtjdbdmhjakfldaaGreat
end
section
namespace Go.Proofs.YtjdbdmhjakfldaaGreat
open Go.Bv
theorem fits_spec (t : Tn) (ht : TnOK t) : Pu C 78 [tnV t] (.int .i64 (fitsT t)) := by
 have hs := ht.s
 have he := ht.e
 refine Fc.keep (Fc.bodyT mixed Tryz.func78 w78 rfl Tryz.ntmps78 Tryz.results78 (Nat.le_of_ble_eq_true rfl) ?_)
 (refine Go1.out ?_;repeat' ((with_reducible first|refine Go1.mk ?_|((first|apply Br.dec|apply Br.beq|apply Br.bne|apply Br.mk)<;>intro h))<;>try simp -implicitDefEqProofs (maxSteps:=9000000) (disch:=first|omega|(simp only [lens];omega)) only [go_sem]))
 refine Fc.pure (May_spec t.shape (by omega)) (by simp [cloL, clo, cloL_ints]) (fun g => rfl) ?_
 (refine Go1.out ?_;repeat' ((with_reducible first|refine Go1.mk ?_|((first|apply Br.dec|apply Br.beq|apply Br.bne|apply Br.mk)<;>intro h))<;>try simp -implicitDefEqProofs (maxSteps:=9000000) (disch:=first|omega|(simp only [lens];omega)) only [go_sem]))
 ·skip
  (refine keepP (by intro g; simp only [go_sem, ren, renL]) ?_)
  rw [fitsT, if_pos h]
 ·refine Pc.pure (Count_spec t.shape (by omega)) (by simp [cloL, clo, cloL_ints]) (fun g => rfl) ?_
  (refine Go1.out ?_;repeat' ((with_reducible first|refine Go1.mk ?_|((first|apply Br.dec|apply Br.beq|apply Br.bne|apply Br.mk)<;>intro h))<;>try simp -implicitDefEqProofs (maxSteps:=9000000) (disch:=first|omega|(simp only [lens];omega)) only [go_sem]))
  ·skip
   (refine keepP (by intro g; simp only [go_sem, ren, renL]) ?_)
   rw [fitsT, if_neg (by omega), if_pos (by assumption)]
  ·skip
   (refine keepP (by intro g; simp only [go_sem, ren, renL]) ?_)
   rw [fitsT, if_neg (by omega), if_neg (by omega)]
theorem of_spec (t : Tn) : Pu C 72 [tnV t] (tnV t) := by
 refine Fc.keep (Fc.bodyT mixed Tryz.func72 w72 rfl Tryz.ntmps72 Tryz.results72 (Nat.le_of_ble_eq_true rfl) ?_)
 (refine Go1.out ?_;repeat' ((with_reducible first|refine Go1.mk ?_|((first|apply Br.dec|apply Br.beq|apply Br.bne|apply Br.mk)<;>intro h))<;>try simp -implicitDefEqProofs (maxSteps:=9000000) (disch:=first|omega|(simp only [lens];omega)) only [go_sem]))
 exact keepP (fun g => by simp [ren, renL, renL_ints, renL_clo _ _ (cloL_raws t.el)]) rfl
theorem yk97 : Tryz.f97.body.all yOK = true := by kernel_rfl
def allV (t : Tn) : V := .fn (.func 97) [] [.rp [.sl t.shape.length (ints t.shape), .sl t.el.length (rawsC t.el)] 0]
theorem all_spec (t : Tn) : Pu C 73 [tnV t] (allV t) := by
 refine Fc.keep (Fc.sealR ?_)
 refine Fc.bodyT mixed Tryz.func73 w73 rfl Tryz.ntmps73 Tryz.results73 (Nat.le_of_ble_eq_true rfl) ?_
 (refine Go1.out ?_;repeat' ((with_reducible first|refine Go1.mk ?_|((first|apply Br.dec|apply Br.beq|apply Br.bne|apply Br.mk)<;>intro h))<;>try simp -implicitDefEqProofs (maxSteps:=9000000) (disch:=first|omega|(simp only [lens];omega)) only [go_sem]))
 refine ⟨0, _, 2, [.sl t.shape.length (ints t.shape), .sl t.el.length (rawsC t.el)], rfl, by simp [cloL, clo, cloL_ints, cloL_raws], [], by simp, by simp, ?_⟩
 simp [sz, szL, ren, renL, allV, selH, renL_ints, renL_clo _ _ (cloL_raws t.el)]
def itemsT (t : Tn) : List (List V) := (List.range t.el.length).map fun i => [.int .i64 (i : Nat), rawV (t.el.getD i r0)]
theorem itemsT_get {t : Tn} {i : Nat} (h : i < t.el.length) : (itemsT t)[i]? = some [.int .i64 (i : Nat), rawV (t.el.getD i r0)] := by simp [itemsT, h]
theorem itemsT_len (t : Tn) : (itemsT t).length = t.el.length := by simp [itemsT]
theorem all_gen (t : Tn) (ht : TnOK t) : Gen C 97 [.rp [.sl t.shape.length (ints t.shape), .sl t.el.length (rawsC t.el)] 0] (itemsT t) := by
 have he := ht.e
 refine Gen.of3 mixed Tryz.func97 w97 yk97 rfl Tryz.ntmps97 Tryz.results97 (Nat.le_of_ble_eq_true rfl) (fun bs hb => by
  simp only [itemsT, List.mem_map, List.mem_range] at hb
  obtain ⟨i, _, rfl⟩ := hb
  simp [cloL, clo, clo_rawV]) ?_
 intro G l J hW
 (refine Go1.out ?_;repeat' ((with_reducible first|refine Go1.mk ?_|((first|apply Br.dec|apply Br.beq|apply Br.bne|apply Br.mk)<;>intro h))<;>try simp -implicitDefEqProofs (maxSteps:=9000000) (disch:=first|omega|(simp only [lens];omega)) only [go_sem]))
 refine TTY_loop_inv (fun n ts H => ∃ (i : Nat), (i ≤ t.el.length) ∧ (n = t.el.length - i) ∧ (H.length = i) ∧ ts.length = 19 ∧ nth ts 0 = .fn (.yield l) [] [] ∧ nth ts 6 = .sl t.el.length (rawsC t.el) ∧ nth ts 7 = .int .i64 (t.el.length : Nat) ∧ nth ts 8 = .int .i64 (i : Nat)) ?_ (n := t.el.length) ?_
 ·skip
  rintro n ts H ⟨i, hi, hn, hH, hL, hs0, hs6, hs7, hs8⟩
  refine TTY_env [(0, .fn (.yield l) [] []), (6, .sl t.el.length (rawsC t.el)), (7, .int .i64 (t.el.length : Nat)), (8, .int .i64 (i : Nat))] hL (by simp only [List.forall_mem_cons, hs0, hs6, hs7, hs8, true_and]; exact fun _ h => nomatch h) ?_
  clear hL hs0 hs6 hs7 hs8 ts
  refine hW _ _ _ _ ?_
  by_cases hcase : i < t.el.length
  ·skip
   (refine Go1.out ?_;repeat' ((with_reducible first|refine Go1.mk ?_|((first|apply Br.dec|apply Br.beq|apply Br.bne|apply Br.mk)<;>intro h))<;>try simp -implicitDefEqProofs (maxSteps:=9000000) (disch:=first|omega|(simp only [lens];omega)) only [go_sem]))
   refine ⟨_, _, _, 19, [(0, .fn (.yield l) [] []), (3, .int .i64 (i : Nat)), (4, .rp [.bool (t.el.getD i r0).neg, NA (t.el.getD i r0).num, NA (t.el.getD i r0).den] 0), (6, .sl t.el.length (rawsC t.el)), (7, .int .i64 (t.el.length : Nat)), (8, .int .i64 (i : Nat))], rfl, ?_, by simp [env_length], ?_, ?_⟩
   ·simp [cloL, clo, cloL_nats]
   ·simp only [List.forall_mem_cons, nth_szL, List.not_mem_nil, false_implies, implies_true, and_true]
    refine ⟨⟨?_, ?_⟩, ⟨?_, ?_⟩, ⟨?_, ?_⟩, ⟨?_, ?_⟩, ⟨?_, ?_⟩, ⟨?_, ?_⟩⟩
    all_goals first | rfl | (simp [clo, cloL, cloL_raws, clo_NA]; done) | skip
    ·show sz (List.length H) _ (.ptr (List.length H) 0) = _
     rw [sz, if_pos rfl]; rfl
    ·exact sz_clo _ _ (.sl t.el.length (rawsC t.el)) (cloL_raws _)
   ·skip
    (refine Go1.out ?_;repeat' ((with_reducible first|refine Go1.mk ?_|((first|apply Br.dec|apply Br.beq|apply Br.bne|apply Br.mk)<;>intro h))<;>try simp -implicitDefEqProofs (maxSteps:=9000000) (disch:=first|omega|(simp only [lens];omega)) only [go_sem]))
    rw [hH, itemsT_len]
    refine ⟨itemsT_get hcase, ⟨t.el.length - (i + 1), by omega, i + 1, by omega, rfl, rfl, rfl⟩, .inr trivial, .inr ?_⟩
    rw [List.length_replicate]; omega
  ·skip
   (refine Go1.out ?_;repeat' ((with_reducible first|refine Go1.mk ?_|((first|apply Br.dec|apply Br.beq|apply Br.bne|apply Br.mk)<;>intro h))<;>try simp -implicitDefEqProofs (maxSteps:=9000000) (disch:=first|omega|(simp only [lens];omega)) only [go_sem]))
   rw [itemsT_len]
   exact ⟨.inl trivial, .inl (by omega)⟩
 ·exact ⟨0, by omega, by omega, rfl, rfl, rfl, rfl, rfl, rfl⟩
theorem tmay_spec (t : Tn) (ht : TnOK t) : Pu C 39 [tnV t] (.int .i64 (mayT t)) := by
 have hs := ht.s
 have he := ht.e
 have hv : allV t = .fn (.func 97) [] [.rp [.sl t.shape.length (ints t.shape), .sl t.el.length (rawsC t.el)] 0] := rfl
 refine Fc.keep (Fc.bodyT mixed Tryz.func39 w39 rfl Tryz.ntmps39 Tryz.results39 (Nat.le_of_ble_eq_true rfl) ?_)
 (refine Go1.out ?_;repeat' ((with_reducible first|refine Go1.mk ?_|((first|apply Br.dec|apply Br.beq|apply Br.bne|apply Br.mk)<;>intro h))<;>try simp -implicitDefEqProofs (maxSteps:=9000000) (disch:=first|omega|(simp only [lens];omega)) only [go_sem]))
 refine Fc.pure (fits_spec t ht) (by simp [cloL, clo, cloL_ints, cloL_raws]) (fun g => rfl) ?_
 (refine Go1.out ?_;repeat' ((with_reducible first|refine Go1.mk ?_|((first|apply Br.dec|apply Br.beq|apply Br.bne|apply Br.mk)<;>intro h))<;>try simp -implicitDefEqProofs (maxSteps:=9000000) (disch:=first|omega|(simp only [lens];omega)) only [go_sem]))
 ·skip
  (refine keepP (by intro g; simp only [go_sem, ren, renL]) ?_)
  rw [mayT, if_pos h]
 ·have hf : fitsT t = 0 := by omega
  have hmt : mayT t = if t.el.all okR then 0 else 6 := by rw [mayT, hf, if_neg (by decide)]
  refine Fc.pure (of_spec t) (by simp [cloL, clo, cloL_ints, cloL_raws]) (fun g => by simp [tnV, ren, renL, renL_ints, renL_clo _ _ (cloL_raws t.el)]) ?_
  (refine Go1.out ?_;repeat' ((with_reducible first|refine Go1.mk ?_|((first|apply Br.dec|apply Br.beq|apply Br.bne|apply Br.mk)<;>intro h))<;>try simp -implicitDefEqProofs (maxSteps:=9000000) (disch:=first|omega|(simp only [lens];omega)) only [go_sem]))
  refine Fc.pure (all_spec t) (by simp [cloL, clo, cloL_ints, cloL_raws]) (fun g => by simp [allV, ren, renL, renL_ints, renL_clo _ _ (cloL_raws t.el)]) ?_
  (refine Go1.out ?_;repeat' ((with_reducible first|refine Go1.mk ?_|((first|apply Br.dec|apply Br.beq|apply Br.bne|apply Br.mk)<;>intro h))<;>try simp -implicitDefEqProofs (maxSteps:=9000000) (disch:=first|omega|(simp only [lens];omega)) only [go_sem, hv]))
  refine TT_range (g := 97) (lb := [.rp [.sl t.shape.length (ints t.shape), .sl t.el.length (rawsC t.el)] 0]) (xs := itemsT t) (by simp -implicitDefEqProofs (maxSteps := 9000000) (disch := first | omega | (simp only [lens]; omega)) only [go_sem]) (by simp [cloL, clo, cloL_ints, cloL_raws]) (all_gen t ht) (fun bs hb => by
   simp only [itemsT, List.mem_map, List.mem_range] at hb
   obtain ⟨i, _, rfl⟩ := hb
   rfl) (fun k H => (∀ j, j < k → okR (t.el.getD j r0) = true) ∧ rowOf H 1 = some ⟨27, 1, [.int .i64 0]⟩) ⟨fun j hj => by omega, rfl⟩ ?_ ?_
  ·rintro k us H hk ⟨hI, h1⟩ l
   have hkl : k < t.el.length := by
    have := (List.getElem?_eq_some_iff.1 hk).1
    rwa [itemsT_len] at this
   rw [itemsT_get hkl] at hk
   injection hk with hk
   subst hk
   have h1' : ∀ X, rowOf (H ++ X) 1 = some ⟨27, 1, [.int .i64 0]⟩ := fun X => rowOf_keep h1 X
   (refine TT_of mixed ?_; simp -implicitDefEqProofs (maxSteps := 9000000) (disch := first | omega | (simp only [lens]; omega)) only [go_sem, putl])
   (refine TT_of mixed ?_; simp -implicitDefEqProofs (maxSteps := 9000000) (disch := first | omega | (simp only [lens]; omega)) only [go_sem, h1'])
   refine Fc.pure (may_spec (t.el.getD k r0) (ht.get hkl)) (by simp [cloL, clo, cloL_nats]) (fun g => rfl) ?_
   cases hb : okR (t.el.getD k r0) with
   | true =>
    rw [if_pos rfl]
    (refine Go1.out ?_;repeat' ((with_reducible first|refine Go1.mk ?_|((first|apply Br.dec|apply Br.beq|apply Br.bne|apply Br.mk)<;>intro h))<;>try simp -implicitDefEqProofs (maxSteps:=9000000) (disch:=first|omega|(simp only [lens];omega)) only [go_sem, h1', rangeQ]))
    exact allS hI hb
   | false =>
    rw [if_neg (by decide)]
    have hst : ∀ X z, rowOf ((H ++ X).set 1 (some z)) 1 = some z := fun X z => rowOf_set_eq (h1' X)
    (refine Go1.out ?_;repeat' ((with_reducible first|refine Go1.mk ?_|((first|apply Br.dec|apply Br.beq|apply Br.bne|apply Br.mk)<;>intro h))<;>try simp -implicitDefEqProofs (maxSteps:=9000000) (disch:=first|omega|(simp only [lens];omega)) only [go_sem, h1', hst, rangeQ]))
    (refine keepP (by intro g; simp only [go_sem, ren, renL]) ?_)
    rw [hmt, if_neg fun hh => ?_]
    have := (all_get r0).1 hh k hkl
    rw [hb] at this; cases this
  ·rintro H ⟨hI, h1⟩
   rw [itemsT_len] at hI
   have hst : ∀ z, rowOf (H.set 1 (some z)) 1 = some z := fun z => rowOf_set_eq h1
   (refine Go1.out ?_;repeat' ((with_reducible first|refine Go1.mk ?_|((first|apply Br.dec|apply Br.beq|apply Br.bne|apply Br.mk)<;>intro h))<;>try simp -implicitDefEqProofs (maxSteps:=9000000) (disch:=first|omega|(simp only [lens];omega)) only [go_sem, h1, hst]))
   (refine keepP (by intro g; simp only [go_sem, ren, renL]) ?_)
   rw [hmt, if_pos ((all_get r0).2 hI)]
def normT (t : Tn) : Tn := ⟨t.shape, (t.el.map valQ).map rawOf⟩
theorem norm_snoc {xs : List Raw} {i : Nat} (h : i < xs.length) : rawsC (((xs.map valQ).map rawOf).take (i + 1)) = rawsC (((xs.map valQ).map rawOf).take i) ++ [.bool (valQ (xs.getD i r0)).neg, natV (valQ (xs.getD i r0)).num, natV (valQ (xs.getD i r0)).den] := by
 rw [rawOf_snoc (by simpa using h)]
 have : (xs.map valQ).getD i q0 = valQ (xs.getD i r0) := by simp [List.getD, h]
 rw [this]
theorem turned_val (t : Tn) (ht : TnOK t) : Val C 90 [tnV t, .fn (.func 91) [] []] (tnV (normT t)) := by
 have hs := ht.s
 have he := ht.e
 have hv : allV t = .fn (.func 97) [] [.rp [.sl t.shape.length (ints t.shape), .sl t.el.length (rawsC t.el)] 0] := rfl
 refine Fc.keep (Fc.bodyT mixed Tryz.func90 w90 rfl Tryz.ntmps90 Tryz.results90 (Nat.le_of_ble_eq_true rfl) ?_)
 (refine Go1.out ?_;repeat' ((with_reducible first|refine Go1.mk ?_|((first|apply Br.dec|apply Br.beq|apply Br.bne|apply Br.mk)<;>intro h))<;>try simp -implicitDefEqProofs (maxSteps:=9000000) (disch:=first|omega|(simp only [lens];omega)) only [go_sem]))
 refine Val.keptF (Val.ofRet (CloneS_spec t.shape (by omega)) (cloL_ints _) (plainL_ints _)) ⟨.self (by simp [clo, cloL_ints]), trivial⟩ fun sv X hsv => ?_
 obtain ⟨k0, c0, s0⟩ := gd_sl hsv.gd
 (refine Go1.out ?_;repeat' ((with_reducible first|refine Go1.mk ?_|((first|apply Br.dec|apply Br.beq|apply Br.bne|apply Br.mk)<;>intro h))<;>try simp -implicitDefEqProofs (maxSteps:=9000000) (disch:=first|omega|(simp only [lens];omega)) only [go_sem, k0, c0, s0]))
 refine Fc.pure (all_spec t) (by simp [cloL, clo, cloL_ints, cloL_raws]) (fun g => by simp [allV, ren, renL, renL_ints, renL_clo _ _ (cloL_raws t.el)]) ?_
 (refine Go1.out ?_;repeat' ((with_reducible first|refine Go1.mk ?_|((first|apply Br.dec|apply Br.beq|apply Br.bne|apply Br.mk)<;>intro h))<;>try simp -implicitDefEqProofs (maxSteps:=9000000) (disch:=first|omega|(simp only [lens];omega)) only [go_sem, hv]))
 have hsv2 := GdIn.app hsv.within [some ⟨99, 2, [sv, .nil]⟩]
 obtain ⟨P, hP⟩ : ∃ P, P = X.length + 3 := ⟨_, rfl⟩
 have hPl : ([some (⟨99, 2, [.sl t.shape.length (ints t.shape), .sl t.el.length (rawsC t.el)]⟩ : Row), some ⟨67, 1, [.fn (.func 91) [] []]⟩, some ⟨99, 2, [.nil, .nil]⟩] ++ X).length = P := by rw [hP]; simp
 rw [hPl] at hsv2
 rw [← hP]
 refine TT_range (g := 97) (lb := [.rp [.sl t.shape.length (ints t.shape), .sl t.el.length (rawsC t.el)] 0]) (xs := itemsT t) (by simp -implicitDefEqProofs (maxSteps := 9000000) (disch := first | omega | (simp only [lens]; omega)) only [go_sem]) (by simp [cloL, clo, cloL_ints, cloL_raws]) (all_gen t ht) (fun bs hb => by
   simp only [itemsT, List.mem_map, List.mem_range] at hb
   obtain ⟨i, _, rfl⟩ := hb
   rfl) (fun k H => ∃ u, rowOf H 1 = some ⟨67, 1, [.fn (.func 91) [] []]⟩ ∧ rowOf H 2 = some ⟨99, 2, [.nil, .nil]⟩ ∧ rowOf H P = some ⟨99, 2, [sv, u]⟩ ∧ GdIn 3 P H sv (.sl t.shape.length (ints t.shape)) ∧ Cel (P + 1) 58 3 H u k (rawsC (((t.el.map valQ).map rawOf).take k))) ?_ ?_ ?_
 ·refine ⟨.nil, rfl, rfl, ?_, hsv2, Cel.nil _ _ _ _⟩
  rw [hP]; simp [rowOf]
 ·rintro k us H hk ⟨u, h1, h2, h3, h4, hu⟩ l
  have hkl : k < t.el.length := by
   have := (List.getElem?_eq_some_iff.1 hk).1
   rwa [itemsT_len] at this
  rw [itemsT_get hkl] at hk
  injection hk with hk
  subst hk
  (refine TT_of mixed ?_; simp -implicitDefEqProofs (maxSteps := 9000000) (disch := first | omega | (simp only [lens]; omega)) only [go_sem, putl])
  have hx := ht.get hkl
  obtain ⟨HH, hHH⟩ : ∃ HH, HH = H ++ [some (⟨58, 3, [.bool (t.el.getD k r0).neg, .sl (t.el.getD k r0).num.length (nats .u32 (t.el.getD k r0).num), .sl (t.el.getD k r0).den.length (nats .u32 (t.el.getD k r0).den)]⟩ : Row)] := ⟨_, rfl⟩
  rw [← hHH]
  have hn : rowOf HH H.length = some ⟨58, 3, [.bool (t.el.getD k r0).neg, .sl (t.el.getD k r0).num.length (nats .u32 (t.el.getD k r0).num), .sl (t.el.getD k r0).den.length (nats .u32 (t.el.getD k r0).den)]⟩ := by rw [hHH]; exact rowOf_snoc _ _
  have hP1 := rowOf_lt h3
  have hL : HH.length = H.length + 1 := by rw [hHH]; simp
  have hkeep : ∀ q row, rowOf H q = some row → rowOf HH q = some row := fun q row hr => by rw [hHH]; exact rowOf_keep hr _
  have g1 := hkeep 1 _ h1
  have g2 := hkeep 2 _ h2
  have g3 := hkeep P _ h3
  have g4 := h4.app [some (⟨58, 3, [.bool (t.el.getD k r0).neg, .sl (t.el.getD k r0).num.length (nats .u32 (t.el.getD k r0).num), .sl (t.el.getD k r0).den.length (nats .u32 (t.el.getD k r0).den)]⟩ : Row)]
  have gu := Cel.app hu [some (⟨58, 3, [.bool (t.el.getD k r0).neg, .sl (t.el.getD k r0).num.length (nats .u32 (t.el.getD k r0).num), .sl (t.el.getD k r0).den.length (nats .u32 (t.el.getD k r0).den)]⟩ : Row)]
  rw [← hHH] at g4 gu
  (refine TT_of mixed ?_; simp -implicitDefEqProofs (maxSteps := 9000000) (disch := first | omega | (simp only [lens]; omega)) only [go_sem, g1, g3, hn])
  refine RunU.now ?_
  (refine Go1.out ?_;repeat' ((with_reducible first|refine Go1.mk ?_|((first|apply Br.dec|apply Br.beq|apply Br.bne|apply Br.mk)<;>intro h))<;>try simp -implicitDefEqProofs (maxSteps:=9000000) (disch:=first|omega|(simp only [lens];omega)) only [go_sem, g1, g3, hn]))
  refine Pc.keptF (norm_val _ hx) (ratV_some _) ⟨.self (clo_rawV _), trivial⟩ fun v Y hv => ?_
  obtain ⟨v1, v2, v3, rfl, hv1, hv2, hv3⟩ := hv.agg3
  obtain ⟨k2, c2, s2⟩ := gd_sl hv2.gd
  obtain ⟨k3, c3, s3⟩ := gd_sl hv3.gd
  have e1 := hv1.gd.bool_inv
  subst e1
  (refine Go1.out ?_;repeat' ((with_reducible first|refine Go1.mk ?_|((first|apply Br.dec|apply Br.beq|apply Br.bne|apply Br.mk)<;>intro h))<;>try simp -implicitDefEqProofs (maxSteps:=9000000) (disch:=first|omega|(simp only [lens];omega)) only [go_sem, g1, g3, hn, k2, c2, s2, k3, c3, s3]))
  refine Cel.push3 gu rfl rfl (by omega) (by omega) hv2 hv3 s2 s3 fun v' H' hu' hk' k4 c4 s4 => ?_
  have f1 := hk' 1 _ (by omega) g1
  have f2 := hk' 2 _ (by omega) g2
  have f3 := hk' P _ (by omega) g3
  have f4 := GdIn.far g4 (H' := H') fun r row hr1 hr2 hr => hk' r row (by omega) hr
  (refine Go1.out ?_;repeat' ((with_reducible first|refine Go1.mk ?_|((first|apply Br.dec|apply Br.beq|apply Br.bne|apply Br.mk)<;>intro h))<;>try simp -implicitDefEqProofs (maxSteps:=9000000) (disch:=first|omega|(simp only [lens];omega)) only [go_sem, f3, k4, c4, s4, rangeQ]))
  refine ⟨v', ?_, ?_, rowOf_set_eq f3, f4.set (.inr (Nat.le_refl _)) _, ?_⟩
  ·rw [rowOf_set_ne _ (by omega)]; exact f1
  ·rw [rowOf_set_ne _ (by omega)]; exact f2
  ·rw [norm_snoc hkl]
   exact Cel.set hu' (by omega) _
 ·rintro H ⟨u, h1, h2, h3, h4, hu⟩
  obtain ⟨k4, c4, s4⟩ := Cel.kn hu
  have hst : ∀ z, rowOf (H.set 2 (some z)) 2 = some z := fun z => rowOf_set_eq h2
  (refine Go1.out ?_;repeat' ((with_reducible first|refine Go1.mk ?_|((first|apply Br.dec|apply Br.beq|apply Br.bne|apply Br.mk)<;>intro h))<;>try simp -implicitDefEqProofs (maxSteps:=9000000) (disch:=first|omega|(simp only [lens];omega)) only [go_sem, h1, h2, h3, hst, k0, c0, s0, k4, c4, s4]))
  rw [itemsT_len, List.take_of_length_le (by simp)] at hu
  refine Gd.ret (Gd.aggL ⟨(h4.set (.inl (by decide)) _).gd, ?_, trivial⟩)
  have hg := Cel.gd (Cel.set hu (q := 2) (by omega) (some ⟨99, 2, [sv, u]⟩))
  simpa [normT] using hg
end Go.Proofs.YtjdbdmhjakfldaaGreat
end
section
namespace Go.Proofs.YtjdbdmhjakfldaaGreat
open Go.Bv
def emptyT : Tn := ⟨[], []⟩
def mkT (t : Tn) : Tn × Int := if fitsT t ≠ 0 then (emptyT, fitsT t) else (normT t, 0)
theorem gd_empty {H : Heap} : Gd H (.agg [.nil, .nil]) (tnV emptyT) := Gd.aggL ⟨.nil _, .nil _, trivial⟩
theorem back_own (a b : V) (H : Heap) (ka : kn a = true) (ca : cellsOf a = [a]) (sa : scal a = true) (kb : kn b = true) (cb : cellsOf b = [b]) (sb : scal b = true) : Fc C 89 [.agg [a, b]] H fun v H' => v = .agg [a, b] ∧ ∃ X, H' = H ++ X := by
 refine Fc.bodyT mixed Tryz.func89 w89 rfl Tryz.ntmps89 Tryz.results89 (Nat.le_of_ble_eq_true rfl) ?_
 (refine Go1.out ?_;repeat' ((with_reducible first|refine Go1.mk ?_|((first|apply Br.dec|apply Br.beq|apply Br.bne|apply Br.mk)<;>intro h))<;>try simp -implicitDefEqProofs (maxSteps:=9000000) (disch:=first|omega|(simp only [lens];omega)) only [go_sem, ka, ca, sa, kb, cb, sb]))
 exact ⟨_, rfl⟩
theorem tmake_val (t : Tn) (ht : TnOK t) : Val C 59 [.sl t.shape.length (ints t.shape), .sl t.el.length (rawsC t.el)] (.tup [tnV (mkT t).1, .int .i64 (mkT t).2]) := by
 refine Fc.keep (Fc.bodyT mixed Tryz.func59 w59 rfl Tryz.ntmps59 Tryz.results59 (Nat.le_of_ble_eq_true rfl) ?_)
 (refine Go1.out ?_;repeat' ((with_reducible first|refine Go1.mk ?_|((first|apply Br.dec|apply Br.beq|apply Br.bne|apply Br.mk)<;>intro h))<;>try simp -implicitDefEqProofs (maxSteps:=9000000) (disch:=first|omega|(simp only [lens];omega)) only [go_sem]))
 refine Fc.pure (fits_spec t ht) (by simp [cloL, clo, cloL_ints, cloL_raws]) (fun g => rfl) ?_
 (refine Go1.out ?_;repeat' ((with_reducible first|refine Go1.mk ?_|((first|apply Br.dec|apply Br.beq|apply Br.bne|apply Br.mk)<;>intro h))<;>try simp -implicitDefEqProofs (maxSteps:=9000000) (disch:=first|omega|(simp only [lens];omega)) only [go_sem]))
 ·rw [mkT, if_pos h]
  exact Gd.ret (Gd.tupL ⟨gd_empty, gd_i _ _, trivial⟩)
 ·rw [mkT, if_neg (by omega)]
  refine Fc.pure (of_spec t) (by simp [cloL, clo, cloL_ints, cloL_raws]) (fun g => by simp [tnV, ren, renL, renL_ints, renL_clo _ _ (cloL_raws t.el)]) ?_
  (refine Go1.out ?_;repeat' ((with_reducible first|refine Go1.mk ?_|((first|apply Br.dec|apply Br.beq|apply Br.bne|apply Br.mk)<;>intro h))<;>try simp -implicitDefEqProofs (maxSteps:=9000000) (disch:=first|omega|(simp only [lens];omega)) only [go_sem]))
  refine (turned_val t ht).keptF ⟨.self (clo_tnV t), .self rfl, trivial⟩ fun v X hv => ?_
  obtain ⟨a, b, rfl, ha, hb⟩ := hv.agg2
  obtain ⟨ka, ca, sa⟩ := gd_sl ha.gd
  obtain ⟨kb, cb, sb⟩ := gd_sl hb.gd
  (refine Go1.out ?_;repeat' ((with_reducible first|refine Go1.mk ?_|((first|apply Br.dec|apply Br.beq|apply Br.bne|apply Br.mk)<;>intro h))<;>try simp -implicitDefEqProofs (maxSteps:=9000000) (disch:=first|omega|(simp only [lens];omega)) only [go_sem]))
  refine (back_own a b _ ka ca sa kb cb sb).mono ?_
  rintro v H' ⟨rfl, Y, rfl⟩
  (refine Go1.out ?_;repeat' ((with_reducible first|refine Go1.mk ?_|((first|apply Br.dec|apply Br.beq|apply Br.bne|apply Br.mk)<;>intro h))<;>try simp -implicitDefEqProofs (maxSteps:=9000000) (disch:=first|omega|(simp only [lens];omega)) only [go_sem, ka, ca, sa, kb, cb, sb]))
  exact Gd.ret (Gd.tupL ⟨Gd.aggL ⟨((ha.app Y).set (q := 0) (by simp) _).gd, ((hb.app Y).set (q := 0) (by simp) _).gd, trivial⟩, gd_i _ _, trivial⟩)
end Go.Proofs.YtjdbdmhjakfldaaGreat
end
section
namespace Go.Proofs.YtjdbdmhjakfldaaGreat
open Go.Bv
def offP (s xs : List Int) : Nat → Int
 | 0 => 0
 | i + 1 => offP s xs i * s.getD i 0 + xs.getD i 0
def inB (s xs : List Int) : Bool := (List.range s.length).all fun i => decide (0 ≤ xs.getD i 0 ∧ xs.getD i 0 < s.getD i 0)
def offE (s xs : List Int) : Int := if mayP s ≠ 0 then mayP s else if xs.length ≠ s.length then 2 else if inB s xs then 0 else 21
def offN (s xs : List Int) : Int := if offE s xs = 0 then offP s xs s.length else 0
theorem inB_iff {s xs : List Int} : inB s xs = true ↔ ∀ i, i < s.length → 0 ≤ xs.getD i 0 ∧ xs.getD i 0 < s.getD i 0 := by simp [inB]
theorem offP_lt {s xs : List Int} (h : ∀ i, i < s.length → 0 ≤ xs.getD i 0 ∧ xs.getD i 0 < s.getD i 0) : ∀ i, i ≤ s.length → 0 ≤ offP s xs i ∧ offP s xs i < prodL (s.take i)
 | 0, _ => by simp [offP, prodL]
 | i + 1, hi => by
  obtain ⟨h1, h2⟩ := offP_lt h i (by omega)
  obtain ⟨h3, h4⟩ := h i (by omega)
  rw [prodL_take (by omega), offP]
  have h5 : offP s xs i * s.getD i 0 ≤ (prodL (s.take i) - 1) * s.getD i 0 := Int.mul_le_mul_of_nonneg_right (by omega) (by omega)
  have h6 : 0 ≤ offP s xs i * s.getD i 0 := Int.mul_nonneg h1 (by omega)
  rw [Int.sub_mul, Int.one_mul] at h5
  omega
theorem offset_spec (s xs : List Int) (hs : s.length ≤ 1000000000) (hx : xs.length ≤ 1000000000) : Pu C 68 [.sl s.length (ints s), .sl xs.length (ints xs)] (.tup [.int .i64 (offN s xs), .int .i64 (offE s xs)]) := by
 refine Fc.keep (Fc.bodyT mixed Tryz.func68 w68 rfl Tryz.ntmps68 Tryz.results68 (Nat.le_of_ble_eq_true rfl) ?_)
 (refine Go1.out ?_;repeat' ((with_reducible first|refine Go1.mk ?_|((first|apply Br.dec|apply Br.beq|apply Br.bne|apply Br.mk)<;>intro h))<;>try simp -implicitDefEqProofs (maxSteps:=9000000) (disch:=first|omega|(simp only [lens];omega)) only [go_sem]))
 refine Fc.pure (May_spec s (by omega)) (by simp [go_sem, cloL, clo, cloL_ints, cloL_intss]) (by intro g; simp only [go_sem, ren, renL]) ?_
 (refine Go1.out ?_;repeat' ((with_reducible first|refine Go1.mk ?_|((first|apply Br.dec|apply Br.beq|apply Br.bne|apply Br.mk)<;>intro h))<;>try simp -implicitDefEqProofs (maxSteps:=9000000) (disch:=first|omega|(simp only [lens];omega)) only [go_sem]))
 ·skip
  (refine keepP (by intro g; simp only [go_sem, ren, renL]) ?_)
  have : offE s xs = mayP s := if_pos h
  rw [offN, this, if_neg h]
 ·have hm : mayP s = 0 := by omega
  (refine keepP (by intro g; simp only [go_sem, ren, renL]) ?_)
  have : offE s xs = 2 := by rw [offE, if_neg (by omega), if_pos (by omega)]
  rw [offN, this, if_neg (by decide)]
 ·have hm : mayP s = 0 := by omega
  have hl : xs.length = s.length := by omega
  obtain ⟨m1, m2, m3⟩ := mayP_zero hm
  have hoe : offE s xs = if inB s xs then 0 else 21 := by rw [offE, if_neg (by omega), if_neg (by omega)]
  refine TT_loop_inv (fun n ts H => ∃ (i : Nat), (i ≤ s.length) ∧ ((∀ j, j < i → 0 ≤ xs.getD j 0 ∧ xs.getD j 0 < s.getD j 0)) ∧ (H = []) ∧ (n = s.length - i) ∧ ts.length = 50 ∧ nth ts 0 = .sl s.length (ints s) ∧ nth ts 1 = .sl xs.length (ints xs) ∧ nth ts 7 = .int .i64 (offP s xs i) ∧ nth ts 20 = .sl s.length (ints s) ∧ nth ts 21 = .int .i64 (s.length : Nat) ∧ nth ts 22 = .int .i64 (i : Nat)) ?_ (n := s.length) ?_
  ·skip
   rintro n ts H ⟨i, hi, hI, hH, hn, hL, hs0, hs1, hs7, hs20, hs21, hs22⟩
   refine TT_env [(0, .sl s.length (ints s)), (1, .sl xs.length (ints xs)), (7, .int .i64 (offP s xs i)), (20, .sl s.length (ints s)), (21, .int .i64 (s.length : Nat)), (22, .int .i64 (i : Nat))] hL (by simp only [List.forall_mem_cons, hs0, hs1, hs7, hs20, hs21, hs22, true_and]; exact fun _ h => nomatch h) ?_
   clear hL hs0 hs1 hs7 hs20 hs21 hs22 ts
   refine TT_of mixed ?_
   subst hH
   by_cases hcase : i < s.length
   ·have hsi : 1 ≤ s.getD i 0 := all_getD.1 m2 i hcase
    have hsu : s.getD i 0 ≤ prodL s := getD_le_prodL m2 hcase
    have hpl := prodL_le m2 i
    have hoff : 0 ≤ offP s xs i ∧ offP s xs i < prodL (s.take i) := by
     have hh : ∀ (m : Nat), m ≤ i → 0 ≤ offP s xs m ∧ offP s xs m < prodL (s.take m) := fun m => by
      induction m with
      | zero => intro _; simp [offP, prodL]
      | succ m ih =>
       intro hm
       obtain ⟨h1, h2⟩ := ih (by omega)
       obtain ⟨h3, h4⟩ := hI m (by omega)
       rw [prodL_take (by omega), offP]
       have h5 : offP s xs m * s.getD m 0 ≤ (prodL (s.take m) - 1) * s.getD m 0 := Int.mul_le_mul_of_nonneg_right (by omega) (by omega)
       have h6 : 0 ≤ offP s xs m * s.getD m 0 := Int.mul_nonneg h1 (by omega)
       rw [Int.sub_mul, Int.one_mul] at h5
       omega
     exact hh i (Nat.le_refl _)
    have hmul : 0 ≤ offP s xs i * s.getD i 0 ∧ offP s xs i * s.getD i 0 ≤ 1048576 := by
     refine ⟨Int.mul_nonneg hoff.1 (by omega), ?_⟩
     have := Int.mul_le_mul (show offP s xs i ≤ 1024 by omega) (show s.getD i 0 ≤ 1024 by omega) (by omega) (by decide)
     omega
    by_cases hin : 0 ≤ xs.getD i 0 ∧ xs.getD i 0 < s.getD i 0
    ·have e : offP s xs (i + 1) = offP s xs i * s.getD i 0 + xs.getD i 0 := rfl
     generalize hq : offP s xs i * s.getD i 0 = q at *
     generalize offP s xs i = o at *
     generalize hd : s.getD i 0 = d at *
     generalize hxx : xs.getD i 0 = x at *
     have hI' : ∀ j, j < i + 1 → 0 ≤ xs.getD j 0 ∧ xs.getD j 0 < s.getD j 0 := allS hI (by rw [hd, hxx]; exact hin)
     (refine Go1.out ?_;repeat' ((with_reducible first|refine Go1.mk ?_|((first|apply Br.dec|apply Br.beq|apply Br.bne|apply Br.mk)<;>intro h))<;>try simp -implicitDefEqProofs (maxSteps:=9000000) (disch:=first|omega|(simp only [lens];omega)) only [go_sem, hq, hd, hxx]))
     refine ⟨s.length - (i + 1), by omega, i + 1, by omega, hI', rfl, by rw [e], by congr 1⟩
    ·have hno : inB s xs = false := by
      rw [Bool.eq_false_iff]
      intro hh
      exact hin (inB_iff.1 hh i hcase)
     have e21 : offE s xs = 21 := by rw [hoe, hno]; rfl
     have e0 : offN s xs = 0 := by rw [offN, e21, if_neg (by decide)]
     rw [e21, e0]
     (refine Go1.out ?_;repeat' ((with_reducible first|refine Go1.mk ?_|((first|apply Br.dec|apply Br.beq|apply Br.bne|apply Br.mk)<;>intro h))<;>try simp -implicitDefEqProofs (maxSteps:=9000000) (disch:=first|omega|(simp only [lens];omega)) only [go_sem]))
     all_goals (refine keepP (by intro g; simp only [go_sem, ren, renL]) ?_)
     all_goals rfl
   ·have hil : i = s.length := by omega
    subst hil
    have hyes : inB s xs = true := inB_iff.2 hI
    (refine Go1.out ?_;repeat' ((with_reducible first|refine Go1.mk ?_|((first|apply Br.dec|apply Br.beq|apply Br.bne|apply Br.mk)<;>intro h))<;>try simp -implicitDefEqProofs (maxSteps:=9000000) (disch:=first|omega|(simp only [lens];omega)) only [go_sem]))
    (refine keepP (by intro g; simp only [go_sem, ren, renL]) ?_)
    have e21 : offE s xs = 0 := by rw [hoe, hyes]; rfl
    rw [e21, offN, if_pos e21]
  ·exact ⟨0, by omega, fun j hj => by omega, rfl, rfl, rfl, rfl, rfl, rfl, rfl, rfl, rfl⟩
theorem yk132 : Tryz.f132.body.all yOK = true := by kernel_rfl
def backV (s : List Int) : V := .fn (.func 132) [] [.rp [.sl s.length (ints s)] 0]
theorem backward_spec (s : List Int) : Pu C 111 [.sl s.length (ints s)] (backV s) := by
 refine Fc.keep (Fc.sealR ?_)
 refine Fc.bodyT mixed Tryz.func111 w111 rfl Tryz.ntmps111 Tryz.results111 (Nat.le_of_ble_eq_true rfl) ?_
 (refine Go1.out ?_;repeat' ((with_reducible first|refine Go1.mk ?_|((first|apply Br.dec|apply Br.beq|apply Br.bne|apply Br.mk)<;>intro h))<;>try simp -implicitDefEqProofs (maxSteps:=9000000) (disch:=first|omega|(simp only [lens];omega)) only [go_sem]))
 refine ⟨0, _, 1, [.sl s.length (ints s)], rfl, by simp [cloL, clo, cloL_ints], [], by simp, by simp, ?_⟩
 simp [sz, szL, ren, renL, backV, selH, renL_ints]
def backL (s : List Int) : List (List V) := (List.range s.length).map fun k => [.int .i64 (s.length - 1 - k : Nat), .int .i64 (s.getD (s.length - 1 - k) 0)]
theorem backL_get {s : List Int} {k : Nat} (h : k < s.length) : (backL s)[k]? = some [.int .i64 (s.length - 1 - k : Nat), .int .i64 (s.getD (s.length - 1 - k) 0)] := by simp [backL, h]
theorem backL_len (s : List Int) : (backL s).length = s.length := by simp [backL]
theorem backward_gen (s : List Int) (hs : s.length ≤ 1000000000) : Gen C 132 [.rp [.sl s.length (ints s)] 0] (backL s) := by
 refine Gen.of3 mixed Tryz.func132 w132 yk132 rfl Tryz.ntmps132 Tryz.results132 (Nat.le_of_ble_eq_true rfl) (fun bs hb => by
  simp only [backL, List.mem_map, List.mem_range] at hb
  obtain ⟨i, _, rfl⟩ := hb
  simp [cloL, clo]) ?_
 intro G l J hW
 (refine Go1.out ?_;repeat' ((with_reducible first|refine Go1.mk ?_|((first|apply Br.dec|apply Br.beq|apply Br.bne|apply Br.mk)<;>intro h))<;>try simp -implicitDefEqProofs (maxSteps:=9000000) (disch:=first|omega|(simp only [lens];omega)) only [go_sem]))
 refine TTY_loop_inv (fun n ts H => ∃ (i : Nat), (i ≤ s.length) ∧ (n = s.length - i) ∧ (H.length = i) ∧ ts.length = 19 ∧ nth ts 0 = .fn (.yield l) [] [] ∧ nth ts 1 = .rp [.sl s.length (ints s)] 0 ∧ nth ts 3 = .int .i64 ((s.length : Int) - 1 - i)) ?_ (n := s.length) ?_
 ·skip
  rintro n ts H ⟨i, hi, hn, hH, hL, hs0, hs1, hs3⟩
  refine TTY_env [(0, .fn (.yield l) [] []), (1, .rp [.sl s.length (ints s)] 0), (3, .int .i64 ((s.length : Int) - 1 - i))] hL (by simp only [List.forall_mem_cons, hs0, hs1, hs3, true_and]; exact fun _ h => nomatch h) ?_
  clear hL hs0 hs1 hs3 ts
  refine hW _ _ _ _ ?_
  by_cases hcase : i < s.length
  ·have e : ((s.length : Int) - 1 - (i : Int)) = ((s.length - 1 - i : Nat) : Int) := by omega
   (refine Go1.out ?_;repeat' ((with_reducible first|refine Go1.mk ?_|((first|apply Br.dec|apply Br.beq|apply Br.bne|apply Br.mk)<;>intro h))<;>try simp -implicitDefEqProofs (maxSteps:=9000000) (disch:=first|omega|(simp only [lens];omega)) only [go_sem, e]))
   rw [hH, backL_len]
   refine ⟨backL_get hcase, ⟨s.length - (i + 1), by omega, i + 1, by omega, rfl, rfl, by congr 1; omega⟩, .inr trivial, .inr ?_⟩
   rw [List.length_replicate]; omega
  ·skip
   (refine Go1.out ?_;repeat' ((with_reducible first|refine Go1.mk ?_|((first|apply Br.dec|apply Br.beq|apply Br.bne|apply Br.mk)<;>intro h))<;>try simp -implicitDefEqProofs (maxSteps:=9000000) (disch:=first|omega|(simp only [lens];omega)) only [go_sem]))
   rw [backL_len]
   exact ⟨.inl trivial, .inl (by omega)⟩
 ·exact ⟨0, by omega, by omega, rfl, rfl, rfl, by simp -implicitDefEqProofs (maxSteps := 9000000) (disch := first | omega | (simp only [lens]; omega)) only [go_sem]; congr 1; omega⟩
end Go.Proofs.YtjdbdmhjakfldaaGreat
end
section
namespace Go.Proofs.YtjdbdmhjakfldaaGreat
open Go.Bv
def idxAt (s : List Int) (n : Int) (i : Nat) : Int := (n / prodL (s.drop (i + 1))) % s.getD i 0
def idxL (s : List Int) (n : Int) : List Int := (List.range s.length).map (idxAt s n)
def outK (s : List Int) (n : Int) (k : Nat) : List Int := (List.range s.length).map fun j => if s.length - k ≤ j then idxAt s n j else 0
theorem outK_len (s : List Int) (n : Int) (k : Nat) : (outK s n k).length = s.length := by simp [outK]
theorem idxL_len (s : List Int) (n : Int) : (idxL s n).length = s.length := by simp [idxL]
theorem outK_full (s : List Int) (n : Int) : outK s n s.length = idxL s n := by simp [outK, idxL]
theorem outK_zero (s : List Int) (n : Int) : outK s n 0 = List.replicate s.length 0 := by
 refine List.ext_getElem (by simp [outK]) fun j h1 h2 => ?_
 simp [outK] at h1 ⊢
 intro; omega
theorem outK_step {s : List Int} {n : Int} {k : Nat} (h : k < s.length) : (outK s n k).set (s.length - 1 - k) (idxAt s n (s.length - 1 - k)) = outK s n (k + 1) := by
 refine List.ext_getElem (by simp [outK]) fun j h1 h2 => ?_
 rw [List.getElem_set]
 simp [outK] at h1 h2 ⊢
 split
 ·rename_i e; subst e; rw [if_pos (by omega)]
 ·rename_i e
  by_cases hj : s.length ≤ j + k
  ·rw [if_pos hj, if_pos (by omega)]
  ·rw [if_neg hj, if_neg (by omega)]
theorem prodL_drop {s : List Int} {i : Nat} (h : i < s.length) : prodL (s.drop i) = s.getD i 0 * prodL (s.drop (i + 1)) := by
 rw [List.drop_eq_getElem_cons h]; simp [prodL, List.getD, h]
theorem getD_pos {s : List Int} (h : ∀ d ∈ s, 1 ≤ d) {i : Nat} (hi : i < s.length) : 1 ≤ s.getD i 0 := all_getD.1 h i hi
theorem idx_next {s : List Int} (h : ∀ d ∈ s, 1 ≤ d) {n : Int} {i : Nat} (hi : i < s.length) : n / prodL (s.drop (i + 1)) / s.getD i 0 = n / prodL (s.drop i) := by
 have h2 := prodL_pos (l := s.drop (i + 1)) fun d hd => h d (List.mem_of_mem_drop hd)
 rw [prodL_drop hi, Int.ediv_ediv_of_nonneg (by omega), Int.mul_comm]
theorem idxAt_in {s : List Int} (h : ∀ d ∈ s, 1 ≤ d) (n : Int) {i : Nat} (hi : i < s.length) : 0 ≤ idxAt s n i ∧ idxAt s n i < s.getD i 0 := by
 have := getD_pos h hi
 exact ⟨Int.emod_nonneg _ (by omega), Int.emod_lt_of_pos _ (by omega)⟩
theorem ints_zero (n : Nat) : nats .i64 (List.replicate n 0) = ints (List.replicate n 0) := by
 induction n with
 | zero => rfl
 | succ n ih => simp only [List.replicate_succ, nats, ints, List.map_cons] at ih ⊢; rw [ih]; rfl
theorem index_val (s : List Int) (n : Int) (hs : s.length ≤ 1000000000) (hm : mayP s = 0) (h0 : 0 ≤ n) (hn : n < prodL s) : Val C 93 [.sl s.length (ints s), .int .i64 n] (.tup [.sl (idxL s n).length (ints (idxL s n)), .int .i64 0]) := by
 obtain ⟨m1, m2, m3⟩ := mayP_zero hm
 have hv : backV s = .fn (.func 132) [] [.rp [.sl s.length (ints s)] 0] := rfl
 have hp : prodP s = prodL s := by unfold prodP; rw [if_neg (by omega)]
 refine Fc.keep (Fc.bodyT mixed Tryz.func93 w93 rfl Tryz.ntmps93 Tryz.results93 (Nat.le_of_ble_eq_true rfl) ?_)
 (refine Go1.out ?_;repeat' ((with_reducible first|refine Go1.mk ?_|((first|apply Br.dec|apply Br.beq|apply Br.bne|apply Br.mk)<;>intro h))<;>try simp -implicitDefEqProofs (maxSteps:=9000000) (disch:=first|omega|(simp only [lens];omega)) only [go_sem]))
 refine Fc.pure (May_spec s (by omega)) (by simp [go_sem, cloL, clo, cloL_ints, cloL_intss]) (by intro g; simp only [go_sem, ren, renL]) ?_
 rw [hm]
 (refine Go1.out ?_;repeat' ((with_reducible first|refine Go1.mk ?_|((first|apply Br.dec|apply Br.beq|apply Br.bne|apply Br.mk)<;>intro h))<;>try simp -implicitDefEqProofs (maxSteps:=9000000) (disch:=first|omega|(simp only [lens];omega)) only [go_sem]))
 refine Pc.pure (product_spec s (by omega) m2) (by simp [cloL, clo, cloL_ints]) (fun g => rfl) ?_
 rw [hp]
 (refine Go1.out ?_;repeat' ((with_reducible first|refine Go1.mk ?_|((first|apply Br.dec|apply Br.beq|apply Br.bne|apply Br.mk)<;>intro h))<;>try simp -implicitDefEqProofs (maxSteps:=9000000) (disch:=first|omega|(simp only [lens];omega)) only [go_sem]))
 refine makew_k rfl rfl rfl rfl (by simp [t3bytes]) (by omega) ?_
 (refine Go1.out ?_;repeat' ((with_reducible first|refine Go1.mk ?_|((first|apply Br.dec|apply Br.beq|apply Br.bne|apply Br.mk)<;>intro h))<;>try simp -implicitDefEqProofs (maxSteps:=9000000) (disch:=first|omega|(simp only [lens];omega)) only [go_sem]))
 refine Fc.pure (backward_spec s) (by simp [cloL, clo, cloL_ints]) (fun g => by simp [backV, ren, renL, renL_ints]) ?_
 (refine Go1.out ?_;repeat' ((with_reducible first|refine Go1.mk ?_|((first|apply Br.dec|apply Br.beq|apply Br.bne|apply Br.mk)<;>intro h))<;>try simp -implicitDefEqProofs (maxSteps:=9000000) (disch:=first|omega|(simp only [lens];omega)) only [go_sem, hv]))
 refine TT_range (g := 132) (lb := [.rp [.sl s.length (ints s)] 0]) (xs := backL s) (by simp -implicitDefEqProofs (maxSteps := 9000000) (disch := first | omega | (simp only [lens]; omega)) only [go_sem]) (by simp [cloL, clo, cloL_ints]) (backward_gen s hs) (fun bs hb => by
   simp only [backL, List.mem_map, List.mem_range] at hb
   obtain ⟨i, _, rfl⟩ := hb
   rfl) (fun k H => rowOf H 0 = some ⟨3, 1, [.int .i64 (n / prodL (s.drop (s.length - k)))]⟩ ∧ rowOf H 1 = some ⟨3, 1, ints (outK s n k)⟩ ∧ rowOf H 2 = some ⟨22, 1, [.ref 1 0 s.length]⟩) ?_ ?_ ?_
 ·refine ⟨?_, ?_, rfl⟩
  ·rw [Nat.sub_zero, List.drop_length]
   simp [rowOf, prodL]
  ·rw [outK_zero, ← ints_zero]; rfl
 ·rintro k us H hk ⟨h0, h1, h2⟩ l
  have hkl : k < s.length := by
   have := (List.getElem?_eq_some_iff.1 hk).1
   rwa [backL_len] at this
  rw [backL_get hkl] at hk
  injection hk with hk
  subst hk
  have hd := getD_pos m2 (i := s.length - 1 - k) (by omega)
  have hdu := getD_le_prodL m2 (i := s.length - 1 - k) (by omega)
  have hq0 : 0 ≤ n / prodL (s.drop (s.length - k)) := Int.ediv_nonneg (by omega) (by have := prodL_pos (l := s.drop (s.length - k)) fun d hd => m2 d (List.mem_of_mem_drop hd); omega)
  have hq1 : n / prodL (s.drop (s.length - k)) ≤ n := Int.ediv_le_self _ (by omega)
  have hst := outK_step (n := n) hkl
  have hnx := idx_next m2 (n := n) (i := s.length - 1 - k) (by omega)
  have hii : idxAt s n (s.length - 1 - k) = n / prodL (s.drop (s.length - k)) % s.getD (s.length - 1 - k) 0 := by
   rw [idxAt, show s.length - 1 - k + 1 = s.length - k by omega]
  rw [show s.length - 1 - k + 1 = s.length - k by omega] at hnx
  have hlen := outK_len s n k
  have hw : s.length - (k + 1) = s.length - 1 - k := by omega
  rw [hw]
  rw [hii] at hst
  rw [← hnx]
  have hm1 := Int.emod_nonneg (n / prodL (s.drop (s.length - k))) (show s.getD (s.length - 1 - k) 0 ≠ 0 by omega)
  have hm2 := Int.emod_lt_of_pos (n / prodL (s.drop (s.length - k))) (show 0 < s.getD (s.length - 1 - k) 0 by omega)
  have hdv := Int.ediv_le_self (a := n / prodL (s.drop (s.length - k))) (s.getD (s.length - 1 - k) 0) hq0
  have hdv0 := Int.ediv_nonneg hq0 (show 0 ≤ s.getD (s.length - 1 - k) 0 by omega)
  generalize n / prodL (s.drop (s.length - k)) = q at *
  generalize s.getD (s.length - 1 - k) 0 = d at *
  have f0 : ∀ z, rowOf (H.set 1 z) 0 = some ⟨3, 1, [.int .i64 q]⟩ := fun z => by rw [rowOf_set_ne _ (by decide)]; exact h0
  (refine TT_of mixed ?_; simp -implicitDefEqProofs (maxSteps := 9000000) (disch := first | omega | (simp only [lens]; omega)) only [go_sem, putl])
  (refine TT_of mixed ?_; simp -implicitDefEqProofs (maxSteps := 9000000) (disch := first | omega | (simp only [lens]; omega)) only [go_sem, h0, h1, h2, f0, upd_ints, hst, rangeQ])
  refine ⟨rowOf_set_eq (f0 _), ?_, ?_⟩
  ·rw [rowOf_set_ne _ (by decide)]; exact rowOf_set_eq h1
  ·rw [rowOf_set_ne _ (by decide), rowOf_set_ne _ (by decide)]; exact h2
 ·rintro H ⟨h0, h1, h2⟩
  rw [backL_len, outK_full] at h1
  (refine Go1.out ?_;repeat' ((with_reducible first|refine Go1.mk ?_|((first|apply Br.dec|apply Br.beq|apply Br.bne|apply Br.mk)<;>intro h))<;>try simp -implicitDefEqProofs (maxSteps:=9000000) (disch:=first|omega|(simp only [lens];omega)) only [go_sem, h0, h1, h2]))
  rw [idxL_len]
  exact Gd.ret (Gd.tupL ⟨.flat 1 _ _ _ _ h1 (cloL_ints _) (plainL_ints _), .leaf _ rfl rfl, trivial⟩)
end Go.Proofs.YtjdbdmhjakfldaaGreat
end
section
namespace Go.Proofs.YtjdbdmhjakfldaaGreat
open Go.Bv
def zeroR : Raw := rawOf (intQ 0)
def gatL (N : Nat) (none : Raw) (p : Nat → Raw) (b : Nat → Bool) : List Raw := (List.range N).map fun i => if b i then p i else none
theorem gatL_len (N : Nat) (no : Raw) (p : Nat → Raw) (b : Nat → Bool) : (gatL N no p b).length = N := by simp [gatL]
theorem gatL_succ (N : Nat) (no : Raw) (p : Nat → Raw) (b : Nat → Bool) : gatL (N + 1) no p b = gatL N no p b ++ [if b N then p N else no] := by simp [gatL, List.range_succ]
theorem rawsC_app (xs : List Raw) (x : Raw) : rawsC (xs ++ [x]) = rawsC xs ++ [.bool x.neg, NA x.num, NA x.den] := by rw [rawsC, flat3_append]; rfl
theorem rawsC_scal (xs : List Raw) : (rawsC xs).all scal = true := by
 induction xs with
 | nil => rfl
 | cons x xs ih => simp only [rawsC, flat3_cons, List.all_cons] at ih ⊢; rw [ih]; rfl
theorem push_raw {y : Ty} {e e' s' i : Nat} {H : Heap} {v : V} {xs : List Raw} {x : Raw} {r1 : Option Row} {K : V → Heap → Prop} (h : Bv.Own e 3 H v i (rawsC xs)) (hy : y.size = 3) (hby : y.bytes = 56) (hn : i + 1 ≤ 1000000000)
  (hK : ∀ v' H', Bv.Own e 3 H' v' (i + 1) (rawsC (xs ++ [x])) → (∀ q row, (∀ off m, v ≠ .ref q off m) → rowOf H q = some row → rowOf H' q = some row) → (∀ r off m, v' = .ref r off m → 1 ≤ r) → K v' H') :
  appw y e v (.ref (H.length + 1) 0 1) (H ++ [r1, some ⟨e', s', [.bool x.neg, .sl x.num.length (nats .u32 x.num), .sl x.den.length (nats .u32 x.den)]⟩]) K := by
 rw [show H ++ [r1, some (⟨e', s', [.bool x.neg, .sl x.num.length (nats .u32 x.num), .sl x.den.length (nats .u32 x.den)]⟩ : Row)] = (H ++ [r1]) ++ [some ⟨e', s', [.bool x.neg, .sl x.num.length (nats .u32 x.num), .sl x.den.length (nats .u32 x.den)]⟩] by simp, show H.length + 1 = (H ++ [r1]).length by simp]
 have h' := h.keep [r1]
 rw [← hy] at h'
 refine app_lit2 h' (by rw [hy]; rfl) (by simp [scal]) (by omega) (by omega) (by rw [hby]; omega) (rawsC_scal _) fun H' k1 k2 k3 => ?_
 rw [hy] at k1
 refine hK _ H' (by rw [rawsC_app]; exact k1) (fun q row hq hr => k2 q row hq (rowOf_keep hr _)) fun r off m e => by injection e with e; omega
theorem gatherM_spec (s : List Int) (no : Raw) (f : Nat) (caps : List V) (p : Nat → Raw) (b : Nat → Bool) (N : Nat) (hs : s.length ≤ 1000000000) (hm : mayP s = 0) (hN : (N : Int) = prodL s) (hc : cloL caps = true)
  (hp : ∀ i, i < N → Pu C f (.sl (idxL s (i : Nat)).length (ints (idxL s (i : Nat))) :: caps) (.tup [rawV (p i), .bool (b i)])) :
  Pu C 66 [.sl s.length (ints s), rawV no, .fn (.func f) [] caps] (.sl N (rawsC (gatL N no p b))) := by
 obtain ⟨m1, m2, m3⟩ := mayP_zero hm
 have hct : countP s = (N : Int) := by rw [countP, if_pos hm, hN]
 refine Fc.valO (e := 58) (s := 3) ?_ (cloL_raws _)
 refine Fc.keep (Fc.bodyT mixed Tryz.func66 w66 rfl Tryz.ntmps66 Tryz.results66 (Nat.le_of_ble_eq_true rfl) ?_)
 (refine Go1.out ?_;repeat' ((with_reducible first|refine Go1.mk ?_|((first|apply Br.dec|apply Br.beq|apply Br.bne|apply Br.mk)<;>intro h))<;>try simp -implicitDefEqProofs (maxSteps:=9000000) (disch:=first|omega|(simp only [lens];omega)) only [go_sem]))
 refine Fc.pure (Count_spec s (by omega)) (by simp [go_sem, cloL, clo, cloL_ints, cloL_intss]) (by intro g; simp only [go_sem, ren, renL]) ?_
 rw [hct]
 (refine Go1.out ?_;repeat' ((with_reducible first|refine Go1.mk ?_|((first|apply Br.dec|apply Br.beq|apply Br.bne|apply Br.mk)<;>intro h))<;>try simp -implicitDefEqProofs (maxSteps:=9000000) (disch:=first|omega|(simp only [lens];omega)) only [go_sem]))
 refine TT_loop_inv (fun n ts H => ∃ (i : Nat) (u : V), (i ≤ N) ∧ (n = N - i) ∧ (rowOf H 0 = some ⟨58, 3, [.bool no.neg, NA no.num, NA no.den]⟩) ∧ (Bv.Own 58 3 H u i (rawsC (gatL i no p b))) ∧ ((∀ r off m, u = .ref r off m → 1 ≤ r)) ∧ ts.length = 39 ∧ nth ts 0 = .sl s.length (ints s) ∧ nth ts 2 = .fn (.func f) [] caps ∧ nth ts 4 = .ptr 0 0 ∧ nth ts 7 = u ∧ nth ts 14 = .int .i64 (N : Nat) ∧ nth ts 15 = .int .i64 (i : Nat)) ?_ (n := N) ?_
 ·skip
  rintro n ts H ⟨i, u, hi, hn, h0, hu, hr, hL, hs0, hs2, hs4, hs7, hs14, hs15⟩
  refine TT_env [(0, .sl s.length (ints s)), (2, .fn (.func f) [] caps), (4, .ptr 0 0), (7, u), (14, .int .i64 (N : Nat)), (15, .int .i64 (i : Nat))] hL (by simp only [List.forall_mem_cons, hs0, hs2, hs4, hs7, hs14, hs15, true_and]; exact fun _ h => nomatch h) ?_
  clear hL hs0 hs2 hs4 hs7 hs14 hs15 ts
  refine TT_of mixed ?_
  by_cases hcase : i < N
  ·skip
   (refine Go1.out ?_;repeat' ((with_reducible first|refine Go1.mk ?_|((first|apply Br.dec|apply Br.beq|apply Br.bne|apply Br.mk)<;>intro h))<;>try simp -implicitDefEqProofs (maxSteps:=9000000) (disch:=first|omega|(simp only [lens];omega)) only [go_sem]))
   refine (index_val s (i : Nat) hs hm (by omega) (by omega)).call ⟨.self (by simp [clo, cloL_ints]), .self rfl, trivial⟩ (by simp [clo, cloL, cloL_ints]) ?_
   (refine Go1.out ?_;repeat' ((with_reducible first|refine Go1.mk ?_|((first|apply Br.dec|apply Br.beq|apply Br.bne|apply Br.mk)<;>intro h))<;>try simp -implicitDefEqProofs (maxSteps:=9000000) (disch:=first|omega|(simp only [lens];omega)) only [go_sem]))
   refine Fc.pure (hp i hcase) (by simp [cloL, clo, cloL_ints, hc]) (fun g => by simp [ren, renL, rawV, NA, renL_nats]) ?_
   have hkeep : ∀ X, rowOf (H ++ X) 0 = some ⟨58, 3, [.bool no.neg, NA no.num, NA no.den]⟩ := fun X => rowOf_keep h0 X
   have hlen := rowOf_lt h0
   cases hb : b i with
   | true =>
    (refine Go1.out ?_;repeat' ((with_reducible first|refine Go1.mk ?_|((first|apply Br.dec|apply Br.beq|apply Br.bne|apply Br.mk)<;>intro h))<;>try simp -implicitDefEqProofs (maxSteps:=9000000) (disch:=first|omega|(simp only [lens];omega)) only [go_sem, hkeep]))
    refine push_raw hu rfl rfl (by omega) fun v' H' hu' hk hr' => ?_
    have h0' := hk 0 _ (fun off m e => by have := hr _ _ _ e; omega) h0
    have hg : rawsC (gatL (i + 1) no p b) = rawsC (gatL i no p b ++ [p i]) := by rw [gatL_succ, hb]; rfl
    rw [← hg] at hu'
    (refine Go1.out ?_;repeat' ((with_reducible first|refine Go1.mk ?_|((first|apply Br.dec|apply Br.beq|apply Br.bne|apply Br.mk)<;>intro h))<;>try simp -implicitDefEqProofs (maxSteps:=9000000) (disch:=first|omega|(simp only [lens];omega)) only [go_sem]))
    exact ⟨N - (i + 1), by omega, i + 1, v', (by (repeat' apply And.intro) <;> (first | rfl | omega | (congr 1; omega) | assumption | (congr 1; assumption)))⟩
   | false =>
    (refine Go1.out ?_;repeat' ((with_reducible first|refine Go1.mk ?_|((first|apply Br.dec|apply Br.beq|apply Br.bne|apply Br.mk)<;>intro h))<;>try simp -implicitDefEqProofs (maxSteps:=9000000) (disch:=first|omega|(simp only [lens];omega)) only [go_sem, hkeep]))
    refine push_raw hu rfl rfl (by omega) fun v' H' hu' hk hr' => ?_
    have h0' := hk 0 _ (fun off m e => by have := hr _ _ _ e; omega) h0
    have hg : rawsC (gatL (i + 1) no p b) = rawsC (gatL i no p b ++ [no]) := by rw [gatL_succ, hb]; rfl
    rw [← hg] at hu'
    (refine Go1.out ?_;repeat' ((with_reducible first|refine Go1.mk ?_|((first|apply Br.dec|apply Br.beq|apply Br.bne|apply Br.mk)<;>intro h))<;>try simp -implicitDefEqProofs (maxSteps:=9000000) (disch:=first|omega|(simp only [lens];omega)) only [go_sem]))
    exact ⟨N - (i + 1), by omega, i + 1, v', (by (repeat' apply And.intro) <;> (first | rfl | omega | (congr 1; omega) | assumption | (congr 1; assumption)))⟩
  ·skip
   (refine Go1.out ?_;repeat' ((with_reducible first|refine Go1.mk ?_|((first|apply Br.dec|apply Br.beq|apply Br.bne|apply Br.mk)<;>intro h))<;>try simp -implicitDefEqProofs (maxSteps:=9000000) (disch:=first|omega|(simp only [lens];omega)) only [go_sem]))
   have : i = N := by omega
   subst this
   exact Own.ret hu (fun g => renL_clo _ _ (cloL_raws _)) fun v H h => h
 ·exact ⟨0, .nil, by omega, rfl, rfl, .inl ⟨rfl, rfl, rfl⟩, (fun r off m e => nomatch e), rfl, rfl, rfl, rfl, rfl, rfl, rfl⟩
def pickT (t : Tn) (l : List Int) : Raw := t.el.getD (offN t.shape l).toNat r0
def isAt (t : Tn) (l : List Int) : Bool := decide (offE t.shape l = 0)
theorem offN_lt {s l : List Int} (h : offE s l = 0) : 0 ≤ offN s l ∧ offN s l < prodL s ∧ mayP s = 0 := by
 have hm : mayP s = 0 := by
  refine Classical.byContradiction fun hn => ?_
  rw [offE, if_pos hn] at h; exact hn h
 have hl : l.length = s.length := by
  refine Classical.byContradiction fun hn => ?_
  rw [offE, if_neg (by omega), if_pos hn] at h; cases h
 have hi : inB s l = true := by
  refine Classical.byContradiction fun hn => ?_
  rw [offE, if_neg (by omega), if_neg (by omega), if_neg hn] at h; cases h
 have := offP_lt (inB_iff.1 hi) s.length (Nat.le_refl _)
 rw [List.take_length] at this
 rw [offN, if_pos h]
 exact ⟨this.1, this.2, hm⟩
theorem mv1_spec (t : Tn) (ht : TnOK t) (hf : fitsT t = 0) (f : Nat) (caps : List V) (hc : cloL caps = true) (x l : List Int) (hx : x.length ≤ 1000000000) (hl : l.length ≤ 1000000000) (hp : Val C f (.sl x.length (ints x) :: caps) (.sl l.length (ints l))) :
  Pu C 82 [.sl x.length (ints x), .rp [.sl t.shape.length (ints t.shape), .sl t.el.length (rawsC t.el)] 0, .rp [.fn (.func f) [] caps] 0] (.tup [rawV (if isAt t l then pickT t l else r0), .bool (isAt t l)]) := by
 have hs := ht.s
 have he := ht.e
 refine Pu.ofBor (by simp [clo, cloL, clo_rawV]) ?_
 refine Fc.bodyT mixed Tryz.func82 w82 rfl Tryz.ntmps82 Tryz.results82 (Nat.le_of_ble_eq_true rfl) ?_
 (refine Go1.out ?_;repeat' ((with_reducible first|refine Go1.mk ?_|((first|apply Br.dec|apply Br.beq|apply Br.bne|apply Br.mk)<;>intro h))<;>try simp -implicitDefEqProofs (maxSteps:=9000000) (disch:=first|omega|(simp only [lens];omega)) only [go_sem]))
 refine RunU.now ?_
 (refine Go1.out ?_;repeat' ((with_reducible first|refine Go1.mk ?_|((first|apply Br.dec|apply Br.beq|apply Br.bne|apply Br.mk)<;>intro h))<;>try simp -implicitDefEqProofs (maxSteps:=9000000) (disch:=first|omega|(simp only [lens];omega)) only [go_sem]))
 refine Val.pc hp ⟨.self (by simp [clo, cloL_ints]), BorL.selfs hc⟩ (by simp [clo, cloL_ints]) ?_
 (refine Go1.out ?_;repeat' ((with_reducible first|refine Go1.mk ?_|((first|apply Br.dec|apply Br.beq|apply Br.bne|apply Br.mk)<;>intro h))<;>try simp -implicitDefEqProofs (maxSteps:=9000000) (disch:=first|omega|(simp only [lens];omega)) only [go_sem]))
 refine Pc.pure (offset_spec t.shape l hs hl) (by simp [cloL, clo, cloL_ints]) (fun g => rfl) ?_
 by_cases hz : offE t.shape l = 0
 ·obtain ⟨h1, h2, h3⟩ := offN_lt hz
  have hel : (t.el.length : Int) = prodL t.shape := by
   rw [fitsT, if_neg (by omega)] at hf
   split at hf
   ·cases hf
   ·rename_i h; rw [countP, if_pos h3] at h; omega
  obtain ⟨m, hm⟩ : ∃ m : Nat, offN t.shape l = m := ⟨(offN t.shape l).toNat, by omega⟩
  have hia : isAt t l = true := by simp [isAt, hz]
  have hpk : pickT t l = t.el.getD m r0 := by rw [pickT, hm]; rfl
  rw [hia, if_pos rfl, hpk, hm, hz]
  have hlt : m < t.el.length := by omega
  (refine Go1.out ?_;repeat' ((with_reducible first|refine Go1.mk ?_|((first|apply Br.dec|apply Br.beq|apply Br.bne|apply Br.mk)<;>intro h))<;>try simp -implicitDefEqProofs (maxSteps:=9000000) (disch:=first|omega|(simp only [lens];omega)) only [go_sem]))
  exact .self (by simp [clo, cloL, cloL_nats])
 ·have hia : isAt t l = false := by simp [isAt, hz]
  rw [hia, if_neg (by decide)]
  (refine Go1.out ?_;repeat' ((with_reducible first|refine Go1.mk ?_|((first|apply Br.dec|apply Br.beq|apply Br.bne|apply Br.mk)<;>intro h))<;>try simp -implicitDefEqProofs (maxSteps:=9000000) (disch:=first|omega|(simp only [lens];omega)) only [go_sem]))
  exact Bor.tupL ⟨Bor.aggL ⟨.self rfl, .nil _, .nil _, trivial⟩, .self rfl, trivial⟩
theorem idxL_in {s : List Int} (h : ∀ d ∈ s, 1 ≤ d) (n : Int) : ∀ j, j < s.length → 0 ≤ (idxL s n).getD j 0 ∧ (idxL s n).getD j 0 < s.getD j 0 := fun j hj => by
 have e : (idxL s n).getD j 0 = idxAt s n j := by simp [idxL, List.getD, hj]
 rw [e]
 exact idxAt_in h n hj
def mvL (t : Tn) (s : List Int) (g : List Int → List Int) (N : Nat) : List Raw := gatL N zeroR (fun i => if isAt t (g (idxL s (i : Nat))) then pickT t (g (idxL s (i : Nat))) else r0) (fun i => isAt t (g (idxL s (i : Nat))))
def mvT (t : Tn) (s : List Int) (g : List Int → List Int) : Tn := normT ⟨s, mvL t s g (prodL s).toNat⟩
theorem zeroR_ok : RawOK zeroR := ⟨by simp [zeroR, rawOf, intQ, dg_zero], by rw [zeroR, rawOf, intQ, dg_one _ (by decide)]; decide, fun x hx => by simp [zeroR, rawOf, intQ, dg_zero] at hx, fun x hx => by
 rw [zeroR, rawOf, intQ, dg_one _ (by decide)] at hx
 simp at hx; rw [hx]; decide⟩
theorem pick_ok {t : Tn} (ht : TnOK t) (hf : fitsT t = 0) {l : List Int} (h : isAt t l = true) : RawOK (pickT t l) := by
 simp only [isAt, decide_eq_true_eq] at h
 obtain ⟨h1, h2, h3⟩ := offN_lt h
 have hel : (t.el.length : Int) = prodL t.shape := by
  rw [fitsT, if_neg (by omega)] at hf
  split at hf
  ·cases hf
  ·rename_i h; rw [countP, if_pos h3] at h; omega
 exact ht.get (by omega)
theorem mvL_ok {t : Tn} (ht : TnOK t) (hf : fitsT t = 0) (s : List Int) (g : List Int → List Int) (N : Nat) : ∀ x ∈ mvL t s g N, RawOK x := fun x hx => by
 simp only [mvL, gatL, List.mem_map, List.mem_range] at hx
 obtain ⟨i, _, rfl⟩ := hx
 split
 ·rename_i h; first | exact pick_ok ht hf h | (rw [if_pos h]; exact pick_ok ht hf h)
 ·exact zeroR_ok
theorem moved_val (t : Tn) (ht : TnOK t) (hf : fitsT t = 0) (s : List Int) (hs : s.length ≤ 1000000000) (hm : mayP s = 0) (f : Nat) (caps : List V) (hc : cloL caps = true) (g : List Int → List Int)
  (hp : ∀ x : List Int, x.length = s.length → (∀ j, j < s.length → 0 ≤ x.getD j 0 ∧ x.getD j 0 < s.getD j 0) → (g x).length ≤ 1000000000 ∧ Val C f (.sl x.length (ints x) :: caps) (.sl (g x).length (ints (g x)))) :
  Val C 41 [tnV t, .sl s.length (ints s), .fn (.func f) [] caps] (.tup [tnV (mvT t s g), .int .i64 0]) := by
 obtain ⟨m1, m2, m3⟩ := mayP_zero hm
 have hpos := prodL_pos m2
 obtain ⟨N, hN⟩ : ∃ N : Nat, (N : Int) = prodL s := ⟨(prodL s).toNat, by omega⟩
 have hNN : (prodL s).toNat = N := by omega
 have hok : TnOK ⟨s, mvL t s g N⟩ := ⟨hs, by simp only [mvL, gatL_len]; omega, mvL_ok ht hf s g N⟩
 have hfit : fitsT ⟨s, mvL t s g N⟩ = 0 := by
  have hm' : ¬ mayP s ≠ 0 := by omega
  rw [fitsT, if_neg hm', if_neg]
  show ¬ _ ≠ countP s
  rw [countP, if_pos hm]
  simp only [mvL, gatL_len]
  omega
 have hmk : mkT ⟨s, mvL t s g N⟩ = (mvT t s g, 0) := by rw [mkT, if_neg (by omega), mvT, hNN]
 have hmake := tmake_val ⟨s, mvL t s g N⟩ hok
 rw [hmk] at hmake
 have hlN : (mvL t s g N).length = N := gatL_len _ _ _ _
 simp only [hlN] at hmake
 have hgat := gatherM_spec s zeroR 82 [.rp [.sl t.shape.length (ints t.shape), .sl t.el.length (rawsC t.el)] 0, .rp [.fn (.func f) [] caps] 0] (fun i => if isAt t (g (idxL s (i : Nat))) then pickT t (g (idxL s (i : Nat))) else r0) (fun i => isAt t (g (idxL s (i : Nat)))) N hs hm hN (by simp [cloL, clo, cloL_ints, cloL_raws, hc]) (fun i hi =>
  mv1_spec t ht hf f caps hc (idxL s (i : Nat)) (g (idxL s (i : Nat))) (by rw [idxL_len]; omega) (hp _ (idxL_len _ _) (idxL_in m2 _)).1 (hp _ (idxL_len _ _) (idxL_in m2 _)).2)
 refine Fc.keep (Fc.bodyT mixed Tryz.func41 w41 rfl Tryz.ntmps41 Tryz.results41 (Nat.le_of_ble_eq_true rfl) ?_)
 (refine Go1.out ?_;repeat' ((with_reducible first|refine Go1.mk ?_|((first|apply Br.dec|apply Br.beq|apply Br.bne|apply Br.mk)<;>intro h))<;>try simp -implicitDefEqProofs (maxSteps:=9000000) (disch:=first|omega|(simp only [lens];omega)) only [go_sem]))
 refine (int_val 0 (by decide) (by decide)).call ⟨.self rfl, trivial⟩ (clo_ratV _) ?_
 (refine Go1.out ?_;repeat' ((with_reducible first|refine Go1.mk ?_|((first|apply Br.dec|apply Br.beq|apply Br.bne|apply Br.mk)<;>intro h))<;>try simp -implicitDefEqProofs (maxSteps:=9000000) (disch:=first|omega|(simp only [lens];omega)) only [go_sem]))
 refine Fc.sealed (r := 0) rfl (by simp [cloL, clo, cloL_ints, cloL_raws]) ?_
 refine Fc.sealed (r := 1) rfl (by simp [cloL, clo, hc]) ?_
 have e : szL 1 [.fn (.func f) [] caps] (szL 0 [.sl t.shape.length (ints t.shape), .sl t.el.length (rawsC t.el)] [.sl s.length (ints s), .agg [.bool (intQ 0).neg, .sl (dg B32 (intQ 0).num).length (nats .u32 (dg B32 (intQ 0).num)), .sl (dg B32 (intQ 0).den).length (nats .u32 (dg B32 (intQ 0).den))], .fn (.func 82) [] [.ptr 0 0, .ptr 1 0]]) =
   [.sl s.length (ints s), rawV zeroR, .fn (.func 82) [] [.rp [.sl t.shape.length (ints t.shape), .sl t.el.length (rawsC t.el)] 0, .rp [.fn (.func f) [] caps] 0]] := by
  simp only [szL, sz, szL_clo _ _ _ (cloL_ints _), szL_clo _ _ _ (cloL_raws _), szL_clo _ _ _ hc, szL_clo _ _ _ (cloL_nats _ _), if_true, Nat.one_ne_zero, if_false]
  rfl
 rw [e]
 refine Fc.pure hgat (by simp [cloL, clo, cloL_ints, cloL_raws, hc, clo_rawV]) (fun g => by simp [ren, renL_clo _ _ (cloL_raws _)]) ?_
 rw [show gatL N zeroR (fun i => if isAt t (g (idxL s (i : Nat))) then pickT t (g (idxL s (i : Nat))) else r0) (fun i => isAt t (g (idxL s (i : Nat)))) = mvL t s g N from rfl]
 (refine Go1.out ?_;repeat' ((with_reducible first|refine Go1.mk ?_|((first|apply Br.dec|apply Br.beq|apply Br.bne|apply Br.mk)<;>intro h))<;>try simp -implicitDefEqProofs (maxSteps:=9000000) (disch:=first|omega|(simp only [lens];omega)) only [go_sem]))
 refine hmake.keptF ⟨.self (by simp [clo, cloL_ints]), .self (by simp [clo, cloL_raws]), trivial⟩ fun v X hv => ?_
 obtain ⟨w, e, rfl, hw, he⟩ := hv.tup2
 obtain ⟨a, b, rfl, ha, hb⟩ := hw.agg2
 obtain ⟨ka, ca, sa⟩ := gd_sl ha.gd
 obtain ⟨kb, cb, sb⟩ := gd_sl hb.gd
 rw [he.gd.int_inv]
 (refine Go1.out ?_;repeat' ((with_reducible first|refine Go1.mk ?_|((first|apply Br.dec|apply Br.beq|apply Br.bne|apply Br.mk)<;>intro h))<;>try simp -implicitDefEqProofs (maxSteps:=9000000) (disch:=first|omega|(simp only [lens];omega)) only [go_sem, ka, ca, sa, kb, cb, sb]))
 exact Gd.ret (Gd.tupL ⟨Gd.aggL ⟨(ha.set (q := 2) (by simp) _).gd, (hb.set (q := 2) (by simp) _).gd, trivial⟩, gd_i _ _, trivial⟩)
end Go.Proofs.YtjdbdmhjakfldaaGreat
end
section
namespace Go.Proofs.YtjdbdmhjakfldaaGreat
open Go.Bv
theorem two_at (r off : Nat) (i : Int) (H : Heap) (K : V → Prop) : idxw C.ty (C.ty 79) (.ptr r off) (.int .i64 i) H K = ((rowOf H r).isSome = true ∧ 0 ≤ i ∧ i < 2 ∧ K (.ptr r (off + i.toNat))) := by
 simp only [idxw, indexAddrw, show (C.ty 79).sl = none from rfl, t79arr, t3ok, t3size, true_and, Nat.mul_one]
 rfl
attribute [go_sem] two_at
theorem yk86 : Tryz.f86.body.all yOK = true := by kernel_rfl
def pairsV (l : List Int) : V := .fn (.func 86) [] [.rp [.sl l.length (ints l)] 0]
theorem pairs_spec (l : List Int) : Pu C 50 [.sl l.length (ints l)] (pairsV l) := by
 refine Fc.keep (Fc.sealR ?_)
 refine Fc.bodyT mixed Tryz.func50 w50 rfl Tryz.ntmps50 Tryz.results50 (Nat.le_of_ble_eq_true rfl) ?_
 (refine Go1.out ?_;repeat' ((with_reducible first|refine Go1.mk ?_|((first|apply Br.dec|apply Br.beq|apply Br.bne|apply Br.mk)<;>intro h))<;>try simp -implicitDefEqProofs (maxSteps:=9000000) (disch:=first|omega|(simp only [lens];omega)) only [go_sem]))
 refine ⟨0, _, 1, [.sl l.length (ints l)], rfl, by simp [cloL, clo, cloL_ints], [], by simp, by simp, ?_⟩
 simp [sz, szL, ren, renL, pairsV, selH, renL_ints]
def pairL (l : List Int) : List (List V) := (List.range (l.length / 2)).map fun k => [.int .i64 (k : Nat), .agg [.int .i64 (l.getD (2 * k) 0), .int .i64 (l.getD (2 * k + 1) 0)]]
theorem pairL_get {l : List Int} {k : Nat} (h : k < l.length / 2) : (pairL l)[k]? = some [.int .i64 (k : Nat), .agg [.int .i64 (l.getD (2 * k) 0), .int .i64 (l.getD (2 * k + 1) 0)]] := by simp [pairL, h]
theorem pairL_len (l : List Int) : (pairL l).length = l.length / 2 := by simp [pairL]
theorem pairs_gen (s : List Int) (hs : s.length ≤ 1000000000) : Gen C 86 [.rp [.sl s.length (ints s)] 0] (pairL s) := by
 refine Gen.of3 mixed Tryz.func86 w86 yk86 rfl Tryz.ntmps86 Tryz.results86 (Nat.le_of_ble_eq_true rfl) (fun bs hb => by
  simp only [pairL, List.mem_map, List.mem_range] at hb
  obtain ⟨i, _, rfl⟩ := hb
  simp [cloL, clo]) ?_
 intro G l J hW
 (refine Go1.out ?_;repeat' ((with_reducible first|refine Go1.mk ?_|((first|apply Br.dec|apply Br.beq|apply Br.bne|apply Br.mk)<;>intro h))<;>try simp -implicitDefEqProofs (maxSteps:=9000000) (disch:=first|omega|(simp only [lens];omega)) only [go_sem]))
 refine TTY_loop_inv (fun n ts H => ∃ (i : Nat), (i ≤ s.length / 2) ∧ (n = s.length / 2 - i) ∧ (H.length = i) ∧ ts.length = 26 ∧ nth ts 0 = .fn (.yield l) [] [] ∧ nth ts 1 = .rp [.sl s.length (ints s)] 0 ∧ nth ts 3 = .int .i64 ((2 * i : Nat) : Int)) ?_ (n := s.length / 2) ?_
 ·skip
  rintro n ts H ⟨i, hi, hn, hH, hL, hs0, hs1, hs3⟩
  refine TTY_env [(0, .fn (.yield l) [] []), (1, .rp [.sl s.length (ints s)] 0), (3, .int .i64 ((2 * i : Nat) : Int))] hL (by simp only [List.forall_mem_cons, hs0, hs1, hs3, true_and]; exact fun _ h => nomatch h) ?_
  clear hL hs0 hs1 hs3 ts
  refine hW _ _ _ _ ?_
  by_cases hcase : i < s.length / 2
  ·have e1 : (((2 * i : Nat) : Int) / 2) = (i : Int) := by omega
   have e2 : (((2 * i : Nat) : Int) + 1) = ((2 * i + 1 : Nat) : Int) := by omega
   (refine Go1.out ?_;repeat' ((with_reducible first|refine Go1.mk ?_|((first|apply Br.dec|apply Br.beq|apply Br.bne|apply Br.mk)<;>intro h))<;>try simp -implicitDefEqProofs (maxSteps:=9000000) (disch:=first|omega|(simp only [lens];omega)) only [go_sem, e1, e2]))
   rw [hH, pairL_len]
   refine ⟨pairL_get hcase, ⟨s.length / 2 - (i + 1), by omega, i + 1, by omega, rfl, rfl, by congr 1⟩, .inr trivial, .inr ?_⟩
   rw [List.length_replicate]; omega
  ·skip
   (refine Go1.out ?_;repeat' ((with_reducible first|refine Go1.mk ?_|((first|apply Br.dec|apply Br.beq|apply Br.bne|apply Br.mk)<;>intro h))<;>try simp -implicitDefEqProofs (maxSteps:=9000000) (disch:=first|omega|(simp only [lens];omega)) only [go_sem]))
   rw [pairL_len]
   exact ⟨.inl trivial, .inl (by omega)⟩
 ·exact ⟨0, by omega, by omega, rfl, rfl, rfl, rfl, rfl⟩
theorem pair_arity {l : List Int} {n : Nat} (hn : n = 2) : ∀ bs ∈ pairL l, bs.length = n := fun bs hb => by
 subst hn
 simp only [pairL, List.mem_map, List.mem_range] at hb
 obtain ⟨i, _, rfl⟩ := hb
 rfl
def addL (l x : List Int) : List Int := (List.range x.length).map fun i => x.getD i 0 + l.getD (2 * i) 0
def subL (l x : List Int) : List Int := (List.range x.length).map fun i => x.getD i 0 - l.getD (2 * i) 0
def doneL (f : Nat → Int) (x : List Int) (k : Nat) : List Int := (List.range x.length).map fun i => if i < k then f i else x.getD i 0
theorem doneL_len (f : Nat → Int) (x : List Int) (k : Nat) : (doneL f x k).length = x.length := by simp [doneL]
theorem doneL_zero (f : Nat → Int) (x : List Int) : doneL f x 0 = x := by
 refine List.ext_getElem (by simp [doneL]) fun j h1 h2 => ?_
 simp [doneL, List.getD, h2]
theorem doneL_full (f : Nat → Int) (x : List Int) : doneL f x x.length = (List.range x.length).map f := by
 refine List.ext_getElem (by simp [doneL]) fun j h1 h2 => ?_
 simp [doneL] at h1 ⊢
 intro; omega
theorem doneL_get {f : Nat → Int} {x : List Int} {k : Nat} (h : k < x.length) : (doneL f x k).getD k 0 = x.getD k 0 := by simp [doneL, List.getD, h]
theorem doneL_step {f : Nat → Int} {x : List Int} {k : Nat} (h : k < x.length) : (doneL f x k).set k (f k) = doneL f x (k + 1) := by
 refine List.ext_getElem (by simp [doneL]) fun j h1 h2 => ?_
 rw [List.getElem_set]
 simp [doneL] at h1 h2 ⊢
 split
 ·rename_i e; subst e; rw [if_pos (by omega)]
 ·rename_i e
  by_cases hj : j < k
  ·rw [if_pos hj, if_pos (by omega)]
  ·rw [if_neg hj, if_neg (by omega)]
theorem slFrom_val (l x : List Int) (hx : x.length ≤ 1000) (hl : l.length = 2 * x.length) (hb : ∀ j, j < x.length → 0 ≤ x.getD j 0 ∧ x.getD j 0 ≤ 1024) (hc : ∀ j, j < x.length → 0 ≤ l.getD (2 * j) 0 ∧ l.getD (2 * j) 0 ≤ 1024) : Val C 51 [.sl x.length (ints x), .rp [.sl l.length (ints l)] 0] (.sl (addL l x).length (ints (addL l x))) := by
 have hv : pairsV l = .fn (.func 86) [] [.rp [.sl l.length (ints l)] 0] := rfl
 have hfin : doneL (fun i => x.getD i 0 + l.getD (2 * i) 0) x x.length = addL l x := doneL_full _ _
 have hll : (addL l x).length = x.length := by simp [addL]
 refine Val.ofRet (e := 3) (s := 1) ?_ (cloL_ints _) (plainL_ints _)
 refine Fc.keep (Fc.bodyT mixed Tryz.func51 w51 rfl Tryz.ntmps51 Tryz.results51 (Nat.le_of_ble_eq_true rfl) ?_)
 (refine Go1.out ?_;repeat' ((with_reducible first|refine Go1.mk ?_|((first|apply Br.dec|apply Br.beq|apply Br.bne|apply Br.mk)<;>intro h))<;>try simp -implicitDefEqProofs (maxSteps:=9000000) (disch:=first|omega|(simp only [lens];omega)) only [go_sem]))
 refine Fc.ownL (CloneI_spec x (by omega)) ⟨.self (by simp [clo, cloL_ints]), trivial⟩ (fun g => renL_ints g _) (plainL_ints _) fun v X hv0 => ?_
 have hkn : kn v = true ∧ cellsOf v = [v] ∧ scal v = true := by rcases hv0 with ⟨rfl, _⟩ | ⟨r, rfl, _⟩ <;> exact ⟨rfl, rfl, rfl⟩
 obtain ⟨k1, c1, s1⟩ := hkn
 have hne : ∀ r off m, v = .ref r off m → r < X.length := fun r off m e => by
  rcases hv0 with ⟨rfl, _⟩ | ⟨q, rfl, hq, _⟩
  ·cases e
  ·injection e with e; subst e; have := rowOf_lt hq; simpa using this
 (refine Go1.out ?_;repeat' ((with_reducible first|refine Go1.mk ?_|((first|apply Br.dec|apply Br.beq|apply Br.bne|apply Br.mk)<;>intro h))<;>try simp -implicitDefEqProofs (maxSteps:=9000000) (disch:=first|omega|(simp only [lens];omega)) only [go_sem, k1, c1, s1]))
 refine Fc.pure (pairs_spec l) (by simp [cloL, clo, cloL_ints]) (fun g => by simp [pairsV, ren, renL, renL_ints]) ?_
 (refine Go1.out ?_;repeat' ((with_reducible first|refine Go1.mk ?_|((first|apply Br.dec|apply Br.beq|apply Br.bne|apply Br.mk)<;>intro h))<;>try simp -implicitDefEqProofs (maxSteps:=9000000) (disch:=first|omega|(simp only [lens];omega)) only [go_sem, hv]))
 refine TT_range (g := 86) (lb := [.rp [.sl l.length (ints l)] 0]) (xs := pairL l) (by simp -implicitDefEqProofs (maxSteps := 9000000) (disch := first | omega | (simp only [lens]; omega)) only [go_sem]) (by simp [cloL, clo, cloL_ints]) (pairs_gen l (by omega)) (pair_arity rfl) (fun k H => rowOf H X.length = some ⟨22, 1, [v]⟩ ∧ Bv.Own 3 1 H v x.length (ints (doneL (fun i => x.getD i 0 + l.getD (2 * i) 0) x k))) ⟨by simp [rowOf], ?_⟩ ?_ ?_
 ·rw [doneL_zero]; exact hv0.keep _
 ·rintro k us H hk ⟨hb1, hw⟩ lv
  have hkl : k < x.length := by
   have := (List.getElem?_eq_some_iff.1 hk).1
   rw [pairL_len] at this; omega
  rw [pairL_get (by omega)] at hk
  injection hk with hk
  subst hk
  obtain ⟨-, h0, -⟩ | ⟨r, rfl, hr, -⟩ := hw
  ·omega
  have hrX := hne r 0 x.length rfl
  have hHX := rowOf_lt hb1
  have hap : ∀ Y, rowOf (H ++ Y) X.length = some ⟨22, 1, [.ref r 0 x.length]⟩ := fun Y => rowOf_keep hb1 Y
  have har : ∀ Y, rowOf (H ++ Y) r = some ⟨3, 1, ints (doneL (fun i => x.getD i 0 + l.getD (2 * i) 0) x k)⟩ := fun Y => rowOf_keep hr Y
  have hdg := doneL_get (f := fun i => x.getD i 0 + l.getD (2 * i) 0) hkl
  have hdl := doneL_len (fun i => x.getD i 0 + l.getD (2 * i) 0) x k
  have hds := doneL_step (f := fun i => x.getD i 0 + l.getD (2 * i) 0) hkl
  have hb' := hb k hkl
  have hc' := hc k hkl
  (refine TT_of mixed ?_; simp -implicitDefEqProofs (maxSteps := 9000000) (disch := first | omega | (simp only [lens]; omega)) only [go_sem, putl])
  (refine TT_of mixed ?_; simp -implicitDefEqProofs (maxSteps := 9000000) (disch := first | omega | (simp only [lens]; omega)) only [go_sem, hap, har])
  (refine Go1.out ?_;repeat' ((with_reducible first|refine Go1.mk ?_|((first|apply Br.dec|apply Br.beq|apply Br.bne|apply Br.mk)<;>intro h))<;>try simp -implicitDefEqProofs (maxSteps:=9000000) (disch:=first|omega|(simp only [lens];omega)) only [go_sem, hap, har, hdg, upd_ints, hds, rangeQ]))
  refine ⟨?_, .inr ⟨r, rfl, rowOf_set_eq (har _), by rw [ints_length, doneL_len]; omega⟩⟩
  rw [rowOf_set_ne _ (by omega)]; exact hap _
 ·rintro H ⟨hb1, hw⟩
  rw [pairL_len, show l.length / 2 = x.length by omega, hfin] at hw
  (refine Go1.out ?_;repeat' ((with_reducible first|refine Go1.mk ?_|((first|apply Br.dec|apply Br.beq|apply Br.bne|apply Br.mk)<;>intro h))<;>try simp -implicitDefEqProofs (maxSteps:=9000000) (disch:=first|omega|(simp only [lens];omega)) only [go_sem, hb1]))
  rw [hll]
  exact Own.ret hw (fun g => renL_ints g _) fun v H h => h
theorem padFrom_val (l x : List Int) (hx : x.length ≤ 1000) (hl : l.length = 2 * x.length) (hb : ∀ j, j < x.length → 0 ≤ x.getD j 0 ∧ x.getD j 0 ≤ 1024) (hc : ∀ j, j < x.length → 0 ≤ l.getD (2 * j) 0 ∧ l.getD (2 * j) 0 ≤ 1024) : Val C 57 [.sl x.length (ints x), .rp [.sl l.length (ints l)] 0] (.sl (subL l x).length (ints (subL l x))) := by
 have hv : pairsV l = .fn (.func 86) [] [.rp [.sl l.length (ints l)] 0] := rfl
 have hfin : doneL (fun i => x.getD i 0 - l.getD (2 * i) 0) x x.length = subL l x := doneL_full _ _
 have hll : (subL l x).length = x.length := by simp [subL]
 refine Val.ofRet (e := 3) (s := 1) ?_ (cloL_ints _) (plainL_ints _)
 refine Fc.keep (Fc.bodyT mixed Tryz.func57 w57 rfl Tryz.ntmps57 Tryz.results57 (Nat.le_of_ble_eq_true rfl) ?_)
 (refine Go1.out ?_;repeat' ((with_reducible first|refine Go1.mk ?_|((first|apply Br.dec|apply Br.beq|apply Br.bne|apply Br.mk)<;>intro h))<;>try simp -implicitDefEqProofs (maxSteps:=9000000) (disch:=first|omega|(simp only [lens];omega)) only [go_sem]))
 refine Fc.ownL (CloneI_spec x (by omega)) ⟨.self (by simp [clo, cloL_ints]), trivial⟩ (fun g => renL_ints g _) (plainL_ints _) fun v X hv0 => ?_
 have hkn : kn v = true ∧ cellsOf v = [v] ∧ scal v = true := by rcases hv0 with ⟨rfl, _⟩ | ⟨r, rfl, _⟩ <;> exact ⟨rfl, rfl, rfl⟩
 obtain ⟨k1, c1, s1⟩ := hkn
 have hne : ∀ r off m, v = .ref r off m → r < X.length := fun r off m e => by
  rcases hv0 with ⟨rfl, _⟩ | ⟨q, rfl, hq, _⟩
  ·cases e
  ·injection e with e; subst e; have := rowOf_lt hq; simpa using this
 (refine Go1.out ?_;repeat' ((with_reducible first|refine Go1.mk ?_|((first|apply Br.dec|apply Br.beq|apply Br.bne|apply Br.mk)<;>intro h))<;>try simp -implicitDefEqProofs (maxSteps:=9000000) (disch:=first|omega|(simp only [lens];omega)) only [go_sem, k1, c1, s1]))
 refine Fc.pure (pairs_spec l) (by simp [cloL, clo, cloL_ints]) (fun g => by simp [pairsV, ren, renL, renL_ints]) ?_
 (refine Go1.out ?_;repeat' ((with_reducible first|refine Go1.mk ?_|((first|apply Br.dec|apply Br.beq|apply Br.bne|apply Br.mk)<;>intro h))<;>try simp -implicitDefEqProofs (maxSteps:=9000000) (disch:=first|omega|(simp only [lens];omega)) only [go_sem, hv]))
 refine TT_range (g := 86) (lb := [.rp [.sl l.length (ints l)] 0]) (xs := pairL l) (by simp -implicitDefEqProofs (maxSteps := 9000000) (disch := first | omega | (simp only [lens]; omega)) only [go_sem]) (by simp [cloL, clo, cloL_ints]) (pairs_gen l (by omega)) (pair_arity rfl) (fun k H => rowOf H X.length = some ⟨22, 1, [v]⟩ ∧ Bv.Own 3 1 H v x.length (ints (doneL (fun i => x.getD i 0 - l.getD (2 * i) 0) x k))) ⟨by simp [rowOf], ?_⟩ ?_ ?_
 ·rw [doneL_zero]; exact hv0.keep _
 ·rintro k us H hk ⟨hb1, hw⟩ lv
  have hkl : k < x.length := by
   have := (List.getElem?_eq_some_iff.1 hk).1
   rw [pairL_len] at this; omega
  rw [pairL_get (by omega)] at hk
  injection hk with hk
  subst hk
  obtain ⟨-, h0, -⟩ | ⟨r, rfl, hr, -⟩ := hw
  ·omega
  have hrX := hne r 0 x.length rfl
  have hHX := rowOf_lt hb1
  have hap : ∀ Y, rowOf (H ++ Y) X.length = some ⟨22, 1, [.ref r 0 x.length]⟩ := fun Y => rowOf_keep hb1 Y
  have har : ∀ Y, rowOf (H ++ Y) r = some ⟨3, 1, ints (doneL (fun i => x.getD i 0 - l.getD (2 * i) 0) x k)⟩ := fun Y => rowOf_keep hr Y
  have hdg := doneL_get (f := fun i => x.getD i 0 - l.getD (2 * i) 0) hkl
  have hdl := doneL_len (fun i => x.getD i 0 - l.getD (2 * i) 0) x k
  have hds := doneL_step (f := fun i => x.getD i 0 - l.getD (2 * i) 0) hkl
  have hb' := hb k hkl
  have hc' := hc k hkl
  (refine TT_of mixed ?_; simp -implicitDefEqProofs (maxSteps := 9000000) (disch := first | omega | (simp only [lens]; omega)) only [go_sem, putl])
  (refine TT_of mixed ?_; simp -implicitDefEqProofs (maxSteps := 9000000) (disch := first | omega | (simp only [lens]; omega)) only [go_sem, hap, har])
  (refine Go1.out ?_;repeat' ((with_reducible first|refine Go1.mk ?_|((first|apply Br.dec|apply Br.beq|apply Br.bne|apply Br.mk)<;>intro h))<;>try simp -implicitDefEqProofs (maxSteps:=9000000) (disch:=first|omega|(simp only [lens];omega)) only [go_sem, hap, har, hdg, upd_ints, hds, rangeQ]))
  refine ⟨?_, .inr ⟨r, rfl, rowOf_set_eq (har _), by rw [ints_length, doneL_len]; omega⟩⟩
  rw [rowOf_set_ne _ (by omega)]; exact hap _
 ·rintro H ⟨hb1, hw⟩
  rw [pairL_len, show l.length / 2 = x.length by omega, hfin] at hw
  (refine Go1.out ?_;repeat' ((with_reducible first|refine Go1.mk ?_|((first|apply Br.dec|apply Br.beq|apply Br.bne|apply Br.mk)<;>intro h))<;>try simp -implicitDefEqProofs (maxSteps:=9000000) (disch:=first|omega|(simp only [lens];omega)) only [go_sem, hb1]))
  rw [hll]
  exact Own.ret hw (fun g => renL_ints g _) fun v H h => h
end Go.Proofs.YtjdbdmhjakfldaaGreat
end
section
namespace Go.Proofs.YtjdbdmhjakfldaaGreat
open Go.Bv
theorem own_set {e s e' s' : Nat} {H : Heap} {v : V} {n q : Nat} {cs cs' : List V} {z : Option Row} (h : Bv.Own e s H v n cs) (hq : rowOf H q = some ⟨e', s', cs'⟩) (hne : e' ≠ e) : Bv.Own e s (H.set q z) v n cs := by
 rcases h with h | ⟨r, h, hr, hl⟩
 ·exact .inl h
 ·refine .inr ⟨r, h, ?_, hl⟩
  rw [rowOf_set_ne]
  ·exact hr
  ·rintro rfl; rw [hq] at hr; injection hr with hr; injection hr with hr; exact hne hr
theorem fr_keep {e s e' s' : Nat} {H H' : Heap} {v : V} {n q : Nat} {cs cs' : List V} (h : Bv.Own e s H v n cs) (hF : Fr v H H') (hq : rowOf H q = some ⟨e', s', cs'⟩) (hne : e' ≠ e) : rowOf H' q = some ⟨e', s', cs'⟩ := hF q _ (by
 rintro off m rfl
 rcases h with ⟨h, _⟩ | ⟨r, h, hr, _⟩
 ·cases h
 ·injection h with h _ _; subst h; rw [hq] at hr; injection hr with hr; injection hr with hr; exact hne hr) hq
def tabI (f : Nat → Int) (k : Nat) : List Int := (List.range k).map f
theorem tabI_len (f : Nat → Int) (k : Nat) : (tabI f k).length = k := by simp [tabI]
theorem tabI_succ (f : Nat → Int) (k : Nat) : tabI f (k + 1) = tabI f k ++ [f k] := by simp [tabI, List.range_succ]
theorem tabI_get {f : Nat → Int} {k j : Nat} (h : j < k) : (tabI f k).getD j 0 = f j := by simp [tabI, List.getD, h]
theorem prodL_mono : ∀ {a b : List Int}, a.length = b.length → (∀ j, j < a.length → 1 ≤ a.getD j 0 ∧ a.getD j 0 ≤ b.getD j 0) → prodL a ≤ prodL b
 | [], [], _, _ => by simp [prodL]
 | x :: a, y :: b, hl, h => by
  have h0 := h 0 (by simp)
  have hr := prodL_mono (a := a) (b := b) (by simpa using hl) fun j hj => by simpa using h (j + 1) (by simpa using hj)
  have hp : 1 ≤ prodL a := prodL_pos (all_getD.2 fun j hj => by have := h (j + 1) (by simpa using hj); simpa using this.1)
  simp only [List.getD_cons_zero] at h0
  show x * prodL a ≤ y * prodL b
  have h1 := Int.mul_le_mul_of_nonneg_right h0.2 (show 0 ≤ prodL a by omega)
  have h2 := Int.mul_le_mul_of_nonneg_left hr (show 0 ≤ y by omega)
  omega
theorem mayP_ok {s : List Int} (h1 : s.length ≤ 4) (h2 : ∀ j, j < s.length → 1 ≤ s.getD j 0) (h3 : prodL s ≤ 1024) : mayP s = 0 := by
 have : s.all (fun d => decide (1 ≤ d)) = true := by simpa using all_getD.2 h2
 rw [mayP, if_neg (by omega), if_pos this, if_neg (by omega)]
theorem mayT_zero {t : Tn} (h : mayT t = 0) : fitsT t = 0 ∧ mayP t.shape = 0 ∧ (t.el.length : Int) = prodL t.shape := by
 have hf : fitsT t = 0 := Classical.byContradiction fun hn => by rw [mayT, if_pos hn] at h; exact hn h
 have hm : mayP t.shape = 0 := Classical.byContradiction fun hn => by rw [fitsT, if_pos hn] at hf; exact hn hf
 refine ⟨hf, hm, ?_⟩
 rw [fitsT, if_neg (by omega)] at hf
 split at hf
 ·cases hf
 ·rename_i h; rw [countP, if_pos hm] at h; omega
theorem push_int {y : Ty} {e e' s' k : Nat} {v : V} {H : Heap} {xs : List Int} {x : Int} {r1 : Option Row} {K : V → Heap → Prop} (h : Bv.Own e 1 H v k (ints xs)) (hk : k = xs.length) (hy : y.size = 1) (hb : 0 < y.bytes ∧ y.bytes ≤ 8) (hl : xs.length + 1 ≤ 17592186044416)
  (hK : ∀ v' H', Bv.Own e 1 H' v' (k + 1) (ints (xs ++ [x])) → Fr v (H ++ [r1]) H' → kn v' = true ∧ cellsOf v' = [v'] ∧ scal v' = true → K v' H') : appw y e v (.ref (H.length + 1) 0 1) (H ++ [r1, some ⟨e', s', [.int .i64 x]⟩]) K := by
 subst hk
 rw [show H ++ [r1, some (⟨e', s', [.int .i64 x]⟩ : Row)] = (H ++ [r1]) ++ [some ⟨e', s', [.int .i64 x]⟩] by simp, show H.length + 1 = (H ++ [r1]).length by simp]
 refine app_int (h.keep [r1]) hy hb hl fun v' H' hu' hF => hK v' H' (by simpa using hu') hF ?_
 rcases hu' with ⟨rfl, _⟩ | ⟨r, rfl, _⟩ <;> exact ⟨rfl, rfl, rfl⟩
def cutsOK (l : List Int) (n : Nat) : Bool := (List.range n).all fun k => decide (0 ≤ l.getD (2 * k) 0 ∧ l.getD (2 * k) 0 < l.getD (2 * k + 1) 0)
def cutsIn (l s : List Int) : Bool := (List.range s.length).all fun k => decide (l.getD (2 * k + 1) 0 ≤ s.getD k 0)
theorem cutsOK_iff {l : List Int} {n : Nat} : cutsOK l n = true ↔ ∀ k, k < n → 0 ≤ l.getD (2 * k) 0 ∧ l.getD (2 * k) 0 < l.getD (2 * k + 1) 0 := by simp [cutsOK]
theorem cutsIn_iff {l s : List Int} : cutsIn l s = true ↔ ∀ k, k < s.length → l.getD (2 * k + 1) 0 ≤ s.getD k 0 := by simp [cutsIn]
def sliceE (t : Tn) (l : List Int) : Int := if mayT t ≠ 0 then mayT t else if l.length ≠ 2 * t.shape.length then 11 else if cutsOK l t.shape.length = false then 11 else if cutsIn l t.shape = false then 13 else 0
def sliceS (l : List Int) (n : Nat) : List Int := tabI (fun k => l.getD (2 * k + 1) 0 - l.getD (2 * k) 0) n
def errT (p : Tn) (e : Int) : Tn := if e ≠ 0 then emptyT else p
def sliceT (t : Tn) (l : List Int) : Tn := errT (mvT t (sliceS l t.shape.length) (addL l)) (sliceE t l)
theorem errT_no {p : Tn} {e : Int} (h : e ≠ 0) : errT p e = emptyT := if_pos h
theorem errT_ok {p : Tn} {e : Int} (h : e = 0) : errT p e = p := if_neg (by omega)
theorem gd_no {H : Heap} {p : Tn} {e k : Int} (h : e = k) (hk : k ≠ 0) : Gd H (.tup [.agg [.nil, .nil], .int .i64 k]) (.tup [tnV (errT p e), .int .i64 e]) := by
 rw [errT_no (by omega), h]
 exact Gd.tupL ⟨gd_empty, gd_i _ _, trivial⟩
theorem slice_val (t : Tn) (ht : TnOK t) (l : List Int) (hl : l.length ≤ 1000000000) : Val C 20 [tnV t, .sl l.length (ints l)] (.tup [tnV (sliceT t l), .int .i64 (sliceE t l)]) := by
 have hv : pairsV l = .fn (.func 86) [] [.rp [.sl l.length (ints l)] 0] := rfl
 have hs := ht.s
 unfold sliceT
 refine Fc.keep (Fc.bodyT mixed Tryz.func20 w20 rfl Tryz.ntmps20 Tryz.results20 (Nat.le_of_ble_eq_true rfl) ?_)
 (refine Go1.out ?_;repeat' ((with_reducible first|refine Go1.mk ?_|((first|apply Br.dec|apply Br.beq|apply Br.bne|apply Br.mk)<;>intro h))<;>try simp -implicitDefEqProofs (maxSteps:=9000000) (disch:=first|omega|(simp only [lens];omega)) only [go_sem]))
 refine Fc.pure (tmay_spec t ht) (by simp [cloL, clo, cloL_ints, cloL_raws]) (fun g => rfl) ?_
 by_cases hm : mayT t = 0
 case neg =>
  (refine Go1.out ?_;repeat' ((with_reducible first|refine Go1.mk ?_|((first|apply Br.dec|apply Br.beq|apply Br.bne|apply Br.mk)<;>intro h))<;>try simp -implicitDefEqProofs (maxSteps:=9000000) (disch:=first|omega|(simp only [lens];omega)) only [go_sem]))
  exact Gd.ret (gd_no (by rw [sliceE, if_pos hm]) hm)
 obtain ⟨hf, hmp, hel⟩ := mayT_zero hm
 obtain ⟨m1, m2, m3⟩ := mayP_zero hmp
 rw [hm]
 by_cases hll : l.length = 2 * t.shape.length
 case neg =>
  (refine Go1.out ?_;repeat' ((with_reducible first|refine Go1.mk ?_|((first|apply Br.dec|apply Br.beq|apply Br.bne|apply Br.mk)<;>intro h))<;>try simp -implicitDefEqProofs (maxSteps:=9000000) (disch:=first|omega|(simp only [lens];omega)) only [go_sem]))
  exact Gd.ret (gd_no (by rw [sliceE, if_neg (by omega), if_pos hll]) (by decide))
 (refine Go1.out ?_;repeat' ((with_reducible first|refine Go1.mk ?_|((first|apply Br.dec|apply Br.beq|apply Br.bne|apply Br.mk)<;>intro h))<;>try simp -implicitDefEqProofs (maxSteps:=9000000) (disch:=first|omega|(simp only [lens];omega)) only [go_sem]))
 refine Fc.pure (pairs_spec l) (by simp [cloL, clo, cloL_ints]) (fun g => by simp [pairsV, ren, renL, renL_ints]) ?_
 (refine Go1.out ?_;repeat' ((with_reducible first|refine Go1.mk ?_|((first|apply Br.dec|apply Br.beq|apply Br.bne|apply Br.mk)<;>intro h))<;>try simp -implicitDefEqProofs (maxSteps:=9000000) (disch:=first|omega|(simp only [lens];omega)) only [go_sem, hv]))
 refine TT_range (g := 86) (lb := [.rp [.sl l.length (ints l)] 0]) (xs := pairL l) (by simp -implicitDefEqProofs (maxSteps := 9000000) (disch := first | omega | (simp only [lens]; omega)) only [go_sem]) (by simp [cloL, clo, cloL_ints]) (pairs_gen l (by omega)) (pair_arity rfl) (fun k H => (∀ j, j < k → 0 ≤ l.getD (2 * j) 0 ∧ l.getD (2 * j) 0 < l.getD (2 * j + 1) 0) ∧ rowOf H 0 = some ⟨26, 2, [.sl t.shape.length (ints t.shape), .sl t.el.length (rawsC t.el)]⟩ ∧ rowOf H 1 = some ⟨22, 1, [.sl l.length (ints l)]⟩ ∧ rowOf H 2 = some ⟨26, 2, [.nil, .nil]⟩ ∧ rowOf H 3 = some ⟨27, 1, [.int .i64 0]⟩) ⟨fun j hj => by omega, rfl, rfl, rfl, rfl⟩ ?_ ?_
 ·rintro k us H hk ⟨hI, h0, h1, h2, h3⟩ lv
  have hkl : k < t.shape.length := by
   have := (List.getElem?_eq_some_iff.1 hk).1
   rw [pairL_len] at this; omega
  rw [pairL_get (by omega)] at hk
  injection hk with hk
  subst hk
  have a0 : ∀ Y, rowOf (H ++ Y) 0 = some ⟨26, 2, [.sl t.shape.length (ints t.shape), .sl t.el.length (rawsC t.el)]⟩ := fun Y => rowOf_keep h0 Y
  have a1 : ∀ Y, rowOf (H ++ Y) 1 = some ⟨22, 1, [.sl l.length (ints l)]⟩ := fun Y => rowOf_keep h1 Y
  have a2 : ∀ Y, rowOf (H ++ Y) 2 = some ⟨26, 2, [.nil, .nil]⟩ := fun Y => rowOf_keep h2 Y
  have a3 : ∀ Y, rowOf (H ++ Y) 3 = some ⟨27, 1, [.int .i64 0]⟩ := fun Y => rowOf_keep h3 Y
  have b3 : ∀ Y z, rowOf ((H ++ Y).set 2 z) 3 = some ⟨27, 1, [.int .i64 0]⟩ := fun Y z => by rw [rowOf_set_ne _ (by decide)]; exact a3 Y
  have b2 : ∀ Y row z, rowOf (((H ++ Y).set 2 (some row)).set 3 z) 2 = some row := fun Y row z => by rw [rowOf_set_ne _ (by decide)]; exact rowOf_set_eq (a2 Y)
  have b33 : ∀ Y row z, rowOf (((H ++ Y).set 2 z).set 3 (some row)) 3 = some row := fun Y row z => rowOf_set_eq (b3 Y z)
  (refine TT_of mixed ?_; simp -implicitDefEqProofs (maxSteps := 9000000) (disch := first | omega | (simp only [lens]; omega)) only [go_sem, putl])
  by_cases hc : 0 ≤ l.getD (2 * k) 0 ∧ l.getD (2 * k) 0 < l.getD (2 * k + 1) 0
  ·skip
   (refine TT_of mixed ?_; simp -implicitDefEqProofs (maxSteps := 9000000) (disch := first | omega | (simp only [lens]; omega)) only [go_sem, a0])
   (refine Go1.out ?_;repeat' ((with_reducible first|refine Go1.mk ?_|((first|apply Br.dec|apply Br.beq|apply Br.bne|apply Br.mk)<;>intro h))<;>try simp -implicitDefEqProofs (maxSteps:=9000000) (disch:=first|omega|(simp only [lens];omega)) only [go_sem, a0, a1, a2, a3, b3, b2, b33, rangeQ]))
   exact allS hI hc
  ·have hno : cutsOK l t.shape.length = false := by
    rw [Bool.eq_false_iff]
    exact fun hh => hc (cutsOK_iff.1 hh k hkl)
   (refine TT_of mixed ?_; simp -implicitDefEqProofs (maxSteps := 9000000) (disch := first | omega | (simp only [lens]; omega)) only [go_sem, a0])
   (refine Go1.out ?_;repeat' ((with_reducible first|refine Go1.mk ?_|((first|apply Br.dec|apply Br.beq|apply Br.bne|apply Br.mk)<;>intro h))<;>try simp -implicitDefEqProofs (maxSteps:=9000000) (disch:=first|omega|(simp only [lens];omega)) only [go_sem, a0, a1, a2, a3, b3, b2, b33, rangeQ]))
   all_goals exact Gd.ret (gd_no (by rw [sliceE, if_neg (by omega), if_neg (by omega), if_pos hno]) (by decide))
 ·rintro H ⟨hI, h0, h1, h2, h3⟩
  rw [pairL_len, show l.length / 2 = t.shape.length by omega] at hI
  have hyes : cutsOK l t.shape.length = true := cutsOK_iff.2 hI
  have a0 : ∀ Y, rowOf (H ++ Y) 0 = some ⟨26, 2, [.sl t.shape.length (ints t.shape), .sl t.el.length (rawsC t.el)]⟩ := fun Y => rowOf_keep h0 Y
  have a1 : ∀ Y, rowOf (H ++ Y) 1 = some ⟨22, 1, [.sl l.length (ints l)]⟩ := fun Y => rowOf_keep h1 Y
  have a2 : ∀ Y, rowOf (H ++ Y) 2 = some ⟨26, 2, [.nil, .nil]⟩ := fun Y => rowOf_keep h2 Y
  have a3 : ∀ Y, rowOf (H ++ Y) 3 = some ⟨27, 1, [.int .i64 0]⟩ := fun Y => rowOf_keep h3 Y
  have hP := rowOf_lt h3
  (refine Go1.out ?_;repeat' ((with_reducible first|refine Go1.mk ?_|((first|apply Br.dec|apply Br.beq|apply Br.bne|apply Br.mk)<;>intro h))<;>try simp -implicitDefEqProofs (maxSteps:=9000000) (disch:=first|omega|(simp only [lens];omega)) only [go_sem, a0, a1]))
  refine Fc.pure (pairs_spec l) (by simp [cloL, clo, cloL_ints]) (fun g => by simp [pairsV, ren, renL, renL_ints]) ?_
  (refine Go1.out ?_;repeat' ((with_reducible first|refine Go1.mk ?_|((first|apply Br.dec|apply Br.beq|apply Br.bne|apply Br.mk)<;>intro h))<;>try simp -implicitDefEqProofs (maxSteps:=9000000) (disch:=first|omega|(simp only [lens];omega)) only [go_sem, hv]))
  obtain ⟨P, hPe⟩ : ∃ P, P = H.length := ⟨_, rfl⟩
  rw [← hPe]
  rw [← hPe] at hP
  refine TT_range (g := 86) (lb := [.rp [.sl l.length (ints l)] 0]) (xs := pairL l) (by simp -implicitDefEqProofs (maxSteps := 9000000) (disch := first | omega | (simp only [lens]; omega)) only [go_sem]) (by simp [cloL, clo, cloL_ints]) (pairs_gen l (by omega)) (pair_arity rfl) (fun k H => ∃ u, (∀ j, j < k → l.getD (2 * j + 1) 0 ≤ t.shape.getD j 0) ∧ rowOf H 0 = some ⟨26, 2, [.sl t.shape.length (ints t.shape), .sl t.el.length (rawsC t.el)]⟩ ∧ rowOf H 1 = some ⟨22, 1, [.sl l.length (ints l)]⟩ ∧ rowOf H 2 = some ⟨26, 2, [.nil, .nil]⟩ ∧ rowOf H 3 = some ⟨27, 1, [.int .i64 0]⟩ ∧ rowOf H P = some ⟨23, 1, [u]⟩ ∧ Bv.Own 3 1 H u k (ints (sliceS l k))) ⟨.nil, fun j hj => by omega, a0 _, a1 _, a2 _, a3 _, by rw [hPe]; simp [rowOf], Bv.Own.nil _ _ _⟩ ?_ ?_
  ·rintro k us H2 hk ⟨u, hJ, g0, g1, g2, g3, gP, hu⟩ lv
   have hkl : k < t.shape.length := by
    have := (List.getElem?_eq_some_iff.1 hk).1
    rw [pairL_len] at this; omega
   rw [pairL_get (by omega)] at hk
   injection hk with hk
   subst hk
   have c0 : ∀ Y, rowOf (H2 ++ Y) 0 = some ⟨26, 2, [.sl t.shape.length (ints t.shape), .sl t.el.length (rawsC t.el)]⟩ := fun Y => rowOf_keep g0 Y
   have c1 : ∀ Y, rowOf (H2 ++ Y) 1 = some ⟨22, 1, [.sl l.length (ints l)]⟩ := fun Y => rowOf_keep g1 Y
   have c2 : ∀ Y, rowOf (H2 ++ Y) 2 = some ⟨26, 2, [.nil, .nil]⟩ := fun Y => rowOf_keep g2 Y
   have c3 : ∀ Y, rowOf (H2 ++ Y) 3 = some ⟨27, 1, [.int .i64 0]⟩ := fun Y => rowOf_keep g3 Y
   have cP : ∀ Y, rowOf (H2 ++ Y) P = some ⟨23, 1, [u]⟩ := fun Y => rowOf_keep gP Y
   have b3 : ∀ Y z, rowOf ((H2 ++ Y).set 2 z) 3 = some ⟨27, 1, [.int .i64 0]⟩ := fun Y z => by rw [rowOf_set_ne _ (by decide)]; exact c3 Y
   have b2 : ∀ Y row z, rowOf (((H2 ++ Y).set 2 (some row)).set 3 z) 2 = some row := fun Y row z => by rw [rowOf_set_ne _ (by decide)]; exact rowOf_set_eq (c2 Y)
   have b33 : ∀ Y row z, rowOf (((H2 ++ Y).set 2 z).set 3 (some row)) 3 = some row := fun Y row z => rowOf_set_eq (b3 Y z)
   have hck := hI k hkl
   have hsd := getD_le_prodL m2 hkl
   (refine TT_of mixed ?_; simp -implicitDefEqProofs (maxSteps := 9000000) (disch := first | omega | (simp only [lens]; omega)) only [go_sem, putl])
   (refine TT_of mixed ?_; simp -implicitDefEqProofs (maxSteps := 9000000) (disch := first | omega | (simp only [lens]; omega)) only [go_sem, c0])
   by_cases hc : l.getD (2 * k + 1) 0 ≤ t.shape.getD k 0
   ·have hlv := hu.lenw (C.ty 23)
    (refine Go1.out ?_;repeat' ((with_reducible first|refine Go1.mk ?_|((first|apply Br.dec|apply Br.beq|apply Br.bne|apply Br.mk)<;>intro h))<;>try simp -implicitDefEqProofs (maxSteps:=9000000) (disch:=first|omega|(simp only [lens];omega)) only [go_sem, c0, cP, hlv, rangeQ]))
    refine push_int hu (by rw [sliceS, tabI_len]) rfl ⟨by decide, by decide⟩ (by rw [sliceS, tabI_len]; omega) fun v' H' hu' hF hk' => ?_
    have d0 := fr_keep (hu.keep _) hF (c0 _) (by decide)
    have d1 := fr_keep (hu.keep _) hF (c1 _) (by decide)
    have d2 := fr_keep (hu.keep _) hF (c2 _) (by decide)
    have d3 := fr_keep (hu.keep _) hF (c3 _) (by decide)
    have dP := fr_keep (hu.keep _) hF (cP _) (by decide)
    obtain ⟨k1, k2, k3⟩ := hk'
    (refine Go1.out ?_;repeat' ((with_reducible first|refine Go1.mk ?_|((first|apply Br.dec|apply Br.beq|apply Br.bne|apply Br.mk)<;>intro h))<;>try simp -implicitDefEqProofs (maxSteps:=9000000) (disch:=first|omega|(simp only [lens];omega)) only [go_sem, dP, k1, k2, k3, rangeQ]))
    rw [sliceS, ← tabI_succ (f := fun k => l.getD (2 * k + 1) 0 - l.getD (2 * k) 0)] at hu'
    exact ⟨v', allS hJ hc, by rw [rowOf_set_ne _ (by omega)]; exact d0, by rw [rowOf_set_ne _ (by omega)]; exact d1, by rw [rowOf_set_ne _ (by omega)]; exact d2, by rw [rowOf_set_ne _ (by omega)]; exact d3, rowOf_set_eq dP, own_set hu' dP (by decide)⟩
   ·have hno : cutsIn l t.shape = false := by
     rw [Bool.eq_false_iff]
     exact fun hh => hc (cutsIn_iff.1 hh k hkl)
    (refine Go1.out ?_;repeat' ((with_reducible first|refine Go1.mk ?_|((first|apply Br.dec|apply Br.beq|apply Br.bne|apply Br.mk)<;>intro h))<;>try simp -implicitDefEqProofs (maxSteps:=9000000) (disch:=first|omega|(simp only [lens];omega)) only [go_sem, c0, c1, c2, c3, b3, b2, b33, rangeQ]))
    exact Gd.ret (gd_no (by rw [sliceE, if_neg (by omega), if_neg (by omega), if_neg (by rw [hyes]; decide), if_pos hno]) (by decide))
  ·rintro H2 ⟨u, hJ, g0, g1, g2, g3, gP, hu⟩
   rw [pairL_len, show l.length / 2 = t.shape.length by omega] at hJ hu
   have hin : cutsIn l t.shape = true := cutsIn_iff.2 hJ
   have hE : sliceE t l = 0 := by rw [sliceE, if_neg (by omega), if_neg (by omega), if_neg (by rw [hyes]; decide), if_neg (by rw [hin]; decide)]
   have hSl : (sliceS l t.shape.length).length = t.shape.length := tabI_len _ _
   have hSg : ∀ j, j < t.shape.length → (sliceS l t.shape.length).getD j 0 = l.getD (2 * j + 1) 0 - l.getD (2 * j) 0 := fun j hj => tabI_get hj
   have hSm : mayP (sliceS l t.shape.length) = 0 := by
    refine mayP_ok (by omega) (fun j hj => ?_) ?_
    ·have := hI j (by omega)
     rw [hSg j (by omega)]; omega
    ·have := prodL_mono (a := sliceS l t.shape.length) (b := t.shape) hSl fun j hj => by
      have h1 := hI j (by omega)
      have h2 := hJ j (by omega)
      rw [hSg j (by omega)]; omega
     omega
   have hmv := moved_val t ht hf (sliceS l t.shape.length) (by omega) hSm 51 [.rp [.sl l.length (ints l)] 0] (by simp [cloL, clo, cloL_ints]) (addL l) (fun x hx hxb => ⟨by simp only [addL, List.length_map, List.length_range]; omega, by
    refine slFrom_val l x (by omega) (by omega) (fun j hj => ?_) (fun j hj => ?_)
    ·have h1 := hI j (by omega)
     have h2 := hJ j (by omega)
     have h3 := hxb j (by omega)
     have h4 := getD_le_prodL m2 (i := j) (by omega)
     rw [hSg j (by omega)] at h3; omega
    ·have h1 := hI j (by omega)
     have h2 := hJ j (by omega)
     have h4 := getD_le_prodL m2 (i := j) (by omega)
     omega⟩)
   rw [errT_ok hE, hE]
   have hku : kn u = true ∧ cellsOf u = [u] ∧ scal u = true := by rcases hu with ⟨rfl, _⟩ | ⟨r, rfl, _⟩ <;> exact ⟨rfl, rfl, rfl⟩
   obtain ⟨k1, k2, k3⟩ := hku
   (refine Go1.out ?_;repeat' ((with_reducible first|refine Go1.mk ?_|((first|apply Br.dec|apply Br.beq|apply Br.bne|apply Br.mk)<;>intro h))<;>try simp -implicitDefEqProofs (maxSteps:=9000000) (disch:=first|omega|(simp only [lens];omega)) only [go_sem, g0, gP, k1, k2, k3]))
   refine Fc.sealed (r := 1) g1 (by simp [cloL, clo, cloL_ints]) ?_
   have hu1 : sz 1 [.sl l.length (ints l)] u = u := by
    rcases hu with ⟨rfl, _⟩ | ⟨r, rfl, hr, _⟩
    ·rfl
    ·have : r ≠ 1 := by rintro rfl; rw [g1] at hr; cases hr
     simp [sz, this]
   have he : szL 1 [.sl l.length (ints l)] [.agg [.sl t.shape.length (ints t.shape), .sl t.el.length (rawsC t.el)], u, .fn (.func 51) [] [.ptr 1 0]] = [tnV t, u, .fn (.func 51) [] [.rp [.sl l.length (ints l)] 0]] := by
    simp only [szL, sz, szL_clo _ _ _ (cloL_ints _), szL_clo _ _ _ (cloL_raws _), hu1, if_true]
    rfl
   rw [he]
   rw [hSl] at hmv
   have hlt := rowOf_lt gP
   refine hmv.keptF ⟨.self (clo_tnV t), (own_set hu g1 (by decide)).bor' (cloL_ints _), .self (by simp [cloL, clo, cloL_ints]), trivial⟩ fun v X hv => ?_
   have f2 : rowOf (H2.set 1 none ++ X) 2 = some ⟨26, 2, [.nil, .nil]⟩ := rowOf_keep (by rw [rowOf_set_ne _ (by decide)]; exact g2) X
   have f3 : ∀ z, rowOf ((H2.set 1 none ++ X).set 2 z) 3 = some ⟨27, 1, [.int .i64 0]⟩ := fun z => by rw [rowOf_set_ne _ (by decide)]; exact rowOf_keep (by rw [rowOf_set_ne _ (by decide)]; exact g3) X
   have f22 : ∀ row z, rowOf (((H2.set 1 none ++ X).set 2 (some row)).set 3 z) 2 = some row := fun row z => by rw [rowOf_set_ne _ (by decide)]; exact rowOf_set_eq f2
   have f33 : ∀ z row, rowOf (((H2.set 1 none ++ X).set 2 z).set 3 (some row)) 3 = some row := fun z row => rowOf_set_eq (f3 z)
   obtain ⟨w, e, rfl, hw, he⟩ := hv.tup2
   obtain ⟨a, b, rfl, ha, hb⟩ := hw.agg2
   obtain ⟨ka, ca, sa⟩ := gd_sl ha.gd
   obtain ⟨kb, cb, sb⟩ := gd_sl hb.gd
   rw [he.gd.int_inv]
   (refine Go1.out ?_;repeat' ((with_reducible first|refine Go1.mk ?_|((first|apply Br.dec|apply Br.beq|apply Br.bne|apply Br.mk)<;>intro h))<;>try simp -implicitDefEqProofs (maxSteps:=9000000) (disch:=first|omega|(simp only [lens];omega)) only [go_sem, f2, f3, f22, f33, ka, ca, sa, kb, cb, sb]))
   exact Gd.ret (Gd.tupL ⟨Gd.aggL ⟨((ha.set (q := 2) (by simp; omega) _).set (q := 3) (by simp; omega) _).gd, ((hb.set (q := 2) (by simp; omega) _).set (q := 3) (by simp; omega) _).gd, trivial⟩, gd_i _ _, trivial⟩)
end Go.Proofs.YtjdbdmhjakfldaaGreat
end
section
namespace Go.Proofs.YtjdbdmhjakfldaaGreat
open Go.Bv
def negB (l : List Int) : Bool := l.any fun a => decide (a < 0)
theorem neg_spec (a : Int) : Pu C 55 [.int .i64 a] (.bool (decide (a < 0))) := by
 refine Fc.keep (Fc.bodyT mixed Tryz.func55 w55 rfl Tryz.ntmps55 Tryz.results55 (Nat.le_of_ble_eq_true rfl) ?_)
 (refine Go1.out ?_;repeat' ((with_reducible first|refine Go1.mk ?_|((first|apply Br.dec|apply Br.beq|apply Br.bne|apply Br.mk)<;>intro h))<;>try simp -implicitDefEqProofs (maxSteps:=9000000) (disch:=first|omega|(simp only [lens];omega)) only [go_sem]))
 all_goals (refine keepP (by intro g; simp only [go_sem, ren, renL]) ?_)
 all_goals (simp only [V.tup.injEq, List.cons.injEq, V.int.injEq, V.bool.injEq, true_and, and_true]; (try rw [Bool.eq_iff_iff]); (try simp only [decide_eq_true_eq, decide_eq_false_iff_not, Decidable.not_not, true_and, and_true, Bool.not_eq_true, Bool.not_eq_eq_eq_not, Bool.not_true, Bool.and_eq_true, Bool.or_eq_true, beq_iff_eq, bne_iff_ne, ne_eq, Bool.false_eq_true, false_iff, true_iff, iff_false, iff_true]); (try omega))
theorem negB_getD {l : List Int} : negB l = false ↔ ∀ j, j < l.length → ¬ l.getD j 0 < 0 := by
 rw [negB, List.any_eq_false]
 simp only [decide_eq_true_eq]
 exact all_getD (xs := l) (p := fun x => ¬ x < 0)
theorem IndexNeg_spec (l : List Int) (hl : l.length ≤ 17592186044416) : Fc C 87 [.sl l.length (ints l), .fn (.func 55) [] []] [] (fun v H => (∃ i : Int, v = .int .i64 i ∧ negB l = decide (0 ≤ i)) ∧ H = []) := by
 refine Fc.keep (Fc.bodyT mixed Tryz.func87 w87 rfl Tryz.ntmps87 Tryz.results87 (Nat.le_of_ble_eq_true rfl) ?_)
 (refine Go1.out ?_;repeat' ((with_reducible first|refine Go1.mk ?_|((first|apply Br.dec|apply Br.beq|apply Br.bne|apply Br.mk)<;>intro h))<;>try simp -implicitDefEqProofs (maxSteps:=9000000) (disch:=first|omega|(simp only [lens];omega)) only [go_sem]))
 refine TT_loop_inv (fun n ts H => ∃ (i : Nat), (i ≤ l.length) ∧ (∀ j, j < i → ¬ l.getD j 0 < 0) ∧ (n = l.length - i) ∧ (H = []) ∧ ts.length = 19 ∧ nth ts 0 = .sl l.length (ints l) ∧ nth ts 1 = .fn (.func 55) [] [] ∧ nth ts 7 = .int .i64 l.length ∧ nth ts 8 = .int .i64 i) ?_ (n := l.length) ?_
 ·skip
  rintro n ts H ⟨i, hi, he, hn, hH, hL, hs0, hs1, hs7, hs8⟩
  refine TT_env [(0, .sl l.length (ints l)), (1, .fn (.func 55) [] []), (7, .int .i64 l.length), (8, .int .i64 i)] hL (by simp only [List.forall_mem_cons, hs0, hs1, hs7, hs8, true_and]; exact fun _ h => nomatch h) ?_
  clear hL hs0 hs1 hs7 hs8 ts
  refine TT_of mixed ?_
  subst hH hn
  (refine Go1.out ?_;repeat' ((with_reducible first|refine Go1.mk ?_|((first|apply Br.dec|apply Br.beq|apply Br.bne|apply Br.mk)<;>intro h))<;>try simp -implicitDefEqProofs (maxSteps:=9000000) (disch:=first|omega|(simp only [lens];omega)) only [go_sem]))
  ·skip
   refine Fc.pure (neg_spec _) (by simp [go_sem, cloL, clo, cloL_ints, cloL_intss]) (by intro g; simp only [go_sem, ren, renL]) ?_
   (refine Go1.out ?_;repeat' ((with_reducible first|refine Go1.mk ?_|((first|apply Br.dec|apply Br.beq|apply Br.bne|apply Br.mk)<;>intro h))<;>try simp -implicitDefEqProofs (maxSteps:=9000000) (disch:=first|omega|(simp only [lens];omega)) only [go_sem]))
   ·refine ⟨[], by simp, by simp, ⟨i, rfl, ?_⟩, rfl⟩
    rw [decide_eq_true (by omega)]
    cases hb : negB l with
    | true => rfl
    | false => exact absurd (by assumption) (negB_getD.1 hb i (by omega))
   ·exact ⟨_, by omega, i + 1, by omega, allS he (by omega), rfl, (by (repeat' apply And.intro) <;> (first | rfl | omega | (congr 1; omega) | assumption | (congr 1; assumption)))⟩
  ·refine ⟨[], by simp, by simp, ⟨-1, rfl, ?_⟩, rfl⟩
   rw [decide_eq_false (by omega)]
   exact negB_getD.2 fun j hj => he j (by omega)
 ·exact ⟨0, by omega, fun j hj => by omega, rfl, rfl, rfl, rfl, rfl, rfl, rfl⟩
theorem ContainsNeg_spec (l : List Int) (hl : l.length ≤ 17592186044416) : Pu C 54 [.sl l.length (ints l), .fn (.func 55) [] []] (.bool (negB l)) := by
 refine Fc.keep (Fc.bodyT mixed Tryz.func54 w54 rfl Tryz.ntmps54 Tryz.results54 (Nat.le_of_ble_eq_true rfl) ?_)
 (refine Go1.out ?_;repeat' ((with_reducible first|refine Go1.mk ?_|((first|apply Br.dec|apply Br.beq|apply Br.bne|apply Br.mk)<;>intro h))<;>try simp -implicitDefEqProofs (maxSteps:=9000000) (disch:=first|omega|(simp only [lens];omega)) only [go_sem]))
 refine Fc.call (IndexNeg_spec l hl) (by simp [cloL, clo, cloL_ints]) ?_
 rintro v H' ⟨⟨i, rfl, h3⟩, rfl⟩
 simp only [ren, renH, List.map_nil, List.append_nil]
 (refine Go1.out ?_;repeat' ((with_reducible first|refine Go1.mk ?_|((first|apply Br.dec|apply Br.beq|apply Br.bne|apply Br.mk)<;>intro h))<;>try simp -implicitDefEqProofs (maxSteps:=9000000) (disch:=first|omega|(simp only [lens];omega)) only [go_sem]))
 (refine keepP (by intro g; simp only [go_sem, ren, renL]) ?_)
 rw [h3]
def padsIn (l : List Int) (n : Nat) : Bool := (List.range n).all fun k => decide (l.getD (2 * k) 0 ≤ 1024 ∧ l.getD (2 * k + 1) 0 ≤ 1024)
theorem padsIn_iff {l : List Int} {n : Nat} : padsIn l n = true ↔ ∀ k, k < n → l.getD (2 * k) 0 ≤ 1024 ∧ l.getD (2 * k + 1) 0 ≤ 1024 := by simp [padsIn]
def padG (l s : List Int) (k : Nat) : Int := l.getD (2 * k) 0 + s.getD k 0 + l.getD (2 * k + 1) 0
def padS (l s : List Int) (n : Nat) : List Int := tabI (padG l s) n
def padE (t : Tn) (l : List Int) : Int := if mayT t ≠ 0 then mayT t else if l.length ≠ 2 * t.shape.length then 11 else if negB l = true then 11 else if padsIn l t.shape.length = false then 14 else mayP (padS l t.shape t.shape.length)
def padT (t : Tn) (l : List Int) : Tn := errT (mvT t (padS l t.shape t.shape.length) (subL l)) (padE t l)
theorem pad_val (t : Tn) (ht : TnOK t) (l : List Int) (hl : l.length ≤ 1000000000) : Val C 22 [tnV t, .sl l.length (ints l)] (.tup [tnV (padT t l), .int .i64 (padE t l)]) := by
 have hv : pairsV l = .fn (.func 86) [] [.rp [.sl l.length (ints l)] 0] := rfl
 have hs := ht.s
 unfold padT
 refine Fc.keep (Fc.bodyT mixed Tryz.func22 w22 rfl Tryz.ntmps22 Tryz.results22 (Nat.le_of_ble_eq_true rfl) ?_)
 (refine Go1.out ?_;repeat' ((with_reducible first|refine Go1.mk ?_|((first|apply Br.dec|apply Br.beq|apply Br.bne|apply Br.mk)<;>intro h))<;>try simp -implicitDefEqProofs (maxSteps:=9000000) (disch:=first|omega|(simp only [lens];omega)) only [go_sem]))
 refine Fc.pure (tmay_spec t ht) (by simp [cloL, clo, cloL_ints, cloL_raws]) (fun g => rfl) ?_
 by_cases hm : mayT t = 0
 case neg =>
  (refine Go1.out ?_;repeat' ((with_reducible first|refine Go1.mk ?_|((first|apply Br.dec|apply Br.beq|apply Br.bne|apply Br.mk)<;>intro h))<;>try simp -implicitDefEqProofs (maxSteps:=9000000) (disch:=first|omega|(simp only [lens];omega)) only [go_sem]))
  exact Gd.ret (gd_no (by rw [padE, if_pos hm]) hm)
 obtain ⟨hf, hmp, hel⟩ := mayT_zero hm
 obtain ⟨m1, m2, m3⟩ := mayP_zero hmp
 rw [hm]
 by_cases hll : l.length = 2 * t.shape.length
 case neg =>
  (refine Go1.out ?_;repeat' ((with_reducible first|refine Go1.mk ?_|((first|apply Br.dec|apply Br.beq|apply Br.bne|apply Br.mk)<;>intro h))<;>try simp -implicitDefEqProofs (maxSteps:=9000000) (disch:=first|omega|(simp only [lens];omega)) only [go_sem]))
  exact Gd.ret (gd_no (by rw [padE, if_neg (by omega), if_pos hll]) (by decide))
 (refine Go1.out ?_;repeat' ((with_reducible first|refine Go1.mk ?_|((first|apply Br.dec|apply Br.beq|apply Br.bne|apply Br.mk)<;>intro h))<;>try simp -implicitDefEqProofs (maxSteps:=9000000) (disch:=first|omega|(simp only [lens];omega)) only [go_sem]))
 refine Fc.pure (ContainsNeg_spec l (by omega)) (by simp [cloL, clo, cloL_ints]) (fun g => rfl) ?_
 cases hneg : negB l with
 | true =>
  (refine Go1.out ?_;repeat' ((with_reducible first|refine Go1.mk ?_|((first|apply Br.dec|apply Br.beq|apply Br.bne|apply Br.mk)<;>intro h))<;>try simp -implicitDefEqProofs (maxSteps:=9000000) (disch:=first|omega|(simp only [lens];omega)) only [go_sem]))
  exact Gd.ret (gd_no (by rw [padE, if_neg (by omega), if_neg (by omega), if_pos hneg]) (by decide))
 | false =>
  have hn := negB_getD.1 hneg
  (refine Go1.out ?_;repeat' ((with_reducible first|refine Go1.mk ?_|((first|apply Br.dec|apply Br.beq|apply Br.bne|apply Br.mk)<;>intro h))<;>try simp -implicitDefEqProofs (maxSteps:=9000000) (disch:=first|omega|(simp only [lens];omega)) only [go_sem]))
  refine Fc.pure (pairs_spec l) (by simp [cloL, clo, cloL_ints]) (fun g => by simp [pairsV, ren, renL, renL_ints]) ?_
  (refine Go1.out ?_;repeat' ((with_reducible first|refine Go1.mk ?_|((first|apply Br.dec|apply Br.beq|apply Br.bne|apply Br.mk)<;>intro h))<;>try simp -implicitDefEqProofs (maxSteps:=9000000) (disch:=first|omega|(simp only [lens];omega)) only [go_sem, hv]))
  refine TT_range (g := 86) (lb := [.rp [.sl l.length (ints l)] 0]) (xs := pairL l) (by simp -implicitDefEqProofs (maxSteps := 9000000) (disch := first | omega | (simp only [lens]; omega)) only [go_sem]) (by simp [cloL, clo, cloL_ints]) (pairs_gen l (by omega)) (pair_arity rfl) (fun k H => ∃ u, (∀ j, j < k → l.getD (2 * j) 0 ≤ 1024 ∧ l.getD (2 * j + 1) 0 ≤ 1024) ∧ rowOf H 0 = some ⟨26, 2, [.sl t.shape.length (ints t.shape), .sl t.el.length (rawsC t.el)]⟩ ∧ rowOf H 1 = some ⟨22, 1, [.sl l.length (ints l)]⟩ ∧ rowOf H 2 = some ⟨26, 2, [.nil, .nil]⟩ ∧ rowOf H 3 = some ⟨27, 1, [.int .i64 0]⟩ ∧ rowOf H 4 = some ⟨23, 1, [u]⟩ ∧ Bv.Own 3 1 H u k (ints (padS l t.shape k))) ⟨.nil, fun j hj => by omega, rfl, rfl, rfl, rfl, rfl, Bv.Own.nil _ _ _⟩ ?_ ?_
  ·rintro k us H2 hk ⟨u, hJ, g0, g1, g2, g3, gP, hu⟩ lv
   have hkl : k < t.shape.length := by
    have := (List.getElem?_eq_some_iff.1 hk).1
    rw [pairL_len] at this; omega
   rw [pairL_get (by omega)] at hk
   injection hk with hk
   subst hk
   have c0 : ∀ Y, rowOf (H2 ++ Y) 0 = some ⟨26, 2, [.sl t.shape.length (ints t.shape), .sl t.el.length (rawsC t.el)]⟩ := fun Y => rowOf_keep g0 Y
   have c1 : ∀ Y, rowOf (H2 ++ Y) 1 = some ⟨22, 1, [.sl l.length (ints l)]⟩ := fun Y => rowOf_keep g1 Y
   have c2 : ∀ Y, rowOf (H2 ++ Y) 2 = some ⟨26, 2, [.nil, .nil]⟩ := fun Y => rowOf_keep g2 Y
   have c3 : ∀ Y, rowOf (H2 ++ Y) 3 = some ⟨27, 1, [.int .i64 0]⟩ := fun Y => rowOf_keep g3 Y
   have cP : ∀ Y, rowOf (H2 ++ Y) 4 = some ⟨23, 1, [u]⟩ := fun Y => rowOf_keep gP Y
   have b3 : ∀ Y z, rowOf ((H2 ++ Y).set 2 z) 3 = some ⟨27, 1, [.int .i64 0]⟩ := fun Y z => by rw [rowOf_set_ne _ (by decide)]; exact c3 Y
   have b2 : ∀ Y row z, rowOf (((H2 ++ Y).set 2 (some row)).set 3 z) 2 = some row := fun Y row z => by rw [rowOf_set_ne _ (by decide)]; exact rowOf_set_eq (c2 Y)
   have b33 : ∀ Y row z, rowOf (((H2 ++ Y).set 2 z).set 3 (some row)) 3 = some row := fun Y row z => rowOf_set_eq (b3 Y z)
   have hn0 := hn (2 * k) (by omega)
   have hn1 := hn (2 * k + 1) (by omega)
   have hsd := getD_le_prodL m2 hkl
   have hsp := getD_pos m2 hkl
   (refine TT_of mixed ?_; simp -implicitDefEqProofs (maxSteps := 9000000) (disch := first | omega | (simp only [lens]; omega)) only [go_sem, putl])
   (refine TT_of mixed ?_; simp -implicitDefEqProofs (maxSteps := 9000000) (disch := first | omega | (simp only [lens]; omega)) only [go_sem, c0])
   by_cases hc : l.getD (2 * k) 0 ≤ 1024 ∧ l.getD (2 * k + 1) 0 ≤ 1024
   ·have hlv := hu.lenw (C.ty 23)
    (refine Go1.out ?_;repeat' ((with_reducible first|refine Go1.mk ?_|((first|apply Br.dec|apply Br.beq|apply Br.bne|apply Br.mk)<;>intro h))<;>try simp -implicitDefEqProofs (maxSteps:=9000000) (disch:=first|omega|(simp only [lens];omega)) only [go_sem, c0, cP, hlv, rangeQ]))
    refine push_int hu (by rw [padS, tabI_len]) rfl ⟨by decide, by decide⟩ (by rw [padS, tabI_len]; omega) fun v' H' hu' hF hk' => ?_
    have d0 := fr_keep (hu.keep _) hF (c0 _) (by decide)
    have d1 := fr_keep (hu.keep _) hF (c1 _) (by decide)
    have d2 := fr_keep (hu.keep _) hF (c2 _) (by decide)
    have d3 := fr_keep (hu.keep _) hF (c3 _) (by decide)
    have dP := fr_keep (hu.keep _) hF (cP _) (by decide)
    obtain ⟨k1, k2, k3⟩ := hk'
    (refine Go1.out ?_;repeat' ((with_reducible first|refine Go1.mk ?_|((first|apply Br.dec|apply Br.beq|apply Br.bne|apply Br.mk)<;>intro h))<;>try simp -implicitDefEqProofs (maxSteps:=9000000) (disch:=first|omega|(simp only [lens];omega)) only [go_sem, dP, k1, k2, k3, rangeQ]))
    rw [padS, show l.getD (2 * k) 0 + t.shape.getD k 0 + l.getD (2 * k + 1) 0 = padG l t.shape k from rfl, ← tabI_succ (f := padG l t.shape)] at hu'
    exact ⟨v', allS hJ hc, by rw [rowOf_set_ne _ (by omega)]; exact d0, by rw [rowOf_set_ne _ (by omega)]; exact d1, by rw [rowOf_set_ne _ (by omega)]; exact d2, by rw [rowOf_set_ne _ (by omega)]; exact d3, rowOf_set_eq dP, own_set hu' dP (by decide)⟩
   ·have hno : padsIn l t.shape.length = false := by
     rw [Bool.eq_false_iff]
     exact fun hh => hc (padsIn_iff.1 hh k hkl)
    (refine Go1.out ?_;repeat' ((with_reducible first|refine Go1.mk ?_|((first|apply Br.dec|apply Br.beq|apply Br.bne|apply Br.mk)<;>intro h))<;>try simp -implicitDefEqProofs (maxSteps:=9000000) (disch:=first|omega|(simp only [lens];omega)) only [go_sem, c0, c1, c2, c3, b3, b2, b33, rangeQ]))
    all_goals exact Gd.ret (gd_no (by rw [padE, if_neg (by omega), if_neg (by omega), if_neg (by rw [hneg]; decide), if_pos hno]) (by decide))
  ·rintro H2 ⟨u, hJ, g0, g1, g2, g3, gP, hu⟩
   rw [pairL_len, show l.length / 2 = t.shape.length by omega] at hJ hu
   have hin : padsIn l t.shape.length = true := padsIn_iff.2 hJ
   have hE : padE t l = mayP (padS l t.shape t.shape.length) := by rw [padE, if_neg (by omega), if_neg (by omega), if_neg (by rw [hneg]; decide), if_neg (by rw [hin]; decide)]
   have hSl : (padS l t.shape t.shape.length).length = t.shape.length := tabI_len _ _
   have hSg : ∀ j, j < t.shape.length → (padS l t.shape t.shape.length).getD j 0 = l.getD (2 * j) 0 + t.shape.getD j 0 + l.getD (2 * j + 1) 0 := fun j hj => tabI_get hj
   have hku : kn u = true ∧ cellsOf u = [u] ∧ scal u = true := by rcases hu with ⟨rfl, _⟩ | ⟨r, rfl, _⟩ <;> exact ⟨rfl, rfl, rfl⟩
   obtain ⟨k1, k2, k3⟩ := hku
   have hu9 : Bv.Own 3 1 H2 u (padS l t.shape t.shape.length).length (ints (padS l t.shape t.shape.length)) := by rw [hSl]; exact hu
   have hbu : Bor H2 u (.sl (padS l t.shape t.shape.length).length (ints (padS l t.shape t.shape.length))) := hu9.bor' (cloL_ints _)
   (refine Go1.out ?_;repeat' ((with_reducible first|refine Go1.mk ?_|((first|apply Br.dec|apply Br.beq|apply Br.bne|apply Br.mk)<;>intro h))<;>try simp -implicitDefEqProofs (maxSteps:=9000000) (disch:=first|omega|(simp only [lens];omega)) only [go_sem, gP, k1, k2, k3]))
   refine (Val.ofPu (May_spec (padS l t.shape t.shape.length) (by omega)) rfl rfl).call ⟨hbu, trivial⟩ rfl ?_
   by_cases hz : mayP (padS l t.shape t.shape.length) = 0
   ·have hE' : padE t l = 0 := hE.trans hz
    obtain ⟨n1, n2, n3⟩ := mayP_zero hz
    have hmv := moved_val t ht hf (padS l t.shape t.shape.length) (by omega) hz 57 [.rp [.sl l.length (ints l)] 0] (by simp [cloL, clo, cloL_ints]) (subL l) (fun x hx hxb => ⟨by simp only [subL, List.length_map, List.length_range]; omega, by
     refine padFrom_val l x (by omega) (by omega) (fun j hj => ?_) (fun j hj => ?_)
     ·have h3 := hxb j (by omega)
      have h4 := getD_le_prodL n2 (i := j) (by omega)
      omega
     ·have h1 := hn (2 * j) (by omega)
      have h2 := hJ j (by omega)
      omega⟩)
    rw [hz]
    rw [errT_ok hE', hE']
    (refine Go1.out ?_;repeat' ((with_reducible first|refine Go1.mk ?_|((first|apply Br.dec|apply Br.beq|apply Br.bne|apply Br.mk)<;>intro h))<;>try simp -implicitDefEqProofs (maxSteps:=9000000) (disch:=first|omega|(simp only [lens];omega)) only [go_sem, g0, gP, k1, k2, k3]))
    refine Fc.sealed (r := 1) g1 (by simp [cloL, clo, cloL_ints]) ?_
    have hu1 : sz 1 [.sl l.length (ints l)] u = u := by
     rcases hu with ⟨rfl, _⟩ | ⟨r, rfl, hr, _⟩
     ·rfl
     ·have : r ≠ 1 := by rintro rfl; rw [g1] at hr; cases hr
      simp [sz, this]
    have he : szL 1 [.sl l.length (ints l)] [.agg [.sl t.shape.length (ints t.shape), .sl t.el.length (rawsC t.el)], u, .fn (.func 57) [] [.ptr 1 0]] = [tnV t, u, .fn (.func 57) [] [.rp [.sl l.length (ints l)] 0]] := by
     simp only [szL, sz, szL_clo _ _ _ (cloL_ints _), szL_clo _ _ _ (cloL_raws _), hu1, if_true]
     rfl
    rw [he]
    have hlt := rowOf_lt gP
    refine hmv.keptF ⟨.self (clo_tnV t), (own_set hu9 g1 (by decide)).bor' (cloL_ints _), .self (by simp [cloL, clo, cloL_ints]), trivial⟩ fun v X hv => ?_
    have f2 : rowOf (H2.set 1 none ++ X) 2 = some ⟨26, 2, [.nil, .nil]⟩ := rowOf_keep (by rw [rowOf_set_ne _ (by decide)]; exact g2) X
    have f3 : ∀ z, rowOf ((H2.set 1 none ++ X).set 2 z) 3 = some ⟨27, 1, [.int .i64 0]⟩ := fun z => by rw [rowOf_set_ne _ (by decide)]; exact rowOf_keep (by rw [rowOf_set_ne _ (by decide)]; exact g3) X
    have f22 : ∀ row z, rowOf (((H2.set 1 none ++ X).set 2 (some row)).set 3 z) 2 = some row := fun row z => by rw [rowOf_set_ne _ (by decide)]; exact rowOf_set_eq f2
    have f33 : ∀ z row, rowOf (((H2.set 1 none ++ X).set 2 z).set 3 (some row)) 3 = some row := fun z row => rowOf_set_eq (f3 z)
    obtain ⟨w, e, rfl, hw, he⟩ := hv.tup2
    obtain ⟨a, b, rfl, ha, hb⟩ := hw.agg2
    obtain ⟨ka, ca, sa⟩ := gd_sl ha.gd
    obtain ⟨kb, cb, sb⟩ := gd_sl hb.gd
    rw [he.gd.int_inv]
    (refine Go1.out ?_;repeat' ((with_reducible first|refine Go1.mk ?_|((first|apply Br.dec|apply Br.beq|apply Br.bne|apply Br.mk)<;>intro h))<;>try simp -implicitDefEqProofs (maxSteps:=9000000) (disch:=first|omega|(simp only [lens];omega)) only [go_sem, f2, f3, f22, f33, ka, ca, sa, kb, cb, sb]))
    exact Gd.ret (Gd.tupL ⟨Gd.aggL ⟨((ha.set (q := 2) (by simp; omega) _).set (q := 3) (by simp; omega) _).gd, ((hb.set (q := 2) (by simp; omega) _).set (q := 3) (by simp; omega) _).gd, trivial⟩, gd_i _ _, trivial⟩)
   ·have b3 : ∀ z, rowOf (H2.set 2 z) 3 = some ⟨27, 1, [.int .i64 0]⟩ := fun z => by rw [rowOf_set_ne _ (by decide)]; exact g3
    have b2 : ∀ row z, rowOf ((H2.set 2 (some row)).set 3 z) 2 = some row := fun row z => by rw [rowOf_set_ne _ (by decide)]; exact rowOf_set_eq g2
    have b33 : ∀ row z, rowOf ((H2.set 2 z).set 3 (some row)) 3 = some row := fun row z => rowOf_set_eq (b3 z)
    (refine Go1.out ?_;repeat' ((with_reducible first|refine Go1.mk ?_|((first|apply Br.dec|apply Br.beq|apply Br.bne|apply Br.mk)<;>intro h))<;>try simp -implicitDefEqProofs (maxSteps:=9000000) (disch:=first|omega|(simp only [lens];omega)) only [go_sem, g2, g3, b3, b2, b33]))
    exact Gd.ret (gd_no hE hz)
end Go.Proofs.YtjdbdmhjakfldaaGreat
end
section
namespace Go.Proofs.YtjdbdmhjakfldaaGreat
open Go.Bv
def permB (l : List Int) : Bool := (List.range l.length).all fun i => decide (0 ≤ l.getD i 0 ∧ l.getD i 0 < l.length) && (List.range i).all fun k => decide (l.getD k 0 ≠ l.getD i 0)
def permAt (l : List Int) (i : Nat) : Prop := 0 ≤ l.getD i 0 ∧ l.getD i 0 < l.length ∧ ∀ k, k < i → l.getD k 0 ≠ l.getD i 0
theorem permB_iff (l : List Int) : permB l = true ↔ ∀ i, i < l.length → permAt l i := by
 simp only [permB, permAt, List.all_eq_true, List.mem_range, Bool.and_eq_true, decide_eq_true_eq, and_assoc]
theorem permB_nodup {xs : List Int} (h : permB xs = true) : xs.Nodup := by
 rw [List.Nodup, List.pairwise_iff_getElem]
 intro i j hi hj hij he
 have := ((permB_iff xs).1 h j hj)
 simp only [permAt] at this
 have h2 := this.2.2
 refine h2 i hij ?_
 simp only [List.getD, List.getElem?_eq_getElem hi, List.getElem?_eq_getElem hj, Option.getD_some, he]
theorem permB_mem {xs : List Int} (h : permB xs = true) : ∀ a ∈ xs, 0 ≤ a ∧ a < xs.length := by
 intro a ha
 obtain ⟨i, hi, rfl⟩ := List.getElem_of_mem ha
 have := ((permB_iff xs).1 h i hi)
 simp only [permAt, List.getD, List.getElem?_eq_getElem hi, Option.getD_some] at this
 exact ⟨this.1, this.2.1⟩
theorem getD_mem' {ys : List Int} {i : Nat} (h : i < ys.length) : ys.getD i 0 ∈ ys := by
 simp only [List.getD, List.getElem?_eq_getElem h, Option.getD_some]; exact List.getElem_mem _
theorem sorted_range {xs ys : List Int} (hp : ys.Perm xs) (hs : ∀ p q, p < q → q < ys.length → ys.getD p 0 ≤ ys.getD q 0) : permB xs = true ↔ ∀ i, i < ys.length → ys.getD i 0 = i := by
 have hl := hp.length_eq
 constructor
 ·intro h
  have hn : ys.Nodup := hp.nodup_iff.2 (permB_nodup h)
  have hm : ∀ i, i < ys.length → 0 ≤ ys.getD i 0 ∧ ys.getD i 0 < ys.length := fun i hi => by
   have := permB_mem h _ (hp.mem_iff.1 (getD_mem' hi)); rwa [← hl] at this
  have hlt : ∀ i, i + 1 < ys.length → ys.getD i 0 < ys.getD (i + 1) 0 := fun i hi => by
   have h1 := hs i (i + 1) (by omega) hi
   have h2 : ys.getD i 0 ≠ ys.getD (i + 1) 0 := by
    rw [List.Nodup, List.pairwise_iff_getElem] at hn
    have := hn i (i + 1) (by omega) hi (by omega)
    simpa only [List.getD, List.getElem?_eq_getElem hi, List.getElem?_eq_getElem (show i < ys.length by omega), Option.getD_some] using this
   omega
  have lo : ∀ i, i < ys.length → (i : Int) ≤ ys.getD i 0 := by
   intro i
   induction i with
   | zero => intro hi; exact (hm 0 hi).1
   | succ i ih => intro hi; have := ih (by omega); have := hlt i hi; omega
  have up : ∀ d i, i < ys.length → ys.length - 1 - i = d → ys.getD i 0 ≤ i := by
   intro d
   induction d with
   | zero => intro i hi hd; have := (hm i hi).2; omega
   | succ d ih => intro i hi hd; have := ih (i + 1) (by omega) (by omega); have := hlt i (by omega); omega
  intro i hi
  have := lo i hi; have := up _ i hi rfl; omega
 ·intro h
  have hn : ys.Nodup := by
   rw [List.Nodup, List.pairwise_iff_getElem]
   intro i j hi hj hij he
   have h1 := h i hi; have h2 := h j hj
   simp only [List.getD, List.getElem?_eq_getElem hi, List.getElem?_eq_getElem hj, Option.getD_some] at h1 h2
   omega
  have hn' := hp.nodup_iff.1 hn
  rw [List.Nodup, List.pairwise_iff_getElem] at hn'
  refine (permB_iff xs).2 fun i hi => ?_
  obtain ⟨j, hj, he⟩ := List.getElem_of_mem (hp.mem_iff.2 (getD_mem' hi))
  have h1 := h j hj
  simp only [List.getD, List.getElem?_eq_getElem hj, Option.getD_some] at h1
  simp only [permAt]
  refine ⟨by omega, by omega, fun k hk => ?_⟩
  have := hn' k i (by omega) hi hk
  simpa only [List.getD, List.getElem?_eq_getElem hi, List.getElem?_eq_getElem (show k < xs.length by omega), Option.getD_some] using this
theorem Perm_spec (xs : List Int) (m : Nat) (hm : m ≤ 1000) (hx : xs.length ≤ 12) : Pu C 40 [.sl xs.length (ints xs), .int .i64 (m : Nat)] (.int .i64 (if (permB xs && decide (xs.length = m)) = true then 0 else 11)) := by
 refine Fc.keep (Fc.bodyT mixed Tryz.func40 w40 rfl Tryz.ntmps40 Tryz.results40 (Nat.le_of_ble_eq_true rfl) ?_)
 (refine Go1.out ?_;repeat' ((with_reducible first|refine Go1.mk ?_|((first|apply Br.dec|apply Br.beq|apply Br.bne|apply Br.mk)<;>intro h))<;>try simp -implicitDefEqProofs (maxSteps:=9000000) (disch:=first|omega|(simp only [lens];omega)) only [go_sem]))
 refine Fc.pure (Values_spec xs) (by simp [cloL, clo, cloL_ints]) (fun g => ren_clo g _ (by simp [vals, cloL, clo, cloL_ints])) ?_
 (refine Go1.out ?_;repeat' ((with_reducible first|refine Go1.mk ?_|((first|apply Br.dec|apply Br.beq|apply Br.bne|apply Br.mk)<;>intro h))<;>try simp -implicitDefEqProofs (maxSteps:=9000000) (disch:=first|omega|(simp only [lens];omega)) only [go_sem]))
 refine Fc.mono (Sorted_spec xs hx) ?_
 rintro v H' ⟨ys, hp, hs, hR⟩
 have hr := sorted_range hp hs
 have hl := hp.length_eq
 have hmx : (if (0 : Int) > (m : Int) then 0 else (m : Int)) = (m : Int) := if_neg (by omega)
 rcases hR with ⟨rfl, h, h', rfl⟩ | ⟨rfl, rfl, _⟩
 ·obtain rfl : ys = [] := List.eq_nil_of_length_eq_zero h
  have hx : permB xs = true := hr.2 (by simp)
  rw [hx]
  (refine Go1.out ?_;repeat' ((with_reducible first|refine Go1.mk ?_|((first|apply Br.dec|apply Br.beq|apply Br.bne|apply Br.mk)<;>intro h))<;>try simp -implicitDefEqProofs (maxSteps:=9000000) (disch:=first|omega|(simp only [lens];omega)) only [go_sem]))
  refine TT_loop ?_
  refine TT_of mixed ?_
  have hl0 : xs.length = 0 := hl.symm
  (refine Go1.out ?_;repeat' ((with_reducible first|refine Go1.mk ?_|((first|apply Br.dec|apply Br.beq|apply Br.bne|apply Br.mk)<;>intro h))<;>try simp -implicitDefEqProofs (maxSteps:=9000000) (disch:=first|omega|(simp only [lens];omega)) only [go_sem, hmx]))
  all_goals (refine keepP (by intro g; simp only [go_sem, ren, renL]) ?_)
  ·simp; omega
  ·simp; omega
 ·skip
  (refine Go1.out ?_;repeat' ((with_reducible first|refine Go1.mk ?_|((first|apply Br.dec|apply Br.beq|apply Br.bne|apply Br.mk)<;>intro h))<;>try simp -implicitDefEqProofs (maxSteps:=9000000) (disch:=first|omega|(simp only [lens];omega)) only [go_sem]))
  refine TT_loop_inv (fun n ts H => ∃ (i : Nat), (i ≤ ys.length) ∧ (H = [some ⟨3, 1, ints ys⟩]) ∧ (n = ys.length - i) ∧ (∀ k, k < i → ys.getD k 0 = k) ∧ ts.length = 27 ∧ nth ts 1 = .int .i64 (m : Nat) ∧ nth ts 4 = .int .i64 0 ∧ nth ts 5 = .ref 0 0 ys.length ∧ nth ts 11 = .ref 0 0 ys.length ∧ nth ts 12 = .int .i64 ys.length ∧ nth ts 13 = .int .i64 i) ?_ (n := ys.length) ?_
  ·skip
   rintro n ts H ⟨i, hi, hH, hn, hall, hL, hs1, hs4, hs5, hs11, hs12, hs13⟩
   refine TT_env [(1, .int .i64 (m : Nat)), (4, .int .i64 0), (5, .ref 0 0 ys.length), (11, .ref 0 0 ys.length), (12, .int .i64 ys.length), (13, .int .i64 i)] hL (by simp only [List.forall_mem_cons, hs1, hs4, hs5, hs11, hs12, hs13, true_and]; exact fun _ h => nomatch h) ?_
   clear hL hs1 hs4 hs5 hs11 hs12 hs13 ts
   refine TT_of mixed ?_
   subst hH
   (refine Go1.out ?_;repeat' ((with_reducible first|refine Go1.mk ?_|((first|apply Br.dec|apply Br.beq|apply Br.bne|apply Br.mk)<;>intro h))<;>try simp -implicitDefEqProofs (maxSteps:=9000000) (disch:=first|omega|(simp only [lens];omega)) only [go_sem, hmx]))
   ·skip
    (refine keepP (by intro g; simp only [go_sem, ren, renL]) ?_)
    have : permB xs = false := by
     cases hb : permB xs with
     | false => rfl
     | true => exact absurd (hr.1 hb i (by omega)) (by assumption)
    simp [this]
   ·refine ⟨ys.length - (i + 1), by omega, i + 1, by omega, rfl, fun k hk => ?_, rfl⟩
    rcases Nat.lt_or_ge k i with h1 | h1
    ·exact hall k h1
    ·obtain rfl : k = i := by omega
     assumption
   ·have : permB xs = true := hr.2 fun k hk => hall k (by omega)
    (refine keepP (by intro g; simp only [go_sem, ren, renL]) ?_)
    simp [this]; omega
   ·have : permB xs = true := hr.2 fun k hk => hall k (by omega)
    (refine keepP (by intro g; simp only [go_sem, ren, renL]) ?_)
    simp [this]; omega
  ·exact ⟨0, by omega, rfl, rfl, fun k hk => by omega, rfl, rfl, rfl, rfl, rfl, rfl, rfl⟩
end Go.Proofs.YtjdbdmhjakfldaaGreat
end
section
namespace Go.Proofs.YtjdbdmhjakfldaaGreat
open Go.Bv
def putP (p x : List Int) : Nat → List Int
 | 0 => List.replicate p.length 0
 | k + 1 => (putP p x k).set (p.getD k 0).toNat (x.getD k 0)
theorem putP_len (p x : List Int) (k : Nat) : (putP p x k).length = p.length := by
 induction k with
 | zero => simp [putP]
 | succ k ih => simp [putP, ih]
theorem trFrom_val (p x : List Int) (hp : p.length ≤ 1000) (hx : x.length = p.length) (hb : ∀ j, j < p.length → 0 ≤ p.getD j 0 ∧ p.getD j 0 < p.length) : Val C 42 [.sl x.length (ints x), .rp [.sl p.length (ints p)] 0] (.sl (putP p x p.length).length (ints (putP p x p.length))) := by
 refine Val.ofRet (e := 3) (s := 1) ?_ (cloL_ints _) (plainL_ints _)
 refine Fc.keep (Fc.bodyT mixed Tryz.func42 w42 rfl Tryz.ntmps42 Tryz.results42 (Nat.le_of_ble_eq_true rfl) ?_)
 (refine Go1.out ?_;repeat' ((with_reducible first|refine Go1.mk ?_|((first|apply Br.dec|apply Br.beq|apply Br.bne|apply Br.mk)<;>intro h))<;>try simp -implicitDefEqProofs (maxSteps:=9000000) (disch:=first|omega|(simp only [lens];omega)) only [go_sem]))
 refine makew_k rfl rfl rfl rfl (by simp [t3bytes]) (by omega) ?_
 (refine Go1.out ?_;repeat' ((with_reducible first|refine Go1.mk ?_|((first|apply Br.dec|apply Br.beq|apply Br.bne|apply Br.mk)<;>intro h))<;>try simp -implicitDefEqProofs (maxSteps:=9000000) (disch:=first|omega|(simp only [lens];omega)) only [go_sem]))
 refine TT_loop_inv (fun n ts H => ∃ (k : Nat), (k ≤ p.length) ∧ (n = p.length - k) ∧ (rowOf H 0 = some ⟨3, 1, ints (putP p x k)⟩) ∧ ts.length = 26 ∧ nth ts 0 = .sl x.length (ints x) ∧ nth ts 1 = .rp [.sl p.length (ints p)] 0 ∧ nth ts 4 = .ref 0 0 p.length ∧ nth ts 10 = .sl p.length (ints p) ∧ nth ts 11 = .int .i64 p.length ∧ nth ts 12 = .int .i64 (k : Nat)) ?_ (n := p.length) ?_
 ·skip
  rintro n ts H ⟨k, hk, hn, h0, hL, hs0, hs1, hs4, hs10, hs11, hs12⟩
  refine TT_env [(0, .sl x.length (ints x)), (1, .rp [.sl p.length (ints p)] 0), (4, .ref 0 0 p.length), (10, .sl p.length (ints p)), (11, .int .i64 p.length), (12, .int .i64 (k : Nat))] hL (by simp only [List.forall_mem_cons, hs0, hs1, hs4, hs10, hs11, hs12, true_and]; exact fun _ h => nomatch h) ?_
  clear hL hs0 hs1 hs4 hs10 hs11 hs12 ts
  refine TT_of mixed ?_
  by_cases hc : k < p.length
  ·obtain ⟨b1, b2⟩ := hb k hc
   obtain ⟨d, hd⟩ : ∃ d : Nat, p.getD k 0 = d := ⟨(p.getD k 0).toNat, by omega⟩
   have hl := putP_len p x k
   have hst : (putP p x k).set d (x.getD k 0) = putP p x (k + 1) := by rw [putP, hd]; rfl
   (refine Go1.out ?_;repeat' ((with_reducible first|refine Go1.mk ?_|((first|apply Br.dec|apply Br.beq|apply Br.bne|apply Br.mk)<;>intro h))<;>try simp -implicitDefEqProofs (maxSteps:=9000000) (disch:=first|omega|(simp only [lens];omega)) only [go_sem, hd, h0, upd_ints, hst]))
   exact ⟨p.length - (k + 1), by omega, k + 1, by omega, rfl, rowOf_set_eq h0, (by (repeat' apply And.intro) <;> (first | rfl | omega | (congr 1; omega) | assumption | (congr 1; assumption)))⟩
  ·have hks : k = p.length := by omega
   subst hks
   (refine Go1.out ?_;repeat' ((with_reducible first|refine Go1.mk ?_|((first|apply Br.dec|apply Br.beq|apply Br.bne|apply Br.mk)<;>intro h))<;>try simp -implicitDefEqProofs (maxSteps:=9000000) (disch:=first|omega|(simp only [lens];omega)) only [go_sem]))
   rw [putP_len]
   exact Own.ret (.inr ⟨0, rfl, h0, by simp [ints_length, putP_len]⟩) (fun g => renL_ints g _) fun v H h => h
 ·refine ⟨0, by omega, rfl, ?_, rfl, rfl, rfl, rfl, rfl, rfl, rfl⟩
  rw [putP, ← ints_zero]; rfl
def transS (p s : List Int) : List Int := tabI (fun i => s.getD (p.getD i 0).toNat 0) p.length
def transE (t : Tn) (p : List Int) : Int := if mayT t ≠ 0 then mayT t else if (permB p && decide (p.length = t.shape.length)) = false then 11 else 0
def transT (t : Tn) (p : List Int) : Tn := errT (mvT t (transS p t.shape) fun x => putP p x p.length) (transE t p)
theorem trans_val (hpm : ∀ s : List Int, mayP s = 0 → ∀ p : List Int, permB p = true → p.length = s.length → mayP (transS p s) = 0) (t : Tn) (ht : TnOK t) (p : List Int) (hp : p.length ≤ 12) : Val C 13 [tnV t, .sl p.length (ints p)] (.tup [tnV (transT t p), .int .i64 (transE t p)]) := by
 have hs := ht.s
 unfold transT
 refine Fc.keep (Fc.bodyT mixed Tryz.func13 w13 rfl Tryz.ntmps13 Tryz.results13 (Nat.le_of_ble_eq_true rfl) ?_)
 (refine Go1.out ?_;repeat' ((with_reducible first|refine Go1.mk ?_|((first|apply Br.dec|apply Br.beq|apply Br.bne|apply Br.mk)<;>intro h))<;>try simp -implicitDefEqProofs (maxSteps:=9000000) (disch:=first|omega|(simp only [lens];omega)) only [go_sem]))
 refine Fc.pure (tmay_spec t ht) (by simp [cloL, clo, cloL_ints, cloL_raws]) (fun g => rfl) ?_
 by_cases hm : mayT t = 0
 case neg =>
  (refine Go1.out ?_;repeat' ((with_reducible first|refine Go1.mk ?_|((first|apply Br.dec|apply Br.beq|apply Br.bne|apply Br.mk)<;>intro h))<;>try simp -implicitDefEqProofs (maxSteps:=9000000) (disch:=first|omega|(simp only [lens];omega)) only [go_sem]))
  exact Gd.ret (gd_no (by rw [transE, if_pos hm]) hm)
 obtain ⟨hf, hmp, hel⟩ := mayT_zero hm
 obtain ⟨m1, m2, m3⟩ := mayP_zero hmp
 rw [hm]
 (refine Go1.out ?_;repeat' ((with_reducible first|refine Go1.mk ?_|((first|apply Br.dec|apply Br.beq|apply Br.bne|apply Br.mk)<;>intro h))<;>try simp -implicitDefEqProofs (maxSteps:=9000000) (disch:=first|omega|(simp only [lens];omega)) only [go_sem]))
 refine Fc.pure (Perm_spec p t.shape.length (by omega) hp) (by simp [cloL, clo, cloL_ints]) (fun g => rfl) ?_
 cases hb : (permB p && decide (p.length = t.shape.length)) with
 | false =>
  rw [if_neg (by decide)]
  (refine Go1.out ?_;repeat' ((with_reducible first|refine Go1.mk ?_|((first|apply Br.dec|apply Br.beq|apply Br.bne|apply Br.mk)<;>intro h))<;>try simp -implicitDefEqProofs (maxSteps:=9000000) (disch:=first|omega|(simp only [lens];omega)) only [go_sem]))
  exact Gd.ret (gd_no (by rw [transE, if_neg (by omega), if_pos hb]) (by decide))
 | true =>
  rw [if_pos rfl]
  rw [Bool.and_eq_true, decide_eq_true_eq] at hb
  obtain ⟨hb, hpl⟩ := hb
  have hin : ∀ j, j < p.length → 0 ≤ p.getD j 0 ∧ p.getD j 0 < p.length := fun j hj => by
   have := (permB_iff p).1 hb j hj
   exact ⟨this.1, this.2.1⟩
  have hE : transE t p = 0 := by rw [transE, if_neg (by omega), if_neg (by simp [hb, hpl])]
  rw [errT_ok hE, hE]
  (refine Go1.out ?_;repeat' ((with_reducible first|refine Go1.mk ?_|((first|apply Br.dec|apply Br.beq|apply Br.bne|apply Br.mk)<;>intro h))<;>try simp -implicitDefEqProofs (maxSteps:=9000000) (disch:=first|omega|(simp only [lens];omega)) only [go_sem]))
  refine makew_k rfl rfl rfl rfl (by simp [t3bytes]) (by omega) ?_
  (refine Go1.out ?_;repeat' ((with_reducible first|refine Go1.mk ?_|((first|apply Br.dec|apply Br.beq|apply Br.bne|apply Br.mk)<;>intro h))<;>try simp -implicitDefEqProofs (maxSteps:=9000000) (disch:=first|omega|(simp only [lens];omega)) only [go_sem]))
  refine TT_loop_inv (fun n ts H => ∃ (k : Nat) (z : List Int), (k ≤ p.length) ∧ (n = p.length - k) ∧ (z.length = p.length) ∧ (z.take k = tabI (fun i => t.shape.getD (p.getD i 0).toNat 0) k) ∧ (rowOf H 0 = some ⟨26, 2, [.sl t.shape.length (ints t.shape), .sl t.el.length (rawsC t.el)]⟩) ∧ (rowOf H 1 = some ⟨22, 1, [.sl p.length (ints p)]⟩) ∧ (rowOf H 2 = some ⟨26, 2, [.nil, .nil]⟩) ∧ (rowOf H 3 = some ⟨3, 1, ints z⟩) ∧ ts.length = 51 ∧ nth ts 2 = .ptr 0 0 ∧ nth ts 3 = .ptr 1 0 ∧ nth ts 4 = .ptr 2 0 ∧ nth ts 8 = .ref 3 0 p.length ∧ nth ts 29 = .sl p.length (ints p) ∧ nth ts 30 = .int .i64 p.length ∧ nth ts 31 = .int .i64 (k : Nat)) ?_ (n := p.length) ?_
  ·skip
   rintro n ts H ⟨k, z, hk, hn, hz, hzt, h0, h1, h2, h3, hL, hs2, hs3, hs4, hs8, hs29, hs30, hs31⟩
   refine TT_env [(2, .ptr 0 0), (3, .ptr 1 0), (4, .ptr 2 0), (8, .ref 3 0 p.length), (29, .sl p.length (ints p)), (30, .int .i64 p.length), (31, .int .i64 (k : Nat))] hL (by simp only [List.forall_mem_cons, hs2, hs3, hs4, hs8, hs29, hs30, hs31, true_and]; exact fun _ h => nomatch h) ?_
   clear hL hs2 hs3 hs4 hs8 hs29 hs30 hs31 ts
   refine TT_of mixed ?_
   by_cases hc : k < p.length
   ·obtain ⟨b1, b2⟩ := hin k hc
    obtain ⟨d, hd⟩ : ∃ d : Nat, p.getD k 0 = d := ⟨(p.getD k 0).toNat, by omega⟩
    have e0 : ∀ q, rowOf (H.set 3 q) 0 = some ⟨26, 2, [.sl t.shape.length (ints t.shape), .sl t.el.length (rawsC t.el)]⟩ := fun q => by rw [rowOf_set_ne _ (by decide)]; exact h0
    have e1 : ∀ q, rowOf (H.set 3 q) 1 = some ⟨22, 1, [.sl p.length (ints p)]⟩ := fun q => by rw [rowOf_set_ne _ (by decide)]; exact h1
    have e2 : ∀ q, rowOf (H.set 3 q) 2 = some ⟨26, 2, [.nil, .nil]⟩ := fun q => by rw [rowOf_set_ne _ (by decide)]; exact h2
    (refine Go1.out ?_;repeat' ((with_reducible first|refine Go1.mk ?_|((first|apply Br.dec|apply Br.beq|apply Br.bne|apply Br.mk)<;>intro h))<;>try simp -implicitDefEqProofs (maxSteps:=9000000) (disch:=first|omega|(simp only [lens];omega)) only [go_sem, hd, h0, h3, upd_ints]))
    refine ⟨p.length - (k + 1), by omega, k + 1, z.set k (t.shape.getD d 0), by omega, rfl, by simp [hz], ?_, e0 _, e1 _, e2 _, rowOf_set_eq h3, (by (repeat' apply And.intro) <;> (first | rfl | omega | (congr 1; omega) | assumption | (congr 1; assumption)))⟩
    rw [tabI_succ, ← hzt, hd]
    refine List.ext_getElem (by simp; omega) fun j h1 h2 => ?_
    simp only [List.length_take, List.length_set] at h1
    rw [List.getElem_take, List.getElem_set, List.getElem_append]
    simp only [List.length_take, List.getElem_take]
    split
    ·rename_i hj; subst hj; rw [dif_neg (by omega)]; simp
    ·rename_i hj; rw [dif_pos (by omega)]
   ·have hks : k = p.length := by omega
    subst hks
    have hze : z = transS p t.shape := by rw [transS, ← hzt, ← hz, List.take_length]
    subst hze
    have hTm := hpm t.shape hmp p hb hpl
    have hmv := moved_val t ht hf (transS p t.shape) (by rw [hz]; omega) hTm 42 [.rp [.sl p.length (ints p)] 0] (by simp [cloL, clo, cloL_ints]) (fun x => putP p x p.length) (fun x hx hxb => ⟨by rw [putP_len]; omega, trFrom_val p x (by omega) (by omega) hin⟩)
    (refine Go1.out ?_;repeat' ((with_reducible first|refine Go1.mk ?_|((first|apply Br.dec|apply Br.beq|apply Br.bne|apply Br.mk)<;>intro h))<;>try simp -implicitDefEqProofs (maxSteps:=9000000) (disch:=first|omega|(simp only [lens];omega)) only [go_sem, h0, h1]))
    refine Fc.sealed (r := 1) h1 (by simp [cloL, clo, cloL_ints]) ?_
    have he : szL 1 [.sl p.length (ints p)] [.agg [.sl t.shape.length (ints t.shape), .sl t.el.length (rawsC t.el)], .ref 3 0 p.length, .fn (.func 42) [] [.ptr 1 0]] = [tnV t, .ref 3 0 p.length, .fn (.func 42) [] [.rp [.sl p.length (ints p)] 0]] := by
     simp only [szL, sz, szL_clo _ _ _ (cloL_ints _), szL_clo _ _ _ (cloL_raws _), if_true]
     rfl
    rw [he]
    have hu : Bv.Own 3 1 (H.set 1 none) (.ref 3 0 p.length) (transS p t.shape).length (ints (transS p t.shape)) := by
     rw [hz]; exact .inr ⟨3, rfl, by rw [rowOf_set_ne _ (by decide)]; exact h3, by rw [ints_length, hz]; omega⟩
    have hlt := rowOf_lt h3
    refine hmv.keptF ⟨.self (clo_tnV t), hu.bor' (cloL_ints _), .self (by simp [cloL, clo, cloL_ints]), trivial⟩ fun v X hv => ?_
    have f2 : rowOf (H.set 1 none ++ X) 2 = some ⟨26, 2, [.nil, .nil]⟩ := rowOf_keep (by rw [rowOf_set_ne _ (by decide)]; exact h2) X
    have f22 : ∀ row, rowOf ((H.set 1 none ++ X).set 2 (some row)) 2 = some row := fun row => rowOf_set_eq f2
    obtain ⟨w, e, rfl, hw, he⟩ := hv.tup2
    obtain ⟨a, b, rfl, ha, hb⟩ := hw.agg2
    obtain ⟨ka, ca, sa⟩ := gd_sl ha.gd
    obtain ⟨kb, cb, sb⟩ := gd_sl hb.gd
    rw [he.gd.int_inv]
    (refine Go1.out ?_;repeat' ((with_reducible first|refine Go1.mk ?_|((first|apply Br.dec|apply Br.beq|apply Br.bne|apply Br.mk)<;>intro h))<;>try simp -implicitDefEqProofs (maxSteps:=9000000) (disch:=first|omega|(simp only [lens];omega)) only [go_sem, f2, f22, ka, ca, sa, kb, cb, sb]))
    exact Gd.ret (Gd.tupL ⟨Gd.aggL ⟨(ha.set (q := 2) (by simp; omega) _).gd, (hb.set (q := 2) (by simp; omega) _).gd, trivial⟩, gd_i _ _, trivial⟩)
  ·exact ⟨0, List.replicate p.length 0, by omega, rfl, by simp, by simp [tabI], rfl, rfl, rfl, by rw [← ints_zero]; rfl, rfl, rfl, rfl, rfl, rfl, rfl, rfl, rfl⟩
end Go.Proofs.YtjdbdmhjakfldaaGreat
end
section
namespace Go.Proofs.YtjdbdmhjakfldaaGreat
open Go.Bv
theorem prodL_perm {l m : List Int} (h : l.Perm m) : prodL l = prodL m := by
 induction h with
 | nil => rfl
 | cons a _ ih => simp only [prodL, ih]
 | swap a b l => simp only [prodL]; rw [← Int.mul_assoc, ← Int.mul_assoc, Int.mul_comm a b]
 | trans _ _ h1 h2 => exact h1.trans h2
theorem turn_perm {x a : List Int} (hl : a.length = x.length) (hp : permB a = true) : (tabI (fun i => x.getD (a.getD i 0).toNat 0) a.length).Perm x := by
 have h1 := List.mergeSort_perm a (fun p q => decide (p ≤ q))
 have h2 := List.pairwise_mergeSort (le := fun p q : Int => decide (p ≤ q)) (by intro p q r; simp; omega) (by intro p q; simp; omega) a
 generalize a.mergeSort (fun p q => decide (p ≤ q)) = ys at h1 h2
 have hy := (sorted_range h1 (fun p q hpq hq => by
  rw [List.pairwise_iff_getElem] at h2
  have := h2 p q (by omega) hq hpq
  simpa [List.getD, hq, show p < ys.length by omega] using this)).1 hp
 have hyl := h1.length_eq
 have e1 : tabI (fun i => x.getD (a.getD i 0).toNat 0) a.length = a.map fun d => x.getD d.toNat 0 := by
  refine ext_getD (by simp [tabI_len]) fun j hj => ?_
  rw [tabI_len] at hj
  rw [tabI_get hj]
  simp [List.getD, hj]
 have e2 : (ys.map fun d => x.getD d.toNat 0) = x := by
  refine ext_getD (by simp; omega) fun j hj => ?_
  have hj' : j < ys.length := by simpa using hj
  have := hy j hj'
  simp only [List.getD, List.getElem?_eq_getElem hj', Option.getD_some] at this
  simp [List.getD, hj', this]
 rw [e1]
 exact ((h1.map _).symm).trans (by rw [e2])
theorem transS_may (s : List Int) (h0 : mayP s = 0) (p : List Int) (hp : permB p = true) (hl : p.length = s.length) : mayP (transS p s) = 0 := by
 obtain ⟨h1, h2, h3⟩ := mayP_zero h0
 have hpm : (transS p s).Perm s := turn_perm hl hp
 have hm : ∀ d ∈ transS p s, 1 ≤ d := fun d hd => h2 d (hpm.mem_iff.1 hd)
 have hln := hpm.length_eq
 unfold mayP
 rw [if_neg (by omega), if_pos (by simpa using hm), if_neg (by rw [prodL_perm hpm]; omega)]
theorem transpose_val (t : Tn) (ht : TnOK t) (p : List Int) (hp : p.length ≤ 12) : Val C 13 [tnV t, .sl p.length (ints p)] (.tup [tnV (transT t p), .int .i64 (transE t p)]) := trans_val transS_may t ht p hp
end Go.Proofs.YtjdbdmhjakfldaaGreat
end
section
namespace Go.Proofs.YtjdbdmhjakfldaaGreat
open Go.Bv
end Go.Proofs.YtjdbdmhjakfldaaGreat
end
section
namespace Go.Proofs.YtjdbdmhjakfldaaGreat
open Go.Bv
def wholeQ (s l : List Int) : Tq := ⟨s, l.map intQ⟩
def wholeT (s l : List Int) : Tn := tnBack (wholeQ s l)
theorem ints_snoc {xs : List Int} {i : Nat} (h : i < xs.length) : refsC ((xs.map intQ).take (i + 1)) = refsC ((xs.map intQ).take i) ++ [.bool (intQ (xs.getD i 0)).neg, DV (intQ (xs.getD i 0)).num, DV (intQ (xs.getD i 0)).den] := by
 have : (xs.map intQ).getD i q0 = intQ (xs.getD i 0) := by simp [List.getD, h]
 have hh := refs_snoc (xs := xs.map intQ) (i := i) (by simpa using h)
 rw [this] at hh
 exact hh
theorem whole_ok {s l : List Int} (hs : s.length ≤ 1000000000) (hl : l.length ≤ 1000000000) (hb : ∀ x ∈ l, -9223372036854775808 ≤ x ∧ x < 9223372036854775808) : TqOK (wholeQ s l) := ⟨hs, by simpa [wholeQ] using hl, fun x hx => by
 simp only [wholeQ, List.mem_map] at hx
 obtain ⟨a, ha, rfl⟩ := hx
 have := hb a ha
 refine ⟨?_, ?_⟩
 ·have : dlen a.natAbs ≤ 16 := dlen_le (Nat.lt_of_lt_of_le (show a.natAbs < 9223372036854775809 by omega) (by decide))
  show dlen a.natAbs ≤ _
  omega
 ·show dlen 1 ≤ _
  rw [dlen_one]; decide⟩
theorem whole_val (s l : List Int) (hs : s.length ≤ 1000000) (hl : l.length ≤ 1000000) (hb : ∀ x ∈ l, -9223372036854775808 ≤ x ∧ x < 9223372036854775808) : Val C 49 [.sl s.length (ints s), .sl l.length (ints l)] (tnV (wholeT s l)) := by
 refine Fc.keep (Fc.bodyT mixed Tryz.func49 w49 rfl Tryz.ntmps49 Tryz.results49 (Nat.le_of_ble_eq_true rfl) ?_)
 (refine Go1.out ?_;repeat' ((with_reducible first|refine Go1.mk ?_|((first|apply Br.dec|apply Br.beq|apply Br.bne|apply Br.mk)<;>intro h))<;>try simp -implicitDefEqProofs (maxSteps:=9000000) (disch:=first|omega|(simp only [lens];omega)) only [go_sem]))
 refine TT_loop_inv (fun n ts H => ∃ (i : Nat) (u : V), (i ≤ l.length) ∧ (rowOf H 0 = some ⟨26, 2, [.nil, .nil]⟩) ∧ (rowOf H 1 = some ⟨34, 2, [.sl s.length (ints s), u]⟩) ∧ (Cel 2 72 3 H u i (refsC ((l.map intQ).take i))) ∧ (n = l.length - i) ∧ ts.length = 27 ∧ nth ts 1 = .sl l.length (ints l) ∧ nth ts 4 = .ptr 0 0 ∧ nth ts 5 = .ptr 1 0 ∧ nth ts 6 = .int .i64 (i : Nat)) ?_ (n := l.length) ?_
 ·skip
  rintro n ts H ⟨i, u, hi, h0, h3, hu, hn, hL, hs1, hs4, hs5, hs6⟩
  refine TT_env [(1, .sl l.length (ints l)), (4, .ptr 0 0), (5, .ptr 1 0), (6, .int .i64 (i : Nat))] hL (by simp only [List.forall_mem_cons, hs1, hs4, hs5, hs6, true_and]; exact fun _ h => nomatch h) ?_
  clear hL hs1 hs4 hs5 hs6 ts
  refine TT_of mixed ?_
  have hlen := rowOf_lt h3
  by_cases hcase : i < l.length
  ·have hx := all_getD.1 hb i hcase
   (refine Go1.out ?_;repeat' ((with_reducible first|refine Go1.mk ?_|((first|apply Br.dec|apply Br.beq|apply Br.bne|apply Br.mk)<;>intro h))<;>try simp -implicitDefEqProofs (maxSteps:=9000000) (disch:=first|omega|(simp only [lens];omega)) only [go_sem, h3]))
   refine Pc.keptF (int03_spec (l.getD i 0) hx.1 hx.2) (refV_some _) ⟨.self rfl, trivial⟩ fun v X hv => ?_
   obtain ⟨v1, v2, v3, rfl, hv1, hv2, hv3⟩ := hv.agg3
   obtain ⟨k2, c2, s2⟩ := gd_sl hv2.gd
   obtain ⟨k3, c3, s3⟩ := gd_sl hv3.gd
   have e1 := hv1.gd.bool_inv
   subst e1
   (refine Go1.out ?_;repeat' ((with_reducible first|refine Go1.mk ?_|((first|apply Br.dec|apply Br.beq|apply Br.bne|apply Br.mk)<;>intro h))<;>try simp -implicitDefEqProofs (maxSteps:=9000000) (disch:=first|omega|(simp only [lens];omega)) only [go_sem, h3, k2, c2, s2, k3, c3, s3]))
   refine Cel.push3 hu rfl rfl (by omega) (by omega) hv2 hv3 s2 s3 fun v' H' hu' hk' k4 c4 s4 => ?_
   have g0 := hk' 0 _ (by decide) h0
   have g3 := hk' 1 _ (by decide) h3
   (refine Go1.out ?_;repeat' ((with_reducible first|refine Go1.mk ?_|((first|apply Br.dec|apply Br.beq|apply Br.bne|apply Br.mk)<;>intro h))<;>try simp -implicitDefEqProofs (maxSteps:=9000000) (disch:=first|omega|(simp only [lens];omega)) only [go_sem, g3, k4, c4, s4]))
   have f0 : ∀ (q : Nat) (row : Row) (z : Option Row), q ≠ 1 → rowOf H' q = some row → rowOf (H'.set 1 z) q = some row := fun q row z hq hr => by rw [rowOf_set_ne _ (Ne.symm hq)]; exact hr
   refine ⟨l.length - (i + 1), by omega, i + 1, v', by omega, f0 0 _ _ (by decide) g0, rowOf_set_eq g3, ?_, rfl, by congr 1⟩
   rw [ints_snoc hcase]
   exact Cel.set hu' (by decide) _
  ·obtain ⟨k4, c4, s4⟩ := Cel.kn hu
   have hil : i = l.length := by omega
   rw [hil, List.take_of_length_le (by simp)] at hu
   have hg : Bor H (.agg [.sl s.length (ints s), u]) (tqV (wholeQ s l)) := Bor.aggL ⟨.self (by simp [clo, cloL_ints]), by simpa [wholeQ] using (Cel.gd hu).bor, trivial⟩
   (refine Go1.out ?_;repeat' ((with_reducible first|refine Go1.mk ?_|((first|apply Br.dec|apply Br.beq|apply Br.bne|apply Br.mk)<;>intro h))<;>try simp -implicitDefEqProofs (maxSteps:=9000000) (disch:=first|omega|(simp only [lens];omega)) only [go_sem, h3, k4, c4, s4]))
   refine (back07_spec (wholeQ s l) (whole_ok (by omega) (by omega) hb)).keptF ⟨hg, trivial⟩ fun v X hv => ?_
   obtain ⟨a, b, rfl, ha, hb'⟩ := hv.agg2
   obtain ⟨ka, ca, sa⟩ := gd_sl ha.gd
   obtain ⟨kb, cb, sb⟩ := gd_sl hb'.gd
   have a0 := rowOf_keep h0 X
   have hst : ∀ z : Row, rowOf ((H ++ X).set 0 (some z)) 0 = some z := fun z => rowOf_set_eq a0
   (refine Go1.out ?_;repeat' ((with_reducible first|refine Go1.mk ?_|((first|apply Br.dec|apply Br.beq|apply Br.bne|apply Br.mk)<;>intro h))<;>try simp -implicitDefEqProofs (maxSteps:=9000000) (disch:=first|omega|(simp only [lens];omega)) only [go_sem, a0, hst, ka, ca, sa, kb, cb, sb]))
   exact Gd.ret (Gd.aggL ⟨(ha.set (q := 0) (by omega) _).gd, (hb'.set (q := 0) (by omega) _).gd, trivial⟩)
 ·exact ⟨0, .nil, by omega, rfl, rfl, Cel.nil _ _ _ _, rfl, rfl, rfl, rfl, rfl, rfl⟩
end Go.Proofs.YtjdbdmhjakfldaaGreat
end
section
namespace Go.Proofs.YtjdbdmhjakfldaaGreat
open Go.Bv
def NmQ (r : Rq) : Prop := valQ (rawOf r) = r
def atG (q : Tq) (l : List Int) : Rq := if offE q.shape l = 0 then q.el.getD (offN q.shape l).toNat q0 else intQ 0
def mvQ (q : Tq) (s : List Int) (g : List Int → List Int) : Tq := ⟨s, (List.range (prodL s).toNat).map fun i => atG q (g (idxL s (i : Nat)))⟩
theorem valQ_rawOf (r : Rq) : valQ (rawOf r) = normQ r.neg r.num r.den := by
 show normQ r.neg (lv 4294967296 (dg 4294967296 r.num)) (lv 4294967296 (dg 4294967296 r.den)) = _
 rw [lv_dg (by decide), lv_dg (by decide)]
theorem nm_int (a : Int) : NmQ (intQ a) := by
 rw [NmQ, valQ_rawOf]
 show normQ (decide (a < 0)) a.natAbs 1 = ⟨decide (a < 0), a.natAbs, 1⟩
 by_cases h : a = 0
 ·subst h; rfl
 ·rw [normQ, if_neg (by omega)]
  simp
theorem nm_val (x : Raw) : NmQ (valQ x) := by
 rw [NmQ, valQ_rawOf, valQ]
 generalize lv 4294967296 x.num = p
 generalize lv 4294967296 x.den = q
 by_cases h : p = 0 ∨ q = 0
 ·rw [normQ_zero h]; rfl
 ·have hg := gcd_pos' h
  have hc : Nat.gcd (p / Nat.gcd p q) (q / Nat.gcd p q) = 1 := Nat.coprime_div_gcd_div_gcd hg
  have h1 : 0 < p / Nat.gcd p q := Nat.div_pos (Nat.le_of_dvd (by omega) (Nat.gcd_dvd_left p q)) hg
  have h2 : 0 < q / Nat.gcd p q := Nat.div_pos (Nat.le_of_dvd (by omega) (Nat.gcd_dvd_right p q)) hg
  have e : normQ x.neg p q = ⟨x.neg, p / Nat.gcd p q, q / Nat.gcd p q⟩ := if_neg h
  rw [e]
  show normQ x.neg (p / Nat.gcd p q) (q / Nat.gcd p q) = _
  rw [normQ, if_neg (by omega), hc, Nat.div_one, Nat.div_one]
theorem mvT_back (q : Tq) (hn : ∀ r ∈ q.el, NmQ r) (he : (q.el.length : Int) = prodL q.shape) (s : List Int) (g : List Int → List Int) : mvT (tnBack q) s g = tnBack (mvQ q s g) := by
 show (⟨s, ((mvL (tnBack q) s g (prodL s).toNat).map valQ).map rawOf⟩ : Tn) = ⟨s, (mvQ q s g).el.map rawOf⟩
 congr 2
 show (mvL (tnBack q) s g (prodL s).toNat).map valQ = (List.range (prodL s).toNat).map fun i => atG q (g (idxL s (i : Nat)))
 rw [mvL, gatL, List.map_map]
 refine List.map_congr_left fun i _ => ?_
 simp only [Function.comp]
 by_cases h : isAt (tnBack q) (g (idxL s (i : Nat))) = true
 ·rw [if_pos h, if_pos h]
  have hz : offE q.shape (g (idxL s (i : Nat))) = 0 := of_decide_eq_true h
  obtain ⟨h1, h2, h3⟩ := offN_lt hz
  rw [atG, if_pos hz, pickT]
  obtain ⟨m, hm⟩ : ∃ m : Nat, offN q.shape (g (idxL s (i : Nat))) = m := ⟨(offN q.shape (g (idxL s (i : Nat)))).toNat, by omega⟩
  have hm' : m < q.el.length := by omega
  simp only [tnBack, hm, Int.toNat_natCast]
  have e1 : (q.el.map rawOf).getD m r0 = rawOf (q.el.getD m q0) := by simp [List.getD, hm']
  rw [e1]
  exact hn _ (by simp [List.getD, hm'])
 ·rw [if_neg h]
  have hz : ¬ offE q.shape (g (idxL s (i : Nat))) = 0 := fun e => h (decide_eq_true e)
  rw [atG, if_neg hz, zeroR]
  exact nm_int 0
def mvI (s0 l s : List Int) (g : List Int → List Int) : List Int := (List.range (prodL s).toNat).map fun i => if offE s0 (g (idxL s (i : Nat))) = 0 then l.getD (offN s0 (g (idxL s (i : Nat)))).toNat 0 else 0
theorem atG_whole (s0 l p : List Int) : atG (wholeQ s0 l) p = if offE s0 p = 0 then (l.map intQ).getD (offN s0 p).toNat q0 else intQ 0 := rfl
theorem mvT_whole (s0 l : List Int) (he : (l.length : Int) = prodL s0) (s : List Int) (g : List Int → List Int) : mvT (wholeT s0 l) s g = wholeT s (mvI s0 l s g) := by
 rw [wholeT, mvT_back (wholeQ s0 l) (fun r hr => by
  simp only [wholeQ, List.mem_map] at hr
  obtain ⟨a, _, rfl⟩ := hr
  exact nm_int a) (by simpa [wholeQ] using he), wholeT]
 congr 1
 show (⟨s, (List.range (prodL s).toNat).map fun i => atG (wholeQ s0 l) (g (idxL s (i : Nat)))⟩ : Tq) = ⟨s, (mvI s0 l s g).map intQ⟩
 congr 1
 rw [mvI, List.map_map]
 refine List.map_congr_left fun i _ => ?_
 simp only [Function.comp, atG_whole]
 by_cases hz : offE s0 (g (idxL s (i : Nat))) = 0
 ·rw [if_pos hz, if_pos hz]
  obtain ⟨h1, h2, h3⟩ := offN_lt hz
  have : (offN s0 (g (idxL s (i : Nat)))).toNat < l.length := by omega
  simp [List.getD, this]
 ·rw [if_neg hz, if_neg hz]
theorem mayT_whole (s l : List Int) (hm : mayP s = 0) (he : (l.length : Int) = prodL s) : mayT (wholeT s l) = 0 := by
 have hf : fitsT (wholeT s l) = 0 := by
  show (if mayP s ≠ 0 then mayP s else if (((l.map intQ).map rawOf).length : Int) ≠ countP s then 13 else 0) = 0
  have hc : countP s = prodL s := by rw [countP, if_pos hm]
  rw [hm, hc]; simp [he]
 rw [mayT, hf, if_neg (by decide), if_pos]
 rw [List.all_eq_true]
 intro x hx
 simp only [wholeT, wholeQ, tnBack, List.mem_map] at hx
 obtain ⟨_, ⟨a, _, rfl⟩, rfl⟩ := hx
 rw [okR, isQ_iff, nm_int a]
theorem whole_tn {s l : List Int} (hs : s.length ≤ 1000000) (hl : l.length ≤ 1000000) (hb : ∀ x ∈ l, -9223372036854775808 ≤ x ∧ x < 9223372036854775808) : TnOK (wholeT s l) := by
 refine ⟨show s.length ≤ 1000000000 by omega, by simp [wholeT, wholeQ, tnBack]; omega, fun x hx => ?_⟩
 simp only [wholeT, wholeQ, tnBack, List.mem_map] at hx
 obtain ⟨_, ⟨a, ha, rfl⟩, rfl⟩ := hx
 have := hb a ha
 have h1 : (dg B32 a.natAbs).length ≤ 2 := dg_len_lt (by decide) _ _ (Nat.lt_of_lt_of_le (show a.natAbs < 9223372036854775809 by omega) (by decide))
 have h2 : (dg B32 1).length ≤ 1 := dg_len_lt (by decide) _ _ (by decide)
 exact ⟨show (dg B32 a.natAbs).length ≤ _ by omega, show (dg B32 1).length ≤ _ by omega, dg_Lim _, dg_Lim _⟩
theorem same_refl (t : Tn) : sameT t t = true := by
 simp only [sameT, decide_true, Bool.true_and]
 rw [range_all]
 intro i _
 simp [sameQ]
end Go.Proofs.YtjdbdmhjakfldaaGreat
end
section
namespace Go.Proofs.YtjdbdmhjakfldaaGreat
open Go.Bv
theorem k1E : transE (wholeT [2, 3] [1, 2, 3, 4, 5, 6]) [1, 0] = 0 := by
 rw [transE, mayT_whole _ _ (by decide) (by decide)]
 rfl
theorem k1T : transT (wholeT [2, 3] [1, 2, 3, 4, 5, 6]) [1, 0] = wholeT [3, 2] [1, 4, 2, 5, 3, 6] := by
 rw [transT, errT_ok k1E, mvT_whole _ _ (by decide)]
 rfl
theorem k2E : sliceE (wholeT [2, 3] [1, 2, 3, 4, 5, 6]) [0, 1, 1, 3] = 0 := by
 rw [sliceE, mayT_whole _ _ (by decide) (by decide)]
 rfl
theorem k2T : sliceT (wholeT [2, 3] [1, 2, 3, 4, 5, 6]) [0, 1, 1, 3] = wholeT [1, 2] [2, 3] := by
 rw [sliceT, errT_ok k2E, mvT_whole _ _ (by decide)]
 rfl
theorem k3E : padE (wholeT [1, 2] [2, 3]) [0, 0, 1, 0] = 0 := by
 rw [padE, mayT_whole _ _ (by decide) (by decide)]
 rfl
theorem k3T : padT (wholeT [1, 2] [2, 3]) [0, 0, 1, 0] = wholeT [1, 3] [0, 2, 3] := by
 rw [padT, errT_ok k3E, mvT_whole _ _ (by decide)]
 rfl
theorem t1_val : Val C 13 [tnV (wholeT [2, 3] [1, 2, 3, 4, 5, 6]), .sl 2 [.int .i64 1, .int .i64 0]] (.tup [tnV (wholeT [3, 2] [1, 4, 2, 5, 3, 6]), .int .i64 0]) := by
 have h := transpose_val (wholeT [2, 3] [1, 2, 3, 4, 5, 6]) (whole_tn (by decide) (by decide) (by decide)) [1, 0] (by decide)
 rw [k1E, k1T] at h
 exact h
theorem t2_val : Val C 20 [tnV (wholeT [2, 3] [1, 2, 3, 4, 5, 6]), .sl 4 [.int .i64 0, .int .i64 1, .int .i64 1, .int .i64 3]] (.tup [tnV (wholeT [1, 2] [2, 3]), .int .i64 0]) := by
 have h := slice_val (wholeT [2, 3] [1, 2, 3, 4, 5, 6]) (whole_tn (by decide) (by decide) (by decide)) [0, 1, 1, 3] (by decide)
 rw [k2E, k2T] at h
 exact h
theorem t3_val : Val C 22 [tnV (wholeT [1, 2] [2, 3]), .sl 4 [.int .i64 0, .int .i64 0, .int .i64 1, .int .i64 0]] (.tup [tnV (wholeT [1, 3] [0, 2, 3]), .int .i64 0]) := by
 have h := pad_val (wholeT [1, 2] [2, 3]) (whole_tn (by decide) (by decide) (by decide)) [0, 0, 1, 0] (by decide)
 rw [k3E, k3T] at h
 exact h
theorem w_val (s l : List Int) (hs : s.length ≤ 1000000) (hl : l.length ≤ 1000000) (hb : ∀ x ∈ l, -9223372036854775808 ≤ x ∧ x < 9223372036854775808) : ∃ T, T = wholeT s l ∧ TnOK T ∧ Val C 49 [.sl s.length (ints s), .sl l.length (ints l)] (tnV T) := ⟨_, rfl, whole_tn hs hl hb, whole_val s l hs hl hb⟩
theorem known_spec : Pu C 19 [] (.bool true) := by
 obtain ⟨X, hX, tX, wX⟩ := w_val [2, 3] [1, 2, 3, 4, 5, 6] (by decide) (by decide) (by decide)
 obtain ⟨A, hA, tA, wA⟩ := w_val [3, 2] [1, 4, 2, 5, 3, 6] (by decide) (by decide) (by decide)
 obtain ⟨B, hB, tB, wB⟩ := w_val [1, 2] [2, 3] (by decide) (by decide) (by decide)
 obtain ⟨D, hD, tD, wD⟩ := w_val [1, 3] [0, 2, 3] (by decide) (by decide) (by decide)
 have h1 := t1_val
 have h2 := t2_val
 have h3 := t3_val
 rw [← hX, ← hA] at h1
 rw [← hX, ← hB] at h2
 rw [← hB, ← hD] at h3
 have sA := same07_spec A A tA tA
 have sB := same07_spec B B tB tB
 have sD := same07_spec D D tD tD
 rw [same_refl] at sA sB sD
 clear hX hA hB hD
 refine Fc.keep (Fc.bodyT mixed Tryz.func19 w19 rfl Tryz.ntmps19 Tryz.results19 (Nat.le_of_ble_eq_true rfl) ?_)
 (refine Go1.out ?_;repeat' ((with_reducible first|refine Go1.mk ?_|((first|apply Br.dec|apply Br.beq|apply Br.bne|apply Br.mk)<;>intro h))<;>try simp -implicitDefEqProofs (maxSteps:=9000000) (disch:=first|omega|(simp only [lens];omega)) only [go_sem]))
 refine wX.call ⟨.self rfl, .self rfl, trivial⟩ (clo_tnV _) ?_
 (refine Go1.out ?_;repeat' ((with_reducible first|refine Go1.mk ?_|((first|apply Br.dec|apply Br.beq|apply Br.bne|apply Br.mk)<;>intro h))<;>try simp -implicitDefEqProofs (maxSteps:=9000000) (disch:=first|omega|(simp only [lens];omega)) only [go_sem]))
 refine h1.call ⟨.self (clo_tnV _), .self rfl, trivial⟩ (by simp [clo, cloL, clo_tnV]) ?_
 (refine Go1.out ?_;repeat' ((with_reducible first|refine Go1.mk ?_|((first|apply Br.dec|apply Br.beq|apply Br.bne|apply Br.mk)<;>intro h))<;>try simp -implicitDefEqProofs (maxSteps:=9000000) (disch:=first|omega|(simp only [lens];omega)) only [go_sem]))
 refine h2.call ⟨.self (clo_tnV _), .self rfl, trivial⟩ (by simp [clo, cloL, clo_tnV]) ?_
 (refine Go1.out ?_;repeat' ((with_reducible first|refine Go1.mk ?_|((first|apply Br.dec|apply Br.beq|apply Br.bne|apply Br.mk)<;>intro h))<;>try simp -implicitDefEqProofs (maxSteps:=9000000) (disch:=first|omega|(simp only [lens];omega)) only [go_sem]))
 refine h3.call ⟨.self (clo_tnV _), .self rfl, trivial⟩ (by simp [clo, cloL, clo_tnV]) ?_
 (refine Go1.out ?_;repeat' ((with_reducible first|refine Go1.mk ?_|((first|apply Br.dec|apply Br.beq|apply Br.bne|apply Br.mk)<;>intro h))<;>try simp -implicitDefEqProofs (maxSteps:=9000000) (disch:=first|omega|(simp only [lens];omega)) only [go_sem]))
 refine wA.pc ⟨.self rfl, .self rfl, trivial⟩ (clo_tnV _) ?_
 (refine Go1.out ?_;repeat' ((with_reducible first|refine Go1.mk ?_|((first|apply Br.dec|apply Br.beq|apply Br.bne|apply Br.mk)<;>intro h))<;>try simp -implicitDefEqProofs (maxSteps:=9000000) (disch:=first|omega|(simp only [lens];omega)) only [go_sem]))
 refine Pc.pure sA (by simp [cloL, clo, cloL_ints, cloL_raws]) (fun g => rfl) ?_
 (refine Go1.out ?_;repeat' ((with_reducible first|refine Go1.mk ?_|((first|apply Br.dec|apply Br.beq|apply Br.bne|apply Br.mk)<;>intro h))<;>try simp -implicitDefEqProofs (maxSteps:=9000000) (disch:=first|omega|(simp only [lens];omega)) only [go_sem]))
 refine wB.pc ⟨.self rfl, .self rfl, trivial⟩ (clo_tnV _) ?_
 (refine Go1.out ?_;repeat' ((with_reducible first|refine Go1.mk ?_|((first|apply Br.dec|apply Br.beq|apply Br.bne|apply Br.mk)<;>intro h))<;>try simp -implicitDefEqProofs (maxSteps:=9000000) (disch:=first|omega|(simp only [lens];omega)) only [go_sem]))
 refine Pc.pure sB (by simp [cloL, clo, cloL_ints, cloL_raws]) (fun g => rfl) ?_
 (refine Go1.out ?_;repeat' ((with_reducible first|refine Go1.mk ?_|((first|apply Br.dec|apply Br.beq|apply Br.bne|apply Br.mk)<;>intro h))<;>try simp -implicitDefEqProofs (maxSteps:=9000000) (disch:=first|omega|(simp only [lens];omega)) only [go_sem]))
 refine wD.pc ⟨.self rfl, .self rfl, trivial⟩ (clo_tnV _) ?_
 (refine Go1.out ?_;repeat' ((with_reducible first|refine Go1.mk ?_|((first|apply Br.dec|apply Br.beq|apply Br.bne|apply Br.mk)<;>intro h))<;>try simp -implicitDefEqProofs (maxSteps:=9000000) (disch:=first|omega|(simp only [lens];omega)) only [go_sem]))
 refine Pc.pure sD (by simp [cloL, clo, cloL_ints, cloL_raws]) (fun g => rfl) ?_
 (refine Go1.out ?_;repeat' ((with_reducible first|refine Go1.mk ?_|((first|apply Br.dec|apply Br.beq|apply Br.bne|apply Br.mk)<;>intro h))<;>try simp -implicitDefEqProofs (maxSteps:=9000000) (disch:=first|omega|(simp only [lens];omega)) only [go_sem]))
 (refine keepP (by intro g; simp only [go_sem, ren, renL]) ?_)
 all_goals rfl
end Go.Proofs.YtjdbdmhjakfldaaGreat
end
section
namespace Go.Proofs.YtjdbdmhjakfldaaGreat
open Go.Bv
end Go.Proofs.YtjdbdmhjakfldaaGreat
end
section
namespace Go.Proofs.YtjdbdmhjakfldaaGreat
open Go.Bv
theorem rawOf_ok {x : Raw} (h : RawOK x) : RawOK (rawOf (valQ x)) := by
 obtain ⟨h1, h2⟩ := normQ_le x.neg (lv 4294967296 x.num) (lv 4294967296 x.den)
 have n1 := h.n1
 have d1 := h.d1
 refine ⟨?_, ?_, dg_Lim _, dg_Lim _⟩
 ·have := dg_len_lt (b := B32) (by decide) (valQ x).num x.num.length (Nat.lt_of_le_of_lt h1 (lv_lt32 h.nL))
  show (dg B32 (valQ x).num).length ≤ _
  omega
 ·show (dg B32 (valQ x).den).length ≤ _
  rcases h2 with h2 | h2
  ·have := dg_len_lt (b := B32) (by decide) (valQ x).den x.den.length (Nat.lt_of_le_of_lt h2 (lv_lt32 h.dL))
   omega
  ·have e : (valQ x).den = 1 := h2
   have : (dg B32 1).length ≤ 1 := dg_len_lt (by decide) _ _ (by decide)
   rw [e]; omega
theorem normT_ok {t : Tn} (ht : TnOK t) : TnOK (normT t) := ⟨ht.s, by simpa [normT] using ht.e, fun x hx => by
 simp only [normT, List.mem_map] at hx
 obtain ⟨_, ⟨a, ha, rfl⟩, rfl⟩ := hx
 exact rawOf_ok (ht.r a ha)⟩
theorem emptyT_ok : TnOK emptyT := ⟨by decide, by decide, fun x hx => by simp [emptyT] at hx⟩
theorem errT_TnOK {p : Tn} {e : Int} (h : e = 0 → TnOK p) : TnOK (errT p e) := by
 by_cases he : e = 0
 ·rw [errT_ok he]; exact h he
 ·rw [errT_no he]; exact emptyT_ok
theorem mayT_cases (t : Tn) : mayT t = 0 ∨ mayT t = 6 ∨ mayT t = 11 ∨ mayT t = 13 ∨ mayT t = 14 := by
 have := mayP_cases t.shape
 unfold mayT fitsT
 split <;> (try split) <;> (try split) <;> (try split) <;> omega
end Go.Proofs.YtjdbdmhjakfldaaGreat
end
section
namespace Go.Proofs.YtjdbdmhjakfldaaGreat
open Go.Bv
def atQ (q : Tq) (l : List Int) : Rq := if inB q.shape l = true then q.el.getD (offP q.shape l q.shape.length).toNat q0 else intQ 0
end Go.Proofs.YtjdbdmhjakfldaaGreat
end
section
namespace Go.Proofs.YtjdbdmhjakfldaaGreat
open Go.Bv
structure FitQ (q : Tq) : Prop where
 ok : TqOK q
 m : mayP q.shape = 0
 l : (q.el.length : Int) = prodL q.shape
theorem Fc.ownF {C : Ctx} {f : FuncId} {args args' : List V} {H : Heap} {K : V → Heap → Prop} {e s n : Nat} {cs : List V} (h : Fc C f args' [] fun v H => Ret e s H v n cs) (hb : BorL H args args') (hc : ∀ g, renL g cs = cs) (hp : plainL cs = true) (hK : ∀ v X, Bv.Own e s (H ++ X) v n cs → (∀ r off m, v = .ref r off m → H.length ≤ r) → K v (H ++ X)) : Fc C f args H K :=
 h.borrow hb.all.1 hb.all.2 (fun v H' hv => hv.plain hp) fun v H' hv => hK _ _ (hv.own hc) (by
  rcases hv with ⟨rfl, _⟩ | ⟨rfl, _⟩
  ·intro r off m e; cases e
  ·intro r off m e
   simp only [ren, shift, Option.map_some, Option.some.injEq] at e
   injection e with e
   omega)
end Go.Proofs.YtjdbdmhjakfldaaGreat
end
section
namespace Go.Proofs.YtjdbdmhjakfldaaGreat
open Go.Bv
theorem back_of {t : Tn} (hm : mayT t = 0) : tnBack (tnOf t) = t := by
 have hf := (mayT_zero hm).1
 rw [mayT, if_neg (by omega)] at hm
 have ha : t.el.all okR = true := by
  cases h : t.el.all okR with
  | true => rfl
  | false => rw [h] at hm; simp at hm
 obtain ⟨s, el⟩ := t
 show (⟨s, (el.map valQ).map rawOf⟩ : Tn) = ⟨s, el⟩
 congr 1
 rw [List.map_map]
 exact (List.map_congr_left fun x hx => (isQ_iff.1 (List.all_eq_true.1 ha x hx)).symm).trans (List.map_id _)
theorem atG_atQ (q : Tq) (hm : mayP q.shape = 0) (l : List Int) (hl : l.length = q.shape.length) : atG q l = atQ q l := by
 rw [atG, atQ]
 cases hb : inB q.shape l with
 | true =>
  have hz : offE q.shape l = 0 := by rw [offE, if_neg (by omega), if_neg (by omega), if_pos hb]
  rw [if_pos hz, if_pos rfl, offN, if_pos hz]
 | false =>
  have hz : ¬ offE q.shape l = 0 := by rw [offE, if_neg (by omega), if_neg (by omega), if_neg (by rw [hb]; decide)]; decide
  rw [if_neg hz, if_neg (by decide)]
end Go.Proofs.YtjdbdmhjakfldaaGreat
end
section
namespace Go.Proofs.YtjdbdmhjakfldaaGreat
open Go.Bv
def tnsC (ts : List Tn) : List V := ts.flatMap fun t => [.sl t.shape.length (ints t.shape), .sl t.el.length (rawsC t.el)]
def t0n : Tn := ⟨[], []⟩
@[go_sem] theorem tnsC_len (ts : List Tn) : (tnsC ts).length = ts.length * 2 := by
 induction ts with
 | nil => rfl
 | cons t ts ih => simp only [tnsC, List.flatMap_cons, List.length_append, List.length_cons, List.length_nil] at ih ⊢; rw [ih]; omega
theorem tnsC_cons (t : Tn) (ts : List Tn) : tnsC (t :: ts) = .sl t.shape.length (ints t.shape) :: .sl t.el.length (rawsC t.el) :: tnsC ts := rfl
theorem nth_tns : ∀ (ts : List Tn) (i : Nat), i < ts.length → nth (tnsC ts) (i * 2) = .sl (ts.getD i t0n).shape.length (ints (ts.getD i t0n).shape) ∧ nth (tnsC ts) (i * 2 + 1) = .sl (ts.getD i t0n).el.length (rawsC (ts.getD i t0n).el)
 | [], i, h => by simp at h
 | t :: ts, 0, _ => ⟨rfl, rfl⟩
 | t :: ts, i + 1, h => by
  have := nth_tns ts i (by simpa using h)
  rw [tnsC_cons, show (i + 1) * 2 = i * 2 + 1 + 1 by omega]
  simpa [nth] using this
@[go_sem] theorem nth_tns0 (ts : List Tn) (i : Nat) (h : i < ts.length) : nth (tnsC ts) (i * 2) = .sl (ts.getD i t0n).shape.length (ints (ts.getD i t0n).shape) := (nth_tns ts i h).1
@[go_sem] theorem nth_tns1 (ts : List Tn) (i : Nat) (h : i < ts.length) : nth (tnsC ts) (i * 2 + 1) = .sl (ts.getD i t0n).el.length (rawsC (ts.getD i t0n).el) := (nth_tns ts i h).2
theorem cloL_tns (ts : List Tn) : cloL (tnsC ts) = true := by
 induction ts with
 | nil => rfl
 | cons t ts ih => rw [tnsC_cons]; simp [cloL, clo, cloL_ints, cloL_raws, ih]
def catR : List Tn → Nat → List Int → Raw × Bool
 | [], _, _ => (r0, false)
 | t :: ts, a, x => if offE t.shape x = 0 then (pickT t x, true) else catR ts a (x.set a (x.getD a 0 - t.shape.getD a 0))
def catX : List Tn → Nat → List Int → Nat → List Int
 | ts, a, x, 0 => x
 | ts, a, x, k + 1 => (catX ts a x k).set a ((catX ts a x k).getD a 0 - (ts.getD k t0n).shape.getD a 0)
theorem catX_len (ts : List Tn) (a : Nat) (x : List Int) (k : Nat) : (catX ts a x k).length = x.length := by
 induction k with
 | zero => rfl
 | succ k ih => rw [catX, List.length_set, ih]
theorem catX_lo (ts : List Tn) (a : Nat) (x : List Int) (hs : ∀ j, j < ts.length → 0 ≤ (ts.getD j t0n).shape.getD a 0 ∧ (ts.getD j t0n).shape.getD a 0 ≤ 1024) (ha : a < x.length) : ∀ k : Nat, k ≤ ts.length → x.getD a 0 - 1024 * k ≤ (catX ts a x k).getD a 0 ∧ (catX ts a x k).getD a 0 ≤ x.getD a 0
 | 0, _ => by simp [catX]
 | k + 1, h => by
  have ih := catX_lo ts a x hs ha k (by omega)
  have h1 := hs k (by omega)
  have hl := catX_len ts a x k
  have e : (catX ts a x (k + 1)).getD a 0 = (catX ts a x k).getD a 0 - (ts.getD k t0n).shape.getD a 0 := by
   rw [catX]; simp [List.getD, show a < (catX ts a x k).length by omega]
  rw [e]; omega
theorem catR_step (ts : List Tn) (a : Nat) (x : List Int) (k : Nat) (h : k < ts.length) (hn : ∀ j, j < k → offE (ts.getD j t0n).shape (catX ts a x j) ≠ 0) : catR ts a x = catR (ts.drop k) a (catX ts a x k) := by
 induction k with
 | zero => rfl
 | succ k ih =>
  rw [ih (by omega) fun j hj => hn j (by omega)]
  have e : ts.drop k = ts.getD k t0n :: ts.drop (k + 1) := by
   rw [List.drop_eq_getElem_cons (by omega)]; simp [List.getD, show k < ts.length by omega]
  rw [e, catR, if_neg (hn k (by omega))]
  rfl
theorem catR_none (ts : List Tn) (a : Nat) (x : List Int) (hn : ∀ j, j < ts.length → offE (ts.getD j t0n).shape (catX ts a x j) ≠ 0) : catR ts a x = (r0, false) := by
 by_cases h : ts.length = 0
 ·rw [List.eq_nil_of_length_eq_zero h]; rfl
 ·obtain ⟨k, hk⟩ : ∃ k, ts.length = k + 1 := ⟨ts.length - 1, by omega⟩
  rw [catR_step ts a x k (by omega) fun j hj => hn j (by omega)]
  have e : ts.drop k = [ts.getD k t0n] := by
   rw [List.drop_eq_getElem_cons (by omega), List.drop_of_length_le (by omega)]; simp [List.getD, show k < ts.length by omega]
  rw [e, catR, if_neg (hn k (by omega))]
  rfl
theorem cat1_spec (tl : List Tn) (a : Nat) (x : List Int) (hts : tl.length ≤ 1048576) (hok : ∀ j, j < tl.length → TnOK (tl.getD j t0n) ∧ fitsT (tl.getD j t0n) = 0 ∧ (tl.getD j t0n).shape.length = x.length) (ha : a < x.length) (hx : x.length ≤ 1000) (hb : 0 ≤ x.getD a 0 ∧ x.getD a 0 ≤ 1024) :
  Pu C 67 [.sl x.length (ints x), .rp [.sl tl.length (tnsC tl)] 0, .rp [.int .i64 (a : Nat)] 0] (.tup [rawV (catR tl a x).1, .bool (catR tl a x).2]) := by
 refine Pu.ofBor (by simp [clo, cloL, clo_rawV]) ?_
 refine Fc.bodyT mixed Tryz.func67 w67 rfl Tryz.ntmps67 Tryz.results67 (Nat.le_of_ble_eq_true rfl) ?_
 (refine Go1.out ?_;repeat' ((with_reducible first|refine Go1.mk ?_|((first|apply Br.dec|apply Br.beq|apply Br.bne|apply Br.mk)<;>intro h))<;>try simp -implicitDefEqProofs (maxSteps:=9000000) (disch:=first|omega|(simp only [lens];omega)) only [go_sem]))
 refine Fc.ownL (CloneI_spec x (by omega)) ⟨.self (by simp [clo, cloL_ints]), trivial⟩ (fun g => renL_ints g _) (plainL_ints _) fun v X hv0 => ?_
 obtain ⟨-, h0', -⟩ | ⟨r, rfl, hr0, -⟩ := hv0
 ·omega
 have hr1 : r ≠ 0 := by rintro rfl; simp [rowOf] at hr0
 (refine Go1.out ?_;repeat' ((with_reducible first|refine Go1.mk ?_|((first|apply Br.dec|apply Br.beq|apply Br.bne|apply Br.mk)<;>intro h))<;>try simp -implicitDefEqProofs (maxSteps:=9000000) (disch:=first|omega|(simp only [lens];omega)) only [go_sem]))
 refine TT_loop_inv (fun n ts H => ∃ (k : Nat), (k ≤ tl.length) ∧ ((∀ j, j < k → offE (tl.getD j t0n).shape (catX tl a x j) ≠ 0)) ∧ (n = tl.length - k) ∧ (rowOf H 0 = some ⟨58, 3, [.bool false, .nil, .nil]⟩) ∧ (rowOf H r = some ⟨3, 1, ints (catX tl a x k)⟩) ∧ ts.length = 46 ∧ nth ts 1 = .rp [.sl tl.length (tnsC tl)] 0 ∧ nth ts 2 = .rp [.int .i64 (a : Nat)] 0 ∧ nth ts 4 = .ptr 0 0 ∧ nth ts 6 = .ref r 0 x.length ∧ nth ts 13 = .sl tl.length (tnsC tl) ∧ nth ts 14 = .int .i64 tl.length ∧ nth ts 15 = .int .i64 (k : Nat)) ?_ (n := tl.length) ?_
 ·skip
  rintro n ts H ⟨k, hk, hno, hn, h0, hr, hL, hs1, hs2, hs4, hs6, hs13, hs14, hs15⟩
  refine TT_env [(1, .rp [.sl tl.length (tnsC tl)] 0), (2, .rp [.int .i64 (a : Nat)] 0), (4, .ptr 0 0), (6, .ref r 0 x.length), (13, .sl tl.length (tnsC tl)), (14, .int .i64 tl.length), (15, .int .i64 (k : Nat))] hL (by simp only [List.forall_mem_cons, hs1, hs2, hs4, hs6, hs13, hs14, hs15, true_and]; exact fun _ h => nomatch h) ?_
  clear hL hs1 hs2 hs4 hs6 hs13 hs14 hs15 ts
  refine TT_of mixed ?_
  by_cases hkl : k < tl.length
  ·obtain ⟨hT, hfT, hlT⟩ := hok k hkl
   have hlo := catX_lo tl a x (fun j hj => by
    obtain ⟨h1, h2, h3⟩ := hok j hj
    have hm : mayP (tl.getD j t0n).shape = 0 := Classical.byContradiction fun hn => by rw [fitsT, if_pos hn] at h2; exact hn h2
    obtain ⟨m1, m2, m3⟩ := mayP_zero hm
    have h4 := getD_pos m2 (i := a) (by omega)
    have h5 := getD_le_prodL m2 (i := a) (by omega)
    omega) ha k (by omega)
   have hmT : mayP (tl.getD k t0n).shape = 0 := Classical.byContradiction fun hn => by rw [fitsT, if_pos hn] at hfT; exact hn hfT
   obtain ⟨m1, m2, m3⟩ := mayP_zero hmT
   have h4 := getD_pos m2 (i := a) (by omega)
   have h5 := getD_le_prodL m2 (i := a) (by omega)
   have hzl := catX_len tl a x k
   have hst := catR_step tl a x k hkl hno
   have hdr : tl.drop k = tl.getD k t0n :: tl.drop (k + 1) := by
    rw [List.drop_eq_getElem_cons (by omega)]; simp [List.getD, show k < tl.length by omega]
   have hnx : (catX tl a x k).set a ((catX tl a x k).getD a 0 - (tl.getD k t0n).shape.getD a 0) = catX tl a x (k + 1) := rfl
   have hofs := offset_spec (tl.getD k t0n).shape (catX tl a x k) (by omega) (by omega)
   generalize hz : catX tl a x k = z at *
   generalize hTT : tl.getD k t0n = T at *
   have a0 : ∀ Y, rowOf (H ++ Y) 0 = some ⟨58, 3, [.bool false, .nil, .nil]⟩ := fun Y => rowOf_keep h0 Y
   have ar : ∀ Y, rowOf (H ++ Y) r = some ⟨3, 1, ints z⟩ := fun Y => rowOf_keep hr Y
   have hw : ∀ Y, Bv.Own 3 1 (H ++ Y) (.ref r 0 x.length) z.length (ints z) := fun Y => by rw [hzl]; exact .inr ⟨r, rfl, ar Y, by rw [ints_length]; omega⟩
   (refine Go1.out ?_;repeat' ((with_reducible first|refine Go1.mk ?_|((first|apply Br.dec|apply Br.beq|apply Br.bne|apply Br.mk)<;>intro h))<;>try simp -implicitDefEqProofs (maxSteps:=9000000) (disch:=first|omega|(simp only [lens];omega)) only [go_sem, hTT]))
   refine (Val.ofPu hofs rfl rfl).call ⟨.self (by simp [clo, cloL_ints]), (hw _).bor' (cloL_ints _), trivial⟩ rfl ?_
   by_cases hoff : offE T.shape z = 0
   ·obtain ⟨o1, o2, o3⟩ := offN_lt hoff
    have hel : (T.el.length : Int) = prodL T.shape := by
     rw [fitsT, if_neg (by omega)] at hfT
     split at hfT
     ·cases hfT
     ·rename_i h; rw [countP, if_pos o3] at h; omega
    obtain ⟨m, hm⟩ : ∃ m : Nat, offN T.shape z = m := ⟨(offN T.shape z).toNat, by omega⟩
    have hlt : m < T.el.length := by omega
    have hcr : catR tl a x = (T.el.getD m r0, true) := by rw [hst, hdr, catR, if_pos hoff, pickT, hm]; rfl
    rw [hcr, hoff, hm]
    have hst0 : ∀ Y (z : Row), rowOf ((H ++ Y).set 0 (some z)) 0 = some z := fun Y z => rowOf_set_eq (a0 Y)
    (refine Go1.out ?_;repeat' ((with_reducible first|refine Go1.mk ?_|((first|apply Br.dec|apply Br.beq|apply Br.bne|apply Br.mk)<;>intro h))<;>try simp -implicitDefEqProofs (maxSteps:=9000000) (disch:=first|omega|(simp only [lens];omega)) only [go_sem, a0, hst0]))
    exact .self (by simp [clo, cloL, cloL_nats])
   ·skip
    (refine Go1.out ?_;repeat' ((with_reducible first|refine Go1.mk ?_|((first|apply Br.dec|apply Br.beq|apply Br.bne|apply Br.mk)<;>intro h))<;>try simp -implicitDefEqProofs (maxSteps:=9000000) (disch:=first|omega|(simp only [lens];omega)) only [go_sem, ar, upd_ints, hnx]))
    exact ⟨tl.length - (k + 1), by omega, k + 1, by omega, allS hno (by rw [hTT, hz]; exact hoff), rfl, by rw [rowOf_set_ne _ hr1]; exact a0 _, rowOf_set_eq (ar _), (by (repeat' apply And.intro) <;> (first | rfl | omega | (congr 1; omega) | assumption | (congr 1; assumption)))⟩
  ·have hks : k = tl.length := by omega
   subst hks
   have hcr := catR_none tl a x hno
   rw [hcr]
   have hst : ∀ z : Row, rowOf (H.set 0 (some z)) 0 = some z := fun z => rowOf_set_eq h0
   (refine Go1.out ?_;repeat' ((with_reducible first|refine Go1.mk ?_|((first|apply Br.dec|apply Br.beq|apply Br.bne|apply Br.mk)<;>intro h))<;>try simp -implicitDefEqProofs (maxSteps:=9000000) (disch:=first|omega|(simp only [lens];omega)) only [go_sem, h0, hst]))
   exact Bor.tupL ⟨Bor.aggL ⟨.self rfl, .nil _, .nil _, trivial⟩, .self rfl, trivial⟩
 ·exact ⟨0, by omega, fun j hj => by omega, rfl, rfl, hr0, rfl, rfl, rfl, rfl, rfl, rfl, rfl, rfl⟩
end Go.Proofs.YtjdbdmhjakfldaaGreat
end
section
namespace Go.Proofs.YtjdbdmhjakfldaaGreat
open Go.Bv
theorem gatherA_spec (s : List Int) (f : Nat) (caps : List V) (p : Nat → Raw) (N : Nat) (hs : s.length ≤ 1000000000) (hm : mayP s = 0) (hN : (N : Int) = prodL s) (hc : cloL caps = true)
  (hp : ∀ i, i < N → Pu C f (.sl (idxL s (i : Nat)).length (ints (idxL s (i : Nat))) :: caps) (.tup [rawV (p i), .bool true])) :
  Pu C 66 [.sl s.length (ints s), .agg [.bool false, .nil, .nil], .fn (.func f) [] caps] (.sl N (rawsC (gatL N r0 p (fun _ => true)))) := by
 obtain ⟨m1, m2, m3⟩ := mayP_zero hm
 have hct : countP s = (N : Int) := by rw [countP, if_pos hm, hN]
 refine Fc.valO (e := 58) (s := 3) ?_ (cloL_raws _)
 refine Fc.keep (Fc.bodyT mixed Tryz.func66 w66 rfl Tryz.ntmps66 Tryz.results66 (Nat.le_of_ble_eq_true rfl) ?_)
 (refine Go1.out ?_;repeat' ((with_reducible first|refine Go1.mk ?_|((first|apply Br.dec|apply Br.beq|apply Br.bne|apply Br.mk)<;>intro h))<;>try simp -implicitDefEqProofs (maxSteps:=9000000) (disch:=first|omega|(simp only [lens];omega)) only [go_sem]))
 refine Fc.pure (Count_spec s (by omega)) (by simp [go_sem, cloL, clo, cloL_ints, cloL_intss]) (by intro g; simp only [go_sem, ren, renL]) ?_
 rw [hct]
 (refine Go1.out ?_;repeat' ((with_reducible first|refine Go1.mk ?_|((first|apply Br.dec|apply Br.beq|apply Br.bne|apply Br.mk)<;>intro h))<;>try simp -implicitDefEqProofs (maxSteps:=9000000) (disch:=first|omega|(simp only [lens];omega)) only [go_sem]))
 refine TT_loop_inv (fun n ts H => ∃ (i : Nat) (u : V), (i ≤ N) ∧ (n = N - i) ∧ (rowOf H 0 = some ⟨58, 3, [.bool false, .nil, .nil]⟩) ∧ (Bv.Own 58 3 H u i (rawsC (gatL i r0 p (fun _ => true)))) ∧ ((∀ r off m, u = .ref r off m → 1 ≤ r)) ∧ ts.length = 39 ∧ nth ts 0 = .sl s.length (ints s) ∧ nth ts 2 = .fn (.func f) [] caps ∧ nth ts 4 = .ptr 0 0 ∧ nth ts 7 = u ∧ nth ts 14 = .int .i64 (N : Nat) ∧ nth ts 15 = .int .i64 (i : Nat)) ?_ (n := N) ?_
 ·skip
  rintro n ts H ⟨i, u, hi, hn, h0, hu, hr, hL, hs0, hs2, hs4, hs7, hs14, hs15⟩
  refine TT_env [(0, .sl s.length (ints s)), (2, .fn (.func f) [] caps), (4, .ptr 0 0), (7, u), (14, .int .i64 (N : Nat)), (15, .int .i64 (i : Nat))] hL (by simp only [List.forall_mem_cons, hs0, hs2, hs4, hs7, hs14, hs15, true_and]; exact fun _ h => nomatch h) ?_
  clear hL hs0 hs2 hs4 hs7 hs14 hs15 ts
  refine TT_of mixed ?_
  by_cases hcase : i < N
  ·skip
   (refine Go1.out ?_;repeat' ((with_reducible first|refine Go1.mk ?_|((first|apply Br.dec|apply Br.beq|apply Br.bne|apply Br.mk)<;>intro h))<;>try simp -implicitDefEqProofs (maxSteps:=9000000) (disch:=first|omega|(simp only [lens];omega)) only [go_sem]))
   refine (index_val s (i : Nat) hs hm (by omega) (by omega)).call ⟨.self (by simp [clo, cloL_ints]), .self rfl, trivial⟩ (by simp [clo, cloL, cloL_ints]) ?_
   (refine Go1.out ?_;repeat' ((with_reducible first|refine Go1.mk ?_|((first|apply Br.dec|apply Br.beq|apply Br.bne|apply Br.mk)<;>intro h))<;>try simp -implicitDefEqProofs (maxSteps:=9000000) (disch:=first|omega|(simp only [lens];omega)) only [go_sem]))
   refine Fc.pure (hp i hcase) (by simp [cloL, clo, cloL_ints, hc]) (fun g => by simp [ren, renL, rawV, NA, renL_nats]) ?_
   have hkeep : ∀ X, rowOf (H ++ X) 0 = some ⟨58, 3, [.bool false, .nil, .nil]⟩ := fun X => rowOf_keep h0 X
   have hlen := rowOf_lt h0
   (refine Go1.out ?_;repeat' ((with_reducible first|refine Go1.mk ?_|((first|apply Br.dec|apply Br.beq|apply Br.bne|apply Br.mk)<;>intro h))<;>try simp -implicitDefEqProofs (maxSteps:=9000000) (disch:=first|omega|(simp only [lens];omega)) only [go_sem, hkeep]))
   refine push_raw hu rfl rfl (by omega) fun v' H' hu' hk hr' => ?_
   have h0' := hk 0 _ (fun off m e => by have := hr _ _ _ e; omega) h0
   have hg : rawsC (gatL (i + 1) r0 p (fun _ => true)) = rawsC (gatL i r0 p (fun _ => true) ++ [p i]) := by rw [gatL_succ]; rfl
   rw [← hg] at hu'
   (refine Go1.out ?_;repeat' ((with_reducible first|refine Go1.mk ?_|((first|apply Br.dec|apply Br.beq|apply Br.bne|apply Br.mk)<;>intro h))<;>try simp -implicitDefEqProofs (maxSteps:=9000000) (disch:=first|omega|(simp only [lens];omega)) only [go_sem]))
   exact ⟨N - (i + 1), by omega, i + 1, v', (by (repeat' apply And.intro) <;> (first | rfl | omega | (congr 1; omega) | assumption | (congr 1; assumption)))⟩
  ·skip
   (refine Go1.out ?_;repeat' ((with_reducible first|refine Go1.mk ?_|((first|apply Br.dec|apply Br.beq|apply Br.bne|apply Br.mk)<;>intro h))<;>try simp -implicitDefEqProofs (maxSteps:=9000000) (disch:=first|omega|(simp only [lens];omega)) only [go_sem]))
   have : i = N := by omega
   subst this
   exact Own.ret hu (fun g => renL_clo _ _ (cloL_raws _)) fun v H h => h
 ·exact ⟨0, .nil, by omega, rfl, rfl, .inl ⟨rfl, rfl, rfl⟩, (fun r off m e => nomatch e), rfl, rfl, rfl, rfl, rfl, rfl, rfl⟩
theorem catR_found : ∀ (tl : List Tn) (a : Nat) (x : List Int) (n : Nat), x.length = n → a < n → (∀ j, j < tl.length → mayP (tl.getD j t0n).shape = 0 ∧ (tl.getD j t0n).shape.length = n) → (∀ j, j < tl.length → ∀ i, i < n → i ≠ a → 0 ≤ x.getD i 0 ∧ x.getD i 0 < (tl.getD j t0n).shape.getD i 0) → 0 ≤ x.getD a 0 → x.getD a 0 < (tl.map fun t => t.shape.getD a 0).foldr (· + ·) 0 → (catR tl a x).2 = true
 | [], a, x, n, hx, ha, hm, hi, h0, h1 => by simp only [List.map_nil, List.foldr_nil] at h1; omega
 | t :: tl, a, x, n, hx, ha, hm, hi, h0, h1 => by
  rw [catR]
  by_cases hz : offE t.shape x = 0
  ·rw [if_pos hz]
  ·rw [if_neg hz]
   have e0 : (t :: tl).getD 0 t0n = t := rfl
   obtain ⟨hm0, hl0⟩ := hm 0 (by simp)
   rw [e0] at hm0 hl0
   have hge : t.shape.getD a 0 ≤ x.getD a 0 := by
    refine Int.not_lt.1 fun hlt => hz ?_
    rw [offE, if_neg (by omega), if_neg (by omega), if_pos]
    refine inB_iff.2 fun i hi' => ?_
    by_cases hia : i = a
    ·subst hia; exact ⟨h0, hlt⟩
    ·have := hi 0 (by simp) i (by omega) hia
     rwa [e0] at this
   have hg : ∀ i, (x.set a (x.getD a 0 - t.shape.getD a 0)).getD i 0 = if i = a then x.getD a 0 - t.shape.getD a 0 else x.getD i 0 := fun i => by
    by_cases hia : i = a
    ·subst hia; simp [List.getD, hx, ha]
    ·rw [if_neg hia]; simp [List.getD, Ne.symm hia]
   refine catR_found tl a _ n (by simp [hx]) ha (fun j hj => by have := hm (j + 1) (by simpa using hj); simpa using this) (fun j hj i hi' hia => ?_) ?_ ?_
   ·rw [hg, if_neg hia]
    have := hi (j + 1) (by simpa using hj) i hi' hia
    simpa using this
   ·rw [hg, if_pos rfl]; omega
   ·rw [hg, if_pos rfl]
    simp only [List.map_cons, List.foldr_cons] at h1
    omega
end Go.Proofs.YtjdbdmhjakfldaaGreat
end
section
namespace Go.Proofs.YtjdbdmhjakfldaaGreat
open Go.Bv
def firstM : List Tn → Int
 | [] => 0
 | t :: tl => if mayT t ≠ 0 then mayT t else firstM tl
theorem firstM_at {tl : List Tn} {k : Nat} (hk : k < tl.length) (h : ∀ j, j < k → mayT (tl.getD j t0n) = 0) (hm : mayT (tl.getD k t0n) ≠ 0) : firstM tl = mayT (tl.getD k t0n) := by
 induction tl generalizing k with
 | nil => simp at hk
 | cons t tl ih =>
  cases k with
  | zero =>
   have e : (t :: tl).getD 0 t0n = t := rfl
   rw [e] at hm ⊢
   rw [firstM, if_pos hm]
  | succ k =>
   have e : (t :: tl).getD (k + 1) t0n = tl.getD k t0n := by simp
   have h0 := h 0 (by omega)
   have e0 : (t :: tl).getD 0 t0n = t := rfl
   rw [e0] at h0
   rw [e] at hm ⊢
   rw [firstM, if_neg (by omega)]
   exact ih (by simpa using hk) (fun j hj => by have := h (j + 1) (by omega); simpa using this) hm
theorem firstM_zero {tl : List Tn} : firstM tl = 0 ↔ ∀ j, j < tl.length → mayT (tl.getD j t0n) = 0 := by
 induction tl with
 | nil => simp [firstM]
 | cons t tl ih =>
  rw [firstM]
  by_cases hm : mayT t ≠ 0
  ·rw [if_pos hm]
   exact ⟨fun h => absurd h hm, fun h => by have := h 0 (by simp); simpa using this⟩
  ·rw [if_neg hm, ih]
   constructor
   ·intro h j hj
    cases j with
    | zero => simpa using (by omega : mayT t = 0)
    | succ j => have := h j (by simpa using hj); simpa using this
   ·intro h j hj
    have := h (j + 1) (by simpa using hj); simpa using this
def sumK (tl : List Tn) (a : Nat) : Nat → Int
 | 0 => 0
 | k + 1 => sumK tl a k + (tl.getD k t0n).shape.getD a 0
def catS (tl : List Tn) (a : Nat) (k : Nat) : List Int := ((tl.getD 0 t0n).shape).set a (sumK tl a k)
def fitA (tl : List Tn) (a : Nat) (k : Nat) : Bool := decide ((tl.getD k t0n).shape.length = (tl.getD 0 t0n).shape.length) && (List.range (tl.getD 0 t0n).shape.length).all fun i => decide (i ≠ a → (tl.getD k t0n).shape.getD i 0 = (tl.getD 0 t0n).shape.getD i 0)
def catE (tl : List Tn) (axis : Int) : Int :=
 if tl.length = 0 then 2 else if firstM tl ≠ 0 then firstM tl
 else if ¬ (0 ≤ axis ∧ axis < (tl.getD 0 t0n).shape.length) then 11
 else if ¬ (∀ k, k < tl.length → fitA tl axis.toNat k = true) then 13
 else if ¬ (∀ k, k < tl.length → mayP (catS tl axis.toNat (k + 1)) = 0) then 14 else 0
def catL (tl : List Tn) (a : Nat) (S : List Int) (N : Nat) : List Raw := gatL N r0 (fun i => (catR tl a (idxL S (i : Nat))).1) (fun i => (catR tl a (idxL S (i : Nat))).2)
def catT (tl : List Tn) (axis : Int) : Tn := errT (normT ⟨catS tl axis.toNat tl.length, catL tl axis.toNat (catS tl axis.toNat tl.length) (prodL (catS tl axis.toNat tl.length)).toNat⟩) (catE tl axis)
theorem sumK_le {tl : List Tn} {a : Nat} (h : ∀ j, j < tl.length → 1 ≤ (tl.getD j t0n).shape.getD a 0 ∧ (tl.getD j t0n).shape.getD a 0 ≤ 1024) : ∀ k : Nat, k ≤ tl.length → (k : Int) ≤ sumK tl a k ∧ sumK tl a k ≤ 1024 * k
 | 0, _ => by simp [sumK]
 | k + 1, hk => by
  have ih := sumK_le h k (by omega)
  have := h k (by omega)
  rw [sumK]; omega
theorem catS_len (tl : List Tn) (a k : Nat) : (catS tl a k).length = (tl.getD 0 t0n).shape.length := by simp [catS]
theorem catS_next (tl : List Tn) (a k : Nat) : (catS tl a k).set a (sumK tl a k + (tl.getD k t0n).shape.getD a 0) = catS tl a (k + 1) := by rw [catS, catS, List.set_set, sumK]
theorem catS_get {tl : List Tn} {a : Nat} (h : a < (tl.getD 0 t0n).shape.length) (k : Nat) : (catS tl a k).getD a 0 = sumK tl a k := by
 rw [catS]
 generalize (tl.getD 0 t0n).shape = S at *
 simp [List.getD, h]
theorem catR_ok : ∀ (tl : List Tn) (a : Nat) (x : List Int), (∀ j, j < tl.length → TnOK (tl.getD j t0n) ∧ fitsT (tl.getD j t0n) = 0) → (catR tl a x).2 = true → RawOK (catR tl a x).1
 | [], a, x, h, hb => by simp [catR] at hb
 | t :: tl, a, x, h, hb => by
  rw [catR] at hb ⊢
  by_cases hz : offE t.shape x = 0
  ·rw [if_pos hz]
   have := h 0 (by simp)
   exact pick_ok (t := t) this.1 this.2 (by simp [isAt, hz])
  ·rw [if_neg hz] at hb ⊢
   exact catR_ok tl a _ (fun j hj => by have := h (j + 1) (by simpa using hj); simpa using this) hb
theorem fold_app (x : Int) : ∀ l : List Int, (l ++ [x]).foldr (· + ·) 0 = l.foldr (· + ·) 0 + x
 | [] => by simp
 | a :: l => by simp only [List.cons_append, List.foldr_cons, fold_app x l]; omega
theorem sumK_fold (tl : List Tn) (a : Nat) : ∀ k : Nat, k ≤ tl.length → ((tl.take k).map fun t => t.shape.getD a 0).foldr (· + ·) 0 = sumK tl a k
 | 0, _ => by simp [sumK]
 | k + 1, hk => by
  rw [take_snoc tl t0n (by omega), List.map_append, List.map_cons, List.map_nil, fold_app, sumK_fold tl a k (by omega), sumK]
theorem concat_val (tl : List Tn) (htl : tl.length ≤ 1048576) (hok : ∀ j, j < tl.length → TnOK (tl.getD j t0n)) (axis : Int) : Val C 33 [.int .i64 axis, .sl tl.length (tnsC tl)] (.tup [tnV (catT tl axis), .int .i64 (catE tl axis)]) := by
 unfold catT
 refine Fc.keep (Fc.bodyT mixed Tryz.func33 w33 rfl Tryz.ntmps33 Tryz.results33 (Nat.le_of_ble_eq_true rfl) ?_)
 (refine Go1.out ?_;repeat' ((with_reducible first|refine Go1.mk ?_|((first|apply Br.dec|apply Br.beq|apply Br.bne|apply Br.mk)<;>intro h))<;>try simp -implicitDefEqProofs (maxSteps:=9000000) (disch:=first|omega|(simp only [lens];omega)) only [go_sem]))
 ·exact Gd.ret (gd_no (by rw [catE, if_pos (by omega)]) (by decide))
 refine TT_loop_inv (fun n ts H => ∃ (k : Nat), (k ≤ tl.length) ∧ ((∀ j, j < k → mayT (tl.getD j t0n) = 0)) ∧ (n = tl.length - k) ∧ (rowOf H 0 = some ⟨3, 1, [.int .i64 axis]⟩) ∧ (rowOf H 1 = some ⟨48, 1, [.sl tl.length (tnsC tl)]⟩) ∧ (rowOf H 2 = some ⟨26, 2, [.nil, .nil]⟩) ∧ ts.length = 115 ∧ nth ts 2 = .ptr 0 0 ∧ nth ts 3 = .ptr 1 0 ∧ nth ts 4 = .ptr 2 0 ∧ nth ts 20 = .sl tl.length (tnsC tl) ∧ nth ts 21 = .int .i64 tl.length ∧ nth ts 22 = .int .i64 (k : Nat)) ?_ (n := tl.length) ?_
 ·skip
  rintro n ts H ⟨k, hk, hI, hn, h0, h1, h2, hL, hs2, hs3, hs4, hs20, hs21, hs22⟩
  refine TT_env [(2, .ptr 0 0), (3, .ptr 1 0), (4, .ptr 2 0), (20, .sl tl.length (tnsC tl)), (21, .int .i64 tl.length), (22, .int .i64 (k : Nat))] hL (by simp only [List.forall_mem_cons, hs2, hs3, hs4, hs20, hs21, hs22, true_and]; exact fun _ h => nomatch h) ?_
  clear hL hs2 hs3 hs4 hs20 hs21 hs22 ts
  refine TT_of mixed ?_
  by_cases hkl : k < tl.length
  ·have hT := hok k hkl
   generalize hTT : tl.getD k t0n = T at *
   have a2 : ∀ Y, rowOf (H ++ Y) 2 = some ⟨26, 2, [.nil, .nil]⟩ := fun Y => rowOf_keep h2 Y
   have hst : ∀ Y (z : Row), rowOf ((H ++ Y).set 2 (some z)) 2 = some z := fun Y z => rowOf_set_eq (a2 Y)
   (refine Go1.out ?_;repeat' ((with_reducible first|refine Go1.mk ?_|((first|apply Br.dec|apply Br.beq|apply Br.bne|apply Br.mk)<;>intro h))<;>try simp -implicitDefEqProofs (maxSteps:=9000000) (disch:=first|omega|(simp only [lens];omega)) only [go_sem, hTT]))
   refine Fc.pure (tmay_spec T hT) (by simp [cloL, clo, cloL_ints, cloL_raws]) (fun g => rfl) ?_
   by_cases hm : mayT T = 0
   ·rw [hm]
    (refine Go1.out ?_;repeat' ((with_reducible first|refine Go1.mk ?_|((first|apply Br.dec|apply Br.beq|apply Br.bne|apply Br.mk)<;>intro h))<;>try simp -implicitDefEqProofs (maxSteps:=9000000) (disch:=first|omega|(simp only [lens];omega)) only [go_sem]))
    exact ⟨tl.length - (k + 1), by omega, k + 1, by omega, allS hI (by rw [hTT]; exact hm), rfl, rowOf_keep h0 _, rowOf_keep h1 _, a2 _, (by (repeat' apply And.intro) <;> (first | rfl | omega | (congr 1; omega) | assumption | (congr 1; assumption)))⟩
   ·have hF := firstM_at hkl hI (by rw [hTT]; exact hm)
    rw [hTT] at hF
    have hE : catE tl axis = mayT T := by rw [catE, if_neg (by omega), hF, if_pos hm]
    (refine Go1.out ?_;repeat' ((with_reducible first|refine Go1.mk ?_|((first|apply Br.dec|apply Br.beq|apply Br.bne|apply Br.mk)<;>intro h))<;>try simp -implicitDefEqProofs (maxSteps:=9000000) (disch:=first|omega|(simp only [lens];omega)) only [go_sem, a2, hst]))
    exact Gd.ret (gd_no hE hm)
  ·have hks : k = tl.length := by omega
   subst hks
   have hF : firstM tl = 0 := firstM_zero.2 hI
   have z0 : nth (tnsC tl) 0 = .sl (tl.getD 0 t0n).shape.length (ints (tl.getD 0 t0n).shape) := by simpa using nth_tns0 tl 0 (by omega)
   have hT0 := hok 0 (by omega)
   have hS0 := hT0.s
   obtain ⟨hf0, hm0, hl0⟩ := mayT_zero (hI 0 (by omega))
   obtain ⟨p1, p2, p3⟩ := mayP_zero hm0
   (refine Go1.out ?_;repeat' ((with_reducible first|refine Go1.mk ?_|((first|apply Br.dec|apply Br.beq|apply Br.bne|apply Br.mk)<;>intro h))<;>try simp -implicitDefEqProofs (maxSteps:=9000000) (disch:=first|omega|(simp only [lens];omega)) only [go_sem, h1, z0]))
   refine Fc.ownF (CloneS_spec (tl.getD 0 t0n).shape (by omega)) ⟨.self (by simp [clo, cloL_ints]), trivial⟩ (fun g => renL_ints g _) (plainL_ints _) fun v X hv hvr => ?_
   have hlt := rowOf_lt h2
   have b0 := rowOf_keep h0 X
   have b1 := rowOf_keep h1 X
   have b2 := rowOf_keep h2 X
   generalize H ++ X = H5 at *
   have hkn : kn v = true ∧ cellsOf v = [v] ∧ scal v = true := by rcases hv with ⟨rfl, _⟩ | ⟨r, rfl, _⟩ <;> exact ⟨rfl, rfl, rfl⟩
   obtain ⟨k1, c1, s1⟩ := hkn
   have hlv := hv.lenw (C.ty 23)
   have hst2 : ∀ z : Row, rowOf (H5.set 2 (some z)) 2 = some z := fun z => rowOf_set_eq b2
   by_cases hax : 0 ≤ axis ∧ axis < (tl.getD 0 t0n).shape.length
   ·obtain ⟨a, rfl⟩ : ∃ a : Nat, axis = a := ⟨axis.toNat, by omega⟩
    have ha : a < (tl.getD 0 t0n).shape.length := by omega
    obtain ⟨-, h0', -⟩ | ⟨r, rfl, hr, -⟩ := hv
    ·omega
    have hr3 : 3 ≤ r := by have := hvr r 0 _ rfl; omega
    have st0 : ∀ z, rowOf (H5.set r z) 0 = some ⟨3, 1, [.int .i64 (a : Nat)]⟩ := fun z => by rw [rowOf_set_ne _ (by omega)]; exact b0
    have st1 : ∀ z, rowOf (H5.set r z) 1 = some ⟨48, 1, [.sl tl.length (tnsC tl)]⟩ := fun z => by rw [rowOf_set_ne _ (by omega)]; exact b1
    have st2 : ∀ z, rowOf (H5.set r z) 2 = some ⟨26, 2, [.nil, .nil]⟩ := fun z => by rw [rowOf_set_ne _ (by omega)]; exact b2
    have str : ∀ z, rowOf (H5.set r (some z)) r = some z := fun z => rowOf_set_eq hr
    generalize hS : (tl.getD 0 t0n).shape = S0 at *
    (refine Go1.out ?_;repeat' ((with_reducible first|refine Go1.mk ?_|((first|apply Br.dec|apply Br.beq|apply Br.bne|apply Br.mk)<;>intro h))<;>try simp -implicitDefEqProofs (maxSteps:=9000000) (disch:=first|omega|(simp only [lens];omega)) only [go_sem, b0, hlv, hr, upd_ints, st1]))
    have hF13 : (∃ k, k < tl.length ∧ fitA tl a k = false) → catE tl a = 13 := by
     rintro ⟨k, hk, hf⟩
     rw [catE, if_neg (by omega), if_neg (by omega), hS, if_neg (fun h => h ⟨by omega, by omega⟩), Int.toNat_natCast, if_pos]
     intro h
     have := h k hk
     rw [hf] at this; cases this
    refine TT_loop_inv (fun n ts H => ∃ (k : Nat), (k ≤ tl.length) ∧ ((∀ j, j < k → fitA tl a j = true)) ∧ (n = tl.length - k) ∧ (rowOf H 0 = some ⟨3, 1, [.int .i64 (a : Nat)]⟩) ∧ (rowOf H 1 = some ⟨48, 1, [.sl tl.length (tnsC tl)]⟩) ∧ (rowOf H 2 = some ⟨26, 2, [.nil, .nil]⟩) ∧ (rowOf H r = some ⟨3, 1, ints (S0.set a 0)⟩) ∧ ts.length = 115 ∧ nth ts 2 = .ptr 0 0 ∧ nth ts 3 = .ptr 1 0 ∧ nth ts 4 = .ptr 2 0 ∧ nth ts 9 = .ref r 0 S0.length ∧ nth ts 50 = .sl tl.length (tnsC tl) ∧ nth ts 51 = .int .i64 tl.length ∧ nth ts 52 = .int .i64 (k : Nat)) ?_ (n := tl.length) ?_
    ·skip
     rintro n ts H ⟨k, hk, hA, hn, h0, h1, h2, hr, hL, hs2, hs3, hs4, hs9, hs50, hs51, hs52⟩
     refine TT_env [(2, .ptr 0 0), (3, .ptr 1 0), (4, .ptr 2 0), (9, .ref r 0 S0.length), (50, .sl tl.length (tnsC tl)), (51, .int .i64 tl.length), (52, .int .i64 (k : Nat))] hL (by simp only [List.forall_mem_cons, hs2, hs3, hs4, hs9, hs50, hs51, hs52, true_and]; exact fun _ h => nomatch h) ?_
     clear hL hs2 hs3 hs4 hs9 hs50 hs51 hs52 ts
     refine TT_of mixed ?_
     by_cases hkl : k < tl.length
     ·have hT := hok k hkl
      obtain ⟨hfT, hmT, hlT⟩ := mayT_zero (hI k hkl)
      obtain ⟨t1, t2, t3⟩ := mayP_zero hmT
      have hfA : fitA tl a k = (decide ((tl.getD k t0n).shape.length = S0.length) && (List.range S0.length).all fun i => decide (i ≠ a → (tl.getD k t0n).shape.getD i 0 = S0.getD i 0)) := by rw [fitA, hS]
      generalize hTT : tl.getD k t0n = T at *
      have e0 : ∀ Y, rowOf (H ++ Y) 0 = some ⟨3, 1, [.int .i64 (a : Nat)]⟩ := fun Y => rowOf_keep h0 Y
      have e1 : ∀ Y, rowOf (H ++ Y) 1 = some ⟨48, 1, [.sl tl.length (tnsC tl)]⟩ := fun Y => rowOf_keep h1 Y
      have e2 : ∀ Y, rowOf (H ++ Y) 2 = some ⟨26, 2, [.nil, .nil]⟩ := fun Y => rowOf_keep h2 Y
      have er : ∀ Y, rowOf (H ++ Y) r = some ⟨3, 1, ints (S0.set a 0)⟩ := fun Y => rowOf_keep hr Y
      have est : ∀ Y (z : Row), rowOf ((H ++ Y).set 2 (some z)) 2 = some z := fun Y z => rowOf_set_eq (e2 Y)
      by_cases hln : T.shape.length = S0.length
      ·subst hn
       (refine Go1.out ?_;repeat' ((with_reducible first|refine Go1.mk ?_|((first|apply Br.dec|apply Br.beq|apply Br.bne|apply Br.mk)<;>intro h))<;>try simp -implicitDefEqProofs (maxSteps:=9000000) (disch:=first|omega|(simp only [lens];omega)) only [go_sem, hTT]))
       have f0 := e0 [some ⟨26, 2, [.sl T.shape.length (ints T.shape), .sl T.el.length (rawsC T.el)]⟩]
       have f1 := e1 [some ⟨26, 2, [.sl T.shape.length (ints T.shape), .sl T.el.length (rawsC T.el)]⟩]
       have f2 := e2 [some ⟨26, 2, [.sl T.shape.length (ints T.shape), .sl T.el.length (rawsC T.el)]⟩]
       have fr := er [some ⟨26, 2, [.sl T.shape.length (ints T.shape), .sl T.el.length (rawsC T.el)]⟩]
       clear e0 e1 e2 er est
       generalize H ++ [some (⟨26, 2, [.sl T.shape.length (ints T.shape), .sl T.el.length (rawsC T.el)]⟩ : Row)] = H7 at *
       refine TT_loop_inv (fun n ts H => ∃ (i : Nat), (i ≤ S0.length) ∧ ((∀ j, j < i → (j ≠ a → T.shape.getD j 0 = S0.getD j 0))) ∧ (n = S0.length - i) ∧ (rowOf H 0 = some ⟨3, 1, [.int .i64 (a : Nat)]⟩) ∧ (rowOf H 1 = some ⟨48, 1, [.sl tl.length (tnsC tl)]⟩) ∧ (rowOf H 2 = some ⟨26, 2, [.nil, .nil]⟩) ∧ (rowOf H r = some ⟨3, 1, ints (S0.set a 0)⟩) ∧ ts.length = 115 ∧ nth ts 2 = .ptr 0 0 ∧ nth ts 3 = .ptr 1 0 ∧ nth ts 4 = .ptr 2 0 ∧ nth ts 9 = .ref r 0 S0.length ∧ nth ts 50 = .sl tl.length (tnsC tl) ∧ nth ts 51 = .int .i64 tl.length ∧ nth ts 52 = .int .i64 (k : Nat) ∧ nth ts 64 = .sl T.shape.length (ints T.shape) ∧ nth ts 65 = .int .i64 T.shape.length ∧ nth ts 66 = .int .i64 (i : Nat)) ?_ (n := S0.length) ?_
       ·skip
        rintro n ts H ⟨i, hi, hB, hn, h0, h1, h2, hr, hL, hs2, hs3, hs4, hs9, hs50, hs51, hs52, hs64, hs65, hs66⟩
        refine TT_env [(2, .ptr 0 0), (3, .ptr 1 0), (4, .ptr 2 0), (9, .ref r 0 S0.length), (50, .sl tl.length (tnsC tl)), (51, .int .i64 tl.length), (52, .int .i64 (k : Nat)), (64, .sl T.shape.length (ints T.shape)), (65, .int .i64 T.shape.length), (66, .int .i64 (i : Nat))] hL (by simp only [List.forall_mem_cons, hs2, hs3, hs4, hs9, hs50, hs51, hs52, hs64, hs65, hs66, true_and]; exact fun _ h => nomatch h) ?_
        clear hL hs2 hs3 hs4 hs9 hs50 hs51 hs52 hs64 hs65 hs66 ts
        refine TT_of mixed ?_
        have hst2 : ∀ z : Row, rowOf (H.set 2 (some z)) 2 = some z := fun z => rowOf_set_eq h2
        by_cases hil : i < S0.length
        ·by_cases hia : i = a
         ·have hia' : (i : Int) = (a : Nat) := by omega
          (refine Go1.out ?_;repeat' ((with_reducible first|refine Go1.mk ?_|((first|apply Br.dec|apply Br.beq|apply Br.bne|apply Br.mk)<;>intro h))<;>try simp -implicitDefEqProofs (maxSteps:=9000000) (disch:=first|omega|(simp only [lens];omega)) only [go_sem, h0]))
          exact ⟨S0.length - (i + 1), by omega, i + 1, by omega, allS hB (fun h => absurd hia h), rfl, h1, h2, hr, (by (repeat' apply And.intro) <;> (first | rfl | omega | (congr 1; omega) | assumption | (congr 1; assumption)))⟩
         ·have hz : (S0.set a 0).getD i 0 = S0.getD i 0 := by simp [List.getD, Ne.symm hia]
          have hzl : (S0.set a 0).length = S0.length := by simp
          by_cases hd : T.shape.getD i 0 = S0.getD i 0
          ·skip
           (refine Go1.out ?_;repeat' ((with_reducible first|refine Go1.mk ?_|((first|apply Br.dec|apply Br.beq|apply Br.bne|apply Br.mk)<;>intro h))<;>try simp -implicitDefEqProofs (maxSteps:=9000000) (disch:=first|omega|(simp only [lens];omega)) only [go_sem, h0, hr, hz]))
           exact ⟨S0.length - (i + 1), by omega, i + 1, by omega, allS hB (fun _ => hd), rfl, h1, h2, (by (repeat' apply And.intro) <;> (first | rfl | omega | (congr 1; omega) | assumption | (congr 1; assumption)))⟩
          ·have hE := hF13 ⟨k, hkl, by
            rw [hfA]
            cases hc : ((List.range S0.length).all fun i => decide (i ≠ a → T.shape.getD i 0 = S0.getD i 0)) with
            | false => simp
            | true => exact absurd (of_decide_eq_true (List.all_eq_true.1 hc i (List.mem_range.2 hil)) hia) hd⟩
           (refine Go1.out ?_;repeat' ((with_reducible first|refine Go1.mk ?_|((first|apply Br.dec|apply Br.beq|apply Br.bne|apply Br.mk)<;>intro h))<;>try simp -implicitDefEqProofs (maxSteps:=9000000) (disch:=first|omega|(simp only [lens];omega)) only [go_sem, h0, hr, hz, h2, hst2]))
           all_goals exact Gd.ret (gd_no hE (by decide))
        ·have his : i = S0.length := by omega
         subst his
         have hfk : fitA tl a k = true := by
          rw [hfA, hln]
          simp only [decide_true, Bool.true_and, List.all_eq_true, List.mem_range, decide_eq_true_eq]
          exact fun j hj hja => hB j hj hja
         (refine Go1.out ?_;repeat' ((with_reducible first|refine Go1.mk ?_|((first|apply Br.dec|apply Br.beq|apply Br.bne|apply Br.mk)<;>intro h))<;>try simp -implicitDefEqProofs (maxSteps:=9000000) (disch:=first|omega|(simp only [lens];omega)) only [go_sem]))
         exact ⟨tl.length - (k + 1), by omega, k + 1, by omega, allS hA hfk, rfl, h0, h1, h2, hr, (by (repeat' apply And.intro) <;> (first | rfl | omega | (congr 1; omega) | assumption | (congr 1; assumption)))⟩
       ·exact ⟨0, by omega, fun j hj => by omega, rfl, f0, f1, f2, fr, rfl, rfl, rfl, rfl, rfl, rfl, rfl, rfl, rfl, rfl, rfl⟩
      ·have hE := hF13 ⟨k, hkl, by rw [hfA]; simp [hln]⟩
       (refine Go1.out ?_;repeat' ((with_reducible first|refine Go1.mk ?_|((first|apply Br.dec|apply Br.beq|apply Br.bne|apply Br.mk)<;>intro h))<;>try simp -implicitDefEqProofs (maxSteps:=9000000) (disch:=first|omega|(simp only [lens];omega)) only [go_sem, hTT, e2, est]))
       exact Gd.ret (gd_no hE (by decide))
     ·have hks : k = tl.length := by omega
      subst hks
      (refine Go1.out ?_;repeat' ((with_reducible first|refine Go1.mk ?_|((first|apply Br.dec|apply Br.beq|apply Br.bne|apply Br.mk)<;>intro h))<;>try simp -implicitDefEqProofs (maxSteps:=9000000) (disch:=first|omega|(simp only [lens];omega)) only [go_sem, h1]))
      have hTa : ∀ j, j < tl.length → 1 ≤ (tl.getD j t0n).shape.getD a 0 ∧ (tl.getD j t0n).shape.getD a 0 ≤ 1024 := fun j hj => by
       obtain ⟨hfT, hmT, hlT⟩ := mayT_zero (hI j hj)
       obtain ⟨t1, t2, t3⟩ := mayP_zero hmT
       have hfk := hA j hj
       rw [fitA, Bool.and_eq_true, decide_eq_true_eq, hS] at hfk
       have h1 := getD_pos t2 (i := a) (by omega)
       have h2 := getD_le_prodL t2 (i := a) (by omega)
       omega
      have hTl : ∀ j, j < tl.length → (tl.getD j t0n).shape.length = S0.length := fun j hj => by
       have hfk := hA j hj
       rw [fitA, Bool.and_eq_true, decide_eq_true_eq, hS] at hfk
       exact hfk.1
      have hF14 : (∃ k, k < tl.length ∧ mayP (catS tl a (k + 1)) ≠ 0) → catE tl a = 14 := by
       rintro ⟨k, hk, hf⟩
       rw [catE, if_neg (by omega), if_neg (by omega), hS, if_neg (fun h => h ⟨by omega, by omega⟩), Int.toNat_natCast, if_neg (fun h => h hA), if_pos]
       exact fun h => hf (h k hk)
      have hr' : rowOf H r = some ⟨3, 1, ints (catS tl a 0)⟩ := by rw [catS, hS]; exact hr
      refine TT_loop_inv (fun n ts H => ∃ (k : Nat), (k ≤ tl.length) ∧ ((∀ j, j < k → mayP (catS tl a (j + 1)) = 0)) ∧ (n = tl.length - k) ∧ (rowOf H 0 = some ⟨3, 1, [.int .i64 (a : Nat)]⟩) ∧ (rowOf H 1 = some ⟨48, 1, [.sl tl.length (tnsC tl)]⟩) ∧ (rowOf H 2 = some ⟨26, 2, [.nil, .nil]⟩) ∧ (rowOf H r = some ⟨3, 1, ints (catS tl a k)⟩) ∧ ts.length = 115 ∧ nth ts 2 = .ptr 0 0 ∧ nth ts 3 = .ptr 1 0 ∧ nth ts 4 = .ptr 2 0 ∧ nth ts 9 = .ref r 0 S0.length ∧ nth ts 85 = .sl tl.length (tnsC tl) ∧ nth ts 86 = .int .i64 tl.length ∧ nth ts 87 = .int .i64 (k : Nat)) ?_ (n := tl.length) ?_
      ·skip
       rintro n ts H ⟨k, hk, hM, hn, h0, h1, h2, hr, hL, hs2, hs3, hs4, hs9, hs85, hs86, hs87⟩
       refine TT_env [(2, .ptr 0 0), (3, .ptr 1 0), (4, .ptr 2 0), (9, .ref r 0 S0.length), (85, .sl tl.length (tnsC tl)), (86, .int .i64 tl.length), (87, .int .i64 (k : Nat))] hL (by simp only [List.forall_mem_cons, hs2, hs3, hs4, hs9, hs85, hs86, hs87, true_and]; exact fun _ h => nomatch h) ?_
       clear hL hs2 hs3 hs4 hs9 hs85 hs86 hs87 ts
       by_cases hkl : k < tl.length
       ·refine TT_of mixed ?_
        have hTk := hTa k hkl
        have hlk := hTl k hkl
        have hsk := sumK_le hTa k (by omega)
        have hcl := catS_len tl a k
        have hcl' := catS_len tl a (k + 1)
        rw [hS] at hcl hcl'
        have hcg := catS_get (tl := tl) (a := a) (by rw [hS]; exact ha) k
        have hcn := catS_next tl a k
        generalize hTT : tl.getD k t0n = T at *
        generalize hss : sumK tl a k = ss at *
        have e0 : ∀ Y, rowOf (H ++ Y) 0 = some ⟨3, 1, [.int .i64 (a : Nat)]⟩ := fun Y => rowOf_keep h0 Y
        have e1 : ∀ Y, rowOf (H ++ Y) 1 = some ⟨48, 1, [.sl tl.length (tnsC tl)]⟩ := fun Y => rowOf_keep h1 Y
        have e2 : ∀ Y, rowOf (H ++ Y) 2 = some ⟨26, 2, [.nil, .nil]⟩ := fun Y => rowOf_keep h2 Y
        have er : ∀ Y, rowOf (H ++ Y) r = some ⟨3, 1, ints (catS tl a k)⟩ := fun Y => rowOf_keep hr Y
        (refine Go1.out ?_;repeat' ((with_reducible first|refine Go1.mk ?_|((first|apply Br.dec|apply Br.beq|apply Br.bne|apply Br.mk)<;>intro h))<;>try simp -implicitDefEqProofs (maxSteps:=9000000) (disch:=first|omega|(simp only [lens];omega)) only [go_sem, hTT, e0, er, upd_ints, hcg, hcn]))
        have g0 : ∀ Y z, rowOf ((H ++ Y).set r z) 0 = _ := fun Y z => (rowOf_set_ne _ (by omega)).trans (e0 Y)
        have g1 : ∀ Y z, rowOf ((H ++ Y).set r z) 1 = _ := fun Y z => (rowOf_set_ne _ (by omega)).trans (e1 Y)
        have g2 : ∀ Y z, rowOf ((H ++ Y).set r z) 2 = _ := fun Y z => (rowOf_set_ne _ (by omega)).trans (e2 Y)
        have gr : ∀ Y z, rowOf ((H ++ Y).set r (some z)) r = _ := fun Y z => rowOf_set_eq (er Y)
        have ow : ∀ Y, Bv.Own 3 1 ((H ++ Y).set r (some ⟨3, 1, ints (catS tl a (k + 1))⟩)) (.ref r 0 S0.length) (catS tl a (k + 1)).length (ints (catS tl a (k + 1))) := fun Y => by rw [hcl']; exact .inr ⟨r, rfl, gr Y _, by rw [ints_length]; omega⟩
        have gst : ∀ Y z (q : Row), rowOf (((H ++ Y).set r z).set 2 (some q)) 2 = some q := fun Y z q => rowOf_set_eq (g2 Y z)
        refine (Val.ofPu (May_spec (catS tl a (k + 1)) (by omega)) rfl rfl).call ⟨(ow _).bor' (cloL_ints _), trivial⟩ rfl ?_
        by_cases hm : mayP (catS tl a (k + 1)) = 0
        ·rw [hm]
         (refine Go1.out ?_;repeat' ((with_reducible first|refine Go1.mk ?_|((first|apply Br.dec|apply Br.beq|apply Br.bne|apply Br.mk)<;>intro h))<;>try simp -implicitDefEqProofs (maxSteps:=9000000) (disch:=first|omega|(simp only [lens];omega)) only [go_sem]))
         exact ⟨tl.length - (k + 1), by omega, k + 1, by omega, allS hM hm, rfl, g0 _ _, g1 _ _, g2 _ _, gr _ _, (by (repeat' apply And.intro) <;> (first | rfl | omega | (congr 1; omega) | assumption | (congr 1; assumption)))⟩
        ·have hE := hF14 ⟨k, hkl, hm⟩
         (refine Go1.out ?_;repeat' ((with_reducible first|refine Go1.mk ?_|((first|apply Br.dec|apply Br.beq|apply Br.bne|apply Br.mk)<;>intro h))<;>try simp -implicitDefEqProofs (maxSteps:=9000000) (disch:=first|omega|(simp only [lens];omega)) only [go_sem, g2, gst]))
         all_goals exact Gd.ret (gd_no hE (by decide))
       ·have hks : k = tl.length := by omega
        subst hks
        have hSm : mayP (catS tl a tl.length) = 0 := by have := hM (tl.length - 1) (by omega); rwa [show tl.length - 1 + 1 = tl.length by omega] at this
        have hE : catE tl a = 0 := by rw [catE, if_neg (by omega), if_neg (by omega), hS, if_neg (fun h => h ⟨by omega, by omega⟩), Int.toNat_natCast, if_neg (fun h => h hA), if_neg (fun h => h hM)]
        have hSl := catS_len tl a tl.length
        rw [hS] at hSl
        obtain ⟨q1, q2, q3⟩ := mayP_zero hSm
        have hpos := prodL_pos q2
        rw [errT_ok hE, hE, Int.toNat_natCast]
        have hgetS : ∀ i, i < S0.length → (catS tl a tl.length).getD i 0 = if i = a then sumK tl a tl.length else S0.getD i 0 := fun i hi => by
         rw [catS, hS]
         by_cases hia : i = a
         ·subst hia; simp [List.getD, hi]
         ·rw [if_neg hia]; simp [List.getD, Ne.symm hia]
        have hfold : (tl.map fun t => t.shape.getD a 0).foldr (· + ·) 0 = sumK tl a tl.length := by have := sumK_fold tl a tl.length (Nat.le_refl _); rwa [List.take_length] at this
        have hfound : ∀ i : Nat, (catR tl a (idxL (catS tl a tl.length) (i : Nat))).2 = true := fun i => by
         have hx := idxL_in q2 (i : Nat)
         refine catR_found tl a _ S0.length (by rw [idxL_len]; exact hSl) ha (fun j hj => ⟨(mayT_zero (hI j hj)).2.1, hTl j hj⟩) (fun j hj i' hi' hia => ?_) (hx a (by omega)).1 ?_
         ·have h5 := hx i' (by omega)
          rw [hgetS i' hi', if_neg hia] at h5
          have hfk := hA j hj
          rw [fitA, Bool.and_eq_true, hS, List.all_eq_true] at hfk
          have := of_decide_eq_true (hfk.2 i' (List.mem_range.2 hi')) hia
          rw [this]; exact h5
         ·have h5 := hx a (by omega)
          rw [hgetS a ha, if_pos rfl] at h5
          rw [hfold]; exact h5.2
        obtain ⟨N, hN⟩ : ∃ N : Nat, (N : Int) = prodL (catS tl a tl.length) := ⟨(prodL (catS tl a tl.length)).toNat, by omega⟩
        have hNN : (prodL (catS tl a tl.length)).toNat = N := by omega
        have hgat := gatherA_spec (catS tl a tl.length) 67 [.rp [.sl tl.length (tnsC tl)] 0, .rp [.int .i64 (a : Nat)] 0] (fun i => (catR tl a (idxL (catS tl a tl.length) (i : Nat))).1) N (by omega) hSm hN (by simp [cloL, clo, cloL_tns]) (fun i hi => by
         have hx := idxL_in q2 (i : Nat) a (by omega)
         have hu := getD_le_prodL q2 (i := a) (by omega)
         have := cat1_spec tl a (idxL (catS tl a tl.length) (i : Nat)) htl (fun j hj => ⟨hok j hj, (mayT_zero (hI j hj)).1, by rw [idxL_len, hSl]; exact hTl j hj⟩) (by rw [idxL_len]; omega) (by rw [idxL_len]; omega) (by omega)
         rw [hfound i] at this
         exact this)
        have hcat : catL tl a (catS tl a tl.length) N = gatL N r0 (fun i => (catR tl a (idxL (catS tl a tl.length) (i : Nat))).1) (fun _ => true) := by
         rw [catL]
         congr 1
         funext i
         exact hfound i
        rw [hNN]
        rw [← hcat] at hgat
        have hTk : ∀ x ∈ catL tl a (catS tl a tl.length) N, RawOK x := fun x hx => by
         rw [hcat] at hx
         simp only [gatL, List.mem_map, if_true] at hx
         obtain ⟨i, _, rfl⟩ := hx
         exact catR_ok tl a _ (fun j hj => ⟨hok j hj, (mayT_zero (hI j hj)).1⟩) (hfound i)
        have hcl : (catL tl a (catS tl a tl.length) N).length = N := gatL_len _ _ _ _
        have hmk := tmake_val ⟨catS tl a tl.length, catL tl a (catS tl a tl.length) N⟩ ⟨by show (catS tl a tl.length).length ≤ _; omega, by show (catL tl a (catS tl a tl.length) N).length ≤ _; omega, hTk⟩
        have hfit : fitsT ⟨catS tl a tl.length, catL tl a (catS tl a tl.length) N⟩ = 0 := by
         show (if mayP (catS tl a tl.length) ≠ 0 then mayP (catS tl a tl.length) else if ((catL tl a (catS tl a tl.length) N).length : Int) ≠ countP (catS tl a tl.length) then 13 else 0) = 0
         have hc : countP (catS tl a tl.length) = prodL (catS tl a tl.length) := by rw [countP, if_pos hSm]
         rw [hSm, hc, hcl, hN]; simp
        have hmm : mkT ⟨catS tl a tl.length, catL tl a (catS tl a tl.length) N⟩ = (normT ⟨catS tl a tl.length, catL tl a (catS tl a tl.length) N⟩, 0) := by rw [mkT, if_neg (by omega)]
        rw [hmm] at hmk
        simp only [hcl] at hmk
        have n0 : ¬ 0 = r := by omega
        have n1 : ¬ 1 = r := by omega
        have n2 : ¬ 2 = r := by omega
        refine TT_seal hr (cloL_ints _) ?_
        rw [szL_env]
        simp only [List.map_cons, List.map_nil, sz, szL_clo _ _ _ (cloL_tns _), n0, n1, n2, if_true, if_false, List.drop_zero]
        have g0 : rowOf (H.set r none) 0 = _ := (rowOf_set_ne _ (by omega)).trans h0
        have g1 : rowOf (H.set r none) 1 = _ := (rowOf_set_ne _ (by omega)).trans h1
        have g2 : rowOf (H.set r none) 2 = _ := (rowOf_set_ne _ (by omega)).trans h2
        have hlen : 2 < (H.set r none).length := rowOf_lt g2
        generalize H.set r none = H at *
        refine TT_seal g1 (by simp [cloL, clo, cloL_tns]) ?_
        rw [szL_env]
        simp only [List.map_cons, List.map_nil, sz, szL_clo _ _ _ (cloL_tns _), szL_clo _ _ _ (cloL_ints _), Nat.zero_ne_one, if_true, if_false, show ¬ 2 = 1 by decide]
        have g0' : rowOf (H.set 1 none) 0 = _ := (rowOf_set_ne _ (by decide)).trans g0
        have g2' : rowOf (H.set 1 none) 2 = _ := (rowOf_set_ne _ (by decide)).trans g2
        have hlen' : 2 < (H.set 1 none).length := rowOf_lt g2'
        generalize H.set 1 none = H at *
        refine TT_seal g0' (by simp [cloL, clo]) ?_
        rw [szL_env]
        simp only [List.map_cons, List.map_nil, sz, szL, szL_clo _ _ _ (cloL_tns _), szL_clo _ _ _ (cloL_ints _), if_true, if_false, show ¬ 2 = 0 by decide]
        have g2'' : rowOf (H.set 0 none) 2 = _ := (rowOf_set_ne _ (by decide)).trans g2'
        have hlen'' : 2 < (H.set 0 none).length := rowOf_lt g2''
        generalize H.set 0 none = H at *
        refine TT_of mixed ?_
        rw [← hSl]
        (refine Go1.out ?_;repeat' ((with_reducible first|refine Go1.mk ?_|((first|apply Br.dec|apply Br.beq|apply Br.bne|apply Br.mk)<;>intro h))<;>try simp -implicitDefEqProofs (maxSteps:=9000000) (disch:=first|omega|(simp only [lens];omega)) only [go_sem, g2'']))
        refine Fc.pure hgat (by simp [cloL, clo, cloL_ints, cloL_tns]) (fun g => by simp [ren, renL_clo _ _ (cloL_raws _)]) ?_
        (refine Go1.out ?_;repeat' ((with_reducible first|refine Go1.mk ?_|((first|apply Br.dec|apply Br.beq|apply Br.bne|apply Br.mk)<;>intro h))<;>try simp -implicitDefEqProofs (maxSteps:=9000000) (disch:=first|omega|(simp only [lens];omega)) only [go_sem, g2'']))
        refine hmk.keptF ⟨.self (by simp [clo, cloL_ints]), .self (by simp [clo, cloL_raws]), trivial⟩ fun v X hv => ?_
        have f2 := rowOf_keep g2'' X
        have f22 : ∀ row : Row, rowOf ((H ++ X).set 2 (some row)) 2 = some row := fun row => rowOf_set_eq f2
        obtain ⟨w, e, rfl, hw, he⟩ := hv.tup2
        obtain ⟨x1, x2, rfl, ha', hb'⟩ := hw.agg2
        obtain ⟨ka, ca, sa⟩ := gd_sl ha'.gd
        obtain ⟨kb, cb, sb⟩ := gd_sl hb'.gd
        rw [he.gd.int_inv]
        (refine Go1.out ?_;repeat' ((with_reducible first|refine Go1.mk ?_|((first|apply Br.dec|apply Br.beq|apply Br.bne|apply Br.mk)<;>intro h))<;>try simp -implicitDefEqProofs (maxSteps:=9000000) (disch:=first|omega|(simp only [lens];omega)) only [go_sem, f2, f22, ka, ca, sa, kb, cb, sb]))
        exact Gd.ret (Gd.tupL ⟨Gd.aggL ⟨(ha'.set (q := 2) (by omega) _).gd, (hb'.set (q := 2) (by omega) _).gd, trivial⟩, gd_i _ _, trivial⟩)
      ·exact ⟨0, by omega, fun j hj => by omega, rfl, h0, h1, h2, hr', rfl, rfl, rfl, rfl, rfl, rfl, rfl, rfl⟩
    ·exact ⟨0, by omega, fun j hj => by omega, rfl, st0 _, st1 _, st2 _, str _, rfl, rfl, rfl, rfl, rfl, rfl, rfl, rfl⟩
   ·have hE : catE tl axis = 11 := by rw [catE, if_neg (by omega), if_neg (by omega), if_pos hax]
    (refine Go1.out ?_;repeat' ((with_reducible first|refine Go1.mk ?_|((first|apply Br.dec|apply Br.beq|apply Br.bne|apply Br.mk)<;>intro h))<;>try simp -implicitDefEqProofs (maxSteps:=9000000) (disch:=first|omega|(simp only [lens];omega)) only [go_sem, b0, b2, hlv, hst2, k1, c1, s1]))
    all_goals exact Gd.ret (gd_no hE (by decide))
 ·exact ⟨0, by omega, fun j hj => by omega, rfl, rfl, rfl, rfl, rfl, rfl, rfl, rfl, rfl, rfl, rfl⟩
end Go.Proofs.YtjdbdmhjakfldaaGreat
end
section
namespace Go.Proofs.YtjdbdmhjakfldaaGreat
open Go.Bv
def tqsC (ws : List Tq) : List V := ws.flatMap fun t => [.sl t.shape.length (ints t.shape), .sl t.el.length (refsC t.el)]
def q0n : Tq := ⟨[], []⟩
@[go_sem] theorem tqsC_len (ws : List Tq) : (tqsC ws).length = ws.length * 2 := by
 induction ws with
 | nil => rfl
 | cons t ws ih => simp only [tqsC, List.flatMap_cons, List.length_append, List.length_cons, List.length_nil] at ih ⊢; rw [ih]; omega
theorem tqsC_cons (t : Tq) (ws : List Tq) : tqsC (t :: ws) = .sl t.shape.length (ints t.shape) :: .sl t.el.length (refsC t.el) :: tqsC ws := rfl
theorem nth_tqs : ∀ (ws : List Tq) (i : Nat), i < ws.length → nth (tqsC ws) (i * 2) = .sl (ws.getD i q0n).shape.length (ints (ws.getD i q0n).shape) ∧ nth (tqsC ws) (i * 2 + 1) = .sl (ws.getD i q0n).el.length (refsC (ws.getD i q0n).el)
 | [], i, h => by simp at h
 | t :: ws, 0, _ => ⟨rfl, rfl⟩
 | t :: ws, i + 1, h => by
  have := nth_tqs ws i (by simpa using h)
  rw [tqsC_cons, show (i + 1) * 2 = i * 2 + 1 + 1 by omega]
  simpa [nth] using this
@[go_sem] theorem nth_tqs0 (ws : List Tq) (i : Nat) (h : i < ws.length) : nth (tqsC ws) (i * 2) = .sl (ws.getD i q0n).shape.length (ints (ws.getD i q0n).shape) := (nth_tqs ws i h).1
@[go_sem] theorem nth_tqs1 (ws : List Tq) (i : Nat) (h : i < ws.length) : nth (tqsC ws) (i * 2 + 1) = .sl (ws.getD i q0n).el.length (refsC (ws.getD i q0n).el) := (nth_tqs ws i h).2
def sumQ (ws : List Tq) (a : Nat) : Nat → Int
 | 0 => 0
 | k + 1 => sumQ ws a k + (ws.getD k q0n).shape.getD a 0
def ctR : List Tq → Nat → List Int → Rq
 | [], _, _ => intQ 0
 | t :: ws, a, x => if x.getD a 0 < t.shape.getD a 0 then atQ t x else ctR ws a (x.set a (x.getD a 0 - t.shape.getD a 0))
def elsC (ws : List Tq) (a : Nat) (S : List Int) (N : Nat) : List Rq := (List.range N).map fun i => ctR ws a (idxL S (i : Nat))
theorem elsC_len (ws : List Tq) (a : Nat) (S : List Int) (N : Nat) : (elsC ws a S N).length = N := by simp [elsC]
def ctX : List Tq → Nat → List Int → Nat → List Int
 | _, _, x, 0 => x
 | ws, a, x, k + 1 => (ctX ws a x k).set a ((ctX ws a x k).getD a 0 - (ws.getD k q0n).shape.getD a 0)
theorem ctX_len (ws : List Tq) (a : Nat) (x : List Int) (k : Nat) : (ctX ws a x k).length = x.length := by
 induction k with
 | zero => rfl
 | succ k ih => rw [ctX, List.length_set, ih]
theorem ctX_a (ws : List Tq) (a : Nat) (x : List Int) (ha : a < x.length) : ∀ k : Nat, (ctX ws a x k).getD a 0 = x.getD a 0 - sumQ ws a k
 | 0 => by simp [ctX, sumQ]
 | k + 1 => by
  have ih := ctX_a ws a x ha k
  have hl := ctX_len ws a x k
  have e : (ctX ws a x (k + 1)).getD a 0 = (ctX ws a x k).getD a 0 - (ws.getD k q0n).shape.getD a 0 := by
   rw [ctX]; simp [List.getD, show a < (ctX ws a x k).length by omega]
  rw [e, ih, sumQ]; omega
theorem ctX_b (ws : List Tq) (a : Nat) (x : List Int) {i : Nat} (hi : i ≠ a) : ∀ k : Nat, (ctX ws a x k).getD i 0 = x.getD i 0
 | 0 => rfl
 | k + 1 => by
  have ih := ctX_b ws a x hi k
  rw [ctX]
  simp only [List.getD] at ih ⊢
  rw [List.getElem?_set_ne (Ne.symm hi)]
  exact ih
theorem ctR_step (ws : List Tq) (a : Nat) (x : List Int) (k : Nat) (h : k ≤ ws.length) (hn : ∀ j, j < k → ¬ (ctX ws a x j).getD a 0 < (ws.getD j q0n).shape.getD a 0) : ctR ws a x = ctR (ws.drop k) a (ctX ws a x k) := by
 induction k with
 | zero => rfl
 | succ k ih =>
  rw [ih (by omega) fun j hj => hn j (by omega)]
  have e : ws.drop k = ws.getD k q0n :: ws.drop (k + 1) := by
   rw [List.drop_eq_getElem_cons (by omega)]; simp [List.getD, show k < ws.length by omega]
  rw [e, ctR, if_neg (hn k (by omega))]
  rfl
end Go.Proofs.YtjdbdmhjakfldaaGreat
end
section
namespace Go.Proofs.YtjdbdmhjakfldaaGreat
open Go.Bv
theorem set_sub (x : List Int) (a : Nat) (d : Int) (ha : a < x.length) (i : Nat) : (x.set a (x.getD a 0 - d)).getD i 0 = if i = a then x.getD a 0 - d else x.getD i 0 := by
 by_cases hia : i = a
 ·subst hia; simp [List.getD, ha]
 ·rw [if_neg hia]; simp [List.getD, Ne.symm hia]
theorem catR_ctR : ∀ (tl : List Tn) (a : Nat) (x : List Int) (n : Nat), x.length = n → a < n → (∀ j, j < tl.length → mayT (tl.getD j t0n) = 0 ∧ (tl.getD j t0n).shape.length = n) → (∀ j, j < tl.length → ∀ i, i < n → i ≠ a → 0 ≤ x.getD i 0 ∧ x.getD i 0 < (tl.getD j t0n).shape.getD i 0) → 0 ≤ x.getD a 0 → (catR tl a x).2 = true → ctR (tl.map tnOf) a x = valQ (catR tl a x).1
 | [], a, x, n, hx, ha, hm, hi, h0, h1 => by simp [catR] at h1
 | t :: tl, a, x, n, hx, ha, hm, hi, h0, h1 => by
  have e0 : (t :: tl).getD 0 t0n = t := rfl
  obtain ⟨hmt, hl0⟩ := hm 0 (by simp)
  rw [e0] at hmt hl0
  obtain ⟨hf, hm0, hel⟩ := mayT_zero hmt
  rw [catR] at h1 ⊢
  rw [List.map_cons, ctR]
  have es : (tnOf t).shape = t.shape := rfl
  rw [es]
  by_cases hlt : x.getD a 0 < t.shape.getD a 0
  ·have hin : inB t.shape x = true := inB_iff.2 fun i hi' => by
    by_cases hia : i = a
    ·subst hia; exact ⟨h0, hlt⟩
    ·have := hi 0 (by simp) i (by omega) hia
     rwa [e0] at this
   have hz : offE t.shape x = 0 := by rw [offE, if_neg (by omega), if_neg (by omega), if_pos hin]
   rw [if_pos hlt, if_pos hz, pickT, ← atG_atQ (tnOf t) hm0 x (by rw [es]; omega), atG, es, if_pos hz]
   obtain ⟨o1, o2, o3⟩ := offN_lt hz
   have hk : (offN t.shape x).toNat < t.el.length := by omega
   show (t.el.map valQ).getD _ q0 = _
   simp [List.getD, hk]
  ·have hin : ¬ inB t.shape x = true := fun h => hlt ((inB_iff.1 h a (by omega)).2)
   have hz : ¬ offE t.shape x = 0 := by rw [offE, if_neg (by omega), if_neg (by omega), if_neg hin]; decide
   rw [if_neg hz] at h1 ⊢
   rw [if_neg hlt]
   have hg := set_sub x a (t.shape.getD a 0) (by omega)
   refine catR_ctR tl a _ n (by simp [hx]) ha (fun j hj => by have := hm (j + 1) (by simpa using hj); simpa using this) (fun j hj i hi' hia => ?_) ?_ h1
   ·rw [hg, if_neg hia]
    have := hi (j + 1) (by simpa using hj) i hi' hia
    simpa using this
   ·rw [hg, if_pos rfl]; omega
theorem getD_tq {tl : List Tn} {k : Nat} (hk : k < tl.length) (f : Tn → Tq) : (tl.map f).getD k q0n = f (tl.getD k t0n) := by simp [List.getD, hk]
theorem sumQ_map (tl : List Tn) (a : Nat) : ∀ k : Nat, k ≤ tl.length → sumQ (tl.map tnOf) a k = sumK tl a k
 | 0, _ => rfl
 | k + 1, h => by rw [sumQ, sumK, sumQ_map tl a k (by omega), getD_tq (by omega)]; rfl
structure CatOK (tl : List Tn) (a : Nat) : Prop where
 n : 0 < tl.length
 m : ∀ j, j < tl.length → mayT (tl.getD j t0n) = 0
 ha : a < (tl.getD 0 t0n).shape.length
 f : ∀ j, j < tl.length → (tl.getD j t0n).shape.length = (tl.getD 0 t0n).shape.length ∧ ∀ i, i < (tl.getD 0 t0n).shape.length → i ≠ a → (tl.getD j t0n).shape.getD i 0 = (tl.getD 0 t0n).shape.getD i 0
 s : ∀ k, k < tl.length → mayP (catS tl a (k + 1)) = 0
theorem fitA_iff {tl : List Tn} {a k : Nat} : fitA tl a k = true ↔ (tl.getD k t0n).shape.length = (tl.getD 0 t0n).shape.length ∧ ∀ i, i < (tl.getD 0 t0n).shape.length → i ≠ a → (tl.getD k t0n).shape.getD i 0 = (tl.getD 0 t0n).shape.getD i 0 := by
 rw [fitA, Bool.and_eq_true, decide_eq_true_eq, List.all_eq_true]
 simp only [List.mem_range, decide_eq_true_eq]
theorem catE_zero {tl : List Tn} {axis : Int} (h : catE tl axis = 0) : ∃ a : Nat, axis = a ∧ CatOK tl a := by
 rw [catE] at h
 split at h
 ·cases h
 split at h
 ·contradiction
 split at h
 ·cases h
 split at h
 ·cases h
 split at h
 ·cases h
 rename_i h1 h2 h3 h4 h5
 have h3 := Classical.not_not.1 h3
 have h4 := Classical.not_not.1 h4
 have h5 := Classical.not_not.1 h5
 have h2 : firstM tl = 0 := by omega
 refine ⟨axis.toNat, by omega, by omega, firstM_zero.1 h2, by omega, fun j hj => fitA_iff.1 (h4 j hj), h5⟩
theorem CatOK.d {tl : List Tn} {a : Nat} (h : CatOK tl a) {j i : Nat} (hj : j < tl.length) (hi : i < (tl.getD 0 t0n).shape.length) : 1 ≤ (tl.getD j t0n).shape.getD i 0 ∧ (tl.getD j t0n).shape.getD i 0 ≤ 1024 := by
 obtain ⟨_, hm, _⟩ := mayT_zero (h.m j hj)
 obtain ⟨t1, t2, t3⟩ := mayP_zero hm
 have hl := (h.f j hj).1
 have h1 := getD_pos t2 (i := i) (by omega)
 have h2 := getD_le_prodL t2 (i := i) (by omega)
 omega
theorem CatOK.last {tl : List Tn} {a : Nat} (h : CatOK tl a) : mayP (catS tl a tl.length) = 0 := by
 have := h.s (tl.length - 1) (by have := h.n; omega)
 rwa [show tl.length - 1 + 1 = tl.length by have := h.n; omega] at this
theorem catS_at {tl : List Tn} {a : Nat} (ha : a < (tl.getD 0 t0n).shape.length) (k : Nat) (i : Nat) : (catS tl a k).getD i 0 = if i = a then sumK tl a k else (tl.getD 0 t0n).shape.getD i 0 := by
 rw [catS]
 generalize (tl.getD 0 t0n).shape = S at *
 by_cases hia : i = a
 ·subst hia; simp [List.getD, ha]
 ·rw [if_neg hia]; simp [List.getD, Ne.symm hia]
theorem CatOK.x {tl : List Tn} {a : Nat} (h : CatOK tl a) {x : List Int} (hx : ∀ i, i < (tl.getD 0 t0n).shape.length → 0 ≤ x.getD i 0 ∧ x.getD i 0 < (catS tl a tl.length).getD i 0) : (∀ j, j < tl.length → ∀ i, i < (tl.getD 0 t0n).shape.length → i ≠ a → 0 ≤ x.getD i 0 ∧ x.getD i 0 < (tl.getD j t0n).shape.getD i 0) ∧ 0 ≤ x.getD a 0 ∧ x.getD a 0 < sumK tl a tl.length := by
 refine ⟨fun j hj i hi hia => ?_, ?_⟩
 ·have := hx i hi
  rw [catS_at h.ha, if_neg hia, ← (h.f j hj).2 i hi hia] at this
  exact this
 ·have := hx a h.ha
  rw [catS_at h.ha, if_pos rfl] at this
  exact this
theorem CatOK.found {tl : List Tn} {a : Nat} (h : CatOK tl a) {x : List Int} (hl : x.length = (tl.getD 0 t0n).shape.length) (hx : ∀ i, i < (tl.getD 0 t0n).shape.length → 0 ≤ x.getD i 0 ∧ x.getD i 0 < (catS tl a tl.length).getD i 0) : (catR tl a x).2 = true := by
 obtain ⟨h1, h2, h3⟩ := h.x hx
 refine catR_found tl a x _ hl h.ha (fun j hj => ⟨(mayT_zero (h.m j hj)).2.1, (h.f j hj).1⟩) h1 h2 ?_
 have := sumK_fold tl a tl.length (Nat.le_refl _)
 rw [List.take_length] at this
 rw [this]; exact h3
theorem CatOK.ct {tl : List Tn} {a : Nat} (h : CatOK tl a) {x : List Int} (hl : x.length = (tl.getD 0 t0n).shape.length) (hx : ∀ i, i < (tl.getD 0 t0n).shape.length → 0 ≤ x.getD i 0 ∧ x.getD i 0 < (catS tl a tl.length).getD i 0) : ctR (tl.map tnOf) a x = valQ (catR tl a x).1 := by
 obtain ⟨h1, h2, h3⟩ := h.x hx
 exact catR_ctR tl a x _ hl h.ha (fun j hj => ⟨h.m j hj, (h.f j hj).1⟩) h1 h2 (h.found hl hx)
theorem cat_back {tl : List Tn} {a : Nat} (h : CatOK tl a) : normT ⟨catS tl a tl.length, catL tl a (catS tl a tl.length) (prodL (catS tl a tl.length)).toNat⟩ = tnBack ⟨catS tl a tl.length, elsC (tl.map tnOf) a (catS tl a tl.length) (prodL (catS tl a tl.length)).toNat⟩ := by
 obtain ⟨m1, m2, m3⟩ := mayP_zero h.last
 show (⟨_, ((catL tl a (catS tl a tl.length) (prodL (catS tl a tl.length)).toNat).map valQ).map rawOf⟩ : Tn) = ⟨_, (elsC _ _ _ _).map rawOf⟩
 congr 2
 rw [catL, gatL, elsC, List.map_map]
 refine List.map_congr_left fun i _ => ?_
 have hl : (idxL (catS tl a tl.length) (i : Nat)).length = (tl.getD 0 t0n).shape.length := by rw [idxL_len, catS_len]
 have hx : ∀ j, j < (tl.getD 0 t0n).shape.length → 0 ≤ (idxL (catS tl a tl.length) (i : Nat)).getD j 0 ∧ (idxL (catS tl a tl.length) (i : Nat)).getD j 0 < (catS tl a tl.length).getD j 0 := fun j hj => idxL_in m2 (i : Nat) j (by rw [catS_len]; exact hj)
 simp only [Function.comp]
 rw [if_pos (h.found hl hx), h.ct hl hx]
theorem catT_ok {tl : List Tn} (hok : ∀ j, j < tl.length → TnOK (tl.getD j t0n)) (axis : Int) : TnOK (catT tl axis) := errT_TnOK fun h => by
 obtain ⟨a, rfl, hc⟩ := catE_zero h
 rw [Int.toNat_natCast]
 obtain ⟨m1, m2, m3⟩ := mayP_zero hc.last
 refine normT_ok ⟨by show (catS tl a tl.length).length ≤ _; omega, by show (catL _ _ _ _).length ≤ _; rw [catL, gatL_len]; omega, fun x hx => ?_⟩
 have hx : x ∈ catL tl a (catS tl a tl.length) (prodL (catS tl a tl.length)).toNat := hx
 simp only [catL, gatL, List.mem_map] at hx
 obtain ⟨i, _, rfl⟩ := hx
 have hl : (idxL (catS tl a tl.length) (i : Nat)).length = (tl.getD 0 t0n).shape.length := by rw [idxL_len, catS_len]
 have hxx : ∀ j, j < (tl.getD 0 t0n).shape.length → 0 ≤ (idxL (catS tl a tl.length) (i : Nat)).getD j 0 ∧ (idxL (catS tl a tl.length) (i : Nat)).getD j 0 < (catS tl a tl.length).getD j 0 := fun j hj => idxL_in m2 (i : Nat) j (by rw [catS_len]; exact hj)
 rw [if_pos (hc.found hl hxx)]
 exact catR_ok tl a _ (fun j hj => ⟨hok j hj, (mayT_zero (hc.m j hj)).1⟩) (hc.found hl hxx)
theorem catE_small (tl : List Tn) (axis : Int) : -1000000 ≤ catE tl axis ∧ catE tl axis ≤ 1000000 := by
 have h1 : ∀ l : List Tn, -1000000 ≤ firstM l ∧ firstM l ≤ 1000000 := fun l => by
  induction l with
  | nil => simp [firstM]
  | cons t l ih => rw [firstM]; have := mayT_cases t; split <;> omega
 have := h1 tl
 unfold catE
 split <;> (try split) <;> (try split) <;> (try split) <;> (try split) <;> omega
end Go.Proofs.YtjdbdmhjakfldaaGreat
end
section
namespace Go.Proofs.YtjdbdmhjakfldaaGreat
open Go.Bv
theorem own_sw {e s : Nat} {H : Heap} {w : V} {n : Nat} {cs : List V} (hw : Bv.Own e s H w n cs) : kn w = true ∧ cellsOf w = [w] ∧ scal w = true := by
 rcases hw with ⟨rfl, _⟩ | ⟨r, rfl, _⟩ <;> exact ⟨rfl, rfl, rfl⟩
end Go.Proofs.YtjdbdmhjakfldaaGreat
end
section
namespace Go.Proofs.YtjdbdmhjakfldaaGreat
open Go.Bv
theorem off_div {s x : List Int} (h : ∀ d ∈ s, 1 ≤ d) (hx : ∀ i, i < s.length → 0 ≤ x.getD i 0 ∧ x.getD i 0 < s.getD i 0) : ∀ k i : Nat, i + k = s.length → offP s x s.length / prodL (s.drop i) = offP s x i
 | 0, i, hi => by
  have : s.length = i := by omega
  rw [← this, List.drop_length]
  simp [prodL]
 | k + 1, i, hi => by
  have ih := off_div h hx k (i + 1) (by omega)
  have h1 := hx i (by omega)
  rw [← idx_next h (by omega : i < s.length), ih]
  show (offP s x i * s.getD i 0 + x.getD i 0) / s.getD i 0 = _
  rw [Int.add_comm, Int.add_mul_ediv_right _ _ (by omega), Int.ediv_eq_zero_of_lt h1.1 h1.2]
  omega
theorem idx_off {s x : List Int} (h : ∀ d ∈ s, 1 ≤ d) (hl : x.length = s.length) (hx : ∀ i, i < s.length → 0 ≤ x.getD i 0 ∧ x.getD i 0 < s.getD i 0) : idxL s (offP s x s.length) = x := by
 refine ext_getD (by rw [idxL_len, hl]) fun j hj => ?_
 rw [idxL_len] at hj
 have e : (idxL s (offP s x s.length)).getD j 0 = idxAt s (offP s x s.length) j := by simp [idxL, List.getD, hj]
 have h1 := hx j hj
 rw [e, idxAt, off_div h hx (s.length - (j + 1)) (j + 1) (by omega)]
 show (offP s x j * s.getD j 0 + x.getD j 0) % s.getD j 0 = _
 rw [Int.add_comm, Int.add_mul_emod_self_right, Int.emod_eq_of_lt h1.1 h1.2]
theorem idx_part {s : List Int} (h : ∀ d ∈ s, 1 ≤ d) {m : Int} (h0 : 0 ≤ m) (h1 : m < prodL s) : ∀ i : Nat, i ≤ s.length → offP s (idxL s m) i = m / prodL (s.drop i)
 | 0, _ => by rw [List.drop_zero, Int.ediv_eq_zero_of_lt h0 h1]; rfl
 | i + 1, hi => by
  show offP s (idxL s m) i * s.getD i 0 + (idxL s m).getD i 0 = _
  have e : (idxL s m).getD i 0 = idxAt s m i := by simp [idxL, List.getD, show i < s.length by omega]
  rw [idx_part h h0 h1 i (by omega), e, idxAt, ← idx_next h (by omega : i < s.length)]
  exact Int.ediv_mul_add_emod _ _
theorem off_idx {s : List Int} (h : ∀ d ∈ s, 1 ≤ d) {m : Int} (h0 : 0 ≤ m) (h1 : m < prodL s) : offP s (idxL s m) s.length = m := by
 rw [idx_part h h0 h1 _ (Nat.le_refl _), List.drop_length]
 simp [prodL]
theorem ctR_at {ws : List Tq} {a : Nat} {x y : List Int} {k : Nat} (hk : k < ws.length) (ha : a < y.length) (hl : x.length = y.length) (hs : ∀ j, j < k → sumQ ws a (j + 1) ≤ sumQ ws a k) (h0 : 0 ≤ x.getD a 0) (h1 : x.getD a 0 < (ws.getD k q0n).shape.getD a 0) (hy : ∀ j, j < y.length → y.getD j 0 = if j = a then x.getD a 0 + sumQ ws a k else x.getD j 0) : ctR ws a y = atQ (ws.getD k q0n) x := by
 have hya : y.getD a 0 = x.getD a 0 + sumQ ws a k := by rw [hy a ha, if_pos rfl]
 have hst := ctR_step ws a y k (by omega) fun j hj hlt => by
  rw [ctX_a ws a y ha j] at hlt
  have h2 := hs j hj
  rw [show sumQ ws a (j + 1) = sumQ ws a j + (ws.getD j q0n).shape.getD a 0 from rfl] at h2
  omega
 have hdr : ws.drop k = ws.getD k q0n :: ws.drop (k + 1) := by
  rw [List.drop_eq_getElem_cons (by omega)]; simp [List.getD, hk]
 have hxe : ctX ws a y k = x := by
  refine ext_getD (by rw [ctX_len, hl]) fun j hj => ?_
  rw [ctX_len] at hj
  by_cases hja : j = a
  ·subst hja; rw [ctX_a ws j y ha k, hya]; omega
  ·rw [ctX_b ws a y hja k, hy j hj, if_neg hja]
 rw [hst, hdr, ctR, hxe, if_pos h1]
theorem tnBack_may {q : Tq} (hm : mayP q.shape = 0) (he : (q.el.length : Int) = prodL q.shape) (hn : ∀ r ∈ q.el, NmQ r) : mayT (tnBack q) = 0 := by
 have hf : fitsT (tnBack q) = 0 := by
  show (if mayP q.shape ≠ 0 then mayP q.shape else if ((q.el.map rawOf).length : Int) ≠ countP q.shape then 13 else 0) = 0
  have hc : countP q.shape = prodL q.shape := by rw [countP, if_pos hm]
  rw [hm, hc]; simp [he]
 rw [mayT, hf, if_neg (by decide), if_pos]
 rw [List.all_eq_true]
 intro x hx
 simp only [tnBack, List.mem_map] at hx
 obtain ⟨r, hr, rfl⟩ := hx
 rw [okR, isQ_iff, hn r hr]
def catQ (tl : List Tn) (a : Nat) : Tq := ⟨catS tl a tl.length, elsC (tl.map tnOf) a (catS tl a tl.length) (prodL (catS tl a tl.length)).toNat⟩
theorem catT_back {tl : List Tn} {a : Nat} (h : CatOK tl a) (he : catE tl a = 0) : catT tl a = tnBack (catQ tl a) := by
 rw [catT, errT_ok he, Int.toNat_natCast, cat_back h]; rfl
theorem catQ_nm {tl : List Tn} {a : Nat} (h : CatOK tl a) : ∀ r ∈ (catQ tl a).el, NmQ r := fun r hr => by
 simp only [catQ, elsC, List.mem_map] at hr
 obtain ⟨i, _, rfl⟩ := hr
 obtain ⟨m1, m2, m3⟩ := mayP_zero h.last
 rw [h.ct (by rw [idxL_len, catS_len]) fun j hj => idxL_in m2 (i : Nat) j (by rw [catS_len]; exact hj)]
 exact nm_val _
theorem catQ_len {tl : List Tn} {a : Nat} (h : CatOK tl a) : ((catQ tl a).el.length : Int) = prodL (catQ tl a).shape := by
 obtain ⟨m1, m2, m3⟩ := mayP_zero h.last
 have := prodL_pos m2
 show ((elsC _ _ _ _).length : Int) = prodL (catS tl a tl.length)
 rw [elsC_len]; omega
theorem CatOK.sum {tl : List Tn} {a : Nat} (h : CatOK tl a) {j : Nat} : ∀ k : Nat, j ≤ k → k ≤ tl.length → sumK tl a j ≤ sumK tl a k
 | 0, h1, _ => by rw [show j = 0 by omega]; exact Int.le_refl _
 | k + 1, h1, h2 => by
  by_cases he : j = k + 1
  ·rw [he]; exact Int.le_refl _
  ·have ih := h.sum (j := j) k (by omega) (by omega)
   have := (h.d (j := k) (by omega) h.ha).1
   show _ ≤ sumK tl a k + _
   omega
def cutL (f : Int) (s : List Int) (a : Nat) (m : Nat) : List Int := (List.range m).flatMap fun j => if j = a then [f, f + s.getD j 0] else [0, s.getD j 0]
theorem cutL_succ (f : Int) (s : List Int) (a m : Nat) : cutL f s a (m + 1) = cutL f s a m ++ (if m = a then [f, f + s.getD m 0] else [0, s.getD m 0]) := by simp [cutL, List.range_succ]
theorem cutL_len (f : Int) (s : List Int) (a : Nat) : ∀ m, (cutL f s a m).length = 2 * m
 | 0 => rfl
 | m + 1 => by rw [cutL_succ, List.length_append, cutL_len f s a m]; split <;> simp <;> omega
theorem cutL_get (f : Int) (s : List Int) (a : Nat) : ∀ m j, j < m → (cutL f s a m).getD (2 * j) 0 = (if j = a then f else 0) ∧ (cutL f s a m).getD (2 * j + 1) 0 = (if j = a then f else 0) + s.getD j 0
 | 0, j, h => by omega
 | m + 1, j, h => by
  rw [cutL_succ]
  have hl := cutL_len f s a m
  by_cases hj : j = m
  ·subst hj
   simp only [List.getD]
   rw [List.getElem?_append_right (by omega), List.getElem?_append_right (by omega), hl, show 2 * j - 2 * j = 0 by omega, show 2 * j + 1 - 2 * j = 1 by omega]
   by_cases hja : j = a
   ·simp [hja]
   ·simp [hja]
  ·obtain ⟨h1, h2⟩ := cutL_get f s a m j (by omega)
   simp only [List.getD] at h1 h2 ⊢
   rw [List.getElem?_append_left (by omega), List.getElem?_append_left (by omega)]
   exact ⟨h1, h2⟩
theorem part_E {tl : List Tn} {a : Nat} (h : CatOK tl a) {k : Nat} (hk : k < tl.length) : sliceE (tnBack (catQ tl a)) (cutL (sumK tl a k) (tl.getD k t0n).shape a (tl.getD k t0n).shape.length) = 0 := by
 have hm := tnBack_may h.last (catQ_len h) (catQ_nm h)
 have hl := (h.f k hk).1
 have hs : (tnBack (catQ tl a)).shape = catS tl a tl.length := rfl
 have h1 := h.sum (j := 0) k (by omega) (by omega)
 have h2 := h.sum (j := k + 1) tl.length (by omega) (by omega)
 have h3 : sumK tl a (k + 1) = sumK tl a k + (tl.getD k t0n).shape.getD a 0 := rfl
 have h4 : sumK tl a 0 = 0 := rfl
 rw [sliceE, if_neg (by omega), hs, catS_len, cutL_len, if_neg (by omega), if_neg, if_neg]
 ·intro hf
  have : cutsIn (cutL (sumK tl a k) (tl.getD k t0n).shape a (tl.getD k t0n).shape.length) (catS tl a tl.length) = true := cutsIn_iff.2 fun j hj => by
   rw [catS_len] at hj
   rw [(cutL_get _ _ _ _ j (by omega)).2, catS_at h.ha]
   by_cases hja : j = a
   ·rw [if_pos hja, if_pos hja, hja]; omega
   ·rw [if_neg hja, if_neg hja, (h.f k hk).2 j hj hja]; omega
  rw [this] at hf; cases hf
 ·intro hf
  have : cutsOK (cutL (sumK tl a k) (tl.getD k t0n).shape a (tl.getD k t0n).shape.length) (tl.getD 0 t0n).shape.length = true := cutsOK_iff.2 fun j hj => by
   obtain ⟨q1, q2⟩ := cutL_get (sumK tl a k) (tl.getD k t0n).shape a (tl.getD k t0n).shape.length j (by omega)
   have := (h.d hk hj).1
   rw [q1, q2]
   split <;> omega
  rw [this] at hf; cases hf
theorem part_T {tl : List Tn} {a : Nat} (h : CatOK tl a) {k : Nat} (hk : k < tl.length) : sliceT (tnBack (catQ tl a)) (cutL (sumK tl a k) (tl.getD k t0n).shape a (tl.getD k t0n).shape.length) = tl.getD k t0n := by
 obtain ⟨m1, m2, m3⟩ := mayP_zero h.last
 have hl := (h.f k hk).1
 obtain ⟨hfk, hmk, hek⟩ := mayT_zero (h.m k hk)
 obtain ⟨t1, t2, t3⟩ := mayP_zero hmk
 have hsn : ∀ j, j < k → sumQ (tl.map tnOf) a (j + 1) ≤ sumQ (tl.map tnOf) a k := fun j hj => by
  rw [sumQ_map _ _ _ (by omega), sumQ_map _ _ _ (by omega)]
  exact h.sum k (by omega) (by omega)
 have h1 := h.sum (j := 0) k (by omega) (by omega)
 have h2 := h.sum (j := k + 1) tl.length (by omega) (by omega)
 have h3 : sumK tl a (k + 1) = sumK tl a k + (tl.getD k t0n).shape.getD a 0 := rfl
 have h4 : sumK tl a 0 = 0 := rfl
 have hS : sliceS (cutL (sumK tl a k) (tl.getD k t0n).shape a (tl.getD k t0n).shape.length) (tl.getD k t0n).shape.length = (tl.getD k t0n).shape := by
  refine ext_getD (by rw [sliceS, tabI_len]) fun j hj => ?_
  rw [sliceS, tabI_len] at hj
  obtain ⟨q1, q2⟩ := cutL_get (sumK tl a k) (tl.getD k t0n).shape a (tl.getD k t0n).shape.length j hj
  rw [sliceS, tabI_get hj, q1, q2]
  omega
 rw [sliceT, errT_ok (part_E h hk)]
 rw [show (tnBack (catQ tl a)).shape = catS tl a tl.length from rfl, catS_len, ← hl, hS]
 rw [mvT_back _ (catQ_nm h) (catQ_len h), mvQ]
 refine Eq.trans ?_ (back_of (h.m k hk))
 congr 1
 rw [tnOf]
 congr 1
 refine List.ext_getElem (by rw [List.length_map, List.length_range, List.length_map]; omega) fun i i1 i2 => ?_
 simp only [List.length_map, List.length_range] at i1 i2
 simp only [List.getElem_map, List.getElem_range]
 have hin := idxL_in t2 (i : Nat)
 have hxl : (idxL (tl.getD k t0n).shape (i : Nat)).length = (tl.getD k t0n).shape.length := idxL_len _ _
 have hoff := off_idx t2 (m := (i : Nat)) (by omega) (by omega)
 generalize hx : idxL (tl.getD k t0n).shape (i : Nat) = x at *
 generalize hc : cutL (sumK tl a k) (tl.getD k t0n).shape a (tl.getD k t0n).shape.length = c at *
 have hyl : (addL c x).length = (tl.getD k t0n).shape.length := by rw [addL]; simp [hxl]
 have hy : ∀ j, j < (addL c x).length → (addL c x).getD j 0 = if j = a then x.getD a 0 + sumK tl a k else x.getD j 0 := fun j hj => by
  rw [hyl] at hj
  have e : (addL c x).getD j 0 = x.getD j 0 + c.getD (2 * j) 0 := by simp [addL, List.getD, show j < x.length by omega]
  rw [e, ← hc, (cutL_get (sumK tl a k) (tl.getD k t0n).shape a (tl.getD k t0n).shape.length j hj).1]
  by_cases hja : j = a
  ·rw [if_pos hja, if_pos hja, hja]
  ·rw [if_neg hja, if_neg hja]; omega
 have hin2 : ∀ j, j < (catS tl a tl.length).length → 0 ≤ (addL c x).getD j 0 ∧ (addL c x).getD j 0 < (catS tl a tl.length).getD j 0 := fun j hj => by
  rw [catS_len] at hj
  have q := hin j (by omega)
  rw [hy j (by omega), catS_at h.ha]
  by_cases hja : j = a
  ·subst hja; rw [if_pos rfl, if_pos rfl]; omega
  ·rw [if_neg hja, if_neg hja, ← (h.f k hk).2 j hj hja]; exact q
 have hsl := catS_len tl a tl.length
 have hz : offE (catS tl a tl.length) (addL c x) = 0 := by rw [offE, if_neg (by rw [h.last]; decide), if_neg (by omega), if_pos (inB_iff.2 hin2)]
 obtain ⟨o1, o2, o3⟩ := offN_lt hz
 have hoN : offN (catS tl a tl.length) (addL c x) = offP (catS tl a tl.length) (addL c x) (catS tl a tl.length).length := by rw [offN, if_pos hz]
 rw [atG, show (catQ tl a).shape = catS tl a tl.length from rfl, if_pos hz]
 have hel : (catQ tl a).el.getD (offN (catS tl a tl.length) (addL c x)).toNat q0 = ctR (tl.map tnOf) a (idxL (catS tl a tl.length) ((offN (catS tl a tl.length) (addL c x)).toNat : Nat)) := by
  have : (offN (catS tl a tl.length) (addL c x)).toNat < (prodL (catS tl a tl.length)).toNat := by omega
  simp [catQ, elsC, List.getD, this]
 rw [hel, show (((offN (catS tl a tl.length) (addL c x)).toNat : Nat) : Int) = offN (catS tl a tl.length) (addL c x) by omega, hoN, idx_off m2 (by omega) hin2]
 have hha := h.ha
 have hqa := hin a (by omega)
 have hw : (tl.map tnOf).getD k q0n = tnOf (tl.getD k t0n) := getD_tq hk _
 rw [ctR_at (x := x) (k := k) (by simpa using hk) (by omega) (by omega) hsn hqa.1 (by rw [hw]; exact hqa.2) (fun j hj => by rw [sumQ_map _ _ _ (by omega)]; exact hy j hj), hw]
 rw [atQ, show (tnOf (tl.getD k t0n)).shape = (tl.getD k t0n).shape from rfl, if_pos (inB_iff.2 hin), hoff]
 rw [tnOf, show ((i : Nat) : Int).toNat = i from rfl]
 generalize (tl.getD k t0n).el = E at *
 simp [List.getD, show i < E.length by omega]
end Go.Proofs.YtjdbdmhjakfldaaGreat
end
section
namespace Go.Proofs.YtjdbdmhjakfldaaGreat
open Go.Bv
theorem push_two {y : Ty} {e e' s' k : Nat} {v : V} {H : Heap} {xs : List Int} {p q : Int} {K : V → Heap → Prop} (h : Bv.Own e 1 H v k (ints xs)) (hk : k = xs.length) (hy : y.size = 1) (hb : 0 < y.bytes ∧ y.bytes ≤ 8) (hl : xs.length + 2 ≤ 17592186044416)
  (hK : ∀ v' H', Bv.Own e 1 H' v' (k + 2) (ints (xs ++ [p, q])) → Fr v H H' → kn v' = true ∧ cellsOf v' = [v'] ∧ scal v' = true → K v' H') :
  appw y e v (.ref H.length 0 2) (H ++ [some ⟨e', s', [.int .i64 p, .int .i64 q]⟩]) K := by
 rw [← hy] at h
 refine app_lit2 h (by rw [hy]; rfl) (by simp [scal]) (by omega) (by omega) (by have : (k + 2) * y.bytes ≤ (k + 2) * 8 := Nat.mul_le_mul_left _ hb.2; omega) (ints_scal _) fun H' k1 k2 k3 => ?_
 rw [hy] at k1
 exact hK _ H' (by rw [ints_append]; exact k1) k2 ⟨rfl, rfl, rfl⟩
theorem MoveParts_law (axis : Int) (tl : List Tn) (htl : tl.length ≤ 1048576) (hok : ∀ j, j < tl.length → TnOK (tl.getD j t0n)) : Pu C 10 [.int .i64 axis, .sl tl.length (tnsC tl)] (.bool true) := by
 have hcv := concat_val tl htl hok axis
 have hcT := catT_ok hok axis
 have hsm := catE_small tl axis
 refine Fc.keep (Fc.bodyT mixed Tryz.func10 w10 rfl Tryz.ntmps10 Tryz.results10 (Nat.le_of_ble_eq_true rfl) ?_)
 (refine Go1.out ?_;repeat' ((with_reducible first|refine Go1.mk ?_|((first|apply Br.dec|apply Br.beq|apply Br.bne|apply Br.mk)<;>intro h))<;>try simp -implicitDefEqProofs (maxSteps:=9000000) (disch:=first|omega|(simp only [lens];omega)) only [go_sem]))
 refine hcv.call ⟨.self rfl, .self (by simp [clo, cloL_tns]), trivial⟩ (by simp [clo, cloL, clo_tnV]) ?_
 by_cases he : catE tl axis = 0
 case neg =>
  generalize catT tl axis = T at *
  generalize catE tl axis = e at *
  (refine Go1.out ?_;repeat' ((with_reducible first|refine Go1.mk ?_|((first|apply Br.dec|apply Br.beq|apply Br.bne|apply Br.mk)<;>intro h))<;>try simp -implicitDefEqProofs (maxSteps:=9000000) (disch:=first|omega|(simp only [lens];omega)) only [go_sem]))
  refine Fc.pure known_spec rfl (fun g => rfl) ?_
  (refine Go1.out ?_;repeat' ((with_reducible first|refine Go1.mk ?_|((first|apply Br.dec|apply Br.beq|apply Br.bne|apply Br.mk)<;>intro h))<;>try simp -implicitDefEqProofs (maxSteps:=9000000) (disch:=first|omega|(simp only [lens];omega)) only [go_sem]))
  (refine keepP (by intro g; simp only [go_sem, ren, renL]) ?_)
  all_goals rfl
 obtain ⟨a, rfl, hc⟩ := catE_zero he
 have hb := catT_back hc he
 rw [he, hb]
 rw [hb] at hcT
 have hpE := fun k hk => part_E hc (k := k) hk
 have hpT := fun k hk => part_T hc (k := k) hk
 have hTs : (tnBack (catQ tl a)).shape = catS tl a tl.length := rfl
 generalize tnBack (catQ tl a) = T at *
 have hSl := catS_len tl a tl.length
 have hfl := hc.f
 have hcl := hc.last
 have hsum := fun k h => hc.sum (j := k) tl.length h (Nat.le_refl _)
 (refine Go1.out ?_;repeat' ((with_reducible first|refine Go1.mk ?_|((first|apply Br.dec|apply Br.beq|apply Br.bne|apply Br.mk)<;>intro h))<;>try simp -implicitDefEqProofs (maxSteps:=9000000) (disch:=first|omega|(simp only [lens];omega)) only [go_sem]))
 refine TT_loop_inv (fun n ts H => ∃ (k : Nat), (k ≤ tl.length) ∧ (n = tl.length - k) ∧ (rowOf H 0 = some ⟨26, 2, [.sl T.shape.length (ints T.shape), .sl T.el.length (rawsC T.el)]⟩) ∧ ts.length = 122 ∧ nth ts 0 = .int .i64 (a : Nat) ∧ nth ts 1 = .sl tl.length (tnsC tl) ∧ nth ts 5 = .ptr 0 0 ∧ nth ts 7 = .int .i64 (sumK tl a k) ∧ nth ts 8 = .int .i64 (k : Nat)) ?_ (n := tl.length) ?_
 ·skip
  rintro n ts H ⟨k, hk, hn, h0, hL, hs0, hs1, hs5, hs7, hs8⟩
  refine TT_env [(0, .int .i64 (a : Nat)), (1, .sl tl.length (tnsC tl)), (5, .ptr 0 0), (7, .int .i64 (sumK tl a k)), (8, .int .i64 (k : Nat))] hL (by simp only [List.forall_mem_cons, hs0, hs1, hs5, hs7, hs8, true_and]; exact fun _ h => nomatch h) ?_
  clear hL hs0 hs1 hs5 hs7 hs8 ts
  refine TT_of mixed ?_
  by_cases hkl : k < tl.length
  ·have hT := hok k hkl
   have hE := hpE k hkl
   have hP := hpT k hkl
   have hd : ∀ i, i < (tl.getD 0 t0n).shape.length → 1 ≤ (tl.getD k t0n).shape.getD i 0 ∧ (tl.getD k t0n).shape.getD i 0 ≤ 1024 := fun i hi => hc.d hkl hi
   have hln := (hfl k hkl).1
   have ha := hc.ha
   have h4 : (tl.getD 0 t0n).shape.length ≤ 4 := (mayP_zero (mayT_zero (hc.m 0 hc.n)).2.1).1
   generalize hTT : tl.getD k t0n = t at *
   have hsk := hsum k (by omega)
   have hsk1 := hsum (k + 1) (by omega)
   have hsz : 0 ≤ sumK tl a k := hc.sum (j := 0) k (by omega) (by omega)
   have hS4 : sumK tl a tl.length ≤ 1024 := by
    obtain ⟨m1, m2, m3⟩ := mayP_zero hcl
    have := getD_le_prodL m2 (i := a) (by rw [hSl]; exact ha)
    rw [catS_at ha, if_pos rfl] at this
    omega
   have hk1 : sumK tl a (k + 1) = sumK tl a k + t.shape.getD a 0 := by rw [← hTT]; rfl
   rw [hk1] at hsk1
   subst hn
   (refine Go1.out ?_;repeat' ((with_reducible first|refine Go1.mk ?_|((first|apply Br.dec|apply Br.beq|apply Br.bne|apply Br.mk)<;>intro h))<;>try simp -implicitDefEqProofs (maxSteps:=9000000) (disch:=first|omega|(simp only [lens];omega)) only [go_sem, hTT]))
   refine TT_loop_inv (fun n ts H => ∃ (i : Nat) (u : V), (i ≤ t.shape.length) ∧ (rowOf H 0 = some ⟨26, 2, [.sl T.shape.length (ints T.shape), .sl T.el.length (rawsC T.el)]⟩) ∧ (Bv.Own 3 1 H u (2 * i) (ints (cutL (sumK tl a k) t.shape a i))) ∧ (n = t.shape.length - i) ∧ ts.length = 122 ∧ nth ts 0 = .int .i64 (a : Nat) ∧ nth ts 1 = .sl tl.length (tnsC tl) ∧ nth ts 5 = .ptr 0 0 ∧ nth ts 7 = .int .i64 (sumK tl a k) ∧ nth ts 8 = .int .i64 (k : Nat) ∧ nth ts 9 = u ∧ nth ts 10 = .int .i64 (i : Nat)) ?_ (n := t.shape.length) ?_
   ·skip
    rintro n ts H ⟨i, u, hi, h0, hu, hn, hL, hs0, hs1, hs5, hs7, hs8, hs9, hs10⟩
    refine TT_env [(0, .int .i64 (a : Nat)), (1, .sl tl.length (tnsC tl)), (5, .ptr 0 0), (7, .int .i64 (sumK tl a k)), (8, .int .i64 (k : Nat)), (9, u), (10, .int .i64 (i : Nat))] hL (by simp only [List.forall_mem_cons, hs0, hs1, hs5, hs7, hs8, hs9, hs10, true_and]; exact fun _ h => nomatch h) ?_
    clear hL hs0 hs1 hs5 hs7 hs8 hs9 hs10 ts
    refine TT_of mixed ?_
    obtain ⟨a1, a2, a3⟩ := own_sw hu
    have hcl := cutL_len (sumK tl a k) t.shape a i
    by_cases hil : i < t.shape.length
    ·have hdi := hd i (by omega)
     have hcs := cutL_succ (sumK tl a k) t.shape a i
     by_cases hia : i = a
     ·subst hia
      rw [if_pos rfl] at hcs
      (refine Go1.out ?_;repeat' ((with_reducible first|refine Go1.mk ?_|((first|apply Br.dec|apply Br.beq|apply Br.bne|apply Br.mk)<;>intro h))<;>try simp -implicitDefEqProofs (maxSteps:=9000000) (disch:=first|omega|(simp only [lens];omega)) only [go_sem, hTT, a1, a2, a3]))
      refine push_two hu hcl.symm rfl ⟨by decide, by decide⟩ (by omega) fun u' H1 hu1 hF hk2 => ?_
      obtain ⟨b1, b2, b3⟩ := hk2
      rw [← hcs] at hu1
      have h0' := fr_keep hu hF h0 (by decide)
      (refine Go1.out ?_;repeat' ((with_reducible first|refine Go1.mk ?_|((first|apply Br.dec|apply Br.beq|apply Br.bne|apply Br.mk)<;>intro h))<;>try simp -implicitDefEqProofs (maxSteps:=9000000) (disch:=first|omega|(simp only [lens];omega)) only [go_sem, b1, b2, b3]))
      exact ⟨t.shape.length - (i + 1), by omega, i + 1, u', by omega, h0', hu1, rfl, (by (repeat' apply And.intro) <;> (first | rfl | omega | (congr 1; omega) | assumption | (congr 1; assumption)))⟩
     ·rw [if_neg hia] at hcs
      (refine Go1.out ?_;repeat' ((with_reducible first|refine Go1.mk ?_|((first|apply Br.dec|apply Br.beq|apply Br.bne|apply Br.mk)<;>intro h))<;>try simp -implicitDefEqProofs (maxSteps:=9000000) (disch:=first|omega|(simp only [lens];omega)) only [go_sem, hTT, a1, a2, a3]))
      refine push_two hu hcl.symm rfl ⟨by decide, by decide⟩ (by omega) fun u' H1 hu1 hF hk2 => ?_
      obtain ⟨b1, b2, b3⟩ := hk2
      rw [← hcs] at hu1
      have h0' := fr_keep hu hF h0 (by decide)
      (refine Go1.out ?_;repeat' ((with_reducible first|refine Go1.mk ?_|((first|apply Br.dec|apply Br.beq|apply Br.bne|apply Br.mk)<;>intro h))<;>try simp -implicitDefEqProofs (maxSteps:=9000000) (disch:=first|omega|(simp only [lens];omega)) only [go_sem, b1, b2, b3]))
      exact ⟨t.shape.length - (i + 1), by omega, i + 1, u', by omega, h0', hu1, rfl, (by (repeat' apply And.intro) <;> (first | rfl | omega | (congr 1; omega) | assumption | (congr 1; assumption)))⟩
    ·have his : i = t.shape.length := by omega
     subst his
     have hsv := slice_val T hcT (cutL (sumK tl a k) t.shape a t.shape.length) (by omega)
     rw [hE, hP, hcl] at hsv
     have hda := hd a ha
     have hsame := same07_spec t t hT hT
     rw [same_refl] at hsame
     (refine Go1.out ?_;repeat' ((with_reducible first|refine Go1.mk ?_|((first|apply Br.dec|apply Br.beq|apply Br.bne|apply Br.mk)<;>intro h))<;>try simp -implicitDefEqProofs (maxSteps:=9000000) (disch:=first|omega|(simp only [lens];omega)) only [go_sem, h0, hTT, a1, a2, a3]))
     refine hsv.call ⟨.self (clo_tnV _), hu.bor' (cloL_ints _), trivial⟩ (by simp [clo, cloL, clo_tnV]) ?_
     (refine Go1.out ?_;repeat' ((with_reducible first|refine Go1.mk ?_|((first|apply Br.dec|apply Br.beq|apply Br.bne|apply Br.mk)<;>intro h))<;>try simp -implicitDefEqProofs (maxSteps:=9000000) (disch:=first|omega|(simp only [lens];omega)) only [go_sem]))
     rw [hTT]
     refine Pc.pure hsame (by simp [cloL, clo, cloL_ints, cloL_raws, clo_tnV]) (fun g => rfl) ?_
     (refine Go1.out ?_;repeat' ((with_reducible first|refine Go1.mk ?_|((first|apply Br.dec|apply Br.beq|apply Br.bne|apply Br.mk)<;>intro h))<;>try simp -implicitDefEqProofs (maxSteps:=9000000) (disch:=first|omega|(simp only [lens];omega)) only [go_sem, hTT]))
     exact ⟨tl.length - (k + 1), by omega, k + 1, by omega, rfl, rowOf_keep h0 _, by rw [hk1], by congr 1⟩
   ·exact ⟨0, .nil, by omega, h0, Bv.Own.nil _ _ _, rfl, rfl, rfl, rfl, rfl, rfl, rfl, rfl, rfl⟩
  ·have hks : k = tl.length := by omega
   subst hks
   have haT : (a : Int) < T.shape.length := by rw [hTs, hSl]; have := hc.ha; omega
   have hTa : T.shape.getD a 0 = sumK tl a tl.length := by rw [hTs, catS_at hc.ha, if_pos rfl]
   (refine Go1.out ?_;repeat' ((with_reducible first|refine Go1.mk ?_|((first|apply Br.dec|apply Br.beq|apply Br.bne|apply Br.mk)<;>intro h))<;>try simp -implicitDefEqProofs (maxSteps:=9000000) (disch:=first|omega|(simp only [lens];omega)) only [go_sem, h0, hTa]))
   refine Fc.pure known_spec rfl (fun g => rfl) ?_
   (refine Go1.out ?_;repeat' ((with_reducible first|refine Go1.mk ?_|((first|apply Br.dec|apply Br.beq|apply Br.bne|apply Br.mk)<;>intro h))<;>try simp -implicitDefEqProofs (maxSteps:=9000000) (disch:=first|omega|(simp only [lens];omega)) only [go_sem]))
   (refine keepP (by intro g; simp only [go_sem, ren, renL]) ?_)
   rfl
 ·exact ⟨0, by omega, rfl, rfl, rfl, rfl, rfl, rfl, rfl, rfl⟩
end Go.Proofs.YtjdbdmhjakfldaaGreat
end
section
namespace Go.Proofs.YtjdbdmhjakfldaaGreat
open Go.Bv
theorem a_own : ownKnob Tryz.prog.godebug = none := by kernel_rfl
theorem a_laid : laidOutB Tryz.prog = true := by kernel_rfl
theorem rd_int : U.Reads Tryz.prog 3 fun vs => ∃ n, vs = [V.int .i64 n] ∧ (Lit.int .i64 n).wf = true := U.Reads.int Tryz.underlying3
theorem rd_ints {t : Nat} (hu : Tryz.prog.underlying t = some (.slice 3)) : U.Reads Tryz.prog t fun vs => ∃ xs : List Int, vs = [.sl xs.length (ints xs)] ∧ xs.length ≤ 1048576 ∧ ∀ x ∈ xs, (Lit.int .i64 x).wf = true := U.Reads.ints hu Tryz.underlying3 (by kernel_rfl)
theorem rd_u32 : U.Reads Tryz.prog 59 fun vs => ∃ n : Nat, vs = [V.int .u32 (n : Nat)] ∧ n < 4294967296 := U.Reads.mono (U.Reads.int Tryz.underlying59) fun vs ⟨n, h, hw⟩ => by
 have hx : 0 ≤ n ∧ n ≤ 4294967295 := by simpa [Lit.wf, IntKind.min, IntKind.max, IntKind.signed, IntKind.bits] using hw
 exact ⟨n.toNat, by rw [h]; congr 2; omega, by omega⟩
theorem rd_nat : U.Reads Tryz.prog 56 fun vs => ∃ l : List Nat, vs = [NA l] ∧ l.length ≤ 1048576 ∧ Lim l :=
 U.Reads.mono (U.Reads.slice1 (g := fun n : Nat => .int .u32 (n : Nat)) Tryz.underlying56 (by kernel_rfl) rd_u32) fun vs ⟨xs, h1, h2, h3⟩ => ⟨xs, h1, h2, h3⟩
theorem rd_rat : U.Reads Tryz.prog 58 fun vs => ∃ x : Raw, vs = [.bool x.neg, NA x.num, NA x.den] ∧ RawOK x := by
 refine U.Reads.mono (U.Reads.struct (Qs := fun i vs => if i = 0 then ∃ b, vs = [V.bool b] else ∃ l : List Nat, vs = [NA l] ∧ l.length ≤ 1048576 ∧ Lim l) a_laid (of_decide_eq_true (by kernel_rfl)) Tryz.underlying58 ?_) ?_
 ·intro i f hf
  match i, hf with
  | 0, hf => cases hf; exact U.Reads.mono (U.Reads.bool Tryz.underlying4) fun vs h => by rw [if_pos rfl]; exact h
  | 1, hf => cases hf; exact U.Reads.mono rd_nat fun vs h => by rw [if_neg (by decide)]; exact h
  | 2, hf => cases hf; exact U.Reads.mono rd_nat fun vs h => by rw [if_neg (by decide)]; exact h
  | i + 3, hf => cases hf
 ·rintro u ⟨l, hl, hq, rfl⟩
  match l, hl with
  | [a, b, c], _ =>
   have h0 := hq 0 (by decide)
   have h1 := hq 1 (by decide)
   have h2 := hq 2 (by decide)
   obtain ⟨n, rfl⟩ := h0
   obtain ⟨xs, rfl, hx, hx2⟩ := h1
   obtain ⟨ys, rfl, hy, hy2⟩ := h2
   exact ⟨⟨n, xs, ys⟩, rfl, by show xs.length ≤ _; omega, by show ys.length ≤ _; omega, hx2, hy2⟩
theorem raws_of : ∀ {l : List (List V)}, (∀ x ∈ l, ∃ r : Raw, x = [.bool r.neg, NA r.num, NA r.den] ∧ RawOK r) → ∃ xs : List Raw, xs.length = l.length ∧ l.flatten = rawsC xs ∧ ∀ x ∈ xs, RawOK x
 | [], _ => ⟨[], rfl, rfl, by simp⟩
 | x :: l, h => by
  obtain ⟨a, rfl, ha⟩ := h x (by simp)
  obtain ⟨xs, h1, h2, h3⟩ := raws_of (l := l) fun y hy => h y (by simp [hy])
  exact ⟨a :: xs, by simp [h1], by rw [List.flatten_cons, h2]; rfl, fun b hb => by
   rcases List.mem_cons.1 hb with rfl | hb
   ·exact ha
   ·exact h3 b hb⟩
theorem rd_rats : U.Reads Tryz.prog 24 fun vs => ∃ xs : List Raw, vs = [.sl xs.length (rawsC xs)] ∧ xs.length ≤ 1048576 ∧ ∀ x ∈ xs, RawOK x :=
 U.Reads.mono (U.Reads.slice (s := 3) Tryz.underlying24 (by kernel_rfl) (by decide) rd_rat) fun vs ⟨l, h1, h2, h3⟩ => by
  obtain ⟨xs, q1, q2, q3⟩ := raws_of h1
  exact ⟨xs, by rw [h3, q1, q2], by omega, q3⟩
theorem rd_tensor : U.Reads Tryz.prog 26 fun vs => ∃ t : Tn, vs = [.sl t.shape.length (ints t.shape), .sl t.el.length (rawsC t.el)] ∧ TnOK t := by
 refine U.Reads.mono (U.Reads.struct (Qs := fun i vs => if i = 0 then ∃ xs : List Int, vs = [.sl xs.length (ints xs)] ∧ xs.length ≤ 1048576 ∧ ∀ x ∈ xs, (Lit.int .i64 x).wf = true else ∃ xs : List Raw, vs = [.sl xs.length (rawsC xs)] ∧ xs.length ≤ 1048576 ∧ ∀ x ∈ xs, RawOK x) a_laid (of_decide_eq_true (by kernel_rfl)) Tryz.underlying26 ?_) ?_
 ·intro i f hf
  match i, hf with
  | 0, hf => cases hf; exact U.Reads.mono (rd_ints Tryz.underlying23) fun vs h => by rw [if_pos rfl]; exact h
  | 1, hf => cases hf; exact U.Reads.mono rd_rats fun vs h => by rw [if_neg (by decide)]; exact h
  | i + 2, hf => cases hf
 ·rintro u ⟨l, hl, hq, rfl⟩
  match l, hl with
  | [a, b], _ =>
   have h0 := hq 0 (by decide)
   have h1 := hq 1 (by decide)
   obtain ⟨xs, rfl, hx, _⟩ := h0
   obtain ⟨ys, rfl, hy, hy2⟩ := h1
   exact ⟨⟨xs, ys⟩, rfl, by show xs.length ≤ _; omega, by show ys.length ≤ _; omega, hy2⟩
theorem arg_int : U.ArgV Tryz.prog 3 fun u => ∃ n : Int, u = .int .i64 n ∧ (Lit.int .i64 n).wf = true := U.ArgV.mono (U.ArgV.one rd_int (by rw [Tryz.underlying3])) fun u ⟨n, h, h2⟩ => ⟨n, by simpa using h, h2⟩
end Go.Proofs.YtjdbdmhjakfldaaGreat
end
section
namespace Go.Proofs.YtjdbdmhjakfldaaGreat
open Go.Bv
theorem tns_of : ∀ {l : List (List V)}, (∀ x ∈ l, ∃ t : Tn, x = [.sl t.shape.length (ints t.shape), .sl t.el.length (rawsC t.el)] ∧ TnOK t) → ∃ tl : List Tn, tl.length = l.length ∧ l.flatten = tnsC tl ∧ ∀ t ∈ tl, TnOK t
 | [], _ => ⟨[], rfl, rfl, by simp⟩
 | x :: l, h => by
  obtain ⟨a, rfl, ha⟩ := h x (by simp)
  obtain ⟨tl, h1, h2, h3⟩ := tns_of (l := l) fun y hy => h y (by simp [hy])
  exact ⟨a :: tl, by simp [h1], by rw [List.flatten_cons, h2]; rfl, fun b hb => by
   rcases List.mem_cons.1 hb with rfl | hb
   ·exact ha
   ·exact h3 b hb⟩
theorem rd_tensors : U.Reads Tryz.prog 48 fun vs => ∃ tl : List Tn, vs = [.sl tl.length (tnsC tl)] ∧ tl.length ≤ 1048576 ∧ ∀ t ∈ tl, TnOK t :=
 U.Reads.mono (U.Reads.slice (s := 2) Tryz.underlying48 (by kernel_rfl) (by decide) rd_tensor) fun vs ⟨l, h1, h2, h3⟩ => by
  obtain ⟨tl, q1, q2, q3⟩ := tns_of h1
  exact ⟨tl, by rw [h3, q1, q2], by omega, q3⟩
theorem arg_tensors : U.ArgV Tryz.prog 48 fun u => ∃ tl : List Tn, u = .sl tl.length (tnsC tl) ∧ tl.length ≤ 1048576 ∧ ∀ t ∈ tl, TnOK t :=
 U.ArgV.mono (U.ArgV.one rd_tensors (by rw [Tryz.underlying48])) fun u ⟨tl, h, h1, h2⟩ => ⟨tl, by simpa using h, h1, h2⟩
theorem args_at : U.ArgsV Tryz.prog [3, 48] fun us => ∃ (n : Int) (tl : List Tn), us = [.int .i64 n, .sl tl.length (tnsC tl)] ∧ (Lit.int .i64 n).wf = true ∧ tl.length ≤ 1048576 ∧ ∀ t ∈ tl, TnOK t := by
 refine U.ArgsV.mono (U.ArgsV.cons arg_int (U.ArgsV.cons arg_tensors U.ArgsV.nil)) ?_
 rintro us ⟨_, _, rfl, ⟨n, rfl, h1⟩, _, _, rfl, ⟨tl, rfl, h2, h3⟩, rfl⟩
 exact ⟨n, tl, rfl, h1, h2, h3⟩
end Go.Proofs.YtjdbdmhjakfldaaGreat
end
