/-
  THE GIVEN STATEMENT OF InferScalars: the call returns true.
  Conditions: none beyond the statement's own.
-/
import Derived.Test.YtlomgfdepllanaaM8
set_option maxRecDepth 100000
namespace Go.Proofs.Ytlomgfdepllanaa
open Go.Bv
theorem inferScalars_lifted (os : Os) (started : os.Started) (H : Type) (enc : TypeId × Value → H) :
    ReturnsInHanded {} Try.checked os 8 .any (Rows.inferScalarsSpec.pre6 enc Try.prog Try.f8 [] false) (Rows.inferScalarsSpec.post enc Try.prog Try.f8 false true false false) := by
  refine law_lifted (A := Try.checked) (C := C) rfl started a_own (by kernel_rfl) Try.func8 a_laid rfl (fun ds hd => ?_) (by kernel_rfl) Try.underlying4 ?_ (args0) ?_
    (ChangeSpec.witness6 (enc := enc) (C := Try.checked) false ⟨#[], #[], []⟩ 8 (by kernel_rfl) (by kernel_rfl) (by kernel_rfl) (by kernel_rfl))
  · match ds, hd with
    | [], _ => exact ⟨rfl, rfl, rfl⟩
  · rw [show (Try.f8).params = _ from Try.params8]
    intro t ht
    have key : ∀ t ∈ [], Try.prog.readableRec t = true ∧ t < Try.prog.types.size := by
      exact fun _ h => nomatch h
    exact key t ht
  · rintro us rfl
    exact InferScalars_spec
theorem inferScalars_holds : Rows.InferScalarsSaid :=
  OpenClaim.holds_of_wide 8 Try.f8 rfl rfl rfl rfl rfl rfl rfl ⟨rfl, rfl, rfl, rfl, rfl⟩ rfl rfl rfl rfl rfl (by kernel_rfl) Try.func8 (by kernel_rfl)
    (of_decide_eq_true (by kernel_rfl)) (by unfold Func.isWrapper; rw [if_neg (by decide +kernel)]; exact ⟨rfl, rfl⟩)
    (fun os started H enc _ => inferScalars_lifted os started H enc)
end Go.Proofs.Ytlomgfdepllanaa
