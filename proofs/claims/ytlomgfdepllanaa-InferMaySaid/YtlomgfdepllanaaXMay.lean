/-
  THE GIVEN STATEMENT OF InferMay: for every version, node and list of shapes the call returns true and leaves what it was handed as it was.
  Conditions: none beyond the statement's own.
-/
import Derived.Test.YtlomgfdepllanaaM8
set_option maxRecDepth 100000
namespace Go.Proofs.Ytlomgfdepllanaa
open Go.Bv
theorem inferMay_lifted (os : Os) (started : os.Started) (H : Type) (enc : TypeId × Value → H) :
    ReturnsInHanded {} Try.checked os 7 .any (Rows.inferMaySpec.pre6 enc Try.prog Try.f7 [] false) (Rows.inferMaySpec.post enc Try.prog Try.f7 false true false false) := by
  refine law_lifted (A := Try.checked) (C := C) rfl started a_own (by kernel_rfl) Try.func7 a_laid rfl (fun ds hd => ?_) (by kernel_rfl) Try.underlying4 ?_ (args3) ?_
    (ChangeSpec.witness6 (enc := enc) (C := Try.checked) false ⟨#[], #[.int .i64 0, .agg #[.int .i64 0, .slice none 0 0, .slice none 0 0], .slice none 0 0], []⟩ 8 (by kernel_rfl) (by kernel_rfl) (by kernel_rfl) (by kernel_rfl))
  · match ds, hd with
    | [_, _, _], _ => exact ⟨rfl, rfl, rfl⟩
  · rw [show (Try.f7).params = _ from Try.params7]
    intro t ht
    have key : ∀ t ∈ [3, 25, 26], Try.prog.readableRec t = true ∧ t < Try.prog.types.size := by
      simp only [List.forall_mem_cons]
      exact ⟨⟨by kernel_rfl, of_decide_eq_true (by kernel_rfl)⟩, ⟨by kernel_rfl, of_decide_eq_true (by kernel_rfl)⟩, ⟨by kernel_rfl, of_decide_eq_true (by kernel_rfl)⟩, fun _ h => nomatch h⟩
    exact key t ht
  · rintro us ⟨v, d, l, rfl, hL⟩
    exact InferMay_spec v d l hL
theorem inferMay_holds : Rows.InferMaySaid :=
  OpenClaim.holds_of_wide 7 Try.f7 rfl rfl rfl rfl rfl rfl rfl ⟨rfl, rfl, rfl, rfl, rfl⟩ rfl rfl rfl rfl rfl (by kernel_rfl) Try.func7 (by kernel_rfl)
    (of_decide_eq_true (by kernel_rfl)) (by unfold Func.isWrapper; rw [if_neg (by decide +kernel)]; exact ⟨rfl, rfl⟩)
    (fun os started H enc _ => inferMay_lifted os started H enc)
end Go.Proofs.Ytlomgfdepllanaa
