/-
  THE GIVEN STATEMENT OF InferOwn: for every version, node and list of shapes the call returns true and leaves what it was handed as it was.
  Conditions: none beyond the statement's own.
-/
import Derived.Test.YtlomgfdepllanaaQ4
set_option maxRecDepth 100000
namespace Go.Proofs.Ytlomgfdepllanaa
open Go.Bv
theorem inferOwn_lifted (os : Os) (started : os.Started) (H : Type) (enc : TypeId × Value → H) :
    ReturnsInHanded {} Try.checked os 6 .any (Rows.inferOwnSpec.pre6 enc Try.prog Try.f6 [] false) (Rows.inferOwnSpec.post enc Try.prog Try.f6 false true false false) := by
  refine Qks (A := Try.checked) (C := C) rfl started a_own (by kernel_rfl) Try.func6 a_laid rfl (fun ds hd => ?_) (by kernel_rfl) Try.underlying4 ?_ (Qzt) ?_
    (ChangeSpec.witness6 (enc := enc) (C := Try.checked) false ⟨#[], #[.int .i64 0, .agg #[.int .i64 0, .slice none 0 0, .slice none 0 0], .slice none 0 0], []⟩ 8 (by kernel_rfl) (by kernel_rfl) (by kernel_rfl) (by kernel_rfl))
  · match ds, hd with
    | [_, _, _], _ => exact ⟨rfl, rfl, rfl⟩
  · rw [show (Try.f6).params = _ from Try.params6]
    intro t ht
    have key : ∀ t ∈ [3, 25, 26], Try.prog.readableRec t = true ∧ t < Try.prog.types.size := by
      simp only [zFm]
      exact ⟨⟨by kernel_rfl, of_decide_eq_true (by kernel_rfl)⟩, ⟨by kernel_rfl, of_decide_eq_true (by kernel_rfl)⟩, ⟨by kernel_rfl, of_decide_eq_true (by kernel_rfl)⟩, fun _ h => nomatch h⟩
    exact key t ht
  · rintro us ⟨v, d, l, rfl, hL⟩
    exact Qfy v d l hL
theorem inferOwn_holds : Rows.InferOwnSaid :=
  OpenClaim.holds_of_wide 6 Try.f6 rfl rfl rfl rfl rfl rfl rfl ⟨rfl, rfl, rfl, rfl, rfl⟩ rfl rfl rfl rfl rfl (by kernel_rfl) Try.func6 (by kernel_rfl)
    (of_decide_eq_true (by kernel_rfl)) (by unfold Func.isWrapper; rw [if_neg (by decide +kernel)]; exact ⟨rfl, rfl⟩)
    (fun os started H enc _ => inferOwn_lifted os started H enc)
end Go.Proofs.Ytlomgfdepllanaa
