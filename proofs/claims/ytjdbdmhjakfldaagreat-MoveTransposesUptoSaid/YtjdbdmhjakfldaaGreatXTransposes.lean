/-
  THE GIVEN STATEMENT OF MoveTransposes, second form: for every tensor and numbers, of bulk at most 1048576, the call returns true and leaves what it was handed as it was.
  Conditions: none beyond the statement's own.
-/
import Derived.Test.YtjdbdmhjakfldaaGreatT6
import Derived.OpenShut
set_option maxRecDepth 100000
namespace Go.Proofs.YtjdbdmhjakfldaaGreat
open Go.Bv
theorem moveTransposes_lifted (os : Os) (started : os.Started) (H : Type) (enc : TypeId × Value → H) (F : Stop.Interp) :
    ReturnsInHanded {} Tryz.checked os 3 .any ((Rows.OpenSpec.upto Rows.moveTransposesSpec).pre6 enc Tryz.prog Tryz.f3 Rows.moveTransposesUptoRow.domain false) (((Rows.OpenSpec.upto Rows.moveTransposesSpec).at F).post enc Tryz.prog Tryz.f3 false true false false) := by
  refine returnsInHanded_of_cond (C := Tryz.checked) (s := Rows.OpenSpec.upto Rows.moveTransposesSpec) (k := Rows.uptoSmall) rfl a_own started (by kernel_rfl) Tryz.func3
    (OpenSpec.witness (enc := enc) (C := Tryz.checked) (s := Rows.OpenSpec.upto Rows.moveTransposesSpec) (k := Rows.uptoSmall) rfl false ⟨#[], #[.agg #[.slice none 0 0, .slice none 0 0], .slice none 0 0], []⟩ 8 (by kernel_rfl) (by kernel_rfl) (by kernel_rfl)
      (x := ([.agg [.nil, .nil], .nil], [], [])) (by kernel_rfl) rfl (by kernel_rfl)) ?_
  intro W base args ds gs before hval hW _ hk _
  refine U.law_contract (A := Tryz.checked) (C := C) rfl (fn := Tryz.f3) (s := Rows.moveTransposesSpec) a_laid rfl (fun ds hd => ?_) (by kernel_rfl) Tryz.underlying4 ?_ (args_ts Tryz.underlying22) ?_ W base args ds gs before hval hW hk
  · match ds, hd with
    | [_, _], _ => exact ⟨rfl, rfl, rfl⟩
  · rw [show (Tryz.f3).params = _ from Tryz.params3]
    intro t ht
    have key : ∀ t ∈ [26, 22], Tryz.prog.readableRec t = true ∧ t < Tryz.prog.types.size := by
      simp only [zFm]
      exact ⟨⟨by kernel_rfl, of_decide_eq_true (by kernel_rfl)⟩, ⟨by kernel_rfl, of_decide_eq_true (by kernel_rfl)⟩, fun _ h => nomatch h⟩
    exact key t ht
  · rintro us ⟨x, s, rfl, hx, hs, _⟩
    exact Qakz x hx s (by omega)
theorem moveTransposes_holds : Rows.MoveTransposesUptoSaid :=
  OpenClaim.holds_of_cond 3 Tryz.f3 rfl rfl rfl rfl rfl rfl rfl ⟨rfl, rfl, rfl, rfl, rfl⟩ rfl rfl rfl rfl rfl (by kernel_rfl) Tryz.func3 (by kernel_rfl)
    (of_decide_eq_true (by kernel_rfl)) (by unfold Func.isWrapper; rw [if_neg (by decide +kernel)]; exact ⟨rfl, rfl⟩)
    (fun os started H enc _ F => moveTransposes_lifted os started H enc F)
end Go.Proofs.YtjdbdmhjakfldaaGreat
