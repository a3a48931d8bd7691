/-
  THE GIVEN STATEMENT OF MoveOwn, second form: for every tensor, of bulk at most 1048576, the call returns true and leaves what it was handed as it was.
  Conditions: none beyond the statement's own.
-/
import Derived.Test.YtjdbdmhjakfldaaGreatO6
import Derived.OpenShut
set_option maxRecDepth 100000
namespace Go.Proofs.YtjdbdmhjakfldaaGreat
open Go.Bv
theorem moveOwn_lifted (os : Os) (started : os.Started) (H : Type) (enc : TypeId × Value → H) (F : Stop.Interp) :
    ReturnsInHanded {} Tryz.checked os 11 .any ((Rows.OpenSpec.upto Rows.moveOwnSpec).pre6 enc Tryz.prog Tryz.f11 Rows.moveOwnUptoRow.domain false) (((Rows.OpenSpec.upto Rows.moveOwnSpec).at F).post enc Tryz.prog Tryz.f11 false true false false) := by
  refine returnsInHanded_of_cond (C := Tryz.checked) (s := Rows.OpenSpec.upto Rows.moveOwnSpec) (k := Rows.uptoSmall) rfl a_own started (by kernel_rfl) Tryz.func11
    (OpenSpec.witness (enc := enc) (C := Tryz.checked) (s := Rows.OpenSpec.upto Rows.moveOwnSpec) (k := Rows.uptoSmall) rfl false ⟨#[], #[.agg #[.slice none 0 0, .slice none 0 0]], []⟩ 8 (by kernel_rfl) (by kernel_rfl) (by kernel_rfl)
      (x := ([.agg [.nil, .nil]], [], [])) (by kernel_rfl) rfl (by kernel_rfl)) ?_
  intro W base args ds gs before hval hW _ hk _
  refine U.law_contract (A := Tryz.checked) (C := C) rfl (fn := Tryz.f11) (s := Rows.moveOwnSpec) a_laid rfl (fun ds hd => ?_) (by kernel_rfl) Tryz.underlying4 ?_ (args_one) ?_ W base args ds gs before hval hW hk
  · match ds, hd with
    | [_], _ => exact ⟨rfl, rfl, rfl⟩
  · rw [show (Tryz.f11).params = _ from Tryz.params11]
    intro t ht
    have key : ∀ t ∈ [26], Tryz.prog.readableRec t = true ∧ t < Tryz.prog.types.size := by
      simp only [zFm]
      exact ⟨⟨by kernel_rfl, of_decide_eq_true (by kernel_rfl)⟩, fun _ h => nomatch h⟩
    exact key t ht
  · rintro us ⟨x, rfl, hx⟩
    exact Qmcz x hx
theorem moveOwn_holds : Rows.MoveOwnUptoSaid :=
  OpenClaim.holds_of_cond 11 Tryz.f11 rfl rfl rfl rfl rfl rfl rfl ⟨rfl, rfl, rfl, rfl, rfl⟩ rfl rfl rfl rfl rfl (by kernel_rfl) Tryz.func11 (by kernel_rfl)
    (of_decide_eq_true (by kernel_rfl)) (by unfold Func.isWrapper; rw [if_neg (by decide +kernel)]; exact ⟨rfl, rfl⟩)
    (fun os started H enc _ F => moveOwn_lifted os started H enc F)
end Go.Proofs.YtjdbdmhjakfldaaGreat
