/-
  THE GIVEN STATEMENT OF MoveParts, second form: for every axis and tensors, of bulk at most 1048576, the call returns true and leaves what it was handed as it was.
  Conditions: none beyond the statement's own.
-/
import Derived.Test.YtjdbdmhjakfldaaGreatP5
import Derived.OpenShut
set_option maxRecDepth 100000
namespace Go.Proofs.YtjdbdmhjakfldaaGreat
open Go.Bv
theorem moveParts_lifted (os : Os) (started : os.Started) (H : Type) (enc : TypeId × Value → H) (F : Stop.Interp) :
    ReturnsInHanded {} Tryz.checked os 10 .any ((Rows.OpenSpec.upto Rows.movePartsSpec).pre6 enc Tryz.prog Tryz.f10 Rows.movePartsUptoRow.domain false) (((Rows.OpenSpec.upto Rows.movePartsSpec).at F).post enc Tryz.prog Tryz.f10 false true false false) := by
  refine returnsInHanded_of_cond (C := Tryz.checked) (s := Rows.OpenSpec.upto Rows.movePartsSpec) (k := Rows.uptoSmall) rfl a_own started (by kernel_rfl) Tryz.func10
    (OpenSpec.witness (enc := enc) (C := Tryz.checked) (s := Rows.OpenSpec.upto Rows.movePartsSpec) (k := Rows.uptoSmall) rfl false ⟨#[], #[.int .i64 0, .slice none 0 0], []⟩ 8 (by kernel_rfl) (by kernel_rfl) (by kernel_rfl)
      (x := ([.lit (.int .i64 0), .nil], [], [])) (by kernel_rfl) rfl (by kernel_rfl)) ?_
  intro W base args ds gs before hval hW _ hk _
  refine U.law_contract (A := Tryz.checked) (C := C) rfl (fn := Tryz.f10) (s := Rows.movePartsSpec) a_laid rfl (fun ds hd => ?_) (by kernel_rfl) Tryz.underlying4 ?_ args_at ?_ W base args ds gs before hval hW hk
  · match ds, hd with
    | [_, _], _ => exact ⟨rfl, rfl, rfl⟩
  · rw [show (Tryz.f10).params = _ from Tryz.params10]
    intro t ht
    have key : ∀ t ∈ [3, 48], Tryz.prog.readableRec t = true ∧ t < Tryz.prog.types.size := by
      simp only [List.forall_mem_cons]
      exact ⟨⟨by kernel_rfl, of_decide_eq_true (by kernel_rfl)⟩, ⟨by kernel_rfl, of_decide_eq_true (by kernel_rfl)⟩, fun _ h => nomatch h⟩
    exact key t ht
  · rintro us ⟨n, tl, rfl, _, h1, h2⟩
    exact MoveParts_law n tl h1 fun j hj => h2 _ (by simp [List.getD, hj])
theorem moveParts_holds : Rows.MovePartsUptoSaid :=
  OpenClaim.holds_of_cond 10 Tryz.f10 rfl rfl rfl rfl rfl rfl rfl ⟨rfl, rfl, rfl, rfl, rfl⟩ rfl rfl rfl rfl rfl (by kernel_rfl) Tryz.func10 (by kernel_rfl)
    (of_decide_eq_true (by kernel_rfl)) (by unfold Func.isWrapper; rw [if_neg (by decide +kernel)]; exact ⟨rfl, rfl⟩)
    (fun os started H enc _ F => moveParts_lifted os started H enc F)
end Go.Proofs.YtjdbdmhjakfldaaGreat
