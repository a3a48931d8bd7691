/-
  THE GIVEN STATEMENT OF MoveTurns, second form: for every three tensors, numbers and pads, of bulk at most 1048576, the call returns true and leaves what it was handed as it was.
  Conditions: none beyond the statement's own.
-/
import Derived.Test.YtjdbdmhjakfldaaGreatU6
import Derived.OpenShut
set_option maxRecDepth 100000
namespace Go.Proofs.YtjdbdmhjakfldaaGreat
open Go.Bv
theorem moveTurns_lifted (os : Os) (started : os.Started) (H : Type) (enc : TypeId × Value → H) (F : Stop.Interp) :
    ReturnsInHanded {} Tryz.checked os 12 .any ((Rows.OpenSpec.upto Rows.moveTurnsSpec).pre6 enc Tryz.prog Tryz.f12 Rows.moveTurnsUptoRow.domain false) (((Rows.OpenSpec.upto Rows.moveTurnsSpec).at F).post enc Tryz.prog Tryz.f12 false true false false) := by
  refine returnsInHanded_of_cond (C := Tryz.checked) (s := Rows.OpenSpec.upto Rows.moveTurnsSpec) (k := Rows.uptoSmall) rfl a_own started (by kernel_rfl) Tryz.func12
    (OpenSpec.witness (enc := enc) (C := Tryz.checked) (s := Rows.OpenSpec.upto Rows.moveTurnsSpec) (k := Rows.uptoSmall) rfl false ⟨#[], #[.agg #[.slice none 0 0, .slice none 0 0], .slice none 0 0, .slice none 0 0, .agg #[.slice none 0 0, .slice none 0 0], .agg #[.slice none 0 0, .slice none 0 0]], []⟩ 8 (by kernel_rfl) (by kernel_rfl) (by kernel_rfl)
      (x := ([.agg [.nil, .nil], .nil, .nil, .agg [.nil, .nil], .agg [.nil, .nil]], [], [])) (by kernel_rfl) rfl (by kernel_rfl)) ?_
  intro W base args ds gs before hval hW _ hk _
  refine U.law_contract (A := Tryz.checked) (C := C) rfl (fn := Tryz.f12) (s := Rows.moveTurnsSpec) a_laid rfl (fun ds hd => ?_) (by kernel_rfl) Tryz.underlying4 ?_ (Qtu) ?_ W base args ds gs before hval hW hk
  · match ds, hd with
    | [_, _, _, _, _], _ => exact ⟨rfl, rfl, rfl⟩
  · rw [show (Tryz.f12).params = _ from Tryz.params12]
    intro t ht
    have key : ∀ t ∈ [26, 22, 22, 26, 26], Tryz.prog.readableRec t = true ∧ t < Tryz.prog.types.size := by
      simp only [zFm]
      exact ⟨⟨by kernel_rfl, of_decide_eq_true (by kernel_rfl)⟩, ⟨by kernel_rfl, of_decide_eq_true (by kernel_rfl)⟩, ⟨by kernel_rfl, of_decide_eq_true (by kernel_rfl)⟩, ⟨by kernel_rfl, of_decide_eq_true (by kernel_rfl)⟩, ⟨by kernel_rfl, of_decide_eq_true (by kernel_rfl)⟩, fun _ h => nomatch h⟩
    exact key t ht
  · rintro us ⟨x, p, l, y, z, rfl, ⟨hx, hy, hz⟩, ⟨sx, sy, sz⟩, hp, hl⟩
    exact Ql4 x p l y z hx hy hz sx sy sz hp hl
theorem moveTurns_holds : Rows.MoveTurnsUptoSaid :=
  OpenClaim.holds_of_cond 12 Tryz.f12 rfl rfl rfl rfl rfl rfl rfl ⟨rfl, rfl, rfl, rfl, rfl⟩ rfl rfl rfl rfl rfl (by kernel_rfl) Tryz.func12 (by kernel_rfl)
    (of_decide_eq_true (by kernel_rfl)) (by unfold Func.isWrapper; rw [if_neg (by decide +kernel)]; exact ⟨rfl, rfl⟩)
    (fun os started H enc _ F => moveTurns_lifted os started H enc F)
end Go.Proofs.YtjdbdmhjakfldaaGreat
