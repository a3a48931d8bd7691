/-
  THE GIVEN STATEMENT OF MoveBroadcasts, second form: for every tensor and shape, of bulk at most 1048576, the call returns true and leaves what it was handed as it was.
  Conditions: none beyond the statement's own.
-/
import Derived.Test.YtjdbdmhjakfldaaGreatQ6
import Derived.OpenShut
set_option maxRecDepth 100000
namespace Go.Proofs.YtjdbdmhjakfldaaGreat
open Go.Bv
theorem moveBroadcasts_lifted (os : Os) (started : os.Started) (H : Type) (enc : TypeId × Value → H) (F : Stop.Interp) :
    ReturnsInHanded {} Tryz.checked os 8 .any ((Rows.OpenSpec.upto Rows.moveBroadcastsSpec).pre6 enc Tryz.prog Tryz.f8 Rows.moveBroadcastsUptoRow.domain false) (((Rows.OpenSpec.upto Rows.moveBroadcastsSpec).at F).post enc Tryz.prog Tryz.f8 false true false false) := by
  refine returnsInHanded_of_cond (C := Tryz.checked) (s := Rows.OpenSpec.upto Rows.moveBroadcastsSpec) (k := Rows.uptoSmall) rfl a_own started (by kernel_rfl) Tryz.func8
    (OpenSpec.witness (enc := enc) (C := Tryz.checked) (s := Rows.OpenSpec.upto Rows.moveBroadcastsSpec) (k := Rows.uptoSmall) rfl false ⟨#[], #[.agg #[.slice none 0 0, .slice none 0 0], .slice none 0 0], []⟩ 8 (by kernel_rfl) (by kernel_rfl) (by kernel_rfl)
      (x := ([.agg [.nil, .nil], .nil], [], [])) (by kernel_rfl) rfl (by kernel_rfl)) ?_
  intro W base args ds gs before hval hW _ hk _
  refine U.law_contract (A := Tryz.checked) (C := C) rfl (fn := Tryz.f8) (s := Rows.moveBroadcastsSpec) a_laid rfl (fun ds hd => ?_) (by kernel_rfl) Tryz.underlying4 ?_ (args_ts Tryz.underlying23) ?_ W base args ds gs before hval hW hk
  · match ds, hd with
    | [_, _], _ => exact ⟨rfl, rfl, rfl⟩
  · rw [show (Tryz.f8).params = _ from Tryz.params8]
    intro t ht
    have key : ∀ t ∈ [26, 23], Tryz.prog.readableRec t = true ∧ t < Tryz.prog.types.size := by
      simp only [List.forall_mem_cons]
      exact ⟨⟨by kernel_rfl, of_decide_eq_true (by kernel_rfl)⟩, ⟨by kernel_rfl, of_decide_eq_true (by kernel_rfl)⟩, fun _ h => nomatch h⟩
    exact key t ht
  · rintro us ⟨x, s, rfl, hx, hs, _⟩
    exact MoveBroadcasts_law x hx s (by omega)
theorem moveBroadcasts_holds : Rows.MoveBroadcastsUptoSaid :=
  OpenClaim.holds_of_cond 8 Tryz.f8 rfl rfl rfl rfl rfl rfl rfl ⟨rfl, rfl, rfl, rfl, rfl⟩ rfl rfl rfl rfl rfl (by kernel_rfl) Tryz.func8 (by kernel_rfl)
    (of_decide_eq_true (by kernel_rfl)) (by unfold Func.isWrapper; rw [if_neg (by decide +kernel)]; exact ⟨rfl, rfl⟩)
    (fun os started H enc _ F => moveBroadcasts_lifted os started H enc F)
end Go.Proofs.YtjdbdmhjakfldaaGreat
