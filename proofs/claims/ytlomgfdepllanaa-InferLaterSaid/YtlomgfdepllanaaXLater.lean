/-
  THE GIVEN STATEMENT OF InferLater: for every version, node, list of shapes and later version the call returns true and leaves what it was handed as it was.
  Conditions: none beyond the statement's own.
-/
import Derived.Test.YtlomgfdepllanaaM6
set_option maxRecDepth 100000
namespace Go.Proofs.Ytlomgfdepllanaa
open Go.Bv
theorem args4 : ArgsV Try.prog [3, 25, 26, 3] fun us => ∃ (v : Int) (d : Nd) (l : List (List Int)) (w : Int), us = [.int .i64 v, .agg (ndC d), .sl l.length (intss l), .int .i64 w] ∧ LOK d l := by
  refine ArgsV.mono (ArgsV.cons arg_int (ArgsV.cons arg_node (ArgsV.cons arg_shapes (ArgsV.cons arg_int ArgsV.nil)))) ?_
  rintro us ⟨_, _, rfl, ⟨v, rfl⟩, _, _, rfl, ⟨d, rfl, h1, h2⟩, _, _, rfl, ⟨l, rfl, h3⟩, _, _, rfl, ⟨w, rfl⟩, rfl⟩
  refine ⟨v, d, l, w, rfl, h1, h2, fun k hk => ?_⟩
  rw [show l.getD k [] = l[k] by simp [List.getD, hk]]
  exact h3 _ (List.getElem_mem hk)
theorem inferLater_lifted (os : Os) (started : os.Started) (H : Type) (enc : TypeId × Value → H) :
    ReturnsInHanded {} Try.checked os 4 .any (Rows.inferLaterSpec.pre6 enc Try.prog Try.f4 [] false) (Rows.inferLaterSpec.post enc Try.prog Try.f4 false true false false) := by
  refine law_lifted (A := Try.checked) (C := C) rfl started a_own (by kernel_rfl) Try.func4 a_laid rfl (fun ds hd => ?_) (by kernel_rfl) Try.underlying4 ?_ (args4) ?_
    (ChangeSpec.witness6 (enc := enc) (C := Try.checked) false ⟨#[], #[.int .i64 0, .agg #[.int .i64 0, .slice none 0 0, .slice none 0 0], .slice none 0 0, .int .i64 0], []⟩ 8 (by kernel_rfl) (by kernel_rfl) (by kernel_rfl) (by kernel_rfl))
  · match ds, hd with
    | [_, _, _, _], _ => exact ⟨rfl, rfl, rfl⟩
  · rw [show (Try.f4).params = _ from Try.params4]
    intro t ht
    have key : ∀ t ∈ [3, 25, 26, 3], Try.prog.readableRec t = true ∧ t < Try.prog.types.size := by
      simp only [List.forall_mem_cons]
      exact ⟨⟨by kernel_rfl, of_decide_eq_true (by kernel_rfl)⟩, ⟨by kernel_rfl, of_decide_eq_true (by kernel_rfl)⟩, ⟨by kernel_rfl, of_decide_eq_true (by kernel_rfl)⟩, ⟨by kernel_rfl, of_decide_eq_true (by kernel_rfl)⟩, fun _ h => nomatch h⟩
    exact key t ht
  · rintro us ⟨v, d, l, w, rfl, hL⟩
    exact InferLater_spec v d l w hL
theorem inferLater_holds : Rows.InferLaterSaid :=
  OpenClaim.holds_of_wide 4 Try.f4 rfl rfl rfl rfl rfl rfl rfl ⟨rfl, rfl, rfl, rfl, rfl⟩ rfl rfl rfl rfl rfl (by kernel_rfl) Try.func4 (by kernel_rfl)
    (of_decide_eq_true (by kernel_rfl)) (by unfold Func.isWrapper; rw [if_neg (by decide +kernel)]; exact ⟨rfl, rfl⟩)
    (fun os started H enc _ => inferLater_lifted os started H enc)
end Go.Proofs.Ytlomgfdepllanaa
