/-
  THE GIVEN STATEMENT OF InferKernels: for every version, node and list of shapes the call returns true and leaves what it was handed as it was.
  Conditions: none beyond the statement's own.
-/
import Derived.Test.YtipmmjebfpbkmaaGreatQ7
set_option maxRecDepth 100000
namespace Go.Proofs.YtipmmjebfpbkmaaGreat
open Go.Bv
theorem inferKernels_lifted (os:Os) (started:os.Started) (H:Type) (enc:TypeId × Value→H) :
    ReturnsInHanded {} Tryz.checked os 3 .any (Rows.inferKernelsSpec.pre6 enc Tryz.prog Tryz.f3 [] false) (Rows.inferKernelsSpec.post enc Tryz.prog Tryz.f3 false true false false):=by
  refine Qyr (A:=Tryz.checked) (C:=C) rfl started a_own (by kernel_rfl) Tryz.func3 a_laid rfl (fun ds hd=>?_) (by kernel_rfl) Tryz.underlying4 ?_ (Xt2) ?_
    (ChangeSpec.witness6 (enc:=enc) (C:=Tryz.checked) false ⟨#[],#[.int .i64 0,.agg #[.int .i64 0,.slice none 0 0,.slice none 0 0],.slice none 0 0],[]⟩ 8 (by kernel_rfl) (by kernel_rfl) (by kernel_rfl) (by kernel_rfl))
  · match ds,hd with
    | [_,_,_],_=>exact ⟨rfl,rfl,rfl⟩
  · rw [show (Tryz.f3).params=_ from Tryz.params3]
    intro t ht
    have key:∀ t∈[3,25,26],Tryz.prog.readableRec t=true∧t<Tryz.prog.types.size:=by
      simp only [zFm]
      exact ⟨⟨by kernel_rfl,of_decide_eq_true (by kernel_rfl)⟩,⟨by kernel_rfl,of_decide_eq_true (by kernel_rfl)⟩,⟨by kernel_rfl,of_decide_eq_true (by kernel_rfl)⟩,fun _ h=>nomatch h⟩
    exact key t ht
  · rintro us ⟨v,d,l,rfl,hL⟩
    exact Qk6 v d l hL
theorem inferKernels_holds:Rows.InferKernelsSaid :=
  OpenClaim.holds_of_wide 3 Tryz.f3 rfl rfl rfl rfl rfl rfl rfl ⟨rfl,rfl,rfl,rfl,rfl⟩ rfl rfl rfl rfl rfl (by kernel_rfl) Tryz.func3 (by kernel_rfl)
    (of_decide_eq_true (by kernel_rfl)) (by unfold Func.isWrapper;rw [if_neg (by decide +kernel)];exact ⟨rfl,rfl⟩)
    (fun os started H enc _=>inferKernels_lifted os started H enc)
end Go.Proofs.YtipmmjebfpbkmaaGreat
