/-
  THE GIVEN STATEMENT OF RunNone: for every version, node, list of slots, place and status the call returns true and leaves what it was handed as it was.
  Conditions: none beyond the statement's own.
-/
import Derived.Test.YtepjcbnpbcmfcaaGreatQ7
set_option maxRecDepth 100000
namespace Go.Proofs.YtepjcbnpbcmfcaaGreat
open Go.Bv
theorem runNone_lifted (os:Os) (started:os.Started) (H:Type) (enc:TypeId × Value→H) :
    ReturnsInHanded {} Tryz.checked os 7 .any (Rows.runNoneSpec.pre6 enc Tryz.prog Tryz.f7 [] false) (Rows.runNoneSpec.post enc Tryz.prog Tryz.f7 false true false false):=by
  refine Qun (A:=Tryz.checked) (C:=C) rfl started a_own (by kernel_rfl) Tryz.func7 a_laid rfl (fun ds hd=>?_) (by kernel_rfl) Tryz.underlying4 ?_ Xpq ?_
    (ChangeSpec.witness6 (enc:=enc) (C:=Tryz.checked) false ⟨#[],#[.int .i64 0,.agg #[.int .i64 0,.slice none 0 0,.slice none 0 0],.slice none 0 0,.int .i64 0,.int .i64 0],[]⟩ 8 (by kernel_rfl) (by kernel_rfl) (by kernel_rfl) (by kernel_rfl))
  · match ds,hd with
    | [_,_,_,_,_],_=>exact ⟨rfl,rfl,rfl⟩
  · rw [show (Tryz.f7).params=_ from Tryz.params7]
    intro t ht
    have key:∀ t∈[3,25,26,3,36],Tryz.prog.readableRec t=true∧t<Tryz.prog.types.size:=by
      simp only [zFm]
      exact ⟨⟨by kernel_rfl,of_decide_eq_true (by kernel_rfl)⟩,⟨by kernel_rfl,of_decide_eq_true (by kernel_rfl)⟩,⟨by kernel_rfl,of_decide_eq_true (by kernel_rfl)⟩,⟨by kernel_rfl,of_decide_eq_true (by kernel_rfl)⟩,⟨by kernel_rfl,of_decide_eq_true (by kernel_rfl)⟩,fun _ h=>nomatch h⟩
    exact key t ht
  · rintro us ⟨v,d,l,at',st,rfl,h1,h2,h3,h4,h5,h6⟩
    exact Qp4 v d l at' st h1 h2 h3 h4 ⟨h5,h6⟩
theorem runNone_holds:Rows.RunNoneSaid :=
  OpenClaim.holds_of_wide 7 Tryz.f7 rfl rfl rfl rfl rfl rfl rfl ⟨rfl,rfl,rfl,rfl,rfl⟩ rfl rfl rfl rfl rfl (by kernel_rfl) Tryz.func7 (by kernel_rfl)
    (of_decide_eq_true (by kernel_rfl)) (by unfold Func.isWrapper;rw [if_neg (by decide +kernel)];exact ⟨rfl,rfl⟩)
    (fun os started H enc _=>runNone_lifted os started H enc)
end Go.Proofs.YtepjcbnpbcmfcaaGreat
