/-
  Parts Ref11b, Ref11c, Ref12, Ref12b, Sh6, Op1, Op2, Op3, Srt, Srt2, Seq1, Seq2, Seq3, Op4, Inf1, Inf2, Inf3, InfP, Inf4, Rev, Op5, Inf5, NatP, RefP, RatP, KnuP, DivP, TenP, Num1, Num2, one behind the other: a program logic of our own, contracts of functions.
-/
import Derived.Test.YtepjcbnpbcmfcaaGreatQ4

set_option linter.unusedVariables false
set_option linter.unusedSimpArgs false
set_option maxRecDepth 100000
set_option maxHeartbeats 8000000
section
namespace Go.Proofs.YtepjcbnpbcmfcaaGreat
open Go.Bv
def Ji (l:List Int):Bool:=(List.range l.length).all fun i=>decide (0≤l.getD i 0∧l.getD i 0<l.length)&&(List.range i).all fun k=>decide (l.getD k 0≠l.getD i 0)
def Qgc (l:List Int):Bool:=(List.range l.length).all fun i=>decide (0≤l.getD i 0∧l.getD i 0≤3∧(0<i→l.getD (i - 1) 0<l.getD i 0))
def Qfa (cut:Bool) (l:List Int):Bool:=decide (l.length%2=0∧l.length≤8)&&(List.range (l.length/2)).all fun i=>decide (0≤l.getD (2*i) 0∧0≤l.getD (2*i+1) 0∧(cut=true→l.getD (2*i) 0<l.getD (2*i+1) 0))
def Qfo (l:List Int):Bool:=l.any fun x=>decide (x>2147483647∨x< -2147483647)
def Xu (o:Int) (l:List Int):Bool :=
 if o=6 then decide (l.length=1∧0≤l.getD 0 0∧l.getD 0 0≤16)
 else if o=9 then decide (l.length=2∧1≤l.getD 1 0∧Nat.gcd (l.getD 0 0).natAbs (l.getD 1 0).natAbs=1)
 else if o=11 then Ji l&&decide (l.length≤4)
 else if o=12∨o=13 then decide (Xn l=0)
 else if o=14∨o=20 then Qgc l
 else if o=15∨o=16 then Qfa (decide (o=15)) l
 else if o=17 then decide (l.length=1∧0≤l.getD 0 0∧l.getD 0 0≤3)
 else decide (l.length=0)
def Yq (o:Int) (l:List Int):Bool:=!Qfo l&&Xu o l
theorem Qgy {l:List Int} (h:Qfo l=false) {i:Nat} (hi:i<l.length):-2147483647≤l.getD i 0∧l.getD i 0≤2147483647:=by
 have e:l.getD i 0=l[i]:=by simp [List.getD,hi]
 simp only [Qfo,List.any_eq_false,decide_eq_true_eq] at h
 have:=h _ (List.getElem_mem hi)
 rw [e];omega
def Qgs (l:List Int) (i:Nat):Prop:=0≤l.getD i 0∧l.getD i 0<l.length∧∀ k,k<i→l.getD k 0≠l.getD i 0
theorem Qbd (l:List Int):Ji l=true↔∀ i,i<l.length→Qgs l i:=by
 simp only [Ji,Qgs,List.all_eq_true,List.mem_range,Bool.and_eq_true,decide_eq_true_eq,and_assoc]
def Qci (l:List Int) (i:Nat):Prop:=0≤l.getD i 0∧l.getD i 0≤3∧(0<i→l.getD (i - 1) 0<l.getD i 0)
theorem Qdy (l:List Int):Qgc l=true↔∀ i,i<l.length→Qci l i:=by
 simp only [Qgc,Qci,List.all_eq_true,List.mem_range,decide_eq_true_eq]
theorem Qpc (p q:Int) (hp0:-2147483647≤p) (hp:p≤2147483647) (hq0:1≤q) (hq:q≤2147483647):Pu C 102 [.int .i64 p,.int .i64 q] (.bool (decide (Nat.gcd p.natAbs q.natAbs≠1))):=by
 refine zK Qd Tryz.func102 w102 Tryz.ntmps102 Tryz.results102 ?_
 (refine zG ?_;(repeat' ((with_reducible apply zBr)<;>intro h<;>refine zG ?_))<;>try exact .intro)
 all_goals
  refine Qg (fun n ts H=>∃ a b,(a≤2147483647)∧(b≤2147483647)∧(Nat.gcd a b=Nat.gcd p.natAbs q.natAbs)∧(n=b)∧(H=[])∧ts.length=17∧nth ts 0=.int .i64 (a:Nat)∧nth ts 1=.int .i64 (b:Nat)) ?_ (n:=q.natAbs) ?_
  ·skip
   rintro n ts H ⟨a,b,ha,hb,hg,hn,hH,hL,hs0,hs1⟩;refine Qv [(0,.int .i64 (a:Nat)),(1,.int .i64 (b:Nat))] hL (by simp only [zFm,hs0,hs1,true_and];exact zNm) ?_
   clear hL hs0 hs1 ts
   refine Qw Qd ?_;subst hH hn
   (refine zG ?_;(repeat' ((with_reducible apply zBr)<;>intro h<;>refine zG ?_))<;>try exact .intro)
   ·have e1:(a:Int)%(n:Int)=((a%n:Nat):Int):=by simp
    have hm:a%n<n:=Nat.mod_lt _ (by omega)
    exact ⟨_,hm,n,a%n,hb,by omega,by rw [Nat.gcd_comm,← hg,Nat.gcd_comm a n,Nat.gcd_rec n a],rfl,rfl,by rw [e1]⟩
   ·obtain rfl:n=0:=by omega
    rw [Nat.gcd_zero_right] at hg
    (refine Qh (by intro g;simp only [go_sem,ren,Qe]) ?_)
    simp only [← hg]
    (simp only [V.tup.injEq,List.cons.injEq,V.int.injEq,V.bool.injEq,true_and,and_true];(try rw [Bool.eq_iff_iff]);(try simp only [decide_eq_true_eq,decide_eq_false_iff_not,Decidable.not_not,true_and,and_true,Bool.not_eq_true,Bool.not_eq_eq_eq_not,Bool.not_true,Bool.and_eq_true,Bool.or_eq_true,beq_iff_eq,bne_iff_ne,ne_eq,Bool.false_eq_true,false_iff,true_iff,iff_false,iff_true]);(try omega))
  ·exact ⟨p.natAbs,q.natAbs,by omega,by omega,rfl,rfl,rfl,rfl,by simp -implicitDefEqProofs (maxSteps:=9^7) (disch:=first | omega | (simp only [Qbe];omega)) only [go_sem];congr 1;omega,by simp -implicitDefEqProofs (maxSteps:=9^7) (disch:=first | omega | (simp only [Qbe];omega)) only [go_sem];congr 1;omega⟩
theorem Qk0 {l:List Int} {i:Nat} (hi:i<l.length) (h:¬ Qgs l i):Ji l=false:=by
 cases hx:Ji l with
 | false=>rfl
 | true=>exact (h ((Qbd l).1 hx i hi)).elim
theorem Qkt {l:List Int} {i:Nat} (hi:i<l.length) (h:¬ Qci l i):Qgc l=false:=by
 cases hx:Qgc l with
 | false=>rfl
 | true=>exact (h ((Qdy l).1 hx i hi)).elim
def Qfb (cut:Bool) (l:List Int) (i:Nat):Prop:=0≤l.getD (2*i) 0∧0≤l.getD (2*i+1) 0∧(cut=true→l.getD (2*i) 0<l.getD (2*i+1) 0)
theorem Qd1 (cut:Bool) (l:List Int):Qfa cut l=true↔l.length%2=0∧l.length≤8∧∀ i,i<l.length/2→Qfb cut l i:=by
 simp only [Qfa,Qfb,List.all_eq_true,List.mem_range,Bool.and_eq_true,decide_eq_true_eq,and_assoc]
theorem Qd0 {cut:Bool} {l:List Int} (h:¬ (l.length%2=0∧l.length≤8∧∀ i,i<l.length/2→Qfb cut l i)):Qfa cut l=false:=by
 cases hx:Qfa cut l with
 | false=>rfl
 | true=>exact (h ((Qd1 cut l).1 hx)).elim
theorem Qly (o:Int) (l:List Int) (hl:l.length≤17592186044416):Pu C 44 [.int .i64 o,.sl l.length (ints l)] (.bool (Yq o l)):=by
 refine zK Qd Tryz.func44 w44 Tryz.ntmps44 Tryz.results44 ?_
 (refine zG ?_;(repeat' ((with_reducible apply zBr)<;>intro h<;>refine zG ?_))<;>try exact .intro)
 refine Qg (fun n ts H=>∃ i,(i≤l.length)∧(∀ j,j<i→-2147483647≤l.getD j 0∧l.getD j 0≤2147483647)∧(n=l.length - i)∧(H=[])∧ts.length=216∧nth ts 0=.int .i64 o∧nth ts 1=.sl l.length (ints l)∧nth ts 5=.int .i64 i) ?_ (n:=l.length) ?_
 ·skip
  rintro n ts H ⟨i,hi,hf,hn,hH,hL,hs0,hs1,hs5⟩;refine Qv [(0,.int .i64 o),(1,.sl l.length (ints l)),(5,.int .i64 i)] hL (by simp only [zFm,hs0,hs1,hs5,true_and];exact zNm) ?_
  clear hL hs0 hs1 hs5 ts
  refine Qw Qd ?_;subst hH hn;by_cases hlt:i<l.length
  ·have bad:¬ (-2147483647≤l.getD i 0∧l.getD i 0≤2147483647)→Yq o l=false:=by
    intro hb
    have:Qfo l=true:=by
     cases hx:Qfo l with
     | true=>rfl
     | false=>exact (hb (Qgy hx hlt)).elim
    simp [Yq,this]
   (refine zG ?_;(repeat' ((with_reducible apply zBr)<;>intro h<;>refine zG ?_))<;>try exact .intro)
   ·skip
    (refine Qh (by intro g;simp only [go_sem,ren,Qe]) ?_)
    rw [bad (by omega)]
   ·skip
    (refine Qh (by intro g;simp only [go_sem,ren,Qe]) ?_)
    rw [bad (by omega)]
   ·exact ⟨_,by omega,i+1,by omega,Qc3 hf (by omega),rfl,(by (repeat' apply And.intro)<;>(first | rfl | omega | (congr 1;omega) | assumption | (congr 1;assumption)))⟩
  ·obtain rfl:i=l.length:=by omega
   have hfar:Qfo l=false:=by
    simp only [Qfo,List.any_eq_false,decide_eq_true_eq]
    have:=Qab (xs:=l) (p:=fun x=>¬ (x>2147483647∨x< -2147483647))
    exact this.2 fun j hj=>by have:=hf j hj;omega
   have ea:Yq o l=Xu o l:=by simp only [Yq,hfar,Bool.not_false,Bool.true_and]
   rw [ea];clear ea
   (refine zG ?_;(repeat' ((with_reducible apply zBr)<;>intro h<;>refine zG ?_))<;>try exact .intro)
   ·skip
    (refine Qh (by intro g;simp only [go_sem,ren,Qe]) ?_)
    obtain rfl:o=6:=by omega
    rw [show Xu 6 l=decide (l.length=1∧0≤l.getD 0 0∧l.getD 0 0≤16) from rfl]
    (simp only [V.tup.injEq,List.cons.injEq,V.int.injEq,V.bool.injEq,true_and,and_true];(try rw [Bool.eq_iff_iff]);(try simp only [decide_eq_true_eq,decide_eq_false_iff_not,Decidable.not_not,true_and,and_true,Bool.not_eq_true,Bool.not_eq_eq_eq_not,Bool.not_true,Bool.and_eq_true,Bool.or_eq_true,beq_iff_eq,bne_iff_ne,ne_eq,Bool.false_eq_true,false_iff,true_iff,iff_false,iff_true]);(try omega))
   ·skip
    (refine Qh (by intro g;simp only [go_sem,ren,Qe]) ?_)
    obtain rfl:o=6:=by omega
    rw [show Xu 6 l=decide (l.length=1∧0≤l.getD 0 0∧l.getD 0 0≤16) from rfl]
    (simp only [V.tup.injEq,List.cons.injEq,V.int.injEq,V.bool.injEq,true_and,and_true];(try rw [Bool.eq_iff_iff]);(try simp only [decide_eq_true_eq,decide_eq_false_iff_not,Decidable.not_not,true_and,and_true,Bool.not_eq_true,Bool.not_eq_eq_eq_not,Bool.not_true,Bool.and_eq_true,Bool.or_eq_true,beq_iff_eq,bne_iff_ne,ne_eq,Bool.false_eq_true,false_iff,true_iff,iff_false,iff_true]);(try omega))
   ·skip
    (refine Qh (by intro g;simp only [go_sem,ren,Qe]) ?_)
    obtain rfl:o=6:=by omega
    rw [show Xu 6 l=decide (l.length=1∧0≤l.getD 0 0∧l.getD 0 0≤16) from rfl]
    (simp only [V.tup.injEq,List.cons.injEq,V.int.injEq,V.bool.injEq,true_and,and_true];(try rw [Bool.eq_iff_iff]);(try simp only [decide_eq_true_eq,decide_eq_false_iff_not,Decidable.not_not,true_and,and_true,Bool.not_eq_true,Bool.not_eq_eq_eq_not,Bool.not_true,Bool.and_eq_true,Bool.or_eq_true,beq_iff_eq,bne_iff_ne,ne_eq,Bool.false_eq_true,false_iff,true_iff,iff_false,iff_true]);(try omega))
   ·obtain rfl:o=9:=by omega
    rw [show Xu 9 l=decide (l.length=2∧1≤l.getD 1 0∧Nat.gcd (l.getD 0 0).natAbs (l.getD 1 0).natAbs=1) from rfl]
    have f0:=hf 0 (by omega)
    have f1:=hf 1 (by omega)
    refine Pc.pure (Qpc _ _ f0.1 f0.2 (by omega) f1.2) (by simp [go_sem,Qf,clo,Qb,Qi]) (by intro g;simp only [go_sem,ren,Qe]) ?_
    (refine zG ?_;(repeat' ((with_reducible apply zBr)<;>intro h<;>refine zG ?_))<;>try exact .intro)
    (refine Qh (by intro g;simp only [go_sem,ren,Qe]) ?_)
    (simp only [V.tup.injEq,List.cons.injEq,V.int.injEq,V.bool.injEq,true_and,and_true];(try rw [Bool.eq_iff_iff]);(try simp only [decide_eq_true_eq,decide_eq_false_iff_not,Decidable.not_not,true_and,and_true,Bool.not_eq_true,Bool.not_eq_eq_eq_not,Bool.not_true,Bool.and_eq_true,Bool.or_eq_true,beq_iff_eq,bne_iff_ne,ne_eq,Bool.false_eq_true,false_iff,true_iff,iff_false,iff_true]);(try omega))
   ·skip
    (refine Qh (by intro g;simp only [go_sem,ren,Qe]) ?_)
    obtain rfl:o=9:=by omega
    rw [show Xu 9 l=decide (l.length=2∧1≤l.getD 1 0∧Nat.gcd (l.getD 0 0).natAbs (l.getD 1 0).natAbs=1) from rfl]
    (simp only [V.tup.injEq,List.cons.injEq,V.int.injEq,V.bool.injEq,true_and,and_true];(try rw [Bool.eq_iff_iff]);(try simp only [decide_eq_true_eq,decide_eq_false_iff_not,Decidable.not_not,true_and,and_true,Bool.not_eq_true,Bool.not_eq_eq_eq_not,Bool.not_true,Bool.and_eq_true,Bool.or_eq_true,beq_iff_eq,bne_iff_ne,ne_eq,Bool.false_eq_true,false_iff,true_iff,iff_false,iff_true]);(try omega))
   ·skip
    (refine Qh (by intro g;simp only [go_sem,ren,Qe]) ?_)
    obtain rfl:o=9:=by omega
    rw [show Xu 9 l=decide (l.length=2∧1≤l.getD 1 0∧Nat.gcd (l.getD 0 0).natAbs (l.getD 1 0).natAbs=1) from rfl]
    (simp only [V.tup.injEq,List.cons.injEq,V.int.injEq,V.bool.injEq,true_and,and_true];(try rw [Bool.eq_iff_iff]);(try simp only [decide_eq_true_eq,decide_eq_false_iff_not,Decidable.not_not,true_and,and_true,Bool.not_eq_true,Bool.not_eq_eq_eq_not,Bool.not_true,Bool.and_eq_true,Bool.or_eq_true,beq_iff_eq,bne_iff_ne,ne_eq,Bool.false_eq_true,false_iff,true_iff,iff_false,iff_true]);(try omega))
   ·obtain rfl:o=11:=by omega
    rw [show Xu 11 l=(Ji l&&decide (l.length≤4)) from rfl];refine Qg (fun n ts H=>∃ i,(i≤l.length)∧(∀ j,j<i→Qgs l j)∧(n=l.length - i)∧(H=[])∧ts.length=216∧nth ts 1=.sl l.length (ints l)∧nth ts 6=.int .i64 i) ?_ (n:=l.length) ?_
    ·skip
     rintro n ts H ⟨i,hi,hp,hn,hH,hL,hs1,hs6⟩;refine Qv [(1,.sl l.length (ints l)),(6,.int .i64 i)] hL (by simp only [zFm,hs1,hs6,true_and];exact zNm) ?_
     clear hL hs1 hs6 ts
     refine Qw Qd ?_;subst hH hn
     (refine zG ?_;(repeat' ((with_reducible apply zBr)<;>intro h<;>refine zG ?_))<;>try exact .intro)
     ·skip
      (refine Qh (by intro g;simp only [go_sem,ren,Qe]) ?_)
      rw [Qk0 (i:=i) (by omega) (fun hp=>by have:=hp.1;omega)];rfl
     ·skip
      (refine Qh (by intro g;simp only [go_sem,ren,Qe]) ?_)
      rw [Qk0 (i:=i) (by omega) (fun hp=>by have:=hp.2.1;omega)];rfl
     ·skip
      refine Qg (fun n ts H=>∃ k,(k≤i)∧(∀ m,m<k→l.getD m 0≠l.getD i 0)∧(n=i - k)∧(H=[])∧ts.length=216∧nth ts 1=.sl l.length (ints l)∧nth ts 6=.int .i64 i∧nth ts 7=.int .i64 k) ?_ (n:=i) ?_
      ·skip
       rintro n ts H ⟨k,hk,hq,hn,hH,hL,hs1,hs6,hs7⟩;refine Qv [(1,.sl l.length (ints l)),(6,.int .i64 i),(7,.int .i64 k)] hL (by simp only [zFm,hs1,hs6,hs7,true_and];exact zNm) ?_
       clear hL hs1 hs6 hs7 ts
       refine Qw Qd ?_;subst hH hn
       (refine zG ?_;(repeat' ((with_reducible apply zBr)<;>intro h<;>refine zG ?_))<;>try exact .intro)
       ·skip
        (refine Qh (by intro g;simp only [go_sem,ren,Qe]) ?_)
        rw [Qk0 (i:=i) (by omega) (fun hp=>hp.2.2 k (by omega) h)];rfl
       ·exact ⟨_,by omega,k+1,by omega,Qc3 hq h,rfl,(by (repeat' apply And.intro)<;>(first | rfl | omega | (congr 1;omega) | assumption | (congr 1;assumption)))⟩
       ·obtain rfl:k=i:=by omega
        exact ⟨_,by omega,k+1,by omega,Qc3 hp ⟨by omega,by omega,hq⟩,rfl,(by (repeat' apply And.intro)<;>(first | rfl | omega | (congr 1;omega) | assumption | (congr 1;assumption)))⟩
      ·exact ⟨0,by omega,fun m hm=>by omega,rfl,rfl,rfl,rfl,rfl,rfl⟩
     ·skip
      (refine Qh (by intro g;simp only [go_sem,ren,Qe]) ?_)
      rw [(Qbd l).2 fun j hj=>hp j (by omega)]
      (simp only [V.tup.injEq,List.cons.injEq,V.int.injEq,V.bool.injEq,true_and,and_true];(try rw [Bool.eq_iff_iff]);(try simp only [decide_eq_true_eq,decide_eq_false_iff_not,Decidable.not_not,true_and,and_true,Bool.not_eq_true,Bool.not_eq_eq_eq_not,Bool.not_true,Bool.and_eq_true,Bool.or_eq_true,beq_iff_eq,bne_iff_ne,ne_eq,Bool.false_eq_true,false_iff,true_iff,iff_false,iff_true]);(try omega))
    ·exact ⟨0,by omega,fun j hj=>by omega,rfl,rfl,rfl,rfl,rfl⟩
   ·obtain rfl:o=12:=by omega
    refine Fc.pure (Qn6 l hl) (by simp [go_sem,Qf,clo,Qb,Qi]) (by intro g;simp only [go_sem,ren,Qe]) ?_
    (refine zG ?_;(repeat' ((with_reducible apply zBr)<;>intro h<;>refine zG ?_))<;>try exact .intro)
    (refine Qh (by intro g;simp only [go_sem,ren,Qe]) ?_)
    rw [show Xu 12 l=decide (Xn l=0) from rfl]
    (simp only [V.tup.injEq,List.cons.injEq,V.int.injEq,V.bool.injEq,true_and,and_true];(try rw [Bool.eq_iff_iff]);(try simp only [decide_eq_true_eq,decide_eq_false_iff_not,Decidable.not_not,true_and,and_true,Bool.not_eq_true,Bool.not_eq_eq_eq_not,Bool.not_true,Bool.and_eq_true,Bool.or_eq_true,beq_iff_eq,bne_iff_ne,ne_eq,Bool.false_eq_true,false_iff,true_iff,iff_false,iff_true]);(try omega))
   ·obtain rfl:o=13:=by omega
    refine Fc.pure (Qn6 l hl) (by simp [go_sem,Qf,clo,Qb,Qi]) (by intro g;simp only [go_sem,ren,Qe]) ?_
    (refine zG ?_;(repeat' ((with_reducible apply zBr)<;>intro h<;>refine zG ?_))<;>try exact .intro)
    (refine Qh (by intro g;simp only [go_sem,ren,Qe]) ?_)
    rw [show Xu 13 l=decide (Xn l=0) from rfl]
    (simp only [V.tup.injEq,List.cons.injEq,V.int.injEq,V.bool.injEq,true_and,and_true];(try rw [Bool.eq_iff_iff]);(try simp only [decide_eq_true_eq,decide_eq_false_iff_not,Decidable.not_not,true_and,and_true,Bool.not_eq_true,Bool.not_eq_eq_eq_not,Bool.not_true,Bool.and_eq_true,Bool.or_eq_true,beq_iff_eq,bne_iff_ne,ne_eq,Bool.false_eq_true,false_iff,true_iff,iff_false,iff_true]);(try omega))
   iterate 2
    ·rw [show Xu o l=Qgc l by obtain rfl | rfl:o=14∨o=20:=(by omega);all_goals rfl]
     refine Qg (fun n ts H=>∃ i,(i≤l.length)∧(∀ j,j<i→Qci l j)∧(n=l.length - i)∧(H=[])∧ts.length=216∧nth ts 1=.sl l.length (ints l)∧nth ts 8=.int .i64 i) ?_ (n:=l.length) ?_
     ·skip
      rintro n ts H ⟨i,hi,hp,hn,hH,hL,hs1,hs8⟩;refine Qv [(1,.sl l.length (ints l)),(8,.int .i64 i)] hL (by simp only [zFm,hs1,hs8,true_and];exact zNm) ?_
      clear hL hs1 hs8 ts
      refine Qw Qd ?_;subst hH hn
      (refine zG ?_;(repeat' ((with_reducible apply zBr)<;>intro h<;>refine zG ?_))<;>try exact .intro)
      ·skip
       (refine Qh (by intro g;simp only [go_sem,ren,Qe]) ?_)
       rw [Qkt (i:=i) (by omega) (fun hp=>by have:=hp.1;omega)]
      ·skip
       (refine Qh (by intro g;simp only [go_sem,ren,Qe]) ?_)
       rw [Qkt (i:=i) (by omega) (fun hp=>by have:=hp.2.1;omega)]
      ·skip
       (refine Qh (by intro g;simp only [go_sem,ren,Qe]) ?_)
       rw [Qkt (i:=i) (by omega) (fun hp=>by have:=hp.2.2 (by omega);omega)]
      ·exact ⟨_,by omega,i+1,by omega,Qc3 hp ⟨by omega,by omega,fun _=>by omega⟩,rfl,(by (repeat' apply And.intro)<;>(first | rfl | omega | (congr 1;omega) | assumption | (congr 1;assumption)))⟩
      ·exact ⟨_,by omega,i+1,by omega,Qc3 hp ⟨by omega,by omega,fun _=>by omega⟩,rfl,(by (repeat' apply And.intro)<;>(first | rfl | omega | (congr 1;omega) | assumption | (congr 1;assumption)))⟩
      ·skip
       (refine Qh (by intro g;simp only [go_sem,ren,Qe]) ?_)
       rw [(Qdy l).2 fun j hj=>hp j (by omega)]
     ·exact ⟨0,by omega,fun j hj=>by omega,rfl,rfl,rfl,rfl,rfl⟩
   iterate 2
    ·rw [show Xu o l=Qfa (decide (o=15)) l by obtain rfl | rfl:o=15∨o=16:=(by omega);all_goals rfl]
     (refine Qh (by intro g;simp only [go_sem,ren,Qe]) ?_)
     rw [Qd0 (fun h=>by have:=h.1;omega)]
    ·rw [show Xu o l=Qfa (decide (o=15)) l by obtain rfl | rfl:o=15∨o=16:=(by omega);all_goals rfl]
     (refine Qh (by intro g;simp only [go_sem,ren,Qe]) ?_)
     rw [Qd0 (fun h=>by have:=h.2.1;omega)]
    ·rw [show Xu o l=Qfa (decide (o=15)) l by obtain rfl | rfl:o=15∨o=16:=(by omega);all_goals rfl]
     refine Qg (fun n ts H=>∃ k,(k≤l.length/2)∧(∀ j,j<k→Qfb (decide (o=15)) l j)∧(n=l.length/2 - k)∧(H=[])∧ts.length=216∧nth ts 0=.int .i64 o∧nth ts 1=.sl l.length (ints l)∧nth ts 9=.int .i64 (2*k:Nat)) ?_ (n:=l.length/2) ?_
     ·skip
      rintro n ts H ⟨k,hi,hp,hn,hH,hL,hs0,hs1,hs9⟩;refine Qv [(0,.int .i64 o),(1,.sl l.length (ints l)),(9,.int .i64 (2*k:Nat))] hL (by simp only [zFm,hs0,hs1,hs9,true_and];exact zNm) ?_
      clear hL hs0 hs1 hs9 ts
      refine Qw Qd ?_;subst hH hn
      have bad:2*k<l.length→¬ Qfb (decide (o=15)) l k→Qfa (decide (o=15)) l=false:=fun h1 h2=>Qd0 fun h=>h2 (h.2.2 k (by omega))
      (refine zG ?_;(repeat' ((with_reducible apply zBr)<;>intro h<;>refine zG ?_))<;>try exact .intro)
      all_goals first
       | exact ⟨_,by omega,k+1,by omega,Qc3 hp ⟨by omega,by omega,fun h=>by have:=of_decide_eq_true h;omega⟩,rfl,(by (repeat' apply And.intro)<;>(first | rfl | omega | (congr 1;omega) | assumption | (congr 1;assumption)))⟩
       | ((refine Qh (by intro g;simp only [go_sem,ren,Qe]) ?_);rw [(Qd1 _ l).2 ⟨by omega,by omega,fun j hj=>hp j (by omega)⟩])
       | ((refine Qh (by intro g;simp only [go_sem,ren,Qe]) ?_);rw [bad (by omega) (fun hp=>by have h1:=hp.1;have h2:=hp.2.1;omega)])
       | ((refine Qh (by intro g;simp only [go_sem,ren,Qe]) ?_);rw [bad (by omega) (fun hp=>by have h3:=hp.2.2 (decide_eq_true (by omega));omega)])
     ·exact ⟨0,by omega,fun j hj=>by omega,rfl,rfl,rfl,rfl,rfl,rfl⟩
   ·skip
    (refine Qh (by intro g;simp only [go_sem,ren,Qe]) ?_)
    obtain rfl:o=17:=by omega
    rw [show Xu 17 l=decide (l.length=1∧0≤l.getD 0 0∧l.getD 0 0≤3) from rfl]
    (simp only [V.tup.injEq,List.cons.injEq,V.int.injEq,V.bool.injEq,true_and,and_true];(try rw [Bool.eq_iff_iff]);(try simp only [decide_eq_true_eq,decide_eq_false_iff_not,Decidable.not_not,true_and,and_true,Bool.not_eq_true,Bool.not_eq_eq_eq_not,Bool.not_true,Bool.and_eq_true,Bool.or_eq_true,beq_iff_eq,bne_iff_ne,ne_eq,Bool.false_eq_true,false_iff,true_iff,iff_false,iff_true]);(try omega))
   ·skip
    (refine Qh (by intro g;simp only [go_sem,ren,Qe]) ?_)
    obtain rfl:o=17:=by omega
    rw [show Xu 17 l=decide (l.length=1∧0≤l.getD 0 0∧l.getD 0 0≤3) from rfl]
    (simp only [V.tup.injEq,List.cons.injEq,V.int.injEq,V.bool.injEq,true_and,and_true];(try rw [Bool.eq_iff_iff]);(try simp only [decide_eq_true_eq,decide_eq_false_iff_not,Decidable.not_not,true_and,and_true,Bool.not_eq_true,Bool.not_eq_eq_eq_not,Bool.not_true,Bool.and_eq_true,Bool.or_eq_true,beq_iff_eq,bne_iff_ne,ne_eq,Bool.false_eq_true,false_iff,true_iff,iff_false,iff_true]);(try omega))
   ·skip
    (refine Qh (by intro g;simp only [go_sem,ren,Qe]) ?_)
    obtain rfl:o=17:=by omega
    rw [show Xu 17 l=decide (l.length=1∧0≤l.getD 0 0∧l.getD 0 0≤3) from rfl]
    (simp only [V.tup.injEq,List.cons.injEq,V.int.injEq,V.bool.injEq,true_and,and_true];(try rw [Bool.eq_iff_iff]);(try simp only [decide_eq_true_eq,decide_eq_false_iff_not,Decidable.not_not,true_and,and_true,Bool.not_eq_true,Bool.not_eq_eq_eq_not,Bool.not_true,Bool.and_eq_true,Bool.or_eq_true,beq_iff_eq,bne_iff_ne,ne_eq,Bool.false_eq_true,false_iff,true_iff,iff_false,iff_true]);(try omega))
   ·skip
    (refine Qh (by intro g;simp only [go_sem,ren,Qe]) ?_)
    unfold Xu;rw [if_neg (by omega),if_neg (by omega),if_neg (by omega),if_neg (by omega),if_neg (by omega),if_neg (by omega),if_neg (by omega)]
    (simp only [V.tup.injEq,List.cons.injEq,V.int.injEq,V.bool.injEq,true_and,and_true];(try rw [Bool.eq_iff_iff]);(try simp only [decide_eq_true_eq,decide_eq_false_iff_not,Decidable.not_not,true_and,and_true,Bool.not_eq_true,Bool.not_eq_eq_eq_not,Bool.not_true,Bool.and_eq_true,Bool.or_eq_true,beq_iff_eq,bne_iff_ne,ne_eq,Bool.false_eq_true,false_iff,true_iff,iff_false,iff_true]);(try omega))
 ·exact ⟨0,by omega,fun j hj=>by omega,rfl,rfl,rfl,rfl,rfl,rfl⟩
structure Nd where
 op:Int
 args:List Int
 attrs:List Int
def ndC (n:Nd):List V:=[.int .i64 n.op,.sl n.args.length (ints n.args),.sl n.attrs.length (ints n.attrs)]
theorem Xl4 (n:Nd):ndC n=[.int .i64 n.op,.sl n.args.length (ints n.args),.sl n.attrs.length (ints n.attrs)]:=rfl
attribute [go_sem] Xl4
def Xz (v:Int) (n:Nd):Int:=if v<1∨v>3 then 8 else if inP n.op v=false then 9 else if (n.args.length:Int)<least n.op∨(n.args.length:Int)>most n.op then 10 else if n.attrs.length=0∧Qb1 v n.op=true then 0 else if Yq n.op n.attrs=true then 0 else 11
def up (k:Nat):List Int:=(List.range k).map fun i:Nat=>(i:Int)
def down (k:Nat):List Int:=(up k).reverse
theorem Xgv (k:Nat):up (k+1)=up k++[(k:Int)]:=by simp [up,List.range_succ]
theorem Qal (k:Nat):(up k).length=k:=by simp [up]
def Ks (v:Int) (n:Nd) (r:Nat):List Int:=if Xz v n≠0∨n.attrs.length>0∨Qb1 v n.op=false then n.attrs else
 if n.op=6 then [2] else if n.op=17 then [0] else if n.op=11 then down (if r>4 then 0 else r) else up (if r>4 then 0 else r)
theorem Qp9 (v:Int) (n:Nd) (ha:n.args.length≤17592186044416) (hl:n.attrs.length≤17592186044416):Pu C 19 [.int .i64 v,.agg (ndC n)] (.int .i64 (Xz v n)):=by
 refine zK Qd Tryz.func19 w19 Tryz.ntmps19 Tryz.results19 ?_
 (refine zG ?_;(repeat' ((with_reducible apply zBr)<;>intro h<;>refine zG ?_))<;>try exact .intro)
 ·skip
  (refine Qh (by intro g;simp only [go_sem,ren,Qe]) ?_)
  grind [Xz]
 ·skip
  (refine Qh (by intro g;simp only [go_sem,ren,Qe]) ?_)
  grind [Xz]
 ·skip
  refine Fc.pure (Xju _ _) (by simp [go_sem,Qf,clo,Qb,Qi]) (by intro g;simp only [go_sem,ren,Qe]) ?_
  (refine zG ?_;(repeat' ((with_reducible apply zBr)<;>intro h<;>refine zG ?_))<;>try exact .intro)
  ·skip
   refine Fc.pure (Qwc _) (by simp [go_sem,Qf,clo,Qb,Qi]) (by intro g;simp only [go_sem,ren,Qe]) ?_
   (refine zG ?_;(repeat' ((with_reducible apply zBr)<;>intro h<;>refine zG ?_))<;>try exact .intro)
   ·skip
    (refine Qh (by intro g;simp only [go_sem,ren,Qe]) ?_)
    grind [Xz]
   ·skip
    (refine Qh (by intro g;simp only [go_sem,ren,Qe]) ?_)
    grind [Xz]
   ·skip
    refine Fc.pure (Xa0 _ _) (by simp [go_sem,Qf,clo,Qb,Qi]) (by intro g;simp only [go_sem,ren,Qe]) ?_
    (refine zG ?_;(repeat' ((with_reducible apply zBr)<;>intro h<;>refine zG ?_))<;>try exact .intro)
    ·skip
     (refine Qh (by intro g;simp only [go_sem,ren,Qe]) ?_)
     grind [Xz]
    ·skip
     refine Fc.pure (Qly _ _ hl) (by simp [go_sem,Qf,clo,Qb,Qi]) (by intro g;simp only [go_sem,ren,Qe]) ?_
     (refine zG ?_;(repeat' ((with_reducible apply zBr)<;>intro h<;>refine zG ?_))<;>try exact .intro)
     all_goals (refine Qh (by intro g;simp only [go_sem,ren,Qe]) ?_)
     all_goals grind [Xz]
   ·skip
    refine Fc.pure (Qly _ _ hl) (by simp [go_sem,Qf,clo,Qb,Qi]) (by intro g;simp only [go_sem,ren,Qe]) ?_
    (refine zG ?_;(repeat' ((with_reducible apply zBr)<;>intro h<;>refine zG ?_))<;>try exact .intro)
    all_goals (refine Qh (by intro g;simp only [go_sem,ren,Qe]) ?_)
    all_goals grind [Xz]
  ·skip
   (refine Qh (by intro g;simp only [go_sem,ren,Qe]) ?_)
   grind [Xz]
theorem Qj9 {e s:Nat} {H:Qa} {cs:List V} {n:Nat} (h:cs.length=n*s):Bv.Own e s (H++[some ⟨e,s,cs⟩]) (.ref H.length 0 n) n cs:=.inr ⟨H.length,rfl,Xx _ _,h⟩
theorem Xaf (R j:Nat) (h:j<R):(down R).take (j+1)=(down R).take j++[((R:Int) - 1 - j)]:=by
 rw [List.take_add_one];congr 1
 have:(down R)[j]?=some ((R:Int) - 1 - j):=by
  simp only [down,up];rw [List.getElem?_reverse (by simpa using h)]
  simp only [List.length_map,List.length_range,List.getElem?_map];rw [List.getElem?_range (by omega)]
  simp;omega
 rw [this];rfl
theorem Zu (k:Nat):(down k).length=k:=by simp [down,up]
theorem Xbp {l:List Int} {j:Nat} (h:j≤l.length):(l.take j).length=j:=by simp;omega
end Go.Proofs.YtepjcbnpbcmfcaaGreat
end
section
namespace Go.Proofs.YtepjcbnpbcmfcaaGreat
open Go.Bv
abbrev Sh:=List Int × Int
def Kl (x y:List Int):Sh:=if x.length=2∧y.length=2∧x.getD 1 0=y.getD 0 0 then ([x.getD 0 0,y.getD 1 0],0) else ([],13)
def tab (f:Nat→Int) (k:Nat):List Int:=(List.range k).map f
theorem Qqh (f:Nat→Int) (k:Nat):tab f (k+1)=tab f k++[f k]:=by simp [tab,List.range_succ]
theorem Yp (f:Nat→Int) (k:Nat):(tab f k).length=k:=by simp [tab]
theorem Xbq (f:Nat→Int) {k i:Nat} (h:i<k):(tab f k).getD i 0=f i:=by simp [tab,List.getD,h]
def Xg7 (l:List Int) (i:Nat):Int:=l.getD (2*i+1) 0 - l.getD (2*i) 0
def Xj0 (x l:List Int) (k:Nat):Bool:=(List.range k).all fun i=>decide (l.getD (2*i+1) 0≤x.getD i 0)
def Xkw (x l:List Int):Sh:=if l.length=2*x.length∧Xj0 x l x.length=true then (tab (Xg7 l) x.length,0) else ([],13)
def Att (l:List Int):Prop:=∀ i,i<l.length→-2147483647≤l.getD i 0∧l.getD i 0≤2147483647
def Xhn (x l:List Int) (i:Nat):Int:=l.getD (2*i) 0+x.getD i 0+l.getD (2*i+1) 0
def Xlv (x l:List Int):Sh:=if l.length=2*x.length then (tab (Xhn x l) x.length,0) else ([],13)
def Qns (axis:Nat) (l:List (List Int)) (k:Nat):Prop:=(l.getD k []).length=(l.getD 0 []).length∧∀ i,i<(l.getD 0 []).length→i≠axis→(l.getD k []).getD i 0=(l.getD 0 []).getD i 0
instance (axis:Nat) (l:List (List Int)) (k:Nat):Decidable (Qns axis l k):=inferInstanceAs (Decidable (_∧∀ i,i<_→_))
def Xm7 (axis:Nat) (l:List (List Int)) (n:Nat):Bool:=(List.range n).all fun k=>decide (1≤k→Qns axis l k)
theorem Qlq (axis:Nat) (l:List (List Int)) (n:Nat):Xm7 axis l n=true↔∀ k,k<n→1≤k→Qns axis l k:=by simp only [Xm7,List.all_eq_true,List.mem_range,decide_eq_true_eq]
def Qg2 (axis:Nat) (l:List (List Int)):Nat→Int
 | 0=>0
 | k+1=>Qg2 axis l k+(l.getD k []).getD axis 0
def Qjq (axis:Nat) (l:List (List Int)):Sh:=if axis<(l.getD 0 []).length∧Xm7 axis l l.length=true then ((l.getD 0 []).set axis (Qg2 axis l l.length),0) else ([],13)
theorem Xby (l:List Int) {i:Nat} (h:i<l.length):l.set i (l.getD i 0)=l:=by
 rw [show l.getD i 0=l[i] by simp [List.getD,h]];exact List.set_getElem_self ..
theorem Qxb {axis:Nat} {l:List (List Int)} (hd:∀ k,k<l.length→∀ i,0≤(l.getD k []).getD i 0∧(l.getD k []).getD i 0≤1024):∀ k,k≤l.length→0≤Qg2 axis l k∧Qg2 axis l k≤1024*k
 | 0,_=>by simp [Qg2]
 | k+1,h=>by
  have h1:=Qxb (axis:=axis) hd k (by omega)
  have h2:=hd k (by omega) axis
  simp only [Qg2];omega
def Zf (o:Int) (a:List Int) (l:List (List Int)):Sh :=
 if o=1∨o=2∨o=3∨o=4 then (if l.getD 0 []=l.getD 1 [] then (l.getD 0 [],0) else ([],13))
 else if o=10 then Kl (l.getD 0 []) (l.getD 1 [])
 else if o=19 then (if (Kl (l.getD 0 []) (l.getD 1 [])).2≠0 then ([],(Kl (l.getD 0 []) (l.getD 1 [])).2) else if Xn (Kl (l.getD 0 []) (l.getD 1 [])).1≠0 then ([],14) else if Qea (l.getD 2 []) (Kl (l.getD 0 []) (l.getD 1 [])).1≠0 then ([],13) else ((Kl (l.getD 0 []) (l.getD 1 [])).1,0))
 else if o=11 then (if a.length=(l.getD 0 []).length then (tab (fun i=>(l.getD 0 []).getD (a.getD i 0).toNat 0) a.length,0) else ([],13))
 else if o=12 then (if Jp a=Jp (l.getD 0 []) then (a,0) else ([],13))
 else if o=13 then (if Qea (l.getD 0 []) a=0 then (a,0) else ([],13))
 else if o=14∨o=20 then (if a.length>0∧a.getD (a.length - 1) 0≥(l.getD 0 []).length then ([],13) else (Ze (l.getD 0 []) a (l.getD 0 []).length,0))
 else if o=15 then Xkw (l.getD 0 []) a
 else if o=16 then Xlv (l.getD 0 []) a
 else if o=17 then Qjq (a.getD 0 0).toNat l
 else (l.getD 0 [],0)
structure ComeOK (o:Int) (a:List Int) (l:List (List Int)):Prop where
 one:1≤l.length
 few:l.length≤1000
 two:(o=1∨o=2∨o=3∨o=4∨o=10∨o=19)→2≤l.length
 three:o=19→3≤l.length
 rank:∀ k,k<l.length→(l.getD k []).length≤4
 dim:∀ k,k<l.length→∀ i,0≤(l.getD k []).getD i 0∧(l.getD k []).getD i 0≤1024
 len:a.length≤17592186044416
 att:Att a
 perm:o=11→∀ i,i<a.length→0≤a.getD i 0∧a.getD i 0<a.length
 axis:o=17→a.length=1∧0≤a.getD 0 0∧a.getD 0 0≤3
def shV (r:Sh):V:=.tup [.sl r.1.length (ints r.1),.int .i64 r.2]
theorem Xky (r:Sh):shV r=.tup [.sl r.1.length (ints r.1),.int .i64 r.2]:=rfl
attribute [go_sem] Xky
def Qk9:List (List Int)→Int
 | []=>0
 | s::l=>if Xn s≠0 then Xn s else Qk9 l
theorem Qng {l:List (List Int)}:Qk9 l=0↔∀ s∈l,Xn s=0:=by
 induction l with
 | nil=>simp [Qk9]
 | cons s l ih =>
  simp only [Qk9,List.mem_cons,forall_eq_or_imp];split
  ·rename_i h;simp [h]
  ·rename_i h;simp only [ne_eq,Decidable.not_not] at h;simp [h,ih]
theorem Qw1 {l:List (List Int)} {i:Nat} (h:∀ j,j<i→Xn (l.getD j [])=0) (hi:i<l.length) (hn:Xn (l.getD i [])≠0):Qk9 l=Xn (l.getD i []):=by
 induction l generalizing i with
 | nil=>simp at hi
 | cons s l ih =>
  cases i with
  | zero=>simp only [Qk9,List.getD_cons_zero] at hn ⊢;rw [if_pos hn]
  | succ i =>
   have h0:=h 0 (by omega)
   simp only [List.getD_cons_zero] at h0;simp only [Qk9,List.getD_cons_succ] at hn ⊢;rw [if_neg (by simp [h0])]
   exact ih (fun j hj=>by have:=h (j+1) (by omega);simpa using this) (by simpa using hi) hn
theorem Xdj {l:List (List Int)} (h:∀ j,j<l.length→Xn (l.getD j [])=0):Qk9 l=0:=by
 refine Qng.2 fun s hs=>?_
 obtain ⟨j,hj,rfl⟩:=List.mem_iff_getElem.1 hs
 have:=h j hj
 simpa [List.getD,hj] using this
def Kt (v:Int) (n:Nd) (l:List (List Int)):Sh :=
 if Xz v n≠0 then ([],Xz v n) else if l.length≠n.args.length then ([],10) else if Qk9 l≠0 then ([],Qk9 l)
 else if (Zf n.op (Ks v n (l.getD 0 []).length) l).2≠0 then ([],(Zf n.op (Ks v n (l.getD 0 []).length) l).2)
 else if Xn (Zf n.op (Ks v n (l.getD 0 []).length) l).1≠0 then ([],14) else Zf n.op (Ks v n (l.getD 0 []).length) l
theorem Kf {v:Int} {d:Nd} (h:Xz v d=0):(1≤v∧v≤3)∧inP d.op v=true∧least d.op≤d.args.length∧d.args.length≤most d.op∧((d.attrs.length=0∧Qb1 v d.op=true)∨Yq d.op d.attrs=true):=by
 unfold Xz at h
 grind
theorem Qo4 {o v:Int} (h:inP o v=true):1≤o∧o≤20:=by
 simp only [inP,decide_eq_true_eq] at h;omega
theorem Qfw {k i:Nat} (h:i<k):(up k).getD i 0=i:=by simp [up,List.getD,h]
theorem Qbk {k i:Nat} (h:i<k):(down k).getD i 0=(k:Int) - 1 - i:=by
 have:=Xaf k i h
 have h2:((down k).take (i+1)).getD i 0=(down k).getD i 0:=by simp [List.getD,List.getElem?_take,h]
 rw [← h2,this]
 have hl:((down k).take i).length=i:=Xbp (by rw [Zu];omega)
 rw [List.getD_eq_getElem?_getD,List.getElem?_append_right (by omega),hl];simp
theorem Qnt {v:Int} {d:Nd} {l:List (List Int)} (r:Nat) (hat:d.attrs.length≤17592186044416) (hc:Xz v d=0) (hl:l.length=d.args.length) (hm:∀ j,j<l.length→Xn (l.getD j [])=0):ComeOK d.op (Ks v d r) l:=by
 obtain ⟨hv,hin,h1,h2,h3⟩:=Kf hc
 have ho:=Qo4 hin
 have hdim:∀ k,k<l.length→∀ i,0≤(l.getD k []).getD i 0∧(l.getD k []).getD i 0≤1024:=fun k hk i=>by
  obtain ⟨_,g2,g3⟩:=Yk (hm k hk);by_cases hi:i<(l.getD k []).length
  ·have:=Qab.1 g2 i hi
   have:=Qgk g2 hi
   omega
  ·rw [List.getD_eq_getElem?_getD,List.getElem?_eq_none (by omega)];simp
 have hfew:most d.op≤8:=by unfold most least;omega
 have hone:1≤least d.op:=by unfold least;omega
 refine ⟨by omega,by omega,fun h=>?_,fun h=>?_,fun k hk=>(Yk (hm k hk)).1,hdim, ?_, ?_, ?_, ?_⟩
 ·have:2≤least d.op:=by unfold least;omega
  omega
 ·have:3≤least d.op:=by unfold least;omega
  omega
 all_goals
  by_cases hex:Xz v d≠0∨d.attrs.length>0∨Qb1 v d.op=false
  ·rw [Ks,if_pos hex]
   have hatt:Yq d.op d.attrs=true:=by
    rcases h3 with ⟨h3,h4⟩ | h3
    ·rcases hex with hex | hex | hex
     ·exact (hex hc).elim
     ·omega
     ·rw [h4] at hex;cases hex
    ·exact h3
   simp only [Yq,Bool.and_eq_true,Bool.not_eq_true'] at hatt;obtain ⟨hfar,hop⟩:=hatt
   first
    | exact hat
    | exact fun i hi=>Qgy hfar hi
    | (intro h11 i hi
       rw [h11] at hop;rw [show Xu 11 d.attrs=(Ji d.attrs&&decide (d.attrs.length≤4)) from rfl] at hop;simp only [Bool.and_eq_true] at hop
       have:=(Qbd _).1 hop.1 i hi
       exact ⟨this.1,this.2.1⟩)
    | (intro h17
       rw [h17] at hop;rw [show Xu 17 d.attrs=decide (d.attrs.length=1∧0≤d.attrs.getD 0 0∧d.attrs.getD 0 0≤3) from rfl] at hop;exact of_decide_eq_true hop)
  ·rw [Ks,if_neg hex];generalize hR:(if r>4 then 0 else r)=R
   have hR4:R≤4:=by split at hR<;>omega
   split
   ·first
     | (show 1≤_;omega)
     | (intro i hi;simp at hi;subst hi;simp)
     | (intro h11;omega)
   ·split
    ·first
      | (show 1≤_;omega)
      | (intro i hi;simp at hi;subst hi;simp)
      | (intro h11;omega)
      | (intro h17;simp)
    ·split
     ·first
       | (rw [Zu];omega)
       | (intro i hi;rw [Zu] at hi;rw [Qbk hi];omega)
       | (intro h11 i hi;rw [Zu] at hi ⊢;rw [Qbk hi];omega)
       | (intro h17;omega)
     ·first
       | (rw [Qal];omega)
       | (intro i hi;rw [Qal] at hi;rw [Qfw hi];omega)
       | (intro h11;omega)
       | (intro h17;omega)
end Go.Proofs.YtepjcbnpbcmfcaaGreat
end
section
namespace Go.Proofs.YtepjcbnpbcmfcaaGreat
open Go.Bv
def Qku (xs:List Int):Int:=if Xg xs>1024 then 1025 else Xg xs
theorem Qhm (xs:List Int) (hx:xs.length≤17592186044416) (h1:∀ d∈xs,1≤d):Pu C 138 [.sl xs.length (ints xs)] (.int .i64 (Qku xs)):=by
 refine zK Qd Tryz.func138 w138 Tryz.ntmps138 Tryz.results138 ?_
 (refine zG ?_;(repeat' ((with_reducible apply zBr)<;>intro h<;>refine zG ?_))<;>try exact .intro)
 refine Qg (fun n ts H=>∃ k,(k≤xs.length)∧(Xg (xs.take k)≤1024)∧(n=xs.length - k)∧(H=[])∧ts.length=21∧nth ts 3=.int .i64 (Xg (xs.take k))∧nth ts 6=.sl xs.length (ints xs)∧nth ts 7=.int .i64 xs.length∧nth ts 8=.int .i64 k) ?_ (n:=xs.length) ?_
 ·skip
  rintro n ts H ⟨k,hk,hm,hn,hH,hL,hs3,hs6,hs7,hs8⟩;refine Qv [(3,.int .i64 (Xg (xs.take k))),(6,.sl xs.length (ints xs)),(7,.int .i64 xs.length),(8,.int .i64 k)] hL (by simp only [zFm,hs3,hs6,hs7,hs8,true_and];exact zNm) ?_
  clear hL hs3 hs6 hs7 hs8 ts
  refine Qw Qd ?_;subst hH hn
  have hm1:=Qar (l:=xs.take k) fun d hd=>h1 d (List.mem_of_mem_take hd)
  have hd0:0≤1024/Xg (xs.take k):=Int.ediv_nonneg (by omega) (by omega)
  have hd1:1024/Xg (xs.take k)≤1024:=Int.ediv_le_self _ (by omega)
  by_cases hlt:k<xs.length
  ·have hx1:=Qab.1 h1 k hlt
   have hle2:=Qkw h1 (k+1)
   rw [Kd hlt] at hle2;generalize hq:xs.getD k 0=q at hx1 hle2;by_cases hbig:1024<Xg (xs.take k)*q
   ·have hdiv:1024/Xg (xs.take k)<q:=Int.ediv_lt_of_lt_mul (by omega) (by rw [Int.mul_comm];exact hbig)
    (apply Zo;repeat' ((with_reducible first|apply Zk|apply zBr<;>intro h)<;>try simp -implicitDefEqProofs (maxSteps:=9^7) (disch:=first|exact zDs|fail) only [go_sem,hq]))
    (refine Qh (by intro g;simp only [go_sem,ren,Qe]) ?_)
    rw [Qku,if_pos (by omega)]
   ·have hdiv:q≤1024/Xg (xs.take k):=Int.le_ediv_of_mul_le (by omega) (by rw [Int.mul_comm];omega)
    have hpos:0≤Xg (xs.take k)*q:=Int.mul_nonneg (by omega) (by omega)
    (apply Zo;repeat' ((with_reducible first|apply Zk|apply zBr<;>intro h)<;>try simp -implicitDefEqProofs (maxSteps:=9^7) (disch:=first|exact zDs|fail) only [go_sem,hq]))
    exact ⟨_,by omega,k+1,by omega,by rw [Kd hlt,hq];omega,rfl,by rw [Kd hlt,hq],rfl⟩
  ·have e:xs.take k=xs:=List.take_of_length_le (by omega)
   rw [e] at hm
   (refine zG ?_;(repeat' ((with_reducible apply zBr)<;>intro h<;>refine zG ?_))<;>try exact .intro)
   (refine Qh (by intro g;simp only [go_sem,ren,Qe]) ?_)
   rw [Qku,if_neg (by omega),e]
 ·exact ⟨0,by omega,by simp [Xg],rfl,rfl,rfl,rfl,rfl,rfl,rfl⟩
theorem Qcz (xs:List Int) (hlx:xs.length≤17592186044416):Pu C 59 [.sl xs.length (ints xs)] (.int .i64 (Xn xs)):=by
 refine zK Qd Tryz.func59 w59 Tryz.ntmps59 Tryz.results59 ?_
 (refine zG ?_;(repeat' ((with_reducible apply zBr)<;>intro h<;>refine zG ?_))<;>try exact .intro)
 ·skip
  (refine Qh (by intro g;simp only [go_sem,ren,Qe]) ?_)
  congr 1;symm;rw [Xn,if_pos (by omega)]
 ·skip
  refine Qg (fun n ts H=>∃ i,(i≤xs.length)∧(∀ j,j<i→1≤xs.getD j 0)∧(n=xs.length - i)∧(H=[])∧ts.length=20∧nth ts 0=.sl xs.length (ints xs)∧nth ts 8=.sl xs.length (ints xs)∧nth ts 9=.int .i64 xs.length∧nth ts 10=.int .i64 i) ?_ (n:=xs.length) ?_
  ·skip
   rintro n ts H ⟨i,hi,ha,hn,hH,hL,hs0,hs8,hs9,hs10⟩;refine Qv [(0,.sl xs.length (ints xs)),(8,.sl xs.length (ints xs)),(9,.int .i64 xs.length),(10,.int .i64 i)] hL (by simp only [zFm,hs0,hs8,hs9,hs10,true_and];exact zNm) ?_
   clear hL hs0 hs8 hs9 hs10 ts
   refine Qw Qd ?_;subst hH hn
   (refine zG ?_;(repeat' ((with_reducible apply zBr)<;>intro h<;>refine zG ?_))<;>try exact .intro)
   ·skip
    (refine Qh (by intro g;simp only [go_sem,ren,Qe]) ?_)
    congr 1;symm;rw [Xn,if_neg (by omega),if_neg]
    intro hall;have:=Qab.1 (by simpa using hall) i (by omega);omega
   ·exact ⟨_,by omega,i+1,by omega,Qc3 ha (by omega),rfl,(by (repeat' apply And.intro)<;>(first | rfl | omega | (congr 1;omega) | assumption | (congr 1;assumption)))⟩
   ·have hall:∀ d∈xs,1≤d:=Qab.2 fun j hj=>ha j (by omega)
    have hall':xs.all (fun d=>decide (1≤d))=true:=by simpa using hall
    have e1:Xn xs=if Xg xs>1024 then 14 else 0:=by rw [Xn,if_neg (by omega),if_pos hall']
    refine Fc.pure (Qhm xs hlx hall) (by simp [go_sem,Qf,clo,Qb,Qi]) (by intro g;simp only [go_sem,ren,Qe]) ?_
    have e2:1024<Qku xs↔1024<Xg xs:=by unfold Qku;split<;>omega
    by_cases hb:1024<Xg xs
    ·have:=e2.2 hb
     (refine zG ?_;(repeat' ((with_reducible apply zBr)<;>intro h<;>refine zG ?_))<;>try exact .intro)
     (refine Qh (by intro g;simp only [go_sem,ren,Qe]) ?_)
     rw [e1,if_pos (by omega)]
    ·have hnb:¬ 1024<Qku xs:=fun h=>hb (e2.1 h)
     (refine zG ?_;(repeat' ((with_reducible apply zBr)<;>intro h<;>refine zG ?_))<;>try exact .intro)
     (refine Qh (by intro g;simp only [go_sem,ren,Qe]) ?_)
     rw [e1,if_neg (by omega)]
  ·exact ⟨0,by omega,fun j hj=>by omega,rfl,rfl,rfl,rfl,rfl,rfl,rfl⟩
theorem Qg9 (xs:List Int) (hlx:xs.length≤17592186044416):Pu C 145 [.sl xs.length (ints xs)] (.int .i64 (Jp xs)):=by
 refine zK Qd Tryz.func145 w145 Tryz.ntmps145 Tryz.results145 ?_
 (refine zG ?_;(repeat' ((with_reducible apply zBr)<;>intro h<;>refine zG ?_))<;>try exact .intro)
 refine Fc.pure (Qcz xs hlx) (by simp [go_sem,Qf,clo,Qb,Qi]) (by intro g;simp only [go_sem,ren,Qe]) ?_
 (refine zG ?_;(repeat' ((with_reducible apply zBr)<;>intro h<;>refine zG ?_))<;>try exact .intro)
 ·skip
  (refine Qh (by intro g;simp only [go_sem,ren,Qe]) ?_)
  simp only [Jp,if_neg h]
 ·obtain ⟨h4,ha,hp⟩:=Yk h;refine Fc.pure (Qhm xs hlx ha) (by simp [go_sem,Qf,clo,Qb,Qi]) (by intro g;simp only [go_sem,ren,Qe]) ?_
  (refine zG ?_;(repeat' ((with_reducible apply zBr)<;>intro h<;>refine zG ?_))<;>try exact .intro)
  (refine Qh (by intro g;simp only [go_sem,ren,Qe]) ?_)
  rw [Jp,if_pos h,Qku,if_neg (by omega)]
theorem Qv9 (xs ys:List Int) (hx:xs.length≤17592186044416):Pu C 223 [.sl xs.length (ints xs),.sl ys.length (ints ys)] (.bool (decide (xs=ys))):=by
 refine zK Qd Tryz.func223 w223 Tryz.ntmps223 Tryz.results223 ?_
 (refine zG ?_;(repeat' ((with_reducible apply zBr)<;>intro h<;>refine zG ?_))<;>try exact .intro)
 ·skip
  (refine Qh (by intro g;simp only [go_sem,ren,Qe]) ?_)
  congr 1;symm;simp;rintro rfl;exact h rfl
 ·skip
  refine Qg (fun n ts H=>∃ i,(i≤xs.length)∧(∀ j,j<i→xs.getD j 0=ys.getD j 0)∧(n=xs.length - i)∧(H=[])∧ts.length=26∧nth ts 0=.sl xs.length (ints xs)∧nth ts 1=.sl ys.length (ints ys)∧nth ts 12=.int .i64 xs.length∧nth ts 13=.int .i64 i) ?_ (n:=xs.length) ?_
  ·skip
   rintro n ts H ⟨i,hi,he,hn,hH,hL,hs0,hs1,hs12,hs13⟩;refine Qv [(0,.sl xs.length (ints xs)),(1,.sl ys.length (ints ys)),(12,.int .i64 xs.length),(13,.int .i64 i)] hL (by simp only [zFm,hs0,hs1,hs12,hs13,true_and];exact zNm) ?_
   clear hL hs0 hs1 hs12 hs13 ts
   refine Qw Qd ?_;subst hH hn
   (refine zG ?_;(repeat' ((with_reducible apply zBr)<;>intro h<;>refine zG ?_))<;>try exact .intro)
   ·skip
    (refine Qh (by intro g;simp only [go_sem,ren,Qe]) ?_)
    congr 1;symm;simp;rintro rfl;exact h rfl
   ·exact ⟨_,by omega,i+1,by omega,Qc3 he h,rfl,(by (repeat' apply And.intro)<;>(first | rfl | omega | (congr 1;omega) | assumption | (congr 1;assumption)))⟩
   ·skip
    (refine Qh (by intro g;simp only [go_sem,ren,Qe]) ?_)
    congr 1;symm;simp;exact Qia (by omega) fun j hj=>he j (by omega)
  ·exact ⟨0,by omega,fun j hj=>by omega,rfl,rfl,rfl,rfl,rfl,rfl,rfl⟩
theorem Qjb (xs ys:List Int) (hx:xs.length≤17592186044416):Pu C 141 [.sl xs.length (ints xs),.sl ys.length (ints ys)] (.bool (decide (xs=ys))):=by
 refine zK Qd Tryz.func141 w141 Tryz.ntmps141 Tryz.results141 ?_
 (refine zG ?_;(repeat' ((with_reducible apply zBr)<;>intro h<;>refine zG ?_))<;>try exact .intro)
 refine Fc.pure (Qv9 xs ys hx) (by simp [go_sem,Qf,clo,Qb,Qi]) (by intro g;simp only [go_sem,ren,Qe]) ?_
 (refine zG ?_;(repeat' ((with_reducible apply zBr)<;>intro h<;>refine zG ?_))<;>try exact .intro)
 (refine Qh (by intro g;simp only [go_sem,ren,Qe]) ?_)
 rfl
theorem Qv8 (xs:List Int) (m:Int) (hlx:xs.length≤17592186044416):Fc C 288 [.sl xs.length (ints xs),.int .i64 m] [] (fun v H=>(∃ i:Int,v=.int .i64 i∧-1≤i∧i<xs.length∧(xs.contains m=decide (0≤i)))∧H=[]):=by
 refine zK Qd Tryz.func288 w288 Tryz.ntmps288 Tryz.results288 ?_
 (refine zG ?_;(repeat' ((with_reducible apply zBr)<;>intro h<;>refine zG ?_))<;>try exact .intro)
 refine Qg (fun n ts H=>∃ i,(i≤xs.length)∧(∀ j,j<i→m≠xs.getD j 0)∧(n=xs.length - i)∧(H=[])∧ts.length=19∧nth ts 0=.sl xs.length (ints xs)∧nth ts 1=.int .i64 m∧nth ts 7=.int .i64 xs.length∧nth ts 8=.int .i64 i) ?_ (n:=xs.length) ?_
 ·skip
  rintro n ts H ⟨i,hi,he,hn,hH,hL,hs0,hs1,hs7,hs8⟩;refine Qv [(0,.sl xs.length (ints xs)),(1,.int .i64 m),(7,.int .i64 xs.length),(8,.int .i64 i)] hL (by simp only [zFm,hs0,hs1,hs7,hs8,true_and];exact zNm) ?_
  clear hL hs0 hs1 hs7 hs8 ts
  refine Qw Qd ?_;subst hH hn
  (refine zG ?_;(repeat' ((with_reducible apply zBr)<;>intro h<;>refine zG ?_))<;>try exact .intro)
  ·refine ⟨[],by simp,by simp,⟨i,rfl,by omega,by omega, ?_⟩,rfl⟩
   have e:xs.getD i 0=xs[i]'(by omega):=by simp [List.getD,show i<xs.length by omega]
   rw [decide_eq_true (by omega),List.contains_iff_mem,h,e];exact List.getElem_mem _
  ·exact ⟨_,by omega,i+1,by omega,Qc3 he h,rfl,(by (repeat' apply And.intro)<;>(first | rfl | omega | (congr 1;omega) | assumption | (congr 1;assumption)))⟩
  ·refine ⟨[],by simp,by simp,⟨-1,rfl,by omega,by omega, ?_⟩,rfl⟩
   have:=(Qab (xs:=xs) (p:=fun d=>m≠d)).2 fun j hj=>he j (by omega)
   simp;exact fun hm=>this m hm rfl
 ·exact ⟨0,by omega,fun j hj=>by omega,rfl,rfl,rfl,rfl,rfl,rfl,rfl⟩
theorem Qmp (xs:List Int) (m:Int) (hlx:xs.length≤17592186044416):Pu C 266 [.sl xs.length (ints xs),.int .i64 m] (.bool (xs.contains m)):=by
 refine zK Qd Tryz.func266 w266 Tryz.ntmps266 Tryz.results266 ?_
 (refine zG ?_;(repeat' ((with_reducible apply zBr)<;>intro h<;>refine zG ?_))<;>try exact .intro)
 refine Fc.call (Qv8 xs m hlx) (by simp [Qf,clo,Qb]) ?_
 rintro v H' ⟨⟨i,rfl,h1,h2,h3⟩,rfl⟩;simp only [ren,Qbs,List.map_nil,List.append_nil]
 (refine zG ?_;(repeat' ((with_reducible apply zBr)<;>intro h<;>refine zG ?_))<;>try exact .intro)
 (refine Qh (by intro g;simp only [go_sem,ren,Qe]) ?_)
 rw [h3]
theorem Qn7 (f t:List Int) (hf:f.length≤17592186044416) (ht:t.length≤17592186044416):Pu C 143 [.sl f.length (ints f),.sl t.length (ints t)] (.int .i64 (Qea f t)):=by
 refine zK Qd Tryz.func143 w143 Tryz.ntmps143 Tryz.results143 ?_
 (refine zG ?_;(repeat' ((with_reducible apply zBr)<;>intro h<;>refine zG ?_))<;>try exact .intro)
 refine Qg (fun n ts H=>∃ i,(i≤2)∧(1≤i→Xn f=0)∧(2≤i→Xn t=0)∧(n=2 - i)∧(H=[some ⟨37,1,[.sl f.length (ints f),.sl t.length (ints t)]⟩])∧ts.length=52∧nth ts 0=.sl f.length (ints f)∧nth ts 1=.sl t.length (ints t)∧nth ts 13=.ref 0 0 2∧nth ts 14=.int .i64 2∧nth ts 15=.int .i64 i) ?_ (n:=2) ?_
 ·skip
  rintro n ts H ⟨i,hi,h0,h1,hn,hH,hL,hs0,hs1,hs13,hs14,hs15⟩;refine Qv [(0,.sl f.length (ints f)),(1,.sl t.length (ints t)),(13,.ref 0 0 2),(14,.int .i64 2),(15,.int .i64 i)] hL (by simp only [zFm,hs0,hs1,hs13,hs14,hs15,true_and];exact zNm) ?_
  clear hL hs0 hs1 hs13 hs14 hs15 ts
  refine Qw Qd ?_;subst hH hn;rcases (by omega:i=0∨i=1∨i=2) with rfl | rfl | rfl
  ·skip
   (refine zG ?_;(repeat' ((with_reducible apply zBr)<;>intro h<;>refine zG ?_))<;>try exact .intro)
   refine Fc.pure (Qcz f hf) (by simp [go_sem,Qf,clo,Qb,Qi]) (by intro g;simp only [go_sem,ren,Qe]) ?_
   (refine zG ?_;(repeat' ((with_reducible apply zBr)<;>intro h<;>refine zG ?_))<;>try exact .intro)
   ·skip
    (refine Qh (by intro g;simp only [go_sem,ren,Qe]) ?_)
    simp only [Qea,if_neg h]
   ·exact ⟨_,by omega,1,by omega,fun _=>h,by omega,rfl,(by (repeat' apply And.intro)<;>(first | rfl | omega | (congr 1;omega) | assumption | (congr 1;assumption)))⟩
  ·have g0:=h0 (by omega)
   (refine zG ?_;(repeat' ((with_reducible apply zBr)<;>intro h<;>refine zG ?_))<;>try exact .intro)
   refine Fc.pure (Qcz t ht) (by simp [go_sem,Qf,clo,Qb,Qi]) (by intro g;simp only [go_sem,ren,Qe]) ?_
   (refine zG ?_;(repeat' ((with_reducible apply zBr)<;>intro h<;>refine zG ?_))<;>try exact .intro)
   ·skip
    (refine Qh (by intro g;simp only [go_sem,ren,Qe]) ?_)
    simp only [Qea,if_pos g0,if_neg h]
   ·exact ⟨_,by omega,2,by omega,fun _=>g0,fun _=>h,rfl,(by (repeat' apply And.intro)<;>(first | rfl | omega | (congr 1;omega) | assumption | (congr 1;assumption)))⟩
  ·have g0:=h0 (by omega)
   have g1:=h1 (by omega)
   have hp:Qea f t=if okB f t then 0 else 13:=by simp only [Qea,if_pos g0,if_pos g1]
   obtain ⟨hf4,hf1,_⟩:=Yk g0;obtain ⟨ht4,ht1,_⟩:=Yk g1
   (refine zG ?_;(repeat' ((with_reducible apply zBr)<;>intro h<;>refine zG ?_))<;>try exact .intro)
   ·skip
    (refine Qh (by intro g;simp only [go_sem,ren,Qe]) ?_)
    rw [hp,if_neg];intro hok;have:=((Qou f t).1 hok).1;omega
   ·skip
    refine Qg (fun n ts H=>∃ i,(i≤f.length)∧(∀ j,j<i→(f.getD j 0=1∨f.getD j 0=t.getD (t.length - f.length+j) 0))∧(n=f.length - i)∧ts.length=52∧nth ts 0=.sl f.length (ints f)∧nth ts 1=.sl t.length (ints t)∧nth ts 8=.int .i64 ((t.length - f.length:Nat):Int)∧nth ts 32=.sl f.length (ints f)∧nth ts 33=.int .i64 f.length∧nth ts 34=.int .i64 i) ?_ (n:=f.length) ?_
    ·skip
     rintro n ts H ⟨i,hi,ha,hn,hL,hs0,hs1,hs8,hs32,hs33,hs34⟩;refine Qv [(0,.sl f.length (ints f)),(1,.sl t.length (ints t)),(8,.int .i64 ((t.length - f.length:Nat):Int)),(32,.sl f.length (ints f)),(33,.int .i64 f.length),(34,.int .i64 i)] hL (by simp only [zFm,hs0,hs1,hs8,hs32,hs33,hs34,true_and];exact zNm) ?_
     clear hL hs0 hs1 hs8 hs32 hs33 hs34 ts
     refine Qw Qd ?_;subst hn
     have bad:i<f.length→¬ (f.getD i 0=1∨f.getD i 0=t.getD (t.length - f.length+i) 0)→Qea f t=13:=fun hi hb=>by
      rw [hp,if_neg];intro hok;exact hb (((Qou f t).1 hok).2 i hi)
     (refine zG ?_;(repeat' ((with_reducible apply zBr)<;>intro h<;>refine zG ?_))<;>try exact .intro)
     ·skip
      (refine Qh (by intro g;simp only [go_sem,ren,Qe]) ?_)
      rw [bad (by omega) (by omega)]
     ·exact ⟨_,by omega,i+1,by omega,Qc3 ha (by omega),rfl,(by (repeat' apply And.intro)<;>(first | rfl | omega | (congr 1;omega) | assumption | (congr 1;assumption)))⟩
     ·exact ⟨_,by omega,i+1,by omega,Qc3 ha (by omega),rfl,(by (repeat' apply And.intro)<;>(first | rfl | omega | (congr 1;omega) | assumption | (congr 1;assumption)))⟩
     ·skip
      (refine Qh (by intro g;simp only [go_sem,ren,Qe]) ?_)
      rw [hp,if_pos];exact (Qou f t).2 ⟨by omega,fun j hj=>ha j (by omega)⟩
    ·exact ⟨0,by omega,fun j hj=>by omega,rfl,rfl,rfl,rfl,by simp -implicitDefEqProofs (maxSteps:=9^7) (disch:=first | omega | (simp only [Qbe];omega)) only [go_sem];congr 1;omega,rfl,rfl,rfl⟩
 ·exact ⟨0,by omega,by omega,by omega,rfl,rfl,rfl,rfl,rfl,rfl,rfl,rfl⟩
def Xar (l:List Int) (r:Int) (i:Nat):Prop:=(if i=0 then -1 else l.getD (i - 1) 0)<l.getD i 0∧l.getD i 0<r
def axB (l:List Int) (r:Int):Bool:=(List.range l.length).all fun i=>decide ((if i=0 then -1 else l.getD (i - 1) 0)<l.getD i 0∧l.getD i 0<r)
theorem Qih (l:List Int) (r:Int):axB l r=true↔∀ i,i<l.length→Xar l r i:=by simp only [axB,Xar,List.all_eq_true,List.mem_range,decide_eq_true_eq]
def axP (l:List Int) (r:Int):Int:=if axB l r=true then 0 else 11
theorem Qn8 (l:List Int) (r:Int) (hl:l.length≤17592186044416):Pu C 146 [.sl l.length (ints l),.int .i64 r] (.int .i64 (axP l r)):=by
 refine zK Qd Tryz.func146 w146 Tryz.ntmps146 Tryz.results146 ?_
 (refine zG ?_;(repeat' ((with_reducible apply zBr)<;>intro h<;>refine zG ?_))<;>try exact .intro)
 refine Qg (fun n ts H=>∃ i x,(i≤l.length)∧(x=(if i=0 then -1 else l.getD (i - 1) 0))∧(∀ j,j<i→Xar l r j)∧(n=l.length - i)∧(H=[])∧ts.length=24∧nth ts 1=.int .i64 r∧nth ts 5=.int .i64 x∧nth ts 8=.sl l.length (ints l)∧nth ts 9=.int .i64 l.length∧nth ts 10=.int .i64 i) ?_ (n:=l.length) ?_
 ·skip
  rintro n ts H ⟨i,x,hi,hx,ha,hn,hH,hL,hs1,hs5,hs8,hs9,hs10⟩;refine Qv [(1,.int .i64 r),(5,.int .i64 x),(8,.sl l.length (ints l)),(9,.int .i64 l.length),(10,.int .i64 i)] hL (by simp only [zFm,hs1,hs5,hs8,hs9,hs10,true_and];exact zNm) ?_
  clear hL hs1 hs5 hs8 hs9 hs10 ts
  refine Qw Qd ?_;subst hH hn
  have bad:i<l.length→¬ Xar l r i→axP l r=11:=fun hi hb=>by
   rw [axP,if_neg];intro hok;exact hb ((Qih l r).1 hok i hi)
  (refine zG ?_;(repeat' ((with_reducible apply zBr)<;>intro h<;>refine zG ?_))<;>try exact .intro)
  ·skip
   (refine Qh (by intro g;simp only [go_sem,ren,Qe]) ?_)
   rw [bad (by omega) (fun hh=>by have:=hh.1;omega)]
  ·skip
   (refine Qh (by intro g;simp only [go_sem,ren,Qe]) ?_)
   rw [bad (by omega) (fun hh=>by have:=hh.2;omega)]
  ·exact ⟨_,by omega,i+1,_,by omega,by rw [if_neg (by omega)],Qc3 ha ⟨by omega,by omega⟩,rfl,(by (repeat' apply And.intro)<;>(first | rfl | omega | (congr 1;omega) | assumption | (congr 1;assumption)))⟩
  ·skip
   (refine Qh (by intro g;simp only [go_sem,ren,Qe]) ?_)
   rw [axP,if_pos];exact (Qih l r).2 fun j hj=>ha j (by omega)
 ·exact ⟨0, -1,by omega,rfl,fun j hj=>by omega,rfl,rfl,rfl,rfl,rfl,rfl,rfl,rfl⟩
theorem Qwa (u:V) (H:Qa):Fc C 226 [u] H (fun v H'=>v=u∧H'=H):=by
 refine zL Qd Tryz.func226 w226 Tryz.ntmps226 Tryz.results226 ?_
 (refine zG ?_;(repeat' ((with_reducible apply zBr)<;>intro h<;>refine zG ?_))<;>try exact .intro)
theorem Qqf (xs axes:List Int) (hx:xs.length≤17592186044416) (ha:axes.length≤17592186044416):Fc C 225 [.sl xs.length (ints xs),.sl axes.length (ints axes),.fn (.func 226) [] []] [] (fun v H=>Ret 3 1 H v (Ze xs axes xs.length).length (ints (Ze xs axes xs.length))):=by
 refine zK Qd Tryz.func225 w225 Tryz.ntmps225 Tryz.results225 ?_
 (refine zG ?_;(repeat' ((with_reducible apply zBr)<;>intro h<;>refine zG ?_))<;>try exact .intro)
 refine Qg (fun n ts H=>∃ i u,(i≤xs.length)∧(n=xs.length - i)∧(Bv.Own 3 1 H u (Ze xs axes i).length (ints (Ze xs axes i)))∧ts.length=28∧nth ts 1=.sl axes.length (ints axes)∧nth ts 2=.fn (.func 226) [] []∧nth ts 6=u∧nth ts 9=.sl xs.length (ints xs)∧nth ts 10=.int .i64 xs.length∧nth ts 11=.int .i64 i) ?_ (n:=xs.length) ?_
 ·skip
  rintro n ts H ⟨i,u,hi,hn,hu,hL,hs1,hs2,hs6,hs9,hs10,hs11⟩;refine Qv [(1,.sl axes.length (ints axes)),(2,.fn (.func 226) [] []),(6,u),(9,.sl xs.length (ints xs)),(10,.int .i64 xs.length),(11,.int .i64 i)] hL (by simp only [zFm,hs1,hs2,hs6,hs9,hs10,hs11,true_and];exact zNm) ?_
  clear hL hs1 hs2 hs6 hs9 hs10 hs11 ts
  refine Qw Qd ?_;subst hn
  (refine zG ?_;(repeat' ((with_reducible apply zBr)<;>intro h<;>refine zG ?_))<;>try exact .intro)
  ·skip
   refine Fc.pure (Qmp axes i ha) (by simp [go_sem,Qf,clo,Qb,Qi]) (by intro g;simp only [go_sem,ren,Qe]) ?_
   (refine zG ?_;(repeat' ((with_reducible apply zBr)<;>intro h<;>refine zG ?_))<;>try exact .intro)
   ·refine Fc.mono (Qwa u H) ?_;rintro v H' ⟨rfl,rfl⟩
    (refine zG ?_;(repeat' ((with_reducible apply zBr)<;>intro h<;>refine zG ?_))<;>try exact .intro)
    have hc:axes.contains (i:Int)=true:=by assumption
    exact ⟨_,by omega,i+1,_,by omega,rfl,by simpa only [Ze,hc,if_true,List.append_nil] using hu,(by (repeat' apply And.intro)<;>(first | rfl | omega | (congr 1;omega) | assumption | (congr 1;assumption)))⟩
   ·have hle:(Ze xs axes i).length≤i:=Qb7 xs axes i
    refine Qdi hu rfl ⟨by decide,by decide⟩ (by omega) fun v' H' hu' _=>?_
    (refine zG ?_;(repeat' ((with_reducible apply zBr)<;>intro h<;>refine zG ?_))<;>try exact .intro)
    have hc:axes.contains (i:Int)=false:=by assumption
    exact ⟨_,by omega,i+1,v',by omega,rfl,by simpa only [Ze,hc,Bool.false_eq_true,if_false] using hu',(by (repeat' apply And.intro)<;>(first | rfl | omega | (congr 1;omega) | assumption | (congr 1;assumption)))⟩
  ·obtain rfl:i=xs.length:=by omega
   exact hu.ret (fun g=>Qn g _) fun v H h=>h
 ·exact ⟨0,.nil,by omega,rfl,.nil ..,rfl,rfl,rfl,rfl,rfl,rfl,rfl⟩
theorem Qjc (xs axes:List Int) (hx:xs.length≤17592186044416) (ha:axes.length≤17592186044416):Fc C 147 [.sl xs.length (ints xs),.sl axes.length (ints axes)] [] (fun v H=>Ret 3 1 H v (Ze xs axes xs.length).length (ints (Ze xs axes xs.length))):=by
 refine zK Qd Tryz.func147 w147 Tryz.ntmps147 Tryz.results147 ?_
 (refine zG ?_;(repeat' ((with_reducible apply zBr)<;>intro h<;>refine zG ?_))<;>try exact .intro)
 refine Fc.own (Qqf xs axes hx ha) (by simp [Qf,clo,Qb]) (fun g=>Qn g _) fun v X hv=>?_
 (refine zG ?_;(repeat' ((with_reducible apply zBr)<;>intro h<;>refine zG ?_))<;>try exact .intro)
 exact hv.ret (fun g=>Qn g _) fun v H h=>h
theorem Qfu (xs:List Int) (hx:xs.length≤1000000000000):Fc C 139 [.sl xs.length (ints xs)] [] (fun v H=>Ret 3 1 H v xs.length (ints xs)):=by
 refine zK Qd Tryz.func139 w139 Tryz.ntmps139 Tryz.results139 ?_
 (refine zG ?_;(repeat' ((with_reducible apply zBr)<;>intro h<;>refine zG ?_))<;>try exact .intro)
 refine ⟨?_,fun h0=>?_⟩
 ·refine Qnz rfl rfl ⟨by decide,by decide⟩ (by omega) (Jj xs) (Qd8 xs) fun v' H' hu' _=>?_
  (refine zG ?_;(repeat' ((with_reducible apply zBr)<;>intro h<;>refine zG ?_))<;>try exact .intro)
  exact hu'.ret (fun g=>Qn g _) fun v H h=>h
 ·have hn:xs=[]:=List.eq_nil_of_length_eq_zero h0
  subst hn
  (refine zG ?_;(repeat' ((with_reducible apply zBr)<;>intro h<;>refine zG ?_))<;>try exact .intro)
  exact (Own.nil ..).ret (fun g=>Qn g []) fun v H h=>h
theorem Qjx (xs:List Int) (hx:xs.length≤1000000000000):Fc C 45 [.sl xs.length (ints xs)] [] (fun v H=>Ret 3 1 H v xs.length (ints xs)):=by
 refine zK Qd Tryz.func45 w45 Tryz.ntmps45 Tryz.results45 ?_
 (refine zG ?_;(repeat' ((with_reducible apply zBr)<;>intro h<;>refine zG ?_))<;>try exact .intro)
 refine ⟨?_,fun h0=>?_⟩
 ·refine Qnz rfl rfl ⟨by decide,by decide⟩ (by omega) (Jj xs) (Qd8 xs) fun v' H' hu' _=>?_
  (refine zG ?_;(repeat' ((with_reducible apply zBr)<;>intro h<;>refine zG ?_))<;>try exact .intro)
  exact hu'.ret (fun g=>Qn g _) fun v H h=>h
 ·have hn:xs=[]:=List.eq_nil_of_length_eq_zero h0
  subst hn
  (refine zG ?_;(repeat' ((with_reducible apply zBr)<;>intro h<;>refine zG ?_))<;>try exact .intro)
  exact (Own.nil ..).ret (fun g=>Qn g []) fun v H h=>h
theorem Xh4 (l:List Int):Pu C 249 [.sl l.length (ints l)] (.bool (decide (l.length=0))):=by
 refine zK Qd Tryz.func249 w249 Tryz.ntmps249 Tryz.results249 ?_
 (refine zG ?_;(repeat' ((with_reducible apply zBr)<;>intro h<;>refine zG ?_))<;>try exact .intro)
 (refine Qh (by intro g;simp only [go_sem,ren,Qe]) ?_)
 (simp only [V.tup.injEq,List.cons.injEq,V.int.injEq,V.bool.injEq,true_and,and_true];(try rw [Bool.eq_iff_iff]);(try simp only [decide_eq_true_eq,decide_eq_false_iff_not,Decidable.not_not,true_and,and_true,Bool.not_eq_true,Bool.not_eq_eq_eq_not,Bool.not_true,Bool.and_eq_true,Bool.or_eq_true,beq_iff_eq,bne_iff_ne,ne_eq,Bool.false_eq_true,false_iff,true_iff,iff_false,iff_true]);(try omega))
theorem Qm8 (l:List Int) (m:Int):Pu C 286 [.sl l.length (ints l),.rp [.int .i64 m] 0] (.bool (decide (l.length=1∧0≤l.getD 0 0∧l.getD 0 0≤m))):=by
 refine zK Qd Tryz.func286 w286 Tryz.ntmps286 Tryz.results286 ?_
 (refine zG ?_;(repeat' ((with_reducible apply zBr)<;>intro h<;>refine zG ?_))<;>try exact .intro)
 all_goals (refine Qh (by intro g;simp only [go_sem,ren,Qe]) ?_)
 all_goals (simp only [V.tup.injEq,List.cons.injEq,V.int.injEq,V.bool.injEq,true_and,and_true];(try rw [Bool.eq_iff_iff]);(try simp only [decide_eq_true_eq,decide_eq_false_iff_not,Decidable.not_not,true_and,and_true,Bool.not_eq_true,Bool.not_eq_eq_eq_not,Bool.not_true,Bool.and_eq_true,Bool.or_eq_true,beq_iff_eq,bne_iff_ne,ne_eq,Bool.false_eq_true,false_iff,true_iff,iff_false,iff_true]);(try omega))
theorem Qnp (l:List Int) (hl:l.length≤17592186044416):Pu C 253 [.sl l.length (ints l)] (.bool (decide (Xn l=0))):=by
 refine zK Qd Tryz.func253 w253 Tryz.ntmps253 Tryz.results253 ?_
 (refine zG ?_;(repeat' ((with_reducible apply zBr)<;>intro h<;>refine zG ?_))<;>try exact .intro)
 refine Fc.pure (Qcz l hl) (by simp [go_sem,Qf,clo,Qb,Qi]) (by intro g;simp only [go_sem,ren,Qe]) ?_
 (refine zG ?_;(repeat' ((with_reducible apply zBr)<;>intro h<;>refine zG ?_))<;>try exact .intro)
 (refine Qh (by intro g;simp only [go_sem,ren,Qe]) ?_)
 (simp only [V.tup.injEq,List.cons.injEq,V.int.injEq,V.bool.injEq,true_and,and_true];(try rw [Bool.eq_iff_iff]);(try simp only [decide_eq_true_eq,decide_eq_false_iff_not,Decidable.not_not,true_and,and_true,Bool.not_eq_true,Bool.not_eq_eq_eq_not,Bool.not_true,Bool.and_eq_true,Bool.or_eq_true,beq_iff_eq,bne_iff_ne,ne_eq,Bool.false_eq_true,false_iff,true_iff,iff_false,iff_true]);(try omega))
theorem Xfs (l:List Int):axB l 4=Qgc l:=by
 rw [Bool.eq_iff_iff,Qih,Qdy];constructor
 ·intro h i hi
  have pos:∀ i,i<l.length→0≤l.getD i 0:=by
   intro i
   induction i with
   | zero=>intro hi;have:=(h 0 hi).1;simp only [if_true] at this;omega
   | succ i ih=>intro hi;have:=(h (i+1) hi).1;rw [if_neg (by omega)] at this;have:=ih (by omega);simp only [Nat.add_sub_cancel] at *;omega
  have h1:=h i hi
  refine ⟨pos i hi,by have:=h1.2;omega,fun h0=>?_⟩
  have:=h1.1;rw [if_neg (by omega)] at this;exact this
 ·intro h i hi
  have h1:=h i hi
  refine ⟨?_,by have:=h1.2.1;omega⟩
  split
  ·have:=h1.1;omega
  ·exact h1.2.2 (by omega)
theorem Qjg (l:List Int) (hl:l.length≤17592186044416):Pu C 254 [.sl l.length (ints l)] (.bool (Qgc l)):=by
 refine zK Qd Tryz.func254 w254 Tryz.ntmps254 Tryz.results254 ?_
 (refine zG ?_;(repeat' ((with_reducible apply zBr)<;>intro h<;>refine zG ?_))<;>try exact .intro)
 refine Fc.pure (Qn8 l 4 hl) (by simp [go_sem,Qf,clo,Qb,Qi]) (by intro g;simp only [go_sem,ren,Qe]) ?_
 (refine zG ?_;(repeat' ((with_reducible apply zBr)<;>intro h<;>refine zG ?_))<;>try exact .intro)
 (refine Qh (by intro g;simp only [go_sem,ren,Qe]) ?_)
 rw [← Xfs];unfold axP;cases axB l 4<;>rfl
theorem Xfe (a b:Int):Pu C 256 [.int .i64 a,.int .i64 b] (.bool (decide (0≤a∧0≤b∧a<b))):=by
 refine zK Qd Tryz.func256 w256 Tryz.ntmps256 Tryz.results256 ?_
 (refine zG ?_;(repeat' ((with_reducible apply zBr)<;>intro h<;>refine zG ?_))<;>try exact .intro)
 all_goals (refine Qh (by intro g;simp only [go_sem,ren,Qe]) ?_)
 all_goals (simp only [V.tup.injEq,List.cons.injEq,V.int.injEq,V.bool.injEq,true_and,and_true];(try rw [Bool.eq_iff_iff]);(try simp only [decide_eq_true_eq,decide_eq_false_iff_not,Decidable.not_not,true_and,and_true,Bool.not_eq_true,Bool.not_eq_eq_eq_not,Bool.not_true,Bool.and_eq_true,Bool.or_eq_true,beq_iff_eq,bne_iff_ne,ne_eq,Bool.false_eq_true,false_iff,true_iff,iff_false,iff_true]);(try omega))
theorem Xci (a b:Int):Pu C 257 [.int .i64 a,.int .i64 b] (.bool (decide (0≤a∧0≤b))):=by
 refine zK Qd Tryz.func257 w257 Tryz.ntmps257 Tryz.results257 ?_
 (refine zG ?_;(repeat' ((with_reducible apply zBr)<;>intro h<;>refine zG ?_))<;>try exact .intro)
 all_goals (refine Qh (by intro g;simp only [go_sem,ren,Qe]) ?_)
 all_goals (simp only [V.tup.injEq,List.cons.injEq,V.int.injEq,V.bool.injEq,true_and,and_true];(try rw [Bool.eq_iff_iff]);(try simp only [decide_eq_true_eq,decide_eq_false_iff_not,Decidable.not_not,true_and,and_true,Bool.not_eq_true,Bool.not_eq_eq_eq_not,Bool.not_true,Bool.and_eq_true,Bool.or_eq_true,beq_iff_eq,bne_iff_ne,ne_eq,Bool.false_eq_true,false_iff,true_iff,iff_false,iff_true]);(try omega))
theorem Qon (l:List Int) (ha:Att l):Pu C 251 [.sl l.length (ints l)] (.bool (decide (l.length=2∧1≤l.getD 1 0∧Nat.gcd (l.getD 0 0).natAbs (l.getD 1 0).natAbs=1))):=by
 refine zK Qd Tryz.func251 w251 Tryz.ntmps251 Tryz.results251 ?_;by_cases h2:l.length=2
 ·have h0:=ha 0 (by omega)
  have h1:=ha 1 (by omega)
  (refine zG ?_;(repeat' ((with_reducible apply zBr)<;>intro h<;>refine zG ?_))<;>try exact .intro)
  ·skip
   (refine Qh (by intro g;simp only [go_sem,ren,Qe]) ?_)
   (simp only [V.tup.injEq,List.cons.injEq,V.int.injEq,V.bool.injEq,true_and,and_true];(try rw [Bool.eq_iff_iff]);(try simp only [decide_eq_true_eq,decide_eq_false_iff_not,Decidable.not_not,true_and,and_true,Bool.not_eq_true,Bool.not_eq_eq_eq_not,Bool.not_true,Bool.and_eq_true,Bool.or_eq_true,beq_iff_eq,bne_iff_ne,ne_eq,Bool.false_eq_true,false_iff,true_iff,iff_false,iff_true]);(try omega))
  ·skip
   refine Qg (fun n ts H=>∃ a b,(a≤2147483647)∧(b≤2147483647)∧(Nat.gcd a b=Nat.gcd (l.getD 0 0).natAbs (l.getD 1 0).natAbs)∧(n=b)∧(H=[])∧ts.length=33∧nth ts 3=.int .i64 (a:Nat)∧nth ts 4=.int .i64 (b:Nat)) ?_ (n:=(l.getD 1 0).natAbs) ?_
   ·skip
    rintro n ts H ⟨a,b,ha,hb,hg,hn,hH,hL,hs3,hs4⟩;refine Qv [(3,.int .i64 (a:Nat)),(4,.int .i64 (b:Nat))] hL (by simp only [zFm,hs3,hs4,true_and];exact zNm) ?_
    clear hL hs3 hs4 ts
    refine Qw Qd ?_;subst hH hn
    (refine zG ?_;(repeat' ((with_reducible apply zBr)<;>intro h<;>refine zG ?_))<;>try exact .intro)
    ·have e1:(a:Int)%(n:Int)=((a%n:Nat):Int):=by simp
     have hm:a%n<n:=Nat.mod_lt _ (by omega)
     exact ⟨_,hm,n,a%n,hb,by omega,by rw [Nat.gcd_comm,← hg,Nat.gcd_comm a n,Nat.gcd_rec n a],rfl,rfl,by rw [e1]⟩
    ·obtain rfl:n=0:=by omega
     rw [Nat.gcd_zero_right] at hg
     (refine Qh (by intro g;simp only [go_sem,ren,Qe]) ?_)
     simp only [← hg]
     (simp only [V.tup.injEq,List.cons.injEq,V.int.injEq,V.bool.injEq,true_and,and_true];(try rw [Bool.eq_iff_iff]);(try simp only [decide_eq_true_eq,decide_eq_false_iff_not,Decidable.not_not,true_and,and_true,Bool.not_eq_true,Bool.not_eq_eq_eq_not,Bool.not_true,Bool.and_eq_true,Bool.or_eq_true,beq_iff_eq,bne_iff_ne,ne_eq,Bool.false_eq_true,false_iff,true_iff,iff_false,iff_true]);(try omega))
   ·refine ⟨(l.getD 0 0).natAbs,(l.getD 1 0).natAbs,by omega,by omega,rfl,rfl,rfl,rfl, ?_, ?_⟩
    ·skip
     simp -implicitDefEqProofs (maxSteps:=9^7) (disch:=first | omega | (simp only [Qbe];omega)) only [go_sem];congr 1;split<;>omega
    ·skip
     simp -implicitDefEqProofs (maxSteps:=9^7) (disch:=first | omega | (simp only [Qbe];omega)) only [go_sem];congr 1;omega
 ·skip
  (refine zG ?_;(repeat' ((with_reducible apply zBr)<;>intro h<;>refine zG ?_))<;>try exact .intro)
  (refine Qh (by intro g;simp only [go_sem,ren,Qe]) ?_)
  (simp only [V.tup.injEq,List.cons.injEq,V.int.injEq,V.bool.injEq,true_and,and_true];(try rw [Bool.eq_iff_iff]);(try simp only [decide_eq_true_eq,decide_eq_false_iff_not,Decidable.not_not,true_and,and_true,Bool.not_eq_true,Bool.not_eq_eq_eq_not,Bool.not_true,Bool.and_eq_true,Bool.or_eq_true,beq_iff_eq,bne_iff_ne,ne_eq,Bool.false_eq_true,false_iff,true_iff,iff_false,iff_true]);(try omega))
theorem Qji (l:List Int) (g:Nat) (cut:Bool) (hl:l.length≤17592186044416) (hg:∀ a b:Int,Pu C g [.int .i64 a,.int .i64 b] (.bool (decide (0≤a∧0≤b∧(cut=true→a<b))))) :
  Pu C 287 [.sl l.length (ints l),.rp [.fn (.func g) [] []] 0] (.bool (Qfa cut l)):=by
 refine zK Qd Tryz.func287 w287 Tryz.ntmps287 Tryz.results287 ?_
 (refine zG ?_;(repeat' ((with_reducible apply zBr)<;>intro h<;>refine zG ?_))<;>try exact .intro)
 ·skip
  (refine Qh (by intro g;simp only [go_sem,ren,Qe]) ?_)
  rw [Qd0 (fun h=>by have:=h.1;omega)]
 ·skip
  (refine Qh (by intro g;simp only [go_sem,ren,Qe]) ?_)
  rw [Qd0 (fun h=>by have:=h.2.1;omega)]
 ·skip
  refine Qg (fun n ts H=>∃ k,(k≤l.length/2)∧(∀ j,j<k→Qfb cut l j)∧(n=l.length/2 - k)∧(H=[])∧ts.length=32∧nth ts 0=.sl l.length (ints l)∧nth ts 1=.rp [.fn (.func g) [] []] 0∧nth ts 4=.int .i64 (2*k:Nat)) ?_ (n:=l.length/2) ?_
  ·skip
   rintro n ts H ⟨k,hi,hp,hn,hH,hL,hs0,hs1,hs4⟩;refine Qv [(0,.sl l.length (ints l)),(1,.rp [.fn (.func g) [] []] 0),(4,.int .i64 (2*k:Nat))] hL (by simp only [zFm,hs0,hs1,hs4,true_and];exact zNm) ?_
   clear hL hs0 hs1 hs4 ts
   refine Qw Qd ?_;subst hH hn
   have bad:2*k<l.length→¬ Qfb cut l k→Qfa cut l=false:=fun h1 h2=>Qd0 fun h=>h2 (h.2.2 k (by omega))
   (refine zG ?_;(repeat' ((with_reducible apply zBr)<;>intro h<;>refine zG ?_))<;>try exact .intro)
   ·first | refine RunU.now ?_ | refine RunP.now ?_
    (refine zG ?_;(repeat' ((with_reducible apply zBr)<;>intro h<;>refine zG ?_))<;>try exact .intro)
    refine Pc.pure (hg _ _) (by simp [go_sem,Qf,clo,Qb,Qi]) (by intro g;simp only [go_sem,ren,Qe]) ?_
    (refine zG ?_;(repeat' ((with_reducible apply zBr)<;>intro h<;>refine zG ?_))<;>try exact .intro)
    ·exact ⟨_,by omega,k+1,by omega,Qc3 hp (by assumption),rfl,(by (repeat' apply And.intro)<;>(first | rfl | omega | (congr 1;omega) | assumption | (congr 1;assumption)))⟩
    ·skip
     (refine Qh (by intro g;simp only [go_sem,ren,Qe]) ?_)
     rw [bad (by omega) (by assumption)]
   ·skip
    (refine Qh (by intro g;simp only [go_sem,ren,Qe]) ?_)
    rw [(Qd1 _ l).2 ⟨by omega,by omega,fun j hj=>hp j (by omega)⟩]
  ·exact ⟨0,by omega,fun j hj=>by omega,rfl,rfl,rfl,rfl,rfl,rfl⟩
structure RowS where
 op:Int
 name:ByteArray
 first:Int
 last:Int
 least:Int
 most:Int
 may:V
 none:Int
def Qby (r:RowS):List V:=[.int .i64 r.op,.str r.name,.int .i64 r.first,.int .i64 r.last,.int .i64 r.least,.int .i64 r.most,r.may,.int .i64 r.none]
def vno:V:=.fn (.func 249) [] []
def Xa9 (m:Int):V:=.fn (.func 286) [] [.rp [.int .i64 m] 0]
def Qkj (g:Nat):V:=.fn (.func 287) [] [.rp [.fn (.func g) [] []] 0]
def Xqb:V:=.fn (.func 251) [] []
def Xqa:V:=.fn (.func 252) [] []
def Xox:V:=.fn (.func 253) [] []
def Xow:V:=.fn (.func 254) [] []
theorem Xgs (m:Int):Xa9 m=.fn (.func 286) [] [.rp [.int .i64 m] 0]:=rfl
theorem Qxu (g:Nat):Qkj g=.fn (.func 287) [] [.rp [.fn (.func g) [] []] 0]:=rfl
attribute [go_sem] Xgs Qxu
theorem Qq9 (m:Int):Pu C 250 [.int .i64 m] (Xa9 m):=by
 refine Fc.keep (Fc.sealR ?_);refine zL Qd Tryz.func250 w250 Tryz.ntmps250 Tryz.results250 ?_
 (refine zG ?_;(repeat' ((with_reducible apply zBr)<;>intro h<;>refine zG ?_))<;>try exact .intro)
 refine ⟨0,3,1,[.int .i64 m],rfl,rfl,[],by simp,by simp, ?_⟩
 simp [sz,szL,ren,Qe,Xa9,Qbc]
theorem Qjh (g:Nat):Pu C 255 [.fn (.func g) [] []] (Qkj g):=by
 refine Fc.keep (Fc.sealR ?_);refine zL Qd Tryz.func255 w255 Tryz.ntmps255 Tryz.results255 ?_
 (refine zG ?_;(repeat' ((with_reducible apply zBr)<;>intro h<;>refine zG ?_))<;>try exact .intro)
 refine ⟨0,_,1,[.fn (.func g) [] []],rfl,rfl,[],by simp,by simp, ?_⟩
 simp [sz,szL,ren,Qe,Qkj,Qbc]
def opsT:List RowS:=[⟨1,⟨#[97,100,100]⟩,1,3,2,2,vno,0⟩,
 ⟨2,⟨#[115,117,98]⟩,1,3,2,2,vno,0⟩,
 ⟨3,⟨#[109,117,108]⟩,1,3,2,2,vno,0⟩,
 ⟨4,⟨#[100,105,118]⟩,1,3,2,2,vno,0⟩,
 ⟨5,⟨#[110,101,103]⟩,1,3,1,1,vno,0⟩,
 ⟨6,⟨#[112,111,119]⟩,1,3,1,1,Xa9 16,1⟩,
 ⟨7,⟨#[114,101,108,117]⟩,1,3,1,1,vno,0⟩,
 ⟨8,⟨#[115,116,101,112]⟩,3,3,1,1,vno,0⟩,
 ⟨9,⟨#[115,99,97,108,101]⟩,3,3,1,1,Xqb,0⟩,
 ⟨10,⟨#[109,97,116,109,117,108]⟩,1,3,2,2,vno,0⟩,
 ⟨11,⟨#[116,114,97,110,115,112,111,115,101]⟩,1,3,1,1,Xqa,1⟩,
 ⟨12,⟨#[114,101,115,104,97,112,101]⟩,1,3,1,1,Xox,0⟩,
 ⟨13,⟨#[98,114,111,97,100,99,97,115,116]⟩,1,3,1,1,Xox,0⟩,
 ⟨14,⟨#[115,117,109]⟩,1,3,1,1,Xow,2⟩,
 ⟨15,⟨#[115,108,105,99,101]⟩,1,3,1,1,Qkj 256,0⟩,
 ⟨16,⟨#[112,97,100]⟩,1,3,1,1,Qkj 257,0⟩,
 ⟨17,⟨#[99,111,110,99,97,116]⟩,1,3,1,8,Xa9 3,1⟩,
 ⟨18,⟨#[115,113,117,97,114,101]⟩,1,1,1,1,vno,0⟩,
 ⟨19,⟨#[103,101,109,109]⟩,1,2,3,3,vno,0⟩,
 ⟨20,⟨#[109,101,97,110]⟩,1,2,1,1,Xow,2⟩]
theorem Qtb:Pu C 199 [] (.sl 20 (opsT.flatMap Qby)):=by
 refine Fc.keep (Fc.sealR ?_);refine zL Qd Tryz.func199 w199 Tryz.ntmps199 Tryz.results199 ?_
 (refine zG ?_;(repeat' ((with_reducible apply zBr)<;>intro h<;>refine zG ?_))<;>try exact .intro)
 refine Fc.pure (Qq9 16) (by simp [go_sem,Qf,clo,Qb,Qi]) (by intro g;simp only [go_sem,ren,Qe]) ?_
 (refine zG ?_;(repeat' ((with_reducible apply zBr)<;>intro h<;>refine zG ?_))<;>try exact .intro)
 refine Fc.pure (Qjh _) (by simp [go_sem,Qf,clo,Qb,Qi]) (by intro g;simp only [go_sem,ren,Qe]) ?_
 (refine zG ?_;(repeat' ((with_reducible apply zBr)<;>intro h<;>refine zG ?_))<;>try exact .intro)
 refine Fc.pure (Qjh _) (by simp [go_sem,Qf,clo,Qb,Qi]) (by intro g;simp only [go_sem,ren,Qe]) ?_
 (refine zG ?_;(repeat' ((with_reducible apply zBr)<;>intro h<;>refine zG ?_))<;>try exact .intro)
 refine Fc.pure (Qq9 3) (by simp [go_sem,Qf,clo,Qb,Qi]) (by intro g;simp only [go_sem,ren,Qe]) ?_
 (refine zG ?_;(repeat' ((with_reducible apply zBr)<;>intro h<;>refine zG ?_))<;>try exact .intro)
 refine ⟨0,97,8,_,rfl,rfl,[],by simp,by simp, ?_⟩
 refine ⟨?_,rfl⟩
 rfl
end Go.Proofs.YtepjcbnpbcmfcaaGreat
end
section
namespace Go.Proofs.YtepjcbnpbcmfcaaGreat
open Go.Bv
def Qn9:RowS:=⟨0,⟨#[]⟩,0,0,0,0,.nilf,0⟩
theorem Jm (r:RowS):Qby r=[.int .i64 r.op,.str r.name,.int .i64 r.first,.int .i64 r.last,.int .i64 r.least,.int .i64 r.most,r.may,.int .i64 r.none]:=rfl
theorem Xcf (l:List RowS):(l.flatMap Qby).length=l.length*8:=by
 induction l with
 | nil=>rfl
 | cons a l ih=>simp only [List.flatMap_cons,List.length_append,ih,List.length_cons];simp only [Qby,List.length_cons,List.length_nil];omega
theorem Xeu (l:List RowS):∀ (i o:Nat),i<l.length→o<8→nth (l.flatMap Qby) (i*8+o)=nth (Qby (l.getD i Qn9)) o:=by
 induction l with
 | nil=>intro i o h;simp at h
 | cons a l ih =>
  intro i o hi ho;rw [List.flatMap_cons,Yj]
  have h8:(Qby a).length=8:=rfl
  cases i with
  | zero=>rw [if_pos (by omega)];simp
  | succ i =>
   rw [if_neg (by omega),h8,show (i+1)*8+o - 8=i*8+o by omega,ih i o (by simpa using hi) ho];simp
theorem Xet (l:List RowS) (i:Nat) (hi:i<l.length):win (l.flatMap Qby) (i*8) 8=Qby (l.getD i Qn9):=by
 refine Qfz (by rw [Qki];rfl) fun j=>?_
 rw [Qwz];split
 ·rename_i h;exact Xeu l i j hi h
 ·rename_i h;rw [Jw _ _ (by show 8≤j;omega)]
attribute [go_sem] Xcf
attribute [go_sem high] Xet
theorem Qhq:opsT.length=20:=rfl
theorem Xht {j:Nat} (h:j<20):(opsT.getD j Qn9).op=j+1:=by
 rcases j with _ | _ | _ | _ | _ | _ | _ | _ | _ | _ | _ | _ | _ | _ | _ | _ | _ | _ | _ | _ | j
 all_goals first | rfl | omega
theorem Xc7 (r:RowS) (o:Int) (hc:clo r.may=true):Pu C 104 [.agg (Qby r),.rp [.int .i64 o] 0] (.bool (r.op==o)):=by
 refine zK Qd Tryz.func104 w104 Tryz.ntmps104 Tryz.results104 ?_
 (apply Zo;repeat' ((with_reducible first|apply Zk|apply zBr<;>intro h)<;>try simp -implicitDefEqProofs (maxSteps:=9^7) (disch:=first|exact zDs|fail) only [go_sem,Jm]))
 (refine Qh (by intro g;simp only [go_sem,ren,Qe]) ?_)
 rfl
theorem Qhp {j:Nat}:clo (opsT.getD j Qn9).may=true:=by
 by_cases h:j<20
 ·rcases j with _ | _ | _ | _ | _ | _ | _ | _ | _ | _ | _ | _ | _ | _ | _ | _ | _ | _ | _ | _ | j
  all_goals first | rfl | omega
 ·rw [List.getD_eq_getElem?_getD,List.getElem?_eq_none (by rw [Qhq];omega)];rfl
theorem Qnv (r:RowS) (h:clo r.may=true):Qf (Qby r)=true:=by simp [Qby,Qf,clo,h]
theorem Xal:Qf (opsT.flatMap Qby)=true:=by rfl
theorem Qm7 {j:Nat}:Yc (opsT.getD j Qn9).may=true:=by
 by_cases h:j<20
 ·rcases j with _ | _ | _ | _ | _ | _ | _ | _ | _ | _ | _ | _ | _ | _ | _ | _ | _ | _ | _ | _ | j
  all_goals first | rfl | omega
 ·rw [List.getD_eq_getElem?_getD,List.getElem?_eq_none (by rw [Qhq];omega)];rfl
theorem Qyj (g:Nat→Option Nat):Qe g (opsT.flatMap Qby)=opsT.flatMap Qby:=by rfl
attribute [go_sem] Qyj
def ixO (o:Int):Int:=if 1≤o∧o≤20 then o - 1 else -1
theorem Qj2 (o:Int):Pu C 200 [.sl 20 (opsT.flatMap Qby),.fn (.func 104) [] [.rp [.int .i64 o] 0]] (.int .i64 (ixO o)):=by
 refine zK Qd Tryz.func200 w200 Tryz.ntmps200 Tryz.results200 ?_
 (refine zG ?_;(repeat' ((with_reducible apply zBr)<;>intro h<;>refine zG ?_))<;>try exact .intro)
 refine Qg (fun n ts H=>∃ (i:Nat),(i≤20)∧(∀ j,j<i→((j:Int)+1)≠o)∧(n=20 - i)∧(H=[])∧ts.length=19∧nth ts 0=.sl 20 (opsT.flatMap Qby)∧nth ts 1=.fn (.func 104) [] [.rp [.int .i64 o] 0]∧nth ts 7=.int .i64 20∧nth ts 8=.int .i64 i) ?_ (n:=20) ?_
 ·skip
  rintro n ts H ⟨i,hi,he,hn,hH,hL,hs0,hs1,hs7,hs8⟩;refine Qv [(0,.sl 20 (opsT.flatMap Qby)),(1,.fn (.func 104) [] [.rp [.int .i64 o] 0]),(7,.int .i64 20),(8,.int .i64 i)] hL (by simp only [zFm,hs0,hs1,hs7,hs8,true_and];exact zNm) ?_
  clear hL hs0 hs1 hs7 hs8 ts
  refine Qw Qd ?_;subst hH hn
  have hT:=Qhq
  by_cases hlt:i<20
  ·have ho:=Xht hlt
   (refine zG ?_;(repeat' ((with_reducible apply zBr)<;>intro h<;>refine zG ?_))<;>try exact .intro)
   refine Fc.pure (Xc7 _ o Qhp) (by simp only [Qf,clo,Qnv _ Qhp,Bool.and_self]) (fun g=>rfl) ?_
   (apply Zo;repeat' ((with_reducible first|apply Zk|apply zBr<;>intro h)<;>try simp -implicitDefEqProofs (maxSteps:=9^7) (disch:=first|exact zDs|fail) only [go_sem,ho]))
   ·skip
    (refine Qh (by intro g;simp only [go_sem,ren,Qe]) ?_)
    congr 1;rw [ixO];split<;>omega
   ·exact ⟨_,by omega,i+1,by omega,Qc3 he (by omega),rfl,(by (repeat' apply And.intro)<;>(first | rfl | omega | (congr 1;omega) | assumption | (congr 1;assumption)))⟩
  ·obtain rfl:i=20:=by omega
   (refine zG ?_;(repeat' ((with_reducible apply zBr)<;>intro h<;>refine zG ?_))<;>try exact .intro)
   (refine Qh (by intro g;simp only [go_sem,ren,Qe]) ?_)
   congr 1;rw [ixO,if_neg]
   intro h;exact he (o.toNat - 1) (by omega) (by omega)
 ·exact ⟨0,by omega,fun j hj=>by omega,rfl,rfl,rfl,rfl,rfl,rfl,rfl⟩
def Yy (o:Int):RowS:=if 1≤o∧o≤20 then opsT.getD (o - 1).toNat Qn9 else Qn9
theorem Qgr (o:Int):clo (Yy o).may=true:=by
 unfold Yy;split
 ·exact Qhp
 ·rfl
def ofV (o:Int):V:=.tup [.agg (Qby (Yy o)),.bool (decide (1≤o∧o≤20))]
theorem Xab (o:Int):Pu C 103 [.fn (.func 104) [] [.rp [.int .i64 o] 0]] (ofV o):=by
 refine zK Qd Tryz.func103 w103 Tryz.ntmps103 Tryz.results103 ?_
 (refine zG ?_;(repeat' ((with_reducible apply zBr)<;>intro h<;>refine zG ?_))<;>try exact .intro)
 refine Fc.pure (Qtb) (by simp [go_sem,Qf,clo,Qb,Qi]) (by intro g;simp only [go_sem,ren,Qe]) ?_
 (refine zG ?_;(repeat' ((with_reducible apply zBr)<;>intro h<;>refine zG ?_))<;>try exact .intro)
 refine Fc.pure (Qj2 o) (by simp [Qf,clo,Xal]) (fun g=>rfl) ?_
 have hT:=Qhq
 by_cases h:1≤o∧o≤20
 ·have hi:ixO o=((o.toNat - 1:Nat):Int):=by rw [ixO,if_pos h];omega
  rw [hi]
  have hs:=Qm7 (j:=o.toNat - 1)
  have hm:=Qhp (j:=o.toNat - 1)
  have hr:Yy o=opsT.getD (o.toNat - 1) Qn9:=by rw [Yy,if_pos h];congr 1;omega
  rw [ofV,hr,decide_eq_true h]
  (apply Zo;repeat' ((with_reducible first|apply Zk|apply zBr<;>intro h)<;>try simp -implicitDefEqProofs (maxSteps:=9^7) (disch:=first|exact zDs|fail) only [go_sem,Jm,hs]))
  exact Qh (fun g=>Ya g _ (by simp only [clo,Qf,hm,Bool.and_self])) rfl
 ·have hi:ixO o=-1:=by rw [ixO,if_neg h]
  rw [hi]
  have hr:Yy o=Qn9:=by rw [Yy,if_neg h]
  rw [ofV,hr,decide_eq_false h]
  (apply Zo;repeat' ((with_reducible first|apply Zk|apply zBr<;>intro h)<;>try simp -implicitDefEqProofs (maxSteps:=9^7) (disch:=first|exact zDs|fail) only [go_sem,Jm]))
  exact Qh (fun g=>rfl) rfl
theorem Qfr (o:Int):Qf (Qby (Yy o))=true:=Qnv _ (Qgr o)
theorem Qe8 (o:Int):Yc (Yy o).may=true:=by
 unfold Yy;split
 ·exact Qm7
 ·rfl
theorem Qra (o:Int):Pu C 46 [.int .i64 o] (ofV o):=by
 refine zK Qd Tryz.func46 w46 Tryz.ntmps46 Tryz.results46 ?_
 (refine zG ?_;(repeat' ((with_reducible apply zBr)<;>intro h<;>refine zG ?_))<;>try exact .intro)
 refine Fc.sealed (r:=0) (cs:=[.int .i64 o]) rfl rfl ?_;simp only [szL,sz,if_true,List.set_cons_zero]
 have hs:=Qe8 o
 have hm:=Qgr o
 refine Fc.pure (Xab o) rfl (fun g=>Ya g _ (by simp only [ofV,clo,Qf,Qfr,Bool.and_self])) ?_
 rw [ofV];generalize Yy o=r at hs hm
 (apply Zo;repeat' ((with_reducible first|apply Zk|apply zBr<;>intro h)<;>try simp -implicitDefEqProofs (maxSteps:=9^7) (disch:=first|exact zDs|fail) only [go_sem,Jm,hs]))
 exact Qh (fun g=>Ya g _ (by simp only [clo,Qf,hm,Bool.and_self])) rfl
theorem Xio (r:RowS) (v:Int):Pu C 57 [.agg (Qby r),.int .i64 v] (.bool (decide (r.first≤v∧v≤r.last))):=by
 refine zK Qd Tryz.func57 w57 Tryz.ntmps57 Tryz.results57 ?_
 (apply Zo;repeat' ((with_reducible first|apply Zk|apply zBr<;>intro h)<;>try simp -implicitDefEqProofs (maxSteps:=9^7) (disch:=first|exact zDs|fail) only [go_sem,Jm]))
 all_goals (refine Qh (by intro g;simp only [go_sem,ren,Qe]) ?_)
 all_goals (simp only [V.tup.injEq,List.cons.injEq,V.int.injEq,V.bool.injEq,true_and,and_true];(try rw [Bool.eq_iff_iff]);(try simp only [decide_eq_true_eq,decide_eq_false_iff_not,Decidable.not_not,true_and,and_true,Bool.not_eq_true,Bool.not_eq_eq_eq_not,Bool.not_true,Bool.and_eq_true,Bool.or_eq_true,beq_iff_eq,bne_iff_ne,ne_eq,Bool.false_eq_true,false_iff,true_iff,iff_false,iff_true]);(try omega))
theorem Xev (a:Int):Pu C 56 [.int .i64 a] (.bool (decide (a>2147483647∨a< -2147483647))):=by
 refine zK Qd Tryz.func56 w56 Tryz.ntmps56 Tryz.results56 ?_
 (refine zG ?_;(repeat' ((with_reducible apply zBr)<;>intro h<;>refine zG ?_))<;>try exact .intro)
 all_goals (refine Qh (by intro g;simp only [go_sem,ren,Qe]) ?_)
 all_goals (simp only [V.tup.injEq,List.cons.injEq,V.int.injEq,V.bool.injEq,true_and,and_true];(try rw [Bool.eq_iff_iff]);(try simp only [decide_eq_true_eq,decide_eq_false_iff_not,Decidable.not_not,true_and,and_true,Bool.not_eq_true,Bool.not_eq_eq_eq_not,Bool.not_true,Bool.and_eq_true,Bool.or_eq_true,beq_iff_eq,bne_iff_ne,ne_eq,Bool.false_eq_true,false_iff,true_iff,iff_false,iff_true]);(try omega))
theorem Qj3 (l:List Int) (hl:l.length≤17592186044416):Fc C 137 [.sl l.length (ints l),.fn (.func 56) [] []] [] (fun v H=>(∃ i:Int,v=.int .i64 i∧Qfo l=decide (0≤i))∧H=[]):=by
 refine zK Qd Tryz.func137 w137 Tryz.ntmps137 Tryz.results137 ?_
 (refine zG ?_;(repeat' ((with_reducible apply zBr)<;>intro h<;>refine zG ?_))<;>try exact .intro)
 refine Qg (fun n ts H=>∃ i,(i≤l.length)∧(∀ j,j<i→¬ (l.getD j 0>2147483647∨l.getD j 0< -2147483647))∧(n=l.length - i)∧(H=[])∧ts.length=19∧nth ts 0=.sl l.length (ints l)∧nth ts 1=.fn (.func 56) [] []∧nth ts 7=.int .i64 l.length∧nth ts 8=.int .i64 i) ?_ (n:=l.length) ?_
 ·skip
  rintro n ts H ⟨i,hi,he,hn,hH,hL,hs0,hs1,hs7,hs8⟩;refine Qv [(0,.sl l.length (ints l)),(1,.fn (.func 56) [] []),(7,.int .i64 l.length),(8,.int .i64 i)] hL (by simp only [zFm,hs0,hs1,hs7,hs8,true_and];exact zNm) ?_
  clear hL hs0 hs1 hs7 hs8 ts
  refine Qw Qd ?_;subst hH hn
  (refine zG ?_;(repeat' ((with_reducible apply zBr)<;>intro h<;>refine zG ?_))<;>try exact .intro)
  ·skip
   refine Fc.pure (Xev _) (by simp [go_sem,Qf,clo,Qb,Qi]) (by intro g;simp only [go_sem,ren,Qe]) ?_
   (refine zG ?_;(repeat' ((with_reducible apply zBr)<;>intro h<;>refine zG ?_))<;>try exact .intro)
   ·refine ⟨[],by simp,by simp,⟨i,rfl, ?_⟩,rfl⟩
    rw [decide_eq_true (by omega)]
    simp only [Qfo,List.any_eq_true,decide_eq_true_eq]
    have e:l.getD i 0=l[i]'(by omega):=by simp [List.getD,show i<l.length by omega]
    refine ⟨_,List.getElem_mem (show i<l.length by omega), ?_⟩
    rw [← e];assumption
   ·exact ⟨_,by omega,i+1,by omega,Qc3 he (by assumption),rfl,(by (repeat' apply And.intro)<;>(first | rfl | omega | (congr 1;omega) | assumption | (congr 1;assumption)))⟩
  ·refine ⟨[],by simp,by simp,⟨-1,rfl, ?_⟩,rfl⟩
   rw [decide_eq_false (by omega)]
   simp only [Qfo,List.any_eq_false,decide_eq_true_eq];exact (Qab (xs:=l) (p:=fun x=>¬ (x>2147483647∨x< -2147483647))).2 fun j hj=>he j (by omega)
 ·exact ⟨0,by omega,fun j hj=>by omega,rfl,rfl,rfl,rfl,rfl,rfl,rfl⟩
theorem Kr (l:List Int) (hl:l.length≤17592186044416):Pu C 58 [.sl l.length (ints l),.fn (.func 56) [] []] (.bool (Qfo l)):=by
 refine zK Qd Tryz.func58 w58 Tryz.ntmps58 Tryz.results58 ?_
 (refine zG ?_;(repeat' ((with_reducible apply zBr)<;>intro h<;>refine zG ?_))<;>try exact .intro)
 refine Fc.call (Qj3 l hl) (by simp [Qf,clo,Qb]) ?_
 rintro v H' ⟨⟨i,rfl,h3⟩,rfl⟩;simp only [ren,Qbs,List.map_nil,List.append_nil]
 (refine zG ?_;(repeat' ((with_reducible apply zBr)<;>intro h<;>refine zG ?_))<;>try exact .intro)
 (refine Qh (by intro g;simp only [go_sem,ren,Qe]) ?_)
 rw [h3]
theorem Qzn (tur:∀ l:List Int,l.length≤17592186044416→Pu C 252 [.sl l.length (ints l)] (.bool (Ji l&&decide (l.length≤4)))) (o:Int) (ho:1≤o∧o≤20) (l:List Int) (hl:l.length≤17592186044416) (ha:Att l) :
  ∃ g ys,(Yy o).may=.fn (.func g) [] ys∧Qf ys=true∧Pu C g (.sl l.length (ints l)::ys) (.bool (Xu o l)):=by
 have hcs:o=6∨o=9∨o=11∨o=12∨o=13∨o=14∨o=15∨o=16∨o=17∨o=20∨(o=1∨o=2∨o=3∨o=4∨o=5∨o=7∨o=8∨o=10∨o=18∨o=19):=by omega
 rcases hcs with rfl | rfl | rfl | rfl | rfl | rfl | rfl | rfl | rfl | rfl | hcs
 ·exact ⟨_,_,rfl,rfl,Qm8 l 16⟩
 ·exact ⟨_,_,rfl,rfl,Qon l ha⟩
 ·exact ⟨_,_,rfl,rfl,tur l hl⟩
 ·exact ⟨_,_,rfl,rfl,Qnp l hl⟩
 ·exact ⟨_,_,rfl,rfl,Qnp l hl⟩
 ·exact ⟨_,_,rfl,rfl,Qjg l hl⟩
 ·exact ⟨_,_,rfl,rfl,Qji l _ true hl fun a b=>by have:=Xfe a b;simpa using this⟩
 ·exact ⟨_,_,rfl,rfl,Qji l _ false hl fun a b=>by have:=Xci a b;simpa using this⟩
 ·exact ⟨_,_,rfl,rfl,Qm8 l 3⟩
 ·exact ⟨_,_,rfl,rfl,Qjg l hl⟩
 ·rcases hcs with rfl | rfl | rfl | rfl | rfl | rfl | rfl | rfl | rfl | rfl<;>exact ⟨_,_,rfl,rfl,Xh4 l⟩
end Go.Proofs.YtepjcbnpbcmfcaaGreat
end
section
namespace Go.Proofs.YtepjcbnpbcmfcaaGreat
open Go.Bv
theorem Qhi (o:Int) (ho:1≤o∧o≤20):(∀ v,1≤v→v≤3→(inP o v=true↔(Yy o).first≤v∧v≤(Yy o).last)∧(Qb1 v o=true↔v≤(Yy o).none))∧(Yy o).least=least o∧(Yy o).most=most o:=by
 have hcs:o=1∨o=2∨o=3∨o=4∨o=5∨o=6∨o=7∨o=8∨o=9∨o=10∨o=11∨o=12∨o=13∨o=14∨o=15∨o=16∨o=17∨o=18∨o=19∨o=20:=by omega
 rcases hcs with rfl | rfl | rfl | rfl | rfl | rfl | rfl | rfl | rfl | rfl | rfl | rfl | rfl | rfl | rfl | rfl | rfl | rfl | rfl | rfl
 all_goals
  refine ⟨fun v h1 h2=>?_,rfl,rfl⟩
  rcases (by omega:v=1∨v=2∨v=3) with rfl | rfl | rfl
  all_goals exact ⟨by decide,by decide⟩
theorem Qwb (tur:∀ l:List Int,l.length≤17592186044416→Pu C 252 [.sl l.length (ints l)] (.bool (Ji l&&decide (l.length≤4)))) (v:Int) (n:Nd) (ha:n.args.length≤17592186044416) (hl:n.attrs.length≤17592186044416):Pu C 32 [.int .i64 v,.agg (ndC n)] (.int .i64 (Xz v n)):=by
 have hs:=Qe8 n.op
 have hm:=Qgr n.op
 refine zK Qd Tryz.func32 w32 Tryz.ntmps32 Tryz.results32 ?_
 (refine zG ?_;(repeat' ((with_reducible apply zBr)<;>intro h<;>refine zG ?_))<;>try exact .intro)
 refine Fc.pure (Qra n.op) rfl (fun g=>Ya g _ (by simp only [ofV,clo,Qf,Qfr,Bool.and_self])) ?_
 rw [ofV]
 (apply Zo;repeat' ((with_reducible first|apply Zk|apply zBr<;>intro h)<;>try simp -implicitDefEqProofs (maxSteps:=9^7) (disch:=first|exact zDs|fail) only [go_sem,Jm,hs]))
 ·skip
  (refine Qh (by intro g;simp only [go_sem,ren,Qe]) ?_)
  rw [Xz,if_pos (by omega)]
 ·skip
  (refine Qh (by intro g;simp only [go_sem,ren,Qe]) ?_)
  rw [Xz,if_pos (by omega)]
 ·have ho:1≤n.op∧n.op≤20:=by assumption
  obtain ⟨f1,f2,f3⟩:=Qhi n.op ho;obtain ⟨f4,f5⟩:=f1 v (by omega) (by omega)
  have hc:Xz v n=if inP n.op v=false then 9 else if (n.args.length:Int)<least n.op∨(n.args.length:Int)>most n.op then 10 else if n.attrs.length=0∧Qb1 v n.op=true then 0 else if Yq n.op n.attrs=true then 0 else 11:=by rw [Xz,if_neg (by omega)]
  refine Fc.pure (Xio (Yy n.op) v) (by simp only [Qf,clo,hm,Bool.and_self]) (fun g=>rfl) ?_
  have hin:¬ ((Yy n.op).first≤v∧v≤(Yy n.op).last)→inP n.op v=false:=fun h=>by
   cases hx:inP n.op v with
   | false=>rfl
   | true=>exact absurd (f4.1 hx) h
  by_cases hf:Qfo n.attrs=true
  ·skip
   (apply Zo;repeat' ((with_reducible first|apply Zk|apply zBr<;>intro h)<;>try simp -implicitDefEqProofs (maxSteps:=9^7) (disch:=first|exact zDs|fail) only [go_sem,Jm,hs]))
   ·skip
    (refine Qh (by intro g;simp only [go_sem,ren,Qe]) ?_)
    grind
   ·skip
    (refine Qh (by intro g;simp only [go_sem,ren,Qe]) ?_)
    grind
   ·skip
    (refine Qh (by intro g;simp only [go_sem,ren,Qe]) ?_)
    grind
   ·skip
    refine Fc.pure (Kr _ hl) (by simp [go_sem,Qf,clo,Qb,Qi]) (by intro g;simp only [go_sem,ren,Qe]) ?_
    rw [hf]
    (apply Zo;repeat' ((with_reducible first|apply Zk|apply zBr<;>intro h)<;>try simp -implicitDefEqProofs (maxSteps:=9^7) (disch:=first|exact zDs|fail) only [go_sem,Jm,hs]))
    (refine Qh (by intro g;simp only [go_sem,ren,Qe]) ?_)
    grind [Yq]
   ·skip
    refine Fc.pure (Kr _ hl) (by simp [go_sem,Qf,clo,Qb,Qi]) (by intro g;simp only [go_sem,ren,Qe]) ?_
    rw [hf]
    (apply Zo;repeat' ((with_reducible first|apply Zk|apply zBr<;>intro h)<;>try simp -implicitDefEqProofs (maxSteps:=9^7) (disch:=first|exact zDs|fail) only [go_sem,Jm,hs]))
    (refine Qh (by intro g;simp only [go_sem,ren,Qe]) ?_)
    grind [Yq]
   ·skip
    (refine Qh (by intro g;simp only [go_sem,ren,Qe]) ?_)
    rw [hc,if_pos (hin (by assumption))]
  ·have hff:Qfo n.attrs=false:=by simpa using hf
   obtain ⟨g,ys,he,hy,hsp⟩:=Qzn tur n.op ho n.attrs hl fun i hi=>Qgy hff hi
   have hat:Yq n.op n.attrs=Xu n.op n.attrs:=by simp [Yq,hff]
   (apply Zo;repeat' ((with_reducible first|apply Zk|apply zBr<;>intro h)<;>try simp -implicitDefEqProofs (maxSteps:=9^7) (disch:=first|exact zDs|fail) only [go_sem,Jm,hs]))
   ·skip
    (refine Qh (by intro g;simp only [go_sem,ren,Qe]) ?_)
    grind
   ·skip
    (refine Qh (by intro g;simp only [go_sem,ren,Qe]) ?_)
    grind
   ·skip
    (refine Qh (by intro g;simp only [go_sem,ren,Qe]) ?_)
    grind
   ·skip
    refine Fc.pure (Kr _ hl) (by simp [go_sem,Qf,clo,Qb,Qi]) (by intro g;simp only [go_sem,ren,Qe]) ?_
    rw [hff]
    (apply Zo;repeat' ((with_reducible first|apply Zk|apply zBr<;>intro h)<;>try simp -implicitDefEqProofs (maxSteps:=9^7) (disch:=first|exact zDs|fail) only [go_sem,Jm,hs,he]))
    refine Fc.pure hsp (by simp only [Qf,clo,hy,Qb,Bool.and_self]) (fun g=>rfl) ?_
    (refine zG ?_;(repeat' ((with_reducible apply zBr)<;>intro h<;>refine zG ?_))<;>try exact .intro)
    all_goals (refine Qh (by intro g;simp only [go_sem,ren,Qe]) ?_)
    all_goals grind
   ·skip
    refine Fc.pure (Kr _ hl) (by simp [go_sem,Qf,clo,Qb,Qi]) (by intro g;simp only [go_sem,ren,Qe]) ?_
    rw [hff]
    (apply Zo;repeat' ((with_reducible first|apply Zk|apply zBr<;>intro h)<;>try simp -implicitDefEqProofs (maxSteps:=9^7) (disch:=first|exact zDs|fail) only [go_sem,Jm,hs,he]))
    refine Fc.pure hsp (by simp only [Qf,clo,hy,Qb,Bool.and_self]) (fun g=>rfl) ?_
    (refine zG ?_;(repeat' ((with_reducible apply zBr)<;>intro h<;>refine zG ?_))<;>try exact .intro)
    all_goals (refine Qh (by intro g;simp only [go_sem,ren,Qe]) ?_)
    all_goals grind
   ·skip
    (refine Qh (by intro g;simp only [go_sem,ren,Qe]) ?_)
    rw [hc,if_pos (hin (by assumption))]
 ·skip
  (refine Qh (by intro g;simp only [go_sem,ren,Qe]) ?_)
  have:inP n.op v=false:=by
   cases hx:inP n.op v with
   | false=>rfl
   | true=>exact absurd (Qo4 hx) (by assumption)
  rw [Xz,if_neg (by omega),if_pos this]
theorem Qup (a:Int):Pu C 332 [.int .i64 a] (.bool false):=by
 refine zK Qd Tryz.func332 w332 Tryz.ntmps332 Tryz.results332 ?_
 (refine zG ?_;(repeat' ((with_reducible apply zBr)<;>intro h<;>refine zG ?_))<;>try exact .intro)
 (refine Qh (by intro g;simp only [go_sem,ren,Qe]) ?_)
 simp
theorem Xa1 (a b:Int):Pu C 318 [.int .i64 a,.int .i64 b] (.bool (decide (a<b))):=by
 refine zK Qd Tryz.func318 w318 Tryz.ntmps318 Tryz.results318 ?_
 (refine zG ?_;(repeat' ((with_reducible apply zBr)<;>intro h<;>refine zG ?_))<;>try exact .intro)
 refine Fc.pure (Qup a) (by simp [go_sem,Qf,clo,Qb,Qi]) (by intro g;simp only [go_sem,ren,Qe]) ?_
 (refine zG ?_;(repeat' ((with_reducible apply zBr)<;>intro h<;>refine zG ?_))<;>try exact .intro)
 (refine Qh (by intro g;simp only [go_sem,ren,Qe]) ?_)
 (simp only [V.tup.injEq,List.cons.injEq,V.int.injEq,V.bool.injEq,true_and,and_true];(try rw [Bool.eq_iff_iff]);(try simp only [decide_eq_true_eq,decide_eq_false_iff_not,Decidable.not_not,true_and,and_true,Bool.not_eq_true,Bool.not_eq_eq_eq_not,Bool.not_true,Bool.and_eq_true,Bool.or_eq_true,beq_iff_eq,bne_iff_ne,ne_eq,Bool.false_eq_true,false_iff,true_iff,iff_false,iff_true]);(try omega))
def swp (l:List Int) (j:Nat):List Int:=(l.set j (l.getD (j - 1) 0)).set (j - 1) (l.getD j 0)
theorem Xbs (l:List Int) {j:Nat} (h0:0<j) (h:j<l.length):(swp l j).Perm l:=by
 rw [List.perm_iff_count];intro a
 have h1:j - 1<l.length:=by omega
 have e1:l.getD j 0=l[j]:=by simp [List.getD,h]
 have e2:l.getD (j - 1) 0=l[j - 1]:=by simp [List.getD,h1]
 have e3:(l.set j l[j - 1])[j - 1]'(by simpa using h1)=l[j - 1]:=by rw [List.getElem_set_ne (by omega)]
 rw [swp,e2,e1,List.count_set (by simpa using h1),List.count_set h,e3]
 have c1:(if (l[j]==a)=true then 1 else 0)≤List.count a l:=by
  split
  ·rename_i hh;exact List.one_le_count_iff.2 (by rw [← eq_of_beq hh];exact List.getElem_mem _)
  ·omega
 have c2:(if (l[j - 1]==a)=true then 1 else 0)≤List.count a l:=by
  split
  ·rename_i hh;exact List.one_le_count_iff.2 (by rw [← eq_of_beq hh];exact List.getElem_mem _)
  ·omega
 omega
theorem Qhd (l:List Int) {j:Nat} (h0:0<j) (h:j<l.length) (q:Nat):(swp l j).getD q 0=if q=j - 1 then l.getD j 0 else if q=j then l.getD (j - 1) 0 else l.getD q 0:=by
 unfold swp;split
 ·subst q;rw [Go.Bv.getD_set_eq _ (by simp;omega)]
 ·rename_i hq;rw [Go.Bv.getD_set_ne _ hq];split
  ·subst q;rw [Go.Bv.getD_set_eq _ h]
  ·rename_i hq2;rw [Go.Bv.getD_set_ne _ hq2]
structure Ins (xs zs:List Int) (i j:Nat):Prop where
 perm:zs.Perm xs
 others:∀ p q,p<q→q≤i→p≠j→q≠j→zs.getD p 0≤zs.getD q 0
 above:∀ q,j<q→q≤i→zs.getD j 0≤zs.getD q 0
theorem Ins.len {xs zs:List Int} {i j:Nat} (h:Ins xs zs i j):zs.length=xs.length:=h.perm.length_eq
theorem Ins.step {xs zs:List Int} {i j:Nat} (h:Ins xs zs i j) (h0:0<j) (hj:j≤i) (hi:i<zs.length) (hlt:zs.getD j 0<zs.getD (j - 1) 0):Ins xs (swp zs j) i (j - 1):=by
 refine ⟨(Xbs zs h0 (by omega)).trans h.perm,fun p q hpq hq hp1 hq1=>?_,fun q hq hqi=>?_⟩
 ·rw [Qhd _ h0 (by omega),Qhd _ h0 (by omega),if_neg hp1,if_neg hq1]
  split
  ·subst p;rw [if_neg (by omega)]
   exact h.others (j - 1) q (by omega) hq (by omega) (by omega)
  ·split
   ·subst q;exact h.others p (j - 1) (by omega) (by omega) (by omega) (by omega)
   ·exact h.others p q hpq hq (by omega) (by omega)
 ·rw [Qhd _ h0 (by omega),Qhd _ h0 (by omega),if_pos rfl,if_neg (by omega)]
  split
  ·omega
  ·exact h.above q (by omega) hqi
theorem Ins.done {xs zs:List Int} {i j:Nat} (h:Ins xs zs i j) (hj:j≤i) (hx:j=0∨¬ zs.getD j 0<zs.getD (j - 1) 0):∀ p q,p<q→q≤i→zs.getD p 0≤zs.getD q 0:=by
 intro p q hpq hq;by_cases hp:p=j
 ·subst hp;exact h.above q hpq hq
 ·by_cases hqj:q=j
  ·subst hqj;rcases hx with hx | hx
   ·omega
   ·by_cases hp1:p=q - 1
    ·subst hp1;omega
    ·have:=h.others p (q - 1) (by omega) (by omega) (by omega) (by omega)
     omega
  ·exact h.others p q hpq hq hp hqj
theorem Qqr {H0:Qa} {r:Nat} {row:Row} (hr:Qc H0 r=some row):H0.set r (some row)=H0:=by
 have:=Xh hr
 obtain ⟨h1,h2⟩:=List.getElem?_eq_some_iff.1 this;rw [← h2];exact List.set_getElem_self ..
theorem Qo2 (r:Nat) (H0:Qa) (xs:List Int) (hr:Qc H0 r=some ⟨3,1,ints xs⟩) (hn:xs.length≤1000000):Fc C 312 [.ref r 0 xs.length,.int .i64 0,.int .i64 xs.length] H0 (fun v H'=>∃ ys:List Int,v=.tup []∧ys.Perm xs∧(∀ p q,p<q→q<ys.length→ys.getD p 0≤ys.getD q 0)∧H'=H0.set r (some ⟨3,1,ints ys⟩)):=by
 have hset:∀ row,Qc (H0.set r (some row)) r=some row:=fun row=>Qj hr
 have hsame:=Qqr hr
 refine zL Qd Tryz.func312 w312 Tryz.ntmps312 Tryz.results312 ?_
 (refine zG ?_;(repeat' ((with_reducible apply zBr)<;>intro h<;>refine zG ?_))<;>try exact .intro)
 by_cases h0:xs.length=0
 ·obtain rfl:xs=[]:=List.eq_nil_of_length_eq_zero h0;refine Qf9 ?_;refine Qw Qd ?_
  (refine zG ?_;(repeat' ((with_reducible apply zBr)<;>intro h<;>refine zG ?_))<;>try exact .intro)
  exact ⟨[],List.Perm.refl _,(fun p q h1 h2=>by simp at h2),hsame.symm⟩
 refine Qg (fun n ts H=>∃ (i:Nat) (zs:List Int),(1≤i)∧(i≤xs.length)∧(zs.Perm xs)∧(∀ p q,p<q→q<i→zs.getD p 0≤zs.getD q 0)∧(n=xs.length - i)∧(H=H0.set r (some ⟨3,1,ints zs⟩))∧ts.length=49∧nth ts 0=.ref r 0 xs.length∧nth ts 1=.int .i64 0∧nth ts 2=.int .i64 xs.length∧nth ts 6=.int .i64 i) ?_ (n:=xs.length - 1) ?_
 ·skip
  rintro n ts H ⟨i,zs,hi1,hi,hp,hs,hn,hH,hL,hs0,hs1,hs2,hs6⟩;refine Qv [(0,.ref r 0 xs.length),(1,.int .i64 0),(2,.int .i64 xs.length),(6,.int .i64 i)] hL (by simp only [zFm,hs0,hs1,hs2,hs6,true_and];exact zNm) ?_
  clear hL hs0 hs1 hs2 hs6 ts
  refine Qw Qd ?_;subst hn hH
  have hlz:=hp.length_eq
  (refine zG ?_;(repeat' ((with_reducible apply zBr)<;>intro h<;>refine zG ?_))<;>try exact .intro)
  ·skip
   refine Qg (fun n ts H=>∃ (j:Nat) (ws:List Int),(j≤i)∧(Ins xs ws i j)∧(n=j)∧(H=H0.set r (some ⟨3,1,ints ws⟩))∧ts.length=49∧nth ts 0=.ref r 0 xs.length∧nth ts 1=.int .i64 0∧nth ts 2=.int .i64 xs.length∧nth ts 6=.int .i64 i∧nth ts 7=.int .i64 j) ?_ (n:=i) ?_
   ·skip
    rintro n ts H ⟨j,ws,hj,hI,hn,hH,hL,hs0,hs1,hs2,hs6,hs7⟩;refine Qv [(0,.ref r 0 xs.length),(1,.int .i64 0),(2,.int .i64 xs.length),(6,.int .i64 i),(7,.int .i64 j)] hL (by simp only [zFm,hs0,hs1,hs2,hs6,hs7,true_and];exact zNm) ?_
    clear hL hs0 hs1 hs2 hs6 hs7 ts
    refine Qw Qd ?_;subst hn hH
    have hlw:=hI.len
    (apply Zo;repeat' ((with_reducible first|apply Zk|apply zBr<;>intro h)<;>try simp -implicitDefEqProofs (maxSteps:=9^7) (disch:=first|exact zDs|fail) only [go_sem,hset]))
    ·skip
     refine Pc.pure (Xa1 _ _) (by simp [go_sem,Qf,clo,Qb,Qi]) (by intro g;simp only [go_sem,ren,Qe]) ?_
     (apply Zo;repeat' ((with_reducible first|apply Zk|apply zBr<;>intro h)<;>try simp -implicitDefEqProofs (maxSteps:=9^7) (disch:=first|exact zDs|fail) only [go_sem,hset]))
     ·have:((n:Int) - 1)=((n - 1:Nat):Int):=by omega
      exact ⟨n - 1,by omega,n - 1,swp ws n,by omega,hI.step (by omega) hj (by omega) (by assumption),rfl,rfl,by rw [this]⟩
     ·have hd:=hI.done hj (.inr (by assumption))
      exact ⟨xs.length - (i+1),by omega,i+1,ws,by omega,by omega,hI.perm,fun p q h1 h2=>hd p q h1 (by omega),rfl,rfl,by simp⟩
    ·have hd:=hI.done hj (.inl (by omega))
     exact ⟨xs.length - (i+1),by omega,i+1,ws,by omega,by omega,hI.perm,fun p q h1 h2=>hd p q h1 (by omega),rfl,rfl,by simp⟩
   ·exact ⟨i,zs,by omega,⟨hp,fun p q h1 h2 h3 h4=>hs p q h1 (by omega),fun q h1 h2=>by omega⟩,rfl,rfl,rfl,rfl,rfl,rfl,rfl,rfl⟩
  ·exact ⟨zs,hp,fun p q h1 h2=>hs p q h1 (by omega),rfl⟩
 ·exact ⟨1,xs,by omega,by omega,List.Perm.refl _,fun p q h1 h2=>by omega,rfl,hsame.symm,rfl,rfl,rfl,rfl,rfl⟩
@[go_sem] theorem Xai {d:Ty} {k0:IntKind} {n:Int} {K:V→Prop}:Qct d (.int k0 n) K=(match d.ik with | some k=>K (.int k (k.wrap n)) | none=>False):=by unfold Qct;cases d.ik<;>rfl
theorem Quu {ty:TypeId→Ty} {y:Ty} {s:ByteArray} {k:IntKind} {i:Nat} {K:V→Prop} (h:y.arr=none) (h2:y.str=true) (hi:i<s.size) {u:V} (hu:.int .u8 ((s[i]?.getD 0).toNat:Int)=u) (hK:K u):Jx ty y (.str s) (.int k (i:Int)) K:=by
 subst hu;simp only [Jx,h];exact ⟨h2,by omega,by simpa using hi,by simpa using hK⟩
@[go_sem] theorem Xp2 {n:Int} (h:0≤n∧n≤255):IntKind.wrap .u8 n=n:=by
 have e:IntKind.wrap .u8 n=n%256:=rfl
 omega
@[go_sem] theorem Xou {n:Int} (h:0≤n∧n≤18446744073709551615):IntKind.wrap .u64 n=n:=by
 have e:IntKind.wrap .u64 n=n%18446744073709551616:=rfl
 omega
theorem Xcs (lim:Int) (r:Nat) (H0:Qa) (xs:List Int) (hr:Qc H0 r=some ⟨3,1,ints xs⟩) (hn:xs.length≤12):Fc C 298 [.ref r 0 xs.length,.int .i64 0,.int .i64 xs.length,.int .i64 lim] H0 (fun v H'=>∃ ys:List Int,v=.tup []∧ys.Perm xs∧(∀ p q,p<q→q<ys.length→ys.getD p 0≤ys.getD q 0)∧H'=H0.set r (some ⟨3,1,ints ys⟩)):=by
 refine zL Qd Tryz.func298 w298 Tryz.ntmps298 Tryz.results298 ?_
 (refine zG ?_;(repeat' ((with_reducible apply zBr)<;>intro h<;>refine zG ?_))<;>try exact .intro)
 refine Qf9 ?_;refine Qw Qd ?_
 (refine zG ?_;(repeat' ((with_reducible apply zBr)<;>intro h<;>refine zG ?_))<;>try exact .intro)
 refine Fc.mono (Qo2 r H0 xs hr (by omega)) ?_
 rintro v H' ⟨ys,rfl,hp,hs,rfl⟩
 (refine zG ?_;(repeat' ((with_reducible apply zBr)<;>intro h<;>refine zG ?_))<;>try exact .intro)
 exact ⟨ys,hp,hs,rfl⟩
theorem Qv7 (a:Nat) (h:a≤12):Pu C 321 [.int .u64 a] (.int .i64 (Nat.log2 (2*a))):=by
 refine zK Qd Tryz.func321 w321 Tryz.ntmps321 Tryz.results321 ?_
 (refine zG ?_;(repeat' ((with_reducible apply zBr)<;>intro h<;>refine zG ?_))<;>try exact .intro)
 have hx:a=0∨a=1∨a=2∨a=3∨a=4∨a=5∨a=6∨a=7∨a=8∨a=9∨a=10∨a=11∨a=12:=by omega
 rcases hx with rfl | rfl | rfl | rfl | rfl | rfl | rfl | rfl | rfl | rfl | rfl | rfl | rfl
 all_goals refine ⟨by decide, ?_⟩
 all_goals (refine zG ?_;(repeat' ((with_reducible apply zBr)<;>intro h<;>refine zG ?_))<;>try exact .intro)
 all_goals (refine Qh (by intro g;simp only [go_sem,ren,Qe]) ?_)
 all_goals rfl
theorem Qs4 (a:Nat) (h:a≤12):Pu C 299 [.int .u64 a] (.int .i64 (Nat.log2 (2*a))):=by
 refine zK Qd Tryz.func299 w299 Tryz.ntmps299 Tryz.results299 ?_
 (refine zG ?_;(repeat' ((with_reducible apply zBr)<;>intro h<;>refine zG ?_))<;>try exact .intro)
 refine Fc.pure (Qv7 a h) (by simp [go_sem,Qf,clo,Qb,Qi]) (by intro g;simp only [go_sem,ren,Qe]) ?_
 (refine zG ?_;(repeat' ((with_reducible apply zBr)<;>intro h<;>refine zG ?_))<;>try exact .intro)
 (refine Qh (by intro g;simp only [go_sem,ren,Qe]) ?_)
 rfl
theorem Xaz (r:Nat) (H0:Qa) (xs:List Int) (hr:Qc H0 r=some ⟨3,1,ints xs⟩) (hn:xs.length≤12):Fc C 280 [.ref r 0 xs.length] H0 (fun v H'=>∃ ys:List Int,v=.tup []∧ys.Perm xs∧(∀ p q,p<q→q<ys.length→ys.getD p 0≤ys.getD q 0)∧H'=H0.set r (some ⟨3,1,ints ys⟩)):=by
 refine zL Qd Tryz.func280 w280 Tryz.ntmps280 Tryz.results280 ?_
 (refine zG ?_;(repeat' ((with_reducible apply zBr)<;>intro h<;>refine zG ?_))<;>try exact .intro)
 refine Fc.pure (Qs4 _ hn) (by simp [go_sem,Qf,clo,Qb,Qi]) (by intro g;simp only [go_sem,ren,Qe]) ?_
 (refine zG ?_;(repeat' ((with_reducible apply zBr)<;>intro h<;>refine zG ?_))<;>try exact .intro)
 refine Fc.mono (Xcs _ r H0 xs hr hn) ?_;rintro v H' ⟨ys,rfl,hp,hs,rfl⟩
 (refine zG ?_;(repeat' ((with_reducible apply zBr)<;>intro h<;>refine zG ?_))<;>try exact .intro)
 exact ⟨ys,hp,hs,rfl⟩
theorem Xoq:Tryz.f281.body.all yOK=true:=by kernel_rfl
def Qoc (xs:List Int):V:=.fn (.func 281) [] [.rp [.sl xs.length (ints xs)] 0]
theorem Qsy (xs:List Int):Pu C 240 [.sl xs.length (ints xs)] (Qoc xs):=by
 refine Fc.keep (Fc.sealR ?_);refine zL Qd Tryz.func240 w240 Tryz.ntmps240 Tryz.results240 ?_
 (refine zG ?_;(repeat' ((with_reducible apply zBr)<;>intro h<;>refine zG ?_))<;>try exact .intro)
 refine ⟨0,_,1,[.sl xs.length (ints xs)],rfl,by simp [Qf,clo,Qb],[],by simp,by simp, ?_⟩
 simp [sz,szL,ren,Qe,Qoc,Qbc,Qn]
theorem Qv1 (xs:List Int) (hx:xs.length≤1048576):Gen C 281 [.rp [.sl xs.length (ints xs)] 0] (xs.map fun a=>[.int .i64 a]):=by
 refine Gen.of3 Qd Tryz.func281 w281 Xoq rfl Tryz.ntmps281 Tryz.results281 (zLe rfl) (by simp [Qf,clo]) ?_
 intro G l J hW
 (refine zG ?_;(repeat' ((with_reducible apply zBr)<;>intro h<;>refine zG ?_))<;>try exact .intro)
 refine Qa4 (fun n ts H=>∃ (i:Nat),(i≤xs.length)∧(n=xs.length - i)∧(H.length=i)∧ts.length=16∧nth ts 0=.fn (.yield l) [] []∧nth ts 5=.sl xs.length (ints xs)∧nth ts 6=.int .i64 xs.length∧nth ts 7=.int .i64 i) ?_ (n:=xs.length) ?_
 ·skip
  rintro n ts H ⟨i,hi,hn,hH,hL,hs0,hs5,hs6,hs7⟩;refine Qil [(0,.fn (.yield l) [] []),(5,.sl xs.length (ints xs)),(6,.int .i64 xs.length),(7,.int .i64 i)] hL (by simp only [zFm,hs0,hs5,hs6,hs7,true_and];exact zNm) ?_
  clear hL hs0 hs5 hs6 hs7 ts
  refine hW _ _ _ _ ?_
  (refine zG ?_;(repeat' ((with_reducible apply zBr)<;>intro h<;>refine zG ?_))<;>try exact .intro)
  ·refine ⟨?_,⟨xs.length - (i+1),by omega,i+1,by omega,rfl,by omega,rfl⟩,.inr trivial,.inr ?_⟩
   ·have:i<xs.length:=by omega
    simp [hH,List.getD,this]
   ·simp only [List.length_replicate,List.length_map];omega
  ·refine ⟨.inl trivial,.inl ?_⟩;simp only [List.length_map];omega
 ·exact ⟨0,by omega,by omega,rfl,rfl,rfl,rfl,rfl,rfl⟩
theorem Ql9 (xs:List Int) (hx:xs.length≤1048576):Fc C 297 [.nil,Qoc xs] [] (fun v H=>Ret 3 1 H v xs.length (ints xs)):=by
 have hv:Qoc xs=.fn (.func 281) [] [.rp [.sl xs.length (ints xs)] 0]:=rfl
 refine zK Qd Tryz.func297 w297 Tryz.ntmps297 Tryz.results297 ?_
 (apply Zo;repeat' ((with_reducible first|apply Zk|apply zBr<;>intro h)<;>try simp -implicitDefEqProofs (maxSteps:=9^7) (disch:=first|exact zDs|fail) only [go_sem,hv]))
 refine Qeg (g:=281) (lb:=[.rp [.sl xs.length (ints xs)] 0]) (xs:=xs.map fun a=>[.int .i64 a]) (by simp -implicitDefEqProofs (maxSteps:=9^7) (disch:=first | omega | (simp only [Qbe];omega)) only [go_sem]) (by simp [Qf,clo,Qb]) (Qv1 xs hx) (by simp) (fun k H=>∃ v,Qc H 0=some ⟨23,1,[v]⟩∧Go.Bv.Own 3 1 H v k (ints (xs.take k))) ⟨.nil,rfl,Go.Bv.Own.nil _ _ _⟩ ?_ ?_
 ·intro k us H hk hI l;obtain ⟨v,h0,hO⟩:=hI
  have hkl:k<xs.length:=by simpa using (List.getElem?_eq_some_iff.1 hk).1
  obtain rfl:us=[.int .i64 (xs.getD k 0)]:=by simp [hkl] at hk;simp [hk.symm,List.getD,hkl]
  (refine Qw Qd ?_;simp -implicitDefEqProofs (maxSteps:=9^7) (disch:=first | omega | (simp only [Qbe];omega)) only [go_sem,Qip])
  (refine Qw Qd ?_;simp -implicitDefEqProofs (maxSteps:=9^7) (disch:=first | omega | (simp only [Qbe];omega)) only [go_sem,h0])
  refine Qxi hO rfl ⟨by decide,by decide⟩ (by omega) rfl (Qd8 _) fun v' H' hO' hF=>?_
  have h0':Qc H' 0=some ⟨23,1,[v]⟩:=hF 0 _ (by
   rintro off n rfl;rcases hO with ⟨h,_⟩ | ⟨r,h,hr,_⟩
   ·cases h
   ·injection h with h _ _;subst h;rw [h0] at hr;simp at hr) h0
  have hc:cellsOf v'=[v']∧Yc v'=true:=by rcases hO' with ⟨rfl,_⟩ | ⟨r,rfl,_⟩<;>exact ⟨rfl,rfl⟩
  (apply Zo;repeat' ((with_reducible first|apply Zk|apply zBr<;>intro h)<;>try simp -implicitDefEqProofs (maxSteps:=9^7) (disch:=first|exact zDs|fail) only [go_sem,h0',hc.1,hc.2,Qcj,List.all_cons,List.all_nil]))
  have ht:ints (xs.take (k+1))=ints (xs.take k)++[V.int .i64 (xs.getD k 0)]:=by rw [Qkm xs 0 hkl];simp [ints]
  refine ⟨v',Qj h0', ?_⟩;rw [ht];rcases hO' with h | ⟨r,h,hr,hl⟩
  ·exact .inl h
  ·refine .inr ⟨r,h, ?_,hl⟩;rw [Qk]
   ·exact hr
   ·rintro rfl;rw [h0'] at hr;simp at hr
 ·intro H hI;obtain ⟨v,h0,hO⟩:=hI
  (apply Zo;repeat' ((with_reducible first|apply Zk|apply zBr<;>intro h)<;>try simp -implicitDefEqProofs (maxSteps:=9^7) (disch:=first|exact zDs|fail) only [go_sem,h0]))
  simp only [List.length_map,List.take_length] at hO;exact hO.ret (fun g=>Qn g _) (fun v H h=>h)
theorem Qp8 (xs:List Int) (hx:xs.length≤1048576):Fc C 279 [Qoc xs] [] (fun v H=>Ret 3 1 H v xs.length (ints xs)):=by
 refine zK Qd Tryz.func279 w279 Tryz.ntmps279 Tryz.results279 ?_
 (refine zG ?_;(repeat' ((with_reducible apply zBr)<;>intro h<;>refine zG ?_))<;>try exact .intro)
 refine Fc.own (Ql9 xs hx) (by simp [Qf,clo,Qoc,Qb]) (fun g=>Qn g _) fun v X hO=>?_
 (refine zG ?_;(repeat' ((with_reducible apply zBr)<;>intro h<;>refine zG ?_))<;>try exact .intro)
 exact hO.ret (fun g=>Qn g _) (fun v H h=>h)
theorem Qrx:Pu C 312 [.nil,.int .i64 0,.int .i64 0] (.tup []):=by
 refine zK Qd Tryz.func312 w312 Tryz.ntmps312 Tryz.results312 ?_
 (refine zG ?_;(repeat' ((with_reducible apply zBr)<;>intro h<;>refine zG ?_))<;>try exact .intro)
 refine Qf9 ?_;refine Qw Qd ?_
 (refine zG ?_;(repeat' ((with_reducible apply zBr)<;>intro h<;>refine zG ?_))<;>try exact .intro)
 (refine Qh (by intro g;simp only [go_sem,ren,Qe]) ?_)
 rfl
theorem Xhm (lim:Int):Pu C 298 [.nil,.int .i64 0,.int .i64 0,.int .i64 lim] (.tup []):=by
 refine zK Qd Tryz.func298 w298 Tryz.ntmps298 Tryz.results298 ?_
 (refine zG ?_;(repeat' ((with_reducible apply zBr)<;>intro h<;>refine zG ?_))<;>try exact .intro)
 refine Qf9 ?_;refine Qw Qd ?_
 (refine zG ?_;(repeat' ((with_reducible apply zBr)<;>intro h<;>refine zG ?_))<;>try exact .intro)
 refine Fc.pure (Qrx) (by simp [go_sem,Qf,clo,Qb,Qi]) (by intro g;simp only [go_sem,ren,Qe]) ?_
 (refine zG ?_;(repeat' ((with_reducible apply zBr)<;>intro h<;>refine zG ?_))<;>try exact .intro)
 (refine Qh (by intro g;simp only [go_sem,ren,Qe]) ?_)
 rfl
theorem Xf7:Pu C 280 [.nil] (.tup []):=by
 refine zK Qd Tryz.func280 w280 Tryz.ntmps280 Tryz.results280 ?_
 (refine zG ?_;(repeat' ((with_reducible apply zBr)<;>intro h<;>refine zG ?_))<;>try exact .intro)
 refine Fc.pure (Qs4 0 (by omega)) (by simp [go_sem,Qf,clo,Qb,Qi]) (by intro g;simp only [go_sem,ren,Qe]) ?_
 (refine zG ?_;(repeat' ((with_reducible apply zBr)<;>intro h<;>refine zG ?_))<;>try exact .intro)
 refine Fc.pure (Xhm _) (by simp [go_sem,Qf,clo,Qb,Qi]) (by intro g;simp only [go_sem,ren,Qe]) ?_
 (refine zG ?_;(repeat' ((with_reducible apply zBr)<;>intro h<;>refine zG ?_))<;>try exact .intro)
 (refine Qh (by intro g;simp only [go_sem,ren,Qe]) ?_)
 rfl
theorem Qs1 (xs:List Int) (hx:xs.length≤12):Fc C 239 [Qoc xs] [] (fun v H=>∃ ys:List Int,ys.Perm xs∧(∀ p q,p<q→q<ys.length→ys.getD p 0≤ys.getD q 0)∧Ret 3 1 H v ys.length (ints ys)):=by
 refine zK Qd Tryz.func239 w239 Tryz.ntmps239 Tryz.results239 ?_
 (refine zG ?_;(repeat' ((with_reducible apply zBr)<;>intro h<;>refine zG ?_))<;>try exact .intro)
 refine Fc.own (Qp8 xs (by omega)) (by simp [Qf,clo,Qoc,Qb]) (fun g=>Qn g _) fun v X hO=>?_
 rcases hO with ⟨rfl,h,h'⟩ | ⟨r,rfl,hr,hl⟩
 ·obtain rfl:xs=[]:=List.eq_nil_of_length_eq_zero h
  (refine zG ?_;(repeat' ((with_reducible apply zBr)<;>intro h<;>refine zG ?_))<;>try exact .intro)
  refine Fc.pure (Xf7) (by simp [go_sem,Qf,clo,Qb,Qi]) (by intro g;simp only [go_sem,ren,Qe]) ?_
  (refine zG ?_;(repeat' ((with_reducible apply zBr)<;>intro h<;>refine zG ?_))<;>try exact .intro)
  exact (Go.Bv.Own.nil _ _ _).ret (fun g=>rfl) (fun v H h=>⟨[],.refl _,fun p q h1 h2=>by simp at h2,h⟩)
 ·skip
  (refine zG ?_;(repeat' ((with_reducible apply zBr)<;>intro h<;>refine zG ?_))<;>try exact .intro)
  refine Fc.mono (Xaz r _ xs hr hx) ?_;rintro v H' ⟨ys,rfl,hp,hs,rfl⟩
  (refine zG ?_;(repeat' ((with_reducible apply zBr)<;>intro h<;>refine zG ?_))<;>try exact .intro)
  have hO:Go.Bv.Own 3 1 (List.set ([]++X) r (some ⟨3,1,ints ys⟩)) (.ref r 0 xs.length) ys.length (ints ys):=.inr ⟨r,by rw [hp.length_eq],Qj hr,by simp [Jj]⟩
  exact hO.ret (fun g=>Qn g _) (fun v H h=>⟨ys,hp,hs,h⟩)
theorem Qq1 {xs:List Int} (h:Ji xs=true):xs.Nodup:=by
 rw [List.Nodup,List.pairwise_iff_getElem];intro i j hi hj hij he
 have:=((Qbd xs).1 h j hj)
 simp only [Qgs] at this
 have h2:=this.2.2
 refine h2 i hij ?_;simp only [List.getD,List.getElem?_eq_getElem hi,List.getElem?_eq_getElem hj,Option.getD_some,he]
theorem Qyx {xs:List Int} (h:Ji xs=true):∀ a∈xs,0≤a∧a<xs.length:=by
 intro a ha;obtain ⟨i,hi,rfl⟩:=List.getElem_of_mem ha
 have:=((Qbd xs).1 h i hi)
 simp only [Qgs,List.getD,List.getElem?_eq_getElem hi,Option.getD_some] at this;exact ⟨this.1,this.2.1⟩
theorem Qf4 {ys:List Int} {i:Nat} (h:i<ys.length):ys.getD i 0∈ys:=by
 simp only [List.getD,List.getElem?_eq_getElem h,Option.getD_some];exact List.getElem_mem _
theorem Qhf {xs ys:List Int} (hp:ys.Perm xs) (hs:∀ p q,p<q→q<ys.length→ys.getD p 0≤ys.getD q 0):Ji xs=true↔∀ i,i<ys.length→ys.getD i 0=i:=by
 have hl:=hp.length_eq
 constructor
 ·intro h
  have hn:ys.Nodup:=hp.nodup_iff.2 (Qq1 h)
  have hm:∀ i,i<ys.length→0≤ys.getD i 0∧ys.getD i 0<ys.length:=fun i hi=>by
   have:=Qyx h _ (hp.mem_iff.1 (Qf4 hi));rwa [← hl] at this
  have hlt:∀ i,i+1<ys.length→ys.getD i 0<ys.getD (i+1) 0:=fun i hi=>by
   have h1:=hs i (i+1) (by omega) hi
   have h2:ys.getD i 0≠ys.getD (i+1) 0:=by
    rw [List.Nodup,List.pairwise_iff_getElem] at hn
    have:=hn i (i+1) (by omega) hi (by omega)
    simpa only [List.getD,List.getElem?_eq_getElem hi,List.getElem?_eq_getElem (show i<ys.length by omega),Option.getD_some] using this
   omega
  have lo:∀ i,i<ys.length→(i:Int)≤ys.getD i 0:=by
   intro i
   induction i with
   | zero=>intro hi;exact (hm 0 hi).1
   | succ i ih=>intro hi;have:=ih (by omega);have:=hlt i hi;omega
  have up:∀ d i,i<ys.length→ys.length - 1 - i=d→ys.getD i 0≤i:=by
   intro d
   induction d with
   | zero=>intro i hi hd;have:=(hm i hi).2;omega
   | succ d ih=>intro i hi hd;have:=ih (i+1) (by omega) (by omega);have:=hlt i (by omega);omega
  intro i hi
  have:=lo i hi;have:=up _ i hi rfl;omega
 ·intro h
  have hn:ys.Nodup:=by
   rw [List.Nodup,List.pairwise_iff_getElem];intro i j hi hj hij he
   have h1:=h i hi;have h2:=h j hj
   simp only [List.getD,List.getElem?_eq_getElem hi,List.getElem?_eq_getElem hj,Option.getD_some] at h1 h2;omega
  have hn':=hp.nodup_iff.1 hn
  rw [List.Nodup,List.pairwise_iff_getElem] at hn';refine (Qbd xs).2 fun i hi=>?_
  obtain ⟨j,hj,he⟩:=List.getElem_of_mem (hp.mem_iff.2 (Qf4 hi))
  have h1:=h j hj
  simp only [List.getD,List.getElem?_eq_getElem hj,Option.getD_some] at h1;simp only [Qgs];refine ⟨by omega,by omega,fun k hk=>?_⟩
  have:=hn' k i (by omega) hi hk
  simpa only [List.getD,List.getElem?_eq_getElem hi,List.getElem?_eq_getElem (show k<xs.length by omega),Option.getD_some] using this
theorem Qv6 (xs:List Int) (hx:xs.length≤12):Pu C 173 [.sl xs.length (ints xs),.int .i64 xs.length] (.int .i64 (if Ji xs then 0 else 11)):=by
 refine zK Qd Tryz.func173 w173 Tryz.ntmps173 Tryz.results173 ?_
 (refine zG ?_;(repeat' ((with_reducible apply zBr)<;>intro h<;>refine zG ?_))<;>try exact .intro)
 refine Fc.pure (Qsy xs) (by simp [Qf,clo,Qb]) (fun g=>Ya g _ (by simp [Qoc,Qf,clo,Qb])) ?_
 (refine zG ?_;(repeat' ((with_reducible apply zBr)<;>intro h<;>refine zG ?_))<;>try exact .intro)
 refine Fc.mono (Qs1 xs hx) ?_;rintro v H' ⟨ys,hp,hs,hR⟩
 have hr:=Qhf hp hs
 have hl:=hp.length_eq
 rcases hR with ⟨rfl,h,h',rfl⟩ | ⟨rfl,rfl,_⟩
 ·obtain rfl:ys=[]:=List.eq_nil_of_length_eq_zero h
  have hx:Ji xs=true:=hr.2 (by simp)
  rw [hx]
  (refine zG ?_;(repeat' ((with_reducible apply zBr)<;>intro h<;>refine zG ?_))<;>try exact .intro)
  refine Qf9 ?_;refine Qw Qd ?_
  (refine zG ?_;(repeat' ((with_reducible apply zBr)<;>intro h<;>refine zG ?_))<;>try exact .intro)
  (refine Qh (by intro g;simp only [go_sem,ren,Qe]) ?_)
  rfl
 ·skip
  (refine zG ?_;(repeat' ((with_reducible apply zBr)<;>intro h<;>refine zG ?_))<;>try exact .intro)
  refine Qg (fun n ts H=>∃ (i:Nat),(i≤ys.length)∧(H=[some ⟨3,1,ints ys⟩])∧(n=ys.length - i)∧(∀ k,k<i→ys.getD k 0=k)∧ts.length=27∧nth ts 1=.int .i64 xs.length∧nth ts 4=.int .i64 0∧nth ts 5=.ref 0 0 ys.length∧nth ts 11=.ref 0 0 ys.length∧nth ts 12=.int .i64 ys.length∧nth ts 13=.int .i64 i) ?_ (n:=ys.length) ?_
  ·skip
   rintro n ts H ⟨i,hi,hH,hn,hall,hL,hs1,hs4,hs5,hs11,hs12,hs13⟩;refine Qv [(1,.int .i64 xs.length),(4,.int .i64 0),(5,.ref 0 0 ys.length),(11,.ref 0 0 ys.length),(12,.int .i64 ys.length),(13,.int .i64 i)] hL (by simp only [zFm,hs1,hs4,hs5,hs11,hs12,hs13,true_and];exact zNm) ?_
   clear hL hs1 hs4 hs5 hs11 hs12 hs13 ts
   refine Qw Qd ?_;subst hH
   (refine zG ?_;(repeat' ((with_reducible apply zBr)<;>intro h<;>refine zG ?_))<;>try exact .intro)
   ·skip
    (refine Qh (by intro g;simp only [go_sem,ren,Qe]) ?_)
    have:Ji xs=false:=by
     cases hb:Ji xs with
     | false=>rfl
     | true=>exact absurd (hr.1 hb i (by omega)) (by assumption)
    simp [this]
   ·refine ⟨ys.length - (i+1),by omega,i+1,by omega,rfl,fun k hk=>?_,rfl⟩
    rcases Nat.lt_or_ge k i with h1 | h1
    ·exact hall k h1
    ·obtain rfl:k=i:=by omega
     assumption
   ·skip
    (refine Qh (by intro g;simp only [go_sem,ren,Qe]) ?_)
    have:Ji xs=true:=hr.2 fun k hk=>hall k (by omega)
    simp [this]
  ·exact ⟨0,by omega,rfl,rfl,fun k hk=>by omega,rfl,rfl,rfl,rfl,rfl,rfl,rfl⟩
theorem Qmg (l:List Int) (hl:l.length≤17592186044416):Pu C 252 [.sl l.length (ints l)] (.bool (Ji l&&decide (l.length≤4))):=by
 refine zK Qd Tryz.func252 w252 Tryz.ntmps252 Tryz.results252 ?_
 (refine zG ?_;(repeat' ((with_reducible apply zBr)<;>intro h<;>refine zG ?_))<;>try exact .intro)
 ·skip
  refine Fc.pure (Qv6 l (by omega)) (by simp [go_sem,Qf,clo,Qb,Qi]) (by intro g;simp only [go_sem,ren,Qe]) ?_
  cases hp:Ji l with
  | true =>
   (refine zG ?_;(repeat' ((with_reducible apply zBr)<;>intro h<;>refine zG ?_))<;>try exact .intro)
   (refine Qh (by intro g;simp only [go_sem,ren,Qe]) ?_)
   simp;omega
  | false =>
   (refine zG ?_;(repeat' ((with_reducible apply zBr)<;>intro h<;>refine zG ?_))<;>try exact .intro)
   (refine Qh (by intro g;simp only [go_sem,ren,Qe]) ?_)
   simp
 ·skip
  (refine Qh (by intro g;simp only [go_sem,ren,Qe]) ?_)
  have:¬ l.length≤4:=by omega
  simp [this]
theorem Qfv (v:Int) (n:Nd) (ha:n.args.length≤17592186044416) (hl:n.attrs.length≤17592186044416):Pu C 32 [.int .i64 v,.agg (ndC n)] (.int .i64 (Xz v n)):=Qwb Qmg v n ha hl
abbrev ROw (v:V) (H:Qa) (r:Sh):Prop:=RetO2 3 1 H v r.1.length (ints r.1) (.int .i64 r.2)
theorem Qck {H:Qa} (e:Int):∃ sel,Qa7 sel (fun v H=>ROw v H ([],e)) (.tup [.nil,.int .i64 e]) H:=Xh6 (fun _=>rfl)
theorem Qc9 {H:Qa} {u:V} {s:List Int} (e:Int) (hO:Bv.Own 3 1 H u s.length (ints s)):∃ sel,Qa7 sel (fun v H=>ROw v H (s,e)) (.tup [u,.int .i64 e]) H:=hO.two (fun g=>Qn g _) (fun _=>rfl)
theorem Fc.ow {f:FuncId} {args args':List V} {H:Qa} {K:V→Qa→Prop} {r:Sh} (h:Fc C f args' [] fun v H=>ROw v H r) (hb:BorL H args args') (hK:∀ w X,Bv.Own 3 1 (H++X) w r.1.length (ints r.1)→K (.tup [w,.int .i64 r.2]) (H++X)):Fc C f args H K :=
 Fc.own2 h hb (fun g=>Qn g _) (Yu _) (fun _=>rfl) rfl hK
theorem Pc.ow {H0:Qa} {f:FuncId} {args args':List V} {H:Qa} {K:V→Qa→Prop} {r:Sh} (h:Fc C f args' [] fun v H=>ROw v H r) (hb:BorL H args args') (hK:∀ w X,Bv.Own 3 1 (H++X) w r.1.length (ints r.1)→K (.tup [w,.int .i64 r.2]) (H++X)):Pc C H0 f args H K :=
 Pc.own2 h hb (by simp [Jj]) (fun g=>Qn g _) (Yu _) (fun _=>rfl) rfl hK
def Zz (r:Sh):Sh:=if r.2≠0 then ([],r.2) else if Xn r.1≠0 then ([],Xn r.1) else r
theorem Qw3 (e:Int) (he:e≠0):Zz ([],e)=([],e):=by simp [Zz,he]
theorem Qfj {u:V} {H0:Qa} {s:List Int} (hO:Bv.Own 3 1 H0 u s.length (ints s)) (h:s.length≤17592186044416):Fc C 224 [u] H0 (fun v H'=>H'=H0∧v=.tup [if Xn s≠0 then .nil else u,.int .i64 (Xn s)]):=by
 refine zL Qd Tryz.func224 w224 Tryz.ntmps224 Tryz.results224 ?_
 (refine zG ?_;(repeat' ((with_reducible apply zBr)<;>intro h<;>refine zG ?_))<;>try exact .intro)
 refine Fc.pureL (Qcz s h) ⟨hO.bor' (Qb _),trivial⟩ (fun _=>rfl) rfl ?_
 (refine zG ?_;(repeat' ((with_reducible apply zBr)<;>intro h<;>refine zG ?_))<;>try exact .intro)
 ·rw [if_pos (by assumption)]
 ·rw [if_neg (by simp [*])];simp [*]
theorem Qle {H:Qa} {u:V} {s:List Int} (hO:Bv.Own 3 1 H u s.length (ints s)):∃ sel,Qa7 sel (fun v H=>ROw v H (Zz (s,0))) (.tup [if Xn s≠0 then .nil else u,.int .i64 (Xn s)]) H:=by
 by_cases hm:Xn s≠0
 ·rw [if_pos hm,Zz,if_neg (by simp),if_pos hm];exact Qck _
 ·have:Xn s=0:=by omega
  rw [if_neg hm,Zz,if_neg (by simp),if_neg hm,this]
  exact Qc9 _ hO
theorem Qf2 (b:Bool) (u:V) (H0:Qa):Fc C 140 [.bool b,u] H0 (fun v H=>H=H0∧v=(if b=true then .tup [u,.int .i64 0] else .tup [.nil,.int .i64 13])):=by
 refine zL Qd Tryz.func140 w140 Tryz.ntmps140 Tryz.results140 ?_
 (refine zG ?_;(repeat' ((with_reducible apply zBr)<;>intro h<;>refine zG ?_))<;>try exact .intro)
 ·rw [if_pos (by assumption)]
 ·rw [if_neg (by simp [*])]
theorem Qz5 (d a b:Int) (ha:-2147483648≤a∧a≤2147483648) (hb:-2147483648≤b∧b≤2147483648):Pu C 149 [.int .i64 d,.int .i64 a,.int .i64 b] (.tup [.int .i64 (b - a),.bool (decide (b≤d))]):=by
 refine zK Qd Tryz.func149 w149 Tryz.ntmps149 Tryz.results149 ?_
 (refine zG ?_;(repeat' ((with_reducible apply zBr)<;>intro h<;>refine zG ?_))<;>try exact .intro)
 (refine Qh (by intro g;simp only [go_sem,ren,Qe]) ?_)
 simp
theorem Qz0 (d a b:Int) (hd:-2147483648≤d∧d≤2147483648) (ha:-2147483648≤a∧a≤2147483648) (hb:-2147483648≤b∧b≤2147483648):Pu C 150 [.int .i64 d,.int .i64 a,.int .i64 b] (.tup [.int .i64 (d+a+b),.bool true]):=by
 refine zK Qd Tryz.func150 w150 Tryz.ntmps150 Tryz.results150 ?_
 (refine zG ?_;(repeat' ((with_reducible apply zBr)<;>intro h<;>refine zG ?_))<;>try exact .intro)
 (refine Qh (by intro g;simp only [go_sem,ren,Qe]) ?_)
 simp
theorem Qer (x y:List Int) (hx:x.length≤17592186044416) (hy:y.length≤17592186044416):Fc C 142 [.sl x.length (ints x),.sl y.length (ints y)] [] (fun v H=>ROw v H (Zz (Kl x y))):=by
 refine zK Qd Tryz.func142 w142 Tryz.ntmps142 Tryz.results142 ?_
 (refine zG ?_;(repeat' ((with_reducible apply zBr)<;>intro h<;>refine zG ?_))<;>try exact .intro)
 ·rw [Kl,if_neg (by omega)];exact Qck _
 ·rw [Kl,if_neg (by omega)];exact Qck _
 ·rw [Kl,if_neg (by omega)];exact Qck _
 ·rw [Kl,if_pos (by omega)]
  refine Pc.gen (Qfj (s:=[x.getD 0 0,y.getD 1 0]) (.inr ⟨0,rfl,rfl,rfl⟩) (by simp)) ⟨_,_,rfl,rfl⟩ ?_
  rintro v H' ⟨rfl,rfl⟩;refine ⟨.refl _ _, ?_⟩
  (refine zG ?_;(repeat' ((with_reducible apply zBr)<;>intro h<;>refine zG ?_))<;>try exact .intro)
  exact Qle (s:=[x.getD 0 0,y.getD 1 0]) (.inr ⟨0,rfl,rfl,rfl⟩)
theorem Qoy (x p:List Int) (hx:x.length≤17592186044416) (hp:p.length≤17592186044416) (hr:p.length=x.length→∀ i,i<p.length→0≤p.getD i 0∧p.getD i 0<p.length):Fc C 144 [.sl x.length (ints x),.sl p.length (ints p)] [] (fun v H=>ROw v H (if p.length=x.length then (tab (fun i=>x.getD (p.getD i 0).toNat 0) p.length,0) else ([],13))):=by
 refine zK Qd Tryz.func144 w144 Tryz.ntmps144 Tryz.results144 ?_
 (refine zG ?_;(repeat' ((with_reducible apply zBr)<;>intro h<;>refine zG ?_))<;>try exact .intro)
 ·rw [if_neg (by omega)];exact Qck _
 ·have hr:=hr (by omega)
  rw [if_pos (by omega)]
  refine Qg (fun n ts H=>∃ i u,(i≤p.length)∧(n=p.length - i)∧(Bv.Own 3 1 H u (tab (fun i=>x.getD (p.getD i 0).toNat 0) i).length (ints (tab (fun i=>x.getD (p.getD i 0).toNat 0) i)))∧ts.length=28∧nth ts 0=.sl x.length (ints x)∧nth ts 4=u∧nth ts 5=.int .i64 0∧nth ts 13=.sl p.length (ints p)∧nth ts 14=.int .i64 p.length∧nth ts 15=.int .i64 i) ?_ (n:=p.length) ?_
  ·skip
   rintro n ts H ⟨i,u,hi,hn,hu,hL,hs0,hs4,hs5,hs13,hs14,hs15⟩;refine Qv [(0,.sl x.length (ints x)),(4,u),(5,.int .i64 0),(13,.sl p.length (ints p)),(14,.int .i64 p.length),(15,.int .i64 i)] hL (by simp only [zFm,hs0,hs4,hs5,hs13,hs14,hs15,true_and];exact zNm) ?_
   clear hL hs0 hs4 hs5 hs13 hs14 hs15 ts
   refine Qw Qd ?_;subst hn;by_cases hlt:i<p.length
   ·have hp:=hr i hlt
    (refine zG ?_;(repeat' ((with_reducible apply zBr)<;>intro h<;>refine zG ?_))<;>try exact .intro)
    refine Qdi hu rfl ⟨by decide,by decide⟩ (by rw [Yp];omega) fun v' H' hu' _=>?_
    (refine zG ?_;(repeat' ((with_reducible apply zBr)<;>intro h<;>refine zG ?_))<;>try exact .intro)
    exact ⟨_,by omega,i+1,v',by omega,rfl,by rw [Qqh];exact hu',(by (repeat' apply And.intro)<;>(first | rfl | omega | (congr 1;omega) | assumption | (congr 1;assumption)))⟩
   ·obtain rfl:i=p.length:=by omega
    (refine zG ?_;(repeat' ((with_reducible apply zBr)<;>intro h<;>refine zG ?_))<;>try exact .intro)
    exact Qc9 _ hu
  ·exact ⟨0,.nil,by omega,rfl,.nil _ _ _,rfl,rfl,rfl,rfl,rfl,rfl,rfl⟩
theorem Xos:Tryz.f267.body.all yOK=true:=by kernel_rfl
def Qoz (l:List Int):V:=.fn (.func 267) [] [.rp [.sl l.length (ints l)] 0]
def Qqe (l:List Int):List (List V):=(List.range (l.length/2)).map fun i=>[.int .i64 (l.getD (2*i) 0),.int .i64 (l.getD (2*i+1) 0)]
theorem Qc7 (l:List Int):(Qqe l).length=l.length/2:=by simp [Qqe]
theorem Qwf {l:List Int} {i:Nat} (h:i<l.length/2):(Qqe l)[i]?=some [.int .i64 (l.getD (2*i) 0),.int .i64 (l.getD (2*i+1) 0)]:=by simp [Qqe,h]
theorem Qru (l:List Int):Pu C 227 [.sl l.length (ints l)] (Qoz l):=by
 refine Fc.keep (Fc.sealR ?_);refine zL Qd Tryz.func227 w227 Tryz.ntmps227 Tryz.results227 ?_
 (refine zG ?_;(repeat' ((with_reducible apply zBr)<;>intro h<;>refine zG ?_))<;>try exact .intro)
 refine ⟨0,_,1,[.sl l.length (ints l)],rfl,by simp [Qf,clo,Qb],[],by simp,by simp, ?_⟩
 simp [sz,szL,ren,Qe,Qoz,Qbc,Qn]
theorem Quq (l:List Int) (hl:l.length≤17592186044416):Gen C 267 [.rp [.sl l.length (ints l)] 0] (Qqe l):=by
 refine Gen.of3 Qd Tryz.func267 w267 Xos rfl Tryz.ntmps267 Tryz.results267 (zLe rfl) (by simp [Qqe,Qf,clo]) ?_
 intro G k J hW
 (refine zG ?_;(repeat' ((with_reducible apply zBr)<;>intro h<;>refine zG ?_))<;>try exact .intro)
 refine Qa4 (fun n ts H=>∃ (i:Nat),(i≤l.length/2)∧(n=l.length/2 - i)∧(H.length=i)∧ts.length=23∧nth ts 0=.fn (.yield k) [] []∧nth ts 1=.rp [.sl l.length (ints l)] 0∧nth ts 3=.int .i64 (2*(i:Int))) ?_ (n:=l.length/2) ?_
 ·skip
  rintro n ts H ⟨i,hi,hn,hH,hL,hs0,hs1,hs3⟩;refine Qil [(0,.fn (.yield k) [] []),(1,.rp [.sl l.length (ints l)] 0),(3,.int .i64 (2*(i:Int)))] hL (by simp only [zFm,hs0,hs1,hs3,true_and];exact zNm) ?_
  clear hL hs0 hs1 hs3 ts
  refine hW _ _ _ _ ?_
  (refine zG ?_;(repeat' ((with_reducible apply zBr)<;>intro h<;>refine zG ?_))<;>try exact .intro)
  ·refine ⟨by rw [hH];exact Qwf (by omega),⟨l.length/2 - (i+1),by omega,i+1,by omega,rfl,by omega, ?_⟩,.inr trivial,.inr ?_⟩
   ·congr 1<;>omega
   ·simp only [List.length_replicate,Qc7];omega
  ·refine ⟨.inl trivial,.inl ?_⟩;rw [Qc7];omega
 ·exact ⟨0,by omega,by omega,rfl,rfl,rfl,rfl,rfl⟩
theorem Qb5 {e s e' s':Nat} {H:Qa} {v:V} {n q:Nat} {cs cs':List V} {z:Option Row} (h:Bv.Own e s H v n cs) (hq:Qc H q=some ⟨e',s',cs'⟩) (hne:e'≠e):Bv.Own e s (H.set q z) v n cs:=by
 rcases h with h | ⟨r,h,hr,hl⟩
 ·exact .inl h
 ·refine .inr ⟨r,h, ?_,hl⟩;rw [Qk]
  ·exact hr
  ·rintro rfl;rw [hq] at hr;injection hr with hr;injection hr with hr;exact hne hr
theorem Zi {e s e' s':Nat} {H H':Qa} {v:V} {n q:Nat} {cs cs':List V} (h:Bv.Own e s H v n cs) (hF:Fr v H H') (hq:Qc H q=some ⟨e',s',cs'⟩) (hne:e'≠e):Qc H' q=some ⟨e',s',cs'⟩:=hF q _ (by
 rintro off m rfl;rcases h with ⟨h,_⟩ | ⟨r,h,hr,_⟩
 ·cases h
 ·injection h with h _ _;subst h;rw [hq] at hr;injection hr with hr;injection hr with hr;exact hne hr) hq
theorem Qhe (g:Nat) (f:Nat→Int) (b:Nat→Bool) (x l:List Int) (hx:x.length≤1000000) (hl:l.length≤17592186044416) (hg:∀ i,i<x.length→Pu C g [.int .i64 (x.getD i 0),.int .i64 (l.getD (2*i) 0),.int .i64 (l.getD (2*i+1) 0)] (.tup [.int .i64 (f i),.bool (b i)])) :
  Fc C 148 [.sl x.length (ints x),.sl l.length (ints l),.fn (.func g) [] []] [] (fun v H=>ROw v H (if l.length=2*x.length∧(∀ i,i<x.length→b i=true) then Zz (tab f x.length,0) else ([],13))):=by
 have hv:Qoz l=.fn (.func 267) [] [.rp [.sl l.length (ints l)] 0]:=rfl
 refine zK Qd Tryz.func148 w148 Tryz.ntmps148 Tryz.results148 ?_
 (refine zG ?_;(repeat' ((with_reducible apply zBr)<;>intro h<;>refine zG ?_))<;>try exact .intro)
 ·rw [if_neg (by omega)];exact Qck _
 ·refine Fc.pure (Qru l) (by simp [Qf,clo,Qb]) (fun g=>Ya g _ (by simp [Qoz,Qf,clo,Qb])) ?_
  (apply Zo;repeat' ((with_reducible first|apply Zk|apply zBr<;>intro h)<;>try simp -implicitDefEqProofs (maxSteps:=9^7) (disch:=first|exact zDs|fail) only [go_sem,hv]))
  have hl2:l.length/2=x.length:=by omega
  refine Qeg (g:=267) (lb:=[.rp [.sl l.length (ints l)] 0]) (xs:=Qqe l) (by simp -implicitDefEqProofs (maxSteps:=9^7) (disch:=first | omega | (simp only [Qbe];omega)) only [go_sem]) (by simp [Qf,clo,Qb]) (Quq l hl) (by simp [Qqe]) (fun k H=>∃ v,Qc H 0=some ⟨37,1,[.sl x.length (ints x)]⟩∧Qc H 1=some ⟨173,1,[.fn (.func g) [] []]⟩∧Qc H 2=some ⟨37,1,[.nil]⟩∧Qc H 3=some ⟨73,1,[.int .i64 0]⟩∧Qc H 5=some ⟨37,1,[v]⟩∧Bv.Own 3 1 H v k (ints (tab f k))∧∀ i,i<k→b i=true) ⟨.ref 4 0 0,rfl,rfl,rfl,rfl,rfl,.inr ⟨4,rfl,rfl,rfl⟩,fun i hi=>by omega⟩ ?_ ?_
  ·intro k us H hk hI lp;obtain ⟨v,h0,h1,h2,h3,h5,hO,hb⟩:=hI
   have hkl:k<l.length/2:=by simpa [Qc7] using (List.getElem?_eq_some_iff.1 hk).1
   obtain rfl:=Option.some.inj ((Qwf hkl).symm.trans hk)
   have hgk:=hg k (by omega)
   (refine Qw Qd ?_;simp -implicitDefEqProofs (maxSteps:=9^7) (disch:=first | omega | (simp only [Qbe];omega)) only [go_sem,Qip])
   have hlv:=hO.lenw (C.ty 37)
   (refine Qw Qd ?_;simp -implicitDefEqProofs (maxSteps:=9^7) (disch:=first | omega | (simp only [Qbe];omega)) only [go_sem,h0,h1,h5,hlv])
   refine RunU.now ?_
   (apply Zo;repeat' ((with_reducible first|apply Zk|apply zBr<;>intro h)<;>try simp -implicitDefEqProofs (maxSteps:=9^7) (disch:=first|exact zDs|fail) only [go_sem,h0,h1,h5,hlv]))
   cases hbk:b k with
   | false =>
    rw [hbk] at hgk
    have e3:∀ z,Qc (H.set 2 z) 3=some ⟨73,1,[.int .i64 0]⟩:=fun z=>by rw [Qk _ (by decide)];exact h3
    have e2:∀ row z,Qc ((H.set 2 (some row)).set 3 z) 2=some row:=fun row z=>by rw [Qk _ (by decide)];exact Qj h2
    have e33:∀ row z,Qc ((H.set 2 z).set 3 (some row)) 3=some row:=fun row z=>Qj (e3 z)
    refine Pc.pure (hgk) (by simp [go_sem,Qf,clo,Qb,Qi]) (by intro g;simp only [go_sem,ren,Qe]) ?_
    (apply Zo;repeat' ((with_reducible first|apply Zk|apply zBr<;>intro h)<;>try simp -implicitDefEqProofs (maxSteps:=9^7) (disch:=first|exact zDs|fail) only [go_sem,Qcj,h2,e3,e2,e33]))
    rw [if_neg (fun hh=>by have:=hh.2 k (by omega);rw [hbk] at this;cases this)]
    exact Qck _
   | true =>
    rw [hbk] at hgk;refine Pc.pure (hgk) (by simp [go_sem,Qf,clo,Qb,Qi]) (by intro g;simp only [go_sem,ren,Qe]) ?_
    (apply Zo;repeat' ((with_reducible first|apply Zk|apply zBr<;>intro h)<;>try simp -implicitDefEqProofs (maxSteps:=9^7) (disch:=first|exact zDs|fail) only [go_sem,h5]))
    have hOt:Bv.Own 3 1 H v (tab f k).length (ints (tab f k)):=by rw [Yp];exact hO
    refine Qdi hOt rfl ⟨by decide,by decide⟩ (by rw [Yp];omega) fun v' H' hO' hF=>?_
    have k0:=Zi hO hF h0 (by decide)
    have k1:=Zi hO hF h1 (by decide)
    have k2:=Zi hO hF h2 (by decide)
    have k3:=Zi hO hF h3 (by decide)
    have k5:=Zi hO hF h5 (by decide)
    have hc:cellsOf v'=[v']∧Yc v'=true:=by rcases hO' with ⟨rfl,_⟩ | ⟨r,rfl,_⟩<;>exact ⟨rfl,rfl⟩
    (apply Zo;repeat' ((with_reducible first|apply Zk|apply zBr<;>intro h)<;>try simp -implicitDefEqProofs (maxSteps:=9^7) (disch:=first|exact zDs|fail) only [go_sem,k5,hc.1,hc.2,Qcj,List.all_cons,List.all_nil]))
    rw [← Qqh,Yp] at hO';refine ⟨v',by rw [Qk _ (by decide)];exact k0,by rw [Qk _ (by decide)];exact k1,by rw [Qk _ (by decide)];exact k2,by rw [Qk _ (by decide)];exact k3,Qj k5,Qb5 hO' k5 (by decide),fun i hi=>?_⟩
    rcases Nat.lt_or_ge i k with h' | h'
    ·exact hb i h'
    ·obtain rfl:i=k:=by omega
     exact hbk
  ·intro H hI;obtain ⟨v,h0,h1,h2,h3,h5,hO,hb⟩:=hI;rw [Qc7,hl2] at hO hb;rw [if_pos ⟨by omega,hb⟩]
   (apply Zo;repeat' ((with_reducible first|apply Zk|apply zBr<;>intro h)<;>try simp -implicitDefEqProofs (maxSteps:=9^7) (disch:=first|exact zDs|fail) only [go_sem,h5]))
   refine Fc.mono (Qfj (s:=tab f x.length) (by rw [Yp];exact hO) (by rw [Yp];omega)) ?_
   rintro v H' ⟨rfl,rfl⟩
   have hfin:=fun (H:Qa) (h:Bv.Own 3 1 H v (tab f x.length).length (ints (tab f x.length)))=>Qle (H:=H) h
   have hwc:cellsOf (if Xn (tab f x.length)≠0 then V.nil else v)=[if Xn (tab f x.length)≠0 then V.nil else v]∧Yc (if Xn (tab f x.length)≠0 then V.nil else v)=true:=by
    split
    ·exact ⟨rfl,rfl⟩
    ·rcases hO with ⟨rfl,_⟩ | ⟨r,rfl,_⟩<;>exact ⟨rfl,rfl⟩
   generalize (if Xn (tab f x.length)≠0 then V.nil else v)=w at hfin hwc ⊢
   have e3:∀ z,Qc (H'.set 2 z) 3=some ⟨73,1,[.int .i64 0]⟩:=fun z=>by rw [Qk _ (by decide)];exact h3
   have e2:∀ row z,Qc ((H'.set 2 (some row)).set 3 z) 2=some row:=fun row z=>by rw [Qk _ (by decide)];exact Qj h2
   have e33:∀ row z,Qc ((H'.set 2 z).set 3 (some row)) 3=some row:=fun row z=>Qj (e3 z)
   (apply Zo;repeat' ((with_reducible first|apply Zk|apply zBr<;>intro h)<;>try simp -implicitDefEqProofs (maxSteps:=9^7) (disch:=first|exact zDs|fail) only [go_sem,h2,e3,e2,e33,hwc.1,hwc.2,List.all_cons,List.all_nil]))
   exact hfin _ (Qb5 (Qb5 (by rw [Yp];exact hO) h2 (by decide)) (e3 _) (by decide))
theorem Qus (l:List (List Int)) (k:Nat):(Yx l).drop k=Yx (l.drop k):=by simp [Yx]
theorem Qu0 (l:List (List Int)) (k:Nat):(l.drop 1).getD k []=l.getD (k+1) []:=by simp [List.getD,Nat.add_comm]
theorem Qr6 {s x:List Int} {axis:Nat}:∀ i,Ze s [(axis:Int)] i=Ze x [(axis:Int)] i↔∀ j,j<i→j≠axis→s.getD j 0=x.getD j 0
 | 0=>by simp [Ze]
 | i+1=>by
  have ih:=Qr6 (s:=s) (x:=x) (axis:=axis) i
  by_cases h:i=axis
  ·subst h;simp only [Ze,List.contains_cons,BEq.rfl,Bool.true_or,if_true,List.append_nil];rw [ih];exact ⟨fun hh j hj hne=>hh j (by omega) hne,fun hh j hj hne=>hh j (by omega) hne⟩
  ·have hc:([(axis:Int)].contains (i:Int))=false:=by simp;omega
   simp only [Ze,hc,Bool.false_eq_true,if_false];constructor
   ·intro hh
    have h2:=List.append_inj' hh rfl
    refine fun j hj hne=>?_
    rcases Nat.lt_or_ge j i with h3 | h3
    ·exact ih.1 h2.1 j h3 hne
    ·obtain rfl:j=i:=by omega
     simpa using h2.2
   ·intro hh;rw [ih.2 fun j hj hne=>hh j (by omega) hne,hh i (by omega) h]
theorem Qrs (axis:Nat) (l:List (List Int)) (hax:axis≤17592186044416) (h1:1≤l.length) (hl:l.length≤1000000) (hx:∀ k,k<l.length→(l.getD k []).length≤1000000) (hd:∀ k,k<l.length→∀ i,0≤(l.getD k []).getD i 0∧(l.getD k []).getD i 0≤1024):Fc C 151 [.int .i64 axis,.sl l.length (Yx l)] [] (fun v H=>ROw v H (Zz (Qjq axis l))):=by
 have hx0:=hx 0 h1
 refine zK Qd Tryz.func151 w151 Tryz.ntmps151 Tryz.results151 ?_
 (refine zG ?_;(repeat' ((with_reducible apply zBr)<;>intro h<;>refine zG ?_))<;>try exact .intro)
 ·rw [Qjq,if_neg (by omega)];exact Qck _
 ·refine Fc.own (Qfu (l.getD 0 []) (by omega)) (by simp [Qf,clo,Qb]) (fun g=>Qn g _) fun v X hO=>?_
  rcases hO with ⟨_,h',_⟩ | ⟨r,rfl,hr,_⟩
  ·omega
  (refine zG ?_;(repeat' ((with_reducible apply zBr)<;>intro h<;>refine zG ?_))<;>try exact .intro)
  rw [Qus]
  have hlen:(l.drop 1).length=l.length - 1:=by simp
  rw [← hlen];refine Qg (fun n ts H=>∃ k,(k≤l.length - 1)∧(∀ j,j<k+1→1≤j→Qns axis l j)∧(n=l.length - 1 - k)∧(Qc H r=some ⟨3,1,ints ((l.getD 0 []).set axis (Qg2 axis l (k+1)))⟩)∧ts.length=58∧nth ts 0=.int .i64 axis∧nth ts 4=.nil∧nth ts 5=.int .i64 0∧nth ts 6=.sl (l.getD 0 []).length (ints (l.getD 0 []))∧nth ts 7=.ref r 0 (l.getD 0 []).length∧nth ts 20=.sl (l.drop 1).length (Yx (l.drop 1))∧nth ts 21=.int .i64 (l.drop 1).length∧nth ts 22=.int .i64 k) ?_ (n:=l.length - 1) ?_
  ·skip
   rintro n ts H ⟨k,hk,hok,hn,hH,hL,hs0,hs4,hs5,hs6,hs7,hs20,hs21,hs22⟩;refine Qv [(0,.int .i64 axis),(4,.nil),(5,.int .i64 0),(6,.sl (l.getD 0 []).length (ints (l.getD 0 []))),(7,.ref r 0 (l.getD 0 []).length),(20,.sl (l.drop 1).length (Yx (l.drop 1))),(21,.int .i64 (l.drop 1).length),(22,.int .i64 k)] hL (by simp only [zFm,hs0,hs4,hs5,hs6,hs7,hs20,hs21,hs22,true_and];exact zNm) ?_
   clear hL hs0 hs4 hs5 hs6 hs7 hs20 hs21 hs22 ts
   refine Qw Qd ?_;subst hn;by_cases hlt:k<(l.drop 1).length
   ·have hxk:=hx (k+1) (by omega)
    have bad:¬ Qns axis l (k+1)→Zz (Qjq axis l)=([],13):=fun hb=>by
     rw [Qjq,if_neg]
     ·rfl
     ·rintro ⟨_,h2⟩;exact hb ((Qlq _ _ _).1 h2 (k+1) (by omega) (by omega))
    (apply Zo;repeat' ((with_reducible first|apply Zk|apply zBr<;>intro h)<;>try simp -implicitDefEqProofs (maxSteps:=9^7) (disch:=first|exact zDs|fail) only [go_sem,Qu0]))
    ·rw [bad (fun hc=>by have:=hc.1;omega)];exact Qck _
    ·refine Fc.ownL (Qjc (l.getD (k+1) []) [(axis:Int)] (by omega) (by simp)) ⟨.self (by simp [clo,Qb]),(Qj9 (e:=3) (s:=1) (cs:=ints [(axis:Int)]) (n:=1) rfl).bor' (Qb [(axis:Int)]),trivial⟩ (fun g=>Qn g _) (Yu _) fun v1 X1 hO1=>?_
     have hH1:=Ql (Ql hH [some ⟨3,1,ints [(axis:Int)]⟩]) X1
     generalize hG:H++[some ⟨3,1,ints [(axis:Int)]⟩]++X1=H1 at hH1
     change Bv.Own _ _ (H++[some ⟨3,1,ints [(axis:Int)]⟩]++X1) _ _ _ at hO1
     rw [hG] at hO1
     have hG':H++[some ⟨3,1,[V.int .i64 axis]⟩]++X1=H1:=hG
     rw [hG']
     (refine zG ?_;(repeat' ((with_reducible apply zBr)<;>intro h<;>refine zG ?_))<;>try exact .intro)
     refine Fc.ownL (Qjc (l.getD 0 []) [(axis:Int)] (by omega) (by simp)) ⟨.self (by simp [clo,Qb]),(Qj9 (e:=3) (s:=1) (cs:=ints [(axis:Int)]) (n:=1) rfl).bor' (Qb [(axis:Int)]),trivial⟩ (fun g=>Qn g _) (Yu _) fun v2 X2 hO2=>?_
     have hH2:=Ql (Ql hH1 [some ⟨3,1,ints [(axis:Int)]⟩]) X2
     have hO1:=(hO1.keep [some ⟨3,1,ints [(axis:Int)]⟩]).keep X2
     generalize hG2:H1++[some ⟨3,1,ints [(axis:Int)]⟩]++X2=H2 at hH2 hO1
     change Bv.Own _ _ (H1++[some ⟨3,1,ints [(axis:Int)]⟩]++X2) _ _ _ at hO2
     rw [hG2] at hO2
     have hG2':H1++[some ⟨3,1,[V.int .i64 axis]⟩]++X2=H2:=hG2
     rw [hG2']
     (refine zG ?_;(repeat' ((with_reducible apply zBr)<;>intro h<;>refine zG ?_))<;>try exact .intro)
     refine Fc.pureL (Qjb (Ze (l.getD (k+1) []) [(axis:Int)] (l.getD (k+1) []).length) (Ze (l.getD 0 []) [(axis:Int)] (l.getD 0 []).length) (by have:=Qb7 (l.getD (k+1) []) [(axis:Int)] (l.getD (k+1) []).length;omega)) ⟨hO1.bor' (Qb _),hO2.bor' (Qb _),trivial⟩ (fun _=>rfl) rfl ?_
     have hb1:=Qxb (axis:=axis) hd (k+1) (by omega)
     have hb2:=hd (k+1) (by omega) axis
     have hiff:=Qr6 (s:=l.getD (k+1) []) (x:=l.getD 0 []) (axis:=axis) (l.getD 0 []).length
     have hll:(l.getD (k+1) []).length=(l.getD 0 []).length:=by omega
     rw [hll]
     (apply Zo;repeat' ((with_reducible first|apply Zk|apply zBr<;>intro h)<;>try simp -implicitDefEqProofs (maxSteps:=9^7) (disch:=first|exact zDs|fail) only [go_sem,hH2]))
     ·have hok1:Qns axis l (k+1):=⟨hll,hiff.1 (by assumption)⟩
      refine ⟨l.length - 1 - (k+1),by omega,k+1,by omega,fun j h1 h2=>?_,rfl, ?_,rfl⟩
      ·rcases Nat.lt_or_ge j (k+1) with h3 | h3
       ·exact hok j h3 h2
       ·obtain rfl:j=k+1:=by omega
        exact hok1
      ·rw [show Qg2 axis l (k+1+1)=Qg2 axis l (k+1)+(l.getD (k+1) []).getD axis 0 from rfl];exact Qj hH2
     ·rw [bad (fun hc=>absurd (hiff.2 hc.2) (by assumption))];exact Qck _
   ·obtain rfl:k=l.length - 1:=by omega
    (refine zG ?_;(repeat' ((with_reducible apply zBr)<;>intro h<;>refine zG ?_))<;>try exact .intro)
    have hcl:l.length - 1+1=l.length:=by omega
    rw [hcl] at hH
    have hO:Bv.Own 3 1 H (.ref r 0 (l.getD 0 []).length) ((l.getD 0 []).set axis (Qg2 axis l l.length)).length (ints ((l.getD 0 []).set axis (Qg2 axis l l.length))):=.inr ⟨r,by simp,hH,by simp [Jj]⟩
    refine Fc.mono (Qfj hO (by rw [List.length_set];omega)) ?_
    rintro v H' ⟨rfl,rfl⟩
    (refine zG ?_;(repeat' ((with_reducible apply zBr)<;>intro h<;>refine zG ?_))<;>try exact .intro)
    rw [Qjq,if_pos ⟨by omega,(Qlq _ _ _).2 fun j h1 h2=>hok j (by omega) h2⟩]
    exact Qle hO
  ·exact ⟨0,by omega,fun j h1 h2=>by omega,by omega,by simp only [Qg2,Int.zero_add];rw [Xby _ (by omega)];exact hr,rfl,rfl,rfl,rfl,rfl,rfl,rfl,rfl,rfl⟩
theorem Qh4 {s:List Int} (h:Xn s=0):Zz (s,0)=(s,0):=by simp [Zz,h]
theorem Qnh {s:List Int} (hl:s.length≤4) (h:∀ d∈s,1≤d):Xn s=0∨Xn s=14:=by
 unfold Xn;rw [if_neg (by omega),if_pos (by simpa using h)]
 split<;>simp
theorem Qcp {s:List Int} (h:∀ d∈s,1≤d) {i:Nat} (hi:i<s.length):1≤s.getD i 0:=h _ (Qf4 hi)
theorem Xeq {o:Int} {a:List Int} {l:List (List Int)} (ho:o=19) (h0:Xn (l.getD 0 [])=0) (h1:Xn (l.getD 1 [])=0):Zz (Zf o a l)=(if (Zz (Kl (l.getD 0 []) (l.getD 1 []))).2≠0 then ([],(Zz (Kl (l.getD 0 []) (l.getD 1 []))).2) else if Qea (l.getD 2 []) (Zz (Kl (l.getD 0 []) (l.getD 1 []))).1≠0 then ([],13) else Zz (Kl (l.getD 0 []) (l.getD 1 []))):=by
 have hm:(Kl (l.getD 0 []) (l.getD 1 [])).2=0→Xn (Kl (l.getD 0 []) (l.getD 1 [])).1=0∨Xn (Kl (l.getD 0 []) (l.getD 1 [])).1=14:=by
  unfold Kl;split
  ·rename_i hc;intro _;refine Qnh (by simp) fun d hd=>?_
   have g0:=Qcp (Yk h0).2.1 (i:=0) (by omega)
   have g1:=Qcp (Yk h1).2.1 (i:=1) (by omega)
   simp only [List.mem_cons,List.not_mem_nil,or_false] at hd;rcases hd with rfl | rfl<;>assumption
  ·intro h;simp at h
 have hst:(Kl (l.getD 0 []) (l.getD 1 [])).2=0→Kl (l.getD 0 []) (l.getD 1 [])=((Kl (l.getD 0 []) (l.getD 1 [])).1,0):=fun h=>Prod.ext rfl h
 rw [Zf,if_neg (by omega),if_neg (by omega),if_pos (by omega)]
 generalize Kl (l.getD 0 []) (l.getD 1 [])=m at hm hst ⊢;by_cases h2:m.2=0
 ·rcases hm h2 with h3 | h3
  ·rw [hst h2,Qh4 h3];simp only [ne_eq,not_true_eq_false,if_false,h3];split
   ·rfl
   ·exact Qh4 h3
  ·simp only [Zz,h2,h3,ne_eq,not_true_eq_false,if_false];simp
 ·simp only [Zz,h2,ne_eq,not_false_eq_true,if_true]
theorem Qnn (xs axes:List Int):∀ i,i≤xs.length→∀ d∈Ze xs axes i,d∈xs
 | 0,_=>by simp [Ze]
 | i+1,h=>by
  intro d hd;simp only [Ze,List.mem_append] at hd;rcases hd with hd | hd
  ·exact Qnn xs axes i (by omega) d hd
  ·split at hd
   ·simp at hd
   ·simp only [List.mem_cons,List.not_mem_nil,or_false] at hd;subst hd;exact Qf4 (by omega)
theorem Qlo {xs:List Int} (axes:List Int) (hp:∀ d∈xs,1≤d):∀ i,i≤xs.length→1≤Xg (Ze xs axes i)∧Xg (Ze xs axes i)≤Xg (xs.take i)
 | 0,_=>by simp [Ze,Xg]
 | i+1,h=>by
  obtain ⟨h1,h2⟩:=Qlo axes hp i (by omega)
  have g:=Qcp hp (i:=i) (by omega)
  rw [Kd (by omega)]
  simp only [Ze];split
  ·rw [List.append_nil];refine ⟨h1, ?_⟩
   have:=Int.mul_le_mul_of_nonneg_left g (show 0≤Xg (xs.take i) by omega)
   omega
  ·rw [Qkv];refine ⟨?_,Int.mul_le_mul_of_nonneg_right h2 (by omega)⟩
   have:=Int.mul_le_mul_of_nonneg_left g (show 0≤Xg (Ze xs axes i) by omega)
   omega
theorem Qno {xs:List Int} (axes:List Int) (h:Xn xs=0):Xn (Ze xs axes xs.length)=0:=by
 obtain ⟨h1,h2,h3⟩:=Yk h
 have hl:=Qb7 xs axes xs.length
 have hm:∀ d∈Ze xs axes xs.length,1≤d:=fun d hd=>h2 d (Qnn xs axes _ (Nat.le_refl _) d hd)
 have hp:=(Qlo axes h2 xs.length (Nat.le_refl _)).2
 rw [List.take_length] at hp;unfold Xn;rw [if_neg (by omega),if_pos (by simpa using hm),if_neg (by omega)]
theorem Qwr {a:List Int} (hr:∀ i,i<a.length→Qci a i):∀ d i,i+d<a.length→a.getD i 0≤a.getD (i+d) 0
 | 0,_,_=>Int.le_refl _
 | d+1,i,h=>by
  have h1:=Qwr hr d i (by omega)
  have h2:=(hr (i+d+1) (by omega)).2.2 (by omega)
  rw [show i+d+1 - 1=i+d by omega] at h2
  rw [show i+(d+1)=i+d+1 by omega];omega
theorem Xe1 {o:Int} {a:List Int} {l:List (List Int)} (ho:o=14∨o=20) (h0:Xn (l.getD 0 [])=0) (hr:∀ i,i<a.length→Qci a i):Zz (Zf o a l)=(if axP a (l.getD 0 []).length=0 then (Ze (l.getD 0 []) a (l.getD 0 []).length,0) else ([],13)):=by
 rw [Zf,if_neg (by omega),if_neg (by omega),if_neg (by omega),if_neg (by omega),if_neg (by omega),if_neg (by omega),if_pos (by omega)]
 by_cases hx:a.length>0∧a.getD (a.length - 1) 0≥(l.getD 0 []).length
 ·rw [if_pos hx,if_neg,Qw3 _ (by decide)]
  intro hax
  have hb:axB a (l.getD 0 []).length=true:=by
   unfold axP at hax;split at hax
   ·assumption
   ·cases hax
  have:=(Qih _ _).1 hb (a.length - 1) (by omega)
  unfold Xar at this;omega
 ·rw [if_neg hx,if_pos,Qh4 (Qno a h0)];rw [axP,if_pos];refine (Qih _ _).2 fun i hi=>?_
  have h1:=hr i hi
  have h2:=Qwr hr (a.length - 1 - i) i (by omega)
  rw [show i+(a.length - 1 - i)=a.length - 1 by omega] at h2
  unfold Qci at h1;unfold Xar
  have h3:a.getD (a.length - 1) 0<(l.getD 0 []).length:=by
   by_cases h:a.getD (a.length - 1) 0<(l.getD 0 []).length
   ·exact h
   ·exact absurd ⟨by omega,by omega⟩ hx
  refine ⟨?_,by omega⟩
  split<;>omega
theorem Qts {l m:List Int} (h:l.Perm m):Xg l=Xg m:=by
 induction h with
 | nil=>rfl
 | cons a _ ih=>simp only [Xg,ih]
 | swap a b l=>simp only [Xg];rw [← Int.mul_assoc,← Int.mul_assoc,Int.mul_comm a b]
 | trans _ _ h1 h2=>exact h1.trans h2
theorem Qmt {x a:List Int} (hl:a.length=x.length) (hp:Ji a=true):(tab (fun i=>x.getD (a.getD i 0).toNat 0) a.length).Perm x:=by
 have h1:=List.mergeSort_perm a (fun p q=>decide (p≤q))
 have h2:=List.pairwise_mergeSort (le:=fun p q:Int=>decide (p≤q)) (by intro p q r;simp;omega) (by intro p q;simp;omega) a
 generalize a.mergeSort (fun p q=>decide (p≤q))=ys at h1 h2
 have hy:=(Qhf h1 (fun p q hpq hq=>by
  rw [List.pairwise_iff_getElem] at h2
  have:=h2 p q (by omega) hq hpq
  simpa [List.getD,hq,show p<ys.length by omega] using this)).1 hp
 have hyl:=h1.length_eq
 have e1:tab (fun i=>x.getD (a.getD i 0).toNat 0) a.length=a.map fun d=>x.getD d.toNat 0:=by
  refine Qia (by simp [Yp]) fun j hj=>?_
  rw [Yp] at hj;rw [Xbq _ hj];simp [List.getD,hj]
 have e2:(ys.map fun d=>x.getD d.toNat 0)=x:=by
  refine Qia (by simp;omega) fun j hj=>?_
  have hj':j<ys.length:=by simpa using hj
  have:=hy j hj'
  simp only [List.getD,List.getElem?_eq_getElem hj',Option.getD_some] at this;simp [List.getD,hj',this]
 rw [e1];exact ((h1.map _).symm).trans (by rw [e2])
theorem Xbg {o:Int} {a:List Int} {l:List (List Int)} (ho:o=11) (h0:Xn (l.getD 0 [])=0) (hp:Ji a=true):Zz (Zf o a l)=(if a.length=(l.getD 0 []).length then (tab (fun i=>(l.getD 0 []).getD (a.getD i 0).toNat 0) a.length,0) else ([],13)):=by
 rw [Zf,if_neg (by omega),if_neg (by omega),if_neg (by omega),if_pos ho]
 by_cases hl:a.length=(l.getD 0 []).length
 ·rw [if_pos hl,Qh4];obtain ⟨h1,h2,h3⟩:=Yk h0
  have hpm:=Qmt hl hp
  have hm:∀ d∈tab (fun i=>(l.getD 0 []).getD (a.getD i 0).toNat 0) a.length,1≤d:=fun d hd=>h2 d (hpm.mem_iff.1 hd)
  unfold Xn;rw [if_neg (by rw [Yp];omega),if_pos (by simpa using hm),if_neg (by rw [Qts hpm];omega)]
 ·rw [if_neg hl,Qw3 _ (by decide)]
theorem Qka {s:List Int} (h:Xn s=0):Zz (s,0)=(s,0):=by simp [Zz,h]
theorem Qzv (x y:List Int):(Zz (Kl x y)).1.length≤2:=by unfold Zz Kl;grind
theorem Xjl {a:List Int} (h:Att a) (i:Nat):-2147483648≤a.getD i 0∧a.getD i 0≤2147483648:=by
 by_cases hi:i<a.length
 ·have:=h i hi;omega
 ·rw [show a.getD i 0=0 by simp [List.getD,List.getElem?_eq_none (Nat.le_of_not_lt hi)]];omega
theorem Qj7 {H:Qa} {u:V} {s:List Int} (b:Bool) (e:Sh) (he:e=if b=true then (s,0) else ([],13)) (hO:Bv.Own 3 1 H u s.length (ints s)):∀ v H',H'=H∧v=(if b=true then V.tup [u,.int .i64 0] else .tup [.nil,.int .i64 13])→∃ w z,v=.tup [w,.int .i64 z]∧Bv.Own 3 1 H w e.1.length (ints e.1)∧z=e.2:=by
 rintro v H' ⟨rfl,rfl⟩;cases b with
 | true=>exact ⟨u,0,rfl,by rw [he];exact hO,by rw [he];rfl⟩
 | false=>exact ⟨.nil,13,rfl,by rw [he];exact .nil _ _ _,by rw [he];rfl⟩
theorem Qux (o:Int) (a:List Int) (l:List (List Int)) (h:ComeOK o a l) (ha:a.length≤1000000) (hm:∀ k,k<l.length→Xn (l.getD k [])=0) (hperm:o=11→Ji a=true) (hrise:(o=14∨o=20)→∀ i,i<a.length→Qci a i):Fc C 60 [.int .i64 o,.sl a.length (ints a),.sl l.length (Yx l)] [] (fun v H=>ROw v H (Zz (Zf o a l))):=by
 obtain ⟨c1,c2,c3,c4,c5,c6,c7,c8,c9,c10⟩:=h
 have r0:=c5 0 c1
 have mat:∀ k,k<l.length→(l.getD k []).length≤17592186044416:=fun k hk=>by have:=c5 k hk;omega
 have clo0:∀ s:List Int,Bv.clo (.sl s.length (ints s))=true:=fun s=>by simp [clo,Qb]
 refine zK Qd Tryz.func60 w60 Tryz.ntmps60 Tryz.results60 ?_
 (refine zG ?_;(repeat' ((with_reducible apply zBr)<;>intro h<;>refine zG ?_))<;>try exact .intro)
 refine Fc.own (Qfu (l.getD 0 []) (by omega)) (by simp [Qf,clo,Qb]) (fun g=>Qn g _) fun ux X1 hx=>?_
 generalize ([]++X1:Qa)=G1 at hx ⊢
 (refine zG ?_;(repeat' ((with_reducible apply zBr)<;>intro h<;>refine zG ?_))<;>try exact .intro)
 refine Fc.own (Qjx a (by omega)) (by simp [Qf,clo,Qb]) (fun g=>Qn g _) fun ut X2 ht=>?_
 have hx:=hx.keep X2
 generalize (G1++X2:Qa)=G at hx ht ⊢
 have bx:=hx.bor' (Qb _)
 have bt:=ht.bor' (Qb _)
 have hlx:=hx.lenw (C.ty 37)
 (refine zG ?_;(repeat' ((with_reducible apply zBr)<;>intro h<;>refine zG ?_))<;>try exact .intro)
 iterate 4
  ·refine Fc.pureL (Qjb (l.getD 0 []) (l.getD 1 []) (mat 0 c1)) ⟨bx,.self (clo0 _),trivial⟩ (fun _=>rfl) rfl ?_
   (refine zG ?_;(repeat' ((with_reducible apply zBr)<;>intro h<;>refine zG ?_))<;>try exact .intro)
   have hc:Zz (Zf o a l)=(if decide (l.getD 0 []=l.getD 1 [])=true then (l.getD 0 [],0) else ([],13)):=by
    rw [Zf,if_pos (by omega)]
    by_cases he:l.getD 0 []=l.getD 1 []
    ·rw [if_pos he,if_pos (by simpa using he),Qka (hm 0 c1)]
    ·rw [if_neg he,if_neg (by simpa using he)];rfl
   refine Fc.mono (Qf2 _ ux G) fun v H' hv=>?_
   obtain ⟨w,z,rfl,hO,rfl⟩:=Qj7 _ _ hc hx v H' hv;obtain ⟨rfl,_⟩:=hv
   (refine zG ?_;(repeat' ((with_reducible apply zBr)<;>intro h<;>refine zG ?_))<;>try exact .intro)
   exact Qc9 _ hO
 ·have l2:=c3 (by omega)
  have l3:=c4 (by omega)
  refine Fc.ow (Qer (l.getD 0 []) (l.getD 1 []) (mat 0 c1) (mat 1 l2)) ⟨bx,.self (clo0 _),trivial⟩ fun um X3 hom=>?_
  have bx:=(hx.keep X3).bor' (Qb _)
  have bm:=hom.bor' (Qb _)
  have hc:=Xeq (o:=o) (a:=a) (l:=l) (by assumption) (hm 0 c1) (hm 1 l2)
  have hml:(Zz (Kl (l.getD 0 []) (l.getD 1 []))).1.length≤2:=Qzv _ _
  have hst:(Zz (Kl (l.getD 0 []) (l.getD 1 []))).2=0→Zz (Kl (l.getD 0 []) (l.getD 1 []))=((Zz (Kl (l.getD 0 []) (l.getD 1 []))).1,0):=fun h=>Prod.ext rfl h
  have hsp:=Qer (l.getD 0 []) (l.getD 1 []) (mat 0 c1) (mat 1 l2)
  generalize (G++X3:Qa)=G3 at bx bm hom ⊢;generalize hM:Zz (Kl (l.getD 0 []) (l.getD 1 []))=m at hc hml hst hom bm hsp ⊢
  (refine zG ?_;(repeat' ((with_reducible apply zBr)<;>intro h<;>refine zG ?_))<;>try exact .intro)
  ·refine Fc.pureL (Qn7 (l.getD 2 []) m.1 (mat 2 l3) (by omega)) ⟨.self (clo0 _),bm,trivial⟩ (fun _=>rfl) rfl ?_
   (refine zG ?_;(repeat' ((with_reducible apply zBr)<;>intro h<;>refine zG ?_))<;>try exact .intro)
   ·rw [hc,if_neg (by omega),if_pos (by assumption)];exact Qck _
   ·refine Fc.ow hsp ⟨bx,.self (clo0 _),trivial⟩ fun u4 X4 ho4=>?_
    (refine zG ?_;(repeat' ((with_reducible apply zBr)<;>intro h<;>refine zG ?_))<;>try exact .intro)
    rw [hc,if_neg (by omega),if_neg (by omega)]
    exact Qc9 _ ho4
  ·rw [hc,if_pos (by assumption)];exact Qck _
 ·have l2:=c3 (by omega)
  refine Fc.ow (Qer (l.getD 0 []) (l.getD 1 []) (mat 0 c1) (mat 1 l2)) ⟨bx,.self (clo0 _),trivial⟩ fun um X3 hom=>?_
  (refine zG ?_;(repeat' ((with_reducible apply zBr)<;>intro h<;>refine zG ?_))<;>try exact .intro)
  rw [Zf,if_neg (by omega),if_pos (by omega)]
  exact Qc9 _ hom
 ·have hc:=Xbg (o:=o) (a:=a) (l:=l) (by assumption) (hm 0 c1) (hperm (by assumption))
  refine Fc.ow (Qoy (l.getD 0 []) a (mat 0 c1) (by omega) (fun _=>c9 (by assumption))) ⟨bx,.self (clo0 _),trivial⟩ fun um X3 hom=>?_
  rw [← hc] at hom ⊢
  (refine zG ?_;(repeat' ((with_reducible apply zBr)<;>intro h<;>refine zG ?_))<;>try exact .intro)
  exact Qc9 _ hom
 ·refine Fc.pureL (Qg9 (l.getD 0 []) (mat 0 c1)) ⟨bx,trivial⟩ (fun _=>rfl) rfl ?_
  (refine zG ?_;(repeat' ((with_reducible apply zBr)<;>intro h<;>refine zG ?_))<;>try exact .intro)
  refine Fc.pureL (Qg9 a (by omega)) ⟨bt,trivial⟩ (fun _=>rfl) rfl ?_
  (refine zG ?_;(repeat' ((with_reducible apply zBr)<;>intro h<;>refine zG ?_))<;>try exact .intro)
  have hc:Zz (Zf o a l)=(if (Jp (l.getD 0 [])==Jp a)=true then (a,0) else ([],13)):=by
   rw [Zf,if_neg (by omega),if_neg (by omega),if_neg (by omega),if_neg (by omega),if_pos (by omega)]
   by_cases he:Jp a=Jp (l.getD 0 [])
   ·have hma:Xn a=0:=by
     have h1:Jp (l.getD 0 [])=Xg (l.getD 0 []):=by rw [Jp,if_pos (hm 0 c1)]
     have h2:=Qar (Yk (hm 0 c1)).2.1
     by_cases hx:Xn a=0
     ·exact hx
     ·have:Jp a=0:=by rw [Jp,if_neg hx]
      omega
    rw [if_pos he,if_pos (by rw [beq_iff_eq];omega),Qka hma]
   ·rw [if_neg he,if_neg (by rw [beq_iff_eq];omega)];rfl
  refine Fc.mono (Qf2 _ ut G) fun v H' hv=>?_
  obtain ⟨w,z,rfl,hO,rfl⟩:=Qj7 _ _ hc ht v H' hv;obtain ⟨rfl,_⟩:=hv
  (refine zG ?_;(repeat' ((with_reducible apply zBr)<;>intro h<;>refine zG ?_))<;>try exact .intro)
  exact Qc9 _ hO
 ·refine Fc.pureL (Qn7 (l.getD 0 []) a (mat 0 c1) (by omega)) ⟨bx,bt,trivial⟩ (fun _=>rfl) rfl ?_
  (refine zG ?_;(repeat' ((with_reducible apply zBr)<;>intro h<;>refine zG ?_))<;>try exact .intro)
  have hc:Zz (Zf o a l)=(if (Qea (l.getD 0 []) a==0)=true then (a,0) else ([],13)):=by
   rw [Zf,if_neg (by omega),if_neg (by omega),if_neg (by omega),if_neg (by omega),if_neg (by omega),if_pos (by omega)]
   by_cases he:Qea (l.getD 0 []) a=0
   ·have hma:Xn a=0:=by
     unfold Qea at he;rw [if_pos (hm 0 c1)] at he;split at he
     ·assumption
     ·assumption
    rw [if_pos he,if_pos (by rw [beq_iff_eq];omega),Qka hma]
   ·rw [if_neg he,if_neg (by rw [beq_iff_eq];omega)];rfl
  refine Fc.mono (Qf2 _ ut G) fun v H' hv=>?_
  obtain ⟨w,z,rfl,hO,rfl⟩:=Qj7 _ _ hc ht v H' hv;obtain ⟨rfl,_⟩:=hv
  (refine zG ?_;(repeat' ((with_reducible apply zBr)<;>intro h<;>refine zG ?_))<;>try exact .intro)
  exact Qc9 _ hO
 iterate 2
  ·have hc:=Xe1 (o:=o) (a:=a) (l:=l) (by omega) (hm 0 c1) (hrise (by omega))
   (apply Zo;repeat' ((with_reducible first|apply Zk|apply zBr<;>intro h)<;>try simp -implicitDefEqProofs (maxSteps:=9^7) (disch:=first|exact zDs|fail) only [go_sem,hlx]))
   refine Fc.pure (Qn8 a _ (by omega)) (by simp [go_sem,Qf,clo,Qb,Qi]) (by intro g;simp only [go_sem,ren,Qe]) ?_
   (refine zG ?_;(repeat' ((with_reducible apply zBr)<;>intro h<;>refine zG ?_))<;>try exact .intro)
   refine Fc.ownL (Qjc (l.getD 0 []) a (mat 0 c1) (by omega)) ⟨bx,.self (clo0 _),trivial⟩ (fun g=>Qn g _) (Yu _) fun ud X3 hod=>?_
   generalize (G++X3:Qa)=G3 at hod ⊢
   (refine zG ?_;(repeat' ((with_reducible apply zBr)<;>intro h<;>refine zG ?_))<;>try exact .intro)
   have hc:Zz (Zf o a l)=(if (axP a (l.getD 0 []).length==0)=true then (Ze (l.getD 0 []) a (l.getD 0 []).length,0) else ([],13)):=by
    rw [hc];by_cases he:axP a (l.getD 0 []).length=0
    ·rw [if_pos he,if_pos (by rw [beq_iff_eq];exact he)]
    ·rw [if_neg he,if_neg (by rw [beq_iff_eq];exact he)]
   refine Fc.mono (Qf2 _ ud G3) fun v H' hv=>?_
   obtain ⟨w,z,rfl,hO,rfl⟩:=Qj7 _ _ hc hod v H' hv;obtain ⟨rfl,_⟩:=hv
   (refine zG ?_;(repeat' ((with_reducible apply zBr)<;>intro h<;>refine zG ?_))<;>try exact .intro)
   exact Qc9 _ hO
 ·have hc:Zz (Zf o a l)=(if a.length=2*(l.getD 0 []).length∧(∀ i,i<(l.getD 0 []).length→decide (a.getD (2*i+1) 0≤(l.getD 0 []).getD i 0)=true) then Zz (tab (Xg7 a) (l.getD 0 []).length,0) else ([],13)):=by
   rw [Zf,if_neg (by omega),if_neg (by omega),if_neg (by omega),if_neg (by omega),if_neg (by omega),if_neg (by omega),if_neg (by omega),if_pos (by omega),Xkw]
   simp only [Xj0,List.all_eq_true,List.mem_range];split<;>rfl
  refine Fc.ow (Qhe 149 (Xg7 a) (fun i=>decide (a.getD (2*i+1) 0≤(l.getD 0 []).getD i 0)) (l.getD 0 []) a (by omega) (by omega) (fun i hi=>Qz5 _ _ _ (Xjl c8 _) (Xjl c8 _))) ⟨bx,.self (clo0 _),.self rfl,trivial⟩ fun um X3 hom=>?_
  rw [← hc] at hom ⊢
  (refine zG ?_;(repeat' ((with_reducible apply zBr)<;>intro h<;>refine zG ?_))<;>try exact .intro)
  exact Qc9 _ hom
 ·have hc:Zz (Zf o a l)=(if a.length=2*(l.getD 0 []).length∧(∀ i,i<(l.getD 0 []).length→(fun _=>true) i=true) then Zz (tab (fun i=>(l.getD 0 []).getD i 0+a.getD (2*i) 0+a.getD (2*i+1) 0) (l.getD 0 []).length,0) else ([],13)):=by
   rw [Zf,if_neg (by omega),if_neg (by omega),if_neg (by omega),if_neg (by omega),if_neg (by omega),if_neg (by omega),if_neg (by omega),if_neg (by omega),if_pos (by omega),Xlv]
   have:Xhn (l.getD 0 []) a=fun i=>(l.getD 0 []).getD i 0+a.getD (2*i) 0+a.getD (2*i+1) 0:=by funext i;simp only [Xhn];omega
   rw [this];simp only [implies_true,and_true];split<;>rfl
  refine Fc.ow (Qhe 150 (fun i=>(l.getD 0 []).getD i 0+a.getD (2*i) 0+a.getD (2*i+1) 0) (fun _=>true) (l.getD 0 []) a (by omega) (by omega) (fun i hi=>Qz0 _ _ _ (by have:=c6 0 c1 i;omega) (Xjl c8 _) (Xjl c8 _))) ⟨bx,.self (clo0 _),.self rfl,trivial⟩ fun um X3 hom=>?_
  rw [← hc] at hom ⊢
  (refine zG ?_;(repeat' ((with_reducible apply zBr)<;>intro h<;>refine zG ?_))<;>try exact .intro)
  exact Qc9 _ hom
 ·have hax:=c10 (by omega)
  have hx:a.getD 0 0=((a.getD 0 0).toNat:Int):=by omega
  have hc:Zz (Zf o a l)=Zz (Qjq (a.getD 0 0).toNat l):=by
   rw [Zf,if_neg (by omega),if_neg (by omega),if_neg (by omega),if_neg (by omega),if_neg (by omega),if_neg (by omega),if_neg (by omega),if_neg (by omega),if_neg (by omega),if_pos (by omega)]
  have hj:=Qrs (a.getD 0 0).toNat l (by omega) c1 (by omega) (fun k hk=>by have:=c5 k hk;omega) c6
  rw [← hx] at hj
  (refine zG ?_;(repeat' ((with_reducible apply zBr)<;>intro h<;>refine zG ?_))<;>try exact .intro)
  refine Fc.ow hj ⟨.self rfl,.self (by simp [clo,Qi]),trivial⟩ fun um X3 hom=>?_
  rw [← hc] at hom ⊢
  (refine zG ?_;(repeat' ((with_reducible apply zBr)<;>intro h<;>refine zG ?_))<;>try exact .intro)
  exact Qc9 _ hom
 ·have hc:Zf o a l=(l.getD 0 [],0):=by
   rw [Zf,if_neg (by omega),if_neg (by omega),if_neg (by omega),if_neg (by omega),if_neg (by omega),if_neg (by omega),if_neg (by omega),if_neg (by omega),if_neg (by omega),if_neg (by omega)]
  rw [hc,Qka (hm 0 c1)];exact Qc9 _ hx
structure Rv (xs ys:List Int) (i:Nat):Prop where
 len:ys.length=xs.length
 at_:∀ k,k<xs.length→ys.getD k 0=if k<i∨xs.length - 1 - k<i then xs.getD (xs.length - 1 - k) 0 else xs.getD k 0
theorem Rv.zero (xs:List Int):Rv xs xs 0:=⟨rfl,fun k hk=>by rw [if_neg (by omega)]⟩
theorem Rv.step {xs ys:List Int} {i:Nat} (h:Rv xs ys i) (hi:2*i+1<xs.length):Rv xs ((ys.set i (ys.getD (xs.length - 1 - i) 0)).set (xs.length - 1 - i) (ys.getD i 0)) (i+1):=by
 have hl:=h.len
 refine ⟨by simp [hl],fun k hk=>?_⟩
 have a1:=h.at_ i (by omega)
 have a2:=h.at_ (xs.length - 1 - i) (by omega)
 have a3:=h.at_ k hk
 rw [if_neg (by omega)] at a1 a2
 by_cases e1:k=xs.length - 1 - i
 ·subst e1;rw [Go.Bv.getD_set_eq _ (by simp;omega),a1,if_pos (by omega)]
  congr 1;omega
 ·rw [Go.Bv.getD_set_ne _ e1];by_cases e2:k=i
  ·subst e2;rw [Go.Bv.getD_set_eq _ (by omega),a2,if_pos (by omega)]
  ·rw [Go.Bv.getD_set_ne _ e2,a3];by_cases e3:k<i∨xs.length - 1 - k<i
   ·rw [if_pos e3,if_pos (by omega)]
   ·rw [if_neg e3,if_neg (by omega)]
theorem Rv.done {xs ys:List Int} {i:Nat} (h:Rv xs ys i) (hi:¬ 2*i+1<xs.length):ys=xs.reverse:=by
 refine Qia (by rw [h.len];simp) fun k hk=>?_
 rw [h.len] at hk;rw [h.at_ k hk]
 have e:xs.reverse.getD k 0=xs.getD (xs.length - 1 - k) 0:=by simp [List.getD,List.getElem?_reverse hk]
 rw [e];split
 ·rfl
 ·congr 1;omega
theorem Qp5 (r:Nat) (H0:Qa) (xs:List Int) (hr:Qc H0 r=some ⟨3,1,ints xs⟩) (hn:xs.length≤1000000):Fc C 47 [.ref r 0 xs.length] H0 (fun v H'=>v=.tup []∧H'=H0.set r (some ⟨3,1,ints xs.reverse⟩)):=by
 have hset:∀ row,Qc (H0.set r (some row)) r=some row:=fun row=>Qj hr
 have hsame:=Qqr hr
 refine zL Qd Tryz.func47 w47 Tryz.ntmps47 Tryz.results47 ?_
 (refine zG ?_;(repeat' ((with_reducible apply zBr)<;>intro h<;>refine zG ?_))<;>try exact .intro)
 refine Qg (fun n ts H=>∃ (i:Nat) (ys:List Int),(2*i≤xs.length+1)∧(Rv xs ys i)∧(n=xs.length - i)∧(H=H0.set r (some ⟨3,1,ints ys⟩))∧ts.length=28∧nth ts 0=.ref r 0 xs.length∧nth ts 2=.int .i64 i∧nth ts 3=.int .i64 ((xs.length:Int) - 1 - i)) ?_ (n:=xs.length) ?_
 ·skip
  rintro n ts H ⟨i,ys,hi,hR,hn,hH,hL,hs0,hs2,hs3⟩;refine Qv [(0,.ref r 0 xs.length),(2,.int .i64 i),(3,.int .i64 ((xs.length:Int) - 1 - i))] hL (by simp only [zFm,hs0,hs2,hs3,true_and];exact zNm) ?_
  clear hL hs0 hs2 hs3 ts
  refine Qw Qd ?_;subst hn hH
  have hlz:=hR.len
  by_cases hlt:2*i+1<xs.length
  ·have hj:((xs.length:Int) - 1 - i).toNat=xs.length - 1 - i:=by omega
   (apply Zo;repeat' ((with_reducible first|apply Zk|apply zBr<;>intro h)<;>try simp -implicitDefEqProofs (maxSteps:=9^7) (disch:=first|exact zDs|fail) only [go_sem,hset,hj]))
   exact ⟨xs.length - (i+1),by omega,i+1,_,by omega,hR.step hlt,rfl,rfl,rfl,by congr 1;omega⟩
  ·skip
   (apply Zo;repeat' ((with_reducible first|apply Zk|apply zBr<;>intro h)<;>try simp -implicitDefEqProofs (maxSteps:=9^7) (disch:=first|exact zDs|fail) only [go_sem,hset]))
   rw [hR.done hlt]
 ·exact ⟨0,xs,by omega,.zero xs,rfl,hsame.symm,rfl,rfl,rfl,by simp -implicitDefEqProofs (maxSteps:=9^7) (disch:=first | omega | (simp only [Qbe];omega)) only [go_sem];congr 1;omega⟩
theorem Qs2:Pu C 47 [.nil] (.tup []):=by
 refine zK Qd Tryz.func47 w47 Tryz.ntmps47 Tryz.results47 ?_
 (refine zG ?_;(repeat' ((with_reducible apply zBr)<;>intro h<;>refine zG ?_))<;>try exact .intro)
 refine Qf9 ?_;refine Qw Qd ?_
 (refine zG ?_;(repeat' ((with_reducible apply zBr)<;>intro h<;>refine zG ?_))<;>try exact .intro)
 (refine Qh (by intro g;simp only [go_sem,ren,Qe]) ?_)
 rfl
theorem Qgn (v:Int) (d:Nd) (r:Nat) (hr:r≤1000000) (ha:d.args.length≤17592186044416) (hl:d.attrs.length≤1000000):Fc C 20 [.int .i64 v,.agg (ndC d),.sl 1 (ints [(r:Int)])] [] (fun v' H=>Ret 3 1 H v' (Ks v d r).length (ints (Ks v d r))):=by
 have hs:=Qe8 d.op
 refine zK Qd Tryz.func20 w20 Tryz.ntmps20 Tryz.results20 ?_
 (refine zG ?_;(repeat' ((with_reducible apply zBr)<;>intro h<;>refine zG ?_))<;>try exact .intro)
 refine Fc.own (Qjx d.attrs (by omega)) (by simp [Qf,clo,Qb]) (fun g=>Qn g _) fun u X hO=>?_
 (refine zG ?_;(repeat' ((with_reducible apply zBr)<;>intro h<;>refine zG ?_))<;>try exact .intro)
 refine Fc.pure (Qra d.op) rfl (fun g=>Ya g _ (by simp only [ofV,clo,Qf,Qfr,Bool.and_self])) ?_
 rw [ofV]
 (apply Zo;repeat' ((with_reducible first|apply Zk|apply zBr<;>intro h)<;>try simp -implicitDefEqProofs (maxSteps:=9^7) (disch:=first|exact zDs|fail) only [go_sem,Jm,hs]))
 refine Fc.pure (Qfv v d ha (by omega)) (by simp [go_sem,Qf,clo,Qb,Qi]) (by intro g;simp only [go_sem,ren,Qe]) ?_
 have h0:Qc (some ⟨25,3,[.int .i64 d.op,.sl d.args.length (ints d.args),.sl d.attrs.length (ints d.attrs)]⟩::(X++[some ⟨97,8,Qby (Yy d.op)⟩])) 0=some ⟨25,3,[.int .i64 d.op,.sl d.args.length (ints d.args),.sl d.attrs.length (ints d.attrs)]⟩:=rfl
 have h1:Qc (some ⟨25,3,[.int .i64 d.op,.sl d.args.length (ints d.args),.sl d.attrs.length (ints d.attrs)]⟩::(X++[some ⟨97,8,Qby (Yy d.op)⟩])) (X.length+1)=some ⟨97,8,Qby (Yy d.op)⟩:=by simp [Qc]
 have hO:Bv.Own 3 1 (some ⟨25,3,[.int .i64 d.op,.sl d.args.length (ints d.args),.sl d.attrs.length (ints d.attrs)]⟩::(X++[some ⟨97,8,Qby (Yy d.op)⟩])) u d.attrs.length (ints d.attrs):=hO.keep _
 simp only [Jm] at h0 h1 hO;generalize (some ⟨25,3,[.int .i64 d.op,.sl d.args.length (ints d.args),.sl d.attrs.length (ints d.attrs)]⟩::(X++[some _]):Qa)=G at h0 h1 hO ⊢
 have hnone:Xz v d=0→(Qb1 v d.op=true↔v≤(Yy d.op).none):=fun h=>by
  obtain ⟨g1,g2,_⟩:=Kf h;exact ((Qhi d.op (Qo4 g2)).1 v g1.1 g1.2).2
 have hlu:=hO.lenw (C.ty 23)
 (apply Zo;repeat' ((with_reducible first|apply Zk|apply zBr<;>intro h)<;>try simp -implicitDefEqProofs (maxSteps:=9^7) (disch:=first|exact zDs|fail) only [go_sem,Jm,hs,hlu,h0,h1]))
 ·rw [Ks,if_pos (.inl (by assumption))];exact hO.ret (fun g=>Qn g _) fun v H h=>h
 ·rw [Ks,if_pos (.inr (.inl (by omega)))];exact hO.ret (fun g=>Qn g _) fun v H h=>h
 ·have hnn:=hnone (by assumption)
  have:Qb1 v d.op=false:=by
   cases hb:Qb1 v d.op with
   | false=>rfl
   | true=>have:=hnn.1 hb;omega
  rw [Ks,if_pos (.inr (.inr this))];exact hO.ret (fun g=>Qn g _) fun v H h=>h
 all_goals
  have hnn:=(hnone (by assumption)).2 (by omega)
  have hal:d.attrs=[]:=List.eq_nil_of_length_eq_zero (by omega)
  have main:Ks v d r=if d.op=6 then [2] else if d.op=17 then [0] else if d.op=11 then down (if r>4 then 0 else r) else up (if r>4 then 0 else r):=by
   rw [Ks,if_neg (by rw [hnn,hal];simp [*])]
  rw [hal] at hO;rw [main]
 iterate 2
  ·refine Qdi (xs:=[]) hO rfl ⟨by decide,by decide⟩ (by simp) fun v' H' hO' hF=>?_
   have k0:=Zi hO hF h0 (by decide)
   (apply Zo;repeat' ((with_reducible first|apply Zk|apply zBr<;>intro h)<;>try simp -implicitDefEqProofs (maxSteps:=9^7) (disch:=first|exact zDs|fail) only [go_sem,k0]))
   rw [if_pos (by assumption)]
   exact hO'.ret (fun g=>Qn g _) fun v H h=>h
  ·refine Qdi (xs:=[]) hO rfl ⟨by decide,by decide⟩ (by simp) fun v' H' hO' hF=>?_
   have k0:=Zi hO hF h0 (by decide)
   (apply Zo;repeat' ((with_reducible first|apply Zk|apply zBr<;>intro h)<;>try simp -implicitDefEqProofs (maxSteps:=9^7) (disch:=first|exact zDs|fail) only [go_sem,k0]))
   rw [if_neg (by assumption),if_pos (by assumption)]
   exact hO'.ret (fun g=>Qn g _) fun v H h=>h
  ·rw [if_neg (by assumption),if_neg (by assumption)]
   obtain ⟨R,hR,hRe⟩:∃ R:Nat,R≤4∧(if r>4 then 0 else r)=R:=⟨_,by split<;>omega,rfl⟩
   rw [hRe]
   have hgr:[(r:Int)].getD 0 0=r:=rfl
   refine Qg (fun n ts H=>∃ (j:Nat) (u:V),(j≤R)∧(n=R - j)∧(Qc H 0=some ⟨25,3,[.int .i64 d.op,.sl d.args.length (ints d.args),.sl d.attrs.length (ints d.attrs)]⟩)∧(Bv.Own 3 1 H u (up j).length (ints (up j)))∧ts.length=82∧nth ts 4=.ptr 0 0∧nth ts 6=.nil∧nth ts 7=u∧nth ts 57=.int .i64 R∧nth ts 58=.int .i64 j) ?_ (n:=R) ?_
   ·skip
    rintro n ts H ⟨j,u,hj,hn,hg,hu,hL,hs4,hs6,hs7,hs57,hs58⟩;refine Qv [(4,.ptr 0 0),(6,.nil),(7,u),(57,.int .i64 R),(58,.int .i64 j)] hL (by simp only [zFm,hs4,hs6,hs7,hs57,hs58,true_and];exact zNm) ?_
    clear hL hs4 hs6 hs7 hs57 hs58 ts
    refine Qw Qd ?_;subst hn;by_cases hlt:j<R
    ·skip
     (apply Zo;repeat' ((with_reducible first|apply Zk|apply zBr<;>intro h)<;>try simp -implicitDefEqProofs (maxSteps:=9^7) (disch:=first|exact zDs|fail) only [go_sem,hg]))
     refine Qdi hu rfl ⟨by decide,by decide⟩ (by rw [Qal];omega) fun v' H' hO' hF=>?_
     have k0:=Zi hu hF hg (by decide)
     (apply Zo;repeat' ((with_reducible first|apply Zk|apply zBr<;>intro h)<;>try simp -implicitDefEqProofs (maxSteps:=9^7) (disch:=first|exact zDs|fail) only [go_sem,k0]))
     exact ⟨R - (j+1),by omega,j+1,v',by omega,rfl,by rw [Xgv];exact hO',(by (repeat' apply And.intro)<;>(first | rfl | omega | (congr 1;omega) | assumption | (congr 1;assumption)))⟩
    ·have hjR:j=R:=by omega
     (apply Zo;repeat' ((with_reducible first|apply Zk|apply zBr<;>intro h)<;>try simp -implicitDefEqProofs (maxSteps:=9^7) (disch:=first|exact zDs|fail) only [go_sem,hg]))
     all_goals subst hjR
     ·rw [if_pos (by assumption)]
      rcases hu with ⟨rfl,h2,h3⟩ | ⟨q,rfl,hq,_⟩
      ·obtain rfl:j=0:=by rw [Qal] at h2;exact h2
       refine Fc.pure (Qs2) (by simp [go_sem,Qf,clo,Qb,Qi]) (by intro g;simp only [go_sem,ren,Qe]) ?_
       (refine zG ?_;(repeat' ((with_reducible apply zBr)<;>intro h<;>refine zG ?_))<;>try exact .intro)
       exact (Go.Bv.Own.nil _ _ _).ret (fun g=>rfl) fun v H h=>h
      ·refine Fc.mono (Qp5 q _ (up j) hq (by rw [Qal];omega)) ?_
       rintro v' H' ⟨rfl,rfl⟩
       (refine zG ?_;(repeat' ((with_reducible apply zBr)<;>intro h<;>refine zG ?_))<;>try exact .intro)
       have hOd:Bv.Own 3 1 (H.set q (some ⟨3,1,ints (up j).reverse⟩)) (.ref q 0 (up j).length) (down j).length (ints (down j)):=.inr ⟨q,by rw [Zu,Qal],Qj hq,by simp [Jj]⟩
       exact hOd.ret (fun g=>Qn g _) fun v H h=>h
     ·rw [if_neg (by assumption)]
      exact hu.ret (fun g=>Qn g _) fun v H h=>h
   ·exact ⟨0,u,by omega,rfl,h0,hO,rfl,rfl,rfl,rfl,by simp -implicitDefEqProofs (maxSteps:=9^7) (disch:=first | omega | (simp only [Qbe];omega)) only [go_sem];congr 1;grind,rfl⟩
 ·refine Qdi (xs:=[]) hO rfl ⟨by decide,by decide⟩ (by simp) fun v' H' hO' hF=>?_
  have k0:=Zi hO hF h0 (by decide)
  (apply Zo;repeat' ((with_reducible first|apply Zk|apply zBr<;>intro h)<;>try simp -implicitDefEqProofs (maxSteps:=9^7) (disch:=first|exact zDs|fail) only [go_sem,k0]))
  rw [if_pos (by assumption)]
  exact hO'.ret (fun g=>Qn g _) fun v H h=>h
 ·refine Qdi (xs:=[]) hO rfl ⟨by decide,by decide⟩ (by simp) fun v' H' hO' hF=>?_
  have k0:=Zi hO hF h0 (by decide)
  (apply Zo;repeat' ((with_reducible first|apply Zk|apply zBr<;>intro h)<;>try simp -implicitDefEqProofs (maxSteps:=9^7) (disch:=first|exact zDs|fail) only [go_sem,k0]))
  rw [if_neg (by assumption),if_pos (by assumption)]
  exact hO'.ret (fun g=>Qn g _) fun v H h=>h
 ·exfalso;have:[(r:Int)].getD 0 0=r:=rfl;omega
theorem Qtw (R:Nat):Ji (down R)=true:=by
 refine (Qbd _).2 fun i hi=>?_
 rw [Zu] at hi;refine ⟨by rw [Qbk hi];omega,by rw [Qbk hi,Zu];omega,fun k hk=>?_⟩
 rw [Qbk hi,Qbk (by omega)];omega
theorem Xch {R:Nat} (h:R≤4):Qgc (up R)=true:=by
 refine (Qdy _).2 fun i hi=>?_
 rw [Qal] at hi;refine ⟨by rw [Qfw hi];omega,by rw [Qfw hi];omega,fun h0=>?_⟩
 rw [Qfw hi,Qfw (by omega)];omega
theorem Qw6 {l:List Int} (h:∀ i,i<l.length→-2147483647≤l.getD i 0∧l.getD i 0≤2147483647):Qfo l=false:=by
 simp only [Qfo,List.any_eq_false,decide_eq_true_eq];intro x hx;obtain ⟨i,hi,rfl⟩:=List.mem_iff_getElem.1 hx
 have:=h i hi
 rw [show l.getD i 0=l[i] by simp [List.getD,hi]] at this
 omega
theorem Xdd {v o:Int} (h:Qb1 v o=true):o=6∨o=11∨o=17∨o=14∨o=20:=by
 simp only [Qb1,decide_eq_true_eq] at h;omega
theorem Qpb {v:Int} {d:Nd} (r:Nat) (hc:Xz v d=0):Yq d.op (Ks v d r)=true:=by
 obtain ⟨hv,hin,h1,h2,h3⟩:=Kf hc;by_cases hex:Xz v d≠0∨d.attrs.length>0∨Qb1 v d.op=false
 ·rw [Ks,if_pos hex];rcases h3 with ⟨h3,h4⟩ | h3
  ·rcases hex with hex | hex | hex
   ·exact (hex hc).elim
   ·omega
   ·rw [h4] at hex;cases hex
  ·exact h3
 ·rw [Ks,if_neg hex]
  have hn:Qb1 v d.op=true:=by
   cases hb:Qb1 v d.op with
   | true=>rfl
   | false=>exact (hex (.inr (.inr hb))).elim
  generalize hR:(if r>4 then 0 else r)=R
  have hR4:R≤4:=by split at hR<;>omega
  have ho:=Xdd hn
  have hd:=Qtw R
  have hu:=Xch hR4
  have fd:Qfo (down R)=false:=Qw6 fun i hi=>by rw [Zu] at hi;rw [Qbk hi];omega
  have fu:Qfo (up R)=false:=Qw6 fun i hi=>by rw [Qal] at hi;rw [Qfw hi];omega
  by_cases e6:d.op=6
  ·rw [if_pos e6,e6];decide
  rw [if_neg e6];by_cases e17:d.op=17
  ·rw [if_pos e17,e17];decide
  rw [if_neg e17];by_cases e11:d.op=11
  ·rw [if_pos e11,e11,Yq,fd];rw [show Xu 11 (down R)=(Ji (down R)&&decide ((down R).length≤4)) from rfl,hd,Zu];simp [hR4]
  rw [if_neg e11,Yq,fu]
  have:Xu d.op (up R)=Qgc (up R):=by
   have e:d.op=14∨d.op=20:=by omega
   rcases e with e | e<;>rw [e]<;>rfl
  rw [this,hu];rfl
theorem Qws {l:List Int} (h:∀ i,i<l.length→Qci l i):∀ i,i<l.length→(i:Int)≤l.getD i 0
 | 0,hi=>(h 0 hi).1
 | i+1,hi=>by
  have h1:=Qws h i (by omega)
  have h2:=(h (i+1) hi).2.2 (by omega)
  rw [show i+1 - 1=i by omega] at h2
  omega
theorem Xcg {l:List Int} (h:∀ i,i<l.length→Qci l i):l.length≤4:=by
 rcases Nat.lt_or_ge 4 l.length with h1 | h1
 ·have h2:=Qws h 4 h1
  have h3:=(h 4 h1).2.1
  omega
 ·exact h1
theorem Ql0 {a:List Int} (h:Yq 11 a=true):Ji a=true∧a.length≤4:=by
 simp only [Yq,Bool.and_eq_true] at h
 have:=h.2
 rw [show Xu 11 a=(Ji a&&decide (a.length≤4)) from rfl] at this;simpa using this
theorem Qlz {o:Int} {a:List Int} (h:Yq o a=true) (ho:o=14∨o=20):∀ i,i<a.length→Qci a i:=by
 simp only [Yq,Bool.and_eq_true] at h
 have:=h.2
 rcases ho with rfl | rfl<;>exact (Qdy _).1 this
theorem Qg5 {o:Int} {a:List Int} (h:Yq o a=true) (ho:o=15∨o=16):a.length≤8∧∀ i,i<a.length/2→Qfb (decide (o=15)) a i:=by
 simp only [Yq,Bool.and_eq_true] at h
 have:=h.2
 rcases ho with rfl | rfl
 ·exact ((Qd1 true a).1 this).2
 ·exact ((Qd1 false a).1 this).2
theorem Qi8 {o:Int} {a:List Int} (h:Yq o a=true):a.length≤8:=by
 by_cases h1:o=14∨o=20
 ·have:=Xcg (Qlz h h1);omega
 by_cases h2:o=15∨o=16
 ·exact (Qg5 h h2).1
 by_cases h3:o=12∨o=13
 ·simp only [Yq,Bool.and_eq_true] at h
  have h4:Xn a=0:=by
   have:=h.2
   rcases h3 with rfl | rfl<;>exact of_decide_eq_true this
  have:=(Yk h4).1;omega
 simp only [Yq,Xu,Bool.and_eq_true] at h
 have h4:=h.2
 split at h4
 ·have:=of_decide_eq_true h4;omega
 split at h4
 ·have:=of_decide_eq_true h4;omega
 split at h4
 ·simp only [Bool.and_eq_true,decide_eq_true_eq] at h4;omega
 split at h4
 ·have:=of_decide_eq_true h4;omega
 ·have:=of_decide_eq_true h4;omega
theorem Qwj {f:Nat→Int} {k:Nat} (h:∀ i,i<k→1≤f i):∀ d∈tab f k,1≤d:=by
 intro d hd;simp only [tab,List.mem_map,List.mem_range] at hd;obtain ⟨i,hi,rfl⟩:=hd;exact h i hi
theorem Qsb {axis:Nat} {l:List (List Int)} (hd:∀ k,k<l.length→1≤(l.getD k []).getD axis 0):∀ k,k≤l.length→(k:Int)≤Qg2 axis l k
 | 0,_=>by simp [Qg2]
 | k+1,h=>by
  have h1:=Qsb hd k (by omega)
  have h2:=hd k (by omega)
  simp only [Qg2];omega
theorem Xje {o:Int} {a:List Int} {l:List (List Int)} (h:ComeOK o a l) (ha:Yq o a=true) (hm:∀ k,k<l.length→Xn (l.getD k [])=0):(Zf o a l).2=0→Xn (Zf o a l).1=0∨Xn (Zf o a l).1=14:=by
 have m0:=hm 0 h.one
 obtain ⟨q1,q2,q3⟩:=Yk m0
 have hmat:o=10∨o=19→(Kl (l.getD 0 []) (l.getD 1 [])).2=0→Xn (Kl (l.getD 0 []) (l.getD 1 [])).1=0∨Xn (Kl (l.getD 0 []) (l.getD 1 [])).1=14:=by
  intro ho
  have h1:=hm 1 (h.two (by omega))
  unfold Kl;split
  ·rename_i hc;intro _;refine Qnh (by simp) fun d hd=>?_
   have g0:=Qcp q2 (i:=0) (by omega)
   have g1:=Qcp (Yk h1).2.1 (i:=1) (by omega)
   simp only [List.mem_cons,List.not_mem_nil,or_false] at hd;rcases hd with rfl | rfl<;>assumption
  ·intro h;simp at h
 unfold Zf;split
 ·split
  ·exact fun _=>.inl m0
  ·intro h;simp at h
 split
 ·exact hmat (by omega)
 split
 ·split
  ·intro h;exact absurd h (by assumption)
  ·split
   ·intro h;simp at h
   ·split
    ·intro h;simp at h
    ·exact fun _=>hmat (by omega) (by omega)
 split
 ·split
  ·rename_i h11 hl;intro _
   have hp:=(Ql0 (h11 ▸ ha)).1
   have hpm:=Qmt hl hp
   exact Qnh (by rw [Yp];omega) fun d hd=>q2 d (hpm.mem_iff.1 hd)
  ·intro h;simp at h
 split
 ·split
  ·rename_i he;intro _
   have h1:Jp (l.getD 0 [])=Xg (l.getD 0 []):=by rw [Jp,if_pos m0]
   have h2:=Qar q2
   by_cases hx:Xn a=0
   ·exact .inl hx
   ·have:Jp a=0:=by rw [Jp,if_neg hx]
    omega
  ·intro h;simp at h
 split
 ·split
  ·rename_i he;intro _;unfold Qea at he;rw [if_pos m0] at he;split at he
   ·exact .inl (by assumption)
   ·exact .inl he
  ·intro h;simp at h
 split
 ·split
  ·intro h;simp at h
  ·exact fun _=>.inl (Qno a m0)
 split
 ·unfold Xkw;split
  ·rename_i ho hl;intro _;refine Qnh (by rw [Yp];omega) (Qwj fun i hi=>?_)
   have:=(Qg5 ha (.inl ho)).2 i (by omega)
   have:=this.2.2 (by simpa using ho)
   unfold Xg7;omega
  ·intro h;simp at h
 split
 ·unfold Xlv;split
  ·rename_i ho hl;intro _;refine Qnh (by rw [Yp];omega) (Qwj fun i hi=>?_)
   have g0:=Qcp q2 hi
   have:=(Qg5 ha (.inr ho)).2 i (by omega)
   have h1:=this.1
   have h2:=this.2.1
   unfold Xhn;omega
  ·intro h;simp at h
 split
 ·unfold Qjq;split
  ·rename_i ho hl;intro _;refine Qnh (by rw [List.length_set];omega) fun d hd=>?_
   rcases List.mem_or_eq_of_mem_set hd with hd | rfl
   ·exact q2 d hd
   ·have:=Qsb (axis:=(a.getD 0 0).toNat) (l:=l) (fun k hk=>by
     obtain ⟨_,g2,_⟩:=Yk (hm k hk);refine Qcp g2 ?_;rcases Nat.eq_zero_or_pos k with rfl | hk0
     ·exact hl.1
     ·have:=((Qlq _ _ _).1 hl.2 k hk hk0).1
      omega) l.length (Nat.le_refl _)
    have:=h.one
    omega
  ·intro h;simp at h
 exact fun _=>.inl m0
theorem Qya {v:Int} {d:Nd} {l:List (List Int)} (hat:d.attrs.length≤17592186044416) (hc:Xz v d=0) (hl:l.length=d.args.length) (hm:∀ j,j<l.length→Xn (l.getD j [])=0):Zz (Zf d.op (Ks v d (l.getD 0 []).length) l)=Kt v d l:=by
 have hok:=Qnt (l.getD 0 []).length hat hc hl hm
 have h14:=Xje hok (Qpb _ hc) hm
 rw [Kt,if_neg (by omega),if_neg (by omega),if_neg (by rw [Xdj hm];simp)]
 generalize Zf d.op (Ks v d (l.getD 0 []).length) l=c at h14 ⊢;obtain ⟨s,e⟩:=c;simp only [Zz] at h14 ⊢;by_cases he:e=0
 ·subst he;rcases h14 rfl with h | h
  ·simp [h]
  ·simp [h]
 ·simp [he]
theorem Qv5 (v:Int) (d:Nd) (l:List (List Int)) (ha:d.args.length≤17592186044416) (hat:d.attrs.length≤17592186044416) (hl:l.length≤1000000) (hk:∀ k,k<l.length→(l.getD k []).length≤17592186044416):Fc C 33 [.int .i64 v,.agg (ndC d),.sl l.length (Yx l)] [] (fun u H=>ROw u H (Kt v d l)):=by
 refine zK Qd Tryz.func33 w33 Tryz.ntmps33 Tryz.results33 ?_
 (refine zG ?_;(repeat' ((with_reducible apply zBr)<;>intro h<;>refine zG ?_))<;>try exact .intro)
 refine Fc.pure (Qfv v d ha hat) (by simp [go_sem,Qf,clo,Qb,Qi]) (by intro g;simp only [go_sem,ren,Qe]) ?_
 (refine zG ?_;(repeat' ((with_reducible apply zBr)<;>intro h<;>refine zG ?_))<;>try exact .intro)
 ·rw [Kt,if_pos (by assumption)];exact Qck _
 ·rw [Kt,if_neg (by omega),if_pos (by omega)];exact Qck _
 ·skip
  refine Qg (fun n ts H=>∃ i,(i≤l.length)∧(∀ j,j<i→Xn (l.getD j [])=0)∧(n=l.length - i)∧(H=[some ⟨25,3,ndC d⟩])∧ts.length=50∧nth ts 0=.int .i64 v∧nth ts 2=.sl l.length (Yx l)∧nth ts 4=.ptr 0 0∧nth ts 24=.sl l.length (Yx l)∧nth ts 25=.int .i64 l.length∧nth ts 26=.int .i64 i) ?_ (n:=l.length) ?_
  ·skip
   rintro n ts H ⟨i,hi,hm,hn,hH,hL,hs0,hs2,hs4,hs24,hs25,hs26⟩;refine Qv [(0,.int .i64 v),(2,.sl l.length (Yx l)),(4,.ptr 0 0),(24,.sl l.length (Yx l)),(25,.int .i64 l.length),(26,.int .i64 i)] hL (by simp only [zFm,hs0,hs2,hs4,hs24,hs25,hs26,true_and];exact zNm) ?_
   clear hL hs0 hs2 hs4 hs24 hs25 hs26 ts
   refine Qw Qd ?_;subst hn hH;by_cases hlt:i<l.length
   ·have hki:=hk i hlt
    (refine zG ?_;(repeat' ((with_reducible apply zBr)<;>intro h<;>refine zG ?_))<;>try exact .intro)
    refine Fc.pure (Qcz _ hki) (by simp [go_sem,Qf,clo,Qb,Qi]) (by intro g;simp only [go_sem,ren,Qe]) ?_
    (refine zG ?_;(repeat' ((with_reducible apply zBr)<;>intro h<;>refine zG ?_))<;>try exact .intro)
    ·rw [Kt,if_neg (by omega),if_neg (by omega),if_pos (by rw [Qw1 hm hlt (by assumption)];assumption),Qw1 hm hlt (by assumption)]
     exact Qck _
    ·exact ⟨_,by omega,i+1,by omega,Qc3 hm (by assumption),rfl,(by (repeat' apply And.intro)<;>(first | rfl | omega | (congr 1;omega) | assumption | (congr 1;assumption)))⟩
   ·obtain rfl:i=l.length:=by omega
    have hc:Xz v d=0:=by assumption
    have hll:l.length=d.args.length:=by omega
    have hok:=Qnt (l.getD 0 []).length hat hc hll hm
    have hat2:=Qpb (l.getD 0 []).length hc
    have hlen:=Qi8 hat2
    have h1:=hok.one
    have hr:=hok.rank 0 h1
    have hs:=Qya hat hc hll hm
    have hdl:d.attrs.length≤1000000:=by
     obtain ⟨_,_,_,_,h3⟩:=Kf hc;rcases h3 with ⟨h3,_⟩ | h3
     ·omega
     ·have:=Qi8 h3;omega
    (refine zG ?_;(repeat' ((with_reducible apply zBr)<;>intro h<;>refine zG ?_))<;>try exact .intro)
    refine Pc.ownL (Qgn v d (l.getD 0 []).length (by omega) ha hdl) ⟨.self rfl,.self (by simp [clo,Qf,Qb]),(Qj9 (H:=[some ⟨25,3,ndC d⟩]) (e:=3) (s:=1) (cs:=ints [((l.getD 0 []).length:Int)]) (n:=1) rfl).bor' (Qb [((l.getD 0 []).length:Int)]),trivial⟩ (by simp [Jj]) (fun g=>Qn g _) (Yu _) fun ua X hO=>?_
    (refine zG ?_;(repeat' ((with_reducible apply zBr)<;>intro h<;>refine zG ?_))<;>try exact .intro)
    refine Pc.ow (Qux _ _ _ hok (by omega) hm (fun h=>(Ql0 (h ▸ hat2)).1) (fun h=>Qlz hat2 h)) ⟨.self rfl,hO.bor' (Qb _),.self (by simp [clo,Qi]),trivial⟩ fun w X2 hw=>?_
    rw [hs] at hw ⊢
    (refine zG ?_;(repeat' ((with_reducible apply zBr)<;>intro h<;>refine zG ?_))<;>try exact .intro)
    exact Qc9 _ hw
  ·exact ⟨0,by omega,fun j hj=>by omega,rfl,rfl,rfl,rfl,rfl,rfl,rfl,rfl,rfl⟩
end Go.Proofs.YtepjcbnpbcmfcaaGreat
end
section
namespace Go.Bv
def lv (b:Nat):List Nat→Nat
 | []=>0
 | x::l=>x+b*lv b l
theorem Qd5 (b:Nat):∀ l m:List Nat,lv b (l++m)=lv b l+b ^ l.length*lv b m
 | [],m=>by simp [lv]
 | x::l,m=>by
  simp only [List.cons_append,lv,Qd5 b l m,List.length_cons,Nat.pow_succ,Nat.mul_add];rw [Nat.add_assoc,← Nat.mul_assoc,Nat.mul_comm (b ^ l.length) b]
theorem Jz (b:Nat) (l:List Nat) (x:Nat):lv b (l++[x])=lv b l+b ^ l.length*x:=by rw [Qd5];simp [lv]
theorem Qgg {b:Nat}:∀ {l:List Nat},(∀ x∈l,x<b)→lv b l<b ^ l.length
 | [],_=>by simp [lv]
 | x::l,h=>by
  have h1:=Qgg (l:=l) fun y hy=>h y (by simp [hy])
  have h2:=h x (by simp)
  simp only [lv,List.length_cons,Nat.pow_succ]
  have h3:b*(lv b l+1)≤b*b ^ l.length:=Nat.mul_le_mul_left b h1
  rw [Nat.mul_comm (b ^ l.length) b];rw [Nat.mul_add,Nat.mul_one] at h3;omega
theorem Qbu {b:Nat} (hb:0<b):∀ {l:List Nat},lv b l=0↔∀ x∈l,x=0
 | []=>by simp [lv]
 | x::l=>by
  simp only [lv,List.mem_cons,forall_eq_or_imp,← Qbu hb (l:=l)];constructor
  ·intro h
   have h1:x=0:=by omega
   have h2:b*lv b l=0:=by omega
   rcases Nat.mul_eq_zero.1 h2 with h3 | h3
   ·omega
   ·exact ⟨h1,h3⟩
  ·rintro ⟨rfl,h⟩;rw [h];simp
def dg (b n:Nat):List Nat:=if h:1<b∧0<n then n%b::dg b (n/b) else []
termination_by n
decreasing_by exact Nat.div_lt_self h.2 h.1
theorem Yh (b:Nat):dg b 0=[]:=by rw [dg];simp
theorem Qcs {b n:Nat} (hb:1<b) (hn:0<n):dg b n=n%b::dg b (n/b):=by rw [dg,dif_pos ⟨hb,hn⟩]
theorem Qvb {b:Nat} (hb:1<b) {P:Nat→Prop} (h0:P 0) (h1:∀ n,0<n→P (n/b)→P n) (n:Nat):P n:=by
 induction n using Nat.strongRecOn with
 | ind n ih =>
  by_cases h:n=0
  ·subst h;exact h0
  ·exact h1 n (by omega) (ih _ (Nat.div_lt_self (by omega) hb))
theorem Qrk {b:Nat} (hb:1<b) (n:Nat):lv b (dg b n)=n:=by
 refine Qvb hb (P:=fun n=>lv b (dg b n)=n) (by simp [Yh,lv]) (fun n hn ih=>?_) n
 rw [Qcs hb hn,lv,ih,Nat.mod_add_div]
theorem Xe6 {b:Nat} (hb:1<b) (n:Nat):∀ x∈dg b n,x<b:=by
 refine Qvb hb (P:=fun n=>∀ x∈dg b n,x<b) (by simp [Yh]) (fun n hn ih=>?_) n
 rw [Qcs hb hn];intro x hx;rcases List.mem_cons.1 hx with rfl | hx
 ·exact Nat.mod_lt _ (by omega)
 ·exact ih x hx
def Xw:List Nat→Nat
 | []=>0
 | x::l=>if Xw l=0 then (if x=0 then 0 else 1) else Xw l+1
theorem Qbm:∀ l:List Nat,Xw l≤l.length
 | []=>by simp [Xw]
 | x::l=>by have:=Qbm l;simp only [Xw,List.length_cons];split<;>(try split)<;>omega
theorem Qdv:∀ {l:List Nat},Xw l=0↔∀ x∈l,x=0
 | []=>by simp [Xw]
 | x::l=>by
  simp only [Xw,List.mem_cons,forall_eq_or_imp,← Qdv (l:=l)];split
  ·rename_i h;split<;>simp [*]
  ·rename_i h;simp [h]
theorem Qnq {b:Nat} (hb:1<b):∀ {l:List Nat},(∀ x∈l,x<b)→dg b (lv b l)=l.take (Xw l)
 | [],_=>by simp [lv,Yh]
 | x::l,h=>by
  have ih:=Qnq hb (l:=l) fun y hy=>h y (by simp [hy])
  have hx:=h x (by simp)
  simp only [Xw];by_cases ht:Xw l=0
  ·rw [if_pos ht]
   have hz:lv b l=0:=(Qbu (by omega)).2 (Qdv.1 ht)
   simp only [lv,hz,Nat.mul_zero,Nat.add_zero];by_cases hx0:x=0
   ·subst hx0;rw [if_pos rfl,Yh];rfl
   ·rw [if_neg hx0,Qcs hb (by omega),Nat.mod_eq_of_lt hx,Nat.div_eq_of_lt hx,Yh];simp
  ·rw [if_neg ht]
   have hz:0<lv b l:=Nat.pos_of_ne_zero fun h0=>ht (Qdv.2 ((Qbu (by omega)).1 h0))
   have hp:0<lv b (x::l):=by
    simp only [lv]
    have:=Nat.mul_pos (show 0<b by omega) hz
    omega
   rw [Qcs hb hp];simp only [lv];rw [Nat.add_mul_mod_self_left,Nat.mod_eq_of_lt hx,Nat.add_mul_div_left _ _ (by omega),Nat.div_eq_of_lt hx,Nat.zero_add,ih]
   simp
theorem Xe {b:Nat} (hb:1<b) (n k:Nat) (h:n<b ^ k):(dg b n).length≤k:=by
 induction k generalizing n with
 | zero=>simp at h;subst h;simp [Yh]
 | succ k ih =>
  by_cases hn:n=0
  ·subst hn;simp [Yh]
  ·rw [Qcs hb (by omega),List.length_cons]
   have:=ih (n/b) (Nat.div_lt_of_lt_mul (by rw [Nat.mul_comm,← Nat.pow_succ];exact h))
   omega
theorem Zm {b:Nat} (hb:1<b) (n:Nat):n<b ^ (dg b n).length:=by
 have:=Qgg (Xe6 hb n)
 rwa [Qrk hb] at this
theorem Ke {b:Nat} {l:List Nat} (h:∀ x∈l,x<b) (k:Nat) (hk:k≤l.length):lv b (l.take k)<b ^ k:=by
 have:=Qgg (l:=l.take k) fun x hx=>h x (List.mem_of_mem_take hx)
 rwa [List.length_take,Nat.min_eq_left hk] at this
theorem Ky (b:Nat) (l:List Nat) (k:Nat) (hk:k≤l.length):lv b l=lv b (l.take k)+b ^ k*lv b (l.drop k):=by
 conv=>lhs;rw [← List.take_append_drop k l]
 rw [Qd5,List.length_take,Nat.min_eq_left hk]
def Qz (k:IntKind) (l:List Nat):List V:=l.map fun x:Nat=>V.int k (x:Int)
@[go_sem] theorem Yb (k:IntKind) (l:List Nat):(Qz k l).length=l.length:=by simp [Qz]
theorem Qjj (k:IntKind) (l m:List Nat):Qz k (l++m)=Qz k l++Qz k m:=by simp [Qz]
theorem Qiv (k:IntKind) (l:List Nat) (n:Nat):(Qz k l).take n=Qz k (l.take n):=by simp [Qz,List.map_take]
@[go_sem] theorem Qd4 (k:IntKind) (l:List Nat):(Qz k l).all Yc=true:=by simp [Qz,Yc]
theorem Qht {k:IntKind} (l:List Nat) (i:Nat) (h:i<l.length):nth (Qz k l) i=.int k (l.getD i 0:Nat):=by
 rw [Xo];simp [Qz,List.getD,h]
attribute [go_sem] Qht
@[go_sem] theorem Kh (k:IntKind) (g:Nat→Option Nat) (l:List Nat):Qe g (Qz k l)=Qz k l:=by
 induction l with
 | nil=>rfl
 | cons x l ih=>simp only [Qz,List.map_cons,Qe,ren] at ih ⊢;rw [ih]
@[go_sem] theorem Qp (k:IntKind) (l:List Nat):Qf (Qz k l)=true:=by
 induction l with
 | nil=>rfl
 | cons x l ih=>simp only [Qz,List.map_cons,Qf,clo] at ih ⊢;rw [ih];rfl
theorem Xq (k:IntKind) (l:List Nat):Xd (Qz k l)=true:=by
 induction l with
 | nil=>rfl
 | cons x l ih=>simp only [Qz,List.map_cons,Xd,plain] at ih ⊢;rw [ih];rfl
theorem Qj5 {n:Int} (h:0≤n∧n≤18446744073709551615):IntKind.wrap .u64 n=n:=by
 have e:IntKind.wrap .u64 n=n%18446744073709551616:=by simp [IntKind.wrap,IntKind.bits,IntKind.signed]
 rw [e];omega
theorem Qha {n:Int} (h:0≤n∧n≤4294967295):IntKind.wrap .u32 n=n:=by
 have e:IntKind.wrap .u32 n=n%4294967296:=by simp [IntKind.wrap,IntKind.bits,IntKind.signed]
 rw [e];omega
theorem Qqa (n:Int):IntKind.wrap .u64 n=n%18446744073709551616:=by simp [IntKind.wrap,IntKind.bits,IntKind.signed]
theorem Qc4 (n:Int):IntKind.wrap .u32 n=n%4294967296:=by simp [IntKind.wrap,IntKind.bits,IntKind.signed]
attribute [go_sem] Qj5 Qha
def Qsa (o:Option IntKind) (n:Int) (K:V→Prop):Prop:=match o with
 | some k=>K (.int k (k.wrap n))
 | none=>False
@[congr] theorem Xkg {uu:Prop} (h00:(True∧True)=uu) {o o':Option IntKind} {n n':Int} (K:V→Prop) (h:o=o') (h2:n=n'):Qsa o n K=Qsa o' n' K:=by rw [h,h2]
@[go_sem] theorem Xai (y:Ty) (k:IntKind) (n:Int) (K:V→Prop):Qct y (.int k n) K=Qsa y.ik n K:=by
 unfold Qct Qsa;cases y.ik<;>rfl
@[go_sem] theorem Xm6 (k:IntKind) (n:Int) (K:V→Prop):Qsa (some k) n K=K (.int k (k.wrap n)):=rfl
theorem Qxx (l:List Nat) (x:Nat):Xw (l++[x])=if x=0 then Xw l else l.length+1:=by
 induction l with
 | nil=>simp [Xw]
 | cons y l ih =>
  simp only [List.cons_append,Xw,ih,List.length_cons];by_cases hx:x=0
  ·simp [hx]
  ·simp [hx]
theorem Qam {l:List Nat} {n:Nat} (h:n<l.length):Xw (l.take (n+1))=if l.getD n 0=0 then Xw (l.take n) else n+1:=by
 have:l.take (n+1)=l.take n++[l.getD n 0]:=by rw [List.take_add_one];simp [List.getD,h]
 rw [this,Qxx,List.length_take,Nat.min_eq_left (by omega)]
theorem Qfi {b:Nat} {l:List Nat} {n:Nat} (h:n<l.length):lv b (l.take (n+1))=lv b (l.take n)+b ^ n*l.getD n 0:=by
 have:l.take (n+1)=l.take n++[l.getD n 0]:=by rw [List.take_add_one];simp [List.getD,h]
 rw [this,Jz,List.length_take,Nat.min_eq_left (by omega)]
def Lim (l:List Nat):Prop:=∀ x∈l,x<4294967296
theorem Lim.get {l:List Nat} (h:Lim l) (i:Nat):l.getD i 0<4294967296:=by
 by_cases hi:i<l.length
 ·have:l.getD i 0=l[i]:=by simp [List.getD,hi]
  rw [this];exact h _ (List.getElem_mem hi)
 ·simp [List.getD,List.getElem?_eq_none (Nat.le_of_not_lt hi)]
theorem Xjn {k a b:Nat} (ha:a<2 ^ k) (hb:b<2 ^ k):(BitVec.ofInt k (a:Int) &&& BitVec.ofInt k (b:Int)).toNat=a &&& b:=by
 rw [BitVec.toNat_and,BitVec.ofInt_natCast,BitVec.ofInt_natCast,BitVec.toNat_ofNat,BitVec.toNat_ofNat,Nat.mod_eq_of_lt ha,Nat.mod_eq_of_lt hb]
theorem Xcv {k a b:Nat} (ha:a<2 ^ k) (hb:b<2 ^ k):(BitVec.ofInt k (a:Int)|||BitVec.ofInt k (b:Int)).toNat=a|||b:=by
 rw [BitVec.toNat_or,BitVec.ofInt_natCast,BitVec.ofInt_natCast,BitVec.toNat_ofNat,BitVec.toNat_ofNat,Nat.mod_eq_of_lt ha,Nat.mod_eq_of_lt hb]
theorem Qwd {k a b:Nat} (ha:a<2 ^ k) (hb:b<2 ^ k):(BitVec.ofInt k (a:Int) ^^^ BitVec.ofInt k (b:Int)).toNat=a ^^^ b:=by
 rw [BitVec.toNat_xor,BitVec.ofInt_natCast,BitVec.ofInt_natCast,BitVec.toNat_ofNat,BitVec.toNat_ofNat,Nat.mod_eq_of_lt ha,Nat.mod_eq_of_lt hb]
def Zx (n:Nat):Nat:=(dg 2 n).length
theorem Qif (n:Nat):n<2 ^ Zx n:=Zm (by decide) n
theorem Qb9 {n k:Nat} (h:n<2 ^ k):Zx n≤k:=Xe (by decide) n k h
theorem Qxd {n k:Nat} (h:2 ^ k≤n):k<Zx n:=by
 refine Classical.byContradiction fun hc=>?_
 have:=Qif n
 have:=Nat.pow_le_pow_right (n:=2) (by decide) (Nat.le_of_not_lt hc)
 omega
theorem Qxc {n k:Nat} (h1:n<2 ^ (k+1)) (h2:2 ^ k≤n):Zx n=k+1:=by
 have:=Qb9 h1
 have:=Qxd h2
 omega
theorem Qi4:Zx 0=0:=by simp [Zx,Yh]
theorem Qsk {n:Nat} (h:0<n):2 ^ (Zx n - 1)≤n:=by
 refine Classical.byContradiction fun hc=>?_
 have h1:=Qb9 (Nat.lt_of_not_le hc)
 have:0<Zx n:=by
  refine Nat.pos_of_ne_zero fun h0=>?_
  have:=Qif n
  rw [h0] at this;simp at this;omega
 omega
theorem Qft {n k:Nat} (h:2 ^ k≤n):Zx n=k+Zx (n/2 ^ k):=by
 have hp:0<2 ^ k:=Nat.two_pow_pos k
 have h0:0<n/2 ^ k:=Nat.div_pos h hp
 have h1:=Qif (n/2 ^ k)
 have h2:=Qsk h0
 have e:Zx (n/2 ^ k)=(Zx (n/2 ^ k) - 1)+1:=by
  have:0<Zx (n/2 ^ k):=Qxd (k:=0) (by rw [Nat.pow_zero];exact h0)
  omega
 rw [e,← Nat.add_assoc];refine Qxc ?_ ?_
 ·rw [Nat.add_assoc,← e,Nat.pow_add]
  have:=(Nat.div_lt_iff_lt_mul hp).1 h1
  rwa [Nat.mul_comm] at this
 ·rw [Nat.pow_add]
  have:=(Nat.le_div_iff_mul_le hp).1 h2
  rwa [Nat.mul_comm] at this
end Go.Bv
end
section
namespace Go.Bv
theorem Qg1 {b:Nat} (hb:1<b) (x:Nat):∀ i,(dg b x).getD i 0=x/b ^ i%b:=by
 refine Qvb hb (P:=fun x=>∀ i,(dg b x).getD i 0=x/b ^ i%b) (fun i=>by simp [Yh,List.getD]) (fun n hn ih i=>?_) x
 rw [Qcs hb hn];cases i with
 | zero=>simp [List.getD]
 | succ i =>
  have:=ih i
  simp only [List.getD,List.getElem?_cons_succ] at this ⊢;rw [this,Nat.div_div_eq_div_mul,Nat.pow_succ,Nat.mul_comm b]
def D10:Nat:=10000
def Qr (x:Nat):Nat:=(dg D10 x).length
theorem Qdj:1<D10:=by decide
theorem Qad {x k:Nat} (h:x<D10 ^ k):Qr x≤k:=Xe Qdj x k h
theorem Qax (x:Nat):x<D10 ^ Qr x:=Zm Qdj x
theorem Qai {x k:Nat} (h:Qr x≤k):x<D10 ^ k:=Nat.lt_of_lt_of_le (Qax x) (Nat.pow_le_pow_right (by decide) h)
theorem Jd {x y:Nat} (h:x≤y):Qr x≤Qr y:=Qad (Nat.lt_of_le_of_lt h (Qax y))
theorem dlen_zero {x:Nat}:Qr x=0↔x=0:=by
 constructor
 ·intro h;have:=Qax x;rw [h] at this;simpa using this
 ·intro h;subst h;simp [Qr,Yh]
theorem Xe5 {x:Nat} (h:0<x):Qr x=Qr (x/D10)+1:=by simp [Qr,Qcs Qdj h]
theorem Qfp (x y:Nat):Qr (x*y)≤Qr x+Qr y:=Qad (by
 rw [Nat.pow_add];exact Nat.mul_lt_mul'' (Qax x) (Qax y))
theorem Qw9 {x i:Nat} (h:i<Qr x):D10 ^ i≤x:=Nat.le_of_not_lt fun h1=>by have:=Qad h1;omega
theorem Qkc (x i:Nat):x/D10 ^ i=x/D10 ^ i%D10+D10*(x/D10 ^ (i+1)):=by
 rw [Nat.pow_succ,← Nat.div_div_eq_div_mul];exact (Nat.mod_add_div _ _).symm
theorem Qff (x i:Nat):x%D10 ^ (i+1)=x%D10 ^ i+D10 ^ i*(x/D10 ^ i%D10):=by rw [Nat.pow_succ,Nat.mod_mul]
theorem Qgz {x n:Nat} (h:x<4294967296 ^ n):Qr x≤3*n:=Qad (by
 refine Nat.lt_of_lt_of_le h ?_;rw [Nat.pow_mul];exact Nat.pow_le_pow_left (by decide) n)
theorem Qgu (x:Nat):(dg 4294967296 x).length≤Qr x:=Xe (by decide) x _ (Nat.lt_of_lt_of_le (Qax x) (Nat.pow_le_pow_left (by decide) _))
theorem Xi9 {l:List Nat} {z:Nat} (h:∀ x∈l,x<D10) (hv:lv D10 l=z) (ht:∀ k,l.length=k+1→D10 ^ k≤z):l=dg D10 z:=by
 have h1:=Qnq Qdj h
 rw [hv] at h1
 have h2:=Qbm l
 have h3:Qr z=Xw l:=by rw [Qr,h1,List.length_take];omega
 by_cases e:Xw l=l.length
 ·rw [h1,e,List.take_length]
 ·obtain ⟨k,hk⟩:∃ k,l.length=k+1:=⟨l.length - 1,by omega⟩
  have h4:=ht k hk
  have h5:=Qax z
  have h6:D10 ^ Qr z≤D10 ^ k:=Nat.pow_le_pow_right (by decide) (by omega)
  omega
theorem Xj1 {l:List Nat} {c V d:Nat} (h:lv D10 l+D10 ^ l.length*c=V):lv D10 (l++[d%D10])+D10 ^ (l.length+1)*(d/D10)+D10 ^ l.length*c=V+D10 ^ l.length*d:=by
 rw [Jz,Nat.pow_succ,← h]
 have hm:=Nat.mod_add_div d D10
 have:D10 ^ l.length*d=D10 ^ l.length*(d%D10)+D10 ^ l.length*D10*(d/D10):=by
  rw [Nat.mul_assoc,← Nat.mul_add,hm]
 omega
theorem Qi1 {l:List Nat} {d:Nat} (h:∀ x∈l,x<D10) (hd:d<D10):∀ x∈l++[d],x<D10:=fun x hx=>by
 rcases List.mem_append.1 hx with hx | hx
 ·exact h x hx
 ·simp at hx;rw [hx];exact hd
theorem Qfg {x i:Nat} (h:Qr x≤i):x%D10 ^ i=x:=Nat.mod_eq_of_lt (Qai h)
theorem mod_le (x i:Nat):x%D10 ^ i≤x:=Nat.mod_le _ _
structure Rq where
 neg:Bool
 num:Nat
 den:Nat
structure Raw where
 neg:Bool
 num:List Nat
 den:List Nat
def Qdc (s:Bool) (p q:Nat):Rq:=if p=0∨q=0 then ⟨false,0,1⟩ else ⟨s,p/Nat.gcd p q,q/Nat.gcd p q⟩
def Xm (x:Raw):Rq:=Qdc x.neg (lv 4294967296 x.num) (lv 4294967296 x.den)
def Yl (r:Rq):Raw:=⟨r.neg,dg 4294967296 r.num,dg 4294967296 r.den⟩
def isQ (r:Rq) (x:Raw):Bool:=decide (x.neg=r.neg)&&(decide (x.num=dg 4294967296 r.num)&&decide (x.den=dg 4294967296 r.den))
def okR (x:Raw):Bool:=isQ (Xm x) x
theorem Qkb {r:Rq} {x:Raw}:isQ r x=true↔x=Yl r:=by
 obtain ⟨a,b,c⟩:=x;simp [isQ,Yl]
def Qjf (r t:Rq):Bool:=decide (r.neg=t.neg)&&(decide (r.num=t.num)&&decide (r.den=t.den))
structure RawOK (x:Raw):Prop where
 n1:x.num.length≤10000000000
 d1:x.den.length≤10000000000
 nL:Lim x.num
 dL:Lim x.den
structure RqOK (r:Rq):Prop where
 n1:Qr r.num≤30000000000
 d1:Qr r.den≤30000000000
theorem Qlp:Qr 1=1:=by rw [Xe5 (by decide)];simp [Qr,Yh,D10]
theorem Qfd (s:Bool) (p q:Nat):(Qdc s p q).num≤p∧((Qdc s p q).den≤q∨(Qdc s p q).den=1):=by
 unfold Qdc;split
 ·exact ⟨Nat.zero_le _,.inr rfl⟩
 ·exact ⟨Nat.div_le_self _ _,.inl (Nat.div_le_self _ _)⟩
theorem Xdc {s:Bool} {p q:Nat} (hp:Qr p≤30000000000) (hq:Qr q≤30000000000):RqOK (Qdc s p q):=by
 obtain ⟨h1,h2⟩:=Qfd s p q;refine ⟨Nat.le_trans (Jd h1) hp, ?_⟩;rcases h2 with h2 | h2
 ·exact Nat.le_trans (Jd h2) hq
 ·rw [h2,Qlp];decide
theorem RawOK.p {x:Raw} (h:RawOK x):Qr (lv 4294967296 x.num)≤30000000000:=by
 have h1:=Qgz (Qgg h.nL)
 have h2:=h.n1
 omega
theorem RawOK.q {x:Raw} (h:RawOK x):Qr (lv 4294967296 x.den)≤30000000000:=by
 have h1:=Qgz (Qgg h.dL)
 have h2:=h.d1
 omega
theorem RawOK.val {x:Raw} (h:RawOK x):RqOK (Xm x):=Xdc h.p h.q
theorem Qr1 {p q:Nat} (h:¬ (p=0∨q=0)):0<Nat.gcd p q:=Nat.gcd_pos_of_pos_left _ (by omega)
theorem Qep {s:Bool} {p q:Nat} (h:p=0∨q=0):Qdc s p q=⟨false,0,1⟩:=if_pos h
theorem Qnc {s:Bool} {p q:Nat} (h:¬ (p=0∨q=0)):Qdc s p q=⟨s,p/Nat.gcd p q,q/Nat.gcd p q⟩:=if_neg h
def Qcn (n:Int):Rq:=⟨decide (n<0),n.natAbs,1⟩
theorem Qlb {b:Nat} (hb:1<b):∀ {l m:List Nat},(∀ x∈l,x<b)→(∀ x∈m,x<b)→l.length=m.length→lv b l=lv b m→l=m
 | [],[],_,_,_,_=>rfl
 | [],_::_,_,_,h,_=>nomatch h
 | _::_,[],_,_,h,_=>nomatch h
 | x::l,y::m,hl,hm,h,hv=>by
  have hx:=hl x (by simp)
  have hy:=hm y (by simp)
  simp only [lv] at hv
  have h1:=congrArg (·%b) hv
  simp only [Nat.add_mul_mod_self_left,Nat.mod_eq_of_lt hx,Nat.mod_eq_of_lt hy] at h1;subst h1
  have h2:=Nat.eq_of_mul_eq_mul_left (show 0<b by omega) (Nat.add_left_cancel hv)
  rw [Qlb hb (fun z hz=>hl z (by simp [hz])) (fun z hz=>hm z (by simp [hz])) (by simpa using h) h2]
structure Gs (B P V U v1 v2 top u2:Nat):Prop where
 hV:∃ vl,vl<P∧V=(v1*B+v2)*P+vl
 hU:∃ ul,ul<P∧U=(top*B+u2)*P+ul
 hv2:v2<B
 hu2:u2<B
 hv1:v1<B
 big:B≤2*v1
 lt:U<B*V
variable {B P V U v1 v2 top u2:Nat}
theorem Gs.P0 (h:Gs B P V U v1 v2 top u2):0<P:=by obtain ⟨vl,h1,_⟩:=h.hV;omega
theorem Gs.B0 (h:Gs B P V U v1 v2 top u2):0<B:=by have:=h.hv2;omega
theorem Gs.v10 (h:Gs B P V U v1 v2 top u2):0<v1:=by have:=h.big;have:=h.B0;omega
theorem Gs.V0 (h:Gs B P V U v1 v2 top u2):0<V:=by
 obtain ⟨vl,h1,h2⟩:=h.hV
 have:0<(v1*B+v2)*P:=Nat.mul_pos (Nat.add_pos_left (Nat.mul_pos h.v10 h.B0) _) h.P0
 omega
theorem Gs.three (h:Gs B P V U v1 v2 top u2) {g:Nat} (hg:g*V≤U):g*(v1*B+v2)≤top*B+u2:=by
 obtain ⟨vl,h1,h2⟩:=h.hV;obtain ⟨ul,h3,h4⟩:=h.hU
 have e1:g*((v1*B+v2)*P)≤g*V:=Nat.mul_le_mul_left g (by omega)
 have e2:U<(top*B+u2+1)*P:=by rw [Nat.add_mul _ 1,Nat.one_mul];omega
 have e3:g*(v1*B+v2)*P<(top*B+u2+1)*P:=by rw [Nat.mul_assoc];omega
 have:=Nat.lt_of_mul_lt_mul_right e3
 omega
theorem Gs.down (h:Gs B P V U v1 v2 top u2) {g r:Nat} (hr:g*v1+r=top) (hg:g*V≤U):g*v2≤r*B+u2:=by
 have:=h.three hg
 rw [← hr,Nat.mul_add,Nat.add_mul,← Nat.mul_assoc] at this;omega
theorem Gs.q_lt (h:Gs B P V U v1 v2 top u2):U/V<B:=(Nat.div_lt_iff_lt_mul h.V0).2 h.lt
theorem Gs.first_le (h:Gs B P V U v1 v2 top u2):U/V≤top/v1:=by
 rw [Nat.le_div_iff_mul_le h.v10]
 have hq:U/V*V≤U:=Nat.div_mul_le_self U V
 have:=h.three hq
 have e:U/V*v1*B≤U/V*(v1*B+v2):=by rw [Nat.mul_add,Nat.mul_assoc];omega
 have e2:U/V*v1*B<(top+1)*B:=by rw [Nat.add_mul,Nat.one_mul];have:=h.hu2;omega
 have:=Nat.lt_of_mul_lt_mul_right e2
 omega
theorem Gs.first_ge (h:Gs B P V U v1 v2 top u2):top/v1≤B+1:=by
 have:top/v1<B+2:=by
  rw [Nat.div_lt_iff_lt_mul h.v10];obtain ⟨vl,h1,h2⟩:=h.hV;obtain ⟨ul,h3,h4⟩:=h.hU
  have hlt:=h.lt
  have e1:(top*B+u2)*P<B*((v1*B+v2+1)*P):=by
   have:B*V<B*((v1*B+v2+1)*P):=by
    refine Nat.mul_lt_mul_of_pos_left ?_ h.B0;rw [h2,Nat.add_mul _ 1,Nat.one_mul];omega
   omega
  rw [← Nat.mul_assoc] at e1
  have e2:=Nat.lt_of_mul_lt_mul_right e1
  have e3:top*B<(B*v1+B)*B:=by
   have:B*(v1*B+v2+1)≤B*(v1*B+B):=Nat.mul_le_mul_left B (by have:=h.hv2;omega)
   have e:B*(v1*B+B)=(B*v1+B)*B:=by rw [Nat.mul_add,Nat.add_mul,Nat.mul_assoc]
   omega
  have:=Nat.lt_of_mul_lt_mul_right e3
  have hb:=h.big
  rw [Nat.add_mul];omega
 omega
theorem Gs.end1 (h:Gs B P V U v1 v2 top u2) {g r:Nat} (hr:g*v1+r=top) (hg:g<B) (hc:g*v2≤r*B+u2):g≤U/V+1:=by
 by_cases h0:g=0
 ·rw [h0];exact Nat.zero_le _
 have:g - 1≤U/V:=by
  rw [Nat.le_div_iff_mul_le h.V0];obtain ⟨vl,h1,h2⟩:=h.hV;obtain ⟨ul,h3,h4⟩:=h.hU;obtain ⟨k,rfl⟩:∃ k,g=k+1:=⟨g - 1,by omega⟩
  rw [Nat.add_sub_cancel]
  have e1:(k+1)*(v1*B+v2)≤top*B+u2:=by
   rw [← hr,Nat.mul_add,Nat.add_mul _ r,← Nat.mul_assoc];omega
  have e2:=Nat.mul_le_mul_right P e1
  have e3:k*V≤(k+1)*(v1*B+v2)*P:=by
   rw [h2,Nat.mul_add,← Nat.mul_assoc,Nat.add_mul k 1,Nat.one_mul,Nat.add_mul]
   have:k*vl≤(v1*B+v2)*P:=by
    refine Nat.mul_le_mul ?_ (by omega)
    have:=Nat.mul_le_mul_right B (show 1≤v1 from h.v10)
    omega
   omega
  omega
 omega
theorem Gs.end2 (h:Gs B P V U v1 v2 top u2) {g r:Nat} (hr:g*v1+r=top) (hg:g≤B) (hB:B≤r):g≤U/V:=by
 rw [Nat.le_div_iff_mul_le h.V0];obtain ⟨vl,h1,h2⟩:=h.hV;obtain ⟨ul,h3,h4⟩:=h.hU
 have e1:g*V≤g*(v1*B+B)*P:=by
  rw [Nat.mul_assoc];refine Nat.mul_le_mul_left g ?_
  have:(v1*B+v2+1)*P≤(v1*B+B)*P:=Nat.mul_le_mul_right P (by have:=h.hv2;omega)
  rw [Nat.add_mul _ 1,Nat.one_mul] at this;omega
 have e2:g*(v1*B+B)≤top*B+u2:=by
  rw [← hr,Nat.mul_add,← Nat.mul_assoc,Nat.add_mul]
  have:=Nat.mul_le_mul_right B hg
  have:=Nat.mul_le_mul_right B hB
  omega
 have e3:=Nat.mul_le_mul_right P e2
 omega
theorem Gs.step (h:Gs B P V U v1 v2 top u2) {g r:Nat} (hr:g*v1+r=top) (hq:U/V≤g) (hg:g≤B+1) (hc:B≤g∨r*B+u2<g*v2) :
  ∃ g',g=g'+1∧U/V≤g'∧g'≤B∧g'*v1+(r+v1)=top∧(B≤r+v1→g'≤U/V∧g'<B):=by
 have hlt:=h.q_lt
 have hne:U/V≠g:=fun e=>by
  rcases hc with hc | hc
  ·omega
  ·have:g*V≤U:=by rw [← Nat.le_div_iff_mul_le h.V0];omega
   have:=h.down hr this
   omega
 have hq':U/V<g:=Nat.lt_of_le_of_ne hq hne
 obtain ⟨k,rfl⟩:∃ k,g=k+1:=⟨g - 1,by have:=Nat.zero_le (U/V);omega⟩
 have hk:k*v1+(r+v1)=top:=by rw [Nat.add_mul,Nat.one_mul] at hr;omega
 refine ⟨k,rfl,by omega,by omega,hk,fun hB=>?_⟩
 have:=h.end2 hk (by omega) hB
 exact ⟨this,Nat.lt_of_le_of_lt this hlt⟩
end Go.Bv
end
section
namespace Go.Bv
theorem Xpl {U V g p:Nat} (hV:0<V) (hq:U/V≤g) (e:p+g*V=U):g=U/V∧p=U%V:=by
 have h1:g≤U/V:=by rw [Nat.le_div_iff_mul_le hV];omega
 have h2:g=U/V:=Nat.le_antisymm h1 hq
 have h3:=Nat.div_add_mod U V
 refine ⟨h2, ?_⟩;rw [h2,Nat.mul_comm] at e;omega
theorem Xpk {U V g p p' M c:Nat} (hV:0<V) (hVM:V≤M) (hq:U/V≤g) (hg:g≤U/V+1) (e:p+g*V=U+M) (hp:p<M) (e2:p'+M*c=p+V) (hp2:p'<M):g=U/V+1∧p'=U%V:=by
 have h3:=Nat.div_add_mod U V
 have hm:=Nat.mod_lt U hV
 have hne:g≠U/V:=fun h=>by
  rw [h,Nat.mul_comm] at e;omega
 have hg':g=U/V+1:=by
  rcases Nat.lt_or_ge (U/V) g with h | h
  ·exact Nat.le_antisymm hg h
  ·exact (hne (Nat.le_antisymm h hq)).elim
 refine ⟨hg', ?_⟩;rw [hg',Nat.add_mul,Nat.one_mul,Nat.mul_comm] at e
 have hc:c=1:=by
  rcases Nat.lt_trichotomy c 1 with h | h | h
  ·have:c=0:=by omega
   subst this;rw [Nat.mul_zero] at e2;omega
  ·exact h
  ·have:=Nat.mul_le_mul_left M (show 2≤c by omega)
   omega
 subst hc;rw [Nat.mul_one] at e2;omega
theorem Xpm {B R w V n:Nat} (hB:0<B) (hw:w<B) (hR:R<V):w+B*R<B*V:=by
 have:=Nat.mul_le_mul_left B (show R+1≤V from hR)
 rw [Nat.mul_add,Nat.mul_one] at this;omega
theorem Xi7 {b:Nat} (hb:0<b) {W:List Nat} {j n:Nat} (h:lv b (W.drop j)<b ^ n) (hl:j+n≤W.length):lv b (W.drop j)=lv b ((W.drop j).take n)∧lv b (W.drop (j+n))=0:=by
 have hs:=Ky b (W.drop j) n (by rw [List.length_drop];omega)
 rw [List.drop_drop] at hs
 have hz:lv b (W.drop (j+n))=0:=by
  refine Nat.eq_zero_of_not_pos fun hp=>?_
  have:=Nat.mul_le_mul_left (b ^ n) (show 1≤lv b (W.drop (j+n)) from hp)
  omega
 refine ⟨?_,hz⟩;rw [hz,Nat.mul_zero,Nat.add_zero] at hs;exact hs
theorem Qrj {b:Nat} {l:List Nat} {i:Nat} (h:i<l.length):lv b (l.drop i)=l.getD i 0+b*lv b (l.drop (i+1)):=by
 have e:l.drop i=l.getD i 0::l.drop (i+1):=by
  rw [List.drop_eq_getElem_cons h];simp [List.getD,h]
 rw [e];rfl
theorem Xpn {b:Nat} (hb:0<b) {W:List Nat} {j n V:Nat} (hL:∀ x∈W,x<b) (hV:V≤b ^ n) (hj:j+(n+1)≤W.length) (hlt:lv b (W.drop (j+1))<V) :
  lv b (W.drop j)<b*V∧lv b (W.drop j)=lv b ((W.drop j).take (n+1))∧lv b (W.drop (j+(n+1)))=0:=by
 have h1:lv b (W.drop j)<b*V:=by
  rw [Qrj (by omega)]
  exact Xpm (n:=n) hb (by
   have hx:W.getD j 0∈W:=by simp [List.getD,show j<W.length by omega]
   exact hL _ hx) hlt
 have h2:lv b (W.drop j)<b ^ (n+1):=by
  rw [Nat.pow_succ,Nat.mul_comm];exact Nat.lt_of_lt_of_le h1 (Nat.mul_le_mul_left b hV)
 exact ⟨h1,Xi7 hb h2 hj⟩
theorem Xi6 {b:Nat} (hb:0<b) {W W2 Q:List Nat} {j n V A:Nat} (hL:∀ x∈W,x<b) (hV:V≤b ^ n) (hV0:0<V) (hj:j+(n+1)≤W.length) (hlt:lv b (W.drop (j+1))<V) (hlen:W2.length=W.length) (hlo:W2.take j=W.take j) (hhi:W2.drop (j+(n+1))=W.drop (j+(n+1)))
  (hp:lv b ((W2.drop j).take (n+1))=lv b (W.drop j)%V) (hQ:j<Q.length) (hinv:lv b (Q.drop (j+1))*(b ^ (j+1)*V)+lv b W=A) :
  lv b ((Q.set j (lv b (W.drop j)/V)).drop j)*(b ^ j*V)+lv b W2=A∧lv b (W2.drop j)<V:=by
 obtain ⟨h1,h2,h3⟩:=Xpn hb hL hV hj hlt
 have e1:lv b (W2.drop j)=lv b (W.drop j)%V:=by
  rw [Ky b (W2.drop j) (n+1) (by rw [List.length_drop];omega),List.drop_drop,hhi,h3,hp,Nat.mul_zero,Nat.add_zero]
 refine ⟨?_,by rw [e1];exact Nat.mod_lt _ hV0⟩
 have e2:lv b ((Q.set j (lv b (W.drop j)/V)).drop j)=lv b (W.drop j)/V+b*lv b (Q.drop (j+1)):=by
  rw [Qrj (by rw [List.length_set];exact hQ)]
  congr 1
  ·simp [List.getD,hQ]
  ·congr 2
   refine List.ext_getElem? fun k=>?_
   rw [List.getElem?_drop,List.getElem?_drop,List.getElem?_set_ne (by omega)]
 rw [e2,Ky b W2 j (by omega),hlo,e1,← hinv,Ky b W j (by omega)]
 have hdm:=Nat.div_add_mod (lv b (W.drop j)) V
 generalize lv b (W.drop j)/V=q at *;generalize lv b (W.drop j)%V=r at *;generalize lv b (Q.drop (j+1))=z at *;rw [← hdm,Nat.pow_succ,Nat.add_mul,Nat.mul_add]
 have a1:b*z*(b ^ j*V)=z*(b ^ j*b*V):=by ac_rfl
 have a2:q*(b ^ j*V)=b ^ j*(V*q):=by ac_rfl
 rw [a1,a2];omega
theorem Xmy {V q w a b s:Nat} (hs:V=b*s) (hs0:0<s) (hb:0<b) (h:q*V+w=a*s) (hw:w<V):q=a/b∧w/s=a%b:=by
 have hV:0<V:=by omega
 have h1:q=a*s/V:=by
  rw [← h,Nat.mul_comm,Nat.mul_add_div hV,Nat.div_eq_of_lt hw,Nat.add_zero]
 have h2:w=a*s%V:=by
  rw [← h,Nat.mul_comm,Nat.mul_add_mod,Nat.mod_eq_of_lt hw]
 rw [hs,Nat.mul_div_mul_right _ _ hs0] at h1;rw [hs,Nat.mul_mod_mul_right] at h2;exact ⟨h1,by rw [h2,Nat.mul_div_cancel _ hs0]⟩
theorem Qri {b:Nat} (hb:0<b) {l:List Nat} (h:∀ x∈l,x<b) (m:Nat):lv b (l.drop m)=lv b l/b ^ m:=by
 by_cases hm:m≤l.length
 ·rw [Ky b l m hm,Nat.add_comm,Nat.mul_add_div (Nat.pow_pos hb),Nat.div_eq_of_lt (Ke h m hm),Nat.add_zero]
 ·rw [List.drop_eq_nil_of_le (by omega)]
  have:=Qgg h
  have h2:b ^ l.length≤b ^ m:=Nat.pow_le_pow_right hb (by omega)
  rw [Nat.div_eq_of_lt (by omega)];rfl
theorem Xdl (b:Nat) (l:List Nat) (k:Nat):lv b (l++List.replicate k 0)=lv b l:=by
 rw [Qd5]
 have:lv b (List.replicate k 0)=0:=by
  induction k with
  | zero=>rfl
  | succ k ih=>rw [List.replicate_succ,lv,ih];simp
 rw [this];simp
theorem Xi8 {x k s t:Nat} (hx:(dg 4294967296 x).length=k+2) (ht:t=x/4294967296 ^ (k+1)) (hs:s=32 - Zx t) :
  x*2 ^ s<4294967296 ^ (k+2)∧4294967296 ^ (k+1)*2147483648≤x*2 ^ s∧s≤31:=by
 have h1:x<4294967296 ^ (k+2):=hx ▸ Zm (by decide) x
 have h2:4294967296 ^ (k+1)≤x:=Nat.le_of_not_lt fun h=>by
  have:=Xe (b:=4294967296) (by decide) x _ h
  omega
 have hP:0<4294967296 ^ (k+1):=Nat.pow_pos (by decide)
 have t1:0<t:=by rw [ht];exact Nat.div_pos h2 hP
 have t2:t<2 ^ 32:=by rw [ht,Nat.div_lt_iff_lt_mul hP,show (2:Nat) ^ 32=4294967296 from rfl,Nat.mul_comm,← Nat.pow_succ];exact h1
 have b1:=Qb9 t2
 have b2:=Qsk t1
 have b3:=Qif t
 have b4:0<Zx t:=Nat.pos_of_ne_zero fun h=>by rw [h] at b3;simp at b3;omega
 have hm:=Nat.div_add_mod x (4294967296 ^ (k+1))
 have hr:=Nat.mod_lt x hP
 rw [← ht] at hm
 have hP2:4294967296 ^ (k+2)=4294967296 ^ (k+1)*4294967296:=Nat.pow_succ ..
 rw [hP2]
 clear hP2 h1
 generalize 4294967296 ^ (k+1)=P at *;generalize x%P=r at *
 have e1:2 ^ Zx t*2 ^ s=4294967296:=by rw [← Nat.pow_add,hs,show Zx t+(32 - Zx t)=32 by omega]
 have e2:2 ^ (Zx t - 1)*2 ^ s=2147483648:=by rw [← Nat.pow_add,hs,show Zx t - 1+(32 - Zx t)=31 by omega]
 refine ⟨?_, ?_,by omega⟩
 ·have c1:x<P*2 ^ Zx t:=by
   have:=Nat.mul_le_mul_left P (show t+1≤2 ^ Zx t from b3)
   rw [Nat.mul_add,Nat.mul_one] at this;omega
  have c2:=Nat.mul_lt_mul_of_pos_right c1 (Nat.two_pow_pos s)
  rw [Nat.mul_assoc,e1] at c2;exact c2
 ·have c1:P*2 ^ (Zx t - 1)≤x:=by
   have:=Nat.mul_le_mul_left P b2
   omega
  have c2:=Nat.mul_le_mul_right (2 ^ s) c1
  rw [Nat.mul_assoc,e2] at c2;exact c2
theorem Xe4 {B a la n s V b:Nat} (hB:0<B) (hla:a<B ^ la) (hn:0<n) (hnl:n≤la) (hb:B ^ (n - 1)≤b) (hV:V=b*2 ^ s):a*2 ^ s/B ^ (la - n+1)<V:=by
 rw [Nat.div_lt_iff_lt_mul (Nat.pow_pos hB)]
 have e:B ^ la=B ^ (n - 1)*B ^ (la - n+1):=by rw [← Nat.pow_add];congr 1;omega
 have c1:a*2 ^ s<B ^ la*2 ^ s:=Nat.mul_lt_mul_of_pos_right hla (Nat.two_pow_pos s)
 have c2:B ^ (n - 1)*2 ^ s≤V:=by rw [hV];exact Nat.mul_le_mul_right _ hb
 have c3:=Nat.mul_le_mul_right (B ^ (la - n+1)) c2
 rw [e] at c1
 have:B ^ (n - 1)*B ^ (la - n+1)*2 ^ s=B ^ (n - 1)*2 ^ s*B ^ (la - n+1):=by ac_rfl
 omega
def Qb2 {α:Type} (g:α→V × V × V) (xs:List α):List V:=xs.flatMap fun x=>[(g x).1,(g x).2.1,(g x).2.2]
theorem Qeu {α:Type} (g:α→V × V × V) (xs:List α):(Qb2 g xs).length=xs.length*3:=by
 induction xs with
 | nil=>rfl
 | cons x xs ih=>simp only [Qb2,List.flatMap_cons,List.length_append,List.length_cons,List.length_nil] at ih ⊢;rw [ih];omega
theorem Qev {α:Type} (g:α→V × V × V) (x:α) (xs:List α):Qb2 g (x::xs)=(g x).1::(g x).2.1::(g x).2.2::Qb2 g xs:=rfl
theorem Qb6 {α:Type} (g:α→V × V × V) (xs ys:List α):Qb2 g (xs++ys)=Qb2 g xs++Qb2 g ys:=by simp [Qb2]
theorem Ju {α:Type} (g:α→V × V × V) (d:α):∀ (xs:List α) (i:Nat),i<xs.length→nth (Qb2 g xs) (i*3)=(g (xs.getD i d)).1∧nth (Qb2 g xs) (i*3+1)=(g (xs.getD i d)).2.1∧nth (Qb2 g xs) (i*3+2)=(g (xs.getD i d)).2.2
 | [],i,h=>by simp at h
 | x::xs,0,h=>⟨rfl,rfl,rfl⟩
 | x::xs,i+1,h=>by
  have:=Ju g d xs i (by simpa using h)
  rw [Qev,show (i+1)*3=i*3+3 by omega]
  simpa [nth,List.getD] using this
theorem Qlt {α:Type} {g:α→V × V × V} {xs:List α} (h:∀ x,clo (g x).1=true∧clo (g x).2.1=true∧clo (g x).2.2=true):Qf (Qb2 g xs)=true:=by
 induction xs with
 | nil=>rfl
 | cons x xs ih=>rw [Qev];simp [Qf,h x,ih]
structure Tn where
 shape:List Int
 el:List Raw
structure Tq where
 shape:List Int
 el:List Rq
structure TnOK (t:Tn):Prop where
 s:t.shape.length≤1000000000
 e:t.el.length≤1000000000
 r:∀ x∈t.el,RawOK x
structure TqOK (t:Tq):Prop where
 s:t.shape.length≤1000000000
 e:t.el.length≤1000000000
 r:∀ x∈t.el,RqOK x
def r0:Raw:=⟨false,[],[]⟩
def q0:Rq:=⟨false,0,1⟩
def Xbn (t:Tn):Tq:=⟨t.shape,t.el.map Xm⟩
def Qof (t:Tq):Tn:=⟨t.shape,t.el.map Yl⟩
theorem TnOK.of {t:Tn} (h:TnOK t):TqOK (Xbn t):=⟨h.s,by simpa [Xbn] using h.e,fun x hx=>by
 simp only [Xbn,List.mem_map] at hx;obtain ⟨y,hy,rfl⟩:=hx;exact (h.r y hy).val⟩
theorem TnOK.get {t:Tn} (h:TnOK t) {i:Nat} (hi:i<t.el.length):RawOK (t.el.getD i r0):=h.r _ (by simp [List.getD,hi])
theorem TqOK.get {t:Tq} (h:TqOK t) {i:Nat} (hi:i<t.el.length):RqOK (t.el.getD i q0):=h.r _ (by simp [List.getD,hi])
theorem Qba {α:Type} (l:List α) (d:α) {i:Nat} (h:i<l.length):l.take (i+1)=l.take i++[l.getD i d]:=by
 rw [List.take_add_one];congr 1;simp [List.getD,h]
end Go.Bv
end
section
namespace Go.Proofs.YtepjcbnpbcmfcaaGreat
open Go.Bv
theorem Qhc (l:List Nat) (hl:l.length≤17592186044416):Pu C 284 [.sl l.length (Qz .u32 l)] (.int .i64 (Xw l:Nat)):=by
 refine zK Qd Tryz.func284 w284 Tryz.ntmps284 Tryz.results284 ?_
 (refine zG ?_;(repeat' ((with_reducible apply zBr)<;>intro h<;>refine zG ?_))<;>try exact .intro)
 refine Qg (fun n ts H=>∃ m,(m≤l.length)∧(Xw (l.take m)=Xw l)∧(n=m)∧(H=[])∧ts.length=19∧nth ts 0=.sl l.length (Qz .u32 l)∧nth ts 3=.int .i64 (m:Nat)) ?_ (n:=l.length) ?_
 ·skip
  rintro n ts H ⟨m,hm,ht,hn,hH,hL,hs0,hs3⟩;refine Qv [(0,.sl l.length (Qz .u32 l)),(3,.int .i64 (m:Nat))] hL (by simp only [zFm,hs0,hs3,true_and];exact zNm) ?_
  clear hL hs0 hs3 ts
  refine Qw Qd ?_;subst hH hn
  (refine zG ?_;(repeat' ((with_reducible apply zBr)<;>intro h<;>refine zG ?_))<;>try exact .intro)
  ·rename_i h0;obtain ⟨m,rfl⟩:∃ m,n=m+1:=⟨n - 1,by omega⟩
   rw [Qam (by omega)] at ht
   simp only [Nat.add_sub_cancel] at h;rw [if_pos (by omega)] at ht
   exact ⟨m,by omega,m,by omega,ht,rfl,by congr 1;omega⟩
  ·rename_i h0
   (refine Qh (by intro g;simp only [go_sem,ren,Qe]) ?_)
   obtain ⟨m,rfl⟩:∃ m,n=m+1:=⟨n - 1,by omega⟩
   rw [Qam (by omega)] at ht
   simp only [Nat.add_sub_cancel] at h;rw [if_neg (by omega)] at ht
   rw [← ht]
  ·skip
   (refine Qh (by intro g;simp only [go_sem,ren,Qe]) ?_)
   obtain rfl:n=0:=by omega
   rw [← ht];rfl
 ·exact ⟨l.length,Nat.le_refl _,by rw [List.take_length],rfl,rfl,rfl,rfl,rfl⟩
def Ym (l:List Nat) (i:Int):Nat:=if 0≤i then l.getD i.toNat 0 else 0
theorem Qay {l:List Nat} (h:Lim l) (i:Int):Ym l i<4294967296:=by
 unfold Ym;split
 ·exact h.get _
 ·omega
theorem Km (l:List Nat) (i:Int) (hl:l.length≤17592186044416) (hL:Lim l):Pu C 292 [.sl l.length (Qz .u32 l),.int .i64 i] (.int .u64 (Ym l i:Nat)):=by
 refine zK Qd Tryz.func292 w292 Tryz.ntmps292 Tryz.results292 ?_
 (refine zG ?_;(repeat' ((with_reducible apply zBr)<;>intro h<;>refine zG ?_))<;>try exact .intro)
 ·skip
  (refine Qh (by intro g;simp only [go_sem,ren,Qe]) ?_)
  simp only [Ym];rw [if_neg (by omega)];rfl
 ·skip
  (refine Qh (by intro g;simp only [go_sem,ren,Qe]) ?_)
  simp only [Ym];rw [if_pos (by omega)]
  simp [List.getD,List.getElem?_eq_none (show l.length≤i.toNat by omega)]
 ·have:=hL.get i.toNat
  (refine zG ?_;(repeat' ((with_reducible apply zBr)<;>intro h<;>refine zG ?_))<;>try exact .intro)
  (refine Qh (by intro g;simp only [go_sem,ren,Qe]) ?_)
  simp only [Ym];rw [if_pos (by omega)]
def Xjr (ro rc:Nat) (H:Qa) (v:V) (l:List Nat) (c:Nat):Prop :=
 Qc H ro=some ⟨65,1,[v]⟩∧Qc H rc=some ⟨271,1,[.int .u64 (c:Nat)]⟩∧Bv.Own 106 1 H v l.length (Qz .u32 l)
theorem Qj4 {x:Nat}:IntKind.wrap .u32 (x:Int)=((x%4294967296:Nat):Int):=by rw [Qc4];omega
theorem Qb4 (x k:Nat):(x:Int).fdiv (2 ^ k)=((x/2 ^ k:Nat):Int):=by
 rw [Int.fdiv_eq_ediv_of_nonneg _ (Int.pow_nonneg (by decide)),Int.natCast_ediv,Int.natCast_pow];rfl
theorem Qqy {ro rc:Nat} {H:Qa} {v:V} {l:List Nat} {c x:Nat} (h:Xjr ro rc H v l c) (hx:x<18446744073709551616) (hl:l.length<17592186044416) :
  Fc C 303 [.int .u64 (x:Nat),.ptr ro 0,.ptr rc 0] H fun u H'=>u=.tup []∧Xjr ro rc H' (.ref (H.length+1) 0 (l.length+1)) (l++[x%4294967296]) (x/4294967296)∧H'.length=H.length+2∧∀ q row,q≠ro→q≠rc→(∀ off m,v≠.ref q off m)→Qc H q=some row→Qc H' q=some row:=by
 obtain ⟨h1,h2,h3⟩:=h
 have n1:=h3.not h1 (by decide)
 have n2:=h3.not h2 (by decide)
 have hne:ro≠rc:=fun e=>by subst e;rw [h1] at h2;simp at h2
 refine zL Qd Tryz.func303 w303 Tryz.ntmps303 Tryz.results303 ?_
 (apply Zo;repeat' ((with_reducible first|apply Zk|apply zBr<;>intro h)<;>try simp -implicitDefEqProofs (maxSteps:=9^7) (disch:=first|exact zDs|fail) only [go_sem,h1,h2]))
 refine Qii h3 (by simp [t106size]) (by simp [Yc]) (by simp [t106size]) (by simp [t106bytes]) (by simp only [t106bytes];omega) (Qd4 _ _) fun H' k1 k2 k3=>?_
 have e1:=k2 ro _ n1 h1
 have e2:=k2 rc _ n2 h2
 have e3:∀ z,Qc (H'.set ro z) rc=some ⟨271,1,[.int .u64 (c:Nat)]⟩:=fun z=>by rw [Qk z hne];exact e2
 (apply Zo;repeat' ((with_reducible first|apply Zk|apply zBr<;>intro h)<;>try simp -implicitDefEqProofs (maxSteps:=9^7) (disch:=first|exact zDs|fail) only [go_sem,e1,e3]))
 have e4:((x:Int).fdiv (2 ^ min 32 64))=((x/4294967296:Nat):Int):=by rw [Qb4];rfl
 have l2:ro<H'.length:=Xt e1
 have l3:rc<H'.length:=Xt e2
 have far:∀ q row z y,q≠ro→q≠rc→Qc H' q=some row→Qc ((H'.set ro z).set rc y) q=some row:=fun q row z y h1 h2 h3=>by
  rw [Qk _ (Ne.symm h2),Qk _ (Ne.symm h1)];exact h3
 refine ⟨⟨?_, ?_, ?_⟩,k3,fun q row q1 q2 q3 q4=>far q row _ _ q1 q2 (k2 q row q3 q4)⟩
 ·rw [Qk _ (Ne.symm hne),Qj e1]
 ·rw [Qj (row:=⟨271,1,[.int .u64 (c:Nat)]⟩) (e3 _),e4]
 ·rcases k1 with ⟨k,_⟩ | ⟨r,k4,k5,k6⟩
  ·cases k
  ·injection k4 with k4
   subst k4;refine .inr ⟨_,by rw [List.length_append];rfl, ?_,by simp [Yb]⟩
   rw [Qjj];refine far _ _ _ _ ?_ ?_ ?_
   ·intro e;rw [e,e1] at k5;simp at k5
   ·intro e;rw [e,e2] at k5;simp at k5
   ·rw [k5];simp only [t106size,Qz,List.map_cons,List.map_nil,Qj4]
end Go.Proofs.YtepjcbnpbcmfcaaGreat
end
