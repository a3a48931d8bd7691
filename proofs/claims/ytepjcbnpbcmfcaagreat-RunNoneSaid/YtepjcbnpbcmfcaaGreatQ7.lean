/-
  Parts Ten3, Ten4, Shp1, Shp2, Mov1, Mov2, Mov3, Mov4, Perm1, Mov5, Mov6, Mov7, Cat1, Cat3, Rep1, Pnt1, Pnt2, Pnt3, Pnt4, Ker1, Ker2, Stp1, Non1, Non2, Stp2, Non3, Non4, RowN, one behind the other: a program logic of our own, contracts of functions.
-/
import Derived.Test.YtepjcbnpbcmfcaaGreatQ6
import Derived.Test.YtepjcbnpbcmfcaaGreatRows

set_option linter.unusedVariables false
set_option linter.unusedSimpArgs false
set_option maxRecDepth 100000
set_option maxHeartbeats 8000000
section
namespace Go.Proofs.YtepjcbnpbcmfcaaGreat
open Go.Bv
theorem Xaa (t:Tn) (ht:TnOK t):Pu C 233 [tnV t] (.int .i64 (Qfn t)):=by
 have hs:=ht.s
 have he:=ht.e
 refine zK Qd Tryz.func233 w233 Tryz.ntmps233 Tryz.results233 ?_
 (refine zG ?_;(repeat' ((with_reducible apply zBr)<;>intro h<;>refine zG ?_))<;>try exact .intro)
 refine Fc.pure (Qcz t.shape (by omega)) (by simp [Qf,clo,Qb]) (fun g=>rfl) ?_
 (refine zG ?_;(repeat' ((with_reducible apply zBr)<;>intro h<;>refine zG ?_))<;>try exact .intro)
 ·skip
  (refine Qh (by intro g;simp only [go_sem,ren,Qe]) ?_)
  rw [Qfn,if_pos h]
 ·refine Pc.pure (Qg9 t.shape (by omega)) (by simp [Qf,clo,Qb]) (fun g=>rfl) ?_
  (refine zG ?_;(repeat' ((with_reducible apply zBr)<;>intro h<;>refine zG ?_))<;>try exact .intro)
  ·skip
   (refine Qh (by intro g;simp only [go_sem,ren,Qe]) ?_)
   rw [Qfn,if_neg (by omega),if_pos (by assumption)]
  ·skip
   (refine Qh (by intro g;simp only [go_sem,ren,Qe]) ?_)
   rw [Qfn,if_neg (by omega),if_neg (by omega)]
theorem Qwy (t:Tn):Pu C 109 [tnV t] (tnV t):=by
 refine zK Qd Tryz.func109 w109 Tryz.ntmps109 Tryz.results109 ?_
 (refine zG ?_;(repeat' ((with_reducible apply zBr)<;>intro h<;>refine zG ?_))<;>try exact .intro)
 exact Qh (fun g=>by simp [ren,Qe,Qn,Yd _ _ (Qt t.el)]) rfl
theorem Xot:Tryz.f247.body.all yOK=true:=by kernel_rfl
def Xaw (t:Tn):V:=.fn (.func 247) [] [.rp [.sl t.shape.length (ints t.shape),.sl t.el.length (Qx t.el)] 0]
theorem Qst (t:Tn):Pu C 194 [tnV t] (Xaw t):=by
 refine Fc.keep (Fc.sealR ?_);refine zL Qd Tryz.func194 w194 Tryz.ntmps194 Tryz.results194 ?_
 (refine zG ?_;(repeat' ((with_reducible apply zBr)<;>intro h<;>refine zG ?_))<;>try exact .intro)
 refine ⟨0,_,2,[.sl t.shape.length (ints t.shape),.sl t.el.length (Qx t.el)],rfl,by simp [Qf,clo,Qb,Qt],[],by simp,by simp, ?_⟩
 simp [sz,szL,ren,Qe,Xaw,Qbc,Qn,Yd _ _ (Qt t.el)]
def Qdo (t:Tn):List (List V):=(List.range t.el.length).map fun i=>[.int .i64 (i:Nat),Qag (t.el.getD i r0)]
theorem Qgv {t:Tn} {i:Nat} (h:i<t.el.length):(Qdo t)[i]?=some [.int .i64 (i:Nat),Qag (t.el.getD i r0)]:=by simp [Qdo,h]
theorem Qbf (t:Tn):(Qdo t).length=t.el.length:=by simp [Qdo]
theorem Qxk (t:Tn) (ht:TnOK t):Gen C 247 [.rp [.sl t.shape.length (ints t.shape),.sl t.el.length (Qx t.el)] 0] (Qdo t):=by
 have he:=ht.e
 refine Gen.of3 Qd Tryz.func247 w247 Xot rfl Tryz.ntmps247 Tryz.results247 (zLe rfl) (fun bs hb=>by
  simp only [Qdo,List.mem_map,List.mem_range] at hb;obtain ⟨i,_,rfl⟩:=hb;simp [Qf,clo,Xk]) ?_
 intro G l J hW
 (refine zG ?_;(repeat' ((with_reducible apply zBr)<;>intro h<;>refine zG ?_))<;>try exact .intro)
 refine Qa4 (fun n ts H=>∃ (i:Nat),(i≤t.el.length)∧(n=t.el.length - i)∧(H.length=i)∧ts.length=19∧nth ts 0=.fn (.yield l) [] []∧nth ts 6=.sl t.el.length (Qx t.el)∧nth ts 7=.int .i64 (t.el.length:Nat)∧nth ts 8=.int .i64 (i:Nat)) ?_ (n:=t.el.length) ?_
 ·skip
  rintro n ts H ⟨i,hi,hn,hH,hL,hs0,hs6,hs7,hs8⟩;refine Qil [(0,.fn (.yield l) [] []),(6,.sl t.el.length (Qx t.el)),(7,.int .i64 (t.el.length:Nat)),(8,.int .i64 (i:Nat))] hL (by simp only [zFm,hs0,hs6,hs7,hs8,true_and];exact zNm) ?_
  clear hL hs0 hs6 hs7 hs8 ts
  refine hW _ _ _ _ ?_;by_cases hcase:i<t.el.length
  ·skip
   (refine zG ?_;(repeat' ((with_reducible apply zBr)<;>intro h<;>refine zG ?_))<;>try exact .intro)
   refine ⟨_,_,_,19,[(0,.fn (.yield l) [] []),(3,.int .i64 (i:Nat)),(4,.rp [.bool (t.el.getD i r0).neg,NA (t.el.getD i r0).num,NA (t.el.getD i r0).den] 0),(6,.sl t.el.length (Qx t.el)),(7,.int .i64 (t.el.length:Nat)),(8,.int .i64 (i:Nat))],rfl, ?_,by simp [Zr], ?_, ?_⟩
   ·simp [Qf,clo,Qp]
   ·simp only [zFm,Kk,List.not_mem_nil,false_implies,implies_true,and_true];refine ⟨⟨?_, ?_⟩,⟨?_, ?_⟩,⟨?_, ?_⟩,⟨?_, ?_⟩,⟨?_, ?_⟩,⟨?_, ?_⟩⟩
    all_goals first | rfl | (simp [clo,Qf,Qt,Xs];done) | skip
    ·show sz (List.length H) _ (.ptr (List.length H) 0)=_
     rw [sz,if_pos rfl];rfl
    ·exact Xbr _ _ (.sl t.el.length (Qx t.el)) (Qt _)
   ·skip
    (refine zG ?_;(repeat' ((with_reducible apply zBr)<;>intro h<;>refine zG ?_))<;>try exact .intro)
    rw [hH,Qbf];refine ⟨Qgv hcase,⟨t.el.length - (i+1),by omega,i+1,by omega,rfl,rfl,rfl⟩,.inr trivial,.inr ?_⟩
    rw [List.length_replicate];omega
  ·skip
   (refine zG ?_;(repeat' ((with_reducible apply zBr)<;>intro h<;>refine zG ?_))<;>try exact .intro)
   rw [Qbf];exact ⟨.inl trivial,.inl (by omega)⟩
 ·exact ⟨0,by omega,by omega,rfl,rfl,rfl,rfl,rfl,rfl⟩
theorem Qmu (t:Tn) (ht:TnOK t):Pu C 162 [tnV t] (.int .i64 (Qhw t)):=by
 have hs:=ht.s
 have he:=ht.e
 have hv:Xaw t=.fn (.func 247) [] [.rp [.sl t.shape.length (ints t.shape),.sl t.el.length (Qx t.el)] 0]:=rfl
 refine zK Qd Tryz.func162 w162 Tryz.ntmps162 Tryz.results162 ?_
 (refine zG ?_;(repeat' ((with_reducible apply zBr)<;>intro h<;>refine zG ?_))<;>try exact .intro)
 refine Fc.pure (Xaa t ht) (by simp [Qf,clo,Qb,Qt]) (fun g=>rfl) ?_
 (refine zG ?_;(repeat' ((with_reducible apply zBr)<;>intro h<;>refine zG ?_))<;>try exact .intro)
 ·skip
  (refine Qh (by intro g;simp only [go_sem,ren,Qe]) ?_)
  rw [Qhw,if_pos h]
 ·have hf:Qfn t=0:=by omega
  have hmt:Qhw t=if t.el.all okR then 0 else 6:=by rw [Qhw,hf,if_neg (by decide)]
  refine Fc.pure (Qwy t) (by simp [Qf,clo,Qb,Qt]) (fun g=>by simp [tnV,ren,Qe,Qn,Yd _ _ (Qt t.el)]) ?_
  (refine zG ?_;(repeat' ((with_reducible apply zBr)<;>intro h<;>refine zG ?_))<;>try exact .intro)
  refine Fc.pure (Qst t) (by simp [Qf,clo,Qb,Qt]) (fun g=>by simp [Xaw,ren,Qe,Qn,Yd _ _ (Qt t.el)]) ?_
  (apply Zo;repeat' ((with_reducible first|apply Zk|apply zBr<;>intro h)<;>try simp -implicitDefEqProofs (maxSteps:=9^7) (disch:=first|exact zDs|fail) only [go_sem,hv]))
  refine Qeg (g:=247) (lb:=[.rp [.sl t.shape.length (ints t.shape),.sl t.el.length (Qx t.el)] 0]) (xs:=Qdo t) (by simp -implicitDefEqProofs (maxSteps:=9^7) (disch:=first | omega | (simp only [Qbe];omega)) only [go_sem]) (by simp [Qf,clo,Qb,Qt]) (Qxk t ht) (fun bs hb=>by
   simp only [Qdo,List.mem_map,List.mem_range] at hb;obtain ⟨i,_,rfl⟩:=hb
   rfl) (fun k H=>(∀ j,j<k→okR (t.el.getD j r0)=true)∧Qc H 1=some ⟨73,1,[.int .i64 0]⟩) ⟨fun j hj=>by omega,rfl⟩ ?_ ?_
  ·rintro k us H hk ⟨hI,h1⟩ l
   have hkl:k<t.el.length:=by
    have:=(List.getElem?_eq_some_iff.1 hk).1
    rwa [Qbf] at this
   rw [Qgv hkl] at hk;injection hk with hk
   subst hk
   have h1':∀ X,Qc (H++X) 1=some ⟨73,1,[.int .i64 0]⟩:=fun X=>Ql h1 X
   (refine Qw Qd ?_;simp -implicitDefEqProofs (maxSteps:=9^7) (disch:=first | omega | (simp only [Qbe];omega)) only [go_sem,Qip])
   (refine Qw Qd ?_;simp -implicitDefEqProofs (maxSteps:=9^7) (disch:=first | omega | (simp only [Qbe];omega)) only [go_sem,h1'])
   refine Fc.pure (Xdi (t.el.getD k r0) (ht.get hkl)) (by simp [Qf,clo,Qp]) (fun g=>rfl) ?_
   cases hb:okR (t.el.getD k r0) with
   | true =>
    rw [if_pos rfl]
    (apply Zo;repeat' ((with_reducible first|apply Zk|apply zBr<;>intro h)<;>try simp -implicitDefEqProofs (maxSteps:=9^7) (disch:=first|exact zDs|fail) only [go_sem,h1',Qcj]))
    exact Qc3 hI hb
   | false =>
    rw [if_neg (by decide)]
    have hst:∀ X z,Qc ((H++X).set 1 (some z)) 1=some z:=fun X z=>Qj (h1' X)
    (apply Zo;repeat' ((with_reducible first|apply Zk|apply zBr<;>intro h)<;>try simp -implicitDefEqProofs (maxSteps:=9^7) (disch:=first|exact zDs|fail) only [go_sem,h1',hst,Qcj]))
    (refine Qh (by intro g;simp only [go_sem,ren,Qe]) ?_)
    rw [hmt,if_neg fun hh=>?_]
    have:=(Qik r0).1 hh k hkl
    rw [hb] at this;cases this
  ·rintro H ⟨hI,h1⟩;rw [Qbf] at hI
   have hst:∀ z,Qc (H.set 1 (some z)) 1=some z:=fun z=>Qj h1
   (apply Zo;repeat' ((with_reducible first|apply Zk|apply zBr<;>intro h)<;>try simp -implicitDefEqProofs (maxSteps:=9^7) (disch:=first|exact zDs|fail) only [go_sem,h1,hst]))
   (refine Qh (by intro g;simp only [go_sem,ren,Qe]) ?_)
   rw [hmt,if_pos ((Qik r0).2 hI)]
def emptyT:Tn:=⟨[],[]⟩
theorem Qyo (xs:List Raw) (x:Raw):Qx (xs++[x])=Qx xs++[.bool x.neg,NA x.num,NA x.den]:=by rw [Qx,Qb6];rfl
theorem Qtp (xs:List Raw):(Qx xs).all Yc=true:=by
 induction xs with
 | nil=>rfl
 | cons x xs ih=>simp only [Qx,Qev,List.all_cons] at ih ⊢;rw [ih];rfl
theorem Xkr (r off:Nat) (i:Int) (H:Qa) (K:V→Prop):Qlk C.ty (C.ty 191) (.ptr r off) (.int .i64 i) H K=((Qc H r).isSome=true∧0≤i∧i<2∧K (.ptr r (off+i.toNat))):=by
 simp only [Qlk,Xr,show (C.ty 191).sl=none from rfl,t191arr,t3ok,t3size,true_and,Nat.mul_one]
 rfl
attribute [go_sem] Xkr
end Go.Proofs.YtepjcbnpbcmfcaaGreat
end
section
namespace Go.Proofs.YtepjcbnpbcmfcaaGreat
open Go.Bv
theorem Qnf {t:Tn} (h:Qhw t=0):Qfn t=0∧Xn t.shape=0∧(t.el.length:Int)=Xg t.shape:=by
 have hf:Qfn t=0:=Classical.byContradiction fun hn=>by rw [Qhw,if_pos hn] at h;exact hn h
 have hm:Xn t.shape=0:=Classical.byContradiction fun hn=>by rw [Qfn,if_pos hn] at hf;exact hn hf
 refine ⟨hf,hm, ?_⟩;rw [Qfn,if_neg (by omega)] at hf
 split at hf
 ·cases hf
 ·rename_i h;rw [Jp,if_pos hm] at h;omega
def Qmi (p:Tn) (e:Int):Tn:=if e≠0 then emptyT else p
theorem Xi5 {p:Tn} {e:Int} (h:e≠0):Qmi p e=emptyT:=if_pos h
theorem Xi4 {p:Tn} {e:Int} (h:e=0):Qmi p e=p:=if_neg (by omega)
def Qek (ts:List Tn):List V:=ts.flatMap fun t=>[.sl t.shape.length (ints t.shape),.sl t.el.length (Qx t.el)]
def t0n:Tn:=⟨[],[]⟩
@[go_sem] theorem Xoz (ts:List Tn):(Qek ts).length=ts.length*2:=by
 induction ts with
 | nil=>rfl
 | cons t ts ih=>simp only [Qek,List.flatMap_cons,List.length_append,List.length_cons,List.length_nil] at ih ⊢;rw [ih];omega
theorem Qdw (t:Tn) (ts:List Tn):Qek (t::ts)=.sl t.shape.length (ints t.shape)::.sl t.el.length (Qx t.el)::Qek ts:=rfl
theorem Qov:∀ (ts:List Tn) (i:Nat),i<ts.length→nth (Qek ts) (i*2)=.sl (ts.getD i t0n).shape.length (ints (ts.getD i t0n).shape)∧nth (Qek ts) (i*2+1)=.sl (ts.getD i t0n).el.length (Qx (ts.getD i t0n).el)
 | [],i,h=>by simp at h
 | t::ts,0,_=>⟨rfl,rfl⟩
 | t::ts,i+1,h=>by
  have:=Qov ts i (by simpa using h)
  rw [Qdw,show (i+1)*2=i*2+1+1 by omega]
  simpa [nth] using this
@[go_sem] theorem Xo7 (ts:List Tn) (i:Nat) (h:i<ts.length):nth (Qek ts) (i*2)=.sl (ts.getD i t0n).shape.length (ints (ts.getD i t0n).shape):=(Qov ts i h).1
@[go_sem] theorem Xo6 (ts:List Tn) (i:Nat) (h:i<ts.length):nth (Qek ts) (i*2+1)=.sl (ts.getD i t0n).el.length (Qx (ts.getD i t0n).el):=(Qov ts i h).2
theorem Qls (ts:List Tn):Qf (Qek ts)=true:=by
 induction ts with
 | nil=>rfl
 | cons t ts ih=>rw [Qdw];simp [Qf,clo,Qb,Qt,ih]
theorem Xh7 (k:Nat) (hk:k<4294967296):(BitVec.ofInt 64 (k:Int) &&& BitVec.ofInt 64 4294967295).toNat=k:=by
 rw [BitVec.toNat_and]
 have e1:(BitVec.ofInt 64 (k:Int)).toNat=k:=(show (BitVec.ofNat 64 k).toNat=k by rw [BitVec.toNat_ofNat];omega)
 rw [e1,show (BitVec.ofInt 64 4294967295).toNat=2 ^ 32 - 1 from rfl,Nat.and_two_pow_sub_one_eq_mod];omega
theorem Xdh (x:Int) (h:x=0):(BitVec.ofInt 64 x &&& BitVec.ofInt 64 4294967295).toNat=0:=by subst h;decide
theorem Xkm (k:Nat) (hk:k<18446744073709551616):IntKind.u64.wrap (k:Int)=k:=by
 have h:=Int.emod_eq_of_lt (a:=(k:Int)) (b:=18446744073709551616) (by omega) (by omega)
 exact h
theorem Xj3 (y A B:Nat) (hy:y<4294967296) (hA:A=y) (hB:B=1):IntKind.u64.wrap (IntKind.u64.wrap (Int.fdiv 1 (2 ^ min 32 64)*(A:Int))+(IntKind.u64.wrap ((B:Int)*(A:Int))).fdiv (2 ^ min 32 64))=0:=by
 subst hA hB;rw [show (2:Int) ^ min 32 64=4294967296 from rfl,show Int.fdiv 1 4294967296=0 from rfl,Int.zero_mul,show ((1:Nat):Int)*(A:Int)=(A:Nat) by omega,Xkm A (by omega),Int.fdiv_eq_ediv_of_nonneg _ (by decide),show (A:Int)/4294967296=0 by omega]
 rfl
theorem Xo9 (y A B M:Nat) (hy:y<4294967296) (hA:A=y) (hB:B=1) (hM:M=0):IntKind.u64.wrap (IntKind.u64.wrap (IntKind.u64.wrap (Int.fdiv 1 (2 ^ min 32 64)*(y:Int).fdiv (2 ^ min 32 64))+(IntKind.u64.wrap (IntKind.u64.wrap (Int.fdiv 1 (2 ^ min 32 64)*(A:Int))+(IntKind.u64.wrap ((B:Int)*(A:Int))).fdiv (2 ^ min 32 64))).fdiv (2 ^ min 32 64))+(IntKind.u64.wrap ((M:Int)+IntKind.u64.wrap ((B:Int)*(y:Int).fdiv (2 ^ min 32 64)))).fdiv (2 ^ min 32 64))=0:=by
 rw [Xj3 y A B hy hA hB];subst hA hB hM;rw [show (2:Int) ^ min 32 64=4294967296 from rfl,show Int.fdiv 1 4294967296=0 from rfl,Int.zero_mul,show (A:Int).fdiv 4294967296=0 by rw [Int.fdiv_eq_ediv_of_nonneg _ (by decide)];omega]
 rfl
theorem Qzm (y:Nat) (hy:y<4294967296):Pu C 301 [.int .u64 1,.int .u64 (y:Nat)] (.tup [.int .u64 0,.int .u64 (y:Nat)]):=by
 have a1:=Xh7 y hy
 have b1:(BitVec.ofInt 64 1 &&& BitVec.ofInt 64 4294967295).toNat=1:=by decide
 refine zK Qd Tryz.func301 w301 Tryz.ntmps301 Tryz.results301 ?_
 (refine zG ?_;(repeat' ((with_reducible apply zBr)<;>intro h<;>refine zG ?_))<;>try exact .intro)
 (refine Qh (by intro g;simp only [go_sem,ren,Qe]) ?_)
 rw [Int.one_mul];exact congrArg (fun z=>V.tup [V.int .u64 z,V.int .u64 (y:Int)]) (Xo9 y _ _ _ hy a1 b1 (Xdh _ (Xj3 y _ _ hy a1 b1)))
theorem mul_one (y:Nat) (hy:y<4294967296):Pu C 282 [.int .u64 1,.int .u64 (y:Nat)] (.tup [.int .u64 0,.int .u64 (y:Nat)]):=by
 have m:=Qzm y hy
 refine zK Qd Tryz.func282 w282 Tryz.ntmps282 Tryz.results282 ?_
 (refine zG ?_;(repeat' ((with_reducible apply zBr)<;>intro h<;>refine zG ?_))<;>try exact .intro)
 refine Fc.pure (m) (by simp [go_sem,Qf,clo,Qb,Qi]) (by intro g;simp only [go_sem,ren,Qe]) ?_
 (refine zG ?_;(repeat' ((with_reducible apply zBr)<;>intro h<;>refine zG ?_))<;>try exact .intro)
 (refine Qh (by intro g;simp only [go_sem,ren,Qe]) ?_)
 rfl
theorem Qk1 {e s:Nat} {H:Qa} {w:V} {n:Nat} {cs:List V} (hw:Bv.Own e s H w n cs):kn w=true∧cellsOf w=[w]∧Yc w=true:=by
 rcases hw with ⟨rfl,_⟩ | ⟨r,rfl,_⟩<;>exact ⟨rfl,rfl,rfl⟩
theorem Qyz {e s e' s':Nat} {H:Qa} {u v:V} {n n':Nat} {cs cs':List V} (hu:Bv.Own e s H u n cs) (hv:Bv.Own e' s' H v n' cs') (hne:e≠e'):∀ q off n m,u=.ref q off n→v≠.ref q 0 m:=by
 rintro q off k m rfl rfl;rcases hu with ⟨h,_⟩ | ⟨r,h,hr,_⟩
 ·cases h
 injection h with h1
 subst h1;rcases hv with ⟨h,_⟩ | ⟨r',h,hr',_⟩
 ·cases h
 injection h with h1
 subst h1;rw [hr] at hr';injection hr' with hr'
 injection hr' with h1
 exact hne h1
theorem Qnm {l:List Raw} {i:Nat} (h:i<l.length):l.getD i r0∈l:=by
 simp only [List.getD,List.getElem?_eq_getElem h,Option.getD_some];exact List.getElem_mem _
theorem Qwv {e s:Nat} {H:Qa} {v:V} {n:Nat} {cs:List V} (h:Bv.Own e s H v n cs) (hc:Qf cs=true):Bor H v (.sl n cs):=h.bor' hc
theorem Qpw {H:Qa} {p:Tn} {e k:Int} (h:e=k) (hk:k≠0):Bor H (.tup [.agg [.nil,.nil],.int .i64 k]) (.tup [tnV (Qmi p e),.int .i64 e]):=by
 rw [Xi5 (by omega),h]
 exact Bor.tupL ⟨Bor.aggL ⟨.nil _,.nil _,trivial⟩,.self rfl,trivial⟩
theorem Xcq {y:Ty} {e e' s' k:Nat} {v:V} {H:Qa} {xs:List Raw} {r:Rq} {K:V→Qa→Prop} (h:Bv.Own e 3 H v k (Qx xs)) (hk:k=xs.length) (hy:y.size=3) (hb:y.bytes=56) (hl:xs.length≤1000000000)
  (hK:∀ H',Bv.Own e 3 H' (.ref (H.length+1) 0 (k+1)) (k+1) (Qx (xs++[Yl r]))→Fr v H H'→H'.length=H.length+2→K (.ref (H.length+1) 0 (k+1)) H') :
  Qaa y e v (.ref H.length 0 1) (H++[some ⟨e',s',[.bool r.neg,Xy r.num,Xy r.den]⟩]) K:=by
 rw [← hy] at h;refine Qii h (by rw [hy];rfl) (by simp [Yc,Xy,NA]) (by omega) (by omega) (by rw [hb];omega) (Qtp _) fun H' k1 k2 k3=>?_
 rw [hy] at k1;exact hK H' (by rw [Qyo];exact k1) k2 k3
theorem Qf5 (t:Tn) (e:Int):clo (.tup [tnV t,.int .i64 e])=true:=by simp [clo,Qf,Qpk]
def Qop (a b:List Raw):V:=.fn (.func 268) [] [.rp [.sl a.length (Qx a)] 0,.rp [.sl b.length (Qx b)] 0]
theorem Qqz (a b:List Raw):Pu C 228 [.sl a.length (Qx a),.sl b.length (Qx b)] (Qop a b):=by
 refine Fc.keep (Fc.sealR (Fc.sealR ?_));refine zL Qd Tryz.func228 w228 Tryz.ntmps228 Tryz.results228 ?_
 (refine zG ?_;(repeat' ((with_reducible apply zBr)<;>intro h<;>refine zG ?_))<;>try exact .intro)
 refine ⟨0,_,1,[.sl a.length (Qx a)],rfl,by simp [Qf,clo,Qt],1,_,1,[.sl b.length (Qx b)],rfl,by simp [Qf,clo,Qt],[],by simp,by simp, ?_⟩
 simp [sz,szL,ren,Qe,Qop,Qbc,Yr _ _ _ (Qt a),Yd _ _ (Qt a),Yr _ _ _ (Qt b),Yd _ _ (Qt b)]
theorem Xor:Tryz.f268.body.all yOK=true:=by kernel_rfl
def Qe9 (a b:List Raw):List (List V):=(List.range (min a.length b.length)).map fun i=>[Qag (a.getD i r0),Qag (b.getD i r0)]
theorem Qkx {a b:List Raw} {i:Nat} (h:i<min a.length b.length):(Qe9 a b)[i]?=some [Qag (a.getD i r0),Qag (b.getD i r0)]:=by simp [Qe9,h]
theorem Qen (a b:List Raw):(Qe9 a b).length=min a.length b.length:=by simp [Qe9]
theorem Qtu (a b:List Raw) (ha:a.length≤1000000000) (hb:b.length≤1000000000):Gen C 268 [.rp [.sl a.length (Qx a)] 0,.rp [.sl b.length (Qx b)] 0] (Qe9 a b):=by
 refine Gen.of3 Qd Tryz.func268 w268 Xor rfl Tryz.ntmps268 Tryz.results268 (zLe rfl) ?_ ?_
 ·intro bs hb;simp only [Qe9,List.mem_map,List.mem_range] at hb;obtain ⟨i,_,rfl⟩:=hb;simp [Qf,Xk]
 intro G l J hW
 (refine zG ?_;(repeat' ((with_reducible apply zBr)<;>intro h<;>refine zG ?_))<;>try exact .intro)
 refine Qa4 (fun n ts H=>∃ (i:Nat),(i≤min a.length b.length)∧(n=min a.length b.length - i)∧(H.length=i)∧ts.length=25∧nth ts 0=.fn (.yield l) [] []∧nth ts 1=.rp [.sl a.length (Qx a)] 0∧nth ts 2=.rp [.sl b.length (Qx b)] 0∧nth ts 9=.int .i64 (min a.length b.length:Nat)∧nth ts 10=.int .i64 (i:Nat)) ?_ (n:=min a.length b.length) ?_
 ·skip
  rintro n ts H ⟨i,hi,hn,hH,hL,hs0,hs1,hs2,hs9,hs10⟩;refine Qil [(0,.fn (.yield l) [] []),(1,.rp [.sl a.length (Qx a)] 0),(2,.rp [.sl b.length (Qx b)] 0),(9,.int .i64 (min a.length b.length:Nat)),(10,.int .i64 (i:Nat))] hL (by simp only [zFm,hs0,hs1,hs2,hs9,hs10,true_and];exact zNm) ?_
  clear hL hs0 hs1 hs2 hs9 hs10 ts
  refine hW _ _ _ _ ?_;by_cases hcase:i<min a.length b.length
  ·have ha1:i<a.length:=by omega
   have hb1:i<b.length:=by omega
   (refine zG ?_;(repeat' ((with_reducible apply zBr)<;>intro h<;>refine zG ?_))<;>try exact .intro)
   rw [hH,Qen];refine ⟨Qkx hcase,⟨min a.length b.length - (i+1),by omega,i+1,by omega,rfl,rfl,rfl⟩,.inr trivial,.inr ?_⟩
   rw [List.length_replicate];omega
  ·skip
   (refine zG ?_;(repeat' ((with_reducible apply zBr)<;>intro h<;>refine zG ?_))<;>try exact .intro)
   rw [Qen];exact ⟨.inl trivial,.inl (by omega)⟩
 ·refine ⟨0,by omega,by omega,rfl,rfl,rfl,rfl,rfl, ?_,rfl⟩
  simp -implicitDefEqProofs (maxSteps:=9^7) (disch:=first | omega | (simp only [Qbe];omega)) only [go_sem]
  congr 1
  split<;>omega
def Qde (F:Raw→Raw→Rq × Int) (a b:List Raw):Nat→Int
 | 0=>0
 | k+1=>if Qde F a b k≠0 then Qde F a b k else (F (a.getD k r0) (b.getD k r0)).2
theorem Qlm {F:Raw→Raw→Rq × Int} {a b:List Raw} {k:Nat} (h:Qde F a b k≠0):∀ j,Qde F a b (k+j)=Qde F a b k
 | 0=>rfl
 | j+1=>by
  have ih:=Qlm h j
  rw [← Nat.add_assoc,Qde,if_pos (by rw [ih];exact h),ih]
theorem Xey {F:Raw→Raw→Rq × Int} {a b:List Raw} {k n:Nat} (h:Qde F a b k≠0) (hn:k≤n):Qde F a b n=Qde F a b k:=by
 have:=Qlm h (n - k)
 rwa [show k+(n - k)=n by omega] at this
def Qa8 (F:Raw→Raw→Rq × Int) (x y:Tn):Int:=if Qhw x≠0 then Qhw x else if Qhw y≠0 then Qhw y else if x.shape≠y.shape then 13 else Qde F x.el y.el x.el.length
def Qjs (F:Raw→Raw→Rq × Int) (x y:Tn):Tn:=⟨x.shape,((List.range x.el.length).map fun i=>(F (x.el.getD i r0) (y.el.getD i r0)).1).map Yl⟩
theorem Qta {g:Nat→Rq} {n i:Nat} (h:i<n):(((List.range n).map g).map Yl).take i++[Yl (g i)]=(((List.range n).map g).map Yl).take (i+1):=by
 rw [List.take_add_one];simp [h]
theorem Qys {y:Ty} {e e' s' k:Nat} {v:V} {H:Qa} {c:Option Row} {xs:List Raw} {r:Rq} {K:V→Qa→Prop} (h:Bv.Own e 3 H v k (Qx xs)) (hk:k=xs.length) (hy:y.size=3) (hb:y.bytes=56) (hl:xs.length≤1000000000)
  (hK:∀ v' H',Bv.Own e 3 H' v' (k+1) (Qx (xs++[Yl r]))→Fr v (H++[c]) H'→kn v'=true∧cellsOf v'=[v']∧Yc v'=true→K v' H') :
  Qaa y e v (.ref (H.length+1) 0 1) (H++[c,some ⟨e',s',[.bool r.neg,Xy r.num,Xy r.den]⟩]) K:=by
 rw [show H++[c,some (⟨e',s',[.bool r.neg,Xy r.num,Xy r.den]⟩:Row)]=(H++[c])++[some ⟨e',s',[.bool r.neg,Xy r.num,Xy r.den]⟩] by simp,show H.length+1=(H++[c]).length by simp]
 exact Xcq (h.keep [c]) hk hy hb hl fun H' h1 h2 h3=>hK _ H' h1 h2 ⟨rfl,rfl,rfl⟩
theorem Qny (x y:Tn) (hx:TnOK x) (hy:TnOK y) (f:Nat) (caps:List V) (hc:Qf caps=true) (F:Raw→Raw→Rq × Int) (hF:∀ a∈x.el,∀ b∈y.el,Pu C f (Qag a::Qag b::caps) (.tup [Qe3 (F a b).1,.int .i64 (F a b).2])) :
  Pu C 153 [tnV x,tnV y,.fn (.func f) [] caps] (.tup [tnV (Qmi (Qjs F x y) (Qa8 F x y)),.int .i64 (Qa8 F x y)]):=by
 have tx:=Qmu x hx
 have ty:=Qmu y hy
 have hxs:=hx.s
 have hxe:=hx.e
 have hye:=hy.e
 refine Pu.ofBor (Qf5 _ _) ?_;refine zL Qd Tryz.func153 w153 Tryz.ntmps153 Tryz.results153 ?_
 (refine zG ?_;(repeat' ((with_reducible apply zBr)<;>intro h<;>refine zG ?_))<;>try exact .intro)
 refine Qg (fun n ts H=>∃ (k:Nat),(k≤2)∧(n=2 - k)∧(Qc H 0=some ⟨40,2,[.sl x.shape.length (ints x.shape),.sl x.el.length (Qx x.el)]⟩)∧(Qc H 1=some ⟨40,2,[.sl y.shape.length (ints y.shape),.sl y.el.length (Qx y.el)]⟩)∧(Qc H 2=some ⟨176,1,[.fn (.func f) [] caps]⟩)∧(Qc H 3=some ⟨40,2,[.nil,.nil]⟩)∧(Qc H 4=some ⟨73,1,[.int .i64 0]⟩)∧(Qc H 5=some ⟨40,2,[.sl x.shape.length (ints x.shape),.sl x.el.length (Qx x.el),.sl y.shape.length (ints y.shape),.sl y.el.length (Qx y.el)]⟩)∧((0<k→Qhw x=0))∧((1<k→Qhw y=0))∧ts.length=67∧nth ts 3=.ptr 0 0∧nth ts 4=.ptr 1 0∧nth ts 5=.ptr 2 0∧nth ts 6=.ptr 3 0∧nth ts 7=.ptr 4 0∧nth ts 18=.ref 5 0 2∧nth ts 19=.int .i64 2∧nth ts 20=.int .i64 (k:Nat)) ?_ (n:=2) ?_
 ·skip
  rintro n ts H ⟨k,hk,hn,h0,h1,h2,h3,h4,h5,hm0,hm1,hL,hs3,hs4,hs5,hs6,hs7,hs18,hs19,hs20⟩;refine Qv [(3,.ptr 0 0),(4,.ptr 1 0),(5,.ptr 2 0),(6,.ptr 3 0),(7,.ptr 4 0),(18,.ref 5 0 2),(19,.int .i64 2),(20,.int .i64 (k:Nat))] hL (by simp only [zFm,hs3,hs4,hs5,hs6,hs7,hs18,hs19,hs20,true_and];exact zNm) ?_
  clear hL hs3 hs4 hs5 hs6 hs7 hs18 hs19 hs20 ts
  refine Qw Qd ?_
  have hk':k=0∨k=1∨k=2:=by omega
  have hst:∀ (x:Row),Qc (H++[some x]) H.length=some x:=fun x=>Xx _ _
  have hst2:∀ (x y:Row),Qc ((H++[some x]).set H.length (some y)) H.length=some y:=fun x y=>Qj (hst x)
  have hL:=Xt h5
  have mst2:∀ (x y:Option Row),(H++[x]).set H.length y=H++[y]:=fun x y=>by rw [List.set_append_right _ _ (Nat.le_refl _),Nat.sub_self];rfl
  have a3:∀ Y,Qc (H++Y) 3=some ⟨40,2,[.nil,.nil]⟩:=fun Y=>Ql h3 Y
  have a4:∀ Y,Qc (H++Y) 4=some ⟨73,1,[.int .i64 0]⟩:=fun Y=>Ql h4 Y
  have b4:∀ Y z,Qc ((H++Y).set 3 z) 4=some ⟨73,1,[.int .i64 0]⟩:=fun Y z=>by rw [Qk _ (by decide)];exact a4 Y
  have b3:∀ Y row z,Qc (((H++Y).set 3 (some row)).set 4 z) 3=some row:=fun Y row z=>by rw [Qk _ (by decide)];exact Qj (a3 Y)
  have b44:∀ Y row z,Qc (((H++Y).set 3 z).set 4 (some row)) 4=some row:=fun Y row z=>Qj (b4 Y z)
  rcases hk' with rfl | rfl | rfl
  ·by_cases hm:Qhw x=0
   ·rw [hm] at tx
    (apply Zo;repeat' ((with_reducible first|apply Zk|apply zBr<;>intro h)<;>try simp -implicitDefEqProofs (maxSteps:=9^7) (disch:=first|exact zDs|fail) only [go_sem,h5,hst,mst2]))
    refine Fc.pure tx (by simp [Qf,clo,Qb,Qt]) (fun g=>rfl) ?_
    (refine zG ?_;(repeat' ((with_reducible apply zBr)<;>intro h<;>refine zG ?_))<;>try exact .intro)
    exact ⟨1,by omega,1,by omega,rfl,Ql h0 _,Ql h1 _,Ql h2 _,Ql h3 _,Ql h4 _,Ql h5 _,fun _=>hm,fun h=>by omega,(by (repeat' apply And.intro)<;>(first | rfl | omega | (congr 1;omega) | assumption | (congr 1;assumption)))⟩
   ·skip
    (apply Zo;repeat' ((with_reducible first|apply Zk|apply zBr<;>intro h)<;>try simp -implicitDefEqProofs (maxSteps:=9^7) (disch:=first|exact zDs|fail) only [go_sem,h5,hst,mst2]))
    refine Fc.pure tx (by simp [Qf,clo,Qb,Qt]) (fun g=>rfl) ?_
    (apply Zo;repeat' ((with_reducible first|apply Zk|apply zBr<;>intro h)<;>try simp -implicitDefEqProofs (maxSteps:=9^7) (disch:=first|exact zDs|fail) only [go_sem,a3,a4,b3,b4,b44]))
    exact Qpw (by rw [Qa8,if_pos hm]) hm
  ·have hm0:=hm0 (by omega)
   by_cases hm:Qhw y=0
   ·rw [hm] at ty
    (apply Zo;repeat' ((with_reducible first|apply Zk|apply zBr<;>intro h)<;>try simp -implicitDefEqProofs (maxSteps:=9^7) (disch:=first|exact zDs|fail) only [go_sem,h5,hst,mst2]))
    refine Fc.pure ty (by simp [Qf,clo,Qb,Qt]) (fun g=>rfl) ?_
    (refine zG ?_;(repeat' ((with_reducible apply zBr)<;>intro h<;>refine zG ?_))<;>try exact .intro)
    exact ⟨0,by omega,2,by omega,rfl,Ql h0 _,Ql h1 _,Ql h2 _,Ql h3 _,Ql h4 _,Ql h5 _,fun _=>hm0,fun _=>hm,(by (repeat' apply And.intro)<;>(first | rfl | omega | (congr 1;omega) | assumption | (congr 1;assumption)))⟩
   ·skip
    (apply Zo;repeat' ((with_reducible first|apply Zk|apply zBr<;>intro h)<;>try simp -implicitDefEqProofs (maxSteps:=9^7) (disch:=first|exact zDs|fail) only [go_sem,h5,hst,mst2]))
    refine Fc.pure ty (by simp [Qf,clo,Qb,Qt]) (fun g=>rfl) ?_
    (apply Zo;repeat' ((with_reducible first|apply Zk|apply zBr<;>intro h)<;>try simp -implicitDefEqProofs (maxSteps:=9^7) (disch:=first|exact zDs|fail) only [go_sem,a3,a4,b3,b4,b44]))
    exact Qpw (by rw [Qa8,if_neg (by omega),if_pos hm]) hm
  ·have hm0:=hm0 (by omega)
   have hm1:=hm1 (by omega)
   have sm:=Qjb x.shape y.shape (by omega)
   by_cases hsh:x.shape=y.shape
   case neg =>
    rw [decide_eq_false hsh] at sm
    (apply Zo;repeat' ((with_reducible first|apply Zk|apply zBr<;>intro h)<;>try simp -implicitDefEqProofs (maxSteps:=9^7) (disch:=first|exact zDs|fail) only [go_sem,h0,h1]))
    refine Fc.pure sm (by simp [Qf,clo,Qb]) (fun g=>rfl) ?_
    have c4:∀ z,Qc (H.set 3 z) 4=some ⟨73,1,[.int .i64 0]⟩:=fun z=>by rw [Qk _ (by decide)];exact h4
    have c3:∀ row z,Qc ((H.set 3 (some row)).set 4 z) 3=some row:=fun row z=>by rw [Qk _ (by decide)];exact Qj h3
    have c44:∀ row z,Qc ((H.set 3 z).set 4 (some row)) 4=some row:=fun row z=>Qj (c4 z)
    (apply Zo;repeat' ((with_reducible first|apply Zk|apply zBr<;>intro h)<;>try simp -implicitDefEqProofs (maxSteps:=9^7) (disch:=first|exact zDs|fail) only [go_sem,h3,h4,c3,c4,c44]))
    exact Qpw (by rw [Qa8,if_neg (by omega),if_neg (by omega),if_pos hsh]) (by decide)
   rw [decide_eq_true hsh] at sm
   have eB:Qa8 F x y=Qde F x.el y.el x.el.length:=by rw [Qa8,if_neg (by omega),if_neg (by omega),if_neg (by simpa using hsh)]
   rw [eB]
   have hel:x.el.length=y.el.length:=by
    have e1:=(Qnf hm0).2.2
    have e2:=(Qnf hm1).2.2
    rw [hsh] at e1;omega
   clear hst hst2 mst2 a3 a4 b4 b3 b44
   (apply Zo;repeat' ((with_reducible first|apply Zk|apply zBr<;>intro h)<;>try simp -implicitDefEqProofs (maxSteps:=9^7) (disch:=first|exact zDs|fail) only [go_sem,h0,h1]))
   refine Fc.pure sm (by simp [Qf,clo,Qb]) (fun g=>rfl) ?_
   (apply Zo;repeat' ((with_reducible first|apply Zk|apply zBr<;>intro h)<;>try simp -implicitDefEqProofs (maxSteps:=9^7) (disch:=first|exact zDs|fail) only [go_sem,h0]))
   refine Fc.own (Qfu x.shape (by omega)) (by simp [Qf,clo,Qb]) (fun g=>Qn g _) fun sv X hsv=>?_
   obtain ⟨k0,c0,s0⟩:=Qk1 hsv
   have h0:=Ql h0 X
   have h1:=Ql h1 X
   have h2:=Ql h2 X
   have h3:=Ql h3 X
   have h4:=Ql h4 X
   generalize H++X=H at *
   have d0:∀ Y,Qc (H++Y) 0=_:=fun Y=>Ql h0 Y
   have d1:∀ Y,Qc (H++Y) 1=_:=fun Y=>Ql h1 Y
   have mst2:∀ (x y:Option Row),(H++[x]).set H.length y=H++[y]:=fun x y=>by rw [List.set_append_right _ _ (Nat.le_refl _),Nat.sub_self];rfl
   have hst:∀ (x:Row),Qc (H++[some x]) H.length=some x:=fun x=>Xx _ _
   (apply Zo;repeat' ((with_reducible first|apply Zk|apply zBr<;>intro h)<;>try simp -implicitDefEqProofs (maxSteps:=9^7) (disch:=first|exact zDs|fail) only [go_sem,k0,c0,s0,d0,d1,mst2,hst]))
   obtain ⟨P,hP⟩:∃ P,H.length=P:=⟨_,rfl⟩
   have hL:=Xt h4
   have hp0:Qc (H++[some (⟨40,2,[sv,.nil]⟩:Row)]) P=some ⟨40,2,[sv,.nil]⟩:=by rw [← hP];exact hst _
   have hv0:=hsv.keep [some (⟨40,2,[sv,.nil]⟩:Row)]
   have i2:=Ql h2 [some (⟨40,2,[sv,.nil]⟩:Row)]
   have i3:=Ql h3 [some (⟨40,2,[sv,.nil]⟩:Row)]
   have i4:=Ql h4 [some (⟨40,2,[sv,.nil]⟩:Row)]
   rw [hP];rw [hP] at hL
   clear hst mst2 d0 d1
   generalize H++[some (⟨40,2,[sv,.nil]⟩:Row)]=H1 at *;refine Fc.pure (Qqz x.el y.el) (by simp [Qf,clo,Qt]) (fun g=>Ya _ _ (by simp [Qop,clo,Qf,Qt])) ?_
   have hpv:Qop x.el y.el=.fn (.func 268) [] [.rp [.sl x.el.length (Qx x.el)] 0,.rp [.sl y.el.length (Qx y.el)] 0]:=rfl
   (apply Zo;repeat' ((with_reducible first|apply Zk|apply zBr<;>intro h)<;>try simp -implicitDefEqProofs (maxSteps:=9^7) (disch:=first|exact zDs|fail) only [go_sem,hpv]))
   refine Qeg (g:=268) (lb:=[.rp [.sl x.el.length (Qx x.el)] 0,.rp [.sl y.el.length (Qx y.el)] 0]) (xs:=Qe9 x.el y.el) (by simp -implicitDefEqProofs (maxSteps:=9^7) (disch:=first | omega | (simp only [Qbe];omega)) only [go_sem]) (by simp [Qf,clo,Qt]) (Qtu x.el y.el hxe hye) (fun bs hb=>by
    simp only [Qe9,List.mem_map,List.mem_range] at hb;obtain ⟨i,_,rfl⟩:=hb
    rfl) (fun k H=>∃ u,Qde F x.el y.el k=0∧Qc H 2=some ⟨176,1,[.fn (.func f) [] caps]⟩∧Qc H 3=some ⟨40,2,[.nil,.nil]⟩∧Qc H 4=some ⟨73,1,[.int .i64 0]⟩∧Qc H P=some ⟨40,2,[sv,u]⟩∧Bv.Own 3 1 H sv x.shape.length (ints x.shape)∧Bv.Own 67 3 H u k (Qx ((((List.range x.el.length).map fun i=>(F (x.el.getD i r0) (y.el.getD i r0)).1).map Yl).take k))) ⟨.nil,rfl,i2,i3,i4,hp0,hv0,.nil _ _ _⟩ ?_ ?_
   ·rintro k us H hk ⟨u,hE,h2,h3,h4,hp,hv,hu⟩ lp
    have hkl:k<min x.el.length y.el.length:=by
     have:=(List.getElem?_eq_some_iff.1 hk).1
     rwa [Qen] at this
    have hkx:k<x.el.length:=by omega
    have hky:k<y.el.length:=by omega
    rw [Qkx hkl] at hk;injection hk with hk
    subst hk
    have hPl:=Xt hp
    have e2:∀ Y,Qc (H++Y) 2=_:=fun Y=>Ql h2 Y
    have m0:∀ (a:Row) (Y:Qa),Qc (H++(some a::Y)) H.length=some a:=fun a Y=>by simp [Qc]
    have m1:∀ (a:Option Row) (b:Row) (Y:Qa),Qc (H++(a::some b::Y)) (H.length+1)=some b:=fun a b Y=>by simp [Qc]
    have m2:∀ (a b:Option Row) (c:Row) (Y:Qa),Qc (H++(a::b::some c::Y)) (H.length+2)=some c:=fun a b c Y=>by simp [Qc]
    have n0:∀ (a b:Option Row) (Y:Qa),(H++(a::Y)).set H.length b=H++(b::Y):=fun a b Y=>by rw [List.set_append_right _ _ (Nat.le_refl _),Nat.sub_self];rfl
    have n1:∀ (a b c:Option Row) (Y:Qa),(H++(a::b::Y)).set (H.length+1) c=H++(a::c::Y):=fun a b c Y=>by rw [List.set_append_right _ _ (by omega),Nat.add_sub_cancel_left];rfl
    have n2:∀ (a b c d:Option Row) (Y:Qa),(H++(a::b::c::Y)).set (H.length+2) d=H++(a::b::d::Y):=fun a b c d Y=>by rw [List.set_append_right _ _ (by omega),Nat.add_sub_cancel_left];rfl
    have fk:=hF _ (Qnm hkx) _ (Qnm hky)
    have hnx:Qde F x.el y.el (k+1)=(F (x.el.getD k r0) (y.el.getD k r0)).2:=by rw [Qde,if_neg (by omega)]
    (refine Qw Qd ?_;simp -implicitDefEqProofs (maxSteps:=9^7) (disch:=first | omega | (simp only [Qbe];omega)) only [go_sem,Qip])
    (refine Qw Qd ?_;simp -implicitDefEqProofs (maxSteps:=9^7) (disch:=first | omega | (simp only [Qbe];omega)) only [go_sem,m0,m1,n0,n1,e2])
    have eG:∃ G:Qa,G=H++[some ⟨67,3,[.bool (x.el.getD k r0).neg,.sl (x.el.getD k r0).num.length (Qz .u32 (x.el.getD k r0).num),.sl (x.el.getD k r0).den.length (Qz .u32 (x.el.getD k r0).den)]⟩,some ⟨67,3,[.bool (y.el.getD k r0).neg,.sl (y.el.getD k r0).num.length (Qz .u32 (y.el.getD k r0).num),.sl (y.el.getD k r0).den.length (Qz .u32 (y.el.getD k r0).den)]⟩]:=⟨_,rfl⟩
    obtain ⟨G,hG⟩:=eG;rw [← hG]
    have hk':∀ q row,Qc H q=some row→Qc G q=some row:=fun q row hr=>by rw [hG];exact Ql hr _
    have h2:=hk' _ _ h2
    have h3:=hk' _ _ h3
    have h4:=hk' _ _ h4
    have hp:=hk' _ _ hp
    have hv:Bv.Own 3 1 G sv x.shape.length (ints x.shape):=by rw [hG];exact hv.keep _
    have hu:Bv.Own 67 3 G u k (Qx ((((List.range x.el.length).map fun i=>(F (x.el.getD i r0) (y.el.getD i r0)).1).map Yl).take k)):=by rw [hG];exact hu.keep _
    clear hG hk' m0 m1 m2 n0 n1 n2 e2
    have hGl:=Xt hp
    obtain ⟨k4,c4,s4⟩:=Qk1 hu
    have m0:∀ (a:Row) (Y:Qa),Qc (G++(some a::Y)) G.length=some a:=fun a Y=>by simp [Qc]
    have n0:∀ (a b:Option Row) (Y:Qa),(G++(a::Y)).set G.length b=G++(b::Y):=fun a b Y=>by rw [List.set_append_right _ _ (Nat.le_refl _),Nat.sub_self];rfl
    have ep:∀ Y,Qc (G++Y) P=_:=fun Y=>Ql hp Y
    have htr:=Qta (g:=fun i=>(F (x.el.getD i r0) (y.el.getD i r0)).1) hkx
    refine Fc.pure fk (by simp [Qf,clo,Qp,hc]) (fun g=>Ya _ _ (by simp only [clo,Qf,Bool.and_true];exact Xk (Yl _))) ?_
    generalize hr:(F (x.el.getD k r0) (y.el.getD k r0)).1=r at htr ⊢;generalize he:(F (x.el.getD k r0) (y.el.getD k r0)).2=e at hnx ⊢;by_cases h0e:e=0
    ·subst h0e
     (apply Zo;repeat' ((with_reducible first|apply Zk|apply zBr<;>intro h)<;>try simp -implicitDefEqProofs (maxSteps:=9^7) (disch:=first|exact zDs|fail) only [go_sem,m0,n0,ep,k4,c4,s4]))
     refine Qys hu (by simp;omega) rfl rfl (by simp;omega) fun v' H' hu' hF' hk'=>?_
     obtain ⟨k5,c5,s5⟩:=hk'
     have hu1:=hu.keep [some (⟨67,3,[.bool r.neg,Xy r.num,Xy r.den]⟩:Row)]
     have g2:=Zi hu1 hF' (Ql h2 _) (by decide)
     have g3:=Zi hu1 hF' (Ql h3 _) (by decide)
     have g4:=Zi hu1 hF' (Ql h4 _) (by decide)
     have gp:=Zi hu1 hF' (Ql hp _) (by decide)
     have gv:=(hv.keep [some (⟨67,3,[.bool r.neg,Xy r.num,Xy r.den]⟩:Row)]).fr hF' (Qyz hu1 (hv.keep _) (by decide))
     rw [htr] at hu'
     (apply Zo;repeat' ((with_reducible first|apply Zk|apply zBr<;>intro h)<;>try simp -implicitDefEqProofs (maxSteps:=9^7) (disch:=first|exact zDs|fail) only [go_sem,gp,k5,c5,s5,Qcj]))
     exact ⟨v',hnx,by rw [Qk _ (by omega)];exact g2,by rw [Qk _ (by omega)];exact g3,by rw [Qk _ (by omega)];exact g4,Qj gp,Qb5 gv gp (by decide),Qb5 hu' gp (by decide)⟩
    ·have a3:∀ Y,Qc (G++Y) 3=some ⟨40,2,[.nil,.nil]⟩:=fun Y=>Ql h3 Y
     have a4:∀ Y,Qc (G++Y) 4=some ⟨73,1,[.int .i64 0]⟩:=fun Y=>Ql h4 Y
     have b4:∀ Y z,Qc ((G++Y).set 3 z) 4=some ⟨73,1,[.int .i64 0]⟩:=fun Y z=>by rw [Qk _ (by decide)];exact a4 Y
     have b3:∀ Y row z,Qc (((G++Y).set 3 (some row)).set 4 z) 3=some row:=fun Y row z=>by rw [Qk _ (by decide)];exact Qj (a3 Y)
     have b44:∀ Y row z,Qc (((G++Y).set 3 z).set 4 (some row)) 4=some row:=fun Y row z=>Qj (b4 Y z)
     (apply Zo;repeat' ((with_reducible first|apply Zk|apply zBr<;>intro h)<;>try simp -implicitDefEqProofs (maxSteps:=9^7) (disch:=first|exact zDs|fail) only [go_sem,m0,n0,ep,a3,a4,b3,b4,b44,Qcj]))
     have hfin:=Xey (F:=F) (a:=x.el) (b:=y.el) (k:=k+1) (n:=x.el.length) (by rw [hnx];exact h0e) (by omega)
     exact Qpw (hfin.trans hnx) h0e
   ·rintro H ⟨u,hE,h2,h3,h4,hp,hv,hu⟩;rw [Qen,show min x.el.length y.el.length=x.el.length by omega] at hE hu
    rw [List.take_of_length_le (by simp)] at hu
    have hs3:∀ z:Row,Qc (H.set 3 (some z)) 3=some z:=fun z=>Qj h3
    have c4:∀ z,Qc (H.set 3 z) 4=some ⟨73,1,[.int .i64 0]⟩:=fun z=>by rw [Qk _ (by decide)];exact h4
    have c3:∀ row z,Qc ((H.set 3 (some row)).set 4 z) 3=some row:=fun row z=>by rw [Qk _ (by decide)];exact Qj h3
    have c44:∀ row z,Qc ((H.set 3 z).set 4 (some row)) 4=some row:=fun row z=>Qj (c4 z)
    obtain ⟨k4,cc4,s4⟩:=Qk1 hu;rw [hE,Xi4 rfl]
    (apply Zo;repeat' ((with_reducible first|apply Zk|apply zBr<;>intro h)<;>try simp -implicitDefEqProofs (maxSteps:=9^7) (disch:=first|exact zDs|fail) only [go_sem,hp,h3,h4,hs3,c3,c4,c44,k0,c0,s0,k4,cc4,s4]))
    have hv':=Qb5 (z:=some ⟨73,1,[.int .i64 0]⟩) (Qb5 (z:=some ⟨40,2,[sv,u]⟩) hv h3 (by decide)) (c4 _) (by decide)
    have hu':=Qb5 (z:=some ⟨73,1,[.int .i64 0]⟩) (Qb5 (z:=some ⟨40,2,[sv,u]⟩) hu h3 (by decide)) (c4 _) (by decide)
    refine Bor.tupL ⟨Bor.aggL ⟨Qwv hv' (Qb _), ?_,trivial⟩,.self rfl,trivial⟩
    have:=Qwv hu' (Qt _)
    simpa [Qjs] using this
 ·exact ⟨0,by omega,rfl,rfl,rfl,rfl,rfl,rfl,rfl,fun h=>by omega,fun h=>by omega,rfl,rfl,rfl,rfl,rfl,rfl,rfl,rfl,rfl⟩
theorem Qx3 (g:Nat):Pu C 154 [.fn (.func g) [] []] (.fn (.func 229) [] [.rp [.fn (.func g) [] []] 0]):=by
 refine Fc.keep (Fc.sealR ?_);refine zL Qd Tryz.func154 w154 Tryz.ntmps154 Tryz.results154 ?_
 (refine zG ?_;(repeat' ((with_reducible apply zBr)<;>intro h<;>refine zG ?_))<;>try exact .intro)
 refine ⟨0,_,1,[.fn (.func g) [] []],rfl,by simp [Qf,clo],[],by simp,by simp, ?_⟩
 simp [sz,szL,ren,Qe,Qbc]
theorem Qtc (g:Nat) (a b:Raw) (R:Rq) (h:Pu C g [Qag a,Qag b] (Qe3 R)):Pu C 229 [Qag a,Qag b,.rp [.fn (.func g) [] []] 0] (.tup [Qe3 R,.int .i64 0]):=by
 refine Pu.ofBor (by simp only [clo,Qf,Bool.and_true];exact Xk (Yl R)) ?_
 refine zL Qd Tryz.func229 w229 Tryz.ntmps229 Tryz.results229 ?_
 (refine zG ?_;(repeat' ((with_reducible apply zBr)<;>intro h<;>refine zG ?_))<;>try exact .intro)
 refine Fc.pure h (by simp [Qf,clo,Qp]) (fun g=>Ya _ _ (Xk (Yl R))) ?_
 (refine zG ?_;(repeat' ((with_reducible apply zBr)<;>intro h<;>refine zG ?_))<;>try exact .intro)
 exact .self (by simp [clo,Qf,Qp])
def Qey (F:Raw→Raw→Rq):Raw→Raw→Rq × Int:=fun a b=>(F a b,0)
theorem Qvo (x y:Tn) (hx:TnOK x) (hy:TnOK y) (g:Nat) (F:Raw→Raw→Rq) (hF:∀ a b,RawOK a→RawOK b→Pu C g [Qag a,Qag b] (Qe3 (F a b))):Pu C 153 [tnV x,tnV y,.fn (.func 229) [] [.rp [.fn (.func g) [] []] 0]] (.tup [tnV (Qmi (Qjs (Qey F) x y) (Qa8 (Qey F) x y)),.int .i64 (Qa8 (Qey F) x y)]) :=
 Qny x y hx hy 229 [.rp [.fn (.func g) [] []] 0] (by simp [Qf,clo]) (Qey F) fun a ha b hb=>Qtc g a b (F a b) (hF a b (hx.r a ha) (hy.r b hb))
theorem Qyu (x y:Tn) (hx:TnOK x) (hy:TnOK y):Pu C 64 [tnV x,tnV y] (.tup [tnV (Qmi (Qjs (Qey fun a b=>Xc [a,b]) x y) (Qa8 (Qey fun a b=>Xc [a,b]) x y)),.int .i64 (Qa8 (Qey fun a b=>Xc [a,b]) x y)]):=by
 have hb:=Qvo x y hx hy 157 (fun a b=>Xc [a,b]) Qyh
 have hsu:=Qx3 157
 generalize Qa8 (Qey fun a b=>Xc [a,b]) x y=e at *
 generalize Qmi (Qjs (Qey fun a b=>Xc [a,b]) x y) e=T at *
 refine Pu.ofBor (Qf5 T _) ?_;refine zL Qd Tryz.func64 w64 Tryz.ntmps64 Tryz.results64 ?_
 (refine zG ?_;(repeat' ((with_reducible apply zBr)<;>intro h<;>refine zG ?_))<;>try exact .intro)
 refine Pc.pure hsu (by simp [Qf,clo]) (fun g=>rfl) ?_
 (refine zG ?_;(repeat' ((with_reducible apply zBr)<;>intro h<;>refine zG ?_))<;>try exact .intro)
 refine Pc.pure hb (by simp [Qf,clo,Qb,Qt]) (fun g=>Ya _ _ (Qf5 T _)) ?_
 (refine zG ?_;(repeat' ((with_reducible apply zBr)<;>intro h<;>refine zG ?_))<;>try exact .intro)
 exact .self (by simp [clo,Qf,Qb,Qt])
theorem Qyy (x y:Tn) (hx:TnOK x) (hy:TnOK y):Pu C 65 [tnV x,tnV y] (.tup [tnV (Qmi (Qjs Qmk x y) (Qa8 Qmk x y)),.int .i64 (Qa8 Qmk x y)]):=by
 have hb:=Qny x y hx hy 158 [] rfl Qmk fun a ha b hb=>Qym a b (hx.r a ha) (hy.r b hb)
 generalize Qa8 Qmk x y=e at *;generalize Qmi (Qjs Qmk x y) e=T at *;refine Pu.ofBor (Qf5 T _) ?_;refine zL Qd Tryz.func65 w65 Tryz.ntmps65 Tryz.results65 ?_
 (refine zG ?_;(repeat' ((with_reducible apply zBr)<;>intro h<;>refine zG ?_))<;>try exact .intro)
 refine Fc.pure hb (by simp [Qf,clo,Qb,Qt]) (fun g=>Ya _ _ (Qf5 T _)) ?_
 (refine zG ?_;(repeat' ((with_reducible apply zBr)<;>intro h<;>refine zG ?_))<;>try exact .intro)
 exact .self (by simp [clo,Qf,Qb,Qt])
theorem Qdn (g:Nat) (caps:List V) (hc:Qf caps=true):Pu C 66 [.fn (.func g) [] caps] (.fn (.func 159) [] [.rp [.fn (.func g) [] caps] 0]):=by
 refine Fc.keep (Fc.sealR ?_);refine zL Qd Tryz.func66 w66 Tryz.ntmps66 Tryz.results66 ?_
 (refine zG ?_;(repeat' ((with_reducible apply zBr)<;>intro h<;>refine zG ?_))<;>try exact .intro)
 refine ⟨0,_,1,[.fn (.func g) [] caps],rfl,by simp [Qf,clo,hc],[],by simp,by simp, ?_⟩
 simp [sz,szL,ren,Qe,Qbc,Yd _ _ hc]
theorem Qkk (g:Nat) (caps:List V) (hc:Qf caps=true):Pu C 61 [.fn (.func g) [] caps] (.fn (.func 152) [] [.rp [.fn (.func g) [] caps] 0]):=by
 refine Fc.keep (Fc.sealR ?_);refine zL Qd Tryz.func61 w61 Tryz.ntmps61 Tryz.results61 ?_
 (refine zG ?_;(repeat' ((with_reducible apply zBr)<;>intro h<;>refine zG ?_))<;>try exact .intro)
 refine ⟨0,_,1,[.fn (.func g) [] caps],rfl,by simp [Qf,clo,hc],[],by simp,by simp, ?_⟩
 simp [sz,szL,ren,Qe,Qbc,Yd _ _ hc]
theorem Xbo (g:Nat) (caps:List V) (hc:Qf caps=true):Pu C 91 [.fn (.func g) [] caps] (.fn (.func 192) [] [.rp [.fn (.func g) [] caps] 0]):=by
 refine Fc.keep (Fc.sealR ?_);refine zL Qd Tryz.func91 w91 Tryz.ntmps91 Tryz.results91 ?_
 (refine zG ?_;(repeat' ((with_reducible apply zBr)<;>intro h<;>refine zG ?_))<;>try exact .intro)
 refine ⟨0,_,1,[.fn (.func g) [] caps],rfl,by simp [Qf,clo,hc],[],by simp,by simp, ?_⟩
 simp [sz,szL,ren,Qe,Qbc,Yd _ _ hc]
theorem Qkg (g:Nat) (a:List Int):Pu C 77 [.fn (.func g) [] [],.sl a.length (ints a)] (.fn (.func 159) [] [.rp [.fn (.func 172) [] [.rp [.fn (.func g) [] []] 0,.rp [.sl a.length (ints a)] 0]] 0]):=by
 have h1:=Qdn 172 [.rp [.fn (.func g) [] []] 0,.rp [.sl a.length (ints a)] 0] (by simp [Qf,clo,Qb])
 refine zK Qd Tryz.func77 w77 Tryz.ntmps77 Tryz.results77 ?_
 (refine zG ?_;(repeat' ((with_reducible apply zBr)<;>intro h<;>refine zG ?_))<;>try exact .intro)
 refine Fc.sealed (r:=0) (cs:=[.fn (.func g) [] []]) rfl (by simp [Qf,clo]) ?_
 refine Fc.sealed (r:=1) (cs:=[.sl a.length (ints a)]) rfl (by simp [Qf,clo,Qb]) ?_
 simp only [szL,sz,if_true,Yr _ _ _ (Qb _),show ¬ (1=0) by decide,if_false]
 refine Fc.pure h1 (by simp [Qf,clo,Qb]) (fun g=>by simp [ren,Qe,Qn]) ?_
 (refine zG ?_;(repeat' ((with_reducible apply zBr)<;>intro h<;>refine zG ?_))<;>try exact .intro)
 exact Qh (fun g=>by simp [ren,Qe,Qn]) rfl
theorem Qqb (g:Nat) (a:List Int):Pu C 79 [.fn (.func g) [] [],.sl a.length (ints a)] (.fn (.func 159) [] [.rp [.fn (.func 176) [] [.rp [.fn (.func g) [] []] 0,.rp [.sl a.length (ints a)] 0]] 0]):=by
 have h1:=Qdn 176 [.rp [.fn (.func g) [] []] 0,.rp [.sl a.length (ints a)] 0] (by simp [Qf,clo,Qb])
 refine zK Qd Tryz.func79 w79 Tryz.ntmps79 Tryz.results79 ?_
 (refine zG ?_;(repeat' ((with_reducible apply zBr)<;>intro h<;>refine zG ?_))<;>try exact .intro)
 refine Fc.sealed (r:=0) (cs:=[.fn (.func g) [] []]) rfl (by simp [Qf,clo]) ?_
 refine Fc.sealed (r:=1) (cs:=[.sl a.length (ints a)]) rfl (by simp [Qf,clo,Qb]) ?_
 simp only [szL,sz,if_true,Yr _ _ _ (Qb _),show ¬ (1=0) by decide,if_false]
 refine Fc.pure h1 (by simp [Qf,clo,Qb]) (fun g=>by simp [ren,Qe,Qn]) ?_
 (refine zG ?_;(repeat' ((with_reducible apply zBr)<;>intro h<;>refine zG ?_))<;>try exact .intro)
 exact Qh (fun g=>by simp [ren,Qe,Qn]) rfl
def kerKs:List Int:=[1,2,3,4,5,6,7,8,9,18,11,12,13,15,16,17,14,20,10,19]
def Qnl (a:List Int):List V:=[.fn (.func 152) [] [.rp [.fn (.func 62) [] []] 0],
 .fn (.func 152) [] [.rp [.fn (.func 63) [] []] 0],
 .fn (.func 152) [] [.rp [.fn (.func 64) [] []] 0],
 .fn (.func 152) [] [.rp [.fn (.func 65) [] []] 0],
 .fn (.func 159) [] [.rp [.fn (.func 67) [] []] 0],
 .fn (.func 159) [] [.rp [.fn (.func 68) [] [.rp [.sl a.length (ints a)] 0]] 0],
 .fn (.func 159) [] [.rp [.fn (.func 71) [] []] 0],
 .fn (.func 159) [] [.rp [.fn (.func 72) [] []] 0],
 .fn (.func 159) [] [.rp [.fn (.func 73) [] [.rp [.sl a.length (ints a)] 0]] 0],
 .fn (.func 159) [] [.rp [.fn (.func 76) [] []] 0],
 .fn (.func 159) [] [.rp [.fn (.func 172) [] [.rp [.fn (.func 78) [] []] 0,.rp [.sl a.length (ints a)] 0]] 0],
 .fn (.func 159) [] [.rp [.fn (.func 176) [] [.rp [.fn (.func 80) [] []] 0,.rp [.sl a.length (ints a)] 0]] 0],
 .fn (.func 159) [] [.rp [.fn (.func 176) [] [.rp [.fn (.func 81) [] []] 0,.rp [.sl a.length (ints a)] 0]] 0],
 .fn (.func 159) [] [.rp [.fn (.func 172) [] [.rp [.fn (.func 82) [] []] 0,.rp [.sl a.length (ints a)] 0]] 0],
 .fn (.func 159) [] [.rp [.fn (.func 172) [] [.rp [.fn (.func 83) [] []] 0,.rp [.sl a.length (ints a)] 0]] 0],
 .fn (.func 84) [] [.rp [.sl a.length (ints a)] 0],
 .fn (.func 159) [] [.rp [.fn (.func 86) [] [.rp [.sl a.length (ints a)] 0]] 0],
 .fn (.func 159) [] [.rp [.fn (.func 88) [] [.rp [.sl a.length (ints a)] 0]] 0],
 .fn (.func 152) [] [.rp [.fn (.func 90) [] []] 0],
 .fn (.func 192) [] [.rp [.fn (.func 92) [] []] 0]]
theorem Qnu (a:List Int):Qf (Qnl a)=true:=by simp [Qnl,Qf,clo,Qb]
theorem Quo (a:List Int):Pu C 34 [.sl a.length (ints a)] (.mp .i64 kerKs (Qnl a)):=by
 have hr:∀ g,ren g (.mp .i64 kerKs (Qnl a))=.mp .i64 kerKs (Qnl a):=fun g=>Ya g _ (Qnu a)
 refine Fc.keep (Fc.bodyTT Tryz.func34 w34 rfl Tryz.ntmps34 Tryz.results34 (zLe rfl) ?_);refine Xno Qd ?_
 (refine zG ?_;(repeat' ((with_reducible apply zBr)<;>intro h<;>refine zG ?_))<;>try exact .intro)
 refine Qkd (r:=0) (cs:=[.sl a.length (ints a)]) rfl (by simp [Qf,clo,Qb]) ?_
 rw [Qj6];simp only [List.map_cons,List.map_nil,sz,Yr _ _ _ (Qb _),if_true];refine Qw Qd ?_
 (refine zG ?_;(repeat' ((with_reducible apply zBr)<;>intro h<;>refine zG ?_))<;>try exact .intro)
 refine Pc.pure (Qkk 62 [] rfl) (by simp [Qf,clo,Qb]) (fun g=>by simp [ren,Qe,Qn]) ?_
 (refine zG ?_;(repeat' ((with_reducible apply zBr)<;>intro h<;>refine zG ?_))<;>try exact .intro)
 refine Pc.pure (Qkk 63 [] rfl) (by simp [Qf,clo,Qb]) (fun g=>by simp [ren,Qe,Qn]) ?_
 (refine zG ?_;(repeat' ((with_reducible apply zBr)<;>intro h<;>refine zG ?_))<;>try exact .intro)
 refine Pc.pure (Qkk 64 [] rfl) (by simp [Qf,clo,Qb]) (fun g=>by simp [ren,Qe,Qn]) ?_
 (refine zG ?_;(repeat' ((with_reducible apply zBr)<;>intro h<;>refine zG ?_))<;>try exact .intro)
 refine Pc.pure (Qkk 65 [] rfl) (by simp [Qf,clo,Qb]) (fun g=>by simp [ren,Qe,Qn]) ?_
 (refine zG ?_;(repeat' ((with_reducible apply zBr)<;>intro h<;>refine zG ?_))<;>try exact .intro)
 refine Pc.pure (Qdn 67 [] rfl) (by simp [Qf,clo,Qb]) (fun g=>by simp [ren,Qe,Qn]) ?_
 (refine zG ?_;(repeat' ((with_reducible apply zBr)<;>intro h<;>refine zG ?_))<;>try exact .intro)
 refine Pc.pure (Qdn 68 [.rp [.sl a.length (ints a)] 0] (by simp [Qf,clo,Qb])) (by simp [Qf,clo,Qb]) (fun g=>by simp [ren,Qe,Qn]) ?_
 (refine zG ?_;(repeat' ((with_reducible apply zBr)<;>intro h<;>refine zG ?_))<;>try exact .intro)
 refine Pc.pure (Qdn 71 [] rfl) (by simp [Qf,clo,Qb]) (fun g=>by simp [ren,Qe,Qn]) ?_
 (refine zG ?_;(repeat' ((with_reducible apply zBr)<;>intro h<;>refine zG ?_))<;>try exact .intro)
 refine Pc.pure (Qdn 72 [] rfl) (by simp [Qf,clo,Qb]) (fun g=>by simp [ren,Qe,Qn]) ?_
 (refine zG ?_;(repeat' ((with_reducible apply zBr)<;>intro h<;>refine zG ?_))<;>try exact .intro)
 refine Pc.pure (Qdn 73 [.rp [.sl a.length (ints a)] 0] (by simp [Qf,clo,Qb])) (by simp [Qf,clo,Qb]) (fun g=>by simp [ren,Qe,Qn]) ?_
 (refine zG ?_;(repeat' ((with_reducible apply zBr)<;>intro h<;>refine zG ?_))<;>try exact .intro)
 refine Pc.pure (Qdn 76 [] rfl) (by simp [Qf,clo,Qb]) (fun g=>by simp [ren,Qe,Qn]) ?_
 (refine zG ?_;(repeat' ((with_reducible apply zBr)<;>intro h<;>refine zG ?_))<;>try exact .intro)
 refine Pc.pure (Qkg 78 a) (by simp [Qf,clo,Qb]) (fun g=>by simp [ren,Qe,Qn]) ?_
 (refine zG ?_;(repeat' ((with_reducible apply zBr)<;>intro h<;>refine zG ?_))<;>try exact .intro)
 refine Pc.pure (Qqb 80 a) (by simp [Qf,clo,Qb]) (fun g=>by simp [ren,Qe,Qn]) ?_
 (refine zG ?_;(repeat' ((with_reducible apply zBr)<;>intro h<;>refine zG ?_))<;>try exact .intro)
 refine Pc.pure (Qqb 81 a) (by simp [Qf,clo,Qb]) (fun g=>by simp [ren,Qe,Qn]) ?_
 (refine zG ?_;(repeat' ((with_reducible apply zBr)<;>intro h<;>refine zG ?_))<;>try exact .intro)
 refine Pc.pure (Qkg 82 a) (by simp [Qf,clo,Qb]) (fun g=>by simp [ren,Qe,Qn]) ?_
 (refine zG ?_;(repeat' ((with_reducible apply zBr)<;>intro h<;>refine zG ?_))<;>try exact .intro)
 refine Pc.pure (Qkg 83 a) (by simp [Qf,clo,Qb]) (fun g=>by simp [ren,Qe,Qn]) ?_
 (refine zG ?_;(repeat' ((with_reducible apply zBr)<;>intro h<;>refine zG ?_))<;>try exact .intro)
 refine Pc.pure (Qdn 86 [.rp [.sl a.length (ints a)] 0] (by simp [Qf,clo,Qb])) (by simp [Qf,clo,Qb]) (fun g=>by simp [ren,Qe,Qn]) ?_
 (refine zG ?_;(repeat' ((with_reducible apply zBr)<;>intro h<;>refine zG ?_))<;>try exact .intro)
 refine Pc.pure (Qdn 88 [.rp [.sl a.length (ints a)] 0] (by simp [Qf,clo,Qb])) (by simp [Qf,clo,Qb]) (fun g=>by simp [ren,Qe,Qn]) ?_
 (refine zG ?_;(repeat' ((with_reducible apply zBr)<;>intro h<;>refine zG ?_))<;>try exact .intro)
 refine Pc.pure (Qkk 90 [] rfl) (by simp [Qf,clo,Qb]) (fun g=>by simp [ren,Qe,Qn]) ?_
 (refine zG ?_;(repeat' ((with_reducible apply zBr)<;>intro h<;>refine zG ?_))<;>try exact .intro)
 refine Pc.pure (Xbo 92 [] rfl) (by simp [Qf,clo,Qb]) (fun g=>by simp [ren,Qe,Qn]) ?_
 (refine zG ?_;(repeat' ((with_reducible apply zBr)<;>intro h<;>refine zG ?_))<;>try exact .intro)
 exact Qh hr rfl
def Xfx (T:Tn) (e:Int):V:=.tup [tnV T,.int .i64 e]
attribute [go_sem] Xfx
theorem Qid (T:Tn) (e:Int):clo (Xfx T e)=true:=Qf5 T e
def Qxf (x:Raw):Nat:=max (Zx (Xm x).num) (Zx (Xm x).den)
theorem Qto (x:Raw) (hx:RawOK x):Pu C 195 [Qag x] (.int .i64 (Qxf x:Nat)):=by
 have nx:=Qhu x hx
 have ho:=Qqu hx
 unfold Qxf;generalize Xm x=R at *
 have b1:=Qgb (dg B32 R.num) (by have h1:(dg B32 R.num).length≤10000000000:=ho.n1;omega) ho.nL
 have b2:=Qgb (dg B32 R.den) (by have h1:(dg B32 R.den).length≤10000000000:=ho.d1;omega) ho.dL
 rw [Qrk (by decide)] at b1 b2
 refine zK Qd Tryz.func195 w195 Tryz.ntmps195 Tryz.results195 ?_
 (refine zG ?_;(repeat' ((with_reducible apply zBr)<;>intro h<;>refine zG ?_))<;>try exact .intro)
 refine nx.call ⟨.self (Xk _),trivial⟩ (Xk (Yl R)) ?_
 (refine zG ?_;(repeat' ((with_reducible apply zBr)<;>intro h<;>refine zG ?_))<;>try exact .intro)
 refine Pc.pure b1 (by simp [Qf,clo,Qp]) (fun g=>rfl) ?_
 (refine zG ?_;(repeat' ((with_reducible apply zBr)<;>intro h<;>refine zG ?_))<;>try exact .intro)
 refine Pc.pure b2 (by simp [Qf,clo,Qp]) (fun g=>rfl) ?_
 (refine zG ?_;(repeat' ((with_reducible apply zBr)<;>intro h<;>refine zG ?_))<;>try exact .intro)
 (refine Qh (by intro g;simp only [go_sem,ren,Qe]) ?_)
 congr 1
 split<;>omega
def Qee (l:List Raw):Nat:=l.foldl (fun n x=>max n (Qxf x)) 0
theorem Qvr {l:List Raw} {k:Nat} (h:k<l.length):Qee (l.take (k+1))=max (Qee (l.take k)) (Qxf (l.getD k r0)):=by
 rw [Qba l r0 h,Qee,Qee,List.foldl_append];rfl
theorem Qs9 (t:Tn) (ht:TnOK t):Pu C 93 [tnV t] (.int .i64 (Qee t.el:Nat)):=by
 have hs:=ht.s
 have he:=ht.e
 have hv:Xaw t=.fn (.func 247) [] [.rp [.sl t.shape.length (ints t.shape),.sl t.el.length (Qx t.el)] 0]:=rfl
 refine zK Qd Tryz.func93 w93 Tryz.ntmps93 Tryz.results93 ?_
 (refine zG ?_;(repeat' ((with_reducible apply zBr)<;>intro h<;>refine zG ?_))<;>try exact .intro)
 refine Fc.pure (Qwy t) (by simp [Qf,clo,Qb,Qt]) (fun g=>by simp [tnV,ren,Qe,Qn,Yd _ _ (Qt t.el)]) ?_
 (refine zG ?_;(repeat' ((with_reducible apply zBr)<;>intro h<;>refine zG ?_))<;>try exact .intro)
 refine Fc.pure (Qst t) (by simp [Qf,clo,Qb,Qt]) (fun g=>by simp [Xaw,ren,Qe,Qn,Yd _ _ (Qt t.el)]) ?_
 (apply Zo;repeat' ((with_reducible first|apply Zk|apply zBr<;>intro h)<;>try simp -implicitDefEqProofs (maxSteps:=9^7) (disch:=first|exact zDs|fail) only [go_sem,hv]))
 refine Qeg (g:=247) (lb:=[.rp [.sl t.shape.length (ints t.shape),.sl t.el.length (Qx t.el)] 0]) (xs:=Qdo t) (by simp -implicitDefEqProofs (maxSteps:=9^7) (disch:=first | omega | (simp only [Qbe];omega)) only [go_sem]) (by simp [Qf,clo,Qb,Qt]) (Qxk t ht) (fun bs hb=>by
  simp only [Qdo,List.mem_map,List.mem_range] at hb;obtain ⟨i,_,rfl⟩:=hb
  rfl) (fun k H=>Qc H 1=some ⟨3,1,[.int .i64 (Qee (t.el.take k):Nat)]⟩) rfl ?_ ?_
 ·rintro k us H hk h1 l
  have hkl:k<t.el.length:=by
   have:=(List.getElem?_eq_some_iff.1 hk).1
   rwa [Qbf] at this
  rw [Qgv hkl] at hk;injection hk with hk
  subst hk
  have h1':∀ X,Qc (H++X) 1=some ⟨3,1,[.int .i64 (Qee (t.el.take k):Nat)]⟩:=fun X=>Ql h1 X
  have hst:∀ X z,Qc ((H++X).set 1 (some z)) 1=some z:=fun X z=>Qj (h1' X)
  have hsu:=Qvr hkl
  (refine Qw Qd ?_;simp -implicitDefEqProofs (maxSteps:=9^7) (disch:=first | omega | (simp only [Qbe];omega)) only [go_sem,Qip])
  (refine Qw Qd ?_;simp -implicitDefEqProofs (maxSteps:=9^7) (disch:=first | omega | (simp only [Qbe];omega)) only [go_sem,h1'])
  refine Pc.pure (Qto (t.el.getD k r0) (ht.get hkl)) (by simp [Qf,clo,Qp]) (fun g=>rfl) ?_
  (apply Zo;repeat' ((with_reducible first|apply Zk|apply zBr<;>intro h)<;>try simp -implicitDefEqProofs (maxSteps:=9^7) (disch:=first|exact zDs|fail) only [go_sem,h1',hst,Qcj]))
  rw [hsu]
  congr 5
  split<;>omega
 ·rintro H h1;rw [Qbf,List.take_length] at h1
  have hst:∀ z,Qc (H.set 1 (some z)) 1=some z:=fun z=>Qj h1
  (apply Zo;repeat' ((with_reducible first|apply Zk|apply zBr<;>intro h)<;>try simp -implicitDefEqProofs (maxSteps:=9^7) (disch:=first|exact zDs|fail) only [go_sem,h1,hst]))
  (refine Qh (by intro g;simp only [go_sem,ren,Qe]) ?_)
  rfl
theorem Qss (b:Int) (T:Tn) (hT:TnOK T):Pu C 35 [.int .i64 b,tnV T] (.bool (decide (b≤0)||decide ((Qee T.el:Int)≤b))):=by
 have tb:=Qs9 T hT
 refine zK Qd Tryz.func35 w35 Tryz.ntmps35 Tryz.results35 ?_
 (refine zG ?_;(repeat' ((with_reducible apply zBr)<;>intro h<;>refine zG ?_))<;>try exact .intro)
 ·skip
  (refine Qh (by intro g;simp only [go_sem,ren,Qe]) ?_)
  simp [h]
 ·refine Fc.pure tb (by simp [Qf,clo,Qb,Qt]) (fun g=>rfl) ?_
  (refine zG ?_;(repeat' ((with_reducible apply zBr)<;>intro h<;>refine zG ?_))<;>try exact .intro)
  (refine Qh (by intro g;simp only [go_sem,ren,Qe]) ?_)
  simp [h]
theorem Qwg (g:Nat) (x y:Tn) (r:List Tn) (T:Tn) (e:Int) (h:Pu C g [tnV x,tnV y] (Xfx T e)):Pu C 152 [.sl (r.length+2) (Qek (x::y::r)),.rp [.fn (.func g) [] []] 0] (Xfx T e):=by
 refine Pu.ofBor (Qid T e) ?_;refine zL Qd Tryz.func152 w152 Tryz.ntmps152 Tryz.results152 ?_
 (apply Zo;repeat' ((with_reducible first|apply Zk|apply zBr<;>intro h)<;>try simp -implicitDefEqProofs (maxSteps:=9^7) (disch:=first|exact zDs|fail) only [go_sem,Qdw]))
 refine RunU.now ?_
 (apply Zo;repeat' ((with_reducible first|apply Zk|apply zBr<;>intro h)<;>try simp -implicitDefEqProofs (maxSteps:=9^7) (disch:=first|exact zDs|fail) only [go_sem,Qdw]))
 refine Pc.pure h (by simp [Qf,clo,Qb,Qt]) (fun g=>Ya _ _ (Qid T e)) ?_
 (refine zG ?_;(repeat' ((with_reducible apply zBr)<;>intro h<;>refine zG ?_))<;>try exact .intro)
 exact .self (Qid T e)
end Go.Proofs.YtepjcbnpbcmfcaaGreat
end
section
namespace Go.Proofs.YtepjcbnpbcmfcaaGreat
open Go.Bv
structure Sl where
 st:Int
 t:Tn
structure RawW (x:Raw):Prop where
 n:x.num.length≤140737488355328
 d:x.den.length≤140737488355328
 nL:Lim x.num
 dL:Lim x.den
structure TnW (t:Tn):Prop where
 s:t.shape.length≤17592186044416
 e:t.el.length≤140737488355328
 r:∀ x∈t.el,RawW x
def slG (s:Sl):V × V × V:=(.int .i64 s.st,.sl s.t.shape.length (ints s.t.shape),.sl s.t.el.length (Qx s.t.el))
def slC (l:List Sl):List V:=Qb2 slG l
def Qb0 (s:Sl):V:=.agg [.int .i64 s.st,.sl s.t.shape.length (ints s.t.shape),.sl s.t.el.length (Qx s.t.el)]
def s0:Sl:=⟨0,emptyT⟩
@[go_sem] theorem Qwl (xs:List Sl):(slC xs).length=xs.length*3:=Qeu _ _
@[go_sem] theorem Xp8 (xs:List Sl) (i:Nat) (h:i<xs.length):nth (slC xs) (i*3)=.int .i64 (xs.getD i s0).st:=(Ju slG s0 xs i h).1
@[go_sem] theorem Xp7 (xs:List Sl) (i:Nat) (h:i<xs.length):nth (slC xs) (i*3+1)=.sl (xs.getD i s0).t.shape.length (ints (xs.getD i s0).t.shape):=(Ju slG s0 xs i h).2.1
@[go_sem] theorem Xp6 (xs:List Sl) (i:Nat) (h:i<xs.length):nth (slC xs) (i*3+2)=.sl (xs.getD i s0).t.el.length (Qx (xs.getD i s0).t.el):=(Ju slG s0 xs i h).2.2
theorem Kz (xs:List Sl):Qf (slC xs)=true:=Qlt fun x=>⟨rfl,by simp [slG,clo,Qb],by simp [slG,clo,Qt]⟩
theorem Qbl (s:Sl):clo (Qb0 s)=true:=by simp [Qb0,clo,Qf,Qb,Qt]
def Qoe (l:List Sl):List Tn:=l.map (·.t)
def Qdx (l:List Sl):List (List Int):=l.map (·.t.shape)
theorem Qx1 {l:List Sl} {i:Nat} (h:i<l.length):Qoe (l.take (i+1))=Qoe (l.take i)++[(l.getD i s0).t]:=by
 rw [Qba l s0 h,Qoe,Qoe,List.map_append];rfl
theorem Qx7 {l:List Sl} {i:Nat} (h:i<l.length):Qdx (l.take (i+1))=Qdx (l.take i)++[(l.getD i s0).t.shape]:=by
 rw [Qba l s0 h,Qdx,Qdx,List.map_append];rfl
theorem Qgx (l:List (List Int)):(Yx l).all Yc=true:=by
 induction l with
 | nil=>rfl
 | cons a l ih=>simp only [Yx,List.map_cons,List.all_cons,Qwo,Bool.true_and];exact ih
theorem Qx0 (ts:List Tn):(Qek ts).all Yc=true:=by
 induction ts with
 | nil=>rfl
 | cons t ts ih=>rw [Qdw];simp only [List.all_cons,ih];rfl
theorem Xbl (ts:List Tn) (t:Tn):Qek (ts++[t])=Qek ts++[.sl t.shape.length (ints t.shape),.sl t.el.length (Qx t.el)]:=by simp [Qek]
theorem Xcp {y:Ty} {e k:Nat} {v:V} {H:Qa} {xs:List (List Int)} {x:List Int} {K:V→Qa→Prop} (h:Bv.Own e 1 H v k (Yx xs)) (hy:y.size=1) (hb:0<y.bytes∧y.bytes≤1000) (hl:k+1≤1000000000)
  (hK:∀ v' H',Bv.Own e 1 H' v' (k+1) (Yx (xs++[x]))→Fr v H H'→kn v'=true∧cellsOf v'=[v']∧Yc v'=true→K v' H'):Qaa y e v (.sl 1 [.sl x.length (ints x)]) H K:=by
 rw [← hy] at h;refine Qcv h (m:=1) (news:=[.sl x.length (ints x)]) rfl (by rw [hy];rfl) rfl (by omega) (by omega) (by have:=Nat.mul_le_mul hl hb.2;omega) (Qgx _) fun v' H' k1 k2 _ k4=>?_
 rw [hy] at k1;obtain ⟨r,rfl⟩:=k4;exact hK _ H' (by rw [Qo1];exact k1) k2 ⟨rfl,rfl,rfl⟩
theorem Xco {y:Ty} {e k:Nat} {v:V} {H:Qa} {xs:List Tn} {t:Tn} {K:V→Qa→Prop} (h:Bv.Own e 2 H v k (Qek xs)) (hy:y.size=2) (hb:0<y.bytes∧y.bytes≤1000) (hl:k+1≤1000000000)
  (hK:∀ v' H',Bv.Own e 2 H' v' (k+1) (Qek (xs++[t]))→Fr v H H'→kn v'=true∧cellsOf v'=[v']∧Yc v'=true→K v' H'):Qaa y e v (.sl 1 [.sl t.shape.length (ints t.shape),.sl t.el.length (Qx t.el)]) H K:=by
 rw [← hy] at h;refine Qcv h (m:=1) (news:=[.sl t.shape.length (ints t.shape),.sl t.el.length (Qx t.el)]) rfl (by rw [hy];rfl) rfl (by omega) (by omega) (by have:=Nat.mul_le_mul hl hb.2;omega) (Qx0 _) fun v' H' k1 k2 _ k4=>?_
 rw [hy] at k1;obtain ⟨r,rfl⟩:=k4;exact hK _ H' (by rw [Xbl];exact k1) k2 ⟨rfl,rfl,rfl⟩
theorem Qes {α:Type} {l:List α} (d:α) {i:Nat} (h:i<l.length):l.getD i d∈l:=by simp [List.getD,h]
def okS (x:Raw):Bool:=decide (x.num.length≤8)&&decide (x.den.length≤8)
def Qgj (s:Sl):Bool:=decide (s.t.el.length≤64)&&s.t.el.all okS
def Qgq (l:List Sl):Bool:=l.all Qgj&&decide (l.length≤9)
theorem Qf3 {s:Sl}:Qgj s=true↔s.t.el.length≤64∧∀ k,k<s.t.el.length→(s.t.el.getD k r0).num.length≤8∧(s.t.el.getD k r0).den.length≤8:=by
 simp only [Qgj,Bool.and_eq_true,decide_eq_true_eq,Qik r0,okS]
theorem Ql5 {l:List Sl}:l.all Qgj=true↔∀ j,j<l.length→Qgj (l.getD j s0)=true:=Qik s0
theorem Qoi (l:List Sl) (hl:l.length≤140737488355328) (hw:∀ s∈l,TnW s.t):Pu C 9 [.sl l.length (slC l)] (.bool (Qgq l)):=by
 have bad:∀ j,j<l.length→Qgj (l.getD j s0)=false→Qgq l=false:=fun j hj h=>by
  rw [Qgq,Bool.eq_false_iff];simp only [ne_eq,Bool.and_eq_true,Ql5,decide_eq_true_eq];rintro ⟨h2,_⟩;rw [h2 j hj] at h;cases h
 refine zK Qd Tryz.func9 w9 Tryz.ntmps9 Tryz.results9 ?_
 (refine zG ?_;(repeat' ((with_reducible apply zBr)<;>intro h<;>refine zG ?_))<;>try exact .intro)
 refine Qg (fun n ts H=>∃ (i:Nat),(i≤l.length)∧((∀ j,j<i→Qgj (l.getD j s0)=true))∧(n=l.length - i)∧(H=[])∧ts.length=59∧nth ts 0=.sl l.length (slC l)∧nth ts 3=.int .i64 i) ?_ (n:=l.length) ?_
 ·skip
  rintro n ts H ⟨i,hi,hp,hn,hH,hL,hs0,hs3⟩;refine Qv [(0,.sl l.length (slC l)),(3,.int .i64 i)] hL (by simp only [zFm,hs0,hs3,true_and];exact zNm) ?_
  clear hL hs0 hs3 ts
  refine Qw Qd ?_;subst hn;by_cases hil:i<l.length
  ·have hm:l.getD i s0∈l:=by simp [List.getD,hil]
   have tw:=hw _ hm
   have te:=tw.e
   (refine zG ?_;(repeat' ((with_reducible apply zBr)<;>intro h<;>refine zG ?_))<;>try exact .intro)
   ·rw [bad i hil (by rw [Bool.eq_false_iff];simp only [ne_eq,Qf3];omega)]
    (refine Qh (by intro g;simp only [go_sem,ren,Qe]) ?_);rfl
   refine Qg (fun n ts H=>∃ (k:Nat),(k≤(l.getD i s0).t.el.length)∧((∀ j,j<k→((l.getD i s0).t.el.getD j r0).num.length≤8∧((l.getD i s0).t.el.getD j r0).den.length≤8))∧(n=(l.getD i s0).t.el.length - k)∧(H=[])∧ts.length=59∧nth ts 0=.sl l.length (slC l)∧nth ts 3=.int .i64 i∧nth ts 4=.int .i64 k) ?_ (n:=(l.getD i s0).t.el.length) ?_
   ·skip
    rintro n ts H ⟨k,hk,hq,hn,hH,hL,hs0,hs3,hs4⟩;refine Qv [(0,.sl l.length (slC l)),(3,.int .i64 i),(4,.int .i64 k)] hL (by simp only [zFm,hs0,hs3,hs4,true_and];exact zNm) ?_
    clear hL hs0 hs3 hs4 ts
    refine Qw Qd ?_;by_cases hkl:k<(l.getD i s0).t.el.length
    ·have rw_:=tw.r _ (Qes r0 hkl)
     have r1:=rw_.n
     have r2:=rw_.d
     have no:¬ (((l.getD i s0).t.el.getD k r0).num.length≤8∧((l.getD i s0).t.el.getD k r0).den.length≤8)→Qgj (l.getD i s0)=false:=fun h=>by
      rw [Bool.eq_false_iff];simp only [ne_eq,Qf3];exact fun hh=>h (hh.2 k hkl)
     (refine zG ?_;(repeat' ((with_reducible apply zBr)<;>intro h<;>refine zG ?_))<;>try exact .intro)
     ·rw [bad i hil (no (by omega))];(refine Qh (by intro g;simp only [go_sem,ren,Qe]) ?_);rfl
     ·rw [bad i hil (no (by omega))];(refine Qh (by intro g;simp only [go_sem,ren,Qe]) ?_);rfl
     ·exact ⟨(l.getD i s0).t.el.length - (k+1),by omega,k+1,by omega,Qc3 hq ⟨by omega,by omega⟩,(by (repeat' apply And.intro)<;>(first | rfl | omega | (congr 1;omega) | assumption | (congr 1;assumption)))⟩
    ·have hks:k=(l.getD i s0).t.el.length:=by omega
     (refine zG ?_;(repeat' ((with_reducible apply zBr)<;>intro h<;>refine zG ?_))<;>try exact .intro)
     exact ⟨l.length - (i+1),by omega,i+1,by omega,Qc3 hp (Qf3.2 ⟨by omega,fun j hj=>hq j (by omega)⟩),(by (repeat' apply And.intro)<;>(first | rfl | omega | (congr 1;omega) | assumption | (congr 1;assumption)))⟩
   ·exact ⟨0,by omega,fun j hj=>by omega,rfl,by assumption,rfl,rfl,rfl,rfl⟩
  ·skip
   (refine zG ?_;(repeat' ((with_reducible apply zBr)<;>intro h<;>refine zG ?_))<;>try exact .intro)
   (refine Qh (by intro g;simp only [go_sem,ren,Qe]) ?_)
   have ha:l.all Qgj=true:=Ql5.2 fun j hj=>hp j (by omega)
   simp only [Qgq,ha,Bool.true_and]
   congr 1
   simp only [decide_eq_decide];omega
 ·exact ⟨0,by omega,fun j hj=>by omega,rfl,rfl,rfl,rfl,rfl⟩
theorem Xbu (xs:List Sl) (s:Sl):slC (xs++[s])=slC xs++[.int .i64 s.st,.sl s.t.shape.length (ints s.t.shape),.sl s.t.el.length (Qx s.t.el)]:=by
 rw [slC,Qb6];rfl
theorem Qx4 (xs:List Sl):(slC xs).all Yc=true:=by
 induction xs with
 | nil=>rfl
 | cons t ts ih=>rw [slC,Qev];simp only [List.all_cons];rw [show Qb2 slG ts=slC ts from rfl,ih];rfl
theorem Xhj {y:Ty} {e e' s' k:Nat} {v:V} {H:Qa} {xs:List Sl} {s:Sl} {K:V→Qa→Prop} (h:Bv.Own e 3 H v k (slC xs)) (hy:y.size=3) (hb:0<y.bytes∧y.bytes≤1000) (hl:k+1≤1000000000)
  (hK:∀ v' H',Bv.Own e 3 H' v' (k+1) (slC (xs++[s]))→Fr v H H'→kn v'=true∧cellsOf v'=[v']∧Yc v'=true→K v' H') :
  Qaa y e v (.ref H.length 0 1) (H++[some ⟨e',s',[.int .i64 s.st,.sl s.t.shape.length (ints s.t.shape),.sl s.t.el.length (Qx s.t.el)]⟩]) K:=by
 rw [← hy] at h;refine Qii h (by rw [hy];rfl) (by simp [Yc]) (by omega) (by omega) (by have:=Nat.mul_le_mul hl hb.2;omega) (Qx4 _) fun H' k1 k2 k3=>?_
 rw [hy] at k1;exact hK _ H' (by rw [Xbu];exact k1) k2 ⟨rfl,rfl,rfl⟩
theorem Xbt {l:List Sl} {i:Nat} (h:i<l.length):l.take (i+1)=l.take i++[l.getD i s0]:=Qba l s0 h
theorem Xcu {e s:Nat} {H:Qa} {w:V} {n:Nat} {cs:List V} (hw:Bv.Own e s H w n cs):kn w=true∧cellsOf w=[w]∧Yc w=true:=by
 rcases hw with ⟨rfl,_⟩ | ⟨r,rfl,_⟩<;>exact ⟨rfl,rfl,rfl⟩
theorem Qtx (l:List Sl) (hl:l.length≤1000000) (hw:∀ s∈l,s.t.shape.length≤17592186044416∧s.t.el.length≤1000000000∧∀ x∈s.t.el,RawOK x):Fc C 14 [.sl l.length (slC l)] [] fun v H=>Ret 42 3 H v l.length (slC l):=by
 refine zK Qd Tryz.func14 w14 Tryz.ntmps14 Tryz.results14 ?_
 (refine zG ?_;(repeat' ((with_reducible apply zBr)<;>intro h<;>refine zG ?_))<;>try exact .intro)
 refine Qg (fun n ts H=>∃ (i:Nat) (u:V),(i≤l.length)∧(Bv.Own 42 3 H u i (slC (l.take i)))∧(n=l.length - i)∧ts.length=27∧nth ts 0=.sl l.length (slC l)∧nth ts 3=u∧nth ts 4=.int .i64 i) ?_ (n:=l.length) ?_
 ·skip
  rintro n ts H ⟨i,u,hi,hu,hn,hL,hs0,hs3,hs4⟩;refine Qv [(0,.sl l.length (slC l)),(3,u),(4,.int .i64 i)] hL (by simp only [zFm,hs0,hs3,hs4,true_and];exact zNm) ?_
  clear hL hs0 hs3 hs4 ts
  refine Qw Qd ?_;obtain ⟨k1,c1,s1⟩:=Xcu hu;by_cases hil:i<l.length
  ·obtain ⟨w1,w2,w3⟩:=hw (l.getD i s0) (by simp [List.getD,hil])
   have ow:=Xhp (l.getD i s0).t w1 w2 w3
   (refine zG ?_;(repeat' ((with_reducible apply zBr)<;>intro h<;>refine zG ?_))<;>try exact .intro)
   refine ow.pc ⟨.self (Qpk _),trivial⟩ (Qpk _) ?_
   (apply Zo;repeat' ((with_reducible first|apply Zk|apply zBr<;>intro h)<;>try simp -implicitDefEqProofs (maxSteps:=9^7) (disch:=first|exact zDs|fail) only [go_sem,k1,c1,s1]))
   refine Xhj hu rfl ⟨by decide,by decide⟩ (by omega) fun v' H' hu' hF hk'=>?_
   rw [← Xbt hil] at hu'
   (apply Zo;repeat' ((with_reducible first|apply Zk|apply zBr<;>intro h)<;>try simp -implicitDefEqProofs (maxSteps:=9^7) (disch:=first|exact zDs|fail) only [go_sem,hk'.1,hk'.2.1,hk'.2.2]))
   exact ⟨l.length - (i+1),by omega,i+1,v',by omega,hu',rfl,(by (repeat' apply And.intro)<;>(first | rfl | omega | (congr 1;omega) | assumption | (congr 1;assumption)))⟩
  ·have hil':i=l.length:=by omega
   subst hil'
   (apply Zo;repeat' ((with_reducible first|apply Zk|apply zBr<;>intro h)<;>try simp -implicitDefEqProofs (maxSteps:=9^7) (disch:=first|exact zDs|fail) only [go_sem,k1,c1,s1]))
   rw [List.take_length] at hu;exact Own.ret hu (fun g=>Yd g _ (Kz l)) fun v H h=>h
 ·exact ⟨0,.nil,by omega,Bv.Own.nil _ _ _,rfl,rfl,rfl,rfl,rfl⟩
theorem Qvw {l:List Int} {p:Int→Prop}:(∀ x∈l,p x)↔∀ i,i<l.length→p (l.getD i 0):=by
 constructor
 ·intro h i hi;exact h _ (by simp [List.getD,hi])
 ·intro h x hx;obtain ⟨i,hi,rfl⟩:=List.getElem_of_mem hx
  have:=h i hi
  simpa [List.getD,hi] using this
theorem Qrw {xs:List Int} {i:Nat} (h:i<xs.length):Qe0 ((xs.map Qcn).take (i+1))=Qe0 ((xs.map Qcn).take i)++[.bool (Qcn (xs.getD i 0)).neg,DV (Qcn (xs.getD i 0)).num,DV (Qcn (xs.getD i 0)).den]:=by
 have:(xs.map Qcn).getD i q0=Qcn (xs.getD i 0):=by simp [List.getD,h]
 have hh:=Qyk (xs:=xs.map Qcn) (i:=i) (by simpa using h)
 rw [this] at hh;exact hh
def Qc6 (l:List Int):Tq:=⟨[(l.length:Int)],l.map Qcn⟩
def Qei (l:List Int):Tn:=Qof (Qc6 l)
theorem Qxt {l:List Int} (hl:l.length≤1000000) (hb:∀ x∈l, -9223372036854775808≤x∧x<9223372036854775808):TqOK (Qc6 l):=⟨by simp [Qc6],by simp only [Qc6,List.length_map];omega,fun x hx=>by
 simp only [Qc6,List.mem_map] at hx;obtain ⟨a,ha,rfl⟩:=hx
 have:=hb a ha
 refine ⟨?_, ?_⟩
 ·have:Qr a.natAbs≤16:=Qad (Nat.lt_of_lt_of_le (show a.natAbs<9223372036854775809 by omega) (by decide))
  show Qr a.natAbs≤_
  omega
 ·show Qr 1≤_
  rw [Qlp];decide⟩
theorem Qgo (l:List Int) (hl:l.length≤1000000) (hb:∀ x∈l, -9223372036854775808≤x∧x<9223372036854775808):Val C 28 [.sl l.length (ints l)] (Qb0 ⟨1,Qei l⟩):=by
 refine zK Qd Tryz.func28 w28 Tryz.ntmps28 Tryz.results28 ?_
 (refine zG ?_;(repeat' ((with_reducible apply zBr)<;>intro h<;>refine zG ?_))<;>try exact .intro)
 refine Qg (fun n ts H=>∃ (i:Nat) (u:V),(i≤l.length)∧(Qc H 0=some ⟨42,3,[.int .i64 0,.nil,.nil]⟩)∧(Qc H 1=some ⟨3,1,ints [(l.length:Int)]⟩)∧(Qc H 2=some ⟨32,2,[.ref 1 0 1,u]⟩)∧(Cel 3 104 3 H u i (Qe0 ((l.map Qcn).take i)))∧(n=l.length - i)∧ts.length=28∧nth ts 0=.sl l.length (ints l)∧nth ts 2=.ptr 0 0∧nth ts 3=.ptr 2 0∧nth ts 4=.int .i64 i) ?_ (n:=l.length) ?_
 ·skip
  rintro n ts H ⟨i,u,hi,h0,h1,h3,hu,hn,hL,hs0,hs2,hs3,hs4⟩;refine Qv [(0,.sl l.length (ints l)),(2,.ptr 0 0),(3,.ptr 2 0),(4,.int .i64 i)] hL (by simp only [zFm,hs0,hs2,hs3,hs4,true_and];exact zNm) ?_
  clear hL hs0 hs2 hs3 hs4 ts
  refine Qw Qd ?_
  have hlen:=Xt h3
  by_cases hcase:i<l.length
  ·have hx:=Qvw.1 hb i hcase
   (apply Zo;repeat' ((with_reducible first|apply Zk|apply zBr<;>intro h)<;>try simp -implicitDefEqProofs (maxSteps:=9^7) (disch:=first|exact zDs|fail) only [go_sem,h3]))
   refine Pc.keptF (Qut (l.getD i 0) hx.1 hx.2) (Qmx _) ⟨.self rfl,trivial⟩ fun v X hv=>?_
   obtain ⟨v1,v2,v3,rfl,hv1,hv2,hv3⟩:=hv.agg3;obtain ⟨k2,c2,s2⟩:=Js hv2.gd;obtain ⟨k3,c3,s3⟩:=Js hv3.gd
   have e1:=hv1.gd.bool_inv
   subst e1
   (apply Zo;repeat' ((with_reducible first|apply Zk|apply zBr<;>intro h)<;>try simp -implicitDefEqProofs (maxSteps:=9^7) (disch:=first|exact zDs|fail) only [go_sem,h3,k2,c2,s2,k3,c3,s3]))
   refine Cel.push3 hu rfl rfl (by omega) (by omega) hv2 hv3 s2 s3 fun v' H' hu' hk' k4 c4 s4=>?_
   have g0:=hk' 0 _ (by decide) h0
   have g1:=hk' 1 _ (by decide) h1
   have g3:=hk' 2 _ (by decide) h3
   (apply Zo;repeat' ((with_reducible first|apply Zk|apply zBr<;>intro h)<;>try simp -implicitDefEqProofs (maxSteps:=9^7) (disch:=first|exact zDs|fail) only [go_sem,g3,k4,c4,s4]))
   have f0:∀ (q:Nat) (row:Row) (z:Option Row),q≠2→Qc H' q=some row→Qc (H'.set 2 z) q=some row:=fun q row z hq hr=>by rw [Qk _ (Ne.symm hq)];exact hr
   refine ⟨l.length - (i+1),by omega,i+1,v',by omega,f0 0 _ _ (by decide) g0,f0 1 _ _ (by decide) g1,Qj g3, ?_,rfl,by congr 1⟩
   rw [Qrw hcase];exact Cel.set hu' (by decide) _
  ·obtain ⟨k4,c4,s4⟩:=Cel.kn hu
   have hil:i=l.length:=by omega
   rw [hil,List.take_of_length_le (by simp)] at hu
   have hg:Bor H (.agg [.ref 1 0 1,u]) (tqV (Qc6 l)):=Bor.aggL ⟨(Gd.flat 1 1 _ 1 (ints [(l.length:Int)]) h1 (Qb _) (Yu _)).bor,by simpa [Qc6] using (Cel.gd hu).bor,trivial⟩
   (apply Zo;repeat' ((with_reducible first|apply Zk|apply zBr<;>intro h)<;>try simp -implicitDefEqProofs (maxSteps:=9^7) (disch:=first|exact zDs|fail) only [go_sem,h3,k4,c4,s4]))
   refine (Qsn (Qc6 l) (Qxt (by omega) hb)).keptF ⟨hg,trivial⟩ fun v X hv=>?_
   obtain ⟨a,b,rfl,ha,hb'⟩:=hv.agg2;obtain ⟨ka,ca,sa⟩:=Js ha.gd;obtain ⟨kb,cb,sb⟩:=Js hb'.gd
   have a0:=Ql h0 X
   have hst:∀ z:Row,Qc ((H++X).set 0 (some z)) 0=some z:=fun z=>Qj a0
   (apply Zo;repeat' ((with_reducible first|apply Zk|apply zBr<;>intro h)<;>try simp -implicitDefEqProofs (maxSteps:=9^7) (disch:=first|exact zDs|fail) only [go_sem,a0,hst,ka,ca,sa,kb,cb,sb]))
   exact Gd.ret (Gd.aggL ⟨Xiu _ _,(ha.set (q:=0) (by omega) _).gd,(hb'.set (q:=0) (by omega) _).gd,trivial⟩)
 ·exact ⟨0,.nil,by omega,rfl,rfl,rfl,Cel.nil _ _ _ _,rfl,rfl,rfl,rfl,rfl,rfl⟩
def Xjt (o:Int) (a:List Int) (l:List Tn) (T:Tn) (e:Int):Prop:=∃ g caps,kerKs.idxOf o<kerKs.length∧nth (Qnl a) (kerKs.idxOf o)=.fn (.func g) [] caps∧Qf caps=true∧Pu C g (.sl l.length (Qek l)::caps) (Xfx T e)
def Ql4 (l:List Sl):Bool:=l.all fun s=>decide (s.st=1)
theorem Qi9 {l:List Sl}:Ql4 l=true↔∀ j,j<l.length→(l.getD j s0).st=1:=by
 simp only [Ql4,Qik s0,decide_eq_true_eq]
def Qan (v:Int) (d:Nd) (b:Int) (l:List Sl) (T:Tn) (e:Int):Sl :=
 if Xz v d≠0∨l.length≠d.args.length then s0
 else if Ql4 l=false then ⟨4,emptyT⟩
 else if (Kt v d (Qdx l)).2≠0 then s0
 else if e=17 then ⟨2,emptyT⟩
 else if e≠0 then s0
 else if 0<b∧b<Qee T.el then ⟨3,emptyT⟩
 else ⟨1,T⟩
structure LOK21 (d:Nd) (l:List Sl):Prop where
 args:d.args.length≤17592186044416
 attrs:d.attrs.length≤17592186044416
 len:l.length≤1000
 each:∀ s∈l,s.t.shape.length≤17592186044416
theorem Qe7 (l:List Sl):(Qdx l).length=l.length:=by simp [Qdx]
theorem Xbm (l:List Sl):(Qoe l).length=l.length:=by simp [Qoe]
theorem Qcu {H:Qa} (k:Int):Bor H (.agg [.int .i64 k,.nil,.nil]) (Qb0 ⟨k,emptyT⟩):=Bor.aggL ⟨.self rfl,.nil _,.nil _,trivial⟩
theorem Xnq {v:Int} {d:Nd} {l:List (List Int)} {args:List V} {H:Qa} {K:V→Qa→Prop} (hb:BorL H args [.int .i64 v,.agg (ndC d),.sl l.length (Yx l)]) (ha:d.args.length≤17592186044416) (hat:d.attrs.length≤17592186044416) (hl:l.length≤1000000) (hk:∀ k,k<l.length→(l.getD k []).length≤17592186044416) (hK:K (shV (Kt v d l)) H):Fc C 33 args H K :=
 Fc.byOwn2 (Qv5 v d l ha hat hl hk) hb (Qb _) (Yu _) rfl rfl hK
theorem Qom {v:Int} {d:Nd} {l:List (List Int)}:(Kt v d l).1.length≤4:=by
 unfold Kt
 repeat' split
 all_goals first | exact Nat.zero_le _ | skip
 rename_i h;exact (Yk (Decidable.not_not.1 h)).1
theorem Qtj {v:Int} {d:Nd} {l:List (List Int)} (h:(Kt v d l).2=0):Qk9 l=0:=by
 unfold Kt at h;split at h
 ·exact absurd h (by assumption)
 split at h
 ·cases h
 split at h
 ·exact absurd h (by assumption)
 ·omega
theorem Pc.byEq {C:Ctx} {H0:Qa} {f:FuncId} {args:List V} {H:Qa} {K:V→Qa→Prop} {u:V} (h:Fc C f args H fun v H'=>v=u∧H'=H) (hK:K u H):Pc C H0 f args H K :=
 .inl ⟨_,h,⟨u,H,rfl,rfl⟩,by rintro _ _ ⟨rfl,rfl⟩;exact ⟨Kp.refl _ _,hK⟩⟩
theorem Xct {e s:Nat} {H:Qa} {v:V} {n:Nat} {cs:List V} (h:Bv.Own e s H v n cs) (X:List V):sz H.length X v=v:=by
 rcases h with ⟨rfl,_⟩ | ⟨r,rfl,h2,_⟩
 ·rfl
 ·simp only [sz];rw [if_neg];have:=Xt h2;omega
theorem Qwu {e s e2 s2:Nat} {H H':Qa} {w u:V} {n m:Nat} {cs cs2:List V} (hw:Bv.Own e s H w n cs) (hu:Bv.Own e2 s2 H u m cs2) (hne:e≠e2) (hF:Fr u H H'):Bv.Own e s H' w n cs:=by
 rcases hw with hw | ⟨r,h1,h2,h3⟩
 ·exact .inl hw
 ·exact .inr ⟨r,h1,Zi hu hF h2 hne,h3⟩
theorem Qn3 (v:Int) (d:Nd) (b:Int) (l:List Sl) (T:Tn) (e:Int) (hL:LOK21 d l) (hT:TnOK T) (hK:Xz v d=0→l.length=d.args.length→Ql4 l=true→(Kt v d (Qdx l)).2=0→Xjt d.op (Ks v d (l.getD 0 s0).t.shape.length) (Qoe l) T e) :
  Pu C 13 [.int .i64 v,.agg (ndC d),.int .i64 b,.sl l.length (slC l)] (Qb0 (Qan v d b l T e)):=by
 have ha:=hL.args
 have hat:=hL.attrs
 have hl:=hL.len
 refine Pu.ofBor (Qbl _) ?_;refine zL Qd Tryz.func13 w13 Tryz.ntmps13 Tryz.results13 ?_
 (refine zG ?_;(repeat' ((with_reducible apply zBr)<;>intro h<;>refine zG ?_))<;>try exact .intro)
 refine Fc.pure (Qfv v d ha hat) (by simp [Qf,clo,Qb]) (fun g=>rfl) ?_
 (refine zG ?_;(repeat' ((with_reducible apply zBr)<;>intro h<;>refine zG ?_))<;>try exact .intro)
 ·rw [Qan,if_pos (.inl (by assumption))];exact Qcu 0
 ·rw [Qan,if_pos (.inr (by omega))];exact Qcu 0
 have hc:Xz v d=0:=by assumption
 have hln:l.length=d.args.length:=by omega
 have hK:=hK hc hln
 refine Qg (fun n ts H=>∃ (i:Nat) (u w:V),(i≤l.length)∧(Qc H 0=some ⟨25,3,ndC d⟩)∧(Qc H 1=some ⟨42,3,[.int .i64 0,.nil,.nil]⟩)∧((∀ j,j<i→(l.getD j s0).st=1))∧(Bv.Own 37 1 H u i (Yx (Qdx (l.take i))))∧(Bv.Own 40 2 H w i (Qek (Qoe (l.take i))))∧(n=l.length - i)∧ts.length=95∧nth ts 0=.int .i64 v∧nth ts 2=.int .i64 b∧nth ts 3=.sl l.length (slC l)∧nth ts 5=.ptr 0 0∧nth ts 8=.ptr 1 0∧nth ts 9=u∧nth ts 10=w∧nth ts 30=.sl l.length (slC l)∧nth ts 31=.int .i64 (l.length:Nat)∧nth ts 32=.int .i64 i) ?_ (n:=l.length) ?_
 ·skip
  rintro n ts H ⟨i,u,w,hi,h0,h1,hv,hu,hw,hn,hL,hs0,hs2,hs3,hs5,hs8,hs9,hs10,hs30,hs31,hs32⟩;refine Qv [(0,.int .i64 v),(2,.int .i64 b),(3,.sl l.length (slC l)),(5,.ptr 0 0),(8,.ptr 1 0),(9,u),(10,w),(30,.sl l.length (slC l)),(31,.int .i64 (l.length:Nat)),(32,.int .i64 i)] hL (by simp only [zFm,hs0,hs2,hs3,hs5,hs8,hs9,hs10,hs30,hs31,hs32,true_and];exact zNm) ?_
  clear hL hs0 hs2 hs3 hs5 hs8 hs9 hs10 hs30 hs31 hs32 ts
  obtain ⟨k1,c1,s1⟩:=Qk1 hu;obtain ⟨k2,c2,s2⟩:=Qk1 hw
  have hlen:=Xt h1
  by_cases hil:i<l.length
  ·refine Qw Qd ?_
   have h1k:∀ X,Qc (H++X) 1=some ⟨42,3,[.int .i64 0,.nil,.nil]⟩:=fun X=>Ql h1 X
   have hst:∀ X z,Qc ((H++X).set 1 (some z)) 1=some z:=fun X z=>Qj (h1k X)
   (apply Zo;repeat' ((with_reducible first|apply Zk|apply zBr<;>intro h)<;>try simp -implicitDefEqProofs (maxSteps:=9^7) (disch:=first|exact zDs|fail) only [go_sem,h1k,hst,k1,c1,s1,k2,c2,s2]))
   ·rw [Qan,if_neg (by omega),if_pos (by
     rw [Bool.eq_false_iff];intro hh;exact (by assumption:(l.getD i s0).st≠1) (Qi9.1 hh i hil))]
    exact Qcu 4
   ·have hvi:(l.getD i s0).st=1:=by assumption
    refine Qkd (r:=H.length) (Xx _ _) (by simp [Qf,clo,Qb,Qt]) ?_
    rw [Qj6]
    have n0:¬ 0=H.length:=by omega
    have n1:¬ 1=H.length:=by omega
    have su:=Xct hu
    have sw:=Xct hw
    simp only [List.map_cons,List.map_nil,sz,szL,Yr _ _ _ (Qb _),Yr _ _ _ (Qt _),Yr _ _ _ (Kz _),n0,n1,su,sw,if_true,if_false,Qwn,List.set_cons_zero];refine Xnp Qd (by simp only [Zr];decide) ?_
    (apply Zo;repeat' ((with_reducible first|apply Zk|apply zBr<;>intro h)<;>try simp -implicitDefEqProofs (maxSteps:=9^7) (disch:=first|exact zDs|fail) only [go_sem,k1,c1,s1,k2,c2,s2]))
    refine Xcp (hu.keep [none]) rfl ⟨by decide,by decide⟩ (by omega) fun u' H1 hu1 hF1 hk1=>?_
    rw [← Qx7 hil] at hu1
    have hw1:=Qwu (hw.keep [none]) (hu.keep [none]) (by decide) hF1
    have g0:=Zi (hu.keep [none]) hF1 (Ql h0 _) (by decide)
    have g1:=Zi (hu.keep [none]) hF1 (Ql h1 _) (by decide)
    (apply Zo;repeat' ((with_reducible first|apply Zk|apply zBr<;>intro h)<;>try simp -implicitDefEqProofs (maxSteps:=9^7) (disch:=first|exact zDs|fail) only [go_sem,hk1.1,hk1.2.1,hk1.2.2,k2,c2,s2]))
    refine Xco hw1 rfl ⟨by decide,by decide⟩ (by omega) fun w' H2 hw2 hF2 hk2=>?_
    rw [← Qx1 hil] at hw2
    have hu2:=Qwu hu1 hw1 (by decide) hF2
    (apply Zo;repeat' ((with_reducible first|apply Zk|apply zBr<;>intro h)<;>try simp -implicitDefEqProofs (maxSteps:=9^7) (disch:=first|exact zDs|fail) only [go_sem,hk1.1,hk1.2.1,hk1.2.2,hk2.1,hk2.2.1,hk2.2.2]))
    exact ⟨l.length - (i+1),by omega,i+1,u',w',by omega,Zi hw1 hF2 g0 (by decide),Zi hw1 hF2 g1 (by decide),Qc3 hv hvi,hu2,hw2,rfl,(by (repeat' apply And.intro)<;>(first | rfl | omega | (congr 1;omega) | assumption | (congr 1;assumption)))⟩
  ·have hil':i=l.length:=by omega
   subst hil';rw [List.take_length] at hu hw
   have hall:Ql4 l=true:=Qi9.2 hv
   have hpos:0<l.length:=by
    have:=(Kf hc).2.2.1
    have:=Qo4 (Kf hc).2.1
    have:1≤least d.op:=by
     unfold least
     repeat' split
     all_goals omega
    omega
   have hdl:d.attrs.length≤1000000:=by
    have hat2:=Qpb (v:=v) (d:=d) (l.getD 0 s0).t.shape.length hc
    obtain ⟨_,_,_,_,h3⟩:=Kf hc;rcases h3 with ⟨h3,_⟩ | h3
    ·omega
    ·have:=Qi8 h3;omega
   have hK:=hK hall
   obtain ⟨qu,rfl,hru⟩:∃ q,u=.ref q 0 l.length∧Qc H q=some ⟨37,1,Yx (Qdx l)⟩:=by
    rcases hu with ⟨_,h,_⟩ | ⟨q,h1,h2,_⟩
    ·omega
    ·exact ⟨q,h1,h2⟩
   obtain ⟨qw,rfl,hrw⟩:∃ q,w=.ref q 0 l.length∧Qc H q=some ⟨40,2,Qek (Qoe l)⟩:=by
    rcases hw with ⟨_,h,_⟩ | ⟨q,h1,h2,_⟩
    ·omega
    ·exact ⟨q,h1,h2⟩
   have nu0:¬ 0=qu:=by rintro rfl;rw [h0] at hru;cases hru
   have nu1:¬ 1=qu:=by rintro rfl;rw [h1] at hru;cases hru
   have nw0:¬ 0=qw:=by rintro rfl;rw [h0] at hrw;cases hrw
   have nw1:¬ 1=qw:=by rintro rfl;rw [h1] at hrw;cases hrw
   have nuw:¬ qw=qu:=by rintro rfl;rw [hru] at hrw;cases hrw
   refine Qkd hru (Qi _) ?_;refine Qkd (r:=qw) ((Qk _ (Ne.symm nuw)).trans hrw) (Qls _) ?_;rw [Qj6,Qj6];simp only [List.map_cons,List.map_nil,sz,szL,Yr _ _ _ (Qb _),Yr _ _ _ (Qi _),Yr _ _ _ (Qls _),Yr _ _ _ (Kz _),nu0,nu1,nw0,nw1,nuw,if_true,if_false,List.drop_zero]
   have g0:Qc ((H.set qu none).set qw none) 0=_:=(Qk _ (Ne.symm nw0)).trans ((Qk _ (Ne.symm nu0)).trans h0)
   have g1:Qc ((H.set qu none).set qw none) 1=_:=(Qk _ (Ne.symm nw1)).trans ((Qk _ (Ne.symm nu1)).trans h1)
   generalize (H.set qu none).set qw none=G at *;refine Qw Qd ?_
   (apply Zo;repeat' ((with_reducible first|apply Zk|apply zBr<;>intro h)<;>try simp -implicitDefEqProofs (maxSteps:=9^7) (disch:=first|exact zDs|fail) only [go_sem,g0,g1]))
   refine Xnq (v:=v) (d:=d) (l:=Qdx l) ⟨.self rfl,.self (by simp [clo,Qf,Qb]),(by rw [Qe7];exact .self (by simp [clo,Qi])),trivial⟩ ha hat (by rw [Qe7];omega) (fun k hk=>?_) ?_
   ·rw [Qe7] at hk;rw [show (Qdx l).getD k []=(l.getD k s0).t.shape by simp [Qdx,List.getD,hk]]
    exact hL.each _ (Qes s0 hk)
   have hsl:=@Qom v d (Qdx l)
   have hrank:(Kt v d (Qdx l)).2=0→((Qdx l).getD 0 []).length≤4:=fun h=>(Yk (Qng.1 (Qtj h) _ (Qes [] (by rw [Qe7];exact hpos)))).1
   generalize hrr:Kt v d (Qdx l)=r at *
   have hst:∀ z,Qc (G.set 1 (some z)) 1=some z:=fun z=>Qj g1
   have g0k:∀ X,Qc (G++X) 0=some ⟨25,3,ndC d⟩:=fun X=>Ql g0 X
   have g1k:∀ X,Qc (G++X) 1=some ⟨42,3,[.int .i64 0,.nil,.nil]⟩:=fun X=>Ql g1 X
   have hstk:∀ X z,Qc ((G++X).set 1 (some z)) 1=some z:=fun X z=>Qj (g1k X)
   have hs0:0<(Qdx l).length:=by rw [Qe7];exact hpos
   have hsh:(Qdx l).getD 0 []=(l.getD 0 s0).t.shape:=by simp [Qdx,List.getD,hpos]
   have hex:(l.getD 0 s0).t.shape.length≤17592186044416:=hL.each _ (Qes s0 hpos)
   (apply Zo;repeat' ((with_reducible first|apply Zk|apply zBr<;>intro h)<;>try simp -implicitDefEqProofs (maxSteps:=9^7) (disch:=first|exact zDs|fail) only [go_sem,g0,g1,hst]))
   ·rw [Qan,if_neg (by omega),if_neg (by rw [hall];decide),if_pos (by rw [hrr];assumption)];exact Qcu 0
   have hr2:r.2=0:=by assumption
   obtain ⟨g,caps,q1,q2,q3,q4⟩:=hK hr2;rw [Xbm] at q4;refine RunU.now ?_
   have hrank:=hrank hr2
   rw [hsh] at hrank
   (apply Zo;repeat' ((with_reducible first|apply Zk|apply zBr<;>intro h)<;>try simp -implicitDefEqProofs (maxSteps:=9^7) (disch:=first|exact zDs|fail) only [go_sem,g0,hsh]))
   refine Pc.byEq (Fc.byOwn (Qgn v d (l.getD 0 s0).t.shape.length (by omega) ha hdl) ⟨.self rfl,.self (by simp [clo,Qf,Qb]),(Qj9 (H:=G) (e:=3) (s:=1) (cs:=ints [((l.getD 0 s0).t.shape.length:Int)]) (n:=1) rfl).bor' (Qb _),trivial⟩ (Qb _) (Yu _) ⟨rfl,rfl⟩) ?_
   generalize Ks v d (l.getD 0 s0).t.shape.length=at' at *
   (apply Zo;repeat' ((with_reducible first|apply Zk|apply zBr<;>intro h)<;>try simp -implicitDefEqProofs (maxSteps:=9^7) (disch:=first|exact zDs|fail) only [go_sem,g0,hsh]))
   refine Pc.pure (Quo at') (by simp [Qf,clo,Qb]) (fun g=>Ya _ _ (Qnu at')) ?_
   (apply Zo;repeat' ((with_reducible first|apply Zk|apply zBr<;>intro h)<;>try simp -implicitDefEqProofs (maxSteps:=9^7) (disch:=first|exact zDs|fail) only [go_sem,g0,hsh,q1,q2]))
   refine Pc.pure q4 (by simp [Qf,clo,Qls,q3]) (fun g=>Ya _ _ (Qid T e)) ?_
   (apply Zo;repeat' ((with_reducible first|apply Zk|apply zBr<;>intro h)<;>try simp -implicitDefEqProofs (maxSteps:=9^7) (disch:=first|exact zDs|fail) only [go_sem,g1k,hstk]))
   ·rw [Qan,if_neg (by omega),if_neg (by rw [hall];decide),if_neg (by rw [hrr];omega),if_pos (by assumption)];exact Qcu 2
   ·rw [Qan,if_neg (by omega),if_neg (by rw [hall];decide),if_neg (by rw [hrr];omega),if_neg (by assumption),if_pos (by assumption)];exact Qcu 0
   ·refine Fc.pure (Qss b T hT) (by simp [Qf,clo,Qb,Qt]) (fun g=>rfl) ?_
    by_cases hb:0<b∧b<Qee T.el
    ·rw [show (decide (b≤0)||decide ((Qee T.el:Int)≤b))=false by simp;omega]
     (apply Zo;repeat' ((with_reducible first|apply Zk|apply zBr<;>intro h)<;>try simp -implicitDefEqProofs (maxSteps:=9^7) (disch:=first|exact zDs|fail) only [go_sem,g1k,hstk]))
     rw [Qan,if_neg (by omega),if_neg (by rw [hall];decide),if_neg (by rw [hrr];omega),if_neg (by assumption),if_neg (by omega),if_pos hb];exact Qcu 3
    ·rw [show (decide (b≤0)||decide ((Qee T.el:Int)≤b))=true by simp;omega]
     (apply Zo;repeat' ((with_reducible first|apply Zk|apply zBr<;>intro h)<;>try simp -implicitDefEqProofs (maxSteps:=9^7) (disch:=first|exact zDs|fail) only [go_sem,g1k,hstk]))
     rw [Qan,if_neg (by omega),if_neg (by rw [hall];decide),if_neg (by rw [hrr];omega),if_neg (by assumption),if_neg (by omega),if_neg hb]
     exact .self (Qbl ⟨1,T⟩)
 ·exact ⟨0,.nil,.nil,by omega,rfl,rfl,fun j hj=>by omega,Bv.Own.nil _ _ _,Bv.Own.nil _ _ _,rfl,rfl,rfl,rfl,rfl,rfl,rfl,rfl,rfl,rfl,rfl,rfl⟩
def Qll (ty:TypeId→Ty) (o:Option (Nat × Nat)) (cs:List V) (K:V→Prop):Prop:=match o with
 | some (o,u)=>(ty u).ok=true∧chk (o+(ty u).size≤cs.length) (K (Qgt (ty u) cs o))
 | none=>False
theorem Qu3 (ty:TypeId→Ty) (y:Ty) (cs:List V) (f:Nat) (K:V→Prop):Qbi ty y (.agg cs) f K=Qll ty (y.fs[f]?) cs K:=by
 unfold Qbi Qll;cases y.fs[f]?<;>rfl
@[congr] theorem Xiw {uu:Prop} (h00:(True∧True)=uu) (ty:TypeId→Ty) {o o':Option (Nat × Nat)} (cs:List V) (K:V→Prop) (h:o=o'):Qll ty o cs K=Qll ty o' cs K:=by rw [h]
theorem Qr4 (ty:TypeId→Ty) (o u:Nat) (cs:List V) (K:V→Prop):Qll ty (some (o,u)) cs K=((ty u).ok=true∧chk (o+(ty u).size≤cs.length) (K (Qgt (ty u) cs o))):=rfl
attribute [go_sem] Qu3 Qr4
theorem Fc.wk {C:Ctx} {f:FuncId} {args args':List V} {H:Qa} {K:V→Qa→Prop} (hl:args.length=args'.length) (hw:∀ im pl w j c,VR im pl w (nth args j) c→VR im pl w (nth args' j) c) (h:Fc C f args' H K):Fc C f args H K :=
 ⟨h.1,fun im pl w vs h1 h2 h3=>h.2 im pl w vs (by omega) (fun j=>hw _ _ _ _ _ (h2 j)) h3⟩
theorem Qug {im:Nat→Prop} {pl:Nat→Bv.Place} {w:World} {c:Value} (cs:List V) (h:VR im pl w .nil c):VR im pl w (.sl 0 cs) c:=by
 cases h;exact .sl0 _ _ _
theorem Xo8 {im:Nat→Prop} {pl:Nat→Bv.Place} {w:World} {c:Value} {x y:V} (cs:List V) (h:VR im pl w (.agg [x,y,.nil]) c):VR im pl w (.agg [x,y,.sl 0 cs]) c:=by
 cases h with
 | agg _ vs hl hr =>
  refine .agg _ vs hl fun j=>?_
  match j with
  | 0=>exact hr 0
  | 1=>exact hr 1
  | 2=>exact Qug cs (hr 2)
  | j+3=>exact hr (j+3)
theorem Qim {v o b:Int} {x y:Sl} {r:Nat} {H:Qa} {K:V→Qa→Prop} {u:Sl} {T:Tn} {e:Int} (hrow:Qc H r=some ⟨42,3,slC [x,y]⟩) (hx:x.t.shape.length≤4) (hy:y.t.shape.length≤4) (hT:TnOK T)
  (hK:Xz v ⟨o,[0,0],[]⟩=0→2=2→Ql4 [x,y]=true→(Kt v ⟨o,[0,0],[]⟩ [x.t.shape,y.t.shape]).2=0→Xjt o (Ks v ⟨o,[0,0],[]⟩ x.t.shape.length) [x.t,y.t] T e)
  (hu:Qan v ⟨o,[0,0],[]⟩ b [x,y] T e=u) (h:K (Qb0 u) (H.set r none)):Fc C 13 [.int .i64 v,.agg [.int .i64 o,.sl 2 [.int .i64 0,.int .i64 0],.nil],.int .i64 b,.ref r 0 2] H K:=by
 refine Fc.sealed hrow (Kz _) ?_;simp only [szL,sz,if_true,List.drop_zero];refine Fc.wk (args':=[.int .i64 v,.agg (ndC ⟨o,[0,0],[]⟩),.int .i64 b,.sl 2 (slC [x,y])]) rfl (fun im pl w j c hv=>?_) ?_
 ·match j with
  | 0=>exact hv
  | 1=>exact Xo8 _ hv
  | j+2=>exact hv
 subst hu;refine Fc.pure (Qn3 v ⟨o,[0,0],[]⟩ b [x,y] T e ⟨by simp,by simp,by simp,fun s hs=>?_⟩ hT hK) (by simp [Qf,clo,Kz,ndC,Qb]) (fun g=>Ya _ _ (Qbl _)) h
 simp only [List.mem_cons,List.not_mem_nil,or_false] at hs;rcases hs with rfl | rfl<;>omega
def X1:Tn:=Qei [1, -2]
def Y1:Tn:=Qei [2,0]
def M1:Tn:=Qmi (Qjs (Qey fun a b=>Xc [a,b]) X1 X1) (Qa8 (Qey fun a b=>Xc [a,b]) X1 X1)
theorem Qqi {x:Raw} (h:(decide (x.num.length≤100)&&decide (x.den.length≤100)&&x.num.all (fun n=>decide (n<4294967296))&&x.den.all (fun n=>decide (n<4294967296)))=true):RawOK x:=by
 simp only [Bool.and_eq_true,decide_eq_true_eq,List.all_eq_true] at h;exact ⟨by omega,by omega,h.1.2,h.2⟩
theorem Qae {t:Tn} (h:(decide (t.shape.length≤100)&&decide (t.el.length≤100)&&t.el.all fun x=>decide (x.num.length≤100)&&decide (x.den.length≤100)&&x.num.all (fun n=>decide (n<4294967296))&&x.den.all (fun n=>decide (n<4294967296)))=true):TnOK t:=by
 simp only [Bool.and_eq_true,decide_eq_true_eq] at h;exact ⟨by omega,by omega,fun x hx=>Qqi (List.all_eq_true.1 h.2 x hx)⟩
theorem Xf1:TnOK X1:=Qae (by kernel_rfl)
theorem Xpr:TnOK Y1:=Qae (by kernel_rfl)
theorem Xgb:TnOK M1:=Qae (by kernel_rfl)
theorem Xps:TnOK (Qei [1,4]):=Qae (by kernel_rfl)
theorem Xm0:Qa8 Qmk X1 Y1=17:=by kernel_rfl
theorem Xl5:Qa8 (Qey fun a b=>Xc [a,b]) X1 X1=0:=by kernel_rfl
theorem Qxe:Qee M1.el=3:=by kernel_rfl
theorem Xhb:Qmv M1 (Qei [1,4])=true:=by kernel_rfl
theorem Xqf:Qan 3 ⟨4,[0,0],[]⟩ 0 [⟨1,X1⟩,⟨1,Y1⟩] emptyT 17=⟨2,emptyT⟩:=by
 rw [Qan,if_neg (by decide),if_neg (by decide),if_neg (by decide),if_pos rfl]
theorem Xqe:Qan 3 ⟨1,[0,0],[]⟩ 0 [⟨1,X1⟩,⟨2,emptyT⟩] emptyT 0=⟨4,emptyT⟩:=by
 rw [Qan,if_neg (by decide),if_pos (by decide)]
theorem Xqd:Qan 3 ⟨3,[0,0],[]⟩ 2 [⟨1,X1⟩,⟨1,X1⟩] M1 0=⟨3,emptyT⟩:=by
 rw [Qan,if_neg (by decide),if_neg (by decide),if_neg (by decide),if_neg (by decide),if_neg (by decide),if_pos (by rw [Qxe];decide)]
theorem Xqc:Qan 3 ⟨3,[0,0],[]⟩ 3 [⟨1,X1⟩,⟨1,X1⟩] M1 0=⟨1,M1⟩:=by
 rw [Qan,if_neg (by decide),if_neg (by decide),if_neg (by decide),if_neg (by decide),if_neg (by decide),if_neg (by rw [Qxe];decide)]
theorem Xii {a:List Int}:Xjt 4 a [X1,Y1] emptyT 17:=by
 refine ⟨152,[.rp [.fn (.func 65) [] []] 0],by decide,rfl,by simp [Qf,clo],Qwg 65 X1 Y1 [] emptyT 17 ?_⟩
 have h:=Qyy X1 Y1 Xf1 Xpr
 rw [Xm0] at h;exact h
theorem Qw4 {a:List Int}:Xjt 3 a [X1,X1] M1 0:=by
 refine ⟨152,[.rp [.fn (.func 64) [] []] 0],by decide,rfl,by simp [Qf,clo],Qwg 64 X1 X1 [] M1 0 ?_⟩
 have h:=Qyu X1 X1 Xf1 Xf1
 unfold M1;rw [Xl5] at h ⊢;exact h
theorem Kn:Pu C 10 [] (.bool true):=by
 have w1:Val C 28 [.sl 2 [.int .i64 1,.int .i64 (-2)]] (Qb0 ⟨1,X1⟩):=Qgo [1, -2] (by decide) (by decide)
 have w2:Val C 28 [.sl 2 [.int .i64 2,.int .i64 0]] (Qb0 ⟨1,Y1⟩):=Qgo [2,0] (by decide) (by decide)
 have w3:Val C 28 [.sl 2 [.int .i64 1,.int .i64 4]] (Qb0 ⟨1,Qei [1,4]⟩):=Qgo [1,4] (by decide) (by decide)
 refine zK Qd Tryz.func10 w10 Tryz.ntmps10 Tryz.results10 ?_
 (refine zG ?_;(repeat' ((with_reducible apply zBr)<;>intro h<;>refine zG ?_))<;>try exact .intro)
 refine w1.call ⟨.self rfl,trivial⟩ (Qbl _) ?_
 (refine zG ?_;(repeat' ((with_reducible apply zBr)<;>intro h<;>refine zG ?_))<;>try exact .intro)
 refine w2.call ⟨.self rfl,trivial⟩ (Qbl _) ?_
 (apply Zo;repeat' ((with_reducible first|apply Zk|apply zBr<;>intro h)<;>try simp -implicitDefEqProofs (maxSteps:=9^7) (disch:=first|exact zDs|fail) only [go_sem,Qb0]))
 refine Qim (x:=⟨1,X1⟩) (y:=⟨1,Y1⟩) (T:=emptyT) (e:=17) rfl (by decide) (by decide) (Qae rfl) (fun _ _ _ _=>Xii) Xqf ?_
 (apply Zo;repeat' ((with_reducible first|apply Zk|apply zBr<;>intro h)<;>try simp -implicitDefEqProofs (maxSteps:=9^7) (disch:=first|exact zDs|fail) only [go_sem,Qb0]))
 refine Qim (x:=⟨1,X1⟩) (y:=⟨2,emptyT⟩) (T:=emptyT) (e:=0) rfl (by decide) (by decide) (Qae rfl) (fun _ _ h _=>by exact absurd h (by decide)) Xqe ?_
 (apply Zo;repeat' ((with_reducible first|apply Zk|apply zBr<;>intro h)<;>try simp -implicitDefEqProofs (maxSteps:=9^7) (disch:=first|exact zDs|fail) only [go_sem,Qb0]))
 refine Qim (x:=⟨1,X1⟩) (y:=⟨1,X1⟩) (T:=M1) (e:=0) rfl (by decide) (by decide) Xgb (fun _ _ _ _=>Qw4) Xqd ?_
 (apply Zo;repeat' ((with_reducible first|apply Zk|apply zBr<;>intro h)<;>try simp -implicitDefEqProofs (maxSteps:=9^7) (disch:=first|exact zDs|fail) only [go_sem,Qb0]))
 refine Qim (x:=⟨1,X1⟩) (y:=⟨1,X1⟩) (T:=M1) (e:=0) rfl (by decide) (by decide) Xgb (fun _ _ _ _=>Qw4) Xqc ?_
 (apply Zo;repeat' ((with_reducible first|apply Zk|apply zBr<;>intro h)<;>try simp -implicitDefEqProofs (maxSteps:=9^7) (disch:=first|exact zDs|fail) only [go_sem,Qb0]))
 refine w3.pc ⟨.self rfl,trivial⟩ (Qbl _) ?_
 (apply Zo;repeat' ((with_reducible first|apply Zk|apply zBr<;>intro h)<;>try simp -implicitDefEqProofs (maxSteps:=9^7) (disch:=first|exact zDs|fail) only [go_sem,Qb0]))
 refine Pc.pure (Qqo M1 (Qei [1,4]) Xgb Xps) (by simp [Qf,clo,Qb,Qt]) (fun g=>rfl) ?_
 rw [Xhb]
 (refine zG ?_;(repeat' ((with_reducible apply zBr)<;>intro h<;>refine zG ?_))<;>try exact .intro)
 (refine Qh (by intro g;simp only [go_sem,ren,Qe]) ?_)
 rfl
end Go.Proofs.YtepjcbnpbcmfcaaGreat
end
section
namespace Go.Proofs.YtepjcbnpbcmfcaaGreat
open Go.Bv
theorem Qqw:∀ (l:List Sl) (p:Nat) (x:Sl),p<l.length→Ki (slC l) (p*3) [.int .i64 x.st,.sl x.t.shape.length (ints x.t.shape),.sl x.t.el.length (Qx x.t.el)]=slC (l.set p x)
 | [],p,x,h=>by simp at h
 | a::l,0,x,h=>rfl
 | a::l,p+1,x,h=>by
  have ih:=Qqw l p x (by simpa using h)
  have e:slC (a::l)=.int .i64 a.st::.sl a.t.shape.length (ints a.t.shape)::.sl a.t.el.length (Qx a.t.el)::slC l:=rfl
  have e2:slC ((a::l).set (p+1) x)=.int .i64 a.st::.sl a.t.shape.length (ints a.t.shape)::.sl a.t.el.length (Qx a.t.el)::slC (l.set p x):=rfl
  rw [e,e2,← ih,show (p+1)*3=p*3+1+1+1 by omega]
  simp only [Ki,upd]
theorem Xbv {im:Nat→Prop} {pl:Nat→Bv.Place} {w:World} {c:Value} {l:List Sl} {q:Nat} {st:Int} (hq:q<l.length) (h:VR im pl w (.sl l.length (Ki (slC l) (q*3) [.int .i64 st,.nil,.nil])) c):VR im pl w (.sl (l.set q ⟨st,emptyT⟩).length (slC (l.set q ⟨st,emptyT⟩))) c:=by
 rw [← Qqw l q ⟨st,emptyT⟩ hq,List.length_set]
 have hl:=Qwl l
 generalize hn:l.length=n at *;cases h with
 | sl0 _ a c=>exact .sl0 _ a c
 | sl _ _ ad c vs h1 h2 h3 h4 =>
  refine .sl _ _ ad c vs h1 h2 (fun j hj=>h3 j (by rwa [Jh] at hj ⊢)) fun j=>?_
  have hj:=h4 j
  rw [Qd3 _ _ _ _ (by simp;omega)] at hj ⊢
  by_cases hc:q*3≤j∧j<q*3+3
  ·rw [if_pos (by simpa using hc)] at hj ⊢
   obtain ⟨k,rfl⟩:∃ k,j=q*3+k:=⟨j - q*3,by omega⟩
   rw [show q*3+k - q*3=k by omega] at hj ⊢
   match k with
   | 0=>exact hj
   | 1=>exact Qug _ hj
   | 2=>exact Qug _ hj
   | k+3=>omega
  ·rw [if_neg (by simpa using hc)] at hj ⊢
   exact hj
theorem Xjg {l:List V} (h:∀ j,clo (nth l j)=true):Qf l=true:=by
 rw [Qlu,List.all_eq_true];intro x hx;obtain ⟨i,hi,rfl⟩:=List.mem_iff_getElem.1 hx
 have:=h i
 rwa [Xo,show l.getD i .any=l[i] by simp [List.getD,hi]] at this
theorem Xak {l:List Sl} {q:Nat} {st:Int} (hq:q<l.length):Qf (Ki (slC l) (q*3) [.int .i64 st,.nil,.nil])=true:=Xjg fun j=>by
 rw [Qd3 _ _ _ _ (by simp only [Qwl,List.length_cons,List.length_nil];omega)]
 split
 ·rename_i hj;generalize j - q*3=k
  match k with
  | 0=>rfl
  | 1=>rfl
  | 2=>rfl
  | k+3=>rfl
 ·exact Ys (Kz l) j
theorem Qp4 (v:Int) (d:Nd) (l:List Sl) (at' st:Int) (h1:d.args.length≤17592186044416) (h2:d.attrs.length≤17592186044416) (hl:l.length≤140737488355328) (hw:∀ s∈l,TnW s.t) (ha:-9223372036854775808≤at'∧at'≤9223372036854775807) :
  Pu C 7 [.int .i64 v,.agg (ndC d),.sl l.length (slC l),.int .i64 at',.int .i64 st] (.bool true):=by
 have sm:=Qoi l hl hw
 refine zK Qd Tryz.func7 w7 Tryz.ntmps7 Tryz.results7 ?_
 (refine zG ?_;(repeat' ((with_reducible apply zBr)<;>intro h<;>refine zG ?_))<;>try exact .intro)
 refine Fc.pure sm (by simp [Qf,clo,Kz]) (fun g=>rfl) ?_
 cases hs:Qgq l with
 | false =>
  (refine zG ?_;(repeat' ((with_reducible apply zBr)<;>intro h<;>refine zG ?_))<;>try exact .intro)
  refine Fc.pure (Kn) (by simp [go_sem,Qf,clo,Qb,Qi]) (by intro g;simp only [go_sem,ren,Qe]) ?_
  (refine zG ?_;(repeat' ((with_reducible apply zBr)<;>intro h<;>refine zG ?_))<;>try exact .intro)
  (refine Qh (by intro g;simp only [go_sem,ren,Qe]) ?_)
  rfl
 | true =>
  have hl9:l.length≤9:=by simp only [Qgq,Bool.and_eq_true,decide_eq_true_eq] at hs;exact hs.2
  have hgood:=Ql5.1 (by simp only [Qgq,Bool.and_eq_true] at hs;exact hs.1:l.all Qgj=true)
  have how:∀ s∈l,s.t.shape.length≤17592186044416∧s.t.el.length≤1000000000∧∀ x∈s.t.el,RawOK x:=fun s hs=>by
   obtain ⟨i,hi,rfl⟩:=List.mem_iff_getElem.1 hs
   have hg:=Qf3.1 (hgood i hi)
   rw [show l.getD i s0=l[i] by simp [List.getD,hi]] at hg
   have hW:=hw _ hs
   refine ⟨hW.s,by omega,fun x hx=>?_⟩
   obtain ⟨k,hk,rfl⟩:=List.mem_iff_getElem.1 hx
   have:=hg.2 k hk
   rw [show (l[i]).t.el.getD k r0=(l[i]).t.el[k] by rw [List.getD_eq_getElem?_getD,List.getElem?_eq_getElem hk];rfl] at this
   have hx':=hW.r _ hx
   exact ⟨by omega,by omega,hx'.nL,hx'.dL⟩
  (refine zG ?_;(repeat' ((with_reducible apply zBr)<;>intro h<;>refine zG ?_))<;>try exact .intro)
  ·skip
   refine Fc.pure (Kn) (by simp [go_sem,Qf,clo,Qb,Qi]) (by intro g;simp only [go_sem,ren,Qe]) ?_
   (refine zG ?_;(repeat' ((with_reducible apply zBr)<;>intro h<;>refine zG ?_))<;>try exact .intro)
   (refine Qh (by intro g;simp only [go_sem,ren,Qe]) ?_)
   rfl
  ·skip
   refine Fc.pure (Kn) (by simp [go_sem,Qf,clo,Qb,Qi]) (by intro g;simp only [go_sem,ren,Qe]) ?_
   (refine zG ?_;(repeat' ((with_reducible apply zBr)<;>intro h<;>refine zG ?_))<;>try exact .intro)
   (refine Qh (by intro g;simp only [go_sem,ren,Qe]) ?_)
   rfl
  refine Fc.pure (Qp9 v d h1 h2) (by simp [Qf,clo,Qb]) (fun g=>rfl) ?_
  (refine zG ?_;(repeat' ((with_reducible apply zBr)<;>intro h<;>refine zG ?_))<;>try exact .intro)
  ·skip
   refine Fc.pure (Kn) (by simp [go_sem,Qf,clo,Qb,Qi]) (by intro g;simp only [go_sem,ren,Qe]) ?_
   (refine zG ?_;(repeat' ((with_reducible apply zBr)<;>intro h<;>refine zG ?_))<;>try exact .intro)
   (refine Qh (by intro g;simp only [go_sem,ren,Qe]) ?_)
   rfl
  ·skip
   refine Fc.pure (Kn) (by simp [go_sem,Qf,clo,Qb,Qi]) (by intro g;simp only [go_sem,ren,Qe]) ?_
   (refine zG ?_;(repeat' ((with_reducible apply zBr)<;>intro h<;>refine zG ?_))<;>try exact .intro)
   (refine Qh (by intro g;simp only [go_sem,ren,Qe]) ?_)
   rfl
  have hst:st≠1:=by assumption
  have hc:Xz v d=0:=by assumption
  have hln:l.length=d.args.length:=by omega
  have hpos:0<l.length:=by omega
  refine Fc.own (Qtx l (by omega) how) (by simp [Qf,clo,Kz]) (fun g=>Yd g _ (Kz l)) fun u X hu=>?_
  obtain ⟨r,rfl,hr⟩:∃ r,u=.ref r 0 l.length∧Qc ([some ⟨25,3,[.int .i64 d.op,.sl d.args.length (ints d.args),.sl d.attrs.length (ints d.attrs)]⟩]++X) r=some ⟨42,3,slC l⟩:=by
   rcases hu with ⟨_,h,_⟩ | ⟨q,h1,h2,_⟩
   ·omega
   ·exact ⟨q,h1,h2⟩
  have hwr:0≤IntKind.wrap .u64 at':=by
   unfold IntKind.wrap;simp [IntKind.signed,IntKind.bits];omega
  obtain ⟨a0,ha0⟩:∃ a0:Nat,IntKind.wrap .u64 at'=(a0:Int):=⟨(IntKind.wrap .u64 at').toNat,by omega⟩
  have hmod:(IntKind.wrap .u64 at').tmod (l.length:Int)=((a0%l.length:Nat):Int):=by
   rw [ha0];rfl
  have hq:a0%l.length<l.length:=Nat.mod_lt _ hpos
  generalize a0%l.length=q at *
  have g0:Qc ([some ⟨25,3,[.int .i64 d.op,.sl d.args.length (ints d.args),.sl d.attrs.length (ints d.attrs)]⟩]++X) 0=some ⟨25,3,ndC d⟩:=rfl
  have nr:¬ 0=r:=by rintro rfl;rw [g0] at hr;cases hr
  generalize ([some ⟨25,3,[.int .i64 d.op,.sl d.args.length (ints d.args),.sl d.attrs.length (ints d.attrs)]⟩]++X:Qa)=G at *
  have hst1:∀ z,Qc (G.set r (some z)) r=some z:=fun z=>Qj hr
  have g0s:∀ z,Qc (G.set r z) 0=some ⟨25,3,ndC d⟩:=fun z=>(Qk _ (Ne.symm nr)).trans g0
  (apply Zo;repeat' ((with_reducible first|apply Zk|apply zBr<;>intro h)<;>try simp -implicitDefEqProofs (maxSteps:=9^7) (disch:=first|exact zDs|fail) only [go_sem,hr,hmod,g0s]))
  refine Fc.sealed (r:=r) (hst1 _) (Xak (st:=st) hq) ?_;simp only [szL,sz,Yr _ _ _ (Qb _),if_true,List.drop_zero];refine Fc.wk (args':=[.int .i64 v,.agg (ndC d),.int .i64 0,.sl (l.set q ⟨st,emptyT⟩).length (slC (l.set q ⟨st,emptyT⟩))]) rfl (fun im pl w j c hv=>?_) ?_
  ·match j with
   | 0=>exact hv
   | 1=>exact hv
   | 2=>exact hv
   | 3=>exact Xbv hq hv
   | j+4=>exact hv
  have hno:Ql4 (l.set q ⟨st,emptyT⟩)=false:=by
   rw [Bool.eq_false_iff];intro hh
   have:=Qi9.1 hh q (by rw [List.length_set];exact hq)
   rw [show (l.set q ⟨st,emptyT⟩).getD q s0=⟨st,emptyT⟩ by simp [List.getD,hq]] at this
   exact hst this
  have hstep:Qan v d 0 (l.set q ⟨st,emptyT⟩) emptyT 0=⟨4,emptyT⟩:=by
   rw [Qan,if_neg (by rw [List.length_set];omega),if_pos hno]
  have hsp:=Qn3 v d 0 (l.set q ⟨st,emptyT⟩) emptyT 0 ⟨h1,h2,by rw [List.length_set];omega,fun s hs=>by
   rcases List.mem_or_eq_of_mem_set hs with hs | rfl
   ·exact (how s hs).1
   ·exact Nat.zero_le _⟩ (Qae rfl) fun _ _ hh _=>by rw [hno] at hh;cases hh
  rw [hstep] at hsp;refine Fc.pure hsp (by simp [Qf,clo,Kz,ndC,Qb]) (fun g=>Ya _ _ (Qbl _)) ?_
  generalize ((G.set r _).set r none:Qa)=G2
  (apply Zo;repeat' ((with_reducible first|apply Zk|apply zBr<;>intro h)<;>try simp -implicitDefEqProofs (maxSteps:=9^7) (disch:=first|exact zDs|fail) only [go_sem,Qb0]))
  refine Fc.pure (Qu5 emptyT) (by simp [Qf,clo,Qb,Qt]) (fun g=>rfl) ?_
  rw [show (decide (emptyT.shape.length=0)&&decide (emptyT.el.length=0))=true from rfl]
  (refine zG ?_;(repeat' ((with_reducible apply zBr)<;>intro h<;>refine zG ?_))<;>try exact .intro)
  refine Fc.pure (Kn) (by simp [go_sem,Qf,clo,Qb,Qi]) (by intro g;simp only [go_sem,ren,Qe]) ?_
  (refine zG ?_;(repeat' ((with_reducible apply zBr)<;>intro h<;>refine zG ?_))<;>try exact .intro)
  (refine Qh (by intro g;simp only [go_sem,ren,Qe]) ?_)
  rfl
theorem a_own:ownKnob Tryz.prog.godebug=none:=by kernel_rfl
theorem a_laid:laidOutB Tryz.prog=true:=by kernel_rfl
theorem Xlt:Reads Tryz.prog 3 fun vs=>∃ n,vs=[V.int .i64 n]∧(Lit.int .i64 n).wf=true:=Reads.int Tryz.underlying3
theorem Qoo {t:Nat} (hu:Tryz.prog.underlying t=some (.slice 3)):Reads Tryz.prog t fun vs=>∃ xs:List Int,vs=[.sl xs.length (ints xs)]∧xs.length≤17592186044416:=Reads.ints hu Tryz.underlying3 (by kernel_rfl) (by kernel_rfl)
theorem Qxh:ArgV Tryz.prog 3 fun u=>∃ n:Int,u=.int .i64 n∧-9223372036854775808≤n∧n≤9223372036854775807:=ArgV.mono (ArgV.one Xlt (by rw [Tryz.underlying3])) fun u ⟨n,h,hw⟩=>⟨n,by simpa using h,by simpa [Lit.wf,IntKind.min,IntKind.max,IntKind.signed,IntKind.bits] using hw⟩
theorem Qvt:ArgV Tryz.prog 36 fun u=>∃ n:Int,u=.int .i64 n:=ArgV.mono (ArgV.one (Reads.int Tryz.underlying36) (by rw [Tryz.underlying36])) fun u ⟨n,h,hw⟩=>⟨n,by simpa using h⟩
theorem Xft:ArgV Tryz.prog 25 fun u=>∃ d:Nd,u=.agg (ndC d)∧d.args.length≤17592186044416∧d.attrs.length≤17592186044416:=by
 refine ArgV.mono (ArgV.struct (Reads.struct (Qs:=fun i vs=>if i=0 then ∃ n,vs=[V.int .i64 n]∧(Lit.int .i64 n).wf=true else ∃ xs:List Int,vs=[.sl xs.length (ints xs)]∧xs.length≤17592186044416) a_laid (of_decide_eq_true (by kernel_rfl)) Tryz.underlying25 ?_) Tryz.underlying25) ?_
 ·intro i f hf
  match i,hf with
  | 0,hf=>cases hf;exact Reads.mono (Reads.int Tryz.underlying22) fun vs h=>by rw [if_pos rfl];exact h
  | 1,hf=>cases hf;exact Reads.mono (Qoo Tryz.underlying23) fun vs h=>by rw [if_neg (by decide)];exact h
  | 2,hf=>cases hf;exact Reads.mono (Qoo Tryz.underlying23) fun vs h=>by rw [if_neg (by decide)];exact h
  | i+3,hf=>cases hf
 ·rintro u ⟨vs,rfl,l,hl,hq,rfl⟩
  match l,hl with
  | [a,b,c],_ =>
   have h0:=hq 0 (by decide)
   have h1:=hq 1 (by decide)
   have h2:=hq 2 (by decide)
   obtain ⟨n,rfl,_⟩:=h0;obtain ⟨xs,rfl,hx⟩:=h1;obtain ⟨ys,rfl,hy⟩:=h2;exact ⟨⟨n,xs,ys⟩,rfl,hx,hy⟩
theorem Xlr:Reads Tryz.prog 106 fun vs=>∃ n:Nat,vs=[V.int .u32 (n:Nat)]∧n<4294967296:=Reads.mono (Reads.int Tryz.underlying106) fun vs ⟨n,h,hw⟩=>by
 have hx:0≤n∧n≤4294967295:=by simpa [Lit.wf,IntKind.min,IntKind.max,IntKind.signed,IntKind.bits] using hw
 exact ⟨n.toNat,by rw [h];congr 2;omega,by omega⟩
theorem Xcl:Reads Tryz.prog 65 fun vs=>∃ l:List Nat,vs=[NA l]∧l.length≤140737488355328∧Lim l :=
 Reads.mono (Reads.slice1 (g:=fun n:Nat=>.int .u32 (n:Nat)) Tryz.underlying65 (by kernel_rfl) rfl Xlr) fun vs ⟨xs,h1,h2,h3⟩=>⟨xs,h1,by
  have:Tryz.prog.bytesOf 106=4:=by kernel_rfl
  rw [this] at h2;unfold reachBytes at h2;omega,h3⟩
theorem Xls:Reads Tryz.prog 67 fun vs=>∃ x:Raw,vs=[.bool x.neg,NA x.num,NA x.den]∧RawW x:=by
 refine Reads.mono (Reads.struct (Qs:=fun i vs=>if i=0 then ∃ b,vs=[V.bool b] else ∃ l:List Nat,vs=[NA l]∧l.length≤140737488355328∧Lim l) a_laid (of_decide_eq_true (by kernel_rfl)) Tryz.underlying67 ?_) ?_
 ·intro i f hf
  match i,hf with
  | 0,hf=>cases hf;exact Reads.mono (Reads.bool Tryz.underlying4) fun vs h=>by rw [if_pos rfl];exact h
  | 1,hf=>cases hf;exact Reads.mono Xcl fun vs h=>by rw [if_neg (by decide)];exact h
  | 2,hf=>cases hf;exact Reads.mono Xcl fun vs h=>by rw [if_neg (by decide)];exact h
  | i+3,hf=>cases hf
 ·rintro u ⟨l,hl,hq,rfl⟩
  match l,hl with
  | [a,b,c],_ =>
   have h0:=hq 0 (by decide)
   have h1:=hq 1 (by decide)
   have h2:=hq 2 (by decide)
   obtain ⟨n,rfl⟩:=h0;obtain ⟨xs,rfl,hx,hx2⟩:=h1;obtain ⟨ys,rfl,hy,hy2⟩:=h2;exact ⟨⟨n,xs,ys⟩,rfl,hx,hy,hx2,hy2⟩
theorem Qqt:∀ {l:List (List V)},(∀ x∈l,∃ r:Raw,x=[.bool r.neg,NA r.num,NA r.den]∧RawW r)→∃ xs:List Raw,xs.length=l.length∧l.flatten=Qx xs∧∀ x∈xs,RawW x
 | [],_=>⟨[],rfl,rfl,by simp⟩
 | x::l,h=>by
  obtain ⟨a,rfl,ha⟩:=h x (by simp)
  obtain ⟨xs,h1,h2,h3⟩:=Qqt (l:=l) fun y hy=>h y (by simp [hy])
  exact ⟨a::xs,by simp [h1],by rw [List.flatten_cons,h2];rfl,fun b hb=>by
   rcases List.mem_cons.1 hb with rfl | hb
   ·exact ha
   ·exact h3 b hb⟩
theorem Xhh:Reads Tryz.prog 38 fun vs=>∃ xs:List Raw,vs=[.sl xs.length (Qx xs)]∧xs.length≤140737488355328∧∀ x∈xs,RawW x :=
 Reads.mono (Reads.slice (s:=3) Tryz.underlying38 (by kernel_rfl) (by decide) rfl Xls) fun vs ⟨l,h1,h2,h3⟩=>by
  obtain ⟨xs,q1,q2,q3⟩:=Qqt h1;refine ⟨xs,by rw [h3,q1,q2], ?_,q3⟩
  have:Tryz.prog.bytesOf 67=56:=by kernel_rfl
  rw [this] at h2;unfold reachBytes at h2;omega
theorem Qyn:Reads Tryz.prog 40 fun vs=>∃ t:Tn,vs=[.sl t.shape.length (ints t.shape),.sl t.el.length (Qx t.el)]∧TnW t:=by
 refine Reads.mono (Reads.struct (Qs:=fun i vs=>if i=0 then ∃ xs:List Int,vs=[.sl xs.length (ints xs)]∧xs.length≤17592186044416 else ∃ xs:List Raw,vs=[.sl xs.length (Qx xs)]∧xs.length≤140737488355328∧∀ x∈xs,RawW x) a_laid (of_decide_eq_true (by kernel_rfl)) Tryz.underlying40 ?_) ?_
 ·intro i f hf
  match i,hf with
  | 0,hf=>cases hf;exact Reads.mono (Qoo Tryz.underlying37) fun vs h=>by rw [if_pos rfl];exact h
  | 1,hf=>cases hf;exact Reads.mono Xhh fun vs h=>by rw [if_neg (by decide)];exact h
  | i+2,hf=>cases hf
 ·rintro u ⟨l,hl,hq,rfl⟩
  match l,hl with
  | [a,b],_ =>
   have h0:=hq 0 (by decide)
   have h1:=hq 1 (by decide)
   obtain ⟨xs,rfl,hx⟩:=h0;obtain ⟨ys,rfl,hy,hy2⟩:=h1;exact ⟨⟨xs,ys⟩,rfl,hx,hy,hy2⟩
theorem Xhg:Reads Tryz.prog 42 fun vs=>∃ s:Sl,vs=[.int .i64 s.st,.sl s.t.shape.length (ints s.t.shape),.sl s.t.el.length (Qx s.t.el)]∧TnW s.t:=by
 refine Reads.mono (Reads.struct (Qs:=fun i vs=>if i=0 then ∃ n:Int,vs=[V.int .i64 n] else ∃ t:Tn,vs=[.sl t.shape.length (ints t.shape),.sl t.el.length (Qx t.el)]∧TnW t) a_laid (of_decide_eq_true (by kernel_rfl)) Tryz.underlying42 ?_) ?_
 ·intro i f hf
  match i,hf with
  | 0,hf=>cases hf;exact Reads.mono (Reads.int Tryz.underlying36) fun vs h=>by rw [if_pos rfl];obtain ⟨n,h,_⟩:=h;exact ⟨n,h⟩
  | 1,hf=>cases hf;exact Reads.mono Qyn fun vs h=>by rw [if_neg (by decide)];exact h
  | i+2,hf=>cases hf
 ·rintro u ⟨l,hl,hq,rfl⟩
  match l,hl with
  | [a,b],_ =>
   have h0:=hq 0 (by decide)
   have h1:=hq 1 (by decide)
   obtain ⟨n,rfl⟩:=h0;obtain ⟨t,rfl,ht⟩:=h1;exact ⟨⟨n,t⟩,rfl,ht⟩
theorem Qwk:∀ {l:List (List V)},(∀ x∈l,∃ s:Sl,x=[.int .i64 s.st,.sl s.t.shape.length (ints s.t.shape),.sl s.t.el.length (Qx s.t.el)]∧TnW s.t)→∃ xs:List Sl,xs.length=l.length∧l.flatten=slC xs∧∀ x∈xs,TnW x.t
 | [],_=>⟨[],rfl,rfl,by simp⟩
 | x::l,h=>by
  obtain ⟨a,rfl,ha⟩:=h x (by simp)
  obtain ⟨xs,h1,h2,h3⟩:=Qwk (l:=l) fun y hy=>h y (by simp [hy])
  exact ⟨a::xs,by simp [h1],by rw [List.flatten_cons,h2];rfl,fun b hb=>by
   rcases List.mem_cons.1 hb with rfl | hb
   ·exact ha
   ·exact h3 b hb⟩
theorem Xat:ArgV Tryz.prog 26 fun u=>∃ l:List Sl,u=.sl l.length (slC l)∧l.length≤140737488355328∧∀ s∈l,TnW s.t :=
 ArgV.mono (ArgV.one (Reads.slice (s:=3) Tryz.underlying26 (by kernel_rfl) (by decide) rfl Xhg) (by rw [Tryz.underlying26])) fun u ⟨l,h1,h2,h3⟩=>by
  obtain ⟨xs,q1,q2,q3⟩:=Qwk h1;injection h3 with h3
  refine ⟨xs,by rw [h3,q1,q2], ?_,q3⟩
  have:Tryz.prog.bytesOf 42=56:=by kernel_rfl
  rw [this] at h2;unfold reachBytes at h2;omega
theorem Xpq:ArgsV Tryz.prog [3,25,26,3,36] fun us=>∃ (v:Int) (d:Nd) (l:List Sl) (at' st:Int),us=[.int .i64 v,.agg (ndC d),.sl l.length (slC l),.int .i64 at',.int .i64 st]∧d.args.length≤17592186044416∧d.attrs.length≤17592186044416∧l.length≤140737488355328∧(∀ s∈l,TnW s.t)∧-9223372036854775808≤at'∧at'≤9223372036854775807:=by
 refine ArgsV.mono (ArgsV.cons Qxh (ArgsV.cons Xft (ArgsV.cons Xat (ArgsV.cons Qxh (ArgsV.cons Qvt ArgsV.nil))))) ?_;rintro us ⟨_,_,rfl,⟨v,rfl,_⟩,_,_,rfl,⟨d,rfl,h1,h2⟩,_,_,rfl,⟨l,rfl,h3,h4⟩,_,_,rfl,⟨at',rfl,h5,h6⟩,_,_,rfl,⟨st,rfl⟩,rfl⟩;exact ⟨v,d,l,at',st,rfl,h1,h2,h3,h4,h5,h6⟩
end Go.Proofs.YtepjcbnpbcmfcaaGreat
end
