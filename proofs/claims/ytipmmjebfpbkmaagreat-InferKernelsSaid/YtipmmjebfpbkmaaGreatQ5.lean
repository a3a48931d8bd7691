/-
  Parts Seq1, Seq2, Seq3, Op4, Inf1, Inf2, Inf3, InfP, Inf4, Rev, Op5, Inf5, NatP, RefP, RatP, KnuP, DivP, TenP, Num1, Num2, Num3, Num4, Num5, Num6, Num7, Num8, Num9, Num10, Num11, Num12, Num13, Num14, RefN1, RefN2, RefN3, RefN4, Num15, Num16, RefN5, RefN6, one behind the other: a program logic of our own, contracts of functions.
-/
import Derived.Test.YtipmmjebfpbkmaaGreatQ4

set_option linter.unusedVariables false
set_option linter.unusedSimpArgs false
set_option maxRecDepth 100000
set_option maxHeartbeats 8000000
section
namespace Go.Proofs.YtipmmjebfpbkmaaGreat
open Go.Bv
theorem Xs1:Tryz.f169.body.all yOK=true:=by kernel_rfl
def Qpp (xs:List Int):V:=.fn (.func 169) [] [.rp [.sl xs.length (ints xs)] 0]
theorem Qmt (xs:List Int):Pu C 137 [.sl xs.length (ints xs)] (Qpp xs):=by
 refine Fc.keep (Fc.sealR ?_);refine zL Qf Tryz.func137 w137 Tryz.ntmps137 Tryz.results137 ?_;refine zG ?_;refine ⟨0,_,1,[.sl xs.length (ints xs)],rfl,by simp [Qh,clo,Qa],[],by simp,by simp, ?_⟩
 simp [sz,szL,ren,Qk,Qpp,Qck,Ql]
theorem Qz6 (xs:List Int) (hx:xs.length≤1048576):Gen C 169 [.rp [.sl xs.length (ints xs)] 0] (xs.map fun a=>[.int .i64 a]):=by
 refine Gen.of3 Qf Tryz.func169 w169 Xs1 rfl Tryz.ntmps169 Tryz.results169 (zLe rfl) (by simp [Qh,clo]) ?_
 intro G l J hW;refine zG ?_;refine Jl (fun n ts H=>∃ (i:Nat),(i≤xs.length)∧(n=xs.length - i)∧(H.length=i)∧ts.length=16∧nth ts 0=.fn (.yield l) [] []∧nth ts 5=.sl xs.length (ints xs)∧nth ts 6=.int .i64 xs.length∧nth ts 7=.int .i64 i) ?_ (n:=xs.length) ?_
 ·skip
  rintro n ts H ⟨i,hi,hn,hH,hL,hs0,hs5,hs6,hs7⟩;refine Qdw [(0,.fn (.yield l) [] []),(5,.sl xs.length (ints xs)),(6,.int .i64 xs.length),(7,.int .i64 i)] hL (by simp only [zFm,hs0,hs5,hs6,hs7,true_and];exact zNm) ?_
  clear hL hs0 hs5 hs6 hs7 ts
  refine hW _ _ _ _ ?_
  (refine zG ?_;(repeat' ((with_reducible apply zBr)<;>intro h<;>refine zG ?_))<;>try exact .intro)
  ·refine ⟨?_,⟨xs.length - (i+1),by omega,i+1,by omega,rfl,by omega,rfl⟩,.inr trivial,.inr ?_⟩
   ·have:i<xs.length:=by omega
    simp [hH,List.getD,this]
   ·simp only [List.length_replicate,List.length_map];omega
  ·refine ⟨.inl trivial,.inl ?_⟩;simp only [List.length_map];omega
 ·exact ⟨0,by omega,by omega,rfl,rfl,rfl,rfl,rfl,rfl⟩
theorem Qpo (xs:List Int) (hx:xs.length≤1048576):Fc C 193 [.nil,Qpp xs] [] (fun v H=>Ret 3 1 H v xs.length (ints xs)):=by
 have hv:Qpp xs=.fn (.func 169) [] [.rp [.sl xs.length (ints xs)] 0]:=rfl
 refine zK Qf Tryz.func193 w193 Tryz.ntmps193 Tryz.results193 ?_;refine zH1 hv ?_;refine Kt (g:=169) (lb:=[.rp [.sl xs.length (ints xs)] 0]) (xs:=xs.map fun a=>[.int .i64 a]) (by simp -implicitDefEqProofs (maxSteps:=9^7) (disch:=first | omega | (simp only [Je];omega)) only [go_sem]) (by simp [Qh,clo,Qa]) (Qz6 xs hx) (by simp) (fun k H=>∃ v,Qc H 0=some ⟨23,1,[v]⟩∧Go.Bv.Own 3 1 H v k (ints (xs.take k))) ⟨.nil,rfl,Go.Bv.Own.nil _ _ _⟩ ?_ ?_
 ·intro k us H hk hI l;obtain ⟨v,h0,hO⟩:=hI
  have hkl:k<xs.length:=by simpa using (List.getElem?_eq_some_iff.1 hk).1
  obtain rfl:us=[.int .i64 (xs.getD k 0)]:=by simp [hkl] at hk;simp [hk.symm,List.getD,hkl]
  (refine Qz Qf ?_;simp -implicitDefEqProofs (maxSteps:=9^7) (disch:=first | omega | (simp only [Je];omega)) only [go_sem,Qfu])
  (refine Qz Qf ?_;simp -implicitDefEqProofs (maxSteps:=9^7) (disch:=first | omega | (simp only [Je];omega)) only [go_sem,h0])
  refine Xbn hO rfl ⟨by decide,by decide⟩ (by omega) rfl (Qf6 _) fun v' H' hO' hF=>?_
  have h0':Qc H' 0=some ⟨23,1,[v]⟩:=hF 0 _ (by
   rintro off n rfl;rcases hO with ⟨h,_⟩ | ⟨r,h,hr,_⟩
   ·cases h
   ·injection h with h _ _;subst h;rw [h0] at hr;simp at hr) h0
  have hc:cellsOf v'=[v']∧Yq v'=true:=by rcases hO' with ⟨rfl,_⟩ | ⟨r,rfl,_⟩<;>exact ⟨rfl,rfl⟩
  (apply Zo;repeat' ((with_reducible first|apply Zk|apply zBr<;>intro h)<;>try simp -implicitDefEqProofs (maxSteps:=9^7) (disch:=first|exact zDs|fail) only [go_sem,h0',hc.1,hc.2,Jq,List.all_cons,List.all_nil]))
  have ht:ints (xs.take (k+1))=ints (xs.take k)++[V.int .i64 (xs.getD k 0)]:=by rw [Qnk xs 0 hkl];simp [ints]
  refine ⟨v',Qg h0', ?_⟩;rw [ht];rcases hO' with h | ⟨r,h,hr,hl⟩
  ·exact .inl h
  ·refine .inr ⟨r,h, ?_,hl⟩;rw [Qe]
   ·exact hr
   ·rintro rfl;rw [h0'] at hr;simp at hr
 ·intro H hI;obtain ⟨v,h0,hO⟩:=hI;refine zH1 h0 ?_;simp only [List.length_map,List.take_length] at hO;exact hO.ret (fun g=>Ql g _) (fun v H h=>h)
theorem Qt2 (xs:List Int) (hx:xs.length≤1048576):Fc C 167 [Qpp xs] [] (fun v H=>Ret 3 1 H v xs.length (ints xs)):=by
 refine zK Qf Tryz.func167 w167 Tryz.ntmps167 Tryz.results167 ?_;refine zG ?_;refine Fc.own (Qpo xs hx) (by simp [Qh,clo,Qpp,Qa]) (fun g=>Ql g _) fun v X hO=>?_
 refine zG ?_;exact hO.ret (fun g=>Ql g _) (fun v H h=>h)
theorem Qvs:Pu C 210 [.nil,.int .i64 0,.int .i64 0] (.tup []):=by
 refine zK Qf Tryz.func210 w210 Tryz.ntmps210 Tryz.results210 ?_;refine zG ?_;refine Qgx ?_;refine Qz Qf ?_;refine zG ?_
 (refine Qo (by intro g;simp only [go_sem,ren,Qk]) ?_)
 rfl
theorem Xl9 (lim:Int):Pu C 194 [.nil,.int .i64 0,.int .i64 0,.int .i64 lim] (.tup []):=by
 refine zK Qf Tryz.func194 w194 Tryz.ntmps194 Tryz.results194 ?_;refine zG ?_;refine Qgx ?_;refine Qz Qf ?_;refine zG ?_;refine Fc.pure (Qvs) (by simp [go_sem,Qh,clo,Qa,Qn]) (by intro g;simp only [go_sem,ren,Qk]) ?_
 refine zG ?_
 (refine Qo (by intro g;simp only [go_sem,ren,Qk]) ?_)
 rfl
theorem Xk0:Pu C 168 [.nil] (.tup []):=by
 refine zK Qf Tryz.func168 w168 Tryz.ntmps168 Tryz.results168 ?_;refine zG ?_;refine Fc.pure (Qw3 0 (by omega)) (by simp [go_sem,Qh,clo,Qa,Qn]) (by intro g;simp only [go_sem,ren,Qk]) ?_
 refine zG ?_;refine Fc.pure (Xl9 _) (by simp [go_sem,Qh,clo,Qa,Qn]) (by intro g;simp only [go_sem,ren,Qk]) ?_
 refine zG ?_
 (refine Qo (by intro g;simp only [go_sem,ren,Qk]) ?_)
 rfl
theorem Qmu (xs:List Int) (hx:xs.length≤12):Fc C 136 [Qpp xs] [] (fun v H=>∃ ys:List Int,ys.Perm xs∧(∀ p q,p<q→q<ys.length→ys.getD p 0≤ys.getD q 0)∧Ret 3 1 H v ys.length (ints ys)):=by
 refine zK Qf Tryz.func136 w136 Tryz.ntmps136 Tryz.results136 ?_;refine zG ?_;refine Fc.own (Qt2 xs (by omega)) (by simp [Qh,clo,Qpp,Qa]) (fun g=>Ql g _) fun v X hO=>?_
 rcases hO with ⟨rfl,h,h'⟩ | ⟨r,rfl,hr,hl⟩
 ·obtain rfl:xs=[]:=List.eq_nil_of_length_eq_zero h;refine zG ?_;refine Fc.pure (Xk0) (by simp [go_sem,Qh,clo,Qa,Qn]) (by intro g;simp only [go_sem,ren,Qk]) ?_
  refine zG ?_;exact (Go.Bv.Own.nil _ _ _).ret (fun g=>rfl) (fun v H h=>⟨[],.refl _,fun p q h1 h2=>by simp at h2,h⟩)
 ·skip
  refine zG ?_;refine Fc.mono (Xfm r _ xs hr hx) ?_;rintro v H' ⟨ys,rfl,hp,hs,rfl⟩;refine zG ?_
  have hO:Go.Bv.Own 3 1 (List.set ([]++X) r (some ⟨3,1,ints ys⟩)) (.ref r 0 xs.length) ys.length (ints ys):=.inr ⟨r,by rw [hp.length_eq],Qg hr,by simp [Yj]⟩
  exact hO.ret (fun g=>Ql g _) (fun v H h=>⟨ys,hp,hs,h⟩)
theorem Quv {xs:List Int} (h:Zn xs=true):xs.Nodup:=by
 rw [List.Nodup,List.pairwise_iff_getElem];intro i j hi hj hij he
 have:=((Qbu xs).1 h j hj)
 simp only [Qi8] at this
 have h2:=this.2.2
 refine h2 i hij ?_;simp only [List.getD,List.getElem?_eq_getElem hi,List.getElem?_eq_getElem hj,Option.getD_some,he]
theorem Xda {xs:List Int} (h:Zn xs=true):∀ a∈xs,0≤a∧a<xs.length:=by
 intro a ha;obtain ⟨i,hi,rfl⟩:=List.getElem_of_mem ha
 have:=((Qbu xs).1 h i hi)
 simp only [Qi8,List.getD,List.getElem?_eq_getElem hi,Option.getD_some] at this;exact ⟨this.1,this.2.1⟩
theorem Qij {ys:List Int} {i:Nat} (h:i<ys.length):ys.getD i 0∈ys:=by
 simp only [List.getD,List.getElem?_eq_getElem h,Option.getD_some];exact List.getElem_mem _
theorem Qdp {xs ys:List Int} (hp:ys.Perm xs) (hs:∀ p q,p<q→q<ys.length→ys.getD p 0≤ys.getD q 0):Zn xs=true↔∀ i,i<ys.length→ys.getD i 0=i:=by
 have hl:=hp.length_eq
 constructor
 ·intro h
  have hn:ys.Nodup:=hp.nodup_iff.2 (Quv h)
  have hm:∀ i,i<ys.length→0≤ys.getD i 0∧ys.getD i 0<ys.length:=fun i hi=>by
   have:=Xda h _ (hp.mem_iff.1 (Qij hi));rwa [← hl] at this
  have hlt:∀ i,i+1<ys.length→ys.getD i 0<ys.getD (i+1) 0:=fun i hi=>by
   have h1:=hs i (i+1) (by omega) hi
   have h2:ys.getD i 0≠ys.getD (i+1) 0:=by
    rw [List.Nodup,List.pairwise_iff_getElem] at hn
    have:=hn i (i+1) (by omega) hi (by omega)
    simpa only [List.getD,List.getElem?_eq_getElem hi,List.getElem?_eq_getElem (show i<ys.length by omega),Option.getD_some] using this
   omega
  have lo:∀ i,i<ys.length→(i:Int)≤ys.getD i 0:=by
   intro i
   induction i with
   | zero=>intro hi;exact (hm 0 hi).1
   | succ i ih=>intro hi;have:=ih (by omega);have:=hlt i hi;omega
  have up:∀ d i,i<ys.length→ys.length - 1 - i=d→ys.getD i 0≤i:=by
   intro d
   induction d with
   | zero=>intro i hi hd;have:=(hm i hi).2;omega
   | succ d ih=>intro i hi hd;have:=ih (i+1) (by omega) (by omega);have:=hlt i (by omega);omega
  intro i hi
  have:=lo i hi;have:=up _ i hi rfl;omega
 ·intro h
  have hn:ys.Nodup:=by
   rw [List.Nodup,List.pairwise_iff_getElem];intro i j hi hj hij he
   have h1:=h i hi;have h2:=h j hj
   simp only [List.getD,List.getElem?_eq_getElem hi,List.getElem?_eq_getElem hj,Option.getD_some] at h1 h2;omega
  have hn':=hp.nodup_iff.1 hn
  rw [List.Nodup,List.pairwise_iff_getElem] at hn';refine (Qbu xs).2 fun i hi=>?_
  obtain ⟨j,hj,he⟩:=List.getElem_of_mem (hp.mem_iff.2 (Qij hi))
  have h1:=h j hj
  simp only [List.getD,List.getElem?_eq_getElem hj,Option.getD_some] at h1;simp only [Qi8];refine ⟨by omega,by omega,fun k hk=>?_⟩
  have:=hn' k i (by omega) hi hk
  simpa only [List.getD,List.getElem?_eq_getElem hi,List.getElem?_eq_getElem (show k<xs.length by omega),Option.getD_some] using this
theorem Qz9 (xs:List Int) (hx:xs.length≤12):Pu C 90 [.sl xs.length (ints xs),.int .i64 xs.length] (.int .i64 (if Zn xs then 0 else 11)):=by
 refine zK Qf Tryz.func90 w90 Tryz.ntmps90 Tryz.results90 ?_;refine zG ?_;refine Fc.pure (Qmt xs) (by simp [Qh,clo,Qa]) (fun g=>Qy g _ (by simp [Qpp,Qh,clo,Qa])) ?_
 refine zG ?_;refine Fc.mono (Qmu xs hx) ?_;rintro v H' ⟨ys,hp,hs,hR⟩
 have hr:=Qdp hp hs
 have hl:=hp.length_eq
 rcases hR with ⟨rfl,h,h',rfl⟩ | ⟨rfl,rfl,_⟩
 ·obtain rfl:ys=[]:=List.eq_nil_of_length_eq_zero h
  have hx:Zn xs=true:=hr.2 (by simp)
  rw [hx];refine zG ?_;refine Qgx ?_;refine Qz Qf ?_;refine zG ?_
  (refine Qo (by intro g;simp only [go_sem,ren,Qk]) ?_)
  rfl
 ·skip
  refine zG ?_;refine Qj (fun n ts H=>∃ (i:Nat),(i≤ys.length)∧(H=[some ⟨3,1,ints ys⟩])∧(n=ys.length - i)∧(∀ k,k<i→ys.getD k 0=k)∧ts.length=27∧nth ts 1=.int .i64 xs.length∧nth ts 4=.int .i64 0∧nth ts 5=.ref 0 0 ys.length∧nth ts 11=.ref 0 0 ys.length∧nth ts 12=.int .i64 ys.length∧nth ts 13=.int .i64 i) ?_ (n:=ys.length) ?_
  ·skip
   rintro n ts H ⟨i,hi,hH,hn,hall,hL,hs1,hs4,hs5,hs11,hs12,hs13⟩;refine Xc [(1,.int .i64 xs.length),(4,.int .i64 0),(5,.ref 0 0 ys.length),(11,.ref 0 0 ys.length),(12,.int .i64 ys.length),(13,.int .i64 i)] hL (by simp only [zFm,hs1,hs4,hs5,hs11,hs12,hs13,true_and];exact zNm) ?_
   clear hL hs1 hs4 hs5 hs11 hs12 hs13 ts
   refine Qz Qf ?_;subst hH
   (refine zG ?_;(repeat' ((with_reducible apply zBr)<;>intro h<;>refine zG ?_))<;>try exact .intro)
   ·skip
    (refine Qo (by intro g;simp only [go_sem,ren,Qk]) ?_)
    have:Zn xs=false:=by
     cases hb:Zn xs with
     | false=>rfl
     | true=>exact absurd (hr.1 hb i (by omega)) (by assumption)
    simp [this]
   ·refine ⟨ys.length - (i+1),by omega,i+1,by omega,rfl,fun k hk=>?_,rfl⟩
    rcases Nat.lt_or_ge k i with h1 | h1
    ·exact hall k h1
    ·obtain rfl:k=i:=by omega
     assumption
   ·skip
    (refine Qo (by intro g;simp only [go_sem,ren,Qk]) ?_)
    have:Zn xs=true:=hr.2 fun k hk=>hall k (by omega)
    simp [this]
  ·exact ⟨0,by omega,rfl,rfl,fun k hk=>by omega,rfl,rfl,rfl,rfl,rfl,rfl,rfl⟩
theorem Qpz (l:List Int) (hl:l.length≤17592186044416):Pu C 174 [.sl l.length (ints l)] (.bool (Zn l&&decide (l.length≤4))):=by
 refine zK Qf Tryz.func174 w174 Tryz.ntmps174 Tryz.results174 ?_
 (refine zG ?_;(repeat' ((with_reducible apply zBr)<;>intro h<;>refine zG ?_))<;>try exact .intro)
 ·skip
  refine Fc.pure (Qz9 l (by omega)) (by simp [go_sem,Qh,clo,Qa,Qn]) (by intro g;simp only [go_sem,ren,Qk]) ?_
  cases hp:Zn l with
  | true =>
   refine zG ?_
   (refine Qo (by intro g;simp only [go_sem,ren,Qk]) ?_)
   simp;omega
  | false =>
   refine zG ?_
   (refine Qo (by intro g;simp only [go_sem,ren,Qk]) ?_)
   simp
 ·skip
  (refine Qo (by intro g;simp only [go_sem,ren,Qk]) ?_)
  have:¬ l.length≤4:=by omega
  simp [this]
theorem Qmw (v:Int) (n:Nd) (ha:n.args.length≤17592186044416) (hl:n.attrs.length≤17592186044416):Pu C 20 [.int .i64 v,.agg (ndC n)] (.int .i64 (Yy v n)):=Xaf Qpz v n ha hl
abbrev ROw (v:V) (H:Qb) (r:Sh):Prop:=RetO2 3 1 H v r.1.length (ints r.1) (.int .i64 r.2)
theorem Qee {H:Qb} (e:Int):∃ sel,Qb6 sel (fun v H=>ROw v H ([],e)) (.tup [.nil,.int .i64 e]) H:=Xmx (fun _=>rfl)
theorem Qe3 {H:Qb} {u:V} {s:List Int} (e:Int) (hO:Bv.Own 3 1 H u s.length (ints s)):∃ sel,Qb6 sel (fun v H=>ROw v H (s,e)) (.tup [u,.int .i64 e]) H:=hO.two (fun g=>Ql g _) (fun _=>rfl)
theorem Fc.ow {f:FuncId} {args args':List V} {H:Qb} {K:V→Qb→Prop} {r:Sh} (h:Fc C f args' [] fun v H=>ROw v H r) (hb:BorL H args args') (hK:∀ w X,Bv.Own 3 1 (H++X) w r.1.length (ints r.1)→K (.tup [w,.int .i64 r.2]) (H++X)):Fc C f args H K :=
 Fc.own2 h hb (fun g=>Ql g _) (Xp _) (fun _=>rfl) rfl hK
theorem Pc.ow {H0:Qb} {f:FuncId} {args args':List V} {H:Qb} {K:V→Qb→Prop} {r:Sh} (h:Fc C f args' [] fun v H=>ROw v H r) (hb:BorL H args args') (hK:∀ w X,Bv.Own 3 1 (H++X) w r.1.length (ints r.1)→K (.tup [w,.int .i64 r.2]) (H++X)):Pc C H0 f args H K :=
 Pc.own2 h hb (by simp [Yj]) (fun g=>Ql g _) (Xp _) (fun _=>rfl) rfl hK
def Zi (r:Sh):Sh:=if r.2≠0 then ([],r.2) else if Xa r.1≠0 then ([],Xa r.1) else r
theorem Qb5 (e:Int) (he:e≠0):Zi ([],e)=([],e):=by simp [Zi,he]
theorem Qhm {u:V} {H0:Qb} {s:List Int} (hO:Bv.Own 3 1 H0 u s.length (ints s)) (h:s.length≤17592186044416):Fc C 113 [u] H0 (fun v H'=>H'=H0∧v=.tup [if Xa s≠0 then .nil else u,.int .i64 (Xa s)]):=by
 refine zL Qf Tryz.func113 w113 Tryz.ntmps113 Tryz.results113 ?_;refine zG ?_;refine Fc.pureL (Ku s h) ⟨hO.bor' (Qa _),trivial⟩ (fun _=>rfl) rfl ?_
 (refine zG ?_;(repeat' ((with_reducible apply zBr)<;>intro h<;>refine zG ?_))<;>try exact .intro)
 ·rw [if_pos (by assumption)]
 ·rw [if_neg (by simp [*])];simp [*]
theorem Qok {H:Qb} {u:V} {s:List Int} (hO:Bv.Own 3 1 H u s.length (ints s)):∃ sel,Qb6 sel (fun v H=>ROw v H (Zi (s,0))) (.tup [if Xa s≠0 then .nil else u,.int .i64 (Xa s)]) H:=by
 by_cases hm:Xa s≠0
 ·rw [if_pos hm,Zi,if_neg (by simp),if_pos hm];exact Qee _
 ·have:Xa s=0:=by omega
  rw [if_neg hm,Zi,if_neg (by simp),if_neg hm,this]
  exact Qe3 _ hO
theorem Qih (b:Bool) (u:V) (H0:Qb):Fc C 55 [.bool b,u] H0 (fun v H=>H=H0∧v=(if b=true then .tup [u,.int .i64 0] else .tup [.nil,.int .i64 13])):=by
 refine zL Qf Tryz.func55 w55 Tryz.ntmps55 Tryz.results55 ?_
 (refine zG ?_;(repeat' ((with_reducible apply zBr)<;>intro h<;>refine zG ?_))<;>try exact .intro)
 ·rw [if_pos (by assumption)]
 ·rw [if_neg (by simp [*])]
theorem Xep (d a b:Int) (ha:-2147483648≤a∧a≤2147483648) (hb:-2147483648≤b∧b≤2147483648):Pu C 64 [.int .i64 d,.int .i64 a,.int .i64 b] (.tup [.int .i64 (b - a),.bool (decide (b≤d))]):=by
 refine zK Qf Tryz.func64 w64 Tryz.ntmps64 Tryz.results64 ?_;refine zG ?_
 (refine Qo (by intro g;simp only [go_sem,ren,Qk]) ?_)
 simp
theorem Xek (d a b:Int) (hd:-2147483648≤d∧d≤2147483648) (ha:-2147483648≤a∧a≤2147483648) (hb:-2147483648≤b∧b≤2147483648):Pu C 65 [.int .i64 d,.int .i64 a,.int .i64 b] (.tup [.int .i64 (d+a+b),.bool true]):=by
 refine zK Qf Tryz.func65 w65 Tryz.ntmps65 Tryz.results65 ?_;refine zG ?_
 (refine Qo (by intro g;simp only [go_sem,ren,Qk]) ?_)
 simp
theorem Qgp (x y:List Int) (hx:x.length≤17592186044416) (hy:y.length≤17592186044416):Fc C 57 [.sl x.length (ints x),.sl y.length (ints y)] [] (fun v H=>ROw v H (Zi (Qab x y))):=by
 refine zK Qf Tryz.func57 w57 Tryz.ntmps57 Tryz.results57 ?_
 (refine zG ?_;(repeat' ((with_reducible apply zBr)<;>intro h<;>refine zG ?_))<;>try exact .intro)
 ·rw [Qab,if_neg (by omega)];exact Qee _
 ·rw [Qab,if_neg (by omega)];exact Qee _
 ·rw [Qab,if_neg (by omega)];exact Qee _
 ·rw [Qab,if_pos (by omega)]
  refine Pc.gen (Qhm (s:=[x.getD 0 0,y.getD 1 0]) (.inr ⟨0,rfl,rfl,rfl⟩) (by simp)) ⟨_,_,rfl,rfl⟩ ?_
  rintro v H' ⟨rfl,rfl⟩;refine ⟨.refl _ _, ?_⟩;refine zG ?_;exact Qok (s:=[x.getD 0 0,y.getD 1 0]) (.inr ⟨0,rfl,rfl,rfl⟩)
theorem Qss (x p:List Int) (hx:x.length≤17592186044416) (hp:p.length≤17592186044416) (hr:p.length=x.length→∀ i,i<p.length→0≤p.getD i 0∧p.getD i 0<p.length):Fc C 59 [.sl x.length (ints x),.sl p.length (ints p)] [] (fun v H=>ROw v H (if p.length=x.length then (tab (fun i=>x.getD (p.getD i 0).toNat 0) p.length,0) else ([],13))):=by
 refine zK Qf Tryz.func59 w59 Tryz.ntmps59 Tryz.results59 ?_
 (refine zG ?_;(repeat' ((with_reducible apply zBr)<;>intro h<;>refine zG ?_))<;>try exact .intro)
 ·rw [if_neg (by omega)];exact Qee _
 ·have hr:=hr (by omega)
  rw [if_pos (by omega)]
  refine Qj (fun n ts H=>∃ i u,(i≤p.length)∧(n=p.length - i)∧(Bv.Own 3 1 H u (tab (fun i=>x.getD (p.getD i 0).toNat 0) i).length (ints (tab (fun i=>x.getD (p.getD i 0).toNat 0) i)))∧ts.length=28∧nth ts 0=.sl x.length (ints x)∧nth ts 4=u∧nth ts 5=.int .i64 0∧nth ts 13=.sl p.length (ints p)∧nth ts 14=.int .i64 p.length∧nth ts 15=.int .i64 i) ?_ (n:=p.length) ?_
  ·skip
   rintro n ts H ⟨i,u,hi,hn,hu,hL,hs0,hs4,hs5,hs13,hs14,hs15⟩;refine Xc [(0,.sl x.length (ints x)),(4,u),(5,.int .i64 0),(13,.sl p.length (ints p)),(14,.int .i64 p.length),(15,.int .i64 i)] hL (by simp only [zFm,hs0,hs4,hs5,hs13,hs14,hs15,true_and];exact zNm) ?_
   clear hL hs0 hs4 hs5 hs13 hs14 hs15 ts
   refine Qz Qf ?_;subst hn;by_cases hlt:i<p.length
   ·have hp:=hr i hlt
    refine zG ?_;refine Qcd hu rfl ⟨by decide,by decide⟩ (by rw [Zw];omega) fun v' H' hu' _=>?_
    refine zG ?_;exact ⟨_,by omega,i+1,v',by omega,rfl,by rw [Qua];exact hu',(by (repeat' apply And.intro)<;>(first | rfl | omega | (congr 1;omega) | assumption | (congr 1;assumption)))⟩
   ·obtain rfl:i=p.length:=by omega
    refine zG ?_;exact Qe3 _ hu
  ·exact ⟨0,.nil,by omega,rfl,.nil _ _ _,rfl,rfl,rfl,rfl,rfl,rfl,rfl⟩
theorem Xs5:Tryz.f147.body.all yOK=true:=by kernel_rfl
def Qst (l:List Int):V:=.fn (.func 147) [] [.rp [.sl l.length (ints l)] 0]
def Qt5 (l:List Int):List (List V):=(List.range (l.length/2)).map fun i=>[.int .i64 (l.getD (2*i) 0),.int .i64 (l.getD (2*i+1) 0)]
theorem Qe1 (l:List Int):(Qt5 l).length=l.length/2:=by simp [Qt5]
theorem Xal {l:List Int} {i:Nat} (h:i<l.length/2):(Qt5 l)[i]?=some [.int .i64 (l.getD (2*i) 0),.int .i64 (l.getD (2*i+1) 0)]:=by simp [Qt5,h]
theorem Qvq (l:List Int):Pu C 116 [.sl l.length (ints l)] (Qst l):=by
 refine Fc.keep (Fc.sealR ?_);refine zL Qf Tryz.func116 w116 Tryz.ntmps116 Tryz.results116 ?_;refine zG ?_;refine ⟨0,_,1,[.sl l.length (ints l)],rfl,by simp [Qh,clo,Qa],[],by simp,by simp, ?_⟩
 simp [sz,szL,ren,Qk,Qst,Qck,Ql]
theorem Qyt (l:List Int) (hl:l.length≤17592186044416):Gen C 147 [.rp [.sl l.length (ints l)] 0] (Qt5 l):=by
 refine Gen.of3 Qf Tryz.func147 w147 Xs5 rfl Tryz.ntmps147 Tryz.results147 (zLe rfl) (by simp [Qt5,Qh,clo]) ?_
 intro G k J hW;refine zG ?_;refine Jl (fun n ts H=>∃ (i:Nat),(i≤l.length/2)∧(n=l.length/2 - i)∧(H.length=i)∧ts.length=23∧nth ts 0=.fn (.yield k) [] []∧nth ts 1=.rp [.sl l.length (ints l)] 0∧nth ts 3=.int .i64 (2*(i:Int))) ?_ (n:=l.length/2) ?_
 ·skip
  rintro n ts H ⟨i,hi,hn,hH,hL,hs0,hs1,hs3⟩;refine Qdw [(0,.fn (.yield k) [] []),(1,.rp [.sl l.length (ints l)] 0),(3,.int .i64 (2*(i:Int)))] hL (by simp only [zFm,hs0,hs1,hs3,true_and];exact zNm) ?_
  clear hL hs0 hs1 hs3 ts
  refine hW _ _ _ _ ?_
  (refine zG ?_;(repeat' ((with_reducible apply zBr)<;>intro h<;>refine zG ?_))<;>try exact .intro)
  ·refine ⟨by rw [hH];exact Xal (by omega),⟨l.length/2 - (i+1),by omega,i+1,by omega,rfl,by omega, ?_⟩,.inr trivial,.inr ?_⟩
   ·congr 1<;>omega
   ·simp only [List.length_replicate,Qe1];omega
  ·refine ⟨.inl trivial,.inl ?_⟩;rw [Qe1];omega
 ·exact ⟨0,by omega,by omega,rfl,rfl,rfl,rfl,rfl⟩
theorem Ym {e s e' s':Nat} {H:Qb} {v:V} {n q:Nat} {cs cs':List V} {z:Option Row} (h:Bv.Own e s H v n cs) (hq:Qc H q=some ⟨e',s',cs'⟩) (hne:e'≠e):Bv.Own e s (H.set q z) v n cs:=by
 rcases h with h | ⟨r,h,hr,hl⟩
 ·exact .inl h
 ·refine .inr ⟨r,h, ?_,hl⟩;rw [Qe]
  ·exact hr
  ·rintro rfl;rw [hq] at hr;injection hr with hr;injection hr with hr;exact hne hr
theorem Xz {e s e' s':Nat} {H H':Qb} {v:V} {n q:Nat} {cs cs':List V} (h:Bv.Own e s H v n cs) (hF:Fr v H H') (hq:Qc H q=some ⟨e',s',cs'⟩) (hne:e'≠e):Qc H' q=some ⟨e',s',cs'⟩:=hF q _ (by
 rintro off m rfl;rcases h with ⟨h,_⟩ | ⟨r,h,hr,_⟩
 ·cases h
 ·injection h with h _ _;subst h;rw [hq] at hr;injection hr with hr;injection hr with hr;exact hne hr) hq
theorem Qjy (g:Nat) (f:Nat→Int) (b:Nat→Bool) (x l:List Int) (hx:x.length≤1000000) (hl:l.length≤17592186044416) (hg:∀ i,i<x.length→Pu C g [.int .i64 (x.getD i 0),.int .i64 (l.getD (2*i) 0),.int .i64 (l.getD (2*i+1) 0)] (.tup [.int .i64 (f i),.bool (b i)])) :
  Fc C 63 [.sl x.length (ints x),.sl l.length (ints l),.fn (.func g) [] []] [] (fun v H=>ROw v H (if l.length=2*x.length∧(∀ i,i<x.length→b i=true) then Zi (tab f x.length,0) else ([],13))):=by
 have hv:Qst l=.fn (.func 147) [] [.rp [.sl l.length (ints l)] 0]:=rfl
 refine zK Qf Tryz.func63 w63 Tryz.ntmps63 Tryz.results63 ?_
 (refine zG ?_;(repeat' ((with_reducible apply zBr)<;>intro h<;>refine zG ?_))<;>try exact .intro)
 ·rw [if_neg (by omega)];exact Qee _
 ·refine Fc.pure (Qvq l) (by simp [Qh,clo,Qa]) (fun g=>Qy g _ (by simp [Qst,Qh,clo,Qa])) ?_
  refine zH1 hv ?_
  have hl2:l.length/2=x.length:=by omega
  refine Kt (g:=147) (lb:=[.rp [.sl l.length (ints l)] 0]) (xs:=Qt5 l) (by simp -implicitDefEqProofs (maxSteps:=9^7) (disch:=first | omega | (simp only [Je];omega)) only [go_sem]) (by simp [Qh,clo,Qa]) (Qyt l hl) (by simp [Qt5]) (fun k H=>∃ v,Qc H 0=some ⟨31,1,[.sl x.length (ints x)]⟩∧Qc H 1=some ⟨98,1,[.fn (.func g) [] []]⟩∧Qc H 2=some ⟨31,1,[.nil]⟩∧Qc H 3=some ⟨36,1,[.int .i64 0]⟩∧Qc H 5=some ⟨31,1,[v]⟩∧Bv.Own 3 1 H v k (ints (tab f k))∧∀ i,i<k→b i=true) ⟨.ref 4 0 0,rfl,rfl,rfl,rfl,rfl,.inr ⟨4,rfl,rfl,rfl⟩,fun i hi=>by omega⟩ ?_ ?_
  ·intro k us H hk hI lp;obtain ⟨v,h0,h1,h2,h3,h5,hO,hb⟩:=hI
   have hkl:k<l.length/2:=by simpa [Qe1] using (List.getElem?_eq_some_iff.1 hk).1
   obtain rfl:=Option.some.inj ((Xal hkl).symm.trans hk)
   have hgk:=hg k (by omega)
   (refine Qz Qf ?_;simp -implicitDefEqProofs (maxSteps:=9^7) (disch:=first | omega | (simp only [Je];omega)) only [go_sem,Qfu])
   have hlv:=hO.lenw (C.ty 31)
   (refine Qz Qf ?_;simp -implicitDefEqProofs (maxSteps:=9^7) (disch:=first | omega | (simp only [Je];omega)) only [go_sem,h0,h1,h5,hlv])
   refine RunU.now ?_;refine zH4 h0 h1 h5 hlv ?_;cases hbk:b k with
   | false =>
    rw [hbk] at hgk
    have e3:∀ z,Qc (H.set 2 z) 3=some ⟨36,1,[.int .i64 0]⟩:=fun z=>by rw [Qe _ (by decide)];exact h3
    have e2:∀ row z,Qc ((H.set 2 (some row)).set 3 z) 2=some row:=fun row z=>by rw [Qe _ (by decide)];exact Qg h2
    have e33:∀ row z,Qc ((H.set 2 z).set 3 (some row)) 3=some row:=fun row z=>Qg (e3 z)
    refine Pc.pure (hgk) (by simp [go_sem,Qh,clo,Qa,Qn]) (by intro g;simp only [go_sem,ren,Qk]) ?_
    (apply Zo;repeat' ((with_reducible first|apply Zk|apply zBr<;>intro h)<;>try simp -implicitDefEqProofs (maxSteps:=9^7) (disch:=first|exact zDs|fail) only [go_sem,Jq,h2,e3,e2,e33]))
    rw [if_neg (fun hh=>by have:=hh.2 k (by omega);rw [hbk] at this;cases this)]
    exact Qee _
   | true =>
    rw [hbk] at hgk;refine Pc.pure (hgk) (by simp [go_sem,Qh,clo,Qa,Qn]) (by intro g;simp only [go_sem,ren,Qk]) ?_
    refine zH1 h5 ?_
    have hOt:Bv.Own 3 1 H v (tab f k).length (ints (tab f k)):=by rw [Zw];exact hO
    refine Qcd hOt rfl ⟨by decide,by decide⟩ (by rw [Zw];omega) fun v' H' hO' hF=>?_
    have k0:=Xz hO hF h0 (by decide)
    have k1:=Xz hO hF h1 (by decide)
    have k2:=Xz hO hF h2 (by decide)
    have k3:=Xz hO hF h3 (by decide)
    have k5:=Xz hO hF h5 (by decide)
    have hc:cellsOf v'=[v']∧Yq v'=true:=by rcases hO' with ⟨rfl,_⟩ | ⟨r,rfl,_⟩<;>exact ⟨rfl,rfl⟩
    (apply Zo;repeat' ((with_reducible first|apply Zk|apply zBr<;>intro h)<;>try simp -implicitDefEqProofs (maxSteps:=9^7) (disch:=first|exact zDs|fail) only [go_sem,k5,hc.1,hc.2,Jq,List.all_cons,List.all_nil]))
    rw [← Qua,Zw] at hO';refine ⟨v',by rw [Qe _ (by decide)];exact k0,by rw [Qe _ (by decide)];exact k1,by rw [Qe _ (by decide)];exact k2,by rw [Qe _ (by decide)];exact k3,Qg k5,Ym hO' k5 (by decide),fun i hi=>?_⟩
    rcases Nat.lt_or_ge i k with h' | h'
    ·exact hb i h'
    ·obtain rfl:i=k:=by omega
     exact hbk
  ·intro H hI;obtain ⟨v,h0,h1,h2,h3,h5,hO,hb⟩:=hI;rw [Qe1,hl2] at hO hb;rw [if_pos ⟨by omega,hb⟩]
   refine zH1 h5 ?_;refine Fc.mono (Qhm (s:=tab f x.length) (by rw [Zw];exact hO) (by rw [Zw];omega)) ?_
   rintro v H' ⟨rfl,rfl⟩
   have hfin:=fun (H:Qb) (h:Bv.Own 3 1 H v (tab f x.length).length (ints (tab f x.length)))=>Qok (H:=H) h
   have hwc:cellsOf (if Xa (tab f x.length)≠0 then V.nil else v)=[if Xa (tab f x.length)≠0 then V.nil else v]∧Yq (if Xa (tab f x.length)≠0 then V.nil else v)=true:=by
    split
    ·exact ⟨rfl,rfl⟩
    ·rcases hO with ⟨rfl,_⟩ | ⟨r,rfl,_⟩<;>exact ⟨rfl,rfl⟩
   generalize (if Xa (tab f x.length)≠0 then V.nil else v)=w at hfin hwc ⊢
   have e3:∀ z,Qc (H'.set 2 z) 3=some ⟨36,1,[.int .i64 0]⟩:=fun z=>by rw [Qe _ (by decide)];exact h3
   have e2:∀ row z,Qc ((H'.set 2 (some row)).set 3 z) 2=some row:=fun row z=>by rw [Qe _ (by decide)];exact Qg h2
   have e33:∀ row z,Qc ((H'.set 2 z).set 3 (some row)) 3=some row:=fun row z=>Qg (e3 z)
   (apply Zo;repeat' ((with_reducible first|apply Zk|apply zBr<;>intro h)<;>try simp -implicitDefEqProofs (maxSteps:=9^7) (disch:=first|exact zDs|fail) only [go_sem,h2,e3,e2,e33,hwc.1,hwc.2,List.all_cons,List.all_nil]))
   exact hfin _ (Ym (Ym (by rw [Zw];exact hO) h2 (by decide)) (e3 _) (by decide))
theorem Qyw (l:List (List Int)) (k:Nat):(Jm l).drop k=Jm (l.drop k):=by simp [Jm]
theorem Qoq (l:List (List Int)) (k:Nat):(l.drop 1).getD k []=l.getD (k+1) []:=by simp [List.getD,Nat.add_comm]
theorem Qv5 {s x:List Int} {axis:Nat}:∀ i,Yz s [(axis:Int)] i=Yz x [(axis:Int)] i↔∀ j,j<i→j≠axis→s.getD j 0=x.getD j 0
 | 0=>by simp [Yz]
 | i+1=>by
  have ih:=Qv5 (s:=s) (x:=x) (axis:=axis) i
  by_cases h:i=axis
  ·subst h;simp only [Yz,List.contains_cons,BEq.rfl,Bool.true_or,if_true,List.append_nil];rw [ih];exact ⟨fun hh j hj hne=>hh j (by omega) hne,fun hh j hj hne=>hh j (by omega) hne⟩
  ·have hc:([(axis:Int)].contains (i:Int))=false:=by simp;omega
   simp only [Yz,hc,Bool.false_eq_true,if_false];constructor
   ·intro hh
    have h2:=List.append_inj' hh rfl
    refine fun j hj hne=>?_
    rcases Nat.lt_or_ge j i with h3 | h3
    ·exact ih.1 h2.1 j h3 hne
    ·obtain rfl:j=i:=by omega
     simpa using h2.2
   ·intro hh;rw [ih.2 fun j hj hne=>hh j (by omega) hne,hh i (by omega) h]
theorem Qvo (axis:Nat) (l:List (List Int)) (hax:axis≤17592186044416) (h1:1≤l.length) (hl:l.length≤1000000) (hx:∀ k,k<l.length→(l.getD k []).length≤1000000) (hd:∀ k,k<l.length→∀ i,0≤(l.getD k []).getD i 0∧(l.getD k []).getD i 0≤1024):Fc C 66 [.int .i64 axis,.sl l.length (Jm l)] [] (fun v H=>ROw v H (Zi (Qht axis l))):=by
 have hx0:=hx 0 h1
 refine zK Qf Tryz.func66 w66 Tryz.ntmps66 Tryz.results66 ?_
 (refine zG ?_;(repeat' ((with_reducible apply zBr)<;>intro h<;>refine zG ?_))<;>try exact .intro)
 ·rw [Qht,if_neg (by omega)];exact Qee _
 ·refine Fc.own (Qay (l.getD 0 []) (by omega)) (by simp [Qh,clo,Qa]) (fun g=>Ql g _) fun v X hO=>?_
  rcases hO with ⟨_,h',_⟩ | ⟨r,rfl,hr,_⟩
  ·omega
  refine zG ?_;rw [Qyw]
  have hlen:(l.drop 1).length=l.length - 1:=by simp
  rw [← hlen];refine Qj (fun n ts H=>∃ k,(k≤l.length - 1)∧(∀ j,j<k+1→1≤j→Qhu axis l j)∧(n=l.length - 1 - k)∧(Qc H r=some ⟨3,1,ints ((l.getD 0 []).set axis (Qa7 axis l (k+1)))⟩)∧ts.length=58∧nth ts 0=.int .i64 axis∧nth ts 4=.nil∧nth ts 5=.int .i64 0∧nth ts 6=.sl (l.getD 0 []).length (ints (l.getD 0 []))∧nth ts 7=.ref r 0 (l.getD 0 []).length∧nth ts 20=.sl (l.drop 1).length (Jm (l.drop 1))∧nth ts 21=.int .i64 (l.drop 1).length∧nth ts 22=.int .i64 k) ?_ (n:=l.length - 1) ?_
  ·skip
   rintro n ts H ⟨k,hk,hok,hn,hH,hL,hs0,hs4,hs5,hs6,hs7,hs20,hs21,hs22⟩;refine Xc [(0,.int .i64 axis),(4,.nil),(5,.int .i64 0),(6,.sl (l.getD 0 []).length (ints (l.getD 0 []))),(7,.ref r 0 (l.getD 0 []).length),(20,.sl (l.drop 1).length (Jm (l.drop 1))),(21,.int .i64 (l.drop 1).length),(22,.int .i64 k)] hL (by simp only [zFm,hs0,hs4,hs5,hs6,hs7,hs20,hs21,hs22,true_and];exact zNm) ?_
   clear hL hs0 hs4 hs5 hs6 hs7 hs20 hs21 hs22 ts
   refine Qz Qf ?_;subst hn;by_cases hlt:k<(l.drop 1).length
   ·have hxk:=hx (k+1) (by omega)
    have bad:¬ Qhu axis l (k+1)→Zi (Qht axis l)=([],13):=fun hb=>by
     rw [Qht,if_neg]
     ·rfl
     ·rintro ⟨_,h2⟩;exact hb ((Qhv _ _ _).1 h2 (k+1) (by omega) (by omega))
    (refine zH1 Qoq ?_;(repeat' ((with_reducible apply zBr)<;>intro h<;>refine zH1 Qoq ?_))<;>try exact .intro)
    ·rw [bad (fun hc=>by have:=hc.1;omega)];exact Qee _
    ·refine Fc.ownL (Qgh (l.getD (k+1) []) [(axis:Int)] (by omega) (by simp)) ⟨.self (by simp [clo,Qa]),(Qso (e:=3) (s:=1) (cs:=ints [(axis:Int)]) (n:=1) rfl).bor' (Qa [(axis:Int)]),trivial⟩ (fun g=>Ql g _) (Xp _) fun v1 X1 hO1=>?_
     have hH1:=Qd (Qd hH [some ⟨3,1,ints [(axis:Int)]⟩]) X1
     generalize hG:H++[some ⟨3,1,ints [(axis:Int)]⟩]++X1=H1 at hH1
     change Bv.Own _ _ (H++[some ⟨3,1,ints [(axis:Int)]⟩]++X1) _ _ _ at hO1
     rw [hG] at hO1
     have hG':H++[some ⟨3,1,[V.int .i64 axis]⟩]++X1=H1:=hG
     rw [hG'];refine zG ?_;refine Fc.ownL (Qgh (l.getD 0 []) [(axis:Int)] (by omega) (by simp)) ⟨.self (by simp [clo,Qa]),(Qso (e:=3) (s:=1) (cs:=ints [(axis:Int)]) (n:=1) rfl).bor' (Qa [(axis:Int)]),trivial⟩ (fun g=>Ql g _) (Xp _) fun v2 X2 hO2=>?_
     have hH2:=Qd (Qd hH1 [some ⟨3,1,ints [(axis:Int)]⟩]) X2
     have hO1:=(hO1.keep [some ⟨3,1,ints [(axis:Int)]⟩]).keep X2
     generalize hG2:H1++[some ⟨3,1,ints [(axis:Int)]⟩]++X2=H2 at hH2 hO1
     change Bv.Own _ _ (H1++[some ⟨3,1,ints [(axis:Int)]⟩]++X2) _ _ _ at hO2
     rw [hG2] at hO2
     have hG2':H1++[some ⟨3,1,[V.int .i64 axis]⟩]++X2=H2:=hG2
     rw [hG2'];refine zG ?_;refine Fc.pureL (Qma (Yz (l.getD (k+1) []) [(axis:Int)] (l.getD (k+1) []).length) (Yz (l.getD 0 []) [(axis:Int)] (l.getD 0 []).length) (by have:=Qcb (l.getD (k+1) []) [(axis:Int)] (l.getD (k+1) []).length;omega)) ⟨hO1.bor' (Qa _),hO2.bor' (Qa _),trivial⟩ (fun _=>rfl) rfl ?_
     have hb1:=Xbg (axis:=axis) hd (k+1) (by omega)
     have hb2:=hd (k+1) (by omega) axis
     have hiff:=Qv5 (s:=l.getD (k+1) []) (x:=l.getD 0 []) (axis:=axis) (l.getD 0 []).length
     have hll:(l.getD (k+1) []).length=(l.getD 0 []).length:=by omega
     rw [hll]
     (refine zH1 hH2 ?_;(repeat' ((with_reducible apply zBr)<;>intro h<;>refine zH1 hH2 ?_))<;>try exact .intro)
     ·have hok1:Qhu axis l (k+1):=⟨hll,hiff.1 (by assumption)⟩
      refine ⟨l.length - 1 - (k+1),by omega,k+1,by omega,fun j h1 h2=>?_,rfl, ?_,rfl⟩
      ·rcases Nat.lt_or_ge j (k+1) with h3 | h3
       ·exact hok j h3 h2
       ·obtain rfl:j=k+1:=by omega
        exact hok1
      ·rw [show Qa7 axis l (k+1+1)=Qa7 axis l (k+1)+(l.getD (k+1) []).getD axis 0 from rfl];exact Qg hH2
     ·rw [bad (fun hc=>absurd (hiff.2 hc.2) (by assumption))];exact Qee _
   ·obtain rfl:k=l.length - 1:=by omega
    refine zG ?_
    have hcl:l.length - 1+1=l.length:=by omega
    rw [hcl] at hH
    have hO:Bv.Own 3 1 H (.ref r 0 (l.getD 0 []).length) ((l.getD 0 []).set axis (Qa7 axis l l.length)).length (ints ((l.getD 0 []).set axis (Qa7 axis l l.length))):=.inr ⟨r,by simp,hH,by simp [Yj]⟩
    refine Fc.mono (Qhm hO (by rw [List.length_set];omega)) ?_
    rintro v H' ⟨rfl,rfl⟩;refine zG ?_;rw [Qht,if_pos ⟨by omega,(Qhv _ _ _).2 fun j h1 h2=>hok j (by omega) h2⟩]
    exact Qok hO
  ·exact ⟨0,by omega,fun j h1 h2=>by omega,by omega,by simp only [Qa7,Int.zero_add];rw [Xgh _ (by omega)];exact hr,rfl,rfl,rfl,rfl,rfl,rfl,rfl,rfl,rfl⟩
theorem Kq {s:List Int} (h:Xa s=0):Zi (s,0)=(s,0):=by simp [Zi,h]
theorem Qq3 {s:List Int} (hl:s.length≤4) (h:∀ d∈s,1≤d):Xa s=0∨Xa s=14:=by
 unfold Xa;rw [if_neg (by omega),if_pos (by simpa using h)]
 split<;>simp
theorem Zj {s:List Int} (h:∀ d∈s,1≤d) {i:Nat} (hi:i<s.length):1≤s.getD i 0:=h _ (Qij hi)
theorem Qvw {o:Int} {a:List Int} {l:List (List Int)} (ho:o=19) (h0:Xa (l.getD 0 [])=0) (h1:Xa (l.getD 1 [])=0):Zi (Yc o a l)=(if (Zi (Qab (l.getD 0 []) (l.getD 1 []))).2≠0 then ([],(Zi (Qab (l.getD 0 []) (l.getD 1 []))).2) else if Qad (l.getD 2 []) (Zi (Qab (l.getD 0 []) (l.getD 1 []))).1≠0 then ([],13) else Zi (Qab (l.getD 0 []) (l.getD 1 []))):=by
 have hm:(Qab (l.getD 0 []) (l.getD 1 [])).2=0→Xa (Qab (l.getD 0 []) (l.getD 1 [])).1=0∨Xa (Qab (l.getD 0 []) (l.getD 1 [])).1=14:=by
  unfold Qab;split
  ·rename_i hc;intro _;refine Qq3 (by simp) fun d hd=>?_
   have g0:=Zj (Qu h0).2.1 (i:=0) (by omega)
   have g1:=Zj (Qu h1).2.1 (i:=1) (by omega)
   simp only [List.mem_cons,List.not_mem_nil,or_false] at hd;rcases hd with rfl | rfl<;>assumption
  ·intro h;simp at h
 have hst:(Qab (l.getD 0 []) (l.getD 1 [])).2=0→Qab (l.getD 0 []) (l.getD 1 [])=((Qab (l.getD 0 []) (l.getD 1 [])).1,0):=fun h=>Prod.ext rfl h
 rw [Yc,if_neg (by omega),if_neg (by omega),if_pos (by omega)]
 generalize Qab (l.getD 0 []) (l.getD 1 [])=m at hm hst ⊢;by_cases h2:m.2=0
 ·rcases hm h2 with h3 | h3
  ·rw [hst h2,Kq h3];simp only [ne_eq,not_true_eq_false,if_false,h3];split
   ·rfl
   ·exact Kq h3
  ·simp only [Zi,h2,h3,ne_eq,not_true_eq_false,if_false];simp
 ·simp only [Zi,h2,ne_eq,not_false_eq_true,if_true]
theorem Qra (xs axes:List Int):∀ i,i≤xs.length→∀ d∈Yz xs axes i,d∈xs
 | 0,_=>by simp [Yz]
 | i+1,h=>by
  intro d hd;simp only [Yz,List.mem_append] at hd;rcases hd with hd | hd
  ·exact Qra xs axes i (by omega) d hd
  ·split at hd
   ·simp at hd
   ·simp only [List.mem_cons,List.not_mem_nil,or_false] at hd;subst hd;exact Qij (by omega)
theorem Qo1 {xs:List Int} (axes:List Int) (hp:∀ d∈xs,1≤d):∀ i,i≤xs.length→1≤Qx (Yz xs axes i)∧Qx (Yz xs axes i)≤Qx (xs.take i)
 | 0,_=>by simp [Yz,Qx]
 | i+1,h=>by
  obtain ⟨h1,h2⟩:=Qo1 axes hp i (by omega)
  have g:=Zj hp (i:=i) (by omega)
  rw [Jj (by omega)]
  simp only [Yz];split
  ·rw [List.append_nil];refine ⟨h1, ?_⟩
   have:=Int.mul_le_mul_of_nonneg_left g (show 0≤Qx (xs.take i) by omega)
   omega
  ·rw [Qn2];refine ⟨?_,Int.mul_le_mul_of_nonneg_right h2 (by omega)⟩
   have:=Int.mul_le_mul_of_nonneg_left g (show 0≤Qx (Yz xs axes i) by omega)
   omega
theorem Qgd {xs:List Int} (axes:List Int) (h:Xa xs=0):Xa (Yz xs axes xs.length)=0:=by
 obtain ⟨h1,h2,h3⟩:=Qu h
 have hl:=Qcb xs axes xs.length
 have hm:∀ d∈Yz xs axes xs.length,1≤d:=fun d hd=>h2 d (Qra xs axes _ (Nat.le_refl _) d hd)
 have hp:=(Qo1 axes h2 xs.length (Nat.le_refl _)).2
 rw [List.take_length] at hp;unfold Xa;rw [if_neg (by omega),if_pos (by simpa using hm),if_neg (by omega)]
theorem Xat {a:List Int} (hr:∀ i,i<a.length→Qd9 a i):∀ d i,i+d<a.length→a.getD i 0≤a.getD (i+d) 0
 | 0,_,_=>Int.le_refl _
 | d+1,i,h=>by
  have h1:=Xat hr d i (by omega)
  have h2:=(hr (i+d+1) (by omega)).2.2 (by omega)
  rw [show i+d+1 - 1=i+d by omega] at h2
  rw [show i+(d+1)=i+d+1 by omega];omega
theorem Qo0 {o:Int} {a:List Int} {l:List (List Int)} (ho:o=14∨o=20) (h0:Xa (l.getD 0 [])=0) (hr:∀ i,i<a.length→Qd9 a i):Zi (Yc o a l)=(if axP a (l.getD 0 []).length=0 then (Yz (l.getD 0 []) a (l.getD 0 []).length,0) else ([],13)):=by
 rw [Yc,if_neg (by omega),if_neg (by omega),if_neg (by omega),if_neg (by omega),if_neg (by omega),if_neg (by omega),if_pos (by omega)]
 by_cases hx:a.length>0∧a.getD (a.length - 1) 0≥(l.getD 0 []).length
 ·rw [if_pos hx,if_neg,Qb5 _ (by decide)]
  intro hax
  have hb:axB a (l.getD 0 []).length=true:=by
   unfold axP at hax;split at hax
   ·assumption
   ·cases hax
  have:=(Qk4 _ _).1 hb (a.length - 1) (by omega)
  unfold Xfe at this;omega
 ·rw [if_neg hx,if_pos,Kq (Qgd a h0)];rw [axP,if_pos];refine (Qk4 _ _).2 fun i hi=>?_
  have h1:=hr i hi
  have h2:=Xat hr (a.length - 1 - i) i (by omega)
  rw [show i+(a.length - 1 - i)=a.length - 1 by omega] at h2
  unfold Qd9 at h1;unfold Xfe
  have h3:a.getD (a.length - 1) 0<(l.getD 0 []).length:=by
   by_cases h:a.getD (a.length - 1) 0<(l.getD 0 []).length
   ·exact h
   ·exact absurd ⟨by omega,by omega⟩ hx
  refine ⟨?_,by omega⟩
  split<;>omega
theorem Qn3 {l m:List Int} (h:l.Perm m):Qx l=Qx m:=by
 induction h with
 | nil=>rfl
 | cons a _ ih=>simp only [Qx,ih]
 | swap a b l=>simp only [Qx];rw [← Int.mul_assoc,← Int.mul_assoc,Int.mul_comm a b]
 | trans _ _ h1 h2=>exact h1.trans h2
theorem Qqc {x a:List Int} (hl:a.length=x.length) (hp:Zn a=true):(tab (fun i=>x.getD (a.getD i 0).toNat 0) a.length).Perm x:=by
 have h1:=List.mergeSort_perm a (fun p q=>decide (p≤q))
 have h2:=List.pairwise_mergeSort (le:=fun p q:Int=>decide (p≤q)) (by intro p q r;simp;omega) (by intro p q;simp;omega) a
 generalize a.mergeSort (fun p q=>decide (p≤q))=ys at h1 h2
 have hy:=(Qdp h1 (fun p q hpq hq=>by
  rw [List.pairwise_iff_getElem] at h2
  have:=h2 p q (by omega) hq hpq
  simpa [List.getD,hq,show p<ys.length by omega] using this)).1 hp
 have hyl:=h1.length_eq
 have e1:tab (fun i=>x.getD (a.getD i 0).toNat 0) a.length=a.map fun d=>x.getD d.toNat 0:=by
  refine Qeq (by simp [Zw]) fun j hj=>?_
  rw [Zw] at hj;rw [Xf7 _ hj];simp [List.getD,hj]
 have e2:(ys.map fun d=>x.getD d.toNat 0)=x:=by
  refine Qeq (by simp;omega) fun j hj=>?_
  have hj':j<ys.length:=by simpa using hj
  have:=hy j hj'
  simp only [List.getD,List.getElem?_eq_getElem hj',Option.getD_some] at this;simp [List.getD,hj',this]
 rw [e1];exact ((h1.map _).symm).trans (by rw [e2])
theorem Qt7 {o:Int} {a:List Int} {l:List (List Int)} (ho:o=11) (h0:Xa (l.getD 0 [])=0) (hp:Zn a=true):Zi (Yc o a l)=(if a.length=(l.getD 0 []).length then (tab (fun i=>(l.getD 0 []).getD (a.getD i 0).toNat 0) a.length,0) else ([],13)):=by
 rw [Yc,if_neg (by omega),if_neg (by omega),if_neg (by omega),if_pos ho]
 by_cases hl:a.length=(l.getD 0 []).length
 ·rw [if_pos hl,Kq];obtain ⟨h1,h2,h3⟩:=Qu h0
  have hpm:=Qqc hl hp
  have hm:∀ d∈tab (fun i=>(l.getD 0 []).getD (a.getD i 0).toNat 0) a.length,1≤d:=fun d hd=>h2 d (hpm.mem_iff.1 hd)
  unfold Xa;rw [if_neg (by rw [Zw];omega),if_pos (by simpa using hm),if_neg (by rw [Qn3 hpm];omega)]
 ·rw [if_neg hl,Qb5 _ (by decide)]
theorem Qnb {s:List Int} (h:Xa s=0):Zi (s,0)=(s,0):=by simp [Zi,h]
theorem Xeg (x y:List Int):(Zi (Qab x y)).1.length≤2:=by unfold Zi Qab;grind
theorem Xn4 {a:List Int} (h:Att a) (i:Nat):-2147483648≤a.getD i 0∧a.getD i 0≤2147483648:=by
 by_cases hi:i<a.length
 ·have:=h i hi;omega
 ·rw [show a.getD i 0=0 by simp [List.getD,List.getElem?_eq_none (Nat.le_of_not_lt hi)]];omega
theorem Qm8 {H:Qb} {u:V} {s:List Int} (b:Bool) (e:Sh) (he:e=if b=true then (s,0) else ([],13)) (hO:Bv.Own 3 1 H u s.length (ints s)):∀ v H',H'=H∧v=(if b=true then V.tup [u,.int .i64 0] else .tup [.nil,.int .i64 13])→∃ w z,v=.tup [w,.int .i64 z]∧Bv.Own 3 1 H w e.1.length (ints e.1)∧z=e.2:=by
 rintro v H' ⟨rfl,rfl⟩;cases b with
 | true=>exact ⟨u,0,rfl,by rw [he];exact hO,by rw [he];rfl⟩
 | false=>exact ⟨.nil,13,rfl,by rw [he];exact .nil _ _ _,by rw [he];rfl⟩
theorem Qy1 (o:Int) (a:List Int) (l:List (List Int)) (h:ComeOK o a l) (ha:a.length≤1000000) (hm:∀ k,k<l.length→Xa (l.getD k [])=0) (hperm:o=11→Zn a=true) (hrise:(o=14∨o=20)→∀ i,i<a.length→Qd9 a i):Fc C 22 [.int .i64 o,.sl a.length (ints a),.sl l.length (Jm l)] [] (fun v H=>ROw v H (Zi (Yc o a l))):=by
 obtain ⟨c1,c2,c3,c4,c5,c6,c7,c8,c9,c10⟩:=h
 have r0:=c5 0 c1
 have mat:∀ k,k<l.length→(l.getD k []).length≤17592186044416:=fun k hk=>by have:=c5 k hk;omega
 have clo0:∀ s:List Int,Bv.clo (.sl s.length (ints s))=true:=fun s=>by simp [clo,Qa]
 refine zK Qf Tryz.func22 w22 Tryz.ntmps22 Tryz.results22 ?_;refine zG ?_;refine Fc.own (Qay (l.getD 0 []) (by omega)) (by simp [Qh,clo,Qa]) (fun g=>Ql g _) fun ux X1 hx=>?_
 generalize ([]++X1:Qb)=G1 at hx ⊢;refine zG ?_;refine Fc.own (Qaz a (by omega)) (by simp [Qh,clo,Qa]) (fun g=>Ql g _) fun ut X2 ht=>?_
 have hx:=hx.keep X2
 generalize (G1++X2:Qb)=G at hx ht ⊢
 have bx:=hx.bor' (Qa _)
 have bt:=ht.bor' (Qa _)
 have hlx:=hx.lenw (C.ty 31)
 (refine zG ?_;(repeat' ((with_reducible apply zBr)<;>intro h<;>refine zG ?_))<;>try exact .intro)
 iterate 4
  ·refine Fc.pureL (Qma (l.getD 0 []) (l.getD 1 []) (mat 0 c1)) ⟨bx,.self (clo0 _),trivial⟩ (fun _=>rfl) rfl ?_
   refine zG ?_
   have hc:Zi (Yc o a l)=(if decide (l.getD 0 []=l.getD 1 [])=true then (l.getD 0 [],0) else ([],13)):=by
    rw [Yc,if_pos (by omega)]
    by_cases he:l.getD 0 []=l.getD 1 []
    ·rw [if_pos he,if_pos (by simpa using he),Qnb (hm 0 c1)]
    ·rw [if_neg he,if_neg (by simpa using he)];rfl
   refine Fc.mono (Qih _ ux G) fun v H' hv=>?_
   obtain ⟨w,z,rfl,hO,rfl⟩:=Qm8 _ _ hc hx v H' hv;obtain ⟨rfl,_⟩:=hv;refine zG ?_;exact Qe3 _ hO
 ·have l2:=c3 (by omega)
  have l3:=c4 (by omega)
  refine Fc.ow (Qgp (l.getD 0 []) (l.getD 1 []) (mat 0 c1) (mat 1 l2)) ⟨bx,.self (clo0 _),trivial⟩ fun um X3 hom=>?_
  have bx:=(hx.keep X3).bor' (Qa _)
  have bm:=hom.bor' (Qa _)
  have hc:=Qvw (o:=o) (a:=a) (l:=l) (by assumption) (hm 0 c1) (hm 1 l2)
  have hml:(Zi (Qab (l.getD 0 []) (l.getD 1 []))).1.length≤2:=Xeg _ _
  have hst:(Zi (Qab (l.getD 0 []) (l.getD 1 []))).2=0→Zi (Qab (l.getD 0 []) (l.getD 1 []))=((Zi (Qab (l.getD 0 []) (l.getD 1 []))).1,0):=fun h=>Prod.ext rfl h
  have hsp:=Qgp (l.getD 0 []) (l.getD 1 []) (mat 0 c1) (mat 1 l2)
  generalize (G++X3:Qb)=G3 at bx bm hom ⊢;generalize hM:Zi (Qab (l.getD 0 []) (l.getD 1 []))=m at hc hml hst hom bm hsp ⊢
  (refine zG ?_;(repeat' ((with_reducible apply zBr)<;>intro h<;>refine zG ?_))<;>try exact .intro)
  ·refine Fc.pureL (Qit (l.getD 2 []) m.1 (mat 2 l3) (by omega)) ⟨.self (clo0 _),bm,trivial⟩ (fun _=>rfl) rfl ?_
   (refine zG ?_;(repeat' ((with_reducible apply zBr)<;>intro h<;>refine zG ?_))<;>try exact .intro)
   ·rw [hc,if_neg (by omega),if_pos (by assumption)];exact Qee _
   ·refine Fc.ow hsp ⟨bx,.self (clo0 _),trivial⟩ fun u4 X4 ho4=>?_
    refine zG ?_;rw [hc,if_neg (by omega),if_neg (by omega)]
    exact Qe3 _ ho4
  ·rw [hc,if_pos (by assumption)];exact Qee _
 ·have l2:=c3 (by omega)
  refine Fc.ow (Qgp (l.getD 0 []) (l.getD 1 []) (mat 0 c1) (mat 1 l2)) ⟨bx,.self (clo0 _),trivial⟩ fun um X3 hom=>?_
  refine zG ?_;rw [Yc,if_neg (by omega),if_pos (by omega)]
  exact Qe3 _ hom
 ·have hc:=Qt7 (o:=o) (a:=a) (l:=l) (by assumption) (hm 0 c1) (hperm (by assumption))
  refine Fc.ow (Qss (l.getD 0 []) a (mat 0 c1) (by omega) (fun _=>c9 (by assumption))) ⟨bx,.self (clo0 _),trivial⟩ fun um X3 hom=>?_
  rw [← hc] at hom ⊢;refine zG ?_;exact Qe3 _ hom
 ·refine Fc.pureL (Qcx (l.getD 0 []) (mat 0 c1)) ⟨bx,trivial⟩ (fun _=>rfl) rfl ?_
  refine zG ?_;refine Fc.pureL (Qcx a (by omega)) ⟨bt,trivial⟩ (fun _=>rfl) rfl ?_
  refine zG ?_
  have hc:Zi (Yc o a l)=(if (Xf (l.getD 0 [])==Xf a)=true then (a,0) else ([],13)):=by
   rw [Yc,if_neg (by omega),if_neg (by omega),if_neg (by omega),if_neg (by omega),if_pos (by omega)]
   by_cases he:Xf a=Xf (l.getD 0 [])
   ·have hma:Xa a=0:=by
     have h1:Xf (l.getD 0 [])=Qx (l.getD 0 []):=by rw [Xf,if_pos (hm 0 c1)]
     have h2:=Yp (Qu (hm 0 c1)).2.1
     by_cases hx:Xa a=0
     ·exact hx
     ·have:Xf a=0:=by rw [Xf,if_neg hx]
      omega
    rw [if_pos he,if_pos (by rw [beq_iff_eq];omega),Qnb hma]
   ·rw [if_neg he,if_neg (by rw [beq_iff_eq];omega)];rfl
  refine Fc.mono (Qih _ ut G) fun v H' hv=>?_
  obtain ⟨w,z,rfl,hO,rfl⟩:=Qm8 _ _ hc ht v H' hv;obtain ⟨rfl,_⟩:=hv;refine zG ?_;exact Qe3 _ hO
 ·refine Fc.pureL (Qit (l.getD 0 []) a (mat 0 c1) (by omega)) ⟨bx,bt,trivial⟩ (fun _=>rfl) rfl ?_
  refine zG ?_
  have hc:Zi (Yc o a l)=(if (Qad (l.getD 0 []) a==0)=true then (a,0) else ([],13)):=by
   rw [Yc,if_neg (by omega),if_neg (by omega),if_neg (by omega),if_neg (by omega),if_neg (by omega),if_pos (by omega)]
   by_cases he:Qad (l.getD 0 []) a=0
   ·have hma:Xa a=0:=by
     unfold Qad at he;rw [if_pos (hm 0 c1)] at he;split at he
     ·assumption
     ·assumption
    rw [if_pos he,if_pos (by rw [beq_iff_eq];omega),Qnb hma]
   ·rw [if_neg he,if_neg (by rw [beq_iff_eq];omega)];rfl
  refine Fc.mono (Qih _ ut G) fun v H' hv=>?_
  obtain ⟨w,z,rfl,hO,rfl⟩:=Qm8 _ _ hc ht v H' hv;obtain ⟨rfl,_⟩:=hv;refine zG ?_;exact Qe3 _ hO
 iterate 2
  ·have hc:=Qo0 (o:=o) (a:=a) (l:=l) (by omega) (hm 0 c1) (hrise (by omega))
   refine zH1 hlx ?_;refine Fc.pure (Qmc a _ (by omega)) (by simp [go_sem,Qh,clo,Qa,Qn]) (by intro g;simp only [go_sem,ren,Qk]) ?_
   refine zG ?_;refine Fc.ownL (Qgh (l.getD 0 []) a (mat 0 c1) (by omega)) ⟨bx,.self (clo0 _),trivial⟩ (fun g=>Ql g _) (Xp _) fun ud X3 hod=>?_
   generalize (G++X3:Qb)=G3 at hod ⊢;refine zG ?_
   have hc:Zi (Yc o a l)=(if (axP a (l.getD 0 []).length==0)=true then (Yz (l.getD 0 []) a (l.getD 0 []).length,0) else ([],13)):=by
    rw [hc];by_cases he:axP a (l.getD 0 []).length=0
    ·rw [if_pos he,if_pos (by rw [beq_iff_eq];exact he)]
    ·rw [if_neg he,if_neg (by rw [beq_iff_eq];exact he)]
   refine Fc.mono (Qih _ ud G3) fun v H' hv=>?_
   obtain ⟨w,z,rfl,hO,rfl⟩:=Qm8 _ _ hc hod v H' hv;obtain ⟨rfl,_⟩:=hv;refine zG ?_;exact Qe3 _ hO
 ·have hc:Zi (Yc o a l)=(if a.length=2*(l.getD 0 []).length∧(∀ i,i<(l.getD 0 []).length→decide (a.getD (2*i+1) 0≤(l.getD 0 []).getD i 0)=true) then Zi (tab (Xlw a) (l.getD 0 []).length,0) else ([],13)):=by
   rw [Yc,if_neg (by omega),if_neg (by omega),if_neg (by omega),if_neg (by omega),if_neg (by omega),if_neg (by omega),if_neg (by omega),if_pos (by omega),Xph]
   simp only [Que,List.all_eq_true,List.mem_range];split<;>rfl
  refine Fc.ow (Qjy 64 (Xlw a) (fun i=>decide (a.getD (2*i+1) 0≤(l.getD 0 []).getD i 0)) (l.getD 0 []) a (by omega) (by omega) (fun i hi=>Xep _ _ _ (Xn4 c8 _) (Xn4 c8 _))) ⟨bx,.self (clo0 _),.self rfl,trivial⟩ fun um X3 hom=>?_
  rw [← hc] at hom ⊢;refine zG ?_;exact Qe3 _ hom
 ·have hc:Zi (Yc o a l)=(if a.length=2*(l.getD 0 []).length∧(∀ i,i<(l.getD 0 []).length→(fun _=>true) i=true) then Zi (tab (fun i=>(l.getD 0 []).getD i 0+a.getD (2*i) 0+a.getD (2*i+1) 0) (l.getD 0 []).length,0) else ([],13)):=by
   rw [Yc,if_neg (by omega),if_neg (by omega),if_neg (by omega),if_neg (by omega),if_neg (by omega),if_neg (by omega),if_neg (by omega),if_neg (by omega),if_pos (by omega),Xqf]
   have:Xhb (l.getD 0 []) a=fun i=>(l.getD 0 []).getD i 0+a.getD (2*i) 0+a.getD (2*i+1) 0:=by funext i;simp only [Xhb];omega
   rw [this];simp only [implies_true,and_true];split<;>rfl
  refine Fc.ow (Qjy 65 (fun i=>(l.getD 0 []).getD i 0+a.getD (2*i) 0+a.getD (2*i+1) 0) (fun _=>true) (l.getD 0 []) a (by omega) (by omega) (fun i hi=>Xek _ _ _ (by have:=c6 0 c1 i;omega) (Xn4 c8 _) (Xn4 c8 _))) ⟨bx,.self (clo0 _),.self rfl,trivial⟩ fun um X3 hom=>?_
  rw [← hc] at hom ⊢;refine zG ?_;exact Qe3 _ hom
 ·have hax:=c10 (by omega)
  have hx:a.getD 0 0=((a.getD 0 0).toNat:Int):=by omega
  have hc:Zi (Yc o a l)=Zi (Qht (a.getD 0 0).toNat l):=by
   rw [Yc,if_neg (by omega),if_neg (by omega),if_neg (by omega),if_neg (by omega),if_neg (by omega),if_neg (by omega),if_neg (by omega),if_neg (by omega),if_neg (by omega),if_pos (by omega)]
  have hj:=Qvo (a.getD 0 0).toNat l (by omega) c1 (by omega) (fun k hk=>by have:=c5 k hk;omega) c6
  rw [← hx] at hj;refine zG ?_;refine Fc.ow hj ⟨.self rfl,.self (by simp [clo,Qn]),trivial⟩ fun um X3 hom=>?_
  rw [← hc] at hom ⊢;refine zG ?_;exact Qe3 _ hom
 ·have hc:Yc o a l=(l.getD 0 [],0):=by
   rw [Yc,if_neg (by omega),if_neg (by omega),if_neg (by omega),if_neg (by omega),if_neg (by omega),if_neg (by omega),if_neg (by omega),if_neg (by omega),if_neg (by omega),if_neg (by omega)]
  rw [hc,Qnb (hm 0 c1)];exact Qe3 _ hx
structure Rv (xs ys:List Int) (i:Nat):Prop where
 len:ys.length=xs.length
 at_:∀ k,k<xs.length→ys.getD k 0=if k<i∨xs.length - 1 - k<i then xs.getD (xs.length - 1 - k) 0 else xs.getD k 0
theorem Rv.zero (xs:List Int):Rv xs xs 0:=⟨rfl,fun k hk=>by rw [if_neg (by omega)]⟩
theorem Rv.step {xs ys:List Int} {i:Nat} (h:Rv xs ys i) (hi:2*i+1<xs.length):Rv xs ((ys.set i (ys.getD (xs.length - 1 - i) 0)).set (xs.length - 1 - i) (ys.getD i 0)) (i+1):=by
 have hl:=h.len
 refine ⟨by simp [hl],fun k hk=>?_⟩
 have a1:=h.at_ i (by omega)
 have a2:=h.at_ (xs.length - 1 - i) (by omega)
 have a3:=h.at_ k hk
 rw [if_neg (by omega)] at a1 a2
 by_cases e1:k=xs.length - 1 - i
 ·subst e1;rw [Go.Bv.getD_set_eq _ (by simp;omega),a1,if_pos (by omega)]
  congr 1;omega
 ·rw [Go.Bv.getD_set_ne _ e1];by_cases e2:k=i
  ·subst e2;rw [Go.Bv.getD_set_eq _ (by omega),a2,if_pos (by omega)]
  ·rw [Go.Bv.getD_set_ne _ e2,a3];by_cases e3:k<i∨xs.length - 1 - k<i
   ·rw [if_pos e3,if_pos (by omega)]
   ·rw [if_neg e3,if_neg (by omega)]
theorem Rv.done {xs ys:List Int} {i:Nat} (h:Rv xs ys i) (hi:¬ 2*i+1<xs.length):ys=xs.reverse:=by
 refine Qeq (by rw [h.len];simp) fun k hk=>?_
 rw [h.len] at hk;rw [h.at_ k hk]
 have e:xs.reverse.getD k 0=xs.getD (xs.length - 1 - k) 0:=by simp [List.getD,List.getElem?_reverse hk]
 rw [e];split
 ·rfl
 ·congr 1;omega
theorem Qt0 (r:Nat) (H0:Qb) (xs:List Int) (hr:Qc H0 r=some ⟨3,1,ints xs⟩) (hn:xs.length≤1000000):Fc C 67 [.ref r 0 xs.length] H0 (fun v H'=>v=.tup []∧H'=H0.set r (some ⟨3,1,ints xs.reverse⟩)):=by
 have hset:∀ row,Qc (H0.set r (some row)) r=some row:=fun row=>Qg hr
 have hsame:=Quk hr
 refine zL Qf Tryz.func67 w67 Tryz.ntmps67 Tryz.results67 ?_;refine zG ?_;refine Qj (fun n ts H=>∃ (i:Nat) (ys:List Int),(2*i≤xs.length+1)∧(Rv xs ys i)∧(n=xs.length - i)∧(H=H0.set r (some ⟨3,1,ints ys⟩))∧ts.length=28∧nth ts 0=.ref r 0 xs.length∧nth ts 2=.int .i64 i∧nth ts 3=.int .i64 ((xs.length:Int) - 1 - i)) ?_ (n:=xs.length) ?_
 ·skip
  rintro n ts H ⟨i,ys,hi,hR,hn,hH,hL,hs0,hs2,hs3⟩;refine Xc [(0,.ref r 0 xs.length),(2,.int .i64 i),(3,.int .i64 ((xs.length:Int) - 1 - i))] hL (by simp only [zFm,hs0,hs2,hs3,true_and];exact zNm) ?_
  clear hL hs0 hs2 hs3 ts
  refine Qz Qf ?_;subst hn hH
  have hlz:=hR.len
  by_cases hlt:2*i+1<xs.length
  ·have hj:((xs.length:Int) - 1 - i).toNat=xs.length - 1 - i:=by omega
   refine zH2 hset hj ?_;exact ⟨xs.length - (i+1),by omega,i+1,_,by omega,hR.step hlt,rfl,rfl,rfl,by congr 1;omega⟩
  ·skip
   refine zH1 hset ?_;rw [hR.done hlt]
 ·exact ⟨0,xs,by omega,.zero xs,rfl,hsame.symm,rfl,rfl,rfl,by simp -implicitDefEqProofs (maxSteps:=9^7) (disch:=first | omega | (simp only [Je];omega)) only [go_sem];congr 1;omega⟩
theorem Qw1:Pu C 67 [.nil] (.tup []):=by
 refine zK Qf Tryz.func67 w67 Tryz.ntmps67 Tryz.results67 ?_;refine zG ?_;refine Qgx ?_;refine Qz Qf ?_;refine zG ?_
 (refine Qo (by intro g;simp only [go_sem,ren,Qk]) ?_)
 rfl
theorem Qp9 (v:Int) (d:Nd) (r:Nat) (hr:r≤1000000) (ha:d.args.length≤17592186044416) (hl:d.attrs.length≤1000000):Fc C 23 [.int .i64 v,.agg (ndC d),.sl 1 (ints [(r:Int)])] [] (fun v' H=>Ret 3 1 H v' (Jt v d r).length (ints (Jt v d r))):=by
 have hs:=Qhd d.op
 refine zK Qf Tryz.func23 w23 Tryz.ntmps23 Tryz.results23 ?_;refine zG ?_;refine Fc.own (Qaz d.attrs (by omega)) (by simp [Qh,clo,Qa]) (fun g=>Ql g _) fun u X hO=>?_
 refine zG ?_;refine Fc.pure (Qu5 d.op) rfl (fun g=>Qy g _ (by simp only [ofV,clo,Qh,Qhx,Bool.and_self])) ?_
 rw [ofV];refine zH2 Jf hs ?_;refine Fc.pure (Qmw v d ha (by omega)) (by simp [go_sem,Qh,clo,Qa,Qn]) (by intro g;simp only [go_sem,ren,Qk]) ?_
 have h0:Qc (some ⟨25,3,[.int .i64 d.op,.sl d.args.length (ints d.args),.sl d.attrs.length (ints d.attrs)]⟩::(X++[some ⟨82,8,Qdf (Ji d.op)⟩])) 0=some ⟨25,3,[.int .i64 d.op,.sl d.args.length (ints d.args),.sl d.attrs.length (ints d.attrs)]⟩:=rfl
 have h1:Qc (some ⟨25,3,[.int .i64 d.op,.sl d.args.length (ints d.args),.sl d.attrs.length (ints d.attrs)]⟩::(X++[some ⟨82,8,Qdf (Ji d.op)⟩])) (X.length+1)=some ⟨82,8,Qdf (Ji d.op)⟩:=by simp [Qc]
 have hO:Bv.Own 3 1 (some ⟨25,3,[.int .i64 d.op,.sl d.args.length (ints d.args),.sl d.attrs.length (ints d.attrs)]⟩::(X++[some ⟨82,8,Qdf (Ji d.op)⟩])) u d.attrs.length (ints d.attrs):=hO.keep _
 simp only [Jf] at h0 h1 hO;generalize (some ⟨25,3,[.int .i64 d.op,.sl d.args.length (ints d.args),.sl d.attrs.length (ints d.attrs)]⟩::(X++[some _]):Qb)=G at h0 h1 hO ⊢
 have hnone:Yy v d=0→(Qch v d.op=true↔v≤(Ji d.op).none):=fun h=>by
  obtain ⟨g1,g2,_⟩:=Qaw h;exact ((Qj1 d.op (Qoo g2)).1 v g1.1 g1.2).2
 have hlu:=hO.lenw (C.ty 23)
 (refine zH5 Jf hs hlu h0 h1 ?_;(repeat' ((with_reducible apply zBr)<;>intro h<;>refine zH5 Jf hs hlu h0 h1 ?_))<;>try exact .intro)
 ·rw [Jt,if_pos (.inl (by assumption))];exact hO.ret (fun g=>Ql g _) fun v H h=>h
 ·rw [Jt,if_pos (.inr (.inl (by omega)))];exact hO.ret (fun g=>Ql g _) fun v H h=>h
 ·have hnn:=hnone (by assumption)
  have:Qch v d.op=false:=by
   cases hb:Qch v d.op with
   | false=>rfl
   | true=>have:=hnn.1 hb;omega
  rw [Jt,if_pos (.inr (.inr this))];exact hO.ret (fun g=>Ql g _) fun v H h=>h
 all_goals
  have hnn:=(hnone (by assumption)).2 (by omega)
  have hal:d.attrs=[]:=List.eq_nil_of_length_eq_zero (by omega)
  have main:Jt v d r=if d.op=6 then [2] else if d.op=17 then [0] else if d.op=11 then down (if r>4 then 0 else r) else up (if r>4 then 0 else r):=by
   rw [Jt,if_neg (by rw [hnn,hal];simp [*])]
  rw [hal] at hO;rw [main]
 iterate 2
  ·refine Qcd (xs:=[]) hO rfl ⟨by decide,by decide⟩ (by simp) fun v' H' hO' hF=>?_
   have k0:=Xz hO hF h0 (by decide)
   refine zH1 k0 ?_;rw [if_pos (by assumption)]
   exact hO'.ret (fun g=>Ql g _) fun v H h=>h
  ·refine Qcd (xs:=[]) hO rfl ⟨by decide,by decide⟩ (by simp) fun v' H' hO' hF=>?_
   have k0:=Xz hO hF h0 (by decide)
   refine zH1 k0 ?_;rw [if_neg (by assumption),if_pos (by assumption)]
   exact hO'.ret (fun g=>Ql g _) fun v H h=>h
  ·rw [if_neg (by assumption),if_neg (by assumption)]
   obtain ⟨R,hR,hRe⟩:∃ R:Nat,R≤4∧(if r>4 then 0 else r)=R:=⟨_,by split<;>omega,rfl⟩
   rw [hRe]
   have hgr:[(r:Int)].getD 0 0=r:=rfl
   refine Qj (fun n ts H=>∃ (j:Nat) (u:V),(j≤R)∧(n=R - j)∧(Qc H 0=some ⟨25,3,[.int .i64 d.op,.sl d.args.length (ints d.args),.sl d.attrs.length (ints d.attrs)]⟩)∧(Bv.Own 3 1 H u (up j).length (ints (up j)))∧ts.length=82∧nth ts 4=.ptr 0 0∧nth ts 6=.nil∧nth ts 7=u∧nth ts 57=.int .i64 R∧nth ts 58=.int .i64 j) ?_ (n:=R) ?_
   ·skip
    rintro n ts H ⟨j,u,hj,hn,hg,hu,hL,hs4,hs6,hs7,hs57,hs58⟩;refine Xc [(4,.ptr 0 0),(6,.nil),(7,u),(57,.int .i64 R),(58,.int .i64 j)] hL (by simp only [zFm,hs4,hs6,hs7,hs57,hs58,true_and];exact zNm) ?_
    clear hL hs4 hs6 hs7 hs57 hs58 ts
    refine Qz Qf ?_;subst hn;by_cases hlt:j<R
    ·skip
     refine zH1 hg ?_;refine Qcd hu rfl ⟨by decide,by decide⟩ (by rw [Qa0];omega) fun v' H' hO' hF=>?_
     have k0:=Xz hu hF hg (by decide)
     refine zH1 k0 ?_;exact ⟨R - (j+1),by omega,j+1,v',by omega,rfl,by rw [Xak];exact hO',(by (repeat' apply And.intro)<;>(first | rfl | omega | (congr 1;omega) | assumption | (congr 1;assumption)))⟩
    ·have hjR:j=R:=by omega
     (refine zH1 hg ?_;(repeat' ((with_reducible apply zBr)<;>intro h<;>refine zH1 hg ?_))<;>try exact .intro)
     all_goals subst hjR
     ·rw [if_pos (by assumption)]
      rcases hu with ⟨rfl,h2,h3⟩ | ⟨q,rfl,hq,_⟩
      ·obtain rfl:j=0:=by rw [Qa0] at h2;exact h2
       refine Fc.pure (Qw1) (by simp [go_sem,Qh,clo,Qa,Qn]) (by intro g;simp only [go_sem,ren,Qk]) ?_
       refine zG ?_;exact (Go.Bv.Own.nil _ _ _).ret (fun g=>rfl) fun v H h=>h
      ·refine Fc.mono (Qt0 q _ (up j) hq (by rw [Qa0];omega)) ?_
       rintro v' H' ⟨rfl,rfl⟩;refine zG ?_
       have hOd:Bv.Own 3 1 (H.set q (some ⟨3,1,ints (up j).reverse⟩)) (.ref q 0 (up j).length) (down j).length (ints (down j)):=.inr ⟨q,by rw [Jc,Qa0],Qg hq,by simp [Yj]⟩
       exact hOd.ret (fun g=>Ql g _) fun v H h=>h
     ·rw [if_neg (by assumption)]
      exact hu.ret (fun g=>Ql g _) fun v H h=>h
   ·exact ⟨0,u,by omega,rfl,h0,hO,rfl,rfl,rfl,rfl,by simp -implicitDefEqProofs (maxSteps:=9^7) (disch:=first | omega | (simp only [Je];omega)) only [go_sem];congr 1;grind,rfl⟩
 ·refine Qcd (xs:=[]) hO rfl ⟨by decide,by decide⟩ (by simp) fun v' H' hO' hF=>?_
  have k0:=Xz hO hF h0 (by decide)
  refine zH1 k0 ?_;rw [if_pos (by assumption)]
  exact hO'.ret (fun g=>Ql g _) fun v H h=>h
 ·refine Qcd (xs:=[]) hO rfl ⟨by decide,by decide⟩ (by simp) fun v' H' hO' hF=>?_
  have k0:=Xz hO hF h0 (by decide)
  refine zH1 k0 ?_;rw [if_neg (by assumption),if_pos (by assumption)]
  exact hO'.ret (fun g=>Ql g _) fun v H h=>h
 ·exfalso;have:[(r:Int)].getD 0 0=r:=rfl;omega
theorem Qx4 (R:Nat):Zn (down R)=true:=by
 refine (Qbu _).2 fun i hi=>?_
 rw [Jc] at hi;refine ⟨by rw [Qcv hi];omega,by rw [Qcv hi,Jc];omega,fun k hk=>?_⟩
 rw [Qcv hi,Qcv (by omega)];omega
theorem Xgz {R:Nat} (h:R≤4):Qd8 (up R)=true:=by
 refine (Qa1 _).2 fun i hi=>?_
 rw [Qa0] at hi;refine ⟨by rw [Qh3 hi];omega,by rw [Qh3 hi];omega,fun h0=>?_⟩
 rw [Qh3 hi,Qh3 (by omega)];omega
theorem Xba {l:List Int} (h:∀ i,i<l.length→-2147483647≤l.getD i 0∧l.getD i 0≤2147483647):Qhq l=false:=by
 simp only [Qhq,List.any_eq_false,decide_eq_true_eq];intro x hx;obtain ⟨i,hi,rfl⟩:=List.mem_iff_getElem.1 hx
 have:=h i hi
 rw [show l.getD i 0=l[i] by simp [List.getD,hi]] at this
 omega
theorem Xhw {v o:Int} (h:Qch v o=true):o=6∨o=11∨o=17∨o=14∨o=20:=by
 simp only [Qch,decide_eq_true_eq] at h;omega
theorem Qs5 {v:Int} {d:Nd} (r:Nat) (hc:Yy v d=0):Ya d.op (Jt v d r)=true:=by
 obtain ⟨hv,hin,h1,h2,h3⟩:=Qaw hc;by_cases hex:Yy v d≠0∨d.attrs.length>0∨Qch v d.op=false
 ·rw [Jt,if_pos hex];rcases h3 with ⟨h3,h4⟩ | h3
  ·rcases hex with hex | hex | hex
   ·exact (hex hc).elim
   ·omega
   ·rw [h4] at hex;cases hex
  ·exact h3
 ·rw [Jt,if_neg hex]
  have hn:Qch v d.op=true:=by
   cases hb:Qch v d.op with
   | true=>rfl
   | false=>exact (hex (.inr (.inr hb))).elim
  generalize hR:(if r>4 then 0 else r)=R
  have hR4:R≤4:=by split at hR<;>omega
  have ho:=Xhw hn
  have hd:=Qx4 R
  have hu:=Xgz hR4
  have fd:Qhq (down R)=false:=Xba fun i hi=>by rw [Jc] at hi;rw [Qcv hi];omega
  have fu:Qhq (up R)=false:=Xba fun i hi=>by rw [Qa0] at hi;rw [Qh3 hi];omega
  by_cases e6:d.op=6
  ·rw [if_pos e6,e6];decide
  rw [if_neg e6];by_cases e17:d.op=17
  ·rw [if_pos e17,e17];decide
  rw [if_neg e17];by_cases e11:d.op=11
  ·rw [if_pos e11,e11,Ya,fd];rw [show Yu 11 (down R)=(Zn (down R)&&decide ((down R).length≤4)) from rfl,hd,Jc];simp [hR4]
  rw [if_neg e11,Ya,fu]
  have:Yu d.op (up R)=Qd8 (up R):=by
   have e:d.op=14∨d.op=20:=by omega
   rcases e with e | e<;>rw [e]<;>rfl
  rw [this,hu];rfl
theorem Xau {l:List Int} (h:∀ i,i<l.length→Qd9 l i):∀ i,i<l.length→(i:Int)≤l.getD i 0
 | 0,hi=>(h 0 hi).1
 | i+1,hi=>by
  have h1:=Xau h i (by omega)
  have h2:=(h (i+1) hi).2.2 (by omega)
  rw [show i+1 - 1=i by omega] at h2
  omega
theorem Xgy {l:List Int} (h:∀ i,i<l.length→Qd9 l i):l.length≤4:=by
 rcases Nat.lt_or_ge 4 l.length with h1 | h1
 ·have h2:=Xau h 4 h1
  have h3:=(h 4 h1).2.1
  omega
 ·exact h1
theorem Qpg {a:List Int} (h:Ya 11 a=true):Zn a=true∧a.length≤4:=by
 simp only [Ya,Bool.and_eq_true] at h
 have:=h.2
 rw [show Yu 11 a=(Zn a&&decide (a.length≤4)) from rfl] at this;simpa using this
theorem Qpf {o:Int} {a:List Int} (h:Ya o a=true) (ho:o=14∨o=20):∀ i,i<a.length→Qd9 a i:=by
 simp only [Ya,Bool.and_eq_true] at h
 have:=h.2
 rcases ho with rfl | rfl<;>exact (Qa1 _).1 this
theorem Qjp {o:Int} {a:List Int} (h:Ya o a=true) (ho:o=15∨o=16):a.length≤8∧∀ i,i<a.length/2→Qhg (decide (o=15)) a i:=by
 simp only [Ya,Bool.and_eq_true] at h
 have:=h.2
 rcases ho with rfl | rfl
 ·exact ((Qcn true a).1 this).2
 ·exact ((Qcn false a).1 this).2
theorem Qrn {o:Int} {a:List Int} (h:Ya o a=true):a.length≤8:=by
 by_cases h1:o=14∨o=20
 ·have:=Xgy (Qpf h h1);omega
 by_cases h2:o=15∨o=16
 ·exact (Qjp h h2).1
 by_cases h3:o=12∨o=13
 ·simp only [Ya,Bool.and_eq_true] at h
  have h4:Xa a=0:=by
   have:=h.2
   rcases h3 with rfl | rfl<;>exact of_decide_eq_true this
  have:=(Qu h4).1;omega
 simp only [Ya,Yu,Bool.and_eq_true] at h
 have h4:=h.2
 split at h4
 ·have:=of_decide_eq_true h4;omega
 split at h4
 ·have:=of_decide_eq_true h4;omega
 split at h4
 ·simp only [Bool.and_eq_true,decide_eq_true_eq] at h4;omega
 split at h4
 ·have:=of_decide_eq_true h4;omega
 ·have:=of_decide_eq_true h4;omega
theorem Xao {f:Nat→Int} {k:Nat} (h:∀ i,i<k→1≤f i):∀ d∈tab f k,1≤d:=by
 intro d hd;simp only [tab,List.mem_map,List.mem_range] at hd;obtain ⟨i,hi,rfl⟩:=hd;exact h i hi
theorem Qwa {axis:Nat} {l:List (List Int)} (hd:∀ k,k<l.length→1≤(l.getD k []).getD axis 0):∀ k,k≤l.length→(k:Int)≤Qa7 axis l k
 | 0,_=>by simp [Qa7]
 | k+1,h=>by
  have h1:=Qwa hd k (by omega)
  have h2:=hd k (by omega)
  simp only [Qa7];omega
theorem Xny {o:Int} {a:List Int} {l:List (List Int)} (h:ComeOK o a l) (ha:Ya o a=true) (hm:∀ k,k<l.length→Xa (l.getD k [])=0):(Yc o a l).2=0→Xa (Yc o a l).1=0∨Xa (Yc o a l).1=14:=by
 have m0:=hm 0 h.one
 obtain ⟨q1,q2,q3⟩:=Qu m0
 have hmat:o=10∨o=19→(Qab (l.getD 0 []) (l.getD 1 [])).2=0→Xa (Qab (l.getD 0 []) (l.getD 1 [])).1=0∨Xa (Qab (l.getD 0 []) (l.getD 1 [])).1=14:=by
  intro ho
  have h1:=hm 1 (h.two (by omega))
  unfold Qab;split
  ·rename_i hc;intro _;refine Qq3 (by simp) fun d hd=>?_
   have g0:=Zj q2 (i:=0) (by omega)
   have g1:=Zj (Qu h1).2.1 (i:=1) (by omega)
   simp only [List.mem_cons,List.not_mem_nil,or_false] at hd;rcases hd with rfl | rfl<;>assumption
  ·intro h;simp at h
 unfold Yc;split
 ·split
  ·exact fun _=>.inl m0
  ·intro h;simp at h
 split
 ·exact hmat (by omega)
 split
 ·split
  ·intro h;exact absurd h (by assumption)
  ·split
   ·intro h;simp at h
   ·split
    ·intro h;simp at h
    ·exact fun _=>hmat (by omega) (by omega)
 split
 ·split
  ·rename_i h11 hl;intro _
   have hp:=(Qpg (h11 ▸ ha)).1
   have hpm:=Qqc hl hp
   exact Qq3 (by rw [Zw];omega) fun d hd=>q2 d (hpm.mem_iff.1 hd)
  ·intro h;simp at h
 split
 ·split
  ·rename_i he;intro _
   have h1:Xf (l.getD 0 [])=Qx (l.getD 0 []):=by rw [Xf,if_pos m0]
   have h2:=Yp q2
   by_cases hx:Xa a=0
   ·exact .inl hx
   ·have:Xf a=0:=by rw [Xf,if_neg hx]
    omega
  ·intro h;simp at h
 split
 ·split
  ·rename_i he;intro _;unfold Qad at he;rw [if_pos m0] at he;split at he
   ·exact .inl (by assumption)
   ·exact .inl he
  ·intro h;simp at h
 split
 ·split
  ·intro h;simp at h
  ·exact fun _=>.inl (Qgd a m0)
 split
 ·unfold Xph;split
  ·rename_i ho hl;intro _;refine Qq3 (by rw [Zw];omega) (Xao fun i hi=>?_)
   have:=(Qjp ha (.inl ho)).2 i (by omega)
   have:=this.2.2 (by simpa using ho)
   unfold Xlw;omega
  ·intro h;simp at h
 split
 ·unfold Xqf;split
  ·rename_i ho hl;intro _;refine Qq3 (by rw [Zw];omega) (Xao fun i hi=>?_)
   have g0:=Zj q2 hi
   have:=(Qjp ha (.inr ho)).2 i (by omega)
   have h1:=this.1
   have h2:=this.2.1
   unfold Xhb;omega
  ·intro h;simp at h
 split
 ·unfold Qht;split
  ·rename_i ho hl;intro _;refine Qq3 (by rw [List.length_set];omega) fun d hd=>?_
   rcases List.mem_or_eq_of_mem_set hd with hd | rfl
   ·exact q2 d hd
   ·have:=Qwa (axis:=(a.getD 0 0).toNat) (l:=l) (fun k hk=>by
     obtain ⟨_,g2,_⟩:=Qu (hm k hk);refine Zj g2 ?_;rcases Nat.eq_zero_or_pos k with rfl | hk0
     ·exact hl.1
     ·have:=((Qhv _ _ _).1 hl.2 k hk hk0).1
      omega) l.length (Nat.le_refl _)
    have:=h.one
    omega
  ·intro h;simp at h
 exact fun _=>.inl m0
theorem Qqh {v:Int} {d:Nd} {l:List (List Int)} (hat:d.attrs.length≤17592186044416) (hc:Yy v d=0) (hl:l.length=d.args.length) (hm:∀ j,j<l.length→Xa (l.getD j [])=0):Zi (Yc d.op (Jt v d (l.getD 0 []).length) l)=Qbl v d l:=by
 have hok:=Ql1 (l.getD 0 []).length hat hc hl hm
 have h14:=Xny hok (Qs5 _ hc) hm
 rw [Qbl,if_neg (by omega),if_neg (by omega),if_neg (by rw [Xh7 hm];simp)]
 generalize Yc d.op (Jt v d (l.getD 0 []).length) l=c at h14 ⊢;obtain ⟨s,e⟩:=c;simp only [Zi] at h14 ⊢;by_cases he:e=0
 ·subst he;rcases h14 rfl with h | h
  ·simp [h]
  ·simp [h]
 ·simp [he]
theorem Qpm (v:Int) (d:Nd) (l:List (List Int)) (ha:d.args.length≤17592186044416) (hat:d.attrs.length≤17592186044416) (hl:l.length≤1000000) (hk:∀ k,k<l.length→(l.getD k []).length≤17592186044416):Fc C 9 [.int .i64 v,.agg (ndC d),.sl l.length (Jm l)] [] (fun u H=>ROw u H (Qbl v d l)):=by
 refine zK Qf Tryz.func9 w9 Tryz.ntmps9 Tryz.results9 ?_;refine zG ?_;refine Fc.pure (Qmw v d ha hat) (by simp [go_sem,Qh,clo,Qa,Qn]) (by intro g;simp only [go_sem,ren,Qk]) ?_
 (refine zG ?_;(repeat' ((with_reducible apply zBr)<;>intro h<;>refine zG ?_))<;>try exact .intro)
 ·rw [Qbl,if_pos (by assumption)];exact Qee _
 ·rw [Qbl,if_neg (by omega),if_pos (by omega)];exact Qee _
 ·skip
  refine Qj (fun n ts H=>∃ i,(i≤l.length)∧(∀ j,j<i→Xa (l.getD j [])=0)∧(n=l.length - i)∧(H=[some ⟨25,3,ndC d⟩])∧ts.length=50∧nth ts 0=.int .i64 v∧nth ts 2=.sl l.length (Jm l)∧nth ts 4=.ptr 0 0∧nth ts 24=.sl l.length (Jm l)∧nth ts 25=.int .i64 l.length∧nth ts 26=.int .i64 i) ?_ (n:=l.length) ?_
  ·skip
   rintro n ts H ⟨i,hi,hm,hn,hH,hL,hs0,hs2,hs4,hs24,hs25,hs26⟩;refine Xc [(0,.int .i64 v),(2,.sl l.length (Jm l)),(4,.ptr 0 0),(24,.sl l.length (Jm l)),(25,.int .i64 l.length),(26,.int .i64 i)] hL (by simp only [zFm,hs0,hs2,hs4,hs24,hs25,hs26,true_and];exact zNm) ?_
   clear hL hs0 hs2 hs4 hs24 hs25 hs26 ts
   refine Qz Qf ?_;subst hn hH;by_cases hlt:i<l.length
   ·have hki:=hk i hlt
    refine zG ?_;refine Fc.pure (Ku _ hki) (by simp [go_sem,Qh,clo,Qa,Qn]) (by intro g;simp only [go_sem,ren,Qk]) ?_
    (refine zG ?_;(repeat' ((with_reducible apply zBr)<;>intro h<;>refine zG ?_))<;>try exact .intro)
    ·rw [Qbl,if_neg (by omega),if_neg (by omega),if_pos (by rw [Xa5 hm hlt (by assumption)];assumption),Xa5 hm hlt (by assumption)]
     exact Qee _
    ·exact ⟨_,by omega,i+1,by omega,Qbc hm (by assumption),rfl,(by (repeat' apply And.intro)<;>(first | rfl | omega | (congr 1;omega) | assumption | (congr 1;assumption)))⟩
   ·obtain rfl:i=l.length:=by omega
    have hc:Yy v d=0:=by assumption
    have hll:l.length=d.args.length:=by omega
    have hok:=Ql1 (l.getD 0 []).length hat hc hll hm
    have hat2:=Qs5 (l.getD 0 []).length hc
    have hlen:=Qrn hat2
    have h1:=hok.one
    have hr:=hok.rank 0 h1
    have hs:=Qqh hat hc hll hm
    have hdl:d.attrs.length≤1000000:=by
     obtain ⟨_,_,_,_,h3⟩:=Qaw hc;rcases h3 with ⟨h3,_⟩ | h3
     ·omega
     ·have:=Qrn h3;omega
    refine zG ?_;refine Pc.ownL (Qp9 v d (l.getD 0 []).length (by omega) ha hdl) ⟨.self rfl,.self (by simp [clo,Qh,Qa]),(Qso (H:=[some ⟨25,3,ndC d⟩]) (e:=3) (s:=1) (cs:=ints [((l.getD 0 []).length:Int)]) (n:=1) rfl).bor' (Qa [((l.getD 0 []).length:Int)]),trivial⟩ (by simp [Yj]) (fun g=>Ql g _) (Xp _) fun ua X hO=>?_
    refine zG ?_;refine Pc.ow (Qy1 _ _ _ hok (by omega) hm (fun h=>(Qpg (h ▸ hat2)).1) (fun h=>Qpf hat2 h)) ⟨.self rfl,hO.bor' (Qa _),.self (by simp [clo,Qn]),trivial⟩ fun w X2 hw=>?_
    rw [hs] at hw ⊢;refine zG ?_;exact Qe3 _ hw
  ·exact ⟨0,by omega,fun j hj=>by omega,rfl,rfl,rfl,rfl,rfl,rfl,rfl,rfl,rfl⟩
end Go.Proofs.YtipmmjebfpbkmaaGreat
end
section
namespace Go.Bv
def lv (b:Nat):List Nat→Nat
 | []=>0
 | x::l=>x+b*lv b l
theorem Qf5 (b:Nat):∀ l m:List Nat,lv b (l++m)=lv b l+b ^ l.length*lv b m
 | [],m=>by simp [lv]
 | x::l,m=>by
  simp only [List.cons_append,lv,Qf5 b l m,List.length_cons,Nat.pow_succ,Nat.mul_add];rw [Nat.add_assoc,← Nat.mul_assoc,Nat.mul_comm (b ^ l.length) b]
theorem Qak (b:Nat) (l:List Nat) (x:Nat):lv b (l++[x])=lv b l+b ^ l.length*x:=by rw [Qf5];simp [lv]
theorem Qkm {b:Nat}:∀ {l:List Nat},(∀ x∈l,x<b)→lv b l<b ^ l.length
 | [],_=>by simp [lv]
 | x::l,h=>by
  have h1:=Qkm (l:=l) fun y hy=>h y (by simp [hy])
  have h2:=h x (by simp)
  simp only [lv,List.length_cons,Nat.pow_succ]
  have h3:b*(lv b l+1)≤b*b ^ l.length:=Nat.mul_le_mul_left b h1
  rw [Nat.mul_comm (b ^ l.length) b];rw [Nat.mul_add,Nat.mul_one] at h3;omega
theorem Qc6 {b:Nat} (hb:0<b):∀ {l:List Nat},lv b l=0↔∀ x∈l,x=0
 | []=>by simp [lv]
 | x::l=>by
  simp only [lv,List.mem_cons,forall_eq_or_imp,← Qc6 hb (l:=l)];constructor
  ·intro h
   have h1:x=0:=by omega
   have h2:b*lv b l=0:=by omega
   rcases Nat.mul_eq_zero.1 h2 with h3 | h3
   ·omega
   ·exact ⟨h1,h3⟩
  ·rintro ⟨rfl,h⟩;rw [h];simp
def dg (b n:Nat):List Nat:=if h:1<b∧0<n then n%b::dg b (n/b) else []
termination_by n
decreasing_by exact Nat.div_lt_self h.2 h.1
theorem Yw (b:Nat):dg b 0=[]:=by rw [dg];simp
theorem Qer {b n:Nat} (hb:1<b) (hn:0<n):dg b n=n%b::dg b (n/b):=by rw [dg,dif_pos ⟨hb,hn⟩]
theorem Qzf {b:Nat} (hb:1<b) {P:Nat→Prop} (h0:P 0) (h1:∀ n,0<n→P (n/b)→P n) (n:Nat):P n:=by
 induction n using Nat.strongRecOn with
 | ind n ih =>
  by_cases h:n=0
  ·subst h;exact h0
  ·exact h1 n (by omega) (ih _ (Nat.div_lt_self (by omega) hb))
theorem Qq6 {b:Nat} (hb:1<b) (n:Nat):lv b (dg b n)=n:=by
 refine Qzf hb (P:=fun n=>lv b (dg b n)=n) (by simp [Yw,lv]) (fun n hn ih=>?_) n
 rw [Qer hb hn,lv,ih,Nat.mod_add_div]
theorem Xjy {b:Nat} (hb:1<b) (n:Nat):∀ x∈dg b n,x<b:=by
 refine Qzf hb (P:=fun n=>∀ x∈dg b n,x<b) (by simp [Yw]) (fun n hn ih=>?_) n
 rw [Qer hb hn];intro x hx;rcases List.mem_cons.1 hx with rfl | hx
 ·exact Nat.mod_lt _ (by omega)
 ·exact ih x hx
def Yx:List Nat→Nat
 | []=>0
 | x::l=>if Yx l=0 then (if x=0 then 0 else 1) else Yx l+1
theorem Qcy:∀ l:List Nat,Yx l≤l.length
 | []=>by simp [Yx]
 | x::l=>by have:=Qcy l;simp only [Yx,List.length_cons];split<;>(try split)<;>omega
theorem Qfq:∀ {l:List Nat},Yx l=0↔∀ x∈l,x=0
 | []=>by simp [Yx]
 | x::l=>by
  simp only [Yx,List.mem_cons,forall_eq_or_imp,← Qfq (l:=l)];split
  ·rename_i h;split<;>simp [*]
  ·rename_i h;simp [h]
theorem Qrd {b:Nat} (hb:1<b):∀ {l:List Nat},(∀ x∈l,x<b)→dg b (lv b l)=l.take (Yx l)
 | [],_=>by simp [lv,Yw]
 | x::l,h=>by
  have ih:=Qrd hb (l:=l) fun y hy=>h y (by simp [hy])
  have hx:=h x (by simp)
  simp only [Yx];by_cases ht:Yx l=0
  ·rw [if_pos ht]
   have hz:lv b l=0:=(Qc6 (by omega)).2 (Qfq.1 ht)
   simp only [lv,hz,Nat.mul_zero,Nat.add_zero];by_cases hx0:x=0
   ·subst hx0;rw [if_pos rfl,Yw];rfl
   ·rw [if_neg hx0,Qer hb (by omega),Nat.mod_eq_of_lt hx,Nat.div_eq_of_lt hx,Yw];simp
  ·rw [if_neg ht]
   have hz:0<lv b l:=Nat.pos_of_ne_zero fun h0=>ht (Qfq.2 ((Qc6 (by omega)).1 h0))
   have hp:0<lv b (x::l):=by
    simp only [lv]
    have:=Nat.mul_pos (show 0<b by omega) hz
    omega
   rw [Qer hb hp];simp only [lv];rw [Nat.add_mul_mod_self_left,Nat.mod_eq_of_lt hx,Nat.add_mul_div_left _ _ (by omega),Nat.div_eq_of_lt hx,Nat.zero_add,ih]
   simp
theorem Xn {b:Nat} (hb:1<b) (n k:Nat) (h:n<b ^ k):(dg b n).length≤k:=by
 induction k generalizing n with
 | zero=>simp at h;subst h;simp [Yw]
 | succ k ih =>
  by_cases hn:n=0
  ·subst hn;simp [Yw]
  ·rw [Qer hb (by omega),List.length_cons]
   have:=ih (n/b) (Nat.div_lt_of_lt_mul (by rw [Nat.mul_comm,← Nat.pow_succ];exact h))
   omega
theorem Zt {b:Nat} (hb:1<b) (n:Nat):n<b ^ (dg b n).length:=by
 have:=Qkm (Xjy hb n)
 rwa [Qq6 hb] at this
theorem Qau {b:Nat} {l:List Nat} (h:∀ x∈l,x<b) (k:Nat) (hk:k≤l.length):lv b (l.take k)<b ^ k:=by
 have:=Qkm (l:=l.take k) fun x hx=>h x (List.mem_of_mem_take hx)
 rwa [List.length_take,Nat.min_eq_left hk] at this
theorem Qav (b:Nat) (l:List Nat) (k:Nat) (hk:k≤l.length):lv b l=lv b (l.take k)+b ^ k*lv b (l.drop k):=by
 conv=>lhs;rw [← List.take_append_drop k l]
 rw [Qf5,List.length_take,Nat.min_eq_left hk]
def Xh (k:IntKind) (l:List Nat):List V:=l.map fun x:Nat=>V.int k (x:Int)
@[go_sem] theorem Zh (k:IntKind) (l:List Nat):(Xh k l).length=l.length:=by simp [Xh]
theorem Qmi (k:IntKind) (l m:List Nat):Xh k (l++m)=Xh k l++Xh k m:=by simp [Xh]
theorem Qlt (k:IntKind) (l:List Nat) (n:Nat):(Xh k l).take n=Xh k (l.take n):=by simp [Xh,List.map_take]
@[go_sem] theorem Qf3 (k:IntKind) (l:List Nat):(Xh k l).all Yq=true:=by simp [Xh,Yq]
theorem Qki {k:IntKind} (l:List Nat) (i:Nat) (h:i<l.length):nth (Xh k l) i=.int k (l.getD i 0:Nat):=by
 rw [Ze];simp [Xh,List.getD,h]
attribute [go_sem] Qki
@[go_sem] theorem Qaf (k:IntKind) (g:Nat→Option Nat) (l:List Nat):Qk g (Xh k l)=Xh k l:=by
 induction l with
 | nil=>rfl
 | cons x l ih=>simp only [Xh,List.map_cons,Qk,ren] at ih ⊢;rw [ih]
@[go_sem] theorem Qm (k:IntKind) (l:List Nat):Qh (Xh k l)=true:=by
 induction l with
 | nil=>rfl
 | cons x l ih=>simp only [Xh,List.map_cons,Qh,clo] at ih ⊢;rw [ih];rfl
theorem Zf (k:IntKind) (l:List Nat):Xt (Xh k l)=true:=by
 induction l with
 | nil=>rfl
 | cons x l ih=>simp only [Xh,List.map_cons,Xt,plain] at ih ⊢;rw [ih];rfl
theorem Qm6 {n:Int} (h:0≤n∧n≤18446744073709551615):IntKind.wrap .u64 n=n:=by
 have e:IntKind.wrap .u64 n=n%18446744073709551616:=by simp [IntKind.wrap,IntKind.bits,IntKind.signed]
 rw [e];omega
theorem Qjs {n:Int} (h:0≤n∧n≤4294967295):IntKind.wrap .u32 n=n:=by
 have e:IntKind.wrap .u32 n=n%4294967296:=by simp [IntKind.wrap,IntKind.bits,IntKind.signed]
 rw [e];omega
theorem Qt3 (n:Int):IntKind.wrap .u64 n=n%18446744073709551616:=by simp [IntKind.wrap,IntKind.bits,IntKind.signed]
theorem Qe0 (n:Int):IntKind.wrap .u32 n=n%4294967296:=by simp [IntKind.wrap,IntKind.bits,IntKind.signed]
attribute [go_sem] Qm6 Qjs
def Qv9 (o:Option IntKind) (n:Int) (K:V→Prop):Prop:=match o with
 | some k=>K (.int k (k.wrap n))
 | none=>False
@[congr] theorem Xoy {uu:Prop} (h00:(True∧True)=uu) {o o':Option IntKind} {n n':Int} (K:V→Prop) (h:o=o') (h2:n=n'):Qv9 o n K=Qv9 o' n' K:=by rw [h,h2]
@[go_sem] theorem Xe3 (y:Ty) (k:IntKind) (n:Int) (K:V→Prop):Qet y (.int k n) K=Qv9 y.ik n K:=by
 unfold Qet Qv9;cases y.ik<;>rfl
@[go_sem] theorem Xrl (k:IntKind) (n:Int) (K:V→Prop):Qv9 (some k) n K=K (.int k (k.wrap n)):=rfl
theorem Xb4 (l:List Nat) (x:Nat):Yx (l++[x])=if x=0 then Yx l else l.length+1:=by
 induction l with
 | nil=>simp [Yx]
 | cons y l ih =>
  simp only [List.cons_append,Yx,ih,List.length_cons];by_cases hx:x=0
  ·simp [hx]
  ·simp [hx]
theorem Qbt {l:List Nat} {n:Nat} (h:n<l.length):Yx (l.take (n+1))=if l.getD n 0=0 then Yx (l.take n) else n+1:=by
 have:l.take (n+1)=l.take n++[l.getD n 0]:=by rw [List.take_add_one];simp [List.getD,h]
 rw [this,Xb4,List.length_take,Nat.min_eq_left (by omega)]
theorem Qhl {b:Nat} {l:List Nat} {n:Nat} (h:n<l.length):lv b (l.take (n+1))=lv b (l.take n)+b ^ n*l.getD n 0:=by
 have:l.take (n+1)=l.take n++[l.getD n 0]:=by rw [List.take_add_one];simp [List.getD,h]
 rw [this,Qak,List.length_take,Nat.min_eq_left (by omega)]
def Lim (l:List Nat):Prop:=∀ x∈l,x<4294967296
theorem Lim.get {l:List Nat} (h:Lim l) (i:Nat):l.getD i 0<4294967296:=by
 by_cases hi:i<l.length
 ·have:l.getD i 0=l[i]:=by simp [List.getD,hi]
  rw [this];exact h _ (List.getElem_mem hi)
 ·simp [List.getD,List.getElem?_eq_none (Nat.le_of_not_lt hi)]
theorem Xn7 {k a b:Nat} (ha:a<2 ^ k) (hb:b<2 ^ k):(BitVec.ofInt k (a:Int) &&& BitVec.ofInt k (b:Int)).toNat=a &&& b:=by
 rw [BitVec.toNat_and,BitVec.ofInt_natCast,BitVec.ofInt_natCast,BitVec.toNat_ofNat,BitVec.toNat_ofNat,Nat.mod_eq_of_lt ha,Nat.mod_eq_of_lt hb]
theorem Xhd {k a b:Nat} (ha:a<2 ^ k) (hb:b<2 ^ k):(BitVec.ofInt k (a:Int)|||BitVec.ofInt k (b:Int)).toNat=a|||b:=by
 rw [BitVec.toNat_or,BitVec.ofInt_natCast,BitVec.ofInt_natCast,BitVec.toNat_ofNat,BitVec.toNat_ofNat,Nat.mod_eq_of_lt ha,Nat.mod_eq_of_lt hb]
theorem Xah {k a b:Nat} (ha:a<2 ^ k) (hb:b<2 ^ k):(BitVec.ofInt k (a:Int) ^^^ BitVec.ofInt k (b:Int)).toNat=a ^^^ b:=by
 rw [BitVec.toNat_xor,BitVec.ofInt_natCast,BitVec.ofInt_natCast,BitVec.toNat_ofNat,BitVec.toNat_ofNat,Nat.mod_eq_of_lt ha,Nat.mod_eq_of_lt hb]
def Ks (n:Nat):Nat:=(dg 2 n).length
theorem Qk2 (n:Nat):n<2 ^ Ks n:=Zt (by decide) n
theorem Qdu {n k:Nat} (h:n<2 ^ k):Ks n≤k:=Xn (by decide) n k h
theorem Xbk {n k:Nat} (h:2 ^ k≤n):k<Ks n:=by
 refine Classical.byContradiction fun hc=>?_
 have:=Qk2 n
 have:=Nat.pow_le_pow_right (n:=2) (by decide) (Nat.le_of_not_lt hc)
 omega
theorem Xbj {n k:Nat} (h1:n<2 ^ (k+1)) (h2:2 ^ k≤n):Ks n=k+1:=by
 have:=Qdu h1
 have:=Xbk h2
 omega
theorem Ql4:Ks 0=0:=by simp [Ks,Yw]
theorem Qwm {n:Nat} (h:0<n):2 ^ (Ks n - 1)≤n:=by
 refine Classical.byContradiction fun hc=>?_
 have h1:=Qdu (Nat.lt_of_not_le hc)
 have:0<Ks n:=by
  refine Nat.pos_of_ne_zero fun h0=>?_
  have:=Qk2 n
  rw [h0] at this;simp at this;omega
 omega
theorem Qhz {n k:Nat} (h:2 ^ k≤n):Ks n=k+Ks (n/2 ^ k):=by
 have hp:0<2 ^ k:=Nat.two_pow_pos k
 have h0:0<n/2 ^ k:=Nat.div_pos h hp
 have h1:=Qk2 (n/2 ^ k)
 have h2:=Qwm h0
 have e:Ks (n/2 ^ k)=(Ks (n/2 ^ k) - 1)+1:=by
  have:0<Ks (n/2 ^ k):=Xbk (k:=0) (by rw [Nat.pow_zero];exact h0)
  omega
 rw [e,← Nat.add_assoc];refine Xbj ?_ ?_
 ·rw [Nat.add_assoc,← e,Nat.pow_add]
  have:=(Nat.div_lt_iff_lt_mul hp).1 h1
  rwa [Nat.mul_comm] at this
 ·rw [Nat.pow_add]
  have:=(Nat.le_div_iff_mul_le hp).1 h2
  rwa [Nat.mul_comm] at this
end Go.Bv
end
section
namespace Go.Bv
theorem Qjj {b:Nat} (hb:1<b) (x:Nat):∀ i,(dg b x).getD i 0=x/b ^ i%b:=by
 refine Qzf hb (P:=fun x=>∀ i,(dg b x).getD i 0=x/b ^ i%b) (fun i=>by simp [Yw,List.getD]) (fun n hn ih i=>?_) x
 rw [Qer hb hn];cases i with
 | zero=>simp [List.getD]
 | succ i =>
  have:=ih i
  simp only [List.getD,List.getElem?_cons_succ] at this ⊢;rw [this,Nat.div_div_eq_div_mul,Nat.pow_succ,Nat.mul_comm b]
def D10:Nat:=10000
def Xe (x:Nat):Nat:=(dg D10 x).length
theorem Qfc:1<D10:=by decide
theorem Qa5 {x k:Nat} (h:x<D10 ^ k):Xe x≤k:=Xn Qfc x k h
theorem Qb4 (x:Nat):x<D10 ^ Xe x:=Zt Qfc x
theorem Qbo {x k:Nat} (h:Xe x≤k):x<D10 ^ k:=Nat.lt_of_lt_of_le (Qb4 x) (Nat.pow_le_pow_right (by decide) h)
theorem Kr {x y:Nat} (h:x≤y):Xe x≤Xe y:=Qa5 (Nat.lt_of_le_of_lt h (Qb4 y))
theorem dlen_zero {x:Nat}:Xe x=0↔x=0:=by
 constructor
 ·intro h;have:=Qb4 x;rw [h] at this;simpa using this
 ·intro h;subst h;simp [Xe,Yw]
theorem Xjx {x:Nat} (h:0<x):Xe x=Xe (x/D10)+1:=by simp [Xe,Qer Qfc h]
theorem Qo3 (x y:Nat):Xe (x*y)≤Xe x+Xe y:=Qa5 (by
 rw [Nat.pow_add];exact Nat.mul_lt_mul'' (Qb4 x) (Qb4 y))
theorem Xbd {x i:Nat} (h:i<Xe x):D10 ^ i≤x:=Nat.le_of_not_lt fun h1=>by have:=Qa5 h1;omega
theorem Qnd (x i:Nat):x/D10 ^ i=x/D10 ^ i%D10+D10*(x/D10 ^ (i+1)):=by
 rw [Nat.pow_succ,← Nat.div_div_eq_div_mul];exact (Nat.mod_add_div _ _).symm
theorem Qhj (x i:Nat):x%D10 ^ (i+1)=x%D10 ^ i+D10 ^ i*(x/D10 ^ i%D10):=by rw [Nat.pow_succ,Nat.mod_mul]
theorem Qo4 {x n:Nat} (h:x<4294967296 ^ n):Xe x≤3*n:=Qa5 (by
 refine Nat.lt_of_lt_of_le h ?_;rw [Nat.pow_mul];exact Nat.pow_le_pow_left (by decide) n)
theorem Qjd (x:Nat):(dg 4294967296 x).length≤Xe x:=Xn (by decide) x _ (Nat.lt_of_lt_of_le (Qb4 x) (Nat.pow_le_pow_left (by decide) _))
theorem Xnt {l:List Nat} {z:Nat} (h:∀ x∈l,x<D10) (hv:lv D10 l=z) (ht:∀ k,l.length=k+1→D10 ^ k≤z):l=dg D10 z:=by
 have h1:=Qrd Qfc h
 rw [hv] at h1
 have h2:=Qcy l
 have h3:Xe z=Yx l:=by rw [Xe,h1,List.length_take];omega
 by_cases e:Yx l=l.length
 ·rw [h1,e,List.take_length]
 ·obtain ⟨k,hk⟩:∃ k,l.length=k+1:=⟨l.length - 1,by omega⟩
  have h4:=ht k hk
  have h5:=Qb4 z
  have h6:D10 ^ Xe z≤D10 ^ k:=Nat.pow_le_pow_right (by decide) (by omega)
  omega
theorem Xoj {l:List Nat} {c V d:Nat} (h:lv D10 l+D10 ^ l.length*c=V):lv D10 (l++[d%D10])+D10 ^ (l.length+1)*(d/D10)+D10 ^ l.length*c=V+D10 ^ l.length*d:=by
 rw [Qak,Nat.pow_succ,← h]
 have hm:=Nat.mod_add_div d D10
 have:D10 ^ l.length*d=D10 ^ l.length*(d%D10)+D10 ^ l.length*D10*(d/D10):=by
  rw [Nat.mul_assoc,← Nat.mul_add,hm]
 omega
theorem Ql0 {l:List Nat} {d:Nat} (h:∀ x∈l,x<D10) (hd:d<D10):∀ x∈l++[d],x<D10:=fun x hx=>by
 rcases List.mem_append.1 hx with hx | hx
 ·exact h x hx
 ·simp at hx;rw [hx];exact hd
theorem Qhk {x i:Nat} (h:Xe x≤i):x%D10 ^ i=x:=Nat.mod_eq_of_lt (Qbo h)
theorem mod_le (x i:Nat):x%D10 ^ i≤x:=Nat.mod_le _ _
structure Rq where
 neg:Bool
 num:Nat
 den:Nat
structure Raw where
 neg:Bool
 num:List Nat
 den:List Nat
def Kh (s:Bool) (p q:Nat):Rq:=if p=0∨q=0 then ⟨false,0,1⟩ else ⟨s,p/Nat.gcd p q,q/Nat.gcd p q⟩
def Xd (x:Raw):Rq:=Kh x.neg (lv 4294967296 x.num) (lv 4294967296 x.den)
def Qt (r:Rq):Raw:=⟨r.neg,dg 4294967296 r.num,dg 4294967296 r.den⟩
def isQ (r:Rq) (x:Raw):Bool:=decide (x.neg=r.neg)&&(decide (x.num=dg 4294967296 r.num)&&decide (x.den=dg 4294967296 r.den))
def okR (x:Raw):Bool:=isQ (Xd x) x
theorem Qif {r:Rq} {x:Raw}:isQ r x=true↔x=Qt r:=by
 obtain ⟨a,b,c⟩:=x;simp [isQ,Qt]
structure RawOK (x:Raw):Prop where
 n1:x.num.length≤10000000000
 d1:x.den.length≤10000000000
 nL:Lim x.num
 dL:Lim x.den
structure RqOK (r:Rq):Prop where
 n1:Xe r.num≤30000000000
 d1:Xe r.den≤30000000000
theorem Qk0:Xe 1=1:=by rw [Xjx (by decide)];simp [Xe,Yw,D10]
theorem Qeg (s:Bool) (p q:Nat):(Kh s p q).num≤p∧((Kh s p q).den≤q∨(Kh s p q).den=1):=by
 unfold Kh;split
 ·exact ⟨Nat.zero_le _,.inr rfl⟩
 ·exact ⟨Nat.div_le_self _ _,.inl (Nat.div_le_self _ _)⟩
theorem Qu8 {s:Bool} {p q:Nat} (hp:Xe p≤30000000000) (hq:Xe q≤30000000000):RqOK (Kh s p q):=by
 obtain ⟨h1,h2⟩:=Qeg s p q;refine ⟨Nat.le_trans (Kr h1) hp, ?_⟩;rcases h2 with h2 | h2
 ·exact Nat.le_trans (Kr h2) hq
 ·rw [h2,Qk0];decide
theorem RawOK.p {x:Raw} (h:RawOK x):Xe (lv 4294967296 x.num)≤30000000000:=by
 have h1:=Qo4 (Qkm h.nL)
 have h2:=h.n1
 omega
theorem RawOK.q {x:Raw} (h:RawOK x):Xe (lv 4294967296 x.den)≤30000000000:=by
 have h1:=Qo4 (Qkm h.dL)
 have h2:=h.d1
 omega
theorem RawOK.val {x:Raw} (h:RawOK x):RqOK (Xd x):=Qu8 h.p h.q
theorem Qos {p q:Nat} (h:¬ (p=0∨q=0)):0<Nat.gcd p q:=Nat.gcd_pos_of_pos_left _ (by omega)
theorem Qat {s:Bool} {p q:Nat} (h:p=0∨q=0):Kh s p q=⟨false,0,1⟩:=if_pos h
theorem Qia {s:Bool} {p q:Nat} (h:¬ (p=0∨q=0)):Kh s p q=⟨s,p/Nat.gcd p q,q/Nat.gcd p q⟩:=if_neg h
def Yr (n:Int):Rq:=⟨decide (n<0),n.natAbs,1⟩
theorem Qoh {b:Nat} (hb:1<b):∀ {l m:List Nat},(∀ x∈l,x<b)→(∀ x∈m,x<b)→l.length=m.length→lv b l=lv b m→l=m
 | [],[],_,_,_,_=>rfl
 | [],_::_,_,_,h,_=>nomatch h
 | _::_,[],_,_,h,_=>nomatch h
 | x::l,y::m,hl,hm,h,hv=>by
  have hx:=hl x (by simp)
  have hy:=hm y (by simp)
  simp only [lv] at hv
  have h1:=congrArg (·%b) hv
  simp only [Nat.add_mul_mod_self_left,Nat.mod_eq_of_lt hx,Nat.mod_eq_of_lt hy] at h1;subst h1
  have h2:=Nat.eq_of_mul_eq_mul_left (show 0<b by omega) (Nat.add_left_cancel hv)
  rw [Qoh hb (fun z hz=>hl z (by simp [hz])) (fun z hz=>hm z (by simp [hz])) (by simpa using h) h2]
structure Gs (B P V U v1 v2 top u2:Nat):Prop where
 hV:∃ vl,vl<P∧V=(v1*B+v2)*P+vl
 hU:∃ ul,ul<P∧U=(top*B+u2)*P+ul
 hv2:v2<B
 hu2:u2<B
 hv1:v1<B
 big:B≤2*v1
 lt:U<B*V
variable {B P V U v1 v2 top u2:Nat}
theorem Gs.P0 (h:Gs B P V U v1 v2 top u2):0<P:=by obtain ⟨vl,h1,_⟩:=h.hV;omega
theorem Gs.B0 (h:Gs B P V U v1 v2 top u2):0<B:=by have:=h.hv2;omega
theorem Gs.v10 (h:Gs B P V U v1 v2 top u2):0<v1:=by have:=h.big;have:=h.B0;omega
theorem Gs.V0 (h:Gs B P V U v1 v2 top u2):0<V:=by
 obtain ⟨vl,h1,h2⟩:=h.hV
 have:0<(v1*B+v2)*P:=Nat.mul_pos (Nat.add_pos_left (Nat.mul_pos h.v10 h.B0) _) h.P0
 omega
theorem Gs.three (h:Gs B P V U v1 v2 top u2) {g:Nat} (hg:g*V≤U):g*(v1*B+v2)≤top*B+u2:=by
 obtain ⟨vl,h1,h2⟩:=h.hV;obtain ⟨ul,h3,h4⟩:=h.hU
 have e1:g*((v1*B+v2)*P)≤g*V:=Nat.mul_le_mul_left g (by omega)
 have e2:U<(top*B+u2+1)*P:=by rw [Nat.add_mul _ 1,Nat.one_mul];omega
 have e3:g*(v1*B+v2)*P<(top*B+u2+1)*P:=by rw [Nat.mul_assoc];omega
 have:=Nat.lt_of_mul_lt_mul_right e3
 omega
theorem Gs.down (h:Gs B P V U v1 v2 top u2) {g r:Nat} (hr:g*v1+r=top) (hg:g*V≤U):g*v2≤r*B+u2:=by
 have:=h.three hg
 rw [← hr,Nat.mul_add,Nat.add_mul,← Nat.mul_assoc] at this;omega
theorem Gs.q_lt (h:Gs B P V U v1 v2 top u2):U/V<B:=(Nat.div_lt_iff_lt_mul h.V0).2 h.lt
theorem Gs.first_le (h:Gs B P V U v1 v2 top u2):U/V≤top/v1:=by
 rw [Nat.le_div_iff_mul_le h.v10]
 have hq:U/V*V≤U:=Nat.div_mul_le_self U V
 have:=h.three hq
 have e:U/V*v1*B≤U/V*(v1*B+v2):=by rw [Nat.mul_add,Nat.mul_assoc];omega
 have e2:U/V*v1*B<(top+1)*B:=by rw [Nat.add_mul,Nat.one_mul];have:=h.hu2;omega
 have:=Nat.lt_of_mul_lt_mul_right e2
 omega
theorem Gs.first_ge (h:Gs B P V U v1 v2 top u2):top/v1≤B+1:=by
 have:top/v1<B+2:=by
  rw [Nat.div_lt_iff_lt_mul h.v10];obtain ⟨vl,h1,h2⟩:=h.hV;obtain ⟨ul,h3,h4⟩:=h.hU
  have hlt:=h.lt
  have e1:(top*B+u2)*P<B*((v1*B+v2+1)*P):=by
   have:B*V<B*((v1*B+v2+1)*P):=by
    refine Nat.mul_lt_mul_of_pos_left ?_ h.B0;rw [h2,Nat.add_mul _ 1,Nat.one_mul];omega
   omega
  rw [← Nat.mul_assoc] at e1
  have e2:=Nat.lt_of_mul_lt_mul_right e1
  have e3:top*B<(B*v1+B)*B:=by
   have:B*(v1*B+v2+1)≤B*(v1*B+B):=Nat.mul_le_mul_left B (by have:=h.hv2;omega)
   have e:B*(v1*B+B)=(B*v1+B)*B:=by rw [Nat.mul_add,Nat.add_mul,Nat.mul_assoc]
   omega
  have:=Nat.lt_of_mul_lt_mul_right e3
  have hb:=h.big
  rw [Nat.add_mul];omega
 omega
theorem Gs.end1 (h:Gs B P V U v1 v2 top u2) {g r:Nat} (hr:g*v1+r=top) (hg:g<B) (hc:g*v2≤r*B+u2):g≤U/V+1:=by
 by_cases h0:g=0
 ·rw [h0];exact Nat.zero_le _
 have:g - 1≤U/V:=by
  rw [Nat.le_div_iff_mul_le h.V0];obtain ⟨vl,h1,h2⟩:=h.hV;obtain ⟨ul,h3,h4⟩:=h.hU;obtain ⟨k,rfl⟩:∃ k,g=k+1:=⟨g - 1,by omega⟩
  rw [Nat.add_sub_cancel]
  have e1:(k+1)*(v1*B+v2)≤top*B+u2:=by
   rw [← hr,Nat.mul_add,Nat.add_mul _ r,← Nat.mul_assoc];omega
  have e2:=Nat.mul_le_mul_right P e1
  have e3:k*V≤(k+1)*(v1*B+v2)*P:=by
   rw [h2,Nat.mul_add,← Nat.mul_assoc,Nat.add_mul k 1,Nat.one_mul,Nat.add_mul]
   have:k*vl≤(v1*B+v2)*P:=by
    refine Nat.mul_le_mul ?_ (by omega)
    have:=Nat.mul_le_mul_right B (show 1≤v1 from h.v10)
    omega
   omega
  omega
 omega
theorem Gs.end2 (h:Gs B P V U v1 v2 top u2) {g r:Nat} (hr:g*v1+r=top) (hg:g≤B) (hB:B≤r):g≤U/V:=by
 rw [Nat.le_div_iff_mul_le h.V0];obtain ⟨vl,h1,h2⟩:=h.hV;obtain ⟨ul,h3,h4⟩:=h.hU
 have e1:g*V≤g*(v1*B+B)*P:=by
  rw [Nat.mul_assoc];refine Nat.mul_le_mul_left g ?_
  have:(v1*B+v2+1)*P≤(v1*B+B)*P:=Nat.mul_le_mul_right P (by have:=h.hv2;omega)
  rw [Nat.add_mul _ 1,Nat.one_mul] at this;omega
 have e2:g*(v1*B+B)≤top*B+u2:=by
  rw [← hr,Nat.mul_add,← Nat.mul_assoc,Nat.add_mul]
  have:=Nat.mul_le_mul_right B hg
  have:=Nat.mul_le_mul_right B hB
  omega
 have e3:=Nat.mul_le_mul_right P e2
 omega
theorem Gs.step (h:Gs B P V U v1 v2 top u2) {g r:Nat} (hr:g*v1+r=top) (hq:U/V≤g) (hg:g≤B+1) (hc:B≤g∨r*B+u2<g*v2) :
  ∃ g',g=g'+1∧U/V≤g'∧g'≤B∧g'*v1+(r+v1)=top∧(B≤r+v1→g'≤U/V∧g'<B):=by
 have hlt:=h.q_lt
 have hne:U/V≠g:=fun e=>by
  rcases hc with hc | hc
  ·omega
  ·have:g*V≤U:=by rw [← Nat.le_div_iff_mul_le h.V0];omega
   have:=h.down hr this
   omega
 have hq':U/V<g:=Nat.lt_of_le_of_ne hq hne
 obtain ⟨k,rfl⟩:∃ k,g=k+1:=⟨g - 1,by have:=Nat.zero_le (U/V);omega⟩
 have hk:k*v1+(r+v1)=top:=by rw [Nat.add_mul,Nat.one_mul] at hr;omega
 refine ⟨k,rfl,by omega,by omega,hk,fun hB=>?_⟩
 have:=h.end2 hk (by omega) hB
 exact ⟨this,Nat.lt_of_le_of_lt this hlt⟩
end Go.Bv
end
section
namespace Go.Bv
theorem Xtx {U V g p:Nat} (hV:0<V) (hq:U/V≤g) (e:p+g*V=U):g=U/V∧p=U%V:=by
 have h1:g≤U/V:=by rw [Nat.le_div_iff_mul_le hV];omega
 have h2:g=U/V:=Nat.le_antisymm h1 hq
 have h3:=Nat.div_add_mod U V
 refine ⟨h2, ?_⟩;rw [h2,Nat.mul_comm] at e;omega
theorem Xtw {U V g p p' M c:Nat} (hV:0<V) (hVM:V≤M) (hq:U/V≤g) (hg:g≤U/V+1) (e:p+g*V=U+M) (hp:p<M) (e2:p'+M*c=p+V) (hp2:p'<M):g=U/V+1∧p'=U%V:=by
 have h3:=Nat.div_add_mod U V
 have hm:=Nat.mod_lt U hV
 have hne:g≠U/V:=fun h=>by
  rw [h,Nat.mul_comm] at e;omega
 have hg':g=U/V+1:=by
  rcases Nat.lt_or_ge (U/V) g with h | h
  ·exact Nat.le_antisymm hg h
  ·exact (hne (Nat.le_antisymm h hq)).elim
 refine ⟨hg', ?_⟩;rw [hg',Nat.add_mul,Nat.one_mul,Nat.mul_comm] at e
 have hc:c=1:=by
  rcases Nat.lt_trichotomy c 1 with h | h | h
  ·have:c=0:=by omega
   subst this;rw [Nat.mul_zero] at e2;omega
  ·exact h
  ·have:=Nat.mul_le_mul_left M (show 2≤c by omega)
   omega
 subst hc;rw [Nat.mul_one] at e2;omega
theorem Xty {B R w V n:Nat} (hB:0<B) (hw:w<B) (hR:R<V):w+B*R<B*V:=by
 have:=Nat.mul_le_mul_left B (show R+1≤V from hR)
 rw [Nat.mul_add,Nat.mul_one] at this;omega
theorem Xnq {b:Nat} (hb:0<b) {W:List Nat} {j n:Nat} (h:lv b (W.drop j)<b ^ n) (hl:j+n≤W.length):lv b (W.drop j)=lv b ((W.drop j).take n)∧lv b (W.drop (j+n))=0:=by
 have hs:=Qav b (W.drop j) n (by rw [List.length_drop];omega)
 rw [List.drop_drop] at hs
 have hz:lv b (W.drop (j+n))=0:=by
  refine Nat.eq_zero_of_not_pos fun hp=>?_
  have:=Nat.mul_le_mul_left (b ^ n) (show 1≤lv b (W.drop (j+n)) from hp)
  omega
 refine ⟨?_,hz⟩;rw [hz,Nat.mul_zero,Nat.add_zero] at hs;exact hs
theorem Qvh {b:Nat} {l:List Nat} {i:Nat} (h:i<l.length):lv b (l.drop i)=l.getD i 0+b*lv b (l.drop (i+1)):=by
 have e:l.drop i=l.getD i 0::l.drop (i+1):=by
  rw [List.drop_eq_getElem_cons h];simp [List.getD,h]
 rw [e];rfl
theorem Xtz {b:Nat} (hb:0<b) {W:List Nat} {j n V:Nat} (hL:∀ x∈W,x<b) (hV:V≤b ^ n) (hj:j+(n+1)≤W.length) (hlt:lv b (W.drop (j+1))<V) :
  lv b (W.drop j)<b*V∧lv b (W.drop j)=lv b ((W.drop j).take (n+1))∧lv b (W.drop (j+(n+1)))=0:=by
 have h1:lv b (W.drop j)<b*V:=by
  rw [Qvh (by omega)]
  exact Xty (n:=n) hb (by
   have hx:W.getD j 0∈W:=by simp [List.getD,show j<W.length by omega]
   exact hL _ hx) hlt
 have h2:lv b (W.drop j)<b ^ (n+1):=by
  rw [Nat.pow_succ,Nat.mul_comm];exact Nat.lt_of_lt_of_le h1 (Nat.mul_le_mul_left b hV)
 exact ⟨h1,Xnq hb h2 hj⟩
theorem Xnp {b:Nat} (hb:0<b) {W W2 Q:List Nat} {j n V A:Nat} (hL:∀ x∈W,x<b) (hV:V≤b ^ n) (hV0:0<V) (hj:j+(n+1)≤W.length) (hlt:lv b (W.drop (j+1))<V) (hlen:W2.length=W.length) (hlo:W2.take j=W.take j) (hhi:W2.drop (j+(n+1))=W.drop (j+(n+1)))
  (hp:lv b ((W2.drop j).take (n+1))=lv b (W.drop j)%V) (hQ:j<Q.length) (hinv:lv b (Q.drop (j+1))*(b ^ (j+1)*V)+lv b W=A) :
  lv b ((Q.set j (lv b (W.drop j)/V)).drop j)*(b ^ j*V)+lv b W2=A∧lv b (W2.drop j)<V:=by
 obtain ⟨h1,h2,h3⟩:=Xtz hb hL hV hj hlt
 have e1:lv b (W2.drop j)=lv b (W.drop j)%V:=by
  rw [Qav b (W2.drop j) (n+1) (by rw [List.length_drop];omega),List.drop_drop,hhi,h3,hp,Nat.mul_zero,Nat.add_zero]
 refine ⟨?_,by rw [e1];exact Nat.mod_lt _ hV0⟩
 have e2:lv b ((Q.set j (lv b (W.drop j)/V)).drop j)=lv b (W.drop j)/V+b*lv b (Q.drop (j+1)):=by
  rw [Qvh (by rw [List.length_set];exact hQ)]
  congr 1
  ·simp [List.getD,hQ]
  ·congr 2
   refine List.ext_getElem? fun k=>?_
   rw [List.getElem?_drop,List.getElem?_drop,List.getElem?_set_ne (by omega)]
 rw [e2,Qav b W2 j (by omega),hlo,e1,← hinv,Qav b W j (by omega)]
 have hdm:=Nat.div_add_mod (lv b (W.drop j)) V
 generalize lv b (W.drop j)/V=q at *;generalize lv b (W.drop j)%V=r at *;generalize lv b (Q.drop (j+1))=z at *;rw [← hdm,Nat.pow_succ,Nat.add_mul,Nat.mul_add]
 have a1:b*z*(b ^ j*V)=z*(b ^ j*b*V):=by ac_rfl
 have a2:q*(b ^ j*V)=b ^ j*(V*q):=by ac_rfl
 rw [a1,a2];omega
theorem Xrg {V q w a b s:Nat} (hs:V=b*s) (hs0:0<s) (hb:0<b) (h:q*V+w=a*s) (hw:w<V):q=a/b∧w/s=a%b:=by
 have hV:0<V:=by omega
 have h1:q=a*s/V:=by
  rw [← h,Nat.mul_comm,Nat.mul_add_div hV,Nat.div_eq_of_lt hw,Nat.add_zero]
 have h2:w=a*s%V:=by
  rw [← h,Nat.mul_comm,Nat.mul_add_mod,Nat.mod_eq_of_lt hw]
 rw [hs,Nat.mul_div_mul_right _ _ hs0] at h1;rw [hs,Nat.mul_mod_mul_right] at h2;exact ⟨h1,by rw [h2,Nat.mul_div_cancel _ hs0]⟩
theorem Qvg {b:Nat} (hb:0<b) {l:List Nat} (h:∀ x∈l,x<b) (m:Nat):lv b (l.drop m)=lv b l/b ^ m:=by
 by_cases hm:m≤l.length
 ·rw [Qav b l m hm,Nat.add_comm,Nat.mul_add_div (Nat.pow_pos hb),Nat.div_eq_of_lt (Qau h m hm),Nat.add_zero]
 ·rw [List.drop_eq_nil_of_le (by omega)]
  have:=Qkm h
  have h2:b ^ l.length≤b ^ m:=Nat.pow_le_pow_right hb (by omega)
  rw [Nat.div_eq_of_lt (by omega)];rfl
theorem Xh9 (b:Nat) (l:List Nat) (k:Nat):lv b (l++List.replicate k 0)=lv b l:=by
 rw [Qf5]
 have:lv b (List.replicate k 0)=0:=by
  induction k with
  | zero=>rfl
  | succ k ih=>rw [List.replicate_succ,lv,ih];simp
 rw [this];simp
theorem Xnr {x k s t:Nat} (hx:(dg 4294967296 x).length=k+2) (ht:t=x/4294967296 ^ (k+1)) (hs:s=32 - Ks t) :
  x*2 ^ s<4294967296 ^ (k+2)∧4294967296 ^ (k+1)*2147483648≤x*2 ^ s∧s≤31:=by
 have h1:x<4294967296 ^ (k+2):=hx ▸ Zt (by decide) x
 have h2:4294967296 ^ (k+1)≤x:=Nat.le_of_not_lt fun h=>by
  have:=Xn (b:=4294967296) (by decide) x _ h
  omega
 have hP:0<4294967296 ^ (k+1):=Nat.pow_pos (by decide)
 have t1:0<t:=by rw [ht];exact Nat.div_pos h2 hP
 have t2:t<2 ^ 32:=by rw [ht,Nat.div_lt_iff_lt_mul hP,show (2:Nat) ^ 32=4294967296 from rfl,Nat.mul_comm,← Nat.pow_succ];exact h1
 have b1:=Qdu t2
 have b2:=Qwm t1
 have b3:=Qk2 t
 have b4:0<Ks t:=Nat.pos_of_ne_zero fun h=>by rw [h] at b3;simp at b3;omega
 have hm:=Nat.div_add_mod x (4294967296 ^ (k+1))
 have hr:=Nat.mod_lt x hP
 rw [← ht] at hm
 have hP2:4294967296 ^ (k+2)=4294967296 ^ (k+1)*4294967296:=Nat.pow_succ ..
 rw [hP2]
 clear hP2 h1
 generalize 4294967296 ^ (k+1)=P at *;generalize x%P=r at *
 have e1:2 ^ Ks t*2 ^ s=4294967296:=by rw [← Nat.pow_add,hs,show Ks t+(32 - Ks t)=32 by omega]
 have e2:2 ^ (Ks t - 1)*2 ^ s=2147483648:=by rw [← Nat.pow_add,hs,show Ks t - 1+(32 - Ks t)=31 by omega]
 refine ⟨?_, ?_,by omega⟩
 ·have c1:x<P*2 ^ Ks t:=by
   have:=Nat.mul_le_mul_left P (show t+1≤2 ^ Ks t from b3)
   rw [Nat.mul_add,Nat.mul_one] at this;omega
  have c2:=Nat.mul_lt_mul_of_pos_right c1 (Nat.two_pow_pos s)
  rw [Nat.mul_assoc,e1] at c2;exact c2
 ·have c1:P*2 ^ (Ks t - 1)≤x:=by
   have:=Nat.mul_le_mul_left P b2
   omega
  have c2:=Nat.mul_le_mul_right (2 ^ s) c1
  rw [Nat.mul_assoc,e2] at c2;exact c2
theorem Xjw {B a la n s V b:Nat} (hB:0<B) (hla:a<B ^ la) (hn:0<n) (hnl:n≤la) (hb:B ^ (n - 1)≤b) (hV:V=b*2 ^ s):a*2 ^ s/B ^ (la - n+1)<V:=by
 rw [Nat.div_lt_iff_lt_mul (Nat.pow_pos hB)]
 have e:B ^ la=B ^ (n - 1)*B ^ (la - n+1):=by rw [← Nat.pow_add];congr 1;omega
 have c1:a*2 ^ s<B ^ la*2 ^ s:=Nat.mul_lt_mul_of_pos_right hla (Nat.two_pow_pos s)
 have c2:B ^ (n - 1)*2 ^ s≤V:=by rw [hV];exact Nat.mul_le_mul_right _ hb
 have c3:=Nat.mul_le_mul_right (B ^ (la - n+1)) c2
 rw [e] at c1
 have:B ^ (n - 1)*B ^ (la - n+1)*2 ^ s=B ^ (n - 1)*2 ^ s*B ^ (la - n+1):=by ac_rfl
 omega
def Qe8 {α:Type} (g:α→V × V × V) (xs:List α):List V:=xs.flatMap fun x=>[(g x).1,(g x).2.1,(g x).2.2]
theorem Qkw {α:Type} (g:α→V × V × V) (xs:List α):(Qe8 g xs).length=xs.length*3:=by
 induction xs with
 | nil=>rfl
 | cons x xs ih=>simp only [Qe8,List.flatMap_cons,List.length_append,List.length_cons,List.length_nil] at ih ⊢;rw [ih];omega
theorem Qgr {α:Type} (g:α→V × V × V) (x:α) (xs:List α):Qe8 g (x::xs)=(g x).1::(g x).2.1::(g x).2.2::Qe8 g xs:=rfl
theorem Qgs {α:Type} (g:α→V × V × V) (xs ys:List α):Qe8 g (xs++ys)=Qe8 g xs++Qe8 g ys:=by simp [Qe8]
theorem Qcp {α:Type} (g:α→V × V × V) (d:α):∀ (xs:List α) (i:Nat),i<xs.length→nth (Qe8 g xs) (i*3)=(g (xs.getD i d)).1∧nth (Qe8 g xs) (i*3+1)=(g (xs.getD i d)).2.1∧nth (Qe8 g xs) (i*3+2)=(g (xs.getD i d)).2.2
 | [],i,h=>by simp at h
 | x::xs,0,h=>⟨rfl,rfl,rfl⟩
 | x::xs,i+1,h=>by
  have:=Qcp g d xs i (by simpa using h)
  rw [Qgr,show (i+1)*3=i*3+3 by omega]
  simpa [nth,List.getD] using this
theorem Qo8 {α:Type} {g:α→V × V × V} {xs:List α} (h:∀ x,clo (g x).1=true∧clo (g x).2.1=true∧clo (g x).2.2=true):Qh (Qe8 g xs)=true:=by
 induction xs with
 | nil=>rfl
 | cons x xs ih=>rw [Qgr];simp [Qh,h x,ih]
structure Tn where
 shape:List Int
 el:List Raw
structure Tq where
 shape:List Int
 el:List Rq
structure TnOK (t:Tn):Prop where
 s:t.shape.length≤1000000000
 e:t.el.length≤1000000000
 r:∀ x∈t.el,RawOK x
structure TqOK (t:Tq):Prop where
 s:t.shape.length≤1000000000
 e:t.el.length≤1000000000
 r:∀ x∈t.el,RqOK x
def r0:Raw:=⟨false,[],[]⟩
def q0:Rq:=⟨false,0,1⟩
def Xug (t:Tn):Tq:=⟨t.shape,t.el.map Xd⟩
def Qrz (t:Tq):Tn:=⟨t.shape,t.el.map Qt⟩
theorem TnOK.get {t:Tn} (h:TnOK t) {i:Nat} (hi:i<t.el.length):RawOK (t.el.getD i r0):=h.r _ (by simp [List.getD,hi])
theorem TqOK.get {t:Tq} (h:TqOK t) {i:Nat} (hi:i<t.el.length):RqOK (t.el.getD i q0):=h.r _ (by simp [List.getD,hi])
theorem Qlb {α:Type} (l:List α) (d:α) {i:Nat} (h:i<l.length):l.take (i+1)=l.take i++[l.getD i d]:=by
 rw [List.take_add_one];congr 1;simp [List.getD,h]
end Go.Bv
end
section
namespace Go.Proofs.YtipmmjebfpbkmaaGreat
open Go.Bv
theorem Qjt (l:List Nat) (hl:l.length≤17592186044416):Pu C 189 [.sl l.length (Xh .u32 l)] (.int .i64 (Yx l:Nat)):=by
 refine zK Qf Tryz.func189 w189 Tryz.ntmps189 Tryz.results189 ?_;refine zG ?_;refine Qj (fun n ts H=>∃ m,(m≤l.length)∧(Yx (l.take m)=Yx l)∧(n=m)∧(H=[])∧ts.length=19∧nth ts 0=.sl l.length (Xh .u32 l)∧nth ts 3=.int .i64 (m:Nat)) ?_ (n:=l.length) ?_
 ·skip
  rintro n ts H ⟨m,hm,ht,hn,hH,hL,hs0,hs3⟩;refine Xc [(0,.sl l.length (Xh .u32 l)),(3,.int .i64 (m:Nat))] hL (by simp only [zFm,hs0,hs3,true_and];exact zNm) ?_
  clear hL hs0 hs3 ts
  refine Qz Qf ?_;subst hH hn
  (refine zG ?_;(repeat' ((with_reducible apply zBr)<;>intro h<;>refine zG ?_))<;>try exact .intro)
  ·rename_i h0;obtain ⟨m,rfl⟩:∃ m,n=m+1:=⟨n - 1,by omega⟩
   rw [Qbt (by omega)] at ht
   simp only [Nat.add_sub_cancel] at h;rw [if_pos (by omega)] at ht
   exact ⟨m,by omega,m,by omega,ht,rfl,by congr 1;omega⟩
  ·rename_i h0
   (refine Qo (by intro g;simp only [go_sem,ren,Qk]) ?_)
   obtain ⟨m,rfl⟩:∃ m,n=m+1:=⟨n - 1,by omega⟩
   rw [Qbt (by omega)] at ht
   simp only [Nat.add_sub_cancel] at h;rw [if_neg (by omega)] at ht
   rw [← ht]
  ·skip
   (refine Qo (by intro g;simp only [go_sem,ren,Qk]) ?_)
   obtain rfl:n=0:=by omega
   rw [← ht];rfl
 ·exact ⟨l.length,Nat.le_refl _,by rw [List.take_length],rfl,rfl,rfl,rfl,rfl⟩
def Yb (l:List Nat) (i:Int):Nat:=if 0≤i then l.getD i.toNat 0 else 0
theorem Ko {l:List Nat} (h:Lim l) (i:Int):Yb l i<4294967296:=by
 unfold Yb;split
 ·exact h.get _
 ·omega
theorem Kn (l:List Nat) (i:Int) (hl:l.length≤17592186044416) (hL:Lim l):Pu C 184 [.sl l.length (Xh .u32 l),.int .i64 i] (.int .u64 (Yb l i:Nat)):=by
 refine zK Qf Tryz.func184 w184 Tryz.ntmps184 Tryz.results184 ?_
 (refine zG ?_;(repeat' ((with_reducible apply zBr)<;>intro h<;>refine zG ?_))<;>try exact .intro)
 ·skip
  (refine Qo (by intro g;simp only [go_sem,ren,Qk]) ?_)
  simp only [Yb];rw [if_neg (by omega)];rfl
 ·skip
  (refine Qo (by intro g;simp only [go_sem,ren,Qk]) ?_)
  simp only [Yb];rw [if_pos (by omega)]
  simp [List.getD,List.getElem?_eq_none (show l.length≤i.toNat by omega)]
 ·have:=hL.get i.toNat
  refine zG ?_
  (refine Qo (by intro g;simp only [go_sem,ren,Qk]) ?_)
  simp only [Yb];rw [if_pos (by omega)]
def Xoc (ro rc:Nat) (H:Qb) (v:V) (l:List Nat) (c:Nat):Prop :=
 Qc H ro=some ⟨68,1,[v]⟩∧Qc H rc=some ⟨189,1,[.int .u64 (c:Nat)]⟩∧Bv.Own 162 1 H v l.length (Xh .u32 l)
theorem Qm5 {x:Nat}:IntKind.wrap .u32 (x:Int)=((x%4294967296:Nat):Int):=by rw [Qe0];omega
theorem Qdq (x k:Nat):(x:Int).fdiv (2 ^ k)=((x/2 ^ k:Nat):Int):=by
 rw [Int.fdiv_eq_ediv_of_nonneg _ (Int.pow_nonneg (by decide)),Int.natCast_ediv,Int.natCast_pow];rfl
theorem Qur {ro rc:Nat} {H:Qb} {v:V} {l:List Nat} {c x:Nat} (h:Xoc ro rc H v l c) (hx:x<18446744073709551616) (hl:l.length<17592186044416) :
  Fc C 201 [.int .u64 (x:Nat),.ptr ro 0,.ptr rc 0] H fun u H'=>u=.tup []∧Xoc ro rc H' (.ref (H.length+1) 0 (l.length+1)) (l++[x%4294967296]) (x/4294967296)∧H'.length=H.length+2∧∀ q row,q≠ro→q≠rc→(∀ off m,v≠.ref q off m)→Qc H q=some row→Qc H' q=some row:=by
 obtain ⟨h1,h2,h3⟩:=h
 have n1:=h3.not h1 (by decide)
 have n2:=h3.not h2 (by decide)
 have hne:ro≠rc:=fun e=>by subst e;rw [h1] at h2;simp at h2
 refine zL Qf Tryz.func201 w201 Tryz.ntmps201 Tryz.results201 ?_;refine zH2 h1 h2 ?_;refine Qgg h3 (by simp [t162size]) (by simp [Yq]) (by simp [t162size]) (by simp [t162bytes]) (by simp only [t162bytes];omega) (Qf3 _ _) fun H' k1 k2 k3=>?_
 have e1:=k2 ro _ n1 h1
 have e2:=k2 rc _ n2 h2
 have e3:∀ z,Qc (H'.set ro z) rc=some ⟨189,1,[.int .u64 (c:Nat)]⟩:=fun z=>by rw [Qe z hne];exact e2
 refine zH2 e1 e3 ?_
 have e4:((x:Int).fdiv (2 ^ min 32 64))=((x/4294967296:Nat):Int):=by rw [Qdq];rfl
 have l2:ro<H'.length:=Xg e1
 have l3:rc<H'.length:=Xg e2
 have far:∀ q row z y,q≠ro→q≠rc→Qc H' q=some row→Qc ((H'.set ro z).set rc y) q=some row:=fun q row z y h1 h2 h3=>by
  rw [Qe _ (Ne.symm h2),Qe _ (Ne.symm h1)];exact h3
 refine ⟨⟨?_, ?_, ?_⟩,k3,fun q row q1 q2 q3 q4=>far q row _ _ q1 q2 (k2 q row q3 q4)⟩
 ·rw [Qe _ (Ne.symm hne),Qg e1]
 ·rw [Qg (row:=⟨189,1,[.int .u64 (c:Nat)]⟩) (e3 _),e4]
 ·rcases k1 with ⟨k,_⟩ | ⟨r,k4,k5,k6⟩
  ·cases k
  ·injection k4 with k4
   subst k4;refine .inr ⟨_,by rw [List.length_append];rfl, ?_,by simp [Zh]⟩
   rw [Qmi];refine far _ _ _ _ ?_ ?_ ?_
   ·intro e;rw [e,e1] at k5;simp at k5
   ·intro e;rw [e,e2] at k5;simp at k5
   ·rw [k5];simp only [t162size,Xh,List.map_cons,List.map_nil,Qm5]
def wr (st:Option Nat) (H:Qb) (row:Row):Qb:=match st with
 | none=>H
 | some q=>H.set q (some row)
def er (st:Option Nat) (H:Qb):Qb:=match st with
 | none=>H
 | some q=>H.set q none
theorem Xre {st:Option Nat} {H:Qb} {q:Nat} (h:st≠some q):Qc (er st H) q=Qc H q:=by
 cases st with
 | none=>rfl
 | some s=>exact Qe _ fun e=>h (by rw [e])
theorem Qru {st:Option Nat} {H:Qb} {q:Nat} (row:Row) (h:st≠some q):Qc (wr st H row) q=Qc H q:=by
 cases st with
 | none=>rfl
 | some s=>exact Qe _ fun e=>h (by rw [e])
theorem Xo7 (st:Option Nat) (H:Qb) (row:Row):(wr st H row).length=H.length:=by cases st<;>simp [wr]
theorem Xle {st:Option Nat} {H:Qb} {q:Nat} {row row':Row} (h:st=some q) (hr:Qc H q=some row):Qc (wr st H row') q=some row':=by
 subst h;exact Qg hr
theorem Xbc (st:Option Nat) (H:Qb) (row:Row):Same (er st H) (wr st H row):=by
 cases st with
 | none=>exact .refl _
 | some s =>
  intro r x hr;by_cases e:s=r
  ·subst e
   have:Qc (H.set s none) s=none:=by simp [Qc,List.getElem?_set]
   simp only [er,this] at hr;cases hr
  ·simp only [er,wr] at hr ⊢;rw [Qe _ e] at hr ⊢;exact hr
theorem Xtv (st:Option Nat) (H:Qb):Same (er st H) H:=by
 cases st with
 | none=>exact .refl _
 | some s =>
  intro r x hr;by_cases e:s=r
  ·subst e
   have:Qc (H.set s none) s=none:=by simp [Qc,List.getElem?_set]
   simp only [er,this] at hr;cases hr
  ·simp only [er] at hr;rw [Qe _ e] at hr;exact hr
def AtC (f:Nat) (caps:List V) (st:Option Nat) (B:Qb) (rs:Nat→Row) (n:Nat) (xs:Nat→Nat):Prop :=
 ∀ i,i<n→∀ H:Qb,(∀ q row,st≠some q→Qc B q=some row→Qc H q=some row)→(∀ q,st=some q→Qc H q=some (rs i)) →
  Fc C f (.int .i64 (i:Nat)::caps) H fun v H'=>v=.int .u64 (xs i:Nat)∧H'=wr st H (rs (i+1))
def XS (xs:Nat→Nat) (n:Nat):List Nat:=(List.range n).map xs
theorem Xku (xs:Nat→Nat) (n:Nat):(XS xs n).length=n:=by simp [XS]
theorem Xbr (xs:Nat→Nat) (n:Nat):XS xs (n+1)=XS xs n++[xs n]:=by simp [XS,List.range_succ]
theorem Qdk (b:Nat) (xs:Nat→Nat) (n:Nat):lv b (XS xs (n+1))=lv b (XS xs n)+b ^ n*xs n:=by rw [Xbr,Qak,Xku]
theorem Quq {b V x c:Nat} {l:List Nat} (h:lv b l+b ^ l.length*c=V) (e:x%b+b*(x/b)=x):lv b (l++[x%b])+b ^ (l++[x%b]).length*(x/b)+b ^ l.length*c=V+b ^ l.length*x:=by
 rw [Qak,List.length_append,List.length_cons,List.length_nil,Nat.zero_add,Nat.pow_succ,← h]
 have:b ^ l.length*x=b ^ l.length*(x%b)+b ^ l.length*b*(x/b):=by
  rw [Nat.mul_assoc,← Nat.mul_add,e]
 omega
structure Gat (st:Option Nat) (B:Qb) (rs:Nat→Row) (i:Nat) (H:Qb) (v:V) (l:List Nat) (c:Nat):Prop where
 put:Xoc B.length (B.length+1) H v l c
 far:v=.nil∨∃ r m,v=.ref r 0 m∧B.length+2≤r
 base:∀ q row,st≠some q→Qc B q=some row→Qc H q=some row
 state:∀ q,st=some q→Qc H q=some (rs i)
 len:B.length+2≤H.length
 lim:Lim l
theorem Gat.next {st:Option Nat} {B:Qb} {rs:Nat→Row} {i:Nat} {H:Qb} {v:V} {l:List Nat} {c x:Nat} (h:Gat st B rs i H v l c) (hst:∀ q,st=some q→q<B.length) {H':Qb}
  (h1:Xoc B.length (B.length+1) H' (.ref (H.length+1) 0 (l.length+1)) (l++[x%4294967296]) (x/4294967296)) (h2:H'.length=H.length+2) (h3:∀ q row,q≠B.length→q≠B.length+1→(∀ off m,v≠.ref q off m)→Qc H q=some row→Qc H' q=some row) :
  Gat st B rs i H' (.ref (H.length+1) 0 (l.length+1)) (l++[x%4294967296]) (x/4294967296):=by
 have hf:∀ q,q<B.length→∀ off m,v≠.ref q off m:=fun q hq off m e=>by
  rcases h.far with h | ⟨r,k,h,hr⟩
  ·rw [h] at e;cases e
  ·rw [h] at e;injection e with e;omega
 have hl:=h.len
 refine ⟨h1,.inr ⟨_,_,rfl,by omega⟩,fun q row hq hr=>?_,fun q hq=>?_,by omega,fun y hy=>?_⟩
 ·have hlt:=Xg hr
  exact h3 q row (by omega) (by omega) (hf q hlt) (h.base q row hq hr)
 ·have hlt:=hst q hq
  exact h3 q _ (by omega) (by omega) (hf q hlt) (h.state q hq)
 ·rcases List.mem_append.1 hy with hy | hy
  ·exact h.lim y hy
  ·simp at hy;rw [hy];exact Nat.mod_lt _ (by decide)
theorem Gat.wr {st:Option Nat} {B:Qb} {rs:Nat→Row} {i:Nat} {H:Qb} {v:V} {l:List Nat} {c:Nat} (h:Gat st B rs i H v l c) (hst:∀ q,st=some q→q<B.length):Gat st B rs (i+1) (Proofs.YtipmmjebfpbkmaaGreat.wr st H (rs (i+1))) v l c:=by
 have hne:∀ q,B.length≤q→st≠some q:=fun q hq e=>by have:=hst q e;omega
 refine ⟨⟨by rw [Qru _ (hne _ (by omega))];exact h.put.1,by rw [Qru _ (hne _ (by omega))];exact h.put.2.1, ?_⟩,h.far,fun q row hq hr=>by rw [Qru _ hq];exact h.base q row hq hr,fun q hq=>Xle hq (h.state q hq),by rw [Xo7];exact h.len,h.lim⟩
 rcases h.put.2.2 with k | ⟨r,k1,k2,k3⟩
 ·exact .inl k
 ·refine .inr ⟨r,k1, ?_,k3⟩;rcases h.far with k4 | ⟨r',m,k4,k5⟩
  ·rw [k4] at k1;cases k1
  ·rw [k4] at k1;injection k1 with k1;rw [Qru _ (hne _ (by omega))];exact k2
def Xt6 (st:Option Nat) (B:Qb) (row:Row) (v:V) (H:Qb) (x:Nat):Prop :=
 IsZ 162 1 H v (dg 4294967296 x).length (Xh .u32 (dg 4294967296 x))∧(∀ q row,st≠some q→Qc B q=some row→Qc H q=some row)∧(∀ q,st=some q→Qc H q=some row)
theorem Qs1 {st:Option Nat} {B:Qb} {rs:Nat→Row} {i:Nat} {H:Qb} {v w:V} {l:List Nat} {x:Nat} (hst:∀ q,st=some q→q<B.length) (h:Gat st B rs i H v l 0) (hv:lv 4294967296 l=x) (hw:(w=.nil∧Yx l=0)∨(w=.sl 0 []∧Yx l=0)∨∃ r,v=.ref r 0 l.length∧w=.ref r 0 (Yx l)) :
  ∃ H2,Shorter H H2∧Xt6 st B (rs i) w H2 x:=by
 have hd:dg 4294967296 x=l.take (Yx l):=by rw [← hv];exact Qrd (by decide) h.lim
 rcases hw with ⟨rfl,h0⟩ | ⟨rfl,h0⟩ | ⟨r,hr,rfl⟩
 ·refine ⟨H,.refl H,.inr ?_,h.base,h.state⟩;rw [hd,h0];exact .inl ⟨rfl,rfl,rfl⟩
 ·refine ⟨H,.refl H,.inl ?_,h.base,h.state⟩;rw [hd,h0];exact ⟨rfl,rfl,rfl⟩
 ·have hO:=h.put.2.2
  rcases hO with ⟨k,_⟩ | ⟨q,k1,k2,k3⟩
  ·rw [k] at hr;cases hr
  ·rw [k1] at hr;injection hr with hr
   subst hr
   have hfar:B.length+2≤q:=by
    rcases h.far with k4 | ⟨r',m,k4,k5⟩
    ·rw [k4] at k1;cases k1
    ·rw [k4] at k1;injection k1 with k1;omega
   refine ⟨_,Shorter.set k2 (Yx l),.inr (.inr ⟨q, ?_, ?_, ?_⟩),fun p row hp hrow=>?_,fun p hp=>?_⟩
   ·rw [hd,List.length_take,Nat.min_eq_left (Qcy l)]
   ·rw [Qg k2,hd,Qlt]
   ·simp [Zh]
   ·rw [Qe _ (by have:=Xg hrow;omega)];exact h.base p row hp hrow
   ·rw [Qe _ (by have:=hst p hp;omega)];exact h.state p hp
theorem Qhp {f:Nat} {caps:List V} {st:Option Nat} {B:Qb} {rs:Nat→Row} {N:Nat} {xs:Nat→Nat} (hst:∀ q,st=some q→q<B.length) (hs0:∀ q,st=some q→Qc B q=some (rs 0)) (hN:N≤8796093022208) (hx:∀ i,i<N→xs i<9223372036854775808) (ha:AtC f caps st B rs N xs) :
  Fc C 182 [.int .i64 (N:Nat),.fn (.func f) [] caps] B fun v H=>Xt6 st B (rs N) v H (lv 4294967296 (XS xs N)):=by
 refine Fc.trim ?_;refine zL Qf Tryz.func182 w182 Tryz.ntmps182 Tryz.results182 ?_;refine zG ?_;refine Qj (fun n ts H=>∃ (i:Nat) (l:List Nat) (c:Nat) (v:V),(i≤N)∧(Gat st B rs i H v l c)∧(l.length=i)∧(lv 4294967296 l+4294967296 ^ l.length*c=lv 4294967296 (XS xs i))∧(c<4294967296)∧(n=N - i)∧ts.length=31∧nth ts 0=.int .i64 (N:Nat)∧nth ts 1=.fn (.func f) [] caps∧nth ts 5=.ptr B.length 0∧nth ts 6=.ptr (B.length+1) 0∧nth ts 7=.fn (.func 201) [] [.ptr B.length 0,.ptr (B.length+1) 0]∧nth ts 10=.int .i64 (N:Nat)∧nth ts 11=.int .i64 (i:Nat)) ?_ (n:=N) ?_
 ·skip
  rintro n ts H ⟨i,l,c,v,hi,hG,hli,hlv,hc,hn,hL,hs0,hs1,hs5,hs6,hs7,hs10,hs11⟩;refine Xc [(0,.int .i64 (N:Nat)),(1,.fn (.func f) [] caps),(5,.ptr B.length 0),(6,.ptr (B.length+1) 0),(7,.fn (.func 201) [] [.ptr B.length 0,.ptr (B.length+1) 0]),(10,.int .i64 (N:Nat)),(11,.int .i64 (i:Nat))] hL (by simp only [zFm,hs0,hs1,hs5,hs6,hs7,hs10,hs11,true_and];exact zNm) ?_
  clear hL hs0 hs1 hs5 hs6 hs7 hs10 hs11 ts
  refine Qz Qf ?_
  have hne:∀ q,B.length≤q→st≠some q:=fun q hq e=>by have:=hst q e;omega
  have hp1:=hG.put.1
  have hp2:=hG.put.2.1
  (refine zG ?_;(repeat' ((with_reducible apply zBr)<;>intro h<;>refine zG ?_))<;>try exact .intro)
  ·have hiN:i<N:=by omega
   have hxi:=hx i hiN
   refine ⟨er st H,Xtv st H, ?_⟩
   have hp3:Qc (er st H) (B.length+1)=some ⟨189,1,[.int .u64 (c:Nat)]⟩:=by rw [Xre (hne _ (by omega))];exact hp2
   refine zG ?_;refine Pc.gen (ha i hiN H hG.base hG.state) ⟨_,_,rfl,rfl⟩ ?_;rintro v1 H1 ⟨rfl,rfl⟩;refine ⟨⟨fun h=>Xbc st H _,fun h=>(Xbc st H _).stand⟩, ?_⟩
   have hG1:=hG.wr hst
   refine zH1 hp3 ?_
   have e1:((xs i:Nat):Int)+((c:Nat):Int)=((xs i+c:Nat):Int):=by omega
   rw [e1];refine (Qur hG1.put (by omega) (by omega)).mono ?_
   rintro u H2 ⟨rfl,k1,k2,k3⟩;refine zG ?_
   have hG2:=hG1.next hst k1 k2 k3
   have hst2:=Quq (x:=xs i+c) hlv (Nat.mod_add_div _ _)
   refine ⟨_,by omega,i+1,_,_,_,by omega,hG2,by simp [hli], ?_,by omega,rfl,by congr 1⟩
   rw [Qdk];simp only [List.length_append,List.length_cons,List.length_nil,Nat.zero_add,hli,Nat.mul_add] at hst2 ⊢;omega
  ·obtain rfl:i=N:=by omega
   refine Qj (fun n ts H=>∃ (l:List Nat) (c:Nat) (v:V),(Gat st B rs i H v l c)∧(l.length≤i∨c=0)∧(l.length≤i+1)∧(lv 4294967296 l+4294967296 ^ l.length*c=lv 4294967296 (XS xs i))∧(c<4294967296)∧(n=c)∧ts.length=31∧nth ts 5=.ptr B.length 0∧nth ts 6=.ptr (B.length+1) 0∧nth ts 7=.fn (.func 201) [] [.ptr B.length 0,.ptr (B.length+1) 0]) ?_ (n:=c) ?_
   ·skip
    rintro n ts H ⟨l,c,v,hG,hll,hl2,hlv,hc,hn,hL,hs5,hs6,hs7⟩;refine Xc [(5,.ptr B.length 0),(6,.ptr (B.length+1) 0),(7,.fn (.func 201) [] [.ptr B.length 0,.ptr (B.length+1) 0])] hL (by simp only [zFm,hs5,hs6,hs7,true_and];exact zNm) ?_
    clear hL hs5 hs6 hs7 ts
    refine Qz Qf ?_
    have hp1:=hG.put.1
    have hp2:=hG.put.2.1
    (refine zH2 hp1 hp2 ?_;(repeat' ((with_reducible apply zBr)<;>intro h<;>refine zH2 hp1 hp2 ?_))<;>try exact .intro)
    ·refine (Qur (x:=c) hG.put (by omega) (by omega)).mono ?_
     rintro u H2 ⟨rfl,k1,k2,k3⟩;refine zG ?_
     have hG2:=hG.next hst k1 k2 k3
     have hst2:=Quq hlv (Nat.mod_add_div c 4294967296)
     have e0:c/4294967296=0:=Nat.div_eq_of_lt hc
     refine ⟨c/4294967296,by omega,_,_,_,hG2,.inr e0,by simp;omega, ?_,by omega,rfl⟩
     omega
    ·obtain rfl:c=0:=by omega
     have hO:=hG.put.2.2
     refine Pc.pureL (Qjt l (by omega)) ⟨hO.bor' (Qm _ _),trivial⟩ (by intro g;simp only [go_sem,ren]) rfl ?_
     refine zH2 hp1 hp2 ?_
     have hlv':lv 4294967296 l=lv 4294967296 (XS xs i):=by simpa using hlv
     refine Qhb hO (by simp [t162ok]) (by simp [t162size]) (Qcy l) (fun h0 hv=>?_) (fun h0 hv=>?_) (fun r h0 hv=>?_)
     ·skip
      refine zG ?_;exact Qs1 hst hG hlv' (.inl ⟨rfl,h0⟩)
     ·skip
      refine zG ?_;exact Qs1 hst hG hlv' (.inr (.inl ⟨rfl,h0⟩))
     ·skip
      refine zG ?_;exact Qs1 hst hG hlv' (.inr (.inr ⟨r,hv,rfl⟩))
   ·exact ⟨l,c,v,hG,by omega,by omega,hlv,hc,rfl,rfl,rfl,rfl,rfl⟩
 ·refine ⟨0,[],0,.nil,by omega,⟨⟨?_, ?_,.inl ⟨rfl,rfl,rfl⟩⟩,.inl rfl, ?_, ?_, ?_, ?_⟩,rfl,rfl,by omega,by omega,rfl,rfl,rfl,rfl,rfl,rfl,rfl,rfl⟩
  ·simp [Qc]
  ·simp [Qc]
  ·exact fun q row _ hr=>Qd hr _
  ·exact fun q hq=>Qd (hs0 q hq) _
  ·simp
  ·exact fun x hx=>nomatch hx
def B32:Nat:=4294967296
def NA (l:List Nat):V:=.sl l.length (Xh .u32 l)
def Xu (x:Nat):V:=NA (dg B32 x)
attribute [go_sem] NA Xu
theorem Yg (x:Nat):Lim (dg B32 x):=Xjy (by decide) x
theorem Xr (x:Nat):lv B32 (dg B32 x)=x:=Qq6 (by decide) x
theorem Xw (l:List Nat):clo (NA l)=true:=by simp [NA,clo,Qm]
theorem Xg5 (g:Nat→Option Nat) (l:List Nat):ren g (NA l)=NA l:=by simp [NA,ren,Qaf]
def Qpn (v:V) (H:Qb) (x:Nat):Prop:=RetZ 162 1 H v (dg B32 x).length (Xh .u32 (dg B32 x))
def IsN (v:V) (H:Qb) (x:Nat):Prop:=IsZ 162 1 H v (dg B32 x).length (Xh .u32 (dg B32 x))
theorem IsN.ret {v:V} {H:Qb} {x:Nat} (h:IsN v H x):∃ sel,Qb6 sel (fun v H=>Qpn v H x) v H:=IsZ.ret h (fun g=>Qaf _ g _) fun v H h=>h
theorem Fc.byN {f:FuncId} {args args':List V} {H:Qb} {K:V→Qb→Prop} {x:Nat} (h:Fc C f args' [] fun v H=>Qpn v H x) (hb:BorL H args args') (hK:K (Xu x) H):Fc C f args H K:=Fc.byZ h hb (Qm _ _) (Zf _ _) hK
theorem Fc.isN {f:FuncId} {args args':List V} {H:Qb} {K:V→Qb→Prop} {x:Nat} (h:Fc C f args' [] fun v H=>Qpn v H x) (hb:BorL H args args') (hK:∀ v X,IsN v (H++X) x→K v (H++X)):Fc C f args H K:=Fc.isZ h hb (fun g=>Qaf _ g _) (Zf _ _) hK
theorem Qgq {f:Nat} {caps:List V} {N:Nat} {xs:Nat→Nat} (hN:N≤8796093022208) (hx:∀ i,i<N→xs i<9223372036854775808) (hc:Qh caps=true) (ha:∀ i,i<N→Pu C f (.int .i64 (i:Nat)::caps) (.int .u64 (xs i:Nat))) :
  Fc C 182 [.int .i64 (N:Nat),.fn (.func f) [] caps] [] fun v H=>Qpn v H (lv B32 (XS xs N)):=by
 refine Fc.keep ?_;refine (Qhp (st:=none) (B:=[]) (rs:=fun _=>⟨0,0,[]⟩) (xs:=xs) (fun q h=>by cases h) (fun q h=>by cases h) hN hx ?_).mono ?_
 ·intro i hi H _ _;refine (Fc.pure (ha i hi) (by simp [Qh,clo,hc]) (fun g=>rfl) ⟨rfl,rfl⟩)
 ·rintro v H ⟨h1,_⟩;exact IsN.ret h1
theorem Xks {k:Nat} (x m:Nat) (hx:x<2 ^ k) (hm:m≤k):(BitVec.ofInt k (x:Int) &&& BitVec.ofInt k ((2 ^ m - 1:Nat):Int)).toNat=x%2 ^ m:=by
 rw [BitVec.toNat_and,BitVec.ofInt_natCast,BitVec.ofInt_natCast,BitVec.toNat_ofNat,BitVec.toNat_ofNat,Nat.mod_eq_of_lt hx]
 have:2 ^ m - 1<2 ^ k:=by
  have:=Nat.pow_le_pow_right (show 0<2 by decide) hm
  have:=Nat.two_pow_pos m
  omega
 rw [Nat.mod_eq_of_lt this,Nat.and_two_pow_sub_one_eq_mod]
theorem Qsn (x:Nat) (hx:x<18446744073709551616):(BitVec.ofInt IntKind.u64.bits (x:Int) &&& BitVec.ofInt IntKind.u64.bits 4294967295).toNat=x%4294967296:=Xks (k:=64) x 32 hx (by decide)
theorem Xd1 (n i:Nat) (hn:n<18446744073709551616) (hi:i<2):Pu C 187 [.int .i64 (i:Nat),.rp [.int .u64 (n:Nat)] 0] (.int .u64 (n/4294967296 ^ i%4294967296:Nat)):=by
 refine zK Qf Tryz.func187 w187 Tryz.ntmps187 Tryz.results187 ?_;refine zG ?_
 (refine Qo (by intro g;simp only [go_sem,ren,Qk]) ?_)
 have e:((n:Int)).fdiv (2 ^ min (32*(i:Int)).toNat 64)=((n/4294967296 ^ i:Nat):Int):=by
  rw [Qdq,show min (32*(i:Int)).toNat 64=32*i by omega,Nat.pow_mul]
 rw [e];exact congrArg (fun n:Nat=>V.int .u64 (n:Int)) (Qsn _ (Nat.lt_of_le_of_lt (Nat.div_le_self _ _) hn))
theorem Qk5 (n:Nat) (hn:n<18446744073709551616):Fc C 155 [.int .u64 (n:Nat)] [] fun v H=>Qpn v H n:=by
 refine zK Qf Tryz.func155 w155 Tryz.ntmps155 Tryz.results155 ?_;refine zG ?_
 have hg:=Qgq (f:=187) (caps:=[.rp [.int .u64 (n:Nat)] 0]) (N:=2) (xs:=fun i=>n/4294967296 ^ i%4294967296) (by decide) (fun i hi=>by omega) rfl (fun i hi=>Xd1 n i hn hi)
 refine Fc.isN hg (Zp 4 rfl) fun v X hv=>?_
 refine zG ?_
 have e:lv B32 (XS (fun i=>n/4294967296 ^ i%4294967296) 2)=n:=by
  rw [Qdk,Qdk];simp [XS,lv,B32];omega
 rw [e] at hv;exact hv.ret
theorem Qz1 (a b:List Nat) (i:Nat) (ha:a.length≤17592186044416) (hb:b.length≤17592186044416) (hA:Lim a) (hB:Lim b):Pu C 183 [.int .i64 (i:Nat),.rp [NA a] 0,.rp [NA b] 0] (.int .u64 (Yb a i+Yb b i:Nat)):=by
 have h1:=Ko hA i
 have h2:=Ko hB i
 refine zK Qf Tryz.func183 w183 Tryz.ntmps183 Tryz.results183 ?_;refine zG ?_;refine Pc.pure (Kn a i ha hA) (by simp [go_sem,Qh,clo,Qa,Qn]) (by intro g;simp only [go_sem,ren,Qk]) ?_
 refine zG ?_;refine Pc.pure (Kn b i hb hB) (by simp [go_sem,Qh,clo,Qa,Qn]) (by intro g;simp only [go_sem,ren,Qk]) ?_
 refine zG ?_
 (refine Qo (by intro g;simp only [go_sem,ren,Qk]) ?_)
 rfl
theorem Qf4 {b:Nat} (a:List Nat):∀ n,a.length≤n→lv b (XS (fun i=>Yb a (i:Int)) n)=lv b a:=by
 have h:∀ n,n≤a.length→XS (fun i=>Yb a (i:Int)) n=a.take n:=by
  intro n
  induction n with
  | zero=>intro _;simp [XS]
  | succ n ih =>
   intro hn;rw [Xbr,ih (by omega),List.take_add_one]
   simp [Yb,List.getD,show n<a.length by omega]
 intro n hn;obtain ⟨k,rfl⟩:=Nat.le.dest hn
 induction k with
 | zero=>rw [Nat.add_zero,h _ (Nat.le_refl _),List.take_length]
 | succ k ih =>
  rw [← Nat.add_assoc,Qdk,ih (by omega)]
  have e:Yb a ((a.length+k:Nat):Int)=0:=by
   simp only [Yb];rw [if_pos (by omega),Int.toNat_natCast];simp [List.getD]
  rw [e];simp
theorem Xic {b:Nat} (f g:Nat→Nat):∀ n,lv b (XS (fun i=>f i+g i) n)=lv b (XS f n)+lv b (XS g n)
 | 0=>by simp [XS,lv]
 | n+1=>by rw [Qdk,Qdk,Qdk,Xic f g n,Nat.mul_add];omega
theorem Qw5 (a b:List Nat) (ha:a.length≤8796093022208) (hb:b.length≤8796093022208) (hA:Lim a) (hB:Lim b):Fc C 151 [NA a,NA b] [] fun v H=>Qpn v H (lv B32 a+lv B32 b):=by
 refine zK Qf Tryz.func151 w151 Tryz.ntmps151 Tryz.results151 ?_;refine zG ?_
 have e:(if (b.length:Int)>(a.length:Int) then (b.length:Int) else (a.length:Int))=((max a.length b.length:Nat):Int):=by split<;>omega
 have hg:=Qgq (f:=183) (caps:=[.rp [NA a] 0,.rp [NA b] 0]) (N:=max a.length b.length) (xs:=fun i=>Yb a i+Yb b i) (by omega) (fun i hi=>by have:=Ko hA i;have:=Ko hB i;omega) (by simp [Qh,clo,Xw]) (fun i hi=>Qz1 a b i (by omega) (by omega) hA hB)
 rw [e];refine Fc.isN hg (Zp 5 (by simp [go_sem,Qdj,clo,Qh,Qc])) fun v X hv=>?_
 refine zG ?_;rw [Xic,Qf4 a _ (by omega),Qf4 b _ (by omega)] at hv
 exact hv.ret
end Go.Proofs.YtipmmjebfpbkmaaGreat
end
section
namespace Go.Proofs.YtipmmjebfpbkmaaGreat
open Go.Bv
theorem Qzm (l:List Nat) (hl:l.length≤17592186044416):Fc C 188 [NA l] [] fun v H=>Ret 162 1 H v l.length (Xh .u32 l):=by
 refine zK Qf Tryz.func188 w188 Tryz.ntmps188 Tryz.results188 ?_;refine zG ?_;refine ⟨?_,fun h0=>?_⟩
 ·refine Qh0 (n:=0) (m:=l.length) (cs:=[]) (news:=Xh .u32 l) (.inr ⟨0,rfl,rfl,rfl⟩) rfl (by simp [Zh,t162size]) (Qf3 _ _) (by simp [t162size]) (by simp [t162bytes]) (by simp only [t162bytes];omega) rfl fun v' H' h1 _ _ _=>?_
  refine zG ?_;simp only [List.nil_append,Nat.zero_add] at h1;exact Own.ret h1 (fun g=>Qaf _ g _) fun v H h=>h
 ·have:l=[]:=List.length_eq_zero_iff.1 h0
  subst this;refine zG ?_;exact Own.ret (Own.nil _ _ _) (fun g=>rfl) fun v H h=>h
theorem Xod (l:List Nat) (n:Nat) (h:n≤l.length):V.sl n ((Xh .u32 l).take n)=NA (l.take n):=by
 rw [Qlt,NA,List.length_take,Nat.min_eq_left h]
theorem Own.isN {v:V} {H:Qb} {l:List Nat} {x:Nat} (h:Bv.Own 162 1 H v l.length (Xh .u32 l)) (hl:l=dg B32 x):IsN v H x:=by subst hl;exact .inr h
theorem Qir (l:List Nat) (hl:l.length≤17592186044416) (hL:Lim l):Fc C 156 [NA l] [] fun v H=>Qpn v H (lv B32 l):=by
 have ht:=Qcy l
 refine zK Qf Tryz.func156 w156 Tryz.ntmps156 Tryz.results156 ?_;refine zG ?_;refine Fc.pure (Qjt l hl) (by simp [go_sem,Qh,clo,Qa,Qn]) (by intro g;simp only [go_sem,ren,Qk]) ?_
 refine zG ?_;rw [Xod l _ ht];refine Fc.ownL (Qzm (l.take (Yx l)) (by rw [List.length_take];omega)) ⟨.self (Xw _),trivial⟩ (fun g=>Qaf _ g _) (Zf _ _) fun v X hv=>?_
 refine zG ?_;exact (Own.isN hv (Qrd (by decide) hL).symm).ret
def Xir:ByteArray:={ data:=(([0,1,2,2,3,3,3,3,4,4,4,4,4,4,4,4,5,5,5,5,5,5,5,5,5,5,5,5,5,5,5,5,6,6,6,6,6,6,6,6,6,6,6,6,6,6,6,6,6,6,6,6,6,6,6,6,6,6,6,6,6,6,6,6].append [7,7,7,7,7,7,7,7,7,7,7,7,7,7,7,7,7,7,7,7,7,7,7,7,7,7,7,7,7,7,7,7,7,7,7,7,7,7,7,7,7,7,7,7,7,7,7,7,7,7,7,7,7,7,7,7,7,7,7,7,7,7,7,7]).append ([8,8,8,8,8,8,8,8,8,8,8,8,8,8,8,8,8,8,8,8,8,8,8,8,8,8,8,8,8,8,8,8,8,8,8,8,8,8,8,8,8,8,8,8,8,8,8,8,8,8,8,8,8,8,8,8,8,8,8,8,8,8,8,8].append [8,8,8,8,8,8,8,8,8,8,8,8,8,8,8,8,8,8,8,8,8,8,8,8,8,8,8,8,8,8,8,8,8,8,8,8,8,8,8,8,8,8,8,8,8,8,8,8,8,8,8,8,8,8,8,8,8,8,8,8,8,8,8,8])).toArray }
theorem Xiq:(List.range 256).all (fun i=>decide (i<2 ^ (Xir[i]?.getD 0).toNat∧(2 ^ (Xir[i]?.getD 0).toNat≤2*i∨i=0∧(Xir[i]?.getD 0).toNat=0)))=true:=by kernel_rfl
theorem Xip (i:Nat) (h:i<256):(({ data:=(([0,1,2,2,3,3,3,3,4,4,4,4,4,4,4,4,5,5,5,5,5,5,5,5,5,5,5,5,5,5,5,5,6,6,6,6,6,6,6,6,6,6,6,6,6,6,6,6,6,6,6,6,6,6,6,6,6,6,6,6,6,6,6,6].append [7,7,7,7,7,7,7,7,7,7,7,7,7,7,7,7,7,7,7,7,7,7,7,7,7,7,7,7,7,7,7,7,7,7,7,7,7,7,7,7,7,7,7,7,7,7,7,7,7,7,7,7,7,7,7,7,7,7,7,7,7,7,7,7]).append ([8,8,8,8,8,8,8,8,8,8,8,8,8,8,8,8,8,8,8,8,8,8,8,8,8,8,8,8,8,8,8,8,8,8,8,8,8,8,8,8,8,8,8,8,8,8,8,8,8,8,8,8,8,8,8,8,8,8,8,8,8,8,8,8].append [8,8,8,8,8,8,8,8,8,8,8,8,8,8,8,8,8,8,8,8,8,8,8,8,8,8,8,8,8,8,8,8,8,8,8,8,8,8,8,8,8,8,8,8,8,8,8,8,8,8,8,8,8,8,8,8,8,8,8,8,8,8,8,8])).toArray }:ByteArray)[i]?.getD 0).toNat=Ks i:=by
 show (Xir[i]?.getD 0).toNat=Ks i
 have:=Xiq
 simp only [List.all_eq_true,List.mem_range,decide_eq_true_eq] at this;obtain ⟨h1,h2 | ⟨rfl,h2⟩⟩:=this i h
 ·generalize (Xir[i]?.getD 0).toNat=k at *;cases k with
  | zero=>simp at h1 h2;omega
  | succ k=>rw [Nat.pow_succ] at h2;exact (Xbj h1 (by omega)).symm
 ·rw [h2,Ql4]
theorem Xeh:({ data:=(([0,1,2,2,3,3,3,3,4,4,4,4,4,4,4,4,5,5,5,5,5,5,5,5,5,5,5,5,5,5,5,5,6,6,6,6,6,6,6,6,6,6,6,6,6,6,6,6,6,6,6,6,6,6,6,6,6,6,6,6,6,6,6,6].append [7,7,7,7,7,7,7,7,7,7,7,7,7,7,7,7,7,7,7,7,7,7,7,7,7,7,7,7,7,7,7,7,7,7,7,7,7,7,7,7,7,7,7,7,7,7,7,7,7,7,7,7,7,7,7,7,7,7,7,7,7,7,7,7]).append ([8,8,8,8,8,8,8,8,8,8,8,8,8,8,8,8,8,8,8,8,8,8,8,8,8,8,8,8,8,8,8,8,8,8,8,8,8,8,8,8,8,8,8,8,8,8,8,8,8,8,8,8,8,8,8,8,8,8,8,8,8,8,8,8].append [8,8,8,8,8,8,8,8,8,8,8,8,8,8,8,8,8,8,8,8,8,8,8,8,8,8,8,8,8,8,8,8,8,8,8,8,8,8,8,8,8,8,8,8,8,8,8,8,8,8,8,8,8,8,8,8,8,8,8,8,8,8,8,8])).toArray }:ByteArray).size=256:=by kernel_rfl
theorem Xth (x:Nat):(x:Int).fdiv (2 ^ min 16 32)=((x/65536:Nat):Int):=Qdq x 16
theorem Xuh (x:Nat):(x:Int).fdiv (2 ^ min 8 32)=((x/256:Nat):Int):=Qdq x 8
theorem Xo6 {n:Int} (h:0≤n∧n≤255):IntKind.wrap .u8 n=n:=by
 have e:IntKind.wrap .u8 n=n%256:=by simp [IntKind.wrap,IntKind.bits,IntKind.signed]
 rw [e];omega
theorem Qol (x:Nat) (hx:x<4294967296):Pu C 190 [.int .u32 (x:Nat)] (.int .i64 (Ks x:Nat)):=by
 have b0:x<256→Ks x≤8:=fun h=>Qdu (by omega)
 have b1:x<65536→Ks (x/256)≤8:=fun h=>Qdu (by omega)
 have b2:x<16777216→Ks (x/65536)≤8:=fun h=>Qdu (by omega)
 have b3:Ks (x/65536/256)≤8:=Qdu (by omega)
 refine zK Qf Tryz.func190 w190 Tryz.ntmps190 Tryz.results190 ?_
 (apply Zo;repeat' ((with_reducible first|apply Zk|apply zBr<;>intro h)<;>try simp -implicitDefEqProofs (maxSteps:=9^7) (disch:=first|exact zDs|fail) only [go_sem,Xth,Xuh,Xo6,Xip,Xeh]))
 ·skip
  (refine Qo (by intro g;simp only [go_sem,ren,Qk]) ?_)
  rw [Qhz (n:=x) (k:=16) (by omega),Qhz (n:=x/2 ^ 16) (k:=8) (by omega)]
  congr 1;simp only [Nat.reducePow];omega
 ·skip
  (refine Qo (by intro g;simp only [go_sem,ren,Qk]) ?_)
  rw [Qhz (n:=x) (k:=16) (by omega)]
  congr 1
 ·skip
  (refine Qo (by intro g;simp only [go_sem,ren,Qk]) ?_)
  rw [Qhz (n:=x) (k:=8) (by omega)]
  congr 1
 ·skip
  (refine Qo (by intro g;simp only [go_sem,ren,Qk]) ?_)
  congr 1;omega
theorem Xei (x:Nat) (hx:x<4294967296):Pu C 204 [.int .u32 (x:Nat)] (.int .i64 (32 - Ks x:Nat)):=by
 have hb:Ks x≤32:=Qdu (by omega)
 refine zK Qf Tryz.func204 w204 Tryz.ntmps204 Tryz.results204 ?_;refine zG ?_;refine Fc.pure (Qol x hx) (by simp [go_sem,Qh,clo,Qa,Qn]) (by intro g;simp only [go_sem,ren,Qk]) ?_
 refine zG ?_
 (refine Qo (by intro g;simp only [go_sem,ren,Qk]) ?_)
 congr 1;omega
theorem Xb5 {l:List Nat} (h:0<Yx l):l.getD (Yx l - 1) 0≠0:=by
 have h1:=Qcy l
 intro h0
 have h2:Yx (l.take (Yx l - 1+1))=Yx (l.take (Yx l - 1)):=by rw [Qbt (by omega),if_pos h0]
 have h3:∀ n,n≤l.length→Yx l≤n→Yx (l.take n)=Yx l:=by
  intro n
  induction hn:l.length - n generalizing n with
  | zero=>intro h4 _;rw [List.take_of_length_le (by omega)]
  | succ k ih =>
   intro h4 h5
   have:=ih (n+1) (by omega) (by omega) (by omega)
   rw [Qbt (by omega)] at this
   split at this
   ·exact this
   ·omega
 rw [Nat.sub_add_cancel h,h3 _ h1 (Nat.le_refl _)] at h2
 have:=Qcy (l.take (Yx l - 1))
 rw [List.length_take] at this;omega
theorem Xkk {l:List Nat} (hL:Lim l) (h:0<Yx l):Ks (lv B32 l)=32*(Yx l - 1)+Ks (l.getD (Yx l - 1) 0):=by
 have hne:=Xb5 h
 have hle:=Qcy l
 have hs:=Qav B32 l (Yx l) hle
 have hz:lv B32 (l.drop (Yx l))=0:=by
  have e1:dg B32 (lv B32 l)=l.take (Yx l):=Qrd (by decide) hL
  have e2:=Qq6 (b:=B32) (by decide) (lv B32 l)
  rw [e1] at e2;rw [e2] at hs
  have:B32 ^ Yx l*lv B32 (l.drop (Yx l))=0:=by omega
  rcases Nat.mul_eq_zero.1 this with h | h
  ·have:0<B32 ^ Yx l:=Nat.pow_pos (by decide)
   omega
  ·exact h
 rw [hz,Nat.mul_zero,Nat.add_zero] at hs;obtain ⟨k,hk⟩:∃ k,Yx l=k+1:=⟨Yx l - 1,by omega⟩
 rw [hk] at hs hne hle ⊢;simp only [Nat.add_sub_cancel] at hne ⊢;rw [Qhl (by omega)] at hs
 have hlow:lv B32 (l.take k)<B32 ^ k:=Qau hL k (by omega)
 have e:B32 ^ k=2 ^ (32*k):=by rw [Nat.pow_mul];rfl
 rw [e] at hs hlow;rw [hs]
 have hd:(lv B32 (l.take k)+2 ^ (32*k)*l.getD k 0)/2 ^ (32*k)=l.getD k 0:=by
  rw [Nat.add_mul_div_left _ _ (Nat.two_pow_pos _),Nat.div_eq_of_lt hlow,Nat.zero_add]
 have:=Qhz (n:=lv B32 (l.take k)+2 ^ (32*k)*l.getD k 0) (k:=32*k) (by
  have:=Nat.mul_le_mul_left (2 ^ (32*k)) (Nat.pos_of_ne_zero hne)
  omega)
 rw [hd] at this;exact this
theorem Qrs (l:List Nat) (hl:l.length≤17592186044416) (hL:Lim l):Pu C 157 [NA l] (.int .i64 (Ks (lv B32 l):Nat)):=by
 have ht:=Qcy l
 refine zK Qf Tryz.func157 w157 Tryz.ntmps157 Tryz.results157 ?_;refine zG ?_;refine Fc.pure (Qjt l hl) (by simp [go_sem,Qh,clo,Qa,Qn]) (by intro g;simp only [go_sem,ren,Qk]) ?_
 (refine zG ?_;(repeat' ((with_reducible apply zBr)<;>intro h<;>refine zG ?_))<;>try exact .intro)
 ·skip
  (refine Qo (by intro g;simp only [go_sem,ren,Qk]) ?_)
  have h0:Yx l=0:=by omega
  have:lv B32 l=0:=(Qc6 (by decide)).2 (Qfq.1 h0)
  rw [this,Ql4];rfl
 ·have h0:0<Yx l:=by omega
  have hg:=hL.get (Yx l - 1)
  have hb:Ks (l.getD (Yx l - 1) 0)≤32:=Qdu (by omega)
  refine zG ?_;refine Fc.pure (Qol _ hg) (by simp [go_sem,Qh,clo,Qa,Qn]) (by intro g;simp only [go_sem,ren,Qk]) ?_
  refine zG ?_
  (refine Qo (by intro g;simp only [go_sem,ren,Qk]) ?_)
  rw [Xkk hL h0]
  congr 1;omega
theorem Qlu {b:Nat} (hb:0<b) (x:Nat):∀ n,lv b (XS (fun i=>x/b ^ i%b) n)=x%b ^ n
 | 0=>by simp [XS,lv,Nat.mod_one]
 | n+1=>by
  rw [Qdk,Qlu hb x n,Nat.pow_succ,Nat.mod_mul]
theorem Qkr {a:List Nat} (h:Lim a) (j:Nat):Yb a (j:Int)=lv B32 a/B32 ^ j%B32:=by
 simp only [Yb];rw [if_pos (by omega),Int.toNat_natCast]
 have hB:0<B32:=by decide
 have hp:0<B32 ^ j:=Nat.pow_pos hB
 by_cases hj:j<a.length
 ·have hlow:lv B32 (a.take j)<B32 ^ j:=Qau h j (by omega)
  rw [Qav B32 a j (by omega),Nat.add_mul_div_left _ _ hp,Nat.div_eq_of_lt hlow,Nat.zero_add]
  have e:a.drop j=a.getD j 0::a.drop (j+1):=by
   rw [List.drop_eq_getElem_cons hj];simp [List.getD,hj]
  rw [e,lv,Nat.add_mul_mod_self_left];exact (Nat.mod_eq_of_lt (h.get j)).symm
 ·have h1:lv B32 a<B32 ^ j:=Nat.lt_of_lt_of_le (Qkm h) (Nat.pow_le_pow_right hB (by omega))
  rw [Nat.div_eq_of_lt h1];simp [List.getD,List.getElem?_eq_none (Nat.le_of_not_lt hj)]
theorem Qvl {a:List Nat} (h:Lim a) (j:Nat):Yb a ((j+1:Nat):Int)*B32+Yb a (j:Int)=lv B32 a/B32 ^ j%(B32*B32):=by
 rw [Qkr h,Qkr h,Nat.mod_mul,Nat.pow_succ,← Nat.div_div_eq_div_mul,Nat.mul_comm,Nat.add_comm]
theorem Xch {A s j:Nat} (hs:s<32):A/B32 ^ j%(B32*B32)*2 ^ s/B32%B32=A*2 ^ s/B32 ^ (j+1)%B32:=by
 have hB:0<B32:=by decide
 have hp:0<B32 ^ j:=Nat.pow_pos hB
 have h2:0<2 ^ s:=Nat.two_pow_pos s
 obtain ⟨c,hc⟩:∃ c,B32=2 ^ s*c:=⟨2 ^ (32 - s),by rw [← Nat.pow_add,show s+(32 - s)=32 by omega];rfl⟩
 have hc0:0<c:=Nat.pos_of_ne_zero fun h=>by rw [h] at hc;simp at hc;omega
 rw [Nat.pow_succ,← Nat.div_div_eq_div_mul];generalize hY:A/B32 ^ j=Y
 have e1:A*2 ^ s/B32 ^ j/B32=Y/c:=by
  have hA:A=B32 ^ j*Y+A%B32 ^ j:=by rw [← hY];exact (Nat.div_add_mod A (B32 ^ j)).symm
  have ht:A%B32 ^ j*2 ^ s/B32 ^ j<2 ^ s:=by
   rw [Nat.div_lt_iff_lt_mul hp,Nat.mul_comm (2 ^ s)];exact Nat.mul_lt_mul_of_pos_right (Nat.mod_lt _ hp) h2
  have e:A*2 ^ s/B32 ^ j=Y*2 ^ s+A%B32 ^ j*2 ^ s/B32 ^ j:=by
   conv=>lhs;rw [hA,Nat.add_mul,Nat.mul_assoc,Nat.mul_add_div hp]
  rw [e];generalize A%B32 ^ j*2 ^ s/B32 ^ j=t at ht ⊢;rw [hc,← Nat.div_div_eq_div_mul,Nat.mul_comm Y,Nat.mul_add_div h2,Nat.div_eq_of_lt ht,Nat.add_zero]
 have e2:∀ y:Nat,y*2 ^ s/B32=y/c:=fun y=>by
  conv=>lhs;rw [hc,Nat.mul_comm y,Nat.mul_div_mul_left _ _ h2]
 rw [e1,e2]
 have e3:Y=B32*B32*(Y/(B32*B32))+Y%(B32*B32):=(Nat.div_add_mod _ _).symm
 conv=>rhs;rw [e3]
 have e4:∀ W,B32*B32*W=c*(B32*(2 ^ s*W)):=fun W=>by
  have:B32*B32=2 ^ s*c*B32:=by rw [← hc]
  rw [this];ac_rfl
 rw [e4,Nat.mul_add_div hc0,Nat.mul_comm B32,Nat.mul_comm _ B32,Nat.mul_add_mod]
theorem Xcg {A s j:Nat} (hs:s<32):A/B32 ^ j%(B32*B32)/2 ^ s%B32=A/(B32 ^ j*2 ^ s)%B32:=by
 have h2:0<2 ^ s:=Nat.two_pow_pos s
 obtain ⟨c,hc⟩:∃ c,B32=2 ^ s*c:=⟨2 ^ (32 - s),by rw [← Nat.pow_add,show s+(32 - s)=32 by omega];rfl⟩
 rw [← Nat.div_div_eq_div_mul];generalize A/B32 ^ j=Y
 have e3:Y=B32*B32*(Y/(B32*B32))+Y%(B32*B32):=(Nat.div_add_mod _ _).symm
 conv=>rhs;rw [e3]
 have e4:∀ W,B32*B32*W=2 ^ s*(B32*(c*W)):=fun W=>by
  have:B32*B32=2 ^ s*c*B32:=by rw [← hc]
  rw [this];ac_rfl
 rw [e4,Nat.mul_add_div h2,Nat.mul_add_mod]
theorem Qix (x:Nat):(x:Int)*2 ^ (min 32 64)=((x*4294967296:Nat):Int):=by simp
theorem Qn8 (x y:Nat) (hx:x<4294967296) (hy:y<4294967296):(BitVec.ofInt IntKind.u64.bits ((x*4294967296:Nat):Int)|||BitVec.ofInt IntKind.u64.bits (y:Int)).toNat=x*4294967296+y:=by
 have e:(BitVec.ofInt 64 ((x*4294967296:Nat):Int)|||BitVec.ofInt 64 (y:Int)).toNat=x*4294967296|||y:=Xhd (k:=64) (by omega) (by omega)
 have:=Nat.shiftLeft_add_eq_or_of_lt (i:=32) (b:=y) (by omega) x
 rw [Nat.shiftLeft_eq] at this;exact e.trans this.symm
theorem Qxm (a:List Nat) (n i:Nat) (ha:a.length≤8796093022208) (hA:Lim a) (hn:n≤140737488355328) (hi:i≤8796093022208) :
  Pu C 224 [.int .i64 (i:Nat),.rp [.int .i64 (n:Nat)] 0,.rp [NA a] 0] (.int .u64 (lv B32 a/2 ^ n/B32 ^ i%B32:Nat)):=by
 have h1:=Ko hA (i+n/32:Nat)
 have h2:=Ko hA (i+n/32+1:Nat)
 refine zK Qf Tryz.func224 w224 Tryz.ntmps224 Tryz.results224 ?_;refine zG ?_
 have e1:(i:Int)+(n:Int)/32+1=((i+n/32+1:Nat):Int):=by omega
 have e2:(i:Int)+(n:Int)/32=((i+n/32:Nat):Int):=by omega
 rw [e1];refine Pc.pure (Kn a _ (by omega) hA) (by simp [go_sem,Qh,clo,Qa,Qn]) (by intro g;simp only [go_sem,ren,Qk]) ?_
 generalize hx:Yb a ((i+n/32+1:Nat):Int)=x at h2 ⊢;refine zH1 Qix ?_;rw [e2];refine Pc.pure (Kn a _ (by omega) hA) (by simp [go_sem,Qh,clo,Qa,Qn]) (by intro g;simp only [go_sem,ren,Qk]) ?_
 generalize hy:Yb a ((i+n/32:Nat):Int)=y at h1 ⊢;refine zH2 Qix Qn8 ?_
 (refine Qo (by intro g;simp only [go_sem,ren,Qk]) ?_)
 have hs:min ((n:Int)%32).toNat 64=n%32:=by omega
 have key:(BitVec.ofInt 64 (((BitVec.ofInt 64 ((x*4294967296:Nat):Int)|||BitVec.ofInt 64 (y:Int)).toNat:Int).fdiv (2 ^ min ((n:Int)%32).toNat 64)) &&& BitVec.ofInt 64 4294967295).toNat=(x*4294967296+y)/2 ^ (n%32)%4294967296:=by
  rw [show (BitVec.ofInt 64 ((x*4294967296:Nat):Int)|||BitVec.ofInt 64 (y:Int)).toNat=x*4294967296+y from Qn8 x y h2 h1,Qdq,hs];exact Qsn _ (Nat.lt_of_le_of_lt (Nat.div_le_self _ _) (by omega))
 refine (congrArg (fun k:Nat=>V.int .u64 (k:Int)) key).trans ?_
 have hd:=Qvl hA (i+n/32)
 rw [show Yb a ((i+n/32+1:Nat):Int)=x from hx,show Yb a ((i+n/32:Nat):Int)=y from hy] at hd
 have hd':x*4294967296+y=lv B32 a/B32 ^ (i+n/32)%(B32*B32):=hd
 rw [hd']
 have:=Xcg (A:=lv B32 a) (s:=n%32) (j:=i+n/32) (by omega)
 refine congrArg (fun k:Nat=>V.int .u64 (k:Int)) (this.trans ?_)
 rw [Nat.div_div_eq_div_mul,Nat.pow_add]
 have e:(2:Nat) ^ n=B32 ^ (n/32)*2 ^ (n%32):=by
  have:B32 ^ (n/32)=2 ^ (32*(n/32)):=by rw [Nat.pow_mul];rfl
  rw [this,← Nat.pow_add];congr 1;omega
 rw [e,show B32 ^ i*B32 ^ (n/32)*2 ^ (n%32)=B32 ^ (n/32)*2 ^ (n%32)*B32 ^ i by ac_rfl]
theorem Qal {a:List Nat} (h:Lim a):lv B32 a<B32 ^ a.length:=Qkm h
theorem Xa1 {H:Qb} {x:Nat} (h:x=0):IsN .nil H x:=by subst h;exact Own.isN (l:=[]) (Bv.Own.nil _ _ _) (Yw _).symm
theorem Xg8 (k:Nat):B32 ^ k=2 ^ (32*k):=by rw [Nat.pow_mul];rfl
theorem Xk1 (a:List Nat) (n:Nat) (ha:a.length≤8796093022208) (hA:Lim a) (hn:n≤140737488355328):Fc C 209 [NA a,.int .i64 (n:Nat)] [] fun v H=>Qpn v H (lv B32 a/2 ^ n):=by
 have hm:(if (0:Int)>(n:Int) then (0:Int) else (n:Int))=(n:Int):=by rw [if_neg (by omega)]
 have hlt:=Qal hA
 refine zK Qf Tryz.func209 w209 Tryz.ntmps209 Tryz.results209 ?_
 (refine zH1 hm ?_;(repeat' ((with_reducible apply zBr)<;>intro h<;>refine zH1 hm ?_))<;>try exact .intro)
 ·refine IsN.ret (Xa1 (Nat.div_eq_of_lt (Nat.lt_of_lt_of_le hlt ?_)));rw [Xg8];exact Nat.pow_le_pow_right (by decide) (by omega)
 ·have hg:=Qgq (f:=224) (caps:=[.rp [.int .i64 (n:Nat)] 0,.rp [NA a] 0]) (N:=a.length) (xs:=fun i=>lv B32 a/2 ^ n/B32 ^ i%B32) ha (fun i hi=>by have:=Nat.mod_lt (lv B32 a/2 ^ n/B32 ^ i) (show 0<B32 by decide);simp only [B32] at *;omega) (by simp [Qh,clo,Xw]) (fun i hi=>Qxm a n i ha hA hn (by omega))
  refine Fc.isN hg (Zp 5 (by simp [go_sem,Qdj,clo,Qh,Qc])) fun v X hv=>?_
  refine zG ?_;rw [Qlu (by decide),Nat.mod_eq_of_lt (Nat.lt_of_le_of_lt (Nat.div_le_self _ _) hlt)] at hv
  exact hv.ret
theorem Qxn (a:List Nat) (n i:Nat) (ha:a.length≤8796093022208) (hA:Lim a) (hn:n≤140737488355328) (hi:i≤17592186044416) :
  Pu C 221 [.int .i64 (i:Nat),.rp [.int .i64 (n:Nat)] 0,.rp [NA a] 0] (.int .u64 (lv B32 a*2 ^ n/B32 ^ i%B32:Nat)):=by
 have h1:=Ko hA ((i:Int) - (n/32:Nat))
 have h2:=Ko hA ((i:Int) - (n/32:Nat) - 1)
 have e0:(2:Nat) ^ n=B32 ^ (n/32)*2 ^ (n%32):=by
  rw [Xg8,← Nat.pow_add];congr 1;omega
 refine zK Qf Tryz.func221 w221 Tryz.ntmps221 Tryz.results221 ?_
 (refine zG ?_;(repeat' ((with_reducible apply zBr)<;>intro h<;>refine zG ?_))<;>try exact .intro)
 ·skip
  (refine Qo (by intro g;simp only [go_sem,ren,Qk]) ?_)
  have:lv B32 a*2 ^ n/B32 ^ i%B32=0:=by
   obtain ⟨k,hk⟩:∃ k,n/32=i+1+k:=⟨n/32 - i - 1,by omega⟩
   rw [e0,hk,Nat.pow_add,Nat.pow_succ,show lv B32 a*(B32 ^ i*B32*B32 ^ k*2 ^ (n%32))=B32 ^ i*(B32*(lv B32 a*B32 ^ k*2 ^ (n%32))) by ac_rfl,Nat.mul_div_cancel_left _ (Nat.pow_pos (by decide)),Nat.mul_mod_right]
  rw [this];rfl
 ·have e1:(i:Int) - (n:Int)/32=(i:Int) - (n/32:Nat):=by omega
  have e2:(i:Int) - (n:Int)/32 - 1=(i:Int) - (n/32:Nat) - 1:=by omega
  rw [e1];refine Pc.pure (Kn a _ (by omega) hA) (by simp [go_sem,Qh,clo,Qa,Qn]) (by intro g;simp only [go_sem,ren,Qk]) ?_
  generalize hx:Yb a ((i:Int) - (n/32:Nat))=x at h1 ⊢;refine zH1 Qix ?_;refine Pc.pure (Kn a _ (by omega) hA) (by simp [go_sem,Qh,clo,Qa,Qn]) (by intro g;simp only [go_sem,ren,Qk]) ?_
  generalize hy:Yb a ((i:Int) - (n/32:Nat) - 1)=y at h2 ⊢;refine zH2 Qix Qn8 ?_
  (refine Qo (by intro g;simp only [go_sem,ren,Qk]) ?_)
  have hs:min ((n:Int)%32).toNat 64=n%32:=by omega
  have e3:(IntKind.wrap .u64 (((x*4294967296+y:Nat):Int)*2 ^ (n%32)))=(((x*4294967296+y)*2 ^ (n%32)%18446744073709551616:Nat):Int):=by
   rw [Qt3];simp [Int.natCast_emod]
  have key:(BitVec.ofInt 64 ((IntKind.wrap .u64 (((BitVec.ofInt 64 ((x*4294967296:Nat):Int)|||BitVec.ofInt 64 (y:Int)).toNat:Int)*2 ^ min ((n:Int)%32).toNat 64)).fdiv (2 ^ min 32 64)) &&& BitVec.ofInt 64 4294967295).toNat=(x*4294967296+y)*2 ^ (n%32)/4294967296%4294967296:=by
   rw [show (BitVec.ofInt 64 ((x*4294967296:Nat):Int)|||BitVec.ofInt 64 (y:Int)).toNat=x*4294967296+y from Qn8 x y h1 h2,hs,e3,Qdq];refine (Qsn _ (Nat.lt_of_le_of_lt (Nat.div_le_self _ _) (Nat.mod_lt _ (by decide)))).trans ?_
   have:=Nat.mod_mul_right_div_self ((x*4294967296+y)*2 ^ (n%32)) 4294967296 4294967296
   rw [show min 32 64=32 from rfl,show (2:Nat) ^ 32=4294967296 from rfl,this,Nat.mod_mod]
  refine (congrArg (fun k:Nat=>V.int .u64 (k:Int)) key).trans ?_
  refine congrArg (fun k:Nat=>V.int .u64 (k:Int)) ?_
  have cancel:∀ j,lv B32 a*2 ^ n/B32 ^ (n/32+j)=lv B32 a*2 ^ (n%32)/B32 ^ j:=fun j=>by
   rw [e0,Nat.pow_add,show lv B32 a*(B32 ^ (n/32)*2 ^ (n%32))=B32 ^ (n/32)*(lv B32 a*2 ^ (n%32)) by ac_rfl,Nat.mul_div_mul_left _ _ (Nat.pow_pos (by decide))]
  obtain ⟨j,hj⟩:∃ j,i=n/32+j:=⟨i - n/32,by omega⟩
  rw [hj,cancel];cases j with
  | zero =>
   have hx0:x=lv B32 a%B32:=by
    have:=Qkr hA 0
    rw [Nat.pow_zero,Nat.div_one] at this;rw [← this,← hx];congr 1;omega
   have hy0:y=0:=by
    rw [← hy];unfold Yb;rw [if_neg (by omega)]
   rw [hy0,hx0,Nat.pow_zero,Nat.div_one,Nat.add_zero]
   show lv B32 a%B32*B32*2 ^ (n%32)/B32%B32=_
   rw [show lv B32 a%B32*B32*2 ^ (n%32)=B32*(lv B32 a%B32*2 ^ (n%32)) by ac_rfl,Nat.mul_div_cancel_left _ (by decide),Nat.mod_mul_mod]
  | succ j =>
   have hd:=Qvl hA j
   rw [show Yb a ((j+1:Nat):Int)=x from by rw [← hx];congr 1;omega,show Yb a ((j:Nat):Int)=y from by rw [← hy];congr 1;omega] at hd
   have hd':x*4294967296+y=lv B32 a/B32 ^ j%(B32*B32):=hd
   rw [hd'];exact Xch (by omega)
theorem Xk2 (a:List Nat) (n:Nat) (ha:a.length≤4398046511104) (hA:Lim a) (hn:n≤70368744177664):Fc C 205 [NA a,.int .i64 (n:Nat)] [] fun v H=>Qpn v H (lv B32 a*2 ^ n):=by
 have hm:(if (0:Int)>(n:Int) then (0:Int) else (n:Int))=(n:Int):=by rw [if_neg (by omega)]
 have hlt:=Qal hA
 refine zK Qf Tryz.func205 w205 Tryz.ntmps205 Tryz.results205 ?_;refine zH1 hm ?_;refine Fc.pureL (Qjt a (by omega)) ⟨.self (Xw _),trivial⟩ (fun g=>rfl) rfl ?_
 (refine zH1 hm ?_;(repeat' ((with_reducible apply zBr)<;>intro h<;>refine zH1 hm ?_))<;>try exact .intro)
 ·refine IsN.ret (Xa1 ?_)
  have:lv B32 a=0:=(Qc6 (by decide)).2 (Qfq.1 (by omega))
  rw [this,Nat.zero_mul]
 ·have hg:=Qgq (f:=221) (caps:=[.rp [.int .i64 (n:Nat)] 0,.rp [NA a] 0]) (N:=a.length+n/32+1) (xs:=fun i=>lv B32 a*2 ^ n/B32 ^ i%B32) (by omega) (fun i hi=>by have:=Nat.mod_lt (lv B32 a*2 ^ n/B32 ^ i) (show 0<B32 by decide);simp only [B32] at *;omega) (by simp [Qh,clo,Xw]) (fun i hi=>Qxn a n i (by omega) hA (by omega) (by omega))
  have e1:(a.length:Int)+(n:Int)/32+1=((a.length+n/32+1:Nat):Int):=by omega
  rw [e1];refine Fc.isN hg (Zp 5 (by simp [go_sem,Qdj,clo,Qh,Qc])) fun v X hv=>?_
  refine zG ?_
  have hV:lv B32 a*2 ^ n<B32 ^ (a.length+n/32+1):=by
   rw [Nat.add_assoc,Nat.pow_add];refine Nat.mul_lt_mul_of_lt_of_le hlt ?_ (Nat.pow_pos (by decide))
   rw [Xg8];exact Nat.pow_le_pow_right (by decide) (by omega)
  rw [Qlu (by decide),Nat.mod_eq_of_lt hV] at hv
  exact hv.ret
theorem Xs0:Tryz.f220.body.all yOK=true:=by kernel_rfl
def dn (n:Nat):V:=.fn (.func 220) [] [.rp [.int .i64 (n:Nat)] 0]
def dnQ (n:Nat) (v:V) (H:Qb):Prop:=v=.fn (.func 220) [] [.ptr 0 0]∧H=[some ⟨3,1,[.int .i64 (n:Nat)]⟩]
def mx (a b:List Nat) (i:Nat):Nat:=if i=0 then 0 else if i=1 then a.length else max a.length b.length
theorem Xh8 (x y:Nat) {z:Nat} (h:max x y=z):(if (y:Int)>(x:Int) then (y:Int) else (x:Int))=(z:Int):=by subst h;split<;>omega
theorem Xe1 (a b:List Nat) (ha:a.length≤8796093022208) (hb:b.length≤8796093022208):Fc C 202 [.sl 2 [NA a,NA b]] [] fun v H=>dnQ (max a.length b.length) v H:=by
 refine zK Qf Tryz.func202 w202 Tryz.ntmps202 Tryz.results202 ?_;refine zG ?_;refine Qj (fun n ts H=>∃ (i:Nat),(i≤2)∧(n=2 - i)∧(H=[some ⟨3,1,[.int .i64 (mx a b i:Nat)]⟩])∧ts.length=18∧nth ts 3=.ptr 0 0∧nth ts 6=.sl 2 [NA a,NA b]∧nth ts 7=.int .i64 2∧nth ts 8=.int .i64 (i:Nat)) ?_ (n:=2) ?_
 ·skip
  rintro n ts H ⟨i,hi,hn,hH,hL,hs3,hs6,hs7,hs8⟩;refine Xc [(3,.ptr 0 0),(6,.sl 2 [NA a,NA b]),(7,.int .i64 2),(8,.int .i64 (i:Nat))] hL (by simp only [zFm,hs3,hs6,hs7,hs8,true_and];exact zNm) ?_
  clear hL hs3 hs6 hs7 hs8 ts
  refine Qz Qf ?_;subst hH
  (refine zG ?_;(repeat' ((with_reducible apply zBr)<;>intro h<;>refine zG ?_))<;>try exact .intro)
  ·obtain rfl | rfl:i=0∨i=1:=by omega
   ·skip
    refine zG ?_
    have e:(if (a.length:Int)>((mx a b 0:Nat):Int) then (a.length:Int) else ((mx a b 0:Nat):Int))=((mx a b 1:Nat):Int):=Xh8 0 a.length (Nat.zero_max _)
    rw [e];exact ⟨1,by omega,1,by omega,rfl,rfl,by congr 1⟩
   ·skip
    refine zG ?_
    have e:(if (b.length:Int)>((mx a b 1:Nat):Int) then (b.length:Int) else ((mx a b 1:Nat):Int))=((mx a b 2:Nat):Int):=Xh8 a.length b.length rfl
    rw [e];exact ⟨0,by omega,2,by omega,rfl,rfl,by congr 1⟩
  ·obtain rfl:i=2:=by omega
   exact ⟨[0],by simp,by simp,rfl,rfl⟩
 ·exact ⟨0,by omega,rfl,rfl,rfl,rfl,rfl,rfl,rfl⟩
theorem Xjv (N:Nat) (hN:N≤8796093022208):Gen C 220 [.rp [.int .i64 (N:Nat)] 0] ((List.range N).map fun k=>[.int .i64 (N - 1 - k:Nat)]):=by
 refine Gen.of3 Qf Tryz.func220 w220 Xs0 rfl Tryz.ntmps220 Tryz.results220 (zLe rfl) (by simp [Qh,clo]) ?_
 intro G l J hW;refine zG ?_;refine Jl (fun n ts H=>∃ (i:Nat),(i≤N)∧(n=N - i)∧(H.length=i)∧ts.length=14∧nth ts 0=.fn (.yield l) [] []∧nth ts 3=.int .i64 ((N:Int) - 1 - i)) ?_ (n:=N) ?_
 ·skip
  rintro n ts H ⟨i,hi,hn,hH,hL,hs0,hs3⟩;refine Qdw [(0,.fn (.yield l) [] []),(3,.int .i64 ((N:Int) - 1 - i))] hL (by simp only [zFm,hs0,hs3,true_and];exact zNm) ?_
  clear hL hs0 hs3 ts
  refine hW _ _ _ _ ?_
  (refine zG ?_;(repeat' ((with_reducible apply zBr)<;>intro h<;>refine zG ?_))<;>try exact .intro)
  ·refine ⟨?_,⟨N - (i+1),by omega,i+1,by omega,rfl,by omega,by congr 1;omega⟩,.inr trivial,.inr ?_⟩
   ·have:i<N:=by omega
    rw [hH];simp [this];omega
   ·simp only [List.length_replicate,List.length_map,List.length_range];omega
  ·refine ⟨.inl trivial,.inl ?_⟩;simp only [List.length_map,List.length_range];omega
 ·exact ⟨0,by omega,by omega,rfl,rfl,rfl,by simp -implicitDefEqProofs (maxSteps:=9^7) (disch:=first | omega | (simp only [Je];omega)) only [go_sem];congr 1;omega⟩
theorem Xe2 {a b:List Nat} {args:List V} {H:Qb} {K:V→Qb→Prop} (ha:a.length≤8796093022208) (hb:b.length≤8796093022208) (hB:BorL H args [.sl 2 [NA a,NA b]]) (hK:K (dn (max a.length b.length)) H):Fc C 202 args H K :=
 Fc.bySeal (Xe1 a b ha hb) hB (by rintro v H' ⟨rfl,rfl⟩;exact ⟨rfl,fun r row hr=>by cases r with | zero=>simp at hr;subst hr;rfl | succ r=>simp at hr⟩) (by rintro v H' ⟨rfl,rfl⟩;exact ⟨0,_,_,_,rfl,rfl,rfl⟩) rfl hK
def Qdb (x y:Nat):Int:=if x<y then -1 else if y<x then 1 else 0
theorem Qw4 (a b:List Nat) (ha:a.length≤8796093022208) (hb:b.length≤8796093022208) (hA:Lim a) (hB:Lim b):Pu C 185 [NA a,NA b] (.int .i64 (Qdb (lv B32 a) (lv B32 b))):=by
 have hv:∀ n,dn n=.fn (.func 220) [] [.rp [.int .i64 (n:Nat)] 0]:=fun n=>rfl
 refine zK Qf Tryz.func185 w185 Tryz.ntmps185 Tryz.results185 ?_;refine zG ?_;refine Xe2 ha hb (Zp 5 (by simp [go_sem,Qdj,clo,Qh,Qc])) ?_
 refine zH1 hv ?_
 have hN:∀ c:List Nat,Lim c→c.length≤max a.length b.length→lv B32 c/B32 ^ max a.length b.length=0:=fun c hc h=>Nat.div_eq_of_lt (Nat.lt_of_lt_of_le (Qal hc) (Nat.pow_le_pow_right (by decide) h))
 generalize hNN:max a.length b.length=N at *
 have hNle:N≤8796093022208:=by omega
 refine Kt (g:=220) (lb:=[.rp [.int .i64 (N:Nat)] 0]) (xs:=(List.range N).map fun k=>[.int .i64 (N - 1 - k:Nat)]) (by simp -implicitDefEqProofs (maxSteps:=9^7) (disch:=first | omega | (simp only [Je];omega)) only [go_sem]) (by simp [Qh,clo]) (Xjv N hNle) (by simp) (fun k H=>lv B32 a/B32 ^ (N - k)=lv B32 b/B32 ^ (N - k)∧H=[some ⟨68,1,[NA a]⟩,some ⟨68,1,[NA b]⟩,some ⟨3,1,[.int .i64 0]⟩,some ⟨68,1,[NA a,NA b]⟩]) ⟨by rw [Nat.sub_zero,hN a hA (by omega),hN b hB (by omega)],rfl⟩ ?_ ?_
 ·rintro k us H hk ⟨hI,rfl⟩ lp
  have hkl:k<N:=by simpa using (List.getElem?_eq_some_iff.1 hk).1
  obtain rfl:[V.int .i64 ((N - 1 - k:Nat):Int)]=us:=by simpa [hkl] using hk
  (refine Qz Qf ?_;simp -implicitDefEqProofs (maxSteps:=9^7) (disch:=first | omega | (simp only [Je];omega)) only [go_sem,Qfu])
  (refine Qz Qf ?_;simp -implicitDefEqProofs (maxSteps:=9^7) (disch:=first | omega | (simp only [Je];omega)) only [go_sem])
  refine Pc.pure (Kn a _ (by omega) hA) (by simp [go_sem,Qh,clo,Qa,Qn]) (by intro g;simp only [go_sem,ren,Qk]) ?_
  refine zG ?_;refine Pc.pure (Kn b _ (by omega) hB) (by simp [go_sem,Qh,clo,Qa,Qn]) (by intro g;simp only [go_sem,ren,Qk]) ?_
  (apply Zo;repeat' ((with_reducible first|apply Zk|apply zBr<;>intro h)<;>try simp -implicitDefEqProofs (maxSteps:=9^7) (disch:=first|exact zDs|fail) only [go_sem,Jq]))
  all_goals
   obtain ⟨j,hj⟩:∃ j,N=k+1+j:=⟨N - k - 1,by omega⟩
   have hj1:N - k=j+1:=by omega
   have hj2:N - (k+1)=j:=by omega
   have hj3:N - 1 - k=j:=by omega
   simp only [hj1,hj2,hj3] at *
   have sp:∀ c:List Nat,Lim c→lv B32 c/B32 ^ j=B32*(lv B32 c/B32 ^ (j+1))+Yb c ((j:Nat):Int):=fun c hc=>by
    rw [Qkr hc,Nat.pow_succ,← Nat.div_div_eq_div_mul];exact (Nat.div_add_mod _ _).symm
   have sa:=sp a hA
   have sb:=sp b hB
   rw [hI] at sa
  ·skip
   (refine Qo (by intro g;simp only [go_sem,ren,Qk]) ?_)
   have:lv B32 a<lv B32 b:=Nat.lt_of_not_le fun hle=>by
    have:=Nat.div_le_div_right (c:=B32 ^ j) hle
    omega
   simp [Qdb,this]
  ·skip
   (refine Qo (by intro g;simp only [go_sem,ren,Qk]) ?_)
   have:lv B32 b<lv B32 a:=Nat.lt_of_not_le fun hle=>by
    have:=Nat.div_le_div_right (c:=B32 ^ j) hle
    omega
   simp [Qdb,this,Nat.not_lt.2 (Nat.le_of_lt this)]
  ·omega
 ·rintro H ⟨hI,rfl⟩;refine zG ?_
  (refine Qo (by intro g;simp only [go_sem,ren,Qk]) ?_)
  simp only [List.length_map,List.length_range,Nat.sub_self,Nat.pow_zero,Nat.div_one] at hI;rw [hI];simp [Qdb]
theorem Xk (x:Nat):clo (Xu x)=true:=Xw _
theorem IsN.gd {v:V} {H:Qb} {x:Nat} (h:IsN v H x):Gd H v (Xu x):=IsZ.gd h (Qm _ _) (Zf _ _)
theorem Val.ofN {f:FuncId} {args:List V} {x:Nat} (h:Fc C f args [] fun v H=>Qpn v H x):Val C f args (Xu x):=Val.ofZ h (Qm _ _) (Zf _ _)
theorem Qmj (k:IntKind):∀ n,Xj n [.int k 0]=Xh k (List.replicate n 0)
 | 0=>rfl
 | n+1=>by
  have:=Qmj k n
  simp only [Xj,List.replicate_succ,Xh,List.map_cons] at this ⊢;simp [this]
theorem Qe6 {ty:TypeId→Ty} {t e n:Nat} {H:Qb} {K:V→Qb→Prop} {k:IntKind} (hs:(ty t).sl=some e) (hok:(ty e).ok=true) (hz:Ja (ty e)=[.int k 0]) (h1:(ty e).size=1) (hb:(ty e).bytes≤8) (hn:n≤17592186044416)
  (h:K (.ref H.length 0 n) (H++[some ⟨e,1,Xh k (List.replicate n 0)⟩])):Qci ty t (.int .i64 n) (.int .i64 n) H K:=by
 simp only [Qci,hs];refine ⟨hok,trivial,by omega,by omega, ?_, ?_⟩
 ·have:=Nat.mul_le_mul hb hn
  rw [Int.toNat_natCast];omega
 ·rw [Int.toNat_natCast,hz,h1,Qmj];exact h
theorem Qac (k:IntKind) (xs:List Nat) (i v:Nat):upd (Xh k xs) i (.int k (v:Nat))=Xh k (xs.set i v):=by
 induction xs generalizing i with
 | nil=>rfl
 | cons a l ih =>
  cases i with
  | zero=>rfl
  | succ i=>simp only [Xh,List.map_cons,upd,List.set_cons_succ] at ih ⊢;rw [ih]
theorem Xdh (x y:Nat) (KP:V→Prop) (hx:x<4294967296) (hy:y<4294967296):Ke .or .u64 ((x*4294967296:Nat):Int) .u64 (y:Int) KP=KP (.int .u64 ((x*4294967296+y:Nat):Int)):=by
 have h:(.or:BinOp)=.or:=rfl
 simp only [Ke,true_and]
 have e:IntKind.wrap .u64 (((BitVec.ofInt IntKind.u64.bits ((x*4294967296:Nat):Int)|||BitVec.ofInt IntKind.u64.bits (y:Int)).toNat:Nat):Int)=((x*4294967296+y:Nat):Int):=by
  rw [Qn8 x y hx hy,Qm6 (by omega)]
 exact congrArg (fun n=>KP (.int .u64 n)) e
theorem Qds {b:Nat} {l:List Nat} {i:Nat} (h:i<l.length):lv b (l.drop i)=l.getD i 0+b*lv b (l.drop (i+1)):=by
 have e:l.drop i=l.getD i 0::l.drop (i+1):=by
  rw [List.drop_eq_getElem_cons h];simp [List.getD,h]
 rw [e];rfl
theorem Kx {l:List Nat} {i m v:Nat} (h:i<m):(l.set i v).drop m=l.drop m:=by
 refine List.ext_getElem? fun j=>?_
 rw [List.getElem?_drop,List.getElem?_drop,List.getElem?_set_ne (by omega)]
theorem Qfj {l:List Nat} {i v:Nat} (h:i<l.length):(l.set i v).getD i 0=v:=by simp [List.getD,h]
theorem Lim.set {l:List Nat} (h:Lim l) (i:Nat) {v:Nat} (hv:v<4294967296):Lim (l.set i v):=fun x hx=>by
 rcases List.mem_or_eq_of_mem_set hx with h1 | h1
 ·exact h x h1
 ·rw [h1];exact hv
theorem Qtt {H:Qb} {r n e s:Nat} {cs:List V} (h:Qc H r=some ⟨e,s,cs⟩) (hc:Qh cs=true):BorL H [.ref r 0 n] [.sl n cs] :=
 ⟨.ref r 0 n _ cs h (by simp) fun j hj=>by simpa using .clo _ (Ju hc j),trivial⟩
theorem Qz8 (a:List Nat) (d:Nat) (ha:a.length≤8796093022208) (hA:Lim a) (hd:0<d) (hd2:d<4294967296):Val C 203 [NA a,.int .u32 (d:Nat)] (.tup [Xu (lv B32 a/d),.int .u32 (lv B32 a%d:Nat),.int .i64 0]):=by
 refine zK Qf Tryz.func203 w203 Tryz.ntmps203 Tryz.results203 ?_;refine zG ?_;refine Qe6 rfl rfl rfl rfl (by simp [t162bytes]) (by omega) ?_
 refine zG ?_;refine Qj (fun n ts H=>∃ (m:Nat) (r:Nat) (Q:List Nat),(m≤a.length)∧(Q.length=a.length)∧(Lim Q)∧(r<d)∧(lv B32 (Q.drop m)*d+r=lv B32 (a.drop m))∧(n=m)∧(H=[some ⟨162,1,Xh .u32 Q⟩])∧ts.length=46∧nth ts 0=NA a∧nth ts 1=.int .u32 (d:Nat)∧nth ts 7=.ref 0 0 a.length∧nth ts 8=.int .u64 (r:Nat)∧nth ts 9=.int .i64 ((m:Int) - 1)) ?_ (n:=a.length) ?_
 ·skip
  rintro n ts H ⟨m,r,Q,hm,hQl,hQ,hr,hinv,hn,hH,hL,hs0,hs1,hs7,hs8,hs9⟩;refine Xc [(0,NA a),(1,.int .u32 (d:Nat)),(7,.ref 0 0 a.length),(8,.int .u64 (r:Nat)),(9,.int .i64 ((m:Int) - 1))] hL (by simp only [zFm,hs0,hs1,hs7,hs8,hs9,true_and];exact zNm) ?_
  clear hL hs0 hs1 hs7 hs8 hs9 ts
  refine Qz Qf ?_;subst hH
  have hg:=hA.get (m - 1)
  have hq:(r*4294967296+a.getD (m - 1) 0)/d<4294967296:=by
   rw [Nat.div_lt_iff_lt_mul hd,Nat.mul_comm]
   have:=Nat.mul_le_mul_right 4294967296 hr
   simp only [Nat.succ_eq_add_one,Nat.add_mul] at this;omega
  have hs:=Nat.mod_lt (r*4294967296+a.getD (m - 1) 0) hd
  have hdm:=Nat.div_add_mod (r*4294967296+a.getD (m - 1) 0) d
  have hq':(((r*4294967296+a.getD (m - 1) 0:Nat):Int)/(d:Int))=(((r*4294967296+a.getD (m - 1) 0)/d:Nat):Int):=(Int.natCast_ediv _ _).symm
  have hr':(((r*4294967296+a.getD (m - 1) 0:Nat):Int)%(d:Int))=(((r*4294967296+a.getD (m - 1) 0)%d:Nat):Int):=(Int.natCast_emod _ _).symm
  generalize (r*4294967296+a.getD (m - 1) 0)/d=q at *;generalize (r*4294967296+a.getD (m - 1) 0)%d=s at *
  (refine zH4 Qix Xdh hq' hr' ?_;(repeat' ((with_reducible apply zBr)<;>intro h<;>refine zH4 Qix Xdh hq' hr' ?_))<;>try exact .intro)
  ·have hm1:0<m:=by omega
   refine ⟨m - 1,by omega,m - 1,_,_,by omega, ?_, ?_,hs, ?_,rfl,by rw [Qac],rfl,by congr 1;omega⟩
   ·rw [List.length_set];exact hQl
   ·exact Lim.set hQ _ hq
   ·rw [Qds (l:=a) (by omega),Qds (l:=Q.set _ _) (by rw [List.length_set];omega),Qfj (by omega),Kx (by omega),show m - 1+1=m by omega,← hinv]
    generalize lv B32 (Q.drop m)=z;simp only [Nat.add_mul,Nat.mul_add,B32];rw [Nat.mul_assoc 4294967296 z d,Nat.mul_comm q d,Nat.mul_comm 4294967296 r];omega
  ·obtain rfl:m=0:=by omega
   simp only [List.drop_zero] at hinv
   have hqv:lv B32 a/d=lv B32 Q:=by rw [← hinv,Nat.mul_comm,Nat.mul_add_div hd,Nat.div_eq_of_lt hr,Nat.add_zero]
   have hrv:lv B32 a%d=r:=by rw [← hinv,Nat.mul_comm,Nat.mul_add_mod,Nat.mod_eq_of_lt hr]
   refine Fc.isN (Qir Q (by omega) hQ) (by rw [← hQl];exact Qtt rfl (Qm _ _)) fun v X hv=>?_
   refine zG ?_;rw [hqv,hrv];refine Gd.ret (Gd.tupL ?_);exact ⟨hv.gd,.leaf _ rfl rfl,.leaf _ rfl rfl,trivial⟩
 ·refine ⟨a.length,0,List.replicate a.length 0,Nat.le_refl _,by simp,fun x hx=>by simp at hx;omega,hd,by simp [lv],rfl,rfl,rfl,rfl,rfl,rfl,rfl,rfl⟩
theorem Xm1 {l:List Nat} {k:Nat} (h:l.length=k+2):lv B32 l=(l.getD (k+1) 0*B32+l.getD k 0)*B32 ^ k+lv B32 (l.take k):=by
 rw [Qav B32 l k (by omega),Qds (by omega),Qds (by omega),List.drop_of_length_le (by omega),lv]
 rw [Nat.mul_comm (B32 ^ k),Nat.mul_zero,Nat.add_zero,Nat.mul_comm B32,Nat.add_comm (l.getD k 0),Nat.add_comm]
theorem Xm0 {l:List Nat} {k:Nat} (h:l.length=k+3):lv B32 l=((l.getD (k+2) 0*B32+l.getD (k+1) 0)*B32+l.getD k 0)*B32 ^ k+lv B32 (l.take k):=by
 rw [Qav B32 l k (by omega),Qds (by omega),Qds (by omega),Qds (by omega),List.drop_of_length_le (by omega),lv]
 rw [Nat.mul_comm (B32 ^ k),Nat.mul_zero,Nat.add_zero,Nat.mul_comm B32,Nat.mul_comm B32,Nat.add_comm (l.getD k 0),Nat.add_comm (l.getD (k+1) 0),Nat.add_comm]
 rfl
theorem Qd5 (x:Nat):(x:Int).fdiv (2 ^ min 32 64)=((x/4294967296:Nat):Int):=Qdq x 32
theorem Qy2 (u v:List Nat) (k:Nat) (hv:v.length=k+2) (hu:u.length=k+3) (hk:k≤8796093022208) (hU:Lim u) (hV:Lim v) (hbig:2147483648≤v.getD (k+1) 0) (hlt:lv B32 u<B32*lv B32 v) :
  Fc C 206 [NA u,NA v] [] fun r H=>H=[]∧∃ g:Nat,r=.int .u64 (g:Nat)∧lv B32 u/lv B32 v≤g∧g≤lv B32 u/lv B32 v+1∧g<B32:=by
 have hG:Gs B32 (B32 ^ k) (lv B32 v) (lv B32 u) (v.getD (k+1) 0) (v.getD k 0) (u.getD (k+2) 0*B32+u.getD (k+1) 0) (u.getD k 0) :=
  ⟨⟨_,Qau hV k (by omega),Xm1 hv⟩,⟨_,Qau hU k (by omega),Xm0 hu⟩,hV.get k,hU.get k,hV.get (k+1),by simp only [B32];omega,hlt⟩
 have g0:=hU.get (k+2)
 have g1:=hU.get (k+1)
 have g2:=hU.get k
 have g3:=hV.get (k+1)
 have g4:=hV.get k
 have n1:k+2 - 1=k+1:=rfl
 have n2:k+2 - 2=k:=rfl
 have n3:(((k+2:Nat):Int) - 2).toNat=k:=by omega
 obtain ⟨q0,hq0⟩:∃ q,q=(u.getD (k+2) 0*4294967296+u.getD (k+1) 0)/v.getD (k+1) 0:=⟨_,rfl⟩;obtain ⟨r0,hr0⟩:∃ r,r=(u.getD (k+2) 0*4294967296+u.getD (k+1) 0)%v.getD (k+1) 0:=⟨_,rfl⟩
 have hq:(((u.getD (k+2) 0*4294967296+u.getD (k+1) 0:Nat):Int)/((v.getD (k+1) 0:Nat):Int))=((q0:Nat):Int):=by rw [hq0];exact (Int.natCast_ediv _ _).symm
 have hr:(((u.getD (k+2) 0*4294967296+u.getD (k+1) 0:Nat):Int)%((v.getD (k+1) 0:Nat):Int))=((r0:Nat):Int):=by rw [hr0];exact (Int.natCast_emod _ _).symm
 have hq1:lv B32 u/lv B32 v≤q0:=by rw [hq0];exact hG.first_le
 have hq2:q0≤4294967297:=by rw [hq0];exact hG.first_ge
 have hr1:r0<v.getD (k+1) 0:=by rw [hr0];exact Nat.mod_lt _ (by omega)
 have hqr:q0*v.getD (k+1) 0+r0=u.getD (k+2) 0*B32+u.getD (k+1) 0:=by rw [hq0,hr0,Nat.mul_comm];exact Nat.div_add_mod _ _
 refine zK Qf Tryz.func206 w206 Tryz.ntmps206 Tryz.results206 ?_;refine zH7 Qix Xdh hv hu n1 hq hr ?_;refine Qj (fun n ts H=>∃ (g:Nat) (r:Nat),(lv B32 u/lv B32 v≤g)∧(g≤4294967297)∧(g*v.getD (k+1) 0+r=u.getD (k+2) 0*B32+u.getD (k+1) 0)∧(r<4294967296)∧(n=g)∧(H=[])∧ts.length=77∧nth ts 0=.sl (k+3) (Xh .u32 u)∧nth ts 1=.sl (k+2) (Xh .u32 v)∧nth ts 5=.int .i64 (k+2:Nat)∧nth ts 7=.int .u64 (g:Nat)∧nth ts 8=.int .u64 (r:Nat)) ?_ (n:=q0) ?_
 ·skip
  rintro n ts H ⟨g,r,hg1,hg2,hgr,hrB,hn,hH,hL,hs0,hs1,hs5,hs7,hs8⟩;refine Xc [(0,.sl (k+3) (Xh .u32 u)),(1,.sl (k+2) (Xh .u32 v)),(5,.int .i64 (k+2:Nat)),(7,.int .u64 (g:Nat)),(8,.int .u64 (r:Nat))] hL (by simp only [zFm,hs0,hs1,hs5,hs7,hs8,true_and];exact zNm) ?_
  clear hL hs0 hs1 hs5 hs7 hs8 ts
  refine Qz Qf ?_;subst hH;rcases Nat.lt_or_ge g 4294967296 with hgB | hgB
  ·have hgv:g*v.getD k 0≤4294967295*4294967295:=Nat.mul_le_mul (by omega) (by omega)
   generalize hgv':g*v.getD k 0=gv at hgv
   have hgc:((g:Nat):Int)*((v.getD k 0:Nat):Int)=((gv:Nat):Int):=by rw [← hgv'];exact (Int.natCast_mul _ _).symm
   have e4:∀ r:Nat,(r:Int)+((v.getD (k+1) 0:Nat):Int)=((r+v.getD (k+1) 0:Nat):Int):=fun r=>(Int.natCast_add _ _).symm
   have hdown:=fun hc=>hG.step hgr hg1 hg2 (Or.inr hc)
   (apply Zo;repeat' ((with_reducible first|apply Zk|apply zBr<;>intro h)<;>try simp -implicitDefEqProofs (maxSteps:=9^7) (disch:=first|exact zDs|fail) only [go_sem,Qix,Xdh,hv,hu,n1,n2,n3,Qd5,hgc]))
   ·rename_i h0;rw [e4,Qd5] at h;obtain ⟨g',rfl,j1,j2,j3,j4⟩:=hdown (by rw [hgv'];simp only [B32];omega)
    obtain ⟨j5,j6⟩:=j4 (by simp only [B32];omega)
    have e5:IntKind.wrap .u64 (((g'+1:Nat):Int) - 1)=(g':Int):=by rw [Qm6 (by omega)];omega
    rw [e5];exact ⟨[],by simp,by simp,rfl,g',rfl,j1,by omega,j6⟩
   ·rename_i h0;rw [e4,Qd5] at h;obtain ⟨g',rfl,j1,j2,j3,j4⟩:=hdown (by rw [hgv'];simp only [B32];omega)
    have e5:IntKind.wrap .u64 (((g'+1:Nat):Int) - 1)=(g':Int):=by rw [Qm6 (by omega)];omega
    exact ⟨g',by omega,g',r+v.getD (k+1) 0,j1,by omega,j3,by omega,rfl,by rw [e5],rfl⟩
   ·exact ⟨[],by simp,by simp,rfl,g,rfl,hg1,hG.end1 hgr hgB (by rw [hgv'];simp only [B32];omega),hgB⟩
  ·have e4:∀ r:Nat,(r:Int)+((v.getD (k+1) 0:Nat):Int)=((r+v.getD (k+1) 0:Nat):Int):=fun r=>(Int.natCast_add _ _).symm
   obtain ⟨g',rfl,j1,j2,j3,j4⟩:=hG.step hgr hg1 hg2 (Or.inl hgB)
   (refine zH8 Qix Xdh hv hu n1 n2 n3 Qd5 ?_;(repeat' ((with_reducible apply zBr)<;>intro h<;>refine zH8 Qix Xdh hv hu n1 n2 n3 Qd5 ?_))<;>try exact .intro)
   ·rw [e4,Qd5] at h;obtain ⟨j5,j6⟩:=j4 (by simp only [B32];omega)
    have e5:(((g'+1:Nat):Int) - 1)=(g':Int):=by omega
    rw [e5];exact ⟨[],by simp,by simp,rfl,g',rfl,j1,by omega,j6⟩
   ·rw [e4,Qd5] at h
    have e5:(((g'+1:Nat):Int) - 1)=(g':Int):=by omega
    exact ⟨g',by omega,g',r+v.getD (k+1) 0,j1,by omega,j3,by omega,rfl,by rw [e5],rfl⟩
 ·exact ⟨q0,r0,hq1,hq2,hqr,by omega,rfl,rfl,rfl,rfl,rfl,rfl,rfl,rfl⟩
theorem Xrx (x y:Nat) (KP:V→Prop) (hx:x<4294967296) (hy:y<4294967296):Ke .and .u32 (x:Int) .u32 (y:Int) KP=KP (.int .u32 ((x &&& y:Nat):Int)):=by
 simp only [Ke,true_and]
 have e:IntKind.wrap .u32 (((BitVec.ofInt IntKind.u32.bits (x:Int) &&& BitVec.ofInt IntKind.u32.bits (y:Int)).toNat:Nat):Int)=((x &&& y:Nat):Int):=by
  have h1:(BitVec.ofInt IntKind.u32.bits (x:Int) &&& BitVec.ofInt IntKind.u32.bits (y:Int)).toNat=x &&& y:=Xn7 (k:=32) (by omega) (by omega)
  have h2:x &&& y<2 ^ 32:=Nat.and_lt_two_pow x (by omega)
  rw [h1,Qjs (by omega)]
 exact congrArg (fun n=>KP (.int .u32 n)) e
theorem Xti (x y:Nat) (KP:V→Prop) (hx:x<4294967296) (hy:y<4294967296):Ke .or .u32 (x:Int) .u32 (y:Int) KP=KP (.int .u32 ((x|||y:Nat):Int)):=by
 simp only [Ke,true_and]
 have e:IntKind.wrap .u32 (((BitVec.ofInt IntKind.u32.bits (x:Int)|||BitVec.ofInt IntKind.u32.bits (y:Int)).toNat:Nat):Int)=((x|||y:Nat):Int):=by
  have h1:(BitVec.ofInt IntKind.u32.bits (x:Int)|||BitVec.ofInt IntKind.u32.bits (y:Int)).toNat=x|||y:=Xhd (k:=32) (by omega) (by omega)
  have h2:x|||y<2 ^ 32:=Nat.or_lt_two_pow (by omega) (by omega)
  rw [h1,Qjs (by omega)]
 exact congrArg (fun n=>KP (.int .u32 n)) e
theorem Xo4 (x y:Nat) (KP:V→Prop) (hx:x<4294967296) (hy:y<4294967296):Ke .xor .u32 (x:Int) .u32 (y:Int) KP=KP (.int .u32 ((x ^^^ y:Nat):Int)):=by
 simp only [Ke,true_and]
 have e:IntKind.wrap .u32 (((BitVec.ofInt IntKind.u32.bits (x:Int) ^^^ BitVec.ofInt IntKind.u32.bits (y:Int)).toNat:Nat):Int)=((x ^^^ y:Nat):Int):=by
  have h1:(BitVec.ofInt IntKind.u32.bits (x:Int) ^^^ BitVec.ofInt IntKind.u32.bits (y:Int)).toNat=x ^^^ y:=Xah (k:=32) (by omega) (by omega)
  have h2:x ^^^ y<2 ^ 32:=Nat.xor_lt_two_pow (by omega) (by omega)
  rw [h1,Qjs (by omega)]
 exact congrArg (fun n=>KP (.int .u32 n)) e
def cpl (x:Nat):Nat:=4294967295 ^^^ x
theorem Qzi {x:Nat} (h:x<4294967296):cpl x<4294967296:=Nat.xor_lt_two_pow (n:=32) (by omega) (by omega)
theorem Xt1 (x:Nat) (KP:V→Prop) (hx:x<4294967296):unw .xor (.int .u32 (x:Int)) KP=KP (.int .u32 ((cpl x:Nat):Int)):=by
 have h1:(BitVec.ofInt 32 ((4294967295:Nat):Int) ^^^ BitVec.ofInt 32 (x:Int)).toNat=4294967295 ^^^ x:=Xah (k:=32) (by omega) (by omega)
 have h2:=Qzi hx
 have e:IntKind.wrap .u32 (((BitVec.ofInt 32 ((4294967295:Nat):Int) ^^^ BitVec.ofInt 32 (x:Int)).toNat:Nat):Int)=((cpl x:Nat):Int):=by
  rw [h1,Qjs (by simp only [cpl] at h2;omega)];rfl
 exact congrArg (fun n=>KP (.int .u32 n)) e
theorem Xtg (x:Nat):(x:Int).fdiv (2 ^ min 31 32)=((x/2147483648:Nat):Int):=Qdq x 31
theorem Qzw {x y b d:Nat} (hx:x<4294967296) (hy:y<4294967296) (hb:b≤1) (hd:d=(x+8589934592 - y - b)%4294967296):(cpl x &&& y|||cpl (x ^^^ y) &&& d)/2147483648=if x<y+b then 1 else 0:=by
 have e:∀ n:Nat,n/2147483648=n >>> 31:=fun n=>by rw [Nat.shiftRight_eq_div_pow]
 have hdl:d<4294967296:=by rw [hd];exact Nat.mod_lt _ (by decide)
 rw [e,Nat.shiftRight_or_distrib,Nat.shiftRight_and_distrib,Nat.shiftRight_and_distrib];simp only [cpl,Nat.shiftRight_xor_distrib];rw [← e,← e,← e,← e]
 have hx1:x/2147483648=0∨x/2147483648=1:=by omega
 have hy1:y/2147483648=0∨y/2147483648=1:=by omega
 have hd1:d/2147483648=0∨d/2147483648=1:=by omega
 rcases hx1 with hx1 | hx1<;>rcases hy1 with hy1 | hy1<;>rcases hd1 with hd1 | hd1<;>rw [hx1,hy1,hd1]<;>simp<;>omega
theorem Qno (x y b:Nat) (hx:x<4294967296) (hy:y<4294967296) (hb:b≤1):Pu C 222 [.int .u32 (x:Nat),.int .u32 (y:Nat),.int .u32 (b:Nat)] (.tup [.int .u32 ((x+8589934592 - y - b)%4294967296:Nat),.int .u32 (if x<y+b then 1 else 0:Nat)]):=by
 obtain ⟨d,hd⟩:∃ d,d=(x+8589934592 - y - b)%4294967296:=⟨_,rfl⟩
 have hdl:d<4294967296:=by rw [hd];exact Nat.mod_lt _ (by decide)
 have hw:IntKind.wrap .u32 (IntKind.wrap .u32 ((x:Int) - (y:Int)) - (b:Int))=(d:Int):=by rw [Qe0,Qe0,hd];omega
 have c1:=Qzi hx
 have c2:x ^^^ y<4294967296:=Nat.xor_lt_two_pow (n:=32) (by omega) (by omega)
 have c3:=Qzi c2
 have c4:cpl x &&& y<4294967296:=Nat.and_lt_two_pow (n:=32) _ (by omega)
 have c5:cpl (x ^^^ y) &&& d<4294967296:=Nat.and_lt_two_pow (n:=32) _ (by omega)
 rw [← hd];refine zK Qf Tryz.func222 w222 Tryz.ntmps222 Tryz.results222 ?_;refine zH6 hw Xt1 Xrx Xti Xo4 Xtg ?_
 (refine Qo (by intro g;simp only [go_sem,ren,Qk]) ?_)
 rw [Qzw hx hy hb hd]
theorem Qz2 (x y b:Nat) (hx:x<4294967296) (hy:y<4294967296) (hb:b≤1):Pu C 223 [.int .u32 (x:Nat),.int .u32 (y:Nat),.int .u32 (b:Nat)] (.tup [.int .u32 ((x+y+b)%4294967296:Nat),.int .u32 ((x+y+b)/4294967296:Nat)]):=by
 have e1:(x:Int)+(y:Int)+(b:Int)=((x+y+b:Nat):Int):=by omega
 have e2:IntKind.wrap .u32 ((x+y+b:Nat):Int)=(((x+y+b)%4294967296:Nat):Int):=by rw [Qe0];omega
 refine zK Qf Tryz.func223 w223 Tryz.ntmps223 Tryz.results223 ?_;refine zH3 e1 e2 Qd5 ?_
 (refine Qo (by intro g;simp only [go_sem,ren,Qk]) ?_)
 rw [← Nat.add_assoc,e2]
theorem Qj0 {W:List Nat} {j i d:Nat} (h:j+i<W.length):((W.set (j+i) d).drop j).take (i+1)=(W.drop j).take i++[d]:=by
 refine List.ext_getElem? fun k=>?_
 rw [List.getElem?_take];by_cases hk:k<i+1
 ·rw [if_pos hk,List.getElem?_drop];by_cases e:k=i
  ·subst e;rw [List.getElem?_set_self h,List.getElem?_append_right (by rw [List.length_take];omega),List.length_take,List.length_drop,Nat.min_eq_left (by omega)]
   simp
  ·rw [List.getElem?_set_ne (by omega),List.getElem?_append_left (by rw [List.length_take,List.length_drop];omega),List.getElem?_take,if_pos (by omega),List.getElem?_drop]
 ·rw [if_neg hk,List.getElem?_eq_none];rw [List.length_append,List.length_take,List.length_drop];simp;omega
theorem Qh7 {W:List Nat} {j i:Nat} (h:j+i<W.length):(W.drop j).take (i+1)=(W.drop j).take i++[W.getD (j+i) 0]:=by
 rw [List.take_add_one];simp [List.getD,h]
theorem Qc2 {W:List Nat} {j i:Nat} (h:j+i≤W.length):((W.drop j).take i).length=i:=by rw [List.length_take,List.length_drop];omega
theorem Qky {W X:List Nat} {s:Nat} (h:W.drop s=X.drop s):W.getD s 0=X.getD s 0:=by
 have:=congrArg (fun l:List Nat=>l.getD 0 0) h
 simpa [List.getD,List.getElem?_drop] using this
theorem Qc0 {W:List Nat} {j s d:Nat} (h:j≤s):(W.set s d).take j=W.take j:=by
 refine List.ext_getElem? fun k=>?_
 rw [List.getElem?_take,List.getElem?_take];split
 ·rw [List.getElem?_set_ne (by omega)]
 ·rfl
structure Tk (j:Nat) (v:List Nat) (q:Nat) (W:List Nat) (i:Nat) (Wi:List Nat) (c bw:Nat):Prop where
 len:Wi.length=W.length
 lim:Lim Wi
 lo:Wi.take j=W.take j
 hi:Wi.drop (j+i)=W.drop (j+i)
 eq:lv B32 ((Wi.drop j).take i)+q*lv B32 (v.take i)=lv B32 ((W.drop j).take i)+B32 ^ i*(c+bw)
 c:c<4294967296
 bw:bw≤1
theorem Tk.next {j:Nat} {v:List Nat} {q:Nat} {W:List Nat} {i:Nat} {Wi:List Nat} {c bw:Nat} (h:Tk j v q W i Wi c bw) (hi:i<v.length) (hW:j+v.length<W.length) (hq:q<4294967296) (hV:Lim v) {p d b':Nat} (hp:p=q*v.getD i 0+c) (hd:d=(Wi.getD (j+i) 0+8589934592 - p%4294967296 - bw)%4294967296) (hb:b'=if Wi.getD (j+i) 0<p%4294967296+bw then 1 else 0) :
  Tk j v q W (i+1) (Wi.set (j+i) d) (p/4294967296) b':=by
 have hs:j+i<Wi.length:=by rw [h.len];omega
 have hw:=h.lim.get (j+i)
 have hb1:b'≤1:=by rw [hb];split<;>omega
 have hdl:d<4294967296:=by rw [hd];exact Nat.mod_lt _ (by decide)
 have hg:=Qky h.hi
 have hm:=Nat.mod_lt p (show 0<4294967296 by decide)
 have hbw:=h.bw
 have hdb:d+(p%4294967296+bw)=Wi.getD (j+i) 0+4294967296*b':=by rw [hd,hb];split<;>omega
 have hpl:p<4294967296*4294967296:=by
  have:=Nat.mul_le_mul (show q≤4294967295 by omega) (show v.getD i 0≤4294967295 by have:=hV.get i;omega)
  have:=h.c
  omega
 refine ⟨by rw [List.length_set,h.len],Lim.set h.lim _ hdl,by rw [Qc0 (by omega),h.lo], ?_, ?_,(Nat.div_lt_iff_lt_mul (by decide)).2 hpl,hb1⟩
 ·rw [← Nat.add_assoc,Kx (Nat.lt_succ_self _)]
  have:=congrArg (List.drop 1) h.hi
  rwa [List.drop_drop,List.drop_drop] at this
 ·rw [Qj0 hs,Qak,Qc2 (by omega),Qh7 (W:=W) (by omega),Qak,Qc2 (by omega),Qhl hi,Nat.pow_succ,← hg]
  have heq:=h.eq
  have hpm:=Nat.mod_add_div p 4294967296
  rw [Nat.mul_add];generalize B32 ^ i=P at *
  have e1:q*(P*v.getD i 0)=P*(q*v.getD i 0):=by ac_rfl
  rw [e1,Nat.mul_assoc]
  have e2:P*(c+bw)+(P*d+P*(q*v.getD i 0))=P*Wi.getD (j+i) 0+P*(B32*(p/4294967296+b')):=by
   rw [← Nat.mul_add,← Nat.mul_add,← Nat.mul_add]
   congr 1
   simp only [B32];omega
  omega
theorem Tk.last {j:Nat} {v:List Nat} {q:Nat} {W Wi:List Nat} {c bw:Nat} (h:Tk j v q W v.length Wi c bw) (hW:j+v.length<W.length) {d b':Nat} (hd:d=(Wi.getD (j+v.length) 0+8589934592 - c - bw)%4294967296) (hb:b'=if Wi.getD (j+v.length) 0<c+bw then 1 else 0) :
  (Wi.set (j+v.length) d).length=W.length∧Lim (Wi.set (j+v.length) d)∧(Wi.set (j+v.length) d).take j=W.take j∧(Wi.set (j+v.length) d).drop (j+(v.length+1))=W.drop (j+(v.length+1)) ∧
   lv B32 (((Wi.set (j+v.length) d).drop j).take (v.length+1))+q*lv B32 v=lv B32 ((W.drop j).take (v.length+1))+B32 ^ (v.length+1)*b'∧b'≤1:=by
 have hs:j+v.length<Wi.length:=by rw [h.len];omega
 have hw:=h.lim.get (j+v.length)
 have hdl:d<4294967296:=by rw [hd];exact Nat.mod_lt _ (by decide)
 have hg:=Qky h.hi
 have hc:=h.c
 have hbw:=h.bw
 have hb1:b'≤1:=by rw [hb];split<;>omega
 have hdb:d+(c+bw)=Wi.getD (j+v.length) 0+4294967296*b':=by rw [hd,hb];split<;>omega
 refine ⟨by rw [List.length_set,h.len],Lim.set h.lim _ hdl,by rw [Qc0 (by omega),h.lo], ?_, ?_,hb1⟩
 ·rw [← Nat.add_assoc,Kx (Nat.lt_succ_self _)]
  have:=congrArg (List.drop 1) h.hi
  rwa [List.drop_drop,List.drop_drop] at this
 ·rw [Qj0 hs,Qak,Qc2 (by omega),Qh7 (W:=W) (by omega),Qak,Qc2 (by omega),Nat.pow_succ,← hg]
  have heq:=h.eq
  rw [List.take_length] at heq;generalize B32 ^ v.length=P at *;rw [Nat.mul_assoc]
  have e2:P*(c+bw)+P*d=P*Wi.getD (j+v.length) 0+P*(B32*b'):=by
   rw [← Nat.mul_add,← Nat.mul_add]
   congr 1
   simp only [B32];omega
  omega
theorem List.set_getElem_self_of_row {H:Qb} {r:Nat} {row:Row} (h:Qc H r=some row):H.set r (some row)=H:=by
 refine List.ext_getElem? fun k=>?_
 by_cases e:r=k
 ·subst e;rw [List.getElem?_set_self (Xg h),Yd h]
 ·rw [List.getElem?_set_ne e]
theorem Xb8 {ro j q:Nat} {H0:Qb} {v W:List Nat} (hr:Qc H0 ro=some ⟨162,1,Xh .u32 W⟩) (hW:j+v.length<W.length) (hWl:W.length≤8796093022208) (hL:Lim W) (hV:Lim v) (hq:q<4294967296) :
  Fc C 207 [.ref ro j (v.length+1),NA v,.int .u64 (q:Nat)] H0 fun r H'=>∃ W' b',r=.bool (b'==1)∧H'=H0.set ro (some ⟨162,1,Xh .u32 W'⟩)∧b'≤1∧W'.length=W.length∧Lim W'∧W'.take j=W.take j∧W'.drop (j+v.length+1)=W.drop (j+v.length+1)∧lv B32 ((W'.drop j).take (v.length+1))+q*lv B32 v=lv B32 ((W.drop j).take (v.length+1))+B32 ^ (v.length+1)*b':=by
 have hrow:∀ Wi:List Nat,Qc (H0.set ro (some ⟨162,1,Xh .u32 Wi⟩)) ro=some ⟨162,1,Xh .u32 Wi⟩:=fun Wi=>Qg hr
 have hset:∀ (Wi:List Nat) (z:Option Row),(H0.set ro (some ⟨162,1,Xh .u32 Wi⟩)).set ro z=H0.set ro z:=fun Wi z=>List.set_set ..
 have h00:H0.set ro (some ⟨162,1,Xh .u32 W⟩)=H0:=List.set_getElem_self_of_row hr
 refine zL Qf Tryz.func207 w207 Tryz.ntmps207 Tryz.results207 ?_;refine zG ?_;refine Qj (fun n ts H=>∃ (i:Nat) (c:Nat) (bw:Nat) (Wi:List Nat),(i≤v.length)∧(Tk j v q W i Wi c bw)∧(n=v.length - i)∧(H=H0.set ro (some ⟨162,1,Xh .u32 Wi⟩))∧ts.length=60∧nth ts 0=.ref ro j (v.length+1)∧nth ts 1=NA v∧nth ts 2=.int .u64 (q:Nat)∧nth ts 7=.int .u64 (c:Nat)∧nth ts 8=.int .u32 (bw:Nat)∧nth ts 12=NA v∧nth ts 13=.int .i64 (v.length:Nat)∧nth ts 14=.int .i64 (i:Nat)) ?_ (n:=v.length) ?_
 ·skip
  rintro n ts H ⟨i,c,bw,Wi,hi,hT,hn,hH,hL,hs0,hs1,hs2,hs7,hs8,hs12,hs13,hs14⟩;refine Xc [(0,.ref ro j (v.length+1)),(1,NA v),(2,.int .u64 (q:Nat)),(7,.int .u64 (c:Nat)),(8,.int .u32 (bw:Nat)),(12,NA v),(13,.int .i64 (v.length:Nat)),(14,.int .i64 (i:Nat))] hL (by simp only [zFm,hs0,hs1,hs2,hs7,hs8,hs12,hs13,hs14,true_and];exact zNm) ?_
  clear hL hs0 hs1 hs2 hs7 hs8 hs12 hs13 hs14 ts
  refine Qz Qf ?_;subst hH
  have g1:=hV.get i
  have hc:=hT.c
  have hbw:=hT.bw
  have hlen:=hT.len
  have hqv:q*v.getD i 0≤4294967295*4294967295:=Nat.mul_le_mul (by omega) (by omega)
  generalize hqv':q*v.getD i 0=pv at hqv
  have hm:((q:Nat):Int)*((v.getD i 0:Nat):Int)=((pv:Nat):Int):=by rw [← hqv'];exact (Int.natCast_mul _ _).symm
  have ha:((pv:Nat):Int)+((c:Nat):Int)=((pv+c:Nat):Int):=(Int.natCast_add _ _).symm
  have hrw:=hrow Wi
  (refine zH5 hm ha Qd5 hrw hset ?_;(repeat' ((with_reducible apply zBr)<;>intro h<;>refine zH5 hm ha Qd5 hrw hset ?_))<;>try exact .intro)
  ·rw [Qm5]
   have hwi:=hT.lim.get (j+i)
   have hpm:=Nat.mod_lt (pv+c) (show 0<4294967296 by decide)
   refine Fc.pure (Qno (Wi.getD (j+i) 0) ((pv+c)%4294967296) bw hwi hpm hbw) rfl (fun g=>rfl) ?_
   obtain ⟨d,hd⟩:∃ d,d=(Wi.getD (j+i) 0+8589934592 - (pv+c)%4294967296 - bw)%4294967296:=⟨_,rfl⟩;obtain ⟨b',hb'⟩:∃ b':Nat,b'=if Wi.getD (j+i) 0<(pv+c)%4294967296+bw then 1 else 0:=⟨_,rfl⟩
   rw [← hd,← hb']
   have hN:=hT.next (by omega) hW hq hV (p:=pv+c) (by rw [hqv']) hd hb'
   refine zH6 hm ha Qd5 hrw hset Qac ?_;exact ⟨v.length - (i+1),by omega,i+1,_,_,_,by omega,hN,rfl,rfl,rfl,rfl,rfl⟩
  ·obtain rfl:i=v.length:=by omega
   have hwi:=hT.lim.get (j+v.length)
   refine Fc.pure (Qno (Wi.getD (j+v.length) 0) c bw hwi hc hbw) rfl (fun g=>rfl) ?_
   obtain ⟨d,hd⟩:∃ d,d=(Wi.getD (j+v.length) 0+8589934592 - c - bw)%4294967296:=⟨_,rfl⟩;obtain ⟨b',hb'⟩:∃ b':Nat,b'=if Wi.getD (j+v.length) 0<c+bw then 1 else 0:=⟨_,rfl⟩
   rw [← hd,← hb'];obtain ⟨j1,j2,j3,j4,j5,j6⟩:=hT.last hW hd hb';refine zH3 hrw hset Qac ?_;refine ⟨_,b', ?_,rfl,j6,j1,j2,j3,j4,j5⟩
   congr 1
   rw [Bool.eq_iff_iff,beq_iff_eq,beq_iff_eq];omega
 ·exact ⟨0,0,0,W,by omega,⟨rfl,hL,rfl,rfl,by simp [lv],by omega,by omega⟩,rfl,h00.symm,rfl,rfl,rfl,rfl,rfl,rfl,rfl,rfl,rfl⟩
structure Bk (j:Nat) (v:List Nat) (W:List Nat) (i:Nat) (Wi:List Nat) (c:Nat):Prop where
 len:Wi.length=W.length
 lim:Lim Wi
 lo:Wi.take j=W.take j
 hi:Wi.drop (j+i)=W.drop (j+i)
 eq:lv B32 ((Wi.drop j).take i)+B32 ^ i*c=lv B32 ((W.drop j).take i)+lv B32 (v.take i)
 c:c≤1
theorem Bk.next {j:Nat} {v:List Nat} {W:List Nat} {i:Nat} {Wi:List Nat} {c:Nat} (h:Bk j v W i Wi c) (hi:i<v.length) (hW:j+v.length<W.length) (hV:Lim v) {p:Nat} (hp:p=Wi.getD (j+i) 0+v.getD i 0+c) :
  Bk j v W (i+1) (Wi.set (j+i) (p%4294967296)) (p/4294967296):=by
 have hs:j+i<Wi.length:=by rw [h.len];omega
 have hw:=h.lim.get (j+i)
 have hv:=hV.get i
 have hc:=h.c
 have hg:=Qky h.hi
 have hdl:p%4294967296<4294967296:=Nat.mod_lt _ (by decide)
 refine ⟨by rw [List.length_set,h.len],Lim.set h.lim _ hdl,by rw [Qc0 (by omega),h.lo], ?_, ?_,by omega⟩
 ·rw [← Nat.add_assoc,Kx (Nat.lt_succ_self _)]
  have:=congrArg (List.drop 1) h.hi
  rwa [List.drop_drop,List.drop_drop] at this
 ·rw [Qj0 hs,Qak,Qc2 (by omega),Qh7 (W:=W) (by omega),Qak,Qc2 (by omega),Qhl hi,Nat.pow_succ,← hg]
  have heq:=h.eq
  have hpm:=Nat.mod_add_div p 4294967296
  generalize B32 ^ i=P at *;rw [Nat.mul_assoc]
  have e2:P*(p%4294967296)+P*(B32*(p/4294967296))=P*Wi.getD (j+i) 0+P*v.getD i 0+P*c:=by
   rw [← Nat.mul_add,← Nat.mul_add,← Nat.mul_add]
   congr 1
   simp only [B32];omega
  omega
theorem Bk.last {j:Nat} {v:List Nat} {W Wi:List Nat} {c:Nat} (h:Bk j v W v.length Wi c) (hW:j+v.length<W.length) {p:Nat} (hp:p=Wi.getD (j+v.length) 0+c) :
  (Wi.set (j+v.length) (p%4294967296)).length=W.length∧Lim (Wi.set (j+v.length) (p%4294967296))∧(Wi.set (j+v.length) (p%4294967296)).take j=W.take j∧(Wi.set (j+v.length) (p%4294967296)).drop (j+(v.length+1))=W.drop (j+(v.length+1)) ∧
   lv B32 (((Wi.set (j+v.length) (p%4294967296)).drop j).take (v.length+1))+B32 ^ (v.length+1)*(p/4294967296)=lv B32 ((W.drop j).take (v.length+1))+lv B32 v:=by
 have hs:j+v.length<Wi.length:=by rw [h.len];omega
 have hw:=h.lim.get (j+v.length)
 have hc:=h.c
 have hg:=Qky h.hi
 have hdl:p%4294967296<4294967296:=Nat.mod_lt _ (by decide)
 refine ⟨by rw [List.length_set,h.len],Lim.set h.lim _ hdl,by rw [Qc0 (by omega),h.lo], ?_, ?_⟩
 ·rw [← Nat.add_assoc,Kx (Nat.lt_succ_self _)]
  have:=congrArg (List.drop 1) h.hi
  rwa [List.drop_drop,List.drop_drop] at this
 ·rw [Qj0 hs,Qak,Qc2 (by omega),Qh7 (W:=W) (by omega),Qak,Qc2 (by omega),Nat.pow_succ,← hg]
  have heq:=h.eq
  rw [List.take_length] at heq
  have hpm:=Nat.mod_add_div p 4294967296
  generalize B32 ^ v.length=P at *;rw [Nat.mul_assoc]
  have e2:P*(p%4294967296)+P*(B32*(p/4294967296))=P*Wi.getD (j+v.length) 0+P*c:=by
   rw [← Nat.mul_add,← Nat.mul_add]
   congr 1
   simp only [B32];omega
  omega
theorem Xfd {ro j:Nat} {H0:Qb} {v W:List Nat} (hr:Qc H0 ro=some ⟨162,1,Xh .u32 W⟩) (hW:j+v.length<W.length) (hWl:W.length≤8796093022208) (hL:Lim W) (hV:Lim v) :
  Fc C 208 [.ref ro j (v.length+1),NA v] H0 fun r H'=>∃ W' c,H'=H0.set ro (some ⟨162,1,Xh .u32 W'⟩)∧W'.length=W.length∧Lim W'∧W'.take j=W.take j∧W'.drop (j+(v.length+1))=W.drop (j+(v.length+1))∧lv B32 ((W'.drop j).take (v.length+1))+B32 ^ (v.length+1)*c=lv B32 ((W.drop j).take (v.length+1))+lv B32 v:=by
 have hrow:∀ Wi:List Nat,Qc (H0.set ro (some ⟨162,1,Xh .u32 Wi⟩)) ro=some ⟨162,1,Xh .u32 Wi⟩:=fun Wi=>Qg hr
 have hset:∀ (Wi:List Nat) (z:Option Row),(H0.set ro (some ⟨162,1,Xh .u32 Wi⟩)).set ro z=H0.set ro z:=fun Wi z=>List.set_set ..
 have h00:H0.set ro (some ⟨162,1,Xh .u32 W⟩)=H0:=List.set_getElem_self_of_row hr
 refine zL Qf Tryz.func208 w208 Tryz.ntmps208 Tryz.results208 ?_;refine zG ?_;refine Qj (fun n ts H=>∃ (i:Nat) (c:Nat) (Wi:List Nat),(i≤v.length)∧(Bk j v W i Wi c)∧(n=v.length - i)∧(H=H0.set ro (some ⟨162,1,Xh .u32 Wi⟩))∧ts.length=36∧nth ts 0=.ref ro j (v.length+1)∧nth ts 1=NA v∧nth ts 4=.int .u32 (c:Nat)∧nth ts 7=NA v∧nth ts 8=.int .i64 (v.length:Nat)∧nth ts 9=.int .i64 (i:Nat)) ?_ (n:=v.length) ?_
 ·skip
  rintro n ts H ⟨i,c,Wi,hi,hT,hn,hH,hL,hs0,hs1,hs4,hs7,hs8,hs9⟩;refine Xc [(0,.ref ro j (v.length+1)),(1,NA v),(4,.int .u32 (c:Nat)),(7,NA v),(8,.int .i64 (v.length:Nat)),(9,.int .i64 (i:Nat))] hL (by simp only [zFm,hs0,hs1,hs4,hs7,hs8,hs9,true_and];exact zNm) ?_
  clear hL hs0 hs1 hs4 hs7 hs8 hs9 ts
  refine Qz Qf ?_;subst hH
  have g1:=hV.get i
  have hc:=hT.c
  have hlen:=hT.len
  have hrw:=hrow Wi
  have hwi:=hT.lim.get (j+i)
  (refine zH2 hrw hset ?_;(repeat' ((with_reducible apply zBr)<;>intro h<;>refine zH2 hrw hset ?_))<;>try exact .intro)
  ·refine Fc.pure (Qz2 (Wi.getD (j+i) 0) (v.getD i 0) c hwi g1 hc) rfl (fun g=>rfl) ?_
   obtain ⟨p,hp⟩:∃ p,p=Wi.getD (j+i) 0+v.getD i 0+c:=⟨_,rfl⟩;rw [← hp]
   have hN:=hT.next (by omega) hW hV hp
   refine zH3 hrw hset Qac ?_;exact ⟨v.length - (i+1),by omega,i+1,_,_,by omega,hN,rfl,rfl,rfl,rfl⟩
  ·obtain rfl:i=v.length:=by omega
   obtain ⟨p,hp⟩:∃ p,p=Wi.getD (j+v.length) 0+c:=⟨_,rfl⟩
   have hs:((Wi.getD (j+v.length) 0:Nat):Int)+((c:Nat):Int)=((p:Nat):Int):=by rw [hp];exact (Int.natCast_add _ _).symm
   obtain ⟨j1,j2,j3,j4,j5⟩:=hT.last hW hp;refine ⟨_,_, ?_,j1,j2,j3,j4,j5⟩;rw [hs,Qm5,Qac]
 ·exact ⟨0,0,W,by omega,⟨rfl,hL,rfl,rfl,by simp [lv],by omega⟩,rfl,h00.symm,rfl,rfl,rfl,rfl,rfl,rfl,rfl⟩
def DA (l:List Nat):V:=.sl l.length (Xh .i64 l)
def DV (x:Nat):V:=DA (dg D10 x)
attribute [go_sem] DA DV
theorem Xrm (l:List Nat):clo (DA l)=true:=by simp [DA,clo,Qm]
theorem Zu (x:Nat):clo (DV x)=true:=Xrm _
abbrev OwnD (H:Qb) (v:V) (l:List Nat):Prop:=Bv.Own 3 1 H v l.length (Xh .i64 l)
theorem Own.gd {e s:Nat} {H:Qb} {v:V} {n:Nat} {cs:List V} (h:Bv.Own e s H v n cs) (hc:Qh cs=true) (hp:Xt cs=true):Gd H v (.sl n cs):=IsZ.gd (.inr h) hc hp
theorem OwnD.gd {H:Qb} {v:V} {l:List Nat} (h:OwnD H v l):Gd H v (DA l):=Own.gd h (Qm _ _) (Zf _ _)
theorem Qiq {y:Ty} {e e' s':Nat} {k:IntKind} {v:V} {H:Qb} {l:List Nat} {x:Nat} {K:V→Qb→Prop} (h:Bv.Own e 1 H v l.length (Xh k l)) (hy:y.size=1) (hb:0<y.bytes∧y.bytes≤8) (hl:l.length+1≤2000000000000)
  (hK:∀ v' H',Bv.Own e 1 H' v' (l++[x]).length (Xh k (l++[x]))→Fr v H H'→K v' H'):Qbb y e v (.ref H.length 0 1) (H++[some ⟨e',s',[.int k (x:Nat)]⟩]) K :=
 Xbn h hy ⟨hb.1,by omega⟩ hl rfl (Qf3 _ _) fun v' H' h1 h2=>hK v' H' (by rw [Qmi,List.length_append];exact h1) h2
def TrimQ (v:V) (l:List Nat) (u:V):Prop:=(u=.nil∧Yx l=0)∨(u=.sl 0 []∧Yx l=0)∨∃ r,v=.ref r 0 l.length∧u=.ref r 0 (Yx l)
theorem TrimQ.gd {H:Qb} {v u:V} {l:List Nat} (hO:OwnD H v l) (h:TrimQ v l u):Gd H u (DA (l.take (Yx l))):=by
 have e:(l.take (Yx l)).length=Yx l:=by rw [List.length_take];have:=Qcy l;omega
 have e2:DA (l.take (Yx l))=.sl (Yx l) ((Xh .i64 l).take (Yx l)):=by rw [DA,e,Qlt]
 rcases h with ⟨rfl,h⟩ | ⟨rfl,h⟩ | ⟨r,rfl,rfl⟩
 ·rw [e2,h];exact .nil _
 ·rw [e2,h];exact .leaf _ rfl rfl
 ·rw [e2];rcases hO with ⟨h,_⟩ | ⟨q,h,h2,_⟩
  ·cases h
  ·injection h with h _ _;subst h
   exact .part _ _ _ _ _ _ h2 (Qm _ _) (Zf _ _)
theorem Qdx {l:List Nat} (h:∀ x∈l,x<D10) {x:Nat} (hv:lv D10 l=x):DA (l.take (Yx l))=DV x:=by rw [DV,← hv,Qrd Qfc h]
theorem Qk9 {H0:Qb} {v:V} {l:List Nat} (hO:OwnD H0 v l) (hl:l.length≤2000000000000):Fc C 161 [v] H0 fun u H'=>H'=H0∧TrimQ v l u:=by
 rcases hO with ⟨rfl,h2,h3⟩ | ⟨r,rfl,hr,hlen⟩
 ·have:l=[]:=List.length_eq_zero_iff.1 h2
  subst this;refine zL Qf Tryz.func161 w161 Tryz.ntmps161 Tryz.results161 ?_;refine zG ?_;refine Qj (fun n ts H=>(n=0)∧(H=H0)∧ts.length=21∧nth ts 0=.nil∧nth ts 3=.int .i64 0) ?_ (n:=0) ?_
  ·skip
   rintro n ts H ⟨hn,hH,hL,hs0,hs3⟩;refine Xc [(0,.nil),(3,.int .i64 0)] hL (by simp only [zFm,hs0,hs3,true_and];exact zNm) ?_
   clear hL hs0 hs3 ts
   refine Qz Qf ?_;subst hH;refine zG ?_;exact .inl ⟨rfl,rfl⟩
  ·exact ⟨rfl,rfl,rfl,rfl,rfl⟩
 ·skip
  refine zL Qf Tryz.func161 w161 Tryz.ntmps161 Tryz.results161 ?_;refine zH1 hr ?_;refine Qj (fun n ts H=>∃ (m:Nat),(m≤l.length)∧(Yx (l.take m)=Yx l)∧(n=m)∧(H=H0)∧ts.length=21∧nth ts 0=.ref r 0 l.length∧nth ts 3=.int .i64 (m:Nat)) ?_ (n:=l.length) ?_
  ·skip
   rintro n ts H ⟨m,hm,ht,hn,hH,hL,hs0,hs3⟩;refine Xc [(0,.ref r 0 l.length),(3,.int .i64 (m:Nat))] hL (by simp only [zFm,hs0,hs3,true_and];exact zNm) ?_
   clear hL hs0 hs3 ts
   refine Qz Qf ?_;subst hH
   (refine zH1 hr ?_;(repeat' ((with_reducible apply zBr)<;>intro h<;>refine zH1 hr ?_))<;>try exact .intro)
   ·obtain ⟨m,rfl⟩:∃ k,m=k+1:=⟨m - 1,by omega⟩
    rw [Qbt (by omega)] at ht
    simp only [Nat.add_sub_cancel] at h;rw [if_pos (by omega)] at ht
    exact ⟨m,by omega,m,(by (repeat' apply And.intro)<;>(first | rfl | omega | (congr 1;omega) | assumption | (congr 1;assumption)))⟩
   ·obtain ⟨m,rfl⟩:∃ k,m=k+1:=⟨m - 1,by omega⟩
    rw [Qbt (by omega)] at ht
    simp only [Nat.add_sub_cancel] at h;rw [if_neg (by omega)] at ht
    refine Qhb (.inr ⟨r,rfl,hr,hlen⟩) (by simp [t3ok]) (by simp [t3size]) hm (fun h0=>by omega) (fun h0=>by omega) fun q h0 hv=>?_
    refine zG ?_;exact .inr (.inr ⟨q,hv,by rw [ht]⟩)
   ·obtain rfl:m=0:=by omega
    refine Qhb (.inr ⟨r,rfl,hr,hlen⟩) (by simp [t3ok]) (by simp [t3size]) hm (fun h0 hv=>nomatch hv) (fun h0 hv=>?_) fun q h0 hv=>by omega
    refine zG ?_;exact .inr (.inl ⟨rfl,by rw [← ht];rfl⟩)
  ·exact ⟨l.length,Nat.le_refl _,by rw [List.take_length],rfl,rfl,rfl,rfl,rfl⟩
theorem Qnq (x:Nat) (hx:x<9223372036854775808):Val C 108 [.int .i64 (x:Nat)] (DV x):=by
 have hd0:Xe x≤16:=Qa5 (Nat.lt_of_lt_of_le hx (by decide))
 refine zK Qf Tryz.func108 w108 Tryz.ntmps108 Tryz.results108 ?_;refine zG ?_;refine Qj (fun n ts H=>∃ (m:Nat) (l:List Nat) (u:V),(m<9223372036854775808)∧(dg D10 x=l++dg D10 m)∧(n=m)∧(OwnD H u l)∧ts.length=14∧nth ts 0=.int .i64 (m:Nat)∧nth ts 3=u) ?_ (n:=x) ?_
 ·skip
  rintro n ts H ⟨m,l,u,hm,hd,hn,hu,hL,hs0,hs3⟩;refine Xc [(0,.int .i64 (m:Nat)),(3,u)] hL (by simp only [zFm,hs0,hs3,true_and];exact zNm) ?_
  clear hL hs0 hs3 ts
  refine Qz Qf ?_
  have hlen:=congrArg List.length hd
  rw [List.length_append] at hlen
  have hlx:(dg D10 x).length=Xe x:=rfl
  have e1:((m:Int)%10000)=((m%D10:Nat):Int):=(Int.natCast_emod _ _).symm
  have e2:((m:Int)/10000)=((m/D10:Nat):Int):=(Int.natCast_ediv _ _).symm
  have e3:m/D10≤m:=Nat.div_le_self _ _
  (refine zH2 e1 e2 ?_;(repeat' ((with_reducible apply zBr)<;>intro h<;>refine zH2 e1 e2 ?_))<;>try exact .intro)
  ·have hm0:0<m:=by omega
   refine Qiq hu rfl ⟨by decide,by decide⟩ (by omega) fun v' H' hu' _=>?_
   refine zH2 e1 e2 ?_
   have hd':dg D10 x=(l++[m%D10])++dg D10 (m/D10):=by rw [List.append_assoc,hd,Qer Qfc hm0];rfl
   have hlt:m/D10<n:=by rw [hn];exact Nat.div_lt_self hm0 (by decide)
   exact ⟨m/D10,hlt,m/D10,l++[m%D10],v',(by (repeat' apply And.intro)<;>(first | rfl | omega | (congr 1;omega) | assumption | (congr 1;assumption)))⟩
  ·obtain rfl:m=0:=by omega
   rw [Yw,List.append_nil] at hd;rw [DV,hd];exact (OwnD.gd hu).ret
 ·exact ⟨x,[],.nil,hx,rfl,rfl,.nil ..,rfl,rfl,rfl⟩
theorem Qo7 (x y:Nat) (hx:Xe x≤1000000000000) (hy:Xe y≤1000000000000):Pu C 192 [DV x,DV y] (.int .i64 (Qdb x y)):=by
 have lx:(dg D10 x).length=Xe x:=rfl
 have ly:(dg D10 y).length=Xe y:=rfl
 have hlt:∀ {a b:Nat},Xe a<Xe b→a<b:=fun h=>Nat.lt_of_not_le fun h2=>by have:=Kr h2;omega
 refine zK Qf Tryz.func192 w192 Tryz.ntmps192 Tryz.results192 ?_
 (refine zG ?_;(repeat' ((with_reducible apply zBr)<;>intro h<;>refine zG ?_))<;>try exact .intro)
 ·have:=hlt (a:=x) (b:=y) (by omega)
  (refine Qo (by intro g;simp only [go_sem,ren,Qk]) ?_)
  simp [Qdb,this]
 ·have:=hlt (a:=y) (b:=x) (by omega)
  (refine Qo (by intro g;simp only [go_sem,ren,Qk]) ?_)
  simp [Qdb,this,Nat.not_lt.2 (Nat.le_of_lt this)]
 ·have hxy:Xe x=Xe y:=by omega
  refine Qj (fun n ts H=>∃ (i:Nat),(i≤Xe x)∧(x/D10 ^ i=y/D10 ^ i)∧(n=i)∧(H=[])∧ts.length=41∧nth ts 0=DV x∧nth ts 1=DV y∧nth ts 5=.int .i64 ((i:Int) - 1)) ?_ (n:=Xe x) ?_
  ·skip
   rintro n ts H ⟨i,hi,hI,hn,hH,hL,hs0,hs1,hs5⟩;refine Xc [(0,DV x),(1,DV y),(5,.int .i64 ((i:Int) - 1))] hL (by simp only [zFm,hs0,hs1,hs5,true_and];exact zNm) ?_
   clear hL hs0 hs1 hs5 ts
   refine Qz Qf ?_;subst hH
   (refine zG ?_;(repeat' ((with_reducible apply zBr)<;>intro h<;>refine zG ?_))<;>try exact .intro)
   all_goals first
    | (obtain ⟨j,rfl⟩:∃ j,i=j+1:=⟨i - 1,by omega⟩
       simp only [Nat.add_sub_cancel,Qjj Qfc] at *
       have sx:=Qnd x j
       have sy:=Qnd y j
       rw [hI] at sx)
    | skip
   ·have:x<y:=Nat.lt_of_not_le fun hle=>by
     have:=Nat.div_le_div_right (c:=D10 ^ j) hle
     omega
    (refine Qo (by intro g;simp only [go_sem,ren,Qk]) ?_)
    simp [Qdb,this]
   ·have:y<x:=Nat.lt_of_not_le fun hle=>by
     have:=Nat.div_le_div_right (c:=D10 ^ j) hle
     omega
    (refine Qo (by intro g;simp only [go_sem,ren,Qk]) ?_)
    simp [Qdb,this,Nat.not_lt.2 (Nat.le_of_lt this)]
   ·have hI':x/D10 ^ j=y/D10 ^ j:=by omega
    exact ⟨j,by omega,j,(by (repeat' apply And.intro)<;>(first | rfl | omega | (congr 1;omega) | assumption | (congr 1;assumption)))⟩
   ·obtain rfl:i=0:=by omega
    simp only [Nat.pow_zero,Nat.div_one] at hI
    (refine Qo (by intro g;simp only [go_sem,ren,Qk]) ?_)
    rw [hI];simp [Qdb]
  ·exact ⟨Xe x,Nat.le_refl _,by rw [Nat.div_eq_of_lt (Qb4 x),Nat.div_eq_of_lt (Qbo (by omega))],rfl,rfl,rfl,rfl,rfl,rfl⟩
theorem Qdt (x i:Nat) (hx:Xe x≤1000000000000) (hi:i≤2000000000000):Pu C 143 [DV x,.int .i64 (i:Nat)] (.int .i64 (x/D10 ^ i%D10:Nat)):=by
 have lx:(dg D10 x).length=Xe x:=rfl
 refine zK Qf Tryz.func143 w143 Tryz.ntmps143 Tryz.results143 ?_
 (refine zG ?_;(repeat' ((with_reducible apply zBr)<;>intro h<;>refine zG ?_))<;>try exact .intro)
 ·skip
  (refine Qo (by intro g;simp only [go_sem,ren,Qk]) ?_)
  rw [Qjj Qfc]
 ·skip
  (refine Qo (by intro g;simp only [go_sem,ren,Qk]) ?_)
  rw [Nat.div_eq_of_lt (Qbo (by omega))];rfl
theorem Qz3 (x y:Nat) (hx:Xe x≤1000000000000) (hy:Xe y≤1000000000000):Val C 107 [DV x,DV y] (DV (x+y)):=by
 have lx:(dg D10 x).length=Xe x:=rfl
 have ly:(dg D10 y).length=Xe y:=rfl
 refine zK Qf Tryz.func107 w107 Tryz.ntmps107 Tryz.results107 ?_;refine zG ?_;refine Qj (fun n ts H=>∃ (l:List Nat) (c:Nat) (u:V),(l.length≤1000000000001)∧(c≤1)∧(lv D10 l+D10 ^ l.length*c=x%D10 ^ l.length+y%D10 ^ l.length)∧((∀ d∈l,d<D10))∧((∀ k,l.length=k+1→D10 ^ k≤x+y))∧(l.length≤max (Xe x) (Xe y)∨c=0)∧(l.length≤max (Xe x) (Xe y)+1)∧(n=max (Xe x) (Xe y)+1 - l.length)∧(OwnD H u l)∧ts.length=42∧nth ts 0=DV x∧nth ts 1=DV y∧nth ts 5=u∧nth ts 6=.int .i64 (c:Nat)∧nth ts 7=.int .i64 (l.length:Nat)) ?_ (n:=max (Xe x) (Xe y)+1) ?_
 ·skip
  rintro n ts H ⟨l,c,u,hi,hc,hI,hdl,ht,hi2,hi3,hn,hu,hL,hs0,hs1,hs5,hs6,hs7⟩;refine Xc [(0,DV x),(1,DV y),(5,u),(6,.int .i64 (c:Nat)),(7,.int .i64 (l.length:Nat))] hL (by simp only [zFm,hs0,hs1,hs5,hs6,hs7,true_and];exact zNm) ?_
  clear hL hs0 hs1 hs5 hs6 hs7 ts
  refine Qz Qf ?_
  have step:(l.length<Xe x∨l.length<Xe y∨0<c)→∀ Q:Prop,(∀ d:Nat,d=x/D10 ^ l.length%D10+y/D10 ^ l.length%D10+c→d/D10≤1→lv D10 (l++[d%D10])+D10 ^ (l.length+1)*(d/D10)=x%D10 ^ (l.length+1)+y%D10 ^ (l.length+1)→D10 ^ l.length≤x+y→Q)→Q:=fun hcase Q hQ=>by
   refine hQ _ rfl ?_ ?_ ?_
   ·have h1:=Nat.mod_lt (x/D10 ^ l.length) (show 0<D10 by decide)
    have h2:=Nat.mod_lt (y/D10 ^ l.length) (show 0<D10 by decide)
    simp only [D10] at *;omega
   ·have:=Xoj (d:=x/D10 ^ l.length%D10+y/D10 ^ l.length%D10+c) hI
    rw [Qhj x,Qhj y];simp only [Nat.mul_add] at this;omega
   ·rcases hcase with h | h | h
    ·have:=Xbd h;omega
    ·have:=Xbd h;omega
    ·have h1:=mod_le x l.length
     have h2:=mod_le y l.length
     have h3:=Nat.mul_le_mul_left (D10 ^ l.length) (show 1≤c from h)
     omega
  by_cases hcase:l.length<Xe x∨l.length<Xe y∨0<c
  ·refine step hcase _ fun d hd h1 h2 h3=>?_
   have a1:=Nat.mod_lt (x/D10 ^ l.length) (show 0<D10 by decide)
   have a2:=Nat.mod_lt (y/D10 ^ l.length) (show 0<D10 by decide)
   have hdle:d≤20000:=by simp only [D10] at *;omega
   have e0:((x/D10 ^ l.length%D10:Nat):Int)+((y/D10 ^ l.length%D10:Nat):Int)+(c:Int)=(d:Int):=by omega
   have q0:l.length+1≤max (Xe x) (Xe y)∨d/D10=0:=by
    by_cases hm:l.length+1≤max (Xe x) (Xe y)
    ·exact .inl hm
    ·right;rw [Nat.div_eq_of_lt (Qbo (show Xe x≤l.length by omega)),Nat.div_eq_of_lt (Qbo (show Xe y≤l.length by omega))] at hd
     simp only [D10] at *;omega
   have hs1:=Qdt x l.length hx (by omega)
   have hs2:=Qdt y l.length hy (by omega)
   generalize x/D10 ^ l.length%D10=dx at *;generalize y/D10 ^ l.length%D10=dy at *
   have e1:((d:Int)%10000)=((d%D10:Nat):Int):=(Int.natCast_emod _ _).symm
   have e2:((d:Int)/10000)=((d/D10:Nat):Int):=(Int.natCast_ediv _ _).symm
   have hdx:dx≤10000:=by rw [D10] at a1;omega
   have hdy:dy≤10000:=by rw [D10] at a2;omega
   have hgo:l.length<Xe x∨(¬ l.length<Xe x∧l.length<Xe y)∨(¬ l.length<Xe x∧¬ l.length<Xe y∧0<c):=by omega
   have q1:(l++[d%D10]).length=l.length+1:=by simp
   have q0':(l++[d%D10]).length≤max (Xe x) (Xe y)∨d/D10=0:=by rw [q1];exact q0
   have q2:lv D10 (l++[d%D10])+D10 ^ (l++[d%D10]).length*(d/D10)=x%D10 ^ (l++[d%D10]).length+y%D10 ^ (l++[d%D10]).length:=by rw [q1];exact h2
   have q3:=Ql0 hdl (Nat.mod_lt d (show 0<D10 by decide))
   have q4:∀ k,(l++[d%D10]).length=k+1→D10 ^ k≤x+y:=fun k hk=>by
    rw [q1] at hk;obtain rfl:l.length=k:=by omega
    exact h3
   rcases hgo with h | ⟨h,h'⟩ | ⟨h,h',h''⟩
   all_goals
    refine zG ?_;refine Fc.pure hs1 (by simp [Qh,clo,Qm,DA,DV]) (fun g=>rfl) ?_
    refine zG ?_;refine Fc.pure hs2 (by simp [Qh,clo,Qm,DA,DV]) (fun g=>rfl) ?_
    refine zH3 e0 e1 e2 ?_;refine Qiq hu rfl ⟨by decide,by decide⟩ (by omega) fun v' H' hu' _=>?_
    refine zH3 e0 e1 e2 ?_;exact ⟨max (Xe x) (Xe y)+1 - (l.length+1),by omega,l++[d%D10],d/D10,v',(by (repeat' apply And.intro)<;>(first | rfl | omega | (congr 1;omega) | assumption | (congr 1;assumption)))⟩
  ·have hc0:c=0:=by omega
   subst hc0;refine zG ?_;rw [Qhk (show Xe x≤l.length by omega),Qhk (show Xe y≤l.length by omega),Nat.mul_zero,Nat.add_zero] at hI
   rw [DV,← Xnt hdl hI ht];exact (OwnD.gd hu).ret
 ·exact ⟨[],0,.nil,by simp,by omega,by simp [lv,Nat.mod_one],fun d hd=>(nomatch hd),fun k hk=>(nomatch hk),by simp,by simp,by simp,.nil ..,rfl,rfl,rfl,rfl,rfl,rfl⟩
end Go.Proofs.YtipmmjebfpbkmaaGreat
end
section
namespace Go.Proofs.YtipmmjebfpbkmaaGreat
open Go.Bv
theorem Xeb {i z:Nat} (h:D10 ^ i≤z):i<Xe z:=Nat.lt_of_not_le fun hle=>by
 have:=Qbo hle
 omega
theorem Qxd (x y:Nat) (hx:Xe x≤1000000000000) (hyx:y≤x):Val C 164 [DV x,DV y] (.tup [DV (x - y),.bool true]):=by
 have lx:(dg D10 x).length=Xe x:=rfl
 have ly:Xe y≤Xe x:=Kr hyx
 have hc:¬ Qdb x y<0:=by unfold Qdb;split<;>(try split)<;>omega
 refine zK Qf Tryz.func164 w164 Tryz.ntmps164 Tryz.results164 ?_;refine zG ?_;refine Fc.pure (Qo7 x y hx (by omega)) (by simp [Qh,clo,Qm]) (fun g=>rfl) ?_
 refine zG ?_;refine Qj (fun n ts H=>∃ (l:List Nat) (b:Nat) (u:V),(l.length≤Xe x)∧(b≤1)∧(lv D10 l+y%D10 ^ l.length=x%D10 ^ l.length+D10 ^ l.length*b)∧((∀ d∈l,d<D10))∧(n=Xe x - l.length)∧(OwnD H u l)∧ts.length=40∧nth ts 0=DV x∧nth ts 1=DV y∧nth ts 6=u∧nth ts 7=.int .i64 (b:Nat)∧nth ts 8=.int .i64 (l.length:Nat)) ?_ (n:=Xe x) ?_
 ·skip
  rintro n ts H ⟨l,b,u,hi,hb,hI,hdl,hn,hu,hL,hs0,hs1,hs6,hs7,hs8⟩;refine Xc [(0,DV x),(1,DV y),(6,u),(7,.int .i64 (b:Nat)),(8,.int .i64 (l.length:Nat))] hL (by simp only [zFm,hs0,hs1,hs6,hs7,hs8,true_and];exact zNm) ?_
  clear hL hs0 hs1 hs6 hs7 hs8 ts
  refine Qz Qf ?_;by_cases hcase:l.length<Xe x
  ·have a1:=Nat.mod_lt (x/D10 ^ l.length) (show 0<D10 by decide)
   have a2:=Nat.mod_lt (y/D10 ^ l.length) (show 0<D10 by decide)
   have sx:=Qhj x l.length
   have sy:=Qhj y l.length
   have hs:=Qdt y l.length (by omega) (by omega)
   have hgx:=Qjj Qfc x l.length
   obtain ⟨dx,hdx⟩:∃ d,d=x/D10 ^ l.length%D10:=⟨_,rfl⟩;obtain ⟨dy,hdy⟩:∃ d,d=y/D10 ^ l.length%D10:=⟨_,rfl⟩;rw [← hdx] at a1 sx hgx;rw [← hdy] at a2 sy hs
   have b1:dx<10000:=a1
   have b2:dy<10000:=a2
   refine zH1 hgx ?_;refine Pc.pure hs (by simp [Qh,clo,Qm]) (fun g=>rfl) ?_
   (refine zH1 hgx ?_;(repeat' ((with_reducible apply zBr)<;>intro h<;>refine zH1 hgx ?_))<;>try exact .intro)
   all_goals
    obtain ⟨e,he⟩:∃ e:Nat,e=(dx+10000 - dy - b)%10000:=⟨_,rfl⟩;obtain ⟨b',hb'⟩:∃ b':Nat,b'=if dx<dy+b then 1 else 0:=⟨_,rfl⟩
    have q1:(l++[e]).length=l.length+1:=by simp
    have q3:∀ d∈l++[e],d<D10:=Ql0 hdl (by rw [he];exact Nat.mod_lt _ (by decide))
    have q4:b'≤1:=by rw [hb'];split<;>omega
    have q2:lv D10 (l++[e])+y%D10 ^ (l++[e]).length=x%D10 ^ (l++[e]).length+D10 ^ (l++[e]).length*b':=by
     rw [q1,Qak,sx,sy,Nat.pow_succ,Nat.mul_assoc]
     have e1:e+dy+b=dx+D10*b':=by rw [he,hb',D10];split<;>omega
     have e2:D10 ^ l.length*e+D10 ^ l.length*dy+D10 ^ l.length*b=D10 ^ l.length*dx+D10 ^ l.length*(D10*b'):=by
      rw [← Nat.mul_add,← Nat.mul_add,← Nat.mul_add,e1]
     omega
   ·have ee:((dx:Int) - (dy:Int) - (b:Int)+10000)=(e:Int):=by rw [he];omega
    have eb:b'=1:=by rw [hb',if_pos (by omega)]
    refine zH1 ee ?_;refine Qiq hu rfl ⟨by decide,by decide⟩ (by omega) fun v' H' hu' _=>?_
    refine zG ?_;exact ⟨Xe x - (l.length+1),by omega,l++[e],b',v',(by (repeat' apply And.intro)<;>(first | rfl | omega | (congr 1;omega) | assumption | (congr 1;assumption)))⟩
   ·have ee:((dx:Int) - (dy:Int) - (b:Int))=(e:Int):=by rw [he];omega
    have eb:b'=0:=by rw [hb',if_neg (by omega)]
    refine zH1 ee ?_;refine Qiq hu rfl ⟨by decide,by decide⟩ (by omega) fun v' H' hu' _=>?_
    refine zG ?_;exact ⟨Xe x - (l.length+1),by omega,l++[e],b',v',(by (repeat' apply And.intro)<;>(first | rfl | omega | (congr 1;omega) | assumption | (congr 1;assumption)))⟩
  ·skip
   refine zG ?_;rw [Qhk (show Xe x≤l.length by omega),Qhk (show Xe y≤l.length by omega)] at hI
   have hlt:=Qkm hdl
   have hv:lv D10 l=x - y:=by
    have:b=0:=by
     rcases Nat.eq_zero_or_pos b with h | h
     ·exact h
     ·have:=Nat.mul_le_mul_left (D10 ^ l.length) h
      omega
    subst this;rw [Nat.mul_zero] at hI;omega
   refine (Qk9 hu (by omega)).mono ?_
   rintro u' H' ⟨rfl,hq⟩;refine zG ?_;refine Gd.ret (Gd.tupL ⟨?_,.leaf _ rfl rfl,trivial⟩);rw [← Qdx hdl hv];exact hq.gd hu
 ·exact ⟨[],0,.nil,by simp,by omega,by simp [lv,Nat.mod_one],fun d hd=>(nomatch hd),by simp,.nil ..,rfl,rfl,rfl,rfl,rfl,rfl⟩
theorem Qju (x d:Nat) (hx:Xe x≤1000000000000) (hd:d≤4294967296):Val C 165 [DV x,.int .i64 (d:Nat)] (DV (x*d)):=by
 have lx:(dg D10 x).length=Xe x:=rfl
 have hld:Xe d≤8:=Qa5 (Nat.lt_of_le_of_lt hd (by decide))
 have hlm:=Qo3 x d
 refine zK Qf Tryz.func165 w165 Tryz.ntmps165 Tryz.results165 ?_;refine zG ?_;refine Qj (fun n ts H=>∃ (l:List Nat) (c:Nat) (u:V),(l.length≤Xe x+20)∧(c≤d)∧(lv D10 l+D10 ^ l.length*c=(x%D10 ^ l.length)*d)∧((∀ d∈l,d<D10))∧(n=Xe x+20 - l.length)∧(OwnD H u l)∧ts.length=35∧nth ts 0=DV x∧nth ts 1=.int .i64 (d:Nat)∧nth ts 5=u∧nth ts 6=.int .i64 (c:Nat)∧nth ts 7=.int .i64 (l.length:Nat)) ?_ (n:=Xe x+20) ?_
 ·skip
  rintro n ts H ⟨l,c,u,hi,hc,hI,hdl,hn,hu,hL,hs0,hs1,hs5,hs6,hs7⟩;refine Xc [(0,DV x),(1,.int .i64 (d:Nat)),(5,u),(6,.int .i64 (c:Nat)),(7,.int .i64 (l.length:Nat))] hL (by simp only [zFm,hs0,hs1,hs5,hs6,hs7,true_and];exact zNm) ?_
  clear hL hs0 hs1 hs5 hs6 hs7 ts
  refine Qz Qf ?_;by_cases hcase:l.length<Xe x∨0<c
  ·have hli:l.length<Xe x+8:=by
    rcases hcase with h | h
    ·omega
    ·have h1:=Nat.mul_le_mul_right d (mod_le x l.length)
     have h3:=Nat.mul_le_mul_left (D10 ^ l.length) (show 1≤c from h)
     have:=Xeb (i:=l.length) (z:=x*d) (by omega)
     omega
   have a1:=Nat.mod_lt (x/D10 ^ l.length) (show 0<D10 by decide)
   have sx:=Qhj x l.length
   have hs:=Qdt x l.length hx (by omega)
   have hz:¬ l.length<Xe x→x/D10 ^ l.length%D10=0:=fun h=>by rw [Nat.div_eq_of_lt (Qbo (by omega))];rfl
   obtain ⟨dx,hdx⟩:∃ d,d=x/D10 ^ l.length%D10:=⟨_,rfl⟩;rw [← hdx] at a1 sx hs hz
   have b1:dx<10000:=a1
   obtain ⟨z,hzz⟩:∃ z,z=dx*d+c:=⟨_,rfl⟩
   have hm:dx*d≤9999*d:=Nat.mul_le_mul_right d (by omega)
   have e0:((dx:Int)*(d:Int))=((dx*d:Nat):Int):=(Int.natCast_mul _ _).symm
   have e3:((dx*d:Nat):Int)+(c:Int)=(z:Int):=by rw [hzz];exact (Int.natCast_add _ _).symm
   have e1:((z:Int)%10000)=((z%D10:Nat):Int):=(Int.natCast_emod _ _).symm
   have e2:((z:Int)/10000)=((z/D10:Nat):Int):=(Int.natCast_ediv _ _).symm
   have hzl:z≤10000*d:=by omega
   have q0:z/D10≤d:=by rw [D10];omega
   have hI2:lv D10 (l++[z%D10])+D10 ^ (l.length+1)*(z/D10)=(x%D10 ^ (l.length+1))*d:=by
    have:=Xoj (d:=z) hI
    rw [sx,Nat.add_mul]
    have e4:D10 ^ l.length*z=D10 ^ l.length*dx*d+D10 ^ l.length*c:=by rw [hzz,Nat.mul_add,Nat.mul_assoc]
    omega
   generalize dx*d=dxd at *
   have q1:(l++[z%D10]).length=l.length+1:=by simp
   have q3:∀ e∈l++[z%D10],e<D10:=Ql0 hdl (Nat.mod_lt _ (by decide))
   have q2:lv D10 (l++[z%D10])+D10 ^ (l++[z%D10]).length*(z/D10)=(x%D10 ^ (l++[z%D10]).length)*d:=by rw [q1];exact hI2
   have hgo:l.length<Xe x∨(¬ l.length<Xe x∧0<c):=by omega
   rcases hgo with h | ⟨h,h'⟩
   all_goals
    refine zG ?_;refine Fc.pure hs (by simp [Qh,clo,Qm]) (fun g=>rfl) ?_
    refine zH4 e0 e1 e2 e3 ?_;refine Qiq hu rfl ⟨by decide,by decide⟩ (by omega) fun v' H' hu' _=>?_
    refine zH3 e1 e2 e3 ?_;exact ⟨Xe x+20 - (l.length+1),by omega,l++[z%D10],z/D10,v',(by (repeat' apply And.intro)<;>(first | rfl | omega | (congr 1;omega) | assumption | (congr 1;assumption)))⟩
  ·have hc0:c=0:=by omega
   subst hc0;refine zG ?_;rw [Qhk (show Xe x≤l.length by omega),Nat.mul_zero,Nat.add_zero] at hI
   refine (Qk9 hu (by omega)).mono ?_
   rintro u' H' ⟨rfl,hq⟩;refine zG ?_;refine Gd.ret ?_;rw [← Qdx hdl hI];exact hq.gd hu
 ·exact ⟨[],0,.nil,by simp,by omega,by simp [lv,Nat.mod_one],fun d hd=>(nomatch hd),by simp,.nil ..,rfl,rfl,rfl,rfl,rfl,rfl⟩
theorem Qjz (x d:Nat) (hx:Xe x≤1000000000000) (hd:d≤4294967296) (hd0:0<d):Val C 130 [DV x,.int .i64 (d:Nat)] (.tup [DV (x/d),.int .i64 (x%d:Nat)]):=by
 have lx:(dg D10 x).length=Xe x:=rfl
 refine zK Qf Tryz.func130 w130 Tryz.ntmps130 Tryz.results130 ?_;refine zG ?_;refine Qe6 rfl rfl rfl rfl (by simp [t3bytes]) (by omega) ?_
 refine zG ?_;refine Qj (fun n ts H=>∃ (m:Nat) (r:Nat) (Q:List Nat),(m≤Xe x)∧(Q.length=Xe x)∧((∀ e∈Q,e<D10))∧(r<d)∧(lv D10 (Q.drop m)*d+r=x/D10 ^ m)∧(n=m)∧(H=[some ⟨3,1,Xh .i64 Q⟩])∧ts.length=39∧nth ts 0=DV x∧nth ts 1=.int .i64 (d:Nat)∧nth ts 6=.ref 0 0 (Xe x)∧nth ts 7=.int .i64 (r:Nat)∧nth ts 8=.int .i64 ((m:Int) - 1)) ?_ (n:=Xe x) ?_
 ·skip
  rintro n ts H ⟨m,r,Q,hm,hQl,hQ,hr,hinv,hn,hH,hL,hs0,hs1,hs6,hs7,hs8⟩;refine Xc [(0,DV x),(1,.int .i64 (d:Nat)),(6,.ref 0 0 (Xe x)),(7,.int .i64 (r:Nat)),(8,.int .i64 ((m:Int) - 1))] hL (by simp only [zFm,hs0,hs1,hs6,hs7,hs8,true_and];exact zNm) ?_
  clear hL hs0 hs1 hs6 hs7 hs8 ts
  refine Qz Qf ?_;subst hH;by_cases hcase:0<m
  ·obtain ⟨k,rfl⟩:∃ k,m=k+1:=⟨m - 1,by omega⟩
   have sx:=Qnd x k
   have a1:=Nat.mod_lt (x/D10 ^ k) (show 0<D10 by decide)
   have hgx:=Qjj Qfc x k
   obtain ⟨dx,hdx⟩:∃ e,e=x/D10 ^ k%D10:=⟨_,rfl⟩;rw [← hdx] at a1 sx hgx
   have b1:dx<10000:=a1
   obtain ⟨z,hz⟩:∃ z,z=r*10000+dx:=⟨_,rfl⟩
   have e0:((r:Int)*10000+(dx:Int))=(z:Int):=by rw [hz];omega
   have e1:((z:Int)/(d:Int))=((z/d:Nat):Int):=(Int.natCast_ediv _ _).symm
   have e2:((z:Int)%(d:Int))=((z%d:Nat):Int):=(Int.natCast_emod _ _).symm
   have hq:z/d<10000:=by
    rw [Nat.div_lt_iff_lt_mul hd0,hz]
    have:=Nat.mul_le_mul_right 10000 (show r+1≤d from hr)
    rw [Nat.add_mul] at this;omega
   have hs:=Nat.mod_lt z hd0
   have hdm:=Nat.div_add_mod z d
   have hkk:((k+1:Nat):Int) - 1=(k:Int):=by omega
   have q1:(Q.set k (z/d)).length=Xe x:=by rw [List.length_set];exact hQl
   have q2:∀ e∈Q.set k (z/d),e<D10:=fun e he=>by
    rcases List.mem_or_eq_of_mem_set he with h1 | h1
    ·exact hQ e h1
    ·rw [h1];exact hq
   have q3:lv D10 ((Q.set k (z/d)).drop k)*d+z%d=x/D10 ^ k:=by
    rw [Qds (l:=Q.set _ _) (by rw [List.length_set];omega),Qfj (by omega),Kx (by omega),sx,← hinv]
    generalize lv D10 (Q.drop (k+1))=w at *;generalize z/d=q at *;generalize z%d=s at *;rw [Nat.add_mul,Nat.mul_comm q d]
    have:D10*(w*d+r)=D10*w*d+D10*r:=by rw [Nat.mul_add,Nat.mul_assoc]
    rw [this]
    have:D10*r=r*10000:=Nat.mul_comm _ _
    omega
   generalize z/d=q at *;generalize z%d=s at *;refine zH6 hkk hgx e0 e1 e2 Qac ?_;exact ⟨k,by omega,k,s,Q.set k q,(by (repeat' apply And.intro)<;>(first | rfl | omega | (congr 1;omega) | assumption | (congr 1;assumption)))⟩
  ·obtain rfl:m=0:=by omega
   refine zG ?_;simp only [List.drop_zero,Nat.pow_zero,Nat.div_one] at hinv
   have hqv:lv D10 Q=x/d:=by rw [← hinv,Nat.mul_comm,Nat.mul_add_div hd0,Nat.div_eq_of_lt hr,Nat.add_zero]
   have hrv:x%d=r:=by rw [← hinv,Nat.mul_comm,Nat.mul_add_mod,Nat.mod_eq_of_lt hr]
   have hu:OwnD [some ⟨3,1,Xh .i64 Q⟩] (.ref 0 0 (Xe x)) Q:=.inr ⟨0,by rw [hQl],rfl,by simp [Zh]⟩
   refine (Qk9 hu (by omega)).mono ?_
   rintro u' H' ⟨rfl,hq⟩;refine zG ?_;refine Gd.ret (Gd.tupL ⟨?_,by rw [hrv];exact .leaf _ rfl rfl,trivial⟩)
   rw [← Qdx hQ hqv];rw [← hQl] at hq hu;exact hq.gd hu
 ·refine ⟨Xe x,0,List.replicate (Xe x) 0,Nat.le_refl _,by simp,fun x hx=>by simp at hx;rw [hx.2];decide,hd0,by rw [Nat.div_eq_of_lt (Qb4 x)];simp [lv],rfl,rfl,rfl,rfl,rfl,rfl,rfl,rfl⟩
theorem Qoj (x:Nat) (hx:Xe x≤100000000000):Val C 85 [DV x] (Xu x):=by
 have hlx:=Qjd x
 refine zK Qf Tryz.func85 w85 Tryz.ntmps85 Tryz.results85 ?_;refine zG ?_;refine Qj (fun n ts H=>∃ (z:Nat) (l:List Nat) (u:V),(z≤x)∧(dg B32 x=l++dg B32 z)∧(n=z)∧(Bv.Own 162 1 H u l.length (Xh .u32 l))∧ts.length=32∧nth ts 0=DV z∧nth ts 3=u) ?_ (n:=x) ?_
 ·skip
  rintro n ts H ⟨z,l,u,hz,hd,hn,hu,hL,hs0,hs3⟩;refine Xc [(0,DV z),(3,u)] hL (by simp only [zFm,hs0,hs3,true_and];exact zNm) ?_
  clear hL hs0 hs3 ts
  refine Qz Qf ?_
  have lz:(dg D10 z).length=Xe z:=rfl
  have hz1:=Kr hz
  have hz2:=Kr (show z/65536≤z from Nat.div_le_self _ _)
  have hlen:=congrArg List.length hd
  rw [List.length_append] at hlen
  have hlx':(dg B32 x).length≤Xe x:=hlx
  by_cases hcase:0<z
  ·have hz0:Xe z≠0:=fun h=>by have:=dlen_zero.1 h;omega
   refine zG ?_;refine (Qjz z 65536 (by omega) (by decide) (by decide)).call ⟨.self (Zu _),.self rfl,trivial⟩ (by simp [clo,Qh,Zu]) ?_
   refine zG ?_;refine (Qjz (z/65536) 65536 (by omega) (by decide) (by decide)).call ⟨.self (Zu _),.self rfl,trivial⟩ (by simp [clo,Qh,Zu]) ?_
   have b1:=Nat.mod_lt z (show 0<65536 by decide)
   have b2:=Nat.mod_lt (z/65536) (show 0<65536 by decide)
   have e1:z/65536/65536=z/B32:=by rw [Nat.div_div_eq_div_mul];rfl
   have e2:z/65536%65536*65536+z%65536=z%B32:=by
    rw [show B32=65536*65536 from rfl,Nat.mod_mul];omega
   have hlt:z/B32<z:=Nat.div_lt_self hcase (by decide)
   have hdd:dg B32 x=(l++[z%B32])++dg B32 (z/B32):=by rw [List.append_assoc,hd,Qer (by decide) hcase];rfl
   rw [e1];generalize z/65536%65536=y1 at *;generalize z%65536=y0 at *;generalize z/B32=z' at *;obtain ⟨w,hw⟩:∃ w,w=z%B32:=⟨_,rfl⟩;rw [← hw] at hdd e2
   have e3:((y1:Int)*65536+(y0:Int))=(w:Int):=by omega
   refine zH1 e3 ?_;refine Qiq hu rfl ⟨by decide,by decide⟩ (by omega) fun v' H' hu' _=>?_
   refine zH1 e3 ?_;exact ⟨z',by omega,z',l++[w],v',(by (repeat' apply And.intro)<;>(first | rfl | omega | (congr 1;omega) | assumption | (congr 1;assumption)))⟩
  ·obtain rfl:z=0:=by omega
   have hz0:Xe 0=0:=dlen_zero.2 rfl
   rw [Yw,List.append_nil] at hd;refine zG ?_;rw [Xu,hd];exact (Own.gd hu (Qm _ _) (Zf _ _)).ret
 ·exact ⟨x,[],.nil,Nat.le_refl _,rfl,rfl,.nil ..,rfl,rfl,rfl⟩
theorem Qmd {H0:Qb} {v:V} {l:List Nat} (hO:OwnD H0 v l) (hl:l.length≤2000000000000):Fc C 162 [v] H0 fun u H'=>H'=H0∧TrimQ v l u:=by
 rcases hO with ⟨rfl,h2,h3⟩ | ⟨r,rfl,hr,hlen⟩
 ·have:l=[]:=List.length_eq_zero_iff.1 h2
  subst this;refine zL Qf Tryz.func162 w162 Tryz.ntmps162 Tryz.results162 ?_;refine zG ?_;refine Qj (fun n ts H=>(n=0)∧(H=H0)∧ts.length=21∧nth ts 0=.nil∧nth ts 3=.int .i64 0) ?_ (n:=0) ?_
  ·skip
   rintro n ts H ⟨hn,hH,hL,hs0,hs3⟩;refine Xc [(0,.nil),(3,.int .i64 0)] hL (by simp only [zFm,hs0,hs3,true_and];exact zNm) ?_
   clear hL hs0 hs3 ts
   refine Qz Qf ?_;subst hH;refine zG ?_;exact .inl ⟨rfl,rfl⟩
  ·exact ⟨rfl,rfl,rfl,rfl,rfl⟩
 ·skip
  refine zL Qf Tryz.func162 w162 Tryz.ntmps162 Tryz.results162 ?_;refine zH1 hr ?_;refine Qj (fun n ts H=>∃ (m:Nat),(m≤l.length)∧(Yx (l.take m)=Yx l)∧(n=m)∧(H=H0)∧ts.length=21∧nth ts 0=.ref r 0 l.length∧nth ts 3=.int .i64 (m:Nat)) ?_ (n:=l.length) ?_
  ·skip
   rintro n ts H ⟨m,hm,ht,hn,hH,hL,hs0,hs3⟩;refine Xc [(0,.ref r 0 l.length),(3,.int .i64 (m:Nat))] hL (by simp only [zFm,hs0,hs3,true_and];exact zNm) ?_
   clear hL hs0 hs3 ts
   refine Qz Qf ?_;subst hH
   (refine zH1 hr ?_;(repeat' ((with_reducible apply zBr)<;>intro h<;>refine zH1 hr ?_))<;>try exact .intro)
   ·obtain ⟨m,rfl⟩:∃ k,m=k+1:=⟨m - 1,by omega⟩
    rw [Qbt (by omega)] at ht
    simp only [Nat.add_sub_cancel] at h;rw [if_pos (by omega)] at ht
    exact ⟨m,by omega,m,(by (repeat' apply And.intro)<;>(first | rfl | omega | (congr 1;omega) | assumption | (congr 1;assumption)))⟩
   ·obtain ⟨m,rfl⟩:∃ k,m=k+1:=⟨m - 1,by omega⟩
    rw [Qbt (by omega)] at ht
    simp only [Nat.add_sub_cancel] at h;rw [if_neg (by omega)] at ht
    refine Qhb (.inr ⟨r,rfl,hr,hlen⟩) (by simp [t3ok]) (by simp [t3size]) hm (fun h0=>by omega) (fun h0=>by omega) fun q h0 hv=>?_
    refine zG ?_;exact .inr (.inr ⟨q,hv,by rw [ht]⟩)
   ·obtain rfl:m=0:=by omega
    refine Qhb (.inr ⟨r,rfl,hr,hlen⟩) (by simp [t3ok]) (by simp [t3size]) hm (fun h0 hv=>nomatch hv) (fun h0 hv=>?_) fun q h0 hv=>by omega
    refine zG ?_;exact .inr (.inl ⟨rfl,by rw [← ht];rfl⟩)
  ·exact ⟨l.length,Nat.le_refl _,by rw [List.take_length],rfl,rfl,rfl,rfl,rfl⟩
theorem Gd.elems_nats {H:Qb} {v:V} {k:IntKind} {l:List Nat} {y:Ty} (hy:y.size=1) (h:Gd H v (.sl l.length (Xh k l))):Ka y v H=some (l.length,Xh k l):=by
 generalize hu:V.sl l.length (Xh k l)=u at h;cases h with
 | leaf v hc hp=>subst hu;rfl
 | nil cs =>
  injection hu with h1 h2
  have:l=[]:=List.length_eq_zero_iff.1 h1
  subst this;rfl
 | ref r n row cs hr hp hl h =>
  injection hu with h1 h2
  subst h1 h2;simp only [Ka,hr,hy,Nat.mul_one,List.drop_zero,Option.some.injEq,Prod.mk.injEq,true_and];rw [Zh] at hl h;refine List.ext_getElem (by rw [List.length_take,Zh];omega) fun i h1 h2=>?_
  rw [Zh] at h2
  have h3:=h i h2
  rw [Qki _ _ h2] at h3
  have h4:=h3.int_inv
  rw [Ze] at h4;rw [List.getElem_take]
  have h5:row.cs.getD i .any=row.cs[i]'(by omega):=by simp [List.getD,show i<row.cs.length by omega]
  rw [← h5,h4];simp [Xh,List.getD,h2]
 | agg l m hl h=>cases hu
 | tup l m hl h=>cases hu
theorem Own.set_ne {e s q:Nat} {H:Qb} {v:V} {n:Nat} {cs:List V} (h:Bv.Own e s H v n cs) (hne:∀ off n,v≠.ref q off n) (z:Option Row):Bv.Own e s (H.set q z) v n cs:=by
 rcases h with h | ⟨r,rfl,h2,h3⟩
 ·exact .inl h
 ·exact .inr ⟨r,rfl,by rw [Qe _ (fun e=>hne 0 n (by rw [e]))];exact h2,h3⟩
theorem Qs9 (r b:Nat) (hr:Xe r≤1000000000000) (hb:Xe b≤100000000000) (h0:0<b) (hrb:r<b*D10):Pu C 163 [DV r,DV b] (.int .i64 (r/b:Nat)):=by
 have hq:r/b<10000:=Nat.div_lt_of_lt_mul hrb
 refine zK Qf Tryz.func163 w163 Tryz.ntmps163 Tryz.results163 ?_;refine zG ?_;refine Qj (fun n ts H=>∃ (lo:Nat) (hi:Nat),(lo≤r/b)∧(r/b<hi)∧(hi≤10000)∧(H=[])∧(n=hi - lo)∧ts.length=25∧nth ts 0=DV r∧nth ts 1=DV b∧nth ts 5=.int .i64 (lo:Nat)∧nth ts 6=.int .i64 (hi:Nat)) ?_ (n:=10000) ?_
 ·skip
  rintro n ts H ⟨lo,hi,h1,h2,h3,hH,hn,hL,hs0,hs1,hs5,hs6⟩;refine Xc [(0,DV r),(1,DV b),(5,.int .i64 (lo:Nat)),(6,.int .i64 (hi:Nat))] hL (by simp only [zFm,hs0,hs1,hs5,hs6,true_and];exact zNm) ?_
  clear hL hs0 hs1 hs5 hs6 ts
  refine Qz Qf ?_;subst hH;by_cases hcase:1<hi - lo
  ·obtain ⟨m,hm⟩:∃ m,m=(lo+hi)/2:=⟨_,rfl⟩
   have e1:(((lo:Int)+(hi:Int))/2)=(m:Int):=by omega
   have hml:=Qo3 b m
   have hmd:Xe m≤2:=Qa5 (Nat.lt_of_lt_of_le (show m<10000 by omega) (by decide))
   have hle:b*m≤r↔m≤r/b:=by rw [Nat.le_div_iff_mul_le h0,Nat.mul_comm]
   have hcm:Qdb (b*m) r≤0↔m≤r/b:=by rw [← hle];unfold Qdb;split<;>(try split)<;>omega
   refine zH1 e1 ?_;refine (Qju b m (by omega) (by omega)).call ⟨.self (Zu _),.self rfl,trivial⟩ (Zu _) ?_
   refine zH1 e1 ?_;refine Fc.pure (Qo7 (b*m) r (by omega) hr) (by simp [Qh,clo,Qm]) (fun g=>rfl) ?_
   (refine zH1 e1 ?_;(repeat' ((with_reducible apply zBr)<;>intro h<;>refine zH1 e1 ?_))<;>try exact .intro)
   ·have h:=hcm.1 h
    exact ⟨hi - m,by omega,m,hi,(by (repeat' apply And.intro)<;>(first | rfl | omega | (congr 1;omega) | assumption | (congr 1;assumption)))⟩
   ·have h:=fun hh=>h (hcm.2 hh)
    exact ⟨m - lo,by omega,lo,m,(by (repeat' apply And.intro)<;>(first | rfl | omega | (congr 1;omega) | assumption | (congr 1;assumption)))⟩
  ·skip
   refine zG ?_
   (refine Qo (by intro g;simp only [go_sem,ren,Qk]) ?_)
   congr 2;omega
 ·exact ⟨0,10000,Nat.zero_le _,hq,Nat.le_refl _,rfl,rfl,rfl,rfl,rfl,rfl,rfl⟩
theorem Qfl (x y:Nat) (hx:Xe x≤100000000000) (hy:Xe y≤100000000000) (h0:0<y):Val C 132 [DV x,DV y] (.tup [DV (x/y),DV (x%y)]):=by
 have lx:(dg D10 x).length=Xe x:=rfl
 refine zK Qf Tryz.func132 w132 Tryz.ntmps132 Tryz.results132 ?_;refine zG ?_;refine Qe6 rfl rfl rfl rfl (by simp [t3bytes]) (by omega) ?_
 refine zG ?_;refine Qj (fun n ts H=>∃ (m:Nat) (Q:List Nat) (r:V),(m≤Xe x)∧(Q.length=Xe x)∧((∀ e∈Q,e<D10))∧(Gd H r (DV (x/D10 ^ m%y)))∧(lv D10 (Q.drop m)=x/D10 ^ m/y)∧(n=m)∧(Qc H 0=some ⟨3,1,Xh .i64 Q⟩)∧ts.length=49∧nth ts 0=DV x∧nth ts 1=DV y∧nth ts 6=.ref 0 0 (Xe x)∧nth ts 7=r∧nth ts 8=.int .i64 ((m:Int) - 1)) ?_ (n:=Xe x) ?_
 ·skip
  rintro n ts H ⟨m,Q,r,hm,hQl,hQ,hG,hinv,hn,hrq,hL,hs0,hs1,hs6,hs7,hs8⟩;refine Xc [(0,DV x),(1,DV y),(6,.ref 0 0 (Xe x)),(7,r),(8,.int .i64 ((m:Int) - 1))] hL (by simp only [zFm,hs0,hs1,hs6,hs7,hs8,true_and];exact zNm) ?_
  clear hL hs0 hs1 hs6 hs7 hs8 ts
  refine Qz Qf ?_;by_cases hcase:0<m
  ·obtain ⟨k,rfl⟩:∃ k,m=k+1:=⟨m - 1,by omega⟩
   have hkk:((k+1:Nat):Int) - 1=(k:Int):=by omega
   have sx:=Qnd x k
   have a1:=Nat.mod_lt (x/D10 ^ k) (show 0<D10 by decide)
   have hgx:=Qjj Qfc x k
   obtain ⟨dx,hdx⟩:∃ e,e=x/D10 ^ k%D10:=⟨_,rfl⟩;rw [← hdx] at a1 sx hgx
   have b1:dx<10000:=a1
   have hRy:=Nat.mod_lt (x/D10 ^ (k+1)) h0
   obtain ⟨R,hR⟩:∃ R,R=x/D10 ^ (k+1)%y:=⟨_,rfl⟩;rw [← hR] at hG hRy
   have hRl:=Kr (Nat.le_of_lt hRy)
   have lR:(dg D10 R).length=Xe R:=rfl
   refine zH2 hkk hgx ?_;refine Qh0 (n:=1) (m:=Xe R) (cs:=[.int .i64 (dx:Nat)]) (news:=Xh .i64 (dg D10 R)) (.inr ⟨_,rfl,Xo _ _,rfl⟩) (Gd.elems_nats (by simp [t3size]) (hG.more (Keep.app _ _))) (by simp [Zh,t3size,lR]) (Qf3 _ _) (by simp [t3size]) (by simp [t3bytes]) (by simp only [t3bytes];omega) rfl fun v' H' hv' hFr _ hform=>?_
   have hv2:OwnD H' v' (dx::dg D10 R):=by
    have:([V.int .i64 (dx:Nat)]++Xh .i64 (dg D10 R))=Xh .i64 (dx::dg D10 R):=rfl
    rw [this] at hv'
    have e:1+Xe R=(dx::dg D10 R).length:=by rw [List.length_cons,lR];omega
    rw [e] at hv';exact hv'
   have hH:0<H.length:=Xg hrq
   have hrq1:Qc H' 0=some ⟨3,1,Xh .i64 Q⟩:=hFr 0 _ (fun off n e=>by injection e with e;omega) (Qd hrq _)
   refine zH2 hkk hgx ?_;refine (Qmd hv2 (by rw [List.length_cons,lR];omega)).mono ?_
   rintro u H2 ⟨rfl,hq⟩
   have hdl:∀ e∈dx::dg D10 R,e<D10:=fun e he=>by
    rcases List.mem_cons.1 he with rfl | he
    ·exact a1
    ·exact Xjy Qfc R e he
   have hval:lv D10 (dx::dg D10 R)=dx+D10*R:=by rw [lv,Qq6 Qfc]
   have hGu:Gd H2 u (DV (dx+D10*R)):=by rw [← Qdx hdl hval];exact hq.gd hv2
   have hlt:dx+D10*R<y*D10:=by
    have:=Nat.mul_le_mul_left D10 (show R+1≤y from hRy)
    rw [Nat.mul_add,Nat.mul_one,Nat.mul_comm D10 y] at this;omega
   have hlz:Xe (dx+D10*R)≤Xe y+3:=by
    have h1:=Kr (Nat.le_of_lt hlt)
    have h2:=Qo3 y D10
    have h3:Xe D10≤2:=Qa5 (by decide)
    omega
   have hsp:x/D10 ^ k=(dx+D10*R)+y*(D10*(x/D10 ^ (k+1)/y)):=by
    have hdm:=Nat.div_add_mod (x/D10 ^ (k+1)) y
    rw [← hR] at hdm
    have e:D10*(x/D10 ^ (k+1))=D10*R+y*(D10*(x/D10 ^ (k+1)/y)):=by
     rw [Nat.mul_left_comm y,← Nat.mul_add,Nat.add_comm R,hdm]
    omega
   have hX:x/D10 ^ k/y=(dx+D10*R)/y+D10*(x/D10 ^ (k+1)/y):=by
    rw [hsp,Nat.add_mul_div_left _ _ h0]
   have hXm:x/D10 ^ k%y=(dx+D10*R)%y:=by
    rw [hsp,Nat.add_mul_mod_self_left]
   have hql:(dx+D10*R)/y<10000:=Nat.div_lt_of_lt_mul hlt
   have hmod:(dx+D10*R)%y=(dx+D10*R) - y*((dx+D10*R)/y):=by
    have:=Nat.div_add_mod (dx+D10*R) y
    omega
   have hdle:y*((dx+D10*R)/y)≤dx+D10*R:=Nat.mul_div_le _ _
   generalize dx+D10*R=z at *;refine zH2 hkk hgx ?_;refine Fc.pureL (Qs9 z y (by omega) hy h0 hlt) ⟨hGu.bor,.self (Zu _),trivial⟩ (fun g=>rfl) rfl ?_
   obtain ⟨q,hqq⟩:∃ q,q=z/y:=⟨_,rfl⟩;rw [← hqq] at hX hql hmod hdle ⊢
   have q1:(Q.set k q).length=Xe x:=by rw [List.length_set];exact hQl
   have q2:∀ e∈Q.set k q,e<D10:=fun e he=>by
    rcases List.mem_or_eq_of_mem_set he with h1 | h1
    ·exact hQ e h1
    ·rw [h1];exact hql
   have q3:lv D10 ((Q.set k q).drop k)=x/D10 ^ k/y:=by
    rw [Qds (l:=Q.set _ _) (by rw [List.length_set];omega),Qfj (by omega),Kx (by omega),hinv,hX]
   refine zH4 hkk hgx hrq1 Qac ?_;refine (Qju y q (by omega) (by omega)).call ⟨.self (Zu _),.self rfl,trivial⟩ (Zu _) ?_
   have hv3:=fun z=>Own.set_ne (q:=0) hv2 (fun off n e=>by obtain ⟨r,hr⟩:=hform;rw [hr] at e;injection e with e;rw [List.length_append] at e;simp at e) z
   have hGu3:∀ zz,Gd (H2.set 0 zz) u (DV z):=fun zz=>by rw [← Qdx hdl hval];exact hq.gd (hv3 zz)
   have hyq:Xe (y*q)≤1000000000000:=by
    have:=Kr hdle
    omega
   refine zH4 hkk hgx hrq1 Qac ?_;refine (Qxd z (y*q) (by omega) hdle).kept ⟨(hGu3 _).bor,.self (Zu _),trivial⟩ fun v X hv=>?_
   rw [← hmod,← hXm] at hv;obtain ⟨w1,w2,rfl,hw1,hw2⟩:=hv.tup2
   have hrq2:=Qd (Qg (row':=(⟨3,1,Xh .i64 (Q.set k q)⟩:Row)) hrq1) X
   refine zH4 hkk hgx hrq1 Qac ?_;exact ⟨k,by omega,k,Q.set k q,w1,(by (repeat' apply And.intro)<;>(first | rfl | omega | (congr 1;omega) | assumption | (congr 1;assumption)))⟩
  ·obtain rfl:m=0:=by omega
   simp only [List.drop_zero,Nat.pow_zero,Nat.div_one] at hinv hG;refine zG ?_
   have hu:OwnD H (.ref 0 0 (Xe x)) Q:=.inr ⟨0,by rw [hQl],hrq,by simp [Zh]⟩
   refine (Qmd hu (by omega)).mono ?_
   rintro u' H' ⟨rfl,hq⟩;refine zG ?_;refine Gd.ret (Gd.tupL ⟨?_,hG,trivial⟩);rw [← Qdx hQ hinv];rw [← hQl] at hq hu;exact hq.gd hu
 ·refine ⟨Xe x,List.replicate (Xe x) 0,.nil,Nat.le_refl _,by simp,fun x hx=>by rw [(List.mem_replicate.1 hx).2];decide, ?_, ?_,rfl,rfl,rfl,rfl,rfl,rfl,rfl,rfl⟩
  ·rw [Nat.div_eq_of_lt (Qb4 x),Nat.zero_mod,DV,Yw];exact .nil _
  ·rw [Nat.div_eq_of_lt (Qb4 x),Nat.zero_div];simp [lv]
theorem Qg7 (l:List Nat) (hl:l.length≤17592186044416) (hL:Lim l):Val C 156 [NA l] (Xu (lv B32 l)):=Val.ofN (Qir l hl hL)
theorem Xaq (a:List Nat) (n:Nat) (ha:a.length≤4398046511104) (hA:Lim a) (hn:n≤70368744177664):Val C 205 [NA a,.int .i64 (n:Nat)] (Xu (lv B32 a*2 ^ n)):=Val.ofN (Xk2 a n ha hA hn)
theorem IsN.isL {v:V} {H:Qb} {x:Nat} (h:IsN v H x):IsL 162 1 H v (dg B32 x).length (Xh .u32 (dg B32 x)):=IsZ.isL h
theorem IsN.bor {v:V} {H:Qb} {x:Nat} (h:IsN v H x):Bor H v (Xu x):=h.isL.bor (Qm _ _)
theorem IsN.keep {v:V} {H:Qb} {x:Nat} (h:IsN v H x) (X:Qb):IsN v (H++X) x:=by
 rcases h with h | h
 ·exact .inl h
 ·exact .inr (h.keep X)
theorem IsN.len {v:V} {H:Qb} {x:Nat} (h:IsN v H x) (y:Ty) (K:V→Prop):lenw y v K=(y.sl.isSome=true∧K (.int .i64 ((dg B32 x).length:Nat))):=h.isL.lenw y K
theorem Qth (a b:List Nat) (ha:a.length≤8796093022208) (hb:b.length≤8796093022208) (hA:Lim a) (hB:Lim b):Val C 185 [NA a,NA b] (.int .i64 (Qdb (lv B32 a) (lv B32 b))):=Val.ofPu (Qw4 a b ha hb hA hB) rfl rfl
theorem Qcw {l:List Nat} (hL:Lim l):(dg B32 (lv B32 l)).length≤l.length:=Xn (by decide) _ _ (Qal hL)
theorem Qqp (k:IntKind):∀ (l xs:List Nat) (off:Nat),off+l.length≤xs.length→Qa2 (Xh k xs) off (Xh k l)=Xh k (xs.take off++l++xs.drop (off+l.length))
 | [],xs,off,h=>by simp [Xh,Qa2,List.take_append_drop]
 | v::l,xs,off,h=>by
  have e:Xh k (v::l)=.int k (v:Nat)::Xh k l:=rfl
  simp only [List.length_cons] at h ⊢;rw [e,Qa2,Qac,Qqp k l _ _ (by rw [List.length_set];omega)]
  congr 1
  have e1:(xs.set off v).take (off+1)=xs.take off++[v]:=by
   rw [List.take_add_one,Qc0 (Nat.le_refl _)];simp [show off<xs.length by omega]
  rw [e1,Kx (by omega),show off+1+l.length=off+(l.length+1) by omega]
  simp
theorem Xcz (k:IntKind) (l:List Nat) (n:Nat) (h:l.length≤n):Qa2 (Xh k (List.replicate n 0)) 0 (Xh k l)=Xh k (l++List.replicate (n - l.length) 0):=by
 rw [Qqp _ _ _ _ (by simp;omega),List.take_zero,List.nil_append,List.drop_replicate,Nat.zero_add]
theorem Qmv (a b:List Nat) (ha:a.length≤1099511627776) (hb:b.length≤1099511627776) (hA:Lim a) (hB:Lim b) (h0:0<lv B32 b):Val C 191 [NA a,NA b] (.tup [Xu (lv B32 a/lv B32 b),Xu (lv B32 a%lv B32 b),.int .i64 0]):=by
 have la:=Qcw hA
 have lb:=Qcw hB
 refine zK Qf Tryz.func191 w191 Tryz.ntmps191 Tryz.results191 ?_;refine zG ?_;refine Fc.isN (Qir a (by omega) hA) ⟨.self (Xw _),trivial⟩ fun va X hva=>?_
 refine zG ?_;refine (Qg7 b (by omega) hB).call ⟨.self (Xw _),trivial⟩ (Xk _) ?_
 have hlen:=hva.len (C.ty 68)
 have hne:(dg B32 (lv B32 b)).length≠0:=fun h=>by
  have:=List.length_eq_zero_iff.1 h
  have e:=Xr (lv B32 b)
  rw [this] at e;simp [lv] at e;omega
 rw [List.nil_append] at hva;refine zH1 hlen ?_;refine (Qth (dg B32 (lv B32 a)) (dg B32 (lv B32 b)) (by omega) (by omega) (Yg _) (Yg _)).call ⟨hva.bor,.self (Xw _),trivial⟩ rfl ?_
 rw [Xr,Xr]
 have hc:Qdb (lv B32 a) (lv B32 b)<0↔lv B32 a<lv B32 b:=by unfold Qdb;split<;>(try split)<;>omega
 (refine zH1 hlen ?_;(repeat' ((with_reducible apply zBr)<;>intro h<;>refine zH1 hlen ?_))<;>try exact .intro)
 ·have hlt:=hc.1 h
  rw [Nat.div_eq_of_lt hlt,Nat.mod_eq_of_lt hlt];refine Gd.ret (Gd.tupL ?_);exact ⟨by rw [show Xu 0=.sl 0 [] by simp [Xu,NA,Yw,Xh]];exact .nil _,hva.gd,.leaf _ rfl rfl,trivial⟩
 ·have hl1:(dg B32 (lv B32 b)).length=1:=by omega
  obtain ⟨d,hd⟩:∃ d,dg B32 (lv B32 b)=[d]:=by
   match hh:dg B32 (lv B32 b),hl1 with
   | [d],_=>exact ⟨d,rfl⟩
  have hdv:lv B32 b=d:=by rw [← Xr (lv B32 b),hd];simp [lv]
  have hdl:d<4294967296:=Yg (lv B32 b) d (by rw [hd];simp)
  rw [hd];refine zG ?_
  have hS:=Qz8 (dg B32 (lv B32 a)) d (by omega) (Yg _) (by omega) hdl
  rw [Xr] at hS;refine hS.kept ⟨hva.bor,.self rfl,trivial⟩ fun v Y hv=>?_
  obtain ⟨q,r,e,rfl,hq,hr,he⟩:=hv.tup3;rw [hr.int_inv,he.int_inv]
  have hrl:lv B32 a%d<4294967296:=Nat.lt_of_lt_of_le (Nat.mod_lt _ (by omega)) (by omega)
  refine zG ?_;refine Fc.isN (Qk5 (lv B32 a%d) (by omega)) (by exact ⟨.self rfl,trivial⟩) fun w Z hw=>?_
  refine zG ?_;rw [hdv];rw [List.append_assoc] at hw;exact Gd.ret (Gd.tupL ⟨hq.more (by rw [← List.append_assoc];exact Keep.app _ _),hw.gd,.leaf _ rfl rfl,trivial⟩)
 ·have hn2:2≤(dg B32 (lv B32 b)).length:=by omega
  have hge:lv B32 b≤lv B32 a:=by omega
  obtain ⟨k,hk⟩:∃ k,(dg B32 (lv B32 b)).length=k+2:=⟨(dg B32 (lv B32 b)).length - 2,by omega⟩
  have hlenle:(dg B32 (lv B32 b)).length≤(dg B32 (lv B32 a)).length:=Xn (by decide) _ _ (Nat.lt_of_le_of_lt hge (Zt (by decide) _))
  have hgt:=Qjj (b:=B32) (by decide) (lv B32 b) (k+1)
  have ht:=(Yg (lv B32 b)).get (k+1)
  have hbk:lv B32 b<B32 ^ (k+2):=hk ▸ Zt (by decide) _
  have hbk1:lv B32 b/B32 ^ (k+1)<B32:=by rw [Nat.div_lt_iff_lt_mul (Nat.pow_pos (by decide)),Nat.mul_comm,← Nat.pow_succ];exact hbk
  rw [Nat.mod_eq_of_lt hbk1] at hgt
  have e1:(dg B32 (lv B32 b)).length - 1=k+1:=by omega
  refine zG ?_;rw [e1];refine Fc.pure (Xei _ ht) rfl (fun g=>rfl) ?_
  rw [hgt];obtain ⟨s,hs⟩:∃ s,s=32 - Ks (lv B32 b/B32 ^ (k+1)):=⟨_,rfl⟩;rw [← hs];obtain ⟨n1,n2,n3⟩:=Xnr hk rfl hs;refine zG ?_;refine (Xaq (dg B32 (lv B32 b)) s (by omega) (Yg _) (by omega)).call ⟨.self (Xw _),.self rfl,trivial⟩ (Xk _) ?_
  rw [Xr]
  have hVl:(dg B32 (lv B32 b*2 ^ s)).length=k+2:=by
   have c1:=Xn (b:=B32) (by decide) _ _ n1
   have c2:¬ (dg B32 (lv B32 b*2 ^ s)).length≤k+1:=fun hh=>by
    have c3:lv B32 b*2 ^ s<B32 ^ (k+1):=Nat.lt_of_lt_of_le (Zt (by decide) _) (Nat.pow_le_pow_right (by decide) hh)
    have c4:0<B32 ^ (k+1):=Nat.pow_pos (by decide)
    simp only [B32] at *;omega
   omega
  have hVg:2147483648≤(dg B32 (lv B32 b*2 ^ s)).getD (k+1) 0:=by
   rw [Qjj (by decide),Nat.mod_eq_of_lt (Nat.div_lt_of_lt_mul (by rw [← Nat.pow_succ];exact n1)),Nat.le_div_iff_mul_le (Nat.pow_pos (by decide)),Nat.mul_comm 2147483648]
   exact n2
  have hbge:B32 ^ (k+2 - 1)≤lv B32 b:=Nat.le_of_not_lt fun hh=>by
   have:=Xn (b:=B32) (by decide) _ _ hh
   omega
  have hfst:=Xjw (s:=s) (V:=lv B32 b*2 ^ s) (B:=B32) (by decide) (Zt (b:=B32) (by decide) (lv B32 a)) (by omega) (by omega) hbge rfl
  have hAl:lv B32 a*2 ^ s<B32 ^ ((dg B32 (lv B32 a)).length+1):=by
   rw [Nat.pow_succ];refine Nat.mul_lt_mul'' (Zt (by decide) _) ?_
   exact Nat.lt_of_le_of_lt (Nat.pow_le_pow_right (by decide) n3) (by decide)
  have hAll:=Xn (b:=B32) (by decide) _ _ hAl
  have hA0:(dg B32 (lv B32 a*2 ^ s)).length≠0:=fun hh=>by
   have e:=Xr (lv B32 a*2 ^ s)
   rw [List.length_eq_zero_iff.1 hh] at e
   have hp:=Nat.mul_pos (show 0<lv B32 a by omega) (Nat.two_pow_pos s)
   rw [← e] at hp;exact absurd hp (by simp [lv])
  have hV0:0<lv B32 b*2 ^ s:=Nat.mul_pos h0 (Nat.two_pow_pos s)
  obtain ⟨V,hV⟩:∃ V,V=lv B32 b*2 ^ s:=⟨_,rfl⟩;obtain ⟨A,hAA⟩:∃ A,A=lv B32 a*2 ^ s:=⟨_,rfl⟩;rw [← hV] at hVl hVg hfst hV0 n1 ⊢;rw [← hAA] at hfst hAl hAll hA0;obtain ⟨m,hm⟩:∃ m,m=(dg B32 (lv B32 a)).length:=⟨_,rfl⟩
  have em:(((dg B32 (lv B32 a)).length:Int)+1)=((m+1:Nat):Int):=by omega
  refine zH2 hlen em ?_;refine Qe6 rfl rfl rfl rfl (by simp [t162bytes]) (by omega) ?_
  refine zG ?_;refine (Xaq (dg B32 (lv B32 a)) s (by omega) (Yg _) (by omega)).call ⟨(hva.keep _).bor,.self rfl,trivial⟩ (Xk _) ?_
  rw [Xr,← hAA];refine zG ?_;refine Xj6 (e:=162) (s:=1) (cs:=Xh .u32 (List.replicate (m+1) 0)) (news:=Xh .u32 (dg B32 A)) (Xo _ _) (by simp [Zh]) (Qf3 _ _) rfl (by omega) (by omega) (by simp [Zh];omega) ?_
  rw [Xcz _ _ _ (by omega)]
  have w1:(dg B32 A++List.replicate (m+1 - (dg B32 A).length) 0).length=m+1:=by simp;omega
  have w2:Lim (dg B32 A++List.replicate (m+1 - (dg B32 A).length) 0):=fun x hx=>by
   rcases List.mem_append.1 hx with h | h
   ·exact Yg _ x h
   ·rw [(List.mem_replicate.1 h).2];decide
  have w3:lv B32 (dg B32 A++List.replicate (m+1 - (dg B32 A).length) 0)=A:=by rw [Xh9,Xr]
  generalize dg B32 A++List.replicate (m+1 - (dg B32 A).length) 0=W0 at *;generalize hH1:(X++[some (⟨162,1,Xh .u32 (List.replicate (m+1) 0)⟩:Row)]).set X.length (some ⟨162,1,Xh .u32 W0⟩)=H1
  have hru:Qc H1 X.length=some ⟨162,1,Xh .u32 W0⟩:=by rw [← hH1];exact Qg (Xo _ _)
  have hH1l:H1.length=X.length+1:=by rw [← hH1];simp
  have eq1:(((dg B32 (lv B32 a)).length:Int) - ((dg B32 V).length:Int)+1)=((m - (k+2)+1:Nat):Int):=by omega
  refine zH2 hlen eq1 ?_;refine Qe6 rfl rfl rfl rfl (by simp [t162bytes]) (by omega) ?_
  refine zG ?_;rw [← hm] at hfst;refine Qj (fun n ts H=>∃ (j:Nat) (W Q:List Nat),(j≤m - (k+2)+1)∧(W.length=m+1)∧(Lim W)∧(Q.length=m - (k+2)+1)∧(Lim Q)∧(lv B32 (Q.drop j)*(B32 ^ j*V)+lv B32 W=A)∧(lv B32 (W.drop j)<V)∧(n=j)∧(Qc H X.length=some ⟨162,1,Xh .u32 W⟩)∧(Qc H (X.length+1)=some ⟨162,1,Xh .u32 Q⟩)∧ts.length=113∧nth ts 10=.int .i64 (s:Nat)∧nth ts 11=Xu V∧nth ts 12=.ref X.length 0 (m+1)∧nth ts 13=.ref (X.length+1) 0 (m - (k+2)+1)∧nth ts 14=.int .i64 ((j:Int) - 1)) ?_ (n:=m - (k+2)+1) ?_
  ·skip
   rintro n ts H ⟨j,W,Q,hj,hWl,hWL,hQl,hQL,hinv,hlt,hn,hru,hrq,hL,hs10,hs11,hs12,hs13,hs14⟩;refine Xc [(10,.int .i64 (s:Nat)),(11,Xu V),(12,.ref X.length 0 (m+1)),(13,.ref (X.length+1) 0 (m - (k+2)+1)),(14,.int .i64 ((j:Int) - 1))] hL (by simp only [zFm,hs10,hs11,hs12,hs13,hs14,true_and];exact zNm) ?_
   clear hL hs10 hs11 hs12 hs13 hs14 ts
   refine Qz Qf ?_;by_cases hcase:0<j
   ·obtain ⟨i,rfl⟩:∃ i,j=i+1:=⟨j - 1,by omega⟩
    have e1:(((i+1:Nat):Int) - 1)=(i:Int):=by omega
    have e2:((i:Int)+((dg B32 V).length:Int)+1)=((i+(k+3):Nat):Int):=by omega
    refine zH2 e1 e2 ?_;refine Xge hru (by simp [t162ok]) (by simp [t162size]) (by omega) (by omega) ?_
    rw [Nat.zero_add,show i+(k+3) - i=k+2+1 by omega]
    refine zG ?_;obtain ⟨u1,u2,u3⟩:=Xtz (b:=B32) (by decide) hWL (Nat.le_of_lt n1) (show i+(k+2+1)≤W.length by omega) hlt
    have hpl:((W.drop i).take (k+2+1)).length=k+2+1:=by rw [List.length_take,List.length_drop];omega
    have hpL:Lim ((W.drop i).take (k+2+1)):=fun x hx=>hWL x (List.mem_of_mem_drop (List.mem_of_mem_take hx))
    have hgs:=Qy2 ((W.drop i).take (k+2+1)) (dg B32 V) k hVl hpl (by omega) hpL (Yg V) hVg (by rw [← u2,Xr];exact u1)
    have hbor:BorL H [.ref X.length i (k+2+1),Xu V] [NA ((W.drop i).take (k+2+1)),Xu V]:=by
     refine ⟨?_,.self (Xk _),trivial⟩;rw [NA,hpl];refine .ref X.length i _ _ _ hru (by simp [Zh];omega) fun q hq=>?_
     have hq':q<k+2+1:=by rwa [Zh,hpl] at hq
     have:nth (Xh .u32 W) (i+q)=nth (Xh .u32 ((W.drop i).take (k+2+1))) q:=by
      rw [Qki _ _ (by omega),Qki _ _ (by omega)]
      simp [List.getD,List.getElem?_take,hq']
     rw [this];exact .self (Ju (Qm _ _) q)
    refine hgs.borrow hbor.all.1 hbor.all.2 (by rintro v H' ⟨rfl,g,rfl,_⟩;exact ⟨rfl,fun r row hr=>by simp at hr⟩) ?_
    rintro v H' ⟨rfl,g,rfl,g1,g2,g3⟩;simp only [ren,Qbf,List.map_nil,List.append_nil];rw [Xr,← u2] at g1 g2;refine zG ?_
    have htk:=Xb8 (q:=g) (v:=dg B32 V) hru (j:=i) (by omega) (by omega) hWL (Yg V) g3
    rw [hVl,Xr,← u2] at htk;refine htk.mono ?_;rintro r H' ⟨W',b',rfl,rfl,hb',t1,t2,t3,t4,t5⟩
    have hru':Qc (H.set X.length (some (⟨162,1,Xh .u32 W'⟩:Row))) X.length=some ⟨162,1,Xh .u32 W'⟩:=Qg hru
    have hrq':∀ z,Qc (H.set X.length z) (X.length+1)=some ⟨162,1,Xh .u32 Q⟩:=fun z=>by rw [Qe _ (by omega)];exact hrq
    have hset:∀ (z z':Option Row),(H.set X.length z).set X.length z'=H.set X.length z':=fun z z'=>List.set_set ..
    have hUM:lv B32 (W.drop i)/V<B32:=Nat.div_lt_of_lt_mul (by rw [Nat.mul_comm];exact u1)
    have hp1:∀ W'':List Nat,Lim W''→W''.length=W.length→lv B32 ((W''.drop i).take (k+2+1))<B32 ^ (k+2+1):=fun W'' h1 h2=>by
     have:=Qau (l:=W''.drop i) (b:=B32) (fun x hx=>h1 x (List.mem_of_mem_drop hx)) (k+2+1) (by rw [List.length_drop];omega)
     exact this
    have hVM:V≤B32 ^ (k+2+1):=Nat.le_trans (Nat.le_of_lt n1) (Nat.pow_le_pow_right (by decide) (by omega))
    have hset2:∀ W'':List Nat,Lim W''→W''.length=W.length→W''.take i=W.take i→W''.drop (i+(k+2+1))=W.drop (i+(k+2+1))→lv B32 ((W''.drop i).take (k+2+1))=lv B32 (W.drop i)%V →
      lv B32 ((Q.set i (lv B32 (W.drop i)/V)).drop i)*(B32 ^ i*V)+lv B32 W''=A∧lv B32 (W''.drop i)<V:=fun W'' h1 h2 h3 h4 h5 =>
     Xnp (b:=B32) (by decide) hWL (Nat.le_of_lt n1) hV0 (by omega) hlt h2 h3 h4 h5 (by omega) hinv
    have fin:∀ W'':List Nat,Lim W''→W''.length=W.length→W''.take i=W.take i→W''.drop (i+(k+2+1))=W.drop (i+(k+2+1))→lv B32 ((W''.drop i).take (k+2+1))=lv B32 (W.drop i)%V→∀ P:Prop,
      (∀ (Q':List Nat) (H'':Qb),Q'=Q.set i (lv B32 (W.drop i)/V)→H''=(H.set X.length (some (⟨162,1,Xh .u32 W''⟩:Row))).set (X.length+1) (some ⟨162,1,Xh .u32 Q'⟩)→W''.length=m+1→Q'.length=m - (k+2)+1→Lim Q'→lv B32 (Q'.drop i)*(B32 ^ i*V)+lv B32 W''=A→lv B32 (W''.drop i)<V →
       Qc H'' X.length=some ⟨162,1,Xh .u32 W''⟩→Qc H'' (X.length+1)=some ⟨162,1,Xh .u32 Q'⟩→P)→P:=fun W'' h1 h2 h3 h4 h5 P hP=>by
     obtain ⟨f1,f2⟩:=hset2 W'' h1 h2 h3 h4 h5;refine hP _ _ rfl rfl (by omega) (by rw [List.length_set];exact hQl) (Lim.set hQL _ hUM) f1 f2 ?_ ?_
     ·rw [Qe _ (by omega)];exact Qg hru
     ·exact Qg (hrq' _)
    have gl:g<4294967296:=g3
    have hwl:∀ x:Nat,x<4294967296→IntKind.wrap .u32 (x:Int)=((x:Nat):Int):=fun x hx=>by rw [Qm5,Nat.mod_eq_of_lt hx]
    obtain rfl | rfl:b'=0∨b'=1:=by omega
    ·rw [Nat.mul_zero,Nat.add_zero] at t5;obtain ⟨d1,d2⟩:=Xtx hV0 g1 t5
     have hb0:((0:Nat)==1)=false:=rfl
     refine fin W' t2 (by omega) t3 t4 d2 _ fun Q' H'' hQ' hH'' k1 k2 k3 k4 k5 k6 k7=>?_
     rw [← d1] at hQ'
     have hw:=hwl g gl
     refine zH4 hb0 hrq' hw Qac ?_;subst hQ' hH'';exact ⟨i,by omega,i,W',Q.set i g,(by (repeat' apply And.intro)<;>(first | rfl | omega | (congr 1;omega) | assumption | (congr 1;assumption)))⟩
    ·rw [Nat.mul_one] at t5
     have hb0:((1:Nat)==1)=true:=rfl
     have hg1:1≤g:=by
      refine Nat.pos_of_ne_zero fun h=>?_
      rw [h,Nat.zero_mul,Nat.add_zero] at t5
      have:=hp1 W' t2 (by omega)
      omega
     have e4:((g:Int) - 1)=((g - 1:Nat):Int):=by omega
     refine zH2 hb0 e4 ?_
     have hbk:=Xfd (v:=dg B32 V) hru' (j:=i) (by omega) (by omega) t2 (Yg V)
     rw [hVl,Xr] at hbk;refine hbk.mono ?_;rintro r2 H2 ⟨W2,c2,rfl,s1,s2,s3,s4,s5⟩;obtain ⟨d1,d2⟩:=Xtw hV0 hVM g1 g2 t5 (hp1 W' t2 (by omega)) s5 (hp1 W2 s2 (by omega))
     refine fin W2 s2 (by omega) (by rw [s3,t3]) (by rw [s4];exact t4) d2 _ fun Q' H'' hQ' hH'' k1 k2 k3 k4 k5 k6 k7=>?_
     have d3:lv B32 (W.drop i)/V=g - 1:=by omega
     rw [d3] at hQ'
     have hw:=hwl (g - 1) (by omega)
     refine zH5 hset hrq' e4 hw Qac ?_;subst hQ' hH'';exact ⟨i,by omega,i,W2,Q.set i (g - 1),(by (repeat' apply And.intro)<;>(first | rfl | omega | (congr 1;omega) | assumption | (congr 1;assumption)))⟩
   ·obtain rfl:j=0:=by omega
    simp only [List.drop_zero,Nat.pow_zero,Nat.one_mul] at hinv hlt;rw [hAA] at hinv;obtain ⟨f1,f2⟩:=Xrg hV (Nat.two_pow_pos s) h0 hinv hlt;refine zG ?_;refine Fc.isN (Qir Q (by omega) hQL) (by rw [← hQl];exact Qtt hrq (Qm _ _)) fun vq Y hvq=>?_
    refine zG ?_;refine (Qg7 W (by omega) hWL).call (by rw [← hWl];exact Qtt (Qd hru _) (Qm _ _)) (Xk _) ?_
    refine zG ?_
    have hwle:(dg B32 (lv B32 W)).length≤m+1:=hWl ▸ Qcw hWL
    refine Fc.isN (Xk1 (dg B32 (lv B32 W)) s (by omega) (Yg _) (by omega)) ⟨.self (Xw _),.self rfl,trivial⟩ fun vr Z hvr=>?_
    rw [Xr,f2] at hvr;rw [f1] at hvq;refine zG ?_;exact Gd.ret (Gd.tupL ⟨(hvq.gd).more (by rw [← List.append_assoc];exact Keep.app _ _),by rw [List.append_assoc] at hvr;exact hvr.gd,.leaf _ rfl rfl,trivial⟩)
  ·refine ⟨m - (k+2)+1,W0,List.replicate (m - (k+2)+1) 0,Nat.le_refl _,w1,w2,by simp,fun x hx=>by rw [(List.mem_replicate.1 hx).2];decide, ?_, ?_,rfl, ?_, ?_,rfl,rfl,rfl,rfl,rfl,rfl⟩
   ·rw [List.drop_eq_nil_of_le (by simp)];simp [lv,w3]
   ·rw [Qvg (b:=B32) (by decide) w2,w3];exact hfst
   ·simp [Qc]
   ·simp [Qc,List.replicate_succ]
theorem Xjz {x:Nat} (h:0<x):0<(dg B32 x).length:=by rw [Qer (by decide) h];simp
theorem Qre {x y:Nat} (h:x≤y):(dg B32 x).length≤(dg B32 y).length:=Xn (by decide) _ _ (Nat.lt_of_le_of_lt h (Zt (by decide) y))
theorem Qvy (x y:Nat):Nat.gcd y (x%y)=Nat.gcd x y:=by rw [Nat.gcd_comm x y,Nat.gcd_rec y x,Nat.gcd_comm]
theorem Qze (x y:Nat) (hx:(dg B32 x).length≤1099511627776) (hy:(dg B32 y).length≤1099511627776) (h0:0<y):Val C 191 [Xu x,Xu y] (.tup [Xu (x/y),Xu (x%y),.int .i64 0]):=by
 have h:=Qmv (dg B32 x) (dg B32 y) hx hy (Yg _) (Yg _) (by rw [Xr];exact h0)
 rw [Xr,Xr] at h;exact h
theorem Xjj (a b:List Nat) (ha:a.length≤1000000000000) (hb:b.length≤1000000000000) (hA:Lim a) (hB:Lim b):Pu C 158 [NA a,NA b] (Xu (Nat.gcd (lv B32 a) (lv B32 b))):=by
 have la:=Qcw hA
 have lb:=Qcw hB
 refine zK Qf Tryz.func158 w158 Tryz.ntmps158 Tryz.results158 ?_;refine zG ?_;refine (Qg7 a (by omega) hA).call ⟨.self (Xw _),trivial⟩ (Xk _) ?_
 refine zG ?_;refine (Qg7 b (by omega) hB).call ⟨.self (Xw _),trivial⟩ (Xk _) ?_
 refine zG ?_;refine Qj (fun n ts H=>∃ (x:Nat) (y:Nat),(Nat.gcd x y=Nat.gcd (lv B32 a) (lv B32 b))∧((dg B32 x).length≤1000000000000)∧((dg B32 y).length≤1000000000000)∧(H=[])∧(n=y)∧ts.length=25∧nth ts 0=Xu x∧nth ts 1=Xu y) ?_ (n:=lv B32 b) ?_
 ·skip
  rintro n ts H ⟨x,y,hg,hx,hy,hH,hn,hL,hs0,hs1⟩;refine Xc [(0,Xu x),(1,Xu y)] hL (by simp only [zFm,hs0,hs1,true_and];exact zNm) ?_
  clear hL hs0 hs1 ts
  refine Qz Qf ?_;subst hH;by_cases hcase:0<y
  ·have hp:=Xjz hcase
   have hlt:=Nat.mod_lt x hcase
   have hm:=Qre (Nat.le_of_lt hlt)
   have hg':=Qvy x y
   refine zG ?_;refine (Qze x y (by omega) (by omega) hcase).call ⟨.self (Xw _),.self (Xw _),trivial⟩ (by simp [clo,Qh,Xk]) ?_
   rw [hg] at hg';generalize x%y=z at *;refine zG ?_;exact ⟨z,by omega,y,z,(by (repeat' apply And.intro)<;>(first | rfl | omega | (congr 1;omega) | assumption | (congr 1;assumption)))⟩
  ·obtain rfl:y=0:=by omega
   have h00:(dg B32 0).length=0:=by rw [Yw];rfl
   refine zG ?_;rw [Nat.gcd_zero_right] at hg;refine Qo (fun g=>Xg5 g _) ?_
   rw [← hg];rfl
 ·exact ⟨lv B32 a,lv B32 b,rfl,by omega,by omega,rfl,rfl,rfl,rfl,rfl⟩
theorem one_val:Val C 128 [] (Xu 1):=by
 refine zK Qf Tryz.func128 w128 Tryz.ntmps128 Tryz.results128 ?_;refine zG ?_;refine Fc.isN (Qk5 1 (by decide)) ⟨.self rfl,trivial⟩ fun v X hv=>?_
 refine zG ?_;exact Gd.ret hv.gd
theorem Xrp (a b:List Nat) (ha:a.length≤1099511627776) (hb:b.length≤1099511627776) (hA:Lim a) (hB:Lim b) (h0:0<lv B32 b):Val C 160 [NA a,NA b] (Xu (lv B32 a/lv B32 b)):=by
 refine zK Qf Tryz.func160 w160 Tryz.ntmps160 Tryz.results160 ?_;refine zG ?_;refine (Qmv a b ha hb hA hB h0).kept ⟨.self (Xw _),.self (Xw _),trivial⟩ fun v X hv=>?_
 obtain ⟨q,r,e,rfl,hq,_,_⟩:=hv.tup3;refine zG ?_;exact Gd.ret hq
theorem Qy4 (a b:Nat) (ha:Xe a≤100000000000) (hb:Xe b≤100000000000):Pu C 131 [DV a,DV b] (DV (Nat.gcd a b)):=by
 refine zK Qf Tryz.func131 w131 Tryz.ntmps131 Tryz.results131 ?_;refine zG ?_;refine Qj (fun n ts H=>∃ (x:Nat) (y:Nat),(Nat.gcd x y=Nat.gcd a b)∧(Xe x≤100000000000)∧(Xe y≤100000000000)∧(H=[])∧(n=y)∧ts.length=19∧nth ts 0=DV x∧nth ts 1=DV y) ?_ (n:=b) ?_
 ·skip
  rintro n ts H ⟨x,y,hg,hx,hy,hH,hn,hL,hs0,hs1⟩;refine Xc [(0,DV x),(1,DV y)] hL (by simp only [zFm,hs0,hs1,true_and];exact zNm) ?_
  clear hL hs0 hs1 ts
  refine Qz Qf ?_;subst hH
  have ly:(dg D10 y).length=Xe y:=rfl
  by_cases hcase:0<y
  ·have hp:Xe y≠0:=fun h=>by have:=dlen_zero.1 h;omega
   have hlt:=Nat.mod_lt x hcase
   have hm:=Kr (Nat.le_of_lt hlt)
   have hg':=Qvy x y
   refine zG ?_;refine (Qfl x y hx hy hcase).call ⟨.self (Zu _),.self (Zu _),trivial⟩ (by simp [clo,Qh,Zu]) ?_
   rw [hg] at hg';generalize x%y=z at *;refine zG ?_;exact ⟨z,by omega,y,z,(by (repeat' apply And.intro)<;>(first | rfl | omega | (congr 1;omega) | assumption | (congr 1;assumption)))⟩
  ·obtain rfl:y=0:=by omega
   have hz:=dlen_zero.2 (rfl:(0:Nat)=0)
   have hz2:(dg D10 0).length=Xe 0:=rfl
   refine zG ?_;rw [Nat.gcd_zero_right] at hg;refine Qo (fun g=>by simp [ren,Qaf]) ?_
   rw [← hg];rfl
 ·exact ⟨a,b,rfl,ha,hb,rfl,rfl,rfl,rfl,rfl⟩
def Qr6 (r:Rq):V:=.agg [.bool r.neg,DV r.num,DV r.den]
def Zx (x:Raw):V:=.agg [.bool x.neg,NA x.num,NA x.den]
def Kj (r:Rq):V:=.agg [.bool r.neg,Xu r.num,Xu r.den]
theorem Quo (r:Rq):Kj r=Zx (Qt r):=rfl
attribute [go_sem] Qr6 Zx Kj
theorem Qhw (r:Rq):clo (Qr6 r)=true:=by simp [Qr6,clo,Qh,Zu]
theorem Qp (x:Raw):clo (Zx x)=true:=by simp [Zx,clo,Qh,Xw]
theorem Qk1 (r:Rq):clo (Kj r)=true:=Qp (Qt r)
theorem Qo6 (b:Nat) (hb:1<b):dg b 1=[1]:=by
 rw [Qer hb (by decide),Nat.mod_eq_of_lt hb,Nat.div_eq_of_lt hb,Yw]
theorem Qt1:DV 1=.sl 1 [.int .i64 1]:=by rw [DV,Qo6 _ Qfc];rfl
theorem Xof:DV 0=.sl 0 []:=by rw [DV,Yw];rfl
theorem Qq1:Xu 0=.sl 0 []:=by rw [Xu,Yw];rfl
theorem Xji {H:Qb}:Gd H .nil (DV 0):=by rw [Xof];exact .nil _
theorem Qsy {H:Qb}:Gd H .nil (Xu 0):=by rw [Qq1];exact .nil _
theorem Qg3 {H:Qb} (b:Bool):Gd H (.bool b) (.bool b):=.leaf _ rfl rfl
theorem Qiv {H:Qb} (k:IntKind) (n:Int):Gd H (.int k n) (.int k n):=.leaf _ rfl rfl
theorem Xgg {k:IntKind} (b:Bool) (l m:List Nat):∃ v H,Gd H v (.agg [.bool b,.sl l.length (Xh k l),.sl m.length (Xh k m)])∧Qar H :=
 ⟨.agg [.bool b,.ref 0 0 l.length,.ref 1 0 m.length],[some ⟨0,1,Xh k l⟩,some ⟨0,1,Xh k m⟩],Gd.aggL ⟨Qg3 b,.flat 0 _ 0 1 _ rfl (Qm _ _) (Zf _ _),.flat 1 _ 0 1 _ rfl (Qm _ _) (Zf _ _),trivial⟩,fun r row hr=>by
  match r,hr with
  | 0,hr=>simp at hr;subst hr;exact Zf _ _
  | 1,hr=>simp at hr;subst hr;exact Zf _ _
  | r+2,hr=>simp at hr⟩
theorem Xcy (x:Raw):∃ v H,Gd H v (Zx x)∧Qar H:=Xgg (k:=.u32) x.neg x.num x.den
theorem Qqn (r:Rq):∃ v H,Gd H v (Kj r)∧Qar H:=Xcy (Qt r)
theorem Xbv (l:List Nat):∃ v H,Gd H v (NA l)∧Qar H:=Gd.some_sl (Qm _ _) (Zf _ _)
theorem Yv {H:Qb} {v:V} {n:Nat} {cs:List V} (h:Gd H v (.sl n cs)):kn v=true∧cellsOf v=[v]∧Yq v=true:=by
 generalize hu:V.sl n cs=u at h;cases h with
 | leaf v hc hp=>subst hu;exact ⟨rfl,rfl,rfl⟩
 | nil cs=>exact ⟨rfl,rfl,rfl⟩
 | ref r n row cs hr hp hl h=>exact ⟨rfl,rfl,rfl⟩
 | agg l m hl h=>cases hu
 | tup l m hl h=>cases hu
theorem Qvf (s:Bool) (p q:Nat) (hp:Xe p≤30000000000) (hq:Xe q≤30000000000):Val C 86 [.bool s,DV p,DV q] (Qr6 (Kh s p q)):=by
 have lp:(dg D10 p).length=Xe p:=rfl
 have lq:(dg D10 q).length=Xe q:=rfl
 have hp0:p=0↔Xe p=0:=dlen_zero.symm
 have hq0:q=0↔Xe q=0:=dlen_zero.symm
 refine zK Qf Tryz.func86 w86 Tryz.ntmps86 Tryz.results86 ?_
 (refine zG ?_;(repeat' ((with_reducible apply zBr)<;>intro h<;>refine zG ?_))<;>try exact .intro)
 ·rw [Qat (.inl (by omega))]
  refine Gd.ret (Gd.aggL ⟨Qg3 _,Xji, ?_,trivial⟩);rw [Qt1];exact .flat _ _ _ _ _ rfl rfl rfl
 ·rw [Qat (.inr (by omega))]
  refine Gd.ret (Gd.aggL ⟨Qg3 _,Xji, ?_,trivial⟩);rw [Qt1];exact .flat _ _ _ _ _ rfl rfl rfl
 ·have hpq:¬ (p=0∨q=0):=by omega
  have hg:=Qos hpq
  rw [Qia hpq];refine Fc.pure (Qy4 p q (by omega) (by omega)) (by simp [Qh,clo,Qm]) (fun g=>by simp [DV,DA,ren,Qaf]) ?_
  have hgl:Xe (Nat.gcd p q)≤Xe p:=Kr (Nat.gcd_le_left _ (by omega))
  generalize Nat.gcd p q=g at *;refine zG ?_;refine (Qfl p g (by omega) (by omega) hg).keptF ⟨.self (Zu _),.self (Zu _),trivial⟩ fun v X hv=>?_
  obtain ⟨v1,v2,rfl,hv1,hv2⟩:=hv.tup2;refine zG ?_;refine (Qfl q g (by omega) (by omega) hg).keptF ⟨.self (Zu _),.self (Zu _),trivial⟩ fun w Y hw=>?_
  obtain ⟨w1,w2,rfl,hw1,hw2⟩:=hw.tup2;obtain ⟨k1,c1,s1⟩:=Yv hv1.gd;obtain ⟨k2,c2,s2⟩:=Yv hw1.gd;refine zH6 k1 c1 s1 k2 c2 s2 ?_;exact Gd.ret (Gd.aggL ⟨Qg3 _,((hv1.app Y).set (q:=0) (by decide) _).gd,(hw1.set (q:=0) (by simp) _).gd,trivial⟩)
theorem Qms (r:Rq) (h:RqOK r):Val C 34 [Qr6 r] (Kj r):=by
 have h1:=h.n1
 have h2:=h.d1
 refine zK Qf Tryz.func34 w34 Tryz.ntmps34 Tryz.results34 ?_;refine zG ?_;refine Pc.keptF (Qoj r.num (by omega)) (Xbv _) ⟨.self (Zu _),trivial⟩ fun v X hv=>?_
 obtain ⟨k1,c1,s1⟩:=Yv hv.gd;refine zH3 k1 c1 s1 ?_;refine Pc.keptF (Qoj r.den (by omega)) (Xbv _) ⟨.self (Zu _),trivial⟩ fun w Y hw=>?_
 obtain ⟨k2,c2,s2⟩:=Yv hw.gd;refine zH6 k1 c1 s1 k2 c2 s2 ?_;exact Gd.ret (Gd.aggL ⟨Qg3 _,((hv.app Y).set (q:=1) (by simp) _).gd,(hw.set (q:=1) (by simp) _).gd,trivial⟩)
theorem Qhc (n:Int) (h1:-9223372036854775808≤n) (h2:n<9223372036854775808):Val C 47 [.int .i64 n] (DV n.natAbs):=by
 refine zK Qf Tryz.func47 w47 Tryz.ntmps47 Tryz.results47 ?_
 (refine zG ?_;(repeat' ((with_reducible apply zBr)<;>intro h<;>refine zG ?_))<;>try exact .intro)
 ·have e:0 - (n+1)=((n.natAbs - 1:Nat):Int):=by omega
  have hl:Xe (n.natAbs - 1)≤16:=Qa5 (Nat.lt_of_lt_of_le (show n.natAbs - 1<9223372036854775808 by omega) (by decide))
  refine zH1 e ?_;refine (Qnq (n.natAbs - 1) (by omega)).call ⟨.self rfl,trivial⟩ (Zu _) ?_
  refine zH1 e ?_
  have h1:Xe 1≤1:=Nat.le_of_eq Qk0
  refine (Qz3 (n.natAbs - 1) 1 (by omega) (by omega)).kept ⟨.self (Zu _),Gd.bor (by rw [Qt1];exact .flat _ _ _ _ _ rfl rfl rfl),trivial⟩ fun v X hv=>?_
  refine zG ?_;rw [show n.natAbs - 1+1=n.natAbs by omega] at hv
  exact Gd.ret hv
 ·have e:n=((n.natAbs:Nat):Int):=by omega
  rw [e,Int.natAbs_natCast];refine (Qnq n.natAbs (by omega)).kept ⟨.self rfl,trivial⟩ fun v X hv=>?_
  refine zG ?_;exact Gd.ret hv
theorem Qyx (n:Int) (h1:-9223372036854775808≤n) (h2:n<9223372036854775808):Val C 19 [.int .i64 n] (Qr6 (Yr n)):=by
 refine zK Qf Tryz.func19 w19 Tryz.ntmps19 Tryz.results19 ?_;refine zG ?_;refine (Qhc n h1 h2).keptF ⟨.self rfl,trivial⟩ fun v X hv=>?_
 obtain ⟨k1,c1,s1⟩:=Yv hv.gd;refine zH3 k1 c1 s1 ?_;refine Gd.ret (Gd.aggL ⟨Qg3 _,((hv.app _).set (q:=0) (by simp) _).gd, ?_,trivial⟩)
 rw [show (Yr n).den=1 from rfl,Qt1];exact .flat _ _ _ _ _ (Xo _ _) rfl rfl
end Go.Proofs.YtipmmjebfpbkmaaGreat
end
