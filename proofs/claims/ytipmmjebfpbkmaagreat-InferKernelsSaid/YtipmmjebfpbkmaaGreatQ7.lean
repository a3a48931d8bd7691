/-
  Parts Fold5, Fold6, Fold7, FcF, Cat2, Ones1, Run1, Law1, Kern1, Kern2, Kern3, Kern4, Kern5, Kern6, Kern7, Row1k, one behind the other: a program logic of our own, contracts of functions.
-/
import Derived.Test.YtipmmjebfpbkmaaGreatQ6
import Derived.Test.YtipmmjebfpbkmaaGreatRows

set_option linter.unusedVariables false
set_option linter.unusedSimpArgs false
set_option maxRecDepth 100000
set_option maxHeartbeats 8000000
section
namespace Go.Proofs.YtipmmjebfpbkmaaGreat
open Go.Bv
def mmQ (x y:Tn) (b c i j:Nat):Nat→Rq
 | 0=>Yr 0
 | k+1=>Qez (Xd (Qt (mmQ x y b c i j k))) (Xd (Qt (Xm [x.el.getD (i*b+k) r0,y.el.getD (k*c+j) r0])))
def Qq4 (x y:Tn):Prop:=x.shape.length=2∧y.shape.length=2∧x.shape.getD 1 0=y.shape.getD 0 0
instance (x y:Tn):Decidable (Qq4 x y):=by unfold Qq4;infer_instance
def Js (x y:Tn):List Int:=[x.shape.getD 0 0,y.shape.getD 1 0]
def Qej (x y:Tn):Int:=if Xv x≠0 then Xv x else if Xv y≠0 then Xv y else if ¬ Qq4 x y then 13 else Xa (Js x y)
def Qjc (x y:Tn) (a b c:Nat):List Rq:=(List.range (a*c)).map fun q=>mmQ x y b c (q/c) (q%c) b
def Qei (x y:Tn):Tn:=⟨Js x y,(Qjc x y (x.shape.getD 0 0).toNat (x.shape.getD 1 0).toNat (y.shape.getD 1 0).toNat).map Qt⟩
def mmP (x y:Tn) (v:V) (H:Qb):Prop:=if Qej x y=0 then ∃ w u,v=.tup [.agg [w,u],.int .i64 0]∧Bv.Own 3 1 H w (Js x y).length (ints (Js x y))∧Bv.Own 70 3 H u (Qei x y).el.length (Qv (Qei x y).el) else v=.tup [.agg [.nil,.nil],.int .i64 (Qej x y)]
theorem Qsj {x y:Tn} {H:Qb} {e:Int} (h:Qej x y=e) (he:e≠0):mmP x y (.tup [.agg [.nil,.nil],.int .i64 e]) H:=by
 rw [mmP,if_neg (by omega),h]
theorem Xdd {e s q:Nat} {H:Qb} {v:V} {n:Nat} {cs:List V} {z:Option Row} (h:Bv.Own e s H v n cs) (hq:∀ off m,v≠.ref q off m):Bv.Own e s (H.set q z) v n cs:=by
 rcases h with h | ⟨r,rfl,h2,h3⟩
 ·exact .inl h
 ·exact .inr ⟨r,rfl,by rw [Qe _ (fun e=>hq 0 n (by rw [e]))];exact h2,h3⟩
theorem Xqg {e s:Nat} {H:Qb} {v:V} {n:Nat} {cs:List V} (h:Bv.Own e s H v n cs):∀ r off m,v=.ref r off m→r<H.length:=by
 rintro r off m rfl;rcases h with ⟨h,_⟩ | ⟨r',h,h2,_⟩
 ·cases h
 ·injection h with h
  subst h;exact Xg h2
theorem Qof (x y:Tn) (hx:TnOK x) (hy:TnOK y) (hD:∀ i j k,k<(x.shape.getD 1 0).toNat→i<(x.shape.getD 0 0).toNat→j<(y.shape.getD 1 0).toNat→RawOK (Qt (mmQ x y (x.shape.getD 1 0).toNat (y.shape.getD 1 0).toNat i j k))∧RawOK (Qt (Xm [x.el.getD (i*(x.shape.getD 1 0).toNat+k) r0,y.el.getD (k*(y.shape.getD 1 0).toNat+j) r0]))) :
  Fc C 36 [tnV x,tnV y] [] (mmP x y):=by
 have tx:=Zr x hx
 have ty:=Zr y hy
 have hxs:=hx.s
 have hxe:=hx.e
 have hye:=hy.e
 have hys:=hy.s
 refine zL Qf Tryz.func36 w36 Tryz.ntmps36 Tryz.results36 ?_;refine zG ?_;refine Qj (fun n ts H=>∃ (k:Nat),(k≤2)∧(n=2 - k)∧(Qc H 0=some ⟨34,2,[.sl x.shape.length (ints x.shape),.sl x.el.length (Qv x.el)]⟩)∧(Qc H 1=some ⟨34,2,[.sl y.shape.length (ints y.shape),.sl y.el.length (Qv y.el)]⟩)∧(Qc H 2=some ⟨34,2,[.nil,.nil]⟩)∧(Qc H 3=some ⟨34,2,[.sl x.shape.length (ints x.shape),.sl x.el.length (Qv x.el),.sl y.shape.length (ints y.shape),.sl y.el.length (Qv y.el)]⟩)∧((0<k→Xv x=0))∧((1<k→Xv y=0))∧ts.length=118∧nth ts 2=.ptr 0 0∧nth ts 3=.ptr 1 0∧nth ts 4=.ptr 2 0∧nth ts 20=.ref 3 0 2∧nth ts 21=.int .i64 2∧nth ts 22=.int .i64 (k:Nat)) ?_ (n:=2) ?_
 ·skip
  rintro n ts H ⟨k,hk,hn,h0,h1,h3,h5,hm0,hm1,hL,hs2,hs3,hs4,hs20,hs21,hs22⟩;refine Xc [(2,.ptr 0 0),(3,.ptr 1 0),(4,.ptr 2 0),(20,.ref 3 0 2),(21,.int .i64 2),(22,.int .i64 (k:Nat))] hL (by simp only [zFm,hs2,hs3,hs4,hs20,hs21,hs22,true_and];exact zNm) ?_
  clear hL hs2 hs3 hs4 hs20 hs21 hs22 ts
  refine Qz Qf ?_
  have hk':k=0∨k=1∨k=2:=by omega
  have hst:∀ (x:Row),Qc (H++[some x]) H.length=some x:=fun x=>Xo _ _
  have hL:=Xg h5
  have mst2:∀ (x y:Option Row),(H++[x]).set H.length y=H++[y]:=fun x y=>by rw [List.set_append_right _ _ (Nat.le_refl _),Nat.sub_self];rfl
  have a3:∀ Y,Qc (H++Y) 2=some ⟨34,2,[.nil,.nil]⟩:=fun Y=>Qd h3 Y
  have b3:∀ Y row,Qc ((H++Y).set 2 (some row)) 2=some row:=fun Y row=>Qg (a3 Y)
  rcases hk' with rfl | rfl | rfl
  ·by_cases hm:Xv x=0
   ·rw [hm] at tx;refine zH3 h5 hst mst2 ?_;refine Fc.pure tx (by simp [Qh,clo,Qa,Qi]) (fun g=>rfl) ?_
    refine zG ?_;exact ⟨1,by omega,1,by omega,rfl,Qd h0 _,Qd h1 _,Qd h3 _,Qd h5 _,fun _=>hm,fun h=>by omega,(by (repeat' apply And.intro)<;>(first | rfl | omega | (congr 1;omega) | assumption | (congr 1;assumption)))⟩
   ·skip
    refine zH3 h5 hst mst2 ?_;refine Fc.pure tx (by simp [Qh,clo,Qa,Qi]) (fun g=>rfl) ?_
    refine zH2 a3 b3 ?_;exact Qsj (by rw [Qej,if_pos hm]) hm
  ·have hm0:=hm0 (by omega)
   by_cases hm:Xv y=0
   ·rw [hm] at ty;refine zH3 h5 hst mst2 ?_;refine Fc.pure ty (by simp [Qh,clo,Qa,Qi]) (fun g=>rfl) ?_
    refine zG ?_;exact ⟨0,by omega,2,by omega,rfl,Qd h0 _,Qd h1 _,Qd h3 _,Qd h5 _,fun _=>hm0,fun _=>hm,(by (repeat' apply And.intro)<;>(first | rfl | omega | (congr 1;omega) | assumption | (congr 1;assumption)))⟩
   ·skip
    refine zH3 h5 hst mst2 ?_;refine Fc.pure ty (by simp [Qh,clo,Qa,Qi]) (fun g=>rfl) ?_
    refine zH2 a3 b3 ?_;exact Qsj (by rw [Qej,if_neg (by omega),if_pos hm]) hm
  ·have hm0:=hm0 (by omega)
   have hm1:=hm1 (by omega)
   have hs2:∀ z:Row,Qc (H.set 2 (some z)) 2=some z:=fun z=>Qg h3
   by_cases hok:Qq4 x y
   case neg =>
    have hE:Qej x y=13:=by rw [Qej,if_neg (by omega),if_neg (by omega),if_pos hok]
    have hno:x.shape.length=2→y.shape.length=2→x.shape.getD 1 0≠y.shape.getD 0 0:=fun h1 h2 h3=>hok ⟨h1,h2,h3⟩
    (refine zH4 h0 h1 h3 hs2 ?_;(repeat' ((with_reducible apply zBr)<;>intro h<;>refine zH4 h0 h1 h3 hs2 ?_))<;>try exact .intro)
    all_goals first | exact Qsj hE (by decide) | (exfalso;exact hno (by omega) (by omega) (by assumption))
   obtain ⟨o1,o2,o3⟩:=hok
   have hok:Qq4 x y:=⟨o1,o2,o3⟩
   have hE:Qej x y=Xa (Js x y):=by rw [Qej,if_neg (by omega),if_neg (by omega),if_neg (fun h=>h hok)]
   obtain ⟨-,xmp,xel⟩:=Zs hm0;obtain ⟨-,ymp,yel⟩:=Zs hm1;obtain ⟨-,x1,x3⟩:=Qu xmp;obtain ⟨-,y1,y3⟩:=Qu ymp
   have mv:=Ku (Js x y) (by simp [Js])
   refine zH2 h0 h1 ?_
   have eG:∃ G:Qb,G=H++[some ⟨3,1,[.int .i64 (x.shape.getD 1 0)]⟩,some ⟨3,1,[.int .i64 (y.shape.getD 1 0)]⟩,some ⟨3,1,[.int .i64 (x.shape.getD 0 0),.int .i64 (y.shape.getD 1 0)]⟩]:=⟨_,rfl⟩
   obtain ⟨G,hG⟩:=eG;rw [← hG]
   have hk':∀ q row,Qc H q=some row→Qc G q=some row:=fun q row hr=>by rw [hG];exact Qd hr _
   have h0:=hk' _ _ h0
   have h1:=hk' _ _ h1
   have h3:=hk' _ _ h3
   have hpb:Qc G H.length=some ⟨3,1,[.int .i64 (x.shape.getD 1 0)]⟩:=by rw [hG];simp [Qc]
   have hpc:Qc G (H.length+1)=some ⟨3,1,[.int .i64 (y.shape.getD 1 0)]⟩:=by rw [hG];simp [Qc]
   have hlit:Qc G (H.length+2)=some ⟨3,1,ints (Js x y)⟩:=by rw [hG];simp [Qc,Js,ints]
   obtain ⟨pb,hpbe⟩:∃ pb,pb=H.length:=⟨_,rfl⟩;obtain ⟨pc,hpce⟩:∃ pc,pc=H.length+1:=⟨_,rfl⟩;rw [← hpce,← hpbe];rw [← hpbe] at hpb;rw [← hpce] at hpc
   have hbor:=(Gd.flat (H.length+2) 2 _ 1 _ hlit (Qa _) (Xp _)).bor
   clear hG hk' hst mst2 a3 b3 hs2 h5 hlit
   have hpb2:3<pb:=by omega
   rw [show H.length+2=pc+1 by omega] at hbor
   rw [show pb+2=pc+1 by omega]
   have hpc2:pb<pc:=by omega
   refine (Val.ofPu mv rfl rfl).call ⟨hbor,trivial⟩ rfl ?_
   clear hbor hpce hpbe hL hm0 hm1 hn hk
   obtain ⟨a,ha⟩:∃ a:Nat,x.shape.getD 0 0=(a:Int):=⟨(x.shape.getD 0 0).toNat,by have:=Zq.1 x1 0 (by omega);omega⟩
   obtain ⟨b,hb⟩:∃ b:Nat,x.shape.getD 1 0=(b:Int):=⟨(x.shape.getD 1 0).toNat,by have:=Zq.1 x1 1 (by omega);omega⟩
   obtain ⟨c,hc⟩:∃ c:Nat,y.shape.getD 1 0=(c:Int):=⟨(y.shape.getD 1 0).toNat,by have:=Zq.1 y1 1 (by omega);omega⟩
   have hs2:∀ z:Row,Qc (G.set 2 (some z)) 2=some z:=fun z=>Qg h3
   by_cases hmp:Xa (Js x y)=0
   case neg =>
    refine zH4 h0 h1 h3 hs2 ?_;exact Qsj hE hmp
   rw [hmp] at hE ⊢;rw [hb] at hpb;rw [hc] at hpc
   have cpc:∀ Y,Qc (G++Y) pc=_:=fun Y=>Qd hpc Y
   have hSab:Js x y=[(a:Int),(c:Int)]:=by rw [Js,ha,hc]
   try rw [ha]
   try rw [hc]
   try rw [hb]
   refine zH5 h0 h1 hpb hpc cpc ?_
   have eG2:∃ G2:Qb,G2=G++[some ⟨3,1,[.int .i64 (a:Int),.int .i64 (c:Int)]⟩,some ⟨34,2,[.ref G.length 0 2,.nil]⟩]:=⟨_,rfl⟩
   obtain ⟨G2,hG2⟩:=eG2;rw [← hG2]
   have hk':∀ q row,Qc G q=some row→Qc G2 q=some row:=fun q row hr=>by rw [hG2];exact Qd hr _
   have h0:=hk' _ _ h0
   have h1:=hk' _ _ h1
   have h3:=hk' _ _ h3
   have hpb:=hk' _ _ hpb
   have hpc:=hk' _ _ hpc
   have hlt:=Xg (cpc [])
   rw [List.append_nil] at hlt;obtain ⟨q,hq⟩:∃ q,q=G.length:=⟨_,rfl⟩
   have hp:Qc G2 (G.length+1)=some ⟨34,2,[.ref G.length 0 2,.nil]⟩:=by rw [hG2];simp [Qc]
   have hw:Bv.Own 3 1 G2 (.ref G.length 0 2) 2 (ints (Js x y)):=.inr ⟨G.length,rfl,by rw [hG2,hSab];simp [Qc,ints],rfl⟩
   rw [← hq] at hp hw hlt ⊢
   clear hG2 hk' hq cpc hs2
   have ev:=Qy7 a c
   have hab:(x.el.length:Int)=(a:Int)*b:=by
    rw [xel];obtain ⟨s,hs⟩:∃ s,s=x.shape:=⟨_,rfl⟩;rw [← hs] at ha hb o1 ⊢
    match s,o1 with
    | [u,v],_=>simp only [List.getD_cons_zero,List.getD_cons_succ] at ha hb;simp [Qx,ha,hb]
   have hbc:(y.el.length:Int)=(b:Int)*c:=by
    rw [yel];obtain ⟨s,hs⟩:∃ s,s=y.shape:=⟨_,rfl⟩;rw [hb,← hs] at o3;rw [← hs] at hc o2 ⊢
    match s,o2 with
    | [u,v],_=>simp only [List.getD_cons_zero,List.getD_cons_succ] at o3 hc;simp [Qx,← o3,hc]
   have hac:=(Qu hmp).2.2
   rw [hSab] at hac
   have hac:(a:Int)*c≤1024:=by simpa [Qx] using hac
   refine Fc.pure ev (by simp [Qh,clo]) (fun g=>rfl) ?_
   have hev:Qy8 a c=.fn (.func 133) [] [.rp [.int .i64 (a:Nat)] 0,.rp [.int .i64 (c:Nat)] 0]:=rfl
   refine zH1 hev ?_
   have eL:Qei x y=⟨Js x y,(Qjc x y a b c).map Qt⟩:=by rw [Qei,ha,hb,hc];simp
   have hac1:a*c≤1024:=by exact_mod_cast hac
   have ha1:1≤a:=by have:=Zq.1 x1 0 (by omega);omega
   have hc1:1≤c:=by have:=Zq.1 y1 1 (by omega);omega
   have ha2:=Nat.le_mul_of_pos_right a (show 0<c by omega)
   have hc2:=Nat.le_mul_of_pos_left c (show 0<a by omega)
   have hDD:∀ i j k,k<b→i<a→j<c→RawOK (Qt (mmQ x y b c i j k))∧RawOK (Qt (Xm [x.el.getD (i*b+k) r0,y.el.getD (k*c+j) r0])):=fun i j k h1 h2 h3=>by
    have:=hD i j k (by rw [hb];simpa using h1) (by rw [ha];simpa using h2) (by rw [hc];simpa using h3)
    rw [hb,hc] at this;simpa using this
   refine Kt (g:=133) (lb:=[.rp [.int .i64 (a:Nat)] 0,.rp [.int .i64 (c:Nat)] 0]) (xs:=Qhr a c) (by simp -implicitDefEqProofs (maxSteps:=9^7) (disch:=first | omega | (simp only [Je];omega)) only [go_sem]) (by simp [Qh,clo]) (Xe0 a c (by omega) (by omega)) (fun bs hb=>by
    simp only [Qhr,List.mem_map,List.mem_range] at hb;obtain ⟨i,_,rfl⟩:=hb
    rfl) (fun m H=>∃ u,Qc H 0=some ⟨34,2,[.sl x.shape.length (ints x.shape),.sl x.el.length (Qv x.el)]⟩∧Qc H 1=some ⟨34,2,[.sl y.shape.length (ints y.shape),.sl y.el.length (Qv y.el)]⟩∧Qc H 2=some ⟨34,2,[.nil,.nil]⟩∧Qc H pb=some ⟨3,1,[.int .i64 (b:Int)]⟩∧Qc H pc=some ⟨3,1,[.int .i64 (c:Int)]⟩∧Qc H (q+1)=some ⟨34,2,[.ref q 0 2,u]⟩∧Bv.Own 3 1 H (.ref q 0 2) 2 (ints (Js x y))∧Bv.Own 70 3 H u m (Qv (((Qjc x y a b c).map Qt).take m))) ⟨.nil,h0,h1,h3,hpb,hpc,hp,hw,.nil _ _ _⟩ ?_ ?_
   ·rintro m us H hk ⟨u,h0,h1,h3,hpb,hpc,hp,hw,hu⟩ lp
    have hml:m<a*c:=by
     have:=(List.getElem?_eq_some_iff.1 hk).1
     rwa [Qgt] at this
    have hc0:0<c:=Nat.pos_of_ne_zero fun e=>by rw [e] at hml;simp at hml
    have hia:m/c<a:=Nat.div_lt_of_lt_mul (by rw [Nat.mul_comm];exact hml)
    have hjc:=Nat.mod_lt m hc0
    have hmd:m/c*c+m%c=m:=by rw [Nat.mul_comm];exact Nat.div_add_mod m c
    have hg:=Qow hia hjc
    rw [hmd,hk] at hg;injection hg with hg
    subst hg
    have hmm:((Qjc x y a b c).map Qt).take m++[Qt (mmQ x y b c (m/c) (m%c) b)]=((Qjc x y a b c).map Qt).take (m+1):=Qnl (g:=fun q=>mmQ x y b c (q/c) (q%c) b) hml
    generalize m/c=i at *;generalize m%c=j at *
    have hL:=Xg hp
    have mst:∀ (x:Row),Qc (H++[some x]) H.length=some x:=fun x=>Xo _ _
    have mst2:∀ (x y:Option Row),(H++[x]).set H.length y=H++[y]:=fun x y=>by rw [List.set_append_right _ _ (Nat.le_refl _),Nat.sub_self];rfl
    have epb:∀ Y,Qc (H++Y) pb=_:=fun Y=>Qd hpb Y
    (refine Qz Qf ?_;simp -implicitDefEqProofs (maxSteps:=9^7) (disch:=first | omega | (simp only [Je];omega)) only [go_sem,Qfu])
    (refine Qz Qf ?_;simp -implicitDefEqProofs (maxSteps:=9^7) (disch:=first | omega | (simp only [Je];omega)) only [go_sem,mst])
    refine (Qig 0 (by decide) (by decide)).call ⟨.self rfl,trivial⟩ (Qp (Qt (Yr 0))) ?_
    refine zH3 mst mst2 epb ?_
    have hur:=Xqg hu
    have eG:∃ G:Qb,G=H++[some ⟨70,3,[.bool (Yr 0).neg,.sl (dg B32 (Yr 0).num).length (Xh .u32 (dg B32 (Yr 0).num)),.sl (dg B32 (Yr 0).den).length (Xh .u32 (dg B32 (Yr 0).den))]⟩]:=⟨_,rfl⟩
    obtain ⟨G,hG⟩:=eG;rw [← hG]
    have hk':∀ q row,Qc H q=some row→Qc G q=some row:=fun q row hr=>by rw [hG];exact Qd hr _
    have h0:=hk' _ _ h0
    have h1:=hk' _ _ h1
    have h3:=hk' _ _ h3
    have hpb:=hk' _ _ hpb
    have hpc:=hk' _ _ hpc
    have hp:=hk' _ _ hp
    have hw:Bv.Own 3 1 G (.ref q 0 2) 2 (ints (Js x y)):=by rw [hG];exact hw.keep _
    have hu:Bv.Own 70 3 G u m (Qv (((Qjc x y a b c).map Qt).take m)):=by rw [hG];exact hu.keep _
    have hs:Qc G H.length=some ⟨70,3,[.bool (mmQ x y b c i j 0).neg,Xu (mmQ x y b c i j 0).num,Xu (mmQ x y b c i j 0).den]⟩:=by rw [hG];exact mst _
    obtain ⟨s,hse⟩:∃ s,s=H.length:=⟨_,rfl⟩;rw [← hse] at hs hL hur ⊢
    clear hG hk' mst mst2 epb hse
    have hus:∀ off n,u≠.ref s off n:=fun off n e1=>by have:=hur _ _ _ e1;omega
    refine Qj (fun n ts H=>∃ (k:Nat),(k≤b)∧(Qc H 0=some ⟨34,2,[.sl x.shape.length (ints x.shape),.sl x.el.length (Qv x.el)]⟩)∧(Qc H 1=some ⟨34,2,[.sl y.shape.length (ints y.shape),.sl y.el.length (Qv y.el)]⟩)∧(Qc H 2=some ⟨34,2,[.nil,.nil]⟩)∧(Qc H pb=some ⟨3,1,[.int .i64 (b:Int)]⟩)∧(Qc H pc=some ⟨3,1,[.int .i64 (c:Int)]⟩)∧(Qc H (q+1)=some ⟨34,2,[.ref q 0 2,u]⟩)∧(Bv.Own 3 1 H (.ref q 0 2) 2 (ints (Js x y)))∧(Bv.Own 70 3 H u m (Qv (((Qjc x y a b c).map Qt).take m)))∧(Qc H s=some ⟨70,3,[.bool (mmQ x y b c i j k).neg,Xu (mmQ x y b c i j k).num,Xu (mmQ x y b c i j k).den]⟩)∧(n=b - k)∧ts.length=118∧nth ts 2=.ptr 0 0∧nth ts 3=.ptr 1 0∧nth ts 10=.ptr pb 0∧nth ts 11=.ptr pc 0∧nth ts 13=.ptr (q+1) 0∧nth ts 14=.int .i64 (i:Int)∧nth ts 15=.int .i64 (j:Int)∧nth ts 16=.ptr s 0∧nth ts 85=.int .i64 (b:Int)∧nth ts 86=.int .i64 (k:Int)) ?_ (n:=b) ?_
    ·skip
     rintro n ts H ⟨k,hk,h0,h1,h3,hpb,hpc,hp,hw,hu,hs,hn,hL,hs2,hs3,hs10,hs11,hs13,hs14,hs15,hs16,hs85,hs86⟩;refine Xc [(2,.ptr 0 0),(3,.ptr 1 0),(10,.ptr pb 0),(11,.ptr pc 0),(13,.ptr (q+1) 0),(14,.int .i64 (i:Int)),(15,.int .i64 (j:Int)),(16,.ptr s 0),(85,.int .i64 (b:Int)),(86,.int .i64 (k:Int))] hL (by simp only [zFm,hs2,hs3,hs10,hs11,hs13,hs14,hs15,hs16,hs85,hs86,true_and];exact zNm) ?_
     clear hL hs2 hs3 hs10 hs11 hs13 hs14 hs15 hs16 hs85 hs86 ts
     refine Qz Qf ?_;subst hn;by_cases hkb:k<b
     ·have m1:=Nat.mul_le_mul_right b (show i+1≤a by omega)
      have m2:=Nat.mul_le_mul_right c (show k+1≤b by omega)
      rw [Nat.succ_mul] at m1 m2
      have xel':x.el.length=a*b:=by exact_mod_cast hab
      have yel':y.el.length=b*c:=by exact_mod_cast hbc
      have hxl:x.el.length≤1024:=by omega
      have hyl:y.el.length≤1024:=by omega
      have w1:IntKind.wrap .i64 ((i:Int)*(b:Int))=((i*b:Nat):Int):=by rw [Int.natCast_mul,Qk8]<;>(rw [← Int.natCast_mul];omega)
      have w2:IntKind.wrap .i64 ((k:Int)*(c:Int))=((k*c:Nat):Int):=by rw [Int.natCast_mul,Qk8]<;>(rw [← Int.natCast_mul];omega)
      obtain ⟨d1,d2⟩:=hDD i j k hkb hia hjc
      have rm:=Qlf (x.el.getD (i*b+k) r0) (y.el.getD (k*c+j) r0) (hx.get (by omega)) (hy.get (by omega))
      have ra:Pu C 70 [Kj (mmQ x y b c i j k),Kj (Xm [x.el.getD (i*b+k) r0,y.el.getD (k*c+j) r0])] (Kj (mmQ x y b c i j (k+1))):=Qh6 (Qt (mmQ x y b c i j k)) (Qt (Xm [x.el.getD (i*b+k) r0,y.el.getD (k*c+j) r0])) d1 d2
      generalize hDD':mmQ x y b c i j (k+1)=D' at *;generalize mmQ x y b c i j k=D at *;generalize hib:i*b=ib at *;generalize hkc:k*c=kc at *;refine zH7 h0 h1 hpb hpc hs w1 w2 ?_;generalize Xm [x.el.getD (ib+k) r0,y.el.getD (kc+j) r0]=Pq at *;refine Pc.pure rm (by simp [Qh,clo,Qm]) (fun g=>Qy _ _ (Qp (Qt Pq))) ?_
      refine zG ?_;refine Pc.pure ra (by simp [Qh,clo,Qm]) (fun g=>Qy _ _ (Qp (Qt D'))) ?_
      refine zH1 hs ?_;refine ⟨b - (k+1),by omega,k+1,by omega, ?_, ?_, ?_, ?_, ?_, ?_,Ym hw hs (by decide),Xdd hu hus, ?_,rfl,(by (repeat' apply And.intro)<;>(first | rfl | omega | (congr 1;omega) | assumption | (congr 1;assumption)))⟩
      ·rw [Qe _ (by omega)];exact h0
      ·rw [Qe _ (by omega)];exact h1
      ·rw [Qe _ (by omega)];exact h3
      ·rw [Qe _ (by omega)];exact hpb
      ·rw [Qe _ (by omega)];exact hpc
      ·rw [Qe _ (by omega)];exact hp
      ·rw [hDD'];exact Qg hs
     ·obtain rfl:k=b:=by omega
      obtain ⟨k4,c4,s4⟩:=Qbm hu
      have ep:∀ Y,Qc (H++Y) (q+1)=_:=fun Y=>Qd hp Y
      refine zH6 hp ep hs k4 c4 s4 ?_;refine Qn1 hu (by simp [Qjc];omega) rfl rfl (by simp [Qjc];omega) fun H' hu' hF' hl'=>?_
      have g0:=Xz hu hF' h0 (by decide)
      have g1:=Xz hu hF' h1 (by decide)
      have g3:=Xz hu hF' h3 (by decide)
      have gpb:=Xz hu hF' hpb (by decide)
      have gpc:=Xz hu hF' hpc (by decide)
      have gp:=Xz hu hF' hp (by decide)
      have gw:=hw.fr hF' (Qln hu hw (by decide))
      rw [hmm] at hu'
      (apply Zo;repeat' ((with_reducible first|apply Zk|apply zBr<;>intro h)<;>try simp -implicitDefEqProofs (maxSteps:=9^7) (disch:=first|exact zDs|fail) only [go_sem,gp,Jq]))
      refine ⟨_, ?_, ?_, ?_, ?_, ?_,Qg gp,Ym gw gp (by decide),Ym hu' gp (by decide)⟩
      ·rw [Qe _ (by omega)];exact g0
      ·rw [Qe _ (by omega)];exact g1
      ·rw [Qe _ (by omega)];exact g3
      ·rw [Qe _ (by omega)];exact gpb
      ·rw [Qe _ (by omega)];exact gpc
    ·exact ⟨0,by omega,h0,h1,h3,hpb,hpc,hp,hw,hu,hs,rfl,rfl,rfl,rfl,rfl,rfl,rfl,rfl,rfl,rfl,rfl,rfl⟩
   ·rintro H ⟨u,h0,h1,h3,hpb,hpc,hp,hw,hu⟩;rw [Qgt] at hu
    have hs2:∀ z:Row,Qc (H.set 2 (some z)) 2=some z:=fun z=>Qg h3
    obtain ⟨k4,c4,s4⟩:=Qbm hu;refine zH6 hp h3 hs2 k4 c4 s4 ?_
    have hw':=Ym (z:=some ⟨34,2,[.ref q 0 2,u]⟩) hw h3 (by decide)
    have hu':=Ym (z:=some ⟨34,2,[.ref q 0 2,u]⟩) hu h3 (by decide)
    rw [List.take_of_length_le (by simp [Qjc])] at hu'
    rw [mmP,if_pos hE];refine ⟨.ref q 0 2,u,rfl,hw', ?_⟩;rw [eL];simpa [Qjc] using hu'
 ·exact ⟨0,by omega,rfl,rfl,rfl,rfl,rfl,fun h=>by omega,fun h=>by omega,rfl,rfl,rfl,rfl,rfl,rfl,rfl⟩
theorem Qvb (x y:Tn) (hx:TnOK x) (hy:TnOK y) (hD:∀ i j k,k<(x.shape.getD 1 0).toNat→i<(x.shape.getD 0 0).toNat→j<(y.shape.getD 1 0).toNat→RawOK (Qt (mmQ x y (x.shape.getD 1 0).toNat (y.shape.getD 1 0).toNat i j k))∧RawOK (Qt (Xm [x.el.getD (i*(x.shape.getD 1 0).toNat+k) r0,y.el.getD (k*(y.shape.getD 1 0).toNat+j) r0]))) :
  Pu C 36 [tnV x,tnV y] (.tup [tnV (Kv (Qei x y) (Qej x y)),.int .i64 (Qej x y)]):=by
 refine Pu.ofBor (Xx _ _) (Fc.mono (Qof x y hx hy hD) fun v H hv=>?_)
 unfold mmP at hv;split at hv
 ·rename_i h0;obtain ⟨w,u,rfl,hw,hu⟩:=hv;rw [h0,Ye rfl];exact Bor.tupL ⟨Bor.aggL ⟨Qbg hw (Qa _),Qbg hu (Qi _),trivial⟩,.self rfl,trivial⟩
 ·rename_i h0;subst hv;exact Qbq rfl h0
def atE (t:Tn) (l:List Int):Int:=if Xv t≠0 then Xv t else Qco t.shape l
def atQ (t:Tn) (l:List Int):Rq:=if atE t l=0 then Xd (t.el.getD (Qf0 t.shape l).toNat r0) else ⟨false,0,0⟩
theorem Xru (t:Tn) (ht:TnOK t) (l:List Int) (hl:l.length≤1000000000):Val C 135 [tnV t,.sl l.length (ints l)] (.tup [Kj (atQ t l),.int .i64 (atE t l)]):=by
 have tm:=Zr t ht
 have ov:=Qe4 t.shape l ht.s hl
 have hs:=ht.s
 have gz:∀ {H:Qb} {e:Int},e≠0→atE t l=e→Gd H (.tup [.agg [.bool false,.nil,.nil],.int .i64 e]) (.tup [Kj (atQ t l),.int .i64 (atE t l)]):=fun he hE=>by
  rw [atQ,if_neg (by omega),hE]
  refine Gd.tupL ⟨Gd.aggL ⟨Qg3 _, ?_, ?_,trivial⟩,Qiv _ _,trivial⟩
  all_goals (rw [Qq1];exact .nil _)
 refine zK Qf Tryz.func135 w135 Tryz.ntmps135 Tryz.results135 ?_;refine zG ?_;refine Fc.pure tm (by simp [Qh,clo,Qa,Qi]) (fun g=>rfl) ?_
 by_cases hm:Xv t=0
 case neg =>
  refine zG ?_;exact Gd.ret (gz hm (by rw [atE,if_pos hm]))
 rw [hm]
 have hE:atE t l=Qco t.shape l:=by rw [atE,if_neg (by omega)]
 refine zG ?_;refine Fc.pure ov (by simp [Qh,clo,Qa]) (fun g=>rfl) ?_
 by_cases hz:Qco t.shape l=0
 case neg =>
  refine zG ?_;exact Gd.ret (gz hz hE)
 rw [hz] at hE ⊢;obtain ⟨o1,o2, -⟩:=Qkg hz
 have hel:=(Zs hm).2.2
 obtain ⟨p,hp⟩:∃ p:Nat,Qf0 t.shape l=(p:Int):=⟨(Qf0 t.shape l).toNat,by omega⟩
 have hpl:p<t.el.length:=by omega
 have hQ:atQ t l=Xd (t.el.getD p r0):=by rw [atQ,if_pos hE,hp,Int.toNat_natCast]
 have nv:=Qas (t.el.getD p r0) (ht.get hpl)
 rw [hQ,hE,hp];generalize Xd (t.el.getD p r0)=R at *;refine zG ?_;refine nv.keptF ⟨.self (Qp _),trivial⟩ fun v X hv=>?_
 obtain ⟨v1,v2,v3,rfl,hv1,hv2,hv3⟩:=hv.agg3;obtain ⟨k2,c2,s2⟩:=Yv hv2.gd;obtain ⟨k3,c3,s3⟩:=Yv hv3.gd
 have eb:=hv1.gd.bool_inv
 subst eb;refine zH6 k2 c2 s2 k3 c3 s3 ?_;exact Gd.ret (Gd.tupL ⟨Gd.aggL ⟨Qg3 _,(hv2.set (q:=1) (by simp) _).gd,(hv3.set (q:=1) (by simp) _).gd,trivial⟩,Qiv _ _,trivial⟩)
def Qdo (t:Tn) (x:List Int):Rq:=atQ t (brL t.shape x)
theorem Qxg (t:Tn) (ht:TnOK t) (x:List Int) (hx:x.length≤1000) (hsx:t.shape.length≤x.length) (hb:∀ j,j<x.length→0≤x.getD j 0∧x.getD j 0≤1024) (h1:∀ j,j<t.shape.length→1≤t.shape.getD j 0∧t.shape.getD j 0≤1024) :
  Val C 89 [tnV t,.sl x.length (ints x)] (Kj (Qdo t x)):=by
 have hs:=ht.s
 obtain ⟨k0,hk0⟩:∃ k0:Nat,x.length - t.shape.length=k0:=⟨_,rfl⟩
 have e1:(x.length:Int) - (t.shape.length:Int)=(k0:Nat):=by omega
 have hyl:(x.drop k0).length=t.shape.length:=by rw [List.length_drop];omega
 have hbr:brL t.shape x=Kb (brF t.shape (x.drop k0)) (x.drop k0) t.shape.length:=by rw [brL,hk0]
 have hk0x:k0≤x.length:=by omega
 have hidr:=Qq7 x k0
 have hxk:x.length - k0=(x.drop k0).length:=by rw [List.length_drop]
 have hav:=Xru t ht (brL t.shape x) (by rw [hbr,Jy];omega)
 unfold Qdo;generalize atE t (brL t.shape x)=ae at hav;generalize atQ t (brL t.shape x)=aq at hav ⊢;rw [hbr] at hav;refine zK Qf Tryz.func89 w89 Tryz.ntmps89 Tryz.results89 ?_;refine zH3 e1 hidr hxk ?_
 have hyb:(x.drop k0).length≤1000:=by omega
 clear hbr hidr hxk
 generalize x.drop k0=y at *;refine Fc.ownL (Qaz y (by omega)) ⟨.self (by simp [clo,Qa]),trivial⟩ (fun g=>Ql g _) (Xp _) fun v X hv0=>?_
 obtain ⟨k1,c1,s1⟩:=Qbm hv0;refine zH3 k1 c1 s1 ?_;rw [hyl] at hv0;refine Qj (fun n ts H=>∃ (k:Nat),(k≤t.shape.length)∧(Qc H 0=some ⟨34,2,[.sl t.shape.length (ints t.shape),.sl t.el.length (Qv t.el)]⟩)∧(Qc H 1=some ⟨70,3,[.bool false,.nil,.nil]⟩)∧(n=t.shape.length - k)∧(Bv.Own 3 1 H v t.shape.length (ints (Kb (brF t.shape y) y k)))∧ts.length=44∧nth ts 1=v∧nth ts 2=.ptr 0 0∧nth ts 4=.ptr 1 0∧nth ts 19=.sl t.shape.length (ints t.shape)∧nth ts 20=.int .i64 t.shape.length∧nth ts 21=.int .i64 (k:Nat)) ?_ (n:=t.shape.length) ?_
 ·skip
  rintro n ts H ⟨k,hk,h0,h2,hn,hv,hL,hs1,hs2,hs4,hs19,hs20,hs21⟩;refine Xc [(1,v),(2,.ptr 0 0),(4,.ptr 1 0),(19,.sl t.shape.length (ints t.shape)),(20,.int .i64 t.shape.length),(21,.int .i64 (k:Nat))] hL (by simp only [zFm,hs1,hs2,hs4,hs19,hs20,hs21,true_and];exact zNm) ?_
  clear hL hs1 hs2 hs4 hs19 hs20 hs21 ts
  refine Qz Qf ?_;by_cases hkl:k<t.shape.length
  ·obtain ⟨-,h0', -⟩ | ⟨r,rfl,hr, -⟩:=hv
   ·omega
   have hdg:=Qil (f:=brF t.shape y) (x:=y) (k:=k) (by omega)
   have hdl:=Jy (brF t.shape y) y k
   have hds:(Kb (brF t.shape y) y k).set k (if t.shape.getD k 0 - 1<y.getD k 0 then t.shape.getD k 0 - 1 else y.getD k 0)=Kb (brF t.shape y) y (k+1):=Qgv (f:=brF t.shape y) (x:=y) (k:=k) (by omega)
   have hb':=h1 k hkl
   have q0:r≠0:=fun e=>by rw [e,h0] at hr;cases hr
   have q1:r≠1:=fun e=>by rw [e,h2] at hr;cases hr
   refine zH4 hr hdg Qao hds ?_;exact ⟨t.shape.length - (k+1),by omega,k+1,by omega,by rw [Qe _ q0];exact h0,by rw [Qe _ q1];exact h2,rfl,.inr ⟨r,rfl,Qg hr,by rw [Yj,Jy];omega⟩,(by (repeat' apply And.intro)<;>(first | rfl | omega | (congr 1;omega) | assumption | (congr 1;assumption)))⟩
  ·have hks:k=t.shape.length:=by omega
   subst hks;rw [Jy,hyl] at hav;refine zH4 k1 c1 s1 h0 ?_;refine hav.keptF ⟨.self (Qcc _),hv.bor' (Qa _),trivial⟩ fun w X2 hw=>?_
   obtain ⟨z,e,rfl,hz,he⟩:=hw.tup2;obtain ⟨v1,v2,v3,rfl,hv1,hv2,hv3⟩:=hz.agg3;obtain ⟨k2,c2,s2⟩:=Yv hv2.gd;obtain ⟨k3,c3,s3⟩:=Yv hv3.gd
   have eb:=hv1.gd.bool_inv
   subst eb;rw [he.gd.int_inv]
   have q2:=Qd h2 X2
   have hL:=Xg q2
   have hL0:=Xg h2
   generalize hG:H++X2=G at *
   have mst:∀ (x:Row),Qc (G++[some x]) G.length=some x:=fun x=>Xo _ _
   have mst2:∀ (x y:Option Row),(G++[x]).set G.length y=G++[y]:=fun x y=>by rw [List.set_append_right _ _ (Nat.le_refl _),Nat.sub_self];rfl
   have cq:∀ Y,Qc (G++Y) 1=_:=fun Y=>Qd q2 Y
   have cs1:∀ Y (z:Row),Qc ((G++Y).set 1 (some z)) 1=some z:=fun Y z=>Qg (cq Y)
   (apply Zo;repeat' ((with_reducible first|apply Zk|apply zBr<;>intro h)<;>try simp -implicitDefEqProofs (maxSteps:=9^7) (disch:=first|exact zDs|fail) only [go_sem,k2,c2,s2,k3,c3,s3,mst,mst2,cq,cs1]))
   exact Gd.ret (Gd.aggL ⟨Qg3 _,((hv2.app _).set (q:=1) (by omega) _).gd,((hv3.app _).set (q:=1) (by omega) _).gd,trivial⟩)
 ·exact ⟨0,by omega,rfl,rfl,rfl,by rw [Qgu];exact hv0,rfl,rfl,rfl,rfl,rfl,rfl,rfl⟩
theorem Qqu {e s:Nat} {H H':Qb} {v:V} {n:Nat} {cs:List V} (h:Bv.Own e s H' v n cs) (hc:Qh cs=true):Bv.Own e s (H++Qbf (shift H.length) H') (ren (shift H.length) v) n cs:=by
 rcases h with ⟨rfl,rfl,rfl⟩ | ⟨r,rfl,h2,h3⟩
 ·exact .inl ⟨rfl,rfl,rfl⟩
 ·have:=Qh5 (H:=H) (Bv.shift H.length) h2
  refine .inr ⟨r+H.length,rfl, ?_,h3⟩;rw [this,Kz,Yt _ _ hc]
def Qg2 (x y z:Tn):Nat→List Raw
 | 0=>(Qei x y).el
 | i+1=>(Qg2 x y z i).set i (Qt (Qez (Xd ((Qg2 x y z i).getD i r0)) (Xd (Qt (Qdo z (Jk (Js x y) (i:Nat)))))))
theorem Qkv (x y z:Tn):∀ i,(Qg2 x y z i).length=(Qei x y).el.length
 | 0=>rfl
 | i+1=>by rw [Qg2,List.length_set,Qkv x y z i]
def Qor (x y z:Tn):Int:=if Xv x≠0 then Xv x else if Xv y≠0 then Xv y else if Xv z≠0 then Xv z else if Qej x y≠0 then Qej x y else Qad z.shape (Js x y)
def Xtu (x y z:Tn):Tn:=⟨Js x y,Qg2 x y z (Qei x y).el.length⟩
theorem Xer (x y z:Tn) (hx:TnOK x) (hy:TnOK y) (hz:TnOK z) (hD:∀ i j k,k<(x.shape.getD 1 0).toNat→i<(x.shape.getD 0 0).toNat→j<(y.shape.getD 1 0).toNat→RawOK (Qt (mmQ x y (x.shape.getD 1 0).toNat (y.shape.getD 1 0).toNat i j k))∧RawOK (Qt (Xm [x.el.getD (i*(x.shape.getD 1 0).toNat+k) r0,y.el.getD (k*(y.shape.getD 1 0).toNat+j) r0])))
  (hG:∀ i,i<(Qei x y).el.length→RawOK ((Qg2 x y z i).getD i r0)∧RawOK (Qt (Qdo z (Jk (Js x y) (i:Nat))))) :
  Pu C 37 [tnV x,tnV y,tnV z] (.tup [tnV (Kv (Xtu x y z) (Qor x y z)),.int .i64 (Qor x y z)]):=by
 have tx:=Zr x hx
 have ty:=Zr y hy
 have tz:=Zr z hz
 have hxs:=hx.s
 have hys:=hy.s
 have hzs:=hz.s
 have hxe:=hx.e
 have hye:=hy.e
 have hze:=hz.e
 refine Pu.ofBor (Xx _ _) ?_;refine zL Qf Tryz.func37 w37 Tryz.ntmps37 Tryz.results37 ?_;refine zG ?_;refine Qj (fun n ts H=>∃ (k:Nat),(k≤3)∧(n=3 - k)∧(Qc H 0=some ⟨34,2,[.sl x.shape.length (ints x.shape),.sl x.el.length (Qv x.el)]⟩)∧(Qc H 1=some ⟨34,2,[.sl y.shape.length (ints y.shape),.sl y.el.length (Qv y.el)]⟩)∧(Qc H 2=some ⟨34,2,[.sl z.shape.length (ints z.shape),.sl z.el.length (Qv z.el)]⟩)∧(Qc H 3=some ⟨34,2,[.nil,.nil]⟩)∧(Qc H 4=some ⟨34,2,[.sl x.shape.length (ints x.shape),.sl x.el.length (Qv x.el),.sl y.shape.length (ints y.shape),.sl y.el.length (Qv y.el),.sl z.shape.length (ints z.shape),.sl z.el.length (Qv z.el)]⟩)∧((0<k→Xv x=0))∧((1<k→Xv y=0))∧((2<k→Xv z=0))∧ts.length=79∧nth ts 3=.ptr 0 0∧nth ts 4=.ptr 1 0∧nth ts 5=.ptr 2 0∧nth ts 6=.ptr 3 0∧nth ts 21=.ref 4 0 3∧nth ts 22=.int .i64 3∧nth ts 23=.int .i64 (k:Nat)) ?_ (n:=3) ?_
 ·skip
  rintro n ts H ⟨k,hk,hn,h0,h1,h2,h3,h5,hm0,hm1,hm2,hL,hs3,hs4,hs5,hs6,hs21,hs22,hs23⟩;refine Xc [(3,.ptr 0 0),(4,.ptr 1 0),(5,.ptr 2 0),(6,.ptr 3 0),(21,.ref 4 0 3),(22,.int .i64 3),(23,.int .i64 (k:Nat))] hL (by simp only [zFm,hs3,hs4,hs5,hs6,hs21,hs22,hs23,true_and];exact zNm) ?_
  clear hL hs3 hs4 hs5 hs6 hs21 hs22 hs23 ts
  refine Qz Qf ?_
  have hk':k=0∨k=1∨k=2∨k=3:=by omega
  have hst:∀ (x:Row),Qc (H++[some x]) H.length=some x:=fun x=>Xo _ _
  have hL:=Xg h5
  have mst2:∀ (x y:Option Row),(H++[x]).set H.length y=H++[y]:=fun x y=>by rw [List.set_append_right _ _ (Nat.le_refl _),Nat.sub_self];rfl
  have a3:∀ Y,Qc (H++Y) 3=some ⟨34,2,[.nil,.nil]⟩:=fun Y=>Qd h3 Y
  have b3:∀ Y row,Qc ((H++Y).set 3 (some row)) 3=some row:=fun Y row=>Qg (a3 Y)
  rcases hk' with rfl | rfl | rfl | rfl
  ·by_cases hm:Xv x=0
   ·rw [hm] at tx;refine zH3 h5 hst mst2 ?_;refine Fc.pure tx (by simp [Qh,clo,Qa,Qi]) (fun g=>rfl) ?_
    refine zG ?_;exact ⟨2,by omega,1,by omega,rfl,Qd h0 _,Qd h1 _,Qd h2 _,Qd h3 _,Qd h5 _,fun _=>hm,fun h=>by omega,fun h=>by omega,(by (repeat' apply And.intro)<;>(first | rfl | omega | (congr 1;omega) | assumption | (congr 1;assumption)))⟩
   ·skip
    refine zH3 h5 hst mst2 ?_;refine Fc.pure tx (by simp [Qh,clo,Qa,Qi]) (fun g=>rfl) ?_
    refine zH2 a3 b3 ?_;exact Qbq (by rw [Qor,if_pos hm]) hm
  ·have hm0:=hm0 (by omega)
   by_cases hm:Xv y=0
   ·rw [hm] at ty;refine zH3 h5 hst mst2 ?_;refine Fc.pure ty (by simp [Qh,clo,Qa,Qi]) (fun g=>rfl) ?_
    refine zG ?_;exact ⟨1,by omega,2,by omega,rfl,Qd h0 _,Qd h1 _,Qd h2 _,Qd h3 _,Qd h5 _,fun _=>hm0,fun _=>hm,fun h=>by omega,(by (repeat' apply And.intro)<;>(first | rfl | omega | (congr 1;omega) | assumption | (congr 1;assumption)))⟩
   ·skip
    refine zH3 h5 hst mst2 ?_;refine Fc.pure ty (by simp [Qh,clo,Qa,Qi]) (fun g=>rfl) ?_
    refine zH2 a3 b3 ?_;exact Qbq (by rw [Qor,if_neg (by omega),if_pos hm]) hm
  ·have hm0:=hm0 (by omega)
   have hm1:=hm1 (by omega)
   by_cases hm:Xv z=0
   ·rw [hm] at tz;refine zH3 h5 hst mst2 ?_;refine Fc.pure tz (by simp [Qh,clo,Qa,Qi]) (fun g=>rfl) ?_
    refine zG ?_;exact ⟨0,by omega,3,by omega,rfl,Qd h0 _,Qd h1 _,Qd h2 _,Qd h3 _,Qd h5 _,fun _=>hm0,fun _=>hm1,fun _=>hm,(by (repeat' apply And.intro)<;>(first | rfl | omega | (congr 1;omega) | assumption | (congr 1;assumption)))⟩
   ·skip
    refine zH3 h5 hst mst2 ?_;refine Fc.pure tz (by simp [Qh,clo,Qa,Qi]) (fun g=>rfl) ?_
    refine zH2 a3 b3 ?_;exact Qbq (by rw [Qor,if_neg (by omega),if_neg (by omega),if_pos hm]) hm
  ·have hm0:=hm0 (by omega)
   have hm1:=hm1 (by omega)
   have hm2:=hm2 (by omega)
   have mm:=Qof x y hx hy hD
   refine zH2 h0 h1 ?_;refine mm.call (by simp [Qh,Qcc]) fun v H' hv=>?_
   unfold mmP at hv;by_cases hE:Qej x y=0
   case neg =>
    rw [if_neg hE] at hv;subst hv
    have hgE:Qor x y z=Qej x y:=by rw [Qor,if_neg (by omega),if_neg (by omega),if_neg (by omega),if_pos hE]
    simp only [ren,Qk];generalize Qbf (shift H.length) H'=X
    have h3:=Qd h3 X
    clear a3 b3 hst mst2 h0 h1 h2 h5 hL
    generalize H++X=G at *
    have a3:∀ Y,Qc (G++Y) 3=some ⟨34,2,[.nil,.nil]⟩:=fun Y=>Qd h3 Y
    have b3:∀ Y row,Qc ((G++Y).set 3 (some row)) 3=some row:=fun Y row=>Qg (a3 Y)
    have hst:∀ (x:Row),Qc (G++[some x]) G.length=some x:=fun x=>Xo _ _
    have mst2:∀ (x y:Option Row),(G++[x]).set G.length y=G++[y]:=fun x y=>by rw [List.set_append_right _ _ (Nat.le_refl _),Nat.sub_self];rfl
    refine zH4 hst mst2 a3 b3 ?_;exact Qbq hgE hE
   rw [if_pos hE] at hv;obtain ⟨w,u,rfl,hw,hu⟩:=hv
   have hw:=Qqu (H:=H) hw (Qa _)
   have hu:=Qqu (H:=H) hu (Qi _)
   simp only [ren,Qk]
   have hgE:Qor x y z=Qad z.shape (Js x y):=by rw [Qor,if_neg (by omega),if_neg (by omega),if_neg (by omega),if_neg (by omega)]
   have h0:=Qd h0 (Qbf (shift H.length) H')
   have h2:=Qd h2 (Qbf (shift H.length) H')
   have h3:=Qd h3 (Qbf (shift H.length) H')
   generalize ren (shift H.length) w=w at *;generalize ren (shift H.length) u=u at *
   clear a3 b3 hst mst2 h1 h5 hL
   generalize H++Qbf (shift H.length) H'=G at *;obtain ⟨k0,c0,s0⟩:=Qbm hw;obtain ⟨k1,c1,s1⟩:=Qbm hu
   have hst:∀ (x:Row),Qc (G++[some x]) G.length=some x:=fun x=>Xo _ _
   have mst2:∀ (x y:Option Row),(G++[x]).set G.length y=G++[y]:=fun x y=>by rw [List.set_append_right _ _ (Nat.le_refl _),Nat.sub_self];rfl
   have a2:∀ Y,Qc (G++Y) 2=_:=fun Y=>Qd h2 Y
   have fs:=Qit z.shape (Js x y) (by omega) (by simp [Js])
   (apply Zo;repeat' ((with_reducible first|apply Zk|apply zBr<;>intro h)<;>try simp -implicitDefEqProofs (maxSteps:=9^7) (disch:=first|exact zDs|fail) only [go_sem,hst,mst2,a2,k0,c0,s0,k1,c1,s1]))
   have eP:∃ F:Qb,F=G++[some ⟨34,2,[w,u]⟩]:=⟨_,rfl⟩
   obtain ⟨F,hF⟩:=eP;rw [← hF]
   have hL:=Xg h3
   have hk':∀ q row,Qc G q=some row→Qc F q=some row:=fun q row hr=>by rw [hF];exact Qd hr _
   have h2:=hk' _ _ h2
   have h3:=hk' _ _ h3
   have hp:Qc F G.length=some ⟨34,2,[w,u]⟩:=by rw [hF];exact hst _
   have hw:Bv.Own 3 1 F w (Js x y).length (ints (Js x y)):=by rw [hF];exact hw.keep _
   have hu:Bv.Own 70 3 F u (Qei x y).el.length (Qv (Qei x y).el):=by rw [hF];exact hu.keep _
   obtain ⟨P,hP⟩:∃ P,P=G.length:=⟨_,rfl⟩;rw [← hP] at hp hL ⊢
   clear hF hk' hst mst2 a2 hP
   refine (Val.ofPu fs rfl rfl).call ⟨.self (by simp [clo,Qa]),hw.bor' (Qa _),trivial⟩ rfl ?_
   by_cases hf:Qad z.shape (Js x y)=0
   case neg =>
    have hs3:∀ z:Row,Qc (F.set 3 (some z)) 3=some z:=fun z=>Qg h3
    refine zH2 h3 hs3 ?_;exact Qbq hgE hf
   rw [hf] at hgE ⊢;rw [hgE,Ye rfl];obtain ⟨hmS,hok⟩:Xa (Js x y)=0∧(Xa z.shape=0∧okB z.shape (Js x y)=true):=by
    rw [Qej,if_neg (by omega),if_neg (by omega)] at hE
    have hmS:Xa (Js x y)=0:=by
     split at hE
     ·omega
     ·exact hE
    by_cases hz0:Xa z.shape=0
    ·rw [Qad,if_pos hz0,if_pos hmS] at hf;cases hok:okB z.shape (Js x y) with
     | true=>exact ⟨hmS,hz0,rfl⟩
     | false=>rw [hok] at hf;exact absurd hf (by decide)
    ·rw [Qad,if_neg hz0] at hf;exact absurd hf hz0
   obtain ⟨hz0,hok⟩:=hok;obtain ⟨o1, -⟩:=(Qkf _ _).1 hok;obtain ⟨m1,m2,m3⟩:=Qu hmS;obtain ⟨z1,z2,z3⟩:=Qu hz0
   have hN:((Qei x y).el.length:Int)=Qx (Js x y):=by
    have d0:1≤x.shape.getD 0 0:=m2 _ (by simp [Js])
    have d1:1≤y.shape.getD 1 0:=m2 _ (by simp [Js])
    have e:(Qei x y).el.length=(x.shape.getD 0 0).toNat*(y.shape.getD 1 0).toNat:=by simp [Qei,Qjc]
    rw [e,Int.natCast_mul,Int.toNat_of_nonneg (by omega),Int.toNat_of_nonneg (by omega)]
    simp [Js,Qx]
   have hlen:=Qkv x y z
   have e0:(Qei x y).el=Qg2 x y z 0:=rfl
   have hl2:(Js x y).length=2:=rfl
   rw [e0] at hu
   have hgl:(Xtu x y z)=⟨Js x y,Qg2 x y z (Qei x y).el.length⟩:=rfl
   obtain ⟨N,hNN⟩:∃ N,(Qei x y).el.length=N:=⟨_,rfl⟩;obtain ⟨S,hS⟩:∃ S,Js x y=S:=⟨_,rfl⟩;rw [← e0,hNN,e0] at hu;rw [hNN] at hN hlen hG hgl;rw [hS] at hmS hok o1 m1 m2 m3 hN hw hG hl2 hgl;rw [hgl]
   have hgs:∀ i,Qg2 x y z (i+1)=(Qg2 x y z i).set i (Qt (Qez (Xd ((Qg2 x y z i).getD i r0)) (Xd (Qt (Qdo z (Jk S (i:Nat))))))):=fun i=>by rw [Qg2,hS]
   generalize Qg2 x y z=g at *
   have hlw:=hu.lenw (C.ty 32)
   refine zH5 hp k1 c1 s1 hlw ?_
   clear hlw tx ty tz mm hE fs hgE hf hgl e0 hNN hS
   refine Qj (fun n ts H=>∃ (k:Nat),(k≤N)∧(Qc H 2=some ⟨34,2,[.sl z.shape.length (ints z.shape),.sl z.el.length (Qv z.el)]⟩)∧(Qc H 3=some ⟨34,2,[.nil,.nil]⟩)∧(Qc H P=some ⟨34,2,[w,u]⟩)∧(Bv.Own 3 1 H w S.length (ints S))∧(Bv.Own 70 3 H u N (Qv (g k)))∧(n=N - k)∧ts.length=79∧nth ts 5=.ptr 2 0∧nth ts 6=.ptr 3 0∧nth ts 11=.ptr P 0∧nth ts 54=u∧nth ts 55=.int .i64 (N:Nat)∧nth ts 56=.int .i64 (k:Nat)) ?_ (n:=N) ?_
   ·skip
    rintro n ts H ⟨k,hk,h2,h3,hp,hw,hu,hn,hL,hs5,hs6,hs11,hs54,hs55,hs56⟩;refine Xc [(5,.ptr 2 0),(6,.ptr 3 0),(11,.ptr P 0),(54,u),(55,.int .i64 (N:Nat)),(56,.int .i64 (k:Nat))] hL (by simp only [zFm,hs5,hs6,hs11,hs54,hs55,hs56,true_and];exact zNm) ?_
    clear hL hs5 hs6 hs11 hs54 hs55 hs56 ts
    refine Qz Qf ?_;subst hn;by_cases hkN:k<N
    ·obtain ⟨-,h0', -⟩ | ⟨r,rfl,hr, -⟩:=hu
     ·omega
     obtain ⟨hg1,hg2⟩:=hG k hkN
     have hlk:=hlen k
     have hL:=Xg hp
     have mst:∀ (x:Row),Qc (H++[some x]) H.length=some x:=fun x=>Xo _ _
     have mst2:∀ (x y:Option Row),(H++[x]).set H.length y=H++[y]:=fun x y=>by rw [List.set_append_right _ _ (Nat.le_refl _),Nat.sub_self];rfl
     refine zH3 hr mst mst2 ?_
     have eG:∃ G:Qb,G=H++[some ⟨70,3,[.bool ((g k).getD k r0).neg,.sl ((g k).getD k r0).num.length (Xh .u32 ((g k).getD k r0).num),.sl ((g k).getD k r0).den.length (Xh .u32 ((g k).getD k r0).den)]⟩]:=⟨_,rfl⟩
     obtain ⟨G,hG⟩:=eG;rw [← hG]
     have hk':∀ q row,Qc H q=some row→Qc G q=some row:=fun q row hr=>by rw [hG];exact Qd hr _
     have h2:=hk' _ _ h2
     have h3:=hk' _ _ h3
     have hp:=hk' _ _ hp
     have hr:=hk' _ _ hr
     have hw:Bv.Own 3 1 G w S.length (ints S):=by rw [hG];exact hw.keep _
     have hm:Qc G H.length=_:=(congrArg (fun G=>Qc G H.length) hG).trans (mst _)
     clear hG hk' mst mst2
     have iv:=Qii S (k:Nat) (by omega) hmS (by omega) (by omega)
     have hil:=Qb9 S (k:Nat)
     have hib:=Qku (s:=S) m2 (k:Nat)
     have sv:=Qxg z hz (Jk S (k:Nat)) (by omega) (by omega) (fun j hj=>⟨(hib j (by omega)).1,by have:=(hib j (by omega)).2;have:=Xq m2 (i:=j) (by omega);omega⟩) (fun j hj=>⟨Zj z2 hj,by have:=Xq z2 hj;omega⟩)
     have hgk:=hgs k
     generalize Qdo z (Jk S (k:Nat))=Q at *;generalize Jk S (k:Nat)=I at *;refine zH4 hp k0 c0 s0 ?_;refine iv.call ⟨hw.bor' (Qa _),.self rfl,trivial⟩ (by simp [clo,Qh,Qa]) ?_
     refine zH4 hp hr hm h2 ?_;refine sv.pc ⟨.self (Qcc _),.self (by simp [clo,Qa]),trivial⟩ (Qp (Qt Q)) ?_
     have ra:=Qh6 ((g k).getD k r0) (Qt Q) hg1 hg2
     generalize Qez (Xd ((g k).getD k r0)) (Xd (Qt Q))=R at *;refine zH4 hp hr hm h2 ?_;refine Pc.pure ra (by simp [Qh,clo,Qm]) (fun g=>Qy _ _ (Qp (Qt R))) ?_
     refine zH1 hr ?_
     have hpu:=Qlh (g k) k (Qt R) (by omega)
     rw [← hgk] at hpu
     have q2:r≠2:=fun e=>by rw [e,h2] at hr;cases hr
     have q3:r≠3:=fun e=>by rw [e,h3] at hr;cases hr
     have qP:r≠P:=fun e=>by rw [e,hp] at hr;cases hr
     refine ⟨N - (k+1),by omega,k+1,by omega, ?_, ?_, ?_,Ym hw hr (by decide),.inr ⟨r,rfl, ?_,by rw [Qql,hlen]⟩,rfl,(by (repeat' apply And.intro)<;>(first | rfl | omega | (congr 1;omega) | assumption | (congr 1;assumption)))⟩
     ·rw [Qe _ q2];exact h2
     ·rw [Qe _ q3];exact h3
     ·rw [Qe _ qP];exact hp
     ·rw [Qg hr,← hpu]
      rfl
    ·have hkl:k=N:=by omega
     subst hkl
     have hs1:∀ z:Row,Qc (H.set 3 (some z)) 3=some z:=fun z=>Qg h3
     (apply Zo;repeat' ((with_reducible first|apply Zk|apply zBr<;>intro h)<;>try simp -implicitDefEqProofs (maxSteps:=9^7) (disch:=first|exact zDs|fail) only [go_sem,hp,h3,hs1,k0,c0,s0,k1,c1,s1]))
     have hb:=Qbg (Ym (z:=some ⟨34,2,[w,u]⟩) hu h3 (by decide)) (Qi _)
     refine Bor.tupL ⟨Bor.aggL ⟨Qbg (Ym hw h3 (by decide)) (Qa _), ?_,trivial⟩,.self rfl,trivial⟩
     have hle:=hlen k
     rw [← hle] at hb;rw [hle] at hb ⊢;exact hb
   ·exact ⟨0,by omega,h2,h3,hp,hw,hu,rfl,rfl,rfl,rfl,rfl,rfl,rfl,rfl⟩
 ·exact ⟨0,by omega,rfl,rfl,rfl,rfl,rfl,rfl,fun h=>by omega,fun h=>by omega,fun h=>by omega,rfl,rfl,rfl,rfl,rfl,rfl,rfl,rfl⟩
theorem Xcv (xs:List Rq) (x:Rq):Qea (xs++[x])=Qea xs++[.bool x.neg,DV x.num,DV x.den]:=by rw [Qea,Qgs];rfl
theorem Qxu (xs:List Rq):(Qea xs).all Yq=true:=by
 induction xs with
 | nil=>rfl
 | cons x xs ih=>simp only [Qea,Qgr,List.all_cons] at ih ⊢;rw [ih];rfl
theorem Fc.ownF {C:Ctx} {f:FuncId} {args args':List V} {H:Qb} {K:V→Qb→Prop} {e s n:Nat} {cs:List V} (h:Fc C f args' [] fun v H=>Ret e s H v n cs) (hb:BorL H args args') (hc:∀ g,Qk g cs=cs) (hp:Xt cs=true) (hK:∀ v X,Bv.Own e s (H++X) v n cs→(∀ r off m,v=.ref r off m→H.length≤r)→K v (H++X)):Fc C f args H K :=
 h.borrow hb.all.1 hb.all.2 (fun v H' hv=>hv.plain hp) fun v H' hv=>hK _ _ (hv.own hc) (by
  rcases hv with ⟨rfl,_⟩ | ⟨rfl,_⟩
  ·intro r off m e;cases e
  ·intro r off m e;simp only [ren,shift,Option.map_some,Option.some.injEq] at e;injection e with e
   omega)
def Qem:List Tn→Int
 | []=>0
 | t::tl=>if Xv t≠0 then Xv t else Qem tl
theorem Xew {tl:List Tn} {k:Nat} (hk:k<tl.length) (h:∀ j,j<k→Xv (tl.getD j t0n)=0) (hm:Xv (tl.getD k t0n)≠0):Qem tl=Xv (tl.getD k t0n):=by
 induction tl generalizing k with
 | nil=>simp at hk
 | cons t tl ih =>
  cases k with
  | zero =>
   have e:(t::tl).getD 0 t0n=t:=rfl
   rw [e] at hm ⊢;rw [Qem,if_pos hm]
  | succ k =>
   have e:(t::tl).getD (k+1) t0n=tl.getD k t0n:=by simp
   have h0:=h 0 (by omega)
   have e0:(t::tl).getD 0 t0n=t:=rfl
   rw [e0] at h0;rw [e] at hm ⊢;rw [Qem,if_neg (by omega)]
   exact ih (by simpa using hk) (fun j hj=>by have:=h (j+1) (by omega);simpa using this) hm
theorem Qmo {tl:List Tn}:Qem tl=0↔∀ j,j<tl.length→Xv (tl.getD j t0n)=0:=by
 induction tl with
 | nil=>simp [Qem]
 | cons t tl ih =>
  rw [Qem];by_cases hm:Xv t≠0
  ·rw [if_pos hm];exact ⟨fun h=>absurd h hm,fun h=>by have:=h 0 (by simp);simpa using this⟩
  ·rw [if_neg hm,ih];constructor
   ·intro h j hj;cases j with
    | zero=>simpa using (by omega:Xv t=0)
    | succ j=>have:=h j (by simpa using hj);simpa using this
   ·intro h j hj
    have:=h (j+1) (by simpa using hj);simpa using this
def Qha (tl:List Tn) (a:Nat):Nat→Int
 | 0=>0
 | k+1=>Qha tl a k+(tl.getD k t0n).shape.getD a 0
def Zz (tl:List Tn) (a:Nat) (k:Nat):List Int:=((tl.getD 0 t0n).shape).set a (Qha tl a k)
def Qov (tl:List Tn) (a:Nat) (k:Nat):Bool:=decide ((tl.getD k t0n).shape.length=(tl.getD 0 t0n).shape.length)&&(List.range (tl.getD 0 t0n).shape.length).all fun i=>decide (i≠a→(tl.getD k t0n).shape.getD i 0=(tl.getD 0 t0n).shape.getD i 0)
def Qiw (tl:List Tn) (axis:Int):Int :=
 if tl.length=0 then 2 else if Qem tl≠0 then Qem tl
 else if ¬ (0≤axis∧axis<(tl.getD 0 t0n).shape.length) then 11
 else if ¬ (∀ k,k<tl.length→Qov tl axis.toNat k=true) then 13
 else if ¬ (∀ k,k<tl.length→Xa (Zz tl axis.toNat (k+1))=0) then 14 else 0
def Qm0 (tl:List Tn) (a:Nat) (S:List Int) (N:Nat):List Raw:=Qfk N r0 (fun i=>(Qfo tl a (Jk S (i:Nat))).1) (fun i=>(Qfo tl a (Jk S (i:Nat))).2)
def Xro (tl:List Tn) (axis:Int):Tn:=Kv (Qhh ⟨Zz tl axis.toNat tl.length,Qm0 tl axis.toNat (Zz tl axis.toNat tl.length) (Qx (Zz tl axis.toNat tl.length)).toNat⟩) (Qiw tl axis)
theorem Qr1 {tl:List Tn} {a:Nat} (h:∀ j,j<tl.length→1≤(tl.getD j t0n).shape.getD a 0∧(tl.getD j t0n).shape.getD a 0≤1024):∀ k:Nat,k≤tl.length→(k:Int)≤Qha tl a k∧Qha tl a k≤1024*k
 | 0,_=>by simp [Qha]
 | k+1,hk=>by
  have ih:=Qr1 h k (by omega)
  have:=h k (by omega)
  rw [Qha];omega
theorem Qo9 (tl:List Tn) (a k:Nat):(Zz tl a k).length=(tl.getD 0 t0n).shape.length:=by simp [Zz]
theorem Xe7 (tl:List Tn) (a k:Nat):(Zz tl a k).set a (Qha tl a k+(tl.getD k t0n).shape.getD a 0)=Zz tl a (k+1):=by rw [Zz,Zz,List.set_set,Qha]
theorem Xkb {tl:List Tn} {a:Nat} (h:a<(tl.getD 0 t0n).shape.length) (k:Nat):(Zz tl a k).getD a 0=Qha tl a k:=by
 rw [Zz];generalize (tl.getD 0 t0n).shape=S at *;simp [List.getD,h]
theorem Xbi:∀ (tl:List Tn) (a:Nat) (x:List Int),(∀ j,j<tl.length→TnOK (tl.getD j t0n)∧Jn (tl.getD j t0n)=0)→(Qfo tl a x).2=true→RawOK (Qfo tl a x).1
 | [],a,x,h,hb=>by simp [Qfo] at hb
 | t::tl,a,x,h,hb=>by
  rw [Qfo] at hb ⊢;by_cases hz:Qco t.shape x=0
  ·rw [if_pos hz]
   have:=h 0 (by simp)
   exact Qsa (t:=t) this.1 this.2 (by simp [Qjf,hz])
  ·rw [if_neg hz] at hb ⊢;exact Xbi tl a _ (fun j hj=>by have:=h (j+1) (by simpa using hj);simpa using this) hb
theorem Qv3 (x:Int):∀ l:List Int,(l++[x]).foldr (·+·) 0=l.foldr (·+·) 0+x
 | []=>by simp
 | a::l=>by simp only [List.cons_append,List.foldr_cons,Qv3 x l];omega
theorem Qqd (tl:List Tn) (a:Nat):∀ k:Nat,k≤tl.length→((tl.take k).map fun t=>t.shape.getD a 0).foldr (·+·) 0=Qha tl a k
 | 0,_=>by simp [Qha]
 | k+1,hk=>by
  rw [Qlb tl t0n (by omega),List.map_append,List.map_cons,List.map_nil,Qv3,Qqd tl a k (by omega),Qha]
theorem Qzk (tl:List Tn) (htl:tl.length≤1048576) (hok:∀ j,j<tl.length→TnOK (tl.getD j t0n)) (axis:Int):Val C 45 [.int .i64 axis,.sl tl.length (Kd tl)] (.tup [tnV (Xro tl axis),.int .i64 (Qiw tl axis)]):=by
 unfold Xro;refine zK Qf Tryz.func45 w45 Tryz.ntmps45 Tryz.results45 ?_
 (refine zG ?_;(repeat' ((with_reducible apply zBr)<;>intro h<;>refine zG ?_))<;>try exact .intro)
 ·exact Gd.ret (Qbw (by rw [Qiw,if_pos (by omega)]) (by decide))
 refine Qj (fun n ts H=>∃ (k:Nat),(k≤tl.length)∧((∀ j,j<k→Xv (tl.getD j t0n)=0))∧(n=tl.length - k)∧(Qc H 0=some ⟨3,1,[.int .i64 axis]⟩)∧(Qc H 1=some ⟨29,1,[.sl tl.length (Kd tl)]⟩)∧(Qc H 2=some ⟨34,2,[.nil,.nil]⟩)∧ts.length=115∧nth ts 2=.ptr 0 0∧nth ts 3=.ptr 1 0∧nth ts 4=.ptr 2 0∧nth ts 20=.sl tl.length (Kd tl)∧nth ts 21=.int .i64 tl.length∧nth ts 22=.int .i64 (k:Nat)) ?_ (n:=tl.length) ?_
 ·skip
  rintro n ts H ⟨k,hk,hI,hn,h0,h1,h2,hL,hs2,hs3,hs4,hs20,hs21,hs22⟩;refine Xc [(2,.ptr 0 0),(3,.ptr 1 0),(4,.ptr 2 0),(20,.sl tl.length (Kd tl)),(21,.int .i64 tl.length),(22,.int .i64 (k:Nat))] hL (by simp only [zFm,hs2,hs3,hs4,hs20,hs21,hs22,true_and];exact zNm) ?_
  clear hL hs2 hs3 hs4 hs20 hs21 hs22 ts
  refine Qz Qf ?_;by_cases hkl:k<tl.length
  ·have hT:=hok k hkl
   generalize hTT:tl.getD k t0n=T at *
   have a2:∀ Y,Qc (H++Y) 2=some ⟨34,2,[.nil,.nil]⟩:=fun Y=>Qd h2 Y
   have hst:∀ Y (z:Row),Qc ((H++Y).set 2 (some z)) 2=some z:=fun Y z=>Qg (a2 Y)
   refine zH1 hTT ?_;refine Fc.pure (Zr T hT) (by simp [Qh,clo,Qa,Qi]) (fun g=>rfl) ?_
   by_cases hm:Xv T=0
   ·rw [hm];refine zG ?_;exact ⟨tl.length - (k+1),by omega,k+1,by omega,Qbc hI (by rw [hTT];exact hm),rfl,Qd h0 _,Qd h1 _,a2 _,(by (repeat' apply And.intro)<;>(first | rfl | omega | (congr 1;omega) | assumption | (congr 1;assumption)))⟩
   ·have hF:=Xew hkl hI (by rw [hTT];exact hm)
    rw [hTT] at hF
    have hE:Qiw tl axis=Xv T:=by rw [Qiw,if_neg (by omega),hF,if_pos hm]
    refine zH2 a2 hst ?_;exact Gd.ret (Qbw hE hm)
  ·have hks:k=tl.length:=by omega
   subst hks
   have hF:Qem tl=0:=Qmo.2 hI
   have z0:nth (Kd tl) 0=.sl (tl.getD 0 t0n).shape.length (ints (tl.getD 0 t0n).shape):=by simpa using Xhs tl 0 (by omega)
   have hT0:=hok 0 (by omega)
   have hS0:=hT0.s
   obtain ⟨hf0,hm0,hl0⟩:=Zs (hI 0 (by omega))
   obtain ⟨p1,p2,p3⟩:=Qu hm0;refine zH2 h1 z0 ?_;refine Fc.ownF (Qay (tl.getD 0 t0n).shape (by omega)) ⟨.self (by simp [clo,Qa]),trivial⟩ (fun g=>Ql g _) (Xp _) fun v X hv hvr=>?_
   have hlt:=Xg h2
   have b0:=Qd h0 X
   have b1:=Qd h1 X
   have b2:=Qd h2 X
   generalize H++X=H5 at *
   have hkn:kn v=true∧cellsOf v=[v]∧Yq v=true:=by rcases hv with ⟨rfl,_⟩ | ⟨r,rfl,_⟩<;>exact ⟨rfl,rfl,rfl⟩
   obtain ⟨k1,c1,s1⟩:=hkn
   have hlv:=hv.lenw (C.ty 31)
   have hst2:∀ z:Row,Qc (H5.set 2 (some z)) 2=some z:=fun z=>Qg b2
   by_cases hax:0≤axis∧axis<(tl.getD 0 t0n).shape.length
   ·obtain ⟨a,rfl⟩:∃ a:Nat,axis=a:=⟨axis.toNat,by omega⟩
    have ha:a<(tl.getD 0 t0n).shape.length:=by omega
    obtain ⟨-,h0', -⟩ | ⟨r,rfl,hr, -⟩:=hv
    ·omega
    have hr3:3≤r:=by have:=hvr r 0 _ rfl;omega
    have st0:∀ z,Qc (H5.set r z) 0=some ⟨3,1,[.int .i64 (a:Nat)]⟩:=fun z=>by rw [Qe _ (by omega)];exact b0
    have st1:∀ z,Qc (H5.set r z) 1=some ⟨29,1,[.sl tl.length (Kd tl)]⟩:=fun z=>by rw [Qe _ (by omega)];exact b1
    have st2:∀ z,Qc (H5.set r z) 2=some ⟨34,2,[.nil,.nil]⟩:=fun z=>by rw [Qe _ (by omega)];exact b2
    have str:∀ z,Qc (H5.set r (some z)) r=some z:=fun z=>Qg hr
    generalize hS:(tl.getD 0 t0n).shape=S0 at *;refine zH5 b0 hlv hr Qao st1 ?_
    have hF13:(∃ k,k<tl.length∧Qov tl a k=false)→Qiw tl a=13:=by
     rintro ⟨k,hk,hf⟩;rw [Qiw,if_neg (by omega),if_neg (by omega),hS,if_neg (fun h=>h ⟨by omega,by omega⟩),Int.toNat_natCast,if_pos]
     intro h
     have:=h k hk
     rw [hf] at this;cases this
    refine Qj (fun n ts H=>∃ (k:Nat),(k≤tl.length)∧((∀ j,j<k→Qov tl a j=true))∧(n=tl.length - k)∧(Qc H 0=some ⟨3,1,[.int .i64 (a:Nat)]⟩)∧(Qc H 1=some ⟨29,1,[.sl tl.length (Kd tl)]⟩)∧(Qc H 2=some ⟨34,2,[.nil,.nil]⟩)∧(Qc H r=some ⟨3,1,ints (S0.set a 0)⟩)∧ts.length=115∧nth ts 2=.ptr 0 0∧nth ts 3=.ptr 1 0∧nth ts 4=.ptr 2 0∧nth ts 9=.ref r 0 S0.length∧nth ts 50=.sl tl.length (Kd tl)∧nth ts 51=.int .i64 tl.length∧nth ts 52=.int .i64 (k:Nat)) ?_ (n:=tl.length) ?_
    ·skip
     rintro n ts H ⟨k,hk,hA,hn,h0,h1,h2,hr,hL,hs2,hs3,hs4,hs9,hs50,hs51,hs52⟩;refine Xc [(2,.ptr 0 0),(3,.ptr 1 0),(4,.ptr 2 0),(9,.ref r 0 S0.length),(50,.sl tl.length (Kd tl)),(51,.int .i64 tl.length),(52,.int .i64 (k:Nat))] hL (by simp only [zFm,hs2,hs3,hs4,hs9,hs50,hs51,hs52,true_and];exact zNm) ?_
     clear hL hs2 hs3 hs4 hs9 hs50 hs51 hs52 ts
     refine Qz Qf ?_;by_cases hkl:k<tl.length
     ·have hT:=hok k hkl
      obtain ⟨hfT,hmT,hlT⟩:=Zs (hI k hkl);obtain ⟨t1,t2,t3⟩:=Qu hmT
      have hfA:Qov tl a k=(decide ((tl.getD k t0n).shape.length=S0.length)&&(List.range S0.length).all fun i=>decide (i≠a→(tl.getD k t0n).shape.getD i 0=S0.getD i 0)):=by rw [Qov,hS]
      generalize hTT:tl.getD k t0n=T at *
      have e0:∀ Y,Qc (H++Y) 0=some ⟨3,1,[.int .i64 (a:Nat)]⟩:=fun Y=>Qd h0 Y
      have e1:∀ Y,Qc (H++Y) 1=some ⟨29,1,[.sl tl.length (Kd tl)]⟩:=fun Y=>Qd h1 Y
      have e2:∀ Y,Qc (H++Y) 2=some ⟨34,2,[.nil,.nil]⟩:=fun Y=>Qd h2 Y
      have er:∀ Y,Qc (H++Y) r=some ⟨3,1,ints (S0.set a 0)⟩:=fun Y=>Qd hr Y
      have est:∀ Y (z:Row),Qc ((H++Y).set 2 (some z)) 2=some z:=fun Y z=>Qg (e2 Y)
      by_cases hln:T.shape.length=S0.length
      ·subst hn;refine zH1 hTT ?_
       have f0:=e0 [some ⟨34,2,[.sl T.shape.length (ints T.shape),.sl T.el.length (Qv T.el)]⟩]
       have f1:=e1 [some ⟨34,2,[.sl T.shape.length (ints T.shape),.sl T.el.length (Qv T.el)]⟩]
       have f2:=e2 [some ⟨34,2,[.sl T.shape.length (ints T.shape),.sl T.el.length (Qv T.el)]⟩]
       have fr:=er [some ⟨34,2,[.sl T.shape.length (ints T.shape),.sl T.el.length (Qv T.el)]⟩]
       clear e0 e1 e2 er est
       generalize H++[some (⟨34,2,[.sl T.shape.length (ints T.shape),.sl T.el.length (Qv T.el)]⟩:Row)]=H7 at *;refine Qj (fun n ts H=>∃ (i:Nat),(i≤S0.length)∧((∀ j,j<i→(j≠a→T.shape.getD j 0=S0.getD j 0)))∧(n=S0.length - i)∧(Qc H 0=some ⟨3,1,[.int .i64 (a:Nat)]⟩)∧(Qc H 1=some ⟨29,1,[.sl tl.length (Kd tl)]⟩)∧(Qc H 2=some ⟨34,2,[.nil,.nil]⟩)∧(Qc H r=some ⟨3,1,ints (S0.set a 0)⟩)∧ts.length=115∧nth ts 2=.ptr 0 0∧nth ts 3=.ptr 1 0∧nth ts 4=.ptr 2 0∧nth ts 9=.ref r 0 S0.length∧nth ts 50=.sl tl.length (Kd tl)∧nth ts 51=.int .i64 tl.length∧nth ts 52=.int .i64 (k:Nat)∧nth ts 64=.sl T.shape.length (ints T.shape)∧nth ts 65=.int .i64 T.shape.length∧nth ts 66=.int .i64 (i:Nat)) ?_ (n:=S0.length) ?_
       ·skip
        rintro n ts H ⟨i,hi,hB,hn,h0,h1,h2,hr,hL,hs2,hs3,hs4,hs9,hs50,hs51,hs52,hs64,hs65,hs66⟩;refine Xc [(2,.ptr 0 0),(3,.ptr 1 0),(4,.ptr 2 0),(9,.ref r 0 S0.length),(50,.sl tl.length (Kd tl)),(51,.int .i64 tl.length),(52,.int .i64 (k:Nat)),(64,.sl T.shape.length (ints T.shape)),(65,.int .i64 T.shape.length),(66,.int .i64 (i:Nat))] hL (by simp only [zFm,hs2,hs3,hs4,hs9,hs50,hs51,hs52,hs64,hs65,hs66,true_and];exact zNm) ?_
        clear hL hs2 hs3 hs4 hs9 hs50 hs51 hs52 hs64 hs65 hs66 ts
        refine Qz Qf ?_
        have hst2:∀ z:Row,Qc (H.set 2 (some z)) 2=some z:=fun z=>Qg h2
        by_cases hil:i<S0.length
        ·by_cases hia:i=a
         ·have hia':(i:Int)=(a:Nat):=by omega
          refine zH1 h0 ?_;exact ⟨S0.length - (i+1),by omega,i+1,by omega,Qbc hB (fun h=>absurd hia h),rfl,h1,h2,hr,(by (repeat' apply And.intro)<;>(first | rfl | omega | (congr 1;omega) | assumption | (congr 1;assumption)))⟩
         ·have hz:(S0.set a 0).getD i 0=S0.getD i 0:=by simp [List.getD,Ne.symm hia]
          have hzl:(S0.set a 0).length=S0.length:=by simp
          by_cases hd:T.shape.getD i 0=S0.getD i 0
          ·skip
           refine zH3 h0 hr hz ?_;exact ⟨S0.length - (i+1),by omega,i+1,by omega,Qbc hB (fun _=>hd),rfl,h1,h2,(by (repeat' apply And.intro)<;>(first | rfl | omega | (congr 1;omega) | assumption | (congr 1;assumption)))⟩
          ·have hE:=hF13 ⟨k,hkl,by
            rw [hfA];cases hc:((List.range S0.length).all fun i=>decide (i≠a→T.shape.getD i 0=S0.getD i 0)) with
            | false=>simp
            | true=>exact absurd (of_decide_eq_true (List.all_eq_true.1 hc i (List.mem_range.2 hil)) hia) hd⟩
           refine zH5 h0 hr hz h2 hst2 ?_
           all_goals exact Gd.ret (Qbw hE (by decide))
        ·have his:i=S0.length:=by omega
         subst his
         have hfk:Qov tl a k=true:=by
          rw [hfA,hln];simp only [decide_true,Bool.true_and,List.all_eq_true,List.mem_range,decide_eq_true_eq];exact fun j hj hja=>hB j hj hja
         refine zG ?_;exact ⟨tl.length - (k+1),by omega,k+1,by omega,Qbc hA hfk,rfl,h0,h1,h2,hr,(by (repeat' apply And.intro)<;>(first | rfl | omega | (congr 1;omega) | assumption | (congr 1;assumption)))⟩
       ·exact ⟨0,by omega,fun j hj=>by omega,rfl,f0,f1,f2,fr,rfl,rfl,rfl,rfl,rfl,rfl,rfl,rfl,rfl,rfl,rfl⟩
      ·have hE:=hF13 ⟨k,hkl,by rw [hfA];simp [hln]⟩
       refine zH3 hTT e2 est ?_;exact Gd.ret (Qbw hE (by decide))
     ·have hks:k=tl.length:=by omega
      subst hks;refine zH1 h1 ?_
      have hTa:∀ j,j<tl.length→1≤(tl.getD j t0n).shape.getD a 0∧(tl.getD j t0n).shape.getD a 0≤1024:=fun j hj=>by
       obtain ⟨hfT,hmT,hlT⟩:=Zs (hI j hj);obtain ⟨t1,t2,t3⟩:=Qu hmT
       have hfk:=hA j hj
       rw [Qov,Bool.and_eq_true,decide_eq_true_eq,hS] at hfk
       have h1:=Zj t2 (i:=a) (by omega)
       have h2:=Xq t2 (i:=a) (by omega)
       omega
      have hTl:∀ j,j<tl.length→(tl.getD j t0n).shape.length=S0.length:=fun j hj=>by
       have hfk:=hA j hj
       rw [Qov,Bool.and_eq_true,decide_eq_true_eq,hS] at hfk;exact hfk.1
      have hF14:(∃ k,k<tl.length∧Xa (Zz tl a (k+1))≠0)→Qiw tl a=14:=by
       rintro ⟨k,hk,hf⟩;rw [Qiw,if_neg (by omega),if_neg (by omega),hS,if_neg (fun h=>h ⟨by omega,by omega⟩),Int.toNat_natCast,if_neg (fun h=>h hA),if_pos]
       exact fun h=>hf (h k hk)
      have hr':Qc H r=some ⟨3,1,ints (Zz tl a 0)⟩:=by rw [Zz,hS];exact hr
      refine Qj (fun n ts H=>∃ (k:Nat),(k≤tl.length)∧((∀ j,j<k→Xa (Zz tl a (j+1))=0))∧(n=tl.length - k)∧(Qc H 0=some ⟨3,1,[.int .i64 (a:Nat)]⟩)∧(Qc H 1=some ⟨29,1,[.sl tl.length (Kd tl)]⟩)∧(Qc H 2=some ⟨34,2,[.nil,.nil]⟩)∧(Qc H r=some ⟨3,1,ints (Zz tl a k)⟩)∧ts.length=115∧nth ts 2=.ptr 0 0∧nth ts 3=.ptr 1 0∧nth ts 4=.ptr 2 0∧nth ts 9=.ref r 0 S0.length∧nth ts 85=.sl tl.length (Kd tl)∧nth ts 86=.int .i64 tl.length∧nth ts 87=.int .i64 (k:Nat)) ?_ (n:=tl.length) ?_
      ·skip
       rintro n ts H ⟨k,hk,hM,hn,h0,h1,h2,hr,hL,hs2,hs3,hs4,hs9,hs85,hs86,hs87⟩;refine Xc [(2,.ptr 0 0),(3,.ptr 1 0),(4,.ptr 2 0),(9,.ref r 0 S0.length),(85,.sl tl.length (Kd tl)),(86,.int .i64 tl.length),(87,.int .i64 (k:Nat))] hL (by simp only [zFm,hs2,hs3,hs4,hs9,hs85,hs86,hs87,true_and];exact zNm) ?_
       clear hL hs2 hs3 hs4 hs9 hs85 hs86 hs87 ts
       by_cases hkl:k<tl.length
       ·refine Qz Qf ?_
        have hTk:=hTa k hkl
        have hlk:=hTl k hkl
        have hsk:=Qr1 hTa k (by omega)
        have hcl:=Qo9 tl a k
        have hcl':=Qo9 tl a (k+1)
        rw [hS] at hcl hcl'
        have hcg:=Xkb (tl:=tl) (a:=a) (by rw [hS];exact ha) k
        have hcn:=Xe7 tl a k
        generalize hTT:tl.getD k t0n=T at *;generalize hss:Qha tl a k=ss at *
        have e0:∀ Y,Qc (H++Y) 0=some ⟨3,1,[.int .i64 (a:Nat)]⟩:=fun Y=>Qd h0 Y
        have e1:∀ Y,Qc (H++Y) 1=some ⟨29,1,[.sl tl.length (Kd tl)]⟩:=fun Y=>Qd h1 Y
        have e2:∀ Y,Qc (H++Y) 2=some ⟨34,2,[.nil,.nil]⟩:=fun Y=>Qd h2 Y
        have er:∀ Y,Qc (H++Y) r=some ⟨3,1,ints (Zz tl a k)⟩:=fun Y=>Qd hr Y
        refine zH6 hTT e0 er Qao hcg hcn ?_
        have g0:∀ Y z,Qc ((H++Y).set r z) 0=_:=fun Y z=>(Qe _ (by omega)).trans (e0 Y)
        have g1:∀ Y z,Qc ((H++Y).set r z) 1=_:=fun Y z=>(Qe _ (by omega)).trans (e1 Y)
        have g2:∀ Y z,Qc ((H++Y).set r z) 2=_:=fun Y z=>(Qe _ (by omega)).trans (e2 Y)
        have gr:∀ Y z,Qc ((H++Y).set r (some z)) r=_:=fun Y z=>Qg (er Y)
        have ow:∀ Y,Bv.Own 3 1 ((H++Y).set r (some ⟨3,1,ints (Zz tl a (k+1))⟩)) (.ref r 0 S0.length) (Zz tl a (k+1)).length (ints (Zz tl a (k+1))):=fun Y=>by rw [hcl'];exact .inr ⟨r,rfl,gr Y _,by rw [Yj];omega⟩
        have gst:∀ Y z (q:Row),Qc (((H++Y).set r z).set 2 (some q)) 2=some q:=fun Y z q=>Qg (g2 Y z)
        refine (Val.ofPu (Ku (Zz tl a (k+1)) (by omega)) rfl rfl).call ⟨(ow _).bor' (Qa _),trivial⟩ rfl ?_
        by_cases hm:Xa (Zz tl a (k+1))=0
        ·rw [hm];refine zG ?_;exact ⟨tl.length - (k+1),by omega,k+1,by omega,Qbc hM hm,rfl,g0 _ _,g1 _ _,g2 _ _,gr _ _,(by (repeat' apply And.intro)<;>(first | rfl | omega | (congr 1;omega) | assumption | (congr 1;assumption)))⟩
        ·have hE:=hF14 ⟨k,hkl,hm⟩
         refine zH2 g2 gst ?_
         all_goals exact Gd.ret (Qbw hE (by decide))
       ·have hks:k=tl.length:=by omega
        subst hks
        have hSm:Xa (Zz tl a tl.length)=0:=by have:=hM (tl.length - 1) (by omega);rwa [show tl.length - 1+1=tl.length by omega] at this
        have hE:Qiw tl a=0:=by rw [Qiw,if_neg (by omega),if_neg (by omega),hS,if_neg (fun h=>h ⟨by omega,by omega⟩),Int.toNat_natCast,if_neg (fun h=>h hA),if_neg (fun h=>h hM)]
        have hSl:=Qo9 tl a tl.length
        rw [hS] at hSl;obtain ⟨q1,q2,q3⟩:=Qu hSm
        have hpos:=Yp q2
        rw [Ye hE,hE,Int.toNat_natCast]
        have hgetS:∀ i,i<S0.length→(Zz tl a tl.length).getD i 0=if i=a then Qha tl a tl.length else S0.getD i 0:=fun i hi=>by
         rw [Zz,hS];by_cases hia:i=a
         ·subst hia;simp [List.getD,hi]
         ·rw [if_neg hia];simp [List.getD,Ne.symm hia]
        have hfold:(tl.map fun t=>t.shape.getD a 0).foldr (·+·) 0=Qha tl a tl.length:=by have:=Qqd tl a tl.length (Nat.le_refl _);rwa [List.take_length] at this
        have hfound:∀ i:Nat,(Qfo tl a (Jk (Zz tl a tl.length) (i:Nat))).2=true:=fun i=>by
         have hx:=Qku q2 (i:Nat)
         refine Qpa tl a _ S0.length (by rw [Qb9];exact hSl) ha (fun j hj=>⟨(Zs (hI j hj)).2.1,hTl j hj⟩) (fun j hj i' hi' hia=>?_) (hx a (by omega)).1 ?_
         ·have h5:=hx i' (by omega)
          rw [hgetS i' hi',if_neg hia] at h5
          have hfk:=hA j hj
          rw [Qov,Bool.and_eq_true,hS,List.all_eq_true] at hfk
          have:=of_decide_eq_true (hfk.2 i' (List.mem_range.2 hi')) hia
          rw [this];exact h5
         ·have h5:=hx a (by omega)
          rw [hgetS a ha,if_pos rfl] at h5;rw [hfold];exact h5.2
        obtain ⟨N,hN⟩:∃ N:Nat,(N:Int)=Qx (Zz tl a tl.length):=⟨(Qx (Zz tl a tl.length)).toNat,by omega⟩
        have hNN:(Qx (Zz tl a tl.length)).toNat=N:=by omega
        have hgat:=Qs0 (Zz tl a tl.length) 106 [.rp [.sl tl.length (Kd tl)] 0,.rp [.int .i64 (a:Nat)] 0] (fun i=>(Qfo tl a (Jk (Zz tl a tl.length) (i:Nat))).1) N (by omega) hSm hN (by simp [Qh,clo,Yh]) (fun i hi=>by
         have hx:=Qku q2 (i:Nat) a (by omega)
         have hu:=Xq q2 (i:=a) (by omega)
         have:=Xe9 tl a (Jk (Zz tl a tl.length) (i:Nat)) htl (fun j hj=>⟨hok j hj,(Zs (hI j hj)).1,by rw [Qb9,hSl];exact hTl j hj⟩) (by rw [Qb9];omega) (by rw [Qb9];omega) (by omega)
         rw [hfound i] at this;exact this)
        have hcat:Qm0 tl a (Zz tl a tl.length) N=Qfk N r0 (fun i=>(Qfo tl a (Jk (Zz tl a tl.length) (i:Nat))).1) (fun _=>true):=by
         rw [Qm0]
         congr 1
         funext i;exact hfound i
        rw [hNN];rw [← hcat] at hgat
        have hTk:∀ x∈Qm0 tl a (Zz tl a tl.length) N,RawOK x:=fun x hx=>by
         rw [hcat] at hx;simp only [Qfk,List.mem_map,if_true] at hx;obtain ⟨i,_,rfl⟩:=hx;exact Xbi tl a _ (fun j hj=>⟨hok j hj,(Zs (hI j hj)).1⟩) (hfound i)
        have hcl:(Qm0 tl a (Zz tl a tl.length) N).length=N:=Qf8 _ _ _ _
        have hmk:=Qla ⟨Zz tl a tl.length,Qm0 tl a (Zz tl a tl.length) N⟩ ⟨by show (Zz tl a tl.length).length≤_;omega,by show (Qm0 tl a (Zz tl a tl.length) N).length≤_;omega,hTk⟩
        have hfit:Jn ⟨Zz tl a tl.length,Qm0 tl a (Zz tl a tl.length) N⟩=0:=by
         show (if Xa (Zz tl a tl.length)≠0 then Xa (Zz tl a tl.length) else if ((Qm0 tl a (Zz tl a tl.length) N).length:Int)≠Xf (Zz tl a tl.length) then 13 else 0)=0
         have hc:Xf (Zz tl a tl.length)=Qx (Zz tl a tl.length):=by rw [Xf,if_pos hSm]
         rw [hSm,hc,hcl,hN];simp
        have hmm:mkT ⟨Zz tl a tl.length,Qm0 tl a (Zz tl a tl.length) N⟩=(Qhh ⟨Zz tl a tl.length,Qm0 tl a (Zz tl a tl.length) N⟩,0):=by rw [mkT,if_neg (by omega)]
        rw [hmm] at hmk;simp only [hcl] at hmk
        have n0:¬ 0=r:=by omega
        have n1:¬ 1=r:=by omega
        have n2:¬ 2=r:=by omega
        refine Qtz hr (Qa _) ?_;rw [Qr0];simp only [List.map_cons,List.map_nil,sz,Yk _ _ _ (Yh _),n0,n1,n2,if_true,if_false,List.drop_zero]
        have g0:Qc (H.set r none) 0=_:=(Qe _ (by omega)).trans h0
        have g1:Qc (H.set r none) 1=_:=(Qe _ (by omega)).trans h1
        have g2:Qc (H.set r none) 2=_:=(Qe _ (by omega)).trans h2
        have hlen:2<(H.set r none).length:=Xg g2
        generalize H.set r none=H at *;refine Qtz g1 (by simp [Qh,clo,Yh]) ?_
        rw [Qr0];simp only [List.map_cons,List.map_nil,sz,Yk _ _ _ (Yh _),Yk _ _ _ (Qa _),Nat.zero_ne_one,if_true,if_false,show ¬ 2=1 by decide]
        have g0':Qc (H.set 1 none) 0=_:=(Qe _ (by decide)).trans g0
        have g2':Qc (H.set 1 none) 2=_:=(Qe _ (by decide)).trans g2
        have hlen':2<(H.set 1 none).length:=Xg g2'
        generalize H.set 1 none=H at *;refine Qtz g0' (by simp [Qh,clo]) ?_
        rw [Qr0];simp only [List.map_cons,List.map_nil,sz,szL,Yk _ _ _ (Yh _),Yk _ _ _ (Qa _),if_true,if_false,show ¬ 2=0 by decide]
        have g2'':Qc (H.set 0 none) 2=_:=(Qe _ (by decide)).trans g2'
        have hlen'':2<(H.set 0 none).length:=Xg g2''
        generalize H.set 0 none=H at *;refine Qz Qf ?_;rw [← hSl];refine zH1 g2'' ?_;refine Fc.pure hgat (by simp [Qh,clo,Qa,Yh]) (fun g=>by simp [ren,Yt _ _ (Qi _)]) ?_
        refine zH1 g2'' ?_;refine hmk.keptF ⟨.self (by simp [clo,Qa]),.self (by simp [clo,Qi]),trivial⟩ fun v X hv=>?_
        have f2:=Qd g2'' X
        have f22:∀ row:Row,Qc ((H++X).set 2 (some row)) 2=some row:=fun row=>Qg f2
        obtain ⟨w,e,rfl,hw,he⟩:=hv.tup2;obtain ⟨x1,x2,rfl,ha',hb'⟩:=hw.agg2;obtain ⟨ka,ca,sa⟩:=Yv ha'.gd;obtain ⟨kb,cb,sb⟩:=Yv hb'.gd;rw [he.gd.int_inv];refine zH8 f2 f22 ka ca sa kb cb sb ?_;exact Gd.ret (Gd.tupL ⟨Gd.aggL ⟨(ha'.set (q:=2) (by omega) _).gd,(hb'.set (q:=2) (by omega) _).gd,trivial⟩,Qiv _ _,trivial⟩)
      ·exact ⟨0,by omega,fun j hj=>by omega,rfl,h0,h1,h2,hr',rfl,rfl,rfl,rfl,rfl,rfl,rfl,rfl⟩
    ·exact ⟨0,by omega,fun j hj=>by omega,rfl,st0 _,st1 _,st2 _,str _,rfl,rfl,rfl,rfl,rfl,rfl,rfl,rfl⟩
   ·have hE:Qiw tl axis=11:=by rw [Qiw,if_neg (by omega),if_neg (by omega),if_pos hax]
    (refine zH7 b0 b2 hlv hst2 k1 c1 s1 ?_;(repeat' ((with_reducible apply zBr)<;>intro h<;>refine zH7 b0 b2 hlv hst2 k1 c1 s1 ?_))<;>try exact .intro)
    all_goals exact Gd.ret (Qbw hE (by decide))
 ·exact ⟨0,by omega,fun j hj=>by omega,rfl,rfl,rfl,rfl,rfl,rfl,rfl,rfl,rfl,rfl,rfl⟩
theorem Qv2 (p q:Int) (h1:-9223372036854775808≤p) (h2:p<9223372036854775808) (h3:-9223372036854775808≤q) (h4:q<9223372036854775808):Val C 35 [.int .i64 p,.int .i64 q] (Qr6 (Kh (decide (p<0) != decide (q<0)) p.natAbs q.natAbs)):=by
 have sp:=Qhc p h1 h2
 have sq:=Qhc q h3 h4
 have lp:Xe p.natAbs≤16:=Qa5 (Nat.lt_of_lt_of_le (show p.natAbs<9223372036854775809 by omega) (by decide))
 have lq:Xe q.natAbs≤16:=Qa5 (Nat.lt_of_lt_of_le (show q.natAbs<9223372036854775809 by omega) (by decide))
 have mk:=Qvf (decide (p<0) != decide (q<0)) p.natAbs q.natAbs (by omega) (by omega)
 have eb:(!decide (p<0)==decide (q<0))=(decide (p<0) != decide (q<0)):=by cases decide (p<0)<;>cases decide (q<0)<;>rfl
 generalize Kh (decide (p<0) != decide (q<0)) p.natAbs q.natAbs=R at *;refine zK Qf Tryz.func35 w35 Tryz.ntmps35 Tryz.results35 ?_;refine zH1 eb ?_;refine sp.call ⟨.self rfl,trivial⟩ (Zu _) ?_;refine zH1 eb ?_;refine sq.call ⟨.self rfl,trivial⟩ (Zu _) ?_;refine zH1 eb ?_;refine mk.keptF ⟨.self rfl,.self (Zu _),.self (Zu _),trivial⟩ fun v X hv=>?_
 obtain ⟨v1,v2,v3,rfl,hv1,hv2,hv3⟩:=hv.agg3;obtain ⟨k2,c2,s2⟩:=Yv hv2.gd;obtain ⟨k3,c3,s3⟩:=Yv hv3.gd
 have e1:=hv1.gd.bool_inv
 subst e1;refine zH6 k2 c2 s2 k3 c3 s3 ?_;exact Gd.ret (Gd.aggL ⟨Qg3 _,(hv2.set (q:=0) (by simp) _).gd,(hv3.set (q:=0) (by simp) _).gd,trivial⟩)
theorem Qd0 (s:List Int):0≤Xf s∧Xf s≤1024:=by
 unfold Xf;split
 ·rename_i h;obtain ⟨-,h2,h3⟩:=Qu h
  have:=Yp h2
  omega
 ·omega
theorem Xc1 {y:Ty} {e e' s' k:Nat} {v:V} {H:Qb} {xs:List Rq} {r:Rq} {K:V→Qb→Prop} (h:Bv.Own e 3 H v k (Qea xs)) (hy:y.size=3) (hb:y.bytes=56) (hl:k+1≤1000000000)
  (hK:∀ H',Bv.Own e 3 H' (.ref (H.length+1) 0 (k+1)) (k+1) (Qea (xs++[r]))→Fr v H H'→K (.ref (H.length+1) 0 (k+1)) H') :
  Qbb y e v (.ref H.length 0 1) (H++[some ⟨e',s',[.bool r.neg,DV r.num,DV r.den]⟩]) K:=by
 rw [← hy] at h;refine Qgg h (by rw [hy];rfl) (by simp [Yq,DV,DA]) (by omega) (by omega) (by rw [hb];omega) (Qxu _) fun H' k1 k2 k3=>?_
 rw [hy] at k1;exact hK H' (by rw [Xcv];exact k1) k2
def Qmn (s:List Int) (x:Rq):Tq:=⟨s,List.replicate (Xf s).toNat x⟩
theorem Qv0 (s:List Int) (x:Rq) (hs:s.length≤1000000000) (hc:Xf s≤1000000000):Pu C 18 [.sl s.length (ints s),Qr6 x] (tqV (Qmn s x)):=by
 have cs:=Qh2 s (by omega)
 refine Pu.ofBor (Qti _) ?_
 have cg:=Qhw x
 obtain ⟨c,hcn⟩:∃ c:Nat,Xf s=(c:Int):=⟨(Xf s).toNat,by have:=Qd0 s;omega⟩
 unfold Qmn;rw [hcn] at cs hc ⊢;rw [Int.toNat_natCast]
 have hrp:∀ i,List.replicate i x++[x]=List.replicate (i+1) x:=fun i=>by rw [List.replicate_succ']
 refine zL Qf Tryz.func18 w18 Tryz.ntmps18 Tryz.results18 ?_;refine zG ?_;refine Qj (fun n ts H=>∃ (i:Nat) (u:V),(i≤c)∧(Qc H 0=some ⟨56,3,[.bool x.neg,DV x.num,DV x.den]⟩)∧(Qc H 1=some ⟨52,2,[.nil,.nil]⟩)∧(Qc H 2=some ⟨3,1,ints s⟩)∧(Qc H 3=some ⟨52,2,[.ref 2 0 s.length,u]⟩)∧(Bv.Own 56 3 H u i (Qea (List.replicate i x)))∧((∀ off m,u≠.ref 0 off m))∧(n=c - i)∧ts.length=23∧nth ts 0=.sl s.length (ints s)∧nth ts 3=.ptr 0 0∧nth ts 4=.ptr 1 0∧nth ts 5=.ptr 3 0∧nth ts 6=.int .i64 (i:Nat)) ?_ (n:=c) ?_
 ·skip
  rintro n ts H ⟨i,u,hi,h0,h1,h2,h3,hu,hq,hn,hL,hs0,hs3,hs4,hs5,hs6⟩;refine Xc [(0,.sl s.length (ints s)),(3,.ptr 0 0),(4,.ptr 1 0),(5,.ptr 3 0),(6,.int .i64 (i:Nat))] hL (by simp only [zFm,hs0,hs3,hs4,hs5,hs6,true_and];exact zNm) ?_
  clear hL hs0 hs3 hs4 hs5 hs6 ts
  refine Qz Qf ?_;obtain ⟨k4,c4,s4⟩:=Qbm hu
  have hL:=Xg h3
  refine zG ?_;refine Fc.pure cs (by simp [Qh,clo,Qa]) (fun g=>rfl) ?_
  by_cases hie:i<c
  ·skip
   refine zH5 h0 h3 k4 c4 s4 ?_;refine Xc1 hu rfl rfl (by omega) fun H' hu' hF=>?_
   have g0:=hF 0 _ hq h0
   have g1:=Xz hu hF h1 (by decide)
   have g2:=Xz hu hF h2 (by decide)
   have g3:=Xz hu hF h3 (by decide)
   rw [hrp] at hu';refine zH1 g3 ?_;refine ⟨c - (i+1),by omega,i+1,_,by omega, ?_, ?_, ?_,Qg g3,Ym hu' g3 (by decide),fun off m e=>by injection e with e;omega,rfl,(by (repeat' apply And.intro)<;>(first | rfl | omega | (congr 1;omega) | assumption | (congr 1;assumption)))⟩
   ·rw [Qe _ (by decide)];exact g0
   ·rw [Qe _ (by decide)];exact g1
   ·rw [Qe _ (by decide)];exact g2
  ·have hil:i=c:=by omega
   subst hil
   have hs1:∀ z:Row,Qc (H.set 1 (some z)) 1=some z:=fun z=>Qg h1
   refine zH6 h1 h3 hs1 k4 c4 s4 ?_
   have hb:=Qbg (Ym (z:=some ⟨52,2,[.ref 2 0 s.length,u]⟩) hu h1 (by decide)) (Qrg _)
   refine Bor.aggL ⟨Qbg (n:=s.length) (e:=3) (s:=1) (.inr ⟨2,rfl, ?_,by rw [Yj];omega⟩) (Qa _), ?_,trivial⟩
   ·rw [Qe _ (by decide)];exact h2
   ·simpa using hb
 ·exact ⟨0,.nil,by omega,rfl,rfl,rfl,rfl,.nil _ _ _,fun off m e=>(by cases e),rfl,rfl,rfl,rfl,rfl,rfl,rfl⟩
def Qw (s:List Int):Tn:=Qrz (Qmn s (Yr 1))
theorem Xd0 (s:List Int) (hs:s.length≤1000000000):Val C 8 [.sl s.length (ints s)] (tnV (Qw s)):=by
 have hc:=Qd0 s
 have fu:=Qv0 s (Yr 1) hs (by omega)
 have bk:=Qwp (Qmn s (Yr 1)) ⟨hs,by simp [Qmn];omega,fun x hx=>by
  rw [List.eq_of_mem_replicate hx];refine ⟨?_, ?_⟩
  ·show Xe 1≤_
   rw [Qk0];decide
  ·show Xe 1≤_
   rw [Qk0];decide⟩
 refine zK Qf Tryz.func8 w8 Tryz.ntmps8 Tryz.results8 ?_;refine zG ?_;refine (Qyx 1 (by decide) (by decide)).call ⟨.self rfl,trivial⟩ (Qhw _) ?_
 refine zG ?_;refine Fc.pure fu (by simp [Qh,clo,Qa,Qm]) (fun g=>Qy _ _ (Qti _)) ?_
 have sh:(Qmn s (Yr 1)).shape=s:=rfl
 unfold Qw;generalize Qmn s (Yr 1)=q at *;refine zG ?_;refine bk.keptF ⟨.self (Qti _),trivial⟩ fun v X hv=>?_
 obtain ⟨a,b,rfl,ha,hb⟩:=hv.agg2;obtain ⟨ka,ca,sa⟩:=Yv ha.gd;obtain ⟨kb,cb,sb⟩:=Yv hb.gd;refine zH6 ka ca sa kb cb sb ?_;exact Gd.ret (Gd.aggL ⟨(ha.set (q:=0) (by simp) _).gd,(hb.set (q:=0) (by simp) _).gd,trivial⟩)
def Qdv (T:Tn) (e:Int):V:=.tup [tnV T,.int .i64 e]
attribute [go_sem] Qdv
theorem Xl (T:Tn) (e:Int):clo (Qdv T e)=true:=Xx T e
inductive RunH:Int→List Int→Tn→List Tn→Tn→Int→Prop
 | add {a x y r T e} (h:Pu C 25 [tnV x,tnV y] (Qdv T e)):RunH 1 a x (y::r) T e
 | sub {a x y r T e} (h:Pu C 26 [tnV x,tnV y] (Qdv T e)):RunH 2 a x (y::r) T e
 | mul {a x y r T e} (h:Pu C 27 [tnV x,tnV y] (Qdv T e)):RunH 3 a x (y::r) T e
 | div {a x y r T e} (h:Pu C 28 [tnV x,tnV y] (Qdv T e)):RunH 4 a x (y::r) T e
 | matmul {a x y r T e} (h:Pu C 36 [tnV x,tnV y] (Qdv T e)):RunH 10 a x (y::r) T e
 | neg {a x r T e} (h:Pu C 29 [tnV x] (Qdv T e)):RunH 5 a x r T e
 | relu {a x r T e} (h:Pu C 31 [tnV x] (Qdv T e)):RunH 7 a x r T e
 | step {a x r T e} (h:Pu C 32 [tnV x] (Qdv T e)):RunH 8 a x r T e
 | transpose {a x r T e} (h:Pu C 38 [tnV x,.sl a.length (ints a)] (Qdv T e)):RunH 11 a x r T e
 | reshape {a x r T e} (h:Pu C 39 [tnV x,.sl a.length (ints a)] (Qdv T e)):RunH 12 a x r T e
 | broadcast {a x r T e} (h:Pu C 40 [tnV x,.sl a.length (ints a)] (Qdv T e)):RunH 13 a x r T e
 | sum {a x r T e} (h:Pu C 41 [tnV x,.sl a.length (ints a)] (Qdv T e)):RunH 14 a x r T e
 | mean {a x r T e} (h:Pu C 42 [tnV x,.sl a.length (ints a)] (Qdv T e)):RunH 20 a x r T e
 | slice {a x r T e} (h:Pu C 43 [tnV x,.sl a.length (ints a)] (Qdv T e)):RunH 15 a x r T e
 | pad {a x r T e} (h:Pu C 44 [tnV x,.sl a.length (ints a)] (Qdv T e)):RunH 16 a x r T e
 | pow {a x r T e} (ha:0<a.length) (h:Pu C 30 [tnV x,.int .i64 (a.getD 0 0)] (Qdv T e)):RunH 6 a x r T e
 | scale {a x r T e} (q:Rq) (ha:1<a.length) (hq:RqOK q) (h1:Val C 35 [.int .i64 (a.getD 0 0),.int .i64 (a.getD 1 0)] (Qr6 q)) (h:Pu C 33 [tnV x,Kj q] (Qdv T e)):RunH 9 a x r T e
 | gemm {a x y z r T e} (h:Pu C 37 [tnV x,tnV y,tnV z] (Qdv T e)):RunH 19 a x (y::z::r) T e
 | concat {a x r T e} (ha:0<a.length) (h:Pu C 45 [.int .i64 (a.getD 0 0),.sl (r.length+1) (Kd (x::r))] (Qdv T e)):RunH 17 a x r T e
 | square {a x r T e} (h:Pu C 27 [tnV x,tnV x] (Qdv T e)):RunH 18 a x r T e
theorem Xgq (v:Int) (n:Nd) (x:Tn) (r:List Tn) (T:Tn) (e:Int) (ha:n.args.length≤17592186044416) (hl:n.attrs.length≤17592186044416) (hx:x.shape.length≤1000000000) (h:RunH n.op (Jt v n x.shape.length) x r T e) :
  Pu C 10 [.int .i64 v,.agg (ndC n),.sl (r.length+1) (Kd (x::r))] (Qdv T e):=by
 have ex:=Fc.valL (Qm4 v n x.shape.length (by omega) ha hl) (Qa _)
 generalize Jt v n x.shape.length=a at *;obtain ⟨o,ar,at'⟩:=n
 have ex:Pu C 24 [.int .i64 v,.agg [.int .i64 o,.sl ar.length (ints ar),.sl at'.length (ints at')],.int .i64 x.shape.length] (.sl a.length (ints a)):=ex
 have h:RunH o a x r T e:=h
 clear ha hl
 refine Pu.ofBor (Xl _ _) ?_;refine zL Qf Tryz.func10 w10 Tryz.ntmps10 Tryz.results10 ?_;refine zH1 Yf ?_;cases h with
 | add h =>
  refine Fc.pure ex (by simp [Qh,clo,Qa]) (fun g=>by simp [ren,Ql]) ?_
  refine zH1 Yf ?_;refine Pc.pure h (by simp [Qh,clo,Qa,Qi,Yh]) (fun g=>Qy _ _ (Xl T e)) ?_
  refine zG ?_;exact .self (Xl T e)
 | sub h =>
  refine Fc.pure ex (by simp [Qh,clo,Qa]) (fun g=>by simp [ren,Ql]) ?_
  refine zH1 Yf ?_;refine Pc.pure h (by simp [Qh,clo,Qa,Qi,Yh]) (fun g=>Qy _ _ (Xl T e)) ?_
  refine zG ?_;exact .self (Xl T e)
 | mul h =>
  refine Fc.pure ex (by simp [Qh,clo,Qa]) (fun g=>by simp [ren,Ql]) ?_
  refine zH1 Yf ?_;refine Pc.pure h (by simp [Qh,clo,Qa,Qi,Yh]) (fun g=>Qy _ _ (Xl T e)) ?_
  refine zG ?_;exact .self (Xl T e)
 | div h =>
  refine Fc.pure ex (by simp [Qh,clo,Qa]) (fun g=>by simp [ren,Ql]) ?_
  refine zH1 Yf ?_;refine Pc.pure h (by simp [Qh,clo,Qa,Qi,Yh]) (fun g=>Qy _ _ (Xl T e)) ?_
  refine zG ?_;exact .self (Xl T e)
 | matmul h =>
  refine Fc.pure ex (by simp [Qh,clo,Qa]) (fun g=>by simp [ren,Ql]) ?_
  refine zH1 Yf ?_;refine Pc.pure h (by simp [Qh,clo,Qa,Qi,Yh]) (fun g=>Qy _ _ (Xl T e)) ?_
  refine zG ?_;exact .self (Xl T e)
 | neg h =>
  refine Fc.pure ex (by simp [Qh,clo,Qa]) (fun g=>by simp [ren,Ql]) ?_
  refine zH1 Yf ?_;refine Fc.pure h (by simp [Qh,clo,Qa,Qi,Yh]) (fun g=>Qy _ _ (Xl T e)) ?_
  refine zG ?_;exact .self (Xl T e)
 | relu h =>
  refine Fc.pure ex (by simp [Qh,clo,Qa]) (fun g=>by simp [ren,Ql]) ?_
  refine zH1 Yf ?_;refine Fc.pure h (by simp [Qh,clo,Qa,Qi,Yh]) (fun g=>Qy _ _ (Xl T e)) ?_
  refine zG ?_;exact .self (Xl T e)
 | step h =>
  refine Fc.pure ex (by simp [Qh,clo,Qa]) (fun g=>by simp [ren,Ql]) ?_
  refine zH1 Yf ?_;refine Fc.pure h (by simp [Qh,clo,Qa,Qi,Yh]) (fun g=>Qy _ _ (Xl T e)) ?_
  refine zG ?_;exact .self (Xl T e)
 | transpose h =>
  refine Fc.pure ex (by simp [Qh,clo,Qa]) (fun g=>by simp [ren,Ql]) ?_
  refine zH1 Yf ?_;refine Fc.pure h (by simp [Qh,clo,Qa,Qi,Yh]) (fun g=>Qy _ _ (Xl T e)) ?_
  refine zG ?_;exact .self (Xl T e)
 | reshape h =>
  refine Fc.pure ex (by simp [Qh,clo,Qa]) (fun g=>by simp [ren,Ql]) ?_
  refine zH1 Yf ?_;refine Fc.pure h (by simp [Qh,clo,Qa,Qi,Yh]) (fun g=>Qy _ _ (Xl T e)) ?_
  refine zG ?_;exact .self (Xl T e)
 | broadcast h =>
  refine Fc.pure ex (by simp [Qh,clo,Qa]) (fun g=>by simp [ren,Ql]) ?_
  refine zH1 Yf ?_;refine Fc.pure h (by simp [Qh,clo,Qa,Qi,Yh]) (fun g=>Qy _ _ (Xl T e)) ?_
  refine zG ?_;exact .self (Xl T e)
 | sum h =>
  refine Fc.pure ex (by simp [Qh,clo,Qa]) (fun g=>by simp [ren,Ql]) ?_
  refine zH1 Yf ?_;refine Fc.pure h (by simp [Qh,clo,Qa,Qi,Yh]) (fun g=>Qy _ _ (Xl T e)) ?_
  refine zG ?_;exact .self (Xl T e)
 | mean h =>
  refine Fc.pure ex (by simp [Qh,clo,Qa]) (fun g=>by simp [ren,Ql]) ?_
  refine zH1 Yf ?_;refine Fc.pure h (by simp [Qh,clo,Qa,Qi,Yh]) (fun g=>Qy _ _ (Xl T e)) ?_
  refine zG ?_;exact .self (Xl T e)
 | slice h =>
  refine Fc.pure ex (by simp [Qh,clo,Qa]) (fun g=>by simp [ren,Ql]) ?_
  refine zH1 Yf ?_;refine Fc.pure h (by simp [Qh,clo,Qa,Qi,Yh]) (fun g=>Qy _ _ (Xl T e)) ?_
  refine zG ?_;exact .self (Xl T e)
 | pad h =>
  refine Fc.pure ex (by simp [Qh,clo,Qa]) (fun g=>by simp [ren,Ql]) ?_
  refine zH1 Yf ?_;refine Fc.pure h (by simp [Qh,clo,Qa,Qi,Yh]) (fun g=>Qy _ _ (Xl T e)) ?_
  refine zG ?_;exact .self (Xl T e)
 | pow ha h =>
  refine Fc.pure ex (by simp [Qh,clo,Qa]) (fun g=>by simp [ren,Ql]) ?_
  refine zH1 Yf ?_;refine Pc.pure h (by simp [Qh,clo,Qa,Qi,Yh]) (fun g=>Qy _ _ (Xl T e)) ?_
  refine zG ?_;exact .self (Xl T e)
 | scale q ha hq h1 h =>
  refine Fc.pure ex (by simp [Qh,clo,Qa]) (fun g=>by simp [ren,Ql]) ?_
  refine zH1 Yf ?_;refine h1.pc ⟨.self rfl,.self rfl,trivial⟩ (Qhw _) ?_
  have hb:=Qms q hq
  refine zG ?_;refine hb.pc ⟨.self (Qhw _),trivial⟩ (Qk1 _) ?_;refine zG ?_;refine Pc.pure h (by simp [Qh,clo,Qa,Qi,Qm]) (fun g=>Qy _ _ (Xl T e)) ?_
  refine zG ?_;exact .self (Xl T e)
 | gemm h =>
  refine Fc.pure ex (by simp [Qh,clo,Qa]) (fun g=>by simp [ren,Ql]) ?_
  refine zH1 Yf ?_;refine Pc.pure h (by simp [Qh,clo,Qa,Qi,Yh]) (fun g=>Qy _ _ (Xl T e)) ?_
  refine zG ?_;exact .self (Xl T e)
 | concat ha h =>
  refine Fc.pure ex (by simp [Qh,clo,Qa]) (fun g=>by simp [ren,Ql]) ?_
  refine zG ?_;refine Fc.pure h (by simp [Qh,clo,Qa,Qi,Yh]) (fun g=>Qy _ _ (Xl T e)) ?_
  refine zG ?_;exact .self (Xl T e)
 | square h =>
  refine Fc.pure ex (by simp [Qh,clo,Qa]) (fun g=>by simp [ren,Ql]) ?_
  refine zH1 Yf ?_;refine Fc.pure h (by simp [Qh,clo,Qa,Qi,Yh]) (fun g=>Qy _ _ (Xl T e)) ?_
  refine zG ?_;exact .self (Xl T e)
end Go.Proofs.YtipmmjebfpbkmaaGreat
end
section
namespace Go.Proofs.YtipmmjebfpbkmaaGreat
open Go.Bv
theorem Qsl (n:Nat):Xj n [.int .i64 0]=ints (List.replicate n 0):=by
 induction n with
 | zero=>rfl
 | succ n ih=>rw [show Xj (n+1) [V.int .i64 0]=[V.int .i64 0]++Xj n [V.int .i64 0] by simp [Xj,List.replicate_succ],ih];rfl
theorem Xea {ty:TypeId→Ty} {t e n:Nat} {H:Qb} {K:V→Qb→Prop} (hs:(ty t).sl=some e) (hok:(ty e).ok=true) (hz:Ja (ty e)=[.int .i64 0]) (h1:(ty e).size=1) (hb:(ty e).bytes=8) (hn:n≤17592186044416)
  (h:K (.ref H.length 0 n) (H++[some ⟨e,1,ints (List.replicate n 0)⟩])):Qci ty t (.int .i64 n) (.int .i64 n) H K:=by
 simp only [Qci,hs];refine ⟨hok,trivial,by omega,by omega,by rw [hb];simp;omega, ?_⟩
 rw [h1,hz,Qsl];exact h
theorem Qcq (o:Int) (k:Nat) (u:V) (H0:Qb) (hk:k≤1000) (hu:kn u=true) (hc:cellsOf u=[u]) (hs:Yq u=true):Fc C 16 [.int .i64 o,.int .i64 k,u] H0 (fun v H=>v=.agg [.int .i64 o,.ref (H0.length+1) 0 k,u]∧H=H0++[some ⟨25,3,[.int .i64 o,.ref (H0.length+1) 0 k,u]⟩,some ⟨3,1,ints (List.replicate k 0)⟩]):=by
 refine zL Qf Tryz.func16 w16 Tryz.ntmps16 Tryz.results16 ?_;refine zH3 hu hc hs ?_;refine Xea rfl rfl rfl rfl rfl (by omega) ?_
 (apply Zo;repeat' ((with_reducible first|apply Zk|apply zBr<;>intro h)<;>try simp -implicitDefEqProofs (maxSteps:=9^7) (disch:=first|exact zDs|fail) only [go_sem,hu,hc,hs,List.length_append]))
theorem Qbr {v:Int} {d:Nd} {l:List (List Int)} {args:List V} {H:Qb} {K:V→Qb→Prop} (r:Sh) (hr:Qbl v d l=r) (hb:BorL H args [.int .i64 v,.agg (ndC d),.sl l.length (Jm l)]) (hl:d.args.length≤1000∧d.attrs.length≤1000∧l.length≤1000∧∀ k,k<l.length→(l.getD k []).length≤1000) (hK:K (shV r) H):Fc C 9 args H K:=by
 subst hr;exact Fc.byOwn2 (Qpm v d l (by omega) (by omega) (by omega) (fun k hk=>by have:=hl.2.2.2 k hk;omega)) hb (Qa _) (Xp _) rfl rfl hK
theorem Qh1 {xs:List Int} {args:List V} {H:Qb} {K:V→Qb→Prop} (hb:BorL H args [.sl xs.length (ints xs),.sl xs.length (ints xs)]) (hx:xs.length≤1000) (hK:K (.bool true) H):Fc C 11 args H K:=by
 have h:=Qi5 xs xs (by omega)
 simp only [decide_true] at h;exact Fc.pureL h hb (fun _=>rfl) rfl hK
theorem Qbp:Pu C 5 [] (.bool true):=by
 refine zK Qf Tryz.func5 w5 Tryz.ntmps5 Tryz.results5 ?_;refine zG ?_;refine Fc.mono (Qcq 10 2 _ _ (by omega) rfl rfl rfl) ?_
 rintro v H ⟨rfl,rfl⟩;refine zG ?_;refine Qbr (v:=3) (d:=⟨10,[0,0],[]⟩) (l:=[[2,3],[3,4]]) ([2,4],0) (by decide) (Zp 5 rfl) (by decide) ?_
 refine zG ?_;refine Fc.mono (Qcq 10 2 _ _ (by omega) rfl rfl rfl) ?_
 rintro v H ⟨rfl,rfl⟩;refine zG ?_;refine Qbr (v:=3) (d:=⟨10,[0,0],[]⟩) (l:=[[2,3],[2,3]]) ([],13) (by decide) (Zp 5 rfl) (by decide) ?_
 refine zG ?_;refine Fc.mono (Qcq 19 3 _ _ (by omega) rfl rfl rfl) ?_
 rintro v H ⟨rfl,rfl⟩;refine zG ?_;refine Qbr (v:=2) (d:=⟨19,[0,0,0],[]⟩) (l:=[[2,3],[3,4],[4]]) ([2,4],0) (by decide) (Zp 5 rfl) (by decide) ?_
 refine zG ?_;refine Fc.mono (Qcq 19 3 _ _ (by omega) rfl rfl rfl) ?_
 rintro v H ⟨rfl,rfl⟩;refine zG ?_;refine Qbr (v:=2) (d:=⟨19,[0,0,0],[]⟩) (l:=[[2,3],[3,4],[3]]) ([],13) (by decide) (Zp 5 rfl) (by decide) ?_
 refine zG ?_;refine Fc.mono (Qcq 14 1 _ _ (by omega) rfl rfl rfl) ?_
 rintro v H ⟨rfl,rfl⟩;refine zG ?_;refine Qbr (v:=3) (d:=⟨14,[0],[1]⟩) (l:=[[2,3,4]]) ([2,4],0) (by decide) (Zp 5 rfl) (by decide) ?_
 refine zG ?_;refine Fc.mono (Qcq 16 1 _ _ (by omega) rfl rfl rfl) ?_
 rintro v H ⟨rfl,rfl⟩;refine zG ?_;refine Qbr (v:=3) (d:=⟨16,[0],[1,0,0,2]⟩) (l:=[[2,2]]) ([3,4],0) (by decide) (Zp 5 rfl) (by decide) ?_
 refine zG ?_;refine Fc.mono (Qcq 17 2 _ _ (by omega) rfl rfl rfl) ?_
 rintro v H ⟨rfl,rfl⟩;refine zG ?_;refine Qbr (v:=3) (d:=⟨17,[0,0],[0]⟩) (l:=[[2,3],[5,3]]) ([7,3],0) (by decide) (Zp 5 rfl) (by decide) ?_
 refine zG ?_;refine Qh1 (xs:=[2,4]) (Zp 5 rfl) (by decide) ?_
 refine zG ?_;refine Qh1 (xs:=[2,4]) (Zp 5 rfl) (by decide) ?_
 refine zG ?_;refine Qh1 (xs:=[2,4]) (Zp 5 rfl) (by decide) ?_
 refine zG ?_;refine Qh1 (xs:=[3,4]) (Zp 5 rfl) (by decide) ?_
 refine zG ?_;refine Qh1 (xs:=[7,3]) (Zp 5 rfl) (by decide) ?_
 refine zG ?_
 (refine Qo (by intro g;simp only [go_sem,ren,Qk]) ?_)
 rfl
structure LOK (d:Nd) (l:List (List Int)):Prop where
 args:d.args.length≤17592186044416
 attrs:d.attrs.length≤17592186044416
 each:∀ k,k<l.length→(l.getD k []).length≤17592186044416
theorem Xr4 {v:Int} {d:Nd} {l:List (List Int)} {args:List V} {H:Qb} {K:V→Qb→Prop} (hb:BorL H args [.int .i64 v,.agg (ndC d),.sl l.length (Jm l)]) (ha:d.args.length≤17592186044416) (hat:d.attrs.length≤17592186044416) (hl:l.length≤1000000) (hk:∀ k,k<l.length→(l.getD k []).length≤17592186044416) (hK:K (shV (Qbl v d l)) H):Fc C 9 args H K :=
 Fc.byOwn2 (Qpm v d l ha hat hl hk) hb (Qa _) (Xp _) rfl rfl hK
theorem Qxo {v:Int} {d:Nd} {l:List (List Int)}:(Qbl v d l).1.length≤4:=by
 unfold Qbl
 repeat' split
 all_goals first | exact Nat.zero_le _ | skip
 rename_i h;exact (Qu (Decidable.not_not.1 h)).1
theorem Xf6 (ts:List Tn) (t:Tn):Kd (ts++[t])=Kd ts++[.sl t.shape.length (ints t.shape),.sl t.el.length (Qv t.el)]:=by simp [Kd]
theorem Xb7 (ts:List Tn):(Kd ts).all Yq=true:=by
 induction ts with
 | nil=>rfl
 | cons t ts ih=>rw [Yf];simp only [List.all_cons,ih];rfl
theorem Xg7 {y:Ty} {e e' s' k:Nat} {v:V} {H:Qb} {xs:List Tn} {t:Tn} {K:V→Qb→Prop} (h:Bv.Own e 2 H v k (Kd xs)) (hy:y.size=2) (hb:0<y.bytes∧y.bytes≤1000) (hl:k+1≤1000000000)
  (hK:∀ v' H',Bv.Own e 2 H' v' (k+1) (Kd (xs++[t]))→Fr v H H'→kn v'=true∧cellsOf v'=[v']∧Yq v'=true→K v' H') :
  Qbb y e v (.ref H.length 0 1) (H++[some ⟨e',s',[.sl t.shape.length (ints t.shape),.sl t.el.length (Qv t.el)]⟩]) K:=by
 rw [← hy] at h;refine Qgg h (by rw [hy];rfl) (by simp [Yq]) (by omega) (by omega) (by have:=Nat.mul_le_mul hl hb.2;omega) (Xb7 _) fun H' k1 k2 k3=>?_
 rw [hy] at k1;exact hK _ H' (by rw [Xf6];exact k1) k2 ⟨rfl,rfl,rfl⟩
def Zg (l:List (List Int)):List Tn:=l.map Qw
theorem Qyf (l:List (List Int)) {i:Nat} (h:i<l.length):Zg (l.take (i+1))=Zg (l.take i)++[Qw (l.getD i [])]:=by
 rw [List.take_add_one,List.getElem?_eq_getElem h,Zg,Zg,List.map_append];simp [List.getD,h]
theorem Xuq {l:List (List Int)} {i:Nat} (h:∀ j,j<i→Xf (l.getD j [])≤64) (hi:Xf (l.getD i [])≤64):∀ j,j<i+1→Xf (l.getD j [])≤64:=fun j hj=>by
 by_cases e:j=i
 ·rw [e];exact hi
 ·exact h j (by omega)
def Xab (v:Int) (d:Nd) (l:List (List Int)):Prop:=∃ T e,RunH d.op (Jt v d (l.getD 0 []).length) (Qw (l.getD 0 [])) (Zg (l.drop 1)) T e∧((Qbl v d l).2≠0→e≠0)∧((Qbl v d l).2=0→e=0∧T.shape=(Qbl v d l).1∧(T.el.length:Int)=Xf (Qbl v d l).1)
theorem Qsr (v:Int) (d:Nd) (l:List (List Int)) (hL:LOK d l) (hK:Yy v d=0→l.length=d.args.length→l.length≤8→(∀ j,j<l.length→Xa (l.getD j [])=0)→(∀ j,j<l.length→Xf (l.getD j [])≤64)→Xab v d l) :
  Pu C 3 [.int .i64 v,.agg (ndC d),.sl l.length (Jm l)] (.bool true):=by
 have hsl:=@Qxo v d l
 have ha:=hL.args
 have hat:=hL.attrs
 refine zK Qf Tryz.func3 w3 Tryz.ntmps3 Tryz.results3 ?_;refine zG ?_;refine Fc.pure (Qk7 v d hL.args hL.attrs) (by simp [go_sem,Qh,clo,Qa,Qn]) (by intro g;simp only [go_sem,ren,Qk]) ?_
 (refine zG ?_;(repeat' ((with_reducible apply zBr)<;>intro h<;>refine zG ?_))<;>try exact .intro)
 ·skip
  (refine Fc.pure (Qbp) (by simp [go_sem,Qh,clo,Qa,Qn]) (by intro g;simp only [go_sem,ren,Qk]) ?_;(refine zG ?_);(refine Qo (by intro g;simp only [go_sem,ren,Qk]) ?_);rfl)
 ·skip
  (refine Fc.pure (Qbp) (by simp [go_sem,Qh,clo,Qa,Qn]) (by intro g;simp only [go_sem,ren,Qk]) ?_;(refine zG ?_);(refine Qo (by intro g;simp only [go_sem,ren,Qk]) ?_);rfl)
 ·skip
  (refine Fc.pure (Qbp) (by simp [go_sem,Qh,clo,Qa,Qn]) (by intro g;simp only [go_sem,ren,Qk]) ?_;(refine zG ?_);(refine Qo (by intro g;simp only [go_sem,ren,Qk]) ?_);rfl)
 have hc:Yy v d=0:=by assumption
 have hln:l.length=d.args.length:=by omega
 have hl8:l.length≤8:=by omega
 have hk:=hL.each
 have hpos:0<l.length:=by
  have:=(Qaw hc).2.2.1
  have:=Qoo (Qaw hc).2.1
  have:1≤least d.op:=by
   unfold least
   repeat' split
   all_goals omega
  omega
 have hK:=hK hc hln hl8
 refine Qj (fun n ts H=>∃ (i:Nat) (u:V),(i≤l.length)∧(Qc H 0=some ⟨25,3,ndC d⟩)∧((∀ j,j<i→Xa (l.getD j [])=0))∧((∀ j,j<i→Xf (l.getD j [])≤64))∧(Bv.Own 34 2 H u i (Kd (Zg (l.take i))))∧(n=l.length - i)∧ts.length=100∧nth ts 0=.int .i64 v∧nth ts 2=.sl l.length (Jm l)∧nth ts 4=.ptr 0 0∧nth ts 7=u∧nth ts 8=.int .i64 (i:Nat)) ?_ (n:=l.length) ?_
 ·skip
  rintro n ts H ⟨i,u,hi,h0,hm,hcn,hu,hn,hL,hs0,hs2,hs4,hs7,hs8⟩;refine Xc [(0,.int .i64 v),(2,.sl l.length (Jm l)),(4,.ptr 0 0),(7,u),(8,.int .i64 (i:Nat))] hL (by simp only [zFm,hs0,hs2,hs4,hs7,hs8,true_and];exact zNm) ?_
  clear hL hs0 hs2 hs4 hs7 hs8 ts
  refine Qz Qf ?_;obtain ⟨k1,c1,s1⟩:=Qbm hu;by_cases hil:i<l.length
  ·have hki:=hk i hil
   have ms:=Qis (l.getD i []) hki
   have cn:=Qh2 (l.getD i []) hki
   refine zG ?_;refine Fc.pure ms (by simp [Qh,clo,Qa]) (fun g=>rfl) ?_
   by_cases hmi:Xa (l.getD i [])=0
   case neg =>
    refine zG ?_
    (refine Fc.pure (Qbp) (by simp [go_sem,Qh,clo,Qa,Qn]) (by intro g;simp only [go_sem,ren,Qk]) ?_;(refine zG ?_);(refine Qo (by intro g;simp only [go_sem,ren,Qk]) ?_);rfl)
   rw [hmi];refine zG ?_;refine Fc.pure cn (by simp [Qh,clo,Qa]) (fun g=>rfl) ?_
   by_cases hci:Xf (l.getD i [])≤64
   case neg =>
    refine zG ?_
    (refine Fc.pure (Qbp) (by simp [go_sem,Qh,clo,Qa,Qn]) (by intro g;simp only [go_sem,ren,Qk]) ?_;(refine zG ?_);(refine Qo (by intro g;simp only [go_sem,ren,Qk]) ?_);rfl)
   refine zG ?_
   have h4:=(Qu hmi).1
   refine (Xd0 (l.getD i []) (by omega)).call ⟨.self (by simp [clo,Qa]),trivial⟩ (Qcc _) ?_
   refine zH3 k1 c1 s1 ?_
   have osn:=Qyf l hil
   generalize Qw (l.getD i [])=t at *;refine Xg7 hu rfl ⟨by decide,by decide⟩ (by omega) fun v' H' hu' hF hk'=>?_
   have g0:=Xz hu hF h0 (by decide)
   rw [← osn] at hu'
   (apply Zo;repeat' ((with_reducible first|apply Zk|apply zBr<;>intro h)<;>try simp -implicitDefEqProofs (maxSteps:=9^7) (disch:=first|exact zDs|fail) only [go_sem,hk'.1,hk'.2.1,hk'.2.2]))
   exact ⟨l.length - (i+1),by omega,i+1,v',by omega,g0,Qbc hm hmi,Xuq hcn hci,hu',rfl,(by (repeat' apply And.intro)<;>(first | rfl | omega | (congr 1;omega) | assumption | (congr 1;assumption)))⟩
  ·have hil':i=l.length:=by omega
   subst hil';refine zH4 h0 k1 c1 s1 ?_;obtain ⟨T,e,hR,hE1,hE2⟩:=hK hm hcn;rw [List.take_length] at hu;refine Xr4 (v:=v) (d:=d) (l:=l) ⟨.self rfl,.self (by simp [clo,Qh,Qa]),.self (by simp [clo,Qn]),trivial⟩ hL.args hL.attrs (by omega) hL.each ?_
   generalize Qbl v d l=r at *;refine zH4 h0 k1 c1 s1 ?_
   have hol:Zg l=Qw (l.getD 0 [])::Zg (l.drop 1):=by
    match l,hpos with
    | a::l',_=>rfl
   have hsh:(Qw (l.getD 0 [])).shape=l.getD 0 []:=rfl
   have hrun:=Xgq v d (Qw (l.getD 0 [])) (Zg (l.drop 1)) T e ha hat (by rw [hsh];have:=(Qu (hm 0 hpos)).1;omega) (by rw [hsh];exact hR)
   rw [← hol,show (Zg (l.drop 1)).length+1=l.length by simp [Zg];omega] at hrun
   obtain ⟨q,rfl,hr, -⟩:∃ q,u=.ref q 0 l.length∧Qc H q=some ⟨34,2,Kd (Zg l)⟩∧True:=by
    rcases hu with ⟨_,h,_⟩ | ⟨q,h1,h2,_⟩
    ·omega
    ·exact ⟨q,h1,h2,trivial⟩
   refine Fc.sealed hr (Yh _) ?_;simp only [szL,sz,if_true,List.drop_zero,Yk _ _ _ (Qa _)];refine Fc.pure hrun (by simp [Qh,clo,Qa,Yh]) (fun g=>Qy _ _ (Xl T e)) ?_
   generalize H.set q none=G
   have mst:∀ (x:Row),Qc (G++[some x]) G.length=some x:=fun x=>Xo _ _
   have mst2:∀ (x y:Option Row),(G++[x]).set G.length y=G++[y]:=fun x y=>by rw [List.set_append_right _ _ (Nat.le_refl _),Nat.sub_self];rfl
   clear hr hu k1 c1 s1 hK
   by_cases hr:r.2=0
   case neg =>
    have hE1:=hE1 hr
    refine zH2 mst mst2 ?_
    (refine Fc.pure (Qbp) (by simp [go_sem,Qh,clo,Qa,Qn]) (by intro g;simp only [go_sem,ren,Qk]) ?_;(refine zG ?_);(refine Qo (by intro g;simp only [go_sem,ren,Qk]) ?_);rfl)
   obtain ⟨rfl,hTs,hTl⟩:=hE2 hr
   have cr:=Qh2 r.1 (by omega)
   rw [← hTl] at cr;rw [← hTs] at hsl cr ⊢;refine zH2 mst mst2 ?_;refine Pc.pure (Qi5 T.shape T.shape (by omega)) (by simp [Qh,clo,Qa]) (fun g=>rfl) ?_
   refine zH2 mst mst2 ?_;refine Pc.pure cr (by simp [Qh,clo,Qa]) (fun g=>rfl) ?_
   refine zG ?_;refine Pc.pure Qbp rfl (fun g=>rfl) ?_
   refine zG ?_
   (refine Qo (by intro g;simp only [go_sem,ren,Qk]) ?_)
   rfl
 ·exact ⟨0,.nil,by omega,rfl,fun j hj=>by omega,fun j hj=>by omega,.nil _ _ _,rfl,rfl,rfl,rfl,rfl,rfl,rfl⟩
def Qlr:Raw:=Qt (Yr 1)
theorem Qsg:Qlr=⟨false,[1],[1]⟩:=by
 rw [Qlr,Qt,Yr]
 show (⟨_,dg 4294967296 1,dg 4294967296 1⟩:Raw)=_
 rw [Qo6 _ (by decide)]
 rfl
theorem Xmr:RawOK Qlr:=by
 rw [Qsg];exact ⟨by decide,by decide,fun x hx=>by simp at hx;rw [hx];decide,fun x hx=>by simp at hx;rw [hx];decide⟩
theorem Qft {q:Rq} (h1:q.num<4294967296 ^ 4) (h2:q.den<4294967296 ^ 4):RawOK (Qt q):=⟨by
 have:=Xn (b:=4294967296) (by decide) q.num 4 h1
 show (dg 4294967296 q.num).length≤_
 omega,by
 have:=Xn (b:=4294967296) (by decide) q.den 4 h2
 show (dg 4294967296 q.den).length≤_
 omega,Yg _,Yg _⟩
theorem Qnh:Xd Qlr=Yr 1:=by
 rw [Qsg]
 show Kh false 1 1=_
 rw [Qia (by decide)]
 rfl
theorem Xms:okR Qlr=true:=by
 rw [okR,Qnh,Qif]
 rfl
theorem Qh9 (s:List Int):(Qw s).el=List.replicate (Xf s).toNat Qlr:=by
 simp [Qw,Qrz,Qmn,Qlr]
theorem Qc4 (s:List Int):((Qw s).el.length:Int)=Xf s:=by
 rw [Qh9,List.length_replicate]
 have:=Qd0 s
 omega
theorem Qu3 {s:List Int} {i:Nat} (h:i<(Qw s).el.length):(Qw s).el.getD i r0=Qlr:=by
 rw [Qh9,List.length_replicate] at h;rw [Qh9];simp [List.getD,h]
theorem Kk (s:List Int) (h:Xa s=0):TnOK (Qw s):=⟨by have:=(Qu h).1;show s.length≤_;omega,by have:=Qc4 s;have:=Qd0 s;omega,fun x hx=>by
 rw [Qh9] at hx;rw [List.eq_of_mem_replicate hx];exact Xmr⟩
theorem Jr {s:List Int} (h:Xa s=0):Xv (Qw s)=0:=by
 have hf:Jn (Qw s)=0:=by
  rw [Jn,if_neg (by show ¬ Xa s≠0;omega),if_neg (by show ¬ ((Qw s).el.length:Int)≠Xf s;rw [Qc4];omega)]
 rw [Xv,if_neg (by omega),if_pos]
 rw [Qh9,List.all_replicate];simp [Xms]
def Qcf (o:Int) (a:List Int) (l:List (List Int)):Prop:=∃ T e,RunH o a (Qw (l.getD 0 [])) (Zg (l.drop 1)) T e∧((Zi (Yc o a l)).2≠0→e≠0)∧((Zi (Yc o a l)).2=0→e=0∧T.shape=(Zi (Yc o a l)).1∧(T.el.length:Int)=Xf (Zi (Yc o a l)).1)
theorem Qsq {o:Int} {a:List Int} {l:List (List Int)} {T:Tn} {S:List Int} (hR:RunH o a (Qw (l.getD 0 [])) (Zg (l.drop 1)) T 0) (hl:Zi (Yc o a l)=(S,0)) (hs:T.shape=S) (hn:(T.el.length:Int)=Xf S):Qcf o a l :=
 ⟨T,0,hR,by rw [hl];intro h;exact absurd rfl h,fun _=>by rw [hl];exact ⟨rfl,hs,hn⟩⟩
theorem kno {o:Int} {a:List Int} {l:List (List Int)} {T:Tn} {e k:Int} (hR:RunH o a (Qw (l.getD 0 [])) (Zg (l.drop 1)) T e) (hl:(Zi (Yc o a l)).2=k) (hk:k≠0) (he:e≠0):Qcf o a l :=
 ⟨T,e,hR,fun _=>he,fun h=>absurd h (by rw [hl];exact hk)⟩
theorem Qy9 {F:Raw→Raw→Rq × Int} {a b:List Raw} {n:Nat} (h:∀ i,i<n→(F (a.getD i r0) (b.getD i r0)).2=0):Qdl F a b n=0:=by
 induction n with
 | zero=>rfl
 | succ n ih=>rw [Qdl,if_neg (by rw [ih fun i hi=>h i (by omega)];omega)];exact h n (by omega)
theorem Qrl {F:Raw→Raw→Rq × Int} {x y:List Int} (hx:Xa x=0) (hy:Xa y=0) (hF:(F Qlr Qlr).2=0):Qam F (Qw x) (Qw y)=if x≠y then 13 else 0:=by
 rw [Qam,if_neg (by rw [Jr hx];omega),if_neg (by rw [Jr hy];omega)]
 by_cases h:x=y
 ·subst h;rw [if_neg (by intro h;exact h rfl),if_neg (by intro h;exact h rfl),Qy9]
  intro i hi;rw [Qu3 hi];exact hF
 ·rw [if_pos (show (Qw x).shape≠(Qw y).shape from h),if_pos h]
theorem Qio {o:Int} {a x y:List Int} {l:List (List Int)} (F:Raw→Raw→Rq × Int) (ho:o=1∨o=2∨o=3∨o=4) (hx:Xa x=0) (hy:Xa y=0) (hF:(F Qlr Qlr).2=0)
  (hR:∀ e,Qam F (Qw x) (Qw y)=e→RunH o a (Qw x) (Zg (y::l)) (Kv (Qfb F (Qw x) (Qw y)) e) e):Qcf o a (x::y::l):=by
 have hc:Yc o a (x::y::l)=if x=y then (x,0) else ([],13):=by rw [Yc,if_pos ho];rfl
 have hb:=Qrl (F:=F) hx hy hF
 by_cases h:x=y
 ·rw [if_neg (by intro hh;exact hh h)] at hb
  rw [if_pos h] at hc
  have:=hR 0 hb
  refine Qsq (this) (by rw [hc,Kq hx]) ?_ ?_
  ·rw [Ye rfl];rfl
  ·rw [Ye rfl,← Qc4 x];simp [Qfb]
 ·rw [if_pos h] at hb;rw [if_neg h] at hc;exact kno (hR 13 hb) (by rw [hc,Qb5 _ (by decide)]) (by decide) (by decide)
theorem Xkj {o:Int} {a x y:List Int} {l:List (List Int)} (ho:o=1∨o=2∨o=3∨o=4) (hx:Xa x=0) (hy:Xa y=0):Qcf o a (x::y::l):=by
 have kx:=Kk x hx
 have ky:=Kk y hy
 have hol:Zg (y::l)=Qw y::Zg l:=rfl
 rcases ho with rfl | rfl | rfl | rfl
 ·refine Qio (Qap fun a b=>Qez (Xd a) (Xd b)) (.inl rfl) hx hy rfl fun e he=>?_
  subst he;exact .add (Xdc _ _ kx ky)
 ·refine Qio (Qap Qpr) (.inr (.inl rfl)) hx hy rfl fun e he=>?_
  subst he;exact .sub (Xc3 _ _ kx ky)
 ·refine Qio (Qap fun a b=>Xm [a,b]) (.inr (.inr (.inl rfl))) hx hy rfl fun e he=>?_
  subst he;exact .mul (Qqt _ _ kx ky)
 ·refine Qio Qo5 (.inr (.inr (.inr rfl))) hx hy ?_ fun e he=>?_
  ·rw [Qo5,Qnh,if_neg];rw [show (Yr 1).num=1 from rfl,Qo6 _ (by decide)];decide
  ·subst he;exact .div (Xdb _ _ kx ky)
theorem Qgb {o:Int} {a x:List Int} {l:List (List Int)} (F:Raw→Rq) (hc:Yc o a (x::l)=(x,0)) (hx:Xa x=0) (hR:RunH o a (Qw x) (Zg l) (Kv (Qda F (Qw x)) 0) 0):Qcf o a (x::l):=by
 refine Qsq hR (by rw [hc,Kq hx]) ?_ ?_
 ·rw [Ye rfl];rfl
 ·rw [Ye rfl,← Qc4 x];simp [Qda]
theorem Xe5 {o:Int} {a x:List Int} {l:List (List Int)} (ho:o=5∨o=6∨o=7∨o=8∨o=9∨o=18):Yc o a (x::l)=(x,0):=by
 rcases ho with rfl | rfl | rfl | rfl | rfl | rfl<;>rfl
theorem Xmo {o:Int} {a x:List Int} {l:List (List Int)} (ho:o=5∨o=6∨o=7∨o=8∨o=9∨o=18) (hx:Xa x=0) (ha:Ya o a=true):Qcf o a (x::l):=by
 have kx:=Kk x hx
 have hm:=Jr hx
 have hc:=Xe5 (a:=a) (x:=x) (l:=l) ho
 simp only [Ya,Bool.and_eq_true,Bool.not_eq_true'] at ha;obtain ⟨hfar,ha⟩:=ha;rcases ho with rfl | rfl | rfl | rfl | rfl | rfl
 ·refine Qgb (fun x=>Qkl (Xd x)) hc hx (.neg ?_)
  have:=Xc7 _ kx
  rwa [hm] at this
 ·have ha:a.length=1∧0≤a.getD 0 0∧a.getD 0 0≤16:=of_decide_eq_true ha
  have hp:=Xc4 _ kx (a.getD 0 0) (fun y hy=>by
   rw [Qh9] at hy;rw [List.eq_of_mem_replicate hy,Qsg];exact ⟨by decide,by decide⟩)
  rw [Xqc,Qx2,if_neg (by omega),if_neg (by omega)] at hp
  exact Qgb _ hc hx (.pow (by omega) hp)
 ·refine Qgb Qqk hc hx (.relu ?_)
  have:=Qxz _ kx
  rwa [hm] at this
 ·refine Qgb Qqe hc hx (.step ?_)
  have:=Qxv _ kx
  rwa [hm] at this
 ·have ha:a.length=2∧1≤a.getD 1 0∧Nat.gcd (a.getD 0 0).natAbs (a.getD 1 0).natAbs=1:=of_decide_eq_true ha
  have b0:=Qep hfar (i:=0) (by omega)
  have b1:=Qep hfar (i:=1) (by omega)
  have lp:Xe (a.getD 0 0).natAbs≤16:=Qa5 (Nat.lt_of_lt_of_le (show (a.getD 0 0).natAbs<9223372036854775809 by omega) (by decide))
  have lq:Xe (a.getD 1 0).natAbs≤16:=Qa5 (Nat.lt_of_lt_of_le (show (a.getD 1 0).natAbs<9223372036854775809 by omega) (by decide))
  have hf:=Qv2 (a.getD 0 0) (a.getD 1 0) (by omega) (by omega) (by omega) (by omega)
  have hq:=Qu8 (s:=decide (a.getD 0 0<0) != decide (a.getD 1 0<0)) (p:=(a.getD 0 0).natAbs) (q:=(a.getD 1 0).natAbs) (by omega) (by omega)
  have hl:=Qeg (decide (a.getD 0 0<0) != decide (a.getD 1 0<0)) (a.getD 0 0).natAbs (a.getD 1 0).natAbs
  generalize Kh (decide (a.getD 0 0<0) != decide (a.getD 1 0<0)) (a.getD 0 0).natAbs (a.getD 1 0).natAbs=q at *
  have hr:RawOK (Qt q):=Qft (by show q.num<340282366920938463463374607431768211456;omega) (by show q.den<340282366920938463463374607431768211456;omega)
  have hs:=Qmf _ kx (Qt q) hr
  rw [hm] at hs;exact Qgb _ hc hx (.scale q (by omega) hq hf hs)
 ·have hb:=Qrl (F:=Qap fun a b=>Xm [a,b]) hx hx rfl
  rw [if_neg (by intro h;exact h rfl)] at hb
  have:=Qqt _ _ kx kx
  rw [hb] at this;refine Qsq (.square this) (by rw [hc,Kq hx]) ?_ ?_
  ·rw [Ye rfl];rfl
  ·rw [Ye rfl,← Qc4 x];simp [Qfb]
theorem Val.pu {f:Nat} {args:List V} {u:V} (h:Val C f args u) (hc:clo u=true):Pu C f args u:=Pu.ofBor hc (Fc.mono h fun v H hv=>hv.1.bor)
theorem Xqq (t:Tn) (S:List Int) (g:List Int→List Int) (hS:Xa S=0):((mvT t S g).el.length:Int)=Xf S:=by
 have:(mvT t S g).el.length=(Qx S).toNat:=by simp [mvT,Qhh,mvL,Qf8]
 have:=Yp (Qu hS).2.1
 rw [Xf,if_pos hS];omega
theorem Qna {o:Int} {a x S:List Int} {l:List (List Int)} {g:List Int→List Int} (hR:RunH o a (Qw x) (Zg l) (Kv (mvT (Qw x) S g) 0) 0) (hl:Zi (Yc o a (x::l))=(S,0)) (hS:Xa S=0):Qcf o a (x::l):=by
 refine Qsq hR hl ?_ ?_
 ·rw [Ye rfl];rfl
 ·rw [Ye rfl];exact Xqq _ _ _ hS
theorem Xb3 {a x:List Int} {l:List (List Int)} (hx:Xa x=0) (ha:Ya 11 a=true):Qcf 11 a (x::l):=by
 have kx:=Kk x hx
 have hm:=Jr hx
 simp only [Ya,Bool.and_eq_true,Bool.not_eq_true'] at ha;obtain ⟨hfar,ha⟩:=ha;rw [show Yu 11 a=(Zn a&&decide (a.length≤4)) from rfl,Bool.and_eq_true,decide_eq_true_eq] at ha;obtain ⟨hp,h4⟩:=ha
 have hc:=Qt7 (a:=a) (l:=x::l) rfl hx hp
 have hv:=(Qpq _ kx a (by omega)).pu (Xx _ _)
 rw [Qry,Qg8,if_neg (by omega),hp] at hv
 have hsh:(Qw x).shape=x:=rfl
 rw [hsh] at hv;rw [show (x::l).getD 0 []=x from rfl] at hc;by_cases h:a.length=x.length
 ·rw [if_pos h] at hc;rw [if_neg (by simp [h])] at hv
  have hR:RunH 11 a (Qw x) (Zg l) _ _:=.transpose hv
  exact Qna hR hc (Qnj x hx a hp h)
 ·rw [if_neg h] at hc;rw [if_pos (by simp [h])] at hv
  have hR:RunH 11 a (Qw x) (Zg l) _ _:=.transpose hv
  exact kno hR (by rw [hc]) (by decide) (by decide)
theorem Xg3 {a x:List Int} {l:List (List Int)} (hx:Xa x=0) (ha:Ya 12 a=true):Qcf 12 a (x::l):=by
 have kx:=Kk x hx
 have hm:=Jr hx
 simp only [Ya,Bool.and_eq_true,Bool.not_eq_true'] at ha;obtain ⟨hfar,ha⟩:=ha
 have ha:Xa a=0:=of_decide_eq_true ha
 have h4:=(Qu ha).1
 have hv:=(Qul _ kx a (by omega)).pu (Xx _ _)
 have hc:Yc 12 a (x::l)=if Xf a=Xf x then (a,0) else ([],13):=rfl
 have hl:=Qc4 x
 have hca:Xf a=Qx a:=by rw [Xf,if_pos ha]
 rw [Xg4,Qiy,if_neg (by omega),if_neg (by omega)] at hv
 by_cases h:Xf a=Xf x
 ·rw [if_pos h] at hc;rw [if_neg (by omega)] at hv
  refine Qsq (.reshape hv) (by rw [hc,Kq ha]) ?_ ?_
  ·rw [Ye rfl];rfl
  ·rw [Ye rfl];simp only [Qhh,List.length_map];omega
 ·rw [if_neg h] at hc;rw [if_pos (by omega)] at hv
  exact kno (.reshape hv) (by rw [hc,Qb5 _ (by decide)]) (by decide) (by decide)
theorem Xn1 {a x:List Int} {l:List (List Int)} (hx:Xa x=0) (ha:Ya 13 a=true):Qcf 13 a (x::l):=by
 have kx:=Kk x hx
 have hm:=Jr hx
 simp only [Ya,Bool.and_eq_true,Bool.not_eq_true'] at ha;obtain ⟨hfar,ha⟩:=ha
 have ha:Xa a=0:=of_decide_eq_true ha
 have h4:=(Qu ha).1
 have hv:=(Qp2 _ kx a (by omega)).pu (Xx _ _)
 have hc:Yc 13 a (x::l)=if Qad x a=0 then (a,0) else ([],13):=rfl
 have hf:Qad x a=if okB x a then 0 else 13:=by rw [Qad,if_pos hx,if_pos ha]
 rw [Xrr,Qts,if_neg (by omega),if_neg (by omega),show (Qw x).shape=x from rfl] at hv
 cases h:okB x a with
 | true =>
  rw [h,if_pos rfl] at hf;rw [h,if_neg (by decide)] at hv
  rw [hf,if_pos rfl] at hc;exact Qna (.broadcast hv) (by rw [hc,Kq ha]) ha
 | false =>
  rw [h,if_neg (by decide)] at hf
  rw [h,if_pos rfl] at hv;rw [hf,if_neg (by decide)] at hc
  exact kno (.broadcast hv) (by rw [hc,Qb5 _ (by decide)]) (by decide) (by decide)
theorem Qxj {l:List Int} {s:List Int} (hs:Xa s=0) (hc:Qjk l s.length=true) (hi:Qjl l s=true):Xa (Qbk l s.length)=0:=by
 obtain ⟨m1,m2,m3⟩:=Qu hs
 have hI:=Qgw.1 hc
 have hJ:=Qes.1 hi
 have hSl:(Qbk l s.length).length=s.length:=Qbe _ _
 have hSg:∀ j,j<s.length→(Qbk l s.length).getD j 0=l.getD (2*j+1) 0 - l.getD (2*j) 0:=fun j hj=>Qg9 hj
 refine Qsm (by omega) (fun j hj=>?_) ?_
 ·have:=hI j (by omega)
  rw [hSg j (by omega)];omega
 ·have:=Qgk (a:=Qbk l s.length) (b:=s) hSl fun j hj=>by
   have h1:=hI j (by omega)
   have h2:=hJ j (by omega)
   rw [hSg j (by omega)];omega
  omega
theorem Xce {a x:List Int} {l:List (List Int)} (hx:Xa x=0) (ha:Ya 15 a=true):Qcf 15 a (x::l):=by
 have kx:=Kk x hx
 have hm:=Jr hx
 simp only [Ya,Bool.and_eq_true,Bool.not_eq_true'] at ha;obtain ⟨hfar,ha⟩:=ha
 have ha:Qfz true a=true:=ha
 obtain ⟨p1,p2,p3⟩:=(Qcn _ _).1 ha
 have hv:=(Xcd _ kx a (by omega)).pu (Xx _ _)
 have hc:Yc 15 a (x::l)=if a.length=2*x.length∧Que x a x.length=true then (Qbk a x.length,0) else ([],13):=rfl
 rw [Qxi,Qgi,if_neg (by omega),show (Qw x).shape=x from rfl] at hv
 by_cases hl:a.length=2*x.length
 case neg =>
  rw [if_neg (fun h=>hl h.1)] at hc
  rw [if_pos hl] at hv;exact kno (.slice hv) (by rw [hc,Qb5 _ (by decide)]) (by decide) (by decide)
 have hcut:Qjk a x.length=true:=Qgw.2 fun k hk=>by
  obtain ⟨q1,q2,q3⟩:=p3 k (by omega)
  exact ⟨q1,q3 rfl⟩
 rw [if_neg (by omega),hcut,if_neg (by decide)] at hv
 by_cases hin:Qjl a x=true
 ·have hS:=Qxj hx hcut hin
  rw [hin,if_neg (by decide)] at hv
  rw [if_pos ⟨hl,(Qqg _ _ _).2 (Qes.1 hin)⟩] at hc;exact Qna (.slice hv) (by rw [hc,Kq hS]) hS
 ·rw [if_pos (by simpa using hin)] at hv
  rw [if_neg (fun h=>hin (Qes.2 ((Qqg _ _ _).1 h.2)))] at hc
  exact kno (.slice hv) (by rw [hc,Qb5 _ (by decide)]) (by decide) (by decide)
theorem Xmb {a x:List Int} {l:List (List Int)} (hx:Xa x=0) (ha:Ya 16 a=true):Qcf 16 a (x::l):=by
 have kx:=Kk x hx
 have hm:=Jr hx
 simp only [Ya,Bool.and_eq_true,Bool.not_eq_true'] at ha;obtain ⟨hfar,ha⟩:=ha
 have ha:Qfz false a=true:=ha
 obtain ⟨p1,p2,p3⟩:=(Qcn _ _).1 ha
 have hv:=(Xma _ kx a (by omega)).pu (Xx _ _)
 have ec:tab (Xhb x a) x.length=Qdr a x x.length:=rfl
 have hc:Yc 16 a (x::l)=if a.length=2*x.length then (Qdr a x x.length,0) else ([],13):=rfl
 rw [Xqe,Qpu,if_neg (by omega),show (Qw x).shape=x from rfl] at hv
 by_cases hl:a.length=2*x.length
 case neg =>
  rw [if_neg hl] at hc;rw [if_pos hl] at hv;exact kno (.pad hv) (by rw [hc,Qb5 _ (by decide)]) (by decide) (by decide)
 have hn:Qva a=false:=Qib.2 fun j hj=>by
  obtain ⟨q1,q2, -⟩:=p3 (j/2) (by omega)
  rcases Nat.mod_two_eq_zero_or_one j with h | h
  ·rw [show 2*(j/2)=j by omega] at q1;omega
  ·rw [show 2*(j/2)+1=j by omega] at q2;omega
 rw [if_neg (by omega),hn,if_neg (by decide)] at hv
 rw [if_pos hl] at hc;obtain ⟨m1,m2,m3⟩:=Qu hx;by_cases hS:Xa (Qdr a x x.length)=0
 ·have hin:Qja a x.length=true:=Qi9.2 fun k hk=>by
   obtain ⟨s1,s2,s3⟩:=Qu hS
   have hlen:(Qdr a x x.length).length=x.length:=Qbe _ _
   have g1:=Xq s2 (i:=k) (by omega)
   have g2:=Zj m2 hk
   rw [Qdr,Qg9 hk,Xmc] at g1;obtain ⟨q1,q2, -⟩:=p3 k (by omega)
   have:Qx (Qdr a x x.length)≤1024:=s3
   rw [Qdr] at this;omega
  rw [hin,if_neg (by decide),hS] at hv
  exact Qna (.pad hv) (by rw [hc,Kq hS]) hS
 ·have hl2:(Zi (Yc 16 a (x::l))).2=Xa (Qdr a x x.length):=by rw [hc,Zi,if_neg (by simp),if_pos hS]
  by_cases hin:Qja a x.length=true
  ·rw [hin,if_neg (by decide)] at hv
   exact kno (.pad hv) hl2 hS hS
  ·rw [if_pos (by simpa using hin)] at hv
   exact kno (.pad hv) hl2 hS (by decide)
theorem Qqy (L:List (List Int)):(Zg L).length=L.length:=by simp [Zg]
theorem Qlq (L:List (List Int)) {k:Nat} (h:k<L.length):(Zg L).getD k t0n=Qw (L.getD k []):=by simp [Zg,List.getD,h]
theorem Qc5 (L:List (List Int)) (k:Nat):((Zg L).getD k t0n).shape=L.getD k []:=by
 by_cases h:k<L.length
 ·rw [Qlq L h];rfl
 ·rw [List.getD_eq_getElem?_getD,List.getD_eq_getElem?_getD,List.getElem?_eq_none (by rw [Qqy];omega),List.getElem?_eq_none (by omega)];rfl
theorem Qnn (L:List (List Int)) (a:Nat):∀ k,Qha (Zg L) a k=Qa7 a L k
 | 0=>rfl
 | k+1=>by rw [Qha,Qa7,Qnn L a k,Qc5]
theorem Qwk (L:List (List Int)) (a k:Nat):Zz (Zg L) a k=(L.getD 0 []).set a (Qa7 a L k):=by rw [Zz,Qc5,Qnn]
theorem Xjm (L:List (List Int)) (a k:Nat):Qov (Zg L) a k=true↔Qhu a L k:=by
 simp only [Qov,Qc5,Bool.and_eq_true,decide_eq_true_eq,List.all_eq_true,List.mem_range,Qhu]
theorem Qzl (L:List (List Int)) (a:Nat):Qhu a L 0:=⟨rfl,fun _ _ _=>rfl⟩
theorem Qvv (l:List Int) (a i:Nat) (v:Int):(l.set a v).getD i 0=if i=a∧i<l.length then v else l.getD i 0:=by
 simp only [List.getD_eq_getElem?_getD,List.getElem?_set];by_cases h:a=i
 ·subst h;by_cases h2:a<l.length
  ·simp [h2]
  ·simp [h2]
 ·rw [if_neg h,if_neg (by omega)]
theorem Xnz {a x:List Int} {l:List (List Int)} (hm:∀ j,j<(x::l).length→Xa ((x::l).getD j [])=0) (hl8:(x::l).length≤8) (ha:Ya 17 a=true):Qcf 17 a (x::l):=by
 simp only [Ya,Bool.and_eq_true,Bool.not_eq_true'] at ha;obtain ⟨hfar,ha⟩:=ha
 have ha:a.length=1∧0≤a.getD 0 0∧a.getD 0 0≤3:=of_decide_eq_true ha
 obtain ⟨ax,hax⟩:∃ ax:Nat,a.getD 0 0=(ax:Int):=⟨(a.getD 0 0).toNat,by omega⟩
 have hlen:=Qqy (x::l)
 have hv:=(Qzk (Zg (x::l)) (by omega) (fun j hj=>by rw [Qlq _ (by omega)];exact Kk _ (hm j (by omega))) (a.getD 0 0)).pu (Xx _ _)
 have hR:∀ T e,Pu C 45 [.int .i64 (a.getD 0 0),.sl (Zg (x::l)).length (Kd (Zg (x::l)))] (Qdv T e)→RunH 17 a (Qw x) (Zg l) T e:=fun T e h=>.concat (by omega) (by rw [show (Zg l).length+1=(Zg (x::l)).length from rfl];exact h)
 have hv:=hR _ _ hv
 clear hR
 have hc:Yc 17 a (x::l)=Qht (a.getD 0 0).toNat (x::l):=rfl
 have hpos:0<(x::l).length:=by simp
 have hx0:(x::l).getD 0 []=x:=rfl
 unfold Qcf;rw [hx0,show (x::l).drop 1=l from rfl];generalize hLL:x::l=L at *
 have hf0:Qem (Zg L)=0:=Qmo.2 fun j hj=>by rw [Qlq _ (by omega)];exact Jr (hm j (by omega))
 rw [hax,Int.toNat_natCast] at hc
 have m0:=hm 0 hpos
 rw [hx0] at m0;obtain ⟨m1,m2,m3⟩:=Qu m0
 have hE:Qiw (Zg L) (a.getD 0 0)=if ¬ (ax<x.length) then 11 else if ¬ (∀ k,k<L.length→Qhu ax L k) then 13 else if ¬ (∀ k,k<L.length→Xa (x.set ax (Qa7 ax L (k+1)))=0) then 14 else 0:=by
  rw [Qiw,if_neg (by omega),if_neg (by omega),hax,Int.toNat_natCast,Qc5,hx0,hlen]
  simp only [Xjm,Qwk,hx0]
  congr 1
  simp only [eq_iff_iff];omega
 have hcp:Qht ax L=if ax<x.length∧Xj8 ax L L.length=true then (x.set ax (Qa7 ax L L.length),0) else ([],13):=by rw [Qht,hx0]
 rw [hcp] at hc
 have no:∀ k e:Int,Zi (Yc 17 a L)=([],k)∨(Zi (Yc 17 a L)).2=k→k≠0→Qiw (Zg L) (a.getD 0 0)=e→e≠0→∃ T e,RunH 17 a (Qw x) (Zg l) T e∧((Zi (Yc 17 a L)).2≠0→e≠0)∧((Zi (Yc 17 a L)).2=0→e=0∧T.shape=(Zi (Yc 17 a L)).1∧(T.el.length:Int)=Xf (Zi (Yc 17 a L)).1):=fun k e h hk he h0=>⟨_,_,hv,fun _=>by rw [he];exact h0,fun hz=>by
  rcases h with h | h
  ·rw [h] at hz;exact absurd hz hk
  ·rw [h] at hz;exact absurd hz hk⟩
 by_cases h1:ax<x.length
 case neg =>
  rw [if_neg (fun h=>h1 h.1)] at hc
  rw [if_pos h1] at hE;exact no 13 11 (.inl (by rw [hc,Qb5 _ (by decide)])) (by decide) hE (by decide)
 rw [if_neg (by omega)] at hE
 by_cases h2:Xj8 ax L L.length=true
 case neg =>
  rw [if_neg (fun h=>h2 h.2)] at hc
  rw [if_pos (fun h=>h2 ((Qhv _ _ _).2 fun k hk _=>h k hk))] at hE
  exact no 13 13 (.inl (by rw [hc,Qb5 _ (by decide)])) (by decide) hE (by decide)
 rw [if_pos ⟨h1,h2⟩] at hc
 have hcon:∀ k,k<L.length→Qhu ax L k:=fun k hk=>by
  by_cases h0:k=0
  ·rw [h0];exact Qzl _ _
  ·exact (Qhv _ _ _).1 h2 k hk (by omega)
 rw [if_neg (fun h=>h hcon)] at hE
 have hmono:∀ k,k≤L.length→(k:Int)≤Qa7 ax L k∧Qa7 ax L k≤1024*k:=fun k hk=>by
  have:=Qr1 (tl:=Zg L) (a:=ax) (fun j hj=>by
   rw [Qc5]
   have hj':j<L.length:=by omega
   obtain ⟨n1,n2,n3⟩:=Qu (hm j hj')
   have hl:ax<(L.getD j []).length:=by rw [(hcon j hj').1,hx0];exact h1
   have:=Zj n2 hl
   have:=Xq n2 hl
   omega) k (by omega)
  rwa [Qnn] at this
 have hinc:∀ k j,k+j≤L.length→Qa7 ax L k≤Qa7 ax L (k+j):=fun k j=>by
  induction j with
  | zero=>intro _;exact Int.le_refl _
  | succ j ih =>
   intro h
   have i1:=ih (by omega)
   obtain ⟨n1,n2,n3⟩:=Qu (hm (k+j) (by omega))
   have hl:ax<(L.getD (k+j) []).length:=by rw [(hcon (k+j) (by omega)).1,hx0];exact h1
   have:=Zj n2 hl
   rw [← Nat.add_assoc,Qa7];omega
 by_cases hS:Xa (x.set ax (Qa7 ax L L.length))=0
 ·obtain ⟨s1,s2,s3⟩:=Qu hS
  have hpart:∀ k,k<L.length→Xa (x.set ax (Qa7 ax L (k+1)))=0:=fun k hk=>by
   have g1:=hmono (k+1) (by omega)
   have g2:=hinc (k+1) (L.length - (k+1)) (by omega)
   rw [show k+1+(L.length - (k+1))=L.length by omega] at g2
   have hge:∀ j,j<(x.set ax (Qa7 ax L (k+1))).length→1≤(x.set ax (Qa7 ax L (k+1))).getD j 0∧(x.set ax (Qa7 ax L (k+1))).getD j 0≤(x.set ax (Qa7 ax L L.length)).getD j 0:=fun j hj=>by
    rw [List.length_set] at hj
    have:=Zj m2 hj
    rw [Qvv,Qvv];split<;>omega
   refine Qsm (by rw [List.length_set];omega) (fun j hj=>(hge j hj).1) ?_
   have:=Qgk (a:=x.set ax (Qa7 ax L (k+1))) (b:=x.set ax (Qa7 ax L L.length)) (by rw [List.length_set,List.length_set]) hge
   omega
  rw [if_neg (fun h=>h hpart)] at hE
  have hlim:Zi (Yc 17 a L)=(x.set ax (Qa7 ax L L.length),0):=by rw [hc,Kq hS]
  refine ⟨_,_,hv,fun h=>by rw [hlim] at h;exact absurd rfl h,fun _=>?_⟩
  rw [hE,hlim,Xro,hE,Ye rfl,hax,Int.toNat_natCast,hlen,Qwk,hx0];refine ⟨rfl,rfl, ?_⟩
  have hp:=Yp s2
  simp only [Qhh,List.length_map,Qm0,Qf8];rw [Xf,if_pos hS];omega
 ·rw [if_pos (fun h=>hS (by have:=h (L.length - 1) (by omega);rwa [show L.length - 1+1=L.length by omega] at this))] at hE
  exact no _ 14 (.inr (by rw [hc,Zi,if_neg (by simp),if_pos hS])) hS hE (by decide)
def Sm (B:Nat) (q:Rq):Prop:=∃ m:Nat,m≤B∧q=Yr m
theorem Qc8 (m:Nat):Yr (m:Int)=⟨false,m,1⟩:=by
 rw [Yr,Int.natAbs_natCast];simp
theorem Qod (m:Nat):Kh false m 1=Yr (m:Int):=by
 rw [Qc8];by_cases h:m=0
 ·rw [h,Qat (.inl rfl)]
 ·rw [Qia (by omega),Nat.gcd_one_right,Nat.div_one,Nat.div_one]
theorem Xaj (m:Nat):Xd (Qt (Yr (m:Int)))=Yr (m:Int):=by
 rw [Qi6,Qc8,Qod,Qc8]
theorem Qrw:Xd r0=Yr (0:Nat):=by
 show Kh false 0 0=_
 rw [Qat (.inl rfl)];rfl
theorem Sm.add {a b:Nat} {q r:Rq} (h1:Sm a q) (h2:Sm b r):Sm (a+b) (Qez q r):=by
 obtain ⟨m,hm,rfl⟩:=h1;obtain ⟨n,hn,rfl⟩:=h2;refine ⟨m+n,by omega, ?_⟩
 rw [Qc8,Qc8,Qez,if_pos rfl,Km,if_neg (by simp)]
 simp only [Nat.mul_one,Nat.one_mul];rw [Qod]
theorem Sm.mono {a b:Nat} {q:Rq} (h:Sm a q) (hab:a≤b):Sm b q:=by
 obtain ⟨m,hm,rfl⟩:=h;exact ⟨m,by omega,rfl⟩
theorem Xa2 (a b:Nat):Qsi (Yr (a:Int)) (Yr (b:Int))=Yr ((a*b:Nat):Int):=by
 rw [Qc8,Qc8,Qsi,Km,if_neg (by simp)]
 simp only [Nat.mul_one,bne_self_eq_false];rw [Qod]
theorem Sm.prod {x y:Raw} (h1:Sm 1 (Xd x)) (h2:Sm 1 (Xd y)):Sm 1 (Xm [x,y]):=by
 obtain ⟨m,hm,h1⟩:=h1;obtain ⟨n,hn,h2⟩:=h2;refine ⟨m*n,by have:=Nat.mul_le_mul hm hn;omega, ?_⟩
 rw [Xm,List.foldl_cons,List.foldl_cons,List.foldl_nil,h1,h2,show Yr 1=Yr ((1:Nat):Int) from rfl,Xa2,Xa2,Nat.one_mul]
theorem Sm.raw {a:Nat} {q:Rq} (h:Sm a q) (ha:a≤1000000000):RawOK (Qt q):=by
 obtain ⟨m,hm,rfl⟩:=h;rw [Qc8];exact Qft (by show m<340282366920938463463374607431768211456;omega) (by show 1<340282366920938463463374607431768211456;omega)
theorem Sm.val {a:Nat} {q:Rq} (h:Sm a q):Sm a (Xd (Qt q)):=by
 obtain ⟨m,hm,rfl⟩:=h;rw [Xaj];exact ⟨m,hm,rfl⟩
theorem Sm.ok {a:Nat} {q:Rq} (h:Sm a q):okR (Qt q)=true:=by
 obtain ⟨m,hm,rfl⟩:=h;rw [okR,Xaj,Qif]
theorem Xpd:Sm 1 (Xd Qlr):=⟨1,by omega,Qnh⟩
theorem Xte:Sm 1 (Xd r0):=⟨0,by omega,Qrw⟩
theorem Qh8 (s:List Int) (i:Nat):Sm 1 (Xd ((Qw s).el.getD i r0)):=by
 by_cases h:i<(Qw s).el.length
 ·rw [Qu3 h];exact Xpd
 ·rw [List.getD_eq_getElem?_getD,List.getElem?_eq_none (by omega)];exact Xte
theorem Qm7 (s a S:List Int):∀ k,∀ y∈Qbx (Qw s) a S k,∃ q,y=Qt q∧Sm k q
 | 0,y,hy=>⟨Yr 0,by rw [Qbx] at hy;rw [List.eq_of_mem_replicate hy];rfl,0,by omega,rfl⟩
 | k+1,y,hy=>by
  have ih:=Qm7 s a S k
  rw [Qbx] at hy;rcases List.mem_or_eq_of_mem_set hy with h | h
  ·obtain ⟨q,e,h⟩:=ih y h;exact ⟨q,e,h.mono (by omega)⟩
  ·refine ⟨_,h,Sm.add ?_ (Qh8 s k)⟩;generalize (Qff (Qw s).shape S a k).toNat=p;by_cases hp:p<(Qbx (Qw s) a S k).length
   ·obtain ⟨q,e,h⟩:=ih _ (Qcu hp);rw [e];exact h.val
   ·rw [List.getD_eq_getElem?_getD,List.getElem?_eq_none (by omega)]
    exact ⟨0,by omega,Qrw⟩
theorem Xl4 {a:List Int} (h:Qd8 a=true):Qqj a=true:=Qlg.2 fun i hi=>by
 obtain ⟨h1,h2,h3⟩:=(Qa1 a).1 h i hi;exact ⟨h1,h3⟩
theorem Qq8 {a x:List Int} (hx:Xa x=0) (hr:Qd8 a=true):Qe7 (Qw x) a=if axP a x.length≠0 then 13 else 0:=by
 rw [Qe7,if_neg (by rw [Jr hx];omega),if_neg (by rw [Xl4 hr];decide)]
 rfl
theorem Qwq {a:List Int} (h:Qd8 a=true):a.length≤4:=by
 have hr:=(Qa1 a).1 h
 have hd:∀ i,i<a.length→(i:Int)≤a.getD i 0:=fun i=>by
  induction i with
  | zero=>intro hi;exact (hr 0 hi).1
  | succ i ih =>
   intro hi
   have h1:=ih (by omega)
   have h2:=(hr (i+1) hi).2.2 (by omega)
   rw [Nat.add_sub_cancel] at h2;omega
 by_cases h4:a.length≤4
 ·exact h4
 ·have h1:=hd 4 (by omega)
  have h2:=(hr 4 (by omega)).2.1
  omega
theorem Qnm {x a:List Int} (hx:Xa x=0):∀ k,k<(Qw x).el.length→∀ y∈Qbx (Qw x) a (Qle (Qw x) a) k,RawOK y:=fun k hk y hy=>by
 obtain ⟨q,e,h⟩:=Qm7 x a _ k y hy
 have h1:=Qc4 x
 have h2:=Qd0 x
 rw [e];exact h.raw (by omega)
theorem Xls {a x:List Int} {l:List (List Int)} (hx:Xa x=0) (ha:Ya 14 a=true):Qcf 14 a (x::l):=by
 have kx:=Kk x hx
 simp only [Ya,Bool.and_eq_true,Bool.not_eq_true'] at ha;obtain ⟨hfar,ha⟩:=ha
 have ha:Qd8 a=true:=ha
 have hl4:=Qwq ha
 have hc:=Qo0 (o:=14) (a:=a) (l:=x::l) (.inl rfl) hx ((Qa1 a).1 ha)
 rw [show (x::l).getD 0 []=x from rfl] at hc
 have hv:=Qub _ kx a (by omega) (Qnm hx)
 have hf:=Qq8 hx ha
 rw [Qd3,hf] at hv;by_cases h:axP a x.length=0
 ·rw [if_pos h] at hc;rw [if_neg (by omega)] at hv
  refine Qsq (.sum hv) hc ?_ ?_
  ·rw [Ye rfl];rfl
  ·have hS:=Qgd a hx
   have:=Yp (Qu hS).2.1
   rw [Ye rfl]
   show ((Qbx _ _ _ _).length:Int)=_
   rw [Qjx,Xf,if_pos hS]
   show ((Qx (Yz x a x.length)).toNat:Int)=_
   omega
 ·rw [if_neg h] at hc;rw [if_pos h] at hv;exact kno (.sum hv) (by rw [hc]) (by decide) (by decide)
theorem Xh4 {a x:List Int} {l:List (List Int)} (hx:Xa x=0) (ha:Ya 20 a=true):Qcf 20 a (x::l):=by
 have kx:=Kk x hx
 simp only [Ya,Bool.and_eq_true,Bool.not_eq_true'] at ha;obtain ⟨hfar,ha⟩:=ha
 have ha:Qd8 a=true:=ha
 have hl4:=Qwq ha
 have hc:=Qo0 (o:=20) (a:=a) (l:=x::l) (.inr rfl) hx ((Qa1 a).1 ha)
 rw [show (x::l).getD 0 []=x from rfl] at hc
 have hf:=Qq8 hx ha
 have hS:=Qgd a hx
 have hS4:=(Qu hS).1
 have hS3:=(Qu hS).2.2
 have hSp:=Yp (Qu hS).2.1
 have xl:=Qc4 x
 have xc:=Qd0 x
 have hsl:(Qbx (Qw x) a (Qle (Qw x) a) (Qw x).el.length).length=(Qx (Yz x a x.length)).toNat:=Qjx _ _ _ _
 have hT:TnOK (Qd3 (Qw x) a)∧(Qd3 (Qw x) a).el.length≤1024:=by
  rw [Qd3];by_cases h:Qe7 (Qw x) a=0
  ·rw [Ye h];refine ⟨⟨?_, ?_, ?_⟩, ?_⟩
   ·show (Yz x a x.length).length≤_;omega
   ·show (Qbx _ _ _ _).length≤_;rw [hsl];omega
   ·intro y hy;obtain ⟨q,e,h⟩:=Qm7 x a _ _ y hy;rw [e];exact h.raw (by omega)
   ·show (Qbx _ _ _ _).length≤_;rw [hsl];omega
  ·rw [Qs6 h];exact ⟨⟨by decide,by decide,fun y hy=>by simp [Qoy] at hy⟩,by decide⟩
 have hb:RawOK (Qt (byQ (Qw x) a)):=by
  rw [byQ,Qot,Km];split
  ·exact Qft (by decide) (by decide)
  ·have:=Qeg (decide (((Qd3 (Qw x) a).el.length:Int)<0) != decide (((Qw x).el.length:Int)<0)) (Qd3 (Qw x) a).el.length (Qw x).el.length
   have h1:=hT.2
   rw [Int.natAbs_natCast,Int.natAbs_natCast];exact Qft (Nat.lt_of_le_of_lt (m:=1024) (by show (Kh _ _ _).num≤_;omega) (by decide)) (Nat.lt_of_le_of_lt (m:=1024) (by show (Kh _ _ _).den≤_;omega) (by decide))
 have hv:=Xd6 _ kx a (by omega) (Qnm hx) hT.1 hb
 by_cases h:axP a x.length=0
 ·rw [if_pos h] at hc;rw [if_neg (by omega)] at hf
  have hTT:Qd3 (Qw x) a=⟨Yz x a x.length,Qbx (Qw x) a (Qle (Qw x) a) (Qw x).el.length⟩:=by rw [Qd3,Ye hf];rfl
  have hm:Xv (Qd3 (Qw x) a)=0:=by
   have hfit:Jn (Qd3 (Qw x) a)=0:=by
    rw [hTT,Jn,if_neg (by show ¬ Xa (Yz x a x.length)≠0;omega),if_neg]
    show ¬ ((Qbx (Qw x) a (Qle (Qw x) a) (Qw x).el.length).length:Int)≠Xf (Yz x a x.length)
    rw [Xf,if_pos hS,hsl];omega
   rw [Xv,if_neg (by omega),if_pos]
   rw [hTT,List.all_eq_true];intro y hy;obtain ⟨q,e,h⟩:=Qm7 x a _ _ y hy;rw [e];exact h.ok
  have hE:Qmk (Qw x) a=0:=by rw [Qmk,if_neg (by omega)];exact hm
  rw [Xh5,hE] at hv;refine Qsq (.mean hv) hc ?_ ?_
  ·rw [Ye rfl,hTT];rfl
  ·rw [Ye rfl,hTT];simp only [Qda,List.length_map];rw [Xf,if_pos hS,hsl];omega
 ·rw [if_neg h] at hc;rw [if_pos h] at hf
  have hE:Qmk (Qw x) a=13:=by rw [Qmk,if_pos (by omega)];exact hf
  rw [hE] at hv;exact kno (.mean hv) (by rw [hc]) (by decide) (by decide)
theorem Xh3 (x y:List Int) (b c i j:Nat):∀ k,Sm k (mmQ (Qw x) (Qw y) b c i j k)
 | 0=>⟨0,by omega,rfl⟩
 | k+1=>by
  rw [mmQ];exact Sm.add (Xh3 x y b c i j k).val ((Qh8 x _).prod (Qh8 y _)).val
theorem Qik {x:List Int} (h:Xa x=0) (i:Nat):0≤x.getD i 0∧x.getD i 0≤1024:=by
 obtain ⟨h1,h2,h3⟩:=Qu h;by_cases hi:i<x.length
 ·have:=Zj h2 hi
  have:=Xq h2 hi
  omega
 ·rw [List.getD_eq_getElem?_getD,List.getElem?_eq_none (by omega)]
  exact ⟨by decide,by decide⟩
theorem Xom {x y:List Int} (hx:Xa x=0):∀ i j k,k<((Qw x).shape.getD 1 0).toNat→i<((Qw x).shape.getD 0 0).toNat→j<((Qw y).shape.getD 1 0).toNat→RawOK (Qt (mmQ (Qw x) (Qw y) ((Qw x).shape.getD 1 0).toNat ((Qw y).shape.getD 1 0).toNat i j k))∧RawOK (Qt (Xm [(Qw x).el.getD (i*((Qw x).shape.getD 1 0).toNat+k) r0,(Qw y).el.getD (k*((Qw y).shape.getD 1 0).toNat+j) r0])):=fun i j k h1 _ _=>by
 have h:=Qik hx 1
 have h1:k<(x.getD 1 0).toNat:=h1
 exact ⟨(Xh3 x y _ _ i j k).raw (by omega),((Qh8 x _).prod (Qh8 y _)).raw (by decide)⟩
theorem Xa6 {x y:List Int} (h:Xa (Js (Qw x) (Qw y))=0):((Qei (Qw x) (Qw y)).el.length:Int)=Xf (Js (Qw x) (Qw y)):=by
 obtain ⟨m1,m2,m3⟩:=Qu h
 have d0:1≤x.getD 0 0:=m2 (x.getD 0 0) (by simp [Js];exact .inl rfl)
 have d1:1≤y.getD 1 0:=m2 (y.getD 1 0) (by simp [Js];exact .inr rfl)
 have e:(Qei (Qw x) (Qw y)).el.length=(x.getD 0 0).toNat*(y.getD 1 0).toNat:=by
  simp only [Qei,Qjc,List.length_map,List.length_range];rfl
 rw [e,Xf,if_pos h,Int.natCast_mul,Int.toNat_of_nonneg (by omega),Int.toNat_of_nonneg (by omega)]
 show _=Qx [x.getD 0 0,y.getD 1 0]
 simp [Qx]
theorem Qvc {x y:List Int} (hx:Xa x=0) (hy:Xa y=0):(Qej (Qw x) (Qw y)=(Zi (Qab x y)).2)∧(Qej (Qw x) (Qw y)=0→Zi (Qab x y)=(Js (Qw x) (Qw y),0)∧Xa (Js (Qw x) (Qw y))=0):=by
 have hO:Qq4 (Qw x) (Qw y)↔x.length=2∧y.length=2∧x.getD 1 0=y.getD 0 0:=Iff.rfl
 have hS:Js (Qw x) (Qw y)=[x.getD 0 0,y.getD 1 0]:=rfl
 rw [Qej,if_neg (by rw [Jr hx];omega),if_neg (by rw [Jr hy];omega),hS]
 by_cases h:x.length=2∧y.length=2∧x.getD 1 0=y.getD 0 0
 ·rw [if_neg (fun hn=>hn (hO.2 h)),Qab,if_pos h]
  by_cases hm:Xa [x.getD 0 0,y.getD 1 0]=0
  ·rw [Kq hm,hm];exact ⟨rfl,fun _=>⟨rfl,rfl⟩⟩
  ·rw [Zi,if_neg (by simp),if_pos hm];exact ⟨rfl,fun hh=>absurd hh hm⟩
 ·rw [if_pos (fun hn=>h (hO.1 hn)),Qab,if_neg h,Qb5 _ (by decide)]
  exact ⟨rfl,fun hh=>absurd hh (by decide)⟩
theorem Xmz {a x y:List Int} {l:List (List Int)} (hx:Xa x=0) (hy:Xa y=0):Qcf 10 a (x::y::l):=by
 have kx:=Kk x hx
 have ky:=Kk y hy
 have hv:=Qvb _ _ kx ky (Xom hx)
 have hc:Yc 10 a (x::y::l)=Qab x y:=rfl
 obtain ⟨h1,h2⟩:=Qvc hx hy;by_cases h:Qej (Qw x) (Qw y)=0
 ·obtain ⟨h3,h4⟩:=h2 h;rw [h] at hv;refine Qsq (.matmul hv) (by rw [hc,h3]) ?_ ?_
  ·rw [Ye rfl];rfl
  ·rw [Ye rfl];exact Xa6 h4
 ·exact kno (.matmul hv) (by rw [hc,← h1]) h h
theorem Qqf (z l:List Int):Sm 1 (Xd (Qt (Qdo (Qw z) l)))∧RawOK (Qt (Qdo (Qw z) l)):=by
 rw [Qdo,atQ];split
 ·have:=Qh8 z (Qf0 (Qw z).shape (brL (Qw z).shape l)).toNat
  exact ⟨this.val,this.raw (by decide)⟩
 ·refine ⟨⟨0,by omega, ?_⟩,Qft (by decide) (by decide)⟩
  rw [Qi6]
  show Kh false 0 0=_
  rw [Qat (.inl rfl)];rfl
theorem Xjh {x y z:List Int} (hx:Xa x=0):∀ i,∀ r∈Qg2 (Qw x) (Qw y) (Qw z) i,∃ q,r=Qt q∧Sm (1024+i) q
 | 0,r,hr=>by
  rw [Qg2] at hr;simp only [Qei,Qjc,List.mem_map,List.mem_range] at hr;obtain ⟨_,⟨p,_,rfl⟩,rfl⟩:=hr;refine ⟨_,rfl,(Xh3 x y _ _ _ _ _).mono ?_⟩
  have h:=Qik hx 1
  show (x.getD 1 0).toNat≤_
  omega
 | i+1,r,hr=>by
  have ih:=Xjh (y:=y) (z:=z) hx i
  rw [Qg2] at hr;rcases List.mem_or_eq_of_mem_set hr with h | h
  ·obtain ⟨q,e,h⟩:=ih r h;exact ⟨q,e,h.mono (by omega)⟩
  ·refine ⟨_,h,Sm.add (a:=1024+i) (b:=1) ?_ (Qqf z _).1⟩;by_cases hp:i<(Qg2 (Qw x) (Qw y) (Qw z) i).length
   ·obtain ⟨q,e,h⟩:=ih _ (Qcu hp);rw [e];exact h.val
   ·rw [List.getD_eq_getElem?_getD,List.getElem?_eq_none (by omega)]
    exact ⟨0,by omega,Qrw⟩
theorem Xjg {a x y z:List Int} {l:List (List Int)} (hx:Xa x=0) (hy:Xa y=0) (hz:Xa z=0):Qcf 19 a (x::y::z::l):=by
 have kx:=Kk x hx
 have ky:=Kk y hy
 have kz:=Kk z hz
 have hv:=Xer _ _ _ kx ky kz (Xom hx) (fun i hi=>by
  have hl:(Qei (Qw x) (Qw y)).el.length≤1024*1024:=by
   simp only [Qei,Qjc,List.length_map,List.length_range]
   have h1:=Qik hx 0
   have h2:=Qik hy 1
   exact Nat.mul_le_mul (by show (x.getD 0 0).toNat≤_;omega) (by show (y.getD 1 0).toNat≤_;omega)
  refine ⟨?_,(Qqf z _).2⟩;obtain ⟨q,e,h⟩:=Xjh (y:=y) (z:=z) hx i _ (Qcu (by rw [Qkv];exact hi))
  rw [e];exact h.raw (by omega))
 have hc:=Qvw (o:=19) (a:=a) (l:=x::y::z::l) rfl hx hy
 rw [show (x::y::z::l).getD 0 []=x from rfl,show (x::y::z::l).getD 1 []=y from rfl,show (x::y::z::l).getD 2 []=z from rfl] at hc;obtain ⟨h1,h2⟩:=Qvc hx hy
 have hE:Qor (Qw x) (Qw y) (Qw z)=if Qej (Qw x) (Qw y)≠0 then Qej (Qw x) (Qw y) else Qad z (Js (Qw x) (Qw y)):=by
  rw [Qor,if_neg (by rw [Jr hx];omega),if_neg (by rw [Jr hy];omega),if_neg (by rw [Jr hz];omega)];rfl
 by_cases h:Qej (Qw x) (Qw y)=0
 ·obtain ⟨h3,h4⟩:=h2 h;rw [if_neg (by omega)] at hE
  rw [h3,if_neg (by simp)] at hc
  by_cases hf:Qad z (Js (Qw x) (Qw y))=0
  ·rw [hf] at hE;rw [hE] at hv;rw [if_neg (by simpa using hf)] at hc
   refine Qsq (.gemm hv) hc ?_ ?_
   ·rw [Ye rfl];rfl
   ·rw [Ye rfl,← Xa6 h4]
    show ((Qg2 _ _ _ _).length:Int)=_
    rw [Qkv]
  ·rw [if_pos (by simpa using hf)] at hc
   exact kno (.gemm hv) (by rw [hc]) (by decide) (by rw [hE];exact hf)
 ·rw [if_pos h] at hE;rw [if_pos (by omega)] at hc
  exact kno (.gemm hv) (by rw [hc,← h1]) h (by rw [hE];exact h)
theorem Xis (v:Int) (d:Nd) (l:List (List Int)) (hat:d.attrs.length≤17592186044416) (hc:Yy v d=0) (hln:l.length=d.args.length) (hl8:l.length≤8) (hm:∀ j,j<l.length→Xa (l.getD j [])=0):Xab v d l:=by
 have hs:=Qqh (l:=l) hat hc hln hm
 have hco:=Ql1 (l:=l) (l.getD 0 []).length hat hc hln hm
 have hex:=Qs5 (l.getD 0 []).length hc
 have ho:=Qoo (Qaw hc).2.1
 unfold Xab;rw [← hs]
 show Qcf d.op (Jt v d (l.getD 0 []).length) l
 generalize Jt v d (l.getD 0 []).length=a at *
 have hone:=hco.one
 have htwo:=hco.two
 have hthree:=hco.three
 generalize d.op=o at *
 clear hs hco hc hln hat
 match l,hone with
 | x::l,_ =>
  have mx:Xa x=0:=hm 0 (by simp)
  have h2:(o=1∨o=2∨o=3∨o=4∨o=10∨o=19)→∃ y r,l=y::r∧Xa y=0:=fun h=>by
   have:=htwo h
   match l,hm with
   | [],_=>simp at this
   | y::r,hm=>exact ⟨y,r,rfl,hm 1 (by simp)⟩
  by_cases c1:o=1∨o=2∨o=3∨o=4
  ·obtain ⟨y,r,rfl,my⟩:=h2 (by omega)
   exact Xkj c1 mx my
  by_cases c2:o=5∨o=6∨o=7∨o=8∨o=9∨o=18
  ·exact Xmo c2 mx hex
  by_cases c10:o=10
  ·obtain ⟨y,r,rfl,my⟩:=h2 (by omega)
   subst c10;exact Xmz mx my
  by_cases c19:o=19
  ·have:=hthree c19
   subst c19
   match l,hm,this with
   | [],_,h=>simp at h
   | [y],_,h=>simp at h
   | y::z::r,hm,_=>exact Xjg mx (hm 1 (by simp)) (hm 2 (by simp))
  have:o=11∨o=12∨o=13∨o=14∨o=15∨o=16∨o=17∨o=20:=by omega
  rcases this with rfl | rfl | rfl | rfl | rfl | rfl | rfl | rfl
  ·exact Xb3 mx hex
  ·exact Xg3 mx hex
  ·exact Xn1 mx hex
  ·exact Xls mx hex
  ·exact Xce mx hex
  ·exact Xmb mx hex
  ·exact Xnz hm hl8 hex
  ·exact Xh4 mx hex
theorem Qk6 (v:Int) (d:Nd) (l:List (List Int)) (hL:LOK d l):Pu C 3 [.int .i64 v,.agg (ndC d),.sl l.length (Jm l)] (.bool true) :=
 Qsr v d l hL fun hc hln hl8 hm _=>Xis v d l hL.attrs hc hln hl8 hm
theorem a_own:ownKnob Tryz.prog.godebug=none:=by kernel_rfl
theorem a_laid:laidOutB Tryz.prog=true:=by kernel_rfl
theorem Xqb:Reads Tryz.prog 3 fun vs=>∃ n,vs=[V.int .i64 n]∧(Lit.int .i64 n).wf=true:=Reads.int Tryz.underlying3
theorem Qr8 {t:Nat} (hu:Tryz.prog.underlying t=some (.slice 3)):Reads Tryz.prog t fun vs=>∃ xs:List Int,vs=[.sl xs.length (ints xs)]∧xs.length≤17592186044416:=Reads.ints hu Tryz.underlying3 (by kernel_rfl) (by kernel_rfl)
theorem Xn5:ArgV Tryz.prog 3 fun u=>∃ n:Int,u=.int .i64 n:=ArgV.mono (ArgV.one Xqb (by rw [Tryz.underlying3])) fun u ⟨n,h,_⟩=>⟨n,by simpa using h⟩
theorem Qzz:ArgV Tryz.prog 26 fun u=>∃ l:List (List Int),u=.sl l.length (Jm l)∧∀ s∈l,s.length≤17592186044416 :=
 ArgV.mono (ArgV.one (Reads.slice1 (g:=fun s:List Int=>.sl s.length (ints s)) Tryz.underlying26 (by kernel_rfl) rfl (Qr8 Tryz.underlying31)) (by rw [Tryz.underlying26])) fun u ⟨l,h,_,h2⟩=>⟨l,by simpa [Jm] using h,h2⟩
theorem Xko:ArgV Tryz.prog 25 fun u=>∃ d:Nd,u=.agg (ndC d)∧d.args.length≤17592186044416∧d.attrs.length≤17592186044416:=by
 refine ArgV.mono (ArgV.struct (Reads.struct (Qs:=fun i vs=>if i=0 then ∃ n,vs=[V.int .i64 n]∧(Lit.int .i64 n).wf=true else ∃ xs:List Int,vs=[.sl xs.length (ints xs)]∧xs.length≤17592186044416) a_laid (of_decide_eq_true (by kernel_rfl)) Tryz.underlying25 ?_) Tryz.underlying25) ?_
 ·intro i f hf
  match i,hf with
  | 0,hf=>cases hf;exact Reads.mono (Reads.int Tryz.underlying22) fun vs h=>by rw [if_pos rfl];exact h
  | 1,hf=>cases hf;exact Reads.mono (Qr8 Tryz.underlying23) fun vs h=>by rw [if_neg (by decide)];exact h
  | 2,hf=>cases hf;exact Reads.mono (Qr8 Tryz.underlying23) fun vs h=>by rw [if_neg (by decide)];exact h
  | i+3,hf=>cases hf
 ·rintro u ⟨vs,rfl,l,hl,hq,rfl⟩
  match l,hl with
  | [a,b,c],_ =>
   have h0:=hq 0 (by decide)
   have h1:=hq 1 (by decide)
   have h2:=hq 2 (by decide)
   obtain ⟨n,rfl,_⟩:=h0;obtain ⟨xs,rfl,hx⟩:=h1;obtain ⟨ys,rfl,hy⟩:=h2;exact ⟨⟨n,xs,ys⟩,rfl,hx,hy⟩
theorem Xt2:ArgsV Tryz.prog [3,25,26] fun us=>∃ (v:Int) (d:Nd) (l:List (List Int)),us=[.int .i64 v,.agg (ndC d),.sl l.length (Jm l)]∧LOK d l:=by
 refine ArgsV.mono (ArgsV.cons Xn5 (ArgsV.cons Xko (ArgsV.cons Qzz ArgsV.nil))) ?_;rintro us ⟨_,_,rfl,⟨v,rfl⟩,_,_,rfl,⟨d,rfl,h1,h2⟩,_,_,rfl,⟨l,rfl,h3⟩,rfl⟩;refine ⟨v,d,l,rfl,h1,h2,fun k hk=>?_⟩
 rw [show l.getD k []=l[k] by simp [List.getD,hk]]
 exact h3 _ (List.getElem_mem hk)
end Go.Proofs.YtipmmjebfpbkmaaGreat
end
