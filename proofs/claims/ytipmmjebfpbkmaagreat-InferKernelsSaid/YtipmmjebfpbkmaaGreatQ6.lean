/-
  Parts Num17, Ten1, Num18, Num19, Num20, Num21, Ten2, Ten3, Ten4, Shp1, Shp2, Mov1, Mov2, Mov3, Mov4, Perm1, Mov5, Mov6, Mov7, Cat1, Cat3, Rep1, Pnt1, Pnt2, Pnt3, Pnt4, Fold1, Fold2, Fold3, Fold4, one behind the other: a program logic of our own, contracts of functions.
-/
import Derived.Test.YtipmmjebfpbkmaaGreatQ5

set_option linter.unusedVariables false
set_option linter.unusedSimpArgs false
set_option maxRecDepth 100000
set_option maxHeartbeats 8000000
section
namespace Go.Proofs.YtipmmjebfpbkmaaGreat
open Go.Bv
def Km (s:Bool) (p q:Nat):Rq × Int:=if q=0 then (⟨false,0,0⟩,17) else (Kh s p q,0)
theorem Qq2 (a:List Nat) (g:Nat) (ha:a.length≤1099511627776) (hA:Lim a) (hg:(dg B32 g).length≤1099511627776) (h0:0<g):Val C 159 [NA a,.rp [Xu g] 0] (Xu (lv B32 a/g)):=by
 refine zK Qf Tryz.func159 w159 Tryz.ntmps159 Tryz.results159 ?_;refine zG ?_
 have hb:=Xrp a (dg B32 g) ha hg hA (Yg _) (by rw [Xr];exact h0)
 rw [Xr] at hb;refine hb.kept ⟨.self (Xw _),.self (Xw _),trivial⟩ fun v X hv=>?_
 refine zG ?_;exact Gd.ret hv
theorem Qwn (x:Nat):(Ks x:Int)=0↔x=0:=by
 constructor
 ·intro h
  have:=Qk2 x
  rw [show Ks x=0 by omega] at this
  simpa using this
 ·rintro rfl;simp [Ql4]
theorem Qid (s:Bool) (a b:List Nat) (ha:a.length≤1000000000000) (hb:b.length≤1000000000000) (hA:Lim a) (hB:Lim b):Val C 129 [.bool s,NA a,NA b] (.tup [Kj (Km s (lv B32 a) (lv B32 b)).1,.int .i64 (Km s (lv B32 a) (lv B32 b)).2]):=by
 have ip:=Qwn (lv B32 a)
 have iq:=Qwn (lv B32 b)
 have hla:=Qcw hA
 refine zK Qf Tryz.func129 w129 Tryz.ntmps129 Tryz.results129 ?_;refine zG ?_;refine Fc.pure (Qrs b (by omega) hB) (by simp [Qh,clo,Qm]) (fun g=>rfl) ?_
 (refine zG ?_;(repeat' ((with_reducible apply zBr)<;>intro h<;>refine zG ?_))<;>try exact .intro)
 ·rw [Km,if_pos (iq.1 h)];refine Gd.ret (Gd.tupL ⟨Gd.aggL ⟨Qg3 _,Qsy,Qsy,trivial⟩,Qiv _ _,trivial⟩)
 ·have hq0:¬ lv B32 b=0:=fun hh=>h (iq.2 hh)
  refine Fc.pure (Qrs a (by omega) hA) (by simp [Qh,clo,Qm]) (fun g=>rfl) ?_
  rw [Km,if_neg hq0]
  (refine zG ?_;(repeat' ((with_reducible apply zBr)<;>intro h<;>refine zG ?_))<;>try exact .intro)
  ·rw [Qat (.inl (ip.1 ‹_›))];refine one_val.keptF trivial fun v X hv=>?_
   obtain ⟨k1,c1,s1⟩:=Yv hv.gd;refine zH3 k1 c1 s1 ?_;refine Gd.ret (Gd.tupL ⟨Gd.aggL ⟨Qg3 _,Qsy,(hv.set (q:=0) (by simp) _).gd,trivial⟩,Qiv _ _,trivial⟩)
  ·have hp0:¬ lv B32 a=0:=fun hh=>‹¬ (Ks (lv B32 a):Int)=0› (ip.2 hh)
   have hpq:¬ (lv B32 a=0∨lv B32 b=0):=by omega
   have hg:=Qos hpq
   rw [Qia hpq];refine Fc.pure (Xjj a b (by omega) (by omega) hA hB) (by simp [Qh,clo,Qm]) (fun g=>by simp [Xu,NA,ren,Qaf]) ?_
   have hgl:=Qre (Nat.gcd_le_left (lv B32 b) (show 0<lv B32 a by omega))
   generalize Nat.gcd (lv B32 a) (lv B32 b)=g at *;refine zG ?_;refine (Qq2 a g (by omega) hA (by omega) hg).keptF (Zp 5 (by simp [go_sem,Qdj,clo,Qh,Qc])) fun v X hv=>?_
   obtain ⟨k1,c1,s1⟩:=Yv hv.gd;refine zH3 k1 c1 s1 ?_;refine (Qq2 b g (by omega) hB (by omega) hg).keptF (Zp 5 (by simp [go_sem,Qdj,clo,Qh,Qc])) fun w Y hw=>?_
   obtain ⟨k2,c2,s2⟩:=Yv hw.gd;refine zH6 k1 c1 s1 k2 c2 s2 ?_;exact Gd.ret (Gd.tupL ⟨Gd.aggL ⟨Qg3 _,((hv.app Y).set (q:=0) (by simp) _).gd,(hw.set (q:=0) (by simp) _).gd,trivial⟩,Qiv _ _,trivial⟩)
theorem Qas (x:Raw) (h:RawOK x):Val C 82 [Zx x] (Kj (Xd x)):=by
 have h1:=h.n1
 have h2:=h.d1
 have hm:=Qid x.neg x.num x.den (by omega) (by omega) h.nL h.dL
 refine zK Qf Tryz.func82 w82 Tryz.ntmps82 Tryz.results82 ?_;refine zG ?_;by_cases h0:lv B32 x.den=0
 ·rw [Km,if_pos h0] at hm;refine hm.call ⟨.self rfl,.self (Xw _),.self (Xw _),trivial⟩ (by simp [clo,Qh,Qk1]) ?_
  refine zG ?_;refine one_val.keptF trivial fun v X hv=>?_
  obtain ⟨k1,c1,s1⟩:=Yv hv.gd;refine zH3 k1 c1 s1 ?_
  have e:Xd x=⟨false,0,1⟩:=Qat (.inr h0)
  rw [e];exact Gd.ret (Gd.aggL ⟨Qg3 _,Qsy,(hv.set (q:=1) (by simp) _).gd,trivial⟩)
 ·rw [Km,if_neg h0] at hm;refine hm.keptF ⟨.self rfl,.self (Xw _),.self (Xw _),trivial⟩ fun v X hv=>?_
  obtain ⟨w,e,rfl,hw,he⟩:=hv.tup2;obtain ⟨v1,v2,v3,rfl,hv1,hv2,hv3⟩:=hw.agg3;obtain ⟨k2,c2,s2⟩:=Yv hv2.gd;obtain ⟨k3,c3,s3⟩:=Yv hv3.gd;rw [hv1.gd.bool_inv,he.gd.int_inv];refine zH6 k2 c2 s2 k3 c3 s3 ?_
  have e:Xd x=Kh x.neg (lv B32 x.num) (lv B32 x.den):=rfl
  rw [e];exact Gd.ret (Gd.aggL ⟨Qg3 _,((hv2.app _).set (q:=1) (by simp) _).gd,((hv3.app _).set (q:=1) (by simp) _).gd,trivial⟩)
theorem Qkq (a b:List Nat) (ha:a.length≤1000000000000) (hb:b.length≤1000000000000) (hA:Lim a) (hB:Lim b):Pu C 154 [NA a,NA b] (.bool (decide (a=b))):=by
 have hc:Qdb (lv B32 a) (lv B32 b)=0↔lv B32 a=lv B32 b:=by unfold Qdb;split<;>(try split)<;>omega
 refine zK Qf Tryz.func154 w154 Tryz.ntmps154 Tryz.results154 ?_
 (refine zG ?_;(repeat' ((with_reducible apply zBr)<;>intro h<;>refine zG ?_))<;>try exact .intro)
 ·refine Fc.pure (Qw4 a b (by omega) (by omega) hA hB) (by simp [Qh,clo,Qm]) (fun g=>rfl) ?_
  refine zG ?_
  (refine Qo (by intro g;simp only [go_sem,ren,Qk]) ?_)
  (simp only [V.tup.injEq,List.cons.injEq,V.int.injEq,V.bool.injEq,true_and,and_true];(try rw [Bool.eq_iff_iff]);(try simp only [decide_eq_true_eq,decide_eq_false_iff_not,Decidable.not_not,true_and,and_true,Bool.not_eq_true,Bool.not_eq_eq_eq_not,Bool.not_true,Bool.and_eq_true,Bool.or_eq_true,beq_iff_eq,bne_iff_ne,ne_eq,Bool.false_eq_true,false_iff,true_iff,iff_false,iff_true]);(try omega))
  rw [hc];exact ⟨fun hh=>Qoh (b:=B32) (by decide) hA hB (by omega) hh,fun hh=>by rw [hh]⟩
 ·skip
  (refine Qo (by intro g;simp only [go_sem,ren,Qk]) ?_)
  (simp only [V.tup.injEq,List.cons.injEq,V.int.injEq,V.bool.injEq,true_and,and_true];(try rw [Bool.eq_iff_iff]);(try simp only [decide_eq_true_eq,decide_eq_false_iff_not,Decidable.not_not,true_and,and_true,Bool.not_eq_true,Bool.not_eq_eq_eq_not,Bool.not_true,Bool.and_eq_true,Bool.or_eq_true,beq_iff_eq,bne_iff_ne,ne_eq,Bool.false_eq_true,false_iff,true_iff,iff_false,iff_true]);(try omega))
  intro hh;rw [hh] at h;exact h rfl
theorem Xh6 (x:Raw) (hx:RawOK x):Pu C 125 [Zx x] (.int .i64 (if okR x then 0 else 6)):=by
 have h1:=hx.n1
 have h2:=hx.d1
 have h3:=hx.val.n1
 have h4:=hx.val.d1
 have h5:(dg B32 (Xd x).num).length≤Xe (Xd x).num:=Qjd _
 have h6:(dg B32 (Xd x).den).length≤Xe (Xd x).den:=Qjd _
 have hk:okR x=isQ (Xd x) x:=rfl
 refine zK Qf Tryz.func125 w125 Tryz.ntmps125 Tryz.results125 ?_;refine zG ?_;refine (Qas x hx).call ⟨.self (Qp _),trivial⟩ (Qk1 _) ?_;rw [hk];generalize Xd x=r at *
 (refine zG ?_;(repeat' ((with_reducible apply zBr)<;>intro h<;>refine zG ?_))<;>try exact .intro)
 ·have hn:r.neg=x.neg:=by simpa using h
  refine Fc.pure (Qkq (dg B32 r.num) x.num (by omega) (by omega) (Yg _) hx.nL) (by simp [Qh,clo,Qm]) (fun g=>rfl) ?_
  (refine zG ?_;(repeat' ((with_reducible apply zBr)<;>intro h<;>refine zG ?_))<;>try exact .intro)
  ·rename_i hm;refine Fc.pure (Qkq (dg B32 r.den) x.den (by omega) (by omega) (Yg _) hx.dL) (by simp [Qh,clo,Qm]) (fun g=>rfl) ?_
   (refine zG ?_;(repeat' ((with_reducible apply zBr)<;>intro h<;>refine zG ?_))<;>try exact .intro)
   ·skip
    (refine Qo (by intro g;simp only [go_sem,ren,Qk]) ?_)
    rw [if_pos (Qif.2 ?_)];obtain ⟨a,b,c⟩:=x
    simp_all [Qt,B32]
   ·skip
    (refine Qo (by intro g;simp only [go_sem,ren,Qk]) ?_)
    rw [if_neg fun hh=>h (by rw [Qif.1 hh];rfl)]
  ·skip
   (refine Qo (by intro g;simp only [go_sem,ren,Qk]) ?_)
   rw [if_neg fun hh=>h (by rw [Qif.1 hh];rfl)]
 ·skip
  (refine Qo (by intro g;simp only [go_sem,ren,Qk]) ?_)
  rw [if_neg fun hh=>by rw [Qif.1 hh] at h;simp [Qt] at h]
theorem Qnt (n:Int) (h1:-9223372036854775808≤n) (h2:n<9223372036854775808):Val C 127 [.int .i64 n] (Xu n.natAbs):=by
 refine zK Qf Tryz.func127 w127 Tryz.ntmps127 Tryz.results127 ?_
 (refine zG ?_;(repeat' ((with_reducible apply zBr)<;>intro h<;>refine zG ?_))<;>try exact .intro)
 ·have e:0 - (n+1)=((n.natAbs - 1:Nat):Int):=by omega
  refine zH1 e ?_;rw [show ((n.natAbs - 1:Nat):Int)+1=((n.natAbs:Nat):Int) by omega]
  refine Fc.isN (Qk5 n.natAbs (by omega)) ⟨.self rfl,trivial⟩ fun v X hv=>?_
  refine zG ?_;exact Gd.ret hv.gd
 ·have e:n=((n.natAbs:Nat):Int):=by omega
  rw [e,Int.natAbs_natCast];refine Fc.isN (Qk5 n.natAbs (by omega)) ⟨.self rfl,trivial⟩ fun v X hv=>?_
  refine zG ?_;exact Gd.ret hv.gd
theorem Qig (n:Int) (h1:-9223372036854775808≤n) (h2:n<9223372036854775808):Val C 81 [.int .i64 n] (Kj (Yr n)):=by
 refine zK Qf Tryz.func81 w81 Tryz.ntmps81 Tryz.results81 ?_;refine zG ?_;refine (Qnt n h1 h2).keptF ⟨.self rfl,trivial⟩ fun v X hv=>?_
 obtain ⟨k1,c1,s1⟩:=Yv hv.gd;refine zH3 k1 c1 s1 ?_;refine one_val.keptF trivial fun w Y hw=>?_
 obtain ⟨k2,c2,s2⟩:=Yv hw.gd;refine zH6 k1 c1 s1 k2 c2 s2 ?_;exact Gd.ret (Gd.aggL ⟨Qg3 _,((hv.app _).set (q:=0) (by simp) _).gd,(hw.set (q:=0) (by simp) _).gd,trivial⟩)
def Xl6 (x:Raw):V × V × V:=(.bool x.neg,NA x.num,NA x.den)
def Xl5 (r:Rq):V × V × V:=(.bool r.neg,DV r.num,DV r.den)
def Qv (xs:List Raw):List V:=Qe8 Xl6 xs
def Qea (rs:List Rq):List V:=Qe8 Xl5 rs
def tnV (t:Tn):V:=.agg [.sl t.shape.length (ints t.shape),.sl t.el.length (Qv t.el)]
def tqV (t:Tq):V:=.agg [.sl t.shape.length (ints t.shape),.sl t.el.length (Qea t.el)]
attribute [go_sem] tnV tqV
@[go_sem] theorem Qql (xs:List Raw):(Qv xs).length=xs.length*3:=Qkw _ _
@[go_sem] theorem Xsc (xs:List Rq):(Qea xs).length=xs.length*3:=Qkw _ _
@[go_sem] theorem Xsj (xs:List Raw) (i:Nat) (h:i<xs.length):nth (Qv xs) (i*3)=.bool (xs.getD i r0).neg:=(Qcp Xl6 r0 xs i h).1
@[go_sem] theorem Xsi (xs:List Raw) (i:Nat) (h:i<xs.length):nth (Qv xs) (i*3+1)=NA (xs.getD i r0).num:=(Qcp Xl6 r0 xs i h).2.1
@[go_sem] theorem Xsh (xs:List Raw) (i:Nat) (h:i<xs.length):nth (Qv xs) (i*3+2)=NA (xs.getD i r0).den:=(Qcp Xl6 r0 xs i h).2.2
@[go_sem] theorem Xsg (xs:List Rq) (i:Nat) (h:i<xs.length):nth (Qea xs) (i*3)=.bool (xs.getD i q0).neg:=(Qcp Xl5 q0 xs i h).1
@[go_sem] theorem Xsf (xs:List Rq) (i:Nat) (h:i<xs.length):nth (Qea xs) (i*3+1)=DV (xs.getD i q0).num:=(Qcp Xl5 q0 xs i h).2.1
@[go_sem] theorem Xse (xs:List Rq) (i:Nat) (h:i<xs.length):nth (Qea xs) (i*3+2)=DV (xs.getD i q0).den:=(Qcp Xl5 q0 xs i h).2.2
theorem Qi (xs:List Raw):Qh (Qv xs)=true:=Qo8 fun x=>⟨rfl,Xw _,Xw _⟩
theorem Qrg (xs:List Rq):Qh (Qea xs)=true:=Qo8 fun x=>⟨rfl,Zu _,Zu _⟩
theorem Qcc (t:Tn):clo (tnV t)=true:=by simp [tnV,clo,Qh,Qa,Qi]
theorem Qti (t:Tq):clo (tqV t)=true:=by simp [tqV,clo,Qh,Qa,Qrg]
theorem Xcx {xs:List Raw} {i:Nat} (h:i<xs.length):Qv (xs.take (i+1))=Qv (xs.take i)++[.bool (xs.getD i r0).neg,NA (xs.getD i r0).num,NA (xs.getD i r0).den]:=by
 rw [Qlb xs r0 h,Qv,Qgs];rfl
theorem Qnz {xs:List Rq} {i:Nat} (h:i<xs.length):Qv ((xs.map Qt).take (i+1))=Qv ((xs.map Qt).take i)++[.bool (xs.getD i q0).neg,Xu (xs.getD i q0).num,Xu (xs.getD i q0).den]:=by
 rw [Xcx (by simpa using h)]
 have:(xs.map Qt).getD i r0=Qt (xs.getD i q0):=by simp [List.getD,h]
 rw [this];rfl
theorem Qwp (t:Tq) (ht:TqOK t):Val C 17 [tqV t] (tnV (Qrz t)):=by
 have hs:=ht.s
 have he:=ht.e
 refine zK Qf Tryz.func17 w17 Tryz.ntmps17 Tryz.results17 ?_;refine zG ?_;refine Qj (fun n ts H=>∃ (i:Nat) (u:V),(i≤t.el.length)∧(Qc H 0=some ⟨52,2,[.sl t.shape.length (ints t.shape),.sl t.el.length (Qea t.el)]⟩)∧(Qc H 1=some ⟨34,2,[.nil,.nil]⟩)∧(Qc H 2=some ⟨3,1,ints t.shape⟩)∧(Qc H 3=some ⟨34,2,[.ref 2 0 t.shape.length,u]⟩)∧(Cel 4 70 3 H u i (Qv ((t.el.map Qt).take i)))∧(n=t.el.length - i)∧ts.length=28∧nth ts 1=.ptr 0 0∧nth ts 2=.ptr 1 0∧nth ts 3=.ptr 3 0∧nth ts 4=.int .i64 (i:Nat)) ?_ (n:=t.el.length) ?_
 ·skip
  rintro n ts H ⟨i,u,hi,h0,h1,h2,h3,hu,hn,hL,hs1,hs2,hs3,hs4⟩;refine Xc [(1,.ptr 0 0),(2,.ptr 1 0),(3,.ptr 3 0),(4,.int .i64 (i:Nat))] hL (by simp only [zFm,hs1,hs2,hs3,hs4,true_and];exact zNm) ?_
  clear hL hs1 hs2 hs3 hs4 ts
  refine Qz Qf ?_
  have hlen:=Xg h3
  by_cases hcase:i<t.el.length
  ·have hx:=ht.get hcase
   refine zH2 h0 h3 ?_;refine Pc.keptF (Qms _ hx) (Qqn _) ⟨.self (Qhw _),trivial⟩ fun v X hv=>?_
   obtain ⟨v1,v2,v3,rfl,hv1,hv2,hv3⟩:=hv.agg3;obtain ⟨k2,c2,s2⟩:=Yv hv2.gd;obtain ⟨k3,c3,s3⟩:=Yv hv3.gd
   have e1:=hv1.gd.bool_inv
   subst e1;refine zH8 h0 h3 k2 c2 s2 k3 c3 s3 ?_;refine Cel.push3 hu rfl rfl (by omega) (by omega) hv2 hv3 s2 s3 fun v' H' hu' hk' k4 c4 s4=>?_
   have g0:=hk' 0 _ (by decide) h0
   have g1:=hk' 1 _ (by decide) h1
   have g2:=hk' 2 _ (by decide) h2
   have g3:=hk' 3 _ (by decide) h3
   refine zH4 g3 k4 c4 s4 ?_
   have f0:∀ (q:Nat) (row:Row) (z:Option Row),q≠3→Qc H' q=some row→Qc (H'.set 3 z) q=some row:=fun q row z hq hr=>by rw [Qe _ (Ne.symm hq)];exact hr
   refine ⟨t.el.length - (i+1),by omega,i+1,v',by omega,f0 0 _ _ (by decide) g0,f0 1 _ _ (by decide) g1,f0 2 _ _ (by decide) g2,Qg g3, ?_,rfl,by congr 1⟩
   rw [Qnz hcase];exact Cel.set hu' (by decide) _
  ·obtain ⟨k4,c4,s4⟩:=Cel.kn hu
   have hs1:∀ z:Row,Qc (H.set 1 (some z)) 1=some z:=fun z=>Qg h1
   refine zH7 h0 h1 h3 hs1 k4 c4 s4 ?_
   have hil:i=t.el.length:=by omega
   rw [hil,List.take_of_length_le (by simp)] at hu
   have hg:=Cel.gd (Cel.set hu (q:=1) (by decide) (some ⟨34,2,[.ref 2 0 t.shape.length,u]⟩))
   refine Gd.ret (Gd.aggL ⟨?_, ?_,trivial⟩)
   ·exact .flat 2 _ _ _ _ (by rw [Qe _ (by decide)];exact h2) (Qa _) (Xp _)
   ·simpa [Xug,Qrz] using hg
 ·exact ⟨0,.nil,by omega,rfl,rfl,rfl,rfl,Cel.nil _ _ _ _,rfl,rfl,rfl,rfl,rfl,rfl⟩
end Go.Proofs.YtipmmjebfpbkmaaGreat
end
section
namespace Go.Proofs.YtipmmjebfpbkmaaGreat
open Go.Bv
def bow (a b:List Nat):Nat→Nat
 | 0=>0
 | i+1=>if Yb a (i:Nat)<Yb b (i:Nat)+bow a b i then 1 else 0
def dif (a b:List Nat) (i:Nat):Nat:=Yb a (i:Nat)+4294967296*bow a b (i+1) - (Yb b (i:Nat)+bow a b i)
theorem Qzv (a b:List Nat):∀ i,bow a b i≤1
 | 0=>by simp [bow]
 | i+1=>by rw [bow];split<;>omega
theorem Qta {a b:List Nat} (hA:Lim a) (hB:Lim b) (i:Nat):dif a b i+(Yb b (i:Nat)+bow a b i)=Yb a (i:Nat)+4294967296*bow a b (i+1)∧dif a b i<4294967296:=by
 have h1:=Ko hA (i:Nat)
 have h2:=Ko hB (i:Nat)
 have h3:=Qzv a b i
 rw [dif]
 have e:bow a b (i+1)=if Yb a (i:Nat)<Yb b (i:Nat)+bow a b i then 1 else 0:=rfl
 rw [e];split<;>omega
theorem Xib {a b:List Nat} (hA:Lim a) (hB:Lim b):∀ n,lv B32 (XS (dif a b) n)+lv B32 (XS (fun i=>Yb b (i:Int)) n)=lv B32 (XS (fun i=>Yb a (i:Int)) n)+B32 ^ n*bow a b n
 | 0=>by simp [XS,lv,bow]
 | n+1=>by
  have ih:=Xib hA hB n
  have h:=(Qta hA hB n).1
  rw [Qdk,Qdk,Qdk,Nat.pow_succ]
  have e:B32 ^ n*dif a b n+B32 ^ n*Yb b (n:Nat)+B32 ^ n*bow a b n=B32 ^ n*Yb a (n:Nat)+B32 ^ n*B32*bow a b (n+1):=by
   rw [← Nat.mul_add,← Nat.mul_add,Nat.mul_assoc,← Nat.mul_add,Nat.add_assoc];exact congrArg _ h
  omega
theorem Qyn (b:List Nat) (n:Nat):lv B32 (XS (fun i=>Yb b (i:Int)) n)=lv B32 (b.take n):=by
 by_cases h:b.length≤n
 ·rw [Qf4 b n h,List.take_of_length_le h]
 ·have:=Qf4 (b:=B32) (b.take n) n (by rw [List.length_take];omega)
  rw [← this]
  congr 1
  refine List.map_congr_left fun i hi=>?_
  have hi:=List.mem_range.1 hi
  simp [Yb,List.getD,List.getElem?_take,hi]
theorem Qav (b:List Nat) (n:Nat):lv B32 b=lv B32 (b.take n)+B32 ^ n*lv B32 (b.drop n):=by
 by_cases h:n≤b.length
 ·have:=Qf5 B32 (b.take n) (b.drop n)
  rw [List.take_append_drop,List.length_take,Nat.min_eq_left h] at this;exact this
 ·rw [List.take_of_length_le (by omega),List.drop_of_length_le (by omega)];simp [lv]
theorem Xns {a b:List Nat} (hA:Lim a) (hB:Lim b) (h:lv B32 b≤lv B32 a):lv B32 (XS (dif a b) a.length)=lv B32 a - lv B32 b:=by
 have h1:=Xib hA hB a.length
 rw [Qf4 a _ (Nat.le_refl _),Qyn] at h1
 have h2:=Qal hA
 have h3:=Qav b a.length
 have hL:Lim (XS (dif a b) a.length):=fun x hx=>by
  simp only [XS,List.mem_map] at hx;obtain ⟨i,_,rfl⟩:=hx;exact (Qta hA hB i).2
 have h4:=Qal hL
 rw [Xku] at h4
 have h5:lv B32 (b.drop a.length)=0:=by
  refine Nat.eq_zero_of_not_pos fun hp=>?_
  have:B32 ^ a.length*1≤B32 ^ a.length*lv B32 (b.drop a.length):=Nat.mul_le_mul_left _ hp
  omega
 rw [h5,Nat.mul_zero,Nat.add_zero] at h3
 have h6:=Qzv a b a.length
 have h7:bow a b a.length=0∨bow a b a.length=1:=by omega
 rcases h7 with h7 | h7
 ·rw [h7] at h1;omega
 ·rw [h7] at h1;omega
theorem Xcb (a b:List Nat) (i:Nat) (ha:a.length≤17592186044416) (hb:b.length≤17592186044416) (hA:Lim a) (hB:Lim b) (hi:i≤17592186044416) (H:Qb) (h0:Qc H 0=some ⟨68,1,[NA a]⟩) (h1:Qc H 1=some ⟨68,1,[NA b]⟩) (h2:Qc H 2=some ⟨189,1,[.int .u64 (bow a b i:Nat)]⟩) :
  Fc C 186 [.int .i64 (i:Nat),.ptr 0 0,.ptr 1 0,.ptr 2 0] H fun v H'=>v=.int .u64 (dif a b i:Nat)∧H'=H.set 2 (some ⟨189,1,[.int .u64 (bow a b (i+1):Nat)]⟩):=by
 have q1:=Ko hA (i:Nat)
 have q2:=Ko hB (i:Nat)
 have q3:=Qzv a b i
 have q4:=Qta hA hB i
 have e:bow a b (i+1)=if Yb a (i:Nat)<Yb b (i:Nat)+bow a b i then 1 else 0:=rfl
 have hst:∀ z:Row,Qc (H.set 2 (some z)) 2=some z:=fun z=>Qg h2
 have l1:=Kn a (i:Nat) ha hA
 have l2:=Kn b (i:Nat) hb hB
 by_cases hlt:Yb a (i:Nat)<Yb b (i:Nat)+bow a b i
 ·rw [if_pos hlt] at e;generalize dif a b i=d at *;rw [e] at q4 ⊢;generalize Yb a (i:Nat)=x at *;generalize Yb b (i:Nat)=y at *;generalize bow a b i=c at *;refine zL Qf Tryz.func186 w186 Tryz.ntmps186 Tryz.results186 ?_;refine zH3 h0 h1 h2 ?_;refine Pc.pure l1 (by simp [Qh,clo,Xw,Qm]) (fun g=>rfl) ?_
  refine zH3 h0 h1 h2 ?_;refine Pc.pure l2 (by simp [Qh,clo,Xw,Qm]) (fun g=>rfl) ?_
  refine zH4 h0 h1 h2 hst ?_;exact ⟨by congr 1;omega,rfl⟩
 ·rw [if_neg hlt] at e;generalize dif a b i=d at *;rw [e] at q4 ⊢;generalize Yb a (i:Nat)=x at *;generalize Yb b (i:Nat)=y at *;generalize bow a b i=c at *;refine zL Qf Tryz.func186 w186 Tryz.ntmps186 Tryz.results186 ?_;refine zH3 h0 h1 h2 ?_;refine Pc.pure l1 (by simp [Qh,clo,Xw,Qm]) (fun g=>rfl) ?_
  refine zH3 h0 h1 h2 ?_;refine Pc.pure l2 (by simp [Qh,clo,Xw,Qm]) (fun g=>rfl) ?_
  refine zH4 h0 h1 h2 hst ?_;exact ⟨by congr 1;omega,rfl⟩
theorem Xgb (a b:List Nat) (ha:a.length≤8796093022208) (hb:b.length≤8796093022208) (hA:Lim a) (hB:Lim b) (h:lv B32 b≤lv B32 a):Val C 152 [NA a,NA b] (.tup [Xu (lv B32 a - lv B32 b),.int .i64 0]):=by
 have hc:¬ Qdb (lv B32 a) (lv B32 b)<0:=by unfold Qdb;split<;>(try split)<;>omega
 have hc2:-1≤Qdb (lv B32 a) (lv B32 b)∧Qdb (lv B32 a) (lv B32 b)≤1:=by unfold Qdb;split<;>(try split)<;>omega
 have hcv:=Qth a b ha hb hA hB
 refine zK Qf Tryz.func152 w152 Tryz.ntmps152 Tryz.results152 ?_;refine zG ?_;refine hcv.call ⟨.self (Xw _),.self (Xw _),trivial⟩ rfl ?_;refine zG ?_
 have hg:=Qhp (f:=186) (caps:=[.ptr 0 0,.ptr 1 0,.ptr 2 0]) (st:=some 2) (B:=[some ⟨68,1,[NA a]⟩,some ⟨68,1,[NA b]⟩,some ⟨189,1,[.int .u64 0]⟩]) (rs:=fun i=>⟨189,1,[.int .u64 (bow a b i:Nat)]⟩) (N:=a.length) (xs:=dif a b) (fun q hq=>by injection hq with hq;subst hq;simp) (fun q hq=>by injection hq with hq;subst hq;rfl) ha (fun i _=>by have:=(Qta hA hB i).2;omega) (fun i hi H hk hs=>Xcb a b i (by omega) (by omega) hA hB (by omega) H (hk 0 _ (by decide) rfl) (hk 1 _ (by decide) rfl) (hs 2 rfl))
 refine Fc.mono hg ?_;rintro v H' ⟨h1,h2,h3⟩
 have h1:IsN v H' (lv B32 (XS (dif a b) a.length)):=h1
 rw [Xns hA hB h] at h1;refine zG ?_;exact Gd.ret (Gd.tupL ⟨h1.gd,Gd.leaf _ rfl rfl,trivial⟩)
theorem Xpb (a b:List Nat) (ha:a.length≤8796093022208) (hb:b.length≤8796093022208) (hA:Lim a) (hB:Lim b) (h:lv B32 a<lv B32 b):Val C 152 [NA a,NA b] (.tup [Xu 0,.int .i64 20]):=by
 have hc:Qdb (lv B32 a) (lv B32 b)<0:=by unfold Qdb;split<;>(try split)<;>omega
 have hcv:=Qth a b ha hb hA hB
 refine zK Qf Tryz.func152 w152 Tryz.ntmps152 Tryz.results152 ?_;refine zG ?_;refine hcv.call ⟨.self (Xw _),.self (Xw _),trivial⟩ rfl ?_;refine zG ?_;exact Gd.ret (Gd.tupL ⟨by rw [show Xu 0=.sl 0 [] by simp [Xu,NA,Yw,Xh]];exact .nil _,Gd.leaf _ rfl rfl,trivial⟩)
def car (a:List Nat) (m:Nat):Nat→Nat
 | 0=>0
 | i+1=>(a.getD i 0*m+car a m i)/4294967296
def Qnw (a:List Nat) (m up i:Nat):Nat:=if i<up then 0 else (Yb a ((i - up:Nat):Int)*m+car a m (i - up))%4294967296
theorem Qzq {a:List Nat} {m:Nat} (hA:Lim a) (hm:m<4294967296):∀ i,car a m i<4294967296
 | 0=>by simp [car]
 | i+1=>by
  have ih:=Qzq hA hm i
  have h1:=hA.get i
  rw [car]
  have:a.getD i 0*m≤4294967295*4294967295:=Nat.mul_le_mul (by omega) (by omega)
  omega
theorem Xia {a:List Nat} {m:Nat}:∀ n,lv B32 (XS (fun j=>(a.getD j 0*m+car a m j)%4294967296) n)+B32 ^ n*car a m n=m*lv B32 (XS (fun j=>a.getD j 0) n)
 | 0=>by simp [XS,lv,car]
 | n+1=>by
  have ih:=Xia (a:=a) (m:=m) n
  rw [Qdk,Qdk,Nat.pow_succ,Nat.mul_add m]
  have h:(a.getD n 0*m+car a m n)%4294967296+4294967296*car a m (n+1)=a.getD n 0*m+car a m n:=by rw [car];exact Nat.mod_add_div _ _
  have e:B32 ^ n*((a.getD n 0*m+car a m n)%4294967296)+B32 ^ n*B32*car a m (n+1)=B32 ^ n*(a.getD n 0*m)+B32 ^ n*car a m n:=by
   rw [Nat.mul_assoc,← Nat.mul_add,← Nat.mul_add];exact congrArg _ h
  have e2:B32 ^ n*(a.getD n 0*m)=m*(B32 ^ n*a.getD n 0):=by rw [Nat.mul_left_comm m,Nat.mul_comm m]
  omega
theorem Xas {a:List Nat} {m up:Nat}:∀ k,lv B32 (XS (Qnw a m up) (up+k))=B32 ^ up*lv B32 (XS (fun j=>(a.getD j 0*m+car a m j)%4294967296) k)
 | 0=>by
  have h:∀ n,n≤up→lv B32 (XS (Qnw a m up) n)=0:=fun n=>by
   induction n with
   | zero=>intro _;simp [XS,lv]
   | succ n ih=>intro hn;rw [Qdk,ih (by omega),Qnw,if_pos (by omega)];simp
  rw [Nat.add_zero,h up (Nat.le_refl _)];simp [XS,lv]
 | k+1=>by
  rw [← Nat.add_assoc,Qdk,Qdk,Xas k,Qnw,if_neg (by omega),show up+k - up=k by omega,Nat.pow_add,Nat.mul_add,Nat.mul_assoc]
  simp [Yb]
theorem Xl3 {a:List Nat} {m up:Nat} (hm:m<4294967296) (hA:Lim a):lv B32 (XS (Qnw a m up) (a.length+up+1))=B32 ^ up*(m*lv B32 a):=by
 rw [show a.length+up+1=up+(a.length+1) by omega,Xas]
 have h1:=Xia (a:=a) (m:=m) (a.length+1)
 have h2:=Qzq hA hm a.length
 have h3:car a m (a.length+1)=0:=by
  rw [car]
  have:a.getD a.length 0=0:=by simp [List.getD]
  rw [this];omega
 have h4:=Qf4 (b:=B32) a (a.length+1) (by omega)
 have h5:XS (fun i=>Yb a (i:Int)) (a.length+1)=XS (fun j=>a.getD j 0) (a.length+1):=List.map_congr_left fun i _=>by simp [Yb]
 rw [h5] at h4;rw [h3,Nat.mul_zero,Nat.add_zero,h4] at h1;rw [h1]
theorem Xcq (a:List Nat) (m up i:Nat) (ha:a.length≤17592186044416) (hA:Lim a) (hm:m<4294967296) (hu:up≤17592186044416) (hi:i≤35184372088832) (H:Qb) (h0:Qc H 0=some ⟨68,1,[NA a]⟩) (h1:Qc H 1=some ⟨162,1,[.int .u32 (m:Nat)]⟩) (h2:Qc H 2=some ⟨3,1,[.int .i64 (up:Nat)]⟩) (h3:Qc H 3=some ⟨189,1,[.int .u64 (car a m (i - up):Nat)]⟩) :
  Fc C 200 [.int .i64 (i:Nat),.ptr 2 0,.ptr 0 0,.ptr 1 0,.ptr 3 0] H fun v H'=>v=.int .u64 (Qnw a m up i:Nat)∧H'=H.set 3 (some ⟨189,1,[.int .u64 (car a m (i+1 - up):Nat)]⟩):=by
 have hst:∀ z:Row,Qc (H.set 3 (some z)) 3=some z:=fun z=>Qg h3
 by_cases hiu:i<up
 ·rw [Qnw,if_pos hiu,show i+1 - up=i - up by omega]
  have hsame:H.set 3 (some ⟨189,1,[.int .u64 (car a m (i - up):Nat)]⟩)=H:=by
   obtain ⟨k1,k2⟩:=List.getElem?_eq_some_iff.1 (Yd h3);rw [← k2];exact List.set_getElem_self ..
  refine zL Qf Tryz.func200 w200 Tryz.ntmps200 Tryz.results200 ?_;refine zH1 h2 ?_;exact ⟨rfl,hsame.symm⟩
 ·rw [Qnw,if_neg hiu];obtain ⟨j,rfl⟩:∃ j,i=up+j:=⟨i - up,by omega⟩
  rw [show up+j - up=j by omega] at h3 ⊢
  rw [show up+j+1 - up=j+1 by omega]
  have hl:=Kn a ((j:Nat):Int) ha hA
  have q1:=Ko hA (j:Nat)
  have q2:=Qzq hA hm j
  have hx:Yb a ((j:Nat):Int)*m≤4294967295*4294967295:=Nat.mul_le_mul (by omega) (by omega)
  have e1:car a m (j+1)=(Yb a ((j:Nat):Int)*m+car a m j)/4294967296:=by rw [car];simp [Yb]
  have hs:∀ x:Nat,(x:Int).fdiv (2 ^ min 32 64)=((x/4294967296:Nat):Int):=fun x=>Qdq x 32
  have ei:(((up+j:Nat):Int) - (up:Int))=(j:Nat):=by omega
  rw [e1];generalize Yb a ((j:Nat):Int)=x at *;generalize car a m j=c at *
  have hxm:((x:Int)*(m:Int))=((x*m:Nat):Int):=by simp
  have hxc:(((x*m:Nat):Int)+(c:Int))=((x*m+c:Nat):Int):=by simp
  have hmk:=Qsn (x*m+c) (by omega)
  generalize hy:x*m=y at *;refine zL Qf Tryz.func200 w200 Tryz.ntmps200 Tryz.results200 ?_;refine zH5 h0 h1 h2 h3 ei ?_;refine Pc.pure hl (by simp [Qh,clo,Xw,Qm]) (fun g=>rfl) ?_
  refine zH8 h0 h1 h2 h3 hst hxm hxc hs ?_;exact congrArg (fun n:Nat=>V.int .u64 (n:Int)) hmk
theorem Xgv (a:List Nat) (m up:Nat) (ha:a.length≤4398046511103) (hA:Lim a) (hm:m<4294967296) (hu:up≤4398046511103):Fc C 181 [NA a,.int .u32 (m:Nat),.int .i64 (up:Nat)] [] fun v H=>Qpn v H (B32 ^ up*(m*lv B32 a)):=by
 refine zK Qf Tryz.func181 w181 Tryz.ntmps181 Tryz.results181 ?_;refine zG ?_
 have e:((a.length:Int)+(up:Int)+1)=((a.length+up+1:Nat):Int):=by omega
 have hg:=Qhp (f:=200) (caps:=[.ptr 2 0,.ptr 0 0,.ptr 1 0,.ptr 3 0]) (st:=some 3) (B:=[some ⟨68,1,[NA a]⟩,some ⟨162,1,[.int .u32 (m:Nat)]⟩,some ⟨3,1,[.int .i64 (up:Nat)]⟩,some ⟨189,1,[.int .u64 0]⟩]) (rs:=fun i=>⟨189,1,[.int .u64 (car a m (i - up):Nat)]⟩) (N:=a.length+up+1) (xs:=Qnw a m up) (fun q hq=>by injection hq with hq;subst hq;simp) (fun q hq=>by injection hq with hq;subst hq;simp only [Nat.zero_sub];rfl) (by omega) (fun i _=>by
  rw [Qnw];split
  ·omega
  ·have:=Nat.mod_lt (Yb a ((i - up:Nat):Int)*m+car a m (i - up)) (show 0<4294967296 by decide)
   omega) (fun i hi H hk hs=>Xcq a m up i (by omega) hA hm (by omega) (by omega) H (hk 0 _ (by decide) rfl) (hk 1 _ (by decide) rfl) (hk 2 _ (by decide) rfl) (hs 3 rfl))
 rw [e];refine Fc.mono hg ?_;rintro v H' ⟨h1,h2,h3⟩
 have h1:IsN v H' (lv B32 (XS (Qnw a m up) (a.length+up+1))):=h1
 rw [Xl3 hm hA] at h1;refine zG ?_;exact h1.ret
theorem Xm2 (b:List Nat) {k:Nat} (hk:k<b.length):lv B32 (b.take (k+1))=lv B32 (b.take k)+B32 ^ k*b.getD k 0:=by
 have e:b.take (k+1)=b.take k++[b.getD k 0]:=by rw [List.take_add_one];simp [List.getD,hk]
 rw [e,Qak,List.length_take,Nat.min_eq_left (by omega)]
theorem Qau {b:List Nat} (hB:Lim b) (k:Nat):lv B32 (b.take k)<B32 ^ k:=by
 have h1:=Qal (fun x hx=>hB x (List.mem_of_mem_take hx):Lim (b.take k))
 exact Nat.lt_of_lt_of_le h1 (Nat.pow_le_pow_right (by decide) (by rw [List.length_take];omega))
theorem Qji {x y m n:Nat} (hx:x<B32 ^ m) (hy:y<B32 ^ n):(dg B32 (x*y)).length≤m+n:=Xn (by decide) _ _ (by
 rw [Nat.pow_add];by_cases h0:x=0
 ·subst h0;rw [Nat.zero_mul];exact Nat.mul_pos (Nat.pow_pos (by decide)) (Nat.pow_pos (by decide))
 ·exact Nat.mul_lt_mul_of_lt_of_le hx (Nat.le_of_lt hy) (by omega))
theorem Xh1 (a b:List Nat) (ha:a.length≤1000000000000) (hb:b.length≤1000000000000) (hA:Lim a) (hB:Lim b):Pu C 149 [NA a,NA b] (Xu (lv B32 a*lv B32 b)):=by
 refine Pu.ofBor (Xk _) ?_;refine zL Qf Tryz.func149 w149 Tryz.ntmps149 Tryz.results149 ?_;refine zG ?_;refine Qj (fun n ts H=>∃ (k:Nat) (u:V),(k≤b.length)∧((u=.nil∧k=0)∨u=Xu (lv B32 a*lv B32 (b.take k)))∧(H=[])∧(n=b.length - k)∧ts.length=23∧nth ts 0=NA a∧nth ts 5=u∧nth ts 8=NA b∧nth ts 9=.int .i64 b.length∧nth ts 10=.int .i64 (k:Nat)) ?_ (n:=b.length) ?_
 ·skip
  rintro n ts H ⟨k,u,hk,hu,hH,hn,hL,hs0,hs5,hs8,hs9,hs10⟩;refine Xc [(0,NA a),(5,u),(8,NA b),(9,.int .i64 b.length),(10,.int .i64 (k:Nat))] hL (by simp only [zFm,hs0,hs5,hs8,hs9,hs10,true_and];exact zNm) ?_
  clear hL hs0 hs5 hs8 hs9 hs10 ts
  refine Qz Qf ?_;subst hH;by_cases hkl:k<b.length
  ·have hbk:=hB.get k
   have hrow:=Xgv a (b.getD k 0) k (by omega) hA hbk (by omega)
   have hlt:=Qau hB k
   have hla:=Qal hA
   have hd1:=Qji hla hlt
   have hd2:(dg B32 (B32 ^ k*(b.getD k 0*lv B32 a))).length≤k+1+a.length+1:=by
    have h1:b.getD k 0*lv B32 a<B32 ^ (a.length+1):=by
     rw [Nat.pow_succ,Nat.mul_comm];by_cases h0:b.getD k 0=0
     ·rw [h0,Nat.mul_zero];exact Nat.mul_pos (Nat.pow_pos (by decide)) (by decide)
     ·exact Nat.mul_lt_mul_of_lt_of_le hla (by simp only [B32];omega) (by decide)
    have h2:=Qji (x:=B32 ^ k) (m:=k+1) (Nat.pow_lt_pow_right (by decide) (by omega)) h1
    omega
   have hadd:=Qw5 (dg B32 (lv B32 a*lv B32 (b.take k))) (dg B32 (B32 ^ k*(b.getD k 0*lv B32 a))) (by omega) (by omega) (Yg _) (Yg _)
   rw [Xr,Xr] at hadd
   have hs:lv B32 a*lv B32 (b.take k)+B32 ^ k*(b.getD k 0*lv B32 a)=lv B32 a*lv B32 (b.take (k+1)):=by
    rw [Xm2 b hkl,Nat.mul_add]
    congr 1
    rw [Nat.mul_left_comm,Nat.mul_comm (b.getD k 0),Nat.mul_comm (B32 ^ k),Nat.mul_assoc]
   rw [hs] at hadd
   have hbu:Bor [] u (Xu (lv B32 a*lv B32 (b.take k))):=by
    rcases hu with ⟨rfl,rfl⟩ | rfl
    ·rw [show Xu (lv B32 a*lv B32 (b.take 0))=.sl 0 [] by simp [Xu,NA,Yw,Xh,lv]];exact .nil _
    ·exact .self (Xk _)
   refine zG ?_;refine Fc.byN hrow ⟨.self (Xw _),.self rfl,.self rfl,trivial⟩ ?_;refine zG ?_;refine Fc.byN hadd ⟨hbu,.self (Xk _),trivial⟩ ?_;refine zG ?_;exact ⟨b.length - (k+1),by omega,k+1,_,by omega,.inr rfl,rfl,rfl,(by (repeat' apply And.intro)<;>(first | rfl | omega | (congr 1;omega) | assumption | (congr 1;assumption)))⟩
  ·have hks:k=b.length:=by omega
   subst hks;rw [List.take_length] at hu;refine zG ?_;rcases hu with ⟨rfl,hb0⟩ | rfl
   ·have:b=[]:=List.eq_nil_of_length_eq_zero hb0
    subst this
    show Bor [] V.nil (Xu (lv B32 a*lv B32 []))
    rw [show Xu (lv B32 a*lv B32 [])=.sl 0 [] by simp [Xu,NA,Yw,Xh,lv]]
    exact .nil _
   ·exact .self (Xk _)
 ·exact ⟨0,.nil,by omega,.inl ⟨rfl,rfl⟩,rfl,rfl,rfl,rfl,rfl,rfl,rfl,rfl⟩
def B12 (x:Nat):Prop:=(dg B32 x).length≤100000000000
def Qsi (r s:Rq):Rq:=(Km (r.neg != s.neg) (r.num*s.num) (r.den*s.den)).1
def Xm:List Raw→Rq
 | l=>l.foldl (fun out x=>Qsi out (Xd x)) (Yr 1)
theorem Qxw (l:List Raw) (x:Raw):Xm (l++[x])=Qsi (Xm l) (Xd x):=by simp [Xm,List.foldl_append]
theorem Qeh (x y:Nat) (hx:B12 x) (hy:B12 y):Pu C 149 [Xu x,Xu y] (Xu (x*y)):=by
 have hx:(dg B32 x).length≤100000000000:=hx
 have hy:(dg B32 y).length≤100000000000:=hy
 have:=Xh1 (dg B32 x) (dg B32 y) (by omega) (by omega) (Yg _) (Yg _)
 rwa [Xr,Xr] at this
theorem Qcz (x y:Nat):(dg B32 (x*y)).length≤(dg B32 x).length+(dg B32 y).length:=Qji (Zt (by decide) x) (Zt (by decide) y)
theorem Qiz (l:List Raw) (hl:l.length≤1000) (hok:∀ x∈l,RawOK x) (hb:∀ k,k≤l.length→B12 (Xm (l.take k)).num∧B12 (Xm (l.take k)).den):Pu C 121 [.sl l.length (Qv l)] (Kj (Xm l)):=by
 refine Pu.ofBor (Qp (Qt (Xm l))) ?_;refine zL Qf Tryz.func121 w121 Tryz.ntmps121 Tryz.results121 ?_;refine zG ?_;refine (Qig 1 (by decide) (by decide)).call ⟨.self rfl,trivial⟩ (Qp (Qt (Yr 1))) ?_
 refine zG ?_;refine Qj (fun n ts H=>∃ (k:Nat),(k≤l.length)∧(n=l.length - k)∧(Qc H 0=some ⟨70,3,[.bool false,.nil,.nil]⟩)∧(Qc H 1=some ⟨70,3,[.bool (Xm (l.take k)).neg,Xu (Xm (l.take k)).num,Xu (Xm (l.take k)).den]⟩)∧ts.length=36∧nth ts 2=.ptr 0 0∧nth ts 3=.ptr 1 0∧nth ts 7=.sl l.length (Qv l)∧nth ts 8=.int .i64 l.length∧nth ts 9=.int .i64 (k:Nat)) ?_ (n:=l.length) ?_
 ·skip
  rintro n ts H ⟨k,hk,hn,h0,h1,hL,hs2,hs3,hs7,hs8,hs9⟩;refine Xc [(2,.ptr 0 0),(3,.ptr 1 0),(7,.sl l.length (Qv l)),(8,.int .i64 l.length),(9,.int .i64 (k:Nat))] hL (by simp only [zFm,hs2,hs3,hs7,hs8,hs9,true_and];exact zNm) ?_
  clear hL hs2 hs3 hs7 hs8 hs9 ts
  refine Qz Qf ?_;by_cases hkl:k<l.length
  ·have hx:=hok (l.getD k r0) (by simp [List.getD,hkl])
   have hs:Xm (l.take (k+1))=Qsi (Xm (l.take k)) (Xd (l.getD k r0)):=by rw [Qlb l r0 hkl,Qxw]
   obtain ⟨p1,p2⟩:=hb k hk;obtain ⟨v1,v2⟩:=Qeg (l.getD k r0).neg (lv 4294967296 (l.getD k r0).num) (lv 4294967296 (l.getD k r0).den)
   have q1:B12 (Xd (l.getD k r0)).num:=by
    have:=Xn (b:=B32) (by decide) (Xd (l.getD k r0)).num (l.getD k r0).num.length (Nat.lt_of_le_of_lt v1 (Qal hx.nL))
    have:=hx.n1
    show (dg B32 _).length≤_
    omega
   have q2:B12 (Xd (l.getD k r0)).den:=by
    have:=hx.d1
    show (dg B32 _).length≤_
    rcases v2 with v2 | v2
    ·have:=Xn (b:=B32) (by decide) (Xd (l.getD k r0)).den (l.getD k r0).den.length (Nat.lt_of_le_of_lt v2 (Qal hx.dL))
     omega
    ·have e:(Xd (l.getD k r0)).den=1:=v2
     have:(dg B32 1).length≤1:=Xn (by decide) _ _ (by decide)
     rw [e];omega
   have m1:=Qeh _ _ p1 q1
   have m2:=Qeh _ _ p2 q2
   have p1:(dg B32 _).length≤_:=p1
   have p2:(dg B32 _).length≤_:=p2
   have q1:(dg B32 _).length≤_:=q1
   have q2:(dg B32 _).length≤_:=q2
   have w1:=Qcz (Xm (l.take k)).num (Xd (l.getD k r0)).num
   have w2:=Qcz (Xm (l.take k)).den (Xd (l.getD k r0)).den
   have mk:=Qid ((Xm (l.take k)).neg != (Xd (l.getD k r0)).neg) (dg B32 ((Xm (l.take k)).num*(Xd (l.getD k r0)).num)) (dg B32 ((Xm (l.take k)).den*(Xd (l.getD k r0)).den)) (by omega) (by omega) (Yg _) (Yg _)
   rw [Xr,Xr] at mk
   have nv:=Qas (l.getD k r0) hx
   have e1:(Km ((Xm (l.take k)).neg != (Xd (l.getD k r0)).neg) ((Xm (l.take k)).num*(Xd (l.getD k r0)).num) ((Xm (l.take k)).den*(Xd (l.getD k r0)).den)).1=Xm (l.take (k+1)):=hs.symm
   rw [e1] at mk;generalize (Km ((Xm (l.take k)).neg != (Xd (l.getD k r0)).neg) ((Xm (l.take k)).num*(Xd (l.getD k r0)).num) ((Xm (l.take k)).den*(Xd (l.getD k r0)).den)).2=er at *;generalize hP:Xm (l.take k)=P at *;generalize hP':Xm (l.take (k+1))=P' at *;generalize hV:Xd (l.getD k r0)=R at *;refine zG ?_;refine nv.call ⟨.self (Qp _),trivial⟩ (Qp (Qt R)) ?_
   have hst:∀ (x:Row),Qc (H++[some x]) H.length=some x:=fun x=>Xo _ _
   have hst2:∀ (x y:Row),Qc ((H++[some x]).set H.length (some y)) H.length=some y:=fun x y=>Qg (hst x)
   have g1:∀ Y,Qc (H++Y) 1=_:=fun Y=>Qd h1 Y
   have g0:∀ Y,Qc (H++Y) 0=_:=fun Y=>Qd h0 Y
   refine zH3 hst hst2 g1 ?_;refine Pc.pure m1 (by simp [Qh,clo,Qm,Xk]) (fun g=>Qy _ _ (Xk _)) ?_
   refine zH3 hst hst2 g1 ?_;refine Pc.pure m2 (by simp [Qh,clo,Qm,Xk]) (fun g=>Qy _ _ (Xk _)) ?_
   refine zH3 hst hst2 g1 ?_;refine mk.pc ⟨.self rfl,.self (Xw _),.self (Xw _),trivial⟩ (by simp [clo,Qh,Qp,Quo]) ?_
   have g11:∀ Y (z:Row),Qc ((H++Y).set 1 (some z)) 1=some z:=fun Y z=>Qg (g1 Y)
   refine zH4 hst hst2 g1 g11 ?_;exact ⟨l.length - (k+1),by omega,k+1,by omega,rfl,by rw [Qe _ (by decide)];exact g0 _,by rw [hP'],by congr 1⟩
  ·have hks:k=l.length:=by omega
   subst hks;rw [List.take_length] at h1
   have hst:∀ x:Row,Qc (H.set 0 (some x)) 0=some x:=fun x=>Qg h0
   refine zH3 h1 h0 hst ?_;exact .self (Qp (Qt (Xm l)))
 ·exact ⟨0,by omega,rfl,rfl,rfl,rfl,rfl,rfl,rfl,rfl,rfl⟩
theorem Qq5 (s:Bool) (p q:Nat):(dg B32 (Km s p q).1.num).length≤(dg B32 p).length∧(dg B32 (Km s p q).1.den).length≤(dg B32 q).length+1:=by
 have h1:(dg B32 1).length≤1:=Xn (by decide) _ _ (by decide)
 have h0:(dg B32 0).length=0:=by simp [Yw]
 rw [Km];split
 ·simp only [h0];omega
 ·obtain ⟨v1,v2⟩:=Qeg s p q;refine ⟨Xn (by decide) _ _ (Nat.lt_of_le_of_lt v1 (Zt (by decide) p)), ?_⟩
  rcases v2 with v2 | v2
  ·have:=Xn (b:=B32) (by decide) (Kh s p q).den _ (Nat.lt_of_le_of_lt v2 (Zt (by decide) q))
   show (dg B32 (Kh s p q).den).length≤_
   omega
  ·show (dg B32 (Kh s p q).den).length≤_
   rw [v2];omega
theorem Qg6 {x:Raw} (h:RawOK x):(dg B32 (Xd x).num).length≤x.num.length∧(dg B32 (Xd x).den).length≤x.den.length+1:=by
 obtain ⟨v1,v2⟩:=Qeg x.neg (lv 4294967296 x.num) (lv 4294967296 x.den)
 have h1:(dg B32 1).length≤1:=Xn (by decide) _ _ (by decide)
 refine ⟨Xn (b:=B32) (by decide) (Xd x).num x.num.length (Nat.lt_of_le_of_lt v1 (Qal h.nL)), ?_⟩
 rcases v2 with v2 | v2
 ·have:=Xn (b:=B32) (by decide) (Xd x).den x.den.length (Nat.lt_of_le_of_lt v2 (Qal h.dL))
  omega
 ·have e:(Xd x).den=1:=v2
  rw [e];omega
theorem Qqs {x y:Raw} (hx:RawOK x) (hy:RawOK y):((dg B32 (Xm [x]).num).length≤x.num.length+1∧(dg B32 (Xm [x]).den).length≤x.den.length+3)∧((dg B32 (Xm [x,y]).num).length≤x.num.length+1+y.num.length∧(dg B32 (Xm [x,y]).den).length≤x.den.length+y.den.length+5):=by
 have h1:(dg B32 1).length≤1:=Xn (by decide) _ _ (by decide)
 obtain ⟨a1,a2⟩:=Qg6 hx;obtain ⟨b1,b2⟩:=Qg6 hy
 have e1:Xm [x]=Qsi (Yr 1) (Xd x):=rfl
 have e2:Xm [x,y]=Qsi (Xm [x]) (Xd y):=rfl
 have n1:(Yr 1).num=1:=rfl
 have n2:(Yr 1).den=1:=rfl
 have c1:=Qq5 ((Yr 1).neg != (Xd x).neg) ((Yr 1).num*(Xd x).num) ((Yr 1).den*(Xd x).den)
 have c2:=Qcz (Yr 1).num (Xd x).num
 have c3:=Qcz (Yr 1).den (Xd x).den
 rw [n1] at c2;rw [n2] at c3;rw [n1,n2] at c1
 have d:(dg B32 (Xm [x]).num).length≤x.num.length+1∧(dg B32 (Xm [x]).den).length≤x.den.length+3:=by
  rw [e1,Qsi,n1,n2];omega
 refine ⟨d, ?_⟩
 have c4:=Qq5 ((Xm [x]).neg != (Xd y).neg) ((Xm [x]).num*(Xd y).num) ((Xm [x]).den*(Xd y).den)
 have c5:=Qcz (Xm [x]).num (Xd y).num
 have c6:=Qcz (Xm [x]).den (Xd y).den
 rw [e2,Qsi];omega
theorem Qlf (x y:Raw) (hx:RawOK x) (hy:RawOK y):Pu C 72 [Zx x,Zx y] (Kj (Xm [x,y])):=by
 have h1:(dg B32 1).length≤1:=Xn (by decide) _ _ (by decide)
 obtain ⟨⟨l1,l2⟩,l3,l4⟩:=Qqs hx hy
 have x1:=hx.n1
 have x2:=hx.d1
 have y1:=hy.n1
 have y2:=hy.d1
 have hp:=Qiz [x,y] (by simp) (fun z hz=>by simp at hz;rcases hz with rfl | rfl<;>assumption) (fun k hk=>by
  have hk:k=0∨k=1∨k=2:=by simp at hk;omega
  rcases hk with rfl | rfl | rfl
  ·exact ⟨show (dg B32 1).length≤_ by omega,show (dg B32 1).length≤_ by omega⟩
  ·exact ⟨show (dg B32 (Xm [x]).num).length≤_ by omega,show (dg B32 (Xm [x]).den).length≤_ by omega⟩
  ·exact ⟨show (dg B32 (Xm [x,y]).num).length≤_ by omega,show (dg B32 (Xm [x,y]).den).length≤_ by omega⟩)
 have hp:Pu C 121 [.sl 2 [.bool x.neg,NA x.num,NA x.den,.bool y.neg,NA y.num,NA y.den]] (Kj (Xm [x,y])):=hp
 generalize Xm [x,y]=P at *;refine Pu.ofBor (Qp (Qt P)) ?_;refine zL Qf Tryz.func72 w72 Tryz.ntmps72 Tryz.results72 ?_;refine zG ?_;refine Fc.sealed (r:=3) rfl (by simp [Qh,clo,Qm]) ?_
 simp only [szL,sz,if_true,List.drop_zero];refine Fc.pure hp (by simp [Qh,clo,Qm,Xw]) (fun g=>Qy _ _ (Qp (Qt P))) ?_
 refine zG ?_;exact .self (Qp (Qt P))
theorem Xcf (x:Raw):Pu C 120 [.agg [.bool false],Zx x] (Zx x):=by
 refine Pu.ofBor (Qp x) ?_;refine zL Qf Tryz.func120 w120 Tryz.ntmps120 Tryz.results120 ?_;refine zG ?_;exact .self (Qp x)
theorem Xm5 (x y:Nat):(dg B32 (x+y)).length≤(dg B32 x).length+(dg B32 y).length+1:=Xn (by decide) _ _ (by
 have h1:=Zt (b:=B32) (by decide) x
 have h2:=Zt (b:=B32) (by decide) y
 have h3:B32 ^ (dg B32 x).length≤B32 ^ ((dg B32 x).length+(dg B32 y).length):=Nat.pow_le_pow_right (by decide) (by omega)
 have h4:B32 ^ (dg B32 y).length≤B32 ^ ((dg B32 x).length+(dg B32 y).length):=Nat.pow_le_pow_right (by decide) (by omega)
 rw [Nat.pow_succ]
 have h5:B32 ^ ((dg B32 x).length+(dg B32 y).length)*2≤B32 ^ ((dg B32 x).length+(dg B32 y).length)*B32:=Nat.mul_le_mul_left _ (by decide)
 omega)
theorem Xa8 (x y:Nat):(dg B32 (x - y)).length≤(dg B32 x).length:=Xn (by decide) _ _ (Nat.lt_of_le_of_lt (Nat.sub_le _ _) (Zt (by decide) x))
theorem Qog (s:Bool) (p d:Nat) (hp:(dg B32 p).length≤1000000000000) (hd:(dg B32 d).length≤1000000000000):Val C 150 [.bool s,Xu p,.rp [Xu d] 0] (Kj (Km s p d).1):=by
 have mk:=Qid s (dg B32 p) (dg B32 d) hp hd (Yg _) (Yg _)
 rw [Xr,Xr] at mk;generalize (Km s p d).2=er at *;generalize (Km s p d).1=R at *;refine zK Qf Tryz.func150 w150 Tryz.ntmps150 Tryz.results150 ?_;refine zG ?_;refine mk.keptF ⟨.self rfl,.self (Xw _),.self (Xw _),trivial⟩ fun v X hv=>?_
 obtain ⟨w,e,rfl,hw,he⟩:=hv.tup2;obtain ⟨v1,v2,v3,rfl,hv1,hv2,hv3⟩:=hw.agg3;obtain ⟨k2,c2,s2⟩:=Yv hv2.gd;obtain ⟨k3,c3,s3⟩:=Yv hv3.gd
 have eb:=hv1.gd.bool_inv
 subst eb;rw [he.gd.int_inv];refine zH6 k2 c2 s2 k3 c3 s3 ?_;exact Gd.ret (Gd.aggL ⟨Qg3 _,((hv2.app _).set (q:=0) (by simp) _).gd,((hv3.app _).set (q:=0) (by simp) _).gd,trivial⟩)
theorem Xn8 (p q:Nat) (hp:(dg B32 p).length≤1000000000000) (hq:(dg B32 q).length≤1000000000000):Val C 151 [Xu p,Xu q] (Xu (p+q)):=by
 have:=Qw5 (dg B32 p) (dg B32 q) (by omega) (by omega) (Yg _) (Yg _)
 rw [Xr,Xr] at this;exact Val.ofN this
def Qez (r s:Rq):Rq :=
 if r.neg=s.neg then (Km r.neg (r.num*s.den+s.num*r.den) (r.den*s.den)).1
 else if s.num*r.den≤r.num*s.den then (Km r.neg (r.num*s.den - s.num*r.den) (r.den*s.den)).1
 else (Km s.neg (s.num*r.den - r.num*s.den) (r.den*s.den)).1
theorem Xap (sd:Bool) (x y:Raw) (hx:RawOK x) (hy:RawOK y) (T:Rq) (tk:Pu C 120 [.agg [.bool sd],Kj (Xd y)] (Kj T)) (t1:(dg B32 T.num).length≤(dg B32 (Xd y).num).length) (t2:(dg B32 T.den).length≤(dg B32 (Xd y).den).length):Pu C 119 [Zx x,Zx y,.fn (.func 120) [.agg [.bool sd]] []] (Kj (Qez (Xd x) T)):=by
 obtain ⟨a1,a2⟩:=Qg6 hx;obtain ⟨b1,b2⟩:=Qg6 hy
 have x1:=hx.n1
 have x2:=hx.d1
 have y1:=hy.n1
 have y2:=hy.d1
 have nx:=Qas x hx
 have ny:=Qas y hy
 generalize Xd x=R at *;generalize Xd y=S at *
 have m1:=Qeh R.num T.den (show (dg B32 _).length≤_ by omega) (show (dg B32 _).length≤_ by omega)
 have m2:=Qeh T.num R.den (show (dg B32 _).length≤_ by omega) (show (dg B32 _).length≤_ by omega)
 have m3:=Qeh R.den T.den (show (dg B32 _).length≤_ by omega) (show (dg B32 _).length≤_ by omega)
 have w1:=Qcz R.num T.den
 have w2:=Qcz T.num R.den
 have w3:=Qcz R.den T.den
 rw [Qez]
 have wa:=Xm5 (R.num*T.den) (T.num*R.den)
 have wb:=Xa8 (R.num*T.den) (T.num*R.den)
 have wc:=Xa8 (T.num*R.den) (R.num*T.den)
 have av:=Xn8 (R.num*T.den) (T.num*R.den) (by omega) (by omega)
 generalize R.num*T.den=p at *;generalize T.num*R.den=q at *;generalize R.den*T.den=d at *;refine Pu.ofBor (by split<;>(try split)<;>exact Qp (Qt _)) ?_
 refine zL Qf Tryz.func119 w119 Tryz.ntmps119 Tryz.results119 ?_;refine zG ?_;refine RunU.now ?_;refine zG ?_;refine nx.pc ⟨.self (Qp _),trivial⟩ (Qp (Qt R)) ?_;refine zG ?_;refine ny.pc ⟨.self (Qp _),trivial⟩ (Qp (Qt S)) ?_;refine zG ?_;refine Pc.pure tk (by simp [Qh,clo,Qm]) (fun g=>Qy _ _ (Qp (Qt T))) ?_
 refine zG ?_;refine Pc.pure m1 (by simp [Qh,clo,Qm]) (fun g=>Qy _ _ (Xk _)) ?_
 refine zG ?_;refine Pc.pure m2 (by simp [Qh,clo,Qm]) (fun g=>Qy _ _ (Xk _)) ?_
 refine zG ?_;refine Fc.pure m3 (by simp [Qh,clo,Qm]) (fun g=>Qy _ _ (Xk _)) ?_
 (refine zG ?_;(repeat' ((with_reducible apply zBr)<;>intro h<;>refine zG ?_))<;>try exact .intro)
 ·have mv:=Qog R.neg (p+q) d (by omega) (by omega)
  have h':R.neg=T.neg:=by simpa using h
  rw [if_pos h'];generalize (Km R.neg (p+q) d).1=M at *;refine RunU.now ?_;refine zG ?_;refine av.pc ⟨.self (Xk _),.self (Xk _),trivial⟩ (Xk _) ?_;refine zG ?_;refine mv.pc (Zp 5 (by simp [go_sem,Qdj,clo,Qh,Qc])) (Qp (Qt M)) ?_
  refine zG ?_;exact .self (Qp (Qt M))
 ·have h':¬ R.neg=T.neg:=by simpa using h
  rw [if_neg h'];by_cases hle:q≤p
  ·have sv:=Xgb (dg B32 p) (dg B32 q) (by omega) (by omega) (Yg _) (Yg _) (by rw [Xr,Xr];exact hle)
   rw [Xr,Xr] at sv
   have mv:=Qog R.neg (p - q) d (by omega) (by omega)
   rw [if_pos hle];generalize (Km R.neg (p - q) d).1=M at *;refine sv.call ⟨.self (Xk _),.self (Xk _),trivial⟩ (by simp [clo,Qh,Xk]) ?_
   refine zG ?_;refine mv.call (Zp 5 (by simp [go_sem,Qdj,clo,Qh,Qc])) (Qp (Qt M)) ?_
   refine zG ?_;exact .self (Qp (Qt M))
  ·have sv:=Xpb (dg B32 p) (dg B32 q) (by omega) (by omega) (Yg _) (Yg _) (by rw [Xr,Xr];omega)
   have sw:=Xgb (dg B32 q) (dg B32 p) (by omega) (by omega) (Yg _) (Yg _) (by rw [Xr,Xr];omega)
   rw [Xr,Xr] at sw
   have mv:=Qog T.neg (q - p) d (by omega) (by omega)
   rw [if_neg hle];generalize (Km T.neg (q - p) d).1=M at *;refine sv.call ⟨.self (Xk _),.self (Xk _),trivial⟩ (by simp [clo,Qh,Xk]) ?_
   refine zG ?_;refine sw.call ⟨.self (Xk _),.self (Xk _),trivial⟩ (by simp [clo,Qh,Xk]) ?_
   refine zG ?_;refine mv.call (Zp 5 (by simp [go_sem,Qdj,clo,Qh,Qc])) (Qp (Qt M)) ?_
   refine zG ?_;exact .self (Qp (Qt M))
theorem Xga (x y:Raw) (hx:RawOK x) (hy:RawOK y):Pu C 119 [Zx x,Zx y,.fn (.func 120) [.agg [.bool false]] []] (Kj (Qez (Xd x) (Xd y))):=Xap false x y hx hy (Xd y) (Xcf (Qt (Xd y))) (Nat.le_refl _) (Nat.le_refl _)
theorem Qh6 (x y:Raw) (hx:RawOK x) (hy:RawOK y):Pu C 70 [Zx x,Zx y] (Kj (Qez (Xd x) (Xd y))):=by
 have hs:=Xga x y hx hy
 generalize Qez (Xd x) (Xd y)=M at *;refine Pu.ofBor (Qp (Qt M)) ?_;refine zL Qf Tryz.func70 w70 Tryz.ntmps70 Tryz.results70 ?_;refine zG ?_;refine Fc.pure hs (by simp [Qh,clo,Qm]) (fun g=>Qy _ _ (Qp (Qt M))) ?_
 refine zG ?_;exact .self (Qp (Qt M))
def NmQ (r:Rq):Prop:=Xd (Qt r)=r
theorem Qi6 (r:Rq):Xd (Qt r)=Kh r.neg r.num r.den:=by
 show Kh r.neg (lv 4294967296 (dg 4294967296 r.num)) (lv 4294967296 (dg 4294967296 r.den))=_
 rw [Qq6 (by decide),Qq6 (by decide)]
theorem Xqn (x:Raw):NmQ (Xd x):=by
 rw [NmQ,Qi6,Xd];generalize lv 4294967296 x.num=p;generalize lv 4294967296 x.den=q;by_cases h:p=0∨q=0
 ·rw [Qat h];rfl
 ·have hg:=Qos h
  have hc:Nat.gcd (p/Nat.gcd p q) (q/Nat.gcd p q)=1:=Nat.coprime_div_gcd_div_gcd hg
  have h1:0<p/Nat.gcd p q:=Nat.div_pos (Nat.le_of_dvd (by omega) (Nat.gcd_dvd_left p q)) hg
  have h2:0<q/Nat.gcd p q:=Nat.div_pos (Nat.le_of_dvd (by omega) (Nat.gcd_dvd_right p q)) hg
  have e:Kh x.neg p q=⟨x.neg,p/Nat.gcd p q,q/Nat.gcd p q⟩:=if_neg h
  rw [e]
  show Kh x.neg (p/Nat.gcd p q) (q/Nat.gcd p q)=_
  rw [Kh,if_neg (by omega),hc,Nat.div_one,Nat.div_one]
theorem Qun {x:Raw} (h:RawOK x):RawOK (Qt (Xd x)):=by
 obtain ⟨h1,h2⟩:=Qeg x.neg (lv 4294967296 x.num) (lv 4294967296 x.den)
 have n1:=h.n1
 have d1:=h.d1
 refine ⟨?_, ?_,Yg _,Yg _⟩
 ·have:=Xn (b:=B32) (by decide) (Xd x).num x.num.length (Nat.lt_of_le_of_lt h1 (Qal h.nL))
  show (dg B32 (Xd x).num).length≤_
  omega
 ·show (dg B32 (Xd x).den).length≤_
  rcases h2 with h2 | h2
  ·have:=Xn (b:=B32) (by decide) (Xd x).den x.den.length (Nat.lt_of_le_of_lt h2 (Qal h.dL))
   omega
  ·have e:(Xd x).den=1:=h2
   have:(dg B32 1).length≤1:=Xn (by decide) _ _ (by decide)
   rw [e];omega
def Qkl (r:Rq):Rq:=⟨decide (0<(dg B32 r.num).length)&&!r.neg,r.num,r.den⟩
theorem Qqi (x:Raw) (hx:RawOK x):Pu C 75 [Zx x] (Kj (Qkl (Xd x))):=by
 have nx:=Qas x hx
 generalize Xd x=R at *;refine Pu.ofBor (Qp (Qt (Qkl R))) ?_;refine zL Qf Tryz.func75 w75 Tryz.ntmps75 Tryz.results75 ?_;refine zG ?_;refine nx.call ⟨.self (Qp _),trivial⟩ (Qp (Qt R)) ?_
 have hn:∀ h:0<(dg B32 R.num).length,Qkl R=⟨!R.neg,R.num,R.den⟩:=fun h=>by rw [Qkl,decide_eq_true h];rfl
 have hz:∀ h:¬ 0<(dg B32 R.num).length,Qkl R=⟨false,R.num,R.den⟩:=fun h=>by rw [Qkl,decide_eq_false h];rfl
 (refine zG ?_;(repeat' ((with_reducible apply zBr)<;>intro h<;>refine zG ?_))<;>try exact .intro)
 ·rw [hn (by omega)];exact .self (by simp [clo,Qh,Qm])
 ·rw [hz (by omega)];exact .self (by simp [clo,Qh,Qm])
theorem Qxl (x:Raw) (hx:RawOK x):Pu C 120 [.agg [.bool true],Zx x] (Kj (Qkl (Xd x))):=by
 have nx:=Qqi x hx
 generalize Qkl (Xd x)=R at *;refine Pu.ofBor (Qp (Qt R)) ?_;refine zL Qf Tryz.func120 w120 Tryz.ntmps120 Tryz.results120 ?_;refine zG ?_;refine Fc.pure nx (by simp [Qh,clo,Qm]) (fun g=>Qy _ _ (Qp (Qt R))) ?_
 refine zG ?_;exact .self (Qp (Qt R))
def Qpr (x y:Raw):Rq:=Qez (Xd x) (Qkl (Xd y))
theorem Xcn (x y:Raw) (hx:RawOK x) (hy:RawOK y):Pu C 71 [Zx x,Zx y] (Kj (Qpr x y)):=by
 have tk:=Qxl (Qt (Xd y)) (Qun hy)
 rw [show Xd (Qt (Xd y))=Xd y from Xqn y] at tk
 have hs:=Xap true x y hx hy (Qkl (Xd y)) tk (Nat.le_refl _) (Nat.le_refl _)
 have hs:Pu C 119 [Zx x,Zx y,.fn (.func 120) [.agg [.bool true]] []] (Kj (Qpr x y)):=hs
 generalize Qpr x y=M at *;refine Pu.ofBor (Qp (Qt M)) ?_;refine zL Qf Tryz.func71 w71 Tryz.ntmps71 Tryz.results71 ?_;refine zG ?_;refine Fc.pure hs (by simp [Qh,clo,Qm]) (fun g=>Qy _ _ (Qp (Qt M))) ?_
 refine zG ?_;exact .self (Qp (Qt M))
def Qo5 (x y:Raw):Rq × Int:=if (dg B32 (Xd y).num).length=0 then (⟨false,0,0⟩,17) else (Xm [x,⟨(Xd y).neg,dg B32 (Xd y).den,dg B32 (Xd y).num⟩],0)
theorem Qxy (x y:Raw) (hx:RawOK x) (hy:RawOK y):Pu C 121 [.sl 2 [.bool x.neg,NA x.num,NA x.den,.bool y.neg,NA y.num,NA y.den]] (Kj (Xm [x,y])):=by
 have h1:(dg B32 1).length≤1:=Xn (by decide) _ _ (by decide)
 obtain ⟨⟨l1,l2⟩,l3,l4⟩:=Qqs hx hy
 have x1:=hx.n1
 have x2:=hx.d1
 have y1:=hy.n1
 have y2:=hy.d1
 exact Qiz [x,y] (by simp) (fun z hz=>by simp at hz;rcases hz with rfl | rfl<;>assumption) (fun k hk=>by
  have hk:k=0∨k=1∨k=2:=by simp at hk;omega
  rcases hk with rfl | rfl | rfl
  ·exact ⟨show (dg B32 1).length≤_ by omega,show (dg B32 1).length≤_ by omega⟩
  ·exact ⟨show (dg B32 (Xm [x]).num).length≤_ by omega,show (dg B32 (Xm [x]).den).length≤_ by omega⟩
  ·exact ⟨show (dg B32 (Xm [x,y]).num).length≤_ by omega,show (dg B32 (Xm [x,y]).den).length≤_ by omega⟩)
theorem Xcw (x y:Raw) (hx:RawOK x) (hy:RawOK y):Pu C 73 [Zx x,Zx y] (.tup [Kj (Qo5 x y).1,.int .i64 (Qo5 x y).2]):=by
 have ny:=Qas y hy
 have hS:=Qun hy
 have n1:=hS.n1
 have d1:=hS.d1
 have hp:=Qxy x ⟨(Xd y).neg,dg B32 (Xd y).den,dg B32 (Xd y).num⟩ hx ⟨d1,n1,hS.dL,hS.nL⟩
 unfold Qo5;generalize Xd y=S at *;by_cases h0:(dg B32 S.num).length=0
 ·rw [if_pos h0];refine Pu.ofBor (by simp only [clo,Qh,Bool.and_true];exact Qp (Qt ⟨false,0,0⟩)) ?_
  refine zL Qf Tryz.func73 w73 Tryz.ntmps73 Tryz.results73 ?_;refine zG ?_;refine ny.call ⟨.self (Qp _),trivial⟩ (Qp (Qt S)) ?_;refine zG ?_;refine Bor.tupL ⟨Bor.aggL ⟨.self rfl, ?_, ?_,trivial⟩,.self rfl,trivial⟩
  all_goals (rw [Yw];exact .nil _)
 ·rw [if_neg h0]
  have hp:Pu C 121 [.sl 2 [.bool x.neg,NA x.num,NA x.den,.bool S.neg,NA (dg B32 S.den),NA (dg B32 S.num)]] (Kj (Xm [x,⟨S.neg,dg B32 S.den,dg B32 S.num⟩])):=hp
  generalize Xm [x,⟨S.neg,dg B32 S.den,dg B32 S.num⟩]=P at *;refine Pu.ofBor (by simp [clo,Qh,Qm,Qp (Qt P),Quo]) ?_
  refine zL Qf Tryz.func73 w73 Tryz.ntmps73 Tryz.results73 ?_;refine zG ?_;refine ny.call ⟨.self (Qp _),trivial⟩ (Qp (Qt S)) ?_;refine zG ?_;refine Fc.sealed (r:=3) rfl (by simp [Qh,clo,Qm]) ?_
  simp only [szL,sz,if_true,List.drop_zero];refine Fc.pure hp (by simp [Qh,clo,Qm,Xw]) (fun g=>Qy _ _ (Qp (Qt P))) ?_
  refine zG ?_;exact .self (by simp [clo,Qh,Qm])
def Qfr (r:Rq):Int:=if (dg B32 r.num).length=0 then 0 else if r.neg then -1 else 1
theorem Qnu (x:Raw) (hx:RawOK x):Pu C 80 [Zx x] (.int .i64 (Qfr (Xd x))):=by
 have nx:=Qas x hx
 unfold Qfr;generalize Xd x=R at *;refine zK Qf Tryz.func80 w80 Tryz.ntmps80 Tryz.results80 ?_;refine zG ?_;refine nx.call ⟨.self (Qp _),trivial⟩ (Qp (Qt R)) ?_;by_cases h0:(dg B32 R.num).length=0
 ·rw [if_pos h0];refine zG ?_
  (refine Qo (by intro g;simp only [go_sem,ren,Qk]) ?_)
  rfl
 ·rw [if_neg h0];cases hb:R.neg with
  | true =>
   refine zH1 hb ?_
   (refine Qo (by intro g;simp only [go_sem,ren,Qk]) ?_)
   rfl
  | false =>
   refine zH1 hb ?_
   (refine Qo (by intro g;simp only [go_sem,ren,Qk]) ?_)
   rfl
def Qot (p q:Int):Rq × Int:=Km (decide (p<0) != decide (q<0)) p.natAbs q.natAbs
theorem Xcr (p q:Int) (h1:-9223372036854775808≤p) (h2:p<9223372036854775808) (h3:-9223372036854775808≤q) (h4:q<9223372036854775808):Val C 100 [.int .i64 p,.int .i64 q] (.tup [Kj (Qot p q).1,.int .i64 (Qot p q).2]):=by
 have sp:=Qnt p h1 h2
 have sq:=Qnt q h3 h4
 have l1:(dg B32 p.natAbs).length≤2:=Xn (by decide) _ _ (by show p.natAbs<4294967296 ^ 2;omega)
 have l2:(dg B32 q.natAbs).length≤2:=Xn (by decide) _ _ (by show q.natAbs<4294967296 ^ 2;omega)
 have mk:=Qid (decide (p<0) != decide (q<0)) (dg B32 p.natAbs) (dg B32 q.natAbs) (by omega) (by omega) (Yg _) (Yg _)
 rw [Xr,Xr] at mk;unfold Qot;generalize (Km (decide (p<0) != decide (q<0)) p.natAbs q.natAbs).2=er at *;generalize (Km (decide (p<0) != decide (q<0)) p.natAbs q.natAbs).1=R at *;refine zK Qf Tryz.func100 w100 Tryz.ntmps100 Tryz.results100 ?_;refine zG ?_;refine sp.call ⟨.self rfl,trivial⟩ (Xk _) ?_;refine zG ?_;refine sq.call ⟨.self rfl,trivial⟩ (Xk _) ?_;refine zG ?_;refine mk.keptF ⟨.self rfl,.self (Xw _),.self (Xw _),trivial⟩ fun v X hv=>?_
 obtain ⟨w,e,rfl,hw,he⟩:=hv.tup2;obtain ⟨v1,v2,v3,rfl,hv1,hv2,hv3⟩:=hw.agg3;obtain ⟨k2,c2,s2⟩:=Yv hv2.gd;obtain ⟨k3,c3,s3⟩:=Yv hv3.gd
 have eb:=hv1.gd.bool_inv
 subst eb;rw [he.gd.int_inv];refine zH6 k2 c2 s2 k3 c3 s3 ?_;exact Gd.ret (Gd.tupL ⟨Gd.aggL ⟨Qg3 _,(hv2.set (q:=0) (by simp) _).gd,(hv3.set (q:=0) (by simp) _).gd,trivial⟩,Qiv _ _,trivial⟩)
theorem Qsp (x:Nat):∀ m:Nat,(dg B32 (x ^ m)).length≤m*(dg B32 x).length+1
 | 0=>by rw [Nat.pow_zero];have:(dg B32 1).length≤1:=Xn (by decide) _ _ (by decide);omega
 | m+1=>by
  have h1:=Qsp x m
  have h2:=Qcz (x ^ m) x
  rw [Nat.pow_succ,Nat.succ_mul];omega
theorem Xn6 (k:Nat) (hk:k<9223372036854775808):IntKind.i64.wrap ((BitVec.ofInt 64 (k:Int) &&& BitVec.ofInt 64 1).toNat:Int)=((k%2:Nat):Int):=by
 have e:(BitVec.ofInt 64 (k:Int) &&& BitVec.ofInt 64 1).toNat=k%2:=by
  rw [BitVec.toNat_and]
  have e1:(BitVec.ofInt 64 (k:Int)).toNat=k:=(show (BitVec.ofNat 64 k).toNat=k by rw [BitVec.toNat_ofNat];omega)
  rw [e1,show (BitVec.ofInt 64 1).toNat=1 from rfl,Nat.and_one_is_mod]
 rw [e];rcases Nat.mod_two_eq_zero_or_one k with h | h<;>rw [h]<;>rfl
theorem Xmt (j n:Nat) (h:n%2=1):j*n=j+(j+j)*(n/2):=by
 have e:n=n/2+n/2+1:=by omega
 generalize n/2=q at e;subst e;rw [Nat.mul_add,Nat.mul_add,Nat.add_mul,Nat.mul_one];omega
theorem Xjq (j n:Nat) (h:n%2=0):j*n=(j+j)*(n/2):=by
 have e:n=n/2+n/2:=by omega
 generalize n/2=q at e;subst e;rw [Nat.mul_add,Nat.add_mul]
theorem Qqo (a:List Nat) (N:Nat) (ha:a.length≤1000000) (hA:Lim a) (hk:N≤1000):Pu C 126 [NA a,.int .i64 (N:Nat)] (Xu (lv B32 a ^ N)):=by
 have la:=Qcw hA
 have tv:=Qg7 a (by omega) hA
 generalize lv B32 a=A at *
 have h1:(dg B32 1).length≤1:=Xn (by decide) _ _ (by decide)
 refine zK Qf Tryz.func126 w126 Tryz.ntmps126 Tryz.results126 ?_;refine zG ?_;refine (Val.ofN (Qk5 1 (by decide))).call ⟨.self rfl,trivial⟩ (Xk 1) ?_
 refine zG ?_;refine tv.call ⟨.self (Xw _),trivial⟩ (Xk _) ?_;refine zG ?_;refine Qj (fun n ts H=>∃ (k:Nat) (i:Nat) (j:Nat),(i+j*k=N)∧(j≤1000)∧(k≤1000)∧(H=[])∧(n=k)∧ts.length=25∧nth ts 0=Xu (A ^ j)∧nth ts 1=.int .i64 (k:Nat)∧nth ts 5=Xu (A ^ i)) ?_ (n:=N) ?_
 ·skip
  rintro n ts H ⟨k,i,j,hj,hj1,hk1,hH,hn,hL,hs0,hs1,hs5⟩;refine Xc [(0,Xu (A ^ j)),(1,.int .i64 (k:Nat)),(5,Xu (A ^ i))] hL (by simp only [zFm,hs0,hs1,hs5,true_and];exact zNm) ?_
  clear hL hs0 hs1 hs5 ts
  refine Qz Qf ?_;subst hH hn
  have ha1:=Xn6 n (by omega)
  by_cases hc:0<n
  ·have hij:j≤j*n:=Nat.le_mul_of_pos_right _ hc
   have li:=Qsp A i
   have lj:=Qsp A j
   have b1:i*(dg B32 A).length≤1000*1000000:=Nat.mul_le_mul (by omega) (by omega)
   have b2:j*(dg B32 A).length≤1000*1000000:=Nat.mul_le_mul (by omega) (by omega)
   have m1:=Qeh (A ^ i) (A ^ j) (show (dg B32 _).length≤_ by omega) (show (dg B32 _).length≤_ by omega)
   have m2:=Qeh (A ^ j) (A ^ j) (show (dg B32 _).length≤_ by omega) (show (dg B32 _).length≤_ by omega)
   rw [← Nat.pow_add] at m1 m2
   have ns:(n:Int).fdiv (2 ^ min 1 64)=((n/2:Nat):Int):=by
    rw [show (2:Int) ^ min 1 64=2 from rfl,Int.fdiv_eq_ediv_of_nonneg _ (by decide)];omega
   by_cases ho:n%2=1
   ·rw [ho] at ha1
    have ej:=Xmt j n ho
    (refine zG ?_;(repeat' ((with_reducible apply zBr)<;>intro h<;>refine zG ?_))<;>try exact .intro)
    ·refine Fc.pure m1 (by simp [Qh,clo,Qm]) (fun g=>Qy _ _ (Xk _)) ?_
     (refine zG ?_;(repeat' ((with_reducible apply zBr)<;>intro h<;>refine zG ?_))<;>try exact .intro)
     ·refine Fc.pure m2 (by simp [Qh,clo,Qm]) (fun g=>Qy _ _ (Xk _)) ?_
      refine zG ?_
      have:=Nat.le_mul_of_pos_right (j+j) (show 0<n/2 by omega)
      exact ⟨n/2,by omega,n/2,i+j,j+j,by omega,by omega,by omega,rfl,rfl,congrArg (V.int .i64) ns,rfl⟩
     ·have h0:n/2=0:=by omega
      rw [h0] at ns ej;exact ⟨0,by omega,0,i+j,j,by omega,by omega,by omega,rfl,rfl,congrArg (V.int .i64) ns,rfl⟩
    all_goals exact absurd ha1 (by assumption)
   ·have ho:n%2=0:=by omega
    rw [ho] at ha1
    have ej:=Xjq j n ho
    (refine zG ?_;(repeat' ((with_reducible apply zBr)<;>intro h<;>refine zG ?_))<;>try exact .intro)
    ·rename_i h;exact absurd (Eq.trans (Eq.symm h) ha1) (by decide)
    ·refine Fc.pure m2 (by simp [Qh,clo,Qm]) (fun g=>Qy _ _ (Xk _)) ?_
     refine zG ?_
     have:=Nat.le_mul_of_pos_right (j+j) (show 0<n/2 by omega)
     exact ⟨n/2,by omega,n/2,i,j+j,by omega,by omega,by omega,rfl,rfl,congrArg (V.int .i64) ns,rfl⟩
  ·obtain rfl:n=0:=by omega
   refine zG ?_;rw [Nat.mul_zero,Nat.add_zero] at hj;subst hj;exact Qo (fun g=>Xg5 g _) rfl
 ·exact ⟨N,0,1,by omega,by omega,by omega,rfl,rfl,rfl,by rw [Nat.pow_one];rfl,rfl,by rw [Nat.pow_zero];rfl⟩
theorem Xtq (k:Nat):((k:Int)%2==1)=decide (k%2=1):=by
 rw [Bool.eq_iff_iff];simp;omega
def Qx1 (r:Rq) (k:Nat):Rq:=⟨r.neg&&decide (k%2=1),r.num ^ k,r.den ^ k⟩
theorem Xco (x:Raw) (hx:RawOK x) (k:Nat) (hl:x.num.length≤100000) (hd:x.den.length≤100000) (hk:k≤1000):Pu C 78 [Zx x,.int .i64 (k:Nat)] (Kj (Qx1 (Xd x) k)):=by
 have nx:=Qas x hx
 obtain ⟨a1,a2⟩:=Qg6 hx;generalize Xd x=R at *
 have p1:=Qqo (dg B32 R.num) k (by omega) (Yg _) hk
 have p2:=Qqo (dg B32 R.den) k (by omega) (Yg _) hk
 rw [Xr] at p1 p2;unfold Qx1;generalize R.num ^ k=P at *;generalize R.den ^ k=Q at *;refine Pu.ofBor (Qp (Qt ⟨R.neg&&decide (k%2=1),P,Q⟩)) ?_;refine zL Qf Tryz.func78 w78 Tryz.ntmps78 Tryz.results78 ?_;refine zG ?_;refine nx.call ⟨.self (Qp _),trivial⟩ (Qp (Qt R)) ?_
 (refine zG ?_;(repeat' ((with_reducible apply zBr)<;>intro h<;>refine zG ?_))<;>try exact .intro)
 all_goals refine Pc.pure p1 (by simp [Qh,clo,Qm]) (fun g=>Qy _ _ (Xk _)) ?_
 ·skip
  refine zG ?_;refine Pc.pure p2 (by simp [Qh,clo,Qm]) (fun g=>Qy _ _ (Xk _)) ?_
  refine zG ?_
  have hn:R.neg=true:=by assumption
  rw [hn,Bool.true_and,Xtq];exact .self (by simp [clo,Qh,Qm])
 ·skip
  refine zG ?_;refine Pc.pure p2 (by simp [Qh,clo,Qm]) (fun g=>Qy _ _ (Xk _)) ?_
  refine zG ?_;obtain rfl:k=0:=by omega
  rw [show (R.neg&&decide (0%2=1))=false by simp]
  exact .self (by simp [clo,Qh,Qm])
 ·skip
  refine zG ?_;refine Pc.pure p2 (by simp [Qh,clo,Qm]) (fun g=>Qy _ _ (Xk _)) ?_
  refine zG ?_
  have hn:R.neg=false:=by assumption
  rw [show (R.neg&&decide (k%2=1))=false by rw [hn];rfl]
  exact .self (by simp [clo,Qh,Qm])
def Jn (t:Tn):Int:=if Xa t.shape≠0 then Xa t.shape else if (t.el.length:Int)≠Xf t.shape then 13 else 0
def Xv (t:Tn):Int:=if Jn t≠0 then Jn t else if t.el.all okR then 0 else 6
theorem Xbp {α:Type} {xs:List α} {p:α→Bool} (d:α):xs.all p=true↔∀ j,j<xs.length→p (xs.getD j d)=true:=by
 rw [List.all_eq_true];constructor
 ·intro h j hj
  have e:xs.getD j d=xs[j]:=by simp [List.getD,hj]
  rw [e];exact h _ (List.getElem_mem hj)
 ·intro h x hx;obtain ⟨j,hj,rfl⟩:=List.mem_iff_getElem.1 hx
  have e:xs.getD j d=xs[j]:=by simp [List.getD,hj]
  rw [← e];exact h j hj
theorem Qq9 (t:Tn) (ht:TnOK t):Pu C 122 [tnV t] (.int .i64 (Jn t)):=by
 have hs:=ht.s
 have he:=ht.e
 refine zK Qf Tryz.func122 w122 Tryz.ntmps122 Tryz.results122 ?_;refine zG ?_;refine Fc.pure (Ku t.shape (by omega)) (by simp [Qh,clo,Qa]) (fun g=>rfl) ?_
 (refine zG ?_;(repeat' ((with_reducible apply zBr)<;>intro h<;>refine zG ?_))<;>try exact .intro)
 ·skip
  (refine Qo (by intro g;simp only [go_sem,ren,Qk]) ?_)
  rw [Jn,if_pos h]
 ·refine Pc.pure (Qcx t.shape (by omega)) (by simp [Qh,clo,Qa]) (fun g=>rfl) ?_
  (refine zG ?_;(repeat' ((with_reducible apply zBr)<;>intro h<;>refine zG ?_))<;>try exact .intro)
  ·skip
   (refine Qo (by intro g;simp only [go_sem,ren,Qk]) ?_)
   rw [Jn,if_neg (by omega),if_pos (by assumption)]
  ·skip
   (refine Qo (by intro g;simp only [go_sem,ren,Qk]) ?_)
   rw [Jn,if_neg (by omega),if_neg (by omega)]
theorem Xaz (t:Tn):Pu C 123 [tnV t] (tnV t):=by
 refine zK Qf Tryz.func123 w123 Tryz.ntmps123 Tryz.results123 ?_;refine zG ?_;exact Qo (fun g=>by simp [ren,Qk,Ql,Yt _ _ (Qi t.el)]) rfl
theorem Xs3:Tryz.f153.body.all yOK=true:=by kernel_rfl
def Xfi (t:Tn):V:=.fn (.func 153) [] [.rp [.sl t.shape.length (ints t.shape),.sl t.el.length (Qv t.el)] 0]
theorem Qwv (t:Tn):Pu C 124 [tnV t] (Xfi t):=by
 refine Fc.keep (Fc.sealR ?_);refine zL Qf Tryz.func124 w124 Tryz.ntmps124 Tryz.results124 ?_;refine zG ?_;refine ⟨0,_,2,[.sl t.shape.length (ints t.shape),.sl t.el.length (Qv t.el)],rfl,by simp [Qh,clo,Qa,Qi],[],by simp,by simp, ?_⟩
 simp [sz,szL,ren,Qk,Xfi,Qck,Ql,Yt _ _ (Qi t.el)]
def Qfh (t:Tn):List (List V):=(List.range t.el.length).map fun i=>[.int .i64 (i:Nat),Zx (t.el.getD i r0)]
theorem Qje {t:Tn} {i:Nat} (h:i<t.el.length):(Qfh t)[i]?=some [.int .i64 (i:Nat),Zx (t.el.getD i r0)]:=by simp [Qfh,h]
theorem Qcr (t:Tn):(Qfh t).length=t.el.length:=by simp [Qfh]
theorem Xbq (t:Tn) (ht:TnOK t):Gen C 153 [.rp [.sl t.shape.length (ints t.shape),.sl t.el.length (Qv t.el)] 0] (Qfh t):=by
 have he:=ht.e
 refine Gen.of3 Qf Tryz.func153 w153 Xs3 rfl Tryz.ntmps153 Tryz.results153 (zLe rfl) (fun bs hb=>by
  simp only [Qfh,List.mem_map,List.mem_range] at hb;obtain ⟨i,_,rfl⟩:=hb;simp [Qh,clo,Qp]) ?_
 intro G l J hW;refine zG ?_;refine Jl (fun n ts H=>∃ (i:Nat),(i≤t.el.length)∧(n=t.el.length - i)∧(H.length=i)∧ts.length=19∧nth ts 0=.fn (.yield l) [] []∧nth ts 6=.sl t.el.length (Qv t.el)∧nth ts 7=.int .i64 (t.el.length:Nat)∧nth ts 8=.int .i64 (i:Nat)) ?_ (n:=t.el.length) ?_
 ·skip
  rintro n ts H ⟨i,hi,hn,hH,hL,hs0,hs6,hs7,hs8⟩;refine Qdw [(0,.fn (.yield l) [] []),(6,.sl t.el.length (Qv t.el)),(7,.int .i64 (t.el.length:Nat)),(8,.int .i64 (i:Nat))] hL (by simp only [zFm,hs0,hs6,hs7,hs8,true_and];exact zNm) ?_
  clear hL hs0 hs6 hs7 hs8 ts
  refine hW _ _ _ _ ?_;by_cases hcase:i<t.el.length
  ·skip
   refine zG ?_;refine ⟨_,_,_,19,[(0,.fn (.yield l) [] []),(3,.int .i64 (i:Nat)),(4,.rp [.bool (t.el.getD i r0).neg,NA (t.el.getD i r0).num,NA (t.el.getD i r0).den] 0),(6,.sl t.el.length (Qv t.el)),(7,.int .i64 (t.el.length:Nat)),(8,.int .i64 (i:Nat))],rfl, ?_,by simp [Kf], ?_, ?_⟩
   ·simp [Qh,clo,Qm]
   ·simp only [zFm,Qbh,List.not_mem_nil,false_implies,implies_true,and_true];refine ⟨⟨?_, ?_⟩,⟨?_, ?_⟩,⟨?_, ?_⟩,⟨?_, ?_⟩,⟨?_, ?_⟩,⟨?_, ?_⟩⟩
    all_goals first | rfl | (simp [clo,Qh,Qi,Xw];done) | skip
    ·show sz (List.length H) _ (.ptr (List.length H) 0)=_
     rw [sz,if_pos rfl];rfl
    ·exact Xf8 _ _ (.sl t.el.length (Qv t.el)) (Qi _)
   ·skip
    refine zG ?_;rw [hH,Qcr];refine ⟨Qje hcase,⟨t.el.length - (i+1),by omega,i+1,by omega,rfl,rfl,rfl⟩,.inr trivial,.inr ?_⟩
    rw [List.length_replicate];omega
  ·skip
   refine zG ?_;rw [Qcr];exact ⟨.inl trivial,.inl (by omega)⟩
 ·exact ⟨0,by omega,by omega,rfl,rfl,rfl,rfl,rfl,rfl⟩
theorem Zr (t:Tn) (ht:TnOK t):Pu C 76 [tnV t] (.int .i64 (Xv t)):=by
 have hs:=ht.s
 have he:=ht.e
 have hv:Xfi t=.fn (.func 153) [] [.rp [.sl t.shape.length (ints t.shape),.sl t.el.length (Qv t.el)] 0]:=rfl
 refine zK Qf Tryz.func76 w76 Tryz.ntmps76 Tryz.results76 ?_;refine zG ?_;refine Fc.pure (Qq9 t ht) (by simp [Qh,clo,Qa,Qi]) (fun g=>rfl) ?_
 (refine zG ?_;(repeat' ((with_reducible apply zBr)<;>intro h<;>refine zG ?_))<;>try exact .intro)
 ·skip
  (refine Qo (by intro g;simp only [go_sem,ren,Qk]) ?_)
  rw [Xv,if_pos h]
 ·have hf:Jn t=0:=by omega
  have hmt:Xv t=if t.el.all okR then 0 else 6:=by rw [Xv,hf,if_neg (by decide)]
  refine Fc.pure (Xaz t) (by simp [Qh,clo,Qa,Qi]) (fun g=>by simp [tnV,ren,Qk,Ql,Yt _ _ (Qi t.el)]) ?_
  refine zG ?_;refine Fc.pure (Qwv t) (by simp [Qh,clo,Qa,Qi]) (fun g=>by simp [Xfi,ren,Qk,Ql,Yt _ _ (Qi t.el)]) ?_
  refine zH1 hv ?_;refine Kt (g:=153) (lb:=[.rp [.sl t.shape.length (ints t.shape),.sl t.el.length (Qv t.el)] 0]) (xs:=Qfh t) (by simp -implicitDefEqProofs (maxSteps:=9^7) (disch:=first | omega | (simp only [Je];omega)) only [go_sem]) (by simp [Qh,clo,Qa,Qi]) (Xbq t ht) (fun bs hb=>by
   simp only [Qfh,List.mem_map,List.mem_range] at hb;obtain ⟨i,_,rfl⟩:=hb
   rfl) (fun k H=>(∀ j,j<k→okR (t.el.getD j r0)=true)∧Qc H 1=some ⟨36,1,[.int .i64 0]⟩) ⟨fun j hj=>by omega,rfl⟩ ?_ ?_
  ·rintro k us H hk ⟨hI,h1⟩ l
   have hkl:k<t.el.length:=by
    have:=(List.getElem?_eq_some_iff.1 hk).1
    rwa [Qcr] at this
   rw [Qje hkl] at hk;injection hk with hk
   subst hk
   have h1':∀ X,Qc (H++X) 1=some ⟨36,1,[.int .i64 0]⟩:=fun X=>Qd h1 X
   (refine Qz Qf ?_;simp -implicitDefEqProofs (maxSteps:=9^7) (disch:=first | omega | (simp only [Je];omega)) only [go_sem,Qfu])
   (refine Qz Qf ?_;simp -implicitDefEqProofs (maxSteps:=9^7) (disch:=first | omega | (simp only [Je];omega)) only [go_sem,h1'])
   refine Fc.pure (Xh6 (t.el.getD k r0) (ht.get hkl)) (by simp [Qh,clo,Qm]) (fun g=>rfl) ?_
   cases hb:okR (t.el.getD k r0) with
   | true =>
    rw [if_pos rfl]
    (apply Zo;repeat' ((with_reducible first|apply Zk|apply zBr<;>intro h)<;>try simp -implicitDefEqProofs (maxSteps:=9^7) (disch:=first|exact zDs|fail) only [go_sem,h1',Jq]))
    exact Qbc hI hb
   | false =>
    rw [if_neg (by decide)]
    have hst:∀ X z,Qc ((H++X).set 1 (some z)) 1=some z:=fun X z=>Qg (h1' X)
    (apply Zo;repeat' ((with_reducible first|apply Zk|apply zBr<;>intro h)<;>try simp -implicitDefEqProofs (maxSteps:=9^7) (disch:=first|exact zDs|fail) only [go_sem,h1',hst,Jq]))
    (refine Qo (by intro g;simp only [go_sem,ren,Qk]) ?_)
    rw [hmt,if_neg fun hh=>?_]
    have:=(Xbp r0).1 hh k hkl
    rw [hb] at this;cases this
  ·rintro H ⟨hI,h1⟩;rw [Qcr] at hI
   have hst:∀ z,Qc (H.set 1 (some z)) 1=some z:=fun z=>Qg h1
   refine zH2 h1 hst ?_
   (refine Qo (by intro g;simp only [go_sem,ren,Qk]) ?_)
   rw [hmt,if_pos ((Xbp r0).2 hI)]
def Qhh (t:Tn):Tn:=⟨t.shape,(t.el.map Xd).map Qt⟩
theorem Xd4 {xs:List Raw} {i:Nat} (h:i<xs.length):Qv (((xs.map Xd).map Qt).take (i+1))=Qv (((xs.map Xd).map Qt).take i)++[.bool (Xd (xs.getD i r0)).neg,Xu (Xd (xs.getD i r0)).num,Xu (Xd (xs.getD i r0)).den]:=by
 rw [Qnz (by simpa using h)]
 have:(xs.map Xd).getD i q0=Xd (xs.getD i r0):=by simp [List.getD,h]
 rw [this]
theorem Qw8 (t:Tn) (ht:TnOK t):Val C 140 [tnV t,.fn (.func 82) [] []] (tnV (Qhh t)):=by
 have hs:=ht.s
 have he:=ht.e
 have hv:Xfi t=.fn (.func 153) [] [.rp [.sl t.shape.length (ints t.shape),.sl t.el.length (Qv t.el)] 0]:=rfl
 refine zK Qf Tryz.func140 w140 Tryz.ntmps140 Tryz.results140 ?_;refine zG ?_;refine Val.keptF (Val.ofRet (Qay t.shape (by omega)) (Qa _) (Xp _)) ⟨.self (by simp [clo,Qa]),trivial⟩ fun sv X hsv=>?_
 obtain ⟨k0,c0,s0⟩:=Yv hsv.gd;refine zH3 k0 c0 s0 ?_;refine Fc.pure (Qwv t) (by simp [Qh,clo,Qa,Qi]) (fun g=>by simp [Xfi,ren,Qk,Ql,Yt _ _ (Qi t.el)]) ?_
 refine zH1 hv ?_
 have hsv2:=GdIn.app hsv.within [some ⟨152,2,[sv,.nil]⟩]
 obtain ⟨P,hP⟩:∃ P,P=X.length+3:=⟨_,rfl⟩
 have hPl:([some (⟨152,2,[.sl t.shape.length (ints t.shape),.sl t.el.length (Qv t.el)]⟩:Row),some ⟨106,1,[.fn (.func 82) [] []]⟩,some ⟨152,2,[.nil,.nil]⟩]++X).length=P:=by rw [hP];simp
 rw [hPl] at hsv2;rw [← hP];refine Kt (g:=153) (lb:=[.rp [.sl t.shape.length (ints t.shape),.sl t.el.length (Qv t.el)] 0]) (xs:=Qfh t) (by simp -implicitDefEqProofs (maxSteps:=9^7) (disch:=first | omega | (simp only [Je];omega)) only [go_sem]) (by simp [Qh,clo,Qa,Qi]) (Xbq t ht) (fun bs hb=>by
   simp only [Qfh,List.mem_map,List.mem_range] at hb;obtain ⟨i,_,rfl⟩:=hb
   rfl) (fun k H=>∃ u,Qc H 1=some ⟨106,1,[.fn (.func 82) [] []]⟩∧Qc H 2=some ⟨152,2,[.nil,.nil]⟩∧Qc H P=some ⟨152,2,[sv,u]⟩∧GdIn 3 P H sv (.sl t.shape.length (ints t.shape))∧Cel (P+1) 70 3 H u k (Qv (((t.el.map Xd).map Qt).take k))) ?_ ?_ ?_
 ·refine ⟨.nil,rfl,rfl, ?_,hsv2,Cel.nil _ _ _ _⟩;rw [hP];simp [Qc]
 ·rintro k us H hk ⟨u,h1,h2,h3,h4,hu⟩ l
  have hkl:k<t.el.length:=by
   have:=(List.getElem?_eq_some_iff.1 hk).1
   rwa [Qcr] at this
  rw [Qje hkl] at hk;injection hk with hk
  subst hk
  (refine Qz Qf ?_;simp -implicitDefEqProofs (maxSteps:=9^7) (disch:=first | omega | (simp only [Je];omega)) only [go_sem,Qfu])
  have hx:=ht.get hkl
  obtain ⟨HH,hHH⟩:∃ HH,HH=H++[some (⟨70,3,[.bool (t.el.getD k r0).neg,.sl (t.el.getD k r0).num.length (Xh .u32 (t.el.getD k r0).num),.sl (t.el.getD k r0).den.length (Xh .u32 (t.el.getD k r0).den)]⟩:Row)]:=⟨_,rfl⟩;rw [← hHH]
  have hn:Qc HH H.length=some ⟨70,3,[.bool (t.el.getD k r0).neg,.sl (t.el.getD k r0).num.length (Xh .u32 (t.el.getD k r0).num),.sl (t.el.getD k r0).den.length (Xh .u32 (t.el.getD k r0).den)]⟩:=by rw [hHH];exact Xo _ _
  have hP1:=Xg h3
  have hL:HH.length=H.length+1:=by rw [hHH];simp
  have hkeep:∀ q row,Qc H q=some row→Qc HH q=some row:=fun q row hr=>by rw [hHH];exact Qd hr _
  have g1:=hkeep 1 _ h1
  have g2:=hkeep 2 _ h2
  have g3:=hkeep P _ h3
  have g4:=h4.app [some (⟨70,3,[.bool (t.el.getD k r0).neg,.sl (t.el.getD k r0).num.length (Xh .u32 (t.el.getD k r0).num),.sl (t.el.getD k r0).den.length (Xh .u32 (t.el.getD k r0).den)]⟩:Row)]
  have gu:=Cel.app hu [some (⟨70,3,[.bool (t.el.getD k r0).neg,.sl (t.el.getD k r0).num.length (Xh .u32 (t.el.getD k r0).num),.sl (t.el.getD k r0).den.length (Xh .u32 (t.el.getD k r0).den)]⟩:Row)]
  rw [← hHH] at g4 gu
  (refine Qz Qf ?_;simp -implicitDefEqProofs (maxSteps:=9^7) (disch:=first | omega | (simp only [Je];omega)) only [go_sem,g1,g3,hn])
  refine RunU.now ?_;refine zH3 g1 g3 hn ?_;refine Pc.keptF (Qas _ hx) (Qqn _) ⟨.self (Qp _),trivial⟩ fun v Y hv=>?_
  obtain ⟨v1,v2,v3,rfl,hv1,hv2,hv3⟩:=hv.agg3;obtain ⟨k2,c2,s2⟩:=Yv hv2.gd;obtain ⟨k3,c3,s3⟩:=Yv hv3.gd
  have e1:=hv1.gd.bool_inv
  subst e1
  (apply Zo;repeat' ((with_reducible first|apply Zk|apply zBr<;>intro h)<;>try simp -implicitDefEqProofs (maxSteps:=9^7) (disch:=first|exact zDs|fail) only [go_sem,g1,g3,hn,k2,c2,s2,k3,c3,s3]))
  refine Cel.push3 gu rfl rfl (by omega) (by omega) hv2 hv3 s2 s3 fun v' H' hu' hk' k4 c4 s4=>?_
  have f1:=hk' 1 _ (by omega) g1
  have f2:=hk' 2 _ (by omega) g2
  have f3:=hk' P _ (by omega) g3
  have f4:=GdIn.far g4 (H':=H') fun r row hr1 hr2 hr=>hk' r row (by omega) hr
  (apply Zo;repeat' ((with_reducible first|apply Zk|apply zBr<;>intro h)<;>try simp -implicitDefEqProofs (maxSteps:=9^7) (disch:=first|exact zDs|fail) only [go_sem,f3,k4,c4,s4,Jq]))
  refine ⟨v', ?_, ?_,Qg f3,f4.set (.inr (Nat.le_refl _)) _, ?_⟩
  ·rw [Qe _ (by omega)];exact f1
  ·rw [Qe _ (by omega)];exact f2
  ·rw [Xd4 hkl];exact Cel.set hu' (by omega) _
 ·rintro H ⟨u,h1,h2,h3,h4,hu⟩;obtain ⟨k4,c4,s4⟩:=Cel.kn hu
  have hst:∀ z,Qc (H.set 2 (some z)) 2=some z:=fun z=>Qg h2
  (apply Zo;repeat' ((with_reducible first|apply Zk|apply zBr<;>intro h)<;>try simp -implicitDefEqProofs (maxSteps:=9^7) (disch:=first|exact zDs|fail) only [go_sem,h1,h2,h3,hst,k0,c0,s0,k4,c4,s4]))
  rw [Qcr,List.take_of_length_le (by simp)] at hu
  refine Gd.ret (Gd.aggL ⟨(h4.set (.inl (by decide)) _).gd, ?_,trivial⟩)
  have hg:=Cel.gd (Cel.set hu (q:=2) (by omega) (some ⟨152,2,[sv,u]⟩))
  simpa [Qhh] using hg
def Qoy:Tn:=⟨[],[]⟩
def mkT (t:Tn):Tn × Int:=if Jn t≠0 then (Qoy,Jn t) else (Qhh t,0)
theorem Qvx {H:Qb}:Gd H (.agg [.nil,.nil]) (tnV Qoy):=Gd.aggL ⟨.nil _,.nil _,trivial⟩
theorem Xkm (a b:V) (H:Qb) (ka:kn a=true) (ca:cellsOf a=[a]) (sa:Yq a=true) (kb:kn b=true) (cb:cellsOf b=[b]) (sb:Yq b=true):Fc C 139 [.agg [a,b]] H fun v H'=>v=.agg [a,b]∧∃ X,H'=H++X:=by
 refine zL Qf Tryz.func139 w139 Tryz.ntmps139 Tryz.results139 ?_;refine zH6 ka ca sa kb cb sb ?_;exact ⟨_,rfl⟩
theorem Qla (t:Tn) (ht:TnOK t):Val C 94 [.sl t.shape.length (ints t.shape),.sl t.el.length (Qv t.el)] (.tup [tnV (mkT t).1,.int .i64 (mkT t).2]):=by
 refine zK Qf Tryz.func94 w94 Tryz.ntmps94 Tryz.results94 ?_;refine zG ?_;refine Fc.pure (Qq9 t ht) (by simp [Qh,clo,Qa,Qi]) (fun g=>rfl) ?_
 (refine zG ?_;(repeat' ((with_reducible apply zBr)<;>intro h<;>refine zG ?_))<;>try exact .intro)
 ·rw [mkT,if_pos h];exact Gd.ret (Gd.tupL ⟨Qvx,Qiv _ _,trivial⟩)
 ·rw [mkT,if_neg (by omega)]
  refine Fc.pure (Xaz t) (by simp [Qh,clo,Qa,Qi]) (fun g=>by simp [tnV,ren,Qk,Ql,Yt _ _ (Qi t.el)]) ?_
  refine zG ?_;refine (Qw8 t ht).keptF ⟨.self (Qcc t),.self rfl,trivial⟩ fun v X hv=>?_
  obtain ⟨a,b,rfl,ha,hb⟩:=hv.agg2;obtain ⟨ka,ca,sa⟩:=Yv ha.gd;obtain ⟨kb,cb,sb⟩:=Yv hb.gd;refine zG ?_;refine (Xkm a b _ ka ca sa kb cb sb).mono ?_;rintro v H' ⟨rfl,Y,rfl⟩;refine zH6 ka ca sa kb cb sb ?_;exact Gd.ret (Gd.tupL ⟨Gd.aggL ⟨((ha.app Y).set (q:=0) (by simp) _).gd,((hb.app Y).set (q:=0) (by simp) _).gd,trivial⟩,Qiv _ _,trivial⟩)
def Qdg (s xs:List Int):Nat→Int
 | 0=>0
 | i+1=>Qdg s xs i*s.getD i 0+xs.getD i 0
def inB (s xs:List Int):Bool:=(List.range s.length).all fun i=>decide (0≤xs.getD i 0∧xs.getD i 0<s.getD i 0)
def Qco (s xs:List Int):Int:=if Xa s≠0 then Xa s else if xs.length≠s.length then 2 else if inB s xs then 0 else 21
def Qf0 (s xs:List Int):Int:=if Qco s xs=0 then Qdg s xs s.length else 0
theorem Qnc {s xs:List Int}:inB s xs=true↔∀ i,i<s.length→0≤xs.getD i 0∧xs.getD i 0<s.getD i 0:=by simp [inB]
theorem Xay {s xs:List Int} (h:∀ i,i<s.length→0≤xs.getD i 0∧xs.getD i 0<s.getD i 0):∀ i,i≤s.length→0≤Qdg s xs i∧Qdg s xs i<Qx (s.take i)
 | 0,_=>by simp [Qdg,Qx]
 | i+1,hi=>by
  obtain ⟨h1,h2⟩:=Xay h i (by omega)
  obtain ⟨h3,h4⟩:=h i (by omega)
  rw [Jj (by omega),Qdg]
  have h5:Qdg s xs i*s.getD i 0≤(Qx (s.take i) - 1)*s.getD i 0:=Int.mul_le_mul_of_nonneg_right (by omega) (by omega)
  have h6:0≤Qdg s xs i*s.getD i 0:=Int.mul_nonneg h1 (by omega)
  rw [Int.sub_mul,Int.one_mul] at h5;omega
theorem Qe4 (s xs:List Int) (hs:s.length≤1000000000) (hx:xs.length≤1000000000):Pu C 99 [.sl s.length (ints s),.sl xs.length (ints xs)] (.tup [.int .i64 (Qf0 s xs),.int .i64 (Qco s xs)]):=by
 refine zK Qf Tryz.func99 w99 Tryz.ntmps99 Tryz.results99 ?_;refine zG ?_;refine Fc.pure (Ku s (by omega)) (by simp [go_sem,Qh,clo,Qa,Qn]) (by intro g;simp only [go_sem,ren,Qk]) ?_
 (refine zG ?_;(repeat' ((with_reducible apply zBr)<;>intro h<;>refine zG ?_))<;>try exact .intro)
 ·skip
  (refine Qo (by intro g;simp only [go_sem,ren,Qk]) ?_)
  have:Qco s xs=Xa s:=if_pos h
  rw [Qf0,this,if_neg h]
 ·have hm:Xa s=0:=by omega
  (refine Qo (by intro g;simp only [go_sem,ren,Qk]) ?_)
  have:Qco s xs=2:=by rw [Qco,if_neg (by omega),if_pos (by omega)]
  rw [Qf0,this,if_neg (by decide)]
 ·have hm:Xa s=0:=by omega
  have hl:xs.length=s.length:=by omega
  obtain ⟨m1,m2,m3⟩:=Qu hm
  have hoe:Qco s xs=if inB s xs then 0 else 21:=by rw [Qco,if_neg (by omega),if_neg (by omega)]
  refine Qj (fun n ts H=>∃ (i:Nat),(i≤s.length)∧((∀ j,j<i→0≤xs.getD j 0∧xs.getD j 0<s.getD j 0))∧(H=[])∧(n=s.length - i)∧ts.length=50∧nth ts 0=.sl s.length (ints s)∧nth ts 1=.sl xs.length (ints xs)∧nth ts 7=.int .i64 (Qdg s xs i)∧nth ts 20=.sl s.length (ints s)∧nth ts 21=.int .i64 (s.length:Nat)∧nth ts 22=.int .i64 (i:Nat)) ?_ (n:=s.length) ?_
  ·skip
   rintro n ts H ⟨i,hi,hI,hH,hn,hL,hs0,hs1,hs7,hs20,hs21,hs22⟩;refine Xc [(0,.sl s.length (ints s)),(1,.sl xs.length (ints xs)),(7,.int .i64 (Qdg s xs i)),(20,.sl s.length (ints s)),(21,.int .i64 (s.length:Nat)),(22,.int .i64 (i:Nat))] hL (by simp only [zFm,hs0,hs1,hs7,hs20,hs21,hs22,true_and];exact zNm) ?_
   clear hL hs0 hs1 hs7 hs20 hs21 hs22 ts
   refine Qz Qf ?_;subst hH;by_cases hcase:i<s.length
   ·have hsi:1≤s.getD i 0:=Zq.1 m2 i hcase
    have hsu:s.getD i 0≤Qx s:=Xq m2 hcase
    have hpl:=Qhe m2 i
    have hoff:0≤Qdg s xs i∧Qdg s xs i<Qx (s.take i):=by
     have hh:∀ (m:Nat),m≤i→0≤Qdg s xs m∧Qdg s xs m<Qx (s.take m):=fun m=>by
      induction m with
      | zero=>intro _;simp [Qdg,Qx]
      | succ m ih =>
       intro hm;obtain ⟨h1,h2⟩:=ih (by omega)
       obtain ⟨h3,h4⟩:=hI m (by omega)
       rw [Jj (by omega),Qdg]
       have h5:Qdg s xs m*s.getD m 0≤(Qx (s.take m) - 1)*s.getD m 0:=Int.mul_le_mul_of_nonneg_right (by omega) (by omega)
       have h6:0≤Qdg s xs m*s.getD m 0:=Int.mul_nonneg h1 (by omega)
       rw [Int.sub_mul,Int.one_mul] at h5;omega
     exact hh i (Nat.le_refl _)
    have hmul:0≤Qdg s xs i*s.getD i 0∧Qdg s xs i*s.getD i 0≤1048576:=by
     refine ⟨Int.mul_nonneg hoff.1 (by omega), ?_⟩
     have:=Int.mul_le_mul (show Qdg s xs i≤1024 by omega) (show s.getD i 0≤1024 by omega) (by omega) (by decide)
     omega
    by_cases hin:0≤xs.getD i 0∧xs.getD i 0<s.getD i 0
    ·have e:Qdg s xs (i+1)=Qdg s xs i*s.getD i 0+xs.getD i 0:=rfl
     generalize hq:Qdg s xs i*s.getD i 0=q at *;generalize Qdg s xs i=o at *;generalize hd:s.getD i 0=d at *;generalize hxx:xs.getD i 0=x at *
     have hI':∀ j,j<i+1→0≤xs.getD j 0∧xs.getD j 0<s.getD j 0:=Qbc hI (by rw [hd,hxx];exact hin)
     refine zH3 hq hd hxx ?_;refine ⟨s.length - (i+1),by omega,i+1,by omega,hI',rfl,by rw [e],by congr 1⟩
    ·have hno:inB s xs=false:=by
      rw [Bool.eq_false_iff];intro hh;exact hin (Qnc.1 hh i hcase)
     have e21:Qco s xs=21:=by rw [hoe,hno];rfl
     have e0:Qf0 s xs=0:=by rw [Qf0,e21,if_neg (by decide)]
     rw [e21,e0]
     (refine zG ?_;(repeat' ((with_reducible apply zBr)<;>intro h<;>refine zG ?_))<;>try exact .intro)
     all_goals (refine Qo (by intro g;simp only [go_sem,ren,Qk]) ?_)
     all_goals rfl
   ·have hil:i=s.length:=by omega
    subst hil
    have hyes:inB s xs=true:=Qnc.2 hI
    refine zG ?_
    (refine Qo (by intro g;simp only [go_sem,ren,Qk]) ?_)
    have e21:Qco s xs=0:=by rw [hoe,hyes];rfl
    rw [e21,Qf0,if_pos e21]
  ·exact ⟨0,by omega,fun j hj=>by omega,rfl,rfl,rfl,rfl,rfl,rfl,rfl,rfl,rfl⟩
theorem Xs2:Tryz.f166.body.all yOK=true:=by kernel_rfl
def Xbm (s:List Int):V:=.fn (.func 166) [] [.rp [.sl s.length (ints s)] 0]
theorem Qp6 (s:List Int):Pu C 134 [.sl s.length (ints s)] (Xbm s):=by
 refine Fc.keep (Fc.sealR ?_);refine zL Qf Tryz.func134 w134 Tryz.ntmps134 Tryz.results134 ?_;refine zG ?_;refine ⟨0,_,1,[.sl s.length (ints s)],rfl,by simp [Qh,clo,Qa],[],by simp,by simp, ?_⟩
 simp [sz,szL,ren,Qk,Xbm,Qck,Ql]
def Qmr (s:List Int):List (List V):=(List.range s.length).map fun k=>[.int .i64 (s.length - 1 - k:Nat),.int .i64 (s.getD (s.length - 1 - k) 0)]
theorem Qrm {s:List Int} {k:Nat} (h:k<s.length):(Qmr s)[k]?=some [.int .i64 (s.length - 1 - k:Nat),.int .i64 (s.getD (s.length - 1 - k) 0)]:=by simp [Qmr,h]
theorem Qip (s:List Int):(Qmr s).length=s.length:=by simp [Qmr]
theorem Qtx (s:List Int) (hs:s.length≤1000000000):Gen C 166 [.rp [.sl s.length (ints s)] 0] (Qmr s):=by
 refine Gen.of3 Qf Tryz.func166 w166 Xs2 rfl Tryz.ntmps166 Tryz.results166 (zLe rfl) (fun bs hb=>by
  simp only [Qmr,List.mem_map,List.mem_range] at hb;obtain ⟨i,_,rfl⟩:=hb;simp [Qh,clo]) ?_
 intro G l J hW;refine zG ?_;refine Jl (fun n ts H=>∃ (i:Nat),(i≤s.length)∧(n=s.length - i)∧(H.length=i)∧ts.length=19∧nth ts 0=.fn (.yield l) [] []∧nth ts 1=.rp [.sl s.length (ints s)] 0∧nth ts 3=.int .i64 ((s.length:Int) - 1 - i)) ?_ (n:=s.length) ?_
 ·skip
  rintro n ts H ⟨i,hi,hn,hH,hL,hs0,hs1,hs3⟩;refine Qdw [(0,.fn (.yield l) [] []),(1,.rp [.sl s.length (ints s)] 0),(3,.int .i64 ((s.length:Int) - 1 - i))] hL (by simp only [zFm,hs0,hs1,hs3,true_and];exact zNm) ?_
  clear hL hs0 hs1 hs3 ts
  refine hW _ _ _ _ ?_;by_cases hcase:i<s.length
  ·have e:((s.length:Int) - 1 - (i:Int))=((s.length - 1 - i:Nat):Int):=by omega
   refine zH1 e ?_;rw [hH,Qip];refine ⟨Qrm hcase,⟨s.length - (i+1),by omega,i+1,by omega,rfl,rfl,by congr 1;omega⟩,.inr trivial,.inr ?_⟩
   rw [List.length_replicate];omega
  ·skip
   refine zG ?_;rw [Qip];exact ⟨.inl trivial,.inl (by omega)⟩
 ·exact ⟨0,by omega,by omega,rfl,rfl,rfl,by simp -implicitDefEqProofs (maxSteps:=9^7) (disch:=first | omega | (simp only [Je];omega)) only [go_sem];congr 1;omega⟩
def Qmm (s:List Int) (n:Int) (i:Nat):Int:=(n/Qx (s.drop (i+1)))%s.getD i 0
def Jk (s:List Int) (n:Int):List Int:=(List.range s.length).map (Qmm s n)
def Qmy (s:List Int) (n:Int) (k:Nat):List Int:=(List.range s.length).map fun j=>if s.length - k≤j then Qmm s n j else 0
theorem Xhc (s:List Int) (n:Int) (k:Nat):(Qmy s n k).length=s.length:=by simp [Qmy]
theorem Qb9 (s:List Int) (n:Int):(Jk s n).length=s.length:=by simp [Jk]
theorem Xdg (s:List Int) (n:Int):Qmy s n s.length=Jk s n:=by simp [Qmy,Jk]
theorem Xde (s:List Int) (n:Int):Qmy s n 0=List.replicate s.length 0:=by
 refine List.ext_getElem (by simp [Qmy]) fun j h1 h2=>?_
 simp [Qmy] at h1 ⊢
 intro;omega
theorem Xdf {s:List Int} {n:Int} {k:Nat} (h:k<s.length):(Qmy s n k).set (s.length - 1 - k) (Qmm s n (s.length - 1 - k))=Qmy s n (k+1):=by
 refine List.ext_getElem (by simp [Qmy]) fun j h1 h2=>?_
 rw [List.getElem_set];simp [Qmy] at h1 h2 ⊢;split
 ·rename_i e;subst e;rw [if_pos (by omega)]
 ·rename_i e;by_cases hj:s.length≤j+k
  ·rw [if_pos hj,if_pos (by omega)]
  ·rw [if_neg hj,if_neg (by omega)]
theorem Qxx {s:List Int} {i:Nat} (h:i<s.length):Qx (s.drop i)=s.getD i 0*Qx (s.drop (i+1)):=by
 rw [List.drop_eq_getElem_cons h];simp [Qx,List.getD,h]
theorem Xjb {s:List Int} (h:∀ d∈s,1≤d) {n:Int} {i:Nat} (hi:i<s.length):n/Qx (s.drop (i+1))/s.getD i 0=n/Qx (s.drop i):=by
 have h2:=Yp (l:=s.drop (i+1)) fun d hd=>h d (List.mem_of_mem_drop hd)
 rw [Qxx hi,Int.ediv_ediv_of_nonneg (by omega),Int.mul_comm]
theorem Xjc {s:List Int} (h:∀ d∈s,1≤d) (n:Int) {i:Nat} (hi:i<s.length):0≤Qmm s n i∧Qmm s n i<s.getD i 0:=by
 have:=Zj h hi
 exact ⟨Int.emod_nonneg _ (by omega),Int.emod_lt_of_pos _ (by omega)⟩
theorem Qlv (n:Nat):Xh .i64 (List.replicate n 0)=ints (List.replicate n 0):=by
 induction n with
 | zero=>rfl
 | succ n ih=>simp only [List.replicate_succ,Xh,ints,List.map_cons] at ih ⊢;rw [ih];rfl
theorem Qii (s:List Int) (n:Int) (hs:s.length≤1000000000) (hm:Xa s=0) (h0:0≤n) (hn:n<Qx s):Val C 88 [.sl s.length (ints s),.int .i64 n] (.tup [.sl (Jk s n).length (ints (Jk s n)),.int .i64 0]):=by
 obtain ⟨m1,m2,m3⟩:=Qu hm
 have hv:Xbm s=.fn (.func 166) [] [.rp [.sl s.length (ints s)] 0]:=rfl
 have hp:Qj6 s=Qx s:=by unfold Qj6;rw [if_neg (by omega)]
 refine zK Qf Tryz.func88 w88 Tryz.ntmps88 Tryz.results88 ?_;refine zG ?_;refine Fc.pure (Ku s (by omega)) (by simp [go_sem,Qh,clo,Qa,Qn]) (by intro g;simp only [go_sem,ren,Qk]) ?_
 rw [hm];refine zG ?_;refine Pc.pure (Qgj s (by omega) m2) (by simp [Qh,clo,Qa]) (fun g=>rfl) ?_
 rw [hp];refine zG ?_;refine Qe6 rfl rfl rfl rfl (by simp [t3bytes]) (by omega) ?_
 refine zG ?_;refine Fc.pure (Qp6 s) (by simp [Qh,clo,Qa]) (fun g=>by simp [Xbm,ren,Qk,Ql]) ?_
 refine zH1 hv ?_;refine Kt (g:=166) (lb:=[.rp [.sl s.length (ints s)] 0]) (xs:=Qmr s) (by simp -implicitDefEqProofs (maxSteps:=9^7) (disch:=first | omega | (simp only [Je];omega)) only [go_sem]) (by simp [Qh,clo,Qa]) (Qtx s hs) (fun bs hb=>by
   simp only [Qmr,List.mem_map,List.mem_range] at hb;obtain ⟨i,_,rfl⟩:=hb
   rfl) (fun k H=>Qc H 0=some ⟨3,1,[.int .i64 (n/Qx (s.drop (s.length - k)))]⟩∧Qc H 1=some ⟨3,1,ints (Qmy s n k)⟩∧Qc H 2=some ⟨23,1,[.ref 1 0 s.length]⟩) ?_ ?_ ?_
 ·refine ⟨?_, ?_,rfl⟩
  ·rw [Nat.sub_zero,List.drop_length];simp [Qc,Qx]
  ·rw [Xde,← Qlv];rfl
 ·rintro k us H hk ⟨h0,h1,h2⟩ l
  have hkl:k<s.length:=by
   have:=(List.getElem?_eq_some_iff.1 hk).1
   rwa [Qip] at this
  rw [Qrm hkl] at hk;injection hk with hk
  subst hk
  have hd:=Zj m2 (i:=s.length - 1 - k) (by omega)
  have hdu:=Xq m2 (i:=s.length - 1 - k) (by omega)
  have hq0:0≤n/Qx (s.drop (s.length - k)):=Int.ediv_nonneg (by omega) (by have:=Yp (l:=s.drop (s.length - k)) fun d hd=>m2 d (List.mem_of_mem_drop hd);omega)
  have hq1:n/Qx (s.drop (s.length - k))≤n:=Int.ediv_le_self _ (by omega)
  have hst:=Xdf (n:=n) hkl
  have hnx:=Xjb m2 (n:=n) (i:=s.length - 1 - k) (by omega)
  have hii:Qmm s n (s.length - 1 - k)=n/Qx (s.drop (s.length - k))%s.getD (s.length - 1 - k) 0:=by
   rw [Qmm,show s.length - 1 - k+1=s.length - k by omega]
  rw [show s.length - 1 - k+1=s.length - k by omega] at hnx
  have hlen:=Xhc s n k
  have hw:s.length - (k+1)=s.length - 1 - k:=by omega
  rw [hw];rw [hii] at hst;rw [← hnx]
  have hm1:=Int.emod_nonneg (n/Qx (s.drop (s.length - k))) (show s.getD (s.length - 1 - k) 0≠0 by omega)
  have hm2:=Int.emod_lt_of_pos (n/Qx (s.drop (s.length - k))) (show 0<s.getD (s.length - 1 - k) 0 by omega)
  have hdv:=Int.ediv_le_self (a:=n/Qx (s.drop (s.length - k))) (s.getD (s.length - 1 - k) 0) hq0
  have hdv0:=Int.ediv_nonneg hq0 (show 0≤s.getD (s.length - 1 - k) 0 by omega)
  generalize n/Qx (s.drop (s.length - k))=q at *;generalize s.getD (s.length - 1 - k) 0=d at *
  have f0:∀ z,Qc (H.set 1 z) 0=some ⟨3,1,[.int .i64 q]⟩:=fun z=>by rw [Qe _ (by decide)];exact h0
  (refine Qz Qf ?_;simp -implicitDefEqProofs (maxSteps:=9^7) (disch:=first | omega | (simp only [Je];omega)) only [go_sem,Qfu])
  (refine Qz Qf ?_;simp -implicitDefEqProofs (maxSteps:=9^7) (disch:=first | omega | (simp only [Je];omega)) only [go_sem,h0,h1,h2,f0,Qao,hst,Jq])
  refine ⟨Qg (f0 _), ?_, ?_⟩
  ·rw [Qe _ (by decide)];exact Qg h1
  ·rw [Qe _ (by decide),Qe _ (by decide)];exact h2
 ·rintro H ⟨h0,h1,h2⟩;rw [Qip,Xdg] at h1;refine zH3 h0 h1 h2 ?_;rw [Qb9];exact Gd.ret (Gd.tupL ⟨.flat 1 _ _ _ _ h1 (Qa _) (Xp _),.leaf _ rfl rfl,trivial⟩)
def Qgy:Raw:=Qt (Yr 0)
def Qfk (N:Nat) (none:Raw) (p:Nat→Raw) (b:Nat→Bool):List Raw:=(List.range N).map fun i=>if b i then p i else none
theorem Qf8 (N:Nat) (no:Raw) (p:Nat→Raw) (b:Nat→Bool):(Qfk N no p b).length=N:=by simp [Qfk]
theorem Qly (N:Nat) (no:Raw) (p:Nat→Raw) (b:Nat→Bool):Qfk (N+1) no p b=Qfk N no p b++[if b N then p N else no]:=by simp [Qfk,List.range_succ]
theorem Qqm (xs:List Raw) (x:Raw):Qv (xs++[x])=Qv xs++[.bool x.neg,NA x.num,NA x.den]:=by rw [Qv,Qgs];rfl
theorem Qny (xs:List Raw):(Qv xs).all Yq=true:=by
 induction xs with
 | nil=>rfl
 | cons x xs ih=>simp only [Qv,Qgr,List.all_cons] at ih ⊢;rw [ih];rfl
theorem Qn0 {y:Ty} {e e' s' i:Nat} {H:Qb} {v:V} {xs:List Raw} {x:Raw} {r1:Option Row} {K:V→Qb→Prop} (h:Bv.Own e 3 H v i (Qv xs)) (hy:y.size=3) (hby:y.bytes=56) (hn:i+1≤1000000000)
  (hK:∀ v' H',Bv.Own e 3 H' v' (i+1) (Qv (xs++[x]))→(∀ q row,(∀ off m,v≠.ref q off m)→Qc H q=some row→Qc H' q=some row)→(∀ r off m,v'=.ref r off m→1≤r)→K v' H') :
  Qbb y e v (.ref (H.length+1) 0 1) (H++[r1,some ⟨e',s',[.bool x.neg,.sl x.num.length (Xh .u32 x.num),.sl x.den.length (Xh .u32 x.den)]⟩]) K:=by
 rw [show H++[r1,some (⟨e',s',[.bool x.neg,.sl x.num.length (Xh .u32 x.num),.sl x.den.length (Xh .u32 x.den)]⟩:Row)]=(H++[r1])++[some ⟨e',s',[.bool x.neg,.sl x.num.length (Xh .u32 x.num),.sl x.den.length (Xh .u32 x.den)]⟩] by simp,show H.length+1=(H++[r1]).length by simp]
 have h':=h.keep [r1]
 rw [← hy] at h';refine Qgg h' (by rw [hy];rfl) (by simp [Yq]) (by omega) (by omega) (by rw [hby];omega) (Qny _) fun H' k1 k2 k3=>?_
 rw [hy] at k1;refine hK _ H' (by rw [Qqm];exact k1) (fun q row hq hr=>k2 q row hq (Qd hr _)) fun r off m e=>by injection e with e;omega
theorem Qsz (s:List Int) (no:Raw) (f:Nat) (caps:List V) (p:Nat→Raw) (b:Nat→Bool) (N:Nat) (hs:s.length≤1000000000) (hm:Xa s=0) (hN:(N:Int)=Qx s) (hc:Qh caps=true)
  (hp:∀ i,i<N→Pu C f (.sl (Jk s (i:Nat)).length (ints (Jk s (i:Nat)))::caps) (.tup [Zx (p i),.bool (b i)])) :
  Pu C 105 [.sl s.length (ints s),Zx no,.fn (.func f) [] caps] (.sl N (Qv (Qfk N no p b))):=by
 obtain ⟨m1,m2,m3⟩:=Qu hm
 have hct:Xf s=(N:Int):=by rw [Xf,if_pos hm,hN]
 refine Fc.valO (e:=70) (s:=3) ?_ (Qi _);refine zK Qf Tryz.func105 w105 Tryz.ntmps105 Tryz.results105 ?_;refine zG ?_;refine Fc.pure (Qcx s (by omega)) (by simp [go_sem,Qh,clo,Qa,Qn]) (by intro g;simp only [go_sem,ren,Qk]) ?_
 rw [hct];refine zG ?_;refine Qj (fun n ts H=>∃ (i:Nat) (u:V),(i≤N)∧(n=N - i)∧(Qc H 0=some ⟨70,3,[.bool no.neg,NA no.num,NA no.den]⟩)∧(Bv.Own 70 3 H u i (Qv (Qfk i no p b)))∧((∀ r off m,u=.ref r off m→1≤r))∧ts.length=39∧nth ts 0=.sl s.length (ints s)∧nth ts 2=.fn (.func f) [] caps∧nth ts 4=.ptr 0 0∧nth ts 7=u∧nth ts 14=.int .i64 (N:Nat)∧nth ts 15=.int .i64 (i:Nat)) ?_ (n:=N) ?_
 ·skip
  rintro n ts H ⟨i,u,hi,hn,h0,hu,hr,hL,hs0,hs2,hs4,hs7,hs14,hs15⟩;refine Xc [(0,.sl s.length (ints s)),(2,.fn (.func f) [] caps),(4,.ptr 0 0),(7,u),(14,.int .i64 (N:Nat)),(15,.int .i64 (i:Nat))] hL (by simp only [zFm,hs0,hs2,hs4,hs7,hs14,hs15,true_and];exact zNm) ?_
  clear hL hs0 hs2 hs4 hs7 hs14 hs15 ts
  refine Qz Qf ?_;by_cases hcase:i<N
  ·skip
   refine zG ?_;refine (Qii s (i:Nat) hs hm (by omega) (by omega)).call ⟨.self (by simp [clo,Qa]),.self rfl,trivial⟩ (by simp [clo,Qh,Qa]) ?_
   refine zG ?_;refine Fc.pure (hp i hcase) (by simp [Qh,clo,Qa,hc]) (fun g=>by simp [ren,Qk,Zx,NA,Qaf]) ?_
   have hkeep:∀ X,Qc (H++X) 0=some ⟨70,3,[.bool no.neg,NA no.num,NA no.den]⟩:=fun X=>Qd h0 X
   have hlen:=Xg h0
   cases hb:b i with
   | true =>
    refine zH1 hkeep ?_;refine Qn0 hu rfl rfl (by omega) fun v' H' hu' hk hr'=>?_
    have h0':=hk 0 _ (fun off m e=>by have:=hr _ _ _ e;omega) h0
    have hg:Qv (Qfk (i+1) no p b)=Qv (Qfk i no p b++[p i]):=by rw [Qly,hb];rfl
    rw [← hg] at hu';refine zG ?_;exact ⟨N - (i+1),by omega,i+1,v',(by (repeat' apply And.intro)<;>(first | rfl | omega | (congr 1;omega) | assumption | (congr 1;assumption)))⟩
   | false =>
    refine zH1 hkeep ?_;refine Qn0 hu rfl rfl (by omega) fun v' H' hu' hk hr'=>?_
    have h0':=hk 0 _ (fun off m e=>by have:=hr _ _ _ e;omega) h0
    have hg:Qv (Qfk (i+1) no p b)=Qv (Qfk i no p b++[no]):=by rw [Qly,hb];rfl
    rw [← hg] at hu';refine zG ?_;exact ⟨N - (i+1),by omega,i+1,v',(by (repeat' apply And.intro)<;>(first | rfl | omega | (congr 1;omega) | assumption | (congr 1;assumption)))⟩
  ·skip
   refine zG ?_
   have:i=N:=by omega
   subst this;exact Own.ret hu (fun g=>Yt _ _ (Qi _)) fun v H h=>h
 ·exact ⟨0,.nil,by omega,rfl,rfl,.inl ⟨rfl,rfl,rfl⟩,(fun r off m e=>nomatch e),rfl,rfl,rfl,rfl,rfl,rfl,rfl⟩
def Qj7 (t:Tn) (l:List Int):Raw:=t.el.getD (Qf0 t.shape l).toNat r0
def Qjf (t:Tn) (l:List Int):Bool:=decide (Qco t.shape l=0)
theorem Qkg {s l:List Int} (h:Qco s l=0):0≤Qf0 s l∧Qf0 s l<Qx s∧Xa s=0:=by
 have hm:Xa s=0:=by
  refine Classical.byContradiction fun hn=>?_
  rw [Qco,if_pos hn] at h;exact hn h
 have hl:l.length=s.length:=by
  refine Classical.byContradiction fun hn=>?_
  rw [Qco,if_neg (by omega),if_pos hn] at h;cases h
 have hi:inB s l=true:=by
  refine Classical.byContradiction fun hn=>?_
  rw [Qco,if_neg (by omega),if_neg (by omega),if_neg hn] at h;cases h
 have:=Xay (Qnc.1 hi) s.length (Nat.le_refl _)
 rw [List.take_length] at this;rw [Qf0,if_pos h];exact ⟨this.1,this.2,hm⟩
theorem Xh0 (t:Tn) (ht:TnOK t) (hf:Jn t=0) (f:Nat) (caps:List V) (hc:Qh caps=true) (x l:List Int) (hx:x.length≤1000000000) (hl:l.length≤1000000000) (hp:Val C f (.sl x.length (ints x)::caps) (.sl l.length (ints l))) :
  Pu C 138 [.sl x.length (ints x),.rp [.sl t.shape.length (ints t.shape),.sl t.el.length (Qv t.el)] 0,.rp [.fn (.func f) [] caps] 0] (.tup [Zx (if Qjf t l then Qj7 t l else r0),.bool (Qjf t l)]):=by
 have hs:=ht.s
 have he:=ht.e
 refine Pu.ofBor (by simp [clo,Qh,Qp]) ?_
 refine zL Qf Tryz.func138 w138 Tryz.ntmps138 Tryz.results138 ?_;refine zG ?_;refine RunU.now ?_;refine zG ?_;refine Val.pc hp ⟨.self (by simp [clo,Qa]),BorL.selfs hc⟩ (by simp [clo,Qa]) ?_
 refine zG ?_;refine Pc.pure (Qe4 t.shape l hs hl) (by simp [Qh,clo,Qa]) (fun g=>rfl) ?_
 by_cases hz:Qco t.shape l=0
 ·obtain ⟨h1,h2,h3⟩:=Qkg hz
  have hel:(t.el.length:Int)=Qx t.shape:=by
   rw [Jn,if_neg (by omega)] at hf
   split at hf
   ·cases hf
   ·rename_i h;rw [Xf,if_pos h3] at h;omega
  obtain ⟨m,hm⟩:∃ m:Nat,Qf0 t.shape l=m:=⟨(Qf0 t.shape l).toNat,by omega⟩
  have hia:Qjf t l=true:=by simp [Qjf,hz]
  have hpk:Qj7 t l=t.el.getD m r0:=by rw [Qj7,hm];rfl
  rw [hia,if_pos rfl,hpk,hm,hz]
  have hlt:m<t.el.length:=by omega
  refine zG ?_;exact .self (by simp [clo,Qh,Qm])
 ·have hia:Qjf t l=false:=by simp [Qjf,hz]
  rw [hia,if_neg (by decide)]
  refine zG ?_;exact Bor.tupL ⟨Bor.aggL ⟨.self rfl,.nil _,.nil _,trivial⟩,.self rfl,trivial⟩
theorem Qku {s:List Int} (h:∀ d∈s,1≤d) (n:Int):∀ j,j<s.length→0≤(Jk s n).getD j 0∧(Jk s n).getD j 0<s.getD j 0:=fun j hj=>by
 have e:(Jk s n).getD j 0=Qmm s n j:=by simp [Jk,List.getD,hj]
 rw [e];exact Xjc h n hj
def mvL (t:Tn) (s:List Int) (g:List Int→List Int) (N:Nat):List Raw:=Qfk N Qgy (fun i=>if Qjf t (g (Jk s (i:Nat))) then Qj7 t (g (Jk s (i:Nat))) else r0) (fun i=>Qjf t (g (Jk s (i:Nat))))
def mvT (t:Tn) (s:List Int) (g:List Int→List Int):Tn:=Qhh ⟨s,mvL t s g (Qx s).toNat⟩
theorem Xfp:RawOK Qgy:=⟨by simp [Qgy,Qt,Yr,Yw],by rw [Qgy,Qt,Yr,Qo6 _ (by decide)];decide,fun x hx=>by simp [Qgy,Qt,Yr,Yw] at hx,fun x hx=>by
 rw [Qgy,Qt,Yr,Qo6 _ (by decide)] at hx
 simp at hx;rw [hx];decide⟩
theorem Qsa {t:Tn} (ht:TnOK t) (hf:Jn t=0) {l:List Int} (h:Qjf t l=true):RawOK (Qj7 t l):=by
 simp only [Qjf,decide_eq_true_eq] at h;obtain ⟨h1,h2,h3⟩:=Qkg h
 have hel:(t.el.length:Int)=Qx t.shape:=by
  rw [Jn,if_neg (by omega)] at hf
  split at hf
  ·cases hf
  ·rename_i h;rw [Xf,if_pos h3] at h;omega
 exact ht.get (by omega)
theorem Xqr {t:Tn} (ht:TnOK t) (hf:Jn t=0) (s:List Int) (g:List Int→List Int) (N:Nat):∀ x∈mvL t s g N,RawOK x:=fun x hx=>by
 simp only [mvL,Qfk,List.mem_map,List.mem_range] at hx;obtain ⟨i,_,rfl⟩:=hx;split
 ·rename_i h;first | exact Qsa ht hf h | (rw [if_pos h];exact Qsa ht hf h)
 ·exact Xfp
theorem Qic (t:Tn) (ht:TnOK t) (hf:Jn t=0) (s:List Int) (hs:s.length≤1000000000) (hm:Xa s=0) (f:Nat) (caps:List V) (hc:Qh caps=true) (g:List Int→List Int)
  (hp:∀ x:List Int,x.length=s.length→(∀ j,j<s.length→0≤x.getD j 0∧x.getD j 0<s.getD j 0)→(g x).length≤1000000000∧Val C f (.sl x.length (ints x)::caps) (.sl (g x).length (ints (g x)))) :
  Val C 91 [tnV t,.sl s.length (ints s),.fn (.func f) [] caps] (.tup [tnV (mvT t s g),.int .i64 0]):=by
 obtain ⟨m1,m2,m3⟩:=Qu hm
 have hpos:=Yp m2
 obtain ⟨N,hN⟩:∃ N:Nat,(N:Int)=Qx s:=⟨(Qx s).toNat,by omega⟩
 have hNN:(Qx s).toNat=N:=by omega
 have hok:TnOK ⟨s,mvL t s g N⟩:=⟨hs,by simp only [mvL,Qf8];omega,Xqr ht hf s g N⟩
 have hfit:Jn ⟨s,mvL t s g N⟩=0:=by
  have hm':¬ Xa s≠0:=by omega
  rw [Jn,if_neg hm',if_neg]
  show ¬ _≠Xf s
  rw [Xf,if_pos hm];simp only [mvL,Qf8];omega
 have hmk:mkT ⟨s,mvL t s g N⟩=(mvT t s g,0):=by rw [mkT,if_neg (by omega),mvT,hNN]
 have hmake:=Qla ⟨s,mvL t s g N⟩ hok
 rw [hmk] at hmake
 have hlN:(mvL t s g N).length=N:=Qf8 _ _ _ _
 simp only [hlN] at hmake
 have hgat:=Qsz s Qgy 138 [.rp [.sl t.shape.length (ints t.shape),.sl t.el.length (Qv t.el)] 0,.rp [.fn (.func f) [] caps] 0] (fun i=>if Qjf t (g (Jk s (i:Nat))) then Qj7 t (g (Jk s (i:Nat))) else r0) (fun i=>Qjf t (g (Jk s (i:Nat)))) N hs hm hN (by simp [Qh,clo,Qa,Qi,hc]) (fun i hi =>
  Xh0 t ht hf f caps hc (Jk s (i:Nat)) (g (Jk s (i:Nat))) (by rw [Qb9];omega) (hp _ (Qb9 _ _) (Qku m2 _)).1 (hp _ (Qb9 _ _) (Qku m2 _)).2)
 refine zK Qf Tryz.func91 w91 Tryz.ntmps91 Tryz.results91 ?_;refine zG ?_;refine (Qig 0 (by decide) (by decide)).call ⟨.self rfl,trivial⟩ (Qk1 _) ?_
 refine zG ?_;refine Fc.sealed (r:=0) rfl (by simp [Qh,clo,Qa,Qi]) ?_
 refine Fc.sealed (r:=1) rfl (by simp [Qh,clo,hc]) ?_
 have e:szL 1 [.fn (.func f) [] caps] (szL 0 [.sl t.shape.length (ints t.shape),.sl t.el.length (Qv t.el)] [.sl s.length (ints s),.agg [.bool (Yr 0).neg,.sl (dg B32 (Yr 0).num).length (Xh .u32 (dg B32 (Yr 0).num)),.sl (dg B32 (Yr 0).den).length (Xh .u32 (dg B32 (Yr 0).den))],.fn (.func 138) [] [.ptr 0 0,.ptr 1 0]]) =
   [.sl s.length (ints s),Zx Qgy,.fn (.func 138) [] [.rp [.sl t.shape.length (ints t.shape),.sl t.el.length (Qv t.el)] 0,.rp [.fn (.func f) [] caps] 0]]:=by
  simp only [szL,sz,Yk _ _ _ (Qa _),Yk _ _ _ (Qi _),Yk _ _ _ hc,Yk _ _ _ (Qm _ _),if_true,Nat.one_ne_zero,if_false]
  rfl
 rw [e];refine Fc.pure hgat (by simp [Qh,clo,Qa,Qi,hc,Qp]) (fun g=>by simp [ren,Yt _ _ (Qi _)]) ?_
 rw [show Qfk N Qgy (fun i=>if Qjf t (g (Jk s (i:Nat))) then Qj7 t (g (Jk s (i:Nat))) else r0) (fun i=>Qjf t (g (Jk s (i:Nat))))=mvL t s g N from rfl]
 refine zG ?_;refine hmake.keptF ⟨.self (by simp [clo,Qa]),.self (by simp [clo,Qi]),trivial⟩ fun v X hv=>?_
 obtain ⟨w,e,rfl,hw,he⟩:=hv.tup2;obtain ⟨a,b,rfl,ha,hb⟩:=hw.agg2;obtain ⟨ka,ca,sa⟩:=Yv ha.gd;obtain ⟨kb,cb,sb⟩:=Yv hb.gd;rw [he.gd.int_inv];refine zH6 ka ca sa kb cb sb ?_;exact Gd.ret (Gd.tupL ⟨Gd.aggL ⟨(ha.set (q:=2) (by simp) _).gd,(hb.set (q:=2) (by simp) _).gd,trivial⟩,Qiv _ _,trivial⟩)
theorem Xpa (r off:Nat) (i:Int) (H:Qb) (K:V→Prop):Qop C.ty (C.ty 131) (.ptr r off) (.int .i64 i) H K=((Qc H r).isSome=true∧0≤i∧i<2∧K (.ptr r (off+i.toNat))):=by
 simp only [Qop,Ys,show (C.ty 131).sl=none from rfl,t131arr,t3ok,t3size,true_and,Nat.mul_one]
 rfl
attribute [go_sem] Xpa
theorem Xs6:Tryz.f142.body.all yOK=true:=by kernel_rfl
def Qec (l:List Int):V:=.fn (.func 142) [] [.rp [.sl l.length (ints l)] 0]
theorem Qeb (l:List Int):Pu C 101 [.sl l.length (ints l)] (Qec l):=by
 refine Fc.keep (Fc.sealR ?_);refine zL Qf Tryz.func101 w101 Tryz.ntmps101 Tryz.results101 ?_;refine zG ?_;refine ⟨0,_,1,[.sl l.length (ints l)],rfl,by simp [Qh,clo,Qa],[],by simp,by simp, ?_⟩
 simp [sz,szL,ren,Qk,Qec,Qck,Ql]
def Qfx (l:List Int):List (List V):=(List.range (l.length/2)).map fun k=>[.int .i64 (k:Nat),.agg [.int .i64 (l.getD (2*k) 0),.int .i64 (l.getD (2*k+1) 0)]]
theorem Qdz {l:List Int} {k:Nat} (h:k<l.length/2):(Qfx l)[k]?=some [.int .i64 (k:Nat),.agg [.int .i64 (l.getD (2*k) 0),.int .i64 (l.getD (2*k+1) 0)]]:=by simp [Qfx,h]
theorem Jx (l:List Int):(Qfx l).length=l.length/2:=by simp [Qfx]
theorem Qfw (s:List Int) (hs:s.length≤1000000000):Gen C 142 [.rp [.sl s.length (ints s)] 0] (Qfx s):=by
 refine Gen.of3 Qf Tryz.func142 w142 Xs6 rfl Tryz.ntmps142 Tryz.results142 (zLe rfl) (fun bs hb=>by
  simp only [Qfx,List.mem_map,List.mem_range] at hb;obtain ⟨i,_,rfl⟩:=hb;simp [Qh,clo]) ?_
 intro G l J hW;refine zG ?_;refine Jl (fun n ts H=>∃ (i:Nat),(i≤s.length/2)∧(n=s.length/2 - i)∧(H.length=i)∧ts.length=26∧nth ts 0=.fn (.yield l) [] []∧nth ts 1=.rp [.sl s.length (ints s)] 0∧nth ts 3=.int .i64 ((2*i:Nat):Int)) ?_ (n:=s.length/2) ?_
 ·skip
  rintro n ts H ⟨i,hi,hn,hH,hL,hs0,hs1,hs3⟩;refine Qdw [(0,.fn (.yield l) [] []),(1,.rp [.sl s.length (ints s)] 0),(3,.int .i64 ((2*i:Nat):Int))] hL (by simp only [zFm,hs0,hs1,hs3,true_and];exact zNm) ?_
  clear hL hs0 hs1 hs3 ts
  refine hW _ _ _ _ ?_;by_cases hcase:i<s.length/2
  ·have e1:(((2*i:Nat):Int)/2)=(i:Int):=by omega
   have e2:(((2*i:Nat):Int)+1)=((2*i+1:Nat):Int):=by omega
   refine zH2 e1 e2 ?_;rw [hH,Jx];refine ⟨Qdz hcase,⟨s.length/2 - (i+1),by omega,i+1,by omega,rfl,rfl,by congr 1⟩,.inr trivial,.inr ?_⟩
   rw [List.length_replicate];omega
  ·skip
   refine zG ?_;rw [Jx];exact ⟨.inl trivial,.inl (by omega)⟩
 ·exact ⟨0,by omega,by omega,rfl,rfl,rfl,rfl,rfl⟩
theorem Qed {l:List Int} {n:Nat} (hn:n=2):∀ bs∈Qfx l,bs.length=n:=fun bs hb=>by
 subst hn;simp only [Qfx,List.mem_map,List.mem_range] at hb;obtain ⟨i,_,rfl⟩:=hb
 rfl
def Qww (l x:List Int):List Int:=(List.range x.length).map fun i=>x.getD i 0+l.getD (2*i) 0
def Quc (l x:List Int):List Int:=(List.range x.length).map fun i=>x.getD i 0 - l.getD (2*i) 0
def Kb (f:Nat→Int) (x:List Int) (k:Nat):List Int:=(List.range x.length).map fun i=>if i<k then f i else x.getD i 0
theorem Jy (f:Nat→Int) (x:List Int) (k:Nat):(Kb f x k).length=x.length:=by simp [Kb]
theorem Qgu (f:Nat→Int) (x:List Int):Kb f x 0=x:=by
 refine List.ext_getElem (by simp [Kb]) fun j h1 h2=>?_
 simp [Kb,List.getD,h2]
theorem Qo2 (f:Nat→Int) (x:List Int):Kb f x x.length=(List.range x.length).map f:=by
 refine List.ext_getElem (by simp [Kb]) fun j h1 h2=>?_
 simp [Kb] at h1 ⊢
 intro;omega
theorem Qil {f:Nat→Int} {x:List Int} {k:Nat} (h:k<x.length):(Kb f x k).getD k 0=x.getD k 0:=by simp [Kb,List.getD,h]
theorem Qgv {f:Nat→Int} {x:List Int} {k:Nat} (h:k<x.length):(Kb f x k).set k (f k)=Kb f x (k+1):=by
 refine List.ext_getElem (by simp [Kb]) fun j h1 h2=>?_
 rw [List.getElem_set];simp [Kb] at h1 h2 ⊢;split
 ·rename_i e;subst e;rw [if_pos (by omega)]
 ·rename_i e;by_cases hj:j<k
  ·rw [if_pos hj,if_pos (by omega)]
  ·rw [if_neg hj,if_neg (by omega)]
theorem Qxk (l x:List Int) (hx:x.length≤1000) (hl:l.length=2*x.length) (hb:∀ j,j<x.length→0≤x.getD j 0∧x.getD j 0≤1024) (hc:∀ j,j<x.length→0≤l.getD (2*j) 0∧l.getD (2*j) 0≤1024):Val C 102 [.sl x.length (ints x),.rp [.sl l.length (ints l)] 0] (.sl (Qww l x).length (ints (Qww l x))):=by
 have hv:Qec l=.fn (.func 142) [] [.rp [.sl l.length (ints l)] 0]:=rfl
 have hfin:Kb (fun i=>x.getD i 0+l.getD (2*i) 0) x x.length=Qww l x:=Qo2 _ _
 have hll:(Qww l x).length=x.length:=by simp [Qww]
 refine Val.ofRet (e:=3) (s:=1) ?_ (Qa _) (Xp _);refine zK Qf Tryz.func102 w102 Tryz.ntmps102 Tryz.results102 ?_;refine zG ?_;refine Fc.ownL (Qaz x (by omega)) ⟨.self (by simp [clo,Qa]),trivial⟩ (fun g=>Ql g _) (Xp _) fun v X hv0=>?_
 have hkn:kn v=true∧cellsOf v=[v]∧Yq v=true:=by rcases hv0 with ⟨rfl,_⟩ | ⟨r,rfl,_⟩<;>exact ⟨rfl,rfl,rfl⟩
 obtain ⟨k1,c1,s1⟩:=hkn
 have hne:∀ r off m,v=.ref r off m→r<X.length:=fun r off m e=>by
  rcases hv0 with ⟨rfl,_⟩ | ⟨q,rfl,hq,_⟩
  ·cases e
  ·injection e with e;subst e;have:=Xg hq;simpa using this
 refine zH3 k1 c1 s1 ?_;refine Fc.pure (Qeb l) (by simp [Qh,clo,Qa]) (fun g=>by simp [Qec,ren,Qk,Ql]) ?_
 refine zH1 hv ?_;refine Kt (g:=142) (lb:=[.rp [.sl l.length (ints l)] 0]) (xs:=Qfx l) (by simp -implicitDefEqProofs (maxSteps:=9^7) (disch:=first | omega | (simp only [Je];omega)) only [go_sem]) (by simp [Qh,clo,Qa]) (Qfw l (by omega)) (Qed rfl) (fun k H=>Qc H X.length=some ⟨23,1,[v]⟩∧Bv.Own 3 1 H v x.length (ints (Kb (fun i=>x.getD i 0+l.getD (2*i) 0) x k))) ⟨by simp [Qc], ?_⟩ ?_ ?_
 ·rw [Qgu];exact hv0.keep _
 ·rintro k us H hk ⟨hb1,hw⟩ lv
  have hkl:k<x.length:=by
   have:=(List.getElem?_eq_some_iff.1 hk).1
   rw [Jx] at this;omega
  rw [Qdz (by omega)] at hk
  injection hk with hk
  subst hk;obtain ⟨-,h0, -⟩ | ⟨r,rfl,hr, -⟩:=hw
  ·omega
  have hrX:=hne r 0 x.length rfl
  have hHX:=Xg hb1
  have hap:∀ Y,Qc (H++Y) X.length=some ⟨23,1,[.ref r 0 x.length]⟩:=fun Y=>Qd hb1 Y
  have har:∀ Y,Qc (H++Y) r=some ⟨3,1,ints (Kb (fun i=>x.getD i 0+l.getD (2*i) 0) x k)⟩:=fun Y=>Qd hr Y
  have hdg:=Qil (f:=fun i=>x.getD i 0+l.getD (2*i) 0) hkl
  have hdl:=Jy (fun i=>x.getD i 0+l.getD (2*i) 0) x k
  have hds:=Qgv (f:=fun i=>x.getD i 0+l.getD (2*i) 0) hkl
  have hb':=hb k hkl
  have hc':=hc k hkl
  (refine Qz Qf ?_;simp -implicitDefEqProofs (maxSteps:=9^7) (disch:=first | omega | (simp only [Je];omega)) only [go_sem,Qfu])
  (refine Qz Qf ?_;simp -implicitDefEqProofs (maxSteps:=9^7) (disch:=first | omega | (simp only [Je];omega)) only [go_sem,hap,har])
  (apply Zo;repeat' ((with_reducible first|apply Zk|apply zBr<;>intro h)<;>try simp -implicitDefEqProofs (maxSteps:=9^7) (disch:=first|exact zDs|fail) only [go_sem,hap,har,hdg,Qao,hds,Jq]))
  refine ⟨?_,.inr ⟨r,rfl,Qg (har _),by rw [Yj,Jy];omega⟩⟩
  rw [Qe _ (by omega)];exact hap _
 ·rintro H ⟨hb1,hw⟩;rw [Jx,show l.length/2=x.length by omega,hfin] at hw
  refine zH1 hb1 ?_;rw [hll];exact Own.ret hw (fun g=>Ql g _) fun v H h=>h
theorem Quw (l x:List Int) (hx:x.length≤1000) (hl:l.length=2*x.length) (hb:∀ j,j<x.length→0≤x.getD j 0∧x.getD j 0≤1024) (hc:∀ j,j<x.length→0≤l.getD (2*j) 0∧l.getD (2*j) 0≤1024):Val C 104 [.sl x.length (ints x),.rp [.sl l.length (ints l)] 0] (.sl (Quc l x).length (ints (Quc l x))):=by
 have hv:Qec l=.fn (.func 142) [] [.rp [.sl l.length (ints l)] 0]:=rfl
 have hfin:Kb (fun i=>x.getD i 0 - l.getD (2*i) 0) x x.length=Quc l x:=Qo2 _ _
 have hll:(Quc l x).length=x.length:=by simp [Quc]
 refine Val.ofRet (e:=3) (s:=1) ?_ (Qa _) (Xp _);refine zK Qf Tryz.func104 w104 Tryz.ntmps104 Tryz.results104 ?_;refine zG ?_;refine Fc.ownL (Qaz x (by omega)) ⟨.self (by simp [clo,Qa]),trivial⟩ (fun g=>Ql g _) (Xp _) fun v X hv0=>?_
 have hkn:kn v=true∧cellsOf v=[v]∧Yq v=true:=by rcases hv0 with ⟨rfl,_⟩ | ⟨r,rfl,_⟩<;>exact ⟨rfl,rfl,rfl⟩
 obtain ⟨k1,c1,s1⟩:=hkn
 have hne:∀ r off m,v=.ref r off m→r<X.length:=fun r off m e=>by
  rcases hv0 with ⟨rfl,_⟩ | ⟨q,rfl,hq,_⟩
  ·cases e
  ·injection e with e;subst e;have:=Xg hq;simpa using this
 refine zH3 k1 c1 s1 ?_;refine Fc.pure (Qeb l) (by simp [Qh,clo,Qa]) (fun g=>by simp [Qec,ren,Qk,Ql]) ?_
 refine zH1 hv ?_;refine Kt (g:=142) (lb:=[.rp [.sl l.length (ints l)] 0]) (xs:=Qfx l) (by simp -implicitDefEqProofs (maxSteps:=9^7) (disch:=first | omega | (simp only [Je];omega)) only [go_sem]) (by simp [Qh,clo,Qa]) (Qfw l (by omega)) (Qed rfl) (fun k H=>Qc H X.length=some ⟨23,1,[v]⟩∧Bv.Own 3 1 H v x.length (ints (Kb (fun i=>x.getD i 0 - l.getD (2*i) 0) x k))) ⟨by simp [Qc], ?_⟩ ?_ ?_
 ·rw [Qgu];exact hv0.keep _
 ·rintro k us H hk ⟨hb1,hw⟩ lv
  have hkl:k<x.length:=by
   have:=(List.getElem?_eq_some_iff.1 hk).1
   rw [Jx] at this;omega
  rw [Qdz (by omega)] at hk
  injection hk with hk
  subst hk;obtain ⟨-,h0, -⟩ | ⟨r,rfl,hr, -⟩:=hw
  ·omega
  have hrX:=hne r 0 x.length rfl
  have hHX:=Xg hb1
  have hap:∀ Y,Qc (H++Y) X.length=some ⟨23,1,[.ref r 0 x.length]⟩:=fun Y=>Qd hb1 Y
  have har:∀ Y,Qc (H++Y) r=some ⟨3,1,ints (Kb (fun i=>x.getD i 0 - l.getD (2*i) 0) x k)⟩:=fun Y=>Qd hr Y
  have hdg:=Qil (f:=fun i=>x.getD i 0 - l.getD (2*i) 0) hkl
  have hdl:=Jy (fun i=>x.getD i 0 - l.getD (2*i) 0) x k
  have hds:=Qgv (f:=fun i=>x.getD i 0 - l.getD (2*i) 0) hkl
  have hb':=hb k hkl
  have hc':=hc k hkl
  (refine Qz Qf ?_;simp -implicitDefEqProofs (maxSteps:=9^7) (disch:=first | omega | (simp only [Je];omega)) only [go_sem,Qfu])
  (refine Qz Qf ?_;simp -implicitDefEqProofs (maxSteps:=9^7) (disch:=first | omega | (simp only [Je];omega)) only [go_sem,hap,har])
  (apply Zo;repeat' ((with_reducible first|apply Zk|apply zBr<;>intro h)<;>try simp -implicitDefEqProofs (maxSteps:=9^7) (disch:=first|exact zDs|fail) only [go_sem,hap,har,hdg,Qao,hds,Jq]))
  refine ⟨?_,.inr ⟨r,rfl,Qg (har _),by rw [Yj,Jy];omega⟩⟩
  rw [Qe _ (by omega)];exact hap _
 ·rintro H ⟨hb1,hw⟩;rw [Jx,show l.length/2=x.length by omega,hfin] at hw
  refine zH1 hb1 ?_;rw [hll];exact Own.ret hw (fun g=>Ql g _) fun v H h=>h
end Go.Proofs.YtipmmjebfpbkmaaGreat
end
section
namespace Go.Proofs.YtipmmjebfpbkmaaGreat
open Go.Bv
def Qjv (f:Nat→Int) (k:Nat):List Int:=(List.range k).map f
theorem Qbe (f:Nat→Int) (k:Nat):(Qjv f k).length=k:=by simp [Qjv]
theorem Qlc (f:Nat→Int) (k:Nat):Qjv f (k+1)=Qjv f k++[f k]:=by simp [Qjv,List.range_succ]
theorem Qg9 {f:Nat→Int} {k j:Nat} (h:j<k):(Qjv f k).getD j 0=f j:=by simp [Qjv,List.getD,h]
theorem Qgk:∀ {a b:List Int},a.length=b.length→(∀ j,j<a.length→1≤a.getD j 0∧a.getD j 0≤b.getD j 0)→Qx a≤Qx b
 | [],[],_,_=>by simp [Qx]
 | x::a,y::b,hl,h=>by
  have h0:=h 0 (by simp)
  have hr:=Qgk (a:=a) (b:=b) (by simpa using hl) fun j hj=>by simpa using h (j+1) (by simpa using hj)
  have hp:1≤Qx a:=Yp (Zq.2 fun j hj=>by have:=h (j+1) (by simpa using hj);simpa using this.1)
  simp only [List.getD_cons_zero] at h0
  show x*Qx a≤y*Qx b
  have h1:=Int.mul_le_mul_of_nonneg_right h0.2 (show 0≤Qx a by omega)
  have h2:=Int.mul_le_mul_of_nonneg_left hr (show 0≤y by omega)
  omega
theorem Qsm {s:List Int} (h1:s.length≤4) (h2:∀ j,j<s.length→1≤s.getD j 0) (h3:Qx s≤1024):Xa s=0:=by
 have:s.all (fun d=>decide (1≤d))=true:=by simpa using Zq.2 h2
 rw [Xa,if_neg (by omega),if_pos this,if_neg (by omega)]
theorem Zs {t:Tn} (h:Xv t=0):Jn t=0∧Xa t.shape=0∧(t.el.length:Int)=Qx t.shape:=by
 have hf:Jn t=0:=Classical.byContradiction fun hn=>by rw [Xv,if_pos hn] at h;exact hn h
 have hm:Xa t.shape=0:=Classical.byContradiction fun hn=>by rw [Jn,if_pos hn] at hf;exact hn hf
 refine ⟨hf,hm, ?_⟩;rw [Jn,if_neg (by omega)] at hf
 split at hf
 ·cases hf
 ·rename_i h;rw [Xf,if_pos hm] at h;omega
theorem Qus {y:Ty} {e e' s' k:Nat} {v:V} {H:Qb} {xs:List Int} {x:Int} {r1:Option Row} {K:V→Qb→Prop} (h:Bv.Own e 1 H v k (ints xs)) (hk:k=xs.length) (hy:y.size=1) (hb:0<y.bytes∧y.bytes≤8) (hl:xs.length+1≤17592186044416)
  (hK:∀ v' H',Bv.Own e 1 H' v' (k+1) (ints (xs++[x]))→Fr v (H++[r1]) H'→kn v'=true∧cellsOf v'=[v']∧Yq v'=true→K v' H'):Qbb y e v (.ref (H.length+1) 0 1) (H++[r1,some ⟨e',s',[.int .i64 x]⟩]) K:=by
 subst hk;rw [show H++[r1,some (⟨e',s',[.int .i64 x]⟩:Row)]=(H++[r1])++[some ⟨e',s',[.int .i64 x]⟩] by simp,show H.length+1=(H++[r1]).length by simp]
 refine Qcd (h.keep [r1]) hy hb hl fun v' H' hu' hF=>hK v' H' (by simpa using hu') hF ?_
 rcases hu' with ⟨rfl,_⟩ | ⟨r,rfl,_⟩<;>exact ⟨rfl,rfl,rfl⟩
def Qjk (l:List Int) (n:Nat):Bool:=(List.range n).all fun k=>decide (0≤l.getD (2*k) 0∧l.getD (2*k) 0<l.getD (2*k+1) 0)
def Qjl (l s:List Int):Bool:=(List.range s.length).all fun k=>decide (l.getD (2*k+1) 0≤s.getD k 0)
theorem Qgw {l:List Int} {n:Nat}:Qjk l n=true↔∀ k,k<n→0≤l.getD (2*k) 0∧l.getD (2*k) 0<l.getD (2*k+1) 0:=by simp [Qjk]
theorem Qes {l s:List Int}:Qjl l s=true↔∀ k,k<s.length→l.getD (2*k+1) 0≤s.getD k 0:=by simp [Qjl]
def Qgi (t:Tn) (l:List Int):Int:=if Xv t≠0 then Xv t else if l.length≠2*t.shape.length then 11 else if Qjk l t.shape.length=false then 11 else if Qjl l t.shape=false then 13 else 0
def Qbk (l:List Int) (n:Nat):List Int:=Qjv (fun k=>l.getD (2*k+1) 0 - l.getD (2*k) 0) n
def Kv (p:Tn) (e:Int):Tn:=if e≠0 then Qoy else p
def Qxi (t:Tn) (l:List Int):Tn:=Kv (mvT t (Qbk l t.shape.length) (Qww l)) (Qgi t l)
theorem Qs6 {p:Tn} {e:Int} (h:e≠0):Kv p e=Qoy:=if_pos h
theorem Ye {p:Tn} {e:Int} (h:e=0):Kv p e=p:=if_neg (by omega)
theorem Qbw {H:Qb} {p:Tn} {e k:Int} (h:e=k) (hk:k≠0):Gd H (.tup [.agg [.nil,.nil],.int .i64 k]) (.tup [tnV (Kv p e),.int .i64 e]):=by
 rw [Qs6 (by omega),h]
 exact Gd.tupL ⟨Qvx,Qiv _ _,trivial⟩
theorem Xcd (t:Tn) (ht:TnOK t) (l:List Int) (hl:l.length≤1000000000):Val C 43 [tnV t,.sl l.length (ints l)] (.tup [tnV (Qxi t l),.int .i64 (Qgi t l)]):=by
 have hv:Qec l=.fn (.func 142) [] [.rp [.sl l.length (ints l)] 0]:=rfl
 have hs:=ht.s
 unfold Qxi;refine zK Qf Tryz.func43 w43 Tryz.ntmps43 Tryz.results43 ?_;refine zG ?_;refine Fc.pure (Zr t ht) (by simp [Qh,clo,Qa,Qi]) (fun g=>rfl) ?_
 by_cases hm:Xv t=0
 case neg =>
  refine zG ?_;exact Gd.ret (Qbw (by rw [Qgi,if_pos hm]) hm)
 obtain ⟨hf,hmp,hel⟩:=Zs hm;obtain ⟨m1,m2,m3⟩:=Qu hmp;rw [hm];by_cases hll:l.length=2*t.shape.length
 case neg =>
  refine zG ?_;exact Gd.ret (Qbw (by rw [Qgi,if_neg (by omega),if_pos hll]) (by decide))
 refine zG ?_;refine Fc.pure (Qeb l) (by simp [Qh,clo,Qa]) (fun g=>by simp [Qec,ren,Qk,Ql]) ?_
 refine zH1 hv ?_;refine Kt (g:=142) (lb:=[.rp [.sl l.length (ints l)] 0]) (xs:=Qfx l) (by simp -implicitDefEqProofs (maxSteps:=9^7) (disch:=first | omega | (simp only [Je];omega)) only [go_sem]) (by simp [Qh,clo,Qa]) (Qfw l (by omega)) (Qed rfl) (fun k H=>(∀ j,j<k→0≤l.getD (2*j) 0∧l.getD (2*j) 0<l.getD (2*j+1) 0)∧Qc H 0=some ⟨34,2,[.sl t.shape.length (ints t.shape),.sl t.el.length (Qv t.el)]⟩∧Qc H 1=some ⟨23,1,[.sl l.length (ints l)]⟩∧Qc H 2=some ⟨34,2,[.nil,.nil]⟩∧Qc H 3=some ⟨36,1,[.int .i64 0]⟩) ⟨fun j hj=>by omega,rfl,rfl,rfl,rfl⟩ ?_ ?_
 ·rintro k us H hk ⟨hI,h0,h1,h2,h3⟩ lv
  have hkl:k<t.shape.length:=by
   have:=(List.getElem?_eq_some_iff.1 hk).1
   rw [Jx] at this;omega
  rw [Qdz (by omega)] at hk
  injection hk with hk
  subst hk
  have a0:∀ Y,Qc (H++Y) 0=some ⟨34,2,[.sl t.shape.length (ints t.shape),.sl t.el.length (Qv t.el)]⟩:=fun Y=>Qd h0 Y
  have a1:∀ Y,Qc (H++Y) 1=some ⟨23,1,[.sl l.length (ints l)]⟩:=fun Y=>Qd h1 Y
  have a2:∀ Y,Qc (H++Y) 2=some ⟨34,2,[.nil,.nil]⟩:=fun Y=>Qd h2 Y
  have a3:∀ Y,Qc (H++Y) 3=some ⟨36,1,[.int .i64 0]⟩:=fun Y=>Qd h3 Y
  have b3:∀ Y z,Qc ((H++Y).set 2 z) 3=some ⟨36,1,[.int .i64 0]⟩:=fun Y z=>by rw [Qe _ (by decide)];exact a3 Y
  have b2:∀ Y row z,Qc (((H++Y).set 2 (some row)).set 3 z) 2=some row:=fun Y row z=>by rw [Qe _ (by decide)];exact Qg (a2 Y)
  have b33:∀ Y row z,Qc (((H++Y).set 2 z).set 3 (some row)) 3=some row:=fun Y row z=>Qg (b3 Y z)
  (refine Qz Qf ?_;simp -implicitDefEqProofs (maxSteps:=9^7) (disch:=first | omega | (simp only [Je];omega)) only [go_sem,Qfu])
  by_cases hc:0≤l.getD (2*k) 0∧l.getD (2*k) 0<l.getD (2*k+1) 0
  ·skip
   (refine Qz Qf ?_;simp -implicitDefEqProofs (maxSteps:=9^7) (disch:=first | omega | (simp only [Je];omega)) only [go_sem,a0])
   (apply Zo;repeat' ((with_reducible first|apply Zk|apply zBr<;>intro h)<;>try simp -implicitDefEqProofs (maxSteps:=9^7) (disch:=first|exact zDs|fail) only [go_sem,a0,a1,a2,a3,b3,b2,b33,Jq]))
   exact Qbc hI hc
  ·have hno:Qjk l t.shape.length=false:=by
    rw [Bool.eq_false_iff];exact fun hh=>hc (Qgw.1 hh k hkl)
   (refine Qz Qf ?_;simp -implicitDefEqProofs (maxSteps:=9^7) (disch:=first | omega | (simp only [Je];omega)) only [go_sem,a0])
   (apply Zo;repeat' ((with_reducible first|apply Zk|apply zBr<;>intro h)<;>try simp -implicitDefEqProofs (maxSteps:=9^7) (disch:=first|exact zDs|fail) only [go_sem,a0,a1,a2,a3,b3,b2,b33,Jq]))
   all_goals exact Gd.ret (Qbw (by rw [Qgi,if_neg (by omega),if_neg (by omega),if_pos hno]) (by decide))
 ·rintro H ⟨hI,h0,h1,h2,h3⟩;rw [Jx,show l.length/2=t.shape.length by omega] at hI
  have hyes:Qjk l t.shape.length=true:=Qgw.2 hI
  have a0:∀ Y,Qc (H++Y) 0=some ⟨34,2,[.sl t.shape.length (ints t.shape),.sl t.el.length (Qv t.el)]⟩:=fun Y=>Qd h0 Y
  have a1:∀ Y,Qc (H++Y) 1=some ⟨23,1,[.sl l.length (ints l)]⟩:=fun Y=>Qd h1 Y
  have a2:∀ Y,Qc (H++Y) 2=some ⟨34,2,[.nil,.nil]⟩:=fun Y=>Qd h2 Y
  have a3:∀ Y,Qc (H++Y) 3=some ⟨36,1,[.int .i64 0]⟩:=fun Y=>Qd h3 Y
  have hP:=Xg h3
  refine zH2 a0 a1 ?_;refine Fc.pure (Qeb l) (by simp [Qh,clo,Qa]) (fun g=>by simp [Qec,ren,Qk,Ql]) ?_
  refine zH1 hv ?_;obtain ⟨P,hPe⟩:∃ P,P=H.length:=⟨_,rfl⟩;rw [← hPe];rw [← hPe] at hP;refine Kt (g:=142) (lb:=[.rp [.sl l.length (ints l)] 0]) (xs:=Qfx l) (by simp -implicitDefEqProofs (maxSteps:=9^7) (disch:=first | omega | (simp only [Je];omega)) only [go_sem]) (by simp [Qh,clo,Qa]) (Qfw l (by omega)) (Qed rfl) (fun k H=>∃ u,(∀ j,j<k→l.getD (2*j+1) 0≤t.shape.getD j 0)∧Qc H 0=some ⟨34,2,[.sl t.shape.length (ints t.shape),.sl t.el.length (Qv t.el)]⟩∧Qc H 1=some ⟨23,1,[.sl l.length (ints l)]⟩∧Qc H 2=some ⟨34,2,[.nil,.nil]⟩∧Qc H 3=some ⟨36,1,[.int .i64 0]⟩∧Qc H P=some ⟨31,1,[u]⟩∧Bv.Own 3 1 H u k (ints (Qbk l k))) ⟨.nil,fun j hj=>by omega,a0 _,a1 _,a2 _,a3 _,by rw [hPe];simp [Qc],Bv.Own.nil _ _ _⟩ ?_ ?_
  ·rintro k us H2 hk ⟨u,hJ,g0,g1,g2,g3,gP,hu⟩ lv
   have hkl:k<t.shape.length:=by
    have:=(List.getElem?_eq_some_iff.1 hk).1
    rw [Jx] at this;omega
   rw [Qdz (by omega)] at hk
   injection hk with hk
   subst hk
   have c0:∀ Y,Qc (H2++Y) 0=some ⟨34,2,[.sl t.shape.length (ints t.shape),.sl t.el.length (Qv t.el)]⟩:=fun Y=>Qd g0 Y
   have c1:∀ Y,Qc (H2++Y) 1=some ⟨23,1,[.sl l.length (ints l)]⟩:=fun Y=>Qd g1 Y
   have c2:∀ Y,Qc (H2++Y) 2=some ⟨34,2,[.nil,.nil]⟩:=fun Y=>Qd g2 Y
   have c3:∀ Y,Qc (H2++Y) 3=some ⟨36,1,[.int .i64 0]⟩:=fun Y=>Qd g3 Y
   have cP:∀ Y,Qc (H2++Y) P=some ⟨31,1,[u]⟩:=fun Y=>Qd gP Y
   have b3:∀ Y z,Qc ((H2++Y).set 2 z) 3=some ⟨36,1,[.int .i64 0]⟩:=fun Y z=>by rw [Qe _ (by decide)];exact c3 Y
   have b2:∀ Y row z,Qc (((H2++Y).set 2 (some row)).set 3 z) 2=some row:=fun Y row z=>by rw [Qe _ (by decide)];exact Qg (c2 Y)
   have b33:∀ Y row z,Qc (((H2++Y).set 2 z).set 3 (some row)) 3=some row:=fun Y row z=>Qg (b3 Y z)
   have hck:=hI k hkl
   have hsd:=Xq m2 hkl
   (refine Qz Qf ?_;simp -implicitDefEqProofs (maxSteps:=9^7) (disch:=first | omega | (simp only [Je];omega)) only [go_sem,Qfu])
   (refine Qz Qf ?_;simp -implicitDefEqProofs (maxSteps:=9^7) (disch:=first | omega | (simp only [Je];omega)) only [go_sem,c0])
   by_cases hc:l.getD (2*k+1) 0≤t.shape.getD k 0
   ·have hlv:=hu.lenw (C.ty 31)
    (apply Zo;repeat' ((with_reducible first|apply Zk|apply zBr<;>intro h)<;>try simp -implicitDefEqProofs (maxSteps:=9^7) (disch:=first|exact zDs|fail) only [go_sem,c0,cP,hlv,Jq]))
    refine Qus hu (by rw [Qbk,Qbe]) rfl ⟨by decide,by decide⟩ (by rw [Qbk,Qbe];omega) fun v' H' hu' hF hk'=>?_
    have d0:=Xz (hu.keep _) hF (c0 _) (by decide)
    have d1:=Xz (hu.keep _) hF (c1 _) (by decide)
    have d2:=Xz (hu.keep _) hF (c2 _) (by decide)
    have d3:=Xz (hu.keep _) hF (c3 _) (by decide)
    have dP:=Xz (hu.keep _) hF (cP _) (by decide)
    obtain ⟨k1,k2,k3⟩:=hk'
    (apply Zo;repeat' ((with_reducible first|apply Zk|apply zBr<;>intro h)<;>try simp -implicitDefEqProofs (maxSteps:=9^7) (disch:=first|exact zDs|fail) only [go_sem,dP,k1,k2,k3,Jq]))
    rw [Qbk,← Qlc (f:=fun k=>l.getD (2*k+1) 0 - l.getD (2*k) 0)] at hu'
    exact ⟨v',Qbc hJ hc,by rw [Qe _ (by omega)];exact d0,by rw [Qe _ (by omega)];exact d1,by rw [Qe _ (by omega)];exact d2,by rw [Qe _ (by omega)];exact d3,Qg dP,Ym hu' dP (by decide)⟩
   ·have hno:Qjl l t.shape=false:=by
     rw [Bool.eq_false_iff];exact fun hh=>hc (Qes.1 hh k hkl)
    (apply Zo;repeat' ((with_reducible first|apply Zk|apply zBr<;>intro h)<;>try simp -implicitDefEqProofs (maxSteps:=9^7) (disch:=first|exact zDs|fail) only [go_sem,c0,c1,c2,c3,b3,b2,b33,Jq]))
    exact Gd.ret (Qbw (by rw [Qgi,if_neg (by omega),if_neg (by omega),if_neg (by rw [hyes];decide),if_pos hno]) (by decide))
  ·rintro H2 ⟨u,hJ,g0,g1,g2,g3,gP,hu⟩;rw [Jx,show l.length/2=t.shape.length by omega] at hJ hu
   have hin:Qjl l t.shape=true:=Qes.2 hJ
   have hE:Qgi t l=0:=by rw [Qgi,if_neg (by omega),if_neg (by omega),if_neg (by rw [hyes];decide),if_neg (by rw [hin];decide)]
   have hSl:(Qbk l t.shape.length).length=t.shape.length:=Qbe _ _
   have hSg:∀ j,j<t.shape.length→(Qbk l t.shape.length).getD j 0=l.getD (2*j+1) 0 - l.getD (2*j) 0:=fun j hj=>Qg9 hj
   have hSm:Xa (Qbk l t.shape.length)=0:=by
    refine Qsm (by omega) (fun j hj=>?_) ?_
    ·have:=hI j (by omega)
     rw [hSg j (by omega)];omega
    ·have:=Qgk (a:=Qbk l t.shape.length) (b:=t.shape) hSl fun j hj=>by
      have h1:=hI j (by omega)
      have h2:=hJ j (by omega)
      rw [hSg j (by omega)];omega
     omega
   have hmv:=Qic t ht hf (Qbk l t.shape.length) (by omega) hSm 102 [.rp [.sl l.length (ints l)] 0] (by simp [Qh,clo,Qa]) (Qww l) (fun x hx hxb=>⟨by simp only [Qww,List.length_map,List.length_range];omega,by
    refine Qxk l x (by omega) (by omega) (fun j hj=>?_) (fun j hj=>?_)
    ·have h1:=hI j (by omega)
     have h2:=hJ j (by omega)
     have h3:=hxb j (by omega)
     have h4:=Xq m2 (i:=j) (by omega)
     rw [hSg j (by omega)] at h3;omega
    ·have h1:=hI j (by omega)
     have h2:=hJ j (by omega)
     have h4:=Xq m2 (i:=j) (by omega)
     omega⟩)
   rw [Ye hE,hE]
   have hku:kn u=true∧cellsOf u=[u]∧Yq u=true:=by rcases hu with ⟨rfl,_⟩ | ⟨r,rfl,_⟩<;>exact ⟨rfl,rfl,rfl⟩
   obtain ⟨k1,k2,k3⟩:=hku;refine zH5 g0 gP k1 k2 k3 ?_;refine Fc.sealed (r:=1) g1 (by simp [Qh,clo,Qa]) ?_
   have hu1:sz 1 [.sl l.length (ints l)] u=u:=by
    rcases hu with ⟨rfl,_⟩ | ⟨r,rfl,hr,_⟩
    ·rfl
    ·have:r≠1:=by rintro rfl;rw [g1] at hr;cases hr
     simp [sz,this]
   have he:szL 1 [.sl l.length (ints l)] [.agg [.sl t.shape.length (ints t.shape),.sl t.el.length (Qv t.el)],u,.fn (.func 102) [] [.ptr 1 0]]=[tnV t,u,.fn (.func 102) [] [.rp [.sl l.length (ints l)] 0]]:=by
    simp only [szL,sz,Yk _ _ _ (Qa _),Yk _ _ _ (Qi _),hu1,if_true]
    rfl
   rw [he];rw [hSl] at hmv
   have hlt:=Xg gP
   refine hmv.keptF ⟨.self (Qcc t),(Ym hu g1 (by decide)).bor' (Qa _),.self (by simp [Qh,clo,Qa]),trivial⟩ fun v X hv=>?_
   have f2:Qc (H2.set 1 none++X) 2=some ⟨34,2,[.nil,.nil]⟩:=Qd (by rw [Qe _ (by decide)];exact g2) X
   have f3:∀ z,Qc ((H2.set 1 none++X).set 2 z) 3=some ⟨36,1,[.int .i64 0]⟩:=fun z=>by rw [Qe _ (by decide)];exact Qd (by rw [Qe _ (by decide)];exact g3) X
   have f22:∀ row z,Qc (((H2.set 1 none++X).set 2 (some row)).set 3 z) 2=some row:=fun row z=>by rw [Qe _ (by decide)];exact Qg f2
   have f33:∀ z row,Qc (((H2.set 1 none++X).set 2 z).set 3 (some row)) 3=some row:=fun z row=>Qg (f3 z)
   obtain ⟨w,e,rfl,hw,he⟩:=hv.tup2;obtain ⟨a,b,rfl,ha,hb⟩:=hw.agg2;obtain ⟨ka,ca,sa⟩:=Yv ha.gd;obtain ⟨kb,cb,sb⟩:=Yv hb.gd;rw [he.gd.int_inv]
   (apply Zo;repeat' ((with_reducible first|apply Zk|apply zBr<;>intro h)<;>try simp -implicitDefEqProofs (maxSteps:=9^7) (disch:=first|exact zDs|fail) only [go_sem,f2,f3,f22,f33,ka,ca,sa,kb,cb,sb]))
   exact Gd.ret (Gd.tupL ⟨Gd.aggL ⟨((ha.set (q:=2) (by simp;omega) _).set (q:=3) (by simp;omega) _).gd,((hb.set (q:=2) (by simp;omega) _).set (q:=3) (by simp;omega) _).gd,trivial⟩,Qiv _ _,trivial⟩)
def Qva (l:List Int):Bool:=l.any fun a=>decide (a<0)
theorem Xhz (a:Int):Pu C 103 [.int .i64 a] (.bool (decide (a<0))):=by
 refine zK Qf Tryz.func103 w103 Tryz.ntmps103 Tryz.results103 ?_;refine zG ?_
 all_goals (refine Qo (by intro g;simp only [go_sem,ren,Qk]) ?_)
 all_goals (simp only [V.tup.injEq,List.cons.injEq,V.int.injEq,V.bool.injEq,true_and,and_true];(try rw [Bool.eq_iff_iff]);(try simp only [decide_eq_true_eq,decide_eq_false_iff_not,Decidable.not_not,true_and,and_true,Bool.not_eq_true,Bool.not_eq_eq_eq_not,Bool.not_true,Bool.and_eq_true,Bool.or_eq_true,beq_iff_eq,bne_iff_ne,ne_eq,Bool.false_eq_true,false_iff,true_iff,iff_false,iff_true]);(try omega))
theorem Qib {l:List Int}:Qva l=false↔∀ j,j<l.length→¬ l.getD j 0<0:=by
 rw [Qva,List.any_eq_false];simp only [decide_eq_true_eq];exact Zq (xs:=l) (p:=fun x=>¬ x<0)
theorem Qp8 (l:List Int) (hl:l.length≤17592186044416):Fc C 111 [.sl l.length (ints l),.fn (.func 103) [] []] [] (fun v H=>(∃ i:Int,v=.int .i64 i∧Qva l=decide (0≤i))∧H=[]):=by
 refine zK Qf Tryz.func111 w111 Tryz.ntmps111 Tryz.results111 ?_;refine zG ?_;refine Qj (fun n ts H=>∃ (i:Nat),(i≤l.length)∧(∀ j,j<i→¬ l.getD j 0<0)∧(n=l.length - i)∧(H=[])∧ts.length=19∧nth ts 0=.sl l.length (ints l)∧nth ts 1=.fn (.func 103) [] []∧nth ts 7=.int .i64 l.length∧nth ts 8=.int .i64 i) ?_ (n:=l.length) ?_
 ·skip
  rintro n ts H ⟨i,hi,he,hn,hH,hL,hs0,hs1,hs7,hs8⟩;refine Xc [(0,.sl l.length (ints l)),(1,.fn (.func 103) [] []),(7,.int .i64 l.length),(8,.int .i64 i)] hL (by simp only [zFm,hs0,hs1,hs7,hs8,true_and];exact zNm) ?_
  clear hL hs0 hs1 hs7 hs8 ts
  refine Qz Qf ?_;subst hH hn
  (refine zG ?_;(repeat' ((with_reducible apply zBr)<;>intro h<;>refine zG ?_))<;>try exact .intro)
  ·skip
   refine Fc.pure (Xhz _) (by simp [go_sem,Qh,clo,Qa,Qn]) (by intro g;simp only [go_sem,ren,Qk]) ?_
   (refine zG ?_;(repeat' ((with_reducible apply zBr)<;>intro h<;>refine zG ?_))<;>try exact .intro)
   ·refine ⟨[],by simp,by simp,⟨i,rfl, ?_⟩,rfl⟩
    rw [decide_eq_true (by omega)]
    cases hb:Qva l with
    | true=>rfl
    | false=>exact absurd (by assumption) (Qib.1 hb i (by omega))
   ·exact ⟨_,by omega,i+1,by omega,Qbc he (by omega),rfl,(by (repeat' apply And.intro)<;>(first | rfl | omega | (congr 1;omega) | assumption | (congr 1;assumption)))⟩
  ·refine ⟨[],by simp,by simp,⟨-1,rfl, ?_⟩,rfl⟩
   rw [decide_eq_false (by omega)]
   exact Qib.2 fun j hj=>he j (by omega)
 ·exact ⟨0,by omega,fun j hj=>by omega,rfl,rfl,rfl,rfl,rfl,rfl,rfl⟩
theorem Qmb (l:List Int) (hl:l.length≤17592186044416):Pu C 51 [.sl l.length (ints l),.fn (.func 103) [] []] (.bool (Qva l)):=by
 refine zK Qf Tryz.func51 w51 Tryz.ntmps51 Tryz.results51 ?_;refine zG ?_;refine Fc.call (Qp8 l hl) (by simp [Qh,clo,Qa]) ?_
 rintro v H' ⟨⟨i,rfl,h3⟩,rfl⟩;simp only [ren,Qbf,List.map_nil,List.append_nil];refine zG ?_
 (refine Qo (by intro g;simp only [go_sem,ren,Qk]) ?_)
 rw [h3]
def Qja (l:List Int) (n:Nat):Bool:=(List.range n).all fun k=>decide (l.getD (2*k) 0≤1024∧l.getD (2*k+1) 0≤1024)
theorem Qi9 {l:List Int} {n:Nat}:Qja l n=true↔∀ k,k<n→l.getD (2*k) 0≤1024∧l.getD (2*k+1) 0≤1024:=by simp [Qja]
def Xmc (l s:List Int) (k:Nat):Int:=l.getD (2*k) 0+s.getD k 0+l.getD (2*k+1) 0
def Qdr (l s:List Int) (n:Nat):List Int:=Qjv (Xmc l s) n
def Qpu (t:Tn) (l:List Int):Int:=if Xv t≠0 then Xv t else if l.length≠2*t.shape.length then 11 else if Qva l=true then 11 else if Qja l t.shape.length=false then 14 else Xa (Qdr l t.shape t.shape.length)
def Xqe (t:Tn) (l:List Int):Tn:=Kv (mvT t (Qdr l t.shape t.shape.length) (Quc l)) (Qpu t l)
theorem Xma (t:Tn) (ht:TnOK t) (l:List Int) (hl:l.length≤1000000000):Val C 44 [tnV t,.sl l.length (ints l)] (.tup [tnV (Xqe t l),.int .i64 (Qpu t l)]):=by
 have hv:Qec l=.fn (.func 142) [] [.rp [.sl l.length (ints l)] 0]:=rfl
 have hs:=ht.s
 unfold Xqe;refine zK Qf Tryz.func44 w44 Tryz.ntmps44 Tryz.results44 ?_;refine zG ?_;refine Fc.pure (Zr t ht) (by simp [Qh,clo,Qa,Qi]) (fun g=>rfl) ?_
 by_cases hm:Xv t=0
 case neg =>
  refine zG ?_;exact Gd.ret (Qbw (by rw [Qpu,if_pos hm]) hm)
 obtain ⟨hf,hmp,hel⟩:=Zs hm;obtain ⟨m1,m2,m3⟩:=Qu hmp;rw [hm];by_cases hll:l.length=2*t.shape.length
 case neg =>
  refine zG ?_;exact Gd.ret (Qbw (by rw [Qpu,if_neg (by omega),if_pos hll]) (by decide))
 refine zG ?_;refine Fc.pure (Qmb l (by omega)) (by simp [Qh,clo,Qa]) (fun g=>rfl) ?_
 cases hneg:Qva l with
 | true =>
  refine zG ?_;exact Gd.ret (Qbw (by rw [Qpu,if_neg (by omega),if_neg (by omega),if_pos hneg]) (by decide))
 | false =>
  have hn:=Qib.1 hneg
  refine zG ?_;refine Fc.pure (Qeb l) (by simp [Qh,clo,Qa]) (fun g=>by simp [Qec,ren,Qk,Ql]) ?_
  refine zH1 hv ?_;refine Kt (g:=142) (lb:=[.rp [.sl l.length (ints l)] 0]) (xs:=Qfx l) (by simp -implicitDefEqProofs (maxSteps:=9^7) (disch:=first | omega | (simp only [Je];omega)) only [go_sem]) (by simp [Qh,clo,Qa]) (Qfw l (by omega)) (Qed rfl) (fun k H=>∃ u,(∀ j,j<k→l.getD (2*j) 0≤1024∧l.getD (2*j+1) 0≤1024)∧Qc H 0=some ⟨34,2,[.sl t.shape.length (ints t.shape),.sl t.el.length (Qv t.el)]⟩∧Qc H 1=some ⟨23,1,[.sl l.length (ints l)]⟩∧Qc H 2=some ⟨34,2,[.nil,.nil]⟩∧Qc H 3=some ⟨36,1,[.int .i64 0]⟩∧Qc H 4=some ⟨31,1,[u]⟩∧Bv.Own 3 1 H u k (ints (Qdr l t.shape k))) ⟨.nil,fun j hj=>by omega,rfl,rfl,rfl,rfl,rfl,Bv.Own.nil _ _ _⟩ ?_ ?_
  ·rintro k us H2 hk ⟨u,hJ,g0,g1,g2,g3,gP,hu⟩ lv
   have hkl:k<t.shape.length:=by
    have:=(List.getElem?_eq_some_iff.1 hk).1
    rw [Jx] at this;omega
   rw [Qdz (by omega)] at hk
   injection hk with hk
   subst hk
   have c0:∀ Y,Qc (H2++Y) 0=some ⟨34,2,[.sl t.shape.length (ints t.shape),.sl t.el.length (Qv t.el)]⟩:=fun Y=>Qd g0 Y
   have c1:∀ Y,Qc (H2++Y) 1=some ⟨23,1,[.sl l.length (ints l)]⟩:=fun Y=>Qd g1 Y
   have c2:∀ Y,Qc (H2++Y) 2=some ⟨34,2,[.nil,.nil]⟩:=fun Y=>Qd g2 Y
   have c3:∀ Y,Qc (H2++Y) 3=some ⟨36,1,[.int .i64 0]⟩:=fun Y=>Qd g3 Y
   have cP:∀ Y,Qc (H2++Y) 4=some ⟨31,1,[u]⟩:=fun Y=>Qd gP Y
   have b3:∀ Y z,Qc ((H2++Y).set 2 z) 3=some ⟨36,1,[.int .i64 0]⟩:=fun Y z=>by rw [Qe _ (by decide)];exact c3 Y
   have b2:∀ Y row z,Qc (((H2++Y).set 2 (some row)).set 3 z) 2=some row:=fun Y row z=>by rw [Qe _ (by decide)];exact Qg (c2 Y)
   have b33:∀ Y row z,Qc (((H2++Y).set 2 z).set 3 (some row)) 3=some row:=fun Y row z=>Qg (b3 Y z)
   have hn0:=hn (2*k) (by omega)
   have hn1:=hn (2*k+1) (by omega)
   have hsd:=Xq m2 hkl
   have hsp:=Zj m2 hkl
   (refine Qz Qf ?_;simp -implicitDefEqProofs (maxSteps:=9^7) (disch:=first | omega | (simp only [Je];omega)) only [go_sem,Qfu])
   (refine Qz Qf ?_;simp -implicitDefEqProofs (maxSteps:=9^7) (disch:=first | omega | (simp only [Je];omega)) only [go_sem,c0])
   by_cases hc:l.getD (2*k) 0≤1024∧l.getD (2*k+1) 0≤1024
   ·have hlv:=hu.lenw (C.ty 31)
    (apply Zo;repeat' ((with_reducible first|apply Zk|apply zBr<;>intro h)<;>try simp -implicitDefEqProofs (maxSteps:=9^7) (disch:=first|exact zDs|fail) only [go_sem,c0,cP,hlv,Jq]))
    refine Qus hu (by rw [Qdr,Qbe]) rfl ⟨by decide,by decide⟩ (by rw [Qdr,Qbe];omega) fun v' H' hu' hF hk'=>?_
    have d0:=Xz (hu.keep _) hF (c0 _) (by decide)
    have d1:=Xz (hu.keep _) hF (c1 _) (by decide)
    have d2:=Xz (hu.keep _) hF (c2 _) (by decide)
    have d3:=Xz (hu.keep _) hF (c3 _) (by decide)
    have dP:=Xz (hu.keep _) hF (cP _) (by decide)
    obtain ⟨k1,k2,k3⟩:=hk'
    (apply Zo;repeat' ((with_reducible first|apply Zk|apply zBr<;>intro h)<;>try simp -implicitDefEqProofs (maxSteps:=9^7) (disch:=first|exact zDs|fail) only [go_sem,dP,k1,k2,k3,Jq]))
    rw [Qdr,show l.getD (2*k) 0+t.shape.getD k 0+l.getD (2*k+1) 0=Xmc l t.shape k from rfl,← Qlc (f:=Xmc l t.shape)] at hu';exact ⟨v',Qbc hJ hc,by rw [Qe _ (by omega)];exact d0,by rw [Qe _ (by omega)];exact d1,by rw [Qe _ (by omega)];exact d2,by rw [Qe _ (by omega)];exact d3,Qg dP,Ym hu' dP (by decide)⟩
   ·have hno:Qja l t.shape.length=false:=by
     rw [Bool.eq_false_iff];exact fun hh=>hc (Qi9.1 hh k hkl)
    (apply Zo;repeat' ((with_reducible first|apply Zk|apply zBr<;>intro h)<;>try simp -implicitDefEqProofs (maxSteps:=9^7) (disch:=first|exact zDs|fail) only [go_sem,c0,c1,c2,c3,b3,b2,b33,Jq]))
    all_goals exact Gd.ret (Qbw (by rw [Qpu,if_neg (by omega),if_neg (by omega),if_neg (by rw [hneg];decide),if_pos hno]) (by decide))
  ·rintro H2 ⟨u,hJ,g0,g1,g2,g3,gP,hu⟩;rw [Jx,show l.length/2=t.shape.length by omega] at hJ hu
   have hin:Qja l t.shape.length=true:=Qi9.2 hJ
   have hE:Qpu t l=Xa (Qdr l t.shape t.shape.length):=by rw [Qpu,if_neg (by omega),if_neg (by omega),if_neg (by rw [hneg];decide),if_neg (by rw [hin];decide)]
   have hSl:(Qdr l t.shape t.shape.length).length=t.shape.length:=Qbe _ _
   have hSg:∀ j,j<t.shape.length→(Qdr l t.shape t.shape.length).getD j 0=l.getD (2*j) 0+t.shape.getD j 0+l.getD (2*j+1) 0:=fun j hj=>Qg9 hj
   have hku:kn u=true∧cellsOf u=[u]∧Yq u=true:=by rcases hu with ⟨rfl,_⟩ | ⟨r,rfl,_⟩<;>exact ⟨rfl,rfl,rfl⟩
   obtain ⟨k1,k2,k3⟩:=hku
   have hu9:Bv.Own 3 1 H2 u (Qdr l t.shape t.shape.length).length (ints (Qdr l t.shape t.shape.length)):=by rw [hSl];exact hu
   have hbu:Bor H2 u (.sl (Qdr l t.shape t.shape.length).length (ints (Qdr l t.shape t.shape.length))):=hu9.bor' (Qa _)
   refine zH4 gP k1 k2 k3 ?_;refine (Val.ofPu (Ku (Qdr l t.shape t.shape.length) (by omega)) rfl rfl).call ⟨hbu,trivial⟩ rfl ?_
   by_cases hz:Xa (Qdr l t.shape t.shape.length)=0
   ·have hE':Qpu t l=0:=hE.trans hz
    obtain ⟨n1,n2,n3⟩:=Qu hz
    have hmv:=Qic t ht hf (Qdr l t.shape t.shape.length) (by omega) hz 104 [.rp [.sl l.length (ints l)] 0] (by simp [Qh,clo,Qa]) (Quc l) (fun x hx hxb=>⟨by simp only [Quc,List.length_map,List.length_range];omega,by
     refine Quw l x (by omega) (by omega) (fun j hj=>?_) (fun j hj=>?_)
     ·have h3:=hxb j (by omega)
      have h4:=Xq n2 (i:=j) (by omega)
      omega
     ·have h1:=hn (2*j) (by omega)
      have h2:=hJ j (by omega)
      omega⟩)
    rw [hz];rw [Ye hE',hE'];refine zH5 g0 gP k1 k2 k3 ?_;refine Fc.sealed (r:=1) g1 (by simp [Qh,clo,Qa]) ?_
    have hu1:sz 1 [.sl l.length (ints l)] u=u:=by
     rcases hu with ⟨rfl,_⟩ | ⟨r,rfl,hr,_⟩
     ·rfl
     ·have:r≠1:=by rintro rfl;rw [g1] at hr;cases hr
      simp [sz,this]
    have he:szL 1 [.sl l.length (ints l)] [.agg [.sl t.shape.length (ints t.shape),.sl t.el.length (Qv t.el)],u,.fn (.func 104) [] [.ptr 1 0]]=[tnV t,u,.fn (.func 104) [] [.rp [.sl l.length (ints l)] 0]]:=by
     simp only [szL,sz,Yk _ _ _ (Qa _),Yk _ _ _ (Qi _),hu1,if_true]
     rfl
    rw [he]
    have hlt:=Xg gP
    refine hmv.keptF ⟨.self (Qcc t),(Ym hu9 g1 (by decide)).bor' (Qa _),.self (by simp [Qh,clo,Qa]),trivial⟩ fun v X hv=>?_
    have f2:Qc (H2.set 1 none++X) 2=some ⟨34,2,[.nil,.nil]⟩:=Qd (by rw [Qe _ (by decide)];exact g2) X
    have f3:∀ z,Qc ((H2.set 1 none++X).set 2 z) 3=some ⟨36,1,[.int .i64 0]⟩:=fun z=>by rw [Qe _ (by decide)];exact Qd (by rw [Qe _ (by decide)];exact g3) X
    have f22:∀ row z,Qc (((H2.set 1 none++X).set 2 (some row)).set 3 z) 2=some row:=fun row z=>by rw [Qe _ (by decide)];exact Qg f2
    have f33:∀ z row,Qc (((H2.set 1 none++X).set 2 z).set 3 (some row)) 3=some row:=fun z row=>Qg (f3 z)
    obtain ⟨w,e,rfl,hw,he⟩:=hv.tup2;obtain ⟨a,b,rfl,ha,hb⟩:=hw.agg2;obtain ⟨ka,ca,sa⟩:=Yv ha.gd;obtain ⟨kb,cb,sb⟩:=Yv hb.gd;rw [he.gd.int_inv]
    (apply Zo;repeat' ((with_reducible first|apply Zk|apply zBr<;>intro h)<;>try simp -implicitDefEqProofs (maxSteps:=9^7) (disch:=first|exact zDs|fail) only [go_sem,f2,f3,f22,f33,ka,ca,sa,kb,cb,sb]))
    exact Gd.ret (Gd.tupL ⟨Gd.aggL ⟨((ha.set (q:=2) (by simp;omega) _).set (q:=3) (by simp;omega) _).gd,((hb.set (q:=2) (by simp;omega) _).set (q:=3) (by simp;omega) _).gd,trivial⟩,Qiv _ _,trivial⟩)
   ·have b3:∀ z,Qc (H2.set 2 z) 3=some ⟨36,1,[.int .i64 0]⟩:=fun z=>by rw [Qe _ (by decide)];exact g3
    have b2:∀ row z,Qc ((H2.set 2 (some row)).set 3 z) 2=some row:=fun row z=>by rw [Qe _ (by decide)];exact Qg g2
    have b33:∀ row z,Qc ((H2.set 2 z).set 3 (some row)) 3=some row:=fun row z=>Qg (b3 z)
    refine zH5 g2 g3 b3 b2 b33 ?_;exact Gd.ret (Qbw hE hz)
theorem Xfn (xs:List Int) (m:Nat) (hm:m≤1000) (hx:xs.length≤12):Pu C 90 [.sl xs.length (ints xs),.int .i64 (m:Nat)] (.int .i64 (if (Zn xs&&decide (xs.length=m))=true then 0 else 11)):=by
 refine zK Qf Tryz.func90 w90 Tryz.ntmps90 Tryz.results90 ?_;refine zG ?_;refine Fc.pure (Qmt xs) (by simp [Qh,clo,Qa]) (fun g=>Qy g _ (by simp [Qpp,Qh,clo,Qa])) ?_
 refine zG ?_;refine Fc.mono (Qmu xs hx) ?_;rintro v H' ⟨ys,hp,hs,hR⟩
 have hr:=Qdp hp hs
 have hl:=hp.length_eq
 have hmx:(if (0:Int)>(m:Int) then 0 else (m:Int))=(m:Int):=if_neg (by omega)
 rcases hR with ⟨rfl,h,h',rfl⟩ | ⟨rfl,rfl,_⟩
 ·obtain rfl:ys=[]:=List.eq_nil_of_length_eq_zero h
  have hx:Zn xs=true:=hr.2 (by simp)
  rw [hx];refine zG ?_;refine Qgx ?_;refine Qz Qf ?_
  have hl0:xs.length=0:=hl.symm
  (refine zH1 hmx ?_;(repeat' ((with_reducible apply zBr)<;>intro h<;>refine zH1 hmx ?_))<;>try exact .intro)
  all_goals (refine Qo (by intro g;simp only [go_sem,ren,Qk]) ?_)
  ·simp;omega
  ·simp;omega
 ·skip
  refine zG ?_;refine Qj (fun n ts H=>∃ (i:Nat),(i≤ys.length)∧(H=[some ⟨3,1,ints ys⟩])∧(n=ys.length - i)∧(∀ k,k<i→ys.getD k 0=k)∧ts.length=27∧nth ts 1=.int .i64 (m:Nat)∧nth ts 4=.int .i64 0∧nth ts 5=.ref 0 0 ys.length∧nth ts 11=.ref 0 0 ys.length∧nth ts 12=.int .i64 ys.length∧nth ts 13=.int .i64 i) ?_ (n:=ys.length) ?_
  ·skip
   rintro n ts H ⟨i,hi,hH,hn,hall,hL,hs1,hs4,hs5,hs11,hs12,hs13⟩;refine Xc [(1,.int .i64 (m:Nat)),(4,.int .i64 0),(5,.ref 0 0 ys.length),(11,.ref 0 0 ys.length),(12,.int .i64 ys.length),(13,.int .i64 i)] hL (by simp only [zFm,hs1,hs4,hs5,hs11,hs12,hs13,true_and];exact zNm) ?_
   clear hL hs1 hs4 hs5 hs11 hs12 hs13 ts
   refine Qz Qf ?_;subst hH
   (refine zH1 hmx ?_;(repeat' ((with_reducible apply zBr)<;>intro h<;>refine zH1 hmx ?_))<;>try exact .intro)
   ·skip
    (refine Qo (by intro g;simp only [go_sem,ren,Qk]) ?_)
    have:Zn xs=false:=by
     cases hb:Zn xs with
     | false=>rfl
     | true=>exact absurd (hr.1 hb i (by omega)) (by assumption)
    simp [this]
   ·refine ⟨ys.length - (i+1),by omega,i+1,by omega,rfl,fun k hk=>?_,rfl⟩
    rcases Nat.lt_or_ge k i with h1 | h1
    ·exact hall k h1
    ·obtain rfl:k=i:=by omega
     assumption
   ·have:Zn xs=true:=hr.2 fun k hk=>hall k (by omega)
    (refine Qo (by intro g;simp only [go_sem,ren,Qk]) ?_)
    simp [this];omega
   ·have:Zn xs=true:=hr.2 fun k hk=>hall k (by omega)
    (refine Qo (by intro g;simp only [go_sem,ren,Qk]) ?_)
    simp [this];omega
  ·exact ⟨0,by omega,rfl,rfl,fun k hk=>by omega,rfl,rfl,rfl,rfl,rfl,rfl,rfl⟩
def Qlk (p x:List Int):Nat→List Int
 | 0=>List.replicate p.length 0
 | k+1=>(Qlk p x k).set (p.getD k 0).toNat (x.getD k 0)
theorem Qj5 (p x:List Int) (k:Nat):(Qlk p x k).length=p.length:=by
 induction k with
 | zero=>simp [Qlk]
 | succ k ih=>simp [Qlk,ih]
theorem Qxa (p x:List Int) (hp:p.length≤1000) (hx:x.length=p.length) (hb:∀ j,j<p.length→0≤p.getD j 0∧p.getD j 0<p.length):Val C 92 [.sl x.length (ints x),.rp [.sl p.length (ints p)] 0] (.sl (Qlk p x p.length).length (ints (Qlk p x p.length))):=by
 refine Val.ofRet (e:=3) (s:=1) ?_ (Qa _) (Xp _);refine zK Qf Tryz.func92 w92 Tryz.ntmps92 Tryz.results92 ?_;refine zG ?_;refine Qe6 rfl rfl rfl rfl (by simp [t3bytes]) (by omega) ?_
 refine zG ?_;refine Qj (fun n ts H=>∃ (k:Nat),(k≤p.length)∧(n=p.length - k)∧(Qc H 0=some ⟨3,1,ints (Qlk p x k)⟩)∧ts.length=26∧nth ts 0=.sl x.length (ints x)∧nth ts 1=.rp [.sl p.length (ints p)] 0∧nth ts 4=.ref 0 0 p.length∧nth ts 10=.sl p.length (ints p)∧nth ts 11=.int .i64 p.length∧nth ts 12=.int .i64 (k:Nat)) ?_ (n:=p.length) ?_
 ·skip
  rintro n ts H ⟨k,hk,hn,h0,hL,hs0,hs1,hs4,hs10,hs11,hs12⟩;refine Xc [(0,.sl x.length (ints x)),(1,.rp [.sl p.length (ints p)] 0),(4,.ref 0 0 p.length),(10,.sl p.length (ints p)),(11,.int .i64 p.length),(12,.int .i64 (k:Nat))] hL (by simp only [zFm,hs0,hs1,hs4,hs10,hs11,hs12,true_and];exact zNm) ?_
  clear hL hs0 hs1 hs4 hs10 hs11 hs12 ts
  refine Qz Qf ?_;by_cases hc:k<p.length
  ·obtain ⟨b1,b2⟩:=hb k hc;obtain ⟨d,hd⟩:∃ d:Nat,p.getD k 0=d:=⟨(p.getD k 0).toNat,by omega⟩
   have hl:=Qj5 p x k
   have hst:(Qlk p x k).set d (x.getD k 0)=Qlk p x (k+1):=by rw [Qlk,hd];rfl
   refine zH4 hd h0 Qao hst ?_;exact ⟨p.length - (k+1),by omega,k+1,by omega,rfl,Qg h0,(by (repeat' apply And.intro)<;>(first | rfl | omega | (congr 1;omega) | assumption | (congr 1;assumption)))⟩
  ·have hks:k=p.length:=by omega
   subst hks;refine zG ?_;rw [Qj5];exact Own.ret (.inr ⟨0,rfl,h0,by simp [Yj,Qj5]⟩) (fun g=>Ql g _) fun v H h=>h
 ·refine ⟨0,by omega,rfl, ?_,rfl,rfl,rfl,rfl,rfl,rfl,rfl⟩
  rw [Qlk,← Qlv];rfl
def Qfd (p s:List Int):List Int:=Qjv (fun i=>s.getD (p.getD i 0).toNat 0) p.length
def Qg8 (t:Tn) (p:List Int):Int:=if Xv t≠0 then Xv t else if (Zn p&&decide (p.length=t.shape.length))=false then 11 else 0
def Qry (t:Tn) (p:List Int):Tn:=Kv (mvT t (Qfd p t.shape) fun x=>Qlk p x p.length) (Qg8 t p)
theorem Xb2 (hpm:∀ s:List Int,Xa s=0→∀ p:List Int,Zn p=true→p.length=s.length→Xa (Qfd p s)=0) (t:Tn) (ht:TnOK t) (p:List Int) (hp:p.length≤1048576) (hPs:t.shape.length≤4→Pu C 90 [.sl p.length (ints p),.int .i64 (t.shape.length:Nat)] (.int .i64 (if (Zn p&&decide (p.length=t.shape.length))=true then 0 else 11))):Val C 38 [tnV t,.sl p.length (ints p)] (.tup [tnV (Qry t p),.int .i64 (Qg8 t p)]):=by
 have hs:=ht.s
 unfold Qry;refine zK Qf Tryz.func38 w38 Tryz.ntmps38 Tryz.results38 ?_;refine zG ?_;refine Fc.pure (Zr t ht) (by simp [Qh,clo,Qa,Qi]) (fun g=>rfl) ?_
 by_cases hm:Xv t=0
 case neg =>
  refine zG ?_;exact Gd.ret (Qbw (by rw [Qg8,if_pos hm]) hm)
 obtain ⟨hf,hmp,hel⟩:=Zs hm;obtain ⟨m1,m2,m3⟩:=Qu hmp;rw [hm];refine zG ?_;refine Fc.pure (hPs (by omega)) (by simp [Qh,clo,Qa]) (fun g=>rfl) ?_
 cases hb:(Zn p&&decide (p.length=t.shape.length)) with
 | false =>
  rw [if_neg (by decide)]
  refine zG ?_;exact Gd.ret (Qbw (by rw [Qg8,if_neg (by omega),if_pos hb]) (by decide))
 | true =>
  rw [if_pos rfl];rw [Bool.and_eq_true,decide_eq_true_eq] at hb;obtain ⟨hb,hpl⟩:=hb
  have hin:∀ j,j<p.length→0≤p.getD j 0∧p.getD j 0<p.length:=fun j hj=>by
   have:=(Qbu p).1 hb j hj
   exact ⟨this.1,this.2.1⟩
  have hE:Qg8 t p=0:=by rw [Qg8,if_neg (by omega),if_neg (by simp [hb,hpl])]
  rw [Ye hE,hE];refine zG ?_;refine Qe6 rfl rfl rfl rfl (by simp [t3bytes]) (by omega) ?_
  refine zG ?_;refine Qj (fun n ts H=>∃ (k:Nat) (z:List Int),(k≤p.length)∧(n=p.length - k)∧(z.length=p.length)∧(z.take k=Qjv (fun i=>t.shape.getD (p.getD i 0).toNat 0) k)∧(Qc H 0=some ⟨34,2,[.sl t.shape.length (ints t.shape),.sl t.el.length (Qv t.el)]⟩)∧(Qc H 1=some ⟨23,1,[.sl p.length (ints p)]⟩)∧(Qc H 2=some ⟨34,2,[.nil,.nil]⟩)∧(Qc H 3=some ⟨3,1,ints z⟩)∧ts.length=51∧nth ts 2=.ptr 0 0∧nth ts 3=.ptr 1 0∧nth ts 4=.ptr 2 0∧nth ts 8=.ref 3 0 p.length∧nth ts 29=.sl p.length (ints p)∧nth ts 30=.int .i64 p.length∧nth ts 31=.int .i64 (k:Nat)) ?_ (n:=p.length) ?_
  ·skip
   rintro n ts H ⟨k,z,hk,hn,hz,hzt,h0,h1,h2,h3,hL,hs2,hs3,hs4,hs8,hs29,hs30,hs31⟩;refine Xc [(2,.ptr 0 0),(3,.ptr 1 0),(4,.ptr 2 0),(8,.ref 3 0 p.length),(29,.sl p.length (ints p)),(30,.int .i64 p.length),(31,.int .i64 (k:Nat))] hL (by simp only [zFm,hs2,hs3,hs4,hs8,hs29,hs30,hs31,true_and];exact zNm) ?_
   clear hL hs2 hs3 hs4 hs8 hs29 hs30 hs31 ts
   refine Qz Qf ?_;by_cases hc:k<p.length
   ·obtain ⟨b1,b2⟩:=hin k hc;obtain ⟨d,hd⟩:∃ d:Nat,p.getD k 0=d:=⟨(p.getD k 0).toNat,by omega⟩
    have e0:∀ q,Qc (H.set 3 q) 0=some ⟨34,2,[.sl t.shape.length (ints t.shape),.sl t.el.length (Qv t.el)]⟩:=fun q=>by rw [Qe _ (by decide)];exact h0
    have e1:∀ q,Qc (H.set 3 q) 1=some ⟨23,1,[.sl p.length (ints p)]⟩:=fun q=>by rw [Qe _ (by decide)];exact h1
    have e2:∀ q,Qc (H.set 3 q) 2=some ⟨34,2,[.nil,.nil]⟩:=fun q=>by rw [Qe _ (by decide)];exact h2
    refine zH4 hd h0 h3 Qao ?_;refine ⟨p.length - (k+1),by omega,k+1,z.set k (t.shape.getD d 0),by omega,rfl,by simp [hz], ?_,e0 _,e1 _,e2 _,Qg h3,(by (repeat' apply And.intro)<;>(first | rfl | omega | (congr 1;omega) | assumption | (congr 1;assumption)))⟩
    rw [Qlc,← hzt,hd];refine List.ext_getElem (by simp;omega) fun j h1 h2=>?_
    simp only [List.length_take,List.length_set] at h1;rw [List.getElem_take,List.getElem_set,List.getElem_append];simp only [List.length_take,List.getElem_take];split
    ·rename_i hj;subst hj;rw [dif_neg (by omega)];simp
    ·rename_i hj;rw [dif_pos (by omega)]
   ·have hks:k=p.length:=by omega
    subst hks
    have hze:z=Qfd p t.shape:=by rw [Qfd,← hzt,← hz,List.take_length]
    subst hze
    have hTm:=hpm t.shape hmp p hb hpl
    have hmv:=Qic t ht hf (Qfd p t.shape) (by rw [hz];omega) hTm 92 [.rp [.sl p.length (ints p)] 0] (by simp [Qh,clo,Qa]) (fun x=>Qlk p x p.length) (fun x hx hxb=>⟨by rw [Qj5];omega,Qxa p x (by omega) (by omega) hin⟩)
    refine zH2 h0 h1 ?_;refine Fc.sealed (r:=1) h1 (by simp [Qh,clo,Qa]) ?_
    have he:szL 1 [.sl p.length (ints p)] [.agg [.sl t.shape.length (ints t.shape),.sl t.el.length (Qv t.el)],.ref 3 0 p.length,.fn (.func 92) [] [.ptr 1 0]]=[tnV t,.ref 3 0 p.length,.fn (.func 92) [] [.rp [.sl p.length (ints p)] 0]]:=by
     simp only [szL,sz,Yk _ _ _ (Qa _),Yk _ _ _ (Qi _),if_true]
     rfl
    rw [he]
    have hu:Bv.Own 3 1 (H.set 1 none) (.ref 3 0 p.length) (Qfd p t.shape).length (ints (Qfd p t.shape)):=by
     rw [hz];exact .inr ⟨3,rfl,by rw [Qe _ (by decide)];exact h3,by rw [Yj,hz];omega⟩
    have hlt:=Xg h3
    refine hmv.keptF ⟨.self (Qcc t),hu.bor' (Qa _),.self (by simp [Qh,clo,Qa]),trivial⟩ fun v X hv=>?_
    have f2:Qc (H.set 1 none++X) 2=some ⟨34,2,[.nil,.nil]⟩:=Qd (by rw [Qe _ (by decide)];exact h2) X
    have f22:∀ row,Qc ((H.set 1 none++X).set 2 (some row)) 2=some row:=fun row=>Qg f2
    obtain ⟨w,e,rfl,hw,he⟩:=hv.tup2;obtain ⟨a,b,rfl,ha,hb⟩:=hw.agg2;obtain ⟨ka,ca,sa⟩:=Yv ha.gd;obtain ⟨kb,cb,sb⟩:=Yv hb.gd;rw [he.gd.int_inv];refine zH8 f2 f22 ka ca sa kb cb sb ?_;exact Gd.ret (Gd.tupL ⟨Gd.aggL ⟨(ha.set (q:=2) (by simp;omega) _).gd,(hb.set (q:=2) (by simp;omega) _).gd,trivial⟩,Qiv _ _,trivial⟩)
  ·exact ⟨0,List.replicate p.length 0,by omega,rfl,by simp,by simp [Qjv],rfl,rfl,rfl,by rw [← Qlv];rfl,rfl,rfl,rfl,rfl,rfl,rfl,rfl,rfl⟩
theorem Qw9 {x a:List Int} (hl:a.length=x.length) (hp:Zn a=true):(Qjv (fun i=>x.getD (a.getD i 0).toNat 0) a.length).Perm x:=by
 have h1:=List.mergeSort_perm a (fun p q=>decide (p≤q))
 have h2:=List.pairwise_mergeSort (le:=fun p q:Int=>decide (p≤q)) (by intro p q r;simp;omega) (by intro p q;simp;omega) a
 generalize a.mergeSort (fun p q=>decide (p≤q))=ys at h1 h2
 have hy:=(Qdp h1 (fun p q hpq hq=>by
  rw [List.pairwise_iff_getElem] at h2
  have:=h2 p q (by omega) hq hpq
  simpa [List.getD,hq,show p<ys.length by omega] using this)).1 hp
 have hyl:=h1.length_eq
 have e1:Qjv (fun i=>x.getD (a.getD i 0).toNat 0) a.length=a.map fun d=>x.getD d.toNat 0:=by
  refine Qeq (by simp [Qbe]) fun j hj=>?_
  rw [Qbe] at hj;rw [Qg9 hj];simp [List.getD,hj]
 have e2:(ys.map fun d=>x.getD d.toNat 0)=x:=by
  refine Qeq (by simp;omega) fun j hj=>?_
  have hj':j<ys.length:=by simpa using hj
  have:=hy j hj'
  simp only [List.getD,List.getElem?_eq_getElem hj',Option.getD_some] at this;simp [List.getD,hj',this]
 rw [e1];exact ((h1.map _).symm).trans (by rw [e2])
theorem Qnj (s:List Int) (h0:Xa s=0) (p:List Int) (hp:Zn p=true) (hl:p.length=s.length):Xa (Qfd p s)=0:=by
 obtain ⟨h1,h2,h3⟩:=Qu h0
 have hpm:(Qfd p s).Perm s:=Qw9 hl hp
 have hm:∀ d∈Qfd p s,1≤d:=fun d hd=>h2 d (hpm.mem_iff.1 hd)
 have hln:=hpm.length_eq
 unfold Xa;rw [if_neg (by omega),if_pos (by simpa using hm),if_neg (by rw [Qn3 hpm];omega)]
theorem Qpq (t:Tn) (ht:TnOK t) (p:List Int) (hp:p.length≤12):Val C 38 [tnV t,.sl p.length (ints p)] (.tup [tnV (Qry t p),.int .i64 (Qg8 t p)]):=Xb2 Qnj t ht p (by omega) fun h=>Xfn p t.shape.length (by omega) hp
def Qiy (t:Tn) (s:List Int):Int:=if Xv t≠0 then Xv t else if Xa s≠0 then Xa s else if (t.el.length:Int)≠Qx s then 13 else 0
def Xg4 (t:Tn) (s:List Int):Tn:=Kv (Qhh ⟨s,t.el⟩) (Qiy t s)
def Qf9 (t:Tn) (s:List Int):Int:=if Xv t≠0 then Xv t else Xa s
theorem Qou (t:Tn) (ht:TnOK t) (s:List Int) (hs:s.length≤1000000000):Pu C 93 [tnV t,.sl s.length (ints s)] (.int .i64 (Qf9 t s)):=by
 refine zK Qf Tryz.func93 w93 Tryz.ntmps93 Tryz.results93 ?_;refine zG ?_;refine Fc.pure (Zr t ht) (by simp [Qh,clo,Qa,Qi]) (fun g=>rfl) ?_
 (refine zG ?_;(repeat' ((with_reducible apply zBr)<;>intro h<;>refine zG ?_))<;>try exact .intro)
 ·skip
  (refine Qo (by intro g;simp only [go_sem,ren,Qk]) ?_)
  rw [Qf9,if_pos (by assumption)]
 ·skip
  refine Fc.pure (Ku s (by omega)) (by simp [go_sem,Qh,clo,Qa,Qn]) (by intro g;simp only [go_sem,ren,Qk]) ?_
  refine zG ?_
  (refine Qo (by intro g;simp only [go_sem,ren,Qk]) ?_)
  rw [Qf9,if_neg (by omega)]
theorem Qul (t:Tn) (ht:TnOK t) (s:List Int) (hs:s.length≤1000000000):Val C 39 [tnV t,.sl s.length (ints s)] (.tup [tnV (Xg4 t s),.int .i64 (Qiy t s)]):=by
 have hmk:=Qla ⟨s,t.el⟩ ⟨hs,ht.e,ht.r⟩
 unfold Xg4;refine zK Qf Tryz.func39 w39 Tryz.ntmps39 Tryz.results39 ?_;refine zG ?_;refine Fc.pure (Qou t ht s hs) (by simp [Qh,clo,Qa,Qi]) (fun g=>by simp [tnV,ren,Qk,Ql,Yt _ _ (Qi t.el)]) ?_
 by_cases h:Qf9 t s=0
 ·have hm:Xv t=0:=Classical.byContradiction fun hn=>by rw [Qf9,if_pos hn] at h;exact hn h
  have hs0:Xa s=0:=by rw [Qf9,if_neg (by omega)] at h;exact h
  have hE:Jn ⟨s,t.el⟩=Qiy t s:=by
   show (if Xa s≠0 then Xa s else if (t.el.length:Int)≠Xf s then 13 else 0)=_
   have hc:Xf s=Qx s:=by rw [Xf,if_pos hs0]
   simp only [Qiy,hm,hs0,hc,ne_eq,not_true_eq_false,if_false]
  have hT:mkT ⟨s,t.el⟩=(Kv (Qhh ⟨s,t.el⟩) (Qiy t s),Qiy t s):=by
   rw [mkT,hE,Kv];by_cases hz:Qiy t s=0
   ·rw [if_neg (by omega),if_neg (by omega),hz]
   ·rw [if_pos hz,if_pos hz]
  rw [hT] at hmk;rw [h];refine zG ?_;refine hmk.keptF ⟨.self (by simp [clo,Qa]),.self (by simp [clo,Qi]),trivial⟩ fun v X hv=>?_
  obtain ⟨w,e,rfl,hw,he⟩:=hv.tup2;obtain ⟨a,b,rfl,ha,hb⟩:=hw.agg2;obtain ⟨ka,ca,sa⟩:=Yv ha.gd;obtain ⟨kb,cb,sb⟩:=Yv hb.gd;rw [he.gd.int_inv];refine zH6 ka ca sa kb cb sb ?_;exact Gd.ret (Gd.tupL ⟨Gd.aggL ⟨(ha.set (q:=1) (by simp) _).gd,(hb.set (q:=1) (by simp) _).gd,trivial⟩,Qiv _ _,trivial⟩)
 ·have hE:Qiy t s=Qf9 t s:=by
   unfold Qiy Qf9 at *;by_cases hm:Xv t≠0
   ·rw [if_pos hm,if_pos hm]
   ·rw [if_neg hm] at h;rw [if_neg hm,if_neg hm,if_pos h]
  refine zG ?_;exact Gd.ret (Qbw hE h)
def brF (s x:List Int) (i:Nat):Int:=if s.getD i 0 - 1<x.getD i 0 then s.getD i 0 - 1 else x.getD i 0
def brL (s x:List Int):List Int:=Kb (brF s (x.drop (x.length - s.length))) (x.drop (x.length - s.length)) s.length
theorem Qq7 (x:List Int) (k:Nat):(ints x).drop k=ints (x.drop k):=by simp [ints]
theorem Qzu (t:Tn) (s x:List Int) (hs:s.length≤1000) (ht:t.shape.length≤s.length) (hx:x.length=s.length) (h1:∀ j,j<t.shape.length→1≤t.shape.getD j 0∧t.shape.getD j 0≤1024) :
  Val C 95 [.sl x.length (ints x),.rp [.sl s.length (ints s)] 0,.rp [.sl t.shape.length (ints t.shape),.sl t.el.length (Qv t.el)] 0] (.sl (brL t.shape x).length (ints (brL t.shape x))):=by
 obtain ⟨k0,hk0⟩:∃ k0:Nat,x.length - t.shape.length=k0:=⟨_,rfl⟩
 have e1:(s.length:Int) - (t.shape.length:Int)=(k0:Nat):=by omega
 have hyl:(x.drop k0).length=t.shape.length:=by rw [List.length_drop];omega
 have hbr:brL t.shape x=Kb (brF t.shape (x.drop k0)) (x.drop k0) t.shape.length:=by rw [brL,hk0]
 have hk0x:k0≤x.length:=by omega
 have hidr:=Qq7 x k0
 have hxk:x.length - k0=(x.drop k0).length:=by rw [List.length_drop]
 rw [hbr];refine Val.ofRet (e:=3) (s:=1) ?_ (Qa _) (Xp _);refine zK Qf Tryz.func95 w95 Tryz.ntmps95 Tryz.results95 ?_;refine zH3 e1 hidr hxk ?_
 have hyb:(x.drop k0).length≤1000:=by omega
 clear hbr hidr hxk
 generalize x.drop k0=y at *;refine Fc.ownL (Qaz y (by omega)) ⟨.self (by simp [clo,Qa]),trivial⟩ (fun g=>Ql g _) (Xp _) fun v X hv0=>?_
 have hkn:kn v=true∧cellsOf v=[v]∧Yq v=true:=by rcases hv0 with ⟨rfl,_⟩ | ⟨r,rfl,_⟩<;>exact ⟨rfl,rfl,rfl⟩
 obtain ⟨k1,c1,s1⟩:=hkn;refine zH3 k1 c1 s1 ?_;rw [hyl] at hv0;refine Qj (fun n ts H=>∃ (k:Nat),(k≤t.shape.length)∧(n=t.shape.length - k)∧(Bv.Own 3 1 H v t.shape.length (ints (Kb (brF t.shape y) y k)))∧ts.length=37∧nth ts 5=v∧nth ts 18=.sl t.shape.length (ints t.shape)∧nth ts 19=.int .i64 t.shape.length∧nth ts 20=.int .i64 (k:Nat)) ?_ (n:=t.shape.length) ?_
 ·skip
  rintro n ts H ⟨k,hk,hn,hv,hL,hs5,hs18,hs19,hs20⟩;refine Xc [(5,v),(18,.sl t.shape.length (ints t.shape)),(19,.int .i64 t.shape.length),(20,.int .i64 (k:Nat))] hL (by simp only [zFm,hs5,hs18,hs19,hs20,true_and];exact zNm) ?_
  clear hL hs5 hs18 hs19 hs20 ts
  refine Qz Qf ?_;by_cases hkl:k<t.shape.length
  ·obtain ⟨-,h0', -⟩ | ⟨r,rfl,hr, -⟩:=hv
   ·omega
   have hdg:=Qil (f:=brF t.shape y) (x:=y) (k:=k) (by omega)
   have hdl:=Jy (brF t.shape y) y k
   have hds:(Kb (brF t.shape y) y k).set k (if t.shape.getD k 0 - 1<y.getD k 0 then t.shape.getD k 0 - 1 else y.getD k 0)=Kb (brF t.shape y) y (k+1):=Qgv (f:=brF t.shape y) (x:=y) (k:=k) (by omega)
   have hb':=h1 k hkl
   refine zH4 hr hdg Qao hds ?_;exact ⟨t.shape.length - (k+1),by omega,k+1,by omega,rfl,.inr ⟨r,rfl,Qg hr,by rw [Yj,Jy];omega⟩,(by (repeat' apply And.intro)<;>(first | rfl | omega | (congr 1;omega) | assumption | (congr 1;assumption)))⟩
  ·have hks:k=t.shape.length:=by omega
   subst hks;refine zH3 k1 c1 s1 ?_;rw [Jy,hyl];exact Own.ret hv (fun g=>Ql g _) fun v H h=>h
 ·exact ⟨0,by omega,rfl,by rw [Qgu];exact hv0,rfl,rfl,rfl,rfl,rfl⟩
def Qts (t:Tn) (s:List Int):Int:=if Xv t≠0 then Xv t else if Xa s≠0 then Xa s else if okB t.shape s=false then 13 else 0
def Xrr (t:Tn) (s:List Int):Tn:=Kv (mvT t s (brL t.shape)) (Qts t s)
theorem Qp2 (t:Tn) (ht:TnOK t) (s:List Int) (hs:s.length≤1000000000):Val C 40 [tnV t,.sl s.length (ints s)] (.tup [tnV (Xrr t s),.int .i64 (Qts t s)]):=by
 have hts:=ht.s
 unfold Xrr;refine zK Qf Tryz.func40 w40 Tryz.ntmps40 Tryz.results40 ?_;refine zG ?_;refine Fc.pure (Qou t ht s hs) (by simp [Qh,clo,Qa,Qi]) (fun g=>by simp [tnV,ren,Qk,Ql,Yt _ _ (Qi t.el)]) ?_
 by_cases hf:Qf9 t s=0
 case neg =>
  have hE:Qts t s=Qf9 t s:=by
   unfold Qts Qf9 at *;by_cases hm:Xv t≠0
   ·rw [if_pos hm,if_pos hm]
   ·rw [if_neg hm] at hf;rw [if_neg hm,if_neg hm,if_pos hf]
  refine zG ?_;exact Gd.ret (Qbw hE hf)
 have hm:Xv t=0:=Classical.byContradiction fun hn=>by rw [Qf9,if_pos hn] at hf;exact hn hf
 have hs0:Xa s=0:=by rw [Qf9,if_neg (by omega)] at hf;exact hf
 obtain ⟨hft,hmp,hel⟩:=Zs hm;obtain ⟨m1,m2,m3⟩:=Qu hmp;obtain ⟨s1,s2,s3⟩:=Qu hs0;rw [hf];refine zG ?_;refine Fc.pure (Qit t.shape s (by omega) (by omega)) (by simp [Qh,clo,Qa]) (fun g=>rfl) ?_
 have hfp:Qad t.shape s=if okB t.shape s=true then 0 else 13:=by rw [Qad,if_pos hmp,if_pos hs0]
 cases hok:okB t.shape s with
 | false =>
  have hE:Qts t s=13:=by simp [Qts,hm,hs0,hok]
  rw [hok,if_neg (by decide)] at hfp
  rw [hfp];refine zG ?_;exact Gd.ret (Qbw hE (by decide))
 | true =>
  have hE:Qts t s=0:=by simp [Qts,hm,hs0,hok]
  rw [hok,if_pos rfl] at hfp;rw [hfp,Ye hE,hE];obtain ⟨o1,o2⟩:=(Qkf _ _).1 hok
  have hmv:=Qic t ht hft s hs hs0 95 [.rp [.sl s.length (ints s)] 0,.rp [.sl t.shape.length (ints t.shape),.sl t.el.length (Qv t.el)] 0] (by simp [Qh,clo,Qa,Qi]) (brL t.shape) (fun x hx hxb=>⟨by rw [brL,Jy,List.length_drop];omega,Qzu t s x (by omega) o1 hx fun j hj=>by
   have h1:=Zj m2 hj
   have h2:=Xq m2 hj
   omega⟩)
  refine zG ?_;refine Fc.sealed (r:=0) rfl (by simp [Qh,clo,Qa,Qi]) ?_
  refine Fc.sealed (r:=1) rfl (by simp [Qh,clo,Qa]) ?_
  have he:szL 1 [.sl s.length (ints s)] (szL 0 [.sl t.shape.length (ints t.shape),.sl t.el.length (Qv t.el)] [.agg [.sl t.shape.length (ints t.shape),.sl t.el.length (Qv t.el)],.sl s.length (ints s),.fn (.func 95) [] [.ptr 1 0,.ptr 0 0]])=[tnV t,.sl s.length (ints s),.fn (.func 95) [] [.rp [.sl s.length (ints s)] 0,.rp [.sl t.shape.length (ints t.shape),.sl t.el.length (Qv t.el)] 0]]:=by
   simp only [szL,sz,Yk _ _ _ (Qa _),Yk _ _ _ (Qi _),if_true,Nat.one_ne_zero,Nat.zero_ne_one,if_false]
   rfl
  rw [he];refine hmv.keptF ⟨.self (Qcc t),.self (by simp [clo,Qa]),.self (by simp [Qh,clo,Qa,Qi]),trivial⟩ fun v X hv=>?_
  obtain ⟨w,e,rfl,hw,he⟩:=hv.tup2;obtain ⟨a,b,rfl,ha,hb⟩:=hw.agg2;obtain ⟨ka,ca,sa⟩:=Yv ha.gd;obtain ⟨kb,cb,sb⟩:=Yv hb.gd;rw [he.gd.int_inv];refine zH6 ka ca sa kb cb sb ?_;exact Gd.ret (Gd.tupL ⟨Gd.aggL ⟨(ha.set (q:=2) (by simp) _).gd,(hb.set (q:=2) (by simp) _).gd,trivial⟩,Qiv _ _,trivial⟩)
def Kd (ts:List Tn):List V:=ts.flatMap fun t=>[.sl t.shape.length (ints t.shape),.sl t.el.length (Qv t.el)]
def t0n:Tn:=⟨[],[]⟩
@[go_sem] theorem Xtd (ts:List Tn):(Kd ts).length=ts.length*2:=by
 induction ts with
 | nil=>rfl
 | cons t ts ih=>simp only [Kd,List.flatMap_cons,List.length_append,List.length_cons,List.length_nil] at ih ⊢;rw [ih];omega
theorem Yf (t:Tn) (ts:List Tn):Kd (t::ts)=.sl t.shape.length (ints t.shape)::.sl t.el.length (Qv t.el)::Kd ts:=rfl
theorem Qsh:∀ (ts:List Tn) (i:Nat),i<ts.length→nth (Kd ts) (i*2)=.sl (ts.getD i t0n).shape.length (ints (ts.getD i t0n).shape)∧nth (Kd ts) (i*2+1)=.sl (ts.getD i t0n).el.length (Qv (ts.getD i t0n).el)
 | [],i,h=>by simp at h
 | t::ts,0,_=>⟨rfl,rfl⟩
 | t::ts,i+1,h=>by
  have:=Qsh ts i (by simpa using h)
  rw [Yf,show (i+1)*2=i*2+1+1 by omega]
  simpa [nth] using this
@[go_sem] theorem Xhs (ts:List Tn) (i:Nat) (h:i<ts.length):nth (Kd ts) (i*2)=.sl (ts.getD i t0n).shape.length (ints (ts.getD i t0n).shape):=(Qsh ts i h).1
@[go_sem] theorem Xtl (ts:List Tn) (i:Nat) (h:i<ts.length):nth (Kd ts) (i*2+1)=.sl (ts.getD i t0n).el.length (Qv (ts.getD i t0n).el):=(Qsh ts i h).2
theorem Yh (ts:List Tn):Qh (Kd ts)=true:=by
 induction ts with
 | nil=>rfl
 | cons t ts ih=>rw [Yf];simp [Qh,clo,Qa,Qi,ih]
def Qfo:List Tn→Nat→List Int→Raw × Bool
 | [],_,_=>(r0,false)
 | t::ts,a,x=>if Qco t.shape x=0 then (Qj7 t x,true) else Qfo ts a (x.set a (x.getD a 0 - t.shape.getD a 0))
def Qfn:List Tn→Nat→List Int→Nat→List Int
 | ts,a,x,0=>x
 | ts,a,x,k+1=>(Qfn ts a x k).set a ((Qfn ts a x k).getD a 0 - (ts.getD k t0n).shape.getD a 0)
theorem Qwj (ts:List Tn) (a:Nat) (x:List Int) (k:Nat):(Qfn ts a x k).length=x.length:=by
 induction k with
 | zero=>rfl
 | succ k ih=>rw [Qfn,List.length_set,ih]
theorem Xbh (ts:List Tn) (a:Nat) (x:List Int) (hs:∀ j,j<ts.length→0≤(ts.getD j t0n).shape.getD a 0∧(ts.getD j t0n).shape.getD a 0≤1024) (ha:a<x.length):∀ k:Nat,k≤ts.length→x.getD a 0 - 1024*k≤(Qfn ts a x k).getD a 0∧(Qfn ts a x k).getD a 0≤x.getD a 0
 | 0,_=>by simp [Qfn]
 | k+1,h=>by
  have ih:=Xbh ts a x hs ha k (by omega)
  have h1:=hs k (by omega)
  have hl:=Qwj ts a x k
  have e:(Qfn ts a x (k+1)).getD a 0=(Qfn ts a x k).getD a 0 - (ts.getD k t0n).shape.getD a 0:=by
   rw [Qfn];simp [List.getD,show a<(Qfn ts a x k).length by omega]
  rw [e];omega
theorem Qrh (ts:List Tn) (a:Nat) (x:List Int) (k:Nat) (h:k<ts.length) (hn:∀ j,j<k→Qco (ts.getD j t0n).shape (Qfn ts a x j)≠0):Qfo ts a x=Qfo (ts.drop k) a (Qfn ts a x k):=by
 induction k with
 | zero=>rfl
 | succ k ih =>
  rw [ih (by omega) fun j hj=>hn j (by omega)]
  have e:ts.drop k=ts.getD k t0n::ts.drop (k+1):=by
   rw [List.drop_eq_getElem_cons (by omega)];simp [List.getD,show k<ts.length by omega]
  rw [e,Qfo,if_neg (hn k (by omega))]
  rfl
theorem Xe8 (ts:List Tn) (a:Nat) (x:List Int) (hn:∀ j,j<ts.length→Qco (ts.getD j t0n).shape (Qfn ts a x j)≠0):Qfo ts a x=(r0,false):=by
 by_cases h:ts.length=0
 ·rw [List.eq_nil_of_length_eq_zero h];rfl
 ·obtain ⟨k,hk⟩:∃ k,ts.length=k+1:=⟨ts.length - 1,by omega⟩
  rw [Qrh ts a x k (by omega) fun j hj=>hn j (by omega)]
  have e:ts.drop k=[ts.getD k t0n]:=by
   rw [List.drop_eq_getElem_cons (by omega),List.drop_of_length_le (by omega)];simp [List.getD,show k<ts.length by omega]
  rw [e,Qfo,if_neg (hn k (by omega))]
  rfl
theorem Xe9 (tl:List Tn) (a:Nat) (x:List Int) (hts:tl.length≤1048576) (hok:∀ j,j<tl.length→TnOK (tl.getD j t0n)∧Jn (tl.getD j t0n)=0∧(tl.getD j t0n).shape.length=x.length) (ha:a<x.length) (hx:x.length≤1000) (hb:0≤x.getD a 0∧x.getD a 0≤1024) :
  Pu C 106 [.sl x.length (ints x),.rp [.sl tl.length (Kd tl)] 0,.rp [.int .i64 (a:Nat)] 0] (.tup [Zx (Qfo tl a x).1,.bool (Qfo tl a x).2]):=by
 refine Pu.ofBor (by simp [clo,Qh,Qp]) ?_
 refine zL Qf Tryz.func106 w106 Tryz.ntmps106 Tryz.results106 ?_;refine zG ?_;refine Fc.ownL (Qaz x (by omega)) ⟨.self (by simp [clo,Qa]),trivial⟩ (fun g=>Ql g _) (Xp _) fun v X hv0=>?_
 obtain ⟨-,h0', -⟩ | ⟨r,rfl,hr0, -⟩:=hv0
 ·omega
 have hr1:r≠0:=by rintro rfl;simp [Qc] at hr0
 refine zG ?_;refine Qj (fun n ts H=>∃ (k:Nat),(k≤tl.length)∧((∀ j,j<k→Qco (tl.getD j t0n).shape (Qfn tl a x j)≠0))∧(n=tl.length - k)∧(Qc H 0=some ⟨70,3,[.bool false,.nil,.nil]⟩)∧(Qc H r=some ⟨3,1,ints (Qfn tl a x k)⟩)∧ts.length=46∧nth ts 1=.rp [.sl tl.length (Kd tl)] 0∧nth ts 2=.rp [.int .i64 (a:Nat)] 0∧nth ts 4=.ptr 0 0∧nth ts 6=.ref r 0 x.length∧nth ts 13=.sl tl.length (Kd tl)∧nth ts 14=.int .i64 tl.length∧nth ts 15=.int .i64 (k:Nat)) ?_ (n:=tl.length) ?_
 ·skip
  rintro n ts H ⟨k,hk,hno,hn,h0,hr,hL,hs1,hs2,hs4,hs6,hs13,hs14,hs15⟩;refine Xc [(1,.rp [.sl tl.length (Kd tl)] 0),(2,.rp [.int .i64 (a:Nat)] 0),(4,.ptr 0 0),(6,.ref r 0 x.length),(13,.sl tl.length (Kd tl)),(14,.int .i64 tl.length),(15,.int .i64 (k:Nat))] hL (by simp only [zFm,hs1,hs2,hs4,hs6,hs13,hs14,hs15,true_and];exact zNm) ?_
  clear hL hs1 hs2 hs4 hs6 hs13 hs14 hs15 ts
  refine Qz Qf ?_;by_cases hkl:k<tl.length
  ·obtain ⟨hT,hfT,hlT⟩:=hok k hkl
   have hlo:=Xbh tl a x (fun j hj=>by
    obtain ⟨h1,h2,h3⟩:=hok j hj
    have hm:Xa (tl.getD j t0n).shape=0:=Classical.byContradiction fun hn=>by rw [Jn,if_pos hn] at h2;exact hn h2
    obtain ⟨m1,m2,m3⟩:=Qu hm
    have h4:=Zj m2 (i:=a) (by omega)
    have h5:=Xq m2 (i:=a) (by omega)
    omega) ha k (by omega)
   have hmT:Xa (tl.getD k t0n).shape=0:=Classical.byContradiction fun hn=>by rw [Jn,if_pos hn] at hfT;exact hn hfT
   obtain ⟨m1,m2,m3⟩:=Qu hmT
   have h4:=Zj m2 (i:=a) (by omega)
   have h5:=Xq m2 (i:=a) (by omega)
   have hzl:=Qwj tl a x k
   have hst:=Qrh tl a x k hkl hno
   have hdr:tl.drop k=tl.getD k t0n::tl.drop (k+1):=by
    rw [List.drop_eq_getElem_cons (by omega)];simp [List.getD,show k<tl.length by omega]
   have hnx:(Qfn tl a x k).set a ((Qfn tl a x k).getD a 0 - (tl.getD k t0n).shape.getD a 0)=Qfn tl a x (k+1):=rfl
   have hofs:=Qe4 (tl.getD k t0n).shape (Qfn tl a x k) (by omega) (by omega)
   generalize hz:Qfn tl a x k=z at *;generalize hTT:tl.getD k t0n=T at *
   have a0:∀ Y,Qc (H++Y) 0=some ⟨70,3,[.bool false,.nil,.nil]⟩:=fun Y=>Qd h0 Y
   have ar:∀ Y,Qc (H++Y) r=some ⟨3,1,ints z⟩:=fun Y=>Qd hr Y
   have hw:∀ Y,Bv.Own 3 1 (H++Y) (.ref r 0 x.length) z.length (ints z):=fun Y=>by rw [hzl];exact .inr ⟨r,rfl,ar Y,by rw [Yj];omega⟩
   refine zH1 hTT ?_;refine (Val.ofPu hofs rfl rfl).call ⟨.self (by simp [clo,Qa]),(hw _).bor' (Qa _),trivial⟩ rfl ?_
   by_cases hoff:Qco T.shape z=0
   ·obtain ⟨o1,o2,o3⟩:=Qkg hoff
    have hel:(T.el.length:Int)=Qx T.shape:=by
     rw [Jn,if_neg (by omega)] at hfT
     split at hfT
     ·cases hfT
     ·rename_i h;rw [Xf,if_pos o3] at h;omega
    obtain ⟨m,hm⟩:∃ m:Nat,Qf0 T.shape z=m:=⟨(Qf0 T.shape z).toNat,by omega⟩
    have hlt:m<T.el.length:=by omega
    have hcr:Qfo tl a x=(T.el.getD m r0,true):=by rw [hst,hdr,Qfo,if_pos hoff,Qj7,hm];rfl
    rw [hcr,hoff,hm]
    have hst0:∀ Y (z:Row),Qc ((H++Y).set 0 (some z)) 0=some z:=fun Y z=>Qg (a0 Y)
    refine zH2 a0 hst0 ?_;exact .self (by simp [clo,Qh,Qm])
   ·skip
    refine zH3 ar Qao hnx ?_;exact ⟨tl.length - (k+1),by omega,k+1,by omega,Qbc hno (by rw [hTT,hz];exact hoff),rfl,by rw [Qe _ hr1];exact a0 _,Qg (ar _),(by (repeat' apply And.intro)<;>(first | rfl | omega | (congr 1;omega) | assumption | (congr 1;assumption)))⟩
  ·have hks:k=tl.length:=by omega
   subst hks
   have hcr:=Xe8 tl a x hno
   rw [hcr]
   have hst:∀ z:Row,Qc (H.set 0 (some z)) 0=some z:=fun z=>Qg h0
   refine zH2 h0 hst ?_;exact Bor.tupL ⟨Bor.aggL ⟨.self rfl,.nil _,.nil _,trivial⟩,.self rfl,trivial⟩
 ·exact ⟨0,by omega,fun j hj=>by omega,rfl,rfl,hr0,rfl,rfl,rfl,rfl,rfl,rfl,rfl,rfl⟩
theorem Qs0 (s:List Int) (f:Nat) (caps:List V) (p:Nat→Raw) (N:Nat) (hs:s.length≤1000000000) (hm:Xa s=0) (hN:(N:Int)=Qx s) (hc:Qh caps=true)
  (hp:∀ i,i<N→Pu C f (.sl (Jk s (i:Nat)).length (ints (Jk s (i:Nat)))::caps) (.tup [Zx (p i),.bool true])) :
  Pu C 105 [.sl s.length (ints s),.agg [.bool false,.nil,.nil],.fn (.func f) [] caps] (.sl N (Qv (Qfk N r0 p (fun _=>true)))):=by
 obtain ⟨m1,m2,m3⟩:=Qu hm
 have hct:Xf s=(N:Int):=by rw [Xf,if_pos hm,hN]
 refine Fc.valO (e:=70) (s:=3) ?_ (Qi _);refine zK Qf Tryz.func105 w105 Tryz.ntmps105 Tryz.results105 ?_;refine zG ?_;refine Fc.pure (Qcx s (by omega)) (by simp [go_sem,Qh,clo,Qa,Qn]) (by intro g;simp only [go_sem,ren,Qk]) ?_
 rw [hct];refine zG ?_;refine Qj (fun n ts H=>∃ (i:Nat) (u:V),(i≤N)∧(n=N - i)∧(Qc H 0=some ⟨70,3,[.bool false,.nil,.nil]⟩)∧(Bv.Own 70 3 H u i (Qv (Qfk i r0 p (fun _=>true))))∧((∀ r off m,u=.ref r off m→1≤r))∧ts.length=39∧nth ts 0=.sl s.length (ints s)∧nth ts 2=.fn (.func f) [] caps∧nth ts 4=.ptr 0 0∧nth ts 7=u∧nth ts 14=.int .i64 (N:Nat)∧nth ts 15=.int .i64 (i:Nat)) ?_ (n:=N) ?_
 ·skip
  rintro n ts H ⟨i,u,hi,hn,h0,hu,hr,hL,hs0,hs2,hs4,hs7,hs14,hs15⟩;refine Xc [(0,.sl s.length (ints s)),(2,.fn (.func f) [] caps),(4,.ptr 0 0),(7,u),(14,.int .i64 (N:Nat)),(15,.int .i64 (i:Nat))] hL (by simp only [zFm,hs0,hs2,hs4,hs7,hs14,hs15,true_and];exact zNm) ?_
  clear hL hs0 hs2 hs4 hs7 hs14 hs15 ts
  refine Qz Qf ?_;by_cases hcase:i<N
  ·skip
   refine zG ?_;refine (Qii s (i:Nat) hs hm (by omega) (by omega)).call ⟨.self (by simp [clo,Qa]),.self rfl,trivial⟩ (by simp [clo,Qh,Qa]) ?_
   refine zG ?_;refine Fc.pure (hp i hcase) (by simp [Qh,clo,Qa,hc]) (fun g=>by simp [ren,Qk,Zx,NA,Qaf]) ?_
   have hkeep:∀ X,Qc (H++X) 0=some ⟨70,3,[.bool false,.nil,.nil]⟩:=fun X=>Qd h0 X
   have hlen:=Xg h0
   refine zH1 hkeep ?_;refine Qn0 hu rfl rfl (by omega) fun v' H' hu' hk hr'=>?_
   have h0':=hk 0 _ (fun off m e=>by have:=hr _ _ _ e;omega) h0
   have hg:Qv (Qfk (i+1) r0 p (fun _=>true))=Qv (Qfk i r0 p (fun _=>true)++[p i]):=by rw [Qly];rfl
   rw [← hg] at hu';refine zG ?_;exact ⟨N - (i+1),by omega,i+1,v',(by (repeat' apply And.intro)<;>(first | rfl | omega | (congr 1;omega) | assumption | (congr 1;assumption)))⟩
  ·skip
   refine zG ?_
   have:i=N:=by omega
   subst this;exact Own.ret hu (fun g=>Yt _ _ (Qi _)) fun v H h=>h
 ·exact ⟨0,.nil,by omega,rfl,rfl,.inl ⟨rfl,rfl,rfl⟩,(fun r off m e=>nomatch e),rfl,rfl,rfl,rfl,rfl,rfl,rfl⟩
theorem Qpa:∀ (tl:List Tn) (a:Nat) (x:List Int) (n:Nat),x.length=n→a<n→(∀ j,j<tl.length→Xa (tl.getD j t0n).shape=0∧(tl.getD j t0n).shape.length=n)→(∀ j,j<tl.length→∀ i,i<n→i≠a→0≤x.getD i 0∧x.getD i 0<(tl.getD j t0n).shape.getD i 0)→0≤x.getD a 0→x.getD a 0<(tl.map fun t=>t.shape.getD a 0).foldr (·+·) 0→(Qfo tl a x).2=true
 | [],a,x,n,hx,ha,hm,hi,h0,h1=>by simp only [List.map_nil,List.foldr_nil] at h1;omega
 | t::tl,a,x,n,hx,ha,hm,hi,h0,h1=>by
  rw [Qfo];by_cases hz:Qco t.shape x=0
  ·rw [if_pos hz]
  ·rw [if_neg hz]
   have e0:(t::tl).getD 0 t0n=t:=rfl
   obtain ⟨hm0,hl0⟩:=hm 0 (by simp)
   rw [e0] at hm0 hl0
   have hge:t.shape.getD a 0≤x.getD a 0:=by
    refine Int.not_lt.1 fun hlt=>hz ?_
    rw [Qco,if_neg (by omega),if_neg (by omega),if_pos]
    refine Qnc.2 fun i hi'=>?_
    by_cases hia:i=a
    ·subst hia;exact ⟨h0,hlt⟩
    ·have:=hi 0 (by simp) i (by omega) hia
     rwa [e0] at this
   have hg:∀ i,(x.set a (x.getD a 0 - t.shape.getD a 0)).getD i 0=if i=a then x.getD a 0 - t.shape.getD a 0 else x.getD i 0:=fun i=>by
    by_cases hia:i=a
    ·subst hia;simp [List.getD,hx,ha]
    ·rw [if_neg hia];simp [List.getD,Ne.symm hia]
   refine Qpa tl a _ n (by simp [hx]) ha (fun j hj=>by have:=hm (j+1) (by simpa using hj);simpa using this) (fun j hj i hi' hia=>?_) ?_ ?_
   ·rw [hg,if_neg hia]
    have:=hi (j+1) (by simpa using hj) i hi' hia
    simpa using this
   ·rw [hg,if_pos rfl];omega
   ·rw [hg,if_pos rfl];simp only [List.map_cons,List.foldr_cons] at h1;omega
theorem Xmy (k:Nat) (hk:k<4294967296):(BitVec.ofInt 64 (k:Int) &&& BitVec.ofInt 64 4294967295).toNat=k:=by
 rw [BitVec.toNat_and]
 have e1:(BitVec.ofInt 64 (k:Int)).toNat=k:=(show (BitVec.ofNat 64 k).toNat=k by rw [BitVec.toNat_ofNat];omega)
 rw [e1,show (BitVec.ofInt 64 4294967295).toNat=2 ^ 32 - 1 from rfl,Nat.and_two_pow_sub_one_eq_mod];omega
theorem Xh2 (x:Int) (h:x=0):(BitVec.ofInt 64 x &&& BitVec.ofInt 64 4294967295).toNat=0:=by subst h;decide
theorem Xo5 (k:Nat) (hk:k<18446744073709551616):IntKind.u64.wrap (k:Int)=k:=by
 have h:=Int.emod_eq_of_lt (a:=(k:Int)) (b:=18446744073709551616) (by omega) (by omega)
 exact h
theorem Xol (y A B:Nat) (hy:y<4294967296) (hA:A=y) (hB:B=1):IntKind.u64.wrap (IntKind.u64.wrap (Int.fdiv 1 (2 ^ min 32 64)*(A:Int))+(IntKind.u64.wrap ((B:Int)*(A:Int))).fdiv (2 ^ min 32 64))=0:=by
 subst hA hB;rw [show (2:Int) ^ min 32 64=4294967296 from rfl,show Int.fdiv 1 4294967296=0 from rfl,Int.zero_mul,show ((1:Nat):Int)*(A:Int)=(A:Nat) by omega,Xo5 A (by omega),Int.fdiv_eq_ediv_of_nonneg _ (by decide),show (A:Int)/4294967296=0 by omega]
 rfl
theorem Xtm (y A B M:Nat) (hy:y<4294967296) (hA:A=y) (hB:B=1) (hM:M=0):IntKind.u64.wrap (IntKind.u64.wrap (IntKind.u64.wrap (Int.fdiv 1 (2 ^ min 32 64)*(y:Int).fdiv (2 ^ min 32 64))+(IntKind.u64.wrap (IntKind.u64.wrap (Int.fdiv 1 (2 ^ min 32 64)*(A:Int))+(IntKind.u64.wrap ((B:Int)*(A:Int))).fdiv (2 ^ min 32 64))).fdiv (2 ^ min 32 64))+(IntKind.u64.wrap ((M:Int)+IntKind.u64.wrap ((B:Int)*(y:Int).fdiv (2 ^ min 32 64)))).fdiv (2 ^ min 32 64))=0:=by
 rw [Xol y A B hy hA hB];subst hA hB hM;rw [show (2:Int) ^ min 32 64=4294967296 from rfl,show Int.fdiv 1 4294967296=0 from rfl,Int.zero_mul,show (A:Int).fdiv 4294967296=0 by rw [Int.fdiv_eq_ediv_of_nonneg _ (by decide)];omega]
 rfl
theorem Xd5 (y:Nat) (hy:y<4294967296):Pu C 197 [.int .u64 1,.int .u64 (y:Nat)] (.tup [.int .u64 0,.int .u64 (y:Nat)]):=by
 have a1:=Xmy y hy
 have b1:(BitVec.ofInt 64 1 &&& BitVec.ofInt 64 4294967295).toNat=1:=by decide
 refine zK Qf Tryz.func197 w197 Tryz.ntmps197 Tryz.results197 ?_;refine zG ?_
 (refine Qo (by intro g;simp only [go_sem,ren,Qk]) ?_)
 rw [Int.one_mul];exact congrArg (fun z=>V.tup [V.int .u64 z,V.int .u64 (y:Int)]) (Xtm y _ _ _ hy a1 b1 (Xh2 _ (Xol y _ _ hy a1 b1)))
theorem mul_one (y:Nat) (hy:y<4294967296):Pu C 170 [.int .u64 1,.int .u64 (y:Nat)] (.tup [.int .u64 0,.int .u64 (y:Nat)]):=by
 have m:=Xd5 y hy
 refine zK Qf Tryz.func170 w170 Tryz.ntmps170 Tryz.results170 ?_;refine zG ?_;refine Fc.pure (m) (by simp [go_sem,Qh,clo,Qa,Qn]) (by intro g;simp only [go_sem,ren,Qk]) ?_
 refine zG ?_
 (refine Qo (by intro g;simp only [go_sem,ren,Qk]) ?_)
 rfl
theorem Qjb (a b:Nat) (e:List V):Xj (a+b) e=Xj a e++Xj b e:=by simp only [Xj,← List.replicate_append_replicate,List.flatten_append]
theorem Qup (e:List V):∀ (A B:List V),e.length≤B.length→Qa2 (A++B) A.length e=A++e++B.drop e.length:=by
 intro A B h;refine Qkj (by rw [Qaq];simp;omega) fun j=>?_
 rw [Qkh _ _ _ _ (by simp;omega)]
 simp only [Qls,List.length_append];by_cases h1:j<A.length
 ·rw [if_neg (by omega),if_pos h1,if_pos (by omega),if_pos h1]
 ·by_cases h2:j<A.length+e.length
  ·rw [if_pos ⟨by omega,h2⟩,if_pos h2,if_neg h1]
  ·rw [if_neg (by omega),if_neg h1,if_neg h2,Qf2]
   congr 1;omega
theorem Xct {e z:List V} {k N:Nat} (he:e.length=3) (hz:z.length=3) (hk:k≤N) (c:Nat) (hc:c=min k (N - k)):Qa2 (Xj k e++Xj (N - k) z) (k*3) ((Xj k e).take (c*3))=Xj (k+c) e++Xj (N - (k+c)) z:=by
 have l1:(Xj k e).length=k*3:=by rw [Xs,he]
 have l2:(Xj (N - k) z).length=(N - k)*3:=by rw [Xs,hz]
 have hck:c≤k:=by omega
 have hcn:c≤N - k:=by omega
 have t1:(Xj k e).take (c*3)=Xj c e:=by
  rw [show k=c+(k - c) by omega,Qjb,List.take_append_of_le_length (by rw [Xs,he];exact Nat.le_refl _),List.take_of_length_le (by rw [Xs,he];exact Nat.le_refl _)]
 rw [t1,← l1,Qup _ _ _ (by rw [Xs,he,l2];omega),Qjb]
 congr 1
 rw [show N - k=c+(N - (k+c)) by omega,Qjb,List.drop_append_of_le_length (by rw [Xs,Xs,he,hz];exact Nat.le_refl _)]
 rw [show (Xj c e).length=(Xj c z).length by rw [Xs,Xs,he,hz],List.drop_length]
 rfl
def zR:List V:=[.bool false,.nil,.nil]
theorem Xd9 {ty:TypeId→Ty} {t e n:Nat} {H:Qb} {K:V→Qb→Prop} (hs:(ty t).sl=some e) (hok:(ty e).ok=true) (hz:Ja (ty e)=zR) (h1:(ty e).size=3) (hb:(ty e).bytes=56) (hn:n≤1000000)
  (h:K (.ref H.length 0 n) (H++[some ⟨e,3,Xj n zR⟩])):Qci ty t (.int .i64 n) (.int .i64 n) H K:=by
 simp only [Qci,hs];refine ⟨hok,trivial,by omega,by omega,by rw [hb];simp;omega, ?_⟩
 rw [h1,hz];exact h
theorem Xbf {y:Ty} {r off n m:Nat} {e s:Nat} {cs news:List V} {x:V} {H:Qb} {K:V→Qb→Prop} (hr:Qc H r=some ⟨e,s,cs⟩) (hx:Ka y x H=some (m,news)) (hl:news.length=m*y.size) (hs:news.all Yq=true) (hy:0<y.size) (hm:0<m) (hn:0<n) (hf:off+min m n*y.size≤cs.length)
  (hK:K (.int .i64 (min m n:Nat)) (H.set r (some ⟨e,s,Qa2 cs off (news.take (min m n*y.size))⟩))):Qdm y (.ref r off n) x H K:=by
 simp only [Qdm,hx,hr];exact ⟨hl,hs,hy,hm,hn,hf,hK⟩
theorem Xgc {ty:TypeId→Ty} {e r off n l:Nat} {H:Qb} {K:V→Prop} (ho:(ty e).ok=true) (hs:0<(ty e).size) (hr:(Qc H r).isSome=true) (hl:l<n) (hK:K (.ref r (off+l*(ty e).size) (n - l))):Qud ty (some e) (.ref r off n) (l:Nat) H K:=by
 simp only [Qud];exact ⟨ho,hs,by omega,hr,by omega,fun h=>by omega,fun _=>by simpa using hK⟩
theorem Xgd {ty:TypeId→Ty} {e r off n h:Nat} {H:Qb} {K:V→Prop} (ho:(ty e).ok=true) (hs:0<(ty e).size) (hr:(Qc H r).isSome=true) (h0:0<h) (hl:h≤n) (hK:K (.ref r off h)):Qnr ty (some e) (.ref r off n) (h:Nat) H K:=by
 simp only [Qnr];exact ⟨ho,hs,by omega,hr,by omega,fun h=>by omega,fun _=>by simpa using hK⟩
theorem Qsk (e:List V):Xj 1 e=e:=by simp [Xj]
theorem Qwb:∀ (a b:List V),Qh a=true→Qh b=true→Qh (a++b)=true
 | [],b,_,h=>h
 | x::a,b,h,hb=>by
  simp only [Qh,Bool.and_eq_true,List.cons_append] at h ⊢;exact ⟨h.1,Qwb a b h.2 hb⟩
theorem Qyl {e:List V} (he:Qh e=true):∀ k,Qh (Xj k e)=true
 | 0=>rfl
 | k+1=>by rw [Qjb];exact Qwb _ _ (Qyl he k) (by rw [Qsk];exact he)
theorem Xa3 {e:List V} (he:e.all Yq=true):∀ k,(Xj k e).all Yq=true
 | 0=>rfl
 | k+1=>by rw [Qjb,List.all_append,Xa3 he k];simpa [Xj] using he
theorem Qum (e:List V) (he:e.length=3) (hs:e.all Yq=true) (hc:Qh e=true) (N:Nat) (h1:0<N) (hN:N≤1000000):Fc C 141 [.sl 1 e,.int .i64 (N:Nat)] [] fun v H=>Ret 70 3 H v N (Xj N e):=by
 have m:=mul_one N (by omega)
 have hzl:zR.length=3:=rfl
 refine zK Qf Tryz.func141 w141 Tryz.ntmps141 Tryz.results141 ?_;refine zG ?_;refine Fc.pure m (by simp [Qh,clo]) (fun g=>rfl) ?_
 refine zG ?_;refine Xd9 rfl rfl rfl rfl rfl hN ?_;refine zG ?_;refine Xbf (y:=C.ty 70) (cs:=Xj N zR) (news:=e) (m:=1) rfl rfl (by rw [he];rfl) hs (by decide) (by decide) h1 (by rw [Xs,hzl];show 0+min 1 N*3≤_;rw [Nat.min_eq_left h1];omega) ?_
 rw [Nat.min_eq_left h1]
 have e1:Qa2 (Xj N zR) 0 (e.take (1*(C.ty 70).size))=Xj 1 e++Xj (N - 1) zR:=by
  rw [show (C.ty 70).size=3 from rfl,List.take_of_length_le (by omega)]
  have:=Qup e [] (Xj N zR) (by rw [Xs,he,hzl];omega)
  simp only [List.nil_append,List.length_nil] at this;rw [this]
  have e2:N=1+(N - 1):=by omega
  have e3:=Qjb 1 (N - 1) zR
  rw [Qsk,← e2] at e3;rw [e3,he,← hzl,List.drop_left,Qsk]
 rw [e1];refine zG ?_;refine Qj (fun n ts H=>∃ (k:Nat),(1≤k)∧(k≤N)∧(H=[some ⟨70,3,Xj k e++Xj (N - k) zR⟩])∧(n=N - k)∧ts.length=48∧nth ts 7=.ref 0 0 N∧nth ts 8=.int .i64 (k:Nat)) ?_ (n:=N - 1) ?_
 ·skip
  rintro n ts H ⟨k,hk1,hk,h0,hn,hL,hs7,hs8⟩;refine Xc [(7,.ref 0 0 N),(8,.int .i64 (k:Nat))] hL (by simp only [zFm,hs7,hs8,true_and];exact zNm) ?_
  clear hL hs7 hs8 ts
  refine Qz Qf ?_;subst h0 hn;by_cases hkN:k<N
  ·skip
   refine zG ?_;refine Xgc (by rfl) (by decide) rfl hkN ?_
   refine zG ?_;refine Xgd (by rfl) (by decide) rfl (by omega) (by omega) ?_
   refine zG ?_
   have l1:(Xj k e).length=k*3:=by rw [Xs,he]
   rw [opd,if_pos (by rfl)]
   refine zG ?_;refine Xbf (y:=C.ty 70) (r:=0) (e:=70) (s:=3) (H:=[some ⟨70,3,Xj k e++Xj (N - k) zR⟩]) (cs:=Xj k e++Xj (N - k) zR) (news:=Xj k e) (m:=k) rfl ?_ l1 (Xa3 hs k) (by decide) (by omega) (by omega) ?_ ?_
   ·simp only [Ka,Qg0,List.drop_zero];rw [show (C.ty 70).size=3 from rfl,← l1,List.take_left']
    rfl
   ·rw [List.length_append,l1,Xs,hzl,show (C.ty 70).size=3 from rfl];omega
   rw [show (C.ty 70).size=3 from rfl,Xct he hzl hk _ rfl];refine zG ?_;exact ⟨N - (k+min k (N - k)),by omega,k+min k (N - k),by omega,by omega,rfl,rfl,by congr 1⟩
  ·obtain rfl:k=N:=by omega
   refine zG ?_;rw [Nat.sub_self,show Xj 0 zR=[] from rfl,List.append_nil]
   have hO:Bv.Own 70 3 [some ⟨70,3,Xj k e⟩] (.ref 0 0 k) k (Xj k e):=.inr ⟨0,rfl,rfl,by rw [Xs,he]⟩
   exact hO.ret (fun g=>Yt g _ (Qyl hc k)) fun v H h=>h
 ·exact ⟨1,by omega,by omega,rfl,rfl,rfl,rfl,rfl⟩
theorem Qbm {e s:Nat} {H:Qb} {w:V} {n:Nat} {cs:List V} (hw:Bv.Own e s H w n cs):kn w=true∧cellsOf w=[w]∧Yq w=true:=by
 rcases hw with ⟨rfl,_⟩ | ⟨r,rfl,_⟩<;>exact ⟨rfl,rfl,rfl⟩
theorem Qln {e s e' s':Nat} {H:Qb} {u v:V} {n n':Nat} {cs cs':List V} (hu:Bv.Own e s H u n cs) (hv:Bv.Own e' s' H v n' cs') (hne:e≠e'):∀ q off n m,u=.ref q off n→v≠.ref q 0 m:=by
 rintro q off k m rfl rfl;rcases hu with ⟨h,_⟩ | ⟨r,h,hr,_⟩
 ·cases h
 injection h with h1
 subst h1;rcases hv with ⟨h,_⟩ | ⟨r',h,hr',_⟩
 ·cases h
 injection h with h1
 subst h1;rw [hr] at hr';injection hr' with hr'
 injection hr' with h1
 exact hne h1
theorem Qcu {l:List Raw} {i:Nat} (h:i<l.length):l.getD i r0∈l:=by
 simp only [List.getD,List.getElem?_eq_getElem h,Option.getD_some];exact List.getElem_mem _
theorem Xb9 {F:Raw→Rq} {l:List Raw} {i:Nat} (h:i<l.length):((l.map F).map Qt).take i++[Qt (F (l.getD i r0))]=((l.map F).map Qt).take (i+1):=by
 rw [List.take_add_one];simp [List.getD,h]
theorem Qbg {e s:Nat} {H:Qb} {v:V} {n:Nat} {cs:List V} (h:Bv.Own e s H v n cs) (hc:Qh cs=true):Bor H v (.sl n cs):=h.bor' hc
theorem Qbq {H:Qb} {p:Tn} {e k:Int} (h:e=k) (hk:k≠0):Bor H (.tup [.agg [.nil,.nil],.int .i64 k]) (.tup [tnV (Kv p e),.int .i64 e]):=by
 rw [Qs6 (by omega),h]
 exact Bor.tupL ⟨Bor.aggL ⟨.nil _,.nil _,trivial⟩,.self rfl,trivial⟩
theorem Qn1 {y:Ty} {e e' s' k:Nat} {v:V} {H:Qb} {xs:List Raw} {r:Rq} {K:V→Qb→Prop} (h:Bv.Own e 3 H v k (Qv xs)) (hk:k=xs.length) (hy:y.size=3) (hb:y.bytes=56) (hl:xs.length≤1000000000)
  (hK:∀ H',Bv.Own e 3 H' (.ref (H.length+1) 0 (k+1)) (k+1) (Qv (xs++[Qt r]))→Fr v H H'→H'.length=H.length+2→K (.ref (H.length+1) 0 (k+1)) H') :
  Qbb y e v (.ref H.length 0 1) (H++[some ⟨e',s',[.bool r.neg,Xu r.num,Xu r.den]⟩]) K:=by
 rw [← hy] at h;refine Qgg h (by rw [hy];rfl) (by simp [Yq,Xu,NA]) (by omega) (by omega) (by rw [hb];omega) (Qny _) fun H' k1 k2 k3=>?_
 rw [hy] at k1;exact hK H' (by rw [Qqm];exact k1) k2 k3
def Qda (F:Raw→Rq) (t:Tn):Tn:=⟨t.shape,(t.el.map F).map Qt⟩
theorem Qga (t:Tn) (ht:TnOK t) (f:Nat) (caps:List V) (hc:Qh caps=true) (F:Raw→Rq) (hF:∀ x∈t.el,Pu C f (Zx x::caps) (Kj (F x))) :
  Pu C 74 [tnV t,.fn (.func f) [] caps] (.tup [tnV (Kv (Qda F t) (Xv t)),.int .i64 (Xv t)]):=by
 have hs:=ht.s
 have he:=ht.e
 refine Pu.ofBor (by simp [clo,Qh,Qcc]) ?_
 refine zL Qf Tryz.func74 w74 Tryz.ntmps74 Tryz.results74 ?_;refine zG ?_;refine Fc.pure (Zr t ht) (by simp [Qh,clo,Qa,Qi]) (fun g=>rfl) ?_
 by_cases hm:Xv t=0
 case neg =>
  refine zG ?_;exact Qbq rfl hm
 rw [hm,Ye rfl];refine zG ?_;refine Fc.own (Qay t.shape (by omega)) (by simp [Qh,clo,Qa]) (fun g=>Ql g _) fun sv X hsv=>?_
 obtain ⟨k0,c0,s0⟩:=Qbm hsv;refine zH3 k0 c0 s0 ?_;obtain ⟨P,hP⟩:∃ P,X.length+2=P:=⟨_,rfl⟩;rw [hP]
 have hv0:=hsv.keep [some (⟨34,2,[sv,.nil]⟩:Row)]
 refine Qj (fun n ts H=>∃ (i:Nat) (u:V),(i≤t.el.length)∧(Qc H 1=some ⟨34,2,[.nil,.nil]⟩)∧(Qc H P=some ⟨34,2,[sv,u]⟩)∧(Bv.Own 3 1 H sv t.shape.length (ints t.shape))∧(Bv.Own 70 3 H u i (Qv (((t.el.map F).map Qt).take i)))∧(n=t.el.length - i)∧ts.length=37∧nth ts 1=.fn (.func f) [] caps∧nth ts 4=.ptr 1 0∧nth ts 7=.ptr P 0∧nth ts 21=.sl t.el.length (Qv t.el)∧nth ts 22=.int .i64 (t.el.length:Nat)∧nth ts 23=.int .i64 (i:Nat)) ?_ (n:=t.el.length) ?_
 ·skip
  rintro n ts H ⟨i,u,hi,h1,hp,hv,hu,hn,hL,hs1,hs4,hs7,hs21,hs22,hs23⟩;refine Xc [(1,.fn (.func f) [] caps),(4,.ptr 1 0),(7,.ptr P 0),(21,.sl t.el.length (Qv t.el)),(22,.int .i64 (t.el.length:Nat)),(23,.int .i64 (i:Nat))] hL (by simp only [zFm,hs1,hs4,hs7,hs21,hs22,hs23,true_and];exact zNm) ?_
  clear hL hs1 hs4 hs7 hs21 hs22 hs23 ts
  refine Qz Qf ?_;subst hn
  have hPl:=Xg hp
  have c1:∀ Y,Qc (H++Y) 1=_:=fun Y=>Qd h1 Y
  have cp:∀ Y,Qc (H++Y) P=_:=fun Y=>Qd hp Y
  have mst:∀ (x:Row),Qc (H++[some x]) H.length=some x:=fun x=>Xo _ _
  have mst2:∀ (x y:Option Row),(H++[x]).set H.length y=H++[y]:=fun x y=>by rw [List.set_append_right _ _ (Nat.le_refl _),Nat.sub_self];rfl
  obtain ⟨k4,c4,s4⟩:=Qbm hu;by_cases hie:i<t.el.length
  ·have hx:=hF (t.el.getD i r0) (Qcu hie)
   refine zH2 mst mst2 ?_;refine RunU.now ?_;refine zH3 mst mst2 cp ?_
   have eG:∃ G:Qb,G=H++[some ⟨70,3,[.bool (t.el.getD i r0).neg,.sl (t.el.getD i r0).num.length (Xh .u32 (t.el.getD i r0).num),.sl (t.el.getD i r0).den.length (Xh .u32 (t.el.getD i r0).den)]⟩]:=⟨_,rfl⟩
   obtain ⟨G,hG⟩:=eG;rw [← hG]
   have q1:Qc G 1=_:=(congrArg (fun G=>Qc G 1) hG).trans (c1 _)
   have qp:Qc G P=_:=(congrArg (fun G=>Qc G P) hG).trans (cp _)
   have qv:Bv.Own 3 1 G sv t.shape.length (ints t.shape):=by rw [hG];exact hv.keep _
   have qu:Bv.Own 70 3 G u i (Qv (((t.el.map F).map Qt).take i)):=by rw [hG];exact hu.keep _
   clear hG c1 cp mst mst2 h1 hp hv hu
   have qL:=Xg qp
   have cp:∀ Y,Qc (G++Y) P=_:=fun Y=>Qd qp Y
   refine Pc.pure hx (by simp [Qh,clo,Qm,hc]) (fun g=>Qy _ _ (Qp (Qt (F (t.el.getD i r0))))) ?_
   have hpu:=Xb9 (F:=F) hie
   generalize F (t.el.getD i r0)=r at *;refine zH4 k4 c4 s4 cp ?_;refine Qn1 qu (by simp;omega) rfl rfl (by simp;omega) fun H' hu' hF' hl'=>?_
   have g1:=Xz qu hF' q1 (by decide)
   have gp:=Xz qu hF' qp (by decide)
   have gv:=qv.fr hF' (Qln qu qv (by decide))
   rw [hpu] at hu';refine zH1 gp ?_;refine ⟨t.el.length - (i+1),by omega,i+1,_,by omega, ?_,Qg gp, ?_, ?_,rfl,(by (repeat' apply And.intro)<;>(first | rfl | omega | (congr 1;omega) | assumption | (congr 1;assumption)))⟩
   ·rw [Qe _ (by omega)];exact g1
   ·exact Ym gv gp (by decide)
   ·exact Ym hu' gp (by decide)
  ·have hil:i=t.el.length:=by omega
   subst hil;rw [List.take_of_length_le (by simp)] at hu
   have hs1:∀ z:Row,Qc (H.set 1 (some z)) 1=some z:=fun z=>Qg h1
   (apply Zo;repeat' ((with_reducible first|apply Zk|apply zBr<;>intro h)<;>try simp -implicitDefEqProofs (maxSteps:=9^7) (disch:=first|exact zDs|fail) only [go_sem,h1,hp,hs1,k0,c0,s0,k4,c4,s4]))
   refine Bor.tupL ⟨Bor.aggL ⟨Qbg (Ym hv h1 (by decide)) (Qa _), ?_,trivial⟩,.self rfl,trivial⟩
   have:=Qbg (Ym (z:=some ⟨34,2,[sv,u]⟩) hu h1 (by decide)) (Qi _)
   simpa [Qda] using this
 ·refine ⟨0,.nil,by omega,rfl, ?_,hv0,.nil _ _ _,rfl,rfl,rfl,rfl,rfl,rfl,rfl,rfl⟩
  rw [← hP];simp [Qc]
theorem Xx (t:Tn) (e:Int):clo (.tup [tnV t,.int .i64 e])=true:=by simp [clo,Qh,Qcc]
theorem Xc7 (t:Tn) (ht:TnOK t):Pu C 29 [tnV t] (.tup [tnV (Kv (Qda (fun x=>Qkl (Xd x)) t) (Xv t)),.int .i64 (Xv t)]):=by
 have he:=Qga t ht 75 [] rfl (fun x=>Qkl (Xd x)) fun x hx=>Qqi x (ht.r x hx)
 generalize Kv (Qda (fun x=>Qkl (Xd x)) t) (Xv t)=T at *
 refine Pu.ofBor (Xx T _) ?_;refine zL Qf Tryz.func29 w29 Tryz.ntmps29 Tryz.results29 ?_;refine zG ?_;refine Fc.pure he (by simp [Qh,clo,Qa,Qi]) (fun g=>Qy _ _ (Xx T _)) ?_
 refine zG ?_;exact .self (by simp [clo,Qh,Qa,Qi])
def Qqk (x:Raw):Rq:=if Qfr (Xd x)<0 then Yr 0 else Xd x
theorem Qxt (x:Raw) (hx:RawOK x):Pu C 79 [Zx x] (Kj (Qqk x)):=by
 have hsg:=Qnu x hx
 have nx:=Qas x hx
 have h1:-1≤Qfr (Xd x)∧Qfr (Xd x)≤1:=by unfold Qfr;split<;>(try split)<;>omega
 unfold Qqk;generalize Qfr (Xd x)=sg at *;generalize Xd x=R at *;by_cases h:sg<0
 ·rw [if_pos h];refine Pu.ofBor (Qp (Qt (Yr 0))) ?_;refine zL Qf Tryz.func79 w79 Tryz.ntmps79 Tryz.results79 ?_;refine zG ?_;refine Fc.pure hsg (by simp [Qh,clo,Qm]) (fun g=>rfl) ?_
  refine zG ?_;refine (Qig 0 (by decide) (by decide)).call ⟨.self rfl,trivial⟩ (Qp (Qt (Yr 0))) ?_
  refine zG ?_;exact .self (Qp (Qt (Yr 0)))
 ·rw [if_neg h];refine Pu.ofBor (Qp (Qt R)) ?_;refine zL Qf Tryz.func79 w79 Tryz.ntmps79 Tryz.results79 ?_;refine zG ?_;refine Fc.pure hsg (by simp [Qh,clo,Qm]) (fun g=>rfl) ?_
  refine zG ?_;refine nx.call ⟨.self (Qp _),trivial⟩ (Qp (Qt R)) ?_;refine zG ?_;exact .self (Qp (Qt R))
theorem Qxz (t:Tn) (ht:TnOK t):Pu C 31 [tnV t] (.tup [tnV (Kv (Qda Qqk t) (Xv t)),.int .i64 (Xv t)]):=by
 have he:=Qga t ht 79 [] rfl Qqk fun x hx=>Qxt x (ht.r x hx)
 generalize Kv (Qda Qqk t) (Xv t)=T at *;refine Pu.ofBor (Xx T _) ?_;refine zL Qf Tryz.func31 w31 Tryz.ntmps31 Tryz.results31 ?_;refine zG ?_;refine Fc.pure he (by simp [Qh,clo,Qa,Qi]) (fun g=>Qy _ _ (Xx T _)) ?_
 refine zG ?_;exact .self (by simp [clo,Qh,Qa,Qi])
def Qqe (x:Raw):Rq:=Yr (if 0>Qfr (Xd x) then 0 else Qfr (Xd x))
theorem Qxf (x:Raw) (hx:RawOK x):Pu C 83 [Zx x] (Kj (Qqe x)):=by
 have hsg:=Qnu x hx
 have h1:-1≤Qfr (Xd x)∧Qfr (Xd x)≤1:=by unfold Qfr;split<;>(try split)<;>omega
 unfold Qqe;generalize Qfr (Xd x)=sg at *;refine Pu.ofBor (Qp (Qt (Yr (if 0>sg then 0 else sg)))) ?_
 have hi:=Qig (if 0>sg then 0 else sg) (by split<;>omega) (by split<;>omega)
 refine zL Qf Tryz.func83 w83 Tryz.ntmps83 Tryz.results83 ?_;refine zG ?_;refine Fc.pure hsg (by simp [Qh,clo,Qm]) (fun g=>rfl) ?_
 refine zG ?_;refine hi.call ⟨.self rfl,trivial⟩ (Qp (Qt (Yr _))) ?_;refine zG ?_;exact .self (Qp (Qt (Yr _)))
theorem Qxv (t:Tn) (ht:TnOK t):Pu C 32 [tnV t] (.tup [tnV (Kv (Qda Qqe t) (Xv t)),.int .i64 (Xv t)]):=by
 have he:=Qga t ht 83 [] rfl Qqe fun x hx=>Qxf x (ht.r x hx)
 generalize Kv (Qda Qqe t) (Xv t)=T at *;refine Pu.ofBor (Xx T _) ?_;refine zL Qf Tryz.func32 w32 Tryz.ntmps32 Tryz.results32 ?_;refine zG ?_;refine Fc.pure he (by simp [Qh,clo,Qa,Qi]) (fun g=>Qy _ _ (Xx T _)) ?_
 refine zG ?_;exact .self (by simp [clo,Qh,Qa,Qi])
theorem Xc5 (x:Raw) (hx:RawOK x) (k:Nat) (hl:x.num.length≤100000) (hd:x.den.length≤100000) (hk:k≤1000):Pu C 77 [Zx x,.rp [.int .i64 (k:Nat)] 0] (Kj (Qx1 (Xd x) k)):=by
 have hp:=Xco x hx k hl hd hk
 generalize Qx1 (Xd x) k=R at *;refine Pu.ofBor (Qp (Qt R)) ?_;refine zL Qf Tryz.func77 w77 Tryz.ntmps77 Tryz.results77 ?_;refine zG ?_;refine Fc.pure hp (by simp [Qh,clo,Qm]) (fun g=>Qy _ _ (Qp (Qt R))) ?_
 refine zG ?_;exact .self (Qp (Qt R))
def Qx2 (t:Tn) (n:Int):Int:=if Xv t≠0 then Xv t else if n<0∨16<n then 11 else 0
def Xqc (t:Tn) (n:Int):Tn:=Kv (Qda (fun x=>Qx1 (Xd x) n.toNat) t) (Qx2 t n)
theorem Xc4 (t:Tn) (ht:TnOK t) (n:Int) (hl:∀ x∈t.el,x.num.length≤100000∧x.den.length≤100000):Pu C 30 [tnV t,.int .i64 n] (.tup [tnV (Xqc t n),.int .i64 (Qx2 t n)]):=by
 have tm:=Zr t ht
 have hs:=ht.s
 have he:=ht.e
 unfold Xqc;by_cases hm:Xv t=0
 case neg =>
  refine Pu.ofBor (Xx _ _) ?_;refine zL Qf Tryz.func30 w30 Tryz.ntmps30 Tryz.results30 ?_;refine zG ?_;refine Fc.pure tm (by simp [Qh,clo,Qa,Qi]) (fun g=>rfl) ?_
  refine zG ?_;exact Qbq (by rw [Qx2,if_pos hm]) hm
 rw [hm] at tm;by_cases hn:n<0∨16<n
 ·refine Pu.ofBor (Xx _ _) ?_;refine zL Qf Tryz.func30 w30 Tryz.ntmps30 Tryz.results30 ?_;refine zG ?_;refine Fc.pure tm (by simp [Qh,clo,Qa,Qi]) (fun g=>rfl) ?_
  (refine zG ?_;(repeat' ((with_reducible apply zBr)<;>intro h<;>refine zG ?_))<;>try exact .intro)
  all_goals first | exact Qbq (by rw [Qx2,if_neg (by omega),if_pos (by omega)]) (by decide) | (exfalso;omega)
 ·obtain ⟨k,rfl⟩:∃ k:Nat,n=(k:Int):=⟨n.toNat,by omega⟩
  have he:=Qga t ht 77 [.rp [.int .i64 (k:Nat)] 0] rfl (fun x=>Qx1 (Xd x) k) fun x hx=>Xc5 x (ht.r x hx) k (hl x hx).1 (hl x hx).2 (by omega)
  have e0:Qx2 t (k:Int)=0:=by rw [Qx2,if_neg (by omega),if_neg (by omega)]
  rw [hm,Ye rfl] at he;rw [e0,Ye rfl,Int.toNat_natCast];generalize Qda (fun x=>Qx1 (Xd x) k) t=T at *
  refine Pu.ofBor (Xx T _) ?_;refine zL Qf Tryz.func30 w30 Tryz.ntmps30 Tryz.results30 ?_;refine zG ?_;refine Fc.pure tm (by simp [Qh,clo,Qa,Qi]) (fun g=>rfl) ?_
  refine zG ?_;refine Fc.sealed (r:=1) rfl (by simp [Qh,clo]) ?_
  simp only [szL,sz,if_true,List.drop_zero];rw [Yk _ _ _ (Qa _),Yk _ _ _ (Qi _)];refine Fc.pure he (by simp [Qh,clo,Qa,Qi]) (fun g=>Qy _ _ (Xx T _)) ?_
  refine zG ?_;exact .self (by simp [clo,Qh,Qa,Qi])
theorem Qui (x y:Raw) (hx:RawOK x) (hy:RawOK y):Pu C 84 [Zx x,.rp [.bool y.neg,NA y.num,NA y.den] 0] (Kj (Xm [x,y])):=by
 have hp:=Qlf x y hx hy
 generalize Xm [x,y]=R at *;refine Pu.ofBor (Qp (Qt R)) ?_;refine zL Qf Tryz.func84 w84 Tryz.ntmps84 Tryz.results84 ?_;refine zG ?_;refine Fc.pure hp (by simp [Qh,clo,Qm]) (fun g=>Qy _ _ (Qp (Qt R))) ?_
 refine zG ?_;exact .self (Qp (Qt R))
theorem Qmf (t:Tn) (ht:TnOK t) (y:Raw) (hy:RawOK y):Pu C 33 [tnV t,Zx y] (.tup [tnV (Kv (Qda (fun x=>Xm [x,y]) t) (Xv t)),.int .i64 (Xv t)]):=by
 have he:=Qga t ht 84 [.rp [.bool y.neg,NA y.num,NA y.den] 0] (by simp [Qh,clo,Xw]) (fun x=>Xm [x,y]) fun x hx=>Qui x y (ht.r x hx) hy
 generalize Kv (Qda (fun x=>Xm [x,y]) t) (Xv t)=T at *
 refine Pu.ofBor (Xx T _) ?_;refine zL Qf Tryz.func33 w33 Tryz.ntmps33 Tryz.results33 ?_;refine zG ?_;refine Fc.sealed (r:=1) rfl (by simp [Qh,clo,Qm]) ?_
 simp only [szL,sz,if_true,List.drop_zero];rw [Yk _ _ _ (Qa _),Yk _ _ _ (Qi _)];refine Fc.pure he (by simp [Qh,clo,Qa,Qi,Qm]) (fun g=>Qy _ _ (Xx T _)) ?_
 refine zG ?_;exact .self (by simp [clo,Qh,Qa,Qi])
def Qr9 (a b:List Raw):V:=.fn (.func 148) [] [.rp [.sl a.length (Qv a)] 0,.rp [.sl b.length (Qv b)] 0]
theorem Qut (a b:List Raw):Pu C 117 [.sl a.length (Qv a),.sl b.length (Qv b)] (Qr9 a b):=by
 refine Fc.keep (Fc.sealR (Fc.sealR ?_));refine zL Qf Tryz.func117 w117 Tryz.ntmps117 Tryz.results117 ?_;refine zG ?_;refine ⟨0,_,1,[.sl a.length (Qv a)],rfl,by simp [Qh,clo,Qi],1,_,1,[.sl b.length (Qv b)],rfl,by simp [Qh,clo,Qi],[],by simp,by simp, ?_⟩
 simp [sz,szL,ren,Qk,Qr9,Qck,Yk _ _ _ (Qi a),Yt _ _ (Qi a),Yk _ _ _ (Qi b),Yt _ _ (Qi b)]
theorem Xs4:Tryz.f148.body.all yOK=true:=by kernel_rfl
def Qhf (a b:List Raw):List (List V):=(List.range (min a.length b.length)).map fun i=>[Zx (a.getD i r0),Zx (b.getD i r0)]
theorem Qn4 {a b:List Raw} {i:Nat} (h:i<min a.length b.length):(Qhf a b)[i]?=some [Zx (a.getD i r0),Zx (b.getD i r0)]:=by simp [Qhf,h]
theorem Qgm (a b:List Raw):(Qhf a b).length=min a.length b.length:=by simp [Qhf]
theorem Qx0 (a b:List Raw) (ha:a.length≤1000000000) (hb:b.length≤1000000000):Gen C 148 [.rp [.sl a.length (Qv a)] 0,.rp [.sl b.length (Qv b)] 0] (Qhf a b):=by
 refine Gen.of3 Qf Tryz.func148 w148 Xs4 rfl Tryz.ntmps148 Tryz.results148 (zLe rfl) ?_ ?_
 ·intro bs hb;simp only [Qhf,List.mem_map,List.mem_range] at hb;obtain ⟨i,_,rfl⟩:=hb;simp [Qh,Qp]
 intro G l J hW;refine zG ?_;refine Jl (fun n ts H=>∃ (i:Nat),(i≤min a.length b.length)∧(n=min a.length b.length - i)∧(H.length=i)∧ts.length=25∧nth ts 0=.fn (.yield l) [] []∧nth ts 1=.rp [.sl a.length (Qv a)] 0∧nth ts 2=.rp [.sl b.length (Qv b)] 0∧nth ts 9=.int .i64 (min a.length b.length:Nat)∧nth ts 10=.int .i64 (i:Nat)) ?_ (n:=min a.length b.length) ?_
 ·skip
  rintro n ts H ⟨i,hi,hn,hH,hL,hs0,hs1,hs2,hs9,hs10⟩;refine Qdw [(0,.fn (.yield l) [] []),(1,.rp [.sl a.length (Qv a)] 0),(2,.rp [.sl b.length (Qv b)] 0),(9,.int .i64 (min a.length b.length:Nat)),(10,.int .i64 (i:Nat))] hL (by simp only [zFm,hs0,hs1,hs2,hs9,hs10,true_and];exact zNm) ?_
  clear hL hs0 hs1 hs2 hs9 hs10 ts
  refine hW _ _ _ _ ?_;by_cases hcase:i<min a.length b.length
  ·have ha1:i<a.length:=by omega
   have hb1:i<b.length:=by omega
   refine zG ?_;rw [hH,Qgm];refine ⟨Qn4 hcase,⟨min a.length b.length - (i+1),by omega,i+1,by omega,rfl,rfl,rfl⟩,.inr trivial,.inr ?_⟩
   rw [List.length_replicate];omega
  ·skip
   refine zG ?_;rw [Qgm];exact ⟨.inl trivial,.inl (by omega)⟩
 ·refine ⟨0,by omega,by omega,rfl,rfl,rfl,rfl,rfl, ?_,rfl⟩
  simp -implicitDefEqProofs (maxSteps:=9^7) (disch:=first | omega | (simp only [Je];omega)) only [go_sem]
  congr 1
  split<;>omega
def Qdl (F:Raw→Raw→Rq × Int) (a b:List Raw):Nat→Int
 | 0=>0
 | k+1=>if Qdl F a b k≠0 then Qdl F a b k else (F (a.getD k r0) (b.getD k r0)).2
theorem Qox {F:Raw→Raw→Rq × Int} {a b:List Raw} {k:Nat} (h:Qdl F a b k≠0):∀ j,Qdl F a b (k+j)=Qdl F a b k
 | 0=>rfl
 | j+1=>by
  have ih:=Qox h j
  rw [← Nat.add_assoc,Qdl,if_pos (by rw [ih];exact h),ih]
theorem Xjr {F:Raw→Raw→Rq × Int} {a b:List Raw} {k n:Nat} (h:Qdl F a b k≠0) (hn:k≤n):Qdl F a b n=Qdl F a b k:=by
 have:=Qox h (n - k)
 rwa [show k+(n - k)=n by omega] at this
def Qam (F:Raw→Raw→Rq × Int) (x y:Tn):Int:=if Xv x≠0 then Xv x else if Xv y≠0 then Xv y else if x.shape≠y.shape then 13 else Qdl F x.el y.el x.el.length
def Qfb (F:Raw→Raw→Rq × Int) (x y:Tn):Tn:=⟨x.shape,((List.range x.el.length).map fun i=>(F (x.el.getD i r0) (y.el.getD i r0)).1).map Qt⟩
theorem Qnl {g:Nat→Rq} {n i:Nat} (h:i<n):(((List.range n).map g).map Qt).take i++[Qt (g i)]=(((List.range n).map g).map Qt).take (i+1):=by
 rw [List.take_add_one];simp [h]
theorem Xc2 {y:Ty} {e e' s' k:Nat} {v:V} {H:Qb} {c:Option Row} {xs:List Raw} {r:Rq} {K:V→Qb→Prop} (h:Bv.Own e 3 H v k (Qv xs)) (hk:k=xs.length) (hy:y.size=3) (hb:y.bytes=56) (hl:xs.length≤1000000000)
  (hK:∀ v' H',Bv.Own e 3 H' v' (k+1) (Qv (xs++[Qt r]))→Fr v (H++[c]) H'→kn v'=true∧cellsOf v'=[v']∧Yq v'=true→K v' H') :
  Qbb y e v (.ref (H.length+1) 0 1) (H++[c,some ⟨e',s',[.bool r.neg,Xu r.num,Xu r.den]⟩]) K:=by
 rw [show H++[c,some (⟨e',s',[.bool r.neg,Xu r.num,Xu r.den]⟩:Row)]=(H++[c])++[some ⟨e',s',[.bool r.neg,Xu r.num,Xu r.den]⟩] by simp,show H.length+1=(H++[c]).length by simp]
 exact Qn1 (h.keep [c]) hk hy hb hl fun H' h1 h2 h3=>hK _ H' h1 h2 ⟨rfl,rfl,rfl⟩
theorem Qrk (x y:Tn) (hx:TnOK x) (hy:TnOK y) (f:Nat) (caps:List V) (hc:Qh caps=true) (F:Raw→Raw→Rq × Int) (hF:∀ a∈x.el,∀ b∈y.el,Pu C f (Zx a::Zx b::caps) (.tup [Kj (F a b).1,.int .i64 (F a b).2])) :
  Pu C 68 [tnV x,tnV y,.fn (.func f) [] caps] (.tup [tnV (Kv (Qfb F x y) (Qam F x y)),.int .i64 (Qam F x y)]):=by
 have tx:=Zr x hx
 have ty:=Zr y hy
 have hxs:=hx.s
 have hxe:=hx.e
 have hye:=hy.e
 refine Pu.ofBor (Xx _ _) ?_;refine zL Qf Tryz.func68 w68 Tryz.ntmps68 Tryz.results68 ?_;refine zG ?_;refine Qj (fun n ts H=>∃ (k:Nat),(k≤2)∧(n=2 - k)∧(Qc H 0=some ⟨34,2,[.sl x.shape.length (ints x.shape),.sl x.el.length (Qv x.el)]⟩)∧(Qc H 1=some ⟨34,2,[.sl y.shape.length (ints y.shape),.sl y.el.length (Qv y.el)]⟩)∧(Qc H 2=some ⟨102,1,[.fn (.func f) [] caps]⟩)∧(Qc H 3=some ⟨34,2,[.nil,.nil]⟩)∧(Qc H 4=some ⟨36,1,[.int .i64 0]⟩)∧(Qc H 5=some ⟨34,2,[.sl x.shape.length (ints x.shape),.sl x.el.length (Qv x.el),.sl y.shape.length (ints y.shape),.sl y.el.length (Qv y.el)]⟩)∧((0<k→Xv x=0))∧((1<k→Xv y=0))∧ts.length=67∧nth ts 3=.ptr 0 0∧nth ts 4=.ptr 1 0∧nth ts 5=.ptr 2 0∧nth ts 6=.ptr 3 0∧nth ts 7=.ptr 4 0∧nth ts 18=.ref 5 0 2∧nth ts 19=.int .i64 2∧nth ts 20=.int .i64 (k:Nat)) ?_ (n:=2) ?_
 ·skip
  rintro n ts H ⟨k,hk,hn,h0,h1,h2,h3,h4,h5,hm0,hm1,hL,hs3,hs4,hs5,hs6,hs7,hs18,hs19,hs20⟩;refine Xc [(3,.ptr 0 0),(4,.ptr 1 0),(5,.ptr 2 0),(6,.ptr 3 0),(7,.ptr 4 0),(18,.ref 5 0 2),(19,.int .i64 2),(20,.int .i64 (k:Nat))] hL (by simp only [zFm,hs3,hs4,hs5,hs6,hs7,hs18,hs19,hs20,true_and];exact zNm) ?_
  clear hL hs3 hs4 hs5 hs6 hs7 hs18 hs19 hs20 ts
  refine Qz Qf ?_
  have hk':k=0∨k=1∨k=2:=by omega
  have hst:∀ (x:Row),Qc (H++[some x]) H.length=some x:=fun x=>Xo _ _
  have hst2:∀ (x y:Row),Qc ((H++[some x]).set H.length (some y)) H.length=some y:=fun x y=>Qg (hst x)
  have hL:=Xg h5
  have mst2:∀ (x y:Option Row),(H++[x]).set H.length y=H++[y]:=fun x y=>by rw [List.set_append_right _ _ (Nat.le_refl _),Nat.sub_self];rfl
  have a3:∀ Y,Qc (H++Y) 3=some ⟨34,2,[.nil,.nil]⟩:=fun Y=>Qd h3 Y
  have a4:∀ Y,Qc (H++Y) 4=some ⟨36,1,[.int .i64 0]⟩:=fun Y=>Qd h4 Y
  have b4:∀ Y z,Qc ((H++Y).set 3 z) 4=some ⟨36,1,[.int .i64 0]⟩:=fun Y z=>by rw [Qe _ (by decide)];exact a4 Y
  have b3:∀ Y row z,Qc (((H++Y).set 3 (some row)).set 4 z) 3=some row:=fun Y row z=>by rw [Qe _ (by decide)];exact Qg (a3 Y)
  have b44:∀ Y row z,Qc (((H++Y).set 3 z).set 4 (some row)) 4=some row:=fun Y row z=>Qg (b4 Y z)
  rcases hk' with rfl | rfl | rfl
  ·by_cases hm:Xv x=0
   ·rw [hm] at tx;refine zH3 h5 hst mst2 ?_;refine Fc.pure tx (by simp [Qh,clo,Qa,Qi]) (fun g=>rfl) ?_
    refine zG ?_;exact ⟨1,by omega,1,by omega,rfl,Qd h0 _,Qd h1 _,Qd h2 _,Qd h3 _,Qd h4 _,Qd h5 _,fun _=>hm,fun h=>by omega,(by (repeat' apply And.intro)<;>(first | rfl | omega | (congr 1;omega) | assumption | (congr 1;assumption)))⟩
   ·skip
    refine zH3 h5 hst mst2 ?_;refine Fc.pure tx (by simp [Qh,clo,Qa,Qi]) (fun g=>rfl) ?_
    refine zH5 a3 a4 b3 b4 b44 ?_;exact Qbq (by rw [Qam,if_pos hm]) hm
  ·have hm0:=hm0 (by omega)
   by_cases hm:Xv y=0
   ·rw [hm] at ty;refine zH3 h5 hst mst2 ?_;refine Fc.pure ty (by simp [Qh,clo,Qa,Qi]) (fun g=>rfl) ?_
    refine zG ?_;exact ⟨0,by omega,2,by omega,rfl,Qd h0 _,Qd h1 _,Qd h2 _,Qd h3 _,Qd h4 _,Qd h5 _,fun _=>hm0,fun _=>hm,(by (repeat' apply And.intro)<;>(first | rfl | omega | (congr 1;omega) | assumption | (congr 1;assumption)))⟩
   ·skip
    refine zH3 h5 hst mst2 ?_;refine Fc.pure ty (by simp [Qh,clo,Qa,Qi]) (fun g=>rfl) ?_
    refine zH5 a3 a4 b3 b4 b44 ?_;exact Qbq (by rw [Qam,if_neg (by omega),if_pos hm]) hm
  ·have hm0:=hm0 (by omega)
   have hm1:=hm1 (by omega)
   have sm:=Qma x.shape y.shape (by omega)
   by_cases hsh:x.shape=y.shape
   case neg =>
    rw [decide_eq_false hsh] at sm;refine zH2 h0 h1 ?_;refine Fc.pure sm (by simp [Qh,clo,Qa]) (fun g=>rfl) ?_
    have c4:∀ z,Qc (H.set 3 z) 4=some ⟨36,1,[.int .i64 0]⟩:=fun z=>by rw [Qe _ (by decide)];exact h4
    have c3:∀ row z,Qc ((H.set 3 (some row)).set 4 z) 3=some row:=fun row z=>by rw [Qe _ (by decide)];exact Qg h3
    have c44:∀ row z,Qc ((H.set 3 z).set 4 (some row)) 4=some row:=fun row z=>Qg (c4 z)
    refine zH5 h3 h4 c3 c4 c44 ?_;exact Qbq (by rw [Qam,if_neg (by omega),if_neg (by omega),if_pos hsh]) (by decide)
   rw [decide_eq_true hsh] at sm
   have eB:Qam F x y=Qdl F x.el y.el x.el.length:=by rw [Qam,if_neg (by omega),if_neg (by omega),if_neg (by simpa using hsh)]
   rw [eB]
   have hel:x.el.length=y.el.length:=by
    have e1:=(Zs hm0).2.2
    have e2:=(Zs hm1).2.2
    rw [hsh] at e1;omega
   clear hst hst2 mst2 a3 a4 b4 b3 b44
   refine zH2 h0 h1 ?_;refine Fc.pure sm (by simp [Qh,clo,Qa]) (fun g=>rfl) ?_
   refine zH1 h0 ?_;refine Fc.own (Qay x.shape (by omega)) (by simp [Qh,clo,Qa]) (fun g=>Ql g _) fun sv X hsv=>?_
   obtain ⟨k0,c0,s0⟩:=Qbm hsv
   have h0:=Qd h0 X
   have h1:=Qd h1 X
   have h2:=Qd h2 X
   have h3:=Qd h3 X
   have h4:=Qd h4 X
   generalize H++X=H at *
   have d0:∀ Y,Qc (H++Y) 0=_:=fun Y=>Qd h0 Y
   have d1:∀ Y,Qc (H++Y) 1=_:=fun Y=>Qd h1 Y
   have mst2:∀ (x y:Option Row),(H++[x]).set H.length y=H++[y]:=fun x y=>by rw [List.set_append_right _ _ (Nat.le_refl _),Nat.sub_self];rfl
   have hst:∀ (x:Row),Qc (H++[some x]) H.length=some x:=fun x=>Xo _ _
   refine zH7 k0 c0 s0 d0 d1 mst2 hst ?_;obtain ⟨P,hP⟩:∃ P,H.length=P:=⟨_,rfl⟩
   have hL:=Xg h4
   have hp0:Qc (H++[some (⟨34,2,[sv,.nil]⟩:Row)]) P=some ⟨34,2,[sv,.nil]⟩:=by rw [← hP];exact hst _
   have hv0:=hsv.keep [some (⟨34,2,[sv,.nil]⟩:Row)]
   have i2:=Qd h2 [some (⟨34,2,[sv,.nil]⟩:Row)]
   have i3:=Qd h3 [some (⟨34,2,[sv,.nil]⟩:Row)]
   have i4:=Qd h4 [some (⟨34,2,[sv,.nil]⟩:Row)]
   rw [hP];rw [hP] at hL
   clear hst mst2 d0 d1
   generalize H++[some (⟨34,2,[sv,.nil]⟩:Row)]=H1 at *;refine Fc.pure (Qut x.el y.el) (by simp [Qh,clo,Qi]) (fun g=>Qy _ _ (by simp [Qr9,clo,Qh,Qi])) ?_
   have hpv:Qr9 x.el y.el=.fn (.func 148) [] [.rp [.sl x.el.length (Qv x.el)] 0,.rp [.sl y.el.length (Qv y.el)] 0]:=rfl
   refine zH1 hpv ?_;refine Kt (g:=148) (lb:=[.rp [.sl x.el.length (Qv x.el)] 0,.rp [.sl y.el.length (Qv y.el)] 0]) (xs:=Qhf x.el y.el) (by simp -implicitDefEqProofs (maxSteps:=9^7) (disch:=first | omega | (simp only [Je];omega)) only [go_sem]) (by simp [Qh,clo,Qi]) (Qx0 x.el y.el hxe hye) (fun bs hb=>by
    simp only [Qhf,List.mem_map,List.mem_range] at hb;obtain ⟨i,_,rfl⟩:=hb
    rfl) (fun k H=>∃ u,Qdl F x.el y.el k=0∧Qc H 2=some ⟨102,1,[.fn (.func f) [] caps]⟩∧Qc H 3=some ⟨34,2,[.nil,.nil]⟩∧Qc H 4=some ⟨36,1,[.int .i64 0]⟩∧Qc H P=some ⟨34,2,[sv,u]⟩∧Bv.Own 3 1 H sv x.shape.length (ints x.shape)∧Bv.Own 70 3 H u k (Qv ((((List.range x.el.length).map fun i=>(F (x.el.getD i r0) (y.el.getD i r0)).1).map Qt).take k))) ⟨.nil,rfl,i2,i3,i4,hp0,hv0,.nil _ _ _⟩ ?_ ?_
   ·rintro k us H hk ⟨u,hE,h2,h3,h4,hp,hv,hu⟩ lp
    have hkl:k<min x.el.length y.el.length:=by
     have:=(List.getElem?_eq_some_iff.1 hk).1
     rwa [Qgm] at this
    have hkx:k<x.el.length:=by omega
    have hky:k<y.el.length:=by omega
    rw [Qn4 hkl] at hk;injection hk with hk
    subst hk
    have hPl:=Xg hp
    have e2:∀ Y,Qc (H++Y) 2=_:=fun Y=>Qd h2 Y
    have m0:∀ (a:Row) (Y:Qb),Qc (H++(some a::Y)) H.length=some a:=fun a Y=>by simp [Qc]
    have m1:∀ (a:Option Row) (b:Row) (Y:Qb),Qc (H++(a::some b::Y)) (H.length+1)=some b:=fun a b Y=>by simp [Qc]
    have m2:∀ (a b:Option Row) (c:Row) (Y:Qb),Qc (H++(a::b::some c::Y)) (H.length+2)=some c:=fun a b c Y=>by simp [Qc]
    have n0:∀ (a b:Option Row) (Y:Qb),(H++(a::Y)).set H.length b=H++(b::Y):=fun a b Y=>by rw [List.set_append_right _ _ (Nat.le_refl _),Nat.sub_self];rfl
    have n1:∀ (a b c:Option Row) (Y:Qb),(H++(a::b::Y)).set (H.length+1) c=H++(a::c::Y):=fun a b c Y=>by rw [List.set_append_right _ _ (by omega),Nat.add_sub_cancel_left];rfl
    have n2:∀ (a b c d:Option Row) (Y:Qb),(H++(a::b::c::Y)).set (H.length+2) d=H++(a::b::d::Y):=fun a b c d Y=>by rw [List.set_append_right _ _ (by omega),Nat.add_sub_cancel_left];rfl
    have fk:=hF _ (Qcu hkx) _ (Qcu hky)
    have hnx:Qdl F x.el y.el (k+1)=(F (x.el.getD k r0) (y.el.getD k r0)).2:=by rw [Qdl,if_neg (by omega)]
    (refine Qz Qf ?_;simp -implicitDefEqProofs (maxSteps:=9^7) (disch:=first | omega | (simp only [Je];omega)) only [go_sem,Qfu])
    (refine Qz Qf ?_;simp -implicitDefEqProofs (maxSteps:=9^7) (disch:=first | omega | (simp only [Je];omega)) only [go_sem,m0,m1,n0,n1,e2])
    have eG:∃ G:Qb,G=H++[some ⟨70,3,[.bool (x.el.getD k r0).neg,.sl (x.el.getD k r0).num.length (Xh .u32 (x.el.getD k r0).num),.sl (x.el.getD k r0).den.length (Xh .u32 (x.el.getD k r0).den)]⟩,some ⟨70,3,[.bool (y.el.getD k r0).neg,.sl (y.el.getD k r0).num.length (Xh .u32 (y.el.getD k r0).num),.sl (y.el.getD k r0).den.length (Xh .u32 (y.el.getD k r0).den)]⟩]:=⟨_,rfl⟩
    obtain ⟨G,hG⟩:=eG;rw [← hG]
    have hk':∀ q row,Qc H q=some row→Qc G q=some row:=fun q row hr=>by rw [hG];exact Qd hr _
    have h2:=hk' _ _ h2
    have h3:=hk' _ _ h3
    have h4:=hk' _ _ h4
    have hp:=hk' _ _ hp
    have hv:Bv.Own 3 1 G sv x.shape.length (ints x.shape):=by rw [hG];exact hv.keep _
    have hu:Bv.Own 70 3 G u k (Qv ((((List.range x.el.length).map fun i=>(F (x.el.getD i r0) (y.el.getD i r0)).1).map Qt).take k)):=by rw [hG];exact hu.keep _
    clear hG hk' m0 m1 m2 n0 n1 n2 e2
    have hGl:=Xg hp
    obtain ⟨k4,c4,s4⟩:=Qbm hu
    have m0:∀ (a:Row) (Y:Qb),Qc (G++(some a::Y)) G.length=some a:=fun a Y=>by simp [Qc]
    have n0:∀ (a b:Option Row) (Y:Qb),(G++(a::Y)).set G.length b=G++(b::Y):=fun a b Y=>by rw [List.set_append_right _ _ (Nat.le_refl _),Nat.sub_self];rfl
    have ep:∀ Y,Qc (G++Y) P=_:=fun Y=>Qd hp Y
    have htr:=Qnl (g:=fun i=>(F (x.el.getD i r0) (y.el.getD i r0)).1) hkx
    refine Fc.pure fk (by simp [Qh,clo,Qm,hc]) (fun g=>Qy _ _ (by simp only [clo,Qh,Bool.and_true];exact Qp (Qt _))) ?_
    generalize hr:(F (x.el.getD k r0) (y.el.getD k r0)).1=r at htr ⊢;generalize he:(F (x.el.getD k r0) (y.el.getD k r0)).2=e at hnx ⊢;by_cases h0e:e=0
    ·subst h0e;refine zH6 m0 n0 ep k4 c4 s4 ?_;refine Xc2 hu (by simp;omega) rfl rfl (by simp;omega) fun v' H' hu' hF' hk'=>?_
     obtain ⟨k5,c5,s5⟩:=hk'
     have hu1:=hu.keep [some (⟨70,3,[.bool r.neg,Xu r.num,Xu r.den]⟩:Row)]
     have g2:=Xz hu1 hF' (Qd h2 _) (by decide)
     have g3:=Xz hu1 hF' (Qd h3 _) (by decide)
     have g4:=Xz hu1 hF' (Qd h4 _) (by decide)
     have gp:=Xz hu1 hF' (Qd hp _) (by decide)
     have gv:=(hv.keep [some (⟨70,3,[.bool r.neg,Xu r.num,Xu r.den]⟩:Row)]).fr hF' (Qln hu1 (hv.keep _) (by decide))
     rw [htr] at hu'
     (apply Zo;repeat' ((with_reducible first|apply Zk|apply zBr<;>intro h)<;>try simp -implicitDefEqProofs (maxSteps:=9^7) (disch:=first|exact zDs|fail) only [go_sem,gp,k5,c5,s5,Jq]))
     exact ⟨v',hnx,by rw [Qe _ (by omega)];exact g2,by rw [Qe _ (by omega)];exact g3,by rw [Qe _ (by omega)];exact g4,Qg gp,Ym gv gp (by decide),Ym hu' gp (by decide)⟩
    ·have a3:∀ Y,Qc (G++Y) 3=some ⟨34,2,[.nil,.nil]⟩:=fun Y=>Qd h3 Y
     have a4:∀ Y,Qc (G++Y) 4=some ⟨36,1,[.int .i64 0]⟩:=fun Y=>Qd h4 Y
     have b4:∀ Y z,Qc ((G++Y).set 3 z) 4=some ⟨36,1,[.int .i64 0]⟩:=fun Y z=>by rw [Qe _ (by decide)];exact a4 Y
     have b3:∀ Y row z,Qc (((G++Y).set 3 (some row)).set 4 z) 3=some row:=fun Y row z=>by rw [Qe _ (by decide)];exact Qg (a3 Y)
     have b44:∀ Y row z,Qc (((G++Y).set 3 z).set 4 (some row)) 4=some row:=fun Y row z=>Qg (b4 Y z)
     (apply Zo;repeat' ((with_reducible first|apply Zk|apply zBr<;>intro h)<;>try simp -implicitDefEqProofs (maxSteps:=9^7) (disch:=first|exact zDs|fail) only [go_sem,m0,n0,ep,a3,a4,b3,b4,b44,Jq]))
     have hfin:=Xjr (F:=F) (a:=x.el) (b:=y.el) (k:=k+1) (n:=x.el.length) (by rw [hnx];exact h0e) (by omega)
     exact Qbq (hfin.trans hnx) h0e
   ·rintro H ⟨u,hE,h2,h3,h4,hp,hv,hu⟩;rw [Qgm,show min x.el.length y.el.length=x.el.length by omega] at hE hu
    rw [List.take_of_length_le (by simp)] at hu
    have hs3:∀ z:Row,Qc (H.set 3 (some z)) 3=some z:=fun z=>Qg h3
    have c4:∀ z,Qc (H.set 3 z) 4=some ⟨36,1,[.int .i64 0]⟩:=fun z=>by rw [Qe _ (by decide)];exact h4
    have c3:∀ row z,Qc ((H.set 3 (some row)).set 4 z) 3=some row:=fun row z=>by rw [Qe _ (by decide)];exact Qg h3
    have c44:∀ row z,Qc ((H.set 3 z).set 4 (some row)) 4=some row:=fun row z=>Qg (c4 z)
    obtain ⟨k4,cc4,s4⟩:=Qbm hu;rw [hE,Ye rfl]
    (apply Zo;repeat' ((with_reducible first|apply Zk|apply zBr<;>intro h)<;>try simp -implicitDefEqProofs (maxSteps:=9^7) (disch:=first|exact zDs|fail) only [go_sem,hp,h3,h4,hs3,c3,c4,c44,k0,c0,s0,k4,cc4,s4]))
    have hv':=Ym (z:=some ⟨36,1,[.int .i64 0]⟩) (Ym (z:=some ⟨34,2,[sv,u]⟩) hv h3 (by decide)) (c4 _) (by decide)
    have hu':=Ym (z:=some ⟨36,1,[.int .i64 0]⟩) (Ym (z:=some ⟨34,2,[sv,u]⟩) hu h3 (by decide)) (c4 _) (by decide)
    refine Bor.tupL ⟨Bor.aggL ⟨Qbg hv' (Qa _), ?_,trivial⟩,.self rfl,trivial⟩
    have:=Qbg hu' (Qi _)
    simpa [Qfb] using this
 ·exact ⟨0,by omega,rfl,rfl,rfl,rfl,rfl,rfl,rfl,fun h=>by omega,fun h=>by omega,rfl,rfl,rfl,rfl,rfl,rfl,rfl,rfl,rfl⟩
theorem Qld (g:Nat):Pu C 69 [.fn (.func g) [] []] (.fn (.func 118) [] [.rp [.fn (.func g) [] []] 0]):=by
 refine Fc.keep (Fc.sealR ?_);refine zL Qf Tryz.func69 w69 Tryz.ntmps69 Tryz.results69 ?_;refine zG ?_;refine ⟨0,_,1,[.fn (.func g) [] []],rfl,by simp [Qh,clo],[],by simp,by simp, ?_⟩
 simp [sz,szL,ren,Qk,Qck]
theorem Qxc (g:Nat) (a b:Raw) (R:Rq) (h:Pu C g [Zx a,Zx b] (Kj R)):Pu C 118 [Zx a,Zx b,.rp [.fn (.func g) [] []] 0] (.tup [Kj R,.int .i64 0]):=by
 refine Pu.ofBor (by simp only [clo,Qh,Bool.and_true];exact Qp (Qt R)) ?_
 refine zL Qf Tryz.func118 w118 Tryz.ntmps118 Tryz.results118 ?_;refine zG ?_;refine Fc.pure h (by simp [Qh,clo,Qm]) (fun g=>Qy _ _ (Qp (Qt R))) ?_
 refine zG ?_;exact .self (by simp [clo,Qh,Qm])
def Qap (F:Raw→Raw→Rq):Raw→Raw→Rq × Int:=fun a b=>(F a b,0)
theorem Qjo (x y:Tn) (hx:TnOK x) (hy:TnOK y) (g:Nat) (F:Raw→Raw→Rq) (hF:∀ a b,RawOK a→RawOK b→Pu C g [Zx a,Zx b] (Kj (F a b))):Pu C 68 [tnV x,tnV y,.fn (.func 118) [] [.rp [.fn (.func g) [] []] 0]] (.tup [tnV (Kv (Qfb (Qap F) x y) (Qam (Qap F) x y)),.int .i64 (Qam (Qap F) x y)]) :=
 Qrk x y hx hy 118 [.rp [.fn (.func g) [] []] 0] (by simp [Qh,clo]) (Qap F) fun a ha b hb=>Qxc g a b (F a b) (hF a b (hx.r a ha) (hy.r b hb))
theorem Xdc (x y:Tn) (hx:TnOK x) (hy:TnOK y):Pu C 25 [tnV x,tnV y] (.tup [tnV (Kv (Qfb (Qap fun a b=>Qez (Xd a) (Xd b)) x y) (Qam (Qap fun a b=>Qez (Xd a) (Xd b)) x y)),.int .i64 (Qam (Qap fun a b=>Qez (Xd a) (Xd b)) x y)]):=by
 have hb:=Qjo x y hx hy 70 (fun a b=>Qez (Xd a) (Xd b)) Qh6
 have hsu:=Qld 70
 generalize Qam (Qap fun a b=>Qez (Xd a) (Xd b)) x y=e at *
 generalize Kv (Qfb (Qap fun a b=>Qez (Xd a) (Xd b)) x y) e=T at *
 refine Pu.ofBor (Xx T _) ?_;refine zL Qf Tryz.func25 w25 Tryz.ntmps25 Tryz.results25 ?_;refine zG ?_;refine Pc.pure hsu (by simp [Qh,clo]) (fun g=>rfl) ?_
 refine zG ?_;refine Pc.pure hb (by simp [Qh,clo,Qa,Qi]) (fun g=>Qy _ _ (Xx T _)) ?_
 refine zG ?_;exact .self (by simp [clo,Qh,Qa,Qi])
theorem Xc3 (x y:Tn) (hx:TnOK x) (hy:TnOK y):Pu C 26 [tnV x,tnV y] (.tup [tnV (Kv (Qfb (Qap Qpr) x y) (Qam (Qap Qpr) x y)),.int .i64 (Qam (Qap Qpr) x y)]):=by
 have hb:=Qjo x y hx hy 71 Qpr Xcn
 have hsu:=Qld 71
 generalize Qam (Qap Qpr) x y=e at *;generalize Kv (Qfb (Qap Qpr) x y) e=T at *;refine Pu.ofBor (Xx T _) ?_;refine zL Qf Tryz.func26 w26 Tryz.ntmps26 Tryz.results26 ?_;refine zG ?_;refine Pc.pure hsu (by simp [Qh,clo]) (fun g=>rfl) ?_
 refine zG ?_;refine Pc.pure hb (by simp [Qh,clo,Qa,Qi]) (fun g=>Qy _ _ (Xx T _)) ?_
 refine zG ?_;exact .self (by simp [clo,Qh,Qa,Qi])
theorem Qqt (x y:Tn) (hx:TnOK x) (hy:TnOK y):Pu C 27 [tnV x,tnV y] (.tup [tnV (Kv (Qfb (Qap fun a b=>Xm [a,b]) x y) (Qam (Qap fun a b=>Xm [a,b]) x y)),.int .i64 (Qam (Qap fun a b=>Xm [a,b]) x y)]):=by
 have hb:=Qjo x y hx hy 72 (fun a b=>Xm [a,b]) Qlf
 have hsu:=Qld 72
 generalize Qam (Qap fun a b=>Xm [a,b]) x y=e at *
 generalize Kv (Qfb (Qap fun a b=>Xm [a,b]) x y) e=T at *
 refine Pu.ofBor (Xx T _) ?_;refine zL Qf Tryz.func27 w27 Tryz.ntmps27 Tryz.results27 ?_;refine zG ?_;refine Pc.pure hsu (by simp [Qh,clo]) (fun g=>rfl) ?_
 refine zG ?_;refine Pc.pure hb (by simp [Qh,clo,Qa,Qi]) (fun g=>Qy _ _ (Xx T _)) ?_
 refine zG ?_;exact .self (by simp [clo,Qh,Qa,Qi])
theorem Xdb (x y:Tn) (hx:TnOK x) (hy:TnOK y):Pu C 28 [tnV x,tnV y] (.tup [tnV (Kv (Qfb Qo5 x y) (Qam Qo5 x y)),.int .i64 (Qam Qo5 x y)]):=by
 have hb:=Qrk x y hx hy 73 [] rfl Qo5 fun a ha b hb=>Xcw a b (hx.r a ha) (hy.r b hb)
 generalize Qam Qo5 x y=e at *;generalize Kv (Qfb Qo5 x y) e=T at *;refine Pu.ofBor (Xx T _) ?_;refine zL Qf Tryz.func28 w28 Tryz.ntmps28 Tryz.results28 ?_;refine zG ?_;refine Fc.pure hb (by simp [Qh,clo,Qa,Qi]) (fun g=>Qy _ _ (Xx T _)) ?_
 refine zG ?_;exact .self (by simp [clo,Qh,Qa,Qi])
theorem Xa4 (x:Raw):∀ n,Xj n [.bool x.neg,NA x.num,NA x.den]=Qv (List.replicate n x)
 | 0=>rfl
 | n+1=>by
  rw [show n+1=1+n by omega,Qjb,Qsk,Xa4 x n,show 1+n=n+1 by omega,List.replicate_succ]
  rfl
theorem Xbx (s:List Int) (hs:Xa s=0) (H0:Qb):Fc C 97 [.sl s.length (ints s)] H0 fun v H=>∃ w X r,H=H0++X∧v=.agg [w,.ref r 0 (Qx s).toNat]∧Bv.Own 3 1 H w s.length (ints s)∧Qc H r=some ⟨70,3,Qv (List.replicate (Qx s).toNat Qgy)⟩:=by
 obtain ⟨m1,m2,m3⟩:=Qu hs;refine zL Qf Tryz.func97 w97 Tryz.ntmps97 Tryz.results97 ?_;refine zG ?_;refine Fc.own (Qay s (by omega)) (by simp [Qh,clo,Qa]) (fun g=>Ql g _) fun w X hw=>?_
 obtain ⟨k0,c0,s0⟩:=Qbm hw;refine zH3 k0 c0 s0 ?_;refine (Qig 0 (by decide) (by decide)).call ⟨.self rfl,trivial⟩ (Qp (Qt (Yr 0))) ?_
 refine zG ?_
 have cs:=Qcx s (by omega)
 rw [Xf,if_pos hs] at cs
 have hpos:=Yp m2
 obtain ⟨N,hN⟩:∃ N:Nat,Qx s=(N:Int):=⟨(Qx s).toNat,by omega⟩
 rw [hN] at cs hpos m3 ⊢;rw [Int.toNat_natCast];refine Fc.pure cs (by simp [Qh,clo,Qa]) (fun g=>rfl) ?_
 refine zG ?_
 have e1:H0++some (⟨34,2,[.nil,.nil]⟩:Row)::(X++[some ⟨70,3,[.bool (Yr 0).neg,Xu (Yr 0).num,Xu (Yr 0).den]⟩])=((H0++[some ⟨34,2,[.nil,.nil]⟩])++X)++[some ⟨70,3,[.bool (Yr 0).neg,Xu (Yr 0).num,Xu (Yr 0).den]⟩]:=by simp
 have e2:H0.length+(X.length+1)=((H0++[some (⟨34,2,[.nil,.nil]⟩:Row)])++X).length:=by simp
 have hz:∃ Z,(H0++[some (⟨34,2,[.nil,.nil]⟩:Row)])++X=H0++Z:=⟨_,List.append_assoc _ _ _⟩
 have ha:Qc ((H0++[some (⟨34,2,[.nil,.nil]⟩:Row)])++X) H0.length=some ⟨34,2,[.nil,.nil]⟩:=Qd (Xo _ _) X
 have e1:H0++some (⟨34,2,[.nil,.nil]⟩:Row)::(X++[some ⟨70,3,[.bool (Yr 0).neg,.sl (dg B32 (Yr 0).num).length (Xh .u32 (dg B32 (Yr 0).num)),.sl (dg B32 (Yr 0).den).length (Xh .u32 (dg B32 (Yr 0).den))]⟩])=_:=e1
 rw [e1,e2]
 clear e1 e2
 generalize (H0++[some (⟨34,2,[.nil,.nil]⟩:Row)])++X=G at *;obtain ⟨Z,rfl⟩:=hz;refine Fc.sealed (r:=(H0++Z).length) (Xo _ _) (by simp [Qh,clo,Qm,Xu,NA]) ?_
 rw [List.set_append_right _ _ (Nat.le_refl _),Nat.sub_self];simp only [szL,sz,if_true,List.drop_zero,List.set_cons_zero];refine Fc.own (Qum [.bool (Yr 0).neg,Xu (Yr 0).num,Xu (Yr 0).den] rfl rfl (by simp [Qh,clo,Qm,Xu,NA]) N (by omega) (by omega)) (by simp [Qh,clo,Qm,Xu,NA]) (fun g=>Yt g _ (Qyl (by simp [Qh,clo,Qm,Xu,NA]) N)) fun v Y hv=>?_
 rcases hv with ⟨_,h0,_⟩ | ⟨r,rfl,hr,_⟩
 ·omega
 have hw1:=(hw.keep [none]).keep Y
 have ha1:=Qd (Qd ha [none]) Y
 have hz1:∃ Z',H0++Z++[none]++Y=H0++Z':=⟨Z++([none]++Y),by simp⟩
 generalize H0++Z++[none]++Y=G2 at *
 have hs1:∀ z:Row,Qc (G2.set H0.length (some z)) H0.length=some z:=fun z=>Qg ha1
 have hw2:=Ym (z:=some ⟨34,2,[w,.ref r 0 N]⟩) hw1 ha1 (by decide)
 have hne:r≠H0.length:=fun e=>by rw [e,ha1] at hr;cases hr
 refine zH5 ha1 hs1 k0 c0 s0 ?_;obtain ⟨Z',hZ'⟩:=hz1;refine ⟨w,Z'.set 0 (some ⟨34,2,[w,.ref r 0 N]⟩),r, ?_,rfl,hw2, ?_⟩
 ·rw [hZ',List.set_append_right _ _ (Nat.le_refl _),Nat.sub_self]
 rw [Qe _ (Ne.symm hne),hr,← Xa4]
 rfl
def Qqj (l:List Int):Bool:=(List.range l.length).all fun i=>decide (0≤l.getD i 0∧(0<i→l.getD (i - 1) 0<l.getD i 0))
theorem Qlg {l:List Int}:Qqj l=true↔∀ i,i<l.length→0≤l.getD i 0∧(0<i→l.getD (i - 1) 0<l.getD i 0):=by
 simp only [Qqj,List.all_eq_true,List.mem_range,decide_eq_true_eq]
def Qe7 (t:Tn) (axes:List Int):Int:=if Xv t≠0 then Xv t else if Qqj axes=false then 11 else if axP axes t.shape.length≠0 then 13 else 0
theorem Xev (t:Tn) (ht:TnOK t) (axes:List Int) (ha:axes.length≤1000000000):Pu C 96 [tnV t,.sl axes.length (ints axes)] (.int .i64 (Qe7 t axes)):=by
 have tm:=Zr t ht
 have hs:=ht.s
 by_cases hm:Xv t=0
 case neg =>
  rw [Qe7,if_pos hm];refine zK Qf Tryz.func96 w96 Tryz.ntmps96 Tryz.results96 ?_;refine zG ?_;refine Fc.pure tm (by simp [Qh,clo,Qa,Qi]) (fun g=>rfl) ?_
  refine zG ?_
  (refine Qo (by intro g;simp only [go_sem,ren,Qk]) ?_)
  rfl
 rw [hm] at tm;rw [Qe7,if_neg (by omega)]
 have ax:=Qmc axes (t.shape.length:Nat) (by omega)
 refine zK Qf Tryz.func96 w96 Tryz.ntmps96 Tryz.results96 ?_;refine zG ?_;refine Fc.pure tm (by simp [Qh,clo,Qa,Qi]) (fun g=>rfl) ?_
 refine zG ?_;refine Qj (fun n ts H=>∃ (k:Nat),(k≤axes.length)∧((∀ j,j<k→0≤axes.getD j 0∧(0<j→axes.getD (j - 1) 0<axes.getD j 0)))∧(Qc H 0=some ⟨34,2,[.sl t.shape.length (ints t.shape),.sl t.el.length (Qv t.el)]⟩)∧(n=axes.length - k)∧ts.length=42∧nth ts 1=.sl axes.length (ints axes)∧nth ts 2=.ptr 0 0∧nth ts 4=.int .i64 0∧nth ts 13=.sl axes.length (ints axes)∧nth ts 14=.int .i64 (axes.length:Nat)∧nth ts 15=.int .i64 (k:Nat)) ?_ (n:=axes.length) ?_
 ·skip
  rintro n ts H ⟨k,hk,hI,h0,hn,hL,hs1,hs2,hs4,hs13,hs14,hs15⟩;refine Xc [(1,.sl axes.length (ints axes)),(2,.ptr 0 0),(4,.int .i64 0),(13,.sl axes.length (ints axes)),(14,.int .i64 (axes.length:Nat)),(15,.int .i64 (k:Nat))] hL (by simp only [zFm,hs1,hs2,hs4,hs13,hs14,hs15,true_and];exact zNm) ?_
  clear hL hs1 hs2 hs4 hs13 hs14 hs15 ts
  refine Qz Qf ?_;subst hn;by_cases hka:k<axes.length
  ·have bad:¬ (0≤axes.getD k 0∧(0<k→axes.getD (k - 1) 0<axes.getD k 0))→(if Qqj axes=false then (11:Int) else if axP axes t.shape.length≠0 then 13 else 0)=11:=fun h=>if_pos (by
    rw [Bool.eq_false_iff];exact fun hr=>h (Qlg.1 hr k hka))
   (refine zG ?_;(repeat' ((with_reducible apply zBr)<;>intro h<;>refine zG ?_))<;>try exact .intro)
   ·rw [bad (by omega)];(refine Qo (by intro g;simp only [go_sem,ren,Qk]) ?_);rfl
   ·rw [bad (fun h=>by have:=h.2 (by omega);omega)];(refine Qo (by intro g;simp only [go_sem,ren,Qk]) ?_);rfl
   ·exact ⟨axes.length - (k+1),by omega,k+1,by omega,Qbc hI ⟨by omega,fun _=>by omega⟩,h0,(by (repeat' apply And.intro)<;>(first | rfl | omega | (congr 1;omega) | assumption | (congr 1;assumption)))⟩
   ·exact ⟨axes.length - (k+1),by omega,k+1,by omega,Qbc hI ⟨by omega,fun _=>by omega⟩,h0,(by (repeat' apply And.intro)<;>(first | rfl | omega | (congr 1;omega) | assumption | (congr 1;assumption)))⟩
  ·have hri:Qqj axes=true:=Qlg.2 fun i hi=>hI i (by omega)
   rw [hri,if_neg (by decide)]
   refine zH1 h0 ?_;refine Fc.pure ax (by simp [Qh,clo,Qa]) (fun g=>rfl) ?_
   (refine zG ?_;(repeat' ((with_reducible apply zBr)<;>intro h<;>refine zG ?_))<;>try exact .intro)
   ·rw [if_pos (by assumption)];(refine Qo (by intro g;simp only [go_sem,ren,Qk]) ?_);rfl
   ·rw [if_neg (by omega)];(refine Qo (by intro g;simp only [go_sem,ren,Qk]) ?_);rfl
 ·exact ⟨0,by omega,fun j hj=>by omega,rfl,rfl,rfl,rfl,rfl,rfl,rfl,rfl,rfl⟩
def Qff (s S axes:List Int) (i:Nat):Int:=Qf0 S (Yz (Jk s (i:Nat)) axes (Jk s (i:Nat)).length)
theorem Xg9 {S:List Int} (hS:Xa S=0) (s axes:List Int) (i:Nat):0≤Qff s S axes i∧Qff s S axes i<Qx S:=by
 unfold Qff;by_cases hz:Qco S (Yz (Jk s (i:Nat)) axes (Jk s (i:Nat)).length)=0
 ·obtain ⟨h1,h2,h3⟩:=Qkg hz;exact ⟨h1,h2⟩
 ·rw [Qf0,if_neg hz]
  have:=Yp (Qu hS).2.1
  omega
theorem Xca (x:Tn) (hx:Xa x.shape=0) (axes S:List Int) (ha:axes.length≤1000000000) (hS:S.length≤1000000000) (i:Nat) (hi:(i:Int)<Qx x.shape) (H:Qb) (px po pa:Nat) (w u:V) (h0:Qc H px=some ⟨34,2,[.sl x.shape.length (ints x.shape),.sl x.el.length (Qv x.el)]⟩) (h1:Qc H po=some ⟨34,2,[w,u]⟩) (hw:Bv.Own 3 1 H w S.length (ints S)) (h2:Qc H pa=some ⟨23,1,[.sl axes.length (ints axes)]⟩) :
  Fc C 98 [.int .i64 (i:Nat),.ptr px 0,.ptr po 0,.ptr pa 0] H fun v H'=>v=.int .i64 (Qff x.shape S axes i)∧H'=H:=by
 have iv:=Qii x.shape (i:Nat) (by have:=(Qu hx).1;omega) hx (by omega) hi
 obtain ⟨k0,c0,s0⟩:=Qbm hw
 have hil:(Jk x.shape (i:Nat)).length≤4:=by simp [Jk];exact (Qu hx).1
 have dv:=Val.ofRet (Qgh (Jk x.shape (i:Nat)) axes (by omega) (by omega)) (Qa _) (Xp _)
 have hdl:=Qcb (Jk x.shape (i:Nat)) axes (Jk x.shape (i:Nat)).length
 have ov:=Qe4 S (Yz (Jk x.shape (i:Nat)) axes (Jk x.shape (i:Nat)).length) hS (by omega)
 unfold Qff;generalize Yz (Jk x.shape (i:Nat)) axes (Jk x.shape (i:Nat)).length=D at *;generalize Jk x.shape (i:Nat)=I at *;refine zL Qf Tryz.func98 w98 Tryz.ntmps98 Tryz.results98 ?_;refine zH1 h0 ?_;refine iv.call ⟨.self (by simp [clo,Qa]),.self rfl,trivial⟩ (by simp [clo,Qh,Qa]) ?_
 refine zH6 h0 h1 h2 k0 c0 s0 ?_;refine dv.pc ⟨.self (by simp [clo,Qa]),.self (by simp [clo,Qa]),trivial⟩ (by simp [clo,Qa]) ?_
 refine zG ?_;refine (Val.ofPu ov rfl rfl).pc ⟨hw.bor' (Qa _),.self (by simp [clo,Qa]),trivial⟩ rfl ?_
 (refine zG ?_;(repeat' ((with_reducible apply zBr)<;>intro h<;>refine zG ?_))<;>try exact .intro)
theorem Qlh:∀ (l:List Raw) (p:Nat) (x:Raw),p<l.length→Qa2 (Qv l) (p*3) [.bool x.neg,NA x.num,NA x.den]=Qv (l.set p x)
 | [],p,x,h=>by simp at h
 | a::l,0,x,h=>rfl
 | a::l,p+1,x,h=>by
  have ih:=Qlh l p x (by simpa using h)
  have e:Qv (a::l)=.bool a.neg::NA a.num::NA a.den::Qv l:=rfl
  rw [List.set_cons_succ,e,show Qv (a::l.set p x)=.bool a.neg::NA a.num::NA a.den::Qv (l.set p x) from rfl,← ih,show (p+1)*3=p*3+1+1+1 by omega]
  rfl
def Qbx (x:Tn) (axes S:List Int):Nat→List Raw
 | 0=>List.replicate (Qx S).toNat Qgy
 | k+1=>(Qbx x axes S k).set (Qff x.shape S axes k).toNat (Qt (Qez (Xd ((Qbx x axes S k).getD (Qff x.shape S axes k).toNat r0)) (Xd (x.el.getD k r0))))
theorem Qjx (x:Tn) (axes S:List Int):∀ k,(Qbx x axes S k).length=(Qx S).toNat
 | 0=>by simp [Qbx]
 | k+1=>by rw [Qbx,List.length_set,Qjx x axes S k]
def Qle (x:Tn) (axes:List Int):List Int:=Yz x.shape axes x.shape.length
def Qd3 (x:Tn) (axes:List Int):Tn:=Kv ⟨Qle x axes,Qbx x axes (Qle x axes) x.el.length⟩ (Qe7 x axes)
theorem Qub (x:Tn) (hx:TnOK x) (axes:List Int) (ha:axes.length≤1000000000) (hok:∀ k,k<x.el.length→∀ y∈Qbx x axes (Qle x axes) k,RawOK y):Pu C 41 [tnV x,.sl axes.length (ints axes)] (.tup [tnV (Qd3 x axes),.int .i64 (Qe7 x axes)]):=by
 have fm:=Xev x hx axes ha
 have hxs:=hx.s
 have hxe:=hx.e
 unfold Qd3;by_cases hf:Qe7 x axes=0
 case neg =>
  refine Pu.ofBor (Xx _ _) ?_;refine zL Qf Tryz.func41 w41 Tryz.ntmps41 Tryz.results41 ?_;refine zG ?_;refine Fc.pure fm (by simp [Qh,clo,Qa,Qi]) (fun g=>rfl) ?_
  refine zG ?_;exact Qbq rfl hf
 have hm:Xv x=0:=Classical.byContradiction fun h=>h (by rw [Qe7,if_pos h] at hf;exact hf)
 obtain ⟨hfi,hmp,hel⟩:=Zs hm
 have hSm:Xa (Qle x axes)=0:=Qgd axes hmp
 have dv:=Val.ofRet (Qgh x.shape axes (by omega) (by omega)) (Qa _) (Xp _)
 have dv:Val C 62 [.sl x.shape.length (ints x.shape),.sl axes.length (ints axes)] (.sl (Qle x axes).length (ints (Qle x axes))):=dv
 have hSl:=(Qu hSm).1
 have hpl:=Xg9 hSm x.shape axes
 have hlen:=Qjx x axes (Qle x axes)
 have hp1:=(Qu hSm).2.2
 rw [hf] at fm;rw [hf,Ye rfl];refine Pu.ofBor (Xx _ _) ?_;refine zL Qf Tryz.func41 w41 Tryz.ntmps41 Tryz.results41 ?_;refine zG ?_;refine Fc.pure fm (by simp [Qh,clo,Qa,Qi]) (fun g=>rfl) ?_
 refine zG ?_;refine dv.call ⟨.self (by simp [clo,Qa]),.self (by simp [clo,Qa]),trivial⟩ (by simp [clo,Qa]) ?_
 generalize hSS:Qle x axes=S at *;refine zG ?_;refine Fc.mono (Xbx S hSm _) ?_;rintro v H ⟨w,X,r,rfl,rfl,hw,hr⟩;obtain ⟨k0,c0,s0⟩:=Qbm hw;refine zH3 k0 c0 s0 ?_;obtain ⟨P,hP⟩:∃ P,X.length+3=P:=⟨_,rfl⟩;obtain ⟨N,hN⟩:∃ N,(Qx S).toNat=N:=⟨_,rfl⟩;rw [hP];rw [hN] at hr hlen ⊢
 have hpN:∀ i,∃ p:Nat,Qff x.shape S axes i=(p:Int)∧p<N:=fun i=>⟨(Qff x.shape S axes i).toNat,by have:=hpl i;omega,by have:=hpl i;omega⟩
 have hw0:=hw.keep [some (⟨34,2,[w,.ref r 0 N]⟩:Row)]
 have e0:List.replicate N Qgy=Qbx x axes S 0:=by rw [Qbx,hN]
 rw [e0] at hr
 have hr0:=Qd hr [some (⟨34,2,[w,.ref r 0 N]⟩:Row)]
 refine Qj (fun n ts H=>∃ (k:Nat),(k≤x.el.length)∧(Qc H 0=some ⟨34,2,[.sl x.shape.length (ints x.shape),.sl x.el.length (Qv x.el)]⟩)∧(Qc H 1=some ⟨23,1,[.sl axes.length (ints axes)]⟩)∧(Qc H 2=some ⟨34,2,[.nil,.nil]⟩)∧(Qc H P=some ⟨34,2,[w,.ref r 0 N]⟩)∧(Bv.Own 3 1 H w S.length (ints S))∧(Qc H r=some ⟨70,3,Qv (Qbx x axes S k)⟩)∧(n=x.el.length - k)∧ts.length=49∧nth ts 4=.ptr 2 0∧nth ts 7=.ptr P 0∧nth ts 8=.fn (.func 98) [] [.ptr 0 0,.ptr P 0,.ptr 1 0]∧nth ts 26=.sl x.el.length (Qv x.el)∧nth ts 27=.int .i64 (x.el.length:Nat)∧nth ts 28=.int .i64 (k:Nat)) ?_ (n:=x.el.length) ?_
 ·skip
  rintro n ts H ⟨k,hk,h0,h1,h2,hp,hw,hr,hn,hL,hs4,hs7,hs8,hs26,hs27,hs28⟩;refine Xc [(4,.ptr 2 0),(7,.ptr P 0),(8,.fn (.func 98) [] [.ptr 0 0,.ptr P 0,.ptr 1 0]),(26,.sl x.el.length (Qv x.el)),(27,.int .i64 (x.el.length:Nat)),(28,.int .i64 (k:Nat))] hL (by simp only [zFm,hs4,hs7,hs8,hs26,hs27,hs28,true_and];exact zNm) ?_
  clear hL hs4 hs7 hs8 hs26 hs27 hs28 ts
  refine Qz Qf ?_;subst hn;by_cases hkx:k<x.el.length
  ·obtain ⟨p,hpe,hpN⟩:=hpN k
   have hxk:=hx.get hkx
   have hL:=Xg hp
   have hlk:=hlen k
   have mst:∀ (x:Row),Qc (H++[some x]) H.length=some x:=fun x=>Xo _ _
   have mst2:∀ (x y:Option Row),(H++[x]).set H.length y=H++[y]:=fun x y=>by rw [List.set_append_right _ _ (Nat.le_refl _),Nat.sub_self];rfl
   refine zH2 mst mst2 ?_
   have eG:∃ G:Qb,G=H++[some ⟨70,3,[.bool (x.el.getD k r0).neg,.sl (x.el.getD k r0).num.length (Xh .u32 (x.el.getD k r0).num),.sl (x.el.getD k r0).den.length (Xh .u32 (x.el.getD k r0).den)]⟩]:=⟨_,rfl⟩
   obtain ⟨G,hG⟩:=eG;rw [← hG]
   have hk':∀ q row,Qc H q=some row→Qc G q=some row:=fun q row hr=>by rw [hG];exact Qd hr _
   have h0:=hk' _ _ h0
   have h1:=hk' _ _ h1
   have h2:=hk' _ _ h2
   have hp:=hk' _ _ hp
   have hr:=hk' _ _ hr
   have hw:Bv.Own 3 1 G w S.length (ints S):=by rw [hG];exact hw.keep _
   have hm:Qc G H.length=_:=(congrArg (fun G=>Qc G H.length) hG).trans (mst _)
   clear hG hk' mst mst2
   refine Fc.mono (Xca x hmp axes S ha (by omega) k (by omega) G 0 P 1 w _ h0 hp hw h1) ?_
   rintro v H' ⟨rfl,rfl⟩;rw [hpe];refine zH3 hp hr hm ?_
   have ra:=Qh6 ((Qbx x axes S k).getD p r0) (x.el.getD k r0) (hok k hkx _ (Qcu (by omega))) hxk
   have hsu:Qbx x axes S (k+1)=(Qbx x axes S k).set p (Qt (Qez (Xd ((Qbx x axes S k).getD p r0)) (Xd (x.el.getD k r0)))):=by rw [Qbx,hpe,Int.toNat_natCast]
   generalize Qez (Xd ((Qbx x axes S k).getD p r0)) (Xd (x.el.getD k r0))=R at *;refine Pc.pure ra (by simp [Qh,clo,Qm]) (fun g=>Qy _ _ (Qp (Qt R))) ?_
   refine zH1 hr ?_
   have hpu:=Qlh (Qbx x axes S k) p (Qt R) (by omega)
   rw [← hsu] at hpu
   have q0:r≠0:=fun e=>by rw [e,h0] at hr;cases hr
   have q1:r≠1:=fun e=>by rw [e,h1] at hr;cases hr
   have q2:r≠2:=fun e=>by rw [e,h2] at hr;cases hr
   have qP:r≠P:=fun e=>by rw [e,hp] at hr;cases hr
   refine ⟨x.el.length - (k+1),by omega,k+1,by omega, ?_, ?_, ?_, ?_,Ym hw hr (by decide), ?_,rfl,(by (repeat' apply And.intro)<;>(first | rfl | omega | (congr 1;omega) | assumption | (congr 1;assumption)))⟩
   ·rw [Qe _ q0];exact h0
   ·rw [Qe _ q1];exact h1
   ·rw [Qe _ q2];exact h2
   ·rw [Qe _ qP];exact hp
   ·rw [Qg hr,← hpu]
    rfl
  ·have hkl:k=x.el.length:=by omega
   subst hkl
   have hs1:∀ z:Row,Qc (H.set 2 (some z)) 2=some z:=fun z=>Qg h2
   have hle:=hlen x.el.length
   refine zH6 hp h2 hs1 k0 c0 s0 ?_
   have hu:Bv.Own 70 3 H (.ref r 0 N) N (Qv (Qbx x axes S x.el.length)):=.inr ⟨r,rfl,hr,by rw [Qql,hle]⟩
   have hb:=Qbg (Ym (z:=some ⟨34,2,[w,.ref r 0 N]⟩) hu h2 (by decide)) (Qi _)
   rw [← hle] at hb;refine Bor.tupL ⟨Bor.aggL ⟨Qbg (Ym hw h2 (by decide)) (Qa _), ?_,trivial⟩,.self rfl,trivial⟩
   rw [hle] at hb ⊢;exact hb
 ·refine ⟨0,by omega,rfl,rfl,rfl, ?_,hw0,hr0,rfl,rfl,rfl,rfl,rfl,rfl,rfl,rfl⟩
  rw [← hP];simp [Qc]
def byQ (x:Tn) (axes:List Int):Rq:=(Qot ((Qd3 x axes).el.length:Nat) (x.el.length:Nat)).1
def Qmk (x:Tn) (axes:List Int):Int:=if Qe7 x axes≠0 then Qe7 x axes else Xv (Qd3 x axes)
def Xh5 (x:Tn) (axes:List Int):Tn:=Kv (Qda (fun a=>Xm [a,Qt (byQ x axes)]) (Qd3 x axes)) (Qmk x axes)
theorem Xd6 (x:Tn) (hx:TnOK x) (axes:List Int) (ha:axes.length≤1000000000) (hok:∀ k,k<x.el.length→∀ y∈Qbx x axes (Qle x axes) k,RawOK y) (hT:TnOK (Qd3 x axes)) (hb:RawOK (Qt (byQ x axes))):Pu C 42 [tnV x,.sl axes.length (ints axes)] (.tup [tnV (Xh5 x axes),.int .i64 (Qmk x axes)]):=by
 have hsu:=Qub x hx axes ha hok
 have hTe:=hT.e
 have hxe:=hx.e
 have fr:=Xcr ((Qd3 x axes).el.length:Nat) (x.el.length:Nat) (by omega) (by omega) (by omega) (by omega)
 have hsc:=Qmf (Qd3 x axes) hT (Qt (byQ x axes)) hb
 unfold Xh5;by_cases hf:Qe7 x axes=0
 case neg =>
  have e1:Qmk x axes=Qe7 x axes:=if_pos hf
  refine Pu.ofBor (Xx _ _) ?_;generalize Qd3 x axes=T at *;refine zL Qf Tryz.func42 w42 Tryz.ntmps42 Tryz.results42 ?_;refine zG ?_;refine Fc.pure hsu (by simp [Qh,clo,Qa,Qi]) (fun g=>Qy _ _ (Xx T _)) ?_
  refine zG ?_;exact Qbq e1 hf
 have e1:Qmk x axes=Xv (Qd3 x axes):=if_neg (by simpa using hf)
 rw [e1];rw [hf] at hsu
 have hfr:(Qot ((Qd3 x axes).el.length:Nat) (x.el.length:Nat)).1=byQ x axes:=rfl
 rw [hfr] at fr;generalize (Qot ((Qd3 x axes).el.length:Nat) (x.el.length:Nat)).2=fe at *;generalize byQ x axes=B at *;generalize Qd3 x axes=T at *;generalize Kv (Qda (fun a=>Xm [a,Qt B]) T) (Xv T)=T2 at *
 refine Pu.ofBor (Xx T2 _) ?_;refine zL Qf Tryz.func42 w42 Tryz.ntmps42 Tryz.results42 ?_;refine zG ?_;refine Fc.pure hsu (by simp [Qh,clo,Qa,Qi]) (fun g=>Qy _ _ (Xx T _)) ?_
 refine zG ?_;refine fr.call ⟨.self rfl,.self rfl,trivial⟩ (by simp only [clo,Qh,Bool.and_true];exact Qp (Qt B)) ?_
 refine zG ?_;refine Fc.pure hsc (by simp [Qh,clo,Qa,Qi,Qm]) (fun g=>Qy _ _ (Xx T2 _)) ?_
 refine zG ?_;exact .self (by simp [clo,Qh,Qa,Qi])
def Qy8 (a b:Nat):V:=.fn (.func 133) [] [.rp [.int .i64 (a:Nat)] 0,.rp [.int .i64 (b:Nat)] 0]
theorem Qy7 (a b:Nat):Pu C 87 [.int .i64 (a:Nat),.int .i64 (b:Nat)] (Qy8 a b):=by
 refine Fc.keep (Fc.sealR (Fc.sealR ?_));refine zL Qf Tryz.func87 w87 Tryz.ntmps87 Tryz.results87 ?_;refine zG ?_;refine ⟨0,_,1,[.int .i64 (a:Nat)],rfl,by simp [Qh,clo],1,_,1,[.int .i64 (b:Nat)],rfl,by simp [Qh,clo],[],by simp,by simp, ?_⟩
 simp [sz,szL,ren,Qk,Qy8,Qck]
theorem Xs7:Tryz.f133.body.all yOK=true:=by kernel_rfl
def Qhr (a b:Nat):List (List V):=(List.range (a*b)).map fun k=>[.int .i64 (k/b:Nat),.int .i64 (k%b:Nat)]
theorem Qow {a b i j:Nat} (hi:i<a) (hj:j<b):(Qhr a b)[i*b+j]?=some [.int .i64 (i:Nat),.int .i64 (j:Nat)]:=by
 have h:i*b+j<a*b:=by
  have:=Nat.mul_le_mul_right b (show i+1≤a by omega)
  rw [Nat.succ_mul] at this;omega
 have e1:(i*b+j)/b=i:=by rw [Nat.mul_comm,Nat.mul_add_div (by omega),Nat.div_eq_of_lt hj,Nat.add_zero]
 have e2:(i*b+j)%b=j:=by rw [Nat.mul_comm,Nat.mul_add_mod,Nat.mod_eq_of_lt hj]
 simp only [Qhr,List.getElem?_map,List.getElem?_range h,Option.map_some,e1,e2]
theorem Qgt (a b:Nat):(Qhr a b).length=a*b:=by simp [Qhr]
theorem Xe0 (a b:Nat) (ha:a≤1000000) (hb:b≤1000000):Gen C 133 [.rp [.int .i64 (a:Nat)] 0,.rp [.int .i64 (b:Nat)] 0] (Qhr a b):=by
 refine Gen.of3 Qf Tryz.func133 w133 Xs7 rfl Tryz.ntmps133 Tryz.results133 (zLe rfl) (fun bs hb=>by
  simp only [Qhr,List.mem_map,List.mem_range] at hb;obtain ⟨i,_,rfl⟩:=hb;simp [Qh,clo]) ?_
 intro G l J hW;refine zG ?_;refine Jl (fun n ts H=>∃ (i:Nat),(i≤a)∧(n=a - i)∧(H.length=i*b)∧ts.length=21∧nth ts 0=.fn (.yield l) [] []∧nth ts 1=.rp [.int .i64 (a:Nat)] 0∧nth ts 2=.rp [.int .i64 (b:Nat)] 0∧nth ts 6=.int .i64 (a:Nat)∧nth ts 7=.int .i64 (i:Nat)) ?_ (n:=a) ?_
 ·skip
  rintro n ts H ⟨i,hi,hn,hH,hL,hs0,hs1,hs2,hs6,hs7⟩;refine Qdw [(0,.fn (.yield l) [] []),(1,.rp [.int .i64 (a:Nat)] 0),(2,.rp [.int .i64 (b:Nat)] 0),(6,.int .i64 (a:Nat)),(7,.int .i64 (i:Nat))] hL (by simp only [zFm,hs0,hs1,hs2,hs6,hs7,true_and];exact zNm) ?_
  clear hL hs0 hs1 hs2 hs6 hs7 ts
  refine hW _ _ _ _ ?_;subst hn
  have hab:=Nat.mul_le_mul_right b hi
  by_cases hcase:i<a
  ·skip
   refine zG ?_;refine Jl (fun n ts H=>∃ (j:Nat),(j≤b)∧(n=b - j)∧(H.length=i*b+j)∧ts.length=21∧nth ts 0=.fn (.yield l) [] []∧nth ts 1=.rp [.int .i64 (a:Nat)] 0∧nth ts 2=.rp [.int .i64 (b:Nat)] 0∧nth ts 4=.int .i64 (i:Nat)∧nth ts 6=.int .i64 (a:Nat)∧nth ts 7=.int .i64 (i:Nat)∧nth ts 10=.int .i64 (b:Nat)∧nth ts 11=.int .i64 (j:Nat)) ?_ (n:=b) ?_
   ·skip
    rintro n ts H ⟨j,hj,hn,hH,hL,hs0,hs1,hs2,hs4,hs6,hs7,hs10,hs11⟩;refine Qdw [(0,.fn (.yield l) [] []),(1,.rp [.int .i64 (a:Nat)] 0),(2,.rp [.int .i64 (b:Nat)] 0),(4,.int .i64 (i:Nat)),(6,.int .i64 (a:Nat)),(7,.int .i64 (i:Nat)),(10,.int .i64 (b:Nat)),(11,.int .i64 (j:Nat))] hL (by simp only [zFm,hs0,hs1,hs2,hs4,hs6,hs7,hs10,hs11,true_and];exact zNm) ?_
    clear hL hs0 hs1 hs2 hs4 hs6 hs7 hs10 hs11 ts
    refine hW _ _ _ _ ?_;by_cases hjb:j<b
    ·have hij:i*b+j<a*b:=by
      have:=Nat.mul_le_mul_right b (show i+1≤a by omega)
      rw [Nat.succ_mul] at this;omega
     refine zG ?_;rw [hH,Qgt];refine ⟨Qow hcase hjb,⟨b - (j+1),by omega,j+1,by omega,rfl,rfl,rfl⟩,.inr trivial,.inr ?_⟩
     rw [List.length_replicate];omega
    ·have e:(i+1)*b=i*b+b:=Nat.succ_mul i b
     refine zG ?_;exact ⟨a - (i+1),by omega,i+1,by omega,rfl,by omega,rfl⟩
   ·exact ⟨0,by omega,rfl,by omega,rfl,rfl,rfl,rfl,rfl,rfl,rfl,rfl,rfl⟩
  ·obtain rfl:i=a:=by omega
   refine zG ?_;rw [Qgt];exact ⟨.inl trivial,.inl hH⟩
 ·exact ⟨0,by omega,by omega,by simp,rfl,rfl,rfl,rfl,rfl,rfl⟩
end Go.Proofs.YtipmmjebfpbkmaaGreat
end
