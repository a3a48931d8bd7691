/-
  Parts Num3, Num4, Num5, Num6, Num7, Num8, Num9, Num10, Num11, Num12, Num13, Num14, RefN1, RefN2, RefN3, RefN4, Num15, Num16, RefN5, RefN6, Num17, Ten1, Num18, Num19, Num20, Num21, Ten2, one behind the other: a program logic of our own, contracts of functions.
-/
import Derived.Test.YtepjcbnpbcmfcaaGreatQ5

set_option linter.unusedVariables false
set_option linter.unusedSimpArgs false
set_option maxRecDepth 100000
set_option maxHeartbeats 8000000
section
namespace Go.Proofs.YtepjcbnpbcmfcaaGreat
open Go.Bv
def wr (st:Option Nat) (H:Qa) (row:Row):Qa:=match st with
 | none=>H
 | some q=>H.set q (some row)
def er (st:Option Nat) (H:Qa):Qa:=match st with
 | none=>H
 | some q=>H.set q none
theorem Xmw {st:Option Nat} {H:Qa} {q:Nat} (h:st≠some q):Qc (er st H) q=Qc H q:=by
 cases st with
 | none=>rfl
 | some s=>exact Qk _ fun e=>h (by rw [e])
theorem Qoa {st:Option Nat} {H:Qa} {q:Nat} (row:Row) (h:st≠some q):Qc (wr st H row) q=Qc H q:=by
 cases st with
 | none=>rfl
 | some s=>exact Qk _ fun e=>h (by rw [e])
theorem Xko (st:Option Nat) (H:Qa) (row:Row):(wr st H row).length=H.length:=by cases st<;>simp [wr]
theorem Xgo {st:Option Nat} {H:Qa} {q:Nat} {row row':Row} (h:st=some q) (hr:Qc H q=some row):Qc (wr st H row') q=some row':=by
 subst h;exact Qj hr
theorem Qw8 (st:Option Nat) (H:Qa) (row:Row):Same (er st H) (wr st H row):=by
 cases st with
 | none=>exact .refl _
 | some s =>
  intro r x hr;by_cases e:s=r
  ·subst e
   have:Qc (H.set s none) s=none:=by simp [Qc,List.getElem?_set]
   simp only [er,this] at hr;cases hr
  ·simp only [er,wr] at hr ⊢;rw [Qk _ e] at hr ⊢;exact hr
theorem Xpj (st:Option Nat) (H:Qa):Same (er st H) H:=by
 cases st with
 | none=>exact .refl _
 | some s =>
  intro r x hr;by_cases e:s=r
  ·subst e
   have:Qc (H.set s none) s=none:=by simp [Qc,List.getElem?_set]
   simp only [er,this] at hr;cases hr
  ·simp only [er] at hr;rw [Qk _ e] at hr;exact hr
def AtC (f:Nat) (caps:List V) (st:Option Nat) (B:Qa) (rs:Nat→Row) (n:Nat) (xs:Nat→Nat):Prop :=
 ∀ i,i<n→∀ H:Qa,(∀ q row,st≠some q→Qc B q=some row→Qc H q=some row)→(∀ q,st=some q→Qc H q=some (rs i)) →
  Fc C f (.int .i64 (i:Nat)::caps) H fun v H'=>v=.int .u64 (xs i:Nat)∧H'=wr st H (rs (i+1))
def XS (xs:Nat→Nat) (n:Nat):List Nat:=(List.range n).map xs
theorem Xnh (xs:Nat→Nat) (n:Nat):(XS xs n).length=n:=by simp [XS]
theorem Qxl (xs:Nat→Nat) (n:Nat):XS xs (n+1)=XS xs n++[xs n]:=by simp [XS,List.range_succ]
theorem Qd6 (b:Nat) (xs:Nat→Nat) (n:Nat):lv b (XS xs (n+1))=lv b (XS xs n)+b ^ n*xs n:=by rw [Qxl,Jz,Xnh]
theorem Qqx {b V x c:Nat} {l:List Nat} (h:lv b l+b ^ l.length*c=V) (e:x%b+b*(x/b)=x):lv b (l++[x%b])+b ^ (l++[x%b]).length*(x/b)+b ^ l.length*c=V+b ^ l.length*x:=by
 rw [Jz,List.length_append,List.length_cons,List.length_nil,Nat.zero_add,Nat.pow_succ,← h]
 have:b ^ l.length*x=b ^ l.length*(x%b)+b ^ l.length*b*(x/b):=by
  rw [Nat.mul_assoc,← Nat.mul_add,e]
 omega
structure Gat (st:Option Nat) (B:Qa) (rs:Nat→Row) (i:Nat) (H:Qa) (v:V) (l:List Nat) (c:Nat):Prop where
 put:Xjr B.length (B.length+1) H v l c
 far:v=.nil∨∃ r m,v=.ref r 0 m∧B.length+2≤r
 base:∀ q row,st≠some q→Qc B q=some row→Qc H q=some row
 state:∀ q,st=some q→Qc H q=some (rs i)
 len:B.length+2≤H.length
 lim:Lim l
theorem Gat.next {st:Option Nat} {B:Qa} {rs:Nat→Row} {i:Nat} {H:Qa} {v:V} {l:List Nat} {c x:Nat} (h:Gat st B rs i H v l c) (hst:∀ q,st=some q→q<B.length) {H':Qa}
  (h1:Xjr B.length (B.length+1) H' (.ref (H.length+1) 0 (l.length+1)) (l++[x%4294967296]) (x/4294967296)) (h2:H'.length=H.length+2) (h3:∀ q row,q≠B.length→q≠B.length+1→(∀ off m,v≠.ref q off m)→Qc H q=some row→Qc H' q=some row) :
  Gat st B rs i H' (.ref (H.length+1) 0 (l.length+1)) (l++[x%4294967296]) (x/4294967296):=by
 have hf:∀ q,q<B.length→∀ off m,v≠.ref q off m:=fun q hq off m e=>by
  rcases h.far with h | ⟨r,k,h,hr⟩
  ·rw [h] at e;cases e
  ·rw [h] at e;injection e with e;omega
 have hl:=h.len
 refine ⟨h1,.inr ⟨_,_,rfl,by omega⟩,fun q row hq hr=>?_,fun q hq=>?_,by omega,fun y hy=>?_⟩
 ·have hlt:=Xt hr
  exact h3 q row (by omega) (by omega) (hf q hlt) (h.base q row hq hr)
 ·have hlt:=hst q hq
  exact h3 q _ (by omega) (by omega) (hf q hlt) (h.state q hq)
 ·rcases List.mem_append.1 hy with hy | hy
  ·exact h.lim y hy
  ·simp at hy;rw [hy];exact Nat.mod_lt _ (by decide)
theorem Gat.wr {st:Option Nat} {B:Qa} {rs:Nat→Row} {i:Nat} {H:Qa} {v:V} {l:List Nat} {c:Nat} (h:Gat st B rs i H v l c) (hst:∀ q,st=some q→q<B.length):Gat st B rs (i+1) (Proofs.YtepjcbnpbcmfcaaGreat.wr st H (rs (i+1))) v l c:=by
 have hne:∀ q,B.length≤q→st≠some q:=fun q hq e=>by have:=hst q e;omega
 refine ⟨⟨by rw [Qoa _ (hne _ (by omega))];exact h.put.1,by rw [Qoa _ (hne _ (by omega))];exact h.put.2.1, ?_⟩,h.far,fun q row hq hr=>by rw [Qoa _ hq];exact h.base q row hq hr,fun q hq=>Xgo hq (h.state q hq),by rw [Xko];exact h.len,h.lim⟩
 rcases h.put.2.2 with k | ⟨r,k1,k2,k3⟩
 ·exact .inl k
 ·refine .inr ⟨r,k1, ?_,k3⟩;rcases h.far with k4 | ⟨r',m,k4,k5⟩
  ·rw [k4] at k1;cases k1
  ·rw [k4] at k1;injection k1 with k1;rw [Qoa _ (hne _ (by omega))];exact k2
def Xpy (st:Option Nat) (B:Qa) (row:Row) (v:V) (H:Qa) (x:Nat):Prop :=
 IsZ 106 1 H v (dg 4294967296 x).length (Qz .u32 (dg 4294967296 x))∧(∀ q row,st≠some q→Qc B q=some row→Qc H q=some row)∧(∀ q,st=some q→Qc H q=some row)
theorem Qo7 {st:Option Nat} {B:Qa} {rs:Nat→Row} {i:Nat} {H:Qa} {v w:V} {l:List Nat} {x:Nat} (hst:∀ q,st=some q→q<B.length) (h:Gat st B rs i H v l 0) (hv:lv 4294967296 l=x) (hw:(w=.nil∧Xw l=0)∨(w=.sl 0 []∧Xw l=0)∨∃ r,v=.ref r 0 l.length∧w=.ref r 0 (Xw l)) :
  ∃ H2,Shorter H H2∧Xpy st B (rs i) w H2 x:=by
 have hd:dg 4294967296 x=l.take (Xw l):=by rw [← hv];exact Qnq (by decide) h.lim
 rcases hw with ⟨rfl,h0⟩ | ⟨rfl,h0⟩ | ⟨r,hr,rfl⟩
 ·refine ⟨H,.refl H,.inr ?_,h.base,h.state⟩;rw [hd,h0];exact .inl ⟨rfl,rfl,rfl⟩
 ·refine ⟨H,.refl H,.inl ?_,h.base,h.state⟩;rw [hd,h0];exact ⟨rfl,rfl,rfl⟩
 ·have hO:=h.put.2.2
  rcases hO with ⟨k,_⟩ | ⟨q,k1,k2,k3⟩
  ·rw [k] at hr;cases hr
  ·rw [k1] at hr;injection hr with hr
   subst hr
   have hfar:B.length+2≤q:=by
    rcases h.far with k4 | ⟨r',m,k4,k5⟩
    ·rw [k4] at k1;cases k1
    ·rw [k4] at k1;injection k1 with k1;omega
   refine ⟨_,Shorter.set k2 (Xw l),.inr (.inr ⟨q, ?_, ?_, ?_⟩),fun p row hp hrow=>?_,fun p hp=>?_⟩
   ·rw [hd,List.length_take,Nat.min_eq_left (Qbm l)]
   ·rw [Qj k2,hd,Qiv]
   ·simp [Yb]
   ·rw [Qk _ (by have:=Xt hrow;omega)];exact h.base p row hp hrow
   ·rw [Qk _ (by have:=hst p hp;omega)];exact h.state p hp
theorem Qjm {f:Nat} {caps:List V} {st:Option Nat} {B:Qa} {rs:Nat→Row} {N:Nat} {xs:Nat→Nat} (hst:∀ q,st=some q→q<B.length) (hs0:∀ q,st=some q→Qc B q=some (rs 0)) (hN:N≤8796093022208) (hx:∀ i,i<N→xs i<9223372036854775808) (ha:AtC f caps st B rs N xs) :
  Fc C 290 [.int .i64 (N:Nat),.fn (.func f) [] caps] B fun v H=>Xpy st B (rs N) v H (lv 4294967296 (XS xs N)):=by
 refine Fc.trim ?_;refine zL Qd Tryz.func290 w290 Tryz.ntmps290 Tryz.results290 ?_
 (refine zG ?_;(repeat' ((with_reducible apply zBr)<;>intro h<;>refine zG ?_))<;>try exact .intro)
 refine Qg (fun n ts H=>∃ (i:Nat) (l:List Nat) (c:Nat) (v:V),(i≤N)∧(Gat st B rs i H v l c)∧(l.length=i)∧(lv 4294967296 l+4294967296 ^ l.length*c=lv 4294967296 (XS xs i))∧(c<4294967296)∧(n=N - i)∧ts.length=31∧nth ts 0=.int .i64 (N:Nat)∧nth ts 1=.fn (.func f) [] caps∧nth ts 5=.ptr B.length 0∧nth ts 6=.ptr (B.length+1) 0∧nth ts 7=.fn (.func 303) [] [.ptr B.length 0,.ptr (B.length+1) 0]∧nth ts 10=.int .i64 (N:Nat)∧nth ts 11=.int .i64 (i:Nat)) ?_ (n:=N) ?_
 ·skip
  rintro n ts H ⟨i,l,c,v,hi,hG,hli,hlv,hc,hn,hL,hs0,hs1,hs5,hs6,hs7,hs10,hs11⟩;refine Qv [(0,.int .i64 (N:Nat)),(1,.fn (.func f) [] caps),(5,.ptr B.length 0),(6,.ptr (B.length+1) 0),(7,.fn (.func 303) [] [.ptr B.length 0,.ptr (B.length+1) 0]),(10,.int .i64 (N:Nat)),(11,.int .i64 (i:Nat))] hL (by simp only [zFm,hs0,hs1,hs5,hs6,hs7,hs10,hs11,true_and];exact zNm) ?_
  clear hL hs0 hs1 hs5 hs6 hs7 hs10 hs11 ts
  refine Qw Qd ?_
  have hne:∀ q,B.length≤q→st≠some q:=fun q hq e=>by have:=hst q e;omega
  have hp1:=hG.put.1
  have hp2:=hG.put.2.1
  (refine zG ?_;(repeat' ((with_reducible apply zBr)<;>intro h<;>refine zG ?_))<;>try exact .intro)
  ·have hiN:i<N:=by omega
   have hxi:=hx i hiN
   refine ⟨er st H,Xpj st H, ?_⟩
   have hp3:Qc (er st H) (B.length+1)=some ⟨271,1,[.int .u64 (c:Nat)]⟩:=by rw [Xmw (hne _ (by omega))];exact hp2
   (refine zG ?_;(repeat' ((with_reducible apply zBr)<;>intro h<;>refine zG ?_))<;>try exact .intro)
   refine Pc.gen (ha i hiN H hG.base hG.state) ⟨_,_,rfl,rfl⟩ ?_;rintro v1 H1 ⟨rfl,rfl⟩;refine ⟨⟨fun h=>Qw8 st H _,fun h=>(Qw8 st H _).stand⟩, ?_⟩
   have hG1:=hG.wr hst
   (apply Zo;repeat' ((with_reducible first|apply Zk|apply zBr<;>intro h)<;>try simp -implicitDefEqProofs (maxSteps:=9^7) (disch:=first|exact zDs|fail) only [go_sem,hp3]))
   have e1:((xs i:Nat):Int)+((c:Nat):Int)=((xs i+c:Nat):Int):=by omega
   rw [e1];refine (Qqy hG1.put (by omega) (by omega)).mono ?_
   rintro u H2 ⟨rfl,k1,k2,k3⟩
   (refine zG ?_;(repeat' ((with_reducible apply zBr)<;>intro h<;>refine zG ?_))<;>try exact .intro)
   have hG2:=hG1.next hst k1 k2 k3
   have hst2:=Qqx (x:=xs i+c) hlv (Nat.mod_add_div _ _)
   refine ⟨_,by omega,i+1,_,_,_,by omega,hG2,by simp [hli], ?_,by omega,rfl,by congr 1⟩
   rw [Qd6];simp only [List.length_append,List.length_cons,List.length_nil,Nat.zero_add,hli,Nat.mul_add] at hst2 ⊢;omega
  ·obtain rfl:i=N:=by omega
   refine Qg (fun n ts H=>∃ (l:List Nat) (c:Nat) (v:V),(Gat st B rs i H v l c)∧(l.length≤i∨c=0)∧(l.length≤i+1)∧(lv 4294967296 l+4294967296 ^ l.length*c=lv 4294967296 (XS xs i))∧(c<4294967296)∧(n=c)∧ts.length=31∧nth ts 5=.ptr B.length 0∧nth ts 6=.ptr (B.length+1) 0∧nth ts 7=.fn (.func 303) [] [.ptr B.length 0,.ptr (B.length+1) 0]) ?_ (n:=c) ?_
   ·skip
    rintro n ts H ⟨l,c,v,hG,hll,hl2,hlv,hc,hn,hL,hs5,hs6,hs7⟩;refine Qv [(5,.ptr B.length 0),(6,.ptr (B.length+1) 0),(7,.fn (.func 303) [] [.ptr B.length 0,.ptr (B.length+1) 0])] hL (by simp only [zFm,hs5,hs6,hs7,true_and];exact zNm) ?_
    clear hL hs5 hs6 hs7 ts
    refine Qw Qd ?_
    have hp1:=hG.put.1
    have hp2:=hG.put.2.1
    (apply Zo;repeat' ((with_reducible first|apply Zk|apply zBr<;>intro h)<;>try simp -implicitDefEqProofs (maxSteps:=9^7) (disch:=first|exact zDs|fail) only [go_sem,hp1,hp2]))
    ·refine (Qqy (x:=c) hG.put (by omega) (by omega)).mono ?_
     rintro u H2 ⟨rfl,k1,k2,k3⟩
     (refine zG ?_;(repeat' ((with_reducible apply zBr)<;>intro h<;>refine zG ?_))<;>try exact .intro)
     have hG2:=hG.next hst k1 k2 k3
     have hst2:=Qqx hlv (Nat.mod_add_div c 4294967296)
     have e0:c/4294967296=0:=Nat.div_eq_of_lt hc
     refine ⟨c/4294967296,by omega,_,_,_,hG2,.inr e0,by simp;omega, ?_,by omega,rfl⟩
     omega
    ·obtain rfl:c=0:=by omega
     have hO:=hG.put.2.2
     refine Pc.pureL (Qhc l (by omega)) ⟨hO.bor' (Qp _ _),trivial⟩ (by intro g;simp only [go_sem,ren]) rfl ?_
     (apply Zo;repeat' ((with_reducible first|apply Zk|apply zBr<;>intro h)<;>try simp -implicitDefEqProofs (maxSteps:=9^7) (disch:=first|exact zDs|fail) only [go_sem,hp1,hp2]))
     have hlv':lv 4294967296 l=lv 4294967296 (XS xs i):=by simpa using hlv
     refine Qe6 hO (by simp [t106ok]) (by simp [t106size]) (Qbm l) (fun h0 hv=>?_) (fun h0 hv=>?_) (fun r h0 hv=>?_)
     ·skip
      (refine zG ?_;(repeat' ((with_reducible apply zBr)<;>intro h<;>refine zG ?_))<;>try exact .intro)
      exact Qo7 hst hG hlv' (.inl ⟨rfl,h0⟩)
     ·skip
      (refine zG ?_;(repeat' ((with_reducible apply zBr)<;>intro h<;>refine zG ?_))<;>try exact .intro)
      exact Qo7 hst hG hlv' (.inr (.inl ⟨rfl,h0⟩))
     ·skip
      (refine zG ?_;(repeat' ((with_reducible apply zBr)<;>intro h<;>refine zG ?_))<;>try exact .intro)
      exact Qo7 hst hG hlv' (.inr (.inr ⟨r,hv,rfl⟩))
   ·exact ⟨l,c,v,hG,by omega,by omega,hlv,hc,rfl,rfl,rfl,rfl,rfl⟩
 ·refine ⟨0,[],0,.nil,by omega,⟨⟨?_, ?_,.inl ⟨rfl,rfl,rfl⟩⟩,.inl rfl, ?_, ?_, ?_, ?_⟩,rfl,rfl,by omega,by omega,rfl,rfl,rfl,rfl,rfl,rfl,rfl,rfl⟩
  ·simp [Qc]
  ·simp [Qc]
  ·exact fun q row _ hr=>Ql hr _
  ·exact fun q hq=>Ql (hs0 q hq) _
  ·simp
  ·exact fun x hx=>nomatch hx
def B32:Nat:=4294967296
def NA (l:List Nat):V:=.sl l.length (Qz .u32 l)
def Xy (x:Nat):V:=NA (dg B32 x)
attribute [go_sem] NA Xy
theorem Yz (x:Nat):Lim (dg B32 x):=Xe6 (by decide) x
theorem Yg (x:Nat):lv B32 (dg B32 x)=x:=Qrk (by decide) x
theorem Xs (l:List Nat):clo (NA l)=true:=by simp [NA,clo,Qp]
theorem Xlq (g:Nat→Option Nat) (l:List Nat):ren g (NA l)=NA l:=by simp [NA,ren,Kh]
def Qj1 (v:V) (H:Qa) (x:Nat):Prop:=RetZ 106 1 H v (dg B32 x).length (Qz .u32 (dg B32 x))
def IsN (v:V) (H:Qa) (x:Nat):Prop:=IsZ 106 1 H v (dg B32 x).length (Qz .u32 (dg B32 x))
theorem IsN.ret {v:V} {H:Qa} {x:Nat} (h:IsN v H x):∃ sel,Qa7 sel (fun v H=>Qj1 v H x) v H:=IsZ.ret h (fun g=>Kh _ g _) fun v H h=>h
theorem Fc.byN {f:FuncId} {args args':List V} {H:Qa} {K:V→Qa→Prop} {x:Nat} (h:Fc C f args' [] fun v H=>Qj1 v H x) (hb:BorL H args args') (hK:K (Xy x) H):Fc C f args H K:=Fc.byZ h hb (Qp _ _) (Xq _ _) hK
theorem Fc.isN {f:FuncId} {args args':List V} {H:Qa} {K:V→Qa→Prop} {x:Nat} (h:Fc C f args' [] fun v H=>Qj1 v H x) (hb:BorL H args args') (hK:∀ v X,IsN v (H++X) x→K v (H++X)):Fc C f args H K:=Fc.isZ h hb (fun g=>Kh _ g _) (Xq _ _) hK
theorem Pc.isN {H0:Qa} {f:FuncId} {args args':List V} {H:Qa} {K:V→Qa→Prop} {x:Nat} (h:Fc C f args' [] fun v H=>Qj1 v H x) (hb:BorL H args args') (hK:∀ v X,IsN v (H++X) x→K v (H++X)):Pc C H0 f args H K:=Pc.isZ h hb (by simp [Yb]) (fun g=>Kh _ g _) (Xq _ _) hK
theorem Qet {f:Nat} {caps:List V} {N:Nat} {xs:Nat→Nat} (hN:N≤8796093022208) (hx:∀ i,i<N→xs i<9223372036854775808) (hc:Qf caps=true) (ha:∀ i,i<N→Pu C f (.int .i64 (i:Nat)::caps) (.int .u64 (xs i:Nat))) :
  Fc C 290 [.int .i64 (N:Nat),.fn (.func f) [] caps] [] fun v H=>Qj1 v H (lv B32 (XS xs N)):=by
 refine Fc.keep ?_;refine (Qjm (st:=none) (B:=[]) (rs:=fun _=>⟨0,0,[]⟩) (xs:=xs) (fun q h=>by cases h) (fun q h=>by cases h) hN hx ?_).mono ?_
 ·intro i hi H _ _;refine (Fc.pure (ha i hi) (by simp [Qf,clo,hc]) (fun g=>rfl) ⟨rfl,rfl⟩)
 ·rintro v H ⟨h1,_⟩;exact IsN.ret h1
theorem Xfy {k:Nat} (x m:Nat) (hx:x<2 ^ k) (hm:m≤k):(BitVec.ofInt k (x:Int) &&& BitVec.ofInt k ((2 ^ m - 1:Nat):Int)).toNat=x%2 ^ m:=by
 rw [BitVec.toNat_and,BitVec.ofInt_natCast,BitVec.ofInt_natCast,BitVec.toNat_ofNat,BitVec.toNat_ofNat,Nat.mod_eq_of_lt hx]
 have:2 ^ m - 1<2 ^ k:=by
  have:=Nat.pow_le_pow_right (show 0<2 by decide) hm
  have:=Nat.two_pow_pos m
  omega
 rw [Nat.mod_eq_of_lt this,Nat.and_two_pow_sub_one_eq_mod]
theorem Qow (x:Nat) (hx:x<18446744073709551616):(BitVec.ofInt IntKind.u64.bits (x:Int) &&& BitVec.ofInt IntKind.u64.bits 4294967295).toNat=x%4294967296:=Xfy (k:=64) x 32 hx (by decide)
theorem Qzi (n i:Nat) (hn:n<18446744073709551616) (hi:i<2):Pu C 295 [.int .i64 (i:Nat),.rp [.int .u64 (n:Nat)] 0] (.int .u64 (n/4294967296 ^ i%4294967296:Nat)):=by
 refine zK Qd Tryz.func295 w295 Tryz.ntmps295 Tryz.results295 ?_
 (refine zG ?_;(repeat' ((with_reducible apply zBr)<;>intro h<;>refine zG ?_))<;>try exact .intro)
 (refine Qh (by intro g;simp only [go_sem,ren,Qe]) ?_)
 have e:((n:Int)).fdiv (2 ^ min (32*(i:Int)).toNat 64)=((n/4294967296 ^ i:Nat):Int):=by
  rw [Qb4,show min (32*(i:Int)).toNat 64=32*i by omega,Nat.pow_mul]
 rw [e];exact congrArg (fun n:Nat=>V.int .u64 (n:Int)) (Qow _ (Nat.lt_of_le_of_lt (Nat.div_le_self _ _) hn))
theorem Qke (n:Nat) (hn:n<18446744073709551616):Fc C 274 [.int .u64 (n:Nat)] [] fun v H=>Qj1 v H n:=by
 refine zK Qd Tryz.func274 w274 Tryz.ntmps274 Tryz.results274 ?_
 (refine zG ?_;(repeat' ((with_reducible apply zBr)<;>intro h<;>refine zG ?_))<;>try exact .intro)
 have hg:=Qet (f:=295) (caps:=[.rp [.int .u64 (n:Nat)] 0]) (N:=2) (xs:=fun i=>n/4294967296 ^ i%4294967296) (by decide) (fun i hi=>by omega) rfl (fun i hi=>Qzi n i hn hi)
 refine Fc.isN hg (Qdh 4 rfl) fun v X hv=>?_
 (refine zG ?_;(repeat' ((with_reducible apply zBr)<;>intro h<;>refine zG ?_))<;>try exact .intro)
 have e:lv B32 (XS (fun i=>n/4294967296 ^ i%4294967296) 2)=n:=by
  rw [Qd6,Qd6];simp [XS,lv,B32];omega
 rw [e] at hv;exact hv.ret
theorem Qvx (a b:List Nat) (i:Nat) (ha:a.length≤17592186044416) (hb:b.length≤17592186044416) (hA:Lim a) (hB:Lim b):Pu C 291 [.int .i64 (i:Nat),.rp [NA a] 0,.rp [NA b] 0] (.int .u64 (Ym a i+Ym b i:Nat)):=by
 have h1:=Qay hA i
 have h2:=Qay hB i
 refine zK Qd Tryz.func291 w291 Tryz.ntmps291 Tryz.results291 ?_
 (refine zG ?_;(repeat' ((with_reducible apply zBr)<;>intro h<;>refine zG ?_))<;>try exact .intro)
 refine Pc.pure (Km a i ha hA) (by simp [go_sem,Qf,clo,Qb,Qi]) (by intro g;simp only [go_sem,ren,Qe]) ?_
 (refine zG ?_;(repeat' ((with_reducible apply zBr)<;>intro h<;>refine zG ?_))<;>try exact .intro)
 refine Pc.pure (Km b i hb hB) (by simp [go_sem,Qf,clo,Qb,Qi]) (by intro g;simp only [go_sem,ren,Qe]) ?_
 (refine zG ?_;(repeat' ((with_reducible apply zBr)<;>intro h<;>refine zG ?_))<;>try exact .intro)
 (refine Qh (by intro g;simp only [go_sem,ren,Qe]) ?_)
 rfl
theorem Qla {b:Nat} (a:List Nat):∀ n,a.length≤n→lv b (XS (fun i=>Ym a (i:Int)) n)=lv b a:=by
 have h:∀ n,n≤a.length→XS (fun i=>Ym a (i:Int)) n=a.take n:=by
  intro n
  induction n with
  | zero=>intro _;simp [XS]
  | succ n ih =>
   intro hn;rw [Qxl,ih (by omega),List.take_add_one]
   simp [Ym,List.getD,show n<a.length by omega]
 intro n hn;obtain ⟨k,rfl⟩:=Nat.le.dest hn
 induction k with
 | zero=>rw [Nat.add_zero,h _ (Nat.le_refl _),List.take_length]
 | succ k ih =>
  rw [← Nat.add_assoc,Qd6,ih (by omega)]
  have e:Ym a ((a.length+k:Nat):Int)=0:=by
   simp only [Ym];rw [if_pos (by omega),Int.toNat_natCast];simp [List.getD]
  rw [e];simp
theorem Xdn {b:Nat} (f g:Nat→Nat):∀ n,lv b (XS (fun i=>f i+g i) n)=lv b (XS f n)+lv b (XS g n)
 | 0=>by simp [XS,lv]
 | n+1=>by rw [Qd6,Qd6,Qd6,Xdn f g n,Nat.mul_add];omega
theorem Xgl (a b:List Nat) (ha:a.length≤8796093022208) (hb:b.length≤8796093022208) (hA:Lim a) (hB:Lim b):Fc C 271 [NA a,NA b] [] fun v H=>Qj1 v H (lv B32 a+lv B32 b):=by
 refine zK Qd Tryz.func271 w271 Tryz.ntmps271 Tryz.results271 ?_
 (refine zG ?_;(repeat' ((with_reducible apply zBr)<;>intro h<;>refine zG ?_))<;>try exact .intro)
 have e:(if (b.length:Int)>(a.length:Int) then (b.length:Int) else (a.length:Int))=((max a.length b.length:Nat):Int):=by split<;>omega
 have hg:=Qet (f:=291) (caps:=[.rp [NA a] 0,.rp [NA b] 0]) (N:=max a.length b.length) (xs:=fun i=>Ym a i+Ym b i) (by omega) (fun i hi=>by have:=Qay hA i;have:=Qay hB i;omega) (by simp [Qf,clo,Xs]) (fun i hi=>Qvx a b i (by omega) (by omega) hA hB)
 rw [e];refine Fc.isN hg (Qdh 5 (by simp [go_sem,Qc1,clo,Qf,Qc])) fun v X hv=>?_
 (refine zG ?_;(repeat' ((with_reducible apply zBr)<;>intro h<;>refine zG ?_))<;>try exact .intro)
 rw [Xdn,Qla a _ (by omega),Qla b _ (by omega)] at hv
 exact hv.ret
end Go.Proofs.YtepjcbnpbcmfcaaGreat
end
section
namespace Go.Proofs.YtepjcbnpbcmfcaaGreat
open Go.Bv
theorem Qvg (l:List Nat) (hl:l.length≤17592186044416):Fc C 112 [NA l] [] fun v H=>Ret 106 1 H v l.length (Qz .u32 l):=by
 refine zK Qd Tryz.func112 w112 Tryz.ntmps112 Tryz.results112 ?_
 (refine zG ?_;(repeat' ((with_reducible apply zBr)<;>intro h<;>refine zG ?_))<;>try exact .intro)
 refine ⟨?_,fun h0=>?_⟩
 ·refine Qcv (n:=0) (m:=l.length) (cs:=[]) (news:=Qz .u32 l) (.inr ⟨0,rfl,rfl,rfl⟩) rfl (by simp [Yb,t106size]) (Qd4 _ _) (by simp [t106size]) (by simp [t106bytes]) (by simp only [t106bytes];omega) rfl fun v' H' h1 _ _ _=>?_
  (refine zG ?_;(repeat' ((with_reducible apply zBr)<;>intro h<;>refine zG ?_))<;>try exact .intro)
  simp only [List.nil_append,Nat.zero_add] at h1;exact Own.ret h1 (fun g=>Kh _ g _) fun v H h=>h
 ·have:l=[]:=List.length_eq_zero_iff.1 h0
  subst this
  (refine zG ?_;(repeat' ((with_reducible apply zBr)<;>intro h<;>refine zG ?_))<;>try exact .intro)
  exact Own.ret (Own.nil _ _ _) (fun g=>rfl) fun v H h=>h
theorem Xjs (l:List Nat) (n:Nat) (h:n≤l.length):V.sl n ((Qz .u32 l).take n)=NA (l.take n):=by
 rw [Qiv,NA,List.length_take,Nat.min_eq_left h]
theorem Own.isN {v:V} {H:Qa} {l:List Nat} {x:Nat} (h:Bv.Own 106 1 H v l.length (Qz .u32 l)) (hl:l=dg B32 x):IsN v H x:=by subst hl;exact .inr h
theorem Qf8 (l:List Nat) (hl:l.length≤17592186044416) (hL:Lim l):Fc C 275 [NA l] [] fun v H=>Qj1 v H (lv B32 l):=by
 have ht:=Qbm l
 refine zK Qd Tryz.func275 w275 Tryz.ntmps275 Tryz.results275 ?_
 (refine zG ?_;(repeat' ((with_reducible apply zBr)<;>intro h<;>refine zG ?_))<;>try exact .intro)
 refine Fc.pure (Qhc l hl) (by simp [go_sem,Qf,clo,Qb,Qi]) (by intro g;simp only [go_sem,ren,Qe]) ?_
 (refine zG ?_;(repeat' ((with_reducible apply zBr)<;>intro h<;>refine zG ?_))<;>try exact .intro)
 rw [Xjs l _ ht];refine Fc.ownL (Qvg (l.take (Xw l)) (by rw [List.length_take];omega)) ⟨.self (Xs _),trivial⟩ (fun g=>Kh _ g _) (Xq _ _) fun v X hv=>?_
 (refine zG ?_;(repeat' ((with_reducible apply zBr)<;>intro h<;>refine zG ?_))<;>try exact .intro)
 exact (Own.isN hv (Qnq (by decide) hL).symm).ret
def Xd3:ByteArray:={ data:=(([0,1,2,2,3,3,3,3,4,4,4,4,4,4,4,4,5,5,5,5,5,5,5,5,5,5,5,5,5,5,5,5,6,6,6,6,6,6,6,6,6,6,6,6,6,6,6,6,6,6,6,6,6,6,6,6,6,6,6,6,6,6,6,6].append [7,7,7,7,7,7,7,7,7,7,7,7,7,7,7,7,7,7,7,7,7,7,7,7,7,7,7,7,7,7,7,7,7,7,7,7,7,7,7,7,7,7,7,7,7,7,7,7,7,7,7,7,7,7,7,7,7,7,7,7,7,7,7,7]).append ([8,8,8,8,8,8,8,8,8,8,8,8,8,8,8,8,8,8,8,8,8,8,8,8,8,8,8,8,8,8,8,8,8,8,8,8,8,8,8,8,8,8,8,8,8,8,8,8,8,8,8,8,8,8,8,8,8,8,8,8,8,8,8,8].append [8,8,8,8,8,8,8,8,8,8,8,8,8,8,8,8,8,8,8,8,8,8,8,8,8,8,8,8,8,8,8,8,8,8,8,8,8,8,8,8,8,8,8,8,8,8,8,8,8,8,8,8,8,8,8,8,8,8,8,8,8,8,8,8])).toArray }
theorem Xd2:(List.range 256).all (fun i=>decide (i<2 ^ (Xd3[i]?.getD 0).toNat∧(2 ^ (Xd3[i]?.getD 0).toNat≤2*i∨i=0∧(Xd3[i]?.getD 0).toNat=0)))=true:=by kernel_rfl
theorem Xd1 (i:Nat) (h:i<256):(({ data:=(([0,1,2,2,3,3,3,3,4,4,4,4,4,4,4,4,5,5,5,5,5,5,5,5,5,5,5,5,5,5,5,5,6,6,6,6,6,6,6,6,6,6,6,6,6,6,6,6,6,6,6,6,6,6,6,6,6,6,6,6,6,6,6,6].append [7,7,7,7,7,7,7,7,7,7,7,7,7,7,7,7,7,7,7,7,7,7,7,7,7,7,7,7,7,7,7,7,7,7,7,7,7,7,7,7,7,7,7,7,7,7,7,7,7,7,7,7,7,7,7,7,7,7,7,7,7,7,7,7]).append ([8,8,8,8,8,8,8,8,8,8,8,8,8,8,8,8,8,8,8,8,8,8,8,8,8,8,8,8,8,8,8,8,8,8,8,8,8,8,8,8,8,8,8,8,8,8,8,8,8,8,8,8,8,8,8,8,8,8,8,8,8,8,8,8].append [8,8,8,8,8,8,8,8,8,8,8,8,8,8,8,8,8,8,8,8,8,8,8,8,8,8,8,8,8,8,8,8,8,8,8,8,8,8,8,8,8,8,8,8,8,8,8,8,8,8,8,8,8,8,8,8,8,8,8,8,8,8,8,8])).toArray }:ByteArray)[i]?.getD 0).toNat=Zx i:=by
 show (Xd3[i]?.getD 0).toNat=Zx i
 have:=Xd2
 simp only [List.all_eq_true,List.mem_range,decide_eq_true_eq] at this;obtain ⟨h1,h2 | ⟨rfl,h2⟩⟩:=this i h
 ·generalize (Xd3[i]?.getD 0).toNat=k at *;cases k with
  | zero=>simp at h1 h2;omega
  | succ k=>rw [Nat.pow_succ] at h2;exact (Qxc h1 (by omega)).symm
 ·rw [h2,Qi4]
theorem Qzw:({ data:=(([0,1,2,2,3,3,3,3,4,4,4,4,4,4,4,4,5,5,5,5,5,5,5,5,5,5,5,5,5,5,5,5,6,6,6,6,6,6,6,6,6,6,6,6,6,6,6,6,6,6,6,6,6,6,6,6,6,6,6,6,6,6,6,6].append [7,7,7,7,7,7,7,7,7,7,7,7,7,7,7,7,7,7,7,7,7,7,7,7,7,7,7,7,7,7,7,7,7,7,7,7,7,7,7,7,7,7,7,7,7,7,7,7,7,7,7,7,7,7,7,7,7,7,7,7,7,7,7,7]).append ([8,8,8,8,8,8,8,8,8,8,8,8,8,8,8,8,8,8,8,8,8,8,8,8,8,8,8,8,8,8,8,8,8,8,8,8,8,8,8,8,8,8,8,8,8,8,8,8,8,8,8,8,8,8,8,8,8,8,8,8,8,8,8,8].append [8,8,8,8,8,8,8,8,8,8,8,8,8,8,8,8,8,8,8,8,8,8,8,8,8,8,8,8,8,8,8,8,8,8,8,8,8,8,8,8,8,8,8,8,8,8,8,8,8,8,8,8,8,8,8,8,8,8,8,8,8,8,8,8])).toArray }:ByteArray).size=256:=by kernel_rfl
theorem Xo2 (x:Nat):(x:Int).fdiv (2 ^ min 16 32)=((x/65536:Nat):Int):=Qb4 x 16
theorem Xqg (x:Nat):(x:Int).fdiv (2 ^ min 8 32)=((x/256:Nat):Int):=Qb4 x 8
theorem Xkn {n:Int} (h:0≤n∧n≤255):IntKind.wrap .u8 n=n:=by
 have e:IntKind.wrap .u8 n=n%256:=by simp [IntKind.wrap,IntKind.bits,IntKind.signed]
 rw [e];omega
theorem Qlf (x:Nat) (hx:x<4294967296):Pu C 285 [.int .u32 (x:Nat)] (.int .i64 (Zx x:Nat)):=by
 have b0:x<256→Zx x≤8:=fun h=>Qb9 (by omega)
 have b1:x<65536→Zx (x/256)≤8:=fun h=>Qb9 (by omega)
 have b2:x<16777216→Zx (x/65536)≤8:=fun h=>Qb9 (by omega)
 have b3:Zx (x/65536/256)≤8:=Qb9 (by omega)
 refine zK Qd Tryz.func285 w285 Tryz.ntmps285 Tryz.results285 ?_
 (apply Zo;repeat' ((with_reducible first|apply Zk|apply zBr<;>intro h)<;>try simp -implicitDefEqProofs (maxSteps:=9^7) (disch:=first|exact zDs|fail) only [go_sem,Xo2,Xqg,Xkn,Xd1,Qzw]))
 ·skip
  (refine Qh (by intro g;simp only [go_sem,ren,Qe]) ?_)
  rw [Qft (n:=x) (k:=16) (by omega),Qft (n:=x/2 ^ 16) (k:=8) (by omega)]
  congr 1;simp only [Nat.reducePow];omega
 ·skip
  (refine Qh (by intro g;simp only [go_sem,ren,Qe]) ?_)
  rw [Qft (n:=x) (k:=16) (by omega)]
  congr 1
 ·skip
  (refine Qh (by intro g;simp only [go_sem,ren,Qe]) ?_)
  rw [Qft (n:=x) (k:=8) (by omega)]
  congr 1
 ·skip
  (refine Qh (by intro g;simp only [go_sem,ren,Qe]) ?_)
  congr 1;omega
theorem Qzx (x:Nat) (hx:x<4294967296):Pu C 306 [.int .u32 (x:Nat)] (.int .i64 (32 - Zx x:Nat)):=by
 have hb:Zx x≤32:=Qb9 (by omega)
 refine zK Qd Tryz.func306 w306 Tryz.ntmps306 Tryz.results306 ?_
 (refine zG ?_;(repeat' ((with_reducible apply zBr)<;>intro h<;>refine zG ?_))<;>try exact .intro)
 refine Fc.pure (Qlf x hx) (by simp [go_sem,Qf,clo,Qb,Qi]) (by intro g;simp only [go_sem,ren,Qe]) ?_
 (refine zG ?_;(repeat' ((with_reducible apply zBr)<;>intro h<;>refine zG ?_))<;>try exact .intro)
 (refine Qh (by intro g;simp only [go_sem,ren,Qe]) ?_)
 congr 1;omega
theorem Qxy {l:List Nat} (h:0<Xw l):l.getD (Xw l - 1) 0≠0:=by
 have h1:=Qbm l
 intro h0
 have h2:Xw (l.take (Xw l - 1+1))=Xw (l.take (Xw l - 1)):=by rw [Qam (by omega),if_pos h0]
 have h3:∀ n,n≤l.length→Xw l≤n→Xw (l.take n)=Xw l:=by
  intro n
  induction hn:l.length - n generalizing n with
  | zero=>intro h4 _;rw [List.take_of_length_le (by omega)]
  | succ k ih =>
   intro h4 h5
   have:=ih (n+1) (by omega) (by omega) (by omega)
   rw [Qam (by omega)] at this
   split at this
   ·exact this
   ·omega
 rw [Nat.sub_add_cancel h,h3 _ h1 (Nat.le_refl _)] at h2
 have:=Qbm (l.take (Xw l - 1))
 rw [List.length_take] at this;omega
theorem Xfp {l:List Nat} (hL:Lim l) (h:0<Xw l):Zx (lv B32 l)=32*(Xw l - 1)+Zx (l.getD (Xw l - 1) 0):=by
 have hne:=Qxy h
 have hle:=Qbm l
 have hs:=Ky B32 l (Xw l) hle
 have hz:lv B32 (l.drop (Xw l))=0:=by
  have e1:dg B32 (lv B32 l)=l.take (Xw l):=Qnq (by decide) hL
  have e2:=Qrk (b:=B32) (by decide) (lv B32 l)
  rw [e1] at e2;rw [e2] at hs
  have:B32 ^ Xw l*lv B32 (l.drop (Xw l))=0:=by omega
  rcases Nat.mul_eq_zero.1 this with h | h
  ·have:0<B32 ^ Xw l:=Nat.pow_pos (by decide)
   omega
  ·exact h
 rw [hz,Nat.mul_zero,Nat.add_zero] at hs;obtain ⟨k,hk⟩:∃ k,Xw l=k+1:=⟨Xw l - 1,by omega⟩
 rw [hk] at hs hne hle ⊢;simp only [Nat.add_sub_cancel] at hne ⊢;rw [Qfi (by omega)] at hs
 have hlow:lv B32 (l.take k)<B32 ^ k:=Ke hL k (by omega)
 have e:B32 ^ k=2 ^ (32*k):=by rw [Nat.pow_mul];rfl
 rw [e] at hs hlow;rw [hs]
 have hd:(lv B32 (l.take k)+2 ^ (32*k)*l.getD k 0)/2 ^ (32*k)=l.getD k 0:=by
  rw [Nat.add_mul_div_left _ _ (Nat.two_pow_pos _),Nat.div_eq_of_lt hlow,Nat.zero_add]
 have:=Qft (n:=lv B32 (l.take k)+2 ^ (32*k)*l.getD k 0) (k:=32*k) (by
  have:=Nat.mul_le_mul_left (2 ^ (32*k)) (Nat.pos_of_ne_zero hne)
  omega)
 rw [hd] at this;exact this
theorem Qgb (l:List Nat) (hl:l.length≤17592186044416) (hL:Lim l):Pu C 248 [NA l] (.int .i64 (Zx (lv B32 l):Nat)):=by
 have ht:=Qbm l
 refine zK Qd Tryz.func248 w248 Tryz.ntmps248 Tryz.results248 ?_
 (refine zG ?_;(repeat' ((with_reducible apply zBr)<;>intro h<;>refine zG ?_))<;>try exact .intro)
 refine Fc.pure (Qhc l hl) (by simp [go_sem,Qf,clo,Qb,Qi]) (by intro g;simp only [go_sem,ren,Qe]) ?_
 (refine zG ?_;(repeat' ((with_reducible apply zBr)<;>intro h<;>refine zG ?_))<;>try exact .intro)
 ·skip
  (refine Qh (by intro g;simp only [go_sem,ren,Qe]) ?_)
  have h0:Xw l=0:=by omega
  have:lv B32 l=0:=(Qbu (by decide)).2 (Qdv.1 h0)
  rw [this,Qi4];rfl
 ·have h0:0<Xw l:=by omega
  have hg:=hL.get (Xw l - 1)
  have hb:Zx (l.getD (Xw l - 1) 0)≤32:=Qb9 (by omega)
  (refine zG ?_;(repeat' ((with_reducible apply zBr)<;>intro h<;>refine zG ?_))<;>try exact .intro)
  refine Fc.pure (Qlf _ hg) (by simp [go_sem,Qf,clo,Qb,Qi]) (by intro g;simp only [go_sem,ren,Qe]) ?_
  (refine zG ?_;(repeat' ((with_reducible apply zBr)<;>intro h<;>refine zG ?_))<;>try exact .intro)
  (refine Qh (by intro g;simp only [go_sem,ren,Qe]) ?_)
  rw [Xfp hL h0]
  congr 1;omega
theorem Qiw {b:Nat} (hb:0<b) (x:Nat):∀ n,lv b (XS (fun i=>x/b ^ i%b) n)=x%b ^ n
 | 0=>by simp [XS,lv,Nat.mod_one]
 | n+1=>by
  rw [Qd6,Qiw hb x n,Nat.pow_succ,Nat.mod_mul]
theorem Qh3 {a:List Nat} (h:Lim a) (j:Nat):Ym a (j:Int)=lv B32 a/B32 ^ j%B32:=by
 simp only [Ym];rw [if_pos (by omega),Int.toNat_natCast]
 have hB:0<B32:=by decide
 have hp:0<B32 ^ j:=Nat.pow_pos hB
 by_cases hj:j<a.length
 ·have hlow:lv B32 (a.take j)<B32 ^ j:=Ke h j (by omega)
  rw [Ky B32 a j (by omega),Nat.add_mul_div_left _ _ hp,Nat.div_eq_of_lt hlow,Nat.zero_add]
  have e:a.drop j=a.getD j 0::a.drop (j+1):=by
   rw [List.drop_eq_getElem_cons hj];simp [List.getD,hj]
  rw [e,lv,Nat.add_mul_mod_self_left];exact (Nat.mod_eq_of_lt (h.get j)).symm
 ·have h1:lv B32 a<B32 ^ j:=Nat.lt_of_lt_of_le (Qgg h) (Nat.pow_le_pow_right hB (by omega))
  rw [Nat.div_eq_of_lt h1];simp [List.getD,List.getElem?_eq_none (Nat.le_of_not_lt hj)]
theorem Qrp {a:List Nat} (h:Lim a) (j:Nat):Ym a ((j+1:Nat):Int)*B32+Ym a (j:Int)=lv B32 a/B32 ^ j%(B32*B32):=by
 rw [Qh3 h,Qh3 h,Nat.mod_mul,Nat.pow_succ,← Nat.div_div_eq_div_mul,Nat.mul_comm,Nat.add_comm]
theorem Qx9 {A s j:Nat} (hs:s<32):A/B32 ^ j%(B32*B32)*2 ^ s/B32%B32=A*2 ^ s/B32 ^ (j+1)%B32:=by
 have hB:0<B32:=by decide
 have hp:0<B32 ^ j:=Nat.pow_pos hB
 have h2:0<2 ^ s:=Nat.two_pow_pos s
 obtain ⟨c,hc⟩:∃ c,B32=2 ^ s*c:=⟨2 ^ (32 - s),by rw [← Nat.pow_add,show s+(32 - s)=32 by omega];rfl⟩
 have hc0:0<c:=Nat.pos_of_ne_zero fun h=>by rw [h] at hc;simp at hc;omega
 rw [Nat.pow_succ,← Nat.div_div_eq_div_mul];generalize hY:A/B32 ^ j=Y
 have e1:A*2 ^ s/B32 ^ j/B32=Y/c:=by
  have hA:A=B32 ^ j*Y+A%B32 ^ j:=by rw [← hY];exact (Nat.div_add_mod A (B32 ^ j)).symm
  have ht:A%B32 ^ j*2 ^ s/B32 ^ j<2 ^ s:=by
   rw [Nat.div_lt_iff_lt_mul hp,Nat.mul_comm (2 ^ s)];exact Nat.mul_lt_mul_of_pos_right (Nat.mod_lt _ hp) h2
  have e:A*2 ^ s/B32 ^ j=Y*2 ^ s+A%B32 ^ j*2 ^ s/B32 ^ j:=by
   conv=>lhs;rw [hA,Nat.add_mul,Nat.mul_assoc,Nat.mul_add_div hp]
  rw [e];generalize A%B32 ^ j*2 ^ s/B32 ^ j=t at ht ⊢;rw [hc,← Nat.div_div_eq_div_mul,Nat.mul_comm Y,Nat.mul_add_div h2,Nat.div_eq_of_lt ht,Nat.add_zero]
 have e2:∀ y:Nat,y*2 ^ s/B32=y/c:=fun y=>by
  conv=>lhs;rw [hc,Nat.mul_comm y,Nat.mul_div_mul_left _ _ h2]
 rw [e1,e2]
 have e3:Y=B32*B32*(Y/(B32*B32))+Y%(B32*B32):=(Nat.div_add_mod _ _).symm
 conv=>rhs;rw [e3]
 have e4:∀ W,B32*B32*W=c*(B32*(2 ^ s*W)):=fun W=>by
  have:B32*B32=2 ^ s*c*B32:=by rw [← hc]
  rw [this];ac_rfl
 rw [e4,Nat.mul_add_div hc0,Nat.mul_comm B32,Nat.mul_comm _ B32,Nat.mul_add_mod]
theorem Qx8 {A s j:Nat} (hs:s<32):A/B32 ^ j%(B32*B32)/2 ^ s%B32=A/(B32 ^ j*2 ^ s)%B32:=by
 have h2:0<2 ^ s:=Nat.two_pow_pos s
 obtain ⟨c,hc⟩:∃ c,B32=2 ^ s*c:=⟨2 ^ (32 - s),by rw [← Nat.pow_add,show s+(32 - s)=32 by omega];rfl⟩
 rw [← Nat.div_div_eq_div_mul];generalize A/B32 ^ j=Y
 have e3:Y=B32*B32*(Y/(B32*B32))+Y%(B32*B32):=(Nat.div_add_mod _ _).symm
 conv=>rhs;rw [e3]
 have e4:∀ W,B32*B32*W=2 ^ s*(B32*(c*W)):=fun W=>by
  have:B32*B32=2 ^ s*c*B32:=by rw [← hc]
  rw [this];ac_rfl
 rw [e4,Nat.mul_add_div h2,Nat.mul_add_mod]
theorem Qje (x:Nat):(x:Int)*2 ^ (min 32 64)=((x*4294967296:Nat):Int):=by simp
theorem Qk3 (x y:Nat) (hx:x<4294967296) (hy:y<4294967296):(BitVec.ofInt IntKind.u64.bits ((x*4294967296:Nat):Int)|||BitVec.ofInt IntKind.u64.bits (y:Int)).toNat=x*4294967296+y:=by
 have e:(BitVec.ofInt 64 ((x*4294967296:Nat):Int)|||BitVec.ofInt 64 (y:Int)).toNat=x*4294967296|||y:=Xcv (k:=64) (by omega) (by omega)
 have:=Nat.shiftLeft_add_eq_or_of_lt (i:=32) (b:=y) (by omega) x
 rw [Nat.shiftLeft_eq] at this;exact e.trans this.symm
theorem Qth (a:List Nat) (n i:Nat) (ha:a.length≤8796093022208) (hA:Lim a) (hn:n≤140737488355328) (hi:i≤8796093022208) :
  Pu C 326 [.int .i64 (i:Nat),.rp [.int .i64 (n:Nat)] 0,.rp [NA a] 0] (.int .u64 (lv B32 a/2 ^ n/B32 ^ i%B32:Nat)):=by
 have h1:=Qay hA (i+n/32:Nat)
 have h2:=Qay hA (i+n/32+1:Nat)
 refine zK Qd Tryz.func326 w326 Tryz.ntmps326 Tryz.results326 ?_
 (refine zG ?_;(repeat' ((with_reducible apply zBr)<;>intro h<;>refine zG ?_))<;>try exact .intro)
 have e1:(i:Int)+(n:Int)/32+1=((i+n/32+1:Nat):Int):=by omega
 have e2:(i:Int)+(n:Int)/32=((i+n/32:Nat):Int):=by omega
 rw [e1];refine Pc.pure (Km a _ (by omega) hA) (by simp [go_sem,Qf,clo,Qb,Qi]) (by intro g;simp only [go_sem,ren,Qe]) ?_
 generalize hx:Ym a ((i+n/32+1:Nat):Int)=x at h2 ⊢
 (apply Zo;repeat' ((with_reducible first|apply Zk|apply zBr<;>intro h)<;>try simp -implicitDefEqProofs (maxSteps:=9^7) (disch:=first|exact zDs|fail) only [go_sem,Qje]))
 rw [e2];refine Pc.pure (Km a _ (by omega) hA) (by simp [go_sem,Qf,clo,Qb,Qi]) (by intro g;simp only [go_sem,ren,Qe]) ?_
 generalize hy:Ym a ((i+n/32:Nat):Int)=y at h1 ⊢
 (apply Zo;repeat' ((with_reducible first|apply Zk|apply zBr<;>intro h)<;>try simp -implicitDefEqProofs (maxSteps:=9^7) (disch:=first|exact zDs|fail) only [go_sem,Qje,Qk3]))
 (refine Qh (by intro g;simp only [go_sem,ren,Qe]) ?_)
 have hs:min ((n:Int)%32).toNat 64=n%32:=by omega
 have key:(BitVec.ofInt 64 (((BitVec.ofInt 64 ((x*4294967296:Nat):Int)|||BitVec.ofInt 64 (y:Int)).toNat:Int).fdiv (2 ^ min ((n:Int)%32).toNat 64)) &&& BitVec.ofInt 64 4294967295).toNat=(x*4294967296+y)/2 ^ (n%32)%4294967296:=by
  rw [show (BitVec.ofInt 64 ((x*4294967296:Nat):Int)|||BitVec.ofInt 64 (y:Int)).toNat=x*4294967296+y from Qk3 x y h2 h1,Qb4,hs];exact Qow _ (Nat.lt_of_le_of_lt (Nat.div_le_self _ _) (by omega))
 refine (congrArg (fun k:Nat=>V.int .u64 (k:Int)) key).trans ?_
 have hd:=Qrp hA (i+n/32)
 rw [show Ym a ((i+n/32+1:Nat):Int)=x from hx,show Ym a ((i+n/32:Nat):Int)=y from hy] at hd
 have hd':x*4294967296+y=lv B32 a/B32 ^ (i+n/32)%(B32*B32):=hd
 rw [hd']
 have:=Qx8 (A:=lv B32 a) (s:=n%32) (j:=i+n/32) (by omega)
 refine congrArg (fun k:Nat=>V.int .u64 (k:Int)) (this.trans ?_)
 rw [Nat.div_div_eq_div_mul,Nat.pow_add]
 have e:(2:Nat) ^ n=B32 ^ (n/32)*2 ^ (n%32):=by
  have:B32 ^ (n/32)=2 ^ (32*(n/32)):=by rw [Nat.pow_mul];rfl
  rw [this,← Nat.pow_add];congr 1;omega
 rw [e,show B32 ^ i*B32 ^ (n/32)*2 ^ (n%32)=B32 ^ (n/32)*2 ^ (n%32)*B32 ^ i by ac_rfl]
theorem Qac {a:List Nat} (h:Lim a):lv B32 a<B32 ^ a.length:=Qgg h
theorem Qw0 {H:Qa} {x:Nat} (h:x=0):IsN .nil H x:=by subst h;exact Own.isN (l:=[]) (Bv.Own.nil _ _ _) (Yh _).symm
theorem Xcr (k:Nat):B32 ^ k=2 ^ (32*k):=by rw [Nat.pow_mul];rfl
theorem Xf8 (a:List Nat) (n:Nat) (ha:a.length≤8796093022208) (hA:Lim a) (hn:n≤140737488355328):Fc C 311 [NA a,.int .i64 (n:Nat)] [] fun v H=>Qj1 v H (lv B32 a/2 ^ n):=by
 have hm:(if (0:Int)>(n:Int) then (0:Int) else (n:Int))=(n:Int):=by rw [if_neg (by omega)]
 have hlt:=Qac hA
 refine zK Qd Tryz.func311 w311 Tryz.ntmps311 Tryz.results311 ?_
 (apply Zo;repeat' ((with_reducible first|apply Zk|apply zBr<;>intro h)<;>try simp -implicitDefEqProofs (maxSteps:=9^7) (disch:=first|exact zDs|fail) only [go_sem,hm]))
 ·refine IsN.ret (Qw0 (Nat.div_eq_of_lt (Nat.lt_of_lt_of_le hlt ?_)));rw [Xcr];exact Nat.pow_le_pow_right (by decide) (by omega)
 ·have hg:=Qet (f:=326) (caps:=[.rp [.int .i64 (n:Nat)] 0,.rp [NA a] 0]) (N:=a.length) (xs:=fun i=>lv B32 a/2 ^ n/B32 ^ i%B32) ha (fun i hi=>by have:=Nat.mod_lt (lv B32 a/2 ^ n/B32 ^ i) (show 0<B32 by decide);simp only [B32] at *;omega) (by simp [Qf,clo,Xs]) (fun i hi=>Qth a n i ha hA hn (by omega))
  refine Fc.isN hg (Qdh 5 (by simp [go_sem,Qc1,clo,Qf,Qc])) fun v X hv=>?_
  (refine zG ?_;(repeat' ((with_reducible apply zBr)<;>intro h<;>refine zG ?_))<;>try exact .intro)
  rw [Qiw (by decide),Nat.mod_eq_of_lt (Nat.lt_of_le_of_lt (Nat.div_le_self _ _) hlt)] at hv
  exact hv.ret
theorem Qti (a:List Nat) (n i:Nat) (ha:a.length≤8796093022208) (hA:Lim a) (hn:n≤140737488355328) (hi:i≤17592186044416) :
  Pu C 323 [.int .i64 (i:Nat),.rp [.int .i64 (n:Nat)] 0,.rp [NA a] 0] (.int .u64 (lv B32 a*2 ^ n/B32 ^ i%B32:Nat)):=by
 have h1:=Qay hA ((i:Int) - (n/32:Nat))
 have h2:=Qay hA ((i:Int) - (n/32:Nat) - 1)
 have e0:(2:Nat) ^ n=B32 ^ (n/32)*2 ^ (n%32):=by
  rw [Xcr,← Nat.pow_add];congr 1;omega
 refine zK Qd Tryz.func323 w323 Tryz.ntmps323 Tryz.results323 ?_
 (refine zG ?_;(repeat' ((with_reducible apply zBr)<;>intro h<;>refine zG ?_))<;>try exact .intro)
 ·skip
  (refine Qh (by intro g;simp only [go_sem,ren,Qe]) ?_)
  have:lv B32 a*2 ^ n/B32 ^ i%B32=0:=by
   obtain ⟨k,hk⟩:∃ k,n/32=i+1+k:=⟨n/32 - i - 1,by omega⟩
   rw [e0,hk,Nat.pow_add,Nat.pow_succ,show lv B32 a*(B32 ^ i*B32*B32 ^ k*2 ^ (n%32))=B32 ^ i*(B32*(lv B32 a*B32 ^ k*2 ^ (n%32))) by ac_rfl,Nat.mul_div_cancel_left _ (Nat.pow_pos (by decide)),Nat.mul_mod_right]
  rw [this];rfl
 ·have e1:(i:Int) - (n:Int)/32=(i:Int) - (n/32:Nat):=by omega
  have e2:(i:Int) - (n:Int)/32 - 1=(i:Int) - (n/32:Nat) - 1:=by omega
  rw [e1];refine Pc.pure (Km a _ (by omega) hA) (by simp [go_sem,Qf,clo,Qb,Qi]) (by intro g;simp only [go_sem,ren,Qe]) ?_
  generalize hx:Ym a ((i:Int) - (n/32:Nat))=x at h1 ⊢
  (apply Zo;repeat' ((with_reducible first|apply Zk|apply zBr<;>intro h)<;>try simp -implicitDefEqProofs (maxSteps:=9^7) (disch:=first|exact zDs|fail) only [go_sem,Qje]))
  refine Pc.pure (Km a _ (by omega) hA) (by simp [go_sem,Qf,clo,Qb,Qi]) (by intro g;simp only [go_sem,ren,Qe]) ?_
  generalize hy:Ym a ((i:Int) - (n/32:Nat) - 1)=y at h2 ⊢
  (apply Zo;repeat' ((with_reducible first|apply Zk|apply zBr<;>intro h)<;>try simp -implicitDefEqProofs (maxSteps:=9^7) (disch:=first|exact zDs|fail) only [go_sem,Qje,Qk3]))
  (refine Qh (by intro g;simp only [go_sem,ren,Qe]) ?_)
  have hs:min ((n:Int)%32).toNat 64=n%32:=by omega
  have e3:(IntKind.wrap .u64 (((x*4294967296+y:Nat):Int)*2 ^ (n%32)))=(((x*4294967296+y)*2 ^ (n%32)%18446744073709551616:Nat):Int):=by
   rw [Qqa];simp [Int.natCast_emod]
  have key:(BitVec.ofInt 64 ((IntKind.wrap .u64 (((BitVec.ofInt 64 ((x*4294967296:Nat):Int)|||BitVec.ofInt 64 (y:Int)).toNat:Int)*2 ^ min ((n:Int)%32).toNat 64)).fdiv (2 ^ min 32 64)) &&& BitVec.ofInt 64 4294967295).toNat=(x*4294967296+y)*2 ^ (n%32)/4294967296%4294967296:=by
   rw [show (BitVec.ofInt 64 ((x*4294967296:Nat):Int)|||BitVec.ofInt 64 (y:Int)).toNat=x*4294967296+y from Qk3 x y h1 h2,hs,e3,Qb4];refine (Qow _ (Nat.lt_of_le_of_lt (Nat.div_le_self _ _) (Nat.mod_lt _ (by decide)))).trans ?_
   have:=Nat.mod_mul_right_div_self ((x*4294967296+y)*2 ^ (n%32)) 4294967296 4294967296
   rw [show min 32 64=32 from rfl,show (2:Nat) ^ 32=4294967296 from rfl,this,Nat.mod_mod]
  refine (congrArg (fun k:Nat=>V.int .u64 (k:Int)) key).trans ?_
  refine congrArg (fun k:Nat=>V.int .u64 (k:Int)) ?_
  have cancel:∀ j,lv B32 a*2 ^ n/B32 ^ (n/32+j)=lv B32 a*2 ^ (n%32)/B32 ^ j:=fun j=>by
   rw [e0,Nat.pow_add,show lv B32 a*(B32 ^ (n/32)*2 ^ (n%32))=B32 ^ (n/32)*(lv B32 a*2 ^ (n%32)) by ac_rfl,Nat.mul_div_mul_left _ _ (Nat.pow_pos (by decide))]
  obtain ⟨j,hj⟩:∃ j,i=n/32+j:=⟨i - n/32,by omega⟩
  rw [hj,cancel];cases j with
  | zero =>
   have hx0:x=lv B32 a%B32:=by
    have:=Qh3 hA 0
    rw [Nat.pow_zero,Nat.div_one] at this;rw [← this,← hx];congr 1;omega
   have hy0:y=0:=by
    rw [← hy];unfold Ym;rw [if_neg (by omega)]
   rw [hy0,hx0,Nat.pow_zero,Nat.div_one,Nat.add_zero]
   show lv B32 a%B32*B32*2 ^ (n%32)/B32%B32=_
   rw [show lv B32 a%B32*B32*2 ^ (n%32)=B32*(lv B32 a%B32*2 ^ (n%32)) by ac_rfl,Nat.mul_div_cancel_left _ (by decide),Nat.mod_mul_mod]
  | succ j =>
   have hd:=Qrp hA j
   rw [show Ym a ((j+1:Nat):Int)=x from by rw [← hx];congr 1;omega,show Ym a ((j:Nat):Int)=y from by rw [← hy];congr 1;omega] at hd
   have hd':x*4294967296+y=lv B32 a/B32 ^ j%(B32*B32):=hd
   rw [hd'];exact Qx9 (by omega)
theorem Xf9 (a:List Nat) (n:Nat) (ha:a.length≤4398046511104) (hA:Lim a) (hn:n≤70368744177664):Fc C 307 [NA a,.int .i64 (n:Nat)] [] fun v H=>Qj1 v H (lv B32 a*2 ^ n):=by
 have hm:(if (0:Int)>(n:Int) then (0:Int) else (n:Int))=(n:Int):=by rw [if_neg (by omega)]
 have hlt:=Qac hA
 refine zK Qd Tryz.func307 w307 Tryz.ntmps307 Tryz.results307 ?_
 (apply Zo;repeat' ((with_reducible first|apply Zk|apply zBr<;>intro h)<;>try simp -implicitDefEqProofs (maxSteps:=9^7) (disch:=first|exact zDs|fail) only [go_sem,hm]))
 refine Fc.pureL (Qhc a (by omega)) ⟨.self (Xs _),trivial⟩ (fun g=>rfl) rfl ?_
 (apply Zo;repeat' ((with_reducible first|apply Zk|apply zBr<;>intro h)<;>try simp -implicitDefEqProofs (maxSteps:=9^7) (disch:=first|exact zDs|fail) only [go_sem,hm]))
 ·refine IsN.ret (Qw0 ?_)
  have:lv B32 a=0:=(Qbu (by decide)).2 (Qdv.1 (by omega))
  rw [this,Nat.zero_mul]
 ·have hg:=Qet (f:=323) (caps:=[.rp [.int .i64 (n:Nat)] 0,.rp [NA a] 0]) (N:=a.length+n/32+1) (xs:=fun i=>lv B32 a*2 ^ n/B32 ^ i%B32) (by omega) (fun i hi=>by have:=Nat.mod_lt (lv B32 a*2 ^ n/B32 ^ i) (show 0<B32 by decide);simp only [B32] at *;omega) (by simp [Qf,clo,Xs]) (fun i hi=>Qti a n i (by omega) hA (by omega) (by omega))
  have e1:(a.length:Int)+(n:Int)/32+1=((a.length+n/32+1:Nat):Int):=by omega
  rw [e1];refine Fc.isN hg (Qdh 5 (by simp [go_sem,Qc1,clo,Qf,Qc])) fun v X hv=>?_
  (refine zG ?_;(repeat' ((with_reducible apply zBr)<;>intro h<;>refine zG ?_))<;>try exact .intro)
  have hV:lv B32 a*2 ^ n<B32 ^ (a.length+n/32+1):=by
   rw [Nat.add_assoc,Nat.pow_add];refine Nat.mul_lt_mul_of_lt_of_le hlt ?_ (Nat.pow_pos (by decide))
   rw [Xcr];exact Nat.pow_le_pow_right (by decide) (by omega)
  rw [Qiw (by decide),Nat.mod_eq_of_lt hV] at hv
  exact hv.ret
theorem Xop:Tryz.f322.body.all yOK=true:=by kernel_rfl
def dn (n:Nat):V:=.fn (.func 322) [] [.rp [.int .i64 (n:Nat)] 0]
def dnQ (n:Nat) (v:V) (H:Qa):Prop:=v=.fn (.func 322) [] [.ptr 0 0]∧H=[some ⟨3,1,[.int .i64 (n:Nat)]⟩]
def mx (a b:List Nat) (i:Nat):Nat:=if i=0 then 0 else if i=1 then a.length else max a.length b.length
theorem Xdk (x y:Nat) {z:Nat} (h:max x y=z):(if (y:Int)>(x:Int) then (y:Int) else (x:Int))=(z:Int):=by subst h;split<;>omega
theorem Xag (a b:List Nat) (ha:a.length≤8796093022208) (hb:b.length≤8796093022208):Fc C 304 [.sl 2 [NA a,NA b]] [] fun v H=>dnQ (max a.length b.length) v H:=by
 refine zK Qd Tryz.func304 w304 Tryz.ntmps304 Tryz.results304 ?_
 (refine zG ?_;(repeat' ((with_reducible apply zBr)<;>intro h<;>refine zG ?_))<;>try exact .intro)
 refine Qg (fun n ts H=>∃ (i:Nat),(i≤2)∧(n=2 - i)∧(H=[some ⟨3,1,[.int .i64 (mx a b i:Nat)]⟩])∧ts.length=18∧nth ts 3=.ptr 0 0∧nth ts 6=.sl 2 [NA a,NA b]∧nth ts 7=.int .i64 2∧nth ts 8=.int .i64 (i:Nat)) ?_ (n:=2) ?_
 ·skip
  rintro n ts H ⟨i,hi,hn,hH,hL,hs3,hs6,hs7,hs8⟩;refine Qv [(3,.ptr 0 0),(6,.sl 2 [NA a,NA b]),(7,.int .i64 2),(8,.int .i64 (i:Nat))] hL (by simp only [zFm,hs3,hs6,hs7,hs8,true_and];exact zNm) ?_
  clear hL hs3 hs6 hs7 hs8 ts
  refine Qw Qd ?_;subst hH
  (refine zG ?_;(repeat' ((with_reducible apply zBr)<;>intro h<;>refine zG ?_))<;>try exact .intro)
  ·obtain rfl | rfl:i=0∨i=1:=by omega
   ·skip
    (refine zG ?_;(repeat' ((with_reducible apply zBr)<;>intro h<;>refine zG ?_))<;>try exact .intro)
    have e:(if (a.length:Int)>((mx a b 0:Nat):Int) then (a.length:Int) else ((mx a b 0:Nat):Int))=((mx a b 1:Nat):Int):=Xdk 0 a.length (Nat.zero_max _)
    rw [e];exact ⟨1,by omega,1,by omega,rfl,rfl,by congr 1⟩
   ·skip
    (refine zG ?_;(repeat' ((with_reducible apply zBr)<;>intro h<;>refine zG ?_))<;>try exact .intro)
    have e:(if (b.length:Int)>((mx a b 1:Nat):Int) then (b.length:Int) else ((mx a b 1:Nat):Int))=((mx a b 2:Nat):Int):=Xdk a.length b.length rfl
    rw [e];exact ⟨0,by omega,2,by omega,rfl,rfl,by congr 1⟩
  ·obtain rfl:i=2:=by omega
   exact ⟨[0],by simp,by simp,rfl,rfl⟩
 ·exact ⟨0,by omega,rfl,rfl,rfl,rfl,rfl,rfl,rfl⟩
theorem Xe3 (N:Nat) (hN:N≤8796093022208):Gen C 322 [.rp [.int .i64 (N:Nat)] 0] ((List.range N).map fun k=>[.int .i64 (N - 1 - k:Nat)]):=by
 refine Gen.of3 Qd Tryz.func322 w322 Xop rfl Tryz.ntmps322 Tryz.results322 (zLe rfl) (by simp [Qf,clo]) ?_
 intro G l J hW
 (refine zG ?_;(repeat' ((with_reducible apply zBr)<;>intro h<;>refine zG ?_))<;>try exact .intro)
 refine Qa4 (fun n ts H=>∃ (i:Nat),(i≤N)∧(n=N - i)∧(H.length=i)∧ts.length=14∧nth ts 0=.fn (.yield l) [] []∧nth ts 3=.int .i64 ((N:Int) - 1 - i)) ?_ (n:=N) ?_
 ·skip
  rintro n ts H ⟨i,hi,hn,hH,hL,hs0,hs3⟩;refine Qil [(0,.fn (.yield l) [] []),(3,.int .i64 ((N:Int) - 1 - i))] hL (by simp only [zFm,hs0,hs3,true_and];exact zNm) ?_
  clear hL hs0 hs3 ts
  refine hW _ _ _ _ ?_
  (refine zG ?_;(repeat' ((with_reducible apply zBr)<;>intro h<;>refine zG ?_))<;>try exact .intro)
  ·refine ⟨?_,⟨N - (i+1),by omega,i+1,by omega,rfl,by omega,by congr 1;omega⟩,.inr trivial,.inr ?_⟩
   ·have:i<N:=by omega
    rw [hH];simp [this];omega
   ·simp only [List.length_replicate,List.length_map,List.length_range];omega
  ·refine ⟨.inl trivial,.inl ?_⟩;simp only [List.length_map,List.length_range];omega
 ·exact ⟨0,by omega,by omega,rfl,rfl,rfl,by simp -implicitDefEqProofs (maxSteps:=9^7) (disch:=first | omega | (simp only [Qbe];omega)) only [go_sem];congr 1;omega⟩
theorem Xah {a b:List Nat} {args:List V} {H:Qa} {K:V→Qa→Prop} (ha:a.length≤8796093022208) (hb:b.length≤8796093022208) (hB:BorL H args [.sl 2 [NA a,NA b]]) (hK:K (dn (max a.length b.length)) H):Fc C 304 args H K :=
 Fc.bySeal (Xag a b ha hb) hB (by rintro v H' ⟨rfl,rfl⟩;exact ⟨rfl,fun r row hr=>by cases r with | zero=>simp at hr;subst hr;rfl | succ r=>simp at hr⟩) (by rintro v H' ⟨rfl,rfl⟩;exact ⟨0,_,_,_,rfl,rfl,rfl⟩) rfl hK
def Qc0 (x y:Nat):Int:=if x<y then -1 else if y<x then 1 else 0
theorem Qs5 (a b:List Nat) (ha:a.length≤8796093022208) (hb:b.length≤8796093022208) (hA:Lim a) (hB:Lim b):Pu C 293 [NA a,NA b] (.int .i64 (Qc0 (lv B32 a) (lv B32 b))):=by
 have hv:∀ n,dn n=.fn (.func 322) [] [.rp [.int .i64 (n:Nat)] 0]:=fun n=>rfl
 refine zK Qd Tryz.func293 w293 Tryz.ntmps293 Tryz.results293 ?_
 (refine zG ?_;(repeat' ((with_reducible apply zBr)<;>intro h<;>refine zG ?_))<;>try exact .intro)
 refine Xah ha hb (Qdh 5 (by simp [go_sem,Qc1,clo,Qf,Qc])) ?_
 (apply Zo;repeat' ((with_reducible first|apply Zk|apply zBr<;>intro h)<;>try simp -implicitDefEqProofs (maxSteps:=9^7) (disch:=first|exact zDs|fail) only [go_sem,hv]))
 have hN:∀ c:List Nat,Lim c→c.length≤max a.length b.length→lv B32 c/B32 ^ max a.length b.length=0:=fun c hc h=>Nat.div_eq_of_lt (Nat.lt_of_lt_of_le (Qac hc) (Nat.pow_le_pow_right (by decide) h))
 generalize hNN:max a.length b.length=N at *
 have hNle:N≤8796093022208:=by omega
 refine Qeg (g:=322) (lb:=[.rp [.int .i64 (N:Nat)] 0]) (xs:=(List.range N).map fun k=>[.int .i64 (N - 1 - k:Nat)]) (by simp -implicitDefEqProofs (maxSteps:=9^7) (disch:=first | omega | (simp only [Qbe];omega)) only [go_sem]) (by simp [Qf,clo]) (Xe3 N hNle) (by simp) (fun k H=>lv B32 a/B32 ^ (N - k)=lv B32 b/B32 ^ (N - k)∧H=[some ⟨65,1,[NA a]⟩,some ⟨65,1,[NA b]⟩,some ⟨3,1,[.int .i64 0]⟩,some ⟨65,1,[NA a,NA b]⟩]) ⟨by rw [Nat.sub_zero,hN a hA (by omega),hN b hB (by omega)],rfl⟩ ?_ ?_
 ·rintro k us H hk ⟨hI,rfl⟩ lp
  have hkl:k<N:=by simpa using (List.getElem?_eq_some_iff.1 hk).1
  obtain rfl:[V.int .i64 ((N - 1 - k:Nat):Int)]=us:=by simpa [hkl] using hk
  (refine Qw Qd ?_;simp -implicitDefEqProofs (maxSteps:=9^7) (disch:=first | omega | (simp only [Qbe];omega)) only [go_sem,Qip])
  (refine Qw Qd ?_;simp -implicitDefEqProofs (maxSteps:=9^7) (disch:=first | omega | (simp only [Qbe];omega)) only [go_sem])
  refine Pc.pure (Km a _ (by omega) hA) (by simp [go_sem,Qf,clo,Qb,Qi]) (by intro g;simp only [go_sem,ren,Qe]) ?_
  (refine zG ?_;(repeat' ((with_reducible apply zBr)<;>intro h<;>refine zG ?_))<;>try exact .intro)
  refine Pc.pure (Km b _ (by omega) hB) (by simp [go_sem,Qf,clo,Qb,Qi]) (by intro g;simp only [go_sem,ren,Qe]) ?_
  (apply Zo;repeat' ((with_reducible first|apply Zk|apply zBr<;>intro h)<;>try simp -implicitDefEqProofs (maxSteps:=9^7) (disch:=first|exact zDs|fail) only [go_sem,Qcj]))
  all_goals
   obtain ⟨j,hj⟩:∃ j,N=k+1+j:=⟨N - k - 1,by omega⟩
   have hj1:N - k=j+1:=by omega
   have hj2:N - (k+1)=j:=by omega
   have hj3:N - 1 - k=j:=by omega
   simp only [hj1,hj2,hj3] at *
   have sp:∀ c:List Nat,Lim c→lv B32 c/B32 ^ j=B32*(lv B32 c/B32 ^ (j+1))+Ym c ((j:Nat):Int):=fun c hc=>by
    rw [Qh3 hc,Nat.pow_succ,← Nat.div_div_eq_div_mul];exact (Nat.div_add_mod _ _).symm
   have sa:=sp a hA
   have sb:=sp b hB
   rw [hI] at sa
  ·skip
   (refine Qh (by intro g;simp only [go_sem,ren,Qe]) ?_)
   have:lv B32 a<lv B32 b:=Nat.lt_of_not_le fun hle=>by
    have:=Nat.div_le_div_right (c:=B32 ^ j) hle
    omega
   simp [Qc0,this]
  ·skip
   (refine Qh (by intro g;simp only [go_sem,ren,Qe]) ?_)
   have:lv B32 b<lv B32 a:=Nat.lt_of_not_le fun hle=>by
    have:=Nat.div_le_div_right (c:=B32 ^ j) hle
    omega
   simp [Qc0,this,Nat.not_lt.2 (Nat.le_of_lt this)]
  ·omega
 ·rintro H ⟨hI,rfl⟩
  (refine zG ?_;(repeat' ((with_reducible apply zBr)<;>intro h<;>refine zG ?_))<;>try exact .intro)
  (refine Qh (by intro g;simp only [go_sem,ren,Qe]) ?_)
  simp only [List.length_map,List.length_range,Nat.sub_self,Nat.pow_zero,Nat.div_one] at hI;rw [hI];simp [Qc0]
theorem Zg (x:Nat):clo (Xy x)=true:=Xs _
theorem IsN.gd {v:V} {H:Qa} {x:Nat} (h:IsN v H x):Gd H v (Xy x):=IsZ.gd h (Qp _ _) (Xq _ _)
theorem Val.ofN {f:FuncId} {args:List V} {x:Nat} (h:Fc C f args [] fun v H=>Qj1 v H x):Val C f args (Xy x):=Val.ofZ h (Qp _ _) (Xq _ _)
theorem Qjk (k:IntKind):∀ n,Qbn n [.int k 0]=Qz k (List.replicate n 0)
 | 0=>rfl
 | n+1=>by
  have:=Qjk k n
  simp only [Qbn,List.replicate_succ,Qz,List.map_cons] at this ⊢;simp [this]
theorem Qhx {ty:TypeId→Ty} {t e n:Nat} {H:Qa} {K:V→Qa→Prop} {k:IntKind} (hs:(ty t).sl=some e) (hok:(ty e).ok=true) (hz:Xb (ty e)=[.int k 0]) (h1:(ty e).size=1) (hb:(ty e).bytes≤8) (hn:n≤17592186044416)
  (h:K (.ref H.length 0 n) (H++[some ⟨e,1,Qz k (List.replicate n 0)⟩])):Qdd ty t (.int .i64 n) (.int .i64 n) H K:=by
 simp only [Qdd,hs];refine ⟨hok,trivial,by omega,by omega, ?_, ?_⟩
 ·have:=Nat.mul_le_mul hb hn
  rw [Int.toNat_natCast];omega
 ·rw [Int.toNat_natCast,hz,h1,Qjk];exact h
theorem Jr (k:IntKind) (xs:List Nat) (i v:Nat):upd (Qz k xs) i (.int k (v:Nat))=Qz k (xs.set i v):=by
 induction xs generalizing i with
 | nil=>rfl
 | cons a l ih =>
  cases i with
  | zero=>rfl
  | succ i=>simp only [Qz,List.map_cons,upd,List.set_cons_succ] at ih ⊢;rw [ih]
theorem Xhq (x y:Nat) (KP:V→Prop) (hx:x<4294967296) (hy:y<4294967296):Zv .or .u64 ((x*4294967296:Nat):Int) .u64 (y:Int) KP=KP (.int .u64 ((x*4294967296+y:Nat):Int)):=by
 have h:(.or:BinOp)=.or:=rfl
 simp only [Zv,true_and]
 have e:IntKind.wrap .u64 (((BitVec.ofInt IntKind.u64.bits ((x*4294967296:Nat):Int)|||BitVec.ofInt IntKind.u64.bits (y:Int)).toNat:Nat):Int)=((x*4294967296+y:Nat):Int):=by
  rw [Qk3 x y hx hy,Qj5 (by omega)]
 exact congrArg (fun n=>KP (.int .u64 n)) e
theorem Qbo {b:Nat} {l:List Nat} {i:Nat} (h:i<l.length):lv b (l.drop i)=l.getD i 0+b*lv b (l.drop (i+1)):=by
 have e:l.drop i=l.getD i 0::l.drop (i+1):=by
  rw [List.drop_eq_getElem_cons h];simp [List.getD,h]
 rw [e];rfl
theorem Jk {l:List Nat} {i m v:Nat} (h:i<m):(l.set i v).drop m=l.drop m:=by
 refine List.ext_getElem? fun j=>?_
 rw [List.getElem?_drop,List.getElem?_drop,List.getElem?_set_ne (by omega)]
theorem Qdq {l:List Nat} {i v:Nat} (h:i<l.length):(l.set i v).getD i 0=v:=by simp [List.getD,h]
theorem Lim.set {l:List Nat} (h:Lim l) (i:Nat) {v:Nat} (hv:v<4294967296):Lim (l.set i v):=fun x hx=>by
 rcases List.mem_or_eq_of_mem_set hx with h1 | h1
 ·exact h x h1
 ·rw [h1];exact hv
theorem Qpv {H:Qa} {r n e s:Nat} {cs:List V} (h:Qc H r=some ⟨e,s,cs⟩) (hc:Qf cs=true):BorL H [.ref r 0 n] [.sl n cs] :=
 ⟨.ref r 0 n _ cs h (by simp) fun j hj=>by simpa using .clo _ (Ys hc j),trivial⟩
theorem Qv4 (a:List Nat) (d:Nat) (ha:a.length≤8796093022208) (hA:Lim a) (hd:0<d) (hd2:d<4294967296):Val C 305 [NA a,.int .u32 (d:Nat)] (.tup [Xy (lv B32 a/d),.int .u32 (lv B32 a%d:Nat),.int .i64 0]):=by
 refine zK Qd Tryz.func305 w305 Tryz.ntmps305 Tryz.results305 ?_
 (refine zG ?_;(repeat' ((with_reducible apply zBr)<;>intro h<;>refine zG ?_))<;>try exact .intro)
 refine Qhx rfl rfl rfl rfl (by simp [t106bytes]) (by omega) ?_
 (refine zG ?_;(repeat' ((with_reducible apply zBr)<;>intro h<;>refine zG ?_))<;>try exact .intro)
 refine Qg (fun n ts H=>∃ (m:Nat) (r:Nat) (Q:List Nat),(m≤a.length)∧(Q.length=a.length)∧(Lim Q)∧(r<d)∧(lv B32 (Q.drop m)*d+r=lv B32 (a.drop m))∧(n=m)∧(H=[some ⟨106,1,Qz .u32 Q⟩])∧ts.length=46∧nth ts 0=NA a∧nth ts 1=.int .u32 (d:Nat)∧nth ts 7=.ref 0 0 a.length∧nth ts 8=.int .u64 (r:Nat)∧nth ts 9=.int .i64 ((m:Int) - 1)) ?_ (n:=a.length) ?_
 ·skip
  rintro n ts H ⟨m,r,Q,hm,hQl,hQ,hr,hinv,hn,hH,hL,hs0,hs1,hs7,hs8,hs9⟩;refine Qv [(0,NA a),(1,.int .u32 (d:Nat)),(7,.ref 0 0 a.length),(8,.int .u64 (r:Nat)),(9,.int .i64 ((m:Int) - 1))] hL (by simp only [zFm,hs0,hs1,hs7,hs8,hs9,true_and];exact zNm) ?_
  clear hL hs0 hs1 hs7 hs8 hs9 ts
  refine Qw Qd ?_;subst hH
  have hg:=hA.get (m - 1)
  have hq:(r*4294967296+a.getD (m - 1) 0)/d<4294967296:=by
   rw [Nat.div_lt_iff_lt_mul hd,Nat.mul_comm]
   have:=Nat.mul_le_mul_right 4294967296 hr
   simp only [Nat.succ_eq_add_one,Nat.add_mul] at this;omega
  have hs:=Nat.mod_lt (r*4294967296+a.getD (m - 1) 0) hd
  have hdm:=Nat.div_add_mod (r*4294967296+a.getD (m - 1) 0) d
  have hq':(((r*4294967296+a.getD (m - 1) 0:Nat):Int)/(d:Int))=(((r*4294967296+a.getD (m - 1) 0)/d:Nat):Int):=(Int.natCast_ediv _ _).symm
  have hr':(((r*4294967296+a.getD (m - 1) 0:Nat):Int)%(d:Int))=(((r*4294967296+a.getD (m - 1) 0)%d:Nat):Int):=(Int.natCast_emod _ _).symm
  generalize (r*4294967296+a.getD (m - 1) 0)/d=q at *;generalize (r*4294967296+a.getD (m - 1) 0)%d=s at *
  (apply Zo;repeat' ((with_reducible first|apply Zk|apply zBr<;>intro h)<;>try simp -implicitDefEqProofs (maxSteps:=9^7) (disch:=first|exact zDs|fail) only [go_sem,Qje,Xhq,hq',hr']))
  ·have hm1:0<m:=by omega
   refine ⟨m - 1,by omega,m - 1,_,_,by omega, ?_, ?_,hs, ?_,rfl,by rw [Jr],rfl,by congr 1;omega⟩
   ·rw [List.length_set];exact hQl
   ·exact Lim.set hQ _ hq
   ·rw [Qbo (l:=a) (by omega),Qbo (l:=Q.set _ _) (by rw [List.length_set];omega),Qdq (by omega),Jk (by omega),show m - 1+1=m by omega,← hinv]
    generalize lv B32 (Q.drop m)=z;simp only [Nat.add_mul,Nat.mul_add,B32];rw [Nat.mul_assoc 4294967296 z d,Nat.mul_comm q d,Nat.mul_comm 4294967296 r];omega
  ·obtain rfl:m=0:=by omega
   simp only [List.drop_zero] at hinv
   have hqv:lv B32 a/d=lv B32 Q:=by rw [← hinv,Nat.mul_comm,Nat.mul_add_div hd,Nat.div_eq_of_lt hr,Nat.add_zero]
   have hrv:lv B32 a%d=r:=by rw [← hinv,Nat.mul_comm,Nat.mul_add_mod,Nat.mod_eq_of_lt hr]
   refine Fc.isN (Qf8 Q (by omega) hQ) (by rw [← hQl];exact Qpv rfl (Qp _ _)) fun v X hv=>?_
   (refine zG ?_;(repeat' ((with_reducible apply zBr)<;>intro h<;>refine zG ?_))<;>try exact .intro)
   rw [hqv,hrv];refine Gd.ret (Gd.tupL ?_);exact ⟨hv.gd,.leaf _ rfl rfl,.leaf _ rfl rfl,trivial⟩
 ·refine ⟨a.length,0,List.replicate a.length 0,Nat.le_refl _,by simp,fun x hx=>by simp at hx;omega,hd,by simp [lv],rfl,rfl,rfl,rfl,rfl,rfl,rfl,rfl⟩
theorem Xia {l:List Nat} {k:Nat} (h:l.length=k+2):lv B32 l=(l.getD (k+1) 0*B32+l.getD k 0)*B32 ^ k+lv B32 (l.take k):=by
 rw [Ky B32 l k (by omega),Qbo (by omega),Qbo (by omega),List.drop_of_length_le (by omega),lv]
 rw [Nat.mul_comm (B32 ^ k),Nat.mul_zero,Nat.add_zero,Nat.mul_comm B32,Nat.add_comm (l.getD k 0),Nat.add_comm]
theorem Xh9 {l:List Nat} {k:Nat} (h:l.length=k+3):lv B32 l=((l.getD (k+2) 0*B32+l.getD (k+1) 0)*B32+l.getD k 0)*B32 ^ k+lv B32 (l.take k):=by
 rw [Ky B32 l k (by omega),Qbo (by omega),Qbo (by omega),Qbo (by omega),List.drop_of_length_le (by omega),lv]
 rw [Nat.mul_comm (B32 ^ k),Nat.mul_zero,Nat.add_zero,Nat.mul_comm B32,Nat.mul_comm B32,Nat.add_comm (l.getD k 0),Nat.add_comm (l.getD (k+1) 0),Nat.add_comm]
 rfl
theorem Qel (x:Nat):(x:Int).fdiv (2 ^ min 32 64)=((x/4294967296:Nat):Int):=Qb4 x 32
theorem Quy (u v:List Nat) (k:Nat) (hv:v.length=k+2) (hu:u.length=k+3) (hk:k≤8796093022208) (hU:Lim u) (hV:Lim v) (hbig:2147483648≤v.getD (k+1) 0) (hlt:lv B32 u<B32*lv B32 v) :
  Fc C 308 [NA u,NA v] [] fun r H=>H=[]∧∃ g:Nat,r=.int .u64 (g:Nat)∧lv B32 u/lv B32 v≤g∧g≤lv B32 u/lv B32 v+1∧g<B32:=by
 have hG:Gs B32 (B32 ^ k) (lv B32 v) (lv B32 u) (v.getD (k+1) 0) (v.getD k 0) (u.getD (k+2) 0*B32+u.getD (k+1) 0) (u.getD k 0) :=
  ⟨⟨_,Ke hV k (by omega),Xia hv⟩,⟨_,Ke hU k (by omega),Xh9 hu⟩,hV.get k,hU.get k,hV.get (k+1),by simp only [B32];omega,hlt⟩
 have g0:=hU.get (k+2)
 have g1:=hU.get (k+1)
 have g2:=hU.get k
 have g3:=hV.get (k+1)
 have g4:=hV.get k
 have n1:k+2 - 1=k+1:=rfl
 have n2:k+2 - 2=k:=rfl
 have n3:(((k+2:Nat):Int) - 2).toNat=k:=by omega
 obtain ⟨q0,hq0⟩:∃ q,q=(u.getD (k+2) 0*4294967296+u.getD (k+1) 0)/v.getD (k+1) 0:=⟨_,rfl⟩;obtain ⟨r0,hr0⟩:∃ r,r=(u.getD (k+2) 0*4294967296+u.getD (k+1) 0)%v.getD (k+1) 0:=⟨_,rfl⟩
 have hq:(((u.getD (k+2) 0*4294967296+u.getD (k+1) 0:Nat):Int)/((v.getD (k+1) 0:Nat):Int))=((q0:Nat):Int):=by rw [hq0];exact (Int.natCast_ediv _ _).symm
 have hr:(((u.getD (k+2) 0*4294967296+u.getD (k+1) 0:Nat):Int)%((v.getD (k+1) 0:Nat):Int))=((r0:Nat):Int):=by rw [hr0];exact (Int.natCast_emod _ _).symm
 have hq1:lv B32 u/lv B32 v≤q0:=by rw [hq0];exact hG.first_le
 have hq2:q0≤4294967297:=by rw [hq0];exact hG.first_ge
 have hr1:r0<v.getD (k+1) 0:=by rw [hr0];exact Nat.mod_lt _ (by omega)
 have hqr:q0*v.getD (k+1) 0+r0=u.getD (k+2) 0*B32+u.getD (k+1) 0:=by rw [hq0,hr0,Nat.mul_comm];exact Nat.div_add_mod _ _
 refine zK Qd Tryz.func308 w308 Tryz.ntmps308 Tryz.results308 ?_
 (apply Zo;repeat' ((with_reducible first|apply Zk|apply zBr<;>intro h)<;>try simp -implicitDefEqProofs (maxSteps:=9^7) (disch:=first|exact zDs|fail) only [go_sem,Qje,Xhq,hv,hu,n1,hq,hr]))
 refine Qg (fun n ts H=>∃ (g:Nat) (r:Nat),(lv B32 u/lv B32 v≤g)∧(g≤4294967297)∧(g*v.getD (k+1) 0+r=u.getD (k+2) 0*B32+u.getD (k+1) 0)∧(r<4294967296)∧(n=g)∧(H=[])∧ts.length=77∧nth ts 0=.sl (k+3) (Qz .u32 u)∧nth ts 1=.sl (k+2) (Qz .u32 v)∧nth ts 5=.int .i64 (k+2:Nat)∧nth ts 7=.int .u64 (g:Nat)∧nth ts 8=.int .u64 (r:Nat)) ?_ (n:=q0) ?_
 ·skip
  rintro n ts H ⟨g,r,hg1,hg2,hgr,hrB,hn,hH,hL,hs0,hs1,hs5,hs7,hs8⟩;refine Qv [(0,.sl (k+3) (Qz .u32 u)),(1,.sl (k+2) (Qz .u32 v)),(5,.int .i64 (k+2:Nat)),(7,.int .u64 (g:Nat)),(8,.int .u64 (r:Nat))] hL (by simp only [zFm,hs0,hs1,hs5,hs7,hs8,true_and];exact zNm) ?_
  clear hL hs0 hs1 hs5 hs7 hs8 ts
  refine Qw Qd ?_;subst hH;rcases Nat.lt_or_ge g 4294967296 with hgB | hgB
  ·have hgv:g*v.getD k 0≤4294967295*4294967295:=Nat.mul_le_mul (by omega) (by omega)
   generalize hgv':g*v.getD k 0=gv at hgv
   have hgc:((g:Nat):Int)*((v.getD k 0:Nat):Int)=((gv:Nat):Int):=by rw [← hgv'];exact (Int.natCast_mul _ _).symm
   have e4:∀ r:Nat,(r:Int)+((v.getD (k+1) 0:Nat):Int)=((r+v.getD (k+1) 0:Nat):Int):=fun r=>(Int.natCast_add _ _).symm
   have hdown:=fun hc=>hG.step hgr hg1 hg2 (Or.inr hc)
   (apply Zo;repeat' ((with_reducible first|apply Zk|apply zBr<;>intro h)<;>try simp -implicitDefEqProofs (maxSteps:=9^7) (disch:=first|exact zDs|fail) only [go_sem,Qje,Xhq,hv,hu,n1,n2,n3,Qel,hgc]))
   ·rename_i h0;rw [e4,Qel] at h;obtain ⟨g',rfl,j1,j2,j3,j4⟩:=hdown (by rw [hgv'];simp only [B32];omega)
    obtain ⟨j5,j6⟩:=j4 (by simp only [B32];omega)
    have e5:IntKind.wrap .u64 (((g'+1:Nat):Int) - 1)=(g':Int):=by rw [Qj5 (by omega)];omega
    rw [e5];exact ⟨[],by simp,by simp,rfl,g',rfl,j1,by omega,j6⟩
   ·rename_i h0;rw [e4,Qel] at h;obtain ⟨g',rfl,j1,j2,j3,j4⟩:=hdown (by rw [hgv'];simp only [B32];omega)
    have e5:IntKind.wrap .u64 (((g'+1:Nat):Int) - 1)=(g':Int):=by rw [Qj5 (by omega)];omega
    exact ⟨g',by omega,g',r+v.getD (k+1) 0,j1,by omega,j3,by omega,rfl,by rw [e5],rfl⟩
   ·exact ⟨[],by simp,by simp,rfl,g,rfl,hg1,hG.end1 hgr hgB (by rw [hgv'];simp only [B32];omega),hgB⟩
  ·have e4:∀ r:Nat,(r:Int)+((v.getD (k+1) 0:Nat):Int)=((r+v.getD (k+1) 0:Nat):Int):=fun r=>(Int.natCast_add _ _).symm
   obtain ⟨g',rfl,j1,j2,j3,j4⟩:=hG.step hgr hg1 hg2 (Or.inl hgB)
   (apply Zo;repeat' ((with_reducible first|apply Zk|apply zBr<;>intro h)<;>try simp -implicitDefEqProofs (maxSteps:=9^7) (disch:=first|exact zDs|fail) only [go_sem,Qje,Xhq,hv,hu,n1,n2,n3,Qel]))
   ·rw [e4,Qel] at h;obtain ⟨j5,j6⟩:=j4 (by simp only [B32];omega)
    have e5:(((g'+1:Nat):Int) - 1)=(g':Int):=by omega
    rw [e5];exact ⟨[],by simp,by simp,rfl,g',rfl,j1,by omega,j6⟩
   ·rw [e4,Qel] at h
    have e5:(((g'+1:Nat):Int) - 1)=(g':Int):=by omega
    exact ⟨g',by omega,g',r+v.getD (k+1) 0,j1,by omega,j3,by omega,rfl,by rw [e5],rfl⟩
 ·exact ⟨q0,r0,hq1,hq2,hqr,by omega,rfl,rfl,rfl,rfl,rfl,rfl,rfl,rfl⟩
theorem Xng (x y:Nat) (KP:V→Prop) (hx:x<4294967296) (hy:y<4294967296):Zv .and .u32 (x:Int) .u32 (y:Int) KP=KP (.int .u32 ((x &&& y:Nat):Int)):=by
 simp only [Zv,true_and]
 have e:IntKind.wrap .u32 (((BitVec.ofInt IntKind.u32.bits (x:Int) &&& BitVec.ofInt IntKind.u32.bits (y:Int)).toNat:Nat):Int)=((x &&& y:Nat):Int):=by
  have h1:(BitVec.ofInt IntKind.u32.bits (x:Int) &&& BitVec.ofInt IntKind.u32.bits (y:Int)).toNat=x &&& y:=Xjn (k:=32) (by omega) (by omega)
  have h2:x &&& y<2 ^ 32:=Nat.and_lt_two_pow x (by omega)
  rw [h1,Qha (by omega)]
 exact congrArg (fun n=>KP (.int .u32 n)) e
theorem Xo3 (x y:Nat) (KP:V→Prop) (hx:x<4294967296) (hy:y<4294967296):Zv .or .u32 (x:Int) .u32 (y:Int) KP=KP (.int .u32 ((x|||y:Nat):Int)):=by
 simp only [Zv,true_and]
 have e:IntKind.wrap .u32 (((BitVec.ofInt IntKind.u32.bits (x:Int)|||BitVec.ofInt IntKind.u32.bits (y:Int)).toNat:Nat):Int)=((x|||y:Nat):Int):=by
  have h1:(BitVec.ofInt IntKind.u32.bits (x:Int)|||BitVec.ofInt IntKind.u32.bits (y:Int)).toNat=x|||y:=Xcv (k:=32) (by omega) (by omega)
  have h2:x|||y<2 ^ 32:=Nat.or_lt_two_pow (by omega) (by omega)
  rw [h1,Qha (by omega)]
 exact congrArg (fun n=>KP (.int .u32 n)) e
theorem Xkl (x y:Nat) (KP:V→Prop) (hx:x<4294967296) (hy:y<4294967296):Zv .xor .u32 (x:Int) .u32 (y:Int) KP=KP (.int .u32 ((x ^^^ y:Nat):Int)):=by
 simp only [Zv,true_and]
 have e:IntKind.wrap .u32 (((BitVec.ofInt IntKind.u32.bits (x:Int) ^^^ BitVec.ofInt IntKind.u32.bits (y:Int)).toNat:Nat):Int)=((x ^^^ y:Nat):Int):=by
  have h1:(BitVec.ofInt IntKind.u32.bits (x:Int) ^^^ BitVec.ofInt IntKind.u32.bits (y:Int)).toNat=x ^^^ y:=Qwd (k:=32) (by omega) (by omega)
  have h2:x ^^^ y<2 ^ 32:=Nat.xor_lt_two_pow (by omega) (by omega)
  rw [h1,Qha (by omega)]
 exact congrArg (fun n=>KP (.int .u32 n)) e
def cpl (x:Nat):Nat:=4294967295 ^^^ x
theorem Qve {x:Nat} (h:x<4294967296):cpl x<4294967296:=Nat.xor_lt_two_pow (n:=32) (by omega) (by omega)
theorem Xpp (x:Nat) (KP:V→Prop) (hx:x<4294967296):unw .xor (.int .u32 (x:Int)) KP=KP (.int .u32 ((cpl x:Nat):Int)):=by
 have h1:(BitVec.ofInt 32 ((4294967295:Nat):Int) ^^^ BitVec.ofInt 32 (x:Int)).toNat=4294967295 ^^^ x:=Qwd (k:=32) (by omega) (by omega)
 have h2:=Qve hx
 have e:IntKind.wrap .u32 (((BitVec.ofInt 32 ((4294967295:Nat):Int) ^^^ BitVec.ofInt 32 (x:Int)).toNat:Nat):Int)=((cpl x:Nat):Int):=by
  rw [h1,Qha (by simp only [cpl] at h2;omega)];rfl
 exact congrArg (fun n=>KP (.int .u32 n)) e
theorem Xo1 (x:Nat):(x:Int).fdiv (2 ^ min 31 32)=((x/2147483648:Nat):Int):=Qb4 x 31
theorem Qvp {x y b d:Nat} (hx:x<4294967296) (hy:y<4294967296) (hb:b≤1) (hd:d=(x+8589934592 - y - b)%4294967296):(cpl x &&& y|||cpl (x ^^^ y) &&& d)/2147483648=if x<y+b then 1 else 0:=by
 have e:∀ n:Nat,n/2147483648=n >>> 31:=fun n=>by rw [Nat.shiftRight_eq_div_pow]
 have hdl:d<4294967296:=by rw [hd];exact Nat.mod_lt _ (by decide)
 rw [e,Nat.shiftRight_or_distrib,Nat.shiftRight_and_distrib,Nat.shiftRight_and_distrib];simp only [cpl,Nat.shiftRight_xor_distrib];rw [← e,← e,← e,← e]
 have hx1:x/2147483648=0∨x/2147483648=1:=by omega
 have hy1:y/2147483648=0∨y/2147483648=1:=by omega
 have hd1:d/2147483648=0∨d/2147483648=1:=by omega
 rcases hx1 with hx1 | hx1<;>rcases hy1 with hy1 | hy1<;>rcases hd1 with hd1 | hd1<;>rw [hx1,hy1,hd1]<;>simp<;>omega
theorem Qkn (x y b:Nat) (hx:x<4294967296) (hy:y<4294967296) (hb:b≤1):Pu C 324 [.int .u32 (x:Nat),.int .u32 (y:Nat),.int .u32 (b:Nat)] (.tup [.int .u32 ((x+8589934592 - y - b)%4294967296:Nat),.int .u32 (if x<y+b then 1 else 0:Nat)]):=by
 obtain ⟨d,hd⟩:∃ d,d=(x+8589934592 - y - b)%4294967296:=⟨_,rfl⟩
 have hdl:d<4294967296:=by rw [hd];exact Nat.mod_lt _ (by decide)
 have hw:IntKind.wrap .u32 (IntKind.wrap .u32 ((x:Int) - (y:Int)) - (b:Int))=(d:Int):=by rw [Qc4,Qc4,hd];omega
 have c1:=Qve hx
 have c2:x ^^^ y<4294967296:=Nat.xor_lt_two_pow (n:=32) (by omega) (by omega)
 have c3:=Qve c2
 have c4:cpl x &&& y<4294967296:=Nat.and_lt_two_pow (n:=32) _ (by omega)
 have c5:cpl (x ^^^ y) &&& d<4294967296:=Nat.and_lt_two_pow (n:=32) _ (by omega)
 rw [← hd];refine zK Qd Tryz.func324 w324 Tryz.ntmps324 Tryz.results324 ?_
 (apply Zo;repeat' ((with_reducible first|apply Zk|apply zBr<;>intro h)<;>try simp -implicitDefEqProofs (maxSteps:=9^7) (disch:=first|exact zDs|fail) only [go_sem,hw,Xpp,Xng,Xo3,Xkl,Xo1]))
 (refine Qh (by intro g;simp only [go_sem,ren,Qe]) ?_)
 rw [Qvp hx hy hb hd]
theorem Qvy (x y b:Nat) (hx:x<4294967296) (hy:y<4294967296) (hb:b≤1):Pu C 325 [.int .u32 (x:Nat),.int .u32 (y:Nat),.int .u32 (b:Nat)] (.tup [.int .u32 ((x+y+b)%4294967296:Nat),.int .u32 ((x+y+b)/4294967296:Nat)]):=by
 have e1:(x:Int)+(y:Int)+(b:Int)=((x+y+b:Nat):Int):=by omega
 have e2:IntKind.wrap .u32 ((x+y+b:Nat):Int)=(((x+y+b)%4294967296:Nat):Int):=by rw [Qc4];omega
 refine zK Qd Tryz.func325 w325 Tryz.ntmps325 Tryz.results325 ?_
 (apply Zo;repeat' ((with_reducible first|apply Zk|apply zBr<;>intro h)<;>try simp -implicitDefEqProofs (maxSteps:=9^7) (disch:=first|exact zDs|fail) only [go_sem,e1,e2,Qel]))
 (refine Qh (by intro g;simp only [go_sem,ren,Qe]) ?_)
 rw [← Nat.add_assoc,e2]
theorem Qhh {W:List Nat} {j i d:Nat} (h:j+i<W.length):((W.set (j+i) d).drop j).take (i+1)=(W.drop j).take i++[d]:=by
 refine List.ext_getElem? fun k=>?_
 rw [List.getElem?_take];by_cases hk:k<i+1
 ·rw [if_pos hk,List.getElem?_drop];by_cases e:k=i
  ·subst e;rw [List.getElem?_set_self h,List.getElem?_append_right (by rw [List.length_take];omega),List.length_take,List.length_drop,Nat.min_eq_left (by omega)]
   simp
  ·rw [List.getElem?_set_ne (by omega),List.getElem?_append_left (by rw [List.length_take,List.length_drop];omega),List.getElem?_take,if_pos (by omega),List.getElem?_drop]
 ·rw [if_neg hk,List.getElem?_eq_none];rw [List.length_append,List.length_take,List.length_drop];simp;omega
theorem Qfx {W:List Nat} {j i:Nat} (h:j+i<W.length):(W.drop j).take (i+1)=(W.drop j).take i++[W.getD (j+i) 0]:=by
 rw [List.take_add_one];simp [List.getD,h]
theorem Qbt {W:List Nat} {j i:Nat} (h:j+i≤W.length):((W.drop j).take i).length=i:=by rw [List.length_take,List.length_drop];omega
theorem Qib {W X:List Nat} {s:Nat} (h:W.drop s=X.drop s):W.getD s 0=X.getD s 0:=by
 have:=congrArg (fun l:List Nat=>l.getD 0 0) h
 simpa [List.getD,List.getElem?_drop] using this
theorem Qbp {W:List Nat} {j s d:Nat} (h:j≤s):(W.set s d).take j=W.take j:=by
 refine List.ext_getElem? fun k=>?_
 rw [List.getElem?_take,List.getElem?_take];split
 ·rw [List.getElem?_set_ne (by omega)]
 ·rfl
structure Tk (j:Nat) (v:List Nat) (q:Nat) (W:List Nat) (i:Nat) (Wi:List Nat) (c bw:Nat):Prop where
 len:Wi.length=W.length
 lim:Lim Wi
 lo:Wi.take j=W.take j
 hi:Wi.drop (j+i)=W.drop (j+i)
 eq:lv B32 ((Wi.drop j).take i)+q*lv B32 (v.take i)=lv B32 ((W.drop j).take i)+B32 ^ i*(c+bw)
 c:c<4294967296
 bw:bw≤1
theorem Tk.next {j:Nat} {v:List Nat} {q:Nat} {W:List Nat} {i:Nat} {Wi:List Nat} {c bw:Nat} (h:Tk j v q W i Wi c bw) (hi:i<v.length) (hW:j+v.length<W.length) (hq:q<4294967296) (hV:Lim v) {p d b':Nat} (hp:p=q*v.getD i 0+c) (hd:d=(Wi.getD (j+i) 0+8589934592 - p%4294967296 - bw)%4294967296) (hb:b'=if Wi.getD (j+i) 0<p%4294967296+bw then 1 else 0) :
  Tk j v q W (i+1) (Wi.set (j+i) d) (p/4294967296) b':=by
 have hs:j+i<Wi.length:=by rw [h.len];omega
 have hw:=h.lim.get (j+i)
 have hb1:b'≤1:=by rw [hb];split<;>omega
 have hdl:d<4294967296:=by rw [hd];exact Nat.mod_lt _ (by decide)
 have hg:=Qib h.hi
 have hm:=Nat.mod_lt p (show 0<4294967296 by decide)
 have hbw:=h.bw
 have hdb:d+(p%4294967296+bw)=Wi.getD (j+i) 0+4294967296*b':=by rw [hd,hb];split<;>omega
 have hpl:p<4294967296*4294967296:=by
  have:=Nat.mul_le_mul (show q≤4294967295 by omega) (show v.getD i 0≤4294967295 by have:=hV.get i;omega)
  have:=h.c
  omega
 refine ⟨by rw [List.length_set,h.len],Lim.set h.lim _ hdl,by rw [Qbp (by omega),h.lo], ?_, ?_,(Nat.div_lt_iff_lt_mul (by decide)).2 hpl,hb1⟩
 ·rw [← Nat.add_assoc,Jk (Nat.lt_succ_self _)]
  have:=congrArg (List.drop 1) h.hi
  rwa [List.drop_drop,List.drop_drop] at this
 ·rw [Qhh hs,Jz,Qbt (by omega),Qfx (W:=W) (by omega),Jz,Qbt (by omega),Qfi hi,Nat.pow_succ,← hg]
  have heq:=h.eq
  have hpm:=Nat.mod_add_div p 4294967296
  rw [Nat.mul_add];generalize B32 ^ i=P at *
  have e1:q*(P*v.getD i 0)=P*(q*v.getD i 0):=by ac_rfl
  rw [e1,Nat.mul_assoc]
  have e2:P*(c+bw)+(P*d+P*(q*v.getD i 0))=P*Wi.getD (j+i) 0+P*(B32*(p/4294967296+b')):=by
   rw [← Nat.mul_add,← Nat.mul_add,← Nat.mul_add]
   congr 1
   simp only [B32];omega
  omega
theorem Tk.last {j:Nat} {v:List Nat} {q:Nat} {W Wi:List Nat} {c bw:Nat} (h:Tk j v q W v.length Wi c bw) (hW:j+v.length<W.length) {d b':Nat} (hd:d=(Wi.getD (j+v.length) 0+8589934592 - c - bw)%4294967296) (hb:b'=if Wi.getD (j+v.length) 0<c+bw then 1 else 0) :
  (Wi.set (j+v.length) d).length=W.length∧Lim (Wi.set (j+v.length) d)∧(Wi.set (j+v.length) d).take j=W.take j∧(Wi.set (j+v.length) d).drop (j+(v.length+1))=W.drop (j+(v.length+1)) ∧
   lv B32 (((Wi.set (j+v.length) d).drop j).take (v.length+1))+q*lv B32 v=lv B32 ((W.drop j).take (v.length+1))+B32 ^ (v.length+1)*b'∧b'≤1:=by
 have hs:j+v.length<Wi.length:=by rw [h.len];omega
 have hw:=h.lim.get (j+v.length)
 have hdl:d<4294967296:=by rw [hd];exact Nat.mod_lt _ (by decide)
 have hg:=Qib h.hi
 have hc:=h.c
 have hbw:=h.bw
 have hb1:b'≤1:=by rw [hb];split<;>omega
 have hdb:d+(c+bw)=Wi.getD (j+v.length) 0+4294967296*b':=by rw [hd,hb];split<;>omega
 refine ⟨by rw [List.length_set,h.len],Lim.set h.lim _ hdl,by rw [Qbp (by omega),h.lo], ?_, ?_,hb1⟩
 ·rw [← Nat.add_assoc,Jk (Nat.lt_succ_self _)]
  have:=congrArg (List.drop 1) h.hi
  rwa [List.drop_drop,List.drop_drop] at this
 ·rw [Qhh hs,Jz,Qbt (by omega),Qfx (W:=W) (by omega),Jz,Qbt (by omega),Nat.pow_succ,← hg]
  have heq:=h.eq
  rw [List.take_length] at heq;generalize B32 ^ v.length=P at *;rw [Nat.mul_assoc]
  have e2:P*(c+bw)+P*d=P*Wi.getD (j+v.length) 0+P*(B32*b'):=by
   rw [← Nat.mul_add,← Nat.mul_add]
   congr 1
   simp only [B32];omega
  omega
theorem List.set_getElem_self_of_row {H:Qa} {r:Nat} {row:Row} (h:Qc H r=some row):H.set r (some row)=H:=by
 refine List.ext_getElem? fun k=>?_
 by_cases e:r=k
 ·subst e;rw [List.getElem?_set_self (Xt h),Xh h]
 ·rw [List.getElem?_set_ne e]
theorem Qx2 {ro j q:Nat} {H0:Qa} {v W:List Nat} (hr:Qc H0 ro=some ⟨106,1,Qz .u32 W⟩) (hW:j+v.length<W.length) (hWl:W.length≤8796093022208) (hL:Lim W) (hV:Lim v) (hq:q<4294967296) :
  Fc C 309 [.ref ro j (v.length+1),NA v,.int .u64 (q:Nat)] H0 fun r H'=>∃ W' b',r=.bool (b'==1)∧H'=H0.set ro (some ⟨106,1,Qz .u32 W'⟩)∧b'≤1∧W'.length=W.length∧Lim W'∧W'.take j=W.take j∧W'.drop (j+v.length+1)=W.drop (j+v.length+1)∧lv B32 ((W'.drop j).take (v.length+1))+q*lv B32 v=lv B32 ((W.drop j).take (v.length+1))+B32 ^ (v.length+1)*b':=by
 have hrow:∀ Wi:List Nat,Qc (H0.set ro (some ⟨106,1,Qz .u32 Wi⟩)) ro=some ⟨106,1,Qz .u32 Wi⟩:=fun Wi=>Qj hr
 have hset:∀ (Wi:List Nat) (z:Option Row),(H0.set ro (some ⟨106,1,Qz .u32 Wi⟩)).set ro z=H0.set ro z:=fun Wi z=>List.set_set ..
 have h00:H0.set ro (some ⟨106,1,Qz .u32 W⟩)=H0:=List.set_getElem_self_of_row hr
 refine zL Qd Tryz.func309 w309 Tryz.ntmps309 Tryz.results309 ?_
 (refine zG ?_;(repeat' ((with_reducible apply zBr)<;>intro h<;>refine zG ?_))<;>try exact .intro)
 refine Qg (fun n ts H=>∃ (i:Nat) (c:Nat) (bw:Nat) (Wi:List Nat),(i≤v.length)∧(Tk j v q W i Wi c bw)∧(n=v.length - i)∧(H=H0.set ro (some ⟨106,1,Qz .u32 Wi⟩))∧ts.length=60∧nth ts 0=.ref ro j (v.length+1)∧nth ts 1=NA v∧nth ts 2=.int .u64 (q:Nat)∧nth ts 7=.int .u64 (c:Nat)∧nth ts 8=.int .u32 (bw:Nat)∧nth ts 12=NA v∧nth ts 13=.int .i64 (v.length:Nat)∧nth ts 14=.int .i64 (i:Nat)) ?_ (n:=v.length) ?_
 ·skip
  rintro n ts H ⟨i,c,bw,Wi,hi,hT,hn,hH,hL,hs0,hs1,hs2,hs7,hs8,hs12,hs13,hs14⟩;refine Qv [(0,.ref ro j (v.length+1)),(1,NA v),(2,.int .u64 (q:Nat)),(7,.int .u64 (c:Nat)),(8,.int .u32 (bw:Nat)),(12,NA v),(13,.int .i64 (v.length:Nat)),(14,.int .i64 (i:Nat))] hL (by simp only [zFm,hs0,hs1,hs2,hs7,hs8,hs12,hs13,hs14,true_and];exact zNm) ?_
  clear hL hs0 hs1 hs2 hs7 hs8 hs12 hs13 hs14 ts
  refine Qw Qd ?_;subst hH
  have g1:=hV.get i
  have hc:=hT.c
  have hbw:=hT.bw
  have hlen:=hT.len
  have hqv:q*v.getD i 0≤4294967295*4294967295:=Nat.mul_le_mul (by omega) (by omega)
  generalize hqv':q*v.getD i 0=pv at hqv
  have hm:((q:Nat):Int)*((v.getD i 0:Nat):Int)=((pv:Nat):Int):=by rw [← hqv'];exact (Int.natCast_mul _ _).symm
  have ha:((pv:Nat):Int)+((c:Nat):Int)=((pv+c:Nat):Int):=(Int.natCast_add _ _).symm
  have hrw:=hrow Wi
  (apply Zo;repeat' ((with_reducible first|apply Zk|apply zBr<;>intro h)<;>try simp -implicitDefEqProofs (maxSteps:=9^7) (disch:=first|exact zDs|fail) only [go_sem,hm,ha,Qel,hrw,hset]))
  ·rw [Qj4]
   have hwi:=hT.lim.get (j+i)
   have hpm:=Nat.mod_lt (pv+c) (show 0<4294967296 by decide)
   refine Fc.pure (Qkn (Wi.getD (j+i) 0) ((pv+c)%4294967296) bw hwi hpm hbw) rfl (fun g=>rfl) ?_
   obtain ⟨d,hd⟩:∃ d,d=(Wi.getD (j+i) 0+8589934592 - (pv+c)%4294967296 - bw)%4294967296:=⟨_,rfl⟩;obtain ⟨b',hb'⟩:∃ b':Nat,b'=if Wi.getD (j+i) 0<(pv+c)%4294967296+bw then 1 else 0:=⟨_,rfl⟩
   rw [← hd,← hb']
   have hN:=hT.next (by omega) hW hq hV (p:=pv+c) (by rw [hqv']) hd hb'
   (apply Zo;repeat' ((with_reducible first|apply Zk|apply zBr<;>intro h)<;>try simp -implicitDefEqProofs (maxSteps:=9^7) (disch:=first|exact zDs|fail) only [go_sem,hm,ha,Qel,hrw,hset,Jr]))
   exact ⟨v.length - (i+1),by omega,i+1,_,_,_,by omega,hN,rfl,rfl,rfl,rfl,rfl⟩
  ·obtain rfl:i=v.length:=by omega
   have hwi:=hT.lim.get (j+v.length)
   refine Fc.pure (Qkn (Wi.getD (j+v.length) 0) c bw hwi hc hbw) rfl (fun g=>rfl) ?_
   obtain ⟨d,hd⟩:∃ d,d=(Wi.getD (j+v.length) 0+8589934592 - c - bw)%4294967296:=⟨_,rfl⟩;obtain ⟨b',hb'⟩:∃ b':Nat,b'=if Wi.getD (j+v.length) 0<c+bw then 1 else 0:=⟨_,rfl⟩
   rw [← hd,← hb'];obtain ⟨j1,j2,j3,j4,j5,j6⟩:=hT.last hW hd hb'
   (apply Zo;repeat' ((with_reducible first|apply Zk|apply zBr<;>intro h)<;>try simp -implicitDefEqProofs (maxSteps:=9^7) (disch:=first|exact zDs|fail) only [go_sem,hrw,hset,Jr]))
   refine ⟨_,b', ?_,rfl,j6,j1,j2,j3,j4,j5⟩
   congr 1
   rw [Bool.eq_iff_iff,beq_iff_eq,beq_iff_eq];omega
 ·exact ⟨0,0,0,W,by omega,⟨rfl,hL,rfl,rfl,by simp [lv],by omega,by omega⟩,rfl,h00.symm,rfl,rfl,rfl,rfl,rfl,rfl,rfl,rfl,rfl⟩
structure Bk (j:Nat) (v:List Nat) (W:List Nat) (i:Nat) (Wi:List Nat) (c:Nat):Prop where
 len:Wi.length=W.length
 lim:Lim Wi
 lo:Wi.take j=W.take j
 hi:Wi.drop (j+i)=W.drop (j+i)
 eq:lv B32 ((Wi.drop j).take i)+B32 ^ i*c=lv B32 ((W.drop j).take i)+lv B32 (v.take i)
 c:c≤1
theorem Bk.next {j:Nat} {v:List Nat} {W:List Nat} {i:Nat} {Wi:List Nat} {c:Nat} (h:Bk j v W i Wi c) (hi:i<v.length) (hW:j+v.length<W.length) (hV:Lim v) {p:Nat} (hp:p=Wi.getD (j+i) 0+v.getD i 0+c) :
  Bk j v W (i+1) (Wi.set (j+i) (p%4294967296)) (p/4294967296):=by
 have hs:j+i<Wi.length:=by rw [h.len];omega
 have hw:=h.lim.get (j+i)
 have hv:=hV.get i
 have hc:=h.c
 have hg:=Qib h.hi
 have hdl:p%4294967296<4294967296:=Nat.mod_lt _ (by decide)
 refine ⟨by rw [List.length_set,h.len],Lim.set h.lim _ hdl,by rw [Qbp (by omega),h.lo], ?_, ?_,by omega⟩
 ·rw [← Nat.add_assoc,Jk (Nat.lt_succ_self _)]
  have:=congrArg (List.drop 1) h.hi
  rwa [List.drop_drop,List.drop_drop] at this
 ·rw [Qhh hs,Jz,Qbt (by omega),Qfx (W:=W) (by omega),Jz,Qbt (by omega),Qfi hi,Nat.pow_succ,← hg]
  have heq:=h.eq
  have hpm:=Nat.mod_add_div p 4294967296
  generalize B32 ^ i=P at *;rw [Nat.mul_assoc]
  have e2:P*(p%4294967296)+P*(B32*(p/4294967296))=P*Wi.getD (j+i) 0+P*v.getD i 0+P*c:=by
   rw [← Nat.mul_add,← Nat.mul_add,← Nat.mul_add]
   congr 1
   simp only [B32];omega
  omega
theorem Bk.last {j:Nat} {v:List Nat} {W Wi:List Nat} {c:Nat} (h:Bk j v W v.length Wi c) (hW:j+v.length<W.length) {p:Nat} (hp:p=Wi.getD (j+v.length) 0+c) :
  (Wi.set (j+v.length) (p%4294967296)).length=W.length∧Lim (Wi.set (j+v.length) (p%4294967296))∧(Wi.set (j+v.length) (p%4294967296)).take j=W.take j∧(Wi.set (j+v.length) (p%4294967296)).drop (j+(v.length+1))=W.drop (j+(v.length+1)) ∧
   lv B32 (((Wi.set (j+v.length) (p%4294967296)).drop j).take (v.length+1))+B32 ^ (v.length+1)*(p/4294967296)=lv B32 ((W.drop j).take (v.length+1))+lv B32 v:=by
 have hs:j+v.length<Wi.length:=by rw [h.len];omega
 have hw:=h.lim.get (j+v.length)
 have hc:=h.c
 have hg:=Qib h.hi
 have hdl:p%4294967296<4294967296:=Nat.mod_lt _ (by decide)
 refine ⟨by rw [List.length_set,h.len],Lim.set h.lim _ hdl,by rw [Qbp (by omega),h.lo], ?_, ?_⟩
 ·rw [← Nat.add_assoc,Jk (Nat.lt_succ_self _)]
  have:=congrArg (List.drop 1) h.hi
  rwa [List.drop_drop,List.drop_drop] at this
 ·rw [Qhh hs,Jz,Qbt (by omega),Qfx (W:=W) (by omega),Jz,Qbt (by omega),Nat.pow_succ,← hg]
  have heq:=h.eq
  rw [List.take_length] at heq
  have hpm:=Nat.mod_add_div p 4294967296
  generalize B32 ^ v.length=P at *;rw [Nat.mul_assoc]
  have e2:P*(p%4294967296)+P*(B32*(p/4294967296))=P*Wi.getD (j+v.length) 0+P*c:=by
   rw [← Nat.mul_add,← Nat.mul_add]
   congr 1
   simp only [B32];omega
  omega
theorem Xaq {ro j:Nat} {H0:Qa} {v W:List Nat} (hr:Qc H0 ro=some ⟨106,1,Qz .u32 W⟩) (hW:j+v.length<W.length) (hWl:W.length≤8796093022208) (hL:Lim W) (hV:Lim v) :
  Fc C 310 [.ref ro j (v.length+1),NA v] H0 fun r H'=>∃ W' c,H'=H0.set ro (some ⟨106,1,Qz .u32 W'⟩)∧W'.length=W.length∧Lim W'∧W'.take j=W.take j∧W'.drop (j+(v.length+1))=W.drop (j+(v.length+1))∧lv B32 ((W'.drop j).take (v.length+1))+B32 ^ (v.length+1)*c=lv B32 ((W.drop j).take (v.length+1))+lv B32 v:=by
 have hrow:∀ Wi:List Nat,Qc (H0.set ro (some ⟨106,1,Qz .u32 Wi⟩)) ro=some ⟨106,1,Qz .u32 Wi⟩:=fun Wi=>Qj hr
 have hset:∀ (Wi:List Nat) (z:Option Row),(H0.set ro (some ⟨106,1,Qz .u32 Wi⟩)).set ro z=H0.set ro z:=fun Wi z=>List.set_set ..
 have h00:H0.set ro (some ⟨106,1,Qz .u32 W⟩)=H0:=List.set_getElem_self_of_row hr
 refine zL Qd Tryz.func310 w310 Tryz.ntmps310 Tryz.results310 ?_
 (refine zG ?_;(repeat' ((with_reducible apply zBr)<;>intro h<;>refine zG ?_))<;>try exact .intro)
 refine Qg (fun n ts H=>∃ (i:Nat) (c:Nat) (Wi:List Nat),(i≤v.length)∧(Bk j v W i Wi c)∧(n=v.length - i)∧(H=H0.set ro (some ⟨106,1,Qz .u32 Wi⟩))∧ts.length=36∧nth ts 0=.ref ro j (v.length+1)∧nth ts 1=NA v∧nth ts 4=.int .u32 (c:Nat)∧nth ts 7=NA v∧nth ts 8=.int .i64 (v.length:Nat)∧nth ts 9=.int .i64 (i:Nat)) ?_ (n:=v.length) ?_
 ·skip
  rintro n ts H ⟨i,c,Wi,hi,hT,hn,hH,hL,hs0,hs1,hs4,hs7,hs8,hs9⟩;refine Qv [(0,.ref ro j (v.length+1)),(1,NA v),(4,.int .u32 (c:Nat)),(7,NA v),(8,.int .i64 (v.length:Nat)),(9,.int .i64 (i:Nat))] hL (by simp only [zFm,hs0,hs1,hs4,hs7,hs8,hs9,true_and];exact zNm) ?_
  clear hL hs0 hs1 hs4 hs7 hs8 hs9 ts
  refine Qw Qd ?_;subst hH
  have g1:=hV.get i
  have hc:=hT.c
  have hlen:=hT.len
  have hrw:=hrow Wi
  have hwi:=hT.lim.get (j+i)
  (apply Zo;repeat' ((with_reducible first|apply Zk|apply zBr<;>intro h)<;>try simp -implicitDefEqProofs (maxSteps:=9^7) (disch:=first|exact zDs|fail) only [go_sem,hrw,hset]))
  ·refine Fc.pure (Qvy (Wi.getD (j+i) 0) (v.getD i 0) c hwi g1 hc) rfl (fun g=>rfl) ?_
   obtain ⟨p,hp⟩:∃ p,p=Wi.getD (j+i) 0+v.getD i 0+c:=⟨_,rfl⟩;rw [← hp]
   have hN:=hT.next (by omega) hW hV hp
   (apply Zo;repeat' ((with_reducible first|apply Zk|apply zBr<;>intro h)<;>try simp -implicitDefEqProofs (maxSteps:=9^7) (disch:=first|exact zDs|fail) only [go_sem,hrw,hset,Jr]))
   exact ⟨v.length - (i+1),by omega,i+1,_,_,by omega,hN,rfl,rfl,rfl,rfl⟩
  ·obtain rfl:i=v.length:=by omega
   obtain ⟨p,hp⟩:∃ p,p=Wi.getD (j+v.length) 0+c:=⟨_,rfl⟩
   have hs:((Wi.getD (j+v.length) 0:Nat):Int)+((c:Nat):Int)=((p:Nat):Int):=by rw [hp];exact (Int.natCast_add _ _).symm
   obtain ⟨j1,j2,j3,j4,j5⟩:=hT.last hW hp;refine ⟨_,_, ?_,j1,j2,j3,j4,j5⟩;rw [hs,Qj4,Jr]
 ·exact ⟨0,0,W,by omega,⟨rfl,hL,rfl,rfl,by simp [lv],by omega⟩,rfl,h00.symm,rfl,rfl,rfl,rfl,rfl,rfl,rfl⟩
def DA (l:List Nat):V:=.sl l.length (Qz .i64 l)
def DV (x:Nat):V:=DA (dg D10 x)
attribute [go_sem] DA DV
theorem Xm8 (l:List Nat):clo (DA l)=true:=by simp [DA,clo,Qp]
theorem Ye (x:Nat):clo (DV x)=true:=Xm8 _
abbrev OwnD (H:Qa) (v:V) (l:List Nat):Prop:=Bv.Own 3 1 H v l.length (Qz .i64 l)
theorem Own.gd {e s:Nat} {H:Qa} {v:V} {n:Nat} {cs:List V} (h:Bv.Own e s H v n cs) (hc:Qf cs=true) (hp:Xd cs=true):Gd H v (.sl n cs):=IsZ.gd (.inr h) hc hp
theorem OwnD.gd {H:Qa} {v:V} {l:List Nat} (h:OwnD H v l):Gd H v (DA l):=Own.gd h (Qp _ _) (Xq _ _)
theorem Qf7 {y:Ty} {e e' s':Nat} {k:IntKind} {v:V} {H:Qa} {l:List Nat} {x:Nat} {K:V→Qa→Prop} (h:Bv.Own e 1 H v l.length (Qz k l)) (hy:y.size=1) (hb:0<y.bytes∧y.bytes≤8) (hl:l.length+1≤2000000000000)
  (hK:∀ v' H',Bv.Own e 1 H' v' (l++[x]).length (Qz k (l++[x]))→Fr v H H'→K v' H'):Qaa y e v (.ref H.length 0 1) (H++[some ⟨e',s',[.int k (x:Nat)]⟩]) K :=
 Qxi h hy ⟨hb.1,by omega⟩ hl rfl (Qd4 _ _) fun v' H' h1 h2=>hK v' H' (by rw [Qjj,List.length_append];exact h1) h2
def TrimQ (v:V) (l:List Nat) (u:V):Prop:=(u=.nil∧Xw l=0)∨(u=.sl 0 []∧Xw l=0)∨∃ r,v=.ref r 0 l.length∧u=.ref r 0 (Xw l)
theorem TrimQ.gd {H:Qa} {v u:V} {l:List Nat} (hO:OwnD H v l) (h:TrimQ v l u):Gd H u (DA (l.take (Xw l))):=by
 have e:(l.take (Xw l)).length=Xw l:=by rw [List.length_take];have:=Qbm l;omega
 have e2:DA (l.take (Xw l))=.sl (Xw l) ((Qz .i64 l).take (Xw l)):=by rw [DA,e,Qiv]
 rcases h with ⟨rfl,h⟩ | ⟨rfl,h⟩ | ⟨r,rfl,rfl⟩
 ·rw [e2,h];exact .nil _
 ·rw [e2,h];exact .leaf _ rfl rfl
 ·rw [e2];rcases hO with ⟨h,_⟩ | ⟨q,h,h2,_⟩
  ·cases h
  ·injection h with h _ _;subst h
   exact .part _ _ _ _ _ _ h2 (Qp _ _) (Xq _ _)
theorem Qca {l:List Nat} (h:∀ x∈l,x<D10) {x:Nat} (hv:lv D10 l=x):DA (l.take (Xw l))=DV x:=by rw [DV,← hv,Qnq Qdj h]
theorem Qin {H0:Qa} {v:V} {l:List Nat} (hO:OwnD H0 v l) (hl:l.length≤2000000000000):Fc C 258 [v] H0 fun u H'=>H'=H0∧TrimQ v l u:=by
 rcases hO with ⟨rfl,h2,h3⟩ | ⟨r,rfl,hr,hlen⟩
 ·have:l=[]:=List.length_eq_zero_iff.1 h2
  subst this;refine zL Qd Tryz.func258 w258 Tryz.ntmps258 Tryz.results258 ?_
  (refine zG ?_;(repeat' ((with_reducible apply zBr)<;>intro h<;>refine zG ?_))<;>try exact .intro)
  refine Qg (fun n ts H=>(n=0)∧(H=H0)∧ts.length=21∧nth ts 0=.nil∧nth ts 3=.int .i64 0) ?_ (n:=0) ?_
  ·skip
   rintro n ts H ⟨hn,hH,hL,hs0,hs3⟩;refine Qv [(0,.nil),(3,.int .i64 0)] hL (by simp only [zFm,hs0,hs3,true_and];exact zNm) ?_
   clear hL hs0 hs3 ts
   refine Qw Qd ?_;subst hH
   (refine zG ?_;(repeat' ((with_reducible apply zBr)<;>intro h<;>refine zG ?_))<;>try exact .intro)
   exact .inl ⟨rfl,rfl⟩
  ·exact ⟨rfl,rfl,rfl,rfl,rfl⟩
 ·skip
  refine zL Qd Tryz.func258 w258 Tryz.ntmps258 Tryz.results258 ?_
  (apply Zo;repeat' ((with_reducible first|apply Zk|apply zBr<;>intro h)<;>try simp -implicitDefEqProofs (maxSteps:=9^7) (disch:=first|exact zDs|fail) only [go_sem,hr]))
  refine Qg (fun n ts H=>∃ (m:Nat),(m≤l.length)∧(Xw (l.take m)=Xw l)∧(n=m)∧(H=H0)∧ts.length=21∧nth ts 0=.ref r 0 l.length∧nth ts 3=.int .i64 (m:Nat)) ?_ (n:=l.length) ?_
  ·skip
   rintro n ts H ⟨m,hm,ht,hn,hH,hL,hs0,hs3⟩;refine Qv [(0,.ref r 0 l.length),(3,.int .i64 (m:Nat))] hL (by simp only [zFm,hs0,hs3,true_and];exact zNm) ?_
   clear hL hs0 hs3 ts
   refine Qw Qd ?_;subst hH
   (apply Zo;repeat' ((with_reducible first|apply Zk|apply zBr<;>intro h)<;>try simp -implicitDefEqProofs (maxSteps:=9^7) (disch:=first|exact zDs|fail) only [go_sem,hr]))
   ·obtain ⟨m,rfl⟩:∃ k,m=k+1:=⟨m - 1,by omega⟩
    rw [Qam (by omega)] at ht
    simp only [Nat.add_sub_cancel] at h;rw [if_pos (by omega)] at ht
    exact ⟨m,by omega,m,(by (repeat' apply And.intro)<;>(first | rfl | omega | (congr 1;omega) | assumption | (congr 1;assumption)))⟩
   ·obtain ⟨m,rfl⟩:∃ k,m=k+1:=⟨m - 1,by omega⟩
    rw [Qam (by omega)] at ht
    simp only [Nat.add_sub_cancel] at h;rw [if_neg (by omega)] at ht
    refine Qe6 (.inr ⟨r,rfl,hr,hlen⟩) (by simp [t3ok]) (by simp [t3size]) hm (fun h0=>by omega) (fun h0=>by omega) fun q h0 hv=>?_
    (refine zG ?_;(repeat' ((with_reducible apply zBr)<;>intro h<;>refine zG ?_))<;>try exact .intro)
    exact .inr (.inr ⟨q,hv,by rw [ht]⟩)
   ·obtain rfl:m=0:=by omega
    refine Qe6 (.inr ⟨r,rfl,hr,hlen⟩) (by simp [t3ok]) (by simp [t3size]) hm (fun h0 hv=>nomatch hv) (fun h0 hv=>?_) fun q h0 hv=>by omega
    (refine zG ?_;(repeat' ((with_reducible apply zBr)<;>intro h<;>refine zG ?_))<;>try exact .intro)
    exact .inr (.inl ⟨rfl,by rw [← ht];rfl⟩)
  ·exact ⟨l.length,Nat.le_refl _,by rw [List.take_length],rfl,rfl,rfl,rfl,rfl⟩
theorem Qgp (x:Nat) (hx:x<9223372036854775808):Val C 206 [.int .i64 (x:Nat)] (DV x):=by
 have hd0:Qr x≤16:=Qad (Nat.lt_of_lt_of_le hx (by decide))
 refine zK Qd Tryz.func206 w206 Tryz.ntmps206 Tryz.results206 ?_
 (refine zG ?_;(repeat' ((with_reducible apply zBr)<;>intro h<;>refine zG ?_))<;>try exact .intro)
 refine Qg (fun n ts H=>∃ (m:Nat) (l:List Nat) (u:V),(m<9223372036854775808)∧(dg D10 x=l++dg D10 m)∧(n=m)∧(OwnD H u l)∧ts.length=14∧nth ts 0=.int .i64 (m:Nat)∧nth ts 3=u) ?_ (n:=x) ?_
 ·skip
  rintro n ts H ⟨m,l,u,hm,hd,hn,hu,hL,hs0,hs3⟩;refine Qv [(0,.int .i64 (m:Nat)),(3,u)] hL (by simp only [zFm,hs0,hs3,true_and];exact zNm) ?_
  clear hL hs0 hs3 ts
  refine Qw Qd ?_
  have hlen:=congrArg List.length hd
  rw [List.length_append] at hlen
  have hlx:(dg D10 x).length=Qr x:=rfl
  have e1:((m:Int)%10000)=((m%D10:Nat):Int):=(Int.natCast_emod _ _).symm
  have e2:((m:Int)/10000)=((m/D10:Nat):Int):=(Int.natCast_ediv _ _).symm
  have e3:m/D10≤m:=Nat.div_le_self _ _
  (apply Zo;repeat' ((with_reducible first|apply Zk|apply zBr<;>intro h)<;>try simp -implicitDefEqProofs (maxSteps:=9^7) (disch:=first|exact zDs|fail) only [go_sem,e1,e2]))
  ·have hm0:0<m:=by omega
   refine Qf7 hu rfl ⟨by decide,by decide⟩ (by omega) fun v' H' hu' _=>?_
   (apply Zo;repeat' ((with_reducible first|apply Zk|apply zBr<;>intro h)<;>try simp -implicitDefEqProofs (maxSteps:=9^7) (disch:=first|exact zDs|fail) only [go_sem,e1,e2]))
   have hd':dg D10 x=(l++[m%D10])++dg D10 (m/D10):=by rw [List.append_assoc,hd,Qcs Qdj hm0];rfl
   have hlt:m/D10<n:=by rw [hn];exact Nat.div_lt_self hm0 (by decide)
   exact ⟨m/D10,hlt,m/D10,l++[m%D10],v',(by (repeat' apply And.intro)<;>(first | rfl | omega | (congr 1;omega) | assumption | (congr 1;assumption)))⟩
  ·obtain rfl:m=0:=by omega
   rw [Yh,List.append_nil] at hd;rw [DV,hd];exact (OwnD.gd hu).ret
 ·exact ⟨x,[],.nil,hx,rfl,rfl,.nil ..,rfl,rfl,rfl⟩
theorem Qew (x y:Nat) (hx:Qr x≤1000000000000) (hy:Qr y≤1000000000000):Pu C 113 [DV x,DV y] (.int .i64 (Qc0 x y)):=by
 have lx:(dg D10 x).length=Qr x:=rfl
 have ly:(dg D10 y).length=Qr y:=rfl
 have hlt:∀ {a b:Nat},Qr a<Qr b→a<b:=fun h=>Nat.lt_of_not_le fun h2=>by have:=Jd h2;omega
 refine zK Qd Tryz.func113 w113 Tryz.ntmps113 Tryz.results113 ?_
 (refine zG ?_;(repeat' ((with_reducible apply zBr)<;>intro h<;>refine zG ?_))<;>try exact .intro)
 ·have:=hlt (a:=x) (b:=y) (by omega)
  (refine Qh (by intro g;simp only [go_sem,ren,Qe]) ?_)
  simp [Qc0,this]
 ·have:=hlt (a:=y) (b:=x) (by omega)
  (refine Qh (by intro g;simp only [go_sem,ren,Qe]) ?_)
  simp [Qc0,this,Nat.not_lt.2 (Nat.le_of_lt this)]
 ·have hxy:Qr x=Qr y:=by omega
  refine Qg (fun n ts H=>∃ (i:Nat),(i≤Qr x)∧(x/D10 ^ i=y/D10 ^ i)∧(n=i)∧(H=[])∧ts.length=41∧nth ts 0=DV x∧nth ts 1=DV y∧nth ts 5=.int .i64 ((i:Int) - 1)) ?_ (n:=Qr x) ?_
  ·skip
   rintro n ts H ⟨i,hi,hI,hn,hH,hL,hs0,hs1,hs5⟩;refine Qv [(0,DV x),(1,DV y),(5,.int .i64 ((i:Int) - 1))] hL (by simp only [zFm,hs0,hs1,hs5,true_and];exact zNm) ?_
   clear hL hs0 hs1 hs5 ts
   refine Qw Qd ?_;subst hH
   (refine zG ?_;(repeat' ((with_reducible apply zBr)<;>intro h<;>refine zG ?_))<;>try exact .intro)
   all_goals first
    | (obtain ⟨j,rfl⟩:∃ j,i=j+1:=⟨i - 1,by omega⟩
       simp only [Nat.add_sub_cancel,Qg1 Qdj] at *
       have sx:=Qkc x j
       have sy:=Qkc y j
       rw [hI] at sx)
    | skip
   ·have:x<y:=Nat.lt_of_not_le fun hle=>by
     have:=Nat.div_le_div_right (c:=D10 ^ j) hle
     omega
    (refine Qh (by intro g;simp only [go_sem,ren,Qe]) ?_)
    simp [Qc0,this]
   ·have:y<x:=Nat.lt_of_not_le fun hle=>by
     have:=Nat.div_le_div_right (c:=D10 ^ j) hle
     omega
    (refine Qh (by intro g;simp only [go_sem,ren,Qe]) ?_)
    simp [Qc0,this,Nat.not_lt.2 (Nat.le_of_lt this)]
   ·have hI':x/D10 ^ j=y/D10 ^ j:=by omega
    exact ⟨j,by omega,j,(by (repeat' apply And.intro)<;>(first | rfl | omega | (congr 1;omega) | assumption | (congr 1;assumption)))⟩
   ·obtain rfl:i=0:=by omega
    simp only [Nat.pow_zero,Nat.div_one] at hI
    (refine Qh (by intro g;simp only [go_sem,ren,Qe]) ?_)
    rw [hI];simp [Qc0]
  ·exact ⟨Qr x,Nat.le_refl _,by rw [Nat.div_eq_of_lt (Qax x),Nat.div_eq_of_lt (Qai (by omega))],rfl,rfl,rfl,rfl,rfl,rfl⟩
theorem Qb8 (x i:Nat) (hx:Qr x≤1000000000000) (hi:i≤2000000000000):Pu C 262 [DV x,.int .i64 (i:Nat)] (.int .i64 (x/D10 ^ i%D10:Nat)):=by
 have lx:(dg D10 x).length=Qr x:=rfl
 refine zK Qd Tryz.func262 w262 Tryz.ntmps262 Tryz.results262 ?_
 (refine zG ?_;(repeat' ((with_reducible apply zBr)<;>intro h<;>refine zG ?_))<;>try exact .intro)
 ·skip
  (refine Qh (by intro g;simp only [go_sem,ren,Qe]) ?_)
  rw [Qg1 Qdj]
 ·skip
  (refine Qh (by intro g;simp only [go_sem,ren,Qe]) ?_)
  rw [Nat.div_eq_of_lt (Qai (by omega))];rfl
theorem Ql6 (x y:Nat) (hx:Qr x≤1000000000000) (hy:Qr y≤1000000000000):Val C 204 [DV x,DV y] (DV (x+y)):=by
 have lx:(dg D10 x).length=Qr x:=rfl
 have ly:(dg D10 y).length=Qr y:=rfl
 refine zK Qd Tryz.func204 w204 Tryz.ntmps204 Tryz.results204 ?_
 (refine zG ?_;(repeat' ((with_reducible apply zBr)<;>intro h<;>refine zG ?_))<;>try exact .intro)
 refine Qg (fun n ts H=>∃ (l:List Nat) (c:Nat) (u:V),(l.length≤1000000000001)∧(c≤1)∧(lv D10 l+D10 ^ l.length*c=x%D10 ^ l.length+y%D10 ^ l.length)∧((∀ d∈l,d<D10))∧((∀ k,l.length=k+1→D10 ^ k≤x+y))∧(l.length≤max (Qr x) (Qr y)∨c=0)∧(l.length≤max (Qr x) (Qr y)+1)∧(n=max (Qr x) (Qr y)+1 - l.length)∧(OwnD H u l)∧ts.length=42∧nth ts 0=DV x∧nth ts 1=DV y∧nth ts 5=u∧nth ts 6=.int .i64 (c:Nat)∧nth ts 7=.int .i64 (l.length:Nat)) ?_ (n:=max (Qr x) (Qr y)+1) ?_
 ·skip
  rintro n ts H ⟨l,c,u,hi,hc,hI,hdl,ht,hi2,hi3,hn,hu,hL,hs0,hs1,hs5,hs6,hs7⟩;refine Qv [(0,DV x),(1,DV y),(5,u),(6,.int .i64 (c:Nat)),(7,.int .i64 (l.length:Nat))] hL (by simp only [zFm,hs0,hs1,hs5,hs6,hs7,true_and];exact zNm) ?_
  clear hL hs0 hs1 hs5 hs6 hs7 ts
  refine Qw Qd ?_
  have step:(l.length<Qr x∨l.length<Qr y∨0<c)→∀ Q:Prop,(∀ d:Nat,d=x/D10 ^ l.length%D10+y/D10 ^ l.length%D10+c→d/D10≤1→lv D10 (l++[d%D10])+D10 ^ (l.length+1)*(d/D10)=x%D10 ^ (l.length+1)+y%D10 ^ (l.length+1)→D10 ^ l.length≤x+y→Q)→Q:=fun hcase Q hQ=>by
   refine hQ _ rfl ?_ ?_ ?_
   ·have h1:=Nat.mod_lt (x/D10 ^ l.length) (show 0<D10 by decide)
    have h2:=Nat.mod_lt (y/D10 ^ l.length) (show 0<D10 by decide)
    simp only [D10] at *;omega
   ·have:=Xj1 (d:=x/D10 ^ l.length%D10+y/D10 ^ l.length%D10+c) hI
    rw [Qff x,Qff y];simp only [Nat.mul_add] at this;omega
   ·rcases hcase with h | h | h
    ·have:=Qw9 h;omega
    ·have:=Qw9 h;omega
    ·have h1:=mod_le x l.length
     have h2:=mod_le y l.length
     have h3:=Nat.mul_le_mul_left (D10 ^ l.length) (show 1≤c from h)
     omega
  by_cases hcase:l.length<Qr x∨l.length<Qr y∨0<c
  ·refine step hcase _ fun d hd h1 h2 h3=>?_
   have a1:=Nat.mod_lt (x/D10 ^ l.length) (show 0<D10 by decide)
   have a2:=Nat.mod_lt (y/D10 ^ l.length) (show 0<D10 by decide)
   have hdle:d≤20000:=by simp only [D10] at *;omega
   have e0:((x/D10 ^ l.length%D10:Nat):Int)+((y/D10 ^ l.length%D10:Nat):Int)+(c:Int)=(d:Int):=by omega
   have q0:l.length+1≤max (Qr x) (Qr y)∨d/D10=0:=by
    by_cases hm:l.length+1≤max (Qr x) (Qr y)
    ·exact .inl hm
    ·right;rw [Nat.div_eq_of_lt (Qai (show Qr x≤l.length by omega)),Nat.div_eq_of_lt (Qai (show Qr y≤l.length by omega))] at hd
     simp only [D10] at *;omega
   have hs1:=Qb8 x l.length hx (by omega)
   have hs2:=Qb8 y l.length hy (by omega)
   generalize x/D10 ^ l.length%D10=dx at *;generalize y/D10 ^ l.length%D10=dy at *
   have e1:((d:Int)%10000)=((d%D10:Nat):Int):=(Int.natCast_emod _ _).symm
   have e2:((d:Int)/10000)=((d/D10:Nat):Int):=(Int.natCast_ediv _ _).symm
   have hdx:dx≤10000:=by rw [D10] at a1;omega
   have hdy:dy≤10000:=by rw [D10] at a2;omega
   have hgo:l.length<Qr x∨(¬ l.length<Qr x∧l.length<Qr y)∨(¬ l.length<Qr x∧¬ l.length<Qr y∧0<c):=by omega
   have q1:(l++[d%D10]).length=l.length+1:=by simp
   have q0':(l++[d%D10]).length≤max (Qr x) (Qr y)∨d/D10=0:=by rw [q1];exact q0
   have q2:lv D10 (l++[d%D10])+D10 ^ (l++[d%D10]).length*(d/D10)=x%D10 ^ (l++[d%D10]).length+y%D10 ^ (l++[d%D10]).length:=by rw [q1];exact h2
   have q3:=Qi1 hdl (Nat.mod_lt d (show 0<D10 by decide))
   have q4:∀ k,(l++[d%D10]).length=k+1→D10 ^ k≤x+y:=fun k hk=>by
    rw [q1] at hk;obtain rfl:l.length=k:=by omega
    exact h3
   rcases hgo with h | ⟨h,h'⟩ | ⟨h,h',h''⟩
   all_goals
    (refine zG ?_;(repeat' ((with_reducible apply zBr)<;>intro h<;>refine zG ?_))<;>try exact .intro)
    refine Fc.pure hs1 (by simp [Qf,clo,Qp,DA,DV]) (fun g=>rfl) ?_
    (refine zG ?_;(repeat' ((with_reducible apply zBr)<;>intro h<;>refine zG ?_))<;>try exact .intro)
    refine Fc.pure hs2 (by simp [Qf,clo,Qp,DA,DV]) (fun g=>rfl) ?_
    (apply Zo;repeat' ((with_reducible first|apply Zk|apply zBr<;>intro h)<;>try simp -implicitDefEqProofs (maxSteps:=9^7) (disch:=first|exact zDs|fail) only [go_sem,e0,e1,e2]))
    refine Qf7 hu rfl ⟨by decide,by decide⟩ (by omega) fun v' H' hu' _=>?_
    (apply Zo;repeat' ((with_reducible first|apply Zk|apply zBr<;>intro h)<;>try simp -implicitDefEqProofs (maxSteps:=9^7) (disch:=first|exact zDs|fail) only [go_sem,e0,e1,e2]))
    exact ⟨max (Qr x) (Qr y)+1 - (l.length+1),by omega,l++[d%D10],d/D10,v',(by (repeat' apply And.intro)<;>(first | rfl | omega | (congr 1;omega) | assumption | (congr 1;assumption)))⟩
  ·have hc0:c=0:=by omega
   subst hc0
   (refine zG ?_;(repeat' ((with_reducible apply zBr)<;>intro h<;>refine zG ?_))<;>try exact .intro)
   rw [Qfg (show Qr x≤l.length by omega),Qfg (show Qr y≤l.length by omega),Nat.mul_zero,Nat.add_zero] at hI
   rw [DV,← Xi9 hdl hI ht];exact (OwnD.gd hu).ret
 ·exact ⟨[],0,.nil,by simp,by omega,by simp [lv,Nat.mod_one],fun d hd=>(nomatch hd),fun k hk=>(nomatch hk),by simp,by simp,by simp,.nil ..,rfl,rfl,rfl,rfl,rfl,rfl⟩
end Go.Proofs.YtepjcbnpbcmfcaaGreat
end
section
namespace Go.Proofs.YtepjcbnpbcmfcaaGreat
open Go.Bv
theorem Qzp {i z:Nat} (h:D10 ^ i≤z):i<Qr z:=Nat.lt_of_not_le fun hle=>by
 have:=Qai hle
 omega
theorem Qtd (x y:Nat) (hx:Qr x≤1000000000000) (hyx:y≤x):Val C 261 [DV x,DV y] (.tup [DV (x - y),.bool true]):=by
 have lx:(dg D10 x).length=Qr x:=rfl
 have ly:Qr y≤Qr x:=Jd hyx
 have hc:¬ Qc0 x y<0:=by unfold Qc0;split<;>(try split)<;>omega
 refine zK Qd Tryz.func261 w261 Tryz.ntmps261 Tryz.results261 ?_
 (refine zG ?_;(repeat' ((with_reducible apply zBr)<;>intro h<;>refine zG ?_))<;>try exact .intro)
 refine Fc.pure (Qew x y hx (by omega)) (by simp [Qf,clo,Qp]) (fun g=>rfl) ?_
 (refine zG ?_;(repeat' ((with_reducible apply zBr)<;>intro h<;>refine zG ?_))<;>try exact .intro)
 refine Qg (fun n ts H=>∃ (l:List Nat) (b:Nat) (u:V),(l.length≤Qr x)∧(b≤1)∧(lv D10 l+y%D10 ^ l.length=x%D10 ^ l.length+D10 ^ l.length*b)∧((∀ d∈l,d<D10))∧(n=Qr x - l.length)∧(OwnD H u l)∧ts.length=40∧nth ts 0=DV x∧nth ts 1=DV y∧nth ts 6=u∧nth ts 7=.int .i64 (b:Nat)∧nth ts 8=.int .i64 (l.length:Nat)) ?_ (n:=Qr x) ?_
 ·skip
  rintro n ts H ⟨l,b,u,hi,hb,hI,hdl,hn,hu,hL,hs0,hs1,hs6,hs7,hs8⟩;refine Qv [(0,DV x),(1,DV y),(6,u),(7,.int .i64 (b:Nat)),(8,.int .i64 (l.length:Nat))] hL (by simp only [zFm,hs0,hs1,hs6,hs7,hs8,true_and];exact zNm) ?_
  clear hL hs0 hs1 hs6 hs7 hs8 ts
  refine Qw Qd ?_;by_cases hcase:l.length<Qr x
  ·have a1:=Nat.mod_lt (x/D10 ^ l.length) (show 0<D10 by decide)
   have a2:=Nat.mod_lt (y/D10 ^ l.length) (show 0<D10 by decide)
   have sx:=Qff x l.length
   have sy:=Qff y l.length
   have hs:=Qb8 y l.length (by omega) (by omega)
   have hgx:=Qg1 Qdj x l.length
   obtain ⟨dx,hdx⟩:∃ d,d=x/D10 ^ l.length%D10:=⟨_,rfl⟩;obtain ⟨dy,hdy⟩:∃ d,d=y/D10 ^ l.length%D10:=⟨_,rfl⟩;rw [← hdx] at a1 sx hgx;rw [← hdy] at a2 sy hs
   have b1:dx<10000:=a1
   have b2:dy<10000:=a2
   (apply Zo;repeat' ((with_reducible first|apply Zk|apply zBr<;>intro h)<;>try simp -implicitDefEqProofs (maxSteps:=9^7) (disch:=first|exact zDs|fail) only [go_sem,hgx]))
   refine Pc.pure hs (by simp [Qf,clo,Qp]) (fun g=>rfl) ?_
   (apply Zo;repeat' ((with_reducible first|apply Zk|apply zBr<;>intro h)<;>try simp -implicitDefEqProofs (maxSteps:=9^7) (disch:=first|exact zDs|fail) only [go_sem,hgx]))
   all_goals
    obtain ⟨e,he⟩:∃ e:Nat,e=(dx+10000 - dy - b)%10000:=⟨_,rfl⟩;obtain ⟨b',hb'⟩:∃ b':Nat,b'=if dx<dy+b then 1 else 0:=⟨_,rfl⟩
    have q1:(l++[e]).length=l.length+1:=by simp
    have q3:∀ d∈l++[e],d<D10:=Qi1 hdl (by rw [he];exact Nat.mod_lt _ (by decide))
    have q4:b'≤1:=by rw [hb'];split<;>omega
    have q2:lv D10 (l++[e])+y%D10 ^ (l++[e]).length=x%D10 ^ (l++[e]).length+D10 ^ (l++[e]).length*b':=by
     rw [q1,Jz,sx,sy,Nat.pow_succ,Nat.mul_assoc]
     have e1:e+dy+b=dx+D10*b':=by rw [he,hb',D10];split<;>omega
     have e2:D10 ^ l.length*e+D10 ^ l.length*dy+D10 ^ l.length*b=D10 ^ l.length*dx+D10 ^ l.length*(D10*b'):=by
      rw [← Nat.mul_add,← Nat.mul_add,← Nat.mul_add,e1]
     omega
   ·have ee:((dx:Int) - (dy:Int) - (b:Int)+10000)=(e:Int):=by rw [he];omega
    have eb:b'=1:=by rw [hb',if_pos (by omega)]
    (apply Zo;repeat' ((with_reducible first|apply Zk|apply zBr<;>intro h)<;>try simp -implicitDefEqProofs (maxSteps:=9^7) (disch:=first|exact zDs|fail) only [go_sem,ee]))
    refine Qf7 hu rfl ⟨by decide,by decide⟩ (by omega) fun v' H' hu' _=>?_
    (refine zG ?_;(repeat' ((with_reducible apply zBr)<;>intro h<;>refine zG ?_))<;>try exact .intro)
    exact ⟨Qr x - (l.length+1),by omega,l++[e],b',v',(by (repeat' apply And.intro)<;>(first | rfl | omega | (congr 1;omega) | assumption | (congr 1;assumption)))⟩
   ·have ee:((dx:Int) - (dy:Int) - (b:Int))=(e:Int):=by rw [he];omega
    have eb:b'=0:=by rw [hb',if_neg (by omega)]
    (apply Zo;repeat' ((with_reducible first|apply Zk|apply zBr<;>intro h)<;>try simp -implicitDefEqProofs (maxSteps:=9^7) (disch:=first|exact zDs|fail) only [go_sem,ee]))
    refine Qf7 hu rfl ⟨by decide,by decide⟩ (by omega) fun v' H' hu' _=>?_
    (refine zG ?_;(repeat' ((with_reducible apply zBr)<;>intro h<;>refine zG ?_))<;>try exact .intro)
    exact ⟨Qr x - (l.length+1),by omega,l++[e],b',v',(by (repeat' apply And.intro)<;>(first | rfl | omega | (congr 1;omega) | assumption | (congr 1;assumption)))⟩
  ·skip
   (refine zG ?_;(repeat' ((with_reducible apply zBr)<;>intro h<;>refine zG ?_))<;>try exact .intro)
   rw [Qfg (show Qr x≤l.length by omega),Qfg (show Qr y≤l.length by omega)] at hI
   have hlt:=Qgg hdl
   have hv:lv D10 l=x - y:=by
    have:b=0:=by
     rcases Nat.eq_zero_or_pos b with h | h
     ·exact h
     ·have:=Nat.mul_le_mul_left (D10 ^ l.length) h
      omega
    subst this;rw [Nat.mul_zero] at hI;omega
   refine (Qin hu (by omega)).mono ?_
   rintro u' H' ⟨rfl,hq⟩
   (refine zG ?_;(repeat' ((with_reducible apply zBr)<;>intro h<;>refine zG ?_))<;>try exact .intro)
   refine Gd.ret (Gd.tupL ⟨?_,.leaf _ rfl rfl,trivial⟩);rw [← Qca hdl hv];exact hq.gd hu
 ·exact ⟨[],0,.nil,by simp,by omega,by simp [lv,Nat.mod_one],fun d hd=>(nomatch hd),by simp,.nil ..,rfl,rfl,rfl,rfl,rfl,rfl⟩
theorem Qb3 (x d:Nat) (hx:Qr x≤1000000000000) (hd:d≤4294967296):Val C 205 [DV x,.int .i64 (d:Nat)] (DV (x*d)):=by
 have lx:(dg D10 x).length=Qr x:=rfl
 have hld:Qr d≤8:=Qad (Nat.lt_of_le_of_lt hd (by decide))
 have hlm:=Qfp x d
 refine zK Qd Tryz.func205 w205 Tryz.ntmps205 Tryz.results205 ?_
 (refine zG ?_;(repeat' ((with_reducible apply zBr)<;>intro h<;>refine zG ?_))<;>try exact .intro)
 refine Qg (fun n ts H=>∃ (l:List Nat) (c:Nat) (u:V),(l.length≤Qr x+20)∧(c≤d)∧(lv D10 l+D10 ^ l.length*c=(x%D10 ^ l.length)*d)∧((∀ d∈l,d<D10))∧(n=Qr x+20 - l.length)∧(OwnD H u l)∧ts.length=35∧nth ts 0=DV x∧nth ts 1=.int .i64 (d:Nat)∧nth ts 5=u∧nth ts 6=.int .i64 (c:Nat)∧nth ts 7=.int .i64 (l.length:Nat)) ?_ (n:=Qr x+20) ?_
 ·skip
  rintro n ts H ⟨l,c,u,hi,hc,hI,hdl,hn,hu,hL,hs0,hs1,hs5,hs6,hs7⟩;refine Qv [(0,DV x),(1,.int .i64 (d:Nat)),(5,u),(6,.int .i64 (c:Nat)),(7,.int .i64 (l.length:Nat))] hL (by simp only [zFm,hs0,hs1,hs5,hs6,hs7,true_and];exact zNm) ?_
  clear hL hs0 hs1 hs5 hs6 hs7 ts
  refine Qw Qd ?_;by_cases hcase:l.length<Qr x∨0<c
  ·have hli:l.length<Qr x+8:=by
    rcases hcase with h | h
    ·omega
    ·have h1:=Nat.mul_le_mul_right d (mod_le x l.length)
     have h3:=Nat.mul_le_mul_left (D10 ^ l.length) (show 1≤c from h)
     have:=Qzp (i:=l.length) (z:=x*d) (by omega)
     omega
   have a1:=Nat.mod_lt (x/D10 ^ l.length) (show 0<D10 by decide)
   have sx:=Qff x l.length
   have hs:=Qb8 x l.length hx (by omega)
   have hz:¬ l.length<Qr x→x/D10 ^ l.length%D10=0:=fun h=>by rw [Nat.div_eq_of_lt (Qai (by omega))];rfl
   obtain ⟨dx,hdx⟩:∃ d,d=x/D10 ^ l.length%D10:=⟨_,rfl⟩;rw [← hdx] at a1 sx hs hz
   have b1:dx<10000:=a1
   obtain ⟨z,hzz⟩:∃ z,z=dx*d+c:=⟨_,rfl⟩
   have hm:dx*d≤9999*d:=Nat.mul_le_mul_right d (by omega)
   have e0:((dx:Int)*(d:Int))=((dx*d:Nat):Int):=(Int.natCast_mul _ _).symm
   have e3:((dx*d:Nat):Int)+(c:Int)=(z:Int):=by rw [hzz];exact (Int.natCast_add _ _).symm
   have e1:((z:Int)%10000)=((z%D10:Nat):Int):=(Int.natCast_emod _ _).symm
   have e2:((z:Int)/10000)=((z/D10:Nat):Int):=(Int.natCast_ediv _ _).symm
   have hzl:z≤10000*d:=by omega
   have q0:z/D10≤d:=by rw [D10];omega
   have hI2:lv D10 (l++[z%D10])+D10 ^ (l.length+1)*(z/D10)=(x%D10 ^ (l.length+1))*d:=by
    have:=Xj1 (d:=z) hI
    rw [sx,Nat.add_mul]
    have e4:D10 ^ l.length*z=D10 ^ l.length*dx*d+D10 ^ l.length*c:=by rw [hzz,Nat.mul_add,Nat.mul_assoc]
    omega
   generalize dx*d=dxd at *
   have q1:(l++[z%D10]).length=l.length+1:=by simp
   have q3:∀ e∈l++[z%D10],e<D10:=Qi1 hdl (Nat.mod_lt _ (by decide))
   have q2:lv D10 (l++[z%D10])+D10 ^ (l++[z%D10]).length*(z/D10)=(x%D10 ^ (l++[z%D10]).length)*d:=by rw [q1];exact hI2
   have hgo:l.length<Qr x∨(¬ l.length<Qr x∧0<c):=by omega
   rcases hgo with h | ⟨h,h'⟩
   all_goals
    (refine zG ?_;(repeat' ((with_reducible apply zBr)<;>intro h<;>refine zG ?_))<;>try exact .intro)
    refine Fc.pure hs (by simp [Qf,clo,Qp]) (fun g=>rfl) ?_
    (apply Zo;repeat' ((with_reducible first|apply Zk|apply zBr<;>intro h)<;>try simp -implicitDefEqProofs (maxSteps:=9^7) (disch:=first|exact zDs|fail) only [go_sem,e0,e1,e2,e3]))
    refine Qf7 hu rfl ⟨by decide,by decide⟩ (by omega) fun v' H' hu' _=>?_
    (apply Zo;repeat' ((with_reducible first|apply Zk|apply zBr<;>intro h)<;>try simp -implicitDefEqProofs (maxSteps:=9^7) (disch:=first|exact zDs|fail) only [go_sem,e1,e2,e3]))
    exact ⟨Qr x+20 - (l.length+1),by omega,l++[z%D10],z/D10,v',(by (repeat' apply And.intro)<;>(first | rfl | omega | (congr 1;omega) | assumption | (congr 1;assumption)))⟩
  ·have hc0:c=0:=by omega
   subst hc0
   (refine zG ?_;(repeat' ((with_reducible apply zBr)<;>intro h<;>refine zG ?_))<;>try exact .intro)
   rw [Qfg (show Qr x≤l.length by omega),Nat.mul_zero,Nat.add_zero] at hI
   refine (Qin hu (by omega)).mono ?_
   rintro u' H' ⟨rfl,hq⟩
   (refine zG ?_;(repeat' ((with_reducible apply zBr)<;>intro h<;>refine zG ?_))<;>try exact .intro)
   refine Gd.ret ?_;rw [← Qca hdl hI];exact hq.gd hu
 ·exact ⟨[],0,.nil,by simp,by omega,by simp [lv,Nat.mod_one],fun d hd=>(nomatch hd),by simp,.nil ..,rfl,rfl,rfl,rfl,rfl,rfl⟩
theorem Qhg (x d:Nat) (hx:Qr x≤1000000000000) (hd:d≤4294967296) (hd0:0<d):Val C 201 [DV x,.int .i64 (d:Nat)] (.tup [DV (x/d),.int .i64 (x%d:Nat)]):=by
 have lx:(dg D10 x).length=Qr x:=rfl
 refine zK Qd Tryz.func201 w201 Tryz.ntmps201 Tryz.results201 ?_
 (refine zG ?_;(repeat' ((with_reducible apply zBr)<;>intro h<;>refine zG ?_))<;>try exact .intro)
 refine Qhx rfl rfl rfl rfl (by simp [t3bytes]) (by omega) ?_
 (refine zG ?_;(repeat' ((with_reducible apply zBr)<;>intro h<;>refine zG ?_))<;>try exact .intro)
 refine Qg (fun n ts H=>∃ (m:Nat) (r:Nat) (Q:List Nat),(m≤Qr x)∧(Q.length=Qr x)∧((∀ e∈Q,e<D10))∧(r<d)∧(lv D10 (Q.drop m)*d+r=x/D10 ^ m)∧(n=m)∧(H=[some ⟨3,1,Qz .i64 Q⟩])∧ts.length=39∧nth ts 0=DV x∧nth ts 1=.int .i64 (d:Nat)∧nth ts 6=.ref 0 0 (Qr x)∧nth ts 7=.int .i64 (r:Nat)∧nth ts 8=.int .i64 ((m:Int) - 1)) ?_ (n:=Qr x) ?_
 ·skip
  rintro n ts H ⟨m,r,Q,hm,hQl,hQ,hr,hinv,hn,hH,hL,hs0,hs1,hs6,hs7,hs8⟩;refine Qv [(0,DV x),(1,.int .i64 (d:Nat)),(6,.ref 0 0 (Qr x)),(7,.int .i64 (r:Nat)),(8,.int .i64 ((m:Int) - 1))] hL (by simp only [zFm,hs0,hs1,hs6,hs7,hs8,true_and];exact zNm) ?_
  clear hL hs0 hs1 hs6 hs7 hs8 ts
  refine Qw Qd ?_;subst hH;by_cases hcase:0<m
  ·obtain ⟨k,rfl⟩:∃ k,m=k+1:=⟨m - 1,by omega⟩
   have sx:=Qkc x k
   have a1:=Nat.mod_lt (x/D10 ^ k) (show 0<D10 by decide)
   have hgx:=Qg1 Qdj x k
   obtain ⟨dx,hdx⟩:∃ e,e=x/D10 ^ k%D10:=⟨_,rfl⟩;rw [← hdx] at a1 sx hgx
   have b1:dx<10000:=a1
   obtain ⟨z,hz⟩:∃ z,z=r*10000+dx:=⟨_,rfl⟩
   have e0:((r:Int)*10000+(dx:Int))=(z:Int):=by rw [hz];omega
   have e1:((z:Int)/(d:Int))=((z/d:Nat):Int):=(Int.natCast_ediv _ _).symm
   have e2:((z:Int)%(d:Int))=((z%d:Nat):Int):=(Int.natCast_emod _ _).symm
   have hq:z/d<10000:=by
    rw [Nat.div_lt_iff_lt_mul hd0,hz]
    have:=Nat.mul_le_mul_right 10000 (show r+1≤d from hr)
    rw [Nat.add_mul] at this;omega
   have hs:=Nat.mod_lt z hd0
   have hdm:=Nat.div_add_mod z d
   have hkk:((k+1:Nat):Int) - 1=(k:Int):=by omega
   have q1:(Q.set k (z/d)).length=Qr x:=by rw [List.length_set];exact hQl
   have q2:∀ e∈Q.set k (z/d),e<D10:=fun e he=>by
    rcases List.mem_or_eq_of_mem_set he with h1 | h1
    ·exact hQ e h1
    ·rw [h1];exact hq
   have q3:lv D10 ((Q.set k (z/d)).drop k)*d+z%d=x/D10 ^ k:=by
    rw [Qbo (l:=Q.set _ _) (by rw [List.length_set];omega),Qdq (by omega),Jk (by omega),sx,← hinv]
    generalize lv D10 (Q.drop (k+1))=w at *;generalize z/d=q at *;generalize z%d=s at *;rw [Nat.add_mul,Nat.mul_comm q d]
    have:D10*(w*d+r)=D10*w*d+D10*r:=by rw [Nat.mul_add,Nat.mul_assoc]
    rw [this]
    have:D10*r=r*10000:=Nat.mul_comm _ _
    omega
   generalize z/d=q at *;generalize z%d=s at *
   (apply Zo;repeat' ((with_reducible first|apply Zk|apply zBr<;>intro h)<;>try simp -implicitDefEqProofs (maxSteps:=9^7) (disch:=first|exact zDs|fail) only [go_sem,hkk,hgx,e0,e1,e2,Jr]))
   exact ⟨k,by omega,k,s,Q.set k q,(by (repeat' apply And.intro)<;>(first | rfl | omega | (congr 1;omega) | assumption | (congr 1;assumption)))⟩
  ·obtain rfl:m=0:=by omega
   (refine zG ?_;(repeat' ((with_reducible apply zBr)<;>intro h<;>refine zG ?_))<;>try exact .intro)
   simp only [List.drop_zero,Nat.pow_zero,Nat.div_one] at hinv
   have hqv:lv D10 Q=x/d:=by rw [← hinv,Nat.mul_comm,Nat.mul_add_div hd0,Nat.div_eq_of_lt hr,Nat.add_zero]
   have hrv:x%d=r:=by rw [← hinv,Nat.mul_comm,Nat.mul_add_mod,Nat.mod_eq_of_lt hr]
   have hu:OwnD [some ⟨3,1,Qz .i64 Q⟩] (.ref 0 0 (Qr x)) Q:=.inr ⟨0,by rw [hQl],rfl,by simp [Yb]⟩
   refine (Qin hu (by omega)).mono ?_
   rintro u' H' ⟨rfl,hq⟩
   (refine zG ?_;(repeat' ((with_reducible apply zBr)<;>intro h<;>refine zG ?_))<;>try exact .intro)
   refine Gd.ret (Gd.tupL ⟨?_,by rw [hrv];exact .leaf _ rfl rfl,trivial⟩)
   rw [← Qca hQ hqv];rw [← hQl] at hq hu;exact hq.gd hu
 ·refine ⟨Qr x,0,List.replicate (Qr x) 0,Nat.le_refl _,by simp,fun x hx=>by simp at hx;rw [hx.2];decide,hd0,by rw [Nat.div_eq_of_lt (Qax x)];simp [lv],rfl,rfl,rfl,rfl,rfl,rfl,rfl,rfl⟩
theorem Xjw (x:Nat):∃ v H,Gd H v (DV x)∧Jb H:=Gd.some_sl (Qp _ _) (Xq _ _)
theorem Xjk (z:Nat):z*65536*65536=B32*z:=by rw [Nat.mul_assoc,Nat.mul_comm z];rfl
theorem Qm9 (a:List Nat) (ha:a.length≤100000000000) (hA:Lim a):Val C 107 [NA a] (DV (lv B32 a)):=by
 refine zK Qd Tryz.func107 w107 Tryz.ntmps107 Tryz.results107 ?_
 (refine zG ?_;(repeat' ((with_reducible apply zBr)<;>intro h<;>refine zG ?_))<;>try exact .intro)
 refine Qg (fun n ts H=>∃ (m:Nat) (o:V),(m≤a.length)∧(Gd H o (DV (lv B32 (a.drop m))))∧(n=m)∧ts.length=23∧nth ts 0=NA a∧nth ts 3=o∧nth ts 4=.int .i64 ((m:Int) - 1)) ?_ (n:=a.length) ?_
 ·skip
  rintro n ts H ⟨m,o,hm,hG,hn,hL,hs0,hs3,hs4⟩;refine Qv [(0,NA a),(3,o),(4,.int .i64 ((m:Int) - 1))] hL (by simp only [zFm,hs0,hs3,hs4,true_and];exact zNm) ?_
  clear hL hs0 hs3 hs4 ts
  refine Qw Qd ?_;by_cases hcase:0<m
  ·obtain ⟨k,rfl⟩:∃ k,m=k+1:=⟨m - 1,by omega⟩
   have hkk:((k+1:Nat):Int) - 1=(k:Int):=by omega
   have hL2:Lim (a.drop (k+1)):=fun x hx=>hA x (List.mem_of_mem_drop hx)
   have hz:Qr (lv B32 (a.drop (k+1)))≤3*a.length:=by
    have h1:=Qgz (Qgg hL2)
    rw [List.length_drop] at h1;exact Nat.le_trans h1 (by omega)
   have hd:=Qbo (b:=B32) (l:=a) (i:=k) (by omega)
   have hg:=hA.get k
   generalize lv B32 (a.drop (k+1))=z at *
   have hs:=Qad (x:=a.getD k 0) (k:=3) (Nat.lt_of_lt_of_le hg (by decide))
   have h65:Qr 65536≤2:=Qad (by decide)
   have t1:=Qb3 z 65536 (by omega) (by omega)
   obtain ⟨z1,f1⟩:∃ z1,z1=z*65536:=⟨_,rfl⟩
   have hz1:Qr z1≤Qr z+2:=by rw [f1];exact Nat.le_trans (Qfp _ _) (Nat.add_le_add_left h65 _)
   rw [← f1] at t1
   have t2:=Qb3 z1 65536 (by clear f1 t1;omega) (by clear f1 t1;omega)
   obtain ⟨z2,f2⟩:∃ z2,z2=z1*65536:=⟨_,rfl⟩
   have hz2:Qr z2≤Qr z1+2:=by rw [f2];exact Nat.le_trans (Qfp _ _) (Nat.add_le_add_left h65 _)
   rw [← f2] at t2
   have f3:z2=B32*z:=by rw [f2,f1,Xjk]
   clear f1 f2 h65
   (apply Zo;repeat' ((with_reducible first|apply Zk|apply zBr<;>intro h)<;>try simp -implicitDefEqProofs (maxSteps:=9^7) (disch:=first|exact zDs|fail) only [go_sem,hkk]))
   refine t1.pc ⟨hG.bor,.self rfl,trivial⟩ (Ye _) ?_
   (apply Zo;repeat' ((with_reducible first|apply Zk|apply zBr<;>intro h)<;>try simp -implicitDefEqProofs (maxSteps:=9^7) (disch:=first|exact zDs|fail) only [go_sem,hkk]))
   refine t2.pc ⟨.self (Ye _),.self rfl,trivial⟩ (Ye _) ?_
   (apply Zo;repeat' ((with_reducible first|apply Zk|apply zBr<;>intro h)<;>try simp -implicitDefEqProofs (maxSteps:=9^7) (disch:=first|exact zDs|fail) only [go_sem,hkk]))
   refine (Qgp (a.getD k 0) (by omega)).pc ⟨.self rfl,trivial⟩ (Ye _) ?_
   (apply Zo;repeat' ((with_reducible first|apply Zk|apply zBr<;>intro h)<;>try simp -implicitDefEqProofs (maxSteps:=9^7) (disch:=first|exact zDs|fail) only [go_sem,hkk]))
   refine Pc.kept (Ql6 z2 (a.getD k 0) (by omega) (by omega)) (Xjw _) ⟨.self (Ye _),.self (Ye _),trivial⟩ fun v X hv=>?_
   (apply Zo;repeat' ((with_reducible first|apply Zk|apply zBr<;>intro h)<;>try simp -implicitDefEqProofs (maxSteps:=9^7) (disch:=first|exact zDs|fail) only [go_sem,hkk]))
   have e:z2+a.getD k 0=lv B32 (a.drop k):=by rw [hd,f3,Nat.add_comm]
   rw [e] at hv;exact ⟨k,by omega,k,v,(by (repeat' apply And.intro)<;>(first | rfl | omega | (congr 1;omega) | assumption | (congr 1;assumption)))⟩
  ·obtain rfl:m=0:=by omega
   (refine zG ?_;(repeat' ((with_reducible apply zBr)<;>intro h<;>refine zG ?_))<;>try exact .intro)
   rw [List.drop_zero] at hG;exact Gd.ret hG
 ·exact ⟨a.length,.nil,Nat.le_refl _,by rw [List.drop_length,show lv B32 []=0 from rfl,DV,Yh];exact .nil _,rfl,rfl,rfl,rfl,rfl⟩
theorem Qld (x:Nat) (hx:Qr x≤100000000000):Val C 207 [DV x] (Xy x):=by
 have hlx:=Qgu x
 refine zK Qd Tryz.func207 w207 Tryz.ntmps207 Tryz.results207 ?_
 (refine zG ?_;(repeat' ((with_reducible apply zBr)<;>intro h<;>refine zG ?_))<;>try exact .intro)
 refine Qg (fun n ts H=>∃ (z:Nat) (l:List Nat) (u:V),(z≤x)∧(dg B32 x=l++dg B32 z)∧(n=z)∧(Bv.Own 106 1 H u l.length (Qz .u32 l))∧ts.length=32∧nth ts 0=DV z∧nth ts 3=u) ?_ (n:=x) ?_
 ·skip
  rintro n ts H ⟨z,l,u,hz,hd,hn,hu,hL,hs0,hs3⟩;refine Qv [(0,DV z),(3,u)] hL (by simp only [zFm,hs0,hs3,true_and];exact zNm) ?_
  clear hL hs0 hs3 ts
  refine Qw Qd ?_
  have lz:(dg D10 z).length=Qr z:=rfl
  have hz1:=Jd hz
  have hz2:=Jd (show z/65536≤z from Nat.div_le_self _ _)
  have hlen:=congrArg List.length hd
  rw [List.length_append] at hlen
  have hlx':(dg B32 x).length≤Qr x:=hlx
  by_cases hcase:0<z
  ·have hz0:Qr z≠0:=fun h=>by have:=dlen_zero.1 h;omega
   (refine zG ?_;(repeat' ((with_reducible apply zBr)<;>intro h<;>refine zG ?_))<;>try exact .intro)
   refine (Qhg z 65536 (by omega) (by decide) (by decide)).call ⟨.self (Ye _),.self rfl,trivial⟩ (by simp [clo,Qf,Ye]) ?_
   (refine zG ?_;(repeat' ((with_reducible apply zBr)<;>intro h<;>refine zG ?_))<;>try exact .intro)
   refine (Qhg (z/65536) 65536 (by omega) (by decide) (by decide)).call ⟨.self (Ye _),.self rfl,trivial⟩ (by simp [clo,Qf,Ye]) ?_
   have b1:=Nat.mod_lt z (show 0<65536 by decide)
   have b2:=Nat.mod_lt (z/65536) (show 0<65536 by decide)
   have e1:z/65536/65536=z/B32:=by rw [Nat.div_div_eq_div_mul];rfl
   have e2:z/65536%65536*65536+z%65536=z%B32:=by
    rw [show B32=65536*65536 from rfl,Nat.mod_mul];omega
   have hlt:z/B32<z:=Nat.div_lt_self hcase (by decide)
   have hdd:dg B32 x=(l++[z%B32])++dg B32 (z/B32):=by rw [List.append_assoc,hd,Qcs (by decide) hcase];rfl
   rw [e1];generalize z/65536%65536=y1 at *;generalize z%65536=y0 at *;generalize z/B32=z' at *;obtain ⟨w,hw⟩:∃ w,w=z%B32:=⟨_,rfl⟩;rw [← hw] at hdd e2
   have e3:((y1:Int)*65536+(y0:Int))=(w:Int):=by omega
   (apply Zo;repeat' ((with_reducible first|apply Zk|apply zBr<;>intro h)<;>try simp -implicitDefEqProofs (maxSteps:=9^7) (disch:=first|exact zDs|fail) only [go_sem,e3]))
   refine Qf7 hu rfl ⟨by decide,by decide⟩ (by omega) fun v' H' hu' _=>?_
   (apply Zo;repeat' ((with_reducible first|apply Zk|apply zBr<;>intro h)<;>try simp -implicitDefEqProofs (maxSteps:=9^7) (disch:=first|exact zDs|fail) only [go_sem,e3]))
   exact ⟨z',by omega,z',l++[w],v',(by (repeat' apply And.intro)<;>(first | rfl | omega | (congr 1;omega) | assumption | (congr 1;assumption)))⟩
  ·obtain rfl:z=0:=by omega
   have hz0:Qr 0=0:=dlen_zero.2 rfl
   rw [Yh,List.append_nil] at hd
   (refine zG ?_;(repeat' ((with_reducible apply zBr)<;>intro h<;>refine zG ?_))<;>try exact .intro)
   rw [Xy,hd];exact (Own.gd hu (Qp _ _) (Xq _ _)).ret
 ·exact ⟨x,[],.nil,Nat.le_refl _,rfl,rfl,.nil ..,rfl,rfl,rfl⟩
theorem Qk2 (l:List Nat) (hl:l.length≤1000000000000):Val C 196 [NA l] (NA l):=by
 refine zK Qd Tryz.func196 w196 Tryz.ntmps196 Tryz.results196 ?_
 (refine zG ?_;(repeat' ((with_reducible apply zBr)<;>intro h<;>refine zG ?_))<;>try exact .intro)
 exact Gd.ret (.flat 0 _ _ _ _ rfl (Qp _ _) (Xq _ _))
theorem Qjd {H0:Qa} {v:V} {l:List Nat} (hO:OwnD H0 v l) (hl:l.length≤2000000000000):Fc C 259 [v] H0 fun u H'=>H'=H0∧TrimQ v l u:=by
 rcases hO with ⟨rfl,h2,h3⟩ | ⟨r,rfl,hr,hlen⟩
 ·have:l=[]:=List.length_eq_zero_iff.1 h2
  subst this;refine zL Qd Tryz.func259 w259 Tryz.ntmps259 Tryz.results259 ?_
  (refine zG ?_;(repeat' ((with_reducible apply zBr)<;>intro h<;>refine zG ?_))<;>try exact .intro)
  refine Qg (fun n ts H=>(n=0)∧(H=H0)∧ts.length=21∧nth ts 0=.nil∧nth ts 3=.int .i64 0) ?_ (n:=0) ?_
  ·skip
   rintro n ts H ⟨hn,hH,hL,hs0,hs3⟩;refine Qv [(0,.nil),(3,.int .i64 0)] hL (by simp only [zFm,hs0,hs3,true_and];exact zNm) ?_
   clear hL hs0 hs3 ts
   refine Qw Qd ?_;subst hH
   (refine zG ?_;(repeat' ((with_reducible apply zBr)<;>intro h<;>refine zG ?_))<;>try exact .intro)
   exact .inl ⟨rfl,rfl⟩
  ·exact ⟨rfl,rfl,rfl,rfl,rfl⟩
 ·skip
  refine zL Qd Tryz.func259 w259 Tryz.ntmps259 Tryz.results259 ?_
  (apply Zo;repeat' ((with_reducible first|apply Zk|apply zBr<;>intro h)<;>try simp -implicitDefEqProofs (maxSteps:=9^7) (disch:=first|exact zDs|fail) only [go_sem,hr]))
  refine Qg (fun n ts H=>∃ (m:Nat),(m≤l.length)∧(Xw (l.take m)=Xw l)∧(n=m)∧(H=H0)∧ts.length=21∧nth ts 0=.ref r 0 l.length∧nth ts 3=.int .i64 (m:Nat)) ?_ (n:=l.length) ?_
  ·skip
   rintro n ts H ⟨m,hm,ht,hn,hH,hL,hs0,hs3⟩;refine Qv [(0,.ref r 0 l.length),(3,.int .i64 (m:Nat))] hL (by simp only [zFm,hs0,hs3,true_and];exact zNm) ?_
   clear hL hs0 hs3 ts
   refine Qw Qd ?_;subst hH
   (apply Zo;repeat' ((with_reducible first|apply Zk|apply zBr<;>intro h)<;>try simp -implicitDefEqProofs (maxSteps:=9^7) (disch:=first|exact zDs|fail) only [go_sem,hr]))
   ·obtain ⟨m,rfl⟩:∃ k,m=k+1:=⟨m - 1,by omega⟩
    rw [Qam (by omega)] at ht
    simp only [Nat.add_sub_cancel] at h;rw [if_pos (by omega)] at ht
    exact ⟨m,by omega,m,(by (repeat' apply And.intro)<;>(first | rfl | omega | (congr 1;omega) | assumption | (congr 1;assumption)))⟩
   ·obtain ⟨m,rfl⟩:∃ k,m=k+1:=⟨m - 1,by omega⟩
    rw [Qam (by omega)] at ht
    simp only [Nat.add_sub_cancel] at h;rw [if_neg (by omega)] at ht
    refine Qe6 (.inr ⟨r,rfl,hr,hlen⟩) (by simp [t3ok]) (by simp [t3size]) hm (fun h0=>by omega) (fun h0=>by omega) fun q h0 hv=>?_
    (refine zG ?_;(repeat' ((with_reducible apply zBr)<;>intro h<;>refine zG ?_))<;>try exact .intro)
    exact .inr (.inr ⟨q,hv,by rw [ht]⟩)
   ·obtain rfl:m=0:=by omega
    refine Qe6 (.inr ⟨r,rfl,hr,hlen⟩) (by simp [t3ok]) (by simp [t3size]) hm (fun h0 hv=>nomatch hv) (fun h0 hv=>?_) fun q h0 hv=>by omega
    (refine zG ?_;(repeat' ((with_reducible apply zBr)<;>intro h<;>refine zG ?_))<;>try exact .intro)
    exact .inr (.inl ⟨rfl,by rw [← ht];rfl⟩)
  ·exact ⟨l.length,Nat.le_refl _,by rw [List.take_length],rfl,rfl,rfl,rfl,rfl⟩
theorem Gd.elems_nats {H:Qa} {v:V} {k:IntKind} {l:List Nat} {y:Ty} (hy:y.size=1) (h:Gd H v (.sl l.length (Qz k l))):Jo y v H=some (l.length,Qz k l):=by
 generalize hu:V.sl l.length (Qz k l)=u at h;cases h with
 | leaf v hc hp=>subst hu;rfl
 | nil cs =>
  injection hu with h1 h2
  have:l=[]:=List.length_eq_zero_iff.1 h1
  subst this;rfl
 | ref r n row cs hr hp hl h =>
  injection hu with h1 h2
  subst h1 h2;simp only [Jo,hr,hy,Nat.mul_one,List.drop_zero,Option.some.injEq,Prod.mk.injEq,true_and];rw [Yb] at hl h;refine List.ext_getElem (by rw [List.length_take,Yb];omega) fun i h1 h2=>?_
  rw [Yb] at h2
  have h3:=h i h2
  rw [Qht _ _ h2] at h3
  have h4:=h3.int_inv
  rw [Xo] at h4;rw [List.getElem_take]
  have h5:row.cs.getD i .any=row.cs[i]'(by omega):=by simp [List.getD,show i<row.cs.length by omega]
  rw [← h5,h4];simp [Qz,List.getD,h2]
 | agg l m hl h=>cases hu
 | tup l m hl h=>cases hu
theorem Own.set_ne {e s q:Nat} {H:Qa} {v:V} {n:Nat} {cs:List V} (h:Bv.Own e s H v n cs) (hne:∀ off n,v≠.ref q off n) (z:Option Row):Bv.Own e s (H.set q z) v n cs:=by
 rcases h with h | ⟨r,rfl,h2,h3⟩
 ·exact .inl h
 ·exact .inr ⟨r,rfl,by rw [Qk _ (fun e=>hne 0 n (by rw [e]))];exact h2,h3⟩
theorem Qpd (r b:Nat) (hr:Qr r≤1000000000000) (hb:Qr b≤100000000000) (h0:0<b) (hrb:r<b*D10):Pu C 260 [DV r,DV b] (.int .i64 (r/b:Nat)):=by
 have hq:r/b<10000:=Nat.div_lt_of_lt_mul hrb
 refine zK Qd Tryz.func260 w260 Tryz.ntmps260 Tryz.results260 ?_
 (refine zG ?_;(repeat' ((with_reducible apply zBr)<;>intro h<;>refine zG ?_))<;>try exact .intro)
 refine Qg (fun n ts H=>∃ (lo:Nat) (hi:Nat),(lo≤r/b)∧(r/b<hi)∧(hi≤10000)∧(H=[])∧(n=hi - lo)∧ts.length=25∧nth ts 0=DV r∧nth ts 1=DV b∧nth ts 5=.int .i64 (lo:Nat)∧nth ts 6=.int .i64 (hi:Nat)) ?_ (n:=10000) ?_
 ·skip
  rintro n ts H ⟨lo,hi,h1,h2,h3,hH,hn,hL,hs0,hs1,hs5,hs6⟩;refine Qv [(0,DV r),(1,DV b),(5,.int .i64 (lo:Nat)),(6,.int .i64 (hi:Nat))] hL (by simp only [zFm,hs0,hs1,hs5,hs6,true_and];exact zNm) ?_
  clear hL hs0 hs1 hs5 hs6 ts
  refine Qw Qd ?_;subst hH;by_cases hcase:1<hi - lo
  ·obtain ⟨m,hm⟩:∃ m,m=(lo+hi)/2:=⟨_,rfl⟩
   have e1:(((lo:Int)+(hi:Int))/2)=(m:Int):=by omega
   have hml:=Qfp b m
   have hmd:Qr m≤2:=Qad (Nat.lt_of_lt_of_le (show m<10000 by omega) (by decide))
   have hle:b*m≤r↔m≤r/b:=by rw [Nat.le_div_iff_mul_le h0,Nat.mul_comm]
   have hcm:Qc0 (b*m) r≤0↔m≤r/b:=by rw [← hle];unfold Qc0;split<;>(try split)<;>omega
   (apply Zo;repeat' ((with_reducible first|apply Zk|apply zBr<;>intro h)<;>try simp -implicitDefEqProofs (maxSteps:=9^7) (disch:=first|exact zDs|fail) only [go_sem,e1]))
   refine (Qb3 b m (by omega) (by omega)).call ⟨.self (Ye _),.self rfl,trivial⟩ (Ye _) ?_
   (apply Zo;repeat' ((with_reducible first|apply Zk|apply zBr<;>intro h)<;>try simp -implicitDefEqProofs (maxSteps:=9^7) (disch:=first|exact zDs|fail) only [go_sem,e1]))
   refine Fc.pure (Qew (b*m) r (by omega) hr) (by simp [Qf,clo,Qp]) (fun g=>rfl) ?_
   (apply Zo;repeat' ((with_reducible first|apply Zk|apply zBr<;>intro h)<;>try simp -implicitDefEqProofs (maxSteps:=9^7) (disch:=first|exact zDs|fail) only [go_sem,e1]))
   ·have h:=hcm.1 h
    exact ⟨hi - m,by omega,m,hi,(by (repeat' apply And.intro)<;>(first | rfl | omega | (congr 1;omega) | assumption | (congr 1;assumption)))⟩
   ·have h:=fun hh=>h (hcm.2 hh)
    exact ⟨m - lo,by omega,lo,m,(by (repeat' apply And.intro)<;>(first | rfl | omega | (congr 1;omega) | assumption | (congr 1;assumption)))⟩
  ·skip
   (refine zG ?_;(repeat' ((with_reducible apply zBr)<;>intro h<;>refine zG ?_))<;>try exact .intro)
   (refine Qh (by intro g;simp only [go_sem,ren,Qe]) ?_)
   congr 2;omega
 ·exact ⟨0,10000,Nat.zero_le _,hq,Nat.le_refl _,rfl,rfl,rfl,rfl,rfl,rfl,rfl⟩
theorem Qds (x y:Nat) (hx:Qr x≤100000000000) (hy:Qr y≤100000000000) (h0:0<y):Val C 203 [DV x,DV y] (.tup [DV (x/y),DV (x%y)]):=by
 have lx:(dg D10 x).length=Qr x:=rfl
 refine zK Qd Tryz.func203 w203 Tryz.ntmps203 Tryz.results203 ?_
 (refine zG ?_;(repeat' ((with_reducible apply zBr)<;>intro h<;>refine zG ?_))<;>try exact .intro)
 refine Qhx rfl rfl rfl rfl (by simp [t3bytes]) (by omega) ?_
 (refine zG ?_;(repeat' ((with_reducible apply zBr)<;>intro h<;>refine zG ?_))<;>try exact .intro)
 refine Qg (fun n ts H=>∃ (m:Nat) (Q:List Nat) (r:V),(m≤Qr x)∧(Q.length=Qr x)∧((∀ e∈Q,e<D10))∧(Gd H r (DV (x/D10 ^ m%y)))∧(lv D10 (Q.drop m)=x/D10 ^ m/y)∧(n=m)∧(Qc H 0=some ⟨3,1,Qz .i64 Q⟩)∧ts.length=49∧nth ts 0=DV x∧nth ts 1=DV y∧nth ts 6=.ref 0 0 (Qr x)∧nth ts 7=r∧nth ts 8=.int .i64 ((m:Int) - 1)) ?_ (n:=Qr x) ?_
 ·skip
  rintro n ts H ⟨m,Q,r,hm,hQl,hQ,hG,hinv,hn,hrq,hL,hs0,hs1,hs6,hs7,hs8⟩;refine Qv [(0,DV x),(1,DV y),(6,.ref 0 0 (Qr x)),(7,r),(8,.int .i64 ((m:Int) - 1))] hL (by simp only [zFm,hs0,hs1,hs6,hs7,hs8,true_and];exact zNm) ?_
  clear hL hs0 hs1 hs6 hs7 hs8 ts
  refine Qw Qd ?_;by_cases hcase:0<m
  ·obtain ⟨k,rfl⟩:∃ k,m=k+1:=⟨m - 1,by omega⟩
   have hkk:((k+1:Nat):Int) - 1=(k:Int):=by omega
   have sx:=Qkc x k
   have a1:=Nat.mod_lt (x/D10 ^ k) (show 0<D10 by decide)
   have hgx:=Qg1 Qdj x k
   obtain ⟨dx,hdx⟩:∃ e,e=x/D10 ^ k%D10:=⟨_,rfl⟩;rw [← hdx] at a1 sx hgx
   have b1:dx<10000:=a1
   have hRy:=Nat.mod_lt (x/D10 ^ (k+1)) h0
   obtain ⟨R,hR⟩:∃ R,R=x/D10 ^ (k+1)%y:=⟨_,rfl⟩;rw [← hR] at hG hRy
   have hRl:=Jd (Nat.le_of_lt hRy)
   have lR:(dg D10 R).length=Qr R:=rfl
   (apply Zo;repeat' ((with_reducible first|apply Zk|apply zBr<;>intro h)<;>try simp -implicitDefEqProofs (maxSteps:=9^7) (disch:=first|exact zDs|fail) only [go_sem,hkk,hgx]))
   refine Qcv (n:=1) (m:=Qr R) (cs:=[.int .i64 (dx:Nat)]) (news:=Qz .i64 (dg D10 R)) (.inr ⟨_,rfl,Xx _ _,rfl⟩) (Gd.elems_nats (by simp [t3size]) (hG.more (Keep.app _ _))) (by simp [Yb,t3size,lR]) (Qd4 _ _) (by simp [t3size]) (by simp [t3bytes]) (by simp only [t3bytes];omega) rfl fun v' H' hv' hFr _ hform=>?_
   have hv2:OwnD H' v' (dx::dg D10 R):=by
    have:([V.int .i64 (dx:Nat)]++Qz .i64 (dg D10 R))=Qz .i64 (dx::dg D10 R):=rfl
    rw [this] at hv'
    have e:1+Qr R=(dx::dg D10 R).length:=by rw [List.length_cons,lR];omega
    rw [e] at hv';exact hv'
   have hH:0<H.length:=Xt hrq
   have hrq1:Qc H' 0=some ⟨3,1,Qz .i64 Q⟩:=hFr 0 _ (fun off n e=>by injection e with e;omega) (Ql hrq _)
   (apply Zo;repeat' ((with_reducible first|apply Zk|apply zBr<;>intro h)<;>try simp -implicitDefEqProofs (maxSteps:=9^7) (disch:=first|exact zDs|fail) only [go_sem,hkk,hgx]))
   refine (Qjd hv2 (by rw [List.length_cons,lR];omega)).mono ?_
   rintro u H2 ⟨rfl,hq⟩
   have hdl:∀ e∈dx::dg D10 R,e<D10:=fun e he=>by
    rcases List.mem_cons.1 he with rfl | he
    ·exact a1
    ·exact Xe6 Qdj R e he
   have hval:lv D10 (dx::dg D10 R)=dx+D10*R:=by rw [lv,Qrk Qdj]
   have hGu:Gd H2 u (DV (dx+D10*R)):=by rw [← Qca hdl hval];exact hq.gd hv2
   have hlt:dx+D10*R<y*D10:=by
    have:=Nat.mul_le_mul_left D10 (show R+1≤y from hRy)
    rw [Nat.mul_add,Nat.mul_one,Nat.mul_comm D10 y] at this;omega
   have hlz:Qr (dx+D10*R)≤Qr y+3:=by
    have h1:=Jd (Nat.le_of_lt hlt)
    have h2:=Qfp y D10
    have h3:Qr D10≤2:=Qad (by decide)
    omega
   have hsp:x/D10 ^ k=(dx+D10*R)+y*(D10*(x/D10 ^ (k+1)/y)):=by
    have hdm:=Nat.div_add_mod (x/D10 ^ (k+1)) y
    rw [← hR] at hdm
    have e:D10*(x/D10 ^ (k+1))=D10*R+y*(D10*(x/D10 ^ (k+1)/y)):=by
     rw [Nat.mul_left_comm y,← Nat.mul_add,Nat.add_comm R,hdm]
    omega
   have hX:x/D10 ^ k/y=(dx+D10*R)/y+D10*(x/D10 ^ (k+1)/y):=by
    rw [hsp,Nat.add_mul_div_left _ _ h0]
   have hXm:x/D10 ^ k%y=(dx+D10*R)%y:=by
    rw [hsp,Nat.add_mul_mod_self_left]
   have hql:(dx+D10*R)/y<10000:=Nat.div_lt_of_lt_mul hlt
   have hmod:(dx+D10*R)%y=(dx+D10*R) - y*((dx+D10*R)/y):=by
    have:=Nat.div_add_mod (dx+D10*R) y
    omega
   have hdle:y*((dx+D10*R)/y)≤dx+D10*R:=Nat.mul_div_le _ _
   generalize dx+D10*R=z at *
   (apply Zo;repeat' ((with_reducible first|apply Zk|apply zBr<;>intro h)<;>try simp -implicitDefEqProofs (maxSteps:=9^7) (disch:=first|exact zDs|fail) only [go_sem,hkk,hgx]))
   refine Fc.pureL (Qpd z y (by omega) hy h0 hlt) ⟨hGu.bor,.self (Ye _),trivial⟩ (fun g=>rfl) rfl ?_
   obtain ⟨q,hqq⟩:∃ q,q=z/y:=⟨_,rfl⟩;rw [← hqq] at hX hql hmod hdle ⊢
   have q1:(Q.set k q).length=Qr x:=by rw [List.length_set];exact hQl
   have q2:∀ e∈Q.set k q,e<D10:=fun e he=>by
    rcases List.mem_or_eq_of_mem_set he with h1 | h1
    ·exact hQ e h1
    ·rw [h1];exact hql
   have q3:lv D10 ((Q.set k q).drop k)=x/D10 ^ k/y:=by
    rw [Qbo (l:=Q.set _ _) (by rw [List.length_set];omega),Qdq (by omega),Jk (by omega),hinv,hX]
   (apply Zo;repeat' ((with_reducible first|apply Zk|apply zBr<;>intro h)<;>try simp -implicitDefEqProofs (maxSteps:=9^7) (disch:=first|exact zDs|fail) only [go_sem,hkk,hgx,hrq1,Jr]))
   refine (Qb3 y q (by omega) (by omega)).call ⟨.self (Ye _),.self rfl,trivial⟩ (Ye _) ?_
   have hv3:=fun z=>Own.set_ne (q:=0) hv2 (fun off n e=>by obtain ⟨r,hr⟩:=hform;rw [hr] at e;injection e with e;rw [List.length_append] at e;simp at e) z
   have hGu3:∀ zz,Gd (H2.set 0 zz) u (DV z):=fun zz=>by rw [← Qca hdl hval];exact hq.gd (hv3 zz)
   have hyq:Qr (y*q)≤1000000000000:=by
    have:=Jd hdle
    omega
   (apply Zo;repeat' ((with_reducible first|apply Zk|apply zBr<;>intro h)<;>try simp -implicitDefEqProofs (maxSteps:=9^7) (disch:=first|exact zDs|fail) only [go_sem,hkk,hgx,hrq1,Jr]))
   refine (Qtd z (y*q) (by omega) hdle).kept ⟨(hGu3 _).bor,.self (Ye _),trivial⟩ fun v X hv=>?_
   rw [← hmod,← hXm] at hv;obtain ⟨w1,w2,rfl,hw1,hw2⟩:=hv.tup2
   have hrq2:=Ql (Qj (row':=(⟨3,1,Qz .i64 (Q.set k q)⟩:Row)) hrq1) X
   (apply Zo;repeat' ((with_reducible first|apply Zk|apply zBr<;>intro h)<;>try simp -implicitDefEqProofs (maxSteps:=9^7) (disch:=first|exact zDs|fail) only [go_sem,hkk,hgx,hrq1,Jr]))
   exact ⟨k,by omega,k,Q.set k q,w1,(by (repeat' apply And.intro)<;>(first | rfl | omega | (congr 1;omega) | assumption | (congr 1;assumption)))⟩
  ·obtain rfl:m=0:=by omega
   simp only [List.drop_zero,Nat.pow_zero,Nat.div_one] at hinv hG
   (refine zG ?_;(repeat' ((with_reducible apply zBr)<;>intro h<;>refine zG ?_))<;>try exact .intro)
   have hu:OwnD H (.ref 0 0 (Qr x)) Q:=.inr ⟨0,by rw [hQl],hrq,by simp [Yb]⟩
   refine (Qjd hu (by omega)).mono ?_
   rintro u' H' ⟨rfl,hq⟩
   (refine zG ?_;(repeat' ((with_reducible apply zBr)<;>intro h<;>refine zG ?_))<;>try exact .intro)
   refine Gd.ret (Gd.tupL ⟨?_,hG,trivial⟩);rw [← Qca hQ hinv];rw [← hQl] at hq hu;exact hq.gd hu
 ·refine ⟨Qr x,List.replicate (Qr x) 0,.nil,Nat.le_refl _,by simp,fun x hx=>by rw [(List.mem_replicate.1 hx).2];decide, ?_, ?_,rfl,rfl,rfl,rfl,rfl,rfl,rfl,rfl⟩
  ·rw [Nat.div_eq_of_lt (Qax x),Nat.zero_mod,DV,Yh];exact .nil _
  ·rw [Nat.div_eq_of_lt (Qax x),Nat.zero_div];simp [lv]
theorem Qhb (l:List Nat) (hl:l.length≤17592186044416) (hL:Lim l):Val C 275 [NA l] (Xy (lv B32 l)):=Val.ofN (Qf8 l hl hL)
theorem Qwm (a:List Nat) (n:Nat) (ha:a.length≤4398046511104) (hA:Lim a) (hn:n≤70368744177664):Val C 307 [NA a,.int .i64 (n:Nat)] (Xy (lv B32 a*2 ^ n)):=Val.ofN (Xf9 a n ha hA hn)
theorem IsN.isL {v:V} {H:Qa} {x:Nat} (h:IsN v H x):IsL 106 1 H v (dg B32 x).length (Qz .u32 (dg B32 x)):=IsZ.isL h
theorem IsN.bor {v:V} {H:Qa} {x:Nat} (h:IsN v H x):Bor H v (Xy x):=h.isL.bor (Qp _ _)
theorem IsN.keep {v:V} {H:Qa} {x:Nat} (h:IsN v H x) (X:Qa):IsN v (H++X) x:=by
 rcases h with h | h
 ·exact .inl h
 ·exact .inr (h.keep X)
theorem IsN.len {v:V} {H:Qa} {x:Nat} (h:IsN v H x) (y:Ty) (K:V→Prop):lenw y v K=(y.sl.isSome=true∧K (.int .i64 ((dg B32 x).length:Nat))):=h.isL.lenw y K
theorem Xjf (a b:List Nat) (ha:a.length≤8796093022208) (hb:b.length≤8796093022208) (hA:Lim a) (hB:Lim b):Val C 293 [NA a,NA b] (.int .i64 (Qc0 (lv B32 a) (lv B32 b))):=Val.ofPu (Qs5 a b ha hb hA hB) rfl rfl
theorem Qcc {l:List Nat} (hL:Lim l):(dg B32 (lv B32 l)).length≤l.length:=Xe (by decide) _ _ (Qac hL)
theorem Qm1 (k:IntKind):∀ (l xs:List Nat) (off:Nat),off+l.length≤xs.length→Ki (Qz k xs) off (Qz k l)=Qz k (xs.take off++l++xs.drop (off+l.length))
 | [],xs,off,h=>by simp [Qz,Ki,List.take_append_drop]
 | v::l,xs,off,h=>by
  have e:Qz k (v::l)=.int k (v:Nat)::Qz k l:=rfl
  simp only [List.length_cons] at h ⊢;rw [e,Ki,Jr,Qm1 k l _ _ (by rw [List.length_set];omega)]
  congr 1
  have e1:(xs.set off v).take (off+1)=xs.take off++[v]:=by
   rw [List.take_add_one,Qbp (Nat.le_refl _)];simp [show off<xs.length by omega]
  rw [e1,Jk (by omega),show off+1+l.length=off+(l.length+1) by omega]
  simp
theorem Qyq (k:IntKind) (l:List Nat) (n:Nat) (h:l.length≤n):Ki (Qz k (List.replicate n 0)) 0 (Qz k l)=Qz k (l++List.replicate (n - l.length) 0):=by
 rw [Qm1 _ _ _ _ (by simp;omega),List.take_zero,List.nil_append,List.drop_replicate,Nat.zero_add]
theorem Qjw (a b:List Nat) (ha:a.length≤1099511627776) (hb:b.length≤1099511627776) (hA:Lim a) (hB:Lim b) (h0:0<lv B32 b):Val C 296 [NA a,NA b] (.tup [Xy (lv B32 a/lv B32 b),Xy (lv B32 a%lv B32 b),.int .i64 0]):=by
 have la:=Qcc hA
 have lb:=Qcc hB
 refine zK Qd Tryz.func296 w296 Tryz.ntmps296 Tryz.results296 ?_
 (refine zG ?_;(repeat' ((with_reducible apply zBr)<;>intro h<;>refine zG ?_))<;>try exact .intro)
 refine Fc.isN (Qf8 a (by omega) hA) ⟨.self (Xs _),trivial⟩ fun va X hva=>?_
 (refine zG ?_;(repeat' ((with_reducible apply zBr)<;>intro h<;>refine zG ?_))<;>try exact .intro)
 refine (Qhb b (by omega) hB).call ⟨.self (Xs _),trivial⟩ (Zg _) ?_
 have hlen:=hva.len (C.ty 65)
 have hne:(dg B32 (lv B32 b)).length≠0:=fun h=>by
  have:=List.length_eq_zero_iff.1 h
  have e:=Yg (lv B32 b)
  rw [this] at e;simp [lv] at e;omega
 rw [List.nil_append] at hva
 (apply Zo;repeat' ((with_reducible first|apply Zk|apply zBr<;>intro h)<;>try simp -implicitDefEqProofs (maxSteps:=9^7) (disch:=first|exact zDs|fail) only [go_sem,hlen]))
 refine (Xjf (dg B32 (lv B32 a)) (dg B32 (lv B32 b)) (by omega) (by omega) (Yz _) (Yz _)).call ⟨hva.bor,.self (Xs _),trivial⟩ rfl ?_
 rw [Yg,Yg]
 have hc:Qc0 (lv B32 a) (lv B32 b)<0↔lv B32 a<lv B32 b:=by unfold Qc0;split<;>(try split)<;>omega
 (apply Zo;repeat' ((with_reducible first|apply Zk|apply zBr<;>intro h)<;>try simp -implicitDefEqProofs (maxSteps:=9^7) (disch:=first|exact zDs|fail) only [go_sem,hlen]))
 ·have hlt:=hc.1 h
  rw [Nat.div_eq_of_lt hlt,Nat.mod_eq_of_lt hlt];refine Gd.ret (Gd.tupL ?_);exact ⟨by rw [show Xy 0=.sl 0 [] by simp [Xy,NA,Yh,Qz]];exact .nil _,hva.gd,.leaf _ rfl rfl,trivial⟩
 ·have hl1:(dg B32 (lv B32 b)).length=1:=by omega
  obtain ⟨d,hd⟩:∃ d,dg B32 (lv B32 b)=[d]:=by
   match hh:dg B32 (lv B32 b),hl1 with
   | [d],_=>exact ⟨d,rfl⟩
  have hdv:lv B32 b=d:=by rw [← Yg (lv B32 b),hd];simp [lv]
  have hdl:d<4294967296:=Yz (lv B32 b) d (by rw [hd];simp)
  rw [hd]
  (refine zG ?_;(repeat' ((with_reducible apply zBr)<;>intro h<;>refine zG ?_))<;>try exact .intro)
  have hS:=Qv4 (dg B32 (lv B32 a)) d (by omega) (Yz _) (by omega) hdl
  rw [Yg] at hS;refine hS.kept ⟨hva.bor,.self rfl,trivial⟩ fun v Y hv=>?_
  obtain ⟨q,r,e,rfl,hq,hr,he⟩:=hv.tup3;rw [hr.int_inv,he.int_inv]
  have hrl:lv B32 a%d<4294967296:=Nat.lt_of_lt_of_le (Nat.mod_lt _ (by omega)) (by omega)
  (refine zG ?_;(repeat' ((with_reducible apply zBr)<;>intro h<;>refine zG ?_))<;>try exact .intro)
  refine Fc.isN (Qke (lv B32 a%d) (by omega)) (by exact ⟨.self rfl,trivial⟩) fun w Z hw=>?_
  (refine zG ?_;(repeat' ((with_reducible apply zBr)<;>intro h<;>refine zG ?_))<;>try exact .intro)
  rw [hdv];rw [List.append_assoc] at hw;exact Gd.ret (Gd.tupL ⟨hq.more (by rw [← List.append_assoc];exact Keep.app _ _),hw.gd,.leaf _ rfl rfl,trivial⟩)
 ·have hn2:2≤(dg B32 (lv B32 b)).length:=by omega
  have hge:lv B32 b≤lv B32 a:=by omega
  obtain ⟨k,hk⟩:∃ k,(dg B32 (lv B32 b)).length=k+2:=⟨(dg B32 (lv B32 b)).length - 2,by omega⟩
  have hlenle:(dg B32 (lv B32 b)).length≤(dg B32 (lv B32 a)).length:=Xe (by decide) _ _ (Nat.lt_of_le_of_lt hge (Zm (by decide) _))
  have hgt:=Qg1 (b:=B32) (by decide) (lv B32 b) (k+1)
  have ht:=(Yz (lv B32 b)).get (k+1)
  have hbk:lv B32 b<B32 ^ (k+2):=hk ▸ Zm (by decide) _
  have hbk1:lv B32 b/B32 ^ (k+1)<B32:=by rw [Nat.div_lt_iff_lt_mul (Nat.pow_pos (by decide)),Nat.mul_comm,← Nat.pow_succ];exact hbk
  rw [Nat.mod_eq_of_lt hbk1] at hgt
  have e1:(dg B32 (lv B32 b)).length - 1=k+1:=by omega
  (refine zG ?_;(repeat' ((with_reducible apply zBr)<;>intro h<;>refine zG ?_))<;>try exact .intro)
  rw [e1];refine Fc.pure (Qzx _ ht) rfl (fun g=>rfl) ?_
  rw [hgt];obtain ⟨s,hs⟩:∃ s,s=32 - Zx (lv B32 b/B32 ^ (k+1)):=⟨_,rfl⟩;rw [← hs];obtain ⟨n1,n2,n3⟩:=Xi8 hk rfl hs
  (refine zG ?_;(repeat' ((with_reducible apply zBr)<;>intro h<;>refine zG ?_))<;>try exact .intro)
  refine (Qwm (dg B32 (lv B32 b)) s (by omega) (Yz _) (by omega)).call ⟨.self (Xs _),.self rfl,trivial⟩ (Zg _) ?_
  rw [Yg]
  have hVl:(dg B32 (lv B32 b*2 ^ s)).length=k+2:=by
   have c1:=Xe (b:=B32) (by decide) _ _ n1
   have c2:¬ (dg B32 (lv B32 b*2 ^ s)).length≤k+1:=fun hh=>by
    have c3:lv B32 b*2 ^ s<B32 ^ (k+1):=Nat.lt_of_lt_of_le (Zm (by decide) _) (Nat.pow_le_pow_right (by decide) hh)
    have c4:0<B32 ^ (k+1):=Nat.pow_pos (by decide)
    simp only [B32] at *;omega
   omega
  have hVg:2147483648≤(dg B32 (lv B32 b*2 ^ s)).getD (k+1) 0:=by
   rw [Qg1 (by decide),Nat.mod_eq_of_lt (Nat.div_lt_of_lt_mul (by rw [← Nat.pow_succ];exact n1)),Nat.le_div_iff_mul_le (Nat.pow_pos (by decide)),Nat.mul_comm 2147483648]
   exact n2
  have hbge:B32 ^ (k+2 - 1)≤lv B32 b:=Nat.le_of_not_lt fun hh=>by
   have:=Xe (b:=B32) (by decide) _ _ hh
   omega
  have hfst:=Xe4 (s:=s) (V:=lv B32 b*2 ^ s) (B:=B32) (by decide) (Zm (b:=B32) (by decide) (lv B32 a)) (by omega) (by omega) hbge rfl
  have hAl:lv B32 a*2 ^ s<B32 ^ ((dg B32 (lv B32 a)).length+1):=by
   rw [Nat.pow_succ];refine Nat.mul_lt_mul'' (Zm (by decide) _) ?_
   exact Nat.lt_of_le_of_lt (Nat.pow_le_pow_right (by decide) n3) (by decide)
  have hAll:=Xe (b:=B32) (by decide) _ _ hAl
  have hA0:(dg B32 (lv B32 a*2 ^ s)).length≠0:=fun hh=>by
   have e:=Yg (lv B32 a*2 ^ s)
   rw [List.length_eq_zero_iff.1 hh] at e
   have hp:=Nat.mul_pos (show 0<lv B32 a by omega) (Nat.two_pow_pos s)
   rw [← e] at hp;exact absurd hp (by simp [lv])
  have hV0:0<lv B32 b*2 ^ s:=Nat.mul_pos h0 (Nat.two_pow_pos s)
  obtain ⟨V,hV⟩:∃ V,V=lv B32 b*2 ^ s:=⟨_,rfl⟩;obtain ⟨A,hAA⟩:∃ A,A=lv B32 a*2 ^ s:=⟨_,rfl⟩;rw [← hV] at hVl hVg hfst hV0 n1 ⊢;rw [← hAA] at hfst hAl hAll hA0;obtain ⟨m,hm⟩:∃ m,m=(dg B32 (lv B32 a)).length:=⟨_,rfl⟩
  have em:(((dg B32 (lv B32 a)).length:Int)+1)=((m+1:Nat):Int):=by omega
  (apply Zo;repeat' ((with_reducible first|apply Zk|apply zBr<;>intro h)<;>try simp -implicitDefEqProofs (maxSteps:=9^7) (disch:=first|exact zDs|fail) only [go_sem,hlen,em]))
  refine Qhx rfl rfl rfl rfl (by simp [t106bytes]) (by omega) ?_
  (refine zG ?_;(repeat' ((with_reducible apply zBr)<;>intro h<;>refine zG ?_))<;>try exact .intro)
  refine (Qwm (dg B32 (lv B32 a)) s (by omega) (Yz _) (by omega)).call ⟨(hva.keep _).bor,.self rfl,trivial⟩ (Zg _) ?_
  rw [Yg,← hAA]
  (refine zG ?_;(repeat' ((with_reducible apply zBr)<;>intro h<;>refine zG ?_))<;>try exact .intro)
  refine Xff (e:=106) (s:=1) (cs:=Qz .u32 (List.replicate (m+1) 0)) (news:=Qz .u32 (dg B32 A)) (Xx _ _) (by simp [Yb]) (Qd4 _ _) rfl (by omega) (by omega) (by simp [Yb];omega) ?_
  rw [Qyq _ _ _ (by omega)]
  have w1:(dg B32 A++List.replicate (m+1 - (dg B32 A).length) 0).length=m+1:=by simp;omega
  have w2:Lim (dg B32 A++List.replicate (m+1 - (dg B32 A).length) 0):=fun x hx=>by
   rcases List.mem_append.1 hx with h | h
   ·exact Yz _ x h
   ·rw [(List.mem_replicate.1 h).2];decide
  have w3:lv B32 (dg B32 A++List.replicate (m+1 - (dg B32 A).length) 0)=A:=by rw [Xdl,Yg]
  generalize dg B32 A++List.replicate (m+1 - (dg B32 A).length) 0=W0 at *;generalize hH1:(X++[some (⟨106,1,Qz .u32 (List.replicate (m+1) 0)⟩:Row)]).set X.length (some ⟨106,1,Qz .u32 W0⟩)=H1
  have hru:Qc H1 X.length=some ⟨106,1,Qz .u32 W0⟩:=by rw [← hH1];exact Qj (Xx _ _)
  have hH1l:H1.length=X.length+1:=by rw [← hH1];simp
  have eq1:(((dg B32 (lv B32 a)).length:Int) - ((dg B32 V).length:Int)+1)=((m - (k+2)+1:Nat):Int):=by omega
  (apply Zo;repeat' ((with_reducible first|apply Zk|apply zBr<;>intro h)<;>try simp -implicitDefEqProofs (maxSteps:=9^7) (disch:=first|exact zDs|fail) only [go_sem,hlen,eq1]))
  refine Qhx rfl rfl rfl rfl (by simp [t106bytes]) (by omega) ?_
  (refine zG ?_;(repeat' ((with_reducible apply zBr)<;>intro h<;>refine zG ?_))<;>try exact .intro)
  rw [← hm] at hfst;refine Qg (fun n ts H=>∃ (j:Nat) (W Q:List Nat),(j≤m - (k+2)+1)∧(W.length=m+1)∧(Lim W)∧(Q.length=m - (k+2)+1)∧(Lim Q)∧(lv B32 (Q.drop j)*(B32 ^ j*V)+lv B32 W=A)∧(lv B32 (W.drop j)<V)∧(n=j)∧(Qc H X.length=some ⟨106,1,Qz .u32 W⟩)∧(Qc H (X.length+1)=some ⟨106,1,Qz .u32 Q⟩)∧ts.length=113∧nth ts 10=.int .i64 (s:Nat)∧nth ts 11=Xy V∧nth ts 12=.ref X.length 0 (m+1)∧nth ts 13=.ref (X.length+1) 0 (m - (k+2)+1)∧nth ts 14=.int .i64 ((j:Int) - 1)) ?_ (n:=m - (k+2)+1) ?_
  ·skip
   rintro n ts H ⟨j,W,Q,hj,hWl,hWL,hQl,hQL,hinv,hlt,hn,hru,hrq,hL,hs10,hs11,hs12,hs13,hs14⟩;refine Qv [(10,.int .i64 (s:Nat)),(11,Xy V),(12,.ref X.length 0 (m+1)),(13,.ref (X.length+1) 0 (m - (k+2)+1)),(14,.int .i64 ((j:Int) - 1))] hL (by simp only [zFm,hs10,hs11,hs12,hs13,hs14,true_and];exact zNm) ?_
   clear hL hs10 hs11 hs12 hs13 hs14 ts
   refine Qw Qd ?_;by_cases hcase:0<j
   ·obtain ⟨i,rfl⟩:∃ i,j=i+1:=⟨j - 1,by omega⟩
    have e1:(((i+1:Nat):Int) - 1)=(i:Int):=by omega
    have e2:((i:Int)+((dg B32 V).length:Int)+1)=((i+(k+3):Nat):Int):=by omega
    (apply Zo;repeat' ((with_reducible first|apply Zk|apply zBr<;>intro h)<;>try simp -implicitDefEqProofs (maxSteps:=9^7) (disch:=first|exact zDs|fail) only [go_sem,e1,e2]))
    refine Xbw hru (by simp [t106ok]) (by simp [t106size]) (by omega) (by omega) ?_
    rw [Nat.zero_add,show i+(k+3) - i=k+2+1 by omega]
    (refine zG ?_;(repeat' ((with_reducible apply zBr)<;>intro h<;>refine zG ?_))<;>try exact .intro)
    obtain ⟨u1,u2,u3⟩:=Xpn (b:=B32) (by decide) hWL (Nat.le_of_lt n1) (show i+(k+2+1)≤W.length by omega) hlt
    have hpl:((W.drop i).take (k+2+1)).length=k+2+1:=by rw [List.length_take,List.length_drop];omega
    have hpL:Lim ((W.drop i).take (k+2+1)):=fun x hx=>hWL x (List.mem_of_mem_drop (List.mem_of_mem_take hx))
    have hgs:=Quy ((W.drop i).take (k+2+1)) (dg B32 V) k hVl hpl (by omega) hpL (Yz V) hVg (by rw [← u2,Yg];exact u1)
    have hbor:BorL H [.ref X.length i (k+2+1),Xy V] [NA ((W.drop i).take (k+2+1)),Xy V]:=by
     refine ⟨?_,.self (Zg _),trivial⟩;rw [NA,hpl];refine .ref X.length i _ _ _ hru (by simp [Yb];omega) fun q hq=>?_
     have hq':q<k+2+1:=by rwa [Yb,hpl] at hq
     have:nth (Qz .u32 W) (i+q)=nth (Qz .u32 ((W.drop i).take (k+2+1))) q:=by
      rw [Qht _ _ (by omega),Qht _ _ (by omega)]
      simp [List.getD,List.getElem?_take,hq']
     rw [this];exact .self (Ys (Qp _ _) q)
    refine hgs.borrow hbor.all.1 hbor.all.2 (by rintro v H' ⟨rfl,g,rfl,_⟩;exact ⟨rfl,fun r row hr=>by simp at hr⟩) ?_
    rintro v H' ⟨rfl,g,rfl,g1,g2,g3⟩;simp only [ren,Qbs,List.map_nil,List.append_nil];rw [Yg,← u2] at g1 g2
    (refine zG ?_;(repeat' ((with_reducible apply zBr)<;>intro h<;>refine zG ?_))<;>try exact .intro)
    have htk:=Qx2 (q:=g) (v:=dg B32 V) hru (j:=i) (by omega) (by omega) hWL (Yz V) g3
    rw [hVl,Yg,← u2] at htk;refine htk.mono ?_;rintro r H' ⟨W',b',rfl,rfl,hb',t1,t2,t3,t4,t5⟩
    have hru':Qc (H.set X.length (some (⟨106,1,Qz .u32 W'⟩:Row))) X.length=some ⟨106,1,Qz .u32 W'⟩:=Qj hru
    have hrq':∀ z,Qc (H.set X.length z) (X.length+1)=some ⟨106,1,Qz .u32 Q⟩:=fun z=>by rw [Qk _ (by omega)];exact hrq
    have hset:∀ (z z':Option Row),(H.set X.length z).set X.length z'=H.set X.length z':=fun z z'=>List.set_set ..
    have hUM:lv B32 (W.drop i)/V<B32:=Nat.div_lt_of_lt_mul (by rw [Nat.mul_comm];exact u1)
    have hp1:∀ W'':List Nat,Lim W''→W''.length=W.length→lv B32 ((W''.drop i).take (k+2+1))<B32 ^ (k+2+1):=fun W'' h1 h2=>by
     have:=Ke (l:=W''.drop i) (b:=B32) (fun x hx=>h1 x (List.mem_of_mem_drop hx)) (k+2+1) (by rw [List.length_drop];omega)
     exact this
    have hVM:V≤B32 ^ (k+2+1):=Nat.le_trans (Nat.le_of_lt n1) (Nat.pow_le_pow_right (by decide) (by omega))
    have hset2:∀ W'':List Nat,Lim W''→W''.length=W.length→W''.take i=W.take i→W''.drop (i+(k+2+1))=W.drop (i+(k+2+1))→lv B32 ((W''.drop i).take (k+2+1))=lv B32 (W.drop i)%V →
      lv B32 ((Q.set i (lv B32 (W.drop i)/V)).drop i)*(B32 ^ i*V)+lv B32 W''=A∧lv B32 (W''.drop i)<V:=fun W'' h1 h2 h3 h4 h5 =>
     Xi6 (b:=B32) (by decide) hWL (Nat.le_of_lt n1) hV0 (by omega) hlt h2 h3 h4 h5 (by omega) hinv
    have fin:∀ W'':List Nat,Lim W''→W''.length=W.length→W''.take i=W.take i→W''.drop (i+(k+2+1))=W.drop (i+(k+2+1))→lv B32 ((W''.drop i).take (k+2+1))=lv B32 (W.drop i)%V→∀ P:Prop,
      (∀ (Q':List Nat) (H'':Qa),Q'=Q.set i (lv B32 (W.drop i)/V)→H''=(H.set X.length (some (⟨106,1,Qz .u32 W''⟩:Row))).set (X.length+1) (some ⟨106,1,Qz .u32 Q'⟩)→W''.length=m+1→Q'.length=m - (k+2)+1→Lim Q'→lv B32 (Q'.drop i)*(B32 ^ i*V)+lv B32 W''=A→lv B32 (W''.drop i)<V →
       Qc H'' X.length=some ⟨106,1,Qz .u32 W''⟩→Qc H'' (X.length+1)=some ⟨106,1,Qz .u32 Q'⟩→P)→P:=fun W'' h1 h2 h3 h4 h5 P hP=>by
     obtain ⟨f1,f2⟩:=hset2 W'' h1 h2 h3 h4 h5;refine hP _ _ rfl rfl (by omega) (by rw [List.length_set];exact hQl) (Lim.set hQL _ hUM) f1 f2 ?_ ?_
     ·rw [Qk _ (by omega)];exact Qj hru
     ·exact Qj (hrq' _)
    have gl:g<4294967296:=g3
    have hwl:∀ x:Nat,x<4294967296→IntKind.wrap .u32 (x:Int)=((x:Nat):Int):=fun x hx=>by rw [Qj4,Nat.mod_eq_of_lt hx]
    obtain rfl | rfl:b'=0∨b'=1:=by omega
    ·rw [Nat.mul_zero,Nat.add_zero] at t5;obtain ⟨d1,d2⟩:=Xpl hV0 g1 t5
     have hb0:((0:Nat)==1)=false:=rfl
     refine fin W' t2 (by omega) t3 t4 d2 _ fun Q' H'' hQ' hH'' k1 k2 k3 k4 k5 k6 k7=>?_
     rw [← d1] at hQ'
     have hw:=hwl g gl
     (apply Zo;repeat' ((with_reducible first|apply Zk|apply zBr<;>intro h)<;>try simp -implicitDefEqProofs (maxSteps:=9^7) (disch:=first|exact zDs|fail) only [go_sem,hb0,hrq',hw,Jr]))
     subst hQ' hH'';exact ⟨i,by omega,i,W',Q.set i g,(by (repeat' apply And.intro)<;>(first | rfl | omega | (congr 1;omega) | assumption | (congr 1;assumption)))⟩
    ·rw [Nat.mul_one] at t5
     have hb0:((1:Nat)==1)=true:=rfl
     have hg1:1≤g:=by
      refine Nat.pos_of_ne_zero fun h=>?_
      rw [h,Nat.zero_mul,Nat.add_zero] at t5
      have:=hp1 W' t2 (by omega)
      omega
     have e4:((g:Int) - 1)=((g - 1:Nat):Int):=by omega
     (apply Zo;repeat' ((with_reducible first|apply Zk|apply zBr<;>intro h)<;>try simp -implicitDefEqProofs (maxSteps:=9^7) (disch:=first|exact zDs|fail) only [go_sem,hb0,e4]))
     have hbk:=Xaq (v:=dg B32 V) hru' (j:=i) (by omega) (by omega) t2 (Yz V)
     rw [hVl,Yg] at hbk;refine hbk.mono ?_;rintro r2 H2 ⟨W2,c2,rfl,s1,s2,s3,s4,s5⟩;obtain ⟨d1,d2⟩:=Xpk hV0 hVM g1 g2 t5 (hp1 W' t2 (by omega)) s5 (hp1 W2 s2 (by omega))
     refine fin W2 s2 (by omega) (by rw [s3,t3]) (by rw [s4];exact t4) d2 _ fun Q' H'' hQ' hH'' k1 k2 k3 k4 k5 k6 k7=>?_
     have d3:lv B32 (W.drop i)/V=g - 1:=by omega
     rw [d3] at hQ'
     have hw:=hwl (g - 1) (by omega)
     (apply Zo;repeat' ((with_reducible first|apply Zk|apply zBr<;>intro h)<;>try simp -implicitDefEqProofs (maxSteps:=9^7) (disch:=first|exact zDs|fail) only [go_sem,hset,hrq',e4,hw,Jr]))
     subst hQ' hH'';exact ⟨i,by omega,i,W2,Q.set i (g - 1),(by (repeat' apply And.intro)<;>(first | rfl | omega | (congr 1;omega) | assumption | (congr 1;assumption)))⟩
   ·obtain rfl:j=0:=by omega
    simp only [List.drop_zero,Nat.pow_zero,Nat.one_mul] at hinv hlt;rw [hAA] at hinv;obtain ⟨f1,f2⟩:=Xmy hV (Nat.two_pow_pos s) h0 hinv hlt
    (refine zG ?_;(repeat' ((with_reducible apply zBr)<;>intro h<;>refine zG ?_))<;>try exact .intro)
    refine Fc.isN (Qf8 Q (by omega) hQL) (by rw [← hQl];exact Qpv hrq (Qp _ _)) fun vq Y hvq=>?_
    (refine zG ?_;(repeat' ((with_reducible apply zBr)<;>intro h<;>refine zG ?_))<;>try exact .intro)
    refine (Qhb W (by omega) hWL).call (by rw [← hWl];exact Qpv (Ql hru _) (Qp _ _)) (Zg _) ?_
    (refine zG ?_;(repeat' ((with_reducible apply zBr)<;>intro h<;>refine zG ?_))<;>try exact .intro)
    have hwle:(dg B32 (lv B32 W)).length≤m+1:=hWl ▸ Qcc hWL
    refine Fc.isN (Xf8 (dg B32 (lv B32 W)) s (by omega) (Yz _) (by omega)) ⟨.self (Xs _),.self rfl,trivial⟩ fun vr Z hvr=>?_
    rw [Yg,f2] at hvr;rw [f1] at hvq
    (refine zG ?_;(repeat' ((with_reducible apply zBr)<;>intro h<;>refine zG ?_))<;>try exact .intro)
    exact Gd.ret (Gd.tupL ⟨(hvq.gd).more (by rw [← List.append_assoc];exact Keep.app _ _),by rw [List.append_assoc] at hvr;exact hvr.gd,.leaf _ rfl rfl,trivial⟩)
  ·refine ⟨m - (k+2)+1,W0,List.replicate (m - (k+2)+1) 0,Nat.le_refl _,w1,w2,by simp,fun x hx=>by rw [(List.mem_replicate.1 hx).2];decide, ?_, ?_,rfl, ?_, ?_,rfl,rfl,rfl,rfl,rfl,rfl⟩
   ·rw [List.drop_eq_nil_of_le (by simp)];simp [lv,w3]
   ·rw [Qri (b:=B32) (by decide) w2,w3];exact hfst
   ·simp [Qc]
   ·simp [Qc,List.replicate_succ]
theorem Xe7 {x:Nat} (h:0<x):0<(dg B32 x).length:=by rw [Qcs (by decide) h];simp
theorem Qnr {x y:Nat} (h:x≤y):(dg B32 x).length≤(dg B32 y).length:=Xe (by decide) _ _ (Nat.lt_of_le_of_lt h (Zm (by decide) y))
theorem Qr0 (x y:Nat):Nat.gcd y (x%y)=Nat.gcd x y:=by rw [Nat.gcd_comm x y,Nat.gcd_rec y x,Nat.gcd_comm]
theorem Qva (x y:Nat) (hx:(dg B32 x).length≤1099511627776) (hy:(dg B32 y).length≤1099511627776) (h0:0<y):Val C 296 [Xy x,Xy y] (.tup [Xy (x/y),Xy (x%y),.int .i64 0]):=by
 have h:=Qjw (dg B32 x) (dg B32 y) hx hy (Yz _) (Yz _) (by rw [Yg];exact h0)
 rw [Yg,Yg] at h;exact h
theorem Xes (a b:List Nat) (ha:a.length≤1000000000000) (hb:b.length≤1000000000000) (hA:Lim a) (hB:Lim b):Pu C 276 [NA a,NA b] (Xy (Nat.gcd (lv B32 a) (lv B32 b))):=by
 have la:=Qcc hA
 have lb:=Qcc hB
 refine zK Qd Tryz.func276 w276 Tryz.ntmps276 Tryz.results276 ?_
 (refine zG ?_;(repeat' ((with_reducible apply zBr)<;>intro h<;>refine zG ?_))<;>try exact .intro)
 refine (Qhb a (by omega) hA).call ⟨.self (Xs _),trivial⟩ (Zg _) ?_
 (refine zG ?_;(repeat' ((with_reducible apply zBr)<;>intro h<;>refine zG ?_))<;>try exact .intro)
 refine (Qhb b (by omega) hB).call ⟨.self (Xs _),trivial⟩ (Zg _) ?_
 (refine zG ?_;(repeat' ((with_reducible apply zBr)<;>intro h<;>refine zG ?_))<;>try exact .intro)
 refine Qg (fun n ts H=>∃ (x:Nat) (y:Nat),(Nat.gcd x y=Nat.gcd (lv B32 a) (lv B32 b))∧((dg B32 x).length≤1000000000000)∧((dg B32 y).length≤1000000000000)∧(H=[])∧(n=y)∧ts.length=25∧nth ts 0=Xy x∧nth ts 1=Xy y) ?_ (n:=lv B32 b) ?_
 ·skip
  rintro n ts H ⟨x,y,hg,hx,hy,hH,hn,hL,hs0,hs1⟩;refine Qv [(0,Xy x),(1,Xy y)] hL (by simp only [zFm,hs0,hs1,true_and];exact zNm) ?_
  clear hL hs0 hs1 ts
  refine Qw Qd ?_;subst hH;by_cases hcase:0<y
  ·have hp:=Xe7 hcase
   have hlt:=Nat.mod_lt x hcase
   have hm:=Qnr (Nat.le_of_lt hlt)
   have hg':=Qr0 x y
   (refine zG ?_;(repeat' ((with_reducible apply zBr)<;>intro h<;>refine zG ?_))<;>try exact .intro)
   refine (Qva x y (by omega) (by omega) hcase).call ⟨.self (Xs _),.self (Xs _),trivial⟩ (by simp [clo,Qf,Zg]) ?_
   rw [hg] at hg';generalize x%y=z at *
   (refine zG ?_;(repeat' ((with_reducible apply zBr)<;>intro h<;>refine zG ?_))<;>try exact .intro)
   exact ⟨z,by omega,y,z,(by (repeat' apply And.intro)<;>(first | rfl | omega | (congr 1;omega) | assumption | (congr 1;assumption)))⟩
  ·obtain rfl:y=0:=by omega
   have h00:(dg B32 0).length=0:=by rw [Yh];rfl
   (refine zG ?_;(repeat' ((with_reducible apply zBr)<;>intro h<;>refine zG ?_))<;>try exact .intro)
   rw [Nat.gcd_zero_right] at hg;refine Qh (fun g=>Xlq g _) ?_
   rw [← hg];rfl
 ·exact ⟨lv B32 a,lv B32 b,rfl,by omega,by omega,rfl,rfl,rfl,rfl,rfl⟩
theorem one_val:Val C 237 [] (Xy 1):=by
 refine zK Qd Tryz.func237 w237 Tryz.ntmps237 Tryz.results237 ?_
 (refine zG ?_;(repeat' ((with_reducible apply zBr)<;>intro h<;>refine zG ?_))<;>try exact .intro)
 refine Fc.isN (Qke 1 (by decide)) ⟨.self rfl,trivial⟩ fun v X hv=>?_
 (refine zG ?_;(repeat' ((with_reducible apply zBr)<;>intro h<;>refine zG ?_))<;>try exact .intro)
 exact Gd.ret hv.gd
theorem Xna (a b:List Nat) (ha:a.length≤1099511627776) (hb:b.length≤1099511627776) (hA:Lim a) (hB:Lim b) (h0:0<lv B32 b):Val C 278 [NA a,NA b] (Xy (lv B32 a/lv B32 b)):=by
 refine zK Qd Tryz.func278 w278 Tryz.ntmps278 Tryz.results278 ?_
 (refine zG ?_;(repeat' ((with_reducible apply zBr)<;>intro h<;>refine zG ?_))<;>try exact .intro)
 refine (Qjw a b ha hb hA hB h0).kept ⟨.self (Xs _),.self (Xs _),trivial⟩ fun v X hv=>?_
 obtain ⟨q,r,e,rfl,hq,_,_⟩:=hv.tup3
 (refine zG ?_;(repeat' ((with_reducible apply zBr)<;>intro h<;>refine zG ?_))<;>try exact .intro)
 exact Gd.ret hq
theorem Qu1 (a b:Nat) (ha:Qr a≤100000000000) (hb:Qr b≤100000000000):Pu C 202 [DV a,DV b] (DV (Nat.gcd a b)):=by
 refine zK Qd Tryz.func202 w202 Tryz.ntmps202 Tryz.results202 ?_
 (refine zG ?_;(repeat' ((with_reducible apply zBr)<;>intro h<;>refine zG ?_))<;>try exact .intro)
 refine Qg (fun n ts H=>∃ (x:Nat) (y:Nat),(Nat.gcd x y=Nat.gcd a b)∧(Qr x≤100000000000)∧(Qr y≤100000000000)∧(H=[])∧(n=y)∧ts.length=19∧nth ts 0=DV x∧nth ts 1=DV y) ?_ (n:=b) ?_
 ·skip
  rintro n ts H ⟨x,y,hg,hx,hy,hH,hn,hL,hs0,hs1⟩;refine Qv [(0,DV x),(1,DV y)] hL (by simp only [zFm,hs0,hs1,true_and];exact zNm) ?_
  clear hL hs0 hs1 ts
  refine Qw Qd ?_;subst hH
  have ly:(dg D10 y).length=Qr y:=rfl
  by_cases hcase:0<y
  ·have hp:Qr y≠0:=fun h=>by have:=dlen_zero.1 h;omega
   have hlt:=Nat.mod_lt x hcase
   have hm:=Jd (Nat.le_of_lt hlt)
   have hg':=Qr0 x y
   (refine zG ?_;(repeat' ((with_reducible apply zBr)<;>intro h<;>refine zG ?_))<;>try exact .intro)
   refine (Qds x y hx hy hcase).call ⟨.self (Ye _),.self (Ye _),trivial⟩ (by simp [clo,Qf,Ye]) ?_
   rw [hg] at hg';generalize x%y=z at *
   (refine zG ?_;(repeat' ((with_reducible apply zBr)<;>intro h<;>refine zG ?_))<;>try exact .intro)
   exact ⟨z,by omega,y,z,(by (repeat' apply And.intro)<;>(first | rfl | omega | (congr 1;omega) | assumption | (congr 1;assumption)))⟩
  ·obtain rfl:y=0:=by omega
   have hz:=dlen_zero.2 (rfl:(0:Nat)=0)
   have hz2:(dg D10 0).length=Qr 0:=rfl
   (refine zG ?_;(repeat' ((with_reducible apply zBr)<;>intro h<;>refine zG ?_))<;>try exact .intro)
   rw [Nat.gcd_zero_right] at hg;refine Qh (fun g=>by simp [ren,Kh]) ?_
   rw [← hg];rfl
 ·exact ⟨a,b,rfl,ha,hb,rfl,rfl,rfl,rfl,rfl⟩
def Qqs (r:Rq):V:=.agg [.bool r.neg,DV r.num,DV r.den]
def Qag (x:Raw):V:=.agg [.bool x.neg,NA x.num,NA x.den]
def Qe3 (r:Rq):V:=.agg [.bool r.neg,Xy r.num,Xy r.den]
theorem Qqv (r:Rq):Qe3 r=Qag (Yl r):=rfl
attribute [go_sem] Qqs Qag Qe3
theorem Qlr (r:Rq):clo (Qqs r)=true:=by simp [Qqs,clo,Qf,Ye]
theorem Xk (x:Raw):clo (Qag x)=true:=by simp [Qag,clo,Qf,Xs]
theorem Qsc (r:Rq):clo (Qe3 r)=true:=Xk (Yl r)
theorem Xm1 (b:Nat) (hb:1<b):dg b 1=[1]:=by
 rw [Qcs hb (by decide),Nat.mod_eq_of_lt hb,Nat.div_eq_of_lt hb,Yh]
theorem Qp7:DV 1=.sl 1 [.int .i64 1]:=by rw [DV,Xm1 _ Qdj];rfl
theorem Xjv:DV 0=.sl 0 []:=by rw [DV,Yh];rfl
theorem Qzl:Xy 0=.sl 0 []:=by rw [Xy,Yh];rfl
theorem Xer {H:Qa}:Gd H .nil (DV 0):=by rw [Xjv];exact .nil _
theorem Qo6 {H:Qa}:Gd H .nil (Xy 0):=by rw [Qzl];exact .nil _
theorem Qh8 {H:Qa} (b:Bool):Gd H (.bool b) (.bool b):=.leaf _ rfl rfl
theorem Xiu {H:Qa} (k:IntKind) (n:Int):Gd H (.int k n) (.int k n):=.leaf _ rfl rfl
theorem Qqk {k:IntKind} (b:Bool) (l m:List Nat):∃ v H,Gd H v (.agg [.bool b,.sl l.length (Qz k l),.sl m.length (Qz k m)])∧Jb H :=
 ⟨.agg [.bool b,.ref 0 0 l.length,.ref 1 0 m.length],[some ⟨0,1,Qz k l⟩,some ⟨0,1,Qz k m⟩],Gd.aggL ⟨Qh8 b,.flat 0 _ 0 1 _ rfl (Qp _ _) (Xq _ _),.flat 1 _ 0 1 _ rfl (Qp _ _) (Xq _ _),trivial⟩,fun r row hr=>by
  match r,hr with
  | 0,hr=>simp at hr;subst hr;exact Xq _ _
  | 1,hr=>simp at hr;subst hr;exact Xq _ _
  | r+2,hr=>simp at hr⟩
theorem Qmx (r:Rq):∃ v H,Gd H v (Qqs r)∧Jb H:=Qqk (k:=.i64) r.neg (dg D10 r.num) (dg D10 r.den)
theorem Qmz (x:Raw):∃ v H,Gd H v (Qag x)∧Jb H:=Qqk (k:=.u32) x.neg x.num x.den
theorem Qyp (r:Rq):∃ v H,Gd H v (Qe3 r)∧Jb H:=Qmz (Yl r)
theorem Qkf (l:List Nat):∃ v H,Gd H v (NA l)∧Jb H:=Gd.some_sl (Qp _ _) (Xq _ _)
theorem Js {H:Qa} {v:V} {n:Nat} {cs:List V} (h:Gd H v (.sl n cs)):kn v=true∧cellsOf v=[v]∧Yc v=true:=by
 generalize hu:V.sl n cs=u at h;cases h with
 | leaf v hc hp=>subst hu;exact ⟨rfl,rfl,rfl⟩
 | nil cs=>exact ⟨rfl,rfl,rfl⟩
 | ref r n row cs hr hp hl h=>exact ⟨rfl,rfl,rfl⟩
 | agg l m hl h=>cases hu
 | tup l m hl h=>cases hu
theorem Qrh (s:Bool) (p q:Nat) (hp:Qr p≤30000000000) (hq:Qr q≤30000000000):Val C 106 [.bool s,DV p,DV q] (Qqs (Qdc s p q)):=by
 have lp:(dg D10 p).length=Qr p:=rfl
 have lq:(dg D10 q).length=Qr q:=rfl
 have hp0:p=0↔Qr p=0:=dlen_zero.symm
 have hq0:q=0↔Qr q=0:=dlen_zero.symm
 refine zK Qd Tryz.func106 w106 Tryz.ntmps106 Tryz.results106 ?_
 (refine zG ?_;(repeat' ((with_reducible apply zBr)<;>intro h<;>refine zG ?_))<;>try exact .intro)
 ·rw [Qep (.inl (by omega))]
  refine Gd.ret (Gd.aggL ⟨Qh8 _,Xer, ?_,trivial⟩);rw [Qp7];exact .flat _ _ _ _ _ rfl rfl rfl
 ·rw [Qep (.inr (by omega))]
  refine Gd.ret (Gd.aggL ⟨Qh8 _,Xer, ?_,trivial⟩);rw [Qp7];exact .flat _ _ _ _ _ rfl rfl rfl
 ·have hpq:¬ (p=0∨q=0):=by omega
  have hg:=Qr1 hpq
  rw [Qnc hpq];refine Fc.pure (Qu1 p q (by omega) (by omega)) (by simp [Qf,clo,Qp]) (fun g=>by simp [DV,DA,ren,Kh]) ?_
  have hgl:Qr (Nat.gcd p q)≤Qr p:=Jd (Nat.gcd_le_left _ (by omega))
  generalize Nat.gcd p q=g at *
  (refine zG ?_;(repeat' ((with_reducible apply zBr)<;>intro h<;>refine zG ?_))<;>try exact .intro)
  refine (Qds p g (by omega) (by omega) hg).keptF ⟨.self (Ye _),.self (Ye _),trivial⟩ fun v X hv=>?_
  obtain ⟨v1,v2,rfl,hv1,hv2⟩:=hv.tup2
  (refine zG ?_;(repeat' ((with_reducible apply zBr)<;>intro h<;>refine zG ?_))<;>try exact .intro)
  refine (Qds q g (by omega) (by omega) hg).keptF ⟨.self (Ye _),.self (Ye _),trivial⟩ fun w Y hw=>?_
  obtain ⟨w1,w2,rfl,hw1,hw2⟩:=hw.tup2;obtain ⟨k1,c1,s1⟩:=Js hv1.gd;obtain ⟨k2,c2,s2⟩:=Js hw1.gd
  (apply Zo;repeat' ((with_reducible first|apply Zk|apply zBr<;>intro h)<;>try simp -implicitDefEqProofs (maxSteps:=9^7) (disch:=first|exact zDs|fail) only [go_sem,k1,c1,s1,k2,c2,s2]))
  exact Gd.ret (Gd.aggL ⟨Qh8 _,((hv1.app Y).set (q:=0) (by decide) _).gd,(hw1.set (q:=0) (by simp) _).gd,trivial⟩)
theorem Qna (x:Raw) (h:RawOK x):Val C 49 [Qag x] (Qqs (Xm x)):=by
 have h1:=h.n1
 have h2:=h.d1
 refine zK Qd Tryz.func49 w49 Tryz.ntmps49 Tryz.results49 ?_
 (refine zG ?_;(repeat' ((with_reducible apply zBr)<;>intro h<;>refine zG ?_))<;>try exact .intro)
 refine (Qm9 x.num (by omega) h.nL).pc ⟨.self (Xs _),trivial⟩ (Ye _) ?_
 (refine zG ?_;(repeat' ((with_reducible apply zBr)<;>intro h<;>refine zG ?_))<;>try exact .intro)
 refine (Qm9 x.den (by omega) h.dL).pc ⟨.self (Xs _),trivial⟩ (Ye _) ?_
 (refine zG ?_;(repeat' ((with_reducible apply zBr)<;>intro h<;>refine zG ?_))<;>try exact .intro)
 refine Pc.keptF (Qrh x.neg (lv B32 x.num) (lv B32 x.den) h.p h.q) (Qmx _) ⟨.self rfl,.self (Ye _),.self (Ye _),trivial⟩ fun v X hv=>?_
 obtain ⟨v1,v2,v3,rfl,hv1,hv2,hv3⟩:=hv.agg3;obtain ⟨k2,c2,s2⟩:=Js hv2.gd;obtain ⟨k3,c3,s3⟩:=Js hv3.gd
 have e1:=hv1.gd.bool_inv
 subst e1
 (apply Zo;repeat' ((with_reducible first|apply Zk|apply zBr<;>intro h)<;>try simp -implicitDefEqProofs (maxSteps:=9^7) (disch:=first|exact zDs|fail) only [go_sem,k2,c2,s2,k3,c3,s3]))
 exact Gd.ret (Gd.aggL ⟨Qh8 _,(hv2.set (q:=1) (by simp) _).gd,(hv3.set (q:=1) (by simp) _).gd,trivial⟩)
theorem Qso (r:Rq) (h:RqOK r):Val C 115 [Qqs r] (Qe3 r):=by
 have h1:=h.n1
 have h2:=h.d1
 refine zK Qd Tryz.func115 w115 Tryz.ntmps115 Tryz.results115 ?_
 (refine zG ?_;(repeat' ((with_reducible apply zBr)<;>intro h<;>refine zG ?_))<;>try exact .intro)
 refine Pc.keptF (Qld r.num (by omega)) (Qkf _) ⟨.self (Ye _),trivial⟩ fun v X hv=>?_
 obtain ⟨k1,c1,s1⟩:=Js hv.gd
 (apply Zo;repeat' ((with_reducible first|apply Zk|apply zBr<;>intro h)<;>try simp -implicitDefEqProofs (maxSteps:=9^7) (disch:=first|exact zDs|fail) only [go_sem,k1,c1,s1]))
 refine Pc.keptF (Qld r.den (by omega)) (Qkf _) ⟨.self (Ye _),trivial⟩ fun w Y hw=>?_
 obtain ⟨k2,c2,s2⟩:=Js hw.gd
 (apply Zo;repeat' ((with_reducible first|apply Zk|apply zBr<;>intro h)<;>try simp -implicitDefEqProofs (maxSteps:=9^7) (disch:=first|exact zDs|fail) only [go_sem,k1,c1,s1,k2,c2,s2]))
 exact Gd.ret (Gd.aggL ⟨Qh8 _,((hv.app Y).set (q:=1) (by simp) _).gd,(hw.set (q:=1) (by simp) _).gd,trivial⟩)
theorem Qql (n:Int) (h1:-9223372036854775808≤n) (h2:n<9223372036854775808):Val C 114 [.int .i64 n] (DV n.natAbs):=by
 refine zK Qd Tryz.func114 w114 Tryz.ntmps114 Tryz.results114 ?_
 (refine zG ?_;(repeat' ((with_reducible apply zBr)<;>intro h<;>refine zG ?_))<;>try exact .intro)
 ·have e:0 - (n+1)=((n.natAbs - 1:Nat):Int):=by omega
  have hl:Qr (n.natAbs - 1)≤16:=Qad (Nat.lt_of_lt_of_le (show n.natAbs - 1<9223372036854775808 by omega) (by decide))
  (apply Zo;repeat' ((with_reducible first|apply Zk|apply zBr<;>intro h)<;>try simp -implicitDefEqProofs (maxSteps:=9^7) (disch:=first|exact zDs|fail) only [go_sem,e]))
  refine (Qgp (n.natAbs - 1) (by omega)).call ⟨.self rfl,trivial⟩ (Ye _) ?_
  (apply Zo;repeat' ((with_reducible first|apply Zk|apply zBr<;>intro h)<;>try simp -implicitDefEqProofs (maxSteps:=9^7) (disch:=first|exact zDs|fail) only [go_sem,e]))
  have h1:Qr 1≤1:=Nat.le_of_eq Qlp
  refine (Ql6 (n.natAbs - 1) 1 (by omega) (by omega)).kept ⟨.self (Ye _),Gd.bor (by rw [Qp7];exact .flat _ _ _ _ _ rfl rfl rfl),trivial⟩ fun v X hv=>?_
  (refine zG ?_;(repeat' ((with_reducible apply zBr)<;>intro h<;>refine zG ?_))<;>try exact .intro)
  rw [show n.natAbs - 1+1=n.natAbs by omega] at hv
  exact Gd.ret hv
 ·have e:n=((n.natAbs:Nat):Int):=by omega
  rw [e,Int.natAbs_natCast];refine (Qgp n.natAbs (by omega)).kept ⟨.self rfl,trivial⟩ fun v X hv=>?_
  (refine zG ?_;(repeat' ((with_reducible apply zBr)<;>intro h<;>refine zG ?_))<;>try exact .intro)
  exact Gd.ret hv
theorem Qut (n:Int) (h1:-9223372036854775808≤n) (h2:n<9223372036854775808):Val C 52 [.int .i64 n] (Qqs (Qcn n)):=by
 refine zK Qd Tryz.func52 w52 Tryz.ntmps52 Tryz.results52 ?_
 (refine zG ?_;(repeat' ((with_reducible apply zBr)<;>intro h<;>refine zG ?_))<;>try exact .intro)
 refine (Qql n h1 h2).keptF ⟨.self rfl,trivial⟩ fun v X hv=>?_
 obtain ⟨k1,c1,s1⟩:=Js hv.gd
 (apply Zo;repeat' ((with_reducible first|apply Zk|apply zBr<;>intro h)<;>try simp -implicitDefEqProofs (maxSteps:=9^7) (disch:=first|exact zDs|fail) only [go_sem,k1,c1,s1]))
 refine Gd.ret (Gd.aggL ⟨Qh8 _,((hv.app _).set (q:=0) (by simp) _).gd, ?_,trivial⟩)
 rw [show (Qcn n).den=1 from rfl,Qp7];exact .flat _ _ _ _ _ (Xx _ _) rfl rfl
theorem Qqp (x y:Raw) (hx:RawOK x) (hy:RawOK y):Pu C 51 [Qag x,Qag y] (.bool (Qjf (Xm x) (Xm y))):=by
 have h1:=hx.val.n1
 have h2:=hx.val.d1
 have h3:=hy.val.n1
 have h4:=hy.val.d1
 have hc:∀ a b:Nat,Qc0 a b=0↔a=b:=fun a b=>by unfold Qc0;split<;>(try split)<;>omega
 have hcb:∀ a b:Nat,(Qc0 a b==0)=decide (a=b):=fun a b=>by rw [Bool.eq_iff_iff,beq_iff_eq,decide_eq_true_eq,hc]
 refine zK Qd Tryz.func51 w51 Tryz.ntmps51 Tryz.results51 ?_
 (refine zG ?_;(repeat' ((with_reducible apply zBr)<;>intro h<;>refine zG ?_))<;>try exact .intro)
 refine (Qna x hx).pc ⟨.self (Xk _),trivial⟩ (Qlr _) ?_
 (refine zG ?_;(repeat' ((with_reducible apply zBr)<;>intro h<;>refine zG ?_))<;>try exact .intro)
 refine (Qna y hy).pc ⟨.self (Xk _),trivial⟩ (Qlr _) ?_;generalize Xm x=r at *;generalize Xm y=t at *
 (refine zG ?_;(repeat' ((with_reducible apply zBr)<;>intro h<;>refine zG ?_))<;>try exact .intro)
 ·refine Fc.pure (Qew r.num t.num (by omega) (by omega)) (by simp [Qf,clo,Qp]) (fun g=>rfl) ?_
  (refine zG ?_;(repeat' ((with_reducible apply zBr)<;>intro h<;>refine zG ?_))<;>try exact .intro)
  ·refine Fc.pure (Qew r.den t.den (by omega) (by omega)) (by simp [Qf,clo,Qp]) (fun g=>rfl) ?_
   (refine zG ?_;(repeat' ((with_reducible apply zBr)<;>intro h<;>refine zG ?_))<;>try exact .intro)
   (refine Qh (by intro g;simp only [go_sem,ren,Qe]) ?_)
   simp_all [Qjf]
  ·skip
   (refine Qh (by intro g;simp only [go_sem,ren,Qe]) ?_)
   simp_all [Qjf]
 ·skip
  (refine Qh (by intro g;simp only [go_sem,ren,Qe]) ?_)
  simp_all [Qjf]
theorem Qty (x:Raw) (h:RawOK x):Val C 94 [Qag x] (Qag x):=by
 have h1:=h.n1
 have h2:=h.d1
 refine zK Qd Tryz.func94 w94 Tryz.ntmps94 Tryz.results94 ?_
 (refine zG ?_;(repeat' ((with_reducible apply zBr)<;>intro h<;>refine zG ?_))<;>try exact .intro)
 refine Pc.keptF (Qk2 x.num (by omega)) (Qkf _) ⟨.self (Xs _),trivial⟩ fun v X hv=>?_
 obtain ⟨k1,c1,s1⟩:=Js hv.gd
 (apply Zo;repeat' ((with_reducible first|apply Zk|apply zBr<;>intro h)<;>try simp -implicitDefEqProofs (maxSteps:=9^7) (disch:=first|exact zDs|fail) only [go_sem,k1,c1,s1]))
 refine Pc.keptF (Qk2 x.den (by omega)) (Qkf _) ⟨.self (Xs _),trivial⟩ fun w Y hw=>?_
 obtain ⟨k2,c2,s2⟩:=Js hw.gd
 (apply Zo;repeat' ((with_reducible first|apply Zk|apply zBr<;>intro h)<;>try simp -implicitDefEqProofs (maxSteps:=9^7) (disch:=first|exact zDs|fail) only [go_sem,k1,c1,s1,k2,c2,s2]))
 exact Gd.ret (Gd.aggL ⟨Qh8 _,((hv.app Y).set (q:=1) (by simp) _).gd,(hw.set (q:=1) (by simp) _).gd,trivial⟩)
end Go.Proofs.YtepjcbnpbcmfcaaGreat
end
section
namespace Go.Proofs.YtepjcbnpbcmfcaaGreat
open Go.Bv
def Qe1 (s:Bool) (p q:Nat):Rq × Int:=if q=0 then (⟨false,0,0⟩,17) else (Qdc s p q,0)
theorem Qne (a:List Nat) (g:Nat) (ha:a.length≤1099511627776) (hA:Lim a) (hg:(dg B32 g).length≤1099511627776) (h0:0<g):Val C 277 [NA a,.rp [Xy g] 0] (Xy (lv B32 a/g)):=by
 refine zK Qd Tryz.func277 w277 Tryz.ntmps277 Tryz.results277 ?_
 (refine zG ?_;(repeat' ((with_reducible apply zBr)<;>intro h<;>refine zG ?_))<;>try exact .intro)
 have hb:=Xna a (dg B32 g) ha hg hA (Yz _) (by rw [Yg];exact h0)
 rw [Yg] at hb;refine hb.kept ⟨.self (Xs _),.self (Xs _),trivial⟩ fun v X hv=>?_
 (refine zG ?_;(repeat' ((with_reducible apply zBr)<;>intro h<;>refine zG ?_))<;>try exact .intro)
 exact Gd.ret hv
theorem Qsl (x:Nat):(Zx x:Int)=0↔x=0:=by
 constructor
 ·intro h
  have:=Qif x
  rw [show Zx x=0 by omega] at this
  simpa using this
 ·rintro rfl;simp [Qi4]
theorem Qnj (s:Bool) (a b:List Nat) (ha:a.length≤1000000000000) (hb:b.length≤1000000000000) (hA:Lim a) (hB:Lim b):Val C 238 [.bool s,NA a,NA b] (.tup [Qe3 (Qe1 s (lv B32 a) (lv B32 b)).1,.int .i64 (Qe1 s (lv B32 a) (lv B32 b)).2]):=by
 have ip:=Qsl (lv B32 a)
 have iq:=Qsl (lv B32 b)
 have hla:=Qcc hA
 refine zK Qd Tryz.func238 w238 Tryz.ntmps238 Tryz.results238 ?_
 (refine zG ?_;(repeat' ((with_reducible apply zBr)<;>intro h<;>refine zG ?_))<;>try exact .intro)
 refine Fc.pure (Qgb b (by omega) hB) (by simp [Qf,clo,Qp]) (fun g=>rfl) ?_
 (refine zG ?_;(repeat' ((with_reducible apply zBr)<;>intro h<;>refine zG ?_))<;>try exact .intro)
 ·rw [Qe1,if_pos (iq.1 h)];refine Gd.ret (Gd.tupL ⟨Gd.aggL ⟨Qh8 _,Qo6,Qo6,trivial⟩,Xiu _ _,trivial⟩)
 ·have hq0:¬ lv B32 b=0:=fun hh=>h (iq.2 hh)
  refine Fc.pure (Qgb a (by omega) hA) (by simp [Qf,clo,Qp]) (fun g=>rfl) ?_
  rw [Qe1,if_neg hq0]
  (refine zG ?_;(repeat' ((with_reducible apply zBr)<;>intro h<;>refine zG ?_))<;>try exact .intro)
  ·rw [Qep (.inl (ip.1 ‹_›))];refine one_val.keptF trivial fun v X hv=>?_
   obtain ⟨k1,c1,s1⟩:=Js hv.gd
   (apply Zo;repeat' ((with_reducible first|apply Zk|apply zBr<;>intro h)<;>try simp -implicitDefEqProofs (maxSteps:=9^7) (disch:=first|exact zDs|fail) only [go_sem,k1,c1,s1]))
   refine Gd.ret (Gd.tupL ⟨Gd.aggL ⟨Qh8 _,Qo6,(hv.set (q:=0) (by simp) _).gd,trivial⟩,Xiu _ _,trivial⟩)
  ·have hp0:¬ lv B32 a=0:=fun hh=>‹¬ (Zx (lv B32 a):Int)=0› (ip.2 hh)
   have hpq:¬ (lv B32 a=0∨lv B32 b=0):=by omega
   have hg:=Qr1 hpq
   rw [Qnc hpq];refine Fc.pure (Xes a b (by omega) (by omega) hA hB) (by simp [Qf,clo,Qp]) (fun g=>by simp [Xy,NA,ren,Kh]) ?_
   have hgl:=Qnr (Nat.gcd_le_left (lv B32 b) (show 0<lv B32 a by omega))
   generalize Nat.gcd (lv B32 a) (lv B32 b)=g at *
   (refine zG ?_;(repeat' ((with_reducible apply zBr)<;>intro h<;>refine zG ?_))<;>try exact .intro)
   refine (Qne a g (by omega) hA (by omega) hg).keptF (Qdh 5 (by simp [go_sem,Qc1,clo,Qf,Qc])) fun v X hv=>?_
   obtain ⟨k1,c1,s1⟩:=Js hv.gd
   (apply Zo;repeat' ((with_reducible first|apply Zk|apply zBr<;>intro h)<;>try simp -implicitDefEqProofs (maxSteps:=9^7) (disch:=first|exact zDs|fail) only [go_sem,k1,c1,s1]))
   refine (Qne b g (by omega) hB (by omega) hg).keptF (Qdh 5 (by simp [go_sem,Qc1,clo,Qf,Qc])) fun w Y hw=>?_
   obtain ⟨k2,c2,s2⟩:=Js hw.gd
   (apply Zo;repeat' ((with_reducible first|apply Zk|apply zBr<;>intro h)<;>try simp -implicitDefEqProofs (maxSteps:=9^7) (disch:=first|exact zDs|fail) only [go_sem,k1,c1,s1,k2,c2,s2]))
   exact Gd.ret (Gd.tupL ⟨Gd.aggL ⟨Qh8 _,((hv.app Y).set (q:=0) (by simp) _).gd,(hw.set (q:=0) (by simp) _).gd,trivial⟩,Xiu _ _,trivial⟩)
theorem Qhu (x:Raw) (h:RawOK x):Val C 168 [Qag x] (Qe3 (Xm x)):=by
 have h1:=h.n1
 have h2:=h.d1
 have hm:=Qnj x.neg x.num x.den (by omega) (by omega) h.nL h.dL
 refine zK Qd Tryz.func168 w168 Tryz.ntmps168 Tryz.results168 ?_
 (refine zG ?_;(repeat' ((with_reducible apply zBr)<;>intro h<;>refine zG ?_))<;>try exact .intro)
 by_cases h0:lv B32 x.den=0
 ·rw [Qe1,if_pos h0] at hm;refine hm.call ⟨.self rfl,.self (Xs _),.self (Xs _),trivial⟩ (by simp [clo,Qf,Qsc]) ?_
  (refine zG ?_;(repeat' ((with_reducible apply zBr)<;>intro h<;>refine zG ?_))<;>try exact .intro)
  refine one_val.keptF trivial fun v X hv=>?_
  obtain ⟨k1,c1,s1⟩:=Js hv.gd
  (apply Zo;repeat' ((with_reducible first|apply Zk|apply zBr<;>intro h)<;>try simp -implicitDefEqProofs (maxSteps:=9^7) (disch:=first|exact zDs|fail) only [go_sem,k1,c1,s1]))
  have e:Xm x=⟨false,0,1⟩:=Qep (.inr h0)
  rw [e];exact Gd.ret (Gd.aggL ⟨Qh8 _,Qo6,(hv.set (q:=1) (by simp) _).gd,trivial⟩)
 ·rw [Qe1,if_neg h0] at hm;refine hm.keptF ⟨.self rfl,.self (Xs _),.self (Xs _),trivial⟩ fun v X hv=>?_
  obtain ⟨w,e,rfl,hw,he⟩:=hv.tup2;obtain ⟨v1,v2,v3,rfl,hv1,hv2,hv3⟩:=hw.agg3;obtain ⟨k2,c2,s2⟩:=Js hv2.gd;obtain ⟨k3,c3,s3⟩:=Js hv3.gd;rw [hv1.gd.bool_inv,he.gd.int_inv]
  (apply Zo;repeat' ((with_reducible first|apply Zk|apply zBr<;>intro h)<;>try simp -implicitDefEqProofs (maxSteps:=9^7) (disch:=first|exact zDs|fail) only [go_sem,k2,c2,s2,k3,c3,s3]))
  have e:Xm x=Qdc x.neg (lv B32 x.num) (lv B32 x.den):=rfl
  rw [e];exact Gd.ret (Gd.aggL ⟨Qh8 _,((hv2.app _).set (q:=1) (by simp) _).gd,((hv3.app _).set (q:=1) (by simp) _).gd,trivial⟩)
theorem Qh2 (a b:List Nat) (ha:a.length≤1000000000000) (hb:b.length≤1000000000000) (hA:Lim a) (hB:Lim b):Pu C 273 [NA a,NA b] (.bool (decide (a=b))):=by
 have hc:Qc0 (lv B32 a) (lv B32 b)=0↔lv B32 a=lv B32 b:=by unfold Qc0;split<;>(try split)<;>omega
 refine zK Qd Tryz.func273 w273 Tryz.ntmps273 Tryz.results273 ?_
 (refine zG ?_;(repeat' ((with_reducible apply zBr)<;>intro h<;>refine zG ?_))<;>try exact .intro)
 ·refine Fc.pure (Qs5 a b (by omega) (by omega) hA hB) (by simp [Qf,clo,Qp]) (fun g=>rfl) ?_
  (refine zG ?_;(repeat' ((with_reducible apply zBr)<;>intro h<;>refine zG ?_))<;>try exact .intro)
  (refine Qh (by intro g;simp only [go_sem,ren,Qe]) ?_)
  (simp only [V.tup.injEq,List.cons.injEq,V.int.injEq,V.bool.injEq,true_and,and_true];(try rw [Bool.eq_iff_iff]);(try simp only [decide_eq_true_eq,decide_eq_false_iff_not,Decidable.not_not,true_and,and_true,Bool.not_eq_true,Bool.not_eq_eq_eq_not,Bool.not_true,Bool.and_eq_true,Bool.or_eq_true,beq_iff_eq,bne_iff_ne,ne_eq,Bool.false_eq_true,false_iff,true_iff,iff_false,iff_true]);(try omega))
  rw [hc];exact ⟨fun hh=>Qlb (b:=B32) (by decide) hA hB (by omega) hh,fun hh=>by rw [hh]⟩
 ·skip
  (refine Qh (by intro g;simp only [go_sem,ren,Qe]) ?_)
  (simp only [V.tup.injEq,List.cons.injEq,V.int.injEq,V.bool.injEq,true_and,and_true];(try rw [Bool.eq_iff_iff]);(try simp only [decide_eq_true_eq,decide_eq_false_iff_not,Decidable.not_not,true_and,and_true,Bool.not_eq_true,Bool.not_eq_eq_eq_not,Bool.not_true,Bool.and_eq_true,Bool.or_eq_true,beq_iff_eq,bne_iff_ne,ne_eq,Bool.false_eq_true,false_iff,true_iff,iff_false,iff_true]);(try omega))
  intro hh;rw [hh] at h;exact h rfl
theorem Xdi (x:Raw) (hx:RawOK x):Pu C 234 [Qag x] (.int .i64 (if okR x then 0 else 6)):=by
 have h1:=hx.n1
 have h2:=hx.d1
 have h3:=hx.val.n1
 have h4:=hx.val.d1
 have h5:(dg B32 (Xm x).num).length≤Qr (Xm x).num:=Qgu _
 have h6:(dg B32 (Xm x).den).length≤Qr (Xm x).den:=Qgu _
 have hk:okR x=isQ (Xm x) x:=rfl
 refine zK Qd Tryz.func234 w234 Tryz.ntmps234 Tryz.results234 ?_
 (refine zG ?_;(repeat' ((with_reducible apply zBr)<;>intro h<;>refine zG ?_))<;>try exact .intro)
 refine (Qhu x hx).call ⟨.self (Xk _),trivial⟩ (Qsc _) ?_;rw [hk];generalize Xm x=r at *
 (refine zG ?_;(repeat' ((with_reducible apply zBr)<;>intro h<;>refine zG ?_))<;>try exact .intro)
 ·have hn:r.neg=x.neg:=by simpa using h
  refine Fc.pure (Qh2 (dg B32 r.num) x.num (by omega) (by omega) (Yz _) hx.nL) (by simp [Qf,clo,Qp]) (fun g=>rfl) ?_
  (refine zG ?_;(repeat' ((with_reducible apply zBr)<;>intro h<;>refine zG ?_))<;>try exact .intro)
  ·rename_i hm;refine Fc.pure (Qh2 (dg B32 r.den) x.den (by omega) (by omega) (Yz _) hx.dL) (by simp [Qf,clo,Qp]) (fun g=>rfl) ?_
   (refine zG ?_;(repeat' ((with_reducible apply zBr)<;>intro h<;>refine zG ?_))<;>try exact .intro)
   ·skip
    (refine Qh (by intro g;simp only [go_sem,ren,Qe]) ?_)
    rw [if_pos (Qkb.2 ?_)];obtain ⟨a,b,c⟩:=x
    simp_all [Yl,B32]
   ·skip
    (refine Qh (by intro g;simp only [go_sem,ren,Qe]) ?_)
    rw [if_neg fun hh=>h (by rw [Qkb.1 hh];rfl)]
  ·skip
   (refine Qh (by intro g;simp only [go_sem,ren,Qe]) ?_)
   rw [if_neg fun hh=>h (by rw [Qkb.1 hh];rfl)]
 ·skip
  (refine Qh (by intro g;simp only [go_sem,ren,Qe]) ?_)
  rw [if_neg fun hh=>by rw [Qkb.1 hh] at h;simp [Yl] at h]
theorem Xbx (n:Int) (h1:-9223372036854775808≤n) (h2:n<9223372036854775808):Val C 236 [.int .i64 n] (Xy n.natAbs):=by
 refine zK Qd Tryz.func236 w236 Tryz.ntmps236 Tryz.results236 ?_
 (refine zG ?_;(repeat' ((with_reducible apply zBr)<;>intro h<;>refine zG ?_))<;>try exact .intro)
 ·have e:0 - (n+1)=((n.natAbs - 1:Nat):Int):=by omega
  (apply Zo;repeat' ((with_reducible first|apply Zk|apply zBr<;>intro h)<;>try simp -implicitDefEqProofs (maxSteps:=9^7) (disch:=first|exact zDs|fail) only [go_sem,e]))
  rw [show ((n.natAbs - 1:Nat):Int)+1=((n.natAbs:Nat):Int) by omega]
  refine Fc.isN (Qke n.natAbs (by omega)) ⟨.self rfl,trivial⟩ fun v X hv=>?_
  (refine zG ?_;(repeat' ((with_reducible apply zBr)<;>intro h<;>refine zG ?_))<;>try exact .intro)
  exact Gd.ret hv.gd
 ·have e:n=((n.natAbs:Nat):Int):=by omega
  rw [e,Int.natAbs_natCast];refine Fc.isN (Qke n.natAbs (by omega)) ⟨.self rfl,trivial⟩ fun v X hv=>?_
  (refine zG ?_;(repeat' ((with_reducible apply zBr)<;>intro h<;>refine zG ?_))<;>try exact .intro)
  exact Gd.ret hv.gd
theorem Xim (n:Int) (h1:-9223372036854775808≤n) (h2:n<9223372036854775808):Val C 167 [.int .i64 n] (Qe3 (Qcn n)):=by
 refine zK Qd Tryz.func167 w167 Tryz.ntmps167 Tryz.results167 ?_
 (refine zG ?_;(repeat' ((with_reducible apply zBr)<;>intro h<;>refine zG ?_))<;>try exact .intro)
 refine (Xbx n h1 h2).keptF ⟨.self rfl,trivial⟩ fun v X hv=>?_
 obtain ⟨k1,c1,s1⟩:=Js hv.gd
 (apply Zo;repeat' ((with_reducible first|apply Zk|apply zBr<;>intro h)<;>try simp -implicitDefEqProofs (maxSteps:=9^7) (disch:=first|exact zDs|fail) only [go_sem,k1,c1,s1]))
 refine one_val.keptF trivial fun w Y hw=>?_
 obtain ⟨k2,c2,s2⟩:=Js hw.gd
 (apply Zo;repeat' ((with_reducible first|apply Zk|apply zBr<;>intro h)<;>try simp -implicitDefEqProofs (maxSteps:=9^7) (disch:=first|exact zDs|fail) only [go_sem,k1,c1,s1,k2,c2,s2]))
 exact Gd.ret (Gd.aggL ⟨Qh8 _,((hv.app _).set (q:=0) (by simp) _).gd,(hw.set (q:=0) (by simp) _).gd,trivial⟩)
def Xhi (x:Raw):V × V × V:=(.bool x.neg,NA x.num,NA x.den)
def Xhf (r:Rq):V × V × V:=(.bool r.neg,DV r.num,DV r.den)
def Qx (xs:List Raw):List V:=Qb2 Xhi xs
def Qe0 (rs:List Rq):List V:=Qb2 Xhf rs
def tnV (t:Tn):V:=.agg [.sl t.shape.length (ints t.shape),.sl t.el.length (Qx t.el)]
def tqV (t:Tq):V:=.agg [.sl t.shape.length (ints t.shape),.sl t.el.length (Qe0 t.el)]
attribute [go_sem] tnV tqV
@[go_sem] theorem Xn0 (xs:List Raw):(Qx xs).length=xs.length*3:=Qeu _ _
@[go_sem] theorem Xnz (xs:List Rq):(Qe0 xs).length=xs.length*3:=Qeu _ _
@[go_sem] theorem Xn7 (xs:List Raw) (i:Nat) (h:i<xs.length):nth (Qx xs) (i*3)=.bool (xs.getD i r0).neg:=(Ju Xhi r0 xs i h).1
@[go_sem] theorem Xn6 (xs:List Raw) (i:Nat) (h:i<xs.length):nth (Qx xs) (i*3+1)=NA (xs.getD i r0).num:=(Ju Xhi r0 xs i h).2.1
@[go_sem] theorem Xn5 (xs:List Raw) (i:Nat) (h:i<xs.length):nth (Qx xs) (i*3+2)=NA (xs.getD i r0).den:=(Ju Xhi r0 xs i h).2.2
@[go_sem] theorem Xn4 (xs:List Rq) (i:Nat) (h:i<xs.length):nth (Qe0 xs) (i*3)=.bool (xs.getD i q0).neg:=(Ju Xhf q0 xs i h).1
@[go_sem] theorem Xn3 (xs:List Rq) (i:Nat) (h:i<xs.length):nth (Qe0 xs) (i*3+1)=DV (xs.getD i q0).num:=(Ju Xhf q0 xs i h).2.1
@[go_sem] theorem Xn2 (xs:List Rq) (i:Nat) (h:i<xs.length):nth (Qe0 xs) (i*3+2)=DV (xs.getD i q0).den:=(Ju Xhf q0 xs i h).2.2
theorem Qt (xs:List Raw):Qf (Qx xs)=true:=Qlt fun x=>⟨rfl,Xs _,Xs _⟩
theorem Qpk (t:Tn):clo (tnV t)=true:=by simp [tnV,clo,Qf,Qb,Qt]
theorem Qkq (xs ys:List Int) (hx:xs.length≤17592186044416):Pu C 17 [.sl xs.length (ints xs),.sl ys.length (ints ys)] (.bool (decide (xs=ys))):=by
 refine zK Qd Tryz.func17 w17 Tryz.ntmps17 Tryz.results17 ?_
 (refine zG ?_;(repeat' ((with_reducible apply zBr)<;>intro h<;>refine zG ?_))<;>try exact .intro)
 ·skip
  (refine Qh (by intro g;simp only [go_sem,ren,Qe]) ?_)
  (simp only [V.tup.injEq,List.cons.injEq,V.int.injEq,V.bool.injEq,true_and,and_true];(try rw [Bool.eq_iff_iff]);(try simp only [decide_eq_true_eq,decide_eq_false_iff_not,Decidable.not_not,true_and,and_true,Bool.not_eq_true,Bool.not_eq_eq_eq_not,Bool.not_true,Bool.and_eq_true,Bool.or_eq_true,beq_iff_eq,bne_iff_ne,ne_eq,Bool.false_eq_true,false_iff,true_iff,iff_false,iff_true]);(try omega))
  intro hh;subst hh;omega
 ·skip
  refine Qg (fun n ts H=>∃ (i:Nat),(i≤xs.length)∧((∀ j,j<i→xs.getD j 0=ys.getD j 0))∧(n=xs.length - i)∧(H=[])∧ts.length=26∧nth ts 0=.sl xs.length (ints xs)∧nth ts 1=.sl ys.length (ints ys)∧nth ts 5=.int .i64 (i:Nat)) ?_ (n:=xs.length) ?_
  ·skip
   rintro n ts H ⟨i,hi,hI,hn,hH,hL,hs0,hs1,hs5⟩;refine Qv [(0,.sl xs.length (ints xs)),(1,.sl ys.length (ints ys)),(5,.int .i64 (i:Nat))] hL (by simp only [zFm,hs0,hs1,hs5,true_and];exact zNm) ?_
   clear hL hs0 hs1 hs5 ts
   refine Qw Qd ?_;subst hH
   have hl:xs.length=ys.length:=by omega
   (refine zG ?_;(repeat' ((with_reducible apply zBr)<;>intro h<;>refine zG ?_))<;>try exact .intro)
   ·skip
    (refine Qh (by intro g;simp only [go_sem,ren,Qe]) ?_)
    (simp only [V.tup.injEq,List.cons.injEq,V.int.injEq,V.bool.injEq,true_and,and_true];(try rw [Bool.eq_iff_iff]);(try simp only [decide_eq_true_eq,decide_eq_false_iff_not,Decidable.not_not,true_and,and_true,Bool.not_eq_true,Bool.not_eq_eq_eq_not,Bool.not_true,Bool.and_eq_true,Bool.or_eq_true,beq_iff_eq,bne_iff_ne,ne_eq,Bool.false_eq_true,false_iff,true_iff,iff_false,iff_true]);(try omega))
    rintro rfl;exact absurd rfl ‹xs.getD i 0≠xs.getD i 0›
   ·have hI':∀ j,j<i+1→xs.getD j 0=ys.getD j 0:=fun j hj=>by
     by_cases e:j=i
     ·subst e;assumption
     ·exact hI j (by omega)
    exact ⟨xs.length - (i+1),by omega,i+1,(by (repeat' apply And.intro)<;>(first | rfl | omega | (congr 1;omega) | assumption | (congr 1;assumption)))⟩
   ·skip
    (refine Qh (by intro g;simp only [go_sem,ren,Qe]) ?_)
    (simp only [V.tup.injEq,List.cons.injEq,V.int.injEq,V.bool.injEq,true_and,and_true];(try rw [Bool.eq_iff_iff]);(try simp only [decide_eq_true_eq,decide_eq_false_iff_not,Decidable.not_not,true_and,and_true,Bool.not_eq_true,Bool.not_eq_eq_eq_not,Bool.not_true,Bool.and_eq_true,Bool.or_eq_true,beq_iff_eq,bne_iff_ne,ne_eq,Bool.false_eq_true,false_iff,true_iff,iff_false,iff_true]);(try omega))
    refine List.ext_getElem hl fun j h1 h2=>?_
    have:=hI j (by omega)
    simpa [List.getD,h1,h2] using this
  ·exact ⟨0,by omega,fun j hj=>by omega,rfl,rfl,rfl,rfl,rfl,rfl⟩
theorem Qu5 (t:Tn):Pu C 15 [tnV t] (.bool (decide (t.shape.length=0)&&decide (t.el.length=0))):=by
 refine zK Qd Tryz.func15 w15 Tryz.ntmps15 Tryz.results15 ?_
 (refine zG ?_;(repeat' ((with_reducible apply zBr)<;>intro h<;>refine zG ?_))<;>try exact .intro)
 all_goals (refine Qh (by intro g;simp only [go_sem,ren,Qe]) ?_)
 all_goals (simp only [V.tup.injEq,List.cons.injEq,V.int.injEq,V.bool.injEq,true_and,and_true];(try rw [Bool.eq_iff_iff]);(try simp only [decide_eq_true_eq,decide_eq_false_iff_not,Decidable.not_not,true_and,and_true,Bool.not_eq_true,Bool.not_eq_eq_eq_not,Bool.not_true,Bool.and_eq_true,Bool.or_eq_true,beq_iff_eq,bne_iff_ne,ne_eq,Bool.false_eq_true,false_iff,true_iff,iff_false,iff_true]);(try omega))
theorem Qyk {xs:List Rq} {i:Nat} (h:i<xs.length):Qe0 (xs.take (i+1))=Qe0 (xs.take i)++[.bool (xs.getD i q0).neg,DV (xs.getD i q0).num,DV (xs.getD i q0).den]:=by
 rw [Qba xs q0 h,Qe0,Qb6];rfl
theorem Qmy {xs:List Raw} {i:Nat} (h:i<xs.length):Qx (xs.take (i+1))=Qx (xs.take i)++[.bool (xs.getD i r0).neg,NA (xs.getD i r0).num,NA (xs.getD i r0).den]:=by
 rw [Qba xs r0 h,Qx,Qb6];rfl
theorem Qtq {xs:List Rq} {i:Nat} (h:i<xs.length):Qx ((xs.map Yl).take (i+1))=Qx ((xs.map Yl).take i)++[.bool (xs.getD i q0).neg,Xy (xs.getD i q0).num,Xy (xs.getD i q0).den]:=by
 rw [Qmy (by simpa using h)]
 have:(xs.map Yl).getD i r0=Yl (xs.getD i q0):=by simp [List.getD,h]
 rw [this];rfl
theorem Qsn (t:Tq) (ht:TqOK t):Val C 53 [tqV t] (tnV (Qof t)):=by
 have hs:=ht.s
 have he:=ht.e
 refine zK Qd Tryz.func53 w53 Tryz.ntmps53 Tryz.results53 ?_
 (refine zG ?_;(repeat' ((with_reducible apply zBr)<;>intro h<;>refine zG ?_))<;>try exact .intro)
 refine Qg (fun n ts H=>∃ (i:Nat) (u:V),(i≤t.el.length)∧(Qc H 0=some ⟨32,2,[.sl t.shape.length (ints t.shape),.sl t.el.length (Qe0 t.el)]⟩)∧(Qc H 1=some ⟨40,2,[.nil,.nil]⟩)∧(Qc H 2=some ⟨3,1,ints t.shape⟩)∧(Qc H 3=some ⟨40,2,[.ref 2 0 t.shape.length,u]⟩)∧(Cel 4 67 3 H u i (Qx ((t.el.map Yl).take i)))∧(n=t.el.length - i)∧ts.length=28∧nth ts 1=.ptr 0 0∧nth ts 2=.ptr 1 0∧nth ts 3=.ptr 3 0∧nth ts 4=.int .i64 (i:Nat)) ?_ (n:=t.el.length) ?_
 ·skip
  rintro n ts H ⟨i,u,hi,h0,h1,h2,h3,hu,hn,hL,hs1,hs2,hs3,hs4⟩;refine Qv [(1,.ptr 0 0),(2,.ptr 1 0),(3,.ptr 3 0),(4,.int .i64 (i:Nat))] hL (by simp only [zFm,hs1,hs2,hs3,hs4,true_and];exact zNm) ?_
  clear hL hs1 hs2 hs3 hs4 ts
  refine Qw Qd ?_
  have hlen:=Xt h3
  by_cases hcase:i<t.el.length
  ·have hx:=ht.get hcase
   (apply Zo;repeat' ((with_reducible first|apply Zk|apply zBr<;>intro h)<;>try simp -implicitDefEqProofs (maxSteps:=9^7) (disch:=first|exact zDs|fail) only [go_sem,h0,h3]))
   refine Pc.keptF (Qso _ hx) (Qyp _) ⟨.self (Qlr _),trivial⟩ fun v X hv=>?_
   obtain ⟨v1,v2,v3,rfl,hv1,hv2,hv3⟩:=hv.agg3;obtain ⟨k2,c2,s2⟩:=Js hv2.gd;obtain ⟨k3,c3,s3⟩:=Js hv3.gd
   have e1:=hv1.gd.bool_inv
   subst e1
   (apply Zo;repeat' ((with_reducible first|apply Zk|apply zBr<;>intro h)<;>try simp -implicitDefEqProofs (maxSteps:=9^7) (disch:=first|exact zDs|fail) only [go_sem,h0,h3,k2,c2,s2,k3,c3,s3]))
   refine Cel.push3 hu rfl rfl (by omega) (by omega) hv2 hv3 s2 s3 fun v' H' hu' hk' k4 c4 s4=>?_
   have g0:=hk' 0 _ (by decide) h0
   have g1:=hk' 1 _ (by decide) h1
   have g2:=hk' 2 _ (by decide) h2
   have g3:=hk' 3 _ (by decide) h3
   (apply Zo;repeat' ((with_reducible first|apply Zk|apply zBr<;>intro h)<;>try simp -implicitDefEqProofs (maxSteps:=9^7) (disch:=first|exact zDs|fail) only [go_sem,g3,k4,c4,s4]))
   have f0:∀ (q:Nat) (row:Row) (z:Option Row),q≠3→Qc H' q=some row→Qc (H'.set 3 z) q=some row:=fun q row z hq hr=>by rw [Qk _ (Ne.symm hq)];exact hr
   refine ⟨t.el.length - (i+1),by omega,i+1,v',by omega,f0 0 _ _ (by decide) g0,f0 1 _ _ (by decide) g1,f0 2 _ _ (by decide) g2,Qj g3, ?_,rfl,by congr 1⟩
   rw [Qtq hcase];exact Cel.set hu' (by decide) _
  ·obtain ⟨k4,c4,s4⟩:=Cel.kn hu
   have hs1:∀ z:Row,Qc (H.set 1 (some z)) 1=some z:=fun z=>Qj h1
   (apply Zo;repeat' ((with_reducible first|apply Zk|apply zBr<;>intro h)<;>try simp -implicitDefEqProofs (maxSteps:=9^7) (disch:=first|exact zDs|fail) only [go_sem,h0,h1,h3,hs1,k4,c4,s4]))
   have hil:i=t.el.length:=by omega
   rw [hil,List.take_of_length_le (by simp)] at hu
   have hg:=Cel.gd (Cel.set hu (q:=1) (by decide) (some ⟨40,2,[.ref 2 0 t.shape.length,u]⟩))
   refine Gd.ret (Gd.aggL ⟨?_, ?_,trivial⟩)
   ·exact .flat 2 _ _ _ _ (by rw [Qk _ (by decide)];exact h2) (Qb _) (Yu _)
   ·simpa [Xbn,Qof] using hg
 ·exact ⟨0,.nil,by omega,rfl,rfl,rfl,rfl,Cel.nil _ _ _ _,rfl,rfl,rfl,rfl,rfl,rfl⟩
theorem Xhp (t:Tn) (hs:t.shape.length≤17592186044416) (he:t.el.length≤1000000000) (hr:∀ x∈t.el,RawOK x):Val C 36 [tnV t] (tnV t):=by
 refine zK Qd Tryz.func36 w36 Tryz.ntmps36 Tryz.results36 ?_
 (refine zG ?_;(repeat' ((with_reducible apply zBr)<;>intro h<;>refine zG ?_))<;>try exact .intro)
 refine Qg (fun n ts H=>∃ (i:Nat) (u:V),(i≤t.el.length)∧(Qc H 0=some ⟨40,2,[.sl t.shape.length (ints t.shape),.sl t.el.length (Qx t.el)]⟩)∧(Qc H 1=some ⟨40,2,[.nil,.nil]⟩)∧(Qc H 2=some ⟨3,1,ints t.shape⟩)∧(Qc H 3=some ⟨40,2,[.ref 2 0 t.shape.length,u]⟩)∧(Cel 4 67 3 H u i (Qx (t.el.take i)))∧(n=t.el.length - i)∧ts.length=28∧nth ts 1=.ptr 0 0∧nth ts 2=.ptr 1 0∧nth ts 3=.ptr 3 0∧nth ts 4=.int .i64 (i:Nat)) ?_ (n:=t.el.length) ?_
 ·skip
  rintro n ts H ⟨i,u,hi,h0,h1,h2,h3,hu,hn,hL,hs1,hs2,hs3,hs4⟩;refine Qv [(1,.ptr 0 0),(2,.ptr 1 0),(3,.ptr 3 0),(4,.int .i64 (i:Nat))] hL (by simp only [zFm,hs1,hs2,hs3,hs4,true_and];exact zNm) ?_
  clear hL hs1 hs2 hs3 hs4 ts
  refine Qw Qd ?_
  have hlen:=Xt h3
  by_cases hcase:i<t.el.length
  ·have hx:=hr _ (show t.el.getD i r0∈t.el by simp [List.getD,hcase])
   (apply Zo;repeat' ((with_reducible first|apply Zk|apply zBr<;>intro h)<;>try simp -implicitDefEqProofs (maxSteps:=9^7) (disch:=first|exact zDs|fail) only [go_sem,h0,h3]))
   refine Pc.keptF (Qty _ hx) (Qmz _) ⟨.self (Xk _),trivial⟩ fun v X hv=>?_
   obtain ⟨v1,v2,v3,rfl,hv1,hv2,hv3⟩:=hv.agg3;obtain ⟨k2,c2,s2⟩:=Js hv2.gd;obtain ⟨k3,c3,s3⟩:=Js hv3.gd
   have e1:=hv1.gd.bool_inv
   subst e1
   (apply Zo;repeat' ((with_reducible first|apply Zk|apply zBr<;>intro h)<;>try simp -implicitDefEqProofs (maxSteps:=9^7) (disch:=first|exact zDs|fail) only [go_sem,h0,h3,k2,c2,s2,k3,c3,s3]))
   refine Cel.push3 hu rfl rfl (by omega) (by omega) hv2 hv3 s2 s3 fun v' H' hu' hk' k4 c4 s4=>?_
   have g0:=hk' 0 _ (by decide) h0
   have g1:=hk' 1 _ (by decide) h1
   have g2:=hk' 2 _ (by decide) h2
   have g3:=hk' 3 _ (by decide) h3
   (apply Zo;repeat' ((with_reducible first|apply Zk|apply zBr<;>intro h)<;>try simp -implicitDefEqProofs (maxSteps:=9^7) (disch:=first|exact zDs|fail) only [go_sem,g3,k4,c4,s4]))
   have f0:∀ (q:Nat) (row:Row) (z:Option Row),q≠3→Qc H' q=some row→Qc (H'.set 3 z) q=some row:=fun q row z hq hr=>by rw [Qk _ (Ne.symm hq)];exact hr
   refine ⟨t.el.length - (i+1),by omega,i+1,v',by omega,f0 0 _ _ (by decide) g0,f0 1 _ _ (by decide) g1,f0 2 _ _ (by decide) g2,Qj g3, ?_,rfl,by congr 1⟩
   rw [Qmy hcase];exact Cel.set hu' (by decide) _
  ·obtain ⟨k4,c4,s4⟩:=Cel.kn hu
   have hs1:∀ z:Row,Qc (H.set 1 (some z)) 1=some z:=fun z=>Qj h1
   (apply Zo;repeat' ((with_reducible first|apply Zk|apply zBr<;>intro h)<;>try simp -implicitDefEqProofs (maxSteps:=9^7) (disch:=first|exact zDs|fail) only [go_sem,h0,h1,h3,hs1,k4,c4,s4]))
   have hil:i=t.el.length:=by omega
   rw [hil,List.take_of_length_le (by simp)] at hu
   have hg:=Cel.gd (Cel.set hu (q:=1) (by decide) (some ⟨40,2,[.ref 2 0 t.shape.length,u]⟩))
   refine Gd.ret (Gd.aggL ⟨?_, ?_,trivial⟩)
   ·exact .flat 2 _ _ _ _ (by rw [Qk _ (by decide)];exact h2) (Qb _) (Yu _)
   ·simpa [Xbn,Qof] using hg
 ·exact ⟨0,.nil,by omega,rfl,rfl,rfl,rfl,Cel.nil _ _ _ _,rfl,rfl,rfl,rfl,rfl,rfl⟩
end Go.Proofs.YtepjcbnpbcmfcaaGreat
end
section
namespace Go.Proofs.YtepjcbnpbcmfcaaGreat
open Go.Bv
theorem Ky (b:List Nat) (n:Nat):lv B32 b=lv B32 (b.take n)+B32 ^ n*lv B32 (b.drop n):=by
 by_cases h:n≤b.length
 ·have:=Qd5 B32 (b.take n) (b.drop n)
  rw [List.take_append_drop,List.length_take,Nat.min_eq_left h] at this;exact this
 ·rw [List.take_of_length_le (by omega),List.drop_of_length_le (by omega)];simp [lv]
def car (a:List Nat) (m:Nat):Nat→Nat
 | 0=>0
 | i+1=>(a.getD i 0*m+car a m i)/4294967296
def Qks (a:List Nat) (m up i:Nat):Nat:=if i<up then 0 else (Ym a ((i - up:Nat):Int)*m+car a m (i - up))%4294967296
theorem Qvl {a:List Nat} {m:Nat} (hA:Lim a) (hm:m<4294967296):∀ i,car a m i<4294967296
 | 0=>by simp [car]
 | i+1=>by
  have ih:=Qvl hA hm i
  have h1:=hA.get i
  rw [car]
  have:a.getD i 0*m≤4294967295*4294967295:=Nat.mul_le_mul (by omega) (by omega)
  omega
theorem Xdm {a:List Nat} {m:Nat}:∀ n,lv B32 (XS (fun j=>(a.getD j 0*m+car a m j)%4294967296) n)+B32 ^ n*car a m n=m*lv B32 (XS (fun j=>a.getD j 0) n)
 | 0=>by simp [XS,lv,car]
 | n+1=>by
  have ih:=Xdm (a:=a) (m:=m) n
  rw [Qd6,Qd6,Nat.pow_succ,Nat.mul_add m]
  have h:(a.getD n 0*m+car a m n)%4294967296+4294967296*car a m (n+1)=a.getD n 0*m+car a m n:=by rw [car];exact Nat.mod_add_div _ _
  have e:B32 ^ n*((a.getD n 0*m+car a m n)%4294967296)+B32 ^ n*B32*car a m (n+1)=B32 ^ n*(a.getD n 0*m)+B32 ^ n*car a m n:=by
   rw [Nat.mul_assoc,← Nat.mul_add,← Nat.mul_add];exact congrArg _ h
  have e2:B32 ^ n*(a.getD n 0*m)=m*(B32 ^ n*a.getD n 0):=by rw [Nat.mul_left_comm m,Nat.mul_comm m]
  omega
theorem Qwq {a:List Nat} {m up:Nat}:∀ k,lv B32 (XS (Qks a m up) (up+k))=B32 ^ up*lv B32 (XS (fun j=>(a.getD j 0*m+car a m j)%4294967296) k)
 | 0=>by
  have h:∀ n,n≤up→lv B32 (XS (Qks a m up) n)=0:=fun n=>by
   induction n with
   | zero=>intro _;simp [XS,lv]
   | succ n ih=>intro hn;rw [Qd6,ih (by omega),Qks,if_pos (by omega)];simp
  rw [Nat.add_zero,h up (Nat.le_refl _)];simp [XS,lv]
 | k+1=>by
  rw [← Nat.add_assoc,Qd6,Qd6,Qwq k,Qks,if_neg (by omega),show up+k - up=k by omega,Nat.pow_add,Nat.mul_add,Nat.mul_assoc]
  simp [Ym]
theorem Xhe {a:List Nat} {m up:Nat} (hm:m<4294967296) (hA:Lim a):lv B32 (XS (Qks a m up) (a.length+up+1))=B32 ^ up*(m*lv B32 a):=by
 rw [show a.length+up+1=up+(a.length+1) by omega,Qwq]
 have h1:=Xdm (a:=a) (m:=m) (a.length+1)
 have h2:=Qvl hA hm a.length
 have h3:car a m (a.length+1)=0:=by
  rw [car]
  have:a.getD a.length 0=0:=by simp [List.getD]
  rw [this];omega
 have h4:=Qla (b:=B32) a (a.length+1) (by omega)
 have h5:XS (fun i=>Ym a (i:Int)) (a.length+1)=XS (fun j=>a.getD j 0) (a.length+1):=List.map_congr_left fun i _=>by simp [Ym]
 rw [h5] at h4;rw [h3,Nat.mul_zero,Nat.add_zero,h4] at h1;rw [h1]
theorem Qyg (a:List Nat) (m up i:Nat) (ha:a.length≤17592186044416) (hA:Lim a) (hm:m<4294967296) (hu:up≤17592186044416) (hi:i≤35184372088832) (H:Qa) (h0:Qc H 0=some ⟨65,1,[NA a]⟩) (h1:Qc H 1=some ⟨106,1,[.int .u32 (m:Nat)]⟩) (h2:Qc H 2=some ⟨3,1,[.int .i64 (up:Nat)]⟩) (h3:Qc H 3=some ⟨271,1,[.int .u64 (car a m (i - up):Nat)]⟩) :
  Fc C 302 [.int .i64 (i:Nat),.ptr 2 0,.ptr 0 0,.ptr 1 0,.ptr 3 0] H fun v H'=>v=.int .u64 (Qks a m up i:Nat)∧H'=H.set 3 (some ⟨271,1,[.int .u64 (car a m (i+1 - up):Nat)]⟩):=by
 have hst:∀ z:Row,Qc (H.set 3 (some z)) 3=some z:=fun z=>Qj h3
 by_cases hiu:i<up
 ·rw [Qks,if_pos hiu,show i+1 - up=i - up by omega]
  have hsame:H.set 3 (some ⟨271,1,[.int .u64 (car a m (i - up):Nat)]⟩)=H:=by
   obtain ⟨k1,k2⟩:=List.getElem?_eq_some_iff.1 (Xh h3);rw [← k2];exact List.set_getElem_self ..
  refine zL Qd Tryz.func302 w302 Tryz.ntmps302 Tryz.results302 ?_
  (apply Zo;repeat' ((with_reducible first|apply Zk|apply zBr<;>intro h)<;>try simp -implicitDefEqProofs (maxSteps:=9^7) (disch:=first|exact zDs|fail) only [go_sem,h2]))
  exact ⟨rfl,hsame.symm⟩
 ·rw [Qks,if_neg hiu];obtain ⟨j,rfl⟩:∃ j,i=up+j:=⟨i - up,by omega⟩
  rw [show up+j - up=j by omega] at h3 ⊢
  rw [show up+j+1 - up=j+1 by omega]
  have hl:=Km a ((j:Nat):Int) ha hA
  have q1:=Qay hA (j:Nat)
  have q2:=Qvl hA hm j
  have hx:Ym a ((j:Nat):Int)*m≤4294967295*4294967295:=Nat.mul_le_mul (by omega) (by omega)
  have e1:car a m (j+1)=(Ym a ((j:Nat):Int)*m+car a m j)/4294967296:=by rw [car];simp [Ym]
  have hs:∀ x:Nat,(x:Int).fdiv (2 ^ min 32 64)=((x/4294967296:Nat):Int):=fun x=>Qb4 x 32
  have ei:(((up+j:Nat):Int) - (up:Int))=(j:Nat):=by omega
  rw [e1];generalize Ym a ((j:Nat):Int)=x at *;generalize car a m j=c at *
  have hxm:((x:Int)*(m:Int))=((x*m:Nat):Int):=by simp
  have hxc:(((x*m:Nat):Int)+(c:Int))=((x*m+c:Nat):Int):=by simp
  have hmk:=Qow (x*m+c) (by omega)
  generalize hy:x*m=y at *;refine zL Qd Tryz.func302 w302 Tryz.ntmps302 Tryz.results302 ?_
  (apply Zo;repeat' ((with_reducible first|apply Zk|apply zBr<;>intro h)<;>try simp -implicitDefEqProofs (maxSteps:=9^7) (disch:=first|exact zDs|fail) only [go_sem,h0,h1,h2,h3,ei]))
  refine Pc.pure hl (by simp [Qf,clo,Xs,Qp]) (fun g=>rfl) ?_
  (apply Zo;repeat' ((with_reducible first|apply Zk|apply zBr<;>intro h)<;>try simp -implicitDefEqProofs (maxSteps:=9^7) (disch:=first|exact zDs|fail) only [go_sem,h0,h1,h2,h3,hst,hxm,hxc,hs]))
  exact congrArg (fun n:Nat=>V.int .u64 (n:Int)) hmk
theorem Xcd (a:List Nat) (m up:Nat) (ha:a.length≤4398046511103) (hA:Lim a) (hm:m<4294967296) (hu:up≤4398046511103):Fc C 289 [NA a,.int .u32 (m:Nat),.int .i64 (up:Nat)] [] fun v H=>Qj1 v H (B32 ^ up*(m*lv B32 a)):=by
 refine zK Qd Tryz.func289 w289 Tryz.ntmps289 Tryz.results289 ?_
 (refine zG ?_;(repeat' ((with_reducible apply zBr)<;>intro h<;>refine zG ?_))<;>try exact .intro)
 have e:((a.length:Int)+(up:Int)+1)=((a.length+up+1:Nat):Int):=by omega
 have hg:=Qjm (f:=302) (caps:=[.ptr 2 0,.ptr 0 0,.ptr 1 0,.ptr 3 0]) (st:=some 3) (B:=[some ⟨65,1,[NA a]⟩,some ⟨106,1,[.int .u32 (m:Nat)]⟩,some ⟨3,1,[.int .i64 (up:Nat)]⟩,some ⟨271,1,[.int .u64 0]⟩]) (rs:=fun i=>⟨271,1,[.int .u64 (car a m (i - up):Nat)]⟩) (N:=a.length+up+1) (xs:=Qks a m up) (fun q hq=>by injection hq with hq;subst hq;simp) (fun q hq=>by injection hq with hq;subst hq;simp only [Nat.zero_sub];rfl) (by omega) (fun i _=>by
  rw [Qks];split
  ·omega
  ·have:=Nat.mod_lt (Ym a ((i - up:Nat):Int)*m+car a m (i - up)) (show 0<4294967296 by decide)
   omega) (fun i hi H hk hs=>Qyg a m up i (by omega) hA hm (by omega) (by omega) H (hk 0 _ (by decide) rfl) (hk 1 _ (by decide) rfl) (hk 2 _ (by decide) rfl) (hs 3 rfl))
 rw [e];refine Fc.mono hg ?_;rintro v H' ⟨h1,h2,h3⟩
 have h1:IsN v H' (lv B32 (XS (Qks a m up) (a.length+up+1))):=h1
 rw [Xhe hm hA] at h1
 (refine zG ?_;(repeat' ((with_reducible apply zBr)<;>intro h<;>refine zG ?_))<;>try exact .intro)
 exact h1.ret
theorem Xib (b:List Nat) {k:Nat} (hk:k<b.length):lv B32 (b.take (k+1))=lv B32 (b.take k)+B32 ^ k*b.getD k 0:=by
 have e:b.take (k+1)=b.take k++[b.getD k 0]:=by rw [List.take_add_one];simp [List.getD,hk]
 rw [e,Jz,List.length_take,Nat.min_eq_left (by omega)]
theorem Ke {b:List Nat} (hB:Lim b) (k:Nat):lv B32 (b.take k)<B32 ^ k:=by
 have h1:=Qac (fun x hx=>hB x (List.mem_of_mem_take hx):Lim (b.take k))
 exact Nat.lt_of_lt_of_le h1 (Nat.pow_le_pow_right (by decide) (by rw [List.length_take];omega))
theorem Qg0 {x y m n:Nat} (hx:x<B32 ^ m) (hy:y<B32 ^ n):(dg B32 (x*y)).length≤m+n:=Xe (by decide) _ _ (by
 rw [Nat.pow_add];by_cases h0:x=0
 ·subst h0;rw [Nat.zero_mul];exact Nat.mul_pos (Nat.pow_pos (by decide)) (Nat.pow_pos (by decide))
 ·exact Nat.mul_lt_mul_of_lt_of_le hx (Nat.le_of_lt hy) (by omega))
theorem Xdg (a b:List Nat) (ha:a.length≤1000000000000) (hb:b.length≤1000000000000) (hA:Lim a) (hB:Lim b):Pu C 269 [NA a,NA b] (Xy (lv B32 a*lv B32 b)):=by
 refine Pu.ofBor (Zg _) ?_;refine zL Qd Tryz.func269 w269 Tryz.ntmps269 Tryz.results269 ?_
 (refine zG ?_;(repeat' ((with_reducible apply zBr)<;>intro h<;>refine zG ?_))<;>try exact .intro)
 refine Qg (fun n ts H=>∃ (k:Nat) (u:V),(k≤b.length)∧((u=.nil∧k=0)∨u=Xy (lv B32 a*lv B32 (b.take k)))∧(H=[])∧(n=b.length - k)∧ts.length=23∧nth ts 0=NA a∧nth ts 5=u∧nth ts 8=NA b∧nth ts 9=.int .i64 b.length∧nth ts 10=.int .i64 (k:Nat)) ?_ (n:=b.length) ?_
 ·skip
  rintro n ts H ⟨k,u,hk,hu,hH,hn,hL,hs0,hs5,hs8,hs9,hs10⟩;refine Qv [(0,NA a),(5,u),(8,NA b),(9,.int .i64 b.length),(10,.int .i64 (k:Nat))] hL (by simp only [zFm,hs0,hs5,hs8,hs9,hs10,true_and];exact zNm) ?_
  clear hL hs0 hs5 hs8 hs9 hs10 ts
  refine Qw Qd ?_;subst hH;by_cases hkl:k<b.length
  ·have hbk:=hB.get k
   have hrow:=Xcd a (b.getD k 0) k (by omega) hA hbk (by omega)
   have hlt:=Ke hB k
   have hla:=Qac hA
   have hd1:=Qg0 hla hlt
   have hd2:(dg B32 (B32 ^ k*(b.getD k 0*lv B32 a))).length≤k+1+a.length+1:=by
    have h1:b.getD k 0*lv B32 a<B32 ^ (a.length+1):=by
     rw [Nat.pow_succ,Nat.mul_comm];by_cases h0:b.getD k 0=0
     ·rw [h0,Nat.mul_zero];exact Nat.mul_pos (Nat.pow_pos (by decide)) (by decide)
     ·exact Nat.mul_lt_mul_of_lt_of_le hla (by simp only [B32];omega) (by decide)
    have h2:=Qg0 (x:=B32 ^ k) (m:=k+1) (Nat.pow_lt_pow_right (by decide) (by omega)) h1
    omega
   have hadd:=Xgl (dg B32 (lv B32 a*lv B32 (b.take k))) (dg B32 (B32 ^ k*(b.getD k 0*lv B32 a))) (by omega) (by omega) (Yz _) (Yz _)
   rw [Yg,Yg] at hadd
   have hs:lv B32 a*lv B32 (b.take k)+B32 ^ k*(b.getD k 0*lv B32 a)=lv B32 a*lv B32 (b.take (k+1)):=by
    rw [Xib b hkl,Nat.mul_add]
    congr 1
    rw [Nat.mul_left_comm,Nat.mul_comm (b.getD k 0),Nat.mul_comm (B32 ^ k),Nat.mul_assoc]
   rw [hs] at hadd
   have hbu:Bor [] u (Xy (lv B32 a*lv B32 (b.take k))):=by
    rcases hu with ⟨rfl,rfl⟩ | rfl
    ·rw [show Xy (lv B32 a*lv B32 (b.take 0))=.sl 0 [] by simp [Xy,NA,Yh,Qz,lv]];exact .nil _
    ·exact .self (Zg _)
   (refine zG ?_;(repeat' ((with_reducible apply zBr)<;>intro h<;>refine zG ?_))<;>try exact .intro)
   refine Fc.byN hrow ⟨.self (Xs _),.self rfl,.self rfl,trivial⟩ ?_
   (refine zG ?_;(repeat' ((with_reducible apply zBr)<;>intro h<;>refine zG ?_))<;>try exact .intro)
   refine Fc.byN hadd ⟨hbu,.self (Zg _),trivial⟩ ?_
   (refine zG ?_;(repeat' ((with_reducible apply zBr)<;>intro h<;>refine zG ?_))<;>try exact .intro)
   exact ⟨b.length - (k+1),by omega,k+1,_,by omega,.inr rfl,rfl,rfl,(by (repeat' apply And.intro)<;>(first | rfl | omega | (congr 1;omega) | assumption | (congr 1;assumption)))⟩
  ·have hks:k=b.length:=by omega
   subst hks;rw [List.take_length] at hu
   (refine zG ?_;(repeat' ((with_reducible apply zBr)<;>intro h<;>refine zG ?_))<;>try exact .intro)
   rcases hu with ⟨rfl,hb0⟩ | rfl
   ·have:b=[]:=List.eq_nil_of_length_eq_zero hb0
    subst this
    show Bor [] V.nil (Xy (lv B32 a*lv B32 []))
    rw [show Xy (lv B32 a*lv B32 [])=.sl 0 [] by simp [Xy,NA,Yh,Qz,lv]]
    exact .nil _
   ·exact .self (Zg _)
 ·exact ⟨0,.nil,by omega,.inl ⟨rfl,rfl⟩,rfl,rfl,rfl,rfl,rfl,rfl,rfl,rfl⟩
def B12 (x:Nat):Prop:=(dg B32 x).length≤100000000000
def Quh (r s:Rq):Rq:=(Qe1 (r.neg != s.neg) (r.num*s.num) (r.den*s.den)).1
def Xc:List Raw→Rq
 | l=>l.foldl (fun out x=>Quh out (Xm x)) (Qcn 1)
theorem Qtr (l:List Raw) (x:Raw):Xc (l++[x])=Quh (Xc l) (Xm x):=by simp [Xc,List.foldl_append]
theorem Qre (x y:Nat) (hx:B12 x) (hy:B12 y):Pu C 269 [Xy x,Xy y] (Xy (x*y)):=by
 have hx:(dg B32 x).length≤100000000000:=hx
 have hy:(dg B32 y).length≤100000000000:=hy
 have:=Xdg (dg B32 x) (dg B32 y) (by omega) (by omega) (Yz _) (Yz _)
 rwa [Yg,Yg] at this
theorem Qf1 (x y:Nat):(dg B32 (x*y)).length≤(dg B32 x).length+(dg B32 y).length:=Qg0 (Zm (by decide) x) (Zm (by decide) y)
theorem Qgd (l:List Raw) (hl:l.length≤1000) (hok:∀ x∈l,RawOK x) (hb:∀ k,k≤l.length→B12 (Xc (l.take k)).num∧B12 (Xc (l.take k)).den):Pu C 232 [.sl l.length (Qx l)] (Qe3 (Xc l)):=by
 refine Pu.ofBor (Xk (Yl (Xc l))) ?_;refine zL Qd Tryz.func232 w232 Tryz.ntmps232 Tryz.results232 ?_
 (refine zG ?_;(repeat' ((with_reducible apply zBr)<;>intro h<;>refine zG ?_))<;>try exact .intro)
 refine (Xim 1 (by decide) (by decide)).call ⟨.self rfl,trivial⟩ (Xk (Yl (Qcn 1))) ?_
 (refine zG ?_;(repeat' ((with_reducible apply zBr)<;>intro h<;>refine zG ?_))<;>try exact .intro)
 refine Qg (fun n ts H=>∃ (k:Nat),(k≤l.length)∧(n=l.length - k)∧(Qc H 0=some ⟨67,3,[.bool false,.nil,.nil]⟩)∧(Qc H 1=some ⟨67,3,[.bool (Xc (l.take k)).neg,Xy (Xc (l.take k)).num,Xy (Xc (l.take k)).den]⟩)∧ts.length=36∧nth ts 2=.ptr 0 0∧nth ts 3=.ptr 1 0∧nth ts 7=.sl l.length (Qx l)∧nth ts 8=.int .i64 l.length∧nth ts 9=.int .i64 (k:Nat)) ?_ (n:=l.length) ?_
 ·skip
  rintro n ts H ⟨k,hk,hn,h0,h1,hL,hs2,hs3,hs7,hs8,hs9⟩;refine Qv [(2,.ptr 0 0),(3,.ptr 1 0),(7,.sl l.length (Qx l)),(8,.int .i64 l.length),(9,.int .i64 (k:Nat))] hL (by simp only [zFm,hs2,hs3,hs7,hs8,hs9,true_and];exact zNm) ?_
  clear hL hs2 hs3 hs7 hs8 hs9 ts
  refine Qw Qd ?_;by_cases hkl:k<l.length
  ·have hx:=hok (l.getD k r0) (by simp [List.getD,hkl])
   have hs:Xc (l.take (k+1))=Quh (Xc (l.take k)) (Xm (l.getD k r0)):=by rw [Qba l r0 hkl,Qtr]
   obtain ⟨p1,p2⟩:=hb k hk;obtain ⟨v1,v2⟩:=Qfd (l.getD k r0).neg (lv 4294967296 (l.getD k r0).num) (lv 4294967296 (l.getD k r0).den)
   have q1:B12 (Xm (l.getD k r0)).num:=by
    have:=Xe (b:=B32) (by decide) (Xm (l.getD k r0)).num (l.getD k r0).num.length (Nat.lt_of_le_of_lt v1 (Qac hx.nL))
    have:=hx.n1
    show (dg B32 _).length≤_
    omega
   have q2:B12 (Xm (l.getD k r0)).den:=by
    have:=hx.d1
    show (dg B32 _).length≤_
    rcases v2 with v2 | v2
    ·have:=Xe (b:=B32) (by decide) (Xm (l.getD k r0)).den (l.getD k r0).den.length (Nat.lt_of_le_of_lt v2 (Qac hx.dL))
     omega
    ·have e:(Xm (l.getD k r0)).den=1:=v2
     have:(dg B32 1).length≤1:=Xe (by decide) _ _ (by decide)
     rw [e];omega
   have m1:=Qre _ _ p1 q1
   have m2:=Qre _ _ p2 q2
   have p1:(dg B32 _).length≤_:=p1
   have p2:(dg B32 _).length≤_:=p2
   have q1:(dg B32 _).length≤_:=q1
   have q2:(dg B32 _).length≤_:=q2
   have w1:=Qf1 (Xc (l.take k)).num (Xm (l.getD k r0)).num
   have w2:=Qf1 (Xc (l.take k)).den (Xm (l.getD k r0)).den
   have mk:=Qnj ((Xc (l.take k)).neg != (Xm (l.getD k r0)).neg) (dg B32 ((Xc (l.take k)).num*(Xm (l.getD k r0)).num)) (dg B32 ((Xc (l.take k)).den*(Xm (l.getD k r0)).den)) (by omega) (by omega) (Yz _) (Yz _)
   rw [Yg,Yg] at mk
   have nv:=Qhu (l.getD k r0) hx
   have e1:(Qe1 ((Xc (l.take k)).neg != (Xm (l.getD k r0)).neg) ((Xc (l.take k)).num*(Xm (l.getD k r0)).num) ((Xc (l.take k)).den*(Xm (l.getD k r0)).den)).1=Xc (l.take (k+1)):=hs.symm
   rw [e1] at mk;generalize (Qe1 ((Xc (l.take k)).neg != (Xm (l.getD k r0)).neg) ((Xc (l.take k)).num*(Xm (l.getD k r0)).num) ((Xc (l.take k)).den*(Xm (l.getD k r0)).den)).2=er at *;generalize hP:Xc (l.take k)=P at *;generalize hP':Xc (l.take (k+1))=P' at *;generalize hV:Xm (l.getD k r0)=R at *
   (refine zG ?_;(repeat' ((with_reducible apply zBr)<;>intro h<;>refine zG ?_))<;>try exact .intro)
   refine nv.call ⟨.self (Xk _),trivial⟩ (Xk (Yl R)) ?_
   have hst:∀ (x:Row),Qc (H++[some x]) H.length=some x:=fun x=>Xx _ _
   have hst2:∀ (x y:Row),Qc ((H++[some x]).set H.length (some y)) H.length=some y:=fun x y=>Qj (hst x)
   have g1:∀ Y,Qc (H++Y) 1=_:=fun Y=>Ql h1 Y
   have g0:∀ Y,Qc (H++Y) 0=_:=fun Y=>Ql h0 Y
   (apply Zo;repeat' ((with_reducible first|apply Zk|apply zBr<;>intro h)<;>try simp -implicitDefEqProofs (maxSteps:=9^7) (disch:=first|exact zDs|fail) only [go_sem,hst,hst2,g1]))
   refine Pc.pure m1 (by simp [Qf,clo,Qp,Zg]) (fun g=>Ya _ _ (Zg _)) ?_
   (apply Zo;repeat' ((with_reducible first|apply Zk|apply zBr<;>intro h)<;>try simp -implicitDefEqProofs (maxSteps:=9^7) (disch:=first|exact zDs|fail) only [go_sem,hst,hst2,g1]))
   refine Pc.pure m2 (by simp [Qf,clo,Qp,Zg]) (fun g=>Ya _ _ (Zg _)) ?_
   (apply Zo;repeat' ((with_reducible first|apply Zk|apply zBr<;>intro h)<;>try simp -implicitDefEqProofs (maxSteps:=9^7) (disch:=first|exact zDs|fail) only [go_sem,hst,hst2,g1]))
   refine mk.pc ⟨.self rfl,.self (Xs _),.self (Xs _),trivial⟩ (by simp [clo,Qf,Xk,Qqv]) ?_
   have g11:∀ Y (z:Row),Qc ((H++Y).set 1 (some z)) 1=some z:=fun Y z=>Qj (g1 Y)
   (apply Zo;repeat' ((with_reducible first|apply Zk|apply zBr<;>intro h)<;>try simp -implicitDefEqProofs (maxSteps:=9^7) (disch:=first|exact zDs|fail) only [go_sem,hst,hst2,g1,g11]))
   exact ⟨l.length - (k+1),by omega,k+1,by omega,rfl,by rw [Qk _ (by decide)];exact g0 _,by rw [hP'],by congr 1⟩
  ·have hks:k=l.length:=by omega
   subst hks;rw [List.take_length] at h1
   have hst:∀ x:Row,Qc (H.set 0 (some x)) 0=some x:=fun x=>Qj h0
   (apply Zo;repeat' ((with_reducible first|apply Zk|apply zBr<;>intro h)<;>try simp -implicitDefEqProofs (maxSteps:=9^7) (disch:=first|exact zDs|fail) only [go_sem,h1,h0,hst]))
   exact .self (Xk (Yl (Xc l)))
 ·exact ⟨0,by omega,rfl,rfl,rfl,rfl,rfl,rfl,rfl,rfl,rfl⟩
theorem Qnk (s:Bool) (p q:Nat):(dg B32 (Qe1 s p q).1.num).length≤(dg B32 p).length∧(dg B32 (Qe1 s p q).1.den).length≤(dg B32 q).length+1:=by
 have h1:(dg B32 1).length≤1:=Xe (by decide) _ _ (by decide)
 have h0:(dg B32 0).length=0:=by simp [Yh]
 rw [Qe1];split
 ·simp only [h0];omega
 ·obtain ⟨v1,v2⟩:=Qfd s p q;refine ⟨Xe (by decide) _ _ (Nat.lt_of_le_of_lt v1 (Zm (by decide) p)), ?_⟩
  rcases v2 with v2 | v2
  ·have:=Xe (b:=B32) (by decide) (Qdc s p q).den _ (Nat.lt_of_le_of_lt v2 (Zm (by decide) q))
   show (dg B32 (Qdc s p q).den).length≤_
   omega
  ·show (dg B32 (Qdc s p q).den).length≤_
   rw [v2];omega
theorem Qqd {x:Raw} (h:RawOK x):(dg B32 (Xm x).num).length≤x.num.length∧(dg B32 (Xm x).den).length≤x.den.length+1:=by
 obtain ⟨v1,v2⟩:=Qfd x.neg (lv 4294967296 x.num) (lv 4294967296 x.den)
 have h1:(dg B32 1).length≤1:=Xe (by decide) _ _ (by decide)
 refine ⟨Xe (b:=B32) (by decide) (Xm x).num x.num.length (Nat.lt_of_le_of_lt v1 (Qac h.nL)), ?_⟩
 rcases v2 with v2 | v2
 ·have:=Xe (b:=B32) (by decide) (Xm x).den x.den.length (Nat.lt_of_le_of_lt v2 (Qac h.dL))
  omega
 ·have e:(Xm x).den=1:=v2
  rw [e];omega
theorem Qm4 {x y:Raw} (hx:RawOK x) (hy:RawOK y):((dg B32 (Xc [x]).num).length≤x.num.length+1∧(dg B32 (Xc [x]).den).length≤x.den.length+3)∧((dg B32 (Xc [x,y]).num).length≤x.num.length+1+y.num.length∧(dg B32 (Xc [x,y]).den).length≤x.den.length+y.den.length+5):=by
 have h1:(dg B32 1).length≤1:=Xe (by decide) _ _ (by decide)
 obtain ⟨a1,a2⟩:=Qqd hx;obtain ⟨b1,b2⟩:=Qqd hy
 have e1:Xc [x]=Quh (Qcn 1) (Xm x):=rfl
 have e2:Xc [x,y]=Quh (Xc [x]) (Xm y):=rfl
 have n1:(Qcn 1).num=1:=rfl
 have n2:(Qcn 1).den=1:=rfl
 have c1:=Qnk ((Qcn 1).neg != (Xm x).neg) ((Qcn 1).num*(Xm x).num) ((Qcn 1).den*(Xm x).den)
 have c2:=Qf1 (Qcn 1).num (Xm x).num
 have c3:=Qf1 (Qcn 1).den (Xm x).den
 rw [n1] at c2;rw [n2] at c3;rw [n1,n2] at c1
 have d:(dg B32 (Xc [x]).num).length≤x.num.length+1∧(dg B32 (Xc [x]).den).length≤x.den.length+3:=by
  rw [e1,Quh,n1,n2];omega
 refine ⟨d, ?_⟩
 have c4:=Qnk ((Xc [x]).neg != (Xm y).neg) ((Xc [x]).num*(Xm y).num) ((Xc [x]).den*(Xm y).den)
 have c5:=Qf1 (Xc [x]).num (Xm y).num
 have c6:=Qf1 (Xc [x]).den (Xm y).den
 rw [e2,Quh];omega
theorem Qyh (x y:Raw) (hx:RawOK x) (hy:RawOK y):Pu C 157 [Qag x,Qag y] (Qe3 (Xc [x,y])):=by
 have h1:(dg B32 1).length≤1:=Xe (by decide) _ _ (by decide)
 obtain ⟨⟨l1,l2⟩,l3,l4⟩:=Qm4 hx hy
 have x1:=hx.n1
 have x2:=hx.d1
 have y1:=hy.n1
 have y2:=hy.d1
 have hp:=Qgd [x,y] (by simp) (fun z hz=>by simp at hz;rcases hz with rfl | rfl<;>assumption) (fun k hk=>by
  have hk:k=0∨k=1∨k=2:=by simp at hk;omega
  rcases hk with rfl | rfl | rfl
  ·exact ⟨show (dg B32 1).length≤_ by omega,show (dg B32 1).length≤_ by omega⟩
  ·exact ⟨show (dg B32 (Xc [x]).num).length≤_ by omega,show (dg B32 (Xc [x]).den).length≤_ by omega⟩
  ·exact ⟨show (dg B32 (Xc [x,y]).num).length≤_ by omega,show (dg B32 (Xc [x,y]).den).length≤_ by omega⟩)
 have hp:Pu C 232 [.sl 2 [.bool x.neg,NA x.num,NA x.den,.bool y.neg,NA y.num,NA y.den]] (Qe3 (Xc [x,y])):=hp
 generalize Xc [x,y]=P at *;refine Pu.ofBor (Xk (Yl P)) ?_;refine zL Qd Tryz.func157 w157 Tryz.ntmps157 Tryz.results157 ?_
 (refine zG ?_;(repeat' ((with_reducible apply zBr)<;>intro h<;>refine zG ?_))<;>try exact .intro)
 refine Fc.sealed (r:=3) rfl (by simp [Qf,clo,Qp]) ?_
 simp only [szL,sz,if_true,List.drop_zero];refine Fc.pure hp (by simp [Qf,clo,Qp,Xs]) (fun g=>Ya _ _ (Xk (Yl P))) ?_
 (refine zG ?_;(repeat' ((with_reducible apply zBr)<;>intro h<;>refine zG ?_))<;>try exact .intro)
 exact .self (Xk (Yl P))
theorem Qqu {x:Raw} (h:RawOK x):RawOK (Yl (Xm x)):=by
 obtain ⟨h1,h2⟩:=Qfd x.neg (lv 4294967296 x.num) (lv 4294967296 x.den)
 have n1:=h.n1
 have d1:=h.d1
 refine ⟨?_, ?_,Yz _,Yz _⟩
 ·have:=Xe (b:=B32) (by decide) (Xm x).num x.num.length (Nat.lt_of_le_of_lt h1 (Qac h.nL))
  show (dg B32 (Xm x).num).length≤_
  omega
 ·show (dg B32 (Xm x).den).length≤_
  rcases h2 with h2 | h2
  ·have:=Xe (b:=B32) (by decide) (Xm x).den x.den.length (Nat.lt_of_le_of_lt h2 (Qac h.dL))
   omega
  ·have e:(Xm x).den=1:=h2
   have:(dg B32 1).length≤1:=Xe (by decide) _ _ (by decide)
   rw [e];omega
def Qmk (x y:Raw):Rq × Int:=if (dg B32 (Xm y).num).length=0 then (⟨false,0,0⟩,17) else (Xc [x,⟨(Xm y).neg,dg B32 (Xm y).den,dg B32 (Xm y).num⟩],0)
theorem Qtt (x y:Raw) (hx:RawOK x) (hy:RawOK y):Pu C 232 [.sl 2 [.bool x.neg,NA x.num,NA x.den,.bool y.neg,NA y.num,NA y.den]] (Qe3 (Xc [x,y])):=by
 have h1:(dg B32 1).length≤1:=Xe (by decide) _ _ (by decide)
 obtain ⟨⟨l1,l2⟩,l3,l4⟩:=Qm4 hx hy
 have x1:=hx.n1
 have x2:=hx.d1
 have y1:=hy.n1
 have y2:=hy.d1
 exact Qgd [x,y] (by simp) (fun z hz=>by simp at hz;rcases hz with rfl | rfl<;>assumption) (fun k hk=>by
  have hk:k=0∨k=1∨k=2:=by simp at hk;omega
  rcases hk with rfl | rfl | rfl
  ·exact ⟨show (dg B32 1).length≤_ by omega,show (dg B32 1).length≤_ by omega⟩
  ·exact ⟨show (dg B32 (Xc [x]).num).length≤_ by omega,show (dg B32 (Xc [x]).den).length≤_ by omega⟩
  ·exact ⟨show (dg B32 (Xc [x,y]).num).length≤_ by omega,show (dg B32 (Xc [x,y]).den).length≤_ by omega⟩)
theorem Qym (x y:Raw) (hx:RawOK x) (hy:RawOK y):Pu C 158 [Qag x,Qag y] (.tup [Qe3 (Qmk x y).1,.int .i64 (Qmk x y).2]):=by
 have ny:=Qhu y hy
 have hS:=Qqu hy
 have n1:=hS.n1
 have d1:=hS.d1
 have hp:=Qtt x ⟨(Xm y).neg,dg B32 (Xm y).den,dg B32 (Xm y).num⟩ hx ⟨d1,n1,hS.dL,hS.nL⟩
 unfold Qmk;generalize Xm y=S at *;by_cases h0:(dg B32 S.num).length=0
 ·rw [if_pos h0];refine Pu.ofBor (by simp only [clo,Qf,Bool.and_true];exact Xk (Yl ⟨false,0,0⟩)) ?_
  refine zL Qd Tryz.func158 w158 Tryz.ntmps158 Tryz.results158 ?_
  (refine zG ?_;(repeat' ((with_reducible apply zBr)<;>intro h<;>refine zG ?_))<;>try exact .intro)
  refine ny.call ⟨.self (Xk _),trivial⟩ (Xk (Yl S)) ?_
  (refine zG ?_;(repeat' ((with_reducible apply zBr)<;>intro h<;>refine zG ?_))<;>try exact .intro)
  refine Bor.tupL ⟨Bor.aggL ⟨.self rfl, ?_, ?_,trivial⟩,.self rfl,trivial⟩
  all_goals (rw [Yh];exact .nil _)
 ·rw [if_neg h0]
  have hp:Pu C 232 [.sl 2 [.bool x.neg,NA x.num,NA x.den,.bool S.neg,NA (dg B32 S.den),NA (dg B32 S.num)]] (Qe3 (Xc [x,⟨S.neg,dg B32 S.den,dg B32 S.num⟩])):=hp
  generalize Xc [x,⟨S.neg,dg B32 S.den,dg B32 S.num⟩]=P at *;refine Pu.ofBor (by simp [clo,Qf,Qp,Xk (Yl P),Qqv]) ?_
  refine zL Qd Tryz.func158 w158 Tryz.ntmps158 Tryz.results158 ?_
  (refine zG ?_;(repeat' ((with_reducible apply zBr)<;>intro h<;>refine zG ?_))<;>try exact .intro)
  refine ny.call ⟨.self (Xk _),trivial⟩ (Xk (Yl S)) ?_
  (refine zG ?_;(repeat' ((with_reducible apply zBr)<;>intro h<;>refine zG ?_))<;>try exact .intro)
  refine Fc.sealed (r:=3) rfl (by simp [Qf,clo,Qp]) ?_
  simp only [szL,sz,if_true,List.drop_zero];refine Fc.pure hp (by simp [Qf,clo,Qp,Xs]) (fun g=>Ya _ _ (Xk (Yl P))) ?_
  (refine zG ?_;(repeat' ((with_reducible apply zBr)<;>intro h<;>refine zG ?_))<;>try exact .intro)
  exact .self (by simp [clo,Qf,Qp])
def Qfn (t:Tn):Int:=if Xn t.shape≠0 then Xn t.shape else if (t.el.length:Int)≠Jp t.shape then 13 else 0
def Qhw (t:Tn):Int:=if Qfn t≠0 then Qfn t else if t.el.all okR then 0 else 6
theorem Qik {α:Type} {xs:List α} {p:α→Bool} (d:α):xs.all p=true↔∀ j,j<xs.length→p (xs.getD j d)=true:=by
 rw [List.all_eq_true];constructor
 ·intro h j hj
  have e:xs.getD j d=xs[j]:=by simp [List.getD,hj]
  rw [e];exact h _ (List.getElem_mem hj)
 ·intro h x hx;obtain ⟨j,hj,rfl⟩:=List.mem_iff_getElem.1 hx
  have e:xs.getD j d=xs[j]:=by simp [List.getD,hj]
  rw [← e];exact h j hj
def Qmv (a b:Tn):Bool:=decide (a.shape=b.shape)&&(decide (a.el.length=b.el.length)&&(List.range a.el.length).all fun i=>Qjf (Xm (a.el.getD i r0)) (Xm (b.el.getD i r0)))
theorem Qm0 {n:Nat} {p:Nat→Bool}:(List.range n).all p=true↔∀ i,i<n→p i=true:=by simp
theorem Qqo (a b:Tn) (ha:TnOK a) (hb:TnOK b):Pu C 27 [tnV a,tnV b] (.bool (Qmv a b)):=by
 have hs:=ha.s
 have he:=ha.e
 have hs':=hb.s
 have he':=hb.e
 refine zK Qd Tryz.func27 w27 Tryz.ntmps27 Tryz.results27 ?_
 (refine zG ?_;(repeat' ((with_reducible apply zBr)<;>intro h<;>refine zG ?_))<;>try exact .intro)
 refine Fc.pure (Qkq a.shape b.shape (by omega)) (by simp [Qf,clo,Qb]) (fun g=>rfl) ?_
 (refine zG ?_;(repeat' ((with_reducible apply zBr)<;>intro h<;>refine zG ?_))<;>try exact .intro)
 ·have hel:¬ a.el.length=b.el.length:=by omega
  (refine Qh (by intro g;simp only [go_sem,ren,Qe]) ?_)
  congr 1
  symm
  simp [Qmv,hel]
 ·have hel:a.el.length=b.el.length:=by omega
  ·skip
   refine Qg (fun n ts H=>∃ (i:Nat),(i≤a.el.length)∧((∀ j,j<i→Qjf (Xm (a.el.getD j r0)) (Xm (b.el.getD j r0))=true))∧(Qc H 0=some ⟨40,2,[.sl a.shape.length (ints a.shape),.sl a.el.length (Qx a.el)]⟩)∧(Qc H 1=some ⟨40,2,[.sl b.shape.length (ints b.shape),.sl b.el.length (Qx b.el)]⟩)∧(n=a.el.length - i)∧ts.length=40∧nth ts 2=.ptr 0 0∧nth ts 3=.ptr 1 0∧nth ts 5=.int .i64 (i:Nat)) ?_ (n:=a.el.length) ?_
   ·skip
    rintro n ts H ⟨i,hi,hI,h0,h1,hn,hL,hs2,hs3,hs5⟩;refine Qv [(2,.ptr 0 0),(3,.ptr 1 0),(5,.int .i64 (i:Nat))] hL (by simp only [zFm,hs2,hs3,hs5,true_and];exact zNm) ?_
    clear hL hs2 hs3 hs5 ts
    refine Qw Qd ?_;by_cases hcase:i<a.el.length
    ·skip
     (apply Zo;repeat' ((with_reducible first|apply Zk|apply zBr<;>intro h)<;>try simp -implicitDefEqProofs (maxSteps:=9^7) (disch:=first|exact zDs|fail) only [go_sem,h0,h1]))
     refine Pc.pure (Qqp (a.el.getD i r0) (b.el.getD i r0) (ha.get hcase) (hb.get (by omega))) (by simp [Qf,clo,Qp]) (fun g=>rfl) ?_
     cases hbb:Qjf (Xm (a.el.getD i r0)) (Xm (b.el.getD i r0)) with
     | true =>
      (apply Zo;repeat' ((with_reducible first|apply Zk|apply zBr<;>intro h)<;>try simp -implicitDefEqProofs (maxSteps:=9^7) (disch:=first|exact zDs|fail) only [go_sem,h0,h1]))
      have hI':∀ j,j<i+1→Qjf (Xm (a.el.getD j r0)) (Xm (b.el.getD j r0))=true:=Qc3 hI hbb
      exact ⟨a.el.length - (i+1),by omega,i+1,(by (repeat' apply And.intro)<;>(first | rfl | omega | (congr 1;omega) | assumption | (congr 1;assumption)))⟩
     | false =>
      (apply Zo;repeat' ((with_reducible first|apply Zk|apply zBr<;>intro h)<;>try simp -implicitDefEqProofs (maxSteps:=9^7) (disch:=first|exact zDs|fail) only [go_sem,h0,h1]))
      (refine Qh (by intro g;simp only [go_sem,ren,Qe]) ?_)
      congr 1
      symm
      rw [Bool.eq_false_iff];intro hh;simp only [Qmv,Bool.and_eq_true,Qm0] at hh
      have:=hh.2.2 i hcase
      rw [hbb] at this;cases this
    ·skip
     (apply Zo;repeat' ((with_reducible first|apply Zk|apply zBr<;>intro h)<;>try simp -implicitDefEqProofs (maxSteps:=9^7) (disch:=first|exact zDs|fail) only [go_sem,h0,h1]))
     (refine Qh (by intro g;simp only [go_sem,ren,Qe]) ?_)
     congr 1
     symm
     simp only [Qmv,Bool.and_eq_true,Qm0,decide_eq_true_eq];exact ⟨by assumption,hel,fun j hj=>hI j (by omega)⟩
   ·exact ⟨0,by omega,fun j hj=>by omega,rfl,rfl,rfl,rfl,rfl,rfl,rfl⟩
 ·skip
  (refine Qh (by intro g;simp only [go_sem,ren,Qe]) ?_)
  congr 1
  symm
  simp [Qmv,h]
end Go.Proofs.YtepjcbnpbcmfcaaGreat
end
