/-
  Parts Bv20, Bv21, Bv22, Bv23, Bv24, Bv25, Bv26, Bv28, Bv29, Bv30, Bv31, Base, CodeK1, CodeK2, CodeK3, one behind the other: a program logic of our own, contracts of functions.
-/
import Derived.Test.YtipmmjebfpbkmaaGreatQ2
import Derived.RangeFuncRecord
import Derived.RangeFuncSeq
import Derived.ProofKit
import Derived.SizedLaws
import Derived.Deep.Slices
import Derived.Test.YtipmmjebfpbkmaaGreatRows
import Derived.JoinedCond
import Derived.Test.YtipmmjebfpbkmaaGreatProg

set_option linter.unusedVariables false
set_option linter.unusedSimpArgs false
set_option maxRecDepth 100000
set_option maxHeartbeats 8000000
section
namespace Go.Bv
open Go.RowKit
structure Grow (w w':World):Prop where
 os:w'.os=w.os
 tape:w'.tape=w.tape
 output:w'.output=w.output
 size:w.heap.size≤w'.heap.size
 keep:∀ b,b<w.heap.size→w'.heap[b]?=w.heap[b]?
structure Chg (F:Nat→Prop) (w:World) (F':Nat→Prop) (w':World):Prop where
 size:w.heap.size≤w'.heap.size
 keep:∀ b,b<w.heap.size→¬ F b→w'.heap[b]?=w.heap[b]?
 new:∀ b,F' b→F b∨w.heap.size≤b
abbrev JT:=Nat→(Nat→Prop)→World→Prop
structure JOK (G:Nat→Prop) (J:JT):Prop where
 good:∀ k F w,J k F w→∀ b,w.heap.size≤b→G b
 lt:∀ k F w,J k F w→∀ b,F b→b<w.heap.size
 grow:∀ k F w w',J k F w→Grow w w'→J k F w'
abbrev Bnd (G im F:Nat→Prop) (w:World):Prop:=∀ b,im b→(b<w.heap.size∧¬ F b)∧G b
def Qpl (C:Ctx) (G:Nat→Prop) (l:Nat) (xs:List (List V)) (J:JT):Prop :=
 ∀ k F w aS im (vs:List Value),J k F w→xs[k]?=some aS→aS.length=vs.length→Bnd G im F w→(∀ j,VR im Qax w (nth aS j) (vs.getD j undef)) →
  YieldAt (FW none) 0 C.P l vs.toArray w fun e W'=>∃ b F',e=.returned (.bool b)∧J (if b=true then k+1 else xs.length+1) F' W'∧Chg F w F' W'
def Gen (C:Ctx) (g:FuncId) (lb:List V) (xs:List (List V)):Prop :=
 Xbw C.P g∧(∀ aS∈xs,Qh aS=true)∧∀ (G im F:Nat→Prop) (w:World) (lbv:List Value) (l:Nat) (J:JT),lb.length=lbv.length→(∀ j,VR im Qax w (nth lb j) (lbv.getD j undef))→Bnd G im F w→JOK G J→Qpl C G l xs J→J 0 F w →
  Calls C.P g ([Value.func (.yield l) #[] #[]]++lbv).toArray w fun e W'=>(∃ v,e=.returned v)∧∃ k F',(k=xs.length∨k=xs.length+1)∧J k F' W'
def dk (k:Nat):Nat→Place:=fun r=>if r<k then .dead else .no
theorem Qgf {k r b cap:Nat}:dk k r≠.at b cap:=by unfold dk;split<;>simp
theorem Xov {G im F:Nat→Prop} {w:World} (h:Bnd G im F w) (k:Nat):HR im (dk k) w (List.replicate k none):=by
 refine ⟨fun r=>?_,fun b hb r cap=>Qgf,fun r b cap h=>(Qgf h).elim,fun b hb=>(h b hb).1.1,fun r r' b c c' h=>(Qgf h).elim,fun r hr=>?_,fun r hr=>?_,fun r b cap h=>(Qgf h).elim⟩
 ·simp only [List.length_replicate,dk];split<;>simp [*]
 ·unfold dk at hr;split at hr
  ·rename_i hlt;simp [hlt]
  ·cases hr
 ·unfold dk at hr;split at hr<;>cases hr
theorem Xrh {im:Nat→Prop} {w:World} {k m:Nat} (h:k≤m):Ext im (dk k) w im (dk m) w:=by
 refine ⟨rfl,rfl,rfl,Nat.le_refl _,fun b hb=>hb,fun b hb=>.inl hb,fun r hr=>.inl ?_,fun r b cap h=>(Qgf h).elim,fun _ _ _=>rfl⟩
 unfold dk at hr ⊢;split at hr
 ·rw [if_pos (by omega),if_pos (by omega)]
 ·exact (hr rfl).elim
structure InvY (G:Nat→Prop) (J:JT) (ts:List V) (H:Qb) (a:Act) (w:World):Prop where
 h:∃ im F,H=List.replicate H.length none∧TR im (dk H.length) w ts a.tmps∧a.defers=[]∧Bnd G im F w∧J H.length F w
def Qrp (G:Nat→Prop) (J:JT) (Q:Exit→List V→Qb→Prop):Exit→Act→World→Prop
 | .panic _,_,_=>False
 | .outgrown,_,_=>False
 | e,a,w=>∃ ts H,Q e ts H∧InvY G J ts H a w
def TY (C:Ctx) (G:Nat→Prop) (J:JT) (c:Code) (Q:Exit→List V→Qb→Prop) (ts:List V) (H:Qb):Prop :=
 ∀ a w,InvY G J ts H a w→c.wpIn (FW none) 0 C.P (Qrp G J Q) a w
def cwY (l:Nat) (xs:List (List V)):CW:=fun fv args H K =>
 match fv with
 | .fn (.yield m) [] []=>m=l∧xs[H.length]?=some args∧K (.bool true) (H++[none])∧K (.bool false) (H++List.replicate (xs.length+1 - H.length) none)
 | _=>False
theorem Xj0 (l:Nat) (xs:List (List V)) (H0:Qb):CWok (cwY l xs) H0:=by
 refine ⟨?_, ?_, ?_⟩
 ·intro fv args H K K' hK h;unfold cwY at h ⊢;split at h
  ·exact ⟨h.1,h.2.1,hK _ _ h.2.2.1,hK _ _ h.2.2.2⟩
  ·exact h.elim
 ·intro fv args H p h;unfold cwY at h;split at h
  ·exact h.2.2.1
  ·exact h.elim
 ·intro fv args H K h;unfold cwY at h ⊢;split at h
  ·exact ⟨h.1,h.2.1,⟨.of (.app _ _),h.2.2.1⟩,⟨.of (.app _ _),h.2.2.2⟩⟩
  ·exact h.elim
def okY (o:Oper):Bool:=Jh o.op||Zl o.op||(match o.op with | .call c=>(match c.callee with | .value _=>true | _=>false) | _=>false)
def Qyg (ops:Array Oper):Bool:=ops.toList.all okY
theorem Xax {ops:Array Oper} (h:Qyg ops=true) {i:Nat} {o:Oper} (ho:ops[i]?=some o):okY o=true:=by
 simp only [Qyg,List.all_eq_true] at h;exact h o (by simpa using Array.mem_of_getElem? ho)
theorem Xfc {y:Ty} {op:BinOp} {a b:V} {H:Qb} {K K':V→Prop} (hK:∀ v,K v→K' v) (h:Qey y op a b H K):Qey y op a b H K':=by
 by_cases hb:Qef b=true
 ·obtain ⟨p,v,hd⟩:=Qwo y op a b H hb
  have:=(hd K).1 h
  exact (hd K').2 ⟨this.1,hK _ this.2⟩
 ·cases b<;>simp [Qef] at hb
  revert h
  cases a<;>simp only [Qey]<;>try exact id
  ·rintro ⟨h1,h2⟩;refine ⟨h1, ?_⟩
   revert h2
   cases op<;>first | exact hK _ | exact id
  ·rintro ⟨h1,h2⟩;refine ⟨h1, ?_⟩
   revert h2
   cases op<;>first | exact fun h=>⟨hK _ h.1,fun e=>hK _ (h.2 e)⟩ | exact id
  ·rintro ⟨h1,h2,h3⟩;refine ⟨h1,h2, ?_⟩
   revert h3
   cases op<;>first | exact fun h=>⟨hK _ h.1,fun e=>hK _ (h.2 e)⟩ | exact id
theorem Xhl {C:Ctx} {cw cw':CW} {op:Op} {ts:List V} {H:Qb} {K:V→Qb→Prop} (hq:Jh op=true∨Zl op=true) (h:opc C.ty cw op ts H K):opc C.ty cw' op ts H fun v H'=>H'=H∧K v H:=by
 by_cases hbin:∃ o t x y t',op=.binOp o t x y t'
 ·obtain ⟨o,t,x,y,t',rfl⟩:=hbin;exact ⟨h.1,Xfc (fun v hv=>⟨rfl,hv⟩) h.2⟩
 ·have hnil:Jv op ts:=by
   unfold Jv;split
   ·exact (hbin ⟨_,_,_,_,_,rfl⟩).elim
   ·trivial
  have h0:opc C.ty cw' op ts H fun v _=>K v H:=by
   cases op with
   | call c =>
    rcases hq with hq | hq
    ·simp only [Jh] at hq;simp only [opc] at h ⊢;cases hc:c.callee with
     | builtin b =>
      rw [hc] at h hq;simp only at h ⊢
      revert h
      generalize c.argTypes.toList=ats;generalize (c.args.toList.map (ev ts))=args;cases b<;>simp at hq
      all_goals
       intro h;unfold Qr at h ⊢;split at h<;>first | exact h | exact h.elim | (simp_all)
     | value f=>rw [hc] at hq;simp at hq
     | invoke _ _=>rw [hc] at hq;simp at hq
    ·simp [Zl] at hq
   | buildSlice t n ps =>
    have hb:Qgo ps.toList=true:=by simpa [Jh,Zl] using hq
    simp only [opc,opw,hb,Qns] at h ⊢;exact h
   | _=>first | exact h | (simp [Jh,Zl] at hq)
  obtain ⟨p,v,hd⟩:=Qkb (C:=C) (cw:=cw') hq ts H hnil
  have:=(hd fun v=>K v H).1 h0
  have h1:=(hd fun v=>H=H∧K v H).2 ⟨this.1,rfl,this.2⟩
  exact Qyb (C:=C) (H0:=H) (K:=fun v H'=>H'=H∧K v H) (hq.imp (fun h=>⟨h,(Same.refl H).stand⟩) (fun h=>⟨h,.refl H⟩)) hnil h1
theorem Xtr {C:Ctx} {l:Nat} {xs:List (List V)} {G:Nat→Prop} {J:JT} (hx:∀ aS∈xs,Qh aS=true) (hJ:JOK G J) (hY:Qpl C G l xs J) {R:Exit→Act→World→Prop} (o:Oper) (hok:okY o=true) (ts:List V) (H:Qb) (a:Act) (w:World) (KK:V→Qb→Prop) (next:Act→World→Prop)
  (h:opc C.ty (cwY l xs) o.op ts H KK) (hI:InvY G J ts H a w)
  (hn:∀ v vc H' w',KK v H'→InvY G J (Yo ts o.dst v) H' (a.put o.dst vc) w'→next (a.put o.dst vc) w'):o.wpIn (FW none) 0 C.P a w next R:=by
 obtain ⟨im,F,e1,e2,e3,e4,e5⟩:=hI.h
 have quiet:(Jh o.op=true∨Zl o.op=true)→o.wpIn (FW none) 0 C.P a w next R:=by
  intro hq
  have h1:=Xhl (cw':=cwF C) hq h
  have hH:=Xov e4 H.length
  rw [← e1] at hH;refine Qbv (Qa6 C none) h1 e2 hH fun v vc H' im' pl' w' k1 k2 k3 k4=>?_
  obtain ⟨rfl,k1⟩:=k1
  have hpl:pl'=dk H'.length:=by
   funext r;unfold dk;split
   ·rename_i hlt
    have h2:dk H'.length r=.dead:=by unfold dk;rw [if_pos hlt]
    rcases k4.plo r (by rw [h2];simp) with h3 | h3
    ·rw [h3,h2]
    ·exact h3
   ·rename_i hlt
    have:=k3.len r
    cases hp:pl' r with
    | no=>rfl
    | _=>rw [hp] at this;simp at this;omega
  subst hpl
  have hg:Grow w w':=⟨k4.os,k4.tape,k4.output,k4.size,fun b hb=>k4.frame b hb fun r cap=>Qgf⟩
  refine hn _ _ _ _ k1 ⟨im',F,e1,(e2.mono k4 fun b _ r cap=>Qgf).put k2 _,by rw [Yl];exact e3,fun b hb=>⟨⟨k3.imb b hb,fun hF=>?_⟩, ?_⟩,hJ.grow _ _ _ _ e5 hg⟩
  ·rcases k4.imn b hb with h2 | h2 | ⟨r,cap,h2⟩
   ·exact (e4 b h2).1.2 hF
   ·have:=hJ.lt _ _ _ e5 b hF;omega
   ·exact Qgf h2
  ·rcases k4.imn b hb with h2 | h2 | ⟨r,cap,h2⟩
   ·exact (e4 b h2).2
   ·exact hJ.good _ _ _ e5 b h2
   ·exact (Qgf h2).elim
 simp only [okY,Bool.or_eq_true] at hok;rcases hok with (hok | hok) | hok
 ·exact quiet (.inl hok)
 ·exact quiet (.inr hok)
 ·split at hok
  ·rename_i c ho;split at hok
   ·rename_i f hc;simp only [ho,opc,hc] at h;unfold cwY at h;split at h
    ·rename_i m hf;obtain ⟨rfl,h1,h2,h3⟩:=h
     have hfv:=Qkx e2 f
     rw [hf] at hfv
     have hmem:(c.args.toList.map (ev ts))∈xs:=List.mem_of_getElem? h1
     have hy:=hY H.length F w _ im (c.args.map a.eval).toList e5 h1 (by simp) e4 (fun j=>by
      have:=Qkp e2 c.args
      exact (this.2 j).clo (Ju (hx _ hmem) j))
     obtain ⟨fn,tmps,assign,body,hy1,hy2⟩:=hy;refine ⟨fun _ _=>trivial, ?_⟩
     rw [Oper.semAt_eq none a.eval o (fun c'=>by rw [ho];simp)]
     have hev:a.eval f=.func (.yield m) #[] #[]:=by
      cases hfe:a.eval f with
      | func g us vs =>
       rw [hfe] at hfv;generalize hus:us=us' at hfv;generalize hvs:vs=vs' at hfv;cases hfv with
       | fn _ _ _ us vs hl1 hr1 hl2 hr2 =>
        have hu:us=[]:=List.eq_nil_of_length_eq_zero hl1.symm
        have hv:vs=[]:=List.eq_nil_of_length_eq_zero hl2.symm
        subst hu hv
        rfl
      | _=>rw [hfe] at hfv;cases hfv
     have hrun:(execOp a.eval o).run C.P w=.ok (.round m fn tmps assign body) w:=by
      simp only [execOp,ho,resolve,hc,Sem.run_bind,Sem.run_pure,Result.andThen_ok,hev,Deferred.ofValue,invoke];rw [Array.toArray_toList] at hy1;simp only [Sem.run_bind,hy1,Result.andThen_ok,List.append_toArray,Array.append_empty,Array.empty_append]<;>simpa using hy1
     rw [hrun,Oper.uponIn_round];refine ⟨(fun h=>by cases h),hy2.mono ?_⟩
     rintro e w' ⟨b,F',rfl,k1,k2⟩
     have hb':Bnd G im F' w':=fun b hb=>⟨⟨Nat.lt_of_lt_of_le (e4 b hb).1.1 k2.size,fun hF=>by
      rcases k2.new b hF with h4 | h4
      ·exact (e4 b hb).1.2 h4
      ·have:=(e4 b hb).1.1;omega⟩,(e4 b hb).2⟩
     have hw:∀ (ad:Addr) v,im ad.block→w.cell? ad=some v→w'.cell? ad=some v:=fun ad v hi hc =>
      Qin hc fun hlt=>k2.keep _ hlt (e4 _ hi).1.2
     have hTR:∀ m,H.length≤m→TR im (dk m) w' ts a.tmps:=fun m hm =>
      ⟨e2.1,fun i=>(((e2.mono (Xrh hm) fun b _ r cap=>Qgf)).2 i).world hw⟩
     have hklt:H.length<xs.length:=(List.getElem?_eq_some_iff.1 h1).1
     cases b with
     | true =>
      refine hn _ _ _ _ h2 ⟨im,F', ?_, ?_,by rw [Yl];exact e3,hb', ?_⟩
      ·rw [List.length_append,List.length_singleton,List.replicate_succ',← e1]
      ·refine TR.put (hTR _ (by simp)) (.bool true) _
      ·simpa using k1
     | false =>
      refine hn _ _ _ _ h3 ⟨im,F', ?_, ?_,by rw [Yl];exact e3,hb', ?_⟩
      ·rw [List.length_append,List.length_replicate,← List.replicate_append_replicate,← e1]
      ·refine TR.put (hTR _ (by simp)) (.bool false) _
      ·have:H.length+(xs.length+1 - H.length)=xs.length+1:=by omega
       simpa [this] using k1
    ·exact h.elim
   ·cases hok
  ·cases hok
theorem InvY.skip {G:Nat→Prop} {J:JT} {ts:List V} {H:Qb} {a:Act} {w:World} (h:InvY G J ts H a w) (d:Option Tmp):InvY G J (Yo ts d (.tup [])) H (a.put d (.tuple [].toArray)) w:=by
 obtain ⟨im,F,e1,e2,e3,e4,e5⟩:=h.h;exact ⟨im,F,e1,e2.put (.tup [] [] rfl fun j=>by simp [nth,List.getD];exact .any _) d,by rw [Yl];exact e3,e4,e5⟩
theorem InvY.now {G:Nat→Prop} {J:JT} {Q:Exit→List V→Qb→Prop} {ts:List V} {H:Qb} {a:Act} {w:World} (h:InvY G J ts H a w) {e:Exit} (hq:Q e ts H) (hp:∀ c,e≠.panic c) (ho:e≠.outgrown):Qrp G J Q e a w:=by
 cases e with
 | panic c=>exact absurd rfl (hp c)
 | outgrown=>exact absurd rfl ho
 | _=>exact ⟨ts,H,hq,h⟩
theorem Xtj {C:Ctx} {l:Nat} {xs:List (List V)} {G:Nat→Prop} {J:JT} (hx:∀ aS∈xs,Qh aS=true) (hJ:JOK G J) (hY:Qpl C G l xs J) {ops:Array Oper} (hok:Qyg ops=true) {K:List V→Qb→Prop} {R:Exit→Act→World→Prop} (hK:∀ ts H a w,K ts H→InvY G J ts H a w→R .normal a w) :
  ∀ (m:List Oper) (k:Nat) (ts:List V) (H:Qb) (w:World) (a:Act),ops.toList.drop k=m→Qcg C.ty (cwY l xs) ops K m ts H→InvY G J ts H a w→wpOpsIn (FW none) 0 C.P ops R (List.range' k m.length) a w:=by
 intro m
 induction m with
 | nil=>intro k ts H w a hl h hr;exact hK ts H a w h hr
 | cons o m ih =>
  intro k ts H w a hl h hr
  have ho:ops[k]?=some o:=by
   have:(ops.toList.drop k)[0]?=some o:=by rw [hl];rfl
   simpa [List.getElem?_drop] using this
  have hl':ops.toList.drop (k+1)=m:=by
   have:(ops.toList.drop k).tail=m:=by rw [hl];rfl
   simpa [List.tail_drop] using this
  simp only [List.length_cons,List.range'_succ,wpOpsIn,ho];simp only [Qcg] at h;obtain ⟨im,F,e1,e2,e3,e4,e5⟩:=hr.h;rcases Qc9 (Qel h) e2 with ⟨hw,h⟩ | ⟨hw,h⟩
  ·rw [if_pos hw];exact Xtr hx hJ hY o (Xax hok ho) ts H a w _ _ h hr fun v vc H' w' k1 k2=>ih (k+1) _ H' w' _ hl' k1 k2
  ·rw [if_neg (by simp [hw])]
   exact ⟨fun _ _=>trivial,ih (k+1) _ H w _ hl' h (hr.skip _)⟩
theorem InvY.drawn {G:Nat→Prop} {J:JT} (hJ:JOK G J) {ts:List V} {H:Qb} {a:Act} {w:World} (h:InvY G J ts H a w):InvY G J ts H a { w with drawn:=w.drawn+1 }:=by
 obtain ⟨im,F,e1,e2,e3,e4,e5⟩:=h.h;exact ⟨im,F,e1,⟨e2.1,fun i=>VR.world (w:=w) (w':={ w with drawn:=w.drawn+1 }) (fun _ _ _ (h:w.cell? _=some _)=>h) (e2.2 i)⟩,e3,e4,hJ.grow _ _ _ _ e5 ⟨rfl,rfl,rfl,Nat.le_refl _,fun _ _=>rfl⟩⟩
theorem Xfl {C:Ctx} {l:Nat} {xs:List (List V)} {G:Nat→Prop} {J:JT} (hx:∀ aS∈xs,Qh aS=true) (hJ:JOK G J) (hY:Qpl C G l xs J) {id:Nat} {ops:Array Oper} (hok:Qyg ops=true) {Q:Exit→List V→Qb→Prop} {ts:List V} {H:Qb}
  (h:Qcg C.ty (cwY l xs) ops (Q .normal) ops.toList ts H):TY C G J (.region id ops false) Q ts H:=by
 intro a w hr;refine wpIn_region ?_;rw [List.range_eq_range']
 have:=Xtj hx hJ hY hok (K:=Q .normal) (R:=Qrp G J Q) (fun ts H a w k1 k2=>⟨ts,H,k1,k2⟩) ops.toList 0 ts H w a (by simp) h hr
 simpa using this
def Qmz:Op→Bool
 | .alloc _=>true
 | _=>false
def Qvp (o:Oper):Bool:=o.guard.isNone&&(o.dst.isSome&&Qmz o.op)
def Xa9 (ops:Array Oper):Bool:=ops.toList.any Qvp
def Xla (Q:Exit→List V→Qb→Prop) (H:Qb) (ts1:List V) (H1:Qb):Prop :=
 ∃ (e s:Nat) (cs:List V) (N:Nat) (m:List (Nat × V)),H1=H++[some ⟨e,s,cs⟩]∧Qh cs=true∧ts1.length=N∧(∀ p∈m,nth (szL H.length cs ts1) p.1=p.2∧clo p.2=true)∧Q .normal (env N m) H
def Xt5 (im0:Nat→Prop) (k:Nat) (w0:World) (ts:List V) (H:Qb) (a:Act) (w:World):Prop:=∃ im pl,HR im pl w H∧TR im pl w ts a.tmps∧a.defers=[]∧Ext im0 (dk k) w0 im pl w
theorem Xtk {C:Ctx} {im0:Nat→Prop} {kk:Nat} {w0:World} {ops:Array Oper} {K:List V→Qb→Prop} {R:Exit→Act→World→Prop} (hK:∀ ts H a w,K ts H→Xt5 im0 kk w0 ts H a w→R .normal a w) :
  ∀ (m:List Oper) (k:Nat) (ts:List V) (H:Qb) (w:World) (a:Act),ops.toList.drop k=m→Qcg C.ty (cwF C) ops K m ts H→Xt5 im0 kk w0 ts H a w→wpOpsIn (FW none) 0 C.P ops R (List.range' k m.length) a w:=by
 intro m
 induction m with
 | nil=>intro k ts H w a hl h hr;exact hK ts H a w h hr
 | cons o m ih =>
  intro k ts H w a hl h hr
  have ho:ops[k]?=some o:=by
   have:(ops.toList.drop k)[0]?=some o:=by rw [hl];rfl
   simpa [List.getElem?_drop] using this
  have hl':ops.toList.drop (k+1)=m:=by
   have:(ops.toList.drop k).tail=m:=by rw [hl];rfl
   simpa [List.tail_drop] using this
  simp only [List.length_cons,List.range'_succ,wpOpsIn,ho];simp only [Qcg] at h;obtain ⟨im,pl,e1,e2,e3,e4⟩:=hr;rcases Qc9 (Qel h) e2 with ⟨hw,h⟩ | ⟨hw,h⟩
  ·rw [if_pos hw];refine Qbv (Qa6 C none) h e2 e1 fun v vc H' im' pl' w' k1 k2 k3 k4=>?_
   exact ih (k+1) _ H' w' _ hl' k1 ⟨im',pl',k3,(e2.mono k4 e1.apart).put k2 _,by rw [Yl];exact e3,e4.trans k4⟩
  ·rw [if_neg (by simp [hw])]
   refine ⟨fun _ _=>trivial,ih (k+1) _ H w _ hl' h ⟨im,pl,e1, ?_,by rw [Yl];exact e3,e4⟩⟩
   exact e2.put (.tup [] [] rfl fun j=>by simp [nth,List.getD];exact .any _) _
theorem Xr3 {C:Ctx} {G:Nat→Prop} {J:JT} (hJ:JOK G J) {id:Nat} {ops:Array Oper} {Q:Exit→List V→Qb→Prop} {ts:List V} {H:Qb} (h:Qcg C.ty (cwF C) ops (Xla Q H) ops.toList ts H):TY C G J (.region id ops false) Q ts H:=by
 intro a w hr;obtain ⟨im,F,e1,e2,e3,e4,e5⟩:=hr.h;refine wpIn_region ?_;rw [List.range_eq_range']
 have hH:=Xov e4 H.length
 rw [← e1] at hH
 have:=Xtk (C:=C) (im0:=im) (kk:=H.length) (w0:=w) (K:=Xla Q H) (R:=Qrp G J Q) (fun ts1 H1 a1 w1 k1 k2=>?_) ops.toList 0 ts H w a (by simp) h ⟨im,dk H.length,hH,e2,e3,.refl _ _ _⟩
 ·simpa using this
 ·obtain ⟨e,s,cs,N,m,rfl,hc,hN,hm,hq⟩:=k1;obtain ⟨im1,pl1,g1,g2,g3,g4⟩:=k2;obtain ⟨im2,q1,q2,_,q3⟩:=Qdy g1 (Xo _ _) hc
  have hE:=g4.trans q2
  refine ⟨_,H,hq,⟨im2,F,e1,⟨by rw [Kf,← hN];exact g2.1,fun j=>?_⟩,g3,fun b hb=>?_, ?_⟩⟩
  ·rw [Qe5];unfold cif;split
   ·rcases Qko m j with h1 | h1
    ·rw [h1];exact .any _
    ·obtain ⟨h2,h3⟩:=hm _ h1;simp only at h2 h3;rw [← h2,Qbh];rw [Qbh] at h2;exact (q3 _ _ (g2.2 j)).clo (by rw [h2];exact h3)
   ·exact .any _
  ·refine ⟨⟨q1.imb b hb,fun hF=>?_⟩, ?_⟩
   ·rcases hE.imn b hb with h2 | h2 | ⟨r,cap,h2⟩
    ·exact (e4 b h2).1.2 hF
    ·have:=hJ.lt _ _ _ e5 b hF;omega
    ·exact Qgf h2
   ·rcases hE.imn b hb with h2 | h2 | ⟨r,cap,h2⟩
    ·exact (e4 b h2).2
    ·exact hJ.good _ _ _ e5 b h2
    ·exact (Qgf h2).elim
  ·exact hJ.grow _ _ _ _ e5 ⟨hE.os,hE.tape,hE.output,hE.size,fun b hb=>hE.frame b hb fun r cap=>Qgf⟩
theorem Xob {C:Ctx} (hm:C.P.follows .mixedOrders=true) {l:Nat} {xs:List (List V)} {G:Nat→Prop} {J:JT} (hx:∀ aS∈xs,Qh aS=true) (hJ:JOK G J) (hY:Qpl C G l xs J) {id:Nat} {ops:Array Oper} (hok:Qyg ops=true) (hdr:Qdi ops=true) {Q:Exit→List V→Qb→Prop} {ts:List V} {H:Qb}
  (h:Qb3 C (cwY l xs) ops H (Q .normal) ops.toList ts H):TY C G J (.region id ops true) Q ts H:=by
 intro a w hr
 have hk:Zv ops=true:=by simp only [Qdi,Bool.and_eq_true] at hdr;exact hdr.1
 refine wpIn_region_any hm ?_
 have hx':=Qsb (Xj0 l xs H) hk ops.toList 0 ts H (by simp) h
 refine Qpj (Xj0 l xs H) (ro:=none) (ops:=ops) (H0:=H) (K:=Q .normal) (R:=Qrp G J Q) (Inv:=InvY G J) (by simp only [Qdi,Bool.and_eq_true] at hdr;exact hdr.1) (fun _=>True) (Qjh hdr _) ?_ ?_ ?_ ?_
  ops.size (List.range' 0 ops.toList.length) _ ts H _ a (fun _ _=>trivial) ⟨by simp, ?_,fun i=>?_,fun i o ho hl=>?_⟩ (by simp) (.inl (.refl _)) hx' (hr.drawn hJ)
 ·rintro ts' H' a' w' h1;obtain ⟨im,F,e1,e2,_⟩:=h1.h;exact ⟨im,_,e2⟩
 ·intro i o ho ts' H' a' w' KK next h1 h2 hnext;exact Xtr hx hJ hY o (Xax hok ho) ts' H' a' w' KK next h1 h2 hnext
 ·exact fun ts' H' a' w' d h1=>h1.skip d
 ·exact fun a' w' ts' H' k1 k2=>⟨ts',H',k1,k2⟩
 ·exact List.pairwise_lt_range' ..
 ·simp only [List.mem_range'_1,Nat.zero_le,true_and,Nat.zero_add,Array.length_toList];simp only [Array.getD_eq_getD_getElem?,Array.getElem?_replicate];constructor
  ·intro h;refine ⟨h, ?_⟩;simp [h]
  ·exact fun h=>h.1
 ·exfalso;simp only [Array.getD_eq_getD_getElem?,Array.getElem?_replicate] at hl
  split at hl<;>simp at hl
theorem TY.mono {C:Ctx} {G:Nat→Prop} {J:JT} {c:Code} {Q Q':Exit→List V→Qb→Prop} {ts:List V} {H:Qb} (h:TY C G J c Q ts H) (hq:∀ e ts H,Q e ts H→Q' e ts H):TY C G J c Q' ts H :=
 fun a w hr=>wpIn_mono (h a w hr) fun e a w hp=>by
  cases e with
  | panic c=>exact hp
  | outgrown=>exact hp
  | _=>obtain ⟨ts,H,h1,h2⟩:=hp;exact ⟨ts,H,hq _ _ _ h1,h2⟩
theorem Xky {C:Ctx} {G:Nat→Prop} {J:JT} {x y:Code} {Q:Exit→List V→Qb→Prop} {ts:List V} {H:Qb} (h:TY C G J x (Qfs (TY C G J y Q) Q) ts H):TY C G J (.seq x y) Q ts H:=by
 intro a w hr;refine wpIn_seq (wpIn_mono (h a w hr) fun e a' w' hp=>?_)
 cases e with
 | normal=>obtain ⟨ts',H',k1,k2⟩:=hp;exact k1 a' w' k2
 | _=>exact hp
theorem Xbu {C:Ctx} {G:Nat→Prop} {J:JT} {c:Operand} {x y:Code} {Q:Exit→List V→Qb→Prop} {ts:List V} {H:Qb} {b:Bool} (hc:ev ts c=.bool b) (ht:b=true→TY C G J x Q ts H) (hf:b=false→TY C G J y Q ts H):TY C G J (.cond c x y) Q ts H:=by
 intro a w hr;obtain ⟨im,F,e1,e2,e3,e4,e5⟩:=hr.h
 have hv:=Qkx e2 c
 rw [hc] at hv;cases hq:a.eval c with
 | bool b' =>
  rw [hq] at hv;cases hv;exact wpIn_cond_split hq (fun e=>ht e a w hr) (fun e=>hf e a w hr)
 | _=>rw [hq] at hv;cases hv
theorem Qw0 {C:Ctx} {G:Nat→Prop} {J:JT} {id:Nat} {c:Code} {Q:Exit→List V→Qb→Prop} {ts:List V} {H:Qb} (h:TY C G J c (Jw id Q) ts H):TY C G J (.block id c) Q ts H:=by
 intro a w hr;refine wpIn_block (wpIn_mono (h a w hr) fun e a' w' hp=>?_)
 cases e with
 | exit id' =>
  obtain ⟨ts',H',k1,k2⟩:=hp;simp only [Jw] at k1;simp only [Exit.inBlock];split
  ·rename_i he;rw [if_pos he] at k1;exact ⟨ts',H',k1,k2⟩
  ·rename_i he;rw [if_neg he] at k1;exact ⟨ts',H',k1,k2⟩
 | _=>exact hp
theorem Xoa {C:Ctx} {G:Nat→Prop} {J:JT} {c:Code} {Q:Exit→List V→Qb→Prop} {ts:List V} {H:Qb} (n:Nat) (h:Qkn (TY C G J c) Q n ts H):TY C G J (.loop c) Q ts H:=by
 intro a w hr b k cs hro hb hroom
 have key:∀ n ts H w a,Qkn (TY C G J c) Q n ts H→InvY G J ts H a w →
   ∃ e a' w',Qrp G J Q e a' w'∧ArrivesIn (Machine.fenced C.P (FW none)) C.P (lone (b.atR a (.code c::.inLoop c::k)) cs w) b k cs e a' w':=by
  intro n
  induction n with
  | zero=>intro ts H w a h;exact h.elim
  | succ n ih =>
   intro ts H w a h hr;obtain ⟨e,a₁,w₁,hq,harr⟩:=h a w hr b (.inLoop c::k) cs hro hb hroom;cases e with
   | normal =>
    obtain ⟨ts',H',k1,k2⟩:=hq;obtain ⟨e₂,a₂,w₂,hq₂,harr₂⟩:=ih ts' H' w₁ a₁ k1 k2;exact ⟨e₂,a₂,w₂,hq₂,.of_steps (StepsIn.trans harr (.one (fenced_calm hb hroom rfl) stepR_inLoop)) harr₂⟩
   | exit id=>exact ⟨.exit id,a₁,w₁,hq,.pass (x:=.inLoop c) rfl (fun _ _=>.inl (by simp)) harr⟩
   | goto l=>exact ⟨.goto l,a₁,w₁,hq,.pass (x:=.inLoop c) rfl (fun _ _=>.inl (by simp)) harr⟩
   | ret=>exact ⟨.ret,a₁,w₁,hq,.pass (x:=.inLoop c) rfl (fun _ _=>.inl (by simp)) harr⟩
   | panic ch=>exact hq.elim
   | outgrown=>exact hq.elim
 obtain ⟨e,a',w',hq,harr⟩:=key n ts H w a h hr;exact ⟨e,a',w',hq,.of_steps (.one (fenced_calm hb hroom rfl) stepR_loop) harr⟩
theorem Qwz {C:Ctx} {G:Nat→Prop} {J:JT} {c:Code} {Q:Exit→List V→Qb→Prop} (I:Nat→List V→Qb→Prop) (step:∀ n ts H,I n ts H→TY C G J c (Qfs (fun ts' H'=>∃ m,m<n∧I m ts' H') Q) ts H) {n:Nat} {ts:List V} {H:Qb} (h:I n ts H):TY C G J (.loop c) Q ts H:=by
 have key:∀ k n ts H,n<k→I n ts H→Qkn (TY C G J c) Q k ts H:=by
  intro k
  induction k with
  | zero=>intro n ts H hn;omega
  | succ k ih =>
   intro n ts H hn h;refine (step n ts H h).mono fun e ts' H' hq=>?_
   cases e with
   | normal=>obtain ⟨m,hm,hI⟩:=hq;exact ih m ts' H' (by omega) hI
   | _=>exact hq
 exact Xoa (n+1) (key (n+1) n ts H (by omega) h)
theorem Xkz {C:Ctx} {G:Nat→Prop} {J:JT} {c:Code} {Q:Exit→List V→Qb→Prop} {ts:List V} {H:Qb} {N:Nat} (m:List (Nat × V)) (hL:ts.length=N) (hl:∀ p∈m,nth ts p.1=p.2) (h:TY C G J c Q (env N m) H):TY C G J c Q ts H:=by
 intro a w hr;obtain ⟨im,F,e1,e2,e3,e4,e5⟩:=hr.h;refine h a w ⟨im,F,e1,⟨by rw [Kf,← hL];exact e2.1,fun j=>?_⟩,e3,e4,e5⟩
 rw [Qe5];unfold cif;split
 ·rcases Qko m j with h1 | h1
  ·rw [h1];exact .any _
  ·have:=hl _ h1
   simp only at this;rw [← this];exact e2.2 j
 ·exact .any _
def wpY (C:Ctx) (G:Nat→Prop) (l:Nat) (xs:List (List V)) (J:JT):Code→(Exit→List V→Qb→Prop)→List V→Qb→Prop
 | .skip,Q,ts,H=>Q .normal ts H
 | .region _ ops draw,Q,ts,H=>(Xa9 ops=true∧draw=false∧Qcg C.ty (cwF C) ops (Xla Q H) ops.toList ts H)∨(Qyg ops=true∧match draw with
  | false=>Qcg C.ty (cwY l xs) ops (Q .normal) ops.toList ts H
  | true=>Qdi ops=true∧Qb3 C (cwY l xs) ops H (Q .normal) ops.toList ts H)
 | .seq x y,Q,ts,H=>wpY C G l xs J x (Qfs (wpY C G l xs J y Q) Q) ts H
 | .cond c x y,Q,ts,H=>Qg1 (ev ts c) (wpY C G l xs J x Q ts H) (wpY C G l xs J y Q ts H)
 | .block id c,Q,ts,H=>wpY C G l xs J c (Jw id Q) ts H
 | .loop c,Q,ts,H=>TY C G J (.loop c) Q ts H
 | .exit id,Q,ts,H=>Q (.exit id) ts H
 | .ret,Q,ts,H=>Q .ret ts H
 | _,_,_,_=>False
theorem Xby {C:Ctx} (hm:C.P.follows .mixedOrders=true) {l:Nat} {xs:List (List V)} {G:Nat→Prop} {J:JT} (hx:∀ aS∈xs,Qh aS=true) (hJ:JOK G J) (hY:Qpl C G l xs J):∀ (c:Code) (Q:Exit→List V→Qb→Prop) (ts:List V) (H:Qb),wpY C G l xs J c Q ts H→TY C G J c Q ts H:=by
 intro c
 induction c with
 | skip=>exact fun Q ts H h a w hr=>wpIn_skip (hr.now h (by simp) (by simp))
 | region id ops draw =>
  intro Q ts H h;rcases h with ⟨_,rfl,h⟩ | h
  ·exact Xr3 hJ h
  cases draw with
  | false=>exact Xfl hx hJ hY h.1 h.2
  | true=>exact Xob hm hx hJ hY h.1 h.2.1 h.2.2
 | seq x y ihx ihy =>
  intro Q ts H h;exact Xky ((ihx _ _ _ h).mono fun e ts H hq=>by
   cases e with
   | normal=>exact ihy _ _ _ hq
   | _=>exact hq)
 | cond c x y ihx ihy =>
  intro Q ts H h;simp only [wpY] at h;unfold Qg1 at h;split at h
  ·rename_i b hb;exact Xbu hb (fun e=>ihx _ _ _ (h.1 e)) (fun e=>ihy _ _ _ (h.2 e))
  ·exact h.elim
 | block id c ih=>exact fun Q ts H h=>Qw0 (ih _ _ _ h)
 | loop c _=>exact fun Q ts H h=>h
 | exit id=>exact fun Q ts H h a w hr=>wpIn_exit (hr.now h (by simp) (by simp))
 | ret=>exact fun Q ts H h a w hr=>wpIn_ret (hr.now h (by simp) (by simp))
 | _=>exact fun Q ts H h=>h.elim
theorem VR.keep {im:Nat→Prop} {pl:Nat→Place} {w w':World} (hk:∀ b,im b→w'.heap[b]?=w.heap[b]?) {v:V} {c:Value} (h:VR im pl w v c):VR im pl w' v c :=
 h.world fun a v hi hc=>Qin hc fun _=>hk _ hi
theorem TR.keep {im:Nat→Prop} {pl:Nat→Place} {w w':World} (hk:∀ b,im b→w'.heap[b]?=w.heap[b]?) {ts:List V} {tmps:Array Value} (h:TR im pl w ts tmps):TR im pl w' ts tmps :=
 ⟨h.1,fun i=>(h.2 i).keep hk⟩
theorem HR.keep {im:Nat→Prop} {pl:Nat→Place} {w w':World} {H:Qb} (hs:w.heap.size≤w'.heap.size) (hk:∀ b,(im b∨∃ r cap,pl r=.at b cap)→w'.heap[b]?=w.heap[b]?) (h:HR im pl w H):HR im pl w' H:=by
 refine ⟨h.len,h.apart,fun r b cap hr=>Nat.lt_of_lt_of_le (h.bound r b cap hr) hs,fun b hb=>Nat.lt_of_lt_of_le (h.imb b hb) hs,h.inj,h.dead,h.virt,fun r b cap hr=>?_⟩
 obtain ⟨e,s,cs,cur,q1,q2,q3,q4,q5,q6⟩:=h.row r b cap hr;exact ⟨e,s,cs,cur,q1,by rw [hk b (.inr ⟨r,cap,hr⟩)];exact q2,q3,q4,q5,fun j=>(q6 j).keep fun b hb=>hk b (.inl hb)⟩
theorem VR.more {im im':Nat→Prop} {pl:Nat→Place} {w:World} (hi:∀ b,im b→im' b) {v:V} {c:Value} (h:VR im pl w v c):VR im' pl w v c:=by
 have:=h.ren (g:=some) (im':=im') (pl':=pl) (fun r r' e=>by injection e with e;rw [e]) hi
 rwa [Qj3] at this
theorem HR.more {im im':Nat→Prop} {pl:Nat→Place} {w:World} {H:Qb} (hi:∀ b,im b→im' b) (ha:∀ b,im' b→b<w.heap.size∧∀ r cap,pl r≠.at b cap) (h:HR im pl w H):HR im' pl w H:=by
 refine ⟨h.len,fun b hb=>(ha b hb).2,h.bound,fun b hb=>(ha b hb).1,h.inj,h.dead,h.virt,fun r b cap hr=>?_⟩
 obtain ⟨e,s,cs,cur,q1,q2,q3,q4,q5,q6⟩:=h.row r b cap hr;exact ⟨e,s,cs,cur,q1,q2,q3,q4,q5,fun j=>(q6 j).more hi⟩
def Qfu:List V→List Tmp→List V→List V
 | ts,p::ps,v::vs=>Qfu (upd ts p v) ps vs
 | ts,_,_=>ts
theorem Xav {im:Nat→Prop} {pl:Nat→Place} {w:World}:∀ (ps:List Tmp) (aS:List V) (vs:List Value) (ts:List V) (tmps:Array Value),TR im pl w ts tmps→aS.length=vs.length→(∀ j,VR im pl w (nth aS j) (vs.getD j undef)) →
  TR im pl w (Qfu ts ps aS) ((ps.zip vs).foldl (fun t p=>t.setIfInBounds p.1 p.2) tmps)
 | [],aS,vs,ts,tmps,h,hl,hv=>by cases aS<;>simpa [Qfu] using h
 | p::ps,[],vs,ts,tmps,h,hl,hv=>by
  have:vs=[]:=List.eq_nil_of_length_eq_zero hl.symm
  subst this;simpa [Qfu] using h
 | p::ps,a::aS,v::vs,ts,tmps,h,hl,hv=>by
  simp only [Qfu,List.zip_cons_cons,List.foldl_cons];refine Xav ps aS vs _ _ ?_ (by simpa using hl) (fun j=>by simpa [nth] using hv (j+1))
  have:=TR.put (a:={ tmps:=tmps,defers:=[] }) h (by simpa [nth] using hv 0) (some p)
  simpa [Yo,Act.put] using this
 | p::ps,a::aS,[],ts,tmps,h,hl,hv=>by simp at hl
theorem Ext.avoid {imA imB:Nat→Prop} {plA plB:Nat→Place} {WA WB:World} (hE:Ext imA plA WA imB plB WB) {c:Nat} (hc:c<WA.heap.size) (hr:∀ r cap,plA r≠.at c cap) (hi:¬ imA c):(∀ r cap,plB r≠.at c cap)∧¬ imB c∧WB.heap[c]?=WA.heap[c]?∧c<WB.heap.size:=by
 refine ⟨fun r cap h=>?_,fun h=>?_,hE.frame c hc hr,Nat.lt_of_lt_of_le hc hE.size⟩
 ·rcases hE.pln r c cap h with ⟨r',cap',h1⟩ | h1
  ·exact hr _ _ h1
  ·omega
 ·rcases hE.imn c h with h1 | h1 | ⟨r,cap,h1⟩
  ·exact hi h1
  ·omega
  ·exact hr _ _ h1
theorem Qe2 (W:World) (l:Nat) (o:Obj):(W.putObj l o).heap.size=W.heap.size:=by simp [World.putObj]
theorem Qa3 (W:World) {l k:Nat} (o:Obj) (h:k≠l):(W.putObj l o).heap[k]?=W.heap[k]?:=by simp [World.putObj,Array.getElem?_setIfInBounds,Ne.symm h]
theorem Qqr (W:World) {l:Nat} (o:Obj) (h:l<W.heap.size):(W.putObj l o).heap[l]?=some o:=by simp [World.putObj,Array.getElem?_setIfInBounds,h]
theorem Ext.put {im im1:Nat→Prop} {pl pl1:Nat→Place} {w W:World} (h:Ext im pl w im1 pl1 W) {l:Nat} (o:Obj) (hl:w.heap.size≤l):Ext im pl w im1 pl1 (W.putObj l o) :=
 ⟨h.os,h.tape,h.output,by rw [Qe2];exact h.size,h.imm,h.imn,h.plo,h.pln,fun b hb hn=>by rw [Qa3 _ _ (by omega)];exact h.frame b hb hn⟩
theorem HR.put {im:Nat→Prop} {pl:Nat→Place} {W:World} {H:Qb} (h:HR im pl W H) {l:Nat} (o:Obj) (hi:¬ im l) (hr:∀ r cap,pl r≠.at l cap):HR im pl (W.putObj l o) H :=
 h.keep (by rw [Qe2];exact Nat.le_refl _) fun b hb=>Qa3 _ _ (by
  rintro rfl;rcases hb with hb | ⟨r,cap,hb⟩
  ·exact hi hb
  ·exact hr r cap hb)
theorem TR.putO {im:Nat→Prop} {pl:Nat→Place} {W:World} {ts:List V} {tmps:Array Value} (h:TR im pl W ts tmps) {l:Nat} (o:Obj) (hi:¬ im l):TR im pl (W.putObj l o) ts tmps :=
 h.keep fun b hb=>Qa3 _ _ (by rintro rfl;exact hi hb)
theorem DefOK.putO {pl:Nat→Place} {W:World} {ds:List Deferred} (h:DefOK pl W ds) {l:Nat} (o:Obj) {r0:Loop} (hl:W.heap[l]?=some (.loop r0)):DefOK pl (W.putObj l o) ds:=by
 refine ⟨h.nodup,fun d hd=>?_⟩
 obtain ⟨r,h1,h2,h3⟩:=h.each d hd;refine ⟨r,h1, ?_,h3⟩;rw [Qa3 _ _ (by rintro rfl;rw [hl] at h2;cases h2)];exact h2
def Jq (C:Ctx) (Q:Exit→List V→Qb→Prop) (ts:List V) (go:Qb→Prop):Exit→List V→Qb→Prop
 | .normal,_,H=>go H
 | .ret,_,H=>Q .ret ts H
 | .exit id,_,H=>Q (.exit id) ts H
 | .goto t,_,H=>Q (.goto t) ts H
 | _,_,_=>False
theorem Xn9 {C:Ctx} {f:Operand} {ps:Array Tmp} {assign body:Code} {Q:Exit→List V→Qb→Prop} {ts:List V} {H:Qb} {g:FuncId} {lb:List V} {xs:List (List V)} (hf:ev ts f=.fn (.func g) [] lb) (hlb:Qh lb=true) (hg:Gen C g lb xs) (hps:∀ aS∈xs,aS.length=ps.size)
  (I:Nat→Qb→Prop) (h0:I 0 H)
  (step:∀ k aS H,xs[k]?=some aS→I k H→∀ l,T C (some l) assign (fun e ts1 H1=>e=.normal∧T C (some l) body (Jq C Q ts (I (k+1))) ts1 H1) (Qfu ts ps.toList aS) H)
  (done:∀ H,I xs.length H→Q .normal ts H):T C none (.rangeFunc f ps assign body) Q ts H:=by
 intro im pl w a hr;refine wpIn_rangeFunc fun fn _=>?_
 have hfv:=Qkx hr.tr f
 rw [hf] at hfv;obtain ⟨lbv,hev,hlbl,hlbv⟩:∃ lbv:List Value,a.eval f=.func (.func g) #[] lbv.toArray∧lb.length=lbv.length∧∀ j,VR im pl w (nth lb j) (lbv.getD j undef):=by
  cases hfe:a.eval f with
  | func g us vs =>
   rw [hfe] at hfv;generalize hus:us=us' at hfv;generalize hvs:vs=vs' at hfv;cases hfv with
   | fn _ _ _ us vs hl1 hr1 hl2 hr2 =>
    have hu:us=[]:=List.eq_nil_of_length_eq_zero hl1.symm
    subst hu;exact ⟨vs,rfl,hl2,hr2⟩
  | _=>rw [hfe] at hfv;cases hfv
 obtain ⟨rec,hrec⟩:∃ rec:LoopState→Option Code→Loop,rec=fun st pe=>{ state:=st,pending:=pe,fn,tmps:=a.tmps,params:=ps,assign,body,defers:=w.heap.size }:=⟨_,rfl⟩
 obtain ⟨W1,hW1⟩:∃ W1,(w.alloc (.deferred (some []))).alloc (.loop (rec .ready none))=W1:=⟨_,rfl⟩
 have hL1:W1.heap[w.heap.size+1]?=some (.loop (rec .ready none)):=by
  rw [← hW1];have:=World.alloc_heap_new (w.alloc (.deferred (some []))) (.loop (rec .ready none));rwa [World.size_alloc] at this
 have hK1:W1.heap[w.heap.size]?=some (.deferred (some [])):=by
  rw [← hW1];exact (Below.heap_alloc _ _ _ (by simp)).trans (World.alloc_heap_new w _)
 have hS1:W1.heap.size=w.heap.size+2:=by rw [← hW1];simp
 have hold:∀ b,b<w.heap.size→W1.heap[b]?=w.heap[b]?:=fun b hb=>by
  rw [← hW1,Below.heap_alloc _ _ _ (by simp;omega),Below.heap_alloc _ _ _ hb]
 have hE1:Ext im pl w im pl W1:=⟨by rw [← hW1];rfl,by rw [← hW1];rfl,by rw [← hW1];rfl,by omega,fun _ h=>h,fun _ h=>.inl h,fun _ _=>.inl rfl,fun r b cap h=>.inl ⟨r,cap,h⟩,fun b hb _=>hold b hb⟩
 -- what stands between two rounds
 let l:=w.heap.size+1
 let b0:=w.heap.size
 let St:=fun (F im':Nat→Prop) (pl':Nat→Place) (H':Qb) (W:World)=>HR im' pl' W H'∧TR im' pl' W ts a.tmps∧Ext im pl w im' pl' W∧W.heap[b0]?=some (.deferred (some []))∧(∀ r cap,pl' r≠.at b0 cap∧pl' r≠.at l cap)∧(¬ im' b0∧¬ im' l)∧(∀ b,F b↔(b=b0∨b=l∨∃ r cap,pl' r=.at b cap))
 let G:Nat→Prop:=fun b=>im b∨w.heap.size≤b
 let J:JT:=fun k F W=>if k≤xs.length then (∃ im' pl' H',I k H'∧St F im' pl' H' W∧W.heap[l]?=some (.loop (rec .ready none)))
  else (∃ e c im' pl' H',(e=Exit.ret∧c=Code.ret∨(∃ id,e=.exit id∧c=.exit id)∨(∃ t,e=.goto t∧c=.goto t))∧Q e ts H'∧St F im' pl' H' W∧W.heap[l]?=some (.loop (rec .done (some c))))
 have stGrow:∀ F im' pl' H' W W',St F im' pl' H' W→Grow W W'→St F im' pl' H' W':=by
  rintro F im' pl' H' W W' ⟨s1,s2,s3,s4,s5,s6,s7⟩ hg
  have hb0:b0<W.heap.size:=(Array.getElem?_eq_some_iff.1 s4).1
  refine ⟨s1.keep hg.size fun b hb=>hg.keep b ?_,s2.keep fun b hb=>hg.keep b (s1.imb b hb), ?_,by rw [hg.keep b0 hb0];exact s4,s5,s6,s7⟩
  ·rcases hb with hb | ⟨r,cap,hb⟩
   ·exact s1.imb b hb
   ·exact s1.bound r b cap hb
  ·refine s3.trans ⟨hg.os,hg.tape,hg.output,hg.size,fun _ h=>h,fun _ h=>.inl h,fun _ _=>.inl rfl,fun r b cap h=>.inl ⟨r,cap,h⟩,fun b hb _=>hg.keep b hb⟩
 have hJ:JOK G J:=by
  refine ⟨fun k F W hj b hb=>?_,fun k F W hj b hb=>?_,fun k F W W' hj hg=>?_⟩
  ·refine .inr ?_
   have:w.heap.size≤W.heap.size:=by
    simp only [J] at hj;split at hj
    ·obtain ⟨im',pl',H',_,⟨_,_,s3,_⟩,_⟩:=hj;exact s3.size
    ·obtain ⟨e,c,im',pl',H',_,_,⟨_,_,s3,_⟩,_⟩:=hj;exact s3.size
   omega
  ·have key:∀ im' pl' H',St F im' pl' H' W→l<W.heap.size→b<W.heap.size:=by
    rintro im' pl' H' ⟨s1,s2,s3,s4,s5,s6,s7⟩ hl;rcases (s7 b).1 hb with rfl | rfl | ⟨r,cap,h⟩
    ·exact (Array.getElem?_eq_some_iff.1 s4).1
    ·exact hl
    ·exact s1.bound r b cap h
   simp only [J] at hj;split at hj
   ·obtain ⟨im',pl',H',_,s,hl⟩:=hj;exact key im' pl' H' s (Array.getElem?_eq_some_iff.1 hl).1
   ·obtain ⟨e,c,im',pl',H',_,_,s,hl⟩:=hj;exact key im' pl' H' s (Array.getElem?_eq_some_iff.1 hl).1
  ·simp only [J] at hj ⊢;split at hj
   ·rename_i hk;rw [if_pos hk];obtain ⟨im',pl',H',hi,s,hl⟩:=hj;exact ⟨im',pl',H',hi,stGrow _ _ _ _ _ _ s hg,by rw [hg.keep l (Array.getElem?_eq_some_iff.1 hl).1];exact hl⟩
   ·rename_i hk;rw [if_neg hk];obtain ⟨e,c,im',pl',H',he,hq,s,hl⟩:=hj;exact ⟨e,c,im',pl',H',he,hq,stGrow _ _ _ _ _ _ s hg,by rw [hg.keep l (Array.getElem?_eq_some_iff.1 hl).1];exact hl⟩
 refine ⟨l,[{ target:=.collected b0,args:=#[] }],W1,{ target:=.fn (.func g) lbv.toArray,args:=#[.func (.yield l) #[] #[]] },W1,g,([Value.func (.yield l) #[] #[]]++lbv).toArray,W1, ?_, ?_,fun _ _=>trivial, ?_,(fun h=>by cases h), ?_⟩
 ·rw [← hW1,hrec];exact run_enterLoop_outer _ _ _ _ _
 ·simp only [resolve,hev];simp [go_sem]
 ·obtain ⟨fn',q1,q2,q3⟩:=hg.1
  have h2':¬ fn'.name = "runtime.NumGoroutine" := by simpa using q2
  have h3':¬ fn'.body=none:=by intro e;rw [e] at q3;cases q3
  simp only [invoke,callFunc];simp [Go.program,Sem.run,q1,h2',h3']
 have hF0:J 0 (fun b=>b=b0∨b=l∨∃ r cap,pl r=.at b cap) W1:=by
  simp only [J];rw [if_pos (Nat.zero_le _)];refine ⟨im,pl,H,h0,⟨hr.hr.keep (by omega) fun b hb=>hold b ?_,hr.tr.keep fun b hb=>hold b (hr.hr.imb b hb),hE1,hK1,fun r cap=>⟨fun e=>?_,fun e=>?_⟩,⟨fun e=>?_,fun e=>?_⟩,fun b=>Iff.rfl⟩,hL1⟩
  ·rcases hb with hb | ⟨r,cap,hb⟩
   ·exact hr.hr.imb b hb
   ·exact hr.hr.bound r b cap hb
  ·have h:w.heap.size<w.heap.size:=hr.hr.bound r _ cap e;omega
  ·have h:w.heap.size+1<w.heap.size:=hr.hr.bound r _ cap e;omega
  ·have h:w.heap.size<w.heap.size:=hr.hr.imb _ e;omega
  ·have h:w.heap.size+1<w.heap.size:=hr.hr.imb _ e;omega
 have hYS:Qpl C G l xs J:=by
  intro k F W aS imI vs hj hxk hvl hB hv
  have hk:k<xs.length:=(List.getElem?_eq_some_iff.1 hxk).1
  have has:aS∈xs:=List.mem_of_getElem? hxk
  simp only [J] at hj;rw [if_pos (by omega)] at hj
  obtain ⟨im',pl',H',hi,⟨s1,s2,s3,s4,s5,s6,s7⟩,hlr⟩:=hj
  have hll:l<W.heap.size:=(Array.getElem?_eq_some_iff.1 hlr).1
  have hb0:b0<W.heap.size:=(Array.getElem?_eq_some_iff.1 s4).1
  have hy:=run_yield (P:=C.P) (args:=vs.toArray) hlr (by rw [hrec];simp [← hvl,hps aS has])
  rw [hrec] at hy;refine ⟨fn,_,assign,body,hy,roundIn_of_wpIn (F:=FW none) trivial ?_⟩
  -- the caller's state,the iterator's values beside it
  let im2:Nat→Prop:=fun b=>im' b∨imI b
  have hm1:∀ b,im' b→im2 b:=fun b hb=>.inl hb
  have ha2:∀ b,im2 b→b<W.heap.size∧∀ r cap,pl' r≠.at b cap:=by
   rintro b (hb | hb)
   ·exact ⟨s1.imb b hb,s1.apart b hb⟩
   ·exact ⟨(hB b hb).1.1,fun r cap hr=>(hB b hb).1.2 ((s7 b).2 (.inr (.inr ⟨r,cap,hr⟩)))⟩
  have hH2:HR im2 pl' W H':=s1.more hm1 ha2
  have hT2:TR im2 pl' W ts a.tmps:=⟨s2.1,fun i=>(s2.2 i).more hm1⟩
  have hE2:Ext im pl w im2 pl' W:=⟨s3.os,s3.tape,s3.output,s3.size,fun b hb=>.inl (s3.imm b hb),fun b hb=>by
   rcases hb with hb | hb
   ·exact s3.imn b hb
   ·rcases (hB b hb).2 with h | h
    ·exact .inl h
    ·exact .inr (.inl h),s3.plo,s3.pln,s3.frame⟩
  have n0:¬ im2 b0:=by
   rintro (h | h)
   ·exact s6.1 h
   ·exact (hB _ h).1.2 ((s7 _).2 (.inl rfl))
  have nl:¬ im2 l:=by
   rintro (h | h)
   ·exact s6.2 h
   ·exact (hB _ h).1.2 ((s7 _).2 (.inr (.inl rfl)))
  have hput:=Xav ps.toList aS vs ts a.tmps hT2 hvl fun j=>((hv j).clo (pl':=pl') (Ju (hg.2.1 aS has) j)).more fun b hb=>.inr hb
  have hfold:(ps.toList.zip vs).foldl (fun t p=>t.setIfInBounds p.1 p.2) a.tmps=(ps.zip vs.toArray).foldl (fun tmps (x:Tmp × Value)=>tmps.setIfInBounds x.1 x.2) a.tmps:=by
   rw [← Array.foldl_toList,Array.toList_zip]
  rw [hfold] at hput
  have hst:=step k aS H' hxk hi l im2 pl' W { tmps:=(ps.zip vs.toArray).foldl (fun tmps (x:Tmp × Value)=>tmps.setIfInBounds x.1 x.2) a.tmps,defers:=[] } ⟨hput,hH2,.nil _ _⟩
  refine wpIn_mono (F:=FW (some l)) hst fun e a1 w1 hp=>?_
  have hnorm:e=.normal:=by
   cases e with
   | normal=>rfl
   | panic c=>exact hp.elim
   | outgrown=>exact hp.elim
   | _=>obtain ⟨_,_,_,_,h,_⟩:=hp;cases h.1
  subst hnorm;obtain ⟨ts1,H1,im1,pl1,⟨_,hbody⟩,hR1,hE3,hM1⟩:=hp
  have avl:=hE3.avoid hll (fun r cap=>(s5 r cap).2) nl
  have av0:=hE3.avoid hb0 (fun r cap=>(s5 r cap).1) n0
  have hl1:w1.heap[l]?=some (.loop (rec .ready none)):=avl.2.2.1.trans hlr
  refine ⟨_,run_beginRound hl1 (by rw [hrec]), ?_⟩
  generalize hw2:w1.putObj l (.loop { rec .ready none with state:=.busy })=w2
  have hs2:w2.heap.size=w1.heap.size:=by rw [← hw2,Qe2]
  have hl2:w2.heap[l]?=some (.loop { rec .ready none with state:=.busy }):=by rw [← hw2];exact Qqr _ _ avl.2.2.2
  have hR2:Rel im1 pl1 w2 ts1 H1 a1:=by rw [← hw2];exact ⟨hR1.tr.putO _ avl.2.1,hR1.hr.put _ avl.2.1 avl.1,hR1.df.putO _ hl1⟩
  refine wpIn_mono (F:=FW (some l)) (hbody im1 pl1 w2 a1 hR2) fun e a2 w3 hp=>?_
  have fin:∀ (jump:Option Code) ts2 H2 im3 pl3,Rel im3 pl3 w3 ts2 H2 a2→Ext im1 pl1 w2 im3 pl3 w3 →
    (∀ F' W4,(∀ b,F' b↔(b=b0∨b=l∨∃ r cap,pl3 r=.at b cap))→St F' im3 pl3 H2 W4→W4.heap[l]?=some (.loop (rec (if jump.isNone then .ready else .done) jump))→J (if jump.isNone=true then k+1 else xs.length+1) F' W4) →
    ∃ v w',(Instr.endRound l jump).run C.P w3=.ok v w'∧∃ b F',Ending.returned v=.returned (.bool b)∧J (if b=true then k+1 else xs.length+1) F' w'∧Chg F W F' w':=by
   intro jump ts2 H2 im3 pl3 hR3 hE4 hJ4
   have bvl:=hE4.avoid (c:=l) (by omega) avl.1 avl.2.1
   have bv0:=hE4.avoid (c:=b0) (by have:=av0.2.2.2;omega) av0.1 av0.2.1
   have hl3:w3.heap[l]?=some (.loop { rec .ready none with state:=.busy }):=bvl.2.2.1.trans hl2
   refine ⟨_,_,run_endRound jump hl3,jump.isNone,fun b=>b=b0∨b=l∨∃ r cap,pl3 r=.at b cap,rfl, ?_, ?_⟩
   ·refine hJ4 _ _ (fun b=>Iff.rfl) ⟨hR3.hr.put _ bvl.2.1 bvl.1, ?_, ?_, ?_,fun r cap=>⟨bv0.1 r cap,bvl.1 r cap⟩,⟨bv0.2.1,bvl.2.1⟩,fun b=>Iff.rfl⟩ ?_
    ·have t1:=(hT2.mono hE3 hH2.apart).putO (.loop { rec .ready none with state:=.busy }) avl.2.1
     rw [hw2] at t1;exact (t1.mono hE4 hR2.hr.apart).putO _ bvl.2.1
    ·have t1:=(hE2.trans hE3).put (.loop { rec .ready none with state:=.busy }) (l:=l) (by simp only [l];omega)
     rw [hw2] at t1;exact (t1.trans hE4).put _ (by simp only [l];omega)
    ·rw [Qa3 _ _ (by simp only [l,b0];omega),bv0.2.2.1,← hw2,Qa3 _ _ (by simp only [l,b0];omega),av0.2.2.1];exact s4
    ·rw [Qqr _ _ bvl.2.2.2,hrec]
   ·refine ⟨by rw [Qe2];have:=hE4.size;have:=hE3.size;omega,fun b hb hF=>?_,fun b hF=>?_⟩
    ·have hnl:b≠l:=fun e=>hF ((s7 b).2 (.inr (.inl e)))
     have hnr:∀ r cap,pl' r≠.at b cap:=fun r cap h=>hF ((s7 b).2 (.inr (.inr ⟨r,cap,h⟩)))
     have hb1:b<w1.heap.size:=Nat.lt_of_lt_of_le hb hE3.size
     have hnr1:∀ r cap,pl1 r≠.at b cap:=fun r cap h=>by
      rcases hE3.pln r b cap h with ⟨r',cap',h1⟩ | h1
      ·exact hnr _ _ h1
      ·omega
     rw [Qa3 _ _ hnl,hE4.frame b (by omega) hnr1,← hw2,Qa3 _ _ hnl,hE3.frame b hb hnr]
    ·rcases hF with rfl | rfl | ⟨r,cap,h⟩
     ·exact .inl ((s7 _).2 (.inl rfl))
     ·exact .inl ((s7 _).2 (.inr (.inl rfl)))
     ·rcases hE4.pln r b cap h with ⟨r',cap',h1⟩ | h1
      ·rcases hE3.pln r' b cap' h1 with ⟨r'',cap'',h2⟩ | h2
       ·exact .inl ((s7 _).2 (.inr (.inr ⟨r'',cap'',h2⟩)))
       ·exact .inr h2
      ·have:=hE3.size;exact .inr (by omega)
  have out:∀ c e ts2 H2 im3 pl3,(e=Exit.ret∧c=Code.ret∨(∃ id,e=.exit id∧c=.exit id)∨(∃ t,e=.goto t∧c=.goto t))→Q e ts H2→Rel im3 pl3 w3 ts2 H2 a2→Ext im1 pl1 w2 im3 pl3 w3 →
    ∃ v w',(Instr.endRound l (some c)).run C.P w3=.ok v w'∧∃ b F',Ending.returned v=.returned (.bool b)∧J (if b=true then k+1 else xs.length+1) F' w'∧Chg F W F' w':=by
   intro c e ts2 H2 im3 pl3 he hq hR3 hE4;refine fin (some c) ts2 H2 im3 pl3 hR3 hE4 fun F' W4 hF' hSt hl4=>?_
   simp only [Option.isNone_some,Bool.false_eq_true,if_false] at hl4 ⊢;simp only [J];rw [if_neg (by omega)]
   exact ⟨e,c,im3,pl3,H2,he,hq,hSt,hl4⟩
  cases e with
  | normal =>
   obtain ⟨ts2,H2,im3,pl3,hq,hR3,hE4,_⟩:=hp;refine fin none ts2 H2 im3 pl3 hR3 hE4 fun F' W4 hF' hSt hl4=>?_
   simp only [Option.isNone_none,if_true] at hl4 ⊢;simp only [J];rw [if_pos (by omega)]
   exact ⟨im3,pl3,H2,hq,hSt,hl4⟩
  | ret =>
   obtain ⟨ts2,H2,im3,pl3,hq,hR3,hE4,_⟩:=hp;exact out .ret .ret ts2 H2 im3 pl3 (.inl ⟨rfl,rfl⟩) hq hR3 hE4
  | exit id =>
   obtain ⟨ts2,H2,im3,pl3,hq,hR3,hE4,_⟩:=hp;exact out (.exit id) (.exit id) ts2 H2 im3 pl3 (.inr (.inl ⟨id,rfl,rfl⟩)) hq hR3 hE4
  | goto t =>
   obtain ⟨ts2,H2,im3,pl3,hq,hR3,hE4,_⟩:=hp;exact out (.goto t) (.goto t) ts2 H2 im3 pl3 (.inr (.inr ⟨t,rfl,rfl⟩)) hq hR3 hE4
  | panic c=>exact hp.elim
  | outgrown=>exact hp.elim
 have hcall:=hg.2.2 G im _ W1 lbv l J hlbl (fun j=>((hlbv j).clo (Ju hlb j)).keep fun b hb=>hold b (hr.hr.imb b hb)) (fun b hb=>⟨⟨by have:=hr.hr.imb b hb;omega,fun hF=>?_⟩,.inl hb⟩) hJ hYS hF0
 ·refine CallsIn.mono (F:=FW none) (show CallsIn Fence.wide _ C.P g _ W1 _ from callsIn_wide.2 hcall) fun e W' hp=>?_
  obtain ⟨⟨v,rfl⟩,k,F',hk,hj⟩:=hp
  have fin:∀ e im' pl' H' st pe,(∀ c,e≠Exit.panic c)→e≠.outgrown→Q e ts H'→St F' im' pl' H' W'→W'.heap[l]?=some (.loop (rec st pe))→∀ o,Post im pl w a.defers Q e { a with defers:=[{ target:=.collected b0,args:=#[] }]++a.defers } (W'.putObj l o):=by
   rintro e im' pl' H' st pe hp ho hq ⟨s1,s2,s3,s4,s5,s6,s7⟩ hl o
   have hR:Rel im' pl' (W'.putObj l o) ts H' { a with defers:=[{ target:=.collected b0,args:=#[] }]++a.defers }:=by
    refine ⟨s2.putO o s6.2,s1.put o s6.2 fun r cap=>(s5 r cap).2, ?_⟩
    have hd:=(hr.df.mono s3).putO o hl
    refine ⟨List.pairwise_cons.2 ⟨fun d hd'=>?_,hd.nodup⟩,fun d hd'=>?_⟩
    ·obtain ⟨r,h1,h2,_⟩:=hr.df.each d hd';rw [h1];intro e;injection e with e
     have:=(Array.getElem?_eq_some_iff.1 h2).1
     simp only [b0] at e;omega
    ·rcases List.mem_cons.1 hd' with rfl | hd'
     ·exact ⟨b0,rfl,by rw [Qa3 _ _ (by simp only [l,b0];omega)];exact s4,fun q cap=>(s5 q cap).1⟩
     ·exact hd.each d hd'
   have hM:Marks w a.defers ([{ target:=.collected b0,args:=#[] }]++a.defers):=⟨_,rfl,fun d hd=>by
    rcases List.mem_singleton.1 hd with rfl
    exact ⟨b0,rfl,Nat.le_refl _⟩⟩
   have hE:=s3.put o (l:=l) (by simp only [l];omega)
   cases e with
   | panic c=>exact (hp c rfl).elim
   | outgrown=>exact (ho rfl).elim
   | _=>exact ⟨ts,H',im',pl',hq,hR,hE,hM⟩
  simp only [J] at hj;rcases hk with rfl | rfl
  ·rw [if_pos (Nat.le_refl _)] at hj;obtain ⟨im',pl',H',hi,hSt,hl⟩:=hj
   have hend:=run_endLoop (P:=C.P) hl (by rw [hrec];simp)
   rw [hrec] at hend;refine ⟨none,_,hend, ?_⟩;exact fin .normal im' pl' H' _ _ (by simp) (by simp) (done H' hi) hSt hl _
  ·rw [if_neg (by omega)] at hj
   obtain ⟨e,c,im',pl',H',he,hq,hSt,hl⟩:=hj
   have hend:=run_endLoop (P:=C.P) hl (by rw [hrec];simp)
   rw [hrec] at hend;refine ⟨some c,_,hend, ?_⟩;rcases he with ⟨rfl,rfl⟩ | ⟨id,rfl,rfl⟩ | ⟨t,rfl,rfl⟩
   ·exact wpIn_ret (fin _ im' pl' H' _ _ (by simp) (by simp) hq hSt hl _)
   ·exact wpIn_exit (fin _ im' pl' H' _ _ (by simp) (by simp) hq hSt hl _)
   ·exact wpIn_goto (fin _ im' pl' H' _ _ (by simp) (by simp) hq hSt hl _)
 ·have h1:=hr.hr.imb b hb
  rcases hF with rfl | rfl | ⟨r,cap,hF⟩
  ·have h:w.heap.size<w.heap.size:=h1;omega
  ·have h:w.heap.size+1<w.heap.size:=h1;omega
  ·exact hr.hr.apart b hb r cap hF
theorem Xbn {y:Ty} {e e' s' n:Nat} {v x:V} {H:Qb} {cs:List V} {K:V→Qb→Prop} (h:Own e 1 H v n cs) (hy:y.size=1) (hb:0<y.bytes∧y.bytes≤64) (hl:n+1≤2000000000000) (hx:Yq x=true) (hc:cs.all Yq=true)
  (hK:∀ v' H',Own e 1 H' v' (n+1) (cs++[x])→Fr v H H'→K v' H'):Qbb y e v (.ref H.length 0 1) (H++[some ⟨e',s',[x]⟩]) K:=by
 rw [← hy] at h;refine Xbo h (by simp [hy]) (by simp [hx]) (by omega) hb.1 ?_ hc fun v' H' h1 h2=>hK v' H' ?_ h2
 ·have:=Nat.mul_le_mul hl hb.2;omega
 ·rwa [hy] at h1
theorem Qnk {α:Type} (l:List α) (d:α) {i:Nat} (h:i<l.length):l.take (i+1)=l.take i++[l.getD i d]:=by
 rw [List.take_add_one];congr 1;simp [List.getD,h]
theorem Xfb {Q:Exit→List V→Qb→Prop} {ts:List V} {H:Qb} (id id':Nat) (h:id'≠id):Jw id Q (.exit id') ts H=Q (.exit id') ts H:=by simp [Jw,h]
attribute [go_sem] Xfb
theorem Qro {y:Ty} {e m r:Nat} {H:Qb} {cs:List V} {K:V→Qb→Prop} (hr:Qc H r=some ⟨e,1,[]⟩) (hy:y.size=1) (hb:0<y.bytes∧y.bytes≤64) (hl:m≤2000000000000) (hm:cs.length=m) (hc:cs.all Yq=true)
  (hK:∀ v' H',Own e 1 H' v' m cs→Fr (.ref r 0 0) H H'→K v' H'):Qbb y e (.ref r 0 0) (.sl m cs) H K:=by
 have h:Own e y.size H (.ref r 0 0) 0 []:=.inr ⟨r,rfl,by rw [hy];exact hr,by simp⟩
 refine Qh0 h (m:=m) (news:=cs) rfl (by rw [hy,hm];omega) hc (by omega) hb.1 ?_ rfl fun v' H' h1 h2 _ _=>hK v' H' ?_ h2
 ·have:=Nat.mul_le_mul hl hb.2;rw [Nat.zero_add];omega
 ·rw [hy] at h1;simpa using h1
theorem Xnw (k:IntKind) (n:Int):cv1 (.int k n)=.int k n:=rfl
theorem Xj3 (b:Bool):cv1 (.bool b)=.bool b:=rfl
theorem Xnu (b:ByteArray):cv1 (.string b)=.str b:=rfl
theorem Xnv:cv1 (.slice none 0 0)=.nil:=rfl
theorem Xj1:cv1 (.pointer none)=.nilp:=rfl
theorem Xj2:cv1 .nilFunc=.nilf:=rfl
attribute [go_sem] Xnw Xj3 Xnu Xnv Xj1 Xj2
mutual
theorem Qy (g:Nat→Option Nat):∀ v:V,clo v=true→ren g v=v
 | .any,_=>rfl
 | .int _ _,_=>rfl
 | .bool _,_=>rfl
 | .str _,_=>rfl
 | .nil,_=>rfl
 | .sl n cs,h=>by simp only [ren,Yt g cs h]
 | .ref _ _ _,h=>by cases h
 | .agg cs,h=>by simp only [ren,Yt g cs h]
 | .tup vs,h=>by simp only [ren,Yt g vs h]
 | .ptr _ _,h=>by cases h
 | .nilp,_=>rfl
 | .rp cs off,h=>by simp only [ren,Yt g cs h]
 | .fn f xs ys,h=>by
  simp only [clo,Bool.and_eq_true] at h;simp only [ren,Yt g xs h.1,Yt g ys h.2]
 | .nilf,_=>rfl
theorem Yt (g:Nat→Option Nat):∀ l:List V,Qh l=true→Qk g l=l
 | [],_=>rfl
 | v::l,h=>by
  simp only [Qh,Bool.and_eq_true] at h;simp only [Qk,Qy g v h.1,Yt g l h.2]
end
end Go.Bv
end
section
namespace Go.Bv
open Go.RowKit
theorem Gen.of4 {C:Ctx} (hm:C.P.follows .mixedOrders=true) {g:FuncId} {fn:Func} {c:Code} {lb:List V} {xs:List (List V)} {N:Nat} (hf:C.P.funcs[g]?=some fn) (hb:fn.body=some c) (hn:(fn.name == "runtime.NumGoroutine")=false) (hN:fn.ntmps=N) (hr:fn.results=#[]) (ha:lb.length+1≤N)
  (hx:∀ aS∈xs,Qh aS=true) (h:∀ G l J,(∀ c Q ts H,wpY C G l xs J c Q ts H→TY C G J c Q ts H)→TY C G J c (fun e _ H=>(e=.normal∨e=.ret)∧(H.length=xs.length∨H.length=xs.length+1)) (env N (Qev 0 (.fn (.yield l) [] []::lb))) []):Gen C g lb xs:=by
 subst hN;refine ⟨⟨fn,hf,hn,by rw [hb];rfl⟩,hx,fun G im F w lbv l J hl hv hB hJ hY hj=>(callsIn_wide (n:=0)).1 ?_⟩
 refine callsIn_of_wp_marks hf hb trivial ?_
 have hI:InvY G J (.fn (.yield l) [] []::lb++List.replicate (fn.ntmps - (lb.length+1)) .any) [] { tmps:=(Value.func (.yield l) #[] #[]::lbv).toArray++Array.replicate (fn.ntmps - (Value.func (.yield l) #[] #[]::lbv).toArray.size) undef,defers:=[] } w:=by
  refine ⟨im,F,rfl,⟨by simp [hl];omega,fun i=>?_⟩,rfl,hB,hj⟩
  cases i with
  | zero =>
   have h0:VR im (dk 0) w (.fn (.yield l) [] []) (.func (.yield l) #[] #[]):=VR.fn (.yield l) [] [] [] [] rfl (fun j=>by simp only [nth];exact .any _) rfl (fun j=>by simp only [nth];exact .any _)
   simpa [nth,Array.getD_eq_getD_getElem?,Array.getElem?_append] using h0
  | succ i =>
   rw [Zy];split
   ·rename_i hi
    have hi':i<lb.length:=by simpa using hi
    have:=(hv i).ren (g:=some) (im':=im) (pl':=dk 0) (fun r r' e=>by simp [dk,Qax]) (fun b hb=>hb)
    rw [Qj3] at this;simpa [nth,Array.getD_eq_getD_getElem?,Array.getElem?_append_left,hl ▸ hi',List.getD] using this
   ·have:nth (List.replicate (fn.ntmps - (lb.length+1)) V.any) (i+1 - (V.fn (Fn.yield l) [] []::lb).length)=.any:=by
     rw [Ze];simp [List.getD,List.getElem?_replicate];split<;>rfl
    rw [this];exact .any _
 have hT:=Xkz (Qev 0 (.fn (.yield l) [] []::lb)) (by simp;omega) (fun p hp=>by
  obtain ⟨h1,h2,h3⟩:=Ql8 _ 0 p hp;rw [Zy,if_pos (by omega)]
  exact h3) (h G l J (Xby hm hx hJ hY)) _ _ hI
 refine wpIn_mono hT fun e a' w' hp=>?_
 have fin:∀ ts' H',((e=.normal∨e=.ret)∧(H'.length=xs.length∨H'.length=xs.length+1))→InvY G J ts' H' a' w'→LeavesInM Fence.wide 0 C.P fn a'.tmps (fun e W'=>(∃ v,e=Ending.returned v)∧∃ k F',(k=xs.length∨k=xs.length+1)∧J k F' W') a'.defers .returning w':=by
  intro ts' H' k1 k2;obtain ⟨im',F',e1,e2,e3,e4,e5⟩:=k2.h;rw [e3];refine ⟨.tuple #[], ?_,⟨_,rfl⟩,_,F',k1.2,e5⟩;simp [results,hr,Sem.run_bind]
 cases e with
 | normal=>obtain ⟨ts',H',k1,k2⟩:=hp;exact fin ts' H' k1 k2
 | ret=>obtain ⟨ts',H',k1,k2⟩:=hp;exact fin ts' H' k1 k2
 | exit id=>obtain ⟨ts',H',k1,k2⟩:=hp;rcases k1.1 with k | k<;>cases k
 | goto l=>obtain ⟨ts',H',k1,k2⟩:=hp;rcases k1.1 with k | k<;>cases k
 | panic _=>exact hp.elim
 | outgrown=>exact hp.elim
theorem Kt {C:Ctx} {f:Operand} {ps:Array Tmp} {assign body:Tr} {Q:Exit→List V→Qb→Prop} {ts:List V} {H:Qb} {g:FuncId} {lb:List V} {xs:List (List V)} (hf:ev ts f=.fn (.func g) [] lb) (hlb:Qh lb=true) (hg:Gen C g lb xs) (hps:∀ aS∈xs,aS.length=ps.size)
  (I:Nat→Qb→Prop) (h0:I 0 H)
  (step:∀ k aS H,xs[k]?=some aS→I k H→∀ l,TT C (some l) assign (fun e ts1 H1=>e=.normal∧TT C (some l) body (Jq C Q ts (I (k+1))) ts1 H1) (Qfu ts ps.toList aS) H)
  (done:∀ H,I xs.length H→Q .normal ts H):TT C none (.f f ps assign body) Q ts H:=fun c hc=>by
 obtain ⟨x,y,rfl,hx,hy⟩:=Qz4 hc;exact Xn9 hf hlb hg hps I h0 (fun k aS H h1 h2 l=>(step k aS H h1 h2 l x hx).mono fun e ts H h=>⟨h.1,h.2 y hy⟩) done
def yOK:Code→Bool
 | .region _ ops b=>(Xa9 ops&&!b)||(Qyg ops&&(!b||Qdi ops))
 | .seq a b=>yOK a&&yOK b
 | .cond _ a b=>yOK a&&yOK b
 | .block _ a=>yOK a
 | .loop a=>yOK a
 | _=>true
def TTY (C:Ctx) (G:Nat→Prop) (J:JT) (t:Tr) (Q:Exit→List V→Qb→Prop) (ts:List V) (H:Qb):Prop:=∀ c,Qq C c=t→yOK c=true→TY C G J c Q ts H
def Qca:List O2→Bool
 | []=>false
 | .n _ op::l=>Qmz op||Qca l
 | _::l=>Qca l
def Xcm (C:Ctx) (n:Nat) (xs:List (List V)) (b:Bool) (l:List O2) (Q:Exit→List V→Qb→Prop) (ts:List V) (H:Qb):Prop:=match b with
 | true=>Qc1 C (cwF C) l (fun ts1 H1=>Xla Q H ts1 H1) ts H
 | false=>Qc1 C (cwY n xs) l (Q .normal) ts H
def Qde (C:Ctx) (G:Nat→Prop) (n:Nat) (xs:List (List V)) (J:JT):Tr→(Exit→List V→Qb→Prop)→List V→Qb→Prop
 | .s,Q,ts,H=>Q .normal ts H
 | .r,Q,ts,H=>Q .ret ts H
 | .x id,Q,ts,H=>Q (.exit id) ts H
 | .R l,Q,ts,H=>Xcm C n xs (Qca l) l Q ts H
 | .D _ l,Q,ts,H=>Qbz C (cwY n xs) H l (Q .normal) ts H
 | .U l,Q,ts,H=>Qbz C (cwY n xs) H l (Q .normal) ts H
 | .P l x,Q,ts,H=>Qbz C (cwY n xs) H (l++x) (Q .normal) ts H
 | .q a b,Q,ts,H=>Qde C G n xs J a (Qfs (Qde C G n xs J b Q) Q) ts H
 | .c o a b,Q,ts,H=>Qg1 (ev ts o) (Qde C G n xs J a Q ts H) (Qde C G n xs J b Q ts H)
 | .b id a,Q,ts,H=>Qde C G n xs J a (Jw id Q) ts H
 | .l a,Q,ts,H=>TTY C G J (.l a) Q ts H
 | _,_,_,_=>False
section
variable (C:Ctx) (G:Nat→Prop) (n:Nat) (xs:List (List V)) (J:JT) (Q:Exit→List V→Qb→Prop) (ts:List V) (H:Qb) (a b:Tr)
@[go_sem] theorem Xuj:Qde C G n xs J .s Q ts H=Q .normal ts H:=rfl
@[go_sem] theorem Xuk:Qde C G n xs J .r Q ts H=Q .ret ts H:=rfl
@[go_sem] theorem Xui (id:Nat):Qde C G n xs J (.x id) Q ts H=Q (.exit id) ts H:=rfl
@[go_sem] theorem Xpw (l:List O2):Qde C G n xs J (.R l) Q ts H=Xcm C n xs (Qca l) l Q ts H:=rfl
@[congr] theorem Xp8 {uu:Prop} (h00:(True∧True)=uu) {b b':Bool} (l:List O2) {ts':List V} {H':Qb} (hb:b=b') (h1:ts=ts') (h2:H=H'):Xcm C n xs b l Q ts H=Xcm C n xs b' l Q ts' H':=by rw [hb,h1,h2]
@[go_sem] theorem Xp6 (l:List O2):Xcm C n xs true l Q ts H=Qc1 C (cwF C) l (fun ts1 H1=>Xla Q H ts1 H1) ts H:=rfl
@[go_sem] theorem Xp7 (l:List O2):Xcm C n xs false l Q ts H=Qc1 C (cwY n xs) l (Q .normal) ts H:=rfl
attribute [go_sem] Bool.false_or Bool.true_or Bool.or_false
@[go_sem] theorem Xq6:Qca []=false:=rfl
@[go_sem] theorem Xtt (d:Nat) (op:Op) (l:List O2):Qca (.n d op::l)=(Qmz op||Qca l):=rfl
@[go_sem] theorem Xts (op:Op) (l:List O2):Qca (.z op::l)=Qca l:=rfl
@[go_sem] theorem Xq2 (t:TypeId):Qmz (.alloc t)=true:=rfl
@[go_sem] theorem Xsm (x:Operand):Qmz (.move x)=false:=rfl
@[go_sem] theorem Xos (x:Operand):Qmz (.assign x)=false:=rfl
@[go_sem] theorem Xq1 (o:BinOp) (t:TypeId) (x y:Operand) (u:TypeId):Qmz (.binOp o t x y u)=false:=rfl
@[go_sem] theorem Xsl (o:UnOp) (t:TypeId) (x:Operand):Qmz (.unOp o t x)=false:=rfl
@[go_sem] theorem Xsn (t:TypeId) (x:Operand):Qmz (.load t x)=false:=rfl
@[go_sem] theorem Xiu (t:TypeId) (x:Operand) (i:Nat):Qmz (.fieldAddr t x i)=false:=rfl
@[go_sem] theorem Xit (t:TypeId) (x i:Operand):Qmz (.indexAddr t x i)=false:=rfl
@[go_sem] theorem Xso (c:Call):Qmz (.call c)=false:=rfl
@[go_sem] theorem Xuo (l:List O2):Qde C G n xs J (.U l) Q ts H=Qbz C (cwY n xs) H l (Q .normal) ts H:=rfl
@[go_sem] theorem Xpx (l x:List O2):Qde C G n xs J (.P l x) Q ts H=Qbz C (cwY n xs) H (l++x) (Q .normal) ts H:=rfl
@[go_sem] theorem Xul:Qde C G n xs J (.q a b) Q ts H=Qde C G n xs J a (Qfs (Qde C G n xs J b Q) Q) ts H:=rfl
@[go_sem] theorem Xpv (o:Operand):Qde C G n xs J (.c o a b) Q ts H=Qg1 (ev ts o) (Qde C G n xs J a Q ts H) (Qde C G n xs J b Q ts H):=rfl
@[go_sem] theorem Xun (id:Nat):Qde C G n xs J (.b id a) Q ts H=Qde C G n xs J a (Jw id Q) ts H:=rfl
@[go_sem] theorem Xum:Qde C G n xs J (.l a) Q ts H=TTY C G J (.l a) Q ts H:=rfl
end
@[go_sem] theorem Xss {l:Nat} {xs:List (List V)} {H:Qb} (args:List V) (K:V→Qb→Prop):cwY l xs (.fn (.yield l) [] []) args H K=(xs[H.length]?=some args∧K (.bool true) (H++[none])∧K (.bool false) (H++List.replicate (xs.length+1 - H.length) none)):=by simp [cwY]
@[congr] theorem Xpu {C:Ctx} {G:Nat→Prop} {n:Nat} {xs:List (List V)} {J:JT} {Q:Exit→List V→Qb→Prop} {ts ts':List V} {H H':Qb} {uu:Prop} (h00:(True∧True)=uu) (t:Tr) (h1:ts=ts') (h2:H=H'):Qde C G n xs J t Q ts H=Qde C G n xs J t Q ts' H':=by rw [h1,h2]
@[congr] theorem Xsz {C:Ctx} {G:Nat→Prop} {J:JT} {Q:Exit→List V→Qb→Prop} {ts ts':List V} {H H':Qb} {uu:Prop} (h00:(True∧True)=uu) (t:Tr) (h1:ts=ts') (h2:H=H'):TTY C G J t Q ts H=TTY C G J t Q ts' H':=by rw [h1,h2]
theorem Jl {C:Ctx} {G:Nat→Prop} {J:JT} {a:Tr} {Q:Exit→List V→Qb→Prop} (I:Nat→List V→Qb→Prop) (step:∀ n ts H,I n ts H→TTY C G J a (Qfs (fun ts' H'=>∃ m,m<n∧I m ts' H') Q) ts H) {n:Nat} {ts:List V} {H:Qb} (h:I n ts H):TTY C G J (.l a) Q ts H:=fun c hc hy=>by
 obtain ⟨d,rfl,hd⟩:=Ql9 hc;exact Qwz I (fun n ts H h=>step n ts H h d hd hy) h
theorem Qdw {C:Ctx} {G:Nat→Prop} {J:JT} {t:Tr} {Q:Exit→List V→Qb→Prop} {ts:List V} {H:Qb} {N:Nat} (m:List (Nat × V)) (hL:ts.length=N) (hl:∀ p∈m,nth ts p.1=p.2) (h:TTY C G J t Q (env N m) H):TTY C G J t Q ts H:=fun c hc hy=>Xkz m hL hl (h c hc hy)
theorem Qf7 (all:List Oper):∀ (l:List Oper),Qca (Zm all l)=l.any Qvp
 | []=>rfl
 | ⟨some d,op,t,p,a,none⟩::l=>by
  have ih:=Qf7 all l
  simp [Zm,Qca,Qvp,ih]
 | ⟨none,op,t,p,a,none⟩::l=>by
  have ih:=Qf7 all l
  simp [Zm,Qca,Qvp,ih]
 | ⟨d,op,t,p,a,some (j,b)⟩::l=>by
  have ih:=Qf7 all l
  simp only [Zm,List.any_cons,Qvp,Option.isNone_some,Bool.false_and,Bool.false_or];cases Qgc all j<;>simpa [Qca] using ih
theorem Xar {C:Ctx} {G:Nat→Prop} {n:Nat} {xs:List (List V)} {J:JT} (hw:∀ c Q ts H,wpY C G n xs J c Q ts H→TY C G J c Q ts H):∀ (c:Code) (Q:Exit→List V→Qb→Prop) (ts:List V) (H:Qb),yOK c=true→Qde C G n xs J (Qq C c) Q ts H→TY C G J c Q ts H:=by
 intro c
 induction c with
 | skip=>exact fun Q ts H hy h=>hw _ _ _ _ h
 | ret=>exact fun Q ts H hy h=>hw _ _ _ _ h
 | exit id=>exact fun Q ts H hy h=>hw _ _ _ _ h
 | region id ops b =>
  intro Q ts H hy h;simp only [yOK,Bool.or_eq_true,Bool.and_eq_true] at hy;simp only [Qq,Xfj] at h;cases hk:okO (Zm ops.toList ops.toList) with
  | false=>rw [hk] at h;cases b<;>exact h.elim
  | true =>
   have hb:=Qke hk
   rw [hk] at h;cases b with
   | false =>
    simp only [Xpw] at h;cases hal:Qca (Zm ops.toList ops.toList) with
    | true =>
     rw [hal,Xp6,Qew C _ _ _ _ _ _ hb,Array.toArray_toList] at h;exact hw _ _ _ _ (.inl ⟨by rw [Xa9,← Qf7];exact hal,rfl,h⟩)
    | false =>
     rw [hal,Xp7,Qew C _ _ _ _ _ _ hb,Array.toArray_toList] at h;rcases hy with ⟨hy,_⟩ | hy
     ·rw [Xa9,← Qf7 ops.toList,hal] at hy;cases hy
     ·exact hw _ _ _ _ (.inr ⟨hy.1,h⟩)
   | true =>
    simp only [Bool.not_true,Bool.false_or,Bool.and_false,Bool.false_eq_true,and_false,false_or] at hy
    have h:Qbz C (cwY n xs) H (Zm ops.toList ops.toList) (Q .normal) ts H:=by
     simp only [Xkt (show Qbi C ops=true by simp [Qbi,hy.2])] at h
     rcases Qjq C ops with hc | ⟨hd,hc⟩ | ⟨hd,hc⟩
     ·rw [hc] at h;exact h
     ·rw [hc] at h;exact h
     ·rw [hc,Xpx,← Qex,List.dropLast_eq_take,Array.length_toList,List.take_append_drop] at h;exact h
    rw [Qdd C _ _ _ _ _ _ _ hb,Array.toArray_toList] at h;exact hw _ _ _ _ (.inr ⟨hy.1,hy.2,h⟩)
 | seq x y ihx ihy =>
  intro Q ts H hy h;simp only [yOK,Bool.and_eq_true] at hy;exact Xky ((ihx _ _ _ hy.1 h).mono fun e ts H hq=>by
   cases e with
   | normal=>exact ihy _ _ _ hy.2 hq
   | _=>exact hq)
 | cond o x y ihx ihy =>
  intro Q ts H hy h;simp only [yOK,Bool.and_eq_true] at hy;simp only [Qq,Xpv,Qg1] at h;split at h
  ·rename_i b hb;exact Xbu hb (fun e=>ihx _ _ _ hy.1 (h.1 e)) (fun e=>ihy _ _ _ hy.2 (h.2 e))
  ·exact h.elim
 | block id c ih=>exact fun Q ts H hy h=>Qw0 (ih _ _ _ hy h)
 | loop c _=>exact fun Q ts H hy h=>h (.loop c) rfl hy
 | _=>exact fun Q ts H hy h=>h.elim
theorem Gen.of3 {C:Ctx} (hm:C.P.follows .mixedOrders=true) {g:FuncId} {fn:Func} {t:Tr} {lb:List V} {xs:List (List V)} {N:Nat} (hf:C.P.funcs[g]?=some fn) (hb:fn.body.map (Qq C)=some t) (hy:fn.body.all yOK=true) (hn:(fn.name == "runtime.NumGoroutine")=false) (hN:fn.ntmps=N) (hr:fn.results=#[]) (ha:lb.length+1≤N)
  (hx:∀ aS∈xs,Qh aS=true) (h:∀ G l J,(∀ t Q ts H,Qde C G l xs J t Q ts H→TTY C G J t Q ts H)→Qde C G l xs J t (fun e _ H=>(e=.normal∨e=.ret)∧(H.length=xs.length∨H.length=xs.length+1)) (env N (Qev 0 (.fn (.yield l) [] []::lb))) []):Gen C g lb xs:=by
 obtain ⟨c,hb,hc⟩:=Option.map_eq_some_iff.1 hb;rw [hb] at hy
 have hy:yOK c=true:=hy
 have key:∀ G l J,(∀ c Q ts H,wpY C G l xs J c Q ts H→TY C G J c Q ts H)→TY C G J c (fun e _ H=>(e=.normal∨e=.ret)∧(H.length=xs.length∨H.length=xs.length+1)) (env N (Qev 0 (.fn (.yield l) [] []::lb))) []:=fun G l J hw=>by
  subst hc;exact Xar hw c _ _ _ hy (h G l J fun t Q ts H hr c hc hy=>by subst hc;exact Xar hw c _ _ _ hy hr)
 exact Gen.of4 hm hf hb hn hN hr ha hx key
end Go.Bv
end
section
namespace Go.Bv
open Go.RowKit
def RetO2 (e s:Nat) (H:Qb) (v:V) (n:Nat) (cs:List V) (u:V):Prop:=∃ w,v=.tup [w,u]∧Ret e s H w n cs
theorem Own.two {e s:Nat} {H:Qb} {v:V} {n:Nat} {cs:List V} (h:Own e s H v n cs) (hc:∀ g,Qk g cs=cs) {u:V} (hu:∀ g,ren g u=u):∃ sel,Qb6 sel (fun v H=>RetO2 e s H v n cs u) (.tup [v,u]) H :=
 h.ret2 hc hu fun v H h=>⟨v,rfl,h⟩
theorem Xmx {e s:Nat} {H:Qb} {u:V} (hu:∀ g,ren g u=u):∃ sel,Qb6 sel (fun v H=>RetO2 e s H v 0 [] u) (.tup [.nil,u]) H :=
 (Own.nil e s H).two (fun g=>rfl) hu
theorem Ret.some {e s n:Nat} {cs:List V} (h:cs.length=n*s):∃ v H,Ret e s H v n cs:=⟨_,_,.inr ⟨rfl,rfl,h⟩⟩
theorem RetO2.some {e s n:Nat} {cs:List V} (u:V) (h:cs.length=n*s):∃ v H,RetO2 e s H v n cs u:=⟨_,_,_,rfl,.inr ⟨rfl,rfl,h⟩⟩
theorem RetO2.plain {e s:Nat} {H:Qb} {v:V} {n:Nat} {cs:List V} {u:V} (h:RetO2 e s H v n cs u) (hp:Xt cs=true) (hu:Bv.plain u=true):Bv.plain v=true∧Qar H:=by
 obtain ⟨w,rfl,h⟩:=h;obtain ⟨h1,h2⟩:=h.plain hp;exact ⟨by simp [Bv.plain,Xt,h1,hu],h2⟩
theorem RetO2.own {e s:Nat} {H H':Qb} {v:V} {n:Nat} {cs:List V} {u:V} (h:RetO2 e s H' v n cs u) (hc:∀ g,Qk g cs=cs) (hu:∀ g,ren g u=u):∃ w,ren (shift H.length) v=.tup [w,u]∧Own e s (H++Qbf (shift H.length) H') w n cs:=by
 obtain ⟨w,rfl,h⟩:=h;exact ⟨_,by simp only [ren,Qk,hu],h.own hc⟩
theorem Fc.own2 {C:Ctx} {f:FuncId} {args args':List V} {H:Qb} {K:V→Qb→Prop} {e s n:Nat} {cs:List V} {u:V} (h:Fc C f args' [] fun v H=>RetO2 e s H v n cs u) (hb:BorL H args args') (hc:∀ g,Qk g cs=cs) (hp:Xt cs=true) (hu:∀ g,ren g u=u) (hpu:plain u=true)
  (hK:∀ w X,Own e s (H++X) w n cs→K (.tup [w,u]) (H++X)):Fc C f args H K :=
 h.borrow hb.all.1 hb.all.2 (fun v H' hv=>hv.plain hp hpu) fun v H' hv=>by
  obtain ⟨w,e1,h1⟩:=hv.own (H:=H) hc hu;rw [e1];exact hK _ _ h1
theorem Pc.own2 {C:Ctx} {H0:Qb} {f:FuncId} {args args':List V} {H:Qb} {K:V→Qb→Prop} {e s n:Nat} {cs:List V} {u:V} (h:Fc C f args' [] fun v H=>RetO2 e s H v n cs u) (hb:BorL H args args') (hl:cs.length=n*s) (hc:∀ g,Qk g cs=cs) (hp:Xt cs=true) (hu:∀ g,ren g u=u) (hpu:plain u=true)
  (hK:∀ w X,Own e s (H++X) w n cs→K (.tup [w,u]) (H++X)):Pc C H0 f args H K :=
 Pc.borrow h (RetO2.some u hl) hb.all.1 hb.all.2 (fun v H' hv=>hv.plain hp hpu) fun v H' hv=>by
  obtain ⟨w,e1,h1⟩:=hv.own (H:=H) hc hu;rw [e1];exact hK _ _ h1
theorem Pc.ownL {C:Ctx} {H0:Qb} {f:FuncId} {args args':List V} {H:Qb} {K:V→Qb→Prop} {e s n:Nat} {cs:List V} (h:Fc C f args' [] fun v H=>Ret e s H v n cs) (hb:BorL H args args') (hl:cs.length=n*s) (hc:∀ g,Qk g cs=cs) (hp:Xt cs=true) (hK:∀ v X,Own e s (H++X) v n cs→K v (H++X)):Pc C H0 f args H K :=
 Pc.borrow h (Ret.some hl) hb.all.1 hb.all.2 (fun v H' hv=>hv.plain hp) fun v H' hv=>hK _ _ (hv.own hc)
theorem Fc.byVal {C:Ctx} {f:FuncId} {args args':List V} {H:Qb} {Q K:V→Qb→Prop} {u:V} (h:Fc C f args' [] Q) (hl:args.length=args'.length) (hb:∀ j,Bor H (nth args j) (nth args' j)) (hp:∀ v H',Q v H'→plain v=true∧Qar H')
  (hv:∀ im pl w v H c,Q v H→VR im pl w v c→HR im pl w H→∃ im1 pl1 H1,HR im1 pl1 w H1∧Ext im pl w im1 pl1 w∧VR im1 pl1 w u c) (hu:clo u=true) (hK:K u H):Fc C f args H K:=by
 refine ⟨h.1,fun im pl w vs hvl hvs hH=>?_⟩
 have hcall:=h.2 (Qw2 im pl) Qax w vs (by omega) (fun j=>(hb j).VR hH (hvs j)) (HR.none fun b hb=>by
  rcases hb with hb | ⟨r,cap,hb⟩
  ·exact hH.imb b hb
  ·exact hH.bound r b cap hb)
 refine (callsIn_wide (n:=0)).1 ((callsIn_wide.2 hcall).mono fun e w' hq=>?_)
 cases e with
 | panicked _=>exact hq
 | outgrown=>exact hq
 | returned vc =>
  obtain ⟨v,H',im',pl',k1,k2,k3,k4⟩:=hq;obtain ⟨p1,p2⟩:=hp v H' k1
  have hS:HR (fun b=>im b∨(w.heap.size≤b∧im' b)) pl' w' H':=by
   have hsub:∀ b,(im b∨(w.heap.size≤b∧im' b))→im' b:=fun b hb=>by
    rcases hb with hb | hb
    ·exact k4.imm b (.inl hb)
    ·exact hb.2
   refine ⟨k3.len,fun b hb=>k3.apart b (hsub b hb),k3.bound,fun b hb=>k3.imb b (hsub b hb),k3.inj,k3.dead,k3.virt,fun r b cap hr=>?_⟩
   obtain ⟨e,s,cs,cur,q1,q2,q3,q4,q5,q6⟩:=k3.row r b cap hr;exact ⟨e,s,cs,cur,q1,q2,q3,q4,q5,fun j=>(q6 j).plain (Qag (p2 r _ q1) j)⟩
  have hES:Ext im Qax w (fun b=>im b∨(w.heap.size≤b∧im' b)) pl' w' :=
   ⟨k4.os,k4.tape,k4.output,k4.size,fun b hb=>.inl hb,fun b hb=>hb.elim .inl fun h=>.inr (.inl h.1),fun r hr=>(hr rfl).elim,fun r b cap hr=>k4.pln r b cap hr,fun b hb hn=>k4.frame b hb hn⟩
  obtain ⟨im1,pl1,H1,q1,q2,q3⟩:=hv _ _ _ _ _ _ k1 (k2.plain p1) hS
  have hs:=q1.sel (hES.trans q2) [] (by simp) (by simp)
  have hE1:Ext im Qax w im1 (plS [] pl1) w':=hs.2
  have hnew:∀ r b cap,plS [] pl1 r=.at b cap→w.heap.size≤b:=fun r b cap hr=>by
   rcases hE1.pln r b cap hr with ⟨r',cap',h1⟩ | h1
   ·cases h1
   ·exact h1
  have hg:=hH.glue hs.1 hE1.imm (fun b hb=>by
   rcases hE1.imn b hb with h1 | h1 | ⟨r,cap,h1⟩
   ·exact .inl h1
   ·exact .inr h1
   ·cases h1) hE1.os hE1.tape hE1.output hE1.size hnew (fun b hb=>hE1.frame b hb (fun r cap e=>by cases e))
  refine ⟨u,H++Qbf (shift H.length) (Qck [] H1),im1,_, ?_,q3.clo hu,hg.1,hg.2⟩;simpa [Qck,Qbf] using hK
theorem Pc.byVal {C:Ctx} {H0:Qb} {f:FuncId} {args:List V} {H:Qb} {K:V→Qb→Prop} {u:V} (h:Fc C f args H fun v H'=>v=u∧H'=H) (hK:K u H):Pc C H0 f args H K :=
 Pc.gen h ⟨u,H,rfl,rfl⟩ (by rintro v H' ⟨rfl,rfl⟩;exact ⟨.refl _ _,hK⟩)
theorem Fc.byOwn2 {C:Ctx} {f:FuncId} {args args':List V} {H:Qb} {K:V→Qb→Prop} {e s n:Nat} {cs:List V} {u:V} (h:Fc C f args' [] fun v H=>RetO2 e s H v n cs u) (hb:BorL H args args') (hc:Qh cs=true) (hp:Xt cs=true) (hu:clo u=true) (hpu:plain u=true) (hK:K (.tup [.sl n cs,u]) H):Fc C f args H K :=
 h.byVal (u:=.tup [.sl n cs,u]) hb.all.1 hb.all.2 (fun v H' hv=>hv.plain hp hpu) (fun im pl w v H c hq hv hH=>by
  obtain ⟨v',rfl,hq⟩:=hq;obtain ⟨im1,pl1,H1,q1,q2,q3,q4⟩:=RetL.val (.inr hq) hc hH;refine ⟨im1,pl1,H1,q1,q2, ?_⟩;cases hv with
  | tup _ vs hl hr =>
   refine .tup _ vs hl fun j=>?_
   match j with
   | 0=>exact q3 _ (hr 0)
   | 1=>exact q4 _ _ hu (hr 1)
   | j+2=>simpa [nth] using VR.any _) (by simp [clo,Qh,hc,hu]) hK
def Qdj (H:Qb):Nat→V→Option V
 | 0,_=>none
 | k+1,v=>match v with
  | .ref r off n=>(Qc H r).bind fun row=>if off≤row.cs.length then ((row.cs.drop off).mapM (Qdj H k)).map fun cs=>.sl n cs else none
  | .nil=>some (.sl 0 [])
  | .ptr r off=>(Qc H r).bind fun row=>(row.cs.mapM (Qdj H k)).map fun cs=>.rp cs off
  | .agg cs=>(cs.mapM (Qdj H k)).map .agg
  | .fn f xs ys=>(xs.mapM (Qdj H k)).bind fun xs'=>(ys.mapM (Qdj H k)).map fun ys'=>.fn f xs' ys'
  | v=>if clo v then some v else none
theorem Qvd {f:V→Option V}:∀ {l m:List V},l.mapM f=some m→l.length=m.length∧∀ j,j<l.length→f (nth l j)=some (nth m j)
 | [],m,h=>by simp at h;subst h;exact ⟨rfl,fun j hj=>by simp at hj⟩
 | a::l,m,h=>by
  rw [List.mapM_cons] at h;cases ha:f a with
  | none=>rw [ha] at h;simp at h
  | some b =>
   cases hl:l.mapM f with
   | none=>rw [ha,hl] at h;simp at h
   | some m' =>
    rw [ha,hl] at h;simp at h;subst h;obtain ⟨h1,h2⟩:=Qvd hl;refine ⟨by simp [h1],fun j hj=>?_⟩
    cases j with
    | zero=>exact ha
    | succ j=>exact h2 j (by simpa using hj)
theorem Bor.any {H:Qb}:Bor H .any .any:=.clo _ rfl
theorem Qpd {H:Qb}:∀ (k:Nat) {v u:V},Qdj H k v=some u→Bor H v u
 | 0,v,u,h=>by simp [Qdj] at h
 | k+1,v,u,h=>by
  have all:∀ {l m:List V},l.mapM (Qdj H k)=some m→l.length=m.length∧∀ j,Bor H (nth l j) (nth m j):=fun {l m} hm=>by
   obtain ⟨h1,h2⟩:=Qvd hm;refine ⟨h1,fun j=>?_⟩
   by_cases hj:j<l.length
   ·exact Qpd k (h2 j hj)
   ·rw [Qba l j (by omega),Qba m j (by omega)];exact .any
  have leaf:∀ {v u:V},(if clo v then some v else none)=some u→Bor H v u:=fun {v u} h=>by
   split at h
   ·injection h with h;subst h;exact .clo _ (by assumption)
   ·cases h
  cases v with
  | ref r off n =>
   simp only [Qdj,Option.bind_eq_some_iff] at h;obtain ⟨row,hr,h⟩:=h;split at h
   ·rename_i ho;simp only [Option.map_eq_some_iff] at h;obtain ⟨cs,hcs,rfl⟩:=h;obtain ⟨h1,h2⟩:=all hcs;exact .ref r off n row cs hr (by simp at h1;omega) fun j hj=>by have:=h2 j;rwa [Qf2] at this
   ·cases h
  | nil=>simp only [Qdj] at h;injection h with h;subst h;exact .nil _
  | ptr r off =>
   simp only [Qdj,Option.bind_eq_some_iff,Option.map_eq_some_iff] at h;obtain ⟨row,hr,cs,hcs,rfl⟩:=h;obtain ⟨h1,h2⟩:=all hcs;exact .ptr r off row cs hr (by omega) fun j hj=>h2 j
  | agg cs =>
   simp only [Qdj,Option.map_eq_some_iff] at h;obtain ⟨cs',hcs,rfl⟩:=h;exact .agg _ _ (all hcs).1 (all hcs).2
  | fn f xs ys =>
   simp only [Qdj,Option.bind_eq_some_iff,Option.map_eq_some_iff] at h;obtain ⟨xs',h1,ys',h2,rfl⟩:=h;exact .fn f _ _ _ _ (all h1).1 (all h1).2 (all h2).1 (all h2).2
  | any=>exact leaf h
  | int _ _=>exact leaf h
  | bool _=>exact leaf h
  | str _=>exact leaf h
  | sl _ _=>exact leaf h
  | tup _=>exact leaf h
  | nilp=>exact leaf h
  | rp _ _=>exact leaf h
  | nilf=>exact leaf h
theorem Zp {H:Qb} (k:Nat):∀ {args args':List V},args.mapM (Qdj H k)=some args'→BorL H args args'
 | [],m,h=>by simp at h;subst h;trivial
 | a::l,m,h=>by
  rw [List.mapM_cons] at h;cases ha:Qdj H k a with
  | none=>rw [ha] at h;simp at h
  | some b =>
   cases hl:l.mapM (Qdj H k) with
   | none=>rw [ha,hl] at h;simp at h
   | some m' =>
    rw [ha,hl] at h;simp at h;subst h;exact ⟨Qpd k ha,Zp k hl⟩
end Go.Bv
end
section
namespace Go.Bv
open Go.RowKit Go.Deep
def CR (w:World) (vs:List V) (cs:List Value):Prop:=vs.length=cs.length∧∀ j,VR (fun b=>b<w.heap.size) Qax w (nth vs j) (cs.getD j undef)
theorem CR.nil (w:World):CR w [] []:=⟨rfl,fun j=>.any _⟩
theorem CR.one {w:World} {v:V} {c:Value} (h:VR (fun b=>b<w.heap.size) Qax w v c):CR w [v] [c]:=⟨rfl,fun j=>by
 cases j with
 | zero=>exact h
 | succ j=>exact .any _⟩
theorem CR.append {w:World} {a b:List V} {c d:List Value} (h:CR w a c) (k:CR w b d):CR w (a++b) (c++d):=by
 refine ⟨by simp [h.1,k.1],fun j=>?_⟩
 rw [Zy];by_cases hj:j<a.length
 ·rw [if_pos hj]
  have:=h.2 j
  rw [h.1] at hj;simpa [List.getD,List.getElem?_append_left hj] using this
 ·rw [if_neg hj]
  have:=k.2 (j - a.length)
  rw [h.1] at hj this ⊢;simpa [List.getD,List.getElem?_append_right (show c.length≤j by omega)] using this
structure Reads (P:Program) (t:TypeId) (Q:List V→Prop):Prop where
 get:∀ {H:Type} {enc:TypeId × Value→H} {w:World} {fuel:Nat} {cs:List Value} {x:DataW H × List MemPlace},
 DataW.trod enc P w 0 (fun _=>true) true fuel t cs=some x→(∀ n∈x.1.weights P t,n≤reachBytes)→∃ vs,Q vs∧CR w vs cs
theorem Reads.mono {P:Program} {t:TypeId} {Q Q':List V→Prop} (h:Reads P t Q) (hq:∀ vs,Q vs→Q' vs):Reads P t Q':=⟨fun ht hw=>by
 obtain ⟨vs,h1,h2⟩:=h.get ht hw;exact ⟨vs,hq _ h1,h2⟩⟩
theorem Reads.int {P:Program} {t:TypeId} {k:IntKind} (hu:P.underlying t=some (.int k)):Reads P t fun vs=>∃ n,vs=[.int k n]∧(Lit.int k n).wf=true:=⟨fun ht _=>by
 obtain ⟨n,rfl,_,h⟩:=DataW.trod_int hu ht;exact ⟨_,⟨n,rfl,h⟩,.one (.int k n)⟩⟩
theorem Reads.bool {P:Program} {t:TypeId} (hu:P.underlying t=some .bool):Reads P t fun vs=>∃ b,vs=[.bool b]:=⟨fun ht _=>by
 obtain ⟨b,rfl,_⟩:=DataW.trod_bool hu ht;exact ⟨_,⟨b,rfl⟩,.one (.bool b)⟩⟩
theorem Reads.slice {P:Program} {t e:TypeId} {s b:Nat} {Q:List V→Prop} (hu:P.underlying t=some (.slice e)) (hs:P.cellsOf e=s) (h0:0<s) (hb:P.bytesOf e=b) (he:Reads P e Q) :
  Reads P t fun vs=>∃ l:List (List V),(∀ x∈l,Q x)∧l.length*b≤reachBytes∧vs=[.sl l.length l.flatten]:=⟨fun {H enc w fuel cs x} ht hw=>by
 rcases open_slice hu ht with ⟨rfl,rfl⟩ | ⟨a,len,cap,m,n,D,Pl,rfl,_,hlc,hcm,hm,rfl,hx⟩
 ·exact ⟨_,⟨[],by simp,by simp,rfl⟩,.one (.sl0 _ _ _)⟩
 ·simp only [if_true] at hm;subst hm
  have hwt:(len+(m - len))*b≤reachBytes:=hw _ (by simp only [DataW.weights,hu];rw [hb];simp)
  have hel:∀ i,i<m→∀ n∈(D i).weights P e,n≤reachBytes:=fun i hi n hn=>by
   refine hw n ?_;simp only [DataW.weights,hu,List.mem_cons,List.mem_append]
   have gen:∀ (l:List Nat) (f:Nat→Nat),(∃ j∈l,f j=i)→n∈DataW.weightsAll P e (l.map fun j=>D (f j)):=by
    intro l f
    induction l with
    | nil=>rintro ⟨j,hj,_⟩;simp at hj
    | cons a l ih =>
     rintro ⟨j,hj,hf⟩;simp only [List.map_cons,DataW.weightsAll,List.mem_append];rcases List.mem_cons.1 hj with rfl | hj
     ·left;rw [hf];exact hn
     ·right;exact ih ⟨j,hj,hf⟩
   by_cases hil:i<len
   ·right;left;exact gen _ id ⟨i,by simpa using hil,rfl⟩
   ·right;right;exact gen _ (len+·) ⟨i - len,by simp;omega,by show len+(i - len)=i;omega⟩
  rw [hs] at hx
  have key:∀ k,k≤len→∃ l:List (List V),l.length=k∧(∀ x∈l,Q x)∧l.flatten.length=k*s∧∀ j,j<k*s→∃ v,w.cell? (a.add j)=some v∧VR (fun b=>b<w.heap.size) Qax w (nth l.flatten j) v:=by
   intro k
   induction k with
   | zero=>intro _;exact ⟨[],rfl,by simp,by simp,fun j hj=>by omega⟩
   | succ k ih =>
    intro hk;obtain ⟨l,l1,l2,l3,l4⟩:=ih (by omega)
    obtain ⟨cs',hc,ht'⟩:=hx k (by omega)
    obtain ⟨vs,hq,hcr⟩:=he.get ht' (hel k (by omega))
    obtain ⟨_,c1,c2⟩:=World.cells?_some hc;refine ⟨l++[vs],by simp [l1],fun x hx=>?_, ?_,fun j hj=>?_⟩
    ·rcases List.mem_append.1 hx with h | h
     ·exact l2 x h
     ·simp only [List.mem_cons,List.not_mem_nil,or_false] at h;subst h;exact hq
    ·rw [List.flatten_append,List.length_append,l3];simp only [List.flatten_cons,List.flatten_nil,List.append_nil,hcr.1,c1];rw [Nat.succ_mul]
    ·rw [List.flatten_append,Zy,l3];simp only [List.flatten_cons,List.flatten_nil,List.append_nil];by_cases hlt:j<k*s
     ·rw [if_pos hlt];exact l4 j hlt
     ·rw [if_neg hlt];rw [Nat.succ_mul] at hj
      have h1:=c2 (j - k*s) (by omega)
      rw [Bv.add_add,show k*s+(j - k*s)=j by omega] at h1
      rw [h1]
      have h2:j - k*s<cs'.length:=by omega
      refine ⟨cs'[j - k*s],by simp [h2], ?_⟩
      have:=hcr.2 (j - k*s)
      simpa [List.getD,h2] using this
  obtain ⟨l,l1,l2,l3,l4⟩:=key len (Nat.le_refl _);refine ⟨_,⟨l,l2, ?_,rfl⟩,.one ?_⟩
  ·rw [l1];exact Nat.le_trans (Nat.mul_le_mul_right _ (by omega)) hwt
  ·rw [l1];by_cases hz:len=0
   ·subst hz;exact .sl0 _ _ _
   ·have hlen:0<len*s:=Nat.mul_pos (by omega) h0
    obtain ⟨v0,hv0,_⟩:=l4 0 hlen
    have hblk:a.block<w.heap.size:=by have:=World.block_lt_of_cell? w _ hv0;rwa [Qd1] at this
    refine .sl len _ a m (fun j=>(w.cell? (a.add j)).getD undef) hlc hblk (fun j hj=>?_) (fun j=>?_)
    ·rw [l3] at hj;obtain ⟨v,hv,_⟩:=l4 j hj;rw [hv];rfl
    ·by_cases hj:j<len*s
     ·obtain ⟨v,hv,h2⟩:=l4 j hj;rw [hv];exact h2
     ·rw [Qba _ _ (by omega)];exact .any _⟩
theorem Reads.struct {P:Program} {t:TypeId} {fs:Array Field} {Qs:Nat→List V→Prop} (hl:laidOutB P=true) (ht:t<P.types.size) (hu:P.underlying t=some (.struct fs)) (hf:∀ i f,fs[i]?=some f→Reads P f.type (Qs i)) :
  Reads P t fun vs=>∃ l:List (List V),l.length=fs.size∧(∀ i,i<fs.size→Qs i (l.getD i []))∧vs=l.flatten:=⟨fun {H enc w fuel cs x} h hw=>by
 obtain ⟨xs,n,rfl,rfl,hc,hx,hi⟩:=DataW.trod_struct hu h;obtain ⟨_,hsum,hoff⟩:=kid_struct hl ht hu
 have key:∀ k,k≤fs.size→∃ l:List (List V),l.length=k∧(∀ i,i<k→Qs i (l.getD i []))∧CR w l.flatten (cs.take (((fs.toList.take k).map fun f=>P.cellsOf f.type).sum)):=by
  intro k
  induction k with
  | zero=>intro _;exact ⟨[],rfl,fun i hi=>by omega,by simpa using CR.nil w⟩
  | succ k ih =>
   intro hk;obtain ⟨l,l1,l2,l3⟩:=ih (by omega)
   have hfk:fs[k]?=some fs[k]:=by simp [hk]
   have hfk':fs.toList[k]?=some fs[k]:=by simp [hk]
   have h1:=hi k _ hfk
   have hxk:xs[k]?=some xs[k]:=List.getElem?_eq_getElem (by omega)
   rw [hxk] at h1;obtain ⟨vs,q1,q2⟩:=(hf k _ hfk).get h1 (fun n hn=>hw n (by
    simp only [DataW.weights,hu];exact DataW.weights_mem_each (j:=k) (by rw [List.getElem?_map,hfk'];rfl) (by rw [List.getElem?_map,hxk];rfl) n hn))
   rw [hoff k _ hfk'] at q2;refine ⟨l++[vs],by simp [l1],fun i hi=>?_, ?_⟩
   ·by_cases hik:i<k
    ·have:=l2 i hik
     simpa [List.getD,List.getElem?_append_left (show i<l.length by omega)] using this
    ·obtain rfl:i=k:=by omega
     simpa [List.getD,← l1] using q1
   ·have e1:((fs.toList.take (k+1)).map fun f=>P.cellsOf f.type).sum=((fs.toList.take k).map fun f=>P.cellsOf f.type).sum+P.cellsOf fs[k].type:=by
     rw [List.take_add_one,hfk'];simp
    rw [e1,List.take_add,List.flatten_append];simpa using l3.append q2
 obtain ⟨l,l1,l2,l3⟩:=key fs.size (Nat.le_refl _);refine ⟨_,⟨l,l1,l2,rfl⟩, ?_⟩;rw [List.take_of_length_le (show fs.toList.length≤fs.size by simp),← hsum,← hc,List.take_of_length_le (Nat.le_refl _)] at l3
 exact l3⟩
theorem Qkd {α:Type} {g:α→V} {R:α→Prop}:∀ {l:List (List V)},(∀ x∈l,∃ a,x=[g a]∧R a)→∃ xs:List α,xs.length=l.length∧l.flatten=xs.map g∧∀ a∈xs,R a
 | [],_=>⟨[],rfl,rfl,by simp⟩
 | x::l,h=>by
  obtain ⟨a,rfl,ha⟩:=h x (by simp)
  obtain ⟨xs,h1,h2,h3⟩:=Qkd (l:=l) fun y hy=>h y (by simp [hy])
  exact ⟨a::xs,by simp [h1],by simp [h2],fun b hb=>by
   rcases List.mem_cons.1 hb with rfl | hb
   ·exact ha
   ·exact h3 b hb⟩
theorem Reads.slice1 {α:Type} {P:Program} {t e:TypeId} {b:Nat} {g:α→V} {R:α→Prop} (hu:P.underlying t=some (.slice e)) (hs:P.cellsOf e=1) (hb:P.bytesOf e=b) (he:Reads P e fun vs=>∃ a,vs=[g a]∧R a) :
  Reads P t fun vs=>∃ xs:List α,vs=[.sl xs.length (xs.map g)]∧xs.length*b≤reachBytes∧∀ a∈xs,R a :=
 Reads.mono (Reads.slice hu hs (by omega) hb he) fun vs ⟨l,h1,h2,h3⟩=>by
  obtain ⟨xs,q1,q2,q3⟩:=Qkd h1;exact ⟨xs,by rw [h3,q1,q2],by rw [q1];exact h2,q3⟩
theorem Reads.ints {P:Program} {t e:TypeId} (hu:P.underlying t=some (.slice e)) (hi:P.underlying e=some (.int .i64)) (hs:P.cellsOf e=1) (hb:P.bytesOf e=8) :
  Reads P t fun vs=>∃ xs:List Int,vs=[.sl xs.length (Bv.ints xs)]∧xs.length≤17592186044416 :=
 Reads.mono (Reads.slice1 (g:=fun n=>.int .i64 n) hu hs hb (Reads.int hi)) fun vs ⟨xs,h1,h2,_⟩=>⟨xs,h1,by unfold reachBytes at h2;omega⟩
structure ArgV (P:Program) (t:TypeId) (Q:V→Prop):Prop where
 get:∀ {H:Type} {enc:TypeId × Value→H} {w:World} {base:Nat} {v:Value} {d:DataW H} {p:List MemPlace},
 Value.okWide P w .any base t v→DataW.Trod enc P w 0 (fun _=>true) true t v d p→(∀ n∈d.weights P t,n≤reachBytes)→∃ u,Q u∧VR (fun b=>b<w.heap.size) Qax w u v
theorem ArgV.mono {P:Program} {t:TypeId} {Q Q':V→Prop} (h:ArgV P t Q) (hq:∀ u,Q u→Q' u):ArgV P t Q':=⟨fun h1 h2 h3=>by
 obtain ⟨u,k1,k2⟩:=h.get h1 h2 h3;exact ⟨u,hq _ k1,k2⟩⟩
theorem ArgV.one {P:Program} {t:TypeId} {Q:List V→Prop} (h:Reads P t Q) (ho:(match P.underlying t with | some (.int _) | some .bool | some .string | some (.slice _)=>true | _=>false)=true):ArgV P t fun u=>Q [u]:=⟨fun {H enc w base v d p} h1 ⟨fuel,h2⟩ h3=>by
 obtain ⟨vs,q1,q2⟩:=h.get h2 h3
 have hv:v.cells.toList=[v]:=by
  revert ho
  split
  ·rename_i k hu;intro _;obtain ⟨n,rfl⟩:=WideShapes.okWide_int hu h1;rfl
  ·rename_i hu;intro _;obtain ⟨b,rfl⟩:=WideShapes.okWide_bool hu h1;rfl
  ·rename_i hu;intro _;obtain ⟨s,rfl⟩:=WideShapes.okWide_string hu h1;rfl
  ·rename_i e hu;intro _;obtain ⟨a,len,cap,rfl⟩:=WideShapes.okWide_slice hu h1;rfl
  ·intro h;cases h
 rw [hv] at q2
 match vs,q2.1 with
 | [u],_=>exact ⟨u,q1,by have:=q2.2 0;simpa [nth,List.getD] using this⟩⟩
theorem ArgV.struct {P:Program} {t:TypeId} {Q:List V→Prop} {fs:Array Field} (h:Reads P t Q) (hu:P.underlying t=some (.struct fs)):ArgV P t fun u=>∃ vs,u=.agg vs∧Q vs:=⟨fun {H enc w base v d p} h1 ⟨fuel,h2⟩ h3=>by
 obtain ⟨vs,q1,q2⟩:=h.get h2 h3;obtain ⟨cs,rfl,_⟩:=WideShapes.okWide_struct hu h1
 have e:(Value.agg cs).cells.toList=cs.toList:=rfl
 rw [e] at q2;refine ⟨_,⟨vs,rfl,q1⟩, ?_⟩
 have:=VR.agg (im:=fun b=>b<w.heap.size) (pl:=Qax) (w:=w) vs cs.toList q2.1 q2.2
 simpa using this⟩
structure ArgsV (P:Program) (ts:List TypeId) (R:List V→Prop):Prop where
 get:∀ {H:Type} {enc:TypeId × Value→H} {w:World} {base:Nat} {vs:List Value} {ds:List (DataW H)} {p:List MemPlace},
 (∀ (j:Nat) t v,ts[j]?=some t→vs[j]?=some v→Value.okWide P w .any base t v)→DataW.TrodAll enc P w 0 (fun _=>true) true ts vs ds p→(∀ n∈DataW.weightsEach P ts ds,n≤reachBytes)→∃ us,R us∧CR w us vs
theorem ArgsV.nil {P:Program}:ArgsV P [] fun us=>us=[]:=⟨fun {H enc w base vs ds p} h1 h2 h3=>by
 cases vs with
 | nil=>exact ⟨[],rfl,.nil _⟩
 | cons v vs=>cases ds<;>simp [DataW.TrodAll] at h2⟩
theorem ArgsV.cons {P:Program} {t:TypeId} {ts:List TypeId} {Q:V→Prop} {R:List V→Prop} (h:ArgV P t Q) (hr:ArgsV P ts R):ArgsV P (t::ts) fun us=>∃ u us',us=u::us'∧Q u∧R us':=⟨fun {H enc w base vs ds p} h1 h2 h3=>by
 obtain ⟨v,vs1,d,ds1,a,b,rfl,rfl,rfl,k1,k2⟩:=ChangeShapes.trodAll_cons h2;obtain ⟨u,q1,q2⟩:=h.get (h1 0 t v rfl rfl) k1 (fun n hn=>h3 n (by simp only [DataW.weightsEach,List.mem_append];exact .inl hn))
 obtain ⟨us,q3,q4⟩:=hr.get (fun j t' v' hj hv=>h1 (j+1) t' v' hj hv) k2 (fun n hn=>h3 n (by simp only [DataW.weightsEach,List.mem_append];exact .inr hn))
 exact ⟨u::us,⟨u,us,rfl,q1,q3⟩,(CR.one q2).append q4⟩⟩
theorem ArgsV.mono {P:Program} {ts:List TypeId} {R R':List V→Prop} (h:ArgsV P ts R) (hq:∀ us,R us→R' us):ArgsV P ts R':=⟨fun h1 h2 h3=>by
 obtain ⟨u,k1,k2⟩:=h.get h1 h2 h3;exact ⟨u,hq _ k1,k2⟩⟩
theorem Qi4 {H:Type} {enc:TypeId × Value→H} {P:Program} {base:Nat} (hl:laidOutB P=true) {W W':World} {sp':Nat→Bool}:∀ {ts:List TypeId} {vs:List Value} {ds:List (DataW H)} {ps:List MemPlace},(∀ t∈ts,P.readableRec t=true∧t<P.types.size) →
  DataW.TrodAll enc P W base (fun _=>true) true ts vs ds ps→(∀ p∈ps,W.sameAt W' p)→(∀ p∈ps,sp' p.block=true)→DataW.TrodAll enc P W' base sp' true ts vs ds ps
 | [],_,_,_,_,h,_,_=>by
  obtain ⟨rfl,rfl,rfl⟩:=ChangeShapes.trodAll_nil h;exact rfl
 | t::ts,_,_,_,ht,h,h1,h2=>by
  obtain ⟨v,vs1,d,ds1,a,b,rfl,rfl,rfl,k1,k2⟩:=ChangeShapes.trodAll_cons h;exact ⟨a,b,WideElems.Trod_stays hl (ht t (by simp)).1 (ht t (by simp)).2 k1 (fun p hp=>h1 p (by simp [hp])) (fun p hp=>h2 p (by simp [hp])),
   Qi4 hl (fun t' ht'=>ht t' (by simp [ht'])) k2 (fun p hp=>h1 p (by simp [hp])) (fun p hp=>h2 p (by simp [hp])),rfl⟩
theorem Xc6 {H:Type} {enc:TypeId × Value→H} {P:Program} {f:Func} {s:ChangeSpec} {apart fresh handsOn again:Bool} {W W':World} {args:Array Value} {v:Value} {ds gs:List (DataW H)} {before pa pv:List MemPlace}
  (hW:DataW.Whole enc P f.params.toList s.vars apart W args.toList ds gs before)
  (hres:∀ (b:Nat) (sp:Nat→Bool) (hd:Bool),DataW.TrodAll enc P W' b sp hd f.resultTypes.toList (v.resultList f.resultTypes.size) (s.fn H (ds++gs)).results [])
  (hargs:∀ sp:Nat→Bool,(∀ p∈before,sp p.block=true)→DataW.TrodAll enc P W' 0 sp true f.params.toList args.toList (s.fn H (ds++gs)).args pa)
  (hvars:∀ sp:Nat→Bool,(∀ p∈before,sp p.block=true)→DataW.TrodVars enc P W' sp s.vars (s.fn H (ds++gs)).vars pv)
  (hps:before=pa++pv) (hk:W.keptBut W' (·∈before)) (hfz:∀ b off,MemPlace.cell b off∈before→W'.frozen? ⟨b,off,none⟩=W.frozen? ⟨b,off,none⟩)
  (hok:∀ (j:Nat) (t:TypeId) (r:Value),f.resultTypes[j]?=some t→(v.resultList f.resultTypes.size)[j]?=some r→Value.okWide P W' .any 0 t r) :
  s.post enc P f apart fresh handsOn again W args v W':=by
 have hold:∀ p∈before,(fun b=>decide (b<W.heap.size)) p.block=true:=fun p hp=>by simpa using hW.lt p hp
 refine ⟨ds,gs,before,[],pa,pv,hW,hres _ _ _,hargs _ hold,hvars _ hold,World.keptBut_mono (fun p hp=>⟨hp, ?_⟩) hk,fun _=>?_⟩
 ·rw [hps,List.mem_append] at hp;exact Or.inr hp
 ·obtain ⟨_,_,_,_,_,hz,hn⟩:=hW;refine ⟨hok,_,_,([]++pa)++pv,⟨[]++pa,pv,ChangeShapes.trodAll_append (hargs _ (fun _ _=>rfl)) (hres _ _ _),hvars _ (fun _ _=>rfl),rfl, ?_, ?_⟩, ?_⟩
  ·intro b off hp
   have hp':MemPlace.cell b off∈before:=by rw [hps];simpa using hp
   rw [hfz b off hp'];exact hz b off hp'
  ·intro ha
   have:=hn ha
   rw [hps] at this;simpa using this
  ·intro p hp _;rw [hps];simpa using hp
theorem Qyr {A:Checked} {C:Ctx} (hC:C.P=A.prog) {os:Os} (started:os.Started) {H:Type} {enc:TypeId × Value→H} {f:FuncId} {fn:Func} {s:ChangeSpec} {tb:TypeId}
  (own:ownKnob A.prog.godebug=none) (noInit:A.prog.inits.idxOf? f=none) (hfn:A.prog.funcs[f]?=some fn) (hl:laidOutB A.prog=true)
  (hvars:s.vars=[]) (hspec:∀ ds:List (DataW H),ds.length=fn.params.size→(s.fn H ds).results=[.lit (.bool true)]∧(s.fn H ds).args=ds∧(s.fn H ds).vars=[])
  (hrt:fn.resultTypes=#[tb]) (htb:A.prog.underlying tb=some .bool) (hpar:∀ t∈fn.params.toList,A.prog.readableRec t=true∧t<A.prog.types.size)
  {R:List V→Prop} (hargs:ArgsV A.prog fn.params.toList R) (hlaw:∀ us,R us→Pu C f us (.bool true))
  (witness:∃ (w:World) (tape:Tape) (i:Input),w.os=os∧(w.forCall tape i).Shaped A.prog∧i.vars=[]∧Input.okWide A.prog (w.forCall tape i) .any w.heap.size f i ∧
   s.pre6 enc A.prog fn [] false (w.forCall tape i).memory i.args∧({}:Assume).holds A.prog (lone (Frame.enter A.prog f i.args .normal) [] (w.forCall tape i))) :
  ReturnsInHanded {} A os f .any (s.pre6 enc A.prog fn [] false) (s.post enc A.prog fn false true false false):=by
 refine returnsInHanded_of_change_sized own started noInit hfn witness ?_;intro W base args ds gs before hval hW _ hz _
 have hW':=hW
 obtain ⟨p,q,hA,hV,rfl,hfz,hnd⟩:=hW;rw [hvars] at hV;obtain ⟨rfl,rfl⟩:=ChangeShapes.trodVars_none hV
 have hvt:s.plain.varTypes A.prog=[]:=by
  have:s.plain.vars=[]:=hvars
  simp [DataSpec.varTypes,this]
 rw [hvt,List.append_nil,List.append_nil,List.all_eq_true] at hz;obtain ⟨us,hR,hcr⟩:=hargs.get (fun j t v hj hv=>hval j t v (by simpa using hj) (by simpa using hv)) hA (fun n hn=>by simpa using hz n hn)
 have hcall:=(hlaw us hR).2 (fun b=>b<W.heap.size) Qax W args.toList hcr.1 hcr.2 (HR.none fun b hb=>hb)
 rw [hC] at hcall
 have hlen:ds.length=fn.params.size:=by
  have:∀ {ts:List TypeId} {vs:List Value} {ds:List (DataW H)} {p:List MemPlace},DataW.TrodAll enc A.prog W 0 (fun _=>true) true ts vs ds p→ds.length=ts.length:=by
   intro ts
   induction ts with
   | nil=>intro vs ds p h;obtain ⟨_,rfl,_⟩:=ChangeShapes.trodAll_nil h;rfl
   | cons t ts ih =>
    intro vs ds p h;obtain ⟨v,vs1,d,ds1,a,b,rfl,rfl,rfl,_,k2⟩:=ChangeShapes.trodAll_cons h;simp [ih k2]
  simpa using this hA
 obtain ⟨s1,s2,s3⟩:=hspec ds hlen;refine (callsIn_wide (n:=0)).1 ((callsIn_wide.2 hcall).mono fun e W' hp=>?_)
 cases e with
 | panicked _=>exact hp.elim
 | outgrown=>exact hp.elim
 | returned vc =>
  obtain ⟨v,H',im',pl',⟨rfl,rfl⟩,k2,k3,k4⟩:=hp;cases k2 with
  | bool b =>
   have hold:∀ b,b<W.heap.size→W'.heap[b]?=W.heap[b]?:=fun b hb=>k4.frame b hb fun r cap e=>by cases e
   have hlt:∀ p'∈p++[],p'.block<W.heap.size:=fun p' hp'=>hW'.lt p' hp'
   have hcell:∀ a:Addr,a.block<W.heap.size→W'.cell? a=W.cell? a:=fun a ha=>World.cell?_of_block (hold _ ha)
   have hsame:∀ p'∈p++[],W.sameAt W' p':=fun p' hp'=>by
    have:=hlt p' hp'
    cases p' with
    | cell b off=>exact hcell _ this
    | map b=>exact hold b this
   refine ⟨.bool true,rfl,Xc6 (pa:=p++[]) (pv:=[]) hW' (fun _ _ _=>?_) (fun sp hsp=>?_) (fun _ _=>?_) (by simp) ?_ (fun b off hb=>?_) ?_⟩
   ·rw [List.append_nil,s1,hrt];exact ChangeShapes.trodAll_mk1 (shut_bool htb _)
   ·rw [List.append_nil,s2];rw [List.append_nil] at hsame hsp ⊢;exact Qi4 hl hpar hA hsame hsp
   ·rw [List.append_nil,s3,hvars];rfl
   ·refine ⟨k4.os,k4.output,fun i hi=>?_⟩
    rw [hold i hi];split
    ·rename_i h1 h2;rw [h1] at h2;cases h2;exact ⟨rfl,rfl,rfl,fun _ _=>rfl⟩
    ·rename_i h1 h2;rw [h1] at h2;cases h2;exact .inr ⟨rfl,rfl⟩
    ·rfl
   ·have h1:W'.heap[b]?=W.heap[b]?:=hold b (hlt _ hb)
    unfold World.frozen?;simp only [h1]
   ·exact ok_one (f:=fn) hrt rfl (okWide_bool_mk htb _)
end Go.Bv
end
section
namespace Go.Bv
open Go.RowKit
def Shorter (H H2:Qb):Prop:=H2.length=H.length∧∀ r:Nat,H2[r]?=H[r]?∨∃ (e s:Nat) (cs:List V) (k:Nat),H[r]?=some (some ⟨e,s,cs⟩)∧H2[r]?=some (some ⟨e,s,cs.take k⟩)
theorem Shorter.refl (H:Qb):Shorter H H:=⟨rfl,fun _=>.inl rfl⟩
theorem Shorter.set {H:Qb} {r e s:Nat} {cs:List V} (h:Qc H r=some ⟨e,s,cs⟩) (k:Nat):Shorter H (H.set r (some ⟨e,s,cs.take k⟩)):=by
 have h1:=Yd h
 refine ⟨by simp,fun q=>?_⟩
 by_cases e1:r=q
 ·subst e1;exact .inr ⟨e,s,cs,k,h1,by rw [List.getElem?_set_self (Xg h)]⟩
 ·exact .inl (by rw [List.getElem?_set_ne e1])
theorem HR.shorter {im:Nat→Prop} {pl:Nat→Place} {w:World} {H H2:Qb} (h:HR im pl w H) (hs:Shorter H H2):HR im pl w H2:=by
 obtain ⟨g1,g2,g3,g4,g5,g6,g7,g8⟩:=h;refine ⟨fun r=>by rw [hs.1];exact g1 r,g2,g3,g4,g5,fun r hr=>?_,fun r hr=>?_,fun r b cap hr=>?_⟩
 ·rcases hs.2 r with e | ⟨e,s,cs,k,e1,e2⟩
  ·rw [e];exact g6 r hr
  ·rw [g6 r hr] at e1;cases e1
 ·obtain ⟨e,s,h1⟩:=g7 r hr;rcases hs.2 r with e2 | ⟨e',s',cs,k,e1,e2⟩
  ·exact ⟨e,s,by rw [e2];exact h1⟩
  ·rw [h1] at e1;cases e1;exact ⟨e,s,by rw [e2];simp⟩
 ·obtain ⟨e,s,cs,cur,q1,q2,q3,q4,q5,q6⟩:=g8 r b cap hr;rcases hs.2 r with e2 | ⟨e',s',cs',k,e1,e2⟩
  ·exact ⟨e,s,cs,cur,by rw [e2];exact q1,q2,q3,q4,q5,q6⟩
  ·rw [q1] at e1;cases e1;refine ⟨e,s,cs.take k,cur,e2,q2,q3,q4,by rw [List.length_take];omega,fun j=>?_⟩
   by_cases hj:j<k
   ·rw [Qf1 _ _ _ hj];exact q6 j
   ·rw [Qba _ _ (by rw [List.length_take];omega)];exact .any _
theorem Fc.trim {C:Ctx} {f:FuncId} {args:List V} {H:Qb} {Q:V→Qb→Prop} (h:Fc C f args H fun v H'=>∃ H2,Shorter H' H2∧Q v H2):Fc C f args H Q:=by
 refine ⟨h.1,fun im pl w vs h1 h2 h3=>(callsIn_wide (n:=0)).1 ((callsIn_wide.2 (h.2 im pl w vs h1 h2 h3)).mono fun e w' hp=>?_)⟩
 cases e with
 | returned v =>
  obtain ⟨v,H',im',pl',⟨H2,k0,k1⟩,k2,k3,k4⟩:=hp;exact ⟨v,H2,im',pl',k1,k2,k3.shorter k0,k4⟩
 | panicked _=>exact hp
 | outgrown=>exact hp
theorem Qgg {y:Ty} {e e' s' m:Nat} {v:V} {H:Qb} {n:Nat} {cs lit:List V} {K:V→Qb→Prop} (h:Own e y.size H v n cs) (hn:lit.length=m*y.size) (hs:lit.all Yq=true) (hy:0<y.size) (hb:0<y.bytes) (hl:(n+m)*y.bytes≤140737488355328)
  (hc:cs.all Yq=true) (hK:∀ H',Own e y.size H' (.ref (H.length+1) 0 (n+m)) (n+m) (cs++lit)→Fr v H H'→H'.length=H.length+2→K (.ref (H.length+1) 0 (n+m)) H'):Qbb y e v (.ref H.length 0 m) (H++[some ⟨e',s',lit⟩]) K:=by
 refine Qh0 (h.keep _) (news:=lit) ?_ hn hs hy hb hl hc fun v' H' h1 h2 h3 h4=>?_
 ·simp only [Ka,Xo,List.drop_zero];rw [← hn,List.take_length]
 ·obtain ⟨r,rfl⟩:=h4;simp only [List.length_append,List.length_cons,List.length_nil,Nat.zero_add] at h1 h3 ⊢
  have:r=n+m:=by
   rcases h1 with ⟨h,_⟩ | ⟨q,h,_⟩
   ·cases h
   ·injection h
  subst this;exact hK H' h1 (fun q row hq hr=>h2 q row hq (Qd hr _)) (by omega)
theorem Own.not {e s e' s':Nat} {H:Qb} {v:V} {n:Nat} {cs cs':List V} {r:Nat} (h:Own e s H v n cs) (hr:Qc H r=some ⟨e',s',cs'⟩) (hne:e≠e'):∀ off m,v≠.ref r off m:=by
 rcases h with ⟨rfl,_⟩ | ⟨q,rfl,h2,_⟩
 ·intro off m h;cases h
 ·intro off m h;injection h with h _ _
  subst h;rw [hr] at h2;injection h2 with h2
  injection h2 with h2
  exact hne h2.symm
attribute [go_sem] Option.map_none
def Qnr (ty:TypeId→Ty) (o:Option TypeId) (x:V) (h:Int) (H:Qb) (K:V→Prop):Prop:=match o with
 | none=>False
 | some e=>(ty e).ok=true∧0<(ty e).size∧0≤h∧(match x with
   | .sl n cs=>h≤n∧K (.sl h.toNat (cs.take (h.toNat*(ty e).size)))
   | .ref r off n=>(Qc H r).isSome=true∧h≤n∧(h=0→K (.sl 0 []))∧(h≠0→K (.ref r off h.toNat))
   | .nil=>h=0∧K .nil
   | _=>False)
@[congr] theorem Xpf {ty:TypeId→Ty} {K:V→Prop} {uu:Prop} (h00:(True∧True)=uu) {o o':Option TypeId} {x x':V} {h h':Int} (H:Qb) (h1:o=o') (h2:x=x') (h3:h=h'):Qnr ty o x h H K=Qnr ty o' x' h' H K:=by rw [h1,h2,h3]
@[go_sem] theorem Xsb (ty:TypeId→Ty) (y:Ty) (x:V) (k:IntKind) (h:Int) (H:Qb) (K:V→Prop):Xy ty y x none (some (.int k h)) H K=Qnr ty y.sl x h H K:=by
 unfold Xy Qnr;cases y.sl<;>rfl
@[go_sem] theorem Xuc (ty:TypeId→Ty) (e:TypeId) (n:Nat) (cs:List V) (h:Int) (H:Qb) (K:V→Prop):Qnr ty (some e) (.sl n cs) h H K=((ty e).ok=true∧0<(ty e).size∧chk (0≤h∧h≤n) (K (.sl h.toNat (cs.take (h.toNat*(ty e).size))))):=by simp [Qnr,chk,and_assoc]
@[go_sem] theorem Xtf (ty:TypeId→Ty) (e:TypeId) (h:Int) (H:Qb) (K:V→Prop):Qnr ty (some e) .nil h H K=((ty e).ok=true∧0<(ty e).size∧chk (h=0) (K .nil)):=by
 simp only [Qnr,chk,eq_iff_iff];constructor
 ·rintro ⟨h1,h2,h3,h4,h5⟩;exact ⟨h1,h2,h4,h5⟩
 ·rintro ⟨h1,h2,h4,h5⟩;exact ⟨h1,h2,by omega,h4,h5⟩
theorem Qhb {ty:TypeId→Ty} {e e' s n:Nat} {v:V} {H:Qb} {cs:List V} {m:Nat} {K:V→Prop} (hv:Own e' s H v n cs) (ho:(ty e).ok=true) (hs:0<(ty e).size) (hm:m≤n) (h0:m=0→v=.nil→K .nil) (h1:m=0→v≠.nil→K (.sl 0 [])) (h2:∀ r,0<m→v=.ref r 0 n→K (.ref r 0 m)):Qnr ty (some e) v (m:Nat) H K:=by
 rcases hv with ⟨rfl,rfl,rfl⟩ | ⟨r,rfl,h3,h4⟩
 ·obtain rfl:m=0:=by omega
  exact ⟨ho,hs,by omega,rfl,h0 rfl rfl⟩
 ·refine ⟨ho,hs,by omega,Qon h3,by omega,fun e=>h1 (by omega) (by simp),fun e=>?_⟩
  have:=h2 r (by omega) rfl
  rwa [show ((m:Int)).toNat=m from by omega]
def Qud (ty:TypeId→Ty) (o:Option TypeId) (x:V) (l:Int) (H:Qb) (K:V→Prop):Prop:=match o with
 | none=>False
 | some e=>(ty e).ok=true∧0<(ty e).size∧0≤l∧(match x with
   | .sl n cs=>l≤n∧K (.sl (n - l.toNat) (cs.drop (l.toNat*(ty e).size)))
   | .ref r off n=>(Qc H r).isSome=true∧l≤n∧(l=n→K (.sl 0 []))∧(l≠n→K (.ref r (off+l.toNat*(ty e).size) (n - l.toNat)))
   | .nil=>l=0∧K .nil
   | _=>False)
@[congr] theorem Xpe {ty:TypeId→Ty} {K:V→Prop} {uu:Prop} (h00:(True∧True)=uu) {o o':Option TypeId} {x x':V} {h h':Int} (H:Qb) (h1:o=o') (h2:x=x') (h3:h=h'):Qud ty o x h H K=Qud ty o' x' h' H K:=by rw [h1,h2,h3]
@[go_sem] theorem Xsa (ty:TypeId→Ty) (y:Ty) (x:V) (k:IntKind) (h:Int) (H:Qb) (K:V→Prop):Xy ty y x (some (.int k h)) none H K=Qud ty y.sl x h H K:=by
 unfold Xy Qud;cases y.sl<;>rfl
@[go_sem] theorem Xub (ty:TypeId→Ty) (e:TypeId) (n:Nat) (cs:List V) (h:Int) (H:Qb) (K:V→Prop):Qud ty (some e) (.sl n cs) h H K=((ty e).ok=true∧0<(ty e).size∧chk (0≤h∧h≤n) (K (.sl (n - h.toNat) (cs.drop (h.toNat*(ty e).size))))):=by simp [Qud,chk,and_assoc]
def IsZ (e s:Nat) (H:Qb) (v:V) (n:Nat) (cs:List V):Prop:=(v=.sl 0 []∧n=0∧cs=[])∨Own e s H v n cs
def RetZ (e s:Nat) (H:Qb) (v:V) (n:Nat) (cs:List V):Prop:=(v=.sl 0 []∧n=0∧cs=[]∧H=[])∨Ret e s H v n cs
theorem IsZ.isL {e s:Nat} {H:Qb} {v:V} {n:Nat} {cs:List V} (h:IsZ e s H v n cs):IsL e s H v n cs:=by
 rcases h with ⟨rfl,rfl,rfl⟩ | h
 ·exact .inl rfl
 ·exact .inr h
theorem IsZ.ret {e s:Nat} {H:Qb} {v:V} {n:Nat} {cs:List V} (h:IsZ e s H v n cs) (hc:∀ g,Qk g cs=cs) {Q:V→Qb→Prop} (hQ:∀ v H,RetZ e s H v n cs→Q v H):∃ sel,Qb6 sel Q v H:=by
 rcases h with ⟨rfl,rfl,rfl⟩ | h
 ·exact ⟨[],by simp,by simp,hQ _ _ (.inl ⟨rfl,rfl,rfl,rfl⟩)⟩
 ·exact h.ret hc fun v H h=>hQ v H (.inr h)
theorem RetZ.retL {e s:Nat} {H:Qb} {v:V} {n:Nat} {cs:List V} (h:RetZ e s H v n cs):RetL e s H v n cs:=by
 rcases h with ⟨rfl,rfl,rfl,rfl⟩ | h
 ·exact .inl ⟨rfl,rfl⟩
 ·exact .inr h
theorem RetZ.plain {e s:Nat} {H:Qb} {v:V} {n:Nat} {cs:List V} (h:RetZ e s H v n cs) (hp:Xt cs=true):Bv.plain v=true∧Qar H:=by
 rcases h with ⟨rfl,rfl,rfl,rfl⟩ | h
 ·exact ⟨rfl,fun r row hr=>by simp at hr⟩
 ·exact h.plain hp
theorem Fc.byZ {C:Ctx} {f:FuncId} {args args':List V} {H:Qb} {K:V→Qb→Prop} {e s n:Nat} {cs:List V} (h:Fc C f args' [] fun v H=>RetZ e s H v n cs) (hb:BorL H args args') (hc:Qh cs=true) (hp:Xt cs=true) (hK:K (.sl n cs) H):Fc C f args H K :=
 h.byVal (u:=.sl n cs) hb.all.1 hb.all.2 (fun v H' hv=>hv.plain hp) (fun im pl w v H c hq hv hH=>by
  obtain ⟨im1,pl1,H1,q1,q2,q3,_⟩:=hq.retL.val hc hH;exact ⟨im1,pl1,H1,q1,q2,q3 c hv⟩) (by simpa [clo] using hc) hK
theorem Fc.isZ {C:Ctx} {f:FuncId} {args args':List V} {H:Qb} {K:V→Qb→Prop} {e s n:Nat} {cs:List V} (h:Fc C f args' [] fun v H=>RetZ e s H v n cs) (hb:BorL H args args') (hc:∀ g,Qk g cs=cs) (hp:Xt cs=true) (hK:∀ v X,IsZ e s (H++X) v n cs→K v (H++X)):Fc C f args H K :=
 h.borrow hb.all.1 hb.all.2 (fun v H' hv=>hv.plain hp) fun v H' hv=>by
  rcases hv with ⟨rfl,rfl,rfl,rfl⟩ | hv
  ·exact hK _ _ (.inl ⟨rfl,rfl,rfl⟩)
  ·exact hK _ _ (.inr (hv.own hc))
theorem Pc.isZ {C:Ctx} {H0:Qb} {f:FuncId} {args args':List V} {H:Qb} {K:V→Qb→Prop} {e s n:Nat} {cs:List V} (h:Fc C f args' [] fun v H=>RetZ e s H v n cs) (hb:BorL H args args') (hl:cs.length=n*s) (hc:∀ g,Qk g cs=cs) (hp:Xt cs=true) (hK:∀ v X,IsZ e s (H++X) v n cs→K v (H++X)):Pc C H0 f args H K :=
 Pc.borrow h (by obtain ⟨v,H,hv⟩:=Ret.some (e:=e) hl;exact ⟨v,H,.inr hv⟩) hb.all.1 hb.all.2 (fun v H' hv=>hv.plain hp) fun v H' hv=>by
  rcases hv with ⟨rfl,rfl,rfl,rfl⟩ | hv
  ·exact hK _ _ (.inl ⟨rfl,rfl,rfl⟩)
  ·exact hK _ _ (.inr (hv.own hc))
def Xeo (o:Option (Nat × TypeId)) (q:Bool) (s:ByteArray) (i:Int) (K:V→Prop):Prop:=match o with
 | none=>q=true∧0≤i∧i.toNat<s.size∧K (.int .u8 ((s[i.toNat]?.getD 0).toNat:Int))
 | some _=>False
@[congr] theorem Xq4 {K:V→Prop} {uu:Prop} (h00:(True∧True)=uu) {o o':Option (Nat × TypeId)} {q q':Bool} {i i':Int} (s:ByteArray) (h1:o=o') (h2:q=q') (h3:i=i'):Xeo o q s i K=Xeo o' q' s i' K:=by rw [h1,h2,h3]
@[go_sem] theorem Qyy (ty:TypeId→Ty) (y:Ty) (s:ByteArray) (k:IntKind) (i:Int) (K:V→Prop):Qaj ty y (.str s) (.int k i) K=Xeo y.arr y.str s i K:=by
 unfold Qaj Xeo;cases y.arr<;>rfl
@[go_sem] theorem Xsp (s:ByteArray) (i:Int) (K:V→Prop):Xeo none true s i K=chk (0≤i∧i.toNat<s.size) (K (.int .u8 ((s[i.toNat]?.getD 0).toNat:Int))):=by simp [Xeo,chk,and_assoc]
theorem Fc.bySeal {C:Ctx} {f:FuncId} {args args':List V} {H:Qb} {Q K:V→Qb→Prop} {u:V} (h:Fc C f args' [] Q) (hb:BorL H args args') (hp:∀ v H',Q v H'→plain v=true∧Qar H') (hs:∀ v H',Q v H'→∃ r e s cs,Qc H' r=some ⟨e,s,cs⟩∧Qh cs=true∧sz r cs v=u) (hu:clo u=true) (hK:K u H):Fc C f args H K :=
 h.byVal hb.all.1 hb.all.2 hp (fun im pl w v H c hq hv hH=>by
  obtain ⟨r,e,s,cs,h1,h2,h3⟩:=hs _ _ hq;obtain ⟨im1,k1,k2,_,k3⟩:=Qdy hH h1 h2;exact ⟨im1,_,_,k1,k2,h3 ▸ k3 _ _ hv⟩) hu hK
def Xj7 (o:Option TypeId) (ty:TypeId→Ty) (d x:V) (H:Qb) (K:V→Qb→Prop):Prop:=match o with
 | some e=>(ty e).ok=true∧Qdm (ty e) d x H K
 | none=>False
@[congr] theorem Xrk {ty:TypeId→Ty} {K:V→Qb→Prop} {uu:Prop} (h00:(True∧True)=uu) {o o':Option TypeId} {d d' x x':V} {H H':Qb} (h1:o=o') (h2:d=d') (h3:x=x') (h4:H=H'):Xj7 o ty d x H K=Xj7 o' ty d' x' H' K:=by rw [h1,h2,h3,h4]
@[congr] theorem Xow {K:V→Qb→Prop} {uu:Prop} (h00:(True∧True)=uu) (y:Ty) {d d' x x':V} {H H':Qb} (h2:d=d') (h3:x=x') (h4:H=H'):Qdm y d x H K=Qdm y d' x' H' K:=by rw [h2,h3,h4]
@[go_sem] theorem Xlc (ty:TypeId→Ty) (t t':TypeId) (d x:V) (H:Qb) (K:V→Qb→Prop):Qr ty .copy [t,t'] [d,x] H K=((ty t).ok=true∧Xj7 (ty t).sl ty d x H K):=by
 simp only [Qr,Xj7];cases (ty t).sl<;>rfl
@[go_sem] theorem Xsv (e:TypeId) (ty:TypeId→Ty) (d x:V) (H:Qb) (K:V→Qb→Prop):Xj7 (some e) ty d x H K=((ty e).ok=true∧Qdm (ty e) d x H K):=rfl
theorem Xj6 {y:Ty} {r off n m:Nat} {e s:Nat} {cs news:List V} {H:Qb} {K:V→Qb→Prop} (hr:Qc H r=some ⟨e,s,cs⟩) (hl:news.length=m) (hs:news.all Yq=true) (hy:y.size=1) (hm:0<m) (hmn:m≤n) (hf:off+m≤cs.length)
  (hK:K (.int .i64 (m:Nat)) (H.set r (some ⟨e,s,Qa2 cs off news⟩))):Qdm y (.ref r off n) (.sl m news) H K:=by
 simp only [Qdm,Ka,hr]
 have h1:min m n=m:=Nat.min_eq_left hmn
 rw [h1,hy,Nat.mul_one,List.take_of_length_le (by omega)]
 exact ⟨hl,hs,by decide,hm,by omega,hf,hK⟩
def Xgf (ty:TypeId→Ty) (o:Option TypeId) (x:V) (l h:Int) (H:Qb) (K:V→Prop):Prop:=match o with
 | none=>False
 | some e=>(ty e).ok=true∧0<(ty e).size∧0≤l∧l≤h∧(match x with
   | .sl n cs=>h≤n∧K (.sl (h.toNat - l.toNat) ((cs.drop (l.toNat*(ty e).size)).take ((h.toNat - l.toNat)*(ty e).size)))
   | .ref r off n=>(Qc H r).isSome=true∧h≤n∧(l=h→K (.sl 0 []))∧(l≠h→K (.ref r (off+l.toNat*(ty e).size) (h.toNat - l.toNat)))
   | .nil=>h=0∧K .nil
   | _=>False)
@[congr] theorem Xpg {ty:TypeId→Ty} {K:V→Prop} {uu:Prop} (h00:(True∧True)=uu) {o o':Option TypeId} {x x':V} {l l' h h':Int} (H:Qb) (h1:o=o') (h2:x=x') (h3:l=l') (h4:h=h'):Xgf ty o x l h H K=Xgf ty o' x' l' h' H K:=by rw [h1,h2,h3,h4]
@[go_sem] theorem Xoi (ty:TypeId→Ty) (y:Ty) (x:V) (k k':IntKind) (l h:Int) (H:Qb) (K:V→Prop):Xy ty y x (some (.int k l)) (some (.int k' h)) H K=Xgf ty y.sl x l h H K:=by
 unfold Xy Xgf;cases y.sl<;>rfl
theorem Xge {ty:TypeId→Ty} {e r off n:Nat} {H:Qb} {row:Row} {K:V→Prop} {l h:Nat} (hr:Qc H r=some row) (ho:(ty e).ok=true) (hs:(ty e).size=1) (hl:l<h) (hh:h≤n) (hK:K (.ref r (off+l) (h - l))):Xgf ty (some e) (.ref r off n) (l:Nat) (h:Nat) H K:=by
 refine ⟨ho,by omega,by omega,by omega,Qon hr,by omega,fun e=>by omega,fun _=>?_⟩
 rw [hs,Nat.mul_one,Int.toNat_natCast,Int.toNat_natCast];exact hK
end Go.Bv
end
section
namespace Go.Bv
open Go.RowKit
inductive Gd (H:Qb):V→V→Prop
 | leaf (v:V) (hc:clo v=true) (hp:plain v=true):Gd H v v
 | nil (cs:List V):Gd H .nil (.sl 0 cs)
 | ref (r n:Nat) (row:Row) (cs:List V) (hr:Qc H r=some row) (hp:Xt row.cs=true) (hl:cs.length≤row.cs.length) (h:∀ j,j<cs.length→Gd H (nth row.cs j) (nth cs j)):Gd H (.ref r 0 n) (.sl n cs)
 | agg (l m:List V) (hl:l.length=m.length) (h:∀ j,Gd H (nth l j) (nth m j)):Gd H (.agg l) (.agg m)
 | tup (l m:List V) (hl:l.length=m.length) (h:∀ j,Gd H (nth l j) (nth m j)):Gd H (.tup l) (.tup m)
theorem Gd.flat {H:Qb} (r n e s:Nat) (cs:List V) (hr:Qc H r=some ⟨e,s,cs⟩) (hc:Qh cs=true) (hp:Xt cs=true):Gd H (.ref r 0 n) (.sl n cs) :=
 .ref r n _ cs hr hp (Nat.le_refl _) fun j _=>.leaf _ (Ju hc j) (Qag hp j)
theorem Gd.part {H:Qb} (r n e s m:Nat) (cs:List V) (hr:Qc H r=some ⟨e,s,cs⟩) (hc:Qh cs=true) (hp:Xt cs=true):Gd H (.ref r 0 n) (.sl n (cs.take m)) :=
 .ref r n _ _ hr hp (by rw [List.length_take];exact Nat.min_le_right _ _) fun j hj=>by
  rw [List.length_take] at hj;rw [Qf1 _ _ _ (by omega)]
  exact .leaf _ (Ju hc j) (Qag hp j)
theorem Gd.any (H:Qb):Gd H .any .any:=.leaf _ rfl rfl
def GdL (H:Qb):List V→List V→Prop
 | [],[]=>True
 | a::l,b::m=>Gd H a b∧GdL H l m
 | _,_=>False
theorem GdL.all {H:Qb}:∀ {l m:List V},GdL H l m→l.length=m.length∧∀ j,Gd H (nth l j) (nth m j)
 | [],[],_=>⟨rfl,fun j=>by simp [nth];exact .any H⟩
 | a::l,b::m,h=>by
  obtain ⟨h1,h2⟩:=GdL.all h.2;refine ⟨by simp [h1],fun j=>?_⟩
  cases j with
  | zero=>exact h.1
  | succ j=>exact h2 j
 | [],_::_,h=>h.elim
 | _::_,[],h=>h.elim
theorem Gd.tupL {H:Qb} {l m:List V} (h:GdL H l m):Gd H (.tup l) (.tup m):=.tup _ _ h.all.1 h.all.2
theorem Gd.aggL {H:Qb} {l m:List V} (h:GdL H l m):Gd H (.agg l) (.agg m):=.agg _ _ h.all.1 h.all.2
theorem Qn6 {l:List V} (h:∀ j,plain (nth l j)=true):Xt l=true:=by
 induction l with
 | nil=>rfl
 | cons a l ih=>simp only [Xt,Bool.and_eq_true];exact ⟨h 0,ih fun j=>h (j+1)⟩
theorem Gd.plain {H:Qb} {v u:V} (h:Gd H v u):Bv.plain v=true:=by
 induction h with
 | leaf v hc hp=>exact hp
 | nil=>rfl
 | ref=>rfl
 | agg l m hl h ih=>simp only [Bv.plain];exact Qn6 ih
 | tup l m hl h ih=>simp only [Bv.plain];exact Qn6 ih
theorem Qrr {im:Nat→Prop} {pl:Nat→Place} {w:World} {v:V} {c:Value} (h:VR im Qax w v c):VR im pl w v c:=h.places fun r hr=>(hr rfl).elim
theorem Gd.bor {H:Qb} {v u:V} (h:Gd H v u):Bor H v u:=by
 induction h with
 | leaf v hc hp=>exact .clo v hc
 | nil cs=>exact .nil cs
 | ref r n row cs hr hp hl h ih=>exact .ref r 0 n row cs hr (by omega) fun j hj=>by rw [Nat.zero_add];exact ih j hj
 | agg l m hl h ih=>exact .agg l m hl ih
 | tup l m hl h ih=>exact .tup l m hl ih
theorem Gd.VR {im:Nat→Prop} {pl:Nat→Place} {w:World} {H:Qb} (hH:HR im pl w H) {v u:V} (h:Gd H v u) {c:Value} (hv:Bv.VR im pl w v c):Bv.VR (Qw2 im pl) Qax w u c:=h.bor.VR hH hv
def Qmp (pl:Nat→Place):Nat→Place:=fun r=>match pl r with
 | .no=>.no
 | _=>.dead
theorem Qv6 {pl:Nat→Place} {r:Nat}:Qmp pl r=.no↔pl r=.no:=by unfold Qmp;cases pl r<;>simp
theorem Qhs {pl:Nat→Place} {r b c:Nat}:Qmp pl r≠.at b c:=by unfold Qmp;cases pl r<;>simp
theorem HR.allDead {im:Nat→Prop} {pl:Nat→Place} {w:World} {H:Qb} (h:HR im pl w H):HR (Qw2 im pl) (Qmp pl) w (H.map fun _=>(Option.none:Option Row))∧Ext im pl w (Qw2 im pl) (Qmp pl) w:=by
 refine ⟨⟨fun r=>?_,fun b _ r c=>Qhs,fun r b c hr=>(Qhs hr).elim,fun b hb=>?_,fun r r' b c c' hr=>(Qhs hr).elim,fun r hr=>?_,fun r hr=>?_,fun r b c hr=>(Qhs hr).elim⟩,⟨rfl,rfl,rfl,Nat.le_refl _,fun b hb=>.inl hb,fun b hb=>?_,fun r hr=>?_,fun r b c hr=>(Qhs hr).elim,fun _ _ _=>rfl⟩⟩
 ·rw [List.length_map,h.len r,ne_eq,ne_eq,Qv6]
 ·rcases hb with hb | ⟨r,cap,hb⟩
  ·exact h.imb b hb
  ·exact h.bound r b cap hb
 ·have hlt:r<H.length:=(h.len r).2 fun e=>by rw [Qv6.2 e] at hr;cases hr
  simp [hlt]
 ·unfold Qmp at hr;cases hp:pl r<;>rw [hp] at hr<;>cases hr
 ·rcases hb with hb | ⟨r,cap,hb⟩
  ·exact .inl hb
  ·exact .inr (.inr ⟨r,cap,hb⟩)
 ·right;unfold Qmp;cases hp:pl r<;>simp_all
def Val (C:Ctx) (f:FuncId) (args:List V) (u:V):Prop:=Fc C f args [] fun v H=>Gd H v u∧Qar H
theorem Gd.up {im:Nat→Prop} {pl:Nat→Place} {w:World} {H:Qb} {v u:V} {c:Value} (hu:clo u=true) (hv:Gd H v u) (h:Bv.VR im pl w v c) (hH:HR im pl w H):∃ im1 pl1 H1,HR im1 pl1 w H1∧Ext im pl w im1 pl1 w∧Bv.VR im1 pl1 w u c :=
 ⟨_,_,_,hH.allDead.1,hH.allDead.2,Qrr (hv.VR hH h)⟩
theorem Val.pu {C:Ctx} {f:FuncId} {args:List V} {u:V} (h:Val C f args u) (hu:clo u=true):Pu C f args u :=
 Fc.val hu h fun im pl w v H c hq hv hH=>hq.1.up hu hv hH
theorem Val.call {C:Ctx} {f:FuncId} {args args':List V} {H:Qb} {K:V→Qb→Prop} {u:V} (h:Val C f args' u) (hb:BorL H args args') (hu:clo u=true) (hK:K u H):Fc C f args H K :=
 Fc.byVal h hb.all.1 hb.all.2 (fun v H' hv=>⟨hv.1.plain,hv.2⟩) (fun im pl w v H c hq hv hH=>hq.1.up hu hv hH) hu hK
theorem Val.pc {C:Ctx} {H0:Qb} {f:FuncId} {args args':List V} {H:Qb} {K:V→Qb→Prop} {u:V} (h:Val C f args' u) (hb:BorL H args args') (hu:clo u=true) (hK:K u H):Pc C H0 f args H K :=
 Pc.byVal (h.call hb hu ⟨rfl,rfl⟩) hK
theorem Val.ofPu {C:Ctx} {f:FuncId} {args:List V} {u:V} (h:Pu C f args u) (hc:clo u=true) (hp:plain u=true):Val C f args u :=
 h.mono fun v H hv=>by obtain ⟨rfl,rfl⟩:=hv;exact ⟨.leaf _ hc hp,fun r row hr=>by simp at hr⟩
theorem Val.ofZ {C:Ctx} {f:FuncId} {args:List V} {e s n:Nat} {cs:List V} (h:Fc C f args [] fun v H=>RetZ e s H v n cs) (hc:Qh cs=true) (hp:Xt cs=true):Val C f args (.sl n cs) :=
 h.mono fun v H hv=>by
  have hpl:=(hv.plain hp).2
  refine ⟨?_,hpl⟩;rcases hv with ⟨rfl,rfl,rfl,rfl⟩ | ⟨rfl,rfl,rfl,rfl⟩ | ⟨rfl,rfl,hl⟩
  ·exact .leaf _ rfl rfl
  ·exact .nil _
  ·exact .flat 0 n e s cs rfl hc hp
def Xjf (H:Qb) (r:Nat):Bool:=match Qc H r with
 | some row=>Xt row.cs
 | none=>false
def Qho (H:Qb):List Nat:=(List.range H.length).filter (Xjf H)
mutual
theorem Xc8 (g:Nat→Option Nat):∀ v:V,plain v=true→plain (ren g v)=true
 | .any,_=>rfl
 | .int _ _,_=>rfl
 | .bool _,_=>rfl
 | .str _,_=>rfl
 | .nil,_=>rfl
 | .sl n cs,h=>by simpa [ren,plain] using h
 | .ref r off n,_=>by simp only [ren];split<;>rfl
 | .agg cs,h=>by simp only [plain] at h;simp only [ren,plain];exact Qaa g cs h
 | .tup cs,h=>by simp only [plain] at h;simp only [ren,plain];exact Qaa g cs h
 | .ptr r off,_=>by simp only [ren];split<;>rfl
 | .nilp,_=>rfl
 | .rp cs off,h=>by simp [plain] at h
 | .fn f xs ys,h=>by simp only [plain,Bool.and_eq_true] at h;simp only [ren,plain,Bool.and_eq_true];exact ⟨Qaa g xs h.1,Qaa g ys h.2⟩
 | .nilf,_=>rfl
theorem Qaa (g:Nat→Option Nat):∀ l:List V,Xt l=true→Xt (Qk g l)=true
 | [],_=>rfl
 | v::l,h=>by simp only [Xt,Bool.and_eq_true] at h;simp only [Qk,Xt,Bool.and_eq_true];exact ⟨Xc8 g v h.1,Qaa g l h.2⟩
end
theorem Xl7 {l:List Nat} {r:Nat} (h:r∈l):∃ i,pos l r=some i:=by
 induction l with
 | nil=>cases h
 | cons a l ih =>
  by_cases e:a=r
  ·exact ⟨0,by simp [pos,e]⟩
  ·rcases List.mem_cons.1 h with h | h
   ·exact (e h.symm).elim
   ·obtain ⟨i,hi⟩:=ih h;exact ⟨i+1,by simp [pos,e,hi]⟩
theorem Qb2 (g:Nat→Option Nat) (l:List V):(Qk g l).length=l.length:=by rw [Qj4,List.length_map]
theorem Xeq {H:Qb} {r:Nat} {row:Row} (hr:Qc H r=some row) (hp:Xt row.cs=true):r∈Qho H:=by
 simp only [Qho,List.mem_filter,List.mem_range];exact ⟨Xg hr,by simp [Xjf,hr,hp]⟩
theorem Gd.keep {H:Qb} {v u:V} (h:Gd H v u):Gd (Qck (Qho H) H) (ren (pos (Qho H)) v) u:=by
 induction h with
 | leaf v hc hp=>rw [Qy _ v hc];exact .leaf v hc hp
 | nil cs=>exact .nil cs
 | ref r n row cs hr hp hl h ih =>
  obtain ⟨i,hi⟩:=Xl7 (Xeq hr hp)
  have hg:=Qn5 hi
  have:Qc (Qck (Qho H) H) i=some (Kz (pos (Qho H)) row):=by
   simp [Qc,Qck,hg]
   have h1:=Yd hr
   rw [h1];simp
  simp only [ren,hi];exact .ref i n _ cs this (Qaa _ _ hp) (by simpa [Kz,Qb2] using hl) fun j hj=>by
   simp only [Kz,Jb];exact ih j hj
 | agg l m hl h ih=>simp only [ren];exact .agg _ _ (by rw [Qb2];exact hl) fun j=>by rw [Jb];exact ih j
 | tup l m hl h ih=>simp only [ren];exact .tup _ _ (by rw [Qb2];exact hl) fun j=>by rw [Jb];exact ih j
theorem Qvu (H:Qb):Qar (Qck (Qho H) H):=by
 intro i row hr;simp only [Qck,List.getElem?_map,Option.map_eq_some_iff] at hr;obtain ⟨r,hr1,hr2⟩:=hr
 have hm:r∈Qho H:=List.mem_of_getElem? hr1
 simp only [Qho,List.mem_filter,Xjf] at hm;obtain ⟨row0,h0,rfl⟩:=hr2;rw [h0] at hm;simp only [Kz];exact Qaa _ _ hm.2
theorem Gd.ret {H:Qb} {v u:V} (h:Gd H v u):∃ sel,Qb6 sel (fun v H=>Gd H v u∧Qar H) v H:=by
 refine ⟨Qho H,List.nodup_range.filter _,fun r hr=>?_,h.keep,Qvu H⟩
 simp only [Qho,List.mem_filter,List.mem_range] at hr;exact hr.1
theorem IsZ.gd {e s:Nat} {H:Qb} {v:V} {n:Nat} {cs:List V} (h:IsZ e s H v n cs) (hc:Qh cs=true) (hp:Xt cs=true):Gd H v (.sl n cs):=by
 rcases h with ⟨rfl,rfl,rfl⟩ | ⟨rfl,rfl,rfl⟩ | ⟨r,rfl,h2,_⟩
 ·exact .leaf _ rfl rfl
 ·exact .nil _
 ·exact .flat r n e s cs h2 hc hp
theorem Gd.shift {H H':Qb} {v u:V} (h:Gd H' v u):Gd (H++Qbf (shift H.length) H') (ren (shift H.length) v) u:=by
 induction h with
 | leaf v hc hp=>rw [Qy _ v hc];exact .leaf v hc hp
 | nil cs=>exact .nil cs
 | ref r n row cs hr hp hl h ih =>
  have:=Qh5 (H:=H) (Bv.shift H.length) hr
  exact .ref (r+H.length) n _ cs this (Qaa _ _ hp) (by simpa [Kz,Qb2] using hl) fun j hj=>by
   simp only [Kz,Jb];exact ih j hj
 | agg l m hl h ih=>simp only [ren];exact .agg _ _ (by rw [Qb2];exact hl) fun j=>by rw [Jb];exact ih j
 | tup l m hl h ih=>simp only [ren];exact .tup _ _ (by rw [Qb2];exact hl) fun j=>by rw [Jb];exact ih j
theorem Val.kept {C:Ctx} {f:FuncId} {args args':List V} {H:Qb} {K:V→Qb→Prop} {u:V} (h:Val C f args' u) (hb:BorL H args args') (hK:∀ v X,Gd (H++X) v u→K v (H++X)):Fc C f args H K :=
 Fc.borrow h hb.all.1 hb.all.2 (fun v H' hv=>⟨hv.1.plain,hv.2⟩) fun v H' hv=>hK _ _ hv.1.shift
theorem Gd.tup_inv {H:Qb} {v:V} {m:List V} (h:Gd H v (.tup m)):∃ l,v=.tup l∧l.length=m.length∧∀ j,Gd H (nth l j) (nth m j):=by
 cases h with
 | leaf _ hc hp =>
  simp only [clo] at hc;simp only [Bv.plain] at hp;exact ⟨m,rfl,rfl,fun j=>.leaf _ (Ju hc j) (Qag hp j)⟩
 | tup l _ hl h=>exact ⟨l,rfl,hl,h⟩
theorem Gd.tup3 {H:Qb} {v a b c:V} (h:Gd H v (.tup [a,b,c])):∃ x y z,v=.tup [x,y,z]∧Gd H x a∧Gd H y b∧Gd H z c:=by
 obtain ⟨l,rfl,hl,h⟩:=h.tup_inv
 match l,hl with
 | [x,y,z],_=>exact ⟨x,y,z,rfl,h 0,h 1,h 2⟩
theorem Gd.tup2 {H:Qb} {v a b:V} (h:Gd H v (.tup [a,b])):∃ x y,v=.tup [x,y]∧Gd H x a∧Gd H y b:=by
 obtain ⟨l,rfl,hl,h⟩:=h.tup_inv
 match l,hl with
 | [x,y],_=>exact ⟨x,y,rfl,h 0,h 1⟩
theorem Gd.bool_inv {H:Qb} {v:V} {b:Bool} (h:Gd H v (.bool b)):v=.bool b:=by cases h;rfl
theorem Gd.int_inv {H:Qb} {v:V} {k:IntKind} {n:Int} (h:Gd H v (.int k n)):v=.int k n:=by cases h;rfl
theorem Gd.more {H:Qb} {v u:V} (h:Gd H v u) {H':Qb} (hk:Keep H H'):Gd H' v u:=by
 induction h with
 | leaf v hc hp=>exact .leaf v hc hp
 | nil cs=>exact .nil cs
 | ref r n row cs hr hp hl h ih=>exact .ref r n row cs (hk _ _ hr) hp hl ih
 | agg l m hl h ih=>exact .agg l m hl ih
 | tup l m hl h ih=>exact .tup l m hl ih
theorem Gd.some_sl {n:Nat} {cs:List V} (hc:Qh cs=true) (hp:Xt cs=true):∃ v H,Gd H v (.sl n cs)∧Qar H :=
 ⟨.ref 0 0 n,[some ⟨0,1,cs⟩],.flat 0 n 0 1 cs rfl hc hp,fun r row hr=>by
  cases r with
  | zero=>simp at hr;subst hr;exact hp
  | succ r=>simp at hr⟩
def GdF (n:Nat) (H:Qb) (v u:V):Prop:=∀ H2:Qb,(∀ r row,n≤r→Qc H r=some row→Qc H2 r=some row)→Gd H2 v u
theorem GdF.gd {n:Nat} {H:Qb} {v u:V} (h:GdF n H v u):Gd H v u:=h H fun _ _ _ hr=>hr
theorem GdF.far {n:Nat} {H H':Qb} {v u:V} (h:GdF n H v u) (hk:∀ r row,n≤r→Qc H r=some row→Qc H' r=some row):GdF n H' v u:=fun H2 h2=>h H2 fun r row hn hr=>h2 r row hn (hk r row hn hr)
theorem GdF.app {n:Nat} {H:Qb} {v u:V} (h:GdF n H v u) (X:Qb):GdF n (H++X) v u:=h.far fun r row _ hr=>Qd hr _
theorem GdF.set {n:Nat} {H:Qb} {v u:V} (h:GdF n H v u) {q:Nat} (hq:q<n) (z:Option Row):GdF n (H.set q z) v u:=h.far fun r row hn hr=>by rw [Qe _ (by omega)];exact hr
theorem Gd.shiftF {H H':Qb} {v u:V} (h:Gd H' v u):GdF H.length (H++Qbf (Bv.shift H.length) H') (ren (Bv.shift H.length) v) u:=by
 induction h with
 | leaf v hc hp=>intro H2 h2;rw [Qy _ v hc];exact .leaf v hc hp
 | nil cs=>intro H2 h2;exact .nil cs
 | ref r n row cs hr hp hl h ih =>
  intro H2 h2
  have:=Qh5 (H:=H) (Bv.shift H.length) hr
  exact .ref (r+H.length) n _ cs (h2 _ _ (Nat.le_add_left _ _) this) (Qaa _ _ hp) (by simpa [Kz,Qb2] using hl) fun j hj=>by
   simp only [Kz,Jb];exact ih j hj H2 h2
 | agg l m hl h ih=>intro H2 h2;simp only [ren];exact .agg _ _ (by rw [Qb2];exact hl) fun j=>by rw [Jb];exact ih j H2 h2
 | tup l m hl h ih=>intro H2 h2;simp only [ren];exact .tup _ _ (by rw [Qb2];exact hl) fun j=>by rw [Jb];exact ih j H2 h2
theorem Val.keptF {C:Ctx} {f:FuncId} {args args':List V} {H:Qb} {K:V→Qb→Prop} {u:V} (h:Val C f args' u) (hb:BorL H args args') (hK:∀ v X,GdF H.length (H++X) v u→K v (H++X)):Fc C f args H K :=
 Fc.borrow h hb.all.1 hb.all.2 (fun v H' hv=>⟨hv.1.plain,hv.2⟩) fun v H' hv=>hK _ _ hv.1.shiftF
theorem Pc.keptF {C:Ctx} {H0:Qb} {f:FuncId} {args args':List V} {H:Qb} {K:V→Qb→Prop} {u:V} (h:Val C f args' u) (hs:∃ v H,Gd H v u∧Qar H) (hb:BorL H args args') (hK:∀ v X,GdF H.length (H++X) v u→K v (H++X)):Pc C H0 f args H K :=
 Pc.borrow h hs hb.all.1 hb.all.2 (fun v H' hv=>⟨hv.1.plain,hv.2⟩) fun v H' hv=>hK _ _ hv.1.shiftF
theorem GdF.tup2 {n:Nat} {H:Qb} {v a b:V} (h:GdF n H v (.tup [a,b])):∃ x y,v=.tup [x,y]∧GdF n H x a∧GdF n H y b:=by
 obtain ⟨x,y,rfl,_,_⟩:=h.gd.tup2;refine ⟨x,y,rfl,fun H2 h2=>?_,fun H2 h2=>?_⟩
 ·obtain ⟨x',y',e,h3,h4⟩:=(h H2 h2).tup2;injection e with e;injection e with e1 e2;rw [e1];exact h3
 ·obtain ⟨x',y',e,h3,h4⟩:=(h H2 h2).tup2;injection e with e;injection e with e1 e2;injection e2 with e2;rw [e2];exact h4
theorem Gd.agg_inv {H:Qb} {v:V} {m:List V} (h:Gd H v (.agg m)):∃ l,v=.agg l∧l.length=m.length∧∀ j,Gd H (nth l j) (nth m j):=by
 cases h with
 | leaf _ hc hp =>
  simp only [clo] at hc;simp only [Bv.plain] at hp;exact ⟨m,rfl,rfl,fun j=>.leaf _ (Ju hc j) (Qag hp j)⟩
 | agg l _ hl h=>exact ⟨l,rfl,hl,h⟩
theorem Gd.agg3 {H:Qb} {v a b c:V} (h:Gd H v (.agg [a,b,c])):∃ x y z,v=.agg [x,y,z]∧Gd H x a∧Gd H y b∧Gd H z c:=by
 obtain ⟨l,rfl,hl,h⟩:=h.agg_inv
 match l,hl with
 | [x,y,z],_=>exact ⟨x,y,z,rfl,h 0,h 1,h 2⟩
theorem Gd.agg2 {H:Qb} {v a b:V} (h:Gd H v (.agg [a,b])):∃ x y,v=.agg [x,y]∧Gd H x a∧Gd H y b:=by
 obtain ⟨l,rfl,hl,h⟩:=h.agg_inv
 match l,hl with
 | [x,y],_=>exact ⟨x,y,rfl,h 0,h 1⟩
theorem GdF.agg3 {n:Nat} {H:Qb} {v a b c:V} (h:GdF n H v (.agg [a,b,c])):∃ x y z,v=.agg [x,y,z]∧GdF n H x a∧GdF n H y b∧GdF n H z c:=by
 obtain ⟨x,y,z,rfl,_,_,_⟩:=h.gd.agg3;refine ⟨x,y,z,rfl,fun H2 h2=>?_,fun H2 h2=>?_,fun H2 h2=>?_⟩
 all_goals
  obtain ⟨x',y',z',e,h3,h4,h5⟩:=(h H2 h2).agg3;injection e with e
  injection e with e1 e2
  injection e2 with e2 e3
  injection e3 with e3 e4
  subst e1 e2 e3
  assumption
theorem GdF.agg2 {n:Nat} {H:Qb} {v a b:V} (h:GdF n H v (.agg [a,b])):∃ x y,v=.agg [x,y]∧GdF n H x a∧GdF n H y b:=by
 obtain ⟨x,y,rfl,_,_⟩:=h.gd.agg2;refine ⟨x,y,rfl,fun H2 h2=>?_,fun H2 h2=>?_⟩
 all_goals
  obtain ⟨x',y',e,h3,h4⟩:=(h H2 h2).agg2;injection e with e
  injection e with e1 e2
  injection e2 with e2 e3
  subst e1 e2
  assumption
def Cel (b e s:Nat) (H:Qb) (v:V) (n:Nat) (us:List V):Prop :=
 ∃ cs,Own e s H v n cs∧(∀ r off m,v=.ref r off m→b≤r)∧cs.length=us.length∧Xt cs=true∧cs.all Yq=true ∧
  ∀ H2:Qb,(∀ q row,b≤q→(∀ off m,v≠.ref q off m)→Qc H q=some row→Qc H2 q=some row)→∀ j,Gd H2 (nth cs j) (nth us j)
theorem Cel.nil (b e s:Nat) (H:Qb):Cel b e s H .nil 0 [] :=
 ⟨[],.inl ⟨rfl,rfl,rfl⟩,fun r off m h=>(by cases h),rfl,rfl,rfl,fun H2 _ j=>Gd.any _⟩
theorem Cel.gd {b e s:Nat} {H:Qb} {v:V} {n:Nat} {us:List V} (h:Cel b e s H v n us):Gd H v (.sl n us):=by
 obtain ⟨cs,hO,hb,hl,hp,hs,hG⟩:=h;rcases hO with ⟨rfl,rfl,rfl⟩ | ⟨r,rfl,h2,h3⟩
 ·exact .nil _
 ·exact .ref r n _ us h2 hp (Nat.le_of_eq hl.symm) fun j _=>hG H (fun q row _ _ hq=>hq) j
theorem Cel.far {b e s:Nat} {H H':Qb} {v:V} {n:Nat} {us:List V} (h:Cel b e s H v n us) (hk:∀ q row,b≤q→Qc H q=some row→Qc H' q=some row):Cel b e s H' v n us:=by
 obtain ⟨cs,hO,hb,hl,hp,hs,hG⟩:=h;refine ⟨cs, ?_,hb,hl,hp,hs,fun H2 h2 j=>hG H2 (fun q row hq hv hr=>h2 q row hq hv (hk q row hq hr)) j⟩
 rcases hO with hO | ⟨r,rfl,h2,h3⟩
 ·exact .inl hO
 ·exact .inr ⟨r,rfl,hk _ _ (hb r 0 n rfl) h2,h3⟩
theorem Cel.app {b e s:Nat} {H:Qb} {v:V} {n:Nat} {us:List V} (h:Cel b e s H v n us) (X:Qb):Cel b e s (H++X) v n us:=h.far fun q row _ hr=>Qd hr _
theorem Cel.set {b e s:Nat} {H:Qb} {v:V} {n:Nat} {us:List V} (h:Cel b e s H v n us) {q:Nat} (hq:q<b) (z:Option Row):Cel b e s (H.set q z) v n us:=h.far fun r row hr h1=>by rw [Qe _ (by omega)];exact h1
theorem Cel.kn {b e s:Nat} {H:Qb} {v:V} {n:Nat} {us:List V} (h:Cel b e s H v n us):kn v=true∧cellsOf v=[v]∧Yq v=true:=by
 obtain ⟨cs,hO,_⟩:=h;rcases hO with ⟨rfl,_⟩ | ⟨r,rfl,_⟩
 ·exact ⟨rfl,rfl,rfl⟩
 ·exact ⟨rfl,rfl,rfl⟩
def Far (b:Nat) (v:V) (H:Qb) (ns ms:List V):Prop:=∀ H2:Qb,(∀ q row,b≤q→(∀ off m,v≠.ref q off m)→Qc H q=some row→Qc H2 q=some row)→∀ j,Gd H2 (nth ns j) (nth ms j)
theorem Far.nil (b:Nat) (v:V) (H:Qb):Far b v H [] []:=fun H2 _ j=>Gd.any _
theorem Far.cons {b:Nat} {v:V} {H:Qb} {x u:V} {ns ms:List V} (h:∀ H2:Qb,(∀ q row,b≤q→(∀ off m,v≠.ref q off m)→Qc H q=some row→Qc H2 q=some row)→Gd H2 x u) (hr:Far b v H ns ms):Far b v H (x::ns) (u::ms):=fun H2 h2 j=>by
 cases j with
 | zero=>exact h H2 h2
 | succ j=>exact hr H2 h2 j
theorem Far.self {b:Nat} {v:V} {H:Qb} {x:V} {ns ms:List V} (hc:clo x=true) (hp:plain x=true) (hr:Far b v H ns ms):Far b v H (x::ns) (x::ms):=.cons (fun H2 _=>.leaf _ hc hp) hr
theorem Far.kept {b n:Nat} {v:V} {H:Qb} {x u:V} {ns ms:List V} (h:GdF n H x u) (hb:b≤n) (hv:∀ r off m,v=.ref r off m→r<n) (hr:Far b v H ns ms):Far b v H (x::ns) (u::ms) :=
 .cons (fun H2 h2=>h H2 fun q row hq hr=>h2 q row (by omega) (fun off m e=>by have:=hv q off m e;omega) hr) hr
theorem Cel.lt {b e s:Nat} {H:Qb} {v:V} {n:Nat} {us:List V} (h:Cel b e s H v n us):∀ r off m,v=.ref r off m→r<H.length:=by
 obtain ⟨cs,hO,_⟩:=h;intro r off m hv;rcases hO with ⟨rfl,_⟩ | ⟨r',rfl,h2,_⟩
 ·cases hv
 ·injection hv with hv;subst hv;exact Xg h2
theorem Cel.ne {b e s:Nat} {H:Qb} {v:V} {n:Nat} {us:List V} (h:Cel b e s H v n us) {q:Nat} (hq:q<b):∀ off m,v≠.ref q off m:=by
 obtain ⟨cs,_,hb,_⟩:=h;intro off m hv
 have:=hb q off m hv
 omega
theorem Qls (a b:List V) (j:Nat):nth (a++b) j=if j<a.length then nth a j else nth b (j - a.length):=Zy a b j
theorem Cel.append {y:Ty} {b e e' s' n:Nat} {H:Qb} {v:V} {us ns ms:List V} {K:V→Qb→Prop} (h:Cel b e y.size H v n us) (hb:b≤H.length) (hl:ns.length=y.size) (hm:ms.length=ns.length) (hp:Xt ns=true) (hs:ns.all Yq=true) (hF:Far b v H ns ms)
  (hy:0<y.size) (hby:0<y.bytes∧y.bytes≤1000) (hn:n+1≤100000000000) (hK:∀ v' H',Cel b e y.size H' v' (n+1) (us++ms)→(∀ q row,(∀ off m,v≠.ref q off m)→Qc H q=some row→Qc H' q=some row)→H'.length=H.length+2→v'=.ref (H.length+1) 0 (n+1)→K v' H') :
  Qbb y e v (.ref H.length 0 1) (H++[some ⟨e',s',ns⟩]) K:=by
 obtain ⟨cs,hO,hb2,hl2,hp2,hs2,hG⟩:=h;refine Qgg hO (by rw [hl,Nat.one_mul]) hs hy hby.1 (by have:=Nat.mul_le_mul hn hby.2;omega) hs2 fun H' k1 k2 k3=>?_
 refine hK _ H' ⟨cs++ns,k1,fun r off m e=>by injection e with e;omega,by simp [hl2,hm], ?_,by simp [hs2,hs],fun H2 h2 j=>?_⟩ (fun q row hq hr=>k2 q row hq hr) k3 rfl
 ·have:∀ (a c:List V),Xt a=true→Xt c=true→Xt (a++c)=true:=fun a c ha hc=>by
   induction a with
   | nil=>exact hc
   | cons x a ih =>
    simp only [Xt,Bool.and_eq_true] at ha;simp only [List.cons_append,Xt,Bool.and_eq_true];exact ⟨ha.1,ih ha.2⟩
  exact this _ _ hp2 hp
 ·have hcond:∀ q row,b≤q→(∀ off m,v≠.ref q off m)→Qc H q=some row→Qc H2 q=some row:=fun q row hq hv hr=>by
   have hlt:=Xg hr
   exact h2 q row hq (fun off m e=>by injection e with e;omega) (k2 q row hv hr)
  rw [Qls,Qls,hl2];split
  ·exact hG H2 hcond j
  ·exact hF H2 hcond _
theorem Cel.push3 {y:Ty} {b e e' s' n:Nat} {H X:Qb} {v v2 v3 u2 u3:V} {us:List V} {b0:Bool} {K:V→Qb→Prop} (h:Cel b e 3 H v n us) (hy:y.size=3) (hby:y.bytes=56) (hb:b≤H.length) (hn:n+1≤100000000000)
  (h2:GdF H.length (H++X) v2 u2) (h3:GdF H.length (H++X) v3 u3) (s2:Yq v2=true) (s3:Yq v3=true)
  (hK:∀ v' H',Cel b e 3 H' v' (n+1) (us++[.bool b0,u2,u3])→(∀ q row,q<b→Qc H q=some row→Qc H' q=some row)→Bv.kn v'=true→cellsOf v'=[v']→Yq v'=true→K v' H') :
  Qbb y e v (.ref (H.length+X.length) 0 1) (H++(X++[some ⟨e',s',[.bool b0,v2,v3]⟩])) K:=by
 rw [← List.append_assoc,← List.length_append]
 have h':=h.app X
 rw [← hy] at h';refine h'.append (ms:=[.bool b0,u2,u3]) (by simp;omega) (by rw [hy];rfl) rfl (by simp [Xt,plain,h2.gd.plain,h3.gd.plain]) (by simp only [List.all_cons,s2,s3,List.all_nil,Bool.and_true];rfl) (.self rfl rfl (.kept h2 hb (fun r off m e=>h.lt r off m e) (.kept h3 hb (fun r off m e=>h.lt r off m e) (.nil _ _ _)))) (by omega) (by omega) hn fun v' H' k1 k2 k3 k4=>?_
 rw [hy] at k1;obtain ⟨q1,q2,q3⟩:=k1.kn;exact hK v' H' k1 (fun q row hq hr=>k2 q row (h.ne hq) (Qd hr X)) q1 q2 q3
mutual
theorem Xf8 (r:Nat) (cs:List V):∀ v:V,clo v=true→sz r cs v=v
 | .any,_=>rfl
 | .int _ _,_=>rfl
 | .bool _,_=>rfl
 | .str _,_=>rfl
 | .nil,_=>rfl
 | .sl n l,h=>by simp only [sz,Yk r cs l h]
 | .ref _ _ _,h=>by cases h
 | .agg l,h=>by simp only [sz,Yk r cs l h]
 | .tup l,h=>by simp only [sz,Yk r cs l h]
 | .ptr _ _,h=>by cases h
 | .nilp,_=>rfl
 | .rp l off,h=>by simp only [sz,Yk r cs l h]
 | .fn f xs ys,h=>by
  simp only [clo,Bool.and_eq_true] at h;simp only [sz,Yk r cs xs h.1,Yk r cs ys h.2]
 | .nilf,_=>rfl
theorem Yk (r:Nat) (cs:List V):∀ l:List V,Qh l=true→szL r cs l=l
 | [],_=>rfl
 | v::l,h=>by
  simp only [Qh,Bool.and_eq_true] at h;simp only [szL,Xf8 r cs v h.1,Yk r cs l h.2]
end
def GdIn (n m:Nat) (H:Qb) (v u:V):Prop:=∀ H2:Qb,(∀ r row,n≤r→r<m→Qc H r=some row→Qc H2 r=some row)→Gd H2 v u
theorem GdF.within {n:Nat} {H:Qb} {v u:V} (h:GdF n H v u):GdIn n H.length H v u:=fun H2 h2=>h H2 fun r row hn hr=>h2 r row hn (Xg hr) hr
theorem GdIn.gd {n m:Nat} {H:Qb} {v u:V} (h:GdIn n m H v u):Gd H v u:=h H fun _ _ _ _ hr=>hr
theorem GdIn.far {n m:Nat} {H H':Qb} {v u:V} (h:GdIn n m H v u) (hk:∀ r row,n≤r→r<m→Qc H r=some row→Qc H' r=some row):GdIn n m H' v u:=fun H2 h2=>h H2 fun r row hn hm hr=>h2 r row hn hm (hk r row hn hm hr)
theorem GdIn.app {n m:Nat} {H:Qb} {v u:V} (h:GdIn n m H v u) (X:Qb):GdIn n m (H++X) v u:=h.far fun r row _ _ hr=>Qd hr _
theorem GdIn.set {n m:Nat} {H:Qb} {v u:V} (h:GdIn n m H v u) {q:Nat} (hq:q<n∨m≤q) (z:Option Row):GdIn n m (H.set q z) v u:=h.far fun r row hn hm hr=>by rw [Qe _ (by omega)];exact hr
theorem Val.ofRet {C:Ctx} {f:FuncId} {args:List V} {e s n:Nat} {cs:List V} (h:Fc C f args [] fun v H=>Ret e s H v n cs) (hc:Qh cs=true) (hp:Xt cs=true):Val C f args (.sl n cs):=Val.ofZ (h.mono fun v H h=>.inr h) hc hp
theorem Pu.ofBor {C:Ctx} {f:FuncId} {args:List V} {u:V} (hu:clo u=true) (h:Fc C f args [] fun v H=>Bor H v u):Pu C f args u :=
 Fc.val hu h fun im pl w v H c hq hv hH=>⟨_,_,_,hH.allDead.1,hH.allDead.2,Qrr (hq.VR hH hv)⟩
def BorLs (H:Qb):List V→List V→Prop
 | [],[]=>True
 | a::l,b::m=>Bor H a b∧BorLs H l m
 | _,_=>False
theorem BorLs.all {H:Qb}:∀ {l m:List V},BorLs H l m→l.length=m.length∧∀ j,Bor H (nth l j) (nth m j)
 | [],[],_=>⟨rfl,fun j=>by simp [nth];exact .any⟩
 | a::l,b::m,h=>by
  obtain ⟨h1,h2⟩:=BorLs.all h.2;refine ⟨by simp [h1],fun j=>?_⟩
  cases j with
  | zero=>exact h.1
  | succ j=>exact h2 j
 | [],_::_,h=>h.elim
 | _::_,[],h=>h.elim
theorem Bor.tupL {H:Qb} {l m:List V} (h:BorLs H l m):Bor H (.tup l) (.tup m):=.tup _ _ h.all.1 h.all.2
theorem Bor.aggL {H:Qb} {l m:List V} (h:BorLs H l m):Bor H (.agg l) (.agg m):=.agg _ _ h.all.1 h.all.2
theorem BorL.selfs {H:Qb}:∀ {l:List V},Qh l=true→BorL H l l
 | [],_=>trivial
 | v::l,h=>by
  simp only [Qh,Bool.and_eq_true] at h;exact ⟨.self h.1,BorL.selfs h.2⟩
end Go.Bv
end
section
namespace Go.Bv.U
open Go.RowKit Go.Deep Go.Bv Go.Proofs.YtipmmjebfpbkmaaGreat.Rows
theorem Xke {H:Type} (d:DataW H):1≤uptoBulk d:=by
 cases d with
 | lit l=>cases l<;>simp [uptoBulk]
 | nil=>simp [uptoBulk]
 | ptr d=>simp [uptoBulk]
 | slice elems spare=>simp [uptoBulk]
 | agg parts=>simp [uptoBulk]
 | iface t d=>simp [uptoBulk]
 | map entries=>simp [uptoBulk]
 | held h=>simp [uptoBulk]
theorem Xio {H:Type}:∀ (l:List (DataW H)),l.length≤uptoBulkAll l
 | []=>by simp [uptoBulkAll]
 | x::r=>by have:=Xke x;have:=Xio r;simp only [uptoBulkAll,List.length_cons];omega
theorem Xaw {H:Type} {d:DataW H} {l:List (DataW H)} (h:d∈l):uptoBulk d≤uptoBulkAll l:=by
 induction l with
 | nil=>cases h
 | cons x r ih =>
  simp only [uptoBulkAll];rcases List.mem_cons.1 h with e | e
  ·subst e;omega
  ·have:=ih e;omega
structure Reads (P:Program) (t:TypeId) (Q:List V→Prop):Prop where
 get:∀ {H:Type} {enc:TypeId × Value→H} {w:World} {fuel:Nat} {cs:List Value} {x:DataW H × List MemPlace},
 DataW.trod enc P w 0 (fun _=>true) true fuel t cs=some x→uptoBulk x.1≤1048576→∃ vs,Q vs∧CR w vs cs
theorem Reads.mono {P:Program} {t:TypeId} {Q Q':List V→Prop} (h:Reads P t Q) (hq:∀ vs,Q vs→Q' vs):Reads P t Q':=⟨fun ht hw=>by
 obtain ⟨vs,h1,h2⟩:=h.get ht hw;exact ⟨vs,hq _ h1,h2⟩⟩
theorem Reads.int {P:Program} {t:TypeId} {k:IntKind} (hu:P.underlying t=some (.int k)):Reads P t fun vs=>∃ n,vs=[.int k n]∧(Lit.int k n).wf=true:=⟨fun ht _=>by
 obtain ⟨n,rfl,_,h⟩:=DataW.trod_int hu ht;exact ⟨_,⟨n,rfl,h⟩,.one (.int k n)⟩⟩
theorem Reads.bool {P:Program} {t:TypeId} (hu:P.underlying t=some .bool):Reads P t fun vs=>∃ b,vs=[.bool b]:=⟨fun ht _=>by
 obtain ⟨b,rfl,_⟩:=DataW.trod_bool hu ht;exact ⟨_,⟨b,rfl⟩,.one (.bool b)⟩⟩
theorem Reads.slice {P:Program} {t e:TypeId} {s:Nat} {Q:List V→Prop} (hu:P.underlying t=some (.slice e)) (hs:P.cellsOf e=s) (h0:0<s) (he:Reads P e Q) :
  Reads P t fun vs=>∃ l:List (List V),(∀ x∈l,Q x)∧l.length≤1048576∧vs=[.sl l.length l.flatten]:=⟨fun {H enc w fuel cs x} ht hw=>by
 rcases open_slice hu ht with ⟨rfl,rfl⟩ | ⟨a,len,cap,m,n,D,Pl,rfl,_,hlc,hcm,hm,rfl,hx⟩
 ·exact ⟨_,⟨[],by simp,by simp,rfl⟩,.one (.sl0 _ _ _)⟩
 ·simp only [if_true] at hm;subst hm;simp only [uptoBulk] at hw
  have hwt:len≤1048576:=by
   have:=Xio (H:=H) ((List.range len).map D)
   simp only [List.length_map,List.length_range] at this;omega
  have hel:∀ i,i<len→uptoBulk (D i)≤1048576:=fun i hi=>by
   have:=Xaw (H:=H) (d:=D i) (l:=(List.range len).map D) (List.mem_map.2 ⟨i,by simpa using hi,rfl⟩)
   omega
  rw [hs] at hx
  have key:∀ k,k≤len→∃ l:List (List V),l.length=k∧(∀ x∈l,Q x)∧l.flatten.length=k*s∧∀ j,j<k*s→∃ v,w.cell? (a.add j)=some v∧VR (fun b=>b<w.heap.size) Qax w (nth l.flatten j) v:=by
   intro k
   induction k with
   | zero=>intro _;exact ⟨[],rfl,by simp,by simp,fun j hj=>by omega⟩
   | succ k ih =>
    intro hk;obtain ⟨l,l1,l2,l3,l4⟩:=ih (by omega)
    obtain ⟨cs',hc,ht'⟩:=hx k (by omega)
    obtain ⟨vs,hq,hcr⟩:=he.get ht' (hel k (by omega))
    obtain ⟨_,c1,c2⟩:=World.cells?_some hc;refine ⟨l++[vs],by simp [l1],fun x hx=>?_, ?_,fun j hj=>?_⟩
    ·rcases List.mem_append.1 hx with h | h
     ·exact l2 x h
     ·simp only [List.mem_cons,List.not_mem_nil,or_false] at h;subst h;exact hq
    ·rw [List.flatten_append,List.length_append,l3];simp only [List.flatten_cons,List.flatten_nil,List.append_nil,hcr.1,c1];rw [Nat.succ_mul]
    ·rw [List.flatten_append,Zy,l3];simp only [List.flatten_cons,List.flatten_nil,List.append_nil];by_cases hlt:j<k*s
     ·rw [if_pos hlt];exact l4 j hlt
     ·rw [if_neg hlt];rw [Nat.succ_mul] at hj
      have h1:=c2 (j - k*s) (by omega)
      rw [Bv.add_add,show k*s+(j - k*s)=j by omega] at h1
      rw [h1]
      have h2:j - k*s<cs'.length:=by omega
      refine ⟨cs'[j - k*s],by simp [h2], ?_⟩
      have:=hcr.2 (j - k*s)
      simpa [List.getD,h2] using this
  obtain ⟨l,l1,l2,l3,l4⟩:=key len (Nat.le_refl _);refine ⟨_,⟨l,l2, ?_,rfl⟩,.one ?_⟩
  ·rw [l1];exact hwt
  ·rw [l1];by_cases hz:len=0
   ·subst hz;exact .sl0 _ _ _
   ·have hlen:0<len*s:=Nat.mul_pos (by omega) h0
    obtain ⟨v0,hv0,_⟩:=l4 0 hlen
    have hblk:a.block<w.heap.size:=by have:=World.block_lt_of_cell? w _ hv0;rwa [Qd1] at this
    refine .sl len _ a m (fun j=>(w.cell? (a.add j)).getD undef) hlc hblk (fun j hj=>?_) (fun j=>?_)
    ·rw [l3] at hj;obtain ⟨v,hv,_⟩:=l4 j hj;rw [hv];rfl
    ·by_cases hj:j<len*s
     ·obtain ⟨v,hv,h2⟩:=l4 j hj;rw [hv];exact h2
     ·rw [Qba _ _ (by omega)];exact .any _⟩
theorem Reads.struct {P:Program} {t:TypeId} {fs:Array Field} {Qs:Nat→List V→Prop} (hl:laidOutB P=true) (ht:t<P.types.size) (hu:P.underlying t=some (.struct fs)) (hf:∀ i f,fs[i]?=some f→Reads P f.type (Qs i)) :
  Reads P t fun vs=>∃ l:List (List V),l.length=fs.size∧(∀ i,i<fs.size→Qs i (l.getD i []))∧vs=l.flatten:=⟨fun {H enc w fuel cs x} h hw=>by
 obtain ⟨xs,n,rfl,rfl,hc,hx,hi⟩:=DataW.trod_struct hu h;obtain ⟨_,hsum,hoff⟩:=kid_struct hl ht hu
 have key:∀ k,k≤fs.size→∃ l:List (List V),l.length=k∧(∀ i,i<k→Qs i (l.getD i []))∧CR w l.flatten (cs.take (((fs.toList.take k).map fun f=>P.cellsOf f.type).sum)):=by
  intro k
  induction k with
  | zero=>intro _;exact ⟨[],rfl,fun i hi=>by omega,by simpa using CR.nil w⟩
  | succ k ih =>
   intro hk;obtain ⟨l,l1,l2,l3⟩:=ih (by omega)
   have hfk:fs[k]?=some fs[k]:=by simp [hk]
   have hfk':fs.toList[k]?=some fs[k]:=by simp [hk]
   have h1:=hi k _ hfk
   have hxk:xs[k]?=some xs[k]:=List.getElem?_eq_getElem (by omega)
   rw [hxk] at h1;obtain ⟨vs,q1,q2⟩:=(hf k _ hfk).get h1 (by
    simp only [uptoBulk] at hw
    have:=Xaw (H:=H) (d:=xs[k].1) (l:=xs.map (·.1)) (List.mem_map.2 ⟨xs[k],List.getElem_mem _,rfl⟩)
    omega)
   rw [hoff k _ hfk'] at q2;refine ⟨l++[vs],by simp [l1],fun i hi=>?_, ?_⟩
   ·by_cases hik:i<k
    ·have:=l2 i hik
     simpa [List.getD,List.getElem?_append_left (show i<l.length by omega)] using this
    ·obtain rfl:i=k:=by omega
     simpa [List.getD,← l1] using q1
   ·have e1:((fs.toList.take (k+1)).map fun f=>P.cellsOf f.type).sum=((fs.toList.take k).map fun f=>P.cellsOf f.type).sum+P.cellsOf fs[k].type:=by
     rw [List.take_add_one,hfk'];simp
    rw [e1,List.take_add,List.flatten_append];simpa using l3.append q2
 obtain ⟨l,l1,l2,l3⟩:=key fs.size (Nat.le_refl _);refine ⟨_,⟨l,l1,l2,rfl⟩, ?_⟩;rw [List.take_of_length_le (show fs.toList.length≤fs.size by simp),← hsum,← hc,List.take_of_length_le (Nat.le_refl _)] at l3
 exact l3⟩
theorem Qkd {α:Type} {g:α→V} {R:α→Prop}:∀ {l:List (List V)},(∀ x∈l,∃ a,x=[g a]∧R a)→∃ xs:List α,xs.length=l.length∧l.flatten=xs.map g∧∀ a∈xs,R a
 | [],_=>⟨[],rfl,rfl,by simp⟩
 | x::l,h=>by
  obtain ⟨a,rfl,ha⟩:=h x (by simp)
  obtain ⟨xs,h1,h2,h3⟩:=Qkd (l:=l) fun y hy=>h y (by simp [hy])
  exact ⟨a::xs,by simp [h1],by simp [h2],fun b hb=>by
   rcases List.mem_cons.1 hb with rfl | hb
   ·exact ha
   ·exact h3 b hb⟩
theorem Reads.slice1 {α:Type} {P:Program} {t e:TypeId} {g:α→V} {R:α→Prop} (hu:P.underlying t=some (.slice e)) (hs:P.cellsOf e=1) (he:Reads P e fun vs=>∃ a,vs=[g a]∧R a) :
  Reads P t fun vs=>∃ xs:List α,vs=[.sl xs.length (xs.map g)]∧xs.length≤1048576∧∀ a∈xs,R a :=
 Reads.mono (Reads.slice hu hs (by omega) he) fun vs ⟨l,h1,h2,h3⟩=>by
  obtain ⟨xs,q1,q2,q3⟩:=Qkd h1;exact ⟨xs,by rw [h3,q1,q2],by rw [q1];exact h2,q3⟩
theorem Reads.ints {P:Program} {t e:TypeId} (hu:P.underlying t=some (.slice e)) (hi:P.underlying e=some (.int .i64)) (hs:P.cellsOf e=1) :
  Reads P t fun vs=>∃ xs:List Int,vs=[.sl xs.length (Bv.ints xs)]∧xs.length≤1048576∧∀ x∈xs,(Lit.int .i64 x).wf=true :=
 Reads.mono (Reads.slice1 (g:=fun n=>.int .i64 n) hu hs (Reads.int hi)) fun vs ⟨xs,h1,h2,h3⟩=>⟨xs,h1,h2,h3⟩
structure ArgV (P:Program) (t:TypeId) (Q:V→Prop):Prop where
 get:∀ {H:Type} {enc:TypeId × Value→H} {w:World} {base:Nat} {v:Value} {d:DataW H} {p:List MemPlace},
 Value.okWide P w .any base t v→DataW.Trod enc P w 0 (fun _=>true) true t v d p→uptoBulk d≤1048576→∃ u,Q u∧VR (fun b=>b<w.heap.size) Qax w u v
theorem ArgV.mono {P:Program} {t:TypeId} {Q Q':V→Prop} (h:ArgV P t Q) (hq:∀ u,Q u→Q' u):ArgV P t Q':=⟨fun h1 h2 h3=>by
 obtain ⟨u,k1,k2⟩:=h.get h1 h2 h3;exact ⟨u,hq _ k1,k2⟩⟩
theorem ArgV.one {P:Program} {t:TypeId} {Q:List V→Prop} (h:Reads P t Q) (ho:(match P.underlying t with | some (.int _) | some .bool | some .string | some (.slice _)=>true | _=>false)=true):ArgV P t fun u=>Q [u]:=⟨fun {H enc w base v d p} h1 ⟨fuel,h2⟩ h3=>by
 obtain ⟨vs,q1,q2⟩:=h.get h2 h3
 have hv:v.cells.toList=[v]:=by
  revert ho
  split
  ·rename_i k hu;intro _;obtain ⟨n,rfl⟩:=WideShapes.okWide_int hu h1;rfl
  ·rename_i hu;intro _;obtain ⟨b,rfl⟩:=WideShapes.okWide_bool hu h1;rfl
  ·rename_i hu;intro _;obtain ⟨s,rfl⟩:=WideShapes.okWide_string hu h1;rfl
  ·rename_i e hu;intro _;obtain ⟨a,len,cap,rfl⟩:=WideShapes.okWide_slice hu h1;rfl
  ·intro h;cases h
 rw [hv] at q2
 match vs,q2.1 with
 | [u],_=>exact ⟨u,q1,by have:=q2.2 0;simpa [nth,List.getD] using this⟩⟩
theorem ArgV.struct {P:Program} {t:TypeId} {Q:List V→Prop} {fs:Array Field} (h:Reads P t Q) (hu:P.underlying t=some (.struct fs)):ArgV P t fun u=>∃ vs,u=.agg vs∧Q vs:=⟨fun {H enc w base v d p} h1 ⟨fuel,h2⟩ h3=>by
 obtain ⟨vs,q1,q2⟩:=h.get h2 h3;obtain ⟨cs,rfl,_⟩:=WideShapes.okWide_struct hu h1
 have e:(Value.agg cs).cells.toList=cs.toList:=rfl
 rw [e] at q2;refine ⟨_,⟨vs,rfl,q1⟩, ?_⟩
 have:=VR.agg (im:=fun b=>b<w.heap.size) (pl:=Qax) (w:=w) vs cs.toList q2.1 q2.2
 simpa using this⟩
structure ArgsV (P:Program) (ts:List TypeId) (R:List V→Prop):Prop where
 get:∀ {H:Type} {enc:TypeId × Value→H} {w:World} {base:Nat} {vs:List Value} {ds:List (DataW H)} {p:List MemPlace},
 (∀ (j:Nat) t v,ts[j]?=some t→vs[j]?=some v→Value.okWide P w .any base t v)→DataW.TrodAll enc P w 0 (fun _=>true) true ts vs ds p→uptoBulkAll ds≤1048576→∃ us,R us∧CR w us vs
theorem ArgsV.nil {P:Program}:ArgsV P [] fun us=>us=[]:=⟨fun {H enc w base vs ds p} h1 h2 h3=>by
 cases vs with
 | nil=>exact ⟨[],rfl,.nil _⟩
 | cons v vs=>cases ds<;>simp [DataW.TrodAll] at h2⟩
theorem ArgsV.cons {P:Program} {t:TypeId} {ts:List TypeId} {Q:V→Prop} {R:List V→Prop} (h:ArgV P t Q) (hr:ArgsV P ts R):ArgsV P (t::ts) fun us=>∃ u us',us=u::us'∧Q u∧R us':=⟨fun {H enc w base vs ds p} h1 h2 h3=>by
 obtain ⟨v,vs1,d,ds1,a,b,rfl,rfl,rfl,k1,k2⟩:=ChangeShapes.trodAll_cons h2;obtain ⟨u,q1,q2⟩:=h.get (h1 0 t v rfl rfl) k1 (by simp only [uptoBulkAll] at h3;omega)
 obtain ⟨us,q3,q4⟩:=hr.get (fun j t' v' hj hv=>h1 (j+1) t' v' hj hv) k2 (by simp only [uptoBulkAll] at h3;omega)
 exact ⟨u::us,⟨u,us,rfl,q1,q3⟩,(CR.one q2).append q4⟩⟩
theorem ArgsV.mono {P:Program} {ts:List TypeId} {R R':List V→Prop} (h:ArgsV P ts R) (hq:∀ us,R us→R' us):ArgsV P ts R':=⟨fun h1 h2 h3=>by
 obtain ⟨u,k1,k2⟩:=h.get h1 h2 h3;exact ⟨u,hq _ k1,k2⟩⟩
end Go.Bv.U
end
section
namespace Go.Proofs.YtipmmjebfpbkmaaGreat
open Go.Bv
noncomputable def y1:=zT .nilFunc 1 8
noncomputable def y2:Ty:={ z:=(.int .i64 0),size:=1,bytes:=8,agg:=false,sl:=none,arr:=none,fs:=[],ik:=some .i64 }
noncomputable def y3:Ty:={ z:=(.int .i64 0),size:=1,bytes:=8,agg:=false,sl:=none,arr:=none,fs:=[],ik:=some .i64 }
noncomputable def y4:Ty:={ z:=(.bool false),size:=1,bytes:=1,agg:=false,sl:=none,arr:=none,fs:=[],bl:=true }
noncomputable def y5:Ty:={ z:=(.int .u8 0),size:=1,bytes:=1,agg:=false,sl:=none,arr:=none,fs:=[],ik:=some .u8 }
noncomputable def y6:Ty:={ z:=(.int .u8 0),size:=1,bytes:=1,agg:=false,sl:=none,arr:=none,fs:=[],ik:=some .u8 }
noncomputable def y7:Ty:={ z:=(.agg #[(.int .i64 0),(.int .i64 0),(.bool false),(.int .u8 0)]),size:=4,bytes:=24,agg:=true,sl:=none,arr:=none,fs:=[(0,2),(1,3),(2,4),(3,6)] }
noncomputable def y8:Ty:={ z:=(.agg #[(.int .i64 0),(.int .i64 0),(.bool false),(.int .u8 0)]),size:=4,bytes:=24,agg:=true,sl:=none,arr:=none,fs:=[(0,2),(1,3),(2,4),(3,6)] }
noncomputable def y9:Ty:={ z:=(.string ⟨#[]⟩),size:=1,bytes:=16,agg:=false,sl:=none,arr:=none,fs:=[],str:=true }
noncomputable def y10:Ty:={ z:=(.string ⟨#[]⟩),size:=1,bytes:=16,agg:=false,sl:=none,arr:=none,fs:=[],str:=true }
noncomputable def y11:Ty:={ z:=(.string ⟨#[]⟩),size:=1,bytes:=16,agg:=false,sl:=none,arr:=none,fs:=[],str:=true }
noncomputable def y12:Ty:={ z:=(.int .u64 0),size:=1,bytes:=8,agg:=false,sl:=none,arr:=none,fs:=[],ik:=some .u64 }
noncomputable def y13:Ty:={ z:=(.agg #[(.string ⟨#[]⟩),(.int .u64 0)]),size:=2,bytes:=24,agg:=true,sl:=none,arr:=none,fs:=[(0,9),(1,12)] }
noncomputable def y14:Ty:={ z:=(.agg #[(.string ⟨#[]⟩),(.int .u64 0)]),size:=2,bytes:=24,agg:=true,sl:=none,arr:=none,fs:=[(0,9),(1,12)] }
noncomputable def y15:=zT (.pointer none) 1 8
noncomputable def y16:=zT (.pointer none) 1 8
noncomputable def y17:=zT (.pointer none) 1 8
noncomputable def y18:Ty:={ z:=(.agg #[(.pointer none)]),size:=1,bytes:=8,agg:=true,sl:=none,arr:=none,fs:=[(0,17)] }
noncomputable def y19:Ty:={ z:=(.agg #[(.pointer none)]),size:=1,bytes:=8,agg:=true,sl:=none,arr:=none,fs:=[(0,17)] }
noncomputable def y21:Ty:={ z:=(.int .i32 0),size:=1,bytes:=4,agg:=false,sl:=none,arr:=none,fs:=[],ik:=some .i32 }
noncomputable def y22:Ty:={ z:=(.int .i64 0),size:=1,bytes:=8,agg:=false,sl:=none,arr:=none,fs:=[],ik:=some .i64 }
noncomputable def y23:Ty:={ z:=(.slice none 0 0),size:=1,bytes:=24,agg:=false,sl:=some 3,arr:=none,fs:=[] }
noncomputable def y24:Ty:={ z:=(.agg #[(.int .i64 0),(.slice none 0 0),(.slice none 0 0)]),size:=3,bytes:=56,agg:=true,sl:=none,arr:=none,fs:=[(0,22),(1,23),(2,23)] }
noncomputable def y25:Ty:={ z:=(.agg #[(.int .i64 0),(.slice none 0 0),(.slice none 0 0)]),size:=3,bytes:=56,agg:=true,sl:=none,arr:=none,fs:=[(0,22),(1,23),(2,23)] }
noncomputable def y26:Ty:={ z:=(.slice none 0 0),size:=1,bytes:=24,agg:=false,sl:=some 31,arr:=none,fs:=[] }
noncomputable def y27:=zT .nilFunc 1 8
noncomputable def y28:=zT .nilFunc 1 8
noncomputable def y29:Ty:={ z:=(.slice none 0 0),size:=1,bytes:=24,agg:=false,sl:=some 34,arr:=none,fs:=[] }
noncomputable def y30:=zT .nilFunc 1 8
noncomputable def y31:Ty:={ z:=(.slice none 0 0),size:=1,bytes:=24,agg:=false,sl:=some 3,arr:=none,fs:=[] }
noncomputable def y32:Ty:={ z:=(.slice none 0 0),size:=1,bytes:=24,agg:=false,sl:=some 70,arr:=none,fs:=[] }
noncomputable def y33:Ty:={ z:=(.agg #[(.slice none 0 0),(.slice none 0 0)]),size:=2,bytes:=48,agg:=true,sl:=none,arr:=none,fs:=[(0,31),(1,32)] }
noncomputable def y34:Ty:={ z:=(.agg #[(.slice none 0 0),(.slice none 0 0)]),size:=2,bytes:=48,agg:=true,sl:=none,arr:=none,fs:=[(0,31),(1,32)] }
noncomputable def y35:=zT .nilFunc 1 8
noncomputable def y36:Ty:={ z:=(.int .i64 0),size:=1,bytes:=8,agg:=false,sl:=none,arr:=none,fs:=[],ik:=some .i64 }
noncomputable def y38:=zT .nilFunc 1 8
noncomputable def y40:=zT .nilFunc 1 8
noncomputable def y41:=zT .nilFunc 1 8
noncomputable def y42:=zT .nilFunc 1 8
noncomputable def y43:=zT .nilFunc 1 8
noncomputable def y45:=zT .nilFunc 1 8
noncomputable def y46:=zT .nilFunc 1 8
noncomputable def y47:=zT .nilFunc 1 8
noncomputable def y48:=zT .nilFunc 1 8
noncomputable def y49:=zT .nilFunc 1 8
noncomputable def y50:Ty:={ z:=(.slice none 0 0),size:=1,bytes:=24,agg:=false,sl:=some 56,arr:=none,fs:=[] }
noncomputable def y51:Ty:={ z:=(.agg #[(.slice none 0 0),(.slice none 0 0)]),size:=2,bytes:=48,agg:=true,sl:=none,arr:=none,fs:=[(0,23),(1,50)] }
noncomputable def y52:Ty:={ z:=(.agg #[(.slice none 0 0),(.slice none 0 0)]),size:=2,bytes:=48,agg:=true,sl:=none,arr:=none,fs:=[(0,23),(1,50)] }
noncomputable def y53:=zT .nilFunc 1 8
noncomputable def y54:Ty:={ z:=(.slice none 0 0),size:=1,bytes:=24,agg:=false,sl:=some 3,arr:=none,fs:=[] }
noncomputable def y55:Ty:={ z:=(.agg #[(.bool false),(.slice none 0 0),(.slice none 0 0)]),size:=3,bytes:=56,agg:=true,sl:=none,arr:=none,fs:=[(0,4),(1,54),(2,54)] }
noncomputable def y56:Ty:={ z:=(.agg #[(.bool false),(.slice none 0 0),(.slice none 0 0)]),size:=3,bytes:=56,agg:=true,sl:=none,arr:=none,fs:=[(0,4),(1,54),(2,54)] }
noncomputable def y57:=zT .nilFunc 1 8
noncomputable def y58:=zT .nilFunc 1 8
noncomputable def y59:=zT .nilFunc 1 8
noncomputable def y60:=zT .nilFunc 1 8
noncomputable def y61:=zT .nilFunc 1 8
noncomputable def y62:=zT .nilFunc 1 8
noncomputable def y63:=zT .nilFunc 1 8
noncomputable def y64:=zT .nilFunc 1 8
noncomputable def y65:=zT .nilFunc 1 8
noncomputable def y66:=zT .nilFunc 1 8
noncomputable def y67:Ty:={ z:=(.slice none 0 0),size:=1,bytes:=24,agg:=false,sl:=some 162,arr:=none,fs:=[] }
noncomputable def y68:Ty:={ z:=(.slice none 0 0),size:=1,bytes:=24,agg:=false,sl:=some 162,arr:=none,fs:=[] }
noncomputable def y69:Ty:={ z:=(.agg #[(.bool false),(.slice none 0 0),(.slice none 0 0)]),size:=3,bytes:=56,agg:=true,sl:=none,arr:=none,fs:=[(0,4),(1,68),(2,68)] }
noncomputable def y70:Ty:={ z:=(.agg #[(.bool false),(.slice none 0 0),(.slice none 0 0)]),size:=3,bytes:=56,agg:=true,sl:=none,arr:=none,fs:=[(0,4),(1,68),(2,68)] }
noncomputable def y75:=zT .nilFunc 1 8
noncomputable def y76:=zT .nilFunc 1 8
noncomputable def y77:=zT .nilFunc 1 8
noncomputable def y78:=zT .nilFunc 1 8
noncomputable def y79:=zT .nilFunc 1 8
noncomputable def y80:=zT .nilFunc 1 8
noncomputable def y81:Ty:={ z:=(.agg #[(.int .i64 0),(.string ⟨#[]⟩),(.int .i64 0),(.int .i64 0),(.int .i64 0),(.int .i64 0),.nilFunc,(.int .i64 0)]),size:=8,bytes:=72,agg:=true,sl:=none,arr:=none,fs:=[(0,22),(1,9),(2,3),(3,3),(4,3),(5,3),(6,80),(7,3)] }
noncomputable def y82:Ty:={ z:=(.agg #[(.int .i64 0),(.string ⟨#[]⟩),(.int .i64 0),(.int .i64 0),(.int .i64 0),(.int .i64 0),.nilFunc,(.int .i64 0)]),size:=8,bytes:=72,agg:=true,sl:=none,arr:=none,fs:=[(0,22),(1,9),(2,3),(3,3),(4,3),(5,3),(6,80),(7,3)] }
noncomputable def y84:=zT .nilFunc 1 8
noncomputable def y85:=zT .nilFunc 1 8
noncomputable def y86:=zT .nilFunc 1 8
noncomputable def y87:=zT .nilFunc 1 8
noncomputable def y88:=zT .nilFunc 1 8
noncomputable def y90:=zT .nilFunc 1 8
noncomputable def y91:=zT .nilFunc 1 8
noncomputable def y92:=zT .nilFunc 1 8
noncomputable def y93:=zT .nilFunc 1 8
noncomputable def y94:=zT .nilFunc 1 8
noncomputable def y95:=zT .nilFunc 1 8
noncomputable def y96:=zT .nilFunc 1 8
noncomputable def y97:=zT .nilFunc 1 8
noncomputable def y98:=zT .nilFunc 1 8
noncomputable def y99:=zT .nilFunc 1 8
noncomputable def y100:=zT .nilFunc 1 8
noncomputable def y101:=zT .nilFunc 1 8
noncomputable def y102:=zT .nilFunc 1 8
noncomputable def y103:=zT .nilFunc 1 8
noncomputable def y104:=zT .nilFunc 1 8
noncomputable def y105:=zT .nilFunc 1 8
noncomputable def y106:=zT .nilFunc 1 8
noncomputable def y108:=zT .nilFunc 1 8
noncomputable def y109:=zT .nilFunc 1 8
noncomputable def y110:=zT .nilFunc 1 8
noncomputable def y111:=zT .nilFunc 1 8
noncomputable def y112:=zT .nilFunc 1 8
noncomputable def y113:=zT .nilFunc 1 8
noncomputable def y114:=zT .nilFunc 1 8
noncomputable def y115:=zT .nilFunc 1 8
noncomputable def y117:=zT .nilFunc 1 8
noncomputable def y118:=zT .nilFunc 1 8
noncomputable def y119:=zT .nilFunc 1 8
noncomputable def y120:=zT .nilFunc 1 8
noncomputable def y121:=zT .nilFunc 1 8
noncomputable def y122:=zT .nilFunc 1 8
noncomputable def y127:=zT .nilFunc 1 8
noncomputable def y128:=zT .nilFunc 1 8
noncomputable def y129:=zT .nilFunc 1 8
noncomputable def y130:=zT .nilFunc 1 8
noncomputable def y131:Ty:={ z:=(.agg #[(.int .i64 0),(.int .i64 0)]),size:=2,bytes:=16,agg:=true,sl:=none,arr:=some (2,3),fs:=[] }
noncomputable def y133:=zT .nilFunc 1 8
noncomputable def y134:=zT .nilFunc 1 8
noncomputable def y135:=zT .nilFunc 1 8
noncomputable def y136:=zT .nilFunc 1 8
noncomputable def y137:=zT .nilFunc 1 8
noncomputable def y138:=zT .nilFunc 1 8
noncomputable def y139:=zT .nilFunc 1 8
noncomputable def y140:=zT .nilFunc 1 8
noncomputable def y142:=zT .nilFunc 1 8
noncomputable def y143:=zT .nilFunc 1 8
noncomputable def y144:=zT .nilFunc 1 8
noncomputable def y145:=zT .nilFunc 1 8
noncomputable def y146:Ty:={ z:=(.agg #[(.bool false)]),size:=1,bytes:=1,agg:=true,sl:=none,arr:=none,fs:=[(0,4)] }
noncomputable def y147:Ty:={ z:=(.agg #[(.bool false)]),size:=1,bytes:=1,agg:=true,sl:=none,arr:=none,fs:=[(0,4)] }
noncomputable def y152:Ty:={ z:=(.agg #[(.slice none 0 0),(.slice none 0 0)]),size:=2,bytes:=48,agg:=true,sl:=none,arr:=none,fs:=[(0,31),(1,32)] }
noncomputable def y157:=zT .nilFunc 1 8
noncomputable def y158:=zT .nilFunc 1 8
noncomputable def y159:=zT .nilFunc 1 8
noncomputable def y162:Ty:={ z:=(.int .u32 0),size:=1,bytes:=4,agg:=false,sl:=none,arr:=none,fs:=[],ik:=some .u32 }
noncomputable def y169:=zT .nilFunc 1 8
noncomputable def y173:=zT .nilFunc 1 8
noncomputable def y174:=zT .nilFunc 1 8
noncomputable def y176:=zT .nilFunc 1 8
noncomputable def y177:Ty:={ z:=(.slice none 0 0),size:=1,bytes:=24,agg:=false,sl:=some 82,arr:=none,fs:=[] }
noncomputable def y178:=zT .nilFunc 1 8
noncomputable def y181:=zT .nilFunc 1 8
noncomputable def y182:=zT .nilFunc 1 8
noncomputable def y183:=zT .nilFunc 1 8
noncomputable def y185:=zT .nilFunc 1 8
noncomputable def y186:=zT .nilFunc 1 8
noncomputable def y187:=zT .nilFunc 1 8
noncomputable def y188:=zT .nilFunc 1 8
noncomputable def y189:Ty:={ z:=(.int .u64 0),size:=1,bytes:=8,agg:=false,sl:=none,arr:=none,fs:=[],ik:=some .u64 }
noncomputable def y190:=zT .nilFunc 1 8
noncomputable def y191:Ty:={ z:=(.int .u64 0),size:=1,bytes:=8,agg:=false,sl:=none,arr:=none,fs:=[],ik:=some .u64 }
noncomputable def y192:=zT .nilFunc 1 8
noncomputable def y193:=zT .nilFunc 1 8
noncomputable def y194:=zT .nilFunc 1 8
noncomputable def y202:=zT .nilFunc 1 8
noncomputable def y203:=zT .nilFunc 1 8
noncomputable def y204:=zT .nilFunc 1 8
noncomputable def y205:=zT .nilFunc 1 8
noncomputable def y206:=zT .nilFunc 1 8
noncomputable def y208:=zT .nilFunc 1 8
noncomputable def y210:=zT .nilFunc 1 8
noncomputable def y211:=zT .nilFunc 1 8
noncomputable def y226:Ty:={ z:=(.int .i64 0),size:=1,bytes:=8,agg:=false,sl:=none,arr:=none,fs:=[],ik:=some .i64 }
noncomputable def y233:Ty:={ z:=(.slice none 0 0),size:=1,bytes:=24,agg:=false,sl:=some 68,arr:=none,fs:=[] }
noncomputable def ty:TypeId→Ty
 | 1=>y1
 | 2=>y2
 | 3=>y3
 | 4=>y4
 | 5=>y5
 | 6=>y6
 | 7=>y7
 | 8=>y8
 | 9=>y9
 | 10=>y10
 | 11=>y11
 | 12=>y12
 | 13=>y13
 | 14=>y14
 | 15=>y15
 | 16=>y16
 | 17=>y17
 | 18=>y18
 | 19=>y19
 | 21=>y21
 | 22=>y22
 | 23=>y23
 | 24=>y24
 | 25=>y25
 | 26=>y26
 | 27=>y27
 | 28=>y28
 | 29=>y29
 | 30=>y30
 | 31=>y31
 | 32=>y32
 | 33=>y33
 | 34=>y34
 | 35=>y35
 | 36=>y36
 | 38=>y38
 | 40=>y40
 | 41=>y41
 | 42=>y42
 | 43=>y43
 | 45=>y45
 | 46=>y46
 | 47=>y47
 | 48=>y48
 | 49=>y49
 | 50=>y50
 | 51=>y51
 | 52=>y52
 | 53=>y53
 | 54=>y54
 | 55=>y55
 | 56=>y56
 | 57=>y57
 | 58=>y58
 | 59=>y59
 | 60=>y60
 | 61=>y61
 | 62=>y62
 | 63=>y63
 | 64=>y64
 | 65=>y65
 | 66=>y66
 | 67=>y67
 | 68=>y68
 | 69=>y69
 | 70=>y70
 | 75=>y75
 | 76=>y76
 | 77=>y77
 | 78=>y78
 | 79=>y79
 | 80=>y80
 | 81=>y81
 | 82=>y82
 | 84=>y84
 | 85=>y85
 | 86=>y86
 | 87=>y87
 | 88=>y88
 | 90=>y90
 | 91=>y91
 | 92=>y92
 | 93=>y93
 | 94=>y94
 | 95=>y95
 | 96=>y96
 | 97=>y97
 | 98=>y98
 | 99=>y99
 | 100=>y100
 | 101=>y101
 | 102=>y102
 | 103=>y103
 | 104=>y104
 | 105=>y105
 | 106=>y106
 | 108=>y108
 | 109=>y109
 | 110=>y110
 | 111=>y111
 | 112=>y112
 | 113=>y113
 | 114=>y114
 | 115=>y115
 | 117=>y117
 | 118=>y118
 | 119=>y119
 | 120=>y120
 | 121=>y121
 | 122=>y122
 | 127=>y127
 | 128=>y128
 | 129=>y129
 | 130=>y130
 | 131=>y131
 | 133=>y133
 | 134=>y134
 | 135=>y135
 | 136=>y136
 | 137=>y137
 | 138=>y138
 | 139=>y139
 | 140=>y140
 | 142=>y142
 | 143=>y143
 | 144=>y144
 | 145=>y145
 | 146=>y146
 | 147=>y147
 | 152=>y152
 | 157=>y157
 | 158=>y158
 | 159=>y159
 | 162=>y162
 | 169=>y169
 | 173=>y173
 | 174=>y174
 | 176=>y176
 | 177=>y177
 | 178=>y178
 | 181=>y181
 | 182=>y182
 | 183=>y183
 | 185=>y185
 | 186=>y186
 | 187=>y187
 | 188=>y188
 | 189=>y189
 | 190=>y190
 | 191=>y191
 | 192=>y192
 | 193=>y193
 | 194=>y194
 | 202=>y202
 | 203=>y203
 | 204=>y204
 | 205=>y205
 | 206=>y206
 | 208=>y208
 | 210=>y210
 | 211=>y211
 | 226=>y226
 | 233=>y233
 | _=>Ty.none
theorem Xtc:∀ t,(ty t).ok=true→OKt Tryz.prog t (ty t):=by
 intro t h;unfold ty at h ⊢;split at h
 ·exact zY Tryz.underlying1
 ·exact zY Tryz.underlying2
 ·exact zY Tryz.underlying3
 ·exact zY Tryz.underlying4
 ·exact zY Tryz.underlying5
 ·exact zY Tryz.underlying6
 ·exact zY Tryz.underlying7
 ·exact zY Tryz.underlying8
 ·exact zY Tryz.underlying9
 ·exact zY Tryz.underlying10
 ·exact zY Tryz.underlying11
 ·exact zY Tryz.underlying12
 ·exact zY Tryz.underlying13
 ·exact zY Tryz.underlying14
 ·exact zY Tryz.underlying15
 ·exact zY Tryz.underlying16
 ·exact zY Tryz.underlying17
 ·exact zY Tryz.underlying18
 ·exact zY Tryz.underlying19
 ·exact zY Tryz.underlying21
 ·exact zY Tryz.underlying22
 ·exact zY Tryz.underlying23
 ·exact zY Tryz.underlying24
 ·exact zY Tryz.underlying25
 ·exact zY Tryz.underlying26
 ·exact zY Tryz.underlying27
 ·exact zY Tryz.underlying28
 ·exact zY Tryz.underlying29
 ·exact zY Tryz.underlying30
 ·exact zY Tryz.underlying31
 ·exact zY Tryz.underlying32
 ·exact zY Tryz.underlying33
 ·exact zY Tryz.underlying34
 ·exact zY Tryz.underlying35
 ·exact zY Tryz.underlying36
 ·exact zY Tryz.underlying38
 ·exact zY Tryz.underlying40
 ·exact zY Tryz.underlying41
 ·exact zY Tryz.underlying42
 ·exact zY Tryz.underlying43
 ·exact zY Tryz.underlying45
 ·exact zY Tryz.underlying46
 ·exact zY Tryz.underlying47
 ·exact zY Tryz.underlying48
 ·exact zY Tryz.underlying49
 ·exact zY Tryz.underlying50
 ·exact zY Tryz.underlying51
 ·exact zY Tryz.underlying52
 ·exact zY Tryz.underlying53
 ·exact zY Tryz.underlying54
 ·exact zY Tryz.underlying55
 ·exact zY Tryz.underlying56
 ·exact zY Tryz.underlying57
 ·exact zY Tryz.underlying58
 ·exact zY Tryz.underlying59
 ·exact zY Tryz.underlying60
 ·exact zY Tryz.underlying61
 ·exact zY Tryz.underlying62
 ·exact zY Tryz.underlying63
 ·exact zY Tryz.underlying64
 ·exact zY Tryz.underlying65
 ·exact zY Tryz.underlying66
 ·exact zY Tryz.underlying67
 ·exact zY Tryz.underlying68
 ·exact zY Tryz.underlying69
 ·exact zY Tryz.underlying70
 ·exact zY Tryz.underlying75
 ·exact zY Tryz.underlying76
 ·exact zY Tryz.underlying77
 ·exact zY Tryz.underlying78
 ·exact zY Tryz.underlying79
 ·exact zY Tryz.underlying80
 ·exact zY Tryz.underlying81
 ·exact zY Tryz.underlying82
 ·exact zY Tryz.underlying84
 ·exact zY Tryz.underlying85
 ·exact zY Tryz.underlying86
 ·exact zY Tryz.underlying87
 ·exact zY Tryz.underlying88
 ·exact zY Tryz.underlying90
 ·exact zY Tryz.underlying91
 ·exact zY Tryz.underlying92
 ·exact zY Tryz.underlying93
 ·exact zY Tryz.underlying94
 ·exact zY Tryz.underlying95
 ·exact zY Tryz.underlying96
 ·exact zY Tryz.underlying97
 ·exact zY Tryz.underlying98
 ·exact zY Tryz.underlying99
 ·exact zY Tryz.underlying100
 ·exact zY Tryz.underlying101
 ·exact zY Tryz.underlying102
 ·exact zY Tryz.underlying103
 ·exact zY Tryz.underlying104
 ·exact zY Tryz.underlying105
 ·exact zY Tryz.underlying106
 ·exact zY Tryz.underlying108
 ·exact zY Tryz.underlying109
 ·exact zY Tryz.underlying110
 ·exact zY Tryz.underlying111
 ·exact zY Tryz.underlying112
 ·exact zY Tryz.underlying113
 ·exact zY Tryz.underlying114
 ·exact zY Tryz.underlying115
 ·exact zY Tryz.underlying117
 ·exact zY Tryz.underlying118
 ·exact zY Tryz.underlying119
 ·exact zY Tryz.underlying120
 ·exact zY Tryz.underlying121
 ·exact zY Tryz.underlying122
 ·exact zY Tryz.underlying127
 ·exact zY Tryz.underlying128
 ·exact zY Tryz.underlying129
 ·exact zY Tryz.underlying130
 ·exact zY Tryz.underlying131
 ·exact zY Tryz.underlying133
 ·exact zY Tryz.underlying134
 ·exact zY Tryz.underlying135
 ·exact zY Tryz.underlying136
 ·exact zY Tryz.underlying137
 ·exact zY Tryz.underlying138
 ·exact zY Tryz.underlying139
 ·exact zY Tryz.underlying140
 ·exact zY Tryz.underlying142
 ·exact zY Tryz.underlying143
 ·exact zY Tryz.underlying144
 ·exact zY Tryz.underlying145
 ·exact zY Tryz.underlying146
 ·exact zY Tryz.underlying147
 ·exact zY Tryz.underlying152
 ·exact zY Tryz.underlying157
 ·exact zY Tryz.underlying158
 ·exact zY Tryz.underlying159
 ·exact zY Tryz.underlying162
 ·exact zY Tryz.underlying169
 ·exact zY Tryz.underlying173
 ·exact zY Tryz.underlying174
 ·exact zY Tryz.underlying176
 ·exact zY Tryz.underlying177
 ·exact zY Tryz.underlying178
 ·exact zY Tryz.underlying181
 ·exact zY Tryz.underlying182
 ·exact zY Tryz.underlying183
 ·exact zY Tryz.underlying185
 ·exact zY Tryz.underlying186
 ·exact zY Tryz.underlying187
 ·exact zY Tryz.underlying188
 ·exact zY Tryz.underlying189
 ·exact zY Tryz.underlying190
 ·exact zY Tryz.underlying191
 ·exact zY Tryz.underlying192
 ·exact zY Tryz.underlying193
 ·exact zY Tryz.underlying194
 ·exact zY Tryz.underlying202
 ·exact zY Tryz.underlying203
 ·exact zY Tryz.underlying204
 ·exact zY Tryz.underlying205
 ·exact zY Tryz.underlying206
 ·exact zY Tryz.underlying208
 ·exact zY Tryz.underlying210
 ·exact zY Tryz.underlying211
 ·exact zY Tryz.underlying226
 ·exact zY Tryz.underlying233
 ·cases h
noncomputable def C:Ctx:=⟨Tryz.prog,ty,Xtc⟩
theorem Qf:C.P.follows .mixedOrders=true:=by kernel_rfl
@[go_sem] theorem t2ok:(C.ty 2).ok=true:=rfl
@[go_sem] theorem t3ok:(C.ty 3).ok=true:=rfl
@[go_sem] theorem t3size:(C.ty 3).size=1:=rfl
@[go_sem] theorem t3bytes:(C.ty 3).bytes=8:=rfl
@[go_sem] theorem t3agg:(C.ty 3).agg=false:=rfl
@[go_sem] theorem t3ik:(C.ty 3).ik=some .i64:=rfl
@[go_sem] theorem t3z:Ja (C.ty 3)=((.int .i64 0):Value).cells.toList.map cv1:=rfl
@[go_sem] theorem t4ok:(C.ty 4).ok=true:=rfl
@[go_sem] theorem t4size:(C.ty 4).size=1:=rfl
@[go_sem] theorem t4agg:(C.ty 4).agg=false:=rfl
@[go_sem] theorem t4bl:(C.ty 4).bl=true:=rfl
@[go_sem] theorem t5ok:(C.ty 5).ok=true:=rfl
@[go_sem] theorem t5ik:(C.ty 5).ik=some .u8:=rfl
@[go_sem] theorem t9ok:(C.ty 9).ok=true:=rfl
@[go_sem] theorem t9size:(C.ty 9).size=1:=rfl
@[go_sem] theorem t9str:(C.ty 9).str=true:=rfl
@[go_sem] theorem t9arr:(C.ty 9).arr=none:=rfl
@[go_sem] theorem t22ok:(C.ty 22).ok=true:=rfl
@[go_sem] theorem t22size:(C.ty 22).size=1:=rfl
@[go_sem] theorem t22agg:(C.ty 22).agg=false:=rfl
@[go_sem] theorem t23ok:(C.ty 23).ok=true:=rfl
@[go_sem] theorem t23size:(C.ty 23).size=1:=rfl
@[go_sem] theorem t23agg:(C.ty 23).agg=false:=rfl
@[go_sem] theorem t23sl:(C.ty 23).sl=some 3:=rfl
@[go_sem] theorem t23z:Ja (C.ty 23)=((.slice none 0 0):Value).cells.toList.map cv1:=rfl
@[go_sem] theorem t25ok:(C.ty 25).ok=true:=rfl
@[go_sem] theorem t25size:(C.ty 25).size=3:=rfl
@[go_sem] theorem t25agg:(C.ty 25).agg=true:=rfl
@[go_sem] theorem t25fs:(C.ty 25).fs=[(0,22),(1,23),(2,23)]:=rfl
@[go_sem] theorem t25arr:(C.ty 25).arr=none:=rfl
@[go_sem] theorem t25z:Ja (C.ty 25)=((.agg #[(.int .i64 0),(.slice none 0 0),(.slice none 0 0)]):Value).cells.toList.map cv1:=rfl
@[go_sem] theorem t26ok:(C.ty 26).ok=true:=rfl
@[go_sem] theorem t26sl:(C.ty 26).sl=some 31:=rfl
@[go_sem] theorem t29ok:(C.ty 29).ok=true:=rfl
@[go_sem] theorem t29size:(C.ty 29).size=1:=rfl
@[go_sem] theorem t29agg:(C.ty 29).agg=false:=rfl
@[go_sem] theorem t29sl:(C.ty 29).sl=some 34:=rfl
@[go_sem] theorem t31ok:(C.ty 31).ok=true:=rfl
@[go_sem] theorem t31size:(C.ty 31).size=1:=rfl
@[go_sem] theorem t31agg:(C.ty 31).agg=false:=rfl
@[go_sem] theorem t31sl:(C.ty 31).sl=some 3:=rfl
@[go_sem] theorem t31z:Ja (C.ty 31)=((.slice none 0 0):Value).cells.toList.map cv1:=rfl
@[go_sem] theorem t32ok:(C.ty 32).ok=true:=rfl
@[go_sem] theorem t32size:(C.ty 32).size=1:=rfl
@[go_sem] theorem t32agg:(C.ty 32).agg=false:=rfl
@[go_sem] theorem t32sl:(C.ty 32).sl=some 70:=rfl
@[go_sem] theorem t34ok:(C.ty 34).ok=true:=rfl
@[go_sem] theorem t34size:(C.ty 34).size=2:=rfl
@[go_sem] theorem t34agg:(C.ty 34).agg=true:=rfl
@[go_sem] theorem t34fs:(C.ty 34).fs=[(0,31),(1,32)]:=rfl
@[go_sem] theorem t34arr:(C.ty 34).arr=none:=rfl
@[go_sem] theorem t34z:Ja (C.ty 34)=((.agg #[(.slice none 0 0),(.slice none 0 0)]):Value).cells.toList.map cv1:=rfl
@[go_sem] theorem t36ok:(C.ty 36).ok=true:=rfl
@[go_sem] theorem t36size:(C.ty 36).size=1:=rfl
@[go_sem] theorem t36agg:(C.ty 36).agg=false:=rfl
@[go_sem] theorem t36z:Ja (C.ty 36)=((.int .i64 0):Value).cells.toList.map cv1:=rfl
@[go_sem] theorem t50ok:(C.ty 50).ok=true:=rfl
@[go_sem] theorem t50size:(C.ty 50).size=1:=rfl
@[go_sem] theorem t50agg:(C.ty 50).agg=false:=rfl
@[go_sem] theorem t50sl:(C.ty 50).sl=some 56:=rfl
@[go_sem] theorem t52ok:(C.ty 52).ok=true:=rfl
@[go_sem] theorem t52size:(C.ty 52).size=2:=rfl
@[go_sem] theorem t52agg:(C.ty 52).agg=true:=rfl
@[go_sem] theorem t52fs:(C.ty 52).fs=[(0,23),(1,50)]:=rfl
@[go_sem] theorem t52arr:(C.ty 52).arr=none:=rfl
@[go_sem] theorem t52z:Ja (C.ty 52)=((.agg #[(.slice none 0 0),(.slice none 0 0)]):Value).cells.toList.map cv1:=rfl
@[go_sem] theorem t54ok:(C.ty 54).ok=true:=rfl
@[go_sem] theorem t54size:(C.ty 54).size=1:=rfl
@[go_sem] theorem t54agg:(C.ty 54).agg=false:=rfl
@[go_sem] theorem t54sl:(C.ty 54).sl=some 3:=rfl
@[go_sem] theorem t56ok:(C.ty 56).ok=true:=rfl
@[go_sem] theorem t56size:(C.ty 56).size=3:=rfl
@[go_sem] theorem t56agg:(C.ty 56).agg=true:=rfl
@[go_sem] theorem t56fs:(C.ty 56).fs=[(0,4),(1,54),(2,54)]:=rfl
@[go_sem] theorem t56arr:(C.ty 56).arr=none:=rfl
@[go_sem] theorem t56z:Ja (C.ty 56)=((.agg #[(.bool false),(.slice none 0 0),(.slice none 0 0)]):Value).cells.toList.map cv1:=rfl
@[go_sem] theorem t67ok:(C.ty 67).ok=true:=rfl
@[go_sem] theorem t67sl:(C.ty 67).sl=some 162:=rfl
@[go_sem] theorem t68ok:(C.ty 68).ok=true:=rfl
@[go_sem] theorem t68size:(C.ty 68).size=1:=rfl
@[go_sem] theorem t68agg:(C.ty 68).agg=false:=rfl
@[go_sem] theorem t68sl:(C.ty 68).sl=some 162:=rfl
@[go_sem] theorem t68z:Ja (C.ty 68)=((.slice none 0 0):Value).cells.toList.map cv1:=rfl
@[go_sem] theorem t70ok:(C.ty 70).ok=true:=rfl
@[go_sem] theorem t70size:(C.ty 70).size=3:=rfl
@[go_sem] theorem t70agg:(C.ty 70).agg=true:=rfl
@[go_sem] theorem t70fs:(C.ty 70).fs=[(0,4),(1,68),(2,68)]:=rfl
@[go_sem] theorem t70arr:(C.ty 70).arr=none:=rfl
@[go_sem] theorem t70z:Ja (C.ty 70)=((.agg #[(.bool false),(.slice none 0 0),(.slice none 0 0)]):Value).cells.toList.map cv1:=rfl
@[go_sem] theorem t78ok:(C.ty 78).ok=true:=rfl
@[go_sem] theorem t78size:(C.ty 78).size=1:=rfl
@[go_sem] theorem t78agg:(C.ty 78).agg=false:=rfl
@[go_sem] theorem t80ok:(C.ty 80).ok=true:=rfl
@[go_sem] theorem t80size:(C.ty 80).size=1:=rfl
@[go_sem] theorem t80agg:(C.ty 80).agg=false:=rfl
@[go_sem] theorem t82ok:(C.ty 82).ok=true:=rfl
@[go_sem] theorem t82size:(C.ty 82).size=8:=rfl
@[go_sem] theorem t82agg:(C.ty 82).agg=true:=rfl
@[go_sem] theorem t82fs:(C.ty 82).fs=[(0,22),(1,9),(2,3),(3,3),(4,3),(5,3),(6,80),(7,3)]:=rfl
@[go_sem] theorem t82arr:(C.ty 82).arr=none:=rfl
@[go_sem] theorem t82z:Ja (C.ty 82)=((.agg #[(.int .i64 0),(.string ⟨#[]⟩),(.int .i64 0),(.int .i64 0),(.int .i64 0),(.int .i64 0),.nilFunc,(.int .i64 0)]):Value).cells.toList.map cv1:=rfl
@[go_sem] theorem t88ok:(C.ty 88).ok=true:=rfl
@[go_sem] theorem t88size:(C.ty 88).size=1:=rfl
@[go_sem] theorem t88agg:(C.ty 88).agg=false:=rfl
@[go_sem] theorem t98ok:(C.ty 98).ok=true:=rfl
@[go_sem] theorem t98size:(C.ty 98).size=1:=rfl
@[go_sem] theorem t98agg:(C.ty 98).agg=false:=rfl
@[go_sem] theorem t102ok:(C.ty 102).ok=true:=rfl
@[go_sem] theorem t102size:(C.ty 102).size=1:=rfl
@[go_sem] theorem t102agg:(C.ty 102).agg=false:=rfl
@[go_sem] theorem t104ok:(C.ty 104).ok=true:=rfl
@[go_sem] theorem t104size:(C.ty 104).size=1:=rfl
@[go_sem] theorem t104agg:(C.ty 104).agg=false:=rfl
@[go_sem] theorem t106ok:(C.ty 106).ok=true:=rfl
@[go_sem] theorem t106size:(C.ty 106).size=1:=rfl
@[go_sem] theorem t106agg:(C.ty 106).agg=false:=rfl
@[go_sem] theorem t131ok:(C.ty 131).ok=true:=rfl
@[go_sem] theorem t131size:(C.ty 131).size=2:=rfl
@[go_sem] theorem t131arr:(C.ty 131).arr=some (2,3):=rfl
@[go_sem] theorem t131z:Ja (C.ty 131)=((.agg #[(.int .i64 0),(.int .i64 0)]):Value).cells.toList.map cv1:=rfl
@[go_sem] theorem t147ok:(C.ty 147).ok=true:=rfl
@[go_sem] theorem t147fs:(C.ty 147).fs=[(0,4)]:=rfl
@[go_sem] theorem t147arr:(C.ty 147).arr=none:=rfl
@[go_sem] theorem t147z:Ja (C.ty 147)=((.agg #[(.bool false)]):Value).cells.toList.map cv1:=rfl
@[go_sem] theorem t152ok:(C.ty 152).ok=true:=rfl
@[go_sem] theorem t152size:(C.ty 152).size=2:=rfl
@[go_sem] theorem t152agg:(C.ty 152).agg=true:=rfl
@[go_sem] theorem t152fs:(C.ty 152).fs=[(0,31),(1,32)]:=rfl
@[go_sem] theorem t152arr:(C.ty 152).arr=none:=rfl
@[go_sem] theorem t152z:Ja (C.ty 152)=((.agg #[(.slice none 0 0),(.slice none 0 0)]):Value).cells.toList.map cv1:=rfl
@[go_sem] theorem t162ok:(C.ty 162).ok=true:=rfl
@[go_sem] theorem t162size:(C.ty 162).size=1:=rfl
@[go_sem] theorem t162bytes:(C.ty 162).bytes=4:=rfl
@[go_sem] theorem t162agg:(C.ty 162).agg=false:=rfl
@[go_sem] theorem t162ik:(C.ty 162).ik=some .u32:=rfl
@[go_sem] theorem t177ok:(C.ty 177).ok=true:=rfl
@[go_sem] theorem t177sl:(C.ty 177).sl=some 82:=rfl
@[go_sem] theorem t189ok:(C.ty 189).ok=true:=rfl
@[go_sem] theorem t189size:(C.ty 189).size=1:=rfl
@[go_sem] theorem t189agg:(C.ty 189).agg=false:=rfl
@[go_sem] theorem t189ik:(C.ty 189).ik=some .u64:=rfl
@[go_sem] theorem t189z:Ja (C.ty 189)=((.int .u64 0):Value).cells.toList.map cv1:=rfl
@[go_sem] theorem t191ok:(C.ty 191).ok=true:=rfl
@[go_sem] theorem t191ik:(C.ty 191).ik=some .u64:=rfl
@[go_sem] theorem t233ok:(C.ty 233).ok=true:=rfl
@[go_sem] theorem t233sl:(C.ty 233).sl=some 68:=rfl
abbrev t0:Go.Operand:=.tmp 0
abbrev t1:Go.Operand:=.tmp 1
abbrev t2:Go.Operand:=.tmp 2
abbrev t3:Go.Operand:=.tmp 3
abbrev t4:Go.Operand:=.tmp 4
abbrev t5:Go.Operand:=.tmp 5
abbrev t6:Go.Operand:=.tmp 6
abbrev t7:Go.Operand:=.tmp 7
abbrev t8:Go.Operand:=.tmp 8
abbrev t9:Go.Operand:=.tmp 9
abbrev t10:Go.Operand:=.tmp 10
abbrev t11:Go.Operand:=.tmp 11
abbrev t12:Go.Operand:=.tmp 12
abbrev t13:Go.Operand:=.tmp 13
abbrev t14:Go.Operand:=.tmp 14
abbrev t15:Go.Operand:=.tmp 15
abbrev t16:Go.Operand:=.tmp 16
abbrev t17:Go.Operand:=.tmp 17
abbrev t18:Go.Operand:=.tmp 18
abbrev t19:Go.Operand:=.tmp 19
abbrev t20:Go.Operand:=.tmp 20
abbrev t21:Go.Operand:=.tmp 21
abbrev t22:Go.Operand:=.tmp 22
abbrev t23:Go.Operand:=.tmp 23
abbrev t24:Go.Operand:=.tmp 24
abbrev t25:Go.Operand:=.tmp 25
abbrev t26:Go.Operand:=.tmp 26
abbrev t27:Go.Operand:=.tmp 27
abbrev t28:Go.Operand:=.tmp 28
abbrev t29:Go.Operand:=.tmp 29
abbrev t30:Go.Operand:=.tmp 30
abbrev t31:Go.Operand:=.tmp 31
abbrev t32:Go.Operand:=.tmp 32
abbrev t33:Go.Operand:=.tmp 33
abbrev t34:Go.Operand:=.tmp 34
abbrev t35:Go.Operand:=.tmp 35
abbrev t36:Go.Operand:=.tmp 36
abbrev t37:Go.Operand:=.tmp 37
abbrev t38:Go.Operand:=.tmp 38
abbrev t39:Go.Operand:=.tmp 39
abbrev t40:Go.Operand:=.tmp 40
abbrev t41:Go.Operand:=.tmp 41
abbrev t42:Go.Operand:=.tmp 42
abbrev t43:Go.Operand:=.tmp 43
abbrev t44:Go.Operand:=.tmp 44
abbrev t45:Go.Operand:=.tmp 45
abbrev t46:Go.Operand:=.tmp 46
abbrev t47:Go.Operand:=.tmp 47
abbrev t48:Go.Operand:=.tmp 48
abbrev t49:Go.Operand:=.tmp 49
abbrev t50:Go.Operand:=.tmp 50
abbrev t51:Go.Operand:=.tmp 51
abbrev t52:Go.Operand:=.tmp 52
abbrev t53:Go.Operand:=.tmp 53
abbrev t54:Go.Operand:=.tmp 54
abbrev t55:Go.Operand:=.tmp 55
abbrev t56:Go.Operand:=.tmp 56
abbrev t57:Go.Operand:=.tmp 57
abbrev t58:Go.Operand:=.tmp 58
abbrev t59:Go.Operand:=.tmp 59
abbrev t60:Go.Operand:=.tmp 60
abbrev t61:Go.Operand:=.tmp 61
abbrev t62:Go.Operand:=.tmp 62
abbrev t63:Go.Operand:=.tmp 63
abbrev t64:Go.Operand:=.tmp 64
abbrev t65:Go.Operand:=.tmp 65
abbrev t66:Go.Operand:=.tmp 66
abbrev t67:Go.Operand:=.tmp 67
abbrev t68:Go.Operand:=.tmp 68
abbrev t69:Go.Operand:=.tmp 69
abbrev t70:Go.Operand:=.tmp 70
abbrev t71:Go.Operand:=.tmp 71
abbrev t72:Go.Operand:=.tmp 72
abbrev t73:Go.Operand:=.tmp 73
abbrev t74:Go.Operand:=.tmp 74
abbrev t75:Go.Operand:=.tmp 75
abbrev t76:Go.Operand:=.tmp 76
abbrev t77:Go.Operand:=.tmp 77
abbrev t78:Go.Operand:=.tmp 78
abbrev t79:Go.Operand:=.tmp 79
abbrev t80:Go.Operand:=.tmp 80
abbrev t81:Go.Operand:=.tmp 81
abbrev t82:Go.Operand:=.tmp 82
abbrev t83:Go.Operand:=.tmp 83
abbrev t84:Go.Operand:=.tmp 84
abbrev t85:Go.Operand:=.tmp 85
abbrev t86:Go.Operand:=.tmp 86
abbrev t87:Go.Operand:=.tmp 87
abbrev t88:Go.Operand:=.tmp 88
abbrev t89:Go.Operand:=.tmp 89
abbrev t90:Go.Operand:=.tmp 90
abbrev t91:Go.Operand:=.tmp 91
abbrev t92:Go.Operand:=.tmp 92
abbrev t93:Go.Operand:=.tmp 93
abbrev t94:Go.Operand:=.tmp 94
abbrev t95:Go.Operand:=.tmp 95
abbrev t96:Go.Operand:=.tmp 96
abbrev t97:Go.Operand:=.tmp 97
abbrev t98:Go.Operand:=.tmp 98
abbrev t99:Go.Operand:=.tmp 99
abbrev t100:Go.Operand:=.tmp 100
abbrev t101:Go.Operand:=.tmp 101
abbrev t102:Go.Operand:=.tmp 102
abbrev t103:Go.Operand:=.tmp 103
abbrev t104:Go.Operand:=.tmp 104
abbrev t105:Go.Operand:=.tmp 105
abbrev t106:Go.Operand:=.tmp 106
abbrev t107:Go.Operand:=.tmp 107
abbrev t108:Go.Operand:=.tmp 108
abbrev t109:Go.Operand:=.tmp 109
abbrev t110:Go.Operand:=.tmp 110
abbrev t111:Go.Operand:=.tmp 111
abbrev t112:Go.Operand:=.tmp 112
abbrev t113:Go.Operand:=.tmp 113
abbrev t114:Go.Operand:=.tmp 114
abbrev t115:Go.Operand:=.tmp 115
abbrev t116:Go.Operand:=.tmp 116
abbrev t117:Go.Operand:=.tmp 117
abbrev t118:Go.Operand:=.tmp 118
abbrev t119:Go.Operand:=.tmp 119
abbrev t120:Go.Operand:=.tmp 120
abbrev t121:Go.Operand:=.tmp 121
abbrev t122:Go.Operand:=.tmp 122
abbrev t123:Go.Operand:=.tmp 123
abbrev t124:Go.Operand:=.tmp 124
abbrev t125:Go.Operand:=.tmp 125
abbrev t126:Go.Operand:=.tmp 126
abbrev t127:Go.Operand:=.tmp 127
abbrev t128:Go.Operand:=.tmp 128
abbrev t129:Go.Operand:=.tmp 129
abbrev t130:Go.Operand:=.tmp 130
abbrev t131:Go.Operand:=.tmp 131
abbrev t132:Go.Operand:=.tmp 132
abbrev t133:Go.Operand:=.tmp 133
abbrev t134:Go.Operand:=.tmp 134
abbrev t135:Go.Operand:=.tmp 135
abbrev t136:Go.Operand:=.tmp 136
abbrev t137:Go.Operand:=.tmp 137
abbrev t138:Go.Operand:=.tmp 138
abbrev t139:Go.Operand:=.tmp 139
abbrev t140:Go.Operand:=.tmp 140
abbrev t141:Go.Operand:=.tmp 141
abbrev t142:Go.Operand:=.tmp 142
abbrev t143:Go.Operand:=.tmp 143
abbrev t144:Go.Operand:=.tmp 144
abbrev t145:Go.Operand:=.tmp 145
abbrev t146:Go.Operand:=.tmp 146
abbrev t147:Go.Operand:=.tmp 147
abbrev t148:Go.Operand:=.tmp 148
abbrev t149:Go.Operand:=.tmp 149
abbrev t150:Go.Operand:=.tmp 150
abbrev t151:Go.Operand:=.tmp 151
abbrev t152:Go.Operand:=.tmp 152
abbrev t153:Go.Operand:=.tmp 153
abbrev t154:Go.Operand:=.tmp 154
abbrev t155:Go.Operand:=.tmp 155
abbrev t156:Go.Operand:=.tmp 156
abbrev t157:Go.Operand:=.tmp 157
abbrev t158:Go.Operand:=.tmp 158
abbrev t159:Go.Operand:=.tmp 159
abbrev t160:Go.Operand:=.tmp 160
abbrev t161:Go.Operand:=.tmp 161
abbrev t162:Go.Operand:=.tmp 162
abbrev t163:Go.Operand:=.tmp 163
abbrev t164:Go.Operand:=.tmp 164
abbrev t165:Go.Operand:=.tmp 165
abbrev t166:Go.Operand:=.tmp 166
abbrev t167:Go.Operand:=.tmp 167
abbrev t168:Go.Operand:=.tmp 168
abbrev t169:Go.Operand:=.tmp 169
abbrev t170:Go.Operand:=.tmp 170
abbrev t171:Go.Operand:=.tmp 171
abbrev t172:Go.Operand:=.tmp 172
abbrev t173:Go.Operand:=.tmp 173
abbrev t174:Go.Operand:=.tmp 174
abbrev t175:Go.Operand:=.tmp 175
abbrev t176:Go.Operand:=.tmp 176
abbrev t177:Go.Operand:=.tmp 177
abbrev t178:Go.Operand:=.tmp 178
abbrev t179:Go.Operand:=.tmp 179
abbrev t180:Go.Operand:=.tmp 180
abbrev t181:Go.Operand:=.tmp 181
abbrev t182:Go.Operand:=.tmp 182
abbrev t183:Go.Operand:=.tmp 183
abbrev t184:Go.Operand:=.tmp 184
abbrev t185:Go.Operand:=.tmp 185
abbrev t186:Go.Operand:=.tmp 186
abbrev t187:Go.Operand:=.tmp 187
abbrev t188:Go.Operand:=.tmp 188
abbrev t189:Go.Operand:=.tmp 189
abbrev t190:Go.Operand:=.tmp 190
abbrev t191:Go.Operand:=.tmp 191
abbrev t192:Go.Operand:=.tmp 192
abbrev t193:Go.Operand:=.tmp 193
abbrev t194:Go.Operand:=.tmp 194
abbrev t195:Go.Operand:=.tmp 195
abbrev t196:Go.Operand:=.tmp 196
abbrev t197:Go.Operand:=.tmp 197
abbrev t198:Go.Operand:=.tmp 198
abbrev t199:Go.Operand:=.tmp 199
abbrev t200:Go.Operand:=.tmp 200
abbrev t201:Go.Operand:=.tmp 201
abbrev t202:Go.Operand:=.tmp 202
abbrev t203:Go.Operand:=.tmp 203
abbrev t204:Go.Operand:=.tmp 204
abbrev t205:Go.Operand:=.tmp 205
abbrev t206:Go.Operand:=.tmp 206
abbrev t207:Go.Operand:=.tmp 207
abbrev t208:Go.Operand:=.tmp 208
abbrev t209:Go.Operand:=.tmp 209
abbrev t210:Go.Operand:=.tmp 210
abbrev t211:Go.Operand:=.tmp 211
abbrev t212:Go.Operand:=.tmp 212
abbrev t213:Go.Operand:=.tmp 213
abbrev t214:Go.Operand:=.tmp 214
abbrev t215:Go.Operand:=.tmp 215
theorem w3:Tryz.f3.body.map (Qq C)=some (.q (.R [.n 4 (.box 25 t1),Wa 6 Wo]) (.q (.q (.R [Wm 13 t0,Wl 14 25 t4,Wc 15 4 #[t13,t14] #[3,25],Wb 16 .neq 3 t15 (Wk 0),Wm 17 t16,.g (some 18) (.move t2) 17 false,.g (some 19) (.call ⟨.builtin .len,#[t18],#[26]⟩) 17 false,.g (some 20) (.fieldAddr 25 t4 1) 17 false,.g (some 21) (.load 23 t20) 17 false,.g (some 22) (.call ⟨.builtin .len,#[t21],#[23]⟩) 17 false,.g (some 23) (.binOp .neq 3 t19 t22 3) 17 false,.n 24 (.pick t17 Wt t23),Wm 25 t24,.g (some 26) (.move t2) 25 false,.g (some 27) (.call ⟨.builtin .len,#[t26],#[26]⟩) 25 false,.g (some 28) (.binOp .gtr 3 t27 (Wk 8) 3) 25 false,.n 29 (.pick t25 Wt t28)]) (.c t29 (.q (.R [Wc 30 5 #[] #[],Wa 6 t30]) .r) .s)) (.q (.R [Wa 7 (.const (.slice none 0 0))]) (.q (.q (.R [Wa 8 (Wk 0)]) (.b 0 (.l (.q (.q (.R [Wm 31 t8,Wm 32 t2,Wn 33 t32 26,Wb 34 .lss 3 t31 t33]) (.c t34 .s (.x 0))) (.q (.b 1 (.q (.q (.R [Wm 37 t2,Wm 38 t8,Wi 39 26 t37 t38,Wl 40 31 t39,Wc 41 6 #[t40] #[23],Wb 42 .neq 3 t41 (Wk 0),Wm 43 t42,.g (some 44) (.move t2) 43 false,.g (some 45) (.move t8) 43 false,.g (some 46) (.indexAddr 26 t44 t45) 43 false,.g (some 47) (.load 31 t46) 43 false,.g (some 48) (.call ⟨.value (.func 7),#[t47],#[23]⟩) 43 false,.g (some 49) (.binOp .gtr 3 t48 (Wk 64) 3) 43 false,.n 50 (.pick t43 Wt t49)]) (.c t50 (.q (.R [Wc 51 5 #[] #[],Wa 6 t51]) .r) .s)) (.R [Wm 52 t7,Wm 53 t2,Wm 54 t8,Wi 55 26 t53 t54,Wl 56 31 t55,Wc 57 8 #[t56] #[31],.n 58 (.buildSlice 29 1 #[(0,t57)]),.n 59 (.call ⟨.builtin .append,#[t52,t58],#[29,29]⟩),Wa 7 t59]))) (.R [Wm 35 t8,Wb 36 .add 3 t35 (Wk 1),Wa 8 t36])))))) (.q (.R [Wm 61 t0,Wl 62 25 t4,Wm 63 t2,Wc 64 9 #[t61,t62,t63] #[3,25,26],Wm 60 t64,We 65 t60 0,We 66 t60 1,Wa 9 t65,Wa 10 t66]) (.q (.R [Wm 68 t0,Wl 69 25 t4,Wm 70 t7,Wc 71 10 #[t68,t69,t70] #[3,25,29],Wm 67 t71,We 72 t67 0,We 73 t67 1,Wv 11 34,Ws 34 t11 t72,Wa 12 t73]) (.q (.q (.R [Wm 74 t10,Wb 75 .neq 36 t74 (Wk 0)]) (.c t75 (.q (.R [Wm 76 t12,Wb 77 .neq 36 t76 (Wk 0),Wm 78 t77,.g (some 79) (.call ⟨.value (.func 5),#[],#[]⟩) 78 true,.n 80 (.pick t78 t79 Wo),Wa 6 t80]) .r) .s)) (.q (.D true [Wm 81 t12,Wb 82 .eql 36 t81 (Wk 0),Wm 83 t82,.g (some 84) (.fieldAddr 34 t11 0) 83 true,.g (some 85) (.load 31 t84) 83 true,.g (some 86) (.move t9) 83 true,.g (some 87) (.call ⟨.value (.func 11),#[t85,t86],#[23,23]⟩) 83 true,.n 88 (.pick t83 t87 Wo),Wm 89 t88,.g (some 90) (.fieldAddr 34 t11 1) 89 true,.g (some 91) (.load 32 t90) 89 true,.g (some 92) (.call ⟨.builtin .len,#[t91],#[32]⟩) 89 true,.g (some 93) (.move t9) 89 true,.g (some 94) (.call ⟨.value (.func 7),#[t93],#[23]⟩) 89 true,.g (some 95) (.binOp .eql 3 t92 t94 3) 89 true,.n 96 (.pick t89 t95 Wo),Wm 97 t96,.g (some 98) (.call ⟨.value (.func 5),#[],#[]⟩) 97 true,.n 99 (.pick t97 t98 Wo),Wa 6 t99]) .r)))))))):=by kernel_rfl
theorem w11:Tryz.f11.body.map (Qq C)=some (.q (.R [Wa 4 Wo]) (.q (.q (.R [Wm 6 t0,Wn 7 t6 23,Wm 8 t1,Wn 9 t8 23,Wb 10 .neq 3 t7 t9]) (.c t10 (.q (.R [Wa 4 Wo]) .r) .s)) (.q (.q (.R [Wa 5 (Wk 0)]) (.b 0 (.l (.q (.q (.R [Wm 11 t5,Wm 12 t0,Wn 13 t12 23,Wb 14 .lss 3 t11 t13]) (.c t14 .s (.x 0))) (.q (.b 1 (.q (.D true [Wm 17 t0,Wm 18 t5,Wi 19 23 t17 t18,Wl 20 3 t19,Wm 21 t1,Wm 22 t5,Wi 23 23 t21 t22,Wl 24 3 t23,Wb 25 .neq 3 t20 t24]) (.c t25 (.q (.R [Wa 4 Wo]) .r) .s))) (.R [Wm 15 t5,Wb 16 .add 3 t15 (Wk 1),Wa 5 t16])))))) (.q (.R [Wa 4 Wt]) .r)))):=by kernel_rfl
theorem w19:Tryz.f19.body.map (Qq C)=some (.q (.R [Wv 2 56]) (.q (.R [Wm 3 t0,Wb 4 .lss 3 t3 (Wk 0),Wm 5 t0,Wc 6 47 #[t5] #[3],.n 7 (.buildSlice 54 1 #[(0,Wk 1)]),.n 8 (.build 56 #[(0,t4),(1,t6),(2,t7)]),Ws 56 t2 t8]) .r)):=by kernel_rfl
theorem w27:Tryz.f27.body.map (Qq C)=some (.q (.R [.n 2 (.box 34 t0),.n 3 (.box 34 t1),Wv 4 34,Wa 5 (Wk 0)]) (.q (.D true [Wl 6 34 t2,Wl 7 34 t3,Wc 8 69 #[.func 72] #[104],Wc 9 68 #[t6,t7,t8] #[34,34,102],We 10 t9 0,We 11 t9 1,Ws 34 t4 t10,Wa 5 t11]) .r)):=by kernel_rfl
theorem w35:Tryz.f35.body.map (Qq C)=some (.q (.R [Wv 4 56]) (.q (.R [Wm 5 t0,Wb 6 .lss 3 t5 (Wk 0),Wm 7 t1,Wb 8 .lss 3 t7 (Wk 0),Wb 9 .neq 4 t6 t8,Wm 10 t0,Wc 11 47 #[t10] #[3],Wm 12 t1,Wc 13 47 #[t12] #[3],Wc 14 86 #[t9,t11,t13] #[4,54,54],Ws 56 t4 t14]) .r)):=by kernel_rfl
theorem w43:Tryz.f43.body.map (Qq C)=some (.q (.R [.n 2 (.box 34 t0),.n 3 (.box 23 t1),Wv 4 34,Wv 5 36]) (.q (.q (.R [Wl 12 34 t2,Wc 13 76 #[t12] #[34],Wa 6 t13]) (.q (.R [Wm 14 t6,Wb 15 .neq 36 t14 (Wk 0)]) (.c t15 (.q (.R [.n 16 (.build 34 #[]),Wm 17 t6,Ws 34 t4 t16,Ws 36 t5 t17]) .r) .s))) (.q (.q (.R [Wl 18 23 t3,Wn 19 t18 23,Wf 20 34 t2 0,Wl 21 31 t20,Wn 22 t21 31,Wb 23 .mul 3 (Wk 2) t22,Wb 24 .neq 3 t19 t23]) (.c t24 (.q (.R [.n 25 (.build 34 #[]),Ws 34 t4 t25,Ws 36 t5 (Wk 11)]) .r) .s)) (.q (.q (.R [Wl 26 23 t3,Wc 27 101 #[t26] #[23]]) (.b 0 (.f t27 #[28,29] (.R [Wv 8 131,Ws 131 t8 t29]) (.b 1 (.q (.R [Wi 30 131 t8 (Wk 0),Wl 31 3 t30,Wb 32 .lss 3 t31 (Wk 0),Wm 33 t32,.g (some 34) (.indexAddr 131 t8 (Wk 1)) 33 false,.g (some 35) (.load 3 t34) 33 false,.g (some 36) (.indexAddr 131 t8 (Wk 0)) 33 false,.g (some 37) (.load 3 t36) 33 false,.g (some 38) (.binOp .leq 3 t35 t37 3) 33 false,.n 39 (.pick t33 Wt t38)]) (.c t39 (.q (.R [.n 40 (.build 34 #[]),Ws 34 t4 t40,Ws 36 t5 (Wk 11)]) .r) .s)))))) (.q (.R [Wv 9 31]) (.q (.q (.R [Wl 41 23 t3,Wc 42 101 #[t41] #[23]]) (.b 2 (.f t42 #[43,44] (.q (.R [Wa 10 t43]) (.R [Wv 11 131,Ws 131 t11 t44])) (.b 3 (.q (.q (.D true [Wi 45 131 t11 (Wk 1),Wl 46 3 t45,Wf 47 34 t2 0,Wl 48 31 t47,Wm 49 t10,Wi 50 31 t48 t49,Wl 51 3 t50,Wb 52 .gtr 3 t46 t51]) (.c t52 (.q (.R [.n 53 (.build 34 #[]),Ws 34 t4 t53,Ws 36 t5 (Wk 13)]) .r) .s)) (.R [Wl 54 31 t9,Wi 55 131 t11 (Wk 1),Wl 56 3 t55,Wi 57 131 t11 (Wk 0),Wl 58 3 t57,Wb 59 .sub 3 t56 t58,.n 60 (.buildSlice 31 1 #[(0,t59)]),.n 61 (.call ⟨.builtin .append,#[t54,t60],#[31,31]⟩),Ws 31 t9 t61])))))) (.q (.R [Wl 62 34 t2,Wl 63 31 t9,.n 64 (.makeFunc (.func 102) #[] #[t3]),Wc 65 91 #[t62,t63,t64] #[34,31,88],We 66 t65 0,We 67 t65 1,Ws 34 t4 t66,Ws 36 t5 t67]) .r))))))):=by kernel_rfl
theorem w51:Tryz.f51.body.map (Qq C)=some (.q (.R [Wa 4 Wo]) (.q (.R [Wm 5 t0,Wm 6 t1,Wc 7 111 #[t5,t6] #[23,85],Wb 8 .geq 3 t7 (Wk 0),Wa 4 t8]) .r)):=by kernel_rfl
theorem w59:Tryz.f59.body.map (Qq C)=some (.q (.R [Wa 4 (.const (.slice none 0 0)),Wa 5 (Wk 0)]) (.q (.q (.R [Wm 8 t1,Wn 9 t8 23,Wm 10 t0,Wn 11 t10 31,Wb 12 .neq 3 t9 t11]) (.c t12 (.q (.R [Wa 4 (.const (.slice none 0 0)),Wa 5 (Wk 13)]) .r) .s)) (.q (.q (.R [Wm 13 t1,Wn 14 t13 23,Wm 15 (Wk 0)]) (.b 0 (.l (.q (.R [Wb 16 .lss 3 t15 t14]) (.q (.c t16 .s (.x 0)) (.q (.b 1 (.q (.R [Wi 17 23 t13 t15,Wl 18 3 t17,Wa 7 t18]) (.R [Wm 19 t4,Wm 20 t0,Wm 21 t7,Wi 22 31 t20 t21,Wl 23 3 t22,.n 24 (.buildSlice 31 1 #[(0,t23)]),.n 25 (.call ⟨.builtin .append,#[t19,t24],#[31,31]⟩),Wa 4 t25]))) (.R [Wb 26 .add 3 t15 (Wk 1),Wm 15 t26]))))))) (.q (.R [Wm 27 t4,Wa 4 t27,Wa 5 (Wk 0)]) .r)))):=by kernel_rfl
theorem w67:Tryz.f67.body.map (Qq C)=some (.q (.R [Wm 4 t0,Wn 5 t4 23,Wb 6 .sub 3 t5 (Wk 1),Wa 2 (Wk 0),Wa 3 t6]) (.b 0 (.l (.q (.q (.R [Wm 7 t2,Wm 8 t3,Wb 9 .lss 3 t7 t8]) (.c t9 .s (.x 0))) (.q (.b 1 (.D true [Wm 14 t0,Wm 15 t2,Wm 16 t0,Wm 17 t3,Wm 18 t0,Wm 19 t3,Wi 20 23 t18 t19,Wl 21 3 t20,Wm 22 t0,Wm 23 t2,Wi 24 23 t22 t23,Wl 25 3 t24,Wi 26 23 t14 t15,Ws 3 t26 t21,Wi 27 23 t16 t17,Ws 3 t27 t25])) (.R [Wm 10 t2,Wb 11 .add 3 t10 (Wk 1),Wm 12 t3,Wb 13 .sub 3 t12 (Wk 1),Wa 2 t11,Wa 3 t13])))))):=by kernel_rfl
theorem w75:Tryz.f75.body.map (Qq C)=some (.q (.R [.n 1 (.box 70 t0),Wv 2 70]) (.q (.R [Wl 3 70 t1,Wc 4 82 #[t3] #[70],Ws 70 t1 t4]) (.q (.R [Wf 5 70 t1 1,Wl 6 68 t5,Wn 7 t6 68,Wb 8 .gtr 3 t7 (Wk 0),Wm 9 t8,.g (some 10) (.fieldAddr 70 t1 0) 9 true,.g (some 11) (.load 4 t10) 9 true,.g (some 12) (.unOp .not 4 t11) 9 true,.n 13 (.pick t9 t12 Wo),Wf 14 70 t1 0,Ws 4 t14 t13]) (.q (.R [Wl 15 70 t1,Ws 70 t2 t15]) .r)))):=by kernel_rfl
theorem w83:Tryz.f83.body.map (Qq C)=some (.q (.R [.n 1 (.box 70 t0),Wv 2 70]) (.q (.R [Wl 3 70 t1,Wc 4 80 #[t3] #[70],.n 5 (.call ⟨.builtin .max,#[t4,Wk 0],#[3,3]⟩),Wc 6 81 #[t5] #[2],Ws 70 t2 t6]) .r)):=by kernel_rfl
theorem w91:Tryz.f91.body.map (Qq C)=some (.q (.R [.n 3 (.box 34 t0),.n 5 (.box 88 t2),Wv 6 34,Wa 7 (Wk 0)]) (.q (.R [Wm 8 t1,Wm 9 t1,Wc 10 81 #[Wk 0] #[2],.n 11 (.makeFunc (.func 138) #[] #[t3,t5]),Wc 12 105 #[t9,t10,t11] #[31,70,133],Wc 13 94 #[t8,t12] #[31,32],We 14 t13 0,We 15 t13 1,Ws 34 t6 t14,Wa 7 t15]) .r)):=by kernel_rfl
theorem w99:Tryz.f99.body.map (Qq C)=some (.q (.R [Wa 4 (Wk 0),Wa 5 (Wk 0)]) (.q (.q (.R [Wm 10 t0,Wc 11 21 #[t10] #[31],Wa 6 t11]) (.q (.R [Wm 12 t6,Wb 13 .neq 36 t12 (Wk 0)]) (.c t13 (.q (.R [Wm 14 t6,Wa 4 (Wk 0),Wa 5 t14]) .r) .s))) (.q (.q (.R [Wm 15 t1,Wn 16 t15 23,Wm 17 t0,Wn 18 t17 31,Wb 19 .neq 3 t16 t18]) (.c t19 (.q (.R [Wa 4 (Wk 0),Wa 5 (Wk 2)]) .r) .s)) (.q (.R [Wa 7 (Wk 0)]) (.q (.q (.R [Wm 20 t0,Wn 21 t20 31,Wm 22 (Wk 0)]) (.b 0 (.l (.q (.R [Wb 23 .lss 3 t22 t21]) (.q (.c t23 .s (.x 0)) (.q (.b 1 (.q (.R [Wm 24 t22,Wi 25 31 t20 t22,Wl 26 3 t25,Wa 8 t24,Wa 9 t26]) (.q (.q (.R [Wm 27 t1,Wm 28 t8,Wi 29 23 t27 t28,Wl 30 3 t29,Wb 31 .lss 3 t30 (Wk 0),Wm 32 t31,.g (some 33) (.move t1) 32 false,.g (some 34) (.move t8) 32 false,.g (some 35) (.indexAddr 23 t33 t34) 32 false,.g (some 36) (.load 3 t35) 32 false,.g (some 37) (.move t9) 32 false,.g (some 38) (.binOp .geq 3 t36 t37 3) 32 false,.n 39 (.pick t32 Wt t38)]) (.c t39 (.q (.R [Wa 4 (Wk 0),Wa 5 (Wk 21)]) .r) .s)) (.R [Wm 40 t7,Wm 41 t9,Wb 42 .mul 3 t40 t41,Wm 43 t1,Wm 44 t8,Wi 45 23 t43 t44,Wl 46 3 t45,Wb 47 .add 3 t42 t46,Wa 7 t47])))) (.R [Wb 48 .add 3 t22 (Wk 1),Wm 22 t48]))))))) (.q (.R [Wm 49 t7,Wa 4 t49,Wa 5 (Wk 0)]) .r)))))):=by kernel_rfl
theorem w107:Tryz.f107.body.map (Qq C)=some (.q (.R [Wa 4 (.const (.slice none 0 0))]) (.q (.R [Wa 5 (.const (.slice none 0 0))]) (.q (.R [Wa 6 (Wk 0)]) (.q (.q (.R [Wa 7 (Wk 0)]) (.b 0 (.l (.q (.q (.R [Wm 9 t7,Wm 10 t0,Wn 11 t10 54,Wb 12 .lss 3 t9 t11,Wm 13 t12,.g (some 14) (.move t7) 13 false,.g (some 15) (.move t1) 13 false,.g (some 16) (.call ⟨.builtin .len,#[t15],#[54]⟩) 13 false,.g (some 17) (.binOp .lss 3 t14 t16 3) 13 false,.n 18 (.pick t13 Wt t17),Wm 19 t18,.g (some 20) (.move t6) 19 false,.g (some 21) (.binOp .gtr 3 t20 (Wk 0) 3) 19 false,.n 22 (.pick t19 Wt t21)]) (.c t22 .s (.x 0))) (.q (.b 1 (.q (.R [Wm 25 t0,Wm 26 t7,Wc 27 143 #[t25,t26] #[54,3],Wm 28 t1,Wm 29 t7,Wc 30 143 #[t28,t29] #[54,3],Wb 31 .add 3 t27 t30,Wm 32 t6,Wb 33 .add 3 t31 t32,Wa 8 t33]) (.q (.R [Wm 34 t5,Wm 35 t8,Wb 36 .rem 3 t35 (Wk 10000),.n 37 (.buildSlice 54 1 #[(0,t36)]),.n 38 (.call ⟨.builtin .append,#[t34,t37],#[54,54]⟩),Wa 5 t38]) (.R [Wm 39 t8,Wb 40 .quo 3 t39 (Wk 10000),Wa 6 t40])))) (.R [Wm 23 t7,Wb 24 .add 3 t23 (Wk 1),Wa 7 t24])))))) (.q (.R [Wm 41 t5,Wa 4 t41]) .r))))):=by kernel_rfl
theorem w115:Tryz.f115.body.map (Qq C)=some (.q (.R [Wa 2 (.const (.slice none 0 0))]) (.q (.R [Wm 3 t0,Wa 2 t3]) .r)):=by kernel_rfl
theorem w123:Tryz.f123.body.map (Qq C)=some (.q (.R [.n 1 (.box 34 t0),Wv 2 152]) (.q (.R [Wf 3 34 t1 0,Wl 4 31 t3,Wf 5 34 t1 1,Wl 6 32 t5,.n 7 (.build 152 #[(0,t4),(1,t6)]),Ws 152 t2 t7]) .r)):=by kernel_rfl
theorem w131:Tryz.f131.body.map (Qq C)=some (.q (.R [Wa 4 (.const (.slice none 0 0))]) (.q (.b 0 (.l (.q (.q (.R [Wm 7 t1,Wn 8 t7 54,Wb 9 .gtr 3 t8 (Wk 0)]) (.c t9 .s (.x 0))) (.b 1 (.q (.R [Wm 11 t0,Wm 12 t1,Wc 13 132 #[t11,t12] #[54,54],Wm 10 t13,We 14 t10 0,We 15 t10 1,Wa 5 t14,Wa 6 t15]) (.R [Wm 16 t1,Wm 17 t6,Wa 0 t16,Wa 1 t17])))))) (.q (.R [Wm 18 t0,Wa 4 t18]) .r))):=by kernel_rfl
theorem w139:Tryz.f139.body.map (Qq C)=some (.q (.R [.n 1 (.box 152 t0),Wv 2 34]) (.q (.R [Wf 3 152 t1 0,Wl 4 31 t3,Wf 5 152 t1 1,Wl 6 32 t5,.n 7 (.build 34 #[(0,t4),(1,t6)]),Ws 34 t2 t7]) .r)):=by kernel_rfl
theorem w147:Tryz.f147.body.map (Qq C)=some (.q (.R [Wa 3 (Wk 0)]) (.b 0 (.l (.q (.q (.R [Wm 4 t3,Wb 5 .add 3 t4 (Wk 1),Wl 6 23 t1,Wn 7 t6 23,Wb 8 .lss 3 t5 t7]) (.c t8 .s (.x 0))) (.q (.b 1 (.q (.U [Wm 11 t0,Wl 12 23 t1,Wm 13 t3,Wi 14 23 t12 t13,Wl 15 3 t14,Wl 16 23 t1,Wm 17 t3,Wb 18 .add 3 t17 (Wk 1),Wi 19 23 t16 t18,Wl 20 3 t19,.n 21 (.call ⟨.value t11,#[t15,t20],#[3,3]⟩),.n 22 (.unOp .not 4 t21)]) (.c t22 .r .s))) (.R [Wm 9 t3,Wb 10 .add 3 t9 (Wk 2),Wa 3 t10])))))):=by kernel_rfl
theorem w155:Tryz.f155.body.map (Qq C)=some (.q (.R [.n 1 (.box 189 t0),Wa 2 (.const (.slice none 0 0))]) (.q (.R [.n 3 (.makeFunc (.func 187) #[] #[t1]),Wc 4 182 #[Wk 2,t3] #[3,206],Wa 2 t4]) .r)):=by kernel_rfl
theorem w163:Tryz.f163.body.map (Qq C)=some (.q (.R [Wa 4 (Wk 0)]) (.q (.R [Wa 5 (Wk 0),Wa 6 (Wk 10000)]) (.q (.b 0 (.l (.q (.q (.R [Wm 8 t6,Wm 9 t5,Wb 10 .sub 3 t8 t9,Wb 11 .gtr 3 t10 (Wk 1)]) (.c t11 .s (.x 0))) (.b 1 (.q (.R [Wm 12 t5,Wm 13 t6,Wb 14 .add 3 t12 t13,Wb 15 .quo 3 t14 (Wk 2),Wa 7 t15]) (.q (.R [Wm 16 t1,Wm 17 t7,Wc 18 165 #[t16,t17] #[54,3],Wm 19 t0,Wc 20 192 #[t18,t19] #[54,54],Wb 21 .leq 3 t20 (Wk 0)]) (.c t21 (.R [Wm 22 t7,Wa 5 t22]) (.R [Wm 23 t7,Wa 6 t23])))))))) (.q (.R [Wm 24 t5,Wa 4 t24]) .r)))):=by kernel_rfl
theorem w171:Tryz.f171.body.map (Qq C)=some (.q (.R [Wa 2 Wo]) (.q (.R [Wm 3 t0,Wn 4 t3 23,Wb 5 .eql 3 t4 (Wk 0),Wa 2 t5]) .r)):=by kernel_rfl
theorem w179:Tryz.f179.body.map (Qq C)=some (.q (.R [Wa 4 Wo]) (.q (.R [Wm 5 t0,Wm 6 t1,.n 7 (.call ⟨.builtin .min,#[t5,t6],#[3,3]⟩),Wb 8 .geq 3 t7 (Wk 0),Wa 4 t8]) .r)):=by kernel_rfl
theorem w187:Tryz.f187.body.map (Qq C)=some (.q (.R [Wa 3 (.const (.int .u64 0))]) (.q (.R [Wl 4 189 t1,Wm 5 t0,Wb 6 .mul 3 (Wk 32) t5,.n 7 (.binOp .shr 189 t4 t6 3),Wb 8 .and 189 t7 (.const (.int .u64 4294967295)),Wa 3 t8]) .r)):=by kernel_rfl
theorem w195:Tryz.f195.body.map (Qq C)=some (.q (.R [Wa 2 (Wk 0)]) (.q (.c Wo (.q (.R [Wm 3 t0,.n 4 (.convert 191 162 t3),Wc 5 190 #[t4] #[162],Wa 2 t5]) .r) .s) (.q (.R [Wm 6 t0,Wc 7 219 #[t6] #[189],Wa 2 t7]) .r))):=by kernel_rfl
theorem w203:Tryz.f203.body.map (Qq C)=some (.q (.R [Wa 4 (.const (.slice none 0 0)),Wa 5 (.const (.int .u32 0)),Wa 6 (Wk 0)]) (.q (.q (.R [Wm 10 t1,Wb 11 .eql 162 t10 (.const (.int .u32 0))]) (.c t11 (.q (.R [Wa 4 (.const (.slice none 0 0)),Wa 5 (.const (.int .u32 0)),Wa 6 (Wk 17)]) .r) .s)) (.q (.R [Wm 12 t0,Wn 13 t12 68,.n 14 (.makeSlice 68 t13 t13),Wa 7 t14]) (.q (.R [Wa 8 (.const (.int .u64 0))]) (.q (.q (.R [Wm 15 t0,Wn 16 t15 68,Wb 17 .sub 3 t16 (Wk 1),Wa 9 t17]) (.b 0 (.l (.q (.q (.R [Wm 18 t9,Wb 19 .geq 3 t18 (Wk 0)]) (.c t19 .s (.x 0))) (.q (.b 1 (.q (.R [Wm 22 t8,.n 23 (.binOp .shl 189 t22 (.const (.int .u64 32)) 191),Wm 24 t0,Wm 25 t9,Wi 26 68 t24 t25,Wl 27 162 t26,.n 28 (.convert 162 189 t27),Wb 29 .or 189 t23 t28,Wa 8 t29]) (.q (.R [Wm 30 t7,Wm 31 t9,Wm 32 t8,Wm 33 t1,.n 34 (.convert 162 189 t33),Wb 35 .quo 189 t32 t34,.n 36 (.convert 189 162 t35),Wi 37 68 t30 t31,Ws 162 t37 t36]) (.R [Wm 38 t8,Wm 39 t1,.n 40 (.convert 162 189 t39),Wb 41 .rem 189 t38 t40,Wa 8 t41])))) (.R [Wm 20 t9,Wb 21 .sub 3 t20 (Wk 1),Wa 9 t21])))))) (.q (.R [Wm 42 t7,Wc 43 156 #[t42] #[68],Wm 44 t8,.n 45 (.convert 189 162 t44),Wa 4 t43,Wa 5 t45,Wa 6 (Wk 0)]) .r)))))):=by kernel_rfl
theorem w216:Tryz.f216.body.map (Qq C)=some (.q (.R [Wa 4 Wo]) (.q (.R [Wm 5 t0,Wc 6 230 #[t5] #[3],Wm 7 t6,.g (some 8) (.move t1) 7 true,.g (some 9) (.call ⟨.value (.func 230),#[t8],#[3]⟩) 7 true,.g (some 10) (.unOp .not 4 t9) 7 true,.n 11 (.pick t7 t10 Wo),Wm 12 t11,.g (some 13) (.move t0) 12 false,.g (some 14) (.move t1) 12 false,.g (some 15) (.binOp .lss 3 t13 t14 3) 12 false,.n 16 (.pick t12 Wt t15),Wa 4 t16]) .r)):=by kernel_rfl
theorem w4:Tryz.f4.body.map (Qq C)=some (.q (.R [.n 3 (.box 25 t1),Wa 4 (Wk 0)]) (.q (.q (.R [Wm 7 t0,Wb 8 .lss 3 t7 (Wk 1),Wm 9 t8,.g (some 10) (.move t0) 9 false,.g (some 11) (.binOp .gtr 3 t10 (Wk 3) 3) 9 false,.n 12 (.pick t9 Wt t11)]) (.c t12 (.q (.R [Wa 4 (Wk 8)]) .r) .s)) (.q (.q (.R [Wf 13 25 t3 0,Wl 14 22 t13,Wm 15 t0,Wc 16 12 #[t14,t15] #[22,3],.n 17 (.unOp .not 4 t16)]) (.c t17 (.q (.R [Wa 4 (Wk 9)]) .r) .s)) (.q (.R [Wf 19 25 t3 0,Wl 20 22 t19,Wc 21 13 #[t20] #[22],Wm 18 t21,We 22 t18 0,We 23 t18 1,Wa 5 t22,Wa 6 t23]) (.q (.q (.R [Wf 24 25 t3 1,Wl 25 23 t24,Wn 26 t25 23,Wm 27 t5,Wb 28 .lss 3 t26 t27,Wm 29 t28,.g (some 30) (.fieldAddr 25 t3 1) 29 false,.g (some 31) (.load 23 t30) 29 false,.g (some 32) (.call ⟨.builtin .len,#[t31],#[23]⟩) 29 false,.g (some 33) (.move t6) 29 false,.g (some 34) (.binOp .gtr 3 t32 t33 3) 29 false,.n 35 (.pick t29 Wt t34)]) (.c t35 (.q (.R [Wa 4 (Wk 10)]) .r) .s)) (.q (.q (.R [Wf 36 25 t3 2,Wl 37 23 t36,Wn 38 t37 23,Wb 39 .eql 3 t38 (Wk 0),Wm 40 t39,.g (some 41) (.move t0) 40 true,.g (some 42) (.fieldAddr 25 t3 0) 40 true,.g (some 43) (.load 22 t42) 40 true,.g (some 44) (.call ⟨.value (.func 14),#[t41,t43],#[3,22]⟩) 40 true,.n 45 (.pick t40 t44 Wo)]) (.c t45 (.q (.R [Wa 4 (Wk 0)]) .r) .s)) (.q (.q (.R [Wf 46 25 t3 0,Wl 47 22 t46,Wf 48 25 t3 2,Wl 49 23 t48,Wc 50 15 #[t47,t49] #[22,23],.n 51 (.unOp .not 4 t50)]) (.c t51 (.q (.R [Wa 4 (Wk 11)]) .r) .s)) (.q (.R [Wa 4 (Wk 0)]) .r)))))))):=by kernel_rfl
theorem w12:Tryz.f12.body.map (Qq C)=some (.q (.R [Wa 4 Wo]) (.q (.q (.R [Wm 5 t0,Wb 6 .lss 22 t5 (Wk 1),Wm 7 t6,.g (some 8) (.move t0) 7 false,.g (some 9) (.binOp .gtr 22 t8 (Wk 20) 22) 7 false,.n 10 (.pick t7 Wt t9),Wm 11 t10,.g (some 12) (.move t1) 11 false,.g (some 13) (.binOp .lss 3 t12 (Wk 1) 3) 11 false,.n 14 (.pick t11 Wt t13),Wm 15 t14,.g (some 16) (.move t1) 15 false,.g (some 17) (.binOp .gtr 3 t16 (Wk 3) 3) 15 false,.n 18 (.pick t15 Wt t17)]) (.c t18 (.q (.R [Wa 4 Wo]) .r) .s)) (.q (.q (.R [Wm 19 t0]) (.b 0 (.q (.R [Wb 21 .eql 22 t19 (Wk 18),Wa 20 t21]) (.c t20 (.q (.R [Wm 22 t1,Wb 23 .eql 3 t22 (Wk 1),Wa 4 t23]) .r) (.q (.q (.R [Wb 25 .eql 22 t19 (Wk 19),Wa 24 t25]) (.c t24 .s (.R [Wb 26 .eql 22 t19 (Wk 20),Wa 24 t26]))) (.c t24 (.q (.R [Wm 27 t1,Wb 28 .lss 3 t27 (Wk 3),Wa 4 t28]) .r) (.q (.q (.R [Wb 30 .eql 22 t19 (Wk 8),Wa 29 t30]) (.c t29 .s (.R [Wb 31 .eql 22 t19 (Wk 9),Wa 29 t31]))) (.c t29 (.q (.R [Wm 32 t1,Wb 33 .eql 3 t32 (Wk 3),Wa 4 t33]) .r) .s)))))))) (.q (.R [Wa 4 Wt]) .r)))):=by kernel_rfl
theorem w20:Tryz.f20.body.map (Qq C)=some (.q (.R [.n 3 (.box 25 t1),Wa 4 (Wk 0)]) (.q (.R [Wf 9 25 t3 0,Wl 10 22 t9,Wc 11 48 #[t10] #[22],Wm 8 t11,We 12 t8 0,We 13 t8 1,Wv 5 82,Ws 82 t5 t12,Wa 6 t13]) (.q (.R [Wa 7 (.func 49)]) (.q (.b 0 (.q (.R [Wm 15 t0,Wb 16 .lss 3 t15 (Wk 1),Wm 17 t16,.g (some 18) (.move t0) 17 false,.g (some 19) (.binOp .gtr 3 t18 (Wk 3) 3) 17 false,.n 20 (.pick t17 Wt t19),Wa 14 t20]) (.c t14 (.q (.R [Wa 4 (Wk 8)]) .r) (.q (.R [Wm 22 t6,.n 23 (.unOp .not 4 t22),Wm 24 t23,.g (some 25) (.load 82 t5) 24 false,.g (some 26) (.move t0) 24 false,.g (some 27) (.call ⟨.value (.func 50),#[t25,t26],#[82,3]⟩) 24 false,.g (some 28) (.unOp .not 4 t27) 24 false,.n 29 (.pick t24 Wt t28),Wa 21 t29]) (.c t21 (.q (.R [Wa 4 (Wk 9)]) .r) (.q (.R [Wf 31 25 t3 1,Wl 32 23 t31,Wn 33 t32 23,Wf 34 82 t5 4,Wl 35 3 t34,Wb 36 .lss 3 t33 t35,Wm 37 t36,.g (some 38) (.fieldAddr 25 t3 1) 37 false,.g (some 39) (.load 23 t38) 37 false,.g (some 40) (.call ⟨.builtin .len,#[t39],#[23]⟩) 37 false,.g (some 41) (.fieldAddr 82 t5 5) 37 false,.g (some 42) (.load 3 t41) 37 false,.g (some 43) (.binOp .gtr 3 t40 t42 3) 37 false,.n 44 (.pick t37 Wt t43),Wa 30 t44]) (.c t30 (.q (.R [Wa 4 (Wk 10)]) .r) (.q (.R [Wf 46 25 t3 2,Wl 47 23 t46,Wn 48 t47 23,Wb 49 .eql 3 t48 (Wk 0),Wm 50 t49,.g (some 51) (.move t0) 50 true,.g (some 52) (.fieldAddr 82 t5 7) 50 true,.g (some 53) (.load 3 t52) 50 true,.g (some 54) (.binOp .leq 3 t51 t53 3) 50 true,.n 55 (.pick t50 t54 Wo),Wa 45 t55]) (.c t45 (.q (.R [Wa 4 (Wk 0)]) .r) (.q (.R [Wf 57 25 t3 2,Wl 58 23 t57,Wm 59 t7,Wc 60 51 #[t58,t59] #[23,85],Wm 61 t60,.g (some 62) (.fieldAddr 82 t5 6) 61 false,.g (some 63) (.load 80 t62) 61 false,.g (some 64) (.fieldAddr 25 t3 2) 61 false,.g (some 65) (.load 23 t64) 61 false,.g (some 66) (.call ⟨.value t63,#[t65],#[23]⟩) 61 false,.g (some 67) (.unOp .not 4 t66) 61 false,.n 68 (.pick t61 Wt t67),Wa 56 t68]) (.c t56 (.q (.R [Wa 4 (Wk 11)]) .r) .s))))))))))) (.q (.R [Wa 4 (Wk 0)]) .r))))):=by kernel_rfl
theorem w28:Tryz.f28.body.map (Qq C)=some (.q (.R [.n 2 (.box 34 t0),.n 3 (.box 34 t1),Wv 4 34,Wa 5 (Wk 0)]) (.q (.R [Wl 6 34 t2,Wl 7 34 t3,Wc 8 68 #[t6,t7,.func 73] #[34,34,102],We 9 t8 0,We 10 t8 1,Ws 34 t4 t9,Wa 5 t10]) .r)):=by kernel_rfl
theorem w36:Tryz.f36.body.map (Qq C)=some (.q (.R [.n 2 (.box 34 t0),.n 3 (.box 34 t1),Wv 4 34,Wa 5 (Wk 0)]) (.q (.q (.R [Wl 18 34 t2,Wl 19 34 t3,.n 20 (.buildSlice 29 2 #[(0,t18),(1,t19)]),Wn 21 t20 29,Wm 22 (Wk 0)]) (.b 0 (.l (.q (.R [Wb 23 .lss 3 t22 t21]) (.q (.c t23 .s (.x 0)) (.q (.b 1 (.q (.R [Wi 24 29 t20 t22,Wl 25 34 t24,Wv 7 34,Ws 34 t7 t25]) (.q (.R [Wl 26 34 t7,Wc 27 76 #[t26] #[34],Wa 8 t27]) (.q (.R [Wm 28 t8,Wb 29 .neq 36 t28 (Wk 0)]) (.c t29 (.q (.R [.n 30 (.build 34 #[]),Wm 31 t8,Ws 34 t4 t30,Wa 5 t31]) .r) .s))))) (.R [Wb 32 .add 3 t22 (Wk 1),Wm 22 t32]))))))) (.q (.q (.D true [Wf 33 34 t2 0,Wl 34 31 t33,Wn 35 t34 31,Wb 36 .neq 3 t35 (Wk 2),Wm 37 t36,.g (some 38) (.fieldAddr 34 t3 0) 37 false,.g (some 39) (.load 31 t38) 37 false,.g (some 40) (.call ⟨.builtin .len,#[t39],#[31]⟩) 37 false,.g (some 41) (.binOp .neq 3 t40 (Wk 2) 3) 37 false,.n 42 (.pick t37 Wt t41),Wm 43 t42,.g (some 44) (.fieldAddr 34 t2 0) 43 false,.g (some 45) (.load 31 t44) 43 false,.g (some 46) (.indexAddr 31 t45 (Wk 1)) 43 false,.g (some 47) (.load 3 t46) 43 false,.g (some 48) (.fieldAddr 34 t3 0) 43 false,.g (some 49) (.load 31 t48) 43 false,.g (some 50) (.indexAddr 31 t49 (Wk 0)) 43 false,.g (some 51) (.load 3 t50) 43 false,.g (some 52) (.binOp .neq 3 t47 t51 3) 43 false,.n 53 (.pick t43 Wt t52)]) (.c t53 (.q (.R [.n 54 (.build 34 #[]),Ws 34 t4 t54,Wa 5 (Wk 13)]) .r) .s)) (.q (.D true [Wf 55 34 t2 0,Wl 56 31 t55,Wi 57 31 t56 (Wk 0),Wl 58 3 t57,Wf 59 34 t2 0,Wl 60 31 t59,Wi 61 31 t60 (Wk 1),Wl 62 3 t61,Wf 63 34 t3 0,Wl 64 31 t63,Wi 65 31 t64 (Wk 1),Wl 66 3 t65,Wa 9 t58,Wv 10 3,Ws 3 t10 t62,Wv 11 3,Ws 3 t11 t66]) (.q (.q (.R [Wm 67 t9,Wl 68 3 t11,.n 69 (.buildSlice 31 2 #[(0,t67),(1,t68)]),Wc 70 21 #[t69] #[31],Wa 12 t70]) (.q (.R [Wm 71 t12,Wb 72 .neq 36 t71 (Wk 0)]) (.c t72 (.q (.R [.n 73 (.build 34 #[]),Wm 74 t12,Ws 34 t4 t73,Wa 5 t74]) .r) .s))) (.q (.R [Wm 75 t9,Wl 76 3 t11,.n 77 (.buildSlice 31 2 #[(0,t75),(1,t76)]),.n 78 (.build 34 #[(0,t77)]),Wv 13 34,Ws 34 t13 t78]) (.q (.q (.R [Wm 79 t9,Wl 80 3 t11,Wc 81 87 #[t79,t80] #[3,3]]) (.b 2 (.f t81 #[82,83] (.q (.R [Wa 14 t82]) (.R [Wa 15 t83])) (.b 3 (.q (.R [Wc 84 81 #[Wk 0] #[2],Wv 16 70,Ws 70 t16 t84]) (.q (.q (.R [Wl 85 3 t10,Wm 86 (Wk 0)]) (.b 4 (.l (.q (.R [Wb 87 .lss 3 t86 t85]) (.q (.c t87 .s (.x 4)) (.q (.b 5 (.q (.R [Wm 88 t86,Wa 17 t88]) (.D true [Wl 89 70 t16,Wf 90 34 t2 1,Wl 91 32 t90,Wm 92 t14,Wl 93 3 t10,Wb 94 .mul 3 t92 t93,Wm 95 t17,Wb 96 .add 3 t94 t95,Wi 97 32 t91 t96,Wl 98 70 t97,Wf 99 34 t3 1,Wl 100 32 t99,Wm 101 t17,Wl 102 3 t11,Wb 103 .mul 3 t101 t102,Wm 104 t15,Wb 105 .add 3 t103 t104,Wi 106 32 t100 t105,Wl 107 70 t106,Wc 108 72 #[t98,t107] #[70,70],Wc 109 70 #[t89,t108] #[70,70],Ws 70 t16 t109]))) (.R [Wb 110 .add 3 t86 (Wk 1),Wm 86 t110]))))))) (.R [Wf 111 34 t13 1,Wl 112 32 t111,Wl 113 70 t16,.n 114 (.buildSlice 32 1 #[(0,t113)]),.n 115 (.call ⟨.builtin .append,#[t112,t114],#[32,32]⟩),Wf 116 34 t13 1,Ws 32 t116 t115]))))))) (.q (.R [Wl 117 34 t13,Ws 34 t4 t117,Wa 5 (Wk 0)]) .r)))))))):=by kernel_rfl
theorem w44:Tryz.f44.body.map (Qq C)=some (.q (.R [.n 2 (.box 34 t0),.n 3 (.box 23 t1),Wv 4 34,Wv 5 36]) (.q (.q (.R [Wl 11 34 t2,Wc 12 76 #[t11] #[34],Wa 6 t12]) (.q (.R [Wm 13 t6,Wb 14 .neq 36 t13 (Wk 0)]) (.c t14 (.q (.R [.n 15 (.build 34 #[]),Wm 16 t6,Ws 34 t4 t15,Ws 36 t5 t16]) .r) .s))) (.q (.q (.R [Wl 17 23 t3,Wn 18 t17 23,Wf 19 34 t2 0,Wl 20 31 t19,Wn 21 t20 31,Wb 22 .mul 3 (Wk 2) t21,Wb 23 .neq 3 t18 t22,Wm 24 t23,.g (some 25) (.load 23 t3) 24 false,.g (some 26) (.call ⟨.value (.func 51),#[t25,.func 103],#[23,85]⟩) 24 false,.n 27 (.pick t24 Wt t26)]) (.c t27 (.q (.R [.n 28 (.build 34 #[]),Ws 34 t4 t28,Ws 36 t5 (Wk 11)]) .r) .s)) (.q (.R [Wv 7 31]) (.q (.q (.R [Wl 29 23 t3,Wc 30 101 #[t29] #[23]]) (.b 0 (.f t30 #[31,32] (.q (.R [Wa 8 t31]) (.R [Wv 9 131,Ws 131 t9 t32])) (.b 1 (.q (.q (.R [Wi 33 131 t9 (Wk 0),Wl 34 3 t33,Wi 35 131 t9 (Wk 1),Wl 36 3 t35,.n 37 (.call ⟨.builtin .max,#[t34,t36],#[3,3]⟩),Wb 38 .gtr 3 t37 (Wk 1024)]) (.c t38 (.q (.R [.n 39 (.build 34 #[]),Ws 34 t4 t39,Ws 36 t5 (Wk 14)]) .r) .s)) (.D true [Wl 40 31 t7,Wi 41 131 t9 (Wk 0),Wl 42 3 t41,Wf 43 34 t2 0,Wl 44 31 t43,Wm 45 t8,Wi 46 31 t44 t45,Wl 47 3 t46,Wb 48 .add 3 t42 t47,Wi 49 131 t9 (Wk 1),Wl 50 3 t49,Wb 51 .add 3 t48 t50,.n 52 (.buildSlice 31 1 #[(0,t51)]),.n 53 (.call ⟨.builtin .append,#[t40,t52],#[31,31]⟩),Ws 31 t7 t53])))))) (.q (.q (.R [Wl 54 31 t7,Wc 55 21 #[t54] #[31],Wa 10 t55]) (.q (.R [Wm 56 t10,Wb 57 .neq 36 t56 (Wk 0)]) (.c t57 (.q (.R [.n 58 (.build 34 #[]),Wm 59 t10,Ws 34 t4 t58,Ws 36 t5 t59]) .r) .s))) (.q (.R [Wl 60 34 t2,Wl 61 31 t7,.n 62 (.makeFunc (.func 104) #[] #[t3]),Wc 63 91 #[t60,t61,t62] #[34,31,88],We 64 t63 0,We 65 t63 1,Ws 34 t4 t64,Ws 36 t5 t65]) .r))))))):=by kernel_rfl
theorem w52:Tryz.f52.body.map (Qq C)=some (.q (.R [Wa 2 (Wk 0)]) (.sc (.q (.R [Wa 3 (Wk 1)]) (.q (.lb 0) (.q (.q (.R [Wm 6 t0,Wn 7 t6 23,Wm 8 (Wk 0)]) (.b 0 (.l (.q (.R [Wb 9 .lss 3 t8 t7]) (.q (.c t9 .s (.x 0)) (.q (.b 1 (.q (.R [Wi 10 23 t6 t8,Wl 11 3 t10,Wa 5 t11]) (.q (.q (.R [Wm 12 t5,Wm 13 t3,Wb 14 .quo 3 (Wk 1024) t13,Wb 15 .gtr 3 t12 t14]) (.c t15 (.q (.R [Wa 3 (Wk 1025)]) (.x 0)) .s)) (.R [Wm 16 t3,Wm 17 t5,Wb 18 .mul 3 t16 t17,Wa 3 t18])))) (.R [Wb 19 .add 3 t8 (Wk 1),Wm 8 t19]))))))) (.q (.R [Wm 20 t3,Wa 2 t20]) .r)))))):=by kernel_rfl
theorem w60:Tryz.f60.body.map (Qq C)=some (.q (.R [Wa 2 (Wk 0)]) (.q (.q (.R [Wm 3 t0,Wc 4 21 #[t3] #[31],Wb 5 .neq 36 t4 (Wk 0)]) (.c t5 (.q (.R [Wa 2 (Wk 0)]) .r) .s)) (.q (.R [Wm 6 t0,Wc 7 52 #[t6] #[23],Wa 2 t7]) .r))):=by kernel_rfl
theorem w68:Tryz.f68.body.map (Qq C)=some (.q (.R [.n 3 (.box 34 t0),.n 4 (.box 34 t1),.n 5 (.box 102 t2),Wv 6 34,Wv 7 36]) (.q (.q (.R [Wl 16 34 t3,Wl 17 34 t4,.n 18 (.buildSlice 29 2 #[(0,t16),(1,t17)]),Wn 19 t18 29,Wm 20 (Wk 0)]) (.b 0 (.l (.q (.R [Wb 21 .lss 3 t20 t19]) (.q (.c t21 .s (.x 0)) (.q (.b 1 (.q (.R [Wi 22 29 t18 t20,Wl 23 34 t22,Wv 9 34,Ws 34 t9 t23]) (.q (.R [Wl 24 34 t9,Wc 25 76 #[t24] #[34],Wa 10 t25]) (.q (.R [Wm 26 t10,Wb 27 .neq 36 t26 (Wk 0)]) (.c t27 (.q (.R [.n 28 (.build 34 #[]),Wm 29 t10,Ws 34 t6 t28,Ws 36 t7 t29]) .r) .s))))) (.R [Wb 30 .add 3 t20 (Wk 1),Wm 20 t30]))))))) (.q (.q (.R [Wf 31 34 t3 0,Wl 32 31 t31,Wf 33 34 t4 0,Wl 34 31 t33,Wc 35 56 #[t32,t34] #[31,31],.n 36 (.unOp .not 4 t35)]) (.c t36 (.q (.R [.n 37 (.build 34 #[]),Ws 34 t6 t37,Ws 36 t7 (Wk 13)]) .r) .s)) (.q (.R [Wf 38 34 t3 0,Wl 39 31 t38,Wc 40 53 #[t39] #[31],.n 41 (.build 34 #[(0,t40)]),Wv 11 34,Ws 34 t11 t41]) (.q (.q (.R [Wf 42 34 t3 1,Wl 43 32 t42,Wf 44 34 t4 1,Wl 45 32 t44,Wc 46 117 #[t43,t45] #[32,32]]) (.b 2 (.f t46 #[47,48] (.q (.R [Wv 12 70,Ws 70 t12 t47]) (.R [Wv 13 70,Ws 70 t13 t48])) (.b 3 (.q (.R [Wl 50 102 t5,Wl 51 70 t12,Wl 52 70 t13,.n 53 (.call ⟨.value t50,#[t51,t52],#[70,70]⟩),Wm 49 t53,We 54 t49 0,We 55 t49 1,Wv 14 70,Ws 70 t14 t54,Wa 15 t55]) (.q (.q (.R [Wm 56 t15,Wb 57 .neq 36 t56 (Wk 0)]) (.c t57 (.q (.R [.n 58 (.build 34 #[]),Wm 59 t15,Ws 34 t6 t58,Ws 36 t7 t59]) .r) .s)) (.R [Wf 60 34 t11 1,Wl 61 32 t60,Wl 62 70 t14,.n 63 (.buildSlice 32 1 #[(0,t62)]),.n 64 (.call ⟨.builtin .append,#[t61,t63],#[32,32]⟩),Wf 65 34 t11 1,Ws 32 t65 t64]))))))) (.q (.R [Wl 66 34 t11,Ws 34 t6 t66,Ws 36 t7 (Wk 0)]) .r)))))):=by kernel_rfl
theorem w76:Tryz.f76.body.map (Qq C)=some (.q (.R [.n 1 (.box 34 t0),Wv 2 36]) (.q (.q (.R [Wl 7 34 t1,Wc 8 122 #[t7] #[34],Wa 3 t8]) (.q (.R [Wm 9 t3,Wb 10 .neq 36 t9 (Wk 0)]) (.c t10 (.q (.R [Wm 11 t3,Ws 36 t2 t11]) .r) .s))) (.q (.q (.R [Wl 12 34 t1,Wc 13 123 #[t12] #[34],Wc 14 124 #[t13] #[152]]) (.b 0 (.f t14 #[15,16] (.R [Wv 5 70,Ws 70 t5 t16]) (.b 1 (.q (.R [Wl 17 70 t5,Wc 18 125 #[t17] #[70],Wa 6 t18]) (.q (.R [Wm 19 t6,Wb 20 .neq 36 t19 (Wk 0)]) (.c t20 (.q (.R [Wm 21 t6,Ws 36 t2 t21]) .r) .s))))))) (.q (.R [Ws 36 t2 (Wk 0)]) .r)))):=by kernel_rfl
theorem w84:Tryz.f84.body.map (Qq C)=some (.q (.R [.n 2 (.box 70 t0),Wv 3 70]) (.q (.R [Wl 4 70 t2,Wl 5 70 t1,Wc 6 72 #[t4,t5] #[70,70],Ws 70 t3 t6]) .r)):=by kernel_rfl
theorem w92:Tryz.f92.body.map (Qq C)=some (.q (.R [Wa 3 (.const (.slice none 0 0))]) (.q (.R [Wl 7 23 t1,Wn 8 t7 23,.n 9 (.makeSlice 23 t8 t8),Wa 4 t9]) (.q (.q (.R [Wl 10 23 t1,Wn 11 t10 23,Wm 12 (Wk 0)]) (.b 0 (.l (.q (.R [Wb 13 .lss 3 t12 t11]) (.q (.c t13 .s (.x 0)) (.q (.b 1 (.q (.R [Wm 14 t12,Wi 15 23 t10 t12,Wl 16 3 t15,Wa 5 t14,Wa 6 t16]) (.R [Wm 17 t4,Wm 18 t6,Wm 19 t0,Wm 20 t5,Wi 21 23 t19 t20,Wl 22 3 t21,Wi 23 23 t17 t18,Ws 3 t23 t22]))) (.R [Wb 24 .add 3 t12 (Wk 1),Wm 12 t24]))))))) (.q (.R [Wm 25 t4,Wa 3 t25]) .r)))):=by kernel_rfl
theorem w100:Tryz.f100.body.map (Qq C)=some (.q (.R [Wv 4 70,Wa 5 (Wk 0)]) (.q (.R [Wm 6 t0,Wb 7 .lss 2 t6 (Wk 0),Wm 8 t1,Wb 9 .lss 2 t8 (Wk 0),Wb 10 .neq 4 t7 t9,Wm 11 t0,Wc 12 127 #[t11] #[2],Wm 13 t1,Wc 14 127 #[t13] #[2],Wc 15 129 #[t10,t12,t14] #[4,68,68],We 16 t15 0,We 17 t15 1,Ws 70 t4 t16,Wa 5 t17]) .r)):=by kernel_rfl
theorem w108:Tryz.f108.body.map (Qq C)=some (.q (.R [Wa 2 (.const (.slice none 0 0))]) (.q (.R [Wa 3 (.const (.slice none 0 0))]) (.q (.b 0 (.l (.q (.q (.R [Wm 4 t0,Wb 5 .gtr 3 t4 (Wk 0)]) (.c t5 .s (.x 0))) (.b 1 (.q (.R [Wm 6 t3,Wm 7 t0,Wb 8 .rem 3 t7 (Wk 10000),.n 9 (.buildSlice 54 1 #[(0,t8)]),.n 10 (.call ⟨.builtin .append,#[t6,t9],#[54,54]⟩),Wa 3 t10]) (.R [Wm 11 t0,Wb 12 .quo 3 t11 (Wk 10000),Wa 0 t12])))))) (.q (.R [Wm 13 t3,Wa 2 t13]) .r)))):=by kernel_rfl
theorem w116:Tryz.f116.body.map (Qq C)=some (.q (.R [.n 1 (.box 23 t0),Wa 2 (.const .nilFunc)]) (.q (.R [.n 3 (.makeFunc (.func 147) #[] #[t1]),Wa 2 t3]) .r)):=by kernel_rfl
theorem w124:Tryz.f124.body.map (Qq C)=some (.q (.R [.n 1 (.box 152 t0),Wa 2 (.const .nilFunc)]) (.q (.R [.n 3 (.makeFunc (.func 153) #[] #[t1]),Wa 2 t3]) .r)):=by kernel_rfl
theorem w132:Tryz.f132.body.map (Qq C)=some (.q (.R [Wa 4 (.const (.slice none 0 0)),Wa 5 (.const (.slice none 0 0))]) (.q (.R [Wm 12 t0,Wn 13 t12 54,.n 14 (.makeSlice 54 t13 t13),Wa 6 t14]) (.q (.R [Wa 7 (.const (.slice none 0 0))]) (.q (.q (.R [Wm 15 t0,Wn 16 t15 54,Wb 17 .sub 3 t16 (Wk 1),Wa 8 t17]) (.b 0 (.l (.q (.q (.R [Wm 18 t8,Wb 19 .geq 3 t18 (Wk 0)]) (.c t19 .s (.x 0))) (.q (.b 1 (.q (.R [Wm 22 t0,Wm 23 t8,Wi 24 54 t22 t23,Wl 25 3 t24,.n 26 (.buildSlice 54 1 #[(0,t25)]),Wm 27 t7,.n 28 (.call ⟨.builtin .append,#[t26,t27],#[54,54]⟩),Wc 29 162 #[t28] #[54],Wa 7 t29]) (.q (.R [Wm 30 t7,Wm 31 t1,Wc 32 163 #[t30,t31] #[54,54],Wa 9 t32]) (.q (.R [Wm 33 t6,Wm 34 t8,Wm 35 t9,Wi 36 54 t33 t34,Ws 3 t36 t35]) (.q (.R [Wm 38 t7,Wm 39 t1,Wm 40 t9,Wc 41 165 #[t39,t40] #[54,3],Wc 42 164 #[t38,t41] #[54,54],Wm 37 t42,We 43 t37 0,We 44 t37 1,Wa 10 t43,Wa 11 t44]) (.R [Wm 45 t10,Wa 7 t45])))))) (.R [Wm 20 t8,Wb 21 .sub 3 t20 (Wk 1),Wa 8 t21])))))) (.q (.R [Wm 46 t6,Wc 47 162 #[t46] #[54],Wm 48 t7,Wa 4 t47,Wa 5 t48]) .r))))):=by kernel_rfl
theorem w140:Tryz.f140.body.map (Qq C)=some (.q (.R [.n 2 (.box 152 t0),.n 3 (.box 106 t1),Wv 4 152]) (.q (.R [Wf 8 152 t2 0,Wl 9 31 t8,Wc 10 53 #[t9] #[31],.n 11 (.build 152 #[(0,t10)]),Wv 5 152,Ws 152 t5 t11]) (.q (.q (.R [Wl 12 152 t2,Wc 13 124 #[t12] #[152]]) (.b 0 (.f t13 #[14,15] (.R [Wv 7 70,Ws 70 t7 t15]) (.b 1 (.U [Wf 16 152 t5 1,Wl 17 32 t16,Wl 18 106 t3,Wl 19 70 t7,.n 20 (.call ⟨.value t18,#[t19],#[70]⟩),.n 21 (.buildSlice 32 1 #[(0,t20)]),.n 22 (.call ⟨.builtin .append,#[t17,t21],#[32,32]⟩),Wf 23 152 t5 1,Ws 32 t23 t22]))))) (.q (.R [Wl 24 152 t5,Ws 152 t4 t24]) .r)))):=by kernel_rfl
theorem w148:Tryz.f148.body.map (Qq C)=some (.q (.R [Wl 5 32 t1,Wn 6 t5 32,Wl 7 32 t2,Wn 8 t7 32,.n 9 (.call ⟨.builtin .min,#[t6,t8],#[3,3]⟩),Wm 10 (Wk 0)]) (.b 0 (.l (.q (.R [Wb 11 .lss 3 t10 t9]) (.q (.c t11 .s (.x 0)) (.q (.b 1 (.q (.R [Wm 12 t10,Wa 4 t12]) (.q (.U [Wm 13 t0,Wl 14 32 t1,Wm 15 t4,Wi 16 32 t14 t15,Wl 17 70 t16,Wl 18 32 t2,Wm 19 t4,Wi 20 32 t18 t19,Wl 21 70 t20,.n 22 (.call ⟨.value t13,#[t17,t21],#[70,70]⟩),.n 23 (.unOp .not 4 t22)]) (.c t23 .r .s)))) (.R [Wb 24 .add 3 t10 (Wk 1),Wm 10 t24]))))))):=by kernel_rfl
theorem w156:Tryz.f156.body.map (Qq C)=some (.q (.R [Wa 2 (.const (.slice none 0 0))]) (.q (.R [Wm 3 t0,Wm 4 t0,Wc 5 189 #[t4] #[68],.n 6 (.slice 68 t3 none (some t5) none),Wc 7 188 #[t6] #[68],Wa 2 t7]) .r)):=by kernel_rfl
theorem w164:Tryz.f164.body.map (Qq C)=some (.q (.R [Wa 4 (.const (.slice none 0 0)),Wa 5 Wo]) (.q (.q (.R [Wm 10 t0,Wm 11 t1,Wc 12 192 #[t10,t11] #[54,54],Wb 13 .lss 3 t12 (Wk 0)]) (.c t13 (.q (.R [Wa 4 (.const (.slice none 0 0)),Wa 5 Wo]) .r) .s)) (.q (.R [Wa 6 (.const (.slice none 0 0))]) (.q (.R [Wa 7 (Wk 0)]) (.q (.q (.R [Wa 8 (Wk 0)]) (.b 0 (.l (.q (.q (.R [Wm 14 t8,Wm 15 t0,Wn 16 t15 54,Wb 17 .lss 3 t14 t16]) (.c t17 .s (.x 0))) (.q (.b 1 (.q (.D true [Wm 20 t0,Wm 21 t8,Wi 22 54 t20 t21,Wl 23 3 t22,Wm 24 t1,Wm 25 t8,Wc 26 143 #[t24,t25] #[54,3],Wb 27 .sub 3 t23 t26,Wm 28 t7,Wb 29 .sub 3 t27 t28,Wa 9 t29]) (.q (.R [Wa 7 (Wk 0)]) (.q (.q (.R [Wm 30 t9,Wb 31 .lss 3 t30 (Wk 0)]) (.c t31 (.q (.R [Wm 32 t9,Wb 33 .add 3 t32 (Wk 10000),Wa 9 t33]) (.R [Wa 7 (Wk 1)])) .s)) (.R [Wm 34 t6,Wm 35 t9,.n 36 (.buildSlice 54 1 #[(0,t35)]),.n 37 (.call ⟨.builtin .append,#[t34,t36],#[54,54]⟩),Wa 6 t37]))))) (.R [Wm 18 t8,Wb 19 .add 3 t18 (Wk 1),Wa 8 t19])))))) (.q (.R [Wm 38 t6,Wc 39 161 #[t38] #[54],Wa 4 t39,Wa 5 Wt]) .r)))))):=by kernel_rfl
theorem w172:Tryz.f172.body.map (Qq C)=some (.q (.R [.n 1 (.box 3 t0),Wa 2 (.const .nilFunc)]) (.q (.R [.n 3 (.makeFunc (.func 198) #[] #[t1]),Wa 2 t3]) .r)):=by kernel_rfl
theorem w180:Tryz.f180.body.map (Qq C)=some (.q (.R [Wa 4 (Wk 0)]) (.q (.q (.R [Wm 6 t0,Wn 7 t6 23,Wm 8 (Wk 0)]) (.b 0 (.l (.q (.R [Wb 9 .lss 3 t8 t7]) (.q (.c t9 .s (.x 0)) (.q (.b 1 (.q (.R [Wm 10 t8,Wa 5 t10]) (.q (.R [Wm 11 t1,Wm 12 t0,Wm 13 t5,Wi 14 23 t12 t13,Wl 15 3 t14,Wb 16 .eql 3 t11 t15]) (.c t16 (.q (.R [Wm 17 t5,Wa 4 t17]) .r) .s)))) (.R [Wb 18 .add 3 t8 (Wk 1),Wm 8 t18]))))))) (.q (.R [Wa 4 (.const (.int .i64 (-1)))]) .r))):=by kernel_rfl
theorem w188:Tryz.f188.body.map (Qq C)=some (.q (.R [Wa 2 (.const (.slice none 0 0))]) (.q (.q (.R [Wm 3 t0,Wb 4 .eql 68 t3 (.const (.slice none 0 0))]) (.c t4 (.q (.R [Wa 2 (.const (.slice none 0 0))]) .r) .s)) (.q (.R [.n 5 (.buildSlice 68 0 #[]),Wm 6 t0,.n 7 (.call ⟨.builtin .append,#[t5,t6],#[68,68]⟩),Wa 2 t7]) .r))):=by kernel_rfl
theorem w204:Tryz.f204.body.map (Qq C)=some (.q (.R [Wa 2 (Wk 0)]) (.q (.R [Wm 3 t0,Wc 4 190 #[t3] #[162],Wb 5 .sub 3 (Wk 32) t4,Wa 2 t5]) .r)):=by kernel_rfl
theorem w219:Tryz.f219.body.map (Qq C)=some (.q (.R [Wa 2 (Wk 0)]) (.q (.q (.R [Wm 3 t0,Wb 4 .geq 189 t3 (.const (.int .u64 4294967296))]) (.c t4 (.q (.R [Wm 5 t0,.n 6 (.binOp .shr 189 t5 (.const (.int .u64 32)) 191),Wa 0 t6]) (.R [Wa 2 (Wk 32)])) .s)) (.q (.q (.R [Wm 7 t0,Wb 8 .geq 189 t7 (.const (.int .u64 65536))]) (.c t8 (.q (.R [Wm 9 t0,.n 10 (.binOp .shr 189 t9 (.const (.int .u64 16)) 191),Wa 0 t10]) (.R [Wm 11 t2,Wb 12 .add 3 t11 (Wk 16),Wa 2 t12])) .s)) (.q (.q (.R [Wm 13 t0,Wb 14 .geq 189 t13 (.const (.int .u64 256))]) (.c t14 (.q (.R [Wm 15 t0,.n 16 (.binOp .shr 189 t15 (.const (.int .u64 8)) 191),Wa 0 t16]) (.R [Wm 17 t2,Wb 18 .add 3 t17 (Wk 8),Wa 2 t18])) .s)) (.q (.R [Wm 19 t2,Wm 20 t0,.n 21 (.convert 189 5 t20),.n 22 (.index 9 (.const (.string { data:=(([0,1,2,2,3,3,3,3,4,4,4,4,4,4,4,4,5,5,5,5,5,5,5,5,5,5,5,5,5,5,5,5,6,6,6,6,6,6,6,6,6,6,6,6,6,6,6,6,6,6,6,6,6,6,6,6,6,6,6,6,6,6,6,6].append [7,7,7,7,7,7,7,7,7,7,7,7,7,7,7,7,7,7,7,7,7,7,7,7,7,7,7,7,7,7,7,7,7,7,7,7,7,7,7,7,7,7,7,7,7,7,7,7,7,7,7,7,7,7,7,7,7,7,7,7,7,7,7,7]).append ([8,8,8,8,8,8,8,8,8,8,8,8,8,8,8,8,8,8,8,8,8,8,8,8,8,8,8,8,8,8,8,8,8,8,8,8,8,8,8,8,8,8,8,8,8,8,8,8,8,8,8,8,8,8,8,8,8,8,8,8,8,8,8,8].append [8,8,8,8,8,8,8,8,8,8,8,8,8,8,8,8,8,8,8,8,8,8,8,8,8,8,8,8,8,8,8,8,8,8,8,8,8,8,8,8,8,8,8,8,8,8,8,8,8,8,8,8,8,8,8,8,8,8,8,8,8,8,8,8])).toArray })) t21),.n 23 (.convert 5 3 t22),Wb 24 .add 3 t19 t23,Wa 2 t24]) .r))))):=by kernel_rfl
theorem w5:Tryz.f5.body.map (Qq C)=some (.q (.R [Wa 0 Wo]) (.q (.R [Wc 16 16 #[Wk 10,Wk 2,.const (.slice none 0 0)] #[22,3,23],.n 17 (.buildSlice 31 2 #[(0,Wk 2),(1,Wk 3)]),.n 18 (.buildSlice 31 2 #[(0,Wk 3),(1,Wk 4)]),.n 19 (.buildSlice 26 2 #[(0,t17),(1,t18)]),Wc 20 9 #[Wk 3,t16,t19] #[3,25,26],Wm 15 t20,We 21 t15 0,We 22 t15 1,Wa 1 t21,Wa 2 t22]) (.q (.R [Wc 24 16 #[Wk 10,Wk 2,.const (.slice none 0 0)] #[22,3,23],.n 25 (.buildSlice 31 2 #[(0,Wk 2),(1,Wk 3)]),.n 26 (.buildSlice 31 2 #[(0,Wk 2),(1,Wk 3)]),.n 27 (.buildSlice 26 2 #[(0,t25),(1,t26)]),Wc 28 9 #[Wk 3,t24,t27] #[3,25,26],Wm 23 t28,We 29 t23 0,We 30 t23 1,Wa 3 t29,Wa 4 t30]) (.q (.R [Wc 32 16 #[Wk 19,Wk 3,.const (.slice none 0 0)] #[22,3,23],.n 33 (.buildSlice 31 2 #[(0,Wk 2),(1,Wk 3)]),.n 34 (.buildSlice 31 2 #[(0,Wk 3),(1,Wk 4)]),.n 35 (.buildSlice 31 1 #[(0,Wk 4)]),.n 36 (.buildSlice 26 3 #[(0,t33),(1,t34),(2,t35)]),Wc 37 9 #[Wk 2,t32,t36] #[3,25,26],Wm 31 t37,We 38 t31 0,We 39 t31 1,Wa 5 t38,Wa 6 t39]) (.q (.R [Wc 41 16 #[Wk 19,Wk 3,.const (.slice none 0 0)] #[22,3,23],.n 42 (.buildSlice 31 2 #[(0,Wk 2),(1,Wk 3)]),.n 43 (.buildSlice 31 2 #[(0,Wk 3),(1,Wk 4)]),.n 44 (.buildSlice 31 1 #[(0,Wk 3)]),.n 45 (.buildSlice 26 3 #[(0,t42),(1,t43),(2,t44)]),Wc 46 9 #[Wk 2,t41,t45] #[3,25,26],Wm 40 t46,We 47 t40 0,We 48 t40 1,Wa 7 t47,Wa 8 t48]) (.q (.R [.n 50 (.buildSlice 23 1 #[(0,Wk 1)]),Wc 51 16 #[Wk 14,Wk 1,t50] #[22,3,23],.n 52 (.buildSlice 31 3 #[(0,Wk 2),(1,Wk 3),(2,Wk 4)]),.n 53 (.buildSlice 26 1 #[(0,t52)]),Wc 54 9 #[Wk 3,t51,t53] #[3,25,26],Wm 49 t54,We 55 t49 0,We 56 t49 1,Wa 9 t55,Wa 10 t56]) (.q (.R [.n 58 (.buildSlice 23 4 #[(0,Wk 1),(1,Wk 0),(2,Wk 0),(3,Wk 2)]),Wc 59 16 #[Wk 16,Wk 1,t58] #[22,3,23],.n 60 (.buildSlice 31 2 #[(0,Wk 2),(1,Wk 2)]),.n 61 (.buildSlice 26 1 #[(0,t60)]),Wc 62 9 #[Wk 3,t59,t61] #[3,25,26],Wm 57 t62,We 63 t57 0,We 64 t57 1,Wa 11 t63,Wa 12 t64]) (.q (.R [.n 66 (.buildSlice 23 1 #[(0,Wk 0)]),Wc 67 16 #[Wk 17,Wk 2,t66] #[22,3,23],.n 68 (.buildSlice 31 2 #[(0,Wk 2),(1,Wk 3)]),.n 69 (.buildSlice 31 2 #[(0,Wk 5),(1,Wk 3)]),.n 70 (.buildSlice 26 2 #[(0,t68),(1,t69)]),Wc 71 9 #[Wk 3,t67,t70] #[3,25,26],Wm 65 t71,We 72 t65 0,We 73 t65 1,Wa 13 t72,Wa 14 t73]) (.q (.R [Wm 74 t2,Wb 75 .eql 36 t74 (Wk 0),Wm 76 t75,.g (some 77) (.move t1) 76 true,.g (some 78) (.buildSlice 23 2 #[(0,Wk 2),(1,Wk 4)]) 76 true,.g (some 79) (.call ⟨.value (.func 11),#[t77,t78],#[23,23]⟩) 76 true,.n 80 (.pick t76 t79 Wo),Wm 81 t80,.g (some 82) (.move t4) 81 true,.g (some 83) (.binOp .eql 36 t82 (Wk 13) 36) 81 true,.n 84 (.pick t81 t83 Wo),Wm 85 t84,.g (some 86) (.move t6) 85 true,.g (some 87) (.binOp .eql 36 t86 (Wk 0) 36) 85 true,.n 88 (.pick t85 t87 Wo),Wm 89 t88,.g (some 90) (.move t5) 89 true,.g (some 91) (.buildSlice 23 2 #[(0,Wk 2),(1,Wk 4)]) 89 true,.g (some 92) (.call ⟨.value (.func 11),#[t90,t91],#[23,23]⟩) 89 true,.n 93 (.pick t89 t92 Wo),Wm 94 t93,.g (some 95) (.move t8) 94 true,.g (some 96) (.binOp .eql 36 t95 (Wk 13) 36) 94 true,.n 97 (.pick t94 t96 Wo),Wm 98 t97,.g (some 99) (.move t10) 98 true,.g (some 100) (.binOp .eql 36 t99 (Wk 0) 36) 98 true,.n 101 (.pick t98 t100 Wo),Wm 102 t101,.g (some 103) (.move t9) 102 true,.g (some 104) (.buildSlice 23 2 #[(0,Wk 2),(1,Wk 4)]) 102 true,.g (some 105) (.call ⟨.value (.func 11),#[t103,t104],#[23,23]⟩) 102 true,.n 106 (.pick t102 t105 Wo),Wm 107 t106,.g (some 108) (.move t12) 107 true,.g (some 109) (.binOp .eql 36 t108 (Wk 0) 36) 107 true,.n 110 (.pick t107 t109 Wo),Wm 111 t110,.g (some 112) (.move t11) 111 true,.g (some 113) (.buildSlice 23 2 #[(0,Wk 3),(1,Wk 4)]) 111 true,.g (some 114) (.call ⟨.value (.func 11),#[t112,t113],#[23,23]⟩) 111 true,.n 115 (.pick t111 t114 Wo),Wm 116 t115,.g (some 117) (.move t14) 116 true,.g (some 118) (.binOp .eql 36 t117 (Wk 0) 36) 116 true,.n 119 (.pick t116 t118 Wo),Wm 120 t119,.g (some 121) (.move t13) 120 true,.g (some 122) (.buildSlice 23 2 #[(0,Wk 7),(1,Wk 3)]) 120 true,.g (some 123) (.call ⟨.value (.func 11),#[t121,t122],#[23,23]⟩) 120 true,.n 124 (.pick t120 t123 Wo),Wa 0 t124]) .r))))))))):=by kernel_rfl
theorem w13:Tryz.f13.body.map (Qq C)=some (.q (.R [Wa 2 (Wk 0),Wa 3 (Wk 0)]) (.q (.q (.R [Wm 4 t0]) (.b 0 (.q (.q (.R [Wb 6 .eql 22 t4 (Wk 1),Wa 5 t6]) (.c t5 .s (.q (.R [Wb 7 .eql 22 t4 (Wk 2),Wa 5 t7]) (.c t5 .s (.q (.R [Wb 8 .eql 22 t4 (Wk 3),Wa 5 t8]) (.c t5 .s (.q (.R [Wb 9 .eql 22 t4 (Wk 4),Wa 5 t9]) (.c t5 .s (.R [Wb 10 .eql 22 t4 (Wk 10),Wa 5 t10]))))))))) (.c t5 (.q (.R [Wa 2 (Wk 2),Wa 3 (Wk 2)]) .r) (.q (.R [Wb 12 .eql 22 t4 (Wk 19),Wa 11 t12]) (.c t11 (.q (.R [Wa 2 (Wk 3),Wa 3 (Wk 3)]) .r) (.q (.R [Wb 14 .eql 22 t4 (Wk 17),Wa 13 t14]) (.c t13 (.q (.R [Wa 2 (Wk 1),Wa 3 (Wk 8)]) .r) .s)))))))) (.q (.q (.R [Wm 15 t0,Wb 16 .lss 22 t15 (Wk 1),Wm 17 t16,.g (some 18) (.move t0) 17 false,.g (some 19) (.binOp .gtr 22 t18 (Wk 20) 22) 17 false,.n 20 (.pick t17 Wt t19)]) (.c t20 (.q (.R [Wa 2 (Wk 0),Wa 3 (Wk 0)]) .r) .s)) (.q (.R [Wa 2 (Wk 1),Wa 3 (Wk 1)]) .r)))):=by kernel_rfl
theorem w21:Tryz.f21.body.map (Qq C)=some (.q (.R [Wa 2 (Wk 0)]) (.q (.q (.R [Wm 5 t0,Wn 6 t5 31,Wb 7 .gtr 3 t6 (Wk 4)]) (.c t7 (.q (.R [Wa 2 (Wk 14)]) .r) .s)) (.q (.q (.R [Wm 8 t0,Wn 9 t8 31,Wm 10 (Wk 0)]) (.b 0 (.l (.q (.R [Wb 11 .lss 3 t10 t9]) (.q (.c t11 .s (.x 0)) (.q (.b 1 (.q (.R [Wi 12 31 t8 t10,Wl 13 3 t12,Wa 4 t13]) (.q (.R [Wm 14 t4,Wb 15 .lss 3 t14 (Wk 1)]) (.c t15 (.q (.R [Wa 2 (Wk 13)]) .r) .s)))) (.R [Wb 16 .add 3 t10 (Wk 1),Wm 10 t16]))))))) (.q (.q (.R [Wm 17 t0,Wc 18 52 #[t17] #[23],Wb 19 .gtr 3 t18 (Wk 1024)]) (.c t19 (.q (.R [Wa 2 (Wk 14)]) .r) .s)) (.q (.R [Wa 2 (Wk 0)]) .r))))):=by kernel_rfl
theorem w29:Tryz.f29.body.map (Qq C)=some (.q (.R [.n 1 (.box 34 t0),Wv 2 34,Wa 3 (Wk 0)]) (.q (.R [Wl 4 34 t1,Wc 5 74 #[t4,.func 75] #[34,106],We 6 t5 0,We 7 t5 1,Ws 34 t2 t6,Wa 3 t7]) .r)):=by kernel_rfl
theorem w37:Tryz.f37.body.map (Qq C)=some (.q (.R [.n 3 (.box 34 t0),.n 4 (.box 34 t1),.n 5 (.box 34 t2),Wv 6 34,Wa 7 (Wk 0)]) (.q (.q (.R [Wl 18 34 t3,Wl 19 34 t4,Wl 20 34 t5,.n 21 (.buildSlice 29 3 #[(0,t18),(1,t19),(2,t20)]),Wn 22 t21 29,Wm 23 (Wk 0)]) (.b 0 (.l (.q (.R [Wb 24 .lss 3 t23 t22]) (.q (.c t24 .s (.x 0)) (.q (.b 1 (.q (.R [Wi 25 29 t21 t23,Wl 26 34 t25,Wv 9 34,Ws 34 t9 t26]) (.q (.R [Wl 27 34 t9,Wc 28 76 #[t27] #[34],Wa 10 t28]) (.q (.R [Wm 29 t10,Wb 30 .neq 36 t29 (Wk 0)]) (.c t30 (.q (.R [.n 31 (.build 34 #[]),Wm 32 t10,Ws 34 t6 t31,Wa 7 t32]) .r) .s))))) (.R [Wb 33 .add 3 t23 (Wk 1),Wm 23 t33]))))))) (.q (.R [Wl 35 34 t3,Wl 36 34 t4,Wc 37 36 #[t35,t36] #[34,34],Wm 34 t37,We 38 t34 0,We 39 t34 1,Wv 11 34,Ws 34 t11 t38,Wa 12 t39]) (.q (.q (.R [Wm 40 t12,Wb 41 .neq 36 t40 (Wk 0)]) (.c t41 (.q (.R [.n 42 (.build 34 #[]),Wm 43 t12,Ws 34 t6 t42,Wa 7 t43]) .r) .s)) (.q (.q (.R [Wf 44 34 t5 0,Wl 45 31 t44,Wf 46 34 t11 0,Wl 47 31 t46,Wc 48 58 #[t45,t47] #[31,31],Wa 13 t48]) (.q (.R [Wm 49 t13,Wb 50 .neq 36 t49 (Wk 0)]) (.c t50 (.q (.R [.n 51 (.build 34 #[]),Wm 52 t13,Ws 34 t6 t51,Wa 7 t52]) .r) .s))) (.q (.q (.R [Wf 53 34 t11 1,Wl 54 32 t53,Wn 55 t54 32,Wm 56 (Wk 0)]) (.b 2 (.l (.q (.R [Wb 57 .lss 3 t56 t55]) (.q (.c t57 .s (.x 2)) (.q (.b 3 (.q (.R [Wm 58 t56,Wi 59 32 t54 t56,Wl 60 70 t59,Wv 15 70,Wa 14 t58,Ws 70 t15 t60]) (.q (.R [Wf 62 34 t11 0,Wl 63 31 t62,Wm 64 t14,Wc 65 88 #[t63,t64] #[31,3],Wm 61 t65,We 66 t61 0,We 67 t61 1,Wa 16 t66,Wa 17 t67]) (.D true [Wf 68 34 t11 1,Wl 69 32 t68,Wm 70 t14,Wl 71 70 t15,Wl 72 34 t5,Wm 73 t16,Wc 74 89 #[t72,t73] #[34,23],Wc 75 70 #[t71,t74] #[70,70],Wi 76 32 t69 t70,Ws 70 t76 t75])))) (.R [Wb 77 .add 3 t56 (Wk 1),Wm 56 t77]))))))) (.q (.R [Wl 78 34 t11,Ws 34 t6 t78,Wa 7 (Wk 0)]) .r))))))):=by kernel_rfl
theorem w45:Tryz.f45.body.map (Qq C)=some (.q (.R [.n 2 (.box 3 t0),.n 3 (.box 29 t1),Wv 4 34,Wa 5 (Wk 0)]) (.q (.q (.R [Wl 16 29 t3,Wn 17 t16 29,Wb 18 .eql 3 t17 (Wk 0)]) (.c t18 (.q (.R [.n 19 (.build 34 #[]),Ws 34 t4 t19,Wa 5 (Wk 2)]) .r) .s)) (.q (.q (.R [Wl 20 29 t3,Wn 21 t20 29,Wm 22 (Wk 0)]) (.b 0 (.l (.q (.R [Wb 23 .lss 3 t22 t21]) (.q (.c t23 .s (.x 0)) (.q (.b 1 (.q (.R [Wi 24 29 t20 t22,Wl 25 34 t24,Wv 7 34,Ws 34 t7 t25]) (.q (.R [Wl 26 34 t7,Wc 27 76 #[t26] #[34],Wa 8 t27]) (.q (.R [Wm 28 t8,Wb 29 .neq 36 t28 (Wk 0)]) (.c t29 (.q (.R [.n 30 (.build 34 #[]),Wm 31 t8,Ws 34 t4 t30,Wa 5 t31]) .r) .s))))) (.R [Wb 32 .add 3 t22 (Wk 1),Wm 22 t32]))))))) (.q (.R [Wl 33 29 t3,Wi 34 29 t33 (Wk 0),Wf 35 34 t34 0,Wl 36 31 t35,Wc 37 53 #[t36] #[31],Wa 9 t37]) (.q (.q (.R [Wl 38 3 t2,Wb 39 .lss 3 t38 (Wk 0),Wm 40 t39,.g (some 41) (.load 3 t2) 40 false,.g (some 42) (.move t9) 40 false,.g (some 43) (.call ⟨.builtin .len,#[t42],#[31]⟩) 40 false,.g (some 44) (.binOp .geq 3 t41 t43 3) 40 false,.n 45 (.pick t40 Wt t44)]) (.c t45 (.q (.R [.n 46 (.build 34 #[]),Ws 34 t4 t46,Wa 5 (Wk 11)]) .r) .s)) (.q (.R [Wm 47 t9,Wl 48 3 t2,Wi 49 31 t47 t48,Ws 3 t49 (Wk 0)]) (.q (.q (.R [Wl 50 29 t3,Wn 51 t50 29,Wm 52 (Wk 0)]) (.b 2 (.l (.q (.R [Wb 53 .lss 3 t52 t51]) (.q (.c t53 .s (.x 2)) (.q (.b 3 (.q (.R [Wi 54 29 t50 t52,Wl 55 34 t54,Wv 11 34,Ws 34 t11 t55]) (.q (.q (.R [Wf 56 34 t11 0,Wl 57 31 t56,Wn 58 t57 31,Wm 59 t9,Wn 60 t59 31,Wb 61 .neq 3 t58 t60]) (.c t61 (.q (.R [.n 62 (.build 34 #[]),Ws 34 t4 t62,Wa 5 (Wk 13)]) .r) .s)) (.q (.R [Wf 63 34 t11 0,Wl 64 31 t63,Wn 65 t64 31,Wm 66 (Wk 0)]) (.b 4 (.l (.q (.R [Wb 67 .lss 3 t66 t65]) (.q (.c t67 .s (.x 4)) (.q (.b 5 (.q (.R [Wm 68 t66,Wi 69 31 t64 t66,Wl 70 3 t69,Wa 12 t68,Wa 13 t70]) (.q (.R [Wm 71 t12,Wl 72 3 t2,Wb 73 .neq 3 t71 t72,Wm 74 t73,.g (some 75) (.move t13) 74 true,.g (some 76) (.move t9) 74 true,.g (some 77) (.move t12) 74 true,.g (some 78) (.indexAddr 31 t76 t77) 74 true,.g (some 79) (.load 3 t78) 74 true,.g (some 80) (.binOp .neq 3 t75 t79 3) 74 true,.n 81 (.pick t74 t80 Wo)]) (.c t81 (.q (.R [.n 82 (.build 34 #[]),Ws 34 t4 t82,Wa 5 (Wk 13)]) .r) .s)))) (.R [Wb 83 .add 3 t66 (Wk 1),Wm 66 t83])))))))))) (.R [Wb 84 .add 3 t52 (Wk 1),Wm 52 t84]))))))) (.q (.q (.R [Wl 85 29 t3,Wn 86 t85 29,Wm 87 (Wk 0)]) (.b 6 (.l (.q (.R [Wb 88 .lss 3 t87 t86]) (.q (.c t88 .s (.x 6)) (.q (.b 7 (.q (.R [Wi 89 29 t85 t87,Wl 90 34 t89,Wv 15 34,Ws 34 t15 t90]) (.q (.D true [Wm 91 t9,Wl 92 3 t2,Wi 93 31 t91 t92,Wl 94 3 t93,Wf 95 34 t15 0,Wl 96 31 t95,Wl 97 3 t2,Wi 98 31 t96 t97,Wl 99 3 t98,Wb 100 .add 3 t94 t99,Wi 101 31 t91 t92,Ws 3 t101 t100]) (.q (.R [Wm 102 t9,Wc 103 21 #[t102] #[31],Wb 104 .neq 36 t103 (Wk 0)]) (.c t104 (.q (.R [.n 105 (.build 34 #[]),Ws 34 t4 t105,Wa 5 (Wk 14)]) .r) .s))))) (.R [Wb 106 .add 3 t87 (Wk 1),Wm 87 t106]))))))) (.q (.R [Wm 107 t9,Wm 108 t9,.n 109 (.build 70 #[]),.n 110 (.makeFunc (.func 106) #[] #[t3,t2]),Wc 111 105 #[t108,t109,t110] #[31,70,133],Wc 112 94 #[t107,t111] #[31,32],We 113 t112 0,We 114 t112 1,Ws 34 t4 t113,Wa 5 t114]) .r))))))))):=by kernel_rfl
theorem w53:Tryz.f53.body.map (Qq C)=some (.q (.R [Wa 2 (.const (.slice none 0 0))]) (.q (.q (.R [Wm 3 t0,Wb 4 .eql 31 t3 (.const (.slice none 0 0))]) (.c t4 (.q (.R [Wa 2 (.const (.slice none 0 0))]) .r) .s)) (.q (.R [.n 5 (.buildSlice 31 0 #[]),Wm 6 t0,.n 7 (.call ⟨.builtin .append,#[t5,t6],#[31,31]⟩),Wa 2 t7]) .r))):=by kernel_rfl
theorem w61:Tryz.f61.body.map (Qq C)=some (.q (.R [Wa 4 (Wk 0)]) (.q (.R [Wa 5 (.const (.int .i64 (-1)))]) (.q (.q (.R [Wm 8 t0,Wn 9 t8 23,Wm 10 (Wk 0)]) (.b 0 (.l (.q (.R [Wb 11 .lss 3 t10 t9]) (.q (.c t11 .s (.x 0)) (.q (.b 1 (.q (.R [Wi 12 23 t8 t10,Wl 13 3 t12,Wa 7 t13]) (.q (.q (.R [Wm 14 t7,Wm 15 t5,Wb 16 .leq 3 t14 t15,Wm 17 t16,.g (some 18) (.move t7) 17 false,.g (some 19) (.move t1) 17 false,.g (some 20) (.binOp .geq 3 t18 t19 3) 17 false,.n 21 (.pick t17 Wt t20)]) (.c t21 (.q (.R [Wa 4 (Wk 11)]) .r) .s)) (.R [Wm 22 t7,Wa 5 t22])))) (.R [Wb 23 .add 3 t10 (Wk 1),Wm 10 t23]))))))) (.q (.R [Wa 4 (Wk 0)]) .r)))):=by kernel_rfl
theorem w69:Tryz.f69.body.map (Qq C)=some (.q (.R [.n 1 (.box 104 t0),Wa 2 (.const .nilFunc)]) (.q (.R [.n 3 (.makeFunc (.func 118) #[] #[t1]),Wa 2 t3]) .r)):=by kernel_rfl
theorem w77:Tryz.f77.body.map (Qq C)=some (.q (.R [.n 2 (.box 70 t0),Wv 3 70]) (.q (.R [Wl 4 70 t2,Wl 5 3 t1,Wc 6 78 #[t4,t5] #[70,3],Ws 70 t3 t6]) .r)):=by kernel_rfl
theorem w85:Tryz.f85.body.map (Qq C)=some (.q (.R [Wa 2 (.const (.slice none 0 0))]) (.q (.R [Wa 3 (.const (.slice none 0 0))]) (.q (.b 0 (.l (.q (.q (.R [Wm 8 t0,Wn 9 t8 54,Wb 10 .gtr 3 t9 (Wk 0)]) (.c t10 .s (.x 0))) (.b 1 (.q (.R [Wm 12 t0,Wc 13 130 #[t12,Wk 65536] #[54,3],Wm 11 t13,We 14 t11 0,We 15 t11 1,Wa 4 t14,Wa 5 t15]) (.q (.R [Wm 17 t4,Wc 18 130 #[t17,Wk 65536] #[54,3],Wm 16 t18,We 19 t16 0,We 20 t16 1,Wa 6 t19,Wa 7 t20]) (.q (.R [Wm 21 t3,Wm 22 t7,.n 23 (.convert 3 162 t22),Wb 24 .mul 162 t23 (.const (.int .u32 65536)),Wm 25 t5,.n 26 (.convert 3 162 t25),Wb 27 .add 162 t24 t26,.n 28 (.buildSlice 68 1 #[(0,t27)]),.n 29 (.call ⟨.builtin .append,#[t21,t28],#[68,68]⟩),Wa 3 t29]) (.R [Wm 30 t6,Wa 0 t30])))))))) (.q (.R [Wm 31 t3,Wa 2 t31]) .r)))):=by kernel_rfl
theorem w93:Tryz.f93.body.map (Qq C)=some (.q (.R [.n 2 (.box 34 t0),Wa 4 (Wk 0)]) (.q (.q (.R [Wl 6 34 t2,Wc 7 76 #[t6] #[34],Wa 5 t7]) (.q (.R [Wm 8 t5,Wb 9 .neq 36 t8 (Wk 0)]) (.c t9 (.q (.R [Wm 10 t5,Wa 4 t10]) .r) .s))) (.q (.R [Wm 11 t1,Wc 12 21 #[t11] #[31],Wa 4 t12]) .r))):=by kernel_rfl
theorem w101:Tryz.f101.body.map (Qq C)=some (.q (.R [.n 1 (.box 23 t0),Wa 2 (.const .nilFunc)]) (.q (.R [.n 3 (.makeFunc (.func 142) #[] #[t1]),Wa 2 t3]) .r)):=by kernel_rfl
theorem w109:Tryz.f109.body.map (Qq C)=some (.q (.R [Wv 2 82,Wa 3 Wo]) (.q (.R [Wc 6 144 #[] #[],Wa 4 t6]) (.q (.R [Wm 7 t4,Wm 8 t0,Wc 9 145 #[t7,t8] #[177,136],Wa 5 t9]) (.q (.q (.R [Wm 10 t5,Wb 11 .lss 3 t10 (Wk 0)]) (.c t11 (.q (.R [.n 12 (.build 82 #[]),Ws 82 t2 t12,Wa 3 Wo]) .r) .s)) (.q (.R [Wm 13 t4,Wm 14 t5,Wi 15 177 t13 t14,Wl 16 82 t15,Ws 82 t2 t16,Wa 3 Wt]) .r))))):=by kernel_rfl
theorem w117:Tryz.f117.body.map (Qq C)=some (.q (.R [.n 2 (.box 32 t0),.n 3 (.box 32 t1),Wa 4 (.const .nilFunc)]) (.q (.R [.n 5 (.makeFunc (.func 148) #[] #[t2,t3]),Wa 4 t5]) .r)):=by kernel_rfl
theorem w125:Tryz.f125.body.map (Qq C)=some (.q (.R [.n 1 (.box 70 t0),Wa 2 (Wk 0)]) (.q (.R [Wl 4 70 t1,Wc 5 82 #[t4] #[70],Wv 3 70,Ws 70 t3 t5]) (.q (.q (.R [Wf 6 70 t3 0,Wl 7 4 t6,Wf 8 70 t1 0,Wl 9 4 t8,Wb 10 .neq 4 t7 t9,Wm 11 t10,.g (some 12) (.fieldAddr 70 t3 1) 11 false,.g (some 13) (.load 68 t12) 11 false,.g (some 14) (.fieldAddr 70 t1 1) 11 false,.g (some 15) (.load 68 t14) 11 false,.g (some 16) (.call ⟨.value (.func 154),#[t13,t15],#[68,68]⟩) 11 false,.g (some 17) (.unOp .not 4 t16) 11 false,.n 18 (.pick t11 Wt t17),Wm 19 t18,.g (some 20) (.fieldAddr 70 t3 2) 19 false,.g (some 21) (.load 68 t20) 19 false,.g (some 22) (.fieldAddr 70 t1 2) 19 false,.g (some 23) (.load 68 t22) 19 false,.g (some 24) (.call ⟨.value (.func 154),#[t21,t23],#[68,68]⟩) 19 false,.g (some 25) (.unOp .not 4 t24) 19 false,.n 26 (.pick t19 Wt t25)]) (.c t26 (.q (.R [Wa 2 (Wk 6)]) .r) .s)) (.q (.R [Wa 2 (Wk 0)]) .r)))):=by kernel_rfl
theorem w133:Tryz.f133.body.map (Qq C)=some (.q (.R [Wl 6 3 t1,Wm 7 (Wk 0)]) (.b 0 (.l (.q (.R [Wb 8 .lss 3 t7 t6]) (.q (.c t8 .s (.x 0)) (.q (.b 1 (.q (.R [Wm 9 t7,Wa 4 t9]) (.q (.R [Wl 10 3 t2,Wm 11 (Wk 0)]) (.b 2 (.l (.q (.R [Wb 12 .lss 3 t11 t10]) (.q (.c t12 .s (.x 2)) (.q (.b 3 (.q (.R [Wm 13 t11,Wa 5 t13]) (.q (.R [Wm 14 t0,Wm 15 t4,Wm 16 t5,.n 17 (.call ⟨.value t14,#[t15,t16],#[3,3]⟩),.n 18 (.unOp .not 4 t17)]) (.c t18 .r .s)))) (.R [Wb 19 .add 3 t11 (Wk 1),Wm 11 t19]))))))))) (.R [Wb 20 .add 3 t7 (Wk 1),Wm 7 t20]))))))):=by kernel_rfl
theorem w141:Tryz.f141.body.map (Qq C)=some (.q (.R [Wa 4 (.const (.slice none 0 0))]) (.q (.q (.R [Wm 9 t1,Wb 10 .lss 3 t9 (Wk 0)]) (.c t10 (.R [.n 11 (.makeInterface 9 (.const (.string { data:=#[99,97,110,110,111,116,32,98,101,32,110,101,103,97,116,105,118,101] }))),.z (.panic t11)]) .s)) (.q (.R [Wm 13 t0,Wn 14 t13 32,.n 15 (.convert 3 191 t14),Wm 16 t1,.n 17 (.convert 3 191 t16),Wc 18 170 #[t15,t17] #[191,191],Wm 12 t18,We 19 t12 0,We 20 t12 1,Wa 5 t19,Wa 6 t20]) (.q (.q (.R [Wm 21 t5,Wb 22 .gtr 191 t21 (.const (.int .u64 0)),Wm 23 t22,.g (some 24) (.move t6) 23 false,.g (some 25) (.binOp .gtr 191 t24 (.const (.int .u64 9223372036854775807)) 191) 23 false,.n 26 (.pick t23 Wt t25)]) (.c t26 (.R [.n 27 (.makeInterface 9 (.const (.string { data:=#[116,104,101,32,114,101,115,117,108,116,32,111,102,32,40,108,101,110,40,120,41,32,42,32,99,111,117,110,116,41,32,111,118,101,114,102,108,111,119,115] }))),.z (.panic t27)]) .s)) (.q (.R [Wm 28 t6,.n 29 (.convert 191 3 t28),.n 30 (.makeSlice 32 t29 t29),Wa 7 t30]) (.q (.R [Wm 31 t7,Wm 32 t0,.n 33 (.call ⟨.builtin .copy,#[t31,t32],#[32,32]⟩),Wa 8 t33]) (.q (.b 0 (.l (.q (.q (.R [Wm 34 t8,Wm 35 t7,Wn 36 t35 32,Wb 37 .lss 3 t34 t36]) (.c t37 .s (.x 0))) (.b 1 (.D true [Wm 38 t8,Wm 39 t7,Wm 40 t8,.n 41 (.slice 32 t39 (some t40) none none),Wm 42 t7,Wm 43 t8,.n 44 (.slice 32 t42 none (some t43) none),.n 45 (.call ⟨.builtin .copy,#[t41,t44],#[32,32]⟩),Wb 46 .add 3 t38 t45,Wa 8 t46]))))) (.q (.R [Wm 47 t7,Wa 4 t47]) .r)))))))):=by kernel_rfl
theorem w149:Tryz.f149.body.map (Qq C)=some (.q (.R [Wa 4 (.const (.slice none 0 0))]) (.q (.R [Wa 5 (.const (.slice none 0 0))]) (.q (.q (.R [Wm 8 t1,Wn 9 t8 68,Wm 10 (Wk 0)]) (.b 0 (.l (.q (.R [Wb 11 .lss 3 t10 t9]) (.q (.c t11 .s (.x 0)) (.q (.b 1 (.q (.R [Wm 12 t10,Wi 13 68 t8 t10,Wl 14 162 t13,Wa 6 t12,Wa 7 t14]) (.R [Wm 15 t5,Wm 16 t0,Wm 17 t7,Wm 18 t6,Wc 19 181 #[t16,t17,t18] #[68,162,3],Wc 20 151 #[t15,t19] #[68,68],Wa 5 t20]))) (.R [Wb 21 .add 3 t10 (Wk 1),Wm 10 t21]))))))) (.q (.R [Wm 22 t5,Wa 4 t22]) .r)))):=by kernel_rfl
theorem w157:Tryz.f157.body.map (Qq C)=some (.q (.R [Wa 2 (Wk 0)]) (.q (.R [Wm 4 t0,Wc 5 189 #[t4] #[68],Wa 3 t5]) (.q (.q (.R [Wm 6 t3,Wb 7 .eql 3 t6 (Wk 0)]) (.c t7 (.q (.R [Wa 2 (Wk 0)]) .r) .s)) (.q (.R [Wm 8 t3,Wb 9 .sub 3 t8 (Wk 1),Wb 10 .mul 3 (Wk 32) t9,Wm 11 t0,Wm 12 t3,Wb 13 .sub 3 t12 (Wk 1),Wi 14 68 t11 t13,Wl 15 162 t14,Wc 16 190 #[t15] #[162],Wb 17 .add 3 t10 t16,Wa 2 t17]) .r)))):=by kernel_rfl
theorem w165:Tryz.f165.body.map (Qq C)=some (.q (.R [Wa 4 (.const (.slice none 0 0))]) (.q (.R [Wa 5 (.const (.slice none 0 0))]) (.q (.R [Wa 6 (Wk 0)]) (.q (.q (.R [Wa 7 (Wk 0)]) (.b 0 (.l (.q (.q (.R [Wm 9 t7,Wm 10 t0,Wn 11 t10 54,Wb 12 .lss 3 t9 t11,Wm 13 t12,.g (some 14) (.move t6) 13 false,.g (some 15) (.binOp .gtr 3 t14 (Wk 0) 3) 13 false,.n 16 (.pick t13 Wt t15)]) (.c t16 .s (.x 0))) (.q (.b 1 (.q (.R [Wm 19 t0,Wm 20 t7,Wc 21 143 #[t19,t20] #[54,3],Wm 22 t1,Wb 23 .mul 3 t21 t22,Wm 24 t6,Wb 25 .add 3 t23 t24,Wa 8 t25]) (.q (.R [Wm 26 t5,Wm 27 t8,Wb 28 .rem 3 t27 (Wk 10000),.n 29 (.buildSlice 54 1 #[(0,t28)]),.n 30 (.call ⟨.builtin .append,#[t26,t29],#[54,54]⟩),Wa 5 t30]) (.R [Wm 31 t8,Wb 32 .quo 3 t31 (Wk 10000),Wa 6 t32])))) (.R [Wm 17 t7,Wb 18 .add 3 t17 (Wk 1),Wa 7 t18])))))) (.q (.R [Wm 33 t5,Wc 34 161 #[t33] #[54],Wa 4 t34]) .r))))):=by kernel_rfl
theorem w173:Tryz.f173.body.map (Qq C)=some (.q (.R [Wa 2 Wo]) (.q (.q (.R [Wm 5 t0,Wn 6 t5 23,Wb 7 .neq 3 t6 (Wk 2),Wm 8 t7,.g (some 9) (.move t0) 8 false,.g (some 10) (.indexAddr 23 t9 (Wk 1)) 8 false,.g (some 11) (.load 3 t10) 8 false,.g (some 12) (.binOp .lss 3 t11 (Wk 1) 3) 8 false,.n 13 (.pick t8 Wt t12)]) (.c t13 (.q (.R [Wa 2 Wo]) .r) .s)) (.q (.D true [Wm 14 t0,Wi 15 23 t14 (Wk 0),Wl 16 3 t15,Wm 17 t0,Wi 18 23 t17 (Wk 0),Wl 19 3 t18,.n 20 (.unOp .neg 3 t19),.n 21 (.call ⟨.builtin .max,#[t16,t20],#[3,3]⟩),Wm 22 t0,Wi 23 23 t22 (Wk 1),Wl 24 3 t23,Wa 3 t21,Wa 4 t24]) (.q (.b 0 (.l (.q (.q (.R [Wm 25 t4,Wb 26 .gtr 3 t25 (Wk 0)]) (.c t26 .s (.x 0))) (.b 1 (.D true [Wm 27 t4,Wm 28 t3,Wm 29 t4,Wb 30 .rem 3 t28 t29,Wa 3 t27,Wa 4 t30]))))) (.q (.R [Wm 31 t3,Wb 32 .eql 3 t31 (Wk 1),Wa 2 t32]) .r))))):=by kernel_rfl
theorem w181:Tryz.f181.body.map (Qq C)=some (.q (.R [.n 3 (.box 68 t0),.n 4 (.box 162 t1),.n 5 (.box 3 t2),Wa 6 (.const (.slice none 0 0))]) (.q (.R [Wv 7 189,Ws 189 t7 (.const (.int .u64 0))]) (.q (.R [Wl 8 68 t3,Wn 9 t8 68,Wl 10 3 t5,Wb 11 .add 3 t9 t10,Wb 12 .add 3 t11 (Wk 1),.n 13 (.makeFunc (.func 200) #[] #[t5,t3,t4,t7]),Wc 14 182 #[t12,t13] #[3,206],Wa 6 t14]) .r))):=by kernel_rfl
theorem w189:Tryz.f189.body.map (Qq C)=some (.q (.R [Wa 2 (Wk 0)]) (.q (.R [Wm 4 t0,Wn 5 t4 68,Wa 3 t5]) (.q (.b 0 (.l (.q (.q (.R [Wm 6 t3,Wb 7 .gtr 3 t6 (Wk 0),Wm 8 t7,.g (some 9) (.move t0) 8 true,.g (some 10) (.move t3) 8 true,.g (some 11) (.binOp .sub 3 t10 (Wk 1) 3) 8 true,.g (some 12) (.indexAddr 68 t9 t11) 8 true,.g (some 13) (.load 162 t12) 8 true,.g (some 14) (.binOp .eql 162 t13 (.const (.int .u32 0)) 162) 8 true,.n 15 (.pick t8 t14 Wo)]) (.c t15 .s (.x 0))) (.b 1 (.R [Wm 16 t3,Wb 17 .sub 3 t16 (Wk 1),Wa 3 t17]))))) (.q (.R [Wm 18 t3,Wa 2 t18]) .r)))):=by kernel_rfl
theorem w197:Tryz.f197.body.map (Qq C)=some (.q (.R [Wa 4 (.const (.int .u64 0)),Wa 5 (.const (.int .u64 0))]) (.q (.R [Wm 14 t0,Wb 15 .and 189 t14 (.const (.int .u64 4294967295)),Wa 6 t15]) (.q (.R [Wm 16 t0,.n 17 (.binOp .shr 189 t16 (.const (.int .u64 32)) 191),Wa 7 t17]) (.q (.R [Wm 18 t1,Wb 19 .and 189 t18 (.const (.int .u64 4294967295)),Wa 8 t19]) (.q (.R [Wm 20 t1,.n 21 (.binOp .shr 189 t20 (.const (.int .u64 32)) 191),Wa 9 t21]) (.q (.R [Wm 22 t6,Wm 23 t8,Wb 24 .mul 189 t22 t23,Wa 10 t24]) (.q (.R [Wm 25 t7,Wm 26 t8,Wb 27 .mul 189 t25 t26,Wm 28 t10,.n 29 (.binOp .shr 189 t28 (.const (.int .u64 32)) 191),Wb 30 .add 189 t27 t29,Wa 11 t30]) (.q (.R [Wm 31 t11,Wb 32 .and 189 t31 (.const (.int .u64 4294967295)),Wa 12 t32]) (.q (.R [Wm 33 t11,.n 34 (.binOp .shr 189 t33 (.const (.int .u64 32)) 191),Wa 13 t34]) (.q (.R [Wm 35 t12,Wm 36 t6,Wm 37 t9,Wb 38 .mul 189 t36 t37,Wb 39 .add 189 t35 t38,Wa 12 t39]) (.q (.R [Wm 40 t7,Wm 41 t9,Wb 42 .mul 189 t40 t41,Wm 43 t13,Wb 44 .add 189 t42 t43,Wm 45 t12,.n 46 (.binOp .shr 189 t45 (.const (.int .u64 32)) 191),Wb 47 .add 189 t44 t46,Wa 4 t47]) (.q (.R [Wm 48 t0,Wm 49 t1,Wb 50 .mul 189 t48 t49,Wa 5 t50]) .r)))))))))))):=by kernel_rfl
theorem w205:Tryz.f205.body.map (Qq C)=some (.q (.R [.n 2 (.box 68 t0),.n 3 (.box 3 t1),Wa 4 (.const (.slice none 0 0))]) (.q (.R [Wl 5 3 t3,.n 6 (.call ⟨.builtin .max,#[t5,Wk 0],#[3,3]⟩),Ws 3 t3 t6]) (.q (.q (.R [Wl 7 68 t2,Wc 8 189 #[t7] #[68],Wb 9 .eql 3 t8 (Wk 0)]) (.c t9 (.q (.R [Wa 4 (.const (.slice none 0 0))]) .r) .s)) (.q (.R [Wl 10 68 t2,Wn 11 t10 68,Wl 12 3 t3,Wb 13 .quo 3 t12 (Wk 32),Wb 14 .add 3 t11 t13,Wb 15 .add 3 t14 (Wk 1),.n 16 (.makeFunc (.func 221) #[] #[t3,t2]),Wc 17 182 #[t15,t16] #[3,206],Wa 4 t17]) .r)))):=by kernel_rfl
theorem w220:Tryz.f220.body.map (Qq C)=some (.q (.R [Wl 4 3 t1,Wb 5 .sub 3 t4 (Wk 1),Wa 3 t5]) (.b 0 (.l (.q (.q (.R [Wm 6 t3,Wb 7 .geq 3 t6 (Wk 0)]) (.c t7 .s (.x 0))) (.q (.b 1 (.q (.R [Wm 10 t0,Wm 11 t3,.n 12 (.call ⟨.value t10,#[t11],#[3]⟩),.n 13 (.unOp .not 4 t12)]) (.c t13 .r .s))) (.R [Wm 8 t3,Wb 9 .sub 3 t8 (Wk 1),Wa 3 t9])))))):=by kernel_rfl
end Go.Proofs.YtipmmjebfpbkmaaGreat
end
