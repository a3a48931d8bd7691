/-
  Parts Bv15, Bv16, Bv17, Bv27, Bv32, Bv18, Bv19, one behind the other: a program logic of our own, contracts of functions.
-/
import Derived.Test.YtipmmjebfpbkmaaGreatQ1
import Derived.OrdersIn
import Derived.Attr

set_option linter.unusedVariables false
set_option linter.unusedSimpArgs false
set_option maxRecDepth 100000
set_option maxHeartbeats 8000000
section
namespace Go.Bv
open Go.RowKit
def Same (H0 H:Qb):Prop:=∀ r row,Qc H0 r=some row→Qc H r=some row
def Stand (H0 H:Qb):Prop:=∀ r,(Qc H0 r).isSome=true→(Qc H r).isSome=true
theorem Same.stand {H0 H:Qb} (h:Same H0 H):Stand H0 H:=fun r hr=>by
 obtain ⟨row,hrow⟩:=Option.isSome_iff_exists.1 hr;rw [h r row hrow];rfl
theorem Same.refl (H:Qb):Same H H:=fun _ _ h=>h
theorem Same.trans {H0 H1 H2:Qb} (h:Same H0 H1) (k:Same H1 H2):Same H0 H2:=fun r row hr=>k r row (h r row hr)
theorem Stand.trans {H0 H1 H2:Qb} (h:Stand H0 H1) (k:Stand H1 H2):Stand H0 H2:=fun r hr=>k r (h r hr)
theorem Same.app (H X:Qb):Same H (H++X):=fun r row hr=>by
 have h1:=Yd hr
 have hlt:r<H.length:=(List.getElem?_eq_some_iff.1 h1).1
 simp only [Qc,List.getElem?_append_left hlt,h1];rfl
theorem Stand.set (H:Qb) (r:Nat) (row:Row):Stand H (H.set r (some row)):=fun q hq=>by
 obtain ⟨x,hx⟩:=Option.isSome_iff_exists.1 hq
 have h1:=Yd hx
 have hlt:q<H.length:=(List.getElem?_eq_some_iff.1 h1).1
 simp only [Qc,List.getElem?_set];split
 ·rename_i e;subst e;simp [hlt]
 ·rw [h1];rfl
def Kp (H0 H H':Qb):Prop:=(Same H0 H→Same H0 H')∧(Stand H0 H→Stand H0 H')
theorem Kp.of {H0 H H':Qb} (h:Same H H'):Kp H0 H H':=⟨fun h0=>h0.trans h,fun h0=>h0.trans h.stand⟩
theorem Kp.refl (H0 H:Qb):Kp H0 H H:=⟨id,id⟩
def Pc (C:Ctx) (H0:Qb) (f:FuncId) (args:List V) (H:Qb) (K:V→Qb→Prop):Prop :=
 (∃ Q,Fc C f args H Q∧(∃ v H',Q v H')∧∀ v H',Q v H'→Kp H0 H H'∧K v H')∨∃ args' Q,Fc C f args' [] Q∧(∃ v H',Q v H')∧((args'=args∧Qh args=true)∨(args.length=args'.length∧(∀ j,Bor H (nth args j) (nth args' j))∧∀ v H',Q v H'→plain v=true∧Qar H')) ∧
  ∀ v H',Q v H'→K (ren (shift H.length) v) (H++Qbf (shift H.length) H')
def cwP (C:Ctx) (H0:Qb):CW:=fun fv args H K =>
 match fv with
 | .fn (.func g) first caps=>Pc C H0 g (first++args++caps) H K
 | _=>False
theorem Pc.fc {C:Ctx} {H0:Qb} {f:FuncId} {args:List V} {H:Qb} {K:V→Qb→Prop} (h:Pc C H0 f args H K):Fc C f args H K:=by
 rcases h with ⟨Q,h1,_,h2⟩ | ⟨args',Q,h1,_,h2,h3⟩
 ·exact h1.mono fun v H' hq=>(h2 v H' hq).2
 rcases h2 with ⟨rfl,hc⟩ | ⟨hl,hb,hp⟩
 ·exact h1.call hc h3
 ·exact h1.borrow hl hb hp h3
theorem Qim (C:Ctx) (H0:Qb) (ro:Option Nat):Qiu C ro (cwP C H0):=by
 intro o c f ho hc im pl w a fv args H K next Q h
 have h':cwF C fv args H K:=by
  unfold cwP at h;split at h
  ·exact h.fc
  ·exact h.elim
 exact Qa6 C ro o c f ho hc im pl w a fv args H K next Q h'
structure CWok (cw:CW) (H0:Qb):Prop where
 mono:∀ {fv args H K K'},(∀ v H',K v H'→K' v H')→cw fv args H K→cw fv args H K'
 strict:∀ {fv args H p},(cw fv args H fun _ _=>p)→p
 new:∀ {fv args H K},cw fv args H K→cw fv args H fun v H'=>Kp H0 H H'∧K v H'
def Yi:Op→Bool
 | .alloc _ | .box _ _ | .makeSlice _ _ _ | .store _ _ _=>true
 | .buildSlice _ _ ps=>!Qgo ps.toList
 | .call c=>match c.callee with
  | .builtin .len | .builtin .min | .builtin .max=>false
  | _=>true
 | _=>false
def Jg:Op→Bool
 | .store _ _ _=>true
 | _=>false
def Zl:Op→Bool
 | .load _ _=>true
 | _=>false
def Jh:Op→Bool
 | .move _ | .assign _ | .pick _ _ _ | .unOp _ _ _ | .convert _ _ _ | .makeFunc _ _ _ | .extract _ _ | .nilCheck _ | .build _ _ | .slice _ _ _ _ none | .fieldAddr _ _ _ | .field _ _ _ | .indexAddr _ _ _ | .index _ _ _=>true
 | .binOp _ _ _ _ _=>true
 | .buildSlice _ _ ps=>Qgo ps.toList
 | .call c=>match c.callee with
  | .builtin .len | .builtin .min | .builtin .max=>true
  | _=>false
 | _=>false
def Qhi (c:Call):Bool:=match c.args.toList with
 | .const (.slice none 0 0)::_=>true
 | _=>false
def Qek:Op→Bool
 | .alloc _ | .box _ _ | .makeSlice _ _ _=>true
 | .buildSlice _ _ ps=>!Qgo ps.toList
 | .call c=>match c.callee with
  | .value _=>true
  | .builtin .append=>Qhi c
  | _=>false
 | _=>false
def Qi3:Op→Bool
 | .call c=>match c.callee with
  | .builtin .append=>!Qhi c
  | .builtin .copy=>true
  | _=>false
 | _=>false
def Qb8:Op→Bool
 | .move _ | .assign _ | .pick _ _ _ | .unOp _ _ _ | .convert _ _ _ | .makeFunc _ _ _ | .extract _ _ | .nilCheck _ | .build _ _ | .fieldAddr _ _ _ | .field _ _ _ | .index _ _ _=>true
 | .binOp _ _ _ _ _=>true
 | .buildSlice _ _ ps=>Qgo ps.toList
 | .call c=>match c.callee with
  | .builtin .len=>true
  | _=>false
 | _=>false
def Qef:V→Bool
 | .nil=>false
 | _=>true
def Jv (op:Op) (ts:List V):Prop:=match op with
 | .binOp _ _ _ y _=>Qef (ev ts y)=true
 | _=>True
def opd (C:Ctx) (cw:CW) (op:Op) (ts:List V) (H0 H:Qb) (K:V→Qb→Prop):Prop :=
 if Yi op then opc C.ty cw op ts H K else Jv op ts∧opc C.ty cw op ts H0 fun v _=>K v H
def Qb3 (C:Ctx) (cw:CW) (ops:Array Oper) (H0:Qb) (K:List V→Qb→Prop):List Oper→List V→Qb→Prop
 | [],ts,H=>K ts H
 | o::rest,ts,H=>Qdh ops o.guard ts (fun ts=>opd C cw o.op ts H0 H fun v H'=>Qb3 C cw ops H0 K rest (Yo ts o.dst v) H') (fun ts=>Qb3 C cw ops H0 K rest (Yo ts o.dst (.tup [])) H)
def tro (C:Ctx) (cw:CW) (ops:Array Oper) (H0:Qb) (o:Oper) (ts:List V) (H:Qb) (K:V→Qb→Prop):Prop :=
 Qcs ops o.guard ts (opd C cw o.op ts H0 H K) (K (.tup []) H)
theorem Qym {ty:TypeId→Ty} {t:TypeId} {l c:V} {H:Qb} {K K':V→Qb→Prop} (hK:∀ v H',K v H'→K' v H') (h:Qci ty t l c H K):Qci ty t l c H K':=by
 revert h
 unfold Qci;split
 ·rintro ⟨h1,h2,h3,h4,h5,h6⟩;exact ⟨h1,h2,h3,h4,h5,hK _ _ h6⟩
 ·exact id
theorem Xfg {y:Ty} {e:TypeId} {s x:V} {H:Qb} {K K':V→Qb→Prop} (hK:∀ v H',K v H'→K' v H') (h:Qbb y e s x H K):Qbb y e s x H K':=by
 revert h
 unfold Qbb;split
 ·exact id
 ·rintro ⟨h1,h2,h3,h4,h5⟩;refine ⟨h1,h2,h3,h4, ?_⟩
  revert h5
  split
  ·exact fun h=>⟨h.1,hK _ _ h.2⟩
  ·split
   ·exact fun h=>⟨h.1,h.2.1,h.2.2.1,h.2.2.2.1,h.2.2.2.2.1,hK _ _ h.2.2.2.2.2⟩
   ·exact id
  ·exact fun h=>⟨h.1,hK _ _ h.2⟩
  ·exact id
theorem Qws {y:Ty} {e:TypeId} {s x:V} {H:Qb} {p:Prop} (h:Qbb y e s x H fun _ _=>p):p:=by
 revert h
 unfold Qbb;split
 ·exact fun h=>h.elim
 ·rintro ⟨h1,h2,h3,h4,h5⟩
  revert h5
  split
  ·exact fun h=>h.2
  ·split
   ·exact fun h=>h.2.2.2.2.2
   ·exact fun h=>h.elim
  ·exact fun h=>h.2
  ·exact fun h=>h.elim
theorem Qe9 {ty:TypeId→Ty} {ats:List TypeId} {args:List V} {H:Qb} {K K':V→Qb→Prop} (hK:∀ v H',K v H'→K' v H') (h:Qr ty .append ats args H K):Qr ty .append ats args H K':=by
 match ats,args with
 | [t,t'],[s,x] =>
  simp only [Qr] at h ⊢;obtain ⟨h1,h2,h3⟩:=h;refine ⟨h1,h2, ?_⟩
  revert h3
  split
  ·exact fun h=>⟨h.1,Xfg hK h.2⟩
  ·exact id
 | [],_=>simp [Qr] at h
 | [_],_=>simp [Qr] at h
 | _::_::_::_,_=>simp [Qr] at h
 | [_,_],[]=>simp [Qr] at h
 | [_,_],[_]=>simp [Qr] at h
 | [_,_],_::_::_::_=>simp [Qr] at h
theorem Qdn {ty:TypeId→Ty} {ats:List TypeId} {args:List V} {H:Qb} {p:Prop} (h:Qr ty .append ats args H fun _ _=>p):p:=by
 match ats,args with
 | [t,t'],[s,x] =>
  simp only [Qr] at h;obtain ⟨h1,h2,h3⟩:=h
  revert h3
  split
  ·exact fun h=>Qws h.2
  ·exact fun h=>h.elim
 | [],_=>simp [Qr] at h
 | [_],_=>simp [Qr] at h
 | _::_::_::_,_=>simp [Qr] at h
 | [_,_],[]=>simp [Qr] at h
 | [_,_],[_]=>simp [Qr] at h
 | [_,_],_::_::_::_=>simp [Qr] at h
theorem Xkp {y:Ty} {e:TypeId} {x:V} {HH H:Qb} {K:V→Qb→Prop} (h:Qbb y e .nil x H K):Qbb y e .nil x H fun v H'=>Kp HH H H'∧K v H':=by
 revert h
 unfold Qbb;split
 ·exact id
 ·rintro ⟨h1,h2,h3,h4,h5,h6⟩;exact ⟨h1,h2,h3,h4,h5,.of (.app _ _),h6⟩
theorem Ql3 {ty:TypeId→Ty} {ats:List TypeId} {args:List V} {HH H:Qb} {K:V→Qb→Prop} (h:Qr ty .append ats (.nil::args) H K):Qr ty .append ats (.nil::args) H fun v H'=>Kp HH H H'∧K v H':=by
 match ats,args with
 | [t,t'],[x] =>
  simp only [Qr] at h ⊢;obtain ⟨h1,h2,h3⟩:=h;refine ⟨h1,h2, ?_⟩
  revert h3
  split
  ·exact fun h=>⟨h.1,Xkp h.2⟩
  ·exact id
 | [],_=>simp [Qr] at h
 | [_],_=>simp [Qr] at h
 | _::_::_::_,_=>simp [Qr] at h
 | [_,_],[]=>simp [Qr] at h
 | [_,_],_::_::_=>simp [Qr] at h
theorem Qp0 {c:Call} (h:Qhi c=true) (ts:List V):∃ l,c.args.toList.map (ev ts)=.nil::l:=by
 unfold Qhi at h;split at h
 ·rename_i l hl;exact ⟨_,by rw [hl];rfl⟩
 ·cases h
theorem Qfi {c:Call} {b:Builtin} (hc:c.callee=.builtin b) (h:Qek (.call c)=true):b=.append∧Qhi c=true:=by
 simp only [Qek,hc] at h;split at h
 ·rename_i hh;cases hh
 ·rename_i hh;injection hh with hh;exact ⟨hh,h⟩
 ·cases h
theorem Qoa {C:Ctx} {cw:CW} {HH:Qb} (hcw:CWok cw HH) {op:Op} {ts:List V} {H:Qb} {K K':V→Qb→Prop} (hn:Qek op=true∨Jg op=true) (hK:∀ v H',K v H'→K' v H') (h:opc C.ty cw op ts H K):opc C.ty cw op ts H K':=by
 cases op with
 | alloc t=>exact ⟨h.1,hK _ _ h.2⟩
 | box t x=>exact ⟨h.1,hK _ _ h.2⟩
 | buildSlice t n ps =>
  have hb:Qgo ps.toList=false:=by simpa [Qek,Jg] using hn
  simp only [opc,opw,hb,Qr5,Qfa] at h ⊢;refine ⟨h.1, ?_⟩
  have h:=h.2
  unfold bso at h ⊢;split
  ·rename_i e he;rw [he] at h;obtain ⟨h1,h2,h3,h4⟩:=h;refine ⟨h1,h2,h3, ?_⟩;unfold Qgn at h4 ⊢;split
   ·rename_i l hl;rw [hl] at h4;exact hK _ _ h4
   ·rename_i hl;rw [hl] at h4;exact h4
  ·rename_i he;rw [he] at h;exact h
 | makeSlice t l c =>
  simp only [opc,opw] at h ⊢;refine ⟨h.1, ?_⟩;exact Qym hK h.2
 | store t x v =>
  simp only [opc,opw] at h ⊢;refine ⟨h.1, ?_⟩
  have h:=h.2
  unfold Qcj at h ⊢;split
  ·rename_i r off hx;simp only [hx] at h;split
   ·rename_i row hrow;simp only [hrow] at h;exact ⟨h.1,h.2.1,h.2.2.1,hK _ _ h.2.2.2⟩
   ·rename_i hrow;simp only [hrow] at h
  ·rename_i hne;split at h
   ·rename_i r off hx;exact (hne _ _ hx).elim
   ·exact h
 | call c =>
  simp only [opc] at h ⊢;cases hc:c.callee with
  | value f =>
   rw [hc] at h;exact hcw.mono hK h
  | builtin b =>
   rw [hc] at h;obtain ⟨rfl,_⟩:=Qfi hc (hn.resolve_right (by simp [Jg]))
   exact Qe9 hK h
  | invoke _ _=>simp [Qek,Jg,hc] at hn
 | _=>simp [Qek,Jg] at hn
theorem Qyc {C:Ctx} {cw:CW} {HH:Qb} (hcw:CWok cw HH) {op:Op} {ts:List V} {H:Qb} {p:Prop} (hn:Qek op=true∨Jg op=true) (h:opc C.ty cw op ts H fun _ _=>p):p:=by
 cases op with
 | alloc t=>exact h.2
 | box t x=>exact h.2
 | buildSlice t n ps =>
  have hb:Qgo ps.toList=false:=by simpa [Qek,Jg] using hn
  simp only [opc,opw,hb,Qr5,Qfa] at h
  have h:=h.2
  unfold bso at h;split at h
  ·obtain ⟨h1,h2,h3,h4⟩:=h;unfold Qgn at h4;split at h4
   ·exact h4
   ·exact h4.elim
  ·exact h.elim
 | makeSlice t l c =>
  simp only [opc,opw] at h
  have h:=h.2
  unfold Qci at h;split at h
  ·exact h.2.2.2.2.2
  ·exact h.elim
 | store t x v =>
  simp only [opc,opw] at h
  have h:=h.2
  unfold Qcj at h;split at h
  ·split at h
   ·exact h.2.2.2
   ·exact h.elim
  ·exact h.elim
 | call c =>
  simp only [opc] at h;cases hc:c.callee with
  | value f =>
   rw [hc] at h;exact hcw.strict h
  | builtin b =>
   rw [hc] at h;obtain ⟨rfl,_⟩:=Qfi hc (hn.resolve_right (by simp [Jg]))
   exact Qdn h
  | invoke _ _=>simp [Qek,Jg,hc] at hn
 | _=>simp [Qek,Jg] at hn
def Det (F:(V→Prop)→Prop):Prop:=∃ (p:Prop) (v:V),∀ k:V→Prop,F k↔(p∧k v)
theorem Det.of {F:(V→Prop)→Prop} (v:V) (h:∀ k,F k↔k v):Det F:=⟨True,v,fun k=>by simp [h]⟩
theorem Det.no {F:(V→Prop)→Prop} (h:∀ k,¬ F k):Det F:=⟨False,.any,fun k=>⟨fun h'=>(h k h').elim,fun h'=>h'.1.elim⟩⟩
theorem Det.and {F:(V→Prop)→Prop} {G:(V→Prop)→Prop} {q:Prop} (h:Det F) (hg:∀ k,G k↔(q∧F k)):Det G:=by
 obtain ⟨p,v,h⟩:=h;exact ⟨q∧p,v,fun k=>by rw [hg,h,and_assoc]⟩
theorem Det.two {F:(V→Prop)→Prop} (q:Prop) (x y:V) (h:∀ k,F k↔((q→k x)∧(¬ q→k y))):Det F:=by
 by_cases hq:q
 ·exact .of x fun k=>by rw [h];exact ⟨fun h=>h.1 hq,fun h=>⟨fun _=>h,fun h'=>(h' hq).elim⟩⟩
 ·exact .of y fun k=>by rw [h];exact ⟨fun h=>h.2 hq,fun h=>⟨fun h'=>(hq h').elim,fun _=>h⟩⟩
theorem Xc9 (c a b:V):Det (Qi0 c a b):=by
 cases c with
 | bool t=>exact .two (t=true) a b fun k=>by cases t<;>simp [Qi0]
 | _=>exact .no fun k h=>h
theorem Xi6 (op:BinOp) (k k':IntKind) (a b:Int):Det (Ke op k a k' b):=by
 cases op<;>first
  | exact .no fun k h=>h
  | exact .and (q:=k=k') (.of _ fun _=>Iff.rfl) fun _=>Iff.rfl
  | exact .and (q:=k=k') (.and (q:=b≠0) (.of _ fun _=>Iff.rfl) fun _=>Iff.rfl) fun _=>Iff.rfl
  | exact .and (q:=0≤b) (.of _ fun _=>Iff.rfl) fun _=>Iff.rfl
theorem Qwo (y:Ty) (op:BinOp) (a b:V) (H:Qb) (hb:Qef b=true):Det (Qey y op a b H):=by
 cases b with
 | int k' b' =>
  cases a with
  | int k a'=>exact Xi6 op k k' a' b'
  | _=>exact .no fun k h=>h
 | bool b' =>
  cases a with
  | bool a' =>
   cases op<;>first
    | exact .no fun k h=>h.2
    | exact .and (q:=y.bl=true) (.of _ fun _=>Iff.rfl) fun _=>Iff.rfl
  | _=>exact .no fun k h=>h
 | str b' =>
  cases a with
  | str a' =>
   cases op<;>first
    | exact .no fun k h=>h
    | exact .of _ fun _=>Iff.rfl
  | _=>exact .no fun k h=>h
 | nil=>cases hb
 | _=>cases a<;>exact .no fun k h=>h
theorem Xee (y:Ty) (x:V) (H:Qb):Det (Qc7 y x H):=by
 cases x with
 | rp cs off=>exact .and (.of _ fun _=>Iff.rfl) fun _=>Iff.rfl
 | ptr r off =>
  cases hrow:Qc H r with
  | none=>exact .no fun k h=>by simp only [Qc7,hrow] at h
  | some row=>exact .and (q:=off+y.size≤row.cs.length) (.of (Qlm y row.cs off) fun _=>Iff.rfl) fun k=>by simp only [Qc7,hrow]
 | _=>exact .no fun k h=>h
theorem Xln (op:UnOp) (x:V):Det (unw op x):=by
 cases op<;>cases x<;>first
  | exact .no fun k h=>h
  | exact .of _ fun _=>Iff.rfl
theorem Xe4 (y:Ty) (x:V):Det (Qet y x):=by
 cases hk:y.ik with
 | none=>exact .no fun k h=>by simp [Qet,hk] at h
 | some ik =>
  cases x with
  | int k n=>exact .of (.int ik (ik.wrap n)) fun k=>by simp [Qet,hk]
  | _=>exact .no fun k h=>by simp [Qet,hk] at h
theorem Xjp (x:V) (i:Nat):Det (Qs4 x i):=by
 cases x with
 | tup vs=>exact .and (.of _ fun _=>Iff.rfl) fun _=>Iff.rfl
 | _=>exact .no fun k h=>h
theorem Xhy (x:V):Det (Qoe x):=by
 cases x with
 | ptr r off=>exact .of _ fun _=>Iff.rfl
 | rp cs off=>exact .of _ fun _=>Iff.rfl
 | fn f xs ys=>cases f<;>first | exact .of _ fun _=>Iff.rfl | exact .no fun k h=>h
 | _=>exact .no fun k h=>h
theorem Xbb (ty:TypeId→Ty) (f:Option (Nat × Nat)) (g:Nat→V):Det fun k=>fao ty f fun o=>k (g o):=by
 cases f with
 | none=>exact .no fun k h=>h
 | some p=>obtain ⟨o,u⟩:=p;exact .and (.and (.of _ fun _=>Iff.rfl) fun _=>Iff.rfl) fun _=>Iff.rfl
theorem Xnj (ty:TypeId→Ty) (f:Option (Nat × Nat)) (x:V):Det (faw ty f x):=by
 cases x with
 | ptr r off=>exact Xbb ty f _
 | rp cs off=>exact Xbb ty f _
 | _=>exact .no fun k h=>h
theorem Qy5 (ty:TypeId→Ty) (y:Ty) (x:V) (f:Nat):Det (Qen ty y x f):=by
 cases hf:y.fs[f]? with
 | none=>exact .no fun k h=>by simp [Qen,hf] at h
 | some p =>
  obtain ⟨o,u⟩:=p;cases x with
  | agg cs=>exact .and (q:=(ty u).ok=true) (.and (q:=o+(ty u).size≤cs.length) (.of (Qlm (ty u) cs o) fun _=>Iff.rfl) fun _=>Iff.rfl) fun k=>by simp only [Qen,hf]
  | _=>exact .no fun k h=>by simp [Qen,hf] at h
theorem Xja (ty:TypeId→Ty) (y:Ty) (x i:V) (H:Qb):Det (Qop ty y x i H):=by
 refine .and (F:=Ys ty y x i) ?_ fun _=>Iff.rfl
 cases i with
 | int k i =>
  cases hs:y.sl with
  | some e =>
   cases x with
   | sl n cs=>exact .and (q:=(ty e).ok=true) (.and (q:=0≤i) (.and (q:=i<n) (.of (.rp cs (i.toNat*(ty e).size)) fun _=>Iff.rfl) fun _=>Iff.rfl) fun _=>Iff.rfl) fun k=>by simp only [Ys,hs]
   | ref r off n=>exact .and (q:=(ty e).ok=true) (.and (q:=0≤i) (.and (q:=i<n) (.of (.ptr r (off+i.toNat*(ty e).size)) fun _=>Iff.rfl) fun _=>Iff.rfl) fun _=>Iff.rfl) fun k=>by simp only [Ys,hs]
   | ptr r off =>
    cases ha:y.arr with
    | none=>exact .no fun k h=>by simp [Ys,hs,ha] at h
    | some p=>obtain ⟨n,e'⟩:=p;exact .and (q:=(ty e').ok=true) (.and (q:=0≤i) (.and (q:=i<n) (.of (.ptr r (off+i.toNat*(ty e').size)) fun _=>Iff.rfl) fun _=>Iff.rfl) fun _=>Iff.rfl) fun k=>by simp only [Ys,hs,ha]
   | _=>exact .no fun k h=>by simp [Ys,hs] at h
  | none =>
   cases x with
   | ptr r off =>
    cases ha:y.arr with
    | none=>exact .no fun k h=>by simp [Ys,hs,ha] at h
    | some p=>obtain ⟨n,e'⟩:=p;exact .and (q:=(ty e').ok=true) (.and (q:=0≤i) (.and (q:=i<n) (.of (.ptr r (off+i.toNat*(ty e').size)) fun _=>Iff.rfl) fun _=>Iff.rfl) fun _=>Iff.rfl) fun k=>by simp only [Ys,hs,ha]
   | _=>exact .no fun k h=>by simp [Ys,hs] at h
 | _=>exact .no fun k h=>h
theorem Qyz (ty:TypeId→Ty) (y:Ty) (x i:V):Det (Qaj ty y x i):=by
 cases ha:y.arr with
 | none =>
  cases x with
  | str s =>
   cases i with
   | int k i=>exact .and (q:=y.str=true) (.and (q:=0≤i) (.and (q:=i.toNat<s.size) (.of (.int .u8 ((s[i.toNat]?.getD 0).toNat:Int)) fun _=>Iff.rfl) fun _=>Iff.rfl) fun _=>Iff.rfl) fun k=>by simp only [Qaj,ha]
   | _=>exact .no fun k h=>by simp [Qaj,ha] at h
  | _=>exact .no fun k h=>by simp [Qaj,ha] at h
 | some p =>
  obtain ⟨n,e⟩:=p;cases x with
  | agg cs =>
   cases i with
   | int k i=>exact .and (q:=(ty e).ok=true) (.and (q:=0≤i) (.and (q:=i<n) (.and (q:=i.toNat*(ty e).size+(ty e).size≤cs.length) (.of (Qlm (ty e) cs (i.toNat*(ty e).size)) fun _=>Iff.rfl) fun _=>Iff.rfl) fun _=>Iff.rfl) fun _=>Iff.rfl) fun k=>by simp only [Qaj,ha]
   | _=>exact .no fun k h=>by simp [Qaj,ha] at h
  | _=>exact .no fun k h=>by simp [Qaj,ha] at h
theorem Qzr (ty:TypeId→Ty) (t:TypeId) (ps:List (Nat × V)):Det (Qeu ty t ps):=by
 have e:Qeu ty t ps=fun KP=>bwo ty (ty t).arr t ps KP:=by funext KP;rw [Qri]
 rw [e];cases (ty t).arr with
 | none =>
  refine .and (.and (F:=fun k=>Qgn (Jz (fun i=>((ty t).fs[i]?).map fun p=>(p.1,(ty p.2).size)) (Ja (ty t)) ps) fun out=>k (.agg out)) ?_ fun _=>Iff.rfl) fun _=>Iff.rfl
  cases Jz (fun i=>((ty t).fs[i]?).map fun p=>(p.1,(ty p.2).size)) (Ja (ty t)) ps with
  | none=>exact .no fun k h=>h
  | some l=>exact .of _ fun _=>Iff.rfl
 | some ne =>
  obtain ⟨n,e⟩:=ne;refine .and (F:=fun k=>Qgn (Jz (fun i=>some (i*(ty e).size,(ty e).size)) (Ja (ty t)) ps) fun out=>k (.agg out)) ?_ fun _=>Iff.rfl
  cases Jz (fun i=>some (i*(ty e).size,(ty e).size)) (Ja (ty t)) ps with
  | none=>exact .no fun k h=>h
  | some l=>exact .of _ fun _=>Iff.rfl
theorem Xin (y:Ty) (x:V):Det (lenw y x):=by
 cases x with
 | sl n cs=>exact .and (.of _ fun _=>Iff.rfl) fun _=>Iff.rfl
 | ref r off n=>exact .and (.of _ fun _=>Iff.rfl) fun _=>Iff.rfl
 | nil=>exact .and (.of _ fun _=>Iff.rfl) fun _=>Iff.rfl
 | str s=>exact .and (.of _ fun _=>Iff.rfl) fun _=>Iff.rfl
 | _=>exact .no fun k h=>h
theorem Qxh (ty:TypeId→Ty) (y:Ty) (x:V) (lo hi:Option V) (H:Qb):Det (Xy ty y x lo hi H):=by
 cases hs:y.sl with
 | none=>exact .no fun k h=>by simp [Xy,hs] at h
 | some e =>
  have main:∀ {F:(V→Prop)→Prop},Det F→(∀ k,Xy ty y x lo hi H k↔((ty e).ok=true∧0<(ty e).size∧F k))→Det (Xy ty y x lo hi H):=fun h hk=>.and (.and h fun _=>Iff.rfl) fun k=>by rw [hk]
  cases lo with
  | none =>
   cases hi with
   | none=>exact .no fun k h=>by simp [Xy,hs] at h
   | some v =>
    cases v with
    | int kk h =>
     cases x with
     | sl n cs=>exact main (F:=fun k=>0≤h∧h≤n∧k (.sl h.toNat (cs.take (h.toNat*(ty e).size)))) (.and (.and (.of _ fun _=>Iff.rfl) fun _=>Iff.rfl) fun _=>Iff.rfl) fun k=>by simp only [Xy,hs]
     | ref r off n=>exact main (F:=fun k=>0≤h∧(Qc H r).isSome=true∧h≤n∧(h=0→k (.sl 0 []))∧(h≠0→k (.ref r off h.toNat))) (.and (.and (.and (.two (h=0) _ _ fun _=>Iff.rfl) fun _=>Iff.rfl) fun _=>Iff.rfl) fun _=>Iff.rfl) fun k=>by simp only [Xy,hs]
     | nil=>exact main (F:=fun k=>0≤h∧h=0∧k .nil) (.and (.and (.of _ fun _=>Iff.rfl) fun _=>Iff.rfl) fun _=>Iff.rfl) fun k=>by simp only [Xy,hs]
     | _=>exact .no fun k h=>by simp [Xy,hs] at h
    | _=>exact .no fun k h=>by simp [Xy,hs] at h
  | some u =>
   cases u with
   | int k0 l =>
    cases hi with
    | none =>
     cases x with
     | sl n cs=>exact main (F:=fun k=>0≤l∧l≤n∧k (.sl (n - l.toNat) (cs.drop (l.toNat*(ty e).size)))) (.and (.and (.of _ fun _=>Iff.rfl) fun _=>Iff.rfl) fun _=>Iff.rfl) fun k=>by simp only [Xy,hs]
     | ref r off n=>exact main (F:=fun k=>0≤l∧(Qc H r).isSome=true∧l≤n∧(l=n→k (.sl 0 []))∧(l≠n→k (.ref r (off+l.toNat*(ty e).size) (n - l.toNat)))) (.and (.and (.and (.two (l=n) _ _ fun _=>Iff.rfl) fun _=>Iff.rfl) fun _=>Iff.rfl) fun _=>Iff.rfl) fun k=>by simp only [Xy,hs]
     | nil=>exact main (F:=fun k=>0≤l∧l=0∧k .nil) (.and (.and (.of _ fun _=>Iff.rfl) fun _=>Iff.rfl) fun _=>Iff.rfl) fun k=>by simp only [Xy,hs]
     | _=>exact .no fun k h=>by simp [Xy,hs] at h
    | some v =>
     cases v with
     | int kk h =>
      cases x with
      | sl n cs=>exact main (F:=fun k=>0≤l∧l≤h∧h≤n∧k (.sl (h.toNat - l.toNat) ((cs.drop (l.toNat*(ty e).size)).take ((h.toNat - l.toNat)*(ty e).size)))) (.and (.and (.and (.of _ fun _=>Iff.rfl) fun _=>Iff.rfl) fun _=>Iff.rfl) fun _=>Iff.rfl) fun k=>by simp only [Xy,hs]
      | ref r off n=>exact main (F:=fun k=>0≤l∧l≤h∧(Qc H r).isSome=true∧h≤n∧(l=h→k (.sl 0 []))∧(l≠h→k (.ref r (off+l.toNat*(ty e).size) (h.toNat - l.toNat)))) (.and (.and (.and (.and (.two (l=h) _ _ fun _=>Iff.rfl) fun _=>Iff.rfl) fun _=>Iff.rfl) fun _=>Iff.rfl) fun _=>Iff.rfl) fun k=>by simp only [Xy,hs]
      | nil=>exact main (F:=fun k=>0≤l∧l≤h∧h=0∧k .nil) (.and (.and (.and (.of _ fun _=>Iff.rfl) fun _=>Iff.rfl) fun _=>Iff.rfl) fun _=>Iff.rfl) fun k=>by simp only [Xy,hs]
      | _=>exact .no fun k h=>by simp [Xy,hs] at h
     | _=>exact .no fun k h=>by simp [Xy,hs] at h
   | _=>cases hi<;>exact .no fun k h=>by simp [Xy,hs] at h
theorem Qtp (ty:TypeId→Ty) (b:Builtin) (hb:b=.len∨b=.min∨b=.max) (ats:List TypeId) (args:List V) (H:Qb):Det fun k=>Qr ty b ats args H fun v _=>k v:=by
 rcases hb with rfl | rfl | rfl
 ·match ats,args with
  | [t],[x]=>exact .and (Xin (ty t) x) fun _=>Iff.rfl
  | [],_=>exact .no fun k h=>h
  | [_],[]=>exact .no fun k h=>h
  | [_],_::_::_=>exact .no fun k h=>h
  | _::_::_,_=>exact .no fun k h=>h
 ·match args with
  | [x,y] =>
   cases x with
   | int k a =>
    cases y with
    | int k' b=>exact .of _ fun _=>Iff.rfl
    | _=>exact .no fun k h=>h
   | _=>exact .no fun k h=>by cases y<;>exact h
  | []=>exact .no fun k h=>by simp [Qr] at h
  | [_]=>exact .no fun k h=>by simp [Qr] at h
  | _::_::_::_=>exact .no fun k h=>by simp [Qr] at h
 ·match args with
  | [x,y] =>
   cases x with
   | int k a =>
    cases y with
    | int k' b=>exact .of _ fun _=>Iff.rfl
    | _=>exact .no fun k h=>h
   | _=>exact .no fun k h=>by cases y<;>exact h
  | []=>exact .no fun k h=>by simp [Qr] at h
  | [_]=>exact .no fun k h=>by simp [Qr] at h
  | _::_::_::_=>exact .no fun k h=>by simp [Qr] at h
theorem Xif (ty:TypeId→Ty) (t:TypeId) (len:Nat) (ps:List (Nat × V)):Det (Qoi ty t len ps):=by
 unfold Qoi;split
 ·rename_i e he;split
  ·rename_i out hv;exact .and (F:=fun k=>k (.sl len out)) (q:=(ty e).ok=true∧len*(ty e).size≤16777216∧0<(ty e).size) (.of _ fun _=>Iff.rfl) fun k=>by simp [and_assoc]
  ·exact .no fun k h=>h.2.2.2
 ·exact .no fun k h=>h
theorem Qkb {C:Ctx} {cw:CW} {op:Op} (hn:Jh op=true∨Zl op=true) (ts:List V) (H:Qb) (hnil:Jv op ts):Det fun k=>opc C.ty cw op ts H fun v _=>k v:=by
 cases op with
 | move x=>exact .of _ fun _=>Iff.rfl
 | assign x=>exact .of _ fun _=>Iff.rfl
 | pick c a b=>exact Xc9 _ _ _
 | binOp o t x y yt=>exact .and (Qwo _ _ _ _ _ hnil) fun _=>Iff.rfl
 | unOp o t x=>exact Xln _ _
 | convert s d x=>exact .and (.and (Xe4 _ _) fun _=>Iff.rfl) fun _=>Iff.rfl
 | makeFunc fn a b=>exact .of _ fun _=>Iff.rfl
 | extract x i=>exact Xjp _ _
 | nilCheck x=>exact Xhy _
 | load t x=>exact .and (Xee _ _ _) fun _=>Iff.rfl
 | build t ps=>exact .and (Qzr _ _ _) fun _=>Iff.rfl
 | buildSlice t n ps =>
  have hb:Qgo ps.toList=true:=by simpa [Jh,Zl] using hn
  refine .and (F:=fun k=>Qoi C.ty t n (ps.toList.map fun p=>(p.1,ev ts p.2)) k) (q:=(C.ty t).ok=true) (Xif _ _ _ _) fun k=>?_
  simp only [opc,opw,hb,Qns]
 | slice t x lo hi mx =>
  cases mx with
  | none=>exact .and (.and (Qxh _ _ _ _ _ _) fun _=>Iff.rfl) fun _=>Iff.rfl
  | some m=>simp [Jh,Zl] at hn
 | fieldAddr t x f=>exact .and (Xnj C.ty ((C.ty t).fs[f]?) (ev ts x)) fun k=>by rw [Qfg]
 | field t x f=>exact .and (Qy5 _ _ _ _) fun _=>Iff.rfl
 | indexAddr t x i=>exact .and (Xja _ _ _ _ _) fun _=>Iff.rfl
 | index t x i=>exact .and (Qyz _ _ _ _) fun _=>Iff.rfl
 | call c =>
  obtain ⟨callee,args,ats⟩:=c;cases callee with
  | builtin b =>
   have hb:b=.len∨b=.min∨b=.max:=by
    cases b<;>simp [Jh,Zl] at hn ⊢
   exact Qtp _ b hb _ _ _
  | value f=>simp [Jh,Zl] at hn
  | invoke _ _=>simp [Jh,Zl] at hn
 | _=>simp [Jh,Zl] at hn
theorem Qlz {ts:List V} {d:Option Tmp} {v:V} {x:Operand} (h:∀ t,d=some t→x≠.tmp t):ev (Yo ts d v) x=ev ts x:=by
 cases d with
 | none=>rfl
 | some t =>
  cases x with
  | tmp u =>
   have hne:u≠t:=fun e=>h t rfl (by rw [e])
   simp only [ev,Yo,Qa4];rw [if_neg (fun h=>hne h.1)]
  | _=>rfl
theorem Xf1 {ts:List V} {i j:Nat} (h:i≠j) (x y:V):upd (upd ts i x) j y=upd (upd ts j y) i x:=by
 induction ts generalizing i j with
 | nil=>rfl
 | cons a l ih =>
  cases i with
  | zero=>cases j with
   | zero=>exact (h rfl).elim
   | succ j=>rfl
  | succ i=>cases j with
   | zero=>rfl
   | succ j=>simp only [upd];rw [ih (by omega)]
theorem Qqq {ts:List V} {d e:Option Tmp} (h:∀ t,d=some t→e≠some t) (x y:V):Yo (Yo ts d x) e y=Yo (Yo ts e y) d x:=by
 cases d with
 | none=>rfl
 | some i=>cases e with
  | none=>rfl
  | some j=>exact Xf1 (fun e=>h i rfl (by rw [e])) x y
theorem Xql {ty:TypeId→Ty} {cw:CW} {op:Op} {ts ts':List V} (h:∀ x∈op.operands,ev ts x=ev ts' x):opc ty cw op ts=opc ty cw op ts':=by
 have hp:∀ (ps:Array (Nat × Operand)),(∀ x∈(ps.toList.map (·.2)),ev ts x=ev ts' x)→(ps.toList.map fun p=>(p.1,ev ts p.2))=ps.toList.map fun p=>(p.1,ev ts' p.2):=fun ps h=>List.map_congr_left fun p hp=>by rw [h p.2 (List.mem_map_of_mem hp)]
 have ha:∀ (xs:Array Operand),(∀ x∈xs,ev ts x=ev ts' x)→xs.toList.map (ev ts)=xs.toList.map (ev ts'):=fun xs h=>List.map_congr_left fun x hx=>h x (by simpa using hx)
 have ho:∀ (o:Option Operand),(∀ x∈o,ev ts x=ev ts' x)→o.map (ev ts)=o.map (ev ts'):=fun o h=>by cases o with | none=>rfl | some x=>simp [h x rfl]
 funext H K;cases op with
 | move x=>have e:=h x (by simp [Op.operands]);simp only [opc,opw,e]
 | assign x=>have e:=h x (by simp [Op.operands]);simp only [opc,opw,e]
 | pick c a b=>have e1:=h c (by simp [Op.operands]);have e2:=h a (by simp [Op.operands]);have e3:=h b (by simp [Op.operands]);simp only [opc,opw,e1,e2,e3]
 | binOp o t x y yt=>have e1:=h x (by simp [Op.operands]);have e2:=h y (by simp [Op.operands]);simp only [opc,opw,e1,e2]
 | unOp o t x=>have e:=h x (by simp [Op.operands]);simp only [opc,opw,e]
 | convert s d x=>have e:=h x (by simp [Op.operands]);simp only [opc,opw,e]
 | makeFunc fn first caps=>simp only [opc,opw,ha first (fun x hx=>h x (by simp [Op.operands,hx])),ha caps (fun x hx=>h x (by simp [Op.operands,hx]))]
 | extract x i=>have e:=h x (by simp [Op.operands]);simp only [opc,opw,e]
 | nilCheck x=>have e:=h x (by simp [Op.operands]);simp only [opc,opw,e]
 | load t x=>have e:=h x (by simp [Op.operands]);simp only [opc,opw,e]
 | store t x v=>have e1:=h x (by simp [Op.operands]);have e2:=h v (by simp [Op.operands]);simp only [opc,opw,e1,e2]
 | box t x=>have e:=h x (by simp [Op.operands]);simp only [opc,opw,e]
 | alloc t=>rfl
 | build t ps=>simp only [opc,opw,hp ps (fun x hx=>h x (by simpa [Op.operands] using hx))]
 | buildSlice t n ps=>simp only [opc,opw,hp ps (fun x hx=>h x (by simpa [Op.operands] using hx))]
 | makeSlice t a v=>have e1:=h a (by simp [Op.operands]);have e2:=h v (by simp [Op.operands]);simp only [opc,opw,e1,e2]
 | slice t x lo hi mx =>
  have e:=h x (by simp [Op.operands])
  have e1:=ho lo (fun y hy=>h y (by simp only [Option.mem_def] at hy;simp [Op.operands,hy]))
  have e2:=ho hi (fun y hy=>h y (by simp only [Option.mem_def] at hy;simp [Op.operands,hy]))
  simp only [opc,opw,e,e1,e2]
 | fieldAddr t x f=>have e:=h x (by simp [Op.operands]);simp only [opc,opw,e]
 | field t x f=>have e:=h x (by simp [Op.operands]);simp only [opc,opw,e]
 | indexAddr t x i=>have e1:=h x (by simp [Op.operands]);have e2:=h i (by simp [Op.operands]);simp only [opc,opw,e1,e2]
 | index t x i=>have e1:=h x (by simp [Op.operands]);have e2:=h i (by simp [Op.operands]);simp only [opc,opw,e1,e2]
 | call c =>
  obtain ⟨callee,args,ats⟩:=c
  have e:=ha args (fun x hx=>h x (by simp [Op.operands,Call.operands,hx]))
  cases callee with
  | builtin b=>simp only [opc,e]
  | value f =>
   have ef:=h f (by simp [Op.operands,Call.operands])
   simp only [opc,e,ef]
  | invoke _ _=>rfl
 | _=>rfl
theorem Qu9 {op:Op} {ts ts':List V} (h:∀ x∈op.operands,ev ts x=ev ts' x):Jv op ts=Jv op ts':=by
 cases op with
 | binOp o t x y yt=>have e2:=h y (by simp [Op.operands]);simp only [Jv,e2]
 | _=>rfl
theorem Xdp {C:Ctx} {cw:CW} {op:Op} {ts ts':List V} {H0:Qb} (h:∀ x∈op.operands,ev ts x=ev ts' x):opd C cw op ts H0=opd C cw op ts' H0:=by
 funext H K;simp only [opd,Xql h,Qu9 h]
theorem Qrx {C:Ctx} {cw:CW} {ops:Array Oper} {H0:Qb} {o:Oper} {ts:List V} {d:Option Tmp} {v:V} (h:∀ t,d=some t→t ∉ o.looksAt ops):tro C cw ops H0 o (Yo ts d v)=tro C cw ops H0 o ts:=by
 have e:opd C cw o.op (Yo ts d v) H0=opd C cw o.op ts H0:=Xdp fun x hx=>Qlz fun t ht hxt=>h t ht (by
  subst hxt;exact List.mem_append_left _ (List.mem_filterMap.2 ⟨.tmp t,by simpa using hx,rfl⟩))
 funext H K;simp only [tro,e];cases hg:o.guard with
 | none=>rfl
 | some g =>
  obtain ⟨j,want⟩:=g;simp only [Qcs];cases hd:(ops[j]?).bind (·.dst) with
  | none=>rfl
  | some u =>
   have hu:nth (Yo ts d v) u=nth ts u:=by
    cases d with
    | none=>rfl
    | some t =>
     have hne:u≠t:=fun e=>h t rfl (by subst e;simp [Oper.looksAt,hg,hd])
     simp only [Yo,Qa4];rw [if_neg (fun h=>hne h.1)]
   simp only [hu]
def known (op:Op):Bool:=if Yi op then Qek op||Jg op||Qi3 op else Jh op||Zl op
theorem Qzj {y:Ty} {d x:V} {H:Qb} {K K':V→Qb→Prop} (hK:∀ v H',K v H'→K' v H') (h:Qdm y d x H K):Qdm y d x H K':=by
 revert h
 unfold Qdm;split
 ·split
  ·exact fun h=>⟨h.1,h.2.1,h.2.2.1,h.2.2.2.1,h.2.2.2.2.1,h.2.2.2.2.2.1,hK _ _ h.2.2.2.2.2.2⟩
  ·exact id
 ·exact id
theorem Qtg {y:Ty} {d x:V} {H:Qb} {p:Prop} (h:Qdm y d x H fun _ _=>p):p:=by
 revert h
 unfold Qdm;split
 ·split
  ·exact fun h=>h.2.2.2.2.2.2
  ·exact fun h=>h.elim
 ·exact fun h=>h.elim
theorem Qjm {ty:TypeId→Ty} {ats:List TypeId} {args:List V} {H:Qb} {K K':V→Qb→Prop} (hK:∀ v H',K v H'→K' v H') (h:Qr ty .copy ats args H K):Qr ty .copy ats args H K':=by
 match ats,args with
 | [t,t'],[s,x] =>
  simp only [Qr] at h ⊢;obtain ⟨h2,h3⟩:=h;refine ⟨h2, ?_⟩
  revert h3
  split
  ·exact fun h=>⟨h.1,Qzj hK h.2⟩
  ·exact id
 | [],_=>simp [Qr] at h
 | [_],_=>simp [Qr] at h
 | _::_::_::_,_=>simp [Qr] at h
 | [_,_],[]=>simp [Qr] at h
 | [_,_],[_]=>simp [Qr] at h
 | [_,_],_::_::_::_=>simp [Qr] at h
theorem Qhy {ty:TypeId→Ty} {ats:List TypeId} {args:List V} {H:Qb} {p:Prop} (h:Qr ty .copy ats args H fun _ _=>p):p:=by
 match ats,args with
 | [t,t'],[s,x] =>
  simp only [Qr] at h;obtain ⟨h2,h3⟩:=h
  revert h3
  split
  ·exact fun h=>Qtg h.2
  ·exact fun h=>h.elim
 | [],_=>simp [Qr] at h
 | [_],_=>simp [Qr] at h
 | _::_::_::_,_=>simp [Qr] at h
 | [_,_],[]=>simp [Qr] at h
 | [_,_],[_]=>simp [Qr] at h
 | [_,_],_::_::_::_=>simp [Qr] at h
theorem Qjg {op:Op} (h:Qi3 op=true):∃ c,op=.call c∧(c.callee=.builtin .append∨c.callee=.builtin .copy):=by
 unfold Qi3 at h;split at h
 ·rename_i c;split at h
  ·rename_i hc;exact ⟨c,rfl,.inl hc⟩
  ·rename_i hc;exact ⟨c,rfl,.inr hc⟩
  ·cases h
 ·cases h
theorem Qkc {C:Ctx} {cw:CW} {op:Op} {ts:List V} {H:Qb} {K K':V→Qb→Prop} (hn:Qi3 op=true) (hK:∀ v H',K v H'→K' v H') (h:opc C.ty cw op ts H K):opc C.ty cw op ts H K':=by
 obtain ⟨c,rfl,hc⟩:=Qjg hn;rcases hc with hc | hc
 ·simp only [opc,hc] at h ⊢;exact Qe9 hK h
 ·simp only [opc,hc] at h ⊢;exact Qjm hK h
theorem Qoc {C:Ctx} {cw:CW} {op:Op} {ts:List V} {H:Qb} {p:Prop} (hn:Qi3 op=true) (h:opc C.ty cw op ts H fun _ _=>p):p:=by
 obtain ⟨c,rfl,hc⟩:=Qjg hn;rcases hc with hc | hc
 ·simp only [opc,hc] at h;exact Qdn h
 ·simp only [opc,hc] at h;exact Qhy h
theorem Xbl {y:Ty} {op:BinOp} {a b:V} {H0 H:Qb} {K:V→Prop} (hb:Qef b=true) (h:Qey y op a b H0 K):Qey y op a b H K:=by
 cases b with
 | nil=>cases hb
 | _=>cases a<;>exact h
theorem Quz {C:Ctx} {cw:CW} {op:Op} {ts:List V} {H0 H:Qb} {K:V→Qb→Prop} (hn:Qb8 op=true) (hnil:Jv op ts) (h:opc C.ty cw op ts H0 fun v _=>K v H):opc C.ty cw op ts H K:=by
 cases op with
 | call c =>
  simp only [Qb8] at hn;split at hn
  ·rename_i hc;simp only [opc,hc] at h ⊢
   revert h
   generalize c.argTypes.toList=ats;generalize (c.args.toList.map (ev ts))=args
   match ats,args with
   | [t],[x]=>exact id
   | [],_=>intro h;simp [Qr] at h
   | _::_::_,_=>intro h;simp [Qr] at h
   | [_],[]=>intro h;simp [Qr] at h
   | [_],_::_::_=>intro h;simp [Qr] at h
  ·cases hn
 | buildSlice t n ps =>
  have hb:Qgo ps.toList=true:=by simpa [Qb8] using hn
  simp only [opc,opw,hb,Qns] at h ⊢;exact h
 | binOp o t x y yt=>exact ⟨h.1,Xbl hnil h.2⟩
 | move _ | assign _ | pick _ _ _ | unOp _ _ _ | convert _ _ _ | makeFunc _ _ _ | extract _ _ | nilCheck _ | build _ _ | fieldAddr _ _ _ | field _ _ _ | index _ _ _=>exact h
 | _=>simp [Qb8] at hn
theorem Qb0 {C:Ctx} {cw:CW} {HH:Qb} (hcw:CWok cw HH) {ops:Array Oper} {H0:Qb} {o:Oper} {ts:List V} {H:Qb} {K K':V→Qb→Prop} (hk:known o.op=true) (hK:∀ v H',K v H'→K' v H') (h:tro C cw ops H0 o ts H K):tro C cw ops H0 o ts H K':=by
 have main:opd C cw o.op ts H0 H K→opd C cw o.op ts H0 H K':=by
  unfold opd known at *;split
  ·rename_i he;simp only [he,if_true,Bool.or_eq_true] at hk;rcases hk with hk | hk
   ·exact Qoa hcw hk hK
   ·exact Qkc hk hK
  ·rename_i he;simp only [he,Bool.false_eq_true,if_false,Bool.or_eq_true] at hk;rintro ⟨h1,h2⟩;obtain ⟨p,v,hd⟩:=Qkb hk ts H0 h1;refine ⟨h1,(hd (fun v=>K' v H)).2 ?_⟩
   have:=(hd (fun v=>K v H)).1 h2
   exact ⟨this.1,hK _ _ this.2⟩
 revert h
 unfold tro Qcs;split
 ·exact main
 ·split
  ·split
   ·exact fun h=>⟨fun e=>main (h.1 e),fun e=>hK _ _ (h.2 e)⟩
   ·exact hK _ _
   ·exact id
  ·exact id
theorem Qni {C:Ctx} {cw:CW} {HH:Qb} (hcw:CWok cw HH) {ops:Array Oper} {H0:Qb} {o:Oper} {ts:List V} {H:Qb} {p:Prop} (hk:known o.op=true) (h:tro C cw ops H0 o ts H fun _ _=>p):p:=by
 have main:opd C cw o.op ts H0 H (fun _ _=>p)→p:=by
  unfold opd known at *;split
  ·rename_i he;simp only [he,if_true,Bool.or_eq_true] at hk;rcases hk with hk | hk
   ·exact Qyc hcw hk
   ·exact Qoc hk
  ·rename_i he;simp only [he,Bool.false_eq_true,if_false,Bool.or_eq_true] at hk;rintro ⟨h1,h2⟩;obtain ⟨q,v,hd⟩:=Qkb hk ts H0 h1;exact ((hd (fun _=>p)).1 h2).2
 revert h
 unfold tro Qcs;split
 ·exact main
 ·split
  ·split
   ·rename_i want _ _ _ _ _ b _;intro h;by_cases hb:b=want
    ·exact main (h.1 hb)
    ·exact h.2 hb
   ·exact id
   ·exact fun h=>h.elim
  ·exact fun h=>h.elim
theorem Xam {C:Ctx} {cw:CW} {ops:Array Oper} {H0:Qb} {o:Oper} (ts:List V) (hk:known o.op=true) (he:Yi o.op=false):∃ p v,∀ H K,tro C cw ops H0 o ts H K↔(p∧K v H):=by
 have main:∃ p v,∀ H K,opd C cw o.op ts H0 H K↔(p∧K v H):=by
  simp only [known,he,Bool.false_eq_true,if_false,Bool.or_eq_true] at hk;by_cases h1:Jv o.op ts
  ·obtain ⟨q,v,hd⟩:=Qkb (C:=C) hk ts H0 h1;refine ⟨q,v,fun H K=>?_⟩
   simp only [opd,he,Bool.false_eq_true,if_false,h1,true_and];exact hd fun v=>K v H
  ·exact ⟨False,.any,fun H K=>by simp [opd,he,h1]⟩
 unfold tro Qcs;split
 ·exact main
 ·split
  ·split
   ·rename_i want _ _ _ _ _ b _;by_cases hb:b=want
    ·obtain ⟨p,v,h⟩:=main;exact ⟨p,v,fun H K=>by simp [hb,h]⟩
    ·exact ⟨True,.tup [],fun H K=>by simp [hb]⟩
   ·exact ⟨True,.tup [],fun H K=>by simp⟩
   ·exact ⟨False,.any,fun H K=>by simp⟩
  ·exact ⟨False,.any,fun H K=>by simp⟩
theorem Xf2 {C:Ctx} {cw:CW} {HH:Qb} (hcw:CWok cw HH) {ops:Array Oper} {H0:Qb} {x y:Oper} {ts:List V} {H:Qb} {K:List V→Qb→Prop} (hx:known x.op=true) (hy:known y.op=true) (hap:x.apart ops y=true) (he:Yi x.op=false∨Yi y.op=false)
  (h:tro C cw ops H0 x ts H fun v H1=>tro C cw ops H0 y (Yo ts x.dst v) H1 fun u H2=>K (Yo (Yo ts x.dst v) y.dst u) H2) :
  tro C cw ops H0 y ts H fun u H1=>tro C cw ops H0 x (Yo ts y.dst u) H1 fun v H2=>K (Yo (Yo ts y.dst u) x.dst v) H2:=by
 obtain ⟨h1,h2,h3⟩:=Oper.apart_spec hap;simp only [Qrx h1] at h;simp only [Qrx h3]
 have e:∀ u v,Yo (Yo ts y.dst u) x.dst v=Yo (Yo ts x.dst v) y.dst u:=fun u v=>(Qqq h2 v u).symm
 simp only [e];rcases he with he | he
 ·obtain ⟨p,v,hd⟩:=Xam (C:=C) (cw:=cw) (ops:=ops) (H0:=H0) ts hx he;simp only [hd] at h ⊢;refine Qb0 hcw hy (fun _ _ h'=>h') ?_
  obtain ⟨hp,h⟩:=h;exact Qb0 hcw hy (fun _ _ h'=>⟨hp,h'⟩) h
 ·obtain ⟨p,u,hd⟩:=Xam (C:=C) (cw:=cw) (ops:=ops) (H0:=H0) ts hy he;simp only [hd] at h ⊢;exact ⟨Qni hcw hx (Qb0 hcw hx (fun _ _ h'=>h'.1) h),Qb0 hcw hx (fun _ _ h'=>h'.2) h⟩
def Qai (C:Ctx) (cw:CW) (ops:Array Oper) (H0:Qb) (K:List V→Qb→Prop):List Nat→List V→Qb→Prop
 | [],ts,H=>K ts H
 | i::rest,ts,H=>match ops[i]? with
  | none=>Qai C cw ops H0 K rest ts H
  | some o=>tro C cw ops H0 o ts H fun v H'=>Qai C cw ops H0 K rest (Yo ts o.dst v) H'
def Zv (ops:Array Oper):Bool:=ops.toList.all fun o=>known o.op
theorem Jd {ops:Array Oper} (h:Zv ops=true) {i:Nat} {o:Oper} (ho:ops[i]?=some o):known o.op=true:=by
 simp only [Zv,List.all_eq_true] at h;exact h o (by simpa using Array.mem_of_getElem? ho)
def Kl (ops:Array Oper) (i j:Nat):Bool:=match ops[i]?,ops[j]? with
 | some x,some y=>x.apart ops y&&(!Yi x.op||!Yi y.op)
 | _,_=>true
theorem Xdk {C:Ctx} {cw:CW} {HH:Qb} (hcw:CWok cw HH) {ops:Array Oper} {H0:Qb} {K:List V→Qb→Prop} {i j:Nat} {rest:List Nat} {ts:List V} {H:Qb} (hk:Zv ops=true) (hp:Kl ops i j=true) (h:Qai C cw ops H0 K (i::j::rest) ts H):Qai C cw ops H0 K (j::i::rest) ts H:=by
 simp only [Qai] at h ⊢;cases hi:ops[i]? with
 | none=>simp only [hi] at h ⊢;cases hj:ops[j]? with
  | none=>simpa only [hj] using h
  | some y=>simpa only [hj] using h
 | some x=>cases hj:ops[j]? with
  | none=>simp only [hi,hj] at h ⊢;exact h
  | some y =>
   simp only [hi,hj] at h ⊢;simp only [Kl,hi,hj,Bool.and_eq_true,Bool.or_eq_true,Bool.not_eq_true'] at hp;exact Xf2 hcw (Jd hk hi) (Jd hk hj) hp.1 hp.2 h
theorem Xdj {C:Ctx} {cw:CW} {HH:Qb} (hcw:CWok cw HH) {ops:Array Oper} {H0:Qb} {K:List V→Qb→Prop} {l l':List Nat} (hk:Zv ops=true) (hl:∀ ts H,Qai C cw ops H0 K l ts H→Qai C cw ops H0 K l' ts H) (i:Nat) {ts:List V} {H:Qb} (h:Qai C cw ops H0 K (i::l) ts H):Qai C cw ops H0 K (i::l') ts H:=by
 simp only [Qai] at h ⊢;cases hi:ops[i]? with
 | none=>simp only [hi] at h ⊢;exact hl _ _ h
 | some x=>simp only [hi] at h ⊢;exact Qb0 hcw (Jd hk hi) (fun _ _ h=>hl _ _ h) h
theorem Qc3 {C:Ctx} {cw:CW} {HH:Qb} (hcw:CWok cw HH) {ops:Array Oper} {H0:Qb} {K:List V→Qb→Prop} (hk:Zv ops=true) {i:Nat} (l2:List Nat):∀ (l1:List Nat),(∀ j∈l1,Kl ops j i=true)→∀ ts H,Qai C cw ops H0 K (l1++i::l2) ts H→Qai C cw ops H0 K (i::(l1++l2)) ts H
 | [],_,ts,H,h=>h
 | j::l1,hp,ts,H,h=>Xdk hcw hk (hp j (by simp)) (Xdj hcw hk (Qc3 hcw hk l2 l1 fun j hj=>hp j (by simp [hj])) j h)
theorem Xml {C:Ctx} {cw:CW} {HH:Qb} (hcw:CWok cw HH) {op:Op} {ts:List V} {H:Qb} {K:V→Qb→Prop} (hn:Qek op=true) (h:opc C.ty cw op ts H K):opc C.ty cw op ts H fun v H'=>Kp HH H H'∧K v H':=by
 cases op with
 | alloc t=>exact ⟨h.1,.of (.app _ _),h.2⟩
 | box t x=>exact ⟨h.1,.of (.app _ _),h.2⟩
 | buildSlice t n ps =>
  have hb:Qgo ps.toList=false:=by simpa [Qek,Jg] using hn
  simp only [opc,opw,hb,Qr5,Qfa] at h ⊢;refine ⟨h.1, ?_⟩
  have h:=h.2
  unfold bso at h ⊢;split
  ·rename_i e he;rw [he] at h;obtain ⟨h1,h2,h3,h4⟩:=h;refine ⟨h1,h2,h3, ?_⟩;unfold Qgn at h4 ⊢;split
   ·rename_i l hl;rw [hl] at h4;exact ⟨.of (.app _ _),h4⟩
   ·rename_i hl;rw [hl] at h4;exact h4
  ·rename_i he;rw [he] at h;exact h
 | makeSlice t l c =>
  simp only [opc,opw] at h ⊢;refine ⟨h.1, ?_⟩
  have h:=h.2
  revert h
  unfold Qci;split
  ·rintro ⟨h1,h2,h3,h4,h5,h6⟩;exact ⟨h1,h2,h3,h4,h5,.of (.app _ _),h6⟩
  ·exact id
 | call c =>
  simp only [opc] at h ⊢;cases hc:c.callee with
  | value f =>
   rw [hc] at h;exact hcw.new h
  | builtin b =>
   rw [hc] at h;obtain ⟨rfl,hnf⟩:=Qfi hc hn;obtain ⟨l,hl⟩:=Qp0 hnf ts;simp only [hl] at h ⊢;exact Ql3 h
  | invoke _ _=>simp [Qek,hc] at hn
 | _=>simp [Qek] at hn
theorem Qyd {C:Ctx} {cw:CW} {op:Op} {ts:List V} {H:Qb} {K:V→Qb→Prop} (hn:Jg op=true) (h:opc C.ty cw op ts H K):opc C.ty cw op ts H fun v H'=>Stand H H'∧K v H':=by
 cases op with
 | store t x v =>
  simp only [opc,opw] at h ⊢;refine ⟨h.1, ?_⟩
  have h:=h.2
  unfold Qcj at h ⊢;split
  ·rename_i r off hx;simp only [hx] at h;split
   ·rename_i row hrow;simp only [hrow] at h;exact ⟨h.1,h.2.1,h.2.2.1,.set _ _ _,h.2.2.2⟩
   ·rename_i hrow;simp only [hrow] at h
  ·rename_i hne;split at h
   ·rename_i r off hx;exact (hne _ _ hx).elim
   ·exact h
 | _=>simp [Jg] at hn
theorem Xcc {ty:TypeId→Ty} {y:Ty} {x:V} {lo hi:Option V} {H0 H:Qb} {K:V→Prop} (hl:Stand H0 H) (h:Xy ty y x lo hi H0 K):Xy ty y x lo hi H K:=by
 cases hs:y.sl with
 | none=>simp [Xy,hs] at h
 | some e =>
  cases lo with
  | none=>cases hi with
   | none=>simp [Xy,hs] at h
   | some v=>cases v with
    | int kk n=>cases x with
     | ref r off m=>simp only [Xy,hs] at h ⊢;exact ⟨h.1,h.2.1,h.2.2.1,hl _ h.2.2.2.1,h.2.2.2.2⟩
     | _=>simp only [Xy,hs] at h ⊢;exact h
    | _=>simp [Xy,hs] at h
  | some u=>cases u with
   | int k0 l=>cases hi with
    | none=>cases x with
     | ref r off m=>simp only [Xy,hs] at h ⊢;exact ⟨h.1,h.2.1,h.2.2.1,hl _ h.2.2.2.1,h.2.2.2.2⟩
     | _=>simp only [Xy,hs] at h ⊢;exact h
    | some v=>cases v with
     | int kk n=>cases x with
      | ref r off m=>simp only [Xy,hs] at h ⊢;exact ⟨h.1,h.2.1,h.2.2.1,h.2.2.2.1,hl _ h.2.2.2.2.1,h.2.2.2.2.2⟩
      | _=>simp only [Xy,hs] at h ⊢;exact h
     | _=>simp [Xy,hs] at h
   | _=>cases hi<;>simp [Xy,hs] at h
theorem Xie {y:Ty} {x:V} {H0 H:Qb} {K:V→Prop} (hl:Same H0 H) (h:Qc7 y x H0 K):Qc7 y x H K:=by
 cases x with
 | ptr r off =>
  simp only [Qc7] at h ⊢;cases hrow:Qc H0 r with
  | none=>rw [hrow] at h;exact h.elim
  | some row=>rw [hrow] at h;rw [hl r row hrow];exact h
 | _=>exact h
theorem Qyb {C:Ctx} {cw:CW} {op:Op} {ts:List V} {H0 H:Qb} {K:V→Qb→Prop} (hn:(Jh op=true∧Stand H0 H)∨(Zl op=true∧Same H0 H)) (hnil:Jv op ts) (h:opc C.ty cw op ts H0 fun v _=>K v H):opc C.ty cw op ts H K:=by
 rcases hn with ⟨hn,hl⟩ | ⟨hn,hl⟩
 ·cases op with
  | binOp o t x y yt=>exact ⟨h.1,Xbl hnil h.2⟩
  | slice t x lo hi mx=>exact ⟨h.1,h.2.1,Xcc hl h.2.2⟩
  | indexAddr t x i =>
   simp only [opc,opw] at h ⊢;refine ⟨h.1, ?_,h.2.2⟩
   have h:=h.2.1
   revert h
   cases ev ts x<;>first | exact hl _ | exact id
  | call c =>
   obtain ⟨callee,args,ats⟩:=c;cases callee with
   | builtin b =>
    have hb:b=.len∨b=.min∨b=.max:=by
     cases b<;>simp [Jh] at hn ⊢
    simp only [opc] at h ⊢
    revert h
    generalize ats.toList=ats',args.toList.map (ev ts)=args';rcases hb with rfl | rfl | rfl
    ·match ats',args' with
     | [t],[x]=>exact id
     | [],_=>exact fun h=>h.elim
     | [_],[]=>exact fun h=>h.elim
     | [_],_::_::_=>exact fun h=>h.elim
     | _::_::_,_=>exact fun h=>h.elim
    ·match args' with
     | [x,y]=>cases x<;>cases y<;>exact id
     | []=>intro h;simp [Qr] at h
     | [_]=>intro h;simp [Qr] at h
     | _::_::_::_=>intro h;simp [Qr] at h
    ·match args' with
     | [x,y]=>cases x<;>cases y<;>exact id
     | []=>intro h;simp [Qr] at h
     | [_]=>intro h;simp [Qr] at h
     | _::_::_::_=>intro h;simp [Qr] at h
   | value f=>simp [Jh] at hn
   | invoke _ _=>simp [Jh] at hn
  | buildSlice t n ps =>
   have hb:Qgo ps.toList=true:=by simpa [Jh] using hn
   simp only [opc,opw,hb,Qns] at h ⊢;exact h
  | move _ | assign _ | pick _ _ _ | unOp _ _ _ | convert _ _ _ | makeFunc _ _ _ | extract _ _ | nilCheck _ | build _ _ | fieldAddr _ _ _ | field _ _ _ | index _ _ _=>exact h
  | _=>simp [Jh] at hn
 ·cases op with
  | load t x=>exact ⟨h.1,Xie hl h.2⟩
  | _=>simp [Zl] at hn
def Yn (o:Oper) (j:Nat):Bool:=o.after.toList.any fun e=>Region.binds .any e&&e.on==j
def Qae (ops:Array Oper):Nat→Nat→Nat→Bool
 | 0,_,_=>false
 | fuel+1,j,i=>match ops[i]? with
  | none=>false
  | some o=>Yn o j||o.after.toList.any fun e=>Region.binds .any e&&(match ops[e.on]? with | some p=>Yi p.op||decide (j<e.on) | none=>false)&&Qae ops fuel j e.on
def Qbd (ops:Array Oper):Nat→Nat→Nat→Bool
 | 0,_,_=>false
 | fuel+1,j,i=>match ops[i]? with
  | none=>false
  | some o=>Yn o j||o.after.toList.any fun e=>Region.binds .any e&&decide (j<e.on)&&Qbd ops fuel j e.on
def Qdi (ops:Array Oper):Bool :=
 Zv ops &&
 (List.range ops.size).all fun i=>match ops[i]? with
  | none=>true
  | some o =>
   (o.after.toList.all fun e=>!Region.binds .any e||decide (e.on<i)) &&
   ((List.range i).all fun j=>Kl ops j i||Qae ops i j i) &&
   (!Jg o.op||(List.range ops.size).all fun j=>match ops[j]? with
    | some p=>!Zl p.op||Qbd ops i j i
    | none=>true) &&
   (!Qi3 o.op||(List.range ops.size).all fun j=>match ops[j]? with
    | some p=>Qb8 p.op||Yi p.op||Qbd ops i j i
    | none=>true)
def Qjr (ops:Array Oper) (listed:Array Bool):Prop:=∀ i o,ops[i]?=some o→listed.getD i false=true→∀ j,Yn o j=true→listed.getD j false=true
theorem Qce {ops:Array Oper} {listed:Array Bool} (hc:Qjr ops listed):∀ (fuel j i:Nat) (o:Oper),ops[i]?=some o→(∀ k,Yn o k=true→listed.getD k false=true)→Qae ops fuel j i=true→listed.getD j false=true:=by
 intro fuel
 induction fuel with
 | zero=>intro j i o ho hb h;simp [Qae] at h
 | succ fuel ih =>
  intro j i o ho hb h;simp only [Qae,ho,Bool.or_eq_true,List.any_eq_true,Bool.and_eq_true] at h;rcases h with h | ⟨e,he,⟨h1,h2⟩,h3⟩
  ·exact hb j h
  ·have hl:listed.getD e.on false=true:=hb e.on (by simp only [Yn,List.any_eq_true,Bool.and_eq_true];exact ⟨e,he,h1,by simp⟩)
   cases hp:ops[e.on]? with
   | none=>simp [hp] at h2
   | some p=>exact ih j e.on p hp (hc e.on p hp hl) h3
theorem Qah {ops:Array Oper} {listed:Array Bool} (hc:Qjr ops listed):∀ (fuel j i:Nat) (o:Oper),ops[i]?=some o→(∀ k,Yn o k=true→listed.getD k false=true)→Qbd ops fuel j i=true→listed.getD j false=true:=by
 intro fuel
 induction fuel with
 | zero=>intro j i o ho hb h;simp [Qbd] at h
 | succ fuel ih =>
  intro j i o ho hb h;simp only [Qbd,ho,Bool.or_eq_true,List.any_eq_true,Bool.and_eq_true] at h;rcases h with h | ⟨e,he,⟨h1,h2⟩,h3⟩
  ·exact hb j h
  ·have hl:listed.getD e.on false=true:=hb e.on (by simp only [Yn,List.any_eq_true,Bool.and_eq_true];exact ⟨e,he,h1,by simp⟩)
   cases hp:ops[e.on]? with
   | none =>
    cases fuel with
    | zero=>simp [Qbd] at h3
    | succ f=>simp [Qbd,hp] at h3
   | some p=>exact ih j e.on p hp (hc e.on p hp hl) h3
theorem Qlp {C:Ctx} {cw:CW} {H0:Qb} (hcw:CWok cw H0) {op:Op} {ts:List V} {H:Qb} {K:V→Qb→Prop} (hk:known op=true) (hS:Same H0 H∨(Stand H0 H∧Zl op=false)∨(Qb8 op=true∨Yi op=true)) (h:opd C cw op ts H0 H K) :
  opc C.ty cw op ts H fun v H'=>(Kp H0 H H'∨(Jg op=true∧Stand H H')∨Qi3 op=true)∧K v H':=by
 unfold opd known at *;split at h
 ·rename_i he;simp only [he,if_true,Bool.or_eq_true] at hk;rcases hk with (hk | hk) | hk
  ·exact Qoa hcw (.inl hk) (fun v H' h=>⟨.inl h.1,h.2⟩) (Xml hcw hk h)
  ·exact Qoa hcw (.inr hk) (fun v H' h=>⟨.inr (.inl ⟨hk,h.1⟩),h.2⟩) (Qyd hk h)
  ·exact Qkc hk (fun v H' h=>⟨.inr (.inr hk),h⟩) h
 ·rename_i he;simp only [he,Bool.false_eq_true,if_false,Bool.or_eq_true] at hk;obtain ⟨h1,h2⟩:=h;obtain ⟨p,v,hd⟩:=Qkb (C:=C) hk ts H0 h1
  have h2:=(hd (fun v=>K v H)).1 h2
  have h2':=(hd fun v=>(Kp H0 H H∨(Jg op=true∧Stand H H)∨Qi3 op=true)∧K v H).2 ⟨h2.1,(.inl (Kp.refl _ _)),h2.2⟩
  rcases hS with hS | hS | hS
  ·refine Qyb ?_ h1 h2';rcases hk with hk | hk
   ·exact .inl ⟨hk,hS.stand⟩
   ·exact .inr ⟨hk,hS⟩
  ·refine Qyb ?_ h1 h2';rcases hk with hk | hk
   ·exact .inl ⟨hk,hS.1⟩
   ·have:=hS.2;rw [hk] at this;cases this
  ·rcases hS with hS | hS
   ·exact Quz hS h1 h2'
   ·exact (he hS).elim
theorem Qcm {ops:Array Oper} {listed:Array Bool} {i:Nat} (h:i∈Region.ready .any ops listed):listed.getD i true=false∧∃ o,ops[i]?=some o∧∀ j,Yn o j=true→listed.getD j false=true:=by
 obtain ⟨h1,o,h2,h3⟩:=mem_ready.1 h;refine ⟨h1,o,h2,fun j hj=>?_⟩
 simp only [Yn,List.any_eq_true,Bool.and_eq_true] at hj;obtain ⟨e,he,h4,h5⟩:=hj
 have:=h3 e (by simpa using he) h4
 rw [beq_iff_eq] at h5
 rwa [h5] at this
structure Left (ops:Array Oper) (listed:Array Bool) (S:List Nat):Prop where
 size:listed.size=ops.size
 sorted:S.Pairwise (·<·)
 mem:∀ i,i∈S↔i<ops.size∧listed.getD i false=false
 closed:Qjr ops listed
theorem Left.take {ops:Array Oper} {listed:Array Bool} {l1 l2:List Nat} {i:Nat} {o:Oper} (h:Left ops listed (l1++i::l2)) (ho:ops[i]?=some o) (hb:∀ j,Yn o j=true→listed.getD j false=true):Left ops (listed.setIfInBounds i true) (l1++l2):=by
 have hi:=(h.mem i).1 (by simp)
 have hlt:i<listed.size:=by rw [h.size];exact hi.1
 have hget:∀ j,(listed.setIfInBounds i true).getD j false=if i=j then true else listed.getD j false:=fun j=>by
  simp only [Array.getD_eq_getD_getElem?,Array.getElem?_setIfInBounds];split
  ·simp [hlt]
  ·rfl
 have hs:=h.sorted
 rw [List.pairwise_append] at hs;obtain ⟨s1,s2,s3⟩:=hs;rw [List.pairwise_cons] at s2;refine ⟨by simp [h.size],List.pairwise_append.2 ⟨s1,s2.2,fun a ha b hb'=>s3 a ha b (by simp [hb'])⟩,fun j=>?_,fun k p hp hl j hj=>?_⟩
 ·rw [hget]
  have hm:=h.mem j
  simp only [List.mem_append,List.mem_cons] at hm ⊢;by_cases e:i=j
  ·subst e;simp only [if_true,Bool.true_eq_false,and_false,iff_false];rintro (h1 | h1)
   ·have:=s3 i h1 i (by simp);omega
   ·have:=s2.1 i h1;omega
  ·rw [if_neg e];rw [← hm];constructor
   ·rintro (h1 | h1)
    ·exact .inl h1
    ·exact .inr (.inr h1)
   ·rintro (h1 | h1 | h1)
    ·exact .inl h1
    ·exact (e h1.symm).elim
    ·exact .inr h1
 ·rw [hget] at hl ⊢;split
  ·rfl
  ·split at hl
   ·rename_i e;subst e;rw [ho] at hp;cases hp;exact hb j hj
   ·exact h.closed k p hp hl j hj
def Hat (ops:Array Oper) (G:Nat→Prop) (i:Nat) (o:Oper):Prop:=(∀ j,Yn o j=true→j<i)∧(∀ j,j<i→G j→Kl ops j i=true∨Qae ops i j i=true)∧(Jg o.op=true→∀ j p,ops[j]?=some p→Zl p.op=true→Qbd ops i j i=true) ∧
   (Qi3 o.op=true→∀ j p,ops[j]?=some p→(Qb8 p.op=true∨Yi p.op=true)∨Qbd ops i j i=true)
theorem Qjh {ops:Array Oper} (hok:Qdi ops=true) (G:Nat→Prop):∀ i o,ops[i]?=some o→G i→Hat ops G i o:=by
 intro i o ho _
 have hlt:i<ops.size:=(Array.getElem?_eq_some_iff.1 ho).1
 simp only [Qdi,Bool.and_eq_true,List.all_eq_true,List.mem_range] at hok
 have h:=hok.2 i hlt
 simp only [ho,Bool.and_eq_true,List.all_eq_true,List.mem_range,Bool.or_eq_true,Bool.not_eq_true',decide_eq_true_eq] at h;refine ⟨fun j hj=>?_,fun j hj _=>h.1.1.2 j hj,fun hs j p hp hl=>?_,fun hs j p hp=>?_⟩
 ·simp only [Yn,List.any_eq_true,Bool.and_eq_true] at hj;obtain ⟨e,he,h4,h5⟩:=hj;rw [beq_iff_eq] at h5;subst h5;rcases h.1.1.1 e he with h6 | h6
  ·rw [h4] at h6;cases h6
  ·exact h6
 ·have hlj:j<ops.size:=(Array.getElem?_eq_some_iff.1 hp).1
  rcases h.1.2 with h6 | h6
  ·rw [hs] at h6;cases h6
  ·have:=h6 j hlj
   simp only [hp,Bool.or_eq_true,Bool.not_eq_true',hl,Bool.true_eq_false,false_or] at this;exact this
 ·have hlj:j<ops.size:=(Array.getElem?_eq_some_iff.1 hp).1
  rcases h.2 with h6 | h6
  ·rw [hs] at h6;cases h6
  ·have:=h6 j hlj
   simp only [hp,Bool.or_eq_true] at this;exact this
theorem Qwu {C:Ctx} {ro:Option Nat} {ops:Array Oper} {R:Exit→Act→World→Prop} {listed:Array Bool} {a:Act} {w:World} (hL:Left ops listed []) (h:R .normal a w):∀ {fuel:Nat},wpAnyIn (FW ro) 0 C.P .any ops R fuel listed a w:=by
 have hr:Region.ready .any ops listed=[]:=by
  cases hr:Region.ready .any ops listed with
  | nil=>rfl
  | cons i l =>
   exfalso;obtain ⟨h1,o,ho,h3⟩:=Qcm (listed:=listed) (i:=i) (by rw [hr];simp)
   have hlt:i<ops.size:=(Array.getElem?_eq_some_iff.1 ho).1
   have hlt':i<listed.size:=by rw [hL.size];exact hlt
   have:=(hL.mem i).2 ⟨hlt,by simpa only [Array.getD_eq_getD_getElem?,hlt',Array.getElem?_eq_getElem,Option.getD_some] using h1⟩
   cases this
 intro fuel;cases fuel with
 | zero=>exact ⟨hr,h⟩
 | succ fuel=>exact ⟨fun _=>h,fun i hi=>by rw [hr] at hi;cases hi⟩
theorem Qpi {C:Ctx} {cw:CW}  {ro:Option Nat} {ops:Array Oper} {H0:Qb} (hcw:CWok cw H0) {K:List V→Qb→Prop} {R:Exit→Act→World→Prop} {Inv:List V→Qb→Act→World→Prop} (hk:Zv ops=true) (G:Nat→Prop) (hat:∀ i o,ops[i]?=some o→G i→Hat ops G i o)
  (htr:∀ ts H a w,Inv ts H a w→∃ im pl,TR im pl w ts a.tmps)
  (hop:∀ (i:Nat) (o:Oper),ops[i]?=some o→∀ (ts:List V) (H:Qb) (a:Act) (w:World) (KK:V→Qb→Prop) (next:Act→World→Prop),opc C.ty cw o.op ts H KK→Inv ts H a w →
   (∀ v vc H' w',KK v H'→Inv (Yo ts o.dst v) H' (a.put o.dst vc) w'→next (a.put o.dst vc) w')→o.wpIn (FW ro) 0 C.P a w next R)
  (hskip:∀ ts H a w d,Inv ts H a w→Inv (Yo ts d (.tup [])) H (a.put d (.tuple [].toArray)) w)
  (tl:List Nat) (htl:∀ i∈tl,∀ j,j<ops.size→j ∉ tl→Qbd ops i j i=true) (hK:∀ (fuel:Nat) (listed:Array Bool) a w ts H,K ts H→Inv ts H a w→Left ops listed tl→tl.length≤fuel→wpAnyIn (FW ro) 0 C.P .any ops R fuel listed a w) :
  ∀ (fuel:Nat) (S:List Nat) (listed:Array Bool) (ts:List V) (H:Qb) (w:World) (a:Act),(∀ i∈S,G i)→Left ops listed (S++tl)→(S++tl).length≤fuel →
  (Same H0 H∨(Stand H0 H∧∀ j∈S,∀ p,ops[j]?=some p→Zl p.op=false)∨(∀ j∈S,∀ p,ops[j]?=some p→Qb8 p.op=true∨Yi p.op=true))→Qai C cw ops H0 K S ts H→Inv ts H a w →
  wpAnyIn (FW ro) 0 C.P .any ops R fuel listed a w:=by
 intro fuel
 have step:∀ (S:List Nat) (listed:Array Bool),(∀ i∈S,G i)→Left ops listed (S++tl)→Region.ready .any ops listed=[]→S=[]:=by
  intro S listed hG hL hr;cases S with
  | nil=>rfl
  | cons i S =>
   exfalso
   have hi:=(hL.mem i).1 (by simp)
   have:i∈Region.ready .any ops listed:=by
    refine mem_ready.2 ⟨?_,ops[i],by simp [hi.1],fun e he hb=>?_⟩
    ·have hlt:i<listed.size:=by rw [hL.size];exact hi.1
     have:=hi.2
     simp only [Array.getD_eq_getD_getElem?,hlt,Array.getElem?_eq_getElem,Option.getD_some] at this ⊢;exact this
    ·have hbt:Yn ops[i] e.on=true:=by
      simp only [Yn,List.any_eq_true,Bool.and_eq_true];exact ⟨e,by simpa using he,hb,by simp⟩
     have hlt:=(hat i ops[i] (by simp [hi.1]) (hG i (by simp))).1 e.on hbt
     cases hl:listed.getD e.on false with
     | true=>rfl
     | false =>
      have:=(hL.mem e.on).2 ⟨by omega,hl⟩
      have hs:=hL.sorted
      rw [List.cons_append] at this hs;rw [List.pairwise_cons] at hs;rcases List.mem_cons.1 this with h1 | h1
      ·omega
      ·have:=hs.1 _ h1;omega
   rw [hr] at this;cases this
 induction fuel with
 | zero =>
  intro S listed ts H w a hG hL hlen hS hx hR
  have:S=[]:=by cases S with
   | nil=>rfl
   | cons i S=>simp at hlen
  subst this;exact hK 0 listed a w ts H hx hR (by simpa using hL) (by simpa using hlen)
 | succ fuel ih =>
  intro S listed ts H w a hG hL hlen hS hx hR;by_cases hne:S=[]
  ·subst hne;exact hK (fuel+1) listed a w ts H hx hR (by simpa using hL) (by simpa using hlen)
  refine ⟨fun hr=>(hne (step S listed hG hL hr)).elim,fun i hi=>?_⟩
  ·obtain ⟨h1,o,ho,h3⟩:=Qcm hi
   have hlt:i<ops.size:=(Array.getElem?_eq_some_iff.1 ho).1
   have hlt':i<listed.size:=by rw [hL.size];exact hlt
   have hm':=(hL.mem i).2 ⟨hlt,by simpa only [Array.getD_eq_getD_getElem?,hlt',Array.getElem?_eq_getElem,Option.getD_some] using h1⟩
   have hm:i∈S:=by
    rcases List.mem_append.1 hm' with h | h
    ·exact h
    ·exfalso;obtain ⟨j,S',rfl⟩:=List.exists_cons_of_ne_nil hne
     have hs:=hL.sorted
     rw [List.pairwise_append] at hs
     have hjt:j ∉ tl:=fun h'=>Nat.lt_irrefl j (hs.2.2 j (by simp) j h')
     have h5:=Qah hL.closed i j i o ho h3 (htl i h j ((hL.mem j).1 (by simp)).1 hjt)
     have h6:=(hL.mem j).1 (by simp)
     rw [h5] at h6;cases h6.2
   obtain ⟨l1,l2,rfl⟩:=List.append_of_mem hm
   replace hL:Left ops listed (l1++i::(l2++tl)):=by simpa using hL
   have hs:=hL.sorted
   rw [List.pairwise_append] at hs
   have hGi:=hG i hm
   have hb:Qai C cw ops H0 K (i::(l1++l2)) ts H:=by
    refine Qc3 hcw hk l2 l1 (fun j hj=>?_) ts H hx
    have hji:j<i:=hs.2.2 j hj i (by simp)
    rcases (hat i o ho hGi).2.1 j hji (hG j (by simp [hj])) with h4 | h4
    ·exact h4
    ·have h5:=Qce hL.closed i j i o ho h3 h4
     have h6:=(hL.mem j).1 (by simp [hj])
     rw [h5] at h6;cases h6.2
   have hL':=hL.take ho h3
   replace hL':Left ops (listed.setIfInBounds i true) ((l1++l2)++tl):=by simpa using hL'
   have hlen':((l1++l2)++tl).length≤fuel:=by simp only [List.length_append,List.length_cons] at hlen ⊢;omega
   have hsub2:∀ j,j∈l1++l2→j∈l1++i::(l2++tl):=fun j hj=>by
    simp only [List.mem_append,List.mem_cons] at hj ⊢;rcases hj with h | h
    ·exact .inl h
    ·exact .inr (.inr (.inl h))
   have hsub:∀ j,j∈l1++l2→j∈l1++i::l2:=fun j hj=>by
    simp only [List.mem_append,List.mem_cons] at hj ⊢;rcases hj with h | h
    ·exact .inl h
    ·exact .inr (.inr h)
   simp only [Qai,ho] at hb;unfold wpOpIn;simp only [ho];obtain ⟨im,pl,hTR⟩:=htr _ _ _ _ hR;rcases Qc9 hb hTR with ⟨hw,h⟩ | ⟨hw,h⟩
   ·rw [if_pos hw]
    have hS1:Same H0 H∨(Stand H0 H∧Zl o.op=false)∨(Qb8 o.op=true∨Yi o.op=true):=hS.imp id fun h=>h.imp (fun h=>⟨h.1,h.2 i hm o ho⟩) (fun h=>h i hm o ho)
    refine hop i o ho ts H a w _ _ (Qlp hcw (Jd hk ho) hS1 h) hR fun v vc H' w' k1 k2=>?_
    refine ih (l1++l2) _ _ H' w' _ (fun j hj=>hG j (hsub j hj)) hL' hlen' ?_ k1.2 k2
    rcases k1.1 with k5 | ⟨k5,k6⟩ | k5
    ·rcases hS with hS | hS | hS
     ·exact .inl (k5.1 hS)
     ·exact .inr (.inl ⟨k5.2 hS.1,fun j hj p hp=>hS.2 j (hsub j hj) p hp⟩)
     ·exact .inr (.inr fun j hj p hp=>hS j (hsub j hj) p hp)
    ·have hnl:∀ j∈l1++l2,∀ p,ops[j]?=some p→Zl p.op=false:=fun j hj p hp=>by
      cases hl:Zl p.op with
      | false=>rfl
      | true =>
       have h7:=(hat i o ho hGi).2.2.1 k5 j p hp hl
       have h8:=Qah hL.closed i j i o ho h3 h7
       have h9:=(hL.mem j).1 (hsub2 j hj)
       rw [h8] at h9;cases h9.2
     rcases hS with hS | hS | hS
     ·exact .inr (.inl ⟨hS.stand.trans k6,hnl⟩)
     ·exact .inr (.inl ⟨hS.1.trans k6,hnl⟩)
     ·exact .inr (.inr fun j hj p hp=>hS j (hsub j hj) p hp)
    ·refine .inr (.inr fun j hj p hp=>?_)
     rcases (hat i o ho hGi).2.2.2 k5 j p hp with h7 | h7
     ·exact h7
     ·have h8:=Qah hL.closed i j i o ho h3 h7
      have h9:=(hL.mem j).1 (hsub2 j hj)
      rw [h8] at h9;cases h9.2
   ·rw [if_neg (by simp [hw])]
    refine ⟨fun _ _=>trivial,ih (l1++l2) _ _ H w _ (fun j hj=>hG j (hsub j hj)) hL' hlen' ?_ h (hskip _ _ _ _ _ hR)⟩
    exact hS.imp id fun h=>h.imp (fun h=>⟨h.1,fun j hj p hp=>h.2 j (hsub j hj) p hp⟩) (fun h j hj p hp=>h j (hsub j hj) p hp)
theorem Qpj {C:Ctx} {cw:CW}  {ro:Option Nat} {ops:Array Oper} {H0:Qb} (hcw:CWok cw H0) {K:List V→Qb→Prop} {R:Exit→Act→World→Prop} {Inv:List V→Qb→Act→World→Prop} (hk:Zv ops=true) (G:Nat→Prop) (hat:∀ i o,ops[i]?=some o→G i→Hat ops G i o)
  (htr:∀ ts H a w,Inv ts H a w→∃ im pl,TR im pl w ts a.tmps)
  (hop:∀ (i:Nat) (o:Oper),ops[i]?=some o→∀ (ts:List V) (H:Qb) (a:Act) (w:World) (KK:V→Qb→Prop) (next:Act→World→Prop),opc C.ty cw o.op ts H KK→Inv ts H a w →
   (∀ v vc H' w',KK v H'→Inv (Yo ts o.dst v) H' (a.put o.dst vc) w'→next (a.put o.dst vc) w')→o.wpIn (FW ro) 0 C.P a w next R)
  (hskip:∀ ts H a w d,Inv ts H a w→Inv (Yo ts d (.tup [])) H (a.put d (.tuple [].toArray)) w)
  (hK:∀ a w ts H,K ts H→Inv ts H a w→R .normal a w)
  (fuel:Nat) (S:List Nat) (listed:Array Bool) (ts:List V) (H:Qb) (w:World) (a:Act) (hG:∀ i∈S,G i) (hL:Left ops listed S) (hlen:S.length≤fuel)
  (hS:Same H0 H∨(Stand H0 H∧∀ j∈S,∀ p,ops[j]?=some p→Zl p.op=false)∨(∀ j∈S,∀ p,ops[j]?=some p→Qb8 p.op=true∨Yi p.op=true)) (hx:Qai C cw ops H0 K S ts H) (hR:Inv ts H a w) :
  wpAnyIn (FW ro) 0 C.P .any ops R fuel listed a w:=by
 refine Qpi hcw hk G hat htr hop hskip [] (fun i hi=>by simp at hi) (fun fuel listed a w ts H k1 k2 hL _=>Qwu hL (hK a w ts H k1 k2)) fuel S listed ts H w a hG (by simpa using hL) (by simpa using hlen) hS hx hR
theorem Qsb {C:Ctx} {cw:CW} {HH:Qb} (hcw:CWok cw HH) {ops:Array Oper} {H0:Qb} {K:List V→Qb→Prop} (hk:Zv ops=true):∀ (l:List Oper) (k:Nat) (ts:List V) (H:Qb),ops.toList.drop k=l→Qb3 C cw ops H0 K l ts H→Qai C cw ops H0 K (List.range' k l.length) ts H:=by
 intro l
 induction l with
 | nil=>intro k ts H hl h;exact h
 | cons o l ih =>
  intro k ts H hl h
  have ho:ops[k]?=some o:=by
   have:(ops.toList.drop k)[0]?=some o:=by rw [hl];rfl
   simpa [List.getElem?_drop] using this
  have hl':ops.toList.drop (k+1)=l:=by
   have:(ops.toList.drop k).tail=l:=by rw [hl];rfl
   simpa [List.tail_drop] using this
  simp only [List.length_cons,List.range'_succ,Qai,ho];simp only [Qb3] at h
  have:tro C cw ops H0 o ts H fun v H'=>Qb3 C cw ops H0 K l (Yo ts o.dst v) H':=Qel h
  exact Qb0 hcw (Jd hk ho) (fun v H' h=>ih (k+1) _ H' hl' h) this
theorem Qfm (C:Ctx) (H0:Qb):CWok (cwP C H0) H0:=by
 refine ⟨?_, ?_, ?_⟩
 ·intro fv args H K K' hK h;unfold cwP at h ⊢;split
  ·rename_i g xs ys;rcases h with ⟨Q,h1,h2,h4⟩ | ⟨args',Q,h1,h2,h3,h4⟩
   ·exact .inl ⟨Q,h1,h2,fun v H' hq=>⟨(h4 v H' hq).1,hK _ _ (h4 v H' hq).2⟩⟩
   ·exact .inr ⟨args',Q,h1,h2,h3,fun v H' hq=>hK _ _ (h4 v H' hq)⟩
  ·rename_i hne;split at h
   ·rename_i g xs ys;exact (hne _ _ _ rfl).elim
   ·exact h
 ·intro fv args H p h;unfold cwP at h;split at h
  ·rcases h with ⟨Q,h1,⟨v,H',h2⟩,h4⟩ | ⟨args',Q,h1,⟨v,H',h2⟩,h3,h4⟩
   ·exact (h4 v H' h2).2
   ·exact h4 v H' h2
  ·exact h.elim
 ·intro fv args H K h;unfold cwP at h ⊢;split
  ·rcases h with ⟨Q,h1,h2,h4⟩ | ⟨args',Q,h1,h2,h3,h4⟩
   ·exact .inl ⟨Q,h1,h2,fun v H' hq=>⟨(h4 v H' hq).1,h4 v H' hq⟩⟩
   ·exact .inr ⟨args',Q,h1,h2,h3,fun v H' hq=>⟨.of (.app _ _),h4 v H' hq⟩⟩
  ·rename_i hne;split at h
   ·rename_i g xs ys;exact (hne _ _ _ rfl).elim
   ·exact h
theorem Xr2 {C:Ctx} {ro:Option Nat} (hm:C.P.follows .mixedOrders=true) {id:Nat} {ops:Array Oper} {Q:Exit→List V→Qb→Prop} {ts:List V} {H:Qb} (hok:Qdi ops=true) {H0:Qb} (hs0:Same H0 H) (h:Qb3 C (cwP C H0) ops H0 (Q .normal) ops.toList ts H):T C ro (.region id ops true) Q ts H:=by
 intro im pl w a hr
 have hk:Zv ops=true:=by simp only [Qdi,Bool.and_eq_true] at hok;exact hok.1
 refine wpIn_region_any hm ?_
 have hx:=Qsb (Qfm C H0) hk ops.toList 0 ts H (by simp) h
 have hvr:∀ {v c},VR im pl w v c→VR im pl { w with drawn:=w.drawn+1 } v c:=fun h=>VR.world (w:=w) (w':={ w with drawn:=w.drawn+1 }) (fun _ _ _ (h:w.cell? _=some _)=>h) h
 have hE:Ext im pl w im pl { w with drawn:=w.drawn+1 }:=⟨rfl,rfl,rfl,Nat.le_refl _,fun _ h=>h,fun _ h=>.inl h,fun _ _=>.inl rfl,fun r b cap h=>.inl ⟨r,cap,h⟩,fun _ _ _=>rfl⟩
 have hr':Rel im pl { w with drawn:=w.drawn+1 } ts H a:=by
  refine ⟨⟨hr.tr.1,fun i=>hvr (hr.tr.2 i)⟩, ?_,hr.df.mono hE⟩
  obtain ⟨g1,g2,g3,g4,g5,g6,g7,g8⟩:=hr.hr;refine ⟨g1,g2,g3,g4,g5,g6,g7,fun r b cap hp=>?_⟩
  obtain ⟨e,s,cs,cur,f1,f2,f3,f4,f5,f6⟩:=g8 r b cap hp;exact ⟨e,s,cs,cur,f1,f2,f3,f4,f5,fun j=>hvr (f6 j)⟩
 refine Qpj (Qfm C H0) (ro:=ro) (ops:=ops) (K:=Q .normal) (R:=Post im pl w a.defers Q) (Inv:=fun ts' H' a' w'=>∃ im' pl',Rel im' pl' w' ts' H' a'∧Ext im pl w im' pl' w'∧a'.defers=a.defers) hk (fun _=>True) (Qjh hok _) ?_ ?_ ?_ ?_
  ops.size (List.range' 0 ops.toList.length) _ ts H _ a (fun _ _=>trivial) ⟨by simp, ?_,fun i=>?_,fun i o ho hl=>?_⟩ (by simp) (.inl hs0) hx ⟨im,pl,hr',hE,rfl⟩
 ·rintro ts' H' a' w' ⟨im',pl',h1,_,_⟩;exact ⟨im',pl',h1.tr⟩
 ·rintro _ o _ ts' H' a' w' KK next ho ⟨im',pl',h1,h2,h3⟩ hnext;exact Qbv (Qim C H0 ro) ho h1.tr h1.hr fun v vc H2 im2 pl2 w2 k1 k2 k3 k4=>hnext v vc H2 w2 k1 ⟨im2,pl2,h1.put k4 k3 k2 _,h2.trans k4,by rw [Yl];exact h3⟩
 ·rintro ts' H' a' w' d ⟨im',pl',h1,h2,h3⟩;exact ⟨im',pl',h1.put (.refl _ _ _) h1.hr (.tup [] [] rfl fun j=>by simp [nth,List.getD];exact .any _) _,h2,by rw [Yl];exact h3⟩
 ·rintro a' w' ts' H' k1 ⟨im',pl',k2,k3,k4⟩;exact ⟨ts',H',im',pl',k1,k2,k3,by rw [k4];exact .refl _ _⟩
 ·exact List.pairwise_lt_range' ..
 ·simp only [List.mem_range'_1,Nat.zero_le,true_and,Nat.zero_add,Array.length_toList];simp only [Array.getD_eq_getD_getElem?,Array.getElem?_replicate];constructor
  ·intro h;refine ⟨h, ?_⟩;simp [h]
  ·exact fun h=>h.1
 ·exfalso;simp only [Array.getD_eq_getD_getElem?,Array.getElem?_replicate] at hl
  split at hl<;>simp at hl
theorem Xhe {C:Ctx} {cw:CW} {HH:Qb} (hcw:CWok cw HH) {ops:Array Oper} {H0:Qb} {K:List V→Qb→Prop} (hk:Zv ops=true) (r:List Oper):∀ (l:List Oper) (k:Nat) (ts:List V) (H:Qb),ops.toList.drop k=l++r→Qb3 C cw ops H0 K l ts H→Qai C cw ops H0 K (List.range' k l.length) ts H:=by
 intro l
 induction l with
 | nil=>intro k ts H hl h;exact h
 | cons o l ih =>
  intro k ts H hl h
  have ho:ops[k]?=some o:=by
   have:(ops.toList.drop k)[0]?=some o:=by rw [hl];rfl
   simpa [List.getElem?_drop] using this
  have hl':ops.toList.drop (k+1)=l++r:=by
   have:(ops.toList.drop k).tail=l++r:=by rw [hl];rfl
   simpa [List.tail_drop] using this
  simp only [List.length_cons,List.range'_succ,Qai,ho];simp only [Qb3] at h
  have:tro C cw ops H0 o ts H fun v H'=>Qb3 C cw ops H0 K l (Yo ts o.dst v) H':=Qel h
  exact Qb0 hcw (Jd hk ho) (fun v H' h=>ih (k+1) _ H' hl' h) this
def Xq0:Op→Bool
 | .call _=>true
 | _=>false
def Qom (ops:Array Oper):Bool:=Qdi ops&&match ops[ops.size - 1]? with
 | none=>false
 | some o=>o.guard.isNone&&Xq0 o.op&&(List.range (ops.size - 1)).all fun j=>Qbd ops (ops.size - 1) j (ops.size - 1)
theorem Xr0 {C:Ctx} {ro:Option Nat} (hm:C.P.follows .mixedOrders=true) {id:Nat} {ops:Array Oper} {Q:Exit→List V→Qb→Prop} {ts:List V} {H:Qb} (hok:Qom ops=true) {H0:Qb} (hs0:Same H0 H)
  (h:Qb3 C (cwP C H0) ops H0 (fun ts H=>Qcg C.ty (cwF C) ops (Q .normal) (ops.toList.drop (ops.size - 1)) ts H) ops.toList.dropLast ts H):T C ro (.region id ops true) Q ts H:=by
 intro im pl w a hr;simp only [Qom,Bool.and_eq_true] at hok;obtain ⟨hok,hlast⟩:=hok;cases hom:ops[ops.size - 1]? with
 | none=>rw [hom] at hlast;cases hlast
 | some om =>
 rw [hom] at hlast;simp only [Bool.and_eq_true,List.all_eq_true,List.mem_range,Option.isNone_iff_eq_none] at hlast;obtain ⟨⟨hgd, -⟩,hah⟩:=hlast
 have hlt:ops.size - 1<ops.size:=(Array.getElem?_eq_some_iff.1 hom).1
 generalize hmm:ops.size - 1=m at *
 have hsz:ops.size=m+1:=by omega
 have hdrop:ops.toList.drop m=[om]:=by
  have h1:(ops.toList.drop m).length=1:=by simp;omega
  obtain ⟨x,hx⟩:=List.length_eq_one_iff.1 h1;rw [hx]
  have:(ops.toList.drop m)[0]?=some om:=by rw [List.getElem?_drop];simpa using hom
  rw [hx] at this;simpa using this
 have hsplit:ops.toList=ops.toList.dropLast++[om]:=by
  rw [← hdrop,List.dropLast_eq_take,Array.length_toList,hmm,List.take_append_drop]
 have hk:Zv ops=true:=by simp only [Qdi,Bool.and_eq_true] at hok;exact hok.1
 have hat0:=Qjh hok (fun _=>True)
 refine wpIn_region_any hm ?_
 have hx:=Xhe (Qfm C H0) hk [om] ops.toList.dropLast 0 ts H (by rw [List.drop_zero];exact hsplit) h
 have hlen:ops.toList.dropLast.length=m:=by rw [List.length_dropLast,Array.length_toList];omega
 rw [hlen,hdrop] at hx
 have hvr:∀ {v c},VR im pl w v c→VR im pl { w with drawn:=w.drawn+1 } v c:=fun h=>VR.world (w:=w) (w':={ w with drawn:=w.drawn+1 }) (fun _ _ _ (h:w.cell? _=some _)=>h) h
 have hE:Ext im pl w im pl { w with drawn:=w.drawn+1 }:=⟨rfl,rfl,rfl,Nat.le_refl _,fun _ h=>h,fun _ h=>.inl h,fun _ _=>.inl rfl,fun r b cap h=>.inl ⟨r,cap,h⟩,fun _ _ _=>rfl⟩
 have hr':Rel im pl { w with drawn:=w.drawn+1 } ts H a:=by
  refine ⟨⟨hr.tr.1,fun i=>hvr (hr.tr.2 i)⟩, ?_,hr.df.mono hE⟩
  obtain ⟨g1,g2,g3,g4,g5,g6,g7,g8⟩:=hr.hr;refine ⟨g1,g2,g3,g4,g5,g6,g7,fun r b cap hp=>?_⟩
  obtain ⟨e,s,cs,cur,f1,f2,f3,f4,f5,f6⟩:=g8 r b cap hp;exact ⟨e,s,cs,cur,f1,f2,f3,f4,f5,fun j=>hvr (f6 j)⟩
 refine Qpi (Qfm C H0) (ro:=ro) (ops:=ops) (K:=fun ts H=>Qcg C.ty (cwF C) ops (Q .normal) [om] ts H) (R:=Post im pl w a.defers Q) (Inv:=fun ts' H' a' w'=>∃ im' pl',Rel im' pl' w' ts' H' a'∧Ext im pl w im' pl' w'∧a'.defers=a.defers) hk (fun _=>True) hat0 ?_ ?_ ?_ [m] ?_ ?_
  ops.size (List.range' 0 m) _ ts H _ a (fun _ _=>trivial) ⟨by simp, ?_,fun i=>?_,fun i o ho hl=>?_⟩ (by simp;omega) (.inl hs0) hx ⟨im,pl,hr',hE,rfl⟩
 ·rintro ts' H' a' w' ⟨im',pl',h1,_,_⟩;exact ⟨im',pl',h1.tr⟩
 ·rintro _ o _ ts' H' a' w' KK next ho ⟨im',pl',h1,h2,h3⟩ hnext;exact Qbv (Qim C H0 ro) ho h1.tr h1.hr fun v vc H2 im2 pl2 w2 k1 k2 k3 k4=>hnext v vc H2 w2 k1 ⟨im2,pl2,h1.put k4 k3 k2 _,h2.trans k4,by rw [Yl];exact h3⟩
 ·rintro ts' H' a' w' d ⟨im',pl',h1,h2,h3⟩;exact ⟨im',pl',h1.put (.refl _ _ _) h1.hr (.tup [] [] rfl fun j=>by simp [nth,List.getD];exact .any _) _,h2,by rw [Yl];exact h3⟩
 ·intro i hi j hj hjt;simp only [List.mem_singleton] at hi hjt;subst hi;exact hah j (by omega)
 ·rintro fuel listed a' w' ts' H' k1 ⟨im',pl',h1,h2,h3⟩ hL hlen;cases fuel with
  | zero=>simp at hlen
  | succ fuel =>
  have hmem:=(hL.mem m).1 (by simp)
  have hltl:m<listed.size:=by rw [hL.size];omega
  have hready:m∈Region.ready .any ops listed:=by
   refine mem_ready.2 ⟨?_,om,hom,fun e he hb=>?_⟩
   ·have:=hmem.2
    simp only [Array.getD_eq_getD_getElem?,hltl,Array.getElem?_eq_getElem,Option.getD_some] at this ⊢;exact this
   ·have hbt:Yn om e.on=true:=by
     simp only [Yn,List.any_eq_true,Bool.and_eq_true];exact ⟨e,by simpa using he,hb,by simp⟩
    have hlt:=(hat0 m om hom trivial).1 e.on hbt
    cases hl:listed.getD e.on false with
    | true=>rfl
    | false =>
     have:=(hL.mem e.on).2 ⟨by omega,hl⟩
     simp at this;omega
  refine ⟨fun hr=>(by rw [hr] at hready;cases hready),fun i hi=>?_⟩
  obtain ⟨q1,o,ho,q3⟩:=Qcm hi
  have hi2:i<ops.size:=(Array.getElem?_eq_some_iff.1 ho).1
  have hi3:i<listed.size:=by rw [hL.size];exact hi2
  have him:=(hL.mem i).2 ⟨hi2,by simpa only [Array.getD_eq_getD_getElem?,hi3,Array.getElem?_eq_getElem,Option.getD_some] using q1⟩
  rw [List.mem_singleton] at him;subst him;rw [hom] at ho;cases ho
  have hL':Left ops (listed.setIfInBounds i true) ([]++[]):=Left.take (l1:=[]) (l2:=[]) (by simpa using hL) hom q3
  unfold wpOpIn;simp only [hom];rw [if_pos (by simp [Region.wanted,hgd])]
  simp only [Qcg,hgd,Qdh] at k1;refine Qbv (Qa6 C ro) k1 h1.tr h1.hr fun v vc H2 im2 pl2 w2 k1 k2 k3 k4=>Qwu hL' ?_
  exact ⟨_,H2,im2,pl2,k1,h1.put k4 k3 k2 _,h2.trans k4,by rw [Yl,h3];exact .refl _ _⟩
 ·have:List.range' 0 m++[m]=List.range' 0 (m+1):=by rw [List.range'_1_concat];simp
  rw [this];exact List.pairwise_lt_range' ..
 ·have:List.range' 0 m++[m]=List.range' 0 (m+1):=by rw [List.range'_1_concat];simp
  rw [this];simp only [List.mem_range'_1,Nat.zero_le,true_and,Nat.zero_add];simp only [Array.getD_eq_getD_getElem?,Array.getElem?_replicate];rw [← hsz];constructor
  ·intro h;refine ⟨h, ?_⟩;simp [h]
  ·exact fun h=>h.1
 ·exfalso;simp only [Array.getD_eq_getD_getElem?,Array.getElem?_replicate] at hl
  split at hl<;>simp at hl
theorem Pc.call {C:Ctx} {H0:Qb} {f:FuncId} {args:List V} {H:Qb} {Q K:V→Qb→Prop} (h:Fc C f args [] Q) (hq:∃ v H',Q v H') (hc:Qh args=true) (hK:∀ v H',Q v H'→K (ren (shift H.length) v) (H++Qbf (shift H.length) H')):Pc C H0 f args H K :=
 .inr ⟨args,Q,h,hq,.inl ⟨rfl,hc⟩,hK⟩
theorem Pc.borrow {C:Ctx} {H0:Qb} {f:FuncId} {args args':List V} {H:Qb} {Q K:V→Qb→Prop} (h:Fc C f args' [] Q) (hq:∃ v H',Q v H') (hl:args.length=args'.length) (hb:∀ j,Bor H (nth args j) (nth args' j)) (hp:∀ v H',Q v H'→plain v=true∧Qar H')
  (hK:∀ v H',Q v H'→K (ren (shift H.length) v) (H++Qbf (shift H.length) H')):Pc C H0 f args H K :=
 .inr ⟨args',Q,h,hq,.inr ⟨hl,hb,hp⟩,hK⟩
theorem Pc.gen {C:Ctx} {H0:Qb} {f:FuncId} {args:List V} {H:Qb} {Q K:V→Qb→Prop} (h:Fc C f args H Q) (hq:∃ v H',Q v H') (hK:∀ v H',Q v H'→Kp H0 H H'∧K v H'):Pc C H0 f args H K:=.inl ⟨Q,h,hq,hK⟩
section
variable {C:Ctx} {cw:CW} {ts ts':List V} {H H' H0 H0':Qb} {K:V→Qb→Prop} {KL:List V→Qb→Prop}
@[congr] theorem Xqj {uu:Prop} (h00:(True∧True)=uu) (ops:Array Oper) (l:List Oper) (h0:H0=H0') (h1:ts=ts') (h2:H=H'):Qb3 C cw ops H0 KL l ts H=Qb3 C cw ops H0' KL l ts' H':=by rw [h0,h1,h2]
@[congr] theorem Xqk {uu:Prop} (h00:(True∧True)=uu) (op:Op) (h0:H0=H0') (h1:ts=ts') (h2:H=H'):opd C cw op ts H0 H K=opd C cw op ts' H0' H' K:=by rw [h0,h1,h2]
@[congr] theorem Xst {uu:Prop} (h00:(True∧True)=uu) {f f':V} {args args':List V} (h0:f=f') (h1:args=args') (h2:H=H'):cwP C H0 f args H K=cwP C H0 f' args' H' K:=by rw [h0,h1,h2]
@[congr] theorem Xt4 {uu:Prop} (h00:(True∧True)=uu) (f:FuncId) {args args':List V} (h1:args=args') (h2:H=H'):Pc C H0 f args H K=Pc C H0 f args' H' K:=by rw [h1,h2]
@[congr] theorem Xmu {uu:Prop} (h00:(True∧True)=uu) {v v':V} (h:v=v'):Qef v=Qef v':=by rw [h]
theorem Qqw (ops:Array Oper) (d:Option Tmp) (op:Op) (t:TypeId) (p:String) (e:Array Edge) (l:List Oper):Qb3 C cw ops H0 KL (⟨d,op,t,p,e,none⟩::l) ts H=opd C cw op ts H0 H fun v H'=>Qb3 C cw ops H0 KL l (Yo ts d v) H':=rfl
theorem Qx8 (ops:Array Oper) (d:Option Tmp) (op:Op) (t:TypeId) (p:String) (e:Array Edge) (j:Nat) (b:Bool) (l:List Oper):Qb3 C cw ops H0 KL (⟨d,op,t,p,e,some (j,b)⟩::l) ts H =
  Qdh ops (some (j,b)) ts (fun ts=>opd C cw op ts H0 H fun v H'=>Qb3 C cw ops H0 KL l (Yo ts d v) H') (fun ts=>Qb3 C cw ops H0 KL l (Yo ts d (.tup [])) H):=rfl
theorem Xri (g:FuncId) (xs ys args:List V):cwP C H0 (.fn (.func g) xs ys) args H K=Pc C H0 g (xs++args++ys) H K:=rfl
theorem Qyi (k:IntKind) (n:Int):Qef (.int k n)=true:=rfl
theorem Qu7 (b:Bool):Qef (.bool b)=true:=rfl
theorem Qyh (b:ByteArray):Qef (.str b)=true:=rfl
theorem Xhh (x:Operand):opd C cw (.move x) ts H0 H K=K (ev ts x) H:=by simp [opd,Yi,Jv,opc,opw]
theorem Qx9 (x:Operand):opd C cw (.assign x) ts H0 H K=K (ev ts x) H:=by simp [opd,Yi,Jv,opc,opw]
theorem Xhg (c a b:Operand):opd C cw (.pick c a b) ts H0 H K=Qi0 (ev ts c) (ev ts a) (ev ts b) fun v=>K v H:=by simp [opd,Yi,Jv,opc,opw]
theorem Xdr (o:BinOp) (t:TypeId) (x y:Operand) (t':TypeId):opd C cw (.binOp o t x y t') ts H0 H K=(Qef (ev ts y)=true∧(C.ty t).ok=true∧Qey (C.ty t) o (ev ts x) (ev ts y) H0 fun v=>K v H):=by simp [opd,Yi,Jv,opc,opw]
theorem Xhf (o:UnOp) (t:TypeId) (x:Operand):opd C cw (.unOp o t x) ts H0 H K=unw o (ev ts x) fun v=>K v H:=by simp [opd,Yi,Jv,opc,opw]
theorem Quy (s d:TypeId) (x:Operand):opd C cw (.convert s d x) ts H0 H K=((C.ty s).ok=true∧(C.ty d).ok=true∧Qet (C.ty d) (ev ts x) fun v=>K v H):=by simp [opd,Yi,Jv,opc,opw]
theorem Qsd (fn:Go.Fn) (a b:List Operand):opd C cw (.makeFunc fn a.toArray b.toArray) ts H0 H K=K (.fn fn (a.map (ev ts)) (b.map (ev ts))) H:=by simp [opd,Yi,Jv,opc,opw]
theorem Qux (x:Operand) (i:Nat):opd C cw (.extract x i) ts H0 H K=Qs4 (ev ts x) i fun v=>K v H:=by simp [opd,Yi,Jv,opc,opw]
theorem Qsc (x:Operand):opd C cw (.nilCheck x) ts H0 H K=Qoe (ev ts x) fun v=>K v H:=by simp [opd,Yi,Jv,opc,opw]
theorem Xhi (t:TypeId) (x:Operand):opd C cw (.load t x) ts H0 H K=((C.ty t).ok=true∧Qc7 (C.ty t) (ev ts x) H0 fun v=>K v H):=by simp [opd,Yi,Jv,opc,opw]
theorem Xdq (t:TypeId) (ps:List (Nat × Operand)):opd C cw (.build t ps.toArray) ts H0 H K=((C.ty t).ok=true∧Qeu C.ty t (ps.map fun p=>(p.1,ev ts p.2)) fun v=>K v H):=by simp [opd,Yi,Jv,opc,opw]
theorem Xdm (t:TypeId) (x:Operand) (lo hi:Option Operand):opd C cw (.slice t x lo hi none) ts H0 H K=((C.ty t).ok=true∧Xy C.ty (C.ty t) (ev ts x) (lo.map (ev ts)) (hi.map (ev ts)) H0 fun v=>K v H):=by simp [opd,Yi,Jv,opc,opw]
theorem Qpx (t:TypeId) (x:Operand) (f:Nat):opd C cw (.fieldAddr t x f) ts H0 H K=((C.ty t).ok=true∧faw C.ty ((C.ty t).fs[f]?) (ev ts x) fun v=>K v H):=by
 simp only [opd,Yi,Jv,Bool.false_eq_true,if_false,true_and,Qfg]
theorem Xdo (t:TypeId) (x:Operand) (f:Nat):opd C cw (.field t x f) ts H0 H K=((C.ty t).ok=true∧Qen C.ty (C.ty t) (ev ts x) f fun v=>K v H):=by simp [opd,Yi,Jv,opc,opw]
theorem Qpw (t:TypeId) (x i:Operand):opd C cw (.indexAddr t x i) ts H0 H K=((C.ty t).ok=true∧Qop C.ty (C.ty t) (ev ts x) (ev ts i) H0 fun v=>K v H):=by
 simp only [opd,Yi,Jv,Bool.false_eq_true,if_false,true_and,Qi1]
theorem Xdn (t:TypeId) (x i:Operand):opd C cw (.index t x i) ts H0 H K=((C.ty t).ok=true∧Qaj C.ty (C.ty t) (ev ts x) (ev ts i) fun v=>K v H):=by simp [opd,Yi,Jv,opc,opw]
theorem Xmj (xs:List Operand) (ats:List TypeId):opd C cw (.call ⟨.builtin .len,xs.toArray,ats.toArray⟩) ts H0 H K=Qr C.ty .len ats (xs.map (ev ts)) H0 fun v _=>K v H:=by simp [opd,Yi,Jv,opc]
theorem Xmh (xs:List Operand) (ats:List TypeId):opd C cw (.call ⟨.builtin .min,xs.toArray,ats.toArray⟩) ts H0 H K=Qr C.ty .min ats (xs.map (ev ts)) H0 fun v _=>K v H:=by simp [opd,Yi,Jv,opc]
theorem Xmi (xs:List Operand) (ats:List TypeId):opd C cw (.call ⟨.builtin .max,xs.toArray,ats.toArray⟩) ts H0 H K=Qr C.ty .max ats (xs.map (ev ts)) H0 fun v _=>K v H:=by simp [opd,Yi,Jv,opc]
theorem Qya (xs:List Operand) (ats:List TypeId):opd C cw (.call ⟨.builtin .append,xs.toArray,ats.toArray⟩) ts H0 H K=Qr C.ty .append ats (xs.map (ev ts)) H K:=by simp [opd,Yi,opc]
theorem Xhj (f:Operand) (xs:List Operand) (ats:Array TypeId):opd C cw (.call ⟨.value f,xs.toArray,ats⟩) ts H0 H K=cw (ev ts f) (xs.map (ev ts)) H K:=by simp [opd,Yi,opc]
theorem Xdl (t:TypeId) (x v:Operand):opd C cw (.store t x v) ts H0 H K=((C.ty t).ok=true∧Qcj (C.ty t) (ev ts x) (ev ts v) H fun H'=>K .any H'):=by simp [opd,Yi,opc,opw]
theorem Xmk (t:TypeId) (x:Operand):opd C cw (.box t x) ts H0 H K=Xfa t (ev ts x) H K:=by simp [opd,Yi,opc,opw]
theorem Xds (t:TypeId):opd C cw (.alloc t) ts H0 H K=((C.ty t).ok=true∧K (.ptr H.length 0) (H++[some ⟨t,(Ja (C.ty t)).length,Ja (C.ty t)⟩])):=by simp [opd,Yi,opc,opw]
theorem Qn9 (t:TypeId) (n:Nat) (ps:List (Nat × Operand)):opd C cw (.buildSlice t n ps.toArray) ts H0 H K=((C.ty t).ok=true∧Quf C.ty t (Qgo ps) n (ps.map fun p=>(p.1,ev ts p.2)) H K):=by
 cases hb:Qgo ps<;>simp [opd,Yi,Jv,opc,opw,Quf,hb]
theorem Qpv (t:TypeId) (l c:Operand):opd C cw (.makeSlice t l c) ts H0 H K=((C.ty t).ok=true∧Qci C.ty t (ev ts l) (ev ts c) H K):=by simp [opd,Yi,opc,opw]
end
end Go.Bv
end
section
namespace Go.Bv
open Go.RowKit
theorem Xg {H:Qb} {r:Nat} {row:Row} (h:Qc H r=some row):r<H.length:=(List.getElem?_eq_some_iff.1 (Yd h)).1
theorem Qd {H:Qb} {r:Nat} {row:Row} (h:Qc H r=some row) (X:Qb):Qc (H++X) r=some row:=Same.app H X r row h
theorem Xo (H:Qb) (row:Row):Qc (H++[some row]) H.length=some row:=by simp [Qc]
theorem Qnv (H:Qb) (r:Nat) (z:Option Row) (row:Row):Qc (H.set r z++[some row]) H.length=some row:=by
 have:=Xo (H.set r z) row
 rwa [List.length_set] at this
theorem Qe {H:Qb} {r q:Nat} (z:Option Row) (h:r≠q):Qc (H.set r z) q=Qc H q:=by simp [Qc,List.getElem?_set_ne h]
theorem Qg {H:Qb} {r:Nat} {row row':Row} (h:Qc H r=some row):Qc (H.set r (some row')) r=some row':=by simp [Qc,List.getElem?_set_self (Xg h)]
theorem Qon {H:Qb} {r:Nat} {row:Row} (h:Qc H r=some row):(Qc H r).isSome=true:=by rw [h];rfl
theorem Qh5 {H X:Qb} {r:Nat} {row:Row} (g:Nat→Option Nat) (h:Qc X r=some row):Qc (H++Qbf g X) (r+H.length)=some (Kz g row):=by
 have h1:=Yd h
 simp [Qc,Qbf,List.getElem?_append_right,h1]
def Own (e s:Nat) (H:Qb) (v:V) (n:Nat) (cs:List V):Prop:=(v=.nil∧n=0∧cs=[])∨∃ r,v=.ref r 0 n∧Qc H r=some ⟨e,s,cs⟩∧cs.length=n*s
theorem Own.nil (e s:Nat) (H:Qb):Own e s H .nil 0 []:=.inl ⟨rfl,rfl,rfl⟩
theorem Own.keep {e s:Nat} {H:Qb} {v:V} {n:Nat} {cs:List V} (h:Own e s H v n cs) (X:Qb):Own e s (H++X) v n cs:=by
 rcases h with h | ⟨r,h1,h2,h3⟩
 ·exact .inl h
 ·exact .inr ⟨r,h1,Qd h2 X,h3⟩
def Fr (v:V) (H H':Qb):Prop:=∀ q row,(∀ off n,v≠.ref q off n)→Qc H q=some row→Qc H' q=some row
theorem Own.fr {e s:Nat} {H H':Qb} {u v:V} {n:Nat} {cs:List V} (h:Own e s H v n cs) (hf:Fr u H H') (hne:∀ q off n m,u=.ref q off n→v≠.ref q 0 m):Own e s H' v n cs:=by
 rcases h with h | ⟨r,h1,h2,h3⟩
 ·exact .inl h
 ·exact .inr ⟨r,h1,hf r _ (fun off m hu=>hne r off m n hu h1) h2,h3⟩
theorem Qh0 {y:Ty} {e:TypeId} {v x:V} {H:Qb} {n m:Nat} {cs news:List V} {K:V→Qb→Prop} (h:Own e y.size H v n cs) (hx:Ka y x H=some (m,news)) (hn:news.length=m*y.size) (hs:news.all Yq=true) (hy:0<y.size) (hb:0<y.bytes) (hl:(n+m)*y.bytes≤140737488355328)
  (hc:cs.all Yq=true) (hK:∀ v' H',Own e y.size H' v' (n+m) (cs++news)→Fr v H H'→H'.length=H.length+1→(∃ r,v'=.ref H.length 0 r)→K v' H'):Qbb y e v x H K:=by
 unfold Qbb;rw [hx];refine ⟨hn,hs,hy,hb, ?_⟩;rcases h with ⟨rfl,rfl,rfl⟩ | ⟨r,rfl,h2,h3⟩
 ·rw [Nat.zero_add] at hl;refine ⟨hl,hK _ _ (.inr ⟨H.length,by rw [Nat.zero_add],Xo _ _,by simpa using hn⟩) (fun q row _ hq=>Qd hq _) (by simp) ⟨m,rfl⟩⟩
 ·simp only [h2,true_and];refine ⟨h3,hc,hl,hK _ _ (.inr ⟨H.length,rfl, ?_,by simp [h3,hn,Nat.add_mul]⟩) (fun q row hq hrow=>?_) (by simp) ⟨n+m,rfl⟩⟩
  ·exact Qnv H r none _
  ·refine Qd ?_ _;rw [Qe]
   ·exact hrow
   ·rintro rfl;exact hq 0 n rfl
theorem Xbo {y:Ty} {e e' s' m:Nat} {v:V} {H:Qb} {n:Nat} {cs lit:List V} {K:V→Qb→Prop} (h:Own e y.size H v n cs) (hn:lit.length=m*y.size) (hs:lit.all Yq=true) (hy:0<y.size) (hb:0<y.bytes) (hl:(n+m)*y.bytes≤140737488355328)
  (hc:cs.all Yq=true) (hK:∀ v' H',Own e y.size H' v' (n+m) (cs++lit)→Fr v H H'→K v' H'):Qbb y e v (.ref H.length 0 m) (H++[some ⟨e',s',lit⟩]) K:=by
 refine Qh0 (h.keep _) (news:=lit) ?_ hn hs hy hb hl hc fun v' H' h1 h2 _ _=>hK v' H' h1 fun q row hq hr=>h2 q row hq (Qd hr _)
 simp only [Ka,Xo,List.drop_zero];rw [← hn,List.take_length]
theorem Qcd {y:Ty} {e e' s':Nat} {v:V} {H:Qb} {xs:List Int} {x:Int} {K:V→Qb→Prop} (h:Own e 1 H v xs.length (ints xs)) (hy:y.size=1) (hb:0<y.bytes∧y.bytes≤8) (hl:xs.length+1≤17592186044416)
  (hK:∀ v' H',Own e 1 H' v' (xs++[x]).length (ints (xs++[x]))→Fr v H H'→K v' H'):Qbb y e v (.ref H.length 0 1) (H++[some ⟨e',s',[.int .i64 x]⟩]) K:=by
 rw [← hy] at h;refine Xbo h (by simp [hy]) (by simp [Yq]) (by omega) hb.1 ?_ (Qf6 _) fun v' H' h1 h2=>hK v' H' ?_ h2
 ·have:=Nat.mul_le_mul hl hb.2;omega
 ·rw [hy] at h1;rw [Qvr,List.length_append];exact h1
def Ret (e s:Nat) (H:Qb) (v:V) (n:Nat) (cs:List V):Prop:=(v=.nil∧n=0∧cs=[]∧H=[])∨(v=.ref 0 0 n∧H=[some ⟨e,s,cs⟩]∧cs.length=n*s)
theorem Own.ret {e s:Nat} {H:Qb} {v:V} {n:Nat} {cs:List V} (h:Own e s H v n cs) (hc:∀ g,Qk g cs=cs) {Q:V→Qb→Prop} (hQ:∀ v H,Ret e s H v n cs→Q v H):∃ sel,Qb6 sel Q v H:=by
 rcases h with ⟨rfl,rfl,rfl⟩ | ⟨r,rfl,h2,h3⟩
 ·exact ⟨[],by simp,by simp,hQ _ _ (.inl ⟨rfl,rfl,rfl,rfl⟩)⟩
 ·refine ⟨[r],by simp,by simpa using Xg h2,hQ _ _ (.inr ⟨by simp [ren,pos], ?_,h3⟩)⟩
  simp [Qck,h2,Kz,hc]
theorem Own.ret2 {e s:Nat} {H:Qb} {v:V} {n:Nat} {cs:List V} (h:Own e s H v n cs) (hc:∀ g,Qk g cs=cs) {u:V} (hu:∀ g,ren g u=u) {Q:V→Qb→Prop} (hQ:∀ v H,Ret e s H v n cs→Q (.tup [v,u]) H):∃ sel,Qb6 sel Q (.tup [v,u]) H:=by
 rcases h with ⟨rfl,rfl,rfl⟩ | ⟨r,rfl,h2,h3⟩
 ·refine ⟨[],by simp,by simp, ?_⟩
  have:=hQ _ _ (.inl ⟨rfl,rfl,rfl,rfl⟩)
  simpa [ren,Qk,hu,Qck] using this
 ·refine ⟨[r],by simp,by simpa using Xg h2, ?_⟩
  have:=hQ _ _ (.inr ⟨rfl,rfl,h3⟩)
  simpa [ren,Qk,hu,Qck,pos,h2,Kz,hc] using this
theorem Ret.own {e s:Nat} {H H':Qb} {v:V} {n:Nat} {cs:List V} (h:Ret e s H' v n cs) (hc:∀ g,Qk g cs=cs):Own e s (H++Qbf (shift H.length) H') (ren (shift H.length) v) n cs:=by
 rcases h with ⟨rfl,rfl,rfl,rfl⟩ | ⟨rfl,rfl,h3⟩
 ·exact .inl ⟨rfl,rfl,rfl⟩
 ·refine .inr ⟨H.length,by simp [ren,shift], ?_,h3⟩
  have:Qc [some (⟨e,s,cs⟩:Row)] 0=some ⟨e,s,cs⟩:=rfl
  have:=Qh5 (H:=H) (shift H.length) this
  simpa [Kz,hc] using this
theorem Ret.plain {e s:Nat} {H:Qb} {v:V} {n:Nat} {cs:List V} (h:Ret e s H v n cs) (hp:Xt cs=true):plain v=true∧Qar H:=by
 rcases h with ⟨rfl,rfl,rfl,rfl⟩ | ⟨rfl,rfl,h3⟩
 ·exact ⟨rfl,fun r row hr=>by simp at hr⟩
 ·refine ⟨rfl,fun r row hr=>?_⟩
  cases r with
  | zero=>simp at hr;subst hr;exact hp
  | succ r=>simp at hr
def Qzt (b:Bool) (v x:V):V:=match b with | true=>v | false=>x
@[congr] theorem Xrq {uu:Prop} (h00:(True∧True)=uu) {b b':Bool} (v x:V) (h:b=b'):Qzt b v x=Qzt b' v x:=by rw [h]
theorem Qrj (v x:V):Qzt true v x=v:=rfl
theorem Qjn (v x:V):Qzt false v x=x:=rfl
def cif (p:Prop) [Decidable p] (v:V):V:=if p then v else .any
theorem Xj9 (v:V):cif True v=v:=rfl
def Qvi:List (Nat × V)→Nat→V
 | [],_=>.any
 | (i,v)::l,j=>Qzt (i==j) v (Qvi l j)
theorem Qie (i:Nat) (v:V) (l:List (Nat × V)) (j:Nat):Qvi ((i,v)::l) j=Qzt (i==j) v (Qvi l j):=rfl
def env (N:Nat) (l:List (Nat × V)):List V:=(List.range N).map (Qvi l)
theorem Kf (N:Nat) (l:List (Nat × V)):(env N l).length=N:=by simp [env]
theorem Qe5 (N:Nat) (l:List (Nat × V)) (j:Nat):nth (env N l) j=cif (j<N) (Qvi l j):=by
 rw [Ze];simp only [env,cif,List.getD,List.getElem?_map,List.getElem?_range];split
 ·rename_i h;simp [List.getElem?_range,h]
 ·rename_i h;simp [h]
theorem Qkj {l m:List V} (hl:l.length=m.length) (h:∀ j,nth l j=nth m j):l=m:=by
 refine List.ext_getElem hl fun i h1 h2=>?_
 have:=h i
 rw [Ze,Ze] at this;simpa [List.getD,h1,h2] using this
theorem Xlj (N:Nat) (l:List (Nat × V)) (i:Nat) (v:V):upd (env N l) i v=env N ((i,v)::l):=by
 refine Qkj (by rw [Kc,Kf,Kf]) fun j=>?_
 rw [Qa4,Qe5,Qe5,Kf,Qie];by_cases h:j=i
 ·subst h;simp only [true_and,beq_self_eq_true,Qrj,cif];split<;>simp
 ·have:(i==j)=false:=by simpa using fun e=>h e.symm
  rw [if_neg (fun h'=>h h'.1),this,Qjn]
theorem Qko:∀ (l:List (Nat × V)) (j:Nat),Qvi l j=.any∨(j,Qvi l j)∈l
 | [],j=>.inl rfl
 | (i,v)::l,j=>by
  rw [Qie];by_cases h:i=j
  ·subst h;right;simp [Qzt]
  ·have:(i==j)=false:=by simpa using h
   rw [this,Qjn];rcases Qko l j with h1 | h1
   ·exact .inl h1
   ·exact .inr (by simp [h1])
theorem Xo1 {C:Ctx} {ro:Option Nat} {c:Code} {Q:Exit→List V→Qb→Prop} {ts:List V} {H:Qb} {N:Nat} (l:List (Nat × V)) (hL:ts.length=N) (hl:∀ p∈l,nth ts p.1=p.2) (h:T C ro c Q (env N l) H):T C ro c Q ts H:=by
 intro im pl w a hr;refine h im pl w a ⟨⟨by rw [Kf,← hL];exact hr.tr.1,fun j=>?_⟩,hr.hr,hr.df⟩
 rw [Qe5];unfold cif;split
 ·rcases Qko l j with h1 | h1
  ·rw [h1];exact .any _
  ·have:=hl _ h1
   simp only at this;rw [← this];exact hr.tr.2 j
 ·exact .any _
def Qev:Nat→List V→List (Nat × V)
 | _,[]=>[]
 | k,a::l=>(k,a)::Qev (k+1) l
theorem Xff (k:Nat):Qev k []=[]:=rfl
theorem Qph (k:Nat) (a:V) (l:List V):Qev k (a::l)=(k,a)::Qev (k+1) l:=rfl
theorem Ql8:∀ (l:List V) (k:Nat) (p:Nat × V),p∈Qev k l→k≤p.1∧p.1<k+l.length∧nth l (p.1 - k)=p.2
 | [],k,p,h=>by simp [Qev] at h
 | a::l,k,p,h=>by
  rw [Qph] at h;rcases List.mem_cons.1 h with rfl | h
  ·simp [nth]
  ·obtain ⟨h1,h2,h3⟩:=Ql8 l (k+1) p h;refine ⟨by omega,by simp only [List.length_cons];omega, ?_⟩
   rw [show p.1 - k=(p.1 - (k+1))+1 by omega]
   simpa [nth] using h3
theorem Fc.bodyE {C:Ctx} {f:FuncId} {fn:Func} {c:Code} {args:List V} {H:Qb} {K:V→Qb→Prop} (hf:C.P.funcs[f]?=some fn) (hb:fn.body=some c) (hn:(fn.name == "runtime.NumGoroutine")=false) (ha:args.length≤fn.ntmps)
  (h:T C none c (Qs7 C.ty fn.results.toList K) (env fn.ntmps (Qev 0 args)) H):Fc C f args H K:=by
 refine Fc.body hf hb hn (Xo1 (Qev 0 args) (by simp;omega) (fun p hp=>?_) h)
 obtain ⟨h1,h2,h3⟩:=Ql8 args 0 p hp;rw [Zy,if_pos (by omega)]
 exact h3
theorem Xme {ty:TypeId→Ty} {cw:CW} {KL:List V→Qb→Prop} {ts:List V} {H:Qb} {l:List Oper} {d:Option Tmp} {op:Op} {t:TypeId} {p:String} {e:Array Edge} {j:Nat} {b:Bool} {rest:List Oper} {s:Tmp} (h:Qgc l j=some s) :
  Qcg ty cw l.toArray KL (⟨d,op,t,p,e,some (j,b)⟩::rest) ts H=Qct (nth ts s) s b ts (fun ts=>opc ty cw op ts H fun v H'=>Qcg ty cw l.toArray KL rest (Yo ts d v) H') (fun ts=>Qcg ty cw l.toArray KL rest (Yo ts d (.tup [])) H):=by
 rw [Qx7,Qlx,h,Qhn]
theorem Xmf {C:Ctx} {cw:CW} {KL:List V→Qb→Prop} {ts:List V} {H0 H:Qb} {l:List Oper} {d:Option Tmp} {op:Op} {t:TypeId} {p:String} {e:Array Edge} {j:Nat} {b:Bool} {rest:List Oper} {s:Tmp} (h:Qgc l j=some s) :
  Qb3 C cw l.toArray H0 KL (⟨d,op,t,p,e,some (j,b)⟩::rest) ts H=Qct (nth ts s) s b ts (fun ts=>opd C cw op ts H0 H fun v H'=>Qb3 C cw l.toArray H0 KL rest (Yo ts d v) H') (fun ts=>Qb3 C cw l.toArray H0 KL rest (Yo ts d (.tup [])) H):=by
 rw [Qx8,Qlx,h,Qhn]
theorem Fc.pure {C:Ctx} {f:FuncId} {args:List V} {H:Qb} {u:V} {K:V→Qb→Prop} (h:Fc C f args [] fun v H=>v=u∧H=[]) (hc:Qh args=true) (hu:∀ g,ren g u=u) (hK:K u H):Fc C f args H K:=by
 refine h.call hc ?_;rintro v H' ⟨rfl,rfl⟩;simpa [hu,Qbf] using hK
theorem Pc.pure {C:Ctx} {H0:Qb} {f:FuncId} {args:List V} {H:Qb} {u:V} {K:V→Qb→Prop} (h:Fc C f args [] fun v H=>v=u∧H=[]) (hc:Qh args=true) (hu:∀ g,ren g u=u) (hK:K u H):Pc C H0 f args H K:=by
 refine Pc.call h ⟨u,[],rfl,rfl⟩ hc ?_;rintro v H' ⟨rfl,rfl⟩;simpa [hu,Qbf] using hK
theorem Fc.pureB {C:Ctx} {f:FuncId} {args args':List V} {H:Qb} {u:V} {K:V→Qb→Prop} (h:Fc C f args' [] fun v H=>v=u∧H=[]) (hl:args.length=args'.length) (hb:∀ j,Bor H (nth args j) (nth args' j)) (hu:∀ g,ren g u=u) (hp:plain u=true) (hK:K u H):Fc C f args H K:=by
 refine h.borrow hl hb ?_ ?_
 ·rintro v H' ⟨rfl,rfl⟩;exact ⟨hp,fun r row hr=>by simp at hr⟩
 ·rintro v H' ⟨rfl,rfl⟩;simpa [hu,Qbf] using hK
theorem VR.places {im:Nat→Prop} {pl pl':Nat→Place} {w:World} (hp:∀ r,pl r≠.no→pl' r=pl r) {v:V} {c:Value} (h:VR im pl w v c):VR im pl' w v c:=by
 induction h with
 | any v=>exact .any v
 | int k n=>exact .int k n
 | bool b=>exact .bool b
 | str s=>exact .str s
 | nil=>exact .nil
 | sl0 cs a c=>exact .sl0 cs a c
 | sl n cs ad c vs hn hi hc hr ih=>exact .sl n cs ad c vs hn hi hc ih
 | refAt r off n b cap c h hc h0=>exact .refAt r off n b cap c ((hp r (by rw [h];simp)).trans h) hc h0
 | refVirt r h=>exact .refVirt r ((hp r (by rw [h];simp)).trans h)
 | refDead r off n a c h=>exact .refDead r off n a c ((hp r (by rw [h];simp)).trans h)
 | agg cs vs hl hr ih=>exact .agg cs vs hl ih
 | tup cs vs hl hr ih=>exact .tup cs vs hl ih
 | ptrAt r off b cap h=>exact .ptrAt r off b cap ((hp r (by rw [h];simp)).trans h)
 | ptrDead r off a h=>exact .ptrDead r off a ((hp r (by rw [h];simp)).trans h)
 | nilp=>exact .nilp
 | rp cs off ad vs hi hc hr ih=>exact .rp cs off ad vs hi hc ih
 | fn f xs ys us vs hl hr hl' hr' ih ih'=>exact .fn f xs ys us vs hl ih hl' ih'
 | nilf=>exact .nilf
theorem HR.adopt {im:Nat→Prop} {pl:Nat→Place} {w:World} {H:Qb} (h:HR im pl w H) (e:Nat) (cs:List V) (cur:Array Value) {b:Nat} (hb:w.heap[b]?=some (.cells cur e (0,0))) (hi:¬ im b) (hn:∀ r cap,pl r≠.at b cap)
  (hl:cs.length=cur.size) (hv:∀ j,VR im pl w (nth cs j) (cur.getD j undef)):HR im (Qby pl H.length (.at b 1)) w (H++[some ⟨e,cs.length,cs⟩])∧∀ v c,VR im pl w v c→VR im (Qby pl H.length (.at b 1)) w v c:=by
 have hno:=h.no (Nat.le_refl _)
 have hp:∀ r,pl r≠.no→Qby pl H.length (.at b 1) r=pl r:=fun r hr=>Xb _ _ _ _ (fun e=>hr (e ▸ hno))
 have hlt:b<w.heap.size:=(Array.getElem?_eq_some_iff.1 hb).1
 have old:∀ r c b',Qby pl H.length (.at b 1) r=.at b' c→(r=H.length∧b'=b∧c=1)∨(r≠H.length∧pl r=.at b' c):=fun r c b' hr=>by
  by_cases e1:r=H.length
  ·subst e1;rw [Xi] at hr;injection hr with h1 h2;exact .inl ⟨rfl,h1.symm,h2.symm⟩
  ·rw [Xb _ _ _ _ e1] at hr;exact .inr ⟨e1,hr⟩
 refine ⟨⟨fun r=>?_,fun b' hb' r c hr=>?_,fun r b' c hr=>?_,h.imb,fun r r' b' c c' h1 h2=>?_,fun r hr=>?_,fun r hr=>?_,fun r b' c hr=>?_⟩,fun v c hvc=>hvc.places hp⟩
 ·by_cases e1:r=H.length
  ·subst e1;rw [Xi];simp
  ·rw [Xb _ _ _ _ e1];rw [← h.len r];simp;omega
 ·rcases old r c b' hr with ⟨_,rfl,_⟩ | ⟨_,h1⟩
  ·exact hi hb'
  ·exact h.apart b' hb' r c h1
 ·rcases old r c b' hr with ⟨_,rfl,_⟩ | ⟨_,h1⟩
  ·exact hlt
  ·exact h.bound r b' c h1
 ·rcases old r c b' h1 with ⟨q1,q2,_⟩ | ⟨q1,q2⟩<;>rcases old r' c' b' h2 with ⟨p1,p2,_⟩ | ⟨p1,p2⟩
  ·rw [q1,p1]
  ·subst q2;exact (hn r' c' p2).elim
  ·subst p2;exact (hn r c q2).elim
  ·exact h.inj r r' b' c c' q2 p2
 ·by_cases e1:r=H.length
  ·subst e1;rw [Xi] at hr;cases hr
  ·rw [Xb _ _ _ _ e1] at hr;rw [List.getElem?_append_left (h.lt (by rw [hr];simp))];exact h.dead r hr
 ·by_cases e1:r=H.length
  ·subst e1;rw [Xi] at hr;cases hr
  ·rw [Xb _ _ _ _ e1] at hr;rw [List.getElem?_append_left (h.lt (by rw [hr];simp))];exact h.virt r hr
 ·rcases old r c b' hr with ⟨rfl,rfl,rfl⟩ | ⟨_,h1⟩
  ·exact ⟨e,cs.length,cs,cur,by simp,hb,by omega,by simp [maxLen],by omega,fun j=>(hv j).places hp⟩
  ·obtain ⟨e',s',cs',cur',q1,q2,q3,q4,q5,q6⟩:=h.row r b' c h1;exact ⟨e',s',cs',cur',by rw [List.getElem?_append_left (h.lt (by rw [h1];simp))];exact q1,q2,q3,q4,q5,fun j=>(q6 j).places hp⟩
def Qkt:Op→Option TypeId
 | .alloc t=>some t
 | _=>none
def Qbj (ops:Array Oper) (i j:Nat):Bool:=match ops[i]?,ops[j]? with
 | some x,some y=>x.apart ops y
 | _,_=>true
def Qb7 (C:Ctx) (ops:Array Oper) (m:Nat):Bool:=match ops[m]? with
 | some o=>(match Qkt o.op with | some t=>(C.ty t).ok | none=>false)&&o.dst.isSome&&o.guard.isNone&&o.after.toList.all fun e=>!Region.binds .any e
 | none=>false
def Qkz (C:Ctx) (ops:Array Oper):Bool :=
 Zv ops &&
 ((List.range ops.size).all fun i=>match ops[i]? with
  | none=>true
  | some o=>Qb7 C ops i ||
   ((o.after.toList.all fun e=>!Region.binds .any e||decide (e.on<i)) &&
   ((List.range i).all fun j=>Qb7 C ops j||Kl ops j i||Qae ops i j i) &&
   (!Jg o.op||(List.range ops.size).all fun j=>match ops[j]? with
    | some p=>!Zl p.op||Qbd ops i j i
    | none=>true) &&
   (!Qi3 o.op||(List.range ops.size).all fun j=>match ops[j]? with
    | some p=>Qb8 p.op||Yi p.op||Qbd ops i j i
    | none=>true))) &&
 ((List.range ops.size).all fun m=>!Qb7 C ops m||(
  ((List.range m).all fun j=>Qbj ops j m) &&
  ((List.range ops.size).all fun i=>decide (i≤m)||Qb7 C ops i||Kl ops m i||(Qae ops i m i&&(List.range m).all fun j =>
   match Qb7 C ops j with
   | true=>Qae ops i j i
   | false=>Qae ops i j i||(List.range ops.size).all fun k=>decide (k≤j)||decide (m<k)||!Qb7 C ops k||Kl ops j k))))
structure LateS (C:Ctx) (ops:Array Oper) (L:Nat→Prop):Prop where
 known:Zv ops=true
 hat:∀ i o,ops[i]?=some o→¬ L i→Hat ops (fun j=>¬ L j) i o
 late:∀ m,L m→∃ om t d,ops[m]?=some om∧om.op=.alloc t∧om.dst=some d∧om.guard=none∧(∀ j,Yn om j=false)∧(C.ty t).ok=true
 slots:∀ m j,L m→j<m→Qbj ops j m=true
 pair:∀ i m,i<ops.size→¬ L i→L m→m<i→Kl ops m i=true∨(Qae ops i m i=true∧(∀ j,j<m→L j→Qae ops i j i=true)∧∀ j,j<m→¬ L j→Qae ops i j i=true∨∀ k,L k→j<k→k≤m→Kl ops j k=true)
theorem Qzc {C:Ctx} {ops:Array Oper} (h:Qkz C ops=true):LateS C ops (fun i=>Qb7 C ops i=true):=by
 simp only [Qkz,Bool.and_eq_true,List.all_eq_true,List.mem_range] at h;obtain ⟨⟨h1,h2⟩,h3⟩:=h
 have hlt:∀ m,Qb7 C ops m=true→m<ops.size:=fun m hm=>by
  unfold Qb7 at hm;split at hm
  ·rename_i o ho;exact (Array.getElem?_eq_some_iff.1 ho).1
  ·cases hm
 refine ⟨h1,fun i o ho hn=>?_,fun m hm=>?_,fun m j hm hj=>?_,fun i m hi hn hm hmi=>?_⟩
 ·have hlt:i<ops.size:=(Array.getElem?_eq_some_iff.1 ho).1
  have h:=h2 i hlt
  simp only [ho,Bool.and_eq_true,List.all_eq_true,List.mem_range,Bool.or_eq_true,Bool.not_eq_true',decide_eq_true_eq] at h
  have h:=h.resolve_left hn
  refine ⟨fun j hj=>?_,fun j hj hjm=>?_,fun hs j p hp hl=>?_,fun hs j p hp=>?_⟩
  ·simp only [Yn,List.any_eq_true,Bool.and_eq_true] at hj;obtain ⟨e,he,h4,h5⟩:=hj;rw [beq_iff_eq] at h5;subst h5;rcases h.1.1.1 e he with h6 | h6
   ·rw [h4] at h6;cases h6
   ·exact h6
  ·rcases h.1.1.2 j hj with (h5 | h5) | h5
   ·exact (hjm h5).elim
   ·exact .inl h5
   ·exact .inr h5
  ·have hlj:j<ops.size:=(Array.getElem?_eq_some_iff.1 hp).1
   rcases h.1.2 with h6 | h6
   ·rw [hs] at h6;cases h6
   ·have:=h6 j hlj
    simp only [hp,Bool.or_eq_true,Bool.not_eq_true',hl,Bool.true_eq_false,false_or] at this;exact this
  ·have hlj:j<ops.size:=(Array.getElem?_eq_some_iff.1 hp).1
   rcases h.2 with h6 | h6
   ·rw [hs] at h6;cases h6
   ·have:=h6 j hlj
    simp only [hp,Bool.or_eq_true] at this;exact this
 ·unfold Qb7 at hm;split at hm
  ·rename_i o ho;simp only [Bool.and_eq_true,List.all_eq_true,Bool.not_eq_true',Option.isNone_iff_eq_none] at hm;obtain ⟨⟨⟨q1,q2⟩,q3⟩,q4⟩:=hm;obtain ⟨d,hd⟩:=Option.isSome_iff_exists.1 q2;split at q1
   ·rename_i t ht;refine ⟨o,t,d,ho, ?_,hd,q3,fun j=>?_,q1⟩
    ·cases hop:o.op<;>rw [hop] at ht<;>simp [Qkt] at ht;rw [ht]
    ·simp only [Yn,List.any_eq_false,Bool.and_eq_true,not_and];intro e he hb;rw [q4 e he] at hb;cases hb
   ·cases q1
  ·cases hm
 ·have:=h3 m (hlt m hm)
  simp only [hm,Bool.not_true,Bool.false_or,Bool.and_eq_true,List.all_eq_true,List.mem_range] at this;exact this.1 j hj
 ·have:=h3 m (hlt m hm)
  simp only [hm,Bool.not_true,Bool.false_or,Bool.and_eq_true,List.all_eq_true,List.mem_range] at this
  have:=this.2 i hi
  simp only [Bool.or_eq_true,Bool.and_eq_true,decide_eq_true_eq,List.all_eq_true,List.mem_range] at this;rcases this with ((h5 | h5) | h5) | ⟨h5,h6⟩
  ·omega
  ·exact (hn h5).elim
  ·exact .inl h5
  ·refine .inr ⟨h5,fun j hj hl=>?_,fun j hj hl=>?_⟩
   ·have:=h6 j hj
    rw [hl] at this;exact this
   ·have:=h6 j hj
    have hl':Qb7 C ops j=false:=by simpa using hl
    rw [hl'] at this;simp only [Bool.or_eq_true,List.all_eq_true,List.mem_range,decide_eq_true_eq,Bool.not_eq_true'] at this;refine this.imp id fun h k hk hjk hkm=>?_
    rcases h k (hlt k hk) with ((h7 | h7) | h7) | h7
    ·omega
    ·omega
    ·rw [hk] at h7;cases h7
    ·exact h7
structure Pn where
 m:Nat
 d:Nat
 t:TypeId
def Qd2 (P:List Pn) (ts:List V):List V:=P.foldr (fun p ts=>upd ts p.d .any) ts
theorem Qbs (p:Pn) (P:List Pn) (ts:List V):Qd2 (p::P) ts=upd (Qd2 P ts) p.d .any:=rfl
theorem Qan (P:List Pn) (ts:List V):(Qd2 P ts).length=ts.length:=by
 induction P with
 | nil=>rfl
 | cons p P ih=>rw [Qbs,Kc,ih]
theorem Xai {P:List Pn} {p:Pn} (hp:p∈P) (ts:List V):nth (Qd2 P ts) p.d=.any:=by
 induction P with
 | nil=>cases hp
 | cons q P ih =>
  rw [Qbs,Qa4];split
  ·rfl
  ·rename_i hn;rcases List.mem_cons.1 hp with rfl | hp
   ·rw [Ze,List.getD_eq_getElem?_getD,List.getElem?_eq_none]
    ·rfl
    ·simp only [true_and,Nat.not_lt] at hn;exact hn
   ·exact ih hp
theorem Qne {P:List Pn} {j:Nat} (hp:∀ p∈P,p.d≠j) (ts:List V):nth (Qd2 P ts) j=nth ts j:=by
 induction P with
 | nil=>rfl
 | cons q P ih =>
  rw [Qbs,Qa4,if_neg (fun h=>hp q (by simp) h.1.symm)]
  exact ih fun p h=>hp p (by simp [h])
theorem Qt4 {P P':List Pn} (h:∀ p,p∈P↔p∈P') (ts:List V):Qd2 P ts=Qd2 P' ts:=by
 refine Qkj (by rw [Qan,Qan]) fun j=>?_
 by_cases hj:∃ p∈P,p.d=j
 ·obtain ⟨p,hp,rfl⟩:=hj;rw [Xai hp,Xai ((h p).1 hp)]
 ·have h1:∀ p∈P,p.d≠j:=fun p hp e=>hj ⟨p,hp,e⟩
  rw [Qne h1,Qne fun p hp=>h1 p ((h p).2 hp)]
theorem Qfp {P:List Pn} {dst:Option Tmp} (h:∀ p∈P,dst≠some p.d) (v:V) (ts:List V):Yo (Qd2 P ts) dst v=Qd2 P (Yo ts dst v):=by
 induction P with
 | nil=>rfl
 | cons p P ih =>
  rw [Qbs,Qbs,← ih fun q hq=>h q (by simp [hq])]
  exact (Qqq (d:=some p.d) (e:=dst) (fun t ht e=>h p (by simp) (by rw [e,ht])) .any v)
theorem Qt8 {C:Ctx} {cw:CW} {ops:Array Oper} {H0:Qb} {o:Oper} {P:List Pn} (h:∀ p∈P,p.d ∉ o.looksAt ops) (ts:List V):tro C cw ops H0 o (Qd2 P ts)=tro C cw ops H0 o ts:=by
 induction P with
 | nil=>rfl
 | cons p P ih =>
  rw [Qbs]
  have:tro C cw ops H0 o (Yo (Qd2 P ts) (some p.d) .any)=tro C cw ops H0 o (Qd2 P ts):=Qrx fun t ht=>by injection ht with ht;subst ht;exact h p (by simp)
  exact this.trans (ih fun q hq=>h q (by simp [hq]))
def InvL (C:Ctx) (im:Nat→Prop) (pl:Nat→Place) (w0:World) (ds:List Deferred) (P:List Pn) (ts:List V) (H:Qb) (a:Act) (w:World):Prop:=∃ im' pl' ,∃ b:Nat→Nat,Rel im' pl' w (Qd2 P ts) H a∧Ext im pl w0 im' pl' w∧a.defers=ds ∧
 (∀ p∈P,∀ q∈P,b p.d=b q.d→p.d=q.d)∧∀ p∈P,w0.heap.size≤b p.d∧w.heap[b p.d]?=some (.cells (C.ty p.t).z.cells p.t (0,0))∧¬ im' (b p.d)∧(∀ r cap,pl' r≠.at (b p.d) cap)∧(a.tmps.getD p.d undef=.pointer (some ⟨b p.d,0,none⟩)∨a.tmps.size≤p.d)
theorem Qfv (a:Act) {dd:Option Tmp} {d:Nat} (v:Value) (h:dd≠some d):(a.put dd v).tmps.getD d undef=a.tmps.getD d undef∧(a.put dd v).tmps.size=a.tmps.size:=by
 cases dd with
 | none=>exact ⟨rfl,rfl⟩
 | some i =>
  have hne:i≠d:=fun e=>h (by rw [e])
  exact ⟨by simp [Act.put,Array.getD_eq_getD_getElem?,Array.getElem?_setIfInBounds,hne],by simp [Act.put]⟩
theorem Qh4 {C:Ctx} {cw:CW} {ops:Array Oper} {H0:Qb} {o:Oper} {ts:List V} {H:Qb} {K:V→Qb→Prop} (hg:o.guard=none) (h:tro C cw ops H0 o ts H K):opd C cw o.op ts H0 H K:=by
 simp only [tro,Qcs,hg] at h;exact h
section
variable {C:Ctx} {im:Nat→Prop} {pl:Nat→Place} {w0:World} {ds:List Deferred}
theorem InvL.mem {P P':List Pn} (h:∀ p,p∈P↔p∈P') {ts:List V} {H:Qb} {a:Act} {w:World} (hI:InvL C im pl w0 ds P ts H a w):InvL C im pl w0 ds P' ts H a w:=by
 obtain ⟨im',pl',b,h1,h2,h3,h4,h5⟩:=hI;exact ⟨im',pl',b,by rw [← Qt4 h];exact h1,h2,h3,fun p hp q hq=>h4 p ((h p).2 hp) q ((h q).2 hq),fun p hp=>h5 p ((h p).2 hp)⟩
theorem InvL.flush {p:Pn} {P:List Pn} (ht:(C.ty p.t).ok=true) (hd:∀ q∈P,q.d≠p.d) {ts:List V} {H:Qb} {a:Act} {w:World} (h:InvL C im pl w0 ds (p::P) ts H a w) :
  InvL C im pl w0 ds P (upd ts p.d (.ptr H.length 0)) (H++[some ⟨p.t,(Ja (C.ty p.t)).length,Ja (C.ty p.t)⟩]) a w:=by
 obtain ⟨im',pl',b,h1,h2,h3,hinj,hall⟩:=h;obtain ⟨h4,h5,h6,h7,h8⟩:=hall p (by simp)
 have hz:=Qqb (im:=im') (pl:=pl') (w:=w) (C.ok p.t ht)
 obtain ⟨g1,g2⟩:=h1.hr.adopt p.t (Ja (C.ty p.t)) (C.ty p.t).z.cells h5 h6 h7 hz.1 hz.2
 have hno:=h1.hr.no (Nat.le_refl _)
 have hw:Qd2 P (upd ts p.d (.ptr H.length 0))=upd (Qd2 P ts) p.d (.ptr H.length 0):=(Qfp (dst:=some p.d) (fun q hq e=>hd q hq (by injection e with e;exact e.symm)) _ ts).symm
 refine ⟨im',Qby pl' H.length (.at (b p.d) 1),b,⟨⟨?_,fun i=>?_⟩,g1, ?_⟩,⟨h2.os,h2.tape,h2.output,h2.size,h2.imm,h2.imn,fun r hr=>?_,fun r b' c hr=>?_,h2.frame⟩,h3,fun x hx y hy=>hinj x (by simp [hx]) y (by simp [hy]),fun q hq=>?_⟩
 ·have:=h1.tr.1;rw [Qan] at this ⊢;rw [Kc];exact this
 ·have:=h1.tr.2 i
  rw [hw];rw [Qbs] at this;rw [Qa4] at this ⊢;by_cases hi:i=p.d∧p.d<(Qd2 P ts).length
  ·rw [if_pos hi];obtain ⟨rfl,hlt⟩:=hi;rcases h8 with h8 | h8
   ·rw [h8];exact .ptrAt _ 0 (b p.d) 1 (Xi _ _ _)
   ·have:=h1.tr.1;rw [Qan] at this hlt;omega
  ·rw [if_neg hi] at this ⊢;exact g2 _ _ this
 ·obtain ⟨q1,q2⟩:=h1.df;refine ⟨q1,fun dd hd=>?_⟩
  obtain ⟨r,e1,e2,e3⟩:=q2 dd hd;refine ⟨r,e1,e2,fun q cap hq=>?_⟩
  by_cases e4:q=H.length
  ·subst e4;rw [Xi] at hq;injection hq with e5 _;subst e5;rw [h5] at e2;cases e2
  ·rw [Xb _ _ _ _ e4] at hq;exact e3 q cap hq
 ·rcases h2.plo r hr with h | h
  ·exact .inl (by rw [Xb _ _ _ _ (fun e=>hr (by rw [← h,e];exact hno))];exact h)
  ·exact .inr (by rw [Xb _ _ _ _ (fun e=>by rw [e,hno] at h;cases h)];exact h)
 ·by_cases e1:r=H.length
  ·subst e1;rw [Xi] at hr;injection hr with e2 _;exact .inr (by omega)
  ·rw [Xb _ _ _ _ e1] at hr;exact h2.pln r b' c hr
 ·obtain ⟨k4,k5,k6,k7,k8⟩:=hall q (by simp [hq])
  refine ⟨k4,k5,k6,fun r cap hr=>?_,k8⟩
  by_cases e1:r=H.length
  ·subst e1;rw [Xi] at hr;injection hr with e2 _
   exact hd q hq (hinj p (by simp) q (by simp [hq]) e2).symm
  ·rw [Xb _ _ _ _ e1] at hr;exact k7 r cap hr
theorem InvL.op {ro:Option Nat} {H0:Qb} {o:Oper} {P:List Pn} {ts:List V} {H:Qb} {a:Act} {w:World} {KK:V→Qb→Prop} {next:Act→World→Prop} {R:Exit→Act→World→Prop} (hd:∀ p∈P,o.dst≠some p.d) (h:opc C.ty (cwP C H0) o.op (Qd2 P ts) H KK) (hR:InvL C im pl w0 ds P ts H a w)
  (hnext:∀ v vc H' w',KK v H'→InvL C im pl w0 ds P (Yo ts o.dst v) H' (a.put o.dst vc) w'→next (a.put o.dst vc) w'):o.wpIn (FW ro) 0 C.P a w next R:=by
 obtain ⟨im',pl',b,h1,h2,h3,hinj,hall⟩:=hR;refine Qbv (Qim C H0 ro) h h1.tr h1.hr fun v vc H2 im2 pl2 w2 k1 k2 k3 k4=>hnext v vc H2 w2 k1 ⟨im2,pl2,b, ?_,h2.trans k4,by rw [Yl];exact h3,hinj,fun p hp=>?_⟩
 ·have:=h1.put k4 k3 k2 o.dst
  rwa [Qfp hd] at this
 ·obtain ⟨h4,h5,h6,h7,h8⟩:=hall p hp
  have hlt:b p.d<w.heap.size:=(Array.getElem?_eq_some_iff.1 h5).1
  refine ⟨h4,by rw [k4.frame _ hlt h7];exact h5,fun hb=>?_,fun r cap hr=>?_, ?_⟩
  ·rcases k4.imn _ hb with q | q | ⟨r,cap,q⟩
   ·exact h6 q
   ·omega
   ·exact h7 r cap q
  ·rcases k4.pln r _ cap hr with ⟨r',cap',q⟩ | q
   ·exact h7 r' cap' q
   ·omega
  ·obtain ⟨e1,e2⟩:=Qfv a vc (hd p hp);rw [e1,e2];exact h8
theorem InvL.skip {P:List Pn} {ts:List V} {H:Qb} {a:Act} {w:World} {dd:Option Tmp} (hd:∀ p∈P,dd≠some p.d) (hR:InvL C im pl w0 ds P ts H a w):InvL C im pl w0 ds P (Yo ts dd (.tup [])) H (a.put dd (.tuple [].toArray)) w:=by
 obtain ⟨im',pl',b,h1,h2,h3,hinj,hall⟩:=hR;refine ⟨im',pl',b, ?_,h2,by rw [Yl];exact h3,hinj,fun p hp=>?_⟩
 ·have:=h1.put (.refl _ _ _) h1.hr (v:=.tup []) (vc:=.tuple [].toArray) (.tup [] [] rfl fun j=>by simp [nth,List.getD];exact .any _) dd
  rwa [Qfp hd] at this
 ·obtain ⟨h4,h5,h6,h7,h8⟩:=hall p hp;obtain ⟨e1,e2⟩:=Qfv a (.tuple [].toArray) (hd p hp);exact ⟨h4,h5,h6,h7,by rw [e1,e2];exact h8⟩
theorem InvL.made {ro:Option Nat} {p:Pn} (ht:(C.ty p.t).ok=true) {o:Oper} (ho:o.op=.alloc p.t) (hd:o.dst=some p.d) {P:List Pn} (hne:∀ q∈P,q.d≠p.d) {ts:List V} {H:Qb} {a:Act} {w:World} {next:Act→World→Prop} {R:Exit→Act→World→Prop} (hR:InvL C im pl w0 ds P ts H a w)
  (hnext:∀ vc w',InvL C im pl w0 ds (p::P) ts H (a.put o.dst vc) w'→next (a.put o.dst vc) w'):o.wpIn (FW ro) 0 C.P a w next R:=by
 obtain ⟨im',pl',b,h1,h2,h3,hinj,hall⟩:=hR;refine ⟨fun _ _=>trivial, ?_⟩
 rw [Oper.semAt_eq ro a.eval o (fun c=>by rw [ho];simp)]
 have hrun:(execOp a.eval o).run C.P w=.ok (.value (.pointer (some ⟨w.heap.size,0,none⟩))) (w.alloc (.cells (C.ty p.t).z.cells p.t)):=by
  simp only [execOp,ho,Instr.alloc,Sem.run_bind,(C.ok p.t ht).zero,Qd7,Sem.run_pure,Result.andThen_ok]
 rw [hrun]
 have hE:Ext im' pl' w im' pl' (w.alloc (.cells (C.ty p.t).z.cells p.t)):=⟨rfl,rfl,rfl,by simp,fun _ hb=>hb,fun _ hb=>.inl hb,fun r hr=>.inl rfl,fun r b c hb=>.inl ⟨r,c,hb⟩,fun b hb _=>heap_alloc_old _ _ _ hb⟩
 have hH:HR im' pl' (w.alloc (.cells (C.ty p.t).z.cells p.t)) H:=by
  obtain ⟨g1,g2,g3,g4,g5,g6,g7,g8⟩:=h1.hr;refine ⟨g1,g2,fun r b c hr=>Nat.lt_of_lt_of_le (g3 r b c hr) hE.size,fun b hb=>Nat.lt_of_lt_of_le (g4 b hb) hE.size,g5,g6,g7,fun r b c hr=>?_⟩
  obtain ⟨e,s,cs,cur,q1,q2,q3,q4,q5,q6⟩:=g8 r b c hr;exact ⟨e,s,cs,cur,q1,by rw [heap_alloc_old _ _ _ (g3 r b c hr)];exact q2,q3,q4,q5,fun j=>(q6 j).mono hE g2⟩
 have old:∀ q∈P,b q.d<w.heap.size:=fun q hq=>(Array.getElem?_eq_some_iff.1 (hall q hq).2.1).1
 refine hnext _ _ ⟨im',pl',fun x=>if x=p.d then w.heap.size else b x, ?_,h2.trans hE,by rw [Yl];exact h3, ?_,fun q hq=>?_⟩
 ·have:=h1.put hE hH (v:=.any) (vc:=.pointer (some ⟨w.heap.size,0,none⟩)) (.any _) o.dst
  rw [hd] at this ⊢;exact this
 ·intro x hx y hy e;by_cases e1:x.d=p.d
  ·by_cases e2:y.d=p.d
   ·rw [e1,e2]
   ·simp only [e1,e2,if_true,if_false] at e;rcases List.mem_cons.1 hy with rfl | hy
    ·exact (e2 rfl).elim
    ·have:=old y hy;omega
  ·by_cases e2:y.d=p.d
   ·simp only [e1,e2,if_true,if_false] at e;rcases List.mem_cons.1 hx with rfl | hx
    ·exact (e1 rfl).elim
    ·have:=old x hx;omega
   ·simp only [e1,e2,if_false] at e;rcases List.mem_cons.1 hx with rfl | hx
    ·exact (e1 rfl).elim
    rcases List.mem_cons.1 hy with rfl | hy
    ·exact (e2 rfl).elim
    exact hinj x hx y hy e
 ·by_cases e1:q.d=p.d
  ·have hqp:q=p:=by
    rcases List.mem_cons.1 hq with h | h
    ·exact h
    ·exact (hne q h e1).elim
   subst hqp;simp only [if_true];refine ⟨h2.size,heap_alloc_new _ _,fun hb=>Nat.lt_irrefl _ (h1.hr.imb _ hb),fun r cap hr=>Nat.lt_irrefl _ (h1.hr.bound r _ cap hr), ?_⟩
   rw [hd];by_cases hlt:q.d<a.tmps.size
   ·left;simp [Act.put,Array.getD_eq_getD_getElem?,Array.getElem?_setIfInBounds,hlt]
   ·right;simp [Act.put];omega
  ·simp only [e1,if_false]
   have hqP:q∈P:=by
    rcases List.mem_cons.1 hq with h | h
    ·exact (e1 (by rw [h])).elim
    ·exact h
   obtain ⟨h4,h5,h6,h7,h8⟩:=hall q hqP;obtain ⟨e3,e4⟩:=Qfv a (.pointer (some ⟨w.heap.size,0,none⟩)) (dd:=o.dst) (d:=q.d) (by rw [hd];intro e;injection e with e;exact e1 e.symm)
   exact ⟨h4,by rw [heap_alloc_old _ _ _ (old q hqP)];exact h5,h6,h7,by rw [e3,e4];exact h8⟩
structure LeftP (C:Ctx) (ops:Array Oper) (L:Nat→Prop) (listed:Array Bool) (S:List Nat) (P:List Pn):Prop where
 size:listed.size=ops.size
 sorted:S.Pairwise (·<·)
 lt:∀ i∈S,i<ops.size
 mem:∀ i,(i∈S∧∀ p∈P,p.m≠i)↔i<ops.size∧listed.getD i false=false
 sub:∀ p∈P,p.m∈S∧L p.m∧∃ om,ops[p.m]?=some om∧om.op=.alloc p.t∧om.dst=some p.d
 closed:Qjr ops listed
theorem Qvn (q:Nat→Prop):∀ n,(∀ m,m<n→¬ q m)∨∃ m,m<n∧q m∧∀ k,m<k→k<n→¬ q k
 | 0=>.inl fun m h=>by omega
 | n+1=>by
  by_cases h:q n
  ·exact .inr ⟨n,by omega,h,fun k h1 h2=>by omega⟩
  ·rcases Qvn q n with h1 | ⟨m,h1,h2,h3⟩
   ·refine .inl fun m hm=>?_
    by_cases e:m=n
    ·rw [e];exact h
    ·exact h1 m (by omega)
   ·refine .inr ⟨m,by omega,h2,fun k h4 h5=>?_⟩
    by_cases e:k=n
    ·rw [e];exact h
    ·exact h3 k h4 (by omega)
theorem Qs2 {ops:Array Oper} {L:Nat→Prop} (hL:LateS C ops L) {H0:Qb} {K:List V→Qb→Prop} {a:Act} {w:World} (k:Nat):∀ (n:Nat) (S:List Nat) (P:List Pn) (ts:List V) (H:Qb),S.length≤n→S.Pairwise (·<·) →
  (∀ p∈P,p.m∈S∧L p.m∧∃ om,ops[p.m]?=some om∧om.op=.alloc p.t∧om.dst=some p.d)→(∀ m∈S,L m→m<k→∃ p∈P,p.m=m)→(∀ j∈S,¬ L j→∀ m,L m→j<m→m<k→Kl ops j m=true) →
  Qai C (cwP C H0) ops H0 K S ts H→InvL C im pl w0 ds P ts H a w →
  ∃ S' P' ts' H',(∀ i,i∈S'↔i∈S∧¬ (L i∧i<k))∧S'.Sublist S∧(∀ p,p∈P'↔p∈P∧¬ p.m<k)∧Same H H'∧Qai C (cwP C H0) ops H0 K S' ts' H'∧InvL C im pl w0 ds P' ts' H' a w
 | 0,S,P,ts,H,hn,hs,hP,hM,hp,hx,hI=>by
  have:S=[]:=List.length_eq_zero_iff.1 (by omega)
  subst this
  have:P=[]:=by
   cases P with
   | nil=>rfl
   | cons p P=>have:=(hP p (by simp)).1;simp at this
  subst this;exact ⟨[],[],ts,H,by simp,.refl _,by simp,.refl _,hx,hI⟩
 | n+1,S,P,ts,H,hn,hs,hP,hM,hp,hx,hI=>by
  by_cases hnone:∀ m∈S,¬ (L m∧m<k)
  ·exact ⟨S,P,ts,H,fun i=>⟨fun h=>⟨h,hnone i h⟩,fun h=>h.1⟩,.refl _,fun p=>⟨fun h=>⟨h,fun e=>hnone p.m (hP p h).1 ⟨(hP p h).2.1,e⟩⟩,fun h=>h.1⟩,.refl _,hx,hI⟩
  -- the first one
  have hfirst:∀ (S:List Nat),¬ (∀ m∈S,¬ (L m∧m<k))→∃ A m B,S=A++m::B∧(L m∧m<k)∧∀ x∈A,¬ (L x∧x<k):=by
   intro S
   induction S with
   | nil=>intro h;exact (h (by simp)).elim
   | cons x S ih =>
    intro h;by_cases hx:L x∧x<k
    ·exact ⟨[],x,S,rfl,hx,by simp⟩
    ·obtain ⟨A,m,B,e,h1,h2⟩:=ih fun h'=>h fun m hm=>by
      rcases List.mem_cons.1 hm with rfl | hm
      ·exact hx
      ·exact h' m hm
     exact ⟨x::A,m,B,by rw [e];rfl,h1,fun y hy=>by
      rcases List.mem_cons.1 hy with rfl | hy
      ·exact hx
      ·exact h2 y hy⟩
  obtain ⟨A,m,B,rfl,⟨hLm,hmk⟩,hA⟩:=hfirst S hnone
  have hs':=hs
  rw [List.pairwise_append] at hs'
  have hlt:∀ x∈A,x<m:=fun x hx=>hs'.2.2 x hx m (by simp)
  have hgt:∀ x∈B,m<x:=fun x hx=>(List.pairwise_cons.1 hs'.2.1).1 x hx
  have hAL:∀ x∈A,¬ L x:=fun x hx hl=>hA x hx ⟨hl,Nat.lt_trans (hlt x hx) hmk⟩
  obtain ⟨p,hpP,rfl⟩:=hM m (by simp) hLm hmk
  obtain ⟨-, -,om,hom,hop,hdst⟩:=hP p hpP;obtain ⟨om',t',d',hom',hop',hdst',hgd, -,hty⟩:=hL.late p.m hLm;rw [hom] at hom';cases hom';rw [hop] at hop';cases hop'
  have h1:=Qc3 (Qfm C H0) hL.known B A (fun j hj=>hp j (by simp [hj]) (hAL j hj) p.m hLm (hlt j hj) hmk) ts H hx
  simp only [Qai,hom] at h1
  have h2:=Qh4 hgd h1
  rw [hop] at h2;simp only [opd,Yi,if_true,opc,opw] at h2
  have h3:=h2.2
  rw [hdst] at h3
  -- the others' slots are others
  have hslot:∀ q∈P,q.m≠p.m→q.d≠p.d:=fun q hq hne e=>by
   obtain ⟨hqS,hqL,oq,hoq, -,hqd⟩:=hP q hq
   have hap:oq.apart ops om=true∨om.apart ops oq=true:=by
    rcases Nat.lt_or_gt_of_ne hne with h | h
    ·have:=hL.slots p.m q.m hLm h
     simp only [Qbj,hoq,hom] at this;exact .inl this
    ·have:=hL.slots q.m p.m hqL h
     simp only [Qbj,hoq,hom] at this;exact .inr this
   rcases hap with hap | hap
   ·exact (Oper.apart_spec hap).2.1 q.d hqd (by rw [hdst,e])
   ·exact (Oper.apart_spec hap).2.1 p.d hdst (by rw [hqd,e])
  have hPf:∀ q,q∈P↔q∈p::P.filter (fun q=>decide (q.m≠p.m)):=fun q=>by
   simp only [List.mem_cons,List.mem_filter,decide_eq_true_eq];constructor
   ·intro hq;by_cases e:q.m=p.m
    ·left;obtain ⟨-, -,oq,hoq,hqt,hqd⟩:=hP q hq
     rw [e,hom] at hoq;cases hoq;rw [hop] at hqt;rw [hdst] at hqd;cases q;cases p;simp only [Op.alloc.injEq,Option.some.injEq] at *;subst e;subst hqt;subst hqd;rfl
    ·exact .inr ⟨hq,e⟩
   ·rintro (rfl | h)
    ·exact hpP
    ·exact h.1
  have hI':=(hI.mem hPf).flush hty (fun q hq=>by
   simp only [List.mem_filter,decide_eq_true_eq] at hq;exact hslot q hq.1 hq.2)
  obtain ⟨S',P',ts',H',q1,q2,q3,q4,q5,q6⟩:=Qs2 hL k n (A++B) _ _ _ (by simp at hn ⊢;omega) (hs.sublist (by simp)) (fun q hq=>by
   simp only [List.mem_filter,decide_eq_true_eq] at hq;obtain ⟨r1,r2⟩:=hP q hq.1;refine ⟨?_,r2⟩;simp only [List.mem_append,List.mem_cons] at r1 ⊢;rcases r1 with h | h | h
   ·exact .inl h
   ·exact (hq.2 h).elim
   ·exact .inr h) (fun x hx hl hk=>by
   obtain ⟨q,hq,e⟩:=hM x (by simp only [List.mem_append,List.mem_cons] at hx ⊢;exact hx.imp id .inr) hl hk
   refine ⟨q, ?_,e⟩;simp only [List.mem_filter,decide_eq_true_eq];refine ⟨hq,fun e'=>?_⟩
   rw [e] at e';rcases List.mem_append.1 hx with h | h
   ·have:=hlt x h;omega
   ·have:=hgt x h;omega) (fun j hj=>hp j (by simp only [List.mem_append,List.mem_cons] at hj ⊢;exact hj.imp id .inr)) h3 hI'
  refine ⟨S',P',ts',H',fun i=>?_,q2.trans (by simp),fun q=>?_,(Same.app _ _).trans q4,q5,q6⟩
  ·rw [q1];simp only [List.mem_append,List.mem_cons];constructor
   ·rintro ⟨h | h,h'⟩
    ·exact ⟨.inl h,h'⟩
    ·exact ⟨.inr (.inr h),h'⟩
   ·rintro ⟨h | rfl | h,h'⟩
    ·exact ⟨.inl h,h'⟩
    ·exact (h' ⟨hLm,hmk⟩).elim
    ·exact ⟨.inr h,h'⟩
  ·rw [q3];simp only [List.mem_filter,decide_eq_true_eq];constructor
   ·exact fun h=>⟨h.1.1,h.2⟩
   ·exact fun h=>⟨⟨h.1,fun e=>h.2 (by rw [e];exact hmk)⟩,h.2⟩
theorem LeftP.ready {ops:Array Oper} {L:Nat→Prop} (hL:LateS C ops L) {listed:Array Bool} {S:List Nat} {P:List Pn} (h:LeftP C ops L listed S P) (hr:Region.ready .any ops listed=[]):∀ i∈S,∃ p∈P,p.m=i:=by
 -- the first one that is not made is ready
 have main:∀ (n i:Nat),i≤n→i∈S→∃ p∈P,p.m=i:=by
  intro n
  induction n with
  | zero =>
   intro i hi hS;refine Classical.byContradiction fun hno=>?_
   have hun:=(h.mem i).1 ⟨hS,fun p hp e=>hno ⟨p,hp,e⟩⟩
   have:i∈Region.ready .any ops listed:=by
    refine mem_ready.2 ⟨?_,ops[i],by simp [hun.1],fun e he hbb=>?_⟩
    ·have hlt:i<listed.size:=by rw [h.size];exact hun.1
     have:=hun.2
     simp only [Array.getD_eq_getD_getElem?,hlt,Array.getElem?_eq_getElem,Option.getD_some] at this ⊢;exact this
    ·have hbt:Yn ops[i] e.on=true:=by
      simp only [Yn,List.any_eq_true,Bool.and_eq_true];exact ⟨e,by simpa using he,hbb,by simp⟩
     exfalso;by_cases hl:L i
     ·obtain ⟨om,t,d,hom, -, -, -,hfree, -⟩:=hL.late i hl
      have:ops[i]=om:=by simpa [hun.1] using hom
      rw [this,hfree] at hbt;cases hbt
     ·have:=(hL.hat i ops[i] (by simp [hun.1]) hl).1 e.on hbt;omega
   rw [hr] at this;cases this
  | succ n ih =>
   intro i hi hS;refine Classical.byContradiction fun hno=>?_
   have hun:=(h.mem i).1 ⟨hS,fun p hp e=>hno ⟨p,hp,e⟩⟩
   have:i∈Region.ready .any ops listed:=by
    refine mem_ready.2 ⟨?_,ops[i],by simp [hun.1],fun e he hbb=>?_⟩
    ·have hlt:i<listed.size:=by rw [h.size];exact hun.1
     have:=hun.2
     simp only [Array.getD_eq_getD_getElem?,hlt,Array.getElem?_eq_getElem,Option.getD_some] at this ⊢;exact this
    ·have hbt:Yn ops[i] e.on=true:=by
      simp only [Yn,List.any_eq_true,Bool.and_eq_true];exact ⟨e,by simpa using he,hbb,by simp⟩
     by_cases hl:L i
     ·obtain ⟨om,t,d,hom, -, -, -,hfree, -⟩:=hL.late i hl
      have:ops[i]=om:=by simpa [hun.1] using hom
      rw [this,hfree] at hbt;cases hbt
     ·have hlt:=(hL.hat i ops[i] (by simp [hun.1]) hl).1 e.on hbt
      cases hle:listed.getD e.on false with
      | true=>rfl
      | false =>
       have h1:=(h.mem e.on).2 ⟨by omega,hle⟩
       obtain ⟨p,hp,e1⟩:=ih e.on (by omega) h1.1
       exact (h1.2 p hp e1).elim
   rw [hr] at this;cases this
 exact fun i hi=>main i i (Nat.le_refl _) hi
theorem Xej {ro:Option Nat} {ops:Array Oper} {L:Nat→Prop} (hL:LateS C ops L) {H0:Qb} {K:List V→Qb→Prop} {R:Exit→Act→World→Prop} (hK:∀ a w ts H,K ts H→InvL C im pl w0 ds [] ts H a w→R .normal a w) :
  ∀ (fuel:Nat) (S:List Nat) (P:List Pn) (listed:Array Bool) (ts:List V) (H:Qb) (w:World) (a:Act),LeftP C ops L listed S P→(S.filter fun i=>P.all fun p=>decide (p.m≠i)).length≤fuel →
  (Same H0 H∨(Stand H0 H∧∀ j∈S,∀ p,ops[j]?=some p→Zl p.op=false)∨(∀ j∈S,∀ p,ops[j]?=some p→Qb8 p.op=true∨Yi p.op=true))→Qai C (cwP C H0) ops H0 K S ts H→InvL C im pl w0 ds P ts H a w →
  wpAnyIn (FW ro) 0 C.P .any ops R fuel listed a w:=by
 have hcw:=Qfm C H0
 -- all that is left has been made
 have fin:∀ (S:List Nat) (P:List Pn) (listed:Array Bool) (ts:List V) (H:Qb) (w:World) (a:Act),LeftP C ops L listed S P→(∀ i∈S,∃ p∈P,p.m=i)→Qai C (cwP C H0) ops H0 K S ts H→InvL C im pl w0 ds P ts H a w→R .normal a w:=by
  intro S P listed ts H w a hl hall hx hI;obtain ⟨S',P',ts',H',q1,q2,q3,q4,q5,q6⟩:=Qs2 hL ops.size S.length S P ts H (Nat.le_refl _) hl.sorted hl.sub (fun m hm _ _=>hall m hm) (fun j hj hnl m hm hjm hk=>by
   obtain ⟨p,hp,rfl⟩:=hall j hj;exact (hnl (hl.sub p hp).2.1).elim) hx hI
  have:S'=[]:=by
   cases S' with
   | nil=>rfl
   | cons i S' =>
    exfalso;obtain ⟨h1,h2⟩:=(q1 i).1 (by simp)
    obtain ⟨p,hp,rfl⟩:=hall i h1;exact h2 ⟨(hl.sub p hp).2.1,hl.lt _ h1⟩
  subst this
  have:P'=[]:=by
   cases P' with
   | nil=>rfl
   | cons p P' =>
    exfalso;obtain ⟨h1,h2⟩:=(q3 p).1 (by simp)
    exact h2 (hl.lt _ (hl.sub p h1).1)
  subst this;exact hK _ _ _ _ q5 q6
 have todo:∀ {S:List Nat} {P:List Pn} {i:Nat},i∈(S.filter fun i=>P.all fun p=>decide (p.m≠i))↔i∈S∧∀ p∈P,p.m≠i:=fun {S P i}=>by
  simp [List.mem_filter]
 intro fuel
 induction fuel with
 | zero =>
  intro S P listed ts H w a hl hlen hS hx hI
  have hnil:=List.length_eq_zero_iff.1 (Nat.le_zero.1 hlen)
  have hall:∀ i∈S,∃ p∈P,p.m=i:=fun i hi=>Classical.byContradiction fun hno=>by
   have:i∈(S.filter fun i=>P.all fun p=>decide (p.m≠i)):=todo.2 ⟨hi,fun p hp e=>hno ⟨p,hp,e⟩⟩
   rw [hnil] at this;cases this
  refine ⟨?_,fin S P listed ts H w a hl hall hx hI⟩;cases hr:Region.ready .any ops listed with
  | nil=>rfl
  | cons i l =>
   exfalso;obtain ⟨h1,o,ho,h3⟩:=Qcm (listed:=listed) (i:=i) (by rw [hr];simp)
   have hlt:i<ops.size:=(Array.getElem?_eq_some_iff.1 ho).1
   have hlt':i<listed.size:=by rw [hl.size];exact hlt
   have:=(hl.mem i).2 ⟨hlt,by simpa only [Array.getD_eq_getD_getElem?,hlt',Array.getElem?_eq_getElem,Option.getD_some] using h1⟩
   obtain ⟨p,hp,e⟩:=hall i this.1;exact this.2 p hp e
 | succ fuel ih =>
  intro S P listed ts H w a hl hlen hS hx hI;refine ⟨fun hr=>fin S P listed ts H w a hl (hl.ready hL hr) hx hI,fun i hi=>?_⟩
  obtain ⟨h1,o,ho,h3⟩:=Qcm hi
  have hlt:i<ops.size:=(Array.getElem?_eq_some_iff.1 ho).1
  have hlt':i<listed.size:=by rw [hl.size];exact hlt
  have hget:∀ j,(listed.setIfInBounds i true).getD j false=if i=j then true else listed.getD j false:=fun j=>by
   simp only [Array.getD_eq_getD_getElem?,Array.getElem?_setIfInBounds];split
   ·simp [hlt']
   ·rfl
  have hclosed:Qjr ops (listed.setIfInBounds i true):=fun k p hp hk j hj=>by
   rw [hget] at hk ⊢;split
   ·rfl
   ·split at hk
    ·rename_i e;subst e;rw [ho] at hp;cases hp;exact h3 j hj
    ·exact hl.closed k p hp hk j hj
  have hun:listed.getD i false=false:=by simpa only [Array.getD_eq_getD_getElem?,hlt',Array.getElem?_eq_getElem,Option.getD_some] using h1
  obtain ⟨hiS,hiP⟩:=(hl.mem i).2 ⟨hlt,hun⟩
  -- what is not done is not Qae of it
  have un:∀ j∈S,(∀ p∈P,p.m≠j)→Qae ops i j i=false:=fun j hj hjP=>by
   cases h:Qae ops i j i with
   | false=>rfl
   | true =>
    have h5:=Qce hl.closed i j i o ho h3 h
    have h6:=(hl.mem j).1 ⟨hj,hjP⟩
    rw [h5] at h6;cases h6.2
  have unA:∀ j∈S,(∀ p∈P,p.m≠j)→Qbd ops i j i=false:=fun j hj hjP=>by
   cases h:Qbd ops i j i with
   | false=>rfl
   | true =>
    have h5:=Qah hl.closed i j i o ho h3 h
    have h6:=(hl.mem j).1 ⟨hj,hjP⟩
    rw [h5] at h6;cases h6.2
  by_cases hLi:L i
  ·-- it is made Qae of its turn,or in it: it waits
   obtain ⟨om,t,d,hom,hop,hdst,hgd, -,hty⟩:=hL.late i hLi;rw [ho] at hom;cases hom;unfold wpOpIn;simp only [ho];rw [if_pos (by simp [Region.wanted,hgd])]
   refine InvL.made (p:=⟨i,d,t⟩) hty hop hdst (fun q hq e=>?_) hI fun vc w' hI'=>?_
   ·obtain ⟨hqS,hqL,oq,hoq, -,hqd⟩:=hl.sub q hq
    have hne:=hiP q hq
    have hap:oq.apart ops o=true∨o.apart ops oq=true:=by
     rcases Nat.lt_or_gt_of_ne hne with h | h
     ·have:=hL.slots i q.m hLi h
      simp only [Qbj,hoq,ho] at this;exact .inl this
     ·have:=hL.slots q.m i hqL h
      simp only [Qbj,hoq,ho] at this;exact .inr this
    simp only at e;rcases hap with hap | hap
    ·exact (Oper.apart_spec hap).2.1 q.d hqd (by rw [hdst,e])
    ·exact (Oper.apart_spec hap).2.1 d hdst (by rw [hqd,e])
   ·refine ih S (⟨i,d,t⟩::P) _ ts H w' _ ⟨by rw [Array.size_setIfInBounds];exact hl.size,hl.sorted,hl.lt,fun j=>?_,fun q hq=>?_,hclosed⟩ ?_ hS hx hI'
    ·rw [hget];by_cases e:i=j
     ·subst e;simp
     ·rw [if_neg e,← hl.mem j];simp [e]
    ·rcases List.mem_cons.1 hq with rfl | hq
     ·exact ⟨hiS,hLi,o,ho,hop,hdst⟩
     ·exact hl.sub q hq
    ·have hsub:(S.filter fun j=>(⟨i,d,t⟩::P).all fun p=>decide (p.m≠j)).length<(S.filter fun j=>P.all fun p=>decide (p.m≠j)).length:=by
      have e1:(S.filter fun j=>(⟨i,d,t⟩::P).all fun p=>decide (p.m≠j))=(S.filter fun j=>P.all fun p=>decide (p.m≠j)).filter fun j=>decide (i≠j):=by
       rw [List.filter_filter]
       congr 1
      rw [e1];refine Nat.lt_of_le_of_ne (List.length_filter_le _ _) fun e2=>?_
      have:=List.length_filter_eq_length_iff.1 e2 i (todo.2 ⟨hiS,hiP⟩)
      simp at this
     omega
  ·-- what must have been made Qae of it Xoh its turn
   have hhat:=hL.hat i o ho hLi
   obtain ⟨k,hki,hk1,hk2,hk3⟩:∃ k,k≤i∧(∀ m∈S,L m→m<k→∃ p∈P,p.m=m)∧(∀ j∈S,¬ L j→∀ m,L m→j<m→m<k→Kl ops j m=true)∧∀ m∈S,L m→m<i→¬ m<k→Kl ops m i=true:=by
    rcases Qvn (fun m=>m∈S∧L m∧Kl ops m i=false) i with h | ⟨m,hmi,⟨hmS,hmL,hmp⟩,hlast⟩
    ·refine ⟨0,by omega,fun m _ _ h=>by omega,fun j _ _ m _ _ h=>by omega,fun m hm hml hmi _=>?_⟩
     cases e:Kl ops m i with
     | true=>rfl
     | false=>exact (h m hmi ⟨hm,hml,e⟩).elim
    ·rcases hL.pair i m hlt hLi hmL hmi with e | ⟨e1,e2,e3⟩
     ·rw [hmp] at e;cases e
     ·have pend:∀ x∈S,Qae ops i x i=true→∃ p∈P,p.m=x:=fun x hx hxa=>Classical.byContradiction fun hno=>by
       have:=un x hx fun p hp e=>hno ⟨p,hp,e⟩
       rw [hxa] at this;cases this
      refine ⟨m+1,by omega,fun x hx hxl hxm=>?_,fun j hj hjl x hxl hjx hxm=>?_,fun x hx hxl hxi hxm=>?_⟩
      ·by_cases e:x=m
       ·subst e;exact pend _ hx e1
       ·exact pend x hx (e2 x (by omega) hxl)
      ·rcases e3 j (by omega) hjl with e | e
       ·obtain ⟨p,hp,rfl⟩:=pend j hj e;exact (hjl (hl.sub p hp).2.1).elim
       ·exact e x hxl hjx (by omega)
      ·cases e:Kl ops x i with
       | true=>rfl
       | false=>exact (hlast x (by omega) hxi ⟨hx,hxl,e⟩).elim
   obtain ⟨S',P',ts',H',q1,q2,q3,q4,q5,q6⟩:=Qs2 hL k S.length S P ts H (Nat.le_refl _) hl.sorted hl.sub hk1 hk2 hx hI
   have hiS':i∈S':=(q1 i).2 ⟨hiS,fun h=>hLi h.1⟩
   have hS'S:∀ j∈S',j∈S:=fun j hj=>((q1 j).1 hj).1
   have hP'P:∀ p∈P',p∈P:=fun p hp=>((q3 p).1 hp).1
   have hs':S'.Pairwise (·<·):=hl.sorted.sublist q2
   have hS':Same H0 H'∨(Stand H0 H'∧∀ j∈S',∀ p,ops[j]?=some p→Zl p.op=false)∨(∀ j∈S',∀ p,ops[j]?=some p→Qb8 p.op=true∨Yi p.op=true) :=
    hS.imp (·.trans q4) fun h=>h.imp (fun h=>⟨h.1.trans q4.stand,fun j hj=>h.2 j (hS'S j hj)⟩) fun h j hj=>h j (hS'S j hj)
   -- what has been made,and what has not,in what is left
   have made':∀ j∈S',(∀ p∈P',p.m≠j)→∀ p∈P,p.m≠j:=fun j hj hno p hp e=>by
    by_cases hpk:p.m<k
    ·exact ((q1 j).1 hj).2 ⟨by rw [← e];exact (hl.sub p hp).2.1,by rw [← e];exact hpk⟩
    ·exact hno p ((q3 p).2 ⟨hp,hpk⟩) e
   obtain ⟨l1,l2,rfl⟩:=List.append_of_mem hiS'
   have hsa:=hs'
   rw [List.pairwise_append] at hsa
   have hb:=Qc3 hcw hL.known l2 l1 (fun j hj=>by
    have hji:j<i:=hsa.2.2 j hj i (by simp)
    have hjS':j∈l1++i::l2:=by simp [hj]
    by_cases hjL:L j
    ·exact hk3 j (hS'S j hjS') hjL hji fun h=>((q1 j).1 hjS').2 ⟨hjL,h⟩
    ·rcases hhat.2.1 j hji hjL with h4 | h4
     ·exact h4
     ·have:=un j (hS'S j hjS') fun p hp e=>hjL (by rw [← e];exact (hl.sub p hp).2.1)
      rw [h4] at this;cases this) ts' H' q5
   simp only [Qai,ho] at hb
   -- the slots that wait are others
   have hslots:∀ p∈P',p.d ∉ o.looksAt ops∧o.dst≠some p.d:=fun p hp=>by
    obtain ⟨hpS,hpL,op,hop, -,hpd⟩:=hl.sub p (hP'P p hp)
    have hne:=hiP p (hP'P p hp)
    rcases Nat.lt_or_gt_of_ne hne with h | h
    ·have hpS':p.m∈l1++i::l2:=(q1 p.m).2 ⟨hpS,fun h=>((q3 p).1 hp).2 h.2⟩
     have:=hk3 p.m hpS hpL h ((q3 p).1 hp).2
     simp only [Kl,hop,ho,Bool.and_eq_true] at this;obtain ⟨e1,e2,e3⟩:=Oper.apart_spec this.1;exact ⟨e1 p.d hpd,e2 p.d hpd⟩
    ·have:=hL.slots p.m i hpL h
     simp only [Qbj,hop,ho] at this;obtain ⟨e1,e2,e3⟩:=Oper.apart_spec this;exact ⟨e3 p.d hpd,fun e=>e2 p.d e hpd⟩
   rw [← Qt8 (P:=P') (fun p hp=>(hslots p hp).1) ts'] at hb
   unfold wpOpIn;simp only [ho]
   have hsub:∀ j,j∈l1++l2→j∈l1++i::l2:=fun j hj=>by
    simp only [List.mem_append,List.mem_cons] at hj ⊢;exact hj.imp id .inr
   have hni:i ∉ l1++l2:=fun h=>by
    rcases List.mem_append.1 h with h | h
    ·have:=hsa.2.2 i h i (by simp);omega
    ·have:=(List.pairwise_cons.1 hsa.2.1).1 i h;omega
   have hleft:LeftP C ops L (listed.setIfInBounds i true) (l1++l2) P':=by
    refine ⟨by rw [Array.size_setIfInBounds];exact hl.size,hs'.sublist (by simp),fun j hj=>hl.lt j (hS'S j (hsub j hj)),fun j=>?_,fun p hp=>?_,hclosed⟩
    ·rw [hget];by_cases e:i=j
     ·subst e;simp only [if_true,Bool.true_eq_false,and_false,iff_false,not_and];exact fun h=>(hni h).elim
     ·rw [if_neg e,← hl.mem j];constructor
      ·rintro ⟨h1,h2⟩;exact ⟨hS'S j (hsub j h1),made' j (hsub j h1) h2⟩
      ·rintro ⟨h1,h2⟩
       have:j∈l1++i::l2:=(q1 j).2 ⟨h1,fun h=>by
        obtain ⟨p,hp,e1⟩:=hk1 j h1 h.1 h.2;exact h2 p hp e1⟩
       refine ⟨?_,fun p hp=>h2 p (hP'P p hp)⟩
       simp only [List.mem_append,List.mem_cons] at this ⊢;rcases this with h | h | h
       ·exact .inl h
       ·exact (e h.symm).elim
       ·exact .inr h
    ·obtain ⟨r1,r2⟩:=hl.sub p (hP'P p hp);refine ⟨?_,r2⟩
     have:p.m∈l1++i::l2:=(q1 p.m).2 ⟨r1,fun h=>((q3 p).1 hp).2 h.2⟩
     simp only [List.mem_append,List.mem_cons] at this ⊢;rcases this with h | h | h
     ·exact .inl h
     ·exact (hiP p (hP'P p hp) h).elim
     ·exact .inr h
   have hfuel:((l1++l2).filter fun j=>P'.all fun p=>decide (p.m≠j)).length≤fuel:=by
    have e0:((l1++l2).filter fun j=>P'.all fun p=>decide (p.m≠j)).length<((l1++i::l2).filter fun j=>P'.all fun p=>decide (p.m≠j)).length:=by
     have hin:(P'.all fun p=>decide (p.m≠i))=true:=by
      simp only [List.all_eq_true,decide_eq_true_eq];exact fun p hp=>hiP p (hP'P p hp)
     simp only [List.filter_append,List.filter_cons,hin,if_true,List.length_append,List.length_cons];omega
    have e1:((l1++i::l2).filter fun j=>P'.all fun p=>decide (p.m≠j))=((l1++i::l2).filter fun j=>P.all fun p=>decide (p.m≠j)):=by
     refine List.filter_congr fun j hj=>?_
     have:(P'.all fun p=>decide (p.m≠j))=true↔(P.all fun p=>decide (p.m≠j))=true:=by
      simp only [List.all_eq_true,decide_eq_true_eq];exact ⟨made' j hj,fun h p hp=>h p (hP'P p hp)⟩
     exact Bool.eq_iff_iff.2 this
    have e2:=(q2.filter fun j=>P.all fun p=>decide (p.m≠j)).length_le
    rw [e1] at e0;omega
   obtain ⟨im',pl',b,r1,r2⟩:=q6
   have hI':InvL C im pl w0 ds P' ts' H' a w:=⟨im',pl',b,r1,r2⟩
   rcases Qc9 hb r1.tr with ⟨hw,h⟩ | ⟨hw,h⟩
   ·rw [if_pos hw]
    have hS1:Same H0 H'∨(Stand H0 H'∧Zl o.op=false)∨(Qb8 o.op=true∨Yi o.op=true):=hS'.imp id fun h=>h.imp (fun h=>⟨h.1,h.2 i (by simp) o ho⟩) (fun h=>h i (by simp) o ho)
    refine hI'.op (fun p hp=>(hslots p hp).2) (Qlp hcw (Jd hL.known ho) hS1 h) fun v vc H2 w' k1 k2=>?_
    refine ih (l1++l2) P' _ _ H2 w' _ hleft hfuel ?_ k1.2 k2
    -- what is not listed
    have unl:∀ j∈l1++l2,∀ p,ops[j]?=some p→(∀ x∈P',x.m≠j)→listed.getD j false=false:=fun j hj p hp hno=>((hl.mem j).1 ⟨hS'S j (hsub j hj),made' j (hsub j hj) hno⟩).2
    rcases k1.1 with k5 | ⟨k5,k6⟩ | k5
    ·rcases hS' with hS | hS | hS
     ·exact .inl (k5.1 hS)
     ·exact .inr (.inl ⟨k5.2 hS.1,fun j hj p hp=>hS.2 j (hsub j hj) p hp⟩)
     ·exact .inr (.inr fun j hj p hp=>hS j (hsub j hj) p hp)
    ·have hnl:∀ j∈l1++l2,∀ p,ops[j]?=some p→Zl p.op=false:=fun j hj p hp=>by
      cases hload:Zl p.op with
      | false=>rfl
      | true =>
       have h7:=hhat.2.2.1 k5 j p hp hload
       have h8:=Qah hl.closed i j i o ho h3 h7
       have h9:=unl j hj p hp fun x hx e=>by
        obtain ⟨-, -,ox,hox,hxt, -⟩:=hl.sub x (hP'P x hx);rw [e,hp] at hox;cases hox;rw [hxt] at hload;cases hload
       rw [h8] at h9;cases h9
     rcases hS' with hS | hS | hS
     ·exact .inr (.inl ⟨hS.stand.trans k6,hnl⟩)
     ·exact .inr (.inl ⟨hS.1.trans k6,hnl⟩)
     ·exact .inr (.inr fun j hj p hp=>hS j (hsub j hj) p hp)
    ·refine .inr (.inr fun j hj p hp=>?_)
     rcases hhat.2.2.2 k5 j p hp with h7 | h7
     ·exact h7
     ·have h8:=Qah hl.closed i j i o ho h3 h7
      by_cases hx:∃ x∈P',x.m=j
      ·obtain ⟨x,hx,e⟩:=hx;obtain ⟨-, -,ox,hox,hxt, -⟩:=hl.sub x (hP'P x hx);rw [e,hp] at hox;cases hox
       right;rw [hxt];rfl
      ·have h9:=unl j hj p hp fun x hxP e=>hx ⟨x,hxP,e⟩
       rw [h8] at h9;cases h9
   ·rw [if_neg (by simp [hw])]
    refine ⟨fun _ _=>trivial,ih (l1++l2) P' _ _ H' w _ hleft hfuel ?_ h (hI'.skip fun p hp=>(hslots p hp).2)⟩
    exact hS'.imp id fun h=>h.imp (fun h=>⟨h.1,fun j hj p hp=>h.2 j (hsub j hj) p hp⟩) (fun h j hj p hp=>h j (hsub j hj) p hp)
end
theorem Xrz {C:Ctx} {ro:Option Nat} (hm:C.P.follows .mixedOrders=true) {id:Nat} {ops:Array Oper} (hdr:Qkz C ops=true) {Q:Exit→List V→Qb→Prop} {ts:List V} {H:Qb}
  {H0:Qb} (hs0:Same H0 H) (h:Qb3 C (cwP C H0) ops H0 (Q .normal) ops.toList ts H):T C ro (.region id ops true) Q ts H:=by
 intro im pl w a hr
 have hL:=Qzc hdr
 refine wpIn_region_any hm ?_
 have hx:=Qsb (Qfm C H0) hL.known ops.toList 0 ts H (by simp) h
 have hvr:∀ {v c},VR im pl w v c→VR im pl { w with drawn:=w.drawn+1 } v c:=fun h=>VR.world (w:=w) (w':={ w with drawn:=w.drawn+1 }) (fun _ _ _ (h:w.cell? _=some _)=>h) h
 have hE:Ext im pl w im pl { w with drawn:=w.drawn+1 }:=⟨rfl,rfl,rfl,Nat.le_refl _,fun _ h=>h,fun _ h=>.inl h,fun _ _=>.inl rfl,fun r b cap h=>.inl ⟨r,cap,h⟩,fun _ _ _=>rfl⟩
 have hr':Rel im pl { w with drawn:=w.drawn+1 } ts H a:=by
  refine ⟨⟨hr.tr.1,fun i=>hvr (hr.tr.2 i)⟩, ?_,hr.df.mono hE⟩
  obtain ⟨g1,g2,g3,g4,g5,g6,g7,g8⟩:=hr.hr;refine ⟨g1,g2,g3,g4,g5,g6,g7,fun r b cap hp=>?_⟩
  obtain ⟨e,s,cs,cur,f1,f2,f3,f4,f5,f6⟩:=g8 r b cap hp;exact ⟨e,s,cs,cur,f1,f2,f3,f4,f5,fun j=>hvr (f6 j)⟩
 refine Xej (im:=im) (pl:=pl) (w0:=w) (ds:=a.defers) hL (fun a' w' ts' H' k1 k2=>?_) ops.size (List.range' 0 ops.toList.length) [] _ ts H _ a ⟨by simp,List.pairwise_lt_range' ..,fun i hi=>?_,fun i=>?_,fun p hp=>(by cases hp),fun i o ho hl=>?_⟩ (Nat.le_trans (List.length_filter_le _ _) (by simp)) (.inl hs0) hx ⟨im,pl,fun _=>0,hr',hE,rfl,fun p hp=>(by cases hp),fun p hp=>(by cases hp)⟩
 ·obtain ⟨im',pl',b,k2,k3,k4,_⟩:=k2;exact ⟨ts',H',im',pl',k1,k2,k3,by rw [k4];exact .refl _ _⟩
 ·simpa [List.mem_range'_1] using hi
 ·simp only [List.mem_range'_1,Nat.zero_le,true_and,Nat.zero_add,Array.length_toList];simp only [Array.getD_eq_getD_getElem?,Array.getElem?_replicate];constructor
  ·intro h;refine ⟨h.1, ?_⟩;simp [h.1]
  ·exact fun h=>⟨h.1,fun p hp=>by cases hp⟩
 ·exfalso;simp only [Array.getD_eq_getD_getElem?,Array.getElem?_replicate] at hl
  split at hl<;>simp at hl
end Go.Bv
end
section
namespace Go.Bv
open Go.RowKit
def Xpc (ops:Array Oper) (t:TypeId) (d:Nat) (s:Nat):Bool:=match ops[s]? with
 | some p=>(match p.op with | .store t' (.tmp d') _=>t'==t&&d'==d | _=>false)&&p.dst.isNone&&p.guard.isNone
 | none=>false
def Ki (ops:Array Oper) (p:Pn):Nat:=((List.range ops.size).find? (Xpc ops p.t p.d)).getD 0
def stX (ops:Array Oper) (p:Pn):Operand:=match ops[Ki ops p]? with
 | some o=>(match o.op with | .store _ _ x=>x | _=>.tmp 0)
 | none=>.tmp 0
def Xup (C:Ctx) (ops:Array Oper) (m:Nat):Option Pn:=match ops[m]? with
 | some o=>(match Qkt o.op,o.dst with
  | some t,some d=>if Qb7 C ops m then some ⟨m,d,t⟩ else none
  | _,_=>none)
 | none=>none
def fus (C:Ctx) (ops:Array Oper):List Pn:=(List.range ops.size).filterMap (Xup C ops)
def Qbn (ops:Array Oper) (fs:List Pn) (i:Nat):Bool:=fs.all fun f=>f.m != i&&Ki ops f != i
def Qwr (ops:Array Oper) (d j:Nat):Bool:=match ops[j]? with
 | some o=>!(o.looksAt ops).contains d&&o.dst != some d
 | none=>true
def Xhv (ops:Array Oper) (x:Operand) (j:Nat):Bool:=match ops[j]?,x with
 | some o,.tmp u=>o.dst != some u
 | _,_=>true
def fuB (C:Ctx) (ops:Array Oper) (fs:List Pn) (f:Pn):Bool :=
 Qb7 C ops f.m&&(match ops[f.m]? with | some o=>(match Qkt o.op with | some t=>t==f.t | none=>false)&&o.dst==some f.d | none=>false) &&
 Xpc ops f.t f.d (Ki ops f)&&decide (f.m<Ki ops f)&&(match ops[Ki ops f]? with | some p=>Yn p f.m | none=>false) &&
 ((List.range ops.size).all fun j=>j==f.m||j==Ki ops f||Qwr ops f.d j) &&
 ((List.range ops.size).all fun j=>Xhv ops (stX ops f) j||(Qbn ops fs j&&Qae ops (Ki ops f) j (Ki ops f))) &&
 fs.all fun g=>g.m==f.m||(g.d != f.d&&Ki ops g != Ki ops f)
def Qge (C:Ctx) (ops:Array Oper):Bool :=
 Zv ops&&(fus C ops).all (fuB C ops (fus C ops))&&((fus C ops).map (·.m)).Nodup &&
 (List.range ops.size).all fun i=>match ops[i]? with
  | none=>true
  | some o=>o.guard.isNone&&(o.after.toList.all fun e=>!Region.binds .any e||decide (e.on<i)) &&
   (!Qbn ops (fus C ops) i||(!Yi o.op&&(List.range i).all fun j=>!Qbn ops (fus C ops) j||Kl ops j i||Qae ops i j i))
def Xot (C:Ctx) (ops:Array Oper):List Nat:=(List.range ops.size).filter (Qbn ops (fus C ops))++(fus C ops).flatMap fun f=>[f.m,Ki ops f]
def Qv1 (C:Ctx) (ops:Array Oper):List Oper:=(Xot C ops).filterMap fun i=>ops[i]?
structure FuP (C:Ctx) (ops:Array Oper) (fs:List Pn) (f:Pn):Prop where
 al:∃ o,ops[f.m]?=some o∧o.op=.alloc f.t∧o.dst=some f.d∧o.guard=none∧∀ j,Yn o j=false
 ty:(C.ty f.t).ok=true
 st:∃ p,ops[Ki ops f]?=some p∧p.op=.store f.t (.tmp f.d) (stX ops f)∧p.dst=none∧p.guard=none∧Yn p f.m=true
 lt:f.m<Ki ops f
 away:∀ j o,ops[j]?=some o→j≠f.m→j≠Ki ops f→f.d ∉ o.looksAt ops∧o.dst≠some f.d
 src:∀ j o,ops[j]?=some o→(∀ u,stX ops f=.tmp u→o.dst≠some u)∨(Qbn ops fs j=true∧Qae ops (Ki ops f) j (Ki ops f)=true)
 apart:∀ g∈fs,g.m=f.m∨(g.d≠f.d∧Ki ops g≠Ki ops f)
structure FuS (C:Ctx) (ops:Array Oper) (fs:List Pn):Prop where
 known:Zv ops=true
 fu:∀ f∈fs,FuP C ops fs f
 nodup:(fs.map (·.m)).Nodup
 guard:∀ (i:Nat) (o:Oper),ops[i]?=some o→o.guard=none
 after:∀ (i:Nat) (o:Oper),ops[i]?=some o→∀ j,Yn o j=true→j<i
 eff:∀ (i:Nat) (o:Oper),ops[i]?=some o→Qbn ops fs i=true→Yi o.op=false
 pair:∀ i j,i<ops.size→Qbn ops fs i=true→j<i→Qbn ops fs j=true→Kl ops j i=true∨Qae ops i j i=true
theorem Qzd {C:Ctx} {ops:Array Oper} (h:Qge C ops=true):FuS C ops (fus C ops):=by
 simp only [Qge,Bool.and_eq_true,List.all_eq_true,List.mem_range,decide_eq_true_eq] at h;obtain ⟨⟨⟨h1,h2⟩,h3⟩,h4⟩:=h
 have lt:∀ {i:Nat} {o:Oper},ops[i]?=some o→i<ops.size:=fun {i o} ho=>(Array.getElem?_eq_some_iff.1 ho).1
 have at4:∀ i o,ops[i]?=some o→o.guard.isNone=true∧(∀ e∈o.after.toList,(!Region.binds .any e||decide (e.on<i))=true)∧((!Qbn ops (fus C ops) i)=true∨((!Yi o.op)=true∧∀ j,j<i→(!Qbn ops (fus C ops) j||Kl ops j i||Qae ops i j i)=true)):=fun i o ho=>by
  have:=h4 i (lt ho)
  simp only [ho,Bool.and_eq_true,List.all_eq_true,List.mem_range,Bool.or_eq_true (!Qbn ops (fus C ops) i)] at this;exact ⟨this.1.1,this.1.2,this.2⟩
 refine ⟨h1,fun f hf=>?_,h3,fun i o ho=>?_,fun i o ho j hj=>?_,fun i o ho hn=>?_,fun i j hi hn hj hnj=>?_⟩
 ·have:=h2 f hf
  simp only [fuB,Bool.and_eq_true,List.all_eq_true,List.mem_range,decide_eq_true_eq,Bool.or_eq_true,beq_iff_eq] at this;obtain ⟨⟨⟨⟨⟨⟨⟨a1,a2⟩,a3⟩,a4⟩,a5⟩,a6⟩,a7⟩,a8⟩:=this;unfold Qb7 at a1;split at a1
  ·rename_i o ho;simp only [ho,Bool.and_eq_true,beq_iff_eq] at a2;simp only [Bool.and_eq_true,List.all_eq_true,Bool.not_eq_true',Option.isNone_iff_eq_none] at a1;obtain ⟨⟨⟨q1,q2⟩,q3⟩,q4⟩:=a1;obtain ⟨a2,a2d⟩:=a2;split at a2
   ·rename_i t ht
    have ht2:=ht
    have htt:t=f.t:=by simpa using a2
    subst htt;rw [ht] at q1
    have hop:o.op=.alloc f.t:=by
     cases hop:o.op<;>rw [hop] at ht<;>simp [Qkt] at ht;rw [ht]
    unfold Xpc at a3;split at a3
    ·rename_i p hp;simp only [Bool.and_eq_true,Option.isNone_iff_eq_none] at a3;obtain ⟨⟨b1,b2⟩,b3⟩:=a3;rw [hp] at a5;split at b1
     ·rename_i t' d' x hst;simp only [Bool.and_eq_true,beq_iff_eq] at b1;obtain ⟨b4,b5⟩:=b1;subst b4 b5
      have hx:stX ops f=x:=by simp only [stX,hp,hst]
      refine ⟨⟨o,ho,hop,a2d,q3,fun j=>?_⟩,q1,⟨p,hp,by rw [hx];exact hst,b2,b3,a5⟩,a4,fun j oj hoj n1 n2=>?_,fun j oj hoj=>?_,fun g hg=>?_⟩
      ·simp only [Yn,List.any_eq_false,Bool.and_eq_true,not_and];intro e he hb;rw [q4 e he] at hb;cases hb
      ·rcases a6 j (lt hoj) with (h | h) | h
       ·exact (n1 h).elim
       ·exact (n2 h).elim
       ·simp only [Qwr,hoj,Bool.and_eq_true,Bool.not_eq_true',bne_iff_ne,ne_eq] at h;exact ⟨by simpa using h.1,h.2⟩
      ·rcases a7 j (lt hoj) with h | h
       ·left;intro u hu
        simp only [Xhv,hoj,hu,bne_iff_ne,ne_eq] at h;exact h
       ·exact .inr h
      ·rcases a8 g hg with h | h
       ·exact .inl h
       ·simp only [bne_iff_ne,ne_eq,Bool.and_eq_true] at h;exact .inr h
     ·cases b1
    ·cases a3
   ·cases a2
  ·cases a1
 ·simpa using (at4 i o ho).1
 ·simp only [Yn,List.any_eq_true,Bool.and_eq_true] at hj;obtain ⟨e,he,h5,h6⟩:=hj;rw [beq_iff_eq] at h6;subst h6
  have:=(at4 i o ho).2.1 e he
  simp only [h5,Bool.not_true,Bool.false_or,decide_eq_true_eq] at this;exact this
 ·rcases (at4 i o ho).2.2 with h | h
  ·simp [hn] at h
  ·simpa using h.1
 ·obtain ⟨o,ho⟩:∃ o,ops[i]?=some o:=⟨ops[i],by simp [hi]⟩
  rcases (at4 i o ho).2.2 with h | h
  ·simp [hn] at h
  ·have:=h.2 j hj
   simp only [hnj,Bool.not_true,Bool.false_or,Bool.or_eq_true] at this;exact this
theorem Rel.unplaced {im:Nat→Prop} {pl:Nat→Place} {w:World} {ts:List V} {H:Qb} {a:Act} (h:Rel im pl w ts H a) {b:Nat} {cur:Array Value} (cur':Array Value) {t:TypeId} (hb:w.heap[b]?=some (.cells cur t (0,0))) (hi:¬ im b) (hn:∀ r cap,pl r≠.at b cap) :
  Rel im pl (w.setRow b cur') ts H a∧∀ v c,VR im pl w v c→VR im pl (w.setRow b cur') v c:=by
 have hv:∀ v c,VR im pl w v c→VR im pl (w.setRow b cur') v c:=fun v c hvc=>hvc.world fun ad v had hc=>by
  have hne:ad.block≠b:=fun e=>hi (e ▸ had)
  rw [cell_setRow_other w b cur' ad hne];exact hc
 have hsz:(w.setRow b cur').heap.size=w.heap.size:=by simp [World.setRow]
 obtain ⟨g1,g2,g3,g4,g5,g6,g7,g8⟩:=h.hr;refine ⟨⟨⟨h.tr.1,fun i=>hv _ _ (h.tr.2 i)⟩,⟨g1,g2,fun r b' c hr=>by rw [hsz];exact g3 r b' c hr,fun b' hb'=>by rw [hsz];exact g4 b' hb',g5,g6,g7,fun r b' c hr=>?_⟩, ?_⟩,hv⟩
 ·obtain ⟨e,s,cs,cu,f1,f2,f3,f4,f5,f6⟩:=g8 r b' c hr;exact ⟨e,s,cs,cu,f1,by rw [setRow_other w b b' cur' (fun e=>hn r c (e ▸ hr))];exact f2,f3,f4,f5,fun j=>hv _ _ (f6 j)⟩
 ·obtain ⟨q1,q2⟩:=h.df;refine ⟨q1,fun dd hd=>?_⟩
  obtain ⟨r,e1,e2,e3⟩:=q2 dd hd;refine ⟨r,e1, ?_,e3⟩;rw [setRow_other w b _ cur' (fun e=>by rw [e,hb] at e2;cases e2)]
  exact e2
def Xus (C:Ctx) (x:Operand) (im:Nat→Prop) (pl:Nat→Place) (w:World) (ts:List V) (p:Pn) (st:Bool) (cur:Array Value):Prop:=match st with
 | true=>cur.size=(Ja (C.ty p.t)).length∧∀ j,VR im pl w (nth (Qa2 (Ja (C.ty p.t)) 0 (cellsOf (ev ts x))) j) (cur.getD j undef)
 | false=>cur=(C.ty p.t).z.cells
def InvF (C:Ctx) (ops:Array Oper) (im:Nat→Prop) (pl:Nat→Place) (w0:World) (ds:List Deferred) (P:List Pn) (st:Pn→Bool) (ts:List V) (H:Qb) (a:Act) (w:World):Prop:=∃ im' pl' ,∃ b:Nat→Nat,Rel im' pl' w (Qd2 P ts) H a∧Ext im pl w0 im' pl' w∧a.defers=ds ∧
 (∀ p∈P,∀ q∈P,b p.d=b q.d→p.d=q.d)∧∀ p∈P,w0.heap.size≤b p.d∧¬ im' (b p.d)∧(∀ r cap,pl' r≠.at (b p.d) cap)∧(a.tmps.getD p.d undef=.pointer (some ⟨b p.d,0,none⟩)∨a.tmps.size≤p.d)∧∃ cur,w.heap[b p.d]?=some (.cells cur p.t (0,0))∧Xus C (stX ops p) im' pl' w ts p (st p) cur
theorem Xnk {P:List Pn} {x:Operand} (h:∀ p∈P,x≠.tmp p.d) (ts:List V):ev (Qd2 P ts) x=ev ts x:=by
 cases x with
 | tmp u=>exact Qne (fun p hp e=>h p hp (by rw [e])) ts
 | _=>rfl
section
variable {C:Ctx} {ops:Array Oper} {im:Nat→Prop} {pl:Nat→Place} {w0:World} {ds:List Deferred}
theorem InvF.mem {P P':List Pn} {st:Pn→Bool} (h:∀ p,p∈P↔p∈P') {ts:List V} {H:Qb} {a:Act} {w:World} (hI:InvF C ops im pl w0 ds P st ts H a w):InvF C ops im pl w0 ds P' st ts H a w:=by
 obtain ⟨im',pl',b,h1,h2,h3,h4,h5⟩:=hI;exact ⟨im',pl',b,by rw [← Qt4 h];exact h1,h2,h3,fun p hp q hq=>h4 p ((h p).2 hp) q ((h q).2 hq),fun p hp=>h5 p ((h p).2 hp)⟩
theorem InvF.flags {P:List Pn} {st st':Pn→Bool} (h:∀ p∈P,st p=st' p) {ts:List V} {H:Qb} {a:Act} {w:World} (hI:InvF C ops im pl w0 ds P st ts H a w):InvF C ops im pl w0 ds P st' ts H a w:=by
 obtain ⟨im',pl',b,h1,h2,h3,h4,h5⟩:=hI;refine ⟨im',pl',b,h1,h2,h3,h4,fun p hp=>?_⟩
 rw [← h p hp];exact h5 p hp
theorem InvF.flush {p:Pn} {P:List Pn} {st:Pn→Bool} (hst:st p=true) (hd:∀ q∈P,q.d≠p.d) (hx:∀ q∈P,stX ops q≠.tmp p.d) {ts:List V} {H:Qb} {a:Act} {w:World} (h:InvF C ops im pl w0 ds (p::P) st ts H a w) :
  InvF C ops im pl w0 ds P st (upd ts p.d (.ptr H.length 0)) (H++[some ⟨p.t,(Qa2 (Ja (C.ty p.t)) 0 (cellsOf (ev ts (stX ops p)))).length,Qa2 (Ja (C.ty p.t)) 0 (cellsOf (ev ts (stX ops p)))⟩]) a w:=by
 obtain ⟨im',pl',b,h1,h2,h3,hinj,hall⟩:=h;obtain ⟨h4,h6,h7,h8,cur,h5,hc⟩:=hall p (by simp)
 rw [hst] at hc;obtain ⟨c1,c2⟩:=hc;obtain ⟨g1,g2⟩:=h1.hr.adopt p.t (Qa2 (Ja (C.ty p.t)) 0 (cellsOf (ev ts (stX ops p)))) cur h5 h6 h7 (by rw [Qaq];exact c1.symm) c2
 have hno:=h1.hr.no (Nat.le_refl _)
 have hw:Qd2 P (upd ts p.d (.ptr H.length 0))=upd (Qd2 P ts) p.d (.ptr H.length 0):=(Qfp (dst:=some p.d) (fun q hq e=>hd q hq (by injection e with e;exact e.symm)) _ ts).symm
 refine ⟨im',Qby pl' H.length (.at (b p.d) 1),b,⟨⟨?_,fun i=>?_⟩,g1, ?_⟩,⟨h2.os,h2.tape,h2.output,h2.size,h2.imm,h2.imn,fun r hr=>?_,fun r b' c hr=>?_,h2.frame⟩,h3,fun x hx y hy=>hinj x (by simp [hx]) y (by simp [hy]),fun q hq=>?_⟩
 ·have:=h1.tr.1;rw [Qan] at this ⊢;rw [Kc];exact this
 ·have:=h1.tr.2 i
  rw [hw];rw [Qbs] at this;rw [Qa4] at this ⊢;by_cases hi:i=p.d∧p.d<(Qd2 P ts).length
  ·rw [if_pos hi];obtain ⟨rfl,hlt⟩:=hi;rcases h8 with h8 | h8
   ·rw [h8];exact .ptrAt _ 0 (b p.d) 1 (Xi _ _ _)
   ·have:=h1.tr.1;rw [Qan] at this hlt;omega
  ·rw [if_neg hi] at this ⊢;exact g2 _ _ this
 ·obtain ⟨q1,q2⟩:=h1.df;refine ⟨q1,fun dd hd=>?_⟩
  obtain ⟨r,e1,e2,e3⟩:=q2 dd hd;refine ⟨r,e1,e2,fun q cap hq=>?_⟩
  by_cases e4:q=H.length
  ·subst e4;rw [Xi] at hq;injection hq with e5 _;subst e5;rw [h5] at e2;cases e2
  ·rw [Xb _ _ _ _ e4] at hq;exact e3 q cap hq
 ·rcases h2.plo r hr with h | h
  ·exact .inl (by rw [Xb _ _ _ _ (fun e=>hr (by rw [← h,e];exact hno))];exact h)
  ·exact .inr (by rw [Xb _ _ _ _ (fun e=>by rw [e,hno] at h;cases h)];exact h)
 ·by_cases e1:r=H.length
  ·subst e1;rw [Xi] at hr;injection hr with e2 _;exact .inr (by omega)
  ·rw [Xb _ _ _ _ e1] at hr;exact h2.pln r b' c hr
 ·obtain ⟨k4,k6,k7,k8,cu,k5,k9⟩:=hall q (by simp [hq])
  refine ⟨k4,k6,fun r cap hr=>?_,k8,cu,k5, ?_⟩
  ·by_cases e1:r=H.length
   ·subst e1;rw [Xi] at hr;injection hr with e2 _
    exact hd q hq (hinj p (by simp) q (by simp [hq]) e2).symm
   ·rw [Xb _ _ _ _ e1] at hr;exact k7 r cap hr
  ·have e:ev (upd ts p.d (.ptr H.length 0)) (stX ops q)=ev ts (stX ops q):=Qlz (d:=some p.d) fun t ht e=>by injection ht with ht;subst ht;exact hx q hq e
   cases hs:st q with
   | false=>rw [hs] at k9;exact k9
   | true =>
    rw [hs] at k9;exact ⟨k9.1,fun j=>by rw [e];exact g2 _ _ (k9.2 j)⟩
theorem InvF.op {ro:Option Nat} {H0:Qb} {o:Oper} {P:List Pn} {st:Pn→Bool} {ts:List V} {H:Qb} {a:Act} {w:World} {KK:V→Qb→Prop} {next:Act→World→Prop} {R:Exit→Act→World→Prop} (hd:∀ p∈P,o.dst≠some p.d) (hx:∀ p∈P,st p=true→∀ u,stX ops p=.tmp u→o.dst≠some u) (h:opc C.ty (cwP C H0) o.op (Qd2 P ts) H KK) (hR:InvF C ops im pl w0 ds P st ts H a w)
  (hnext:∀ v vc H' w',KK v H'→InvF C ops im pl w0 ds P st (Yo ts o.dst v) H' (a.put o.dst vc) w'→next (a.put o.dst vc) w'):o.wpIn (FW ro) 0 C.P a w next R:=by
 obtain ⟨im',pl',b,h1,h2,h3,hinj,hall⟩:=hR;refine Qbv (Qim C H0 ro) h h1.tr h1.hr fun v vc H2 im2 pl2 w2 k1 k2 k3 k4=>hnext v vc H2 w2 k1 ⟨im2,pl2,b, ?_,h2.trans k4,by rw [Yl];exact h3,hinj,fun p hp=>?_⟩
 ·have:=h1.put k4 k3 k2 o.dst
  rwa [Qfp hd] at this
 ·obtain ⟨h4,h6,h7,h8,cur,h5,h9⟩:=hall p hp
  have hlt:b p.d<w.heap.size:=(Array.getElem?_eq_some_iff.1 h5).1
  refine ⟨h4,fun hb=>?_,fun r cap hr=>?_, ?_,cur,by rw [k4.frame _ hlt h7];exact h5, ?_⟩
  ·rcases k4.imn _ hb with q | q | ⟨r,cap,q⟩
   ·exact h6 q
   ·omega
   ·exact h7 r cap q
  ·rcases k4.pln r _ cap hr with ⟨r',cap',q⟩ | q
   ·exact h7 r' cap' q
   ·omega
  ·obtain ⟨e1,e2⟩:=Qfv a vc (hd p hp);rw [e1,e2];exact h8
  ·cases hs:st p with
   | false=>rw [hs] at h9;exact h9
   | true =>
    rw [hs] at h9;refine ⟨h9.1,fun j=>?_⟩
    rw [Qlz (d:=o.dst) fun t ht e=>hx p hp hs t e ht]
    exact (h9.2 j).mono k4 h1.hr.apart
theorem InvF.made {ro:Option Nat} {p:Pn} (ht:(C.ty p.t).ok=true) {o:Oper} (ho:o.op=.alloc p.t) (hd:o.dst=some p.d) {P:List Pn} {st:Pn→Bool} (hst:st p=false) (hne:∀ q∈P,q.d≠p.d) {ts:List V} {H:Qb} {a:Act} {w:World} {next:Act→World→Prop} {R:Exit→Act→World→Prop} (hR:InvF C ops im pl w0 ds P st ts H a w)
  (hnext:∀ vc w',InvF C ops im pl w0 ds (p::P) st ts H (a.put o.dst vc) w'→next (a.put o.dst vc) w'):o.wpIn (FW ro) 0 C.P a w next R:=by
 obtain ⟨im',pl',b,h1,h2,h3,hinj,hall⟩:=hR;refine ⟨fun _ _=>trivial, ?_⟩
 rw [Oper.semAt_eq ro a.eval o (fun c=>by rw [ho];simp)]
 have hrun:(execOp a.eval o).run C.P w=.ok (.value (.pointer (some ⟨w.heap.size,0,none⟩))) (w.alloc (.cells (C.ty p.t).z.cells p.t)):=by
  simp only [execOp,ho,Instr.alloc,Sem.run_bind,(C.ok p.t ht).zero,Qd7,Sem.run_pure,Result.andThen_ok]
 rw [hrun]
 have hE:Ext im' pl' w im' pl' (w.alloc (.cells (C.ty p.t).z.cells p.t)):=⟨rfl,rfl,rfl,by simp,fun _ hb=>hb,fun _ hb=>.inl hb,fun r hr=>.inl rfl,fun r b c hb=>.inl ⟨r,c,hb⟩,fun b hb _=>heap_alloc_old _ _ _ hb⟩
 have hH:HR im' pl' (w.alloc (.cells (C.ty p.t).z.cells p.t)) H:=by
  obtain ⟨g1,g2,g3,g4,g5,g6,g7,g8⟩:=h1.hr;refine ⟨g1,g2,fun r b c hr=>Nat.lt_of_lt_of_le (g3 r b c hr) hE.size,fun b hb=>Nat.lt_of_lt_of_le (g4 b hb) hE.size,g5,g6,g7,fun r b c hr=>?_⟩
  obtain ⟨e,s,cs,cur,q1,q2,q3,q4,q5,q6⟩:=g8 r b c hr;exact ⟨e,s,cs,cur,q1,by rw [heap_alloc_old _ _ _ (g3 r b c hr)];exact q2,q3,q4,q5,fun j=>(q6 j).mono hE g2⟩
 have old:∀ q∈P,b q.d<w.heap.size:=fun q hq=>by
  obtain ⟨_,_,_,_,cur,h5,_⟩:=hall q hq;exact (Array.getElem?_eq_some_iff.1 h5).1
 refine hnext _ _ ⟨im',pl',fun x=>if x=p.d then w.heap.size else b x, ?_,h2.trans hE,by rw [Yl];exact h3, ?_,fun q hq=>?_⟩
 ·have:=h1.put hE hH (v:=.any) (vc:=.pointer (some ⟨w.heap.size,0,none⟩)) (.any _) o.dst
  rw [hd] at this ⊢;exact this
 ·intro x hx y hy e;by_cases e1:x.d=p.d
  ·by_cases e2:y.d=p.d
   ·rw [e1,e2]
   ·simp only [e1,e2,if_true,if_false] at e;rcases List.mem_cons.1 hy with rfl | hy
    ·exact (e2 rfl).elim
    ·have:=old y hy;omega
  ·by_cases e2:y.d=p.d
   ·simp only [e1,e2,if_true,if_false] at e;rcases List.mem_cons.1 hx with rfl | hx
    ·exact (e1 rfl).elim
    ·have:=old x hx;omega
   ·simp only [e1,e2,if_false] at e;rcases List.mem_cons.1 hx with rfl | hx
    ·exact (e1 rfl).elim
    rcases List.mem_cons.1 hy with rfl | hy
    ·exact (e2 rfl).elim
    exact hinj x hx y hy e
 ·by_cases e1:q.d=p.d
  ·have hqp:q=p:=by
    rcases List.mem_cons.1 hq with h | h
    ·exact h
    ·exact (hne q h e1).elim
   subst hqp;simp only [if_true];refine ⟨h2.size,fun hb=>Nat.lt_irrefl _ (h1.hr.imb _ hb),fun r cap hr=>Nat.lt_irrefl _ (h1.hr.bound r _ cap hr), ?_,_,heap_alloc_new _ _,by rw [hst];rfl⟩
   rw [hd];by_cases hlt:q.d<a.tmps.size
   ·left;simp [Act.put,Array.getD_eq_getD_getElem?,Array.getElem?_setIfInBounds,hlt]
   ·right;simp [Act.put];omega
  ·simp only [e1,if_false]
   have hqP:q∈P:=by
    rcases List.mem_cons.1 hq with h | h
    ·exact (e1 (by rw [h])).elim
    ·exact h
   obtain ⟨h4,h6,h7,h8,cur,h5,h9⟩:=hall q hqP;obtain ⟨e3,e4⟩:=Qfv a (.pointer (some ⟨w.heap.size,0,none⟩)) (dd:=o.dst) (d:=q.d) (by rw [hd];intro e;injection e with e;exact e1 e.symm)
   refine ⟨h4,h6,h7,by rw [e3,e4];exact h8,cur,by rw [heap_alloc_old _ _ _ (old q hqP)];exact h5, ?_⟩
   cases hs:st q with
   | false=>rw [hs] at h9;exact h9
   | true=>rw [hs] at h9;exact ⟨h9.1,fun j=>(h9.2 j).mono hE h1.hr.apart⟩
def StC (C:Ctx) (p:Pn) (v:V) (n:Nat):Prop:=p.d<n∧(C.ty p.t).size≤(Ja (C.ty p.t)).length∧(cellsOf v).length=(C.ty p.t).size∧(cellsOf v).all Yq=true
theorem InvF.stored {ro:Option Nat} {p:Pn} (ht:(C.ty p.t).ok=true) {o:Oper} (ho:o.op=.store p.t (.tmp p.d) (stX ops p)) (hd:o.dst=none) {P:List Pn} {st st':Pn→Bool} (hp:p∈P) (hst:st p=false) (hst':st' p=true) (hq:∀ q∈P,q≠p→st' q=st q) (hu:∀ q∈P,q.d=p.d→q=p) (hxd:∀ q∈P,stX ops p≠.tmp q.d) {ts:List V} {H:Qb} (hc:StC C p (ev ts (stX ops p)) ts.length) {a:Act} {w:World} {next:Act→World→Prop} {R:Exit→Act→World→Prop} (hR:InvF C ops im pl w0 ds P st ts H a w)
  (hnext:∀ vc w',InvF C ops im pl w0 ds P st' ts H (a.put o.dst vc) w'→next (a.put o.dst vc) w'):o.wpIn (FW ro) 0 C.P a w next R:=by
 obtain ⟨im',pl',b,h1,h2,h3,hinj,hall⟩:=hR;obtain ⟨h4,h6,h7,h8,cur,h5,h9⟩:=hall p hp;rw [hst] at h9
 have h9:cur=(C.ty p.t).z.cells:=h9
 obtain ⟨s1,s2,s3,s4⟩:=hc
 have hlen:=h1.tr.1
 rw [Qan] at hlen
 have h8:=h8.resolve_right (by omega)
 have hz:=Qqb (im:=im') (pl:=pl') (w:=w) (C.ok p.t ht)
 have hv:=Qkx h1.tr (stX ops p)
 rw [Xnk hxd] at hv;obtain ⟨c1,c2,c3⟩:=hv.cells s4
 have hcs:cur.size=(Ja (C.ty p.t)).length:=by rw [h9];exact hz.1.symm
 have hlc:0+0+(a.eval (stX ops p)).cells.toList.length≤cur.size:=by simp;omega
 have hrun:=run_storeCells_at (P:=C.P) (b p.d) 0 p.t (a.eval (stX ops p)).cells.toList 0 cur w h5 hlc c3
 generalize hnew:(cur.toList.take (0+0)++(a.eval (stX ops p)).cells.toList++cur.toList.drop (0+0+(a.eval (stX ops p)).cells.toList.length)).toArray=new at hrun
 have hnewsz:new.size=cur.size:=by rw [← hnew];simp;simp at hlc;omega
 have hget:∀ j,new.getD j undef=if j<(a.eval (stX ops p)).cells.size then (a.eval (stX ops p)).cells.getD j undef else cur.getD j undef:=by
  intro j;rw [← hnew];simp only [Array.getD_eq_getD_getElem?,List.getElem?_toArray,Nat.add_zero,List.take_zero,List.nil_append];rw [List.getElem?_append];by_cases h2:j<(a.eval (stX ops p)).cells.toList.length
  ·rw [if_pos h2,if_pos (by simp at h2;omega)];simp
  ·rw [if_neg h2,if_neg (by simp at h2;omega)]
   simp only [List.getElem?_drop,Array.length_toList,Nat.zero_add];simp only [Array.length_toList] at h2;rw [show (a.eval (stX ops p)).cells.size+(j - (a.eval (stX ops p)).cells.size)=j by omega];simp
 refine ⟨fun _ _=>trivial, ?_⟩
 rw [Oper.semAt_eq ro a.eval o (fun c=>by rw [ho];simp)]
 have hev:a.eval (.tmp p.d)=.pointer (some ⟨b p.d,0,none⟩):=h8
 have hst1:(Instr.storeAt p.t (a.eval (.tmp p.d)) (a.eval (stX ops p))).run C.P w=.ok () (w.setRow (b p.d) new):=by
  rw [hev];simp only [Instr.storeAt,Instr.sureAddr,Sem.run_bind,Sem.run_pure,Result.andThen_ok,storeVar,(C.ok p.t ht).sizeOf];rw [if_neg (by omega)]
  simpa using hrun
 rw [show (execOp a.eval o).run C.P w=.ok .skip (w.setRow (b p.d) new) by simp [execOp,ho,hst1]]
 obtain ⟨u1,u2⟩:=h1.unplaced new h5 h6 h7
 have hsz:(w.setRow (b p.d) new).heap.size=w.heap.size:=by simp [World.setRow]
 refine hnext undef _ ⟨im',pl',b, ?_, ?_,by rw [hd];exact h3,hinj,fun q hqP=>?_⟩
 ·rw [hd];exact u1
 ·refine ⟨h2.os,h2.tape,h2.output,by rw [hsz];exact h2.size,h2.imm,h2.imn,h2.plo,h2.pln,fun b' hb' hn'=>?_⟩
  rw [setRow_other w (b p.d) b' new (by omega)]
  exact h2.frame b' hb' hn'
 ·obtain ⟨k4,k6,k7,k8,cu,k5,k9⟩:=hall q hqP;by_cases e:q=p
  ·subst e;refine ⟨k4,k6,k7,by rw [hd];exact k8,new,setRow_heap w (b q.d) cur new q.t (0,0) h5, ?_⟩
   rw [hst'];refine ⟨by rw [hnewsz];exact hcs,fun j=>u2 _ _ ?_⟩
   rw [Qkh _ _ _ _ (by omega),hget j,c1]
   by_cases hj:j<(cellsOf (ev ts (stX ops q))).length
   ·rw [if_pos ⟨Nat.zero_le _,by omega⟩,if_pos hj];exact c2 j
   ·rw [if_neg (by omega),if_neg hj,h9];exact hz.2 j
  ·have hbne:b q.d≠b p.d:=fun e2=>e (hu q hqP (hinj q hqP p hp e2))
   refine ⟨k4,k6,k7,by rw [hd];exact k8,cu,by rw [setRow_other w (b p.d) (b q.d) new hbne];exact k5, ?_⟩
   rw [hq q hqP e];cases hs:st q with
   | false=>rw [hs] at k9;exact k9
   | true=>rw [hs] at k9;exact ⟨k9.1,fun j=>u2 _ _ (k9.2 j)⟩
end
theorem Qm9 {C:Ctx} {cw:CW} {HH:Qb} (hcw:CWok cw HH) {ops:Array Oper} {fs:List Pn} (hS:FuS C ops fs) {H0:Qb} {K:List V→Qb→Prop} {f:Pn} (hf:f∈fs) (l2:List Nat):∀ (l1:List Nat),(∀ j∈l1,∀ o:Oper,ops[j]?=some o→∀ u,stX ops f=.tmp u→o.dst≠some u)→∀ ts H,Qai C cw ops H0 K (l1++f.m::Ki ops f::l2) ts H→StC C f (ev ts (stX ops f)) ts.length
 | [],_,ts,H,h=>by
  obtain ⟨⟨o,ho,hop,hd,hg, -⟩,hty,⟨p,hp,hpop,hpd,hpg, -⟩, -, -,hsrc, -⟩:=hS.fu f hf;simp only [List.nil_append,Qai,ho,hp] at h
  have h2:=Qh4 hg h
  rw [hop] at h2;simp only [opd,Yi,if_true,opc,opw] at h2
  have h3:=Qh4 hpg h2.2
  rw [hpop] at h3;simp only [opd,Yi,if_true,opc,opw] at h3
  have h4:=h3.2
  rw [hd] at h4
  have e:ev (Yo ts (some f.d) (.ptr H.length 0)) (stX ops f)=ev ts (stX ops f):=Qlz fun t ht e=>by
   injection ht with ht
   subst ht;rcases hsrc f.m o ho with h5 | ⟨h5, -⟩
   ·exact h5 _ e hd
   ·simp only [Qbn,List.all_eq_true,Bool.and_eq_true,bne_iff_ne,ne_eq] at h5;exact (h5 f hf).1 rfl
  rw [e] at h4;by_cases hlt:f.d<ts.length
  ·have e2:ev (Yo ts (some f.d) (.ptr H.length 0)) (.tmp f.d)=.ptr H.length 0:=by
    simp [ev,Yo,Qa4,hlt]
   rw [e2] at h4;simp only [Qcj,Xo] at h4;exact ⟨hlt,by have:=h4.1;omega,h4.2.1,h4.2.2.1⟩
  ·exfalso
   have e2:ev (Yo ts (some f.d) (.ptr H.length 0)) (.tmp f.d)=.any:=by
    simp only [ev,Yo,Qa4];rw [if_neg (fun h=>hlt h.2),Ze,List.getD_eq_getElem?_getD,List.getElem?_eq_none (by omega)]
    rfl
   rw [e2] at h4;exact h4.elim
 | j::l1,hj,ts,H,h=>by
  simp only [List.cons_append,Qai] at h;cases ho:ops[j]? with
  | none =>
   rw [ho] at h;exact Qm9 hcw hS hf l2 l1 (fun k hk=>hj k (by simp [hk])) ts H h
  | some o =>
   rw [ho] at h;refine Qni hcw (Jd hS.known ho) (Qb0 hcw (Jd hS.known ho) (fun v H' h'=>?_) h)
   have:=Qm9 hcw hS hf l2 l1 (fun k hk=>hj k (by simp [hk])) _ H' h'
   have e:ev (Yo ts o.dst v) (stX ops f)=ev ts (stX ops f):=Qlz fun t ht e=>hj j (by simp) o ho t e ht
   rw [e] at this
   have e2:(Yo ts o.dst v).length=ts.length:=by
    unfold Yo;split
    ·rw [Kc]
    ·rfl
   rwa [e2] at this
def unl (listed:Array Bool) (i:Nat):Bool:=!listed.getD i false
section
variable {C:Ctx} {im:Nat→Prop} {pl:Nat→Place} {w0:World} {ds:List Deferred}
theorem Qvz {ops:Array Oper} {fs:List Pn} (hS:FuS C ops fs) {H0:Qb} {K:List V→Qb→Prop} {a:Act} {w:World} {st:Pn→Bool}:∀ (l:List Pn) (ts:List V) (H:Qb),(∀ f∈l,f∈fs)→(l.map (·.m)).Nodup→(∀ f∈l,st f=true) →
  Qai C (cwP C H0) ops H0 K (l.flatMap fun f=>[f.m,Ki ops f]) ts H→InvF C ops im pl w0 ds l st ts H a w→∃ ts' H',K ts' H'∧InvF C ops im pl w0 ds [] st ts' H' a w
 | [],ts,H,_,_,_,h,hI=>⟨ts,H,h,hI⟩
 | f::l,ts,H,hl,hn,hst,h,hI=>by
  have hf:=hl f (by simp)
  have hc:=Qm9 (Qfm C H0) hS hf (l.flatMap fun f=>[f.m,Ki ops f]) [] (by simp) ts H h
  obtain ⟨⟨o,ho,hop,hd,hg, -⟩,hty,⟨p,hp,hpop,hpd,hpg, -⟩, -, -,hsrc, -⟩:=hS.fu f hf;simp only [List.flatMap_cons,List.cons_append,List.nil_append,Qai,ho,hp] at h
  have h2:=Qh4 hg h
  rw [hop] at h2;simp only [opd,Yi,if_true,opc,opw] at h2
  have h3:=Qh4 hpg h2.2
  rw [hpop] at h3;simp only [opd,Yi,if_true,opc,opw] at h3
  have h4:=h3.2
  rw [hd] at h4
  have e:ev (Yo ts (some f.d) (.ptr H.length 0)) (stX ops f)=ev ts (stX ops f):=Qlz fun t ht e=>by
   injection ht with ht
   subst ht;rcases hsrc f.m o ho with h5 | ⟨h5, -⟩
   ·exact h5 _ e hd
   ·simp only [Qbn,List.all_eq_true,Bool.and_eq_true,bne_iff_ne,ne_eq] at h5;exact (h5 f hf).1 rfl
  rw [e] at h4
  have e2:ev (Yo ts (some f.d) (.ptr H.length 0)) (.tmp f.d)=.ptr H.length 0:=by
   simp [ev,Yo,Qa4,hc.1]
  rw [e2] at h4;simp only [Qcj,Xo] at h4
  have h5:=h4.2.2.2
  rw [hpd,List.set_append_right _ _ (Nat.le_refl _),Nat.sub_self] at h5;simp only [List.map_cons,List.nodup_cons,List.mem_map,not_exists,not_and] at hn
  have hne:∀ q∈l,q.m≠f.m:=fun q hq e=>hn.1 q hq e
  have hI':=hI.flush (hst f (by simp)) (fun q hq=>((((hS.fu f hf).apart q (hl q (by simp [hq]))).resolve_left (hne q hq)).1)) (fun q hq e=>by
   obtain ⟨p',hp',hpop', -⟩:=(hS.fu q (hl q (by simp [hq]))).st
   have:=((hS.fu f hf).away (Ki ops q) p' hp' (fun e=>by
    obtain ⟨o',ho',hop', -⟩:=(hS.fu f hf).al;rw [e,ho'] at hp';cases hp';rw [hop'] at hpop';cases hpop') ((((hS.fu f hf).apart q (hl q (by simp [hq]))).resolve_left (hne q hq)).2)).1
   refine this ?_;simp [Oper.looksAt,hpop',e,Op.operands])
  rw [Qaq] at hI';exact Qvz hS l _ _ (fun q hq=>hl q (by simp [hq])) hn.2 (fun q hq=>hst q (by simp [hq])) h5 hI'
theorem Xes {ro:Option Nat} {ops:Array Oper} {fs:List Pn} (hS:FuS C ops fs) (hfs:∀ f∈fs,∀ g∈fs,f.m=g.m→f=g) {H0:Qb} {K:List V→Qb→Prop} {R:Exit→Act→World→Prop} (hK:∀ a w ts H,K ts H→InvF C ops im pl w0 ds [] (fun _=>true) ts H a w→R .normal a w) :
  ∀ (fuel:Nat) (listed:Array Bool) (ts:List V) (H:Qb) (w:World) (a:Act),listed.size=ops.size→Qjr ops listed→((List.range ops.size).filter (unl listed)).length≤fuel→Same H0 H →
  Qai C (cwP C H0) ops H0 K (((List.range ops.size).filter fun i=>Qbn ops fs i&&unl listed i)++fs.flatMap fun f=>[f.m,Ki ops f]) ts H→InvF C ops im pl w0 ds (fs.filter fun f=>listed.getD f.m false) (fun f=>listed.getD (Ki ops f) false) ts H a w →
  wpAnyIn (FW ro) 0 C.P .any ops R fuel listed a w:=by
 have hcw:=Qfm C H0
 -- all is done
 have fin:∀ (listed:Array Bool) (ts:List V) (H:Qb) (w:World) (a:Act),listed.size=ops.size→(∀ i,i<ops.size→listed.getD i false=true)→Qai C (cwP C H0) ops H0 K (((List.range ops.size).filter fun i=>Qbn ops fs i&&unl listed i)++fs.flatMap fun f=>[f.m,Ki ops f]) ts H→InvF C ops im pl w0 ds (fs.filter fun f=>listed.getD f.m false) (fun f=>listed.getD (Ki ops f) false) ts H a w→R .normal a w:=by
  intro listed ts H w a hsz hall hx hI
  have e1:((List.range ops.size).filter fun i=>Qbn ops fs i&&unl listed i)=[]:=by
   refine List.filter_eq_nil_iff.2 fun i hi=>?_
   simp [unl,hall i (List.mem_range.1 hi)]
  rw [e1,List.nil_append] at hx
  have hm:∀ f∈fs,listed.getD f.m false=true:=fun f hf=>by
   obtain ⟨o,ho, -⟩:=(hS.fu f hf).al;exact hall _ (Array.getElem?_eq_some_iff.1 ho).1
  have hs:∀ f∈fs,listed.getD (Ki ops f) false=true:=fun f hf=>by
   obtain ⟨o,ho, -⟩:=(hS.fu f hf).st;exact hall _ (Array.getElem?_eq_some_iff.1 ho).1
  have e2:(fs.filter fun f=>listed.getD f.m false)=fs:=List.filter_eq_self.2 hm
  rw [e2] at hI;obtain ⟨ts',H',k1,k2⟩:=Qvz hS fs ts H (fun f hf=>hf) hS.nodup hs hx hI
  exact hK _ _ _ _ k1 (k2.flags fun p hp=>(by cases hp))
 intro fuel
 induction fuel with
 | zero =>
  intro listed ts H w a hsz hcl hlen hsm hx hI
  have hall:∀ i,i<ops.size→listed.getD i false=true:=fun i hi=>by
   cases h:listed.getD i false with
   | true=>rfl
   | false =>
    have:i∈(List.range ops.size).filter (unl listed):=List.mem_filter.2 ⟨List.mem_range.2 hi,by simp [unl,h]⟩
    rw [List.length_eq_zero_iff.1 (Nat.le_zero.1 hlen)] at this;cases this
  refine ⟨?_,fin listed ts H w a hsz hall hx hI⟩;cases hr:Region.ready .any ops listed with
  | nil=>rfl
  | cons i l =>
   exfalso;obtain ⟨h1,o,ho,h3⟩:=Qcm (listed:=listed) (i:=i) (by rw [hr];simp)
   have hlt:i<ops.size:=(Array.getElem?_eq_some_iff.1 ho).1
   have:=hall i hlt
   have hlt':i<listed.size:=by rw [hsz];exact hlt
   simp only [Array.getD_eq_getD_getElem?,hlt',Array.getElem?_eq_getElem,Option.getD_some] at this h1;rw [this] at h1;cases h1
 | succ fuel ih =>
  intro listed ts H w a hsz hcl hlen hsm hx hI;refine ⟨fun hr=>fin listed ts H w a hsz (fun i hi=>?_) hx hI,fun i hi=>?_⟩
  ·-- the first one that is not done is ready
   have main:∀ (n i:Nat),i≤n→i<ops.size→listed.getD i false=true:=by
    intro n
    induction n with
    | zero =>
     intro i hin hi;cases h:listed.getD i false with
     | true=>rfl
     | false =>
      have hlt':i<listed.size:=by rw [hsz];exact hi
      have:i∈Region.ready .any ops listed:=mem_ready.2 ⟨by simp only [Array.getD_eq_getD_getElem?,hlt',Array.getElem?_eq_getElem,Option.getD_some] at h ⊢;exact h,ops[i],by simp [hi],fun e he hbb=>by
       have:=hS.after i ops[i] (by simp [hi]) e.on (by simp only [Yn,List.any_eq_true,Bool.and_eq_true];exact ⟨e,by simpa using he,hbb,by simp⟩)
       omega⟩
      rw [hr] at this;cases this
    | succ n ihn =>
     intro i hin hi;cases h:listed.getD i false with
     | true=>rfl
     | false =>
      have hlt':i<listed.size:=by rw [hsz];exact hi
      have:i∈Region.ready .any ops listed:=mem_ready.2 ⟨by simp only [Array.getD_eq_getD_getElem?,hlt',Array.getElem?_eq_getElem,Option.getD_some] at h ⊢;exact h,ops[i],by simp [hi],fun e he hbb=>by
       have:=hS.after i ops[i] (by simp [hi]) e.on (by simp only [Yn,List.any_eq_true,Bool.and_eq_true];exact ⟨e,by simpa using he,hbb,by simp⟩)
       exact ihn e.on (by omega) (by omega)⟩
      rw [hr] at this;cases this
   exact main i i (Nat.le_refl _) hi
  ·obtain ⟨h1,o,ho,h3⟩:=Qcm hi
   have hlt:i<ops.size:=(Array.getElem?_eq_some_iff.1 ho).1
   have hlt':i<listed.size:=by rw [hsz];exact hlt
   have hget:∀ j,(listed.setIfInBounds i true).getD j false=if i=j then true else listed.getD j false:=fun j=>by
    simp only [Array.getD_eq_getD_getElem?,Array.getElem?_setIfInBounds];split
    ·simp [hlt']
    ·rfl
   have hun:listed.getD i false=false:=by simpa only [Array.getD_eq_getD_getElem?,hlt',Array.getElem?_eq_getElem,Option.getD_some] using h1
   have hcl':Qjr ops (listed.setIfInBounds i true):=fun k p hp hk j hj=>by
    rw [hget] at hk ⊢;split
    ·rfl
    ·split at hk
     ·rename_i e;subst e;rw [ho] at hp;cases hp;exact h3 j hj
     ·exact hcl k p hp hk j hj
   have hsz':(listed.setIfInBounds i true).size=ops.size:=by rw [Array.size_setIfInBounds];exact hsz
   have hlen':((List.range ops.size).filter (unl (listed.setIfInBounds i true))).length≤fuel:=by
    have e1:(List.range ops.size).filter (unl (listed.setIfInBounds i true))=((List.range ops.size).filter (unl listed)).filter fun j=>decide (i≠j):=by
     rw [List.filter_filter];refine List.filter_congr fun j _=>?_
     simp only [unl,hget];by_cases e:i=j
     ·simp [e]
     ·simp [e]
    have:(((List.range ops.size).filter (unl listed)).filter fun j=>decide (i≠j)).length<((List.range ops.size).filter (unl listed)).length:=by
     refine Nat.lt_of_le_of_ne (List.length_filter_le _ _) fun e2=>?_
     have:=List.length_filter_eq_length_iff.1 e2 i (List.mem_filter.2 ⟨List.mem_range.2 hlt,by simp [unl,hun]⟩)
     simp at this
    rw [e1];omega
   have hgd:=hS.guard i o ho
   unfold wpOpIn;simp only [ho];rw [if_pos (by simp [Region.wanted,hgd])]
   -- an edge's end is done
   have hah:∀ s p,ops[s]?=some p→listed.getD s false=true→∀ j,Qae ops s j s=true→listed.getD j false=true:=fun s p hp hs j hj=>Qce hcl s j s p hp (fun k hk=>hcl s p hp hs k hk) hj
   by_cases hnorm:Qbn ops fs i=true
   ·-- one that only reads
    have hni:∀ f∈fs,f.m≠i∧Ki ops f≠i:=fun f hf=>by
     simp only [Qbn,List.all_eq_true,Bool.and_eq_true,bne_iff_ne,ne_eq] at hnorm;exact hnorm f hf
    have hef:=hS.eff i o ho hnorm
    have hmem:i∈(List.range ops.size).filter fun i=>Qbn ops fs i&&unl listed i:=List.mem_filter.2 ⟨List.mem_range.2 hlt,by simp [hnorm,unl,hun]⟩
    have hsorted:((List.range ops.size).filter fun i=>Qbn ops fs i&&unl listed i).Pairwise (·<·):=(List.pairwise_lt_range).filter _
    obtain ⟨l1,l2,hl⟩:=List.append_of_mem hmem;rw [hl] at hx hsorted;rw [List.pairwise_append] at hsorted
    have hb:=Qc3 hcw hS.known (l2++fs.flatMap fun f=>[f.m,Ki ops f]) l1 (fun j hj=>by
     have hji:j<i:=hsorted.2.2 j hj i (by simp)
     have hjm:j∈(List.range ops.size).filter fun i=>Qbn ops fs i&&unl listed i:=by rw [hl];simp [hj]
     obtain ⟨-,hjm⟩:=List.mem_filter.1 hjm;simp only [Bool.and_eq_true,unl,Bool.not_eq_true'] at hjm;rcases hS.pair i j hlt hnorm hji hjm.1 with h4 | h4
     ·exact h4
     ·have h5:=Qce hcl i j i o ho h3 h4
      rw [h5] at hjm;cases hjm.2) ts H (by simpa using hx)
    simp only [Qai,ho] at hb
    have haway:∀ p∈(fs.filter fun f=>listed.getD f.m false),p.d ∉ o.looksAt ops∧o.dst≠some p.d:=fun p hp=>by
     have hpf:=(List.mem_filter.1 hp).1
     exact (hS.fu p hpf).away i o ho (fun e=>(hni p hpf).1 e.symm) (fun e=>(hni p hpf).2 e.symm)
    rw [← Qt8 (P:=fs.filter fun f=>listed.getD f.m false) (fun p hp=>(haway p hp).1) ts] at hb
    have h:=Qh4 hgd hb
    refine hI.op (fun p hp=>(haway p hp).2) (fun p hp hs u hu hd=>?_) (Qlp hcw (Jd hS.known ho) (.inl hsm) h) fun v vc H2 w' k1 k2=>?_
    ·have hpf:=(List.mem_filter.1 hp).1
     obtain ⟨q,hq, -⟩:=(hS.fu p hpf).st;rcases (hS.fu p hpf).src i o ho with h4 | ⟨-,h4⟩
     ·exact h4 u hu hd
     ·have:=hah _ q hq hs i h4
      rw [hun] at this;cases this
    ·have hsm2:Same H0 H2:=by
      rcases k1.1 with k5 | ⟨k5, -⟩ | k5
      ·exact k5.1 hsm
      ·have:=hef
       cases hop:o.op<;>rw [hop] at k5 this<;>simp [Jg,Yi] at k5 this
      ·obtain ⟨c,hc1,hc2⟩:=Qjg k5;rw [hc1] at hef;rcases hc2 with hc2 | hc2<;>simp [Yi,hc2] at hef
     refine ih _ (Yo ts o.dst v) H2 w' _ hsz' hcl' hlen' hsm2 ?_ ?_
     ·have e1:((List.range ops.size).filter fun j=>Qbn ops fs j&&unl (listed.setIfInBounds i true) j)=l1++l2:=by
       have e2:((List.range ops.size).filter fun j=>Qbn ops fs j&&unl (listed.setIfInBounds i true) j)=((List.range ops.size).filter fun j=>Qbn ops fs j&&unl listed j).filter fun j=>decide (i≠j):=by
        rw [List.filter_filter];refine List.filter_congr fun j _=>?_
        simp only [unl,hget];by_cases e:i=j
        ·simp [e]
        ·simp [e]
       rw [e2,hl,List.filter_append,List.filter_cons,if_neg (by simp)]
       congr 1
       ·exact List.filter_eq_self.2 fun j hj=>by have:=hsorted.2.2 j hj i (by simp);simp;omega
       ·exact List.filter_eq_self.2 fun j hj=>by have:=(List.pairwise_cons.1 hsorted.2.1).1 j hj;simp;omega
      rw [e1,List.append_assoc];exact k1.2
     ·have e1:(fs.filter fun f=>(listed.setIfInBounds i true).getD f.m false)=fs.filter fun f=>listed.getD f.m false:=List.filter_congr fun f hf=>by rw [hget,if_neg (fun e=>(hni f hf).1 e.symm)]
      rw [e1];refine k2.flags fun p hp=>?_
      rw [hget,if_neg (fun e=>(hni p (List.mem_filter.1 hp).1).2 e.symm)]
   ·have hex:∃ f∈fs,f.m=i∨Ki ops f=i:=by
     refine Classical.byContradiction fun hno=>hnorm ?_
     simp only [Qbn,List.all_eq_true,Bool.and_eq_true,bne_iff_ne,ne_eq];exact fun f hf=>⟨fun e=>hno ⟨f,hf,.inl e⟩,fun e=>hno ⟨f,hf,.inr e⟩⟩
    have eN:((List.range ops.size).filter fun j=>Qbn ops fs j&&unl (listed.setIfInBounds i true) j)=(List.range ops.size).filter fun j=>Qbn ops fs j&&unl listed j:=List.filter_congr fun j _=>by
     simp only [unl,hget];by_cases e:i=j
     ·subst e;simp [hnorm]
     ·simp [e]
    obtain ⟨f,hf,hfi | hfi⟩:=hex
    ·-- it is made
     subst hfi;obtain ⟨o',ho',hop,hd,hg, -⟩:=(hS.fu f hf).al;rw [ho] at ho';cases ho';obtain ⟨p,hp,hpop,hpd,hpg,hpb⟩:=(hS.fu f hf).st
     have hsu:listed.getD (Ki ops f) false=false:=by
      cases h:listed.getD (Ki ops f) false with
      | false=>rfl
      | true=>have:=hcl _ p hp h f.m hpb;rw [hun] at this;cases this
     have hms:∀ g∈fs,Ki ops g≠f.m:=fun g hg e=>by
      obtain ⟨q,hq,hqop, -⟩:=(hS.fu g hg).st;rw [e,ho] at hq;cases hq;rw [hop] at hqop;cases hqop
     refine InvF.made (p:=f) (hS.fu f hf).ty hop hd hsu (fun q hq=>?_) hI fun vc w' hI'=>?_
     ·obtain ⟨hqf,hql⟩:=List.mem_filter.1 hq;rcases (hS.fu f hf).apart q hqf with h | h
      ·rw [h] at hql
       have hql:listed.getD f.m false=true:=hql
       rw [hun] at hql;cases hql
      ·exact h.1
     ·refine ih _ _ H w' _ hsz' hcl' hlen' hsm (by rw [eN];exact hx) ?_
      refine InvF.mem (P:=f::fs.filter fun f=>listed.getD f.m false) (fun q=>?_) (hI'.flags fun q hq=>?_)
      ·simp only [List.mem_cons,List.mem_filter,hget];constructor
       ·rintro (rfl | ⟨h4,h5⟩)
        ·exact ⟨hf,by simp⟩
        ·exact ⟨h4,by split;rfl;exact h5⟩
       ·rintro ⟨h4,h5⟩;split at h5
        ·rename_i e;exact .inl (hfs q h4 f hf e.symm)
        ·exact .inr ⟨h4,h5⟩
      ·have hqf:q∈fs:=by
        rcases List.mem_cons.1 hq with rfl | hq
        ·exact hf
        ·exact (List.mem_filter.1 hq).1
       rw [hget,if_neg (fun e=>hms q hqf e.symm)]
    ·-- it is filled
     subst hfi;obtain ⟨p,hp,hop,hd,hg,hb⟩:=(hS.fu f hf).st;rw [ho] at hp;cases hp
     have hml:listed.getD f.m false=true:=h3 f.m hb
     have hfP:f∈fs.filter fun f=>listed.getD f.m false:=List.mem_filter.2 ⟨hf,hml⟩
     have hcond:StC C f (ev ts (stX ops f)) ts.length:=by
      obtain ⟨f1,f2,hff⟩:=List.append_of_mem hf
      have hx2:=hx
      rw [show (fs.flatMap fun f=>[f.m,Ki ops f])=(f1.flatMap fun f=>[f.m,Ki ops f])++f.m::Ki ops f::(f2.flatMap fun f=>[f.m,Ki ops f]) by rw [hff];simp,← List.append_assoc] at hx2
      refine Qm9 hcw hS hf _ _ (fun j hj q hq u hu hqd=>?_) ts H hx2
      rcases List.mem_append.1 hj with hj | hj
      ·have hjm:=(List.mem_filter.1 hj).2
       simp only [Bool.and_eq_true,unl,Bool.not_eq_true'] at hjm;rcases (hS.fu f hf).src j q hq with h4 | ⟨-,h4⟩
       ·exact h4 u hu hqd
       ·have:=Qce hcl _ j _ o ho h3 h4
        rw [this] at hjm;cases hjm.2
      ·obtain ⟨g,hg1,hg2⟩:=List.mem_flatMap.1 hj
       have hgf:g∈fs:=by rw [hff];simp [hg1]
       rcases (hS.fu f hf).src j q hq with h4 | ⟨h4, -⟩
       ·exact h4 u hu hqd
       ·simp only [Qbn,List.all_eq_true,Bool.and_eq_true,bne_iff_ne,ne_eq] at h4;simp only [List.mem_cons,List.not_mem_nil,or_false] at hg2;rcases hg2 with e | e
        ·exact (h4 g hgf).1 e.symm
        ·exact (h4 g hgf).2 e.symm
     have hns:∀ g∈fs,g.m≠Ki ops f:=fun g hg e=>by
      obtain ⟨q,hq,hqop, -⟩:=(hS.fu g hg).al;rw [e,ho] at hq;cases hq;rw [hop] at hqop;cases hqop
     refine InvF.stored (p:=f) (st':=fun g=>(listed.setIfInBounds (Ki ops f) true).getD (Ki ops g) false) (hS.fu f hf).ty hop hd hfP hun (by simp only [hget];simp) (fun q hq hne=>?_) (fun q hq hqd=>?_) (fun q hq e=>?_) hcond hI fun vc w' hI'=>?_
     ·have hqf:=(List.mem_filter.1 hq).1
      simp only [hget];rw [if_neg (fun e=>?_)]
      rcases (hS.fu f hf).apart q hqf with h | h
      ·exact hne (hfs q hqf f hf h)
      ·exact h.2 e.symm
     ·have hqf:=(List.mem_filter.1 hq).1
      rcases (hS.fu f hf).apart q hqf with h | h
      ·exact hfs q hqf f hf h
      ·exact (h.1 hqd).elim
     ·have hqf:=(List.mem_filter.1 hq).1
      by_cases hqe:q.m=f.m
      ·have:=hfs q hqf f hf hqe
       subst this;obtain ⟨o',ho', -,hd', -⟩:=(hS.fu q hf).al;rcases (hS.fu q hf).src q.m o' ho' with h4 | ⟨h4, -⟩
       ·exact h4 _ e hd'
       ·simp only [Qbn,List.all_eq_true,Bool.and_eq_true,bne_iff_ne,ne_eq] at h4;exact (h4 q hf).1 rfl
      ·obtain ⟨a1,a2⟩:=((hS.fu q hqf).apart f hf).resolve_left (fun e=>hqe e.symm)
       have:=((hS.fu q hqf).away (Ki ops f) o ho (fun e=>hns q hqf e.symm) a2).1
       exact this (by simp [Oper.looksAt,hop,e,Op.operands])
     ·refine ih _ _ H w' _ hsz' hcl' hlen' hsm (by rw [eN];exact hx) ?_
      have e1:(fs.filter fun g=>(listed.setIfInBounds (Ki ops f) true).getD g.m false)=fs.filter fun g=>listed.getD g.m false:=List.filter_congr fun g hg=>by rw [hget,if_neg (fun e=>hns g hg e.symm)]
      rw [e1];exact hI'
end
theorem Qq0:∀ {l:List Pn},(l.map (·.m)).Nodup→∀ f∈l,∀ g∈l,f.m=g.m→f=g
 | [],_,f,hf,_,_,_=>by cases hf
 | a::l,h,f,hf,g,hg,e=>by
  simp only [List.map_cons,List.nodup_cons,List.mem_map,not_exists,not_and] at h;rcases List.mem_cons.1 hf with rfl | hf'
  ·rcases List.mem_cons.1 hg with rfl | hg
   ·rfl
   ·exact (h.1 g hg e.symm).elim
  ·rcases List.mem_cons.1 hg with rfl | hg
   ·exact (h.1 f (by assumption) e).elim
   ·exact Qq0 h.2 f hf' g hg e
theorem Qlo {C:Ctx} {cw:CW} {HH:Qb} (hcw:CWok cw HH) {ops:Array Oper} {H0:Qb} {K:List V→Qb→Prop} (hk:Zv ops=true) (hg:∀ (i:Nat) (o:Oper),ops[i]?=some o→o.guard=none):∀ (l:List Nat) (ts:List V) (H:Qb),Qb3 C cw ops H0 K (l.filterMap fun i=>ops[i]?) ts H→Qai C cw ops H0 K l ts H
 | [],ts,H,h=>h
 | i::l,ts,H,h=>by
  cases ho:ops[i]? with
  | none =>
   simp only [Qai,ho];exact Qlo hcw hk hg l ts H (by rw [List.filterMap_cons] at h;simpa only [ho] using h)
  | some o =>
   simp only [List.filterMap_cons,ho,Qb3,Qdh,hg i o ho] at h;simp only [Qai,ho]
   have h':tro C cw ops H0 o ts H fun v H'=>Qb3 C cw ops H0 K (l.filterMap fun i=>ops[i]?) (Yo ts o.dst v) H':=by
    simp only [tro,Qcs,hg i o ho];exact h
   exact Qb0 hcw (Jd hk ho) (fun v H' h2=>Qlo hcw hk hg l _ H' h2) h'
theorem Xr1 {C:Ctx} {ro:Option Nat} (hm:C.P.follows .mixedOrders=true) {id:Nat} {ops:Array Oper} (hdr:Qge C ops=true) {Q:Exit→List V→Qb→Prop} {ts:List V} {H:Qb}
  {H0:Qb} (hs0:Same H0 H) (h:Qb3 C (cwP C H0) ops H0 (Q .normal) (Qv1 C ops) ts H):T C ro (.region id ops true) Q ts H:=by
 intro im pl w a hr
 have hS:=Qzd hdr
 refine wpIn_region_any hm ?_
 have hx:=Qlo (Qfm C H0) hS.known hS.guard (Xot C ops) ts H h
 have hvr:∀ {v c},VR im pl w v c→VR im pl { w with drawn:=w.drawn+1 } v c:=fun h=>VR.world (w:=w) (w':={ w with drawn:=w.drawn+1 }) (fun _ _ _ (h:w.cell? _=some _)=>h) h
 have hE:Ext im pl w im pl { w with drawn:=w.drawn+1 }:=⟨rfl,rfl,rfl,Nat.le_refl _,fun _ h=>h,fun _ h=>.inl h,fun _ _=>.inl rfl,fun r b cap h=>.inl ⟨r,cap,h⟩,fun _ _ _=>rfl⟩
 have hr':Rel im pl { w with drawn:=w.drawn+1 } ts H a:=by
  refine ⟨⟨hr.tr.1,fun i=>hvr (hr.tr.2 i)⟩, ?_,hr.df.mono hE⟩
  obtain ⟨g1,g2,g3,g4,g5,g6,g7,g8⟩:=hr.hr;refine ⟨g1,g2,g3,g4,g5,g6,g7,fun r b cap hp=>?_⟩
  obtain ⟨e,s,cs,cur,f1,f2,f3,f4,f5,f6⟩:=g8 r b cap hp;exact ⟨e,s,cs,cur,f1,f2,f3,f4,f5,fun j=>hvr (f6 j)⟩
 have hl0:∀ i,(Array.replicate ops.size false).getD i false=false:=fun i=>by
  simp only [Array.getD_eq_getD_getElem?,Array.getElem?_replicate];split<;>rfl
 refine Xes (im:=im) (pl:=pl) (w0:=w) (ds:=a.defers) (K:=Q .normal) hS (Qq0 hS.nodup) (fun a' w' ts' H' k1 k2=>?_) ops.size _ ts H _ a (by simp) (fun i o ho hl=>?_) (Nat.le_trans (List.length_filter_le _ _) (by simp)) hs0 ?_ ?_
 ·obtain ⟨im',pl',b,k2,k3,k4,_⟩:=k2;exact ⟨ts',H',im',pl',k1,k2,k3,by rw [k4];exact .refl _ _⟩
 ·rw [hl0] at hl;cases hl
 ·have e:((List.range ops.size).filter fun i=>Qbn ops (fus C ops) i&&unl (Array.replicate ops.size false) i)=(List.range ops.size).filter (Qbn ops (fus C ops)):=List.filter_congr fun j _=>by simp [unl,hl0]
  rw [e];exact hx
 ·have e:((fus C ops).filter fun f=>(Array.replicate ops.size false).getD f.m false)=[]:=List.filter_eq_nil_iff.2 fun f _=>by simp [hl0]
  rw [e];exact ⟨im,pl,fun _=>0,hr',hE,rfl,fun p hp=>(by cases hp),fun p hp=>(by cases hp)⟩
end Go.Bv
end
section
namespace Go.Bv
open Go.RowKit
def chk (p q:Prop):Prop:=p∧q
@[congr] theorem Xsw {uu:Prop} (h00:(True∧True)=uu) {p p':Prop} (q:Prop) (h:p=p'):chk p q=chk p' q:=by rw [h]
theorem Xka (q:Prop):chk True q=q:=by simp [chk]
theorem Xrn {p:Prop} (q:Prop) (h:p):chk p q=q:=by simp [chk,h]
def Go1 (p:Prop):Prop:=p
theorem Zo {p:Prop} (h:Go1 p):p:=h
theorem Zk {p:Prop} (h:p):Go1 p:=h
def Br (b:Bool) (X Y:Prop):Prop:=(b=true→X)∧(b=false→Y)
@[congr] theorem Xt9 {uu:Prop} (h00:(True∧True)=uu) {b b':Bool} (X Y:Prop) (h:b=b'):Br b X Y=Br b' X Y:=by rw [h]
theorem Xog (X Y:Prop):Br true X Y=X:=by simp [Br]
theorem Xk3 (X Y:Prop):Br false X Y=Y:=by simp [Br]
theorem Xr7 (b:Bool) (X Y:Prop):Br (!b) X Y=Br b Y X:=by cases b<;>simp [Br]
theorem Xr8 (a b:Bool) (X Y:Prop):Br (a&&b) X Y=Br a (Br b X Y) Y:=by cases a<;>cases b<;>simp [Br]
theorem Xt8 (a b:Bool) (X Y:Prop):Br (a||b) X Y=Br a X (Br b X Y):=by cases a<;>cases b<;>simp [Br]
theorem Xk4 {p:Prop} [Decidable p] (X Y:Prop) (h:p):Br (decide p) X Y=X:=by simp [Br,h]
theorem Xk5 {p:Prop} [Decidable p] (X Y:Prop) (h:¬ p):Br (decide p) X Y=Y:=by simp [Br,h]
theorem Xk8 {a b:Int} (X Y:Prop) (h:a=b):Br (a==b) X Y=X:=by simp [Br,h]
theorem Xk9 {a b:Int} (X Y:Prop) (h:a≠b):Br (a==b) X Y=Y:=by simp [Br,h]
theorem Xk6 {a b:Int} (X Y:Prop) (h:a≠b):Br (a != b) X Y=X:=by simp [Br,h]
theorem Xk7 {a b:Int} (X Y:Prop) (h:a=b):Br (a != b) X Y=Y:=by simp [Br,h]
theorem Za {p:Prop} [Decidable p] {X Y:Prop} (h1:p→X) (h2:¬ p→Y):Br (decide p) X Y:=⟨fun h=>h1 (of_decide_eq_true h),fun h=>h2 (of_decide_eq_false h)⟩
theorem Zb {a b:Int} {X Y:Prop} (h1:a=b→X) (h2:a≠b→Y):Br (a==b) X Y:=⟨fun h=>h1 (by simpa using h),fun h=>h2 (by simpa using h)⟩
theorem Zc {a b:Int} {X Y:Prop} (h1:a≠b→X) (h2:a=b→Y):Br (a != b) X Y:=⟨fun h=>h1 (by simpa using h),fun h=>h2 (by simpa using h)⟩
theorem Zd {b:Bool} {X Y:Prop} (h1:b=true→X) (h2:b=false→Y):Br b X Y:=⟨h1,h2⟩
attribute [go_sem] Xka Xrn Xog Xk3 Xr7 Xr8 Xt8 Xk4 Xk5 Xk8 Xk9 Xk6 Xk7
section
variable (C:Ctx) (ro:Option Nat) (cw:CW) (ty:TypeId→Ty) (Q:Exit→List V→Qb→Prop) (ts:List V) (H:Qb) (K:V→Qb→Prop) (KP:V→Prop) (KL:List V→Qb→Prop)
theorem Xnx (b:Bool) (x y:Prop):Qg1 (.bool b) x y=Br b x y:=rfl
theorem Xjd (b:Bool) (d:Tmp) (Y N:List V→Prop):Qct (.bool b) d true ts Y N=Br b (Y (upd ts d (.bool true))) (N (upd ts d (.bool false))):=rfl
theorem Xje (b:Bool) (d:Tmp) (Y N:List V→Prop):Qct (.bool b) d false ts Y N=Br b (N (upd ts d (.bool true))) (Y (upd ts d (.bool false))):=rfl
theorem Xl8 (t:Bool) (a b:V):Qi0 (.bool t) a b KP=Br t (KP a) (KP b):=rfl
theorem Qtw (y:Ty) (a b:ByteArray):Qey y .eql (.str a) (.str b) H KP=KP (.bool (a.toList==b.toList)):=rfl
theorem Qtv (y:Ty) (a b:ByteArray):Qey y .neq (.str a) (.str b) H KP=KP (.bool (!(a.toList==b.toList))):=rfl
theorem Ql6 (y:Ty) (n:Nat) (cs:List V):Qey y .eql (.sl n cs) .nil H KP=(y.sl.isSome=true∧chk (KP (.bool false)) (n=0→KP (.bool true))):=rfl
theorem Ql5 (y:Ty) (n:Nat) (cs:List V):Qey y .neq (.sl n cs) .nil H KP=(y.sl.isSome=true∧chk (KP (.bool true)) (n=0→KP (.bool false))):=rfl
theorem Qk3 (y:Ty) (r off n:Nat):Qey y .eql (.ref r off n) .nil H KP=(y.sl.isSome=true∧chk ((Qc H r).isSome=true) (KP (.bool false)∧(n=0→KP (.bool true)))):=rfl
theorem Xem (k:IntKind) (a b:Int):Ke .quo k a k b KP=chk (b≠0) (KP (.int k (k.wrap (a.tdiv b)))):=by simp [Ke,chk]
theorem Xel (k:IntKind) (a b:Int):Ke .rem k a k b KP=chk (b≠0) (KP (.int k (a.tmod b))):=by simp [Ke,chk]
theorem Xiy (k k':IntKind) (a b:Int):Ke .shl k a k' b KP=chk (0≤b) (KP (.int k (k.wrap (a*2 ^ (min b.toNat k.bits))))):=rfl
theorem Xix (k k':IntKind) (a b:Int):Ke .shr k a k' b KP=chk (0≤b) (KP (.int k (a.fdiv (2 ^ (min b.toNat k.bits))))):=rfl
theorem Xi7 (k:IntKind) (a b:Int):Ke .and k a k b KP=KP (.int k (k.wrap ((BitVec.ofInt k.bits a &&& BitVec.ofInt k.bits b).toNat:Int))):=by simp [Ke]
theorem Xm9 (k:IntKind) (a b:Int):Ke .or k a k b KP=KP (.int k (k.wrap ((BitVec.ofInt k.bits a|||BitVec.ofInt k.bits b).toNat:Int))):=by simp [Ke]
theorem Xiv (k:IntKind) (a b:Int):Ke .xor k a k b KP=KP (.int k (k.wrap ((BitVec.ofInt k.bits a ^^^ BitVec.ofInt k.bits b).toNat:Int))):=by simp [Ke]
theorem Xlk (k:IntKind) (n:Int):unw .xor (.int k n) KP=KP (.int k (k.wrap ((BitVec.ofInt k.bits (if k.signed then -1 else k.max) ^^^ BitVec.ofInt k.bits n).toNat:Int))):=rfl
theorem Xec (y:Ty) (cs:List V) (off:Nat):Qc7 y (.rp cs off) H KP=chk (off+y.size≤cs.length) (KP (Qlm y cs off)):=rfl
theorem Qvj (y:Ty) (e s:Nat) (cs:List V) (off:Nat):Xa7 y (some ⟨e,s,cs⟩) off KP=chk (off+y.size≤cs.length) (KP (Qlm y cs off)):=rfl
theorem Qr3 (y:Ty) (e s:Nat) (cs:List V) (r off:Nat) (v:V) (KH:Qb→Prop):Qnp y (some ⟨e,s,cs⟩) r off v H KH =
  chk (off+y.size≤cs.length∧(cellsOf v).length=y.size∧(cellsOf v).all Yq=true) (KH (H.set r (some ⟨e,s,Qa2 cs off (cellsOf v)⟩))):=by simp [Qnp,chk,and_assoc]
theorem Qy0 (e n:Nat) (i:Int) (KO:Nat→Prop):Qvt ty (some e) n i KO=((ty e).ok=true∧chk (0≤i∧i<n) (KO (i.toNat*(ty e).size))):=by simp [Qvt,chk,and_assoc]
theorem Xez (o u:Nat) (KO:Nat→Prop):fao ty (some (o,u)) KO=((ty u).ok=true∧chk ((ty u).size≠0) (KO o)):=rfl
theorem Qx5 (l:List V) (KV:List V→Prop):Qgn (some l) KV=KV l:=rfl
theorem Qw6 (place:Nat→Option (Nat × Nat)) (cs:List V) (v:V) (rest:List (Nat × V)) (off size:Nat):Xfx (some (off,size)) place cs v rest=if kn v=true∧(cellsOf v).length=size∧off+(cellsOf v).length≤cs.length then Jz place (Qa2 cs off (cellsOf v)) rest else none:=rfl
end
attribute [go_sem] Xiy Xix Xi7 Xm9 Xiv Xlk Xez List.cons_ne_nil ne_eq not_false_eq_true Option.map_some Xnx Xjd Xje Xl8 Qtw Qtv Ql6 Ql5 Qk3 Xem Xel Xec Qvj Qr3 Qy0 Qx5 Qw6
attribute [go_sem] Xlf Xo8 Xfs Xft Xlg Qrv Xlh Xfq Xfr Xo9 Qug Xci Xgi Qp3 Qzx Qwl Qtu Qps Qxp Quh Xjs
 Qv4 Xg2 Xg1 Xcs Xmp Xmq Xmn Qlx Qhn Qy3 Qza Qzb Xhn Qye Xhm Xdy Xhk Qu1 Qsf Qu0 Qse
 Xho Xdt Xmm Xdz Xdx Qob Qpy Xdu Qfg Xdw Qi1 Xdv Xhp Qu2 Xrj Xq9 Xrc Xno Xrb Xnl Xnm Xra Xrd
 Xnn Qli Qlj Xfy Xfz Xhr Xht Xkl Qp5 Qp4 Ql7 Xi8 Xiw Xi0 Xi5 Xiz Xi1 Xi2 Xi3 Xi4 Xlm Xll
 Xjo Xmw Qyj Xhx Xed Qxe Qg0 Qmx Xm4 Xil Xim Qto Qtn Qtm Qm1 Ql2 Option.isSome_some Bool.and_self Bool.or_true Xfh Xnc Xi9 Xni
 Xq7 Qri Xkd Xkc Xki Qfa Qns Qr5 Xm3 Xid Xik Xij Xii Xih Qyp Xig Xef Xb0 Qw7 Xmd Xfu Xfv Xri Qyi Qu7 Qyh Xhh Qx9 Xhg Xdr Xhf Quy Qsd Qux
 Qsc Xhi Xdq Xdm Qpx Xdo Qpw Xdn Xmj Qya Xmh Xmi Xhj Xdl Xmk Xds Qn9 Qpv Xqy Xm8 Xqu Xqx Xtn
 Xqv Xqz Xqw Xto Xm6 Xtp Xm7 Qwh Qtl Qwd Qwg Qzn Qwe Qwi Qwf Qzo Qtj Qzp Qtk Xg6 Xc0
 Kf Qe5 Xlj Qie Qrj Qjn Xj9 Xff Qph
attribute [go_sem] List.map_cons List.map_nil List.length_cons List.length_nil true_and and_true if_true Bool.not_true Bool.not_false beq_self_eq_true Nat.zero_add Nat.add_zero Bool.false_eq_true if_false Int.toNat_natCast Nat.mul_one Option.isSome_some Bool.true_eq_false false_implies true_implies implies_true eq_self List.nil_append List.append_nil List.cons_append List.replicate_succ List.replicate_zero Nat.lt_irrefl Nat.le_refl Nat.one_mul decide_true decide_false List.all_cons List.all_nil Bool.and_true Bool.true_and
theorem Xgn (k:IntKind) (n:Int):Yq (.int k n)=true:=rfl
theorem Xck (b:Bool):Yq (.bool b)=true:=rfl
theorem Xgj (b:ByteArray):Yq (.str b)=true:=rfl
theorem Xgm:Yq .nil=true:=rfl
theorem Xlz (n:Nat) (cs:List V):Yq (.sl n cs)=true:=rfl
theorem Xgk (r o n:Nat):Yq (.ref r o n)=true:=rfl
theorem Xgl (r o:Nat):Yq (.ptr r o)=true:=rfl
theorem Xl0 (f:Go.Fn) (xs ys:List V):Yq (.fn f xs ys)=true:=rfl
theorem Xcj:Yq .nilf=true:=rfl
attribute [go_sem] Xgn Xck Xgj Xgm Xlz Xgk Xgl Xl0 Xcj Yj Qf6 Qa Ql
theorem Xld {n:Int} (h:-9223372036854775808≤n∧n≤9223372036854775807):IntKind.wrap .i64 n=n:=Qk8 h.1 h.2
theorem Xd3 (xs:List Int) (i:Nat) (h:i<xs.length):nth (ints xs) i=.int .i64 (xs.getD i 0):=Xhu xs i h
theorem Xlq {a b:Int} (h:0≤a):a.tmod b=a%b:=Int.tmod_eq_emod_of_nonneg h
theorem Xlr {a b:Int} (h:0≤a):a.tdiv b=a/b:=Int.tdiv_eq_ediv_of_nonneg h
theorem Xf3 (i:Nat):((i:Int) - 1).toNat=i - 1:=by omega
theorem Xlo (i j:Nat):((i:Int) - (j:Int)).toNat=i - j:=by omega
theorem Xf5 (i:Nat):((i:Int)+1).toNat=i+1:=by omega
theorem Xlp (i j:Nat):((i:Int)+(j:Int)).toNat=i+j:=by omega
theorem Xf4 (i:Nat):(2*(i:Int)).toNat=2*i:=by omega
theorem Xb6 (i:Nat):(2*(i:Int)+1).toNat=2*i+1:=by omega
attribute [go_sem] Xld Xd3 Xlq Xlr Xf3 Xlo Xf5 Xlp Xf4 Xb6
attribute [go_sem] Nat.reduceBEq Nat.reduceLT Nat.reduceAdd Nat.reduceMul Nat.reduceSub Nat.reduceLeDiff Nat.reduceEqDiff Int.reduceBEq Int.reduceBNe Int.reduceLT Int.reduceLE Int.reduceNeg Int.reduceToNat
inductive O2 where
 | n (d:Nat) (op:Op)
 | z (op:Op)
 | g (d:Option Nat) (op:Op) (s:Nat) (b:Bool)
 | bad
def Zm (all:List Oper):List Oper→List O2
 | []=>[]
 | ⟨some d,op,_,_,_,none⟩::l=>.n d op::Zm all l
 | ⟨none,op,_,_,_,none⟩::l=>.z op::Zm all l
 | ⟨d,op,_,_,_,some (j,b)⟩::l=>(match Qgc all j with | some s=>.g d op s b | none=>.bad)::Zm all l
def Qc1 (C:Ctx) (cw:CW):List O2→(List V→Qb→Prop)→List V→Qb→Prop
 | [],KL,ts,H=>KL ts H
 | .n d op::l,KL,ts,H=>opc C.ty cw op ts H fun v H'=>Qc1 C cw l KL (upd ts d v) H'
 | .z op::l,KL,ts,H=>opc C.ty cw op ts H fun _ H'=>Qc1 C cw l KL ts H'
 | .g d op s b::l,KL,ts,H=>Qct (nth ts s) s b ts (fun ts=>opc C.ty cw op ts H fun v H'=>Qc1 C cw l KL (Yo ts d v) H') (fun ts=>Qc1 C cw l KL (Yo ts d (.tup [])) H)
 | .bad::_,_,_,_=>False
def Qbz (C:Ctx) (cw:CW) (H0:Qb):List O2→(List V→Qb→Prop)→List V→Qb→Prop
 | [],KL,ts,H=>KL ts H
 | .n d op::l,KL,ts,H=>opd C cw op ts H0 H fun v H'=>Qbz C cw H0 l KL (upd ts d v) H'
 | .z op::l,KL,ts,H=>opd C cw op ts H0 H fun _ H'=>Qbz C cw H0 l KL ts H'
 | .g d op s b::l,KL,ts,H=>Qct (nth ts s) s b ts (fun ts=>opd C cw op ts H0 H fun v H'=>Qbz C cw H0 l KL (Yo ts d v) H') (fun ts=>Qbz C cw H0 l KL (Yo ts d (.tup [])) H)
 | .bad::_,_,_,_=>False
section
variable (C:Ctx) (cw:CW) (H0:Qb) (KL:List V→Qb→Prop) (ts:List V) (H:Qb) (l:List O2)
theorem Xgo:Qc1 C cw [] KL ts H=KL ts H:=rfl
theorem Xpn (d:Nat) (op:Op):Qc1 C cw (.n d op::l) KL ts H=opc C.ty cw op ts H fun v H'=>Qc1 C cw l KL (upd ts d v) H':=rfl
theorem Xpm (op:Op):Qc1 C cw (.z op::l) KL ts H=opc C.ty cw op ts H fun _ H'=>Qc1 C cw l KL ts H':=rfl
theorem Xpo (d:Option Nat) (op:Op) (s:Nat) (b:Bool):Qc1 C cw (.g d op s b::l) KL ts H=Qct (nth ts s) s b ts (fun ts=>opc C.ty cw op ts H fun v H'=>Qc1 C cw l KL (Yo ts d v) H') (fun ts=>Qc1 C cw l KL (Yo ts d (.tup [])) H):=rfl
theorem Xgp:Qbz C cw H0 [] KL ts H=KL ts H:=rfl
theorem Xpr (d:Nat) (op:Op):Qbz C cw H0 (.n d op::l) KL ts H=opd C cw op ts H0 H fun v H'=>Qbz C cw H0 l KL (upd ts d v) H':=rfl
theorem Xpq (op:Op):Qbz C cw H0 (.z op::l) KL ts H=opd C cw op ts H0 H fun _ H'=>Qbz C cw H0 l KL ts H':=rfl
theorem Xps (d:Option Nat) (op:Op) (s:Nat) (b:Bool):Qbz C cw H0 (.g d op s b::l) KL ts H=Qct (nth ts s) s b ts (fun ts=>opd C cw op ts H0 H fun v H'=>Qbz C cw H0 l KL (Yo ts d v) H') (fun ts=>Qbz C cw H0 l KL (Yo ts d (.tup [])) H):=rfl
end
attribute [go_sem] Xgo Xpn Xpm Xpo Xgp Xpr Xpq Xps
@[congr] theorem Xpp {C:Ctx} {cw:CW} {KL:List V→Qb→Prop} {ts ts':List V} {H H':Qb} {uu:Prop} (h00:(True∧True)=uu) (l:List O2) (h1:ts=ts') (h2:H=H'):Qc1 C cw l KL ts H=Qc1 C cw l KL ts' H':=by rw [h1,h2]
@[congr] theorem Xpt {C:Ctx} {cw:CW} {KL:List V→Qb→Prop} {ts ts':List V} {H H' H0 H0':Qb} {uu:Prop} (h00:(True∧True)=uu) (l:List O2) (h0:H0=H0') (h1:ts=ts') (h2:H=H'):Qbz C cw H0 l KL ts H=Qbz C cw H0' l KL ts' H':=by rw [h0,h1,h2]
theorem Qew (C:Ctx) (cw:CW) (all:List Oper) (KL:List V→Qb→Prop):∀ (l:List Oper) (ts:List V) (H:Qb),.bad ∉ Zm all l→Qc1 C cw (Zm all l) KL ts H=Qcg C.ty cw all.toArray KL l ts H
 | [],_,_,_=>rfl
 | ⟨d,op,t,p,e,g⟩::l,ts,H,hb=>by
  cases g with
  | none =>
   cases d with
   | none =>
    have ih:=fun ts H=>Qew C cw all KL l ts H (fun h=>hb (by simp [Zm,h]))
    simp only [Zm,Qc1,Qqv,Qlj,ih]
   | some d =>
    have ih:=fun ts H=>Qew C cw all KL l ts H (fun h=>hb (by simp [Zm,h]))
    simp only [Zm,Qc1,Qqv,Qli,ih]
  | some g =>
   obtain ⟨j,b⟩:=g
   have ih:=fun ts H=>Qew C cw all KL l ts H (fun h=>hb (by simp [Zm,h]))
   cases hs:Qgc all j with
   | none=>exact (hb (by simp [Zm,hs])).elim
   | some s=>simp only [Zm,hs,Qc1,Xme hs,ih]
theorem Qdd (C:Ctx) (cw:CW) (all:List Oper) (H0:Qb) (KL:List V→Qb→Prop):∀ (l:List Oper) (ts:List V) (H:Qb),.bad ∉ Zm all l→Qbz C cw H0 (Zm all l) KL ts H=Qb3 C cw all.toArray H0 KL l ts H
 | [],_,_,_=>rfl
 | ⟨d,op,t,p,e,g⟩::l,ts,H,hb=>by
  cases g with
  | none =>
   cases d with
   | none =>
    have ih:=fun ts H=>Qdd C cw all H0 KL l ts H (fun h=>hb (by simp [Zm,h]))
    simp only [Zm,Qbz,Qqw,Qlj,ih]
   | some d =>
    have ih:=fun ts H=>Qdd C cw all H0 KL l ts H (fun h=>hb (by simp [Zm,h]))
    simp only [Zm,Qbz,Qqw,Qli,ih]
  | some g =>
   obtain ⟨j,b⟩:=g
   have ih:=fun ts H=>Qdd C cw all H0 KL l ts H (fun h=>hb (by simp [Zm,h]))
   cases hs:Qgc all j with
   | none=>exact (hb (by simp [Zm,hs])).elim
   | some s=>simp only [Zm,hs,Qbz,Xmf hs,ih]
inductive Tr where
 | s
 | r
 | x (id:Nat)
 | lb (l:Nat)
 | R (l:List O2)
 | D (ok:Bool) (l:List O2)
 | U (l:List O2)
 | P (l x:List O2)
 | q (a b:Tr)
 | c (o:Operand) (a b:Tr)
 | b (id:Nat) (a:Tr)
 | l (a:Tr)
 | sc (a:Tr)
 | f (o:Operand) (ps:Array Tmp) (a b:Tr)
 | no
def okO:List O2→Bool
 | []=>true
 | .bad::_=>false
 | _::l=>okO l
theorem Qke:∀ {l:List O2},okO l=true→.bad ∉ l
 | [],_=>by simp
 | .n ..::l,h=>by simp only [List.mem_cons,not_or];exact ⟨by simp,Qke (l:=l) h⟩
 | .z ..::l,h=>by simp only [List.mem_cons,not_or];exact ⟨by simp,Qke (l:=l) h⟩
 | .g ..::l,h=>by simp only [List.mem_cons,not_or];exact ⟨by simp,Qke (l:=l) h⟩
 | .bad::l,h=>by simp [okO] at h
def Qbi (C:Ctx) (ops:Array Oper):Bool:=Qdi ops||Qkz C ops
theorem Xo2 {C:Ctx} {ro:Option Nat} (hm:C.P.follows .mixedOrders=true) {id:Nat} {ops:Array Oper} {Q:Exit→List V→Qb→Prop} {ts:List V} {H:Qb} (hok:Qbi C ops=true) {H0:Qb} (hs0:Same H0 H) (h:Qb3 C (cwP C H0) ops H0 (Q .normal) ops.toList ts H):T C ro (.region id ops true) Q ts H:=by
 simp only [Qbi,Bool.or_eq_true] at hok;rcases hok with hok | hok
 ·exact Xr2 hm hok hs0 h
 ·exact Xrz hm hok hs0 h
def Xan (o:Oper):Bool:=match o.op with
 | .call ⟨.value (.tmp _),_,_⟩=>true
 | _=>false
def Qz5 (C:Ctx) (ops:Array Oper):Tr:=match ops.toList.any Xan,Qom ops,Qbi C ops with
 | false,_,ok=>.D ok (Zm ops.toList ops.toList)
 | true,true,_=>.P (Zm ops.toList ops.toList.dropLast) (Zm ops.toList (ops.toList.drop (ops.size - 1)))
 | true,false,true=>.U (Zm ops.toList ops.toList)
 | true,false,false=>.D false (Zm ops.toList ops.toList)
def Xfk (C:Ctx) (ops:Array Oper):Tr:=match Qbi C ops,Qge C ops with
 | false,true=>.D true (Zm ops.toList (Qv1 C ops))
 | _,_=>Qz5 C ops
theorem Xkt {C:Ctx} {ops:Array Oper} (h:Qbi C ops=true):Xfk C ops=Qz5 C ops:=by simp [Xfk,h]
theorem Qpk (C:Ctx) (ops:Array Oper):Xfk C ops=Qz5 C ops∨(Qge C ops=true∧Xfk C ops=.D true (Zm ops.toList (Qv1 C ops))):=by
 unfold Xfk;cases Qbi C ops<;>cases h2:Qge C ops<;>simp
def Xfj (C:Ctx) (ops:Array Oper) (b:Bool):Tr:=match okO (Zm ops.toList ops.toList),b with
 | true,false=>.R (Zm ops.toList ops.toList)
 | true,true=>Xfk C ops
 | false,_=>.no
theorem Qjq (C:Ctx) (ops:Array Oper):Qz5 C ops=.D (Qbi C ops) (Zm ops.toList ops.toList)∨(Qbi C ops=true∧Qz5 C ops=.U (Zm ops.toList ops.toList))∨(Qom ops=true∧Qz5 C ops=.P (Zm ops.toList ops.toList.dropLast) (Zm ops.toList (ops.toList.drop (ops.size - 1)))):=by
 unfold Qz5;cases ops.toList.any Xan<;>cases h1:Qom ops<;>cases h2:Qbi C ops<;>simp
theorem Qwx (C:Ctx) (ops:Array Oper) (b:Bool):(∀ a,Xfj C ops b≠.l a)∧∀ o ps x y,Xfj C ops b≠.f o ps x y:=by
 unfold Xfj;cases okO (Zm ops.toList ops.toList)<;>cases b<;>simp;rcases Qpk C ops with h | ⟨_,h⟩
 ·rcases Qjq C ops with h2 | ⟨_,h2⟩ | ⟨_,h2⟩<;>rw [h,h2]<;>simp
 ·rw [h];simp
theorem Qex (all:List Oper):∀ (a b:List Oper),Zm all (a++b)=Zm all a++Zm all b
 | [],b=>rfl
 | ⟨d,op,t,p,e,g⟩::a,b=>by
  cases g with
  | none=>cases d<;>simp [Zm,Qex all a b]
  | some g=>obtain ⟨j,c⟩:=g;simp [Zm,Qex all a b]
theorem Qwy (all:List Oper):∀ (l m:List Oper),(∀ o∈l,o∈m)→.bad ∉ Zm all m→.bad ∉ Zm all l
 | [],m,_,_=>by simp [Zm]
 | o::l,m,h,hm=>by
  obtain ⟨a,b,rfl⟩:=List.append_of_mem (h o (by simp))
  have e:Zm all (o::l)=Zm all [o]++Zm all l:=Qex all [o] l
  have e2:Zm all (a++o::b)=Zm all a++(Zm all [o]++Zm all b):=by rw [Qex,← Qex all [o] b];rfl
  rw [e2] at hm;rw [e];simp only [List.mem_append,not_or] at hm ⊢;exact ⟨hm.2.1,Qwy all l (a++o::b) (fun x hx=>h x (by simp [hx])) (by rw [e2];simp only [List.mem_append,not_or];exact hm)⟩
theorem Xet (C:Ctx) (ops:Array Oper):∀ o∈Qv1 C ops,o∈ops.toList:=fun o ho=>by
 simp only [Qv1,List.mem_filterMap] at ho;obtain ⟨i,_,hi⟩:=ho;simpa using Array.mem_of_getElem? hi
def Qq (C:Ctx):Code→Tr
 | .skip=>.s
 | .ret=>.r
 | .exit id=>.x id
 | .label l=>.lb l
 | .goto _=>.no
 | .region _ ops b=>Xfj C ops b
 | .refuse _=>.no
 | .seq a b=>.q (Qq C a) (Qq C b)
 | .cond o a b=>.c o (Qq C a) (Qq C b)
 | .block id a=>.b id (Qq C a)
 | .loop a=>.l (Qq C a)
 | .scope a=>.sc (Qq C a)
 | .rangeFunc o ps a b=>.f o ps (Qq C a) (Qq C b)
def TT (C:Ctx) (ro:Option Nat) (t:Tr) (Q:Exit→List V→Qb→Prop) (ts:List V) (H:Qb):Prop:=∀ c,Qq C c=t→T C ro c Q ts H
def RunU (C:Ctx) (l:List O2) (KL:List V→Qb→Prop) (ts:List V) (H:Qb):Prop:=∃ H0,Same H0 H∧Qbz C (cwP C H0) H0 l KL ts H
def RunP (C:Ctx) (l x:List O2) (KL:List V→Qb→Prop) (ts:List V) (H:Qb):Prop:=∃ H0,Same H0 H∧Qbz C (cwP C H0) H0 l (fun ts H=>Qc1 C (cwF C) x KL ts H) ts H
theorem RunU.now {C:Ctx} {l:List O2} {KL:List V→Qb→Prop} {ts:List V} {H:Qb} (h:Qbz C (cwP C H) H l KL ts H):RunU C l KL ts H:=⟨H,.refl H,h⟩
theorem RunP.now {C:Ctx} {l x:List O2} {KL:List V→Qb→Prop} {ts:List V} {H:Qb} (h:Qbz C (cwP C H) H l (fun ts H=>Qc1 C (cwF C) x KL ts H) ts H):RunP C l x KL ts H:=⟨H,.refl H,h⟩
@[congr] theorem Xr5 {C:Ctx} {KL:List V→Qb→Prop} {ts ts':List V} {H H':Qb} {uu:Prop} (h00:(True∧True)=uu) (l:List O2) (h1:ts=ts') (h2:H=H'):RunU C l KL ts H=RunU C l KL ts' H':=by rw [h1,h2]
@[congr] theorem Xr6 {C:Ctx} {KL:List V→Qb→Prop} {ts ts':List V} {H H':Qb} {uu:Prop} (h00:(True∧True)=uu) (l x:List O2) (h1:ts=ts') (h2:H=H'):RunP C l x KL ts H=RunP C l x KL ts' H':=by rw [h1,h2]
def Qa9 (C:Ctx) (ro:Option Nat) (cw:CW):Tr→(Exit→List V→Qb→Prop)→List V→Qb→Prop
 | .s,Q,ts,H=>Q .normal ts H
 | .r,Q,ts,H=>Q .ret ts H
 | .x id,Q,ts,H=>Q (.exit id) ts H
 | .lb _,Q,ts,H=>Q .normal ts H
 | .R l,Q,ts,H=>Qc1 C cw l (Q .normal) ts H
 | .D true l,Q,ts,H=>Qbz C (cwP C H) H l (Q .normal) ts H
 | .D false _,_,_,_=>False
 | .U l,Q,ts,H=>RunU C l (Q .normal) ts H
 | .P l x,Q,ts,H=>RunP C l x (Q .normal) ts H
 | .q a b,Q,ts,H=>Qa9 C ro cw a (Qfs (Qa9 C ro cw b Q) Q) ts H
 | .c o a b,Q,ts,H=>Qg1 (ev ts o) (Qa9 C ro cw a Q ts H) (Qa9 C ro cw b Q ts H)
 | .b id a,Q,ts,H=>Qa9 C ro cw a (Jw id Q) ts H
 | .l a,Q,ts,H=>TT C ro (.l a) Q ts H
 | .sc a,Q,ts,H=>Qa9 C ro cw a (Qd6 Q) ts H
 | .f o ps a b,Q,ts,H=>TT C ro (.f o ps a b) Q ts H
 | .no,_,_,_=>False
section
variable (C:Ctx) (ro:Option Nat) (cw:CW) (Q:Exit→List V→Qb→Prop) (ts:List V) (H:Qb) (a b:Tr)
theorem Xpz:Qa9 C ro cw .s Q ts H=Q .normal ts H:=rfl
theorem Xp0:Qa9 C ro cw .r Q ts H=Q .ret ts H:=rfl
theorem Xpy (id:Nat):Qa9 C ro cw (.x id) Q ts H=Q (.exit id) ts H:=rfl
theorem Xl2 (id:Nat):Qa9 C ro cw (.lb id) Q ts H=Q .normal ts H:=rfl
theorem Xgt (l:List O2):Qa9 C ro cw (.R l) Q ts H=Qc1 C cw l (Q .normal) ts H:=rfl
theorem Qxq (l:List O2):Qa9 C ro cw (.D true l) Q ts H=Qbz C (cwP C H) H l (Q .normal) ts H:=rfl
theorem Xgs (l:List O2):Qa9 C ro cw (.U l) Q ts H=RunU C l (Q .normal) ts H:=rfl
theorem Xgu (l x:List O2):Qa9 C ro cw (.P l x) Q ts H=RunP C l x (Q .normal) ts H:=rfl
theorem Xp1:Qa9 C ro cw (.q a b) Q ts H=Qa9 C ro cw a (Qfs (Qa9 C ro cw b Q) Q) ts H:=rfl
theorem Xgr (o:Operand):Qa9 C ro cw (.c o a b) Q ts H=Qg1 (ev ts o) (Qa9 C ro cw a Q ts H) (Qa9 C ro cw b Q ts H):=rfl
theorem Xp5 (id:Nat):Qa9 C ro cw (.b id a) Q ts H=Qa9 C ro cw a (Jw id Q) ts H:=rfl
theorem Xp2:Qa9 C ro cw (.l a) Q ts H=TT C ro (.l a) Q ts H:=rfl
theorem Xl1:Qa9 C ro cw (.sc a) Q ts H=Qa9 C ro cw a (Qd6 Q) ts H:=rfl
theorem Xp3 (o:Operand) (ps:Array Tmp):Qa9 C ro cw (.f o ps a b) Q ts H=TT C ro (.f o ps a b) Q ts H:=rfl
end
attribute [go_sem] Xpz Xp0 Xpy Xl2 Xgt Qxq Xgs Xgu Xp1 Xgr Xp5 Xp2 Xl1 Xp3
@[congr] theorem Xp4 {C:Ctx} {ro:Option Nat} {cw:CW} {Q:Exit→List V→Qb→Prop} {ts ts':List V} {H H':Qb} {uu:Prop} (h00:(True∧True)=uu) (t:Tr) (h1:ts=ts') (h2:H=H'):Qa9 C ro cw t Q ts H=Qa9 C ro cw t Q ts' H':=by rw [h1,h2]
@[congr] theorem Xt3 {C:Ctx} {ro:Option Nat} {Q:Exit→List V→Qb→Prop} {ts ts':List V} {H H':Qb} {uu:Prop} (h00:(True∧True)=uu) (t:Tr) (h1:ts=ts') (h2:H=H'):TT C ro t Q ts H=TT C ro t Q ts' H':=by rw [h1,h2]
theorem Xcl {C:Ctx} {ro:Option Nat} (hm:C.P.follows .mixedOrders=true):∀ (c:Code) (Q Q':Exit→List V→Qb→Prop) (ts:List V) (H:Qb),(∀ e ts H,Q e ts H→Q' e ts H)→Qa9 C ro (cwF C) (Qq C c) Q ts H→T C ro c Q' ts H:=by
 intro c
 induction c with
 | skip=>exact fun Q Q' ts H hq h=>Qg4 (Qa6 C ro) .skip Q' ts H (hq _ _ _ h)
 | ret=>exact fun Q Q' ts H hq h=>Qg4 (Qa6 C ro) .ret Q' ts H (hq _ _ _ h)
 | exit id=>exact fun Q Q' ts H hq h=>Qg4 (Qa6 C ro) (.exit id) Q' ts H (hq _ _ _ h)
 | label l=>exact fun Q Q' ts H hq h=>Qg4 (Qa6 C ro) (.label l) Q' ts H (hq _ _ _ h)
 | goto l=>exact fun Q Q' ts H hq h=>h.elim
 | refuse _=>exact fun Q Q' ts H hq h=>h.elim
 | region id ops b =>
  intro Q Q' ts H hq h;refine T.mono ?_ hq;simp only [Qq,Xfj] at h;cases hk:okO (Zm ops.toList ops.toList) with
  | false=>rw [hk] at h;cases b<;>exact h.elim
  | true =>
   have hb:=Qke hk
   rw [hk] at h;cases b with
   | false =>
    simp only [Xgt] at h;rw [Qew C _ _ _ _ _ _ hb] at h;refine Qg4 (Qa6 C ro) _ _ _ _ ?_;simp only [wp,Array.toArray_toList] at h ⊢;exact h
   | true =>
    simp only at h;rcases Qpk C ops with hf | ⟨hd,hf⟩
    case inr =>
     rw [hf,Qxq,Qdd C _ _ _ _ _ _ _ (Qwy _ _ _ (Xet C ops) hb),Array.toArray_toList] at h;exact Xr1 hm hd (.refl H) h
    rw [hf] at h;rcases Qjq C ops with hc | ⟨hd,hc⟩ | ⟨hd,hc⟩
    ·rw [hc] at h;cases hd:Qbi C ops with
     | false=>rw [hd] at h;exact h.elim
     | true =>
      rw [hd,Qxq,Qdd C _ _ _ _ _ _ _ hb] at h;rw [Array.toArray_toList] at h;exact Xo2 hm hd (.refl H) h
    ·rw [hc,Xgs] at h;obtain ⟨H0,h0,h⟩:=h;rw [Qdd C _ _ _ _ _ _ _ hb,Array.toArray_toList] at h;exact Xo2 hm hd h0 h
    ·rw [hc,Xgu] at h;obtain ⟨H0,h0,h⟩:=h
     have hsp:Zm ops.toList ops.toList=Zm ops.toList ops.toList.dropLast++Zm ops.toList (ops.toList.drop (ops.size - 1)):=by
      rw [← Qex,List.dropLast_eq_take,Array.length_toList,List.take_append_drop]
     rw [hsp] at hb;rw [Qdd C _ _ _ _ _ _ _ (fun h=>hb (List.mem_append_left _ h)),Array.toArray_toList] at h
     refine Xr0 hm hd h0 ?_;simp only [Qew C _ _ _ _ _ _ (fun h=>hb (List.mem_append_right _ h)),Array.toArray_toList] at h
     exact h
 | seq x y ihx ihy =>
  intro Q Q' ts H hq h;refine Xo0 (ihx _ _ ts H (fun e ts H h=>?_) h)
  cases e with
  | normal=>exact ihy _ _ _ _ hq h
  | _=>exact hq _ _ _ h
 | cond o x y ihx ihy =>
  intro Q Q' ts H hq h;simp only [Qq,Xgr,Qg1] at h;split at h
  ·rename_i b hb;exact Xkx hb (fun e=>ihx _ _ _ _ hq (h.1 e)) (fun e=>ihy _ _ _ _ hq (h.2 e))
  ·exact h.elim
 | block id x ihx =>
  intro Q Q' ts H hq h;refine Xbt (ihx _ _ ts H (fun e ts H h=>?_) h)
  cases e with
  | exit i =>
   simp only [Jw] at h ⊢;split at h
   ·rename_i e1;rw [if_pos e1];exact hq _ _ _ h
   ·rename_i e1;rw [if_neg e1];exact hq _ _ _ h
  | _=>exact hq _ _ _ h
 | scope x ihx =>
  intro Q Q' ts H hq h;refine Xbs (ihx _ _ ts H (fun e ts H h=>?_) h)
  revert h
  cases e<;>simp only [Qd6]<;>first | exact hq _ _ _ | exact id
 | loop x ihx=>exact fun Q Q' ts H hq h=>(h (.loop x) rfl).mono hq
 | rangeFunc o ps x y ihx ihy=>exact fun Q Q' ts H hq h=>(h (.rangeFunc o ps x y) rfl).mono hq
theorem Qz {C:Ctx} {ro:Option Nat} (hm:C.P.follows .mixedOrders=true) {t:Tr} {Q:Exit→List V→Qb→Prop} {ts:List V} {H:Qb} (h:Qa9 C ro (cwF C) t Q ts H):TT C ro t Q ts H:=fun c hc=>by
 subst hc;exact Xcl hm c Q Q ts H (fun _ _ _ h=>h) h
theorem Ql9 {C:Ctx} {c:Code} {a:Tr} (h:Qq C c=.l a):∃ d,c=.loop d∧Qq C d=a:=by
 cases c with
 | loop d=>injection h with h;exact ⟨d,rfl,h⟩
 | region id ops b=>exact ((Qwx C ops b).1 _ h).elim
 | _=>cases h
theorem Qz4 {C:Ctx} {c:Code} {o:Operand} {ps:Array Tmp} {a b:Tr} (h:Qq C c=.f o ps a b):∃ x y,c=.rangeFunc o ps x y∧Qq C x=a∧Qq C y=b:=by
 cases c with
 | rangeFunc o' ps' x y=>injection h with h0 h1 h2 h3;subst h0;subst h1;exact ⟨x,y,rfl,h2,h3⟩
 | region id ops b=>exact ((Qwx C ops b).2 _ _ _ _ h).elim
 | _=>cases h
theorem Qj {C:Ctx} {ro:Option Nat} {a:Tr} {Q:Exit→List V→Qb→Prop} (I:Nat→List V→Qb→Prop) (step:∀ n ts H,I n ts H→TT C ro a (Qfs (fun ts' H'=>∃ m,m<n∧I m ts' H') Q) ts H) {n:Nat} {ts:List V} {H:Qb} (h:I n ts H):TT C ro (.l a) Q ts H:=fun c hc=>by
 obtain ⟨d,rfl,hd⟩:=Ql9 hc;exact Qz7 I (fun n ts H h=>step n ts H h d hd) h
theorem Qgx {C:Ctx} {ro:Option Nat} {a:Tr} {Q:Exit→List V→Qb→Prop} {ts:List V} {H:Qb} (h:TT C ro a (Qfs (fun _ _=>False) Q) ts H):TT C ro (.l a) Q ts H:=fun c hc=>by
 obtain ⟨d,rfl,hd⟩:=Ql9 hc;exact Xkw 1 ((h d hd).mono fun e ts H h=>by cases e<;>first | exact h | exact h.elim)
theorem Xc {C:Ctx} {ro:Option Nat} {t:Tr} {Q:Exit→List V→Qb→Prop} {ts:List V} {H:Qb} {N:Nat} (l:List (Nat × V)) (hL:ts.length=N) (hl:∀ p∈l,nth ts p.1=p.2) (h:TT C ro t Q (env N l) H):TT C ro t Q ts H:=fun c hc=>Xo1 l hL hl (h c hc)
abbrev Pu (C:Ctx) (f:FuncId) (args:List V) (u:V):Prop:=Fc C f args [] fun v H=>v=u∧H=[]
theorem Fc.bodyT {C:Ctx} (hm:C.P.follows .mixedOrders=true) {f:FuncId} {fn:Func} {t:Tr} {args:List V} {H:Qb} {K:V→Qb→Prop} {N:Nat} {rs:List ResultVar} (hf:C.P.funcs[f]?=some fn) (hw:fn.body.map (Qq C)=some t) (hn:(fn.name == "runtime.NumGoroutine")=false) (hN:fn.ntmps=N) (hr:fn.results=rs.toArray) (ha:args.length≤N)
  (h:Qa9 C none (cwF C) t (Qs7 C.ty rs K) (env N (Qev 0 args)) H):Fc C f args H K:=by
 subst hN;obtain ⟨c,hb,hc⟩:=Option.map_eq_some_iff.1 hw;refine Fc.bodyE hf hb hn ha (Qz hm ?_ c hc);rw [hr];exact h
end Go.Bv
end
namespace Go.Bv
theorem zDs {P:Prop} (h:P:=by first|omega|(simp only [List.length_set,List.length_append,List.length_cons,List.length_nil];omega)):P:=h
class BrC (b:Bool) (p q:outParam Prop):Prop where
  out:(b=true→p)∧(b=false→q)
instance (priority:=low) {b:Bool}:BrC b (b=true) (b=false):=⟨id,id⟩
instance {p:Prop} [Decidable p]:BrC (decide p) p (¬ p):=⟨of_decide_eq_true,of_decide_eq_false⟩
instance {a b:Int}:BrC (a==b) (a=b) (a≠b):=⟨fun h=>by simpa using h,fun h=>by simpa using h⟩
instance {a b:Int}:BrC (a != b) (a≠b) (a=b):=⟨fun h=>by simpa using h,fun h=>by simpa using h⟩
theorem zBr {b:Bool} {p q X Y:Prop} [i:BrC b p q] (h1:p→X) (h2:q→Y):Br b X Y:=⟨fun h=>h1 (i.out.1 h),fun h=>h2 (i.out.2 h)⟩
theorem zG {P Q:Prop} (q:Q) (h:Q→P:=by first|(intro q;simp -implicitDefEqProofs (maxSteps:=9^7) (disch:=first|exact zDs|fail) only [go_sem];exact q)|(intro q;have _:True:=q;simp -implicitDefEqProofs (maxSteps:=9^7) (disch:=first|exact zDs|fail) only [go_sem];done)|exact id):P:=h q
end Go.Bv
namespace Go.Bv
abbrev Wk (n:Int):Operand:=.const (.int .i64 n)
abbrev Wt:Operand:=.const (.bool true)
abbrev Wo:Operand:=.const (.bool false)
abbrev Wm (a:Nat) (x:Operand):O2:=.n a (.move x)
abbrev Wa (a:Nat) (x:Operand):O2:=.n a (.assign x)
abbrev Wl (a t:Nat) (x:Operand):O2:=.n a (.load t x)
abbrev Wv (a t:Nat):O2:=.n a (.alloc t)
abbrev Wb (a:Nat) (o:BinOp) (t:Nat) (x y:Operand):O2:=.n a (.binOp o t x y t)
abbrev Wc (a f:Nat) (x:Array Operand) (y:Array Nat):O2:=.n a (.call ⟨.value (.func f),x,y⟩)
abbrev Wn (a:Nat) (x:Operand) (t:Nat):O2:=.n a (.call ⟨.builtin .len,#[x],#[t]⟩)
abbrev We (a:Nat) (x:Operand) (k:Nat):O2:=.n a (.extract x k)
abbrev Ws (t:Nat) (x y:Operand):O2:=.z (.store t x y)
abbrev Wf (a t:Nat) (x:Operand) (k:Nat):O2:=.n a (.fieldAddr t x k)
abbrev Wi (a t:Nat) (x y:Operand):O2:=.n a (.indexAddr t x y)
end Go.Bv
namespace Go.Bv
def zT (z:Value) (s b:Nat):Ty:={ z:=z,size:=s,bytes:=b,agg:=false,sl:=none,arr:=none,fs:=[] }
theorem zY {P:Program} {t:TypeId} {y:Ty} {d:TypeDesc} (hd:P.underlying t=some d) (h1:(P.info? t).map (fun i=>(i.zero,i.size,i.bytes))=some (some y.z,y.size,y.bytes):=by kernel_rfl)
    (h2:y.agg=Qtf d:=by exact rfl) (h3:y.sl=Qzg d:=by exact rfl) (h4:y.arr=Qte d:=by exact rfl) (h5:y.fs=Qtd d:=by exact rfl) (h6:y.str=Qtb d:=by exact rfl) (h7:y.ik=Qtc d:=by exact rfl) (h8:y.bl=Qzh d:=by exact rfl)
    (h9:y.agg=false→y.size=1:=by first | exact fun _=>rfl | (intro h;cases h)) (h:y.z.cells.size=y.size:=by exact rfl):OKt P t y:=⟨h1,⟨d,hd,h2,h3,h4,h5,h6,h7,h8⟩,h9,h⟩
theorem zK {C:Ctx} (hm:C.P.follows .mixedOrders=true) {f:FuncId} {fn:Func} {t:Tr} {args:List V} {Q:V→Qb→Prop} {N:Nat} {rs:List ResultVar} (hf:C.P.funcs[f]?=some fn) (hw:fn.body.map (Qq C)=some t) (hN:fn.ntmps=N) (hr:fn.results=rs.toArray)
    (h:Qa9 C none (cwF C) t (Qs7 C.ty rs fun v H=>∃ sel,Qb6 sel Q v H) (env N (Qev 0 args)) []) (hn:(fn.name == "runtime.NumGoroutine")=false:=by exact rfl) (ha:args.length≤N:=by exact Nat.le_of_ble_eq_true rfl):Fc C f args [] Q:=Fc.keep (Fc.bodyT hm hf hw hn hN hr ha h)
theorem zL {C:Ctx} (hm:C.P.follows .mixedOrders=true) {f:FuncId} {fn:Func} {t:Tr} {args:List V} {H:Qb} {K:V→Qb→Prop} {N:Nat} {rs:List ResultVar} (hf:C.P.funcs[f]?=some fn) (hw:fn.body.map (Qq C)=some t) (hN:fn.ntmps=N) (hr:fn.results=rs.toArray)
    (h:Qa9 C none (cwF C) t (Qs7 C.ty rs K) (env N (Qev 0 args)) H) (hn:(fn.name == "runtime.NumGoroutine")=false:=by exact rfl) (ha:args.length≤N:=by exact Nat.le_of_ble_eq_true rfl):Fc C f args H K:=Fc.bodyT hm hf hw hn hN hr ha h
end Go.Bv
namespace Go.Bv
theorem zH1 {A1 P Q:Prop} (a1:A1) (q:Q) (h:A1→Q→P:=by first|(intro a1 q;simp -implicitDefEqProofs (maxSteps:=9^7) (disch:=first|exact zDs|fail) only [go_sem,a1];exact q)|(intro a1 q;have _:True:=q;simp -implicitDefEqProofs (maxSteps:=9^7) (disch:=first|exact zDs|fail) only [go_sem,a1];done)|exact fun _ x=>x):P:=h a1 q
theorem zH2 {A1 A2 P Q:Prop} (a1:A1) (a2:A2) (q:Q) (h:A1→A2→Q→P:=by first|(intro a1 a2 q;simp -implicitDefEqProofs (maxSteps:=9^7) (disch:=first|exact zDs|fail) only [go_sem,a1,a2];exact q)|(intro a1 a2 q;have _:True:=q;simp -implicitDefEqProofs (maxSteps:=9^7) (disch:=first|exact zDs|fail) only [go_sem,a1,a2];done)|exact fun _ _ x=>x):P:=h a1 a2 q
theorem zH3 {A1 A2 A3 P Q:Prop} (a1:A1) (a2:A2) (a3:A3) (q:Q) (h:A1→A2→A3→Q→P:=by first|(intro a1 a2 a3 q;simp -implicitDefEqProofs (maxSteps:=9^7) (disch:=first|exact zDs|fail) only [go_sem,a1,a2,a3];exact q)|(intro a1 a2 a3 q;have _:True:=q;simp -implicitDefEqProofs (maxSteps:=9^7) (disch:=first|exact zDs|fail) only [go_sem,a1,a2,a3];done)|exact fun _ _ _ x=>x):P:=h a1 a2 a3 q
theorem zH4 {A1 A2 A3 A4 P Q:Prop} (a1:A1) (a2:A2) (a3:A3) (a4:A4) (q:Q) (h:A1→A2→A3→A4→Q→P:=by first|(intro a1 a2 a3 a4 q;simp -implicitDefEqProofs (maxSteps:=9^7) (disch:=first|exact zDs|fail) only [go_sem,a1,a2,a3,a4];exact q)|(intro a1 a2 a3 a4 q;have _:True:=q;simp -implicitDefEqProofs (maxSteps:=9^7) (disch:=first|exact zDs|fail) only [go_sem,a1,a2,a3,a4];done)|exact fun _ _ _ _ x=>x):P:=h a1 a2 a3 a4 q
theorem zH5 {A1 A2 A3 A4 A5 P Q:Prop} (a1:A1) (a2:A2) (a3:A3) (a4:A4) (a5:A5) (q:Q) (h:A1→A2→A3→A4→A5→Q→P:=by first|(intro a1 a2 a3 a4 a5 q;simp -implicitDefEqProofs (maxSteps:=9^7) (disch:=first|exact zDs|fail) only [go_sem,a1,a2,a3,a4,a5];exact q)|(intro a1 a2 a3 a4 a5 q;have _:True:=q;simp -implicitDefEqProofs (maxSteps:=9^7) (disch:=first|exact zDs|fail) only [go_sem,a1,a2,a3,a4,a5];done)|exact fun _ _ _ _ _ x=>x):P:=h a1 a2 a3 a4 a5 q
theorem zH6 {A1 A2 A3 A4 A5 A6 P Q:Prop} (a1:A1) (a2:A2) (a3:A3) (a4:A4) (a5:A5) (a6:A6) (q:Q) (h:A1→A2→A3→A4→A5→A6→Q→P:=by first|(intro a1 a2 a3 a4 a5 a6 q;simp -implicitDefEqProofs (maxSteps:=9^7) (disch:=first|exact zDs|fail) only [go_sem,a1,a2,a3,a4,a5,a6];exact q)|(intro a1 a2 a3 a4 a5 a6 q;have _:True:=q;simp -implicitDefEqProofs (maxSteps:=9^7) (disch:=first|exact zDs|fail) only [go_sem,a1,a2,a3,a4,a5,a6];done)|exact fun _ _ _ _ _ _ x=>x):P:=h a1 a2 a3 a4 a5 a6 q
theorem zH7 {A1 A2 A3 A4 A5 A6 A7 P Q:Prop} (a1:A1) (a2:A2) (a3:A3) (a4:A4) (a5:A5) (a6:A6) (a7:A7) (q:Q) (h:A1→A2→A3→A4→A5→A6→A7→Q→P:=by first|(intro a1 a2 a3 a4 a5 a6 a7 q;simp -implicitDefEqProofs (maxSteps:=9^7) (disch:=first|exact zDs|fail) only [go_sem,a1,a2,a3,a4,a5,a6,a7];exact q)|(intro a1 a2 a3 a4 a5 a6 a7 q;have _:True:=q;simp -implicitDefEqProofs (maxSteps:=9^7) (disch:=first|exact zDs|fail) only [go_sem,a1,a2,a3,a4,a5,a6,a7];done)|exact fun _ _ _ _ _ _ _ x=>x):P:=h a1 a2 a3 a4 a5 a6 a7 q
theorem zH8 {A1 A2 A3 A4 A5 A6 A7 A8 P Q:Prop} (a1:A1) (a2:A2) (a3:A3) (a4:A4) (a5:A5) (a6:A6) (a7:A7) (a8:A8) (q:Q) (h:A1→A2→A3→A4→A5→A6→A7→A8→Q→P:=by first|(intro a1 a2 a3 a4 a5 a6 a7 a8 q;simp -implicitDefEqProofs (maxSteps:=9^7) (disch:=first|exact zDs|fail) only [go_sem,a1,a2,a3,a4,a5,a6,a7,a8];exact q)|(intro a1 a2 a3 a4 a5 a6 a7 a8 q;have _:True:=q;simp -implicitDefEqProofs (maxSteps:=9^7) (disch:=first|exact zDs|fail) only [go_sem,a1,a2,a3,a4,a5,a6,a7,a8];done)|exact fun _ _ _ _ _ _ _ _ x=>x):P:=h a1 a2 a3 a4 a5 a6 a7 a8 q
end Go.Bv
section
namespace Go.Bv
open Go.RowKit
theorem Xcp (H l:Qb):Qc (H++l) H.length=Qc l 0:=by
 have:(H++l)[H.length]?=l[0]?:=by rw [List.getElem?_append_right (Nat.le_refl _),Nat.sub_self]
 simp only [Qc,this]
theorem Xgw (H l:Qb) (k:Nat):Qc (H++l) (H.length+k)=Qc l k:=by
 have:(H++l)[H.length+k]?=l[k]?:=by rw [List.getElem?_append_right (by omega),Nat.add_sub_cancel_left]
 simp only [Qc,this]
theorem Xlx (H l:Qb) (x:Option Row):(H++l).set H.length x=H++l.set 0 x:=by simp [List.set_append]
theorem Xpk (H l:Qb) (k:Nat) (x:Option Row):(H++l).set (H.length+k) x=H++l.set k x:=by simp [List.set_append]
theorem Qvm (H l:Qb):(H++l).length=H.length+l.length:=by simp
attribute [go_sem] Xcp Xgw Xlx Xpk Qvm List.append_assoc List.set_cons_zero List.set_cons_succ Nat.add_assoc
theorem Xn2 (t:TypeId) (x:V) (H:Qb) (K:V→Qb→Prop):Xfa t x H K=(kn x=true∧K (.ptr H.length 0) (H++[some ⟨t,(cellsOf x).length,cellsOf x⟩])):=rfl
attribute [go_sem] Xn2 List.getElem?_cons_zero List.getElem?_cons_succ
theorem Qo {u v:V} {H:Qb} (hg:∀ g,ren g v=v) (h:v=u):∃ sel,Qb6 sel (fun v H=>v=u∧H=[]) v H :=
 ⟨[],by simp,by simp,by rw [hg];exact ⟨h,rfl⟩⟩
theorem Qwt (y:Ty) (e:TypeId) (m:Nat) (cs:List V) (H:Qb) (K:V→Qb→Prop):Qbb y e .nil (.sl m cs) H K=chk (cs.length=m*y.size∧cs.all Yq=true∧0<y.size∧0<y.bytes∧m*y.bytes≤140737488355328) (K (.ref H.length 0 m) (H++[some ⟨e,y.size,cs⟩])):=by
 simp [Qbb,Ka,chk,and_assoc]
theorem Qao (xs:List Int) (i:Nat) (v:Int):upd (ints xs) i (.int .i64 v)=ints (xs.set i v):=by
 induction xs generalizing i with
 | nil=>rfl
 | cons a l ih =>
  cases i with
  | zero=>rfl
  | succ i=>show V.int .i64 a::upd (ints l) i _=_;rw [ih];rfl
theorem getD_set_eq {l:List Int} {i:Nat} (v:Int) (h:i<l.length):(l.set i v).getD i 0=v:=by simp [List.getD,h]
theorem getD_set_ne {l:List Int} {i j:Nat} (v:Int) (h:j≠i):(l.set i v).getD j 0=l.getD j 0:=by simp [List.getD,List.getElem?_set_ne (Ne.symm h)]
attribute [go_sem] Qwt Qao List.length_set List.set_set getD_set_eq
def Jm (l:List (List Int)):List V:=l.map fun s=>.sl s.length (ints s)
theorem Qsu (l:List (List Int)):(Jm l).length=l.length:=by simp [Jm]
theorem Xd2 (l:List (List Int)) (i:Nat) (h:i<l.length):nth (Jm l) i=.sl (l.getD i []).length (ints (l.getD i [])):=by
 rw [Ze];simp [Jm,List.getD,List.getElem?_map,List.getElem?_eq_getElem h]
theorem Qn (l:List (List Int)):Qh (Jm l)=true:=by rw [Qwc];simp [Jm,clo,Qa]
theorem Qxs (g:Nat→Option Nat) (l:List (List Int)):Qk g (Jm l)=Jm l:=by rw [Qj4];simp [Jm,ren,Ql]
theorem Qyv (l:List (List Int)):(Jm l).all Yq=true:=by simp [Jm,Yq]
attribute [go_sem] Qsu Xd2 Qn Qxs Qyv
def Keep (H H':Qb):Prop:=∀ r row,Qc H r=some row→Qc H' r=some row
theorem Keep.app (H X:Qb):Keep H (H++X):=fun _ _ h=>Qd h X
def IsL (e s:Nat) (H:Qb) (v:V) (n:Nat) (cs:List V):Prop:=v=.sl n cs∨Own e s H v n cs
theorem IsL.lenw {e s:Nat} {H:Qb} {v:V} {n:Nat} {cs:List V} (h:IsL e s H v n cs) (y:Ty) (KP:V→Prop):lenw y v KP=(y.sl.isSome=true∧KP (.int .i64 n)):=by
 rcases h with rfl | ⟨rfl,rfl,rfl⟩ | ⟨r,rfl,_,_⟩<;>rfl
theorem Own.lenw {e s:Nat} {H:Qb} {v:V} {n:Nat} {cs:List V} (h:Own e s H v n cs) (y:Ty) (KP:V→Prop):lenw y v KP=(y.sl.isSome=true∧KP (.int .i64 n)):=IsL.lenw (.inr h) y KP
theorem Own.bor' {e s:Nat} {H:Qb} {v:V} {n:Nat} {cs:List V} (h:Own e s H v n cs) (hc:Qh cs=true):Bor H v (.sl n cs):=by
 rcases h with ⟨rfl,rfl,rfl⟩ | ⟨r,rfl,h2,h3⟩
 ·exact .nil _
 ·exact .ref r 0 n _ cs h2 (by simp) fun j hj=>by simpa using .clo _ (Ju hc j)
theorem IsL.bor {e s:Nat} {H:Qb} {v:V} {n:Nat} {cs:List V} (h:IsL e s H v n cs) (hc:Qh cs=true):Bor H v (.sl n cs):=by
 rcases h with rfl | h
 ·exact .clo _ (by simpa [clo] using hc)
 ·exact h.bor' hc
def RetL (e s:Nat) (H:Qb) (v:V) (n:Nat) (cs:List V):Prop:=(v=.sl n cs∧H=[])∨Ret e s H v n cs
theorem IsL.ret {e s:Nat} {H:Qb} {v:V} {n:Nat} {cs:List V} (h:IsL e s H v n cs) (hc:∀ g,Qk g cs=cs) {Q:V→Qb→Prop} (hQ:∀ v H,RetL e s H v n cs→Q v H):∃ sel,Qb6 sel Q v H:=by
 rcases h with rfl | h
 ·exact ⟨[],by simp,by simp,hQ _ _ (.inl ⟨by simp [ren,hc],rfl⟩)⟩
 ·exact h.ret hc fun v H h=>hQ v H (.inr h)
theorem IsL.ret2 {e s:Nat} {H:Qb} {v:V} {n:Nat} {cs:List V} (h:IsL e s H v n cs) (hc:∀ g,Qk g cs=cs) {u:V} (hu:∀ g,ren g u=u) {Q:V→Qb→Prop} (hQ:∀ v H,RetL e s H v n cs→Q (.tup [v,u]) H):∃ sel,Qb6 sel Q (.tup [v,u]) H:=by
 rcases h with rfl | h
 ·exact ⟨[],by simp,by simp,by have:=hQ (.sl n cs) [] (.inl ⟨rfl,rfl⟩);simpa [ren,Qk,hc,hu,Qck] using this⟩
 ·exact h.ret2 hc hu fun v H h=>hQ v H (.inr h)
def Xur (e s:Nat) (H:Qb) (v:V) (n:Nat) (cs:List V) (u:V):Prop:=∃ w,v=.tup [w,u]∧RetL e s H w n cs
theorem Fc.own {C:Ctx} {f:FuncId} {args:List V} {H:Qb} {K:V→Qb→Prop} {e s n:Nat} {cs:List V} (h:Fc C f args [] fun v H=>Ret e s H v n cs) (ha:Qh args=true) (hc:∀ g,Qk g cs=cs) (hK:∀ v X,Own e s (H++X) v n cs→K v (H++X)):Fc C f args H K :=
 h.call ha fun v H' hv=>hK _ _ (hv.own hc)
theorem IsL.two {e s:Nat} {H:Qb} {v:V} {n:Nat} {cs:List V} (h:IsL e s H v n cs) (hc:∀ g,Qk g cs=cs) {u:V} (hu:∀ g,ren g u=u):∃ sel,Qb6 sel (fun v H=>Xur e s H v n cs u) (.tup [v,u]) H :=
 h.ret2 hc hu fun v H h=>⟨v,rfl,h⟩
def BorL (H:Qb):List V→List V→Prop
 | [],[]=>True
 | a::l,b::m=>Bor H a b∧BorL H l m
 | _,_=>False
theorem BorL.all {H:Qb}:∀ {l m:List V},BorL H l m→l.length=m.length∧∀ j,Bor H (nth l j) (nth m j)
 | [],[],_=>⟨rfl,fun j=>by simp [nth];exact .clo _ rfl⟩
 | a::l,b::m,h=>by
  obtain ⟨h1,h2⟩:=BorL.all h.2;refine ⟨by simp [h1],fun j=>?_⟩
  cases j with
  | zero=>exact h.1
  | succ j=>exact h2 j
 | [],_::_,h=>h.elim
 | _::_,[],h=>h.elim
theorem Fc.pureL {C:Ctx} {f:FuncId} {args args':List V} {H:Qb} {u:V} {K:V→Qb→Prop} (h:Fc C f args' [] fun v H=>v=u∧H=[]) (hb:BorL H args args') (hu:∀ g,ren g u=u) (hp:plain u=true) (hK:K u H):Fc C f args H K :=
 h.pureB hb.all.1 hb.all.2 hu hp hK
theorem Fc.ownL {C:Ctx} {f:FuncId} {args args':List V} {H:Qb} {K:V→Qb→Prop} {e s n:Nat} {cs:List V} (h:Fc C f args' [] fun v H=>Ret e s H v n cs) (hb:BorL H args args') (hc:∀ g,Qk g cs=cs) (hp:Xt cs=true) (hK:∀ v X,Own e s (H++X) v n cs→K v (H++X)):Fc C f args H K :=
 h.borrow hb.all.1 hb.all.2 (fun v H' hv=>hv.plain hp) fun v H' hv=>hK _ _ (hv.own hc)
theorem Bor.self {H:Qb} {v:V} (h:Bv.clo v=true):Bor H v v:=.clo v h
theorem Pc.pureL {C:Ctx} {H0:Qb} {f:FuncId} {args args':List V} {H:Qb} {u:V} {K:V→Qb→Prop} (h:Fc C f args' [] fun v H=>v=u∧H=[]) (hb:BorL H args args') (hu:∀ g,ren g u=u) (hp:plain u=true) (hK:K u H):Pc C H0 f args H K:=by
 refine Pc.borrow h ⟨u,[],rfl,rfl⟩ hb.all.1 hb.all.2 ?_ ?_
 ·rintro v H' ⟨rfl,rfl⟩;exact ⟨hp,fun r row hr=>by simp at hr⟩
 ·rintro v H' ⟨rfl,rfl⟩;simpa [hu,Qbf] using hK
mutual
def sz (r:Nat) (cs:List V):V→V
 | .any=>.any
 | .int k n=>.int k n
 | .bool b=>.bool b
 | .str s=>.str s
 | .nil=>.nil
 | .sl n l=>.sl n (szL r cs l)
 | .ref q off n=>if q=r then .sl n (cs.drop off) else .ref q off n
 | .agg l=>.agg (szL r cs l)
 | .tup l=>.tup (szL r cs l)
 | .ptr q off=>if q=r then .rp cs off else .ptr q off
 | .nilp=>.nilp
 | .rp l off=>.rp (szL r cs l) off
 | .fn f xs ys=>.fn f (szL r cs xs) (szL r cs ys)
 | .nilf=>.nilf
def szL (r:Nat) (cs:List V):List V→List V
 | []=>[]
 | v::l=>sz r cs v::szL r cs l
end
theorem Ky (r:Nat) (cs l:List V):(szL r cs l).length=l.length:=by
 induction l with
 | nil=>rfl
 | cons a l ih=>simp [szL,ih]
theorem Qbh (r:Nat) (cs l:List V) (j:Nat):nth (szL r cs l) j=sz r cs (nth l j):=by
 induction l generalizing j with
 | nil=>simp [szL,nth,sz]
 | cons a l ih=>cases j<;>simp [szL,nth,ih]
theorem Qdy {im:Nat→Prop} {pl:Nat→Place} {w:World} {H:Qb} (hH:HR im pl w H) {r:Nat} {e s:Nat} {cs:List V} (hrow:Qc H r=some ⟨e,s,cs⟩) (hcs:Qh cs=true) :
  ∃ im1,HR im1 (Qby pl r .dead) w (H.set r none)∧Ext im pl w im1 (Qby pl r .dead) w∧(∀ b,im1 b→im b∨∃ q cap,pl q=.at b cap)∧∀ v c,VR im pl w v c→VR im1 (Qby pl r .dead) w (sz r cs v) c:=by
 have hr:=Yd hrow
 have hlt:=Xg hrow
 let im1:Nat→Prop:=fun b=>im b∨∃ cap,pl r=.at b cap
 have hE:Ext im pl w im1 (Qby pl r .dead) w:=by
  refine ⟨rfl,rfl,rfl,Nat.le_refl _,fun b hb=>.inl hb,fun b hb=>?_,fun q hq=>?_,fun q b cap hq=>.inl ?_,fun _ _ _=>rfl⟩
  ·rcases hb with hb | ⟨cap,hb⟩
   ·exact .inl hb
   ·exact .inr (.inr ⟨r,cap,hb⟩)
  ·by_cases e:q=r
   ·subst e;exact .inr (Xi ..)
   ·exact .inl (Xb _ _ _ _ e)
  ·by_cases e:q=r
   ·subst e;rw [Xi] at hq;cases hq
   ·rw [Xb _ _ _ _ e] at hq;exact ⟨q,cap,hq⟩
 have hat:∀ q b cap,Qby pl r .dead q=.at b cap→q≠r∧pl q=.at b cap:=fun q b cap hq=>by
  by_cases e:q=r
  ·subst e;rw [Xi] at hq;cases hq
  ·rw [Xb _ _ _ _ e] at hq;exact ⟨e,hq⟩
 have hH1:HR im1 (Qby pl r .dead) w (H.set r none):=by
  refine ⟨fun q=>?_,fun b hb q cap hq=>?_,fun q b cap hq=>hH.bound q b cap (hat q b cap hq).2,fun b hb=>?_,fun q q' b c c' h1 h2=>hH.inj q q' b c c' (hat _ _ _ h1).2 (hat _ _ _ h2).2,fun q hq=>?_,fun q hq=>?_,fun q b cap hq=>?_⟩
  ·rw [List.length_set,hH.len];by_cases e:q=r
   ·subst e;rw [Xi];simp;exact (hH.len q).1 hlt
   ·rw [Xb _ _ _ _ e]
  ·obtain ⟨hne,hq⟩:=hat q b cap hq;rcases hb with hb | ⟨cap',hb⟩
   ·exact hH.apart b hb q cap hq
   ·exact hne (hH.inj q r b cap cap' hq hb)
  ·rcases hb with hb | ⟨cap',hb⟩
   ·exact hH.imb b hb
   ·exact hH.bound r b cap' hb
  ·by_cases e:q=r
   ·subst e;rw [List.getElem?_set_self hlt]
   ·rw [Xb _ _ _ _ e] at hq;rw [List.getElem?_set_ne (Ne.symm e)];exact hH.dead q hq
  ·by_cases e:q=r
   ·subst e;rw [Xi] at hq;cases hq
   ·rw [Xb _ _ _ _ e] at hq;rw [List.getElem?_set_ne (Ne.symm e)];exact hH.virt q hq
  ·obtain ⟨hne,hq⟩:=hat q b cap hq;obtain ⟨e,s,cs,cur,k1,k2,k3,k4,k5,k6⟩:=hH.row q b cap hq;exact ⟨e,s,cs,cur,by rw [List.getElem?_set_ne (Ne.symm hne)];exact k1,k2,k3,k4,k5,fun j=>(k6 j).mono hE hH.apart⟩
 refine ⟨im1,hH1,hE,fun b hb=>hb.imp id fun ⟨cap,h⟩=>⟨r,cap,h⟩,fun v c hv=>?_⟩
 induction hv with
 | any v=>exact .any v
 | int k n=>exact .int k n
 | bool b=>exact .bool b
 | str s=>exact .str s
 | nil=>exact .nil
 | sl0 l a c=>exact .sl0 _ a c
 | sl n l ad c vs hn hi hc hr ih=>exact .sl n _ ad c vs hn (.inl hi) (fun j hj=>hc j (by rwa [Ky] at hj)) (fun j=>by rw [Qbh];exact ih j)
 | refAt q off n b cap c hp hc h0 =>
  simp only [sz];split
  ·rename_i e1;subst e1;obtain ⟨e',s',cs0,cur,k1,k2,k3,k4,k5,k6⟩:=hH.row q b cap hp;rw [hr] at k1;injection k1 with k1
   injection k1 with k1
   injection k1 with q1 q2 q3
   subst q3;refine .sl n _ _ c (fun j=>cur.getD (off+j) undef) hc (.inr ⟨cap,hp⟩) (fun i hi=>?_) (fun i=>?_)
   ·rw [Jp]
    have:off+i<cs.length:=by rw [List.length_drop] at hi;omega
    exact Kg k2 (by omega)
   ·rw [Qf2];exact ((k6 _).clo (Ju hcs _)).mono (Ext.mk rfl rfl rfl (Nat.le_refl _) (fun b hb=>.inl hb) (fun b hb=>hE.imn b hb) hE.plo hE.pln hE.frame) hH.apart
  ·rename_i e1;exact .refAt q off n b cap c (by rw [Xb _ _ _ _ e1];exact hp) hc h0
 | refVirt q hp =>
  simp only [sz];split
  ·exact .sl0 _ _ _
  ·rename_i e1;exact .refVirt q (by rw [Xb _ _ _ _ e1];exact hp)
 | refDead q off n a c hp =>
  simp only [sz];split
  ·rename_i e1;subst e1;have:=hH.dead q hp;rw [hr] at this;cases this
  ·rename_i e1;exact .refDead q off n a c (by rw [Xb _ _ _ _ e1];exact hp)
 | agg l vs hl hr ih=>exact .agg _ vs (by rw [Ky];exact hl) (fun j=>by rw [Qbh];exact ih j)
 | tup l vs hl hr ih=>exact .tup _ vs (by rw [Ky];exact hl) (fun j=>by rw [Qbh];exact ih j)
 | ptrAt q off b cap hp =>
  simp only [sz];split
  ·rename_i e1;subst e1;obtain ⟨e',s',cs0,cur,k1,k2,k3,k4,k5,k6⟩:=hH.row q b cap hp;rw [hr] at k1;injection k1 with k1
   injection k1 with k1
   injection k1 with q1 q2 q3
   subst q3
   have:=VR.rp (im:=im1) (pl:=Qby pl q .dead) (w:=w) cs off ⟨b,0,none⟩ (fun j=>cur.getD j undef) (.inr ⟨cap,hp⟩) (fun j hj=>by
    rw [Jp,Nat.zero_add];exact Kg k2 (by omega)) (fun j=>(k6 j).mono hE hH.apart)
   rwa [Jp,Nat.zero_add] at this
  ·rename_i e1;exact .ptrAt q off b cap (by rw [Xb _ _ _ _ e1];exact hp)
 | ptrDead q off a hp =>
  simp only [sz];split
  ·rename_i e1;subst e1;have:=hH.dead q hp;rw [hr] at this;cases this
  ·rename_i e1;exact .ptrDead q off a (by rw [Xb _ _ _ _ e1];exact hp)
 | nilp=>exact .nilp
 | rp l off ad vs hi hc hr ih=>exact .rp _ off ad vs (.inl hi) (fun j hj=>hc j (by rwa [Ky] at hj)) (fun j=>by rw [Qbh];exact ih j)
 | fn f xs ys us vs hl hr hl' hr' ih ih'=>exact .fn f _ _ us vs (by rw [Ky];exact hl) (fun j=>by rw [Qbh];exact ih j) (by rw [Ky];exact hl') (fun j=>by rw [Qbh];exact ih' j)
 | nilf=>exact .nilf
theorem Fc.sealed {C:Ctx} {f:FuncId} {args:List V} {H:Qb} {K:V→Qb→Prop} {r:Nat} {e s:Nat} {cs:List V} (hrow:Qc H r=some ⟨e,s,cs⟩) (hcs:Qh cs=true) (h:Fc C f (szL r cs args) (H.set r none) K):Fc C f args H K:=by
 refine ⟨h.1,fun im pl w vs hvl hv hH=>?_⟩
 obtain ⟨im1,h1,h2,_,h3⟩:=Qdy hH hrow hcs
 have hcall:=h.2 im1 (Qby pl r .dead) w vs (by rw [Ky];exact hvl) (fun j=>by rw [Qbh];exact h3 _ _ (hv j)) h1
 refine (callsIn_wide (n:=0)).1 ((callsIn_wide.2 hcall).mono fun e w' hp=>?_)
 cases e with
 | panicked _=>exact hp
 | outgrown=>exact hp
 | returned vc =>
  obtain ⟨v,H',im',pl',k1,k2,k3,k4⟩:=hp;exact ⟨v,H',im',pl',k1,k2,k3,h2.trans k4⟩
theorem Fc.sealR {C:Ctx} {f:FuncId} {args:List V} {H:Qb} {K:V→Qb→Prop} (h:Fc C f args H fun v H'=>∃ r e s cs,Qc H' r=some ⟨e,s,cs⟩∧Qh cs=true∧K (sz r cs v) (H'.set r none)):Fc C f args H K:=by
 refine ⟨h.1,fun im pl w vs hvl hv hH=>?_⟩
 refine (callsIn_wide (n:=0)).1 ((callsIn_wide.2 (h.2 im pl w vs hvl hv hH)).mono fun e w' hp=>?_)
 cases e with
 | panicked _=>exact hp
 | outgrown=>exact hp
 | returned vc =>
  obtain ⟨v,H',im',pl',⟨r,e,s,cs,hrow,hcs,hK⟩,k2,k3,k4⟩:=hp;obtain ⟨im1,h1,h2,_,h3⟩:=Qdy k3 hrow hcs;exact ⟨_,_,im1,_,hK,h3 _ _ k2,h1,k4.trans h2⟩
theorem Xry {C:Ctx} {ro:Option Nat} {c:Code} {Q:Exit→List V→Qb→Prop} {ts:List V} {H:Qb} {r:Nat} {e s:Nat} {cs:List V} (hrow:Qc H r=some ⟨e,s,cs⟩) (hcs:Qh cs=true) (h:T C ro c Q (szL r cs ts) (H.set r none)):T C ro c Q ts H:=by
 intro im pl w a hr;obtain ⟨im1,h1,h2,_,h3⟩:=Qdy hr.hr hrow hcs;refine wpIn_mono (h im1 (Qby pl r .dead) w a ⟨⟨by rw [Ky];exact hr.tr.1,fun i=>by rw [Qbh];exact h3 _ _ (hr.tr.2 i)⟩,h1,hr.df.mono h2⟩) fun e a' w' hp=>?_
 exact hp.from h2 (.refl _ _)
theorem Qtz {C:Ctx} {ro:Option Nat} {t:Tr} {Q:Exit→List V→Qb→Prop} {ts:List V} {H:Qb} {r:Nat} {e s:Nat} {cs:List V} (hrow:Qc H r=some ⟨e,s,cs⟩) (hcs:Qh cs=true) (h:TT C ro t Q (szL r cs ts) (H.set r none)):TT C ro t Q ts H:=fun c hc=>Xry hrow hcs (h c hc)
theorem Qr0 (r:Nat) (cs:List V) (N:Nat) (l:List (Nat × V)):szL r cs (env N l)=env N (l.map fun p=>(p.1,sz r cs p.2)):=by
 refine Qkj (by rw [Ky,Kf,Kf]) fun j=>?_
 rw [Qbh,Qe5,Qe5];unfold cif;split
 ·induction l with
  | nil=>simp [Qvi,sz]
  | cons p l ih =>
   obtain ⟨i,v⟩:=p;simp only [List.map_cons,Qie];cases hb:(i==j) with
   | true=>rfl
   | false=>exact ih
 ·simp [sz]
theorem Fc.val {C:Ctx} {f:FuncId} {args:List V} {Q:V→Qb→Prop} {u:V} (hu:clo u=true) (h:Fc C f args [] Q)
  (hv:∀ im pl w v H c,Q v H→VR im pl w v c→HR im pl w H→∃ im1 pl1 H1,HR im1 pl1 w H1∧Ext im pl w im1 pl1 w∧VR im1 pl1 w u c):Pu C f args u:=by
 refine ⟨h.1,fun im pl w vs hl hvs hH=>?_⟩
 have hno:pl=Qax:=by
  funext r
  have:=hH.len r
  cases hp:pl r with
  | no=>rfl
  | _=>rw [hp] at this;simp at this
 subst hno;refine (callsIn_wide (n:=0)).1 ((callsIn_wide.2 (h.2 im Qax w vs hl hvs hH)).mono fun e w' hp=>?_)
 cases e with
 | panicked _=>exact hp
 | outgrown=>exact hp
 | returned vc =>
  obtain ⟨v,H',im',pl',k1,k2,k3,k4⟩:=hp;obtain ⟨im1,pl1,H1,q1,q2,q3⟩:=hv _ _ _ _ _ _ k1 k2 k3
  have:=q1.sel (k4.trans q2) [] (by simp) (by simp)
  exact ⟨u,[],im1,_,⟨rfl,rfl⟩,q3.clo hu,this.1,this.2⟩
theorem RetL.val {e s n:Nat} {cs:List V} {v:V} {H:Qb} (h:RetL e s H v n cs) (hc:Qh cs=true) {im:Nat→Prop} {pl:Nat→Place} {w:World} (hH:HR im pl w H) :
  ∃ im1 pl1 H1,HR im1 pl1 w H1∧Ext im pl w im1 pl1 w∧(∀ c,VR im pl w v c→VR im1 pl1 w (.sl n cs) c)∧∀ u c,clo u=true→VR im pl w u c→VR im1 pl1 w u c:=by
 rcases h with ⟨rfl,rfl⟩ | ⟨rfl,rfl,rfl,rfl⟩ | ⟨rfl,rfl,hl⟩
 ·exact ⟨im,pl,[],hH,.refl _ _ _,fun c hv=>hv,fun u c _ hv=>hv⟩
 ·exact ⟨im,pl,[],hH,.refl _ _ _,fun c hv=>by cases hv;exact .sl0 _ _ _,fun u c _ hv=>hv⟩
 ·obtain ⟨im1,h1,h2,_,h3⟩:=Qdy hH (r:=0) (by rfl) hc
  refine ⟨im1,_,_,h1,h2,fun c hv=>?_,fun u c _ hv=>hv.mono h2 hH.apart⟩
  have:=h3 _ _ hv
  simpa [sz] using this
theorem Fc.valL {C:Ctx} {f:FuncId} {args:List V} {e s n:Nat} {cs:List V} (h:Fc C f args [] fun v H=>RetL e s H v n cs) (hc:Qh cs=true):Pu C f args (.sl n cs) :=
 h.val (by simpa [clo] using hc) fun im pl w v H c hq hv hH=>by
  obtain ⟨im1,pl1,H1,q1,q2,q3,_⟩:=hq.val hc hH;exact ⟨im1,pl1,H1,q1,q2,q3 c hv⟩
theorem Fc.valO {C:Ctx} {f:FuncId} {args:List V} {e s n:Nat} {cs:List V} (h:Fc C f args [] fun v H=>Ret e s H v n cs) (hc:Qh cs=true):Pu C f args (.sl n cs) :=
 Fc.valL (h.mono fun v H hv=>.inr hv) hc
end Go.Bv
end
