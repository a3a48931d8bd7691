/-
  Parts Bv15, Bv16, Bv17, Bv27, Bv32, Bv33, Bv34, one behind the other: a program logic of our own, contracts of functions.
-/
import Derived.Test.YtepjcbnpbcmfcaaGreatQ1
import Derived.OrdersIn

set_option linter.unusedVariables false
set_option linter.unusedSimpArgs false
set_option maxRecDepth 100000
set_option maxHeartbeats 8000000
section
namespace Go.Bv
open Go.RowKit
def Same (H0 H:Qa):Prop:=∀ r row,Qc H0 r=some row→Qc H r=some row
def Stand (H0 H:Qa):Prop:=∀ r,(Qc H0 r).isSome=true→(Qc H r).isSome=true
theorem Same.stand {H0 H:Qa} (h:Same H0 H):Stand H0 H:=fun r hr=>by
 obtain ⟨row,hrow⟩:=Option.isSome_iff_exists.1 hr;rw [h r row hrow];rfl
theorem Same.refl (H:Qa):Same H H:=fun _ _ h=>h
theorem Same.trans {H0 H1 H2:Qa} (h:Same H0 H1) (k:Same H1 H2):Same H0 H2:=fun r row hr=>k r row (h r row hr)
theorem Stand.trans {H0 H1 H2:Qa} (h:Stand H0 H1) (k:Stand H1 H2):Stand H0 H2:=fun r hr=>k r (h r hr)
theorem Same.app (H X:Qa):Same H (H++X):=fun r row hr=>by
 have h1:=Xh hr
 have hlt:r<H.length:=(List.getElem?_eq_some_iff.1 h1).1
 simp only [Qc,List.getElem?_append_left hlt,h1];rfl
theorem Stand.set (H:Qa) (r:Nat) (row:Row):Stand H (H.set r (some row)):=fun q hq=>by
 obtain ⟨x,hx⟩:=Option.isSome_iff_exists.1 hq
 have h1:=Xh hx
 have hlt:q<H.length:=(List.getElem?_eq_some_iff.1 h1).1
 simp only [Qc,List.getElem?_set];split
 ·rename_i e;subst e;simp [hlt]
 ·rw [h1];rfl
def Kp (H0 H H':Qa):Prop:=(Same H0 H→Same H0 H')∧(Stand H0 H→Stand H0 H')
theorem Kp.of {H0 H H':Qa} (h:Same H H'):Kp H0 H H':=⟨fun h0=>h0.trans h,fun h0=>h0.trans h.stand⟩
theorem Kp.refl (H0 H:Qa):Kp H0 H H:=⟨id,id⟩
def Pc (C:Ctx) (H0:Qa) (f:FuncId) (args:List V) (H:Qa) (K:V→Qa→Prop):Prop :=
 (∃ Q,Fc C f args H Q∧(∃ v H',Q v H')∧∀ v H',Q v H'→Kp H0 H H'∧K v H')∨∃ args' Q,Fc C f args' [] Q∧(∃ v H',Q v H')∧((args'=args∧Qf args=true)∨(args.length=args'.length∧(∀ j,Bor H (nth args j) (nth args' j))∧∀ v H',Q v H'→plain v=true∧Jb H')) ∧
  ∀ v H',Q v H'→K (ren (shift H.length) v) (H++Qbs (shift H.length) H')
def cwP (C:Ctx) (H0:Qa):CW:=fun fv args H K =>
 match fv with
 | .fn (.func g) first caps=>Pc C H0 g (first++args++caps) H K
 | _=>False
theorem Pc.fc {C:Ctx} {H0:Qa} {f:FuncId} {args:List V} {H:Qa} {K:V→Qa→Prop} (h:Pc C H0 f args H K):Fc C f args H K:=by
 rcases h with ⟨Q,h1,_,h2⟩ | ⟨args',Q,h1,_,h2,h3⟩
 ·exact h1.mono fun v H' hq=>(h2 v H' hq).2
 rcases h2 with ⟨rfl,hc⟩ | ⟨hl,hb,hp⟩
 ·exact h1.call hc h3
 ·exact h1.borrow hl hb hp h3
theorem Qcd (C:Ctx) (H0:Qa) (ro:Option Nat):Qga C ro (cwP C H0):=by
 intro o c f ho hc im pl w a fv args H K next Q h
 have h':cwF C fv args H K:=by
  unfold cwP at h;split at h
  ·exact h.fc
  ·exact h.elim
 exact Je C ro o c f ho hc im pl w a fv args H K next Q h'
structure CWok (cw:CW) (H0:Qa):Prop where
 mono:∀ {fv args H K K'},(∀ v H',K v H'→K' v H')→cw fv args H K→cw fv args H K'
 strict:∀ {fv args H p},(cw fv args H fun _ _=>p)→p
 new:∀ {fv args H K},cw fv args H K→cw fv args H fun v H'=>Kp H0 H H'∧K v H'
def Xj:Op→Bool
 | .alloc _ | .box _ _ | .makeSlice _ _ _ | .store _ _ _=>true
 | .buildSlice _ _ ps=>!Qeq ps.toList
 | .call c=>match c.callee with
  | .builtin .len | .builtin .min | .builtin .max=>false
  | _=>true
 | _=>false
def Yv:Op→Bool
 | .store _ _ _=>true
 | _=>false
def Xp:Op→Bool
 | .load _ _=>true
 | _=>false
def Yw:Op→Bool
 | .move _ | .assign _ | .pick _ _ _ | .unOp _ _ _ | .convert _ _ _ | .makeFunc _ _ _ | .extract _ _ | .nilCheck _ | .build _ _ | .slice _ _ _ _ none | .fieldAddr _ _ _ | .field _ _ _ | .indexAddr _ _ _ | .index _ _ _=>true
 | .lookup _ _ _ _=>true
 | .binOp _ _ _ _ _=>true
 | .buildSlice _ _ ps=>Qeq ps.toList
 | .call c=>match c.callee with
  | .builtin .len | .builtin .min | .builtin .max=>true
  | _=>false
 | _=>false
def Qfe (c:Call):Bool:=match c.args.toList with
 | .const (.slice none 0 0)::_=>true
 | _=>false
def Qcm:Op→Bool
 | .alloc _ | .box _ _ | .makeSlice _ _ _=>true
 | .buildSlice _ _ ps=>!Qeq ps.toList
 | .call c=>match c.callee with
  | .value _=>true
  | .builtin .append=>Qfe c
  | _=>false
 | _=>false
def Qgi:Op→Bool
 | .call c=>match c.callee with
  | .builtin .append=>!Qfe c
  | .builtin .copy=>true
  | _=>false
 | _=>false
def Zq:Op→Bool
 | .move _ | .assign _ | .pick _ _ _ | .unOp _ _ _ | .convert _ _ _ | .makeFunc _ _ _ | .extract _ _ | .nilCheck _ | .build _ _ | .fieldAddr _ _ _ | .field _ _ _ | .index _ _ _=>true
 | .lookup _ _ _ _=>true
 | .binOp _ _ _ _ _=>true
 | .buildSlice _ _ ps=>Qeq ps.toList
 | .call c=>match c.callee with
  | .builtin .len=>true
  | _=>false
 | _=>false
def Qcl:V→Bool
 | .nil=>false
 | _=>true
def Zp (op:Op) (ts:List V):Prop:=match op with
 | .binOp _ _ _ y _=>Qcl (ev ts y)=true
 | _=>True
def opd (C:Ctx) (cw:CW) (op:Op) (ts:List V) (H0 H:Qa) (K:V→Qa→Prop):Prop :=
 if Xj op then opc C.ty cw op ts H K else Zp op ts∧opc C.ty cw op ts H0 fun v _=>K v H
def Kx (C:Ctx) (cw:CW) (ops:Array Oper) (H0:Qa) (K:List V→Qa→Prop):List Oper→List V→Qa→Prop
 | [],ts,H=>K ts H
 | o::rest,ts,H=>Qbz ops o.guard ts (fun ts=>opd C cw o.op ts H0 H fun v H'=>Kx C cw ops H0 K rest (Xi ts o.dst v) H') (fun ts=>Kx C cw ops H0 K rest (Xi ts o.dst (.tup [])) H)
def tro (C:Ctx) (cw:CW) (ops:Array Oper) (H0:Qa) (o:Oper) (ts:List V) (H:Qa) (K:V→Qa→Prop):Prop :=
 Qbg ops o.guard ts (opd C cw o.op ts H0 H K) (K (.tup []) H)
theorem Quj {ty:TypeId→Ty} {t:TypeId} {l c:V} {H:Qa} {K K':V→Qa→Prop} (hK:∀ v H',K v H'→K' v H') (h:Qdd ty t l c H K):Qdd ty t l c H K':=by
 revert h
 unfold Qdd;split
 ·rintro ⟨h1,h2,h3,h4,h5,h6⟩;exact ⟨h1,h2,h3,h4,h5,hK _ _ h6⟩
 ·exact id
theorem Xau {y:Ty} {e:TypeId} {s x:V} {H:Qa} {K K':V→Qa→Prop} (hK:∀ v H',K v H'→K' v H') (h:Qaa y e s x H K):Qaa y e s x H K':=by
 revert h
 unfold Qaa;split
 ·exact id
 ·rintro ⟨h1,h2,h3,h4,h5⟩;refine ⟨h1,h2,h3,h4, ?_⟩
  revert h5
  split
  ·exact fun h=>⟨h.1,hK _ _ h.2⟩
  ·split
   ·exact fun h=>⟨h.1,h.2.1,h.2.2.1,h.2.2.2.1,h.2.2.2.2.1,hK _ _ h.2.2.2.2.2⟩
   ·exact id
  ·exact fun h=>⟨h.1,hK _ _ h.2⟩
  ·exact id
theorem Qsq {y:Ty} {e:TypeId} {s x:V} {H:Qa} {p:Prop} (h:Qaa y e s x H fun _ _=>p):p:=by
 revert h
 unfold Qaa;split
 ·exact fun h=>h.elim
 ·rintro ⟨h1,h2,h3,h4,h5⟩
  revert h5
  split
  ·exact fun h=>h.2
  ·split
   ·exact fun h=>h.2.2.2.2.2
   ·exact fun h=>h.elim
  ·exact fun h=>h.2
  ·exact fun h=>h.elim
theorem Qa2 {ty:TypeId→Ty} {ats:List TypeId} {args:List V} {H:Qa} {K K':V→Qa→Prop} (hK:∀ v H',K v H'→K' v H') (h:Qm ty .append ats args H K):Qm ty .append ats args H K':=by
 match ats,args with
 | [t,t'],[s,x] =>
  simp only [Qm] at h ⊢;obtain ⟨h1,h2,h3⟩:=h;refine ⟨h1,h2, ?_⟩
  revert h3
  split
  ·exact fun h=>⟨h.1,Xau hK h.2⟩
  ·exact id
 | [],_=>simp [Qm] at h
 | [_],_=>simp [Qm] at h
 | _::_::_::_,_=>simp [Qm] at h
 | [_,_],[]=>simp [Qm] at h
 | [_,_],[_]=>simp [Qm] at h
 | [_,_],_::_::_::_=>simp [Qm] at h
theorem Kv {ty:TypeId→Ty} {ats:List TypeId} {args:List V} {H:Qa} {p:Prop} (h:Qm ty .append ats args H fun _ _=>p):p:=by
 match ats,args with
 | [t,t'],[s,x] =>
  simp only [Qm] at h;obtain ⟨h1,h2,h3⟩:=h
  revert h3
  split
  ·exact fun h=>Qsq h.2
  ·exact fun h=>h.elim
 | [],_=>simp [Qm] at h
 | [_],_=>simp [Qm] at h
 | _::_::_::_,_=>simp [Qm] at h
 | [_,_],[]=>simp [Qm] at h
 | [_,_],[_]=>simp [Qm] at h
 | [_,_],_::_::_::_=>simp [Qm] at h
theorem Xfu {y:Ty} {e:TypeId} {x:V} {HH H:Qa} {K:V→Qa→Prop} (h:Qaa y e .nil x H K):Qaa y e .nil x H fun v H'=>Kp HH H H'∧K v H':=by
 revert h
 unfold Qaa;split
 ·exact id
 ·rintro ⟨h1,h2,h3,h4,h5,h6⟩;exact ⟨h1,h2,h3,h4,h5,.of (.app _ _),h6⟩
theorem Qi3 {ty:TypeId→Ty} {ats:List TypeId} {args:List V} {HH H:Qa} {K:V→Qa→Prop} (h:Qm ty .append ats (.nil::args) H K):Qm ty .append ats (.nil::args) H fun v H'=>Kp HH H H'∧K v H':=by
 match ats,args with
 | [t,t'],[x] =>
  simp only [Qm] at h ⊢;obtain ⟨h1,h2,h3⟩:=h;refine ⟨h1,h2, ?_⟩
  revert h3
  split
  ·exact fun h=>⟨h.1,Xfu h.2⟩
  ·exact id
 | [],_=>simp [Qm] at h
 | [_],_=>simp [Qm] at h
 | _::_::_::_,_=>simp [Qm] at h
 | [_,_],[]=>simp [Qm] at h
 | [_,_],_::_::_=>simp [Qm] at h
theorem Qmh {c:Call} (h:Qfe c=true) (ts:List V):∃ l,c.args.toList.map (ev ts)=.nil::l:=by
 unfold Qfe at h;split at h
 ·rename_i l hl;exact ⟨_,by rw [hl];rfl⟩
 ·cases h
theorem Qdp {c:Call} {b:Builtin} (hc:c.callee=.builtin b) (h:Qcm (.call c)=true):b=.append∧Qfe c=true:=by
 simp only [Qcm,hc] at h;split at h
 ·rename_i hh;cases hh
 ·rename_i hh;injection hh with hh;exact ⟨hh,h⟩
 ·cases h
theorem Qk5 {C:Ctx} {cw:CW} {HH:Qa} (hcw:CWok cw HH) {op:Op} {ts:List V} {H:Qa} {K K':V→Qa→Prop} (hn:Qcm op=true∨Yv op=true) (hK:∀ v H',K v H'→K' v H') (h:opc C.ty cw op ts H K):opc C.ty cw op ts H K':=by
 cases op with
 | alloc t=>exact ⟨h.1,hK _ _ h.2⟩
 | box t x=>exact ⟨h.1,hK _ _ h.2⟩
 | buildSlice t n ps =>
  have hb:Qeq ps.toList=false:=by simpa [Qcm,Yv] using hn
  simp only [opc,opw,hb,Qol,Qdg] at h ⊢;refine ⟨h.1, ?_⟩
  have h:=h.2
  unfold bso at h ⊢;split
  ·rename_i e he;rw [he] at h;obtain ⟨h1,h2,h3,h4⟩:=h;refine ⟨h1,h2,h3, ?_⟩;unfold Qeo at h4 ⊢;split
   ·rename_i l hl;rw [hl] at h4;exact hK _ _ h4
   ·rename_i hl;rw [hl] at h4;exact h4
  ·rename_i he;rw [he] at h;exact h
 | makeSlice t l c =>
  simp only [opc,opw] at h ⊢;refine ⟨h.1, ?_⟩;exact Quj hK h.2
 | store t x v =>
  simp only [opc,opw] at h ⊢;refine ⟨h.1, ?_⟩
  have h:=h.2
  unfold Qbb at h ⊢;split
  ·rename_i r off hx;simp only [hx] at h;split
   ·rename_i row hrow;simp only [hrow] at h;exact ⟨h.1,h.2.1,h.2.2.1,hK _ _ h.2.2.2⟩
   ·rename_i hrow;simp only [hrow] at h
  ·rename_i hne;split at h
   ·rename_i r off hx;exact (hne _ _ hx).elim
   ·exact h
 | call c =>
  simp only [opc] at h ⊢;cases hc:c.callee with
  | value f =>
   rw [hc] at h;exact hcw.mono hK h
  | builtin b =>
   rw [hc] at h;obtain ⟨rfl,_⟩:=Qdp hc (hn.resolve_right (by simp [Yv]))
   exact Qa2 hK h
  | invoke _ _=>simp [Qcm,Yv,hc] at hn
 | _=>simp [Qcm,Yv] at hn
theorem Qt7 {C:Ctx} {cw:CW} {HH:Qa} (hcw:CWok cw HH) {op:Op} {ts:List V} {H:Qa} {p:Prop} (hn:Qcm op=true∨Yv op=true) (h:opc C.ty cw op ts H fun _ _=>p):p:=by
 cases op with
 | alloc t=>exact h.2
 | box t x=>exact h.2
 | buildSlice t n ps =>
  have hb:Qeq ps.toList=false:=by simpa [Qcm,Yv] using hn
  simp only [opc,opw,hb,Qol,Qdg] at h
  have h:=h.2
  unfold bso at h;split at h
  ·obtain ⟨h1,h2,h3,h4⟩:=h;unfold Qeo at h4;split at h4
   ·exact h4
   ·exact h4.elim
  ·exact h.elim
 | makeSlice t l c =>
  simp only [opc,opw] at h
  have h:=h.2
  unfold Qdd at h;split at h
  ·exact h.2.2.2.2.2
  ·exact h.elim
 | store t x v =>
  simp only [opc,opw] at h
  have h:=h.2
  unfold Qbb at h;split at h
  ·split at h
   ·exact h.2.2.2
   ·exact h.elim
  ·exact h.elim
 | call c =>
  simp only [opc] at h;cases hc:c.callee with
  | value f =>
   rw [hc] at h;exact hcw.strict h
  | builtin b =>
   rw [hc] at h;obtain ⟨rfl,_⟩:=Qdp hc (hn.resolve_right (by simp [Yv]))
   exact Kv h
  | invoke _ _=>simp [Qcm,Yv,hc] at hn
 | _=>simp [Qcm,Yv] at hn
def Det (F:(V→Prop)→Prop):Prop:=∃ (p:Prop) (v:V),∀ k:V→Prop,F k↔(p∧k v)
theorem Det.of {F:(V→Prop)→Prop} (v:V) (h:∀ k,F k↔k v):Det F:=⟨True,v,fun k=>by simp [h]⟩
theorem Det.no {F:(V→Prop)→Prop} (h:∀ k,¬ F k):Det F:=⟨False,.any,fun k=>⟨fun h'=>(h k h').elim,fun h'=>h'.1.elim⟩⟩
theorem Det.and {F:(V→Prop)→Prop} {G:(V→Prop)→Prop} {q:Prop} (h:Det F) (hg:∀ k,G k↔(q∧F k)):Det G:=by
 obtain ⟨p,v,h⟩:=h;exact ⟨q∧p,v,fun k=>by rw [hg,h,and_assoc]⟩
theorem Det.two {F:(V→Prop)→Prop} (q:Prop) (x y:V) (h:∀ k,F k↔((q→k x)∧(¬ q→k y))):Det F:=by
 by_cases hq:q
 ·exact .of x fun k=>by rw [h];exact ⟨fun h=>h.1 hq,fun h=>⟨fun _=>h,fun h'=>(h' hq).elim⟩⟩
 ·exact .of y fun k=>by rw [h];exact ⟨fun h=>h.2 hq,fun h=>⟨fun h'=>(hq h').elim,fun _=>h⟩⟩
theorem Qyw (c a b:V):Det (Qge c a b):=by
 cases c with
 | bool t=>exact .two (t=true) a b fun k=>by cases t<;>simp [Qge]
 | _=>exact .no fun k h=>h
theorem Xei (op:BinOp) (k k':IntKind) (a b:Int):Det (Zv op k a k' b):=by
 cases op<;>first
  | exact .no fun k h=>h
  | exact .and (q:=k=k') (.of _ fun _=>Iff.rfl) fun _=>Iff.rfl
  | exact .and (q:=k=k') (.and (q:=b≠0) (.of _ fun _=>Iff.rfl) fun _=>Iff.rfl) fun _=>Iff.rfl
  | exact .and (q:=0≤b) (.of _ fun _=>Iff.rfl) fun _=>Iff.rfl
theorem Qsm (y:Ty) (op:BinOp) (a b:V) (H:Qa) (hb:Qcl b=true):Det (Qc2 y op a b H):=by
 cases b with
 | int k' b' =>
  cases a with
  | int k a'=>exact Xei op k k' a' b'
  | _=>exact .no fun k h=>h
 | bool b' =>
  cases a with
  | bool a' =>
   cases op<;>first
    | exact .no fun k h=>h.2
    | exact .and (q:=y.bl=true) (.of _ fun _=>Iff.rfl) fun _=>Iff.rfl
  | _=>exact .no fun k h=>h
 | str b' =>
  cases a with
  | str a' =>
   cases op<;>first
    | exact .no fun k h=>h
    | exact .of _ fun _=>Iff.rfl
  | _=>exact .no fun k h=>h
 | nil=>cases hb
 | _=>cases a<;>exact .no fun k h=>h
theorem Qzt (y:Ty) (x:V) (H:Qa):Det (Qbv y x H):=by
 cases x with
 | rp cs off=>exact .and (.of _ fun _=>Iff.rfl) fun _=>Iff.rfl
 | ptr r off =>
  cases hrow:Qc H r with
  | none=>exact .no fun k h=>by simp only [Qbv,hrow] at h
  | some row=>exact .and (q:=off+y.size≤row.cs.length) (.of (Qgt y row.cs off) fun _=>Iff.rfl) fun k=>by simp only [Qbv,hrow]
 | _=>exact .no fun k h=>h
theorem Xgz (op:UnOp) (x:V):Det (unw op x):=by
 cases op<;>cases x<;>first
  | exact .no fun k h=>h
  | exact .of _ fun _=>Iff.rfl
theorem Xaj (y:Ty) (x:V):Det (Qct y x):=by
 cases hk:y.ik with
 | none=>exact .no fun k h=>by simp [Qct,hk] at h
 | some ik =>
  cases x with
  | int k n=>exact .of (.int ik (ik.wrap n)) fun k=>by simp [Qct,hk]
  | _=>exact .no fun k h=>by simp [Qct,hk] at h
theorem Xex (x:V) (i:Nat):Det (Qpa x i):=by
 cases x with
 | tup vs=>exact .and (.of _ fun _=>Iff.rfl) fun _=>Iff.rfl
 | _=>exact .no fun k h=>h
theorem Xdf (x:V):Det (Qk8 x):=by
 cases x with
 | ptr r off=>exact .of _ fun _=>Iff.rfl
 | rp cs off=>exact .of _ fun _=>Iff.rfl
 | fn f xs ys=>cases f<;>first | exact .of _ fun _=>Iff.rfl | exact .no fun k h=>h
 | _=>exact .no fun k h=>h
theorem Qw7 (ty:TypeId→Ty) (f:Option (Nat × Nat)) (g:Nat→V):Det fun k=>fao ty f fun o=>k (g o):=by
 cases f with
 | none=>exact .no fun k h=>h
 | some p=>obtain ⟨o,u⟩:=p;exact .and (.and (.of _ fun _=>Iff.rfl) fun _=>Iff.rfl) fun _=>Iff.rfl
theorem Xiy (ty:TypeId→Ty) (f:Option (Nat × Nat)) (x:V):Det (faw ty f x):=by
 cases x with
 | ptr r off=>exact Qw7 ty f _
 | rp cs off=>exact Qw7 ty f _
 | _=>exact .no fun k h=>h
theorem Qu2 (ty:TypeId→Ty) (y:Ty) (x:V) (f:Nat):Det (Qbi ty y x f):=by
 cases hf:y.fs[f]? with
 | none=>exact .no fun k h=>by simp [Qbi,hf] at h
 | some p =>
  obtain ⟨o,u⟩:=p;cases x with
  | agg cs=>exact .and (q:=(ty u).ok=true) (.and (q:=o+(ty u).size≤cs.length) (.of (Qgt (ty u) cs o) fun _=>Iff.rfl) fun _=>Iff.rfl) fun k=>by simp only [Qbi,hf]
  | _=>exact .no fun k h=>by simp [Qbi,hf] at h
theorem Xem (ty:TypeId→Ty) (y:Ty) (x i:V) (H:Qa):Det (Qlk ty y x i H):=by
 refine .and (F:=Xr ty y x i) ?_ fun _=>Iff.rfl
 cases i with
 | int k i =>
  cases hs:y.sl with
  | some e =>
   cases x with
   | sl n cs=>exact .and (q:=(ty e).ok=true) (.and (q:=0≤i) (.and (q:=i<n) (.of (.rp cs (i.toNat*(ty e).size)) fun _=>Iff.rfl) fun _=>Iff.rfl) fun _=>Iff.rfl) fun k=>by simp only [Xr,hs]
   | ref r off n=>exact .and (q:=(ty e).ok=true) (.and (q:=0≤i) (.and (q:=i<n) (.of (.ptr r (off+i.toNat*(ty e).size)) fun _=>Iff.rfl) fun _=>Iff.rfl) fun _=>Iff.rfl) fun k=>by simp only [Xr,hs]
   | ptr r off =>
    cases ha:y.arr with
    | none=>exact .no fun k h=>by simp [Xr,hs,ha] at h
    | some p=>obtain ⟨n,e'⟩:=p;exact .and (q:=(ty e').ok=true) (.and (q:=0≤i) (.and (q:=i<n) (.of (.ptr r (off+i.toNat*(ty e').size)) fun _=>Iff.rfl) fun _=>Iff.rfl) fun _=>Iff.rfl) fun k=>by simp only [Xr,hs,ha]
   | _=>exact .no fun k h=>by simp [Xr,hs] at h
  | none =>
   cases x with
   | ptr r off =>
    cases ha:y.arr with
    | none=>exact .no fun k h=>by simp [Xr,hs,ha] at h
    | some p=>obtain ⟨n,e'⟩:=p;exact .and (q:=(ty e').ok=true) (.and (q:=0≤i) (.and (q:=i<n) (.of (.ptr r (off+i.toNat*(ty e').size)) fun _=>Iff.rfl) fun _=>Iff.rfl) fun _=>Iff.rfl) fun k=>by simp only [Xr,hs,ha]
   | _=>exact .no fun k h=>by simp [Xr,hs] at h
 | _=>exact .no fun k h=>h
theorem Quv (ty:TypeId→Ty) (y:Ty) (x i:V):Det (Jx ty y x i):=by
 cases ha:y.arr with
 | none =>
  cases x with
  | str s =>
   cases i with
   | int k i=>exact .and (q:=y.str=true) (.and (q:=0≤i) (.and (q:=i.toNat<s.size) (.of (.int .u8 ((s[i.toNat]?.getD 0).toNat:Int)) fun _=>Iff.rfl) fun _=>Iff.rfl) fun _=>Iff.rfl) fun k=>by simp only [Jx,ha]
   | _=>exact .no fun k h=>by simp [Jx,ha] at h
  | _=>exact .no fun k h=>by simp [Jx,ha] at h
 | some p =>
  obtain ⟨n,e⟩:=p;cases x with
  | agg cs =>
   cases i with
   | int k i=>exact .and (q:=(ty e).ok=true) (.and (q:=0≤i) (.and (q:=i<n) (.and (q:=i.toNat*(ty e).size+(ty e).size≤cs.length) (.of (Qgt (ty e) cs (i.toNat*(ty e).size)) fun _=>Iff.rfl) fun _=>Iff.rfl) fun _=>Iff.rfl) fun _=>Iff.rfl) fun k=>by simp only [Jx,ha]
   | _=>exact .no fun k h=>by simp [Jx,ha] at h
  | _=>exact .no fun k h=>by simp [Jx,ha] at h
theorem Qvm (ty:TypeId→Ty) (t:TypeId) (ps:List (Nat × V)):Det (Qa3 ty t ps):=by
 have e:Qa3 ty t ps=fun KP=>bwo ty (ty t).arr t ps KP:=by funext KP;rw [Qnw]
 rw [e];cases (ty t).arr with
 | none =>
  refine .and (.and (F:=fun k=>Qeo (Zn (fun i=>((ty t).fs[i]?).map fun p=>(p.1,(ty p.2).size)) (Xb (ty t)) ps) fun out=>k (.agg out)) ?_ fun _=>Iff.rfl) fun _=>Iff.rfl
  cases Zn (fun i=>((ty t).fs[i]?).map fun p=>(p.1,(ty p.2).size)) (Xb (ty t)) ps with
  | none=>exact .no fun k h=>h
  | some l=>exact .of _ fun _=>Iff.rfl
 | some ne =>
  obtain ⟨n,e⟩:=ne;refine .and (F:=fun k=>Qeo (Zn (fun i=>some (i*(ty e).size,(ty e).size)) (Xb (ty t)) ps) fun out=>k (.agg out)) ?_ fun _=>Iff.rfl
  cases Zn (fun i=>some (i*(ty e).size,(ty e).size)) (Xb (ty t)) ps with
  | none=>exact .no fun k h=>h
  | some l=>exact .of _ fun _=>Iff.rfl
theorem Xd0 (y:Ty) (x:V):Det (lenw y x):=by
 cases x with
 | sl n cs=>exact .and (.of _ fun _=>Iff.rfl) fun _=>Iff.rfl
 | ref r off n=>exact .and (.of _ fun _=>Iff.rfl) fun _=>Iff.rfl
 | nil=>exact .and (.of _ fun _=>Iff.rfl) fun _=>Iff.rfl
 | str s=>exact .and (.of _ fun _=>Iff.rfl) fun _=>Iff.rfl
 | _=>exact .no fun k h=>h
theorem Qtf (ty:TypeId→Ty) (y:Ty) (x:V) (lo hi:Option V) (H:Qa):Det (Xf ty y x lo hi H):=by
 cases hs:y.sl with
 | none=>exact .no fun k h=>by simp [Xf,hs] at h
 | some e =>
  have main:∀ {F:(V→Prop)→Prop},Det F→(∀ k,Xf ty y x lo hi H k↔((ty e).ok=true∧0<(ty e).size∧F k))→Det (Xf ty y x lo hi H):=fun h hk=>.and (.and h fun _=>Iff.rfl) fun k=>by rw [hk]
  cases lo with
  | none =>
   cases hi with
   | none=>exact .no fun k h=>by simp [Xf,hs] at h
   | some v =>
    cases v with
    | int kk h =>
     cases x with
     | sl n cs=>exact main (F:=fun k=>0≤h∧h≤n∧k (.sl h.toNat (cs.take (h.toNat*(ty e).size)))) (.and (.and (.of _ fun _=>Iff.rfl) fun _=>Iff.rfl) fun _=>Iff.rfl) fun k=>by simp only [Xf,hs]
     | ref r off n=>exact main (F:=fun k=>0≤h∧(Qc H r).isSome=true∧h≤n∧(h=0→k (.sl 0 []))∧(h≠0→k (.ref r off h.toNat))) (.and (.and (.and (.two (h=0) _ _ fun _=>Iff.rfl) fun _=>Iff.rfl) fun _=>Iff.rfl) fun _=>Iff.rfl) fun k=>by simp only [Xf,hs]
     | nil=>exact main (F:=fun k=>0≤h∧h=0∧k .nil) (.and (.and (.of _ fun _=>Iff.rfl) fun _=>Iff.rfl) fun _=>Iff.rfl) fun k=>by simp only [Xf,hs]
     | _=>exact .no fun k h=>by simp [Xf,hs] at h
    | _=>exact .no fun k h=>by simp [Xf,hs] at h
  | some u =>
   cases u with
   | int k0 l =>
    cases hi with
    | none =>
     cases x with
     | sl n cs=>exact main (F:=fun k=>0≤l∧l≤n∧k (.sl (n - l.toNat) (cs.drop (l.toNat*(ty e).size)))) (.and (.and (.of _ fun _=>Iff.rfl) fun _=>Iff.rfl) fun _=>Iff.rfl) fun k=>by simp only [Xf,hs]
     | ref r off n=>exact main (F:=fun k=>0≤l∧(Qc H r).isSome=true∧l≤n∧(l=n→k (.sl 0 []))∧(l≠n→k (.ref r (off+l.toNat*(ty e).size) (n - l.toNat)))) (.and (.and (.and (.two (l=n) _ _ fun _=>Iff.rfl) fun _=>Iff.rfl) fun _=>Iff.rfl) fun _=>Iff.rfl) fun k=>by simp only [Xf,hs]
     | nil=>exact main (F:=fun k=>0≤l∧l=0∧k .nil) (.and (.and (.of _ fun _=>Iff.rfl) fun _=>Iff.rfl) fun _=>Iff.rfl) fun k=>by simp only [Xf,hs]
     | _=>exact .no fun k h=>by simp [Xf,hs] at h
    | some v =>
     cases v with
     | int kk h =>
      cases x with
      | sl n cs=>exact main (F:=fun k=>0≤l∧l≤h∧h≤n∧k (.sl (h.toNat - l.toNat) ((cs.drop (l.toNat*(ty e).size)).take ((h.toNat - l.toNat)*(ty e).size)))) (.and (.and (.and (.of _ fun _=>Iff.rfl) fun _=>Iff.rfl) fun _=>Iff.rfl) fun _=>Iff.rfl) fun k=>by simp only [Xf,hs]
      | ref r off n=>exact main (F:=fun k=>0≤l∧l≤h∧(Qc H r).isSome=true∧h≤n∧(l=h→k (.sl 0 []))∧(l≠h→k (.ref r (off+l.toNat*(ty e).size) (h.toNat - l.toNat)))) (.and (.and (.and (.and (.two (l=h) _ _ fun _=>Iff.rfl) fun _=>Iff.rfl) fun _=>Iff.rfl) fun _=>Iff.rfl) fun _=>Iff.rfl) fun k=>by simp only [Xf,hs]
      | nil=>exact main (F:=fun k=>0≤l∧l≤h∧h=0∧k .nil) (.and (.and (.and (.of _ fun _=>Iff.rfl) fun _=>Iff.rfl) fun _=>Iff.rfl) fun _=>Iff.rfl) fun k=>by simp only [Xf,hs]
      | _=>exact .no fun k h=>by simp [Xf,hs] at h
     | _=>exact .no fun k h=>by simp [Xf,hs] at h
   | _=>cases hi<;>exact .no fun k h=>by simp [Xf,hs] at h
theorem Qpr (ty:TypeId→Ty) (b:Builtin) (hb:b=.len∨b=.min∨b=.max) (ats:List TypeId) (args:List V) (H:Qa):Det fun k=>Qm ty b ats args H fun v _=>k v:=by
 rcases hb with rfl | rfl | rfl
 ·match ats,args with
  | [t],[x]=>exact .and (Xd0 (ty t) x) fun _=>Iff.rfl
  | [],_=>exact .no fun k h=>h
  | [_],[]=>exact .no fun k h=>h
  | [_],_::_::_=>exact .no fun k h=>h
  | _::_::_,_=>exact .no fun k h=>h
 ·match args with
  | [x,y] =>
   cases x with
   | int k a =>
    cases y with
    | int k' b=>exact .of _ fun _=>Iff.rfl
    | _=>exact .no fun k h=>h
   | _=>exact .no fun k h=>by cases y<;>exact h
  | []=>exact .no fun k h=>by simp [Qm] at h
  | [_]=>exact .no fun k h=>by simp [Qm] at h
  | _::_::_::_=>exact .no fun k h=>by simp [Qm] at h
 ·match args with
  | [x,y] =>
   cases x with
   | int k a =>
    cases y with
    | int k' b=>exact .of _ fun _=>Iff.rfl
    | _=>exact .no fun k h=>h
   | _=>exact .no fun k h=>by cases y<;>exact h
  | []=>exact .no fun k h=>by simp [Qm] at h
  | [_]=>exact .no fun k h=>by simp [Qm] at h
  | _::_::_::_=>exact .no fun k h=>by simp [Qm] at h
theorem Qzq (y:Ty) (x i:V):Det (Qhz y x i):=by
 unfold Qhz;split
 ·rename_i k ks cs k' n;exact ⟨y.mpk=some k∧k'=k∧ks.idxOf n<ks.length,nth cs (ks.idxOf n),fun K=>⟨fun h=>⟨⟨h.1,h.2.1,h.2.2.1⟩,h.2.2.2⟩,fun h=>⟨h.1.1,h.1.2.1,h.1.2.2,h.2⟩⟩⟩
 ·exact .no fun _ h=>h
theorem Xdr (ty:TypeId→Ty) (t:TypeId) (len:Nat) (ps:List (Nat × V)):Det (Qix ty t len ps):=by
 unfold Qix;split
 ·rename_i e he;split
  ·rename_i out hv;exact .and (F:=fun k=>k (.sl len out)) (q:=(ty e).ok=true∧len*(ty e).size≤16777216∧0<(ty e).size) (.of _ fun _=>Iff.rfl) fun k=>by simp [and_assoc]
  ·exact .no fun k h=>h.2.2.2
 ·exact .no fun k h=>h
theorem Qhr {C:Ctx} {cw:CW} {op:Op} (hn:Yw op=true∨Xp op=true) (ts:List V) (H:Qa) (hnil:Zp op ts):Det fun k=>opc C.ty cw op ts H fun v _=>k v:=by
 cases op with
 | move x=>exact .of _ fun _=>Iff.rfl
 | assign x=>exact .of _ fun _=>Iff.rfl
 | pick c a b=>exact Qyw _ _ _
 | binOp o t x y yt=>exact .and (Qsm _ _ _ _ _ hnil) fun _=>Iff.rfl
 | unOp o t x=>exact Xgz _ _
 | convert s d x=>exact .and (.and (Xaj _ _) fun _=>Iff.rfl) fun _=>Iff.rfl
 | makeFunc fn a b=>exact .of _ fun _=>Iff.rfl
 | extract x i=>exact Xex _ _
 | nilCheck x=>exact Xdf _
 | load t x=>exact .and (Qzt _ _ _) fun _=>Iff.rfl
 | build t ps=>exact .and (Qvm _ _ _) fun _=>Iff.rfl
 | buildSlice t n ps =>
  have hb:Qeq ps.toList=true:=by simpa [Yw,Xp] using hn
  refine .and (F:=fun k=>Qix C.ty t n (ps.toList.map fun p=>(p.1,ev ts p.2)) k) (q:=(C.ty t).ok=true) (Xdr _ _ _ _) fun k=>?_
  simp only [opc,opw,hb,Qkp]
 | slice t x lo hi mx =>
  cases mx with
  | none=>exact .and (.and (Qtf _ _ _ _ _ _) fun _=>Iff.rfl) fun _=>Iff.rfl
  | some m=>simp [Yw,Xp] at hn
 | fieldAddr t x f=>exact .and (Xiy C.ty ((C.ty t).fs[f]?) (ev ts x)) fun k=>by rw [Qdm]
 | field t x f=>exact .and (Qu2 _ _ _ _) fun _=>Iff.rfl
 | indexAddr t x i=>exact .and (Xem _ _ _ _ _) fun _=>Iff.rfl
 | index t x i=>exact .and (Quv _ _ _ _) fun _=>Iff.rfl
 | lookup t x i b=>exact .and (q:=b=false∧(C.ty t).ok=true) (Qzq _ _ _) fun _=>(and_assoc).symm
 | call c =>
  obtain ⟨callee,args,ats⟩:=c;cases callee with
  | builtin b =>
   have hb:b=.len∨b=.min∨b=.max:=by
    cases b<;>simp [Yw,Xp] at hn ⊢
   exact Qpr _ b hb _ _ _
  | value f=>simp [Yw,Xp] at hn
  | invoke _ _=>simp [Yw,Xp] at hn
 | _=>simp [Yw,Xp] at hn
theorem Qdr {ts:List V} {d:Option Tmp} {v:V} {x:Operand} (h:∀ t,d=some t→x≠.tmp t):ev (Xi ts d v) x=ev ts x:=by
 cases d with
 | none=>rfl
 | some t =>
  cases x with
  | tmp u =>
   have hne:u≠t:=fun e=>h t rfl (by rw [e])
   simp only [ev,Xi,Zh];rw [if_neg (fun h=>hne h.1)]
  | _=>rfl
theorem Xbf {ts:List V} {i j:Nat} (h:i≠j) (x y:V):upd (upd ts i x) j y=upd (upd ts j y) i x:=by
 induction ts generalizing i j with
 | nil=>rfl
 | cons a l ih =>
  cases i with
  | zero=>cases j with
   | zero=>exact (h rfl).elim
   | succ j=>rfl
  | succ i=>cases j with
   | zero=>rfl
   | succ j=>simp only [upd];rw [ih (by omega)]
theorem Qm2 {ts:List V} {d e:Option Tmp} (h:∀ t,d=some t→e≠some t) (x y:V):Xi (Xi ts d x) e y=Xi (Xi ts e y) d x:=by
 cases d with
 | none=>rfl
 | some i=>cases e with
  | none=>rfl
  | some j=>exact Xbf (fun e=>h i rfl (by rw [e])) x y
theorem Xl0 {ty:TypeId→Ty} {cw:CW} {op:Op} {ts ts':List V} (h:∀ x∈op.operands,ev ts x=ev ts' x):opc ty cw op ts=opc ty cw op ts':=by
 have hp:∀ (ps:Array (Nat × Operand)),(∀ x∈(ps.toList.map (·.2)),ev ts x=ev ts' x)→(ps.toList.map fun p=>(p.1,ev ts p.2))=ps.toList.map fun p=>(p.1,ev ts' p.2):=fun ps h=>List.map_congr_left fun p hp=>by rw [h p.2 (List.mem_map_of_mem hp)]
 have ha:∀ (xs:Array Operand),(∀ x∈xs,ev ts x=ev ts' x)→xs.toList.map (ev ts)=xs.toList.map (ev ts'):=fun xs h=>List.map_congr_left fun x hx=>h x (by simpa using hx)
 have ho:∀ (o:Option Operand),(∀ x∈o,ev ts x=ev ts' x)→o.map (ev ts)=o.map (ev ts'):=fun o h=>by cases o with | none=>rfl | some x=>simp [h x rfl]
 funext H K;cases op with
 | move x=>have e:=h x (by simp [Op.operands]);simp only [opc,opw,e]
 | assign x=>have e:=h x (by simp [Op.operands]);simp only [opc,opw,e]
 | pick c a b=>have e1:=h c (by simp [Op.operands]);have e2:=h a (by simp [Op.operands]);have e3:=h b (by simp [Op.operands]);simp only [opc,opw,e1,e2,e3]
 | binOp o t x y yt=>have e1:=h x (by simp [Op.operands]);have e2:=h y (by simp [Op.operands]);simp only [opc,opw,e1,e2]
 | unOp o t x=>have e:=h x (by simp [Op.operands]);simp only [opc,opw,e]
 | convert s d x=>have e:=h x (by simp [Op.operands]);simp only [opc,opw,e]
 | makeFunc fn first caps=>simp only [opc,opw,ha first (fun x hx=>h x (by simp [Op.operands,hx])),ha caps (fun x hx=>h x (by simp [Op.operands,hx]))]
 | extract x i=>have e:=h x (by simp [Op.operands]);simp only [opc,opw,e]
 | nilCheck x=>have e:=h x (by simp [Op.operands]);simp only [opc,opw,e]
 | load t x=>have e:=h x (by simp [Op.operands]);simp only [opc,opw,e]
 | store t x v=>have e1:=h x (by simp [Op.operands]);have e2:=h v (by simp [Op.operands]);simp only [opc,opw,e1,e2]
 | box t x=>have e:=h x (by simp [Op.operands]);simp only [opc,opw,e]
 | alloc t=>rfl
 | build t ps=>simp only [opc,opw,hp ps (fun x hx=>h x (by simpa [Op.operands] using hx))]
 | buildSlice t n ps=>simp only [opc,opw,hp ps (fun x hx=>h x (by simpa [Op.operands] using hx))]
 | makeSlice t a v=>have e1:=h a (by simp [Op.operands]);have e2:=h v (by simp [Op.operands]);simp only [opc,opw,e1,e2]
 | slice t x lo hi mx =>
  have e:=h x (by simp [Op.operands])
  have e1:=ho lo (fun y hy=>h y (by simp only [Option.mem_def] at hy;simp [Op.operands,hy]))
  have e2:=ho hi (fun y hy=>h y (by simp only [Option.mem_def] at hy;simp [Op.operands,hy]))
  simp only [opc,opw,e,e1,e2]
 | fieldAddr t x f=>have e:=h x (by simp [Op.operands]);simp only [opc,opw,e]
 | field t x f=>have e:=h x (by simp [Op.operands]);simp only [opc,opw,e]
 | indexAddr t x i=>have e1:=h x (by simp [Op.operands]);have e2:=h i (by simp [Op.operands]);simp only [opc,opw,e1,e2]
 | index t x i=>have e1:=h x (by simp [Op.operands]);have e2:=h i (by simp [Op.operands]);simp only [opc,opw,e1,e2]
 | lookup t x i b=>have e1:=h x (by simp [Op.operands]);have e2:=h i (by simp [Op.operands]);simp only [opc,opw,e1,e2]
 | call c =>
  obtain ⟨callee,args,ats⟩:=c
  have e:=ha args (fun x hx=>h x (by simp [Op.operands,Call.operands,hx]))
  cases callee with
  | builtin b=>simp only [opc,e]
  | value f =>
   have ef:=h f (by simp [Op.operands,Call.operands])
   simp only [opc,e,ef]
  | invoke _ _=>rfl
 | _=>rfl
theorem Qrd {op:Op} {ts ts':List V} (h:∀ x∈op.operands,ev ts x=ev ts' x):Zp op ts=Zp op ts':=by
 cases op with
 | binOp o t x y yt=>have e2:=h y (by simp [Op.operands]);simp only [Zp,e2]
 | _=>rfl
theorem Qy7 {C:Ctx} {cw:CW} {op:Op} {ts ts':List V} {H0:Qa} (h:∀ x∈op.operands,ev ts x=ev ts' x):opd C cw op ts H0=opd C cw op ts' H0:=by
 funext H K;simp only [opd,Xl0 h,Qrd h]
theorem Qod {C:Ctx} {cw:CW} {ops:Array Oper} {H0:Qa} {o:Oper} {ts:List V} {d:Option Tmp} {v:V} (h:∀ t,d=some t→t ∉ o.looksAt ops):tro C cw ops H0 o (Xi ts d v)=tro C cw ops H0 o ts:=by
 have e:opd C cw o.op (Xi ts d v) H0=opd C cw o.op ts H0:=Qy7 fun x hx=>Qdr fun t ht hxt=>h t ht (by
  subst hxt;exact List.mem_append_left _ (List.mem_filterMap.2 ⟨.tmp t,by simpa using hx,rfl⟩))
 funext H K;simp only [tro,e];cases hg:o.guard with
 | none=>rfl
 | some g =>
  obtain ⟨j,want⟩:=g;simp only [Qbg];cases hd:(ops[j]?).bind (·.dst) with
  | none=>rfl
  | some u =>
   have hu:nth (Xi ts d v) u=nth ts u:=by
    cases d with
    | none=>rfl
    | some t =>
     have hne:u≠t:=fun e=>h t rfl (by subst e;simp [Oper.looksAt,hg,hd])
     simp only [Xi,Zh];rw [if_neg (fun h=>hne h.1)]
   simp only [hu]
def known (op:Op):Bool:=if Xj op then Qcm op||Yv op||Qgi op else Yw op||Xp op
theorem Qvf {y:Ty} {d x:V} {H:Qa} {K K':V→Qa→Prop} (hK:∀ v H',K v H'→K' v H') (h:Qdf y d x H K):Qdf y d x H K':=by
 revert h
 unfold Qdf;split
 ·split
  ·exact fun h=>⟨h.1,h.2.1,h.2.2.1,h.2.2.2.1,h.2.2.2.2.1,h.2.2.2.2.2.1,hK _ _ h.2.2.2.2.2.2⟩
  ·exact id
 ·exact id
theorem Qpj {y:Ty} {d x:V} {H:Qa} {p:Prop} (h:Qdf y d x H fun _ _=>p):p:=by
 revert h
 unfold Qdf;split
 ·split
  ·exact fun h=>h.2.2.2.2.2.2
  ·exact fun h=>h.elim
 ·exact fun h=>h.elim
theorem Qg3 {ty:TypeId→Ty} {ats:List TypeId} {args:List V} {H:Qa} {K K':V→Qa→Prop} (hK:∀ v H',K v H'→K' v H') (h:Qm ty .copy ats args H K):Qm ty .copy ats args H K':=by
 match ats,args with
 | [t,t'],[s,x] =>
  simp only [Qm] at h ⊢;obtain ⟨h2,h3⟩:=h;refine ⟨h2, ?_⟩
  revert h3
  split
  ·exact fun h=>⟨h.1,Qvf hK h.2⟩
  ·exact id
 | [],_=>simp [Qm] at h
 | [_],_=>simp [Qm] at h
 | _::_::_::_,_=>simp [Qm] at h
 | [_,_],[]=>simp [Qm] at h
 | [_,_],[_]=>simp [Qm] at h
 | [_,_],_::_::_::_=>simp [Qm] at h
theorem Qfs {ty:TypeId→Ty} {ats:List TypeId} {args:List V} {H:Qa} {p:Prop} (h:Qm ty .copy ats args H fun _ _=>p):p:=by
 match ats,args with
 | [t,t'],[s,x] =>
  simp only [Qm] at h;obtain ⟨h2,h3⟩:=h
  revert h3
  split
  ·exact fun h=>Qpj h.2
  ·exact fun h=>h.elim
 | [],_=>simp [Qm] at h
 | [_],_=>simp [Qm] at h
 | _::_::_::_,_=>simp [Qm] at h
 | [_,_],[]=>simp [Qm] at h
 | [_,_],[_]=>simp [Qm] at h
 | [_,_],_::_::_::_=>simp [Qm] at h
theorem Qgw {op:Op} (h:Qgi op=true):∃ c,op=.call c∧(c.callee=.builtin .append∨c.callee=.builtin .copy):=by
 unfold Qgi at h;split at h
 ·rename_i c;split at h
  ·rename_i hc;exact ⟨c,rfl,.inl hc⟩
  ·rename_i hc;exact ⟨c,rfl,.inr hc⟩
  ·cases h
 ·cases h
theorem Qhs {C:Ctx} {cw:CW} {op:Op} {ts:List V} {H:Qa} {K K':V→Qa→Prop} (hn:Qgi op=true) (hK:∀ v H',K v H'→K' v H') (h:opc C.ty cw op ts H K):opc C.ty cw op ts H K':=by
 obtain ⟨c,rfl,hc⟩:=Qgw hn;rcases hc with hc | hc
 ·simp only [opc,hc] at h ⊢;exact Qa2 hK h
 ·simp only [opc,hc] at h ⊢;exact Qg3 hK h
theorem Qk7 {C:Ctx} {cw:CW} {op:Op} {ts:List V} {H:Qa} {p:Prop} (hn:Qgi op=true) (h:opc C.ty cw op ts H fun _ _=>p):p:=by
 obtain ⟨c,rfl,hc⟩:=Qgw hn;rcases hc with hc | hc
 ·simp only [opc,hc] at h;exact Kv h
 ·simp only [opc,hc] at h;exact Qfs h
theorem Qxg {y:Ty} {op:BinOp} {a b:V} {H0 H:Qa} {K:V→Prop} (hb:Qcl b=true) (h:Qc2 y op a b H0 K):Qc2 y op a b H K:=by
 cases b with
 | nil=>cases hb
 | _=>cases a<;>exact h
theorem Qq5 {C:Ctx} {cw:CW} {op:Op} {ts:List V} {H0 H:Qa} {K:V→Qa→Prop} (hn:Zq op=true) (hnil:Zp op ts) (h:opc C.ty cw op ts H0 fun v _=>K v H):opc C.ty cw op ts H K:=by
 cases op with
 | call c =>
  simp only [Zq] at hn;split at hn
  ·rename_i hc;simp only [opc,hc] at h ⊢
   revert h
   generalize c.argTypes.toList=ats;generalize (c.args.toList.map (ev ts))=args
   match ats,args with
   | [t],[x]=>exact id
   | [],_=>intro h;simp [Qm] at h
   | _::_::_,_=>intro h;simp [Qm] at h
   | [_],[]=>intro h;simp [Qm] at h
   | [_],_::_::_=>intro h;simp [Qm] at h
  ·cases hn
 | buildSlice t n ps =>
  have hb:Qeq ps.toList=true:=by simpa [Zq] using hn
  simp only [opc,opw,hb,Qkp] at h ⊢;exact h
 | binOp o t x y yt=>exact ⟨h.1,Qxg hnil h.2⟩
 | move _ | assign _ | pick _ _ _ | unOp _ _ _ | convert _ _ _ | makeFunc _ _ _ | extract _ _ | nilCheck _ | build _ _ | fieldAddr _ _ _ | field _ _ _ | index _ _ _ | lookup _ _ _ _=>exact h
 | _=>simp [Zq] at hn
theorem Qau {C:Ctx} {cw:CW} {HH:Qa} (hcw:CWok cw HH) {ops:Array Oper} {H0:Qa} {o:Oper} {ts:List V} {H:Qa} {K K':V→Qa→Prop} (hk:known o.op=true) (hK:∀ v H',K v H'→K' v H') (h:tro C cw ops H0 o ts H K):tro C cw ops H0 o ts H K':=by
 have main:opd C cw o.op ts H0 H K→opd C cw o.op ts H0 H K':=by
  unfold opd known at *;split
  ·rename_i he;simp only [he,if_true,Bool.or_eq_true] at hk;rcases hk with hk | hk
   ·exact Qk5 hcw hk hK
   ·exact Qhs hk hK
  ·rename_i he;simp only [he,Bool.false_eq_true,if_false,Bool.or_eq_true] at hk;rintro ⟨h1,h2⟩;obtain ⟨p,v,hd⟩:=Qhr hk ts H0 h1;refine ⟨h1,(hd (fun v=>K' v H)).2 ?_⟩
   have:=(hd (fun v=>K v H)).1 h2
   exact ⟨this.1,hK _ _ this.2⟩
 revert h
 unfold tro Qbg;split
 ·exact main
 ·split
  ·split
   ·exact fun h=>⟨fun e=>main (h.1 e),fun e=>hK _ _ (h.2 e)⟩
   ·exact hK _ _
   ·exact id
  ·exact id
theorem Qkl {C:Ctx} {cw:CW} {HH:Qa} (hcw:CWok cw HH) {ops:Array Oper} {H0:Qa} {o:Oper} {ts:List V} {H:Qa} {p:Prop} (hk:known o.op=true) (h:tro C cw ops H0 o ts H fun _ _=>p):p:=by
 have main:opd C cw o.op ts H0 H (fun _ _=>p)→p:=by
  unfold opd known at *;split
  ·rename_i he;simp only [he,if_true,Bool.or_eq_true] at hk;rcases hk with hk | hk
   ·exact Qt7 hcw hk
   ·exact Qk7 hk
  ·rename_i he;simp only [he,Bool.false_eq_true,if_false,Bool.or_eq_true] at hk;rintro ⟨h1,h2⟩;obtain ⟨q,v,hd⟩:=Qhr hk ts H0 h1;exact ((hd (fun _=>p)).1 h2).2
 revert h
 unfold tro Qbg;split
 ·exact main
 ·split
  ·split
   ·rename_i want _ _ _ _ _ b _;intro h;by_cases hb:b=want
    ·exact main (h.1 hb)
    ·exact h.2 hb
   ·exact id
   ·exact fun h=>h.elim
  ·exact fun h=>h.elim
theorem Qwh {C:Ctx} {cw:CW} {ops:Array Oper} {H0:Qa} {o:Oper} (ts:List V) (hk:known o.op=true) (he:Xj o.op=false):∃ p v,∀ H K,tro C cw ops H0 o ts H K↔(p∧K v H):=by
 have main:∃ p v,∀ H K,opd C cw o.op ts H0 H K↔(p∧K v H):=by
  simp only [known,he,Bool.false_eq_true,if_false,Bool.or_eq_true] at hk;by_cases h1:Zp o.op ts
  ·obtain ⟨q,v,hd⟩:=Qhr (C:=C) hk ts H0 h1;refine ⟨q,v,fun H K=>?_⟩
   simp only [opd,he,Bool.false_eq_true,if_false,h1,true_and];exact hd fun v=>K v H
  ·exact ⟨False,.any,fun H K=>by simp [opd,he,h1]⟩
 unfold tro Qbg;split
 ·exact main
 ·split
  ·split
   ·rename_i want _ _ _ _ _ b _;by_cases hb:b=want
    ·obtain ⟨p,v,h⟩:=main;exact ⟨p,v,fun H K=>by simp [hb,h]⟩
    ·exact ⟨True,.tup [],fun H K=>by simp [hb]⟩
   ·exact ⟨True,.tup [],fun H K=>by simp⟩
   ·exact ⟨False,.any,fun H K=>by simp⟩
  ·exact ⟨False,.any,fun H K=>by simp⟩
theorem Xbh {C:Ctx} {cw:CW} {HH:Qa} (hcw:CWok cw HH) {ops:Array Oper} {H0:Qa} {x y:Oper} {ts:List V} {H:Qa} {K:List V→Qa→Prop} (hx:known x.op=true) (hy:known y.op=true) (hap:x.apart ops y=true) (he:Xj x.op=false∨Xj y.op=false)
  (h:tro C cw ops H0 x ts H fun v H1=>tro C cw ops H0 y (Xi ts x.dst v) H1 fun u H2=>K (Xi (Xi ts x.dst v) y.dst u) H2) :
  tro C cw ops H0 y ts H fun u H1=>tro C cw ops H0 x (Xi ts y.dst u) H1 fun v H2=>K (Xi (Xi ts y.dst u) x.dst v) H2:=by
 obtain ⟨h1,h2,h3⟩:=Oper.apart_spec hap;simp only [Qod h1] at h;simp only [Qod h3]
 have e:∀ u v,Xi (Xi ts y.dst u) x.dst v=Xi (Xi ts x.dst v) y.dst u:=fun u v=>(Qm2 h2 v u).symm
 simp only [e];rcases he with he | he
 ·obtain ⟨p,v,hd⟩:=Qwh (C:=C) (cw:=cw) (ops:=ops) (H0:=H0) ts hx he;simp only [hd] at h ⊢;refine Qau hcw hy (fun _ _ h'=>h') ?_
  obtain ⟨hp,h⟩:=h;exact Qau hcw hy (fun _ _ h'=>⟨hp,h'⟩) h
 ·obtain ⟨p,u,hd⟩:=Qwh (C:=C) (cw:=cw) (ops:=ops) (H0:=H0) ts hy he;simp only [hd] at h ⊢;exact ⟨Qkl hcw hx (Qau hcw hx (fun _ _ h'=>h'.1) h),Qau hcw hx (fun _ _ h'=>h'.2) h⟩
def Jf (C:Ctx) (cw:CW) (ops:Array Oper) (H0:Qa) (K:List V→Qa→Prop):List Nat→List V→Qa→Prop
 | [],ts,H=>K ts H
 | i::rest,ts,H=>match ops[i]? with
  | none=>Jf C cw ops H0 K rest ts H
  | some o=>tro C cw ops H0 o ts H fun v H'=>Jf C cw ops H0 K rest (Xi ts o.dst v) H'
def Yf (ops:Array Oper):Bool:=ops.toList.all fun o=>known o.op
theorem Yn {ops:Array Oper} (h:Yf ops=true) {i:Nat} {o:Oper} (ho:ops[i]?=some o):known o.op=true:=by
 simp only [Yf,List.all_eq_true] at h;exact h o (by simpa using Array.mem_of_getElem? ho)
def Jc (ops:Array Oper) (i j:Nat):Bool:=match ops[i]?,ops[j]? with
 | some x,some y=>x.apart ops y&&(!Xj x.op||!Xj y.op)
 | _,_=>true
theorem Qy2 {C:Ctx} {cw:CW} {HH:Qa} (hcw:CWok cw HH) {ops:Array Oper} {H0:Qa} {K:List V→Qa→Prop} {i j:Nat} {rest:List Nat} {ts:List V} {H:Qa} (hk:Yf ops=true) (hp:Jc ops i j=true) (h:Jf C cw ops H0 K (i::j::rest) ts H):Jf C cw ops H0 K (j::i::rest) ts H:=by
 simp only [Jf] at h ⊢;cases hi:ops[i]? with
 | none=>simp only [hi] at h ⊢;cases hj:ops[j]? with
  | none=>simpa only [hj] using h
  | some y=>simpa only [hj] using h
 | some x=>cases hj:ops[j]? with
  | none=>simp only [hi,hj] at h ⊢;exact h
  | some y =>
   simp only [hi,hj] at h ⊢;simp only [Jc,hi,hj,Bool.and_eq_true,Bool.or_eq_true,Bool.not_eq_true'] at hp;exact Xbh hcw (Yn hk hi) (Yn hk hj) hp.1 hp.2 h
theorem Qy1 {C:Ctx} {cw:CW} {HH:Qa} (hcw:CWok cw HH) {ops:Array Oper} {H0:Qa} {K:List V→Qa→Prop} {l l':List Nat} (hk:Yf ops=true) (hl:∀ ts H,Jf C cw ops H0 K l ts H→Jf C cw ops H0 K l' ts H) (i:Nat) {ts:List V} {H:Qa} (h:Jf C cw ops H0 K (i::l) ts H):Jf C cw ops H0 K (i::l') ts H:=by
 simp only [Jf] at h ⊢;cases hi:ops[i]? with
 | none=>simp only [hi] at h ⊢;exact hl _ _ h
 | some x=>simp only [hi] at h ⊢;exact Qau hcw (Yn hk hi) (fun _ _ h=>hl _ _ h) h
theorem Qas {C:Ctx} {cw:CW} {HH:Qa} (hcw:CWok cw HH) {ops:Array Oper} {H0:Qa} {K:List V→Qa→Prop} (hk:Yf ops=true) {i:Nat} (l2:List Nat):∀ (l1:List Nat),(∀ j∈l1,Jc ops j i=true)→∀ ts H,Jf C cw ops H0 K (l1++i::l2) ts H→Jf C cw ops H0 K (i::(l1++l2)) ts H
 | [],_,ts,H,h=>h
 | j::l1,hp,ts,H,h=>Qy2 hcw hk (hp j (by simp)) (Qy1 hcw hk (Qas hcw hk l2 l1 fun j hj=>hp j (by simp [hj])) j h)
theorem Xhy {C:Ctx} {cw:CW} {HH:Qa} (hcw:CWok cw HH) {op:Op} {ts:List V} {H:Qa} {K:V→Qa→Prop} (hn:Qcm op=true) (h:opc C.ty cw op ts H K):opc C.ty cw op ts H fun v H'=>Kp HH H H'∧K v H':=by
 cases op with
 | alloc t=>exact ⟨h.1,.of (.app _ _),h.2⟩
 | box t x=>exact ⟨h.1,.of (.app _ _),h.2⟩
 | buildSlice t n ps =>
  have hb:Qeq ps.toList=false:=by simpa [Qcm,Yv] using hn
  simp only [opc,opw,hb,Qol,Qdg] at h ⊢;refine ⟨h.1, ?_⟩
  have h:=h.2
  unfold bso at h ⊢;split
  ·rename_i e he;rw [he] at h;obtain ⟨h1,h2,h3,h4⟩:=h;refine ⟨h1,h2,h3, ?_⟩;unfold Qeo at h4 ⊢;split
   ·rename_i l hl;rw [hl] at h4;exact ⟨.of (.app _ _),h4⟩
   ·rename_i hl;rw [hl] at h4;exact h4
  ·rename_i he;rw [he] at h;exact h
 | makeSlice t l c =>
  simp only [opc,opw] at h ⊢;refine ⟨h.1, ?_⟩
  have h:=h.2
  revert h
  unfold Qdd;split
  ·rintro ⟨h1,h2,h3,h4,h5,h6⟩;exact ⟨h1,h2,h3,h4,h5,.of (.app _ _),h6⟩
  ·exact id
 | call c =>
  simp only [opc] at h ⊢;cases hc:c.callee with
  | value f =>
   rw [hc] at h;exact hcw.new h
  | builtin b =>
   rw [hc] at h;obtain ⟨rfl,hnf⟩:=Qdp hc hn;obtain ⟨l,hl⟩:=Qmh hnf ts;simp only [hl] at h ⊢;exact Qi3 h
  | invoke _ _=>simp [Qcm,hc] at hn
 | _=>simp [Qcm] at hn
theorem Qt8 {C:Ctx} {cw:CW} {op:Op} {ts:List V} {H:Qa} {K:V→Qa→Prop} (hn:Yv op=true) (h:opc C.ty cw op ts H K):opc C.ty cw op ts H fun v H'=>Stand H H'∧K v H':=by
 cases op with
 | store t x v =>
  simp only [opc,opw] at h ⊢;refine ⟨h.1, ?_⟩
  have h:=h.2
  unfold Qbb at h ⊢;split
  ·rename_i r off hx;simp only [hx] at h;split
   ·rename_i row hrow;simp only [hrow] at h;exact ⟨h.1,h.2.1,h.2.2.1,.set _ _ _,h.2.2.2⟩
   ·rename_i hrow;simp only [hrow] at h
  ·rename_i hne;split at h
   ·rename_i r off hx;exact (hne _ _ hx).elim
   ·exact h
 | _=>simp [Yv] at hn
theorem Qx5 {ty:TypeId→Ty} {y:Ty} {x:V} {lo hi:Option V} {H0 H:Qa} {K:V→Prop} (hl:Stand H0 H) (h:Xf ty y x lo hi H0 K):Xf ty y x lo hi H K:=by
 cases hs:y.sl with
 | none=>simp [Xf,hs] at h
 | some e =>
  cases lo with
  | none=>cases hi with
   | none=>simp [Xf,hs] at h
   | some v=>cases v with
    | int kk n=>cases x with
     | ref r off m=>simp only [Xf,hs] at h ⊢;exact ⟨h.1,h.2.1,h.2.2.1,hl _ h.2.2.2.1,h.2.2.2.2⟩
     | _=>simp only [Xf,hs] at h ⊢;exact h
    | _=>simp [Xf,hs] at h
  | some u=>cases u with
   | int k0 l=>cases hi with
    | none=>cases x with
     | ref r off m=>simp only [Xf,hs] at h ⊢;exact ⟨h.1,h.2.1,h.2.2.1,hl _ h.2.2.2.1,h.2.2.2.2⟩
     | _=>simp only [Xf,hs] at h ⊢;exact h
    | some v=>cases v with
     | int kk n=>cases x with
      | ref r off m=>simp only [Xf,hs] at h ⊢;exact ⟨h.1,h.2.1,h.2.2.1,h.2.2.2.1,hl _ h.2.2.2.2.1,h.2.2.2.2.2⟩
      | _=>simp only [Xf,hs] at h ⊢;exact h
     | _=>simp [Xf,hs] at h
   | _=>cases hi<;>simp [Xf,hs] at h
theorem Xdq {y:Ty} {x:V} {H0 H:Qa} {K:V→Prop} (hl:Same H0 H) (h:Qbv y x H0 K):Qbv y x H K:=by
 cases x with
 | ptr r off =>
  simp only [Qbv] at h ⊢;cases hrow:Qc H0 r with
  | none=>rw [hrow] at h;exact h.elim
  | some row=>rw [hrow] at h;rw [hl r row hrow];exact h
 | _=>exact h
theorem Qt6 {C:Ctx} {cw:CW} {op:Op} {ts:List V} {H0 H:Qa} {K:V→Qa→Prop} (hn:(Yw op=true∧Stand H0 H)∨(Xp op=true∧Same H0 H)) (hnil:Zp op ts) (h:opc C.ty cw op ts H0 fun v _=>K v H):opc C.ty cw op ts H K:=by
 rcases hn with ⟨hn,hl⟩ | ⟨hn,hl⟩
 ·cases op with
  | binOp o t x y yt=>exact ⟨h.1,Qxg hnil h.2⟩
  | slice t x lo hi mx=>exact ⟨h.1,h.2.1,Qx5 hl h.2.2⟩
  | indexAddr t x i =>
   simp only [opc,opw] at h ⊢;refine ⟨h.1, ?_,h.2.2⟩
   have h:=h.2.1
   revert h
   cases ev ts x<;>first | exact hl _ | exact id
  | call c =>
   obtain ⟨callee,args,ats⟩:=c;cases callee with
   | builtin b =>
    have hb:b=.len∨b=.min∨b=.max:=by
     cases b<;>simp [Yw] at hn ⊢
    simp only [opc] at h ⊢
    revert h
    generalize ats.toList=ats',args.toList.map (ev ts)=args';rcases hb with rfl | rfl | rfl
    ·match ats',args' with
     | [t],[x]=>exact id
     | [],_=>exact fun h=>h.elim
     | [_],[]=>exact fun h=>h.elim
     | [_],_::_::_=>exact fun h=>h.elim
     | _::_::_,_=>exact fun h=>h.elim
    ·match args' with
     | [x,y]=>cases x<;>cases y<;>exact id
     | []=>intro h;simp [Qm] at h
     | [_]=>intro h;simp [Qm] at h
     | _::_::_::_=>intro h;simp [Qm] at h
    ·match args' with
     | [x,y]=>cases x<;>cases y<;>exact id
     | []=>intro h;simp [Qm] at h
     | [_]=>intro h;simp [Qm] at h
     | _::_::_::_=>intro h;simp [Qm] at h
   | value f=>simp [Yw] at hn
   | invoke _ _=>simp [Yw] at hn
  | buildSlice t n ps =>
   have hb:Qeq ps.toList=true:=by simpa [Yw] using hn
   simp only [opc,opw,hb,Qkp] at h ⊢;exact h
  | move _ | assign _ | pick _ _ _ | unOp _ _ _ | convert _ _ _ | makeFunc _ _ _ | extract _ _ | nilCheck _ | build _ _ | fieldAddr _ _ _ | field _ _ _ | index _ _ _ | lookup _ _ _ _=>exact h
  | _=>simp [Yw] at hn
 ·cases op with
  | load t x=>exact ⟨h.1,Xdq hl h.2⟩
  | _=>simp [Xp] at hn
def Qy (o:Oper) (j:Nat):Bool:=o.after.toList.any fun e=>Region.binds .any e&&e.on==j
def Jt (ops:Array Oper):Nat→Nat→Nat→Bool
 | 0,_,_=>false
 | fuel+1,j,i=>match ops[i]? with
  | none=>false
  | some o=>Qy o j||o.after.toList.any fun e=>Region.binds .any e&&(match ops[e.on]? with | some p=>Xj p.op||decide (j<e.on) | none=>false)&&Jt ops fuel j e.on
def Jq (ops:Array Oper):Nat→Nat→Nat→Bool
 | 0,_,_=>false
 | fuel+1,j,i=>match ops[i]? with
  | none=>false
  | some o=>Qy o j||o.after.toList.any fun e=>Region.binds .any e&&decide (j<e.on)&&Jq ops fuel j e.on
def Jy (ops:Array Oper):Bool :=
 Yf ops &&
 (List.range ops.size).all fun i=>match ops[i]? with
  | none=>true
  | some o =>
   (o.after.toList.all fun e=>!Region.binds .any e||decide (e.on<i)) &&
   ((List.range i).all fun j=>Jc ops j i||Jt ops i j i) &&
   (!Yv o.op||(List.range ops.size).all fun j=>match ops[j]? with
    | some p=>!Xp p.op||Jq ops i j i
    | none=>true) &&
   (!Qgi o.op||(List.range ops.size).all fun j=>match ops[j]? with
    | some p=>Zq p.op||Xj p.op||Jq ops i j i
    | none=>true)
def Qdt (ops:Array Oper) (listed:Array Bool):Prop:=∀ i o,ops[i]?=some o→listed.getD i false=true→∀ j,Qy o j=true→listed.getD j false=true
theorem Kq {ops:Array Oper} {listed:Array Bool} (hc:Qdt ops listed):∀ (fuel j i:Nat) (o:Oper),ops[i]?=some o→(∀ k,Qy o k=true→listed.getD k false=true)→Jt ops fuel j i=true→listed.getD j false=true:=by
 intro fuel
 induction fuel with
 | zero=>intro j i o ho hb h;simp [Jt] at h
 | succ fuel ih =>
  intro j i o ho hb h;simp only [Jt,ho,Bool.or_eq_true,List.any_eq_true,Bool.and_eq_true] at h;rcases h with h | ⟨e,he,⟨h1,h2⟩,h3⟩
  ·exact hb j h
  ·have hl:listed.getD e.on false=true:=hb e.on (by simp only [Qy,List.any_eq_true,Bool.and_eq_true];exact ⟨e,he,h1,by simp⟩)
   cases hp:ops[e.on]? with
   | none=>simp [hp] at h2
   | some p=>exact ih j e.on p hp (hc e.on p hp hl) h3
theorem Yt {ops:Array Oper} {listed:Array Bool} (hc:Qdt ops listed):∀ (fuel j i:Nat) (o:Oper),ops[i]?=some o→(∀ k,Qy o k=true→listed.getD k false=true)→Jq ops fuel j i=true→listed.getD j false=true:=by
 intro fuel
 induction fuel with
 | zero=>intro j i o ho hb h;simp [Jq] at h
 | succ fuel ih =>
  intro j i o ho hb h;simp only [Jq,ho,Bool.or_eq_true,List.any_eq_true,Bool.and_eq_true] at h;rcases h with h | ⟨e,he,⟨h1,h2⟩,h3⟩
  ·exact hb j h
  ·have hl:listed.getD e.on false=true:=hb e.on (by simp only [Qy,List.any_eq_true,Bool.and_eq_true];exact ⟨e,he,h1,by simp⟩)
   cases hp:ops[e.on]? with
   | none =>
    cases fuel with
    | zero=>simp [Jq] at h3
    | succ f=>simp [Jq,hp] at h3
   | some p=>exact ih j e.on p hp (hc e.on p hp hl) h3
theorem Qfy {C:Ctx} {cw:CW} {H0:Qa} (hcw:CWok cw H0) {op:Op} {ts:List V} {H:Qa} {K:V→Qa→Prop} (hk:known op=true) (hS:Same H0 H∨(Stand H0 H∧Xp op=false)∨(Zq op=true∨Xj op=true)) (h:opd C cw op ts H0 H K) :
  opc C.ty cw op ts H fun v H'=>(Kp H0 H H'∨(Yv op=true∧Stand H H')∨Qgi op=true)∧K v H':=by
 unfold opd known at *;split at h
 ·rename_i he;simp only [he,if_true,Bool.or_eq_true] at hk;rcases hk with (hk | hk) | hk
  ·exact Qk5 hcw (.inl hk) (fun v H' h=>⟨.inl h.1,h.2⟩) (Xhy hcw hk h)
  ·exact Qk5 hcw (.inr hk) (fun v H' h=>⟨.inr (.inl ⟨hk,h.1⟩),h.2⟩) (Qt8 hk h)
  ·exact Qhs hk (fun v H' h=>⟨.inr (.inr hk),h⟩) h
 ·rename_i he;simp only [he,Bool.false_eq_true,if_false,Bool.or_eq_true] at hk;obtain ⟨h1,h2⟩:=h;obtain ⟨p,v,hd⟩:=Qhr (C:=C) hk ts H0 h1
  have h2:=(hd (fun v=>K v H)).1 h2
  have h2':=(hd fun v=>(Kp H0 H H∨(Yv op=true∧Stand H H)∨Qgi op=true)∧K v H).2 ⟨h2.1,(.inl (Kp.refl _ _)),h2.2⟩
  rcases hS with hS | hS | hS
  ·refine Qt6 ?_ h1 h2';rcases hk with hk | hk
   ·exact .inl ⟨hk,hS.stand⟩
   ·exact .inr ⟨hk,hS⟩
  ·refine Qt6 ?_ h1 h2';rcases hk with hk | hk
   ·exact .inl ⟨hk,hS.1⟩
   ·have:=hS.2;rw [hk] at this;cases this
  ·rcases hS with hS | hS
   ·exact Qq5 hS h1 h2'
   ·exact (he hS).elim
theorem Qap {ops:Array Oper} {listed:Array Bool} {i:Nat} (h:i∈Region.ready .any ops listed):listed.getD i true=false∧∃ o,ops[i]?=some o∧∀ j,Qy o j=true→listed.getD j false=true:=by
 obtain ⟨h1,o,h2,h3⟩:=mem_ready.1 h;refine ⟨h1,o,h2,fun j hj=>?_⟩
 simp only [Qy,List.any_eq_true,Bool.and_eq_true] at hj;obtain ⟨e,he,h4,h5⟩:=hj
 have:=h3 e (by simpa using he) h4
 rw [beq_iff_eq] at h5
 rwa [h5] at this
structure Left (ops:Array Oper) (listed:Array Bool) (S:List Nat):Prop where
 size:listed.size=ops.size
 sorted:S.Pairwise (·<·)
 mem:∀ i,i∈S↔i<ops.size∧listed.getD i false=false
 closed:Qdt ops listed
theorem Left.take {ops:Array Oper} {listed:Array Bool} {l1 l2:List Nat} {i:Nat} {o:Oper} (h:Left ops listed (l1++i::l2)) (ho:ops[i]?=some o) (hb:∀ j,Qy o j=true→listed.getD j false=true):Left ops (listed.setIfInBounds i true) (l1++l2):=by
 have hi:=(h.mem i).1 (by simp)
 have hlt:i<listed.size:=by rw [h.size];exact hi.1
 have hget:∀ j,(listed.setIfInBounds i true).getD j false=if i=j then true else listed.getD j false:=fun j=>by
  simp only [Array.getD_eq_getD_getElem?,Array.getElem?_setIfInBounds];split
  ·simp [hlt]
  ·rfl
 have hs:=h.sorted
 rw [List.pairwise_append] at hs;obtain ⟨s1,s2,s3⟩:=hs;rw [List.pairwise_cons] at s2;refine ⟨by simp [h.size],List.pairwise_append.2 ⟨s1,s2.2,fun a ha b hb'=>s3 a ha b (by simp [hb'])⟩,fun j=>?_,fun k p hp hl j hj=>?_⟩
 ·rw [hget]
  have hm:=h.mem j
  simp only [List.mem_append,List.mem_cons] at hm ⊢;by_cases e:i=j
  ·subst e;simp only [if_true,Bool.true_eq_false,and_false,iff_false];rintro (h1 | h1)
   ·have:=s3 i h1 i (by simp);omega
   ·have:=s2.1 i h1;omega
  ·rw [if_neg e];rw [← hm];constructor
   ·rintro (h1 | h1)
    ·exact .inl h1
    ·exact .inr (.inr h1)
   ·rintro (h1 | h1 | h1)
    ·exact .inl h1
    ·exact (e h1.symm).elim
    ·exact .inr h1
 ·rw [hget] at hl ⊢;split
  ·rfl
  ·split at hl
   ·rename_i e;subst e;rw [ho] at hp;cases hp;exact hb j hj
   ·exact h.closed k p hp hl j hj
def Hat (ops:Array Oper) (G:Nat→Prop) (i:Nat) (o:Oper):Prop:=(∀ j,Qy o j=true→j<i)∧(∀ j,j<i→G j→Jc ops j i=true∨Jt ops i j i=true)∧(Yv o.op=true→∀ j p,ops[j]?=some p→Xp p.op=true→Jq ops i j i=true) ∧
   (Qgi o.op=true→∀ j p,ops[j]?=some p→(Zq p.op=true∨Xj p.op=true)∨Jq ops i j i=true)
theorem Qbj {ops:Array Oper} (hok:Jy ops=true) (G:Nat→Prop):∀ i o,ops[i]?=some o→G i→Hat ops G i o:=by
 intro i o ho _
 have hlt:i<ops.size:=(Array.getElem?_eq_some_iff.1 ho).1
 simp only [Jy,Bool.and_eq_true,List.all_eq_true,List.mem_range] at hok
 have h:=hok.2 i hlt
 simp only [ho,Bool.and_eq_true,List.all_eq_true,List.mem_range,Bool.or_eq_true,Bool.not_eq_true',decide_eq_true_eq] at h;refine ⟨fun j hj=>?_,fun j hj _=>h.1.1.2 j hj,fun hs j p hp hl=>?_,fun hs j p hp=>?_⟩
 ·simp only [Qy,List.any_eq_true,Bool.and_eq_true] at hj;obtain ⟨e,he,h4,h5⟩:=hj;rw [beq_iff_eq] at h5;subst h5;rcases h.1.1.1 e he with h6 | h6
  ·rw [h4] at h6;cases h6
  ·exact h6
 ·have hlj:j<ops.size:=(Array.getElem?_eq_some_iff.1 hp).1
  rcases h.1.2 with h6 | h6
  ·rw [hs] at h6;cases h6
  ·have:=h6 j hlj
   simp only [hp,Bool.or_eq_true,Bool.not_eq_true',hl,Bool.true_eq_false,false_or] at this;exact this
 ·have hlj:j<ops.size:=(Array.getElem?_eq_some_iff.1 hp).1
  rcases h.2 with h6 | h6
  ·rw [hs] at h6;cases h6
  ·have:=h6 j hlj
   simp only [hp,Bool.or_eq_true] at this;exact this
theorem Qij {C:Ctx} {ro:Option Nat} {ops:Array Oper} {R:Exit→Act→World→Prop} {listed:Array Bool} {a:Act} {w:World} (hL:Left ops listed []) (h:R .normal a w):∀ {fuel:Nat},wpAnyIn (FW ro) 0 C.P .any ops R fuel listed a w:=by
 have hr:Region.ready .any ops listed=[]:=by
  cases hr:Region.ready .any ops listed with
  | nil=>rfl
  | cons i l =>
   exfalso;obtain ⟨h1,o,ho,h3⟩:=Qap (listed:=listed) (i:=i) (by rw [hr];simp)
   have hlt:i<ops.size:=(Array.getElem?_eq_some_iff.1 ho).1
   have hlt':i<listed.size:=by rw [hL.size];exact hlt
   have:=(hL.mem i).2 ⟨hlt,by simpa only [Array.getD_eq_getD_getElem?,hlt',Array.getElem?_eq_getElem,Option.getD_some] using h1⟩
   cases this
 intro fuel;cases fuel with
 | zero=>exact ⟨hr,h⟩
 | succ fuel=>exact ⟨fun _=>h,fun i hi=>by rw [hr] at hi;cases hi⟩
theorem Ql2 {C:Ctx} {cw:CW}  {ro:Option Nat} {ops:Array Oper} {H0:Qa} (hcw:CWok cw H0) {K:List V→Qa→Prop} {R:Exit→Act→World→Prop} {Inv:List V→Qa→Act→World→Prop} (hk:Yf ops=true) (G:Nat→Prop) (hat:∀ i o,ops[i]?=some o→G i→Hat ops G i o)
  (htr:∀ ts H a w,Inv ts H a w→∃ im pl,TR im pl w ts a.tmps)
  (hop:∀ (i:Nat) (o:Oper),ops[i]?=some o→∀ (ts:List V) (H:Qa) (a:Act) (w:World) (KK:V→Qa→Prop) (next:Act→World→Prop),opc C.ty cw o.op ts H KK→Inv ts H a w →
   (∀ v vc H' w',KK v H'→Inv (Xi ts o.dst v) H' (a.put o.dst vc) w'→next (a.put o.dst vc) w')→o.wpIn (FW ro) 0 C.P a w next R)
  (hskip:∀ ts H a w d,Inv ts H a w→Inv (Xi ts d (.tup [])) H (a.put d (.tuple [].toArray)) w)
  (tl:List Nat) (htl:∀ i∈tl,∀ j,j<ops.size→j ∉ tl→Jq ops i j i=true) (hK:∀ (fuel:Nat) (listed:Array Bool) a w ts H,K ts H→Inv ts H a w→Left ops listed tl→tl.length≤fuel→wpAnyIn (FW ro) 0 C.P .any ops R fuel listed a w) :
  ∀ (fuel:Nat) (S:List Nat) (listed:Array Bool) (ts:List V) (H:Qa) (w:World) (a:Act),(∀ i∈S,G i)→Left ops listed (S++tl)→(S++tl).length≤fuel →
  (Same H0 H∨(Stand H0 H∧∀ j∈S,∀ p,ops[j]?=some p→Xp p.op=false)∨(∀ j∈S,∀ p,ops[j]?=some p→Zq p.op=true∨Xj p.op=true))→Jf C cw ops H0 K S ts H→Inv ts H a w →
  wpAnyIn (FW ro) 0 C.P .any ops R fuel listed a w:=by
 intro fuel
 have step:∀ (S:List Nat) (listed:Array Bool),(∀ i∈S,G i)→Left ops listed (S++tl)→Region.ready .any ops listed=[]→S=[]:=by
  intro S listed hG hL hr;cases S with
  | nil=>rfl
  | cons i S =>
   exfalso
   have hi:=(hL.mem i).1 (by simp)
   have:i∈Region.ready .any ops listed:=by
    refine mem_ready.2 ⟨?_,ops[i],by simp [hi.1],fun e he hb=>?_⟩
    ·have hlt:i<listed.size:=by rw [hL.size];exact hi.1
     have:=hi.2
     simp only [Array.getD_eq_getD_getElem?,hlt,Array.getElem?_eq_getElem,Option.getD_some] at this ⊢;exact this
    ·have hbt:Qy ops[i] e.on=true:=by
      simp only [Qy,List.any_eq_true,Bool.and_eq_true];exact ⟨e,by simpa using he,hb,by simp⟩
     have hlt:=(hat i ops[i] (by simp [hi.1]) (hG i (by simp))).1 e.on hbt
     cases hl:listed.getD e.on false with
     | true=>rfl
     | false =>
      have:=(hL.mem e.on).2 ⟨by omega,hl⟩
      have hs:=hL.sorted
      rw [List.cons_append] at this hs;rw [List.pairwise_cons] at hs;rcases List.mem_cons.1 this with h1 | h1
      ·omega
      ·have:=hs.1 _ h1;omega
   rw [hr] at this;cases this
 induction fuel with
 | zero =>
  intro S listed ts H w a hG hL hlen hS hx hR
  have:S=[]:=by cases S with
   | nil=>rfl
   | cons i S=>simp at hlen
  subst this;exact hK 0 listed a w ts H hx hR (by simpa using hL) (by simpa using hlen)
 | succ fuel ih =>
  intro S listed ts H w a hG hL hlen hS hx hR;by_cases hne:S=[]
  ·subst hne;exact hK (fuel+1) listed a w ts H hx hR (by simpa using hL) (by simpa using hlen)
  refine ⟨fun hr=>(hne (step S listed hG hL hr)).elim,fun i hi=>?_⟩
  ·obtain ⟨h1,o,ho,h3⟩:=Qap hi
   have hlt:i<ops.size:=(Array.getElem?_eq_some_iff.1 ho).1
   have hlt':i<listed.size:=by rw [hL.size];exact hlt
   have hm':=(hL.mem i).2 ⟨hlt,by simpa only [Array.getD_eq_getD_getElem?,hlt',Array.getElem?_eq_getElem,Option.getD_some] using h1⟩
   have hm:i∈S:=by
    rcases List.mem_append.1 hm' with h | h
    ·exact h
    ·exfalso;obtain ⟨j,S',rfl⟩:=List.exists_cons_of_ne_nil hne
     have hs:=hL.sorted
     rw [List.pairwise_append] at hs
     have hjt:j ∉ tl:=fun h'=>Nat.lt_irrefl j (hs.2.2 j (by simp) j h')
     have h5:=Yt hL.closed i j i o ho h3 (htl i h j ((hL.mem j).1 (by simp)).1 hjt)
     have h6:=(hL.mem j).1 (by simp)
     rw [h5] at h6;cases h6.2
   obtain ⟨l1,l2,rfl⟩:=List.append_of_mem hm
   replace hL:Left ops listed (l1++i::(l2++tl)):=by simpa using hL
   have hs:=hL.sorted
   rw [List.pairwise_append] at hs
   have hGi:=hG i hm
   have hb:Jf C cw ops H0 K (i::(l1++l2)) ts H:=by
    refine Qas hcw hk l2 l1 (fun j hj=>?_) ts H hx
    have hji:j<i:=hs.2.2 j hj i (by simp)
    rcases (hat i o ho hGi).2.1 j hji (hG j (by simp [hj])) with h4 | h4
    ·exact h4
    ·have h5:=Kq hL.closed i j i o ho h3 h4
     have h6:=(hL.mem j).1 (by simp [hj])
     rw [h5] at h6;cases h6.2
   have hL':=hL.take ho h3
   replace hL':Left ops (listed.setIfInBounds i true) ((l1++l2)++tl):=by simpa using hL'
   have hlen':((l1++l2)++tl).length≤fuel:=by simp only [List.length_append,List.length_cons] at hlen ⊢;omega
   have hsub2:∀ j,j∈l1++l2→j∈l1++i::(l2++tl):=fun j hj=>by
    simp only [List.mem_append,List.mem_cons] at hj ⊢;rcases hj with h | h
    ·exact .inl h
    ·exact .inr (.inr (.inl h))
   have hsub:∀ j,j∈l1++l2→j∈l1++i::l2:=fun j hj=>by
    simp only [List.mem_append,List.mem_cons] at hj ⊢;rcases hj with h | h
    ·exact .inl h
    ·exact .inr (.inr h)
   simp only [Jf,ho] at hb;unfold wpOpIn;simp only [ho];obtain ⟨im,pl,hTR⟩:=htr _ _ _ _ hR;rcases Qbw hb hTR with ⟨hw,h⟩ | ⟨hw,h⟩
   ·rw [if_pos hw]
    have hS1:Same H0 H∨(Stand H0 H∧Xp o.op=false)∨(Zq o.op=true∨Xj o.op=true):=hS.imp id fun h=>h.imp (fun h=>⟨h.1,h.2 i hm o ho⟩) (fun h=>h i hm o ho)
    refine hop i o ho ts H a w _ _ (Qfy hcw (Yn hk ho) hS1 h) hR fun v vc H' w' k1 k2=>?_
    refine ih (l1++l2) _ _ H' w' _ (fun j hj=>hG j (hsub j hj)) hL' hlen' ?_ k1.2 k2
    rcases k1.1 with k5 | ⟨k5,k6⟩ | k5
    ·rcases hS with hS | hS | hS
     ·exact .inl (k5.1 hS)
     ·exact .inr (.inl ⟨k5.2 hS.1,fun j hj p hp=>hS.2 j (hsub j hj) p hp⟩)
     ·exact .inr (.inr fun j hj p hp=>hS j (hsub j hj) p hp)
    ·have hnl:∀ j∈l1++l2,∀ p,ops[j]?=some p→Xp p.op=false:=fun j hj p hp=>by
      cases hl:Xp p.op with
      | false=>rfl
      | true =>
       have h7:=(hat i o ho hGi).2.2.1 k5 j p hp hl
       have h8:=Yt hL.closed i j i o ho h3 h7
       have h9:=(hL.mem j).1 (hsub2 j hj)
       rw [h8] at h9;cases h9.2
     rcases hS with hS | hS | hS
     ·exact .inr (.inl ⟨hS.stand.trans k6,hnl⟩)
     ·exact .inr (.inl ⟨hS.1.trans k6,hnl⟩)
     ·exact .inr (.inr fun j hj p hp=>hS j (hsub j hj) p hp)
    ·refine .inr (.inr fun j hj p hp=>?_)
     rcases (hat i o ho hGi).2.2.2 k5 j p hp with h7 | h7
     ·exact h7
     ·have h8:=Yt hL.closed i j i o ho h3 h7
      have h9:=(hL.mem j).1 (hsub2 j hj)
      rw [h8] at h9;cases h9.2
   ·rw [if_neg (by simp [hw])]
    refine ⟨fun _ _=>trivial,ih (l1++l2) _ _ H w _ (fun j hj=>hG j (hsub j hj)) hL' hlen' ?_ h (hskip _ _ _ _ _ hR)⟩
    exact hS.imp id fun h=>h.imp (fun h=>⟨h.1,fun j hj p hp=>h.2 j (hsub j hj) p hp⟩) (fun h j hj p hp=>h j (hsub j hj) p hp)
theorem Ql3 {C:Ctx} {cw:CW}  {ro:Option Nat} {ops:Array Oper} {H0:Qa} (hcw:CWok cw H0) {K:List V→Qa→Prop} {R:Exit→Act→World→Prop} {Inv:List V→Qa→Act→World→Prop} (hk:Yf ops=true) (G:Nat→Prop) (hat:∀ i o,ops[i]?=some o→G i→Hat ops G i o)
  (htr:∀ ts H a w,Inv ts H a w→∃ im pl,TR im pl w ts a.tmps)
  (hop:∀ (i:Nat) (o:Oper),ops[i]?=some o→∀ (ts:List V) (H:Qa) (a:Act) (w:World) (KK:V→Qa→Prop) (next:Act→World→Prop),opc C.ty cw o.op ts H KK→Inv ts H a w →
   (∀ v vc H' w',KK v H'→Inv (Xi ts o.dst v) H' (a.put o.dst vc) w'→next (a.put o.dst vc) w')→o.wpIn (FW ro) 0 C.P a w next R)
  (hskip:∀ ts H a w d,Inv ts H a w→Inv (Xi ts d (.tup [])) H (a.put d (.tuple [].toArray)) w)
  (hK:∀ a w ts H,K ts H→Inv ts H a w→R .normal a w)
  (fuel:Nat) (S:List Nat) (listed:Array Bool) (ts:List V) (H:Qa) (w:World) (a:Act) (hG:∀ i∈S,G i) (hL:Left ops listed S) (hlen:S.length≤fuel)
  (hS:Same H0 H∨(Stand H0 H∧∀ j∈S,∀ p,ops[j]?=some p→Xp p.op=false)∨(∀ j∈S,∀ p,ops[j]?=some p→Zq p.op=true∨Xj p.op=true)) (hx:Jf C cw ops H0 K S ts H) (hR:Inv ts H a w) :
  wpAnyIn (FW ro) 0 C.P .any ops R fuel listed a w:=by
 refine Ql2 hcw hk G hat htr hop hskip [] (fun i hi=>by simp at hi) (fun fuel listed a w ts H k1 k2 hL _=>Qij hL (hK a w ts H k1 k2)) fuel S listed ts H w a hG (by simpa using hL) (by simpa using hlen) hS hx hR
theorem Qho {C:Ctx} {cw:CW} {HH:Qa} (hcw:CWok cw HH) {ops:Array Oper} {H0:Qa} {K:List V→Qa→Prop} (hk:Yf ops=true):∀ (l:List Oper) (k:Nat) (ts:List V) (H:Qa),ops.toList.drop k=l→Kx C cw ops H0 K l ts H→Jf C cw ops H0 K (List.range' k l.length) ts H:=by
 intro l
 induction l with
 | nil=>intro k ts H hl h;exact h
 | cons o l ih =>
  intro k ts H hl h
  have ho:ops[k]?=some o:=by
   have:(ops.toList.drop k)[0]?=some o:=by rw [hl];rfl
   simpa [List.getElem?_drop] using this
  have hl':ops.toList.drop (k+1)=l:=by
   have:(ops.toList.drop k).tail=l:=by rw [hl];rfl
   simpa [List.tail_drop] using this
  simp only [List.length_cons,List.range'_succ,Jf,ho];simp only [Kx] at h
  have:tro C cw ops H0 o ts H fun v H'=>Kx C cw ops H0 K l (Xi ts o.dst v) H':=Qco h
  exact Qau hcw (Yn hk ho) (fun v H' h=>ih (k+1) _ H' hl' h) this
theorem Qa1 (C:Ctx) (H0:Qa):CWok (cwP C H0) H0:=by
 refine ⟨?_, ?_, ?_⟩
 ·intro fv args H K K' hK h;unfold cwP at h ⊢;split
  ·rename_i g xs ys;rcases h with ⟨Q,h1,h2,h4⟩ | ⟨args',Q,h1,h2,h3,h4⟩
   ·exact .inl ⟨Q,h1,h2,fun v H' hq=>⟨(h4 v H' hq).1,hK _ _ (h4 v H' hq).2⟩⟩
   ·exact .inr ⟨args',Q,h1,h2,h3,fun v H' hq=>hK _ _ (h4 v H' hq)⟩
  ·rename_i hne;split at h
   ·rename_i g xs ys;exact (hne _ _ _ rfl).elim
   ·exact h
 ·intro fv args H p h;unfold cwP at h;split at h
  ·rcases h with ⟨Q,h1,⟨v,H',h2⟩,h4⟩ | ⟨args',Q,h1,⟨v,H',h2⟩,h3,h4⟩
   ·exact (h4 v H' h2).2
   ·exact h4 v H' h2
  ·exact h.elim
 ·intro fv args H K h;unfold cwP at h ⊢;split
  ·rcases h with ⟨Q,h1,h2,h4⟩ | ⟨args',Q,h1,h2,h3,h4⟩
   ·exact .inl ⟨Q,h1,h2,fun v H' hq=>⟨(h4 v H' hq).1,h4 v H' hq⟩⟩
   ·exact .inr ⟨args',Q,h1,h2,h3,fun v H' hq=>⟨.of (.app _ _),h4 v H' hq⟩⟩
  ·rename_i hne;split at h
   ·rename_i g xs ys;exact (hne _ _ _ rfl).elim
   ·exact h
theorem Xnm {C:Ctx} {ro:Option Nat} (hm:C.P.follows .mixedOrders=true) {id:Nat} {ops:Array Oper} {Q:Exit→List V→Qa→Prop} {ts:List V} {H:Qa} (hok:Jy ops=true) {H0:Qa} (hs0:Same H0 H) (h:Kx C (cwP C H0) ops H0 (Q .normal) ops.toList ts H):T C ro (.region id ops true) Q ts H:=by
 intro im pl w a hr
 have hk:Yf ops=true:=by simp only [Jy,Bool.and_eq_true] at hok;exact hok.1
 refine wpIn_region_any hm ?_
 have hx:=Qho (Qa1 C H0) hk ops.toList 0 ts H (by simp) h
 have hvr:∀ {v c},VR im pl w v c→VR im pl { w with drawn:=w.drawn+1 } v c:=fun h=>VR.world (w:=w) (w':={ w with drawn:=w.drawn+1 }) (fun _ _ _ (h:w.cell? _=some _)=>h) (fun _ _ _ _ h=>h) h
 have hE:Ext im pl w im pl { w with drawn:=w.drawn+1 }:=⟨rfl,rfl,rfl,Nat.le_refl _,fun _ h=>h,fun _ h=>.inl h,fun _ _=>.inl rfl,fun r b cap h=>.inl ⟨r,cap,h⟩,fun _ _ _=>rfl⟩
 have hr':Rel im pl { w with drawn:=w.drawn+1 } ts H a:=by
  refine ⟨⟨hr.tr.1,fun i=>hvr (hr.tr.2 i)⟩, ?_,hr.df.mono hE⟩
  obtain ⟨g1,g2,g3,g4,g5,g6,g7,g8⟩:=hr.hr;refine ⟨g1,g2,g3,g4,g5,g6,g7,fun r b cap hp=>?_⟩
  obtain ⟨e,s,cs,cur,f1,f2,f3,f4,f5,f6⟩:=g8 r b cap hp;exact ⟨e,s,cs,cur,f1,f2,f3,f4,f5,fun j=>hvr (f6 j)⟩
 refine Ql3 (Qa1 C H0) (ro:=ro) (ops:=ops) (K:=Q .normal) (R:=Post im pl w a.defers Q) (Inv:=fun ts' H' a' w'=>∃ im' pl',Rel im' pl' w' ts' H' a'∧Ext im pl w im' pl' w'∧a'.defers=a.defers) hk (fun _=>True) (Qbj hok _) ?_ ?_ ?_ ?_
  ops.size (List.range' 0 ops.toList.length) _ ts H _ a (fun _ _=>trivial) ⟨by simp, ?_,fun i=>?_,fun i o ho hl=>?_⟩ (by simp) (.inl hs0) hx ⟨im,pl,hr',hE,rfl⟩
 ·rintro ts' H' a' w' ⟨im',pl',h1,_,_⟩;exact ⟨im',pl',h1.tr⟩
 ·rintro _ o _ ts' H' a' w' KK next ho ⟨im',pl',h1,h2,h3⟩ hnext;exact Zt (Qcd C H0 ro) ho h1.tr h1.hr fun v vc H2 im2 pl2 w2 k1 k2 k3 k4=>hnext v vc H2 w2 k1 ⟨im2,pl2,h1.put k4 k3 k2 _,h2.trans k4,by rw [Xa];exact h3⟩
 ·rintro ts' H' a' w' d ⟨im',pl',h1,h2,h3⟩;exact ⟨im',pl',h1.put (.refl _ _ _) h1.hr (.tup [] [] rfl fun j=>by simp [nth,List.getD];exact .any _) _,h2,by rw [Xa];exact h3⟩
 ·rintro a' w' ts' H' k1 ⟨im',pl',k2,k3,k4⟩;exact ⟨ts',H',im',pl',k1,k2,k3,by rw [k4];exact .refl _ _⟩
 ·exact List.pairwise_lt_range' ..
 ·simp only [List.mem_range'_1,Nat.zero_le,true_and,Nat.zero_add,Array.length_toList];simp only [Array.getD_eq_getD_getElem?,Array.getElem?_replicate];constructor
  ·intro h;refine ⟨h, ?_⟩;simp [h]
  ·exact fun h=>h.1
 ·exfalso;simp only [Array.getD_eq_getD_getElem?,Array.getElem?_replicate] at hl
  split at hl<;>simp at hl
theorem Qq2 {C:Ctx} {cw:CW} {HH:Qa} (hcw:CWok cw HH) {ops:Array Oper} {H0:Qa} {K:List V→Qa→Prop} (hk:Yf ops=true) (r:List Oper):∀ (l:List Oper) (k:Nat) (ts:List V) (H:Qa),ops.toList.drop k=l++r→Kx C cw ops H0 K l ts H→Jf C cw ops H0 K (List.range' k l.length) ts H:=by
 intro l
 induction l with
 | nil=>intro k ts H hl h;exact h
 | cons o l ih =>
  intro k ts H hl h
  have ho:ops[k]?=some o:=by
   have:(ops.toList.drop k)[0]?=some o:=by rw [hl];rfl
   simpa [List.getElem?_drop] using this
  have hl':ops.toList.drop (k+1)=l++r:=by
   have:(ops.toList.drop k).tail=l++r:=by rw [hl];rfl
   simpa [List.tail_drop] using this
  simp only [List.length_cons,List.range'_succ,Jf,ho];simp only [Kx] at h
  have:tro C cw ops H0 o ts H fun v H'=>Kx C cw ops H0 K l (Xi ts o.dst v) H':=Qco h
  exact Qau hcw (Yn hk ho) (fun v H' h=>ih (k+1) _ H' hl' h) this
def Xme:Op→Bool
 | .call _=>true
 | _=>false
def Qlg (ops:Array Oper):Bool:=Jy ops&&match ops[ops.size - 1]? with
 | none=>false
 | some o=>o.guard.isNone&&Xme o.op&&(List.range (ops.size - 1)).all fun j=>Jq ops (ops.size - 1) j (ops.size - 1)
theorem Xnk {C:Ctx} {ro:Option Nat} (hm:C.P.follows .mixedOrders=true) {id:Nat} {ops:Array Oper} {Q:Exit→List V→Qa→Prop} {ts:List V} {H:Qa} (hok:Qlg ops=true) {H0:Qa} (hs0:Same H0 H)
  (h:Kx C (cwP C H0) ops H0 (fun ts H=>Qa5 C.ty (cwF C) ops (Q .normal) (ops.toList.drop (ops.size - 1)) ts H) ops.toList.dropLast ts H):T C ro (.region id ops true) Q ts H:=by
 intro im pl w a hr;simp only [Qlg,Bool.and_eq_true] at hok;obtain ⟨hok,hlast⟩:=hok;cases hom:ops[ops.size - 1]? with
 | none=>rw [hom] at hlast;cases hlast
 | some om =>
 rw [hom] at hlast;simp only [Bool.and_eq_true,List.all_eq_true,List.mem_range,Option.isNone_iff_eq_none] at hlast;obtain ⟨⟨hgd, -⟩,hah⟩:=hlast
 have hlt:ops.size - 1<ops.size:=(Array.getElem?_eq_some_iff.1 hom).1
 generalize hmm:ops.size - 1=m at *
 have hsz:ops.size=m+1:=by omega
 have hdrop:ops.toList.drop m=[om]:=by
  have h1:(ops.toList.drop m).length=1:=by simp;omega
  obtain ⟨x,hx⟩:=List.length_eq_one_iff.1 h1;rw [hx]
  have:(ops.toList.drop m)[0]?=some om:=by rw [List.getElem?_drop];simpa using hom
  rw [hx] at this;simpa using this
 have hsplit:ops.toList=ops.toList.dropLast++[om]:=by
  rw [← hdrop,List.dropLast_eq_take,Array.length_toList,hmm,List.take_append_drop]
 have hk:Yf ops=true:=by simp only [Jy,Bool.and_eq_true] at hok;exact hok.1
 have hat0:=Qbj hok (fun _=>True)
 refine wpIn_region_any hm ?_
 have hx:=Qq2 (Qa1 C H0) hk [om] ops.toList.dropLast 0 ts H (by rw [List.drop_zero];exact hsplit) h
 have hlen:ops.toList.dropLast.length=m:=by rw [List.length_dropLast,Array.length_toList];omega
 rw [hlen,hdrop] at hx
 have hvr:∀ {v c},VR im pl w v c→VR im pl { w with drawn:=w.drawn+1 } v c:=fun h=>VR.world (w:=w) (w':={ w with drawn:=w.drawn+1 }) (fun _ _ _ (h:w.cell? _=some _)=>h) (fun _ _ _ _ h=>h) h
 have hE:Ext im pl w im pl { w with drawn:=w.drawn+1 }:=⟨rfl,rfl,rfl,Nat.le_refl _,fun _ h=>h,fun _ h=>.inl h,fun _ _=>.inl rfl,fun r b cap h=>.inl ⟨r,cap,h⟩,fun _ _ _=>rfl⟩
 have hr':Rel im pl { w with drawn:=w.drawn+1 } ts H a:=by
  refine ⟨⟨hr.tr.1,fun i=>hvr (hr.tr.2 i)⟩, ?_,hr.df.mono hE⟩
  obtain ⟨g1,g2,g3,g4,g5,g6,g7,g8⟩:=hr.hr;refine ⟨g1,g2,g3,g4,g5,g6,g7,fun r b cap hp=>?_⟩
  obtain ⟨e,s,cs,cur,f1,f2,f3,f4,f5,f6⟩:=g8 r b cap hp;exact ⟨e,s,cs,cur,f1,f2,f3,f4,f5,fun j=>hvr (f6 j)⟩
 refine Ql2 (Qa1 C H0) (ro:=ro) (ops:=ops) (K:=fun ts H=>Qa5 C.ty (cwF C) ops (Q .normal) [om] ts H) (R:=Post im pl w a.defers Q) (Inv:=fun ts' H' a' w'=>∃ im' pl',Rel im' pl' w' ts' H' a'∧Ext im pl w im' pl' w'∧a'.defers=a.defers) hk (fun _=>True) hat0 ?_ ?_ ?_ [m] ?_ ?_
  ops.size (List.range' 0 m) _ ts H _ a (fun _ _=>trivial) ⟨by simp, ?_,fun i=>?_,fun i o ho hl=>?_⟩ (by simp;omega) (.inl hs0) hx ⟨im,pl,hr',hE,rfl⟩
 ·rintro ts' H' a' w' ⟨im',pl',h1,_,_⟩;exact ⟨im',pl',h1.tr⟩
 ·rintro _ o _ ts' H' a' w' KK next ho ⟨im',pl',h1,h2,h3⟩ hnext;exact Zt (Qcd C H0 ro) ho h1.tr h1.hr fun v vc H2 im2 pl2 w2 k1 k2 k3 k4=>hnext v vc H2 w2 k1 ⟨im2,pl2,h1.put k4 k3 k2 _,h2.trans k4,by rw [Xa];exact h3⟩
 ·rintro ts' H' a' w' d ⟨im',pl',h1,h2,h3⟩;exact ⟨im',pl',h1.put (.refl _ _ _) h1.hr (.tup [] [] rfl fun j=>by simp [nth,List.getD];exact .any _) _,h2,by rw [Xa];exact h3⟩
 ·intro i hi j hj hjt;simp only [List.mem_singleton] at hi hjt;subst hi;exact hah j (by omega)
 ·rintro fuel listed a' w' ts' H' k1 ⟨im',pl',h1,h2,h3⟩ hL hlen;cases fuel with
  | zero=>simp at hlen
  | succ fuel =>
  have hmem:=(hL.mem m).1 (by simp)
  have hltl:m<listed.size:=by rw [hL.size];omega
  have hready:m∈Region.ready .any ops listed:=by
   refine mem_ready.2 ⟨?_,om,hom,fun e he hb=>?_⟩
   ·have:=hmem.2
    simp only [Array.getD_eq_getD_getElem?,hltl,Array.getElem?_eq_getElem,Option.getD_some] at this ⊢;exact this
   ·have hbt:Qy om e.on=true:=by
     simp only [Qy,List.any_eq_true,Bool.and_eq_true];exact ⟨e,by simpa using he,hb,by simp⟩
    have hlt:=(hat0 m om hom trivial).1 e.on hbt
    cases hl:listed.getD e.on false with
    | true=>rfl
    | false =>
     have:=(hL.mem e.on).2 ⟨by omega,hl⟩
     simp at this;omega
  refine ⟨fun hr=>(by rw [hr] at hready;cases hready),fun i hi=>?_⟩
  obtain ⟨q1,o,ho,q3⟩:=Qap hi
  have hi2:i<ops.size:=(Array.getElem?_eq_some_iff.1 ho).1
  have hi3:i<listed.size:=by rw [hL.size];exact hi2
  have him:=(hL.mem i).2 ⟨hi2,by simpa only [Array.getD_eq_getD_getElem?,hi3,Array.getElem?_eq_getElem,Option.getD_some] using q1⟩
  rw [List.mem_singleton] at him;subst him;rw [hom] at ho;cases ho
  have hL':Left ops (listed.setIfInBounds i true) ([]++[]):=Left.take (l1:=[]) (l2:=[]) (by simpa using hL) hom q3
  unfold wpOpIn;simp only [hom];rw [if_pos (by simp [Region.wanted,hgd])]
  simp only [Qa5,hgd,Qbz] at k1;refine Zt (Je C ro) k1 h1.tr h1.hr fun v vc H2 im2 pl2 w2 k1 k2 k3 k4=>Qij hL' ?_
  exact ⟨_,H2,im2,pl2,k1,h1.put k4 k3 k2 _,h2.trans k4,by rw [Xa,h3];exact .refl _ _⟩
 ·have:List.range' 0 m++[m]=List.range' 0 (m+1):=by rw [List.range'_1_concat];simp
  rw [this];exact List.pairwise_lt_range' ..
 ·have:List.range' 0 m++[m]=List.range' 0 (m+1):=by rw [List.range'_1_concat];simp
  rw [this];simp only [List.mem_range'_1,Nat.zero_le,true_and,Nat.zero_add];simp only [Array.getD_eq_getD_getElem?,Array.getElem?_replicate];rw [← hsz];constructor
  ·intro h;refine ⟨h, ?_⟩;simp [h]
  ·exact fun h=>h.1
 ·exfalso;simp only [Array.getD_eq_getD_getElem?,Array.getElem?_replicate] at hl
  split at hl<;>simp at hl
theorem Pc.call {C:Ctx} {H0:Qa} {f:FuncId} {args:List V} {H:Qa} {Q K:V→Qa→Prop} (h:Fc C f args [] Q) (hq:∃ v H',Q v H') (hc:Qf args=true) (hK:∀ v H',Q v H'→K (ren (shift H.length) v) (H++Qbs (shift H.length) H')):Pc C H0 f args H K :=
 .inr ⟨args,Q,h,hq,.inl ⟨rfl,hc⟩,hK⟩
theorem Pc.borrow {C:Ctx} {H0:Qa} {f:FuncId} {args args':List V} {H:Qa} {Q K:V→Qa→Prop} (h:Fc C f args' [] Q) (hq:∃ v H',Q v H') (hl:args.length=args'.length) (hb:∀ j,Bor H (nth args j) (nth args' j)) (hp:∀ v H',Q v H'→plain v=true∧Jb H')
  (hK:∀ v H',Q v H'→K (ren (shift H.length) v) (H++Qbs (shift H.length) H')):Pc C H0 f args H K :=
 .inr ⟨args',Q,h,hq,.inr ⟨hl,hb,hp⟩,hK⟩
theorem Pc.gen {C:Ctx} {H0:Qa} {f:FuncId} {args:List V} {H:Qa} {Q K:V→Qa→Prop} (h:Fc C f args H Q) (hq:∃ v H',Q v H') (hK:∀ v H',Q v H'→Kp H0 H H'∧K v H'):Pc C H0 f args H K:=.inl ⟨Q,h,hq,hK⟩
section
variable {C:Ctx} {cw:CW} {ts ts':List V} {H H' H0 H0':Qa} {K:V→Qa→Prop} {KL:List V→Qa→Prop}
@[congr] theorem Xly {uu:Prop} (h00:(True∧True)=uu) (ops:Array Oper) (l:List Oper) (h0:H0=H0') (h1:ts=ts') (h2:H=H'):Kx C cw ops H0 KL l ts H=Kx C cw ops H0' KL l ts' H':=by rw [h0,h1,h2]
@[congr] theorem Xlz {uu:Prop} (h00:(True∧True)=uu) (op:Op) (h0:H0=H0') (h1:ts=ts') (h2:H=H'):opd C cw op ts H0 H K=opd C cw op ts' H0' H' K:=by rw [h0,h1,h2]
@[congr] theorem Xoi {uu:Prop} (h00:(True∧True)=uu) {f f':V} {args args':List V} (h0:f=f') (h1:args=args') (h2:H=H'):cwP C H0 f args H K=cwP C H0 f' args' H' K:=by rw [h0,h1,h2]
@[congr] theorem Xpw {uu:Prop} (h00:(True∧True)=uu) (f:FuncId) {args args':List V} (h1:args=args') (h2:H=H'):Pc C H0 f args H K=Pc C H0 f args' H' K:=by rw [h1,h2]
@[congr] theorem Xh3 {uu:Prop} (h00:(True∧True)=uu) {v v':V} (h:v=v'):Qcl v=Qcl v':=by rw [h]
theorem Qm6 (ops:Array Oper) (d:Option Tmp) (op:Op) (t:TypeId) (p:String) (e:Array Edge) (l:List Oper):Kx C cw ops H0 KL (⟨d,op,t,p,e,none⟩::l) ts H=opd C cw op ts H0 H fun v H'=>Kx C cw ops H0 KL l (Xi ts d v) H':=rfl
theorem Qt2 (ops:Array Oper) (d:Option Tmp) (op:Op) (t:TypeId) (p:String) (e:Array Edge) (j:Nat) (b:Bool) (l:List Oper):Kx C cw ops H0 KL (⟨d,op,t,p,e,some (j,b)⟩::l) ts H =
  Qbz ops (some (j,b)) ts (fun ts=>opd C cw op ts H0 H fun v H'=>Kx C cw ops H0 KL l (Xi ts d v) H') (fun ts=>Kx C cw ops H0 KL l (Xi ts d (.tup [])) H):=rfl
theorem Xm2 (g:FuncId) (xs ys args:List V):cwP C H0 (.fn (.func g) xs ys) args H K=Pc C H0 g (xs++args++ys) H K:=rfl
theorem Qud (k:IntKind) (n:Int):Qcl (.int k n)=true:=rfl
theorem Qrc (b:Bool):Qcl (.bool b)=true:=rfl
theorem Quc (b:ByteArray):Qcl (.str b)=true:=rfl
theorem Xcy (x:Operand):opd C cw (.move x) ts H0 H K=K (ev ts x) H:=by simp [opd,Xj,Zp,opc,opw]
theorem Qt4 (x:Operand):opd C cw (.assign x) ts H0 H K=K (ev ts x) H:=by simp [opd,Xj,Zp,opc,opw]
theorem Xcx (c a b:Operand):opd C cw (.pick c a b) ts H0 H K=Qge (ev ts c) (ev ts a) (ev ts b) fun v=>K v H:=by simp [opd,Xj,Zp,opc,opw]
theorem Qy9 (o:BinOp) (t:TypeId) (x y:Operand) (t':TypeId):opd C cw (.binOp o t x y t') ts H0 H K=(Qcl (ev ts y)=true∧(C.ty t).ok=true∧Qc2 (C.ty t) o (ev ts x) (ev ts y) H0 fun v=>K v H):=by simp [opd,Xj,Zp,opc,opw]
theorem Xcw (o:UnOp) (t:TypeId) (x:Operand):opd C cw (.unOp o t x) ts H0 H K=unw o (ev ts x) fun v=>K v H:=by simp [opd,Xj,Zp,opc,opw]
theorem Qq4 (s d:TypeId) (x:Operand):opd C cw (.convert s d x) ts H0 H K=((C.ty s).ok=true∧(C.ty d).ok=true∧Qct (C.ty d) (ev ts x) fun v=>K v H):=by simp [opd,Xj,Zp,opc,opw]
theorem Qor (fn:Go.Fn) (a b:List Operand):opd C cw (.makeFunc fn a.toArray b.toArray) ts H0 H K=K (.fn fn (a.map (ev ts)) (b.map (ev ts))) H:=by simp [opd,Xj,Zp,opc,opw]
theorem Qq3 (x:Operand) (i:Nat):opd C cw (.extract x i) ts H0 H K=Qpa (ev ts x) i fun v=>K v H:=by simp [opd,Xj,Zp,opc,opw]
theorem Qoq (x:Operand):opd C cw (.nilCheck x) ts H0 H K=Qk8 (ev ts x) fun v=>K v H:=by simp [opd,Xj,Zp,opc,opw]
theorem Xcz (t:TypeId) (x:Operand):opd C cw (.load t x) ts H0 H K=((C.ty t).ok=true∧Qbv (C.ty t) (ev ts x) H0 fun v=>K v H):=by simp [opd,Xj,Zp,opc,opw]
theorem Qy8 (t:TypeId) (ps:List (Nat × Operand)):opd C cw (.build t ps.toArray) ts H0 H K=((C.ty t).ok=true∧Qa3 C.ty t (ps.map fun p=>(p.1,ev ts p.2)) fun v=>K v H):=by simp [opd,Xj,Zp,opc,opw]
theorem Qy4 (t:TypeId) (x:Operand) (lo hi:Option Operand):opd C cw (.slice t x lo hi none) ts H0 H K=((C.ty t).ok=true∧Xf C.ty (C.ty t) (ev ts x) (lo.map (ev ts)) (hi.map (ev ts)) H0 fun v=>K v H):=by simp [opd,Xj,Zp,opc,opw]
theorem Qme (t:TypeId) (x:Operand) (f:Nat):opd C cw (.fieldAddr t x f) ts H0 H K=((C.ty t).ok=true∧faw C.ty ((C.ty t).fs[f]?) (ev ts x) fun v=>K v H):=by
 simp only [opd,Xj,Zp,Bool.false_eq_true,if_false,true_and,Qdm]
theorem Qy6 (t:TypeId) (x:Operand) (f:Nat):opd C cw (.field t x f) ts H0 H K=((C.ty t).ok=true∧Qbi C.ty (C.ty t) (ev ts x) f fun v=>K v H):=by simp [opd,Xj,Zp,opc,opw]
theorem Qmd (t:TypeId) (x i:Operand):opd C cw (.indexAddr t x i) ts H0 H K=((C.ty t).ok=true∧Qlk C.ty (C.ty t) (ev ts x) (ev ts i) H0 fun v=>K v H):=by
 simp only [opd,Xj,Zp,Bool.false_eq_true,if_false,true_and,Qgf]
theorem Qy5 (t:TypeId) (x i:Operand):opd C cw (.index t x i) ts H0 H K=((C.ty t).ok=true∧Jx C.ty (C.ty t) (ev ts x) (ev ts i) fun v=>K v H):=by simp [opd,Xj,Zp,opc,opw]
theorem Xhw (xs:List Operand) (ats:List TypeId):opd C cw (.call ⟨.builtin .len,xs.toArray,ats.toArray⟩) ts H0 H K=Qm C.ty .len ats (xs.map (ev ts)) H0 fun v _=>K v H:=by simp [opd,Xj,Zp,opc]
theorem Xhu (xs:List Operand) (ats:List TypeId):opd C cw (.call ⟨.builtin .min,xs.toArray,ats.toArray⟩) ts H0 H K=Qm C.ty .min ats (xs.map (ev ts)) H0 fun v _=>K v H:=by simp [opd,Xj,Zp,opc]
theorem Xhv (xs:List Operand) (ats:List TypeId):opd C cw (.call ⟨.builtin .max,xs.toArray,ats.toArray⟩) ts H0 H K=Qm C.ty .max ats (xs.map (ev ts)) H0 fun v _=>K v H:=by simp [opd,Xj,Zp,opc]
theorem Qt5 (xs:List Operand) (ats:List TypeId):opd C cw (.call ⟨.builtin .append,xs.toArray,ats.toArray⟩) ts H0 H K=Qm C.ty .append ats (xs.map (ev ts)) H K:=by simp [opd,Xj,opc]
theorem Xc0 (f:Operand) (xs:List Operand) (ats:Array TypeId):opd C cw (.call ⟨.value f,xs.toArray,ats⟩) ts H0 H K=cw (ev ts f) (xs.map (ev ts)) H K:=by simp [opd,Xj,opc]
theorem Qy3 (t:TypeId) (x v:Operand):opd C cw (.store t x v) ts H0 H K=((C.ty t).ok=true∧Qbb (C.ty t) (ev ts x) (ev ts v) H fun H'=>K .any H'):=by simp [opd,Xj,opc,opw]
theorem Xhx (t:TypeId) (x:Operand):opd C cw (.box t x) ts H0 H K=Xan t (ev ts x) H K:=by simp [opd,Xj,opc,opw]
theorem Qza (t:TypeId):opd C cw (.alloc t) ts H0 H K=((C.ty t).ok=true∧K (.ptr H.length 0) (H++[some ⟨t,(Xb (C.ty t)).length,Xb (C.ty t)⟩])):=by simp [opd,Xj,opc,opw]
theorem Qk4 (t:TypeId) (n:Nat) (ps:List (Nat × Operand)):opd C cw (.buildSlice t n ps.toArray) ts H0 H K=((C.ty t).ok=true∧Qqj C.ty t (Qeq ps) n (ps.map fun p=>(p.1,ev ts p.2)) H K):=by
 cases hb:Qeq ps<;>simp [opd,Xj,Zp,opc,opw,Qqj,hb]
theorem Qmc (t:TypeId) (l c:Operand):opd C cw (.makeSlice t l c) ts H0 H K=((C.ty t).ok=true∧Qdd C.ty t (ev ts l) (ev ts c) H K):=by simp [opd,Xj,opc,opw]
end
end Go.Bv
end
section
namespace Go.Bv
open Go.RowKit
theorem Xt {H:Qa} {r:Nat} {row:Row} (h:Qc H r=some row):r<H.length:=(List.getElem?_eq_some_iff.1 (Xh h)).1
theorem Ql {H:Qa} {r:Nat} {row:Row} (h:Qc H r=some row) (X:Qa):Qc (H++X) r=some row:=Same.app H X r row h
theorem Xx (H:Qa) (row:Row):Qc (H++[some row]) H.length=some row:=by simp [Qc]
theorem Qkr (H:Qa) (r:Nat) (z:Option Row) (row:Row):Qc (H.set r z++[some row]) H.length=some row:=by
 have:=Xx (H.set r z) row
 rwa [List.length_set] at this
theorem Qk {H:Qa} {r q:Nat} (z:Option Row) (h:r≠q):Qc (H.set r z) q=Qc H q:=by simp [Qc,List.getElem?_set_ne h]
theorem Qj {H:Qa} {r:Nat} {row row':Row} (h:Qc H r=some row):Qc (H.set r (some row')) r=some row':=by simp [Qc,List.getElem?_set_self (Xt h)]
theorem Qli {H:Qa} {r:Nat} {row:Row} (h:Qc H r=some row):(Qc H r).isSome=true:=by rw [h];rfl
theorem Qio {H X:Qa} {r:Nat} {row:Row} (g:Nat→Option Nat) (h:Qc X r=some row):Qc (H++Qbs g X) (r+H.length)=some (Jv g row):=by
 have h1:=Xh h
 simp [Qc,Qbs,List.getElem?_append_right,h1]
def Own (e s:Nat) (H:Qa) (v:V) (n:Nat) (cs:List V):Prop:=(v=.nil∧n=0∧cs=[])∨∃ r,v=.ref r 0 n∧Qc H r=some ⟨e,s,cs⟩∧cs.length=n*s
theorem Own.nil (e s:Nat) (H:Qa):Own e s H .nil 0 []:=.inl ⟨rfl,rfl,rfl⟩
theorem Own.length {e s:Nat} {H:Qa} {v:V} {n:Nat} {cs:List V} (h:Own e s H v n cs):cs.length=n*s:=by
 rcases h with ⟨_,rfl,rfl⟩ | ⟨r,_,_,h⟩
 ·simp
 ·exact h
theorem Own.keep {e s:Nat} {H:Qa} {v:V} {n:Nat} {cs:List V} (h:Own e s H v n cs) (X:Qa):Own e s (H++X) v n cs:=by
 rcases h with h | ⟨r,h1,h2,h3⟩
 ·exact .inl h
 ·exact .inr ⟨r,h1,Ql h2 X,h3⟩
theorem Own.same {e s:Nat} {H H':Qa} {v:V} {n:Nat} {cs:List V} (h:Own e s H v n cs) (hs:Same H H'):Own e s H' v n cs:=by
 rcases h with h | ⟨r,h1,h2,h3⟩
 ·exact .inl h
 ·exact .inr ⟨r,h1,hs _ _ h2,h3⟩
def Fr (v:V) (H H':Qa):Prop:=∀ q row,(∀ off n,v≠.ref q off n)→Qc H q=some row→Qc H' q=some row
theorem Own.fr {e s:Nat} {H H':Qa} {u v:V} {n:Nat} {cs:List V} (h:Own e s H v n cs) (hf:Fr u H H') (hne:∀ q off n m,u=.ref q off n→v≠.ref q 0 m):Own e s H' v n cs:=by
 rcases h with h | ⟨r,h1,h2,h3⟩
 ·exact .inl h
 ·exact .inr ⟨r,h1,hf r _ (fun off m hu=>hne r off m n hu h1) h2,h3⟩
theorem Qcv {y:Ty} {e:TypeId} {v x:V} {H:Qa} {n m:Nat} {cs news:List V} {K:V→Qa→Prop} (h:Own e y.size H v n cs) (hx:Jo y x H=some (m,news)) (hn:news.length=m*y.size) (hs:news.all Yc=true) (hy:0<y.size) (hb:0<y.bytes) (hl:(n+m)*y.bytes≤140737488355328)
  (hc:cs.all Yc=true) (hK:∀ v' H',Own e y.size H' v' (n+m) (cs++news)→Fr v H H'→H'.length=H.length+1→(∃ r,v'=.ref H.length 0 r)→K v' H'):Qaa y e v x H K:=by
 unfold Qaa;rw [hx];refine ⟨hn,hs,hy,hb, ?_⟩;rcases h with ⟨rfl,rfl,rfl⟩ | ⟨r,rfl,h2,h3⟩
 ·rw [Nat.zero_add] at hl;refine ⟨hl,hK _ _ (.inr ⟨H.length,by rw [Nat.zero_add],Xx _ _,by simpa using hn⟩) (fun q row _ hq=>Ql hq _) (by simp) ⟨m,rfl⟩⟩
 ·simp only [h2,true_and];refine ⟨h3,hc,hl,hK _ _ (.inr ⟨H.length,rfl, ?_,by simp [h3,hn,Nat.add_mul]⟩) (fun q row hq hrow=>?_) (by simp) ⟨n+m,rfl⟩⟩
  ·exact Qkr H r none _
  ·refine Ql ?_ _;rw [Qk]
   ·exact hrow
   ·rintro rfl;exact hq 0 n rfl
theorem Qxj {y:Ty} {e e' s' m:Nat} {v:V} {H:Qa} {n:Nat} {cs lit:List V} {K:V→Qa→Prop} (h:Own e y.size H v n cs) (hn:lit.length=m*y.size) (hs:lit.all Yc=true) (hy:0<y.size) (hb:0<y.bytes) (hl:(n+m)*y.bytes≤140737488355328)
  (hc:cs.all Yc=true) (hK:∀ v' H',Own e y.size H' v' (n+m) (cs++lit)→Fr v H H'→K v' H'):Qaa y e v (.ref H.length 0 m) (H++[some ⟨e',s',lit⟩]) K:=by
 refine Qcv (h.keep _) (news:=lit) ?_ hn hs hy hb hl hc fun v' H' h1 h2 _ _=>hK v' H' h1 fun q row hq hr=>h2 q row hq (Ql hr _)
 simp only [Jo,Xx,List.drop_zero];rw [← hn,List.take_length]
theorem Qdi {y:Ty} {e e' s':Nat} {v:V} {H:Qa} {xs:List Int} {x:Int} {K:V→Qa→Prop} (h:Own e 1 H v xs.length (ints xs)) (hy:y.size=1) (hb:0<y.bytes∧y.bytes≤8) (hl:xs.length+1≤17592186044416)
  (hK:∀ v' H',Own e 1 H' v' (xs++[x]).length (ints (xs++[x]))→Fr v H H'→K v' H'):Qaa y e v (.ref H.length 0 1) (H++[some ⟨e',s',[.int .i64 x]⟩]) K:=by
 rw [← hy] at h;refine Qxj h (by simp [hy]) (by simp [Yc]) (by omega) hb.1 ?_ (Qd8 _) fun v' H' h1 h2=>hK v' H' ?_ h2
 ·have:=Nat.mul_le_mul hl hb.2;omega
 ·rw [hy] at h1;rw [Qrv,List.length_append];exact h1
def Ret (e s:Nat) (H:Qa) (v:V) (n:Nat) (cs:List V):Prop:=(v=.nil∧n=0∧cs=[]∧H=[])∨(v=.ref 0 0 n∧H=[some ⟨e,s,cs⟩]∧cs.length=n*s)
theorem Own.ret {e s:Nat} {H:Qa} {v:V} {n:Nat} {cs:List V} (h:Own e s H v n cs) (hc:∀ g,Qe g cs=cs) {Q:V→Qa→Prop} (hQ:∀ v H,Ret e s H v n cs→Q v H):∃ sel,Qa7 sel Q v H:=by
 rcases h with ⟨rfl,rfl,rfl⟩ | ⟨r,rfl,h2,h3⟩
 ·exact ⟨[],by simp,by simp,hQ _ _ (.inl ⟨rfl,rfl,rfl,rfl⟩)⟩
 ·refine ⟨[r],by simp,by simpa using Xt h2,hQ _ _ (.inr ⟨by simp [ren,pos], ?_,h3⟩)⟩
  simp [Qbc,h2,Jv,hc]
theorem Own.ret2 {e s:Nat} {H:Qa} {v:V} {n:Nat} {cs:List V} (h:Own e s H v n cs) (hc:∀ g,Qe g cs=cs) {u:V} (hu:∀ g,ren g u=u) {Q:V→Qa→Prop} (hQ:∀ v H,Ret e s H v n cs→Q (.tup [v,u]) H):∃ sel,Qa7 sel Q (.tup [v,u]) H:=by
 rcases h with ⟨rfl,rfl,rfl⟩ | ⟨r,rfl,h2,h3⟩
 ·refine ⟨[],by simp,by simp, ?_⟩
  have:=hQ _ _ (.inl ⟨rfl,rfl,rfl,rfl⟩)
  simpa [ren,Qe,hu,Qbc] using this
 ·refine ⟨[r],by simp,by simpa using Xt h2, ?_⟩
  have:=hQ _ _ (.inr ⟨rfl,rfl,h3⟩)
  simpa [ren,Qe,hu,Qbc,pos,h2,Jv,hc] using this
theorem Ret.own {e s:Nat} {H H':Qa} {v:V} {n:Nat} {cs:List V} (h:Ret e s H' v n cs) (hc:∀ g,Qe g cs=cs):Own e s (H++Qbs (shift H.length) H') (ren (shift H.length) v) n cs:=by
 rcases h with ⟨rfl,rfl,rfl,rfl⟩ | ⟨rfl,rfl,h3⟩
 ·exact .inl ⟨rfl,rfl,rfl⟩
 ·refine .inr ⟨H.length,by simp [ren,shift], ?_,h3⟩
  have:Qc [some (⟨e,s,cs⟩:Row)] 0=some ⟨e,s,cs⟩:=rfl
  have:=Qio (H:=H) (shift H.length) this
  simpa [Jv,hc] using this
theorem Ret.plain {e s:Nat} {H:Qa} {v:V} {n:Nat} {cs:List V} (h:Ret e s H v n cs) (hp:Xd cs=true):plain v=true∧Jb H:=by
 rcases h with ⟨rfl,rfl,rfl,rfl⟩ | ⟨rfl,rfl,h3⟩
 ·exact ⟨rfl,fun r row hr=>by simp at hr⟩
 ·refine ⟨rfl,fun r row hr=>?_⟩
  cases r with
  | zero=>simp at hr;subst hr;exact hp
  | succ r=>simp at hr
theorem Own.bor {e s:Nat} {H:Qa} {v:V} {n:Nat} {cs:List V} (h:Own e s H v n cs) (hc:∀ j,j<cs.length→clo (nth cs j)=true):Bor H v (match v with | .nil=>.nil | _=>.sl n cs):=by
 rcases h with ⟨rfl,rfl,rfl⟩ | ⟨r,rfl,h2,h3⟩
 ·exact .clo _ rfl
 ·exact .ref r 0 n _ cs h2 (by simp) fun j hj=>by simpa using .clo _ (hc j hj)
def Qvn (b:Bool) (v x:V):V:=match b with | true=>v | false=>x
@[congr] theorem Xnb {uu:Prop} (h00:(True∧True)=uu) {b b':Bool} (v x:V) (h:b=b'):Qvn b v x=Qvn b' v x:=by rw [h]
theorem Qnx (v x:V):Qvn true v x=v:=rfl
theorem Qg4 (v x:V):Qvn false v x=x:=rfl
def cif (p:Prop) [Decidable p] (v:V):V:=if p then v else .any
theorem Xfh (v:V):cif True v=v:=rfl
def Qrm:List (Nat × V)→Nat→V
 | [],_=>.any
 | (i,v)::l,j=>Qvn (i==j) v (Qrm l j)
theorem Qf0 (i:Nat) (v:V) (l:List (Nat × V)) (j:Nat):Qrm ((i,v)::l) j=Qvn (i==j) v (Qrm l j):=rfl
def env (N:Nat) (l:List (Nat × V)):List V:=(List.range N).map (Qrm l)
theorem Zr (N:Nat) (l:List (Nat × V)):(env N l).length=N:=by simp [env]
theorem Qdb (N:Nat) (l:List (Nat × V)) (j:Nat):nth (env N l) j=cif (j<N) (Qrm l j):=by
 rw [Xo];simp only [env,cif,List.getD,List.getElem?_map,List.getElem?_range];split
 ·rename_i h;simp [List.getElem?_range,h]
 ·rename_i h;simp [h]
theorem Qfz {l m:List V} (hl:l.length=m.length) (h:∀ j,nth l j=nth m j):l=m:=by
 refine List.ext_getElem hl fun i h1 h2=>?_
 have:=h i
 rw [Xo,Xo] at this;simpa [List.getD,h1,h2] using this
theorem Xgt (N:Nat) (l:List (Nat × V)) (i:Nat) (v:V):upd (env N l) i v=env N ((i,v)::l):=by
 refine Qfz (by rw [Yi,Zr,Zr]) fun j=>?_
 rw [Zh,Qdb,Qdb,Zr,Qf0];by_cases h:j=i
 ·subst h;simp only [true_and,beq_self_eq_true,Qnx,cif];split<;>simp
 ·have:(i==j)=false:=by simpa using fun e=>h e.symm
  rw [if_neg (fun h'=>h h'.1),this,Qg4]
theorem Qh0:∀ (l:List (Nat × V)) (j:Nat),Qrm l j=.any∨(j,Qrm l j)∈l
 | [],j=>.inl rfl
 | (i,v)::l,j=>by
  rw [Qf0];by_cases h:i=j
  ·subst h;right;simp [Qvn]
  ·have:(i==j)=false:=by simpa using h
   rw [this,Qg4];rcases Qh0 l j with h1 | h1
   ·exact .inl h1
   ·exact .inr (by simp [h1])
theorem Xki {C:Ctx} {ro:Option Nat} {c:Code} {Q:Exit→List V→Qa→Prop} {ts:List V} {H:Qa} {N:Nat} (l:List (Nat × V)) (hL:ts.length=N) (hl:∀ p∈l,nth ts p.1=p.2) (h:T C ro c Q (env N l) H):T C ro c Q ts H:=by
 intro im pl w a hr;refine h im pl w a ⟨⟨by rw [Zr,← hL];exact hr.tr.1,fun j=>?_⟩,hr.hr,hr.df⟩
 rw [Qdb];unfold cif;split
 ·rcases Qh0 l j with h1 | h1
  ·rw [h1];exact .any _
  ·have:=hl _ h1
   simp only at this;rw [← this];exact hr.tr.2 j
 ·exact .any _
def Qa9:Nat→List V→List (Nat × V)
 | _,[]=>[]
 | k,a::l=>(k,a)::Qa9 (k+1) l
theorem Xas (k:Nat):Qa9 k []=[]:=rfl
theorem Ql1 (k:Nat) (a:V) (l:List V):Qa9 k (a::l)=(k,a)::Qa9 (k+1) l:=rfl
theorem Qf6:∀ (l:List V) (k:Nat) (p:Nat × V),p∈Qa9 k l→k≤p.1∧p.1<k+l.length∧nth l (p.1 - k)=p.2
 | [],k,p,h=>by simp [Qa9] at h
 | a::l,k,p,h=>by
  rw [Ql1] at h;rcases List.mem_cons.1 h with rfl | h
  ·simp [nth]
  ·obtain ⟨h1,h2,h3⟩:=Qf6 l (k+1) p h;refine ⟨by omega,by simp only [List.length_cons];omega, ?_⟩
   rw [show p.1 - k=(p.1 - (k+1))+1 by omega]
   simpa [nth] using h3
theorem Fc.bodyE {C:Ctx} {f:FuncId} {fn:Func} {c:Code} {args:List V} {H:Qa} {K:V→Qa→Prop} (hf:C.P.funcs[f]?=some fn) (hb:fn.body=some c) (hn:(fn.name == "runtime.NumGoroutine")=false) (ha:args.length≤fn.ntmps)
  (h:T C none c (Qmj C.ty fn.results.toList K) (env fn.ntmps (Qa9 0 args)) H):Fc C f args H K:=by
 refine Fc.body hf hb hn (Xki (Qa9 0 args) (by simp;omega) (fun p hp=>?_) h)
 obtain ⟨h1,h2,h3⟩:=Qf6 args 0 p hp;rw [Yj,if_pos (by omega)]
 exact h3
theorem Xhr {ty:TypeId→Ty} {cw:CW} {KL:List V→Qa→Prop} {ts:List V} {H:Qa} {l:List Oper} {d:Option Tmp} {op:Op} {t:TypeId} {p:String} {e:Array Edge} {j:Nat} {b:Bool} {rest:List Oper} {s:Tmp} (h:Qeb l j=some s) :
  Qa5 ty cw l.toArray KL (⟨d,op,t,p,e,some (j,b)⟩::rest) ts H=Qbh (nth ts s) s b ts (fun ts=>opc ty cw op ts H fun v H'=>Qa5 ty cw l.toArray KL rest (Xi ts d v) H') (fun ts=>Qa5 ty cw l.toArray KL rest (Xi ts d (.tup [])) H):=by
 rw [Qt1,Qi0,h,Qfl]
theorem Xhs {C:Ctx} {cw:CW} {KL:List V→Qa→Prop} {ts:List V} {H0 H:Qa} {l:List Oper} {d:Option Tmp} {op:Op} {t:TypeId} {p:String} {e:Array Edge} {j:Nat} {b:Bool} {rest:List Oper} {s:Tmp} (h:Qeb l j=some s) :
  Kx C cw l.toArray H0 KL (⟨d,op,t,p,e,some (j,b)⟩::rest) ts H=Qbh (nth ts s) s b ts (fun ts=>opd C cw op ts H0 H fun v H'=>Kx C cw l.toArray H0 KL rest (Xi ts d v) H') (fun ts=>Kx C cw l.toArray H0 KL rest (Xi ts d (.tup [])) H):=by
 rw [Qt2,Qi0,h,Qfl]
theorem Fc.pure {C:Ctx} {f:FuncId} {args:List V} {H:Qa} {u:V} {K:V→Qa→Prop} (h:Fc C f args [] fun v H=>v=u∧H=[]) (hc:Qf args=true) (hu:∀ g,ren g u=u) (hK:K u H):Fc C f args H K:=by
 refine h.call hc ?_;rintro v H' ⟨rfl,rfl⟩;simpa [hu,Qbs] using hK
theorem Pc.pure {C:Ctx} {H0:Qa} {f:FuncId} {args:List V} {H:Qa} {u:V} {K:V→Qa→Prop} (h:Fc C f args [] fun v H=>v=u∧H=[]) (hc:Qf args=true) (hu:∀ g,ren g u=u) (hK:K u H):Pc C H0 f args H K:=by
 refine Pc.call h ⟨u,[],rfl,rfl⟩ hc ?_;rintro v H' ⟨rfl,rfl⟩;simpa [hu,Qbs] using hK
theorem Fc.pureB {C:Ctx} {f:FuncId} {args args':List V} {H:Qa} {u:V} {K:V→Qa→Prop} (h:Fc C f args' [] fun v H=>v=u∧H=[]) (hl:args.length=args'.length) (hb:∀ j,Bor H (nth args j) (nth args' j)) (hu:∀ g,ren g u=u) (hp:plain u=true) (hK:K u H):Fc C f args H K:=by
 refine h.borrow hl hb ?_ ?_
 ·rintro v H' ⟨rfl,rfl⟩;exact ⟨hp,fun r row hr=>by simp at hr⟩
 ·rintro v H' ⟨rfl,rfl⟩;simpa [hu,Qbs] using hK
theorem VR.places {im:Nat→Prop} {pl pl':Nat→Place} {w:World} (hp:∀ r,pl r≠.no→pl' r=pl r) {v:V} {c:Value} (h:VR im pl w v c):VR im pl' w v c:=by
 induction h with
 | any v=>exact .any v
 | int k n=>exact .int k n
 | bool b=>exact .bool b
 | str s=>exact .str s
 | nil=>exact .nil
 | sl0 cs a c=>exact .sl0 cs a c
 | sl n cs ad c vs hn hi hc hr ih=>exact .sl n cs ad c vs hn hi hc ih
 | refAt r off n b cap c h hc h0=>exact .refAt r off n b cap c ((hp r (by rw [h];simp)).trans h) hc h0
 | refVirt r h=>exact .refVirt r ((hp r (by rw [h];simp)).trans h)
 | refDead r off n a c h=>exact .refDead r off n a c ((hp r (by rw [h];simp)).trans h)
 | agg cs vs hl hr ih=>exact .agg cs vs hl ih
 | tup cs vs hl hr ih=>exact .tup cs vs hl ih
 | ptrAt r off b cap h=>exact .ptrAt r off b cap ((hp r (by rw [h];simp)).trans h)
 | ptrDead r off a h=>exact .ptrDead r off a ((hp r (by rw [h];simp)).trans h)
 | nilp=>exact .nilp
 | rp cs off ad vs hi hc hr ih=>exact .rp cs off ad vs hi hc ih
 | fn f xs ys us vs hl hr hl' hr' ih ih'=>exact .fn f xs ys us vs hl ih hl' ih'
 | nilf=>exact .nilf
 | mp k ks cs b es clock vs hi hb hf hr ih=>exact .mp k ks cs b es clock vs hi hb hf ih
theorem HR.adopt {im:Nat→Prop} {pl:Nat→Place} {w:World} {H:Qa} (h:HR im pl w H) (e:Nat) (cs:List V) (cur:Array Value) {b:Nat} (hb:w.heap[b]?=some (.cells cur e (0,0))) (hi:¬ im b) (hn:∀ r cap,pl r≠.at b cap)
  (hl:cs.length=cur.size) (hv:∀ j,VR im pl w (nth cs j) (cur.getD j undef)):HR im (Qat pl H.length (.at b 1)) w (H++[some ⟨e,cs.length,cs⟩])∧∀ v c,VR im pl w v c→VR im (Qat pl H.length (.at b 1)) w v c:=by
 have hno:=h.no (Nat.le_refl _)
 have hp:∀ r,pl r≠.no→Qat pl H.length (.at b 1) r=pl r:=fun r hr=>Qq _ _ _ _ (fun e=>hr (e ▸ hno))
 have hlt:b<w.heap.size:=(Array.getElem?_eq_some_iff.1 hb).1
 have old:∀ r c b',Qat pl H.length (.at b 1) r=.at b' c→(r=H.length∧b'=b∧c=1)∨(r≠H.length∧pl r=.at b' c):=fun r c b' hr=>by
  by_cases e1:r=H.length
  ·subst e1;rw [Qu] at hr;injection hr with h1 h2;exact .inl ⟨rfl,h1.symm,h2.symm⟩
  ·rw [Qq _ _ _ _ e1] at hr;exact .inr ⟨e1,hr⟩
 refine ⟨⟨fun r=>?_,fun b' hb' r c hr=>?_,fun r b' c hr=>?_,h.imb,fun r r' b' c c' h1 h2=>?_,fun r hr=>?_,fun r hr=>?_,fun r b' c hr=>?_⟩,fun v c hvc=>hvc.places hp⟩
 ·by_cases e1:r=H.length
  ·subst e1;rw [Qu];simp
  ·rw [Qq _ _ _ _ e1];rw [← h.len r];simp;omega
 ·rcases old r c b' hr with ⟨_,rfl,_⟩ | ⟨_,h1⟩
  ·exact hi hb'
  ·exact h.apart b' hb' r c h1
 ·rcases old r c b' hr with ⟨_,rfl,_⟩ | ⟨_,h1⟩
  ·exact hlt
  ·exact h.bound r b' c h1
 ·rcases old r c b' h1 with ⟨q1,q2,_⟩ | ⟨q1,q2⟩<;>rcases old r' c' b' h2 with ⟨p1,p2,_⟩ | ⟨p1,p2⟩
  ·rw [q1,p1]
  ·subst q2;exact (hn r' c' p2).elim
  ·subst p2;exact (hn r c q2).elim
  ·exact h.inj r r' b' c c' q2 p2
 ·by_cases e1:r=H.length
  ·subst e1;rw [Qu] at hr;cases hr
  ·rw [Qq _ _ _ _ e1] at hr;rw [List.getElem?_append_left (h.lt (by rw [hr];simp))];exact h.dead r hr
 ·by_cases e1:r=H.length
  ·subst e1;rw [Qu] at hr;cases hr
  ·rw [Qq _ _ _ _ e1] at hr;rw [List.getElem?_append_left (h.lt (by rw [hr];simp))];exact h.virt r hr
 ·rcases old r c b' hr with ⟨rfl,rfl,rfl⟩ | ⟨_,h1⟩
  ·exact ⟨e,cs.length,cs,cur,by simp,hb,by omega,by simp [maxLen],by omega,fun j=>(hv j).places hp⟩
  ·obtain ⟨e',s',cs',cur',q1,q2,q3,q4,q5,q6⟩:=h.row r b' c h1;exact ⟨e',s',cs',cur',by rw [List.getElem?_append_left (h.lt (by rw [h1];simp))];exact q1,q2,q3,q4,q5,fun j=>(q6 j).places hp⟩
def Qh7:Op→Option TypeId
 | .alloc t=>some t
 | _=>none
def Qaf (ops:Array Oper) (i j:Nat):Bool:=match ops[i]?,ops[j]? with
 | some x,some y=>x.apart ops y
 | _,_=>true
def Qaz (C:Ctx) (ops:Array Oper) (m:Nat):Bool:=match ops[m]? with
 | some o=>(match Qh7 o.op with | some t=>(C.ty t).ok | none=>false)&&o.dst.isSome&&o.guard.isNone&&o.after.toList.all fun e=>!Region.binds .any e
 | none=>false
def Qic (C:Ctx) (ops:Array Oper):Bool :=
 Yf ops &&
 ((List.range ops.size).all fun i=>match ops[i]? with
  | none=>true
  | some o=>Qaz C ops i ||
   ((o.after.toList.all fun e=>!Region.binds .any e||decide (e.on<i)) &&
   ((List.range i).all fun j=>Qaz C ops j||Jc ops j i||Jt ops i j i) &&
   (!Yv o.op||(List.range ops.size).all fun j=>match ops[j]? with
    | some p=>!Xp p.op||Jq ops i j i
    | none=>true) &&
   (!Qgi o.op||(List.range ops.size).all fun j=>match ops[j]? with
    | some p=>Zq p.op||Xj p.op||Jq ops i j i
    | none=>true))) &&
 ((List.range ops.size).all fun m=>!Qaz C ops m||(
  ((List.range m).all fun j=>Qaf ops j m) &&
  ((List.range ops.size).all fun i=>decide (i≤m)||Qaz C ops i||Jc ops m i||(Jt ops i m i&&(List.range m).all fun j =>
   match Qaz C ops j with
   | true=>Jt ops i j i
   | false=>Jt ops i j i||(List.range ops.size).all fun k=>decide (k≤j)||decide (m<k)||!Qaz C ops k||Jc ops j k))))
structure LateS (C:Ctx) (ops:Array Oper) (L:Nat→Prop):Prop where
 known:Yf ops=true
 hat:∀ i o,ops[i]?=some o→¬ L i→Hat ops (fun j=>¬ L j) i o
 late:∀ m,L m→∃ om t d,ops[m]?=some om∧om.op=.alloc t∧om.dst=some d∧om.guard=none∧(∀ j,Qy om j=false)∧(C.ty t).ok=true
 slots:∀ m j,L m→j<m→Qaf ops j m=true
 pair:∀ i m,i<ops.size→¬ L i→L m→m<i→Jc ops m i=true∨(Jt ops i m i=true∧(∀ j,j<m→L j→Jt ops i j i=true)∧∀ j,j<m→¬ L j→Jt ops i j i=true∨∀ k,L k→j<k→k≤m→Jc ops j k=true)
theorem Qu8 {C:Ctx} {ops:Array Oper} (h:Qic C ops=true):LateS C ops (fun i=>Qaz C ops i=true):=by
 simp only [Qic,Bool.and_eq_true,List.all_eq_true,List.mem_range] at h;obtain ⟨⟨h1,h2⟩,h3⟩:=h
 have hlt:∀ m,Qaz C ops m=true→m<ops.size:=fun m hm=>by
  unfold Qaz at hm;split at hm
  ·rename_i o ho;exact (Array.getElem?_eq_some_iff.1 ho).1
  ·cases hm
 refine ⟨h1,fun i o ho hn=>?_,fun m hm=>?_,fun m j hm hj=>?_,fun i m hi hn hm hmi=>?_⟩
 ·have hlt:i<ops.size:=(Array.getElem?_eq_some_iff.1 ho).1
  have h:=h2 i hlt
  simp only [ho,Bool.and_eq_true,List.all_eq_true,List.mem_range,Bool.or_eq_true,Bool.not_eq_true',decide_eq_true_eq] at h
  have h:=h.resolve_left hn
  refine ⟨fun j hj=>?_,fun j hj hjm=>?_,fun hs j p hp hl=>?_,fun hs j p hp=>?_⟩
  ·simp only [Qy,List.any_eq_true,Bool.and_eq_true] at hj;obtain ⟨e,he,h4,h5⟩:=hj;rw [beq_iff_eq] at h5;subst h5;rcases h.1.1.1 e he with h6 | h6
   ·rw [h4] at h6;cases h6
   ·exact h6
  ·rcases h.1.1.2 j hj with (h5 | h5) | h5
   ·exact (hjm h5).elim
   ·exact .inl h5
   ·exact .inr h5
  ·have hlj:j<ops.size:=(Array.getElem?_eq_some_iff.1 hp).1
   rcases h.1.2 with h6 | h6
   ·rw [hs] at h6;cases h6
   ·have:=h6 j hlj
    simp only [hp,Bool.or_eq_true,Bool.not_eq_true',hl,Bool.true_eq_false,false_or] at this;exact this
  ·have hlj:j<ops.size:=(Array.getElem?_eq_some_iff.1 hp).1
   rcases h.2 with h6 | h6
   ·rw [hs] at h6;cases h6
   ·have:=h6 j hlj
    simp only [hp,Bool.or_eq_true] at this;exact this
 ·unfold Qaz at hm;split at hm
  ·rename_i o ho;simp only [Bool.and_eq_true,List.all_eq_true,Bool.not_eq_true',Option.isNone_iff_eq_none] at hm;obtain ⟨⟨⟨q1,q2⟩,q3⟩,q4⟩:=hm;obtain ⟨d,hd⟩:=Option.isSome_iff_exists.1 q2;split at q1
   ·rename_i t ht;refine ⟨o,t,d,ho, ?_,hd,q3,fun j=>?_,q1⟩
    ·cases hop:o.op<;>rw [hop] at ht<;>simp [Qh7] at ht;rw [ht]
    ·simp only [Qy,List.any_eq_false,Bool.and_eq_true,not_and];intro e he hb;rw [q4 e he] at hb;cases hb
   ·cases q1
  ·cases hm
 ·have:=h3 m (hlt m hm)
  simp only [hm,Bool.not_true,Bool.false_or,Bool.and_eq_true,List.all_eq_true,List.mem_range] at this;exact this.1 j hj
 ·have:=h3 m (hlt m hm)
  simp only [hm,Bool.not_true,Bool.false_or,Bool.and_eq_true,List.all_eq_true,List.mem_range] at this
  have:=this.2 i hi
  simp only [Bool.or_eq_true,Bool.and_eq_true,decide_eq_true_eq,List.all_eq_true,List.mem_range] at this;rcases this with ((h5 | h5) | h5) | ⟨h5,h6⟩
  ·omega
  ·exact (hn h5).elim
  ·exact .inl h5
  ·refine .inr ⟨h5,fun j hj hl=>?_,fun j hj hl=>?_⟩
   ·have:=h6 j hj
    rw [hl] at this;exact this
   ·have:=h6 j hj
    have hl':Qaz C ops j=false:=by simpa using hl
    rw [hl'] at this;simp only [Bool.or_eq_true,List.all_eq_true,List.mem_range,decide_eq_true_eq,Bool.not_eq_true'] at this;refine this.imp id fun h k hk hjk hkm=>?_
    rcases h k (hlt k hk) with ((h7 | h7) | h7) | h7
    ·omega
    ·omega
    ·rw [hk] at h7;cases h7
    ·exact h7
structure Pn where
 m:Nat
 d:Nat
 t:TypeId
def Qce (P:List Pn) (ts:List V):List V:=P.foldr (fun p ts=>upd ts p.d .any) ts
theorem Qak (p:Pn) (P:List Pn) (ts:List V):Qce (p::P) ts=upd (Qce P ts) p.d .any:=rfl
theorem Kc (P:List Pn) (ts:List V):(Qce P ts).length=ts.length:=by
 induction P with
 | nil=>rfl
 | cons p P ih=>rw [Qak,Yi,ih]
theorem Qwe {P:List Pn} {p:Pn} (hp:p∈P) (ts:List V):nth (Qce P ts) p.d=.any:=by
 induction P with
 | nil=>cases hp
 | cons q P ih =>
  rw [Qak,Zh];split
  ·rfl
  ·rename_i hn;rcases List.mem_cons.1 hp with rfl | hp
   ·rw [Xo,List.getD_eq_getElem?_getD,List.getElem?_eq_none]
    ·rfl
    ·simp only [true_and,Nat.not_lt] at hn;exact hn
   ·exact ih hp
theorem Qkh {P:List Pn} {j:Nat} (hp:∀ p∈P,p.d≠j) (ts:List V):nth (Qce P ts) j=nth ts j:=by
 induction P with
 | nil=>rfl
 | cons q P ih =>
  rw [Qak,Zh,if_neg (fun h=>hp q (by simp) h.1.symm)]
  exact ih fun p h=>hp p (by simp [h])
theorem Qqc {P P':List Pn} (h:∀ p,p∈P↔p∈P') (ts:List V):Qce P ts=Qce P' ts:=by
 refine Qfz (by rw [Kc,Kc]) fun j=>?_
 by_cases hj:∃ p∈P,p.d=j
 ·obtain ⟨p,hp,rfl⟩:=hj;rw [Qwe hp,Qwe ((h p).1 hp)]
 ·have h1:∀ p∈P,p.d≠j:=fun p hp e=>hj ⟨p,hp,e⟩
  rw [Qkh h1,Qkh fun p hp=>h1 p ((h p).2 hp)]
theorem Qdu {P:List Pn} {dst:Option Tmp} (h:∀ p∈P,dst≠some p.d) (v:V) (ts:List V):Xi (Qce P ts) dst v=Qce P (Xi ts dst v):=by
 induction P with
 | nil=>rfl
 | cons p P ih =>
  rw [Qak,Qak,← ih fun q hq=>h q (by simp [hq])]
  exact (Qm2 (d:=some p.d) (e:=dst) (fun t ht e=>h p (by simp) (by rw [e,ht])) .any v)
theorem Qqg {C:Ctx} {cw:CW} {ops:Array Oper} {H0:Qa} {o:Oper} {P:List Pn} (h:∀ p∈P,p.d ∉ o.looksAt ops) (ts:List V):tro C cw ops H0 o (Qce P ts)=tro C cw ops H0 o ts:=by
 induction P with
 | nil=>rfl
 | cons p P ih =>
  rw [Qak]
  have:tro C cw ops H0 o (Xi (Qce P ts) (some p.d) .any)=tro C cw ops H0 o (Qce P ts):=Qod fun t ht=>by injection ht with ht;subst ht;exact h p (by simp)
  exact this.trans (ih fun q hq=>h q (by simp [hq]))
def InvL (C:Ctx) (im:Nat→Prop) (pl:Nat→Place) (w0:World) (ds:List Deferred) (P:List Pn) (ts:List V) (H:Qa) (a:Act) (w:World):Prop:=∃ im' pl' ,∃ b:Nat→Nat,Rel im' pl' w (Qce P ts) H a∧Ext im pl w0 im' pl' w∧a.defers=ds ∧
 (∀ p∈P,∀ q∈P,b p.d=b q.d→p.d=q.d)∧∀ p∈P,w0.heap.size≤b p.d∧w.heap[b p.d]?=some (.cells (C.ty p.t).z.cells p.t (0,0))∧¬ im' (b p.d)∧(∀ r cap,pl' r≠.at (b p.d) cap)∧(a.tmps.getD p.d undef=.pointer (some ⟨b p.d,0,none⟩)∨a.tmps.size≤p.d)
theorem Qaq (a:Act) {dd:Option Tmp} {d:Nat} (v:Value) (h:dd≠some d):(a.put dd v).tmps.getD d undef=a.tmps.getD d undef∧(a.put dd v).tmps.size=a.tmps.size:=by
 cases dd with
 | none=>exact ⟨rfl,rfl⟩
 | some i =>
  have hne:i≠d:=fun e=>h (by rw [e])
  exact ⟨by simp [Act.put,Array.getD_eq_getD_getElem?,Array.getElem?_setIfInBounds,hne],by simp [Act.put]⟩
theorem Qej {C:Ctx} {cw:CW} {ops:Array Oper} {H0:Qa} {o:Oper} {ts:List V} {H:Qa} {K:V→Qa→Prop} (hg:o.guard=none) (h:tro C cw ops H0 o ts H K):opd C cw o.op ts H0 H K:=by
 simp only [tro,Qbg,hg] at h;exact h
section
variable {C:Ctx} {im:Nat→Prop} {pl:Nat→Place} {w0:World} {ds:List Deferred}
theorem InvL.mem {P P':List Pn} (h:∀ p,p∈P↔p∈P') {ts:List V} {H:Qa} {a:Act} {w:World} (hI:InvL C im pl w0 ds P ts H a w):InvL C im pl w0 ds P' ts H a w:=by
 obtain ⟨im',pl',b,h1,h2,h3,h4,h5⟩:=hI;exact ⟨im',pl',b,by rw [← Qqc h];exact h1,h2,h3,fun p hp q hq=>h4 p ((h p).2 hp) q ((h q).2 hq),fun p hp=>h5 p ((h p).2 hp)⟩
theorem InvL.flush {p:Pn} {P:List Pn} (ht:(C.ty p.t).ok=true) (hd:∀ q∈P,q.d≠p.d) {ts:List V} {H:Qa} {a:Act} {w:World} (h:InvL C im pl w0 ds (p::P) ts H a w) :
  InvL C im pl w0 ds P (upd ts p.d (.ptr H.length 0)) (H++[some ⟨p.t,(Xb (C.ty p.t)).length,Xb (C.ty p.t)⟩]) a w:=by
 obtain ⟨im',pl',b,h1,h2,h3,hinj,hall⟩:=h;obtain ⟨h4,h5,h6,h7,h8⟩:=hall p (by simp)
 have hz:=Qmq (im:=im') (pl:=pl') (w:=w) (C.ok p.t ht)
 obtain ⟨g1,g2⟩:=h1.hr.adopt p.t (Xb (C.ty p.t)) (C.ty p.t).z.cells h5 h6 h7 hz.1 hz.2
 have hno:=h1.hr.no (Nat.le_refl _)
 have hw:Qce P (upd ts p.d (.ptr H.length 0))=upd (Qce P ts) p.d (.ptr H.length 0):=(Qdu (dst:=some p.d) (fun q hq e=>hd q hq (by injection e with e;exact e.symm)) _ ts).symm
 refine ⟨im',Qat pl' H.length (.at (b p.d) 1),b,⟨⟨?_,fun i=>?_⟩,g1, ?_⟩,⟨h2.os,h2.tape,h2.output,h2.size,h2.imm,h2.imn,fun r hr=>?_,fun r b' c hr=>?_,h2.frame⟩,h3,fun x hx y hy=>hinj x (by simp [hx]) y (by simp [hy]),fun q hq=>?_⟩
 ·have:=h1.tr.1;rw [Kc] at this ⊢;rw [Yi];exact this
 ·have:=h1.tr.2 i
  rw [hw];rw [Qak] at this;rw [Zh] at this ⊢;by_cases hi:i=p.d∧p.d<(Qce P ts).length
  ·rw [if_pos hi];obtain ⟨rfl,hlt⟩:=hi;rcases h8 with h8 | h8
   ·rw [h8];exact .ptrAt _ 0 (b p.d) 1 (Qu _ _ _)
   ·have:=h1.tr.1;rw [Kc] at this hlt;omega
  ·rw [if_neg hi] at this ⊢;exact g2 _ _ this
 ·obtain ⟨q1,q2⟩:=h1.df;refine ⟨q1,fun dd hd=>?_⟩
  obtain ⟨r,e1,e2,e3⟩:=q2 dd hd;refine ⟨r,e1,e2,fun q cap hq=>?_⟩
  by_cases e4:q=H.length
  ·subst e4;rw [Qu] at hq;injection hq with e5 _;subst e5;rw [h5] at e2;cases e2
  ·rw [Qq _ _ _ _ e4] at hq;exact e3 q cap hq
 ·rcases h2.plo r hr with h | h
  ·exact .inl (by rw [Qq _ _ _ _ (fun e=>hr (by rw [← h,e];exact hno))];exact h)
  ·exact .inr (by rw [Qq _ _ _ _ (fun e=>by rw [e,hno] at h;cases h)];exact h)
 ·by_cases e1:r=H.length
  ·subst e1;rw [Qu] at hr;injection hr with e2 _;exact .inr (by omega)
  ·rw [Qq _ _ _ _ e1] at hr;exact h2.pln r b' c hr
 ·obtain ⟨k4,k5,k6,k7,k8⟩:=hall q (by simp [hq])
  refine ⟨k4,k5,k6,fun r cap hr=>?_,k8⟩
  by_cases e1:r=H.length
  ·subst e1;rw [Qu] at hr;injection hr with e2 _
   exact hd q hq (hinj p (by simp) q (by simp [hq]) e2).symm
  ·rw [Qq _ _ _ _ e1] at hr;exact k7 r cap hr
theorem InvL.op {ro:Option Nat} {H0:Qa} {o:Oper} {P:List Pn} {ts:List V} {H:Qa} {a:Act} {w:World} {KK:V→Qa→Prop} {next:Act→World→Prop} {R:Exit→Act→World→Prop} (hd:∀ p∈P,o.dst≠some p.d) (h:opc C.ty (cwP C H0) o.op (Qce P ts) H KK) (hR:InvL C im pl w0 ds P ts H a w)
  (hnext:∀ v vc H' w',KK v H'→InvL C im pl w0 ds P (Xi ts o.dst v) H' (a.put o.dst vc) w'→next (a.put o.dst vc) w'):o.wpIn (FW ro) 0 C.P a w next R:=by
 obtain ⟨im',pl',b,h1,h2,h3,hinj,hall⟩:=hR;refine Zt (Qcd C H0 ro) h h1.tr h1.hr fun v vc H2 im2 pl2 w2 k1 k2 k3 k4=>hnext v vc H2 w2 k1 ⟨im2,pl2,b, ?_,h2.trans k4,by rw [Xa];exact h3,hinj,fun p hp=>?_⟩
 ·have:=h1.put k4 k3 k2 o.dst
  rwa [Qdu hd] at this
 ·obtain ⟨h4,h5,h6,h7,h8⟩:=hall p hp
  have hlt:b p.d<w.heap.size:=(Array.getElem?_eq_some_iff.1 h5).1
  refine ⟨h4,by rw [k4.frame _ hlt h7];exact h5,fun hb=>?_,fun r cap hr=>?_, ?_⟩
  ·rcases k4.imn _ hb with q | q | ⟨r,cap,q⟩
   ·exact h6 q
   ·omega
   ·exact h7 r cap q
  ·rcases k4.pln r _ cap hr with ⟨r',cap',q⟩ | q
   ·exact h7 r' cap' q
   ·omega
  ·obtain ⟨e1,e2⟩:=Qaq a vc (hd p hp);rw [e1,e2];exact h8
theorem InvL.skip {P:List Pn} {ts:List V} {H:Qa} {a:Act} {w:World} {dd:Option Tmp} (hd:∀ p∈P,dd≠some p.d) (hR:InvL C im pl w0 ds P ts H a w):InvL C im pl w0 ds P (Xi ts dd (.tup [])) H (a.put dd (.tuple [].toArray)) w:=by
 obtain ⟨im',pl',b,h1,h2,h3,hinj,hall⟩:=hR;refine ⟨im',pl',b, ?_,h2,by rw [Xa];exact h3,hinj,fun p hp=>?_⟩
 ·have:=h1.put (.refl _ _ _) h1.hr (v:=.tup []) (vc:=.tuple [].toArray) (.tup [] [] rfl fun j=>by simp [nth,List.getD];exact .any _) dd
  rwa [Qdu hd] at this
 ·obtain ⟨h4,h5,h6,h7,h8⟩:=hall p hp;obtain ⟨e1,e2⟩:=Qaq a (.tuple [].toArray) (hd p hp);exact ⟨h4,h5,h6,h7,by rw [e1,e2];exact h8⟩
theorem InvL.made {ro:Option Nat} {p:Pn} (ht:(C.ty p.t).ok=true) {o:Oper} (ho:o.op=.alloc p.t) (hd:o.dst=some p.d) {P:List Pn} (hne:∀ q∈P,q.d≠p.d) {ts:List V} {H:Qa} {a:Act} {w:World} {next:Act→World→Prop} {R:Exit→Act→World→Prop} (hR:InvL C im pl w0 ds P ts H a w)
  (hnext:∀ vc w',InvL C im pl w0 ds (p::P) ts H (a.put o.dst vc) w'→next (a.put o.dst vc) w'):o.wpIn (FW ro) 0 C.P a w next R:=by
 obtain ⟨im',pl',b,h1,h2,h3,hinj,hall⟩:=hR;refine ⟨fun _ _=>trivial, ?_⟩
 rw [Oper.semAt_eq ro a.eval o (fun c=>by rw [ho];simp)]
 have hrun:(execOp a.eval o).run C.P w=.ok (.value (.pointer (some ⟨w.heap.size,0,none⟩))) (w.alloc (.cells (C.ty p.t).z.cells p.t)):=by
  simp only [execOp,ho,Instr.alloc,Sem.run_bind,(C.ok p.t ht).zero,Qch,Sem.run_pure,Result.andThen_ok]
 rw [hrun]
 have hE:Ext im' pl' w im' pl' (w.alloc (.cells (C.ty p.t).z.cells p.t)):=⟨rfl,rfl,rfl,by simp,fun _ hb=>hb,fun _ hb=>.inl hb,fun r hr=>.inl rfl,fun r b c hb=>.inl ⟨r,c,hb⟩,fun b hb _=>heap_alloc_old _ _ _ hb⟩
 have hH:HR im' pl' (w.alloc (.cells (C.ty p.t).z.cells p.t)) H:=by
  obtain ⟨g1,g2,g3,g4,g5,g6,g7,g8⟩:=h1.hr;refine ⟨g1,g2,fun r b c hr=>Nat.lt_of_lt_of_le (g3 r b c hr) hE.size,fun b hb=>Nat.lt_of_lt_of_le (g4 b hb) hE.size,g5,g6,g7,fun r b c hr=>?_⟩
  obtain ⟨e,s,cs,cur,q1,q2,q3,q4,q5,q6⟩:=g8 r b c hr;exact ⟨e,s,cs,cur,q1,by rw [heap_alloc_old _ _ _ (g3 r b c hr)];exact q2,q3,q4,q5,fun j=>(q6 j).mono hE g2⟩
 have old:∀ q∈P,b q.d<w.heap.size:=fun q hq=>(Array.getElem?_eq_some_iff.1 (hall q hq).2.1).1
 refine hnext _ _ ⟨im',pl',fun x=>if x=p.d then w.heap.size else b x, ?_,h2.trans hE,by rw [Xa];exact h3, ?_,fun q hq=>?_⟩
 ·have:=h1.put hE hH (v:=.any) (vc:=.pointer (some ⟨w.heap.size,0,none⟩)) (.any _) o.dst
  rw [hd] at this ⊢;exact this
 ·intro x hx y hy e;by_cases e1:x.d=p.d
  ·by_cases e2:y.d=p.d
   ·rw [e1,e2]
   ·simp only [e1,e2,if_true,if_false] at e;rcases List.mem_cons.1 hy with rfl | hy
    ·exact (e2 rfl).elim
    ·have:=old y hy;omega
  ·by_cases e2:y.d=p.d
   ·simp only [e1,e2,if_true,if_false] at e;rcases List.mem_cons.1 hx with rfl | hx
    ·exact (e1 rfl).elim
    ·have:=old x hx;omega
   ·simp only [e1,e2,if_false] at e;rcases List.mem_cons.1 hx with rfl | hx
    ·exact (e1 rfl).elim
    rcases List.mem_cons.1 hy with rfl | hy
    ·exact (e2 rfl).elim
    exact hinj x hx y hy e
 ·by_cases e1:q.d=p.d
  ·have hqp:q=p:=by
    rcases List.mem_cons.1 hq with h | h
    ·exact h
    ·exact (hne q h e1).elim
   subst hqp;simp only [if_true];refine ⟨h2.size,heap_alloc_new _ _,fun hb=>Nat.lt_irrefl _ (h1.hr.imb _ hb),fun r cap hr=>Nat.lt_irrefl _ (h1.hr.bound r _ cap hr), ?_⟩
   rw [hd];by_cases hlt:q.d<a.tmps.size
   ·left;simp [Act.put,Array.getD_eq_getD_getElem?,Array.getElem?_setIfInBounds,hlt]
   ·right;simp [Act.put];omega
  ·simp only [e1,if_false]
   have hqP:q∈P:=by
    rcases List.mem_cons.1 hq with h | h
    ·exact (e1 (by rw [h])).elim
    ·exact h
   obtain ⟨h4,h5,h6,h7,h8⟩:=hall q hqP;obtain ⟨e3,e4⟩:=Qaq a (.pointer (some ⟨w.heap.size,0,none⟩)) (dd:=o.dst) (d:=q.d) (by rw [hd];intro e;injection e with e;exact e1 e.symm)
   exact ⟨h4,by rw [heap_alloc_old _ _ _ (old q hqP)];exact h5,h6,h7,by rw [e3,e4];exact h8⟩
structure LeftP (C:Ctx) (ops:Array Oper) (L:Nat→Prop) (listed:Array Bool) (S:List Nat) (P:List Pn):Prop where
 size:listed.size=ops.size
 sorted:S.Pairwise (·<·)
 lt:∀ i∈S,i<ops.size
 mem:∀ i,(i∈S∧∀ p∈P,p.m≠i)↔i<ops.size∧listed.getD i false=false
 sub:∀ p∈P,p.m∈S∧L p.m∧∃ om,ops[p.m]?=some om∧om.op=.alloc p.t∧om.dst=some p.d
 closed:Qdt ops listed
theorem Qrr (q:Nat→Prop):∀ n,(∀ m,m<n→¬ q m)∨∃ m,m<n∧q m∧∀ k,m<k→k<n→¬ q k
 | 0=>.inl fun m h=>by omega
 | n+1=>by
  by_cases h:q n
  ·exact .inr ⟨n,by omega,h,fun k h1 h2=>by omega⟩
  ·rcases Qrr q n with h1 | ⟨m,h1,h2,h3⟩
   ·refine .inl fun m hm=>?_
    by_cases e:m=n
    ·rw [e];exact h
    ·exact h1 m (by omega)
   ·refine .inr ⟨m,by omega,h2,fun k h4 h5=>?_⟩
    by_cases e:k=n
    ·rw [e];exact h
    ·exact h3 k h4 (by omega)
theorem Qo8 {ops:Array Oper} {L:Nat→Prop} (hL:LateS C ops L) {H0:Qa} {K:List V→Qa→Prop} {a:Act} {w:World} (k:Nat):∀ (n:Nat) (S:List Nat) (P:List Pn) (ts:List V) (H:Qa),S.length≤n→S.Pairwise (·<·) →
  (∀ p∈P,p.m∈S∧L p.m∧∃ om,ops[p.m]?=some om∧om.op=.alloc p.t∧om.dst=some p.d)→(∀ m∈S,L m→m<k→∃ p∈P,p.m=m)→(∀ j∈S,¬ L j→∀ m,L m→j<m→m<k→Jc ops j m=true) →
  Jf C (cwP C H0) ops H0 K S ts H→InvL C im pl w0 ds P ts H a w →
  ∃ S' P' ts' H',(∀ i,i∈S'↔i∈S∧¬ (L i∧i<k))∧S'.Sublist S∧(∀ p,p∈P'↔p∈P∧¬ p.m<k)∧Same H H'∧Jf C (cwP C H0) ops H0 K S' ts' H'∧InvL C im pl w0 ds P' ts' H' a w
 | 0,S,P,ts,H,hn,hs,hP,hM,hp,hx,hI=>by
  have:S=[]:=List.length_eq_zero_iff.1 (by omega)
  subst this
  have:P=[]:=by
   cases P with
   | nil=>rfl
   | cons p P=>have:=(hP p (by simp)).1;simp at this
  subst this;exact ⟨[],[],ts,H,by simp,.refl _,by simp,.refl _,hx,hI⟩
 | n+1,S,P,ts,H,hn,hs,hP,hM,hp,hx,hI=>by
  by_cases hnone:∀ m∈S,¬ (L m∧m<k)
  ·exact ⟨S,P,ts,H,fun i=>⟨fun h=>⟨h,hnone i h⟩,fun h=>h.1⟩,.refl _,fun p=>⟨fun h=>⟨h,fun e=>hnone p.m (hP p h).1 ⟨(hP p h).2.1,e⟩⟩,fun h=>h.1⟩,.refl _,hx,hI⟩
  -- the first one
  have hfirst:∀ (S:List Nat),¬ (∀ m∈S,¬ (L m∧m<k))→∃ A m B,S=A++m::B∧(L m∧m<k)∧∀ x∈A,¬ (L x∧x<k):=by
   intro S
   induction S with
   | nil=>intro h;exact (h (by simp)).elim
   | cons x S ih =>
    intro h;by_cases hx:L x∧x<k
    ·exact ⟨[],x,S,rfl,hx,by simp⟩
    ·obtain ⟨A,m,B,e,h1,h2⟩:=ih fun h'=>h fun m hm=>by
      rcases List.mem_cons.1 hm with rfl | hm
      ·exact hx
      ·exact h' m hm
     exact ⟨x::A,m,B,by rw [e];rfl,h1,fun y hy=>by
      rcases List.mem_cons.1 hy with rfl | hy
      ·exact hx
      ·exact h2 y hy⟩
  obtain ⟨A,m,B,rfl,⟨hLm,hmk⟩,hA⟩:=hfirst S hnone
  have hs':=hs
  rw [List.pairwise_append] at hs'
  have hlt:∀ x∈A,x<m:=fun x hx=>hs'.2.2 x hx m (by simp)
  have hgt:∀ x∈B,m<x:=fun x hx=>(List.pairwise_cons.1 hs'.2.1).1 x hx
  have hAL:∀ x∈A,¬ L x:=fun x hx hl=>hA x hx ⟨hl,Nat.lt_trans (hlt x hx) hmk⟩
  obtain ⟨p,hpP,rfl⟩:=hM m (by simp) hLm hmk
  obtain ⟨-, -,om,hom,hop,hdst⟩:=hP p hpP;obtain ⟨om',t',d',hom',hop',hdst',hgd, -,hty⟩:=hL.late p.m hLm;rw [hom] at hom';cases hom';rw [hop] at hop';cases hop'
  have h1:=Qas (Qa1 C H0) hL.known B A (fun j hj=>hp j (by simp [hj]) (hAL j hj) p.m hLm (hlt j hj) hmk) ts H hx
  simp only [Jf,hom] at h1
  have h2:=Qej hgd h1
  rw [hop] at h2;simp only [opd,Xj,if_true,opc,opw] at h2
  have h3:=h2.2
  rw [hdst] at h3
  -- the others' slots are others
  have hslot:∀ q∈P,q.m≠p.m→q.d≠p.d:=fun q hq hne e=>by
   obtain ⟨hqS,hqL,oq,hoq, -,hqd⟩:=hP q hq
   have hap:oq.apart ops om=true∨om.apart ops oq=true:=by
    rcases Nat.lt_or_gt_of_ne hne with h | h
    ·have:=hL.slots p.m q.m hLm h
     simp only [Qaf,hoq,hom] at this;exact .inl this
    ·have:=hL.slots q.m p.m hqL h
     simp only [Qaf,hoq,hom] at this;exact .inr this
   rcases hap with hap | hap
   ·exact (Oper.apart_spec hap).2.1 q.d hqd (by rw [hdst,e])
   ·exact (Oper.apart_spec hap).2.1 p.d hdst (by rw [hqd,e])
  have hPf:∀ q,q∈P↔q∈p::P.filter (fun q=>decide (q.m≠p.m)):=fun q=>by
   simp only [List.mem_cons,List.mem_filter,decide_eq_true_eq];constructor
   ·intro hq;by_cases e:q.m=p.m
    ·left;obtain ⟨-, -,oq,hoq,hqt,hqd⟩:=hP q hq
     rw [e,hom] at hoq;cases hoq;rw [hop] at hqt;rw [hdst] at hqd;cases q;cases p;simp only [Op.alloc.injEq,Option.some.injEq] at *;subst e;subst hqt;subst hqd;rfl
    ·exact .inr ⟨hq,e⟩
   ·rintro (rfl | h)
    ·exact hpP
    ·exact h.1
  have hI':=(hI.mem hPf).flush hty (fun q hq=>by
   simp only [List.mem_filter,decide_eq_true_eq] at hq;exact hslot q hq.1 hq.2)
  obtain ⟨S',P',ts',H',q1,q2,q3,q4,q5,q6⟩:=Qo8 hL k n (A++B) _ _ _ (by simp at hn ⊢;omega) (hs.sublist (by simp)) (fun q hq=>by
   simp only [List.mem_filter,decide_eq_true_eq] at hq;obtain ⟨r1,r2⟩:=hP q hq.1;refine ⟨?_,r2⟩;simp only [List.mem_append,List.mem_cons] at r1 ⊢;rcases r1 with h | h | h
   ·exact .inl h
   ·exact (hq.2 h).elim
   ·exact .inr h) (fun x hx hl hk=>by
   obtain ⟨q,hq,e⟩:=hM x (by simp only [List.mem_append,List.mem_cons] at hx ⊢;exact hx.imp id .inr) hl hk
   refine ⟨q, ?_,e⟩;simp only [List.mem_filter,decide_eq_true_eq];refine ⟨hq,fun e'=>?_⟩
   rw [e] at e';rcases List.mem_append.1 hx with h | h
   ·have:=hlt x h;omega
   ·have:=hgt x h;omega) (fun j hj=>hp j (by simp only [List.mem_append,List.mem_cons] at hj ⊢;exact hj.imp id .inr)) h3 hI'
  refine ⟨S',P',ts',H',fun i=>?_,q2.trans (by simp),fun q=>?_,(Same.app _ _).trans q4,q5,q6⟩
  ·rw [q1];simp only [List.mem_append,List.mem_cons];constructor
   ·rintro ⟨h | h,h'⟩
    ·exact ⟨.inl h,h'⟩
    ·exact ⟨.inr (.inr h),h'⟩
   ·rintro ⟨h | rfl | h,h'⟩
    ·exact ⟨.inl h,h'⟩
    ·exact (h' ⟨hLm,hmk⟩).elim
    ·exact ⟨.inr h,h'⟩
  ·rw [q3];simp only [List.mem_filter,decide_eq_true_eq];constructor
   ·exact fun h=>⟨h.1.1,h.2⟩
   ·exact fun h=>⟨⟨h.1,fun e=>h.2 (by rw [e];exact hmk)⟩,h.2⟩
theorem LeftP.ready {ops:Array Oper} {L:Nat→Prop} (hL:LateS C ops L) {listed:Array Bool} {S:List Nat} {P:List Pn} (h:LeftP C ops L listed S P) (hr:Region.ready .any ops listed=[]):∀ i∈S,∃ p∈P,p.m=i:=by
 -- the first one that is not made is ready
 have main:∀ (n i:Nat),i≤n→i∈S→∃ p∈P,p.m=i:=by
  intro n
  induction n with
  | zero =>
   intro i hi hS;refine Classical.byContradiction fun hno=>?_
   have hun:=(h.mem i).1 ⟨hS,fun p hp e=>hno ⟨p,hp,e⟩⟩
   have:i∈Region.ready .any ops listed:=by
    refine mem_ready.2 ⟨?_,ops[i],by simp [hun.1],fun e he hbb=>?_⟩
    ·have hlt:i<listed.size:=by rw [h.size];exact hun.1
     have:=hun.2
     simp only [Array.getD_eq_getD_getElem?,hlt,Array.getElem?_eq_getElem,Option.getD_some] at this ⊢;exact this
    ·have hbt:Qy ops[i] e.on=true:=by
      simp only [Qy,List.any_eq_true,Bool.and_eq_true];exact ⟨e,by simpa using he,hbb,by simp⟩
     exfalso;by_cases hl:L i
     ·obtain ⟨om,t,d,hom, -, -, -,hfree, -⟩:=hL.late i hl
      have:ops[i]=om:=by simpa [hun.1] using hom
      rw [this,hfree] at hbt;cases hbt
     ·have:=(hL.hat i ops[i] (by simp [hun.1]) hl).1 e.on hbt;omega
   rw [hr] at this;cases this
  | succ n ih =>
   intro i hi hS;refine Classical.byContradiction fun hno=>?_
   have hun:=(h.mem i).1 ⟨hS,fun p hp e=>hno ⟨p,hp,e⟩⟩
   have:i∈Region.ready .any ops listed:=by
    refine mem_ready.2 ⟨?_,ops[i],by simp [hun.1],fun e he hbb=>?_⟩
    ·have hlt:i<listed.size:=by rw [h.size];exact hun.1
     have:=hun.2
     simp only [Array.getD_eq_getD_getElem?,hlt,Array.getElem?_eq_getElem,Option.getD_some] at this ⊢;exact this
    ·have hbt:Qy ops[i] e.on=true:=by
      simp only [Qy,List.any_eq_true,Bool.and_eq_true];exact ⟨e,by simpa using he,hbb,by simp⟩
     by_cases hl:L i
     ·obtain ⟨om,t,d,hom, -, -, -,hfree, -⟩:=hL.late i hl
      have:ops[i]=om:=by simpa [hun.1] using hom
      rw [this,hfree] at hbt;cases hbt
     ·have hlt:=(hL.hat i ops[i] (by simp [hun.1]) hl).1 e.on hbt
      cases hle:listed.getD e.on false with
      | true=>rfl
      | false =>
       have h1:=(h.mem e.on).2 ⟨by omega,hle⟩
       obtain ⟨p,hp,e1⟩:=ih e.on (by omega) h1.1
       exact (h1.2 p hp e1).elim
   rw [hr] at this;cases this
 exact fun i hi=>main i i (Nat.le_refl _) hi
theorem Qzy {ro:Option Nat} {ops:Array Oper} {L:Nat→Prop} (hL:LateS C ops L) {H0:Qa} {K:List V→Qa→Prop} {R:Exit→Act→World→Prop} (hK:∀ a w ts H,K ts H→InvL C im pl w0 ds [] ts H a w→R .normal a w) :
  ∀ (fuel:Nat) (S:List Nat) (P:List Pn) (listed:Array Bool) (ts:List V) (H:Qa) (w:World) (a:Act),LeftP C ops L listed S P→(S.filter fun i=>P.all fun p=>decide (p.m≠i)).length≤fuel →
  (Same H0 H∨(Stand H0 H∧∀ j∈S,∀ p,ops[j]?=some p→Xp p.op=false)∨(∀ j∈S,∀ p,ops[j]?=some p→Zq p.op=true∨Xj p.op=true))→Jf C (cwP C H0) ops H0 K S ts H→InvL C im pl w0 ds P ts H a w →
  wpAnyIn (FW ro) 0 C.P .any ops R fuel listed a w:=by
 have hcw:=Qa1 C H0
 -- all that is left has been made
 have fin:∀ (S:List Nat) (P:List Pn) (listed:Array Bool) (ts:List V) (H:Qa) (w:World) (a:Act),LeftP C ops L listed S P→(∀ i∈S,∃ p∈P,p.m=i)→Jf C (cwP C H0) ops H0 K S ts H→InvL C im pl w0 ds P ts H a w→R .normal a w:=by
  intro S P listed ts H w a hl hall hx hI;obtain ⟨S',P',ts',H',q1,q2,q3,q4,q5,q6⟩:=Qo8 hL ops.size S.length S P ts H (Nat.le_refl _) hl.sorted hl.sub (fun m hm _ _=>hall m hm) (fun j hj hnl m hm hjm hk=>by
   obtain ⟨p,hp,rfl⟩:=hall j hj;exact (hnl (hl.sub p hp).2.1).elim) hx hI
  have:S'=[]:=by
   cases S' with
   | nil=>rfl
   | cons i S' =>
    exfalso;obtain ⟨h1,h2⟩:=(q1 i).1 (by simp)
    obtain ⟨p,hp,rfl⟩:=hall i h1;exact h2 ⟨(hl.sub p hp).2.1,hl.lt _ h1⟩
  subst this
  have:P'=[]:=by
   cases P' with
   | nil=>rfl
   | cons p P' =>
    exfalso;obtain ⟨h1,h2⟩:=(q3 p).1 (by simp)
    exact h2 (hl.lt _ (hl.sub p h1).1)
  subst this;exact hK _ _ _ _ q5 q6
 have todo:∀ {S:List Nat} {P:List Pn} {i:Nat},i∈(S.filter fun i=>P.all fun p=>decide (p.m≠i))↔i∈S∧∀ p∈P,p.m≠i:=fun {S P i}=>by
  simp [List.mem_filter]
 intro fuel
 induction fuel with
 | zero =>
  intro S P listed ts H w a hl hlen hS hx hI
  have hnil:=List.length_eq_zero_iff.1 (Nat.le_zero.1 hlen)
  have hall:∀ i∈S,∃ p∈P,p.m=i:=fun i hi=>Classical.byContradiction fun hno=>by
   have:i∈(S.filter fun i=>P.all fun p=>decide (p.m≠i)):=todo.2 ⟨hi,fun p hp e=>hno ⟨p,hp,e⟩⟩
   rw [hnil] at this;cases this
  refine ⟨?_,fin S P listed ts H w a hl hall hx hI⟩;cases hr:Region.ready .any ops listed with
  | nil=>rfl
  | cons i l =>
   exfalso;obtain ⟨h1,o,ho,h3⟩:=Qap (listed:=listed) (i:=i) (by rw [hr];simp)
   have hlt:i<ops.size:=(Array.getElem?_eq_some_iff.1 ho).1
   have hlt':i<listed.size:=by rw [hl.size];exact hlt
   have:=(hl.mem i).2 ⟨hlt,by simpa only [Array.getD_eq_getD_getElem?,hlt',Array.getElem?_eq_getElem,Option.getD_some] using h1⟩
   obtain ⟨p,hp,e⟩:=hall i this.1;exact this.2 p hp e
 | succ fuel ih =>
  intro S P listed ts H w a hl hlen hS hx hI;refine ⟨fun hr=>fin S P listed ts H w a hl (hl.ready hL hr) hx hI,fun i hi=>?_⟩
  obtain ⟨h1,o,ho,h3⟩:=Qap hi
  have hlt:i<ops.size:=(Array.getElem?_eq_some_iff.1 ho).1
  have hlt':i<listed.size:=by rw [hl.size];exact hlt
  have hget:∀ j,(listed.setIfInBounds i true).getD j false=if i=j then true else listed.getD j false:=fun j=>by
   simp only [Array.getD_eq_getD_getElem?,Array.getElem?_setIfInBounds];split
   ·simp [hlt']
   ·rfl
  have hclosed:Qdt ops (listed.setIfInBounds i true):=fun k p hp hk j hj=>by
   rw [hget] at hk ⊢;split
   ·rfl
   ·split at hk
    ·rename_i e;subst e;rw [ho] at hp;cases hp;exact h3 j hj
    ·exact hl.closed k p hp hk j hj
  have hun:listed.getD i false=false:=by simpa only [Array.getD_eq_getD_getElem?,hlt',Array.getElem?_eq_getElem,Option.getD_some] using h1
  obtain ⟨hiS,hiP⟩:=(hl.mem i).2 ⟨hlt,hun⟩
  -- what is not done is not Jt of it
  have un:∀ j∈S,(∀ p∈P,p.m≠j)→Jt ops i j i=false:=fun j hj hjP=>by
   cases h:Jt ops i j i with
   | false=>rfl
   | true =>
    have h5:=Kq hl.closed i j i o ho h3 h
    have h6:=(hl.mem j).1 ⟨hj,hjP⟩
    rw [h5] at h6;cases h6.2
  have unA:∀ j∈S,(∀ p∈P,p.m≠j)→Jq ops i j i=false:=fun j hj hjP=>by
   cases h:Jq ops i j i with
   | false=>rfl
   | true =>
    have h5:=Yt hl.closed i j i o ho h3 h
    have h6:=(hl.mem j).1 ⟨hj,hjP⟩
    rw [h5] at h6;cases h6.2
  by_cases hLi:L i
  ·-- it is made Jt of its turn,or in it: it waits
   obtain ⟨om,t,d,hom,hop,hdst,hgd, -,hty⟩:=hL.late i hLi;rw [ho] at hom;cases hom;unfold wpOpIn;simp only [ho];rw [if_pos (by simp [Region.wanted,hgd])]
   refine InvL.made (p:=⟨i,d,t⟩) hty hop hdst (fun q hq e=>?_) hI fun vc w' hI'=>?_
   ·obtain ⟨hqS,hqL,oq,hoq, -,hqd⟩:=hl.sub q hq
    have hne:=hiP q hq
    have hap:oq.apart ops o=true∨o.apart ops oq=true:=by
     rcases Nat.lt_or_gt_of_ne hne with h | h
     ·have:=hL.slots i q.m hLi h
      simp only [Qaf,hoq,ho] at this;exact .inl this
     ·have:=hL.slots q.m i hqL h
      simp only [Qaf,hoq,ho] at this;exact .inr this
    simp only at e;rcases hap with hap | hap
    ·exact (Oper.apart_spec hap).2.1 q.d hqd (by rw [hdst,e])
    ·exact (Oper.apart_spec hap).2.1 d hdst (by rw [hqd,e])
   ·refine ih S (⟨i,d,t⟩::P) _ ts H w' _ ⟨by rw [Array.size_setIfInBounds];exact hl.size,hl.sorted,hl.lt,fun j=>?_,fun q hq=>?_,hclosed⟩ ?_ hS hx hI'
    ·rw [hget];by_cases e:i=j
     ·subst e;simp
     ·rw [if_neg e,← hl.mem j];simp [e]
    ·rcases List.mem_cons.1 hq with rfl | hq
     ·exact ⟨hiS,hLi,o,ho,hop,hdst⟩
     ·exact hl.sub q hq
    ·have hsub:(S.filter fun j=>(⟨i,d,t⟩::P).all fun p=>decide (p.m≠j)).length<(S.filter fun j=>P.all fun p=>decide (p.m≠j)).length:=by
      have e1:(S.filter fun j=>(⟨i,d,t⟩::P).all fun p=>decide (p.m≠j))=(S.filter fun j=>P.all fun p=>decide (p.m≠j)).filter fun j=>decide (i≠j):=by
       rw [List.filter_filter]
       congr 1
      rw [e1];refine Nat.lt_of_le_of_ne (List.length_filter_le _ _) fun e2=>?_
      have:=List.length_filter_eq_length_iff.1 e2 i (todo.2 ⟨hiS,hiP⟩)
      simp at this
     omega
  ·-- what must have been made Jt of it Xjy its turn
   have hhat:=hL.hat i o ho hLi
   obtain ⟨k,hki,hk1,hk2,hk3⟩:∃ k,k≤i∧(∀ m∈S,L m→m<k→∃ p∈P,p.m=m)∧(∀ j∈S,¬ L j→∀ m,L m→j<m→m<k→Jc ops j m=true)∧∀ m∈S,L m→m<i→¬ m<k→Jc ops m i=true:=by
    rcases Qrr (fun m=>m∈S∧L m∧Jc ops m i=false) i with h | ⟨m,hmi,⟨hmS,hmL,hmp⟩,hlast⟩
    ·refine ⟨0,by omega,fun m _ _ h=>by omega,fun j _ _ m _ _ h=>by omega,fun m hm hml hmi _=>?_⟩
     cases e:Jc ops m i with
     | true=>rfl
     | false=>exact (h m hmi ⟨hm,hml,e⟩).elim
    ·rcases hL.pair i m hlt hLi hmL hmi with e | ⟨e1,e2,e3⟩
     ·rw [hmp] at e;cases e
     ·have pend:∀ x∈S,Jt ops i x i=true→∃ p∈P,p.m=x:=fun x hx hxa=>Classical.byContradiction fun hno=>by
       have:=un x hx fun p hp e=>hno ⟨p,hp,e⟩
       rw [hxa] at this;cases this
      refine ⟨m+1,by omega,fun x hx hxl hxm=>?_,fun j hj hjl x hxl hjx hxm=>?_,fun x hx hxl hxi hxm=>?_⟩
      ·by_cases e:x=m
       ·subst e;exact pend _ hx e1
       ·exact pend x hx (e2 x (by omega) hxl)
      ·rcases e3 j (by omega) hjl with e | e
       ·obtain ⟨p,hp,rfl⟩:=pend j hj e;exact (hjl (hl.sub p hp).2.1).elim
       ·exact e x hxl hjx (by omega)
      ·cases e:Jc ops x i with
       | true=>rfl
       | false=>exact (hlast x (by omega) hxi ⟨hx,hxl,e⟩).elim
   obtain ⟨S',P',ts',H',q1,q2,q3,q4,q5,q6⟩:=Qo8 hL k S.length S P ts H (Nat.le_refl _) hl.sorted hl.sub hk1 hk2 hx hI
   have hiS':i∈S':=(q1 i).2 ⟨hiS,fun h=>hLi h.1⟩
   have hS'S:∀ j∈S',j∈S:=fun j hj=>((q1 j).1 hj).1
   have hP'P:∀ p∈P',p∈P:=fun p hp=>((q3 p).1 hp).1
   have hs':S'.Pairwise (·<·):=hl.sorted.sublist q2
   have hS':Same H0 H'∨(Stand H0 H'∧∀ j∈S',∀ p,ops[j]?=some p→Xp p.op=false)∨(∀ j∈S',∀ p,ops[j]?=some p→Zq p.op=true∨Xj p.op=true) :=
    hS.imp (·.trans q4) fun h=>h.imp (fun h=>⟨h.1.trans q4.stand,fun j hj=>h.2 j (hS'S j hj)⟩) fun h j hj=>h j (hS'S j hj)
   -- what has been made,and what has not,in what is left
   have made':∀ j∈S',(∀ p∈P',p.m≠j)→∀ p∈P,p.m≠j:=fun j hj hno p hp e=>by
    by_cases hpk:p.m<k
    ·exact ((q1 j).1 hj).2 ⟨by rw [← e];exact (hl.sub p hp).2.1,by rw [← e];exact hpk⟩
    ·exact hno p ((q3 p).2 ⟨hp,hpk⟩) e
   obtain ⟨l1,l2,rfl⟩:=List.append_of_mem hiS'
   have hsa:=hs'
   rw [List.pairwise_append] at hsa
   have hb:=Qas hcw hL.known l2 l1 (fun j hj=>by
    have hji:j<i:=hsa.2.2 j hj i (by simp)
    have hjS':j∈l1++i::l2:=by simp [hj]
    by_cases hjL:L j
    ·exact hk3 j (hS'S j hjS') hjL hji fun h=>((q1 j).1 hjS').2 ⟨hjL,h⟩
    ·rcases hhat.2.1 j hji hjL with h4 | h4
     ·exact h4
     ·have:=un j (hS'S j hjS') fun p hp e=>hjL (by rw [← e];exact (hl.sub p hp).2.1)
      rw [h4] at this;cases this) ts' H' q5
   simp only [Jf,ho] at hb
   -- the slots that wait are others
   have hslots:∀ p∈P',p.d ∉ o.looksAt ops∧o.dst≠some p.d:=fun p hp=>by
    obtain ⟨hpS,hpL,op,hop, -,hpd⟩:=hl.sub p (hP'P p hp)
    have hne:=hiP p (hP'P p hp)
    rcases Nat.lt_or_gt_of_ne hne with h | h
    ·have hpS':p.m∈l1++i::l2:=(q1 p.m).2 ⟨hpS,fun h=>((q3 p).1 hp).2 h.2⟩
     have:=hk3 p.m hpS hpL h ((q3 p).1 hp).2
     simp only [Jc,hop,ho,Bool.and_eq_true] at this;obtain ⟨e1,e2,e3⟩:=Oper.apart_spec this.1;exact ⟨e1 p.d hpd,e2 p.d hpd⟩
    ·have:=hL.slots p.m i hpL h
     simp only [Qaf,hop,ho] at this;obtain ⟨e1,e2,e3⟩:=Oper.apart_spec this;exact ⟨e3 p.d hpd,fun e=>e2 p.d e hpd⟩
   rw [← Qqg (P:=P') (fun p hp=>(hslots p hp).1) ts'] at hb
   unfold wpOpIn;simp only [ho]
   have hsub:∀ j,j∈l1++l2→j∈l1++i::l2:=fun j hj=>by
    simp only [List.mem_append,List.mem_cons] at hj ⊢;exact hj.imp id .inr
   have hni:i ∉ l1++l2:=fun h=>by
    rcases List.mem_append.1 h with h | h
    ·have:=hsa.2.2 i h i (by simp);omega
    ·have:=(List.pairwise_cons.1 hsa.2.1).1 i h;omega
   have hleft:LeftP C ops L (listed.setIfInBounds i true) (l1++l2) P':=by
    refine ⟨by rw [Array.size_setIfInBounds];exact hl.size,hs'.sublist (by simp),fun j hj=>hl.lt j (hS'S j (hsub j hj)),fun j=>?_,fun p hp=>?_,hclosed⟩
    ·rw [hget];by_cases e:i=j
     ·subst e;simp only [if_true,Bool.true_eq_false,and_false,iff_false,not_and];exact fun h=>(hni h).elim
     ·rw [if_neg e,← hl.mem j];constructor
      ·rintro ⟨h1,h2⟩;exact ⟨hS'S j (hsub j h1),made' j (hsub j h1) h2⟩
      ·rintro ⟨h1,h2⟩
       have:j∈l1++i::l2:=(q1 j).2 ⟨h1,fun h=>by
        obtain ⟨p,hp,e1⟩:=hk1 j h1 h.1 h.2;exact h2 p hp e1⟩
       refine ⟨?_,fun p hp=>h2 p (hP'P p hp)⟩
       simp only [List.mem_append,List.mem_cons] at this ⊢;rcases this with h | h | h
       ·exact .inl h
       ·exact (e h.symm).elim
       ·exact .inr h
    ·obtain ⟨r1,r2⟩:=hl.sub p (hP'P p hp);refine ⟨?_,r2⟩
     have:p.m∈l1++i::l2:=(q1 p.m).2 ⟨r1,fun h=>((q3 p).1 hp).2 h.2⟩
     simp only [List.mem_append,List.mem_cons] at this ⊢;rcases this with h | h | h
     ·exact .inl h
     ·exact (hiP p (hP'P p hp) h).elim
     ·exact .inr h
   have hfuel:((l1++l2).filter fun j=>P'.all fun p=>decide (p.m≠j)).length≤fuel:=by
    have e0:((l1++l2).filter fun j=>P'.all fun p=>decide (p.m≠j)).length<((l1++i::l2).filter fun j=>P'.all fun p=>decide (p.m≠j)).length:=by
     have hin:(P'.all fun p=>decide (p.m≠i))=true:=by
      simp only [List.all_eq_true,decide_eq_true_eq];exact fun p hp=>hiP p (hP'P p hp)
     simp only [List.filter_append,List.filter_cons,hin,if_true,List.length_append,List.length_cons];omega
    have e1:((l1++i::l2).filter fun j=>P'.all fun p=>decide (p.m≠j))=((l1++i::l2).filter fun j=>P.all fun p=>decide (p.m≠j)):=by
     refine List.filter_congr fun j hj=>?_
     have:(P'.all fun p=>decide (p.m≠j))=true↔(P.all fun p=>decide (p.m≠j))=true:=by
      simp only [List.all_eq_true,decide_eq_true_eq];exact ⟨made' j hj,fun h p hp=>h p (hP'P p hp)⟩
     exact Bool.eq_iff_iff.2 this
    have e2:=(q2.filter fun j=>P.all fun p=>decide (p.m≠j)).length_le
    rw [e1] at e0;omega
   obtain ⟨im',pl',b,r1,r2⟩:=q6
   have hI':InvL C im pl w0 ds P' ts' H' a w:=⟨im',pl',b,r1,r2⟩
   rcases Qbw hb r1.tr with ⟨hw,h⟩ | ⟨hw,h⟩
   ·rw [if_pos hw]
    have hS1:Same H0 H'∨(Stand H0 H'∧Xp o.op=false)∨(Zq o.op=true∨Xj o.op=true):=hS'.imp id fun h=>h.imp (fun h=>⟨h.1,h.2 i (by simp) o ho⟩) (fun h=>h i (by simp) o ho)
    refine hI'.op (fun p hp=>(hslots p hp).2) (Qfy hcw (Yn hL.known ho) hS1 h) fun v vc H2 w' k1 k2=>?_
    refine ih (l1++l2) P' _ _ H2 w' _ hleft hfuel ?_ k1.2 k2
    -- what is not listed
    have unl:∀ j∈l1++l2,∀ p,ops[j]?=some p→(∀ x∈P',x.m≠j)→listed.getD j false=false:=fun j hj p hp hno=>((hl.mem j).1 ⟨hS'S j (hsub j hj),made' j (hsub j hj) hno⟩).2
    rcases k1.1 with k5 | ⟨k5,k6⟩ | k5
    ·rcases hS' with hS | hS | hS
     ·exact .inl (k5.1 hS)
     ·exact .inr (.inl ⟨k5.2 hS.1,fun j hj p hp=>hS.2 j (hsub j hj) p hp⟩)
     ·exact .inr (.inr fun j hj p hp=>hS j (hsub j hj) p hp)
    ·have hnl:∀ j∈l1++l2,∀ p,ops[j]?=some p→Xp p.op=false:=fun j hj p hp=>by
      cases hload:Xp p.op with
      | false=>rfl
      | true =>
       have h7:=hhat.2.2.1 k5 j p hp hload
       have h8:=Yt hl.closed i j i o ho h3 h7
       have h9:=unl j hj p hp fun x hx e=>by
        obtain ⟨-, -,ox,hox,hxt, -⟩:=hl.sub x (hP'P x hx);rw [e,hp] at hox;cases hox;rw [hxt] at hload;cases hload
       rw [h8] at h9;cases h9
     rcases hS' with hS | hS | hS
     ·exact .inr (.inl ⟨hS.stand.trans k6,hnl⟩)
     ·exact .inr (.inl ⟨hS.1.trans k6,hnl⟩)
     ·exact .inr (.inr fun j hj p hp=>hS j (hsub j hj) p hp)
    ·refine .inr (.inr fun j hj p hp=>?_)
     rcases hhat.2.2.2 k5 j p hp with h7 | h7
     ·exact h7
     ·have h8:=Yt hl.closed i j i o ho h3 h7
      by_cases hx:∃ x∈P',x.m=j
      ·obtain ⟨x,hx,e⟩:=hx;obtain ⟨-, -,ox,hox,hxt, -⟩:=hl.sub x (hP'P x hx);rw [e,hp] at hox;cases hox
       right;rw [hxt];rfl
      ·have h9:=unl j hj p hp fun x hxP e=>hx ⟨x,hxP,e⟩
       rw [h8] at h9;cases h9
   ·rw [if_neg (by simp [hw])]
    refine ⟨fun _ _=>trivial,ih (l1++l2) P' _ _ H' w _ hleft hfuel ?_ h (hI'.skip fun p hp=>(hslots p hp).2)⟩
    exact hS'.imp id fun h=>h.imp (fun h=>⟨h.1,fun j hj p hp=>h.2 j (hsub j hj) p hp⟩) (fun h j hj p hp=>h j (hsub j hj) p hp)
end
theorem Xnj {C:Ctx} {ro:Option Nat} (hm:C.P.follows .mixedOrders=true) {id:Nat} {ops:Array Oper} (hdr:Qic C ops=true) {Q:Exit→List V→Qa→Prop} {ts:List V} {H:Qa}
  {H0:Qa} (hs0:Same H0 H) (h:Kx C (cwP C H0) ops H0 (Q .normal) ops.toList ts H):T C ro (.region id ops true) Q ts H:=by
 intro im pl w a hr
 have hL:=Qu8 hdr
 refine wpIn_region_any hm ?_
 have hx:=Qho (Qa1 C H0) hL.known ops.toList 0 ts H (by simp) h
 have hvr:∀ {v c},VR im pl w v c→VR im pl { w with drawn:=w.drawn+1 } v c:=fun h=>VR.world (w:=w) (w':={ w with drawn:=w.drawn+1 }) (fun _ _ _ (h:w.cell? _=some _)=>h) (fun _ _ _ _ h=>h) h
 have hE:Ext im pl w im pl { w with drawn:=w.drawn+1 }:=⟨rfl,rfl,rfl,Nat.le_refl _,fun _ h=>h,fun _ h=>.inl h,fun _ _=>.inl rfl,fun r b cap h=>.inl ⟨r,cap,h⟩,fun _ _ _=>rfl⟩
 have hr':Rel im pl { w with drawn:=w.drawn+1 } ts H a:=by
  refine ⟨⟨hr.tr.1,fun i=>hvr (hr.tr.2 i)⟩, ?_,hr.df.mono hE⟩
  obtain ⟨g1,g2,g3,g4,g5,g6,g7,g8⟩:=hr.hr;refine ⟨g1,g2,g3,g4,g5,g6,g7,fun r b cap hp=>?_⟩
  obtain ⟨e,s,cs,cur,f1,f2,f3,f4,f5,f6⟩:=g8 r b cap hp;exact ⟨e,s,cs,cur,f1,f2,f3,f4,f5,fun j=>hvr (f6 j)⟩
 refine Qzy (im:=im) (pl:=pl) (w0:=w) (ds:=a.defers) hL (fun a' w' ts' H' k1 k2=>?_) ops.size (List.range' 0 ops.toList.length) [] _ ts H _ a ⟨by simp,List.pairwise_lt_range' ..,fun i hi=>?_,fun i=>?_,fun p hp=>(by cases hp),fun i o ho hl=>?_⟩ (Nat.le_trans (List.length_filter_le _ _) (by simp)) (.inl hs0) hx ⟨im,pl,fun _=>0,hr',hE,rfl,fun p hp=>(by cases hp),fun p hp=>(by cases hp)⟩
 ·obtain ⟨im',pl',b,k2,k3,k4,_⟩:=k2;exact ⟨ts',H',im',pl',k1,k2,k3,by rw [k4];exact .refl _ _⟩
 ·simpa [List.mem_range'_1] using hi
 ·simp only [List.mem_range'_1,Nat.zero_le,true_and,Nat.zero_add,Array.length_toList];simp only [Array.getD_eq_getD_getElem?,Array.getElem?_replicate];constructor
  ·intro h;refine ⟨h.1, ?_⟩;simp [h.1]
  ·exact fun h=>⟨h.1,fun p hp=>by cases hp⟩
 ·exfalso;simp only [Array.getD_eq_getD_getElem?,Array.getElem?_replicate] at hl
  split at hl<;>simp at hl
end Go.Bv
end
section
namespace Go.Bv
open Go.RowKit
def Xks (ops:Array Oper) (t:TypeId) (d:Nat) (s:Nat):Bool:=match ops[s]? with
 | some p=>(match p.op with | .store t' (.tmp d') _=>t'==t&&d'==d | _=>false)&&p.dst.isNone&&p.guard.isNone
 | none=>false
def Zy (ops:Array Oper) (p:Pn):Nat:=((List.range ops.size).find? (Xks ops p.t p.d)).getD 0
def stX (ops:Array Oper) (p:Pn):Operand:=match ops[Zy ops p]? with
 | some o=>(match o.op with | .store _ _ x=>x | _=>.tmp 0)
 | none=>.tmp 0
def Xqr (C:Ctx) (ops:Array Oper) (m:Nat):Option Pn:=match ops[m]? with
 | some o=>(match Qh7 o.op,o.dst with
  | some t,some d=>if Qaz C ops m then some ⟨m,d,t⟩ else none
  | _,_=>none)
 | none=>none
def fus (C:Ctx) (ops:Array Oper):List Pn:=(List.range ops.size).filterMap (Xqr C ops)
def Qah (ops:Array Oper) (fs:List Pn) (i:Nat):Bool:=fs.all fun f=>f.m != i&&Zy ops f != i
def Qsp (ops:Array Oper) (d j:Nat):Bool:=match ops[j]? with
 | some o=>!(o.looksAt ops).contains d&&o.dst != some d
 | none=>true
def Xdb (ops:Array Oper) (x:Operand) (j:Nat):Bool:=match ops[j]?,x with
 | some o,.tmp u=>o.dst != some u
 | _,_=>true
def fuB (C:Ctx) (ops:Array Oper) (fs:List Pn) (f:Pn):Bool :=
 Qaz C ops f.m&&(match ops[f.m]? with | some o=>(match Qh7 o.op with | some t=>t==f.t | none=>false)&&o.dst==some f.d | none=>false) &&
 Xks ops f.t f.d (Zy ops f)&&decide (f.m<Zy ops f)&&(match ops[Zy ops f]? with | some p=>Qy p f.m | none=>false) &&
 ((List.range ops.size).all fun j=>j==f.m||j==Zy ops f||Qsp ops f.d j) &&
 ((List.range ops.size).all fun j=>Xdb ops (stX ops f) j||(Qah ops fs j&&Jt ops (Zy ops f) j (Zy ops f))) &&
 fs.all fun g=>g.m==f.m||(g.d != f.d&&Zy ops g != Zy ops f)
def Qcr (C:Ctx) (ops:Array Oper):Bool :=
 Yf ops&&(fus C ops).all (fuB C ops (fus C ops))&&((fus C ops).map (·.m)).Nodup &&
 (List.range ops.size).all fun i=>match ops[i]? with
  | none=>true
  | some o=>o.guard.isNone&&(o.after.toList.all fun e=>!Region.binds .any e||decide (e.on<i)) &&
   (!Qah ops (fus C ops) i||(!Xj o.op&&(List.range i).all fun j=>!Qah ops (fus C ops) j||Jc ops j i||Jt ops i j i))
def Xkb (C:Ctx) (ops:Array Oper):List Nat:=(List.range ops.size).filter (Qah ops (fus C ops))++(fus C ops).flatMap fun f=>[f.m,Zy ops f]
def Qr3 (C:Ctx) (ops:Array Oper):List Oper:=(Xkb C ops).filterMap fun i=>ops[i]?
structure FuP (C:Ctx) (ops:Array Oper) (fs:List Pn) (f:Pn):Prop where
 al:∃ o,ops[f.m]?=some o∧o.op=.alloc f.t∧o.dst=some f.d∧o.guard=none∧∀ j,Qy o j=false
 ty:(C.ty f.t).ok=true
 st:∃ p,ops[Zy ops f]?=some p∧p.op=.store f.t (.tmp f.d) (stX ops f)∧p.dst=none∧p.guard=none∧Qy p f.m=true
 lt:f.m<Zy ops f
 away:∀ j o,ops[j]?=some o→j≠f.m→j≠Zy ops f→f.d ∉ o.looksAt ops∧o.dst≠some f.d
 src:∀ j o,ops[j]?=some o→(∀ u,stX ops f=.tmp u→o.dst≠some u)∨(Qah ops fs j=true∧Jt ops (Zy ops f) j (Zy ops f)=true)
 apart:∀ g∈fs,g.m=f.m∨(g.d≠f.d∧Zy ops g≠Zy ops f)
structure FuS (C:Ctx) (ops:Array Oper) (fs:List Pn):Prop where
 known:Yf ops=true
 fu:∀ f∈fs,FuP C ops fs f
 nodup:(fs.map (·.m)).Nodup
 guard:∀ (i:Nat) (o:Oper),ops[i]?=some o→o.guard=none
 after:∀ (i:Nat) (o:Oper),ops[i]?=some o→∀ j,Qy o j=true→j<i
 eff:∀ (i:Nat) (o:Oper),ops[i]?=some o→Qah ops fs i=true→Xj o.op=false
 pair:∀ i j,i<ops.size→Qah ops fs i=true→j<i→Qah ops fs j=true→Jc ops j i=true∨Jt ops i j i=true
theorem Qu9 {C:Ctx} {ops:Array Oper} (h:Qcr C ops=true):FuS C ops (fus C ops):=by
 simp only [Qcr,Bool.and_eq_true,List.all_eq_true,List.mem_range,decide_eq_true_eq] at h;obtain ⟨⟨⟨h1,h2⟩,h3⟩,h4⟩:=h
 have lt:∀ {i:Nat} {o:Oper},ops[i]?=some o→i<ops.size:=fun {i o} ho=>(Array.getElem?_eq_some_iff.1 ho).1
 have at4:∀ i o,ops[i]?=some o→o.guard.isNone=true∧(∀ e∈o.after.toList,(!Region.binds .any e||decide (e.on<i))=true)∧((!Qah ops (fus C ops) i)=true∨((!Xj o.op)=true∧∀ j,j<i→(!Qah ops (fus C ops) j||Jc ops j i||Jt ops i j i)=true)):=fun i o ho=>by
  have:=h4 i (lt ho)
  simp only [ho,Bool.and_eq_true,List.all_eq_true,List.mem_range,Bool.or_eq_true (!Qah ops (fus C ops) i)] at this;exact ⟨this.1.1,this.1.2,this.2⟩
 refine ⟨h1,fun f hf=>?_,h3,fun i o ho=>?_,fun i o ho j hj=>?_,fun i o ho hn=>?_,fun i j hi hn hj hnj=>?_⟩
 ·have:=h2 f hf
  simp only [fuB,Bool.and_eq_true,List.all_eq_true,List.mem_range,decide_eq_true_eq,Bool.or_eq_true,beq_iff_eq] at this;obtain ⟨⟨⟨⟨⟨⟨⟨a1,a2⟩,a3⟩,a4⟩,a5⟩,a6⟩,a7⟩,a8⟩:=this;unfold Qaz at a1;split at a1
  ·rename_i o ho;simp only [ho,Bool.and_eq_true,beq_iff_eq] at a2;simp only [Bool.and_eq_true,List.all_eq_true,Bool.not_eq_true',Option.isNone_iff_eq_none] at a1;obtain ⟨⟨⟨q1,q2⟩,q3⟩,q4⟩:=a1;obtain ⟨a2,a2d⟩:=a2;split at a2
   ·rename_i t ht
    have ht2:=ht
    have htt:t=f.t:=by simpa using a2
    subst htt;rw [ht] at q1
    have hop:o.op=.alloc f.t:=by
     cases hop:o.op<;>rw [hop] at ht<;>simp [Qh7] at ht;rw [ht]
    unfold Xks at a3;split at a3
    ·rename_i p hp;simp only [Bool.and_eq_true,Option.isNone_iff_eq_none] at a3;obtain ⟨⟨b1,b2⟩,b3⟩:=a3;rw [hp] at a5;split at b1
     ·rename_i t' d' x hst;simp only [Bool.and_eq_true,beq_iff_eq] at b1;obtain ⟨b4,b5⟩:=b1;subst b4 b5
      have hx:stX ops f=x:=by simp only [stX,hp,hst]
      refine ⟨⟨o,ho,hop,a2d,q3,fun j=>?_⟩,q1,⟨p,hp,by rw [hx];exact hst,b2,b3,a5⟩,a4,fun j oj hoj n1 n2=>?_,fun j oj hoj=>?_,fun g hg=>?_⟩
      ·simp only [Qy,List.any_eq_false,Bool.and_eq_true,not_and];intro e he hb;rw [q4 e he] at hb;cases hb
      ·rcases a6 j (lt hoj) with (h | h) | h
       ·exact (n1 h).elim
       ·exact (n2 h).elim
       ·simp only [Qsp,hoj,Bool.and_eq_true,Bool.not_eq_true',bne_iff_ne,ne_eq] at h;exact ⟨by simpa using h.1,h.2⟩
      ·rcases a7 j (lt hoj) with h | h
       ·left;intro u hu
        simp only [Xdb,hoj,hu,bne_iff_ne,ne_eq] at h;exact h
       ·exact .inr h
      ·rcases a8 g hg with h | h
       ·exact .inl h
       ·simp only [bne_iff_ne,ne_eq,Bool.and_eq_true] at h;exact .inr h
     ·cases b1
    ·cases a3
   ·cases a2
  ·cases a1
 ·simpa using (at4 i o ho).1
 ·simp only [Qy,List.any_eq_true,Bool.and_eq_true] at hj;obtain ⟨e,he,h5,h6⟩:=hj;rw [beq_iff_eq] at h6;subst h6
  have:=(at4 i o ho).2.1 e he
  simp only [h5,Bool.not_true,Bool.false_or,decide_eq_true_eq] at this;exact this
 ·rcases (at4 i o ho).2.2 with h | h
  ·simp [hn] at h
  ·simpa using h.1
 ·obtain ⟨o,ho⟩:∃ o,ops[i]?=some o:=⟨ops[i],by simp [hi]⟩
  rcases (at4 i o ho).2.2 with h | h
  ·simp [hn] at h
  ·have:=h.2 j hj
   simp only [hnj,Bool.not_true,Bool.false_or,Bool.or_eq_true] at this;exact this
theorem Rel.unplaced {im:Nat→Prop} {pl:Nat→Place} {w:World} {ts:List V} {H:Qa} {a:Act} (h:Rel im pl w ts H a) {b:Nat} {cur:Array Value} (cur':Array Value) {t:TypeId} (hb:w.heap[b]?=some (.cells cur t (0,0))) (hi:¬ im b) (hn:∀ r cap,pl r≠.at b cap) :
  Rel im pl (w.setRow b cur') ts H a∧∀ v c,VR im pl w v c→VR im pl (w.setRow b cur') v c:=by
 have hv:∀ v c,VR im pl w v c→VR im pl (w.setRow b cur') v c:=fun v c hvc=>hvc.world (fun ad v had hc=>by
  have hne:ad.block≠b:=fun e=>hi (e ▸ had)
  rw [cell_setRow_other w b cur' ad hne];exact hc) fun b' es c hb' hc=>by
  rw [setRow_other w b b' cur' (fun e=>hi (e ▸ hb'))];exact hc
 have hsz:(w.setRow b cur').heap.size=w.heap.size:=by simp [World.setRow]
 obtain ⟨g1,g2,g3,g4,g5,g6,g7,g8⟩:=h.hr;refine ⟨⟨⟨h.tr.1,fun i=>hv _ _ (h.tr.2 i)⟩,⟨g1,g2,fun r b' c hr=>by rw [hsz];exact g3 r b' c hr,fun b' hb'=>by rw [hsz];exact g4 b' hb',g5,g6,g7,fun r b' c hr=>?_⟩, ?_⟩,hv⟩
 ·obtain ⟨e,s,cs,cu,f1,f2,f3,f4,f5,f6⟩:=g8 r b' c hr;exact ⟨e,s,cs,cu,f1,by rw [setRow_other w b b' cur' (fun e=>hn r c (e ▸ hr))];exact f2,f3,f4,f5,fun j=>hv _ _ (f6 j)⟩
 ·obtain ⟨q1,q2⟩:=h.df;refine ⟨q1,fun dd hd=>?_⟩
  obtain ⟨r,e1,e2,e3⟩:=q2 dd hd;refine ⟨r,e1, ?_,e3⟩;rw [setRow_other w b _ cur' (fun e=>by rw [e,hb] at e2;cases e2)]
  exact e2
def Xqs (C:Ctx) (x:Operand) (im:Nat→Prop) (pl:Nat→Place) (w:World) (ts:List V) (p:Pn) (st:Bool) (cur:Array Value):Prop:=match st with
 | true=>cur.size=(Xb (C.ty p.t)).length∧∀ j,VR im pl w (nth (Ki (Xb (C.ty p.t)) 0 (cellsOf (ev ts x))) j) (cur.getD j undef)
 | false=>cur=(C.ty p.t).z.cells
def InvF (C:Ctx) (ops:Array Oper) (im:Nat→Prop) (pl:Nat→Place) (w0:World) (ds:List Deferred) (P:List Pn) (st:Pn→Bool) (ts:List V) (H:Qa) (a:Act) (w:World):Prop:=∃ im' pl' ,∃ b:Nat→Nat,Rel im' pl' w (Qce P ts) H a∧Ext im pl w0 im' pl' w∧a.defers=ds ∧
 (∀ p∈P,∀ q∈P,b p.d=b q.d→p.d=q.d)∧∀ p∈P,w0.heap.size≤b p.d∧¬ im' (b p.d)∧(∀ r cap,pl' r≠.at (b p.d) cap)∧(a.tmps.getD p.d undef=.pointer (some ⟨b p.d,0,none⟩)∨a.tmps.size≤p.d)∧∃ cur,w.heap[b p.d]?=some (.cells cur p.t (0,0))∧Xqs C (stX ops p) im' pl' w ts p (st p) cur
theorem Xiz {P:List Pn} {x:Operand} (h:∀ p∈P,x≠.tmp p.d) (ts:List V):ev (Qce P ts) x=ev ts x:=by
 cases x with
 | tmp u=>exact Qkh (fun p hp e=>h p hp (by rw [e])) ts
 | _=>rfl
section
variable {C:Ctx} {ops:Array Oper} {im:Nat→Prop} {pl:Nat→Place} {w0:World} {ds:List Deferred}
theorem InvF.mem {P P':List Pn} {st:Pn→Bool} (h:∀ p,p∈P↔p∈P') {ts:List V} {H:Qa} {a:Act} {w:World} (hI:InvF C ops im pl w0 ds P st ts H a w):InvF C ops im pl w0 ds P' st ts H a w:=by
 obtain ⟨im',pl',b,h1,h2,h3,h4,h5⟩:=hI;exact ⟨im',pl',b,by rw [← Qqc h];exact h1,h2,h3,fun p hp q hq=>h4 p ((h p).2 hp) q ((h q).2 hq),fun p hp=>h5 p ((h p).2 hp)⟩
theorem InvF.flags {P:List Pn} {st st':Pn→Bool} (h:∀ p∈P,st p=st' p) {ts:List V} {H:Qa} {a:Act} {w:World} (hI:InvF C ops im pl w0 ds P st ts H a w):InvF C ops im pl w0 ds P st' ts H a w:=by
 obtain ⟨im',pl',b,h1,h2,h3,h4,h5⟩:=hI;refine ⟨im',pl',b,h1,h2,h3,h4,fun p hp=>?_⟩
 rw [← h p hp];exact h5 p hp
theorem InvF.flush {p:Pn} {P:List Pn} {st:Pn→Bool} (hst:st p=true) (hd:∀ q∈P,q.d≠p.d) (hx:∀ q∈P,stX ops q≠.tmp p.d) {ts:List V} {H:Qa} {a:Act} {w:World} (h:InvF C ops im pl w0 ds (p::P) st ts H a w) :
  InvF C ops im pl w0 ds P st (upd ts p.d (.ptr H.length 0)) (H++[some ⟨p.t,(Ki (Xb (C.ty p.t)) 0 (cellsOf (ev ts (stX ops p)))).length,Ki (Xb (C.ty p.t)) 0 (cellsOf (ev ts (stX ops p)))⟩]) a w:=by
 obtain ⟨im',pl',b,h1,h2,h3,hinj,hall⟩:=h;obtain ⟨h4,h6,h7,h8,cur,h5,hc⟩:=hall p (by simp)
 rw [hst] at hc;obtain ⟨c1,c2⟩:=hc;obtain ⟨g1,g2⟩:=h1.hr.adopt p.t (Ki (Xb (C.ty p.t)) 0 (cellsOf (ev ts (stX ops p)))) cur h5 h6 h7 (by rw [Jh];exact c1.symm) c2
 have hno:=h1.hr.no (Nat.le_refl _)
 have hw:Qce P (upd ts p.d (.ptr H.length 0))=upd (Qce P ts) p.d (.ptr H.length 0):=(Qdu (dst:=some p.d) (fun q hq e=>hd q hq (by injection e with e;exact e.symm)) _ ts).symm
 refine ⟨im',Qat pl' H.length (.at (b p.d) 1),b,⟨⟨?_,fun i=>?_⟩,g1, ?_⟩,⟨h2.os,h2.tape,h2.output,h2.size,h2.imm,h2.imn,fun r hr=>?_,fun r b' c hr=>?_,h2.frame⟩,h3,fun x hx y hy=>hinj x (by simp [hx]) y (by simp [hy]),fun q hq=>?_⟩
 ·have:=h1.tr.1;rw [Kc] at this ⊢;rw [Yi];exact this
 ·have:=h1.tr.2 i
  rw [hw];rw [Qak] at this;rw [Zh] at this ⊢;by_cases hi:i=p.d∧p.d<(Qce P ts).length
  ·rw [if_pos hi];obtain ⟨rfl,hlt⟩:=hi;rcases h8 with h8 | h8
   ·rw [h8];exact .ptrAt _ 0 (b p.d) 1 (Qu _ _ _)
   ·have:=h1.tr.1;rw [Kc] at this hlt;omega
  ·rw [if_neg hi] at this ⊢;exact g2 _ _ this
 ·obtain ⟨q1,q2⟩:=h1.df;refine ⟨q1,fun dd hd=>?_⟩
  obtain ⟨r,e1,e2,e3⟩:=q2 dd hd;refine ⟨r,e1,e2,fun q cap hq=>?_⟩
  by_cases e4:q=H.length
  ·subst e4;rw [Qu] at hq;injection hq with e5 _;subst e5;rw [h5] at e2;cases e2
  ·rw [Qq _ _ _ _ e4] at hq;exact e3 q cap hq
 ·rcases h2.plo r hr with h | h
  ·exact .inl (by rw [Qq _ _ _ _ (fun e=>hr (by rw [← h,e];exact hno))];exact h)
  ·exact .inr (by rw [Qq _ _ _ _ (fun e=>by rw [e,hno] at h;cases h)];exact h)
 ·by_cases e1:r=H.length
  ·subst e1;rw [Qu] at hr;injection hr with e2 _;exact .inr (by omega)
  ·rw [Qq _ _ _ _ e1] at hr;exact h2.pln r b' c hr
 ·obtain ⟨k4,k6,k7,k8,cu,k5,k9⟩:=hall q (by simp [hq])
  refine ⟨k4,k6,fun r cap hr=>?_,k8,cu,k5, ?_⟩
  ·by_cases e1:r=H.length
   ·subst e1;rw [Qu] at hr;injection hr with e2 _
    exact hd q hq (hinj p (by simp) q (by simp [hq]) e2).symm
   ·rw [Qq _ _ _ _ e1] at hr;exact k7 r cap hr
  ·have e:ev (upd ts p.d (.ptr H.length 0)) (stX ops q)=ev ts (stX ops q):=Qdr (d:=some p.d) fun t ht e=>by injection ht with ht;subst ht;exact hx q hq e
   cases hs:st q with
   | false=>rw [hs] at k9;exact k9
   | true =>
    rw [hs] at k9;exact ⟨k9.1,fun j=>by rw [e];exact g2 _ _ (k9.2 j)⟩
theorem InvF.op {ro:Option Nat} {H0:Qa} {o:Oper} {P:List Pn} {st:Pn→Bool} {ts:List V} {H:Qa} {a:Act} {w:World} {KK:V→Qa→Prop} {next:Act→World→Prop} {R:Exit→Act→World→Prop} (hd:∀ p∈P,o.dst≠some p.d) (hx:∀ p∈P,st p=true→∀ u,stX ops p=.tmp u→o.dst≠some u) (h:opc C.ty (cwP C H0) o.op (Qce P ts) H KK) (hR:InvF C ops im pl w0 ds P st ts H a w)
  (hnext:∀ v vc H' w',KK v H'→InvF C ops im pl w0 ds P st (Xi ts o.dst v) H' (a.put o.dst vc) w'→next (a.put o.dst vc) w'):o.wpIn (FW ro) 0 C.P a w next R:=by
 obtain ⟨im',pl',b,h1,h2,h3,hinj,hall⟩:=hR;refine Zt (Qcd C H0 ro) h h1.tr h1.hr fun v vc H2 im2 pl2 w2 k1 k2 k3 k4=>hnext v vc H2 w2 k1 ⟨im2,pl2,b, ?_,h2.trans k4,by rw [Xa];exact h3,hinj,fun p hp=>?_⟩
 ·have:=h1.put k4 k3 k2 o.dst
  rwa [Qdu hd] at this
 ·obtain ⟨h4,h6,h7,h8,cur,h5,h9⟩:=hall p hp
  have hlt:b p.d<w.heap.size:=(Array.getElem?_eq_some_iff.1 h5).1
  refine ⟨h4,fun hb=>?_,fun r cap hr=>?_, ?_,cur,by rw [k4.frame _ hlt h7];exact h5, ?_⟩
  ·rcases k4.imn _ hb with q | q | ⟨r,cap,q⟩
   ·exact h6 q
   ·omega
   ·exact h7 r cap q
  ·rcases k4.pln r _ cap hr with ⟨r',cap',q⟩ | q
   ·exact h7 r' cap' q
   ·omega
  ·obtain ⟨e1,e2⟩:=Qaq a vc (hd p hp);rw [e1,e2];exact h8
  ·cases hs:st p with
   | false=>rw [hs] at h9;exact h9
   | true =>
    rw [hs] at h9;refine ⟨h9.1,fun j=>?_⟩
    rw [Qdr (d:=o.dst) fun t ht e=>hx p hp hs t e ht]
    exact (h9.2 j).mono k4 h1.hr.apart
theorem InvF.made {ro:Option Nat} {p:Pn} (ht:(C.ty p.t).ok=true) {o:Oper} (ho:o.op=.alloc p.t) (hd:o.dst=some p.d) {P:List Pn} {st:Pn→Bool} (hst:st p=false) (hne:∀ q∈P,q.d≠p.d) {ts:List V} {H:Qa} {a:Act} {w:World} {next:Act→World→Prop} {R:Exit→Act→World→Prop} (hR:InvF C ops im pl w0 ds P st ts H a w)
  (hnext:∀ vc w',InvF C ops im pl w0 ds (p::P) st ts H (a.put o.dst vc) w'→next (a.put o.dst vc) w'):o.wpIn (FW ro) 0 C.P a w next R:=by
 obtain ⟨im',pl',b,h1,h2,h3,hinj,hall⟩:=hR;refine ⟨fun _ _=>trivial, ?_⟩
 rw [Oper.semAt_eq ro a.eval o (fun c=>by rw [ho];simp)]
 have hrun:(execOp a.eval o).run C.P w=.ok (.value (.pointer (some ⟨w.heap.size,0,none⟩))) (w.alloc (.cells (C.ty p.t).z.cells p.t)):=by
  simp only [execOp,ho,Instr.alloc,Sem.run_bind,(C.ok p.t ht).zero,Qch,Sem.run_pure,Result.andThen_ok]
 rw [hrun]
 have hE:Ext im' pl' w im' pl' (w.alloc (.cells (C.ty p.t).z.cells p.t)):=⟨rfl,rfl,rfl,by simp,fun _ hb=>hb,fun _ hb=>.inl hb,fun r hr=>.inl rfl,fun r b c hb=>.inl ⟨r,c,hb⟩,fun b hb _=>heap_alloc_old _ _ _ hb⟩
 have hH:HR im' pl' (w.alloc (.cells (C.ty p.t).z.cells p.t)) H:=by
  obtain ⟨g1,g2,g3,g4,g5,g6,g7,g8⟩:=h1.hr;refine ⟨g1,g2,fun r b c hr=>Nat.lt_of_lt_of_le (g3 r b c hr) hE.size,fun b hb=>Nat.lt_of_lt_of_le (g4 b hb) hE.size,g5,g6,g7,fun r b c hr=>?_⟩
  obtain ⟨e,s,cs,cur,q1,q2,q3,q4,q5,q6⟩:=g8 r b c hr;exact ⟨e,s,cs,cur,q1,by rw [heap_alloc_old _ _ _ (g3 r b c hr)];exact q2,q3,q4,q5,fun j=>(q6 j).mono hE g2⟩
 have old:∀ q∈P,b q.d<w.heap.size:=fun q hq=>by
  obtain ⟨_,_,_,_,cur,h5,_⟩:=hall q hq;exact (Array.getElem?_eq_some_iff.1 h5).1
 refine hnext _ _ ⟨im',pl',fun x=>if x=p.d then w.heap.size else b x, ?_,h2.trans hE,by rw [Xa];exact h3, ?_,fun q hq=>?_⟩
 ·have:=h1.put hE hH (v:=.any) (vc:=.pointer (some ⟨w.heap.size,0,none⟩)) (.any _) o.dst
  rw [hd] at this ⊢;exact this
 ·intro x hx y hy e;by_cases e1:x.d=p.d
  ·by_cases e2:y.d=p.d
   ·rw [e1,e2]
   ·simp only [e1,e2,if_true,if_false] at e;rcases List.mem_cons.1 hy with rfl | hy
    ·exact (e2 rfl).elim
    ·have:=old y hy;omega
  ·by_cases e2:y.d=p.d
   ·simp only [e1,e2,if_true,if_false] at e;rcases List.mem_cons.1 hx with rfl | hx
    ·exact (e1 rfl).elim
    ·have:=old x hx;omega
   ·simp only [e1,e2,if_false] at e;rcases List.mem_cons.1 hx with rfl | hx
    ·exact (e1 rfl).elim
    rcases List.mem_cons.1 hy with rfl | hy
    ·exact (e2 rfl).elim
    exact hinj x hx y hy e
 ·by_cases e1:q.d=p.d
  ·have hqp:q=p:=by
    rcases List.mem_cons.1 hq with h | h
    ·exact h
    ·exact (hne q h e1).elim
   subst hqp;simp only [if_true];refine ⟨h2.size,fun hb=>Nat.lt_irrefl _ (h1.hr.imb _ hb),fun r cap hr=>Nat.lt_irrefl _ (h1.hr.bound r _ cap hr), ?_,_,heap_alloc_new _ _,by rw [hst];rfl⟩
   rw [hd];by_cases hlt:q.d<a.tmps.size
   ·left;simp [Act.put,Array.getD_eq_getD_getElem?,Array.getElem?_setIfInBounds,hlt]
   ·right;simp [Act.put];omega
  ·simp only [e1,if_false]
   have hqP:q∈P:=by
    rcases List.mem_cons.1 hq with h | h
    ·exact (e1 (by rw [h])).elim
    ·exact h
   obtain ⟨h4,h6,h7,h8,cur,h5,h9⟩:=hall q hqP;obtain ⟨e3,e4⟩:=Qaq a (.pointer (some ⟨w.heap.size,0,none⟩)) (dd:=o.dst) (d:=q.d) (by rw [hd];intro e;injection e with e;exact e1 e.symm)
   refine ⟨h4,h6,h7,by rw [e3,e4];exact h8,cur,by rw [heap_alloc_old _ _ _ (old q hqP)];exact h5, ?_⟩
   cases hs:st q with
   | false=>rw [hs] at h9;exact h9
   | true=>rw [hs] at h9;exact ⟨h9.1,fun j=>(h9.2 j).mono hE h1.hr.apart⟩
def StC (C:Ctx) (p:Pn) (v:V) (n:Nat):Prop:=p.d<n∧(C.ty p.t).size≤(Xb (C.ty p.t)).length∧(cellsOf v).length=(C.ty p.t).size∧(cellsOf v).all Yc=true
theorem InvF.stored {ro:Option Nat} {p:Pn} (ht:(C.ty p.t).ok=true) {o:Oper} (ho:o.op=.store p.t (.tmp p.d) (stX ops p)) (hd:o.dst=none) {P:List Pn} {st st':Pn→Bool} (hp:p∈P) (hst:st p=false) (hst':st' p=true) (hq:∀ q∈P,q≠p→st' q=st q) (hu:∀ q∈P,q.d=p.d→q=p) (hxd:∀ q∈P,stX ops p≠.tmp q.d) {ts:List V} {H:Qa} (hc:StC C p (ev ts (stX ops p)) ts.length) {a:Act} {w:World} {next:Act→World→Prop} {R:Exit→Act→World→Prop} (hR:InvF C ops im pl w0 ds P st ts H a w)
  (hnext:∀ vc w',InvF C ops im pl w0 ds P st' ts H (a.put o.dst vc) w'→next (a.put o.dst vc) w'):o.wpIn (FW ro) 0 C.P a w next R:=by
 obtain ⟨im',pl',b,h1,h2,h3,hinj,hall⟩:=hR;obtain ⟨h4,h6,h7,h8,cur,h5,h9⟩:=hall p hp;rw [hst] at h9
 have h9:cur=(C.ty p.t).z.cells:=h9
 obtain ⟨s1,s2,s3,s4⟩:=hc
 have hlen:=h1.tr.1
 rw [Kc] at hlen
 have h8:=h8.resolve_right (by omega)
 have hz:=Qmq (im:=im') (pl:=pl') (w:=w) (C.ok p.t ht)
 have hv:=Qgl h1.tr (stX ops p)
 rw [Xiz hxd] at hv;obtain ⟨c1,c2,c3⟩:=hv.cells s4
 have hcs:cur.size=(Xb (C.ty p.t)).length:=by rw [h9];exact hz.1.symm
 have hlc:0+0+(a.eval (stX ops p)).cells.toList.length≤cur.size:=by simp;omega
 have hrun:=run_storeCells_at (P:=C.P) (b p.d) 0 p.t (a.eval (stX ops p)).cells.toList 0 cur w h5 hlc c3
 generalize hnew:(cur.toList.take (0+0)++(a.eval (stX ops p)).cells.toList++cur.toList.drop (0+0+(a.eval (stX ops p)).cells.toList.length)).toArray=new at hrun
 have hnewsz:new.size=cur.size:=by rw [← hnew];simp;simp at hlc;omega
 have hget:∀ j,new.getD j undef=if j<(a.eval (stX ops p)).cells.size then (a.eval (stX ops p)).cells.getD j undef else cur.getD j undef:=by
  intro j;rw [← hnew];simp only [Array.getD_eq_getD_getElem?,List.getElem?_toArray,Nat.add_zero,List.take_zero,List.nil_append];rw [List.getElem?_append];by_cases h2:j<(a.eval (stX ops p)).cells.toList.length
  ·rw [if_pos h2,if_pos (by simp at h2;omega)];simp
  ·rw [if_neg h2,if_neg (by simp at h2;omega)]
   simp only [List.getElem?_drop,Array.length_toList,Nat.zero_add];simp only [Array.length_toList] at h2;rw [show (a.eval (stX ops p)).cells.size+(j - (a.eval (stX ops p)).cells.size)=j by omega];simp
 refine ⟨fun _ _=>trivial, ?_⟩
 rw [Oper.semAt_eq ro a.eval o (fun c=>by rw [ho];simp)]
 have hev:a.eval (.tmp p.d)=.pointer (some ⟨b p.d,0,none⟩):=h8
 have hst1:(Instr.storeAt p.t (a.eval (.tmp p.d)) (a.eval (stX ops p))).run C.P w=.ok () (w.setRow (b p.d) new):=by
  rw [hev];simp only [Instr.storeAt,Instr.sureAddr,Sem.run_bind,Sem.run_pure,Result.andThen_ok,storeVar,(C.ok p.t ht).sizeOf];rw [if_neg (by omega)]
  simpa using hrun
 rw [show (execOp a.eval o).run C.P w=.ok .skip (w.setRow (b p.d) new) by simp [execOp,ho,hst1]]
 obtain ⟨u1,u2⟩:=h1.unplaced new h5 h6 h7
 have hsz:(w.setRow (b p.d) new).heap.size=w.heap.size:=by simp [World.setRow]
 refine hnext undef _ ⟨im',pl',b, ?_, ?_,by rw [hd];exact h3,hinj,fun q hqP=>?_⟩
 ·rw [hd];exact u1
 ·refine ⟨h2.os,h2.tape,h2.output,by rw [hsz];exact h2.size,h2.imm,h2.imn,h2.plo,h2.pln,fun b' hb' hn'=>?_⟩
  rw [setRow_other w (b p.d) b' new (by omega)]
  exact h2.frame b' hb' hn'
 ·obtain ⟨k4,k6,k7,k8,cu,k5,k9⟩:=hall q hqP;by_cases e:q=p
  ·subst e;refine ⟨k4,k6,k7,by rw [hd];exact k8,new,setRow_heap w (b q.d) cur new q.t (0,0) h5, ?_⟩
   rw [hst'];refine ⟨by rw [hnewsz];exact hcs,fun j=>u2 _ _ ?_⟩
   rw [Qd3 _ _ _ _ (by omega),hget j,c1]
   by_cases hj:j<(cellsOf (ev ts (stX ops q))).length
   ·rw [if_pos ⟨Nat.zero_le _,by omega⟩,if_pos hj];exact c2 j
   ·rw [if_neg (by omega),if_neg hj,h9];exact hz.2 j
  ·have hbne:b q.d≠b p.d:=fun e2=>e (hu q hqP (hinj q hqP p hp e2))
   refine ⟨k4,k6,k7,by rw [hd];exact k8,cu,by rw [setRow_other w (b p.d) (b q.d) new hbne];exact k5, ?_⟩
   rw [hq q hqP e];cases hs:st q with
   | false=>rw [hs] at k9;exact k9
   | true=>rw [hs] at k9;exact ⟨k9.1,fun j=>u2 _ _ (k9.2 j)⟩
end
theorem Qj8 {C:Ctx} {cw:CW} {HH:Qa} (hcw:CWok cw HH) {ops:Array Oper} {fs:List Pn} (hS:FuS C ops fs) {H0:Qa} {K:List V→Qa→Prop} {f:Pn} (hf:f∈fs) (l2:List Nat):∀ (l1:List Nat),(∀ j∈l1,∀ o:Oper,ops[j]?=some o→∀ u,stX ops f=.tmp u→o.dst≠some u)→∀ ts H,Jf C cw ops H0 K (l1++f.m::Zy ops f::l2) ts H→StC C f (ev ts (stX ops f)) ts.length
 | [],_,ts,H,h=>by
  obtain ⟨⟨o,ho,hop,hd,hg, -⟩,hty,⟨p,hp,hpop,hpd,hpg, -⟩, -, -,hsrc, -⟩:=hS.fu f hf;simp only [List.nil_append,Jf,ho,hp] at h
  have h2:=Qej hg h
  rw [hop] at h2;simp only [opd,Xj,if_true,opc,opw] at h2
  have h3:=Qej hpg h2.2
  rw [hpop] at h3;simp only [opd,Xj,if_true,opc,opw] at h3
  have h4:=h3.2
  rw [hd] at h4
  have e:ev (Xi ts (some f.d) (.ptr H.length 0)) (stX ops f)=ev ts (stX ops f):=Qdr fun t ht e=>by
   injection ht with ht
   subst ht;rcases hsrc f.m o ho with h5 | ⟨h5, -⟩
   ·exact h5 _ e hd
   ·simp only [Qah,List.all_eq_true,Bool.and_eq_true,bne_iff_ne,ne_eq] at h5;exact (h5 f hf).1 rfl
  rw [e] at h4;by_cases hlt:f.d<ts.length
  ·have e2:ev (Xi ts (some f.d) (.ptr H.length 0)) (.tmp f.d)=.ptr H.length 0:=by
    simp [ev,Xi,Zh,hlt]
   rw [e2] at h4;simp only [Qbb,Xx] at h4;exact ⟨hlt,by have:=h4.1;omega,h4.2.1,h4.2.2.1⟩
  ·exfalso
   have e2:ev (Xi ts (some f.d) (.ptr H.length 0)) (.tmp f.d)=.any:=by
    simp only [ev,Xi,Zh];rw [if_neg (fun h=>hlt h.2),Xo,List.getD_eq_getElem?_getD,List.getElem?_eq_none (by omega)]
    rfl
   rw [e2] at h4;exact h4.elim
 | j::l1,hj,ts,H,h=>by
  simp only [List.cons_append,Jf] at h;cases ho:ops[j]? with
  | none =>
   rw [ho] at h;exact Qj8 hcw hS hf l2 l1 (fun k hk=>hj k (by simp [hk])) ts H h
  | some o =>
   rw [ho] at h;refine Qkl hcw (Yn hS.known ho) (Qau hcw (Yn hS.known ho) (fun v H' h'=>?_) h)
   have:=Qj8 hcw hS hf l2 l1 (fun k hk=>hj k (by simp [hk])) _ H' h'
   have e:ev (Xi ts o.dst v) (stX ops f)=ev ts (stX ops f):=Qdr fun t ht e=>hj j (by simp) o ho t e ht
   rw [e] at this
   have e2:(Xi ts o.dst v).length=ts.length:=by
    unfold Xi;split
    ·rw [Yi]
    ·rfl
   rwa [e2] at this
def unl (listed:Array Bool) (i:Nat):Bool:=!listed.getD i false
section
variable {C:Ctx} {im:Nat→Prop} {pl:Nat→Place} {w0:World} {ds:List Deferred}
theorem Qr2 {ops:Array Oper} {fs:List Pn} (hS:FuS C ops fs) {H0:Qa} {K:List V→Qa→Prop} {a:Act} {w:World} {st:Pn→Bool}:∀ (l:List Pn) (ts:List V) (H:Qa),(∀ f∈l,f∈fs)→(l.map (·.m)).Nodup→(∀ f∈l,st f=true) →
  Jf C (cwP C H0) ops H0 K (l.flatMap fun f=>[f.m,Zy ops f]) ts H→InvF C ops im pl w0 ds l st ts H a w→∃ ts' H',K ts' H'∧InvF C ops im pl w0 ds [] st ts' H' a w
 | [],ts,H,_,_,_,h,hI=>⟨ts,H,h,hI⟩
 | f::l,ts,H,hl,hn,hst,h,hI=>by
  have hf:=hl f (by simp)
  have hc:=Qj8 (Qa1 C H0) hS hf (l.flatMap fun f=>[f.m,Zy ops f]) [] (by simp) ts H h
  obtain ⟨⟨o,ho,hop,hd,hg, -⟩,hty,⟨p,hp,hpop,hpd,hpg, -⟩, -, -,hsrc, -⟩:=hS.fu f hf;simp only [List.flatMap_cons,List.cons_append,List.nil_append,Jf,ho,hp] at h
  have h2:=Qej hg h
  rw [hop] at h2;simp only [opd,Xj,if_true,opc,opw] at h2
  have h3:=Qej hpg h2.2
  rw [hpop] at h3;simp only [opd,Xj,if_true,opc,opw] at h3
  have h4:=h3.2
  rw [hd] at h4
  have e:ev (Xi ts (some f.d) (.ptr H.length 0)) (stX ops f)=ev ts (stX ops f):=Qdr fun t ht e=>by
   injection ht with ht
   subst ht;rcases hsrc f.m o ho with h5 | ⟨h5, -⟩
   ·exact h5 _ e hd
   ·simp only [Qah,List.all_eq_true,Bool.and_eq_true,bne_iff_ne,ne_eq] at h5;exact (h5 f hf).1 rfl
  rw [e] at h4
  have e2:ev (Xi ts (some f.d) (.ptr H.length 0)) (.tmp f.d)=.ptr H.length 0:=by
   simp [ev,Xi,Zh,hc.1]
  rw [e2] at h4;simp only [Qbb,Xx] at h4
  have h5:=h4.2.2.2
  rw [hpd,List.set_append_right _ _ (Nat.le_refl _),Nat.sub_self] at h5;simp only [List.map_cons,List.nodup_cons,List.mem_map,not_exists,not_and] at hn
  have hne:∀ q∈l,q.m≠f.m:=fun q hq e=>hn.1 q hq e
  have hI':=hI.flush (hst f (by simp)) (fun q hq=>((((hS.fu f hf).apart q (hl q (by simp [hq]))).resolve_left (hne q hq)).1)) (fun q hq e=>by
   obtain ⟨p',hp',hpop', -⟩:=(hS.fu q (hl q (by simp [hq]))).st
   have:=((hS.fu f hf).away (Zy ops q) p' hp' (fun e=>by
    obtain ⟨o',ho',hop', -⟩:=(hS.fu f hf).al;rw [e,ho'] at hp';cases hp';rw [hop'] at hpop';cases hpop') ((((hS.fu f hf).apart q (hl q (by simp [hq]))).resolve_left (hne q hq)).2)).1
   refine this ?_;simp [Oper.looksAt,hpop',e,Op.operands])
  rw [Jh] at hI';exact Qr2 hS l _ _ (fun q hq=>hl q (by simp [hq])) hn.2 (fun q hq=>hst q (by simp [hq])) h5 hI'
theorem Qz7 {ro:Option Nat} {ops:Array Oper} {fs:List Pn} (hS:FuS C ops fs) (hfs:∀ f∈fs,∀ g∈fs,f.m=g.m→f=g) {H0:Qa} {K:List V→Qa→Prop} {R:Exit→Act→World→Prop} (hK:∀ a w ts H,K ts H→InvF C ops im pl w0 ds [] (fun _=>true) ts H a w→R .normal a w) :
  ∀ (fuel:Nat) (listed:Array Bool) (ts:List V) (H:Qa) (w:World) (a:Act),listed.size=ops.size→Qdt ops listed→((List.range ops.size).filter (unl listed)).length≤fuel→Same H0 H →
  Jf C (cwP C H0) ops H0 K (((List.range ops.size).filter fun i=>Qah ops fs i&&unl listed i)++fs.flatMap fun f=>[f.m,Zy ops f]) ts H→InvF C ops im pl w0 ds (fs.filter fun f=>listed.getD f.m false) (fun f=>listed.getD (Zy ops f) false) ts H a w →
  wpAnyIn (FW ro) 0 C.P .any ops R fuel listed a w:=by
 have hcw:=Qa1 C H0
 -- all is done
 have fin:∀ (listed:Array Bool) (ts:List V) (H:Qa) (w:World) (a:Act),listed.size=ops.size→(∀ i,i<ops.size→listed.getD i false=true)→Jf C (cwP C H0) ops H0 K (((List.range ops.size).filter fun i=>Qah ops fs i&&unl listed i)++fs.flatMap fun f=>[f.m,Zy ops f]) ts H→InvF C ops im pl w0 ds (fs.filter fun f=>listed.getD f.m false) (fun f=>listed.getD (Zy ops f) false) ts H a w→R .normal a w:=by
  intro listed ts H w a hsz hall hx hI
  have e1:((List.range ops.size).filter fun i=>Qah ops fs i&&unl listed i)=[]:=by
   refine List.filter_eq_nil_iff.2 fun i hi=>?_
   simp [unl,hall i (List.mem_range.1 hi)]
  rw [e1,List.nil_append] at hx
  have hm:∀ f∈fs,listed.getD f.m false=true:=fun f hf=>by
   obtain ⟨o,ho, -⟩:=(hS.fu f hf).al;exact hall _ (Array.getElem?_eq_some_iff.1 ho).1
  have hs:∀ f∈fs,listed.getD (Zy ops f) false=true:=fun f hf=>by
   obtain ⟨o,ho, -⟩:=(hS.fu f hf).st;exact hall _ (Array.getElem?_eq_some_iff.1 ho).1
  have e2:(fs.filter fun f=>listed.getD f.m false)=fs:=List.filter_eq_self.2 hm
  rw [e2] at hI;obtain ⟨ts',H',k1,k2⟩:=Qr2 hS fs ts H (fun f hf=>hf) hS.nodup hs hx hI
  exact hK _ _ _ _ k1 (k2.flags fun p hp=>(by cases hp))
 intro fuel
 induction fuel with
 | zero =>
  intro listed ts H w a hsz hcl hlen hsm hx hI
  have hall:∀ i,i<ops.size→listed.getD i false=true:=fun i hi=>by
   cases h:listed.getD i false with
   | true=>rfl
   | false =>
    have:i∈(List.range ops.size).filter (unl listed):=List.mem_filter.2 ⟨List.mem_range.2 hi,by simp [unl,h]⟩
    rw [List.length_eq_zero_iff.1 (Nat.le_zero.1 hlen)] at this;cases this
  refine ⟨?_,fin listed ts H w a hsz hall hx hI⟩;cases hr:Region.ready .any ops listed with
  | nil=>rfl
  | cons i l =>
   exfalso;obtain ⟨h1,o,ho,h3⟩:=Qap (listed:=listed) (i:=i) (by rw [hr];simp)
   have hlt:i<ops.size:=(Array.getElem?_eq_some_iff.1 ho).1
   have:=hall i hlt
   have hlt':i<listed.size:=by rw [hsz];exact hlt
   simp only [Array.getD_eq_getD_getElem?,hlt',Array.getElem?_eq_getElem,Option.getD_some] at this h1;rw [this] at h1;cases h1
 | succ fuel ih =>
  intro listed ts H w a hsz hcl hlen hsm hx hI;refine ⟨fun hr=>fin listed ts H w a hsz (fun i hi=>?_) hx hI,fun i hi=>?_⟩
  ·-- the first one that is not done is ready
   have main:∀ (n i:Nat),i≤n→i<ops.size→listed.getD i false=true:=by
    intro n
    induction n with
    | zero =>
     intro i hin hi;cases h:listed.getD i false with
     | true=>rfl
     | false =>
      have hlt':i<listed.size:=by rw [hsz];exact hi
      have:i∈Region.ready .any ops listed:=mem_ready.2 ⟨by simp only [Array.getD_eq_getD_getElem?,hlt',Array.getElem?_eq_getElem,Option.getD_some] at h ⊢;exact h,ops[i],by simp [hi],fun e he hbb=>by
       have:=hS.after i ops[i] (by simp [hi]) e.on (by simp only [Qy,List.any_eq_true,Bool.and_eq_true];exact ⟨e,by simpa using he,hbb,by simp⟩)
       omega⟩
      rw [hr] at this;cases this
    | succ n ihn =>
     intro i hin hi;cases h:listed.getD i false with
     | true=>rfl
     | false =>
      have hlt':i<listed.size:=by rw [hsz];exact hi
      have:i∈Region.ready .any ops listed:=mem_ready.2 ⟨by simp only [Array.getD_eq_getD_getElem?,hlt',Array.getElem?_eq_getElem,Option.getD_some] at h ⊢;exact h,ops[i],by simp [hi],fun e he hbb=>by
       have:=hS.after i ops[i] (by simp [hi]) e.on (by simp only [Qy,List.any_eq_true,Bool.and_eq_true];exact ⟨e,by simpa using he,hbb,by simp⟩)
       exact ihn e.on (by omega) (by omega)⟩
      rw [hr] at this;cases this
   exact main i i (Nat.le_refl _) hi
  ·obtain ⟨h1,o,ho,h3⟩:=Qap hi
   have hlt:i<ops.size:=(Array.getElem?_eq_some_iff.1 ho).1
   have hlt':i<listed.size:=by rw [hsz];exact hlt
   have hget:∀ j,(listed.setIfInBounds i true).getD j false=if i=j then true else listed.getD j false:=fun j=>by
    simp only [Array.getD_eq_getD_getElem?,Array.getElem?_setIfInBounds];split
    ·simp [hlt']
    ·rfl
   have hun:listed.getD i false=false:=by simpa only [Array.getD_eq_getD_getElem?,hlt',Array.getElem?_eq_getElem,Option.getD_some] using h1
   have hcl':Qdt ops (listed.setIfInBounds i true):=fun k p hp hk j hj=>by
    rw [hget] at hk ⊢;split
    ·rfl
    ·split at hk
     ·rename_i e;subst e;rw [ho] at hp;cases hp;exact h3 j hj
     ·exact hcl k p hp hk j hj
   have hsz':(listed.setIfInBounds i true).size=ops.size:=by rw [Array.size_setIfInBounds];exact hsz
   have hlen':((List.range ops.size).filter (unl (listed.setIfInBounds i true))).length≤fuel:=by
    have e1:(List.range ops.size).filter (unl (listed.setIfInBounds i true))=((List.range ops.size).filter (unl listed)).filter fun j=>decide (i≠j):=by
     rw [List.filter_filter];refine List.filter_congr fun j _=>?_
     simp only [unl,hget];by_cases e:i=j
     ·simp [e]
     ·simp [e]
    have:(((List.range ops.size).filter (unl listed)).filter fun j=>decide (i≠j)).length<((List.range ops.size).filter (unl listed)).length:=by
     refine Nat.lt_of_le_of_ne (List.length_filter_le _ _) fun e2=>?_
     have:=List.length_filter_eq_length_iff.1 e2 i (List.mem_filter.2 ⟨List.mem_range.2 hlt,by simp [unl,hun]⟩)
     simp at this
    rw [e1];omega
   have hgd:=hS.guard i o ho
   unfold wpOpIn;simp only [ho];rw [if_pos (by simp [Region.wanted,hgd])]
   -- an edge's end is done
   have hah:∀ s p,ops[s]?=some p→listed.getD s false=true→∀ j,Jt ops s j s=true→listed.getD j false=true:=fun s p hp hs j hj=>Kq hcl s j s p hp (fun k hk=>hcl s p hp hs k hk) hj
   by_cases hnorm:Qah ops fs i=true
   ·-- one that only reads
    have hni:∀ f∈fs,f.m≠i∧Zy ops f≠i:=fun f hf=>by
     simp only [Qah,List.all_eq_true,Bool.and_eq_true,bne_iff_ne,ne_eq] at hnorm;exact hnorm f hf
    have hef:=hS.eff i o ho hnorm
    have hmem:i∈(List.range ops.size).filter fun i=>Qah ops fs i&&unl listed i:=List.mem_filter.2 ⟨List.mem_range.2 hlt,by simp [hnorm,unl,hun]⟩
    have hsorted:((List.range ops.size).filter fun i=>Qah ops fs i&&unl listed i).Pairwise (·<·):=(List.pairwise_lt_range).filter _
    obtain ⟨l1,l2,hl⟩:=List.append_of_mem hmem;rw [hl] at hx hsorted;rw [List.pairwise_append] at hsorted
    have hb:=Qas hcw hS.known (l2++fs.flatMap fun f=>[f.m,Zy ops f]) l1 (fun j hj=>by
     have hji:j<i:=hsorted.2.2 j hj i (by simp)
     have hjm:j∈(List.range ops.size).filter fun i=>Qah ops fs i&&unl listed i:=by rw [hl];simp [hj]
     obtain ⟨-,hjm⟩:=List.mem_filter.1 hjm;simp only [Bool.and_eq_true,unl,Bool.not_eq_true'] at hjm;rcases hS.pair i j hlt hnorm hji hjm.1 with h4 | h4
     ·exact h4
     ·have h5:=Kq hcl i j i o ho h3 h4
      rw [h5] at hjm;cases hjm.2) ts H (by simpa using hx)
    simp only [Jf,ho] at hb
    have haway:∀ p∈(fs.filter fun f=>listed.getD f.m false),p.d ∉ o.looksAt ops∧o.dst≠some p.d:=fun p hp=>by
     have hpf:=(List.mem_filter.1 hp).1
     exact (hS.fu p hpf).away i o ho (fun e=>(hni p hpf).1 e.symm) (fun e=>(hni p hpf).2 e.symm)
    rw [← Qqg (P:=fs.filter fun f=>listed.getD f.m false) (fun p hp=>(haway p hp).1) ts] at hb
    have h:=Qej hgd hb
    refine hI.op (fun p hp=>(haway p hp).2) (fun p hp hs u hu hd=>?_) (Qfy hcw (Yn hS.known ho) (.inl hsm) h) fun v vc H2 w' k1 k2=>?_
    ·have hpf:=(List.mem_filter.1 hp).1
     obtain ⟨q,hq, -⟩:=(hS.fu p hpf).st;rcases (hS.fu p hpf).src i o ho with h4 | ⟨-,h4⟩
     ·exact h4 u hu hd
     ·have:=hah _ q hq hs i h4
      rw [hun] at this;cases this
    ·have hsm2:Same H0 H2:=by
      rcases k1.1 with k5 | ⟨k5, -⟩ | k5
      ·exact k5.1 hsm
      ·have:=hef
       cases hop:o.op<;>rw [hop] at k5 this<;>simp [Yv,Xj] at k5 this
      ·obtain ⟨c,hc1,hc2⟩:=Qgw k5;rw [hc1] at hef;rcases hc2 with hc2 | hc2<;>simp [Xj,hc2] at hef
     refine ih _ (Xi ts o.dst v) H2 w' _ hsz' hcl' hlen' hsm2 ?_ ?_
     ·have e1:((List.range ops.size).filter fun j=>Qah ops fs j&&unl (listed.setIfInBounds i true) j)=l1++l2:=by
       have e2:((List.range ops.size).filter fun j=>Qah ops fs j&&unl (listed.setIfInBounds i true) j)=((List.range ops.size).filter fun j=>Qah ops fs j&&unl listed j).filter fun j=>decide (i≠j):=by
        rw [List.filter_filter];refine List.filter_congr fun j _=>?_
        simp only [unl,hget];by_cases e:i=j
        ·simp [e]
        ·simp [e]
       rw [e2,hl,List.filter_append,List.filter_cons,if_neg (by simp)]
       congr 1
       ·exact List.filter_eq_self.2 fun j hj=>by have:=hsorted.2.2 j hj i (by simp);simp;omega
       ·exact List.filter_eq_self.2 fun j hj=>by have:=(List.pairwise_cons.1 hsorted.2.1).1 j hj;simp;omega
      rw [e1,List.append_assoc];exact k1.2
     ·have e1:(fs.filter fun f=>(listed.setIfInBounds i true).getD f.m false)=fs.filter fun f=>listed.getD f.m false:=List.filter_congr fun f hf=>by rw [hget,if_neg (fun e=>(hni f hf).1 e.symm)]
      rw [e1];refine k2.flags fun p hp=>?_
      rw [hget,if_neg (fun e=>(hni p (List.mem_filter.1 hp).1).2 e.symm)]
   ·have hex:∃ f∈fs,f.m=i∨Zy ops f=i:=by
     refine Classical.byContradiction fun hno=>hnorm ?_
     simp only [Qah,List.all_eq_true,Bool.and_eq_true,bne_iff_ne,ne_eq];exact fun f hf=>⟨fun e=>hno ⟨f,hf,.inl e⟩,fun e=>hno ⟨f,hf,.inr e⟩⟩
    have eN:((List.range ops.size).filter fun j=>Qah ops fs j&&unl (listed.setIfInBounds i true) j)=(List.range ops.size).filter fun j=>Qah ops fs j&&unl listed j:=List.filter_congr fun j _=>by
     simp only [unl,hget];by_cases e:i=j
     ·subst e;simp [hnorm]
     ·simp [e]
    obtain ⟨f,hf,hfi | hfi⟩:=hex
    ·-- it is made
     subst hfi;obtain ⟨o',ho',hop,hd,hg, -⟩:=(hS.fu f hf).al;rw [ho] at ho';cases ho';obtain ⟨p,hp,hpop,hpd,hpg,hpb⟩:=(hS.fu f hf).st
     have hsu:listed.getD (Zy ops f) false=false:=by
      cases h:listed.getD (Zy ops f) false with
      | false=>rfl
      | true=>have:=hcl _ p hp h f.m hpb;rw [hun] at this;cases this
     have hms:∀ g∈fs,Zy ops g≠f.m:=fun g hg e=>by
      obtain ⟨q,hq,hqop, -⟩:=(hS.fu g hg).st;rw [e,ho] at hq;cases hq;rw [hop] at hqop;cases hqop
     refine InvF.made (p:=f) (hS.fu f hf).ty hop hd hsu (fun q hq=>?_) hI fun vc w' hI'=>?_
     ·obtain ⟨hqf,hql⟩:=List.mem_filter.1 hq;rcases (hS.fu f hf).apart q hqf with h | h
      ·rw [h] at hql
       have hql:listed.getD f.m false=true:=hql
       rw [hun] at hql;cases hql
      ·exact h.1
     ·refine ih _ _ H w' _ hsz' hcl' hlen' hsm (by rw [eN];exact hx) ?_
      refine InvF.mem (P:=f::fs.filter fun f=>listed.getD f.m false) (fun q=>?_) (hI'.flags fun q hq=>?_)
      ·simp only [List.mem_cons,List.mem_filter,hget];constructor
       ·rintro (rfl | ⟨h4,h5⟩)
        ·exact ⟨hf,by simp⟩
        ·exact ⟨h4,by split;rfl;exact h5⟩
       ·rintro ⟨h4,h5⟩;split at h5
        ·rename_i e;exact .inl (hfs q h4 f hf e.symm)
        ·exact .inr ⟨h4,h5⟩
      ·have hqf:q∈fs:=by
        rcases List.mem_cons.1 hq with rfl | hq
        ·exact hf
        ·exact (List.mem_filter.1 hq).1
       rw [hget,if_neg (fun e=>hms q hqf e.symm)]
    ·-- it is filled
     subst hfi;obtain ⟨p,hp,hop,hd,hg,hb⟩:=(hS.fu f hf).st;rw [ho] at hp;cases hp
     have hml:listed.getD f.m false=true:=h3 f.m hb
     have hfP:f∈fs.filter fun f=>listed.getD f.m false:=List.mem_filter.2 ⟨hf,hml⟩
     have hcond:StC C f (ev ts (stX ops f)) ts.length:=by
      obtain ⟨f1,f2,hff⟩:=List.append_of_mem hf
      have hx2:=hx
      rw [show (fs.flatMap fun f=>[f.m,Zy ops f])=(f1.flatMap fun f=>[f.m,Zy ops f])++f.m::Zy ops f::(f2.flatMap fun f=>[f.m,Zy ops f]) by rw [hff];simp,← List.append_assoc] at hx2
      refine Qj8 hcw hS hf _ _ (fun j hj q hq u hu hqd=>?_) ts H hx2
      rcases List.mem_append.1 hj with hj | hj
      ·have hjm:=(List.mem_filter.1 hj).2
       simp only [Bool.and_eq_true,unl,Bool.not_eq_true'] at hjm;rcases (hS.fu f hf).src j q hq with h4 | ⟨-,h4⟩
       ·exact h4 u hu hqd
       ·have:=Kq hcl _ j _ o ho h3 h4
        rw [this] at hjm;cases hjm.2
      ·obtain ⟨g,hg1,hg2⟩:=List.mem_flatMap.1 hj
       have hgf:g∈fs:=by rw [hff];simp [hg1]
       rcases (hS.fu f hf).src j q hq with h4 | ⟨h4, -⟩
       ·exact h4 u hu hqd
       ·simp only [Qah,List.all_eq_true,Bool.and_eq_true,bne_iff_ne,ne_eq] at h4;simp only [List.mem_cons,List.not_mem_nil,or_false] at hg2;rcases hg2 with e | e
        ·exact (h4 g hgf).1 e.symm
        ·exact (h4 g hgf).2 e.symm
     have hns:∀ g∈fs,g.m≠Zy ops f:=fun g hg e=>by
      obtain ⟨q,hq,hqop, -⟩:=(hS.fu g hg).al;rw [e,ho] at hq;cases hq;rw [hop] at hqop;cases hqop
     refine InvF.stored (p:=f) (st':=fun g=>(listed.setIfInBounds (Zy ops f) true).getD (Zy ops g) false) (hS.fu f hf).ty hop hd hfP hun (by simp only [hget];simp) (fun q hq hne=>?_) (fun q hq hqd=>?_) (fun q hq e=>?_) hcond hI fun vc w' hI'=>?_
     ·have hqf:=(List.mem_filter.1 hq).1
      simp only [hget];rw [if_neg (fun e=>?_)]
      rcases (hS.fu f hf).apart q hqf with h | h
      ·exact hne (hfs q hqf f hf h)
      ·exact h.2 e.symm
     ·have hqf:=(List.mem_filter.1 hq).1
      rcases (hS.fu f hf).apart q hqf with h | h
      ·exact hfs q hqf f hf h
      ·exact (h.1 hqd).elim
     ·have hqf:=(List.mem_filter.1 hq).1
      by_cases hqe:q.m=f.m
      ·have:=hfs q hqf f hf hqe
       subst this;obtain ⟨o',ho', -,hd', -⟩:=(hS.fu q hf).al;rcases (hS.fu q hf).src q.m o' ho' with h4 | ⟨h4, -⟩
       ·exact h4 _ e hd'
       ·simp only [Qah,List.all_eq_true,Bool.and_eq_true,bne_iff_ne,ne_eq] at h4;exact (h4 q hf).1 rfl
      ·obtain ⟨a1,a2⟩:=((hS.fu q hqf).apart f hf).resolve_left (fun e=>hqe e.symm)
       have:=((hS.fu q hqf).away (Zy ops f) o ho (fun e=>hns q hqf e.symm) a2).1
       exact this (by simp [Oper.looksAt,hop,e,Op.operands])
     ·refine ih _ _ H w' _ hsz' hcl' hlen' hsm (by rw [eN];exact hx) ?_
      have e1:(fs.filter fun g=>(listed.setIfInBounds (Zy ops f) true).getD g.m false)=fs.filter fun g=>listed.getD g.m false:=List.filter_congr fun g hg=>by rw [hget,if_neg (fun e=>hns g hg e.symm)]
      rw [e1];exact hI'
end
theorem Qnd:∀ {l:List Pn},(l.map (·.m)).Nodup→∀ f∈l,∀ g∈l,f.m=g.m→f=g
 | [],_,f,hf,_,_,_=>by cases hf
 | a::l,h,f,hf,g,hg,e=>by
  simp only [List.map_cons,List.nodup_cons,List.mem_map,not_exists,not_and] at h;rcases List.mem_cons.1 hf with rfl | hf'
  ·rcases List.mem_cons.1 hg with rfl | hg
   ·rfl
   ·exact (h.1 g hg e.symm).elim
  ·rcases List.mem_cons.1 hg with rfl | hg
   ·exact (h.1 f (by assumption) e).elim
   ·exact Qnd h.2 f hf' g hg e
theorem Qit {C:Ctx} {cw:CW} {HH:Qa} (hcw:CWok cw HH) {ops:Array Oper} {H0:Qa} {K:List V→Qa→Prop} (hk:Yf ops=true) (hg:∀ (i:Nat) (o:Oper),ops[i]?=some o→o.guard=none):∀ (l:List Nat) (ts:List V) (H:Qa),Kx C cw ops H0 K (l.filterMap fun i=>ops[i]?) ts H→Jf C cw ops H0 K l ts H
 | [],ts,H,h=>h
 | i::l,ts,H,h=>by
  cases ho:ops[i]? with
  | none =>
   simp only [Jf,ho];exact Qit hcw hk hg l ts H (by rw [List.filterMap_cons] at h;simpa only [ho] using h)
  | some o =>
   simp only [List.filterMap_cons,ho,Kx,Qbz,hg i o ho] at h;simp only [Jf,ho]
   have h':tro C cw ops H0 o ts H fun v H'=>Kx C cw ops H0 K (l.filterMap fun i=>ops[i]?) (Xi ts o.dst v) H':=by
    simp only [tro,Qbg,hg i o ho];exact h
   exact Qau hcw (Yn hk ho) (fun v H' h2=>Qit hcw hk hg l _ H' h2) h'
theorem Xnl {C:Ctx} {ro:Option Nat} (hm:C.P.follows .mixedOrders=true) {id:Nat} {ops:Array Oper} (hdr:Qcr C ops=true) {Q:Exit→List V→Qa→Prop} {ts:List V} {H:Qa}
  {H0:Qa} (hs0:Same H0 H) (h:Kx C (cwP C H0) ops H0 (Q .normal) (Qr3 C ops) ts H):T C ro (.region id ops true) Q ts H:=by
 intro im pl w a hr
 have hS:=Qu9 hdr
 refine wpIn_region_any hm ?_
 have hx:=Qit (Qa1 C H0) hS.known hS.guard (Xkb C ops) ts H h
 have hvr:∀ {v c},VR im pl w v c→VR im pl { w with drawn:=w.drawn+1 } v c:=fun h=>VR.world (w:=w) (w':={ w with drawn:=w.drawn+1 }) (fun _ _ _ (h:w.cell? _=some _)=>h) (fun _ _ _ _ h=>h) h
 have hE:Ext im pl w im pl { w with drawn:=w.drawn+1 }:=⟨rfl,rfl,rfl,Nat.le_refl _,fun _ h=>h,fun _ h=>.inl h,fun _ _=>.inl rfl,fun r b cap h=>.inl ⟨r,cap,h⟩,fun _ _ _=>rfl⟩
 have hr':Rel im pl { w with drawn:=w.drawn+1 } ts H a:=by
  refine ⟨⟨hr.tr.1,fun i=>hvr (hr.tr.2 i)⟩, ?_,hr.df.mono hE⟩
  obtain ⟨g1,g2,g3,g4,g5,g6,g7,g8⟩:=hr.hr;refine ⟨g1,g2,g3,g4,g5,g6,g7,fun r b cap hp=>?_⟩
  obtain ⟨e,s,cs,cur,f1,f2,f3,f4,f5,f6⟩:=g8 r b cap hp;exact ⟨e,s,cs,cur,f1,f2,f3,f4,f5,fun j=>hvr (f6 j)⟩
 have hl0:∀ i,(Array.replicate ops.size false).getD i false=false:=fun i=>by
  simp only [Array.getD_eq_getD_getElem?,Array.getElem?_replicate];split<;>rfl
 refine Qz7 (im:=im) (pl:=pl) (w0:=w) (ds:=a.defers) (K:=Q .normal) hS (Qnd hS.nodup) (fun a' w' ts' H' k1 k2=>?_) ops.size _ ts H _ a (by simp) (fun i o ho hl=>?_) (Nat.le_trans (List.length_filter_le _ _) (by simp)) hs0 ?_ ?_
 ·obtain ⟨im',pl',b,k2,k3,k4,_⟩:=k2;exact ⟨ts',H',im',pl',k1,k2,k3,by rw [k4];exact .refl _ _⟩
 ·rw [hl0] at hl;cases hl
 ·have e:((List.range ops.size).filter fun i=>Qah ops (fus C ops) i&&unl (Array.replicate ops.size false) i)=(List.range ops.size).filter (Qah ops (fus C ops)):=List.filter_congr fun j _=>by simp [unl,hl0]
  rw [e];exact hx
 ·have e:((fus C ops).filter fun f=>(Array.replicate ops.size false).getD f.m false)=[]:=List.filter_eq_nil_iff.2 fun f _=>by simp [hl0]
  rw [e];exact ⟨im,pl,fun _=>0,hr',hE,rfl,fun p hp=>(by cases hp),fun p hp=>(by cases hp)⟩
end Go.Bv
end
section
namespace Go.Bv
open Go.RowKit
def Qui:Option Operand→Bool
 | none=>true
 | some (.const (.int _ _))=>true
 | _=>false
theorem Qh9 {k:IntKind} {n:Int} {e:MapEntry}:∀ (l:List MapEntry) (i:Nat) {c:Nat × Value},Instr.findNow (.int k) (.int k n) l i=some (some c)→Instr.findNow (.int k) (.int k n) (l++[e]) i=some (some c)
 | [],i,c,h=>by simp [Instr.findNow] at h
 | a::l,i,c,h=>by
  simp only [List.cons_append,Instr.findNow] at h ⊢;split at h
  ·exact h
  ·exact Qh9 l (i+1) h
  ·cases h
def Qp6 (k:IntKind) (ks:List Int) (l:List MapEntry):Prop:=∀ e∈l,∃ n,e.key=.int k n∧n∈ks
theorem Qjn {k:IntKind} {n:Int} {ks:List Int} (hn:n ∉ ks):∀ (l:List MapEntry) (i:Nat),Qp6 k ks l→Instr.findNow (.int k) (.int k n) l i=some none
 | [],i,_=>rfl
 | a::l,i,h=>by
  obtain ⟨m,hm,hk⟩:=h a (by simp)
  have hne:(n==m)=false:=by simp;rintro rfl;exact hn hk
  simp only [Instr.findNow,hm,Instr.sameNow,if_true,hne];exact Qjn hn l (i+1) fun e he=>h e (by simp [he])
theorem Qjo {k:IntKind} {n:Int} {ks:List Int} {v:Value} {s:Nat} (hn:n ∉ ks):∀ (l:List MapEntry) (i:Nat),Qp6 k ks l→∃ j,Instr.findNow (.int k) (.int k n) (l++[{ key:=.int k n,val:=v,born:=s }]) i=some (some (j,v))
 | [],i,_=>⟨i,by simp [Instr.findNow,Instr.sameNow]⟩
 | a::l,i,h=>by
  obtain ⟨m,hm,hk⟩:=h a (by simp)
  have hne:(n==m)=false:=by simp;rintro rfl;exact hn hk
  simp only [List.cons_append,Instr.findNow,hm,Instr.sameNow,if_true,hne];exact Qjo hn l (i+1) fun e he=>h e (by simp [he])
theorem Rel.turned {im:Nat→Prop} {pl:Nat→Place} {w:World} {ts:List V} {H:Qa} {a:Act} (h:Rel im pl w ts H a) {b:Nat} {o o':Obj} (hb:w.heap[b]?=some o) (hd:∀ x,o≠.deferred x) (hi:¬ im b) (hn:∀ r cap,pl r≠.at b cap) :
  Rel im pl (w.putObj b o') ts H a∧∀ v c,VR im pl w v c→VR im pl (w.putObj b o') v c:=by
 have hne:∀ k,k≠b→(w.putObj b o').heap[k]?=w.heap[k]?:=by
  intro k hk;simp [World.putObj,Array.getElem?_setIfInBounds,Ne.symm hk]
 have hv:∀ v c,VR im pl w v c→VR im pl (w.putObj b o') v c:=fun v c hvc=>hvc.world (fun ad v had hc=>Qed hc fun _=>hne _ fun e=>hi (e ▸ had)) fun b' es c hb' hc=>by
  rw [hne b' (fun e=>hi (e ▸ hb'))];exact hc
 have hsz:(w.putObj b o').heap.size=w.heap.size:=by simp [World.putObj]
 obtain ⟨g1,g2,g3,g4,g5,g6,g7,g8⟩:=h.hr;refine ⟨⟨⟨h.tr.1,fun i=>hv _ _ (h.tr.2 i)⟩,⟨g1,g2,fun r b' c hr=>by rw [hsz];exact g3 r b' c hr,fun b' hb'=>by rw [hsz];exact g4 b' hb',g5,g6,g7,fun r b' c hr=>?_⟩, ?_⟩,hv⟩
 ·obtain ⟨e,s,cs,cu,f1,f2,f3,f4,f5,f6⟩:=g8 r b' c hr;exact ⟨e,s,cs,cu,f1,by rw [hne b' (fun e=>hn r c (e ▸ hr))];exact f2,f3,f4,f5,fun j=>hv _ _ (f6 j)⟩
 ·obtain ⟨q1,q2⟩:=h.df;refine ⟨q1,fun dd hd'=>?_⟩
  obtain ⟨r,e1,e2,e3⟩:=q2 dd hd';refine ⟨r,e1, ?_,e3⟩;rw [hne r (fun e=>by rw [e,hb] at e2;injection e2 with e2;exact hd _ e2)]
  exact e2
def Qjv:Op→Op
 | .makeMap _ _=>.move (.global 0)
 | .insert _ _ _ x=>.move x
 | op=>op
def Xv (o:Oper):Oper:={ o with op:=Qjv o.op }
structure Seen (ab:Oper→Oper):Prop where
 after:∀ o,(ab o).after=o.after
 guard:∀ o,(ab o).guard=o.guard
theorem Qyl {ab:Oper→Oper} (hab:Seen ab) (ops:Array Oper) (listed:Array Bool):Region.ready .any (ops.map ab) listed=Region.ready .any ops listed:=by
 simp only [Region.ready,Array.size_map,Array.getElem?_map,Option.map_map]
 congr 1
 funext i;cases ops[i]? with
 | none=>rfl
 | some o=>simp [hab.after o]
theorem Qg6 {C:Ctx} {cw:CW} {ro:Option Nat} {ab:Oper→Oper} (hab:Seen ab) {pos:Array Oper} {H0:Qa} (hcw:CWok cw H0) {K:List V→Qa→Prop} {R:Exit→Act→World→Prop} {Inv:Array Bool→List V→Qa→Act→World→Prop} (hg:∀ (i:Nat) (o:Oper),pos[i]?=some o→o.guard=none) (hk:Yf (pos.map ab)=true) (G:Nat→Prop) (hat:∀ i o,(pos.map ab)[i]?=some o→G i→Hat (pos.map ab) G i o)
  (hop:∀ (i:Nat) (o o':Oper),G i→pos[i]?=some o→o'=ab o→∀ (listed:Array Bool) (ts:List V) (H:Qa) (a:Act) (w:World) (KK:V→Qa→Prop) (next:Act→World→Prop),Qdt (pos.map ab) listed→i<listed.size→listed.getD i false=false→(∀ j,Qy o j=true→listed.getD j false=true) →
   opc C.ty cw o'.op ts H KK→Inv listed ts H a w →
   (∀ v vc H' w',KK v H'→Inv (listed.setIfInBounds i true) (Xi ts o'.dst v) H' (a.put o.dst vc) w'→next (a.put o.dst vc) w')→o.wpIn (FW ro) 0 C.P a w next R)
  (tl:List Nat) (htl:∀ i∈tl,∀ j,j<(pos.map ab).size→j ∉ tl→Jq (pos.map ab) i j i=true) (hK:∀ (fuel:Nat) (listed:Array Bool) a w ts H,K ts H→Inv listed ts H a w→Left (pos.map ab) listed tl→tl.length≤fuel→wpAnyIn (FW ro) 0 C.P .any pos R fuel listed a w) :
  ∀ (fuel:Nat) (S:List Nat) (listed:Array Bool) (ts:List V) (H:Qa) (w:World) (a:Act),(∀ i∈S,G i)→Left (pos.map ab) listed (S++tl)→(S++tl).length≤fuel →
  (Same H0 H∨(Stand H0 H∧∀ j∈S,∀ p,(pos.map ab)[j]?=some p→Xp p.op=false)∨(∀ j∈S,∀ p,(pos.map ab)[j]?=some p→Zq p.op=true∨Xj p.op=true))→Jf C cw (pos.map ab) H0 K S ts H→Inv listed ts H a w →
  wpAnyIn (FW ro) 0 C.P .any pos R fuel listed a w:=by
 generalize hops:pos.map ab=ops at *;intro fuel
 have step:∀ (S:List Nat) (listed:Array Bool),(∀ i∈S,G i)→Left ops listed (S++tl)→Region.ready .any ops listed=[]→S=[]:=by
  intro S listed hG hL hr;cases S with
  | nil=>rfl
  | cons i S =>
   exfalso
   have hi:=(hL.mem i).1 (by simp)
   have:i∈Region.ready .any ops listed:=by
    refine mem_ready.2 ⟨?_,ops[i],by simp [hi.1],fun e he hb=>?_⟩
    ·have hlt:i<listed.size:=by rw [hL.size];exact hi.1
     have:=hi.2
     simp only [Array.getD_eq_getD_getElem?,hlt,Array.getElem?_eq_getElem,Option.getD_some] at this ⊢;exact this
    ·have hbt:Qy ops[i] e.on=true:=by
      simp only [Qy,List.any_eq_true,Bool.and_eq_true];exact ⟨e,by simpa using he,hb,by simp⟩
     have hlt:=(hat i ops[i] (by simp [hi.1]) (hG i (by simp))).1 e.on hbt
     cases hl:listed.getD e.on false with
     | true=>rfl
     | false =>
      have:=(hL.mem e.on).2 ⟨by omega,hl⟩
      have hs:=hL.sorted
      rw [List.cons_append] at this hs;rw [List.pairwise_cons] at hs;rcases List.mem_cons.1 this with h1 | h1
      ·omega
      ·have:=hs.1 _ h1;omega
   rw [hr] at this;cases this
 induction fuel with
 | zero =>
  intro S listed ts H w a hG hL hlen hS hx hR
  have:S=[]:=by cases S with
   | nil=>rfl
   | cons i S=>simp at hlen
  subst this;exact hK 0 listed a w ts H hx hR (by simpa using hL) (by simpa using hlen)
 | succ fuel ih =>
  intro S listed ts H w a hG hL hlen hS hx hR;by_cases hne:S=[]
  ·subst hne;exact hK (fuel+1) listed a w ts H hx hR (by simpa using hL) (by simpa using hlen)
  have hrm:Region.ready .any pos listed=Region.ready .any ops listed:=by rw [← hops,Qyl hab]
  refine ⟨fun hr=>(hne (step S listed hG hL (hrm ▸ hr))).elim,fun i hi=>?_⟩
  rw [hrm] at hi
  ·obtain ⟨h1,o,ho,h3⟩:=Qap hi
   have hlt:i<ops.size:=(Array.getElem?_eq_some_iff.1 ho).1
   have hlt':i<listed.size:=by rw [hL.size];exact hlt
   have hm':=(hL.mem i).2 ⟨hlt,by simpa only [Array.getD_eq_getD_getElem?,hlt',Array.getElem?_eq_getElem,Option.getD_some] using h1⟩
   have hm:i∈S:=by
    rcases List.mem_append.1 hm' with h | h
    ·exact h
    ·exfalso;obtain ⟨j,S',rfl⟩:=List.exists_cons_of_ne_nil hne
     have hs:=hL.sorted
     rw [List.pairwise_append] at hs
     have hjt:j ∉ tl:=fun h'=>Nat.lt_irrefl j (hs.2.2 j (by simp) j h')
     have h5:=Yt hL.closed i j i o ho h3 (htl i h j ((hL.mem j).1 (by simp)).1 hjt)
     have h6:=(hL.mem j).1 (by simp)
     rw [h5] at h6;cases h6.2
   obtain ⟨l1,l2,rfl⟩:=List.append_of_mem hm
   replace hL:Left ops listed (l1++i::(l2++tl)):=by simpa using hL
   have hs:=hL.sorted
   rw [List.pairwise_append] at hs
   have hGi:=hG i hm
   have hb:Jf C cw ops H0 K (i::(l1++l2)) ts H:=by
    refine Qas hcw hk l2 l1 (fun j hj=>?_) ts H hx
    have hji:j<i:=hs.2.2 j hj i (by simp)
    rcases (hat i o ho hGi).2.1 j hji (hG j (by simp [hj])) with h4 | h4
    ·exact h4
    ·have h5:=Kq hL.closed i j i o ho h3 h4
     have h6:=(hL.mem j).1 (by simp [hj])
     rw [h5] at h6;cases h6.2
   have hL':=hL.take ho h3
   replace hL':Left ops (listed.setIfInBounds i true) ((l1++l2)++tl):=by simpa using hL'
   have hlen':((l1++l2)++tl).length≤fuel:=by simp only [List.length_append,List.length_cons] at hlen ⊢;omega
   have hsub2:∀ j,j∈l1++l2→j∈l1++i::(l2++tl):=fun j hj=>by
    simp only [List.mem_append,List.mem_cons] at hj ⊢;rcases hj with h | h
    ·exact .inl h
    ·exact .inr (.inr (.inl h))
   have hsub:∀ j,j∈l1++l2→j∈l1++i::l2:=fun j hj=>by
    simp only [List.mem_append,List.mem_cons] at hj ⊢;rcases hj with h | h
    ·exact .inl h
    ·exact .inr (.inr h)
   simp only [Jf,ho] at hb;obtain ⟨p,hp,hpo⟩:∃ p,pos[i]?=some p∧o=ab p:=by
    rw [← hops,Array.getElem?_map,Option.map_eq_some_iff] at ho;obtain ⟨p,h1,h2⟩:=ho;exact ⟨p,h1,h2.symm⟩
   have hpg:=hg i p hp
   have hog:o.guard=none:=by rw [hpo,hab.guard];exact hpg
   unfold wpOpIn;simp only [hp]
   have h:=Qej hog hb
   ·rw [if_pos (by simp [Region.wanted,hpg])]
    have hS1:Same H0 H∨(Stand H0 H∧Xp o.op=false)∨(Zq o.op=true∨Xj o.op=true):=hS.imp id fun h=>h.imp (fun h=>⟨h.1,h.2 i hm o ho⟩) (fun h=>h i hm o ho)
    refine hop i p o hGi hp hpo listed ts H a w _ _ hL.closed hlt' ((hL.mem i).1 (by simp)).2 (fun j hj=>h3 j (by rw [hpo];unfold Qy at hj ⊢;rw [hab.after];exact hj)) (Qfy hcw (Yn hk ho) hS1 h) hR fun v vc H' w' k1 k2=>?_
    refine ih (l1++l2) _ _ H' w' _ (fun j hj=>hG j (hsub j hj)) hL' hlen' ?_ k1.2 k2
    rcases k1.1 with k5 | ⟨k5,k6⟩ | k5
    ·rcases hS with hS | hS | hS
     ·exact .inl (k5.1 hS)
     ·exact .inr (.inl ⟨k5.2 hS.1,fun j hj p hp=>hS.2 j (hsub j hj) p hp⟩)
     ·exact .inr (.inr fun j hj p hp=>hS j (hsub j hj) p hp)
    ·have hnl:∀ j∈l1++l2,∀ p,ops[j]?=some p→Xp p.op=false:=fun j hj p hp=>by
      cases hl:Xp p.op with
      | false=>rfl
      | true =>
       have h7:=(hat i o ho hGi).2.2.1 k5 j p hp hl
       have h8:=Yt hL.closed i j i o ho h3 h7
       have h9:=(hL.mem j).1 (hsub2 j hj)
       rw [h8] at h9;cases h9.2
     rcases hS with hS | hS | hS
     ·exact .inr (.inl ⟨hS.stand.trans k6,hnl⟩)
     ·exact .inr (.inl ⟨hS.1.trans k6,hnl⟩)
     ·exact .inr (.inr fun j hj p hp=>hS j (hsub j hj) p hp)
    ·refine .inr (.inr fun j hj p hp=>?_)
     rcases (hat i o ho hGi).2.2.2 k5 j p hp with h7 | h7
     ·exact h7
     ·have h8:=Yt hL.closed i j i o ho h3 h7
      have h9:=(hL.mem j).1 (hsub2 j hj)
      rw [h8] at h9;cases h9.2
def Qh6:Op→Bool
 | .insert _ _ _ _=>true
 | _=>false
def Qzz:Op→Bool
 | .makeMap _ _=>true
 | _=>false
def Qfk (C:Ctx) (k:IntKind) (d:Nat) (o:Oper):Option (Int × Operand):=match o.op,o.dst with
 | .insert t (.tmp d') (.const (.int k' n)) x,none=>match d'==d&&k'==k&&(C.ty t).mpk==some k&&(C.ty t).ok with
  | true=>some (n,x)
  | false=>none
 | _,_=>none
def Qxq:Operand→Nat→Bool
 | .tmp u,v=>u==v
 | _,_=>false
def Qzo (ops:Array Oper):Nat:=(List.range ops.size).foldl (fun n i=>match ops[i]? with
 | some o=>match Qh6 o.op with
  | true=>i+1
  | false=>n
 | none=>n) 0
def Xqp (o:Oper):Option (Nat × TypeId):=match o.op,o.dst with
 | .makeMap t _,some d=>some (d,t)
 | _,_=>none
def Xpa (ops:Array Oper):Option (Nat × Nat × TypeId):=(List.range ops.size).findSome? fun i=>match ops[i]? with
 | some o=>(Xqp o).map fun p=>(i,p.1,p.2)
 | none=>none
def Xj8 (C:Ctx) (k:IntKind) (d:Nat) (ops:Array Oper) (i:Nat):Option Int:=((ops[i]?).bind (Qfk C k d)).map (·.1)
def Qni (C:Ctx) (ops:Array Oper) (m d n0:Nat) (t:TypeId) (k:IntKind):Bool :=
 (match ops[m]? with
  | some o=>(match o.op with
   | .makeMap t' r=>t'==t&&Qui r
   | _=>false)&&o.dst==some d
  | none=>false)&&(C.ty t).ok&&(C.ty t).mpk==some k&&decide (m<n0)&&decide (n0≤ops.size) &&
 ((List.range ops.size).all fun i=>match ops[i]? with
  | none=>true
  | some o=>o.guard.isNone&&(i==m||(!Qzz o.op&&o.dst != some d)) &&
   (!Qh6 o.op||(match Qfk C k d o with
    | none=>false
    | some (n,x)=>decide (i<n0)&&Qy o m&&!Qxq x d&&((List.range ops.size).all fun j=>match ops[j]? with
     | none=>true
     | some p=>(match p.dst with
      | none=>true
      | some u=>!Qxq x u||Qy o j)&&(i==j||Xj8 C k d ops j != some n))))) &&
 Jy (ops.map Xv)&&(List.range ops.size).all fun i=>decide (i<n0)||((match ops[i]? with | some o=>Zq o.op&&!Qzz o.op&&!Qh6 o.op | none=>true)&&(List.range n0).all fun j=>Jq (ops.map Xv) i j i)
structure MapP (C:Ctx) (ops:Array Oper) (m d n0:Nat) (t:TypeId) (k:IntKind):Prop where
 mkr:∃ o r,ops[m]?=some o∧o.op=.makeMap t r∧Qui r=true∧o.dst=some d
 ty:(C.ty t).ok=true
 mpk:(C.ty t).mpk=some k
 lt:m<n0
 le:n0≤ops.size
 g:∀ (i:Nat) (o:Oper),ops[i]?=some o→o.guard=none
 one:∀ (i:Nat) (o:Oper),ops[i]?=some o→i≠m→Qzz o.op=false∧o.dst≠some d
 ins:∀ (i:Nat) (o:Oper),ops[i]?=some o→Qh6 o.op=true→∃ n x,Qfk C k d o=some (n,x)∧i<n0∧Qy o m=true∧x≠.tmp d∧(∀ (j:Nat) (p:Oper) u,ops[j]?=some p→p.dst=some u→x=.tmp u→Qy o j=true)∧∀ j p x',ops[j]?=some p→Qfk C k d p=some (n,x')→i=j
 ok:Jy (ops.map Xv)=true
 tl:∀ i,i<ops.size→n0≤i→∀ j,j<n0→Jq (ops.map Xv) i j i=true
 fr:∀ (i:Nat) (o:Oper),ops[i]?=some o→n0≤i→Zq o.op=true∧Qzz o.op=false∧Qh6 o.op=false
theorem Qlj {C:Ctx} {k:IntKind} {d:Nat} {o:Oper} {n:Int} {x:Operand} (h:Qfk C k d o=some (n,x)):∃ t,o.op=.insert t (.tmp d) (.const (.int k n)) x∧o.dst=none∧(C.ty t).mpk=some k∧(C.ty t).ok=true:=by
 unfold Qfk at h;split at h
 ·rename_i t d' k' n' x' h1 h2;split at h
  ·rename_i hb;simp only [Bool.and_eq_true,beq_iff_eq] at hb;obtain ⟨⟨⟨rfl,rfl⟩,h3⟩,h3'⟩:=hb;injection h with h
   injection h with h4 h5
   subst h4 h5;exact ⟨t,h1,h2,h3,h3'⟩
  ·cases h
 ·cases h
theorem Xh8 {C:Ctx} {ops:Array Oper} {m d n0:Nat} {t:TypeId} {k:IntKind} (h:Qni C ops m d n0 t k=true):MapP C ops m d n0 t k:=by
 simp only [Qni,Bool.and_eq_true,List.all_eq_true,List.mem_range,decide_eq_true_eq,beq_iff_eq] at h;obtain ⟨⟨⟨⟨⟨⟨⟨h1,h2⟩,h3⟩,h4⟩,h5⟩,h6⟩,h7⟩,h8⟩:=h
 have at6:∀ (i:Nat) (o:Oper),ops[i]?=some o→_:=fun i o ho=>by
  have:=h6 i (Array.getElem?_eq_some_iff.1 ho).1
  rw [ho] at this;exact this
 refine ⟨?_,h2,h3,h4,h5,fun i o ho=>?_,fun i o ho hne=>?_,fun i o ho hi=>?_,h7,fun i hi hn j hj=>?_,fun i o ho hn=>?_⟩
 ·split at h1
  ·rename_i o ho;simp only [Bool.and_eq_true,beq_iff_eq] at h1;obtain ⟨h1,hd⟩:=h1;split at h1
   ·rename_i t' r hop;simp only [Bool.and_eq_true,beq_iff_eq] at h1;obtain ⟨rfl,hr⟩:=h1;exact ⟨o,r,ho,hop,hr,hd⟩
   ·cases h1
  ·cases h1
 ·have:=(at6 i o ho)
  simp only [Bool.and_eq_true,Option.isNone_iff_eq_none] at this;exact this.1.1
 ·have:=(at6 i o ho)
  simp only [Bool.and_eq_true,Bool.or_eq_true,beq_iff_eq,Bool.not_eq_true',bne_iff_ne] at this;exact this.1.2.resolve_left hne
 ·have:=(at6 i o ho)
  simp only [Bool.and_eq_true,Bool.or_eq_true,Bool.not_eq_true',hi,Bool.true_eq_false,false_or] at this
  have h9:=this.2
  split at h9
  ·cases h9
  ·rename_i n x hins;simp only [Bool.and_eq_true,decide_eq_true_eq,Bool.not_eq_true',List.all_eq_true,List.mem_range] at h9;obtain ⟨⟨⟨q1,q2⟩,q3⟩,q4⟩:=h9;refine ⟨n,x,hins,q1,q2,fun e=>by subst e;simp [Qxq] at q3,fun j p u hp hu hx=>?_,fun j p x' hp hx'=>?_⟩
   ·have:=q4 j (Array.getElem?_eq_some_iff.1 hp).1
    simp only [hp,hu,hx,Bool.and_eq_true,Bool.or_eq_true] at this;rcases this.1 with h | h
    ·simp [Qxq] at h
    ·exact h
   ·have:=q4 j (Array.getElem?_eq_some_iff.1 hp).1
    simp only [hp,Bool.and_eq_true,Bool.or_eq_true,beq_iff_eq,bne_iff_ne,ne_eq] at this;rcases this.2 with h | h
    ·exact h
    ·exfalso;apply h
     simp [Xj8,hp,hx']
 ·have h8:=h8 i hi
  simp only [Bool.or_eq_true,Bool.and_eq_true,decide_eq_true_eq,List.all_eq_true,List.mem_range] at h8;rcases h8 with h | h
  ·omega
  ·exact h.2 j hj
 ·have h8:=h8 i (Array.getElem?_eq_some_iff.1 ho).1
  simp only [ho,Bool.or_eq_true,Bool.and_eq_true,decide_eq_true_eq,Bool.not_eq_true'] at h8;rcases h8 with h | h
  ·omega
  ·exact ⟨h.1.1.1,h.1.1.2,h.1.2⟩
def InvMp (C:Ctx) (ops:Array Oper) (m d:Nat) (k:IntKind) (im:Nat→Prop) (pl:Nat→Place) (w0:World) (ds:List Deferred) (listed:Array Bool) (ts:List V) (H:Qa) (a:Act) (w:World):Prop:=∃ im' pl',Rel im' pl' w ts H a∧Ext im pl w0 im' pl' w∧a.defers=ds∧d<ts.length ∧
 (listed.getD m false=true→∃ b es clock,w0.heap.size≤b∧¬ im' b∧(∀ r cap,pl' r≠.at b cap)∧a.tmps.getD d undef=.map (some b)∧w.heap[b]?=some (.map es clock) ∧
  (∀ e∈es.toList,∃ i o n x,listed.getD i false=true∧ops[i]?=some o∧Qfk C k d o=some (n,x)∧e.key=.int k n) ∧
  ∀ i o n x,listed.getD i false=true→ops[i]?=some o→Qfk C k d o=some (n,x)→∃ c,Xga es k n c∧VR im' pl' w (ev ts x) c)
theorem Xd4 {p:Prop} [Decidable p] {b:Bool} (h:b=true):(if p then true else b)=true:=by simp [h]
theorem Qa0 {listed:Array Bool} {i:Nat} (hi:i<listed.size) (j:Nat):(listed.setIfInBounds i true).getD j false=if i=j then true else listed.getD j false:=by
 simp only [Array.getD_eq_getD_getElem?,Array.getElem?_setIfInBounds];split
 ·simp [hi]
 ·rfl
theorem Qiy {C:Ctx} {k:IntKind} {d:Nat} {o:Oper} {n:Int} {x:Operand} (h:Qfk C k d o=some (n,x)):Qh6 o.op=true:=by
 obtain ⟨t,h1,_⟩:=Qlj h;rw [h1];rfl
theorem run_map {C:Ctx} {t:TypeId} {r:Option Operand} {a:Act} {w:World} {k:IntKind} {o:Oper} (ht:(C.ty t).ok=true) (hk:(C.ty t).mpk=some k) (hh:Qui r=true) (ho:o.op=.makeMap t r):(execOp a.eval o).run C.P w=.ok (.value (.map (some w.heap.size))) (w.alloc (.map #[] 0)):=by
 obtain ⟨e,u,hm1,hm2⟩:=(C.ok t ht).mp _ hk;rcases r with _ | x
 ·simp [execOp,ho,Instr.makeMap,newObj,Sem.run]
 ·rcases x with _ | v | _ | _
  ·cases hh
  ·cases v with
   | int k n=>simp [execOp,ho,Instr.makeMap,newObj,Sem.run,run_underlying hm1,Act.eval,asInt,asIntOf]
   | _=>cases hh
  ·cases hh
  ·cases hh
theorem Rel.allocated {im:Nat→Prop} {pl:Nat→Place} {w:World} {ts:List V} {H:Qa} {a:Act} (h:Rel im pl w ts H a) (o:Obj):HR im pl (w.alloc o) H∧Ext im pl w im pl (w.alloc o):=by
 have hE:Ext im pl w im pl (w.alloc o):=⟨rfl,rfl,rfl,by simp,fun _ hb=>hb,fun _ hb=>.inl hb,fun r hr=>.inl rfl,fun r b c hb=>.inl ⟨r,c,hb⟩,fun b hb _=>heap_alloc_old _ _ _ hb⟩
 obtain ⟨g1,g2,g3,g4,g5,g6,g7,g8⟩:=h.hr;refine ⟨⟨g1,g2,fun r b c hr=>Nat.lt_of_lt_of_le (g3 r b c hr) hE.size,fun b hb=>Nat.lt_of_lt_of_le (g4 b hb) hE.size,g5,g6,g7,fun r b c hr=>?_⟩,hE⟩
 obtain ⟨e,s,cs,cur,q1,q2,q3,q4,q5,q6⟩:=g8 r b c hr;exact ⟨e,s,cs,cur,q1,by rw [heap_alloc_old _ _ _ (g3 r b c hr)];exact q2,q3,q4,q5,fun j=>(q6 j).mono hE g2⟩
theorem Qhl (ts:List V) (d:Option Tmp) (v:V):(Xi ts d v).length=ts.length:=by cases d<;>simp [Xi,Yi]
section
variable {C:Ctx} {ops:Array Oper} {m d n0:Nat} {t:TypeId} {k:IntKind} {im:Nat→Prop} {pl:Nat→Place} {w0:World} {ds:List Deferred} {ro:Option Nat} {H0:Qa}
theorem InvMp.hop (hP:MapP C ops m d n0 t k) {R:Exit→Act→World→Prop} (i:Nat) (o o':Oper) (ho:ops[i]?=some o) (ho':o'=Xv o) (listed:Array Bool) (ts:List V) (H:Qa) (a:Act) (w:World) (KK:V→Qa→Prop) (next:Act→World→Prop) (hcl:Qdt (ops.map Xv) listed) (hlt:i<listed.size) (hni:listed.getD i false=false)
  (hb:∀ j,Qy o j=true→listed.getD j false=true) (h:opc C.ty (cwP C H0) o'.op ts H KK) (hI:InvMp C ops m d k im pl w0 ds listed ts H a w)
  (hnext:∀ v vc H' w',KK v H'→InvMp C ops m d k im pl w0 ds (listed.setIfInBounds i true) (Xi ts o.dst v) H' (a.put o.dst vc) w'→next (a.put o.dst vc) w'):o.wpIn (FW ro) 0 C.P a w next R:=by
 obtain ⟨im',pl',h1,h2,h3,hdl,h4⟩:=hI
 have hcl':∀ j p,ops[j]?=some p→listed.getD j false=true→∀ l,Qy p l=true→listed.getD l false=true:=fun j p hp hj l hl=>hcl j (Xv p) (by rw [Array.getElem?_map,hp];rfl) hj l hl
 by_cases him:i=m
 ·subst him;obtain ⟨o1,r,e1,e2,e3,e4⟩:=hP.mkr;rw [ho] at e1;injection e1 with e1
  subst e1
  have hop':o'.op=.move (.global 0):=by rw [ho'];simp [Xv,Qjv,e2]
  rw [hop'] at h
  have h:KK .any H:=h
  refine ⟨fun _ _=>trivial, ?_⟩
  rw [Oper.semAt_eq ro a.eval o (fun c=>by rw [e2];simp),run_map hP.ty hP.mpk e3 e2]
  obtain ⟨hH,hE⟩:=h1.allocated (.map #[] 0);refine hnext .any _ H _ h ⟨im',pl', ?_,h2.trans hE,by rw [Xa];exact h3,by rw [Qhl];exact hdl,fun _=>⟨w.heap.size,#[],0,h2.size,fun hb=>Nat.lt_irrefl _ (h1.hr.imb _ hb),fun r cap hr=>Nat.lt_irrefl _ (h1.hr.bound r _ cap hr), ?_,heap_alloc_new _ _,fun e he=>by simp at he,fun j p n x hj hp hx=>?_⟩⟩
  ·exact h1.put hE hH (v:=.any) (vc:=.map (some w.heap.size)) (.any _) o.dst
  ·rw [e4]
   have:d<a.tmps.size:=by have:=h1.tr.1;omega
   simp [Act.put,Array.getD_eq_getD_getElem?,Array.getElem?_setIfInBounds,this]
  ·exfalso;rw [Qa0 hlt] at hj
   have hins:=Qiy hx
   obtain ⟨_,_,_,_,hbm,_⟩:=hP.ins j p hp hins;by_cases e:i=j
   ·subst e;rw [ho] at hp;injection hp with hp
    subst hp;rw [e2] at hins;cases hins
   ·rw [if_neg e] at hj
    have:=hcl' j p hp hj _ hbm
    rw [hni] at this;cases this
 obtain ⟨hnm,hnd⟩:=hP.one i o ho him;by_cases hins:Qh6 o.op=true
 ·obtain ⟨n,x,hx,hin,hbm,hxd,hxu,huq⟩:=hP.ins i o ho hins;obtain ⟨t',e1,e2,e3,ht'⟩:=Qlj hx;obtain ⟨b,es,clock,q1,q2,q3,q4,q5,q6,q7⟩:=h4 (hb m hbm)
  have hop':o'.op=.move x:=by rw [ho'];simp [Xv,Qjv,e1]
  rw [hop'] at h
  have h:KK (ev ts x) H:=h
  obtain ⟨e,u,hm1,hm2⟩:=(C.ok t' ht').mp _ e3;refine ⟨fun _ _=>trivial, ?_⟩
  rw [Oper.semAt_eq ro a.eval o (fun c=>by rw [e1];simp)]
  have hck:=Qie (P:=C.P) (w:=w) false 9999 hm2 n
  have hkn:Qp6 k (es.toList.map fun e=>match e.key with | .int _ n=>n | _=>0) es.toList:=fun e he=>by
   obtain ⟨_,_,n',_,_,_,_,hk'⟩:=q6 e he;refine ⟨n',hk',List.mem_map.2 ⟨e,he,by rw [hk']⟩⟩
  have hnn:n ∉ (es.toList.map fun e=>match e.key with | .int _ n=>n | _=>0):=by
   intro hmem;obtain ⟨e,he,hen⟩:=List.mem_map.1 hmem;obtain ⟨j,p,n',x',hj,hp,hpx,hk'⟩:=q6 e he;rw [hk'] at hen
   have hen:n'=n:=hen
   subst hen
   have:=huq j p x' hp hpx
   subst this;rw [hni] at hj;cases hj
  have hf:=Qjn hnn es.toList 0 hkn
  have hev:a.eval (.tmp d)=.map (some b):=q4
  have hec:a.eval (.const (.int k n))=.int k n:=rfl
  have hrun:(Instr.mapUpdate t' (a.eval (.tmp d)) (a.eval (.const (.int k n))) (a.eval x)).run C.P w=.ok () (w.putObj b (.map (es.push { key:=.int k n,val:=a.eval x,born:=clock }) (clock+1))):=by
   rw [hev,hec];simp only [Instr.mapUpdate,Sem.run_bind,run_underlying hm1,Result.andThen_ok,getObj,Sem.run,q5,hck,Instr.findKey,run_underlying hm2,hf,Sem.run_pure,setObj]
   rfl
  rw [show (execOp a.eval o).run C.P w=.ok .skip (w.putObj b (.map (es.push { key:=.int k n,val:=a.eval x,born:=clock }) (clock+1))) by simp [execOp,e1,hrun]]
  obtain ⟨u1,u2⟩:=h1.turned (o':=.map (es.push { key:=.int k n,val:=a.eval x,born:=clock }) (clock+1)) q5 (fun x e=>by cases e) q2 q3
  have hltb:b<w.heap.size:=(Array.getElem?_eq_some_iff.1 q5).1
  refine hnext (ev ts x) undef H _ h ⟨im',pl', ?_, ?_,by rw [e2];exact h3,by rw [Qhl];exact hdl,fun _=>⟨b,es.push { key:=.int k n,val:=a.eval x,born:=clock },clock+1,q1,q2,q3,by rw [e2];exact q4, ?_,fun e' he=>?_,fun j p n' x' hj hp hx'=>?_⟩⟩
  ·rw [e2];exact u1
  ·refine ⟨h2.os,h2.tape,h2.output,by simp only [World.putObj,Array.size_setIfInBounds];exact h2.size,h2.imm,h2.imn,h2.plo,h2.pln,fun b' hb' hn'=>?_⟩
   have:(w.putObj b (.map (es.push { key:=.int k n,val:=a.eval x,born:=clock }) (clock+1))).heap[b']?=w.heap[b']?:=by simp [World.putObj,Array.getElem?_setIfInBounds,show b≠b' by omega]
   rw [this];exact h2.frame b' hb' hn'
  ·simp [World.putObj,Array.getElem?_setIfInBounds,hltb]
  ·simp only [Array.toList_push,List.mem_append,List.mem_singleton] at he;rcases he with he | rfl
   ·obtain ⟨j,p,n',x',f1,f2,f3,f4⟩:=q6 e' he;exact ⟨j,p,n',x',by rw [Qa0 hlt];exact Xd4 f1,f2,f3,f4⟩
   ·exact ⟨i,o,n,x,by rw [Qa0 hlt,if_pos rfl],ho,hx,rfl⟩
  ·rw [e2];rw [Qa0 hlt] at hj;by_cases e:i=j
   ·subst e;rw [ho] at hp;injection hp with hp
    subst hp;rw [hx] at hx';injection hx' with hx'
    injection hx' with f1 f2
    subst f1 f2;obtain ⟨jj,hjj⟩:=Qjo (v:=a.eval x) (s:=clock) hnn es.toList 0 hkn;exact ⟨a.eval x,⟨jj,by simpa using hjj⟩,u2 _ _ (Qgl h1.tr x)⟩
   ·rw [if_neg e] at hj;obtain ⟨c,⟨jj,hjj⟩,f2⟩:=q7 j p n' x' hj hp hx';exact ⟨c,⟨jj,by simpa using Qh9 _ _ hjj⟩,u2 _ _ f2⟩
 ·have hop':o'.op=o.op:=by
   rw [ho']
   show Qjv o.op=o.op
   unfold Qjv;split
   ·rename_i heq;rw [heq] at hnm;cases hnm
   ·rename_i heq;rw [heq] at hins;exact (hins rfl).elim
   ·rfl
  rw [hop'] at h;refine Zt (Qcd C H0 ro) h h1.tr h1.hr fun v vc H2 im2 pl2 w2 k1 k2 k3 k4=>hnext v vc H2 w2 k1 ⟨im2,pl2,h1.put k4 k3 k2 o.dst,h2.trans k4,by rw [Xa];exact h3,by rw [Qhl];exact hdl,fun hm=>?_⟩
  rw [Qa0 hlt,if_neg him] at hm;obtain ⟨b,es,clock,q1,q2,q3,q4,q5,q6,q7⟩:=h4 hm
  have hltb:b<w.heap.size:=(Array.getElem?_eq_some_iff.1 q5).1
  refine ⟨b,es,clock,q1,fun hb=>?_,fun r cap hr=>?_, ?_,by rw [k4.frame _ hltb q3];exact q5,fun e he=>?_,fun j p n x hj hp hx=>?_⟩
  ·rcases k4.imn _ hb with q | q | ⟨r,cap,q⟩
   ·exact q2 q
   ·omega
   ·exact q3 r cap q
  ·rcases k4.pln r _ cap hr with ⟨r',cap',q⟩ | q
   ·exact q3 r' cap' q
   ·omega
  ·obtain ⟨e1,e2⟩:=Qaq a vc hnd;rw [e1];exact q4
  ·obtain ⟨j,p,n',x',f1,f2,f3,f4⟩:=q6 e he;exact ⟨j,p,n',x',by rw [Qa0 hlt];exact Xd4 f1,f2,f3,f4⟩
  ·rw [Qa0 hlt] at hj;by_cases e:i=j
   ·subst e;rw [ho] at hp;injection hp with hp
    subst hp;exact (hins (Qiy hx)).elim
   ·rw [if_neg e] at hj;obtain ⟨c,f1,f2⟩:=q7 j p n x hj hp hx;refine ⟨c,f1, ?_⟩;rw [Qdr (d:=o.dst) fun u hu hxu=>?_]
    ·exact f2.mono k4 h1.hr.apart
    ·obtain ⟨_,_,hx2,_,_,_,hxu2,_⟩:=hP.ins j p hp (Qiy hx);rw [hx] at hx2;injection hx2 with hx2
     injection hx2 with f3 f4
     subst f3 f4
     have:=hcl' j p hp hj i (hxu2 i o u ho hu hxu)
     rw [hni] at this;cases this
theorem InvMp.done (hP:MapP C ops m d n0 t k) {listed:Array Bool} {ts:List V} {H:Qa} {a:Act} {w:World} (hI:InvMp C ops m d k im pl w0 ds listed ts H a w) (hl:∀ i,i<n0→listed.getD i false=true) {kxs:List (Int × Operand)} (hk:∀ p∈kxs,∃ i o,i<n0∧ops[i]?=some o∧Qfk C k d o=some p) :
  ∃ im' pl',Rel im' pl' w (upd ts d (.mp k (kxs.map (·.1)) (kxs.map fun p=>ev ts p.2))) H a∧Ext im pl w0 im' pl' w∧a.defers=ds:=by
 obtain ⟨im',pl',h1,h2,h3,hdl,h4⟩:=hI;obtain ⟨b,es,clock,q1,q2,q3,q4,q5,q6,q7⟩:=h4 (hl m hP.lt)
 let im1:Nat→Prop:=fun c=>im' c∨c=b
 have hlt:b<w.heap.size:=(Array.getElem?_eq_some_iff.1 q5).1
 have up:∀ v c,VR im' pl' w v c→VR im1 pl' w v c:=fun v c hv=>by
  have:=hv.ren (g:=some) (im':=im1) (pl':=pl') (fun r r' e=>by injection e with e;rw [e]) (fun b hb=>.inl hb)
  rwa [Qdz] at this
 obtain ⟨g1,g2,g3,g4,g5,g6,g7,g8⟩:=h1.hr
 have hup:∀ c,im1 c→im' c∨c=b:=fun c h=>h
 have hall:∀ j,∃ c,(j<(kxs.map (·.1)).length→Xga es k ((kxs.map (·.1)).getD j 0) c)∧VR im' pl' w (nth (kxs.map fun p=>ev ts p.2) j) c:=fun j=>by
  by_cases hj:j<kxs.length
  ·obtain ⟨i,o,f1,f2,f3⟩:=hk kxs[j] (List.getElem_mem hj);obtain ⟨c,f4,f5⟩:=q7 i o kxs[j].1 kxs[j].2 (hl i f1) f2 f3;refine ⟨c,fun _=>?_, ?_⟩
   ·rw [show (kxs.map (·.1)).getD j 0=kxs[j].1 by simp [List.getD,hj]];exact f4
   ·rw [Xo,show (kxs.map fun p=>ev ts p.2).getD j .any=ev ts kxs[j].2 by simp [List.getD,hj]];exact f5
  ·exact ⟨undef,fun h=>by simp at h;omega,by rw [Jw _ _ (by simp;omega)];exact .any _⟩
 obtain ⟨vs,hvs⟩:=Classical.axiomOfChoice hall;refine ⟨im1,pl',⟨⟨by rw [Yi];exact h1.tr.1,fun i=>?_⟩,⟨g1,fun c hc r cap=>?_,g3,fun c hc=>?_,g5,g6,g7,fun r b' c hr=>?_⟩,h1.df⟩,⟨h2.os,h2.tape,h2.output,h2.size,fun c hc=>.inl (h2.imm c hc),fun c hc=>?_,h2.plo,h2.pln,h2.frame⟩,h3⟩
 ·rw [Zh];by_cases hi:i=d∧d<ts.length
  ·obtain ⟨rfl,hlt⟩:=hi;rw [if_pos ⟨rfl,hlt⟩,q4];exact .mp k _ _ b es clock vs (.inr rfl) q5 (fun j hj=>(hvs j).1 hj) fun j=>up _ _ (hvs j).2
  ·rw [if_neg hi];exact up _ _ (h1.tr.2 i)
 ·rcases hup c hc with h | h
  ·exact g2 c h r cap
  ·rw [h];exact q3 r cap
 ·rcases hup c hc with h | h
  ·exact g4 c h
  ·rw [h];exact hlt
 ·obtain ⟨e,s,cs',cu,f1,f2,f3,f4,f5,f6⟩:=g8 r b' c hr;exact ⟨e,s,cs',cu,f1,f2,f3,f4,f5,fun j=>up _ _ (f6 j)⟩
 ·rcases hup c hc with h | h
  ·exact h2.imn c h
  ·rw [h];exact .inr (.inl q1)
end
def Qlh (C:Ctx) (k:IntKind) (d n0:Nat) (ops:Array Oper):List (Int × Operand):=(ops.toList.take n0).filterMap (Qfk C k d)
theorem Qg7:Seen Xv:=⟨fun _=>rfl,fun _=>rfl⟩
theorem Left.unmap {ab:Oper→Oper} (hab:Seen ab) {ops:Array Oper} {listed:Array Bool} {S:List Nat} (h:Left (ops.map ab) listed S):Left ops listed S:=by
 refine ⟨by rw [h.size,Array.size_map],h.sorted,fun i=>by rw [h.mem i,Array.size_map],fun i o ho hl j hj=>h.closed i (ab o) (by rw [Array.getElem?_map,ho];rfl) hl j (by unfold Qy at hj ⊢;rw [hab.after];exact hj)⟩
theorem Ql7 {o:Op} (h1:Qzz o=false) (h2:Qh6 o=false):Qjv o=o:=by
 unfold Qjv;split
 ·cases h1
 ·cases h2
 ·rfl
theorem Xpt {C:Ctx} {ro:Option Nat} (hm:C.P.follows .mixedOrders=true) {id:Nat} {ops:Array Oper} {m d n0:Nat} {t:TypeId} {k:IntKind} (hok:Qni C ops m d n0 t k=true) {Q:Exit→List V→Qa→Prop} {ts:List V} {H:Qa} (hdl:d<ts.length)
  (h:Kx C (cwP C H) (ops.map Xv) H (fun ts1 H1=>Kx C (cwP C H) (ops.map Xv) H (Q .normal) ((ops.map Xv).toList.drop n0) (upd ts1 d (.mp k ((Qlh C k d n0 ops).map (·.1)) ((Qlh C k d n0 ops).map fun p=>ev ts1 p.2))) H1) ((ops.map Xv).toList.take n0) ts H):T C ro (.region id ops true) Q ts H:=by
 intro im pl w a hr
 have hP:=Xh8 hok
 have hk:Yf (ops.map Xv)=true:=by have:=hP.ok;simp only [Jy,Bool.and_eq_true] at this;exact this.1
 refine wpIn_region_any hm ?_
 have hx:=Qq2 (Qa1 C H) hk ((ops.map Xv).toList.drop n0) ((ops.map Xv).toList.take n0) 0 ts H (by simp) h
 have hle:=hP.le
 have htk:((ops.map Xv).toList.take n0).length=n0:=by simp;omega
 rw [htk] at hx
 have hvr:∀ {v c},VR im pl w v c→VR im pl { w with drawn:=w.drawn+1 } v c:=fun h=>VR.world (w:=w) (w':={ w with drawn:=w.drawn+1 }) (fun _ _ _ (h:w.cell? _=some _)=>h) (fun _ _ _ _ h=>h) h
 have hE:Ext im pl w im pl { w with drawn:=w.drawn+1 }:=⟨rfl,rfl,rfl,Nat.le_refl _,fun _ h=>h,fun _ h=>.inl h,fun _ _=>.inl rfl,fun r b cap h=>.inl ⟨r,cap,h⟩,fun _ _ _=>rfl⟩
 have hr':Rel im pl { w with drawn:=w.drawn+1 } ts H a:=by
  refine ⟨⟨hr.tr.1,fun i=>hvr (hr.tr.2 i)⟩, ?_,hr.df.mono hE⟩
  obtain ⟨g1,g2,g3,g4,g5,g6,g7,g8⟩:=hr.hr;refine ⟨g1,g2,g3,g4,g5,g6,g7,fun r b cap hp=>?_⟩
  obtain ⟨e,s,cs,cur,f1,f2,f3,f4,f5,f6⟩:=g8 r b cap hp;exact ⟨e,s,cs,cur,f1,f2,f3,f4,f5,fun j=>hvr (f6 j)⟩
 have hfalse:∀ i,(Array.replicate ops.size false).getD i false=false:=fun i=>by
  simp only [Array.getD_eq_getD_getElem?,Array.getElem?_replicate];split<;>rfl
 refine Qg6 Qg7 (Qa1 C H) (ro:=ro) (pos:=ops) (R:=Post im pl w a.defers Q) (Inv:=InvMp C ops m d k im pl w a.defers) hP.g hk (fun i=>i<n0) (fun i o ho _=>Qbj hP.ok _ i o ho ‹_›) ?_ (List.range' n0 (ops.size - n0)) ?_ ?_
  ops.size (List.range' 0 n0) _ ts H _ a (fun i hi=>by simpa using hi) ⟨by simp, ?_,fun i=>?_,fun i o ho hl=>?_⟩ (by simp;omega) (.inl (.refl H)) hx ⟨im,pl,hr',hE,rfl,hdl,fun hm=>?_⟩
 ·intro i o o' _ ho ho' listed ts' H' a' w' KK next hcl hlt hni hb hopc hI hnext;subst ho';exact InvMp.hop hP i o _ ho rfl listed ts' H' a' w' KK next hcl hlt hni hb hopc hI hnext
 ·intro i hi j hj hnj;simp only [Array.size_map] at hj;simp only [List.mem_range'_1,not_and,Nat.not_lt] at hi hnj;exact hP.tl i (by omega) hi.1 j (by have:=hnj;omega)
 ·intro fuel listed a' w' ts' H' k1 k2 hL hf
  have hl:∀ i,i<n0→listed.getD i false=true:=fun i hi=>by
   cases hl:listed.getD i false with
   | true=>rfl
   | false =>
    have:=(hL.mem i).2 ⟨by rw [Array.size_map];omega,hl⟩
    simp only [List.mem_range'_1] at this;omega
  obtain ⟨im',pl',q1,q2,q3⟩:=k2.done hP hl (kxs:=Qlh C k d n0 ops) fun p hp=>by
   simp only [Qlh,List.mem_filterMap] at hp;obtain ⟨o,ho,hins⟩:=hp;obtain ⟨i,hi,rfl⟩:=List.mem_iff_getElem.1 ho;simp only [List.length_take,Array.length_toList] at hi;exact ⟨i,_,by omega,by simp [List.getElem_take],hins⟩
  have hx2:=Qho (Qa1 C H) hk ((ops.map Xv).toList.drop n0) n0 _ _ rfl k1
  rw [show ((ops.map Xv).toList.drop n0).length=ops.size - n0 by simp] at hx2
  refine Qg6 Qg7 (Qa1 C H) (ro:=ro) (pos:=ops) (R:=Post im pl w a.defers Q) (Inv:=fun _ ts' H' a' w'=>∃ im' pl',Rel im' pl' w' ts' H' a'∧Ext im pl w im' pl' w'∧a'.defers=a.defers) hP.g hk (fun i=>n0≤i) (fun i o ho _=>Qbj hP.ok _ i o ho ‹_›) ?_ [] (fun i hi=>by simp at hi) ?_
   fuel (List.range' n0 (ops.size - n0)) listed _ _ _ _ (fun i hi=>by simp only [List.mem_range'_1] at hi;exact hi.1) (by simpa using hL) (by simpa using hf) (.inr (.inr fun j hj p hp=>?_)) hx2 ⟨im',pl',q1,q2,q3⟩
  ·rintro i o o' hi ho ho' listed ts' H' a' w' KK next _ _ _ _ hopc ⟨im',pl',h1,h2,h3⟩ hnext;obtain ⟨_,f2,f3⟩:=hP.fr i o ho hi;subst ho'
   have hop':(Xv o).op=o.op:=Ql7 f2 f3
   rw [hop'] at hopc;exact Zt (Qcd C H ro) hopc h1.tr h1.hr fun v vc H2 im2 pl2 w2 k1 k2 k3 k4=>hnext v vc H2 w2 k1 ⟨im2,pl2,h1.put k4 k3 k2 _,h2.trans k4,by rw [Xa];exact h3⟩
  ·rintro fuel listed a' w' ts' H' k1 ⟨im',pl',k2,k3,k4⟩ hL _;exact Qij (hL.unmap Qg7) ⟨ts',H',im',pl',k1,k2,k3,by rw [k4];exact .refl _ _⟩
  ·simp only [List.mem_range'_1] at hj;rw [Array.getElem?_map,Option.map_eq_some_iff] at hp;obtain ⟨o,ho,rfl⟩:=hp;obtain ⟨f1,f2,f3⟩:=hP.fr j o ho hj.1;left
   show Zq (Qjv o.op)=true
   rw [Ql7 f2 f3];exact f1
 ·rw [show List.range' 0 n0++List.range' n0 (ops.size - n0)=List.range' 0 ops.size by
   have:=List.range'_append (s:=0) (m:=n0) (n:=ops.size - n0) (step:=1)
   simp only [Nat.zero_add,Nat.one_mul] at this;rw [this];congr 1;omega]
  exact List.pairwise_lt_range' ..
 ·rw [hfalse];simp only [List.mem_append,List.mem_range'_1,Array.size_map,and_true];omega
 ·rw [hfalse] at hl;cases hl
 ·rw [hfalse] at hm;cases hm
end Go.Bv
end
section
namespace Go.Bv
open Go.RowKit
def Qa6 (o:Oper):Option (TypeId × Tmp × Tmp):=match o.op,o.dst with
 | .buildSlice t 1 ⟨[(0,.tmp u)]⟩,some v=>some (t,u,v)
 | _,_=>none
def Qjt (o:Oper):Option (TypeId × Operand × Tmp):=match o.op with
 | .call ⟨.builtin .append,⟨[s,.tmp v]⟩,⟨[t,t']⟩⟩=>match t'==t with
  | true=>some (t,s,v)
  | false=>none
 | _=>none
def Xdx (ops:List Oper) (v:Tmp):Option (TypeId × Tmp):=ops.findSome? fun o=>match Qa6 o with
 | some (t,u,v')=>match v'==v with
  | true=>some (t,u)
  | false=>none
 | none=>none
def Xfq (C:Ctx) (e:TypeId):Option (TypeId × Nat):=(List.range 200).findSome? fun T=>((C.ty T).fs.findIdx? fun p=>p.2==e).map fun f=>(T,f)
def Qaj (C:Ctx) (ops:List Oper) (o:Oper):Oper:=match Qa6 o with
 | some (t,u,v)=>match ((C.ty t).sl).bind (Xfq C) with
  | some (T,f)=>{ o with op:=.build T #[(f,.tmp u)],dst:=none }
  | none=>o
 | none=>match Qjt o with
  | some (t,s,v)=>match Xdx ops v with
   | some (_,u)=>{ o with op:=.call ⟨.value (.func t),#[s,.tmp u],#[]⟩ }
   | none=>o
  | none=>o
theorem Qn2 (C:Ctx) (ops:List Oper):Seen (Qaj C ops):=by
 constructor<;>intro o<;>unfold Qaj<;>(repeat' split)<;>rfl
def cwA (C:Ctx):CW:=fun fv args H K=>match fv,args with
 | .fn (.func t) [] [],[s,x]=>(cellsOf x).length=(C.ty (((C.ty t).sl).getD 0)).size∧Qm C.ty .append [t,t] [s,.sl 1 (cellsOf x)] H K
 | _,_=>False
theorem Xe9 (C:Ctx):CWok (cwA C) []:=by
 have mono:∀ (fv:V) (args:List V) (H:Qa) (K K':V→Qa→Prop),(∀ v H',K v H'→K' v H')→cwA C fv args H K→cwA C fv args H K':=by
  intro fv args H K K' hK h;unfold cwA at h ⊢;split at h
  ·exact ⟨h.1,Qa2 hK h.2⟩
  ·exact h.elim
 have kp:∀ H H':Qa,Kp [] H H':=fun H H'=>⟨fun _ r row hr=>by simp [Qc] at hr,fun _ r hr=>by simp [Qc] at hr⟩
 refine ⟨fun {fv args H K K'} hK h=>mono fv args H K K' hK h,fun {fv args H p} h=>?_,fun {fv args H K} h=>mono fv args H _ _ (fun v H' h=>⟨kp _ _,h⟩) h⟩
 unfold cwA at h;split at h
 ·exact Kv h.2
 ·exact h.elim
def Xqq:Op→Bool
 | .call _=>true
 | _=>false
def Qn0 (C:Ctx) (ops:Array Oper):Bool :=
 Jy (ops.map (Qaj C ops.toList)) &&
 (List.range ops.size).all fun i=>match ops[i]? with
  | none=>true
  | some o=>o.guard.isNone&&(match Qa6 o with
   | some (t,u,v)=>(C.ty t).ok&&(match (C.ty t).sl with
    | some e=>(C.ty e).ok&&decide ((C.ty e).size≤16777216)&&decide (0<(C.ty e).size)&&(match Xfq C e with
     | some (T,f)=>(C.ty T).arr.isNone&&(match (C.ty T).fs[f]? with
      | some (_,e')=>e'==e
      | none=>false)
     | none=>false)
    | none=>false)&&u != v&&((List.range ops.size).all fun j=>match ops[j]? with
     | none=>true
     | some p=>(j==i||p.dst != some v)&&(p.dst != some u||Qy o j))
   | none=>match Qjt o with
    | some (t,s,v)=>!Qxq s v&&(match Xdx ops.toList v with
     | some (_,u)=>(List.range ops.size).any fun q=>Qy o q&&(match ops[q]? with
      | some p=>(match Qa6 p with
       | some (t',u',v')=>t'==t&&v'==v&&u'==u
       | none=>false)
      | none=>false)
     | none=>false)
    | none=>!Xqq o.op&&!Qh6 o.op&&!Qzz o.op&&(Zq o.op||Xp o.op))
structure AppP (C:Ctx) (ops:Array Oper):Prop where
 ok:Jy (ops.map (Qaj C ops.toList))=true
 g:∀ (i:Nat) (o:Oper),ops[i]?=some o→o.guard=none
 lit:∀ (i:Nat) (o:Oper) t u v,ops[i]?=some o→Qa6 o=some (t,u,v)→(C.ty t).ok=true∧(∃ e T f,(C.ty t).sl=some e∧(C.ty e).ok=true∧(C.ty e).size≤16777216∧0<(C.ty e).size∧Xfq C e=some (T,f)∧(C.ty T).arr=none∧∃ x,(C.ty T).fs[f]?=some (x,e))∧u≠v ∧
  (∀ (j:Nat) (p:Oper),ops[j]?=some p→p.dst=some v→j=i)∧∀ (j:Nat) (p:Oper),ops[j]?=some p→p.dst=some u→Qy o j=true
 app:∀ (i:Nat) (o:Oper) t s v,ops[i]?=some o→Qa6 o=none→Qjt o=some (t,s,v)→s≠.tmp v∧∃ t2 u q p,Xdx ops.toList v=some (t2,u)∧Qy o q=true∧ops[q]?=some p∧Qa6 p=some (t,u,v)
 other:∀ (i:Nat) (o:Oper),ops[i]?=some o→Qa6 o=none→Qjt o=none→Zq o.op=true∨Xp o.op=true
theorem Xjm {C:Ctx} {ops:Array Oper} (h:Qn0 C ops=true):AppP C ops:=by
 simp only [Qn0,Bool.and_eq_true,List.all_eq_true,List.mem_range] at h;obtain ⟨h1,h2⟩:=h
 have at2:∀ (i:Nat) (o:Oper),ops[i]?=some o→_:=fun i o ho=>by
  have:=h2 i (Array.getElem?_eq_some_iff.1 ho).1
  rw [ho] at this;exact this
 refine ⟨h1,fun i o ho=>?_,fun i o t u v ho hl=>?_,fun i o t s v ho hl ha=>?_,fun i o ho hl ha=>?_⟩
 ·have:=at2 i o ho
  simp only [Bool.and_eq_true,Option.isNone_iff_eq_none] at this;exact this.1
 ·have:=at2 i o ho
  simp only [hl,Bool.and_eq_true,bne_iff_ne,ne_eq,List.all_eq_true,List.mem_range] at this;obtain ⟨_,⟨⟨q1,q2⟩,q3⟩,q4⟩:=this;refine ⟨q1, ?_,q3,fun j p hp hd=>?_,fun j p hp hd=>?_⟩
  ·split at q2
   ·rename_i e he;simp only [Bool.and_eq_true,decide_eq_true_eq] at q2;obtain ⟨⟨⟨a1,a2⟩,a3⟩,a4⟩:=q2;split at a4
    ·rename_i T f hb;simp only [Bool.and_eq_true,Option.isNone_iff_eq_none] at a4;obtain ⟨a5,a6⟩:=a4;split at a6
     ·rename_i x e' hf;rw [beq_iff_eq] at a6;subst a6;exact ⟨_,T,f,he,a1,a2,a3,hb,a5,x,hf⟩
     ·cases a6
    ·cases a4
   ·cases q2
  ·have:=q4 j (Array.getElem?_eq_some_iff.1 hp).1
   simp only [hp,hd,Bool.and_eq_true,Bool.or_eq_true,beq_iff_eq,bne_self_eq_false,Bool.false_eq_true,or_false] at this;exact this.1
  ·have:=q4 j (Array.getElem?_eq_some_iff.1 hp).1
   simp only [hp,hd,Bool.and_eq_true,Bool.or_eq_true,bne_self_eq_false,Bool.false_eq_true,false_or] at this;exact this.2
 ·have:=at2 i o ho
  simp only [hl,ha,Bool.and_eq_true,Bool.not_eq_true'] at this;obtain ⟨_,q1,q2⟩:=this;refine ⟨fun e=>by subst e;simp [Qxq] at q1, ?_⟩
  split at q2
  ·rename_i t2 u hla;simp only [List.any_eq_true,List.mem_range,Bool.and_eq_true] at q2;obtain ⟨q,_,hbq,hq⟩:=q2;split at hq
   ·rename_i p hp;split at hq
    ·rename_i t' u' v' hlp;simp only [Bool.and_eq_true,beq_iff_eq] at hq;obtain ⟨⟨rfl,rfl⟩,rfl⟩:=hq;exact ⟨t2,_,q,p,hla,hbq,hp,hlp⟩
    ·cases hq
   ·cases hq
  ·cases q2
 ·have:=at2 i o ho
  simp only [hl,ha,Bool.and_eq_true,Bool.or_eq_true] at this;exact this.2.2
theorem Qul {o:Oper} {t:TypeId} {u v:Tmp} (h:Qa6 o=some (t,u,v)):o.op=.buildSlice t 1 #[(0,.tmp u)]∧o.dst=some v:=by
 unfold Qa6 at h;split at h
 ·rename_i t' u' v' h1 h2;injection h with h
  injection h with h3 h
  injection h with h4 h5
  subst h3 h4 h5;exact ⟨h1,h2⟩
 ·cases h
theorem Qvv {o:Oper} {t:TypeId} {s:Operand} {v:Tmp} (h:Qjt o=some (t,s,v)):o.op=.call ⟨.builtin .append,#[s,.tmp v],#[t,t]⟩:=by
 unfold Qjt at h;split at h
 ·rename_i s' v' t1 t2 h1;split at h
  ·rename_i he;rw [beq_iff_eq] at he;subst he;injection h with h
   injection h with h3 h
   injection h with h4 h5
   subst h3 h4 h5;exact h1
  ·cases h
 ·cases h
theorem Xcn (l:List V) (n:Nat) (h:l.length=n):Ki (List.replicate n .any) 0 l=l:=by
 refine Qfz (by rw [Jh];simp [h]) fun j=>?_
 rw [Qd3 _ _ _ _ (by simp [h])]
 by_cases hj:j<l.length
 ·rw [if_pos ⟨Nat.zero_le _,by omega⟩];simp
 ·rw [if_neg (by omega),Jw l j (by omega),Xo]
  simp [List.getD,List.getElem?_replicate];split<;>rfl
def InvA (ops:Array Oper) (im:Nat→Prop) (pl:Nat→Place) (w0:World) (ds:List Deferred) (listed:Array Bool) (ts:List V) (H:Qa) (a:Act) (w:World):Prop:=∃ im' pl',Rel im' pl' w ts H a∧Ext im pl w0 im' pl' w∧a.defers=ds∧(∀ (q:Nat) (o:Oper) t u v,ops[q]?=some o→Qa6 o=some (t,u,v)→nth ts v=.any∧v<ts.length) ∧
 ∀ (q:Nat) (o:Oper) t u v,ops[q]?=some o→Qa6 o=some (t,u,v)→listed.getD q false=true→VR im' pl' w (.sl 1 (cellsOf (nth ts u))) (a.tmps.getD v undef)
section
variable {C:Ctx} {ops:Array Oper} {im:Nat→Prop} {pl:Nat→Place} {w0:World} {ds:List Deferred} {ro:Option Nat}
theorem Xl1 {ty:TypeId→Ty} {cw cw':CW} {op:Op} {ts:List V} {H:Qa} {K:V→Qa→Prop} (hf:Zq op=true∨Xp op=true):opc ty cw op ts H K=opc ty cw' op ts H K:=by
 cases op with
 | call c =>
  obtain ⟨callee,args,ats⟩:=c;cases callee with
  | value f=>rcases hf with hf | hf<;>simp [Zq,Xp] at hf
  | _=>rfl
 | _=>rfl
theorem Xgu {ts:List V} {v:Nat} (h:nth ts v=.any):upd ts v .any=ts:=by
 refine Qfz (Yi ..) fun j=>?_
 rw [Zh];split
 ·rename_i hj;rw [hj.1,h]
 ·rfl
theorem Xam {T f:Nat} {x:V} {K:V→Prop} {e o:Nat} (harr:(C.ty T).arr=none) (hf:(C.ty T).fs[f]?=some (o,e)) (h:Qa3 C.ty T [(f,x)] K):kn x=true∧(cellsOf x).length=(C.ty e).size∧∃ v,K v:=by
 simp only [Qa3,harr,Qpu] at h;obtain ⟨_,_,h⟩:=h;simp only [Zn,hf,Option.map_some] at h;split at h
 ·rename_i out ho;split at ho
  ·rename_i hc;exact ⟨hc.1,hc.2.1,_,h⟩
  ·cases ho
 ·exact h.elim
theorem Xic {t e:TypeId} {x:V} (hsl:(C.ty t).sl=some e) (he:(C.ty e).ok=true) (h1:(C.ty e).size≤16777216) (h2:0<(C.ty e).size) (hk:kn x=true) (hl:(cellsOf x).length=(C.ty e).size) {K:V→Prop} (hK:K (.sl 1 (cellsOf x))):Qix C.ty t 1 [(0,x)] K:=by
 simp only [Qix,hsl];refine ⟨he,by omega,h2, ?_⟩
 simp only [Zn,Nat.zero_mul,List.length_replicate,Nat.one_mul,Nat.zero_add,hk,hl,true_and,Nat.le_refl,if_true];rw [Xcn _ _ hl];exact hK
theorem InvA.hop (hP:AppP C ops) {R:Exit→Act→World→Prop} (i:Nat) (o:Oper) (ho:ops[i]?=some o) (listed:Array Bool) (ts:List V) (H:Qa) (a:Act) (w:World) (KK:V→Qa→Prop) (next:Act→World→Prop) (hcl:Qdt (ops.map (Qaj C ops.toList)) listed) (hlt:i<listed.size) (hni:listed.getD i false=false)
  (hb:∀ j,Qy o j=true→listed.getD j false=true) (h:opc C.ty (cwA C) (Qaj C ops.toList o).op ts H KK) (hI:InvA ops im pl w0 ds listed ts H a w)
  (hnext:∀ v vc H' w',KK v H'→InvA ops im pl w0 ds (listed.setIfInBounds i true) (Xi ts (Qaj C ops.toList o).dst v) H' (a.put o.dst vc) w'→next (a.put o.dst vc) w'):o.wpIn (FW ro) 0 C.P a w next R:=by
 obtain ⟨im',pl',h1,h2,h3,hany,h4⟩:=hI
 have hcl':∀ j p,ops[j]?=some p→listed.getD j false=true→∀ l,Qy p l=true→listed.getD l false=true:=fun j p hp hj l hl=>hcl j (Qaj C ops.toList p) (by rw [Array.getElem?_map,hp];rfl) hj l (by unfold Qy at hl ⊢;rw [(Qn2 C ops.toList).after];exact hl)
 cases hlo:Qa6 o with
 | some tuv =>
  obtain ⟨t,u,v⟩:=tuv;obtain ⟨ht,⟨e,T,f,q1,q2,q3,q4,q5,q6,x0,q7⟩,huv,hun,hub⟩:=hP.lit i o t u v ho hlo;obtain ⟨e1,e2⟩:=Qul hlo
  have habs:Qaj C ops.toList o={ o with op:=.build T #[(f,.tmp u)],dst:=none }:=by
   unfold Qaj;rw [hlo];simp only [q1,Option.bind_some,q5]
  rw [habs] at h hnext;obtain ⟨_,hb2⟩:(C.ty T).ok=true∧Qa3 C.ty T [(f,nth ts u)] (fun v=>KK v H):=h
  obtain ⟨k1,k2,out,k3⟩:=Xam q6 q7 hb2
  have hlit:=Xic (K:=fun v=>v=.sl 1 (cellsOf (nth ts u))∧H=H) q1 q2 q3 q4 k1 k2 ⟨rfl,rfl⟩
  obtain ⟨v2,vc,im2,pl2,w2,H2,r1,r2,r3,r4,r5⟩:=Qlc (C:=C) (len:=1) (H:=H) (parts:=#[(0,.tmp u)]) (K:=fun v H'=>v=.sl 1 (cellsOf (nth ts u))∧H'=H) ht hlit h1.tr h1.hr
  obtain ⟨rfl,rfl⟩:=r2;refine ⟨fun _ _=>trivial, ?_⟩
  rw [Oper.semAt_eq ro a.eval o (fun c=>by rw [e1];simp)]
  rw [show (execOp a.eval o).run C.P w=.ok (.value vc) w2 by simp only [execOp,e1,Sem.run_bind];rw [r1];simp]
  have hv:=(hany i o t u v ho hlo)
  refine hnext out vc _ w2 k3 ⟨im2,pl2, ?_,h2.trans r5,by rw [Xa];exact h3,hany,fun q p t' u' v' hp hl' hq=>?_⟩
  ·have:=h1.put r5 r4 (v:=.any) (vc:=vc) (.any _) o.dst
   rw [e2] at this ⊢;simp only [Xi] at this ⊢
   rwa [Xgu hv.1] at this
  ·simp only [Xi];rw [Qa0 hlt] at hq;by_cases e:i=q
   ·subst e;rw [ho] at hp;injection hp with hp
    subst hp;rw [hlo] at hl';injection hl' with hl'
    injection hl' with f1 hl'
    injection hl' with f2 f3
    subst f1 f2 f3;rw [e2]
    have:v<a.tmps.size:=by rw [← h1.tr.1];exact hv.2
    simpa [Act.put,Array.getD_eq_getD_getElem?,Array.getElem?_setIfInBounds,this] using r3
   ·rw [if_neg e] at hq
    have hne:o.dst≠some v':=fun e3=>e ((hP.lit q p t' u' v' hp hl').2.2.2.1 i o ho e3)
    obtain ⟨f1,f2⟩:=Qaq a vc hne;rw [f1];exact (h4 q p t' u' v' hp hl' hq).mono r5 h1.hr.apart
 | none =>
  have hnq:∀ (q:Nat) (p:Oper) t u v,ops[q]?=some p→Qa6 p=some (t,u,v)→i≠q:=fun q p t u v hp hl e=>by
   subst e;rw [ho] at hp;injection hp with hp;subst hp;rw [hlo] at hl;cases hl
  have hdv:∀ (q:Nat) (p:Oper) t u v,ops[q]?=some p→Qa6 p=some (t,u,v)→o.dst≠some v:=fun q p t u v hp hl e=>hnq q p t u v hp hl ((hP.lit q p t u v hp hl).2.2.2.1 i o ho e)
  have hdu:∀ (q:Nat) (p:Oper) t u v,ops[q]?=some p→Qa6 p=some (t,u,v)→listed.getD q false=true→o.dst≠some u:=fun q p t u v hp hl hq e=>by
   have:=hcl' q p hp hq i ((hP.lit q p t u v hp hl).2.2.2.2 i o ho e)
   rw [hni] at this;cases this
  have fin:∀ r rc im2 pl2 w2 H2,Rel im2 pl2 w2 (Xi ts o.dst r) H2 (a.put o.dst rc)→Ext im' pl' w im2 pl2 w2→InvA ops im pl w0 ds (listed.setIfInBounds i true) (Xi ts o.dst r) H2 (a.put o.dst rc) w2:=by
   intro r rc im2 pl2 w2 H2 k1 k4;refine ⟨im2,pl2,k1,h2.trans k4,by rw [Xa];exact h3,fun q p t u v hp hl=>?_,fun q p t u v hp hl hq=>?_⟩
   ·obtain ⟨f1,f2⟩:=hany q p t u v hp hl
    have:=Qdr (ts:=ts) (d:=o.dst) (v:=r) (x:=.tmp v) fun t' ht e=>by
     injection e with e
     subst e;exact hdv q p t u _ hp hl ht
    exact ⟨this.trans f1,by rw [Qhl];exact f2⟩
   ·rw [Qa0 hlt,if_neg (hnq q p t u v hp hl)] at hq;obtain ⟨f1,f2⟩:=Qaq a rc (hdv q p t u v hp hl)
    have:=Qdr (ts:=ts) (d:=o.dst) (v:=r) (x:=.tmp u) fun t' ht e=>by
     injection e with e
     subst e;exact hdu q p t _ v hp hl hq ht
    have this:nth (Xi ts o.dst r) u=nth ts u:=this
    rw [f1,this];exact (h4 q p t u v hp hl hq).mono k4 h1.hr.apart
  cases hap:Qjt o with
  | some tsv =>
   obtain ⟨t,s,v⟩:=tsv;obtain ⟨hsv,t2,u,q,p,hla,hbq,hp,hlp⟩:=hP.app i o t s v ho hlo hap
   have habs:Qaj C ops.toList o={ o with op:=.call ⟨.value (.func t),#[s,.tmp u],#[]⟩ }:=by
    unfold Qaj;rw [hlo,hap];simp only [hla]
   rw [habs] at h hnext;obtain ⟨_,hb2⟩:_∧Qm C.ty .append [t,t] [ev ts s,.sl 1 (cellsOf (nth ts u))] H KK:=h
   have e1:=Qvv hap
   have hv:=hany q p t u v hp hlp
   have hVR:=h4 q p t u v hp hlp (hb q hbq)
   have htr:TR im' pl' w (upd ts v (.sl 1 (cellsOf (nth ts u)))) a.tmps:=by
    refine ⟨by rw [Yi];exact h1.tr.1,fun j=>?_⟩
    rw [Zh];split
    ·rename_i hj;rw [hj.1];exact hVR
    ·exact h1.tr.2 j
   refine Zt (Je C ro) (K:=KK) (ts:=upd ts v (.sl 1 (cellsOf (nth ts u)))) ?_ htr h1.hr fun r rc H2 im2 pl2 w2 k1 k2 k3 k4=>hnext r rc H2 w2 k1 (fin r rc im2 pl2 w2 H2 (h1.put k4 k3 k2 o.dst) k4)
   rw [e1]
   have es:ev (upd ts v (.sl 1 (cellsOf (nth ts u)))) s=ev ts s:=Qdr (d:=some v) fun t' ht e=>by
    injection ht with ht;subst ht;exact hsv e
   have ev':ev (upd ts v (.sl 1 (cellsOf (nth ts u)))) (.tmp v)=.sl 1 (cellsOf (nth ts u)):=by
    show nth (upd ts v _) v=_
    rw [Zh,if_pos ⟨rfl,hv.2⟩]
   show Qm C.ty .append [t,t] [ev (upd ts v (.sl 1 (cellsOf (nth ts u)))) s,ev (upd ts v (.sl 1 (cellsOf (nth ts u)))) (.tmp v)] H KK
   rw [es,ev'];exact hb2
  | none =>
   have habs:Qaj C ops.toList o=o:=by unfold Qaj;rw [hlo,hap]
   rw [habs] at h hnext;rw [Xl1 (cw':=cwF C) (hP.other i o ho hlo hap)] at h;exact Zt (Je C ro) h h1.tr h1.hr fun r rc H2 im2 pl2 w2 k1 k2 k3 k4=>hnext r rc H2 w2 k1 (fin r rc im2 pl2 w2 H2 (h1.put k4 k3 k2 o.dst) k4)
end
def Qox (ops:List Oper):List Tmp:=ops.filterMap fun o=>(Qa6 o).map (·.2.2)
def Qc5:List Tmp→List V→List V
 | [],ts=>ts
 | v::vs,ts=>Qc5 vs (upd ts v .any)
theorem Qeh:∀ (vs:List Tmp) (ts:List V),(Qc5 vs ts).length=ts.length
 | [],_=>rfl
 | v::vs,ts=>by rw [Qc5,Qeh vs,Yi]
theorem Qiu:∀ (vs:List Tmp) (ts:List V) (j:Nat),nth (Qc5 vs ts) j=nth ts j∨nth (Qc5 vs ts) j=.any
 | [],_,_=>.inl rfl
 | v::vs,ts,j=>by
  rw [Qc5];rcases Qiu vs (upd ts v .any) j with h | h
  ·rw [h,Zh];split
   ·exact .inr rfl
   ·exact .inl rfl
  ·exact .inr h
theorem Qms:∀ (vs:List Tmp) (ts:List V) (j:Nat),j∈vs→nth (Qc5 vs ts) j=.any
 | v::vs,ts,j,h=>by
  rw [Qc5];rcases List.mem_cons.1 h with rfl | h
  ·rcases Qiu vs (upd ts j .any) j with h | h
   ·rw [h,Zh];split
    ·rfl
    ·rename_i hj;exact Jw _ _ (by simp at hj;exact hj)
   ·exact h
  ·exact Qms vs _ j h
theorem Xpu {C:Ctx} {ro:Option Nat} (hm:C.P.follows .mixedOrders=true) {id:Nat} {ops:Array Oper} (hok:Qn0 C ops=true) {Q:Exit→List V→Qa→Prop} {ts:List V} {H:Qa} (hl:∀ v∈Qox ops.toList,v<ts.length)
  (h:Kx C (cwA C) (ops.map (Qaj C ops.toList)) [] (Q .normal) (ops.map (Qaj C ops.toList)).toList (Qc5 (Qox ops.toList) ts) H):T C ro (.region id ops true) Q ts H:=by
 intro im pl w a hr
 have hP:=Xjm hok
 have hab:=Qn2 C ops.toList
 have hk:Yf (ops.map (Qaj C ops.toList))=true:=by have:=hP.ok;simp only [Jy,Bool.and_eq_true] at this;exact this.1
 refine wpIn_region_any hm ?_
 have hx:=Qho (Xe9 C) hk (ops.map (Qaj C ops.toList)).toList 0 _ H (by simp) h
 rw [show (ops.map (Qaj C ops.toList)).toList.length=ops.size by simp] at hx
 have hvr:∀ {v c},VR im pl w v c→VR im pl { w with drawn:=w.drawn+1 } v c:=fun h=>VR.world (w:=w) (w':={ w with drawn:=w.drawn+1 }) (fun _ _ _ (h:w.cell? _=some _)=>h) (fun _ _ _ _ h=>h) h
 have hE:Ext im pl w im pl { w with drawn:=w.drawn+1 }:=⟨rfl,rfl,rfl,Nat.le_refl _,fun _ h=>h,fun _ h=>.inl h,fun _ _=>.inl rfl,fun r b cap h=>.inl ⟨r,cap,h⟩,fun _ _ _=>rfl⟩
 have hr':Rel im pl { w with drawn:=w.drawn+1 } (Qc5 (Qox ops.toList) ts) H a:=by
  refine ⟨⟨by rw [Qeh];exact hr.tr.1,fun i=>?_⟩, ?_,hr.df.mono hE⟩
  ·rcases Qiu (Qox ops.toList) ts i with h | h
   ·rw [h];exact hvr (hr.tr.2 i)
   ·rw [h];exact .any _
  obtain ⟨g1,g2,g3,g4,g5,g6,g7,g8⟩:=hr.hr;refine ⟨g1,g2,g3,g4,g5,g6,g7,fun r b cap hp=>?_⟩
  obtain ⟨e,s,cs,cur,f1,f2,f3,f4,f5,f6⟩:=g8 r b cap hp;exact ⟨e,s,cs,cur,f1,f2,f3,f4,f5,fun j=>hvr (f6 j)⟩
 have hfalse:∀ i,(Array.replicate ops.size false).getD i false=false:=fun i=>by
  simp only [Array.getD_eq_getD_getElem?,Array.getElem?_replicate];split<;>rfl
 refine Qg6 hab (Xe9 C) (ro:=ro) (pos:=ops) (R:=Post im pl w a.defers Q) (Inv:=InvA ops im pl w a.defers) hP.g hk (fun _=>True) (Qbj hP.ok _) ?_ [] (fun i hi=>by simp at hi) ?_
  ops.size (List.range' 0 ops.size) _ _ H _ a (fun _ _=>trivial) ⟨by simp, ?_,fun i=>?_,fun i o ho hl=>?_⟩ (by simp) (.inl fun r row hr=>by simp [Qc] at hr) hx ⟨im,pl,hr',hE,rfl,fun q o t u v ho hlo=>?_,fun q o t u v ho hlo hq=>?_⟩
 ·intro i o o' _ ho ho' listed ts' H' a' w' KK next hcl hlt hni hb hopc hI hnext;subst ho';exact InvA.hop hP i o ho listed ts' H' a' w' KK next hcl hlt hni hb hopc hI hnext
 ·rintro fuel listed a' w' ts' H' k1 ⟨im',pl',k2,k3,k4,_⟩ hL _;exact Qij (hL.unmap hab) ⟨ts',H',im',pl',k1,k2,k3,by rw [k4];exact .refl _ _⟩
 ·simpa using List.pairwise_lt_range' ..
 ·rw [hfalse];simp [List.mem_range'_1]
 ·rw [hfalse] at hl;cases hl
 ·have hm:v∈Qox ops.toList:=by
   simp only [Qox,List.mem_filterMap];exact ⟨o,by simpa using Array.mem_of_getElem? ho,by rw [hlo];rfl⟩
  exact ⟨Qms _ _ _ hm,by rw [Qeh];exact hl v hm⟩
 ·rw [hfalse] at hq;cases hq
end Go.Bv
end
