/-
  Parts Bv18, Bv19, Bv20, Bv21, Bv22, Bv23, Bv24, Bv25, Bv26, Bv28, Bv29, Bv30, one behind the other: a program logic of our own, contracts of functions.
-/
import Derived.Test.YtepjcbnpbcmfcaaGreatQ2
import Derived.Attr
import Derived.RangeFuncRecord
import Derived.RangeFuncSeq
import Derived.ProofKit
import Derived.SizedLaws
import Derived.Deep.Slices

set_option linter.unusedVariables false
set_option linter.unusedSimpArgs false
set_option maxRecDepth 100000
set_option maxHeartbeats 8000000
section
namespace Go.Bv
open Go.RowKit
def chk (p q:Prop):Prop:=p∧q
@[congr] theorem Xol {uu:Prop} (h00:(True∧True)=uu) {p p':Prop} (q:Prop) (h:p=p'):chk p q=chk p' q:=by rw [h]
theorem Xfi (q:Prop):chk True q=q:=by simp [chk]
theorem Xm9 {p:Prop} (q:Prop) (h:p):chk p q=q:=by simp [chk,h]
def Go1 (p:Prop):Prop:=p
theorem Zo {p:Prop} (h:Go1 p):p:=h
theorem Zk {p:Prop} (h:p):Go1 p:=h
def Br (b:Bool) (X Y:Prop):Prop:=(b=true→X)∧(b=false→Y)
@[congr] theorem Xp1 {uu:Prop} (h00:(True∧True)=uu) {b b':Bool} (X Y:Prop) (h:b=b'):Br b X Y=Br b' X Y:=by rw [h]
theorem Xjx (X Y:Prop):Br true X Y=X:=by simp [Br]
theorem Xgc (X Y:Prop):Br false X Y=Y:=by simp [Br]
theorem Xnu (b:Bool) (X Y:Prop):Br (!b) X Y=Br b Y X:=by cases b<;>simp [Br]
theorem Xnv (a b:Bool) (X Y:Prop):Br (a&&b) X Y=Br a (Br b X Y) Y:=by cases a<;>cases b<;>simp [Br]
theorem Xp0 (a b:Bool) (X Y:Prop):Br (a||b) X Y=Br a X (Br b X Y):=by cases a<;>cases b<;>simp [Br]
theorem Xgd {p:Prop} [Decidable p] (X Y:Prop) (h:p):Br (decide p) X Y=X:=by simp [Br,h]
theorem Xge {p:Prop} [Decidable p] (X Y:Prop) (h:¬ p):Br (decide p) X Y=Y:=by simp [Br,h]
theorem Xgh {a b:Int} (X Y:Prop) (h:a=b):Br (a==b) X Y=X:=by simp [Br,h]
theorem Xgi {a b:Int} (X Y:Prop) (h:a≠b):Br (a==b) X Y=Y:=by simp [Br,h]
theorem Xgf {a b:Int} (X Y:Prop) (h:a≠b):Br (a != b) X Y=X:=by simp [Br,h]
theorem Xgg {a b:Int} (X Y:Prop) (h:a=b):Br (a != b) X Y=Y:=by simp [Br,h]
theorem Za {p:Prop} [Decidable p] {X Y:Prop} (h1:p→X) (h2:¬ p→Y):Br (decide p) X Y:=⟨fun h=>h1 (of_decide_eq_true h),fun h=>h2 (of_decide_eq_false h)⟩
theorem Zb {a b:Int} {X Y:Prop} (h1:a=b→X) (h2:a≠b→Y):Br (a==b) X Y:=⟨fun h=>h1 (by simpa using h),fun h=>h2 (by simpa using h)⟩
theorem Zc {a b:Int} {X Y:Prop} (h1:a≠b→X) (h2:a=b→Y):Br (a != b) X Y:=⟨fun h=>h1 (by simpa using h),fun h=>h2 (by simpa using h)⟩
theorem Zd {b:Bool} {X Y:Prop} (h1:b=true→X) (h2:b=false→Y):Br b X Y:=⟨h1,h2⟩
theorem Br.pick {b:Bool} {X Y:Prop} (h:if b then X else Y):Br b X Y:=by cases b<;>simpa [Br] using h
attribute [go_sem] Xfi Xm9 Xjx Xgc Xnu Xnv Xp0 Xgd Xge Xgh Xgi Xgf Xgg
section
variable (C:Ctx) (ro:Option Nat) (cw:CW) (ty:TypeId→Ty) (Q:Exit→List V→Qa→Prop) (ts:List V) (H:Qa) (K:V→Qa→Prop) (KP:V→Prop) (KL:List V→Qa→Prop)
theorem Xjd (b:Bool) (x y:Prop):Qe2 (.bool b) x y=Br b x y:=rfl
theorem Xen (b:Bool) (d:Tmp) (Y N:List V→Prop):Qbh (.bool b) d true ts Y N=Br b (Y (upd ts d (.bool true))) (N (upd ts d (.bool false))):=rfl
theorem Xeo (b:Bool) (d:Tmp) (Y N:List V→Prop):Qbh (.bool b) d false ts Y N=Br b (N (upd ts d (.bool true))) (Y (upd ts d (.bool false))):=rfl
theorem Xhl (t:Bool) (a b:V):Qge (.bool t) a b KP=Br t (KP a) (KP b):=rfl
theorem Qpz (y:Ty) (a b:ByteArray):Qc2 y .eql (.str a) (.str b) H KP=KP (.bool (a.toList==b.toList)):=rfl
theorem Qpy (y:Ty) (a b:ByteArray):Qc2 y .neq (.str a) (.str b) H KP=KP (.bool (!(a.toList==b.toList))):=rfl
theorem Qi6 (y:Ty) (n:Nat) (cs:List V):Qc2 y .eql (.sl n cs) .nil H KP=(y.sl.isSome=true∧chk (KP (.bool false)) (n=0→KP (.bool true))):=rfl
theorem Qi5 (y:Ty) (n:Nat) (cs:List V):Qc2 y .neq (.sl n cs) .nil H KP=(y.sl.isSome=true∧chk (KP (.bool true)) (n=0→KP (.bool false))):=rfl
theorem Qig (y:Ty) (r off n:Nat):Qc2 y .eql (.ref r off n) .nil H KP=(y.sl.isSome=true∧chk ((Qc H r).isSome=true) (KP (.bool false)∧(n=0→KP (.bool true)))):=rfl
theorem Qz2 (k:IntKind) (a b:Int):Zv .quo k a k b KP=chk (b≠0) (KP (.int k (k.wrap (a.tdiv b)))):=by simp [Zv,chk]
theorem Qz1 (k:IntKind) (a b:Int):Zv .rem k a k b KP=chk (b≠0) (KP (.int k (a.tmod b))):=by simp [Zv,chk]
theorem Xea (k k':IntKind) (a b:Int):Zv .shl k a k' b KP=chk (0≤b) (KP (.int k (k.wrap (a*2 ^ (min b.toNat k.bits))))):=rfl
theorem Xd9 (k k':IntKind) (a b:Int):Zv .shr k a k' b KP=chk (0≤b) (KP (.int k (a.fdiv (2 ^ (min b.toNat k.bits))))):=rfl
theorem Xej (k:IntKind) (a b:Int):Zv .and k a k b KP=KP (.int k (k.wrap ((BitVec.ofInt k.bits a &&& BitVec.ofInt k.bits b).toNat:Int))):=by simp [Zv]
theorem Xil (k:IntKind) (a b:Int):Zv .or k a k b KP=KP (.int k (k.wrap ((BitVec.ofInt k.bits a|||BitVec.ofInt k.bits b).toNat:Int))):=by simp [Zv]
theorem Xd7 (k:IntKind) (a b:Int):Zv .xor k a k b KP=KP (.int k (k.wrap ((BitVec.ofInt k.bits a ^^^ BitVec.ofInt k.bits b).toNat:Int))):=by simp [Zv]
theorem Xgw (k:IntKind) (n:Int):unw .xor (.int k n) KP=KP (.int k (k.wrap ((BitVec.ofInt k.bits (if k.signed then -1 else k.max) ^^^ BitVec.ofInt k.bits n).toNat:Int))):=rfl
theorem Qzr (y:Ty) (cs:List V) (off:Nat):Qbv y (.rp cs off) H KP=chk (off+y.size≤cs.length) (KP (Qgt y cs off)):=rfl
theorem Qrn (y:Ty) (e s:Nat) (cs:List V) (off:Nat):Qw2 y (some ⟨e,s,cs⟩) off KP=chk (off+y.size≤cs.length) (KP (Qgt y cs off)):=rfl
theorem Qoh (y:Ty) (e s:Nat) (cs:List V) (r off:Nat) (v:V) (KH:Qa→Prop):Qko y (some ⟨e,s,cs⟩) r off v H KH =
  chk (off+y.size≤cs.length∧(cellsOf v).length=y.size∧(cellsOf v).all Yc=true) (KH (H.set r (some ⟨e,s,Ki cs off (cellsOf v)⟩))):=by simp [Qko,chk,and_assoc]
theorem Quw (e n:Nat) (i:Int) (KO:Nat→Prop):Qry ty (some e) n i KO=((ty e).ok=true∧chk (0≤i∧i<n) (KO (i.toNat*(ty e).size))):=by simp [Qry,chk,and_assoc]
theorem Xad (o u:Nat) (KO:Nat→Prop):fao ty (some (o,u)) KO=((ty u).ok=true∧chk ((ty u).size≠0) (KO o)):=rfl
theorem Qtz (l:List V) (KV:List V→Prop):Qeo (some l) KV=KV l:=rfl
theorem Qs7 (place:Nat→Option (Nat × Nat)) (cs:List V) (v:V) (rest:List (Nat × V)) (off size:Nat):Xba (some (off,size)) place cs v rest=if kn v=true∧(cellsOf v).length=size∧off+(cellsOf v).length≤cs.length then Zn place (Ki cs off (cellsOf v)) rest else none:=rfl
end
attribute [go_sem] Xea Xd9 Xej Xil Xd7 Xgw Xad List.cons_ne_nil ne_eq not_false_eq_true Option.map_some Xjd Xen Xeo Xhl Qpz Qpy Qi6 Qi5 Qig Qz2 Qz1 Qzr Qrn Qoh Quw Qtz Qs7
attribute [go_sem] Xgp Xkp Xa5 Xa6 Xgq Qob Xgr Xa3 Xa4 Xkq Qqm Qyb Xbz Qml Qvq Qsj Qpx Qma Qtk Qqn Xez
 Qr5 Xck Xcj Qyi Xh1 Xh2 Xh0 Qi0 Qfl Quz Qu6 Qu7 Xc4 Qua Xc3 Qzg Xc1 Qq7 Qot Qq6 Qos
 Xc5 Qzb Xhz Qzh Qzf Qk6 Qmf Qzc Qdm Qze Qgf Qzd Xc6 Qq8 Xm3 Xmr Xmu Xi3 Xmt Xi0 Xi1 Xms Xmv
 Xi2 Qiq Qir Xbb Xbc Xc8 Xc9 Xfr Qmn Qmm Qi7 Xek Xd8 Xec Xeh Xeb Xed Xee Xef Xeg Xgy Xgx
 Xew Xh5 Que Xde Qzs Qte Qjy Qjz Xie Xdy Xdz Qpq Qpp Qpo Qj0 Qi2 Option.isSome_some Bool.and_self Bool.or_true Xav Xip Xel Xix
 Xmp Qnw Xfk Xfj Xfo Qdg Qkp Qol Xid Xdo Xdw Xdv Xdu Xdt Quk Xds Qzu Qxv Qs8 Xho Xa7 Xa8 Xm2 Qud Qrc Quc Xcy Qt4 Xcx Qy9 Xcw Qq4 Qor Qq3
 Qoq Xcz Qy8 Qy4 Qme Qy6 Qmd Qy5 Xhw Qt5 Xhu Xhv Xc0 Qy3 Xhx Qza Qk4 Qmc Xmc Xih Xl8 Xmb Xpb
 Xl9 Xmd Xma Xpc Xif Xpe Xig Qsh Qpn Qsd Qsg Qvh Qse Qsi Qsf Qvi Qpl Qvk Qpm Xcm Qyr
 Zr Qdb Xgt Qf0 Qnx Qg4 Xfh Xas Ql1
attribute [go_sem] List.map_cons List.map_nil List.length_cons List.length_nil true_and and_true if_true Bool.not_true Bool.not_false beq_self_eq_true Nat.zero_add Nat.add_zero Bool.false_eq_true if_false Int.toNat_natCast Nat.mul_one Option.isSome_some Bool.true_eq_false false_implies true_implies implies_true eq_self List.nil_append List.append_nil List.cons_append List.replicate_succ List.replicate_zero Nat.lt_irrefl Nat.le_refl Nat.one_mul decide_true decide_false List.all_cons List.all_nil Bool.and_true Bool.true_and
theorem Xb4 (k:IntKind) (n:Int):Yc (.int k n)=true:=rfl
theorem Qyd (b:Bool):Yc (.bool b)=true:=rfl
theorem Xb0 (b:ByteArray):Yc (.str b)=true:=rfl
theorem Xb3:Yc .nil=true:=rfl
theorem Qwo (n:Nat) (cs:List V):Yc (.sl n cs)=true:=rfl
theorem Xb1 (r o n:Nat):Yc (.ref r o n)=true:=rfl
theorem Xb2 (r o:Nat):Yc (.ptr r o)=true:=rfl
theorem Xha (f:Go.Fn) (xs ys:List V):Yc (.fn f xs ys)=true:=rfl
theorem Qyc:Yc .nilf=true:=rfl
attribute [go_sem] Xb4 Qyd Xb0 Xb3 Qwo Xb1 Xb2 Xha Qyc Jj Qd8 Qb Qn
theorem Xgn {n:Int} (h:-9223372036854775808≤n∧n≤9223372036854775807):IntKind.wrap .i64 n=n:=Qxr h.1 h.2
theorem Qzk (xs:List Int) (i:Nat) (h:i<xs.length):nth (ints xs) i=.int .i64 (xs.getD i 0):=Xda xs i h
theorem Xg2 {a b:Int} (h:0≤a):a.tmod b=a%b:=Int.tmod_eq_emod_of_nonneg h
theorem Xg3 {a b:Int} (h:0≤a):a.tdiv b=a/b:=Int.tdiv_eq_ediv_of_nonneg h
theorem Xbi (i:Nat):((i:Int) - 1).toNat=i - 1:=by omega
theorem Xg0 (i j:Nat):((i:Int) - (j:Int)).toNat=i - j:=by omega
theorem Xbk (i:Nat):((i:Int)+1).toNat=i+1:=by omega
theorem Xg1 (i j:Nat):((i:Int)+(j:Int)).toNat=i+j:=by omega
theorem Xbj (i:Nat):(2*(i:Int)).toNat=2*i:=by omega
theorem Qxz (i:Nat):(2*(i:Int)+1).toNat=2*i+1:=by omega
attribute [go_sem] Xgn Qzk Xg2 Xg3 Xbi Xg0 Xbk Xg1 Xbj Qxz
attribute [go_sem] Nat.reduceBEq Nat.reduceLT Nat.reduceAdd Nat.reduceMul Nat.reduceSub Nat.reduceLeDiff Nat.reduceEqDiff Int.reduceBEq Int.reduceBNe Int.reduceLT Int.reduceLE Int.reduceNeg Int.reduceToNat
inductive O2 where
 | n (d:Nat) (op:Op)
 | z (op:Op)
 | g (d:Option Nat) (op:Op) (s:Nat) (b:Bool)
 | bad
def Xl (all:List Oper):List Oper→List O2
 | []=>[]
 | ⟨some d,op,_,_,_,none⟩::l=>.n d op::Xl all l
 | ⟨none,op,_,_,_,none⟩::l=>.z op::Xl all l
 | ⟨d,op,_,_,_,some (j,b)⟩::l=>(match Qeb all j with | some s=>.g d op s b | none=>.bad)::Xl all l
def Qbq (C:Ctx) (cw:CW):List O2→(List V→Qa→Prop)→List V→Qa→Prop
 | [],KL,ts,H=>KL ts H
 | .n d op::l,KL,ts,H=>opc C.ty cw op ts H fun v H'=>Qbq C cw l KL (upd ts d v) H'
 | .z op::l,KL,ts,H=>opc C.ty cw op ts H fun _ H'=>Qbq C cw l KL ts H'
 | .g d op s b::l,KL,ts,H=>Qbh (nth ts s) s b ts (fun ts=>opc C.ty cw op ts H fun v H'=>Qbq C cw l KL (Xi ts d v) H') (fun ts=>Qbq C cw l KL (Xi ts d (.tup [])) H)
 | .bad::_,_,_,_=>False
def Ka (C:Ctx) (cw:CW) (H0:Qa):List O2→(List V→Qa→Prop)→List V→Qa→Prop
 | [],KL,ts,H=>KL ts H
 | .n d op::l,KL,ts,H=>opd C cw op ts H0 H fun v H'=>Ka C cw H0 l KL (upd ts d v) H'
 | .z op::l,KL,ts,H=>opd C cw op ts H0 H fun _ H'=>Ka C cw H0 l KL ts H'
 | .g d op s b::l,KL,ts,H=>Qbh (nth ts s) s b ts (fun ts=>opd C cw op ts H0 H fun v H'=>Ka C cw H0 l KL (Xi ts d v) H') (fun ts=>Ka C cw H0 l KL (Xi ts d (.tup [])) H)
 | .bad::_,_,_,_=>False
section
variable (C:Ctx) (cw:CW) (H0:Qa) (KL:List V→Qa→Prop) (ts:List V) (H:Qa) (l:List O2)
theorem Xb5:Qbq C cw [] KL ts H=KL ts H:=rfl
theorem Xk2 (d:Nat) (op:Op):Qbq C cw (.n d op::l) KL ts H=opc C.ty cw op ts H fun v H'=>Qbq C cw l KL (upd ts d v) H':=rfl
theorem Xk1 (op:Op):Qbq C cw (.z op::l) KL ts H=opc C.ty cw op ts H fun _ H'=>Qbq C cw l KL ts H':=rfl
theorem Xk3 (d:Option Nat) (op:Op) (s:Nat) (b:Bool):Qbq C cw (.g d op s b::l) KL ts H=Qbh (nth ts s) s b ts (fun ts=>opc C.ty cw op ts H fun v H'=>Qbq C cw l KL (Xi ts d v) H') (fun ts=>Qbq C cw l KL (Xi ts d (.tup [])) H):=rfl
theorem Xb6:Ka C cw H0 [] KL ts H=KL ts H:=rfl
theorem Xk6 (d:Nat) (op:Op):Ka C cw H0 (.n d op::l) KL ts H=opd C cw op ts H0 H fun v H'=>Ka C cw H0 l KL (upd ts d v) H':=rfl
theorem Xk5 (op:Op):Ka C cw H0 (.z op::l) KL ts H=opd C cw op ts H0 H fun _ H'=>Ka C cw H0 l KL ts H':=rfl
theorem Xk7 (d:Option Nat) (op:Op) (s:Nat) (b:Bool):Ka C cw H0 (.g d op s b::l) KL ts H=Qbh (nth ts s) s b ts (fun ts=>opd C cw op ts H0 H fun v H'=>Ka C cw H0 l KL (Xi ts d v) H') (fun ts=>Ka C cw H0 l KL (Xi ts d (.tup [])) H):=rfl
end
attribute [go_sem] Xb5 Xk2 Xk1 Xk3 Xb6 Xk6 Xk5 Xk7
@[congr] theorem Xk4 {C:Ctx} {cw:CW} {KL:List V→Qa→Prop} {ts ts':List V} {H H':Qa} {uu:Prop} (h00:(True∧True)=uu) (l:List O2) (h1:ts=ts') (h2:H=H'):Qbq C cw l KL ts H=Qbq C cw l KL ts' H':=by rw [h1,h2]
@[congr] theorem Xk8 {C:Ctx} {cw:CW} {KL:List V→Qa→Prop} {ts ts':List V} {H H' H0 H0':Qa} {uu:Prop} (h00:(True∧True)=uu) (l:List O2) (h0:H0=H0') (h1:ts=ts') (h2:H=H'):Ka C cw H0 l KL ts H=Ka C cw H0' l KL ts' H':=by rw [h0,h1,h2]
theorem Qcx (C:Ctx) (cw:CW) (all:List Oper) (KL:List V→Qa→Prop):∀ (l:List Oper) (ts:List V) (H:Qa),.bad ∉ Xl all l→Qbq C cw (Xl all l) KL ts H=Qa5 C.ty cw all.toArray KL l ts H
 | [],_,_,_=>rfl
 | ⟨d,op,t,p,e,g⟩::l,ts,H,hb=>by
  cases g with
  | none =>
   cases d with
   | none =>
    have ih:=fun ts H=>Qcx C cw all KL l ts H (fun h=>hb (by simp [Xl,h]))
    simp only [Xl,Qbq,Qm5,Qir,ih]
   | some d =>
    have ih:=fun ts H=>Qcx C cw all KL l ts H (fun h=>hb (by simp [Xl,h]))
    simp only [Xl,Qbq,Qm5,Qiq,ih]
  | some g =>
   obtain ⟨j,b⟩:=g
   have ih:=fun ts H=>Qcx C cw all KL l ts H (fun h=>hb (by simp [Xl,h]))
   cases hs:Qeb all j with
   | none=>exact (hb (by simp [Xl,hs])).elim
   | some s=>simp only [Xl,hs,Qbq,Xhr hs,ih]
theorem Kg (C:Ctx) (cw:CW) (all:List Oper) (H0:Qa) (KL:List V→Qa→Prop):∀ (l:List Oper) (ts:List V) (H:Qa),.bad ∉ Xl all l→Ka C cw H0 (Xl all l) KL ts H=Kx C cw all.toArray H0 KL l ts H
 | [],_,_,_=>rfl
 | ⟨d,op,t,p,e,g⟩::l,ts,H,hb=>by
  cases g with
  | none =>
   cases d with
   | none =>
    have ih:=fun ts H=>Kg C cw all H0 KL l ts H (fun h=>hb (by simp [Xl,h]))
    simp only [Xl,Ka,Qm6,Qir,ih]
   | some d =>
    have ih:=fun ts H=>Kg C cw all H0 KL l ts H (fun h=>hb (by simp [Xl,h]))
    simp only [Xl,Ka,Qm6,Qiq,ih]
  | some g =>
   obtain ⟨j,b⟩:=g
   have ih:=fun ts H=>Kg C cw all H0 KL l ts H (fun h=>hb (by simp [Xl,h]))
   cases hs:Qeb all j with
   | none=>exact (hb (by simp [Xl,hs])).elim
   | some s=>simp only [Xl,hs,Ka,Xhs hs,ih]
section
variable (cw:CW) (ts:List V) (H:Qa)
theorem Xae (n:Nat):ev ts (.global n)=.any:=rfl
theorem Qt9 (ty:TypeId→Ty) (t:TypeId) (x i:Operand) (K:V→Qa→Prop):opc ty cw (.lookup t x i false) ts H K=((ty t).ok=true∧Qhz (ty t) (ev ts x) (ev ts i) fun v=>K v H):=by simp [opc,opw]
theorem Qt3 (C:Ctx) (H0:Qa) (t:TypeId) (x i:Operand) (K:V→Qa→Prop):opd C cw (.lookup t x i false) ts H0 H K=((C.ty t).ok=true∧Qhz (C.ty t) (ev ts x) (ev ts i) fun v=>K v H):=by simp [opd,Xj,Zp,opc,opw]
theorem Xdp (y:Ty) (k:IntKind) (ks:List Int) (cs:List V) (n:Int) (K:V→Prop):Qhz y (.mp k ks cs) (.int k n) K=(y.mpk=some k∧chk (ks.idxOf n<ks.length) (K (nth cs (ks.idxOf n)))):=by simp [Qhz,chk]
theorem Qvj (k:IntKind) (ks:List Int) (cs:List V):cellsOf (.mp k ks cs)=[.mp k ks cs]:=rfl
theorem Xpd (k:IntKind) (ks:List Int) (cs:List V):kn (.mp k ks cs)=true:=rfl
theorem Xg9 (k:IntKind) (ks:List Int) (cs:List V):Yc (.mp k ks cs)=true:=rfl
end
attribute [go_sem] Xae Qt9 Qt3 Xdp Qvj Xpd Xg9
inductive Tr where
 | s
 | r
 | x (id:Nat)
 | lb (l:Nat)
 | R (l:List O2)
 | D (ok:Bool) (l:List O2)
 | U (l:List O2)
 | P (l x:List O2)
 | M (l:List O2) (d:Nat) (k:IntKind) (kxs:List (Int × Operand)) (tl:List O2)
 | A (l:List O2) (vs:List Tmp)
 | q (a b:Tr)
 | c (o:Operand) (a b:Tr)
 | b (id:Nat) (a:Tr)
 | l (a:Tr)
 | sc (a:Tr)
 | f (o:Operand) (ps:Array Tmp) (a b:Tr)
 | no
def okO:List O2→Bool
 | []=>true
 | .bad::_=>false
 | _::l=>okO l
theorem Qda:∀ {l:List O2},okO l=true→.bad ∉ l
 | [],_=>by simp
 | .n ..::l,h=>by simp only [List.mem_cons,not_or];exact ⟨by simp,Qda (l:=l) h⟩
 | .z ..::l,h=>by simp only [List.mem_cons,not_or];exact ⟨by simp,Qda (l:=l) h⟩
 | .g ..::l,h=>by simp only [List.mem_cons,not_or];exact ⟨by simp,Qda (l:=l) h⟩
 | .bad::l,h=>by simp [okO] at h
def Ko (C:Ctx) (ops:Array Oper):Bool:=Jy ops||Qic C ops
theorem Xkj {C:Ctx} {ro:Option Nat} (hm:C.P.follows .mixedOrders=true) {id:Nat} {ops:Array Oper} {Q:Exit→List V→Qa→Prop} {ts:List V} {H:Qa} (hok:Ko C ops=true) {H0:Qa} (hs0:Same H0 H) (h:Kx C (cwP C H0) ops H0 (Q .normal) ops.toList ts H):T C ro (.region id ops true) Q ts H:=by
 simp only [Ko,Bool.or_eq_true] at hok;rcases hok with hok | hok
 ·exact Xnm hm hok hs0 h
 ·exact Xnj hm hok hs0 h
def Qwi (o:Oper):Bool:=match o.op with
 | .call ⟨.value (.tmp _),_,_⟩=>true
 | _=>false
def Qv0 (C:Ctx) (ops:Array Oper):Tr:=match ops.toList.any Qwi,Qlg ops,Ko C ops with
 | false,_,ok=>.D ok (Xl ops.toList ops.toList)
 | true,true,_=>.P (Xl ops.toList ops.toList.dropLast) (Xl ops.toList (ops.toList.drop (ops.size - 1)))
 | true,false,true=>.U (Xl ops.toList ops.toList)
 | true,false,false=>.D false (Xl ops.toList ops.toList)
def Xax (C:Ctx) (ops:Array Oper):Tr:=match Ko C ops,Qcr C ops with
 | false,true=>.D true (Xl ops.toList (Qr3 C ops))
 | _,_=>Qv0 C ops
theorem Xf0 {C:Ctx} {ops:Array Oper} (h:Ko C ops=true):Xax C ops=Qv0 C ops:=by simp [Xax,h]
theorem Qg8 (C:Ctx) (ops:Array Oper):Xax C ops=Qv0 C ops∨(Qcr C ops=true∧Xax C ops=.D true (Xl ops.toList (Qr3 C ops))):=by
 unfold Xax;cases Ko C ops<;>cases h2:Qcr C ops<;>simp
def Qju (C:Ctx) (ops:Array Oper) (b:Bool):Tr:=match okO (Xl ops.toList ops.toList),b with
 | true,false=>.R (Xl ops.toList ops.toList)
 | true,true=>Xax C ops
 | false,_=>.no
theorem Qex (C:Ctx) (ops:Array Oper):Qv0 C ops=.D (Ko C ops) (Xl ops.toList ops.toList)∨(Ko C ops=true∧Qv0 C ops=.U (Xl ops.toList ops.toList))∨(Qlg ops=true∧Qv0 C ops=.P (Xl ops.toList ops.toList.dropLast) (Xl ops.toList (ops.toList.drop (ops.size - 1)))):=by
 unfold Qv0;cases ops.toList.any Qwi<;>cases h1:Qlg ops<;>cases h2:Ko C ops<;>simp
def Qp2 (C:Ctx) (ops:Array Oper) (b:Bool):Option Tr:=match b,Xpa ops with
 | true,some (m,d,t)=>match (C.ty t).mpk with
  | some k=>match Qni C ops m d (Qzo ops) t k&&okO (Xl (ops.map Xv).toList ((ops.map Xv).toList.take (Qzo ops)))&&okO (Xl (ops.map Xv).toList ((ops.map Xv).toList.drop (Qzo ops))) with
   | true=>some (.M (Xl (ops.map Xv).toList ((ops.map Xv).toList.take (Qzo ops))) d k (Qlh C k d (Qzo ops) ops) (Xl (ops.map Xv).toList ((ops.map Xv).toList.drop (Qzo ops))))
   | false=>none
  | none=>none
 | _,_=>none
def Qp3 (C:Ctx) (ops:Array Oper) (b:Bool):Option Tr:=match b&&ops.toList.any (fun o=>(Qa6 o).isSome)&&ops.toList.any (fun o=>(Qjt o).isSome) with
 | false=>none
 | true=>match !Ko C ops&&!Qcr C ops&&Qn0 C ops&&okO (Xl (ops.map (Qaj C ops.toList)).toList (ops.map (Qaj C ops.toList)).toList) with
  | true=>some (.A (Xl (ops.map (Qaj C ops.toList)).toList (ops.map (Qaj C ops.toList)).toList) (Qox ops.toList))
  | false=>none
def Qp1 (C:Ctx) (ops:Array Oper) (b:Bool):Tr:=match Qp2 C ops b with
 | some t=>t
 | none=>match Qp3 C ops b with
  | some t=>t
  | none=>Qju C ops b
theorem Qsw {C:Ctx} {ops:Array Oper} {b:Bool} {tr:Tr} (h:Qp2 C ops b=some tr):b=true∧∃ m d n0 t k,Qni C ops m d n0 t k=true∧.bad ∉ Xl (ops.map Xv).toList ((ops.map Xv).toList.take n0)∧.bad ∉ Xl (ops.map Xv).toList ((ops.map Xv).toList.drop n0) ∧
  tr=.M (Xl (ops.map Xv).toList ((ops.map Xv).toList.take n0)) d k (Qlh C k d n0 ops) (Xl (ops.map Xv).toList ((ops.map Xv).toList.drop n0)):=by
 unfold Qp2 at h;split at h
 ·split at h
  ·split at h
   ·rename_i hb;simp only [Bool.and_eq_true] at hb;injection h with h
    exact ⟨rfl,_,_,_,_,_,hb.1.1,Qda hb.1.2,Qda hb.2,h.symm⟩
   ·cases h
  ·cases h
 ·cases h
theorem Qsx {C:Ctx} {ops:Array Oper} {b:Bool} {tr:Tr} (h:Qp3 C ops b=some tr):b=true∧Qn0 C ops=true∧.bad ∉ Xl (ops.map (Qaj C ops.toList)).toList (ops.map (Qaj C ops.toList)).toList ∧
  tr=.A (Xl (ops.map (Qaj C ops.toList)).toList (ops.map (Qaj C ops.toList)).toList) (Qox ops.toList):=by
 unfold Qp3 at h;split at h
 ·cases h
 ·rename_i hb;simp only [Bool.and_eq_true] at hb;split at h
  ·rename_i hc;simp only [Bool.and_eq_true] at hc;injection h with h
   exact ⟨hb.1.1,hc.1.2,Qda hc.2,h.symm⟩
  ·cases h
theorem Qcw (C:Ctx) (ops:Array Oper) (b:Bool):Qp1 C ops b=Qju C ops b∨(b=true∧∃ m d n0 t k,Qni C ops m d n0 t k=true∧.bad ∉ Xl (ops.map Xv).toList ((ops.map Xv).toList.take n0)∧.bad ∉ Xl (ops.map Xv).toList ((ops.map Xv).toList.drop n0) ∧
  Qp1 C ops b=.M (Xl (ops.map Xv).toList ((ops.map Xv).toList.take n0)) d k (Qlh C k d n0 ops) (Xl (ops.map Xv).toList ((ops.map Xv).toList.drop n0))) ∨
  (b=true∧Qn0 C ops=true∧.bad ∉ Xl (ops.map (Qaj C ops.toList)).toList (ops.map (Qaj C ops.toList)).toList∧Qp1 C ops b=.A (Xl (ops.map (Qaj C ops.toList)).toList (ops.map (Qaj C ops.toList)).toList) (Qox ops.toList)):=by
 unfold Qp1;cases hm:Qp2 C ops b with
 | some tr =>
  obtain ⟨h0,m,d,n0,t,k,h1,h2,h3,h4⟩:=Qsw hm;exact .inr (.inl ⟨h0,m,d,n0,t,k,h1,h2,h3,h4⟩)
 | none =>
  cases ha:Qp3 C ops b with
  | some tr =>
   obtain ⟨h0,h1,h2,h3⟩:=Qsx ha;exact .inr (.inr ⟨h0,h1,h2,h3⟩)
  | none=>exact .inl rfl
theorem Qsu (C:Ctx) (ops:Array Oper) (b:Bool):(∀ a,Qp1 C ops b≠.l a)∧∀ o ps x y,Qp1 C ops b≠.f o ps x y:=by
 rcases Qcw C ops b with h | ⟨_,_,_,_,_,_,_,_,_,h⟩ | ⟨_,_,_,h⟩
 case inr.inl=>rw [h];simp
 case inr.inr=>rw [h];simp
 rw [h];unfold Qju;cases okO (Xl ops.toList ops.toList)<;>cases b<;>simp;rcases Qg8 C ops with h | ⟨_,h⟩
 ·rcases Qex C ops with h2 | ⟨_,h2⟩ | ⟨_,h2⟩<;>rw [h,h2]<;>simp
 ·rw [h];simp
theorem Qcy (all:List Oper):∀ (a b:List Oper),Xl all (a++b)=Xl all a++Xl all b
 | [],b=>rfl
 | ⟨d,op,t,p,e,g⟩::a,b=>by
  cases g with
  | none=>cases d<;>simp [Xl,Qcy all a b]
  | some g=>obtain ⟨j,c⟩:=g;simp [Xl,Qcy all a b]
theorem Qsv (all:List Oper):∀ (l m:List Oper),(∀ o∈l,o∈m)→.bad ∉ Xl all m→.bad ∉ Xl all l
 | [],m,_,_=>by simp [Xl]
 | o::l,m,h,hm=>by
  obtain ⟨a,b,rfl⟩:=List.append_of_mem (h o (by simp))
  have e:Xl all (o::l)=Xl all [o]++Xl all l:=Qcy all [o] l
  have e2:Xl all (a++o::b)=Xl all a++(Xl all [o]++Xl all b):=by rw [Qcy,← Qcy all [o] b];rfl
  rw [e2] at hm;rw [e];simp only [List.mem_append,not_or] at hm ⊢;exact ⟨hm.2.1,Qsv all l (a++o::b) (fun x hx=>h x (by simp [hx])) (by rw [e2];simp only [List.mem_append,not_or];exact hm)⟩
theorem Qz8 (C:Ctx) (ops:Array Oper):∀ o∈Qr3 C ops,o∈ops.toList:=fun o ho=>by
 simp only [Qr3,List.mem_filterMap] at ho;obtain ⟨i,_,hi⟩:=ho;simpa using Array.mem_of_getElem? hi
def Qo (C:Ctx):Code→Tr
 | .skip=>.s
 | .ret=>.r
 | .exit id=>.x id
 | .label l=>.lb l
 | .goto _=>.no
 | .region _ ops b=>Qp1 C ops b
 | .refuse _=>.no
 | .seq a b=>.q (Qo C a) (Qo C b)
 | .cond o a b=>.c o (Qo C a) (Qo C b)
 | .block id a=>.b id (Qo C a)
 | .loop a=>.l (Qo C a)
 | .scope a=>.sc (Qo C a)
 | .rangeFunc o ps a b=>.f o ps (Qo C a) (Qo C b)
def TT (C:Ctx) (ro:Option Nat) (t:Tr) (Q:Exit→List V→Qa→Prop) (ts:List V) (H:Qa):Prop:=∀ c,Qo C c=t→T C ro c Q ts H
def RunU (C:Ctx) (l:List O2) (KL:List V→Qa→Prop) (ts:List V) (H:Qa):Prop:=∃ H0,Same H0 H∧Ka C (cwP C H0) H0 l KL ts H
def RunP (C:Ctx) (l x:List O2) (KL:List V→Qa→Prop) (ts:List V) (H:Qa):Prop:=∃ H0,Same H0 H∧Ka C (cwP C H0) H0 l (fun ts H=>Qbq C (cwF C) x KL ts H) ts H
theorem RunU.now {C:Ctx} {l:List O2} {KL:List V→Qa→Prop} {ts:List V} {H:Qa} (h:Ka C (cwP C H) H l KL ts H):RunU C l KL ts H:=⟨H,.refl H,h⟩
theorem RunP.now {C:Ctx} {l x:List O2} {KL:List V→Qa→Prop} {ts:List V} {H:Qa} (h:Ka C (cwP C H) H l (fun ts H=>Qbq C (cwF C) x KL ts H) ts H):RunP C l x KL ts H:=⟨H,.refl H,h⟩
@[congr] theorem Xnr {C:Ctx} {KL:List V→Qa→Prop} {ts ts':List V} {H H':Qa} {uu:Prop} (h00:(True∧True)=uu) (l:List O2) (h1:ts=ts') (h2:H=H'):RunU C l KL ts H=RunU C l KL ts' H':=by rw [h1,h2]
@[congr] theorem Xns {C:Ctx} {KL:List V→Qa→Prop} {ts ts':List V} {H H':Qa} {uu:Prop} (h00:(True∧True)=uu) (l x:List O2) (h1:ts=ts') (h2:H=H'):RunP C l x KL ts H=RunP C l x KL ts' H':=by rw [h1,h2]
def Kb (C:Ctx) (ro:Option Nat) (cw:CW):Tr→(Exit→List V→Qa→Prop)→List V→Qa→Prop
 | .s,Q,ts,H=>Q .normal ts H
 | .r,Q,ts,H=>Q .ret ts H
 | .x id,Q,ts,H=>Q (.exit id) ts H
 | .lb _,Q,ts,H=>Q .normal ts H
 | .R l,Q,ts,H=>Qbq C cw l (Q .normal) ts H
 | .D true l,Q,ts,H=>Ka C (cwP C H) H l (Q .normal) ts H
 | .D false _,_,_,_=>False
 | .U l,Q,ts,H=>RunU C l (Q .normal) ts H
 | .P l x,Q,ts,H=>RunP C l x (Q .normal) ts H
 | .M l d k kxs tl,Q,ts,H=>chk (d<ts.length) (Ka C (cwP C H) H l (fun ts1 H1=>Ka C (cwP C H) H tl (Q .normal) (upd ts1 d (.mp k (kxs.map (·.1)) (kxs.map fun p=>ev ts1 p.2))) H1) ts H)
 | .A l vs,Q,ts,H=>TT C ro (.A l vs) Q ts H
 | .q a b,Q,ts,H=>Kb C ro cw a (Qdk (Kb C ro cw b Q) Q) ts H
 | .c o a b,Q,ts,H=>Qe2 (ev ts o) (Kb C ro cw a Q ts H) (Kb C ro cw b Q ts H)
 | .b id a,Q,ts,H=>Kb C ro cw a (Zs id Q) ts H
 | .l a,Q,ts,H=>TT C ro (.l a) Q ts H
 | .sc a,Q,ts,H=>Kb C ro cw a (Qcg Q) ts H
 | .f o ps a b,Q,ts,H=>TT C ro (.f o ps a b) Q ts H
 | .no,_,_,_=>False
section
variable (C:Ctx) (ro:Option Nat) (cw:CW) (Q:Exit→List V→Qa→Prop) (ts:List V) (H:Qa) (a b:Tr)
theorem Xle:Kb C ro cw .s Q ts H=Q .normal ts H:=rfl
theorem Xlf:Kb C ro cw .r Q ts H=Q .ret ts H:=rfl
theorem Xld (id:Nat):Kb C ro cw (.x id) Q ts H=Q (.exit id) ts H:=rfl
theorem Xhd (id:Nat):Kb C ro cw (.lb id) Q ts H=Q .normal ts H:=rfl
theorem Xb9 (l:List O2):Kb C ro cw (.R l) Q ts H=Qbq C cw l (Q .normal) ts H:=rfl
theorem Qtl (l:List O2):Kb C ro cw (.D true l) Q ts H=Ka C (cwP C H) H l (Q .normal) ts H:=rfl
theorem Xb8 (l:List O2):Kb C ro cw (.U l) Q ts H=RunU C l (Q .normal) ts H:=rfl
theorem Xca (l x:List O2):Kb C ro cw (.P l x) Q ts H=RunP C l x (Q .normal) ts H:=rfl
theorem Xcb (l tl:List O2) (d:Nat) (k:IntKind) (kxs:List (Int × Operand)):Kb C ro cw (.M l d k kxs tl) Q ts H=chk (d<ts.length) (Ka C (cwP C H) H l (fun ts1 H1=>Ka C (cwP C H) H tl (Q .normal) (upd ts1 d (.mp k (kxs.map (·.1)) (kxs.map fun p=>ev ts1 p.2))) H1) ts H):=rfl
theorem Xcc (l:List O2) (vs:List Tmp):Kb C ro cw (.A l vs) Q ts H=TT C ro (.A l vs) Q ts H:=rfl
theorem Xlg:Kb C ro cw (.q a b) Q ts H=Kb C ro cw a (Qdk (Kb C ro cw b Q) Q) ts H:=rfl
theorem Xb7 (o:Operand):Kb C ro cw (.c o a b) Q ts H=Qe2 (ev ts o) (Kb C ro cw a Q ts H) (Kb C ro cw b Q ts H):=rfl
theorem Xlk (id:Nat):Kb C ro cw (.b id a) Q ts H=Kb C ro cw a (Zs id Q) ts H:=rfl
theorem Xlh:Kb C ro cw (.l a) Q ts H=TT C ro (.l a) Q ts H:=rfl
theorem Xhc:Kb C ro cw (.sc a) Q ts H=Kb C ro cw a (Qcg Q) ts H:=rfl
theorem Xli (o:Operand) (ps:Array Tmp):Kb C ro cw (.f o ps a b) Q ts H=TT C ro (.f o ps a b) Q ts H:=rfl
end
attribute [go_sem] Xle Xlf Xld Xhd Xb9 Qtl Xb8 Xca Xcb Xcc Xlg Xb7 Xlk Xlh Xhc Xli
@[congr] theorem Xlj {C:Ctx} {ro:Option Nat} {cw:CW} {Q:Exit→List V→Qa→Prop} {ts ts':List V} {H H':Qa} {uu:Prop} (h00:(True∧True)=uu) (t:Tr) (h1:ts=ts') (h2:H=H'):Kb C ro cw t Q ts H=Kb C ro cw t Q ts' H':=by rw [h1,h2]
@[congr] theorem Xpv {C:Ctx} {ro:Option Nat} {Q:Exit→List V→Qa→Prop} {ts ts':List V} {H H':Qa} {uu:Prop} (h00:(True∧True)=uu) (t:Tr) (h1:ts=ts') (h2:H=H'):TT C ro t Q ts H=TT C ro t Q ts' H':=by rw [h1,h2]
theorem Qmw {C:Ctx} {ro:Option Nat} (hm:C.P.follows .mixedOrders=true):∀ (c:Code) (Q Q':Exit→List V→Qa→Prop) (ts:List V) (H:Qa),(∀ e ts H,Q e ts H→Q' e ts H)→Kb C ro (cwF C) (Qo C c) Q ts H→T C ro c Q' ts H:=by
 intro c
 induction c with
 | skip=>exact fun Q Q' ts H hq h=>Qe4 (Je C ro) .skip Q' ts H (hq _ _ _ h)
 | ret=>exact fun Q Q' ts H hq h=>Qe4 (Je C ro) .ret Q' ts H (hq _ _ _ h)
 | exit id=>exact fun Q Q' ts H hq h=>Qe4 (Je C ro) (.exit id) Q' ts H (hq _ _ _ h)
 | label l=>exact fun Q Q' ts H hq h=>Qe4 (Je C ro) (.label l) Q' ts H (hq _ _ _ h)
 | goto l=>exact fun Q Q' ts H hq h=>h.elim
 | refuse _=>exact fun Q Q' ts H hq h=>h.elim
 | region id ops b =>
  intro Q Q' ts H hq h;refine T.mono ?_ hq;simp only [Qo] at h;rcases Qcw C ops b with hc0 | ⟨rfl,m,d,n0,t,k,hok,hb1,hb2,hc0⟩ | ⟨rfl,hok,hb1,hc0⟩
  case inr.inr =>
   rw [hc0,Xcc] at h;exact h (.region id ops true) hc0
  case inr.inl =>
   rw [hc0,Xcb] at h;obtain ⟨hd,h⟩:=h;rw [Kg C _ _ _ _ _ _ _ hb1] at h;simp only [Array.toArray_toList,Kg C _ _ _ _ _ _ _ hb2] at h;exact Xpt hm hok hd h
  rw [hc0] at h;simp only [Qju] at h;cases hk:okO (Xl ops.toList ops.toList) with
  | false=>rw [hk] at h;cases b<;>exact h.elim
  | true =>
   have hb:=Qda hk
   rw [hk] at h;cases b with
   | false =>
    simp only [Xb9] at h;rw [Qcx C _ _ _ _ _ _ hb] at h;refine Qe4 (Je C ro) _ _ _ _ ?_;simp only [wp,Array.toArray_toList] at h ⊢;exact h
   | true =>
    simp only at h;rcases Qg8 C ops with hf | ⟨hd,hf⟩
    case inr =>
     rw [hf,Qtl,Kg C _ _ _ _ _ _ _ (Qsv _ _ _ (Qz8 C ops) hb),Array.toArray_toList] at h;exact Xnl hm hd (.refl H) h
    rw [hf] at h;rcases Qex C ops with hc | ⟨hd,hc⟩ | ⟨hd,hc⟩
    ·rw [hc] at h;cases hd:Ko C ops with
     | false=>rw [hd] at h;exact h.elim
     | true =>
      rw [hd,Qtl,Kg C _ _ _ _ _ _ _ hb] at h;rw [Array.toArray_toList] at h;exact Xkj hm hd (.refl H) h
    ·rw [hc,Xb8] at h;obtain ⟨H0,h0,h⟩:=h;rw [Kg C _ _ _ _ _ _ _ hb,Array.toArray_toList] at h;exact Xkj hm hd h0 h
    ·rw [hc,Xca] at h;obtain ⟨H0,h0,h⟩:=h
     have hsp:Xl ops.toList ops.toList=Xl ops.toList ops.toList.dropLast++Xl ops.toList (ops.toList.drop (ops.size - 1)):=by
      rw [← Qcy,List.dropLast_eq_take,Array.length_toList,List.take_append_drop]
     rw [hsp] at hb;rw [Kg C _ _ _ _ _ _ _ (fun h=>hb (List.mem_append_left _ h)),Array.toArray_toList] at h
     refine Xnk hm hd h0 ?_;simp only [Qcx C _ _ _ _ _ _ (fun h=>hb (List.mem_append_right _ h)),Array.toArray_toList] at h
     exact h
 | seq x y ihx ihy =>
  intro Q Q' ts H hq h;refine Xf2 (ihx _ _ ts H (fun e ts H h=>?_) h)
  cases e with
  | normal=>exact ihy _ _ _ _ hq h
  | _=>exact hq _ _ _ h
 | cond o x y ihx ihy =>
  intro Q Q' ts H hq h;simp only [Qo,Xb7,Qe2] at h;split at h
  ·rename_i b hb;exact Xf5 hb (fun e=>ihx _ _ _ _ hq (h.1 e)) (fun e=>ihy _ _ _ _ hq (h.2 e))
  ·exact h.elim
 | block id x ihx =>
  intro Q Q' ts H hq h;refine Qxn (ihx _ _ ts H (fun e ts H h=>?_) h)
  cases e with
  | exit i =>
   simp only [Zs] at h ⊢;split at h
   ·rename_i e1;rw [if_pos e1];exact hq _ _ _ h
   ·rename_i e1;rw [if_neg e1];exact hq _ _ _ h
  | _=>exact hq _ _ _ h
 | scope x ihx =>
  intro Q Q' ts H hq h;refine Qxm (ihx _ _ ts H (fun e ts H h=>?_) h)
  revert h
  cases e<;>simp only [Qcg]<;>first | exact hq _ _ _ | exact id
 | loop x ihx=>exact fun Q Q' ts H hq h=>(h (.loop x) rfl).mono hq
 | rangeFunc o ps x y ihx ihy=>exact fun Q Q' ts H hq h=>(h (.rangeFunc o ps x y) rfl).mono hq
theorem Qw {C:Ctx} {ro:Option Nat} (hm:C.P.follows .mixedOrders=true) {t:Tr} {Q:Exit→List V→Qa→Prop} {ts:List V} {H:Qa} (h:Kb C ro (cwF C) t Q ts H):TT C ro t Q ts H:=fun c hc=>by
 subst hc;exact Qmw hm c Q Q ts H (fun _ _ _ h=>h) h
theorem TT.mono {C:Ctx} {ro:Option Nat} {t:Tr} {Q Q':Exit→List V→Qa→Prop} {ts:List V} {H:Qa} (h:TT C ro t Q ts H) (hq:∀ e ts H,Q e ts H→Q' e ts H):TT C ro t Q' ts H:=fun c hc=>(h c hc).mono hq
theorem Qja {C:Ctx} {c:Code} {a:Tr} (h:Qo C c=.l a):∃ d,c=.loop d∧Qo C d=a:=by
 cases c with
 | loop d=>injection h with h;exact ⟨d,rfl,h⟩
 | region id ops b=>exact ((Qsu C ops b).1 _ h).elim
 | _=>cases h
theorem Qvz {C:Ctx} {c:Code} {o:Operand} {ps:Array Tmp} {a b:Tr} (h:Qo C c=.f o ps a b):∃ x y,c=.rangeFunc o ps x y∧Qo C x=a∧Qo C y=b:=by
 cases c with
 | rangeFunc o' ps' x y=>injection h with h0 h1 h2 h3;subst h0;subst h1;exact ⟨x,y,rfl,h2,h3⟩
 | region id ops b=>exact ((Qsu C ops b).2 _ _ _ _ h).elim
 | _=>cases h
theorem Qg {C:Ctx} {ro:Option Nat} {a:Tr} {Q:Exit→List V→Qa→Prop} (I:Nat→List V→Qa→Prop) (step:∀ n ts H,I n ts H→TT C ro a (Qdk (fun ts' H'=>∃ m,m<n∧I m ts' H') Q) ts H) {n:Nat} {ts:List V} {H:Qa} (h:I n ts H):TT C ro (.l a) Q ts H:=fun c hc=>by
 obtain ⟨d,rfl,hd⟩:=Qja hc;exact Qv2 I (fun n ts H h=>step n ts H h d hd) h
theorem Qf9 {C:Ctx} {ro:Option Nat} {a:Tr} {Q:Exit→List V→Qa→Prop} {ts:List V} {H:Qa} (h:TT C ro a (Qdk (fun _ _=>False) Q) ts H):TT C ro (.l a) Q ts H:=fun c hc=>by
 obtain ⟨d,rfl,hd⟩:=Qja hc;exact Xf4 1 ((h d hd).mono fun e ts H h=>by cases e<;>first | exact h | exact h.elim)
theorem Qv {C:Ctx} {ro:Option Nat} {t:Tr} {Q:Exit→List V→Qa→Prop} {ts:List V} {H:Qa} {N:Nat} (l:List (Nat × V)) (hL:ts.length=N) (hl:∀ p∈l,nth ts p.1=p.2) (h:TT C ro t Q (env N l) H):TT C ro t Q ts H:=fun c hc=>Xki l hL hl (h c hc)
abbrev Pu (C:Ctx) (f:FuncId) (args:List V) (u:V):Prop:=Fc C f args [] fun v H=>v=u∧H=[]
theorem Fc.bodyT {C:Ctx} (hm:C.P.follows .mixedOrders=true) {f:FuncId} {fn:Func} {t:Tr} {args:List V} {H:Qa} {K:V→Qa→Prop} {N:Nat} {rs:List ResultVar} (hf:C.P.funcs[f]?=some fn) (hw:fn.body.map (Qo C)=some t) (hn:(fn.name == "runtime.NumGoroutine")=false) (hN:fn.ntmps=N) (hr:fn.results=rs.toArray) (ha:args.length≤N)
  (h:Kb C none (cwF C) t (Qmj C.ty rs K) (env N (Qa9 0 args)) H):Fc C f args H K:=by
 subst hN;obtain ⟨c,hb,hc⟩:=Option.map_eq_some_iff.1 hw;refine Fc.bodyE hf hb hn ha (Qw hm ?_ c hc);rw [hr];exact h
theorem Qn1 (C:Ctx) (ops:Array Oper) (d:Bool):(∀ a b,Qju C ops d≠.q a b)∧∀ l vs,Qju C ops d≠.A l vs:=by
 constructor<;>intro a b h<;>unfold Qju at h<;>cases h1:okO (Xl ops.toList ops.toList)<;>cases d<;>simp [h1] at h
 all_goals
  rcases Qg8 C ops with h2 | ⟨_,h2⟩
  ·rcases Qex C ops with h3 | ⟨_,h3⟩ | ⟨_,h3⟩<;>rw [h2,h3] at h<;>cases h
  ·rw [h2] at h;cases h
theorem Xnp {C:Ctx} {ro:Option Nat} (hm:C.P.follows .mixedOrders=true) {l:List O2} {vs:List Tmp} {Q:Exit→List V→Qa→Prop} {ts:List V} {H:Qa} (hl:vs.all (fun v=>decide (v<ts.length))=true) (h:Ka C (cwA C) [] l (Q .normal) (Qc5 vs ts) H):TT C ro (.A l vs) Q ts H:=fun c hc=>by
 cases c with
 | region id ops d =>
  have hc:Qp1 C ops d=.A l vs:=hc
  rcases Qcw C ops d with h' | ⟨_,_,_,_,_,_,_,_,_,h'⟩ | ⟨rfl,hok,hb,h'⟩
  ·rw [h'] at hc;exact ((Qn1 C ops d).2 _ _ hc).elim
  ·rw [h'] at hc;cases hc
  ·rw [h'] at hc;injection hc with h1 h2
   subst h1 h2;rw [Kg C _ _ _ _ _ _ _ hb,Array.toArray_toList] at h;exact Xpu hm hok (fun v hv=>of_decide_eq_true (List.all_eq_true.1 hl v hv)) h
 | _=>cases hc
theorem Xm4 (C:Ctx) (t:Nat) (s x:V) (H:Qa) (K:V→Qa→Prop):cwA C (.fn (.func t) [] []) [s,x] H K=chk ((cellsOf x).length=(C.ty (((C.ty t).sl).getD 0)).size) (Qm C.ty .append [t,t] [s,.sl 1 (cellsOf x)] H K):=rfl
theorem Qxs (ts:List V):Qc5 [] ts=ts:=rfl
theorem Qs6 (v:Tmp) (vs:List Tmp) (ts:List V):Qc5 (v::vs) ts=Qc5 vs (upd ts v .any):=rfl
attribute [go_sem] Xm4 Qxs Qs6 Option.getD_some
theorem Xfz {C:Ctx} {c:Code} {a b:Tr} (h:Qo C c=.q a b):∃ x y,c=.seq x y∧Qo C x=a∧Qo C y=b:=by
 cases c with
 | seq x y=>injection h with h1 h2;exact ⟨x,y,rfl,h1,h2⟩
 | region id ops d =>
  exfalso
  have h:Qp1 C ops d=.q a b:=h
  rcases Qcw C ops d with h' | ⟨_,_,_,_,_,_,_,_,_,h'⟩ | ⟨_,_,_,h'⟩
  ·rw [h'] at h;exact (Qn1 C ops d).1 _ _ h
  ·rw [h'] at h;cases h
  ·rw [h'] at h;cases h
 | _=>cases h
theorem Xno {C:Ctx} {ro:Option Nat} (hm:C.P.follows .mixedOrders=true) {a b:Tr} {Q:Exit→List V→Qa→Prop} {ts:List V} {H:Qa} (h:Kb C ro (cwF C) a (Qdk (TT C ro b Q) Q) ts H):TT C ro (.q a b) Q ts H:=fun c hc=>by
 obtain ⟨x,y,rfl,hx,hy⟩:=Xfz hc;subst hx;refine Xf2 (Qmw hm x _ _ ts H (fun e ts H h=>?_) h)
 cases e with
 | normal=>exact h y hy
 | _=>exact h
theorem Fc.bodyTT {C:Ctx} {f:FuncId} {fn:Func} {t:Tr} {args:List V} {H:Qa} {K:V→Qa→Prop} {N:Nat} {rs:List ResultVar} (hf:C.P.funcs[f]?=some fn) (hw:fn.body.map (Qo C)=some t) (hn:(fn.name == "runtime.NumGoroutine")=false) (hN:fn.ntmps=N) (hr:fn.results=rs.toArray) (ha:args.length≤N)
  (h:TT C none t (Qmj C.ty rs K) (env N (Qa9 0 args)) H):Fc C f args H K:=by
 subst hN;obtain ⟨c,hb,hc⟩:=Option.map_eq_some_iff.1 hw;refine Fc.bodyE hf hb hn ha ?_;rw [hr];exact h c hc
end Go.Bv
end
namespace Go.Bv
theorem zDs {P:Prop} (h:P:=by first|omega|(simp only [List.length_set,List.length_append,List.length_cons,List.length_nil];omega)):P:=h
class BrC (b:Bool) (p q:outParam Prop):Prop where
  out:(b=true→p)∧(b=false→q)
instance (priority:=low) {b:Bool}:BrC b (b=true) (b=false):=⟨id,id⟩
instance {p:Prop} [Decidable p]:BrC (decide p) p (¬ p):=⟨of_decide_eq_true,of_decide_eq_false⟩
instance {a b:Int}:BrC (a==b) (a=b) (a≠b):=⟨fun h=>by simpa using h,fun h=>by simpa using h⟩
instance {a b:Int}:BrC (a != b) (a≠b) (a=b):=⟨fun h=>by simpa using h,fun h=>by simpa using h⟩
theorem zBr {b:Bool} {p q X Y:Prop} [i:BrC b p q] (h1:p→X) (h2:q→Y):Br b X Y:=⟨fun h=>h1 (i.out.1 h),fun h=>h2 (i.out.2 h)⟩
theorem zG {P Q:Prop} (q:Q) (h:Q→P:=by first|(intro q;simp -implicitDefEqProofs (maxSteps:=9^7) (disch:=first|exact zDs|fail) only [go_sem];exact q)|(intro q;have _:True:=q;simp -implicitDefEqProofs (maxSteps:=9^7) (disch:=first|exact zDs|fail) only [go_sem];done)|exact id):P:=h q
end Go.Bv
namespace Go.Bv
abbrev Wk (n:Int):Operand:=.const (.int .i64 n)
abbrev Wt:Operand:=.const (.bool true)
abbrev Wo:Operand:=.const (.bool false)
abbrev Wm (a:Nat) (x:Operand):O2:=.n a (.move x)
abbrev Wa (a:Nat) (x:Operand):O2:=.n a (.assign x)
abbrev Wl (a t:Nat) (x:Operand):O2:=.n a (.load t x)
abbrev Wv (a t:Nat):O2:=.n a (.alloc t)
abbrev Wb (a:Nat) (o:BinOp) (t:Nat) (x y:Operand):O2:=.n a (.binOp o t x y t)
abbrev Wc (a f:Nat) (x:Array Operand) (y:Array Nat):O2:=.n a (.call ⟨.value (.func f),x,y⟩)
abbrev Wn (a:Nat) (x:Operand) (t:Nat):O2:=.n a (.call ⟨.builtin .len,#[x],#[t]⟩)
abbrev We (a:Nat) (x:Operand) (k:Nat):O2:=.n a (.extract x k)
abbrev Ws (t:Nat) (x y:Operand):O2:=.z (.store t x y)
abbrev Wf (a t:Nat) (x:Operand) (k:Nat):O2:=.n a (.fieldAddr t x k)
abbrev Wi (a t:Nat) (x y:Operand):O2:=.n a (.indexAddr t x y)
end Go.Bv
namespace Go.Bv
def zT (z:Value) (s b:Nat):Ty:={ z:=z,size:=s,bytes:=b,agg:=false,sl:=none,arr:=none,fs:=[] }
theorem zY {P:Program} {t:TypeId} {y:Ty} {d:TypeDesc} (hd:P.underlying t=some d) (h1:(P.info? t).map (fun i=>(i.zero,i.size,i.bytes))=some (some y.z,y.size,y.bytes):=by kernel_rfl)
    (h2:y.agg=Qpi d:=by exact rfl) (h3:y.sl=Qvc d:=by exact rfl) (h4:y.arr=Qph d:=by exact rfl) (h5:y.fs=Qpg d:=by exact rfl) (h6:y.str=Qpe d:=by exact rfl) (h7:y.ik=Qpf d:=by exact rfl) (h8:y.bl=Qvd d:=by exact rfl)
    (h9:y.agg=false→y.size=1:=by first | exact fun _=>rfl | (intro h;cases h)) (h:y.z.cells.size=y.size:=by exact rfl) (h10:∀ k,y.mpk=some k→∃ e u,P.underlying t=some (.map e u)∧P.underlying e=some (.int k):=by intro k h;cases h):OKt P t y:=⟨h1,⟨d,hd,h2,h3,h4,h5,h6,h7,h8⟩,h9,h,h10⟩
theorem zK {C:Ctx} (hm:C.P.follows .mixedOrders=true) {f:FuncId} {fn:Func} {t:Tr} {args:List V} {Q:V→Qa→Prop} {N:Nat} {rs:List ResultVar} (hf:C.P.funcs[f]?=some fn) (hw:fn.body.map (Qo C)=some t) (hN:fn.ntmps=N) (hr:fn.results=rs.toArray)
    (h:Kb C none (cwF C) t (Qmj C.ty rs fun v H=>∃ sel,Qa7 sel Q v H) (env N (Qa9 0 args)) []) (hn:(fn.name == "runtime.NumGoroutine")=false:=by exact rfl) (ha:args.length≤N:=by exact Nat.le_of_ble_eq_true rfl):Fc C f args [] Q:=Fc.keep (Fc.bodyT hm hf hw hn hN hr ha h)
theorem zL {C:Ctx} (hm:C.P.follows .mixedOrders=true) {f:FuncId} {fn:Func} {t:Tr} {args:List V} {H:Qa} {K:V→Qa→Prop} {N:Nat} {rs:List ResultVar} (hf:C.P.funcs[f]?=some fn) (hw:fn.body.map (Qo C)=some t) (hN:fn.ntmps=N) (hr:fn.results=rs.toArray)
    (h:Kb C none (cwF C) t (Qmj C.ty rs K) (env N (Qa9 0 args)) H) (hn:(fn.name == "runtime.NumGoroutine")=false:=by exact rfl) (ha:args.length≤N:=by exact Nat.le_of_ble_eq_true rfl):Fc C f args H K:=Fc.bodyT hm hf hw hn hN hr ha h
end Go.Bv
namespace Go.Bv
theorem zH1 {A1 P Q:Prop} (a1:A1) (q:Q) (h:A1→Q→P:=by first|(intro a1 q;simp -implicitDefEqProofs (maxSteps:=9^7) (disch:=first|exact zDs|fail) only [go_sem,a1];exact q)|(intro a1 q;have _:True:=q;simp -implicitDefEqProofs (maxSteps:=9^7) (disch:=first|exact zDs|fail) only [go_sem,a1];done)|exact fun _ x=>x):P:=h a1 q
theorem zH2 {A1 A2 P Q:Prop} (a1:A1) (a2:A2) (q:Q) (h:A1→A2→Q→P:=by first|(intro a1 a2 q;simp -implicitDefEqProofs (maxSteps:=9^7) (disch:=first|exact zDs|fail) only [go_sem,a1,a2];exact q)|(intro a1 a2 q;have _:True:=q;simp -implicitDefEqProofs (maxSteps:=9^7) (disch:=first|exact zDs|fail) only [go_sem,a1,a2];done)|exact fun _ _ x=>x):P:=h a1 a2 q
theorem zH3 {A1 A2 A3 P Q:Prop} (a1:A1) (a2:A2) (a3:A3) (q:Q) (h:A1→A2→A3→Q→P:=by first|(intro a1 a2 a3 q;simp -implicitDefEqProofs (maxSteps:=9^7) (disch:=first|exact zDs|fail) only [go_sem,a1,a2,a3];exact q)|(intro a1 a2 a3 q;have _:True:=q;simp -implicitDefEqProofs (maxSteps:=9^7) (disch:=first|exact zDs|fail) only [go_sem,a1,a2,a3];done)|exact fun _ _ _ x=>x):P:=h a1 a2 a3 q
theorem zH4 {A1 A2 A3 A4 P Q:Prop} (a1:A1) (a2:A2) (a3:A3) (a4:A4) (q:Q) (h:A1→A2→A3→A4→Q→P:=by first|(intro a1 a2 a3 a4 q;simp -implicitDefEqProofs (maxSteps:=9^7) (disch:=first|exact zDs|fail) only [go_sem,a1,a2,a3,a4];exact q)|(intro a1 a2 a3 a4 q;have _:True:=q;simp -implicitDefEqProofs (maxSteps:=9^7) (disch:=first|exact zDs|fail) only [go_sem,a1,a2,a3,a4];done)|exact fun _ _ _ _ x=>x):P:=h a1 a2 a3 a4 q
theorem zH5 {A1 A2 A3 A4 A5 P Q:Prop} (a1:A1) (a2:A2) (a3:A3) (a4:A4) (a5:A5) (q:Q) (h:A1→A2→A3→A4→A5→Q→P:=by first|(intro a1 a2 a3 a4 a5 q;simp -implicitDefEqProofs (maxSteps:=9^7) (disch:=first|exact zDs|fail) only [go_sem,a1,a2,a3,a4,a5];exact q)|(intro a1 a2 a3 a4 a5 q;have _:True:=q;simp -implicitDefEqProofs (maxSteps:=9^7) (disch:=first|exact zDs|fail) only [go_sem,a1,a2,a3,a4,a5];done)|exact fun _ _ _ _ _ x=>x):P:=h a1 a2 a3 a4 a5 q
theorem zH6 {A1 A2 A3 A4 A5 A6 P Q:Prop} (a1:A1) (a2:A2) (a3:A3) (a4:A4) (a5:A5) (a6:A6) (q:Q) (h:A1→A2→A3→A4→A5→A6→Q→P:=by first|(intro a1 a2 a3 a4 a5 a6 q;simp -implicitDefEqProofs (maxSteps:=9^7) (disch:=first|exact zDs|fail) only [go_sem,a1,a2,a3,a4,a5,a6];exact q)|(intro a1 a2 a3 a4 a5 a6 q;have _:True:=q;simp -implicitDefEqProofs (maxSteps:=9^7) (disch:=first|exact zDs|fail) only [go_sem,a1,a2,a3,a4,a5,a6];done)|exact fun _ _ _ _ _ _ x=>x):P:=h a1 a2 a3 a4 a5 a6 q
theorem zH7 {A1 A2 A3 A4 A5 A6 A7 P Q:Prop} (a1:A1) (a2:A2) (a3:A3) (a4:A4) (a5:A5) (a6:A6) (a7:A7) (q:Q) (h:A1→A2→A3→A4→A5→A6→A7→Q→P:=by first|(intro a1 a2 a3 a4 a5 a6 a7 q;simp -implicitDefEqProofs (maxSteps:=9^7) (disch:=first|exact zDs|fail) only [go_sem,a1,a2,a3,a4,a5,a6,a7];exact q)|(intro a1 a2 a3 a4 a5 a6 a7 q;have _:True:=q;simp -implicitDefEqProofs (maxSteps:=9^7) (disch:=first|exact zDs|fail) only [go_sem,a1,a2,a3,a4,a5,a6,a7];done)|exact fun _ _ _ _ _ _ _ x=>x):P:=h a1 a2 a3 a4 a5 a6 a7 q
theorem zH8 {A1 A2 A3 A4 A5 A6 A7 A8 P Q:Prop} (a1:A1) (a2:A2) (a3:A3) (a4:A4) (a5:A5) (a6:A6) (a7:A7) (a8:A8) (q:Q) (h:A1→A2→A3→A4→A5→A6→A7→A8→Q→P:=by first|(intro a1 a2 a3 a4 a5 a6 a7 a8 q;simp -implicitDefEqProofs (maxSteps:=9^7) (disch:=first|exact zDs|fail) only [go_sem,a1,a2,a3,a4,a5,a6,a7,a8];exact q)|(intro a1 a2 a3 a4 a5 a6 a7 a8 q;have _:True:=q;simp -implicitDefEqProofs (maxSteps:=9^7) (disch:=first|exact zDs|fail) only [go_sem,a1,a2,a3,a4,a5,a6,a7,a8];done)|exact fun _ _ _ _ _ _ _ _ x=>x):P:=h a1 a2 a3 a4 a5 a6 a7 a8 q
end Go.Bv
section
namespace Go.Bv
open Go.RowKit
theorem Qyf (H l:Qa):Qc (H++l) H.length=Qc l 0:=by
 have:(H++l)[H.length]?=l[0]?:=by rw [List.getElem?_append_right (Nat.le_refl _),Nat.sub_self]
 simp only [Qc,this]
theorem Xce (H l:Qa) (k:Nat):Qc (H++l) (H.length+k)=Qc l k:=by
 have:(H++l)[H.length+k]?=l[k]?:=by rw [List.getElem?_append_right (by omega),Nat.add_sub_cancel_left]
 simp only [Qc,this]
theorem Qwn (H l:Qa) (x:Option Row):(H++l).set H.length x=H++l.set 0 x:=by simp [List.set_append]
theorem Xkz (H l:Qa) (k:Nat) (x:Option Row):(H++l).set (H.length+k) x=H++l.set k x:=by simp [List.set_append]
theorem Qrq (H l:Qa):(H++l).length=H.length+l.length:=by simp
attribute [go_sem] Qyf Xce Qwn Xkz Qrq List.append_assoc List.set_cons_zero List.set_cons_succ Nat.add_assoc
theorem Xji (t:TypeId) (x:V) (H:Qa) (K:V→Qa→Prop):Xan t x H K=(kn x=true∧K (.ptr H.length 0) (H++[some ⟨t,(cellsOf x).length,cellsOf x⟩])):=rfl
attribute [go_sem] Xji List.getElem?_cons_zero List.getElem?_cons_succ
theorem Qh {u v:V} {H:Qa} (hg:∀ g,ren g v=v) (h:v=u):∃ sel,Qa7 sel (fun v H=>v=u∧H=[]) v H :=
 ⟨[],by simp,by simp,by rw [hg];exact ⟨h,rfl⟩⟩
theorem Qsr (y:Ty) (e:TypeId) (m:Nat) (cs:List V) (H:Qa) (K:V→Qa→Prop):Qaa y e .nil (.sl m cs) H K=chk (cs.length=m*y.size∧cs.all Yc=true∧0<y.size∧0<y.bytes∧m*y.bytes≤140737488355328) (K (.ref H.length 0 m) (H++[some ⟨e,y.size,cs⟩])):=by
 simp [Qaa,Jo,chk,and_assoc]
theorem Xbe (xs:List Int) (i:Nat) (v:Int):upd (ints xs) i (.int .i64 v)=ints (xs.set i v):=by
 induction xs generalizing i with
 | nil=>rfl
 | cons a l ih =>
  cases i with
  | zero=>rfl
  | succ i=>show V.int .i64 a::upd (ints l) i _=_;rw [ih];rfl
theorem getD_set_eq {l:List Int} {i:Nat} (v:Int) (h:i<l.length):(l.set i v).getD i 0=v:=by simp [List.getD,h]
theorem getD_set_ne {l:List Int} {i j:Nat} (v:Int) (h:j≠i):(l.set i v).getD j 0=l.getD j 0:=by simp [List.getD,List.getElem?_set_ne (Ne.symm h)]
attribute [go_sem] Qsr Xbe List.length_set List.set_set getD_set_eq
def Yx (l:List (List Int)):List V:=l.map fun s=>.sl s.length (ints s)
theorem Qo0 (l:List (List Int)):(Yx l).length=l.length:=by simp [Yx]
theorem Qzj (l:List (List Int)) (i:Nat) (h:i<l.length):nth (Yx l) i=.sl (l.getD i []).length (ints (l.getD i [])):=by
 rw [Xo];simp [Yx,List.getD,List.getElem?_map,List.getElem?_eq_getElem h]
theorem Qi (l:List (List Int)):Qf (Yx l)=true:=by rw [Qlu];simp [Yx,clo,Qb]
theorem Qtn (g:Nat→Option Nat) (l:List (List Int)):Qe g (Yx l)=Yx l:=by rw [Qhk];simp [Yx,ren,Qn]
theorem Qgx (l:List (List Int)):(Yx l).all Yc=true:=by simp [Yx,Yc]
theorem Qo1 (l m:List (List Int)):Yx (l++m)=Yx l++Yx m:=by simp [Yx]
attribute [go_sem] Qo0 Qzj Qi Qtn Qgx
def Keep (H H':Qa):Prop:=∀ r row,Qc H r=some row→Qc H' r=some row
theorem Keep.refl (H:Qa):Keep H H:=fun _ _ h=>h
theorem Keep.app (H X:Qa):Keep H (H++X):=fun _ _ h=>Ql h X
theorem Keep.trans {H H1 H2:Qa} (h:Keep H H1) (k:Keep H1 H2):Keep H H2:=fun r row hr=>k r row (h r row hr)
theorem Own.kept {e s:Nat} {H H':Qa} {v:V} {n:Nat} {cs:List V} (h:Own e s H v n cs) (k:Keep H H'):Own e s H' v n cs:=by
 rcases h with h | ⟨r,h1,h2,h3⟩
 ·exact .inl h
 ·exact .inr ⟨r,h1,k _ _ h2,h3⟩
def IsL (e s:Nat) (H:Qa) (v:V) (n:Nat) (cs:List V):Prop:=v=.sl n cs∨Own e s H v n cs
theorem IsL.kept {e s:Nat} {H H':Qa} {v:V} {n:Nat} {cs:List V} (h:IsL e s H v n cs) (k:Keep H H'):IsL e s H' v n cs:=h.imp id (·.kept k)
theorem IsL.lenw {e s:Nat} {H:Qa} {v:V} {n:Nat} {cs:List V} (h:IsL e s H v n cs) (y:Ty) (KP:V→Prop):lenw y v KP=(y.sl.isSome=true∧KP (.int .i64 n)):=by
 rcases h with rfl | ⟨rfl,rfl,rfl⟩ | ⟨r,rfl,_,_⟩<;>rfl
theorem Own.lenw {e s:Nat} {H:Qa} {v:V} {n:Nat} {cs:List V} (h:Own e s H v n cs) (y:Ty) (KP:V→Prop):lenw y v KP=(y.sl.isSome=true∧KP (.int .i64 n)):=IsL.lenw (.inr h) y KP
theorem Own.bor' {e s:Nat} {H:Qa} {v:V} {n:Nat} {cs:List V} (h:Own e s H v n cs) (hc:Qf cs=true):Bor H v (.sl n cs):=by
 rcases h with ⟨rfl,rfl,rfl⟩ | ⟨r,rfl,h2,h3⟩
 ·exact .nil _
 ·exact .ref r 0 n _ cs h2 (by simp) fun j hj=>by simpa using .clo _ (Ys hc j)
theorem IsL.bor {e s:Nat} {H:Qa} {v:V} {n:Nat} {cs:List V} (h:IsL e s H v n cs) (hc:Qf cs=true):Bor H v (.sl n cs):=by
 rcases h with rfl | h
 ·exact .clo _ (by simpa [clo] using hc)
 ·exact h.bor' hc
def RetL (e s:Nat) (H:Qa) (v:V) (n:Nat) (cs:List V):Prop:=(v=.sl n cs∧H=[])∨Ret e s H v n cs
theorem IsL.ret {e s:Nat} {H:Qa} {v:V} {n:Nat} {cs:List V} (h:IsL e s H v n cs) (hc:∀ g,Qe g cs=cs) {Q:V→Qa→Prop} (hQ:∀ v H,RetL e s H v n cs→Q v H):∃ sel,Qa7 sel Q v H:=by
 rcases h with rfl | h
 ·exact ⟨[],by simp,by simp,hQ _ _ (.inl ⟨by simp [ren,hc],rfl⟩)⟩
 ·exact h.ret hc fun v H h=>hQ v H (.inr h)
theorem IsL.ret2 {e s:Nat} {H:Qa} {v:V} {n:Nat} {cs:List V} (h:IsL e s H v n cs) (hc:∀ g,Qe g cs=cs) {u:V} (hu:∀ g,ren g u=u) {Q:V→Qa→Prop} (hQ:∀ v H,RetL e s H v n cs→Q (.tup [v,u]) H):∃ sel,Qa7 sel Q (.tup [v,u]) H:=by
 rcases h with rfl | h
 ·exact ⟨[],by simp,by simp,by have:=hQ (.sl n cs) [] (.inl ⟨rfl,rfl⟩);simpa [ren,Qe,hc,hu,Qbc] using this⟩
 ·exact h.ret2 hc hu fun v H h=>hQ v H (.inr h)
def Xnt (e s:Nat) (H:Qa) (v:V) (n:Nat) (cs:List V) (u:V):Prop:=∃ w,v=.tup [w,u]∧RetL e s H w n cs
theorem Fc.own {C:Ctx} {f:FuncId} {args:List V} {H:Qa} {K:V→Qa→Prop} {e s n:Nat} {cs:List V} (h:Fc C f args [] fun v H=>Ret e s H v n cs) (ha:Qf args=true) (hc:∀ g,Qe g cs=cs) (hK:∀ v X,Own e s (H++X) v n cs→K v (H++X)):Fc C f args H K :=
 h.call ha fun v H' hv=>hK _ _ (hv.own hc)
theorem RetL.isL {e s:Nat} {H H':Qa} {v:V} {n:Nat} {cs:List V} (h:RetL e s H' v n cs) (hc:∀ g,Qe g cs=cs):IsL e s (H++Qbs (shift H.length) H') (ren (shift H.length) v) n cs:=by
 rcases h with ⟨rfl,rfl⟩ | h
 ·exact .inl (by simp [ren,hc])
 ·exact .inr (h.own hc)
theorem Fc.isL {C:Ctx} {f:FuncId} {args:List V} {H:Qa} {K:V→Qa→Prop} {e s n:Nat} {cs:List V} (h:Fc C f args [] fun v H=>RetL e s H v n cs) (ha:Qf args=true) (hc:∀ g,Qe g cs=cs) (hK:∀ v X,IsL e s (H++X) v n cs→K v (H++X)):Fc C f args H K :=
 h.call ha fun v H' hv=>hK _ _ (hv.isL hc)
theorem Fc.two {C:Ctx} {f:FuncId} {args:List V} {H:Qa} {K:V→Qa→Prop} {e s n:Nat} {cs:List V} {u:V} (h:Fc C f args [] fun v H=>Xnt e s H v n cs u) (ha:Qf args=true) (hc:∀ g,Qe g cs=cs) (hu:∀ g,ren g u=u) (hK:∀ v X,IsL e s (H++X) v n cs→K (.tup [v,u]) (H++X)):Fc C f args H K :=
 h.call ha fun v H' hv=>by
  obtain ⟨w,rfl,hv⟩:=hv
  have:=hK _ _ (hv.isL (H:=H) hc)
  simpa [ren,Qe,hu] using this
theorem IsL.two {e s:Nat} {H:Qa} {v:V} {n:Nat} {cs:List V} (h:IsL e s H v n cs) (hc:∀ g,Qe g cs=cs) {u:V} (hu:∀ g,ren g u=u):∃ sel,Qa7 sel (fun v H=>Xnt e s H v n cs u) (.tup [v,u]) H :=
 h.ret2 hc hu fun v H h=>⟨v,rfl,h⟩
def BorL (H:Qa):List V→List V→Prop
 | [],[]=>True
 | a::l,b::m=>Bor H a b∧BorL H l m
 | _,_=>False
theorem BorL.all {H:Qa}:∀ {l m:List V},BorL H l m→l.length=m.length∧∀ j,Bor H (nth l j) (nth m j)
 | [],[],_=>⟨rfl,fun j=>by simp [nth];exact .clo _ rfl⟩
 | a::l,b::m,h=>by
  obtain ⟨h1,h2⟩:=BorL.all h.2;refine ⟨by simp [h1],fun j=>?_⟩
  cases j with
  | zero=>exact h.1
  | succ j=>exact h2 j
 | [],_::_,h=>h.elim
 | _::_,[],h=>h.elim
theorem Fc.pureL {C:Ctx} {f:FuncId} {args args':List V} {H:Qa} {u:V} {K:V→Qa→Prop} (h:Fc C f args' [] fun v H=>v=u∧H=[]) (hb:BorL H args args') (hu:∀ g,ren g u=u) (hp:plain u=true) (hK:K u H):Fc C f args H K :=
 h.pureB hb.all.1 hb.all.2 hu hp hK
theorem Fc.ownL {C:Ctx} {f:FuncId} {args args':List V} {H:Qa} {K:V→Qa→Prop} {e s n:Nat} {cs:List V} (h:Fc C f args' [] fun v H=>Ret e s H v n cs) (hb:BorL H args args') (hc:∀ g,Qe g cs=cs) (hp:Xd cs=true) (hK:∀ v X,Own e s (H++X) v n cs→K v (H++X)):Fc C f args H K :=
 h.borrow hb.all.1 hb.all.2 (fun v H' hv=>hv.plain hp) fun v H' hv=>hK _ _ (hv.own hc)
theorem Bor.self {H:Qa} {v:V} (h:Bv.clo v=true):Bor H v v:=.clo v h
theorem Pc.pureL {C:Ctx} {H0:Qa} {f:FuncId} {args args':List V} {H:Qa} {u:V} {K:V→Qa→Prop} (h:Fc C f args' [] fun v H=>v=u∧H=[]) (hb:BorL H args args') (hu:∀ g,ren g u=u) (hp:plain u=true) (hK:K u H):Pc C H0 f args H K:=by
 refine Pc.borrow h ⟨u,[],rfl,rfl⟩ hb.all.1 hb.all.2 ?_ ?_
 ·rintro v H' ⟨rfl,rfl⟩;exact ⟨hp,fun r row hr=>by simp at hr⟩
 ·rintro v H' ⟨rfl,rfl⟩;simpa [hu,Qbs] using hK
mutual
def sz (r:Nat) (cs:List V):V→V
 | .any=>.any
 | .int k n=>.int k n
 | .bool b=>.bool b
 | .str s=>.str s
 | .nil=>.nil
 | .sl n l=>.sl n (szL r cs l)
 | .ref q off n=>if q=r then .sl n (cs.drop off) else .ref q off n
 | .agg l=>.agg (szL r cs l)
 | .tup l=>.tup (szL r cs l)
 | .ptr q off=>if q=r then .rp cs off else .ptr q off
 | .nilp=>.nilp
 | .rp l off=>.rp (szL r cs l) off
 | .fn f xs ys=>.fn f (szL r cs xs) (szL r cs ys)
 | .nilf=>.nilf
 | .mp k ks vs=>.mp k ks (szL r cs vs)
def szL (r:Nat) (cs:List V):List V→List V
 | []=>[]
 | v::l=>sz r cs v::szL r cs l
end
theorem Jl (r:Nat) (cs l:List V):(szL r cs l).length=l.length:=by
 induction l with
 | nil=>rfl
 | cons a l ih=>simp [szL,ih]
theorem Kk (r:Nat) (cs l:List V) (j:Nat):nth (szL r cs l) j=sz r cs (nth l j):=by
 induction l generalizing j with
 | nil=>simp [szL,nth,sz]
 | cons a l ih=>cases j<;>simp [szL,nth,ih]
theorem Qcb {im:Nat→Prop} {pl:Nat→Place} {w:World} {H:Qa} (hH:HR im pl w H) {r:Nat} {e s:Nat} {cs:List V} (hrow:Qc H r=some ⟨e,s,cs⟩) (hcs:Qf cs=true) :
  ∃ im1,HR im1 (Qat pl r .dead) w (H.set r none)∧Ext im pl w im1 (Qat pl r .dead) w∧(∀ b,im1 b→im b∨∃ q cap,pl q=.at b cap)∧∀ v c,VR im pl w v c→VR im1 (Qat pl r .dead) w (sz r cs v) c:=by
 have hr:=Xh hrow
 have hlt:=Xt hrow
 let im1:Nat→Prop:=fun b=>im b∨∃ cap,pl r=.at b cap
 have hE:Ext im pl w im1 (Qat pl r .dead) w:=by
  refine ⟨rfl,rfl,rfl,Nat.le_refl _,fun b hb=>.inl hb,fun b hb=>?_,fun q hq=>?_,fun q b cap hq=>.inl ?_,fun _ _ _=>rfl⟩
  ·rcases hb with hb | ⟨cap,hb⟩
   ·exact .inl hb
   ·exact .inr (.inr ⟨r,cap,hb⟩)
  ·by_cases e:q=r
   ·subst e;exact .inr (Qu ..)
   ·exact .inl (Qq _ _ _ _ e)
  ·by_cases e:q=r
   ·subst e;rw [Qu] at hq;cases hq
   ·rw [Qq _ _ _ _ e] at hq;exact ⟨q,cap,hq⟩
 have hat:∀ q b cap,Qat pl r .dead q=.at b cap→q≠r∧pl q=.at b cap:=fun q b cap hq=>by
  by_cases e:q=r
  ·subst e;rw [Qu] at hq;cases hq
  ·rw [Qq _ _ _ _ e] at hq;exact ⟨e,hq⟩
 have hH1:HR im1 (Qat pl r .dead) w (H.set r none):=by
  refine ⟨fun q=>?_,fun b hb q cap hq=>?_,fun q b cap hq=>hH.bound q b cap (hat q b cap hq).2,fun b hb=>?_,fun q q' b c c' h1 h2=>hH.inj q q' b c c' (hat _ _ _ h1).2 (hat _ _ _ h2).2,fun q hq=>?_,fun q hq=>?_,fun q b cap hq=>?_⟩
  ·rw [List.length_set,hH.len];by_cases e:q=r
   ·subst e;rw [Qu];simp;exact (hH.len q).1 hlt
   ·rw [Qq _ _ _ _ e]
  ·obtain ⟨hne,hq⟩:=hat q b cap hq;rcases hb with hb | ⟨cap',hb⟩
   ·exact hH.apart b hb q cap hq
   ·exact hne (hH.inj q r b cap cap' hq hb)
  ·rcases hb with hb | ⟨cap',hb⟩
   ·exact hH.imb b hb
   ·exact hH.bound r b cap' hb
  ·by_cases e:q=r
   ·subst e;rw [List.getElem?_set_self hlt]
   ·rw [Qq _ _ _ _ e] at hq;rw [List.getElem?_set_ne (Ne.symm e)];exact hH.dead q hq
  ·by_cases e:q=r
   ·subst e;rw [Qu] at hq;cases hq
   ·rw [Qq _ _ _ _ e] at hq;rw [List.getElem?_set_ne (Ne.symm e)];exact hH.virt q hq
  ·obtain ⟨hne,hq⟩:=hat q b cap hq;obtain ⟨e,s,cs,cur,k1,k2,k3,k4,k5,k6⟩:=hH.row q b cap hq;exact ⟨e,s,cs,cur,by rw [List.getElem?_set_ne (Ne.symm hne)];exact k1,k2,k3,k4,k5,fun j=>(k6 j).mono hE hH.apart⟩
 refine ⟨im1,hH1,hE,fun b hb=>hb.imp id fun ⟨cap,h⟩=>⟨r,cap,h⟩,fun v c hv=>?_⟩
 induction hv with
 | any v=>exact .any v
 | int k n=>exact .int k n
 | bool b=>exact .bool b
 | str s=>exact .str s
 | nil=>exact .nil
 | sl0 l a c=>exact .sl0 _ a c
 | sl n l ad c vs hn hi hc hr ih=>exact .sl n _ ad c vs hn (.inl hi) (fun j hj=>hc j (by rwa [Jl] at hj)) (fun j=>by rw [Kk];exact ih j)
 | refAt q off n b cap c hp hc h0 =>
  simp only [sz];split
  ·rename_i e1;subst e1;obtain ⟨e',s',cs0,cur,k1,k2,k3,k4,k5,k6⟩:=hH.row q b cap hp;rw [hr] at k1;injection k1 with k1
   injection k1 with k1
   injection k1 with q1 q2 q3
   subst q3;refine .sl n _ _ c (fun j=>cur.getD (off+j) undef) hc (.inr ⟨cap,hp⟩) (fun i hi=>?_) (fun i=>?_)
   ·rw [Zl]
    have:off+i<cs.length:=by rw [List.length_drop] at hi;omega
    exact Zw k2 (by omega)
   ·rw [Qfc];exact ((k6 _).clo (Ys hcs _)).mono (Ext.mk rfl rfl rfl (Nat.le_refl _) (fun b hb=>.inl hb) (fun b hb=>hE.imn b hb) hE.plo hE.pln hE.frame) hH.apart
  ·rename_i e1;exact .refAt q off n b cap c (by rw [Qq _ _ _ _ e1];exact hp) hc h0
 | refVirt q hp =>
  simp only [sz];split
  ·exact .sl0 _ _ _
  ·rename_i e1;exact .refVirt q (by rw [Qq _ _ _ _ e1];exact hp)
 | refDead q off n a c hp =>
  simp only [sz];split
  ·rename_i e1;subst e1;have:=hH.dead q hp;rw [hr] at this;cases this
  ·rename_i e1;exact .refDead q off n a c (by rw [Qq _ _ _ _ e1];exact hp)
 | agg l vs hl hr ih=>exact .agg _ vs (by rw [Jl];exact hl) (fun j=>by rw [Kk];exact ih j)
 | tup l vs hl hr ih=>exact .tup _ vs (by rw [Jl];exact hl) (fun j=>by rw [Kk];exact ih j)
 | ptrAt q off b cap hp =>
  simp only [sz];split
  ·rename_i e1;subst e1;obtain ⟨e',s',cs0,cur,k1,k2,k3,k4,k5,k6⟩:=hH.row q b cap hp;rw [hr] at k1;injection k1 with k1
   injection k1 with k1
   injection k1 with q1 q2 q3
   subst q3
   have:=VR.rp (im:=im1) (pl:=Qat pl q .dead) (w:=w) cs off ⟨b,0,none⟩ (fun j=>cur.getD j undef) (.inr ⟨cap,hp⟩) (fun j hj=>by
    rw [Zl,Nat.zero_add];exact Zw k2 (by omega)) (fun j=>(k6 j).mono hE hH.apart)
   rwa [Zl,Nat.zero_add] at this
  ·rename_i e1;exact .ptrAt q off b cap (by rw [Qq _ _ _ _ e1];exact hp)
 | ptrDead q off a hp =>
  simp only [sz];split
  ·rename_i e1;subst e1;have:=hH.dead q hp;rw [hr] at this;cases this
  ·rename_i e1;exact .ptrDead q off a (by rw [Qq _ _ _ _ e1];exact hp)
 | nilp=>exact .nilp
 | rp l off ad vs hi hc hr ih=>exact .rp _ off ad vs (.inl hi) (fun j hj=>hc j (by rwa [Jl] at hj)) (fun j=>by rw [Kk];exact ih j)
 | fn f xs ys us vs hl hr hl' hr' ih ih'=>exact .fn f _ _ us vs (by rw [Jl];exact hl) (fun j=>by rw [Kk];exact ih j) (by rw [Jl];exact hl') (fun j=>by rw [Kk];exact ih' j)
 | nilf=>exact .nilf
 | mp k ks l b es clock vs hi hb hf hr ih=>exact .mp k ks _ b es clock vs (.inl hi) hb hf (fun j=>by rw [Kk];exact ih j)
theorem Fc.sealed {C:Ctx} {f:FuncId} {args:List V} {H:Qa} {K:V→Qa→Prop} {r:Nat} {e s:Nat} {cs:List V} (hrow:Qc H r=some ⟨e,s,cs⟩) (hcs:Qf cs=true) (h:Fc C f (szL r cs args) (H.set r none) K):Fc C f args H K:=by
 refine ⟨h.1,fun im pl w vs hvl hv hH=>?_⟩
 obtain ⟨im1,h1,h2,_,h3⟩:=Qcb hH hrow hcs
 have hcall:=h.2 im1 (Qat pl r .dead) w vs (by rw [Jl];exact hvl) (fun j=>by rw [Kk];exact h3 _ _ (hv j)) h1
 refine (callsIn_wide (n:=0)).1 ((callsIn_wide.2 hcall).mono fun e w' hp=>?_)
 cases e with
 | panicked _=>exact hp
 | outgrown=>exact hp
 | returned vc =>
  obtain ⟨v,H',im',pl',k1,k2,k3,k4⟩:=hp;exact ⟨v,H',im',pl',k1,k2,k3,h2.trans k4⟩
theorem Fc.sealR {C:Ctx} {f:FuncId} {args:List V} {H:Qa} {K:V→Qa→Prop} (h:Fc C f args H fun v H'=>∃ r e s cs,Qc H' r=some ⟨e,s,cs⟩∧Qf cs=true∧K (sz r cs v) (H'.set r none)):Fc C f args H K:=by
 refine ⟨h.1,fun im pl w vs hvl hv hH=>?_⟩
 refine (callsIn_wide (n:=0)).1 ((callsIn_wide.2 (h.2 im pl w vs hvl hv hH)).mono fun e w' hp=>?_)
 cases e with
 | panicked _=>exact hp
 | outgrown=>exact hp
 | returned vc =>
  obtain ⟨v,H',im',pl',⟨r,e,s,cs,hrow,hcs,hK⟩,k2,k3,k4⟩:=hp;obtain ⟨im1,h1,h2,_,h3⟩:=Qcb k3 hrow hcs;exact ⟨_,_,im1,_,hK,h3 _ _ k2,h1,k4.trans h2⟩
theorem Xni {C:Ctx} {ro:Option Nat} {c:Code} {Q:Exit→List V→Qa→Prop} {ts:List V} {H:Qa} {r:Nat} {e s:Nat} {cs:List V} (hrow:Qc H r=some ⟨e,s,cs⟩) (hcs:Qf cs=true) (h:T C ro c Q (szL r cs ts) (H.set r none)):T C ro c Q ts H:=by
 intro im pl w a hr;obtain ⟨im1,h1,h2,_,h3⟩:=Qcb hr.hr hrow hcs;refine wpIn_mono (h im1 (Qat pl r .dead) w a ⟨⟨by rw [Jl];exact hr.tr.1,fun i=>by rw [Kk];exact h3 _ _ (hr.tr.2 i)⟩,h1,hr.df.mono h2⟩) fun e a' w' hp=>?_
 exact hp.from h2 (.refl _ _)
theorem Qkd {C:Ctx} {ro:Option Nat} {t:Tr} {Q:Exit→List V→Qa→Prop} {ts:List V} {H:Qa} {r:Nat} {e s:Nat} {cs:List V} (hrow:Qc H r=some ⟨e,s,cs⟩) (hcs:Qf cs=true) (h:TT C ro t Q (szL r cs ts) (H.set r none)):TT C ro t Q ts H:=fun c hc=>Xni hrow hcs (h c hc)
theorem Qj6 (r:Nat) (cs:List V) (N:Nat) (l:List (Nat × V)):szL r cs (env N l)=env N (l.map fun p=>(p.1,sz r cs p.2)):=by
 refine Qfz (by rw [Jl,Zr,Zr]) fun j=>?_
 rw [Kk,Qdb,Qdb];unfold cif;split
 ·induction l with
  | nil=>simp [Qrm,sz]
  | cons p l ih =>
   obtain ⟨i,v⟩:=p;simp only [List.map_cons,Qf0];cases hb:(i==j) with
   | true=>rfl
   | false=>exact ih
 ·simp [sz]
theorem Fc.val {C:Ctx} {f:FuncId} {args:List V} {Q:V→Qa→Prop} {u:V} (hu:clo u=true) (h:Fc C f args [] Q)
  (hv:∀ im pl w v H c,Q v H→VR im pl w v c→HR im pl w H→∃ im1 pl1 H1,HR im1 pl1 w H1∧Ext im pl w im1 pl1 w∧VR im1 pl1 w u c):Pu C f args u:=by
 refine ⟨h.1,fun im pl w vs hl hvs hH=>?_⟩
 have hno:pl=Kw:=by
  funext r
  have:=hH.len r
  cases hp:pl r with
  | no=>rfl
  | _=>rw [hp] at this;simp at this
 subst hno;refine (callsIn_wide (n:=0)).1 ((callsIn_wide.2 (h.2 im Kw w vs hl hvs hH)).mono fun e w' hp=>?_)
 cases e with
 | panicked _=>exact hp
 | outgrown=>exact hp
 | returned vc =>
  obtain ⟨v,H',im',pl',k1,k2,k3,k4⟩:=hp;obtain ⟨im1,pl1,H1,q1,q2,q3⟩:=hv _ _ _ _ _ _ k1 k2 k3
  have:=q1.sel (k4.trans q2) [] (by simp) (by simp)
  exact ⟨u,[],im1,_,⟨rfl,rfl⟩,q3.clo hu,this.1,this.2⟩
theorem RetL.val {e s n:Nat} {cs:List V} {v:V} {H:Qa} (h:RetL e s H v n cs) (hc:Qf cs=true) {im:Nat→Prop} {pl:Nat→Place} {w:World} (hH:HR im pl w H) :
  ∃ im1 pl1 H1,HR im1 pl1 w H1∧Ext im pl w im1 pl1 w∧(∀ c,VR im pl w v c→VR im1 pl1 w (.sl n cs) c)∧∀ u c,clo u=true→VR im pl w u c→VR im1 pl1 w u c:=by
 rcases h with ⟨rfl,rfl⟩ | ⟨rfl,rfl,rfl,rfl⟩ | ⟨rfl,rfl,hl⟩
 ·exact ⟨im,pl,[],hH,.refl _ _ _,fun c hv=>hv,fun u c _ hv=>hv⟩
 ·exact ⟨im,pl,[],hH,.refl _ _ _,fun c hv=>by cases hv;exact .sl0 _ _ _,fun u c _ hv=>hv⟩
 ·obtain ⟨im1,h1,h2,_,h3⟩:=Qcb hH (r:=0) (by rfl) hc
  refine ⟨im1,_,_,h1,h2,fun c hv=>?_,fun u c _ hv=>hv.mono h2 hH.apart⟩
  have:=h3 _ _ hv
  simpa [sz] using this
end Go.Bv
end
section
namespace Go.Bv
open Go.RowKit
structure Grow (w w':World):Prop where
 os:w'.os=w.os
 tape:w'.tape=w.tape
 output:w'.output=w.output
 size:w.heap.size≤w'.heap.size
 keep:∀ b,b<w.heap.size→w'.heap[b]?=w.heap[b]?
structure Chg (F:Nat→Prop) (w:World) (F':Nat→Prop) (w':World):Prop where
 size:w.heap.size≤w'.heap.size
 keep:∀ b,b<w.heap.size→¬ F b→w'.heap[b]?=w.heap[b]?
 new:∀ b,F' b→F b∨w.heap.size≤b
abbrev JT:=Nat→(Nat→Prop)→World→Prop
structure JOK (G:Nat→Prop) (J:JT):Prop where
 good:∀ k F w,J k F w→∀ b,w.heap.size≤b→G b
 lt:∀ k F w,J k F w→∀ b,F b→b<w.heap.size
 grow:∀ k F w w',J k F w→Grow w w'→J k F w'
abbrev Bnd (G im F:Nat→Prop) (w:World):Prop:=∀ b,im b→(b<w.heap.size∧¬ F b)∧G b
def Ql8 (C:Ctx) (G:Nat→Prop) (l:Nat) (xs:List (List V)) (J:JT):Prop :=
 ∀ k F w aS im (vs:List Value),J k F w→xs[k]?=some aS→aS.length=vs.length→Bnd G im F w→(∀ j,VR im Kw w (nth aS j) (vs.getD j undef)) →
  YieldAt (FW none) 0 C.P l vs.toArray w fun e W'=>∃ b F',e=.returned (.bool b)∧J (if b=true then k+1 else xs.length+1) F' W'∧Chg F w F' W'
def Gen (C:Ctx) (g:FuncId) (lb:List V) (xs:List (List V)):Prop :=
 Qxp C.P g∧(∀ aS∈xs,Qf aS=true)∧∀ (G im F:Nat→Prop) (w:World) (lbv:List Value) (l:Nat) (J:JT),lb.length=lbv.length→(∀ j,VR im Kw w (nth lb j) (lbv.getD j undef))→Bnd G im F w→JOK G J→Ql8 C G l xs J→J 0 F w →
  Calls C.P g ([Value.func (.yield l) #[] #[]]++lbv).toArray w fun e W'=>(∃ v,e=.returned v)∧∃ k F',(k=xs.length∨k=xs.length+1)∧J k F' W'
def dk (k:Nat):Nat→Place:=fun r=>if r<k then .dead else .no
theorem Qec {k r b cap:Nat}:dk k r≠.at b cap:=by unfold dk;split<;>simp
theorem Xkd {G im F:Nat→Prop} {w:World} (h:Bnd G im F w) (k:Nat):HR im (dk k) w (List.replicate k none):=by
 refine ⟨fun r=>?_,fun b hb r cap=>Qec,fun r b cap h=>(Qec h).elim,fun b hb=>(h b hb).1.1,fun r r' b c c' h=>(Qec h).elim,fun r hr=>?_,fun r hr=>?_,fun r b cap h=>(Qec h).elim⟩
 ·simp only [List.length_replicate,dk];split<;>simp [*]
 ·unfold dk at hr;split at hr
  ·rename_i hlt;simp [hlt]
  ·cases hr
 ·unfold dk at hr;split at hr<;>cases hr
theorem Xmz {im:Nat→Prop} {w:World} {k m:Nat} (h:k≤m):Ext im (dk k) w im (dk m) w:=by
 refine ⟨rfl,rfl,rfl,Nat.le_refl _,fun b hb=>hb,fun b hb=>.inl hb,fun r hr=>.inl ?_,fun r b cap h=>(Qec h).elim,fun _ _ _=>rfl⟩
 unfold dk at hr ⊢;split at hr
 ·rw [if_pos (by omega),if_pos (by omega)]
 ·exact (hr rfl).elim
structure InvY (G:Nat→Prop) (J:JT) (ts:List V) (H:Qa) (a:Act) (w:World):Prop where
 h:∃ im F,H=List.replicate H.length none∧TR im (dk H.length) w ts a.tmps∧a.defers=[]∧Bnd G im F w∧J H.length F w
def Qn4 (G:Nat→Prop) (J:JT) (Q:Exit→List V→Qa→Prop):Exit→Act→World→Prop
 | .panic _,_,_=>False
 | .outgrown,_,_=>False
 | e,a,w=>∃ ts H,Q e ts H∧InvY G J ts H a w
def TY (C:Ctx) (G:Nat→Prop) (J:JT) (c:Code) (Q:Exit→List V→Qa→Prop) (ts:List V) (H:Qa):Prop :=
 ∀ a w,InvY G J ts H a w→c.wpIn (FW none) 0 C.P (Qn4 G J Q) a w
def cwY (l:Nat) (xs:List (List V)):CW:=fun fv args H K =>
 match fv with
 | .fn (.yield m) [] []=>m=l∧xs[H.length]?=some args∧K (.bool true) (H++[none])∧K (.bool false) (H++List.replicate (xs.length+1 - H.length) none)
 | _=>False
theorem Xe8 (l:Nat) (xs:List (List V)) (H0:Qa):CWok (cwY l xs) H0:=by
 refine ⟨?_, ?_, ?_⟩
 ·intro fv args H K K' hK h;unfold cwY at h ⊢;split at h
  ·exact ⟨h.1,h.2.1,hK _ _ h.2.2.1,hK _ _ h.2.2.2⟩
  ·exact h.elim
 ·intro fv args H p h;unfold cwY at h;split at h
  ·exact h.2.2.1
  ·exact h.elim
 ·intro fv args H K h;unfold cwY at h ⊢;split at h
  ·exact ⟨h.1,h.2.1,⟨.of (.app _ _),h.2.2.1⟩,⟨.of (.app _ _),h.2.2.2⟩⟩
  ·exact h.elim
def okY (o:Oper):Bool:=Yw o.op||Xp o.op||(match o.op with | .call c=>(match c.callee with | .value _=>true | _=>false) | _=>false)
def Qub (ops:Array Oper):Bool:=ops.toList.all okY
theorem Qwx {ops:Array Oper} (h:Qub ops=true) {i:Nat} {o:Oper} (ho:ops[i]?=some o):okY o=true:=by
 simp only [Qub,List.all_eq_true] at h;exact h o (by simpa using Array.mem_of_getElem? ho)
theorem Xap {y:Ty} {op:BinOp} {a b:V} {H:Qa} {K K':V→Prop} (hK:∀ v,K v→K' v) (h:Qc2 y op a b H K):Qc2 y op a b H K':=by
 by_cases hb:Qcl b=true
 ·obtain ⟨p,v,hd⟩:=Qsm y op a b H hb
  have:=(hd K).1 h
  exact (hd K').2 ⟨this.1,hK _ this.2⟩
 ·cases b<;>simp [Qcl] at hb
  revert h
  cases a<;>simp only [Qc2]<;>try exact id
  ·rintro ⟨h1,h2⟩;refine ⟨h1, ?_⟩
   revert h2
   cases op<;>first | exact hK _ | exact id
  ·rintro ⟨h1,h2⟩;refine ⟨h1, ?_⟩
   revert h2
   cases op<;>first | exact fun h=>⟨hK _ h.1,fun e=>hK _ (h.2 e)⟩ | exact id
  ·rintro ⟨h1,h2,h3⟩;refine ⟨h1,h2, ?_⟩
   revert h3
   cases op<;>first | exact fun h=>⟨hK _ h.1,fun e=>hK _ (h.2 e)⟩ | exact id
theorem Xc2 {C:Ctx} {cw cw':CW} {op:Op} {ts:List V} {H:Qa} {K:V→Qa→Prop} (hq:Yw op=true∨Xp op=true) (h:opc C.ty cw op ts H K):opc C.ty cw' op ts H fun v H'=>H'=H∧K v H:=by
 by_cases hbin:∃ o t x y t',op=.binOp o t x y t'
 ·obtain ⟨o,t,x,y,t',rfl⟩:=hbin;exact ⟨h.1,Xap (fun v hv=>⟨rfl,hv⟩) h.2⟩
 ·have hnil:Zp op ts:=by
   unfold Zp;split
   ·exact (hbin ⟨_,_,_,_,_,rfl⟩).elim
   ·trivial
  have h0:opc C.ty cw' op ts H fun v _=>K v H:=by
   cases op with
   | call c =>
    rcases hq with hq | hq
    ·simp only [Yw] at hq;simp only [opc] at h ⊢;cases hc:c.callee with
     | builtin b =>
      rw [hc] at h hq;simp only at h ⊢
      revert h
      generalize c.argTypes.toList=ats;generalize (c.args.toList.map (ev ts))=args;cases b<;>simp at hq
      all_goals
       intro h;unfold Qm at h ⊢;split at h<;>first | exact h | exact h.elim | (simp_all)
     | value f=>rw [hc] at hq;simp at hq
     | invoke _ _=>rw [hc] at hq;simp at hq
    ·simp [Xp] at hq
   | buildSlice t n ps =>
    have hb:Qeq ps.toList=true:=by simpa [Yw,Xp] using hq
    simp only [opc,opw,hb,Qkp] at h ⊢;exact h
   | _=>first | exact h | (simp [Yw,Xp] at hq)
  obtain ⟨p,v,hd⟩:=Qhr (C:=C) (cw:=cw') hq ts H hnil
  have:=(hd fun v=>K v H).1 h0
  have h1:=(hd fun v=>H=H∧K v H).2 ⟨this.1,rfl,this.2⟩
  exact Qt6 (C:=C) (H0:=H) (K:=fun v H'=>H'=H∧K v H) (hq.imp (fun h=>⟨h,(Same.refl H).stand⟩) (fun h=>⟨h,.refl H⟩)) hnil h1
theorem Xpf {C:Ctx} {l:Nat} {xs:List (List V)} {G:Nat→Prop} {J:JT} (hx:∀ aS∈xs,Qf aS=true) (hJ:JOK G J) (hY:Ql8 C G l xs J) {R:Exit→Act→World→Prop} (o:Oper) (hok:okY o=true) (ts:List V) (H:Qa) (a:Act) (w:World) (KK:V→Qa→Prop) (next:Act→World→Prop)
  (h:opc C.ty (cwY l xs) o.op ts H KK) (hI:InvY G J ts H a w)
  (hn:∀ v vc H' w',KK v H'→InvY G J (Xi ts o.dst v) H' (a.put o.dst vc) w'→next (a.put o.dst vc) w'):o.wpIn (FW none) 0 C.P a w next R:=by
 obtain ⟨im,F,e1,e2,e3,e4,e5⟩:=hI.h
 have quiet:(Yw o.op=true∨Xp o.op=true)→o.wpIn (FW none) 0 C.P a w next R:=by
  intro hq
  have h1:=Xc2 (cw':=cwF C) hq h
  have hH:=Xkd e4 H.length
  rw [← e1] at hH;refine Zt (Je C none) h1 e2 hH fun v vc H' im' pl' w' k1 k2 k3 k4=>?_
  obtain ⟨rfl,k1⟩:=k1
  have hpl:pl'=dk H'.length:=by
   funext r;unfold dk;split
   ·rename_i hlt
    have h2:dk H'.length r=.dead:=by unfold dk;rw [if_pos hlt]
    rcases k4.plo r (by rw [h2];simp) with h3 | h3
    ·rw [h3,h2]
    ·exact h3
   ·rename_i hlt
    have:=k3.len r
    cases hp:pl' r with
    | no=>rfl
    | _=>rw [hp] at this;simp at this;omega
  subst hpl
  have hg:Grow w w':=⟨k4.os,k4.tape,k4.output,k4.size,fun b hb=>k4.frame b hb fun r cap=>Qec⟩
  refine hn _ _ _ _ k1 ⟨im',F,e1,(e2.mono k4 fun b _ r cap=>Qec).put k2 _,by rw [Xa];exact e3,fun b hb=>⟨⟨k3.imb b hb,fun hF=>?_⟩, ?_⟩,hJ.grow _ _ _ _ e5 hg⟩
  ·rcases k4.imn b hb with h2 | h2 | ⟨r,cap,h2⟩
   ·exact (e4 b h2).1.2 hF
   ·have:=hJ.lt _ _ _ e5 b hF;omega
   ·exact Qec h2
  ·rcases k4.imn b hb with h2 | h2 | ⟨r,cap,h2⟩
   ·exact (e4 b h2).2
   ·exact hJ.good _ _ _ e5 b h2
   ·exact (Qec h2).elim
 simp only [okY,Bool.or_eq_true] at hok;rcases hok with (hok | hok) | hok
 ·exact quiet (.inl hok)
 ·exact quiet (.inr hok)
 ·split at hok
  ·rename_i c ho;split at hok
   ·rename_i f hc;simp only [ho,opc,hc] at h;unfold cwY at h;split at h
    ·rename_i m hf;obtain ⟨rfl,h1,h2,h3⟩:=h
     have hfv:=Qgl e2 f
     rw [hf] at hfv
     have hmem:(c.args.toList.map (ev ts))∈xs:=List.mem_of_getElem? h1
     have hy:=hY H.length F w _ im (c.args.map a.eval).toList e5 h1 (by simp) e4 (fun j=>by
      have:=Qh1 e2 c.args
      exact (this.2 j).clo (Ys (hx _ hmem) j))
     obtain ⟨fn,tmps,assign,body,hy1,hy2⟩:=hy;refine ⟨fun _ _=>trivial, ?_⟩
     rw [Oper.semAt_eq none a.eval o (fun c'=>by rw [ho];simp)]
     have hev:a.eval f=.func (.yield m) #[] #[]:=by
      cases hfe:a.eval f with
      | func g us vs =>
       rw [hfe] at hfv;generalize hus:us=us' at hfv;generalize hvs:vs=vs' at hfv;cases hfv with
       | fn _ _ _ us vs hl1 hr1 hl2 hr2 =>
        have hu:us=[]:=List.eq_nil_of_length_eq_zero hl1.symm
        have hv:vs=[]:=List.eq_nil_of_length_eq_zero hl2.symm
        subst hu hv
        rfl
      | _=>rw [hfe] at hfv;cases hfv
     have hrun:(execOp a.eval o).run C.P w=.ok (.round m fn tmps assign body) w:=by
      simp only [execOp,ho,resolve,hc,Sem.run_bind,Sem.run_pure,Result.andThen_ok,hev,Deferred.ofValue,invoke];rw [Array.toArray_toList] at hy1;simp only [Sem.run_bind,hy1,Result.andThen_ok,List.append_toArray,Array.append_empty,Array.empty_append]<;>simpa using hy1
     rw [hrun,Oper.uponIn_round];refine ⟨(fun h=>by cases h),hy2.mono ?_⟩
     rintro e w' ⟨b,F',rfl,k1,k2⟩
     have hb':Bnd G im F' w':=fun b hb=>⟨⟨Nat.lt_of_lt_of_le (e4 b hb).1.1 k2.size,fun hF=>by
      rcases k2.new b hF with h4 | h4
      ·exact (e4 b hb).1.2 h4
      ·have:=(e4 b hb).1.1;omega⟩,(e4 b hb).2⟩
     have hw:∀ (ad:Addr) v,im ad.block→w.cell? ad=some v→w'.cell? ad=some v:=fun ad v hi hc =>
      Qed hc fun hlt=>k2.keep _ hlt (e4 _ hi).1.2
     have hwm:∀ (b:Nat) es c,im b→w.heap[b]?=some (.map es c)→w'.heap[b]?=some (.map es c):=fun b es c hi hc=>by
      rw [k2.keep _ (Array.getElem?_eq_some_iff.1 hc).1 (e4 _ hi).1.2];exact hc
     have hTR:∀ m,H.length≤m→TR im (dk m) w' ts a.tmps:=fun m hm =>
      ⟨e2.1,fun i=>(((e2.mono (Xmz hm) fun b _ r cap=>Qec)).2 i).world hw hwm⟩
     have hklt:H.length<xs.length:=(List.getElem?_eq_some_iff.1 h1).1
     cases b with
     | true =>
      refine hn _ _ _ _ h2 ⟨im,F', ?_, ?_,by rw [Xa];exact e3,hb', ?_⟩
      ·rw [List.length_append,List.length_singleton,List.replicate_succ',← e1]
      ·refine TR.put (hTR _ (by simp)) (.bool true) _
      ·simpa using k1
     | false =>
      refine hn _ _ _ _ h3 ⟨im,F', ?_, ?_,by rw [Xa];exact e3,hb', ?_⟩
      ·rw [List.length_append,List.length_replicate,← List.replicate_append_replicate,← e1]
      ·refine TR.put (hTR _ (by simp)) (.bool false) _
      ·have:H.length+(xs.length+1 - H.length)=xs.length+1:=by omega
       simpa [this] using k1
    ·exact h.elim
   ·cases hok
  ·cases hok
theorem InvY.skip {G:Nat→Prop} {J:JT} {ts:List V} {H:Qa} {a:Act} {w:World} (h:InvY G J ts H a w) (d:Option Tmp):InvY G J (Xi ts d (.tup [])) H (a.put d (.tuple [].toArray)) w:=by
 obtain ⟨im,F,e1,e2,e3,e4,e5⟩:=h.h;exact ⟨im,F,e1,e2.put (.tup [] [] rfl fun j=>by simp [nth,List.getD];exact .any _) d,by rw [Xa];exact e3,e4,e5⟩
theorem InvY.now {G:Nat→Prop} {J:JT} {Q:Exit→List V→Qa→Prop} {ts:List V} {H:Qa} {a:Act} {w:World} (h:InvY G J ts H a w) {e:Exit} (hq:Q e ts H) (hp:∀ c,e≠.panic c) (ho:e≠.outgrown):Qn4 G J Q e a w:=by
 cases e with
 | panic c=>exact absurd rfl (hp c)
 | outgrown=>exact absurd rfl ho
 | _=>exact ⟨ts,H,hq,h⟩
theorem Xo4 {C:Ctx} {l:Nat} {xs:List (List V)} {G:Nat→Prop} {J:JT} (hx:∀ aS∈xs,Qf aS=true) (hJ:JOK G J) (hY:Ql8 C G l xs J) {ops:Array Oper} (hok:Qub ops=true) {K:List V→Qa→Prop} {R:Exit→Act→World→Prop} (hK:∀ ts H a w,K ts H→InvY G J ts H a w→R .normal a w) :
  ∀ (m:List Oper) (k:Nat) (ts:List V) (H:Qa) (w:World) (a:Act),ops.toList.drop k=m→Qa5 C.ty (cwY l xs) ops K m ts H→InvY G J ts H a w→wpOpsIn (FW none) 0 C.P ops R (List.range' k m.length) a w:=by
 intro m
 induction m with
 | nil=>intro k ts H w a hl h hr;exact hK ts H a w h hr
 | cons o m ih =>
  intro k ts H w a hl h hr
  have ho:ops[k]?=some o:=by
   have:(ops.toList.drop k)[0]?=some o:=by rw [hl];rfl
   simpa [List.getElem?_drop] using this
  have hl':ops.toList.drop (k+1)=m:=by
   have:(ops.toList.drop k).tail=m:=by rw [hl];rfl
   simpa [List.tail_drop] using this
  simp only [List.length_cons,List.range'_succ,wpOpsIn,ho];simp only [Qa5] at h;obtain ⟨im,F,e1,e2,e3,e4,e5⟩:=hr.h;rcases Qbw (Qco h) e2 with ⟨hw,h⟩ | ⟨hw,h⟩
  ·rw [if_pos hw];exact Xpf hx hJ hY o (Qwx hok ho) ts H a w _ _ h hr fun v vc H' w' k1 k2=>ih (k+1) _ H' w' _ hl' k1 k2
  ·rw [if_neg (by simp [hw])]
   exact ⟨fun _ _=>trivial,ih (k+1) _ H w _ hl' h (hr.skip _)⟩
theorem InvY.drawn {G:Nat→Prop} {J:JT} (hJ:JOK G J) {ts:List V} {H:Qa} {a:Act} {w:World} (h:InvY G J ts H a w):InvY G J ts H a { w with drawn:=w.drawn+1 }:=by
 obtain ⟨im,F,e1,e2,e3,e4,e5⟩:=h.h;exact ⟨im,F,e1,⟨e2.1,fun i=>VR.world (w:=w) (w':={ w with drawn:=w.drawn+1 }) (fun _ _ _ (h:w.cell? _=some _)=>h) (fun _ _ _ _ h=>h) (e2.2 i)⟩,e3,e4,hJ.grow _ _ _ _ e5 ⟨rfl,rfl,rfl,Nat.le_refl _,fun _ _=>rfl⟩⟩
theorem Xay {C:Ctx} {l:Nat} {xs:List (List V)} {G:Nat→Prop} {J:JT} (hx:∀ aS∈xs,Qf aS=true) (hJ:JOK G J) (hY:Ql8 C G l xs J) {id:Nat} {ops:Array Oper} (hok:Qub ops=true) {Q:Exit→List V→Qa→Prop} {ts:List V} {H:Qa}
  (h:Qa5 C.ty (cwY l xs) ops (Q .normal) ops.toList ts H):TY C G J (.region id ops false) Q ts H:=by
 intro a w hr;refine wpIn_region ?_;rw [List.range_eq_range']
 have:=Xo4 hx hJ hY hok (K:=Q .normal) (R:=Qn4 G J Q) (fun ts H a w k1 k2=>⟨ts,H,k1,k2⟩) ops.toList 0 ts H w a (by simp) h hr
 simpa using this
def Qd7:Op→Bool
 | .alloc _=>true
 | _=>false
def Qrt (o:Oper):Bool:=o.guard.isNone&&(o.dst.isSome&&Qd7 o.op)
def Qw5 (ops:Array Oper):Bool:=ops.toList.any Qrt
def Xgj (Q:Exit→List V→Qa→Prop) (H:Qa) (ts1:List V) (H1:Qa):Prop :=
 ∃ (e s:Nat) (cs:List V) (N:Nat) (m:List (Nat × V)),H1=H++[some ⟨e,s,cs⟩]∧Qf cs=true∧ts1.length=N∧(∀ p∈m,nth (szL H.length cs ts1) p.1=p.2∧clo p.2=true)∧Q .normal (env N m) H
def Xpx (im0:Nat→Prop) (k:Nat) (w0:World) (ts:List V) (H:Qa) (a:Act) (w:World):Prop:=∃ im pl,HR im pl w H∧TR im pl w ts a.tmps∧a.defers=[]∧Ext im0 (dk k) w0 im pl w
theorem Xo5 {C:Ctx} {im0:Nat→Prop} {kk:Nat} {w0:World} {ops:Array Oper} {K:List V→Qa→Prop} {R:Exit→Act→World→Prop} (hK:∀ ts H a w,K ts H→Xpx im0 kk w0 ts H a w→R .normal a w) :
  ∀ (m:List Oper) (k:Nat) (ts:List V) (H:Qa) (w:World) (a:Act),ops.toList.drop k=m→Qa5 C.ty (cwF C) ops K m ts H→Xpx im0 kk w0 ts H a w→wpOpsIn (FW none) 0 C.P ops R (List.range' k m.length) a w:=by
 intro m
 induction m with
 | nil=>intro k ts H w a hl h hr;exact hK ts H a w h hr
 | cons o m ih =>
  intro k ts H w a hl h hr
  have ho:ops[k]?=some o:=by
   have:(ops.toList.drop k)[0]?=some o:=by rw [hl];rfl
   simpa [List.getElem?_drop] using this
  have hl':ops.toList.drop (k+1)=m:=by
   have:(ops.toList.drop k).tail=m:=by rw [hl];rfl
   simpa [List.tail_drop] using this
  simp only [List.length_cons,List.range'_succ,wpOpsIn,ho];simp only [Qa5] at h;obtain ⟨im,pl,e1,e2,e3,e4⟩:=hr;rcases Qbw (Qco h) e2 with ⟨hw,h⟩ | ⟨hw,h⟩
  ·rw [if_pos hw];refine Zt (Je C none) h e2 e1 fun v vc H' im' pl' w' k1 k2 k3 k4=>?_
   exact ih (k+1) _ H' w' _ hl' k1 ⟨im',pl',k3,(e2.mono k4 e1.apart).put k2 _,by rw [Xa];exact e3,e4.trans k4⟩
  ·rw [if_neg (by simp [hw])]
   refine ⟨fun _ _=>trivial,ih (k+1) _ H w _ hl' h ⟨im,pl,e1, ?_,by rw [Xa];exact e3,e4⟩⟩
   exact e2.put (.tup [] [] rfl fun j=>by simp [nth,List.getD];exact .any _) _
theorem Xnn {C:Ctx} {G:Nat→Prop} {J:JT} (hJ:JOK G J) {id:Nat} {ops:Array Oper} {Q:Exit→List V→Qa→Prop} {ts:List V} {H:Qa} (h:Qa5 C.ty (cwF C) ops (Xgj Q H) ops.toList ts H):TY C G J (.region id ops false) Q ts H:=by
 intro a w hr;obtain ⟨im,F,e1,e2,e3,e4,e5⟩:=hr.h;refine wpIn_region ?_;rw [List.range_eq_range']
 have hH:=Xkd e4 H.length
 rw [← e1] at hH
 have:=Xo5 (C:=C) (im0:=im) (kk:=H.length) (w0:=w) (K:=Xgj Q H) (R:=Qn4 G J Q) (fun ts1 H1 a1 w1 k1 k2=>?_) ops.toList 0 ts H w a (by simp) h ⟨im,dk H.length,hH,e2,e3,.refl _ _ _⟩
 ·simpa using this
 ·obtain ⟨e,s,cs,N,m,rfl,hc,hN,hm,hq⟩:=k1;obtain ⟨im1,pl1,g1,g2,g3,g4⟩:=k2;obtain ⟨im2,q1,q2,_,q3⟩:=Qcb g1 (Xx _ _) hc
  have hE:=g4.trans q2
  refine ⟨_,H,hq,⟨im2,F,e1,⟨by rw [Zr,← hN];exact g2.1,fun j=>?_⟩,g3,fun b hb=>?_, ?_⟩⟩
  ·rw [Qdb];unfold cif;split
   ·rcases Qh0 m j with h1 | h1
    ·rw [h1];exact .any _
    ·obtain ⟨h2,h3⟩:=hm _ h1;simp only at h2 h3;rw [← h2,Kk];rw [Kk] at h2;exact (q3 _ _ (g2.2 j)).clo (by rw [h2];exact h3)
   ·exact .any _
  ·refine ⟨⟨q1.imb b hb,fun hF=>?_⟩, ?_⟩
   ·rcases hE.imn b hb with h2 | h2 | ⟨r,cap,h2⟩
    ·exact (e4 b h2).1.2 hF
    ·have:=hJ.lt _ _ _ e5 b hF;omega
    ·exact Qec h2
   ·rcases hE.imn b hb with h2 | h2 | ⟨r,cap,h2⟩
    ·exact (e4 b h2).2
    ·exact hJ.good _ _ _ e5 b h2
    ·exact (Qec h2).elim
  ·exact hJ.grow _ _ _ _ e5 ⟨hE.os,hE.tape,hE.output,hE.size,fun b hb=>hE.frame b hb fun r cap=>Qec⟩
theorem Xjq {C:Ctx} (hm:C.P.follows .mixedOrders=true) {l:Nat} {xs:List (List V)} {G:Nat→Prop} {J:JT} (hx:∀ aS∈xs,Qf aS=true) (hJ:JOK G J) (hY:Ql8 C G l xs J) {id:Nat} {ops:Array Oper} (hok:Qub ops=true) (hdr:Jy ops=true) {Q:Exit→List V→Qa→Prop} {ts:List V} {H:Qa}
  (h:Kx C (cwY l xs) ops H (Q .normal) ops.toList ts H):TY C G J (.region id ops true) Q ts H:=by
 intro a w hr
 have hk:Yf ops=true:=by simp only [Jy,Bool.and_eq_true] at hdr;exact hdr.1
 refine wpIn_region_any hm ?_
 have hx':=Qho (Xe8 l xs H) hk ops.toList 0 ts H (by simp) h
 refine Ql3 (Xe8 l xs H) (ro:=none) (ops:=ops) (H0:=H) (K:=Q .normal) (R:=Qn4 G J Q) (Inv:=InvY G J) (by simp only [Jy,Bool.and_eq_true] at hdr;exact hdr.1) (fun _=>True) (Qbj hdr _) ?_ ?_ ?_ ?_
  ops.size (List.range' 0 ops.toList.length) _ ts H _ a (fun _ _=>trivial) ⟨by simp, ?_,fun i=>?_,fun i o ho hl=>?_⟩ (by simp) (.inl (.refl _)) hx' (hr.drawn hJ)
 ·rintro ts' H' a' w' h1;obtain ⟨im,F,e1,e2,_⟩:=h1.h;exact ⟨im,_,e2⟩
 ·intro i o ho ts' H' a' w' KK next h1 h2 hnext;exact Xpf hx hJ hY o (Qwx hok ho) ts' H' a' w' KK next h1 h2 hnext
 ·exact fun ts' H' a' w' d h1=>h1.skip d
 ·exact fun a' w' ts' H' k1 k2=>⟨ts',H',k1,k2⟩
 ·exact List.pairwise_lt_range' ..
 ·simp only [List.mem_range'_1,Nat.zero_le,true_and,Nat.zero_add,Array.length_toList];simp only [Array.getD_eq_getD_getElem?,Array.getElem?_replicate];constructor
  ·intro h;refine ⟨h, ?_⟩;simp [h]
  ·exact fun h=>h.1
 ·exfalso;simp only [Array.getD_eq_getD_getElem?,Array.getElem?_replicate] at hl
  split at hl<;>simp at hl
theorem TY.mono {C:Ctx} {G:Nat→Prop} {J:JT} {c:Code} {Q Q':Exit→List V→Qa→Prop} {ts:List V} {H:Qa} (h:TY C G J c Q ts H) (hq:∀ e ts H,Q e ts H→Q' e ts H):TY C G J c Q' ts H :=
 fun a w hr=>wpIn_mono (h a w hr) fun e a w hp=>by
  cases e with
  | panic c=>exact hp
  | outgrown=>exact hp
  | _=>obtain ⟨ts,H,h1,h2⟩:=hp;exact ⟨ts,H,hq _ _ _ h1,h2⟩
theorem Xf6 {C:Ctx} {G:Nat→Prop} {J:JT} {x y:Code} {Q:Exit→List V→Qa→Prop} {ts:List V} {H:Qa} (h:TY C G J x (Qdk (TY C G J y Q) Q) ts H):TY C G J (.seq x y) Q ts H:=by
 intro a w hr;refine wpIn_seq (wpIn_mono (h a w hr) fun e a' w' hp=>?_)
 cases e with
 | normal=>obtain ⟨ts',H',k1,k2⟩:=hp;exact k1 a' w' k2
 | _=>exact hp
theorem Qxo {C:Ctx} {G:Nat→Prop} {J:JT} {c:Operand} {x y:Code} {Q:Exit→List V→Qa→Prop} {ts:List V} {H:Qa} {b:Bool} (hc:ev ts c=.bool b) (ht:b=true→TY C G J x Q ts H) (hf:b=false→TY C G J y Q ts H):TY C G J (.cond c x y) Q ts H:=by
 intro a w hr;obtain ⟨im,F,e1,e2,e3,e4,e5⟩:=hr.h
 have hv:=Qgl e2 c
 rw [hc] at hv;cases hq:a.eval c with
 | bool b' =>
  rw [hq] at hv;cases hv;exact wpIn_cond_split hq (fun e=>ht e a w hr) (fun e=>hf e a w hr)
 | _=>rw [hq] at hv;cases hv
theorem Qs0 {C:Ctx} {G:Nat→Prop} {J:JT} {id:Nat} {c:Code} {Q:Exit→List V→Qa→Prop} {ts:List V} {H:Qa} (h:TY C G J c (Zs id Q) ts H):TY C G J (.block id c) Q ts H:=by
 intro a w hr;refine wpIn_block (wpIn_mono (h a w hr) fun e a' w' hp=>?_)
 cases e with
 | exit id' =>
  obtain ⟨ts',H',k1,k2⟩:=hp;simp only [Zs] at k1;simp only [Exit.inBlock];split
  ·rename_i he;rw [if_pos he] at k1;exact ⟨ts',H',k1,k2⟩
  ·rename_i he;rw [if_neg he] at k1;exact ⟨ts',H',k1,k2⟩
 | _=>exact hp
theorem Xjp {C:Ctx} {G:Nat→Prop} {J:JT} {c:Code} {Q:Exit→List V→Qa→Prop} {ts:List V} {H:Qa} (n:Nat) (h:Qhy (TY C G J c) Q n ts H):TY C G J (.loop c) Q ts H:=by
 intro a w hr b k cs hro hb hroom
 have key:∀ n ts H w a,Qhy (TY C G J c) Q n ts H→InvY G J ts H a w →
   ∃ e a' w',Qn4 G J Q e a' w'∧ArrivesIn (Machine.fenced C.P (FW none)) C.P (lone (b.atR a (.code c::.inLoop c::k)) cs w) b k cs e a' w':=by
  intro n
  induction n with
  | zero=>intro ts H w a h;exact h.elim
  | succ n ih =>
   intro ts H w a h hr;obtain ⟨e,a₁,w₁,hq,harr⟩:=h a w hr b (.inLoop c::k) cs hro hb hroom;cases e with
   | normal =>
    obtain ⟨ts',H',k1,k2⟩:=hq;obtain ⟨e₂,a₂,w₂,hq₂,harr₂⟩:=ih ts' H' w₁ a₁ k1 k2;exact ⟨e₂,a₂,w₂,hq₂,.of_steps (StepsIn.trans harr (.one (fenced_calm hb hroom rfl) stepR_inLoop)) harr₂⟩
   | exit id=>exact ⟨.exit id,a₁,w₁,hq,.pass (x:=.inLoop c) rfl (fun _ _=>.inl (by simp)) harr⟩
   | goto l=>exact ⟨.goto l,a₁,w₁,hq,.pass (x:=.inLoop c) rfl (fun _ _=>.inl (by simp)) harr⟩
   | ret=>exact ⟨.ret,a₁,w₁,hq,.pass (x:=.inLoop c) rfl (fun _ _=>.inl (by simp)) harr⟩
   | panic ch=>exact hq.elim
   | outgrown=>exact hq.elim
 obtain ⟨e,a',w',hq,harr⟩:=key n ts H w a h hr;exact ⟨e,a',w',hq,.of_steps (.one (fenced_calm hb hroom rfl) stepR_loop) harr⟩
theorem Qsz {C:Ctx} {G:Nat→Prop} {J:JT} {c:Code} {Q:Exit→List V→Qa→Prop} (I:Nat→List V→Qa→Prop) (step:∀ n ts H,I n ts H→TY C G J c (Qdk (fun ts' H'=>∃ m,m<n∧I m ts' H') Q) ts H) {n:Nat} {ts:List V} {H:Qa} (h:I n ts H):TY C G J (.loop c) Q ts H:=by
 have key:∀ k n ts H,n<k→I n ts H→Qhy (TY C G J c) Q k ts H:=by
  intro k
  induction k with
  | zero=>intro n ts H hn;omega
  | succ k ih =>
   intro n ts H hn h;refine (step n ts H h).mono fun e ts' H' hq=>?_
   cases e with
   | normal=>obtain ⟨m,hm,hI⟩:=hq;exact ih m ts' H' (by omega) hI
   | _=>exact hq
 exact Xjp (n+1) (key (n+1) n ts H (by omega) h)
theorem Qv3 {C:Ctx} {G:Nat→Prop} {J:JT} {c:Code} {Q:Exit→List V→Qa→Prop} {ts:List V} {H:Qa} {N:Nat} (m:List (Nat × V)) (hL:ts.length=N) (hl:∀ p∈m,nth ts p.1=p.2) (h:TY C G J c Q (env N m) H):TY C G J c Q ts H:=by
 intro a w hr;obtain ⟨im,F,e1,e2,e3,e4,e5⟩:=hr.h;refine h a w ⟨im,F,e1,⟨by rw [Zr,← hL];exact e2.1,fun j=>?_⟩,e3,e4,e5⟩
 rw [Qdb];unfold cif;split
 ·rcases Qh0 m j with h1 | h1
  ·rw [h1];exact .any _
  ·have:=hl _ h1
   simp only at this;rw [← this];exact e2.2 j
 ·exact .any _
def wpY (C:Ctx) (G:Nat→Prop) (l:Nat) (xs:List (List V)) (J:JT):Code→(Exit→List V→Qa→Prop)→List V→Qa→Prop
 | .skip,Q,ts,H=>Q .normal ts H
 | .region _ ops draw,Q,ts,H=>(Qw5 ops=true∧draw=false∧Qa5 C.ty (cwF C) ops (Xgj Q H) ops.toList ts H)∨(Qub ops=true∧match draw with
  | false=>Qa5 C.ty (cwY l xs) ops (Q .normal) ops.toList ts H
  | true=>Jy ops=true∧Kx C (cwY l xs) ops H (Q .normal) ops.toList ts H)
 | .seq x y,Q,ts,H=>wpY C G l xs J x (Qdk (wpY C G l xs J y Q) Q) ts H
 | .cond c x y,Q,ts,H=>Qe2 (ev ts c) (wpY C G l xs J x Q ts H) (wpY C G l xs J y Q ts H)
 | .block id c,Q,ts,H=>wpY C G l xs J c (Zs id Q) ts H
 | .loop c,Q,ts,H=>TY C G J (.loop c) Q ts H
 | .exit id,Q,ts,H=>Q (.exit id) ts H
 | .ret,Q,ts,H=>Q .ret ts H
 | _,_,_,_=>False
theorem Qmr {C:Ctx} (hm:C.P.follows .mixedOrders=true) {l:Nat} {xs:List (List V)} {G:Nat→Prop} {J:JT} (hx:∀ aS∈xs,Qf aS=true) (hJ:JOK G J) (hY:Ql8 C G l xs J):∀ (c:Code) (Q:Exit→List V→Qa→Prop) (ts:List V) (H:Qa),wpY C G l xs J c Q ts H→TY C G J c Q ts H:=by
 intro c
 induction c with
 | skip=>exact fun Q ts H h a w hr=>wpIn_skip (hr.now h (by simp) (by simp))
 | region id ops draw =>
  intro Q ts H h;rcases h with ⟨_,rfl,h⟩ | h
  ·exact Xnn hJ h
  cases draw with
  | false=>exact Xay hx hJ hY h.1 h.2
  | true=>exact Xjq hm hx hJ hY h.1 h.2.1 h.2.2
 | seq x y ihx ihy =>
  intro Q ts H h;exact Xf6 ((ihx _ _ _ h).mono fun e ts H hq=>by
   cases e with
   | normal=>exact ihy _ _ _ hq
   | _=>exact hq)
 | cond c x y ihx ihy =>
  intro Q ts H h;simp only [wpY] at h;unfold Qe2 at h;split at h
  ·rename_i b hb;exact Qxo hb (fun e=>ihx _ _ _ (h.1 e)) (fun e=>ihy _ _ _ (h.2 e))
  ·exact h.elim
 | block id c ih=>exact fun Q ts H h=>Qs0 (ih _ _ _ h)
 | loop c _=>exact fun Q ts H h=>h
 | exit id=>exact fun Q ts H h a w hr=>wpIn_exit (hr.now h (by simp) (by simp))
 | ret=>exact fun Q ts H h a w hr=>wpIn_ret (hr.now h (by simp) (by simp))
 | _=>exact fun Q ts H h=>h.elim
theorem Gen.of {C:Ctx} (hm:C.P.follows .mixedOrders=true) {g:FuncId} {fn:Func} {c:Code} {lb:List V} {xs:List (List V)} {N:Nat} (hf:C.P.funcs[g]?=some fn) (hb:fn.body=some c) (hn:(fn.name == "runtime.NumGoroutine")=false) (hN:fn.ntmps=N) (hr:fn.results=#[]) (ha:lb.length+1≤N)
  (hx:∀ aS∈xs,Qf aS=true) (h:∀ G l J,wpY C G l xs J c (fun e _ H=>(e=.normal∨e=.ret)∧(H.length=xs.length∨H.length=xs.length+1)) (env N (Qa9 0 (.fn (.yield l) [] []::lb))) []):Gen C g lb xs:=by
 subst hN;refine ⟨⟨fn,hf,hn,by rw [hb];rfl⟩,hx,fun G im F w lbv l J hl hv hB hJ hY hj=>(callsIn_wide (n:=0)).1 ?_⟩
 refine callsIn_of_wp_marks hf hb trivial ?_
 have hI:InvY G J (.fn (.yield l) [] []::lb++List.replicate (fn.ntmps - (lb.length+1)) .any) [] { tmps:=(Value.func (.yield l) #[] #[]::lbv).toArray++Array.replicate (fn.ntmps - (Value.func (.yield l) #[] #[]::lbv).toArray.size) undef,defers:=[] } w:=by
  refine ⟨im,F,rfl,⟨by simp [hl];omega,fun i=>?_⟩,rfl,hB,hj⟩
  cases i with
  | zero =>
   have h0:VR im (dk 0) w (.fn (.yield l) [] []) (.func (.yield l) #[] #[]):=VR.fn (.yield l) [] [] [] [] rfl (fun j=>by simp only [nth];exact .any _) rfl (fun j=>by simp only [nth];exact .any _)
   simpa [nth,Array.getD_eq_getD_getElem?,Array.getElem?_append] using h0
  | succ i =>
   rw [Yj];split
   ·rename_i hi
    have hi':i<lb.length:=by simpa using hi
    have:=(hv i).ren (g:=some) (im':=im) (pl':=dk 0) (fun r r' e=>by simp [dk,Kw]) (fun b hb=>hb)
    rw [Qdz] at this;simpa [nth,Array.getD_eq_getD_getElem?,Array.getElem?_append_left,hl ▸ hi',List.getD] using this
   ·have:nth (List.replicate (fn.ntmps - (lb.length+1)) V.any) (i+1 - (V.fn (Fn.yield l) [] []::lb).length)=.any:=by
     rw [Xo];simp [List.getD,List.getElem?_replicate];split<;>rfl
    rw [this];exact .any _
 have hT:=Qv3 (Qa9 0 (.fn (.yield l) [] []::lb)) (by simp;omega) (fun p hp=>by
  obtain ⟨h1,h2,h3⟩:=Qf6 _ 0 p hp;rw [Yj,if_pos (by omega)]
  exact h3) (Qmr hm hx hJ hY _ _ _ _ (h G l J)) _ _ hI
 refine wpIn_mono hT fun e a' w' hp=>?_
 have fin:∀ ts' H',((e=.normal∨e=.ret)∧(H'.length=xs.length∨H'.length=xs.length+1))→InvY G J ts' H' a' w'→LeavesInM Fence.wide 0 C.P fn a'.tmps (fun e W'=>(∃ v,e=Ending.returned v)∧∃ k F',(k=xs.length∨k=xs.length+1)∧J k F' W') a'.defers .returning w':=by
  intro ts' H' k1 k2;obtain ⟨im',F',e1,e2,e3,e4,e5⟩:=k2.h;rw [e3];refine ⟨.tuple #[], ?_,⟨_,rfl⟩,_,F',k1.2,e5⟩;simp [results,hr,Sem.run_bind]
 cases e with
 | normal=>obtain ⟨ts',H',k1,k2⟩:=hp;exact fin ts' H' k1 k2
 | ret=>obtain ⟨ts',H',k1,k2⟩:=hp;exact fin ts' H' k1 k2
 | exit id=>obtain ⟨ts',H',k1,k2⟩:=hp;rcases k1.1 with k | k<;>cases k
 | goto l=>obtain ⟨ts',H',k1,k2⟩:=hp;rcases k1.1 with k | k<;>cases k
 | panic _=>exact hp.elim
 | outgrown=>exact hp.elim
theorem VR.keep {im:Nat→Prop} {pl:Nat→Place} {w w':World} (hk:∀ b,im b→w'.heap[b]?=w.heap[b]?) {v:V} {c:Value} (h:VR im pl w v c):VR im pl w' v c :=
 h.world (fun a v hi hc=>Qed hc fun _=>hk _ hi) fun b es c hi hc=>by rw [hk b hi];exact hc
theorem TR.keep {im:Nat→Prop} {pl:Nat→Place} {w w':World} (hk:∀ b,im b→w'.heap[b]?=w.heap[b]?) {ts:List V} {tmps:Array Value} (h:TR im pl w ts tmps):TR im pl w' ts tmps :=
 ⟨h.1,fun i=>(h.2 i).keep hk⟩
theorem HR.keep {im:Nat→Prop} {pl:Nat→Place} {w w':World} {H:Qa} (hs:w.heap.size≤w'.heap.size) (hk:∀ b,(im b∨∃ r cap,pl r=.at b cap)→w'.heap[b]?=w.heap[b]?) (h:HR im pl w H):HR im pl w' H:=by
 refine ⟨h.len,h.apart,fun r b cap hr=>Nat.lt_of_lt_of_le (h.bound r b cap hr) hs,fun b hb=>Nat.lt_of_lt_of_le (h.imb b hb) hs,h.inj,h.dead,h.virt,fun r b cap hr=>?_⟩
 obtain ⟨e,s,cs,cur,q1,q2,q3,q4,q5,q6⟩:=h.row r b cap hr;exact ⟨e,s,cs,cur,q1,by rw [hk b (.inr ⟨r,cap,hr⟩)];exact q2,q3,q4,q5,fun j=>(q6 j).keep fun b hb=>hk b (.inl hb)⟩
theorem VR.more {im im':Nat→Prop} {pl:Nat→Place} {w:World} (hi:∀ b,im b→im' b) {v:V} {c:Value} (h:VR im pl w v c):VR im' pl w v c:=by
 have:=h.ren (g:=some) (im':=im') (pl':=pl) (fun r r' e=>by injection e with e;rw [e]) hi
 rwa [Qdz] at this
theorem HR.more {im im':Nat→Prop} {pl:Nat→Place} {w:World} {H:Qa} (hi:∀ b,im b→im' b) (ha:∀ b,im' b→b<w.heap.size∧∀ r cap,pl r≠.at b cap) (h:HR im pl w H):HR im' pl w H:=by
 refine ⟨h.len,fun b hb=>(ha b hb).2,h.bound,fun b hb=>(ha b hb).1,h.inj,h.dead,h.virt,fun r b cap hr=>?_⟩
 obtain ⟨e,s,cs,cur,q1,q2,q3,q4,q5,q6⟩:=h.row r b cap hr;exact ⟨e,s,cs,cur,q1,q2,q3,q4,q5,fun j=>(q6 j).more hi⟩
def Qip:List V→List Tmp→List V→List V
 | ts,p::ps,v::vs=>Qip (upd ts p v) ps vs
 | ts,_,_=>ts
theorem Qwt {im:Nat→Prop} {pl:Nat→Place} {w:World}:∀ (ps:List Tmp) (aS:List V) (vs:List Value) (ts:List V) (tmps:Array Value),TR im pl w ts tmps→aS.length=vs.length→(∀ j,VR im pl w (nth aS j) (vs.getD j undef)) →
  TR im pl w (Qip ts ps aS) ((ps.zip vs).foldl (fun t p=>t.setIfInBounds p.1 p.2) tmps)
 | [],aS,vs,ts,tmps,h,hl,hv=>by cases aS<;>simpa [Qip] using h
 | p::ps,[],vs,ts,tmps,h,hl,hv=>by
  have:vs=[]:=List.eq_nil_of_length_eq_zero hl.symm
  subst this;simpa [Qip] using h
 | p::ps,a::aS,v::vs,ts,tmps,h,hl,hv=>by
  simp only [Qip,List.zip_cons_cons,List.foldl_cons];refine Qwt ps aS vs _ _ ?_ (by simpa using hl) (fun j=>by simpa [nth] using hv (j+1))
  have:=TR.put (a:={ tmps:=tmps,defers:=[] }) h (by simpa [nth] using hv 0) (some p)
  simpa [Xi,Act.put] using this
 | p::ps,a::aS,[],ts,tmps,h,hl,hv=>by simp at hl
theorem Ext.avoid {imA imB:Nat→Prop} {plA plB:Nat→Place} {WA WB:World} (hE:Ext imA plA WA imB plB WB) {c:Nat} (hc:c<WA.heap.size) (hr:∀ r cap,plA r≠.at c cap) (hi:¬ imA c):(∀ r cap,plB r≠.at c cap)∧¬ imB c∧WB.heap[c]?=WA.heap[c]?∧c<WB.heap.size:=by
 refine ⟨fun r cap h=>?_,fun h=>?_,hE.frame c hc hr,Nat.lt_of_lt_of_le hc hE.size⟩
 ·rcases hE.pln r c cap h with ⟨r',cap',h1⟩ | h1
  ·exact hr _ _ h1
  ·omega
 ·rcases hE.imn c h with h1 | h1 | ⟨r,cap,h1⟩
  ·exact hi h1
  ·omega
  ·exact hr _ _ h1
theorem Qc8 (W:World) (l:Nat) (o:Obj):(W.putObj l o).heap.size=W.heap.size:=by simp [World.putObj]
theorem Kj (W:World) {l k:Nat} (o:Obj) (h:k≠l):(W.putObj l o).heap[k]?=W.heap[k]?:=by simp [World.putObj,Array.getElem?_setIfInBounds,Ne.symm h]
theorem Qm3 (W:World) {l:Nat} (o:Obj) (h:l<W.heap.size):(W.putObj l o).heap[l]?=some o:=by simp [World.putObj,Array.getElem?_setIfInBounds,h]
theorem Ext.put {im im1:Nat→Prop} {pl pl1:Nat→Place} {w W:World} (h:Ext im pl w im1 pl1 W) {l:Nat} (o:Obj) (hl:w.heap.size≤l):Ext im pl w im1 pl1 (W.putObj l o) :=
 ⟨h.os,h.tape,h.output,by rw [Qc8];exact h.size,h.imm,h.imn,h.plo,h.pln,fun b hb hn=>by rw [Kj _ _ (by omega)];exact h.frame b hb hn⟩
theorem HR.put {im:Nat→Prop} {pl:Nat→Place} {W:World} {H:Qa} (h:HR im pl W H) {l:Nat} (o:Obj) (hi:¬ im l) (hr:∀ r cap,pl r≠.at l cap):HR im pl (W.putObj l o) H :=
 h.keep (by rw [Qc8];exact Nat.le_refl _) fun b hb=>Kj _ _ (by
  rintro rfl;rcases hb with hb | ⟨r,cap,hb⟩
  ·exact hi hb
  ·exact hr r cap hb)
theorem TR.putO {im:Nat→Prop} {pl:Nat→Place} {W:World} {ts:List V} {tmps:Array Value} (h:TR im pl W ts tmps) {l:Nat} (o:Obj) (hi:¬ im l):TR im pl (W.putObj l o) ts tmps :=
 h.keep fun b hb=>Kj _ _ (by rintro rfl;exact hi hb)
theorem DefOK.putO {pl:Nat→Place} {W:World} {ds:List Deferred} (h:DefOK pl W ds) {l:Nat} (o:Obj) {r0:Loop} (hl:W.heap[l]?=some (.loop r0)):DefOK pl (W.putObj l o) ds:=by
 refine ⟨h.nodup,fun d hd=>?_⟩
 obtain ⟨r,h1,h2,h3⟩:=h.each d hd;refine ⟨r,h1, ?_,h3⟩;rw [Kj _ _ (by rintro rfl;rw [hl] at h2;cases h2)];exact h2
def Qcj (C:Ctx) (Q:Exit→List V→Qa→Prop) (ts:List V) (go:Qa→Prop):Exit→List V→Qa→Prop
 | .normal,_,H=>go H
 | .ret,_,H=>Q .ret ts H
 | .exit id,_,H=>Q (.exit id) ts H
 | .goto t,_,H=>Q (.goto t) ts H
 | _,_,_=>False
theorem Xjo {C:Ctx} {f:Operand} {ps:Array Tmp} {assign body:Code} {Q:Exit→List V→Qa→Prop} {ts:List V} {H:Qa} {g:FuncId} {lb:List V} {xs:List (List V)} (hf:ev ts f=.fn (.func g) [] lb) (hlb:Qf lb=true) (hg:Gen C g lb xs) (hps:∀ aS∈xs,aS.length=ps.size)
  (I:Nat→Qa→Prop) (h0:I 0 H)
  (step:∀ k aS H,xs[k]?=some aS→I k H→∀ l,T C (some l) assign (fun e ts1 H1=>e=.normal∧T C (some l) body (Qcj C Q ts (I (k+1))) ts1 H1) (Qip ts ps.toList aS) H)
  (done:∀ H,I xs.length H→Q .normal ts H):T C none (.rangeFunc f ps assign body) Q ts H:=by
 intro im pl w a hr;refine wpIn_rangeFunc fun fn _=>?_
 have hfv:=Qgl hr.tr f
 rw [hf] at hfv;obtain ⟨lbv,hev,hlbl,hlbv⟩:∃ lbv:List Value,a.eval f=.func (.func g) #[] lbv.toArray∧lb.length=lbv.length∧∀ j,VR im pl w (nth lb j) (lbv.getD j undef):=by
  cases hfe:a.eval f with
  | func g us vs =>
   rw [hfe] at hfv;generalize hus:us=us' at hfv;generalize hvs:vs=vs' at hfv;cases hfv with
   | fn _ _ _ us vs hl1 hr1 hl2 hr2 =>
    have hu:us=[]:=List.eq_nil_of_length_eq_zero hl1.symm
    subst hu;exact ⟨vs,rfl,hl2,hr2⟩
  | _=>rw [hfe] at hfv;cases hfv
 obtain ⟨rec,hrec⟩:∃ rec:LoopState→Option Code→Loop,rec=fun st pe=>{ state:=st,pending:=pe,fn,tmps:=a.tmps,params:=ps,assign,body,defers:=w.heap.size }:=⟨_,rfl⟩
 obtain ⟨W1,hW1⟩:∃ W1,(w.alloc (.deferred (some []))).alloc (.loop (rec .ready none))=W1:=⟨_,rfl⟩
 have hL1:W1.heap[w.heap.size+1]?=some (.loop (rec .ready none)):=by
  rw [← hW1];have:=World.alloc_heap_new (w.alloc (.deferred (some []))) (.loop (rec .ready none));rwa [World.size_alloc] at this
 have hK1:W1.heap[w.heap.size]?=some (.deferred (some [])):=by
  rw [← hW1];exact (Below.heap_alloc _ _ _ (by simp)).trans (World.alloc_heap_new w _)
 have hS1:W1.heap.size=w.heap.size+2:=by rw [← hW1];simp
 have hold:∀ b,b<w.heap.size→W1.heap[b]?=w.heap[b]?:=fun b hb=>by
  rw [← hW1,Below.heap_alloc _ _ _ (by simp;omega),Below.heap_alloc _ _ _ hb]
 have hE1:Ext im pl w im pl W1:=⟨by rw [← hW1];rfl,by rw [← hW1];rfl,by rw [← hW1];rfl,by omega,fun _ h=>h,fun _ h=>.inl h,fun _ _=>.inl rfl,fun r b cap h=>.inl ⟨r,cap,h⟩,fun b hb _=>hold b hb⟩
 -- what stands between two rounds
 let l:=w.heap.size+1
 let b0:=w.heap.size
 let St:=fun (F im':Nat→Prop) (pl':Nat→Place) (H':Qa) (W:World)=>HR im' pl' W H'∧TR im' pl' W ts a.tmps∧Ext im pl w im' pl' W∧W.heap[b0]?=some (.deferred (some []))∧(∀ r cap,pl' r≠.at b0 cap∧pl' r≠.at l cap)∧(¬ im' b0∧¬ im' l)∧(∀ b,F b↔(b=b0∨b=l∨∃ r cap,pl' r=.at b cap))
 let G:Nat→Prop:=fun b=>im b∨w.heap.size≤b
 let J:JT:=fun k F W=>if k≤xs.length then (∃ im' pl' H',I k H'∧St F im' pl' H' W∧W.heap[l]?=some (.loop (rec .ready none)))
  else (∃ e c im' pl' H',(e=Exit.ret∧c=Code.ret∨(∃ id,e=.exit id∧c=.exit id)∨(∃ t,e=.goto t∧c=.goto t))∧Q e ts H'∧St F im' pl' H' W∧W.heap[l]?=some (.loop (rec .done (some c))))
 have stGrow:∀ F im' pl' H' W W',St F im' pl' H' W→Grow W W'→St F im' pl' H' W':=by
  rintro F im' pl' H' W W' ⟨s1,s2,s3,s4,s5,s6,s7⟩ hg
  have hb0:b0<W.heap.size:=(Array.getElem?_eq_some_iff.1 s4).1
  refine ⟨s1.keep hg.size fun b hb=>hg.keep b ?_,s2.keep fun b hb=>hg.keep b (s1.imb b hb), ?_,by rw [hg.keep b0 hb0];exact s4,s5,s6,s7⟩
  ·rcases hb with hb | ⟨r,cap,hb⟩
   ·exact s1.imb b hb
   ·exact s1.bound r b cap hb
  ·refine s3.trans ⟨hg.os,hg.tape,hg.output,hg.size,fun _ h=>h,fun _ h=>.inl h,fun _ _=>.inl rfl,fun r b cap h=>.inl ⟨r,cap,h⟩,fun b hb _=>hg.keep b hb⟩
 have hJ:JOK G J:=by
  refine ⟨fun k F W hj b hb=>?_,fun k F W hj b hb=>?_,fun k F W W' hj hg=>?_⟩
  ·refine .inr ?_
   have:w.heap.size≤W.heap.size:=by
    simp only [J] at hj;split at hj
    ·obtain ⟨im',pl',H',_,⟨_,_,s3,_⟩,_⟩:=hj;exact s3.size
    ·obtain ⟨e,c,im',pl',H',_,_,⟨_,_,s3,_⟩,_⟩:=hj;exact s3.size
   omega
  ·have key:∀ im' pl' H',St F im' pl' H' W→l<W.heap.size→b<W.heap.size:=by
    rintro im' pl' H' ⟨s1,s2,s3,s4,s5,s6,s7⟩ hl;rcases (s7 b).1 hb with rfl | rfl | ⟨r,cap,h⟩
    ·exact (Array.getElem?_eq_some_iff.1 s4).1
    ·exact hl
    ·exact s1.bound r b cap h
   simp only [J] at hj;split at hj
   ·obtain ⟨im',pl',H',_,s,hl⟩:=hj;exact key im' pl' H' s (Array.getElem?_eq_some_iff.1 hl).1
   ·obtain ⟨e,c,im',pl',H',_,_,s,hl⟩:=hj;exact key im' pl' H' s (Array.getElem?_eq_some_iff.1 hl).1
  ·simp only [J] at hj ⊢;split at hj
   ·rename_i hk;rw [if_pos hk];obtain ⟨im',pl',H',hi,s,hl⟩:=hj;exact ⟨im',pl',H',hi,stGrow _ _ _ _ _ _ s hg,by rw [hg.keep l (Array.getElem?_eq_some_iff.1 hl).1];exact hl⟩
   ·rename_i hk;rw [if_neg hk];obtain ⟨e,c,im',pl',H',he,hq,s,hl⟩:=hj;exact ⟨e,c,im',pl',H',he,hq,stGrow _ _ _ _ _ _ s hg,by rw [hg.keep l (Array.getElem?_eq_some_iff.1 hl).1];exact hl⟩
 refine ⟨l,[{ target:=.collected b0,args:=#[] }],W1,{ target:=.fn (.func g) lbv.toArray,args:=#[.func (.yield l) #[] #[]] },W1,g,([Value.func (.yield l) #[] #[]]++lbv).toArray,W1, ?_, ?_,fun _ _=>trivial, ?_,(fun h=>by cases h), ?_⟩
 ·rw [← hW1,hrec];exact run_enterLoop_outer _ _ _ _ _
 ·simp only [resolve,hev];simp [go_sem]
 ·obtain ⟨fn',q1,q2,q3⟩:=hg.1
  have h2':¬ fn'.name = "runtime.NumGoroutine" := by simpa using q2
  have h3':¬ fn'.body=none:=by intro e;rw [e] at q3;cases q3
  simp only [invoke,callFunc];simp [Go.program,Sem.run,q1,h2',h3']
 have hF0:J 0 (fun b=>b=b0∨b=l∨∃ r cap,pl r=.at b cap) W1:=by
  simp only [J];rw [if_pos (Nat.zero_le _)];refine ⟨im,pl,H,h0,⟨hr.hr.keep (by omega) fun b hb=>hold b ?_,hr.tr.keep fun b hb=>hold b (hr.hr.imb b hb),hE1,hK1,fun r cap=>⟨fun e=>?_,fun e=>?_⟩,⟨fun e=>?_,fun e=>?_⟩,fun b=>Iff.rfl⟩,hL1⟩
  ·rcases hb with hb | ⟨r,cap,hb⟩
   ·exact hr.hr.imb b hb
   ·exact hr.hr.bound r b cap hb
  ·have h:w.heap.size<w.heap.size:=hr.hr.bound r _ cap e;omega
  ·have h:w.heap.size+1<w.heap.size:=hr.hr.bound r _ cap e;omega
  ·have h:w.heap.size<w.heap.size:=hr.hr.imb _ e;omega
  ·have h:w.heap.size+1<w.heap.size:=hr.hr.imb _ e;omega
 have hYS:Ql8 C G l xs J:=by
  intro k F W aS imI vs hj hxk hvl hB hv
  have hk:k<xs.length:=(List.getElem?_eq_some_iff.1 hxk).1
  have has:aS∈xs:=List.mem_of_getElem? hxk
  simp only [J] at hj;rw [if_pos (by omega)] at hj
  obtain ⟨im',pl',H',hi,⟨s1,s2,s3,s4,s5,s6,s7⟩,hlr⟩:=hj
  have hll:l<W.heap.size:=(Array.getElem?_eq_some_iff.1 hlr).1
  have hb0:b0<W.heap.size:=(Array.getElem?_eq_some_iff.1 s4).1
  have hy:=run_yield (P:=C.P) (args:=vs.toArray) hlr (by rw [hrec];simp [← hvl,hps aS has])
  rw [hrec] at hy;refine ⟨fn,_,assign,body,hy,roundIn_of_wpIn (F:=FW none) trivial ?_⟩
  -- the caller's state,the iterator's values beside it
  let im2:Nat→Prop:=fun b=>im' b∨imI b
  have hm1:∀ b,im' b→im2 b:=fun b hb=>.inl hb
  have ha2:∀ b,im2 b→b<W.heap.size∧∀ r cap,pl' r≠.at b cap:=by
   rintro b (hb | hb)
   ·exact ⟨s1.imb b hb,s1.apart b hb⟩
   ·exact ⟨(hB b hb).1.1,fun r cap hr=>(hB b hb).1.2 ((s7 b).2 (.inr (.inr ⟨r,cap,hr⟩)))⟩
  have hH2:HR im2 pl' W H':=s1.more hm1 ha2
  have hT2:TR im2 pl' W ts a.tmps:=⟨s2.1,fun i=>(s2.2 i).more hm1⟩
  have hE2:Ext im pl w im2 pl' W:=⟨s3.os,s3.tape,s3.output,s3.size,fun b hb=>.inl (s3.imm b hb),fun b hb=>by
   rcases hb with hb | hb
   ·exact s3.imn b hb
   ·rcases (hB b hb).2 with h | h
    ·exact .inl h
    ·exact .inr (.inl h),s3.plo,s3.pln,s3.frame⟩
  have n0:¬ im2 b0:=by
   rintro (h | h)
   ·exact s6.1 h
   ·exact (hB _ h).1.2 ((s7 _).2 (.inl rfl))
  have nl:¬ im2 l:=by
   rintro (h | h)
   ·exact s6.2 h
   ·exact (hB _ h).1.2 ((s7 _).2 (.inr (.inl rfl)))
  have hput:=Qwt ps.toList aS vs ts a.tmps hT2 hvl fun j=>((hv j).clo (pl':=pl') (Ys (hg.2.1 aS has) j)).more fun b hb=>.inr hb
  have hfold:(ps.toList.zip vs).foldl (fun t p=>t.setIfInBounds p.1 p.2) a.tmps=(ps.zip vs.toArray).foldl (fun tmps (x:Tmp × Value)=>tmps.setIfInBounds x.1 x.2) a.tmps:=by
   rw [← Array.foldl_toList,Array.toList_zip]
  rw [hfold] at hput
  have hst:=step k aS H' hxk hi l im2 pl' W { tmps:=(ps.zip vs.toArray).foldl (fun tmps (x:Tmp × Value)=>tmps.setIfInBounds x.1 x.2) a.tmps,defers:=[] } ⟨hput,hH2,.nil _ _⟩
  refine wpIn_mono (F:=FW (some l)) hst fun e a1 w1 hp=>?_
  have hnorm:e=.normal:=by
   cases e with
   | normal=>rfl
   | panic c=>exact hp.elim
   | outgrown=>exact hp.elim
   | _=>obtain ⟨_,_,_,_,h,_⟩:=hp;cases h.1
  subst hnorm;obtain ⟨ts1,H1,im1,pl1,⟨_,hbody⟩,hR1,hE3,hM1⟩:=hp
  have avl:=hE3.avoid hll (fun r cap=>(s5 r cap).2) nl
  have av0:=hE3.avoid hb0 (fun r cap=>(s5 r cap).1) n0
  have hl1:w1.heap[l]?=some (.loop (rec .ready none)):=avl.2.2.1.trans hlr
  refine ⟨_,run_beginRound hl1 (by rw [hrec]), ?_⟩
  generalize hw2:w1.putObj l (.loop { rec .ready none with state:=.busy })=w2
  have hs2:w2.heap.size=w1.heap.size:=by rw [← hw2,Qc8]
  have hl2:w2.heap[l]?=some (.loop { rec .ready none with state:=.busy }):=by rw [← hw2];exact Qm3 _ _ avl.2.2.2
  have hR2:Rel im1 pl1 w2 ts1 H1 a1:=by rw [← hw2];exact ⟨hR1.tr.putO _ avl.2.1,hR1.hr.put _ avl.2.1 avl.1,hR1.df.putO _ hl1⟩
  refine wpIn_mono (F:=FW (some l)) (hbody im1 pl1 w2 a1 hR2) fun e a2 w3 hp=>?_
  have fin:∀ (jump:Option Code) ts2 H2 im3 pl3,Rel im3 pl3 w3 ts2 H2 a2→Ext im1 pl1 w2 im3 pl3 w3 →
    (∀ F' W4,(∀ b,F' b↔(b=b0∨b=l∨∃ r cap,pl3 r=.at b cap))→St F' im3 pl3 H2 W4→W4.heap[l]?=some (.loop (rec (if jump.isNone then .ready else .done) jump))→J (if jump.isNone=true then k+1 else xs.length+1) F' W4) →
    ∃ v w',(Instr.endRound l jump).run C.P w3=.ok v w'∧∃ b F',Ending.returned v=.returned (.bool b)∧J (if b=true then k+1 else xs.length+1) F' w'∧Chg F W F' w':=by
   intro jump ts2 H2 im3 pl3 hR3 hE4 hJ4
   have bvl:=hE4.avoid (c:=l) (by omega) avl.1 avl.2.1
   have bv0:=hE4.avoid (c:=b0) (by have:=av0.2.2.2;omega) av0.1 av0.2.1
   have hl3:w3.heap[l]?=some (.loop { rec .ready none with state:=.busy }):=bvl.2.2.1.trans hl2
   refine ⟨_,_,run_endRound jump hl3,jump.isNone,fun b=>b=b0∨b=l∨∃ r cap,pl3 r=.at b cap,rfl, ?_, ?_⟩
   ·refine hJ4 _ _ (fun b=>Iff.rfl) ⟨hR3.hr.put _ bvl.2.1 bvl.1, ?_, ?_, ?_,fun r cap=>⟨bv0.1 r cap,bvl.1 r cap⟩,⟨bv0.2.1,bvl.2.1⟩,fun b=>Iff.rfl⟩ ?_
    ·have t1:=(hT2.mono hE3 hH2.apart).putO (.loop { rec .ready none with state:=.busy }) avl.2.1
     rw [hw2] at t1;exact (t1.mono hE4 hR2.hr.apart).putO _ bvl.2.1
    ·have t1:=(hE2.trans hE3).put (.loop { rec .ready none with state:=.busy }) (l:=l) (by simp only [l];omega)
     rw [hw2] at t1;exact (t1.trans hE4).put _ (by simp only [l];omega)
    ·rw [Kj _ _ (by simp only [l,b0];omega),bv0.2.2.1,← hw2,Kj _ _ (by simp only [l,b0];omega),av0.2.2.1];exact s4
    ·rw [Qm3 _ _ bvl.2.2.2,hrec]
   ·refine ⟨by rw [Qc8];have:=hE4.size;have:=hE3.size;omega,fun b hb hF=>?_,fun b hF=>?_⟩
    ·have hnl:b≠l:=fun e=>hF ((s7 b).2 (.inr (.inl e)))
     have hnr:∀ r cap,pl' r≠.at b cap:=fun r cap h=>hF ((s7 b).2 (.inr (.inr ⟨r,cap,h⟩)))
     have hb1:b<w1.heap.size:=Nat.lt_of_lt_of_le hb hE3.size
     have hnr1:∀ r cap,pl1 r≠.at b cap:=fun r cap h=>by
      rcases hE3.pln r b cap h with ⟨r',cap',h1⟩ | h1
      ·exact hnr _ _ h1
      ·omega
     rw [Kj _ _ hnl,hE4.frame b (by omega) hnr1,← hw2,Kj _ _ hnl,hE3.frame b hb hnr]
    ·rcases hF with rfl | rfl | ⟨r,cap,h⟩
     ·exact .inl ((s7 _).2 (.inl rfl))
     ·exact .inl ((s7 _).2 (.inr (.inl rfl)))
     ·rcases hE4.pln r b cap h with ⟨r',cap',h1⟩ | h1
      ·rcases hE3.pln r' b cap' h1 with ⟨r'',cap'',h2⟩ | h2
       ·exact .inl ((s7 _).2 (.inr (.inr ⟨r'',cap'',h2⟩)))
       ·exact .inr h2
      ·have:=hE3.size;exact .inr (by omega)
  have out:∀ c e ts2 H2 im3 pl3,(e=Exit.ret∧c=Code.ret∨(∃ id,e=.exit id∧c=.exit id)∨(∃ t,e=.goto t∧c=.goto t))→Q e ts H2→Rel im3 pl3 w3 ts2 H2 a2→Ext im1 pl1 w2 im3 pl3 w3 →
    ∃ v w',(Instr.endRound l (some c)).run C.P w3=.ok v w'∧∃ b F',Ending.returned v=.returned (.bool b)∧J (if b=true then k+1 else xs.length+1) F' w'∧Chg F W F' w':=by
   intro c e ts2 H2 im3 pl3 he hq hR3 hE4;refine fin (some c) ts2 H2 im3 pl3 hR3 hE4 fun F' W4 hF' hSt hl4=>?_
   simp only [Option.isNone_some,Bool.false_eq_true,if_false] at hl4 ⊢;simp only [J];rw [if_neg (by omega)]
   exact ⟨e,c,im3,pl3,H2,he,hq,hSt,hl4⟩
  cases e with
  | normal =>
   obtain ⟨ts2,H2,im3,pl3,hq,hR3,hE4,_⟩:=hp;refine fin none ts2 H2 im3 pl3 hR3 hE4 fun F' W4 hF' hSt hl4=>?_
   simp only [Option.isNone_none,if_true] at hl4 ⊢;simp only [J];rw [if_pos (by omega)]
   exact ⟨im3,pl3,H2,hq,hSt,hl4⟩
  | ret =>
   obtain ⟨ts2,H2,im3,pl3,hq,hR3,hE4,_⟩:=hp;exact out .ret .ret ts2 H2 im3 pl3 (.inl ⟨rfl,rfl⟩) hq hR3 hE4
  | exit id =>
   obtain ⟨ts2,H2,im3,pl3,hq,hR3,hE4,_⟩:=hp;exact out (.exit id) (.exit id) ts2 H2 im3 pl3 (.inr (.inl ⟨id,rfl,rfl⟩)) hq hR3 hE4
  | goto t =>
   obtain ⟨ts2,H2,im3,pl3,hq,hR3,hE4,_⟩:=hp;exact out (.goto t) (.goto t) ts2 H2 im3 pl3 (.inr (.inr ⟨t,rfl,rfl⟩)) hq hR3 hE4
  | panic c=>exact hp.elim
  | outgrown=>exact hp.elim
 have hcall:=hg.2.2 G im _ W1 lbv l J hlbl (fun j=>((hlbv j).clo (Ys hlb j)).keep fun b hb=>hold b (hr.hr.imb b hb)) (fun b hb=>⟨⟨by have:=hr.hr.imb b hb;omega,fun hF=>?_⟩,.inl hb⟩) hJ hYS hF0
 ·refine CallsIn.mono (F:=FW none) (show CallsIn Fence.wide _ C.P g _ W1 _ from callsIn_wide.2 hcall) fun e W' hp=>?_
  obtain ⟨⟨v,rfl⟩,k,F',hk,hj⟩:=hp
  have fin:∀ e im' pl' H' st pe,(∀ c,e≠Exit.panic c)→e≠.outgrown→Q e ts H'→St F' im' pl' H' W'→W'.heap[l]?=some (.loop (rec st pe))→∀ o,Post im pl w a.defers Q e { a with defers:=[{ target:=.collected b0,args:=#[] }]++a.defers } (W'.putObj l o):=by
   rintro e im' pl' H' st pe hp ho hq ⟨s1,s2,s3,s4,s5,s6,s7⟩ hl o
   have hR:Rel im' pl' (W'.putObj l o) ts H' { a with defers:=[{ target:=.collected b0,args:=#[] }]++a.defers }:=by
    refine ⟨s2.putO o s6.2,s1.put o s6.2 fun r cap=>(s5 r cap).2, ?_⟩
    have hd:=(hr.df.mono s3).putO o hl
    refine ⟨List.pairwise_cons.2 ⟨fun d hd'=>?_,hd.nodup⟩,fun d hd'=>?_⟩
    ·obtain ⟨r,h1,h2,_⟩:=hr.df.each d hd';rw [h1];intro e;injection e with e
     have:=(Array.getElem?_eq_some_iff.1 h2).1
     simp only [b0] at e;omega
    ·rcases List.mem_cons.1 hd' with rfl | hd'
     ·exact ⟨b0,rfl,by rw [Kj _ _ (by simp only [l,b0];omega)];exact s4,fun q cap=>(s5 q cap).1⟩
     ·exact hd.each d hd'
   have hM:Marks w a.defers ([{ target:=.collected b0,args:=#[] }]++a.defers):=⟨_,rfl,fun d hd=>by
    rcases List.mem_singleton.1 hd with rfl
    exact ⟨b0,rfl,Nat.le_refl _⟩⟩
   have hE:=s3.put o (l:=l) (by simp only [l];omega)
   cases e with
   | panic c=>exact (hp c rfl).elim
   | outgrown=>exact (ho rfl).elim
   | _=>exact ⟨ts,H',im',pl',hq,hR,hE,hM⟩
  simp only [J] at hj;rcases hk with rfl | rfl
  ·rw [if_pos (Nat.le_refl _)] at hj;obtain ⟨im',pl',H',hi,hSt,hl⟩:=hj
   have hend:=run_endLoop (P:=C.P) hl (by rw [hrec];simp)
   rw [hrec] at hend;refine ⟨none,_,hend, ?_⟩;exact fin .normal im' pl' H' _ _ (by simp) (by simp) (done H' hi) hSt hl _
  ·rw [if_neg (by omega)] at hj
   obtain ⟨e,c,im',pl',H',he,hq,hSt,hl⟩:=hj
   have hend:=run_endLoop (P:=C.P) hl (by rw [hrec];simp)
   rw [hrec] at hend;refine ⟨some c,_,hend, ?_⟩;rcases he with ⟨rfl,rfl⟩ | ⟨id,rfl,rfl⟩ | ⟨t,rfl,rfl⟩
   ·exact wpIn_ret (fin _ im' pl' H' _ _ (by simp) (by simp) hq hSt hl _)
   ·exact wpIn_exit (fin _ im' pl' H' _ _ (by simp) (by simp) hq hSt hl _)
   ·exact wpIn_goto (fin _ im' pl' H' _ _ (by simp) (by simp) hq hSt hl _)
 ·have h1:=hr.hr.imb b hb
  rcases hF with rfl | rfl | ⟨r,cap,hF⟩
  ·have h:w.heap.size<w.heap.size:=h1;omega
  ·have h:w.heap.size+1<w.heap.size:=h1;omega
  ·exact hr.hr.apart b hb r cap hF
theorem Qxi {y:Ty} {e e' s' n:Nat} {v x:V} {H:Qa} {cs:List V} {K:V→Qa→Prop} (h:Own e 1 H v n cs) (hy:y.size=1) (hb:0<y.bytes∧y.bytes≤64) (hl:n+1≤2000000000000) (hx:Yc x=true) (hc:cs.all Yc=true)
  (hK:∀ v' H',Own e 1 H' v' (n+1) (cs++[x])→Fr v H H'→K v' H'):Qaa y e v (.ref H.length 0 1) (H++[some ⟨e',s',[x]⟩]) K:=by
 rw [← hy] at h;refine Qxj h (by simp [hy]) (by simp [hx]) (by omega) hb.1 ?_ hc fun v' H' h1 h2=>hK v' H' ?_ h2
 ·have:=Nat.mul_le_mul hl hb.2;omega
 ·rwa [hy] at h1
theorem Qkm {α:Type} (l:List α) (d:α) {i:Nat} (h:i<l.length):l.take (i+1)=l.take i++[l.getD i d]:=by
 rw [List.take_add_one];congr 1;simp [List.getD,h]
theorem Xao {Q:Exit→List V→Qa→Prop} {ts:List V} {H:Qa} (id id':Nat) (h:id'≠id):Zs id Q (.exit id') ts H=Q (.exit id') ts H:=by simp [Zs,h]
attribute [go_sem] Xao
theorem Qnz {y:Ty} {e m r:Nat} {H:Qa} {cs:List V} {K:V→Qa→Prop} (hr:Qc H r=some ⟨e,1,[]⟩) (hy:y.size=1) (hb:0<y.bytes∧y.bytes≤64) (hl:m≤2000000000000) (hm:cs.length=m) (hc:cs.all Yc=true)
  (hK:∀ v' H',Own e 1 H' v' m cs→Fr (.ref r 0 0) H H'→K v' H'):Qaa y e (.ref r 0 0) (.sl m cs) H K:=by
 have h:Own e y.size H (.ref r 0 0) 0 []:=.inr ⟨r,rfl,by rw [hy];exact hr,by simp⟩
 refine Qcv h (m:=m) (news:=cs) rfl (by rw [hy,hm];omega) hc (by omega) hb.1 ?_ rfl fun v' H' h1 h2 _ _=>hK v' H' ?_ h2
 ·have:=Nat.mul_le_mul hl hb.2;rw [Nat.zero_add];omega
 ·rw [hy] at h1;simpa using h1
theorem Xjc (k:IntKind) (n:Int):cv1 (.int k n)=.int k n:=rfl
theorem Xfc (b:Bool):cv1 (.bool b)=.bool b:=rfl
theorem Xja (b:ByteArray):cv1 (.string b)=.str b:=rfl
theorem Xjb:cv1 (.slice none 0 0)=.nil:=rfl
theorem Xfa:cv1 (.pointer none)=.nilp:=rfl
theorem Xfb:cv1 .nilFunc=.nilf:=rfl
attribute [go_sem] Xjc Xfc Xja Xjb Xfa Xfb
mutual
theorem Ya (g:Nat→Option Nat):∀ v:V,clo v=true→ren g v=v
 | .any,_=>rfl
 | .int _ _,_=>rfl
 | .bool _,_=>rfl
 | .str _,_=>rfl
 | .nil,_=>rfl
 | .sl n cs,h=>by simp only [ren,Yd g cs h]
 | .ref _ _ _,h=>by cases h
 | .agg cs,h=>by simp only [ren,Yd g cs h]
 | .tup vs,h=>by simp only [ren,Yd g vs h]
 | .ptr _ _,h=>by cases h
 | .nilp,_=>rfl
 | .rp cs off,h=>by simp only [ren,Yd g cs h]
 | .fn f xs ys,h=>by
  simp only [clo,Bool.and_eq_true] at h;simp only [ren,Yd g xs h.1,Yd g ys h.2]
 | .nilf,_=>rfl
 | .mp k ks vs,h=>by simp only [ren,Yd g vs h]
theorem Yd (g:Nat→Option Nat):∀ l:List V,Qf l=true→Qe g l=l
 | [],_=>rfl
 | v::l,h=>by
  simp only [Qf,Bool.and_eq_true] at h;simp only [Qe,Ya g v h.1,Yd g l h.2]
end
end Go.Bv
end
section
namespace Go.Bv
open Go.RowKit
theorem Gen.of4 {C:Ctx} (hm:C.P.follows .mixedOrders=true) {g:FuncId} {fn:Func} {c:Code} {lb:List V} {xs:List (List V)} {N:Nat} (hf:C.P.funcs[g]?=some fn) (hb:fn.body=some c) (hn:(fn.name == "runtime.NumGoroutine")=false) (hN:fn.ntmps=N) (hr:fn.results=#[]) (ha:lb.length+1≤N)
  (hx:∀ aS∈xs,Qf aS=true) (h:∀ G l J,(∀ c Q ts H,wpY C G l xs J c Q ts H→TY C G J c Q ts H)→TY C G J c (fun e _ H=>(e=.normal∨e=.ret)∧(H.length=xs.length∨H.length=xs.length+1)) (env N (Qa9 0 (.fn (.yield l) [] []::lb))) []):Gen C g lb xs:=by
 subst hN;refine ⟨⟨fn,hf,hn,by rw [hb];rfl⟩,hx,fun G im F w lbv l J hl hv hB hJ hY hj=>(callsIn_wide (n:=0)).1 ?_⟩
 refine callsIn_of_wp_marks hf hb trivial ?_
 have hI:InvY G J (.fn (.yield l) [] []::lb++List.replicate (fn.ntmps - (lb.length+1)) .any) [] { tmps:=(Value.func (.yield l) #[] #[]::lbv).toArray++Array.replicate (fn.ntmps - (Value.func (.yield l) #[] #[]::lbv).toArray.size) undef,defers:=[] } w:=by
  refine ⟨im,F,rfl,⟨by simp [hl];omega,fun i=>?_⟩,rfl,hB,hj⟩
  cases i with
  | zero =>
   have h0:VR im (dk 0) w (.fn (.yield l) [] []) (.func (.yield l) #[] #[]):=VR.fn (.yield l) [] [] [] [] rfl (fun j=>by simp only [nth];exact .any _) rfl (fun j=>by simp only [nth];exact .any _)
   simpa [nth,Array.getD_eq_getD_getElem?,Array.getElem?_append] using h0
  | succ i =>
   rw [Yj];split
   ·rename_i hi
    have hi':i<lb.length:=by simpa using hi
    have:=(hv i).ren (g:=some) (im':=im) (pl':=dk 0) (fun r r' e=>by simp [dk,Kw]) (fun b hb=>hb)
    rw [Qdz] at this;simpa [nth,Array.getD_eq_getD_getElem?,Array.getElem?_append_left,hl ▸ hi',List.getD] using this
   ·have:nth (List.replicate (fn.ntmps - (lb.length+1)) V.any) (i+1 - (V.fn (Fn.yield l) [] []::lb).length)=.any:=by
     rw [Xo];simp [List.getD,List.getElem?_replicate];split<;>rfl
    rw [this];exact .any _
 have hT:=Qv3 (Qa9 0 (.fn (.yield l) [] []::lb)) (by simp;omega) (fun p hp=>by
  obtain ⟨h1,h2,h3⟩:=Qf6 _ 0 p hp;rw [Yj,if_pos (by omega)]
  exact h3) (h G l J (Qmr hm hx hJ hY)) _ _ hI
 refine wpIn_mono hT fun e a' w' hp=>?_
 have fin:∀ ts' H',((e=.normal∨e=.ret)∧(H'.length=xs.length∨H'.length=xs.length+1))→InvY G J ts' H' a' w'→LeavesInM Fence.wide 0 C.P fn a'.tmps (fun e W'=>(∃ v,e=Ending.returned v)∧∃ k F',(k=xs.length∨k=xs.length+1)∧J k F' W') a'.defers .returning w':=by
  intro ts' H' k1 k2;obtain ⟨im',F',e1,e2,e3,e4,e5⟩:=k2.h;rw [e3];refine ⟨.tuple #[], ?_,⟨_,rfl⟩,_,F',k1.2,e5⟩;simp [results,hr,Sem.run_bind]
 cases e with
 | normal=>obtain ⟨ts',H',k1,k2⟩:=hp;exact fin ts' H' k1 k2
 | ret=>obtain ⟨ts',H',k1,k2⟩:=hp;exact fin ts' H' k1 k2
 | exit id=>obtain ⟨ts',H',k1,k2⟩:=hp;rcases k1.1 with k | k<;>cases k
 | goto l=>obtain ⟨ts',H',k1,k2⟩:=hp;rcases k1.1 with k | k<;>cases k
 | panic _=>exact hp.elim
 | outgrown=>exact hp.elim
theorem Qeg {C:Ctx} {f:Operand} {ps:Array Tmp} {assign body:Tr} {Q:Exit→List V→Qa→Prop} {ts:List V} {H:Qa} {g:FuncId} {lb:List V} {xs:List (List V)} (hf:ev ts f=.fn (.func g) [] lb) (hlb:Qf lb=true) (hg:Gen C g lb xs) (hps:∀ aS∈xs,aS.length=ps.size)
  (I:Nat→Qa→Prop) (h0:I 0 H)
  (step:∀ k aS H,xs[k]?=some aS→I k H→∀ l,TT C (some l) assign (fun e ts1 H1=>e=.normal∧TT C (some l) body (Qcj C Q ts (I (k+1))) ts1 H1) (Qip ts ps.toList aS) H)
  (done:∀ H,I xs.length H→Q .normal ts H):TT C none (.f f ps assign body) Q ts H:=fun c hc=>by
 obtain ⟨x,y,rfl,hx,hy⟩:=Qvz hc;exact Xjo hf hlb hg hps I h0 (fun k aS H h1 h2 l=>(step k aS H h1 h2 l x hx).mono fun e ts H h=>⟨h.1,h.2 y hy⟩) done
def yOK:Code→Bool
 | .region _ ops b=>(Qw5 ops&&!b)||(Qub ops&&(!b||Jy ops))
 | .seq a b=>yOK a&&yOK b
 | .cond _ a b=>yOK a&&yOK b
 | .block _ a=>yOK a
 | .loop a=>yOK a
 | _=>true
def TTY (C:Ctx) (G:Nat→Prop) (J:JT) (t:Tr) (Q:Exit→List V→Qa→Prop) (ts:List V) (H:Qa):Prop:=∀ c,Qo C c=t→yOK c=true→TY C G J c Q ts H
def Ku:List O2→Bool
 | []=>false
 | .n _ op::l=>Qd7 op||Ku l
 | _::l=>Ku l
def Qye (C:Ctx) (n:Nat) (xs:List (List V)) (b:Bool) (l:List O2) (Q:Exit→List V→Qa→Prop) (ts:List V) (H:Qa):Prop:=match b with
 | true=>Qbq C (cwF C) l (fun ts1 H1=>Xgj Q H ts1 H1) ts H
 | false=>Qbq C (cwY n xs) l (Q .normal) ts H
def Qbr (C:Ctx) (G:Nat→Prop) (n:Nat) (xs:List (List V)) (J:JT):Tr→(Exit→List V→Qa→Prop)→List V→Qa→Prop
 | .s,Q,ts,H=>Q .normal ts H
 | .r,Q,ts,H=>Q .ret ts H
 | .x id,Q,ts,H=>Q (.exit id) ts H
 | .R l,Q,ts,H=>Qye C n xs (Ku l) l Q ts H
 | .D _ l,Q,ts,H=>Ka C (cwY n xs) H l (Q .normal) ts H
 | .U l,Q,ts,H=>Ka C (cwY n xs) H l (Q .normal) ts H
 | .P l x,Q,ts,H=>Ka C (cwY n xs) H (l++x) (Q .normal) ts H
 | .q a b,Q,ts,H=>Qbr C G n xs J a (Qdk (Qbr C G n xs J b Q) Q) ts H
 | .c o a b,Q,ts,H=>Qe2 (ev ts o) (Qbr C G n xs J a Q ts H) (Qbr C G n xs J b Q ts H)
 | .b id a,Q,ts,H=>Qbr C G n xs J a (Zs id Q) ts H
 | .l a,Q,ts,H=>TTY C G J (.l a) Q ts H
 | _,_,_,_=>False
section
variable (C:Ctx) (G:Nat→Prop) (n:Nat) (xs:List (List V)) (J:JT) (Q:Exit→List V→Qa→Prop) (ts:List V) (H:Qa) (a b:Tr)
@[go_sem] theorem Xqi:Qbr C G n xs J .s Q ts H=Q .normal ts H:=rfl
@[go_sem] theorem Xqj:Qbr C G n xs J .r Q ts H=Q .ret ts H:=rfl
@[go_sem] theorem Xqh (id:Nat):Qbr C G n xs J (.x id) Q ts H=Q (.exit id) ts H:=rfl
@[go_sem] theorem Xlb (l:List O2):Qbr C G n xs J (.R l) Q ts H=Qye C n xs (Ku l) l Q ts H:=rfl
@[congr] theorem Xln {uu:Prop} (h00:(True∧True)=uu) {b b':Bool} (l:List O2) {ts':List V} {H':Qa} (hb:b=b') (h1:ts=ts') (h2:H=H'):Qye C n xs b l Q ts H=Qye C n xs b' l Q ts' H':=by rw [hb,h1,h2]
@[go_sem] theorem Xll (l:List O2):Qye C n xs true l Q ts H=Qbq C (cwF C) l (fun ts1 H1=>Xgj Q H ts1 H1) ts H:=rfl
@[go_sem] theorem Xlm (l:List O2):Qye C n xs false l Q ts H=Qbq C (cwY n xs) l (Q .normal) ts H:=rfl
attribute [go_sem] Bool.false_or Bool.true_or Bool.or_false
@[go_sem] theorem Xmo:Ku []=false:=rfl
@[go_sem] theorem Xph (d:Nat) (op:Op) (l:List O2):Ku (.n d op::l)=(Qd7 op||Ku l):=rfl
@[go_sem] theorem Xpg (op:Op) (l:List O2):Ku (.z op::l)=Ku l:=rfl
@[go_sem] theorem Xpi (d:Option Nat) (op:Op) (s:Nat) (b:Bool) (l:List O2):Ku (.g d op s b::l)=Ku l:=rfl
@[go_sem] theorem Xmk (t:TypeId):Qd7 (.alloc t)=true:=rfl
@[go_sem] theorem Xob (x:Operand):Qd7 (.move x)=false:=rfl
@[go_sem] theorem Xka (x:Operand):Qd7 (.assign x)=false:=rfl
@[go_sem] theorem Xoa (x y z:Operand):Qd7 (.pick x y z)=false:=rfl
@[go_sem] theorem Xmj (o:BinOp) (t:TypeId) (x y:Operand) (u:TypeId):Qd7 (.binOp o t x y u)=false:=rfl
@[go_sem] theorem Xn9 (o:UnOp) (t:TypeId) (x:Operand):Qd7 (.unOp o t x)=false:=rfl
@[go_sem] theorem Xik (s t:TypeId) (x:Operand):Qd7 (.convert s t x)=false:=rfl
@[go_sem] theorem Xij (x:Operand) (i:Nat):Qd7 (.extract x i)=false:=rfl
@[go_sem] theorem Xoc (t:TypeId) (x:Operand):Qd7 (.load t x)=false:=rfl
@[go_sem] theorem Xmi (t:TypeId) (ps:Array (Nat × Operand)):Qd7 (.build t ps)=false:=rfl
@[go_sem] theorem Xa2 (t:TypeId) (n:Nat) (ps:Array (Nat × Operand)):Qd7 (.buildSlice t n ps)=false:=rfl
@[go_sem] theorem Xd6 (t:TypeId) (x:Operand) (i:Nat):Qd7 (.fieldAddr t x i)=false:=rfl
@[go_sem] theorem Xmh (t:TypeId) (x:Operand) (i:Nat):Qd7 (.field t x i)=false:=rfl
@[go_sem] theorem Xd5 (t:TypeId) (x i:Operand):Qd7 (.indexAddr t x i)=false:=rfl
@[go_sem] theorem Xmg (t:TypeId) (x i:Operand):Qd7 (.index t x i)=false:=rfl
@[go_sem] theorem Xod (c:Call):Qd7 (.call c)=false:=rfl
@[go_sem] theorem Xmf (t:TypeId) (x:Operand) (a b c:Option Operand):Qd7 (.slice t x a b c)=false:=rfl
@[go_sem] theorem Xqo (ok:Bool) (l:List O2):Qbr C G n xs J (.D ok l) Q ts H=Ka C (cwY n xs) H l (Q .normal) ts H:=rfl
@[go_sem] theorem Xqn (l:List O2):Qbr C G n xs J (.U l) Q ts H=Ka C (cwY n xs) H l (Q .normal) ts H:=rfl
@[go_sem] theorem Xlc (l x:List O2):Qbr C G n xs J (.P l x) Q ts H=Ka C (cwY n xs) H (l++x) (Q .normal) ts H:=rfl
@[go_sem] theorem Xqk:Qbr C G n xs J (.q a b) Q ts H=Qbr C G n xs J a (Qdk (Qbr C G n xs J b Q) Q) ts H:=rfl
@[go_sem] theorem Xla (o:Operand):Qbr C G n xs J (.c o a b) Q ts H=Qe2 (ev ts o) (Qbr C G n xs J a Q ts H) (Qbr C G n xs J b Q ts H):=rfl
@[go_sem] theorem Xqm (id:Nat):Qbr C G n xs J (.b id a) Q ts H=Qbr C G n xs J a (Zs id Q) ts H:=rfl
@[go_sem] theorem Xql:Qbr C G n xs J (.l a) Q ts H=TTY C G J (.l a) Q ts H:=rfl
end
@[go_sem] theorem Xoh {l:Nat} {xs:List (List V)} {H:Qa} (args:List V) (K:V→Qa→Prop):cwY l xs (.fn (.yield l) [] []) args H K=(xs[H.length]?=some args∧K (.bool true) (H++[none])∧K (.bool false) (H++List.replicate (xs.length+1 - H.length) none)):=by simp [cwY]
@[congr] theorem Xk9 {C:Ctx} {G:Nat→Prop} {n:Nat} {xs:List (List V)} {J:JT} {Q:Exit→List V→Qa→Prop} {ts ts':List V} {H H':Qa} {uu:Prop} (h00:(True∧True)=uu) (t:Tr) (h1:ts=ts') (h2:H=H'):Qbr C G n xs J t Q ts H=Qbr C G n xs J t Q ts' H':=by rw [h1,h2]
@[congr] theorem Xoo {C:Ctx} {G:Nat→Prop} {J:JT} {Q:Exit→List V→Qa→Prop} {ts ts':List V} {H H':Qa} {uu:Prop} (h00:(True∧True)=uu) (t:Tr) (h1:ts=ts') (h2:H=H'):TTY C G J t Q ts H=TTY C G J t Q ts' H':=by rw [h1,h2]
theorem Qa4 {C:Ctx} {G:Nat→Prop} {J:JT} {a:Tr} {Q:Exit→List V→Qa→Prop} (I:Nat→List V→Qa→Prop) (step:∀ n ts H,I n ts H→TTY C G J a (Qdk (fun ts' H'=>∃ m,m<n∧I m ts' H') Q) ts H) {n:Nat} {ts:List V} {H:Qa} (h:I n ts H):TTY C G J (.l a) Q ts H:=fun c hc hy=>by
 obtain ⟨d,rfl,hd⟩:=Qja hc;exact Qsz I (fun n ts H h=>step n ts H h d hd hy) h
theorem Qil {C:Ctx} {G:Nat→Prop} {J:JT} {t:Tr} {Q:Exit→List V→Qa→Prop} {ts:List V} {H:Qa} {N:Nat} (m:List (Nat × V)) (hL:ts.length=N) (hl:∀ p∈m,nth ts p.1=p.2) (h:TTY C G J t Q (env N m) H):TTY C G J t Q ts H:=fun c hc hy=>Qv3 m hL hl (h c hc hy)
theorem Qd9 (all:List Oper):∀ (l:List Oper),Ku (Xl all l)=l.any Qrt
 | []=>rfl
 | ⟨some d,op,t,p,a,none⟩::l=>by
  have ih:=Qd9 all l
  simp [Xl,Ku,Qrt,ih]
 | ⟨none,op,t,p,a,none⟩::l=>by
  have ih:=Qd9 all l
  simp [Xl,Ku,Qrt,ih]
 | ⟨d,op,t,p,a,some (j,b)⟩::l=>by
  have ih:=Qd9 all l
  simp only [Xl,List.any_cons,Qrt,Option.isNone_some,Bool.false_and,Bool.false_or];cases Qeb all j<;>simpa [Ku] using ih
theorem Qwp {C:Ctx} {G:Nat→Prop} {n:Nat} {xs:List (List V)} {J:JT} (hw:∀ c Q ts H,wpY C G n xs J c Q ts H→TY C G J c Q ts H):∀ (c:Code) (Q:Exit→List V→Qa→Prop) (ts:List V) (H:Qa),yOK c=true→Qbr C G n xs J (Qo C c) Q ts H→TY C G J c Q ts H:=by
 intro c
 induction c with
 | skip=>exact fun Q ts H hy h=>hw _ _ _ _ h
 | ret=>exact fun Q ts H hy h=>hw _ _ _ _ h
 | exit id=>exact fun Q ts H hy h=>hw _ _ _ _ h
 | region id ops b =>
  intro Q ts H hy h;simp only [yOK,Bool.or_eq_true,Bool.and_eq_true] at hy;simp only [Qo] at h;rcases Qcw C ops b with hc0 | ⟨rfl,m,d,n0,t,k,hok,hb1,hb2,hc0⟩ | ⟨rfl,hok,hb1,hc0⟩
  case inr.inl=>rw [hc0] at h;exact h.elim
  case inr.inr=>rw [hc0] at h;exact h.elim
  rw [hc0] at h;simp only [Qju] at h;cases hk:okO (Xl ops.toList ops.toList) with
  | false=>rw [hk] at h;cases b<;>exact h.elim
  | true =>
   have hb:=Qda hk
   rw [hk] at h;cases b with
   | false =>
    simp only [Xlb] at h;cases hal:Ku (Xl ops.toList ops.toList) with
    | true =>
     rw [hal,Xll,Qcx C _ _ _ _ _ _ hb,Array.toArray_toList] at h;exact hw _ _ _ _ (.inl ⟨by rw [Qw5,← Qd9];exact hal,rfl,h⟩)
    | false =>
     rw [hal,Xlm,Qcx C _ _ _ _ _ _ hb,Array.toArray_toList] at h;rcases hy with ⟨hy,_⟩ | hy
     ·rw [Qw5,← Qd9 ops.toList,hal] at hy;cases hy
     ·exact hw _ _ _ _ (.inr ⟨hy.1,h⟩)
   | true =>
    simp only [Bool.not_true,Bool.false_or,Bool.and_false,Bool.false_eq_true,and_false,false_or] at hy
    have h:Ka C (cwY n xs) H (Xl ops.toList ops.toList) (Q .normal) ts H:=by
     simp only [Xf0 (show Ko C ops=true by simp [Ko,hy.2])] at h
     rcases Qex C ops with hc | ⟨hd,hc⟩ | ⟨hd,hc⟩
     ·rw [hc] at h;exact h
     ·rw [hc] at h;exact h
     ·rw [hc,Xlc,← Qcy,List.dropLast_eq_take,Array.length_toList,List.take_append_drop] at h;exact h
    rw [Kg C _ _ _ _ _ _ _ hb,Array.toArray_toList] at h;exact hw _ _ _ _ (.inr ⟨hy.1,hy.2,h⟩)
 | seq x y ihx ihy =>
  intro Q ts H hy h;simp only [yOK,Bool.and_eq_true] at hy;exact Xf6 ((ihx _ _ _ hy.1 h).mono fun e ts H hq=>by
   cases e with
   | normal=>exact ihy _ _ _ hy.2 hq
   | _=>exact hq)
 | cond o x y ihx ihy =>
  intro Q ts H hy h;simp only [yOK,Bool.and_eq_true] at hy;simp only [Qo,Xla,Qe2] at h;split at h
  ·rename_i b hb;exact Qxo hb (fun e=>ihx _ _ _ hy.1 (h.1 e)) (fun e=>ihy _ _ _ hy.2 (h.2 e))
  ·exact h.elim
 | block id c ih=>exact fun Q ts H hy h=>Qs0 (ih _ _ _ hy h)
 | loop c _=>exact fun Q ts H hy h=>h (.loop c) rfl hy
 | _=>exact fun Q ts H hy h=>h.elim
theorem Gen.of3 {C:Ctx} (hm:C.P.follows .mixedOrders=true) {g:FuncId} {fn:Func} {t:Tr} {lb:List V} {xs:List (List V)} {N:Nat} (hf:C.P.funcs[g]?=some fn) (hb:fn.body.map (Qo C)=some t) (hy:fn.body.all yOK=true) (hn:(fn.name == "runtime.NumGoroutine")=false) (hN:fn.ntmps=N) (hr:fn.results=#[]) (ha:lb.length+1≤N)
  (hx:∀ aS∈xs,Qf aS=true) (h:∀ G l J,(∀ t Q ts H,Qbr C G l xs J t Q ts H→TTY C G J t Q ts H)→Qbr C G l xs J t (fun e _ H=>(e=.normal∨e=.ret)∧(H.length=xs.length∨H.length=xs.length+1)) (env N (Qa9 0 (.fn (.yield l) [] []::lb))) []):Gen C g lb xs:=by
 obtain ⟨c,hb,hc⟩:=Option.map_eq_some_iff.1 hb;rw [hb] at hy
 have hy:yOK c=true:=hy
 have key:∀ G l J,(∀ c Q ts H,wpY C G l xs J c Q ts H→TY C G J c Q ts H)→TY C G J c (fun e _ H=>(e=.normal∨e=.ret)∧(H.length=xs.length∨H.length=xs.length+1)) (env N (Qa9 0 (.fn (.yield l) [] []::lb))) []:=fun G l J hw=>by
  subst hc;exact Qwp hw c _ _ _ hy (h G l J fun t Q ts H hr c hc hy=>by subst hc;exact Qwp hw c _ _ _ hy hr)
 exact Gen.of4 hm hf hb hn hN hr ha hx key
end Go.Bv
end
section
namespace Go.Bv
open Go.RowKit
def RetO2 (e s:Nat) (H:Qa) (v:V) (n:Nat) (cs:List V) (u:V):Prop:=∃ w,v=.tup [w,u]∧Ret e s H w n cs
theorem RetO2.ret2 {e s:Nat} {H:Qa} {v:V} {n:Nat} {cs:List V} {u:V} (h:RetO2 e s H v n cs u):Xnt e s H v n cs u:=by
 obtain ⟨w,h1,h2⟩:=h;exact ⟨w,h1,.inr h2⟩
theorem Own.two {e s:Nat} {H:Qa} {v:V} {n:Nat} {cs:List V} (h:Own e s H v n cs) (hc:∀ g,Qe g cs=cs) {u:V} (hu:∀ g,ren g u=u):∃ sel,Qa7 sel (fun v H=>RetO2 e s H v n cs u) (.tup [v,u]) H :=
 h.ret2 hc hu fun v H h=>⟨v,rfl,h⟩
theorem Xh6 {e s:Nat} {H:Qa} {u:V} (hu:∀ g,ren g u=u):∃ sel,Qa7 sel (fun v H=>RetO2 e s H v 0 [] u) (.tup [.nil,u]) H :=
 (Own.nil e s H).two (fun g=>rfl) hu
theorem Ret.some {e s n:Nat} {cs:List V} (h:cs.length=n*s):∃ v H,Ret e s H v n cs:=⟨_,_,.inr ⟨rfl,rfl,h⟩⟩
theorem RetO2.some {e s n:Nat} {cs:List V} (u:V) (h:cs.length=n*s):∃ v H,RetO2 e s H v n cs u:=⟨_,_,_,rfl,.inr ⟨rfl,rfl,h⟩⟩
theorem RetO2.plain {e s:Nat} {H:Qa} {v:V} {n:Nat} {cs:List V} {u:V} (h:RetO2 e s H v n cs u) (hp:Xd cs=true) (hu:Bv.plain u=true):Bv.plain v=true∧Jb H:=by
 obtain ⟨w,rfl,h⟩:=h;obtain ⟨h1,h2⟩:=h.plain hp;exact ⟨by simp [Bv.plain,Xd,h1,hu],h2⟩
theorem RetO2.own {e s:Nat} {H H':Qa} {v:V} {n:Nat} {cs:List V} {u:V} (h:RetO2 e s H' v n cs u) (hc:∀ g,Qe g cs=cs) (hu:∀ g,ren g u=u):∃ w,ren (shift H.length) v=.tup [w,u]∧Own e s (H++Qbs (shift H.length) H') w n cs:=by
 obtain ⟨w,rfl,h⟩:=h;exact ⟨_,by simp only [ren,Qe,hu],h.own hc⟩
theorem Fc.own2 {C:Ctx} {f:FuncId} {args args':List V} {H:Qa} {K:V→Qa→Prop} {e s n:Nat} {cs:List V} {u:V} (h:Fc C f args' [] fun v H=>RetO2 e s H v n cs u) (hb:BorL H args args') (hc:∀ g,Qe g cs=cs) (hp:Xd cs=true) (hu:∀ g,ren g u=u) (hpu:plain u=true)
  (hK:∀ w X,Own e s (H++X) w n cs→K (.tup [w,u]) (H++X)):Fc C f args H K :=
 h.borrow hb.all.1 hb.all.2 (fun v H' hv=>hv.plain hp hpu) fun v H' hv=>by
  obtain ⟨w,e1,h1⟩:=hv.own (H:=H) hc hu;rw [e1];exact hK _ _ h1
theorem Pc.own2 {C:Ctx} {H0:Qa} {f:FuncId} {args args':List V} {H:Qa} {K:V→Qa→Prop} {e s n:Nat} {cs:List V} {u:V} (h:Fc C f args' [] fun v H=>RetO2 e s H v n cs u) (hb:BorL H args args') (hl:cs.length=n*s) (hc:∀ g,Qe g cs=cs) (hp:Xd cs=true) (hu:∀ g,ren g u=u) (hpu:plain u=true)
  (hK:∀ w X,Own e s (H++X) w n cs→K (.tup [w,u]) (H++X)):Pc C H0 f args H K :=
 Pc.borrow h (RetO2.some u hl) hb.all.1 hb.all.2 (fun v H' hv=>hv.plain hp hpu) fun v H' hv=>by
  obtain ⟨w,e1,h1⟩:=hv.own (H:=H) hc hu;rw [e1];exact hK _ _ h1
theorem Pc.ownL {C:Ctx} {H0:Qa} {f:FuncId} {args args':List V} {H:Qa} {K:V→Qa→Prop} {e s n:Nat} {cs:List V} (h:Fc C f args' [] fun v H=>Ret e s H v n cs) (hb:BorL H args args') (hl:cs.length=n*s) (hc:∀ g,Qe g cs=cs) (hp:Xd cs=true) (hK:∀ v X,Own e s (H++X) v n cs→K v (H++X)):Pc C H0 f args H K :=
 Pc.borrow h (Ret.some hl) hb.all.1 hb.all.2 (fun v H' hv=>hv.plain hp) fun v H' hv=>hK _ _ (hv.own hc)
theorem BorL.one {H:Qa} {a b:V} (h:Bor H a b):BorL H [a] [b]:=⟨h,trivial⟩
theorem Fc.byVal {C:Ctx} {f:FuncId} {args args':List V} {H:Qa} {Q K:V→Qa→Prop} {u:V} (h:Fc C f args' [] Q) (hl:args.length=args'.length) (hb:∀ j,Bor H (nth args j) (nth args' j)) (hp:∀ v H',Q v H'→plain v=true∧Jb H')
  (hv:∀ im pl w v H c,Q v H→VR im pl w v c→HR im pl w H→∃ im1 pl1 H1,HR im1 pl1 w H1∧Ext im pl w im1 pl1 w∧VR im1 pl1 w u c) (hu:clo u=true) (hK:K u H):Fc C f args H K:=by
 refine ⟨h.1,fun im pl w vs hvl hvs hH=>?_⟩
 have hcall:=h.2 (Qs3 im pl) Kw w vs (by omega) (fun j=>(hb j).VR hH (hvs j)) (HR.none fun b hb=>by
  rcases hb with hb | ⟨r,cap,hb⟩
  ·exact hH.imb b hb
  ·exact hH.bound r b cap hb)
 refine (callsIn_wide (n:=0)).1 ((callsIn_wide.2 hcall).mono fun e w' hq=>?_)
 cases e with
 | panicked _=>exact hq
 | outgrown=>exact hq
 | returned vc =>
  obtain ⟨v,H',im',pl',k1,k2,k3,k4⟩:=hq;obtain ⟨p1,p2⟩:=hp v H' k1
  have hS:HR (fun b=>im b∨(w.heap.size≤b∧im' b)) pl' w' H':=by
   have hsub:∀ b,(im b∨(w.heap.size≤b∧im' b))→im' b:=fun b hb=>by
    rcases hb with hb | hb
    ·exact k4.imm b (.inl hb)
    ·exact hb.2
   refine ⟨k3.len,fun b hb=>k3.apart b (hsub b hb),k3.bound,fun b hb=>k3.imb b (hsub b hb),k3.inj,k3.dead,k3.virt,fun r b cap hr=>?_⟩
   obtain ⟨e,s,cs,cur,q1,q2,q3,q4,q5,q6⟩:=k3.row r b cap hr;exact ⟨e,s,cs,cur,q1,q2,q3,q4,q5,fun j=>(q6 j).plain (Ja (p2 r _ q1) j)⟩
  have hES:Ext im Kw w (fun b=>im b∨(w.heap.size≤b∧im' b)) pl' w' :=
   ⟨k4.os,k4.tape,k4.output,k4.size,fun b hb=>.inl hb,fun b hb=>hb.elim .inl fun h=>.inr (.inl h.1),fun r hr=>(hr rfl).elim,fun r b cap hr=>k4.pln r b cap hr,fun b hb hn=>k4.frame b hb hn⟩
  obtain ⟨im1,pl1,H1,q1,q2,q3⟩:=hv _ _ _ _ _ _ k1 (k2.plain p1) hS
  have hs:=q1.sel (hES.trans q2) [] (by simp) (by simp)
  have hE1:Ext im Kw w im1 (plS [] pl1) w':=hs.2
  have hnew:∀ r b cap,plS [] pl1 r=.at b cap→w.heap.size≤b:=fun r b cap hr=>by
   rcases hE1.pln r b cap hr with ⟨r',cap',h1⟩ | h1
   ·cases h1
   ·exact h1
  have hg:=hH.glue hs.1 hE1.imm (fun b hb=>by
   rcases hE1.imn b hb with h1 | h1 | ⟨r,cap,h1⟩
   ·exact .inl h1
   ·exact .inr h1
   ·cases h1) hE1.os hE1.tape hE1.output hE1.size hnew (fun b hb=>hE1.frame b hb (fun r cap e=>by cases e))
  refine ⟨u,H++Qbs (shift H.length) (Qbc [] H1),im1,_, ?_,q3.clo hu,hg.1,hg.2⟩;simpa [Qbc,Qbs] using hK
theorem Pc.byVal {C:Ctx} {H0:Qa} {f:FuncId} {args:List V} {H:Qa} {K:V→Qa→Prop} {u:V} (h:Fc C f args H fun v H'=>v=u∧H'=H) (hK:K u H):Pc C H0 f args H K :=
 Pc.gen h ⟨u,H,rfl,rfl⟩ (by rintro v H' ⟨rfl,rfl⟩;exact ⟨.refl _ _,hK⟩)
theorem Fc.byOwn {C:Ctx} {f:FuncId} {args args':List V} {H:Qa} {K:V→Qa→Prop} {e s n:Nat} {cs:List V} (h:Fc C f args' [] fun v H=>Ret e s H v n cs) (hb:BorL H args args') (hc:Qf cs=true) (hp:Xd cs=true) (hK:K (.sl n cs) H):Fc C f args H K :=
 h.byVal (u:=.sl n cs) hb.all.1 hb.all.2 (fun v H' hv=>hv.plain hp) (fun im pl w v H c hq hv hH=>by
  obtain ⟨im1,pl1,H1,q1,q2,q3,_⟩:=RetL.val (.inr hq) hc hH;exact ⟨im1,pl1,H1,q1,q2,q3 c hv⟩) (by simpa [clo] using hc) hK
theorem Fc.byOwn2 {C:Ctx} {f:FuncId} {args args':List V} {H:Qa} {K:V→Qa→Prop} {e s n:Nat} {cs:List V} {u:V} (h:Fc C f args' [] fun v H=>RetO2 e s H v n cs u) (hb:BorL H args args') (hc:Qf cs=true) (hp:Xd cs=true) (hu:clo u=true) (hpu:plain u=true) (hK:K (.tup [.sl n cs,u]) H):Fc C f args H K :=
 h.byVal (u:=.tup [.sl n cs,u]) hb.all.1 hb.all.2 (fun v H' hv=>hv.plain hp hpu) (fun im pl w v H c hq hv hH=>by
  obtain ⟨v',rfl,hq⟩:=hq;obtain ⟨im1,pl1,H1,q1,q2,q3,q4⟩:=RetL.val (.inr hq) hc hH;refine ⟨im1,pl1,H1,q1,q2, ?_⟩;cases hv with
  | tup _ vs hl hr =>
   refine .tup _ vs hl fun j=>?_
   match j with
   | 0=>exact q3 _ (hr 0)
   | 1=>exact q4 _ _ hu (hr 1)
   | j+2=>simpa [nth] using VR.any _) (by simp [clo,Qf,hc,hu]) hK
def Qc1 (H:Qa):Nat→V→Option V
 | 0,_=>none
 | k+1,v=>match v with
  | .ref r off n=>(Qc H r).bind fun row=>if off≤row.cs.length then ((row.cs.drop off).mapM (Qc1 H k)).map fun cs=>.sl n cs else none
  | .nil=>some (.sl 0 [])
  | .ptr r off=>(Qc H r).bind fun row=>(row.cs.mapM (Qc1 H k)).map fun cs=>.rp cs off
  | .agg cs=>(cs.mapM (Qc1 H k)).map .agg
  | .fn f xs ys=>(xs.mapM (Qc1 H k)).bind fun xs'=>(ys.mapM (Qc1 H k)).map fun ys'=>.fn f xs' ys'
  | v=>if clo v then some v else none
theorem Qrf {f:V→Option V}:∀ {l m:List V},l.mapM f=some m→l.length=m.length∧∀ j,j<l.length→f (nth l j)=some (nth m j)
 | [],m,h=>by simp at h;subst h;exact ⟨rfl,fun j hj=>by simp at hj⟩
 | a::l,m,h=>by
  rw [List.mapM_cons] at h;cases ha:f a with
  | none=>rw [ha] at h;simp at h
  | some b =>
   cases hl:l.mapM f with
   | none=>rw [ha,hl] at h;simp at h
   | some m' =>
    rw [ha,hl] at h;simp at h;subst h;obtain ⟨h1,h2⟩:=Qrf hl;refine ⟨by simp [h1],fun j hj=>?_⟩
    cases j with
    | zero=>exact ha
    | succ j=>exact h2 j (by simpa using hj)
theorem Bor.any {H:Qa}:Bor H .any .any:=.clo _ rfl
theorem Qlx {H:Qa}:∀ (k:Nat) {v u:V},Qc1 H k v=some u→Bor H v u
 | 0,v,u,h=>by simp [Qc1] at h
 | k+1,v,u,h=>by
  have all:∀ {l m:List V},l.mapM (Qc1 H k)=some m→l.length=m.length∧∀ j,Bor H (nth l j) (nth m j):=fun {l m} hm=>by
   obtain ⟨h1,h2⟩:=Qrf hm;refine ⟨h1,fun j=>?_⟩
   by_cases hj:j<l.length
   ·exact Qlx k (h2 j hj)
   ·rw [Jw l j (by omega),Jw m j (by omega)];exact .any
  have leaf:∀ {v u:V},(if clo v then some v else none)=some u→Bor H v u:=fun {v u} h=>by
   split at h
   ·injection h with h;subst h;exact .clo _ (by assumption)
   ·cases h
  cases v with
  | ref r off n =>
   simp only [Qc1,Option.bind_eq_some_iff] at h;obtain ⟨row,hr,h⟩:=h;split at h
   ·rename_i ho;simp only [Option.map_eq_some_iff] at h;obtain ⟨cs,hcs,rfl⟩:=h;obtain ⟨h1,h2⟩:=all hcs;exact .ref r off n row cs hr (by simp at h1;omega) fun j hj=>by have:=h2 j;rwa [Qfc] at this
   ·cases h
  | nil=>simp only [Qc1] at h;injection h with h;subst h;exact .nil _
  | ptr r off =>
   simp only [Qc1,Option.bind_eq_some_iff,Option.map_eq_some_iff] at h;obtain ⟨row,hr,cs,hcs,rfl⟩:=h;obtain ⟨h1,h2⟩:=all hcs;exact .ptr r off row cs hr (by omega) fun j hj=>h2 j
  | agg cs =>
   simp only [Qc1,Option.map_eq_some_iff] at h;obtain ⟨cs',hcs,rfl⟩:=h;exact .agg _ _ (all hcs).1 (all hcs).2
  | fn f xs ys =>
   simp only [Qc1,Option.bind_eq_some_iff,Option.map_eq_some_iff] at h;obtain ⟨xs',h1,ys',h2,rfl⟩:=h;exact .fn f _ _ _ _ (all h1).1 (all h1).2 (all h2).1 (all h2).2
  | any=>exact leaf h
  | int _ _=>exact leaf h
  | bool _=>exact leaf h
  | str _=>exact leaf h
  | sl _ _=>exact leaf h
  | tup _=>exact leaf h
  | nilp=>exact leaf h
  | rp _ _=>exact leaf h
  | nilf=>exact leaf h
  | mp _ _ _=>exact leaf h
theorem Qdh {H:Qa} (k:Nat):∀ {args args':List V},args.mapM (Qc1 H k)=some args'→BorL H args args'
 | [],m,h=>by simp at h;subst h;trivial
 | a::l,m,h=>by
  rw [List.mapM_cons] at h;cases ha:Qc1 H k a with
  | none=>rw [ha] at h;simp at h
  | some b =>
   cases hl:l.mapM (Qc1 H k) with
   | none=>rw [ha,hl] at h;simp at h
   | some m' =>
    rw [ha,hl] at h;simp at h;subst h;exact ⟨Qlx k ha,Qdh k hl⟩
end Go.Bv
end
section
namespace Go.Bv
open Go.RowKit Go.Deep
def CR (w:World) (vs:List V) (cs:List Value):Prop:=vs.length=cs.length∧∀ j,VR (fun b=>b<w.heap.size) Kw w (nth vs j) (cs.getD j undef)
theorem CR.nil (w:World):CR w [] []:=⟨rfl,fun j=>.any _⟩
theorem CR.one {w:World} {v:V} {c:Value} (h:VR (fun b=>b<w.heap.size) Kw w v c):CR w [v] [c]:=⟨rfl,fun j=>by
 cases j with
 | zero=>exact h
 | succ j=>exact .any _⟩
theorem CR.append {w:World} {a b:List V} {c d:List Value} (h:CR w a c) (k:CR w b d):CR w (a++b) (c++d):=by
 refine ⟨by simp [h.1,k.1],fun j=>?_⟩
 rw [Yj];by_cases hj:j<a.length
 ·rw [if_pos hj]
  have:=h.2 j
  rw [h.1] at hj;simpa [List.getD,List.getElem?_append_left hj] using this
 ·rw [if_neg hj]
  have:=k.2 (j - a.length)
  rw [h.1] at hj this ⊢;simpa [List.getD,List.getElem?_append_right (show c.length≤j by omega)] using this
structure Reads (P:Program) (t:TypeId) (Q:List V→Prop):Prop where
 get:∀ {H:Type} {enc:TypeId × Value→H} {w:World} {fuel:Nat} {cs:List Value} {x:DataW H × List MemPlace},
 DataW.trod enc P w 0 (fun _=>true) true fuel t cs=some x→(∀ n∈x.1.weights P t,n≤reachBytes)→∃ vs,Q vs∧CR w vs cs
theorem Reads.mono {P:Program} {t:TypeId} {Q Q':List V→Prop} (h:Reads P t Q) (hq:∀ vs,Q vs→Q' vs):Reads P t Q':=⟨fun ht hw=>by
 obtain ⟨vs,h1,h2⟩:=h.get ht hw;exact ⟨vs,hq _ h1,h2⟩⟩
theorem Reads.int {P:Program} {t:TypeId} {k:IntKind} (hu:P.underlying t=some (.int k)):Reads P t fun vs=>∃ n,vs=[.int k n]∧(Lit.int k n).wf=true:=⟨fun ht _=>by
 obtain ⟨n,rfl,_,h⟩:=DataW.trod_int hu ht;exact ⟨_,⟨n,rfl,h⟩,.one (.int k n)⟩⟩
theorem Reads.bool {P:Program} {t:TypeId} (hu:P.underlying t=some .bool):Reads P t fun vs=>∃ b,vs=[.bool b]:=⟨fun ht _=>by
 obtain ⟨b,rfl,_⟩:=DataW.trod_bool hu ht;exact ⟨_,⟨b,rfl⟩,.one (.bool b)⟩⟩
theorem Reads.string {P:Program} {t:TypeId} (hu:P.underlying t=some .string):Reads P t fun vs=>∃ s:ByteArray,vs=[.str s]∧s.size≤reachBytes:=⟨fun ht hw=>by
 obtain ⟨s,rfl,rfl,h⟩:=DataW.trod_string hu ht;refine ⟨_,⟨s,rfl, ?_⟩,.one (.str s)⟩;exact hw _ (by simp [DataW.weights])⟩
theorem Reads.slice {P:Program} {t e:TypeId} {s b:Nat} {Q:List V→Prop} (hu:P.underlying t=some (.slice e)) (hs:P.cellsOf e=s) (h0:0<s) (hb:P.bytesOf e=b) (he:Reads P e Q) :
  Reads P t fun vs=>∃ l:List (List V),(∀ x∈l,Q x)∧l.length*b≤reachBytes∧vs=[.sl l.length l.flatten]:=⟨fun {H enc w fuel cs x} ht hw=>by
 rcases open_slice hu ht with ⟨rfl,rfl⟩ | ⟨a,len,cap,m,n,D,Pl,rfl,_,hlc,hcm,hm,rfl,hx⟩
 ·exact ⟨_,⟨[],by simp,by simp,rfl⟩,.one (.sl0 _ _ _)⟩
 ·simp only [if_true] at hm;subst hm
  have hwt:(len+(m - len))*b≤reachBytes:=hw _ (by simp only [DataW.weights,hu];rw [hb];simp)
  have hel:∀ i,i<m→∀ n∈(D i).weights P e,n≤reachBytes:=fun i hi n hn=>by
   refine hw n ?_;simp only [DataW.weights,hu,List.mem_cons,List.mem_append]
   have gen:∀ (l:List Nat) (f:Nat→Nat),(∃ j∈l,f j=i)→n∈DataW.weightsAll P e (l.map fun j=>D (f j)):=by
    intro l f
    induction l with
    | nil=>rintro ⟨j,hj,_⟩;simp at hj
    | cons a l ih =>
     rintro ⟨j,hj,hf⟩;simp only [List.map_cons,DataW.weightsAll,List.mem_append];rcases List.mem_cons.1 hj with rfl | hj
     ·left;rw [hf];exact hn
     ·right;exact ih ⟨j,hj,hf⟩
   by_cases hil:i<len
   ·right;left;exact gen _ id ⟨i,by simpa using hil,rfl⟩
   ·right;right;exact gen _ (len+·) ⟨i - len,by simp;omega,by show len+(i - len)=i;omega⟩
  rw [hs] at hx
  have key:∀ k,k≤len→∃ l:List (List V),l.length=k∧(∀ x∈l,Q x)∧l.flatten.length=k*s∧∀ j,j<k*s→∃ v,w.cell? (a.add j)=some v∧VR (fun b=>b<w.heap.size) Kw w (nth l.flatten j) v:=by
   intro k
   induction k with
   | zero=>intro _;exact ⟨[],rfl,by simp,by simp,fun j hj=>by omega⟩
   | succ k ih =>
    intro hk;obtain ⟨l,l1,l2,l3,l4⟩:=ih (by omega)
    obtain ⟨cs',hc,ht'⟩:=hx k (by omega)
    obtain ⟨vs,hq,hcr⟩:=he.get ht' (hel k (by omega))
    obtain ⟨_,c1,c2⟩:=World.cells?_some hc;refine ⟨l++[vs],by simp [l1],fun x hx=>?_, ?_,fun j hj=>?_⟩
    ·rcases List.mem_append.1 hx with h | h
     ·exact l2 x h
     ·simp only [List.mem_cons,List.not_mem_nil,or_false] at h;subst h;exact hq
    ·rw [List.flatten_append,List.length_append,l3];simp only [List.flatten_cons,List.flatten_nil,List.append_nil,hcr.1,c1];rw [Nat.succ_mul]
    ·rw [List.flatten_append,Yj,l3];simp only [List.flatten_cons,List.flatten_nil,List.append_nil];by_cases hlt:j<k*s
     ·rw [if_pos hlt];exact l4 j hlt
     ·rw [if_neg hlt];rw [Nat.succ_mul] at hj
      have h1:=c2 (j - k*s) (by omega)
      rw [Bv.add_add,show k*s+(j - k*s)=j by omega] at h1
      rw [h1]
      have h2:j - k*s<cs'.length:=by omega
      refine ⟨cs'[j - k*s],by simp [h2], ?_⟩
      have:=hcr.2 (j - k*s)
      simpa [List.getD,h2] using this
  obtain ⟨l,l1,l2,l3,l4⟩:=key len (Nat.le_refl _);refine ⟨_,⟨l,l2, ?_,rfl⟩,.one ?_⟩
  ·rw [l1];exact Nat.le_trans (Nat.mul_le_mul_right _ (by omega)) hwt
  ·rw [l1];by_cases hz:len=0
   ·subst hz;exact .sl0 _ _ _
   ·have hlen:0<len*s:=Nat.mul_pos (by omega) h0
    obtain ⟨v0,hv0,_⟩:=l4 0 hlen
    have hblk:a.block<w.heap.size:=by have:=World.block_lt_of_cell? w _ hv0;rwa [Qef] at this
    refine .sl len _ a m (fun j=>(w.cell? (a.add j)).getD undef) hlc hblk (fun j hj=>?_) (fun j=>?_)
    ·rw [l3] at hj;obtain ⟨v,hv,_⟩:=l4 j hj;rw [hv];rfl
    ·by_cases hj:j<len*s
     ·obtain ⟨v,hv,h2⟩:=l4 j hj;rw [hv];exact h2
     ·rw [Jw _ _ (by omega)];exact .any _⟩
theorem Reads.struct {P:Program} {t:TypeId} {fs:Array Field} {Qs:Nat→List V→Prop} (hl:laidOutB P=true) (ht:t<P.types.size) (hu:P.underlying t=some (.struct fs)) (hf:∀ i f,fs[i]?=some f→Reads P f.type (Qs i)) :
  Reads P t fun vs=>∃ l:List (List V),l.length=fs.size∧(∀ i,i<fs.size→Qs i (l.getD i []))∧vs=l.flatten:=⟨fun {H enc w fuel cs x} h hw=>by
 obtain ⟨xs,n,rfl,rfl,hc,hx,hi⟩:=DataW.trod_struct hu h;obtain ⟨_,hsum,hoff⟩:=kid_struct hl ht hu
 have key:∀ k,k≤fs.size→∃ l:List (List V),l.length=k∧(∀ i,i<k→Qs i (l.getD i []))∧CR w l.flatten (cs.take (((fs.toList.take k).map fun f=>P.cellsOf f.type).sum)):=by
  intro k
  induction k with
  | zero=>intro _;exact ⟨[],rfl,fun i hi=>by omega,by simpa using CR.nil w⟩
  | succ k ih =>
   intro hk;obtain ⟨l,l1,l2,l3⟩:=ih (by omega)
   have hfk:fs[k]?=some fs[k]:=by simp [hk]
   have hfk':fs.toList[k]?=some fs[k]:=by simp [hk]
   have h1:=hi k _ hfk
   have hxk:xs[k]?=some xs[k]:=List.getElem?_eq_getElem (by omega)
   rw [hxk] at h1;obtain ⟨vs,q1,q2⟩:=(hf k _ hfk).get h1 (fun n hn=>hw n (by
    simp only [DataW.weights,hu];exact DataW.weights_mem_each (j:=k) (by rw [List.getElem?_map,hfk'];rfl) (by rw [List.getElem?_map,hxk];rfl) n hn))
   rw [hoff k _ hfk'] at q2;refine ⟨l++[vs],by simp [l1],fun i hi=>?_, ?_⟩
   ·by_cases hik:i<k
    ·have:=l2 i hik
     simpa [List.getD,List.getElem?_append_left (show i<l.length by omega)] using this
    ·obtain rfl:i=k:=by omega
     simpa [List.getD,← l1] using q1
   ·have e1:((fs.toList.take (k+1)).map fun f=>P.cellsOf f.type).sum=((fs.toList.take k).map fun f=>P.cellsOf f.type).sum+P.cellsOf fs[k].type:=by
     rw [List.take_add_one,hfk'];simp
    rw [e1,List.take_add,List.flatten_append];simpa using l3.append q2
 obtain ⟨l,l1,l2,l3⟩:=key fs.size (Nat.le_refl _);refine ⟨_,⟨l,l1,l2,rfl⟩, ?_⟩;rw [List.take_of_length_le (show fs.toList.length≤fs.size by simp),← hsum,← hc,List.take_of_length_le (Nat.le_refl _)] at l3
 exact l3⟩
theorem Qww {α:Type} {g:α→V} {R:α→Prop}:∀ {l:List (List V)},(∀ x∈l,∃ a,x=[g a]∧R a)→∃ xs:List α,xs.length=l.length∧l.flatten=xs.map g∧∀ a∈xs,R a
 | [],_=>⟨[],rfl,rfl,by simp⟩
 | x::l,h=>by
  obtain ⟨a,rfl,ha⟩:=h x (by simp)
  obtain ⟨xs,h1,h2,h3⟩:=Qww (l:=l) fun y hy=>h y (by simp [hy])
  exact ⟨a::xs,by simp [h1],by simp [h2],fun b hb=>by
   rcases List.mem_cons.1 hb with rfl | hb
   ·exact ha
   ·exact h3 b hb⟩
theorem Reads.slice1 {α:Type} {P:Program} {t e:TypeId} {b:Nat} {g:α→V} {R:α→Prop} (hu:P.underlying t=some (.slice e)) (hs:P.cellsOf e=1) (hb:P.bytesOf e=b) (he:Reads P e fun vs=>∃ a,vs=[g a]∧R a) :
  Reads P t fun vs=>∃ xs:List α,vs=[.sl xs.length (xs.map g)]∧xs.length*b≤reachBytes∧∀ a∈xs,R a :=
 Reads.mono (Reads.slice hu hs (by omega) hb he) fun vs ⟨l,h1,h2,h3⟩=>by
  obtain ⟨xs,q1,q2,q3⟩:=Qww h1;exact ⟨xs,by rw [h3,q1,q2],by rw [q1];exact h2,q3⟩
theorem Reads.ints {P:Program} {t e:TypeId} (hu:P.underlying t=some (.slice e)) (hi:P.underlying e=some (.int .i64)) (hs:P.cellsOf e=1) (hb:P.bytesOf e=8) :
  Reads P t fun vs=>∃ xs:List Int,vs=[.sl xs.length (Bv.ints xs)]∧xs.length≤17592186044416 :=
 Reads.mono (Reads.slice1 (g:=fun n=>.int .i64 n) hu hs hb (Reads.int hi)) fun vs ⟨xs,h1,h2,_⟩=>⟨xs,h1,by unfold reachBytes at h2;omega⟩
structure ArgV (P:Program) (t:TypeId) (Q:V→Prop):Prop where
 get:∀ {H:Type} {enc:TypeId × Value→H} {w:World} {base:Nat} {v:Value} {d:DataW H} {p:List MemPlace},
 Value.okWide P w .any base t v→DataW.Trod enc P w 0 (fun _=>true) true t v d p→(∀ n∈d.weights P t,n≤reachBytes)→∃ u,Q u∧VR (fun b=>b<w.heap.size) Kw w u v
theorem ArgV.mono {P:Program} {t:TypeId} {Q Q':V→Prop} (h:ArgV P t Q) (hq:∀ u,Q u→Q' u):ArgV P t Q':=⟨fun h1 h2 h3=>by
 obtain ⟨u,k1,k2⟩:=h.get h1 h2 h3;exact ⟨u,hq _ k1,k2⟩⟩
theorem ArgV.one {P:Program} {t:TypeId} {Q:List V→Prop} (h:Reads P t Q) (ho:(match P.underlying t with | some (.int _) | some .bool | some .string | some (.slice _)=>true | _=>false)=true):ArgV P t fun u=>Q [u]:=⟨fun {H enc w base v d p} h1 ⟨fuel,h2⟩ h3=>by
 obtain ⟨vs,q1,q2⟩:=h.get h2 h3
 have hv:v.cells.toList=[v]:=by
  revert ho
  split
  ·rename_i k hu;intro _;obtain ⟨n,rfl⟩:=WideShapes.okWide_int hu h1;rfl
  ·rename_i hu;intro _;obtain ⟨b,rfl⟩:=WideShapes.okWide_bool hu h1;rfl
  ·rename_i hu;intro _;obtain ⟨s,rfl⟩:=WideShapes.okWide_string hu h1;rfl
  ·rename_i e hu;intro _;obtain ⟨a,len,cap,rfl⟩:=WideShapes.okWide_slice hu h1;rfl
  ·intro h;cases h
 rw [hv] at q2
 match vs,q2.1 with
 | [u],_=>exact ⟨u,q1,by have:=q2.2 0;simpa [nth,List.getD] using this⟩⟩
theorem ArgV.struct {P:Program} {t:TypeId} {Q:List V→Prop} {fs:Array Field} (h:Reads P t Q) (hu:P.underlying t=some (.struct fs)):ArgV P t fun u=>∃ vs,u=.agg vs∧Q vs:=⟨fun {H enc w base v d p} h1 ⟨fuel,h2⟩ h3=>by
 obtain ⟨vs,q1,q2⟩:=h.get h2 h3;obtain ⟨cs,rfl,_⟩:=WideShapes.okWide_struct hu h1
 have e:(Value.agg cs).cells.toList=cs.toList:=rfl
 rw [e] at q2;refine ⟨_,⟨vs,rfl,q1⟩, ?_⟩
 have:=VR.agg (im:=fun b=>b<w.heap.size) (pl:=Kw) (w:=w) vs cs.toList q2.1 q2.2
 simpa using this⟩
structure ArgsV (P:Program) (ts:List TypeId) (R:List V→Prop):Prop where
 get:∀ {H:Type} {enc:TypeId × Value→H} {w:World} {base:Nat} {vs:List Value} {ds:List (DataW H)} {p:List MemPlace},
 (∀ (j:Nat) t v,ts[j]?=some t→vs[j]?=some v→Value.okWide P w .any base t v)→DataW.TrodAll enc P w 0 (fun _=>true) true ts vs ds p→(∀ n∈DataW.weightsEach P ts ds,n≤reachBytes)→∃ us,R us∧CR w us vs
theorem ArgsV.nil {P:Program}:ArgsV P [] fun us=>us=[]:=⟨fun {H enc w base vs ds p} h1 h2 h3=>by
 cases vs with
 | nil=>exact ⟨[],rfl,.nil _⟩
 | cons v vs=>cases ds<;>simp [DataW.TrodAll] at h2⟩
theorem ArgsV.cons {P:Program} {t:TypeId} {ts:List TypeId} {Q:V→Prop} {R:List V→Prop} (h:ArgV P t Q) (hr:ArgsV P ts R):ArgsV P (t::ts) fun us=>∃ u us',us=u::us'∧Q u∧R us':=⟨fun {H enc w base vs ds p} h1 h2 h3=>by
 obtain ⟨v,vs1,d,ds1,a,b,rfl,rfl,rfl,k1,k2⟩:=ChangeShapes.trodAll_cons h2;obtain ⟨u,q1,q2⟩:=h.get (h1 0 t v rfl rfl) k1 (fun n hn=>h3 n (by simp only [DataW.weightsEach,List.mem_append];exact .inl hn))
 obtain ⟨us,q3,q4⟩:=hr.get (fun j t' v' hj hv=>h1 (j+1) t' v' hj hv) k2 (fun n hn=>h3 n (by simp only [DataW.weightsEach,List.mem_append];exact .inr hn))
 exact ⟨u::us,⟨u,us,rfl,q1,q3⟩,(CR.one q2).append q4⟩⟩
theorem ArgsV.mono {P:Program} {ts:List TypeId} {R R':List V→Prop} (h:ArgsV P ts R) (hq:∀ us,R us→R' us):ArgsV P ts R':=⟨fun h1 h2 h3=>by
 obtain ⟨u,k1,k2⟩:=h.get h1 h2 h3;exact ⟨u,hq _ k1,k2⟩⟩
theorem Qgm {H:Type} {enc:TypeId × Value→H} {P:Program} {base:Nat} (hl:laidOutB P=true) {W W':World} {sp':Nat→Bool}:∀ {ts:List TypeId} {vs:List Value} {ds:List (DataW H)} {ps:List MemPlace},(∀ t∈ts,P.readableRec t=true∧t<P.types.size) →
  DataW.TrodAll enc P W base (fun _=>true) true ts vs ds ps→(∀ p∈ps,W.sameAt W' p)→(∀ p∈ps,sp' p.block=true)→DataW.TrodAll enc P W' base sp' true ts vs ds ps
 | [],_,_,_,_,h,_,_=>by
  obtain ⟨rfl,rfl,rfl⟩:=ChangeShapes.trodAll_nil h;exact rfl
 | t::ts,_,_,_,ht,h,h1,h2=>by
  obtain ⟨v,vs1,d,ds1,a,b,rfl,rfl,rfl,k1,k2⟩:=ChangeShapes.trodAll_cons h;exact ⟨a,b,WideElems.Trod_stays hl (ht t (by simp)).1 (ht t (by simp)).2 k1 (fun p hp=>h1 p (by simp [hp])) (fun p hp=>h2 p (by simp [hp])),
   Qgm hl (fun t' ht'=>ht t' (by simp [ht'])) k2 (fun p hp=>h1 p (by simp [hp])) (fun p hp=>h2 p (by simp [hp])),rfl⟩
theorem Qyt {H:Type} {enc:TypeId × Value→H} {P:Program} {f:Func} {s:ChangeSpec} {apart fresh handsOn again:Bool} {W W':World} {args:Array Value} {v:Value} {ds gs:List (DataW H)} {before pa pv:List MemPlace}
  (hW:DataW.Whole enc P f.params.toList s.vars apart W args.toList ds gs before)
  (hres:∀ (b:Nat) (sp:Nat→Bool) (hd:Bool),DataW.TrodAll enc P W' b sp hd f.resultTypes.toList (v.resultList f.resultTypes.size) (s.fn H (ds++gs)).results [])
  (hargs:∀ sp:Nat→Bool,(∀ p∈before,sp p.block=true)→DataW.TrodAll enc P W' 0 sp true f.params.toList args.toList (s.fn H (ds++gs)).args pa)
  (hvars:∀ sp:Nat→Bool,(∀ p∈before,sp p.block=true)→DataW.TrodVars enc P W' sp s.vars (s.fn H (ds++gs)).vars pv)
  (hps:before=pa++pv) (hk:W.keptBut W' (·∈before)) (hfz:∀ b off,MemPlace.cell b off∈before→W'.frozen? ⟨b,off,none⟩=W.frozen? ⟨b,off,none⟩)
  (hok:∀ (j:Nat) (t:TypeId) (r:Value),f.resultTypes[j]?=some t→(v.resultList f.resultTypes.size)[j]?=some r→Value.okWide P W' .any 0 t r) :
  s.post enc P f apart fresh handsOn again W args v W':=by
 have hold:∀ p∈before,(fun b=>decide (b<W.heap.size)) p.block=true:=fun p hp=>by simpa using hW.lt p hp
 refine ⟨ds,gs,before,[],pa,pv,hW,hres _ _ _,hargs _ hold,hvars _ hold,World.keptBut_mono (fun p hp=>⟨hp, ?_⟩) hk,fun _=>?_⟩
 ·rw [hps,List.mem_append] at hp;exact Or.inr hp
 ·obtain ⟨_,_,_,_,_,hz,hn⟩:=hW;refine ⟨hok,_,_,([]++pa)++pv,⟨[]++pa,pv,ChangeShapes.trodAll_append (hargs _ (fun _ _=>rfl)) (hres _ _ _),hvars _ (fun _ _=>rfl),rfl, ?_, ?_⟩, ?_⟩
  ·intro b off hp
   have hp':MemPlace.cell b off∈before:=by rw [hps];simpa using hp
   rw [hfz b off hp'];exact hz b off hp'
  ·intro ha
   have:=hn ha
   rw [hps] at this;simpa using this
  ·intro p hp _;rw [hps];simpa using hp
theorem Qun {A:Checked} {C:Ctx} (hC:C.P=A.prog) {os:Os} (started:os.Started) {H:Type} {enc:TypeId × Value→H} {f:FuncId} {fn:Func} {s:ChangeSpec} {tb:TypeId}
  (own:ownKnob A.prog.godebug=none) (noInit:A.prog.inits.idxOf? f=none) (hfn:A.prog.funcs[f]?=some fn) (hl:laidOutB A.prog=true)
  (hvars:s.vars=[]) (hspec:∀ ds:List (DataW H),ds.length=fn.params.size→(s.fn H ds).results=[.lit (.bool true)]∧(s.fn H ds).args=ds∧(s.fn H ds).vars=[])
  (hrt:fn.resultTypes=#[tb]) (htb:A.prog.underlying tb=some .bool) (hpar:∀ t∈fn.params.toList,A.prog.readableRec t=true∧t<A.prog.types.size)
  {R:List V→Prop} (hargs:ArgsV A.prog fn.params.toList R) (hlaw:∀ us,R us→Pu C f us (.bool true))
  (witness:∃ (w:World) (tape:Tape) (i:Input),w.os=os∧(w.forCall tape i).Shaped A.prog∧i.vars=[]∧Input.okWide A.prog (w.forCall tape i) .any w.heap.size f i ∧
   s.pre6 enc A.prog fn [] false (w.forCall tape i).memory i.args∧({}:Assume).holds A.prog (lone (Frame.enter A.prog f i.args .normal) [] (w.forCall tape i))) :
  ReturnsInHanded {} A os f .any (s.pre6 enc A.prog fn [] false) (s.post enc A.prog fn false true false false):=by
 refine returnsInHanded_of_change_sized own started noInit hfn witness ?_;intro W base args ds gs before hval hW _ hz _
 have hW':=hW
 obtain ⟨p,q,hA,hV,rfl,hfz,hnd⟩:=hW;rw [hvars] at hV;obtain ⟨rfl,rfl⟩:=ChangeShapes.trodVars_none hV
 have hvt:s.plain.varTypes A.prog=[]:=by
  have:s.plain.vars=[]:=hvars
  simp [DataSpec.varTypes,this]
 rw [hvt,List.append_nil,List.append_nil,List.all_eq_true] at hz;obtain ⟨us,hR,hcr⟩:=hargs.get (fun j t v hj hv=>hval j t v (by simpa using hj) (by simpa using hv)) hA (fun n hn=>by simpa using hz n hn)
 have hcall:=(hlaw us hR).2 (fun b=>b<W.heap.size) Kw W args.toList hcr.1 hcr.2 (HR.none fun b hb=>hb)
 rw [hC] at hcall
 have hlen:ds.length=fn.params.size:=by
  have:∀ {ts:List TypeId} {vs:List Value} {ds:List (DataW H)} {p:List MemPlace},DataW.TrodAll enc A.prog W 0 (fun _=>true) true ts vs ds p→ds.length=ts.length:=by
   intro ts
   induction ts with
   | nil=>intro vs ds p h;obtain ⟨_,rfl,_⟩:=ChangeShapes.trodAll_nil h;rfl
   | cons t ts ih =>
    intro vs ds p h;obtain ⟨v,vs1,d,ds1,a,b,rfl,rfl,rfl,_,k2⟩:=ChangeShapes.trodAll_cons h;simp [ih k2]
  simpa using this hA
 obtain ⟨s1,s2,s3⟩:=hspec ds hlen;refine (callsIn_wide (n:=0)).1 ((callsIn_wide.2 hcall).mono fun e W' hp=>?_)
 cases e with
 | panicked _=>exact hp.elim
 | outgrown=>exact hp.elim
 | returned vc =>
  obtain ⟨v,H',im',pl',⟨rfl,rfl⟩,k2,k3,k4⟩:=hp;cases k2 with
  | bool b =>
   have hold:∀ b,b<W.heap.size→W'.heap[b]?=W.heap[b]?:=fun b hb=>k4.frame b hb fun r cap e=>by cases e
   have hlt:∀ p'∈p++[],p'.block<W.heap.size:=fun p' hp'=>hW'.lt p' hp'
   have hcell:∀ a:Addr,a.block<W.heap.size→W'.cell? a=W.cell? a:=fun a ha=>World.cell?_of_block (hold _ ha)
   have hsame:∀ p'∈p++[],W.sameAt W' p':=fun p' hp'=>by
    have:=hlt p' hp'
    cases p' with
    | cell b off=>exact hcell _ this
    | map b=>exact hold b this
   refine ⟨.bool true,rfl,Qyt (pa:=p++[]) (pv:=[]) hW' (fun _ _ _=>?_) (fun sp hsp=>?_) (fun _ _=>?_) (by simp) ?_ (fun b off hb=>?_) ?_⟩
   ·rw [List.append_nil,s1,hrt];exact ChangeShapes.trodAll_mk1 (shut_bool htb _)
   ·rw [List.append_nil,s2];rw [List.append_nil] at hsame hsp ⊢;exact Qgm hl hpar hA hsame hsp
   ·rw [List.append_nil,s3,hvars];rfl
   ·refine ⟨k4.os,k4.output,fun i hi=>?_⟩
    rw [hold i hi];split
    ·rename_i h1 h2;rw [h1] at h2;cases h2;exact ⟨rfl,rfl,rfl,fun _ _=>rfl⟩
    ·rename_i h1 h2;rw [h1] at h2;cases h2;exact .inr ⟨rfl,rfl⟩
    ·rfl
   ·have h1:W'.heap[b]?=W.heap[b]?:=hold b (hlt _ hb)
    unfold World.frozen?;simp only [h1]
   ·exact ok_one (f:=fn) hrt rfl (okWide_bool_mk htb _)
end Go.Bv
end
section
namespace Go.Bv
open Go.RowKit
def Shorter (H H2:Qa):Prop:=H2.length=H.length∧∀ r:Nat,H2[r]?=H[r]?∨∃ (e s:Nat) (cs:List V) (k:Nat),H[r]?=some (some ⟨e,s,cs⟩)∧H2[r]?=some (some ⟨e,s,cs.take k⟩)
theorem Shorter.refl (H:Qa):Shorter H H:=⟨rfl,fun _=>.inl rfl⟩
theorem Shorter.set {H:Qa} {r e s:Nat} {cs:List V} (h:Qc H r=some ⟨e,s,cs⟩) (k:Nat):Shorter H (H.set r (some ⟨e,s,cs.take k⟩)):=by
 have h1:=Xh h
 refine ⟨by simp,fun q=>?_⟩
 by_cases e1:r=q
 ·subst e1;exact .inr ⟨e,s,cs,k,h1,by rw [List.getElem?_set_self (Xt h)]⟩
 ·exact .inl (by rw [List.getElem?_set_ne e1])
theorem HR.shorter {im:Nat→Prop} {pl:Nat→Place} {w:World} {H H2:Qa} (h:HR im pl w H) (hs:Shorter H H2):HR im pl w H2:=by
 obtain ⟨g1,g2,g3,g4,g5,g6,g7,g8⟩:=h;refine ⟨fun r=>by rw [hs.1];exact g1 r,g2,g3,g4,g5,fun r hr=>?_,fun r hr=>?_,fun r b cap hr=>?_⟩
 ·rcases hs.2 r with e | ⟨e,s,cs,k,e1,e2⟩
  ·rw [e];exact g6 r hr
  ·rw [g6 r hr] at e1;cases e1
 ·obtain ⟨e,s,h1⟩:=g7 r hr;rcases hs.2 r with e2 | ⟨e',s',cs,k,e1,e2⟩
  ·exact ⟨e,s,by rw [e2];exact h1⟩
  ·rw [h1] at e1;cases e1;exact ⟨e,s,by rw [e2];simp⟩
 ·obtain ⟨e,s,cs,cur,q1,q2,q3,q4,q5,q6⟩:=g8 r b cap hr;rcases hs.2 r with e2 | ⟨e',s',cs',k,e1,e2⟩
  ·exact ⟨e,s,cs,cur,by rw [e2];exact q1,q2,q3,q4,q5,q6⟩
  ·rw [q1] at e1;cases e1;refine ⟨e,s,cs.take k,cur,e2,q2,q3,q4,by rw [List.length_take];omega,fun j=>?_⟩
   by_cases hj:j<k
   ·rw [Qd2 _ _ _ hj];exact q6 j
   ·rw [Jw _ _ (by rw [List.length_take];omega)];exact .any _
theorem Fc.trim {C:Ctx} {f:FuncId} {args:List V} {H:Qa} {Q:V→Qa→Prop} (h:Fc C f args H fun v H'=>∃ H2,Shorter H' H2∧Q v H2):Fc C f args H Q:=by
 refine ⟨h.1,fun im pl w vs h1 h2 h3=>(callsIn_wide (n:=0)).1 ((callsIn_wide.2 (h.2 im pl w vs h1 h2 h3)).mono fun e w' hp=>?_)⟩
 cases e with
 | returned v =>
  obtain ⟨v,H',im',pl',⟨H2,k0,k1⟩,k2,k3,k4⟩:=hp;exact ⟨v,H2,im',pl',k1,k2,k3.shorter k0,k4⟩
 | panicked _=>exact hp
 | outgrown=>exact hp
theorem Qii {y:Ty} {e e' s' m:Nat} {v:V} {H:Qa} {n:Nat} {cs lit:List V} {K:V→Qa→Prop} (h:Own e y.size H v n cs) (hn:lit.length=m*y.size) (hs:lit.all Yc=true) (hy:0<y.size) (hb:0<y.bytes) (hl:(n+m)*y.bytes≤140737488355328)
  (hc:cs.all Yc=true) (hK:∀ H',Own e y.size H' (.ref (H.length+1) 0 (n+m)) (n+m) (cs++lit)→Fr v H H'→H'.length=H.length+2→K (.ref (H.length+1) 0 (n+m)) H'):Qaa y e v (.ref H.length 0 m) (H++[some ⟨e',s',lit⟩]) K:=by
 refine Qcv (h.keep _) (news:=lit) ?_ hn hs hy hb hl hc fun v' H' h1 h2 h3 h4=>?_
 ·simp only [Jo,Xx,List.drop_zero];rw [← hn,List.take_length]
 ·obtain ⟨r,rfl⟩:=h4;simp only [List.length_append,List.length_cons,List.length_nil,Nat.zero_add] at h1 h3 ⊢
  have:r=n+m:=by
   rcases h1 with ⟨h,_⟩ | ⟨q,h,_⟩
   ·cases h
   ·injection h
  subst this;exact hK H' h1 (fun q row hq hr=>h2 q row hq (Ql hr _)) (by omega)
theorem Own.not {e s e' s':Nat} {H:Qa} {v:V} {n:Nat} {cs cs':List V} {r:Nat} (h:Own e s H v n cs) (hr:Qc H r=some ⟨e',s',cs'⟩) (hne:e≠e'):∀ off m,v≠.ref r off m:=by
 rcases h with ⟨rfl,_⟩ | ⟨q,rfl,h2,_⟩
 ·intro off m h;cases h
 ·intro off m h;injection h with h _ _
  subst h;rw [hr] at h2;injection h2 with h2
  injection h2 with h2
  exact hne h2.symm
attribute [go_sem] Option.map_none
def Qok (ty:TypeId→Ty) (o:Option TypeId) (x:V) (h:Int) (H:Qa) (K:V→Prop):Prop:=match o with
 | none=>False
 | some e=>(ty e).ok=true∧0<(ty e).size∧0≤h∧(match x with
   | .sl n cs=>h≤n∧K (.sl h.toNat (cs.take (h.toNat*(ty e).size)))
   | .ref r off n=>(Qc H r).isSome=true∧h≤n∧(h=0→K (.sl 0 []))∧(h≠0→K (.ref r off h.toNat))
   | .nil=>h=0∧K .nil
   | _=>False)
@[congr] theorem Xku {ty:TypeId→Ty} {K:V→Prop} {uu:Prop} (h00:(True∧True)=uu) {o o':Option TypeId} {x x':V} {h h':Int} (H:Qa) (h1:o=o') (h2:x=x') (h3:h=h'):Qok ty o x h H K=Qok ty o' x' h' H K:=by rw [h1,h2,h3]
@[go_sem] theorem Xny (ty:TypeId→Ty) (y:Ty) (x:V) (k:IntKind) (h:Int) (H:Qa) (K:V→Prop):Xf ty y x none (some (.int k h)) H K=Qok ty y.sl x h H K:=by
 unfold Xf Qok;cases y.sl<;>rfl
@[go_sem] theorem Xp4 (ty:TypeId→Ty) (e:TypeId) (n:Nat) (cs:List V) (h:Int) (H:Qa) (K:V→Prop):Qok ty (some e) (.sl n cs) h H K=((ty e).ok=true∧0<(ty e).size∧chk (0≤h∧h≤n) (K (.sl h.toNat (cs.take (h.toNat*(ty e).size))))):=by simp [Qok,chk,and_assoc]
@[go_sem] theorem Xo0 (ty:TypeId→Ty) (e:TypeId) (h:Int) (H:Qa) (K:V→Prop):Qok ty (some e) .nil h H K=((ty e).ok=true∧0<(ty e).size∧chk (h=0) (K .nil)):=by
 simp only [Qok,chk,eq_iff_iff];constructor
 ·rintro ⟨h1,h2,h3,h4,h5⟩;exact ⟨h1,h2,h4,h5⟩
 ·rintro ⟨h1,h2,h4,h5⟩;exact ⟨h1,h2,by omega,h4,h5⟩
theorem Qe6 {ty:TypeId→Ty} {e e' s n:Nat} {v:V} {H:Qa} {cs:List V} {m:Nat} {K:V→Prop} (hv:Own e' s H v n cs) (ho:(ty e).ok=true) (hs:0<(ty e).size) (hm:m≤n) (h0:m=0→v=.nil→K .nil) (h1:m=0→v≠.nil→K (.sl 0 [])) (h2:∀ r,0<m→v=.ref r 0 n→K (.ref r 0 m)):Qok ty (some e) v (m:Nat) H K:=by
 rcases hv with ⟨rfl,rfl,rfl⟩ | ⟨r,rfl,h3,h4⟩
 ·obtain rfl:m=0:=by omega
  exact ⟨ho,hs,by omega,rfl,h0 rfl rfl⟩
 ·refine ⟨ho,hs,by omega,Qli h3,by omega,fun e=>h1 (by omega) (by simp),fun e=>?_⟩
  have:=h2 r (by omega) rfl
  rwa [show ((m:Int)).toNat=m from by omega]
def Qx6 (ty:TypeId→Ty) (o:Option TypeId) (x:V) (l:Int) (H:Qa) (K:V→Prop):Prop:=match o with
 | none=>False
 | some e=>(ty e).ok=true∧0<(ty e).size∧0≤l∧(match x with
   | .sl n cs=>l≤n∧K (.sl (n - l.toNat) (cs.drop (l.toNat*(ty e).size)))
   | .ref r off n=>(Qc H r).isSome=true∧l≤n∧(l=n→K (.sl 0 []))∧(l≠n→K (.ref r (off+l.toNat*(ty e).size) (n - l.toNat)))
   | .nil=>l=0∧K .nil
   | _=>False)
@[congr] theorem Xkt {ty:TypeId→Ty} {K:V→Prop} {uu:Prop} (h00:(True∧True)=uu) {o o':Option TypeId} {x x':V} {h h':Int} (H:Qa) (h1:o=o') (h2:x=x') (h3:h=h'):Qx6 ty o x h H K=Qx6 ty o' x' h' H K:=by rw [h1,h2,h3]
@[go_sem] theorem Xnx (ty:TypeId→Ty) (y:Ty) (x:V) (k:IntKind) (h:Int) (H:Qa) (K:V→Prop):Xf ty y x (some (.int k h)) none H K=Qx6 ty y.sl x h H K:=by
 unfold Xf Qx6;cases y.sl<;>rfl
@[go_sem] theorem Xp3 (ty:TypeId→Ty) (e:TypeId) (n:Nat) (cs:List V) (h:Int) (H:Qa) (K:V→Prop):Qx6 ty (some e) (.sl n cs) h H K=((ty e).ok=true∧0<(ty e).size∧chk (0≤h∧h≤n) (K (.sl (n - h.toNat) (cs.drop (h.toNat*(ty e).size))))):=by simp [Qx6,chk,and_assoc]
def IsZ (e s:Nat) (H:Qa) (v:V) (n:Nat) (cs:List V):Prop:=(v=.sl 0 []∧n=0∧cs=[])∨Own e s H v n cs
def RetZ (e s:Nat) (H:Qa) (v:V) (n:Nat) (cs:List V):Prop:=(v=.sl 0 []∧n=0∧cs=[]∧H=[])∨Ret e s H v n cs
theorem IsZ.isL {e s:Nat} {H:Qa} {v:V} {n:Nat} {cs:List V} (h:IsZ e s H v n cs):IsL e s H v n cs:=by
 rcases h with ⟨rfl,rfl,rfl⟩ | h
 ·exact .inl rfl
 ·exact .inr h
theorem IsZ.ret {e s:Nat} {H:Qa} {v:V} {n:Nat} {cs:List V} (h:IsZ e s H v n cs) (hc:∀ g,Qe g cs=cs) {Q:V→Qa→Prop} (hQ:∀ v H,RetZ e s H v n cs→Q v H):∃ sel,Qa7 sel Q v H:=by
 rcases h with ⟨rfl,rfl,rfl⟩ | h
 ·exact ⟨[],by simp,by simp,hQ _ _ (.inl ⟨rfl,rfl,rfl,rfl⟩)⟩
 ·exact h.ret hc fun v H h=>hQ v H (.inr h)
theorem RetZ.retL {e s:Nat} {H:Qa} {v:V} {n:Nat} {cs:List V} (h:RetZ e s H v n cs):RetL e s H v n cs:=by
 rcases h with ⟨rfl,rfl,rfl,rfl⟩ | h
 ·exact .inl ⟨rfl,rfl⟩
 ·exact .inr h
theorem RetZ.plain {e s:Nat} {H:Qa} {v:V} {n:Nat} {cs:List V} (h:RetZ e s H v n cs) (hp:Xd cs=true):Bv.plain v=true∧Jb H:=by
 rcases h with ⟨rfl,rfl,rfl,rfl⟩ | h
 ·exact ⟨rfl,fun r row hr=>by simp at hr⟩
 ·exact h.plain hp
theorem Fc.byZ {C:Ctx} {f:FuncId} {args args':List V} {H:Qa} {K:V→Qa→Prop} {e s n:Nat} {cs:List V} (h:Fc C f args' [] fun v H=>RetZ e s H v n cs) (hb:BorL H args args') (hc:Qf cs=true) (hp:Xd cs=true) (hK:K (.sl n cs) H):Fc C f args H K :=
 h.byVal (u:=.sl n cs) hb.all.1 hb.all.2 (fun v H' hv=>hv.plain hp) (fun im pl w v H c hq hv hH=>by
  obtain ⟨im1,pl1,H1,q1,q2,q3,_⟩:=hq.retL.val hc hH;exact ⟨im1,pl1,H1,q1,q2,q3 c hv⟩) (by simpa [clo] using hc) hK
theorem Fc.isZ {C:Ctx} {f:FuncId} {args args':List V} {H:Qa} {K:V→Qa→Prop} {e s n:Nat} {cs:List V} (h:Fc C f args' [] fun v H=>RetZ e s H v n cs) (hb:BorL H args args') (hc:∀ g,Qe g cs=cs) (hp:Xd cs=true) (hK:∀ v X,IsZ e s (H++X) v n cs→K v (H++X)):Fc C f args H K :=
 h.borrow hb.all.1 hb.all.2 (fun v H' hv=>hv.plain hp) fun v H' hv=>by
  rcases hv with ⟨rfl,rfl,rfl,rfl⟩ | hv
  ·exact hK _ _ (.inl ⟨rfl,rfl,rfl⟩)
  ·exact hK _ _ (.inr (hv.own hc))
theorem Pc.isZ {C:Ctx} {H0:Qa} {f:FuncId} {args args':List V} {H:Qa} {K:V→Qa→Prop} {e s n:Nat} {cs:List V} (h:Fc C f args' [] fun v H=>RetZ e s H v n cs) (hb:BorL H args args') (hl:cs.length=n*s) (hc:∀ g,Qe g cs=cs) (hp:Xd cs=true) (hK:∀ v X,IsZ e s (H++X) v n cs→K v (H++X)):Pc C H0 f args H K :=
 Pc.borrow h (by obtain ⟨v,H,hv⟩:=Ret.some (e:=e) hl;exact ⟨v,H,.inr hv⟩) hb.all.1 hb.all.2 (fun v H' hv=>hv.plain hp) fun v H' hv=>by
  rcases hv with ⟨rfl,rfl,rfl,rfl⟩ | hv
  ·exact hK _ _ (.inl ⟨rfl,rfl,rfl⟩)
  ·exact hK _ _ (.inr (hv.own hc))
def Qz4 (o:Option (Nat × TypeId)) (q:Bool) (s:ByteArray) (i:Int) (K:V→Prop):Prop:=match o with
 | none=>q=true∧0≤i∧i.toNat<s.size∧K (.int .u8 ((s[i.toNat]?.getD 0).toNat:Int))
 | some _=>False
@[congr] theorem Xmm {K:V→Prop} {uu:Prop} (h00:(True∧True)=uu) {o o':Option (Nat × TypeId)} {q q':Bool} {i i':Int} (s:ByteArray) (h1:o=o') (h2:q=q') (h3:i=i'):Qz4 o q s i K=Qz4 o' q' s i' K:=by rw [h1,h2,h3]
@[go_sem] theorem Quu (ty:TypeId→Ty) (y:Ty) (s:ByteArray) (k:IntKind) (i:Int) (K:V→Prop):Jx ty y (.str s) (.int k i) K=Qz4 y.arr y.str s i K:=by
 unfold Jx Qz4;cases y.arr<;>rfl
@[go_sem] theorem Xoe (s:ByteArray) (i:Int) (K:V→Prop):Qz4 none true s i K=chk (0≤i∧i.toNat<s.size) (K (.int .u8 ((s[i.toNat]?.getD 0).toNat:Int))):=by simp [Qz4,chk,and_assoc]
theorem Fc.bySeal {C:Ctx} {f:FuncId} {args args':List V} {H:Qa} {Q K:V→Qa→Prop} {u:V} (h:Fc C f args' [] Q) (hb:BorL H args args') (hp:∀ v H',Q v H'→plain v=true∧Jb H') (hs:∀ v H',Q v H'→∃ r e s cs,Qc H' r=some ⟨e,s,cs⟩∧Qf cs=true∧sz r cs v=u) (hu:clo u=true) (hK:K u H):Fc C f args H K :=
 h.byVal hb.all.1 hb.all.2 hp (fun im pl w v H c hq hv hH=>by
  obtain ⟨r,e,s,cs,h1,h2,h3⟩:=hs _ _ hq;obtain ⟨im1,k1,k2,_,k3⟩:=Qcb hH h1 h2;exact ⟨im1,_,_,k1,k2,h3 ▸ k3 _ _ hv⟩) hu hK
def Xfg (o:Option TypeId) (ty:TypeId→Ty) (d x:V) (H:Qa) (K:V→Qa→Prop):Prop:=match o with
 | some e=>(ty e).ok=true∧Qdf (ty e) d x H K
 | none=>False
@[congr] theorem Xm5 {ty:TypeId→Ty} {K:V→Qa→Prop} {uu:Prop} (h00:(True∧True)=uu) {o o':Option TypeId} {d d' x x':V} {H H':Qa} (h1:o=o') (h2:d=d') (h3:x=x') (h4:H=H'):Xfg o ty d x H K=Xfg o' ty d' x' H' K:=by rw [h1,h2,h3,h4]
@[congr] theorem Xke {K:V→Qa→Prop} {uu:Prop} (h00:(True∧True)=uu) (y:Ty) {d d' x x':V} {H H':Qa} (h2:d=d') (h3:x=x') (h4:H=H'):Qdf y d x H K=Qdf y d' x' H' K:=by rw [h2,h3,h4]
@[go_sem] theorem Xgm (ty:TypeId→Ty) (t t':TypeId) (d x:V) (H:Qa) (K:V→Qa→Prop):Qm ty .copy [t,t'] [d,x] H K=((ty t).ok=true∧Xfg (ty t).sl ty d x H K):=by
 simp only [Qm,Xfg];cases (ty t).sl<;>rfl
@[go_sem] theorem Xok (e:TypeId) (ty:TypeId→Ty) (d x:V) (H:Qa) (K:V→Qa→Prop):Xfg (some e) ty d x H K=((ty e).ok=true∧Qdf (ty e) d x H K):=rfl
theorem Xff {y:Ty} {r off n m:Nat} {e s:Nat} {cs news:List V} {H:Qa} {K:V→Qa→Prop} (hr:Qc H r=some ⟨e,s,cs⟩) (hl:news.length=m) (hs:news.all Yc=true) (hy:y.size=1) (hm:0<m) (hmn:m≤n) (hf:off+m≤cs.length)
  (hK:K (.int .i64 (m:Nat)) (H.set r (some ⟨e,s,Ki cs off news⟩))):Qdf y (.ref r off n) (.sl m news) H K:=by
 simp only [Qdf,Jo,hr]
 have h1:min m n=m:=Nat.min_eq_left hmn
 rw [h1,hy,Nat.mul_one,List.take_of_length_le (by omega)]
 exact ⟨hl,hs,by decide,hm,by omega,hf,hK⟩
def Qtg (ty:TypeId→Ty) (o:Option TypeId) (x:V) (l h:Int) (H:Qa) (K:V→Prop):Prop:=match o with
 | none=>False
 | some e=>(ty e).ok=true∧0<(ty e).size∧0≤l∧l≤h∧(match x with
   | .sl n cs=>h≤n∧K (.sl (h.toNat - l.toNat) ((cs.drop (l.toNat*(ty e).size)).take ((h.toNat - l.toNat)*(ty e).size)))
   | .ref r off n=>(Qc H r).isSome=true∧h≤n∧(l=h→K (.sl 0 []))∧(l≠h→K (.ref r (off+l.toNat*(ty e).size) (h.toNat - l.toNat)))
   | .nil=>h=0∧K .nil
   | _=>False)
@[congr] theorem Xkv {ty:TypeId→Ty} {K:V→Prop} {uu:Prop} (h00:(True∧True)=uu) {o o':Option TypeId} {x x':V} {l l' h h':Int} (H:Qa) (h1:o=o') (h2:x=x') (h3:l=l') (h4:h=h'):Qtg ty o x l h H K=Qtg ty o' x' l' h' H K:=by rw [h1,h2,h3,h4]
@[go_sem] theorem Xjz (ty:TypeId→Ty) (y:Ty) (x:V) (k k':IntKind) (l h:Int) (H:Qa) (K:V→Prop):Xf ty y x (some (.int k l)) (some (.int k' h)) H K=Qtg ty y.sl x l h H K:=by
 unfold Xf Qtg;cases y.sl<;>rfl
@[go_sem] theorem Xp5 (ty:TypeId→Ty) (e:TypeId) (n:Nat) (cs:List V) (l h:Int) (H:Qa) (K:V→Prop):Qtg ty (some e) (.sl n cs) l h H K=((ty e).ok=true∧0<(ty e).size∧chk (0≤l∧l≤h∧h≤n) (K (.sl (h.toNat - l.toNat) ((cs.drop (l.toNat*(ty e).size)).take ((h.toNat - l.toNat)*(ty e).size))))):=by simp [Qtg,chk,and_assoc]
theorem Xbw {ty:TypeId→Ty} {e r off n:Nat} {H:Qa} {row:Row} {K:V→Prop} {l h:Nat} (hr:Qc H r=some row) (ho:(ty e).ok=true) (hs:(ty e).size=1) (hl:l<h) (hh:h≤n) (hK:K (.ref r (off+l) (h - l))):Qtg ty (some e) (.ref r off n) (l:Nat) (h:Nat) H K:=by
 refine ⟨ho,by omega,by omega,by omega,Qli hr,by omega,fun e=>by omega,fun _=>?_⟩
 rw [hs,Nat.mul_one,Int.toNat_natCast,Int.toNat_natCast];exact hK
end Go.Bv
end
section
namespace Go.Bv
open Go.RowKit
inductive Gd (H:Qa):V→V→Prop
 | leaf (v:V) (hc:clo v=true) (hp:plain v=true):Gd H v v
 | nil (cs:List V):Gd H .nil (.sl 0 cs)
 | ref (r n:Nat) (row:Row) (cs:List V) (hr:Qc H r=some row) (hp:Xd row.cs=true) (hl:cs.length≤row.cs.length) (h:∀ j,j<cs.length→Gd H (nth row.cs j) (nth cs j)):Gd H (.ref r 0 n) (.sl n cs)
 | agg (l m:List V) (hl:l.length=m.length) (h:∀ j,Gd H (nth l j) (nth m j)):Gd H (.agg l) (.agg m)
 | tup (l m:List V) (hl:l.length=m.length) (h:∀ j,Gd H (nth l j) (nth m j)):Gd H (.tup l) (.tup m)
theorem Gd.flat {H:Qa} (r n e s:Nat) (cs:List V) (hr:Qc H r=some ⟨e,s,cs⟩) (hc:Qf cs=true) (hp:Xd cs=true):Gd H (.ref r 0 n) (.sl n cs) :=
 .ref r n _ cs hr hp (Nat.le_refl _) fun j _=>.leaf _ (Ys hc j) (Ja hp j)
theorem Gd.part {H:Qa} (r n e s m:Nat) (cs:List V) (hr:Qc H r=some ⟨e,s,cs⟩) (hc:Qf cs=true) (hp:Xd cs=true):Gd H (.ref r 0 n) (.sl n (cs.take m)) :=
 .ref r n _ _ hr hp (by rw [List.length_take];exact Nat.min_le_right _ _) fun j hj=>by
  rw [List.length_take] at hj;rw [Qd2 _ _ _ (by omega)]
  exact .leaf _ (Ys hc j) (Ja hp j)
theorem Gd.any (H:Qa):Gd H .any .any:=.leaf _ rfl rfl
def GdL (H:Qa):List V→List V→Prop
 | [],[]=>True
 | a::l,b::m=>Gd H a b∧GdL H l m
 | _,_=>False
theorem GdL.all {H:Qa}:∀ {l m:List V},GdL H l m→l.length=m.length∧∀ j,Gd H (nth l j) (nth m j)
 | [],[],_=>⟨rfl,fun j=>by simp [nth];exact .any H⟩
 | a::l,b::m,h=>by
  obtain ⟨h1,h2⟩:=GdL.all h.2;refine ⟨by simp [h1],fun j=>?_⟩
  cases j with
  | zero=>exact h.1
  | succ j=>exact h2 j
 | [],_::_,h=>h.elim
 | _::_,[],h=>h.elim
theorem Gd.tupL {H:Qa} {l m:List V} (h:GdL H l m):Gd H (.tup l) (.tup m):=.tup _ _ h.all.1 h.all.2
theorem Gd.aggL {H:Qa} {l m:List V} (h:GdL H l m):Gd H (.agg l) (.agg m):=.agg _ _ h.all.1 h.all.2
theorem Qkz {l:List V} (h:∀ j,plain (nth l j)=true):Xd l=true:=by
 induction l with
 | nil=>rfl
 | cons a l ih=>simp only [Xd,Bool.and_eq_true];exact ⟨h 0,ih fun j=>h (j+1)⟩
theorem Gd.plain {H:Qa} {v u:V} (h:Gd H v u):Bv.plain v=true:=by
 induction h with
 | leaf v hc hp=>exact hp
 | nil=>rfl
 | ref=>rfl
 | agg l m hl h ih=>simp only [Bv.plain];exact Qkz ih
 | tup l m hl h ih=>simp only [Bv.plain];exact Qkz ih
theorem Qn5 {im:Nat→Prop} {pl:Nat→Place} {w:World} {v:V} {c:Value} (h:VR im Kw w v c):VR im pl w v c:=h.places fun r hr=>(hr rfl).elim
theorem Gd.bor {H:Qa} {v u:V} (h:Gd H v u):Bor H v u:=by
 induction h with
 | leaf v hc hp=>exact .clo v hc
 | nil cs=>exact .nil cs
 | ref r n row cs hr hp hl h ih=>exact .ref r 0 n row cs hr (by omega) fun j hj=>by rw [Nat.zero_add];exact ih j hj
 | agg l m hl h ih=>exact .agg l m hl ih
 | tup l m hl h ih=>exact .tup l m hl ih
theorem Gd.VR {im:Nat→Prop} {pl:Nat→Place} {w:World} {H:Qa} (hH:HR im pl w H) {v u:V} (h:Gd H v u) {c:Value} (hv:Bv.VR im pl w v c):Bv.VR (Qs3 im pl) Kw w u c:=h.bor.VR hH hv
def Qjp (pl:Nat→Place):Nat→Place:=fun r=>match pl r with
 | .no=>.no
 | _=>.dead
theorem Qr7 {pl:Nat→Place} {r:Nat}:Qjp pl r=.no↔pl r=.no:=by unfold Qjp;cases pl r<;>simp
theorem Qfq {pl:Nat→Place} {r b c:Nat}:Qjp pl r≠.at b c:=by unfold Qjp;cases pl r<;>simp
theorem HR.allDead {im:Nat→Prop} {pl:Nat→Place} {w:World} {H:Qa} (h:HR im pl w H):HR (Qs3 im pl) (Qjp pl) w (H.map fun _=>(Option.none:Option Row))∧Ext im pl w (Qs3 im pl) (Qjp pl) w:=by
 refine ⟨⟨fun r=>?_,fun b _ r c=>Qfq,fun r b c hr=>(Qfq hr).elim,fun b hb=>?_,fun r r' b c c' hr=>(Qfq hr).elim,fun r hr=>?_,fun r hr=>?_,fun r b c hr=>(Qfq hr).elim⟩,⟨rfl,rfl,rfl,Nat.le_refl _,fun b hb=>.inl hb,fun b hb=>?_,fun r hr=>?_,fun r b c hr=>(Qfq hr).elim,fun _ _ _=>rfl⟩⟩
 ·rw [List.length_map,h.len r,ne_eq,ne_eq,Qr7]
 ·rcases hb with hb | ⟨r,cap,hb⟩
  ·exact h.imb b hb
  ·exact h.bound r b cap hb
 ·have hlt:r<H.length:=(h.len r).2 fun e=>by rw [Qr7.2 e] at hr;cases hr
  simp [hlt]
 ·unfold Qjp at hr;cases hp:pl r<;>rw [hp] at hr<;>cases hr
 ·rcases hb with hb | ⟨r,cap,hb⟩
  ·exact .inl hb
  ·exact .inr (.inr ⟨r,cap,hb⟩)
 ·right;unfold Qjp;cases hp:pl r<;>simp_all
def Val (C:Ctx) (f:FuncId) (args:List V) (u:V):Prop:=Fc C f args [] fun v H=>Gd H v u∧Jb H
theorem Gd.up {im:Nat→Prop} {pl:Nat→Place} {w:World} {H:Qa} {v u:V} {c:Value} (hu:clo u=true) (hv:Gd H v u) (h:Bv.VR im pl w v c) (hH:HR im pl w H):∃ im1 pl1 H1,HR im1 pl1 w H1∧Ext im pl w im1 pl1 w∧Bv.VR im1 pl1 w u c :=
 ⟨_,_,_,hH.allDead.1,hH.allDead.2,Qn5 (hv.VR hH h)⟩
theorem Val.call {C:Ctx} {f:FuncId} {args args':List V} {H:Qa} {K:V→Qa→Prop} {u:V} (h:Val C f args' u) (hb:BorL H args args') (hu:clo u=true) (hK:K u H):Fc C f args H K :=
 Fc.byVal h hb.all.1 hb.all.2 (fun v H' hv=>⟨hv.1.plain,hv.2⟩) (fun im pl w v H c hq hv hH=>hq.1.up hu hv hH) hu hK
theorem Val.pc {C:Ctx} {H0:Qa} {f:FuncId} {args args':List V} {H:Qa} {K:V→Qa→Prop} {u:V} (h:Val C f args' u) (hb:BorL H args args') (hu:clo u=true) (hK:K u H):Pc C H0 f args H K :=
 Pc.byVal (h.call hb hu ⟨rfl,rfl⟩) hK
theorem Val.ofPu {C:Ctx} {f:FuncId} {args:List V} {u:V} (h:Pu C f args u) (hc:clo u=true) (hp:plain u=true):Val C f args u :=
 h.mono fun v H hv=>by obtain ⟨rfl,rfl⟩:=hv;exact ⟨.leaf _ hc hp,fun r row hr=>by simp at hr⟩
theorem Val.ofZ {C:Ctx} {f:FuncId} {args:List V} {e s n:Nat} {cs:List V} (h:Fc C f args [] fun v H=>RetZ e s H v n cs) (hc:Qf cs=true) (hp:Xd cs=true):Val C f args (.sl n cs) :=
 h.mono fun v H hv=>by
  have hpl:=(hv.plain hp).2
  refine ⟨?_,hpl⟩;rcases hv with ⟨rfl,rfl,rfl,rfl⟩ | ⟨rfl,rfl,rfl,rfl⟩ | ⟨rfl,rfl,hl⟩
  ·exact .leaf _ rfl rfl
  ·exact .nil _
  ·exact .flat 0 n e s cs rfl hc hp
def Xep (H:Qa) (r:Nat):Bool:=match Qc H r with
 | some row=>Xd row.cs
 | none=>false
def Qfm (H:Qa):List Nat:=(List.range H.length).filter (Xep H)
mutual
theorem Qyv (g:Nat→Option Nat):∀ v:V,plain v=true→plain (ren g v)=true
 | .any,_=>rfl
 | .int _ _,_=>rfl
 | .bool _,_=>rfl
 | .str _,_=>rfl
 | .nil,_=>rfl
 | .sl n cs,h=>by simpa [ren,plain] using h
 | .ref r off n,_=>by simp only [ren];split<;>rfl
 | .agg cs,h=>by simp only [plain] at h;simp only [ren,plain];exact Jn g cs h
 | .tup cs,h=>by simp only [plain] at h;simp only [ren,plain];exact Jn g cs h
 | .ptr r off,_=>by simp only [ren];split<;>rfl
 | .nilp,_=>rfl
 | .rp cs off,h=>by simp [plain] at h
 | .fn f xs ys,h=>by simp only [plain,Bool.and_eq_true] at h;simp only [ren,plain,Bool.and_eq_true];exact ⟨Jn g xs h.1,Jn g ys h.2⟩
 | .nilf,_=>rfl
 | .mp k ks vs,h=>by simp [plain] at h
theorem Jn (g:Nat→Option Nat):∀ l:List V,Xd l=true→Xd (Qe g l)=true
 | [],_=>rfl
 | v::l,h=>by simp only [Xd,Bool.and_eq_true] at h;simp only [Qe,Xd,Bool.and_eq_true];exact ⟨Qyv g v h.1,Jn g l h.2⟩
end
theorem Xhk {l:List Nat} {r:Nat} (h:r∈l):∃ i,pos l r=some i:=by
 induction l with
 | nil=>cases h
 | cons a l ih =>
  by_cases e:a=r
  ·exact ⟨0,by simp [pos,e]⟩
  ·rcases List.mem_cons.1 h with h | h
   ·exact (e h.symm).elim
   ·obtain ⟨i,hi⟩:=ih h;exact ⟨i+1,by simp [pos,e,hi]⟩
theorem Qaw (g:Nat→Option Nat) (l:List V):(Qe g l).length=l.length:=by rw [Qhk,List.length_map]
theorem Qz6 {H:Qa} {r:Nat} {row:Row} (hr:Qc H r=some row) (hp:Xd row.cs=true):r∈Qfm H:=by
 simp only [Qfm,List.mem_filter,List.mem_range];exact ⟨Xt hr,by simp [Xep,hr,hp]⟩
theorem Gd.keep {H:Qa} {v u:V} (h:Gd H v u):Gd (Qbc (Qfm H) H) (ren (pos (Qfm H)) v) u:=by
 induction h with
 | leaf v hc hp=>rw [Ya _ v hc];exact .leaf v hc hp
 | nil cs=>exact .nil cs
 | ref r n row cs hr hp hl h ih =>
  obtain ⟨i,hi⟩:=Xhk (Qz6 hr hp)
  have hg:=Qky hi
  have:Qc (Qbc (Qfm H) H) i=some (Jv (pos (Qfm H)) row):=by
   simp [Qc,Qbc,hg]
   have h1:=Xh hr
   rw [h1];simp
  simp only [ren,hi];exact .ref i n _ cs this (Jn _ _ hp) (by simpa [Jv,Qaw] using hl) fun j hj=>by
   simp only [Jv,Yo];exact ih j hj
 | agg l m hl h ih=>simp only [ren];exact .agg _ _ (by rw [Qaw];exact hl) fun j=>by rw [Yo];exact ih j
 | tup l m hl h ih=>simp only [ren];exact .tup _ _ (by rw [Qaw];exact hl) fun j=>by rw [Yo];exact ih j
theorem Qrz (H:Qa):Jb (Qbc (Qfm H) H):=by
 intro i row hr;simp only [Qbc,List.getElem?_map,Option.map_eq_some_iff] at hr;obtain ⟨r,hr1,hr2⟩:=hr
 have hm:r∈Qfm H:=List.mem_of_getElem? hr1
 simp only [Qfm,List.mem_filter,Xep] at hm;obtain ⟨row0,h0,rfl⟩:=hr2;rw [h0] at hm;simp only [Jv];exact Jn _ _ hm.2
theorem Gd.ret {H:Qa} {v u:V} (h:Gd H v u):∃ sel,Qa7 sel (fun v H=>Gd H v u∧Jb H) v H:=by
 refine ⟨Qfm H,List.nodup_range.filter _,fun r hr=>?_,h.keep,Qrz H⟩
 simp only [Qfm,List.mem_filter,List.mem_range] at hr;exact hr.1
theorem IsZ.gd {e s:Nat} {H:Qa} {v:V} {n:Nat} {cs:List V} (h:IsZ e s H v n cs) (hc:Qf cs=true) (hp:Xd cs=true):Gd H v (.sl n cs):=by
 rcases h with ⟨rfl,rfl,rfl⟩ | ⟨rfl,rfl,rfl⟩ | ⟨r,rfl,h2,_⟩
 ·exact .leaf _ rfl rfl
 ·exact .nil _
 ·exact .flat r n e s cs h2 hc hp
theorem Gd.shift {H H':Qa} {v u:V} (h:Gd H' v u):Gd (H++Qbs (shift H.length) H') (ren (shift H.length) v) u:=by
 induction h with
 | leaf v hc hp=>rw [Ya _ v hc];exact .leaf v hc hp
 | nil cs=>exact .nil cs
 | ref r n row cs hr hp hl h ih =>
  have:=Qio (H:=H) (Bv.shift H.length) hr
  exact .ref (r+H.length) n _ cs this (Jn _ _ hp) (by simpa [Jv,Qaw] using hl) fun j hj=>by
   simp only [Jv,Yo];exact ih j hj
 | agg l m hl h ih=>simp only [ren];exact .agg _ _ (by rw [Qaw];exact hl) fun j=>by rw [Yo];exact ih j
 | tup l m hl h ih=>simp only [ren];exact .tup _ _ (by rw [Qaw];exact hl) fun j=>by rw [Yo];exact ih j
theorem Val.kept {C:Ctx} {f:FuncId} {args args':List V} {H:Qa} {K:V→Qa→Prop} {u:V} (h:Val C f args' u) (hb:BorL H args args') (hK:∀ v X,Gd (H++X) v u→K v (H++X)):Fc C f args H K :=
 Fc.borrow h hb.all.1 hb.all.2 (fun v H' hv=>⟨hv.1.plain,hv.2⟩) fun v H' hv=>hK _ _ hv.1.shift
theorem Gd.tup_inv {H:Qa} {v:V} {m:List V} (h:Gd H v (.tup m)):∃ l,v=.tup l∧l.length=m.length∧∀ j,Gd H (nth l j) (nth m j):=by
 cases h with
 | leaf _ hc hp =>
  simp only [clo] at hc;simp only [Bv.plain] at hp;exact ⟨m,rfl,rfl,fun j=>.leaf _ (Ys hc j) (Ja hp j)⟩
 | tup l _ hl h=>exact ⟨l,rfl,hl,h⟩
theorem Gd.tup3 {H:Qa} {v a b c:V} (h:Gd H v (.tup [a,b,c])):∃ x y z,v=.tup [x,y,z]∧Gd H x a∧Gd H y b∧Gd H z c:=by
 obtain ⟨l,rfl,hl,h⟩:=h.tup_inv
 match l,hl with
 | [x,y,z],_=>exact ⟨x,y,z,rfl,h 0,h 1,h 2⟩
theorem Gd.tup2 {H:Qa} {v a b:V} (h:Gd H v (.tup [a,b])):∃ x y,v=.tup [x,y]∧Gd H x a∧Gd H y b:=by
 obtain ⟨l,rfl,hl,h⟩:=h.tup_inv
 match l,hl with
 | [x,y],_=>exact ⟨x,y,rfl,h 0,h 1⟩
theorem Gd.bool_inv {H:Qa} {v:V} {b:Bool} (h:Gd H v (.bool b)):v=.bool b:=by cases h;rfl
theorem Gd.int_inv {H:Qa} {v:V} {k:IntKind} {n:Int} (h:Gd H v (.int k n)):v=.int k n:=by cases h;rfl
theorem Gd.more {H:Qa} {v u:V} (h:Gd H v u) {H':Qa} (hk:Keep H H'):Gd H' v u:=by
 induction h with
 | leaf v hc hp=>exact .leaf v hc hp
 | nil cs=>exact .nil cs
 | ref r n row cs hr hp hl h ih=>exact .ref r n row cs (hk _ _ hr) hp hl ih
 | agg l m hl h ih=>exact .agg l m hl ih
 | tup l m hl h ih=>exact .tup l m hl ih
theorem Pc.kept {C:Ctx} {H0:Qa} {f:FuncId} {args args':List V} {H:Qa} {K:V→Qa→Prop} {u:V} (h:Val C f args' u) (hs:∃ v H,Gd H v u∧Jb H) (hb:BorL H args args') (hK:∀ v X,Gd (H++X) v u→K v (H++X)):Pc C H0 f args H K :=
 Pc.borrow h hs hb.all.1 hb.all.2 (fun v H' hv=>⟨hv.1.plain,hv.2⟩) fun v H' hv=>hK _ _ hv.1.shift
theorem Gd.some_sl {n:Nat} {cs:List V} (hc:Qf cs=true) (hp:Xd cs=true):∃ v H,Gd H v (.sl n cs)∧Jb H :=
 ⟨.ref 0 0 n,[some ⟨0,1,cs⟩],.flat 0 n 0 1 cs rfl hc hp,fun r row hr=>by
  cases r with
  | zero=>simp at hr;subst hr;exact hp
  | succ r=>simp at hr⟩
def GdF (n:Nat) (H:Qa) (v u:V):Prop:=∀ H2:Qa,(∀ r row,n≤r→Qc H r=some row→Qc H2 r=some row)→Gd H2 v u
theorem GdF.gd {n:Nat} {H:Qa} {v u:V} (h:GdF n H v u):Gd H v u:=h H fun _ _ _ hr=>hr
theorem GdF.bor {n:Nat} {H:Qa} {v u:V} (h:GdF n H v u):Bor H v u:=h.gd.bor
theorem GdF.far {n:Nat} {H H':Qa} {v u:V} (h:GdF n H v u) (hk:∀ r row,n≤r→Qc H r=some row→Qc H' r=some row):GdF n H' v u:=fun H2 h2=>h H2 fun r row hn hr=>h2 r row hn (hk r row hn hr)
theorem GdF.app {n:Nat} {H:Qa} {v u:V} (h:GdF n H v u) (X:Qa):GdF n (H++X) v u:=h.far fun r row _ hr=>Ql hr _
theorem GdF.set {n:Nat} {H:Qa} {v u:V} (h:GdF n H v u) {q:Nat} (hq:q<n) (z:Option Row):GdF n (H.set q z) v u:=h.far fun r row hn hr=>by rw [Qk _ (by omega)];exact hr
theorem GdF.of {H:Qa} {v u:V} (h:Gd H v u):GdF 0 H v u:=fun H2 h2=>h.more fun r row hr=>h2 r row (Nat.zero_le _) hr
theorem GdF.self {n:Nat} {H:Qa} {v:V} (hc:clo v=true) (hp:plain v=true):GdF n H v v:=fun H2 h2=>.leaf v hc hp
theorem Gd.shiftF {H H':Qa} {v u:V} (h:Gd H' v u):GdF H.length (H++Qbs (Bv.shift H.length) H') (ren (Bv.shift H.length) v) u:=by
 induction h with
 | leaf v hc hp=>intro H2 h2;rw [Ya _ v hc];exact .leaf v hc hp
 | nil cs=>intro H2 h2;exact .nil cs
 | ref r n row cs hr hp hl h ih =>
  intro H2 h2
  have:=Qio (H:=H) (Bv.shift H.length) hr
  exact .ref (r+H.length) n _ cs (h2 _ _ (Nat.le_add_left _ _) this) (Jn _ _ hp) (by simpa [Jv,Qaw] using hl) fun j hj=>by
   simp only [Jv,Yo];exact ih j hj H2 h2
 | agg l m hl h ih=>intro H2 h2;simp only [ren];exact .agg _ _ (by rw [Qaw];exact hl) fun j=>by rw [Yo];exact ih j H2 h2
 | tup l m hl h ih=>intro H2 h2;simp only [ren];exact .tup _ _ (by rw [Qaw];exact hl) fun j=>by rw [Yo];exact ih j H2 h2
theorem Val.keptF {C:Ctx} {f:FuncId} {args args':List V} {H:Qa} {K:V→Qa→Prop} {u:V} (h:Val C f args' u) (hb:BorL H args args') (hK:∀ v X,GdF H.length (H++X) v u→K v (H++X)):Fc C f args H K :=
 Fc.borrow h hb.all.1 hb.all.2 (fun v H' hv=>⟨hv.1.plain,hv.2⟩) fun v H' hv=>hK _ _ hv.1.shiftF
theorem Pc.keptF {C:Ctx} {H0:Qa} {f:FuncId} {args args':List V} {H:Qa} {K:V→Qa→Prop} {u:V} (h:Val C f args' u) (hs:∃ v H,Gd H v u∧Jb H) (hb:BorL H args args') (hK:∀ v X,GdF H.length (H++X) v u→K v (H++X)):Pc C H0 f args H K :=
 Pc.borrow h hs hb.all.1 hb.all.2 (fun v H' hv=>⟨hv.1.plain,hv.2⟩) fun v H' hv=>hK _ _ hv.1.shiftF
theorem GdF.tup2 {n:Nat} {H:Qa} {v a b:V} (h:GdF n H v (.tup [a,b])):∃ x y,v=.tup [x,y]∧GdF n H x a∧GdF n H y b:=by
 obtain ⟨x,y,rfl,_,_⟩:=h.gd.tup2;refine ⟨x,y,rfl,fun H2 h2=>?_,fun H2 h2=>?_⟩
 ·obtain ⟨x',y',e,h3,h4⟩:=(h H2 h2).tup2;injection e with e;injection e with e1 e2;rw [e1];exact h3
 ·obtain ⟨x',y',e,h3,h4⟩:=(h H2 h2).tup2;injection e with e;injection e with e1 e2;injection e2 with e2;rw [e2];exact h4
theorem GdF.tup3 {n:Nat} {H:Qa} {v a b c:V} (h:GdF n H v (.tup [a,b,c])):∃ x y z,v=.tup [x,y,z]∧GdF n H x a∧GdF n H y b∧GdF n H z c:=by
 obtain ⟨x,y,z,rfl,_,_,_⟩:=h.gd.tup3;refine ⟨x,y,z,rfl,fun H2 h2=>?_,fun H2 h2=>?_,fun H2 h2=>?_⟩
 all_goals
  obtain ⟨x',y',z',e,h3,h4,h5⟩:=(h H2 h2).tup3;injection e with e
  injection e with e1 e2
  injection e2 with e2 e3
  injection e3 with e3 e4
  subst e1 e2 e3
  assumption
theorem Gd.agg_inv {H:Qa} {v:V} {m:List V} (h:Gd H v (.agg m)):∃ l,v=.agg l∧l.length=m.length∧∀ j,Gd H (nth l j) (nth m j):=by
 cases h with
 | leaf _ hc hp =>
  simp only [clo] at hc;simp only [Bv.plain] at hp;exact ⟨m,rfl,rfl,fun j=>.leaf _ (Ys hc j) (Ja hp j)⟩
 | agg l _ hl h=>exact ⟨l,rfl,hl,h⟩
theorem Gd.agg3 {H:Qa} {v a b c:V} (h:Gd H v (.agg [a,b,c])):∃ x y z,v=.agg [x,y,z]∧Gd H x a∧Gd H y b∧Gd H z c:=by
 obtain ⟨l,rfl,hl,h⟩:=h.agg_inv
 match l,hl with
 | [x,y,z],_=>exact ⟨x,y,z,rfl,h 0,h 1,h 2⟩
theorem Gd.agg2 {H:Qa} {v a b:V} (h:Gd H v (.agg [a,b])):∃ x y,v=.agg [x,y]∧Gd H x a∧Gd H y b:=by
 obtain ⟨l,rfl,hl,h⟩:=h.agg_inv
 match l,hl with
 | [x,y],_=>exact ⟨x,y,rfl,h 0,h 1⟩
theorem GdF.agg3 {n:Nat} {H:Qa} {v a b c:V} (h:GdF n H v (.agg [a,b,c])):∃ x y z,v=.agg [x,y,z]∧GdF n H x a∧GdF n H y b∧GdF n H z c:=by
 obtain ⟨x,y,z,rfl,_,_,_⟩:=h.gd.agg3;refine ⟨x,y,z,rfl,fun H2 h2=>?_,fun H2 h2=>?_,fun H2 h2=>?_⟩
 all_goals
  obtain ⟨x',y',z',e,h3,h4,h5⟩:=(h H2 h2).agg3;injection e with e
  injection e with e1 e2
  injection e2 with e2 e3
  injection e3 with e3 e4
  subst e1 e2 e3
  assumption
theorem GdF.agg2 {n:Nat} {H:Qa} {v a b:V} (h:GdF n H v (.agg [a,b])):∃ x y,v=.agg [x,y]∧GdF n H x a∧GdF n H y b:=by
 obtain ⟨x,y,rfl,_,_⟩:=h.gd.agg2;refine ⟨x,y,rfl,fun H2 h2=>?_,fun H2 h2=>?_⟩
 all_goals
  obtain ⟨x',y',e,h3,h4⟩:=(h H2 h2).agg2;injection e with e
  injection e with e1 e2
  injection e2 with e2 e3
  subst e1 e2
  assumption
def Cel (b e s:Nat) (H:Qa) (v:V) (n:Nat) (us:List V):Prop :=
 ∃ cs,Own e s H v n cs∧(∀ r off m,v=.ref r off m→b≤r)∧cs.length=us.length∧Xd cs=true∧cs.all Yc=true ∧
  ∀ H2:Qa,(∀ q row,b≤q→(∀ off m,v≠.ref q off m)→Qc H q=some row→Qc H2 q=some row)→∀ j,Gd H2 (nth cs j) (nth us j)
theorem Cel.nil (b e s:Nat) (H:Qa):Cel b e s H .nil 0 [] :=
 ⟨[],.inl ⟨rfl,rfl,rfl⟩,fun r off m h=>(by cases h),rfl,rfl,rfl,fun H2 _ j=>Gd.any _⟩
theorem Cel.gd {b e s:Nat} {H:Qa} {v:V} {n:Nat} {us:List V} (h:Cel b e s H v n us):Gd H v (.sl n us):=by
 obtain ⟨cs,hO,hb,hl,hp,hs,hG⟩:=h;rcases hO with ⟨rfl,rfl,rfl⟩ | ⟨r,rfl,h2,h3⟩
 ·exact .nil _
 ·exact .ref r n _ us h2 hp (Nat.le_of_eq hl.symm) fun j _=>hG H (fun q row _ _ hq=>hq) j
theorem Cel.far {b e s:Nat} {H H':Qa} {v:V} {n:Nat} {us:List V} (h:Cel b e s H v n us) (hk:∀ q row,b≤q→Qc H q=some row→Qc H' q=some row):Cel b e s H' v n us:=by
 obtain ⟨cs,hO,hb,hl,hp,hs,hG⟩:=h;refine ⟨cs, ?_,hb,hl,hp,hs,fun H2 h2 j=>hG H2 (fun q row hq hv hr=>h2 q row hq hv (hk q row hq hr)) j⟩
 rcases hO with hO | ⟨r,rfl,h2,h3⟩
 ·exact .inl hO
 ·exact .inr ⟨r,rfl,hk _ _ (hb r 0 n rfl) h2,h3⟩
theorem Cel.app {b e s:Nat} {H:Qa} {v:V} {n:Nat} {us:List V} (h:Cel b e s H v n us) (X:Qa):Cel b e s (H++X) v n us:=h.far fun q row _ hr=>Ql hr _
theorem Cel.set {b e s:Nat} {H:Qa} {v:V} {n:Nat} {us:List V} (h:Cel b e s H v n us) {q:Nat} (hq:q<b) (z:Option Row):Cel b e s (H.set q z) v n us:=h.far fun r row hr h1=>by rw [Qk _ (by omega)];exact h1
theorem Cel.lenw {b e s:Nat} {H:Qa} {v:V} {n:Nat} {us:List V} (h:Cel b e s H v n us) (y:Ty) (KP:V→Prop):lenw y v KP=(y.sl.isSome=true∧KP (.int .i64 n)):=by
 obtain ⟨cs,hO,_⟩:=h;exact hO.lenw y KP
theorem Cel.kn {b e s:Nat} {H:Qa} {v:V} {n:Nat} {us:List V} (h:Cel b e s H v n us):kn v=true∧cellsOf v=[v]∧Yc v=true:=by
 obtain ⟨cs,hO,_⟩:=h;rcases hO with ⟨rfl,_⟩ | ⟨r,rfl,_⟩
 ·exact ⟨rfl,rfl,rfl⟩
 ·exact ⟨rfl,rfl,rfl⟩
def Far (b:Nat) (v:V) (H:Qa) (ns ms:List V):Prop:=∀ H2:Qa,(∀ q row,b≤q→(∀ off m,v≠.ref q off m)→Qc H q=some row→Qc H2 q=some row)→∀ j,Gd H2 (nth ns j) (nth ms j)
theorem Far.nil (b:Nat) (v:V) (H:Qa):Far b v H [] []:=fun H2 _ j=>Gd.any _
theorem Far.cons {b:Nat} {v:V} {H:Qa} {x u:V} {ns ms:List V} (h:∀ H2:Qa,(∀ q row,b≤q→(∀ off m,v≠.ref q off m)→Qc H q=some row→Qc H2 q=some row)→Gd H2 x u) (hr:Far b v H ns ms):Far b v H (x::ns) (u::ms):=fun H2 h2 j=>by
 cases j with
 | zero=>exact h H2 h2
 | succ j=>exact hr H2 h2 j
theorem Far.self {b:Nat} {v:V} {H:Qa} {x:V} {ns ms:List V} (hc:clo x=true) (hp:plain x=true) (hr:Far b v H ns ms):Far b v H (x::ns) (x::ms):=.cons (fun H2 _=>.leaf _ hc hp) hr
theorem Far.kept {b n:Nat} {v:V} {H:Qa} {x u:V} {ns ms:List V} (h:GdF n H x u) (hb:b≤n) (hv:∀ r off m,v=.ref r off m→r<n) (hr:Far b v H ns ms):Far b v H (x::ns) (u::ms) :=
 .cons (fun H2 h2=>h H2 fun q row hq hr=>h2 q row (by omega) (fun off m e=>by have:=hv q off m e;omega) hr) hr
theorem Cel.lt {b e s:Nat} {H:Qa} {v:V} {n:Nat} {us:List V} (h:Cel b e s H v n us):∀ r off m,v=.ref r off m→r<H.length:=by
 obtain ⟨cs,hO,_⟩:=h;intro r off m hv;rcases hO with ⟨rfl,_⟩ | ⟨r',rfl,h2,_⟩
 ·cases hv
 ·injection hv with hv;subst hv;exact Xt h2
theorem Cel.ne {b e s:Nat} {H:Qa} {v:V} {n:Nat} {us:List V} (h:Cel b e s H v n us) {q:Nat} (hq:q<b):∀ off m,v≠.ref q off m:=by
 obtain ⟨cs,_,hb,_⟩:=h;intro off m hv
 have:=hb q off m hv
 omega
theorem Qnb (a b:List V) (j:Nat):nth (a++b) j=if j<a.length then nth a j else nth b (j - a.length):=Yj a b j
theorem Cel.append {y:Ty} {b e e' s' n:Nat} {H:Qa} {v:V} {us ns ms:List V} {K:V→Qa→Prop} (h:Cel b e y.size H v n us) (hb:b≤H.length) (hl:ns.length=y.size) (hm:ms.length=ns.length) (hp:Xd ns=true) (hs:ns.all Yc=true) (hF:Far b v H ns ms)
  (hy:0<y.size) (hby:0<y.bytes∧y.bytes≤1000) (hn:n+1≤100000000000) (hK:∀ v' H',Cel b e y.size H' v' (n+1) (us++ms)→(∀ q row,(∀ off m,v≠.ref q off m)→Qc H q=some row→Qc H' q=some row)→H'.length=H.length+2→v'=.ref (H.length+1) 0 (n+1)→K v' H') :
  Qaa y e v (.ref H.length 0 1) (H++[some ⟨e',s',ns⟩]) K:=by
 obtain ⟨cs,hO,hb2,hl2,hp2,hs2,hG⟩:=h;refine Qii hO (by rw [hl,Nat.one_mul]) hs hy hby.1 (by have:=Nat.mul_le_mul hn hby.2;omega) hs2 fun H' k1 k2 k3=>?_
 refine hK _ H' ⟨cs++ns,k1,fun r off m e=>by injection e with e;omega,by simp [hl2,hm], ?_,by simp [hs2,hs],fun H2 h2 j=>?_⟩ (fun q row hq hr=>k2 q row hq hr) k3 rfl
 ·have:∀ (a c:List V),Xd a=true→Xd c=true→Xd (a++c)=true:=fun a c ha hc=>by
   induction a with
   | nil=>exact hc
   | cons x a ih =>
    simp only [Xd,Bool.and_eq_true] at ha;simp only [List.cons_append,Xd,Bool.and_eq_true];exact ⟨ha.1,ih ha.2⟩
  exact this _ _ hp2 hp
 ·have hcond:∀ q row,b≤q→(∀ off m,v≠.ref q off m)→Qc H q=some row→Qc H2 q=some row:=fun q row hq hv hr=>by
   have hlt:=Xt hr
   exact h2 q row hq (fun off m e=>by injection e with e;omega) (k2 q row hv hr)
  rw [Qnb,Qnb,hl2];split
  ·exact hG H2 hcond j
  ·exact hF H2 hcond _
theorem Cel.one {b e s n:Nat} {H:Qa} {v:V} {cs:List V} (h:Own e s H v n cs) (hb:∀ r off m,v=.ref r off m→b≤r) (hc:Qf cs=true) (hp:Xd cs=true) (hs:cs.all Yc=true):Cel b e s H v n cs :=
 ⟨cs,h,hb,rfl,hp,hs,fun H2 _ j=>.leaf _ (Ys hc j) (Ja hp j)⟩
theorem Cel.push3 {y:Ty} {b e e' s' n:Nat} {H X:Qa} {v v2 v3 u2 u3:V} {us:List V} {b0:Bool} {K:V→Qa→Prop} (h:Cel b e 3 H v n us) (hy:y.size=3) (hby:y.bytes=56) (hb:b≤H.length) (hn:n+1≤100000000000)
  (h2:GdF H.length (H++X) v2 u2) (h3:GdF H.length (H++X) v3 u3) (s2:Yc v2=true) (s3:Yc v3=true)
  (hK:∀ v' H',Cel b e 3 H' v' (n+1) (us++[.bool b0,u2,u3])→(∀ q row,q<b→Qc H q=some row→Qc H' q=some row)→Bv.kn v'=true→cellsOf v'=[v']→Yc v'=true→K v' H') :
  Qaa y e v (.ref (H.length+X.length) 0 1) (H++(X++[some ⟨e',s',[.bool b0,v2,v3]⟩])) K:=by
 rw [← List.append_assoc,← List.length_append]
 have h':=h.app X
 rw [← hy] at h';refine h'.append (ms:=[.bool b0,u2,u3]) (by simp;omega) (by rw [hy];rfl) rfl (by simp [Xd,plain,h2.gd.plain,h3.gd.plain]) (by simp only [List.all_cons,s2,s3,List.all_nil,Bool.and_true];rfl) (.self rfl rfl (.kept h2 hb (fun r off m e=>h.lt r off m e) (.kept h3 hb (fun r off m e=>h.lt r off m e) (.nil _ _ _)))) (by omega) (by omega) hn fun v' H' k1 k2 k3 k4=>?_
 rw [hy] at k1;obtain ⟨q1,q2,q3⟩:=k1.kn;exact hK v' H' k1 (fun q row hq hr=>k2 q row (h.ne hq) (Ql hr X)) q1 q2 q3
mutual
theorem Xbr (r:Nat) (cs:List V):∀ v:V,clo v=true→sz r cs v=v
 | .any,_=>rfl
 | .int _ _,_=>rfl
 | .bool _,_=>rfl
 | .str _,_=>rfl
 | .nil,_=>rfl
 | .sl n l,h=>by simp only [sz,Yr r cs l h]
 | .ref _ _ _,h=>by cases h
 | .agg l,h=>by simp only [sz,Yr r cs l h]
 | .tup l,h=>by simp only [sz,Yr r cs l h]
 | .ptr _ _,h=>by cases h
 | .nilp,_=>rfl
 | .rp l off,h=>by simp only [sz,Yr r cs l h]
 | .fn f xs ys,h=>by
  simp only [clo,Bool.and_eq_true] at h;simp only [sz,Yr r cs xs h.1,Yr r cs ys h.2]
 | .nilf,_=>rfl
 | .mp k ks vs,h=>by simp only [sz,Yr r cs vs h]
theorem Yr (r:Nat) (cs:List V):∀ l:List V,Qf l=true→szL r cs l=l
 | [],_=>rfl
 | v::l,h=>by
  simp only [Qf,Bool.and_eq_true] at h;simp only [szL,Xbr r cs v h.1,Yr r cs l h.2]
end
def GdIn (n m:Nat) (H:Qa) (v u:V):Prop:=∀ H2:Qa,(∀ r row,n≤r→r<m→Qc H r=some row→Qc H2 r=some row)→Gd H2 v u
theorem GdIn.gd {n m:Nat} {H:Qa} {v u:V} (h:GdIn n m H v u):Gd H v u:=h H fun _ _ _ _ hr=>hr
theorem GdIn.far {n m:Nat} {H H':Qa} {v u:V} (h:GdIn n m H v u) (hk:∀ r row,n≤r→r<m→Qc H r=some row→Qc H' r=some row):GdIn n m H' v u:=fun H2 h2=>h H2 fun r row hn hm hr=>h2 r row hn hm (hk r row hn hm hr)
theorem GdIn.app {n m:Nat} {H:Qa} {v u:V} (h:GdIn n m H v u) (X:Qa):GdIn n m (H++X) v u:=h.far fun r row _ _ hr=>Ql hr _
theorem GdIn.set {n m:Nat} {H:Qa} {v u:V} (h:GdIn n m H v u) {q:Nat} (hq:q<n∨m≤q) (z:Option Row):GdIn n m (H.set q z) v u:=h.far fun r row hn hm hr=>by rw [Qk _ (by omega)];exact hr
theorem Pu.ofBor {C:Ctx} {f:FuncId} {args:List V} {u:V} (hu:clo u=true) (h:Fc C f args [] fun v H=>Bor H v u):Pu C f args u :=
 Fc.val hu h fun im pl w v H c hq hv hH=>⟨_,_,_,hH.allDead.1,hH.allDead.2,Qn5 (hq.VR hH hv)⟩
def BorLs (H:Qa):List V→List V→Prop
 | [],[]=>True
 | a::l,b::m=>Bor H a b∧BorLs H l m
 | _,_=>False
theorem BorLs.all {H:Qa}:∀ {l m:List V},BorLs H l m→l.length=m.length∧∀ j,Bor H (nth l j) (nth m j)
 | [],[],_=>⟨rfl,fun j=>by simp [nth];exact .any⟩
 | a::l,b::m,h=>by
  obtain ⟨h1,h2⟩:=BorLs.all h.2;refine ⟨by simp [h1],fun j=>?_⟩
  cases j with
  | zero=>exact h.1
  | succ j=>exact h2 j
 | [],_::_,h=>h.elim
 | _::_,[],h=>h.elim
theorem Bor.tupL {H:Qa} {l m:List V} (h:BorLs H l m):Bor H (.tup l) (.tup m):=.tup _ _ h.all.1 h.all.2
theorem Bor.aggL {H:Qa} {l m:List V} (h:BorLs H l m):Bor H (.agg l) (.agg m):=.agg _ _ h.all.1 h.all.2
end Go.Bv
end
