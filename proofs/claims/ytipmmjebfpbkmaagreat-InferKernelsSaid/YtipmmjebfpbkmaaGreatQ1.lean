/-
  Parts Bv1, Bv2, Bv3, Bv4, Bv5, Bv6, Bv7, Bv8, Bv9, Bv10, Bv11, Bv12, Bv13, Bv14, one behind the other: a program logic of our own, contracts of functions.
-/
import Derived.RangeFuncLeaves
import Derived.RangeFuncCalls
import Derived.Maps.AppendAt
import Derived.Below
import Derived.ScopeJumps
import Derived.Laws.Cells
import Derived.Laws.Tables
import Derived.Laws.CopyRow
import Derived.Laws.Rows
import Derived.Laws.Slices
import Derived.Laws.OwnMore
import Derived.Laws.MakeOwn
import Derived.Laws.Entries
import Derived.Laws.Small
import Derived.IntWalk

set_option linter.unusedVariables false
set_option linter.unusedSimpArgs false
set_option maxRecDepth 100000
set_option maxHeartbeats 8000000
namespace Go.Bv
theorem zNm {α:Type} {P:α→Prop}:∀ x∈([]:List α),P x:=fun _ h=>nomatch h
theorem zFm {α:Type} {p:α→Prop} {a:α} {l:List α}:(∀ x∈a::l,p x)↔p a∧∀ x∈l,p x:=List.forall_mem_cons
theorem zLe {n m:Nat} (h:Nat.ble n m=true):n≤m:=Nat.le_of_ble_eq_true h
end Go.Bv
namespace Go.Bv
theorem Je {α:Type}:(∀ (l:List α) (n:Nat) (a:α),(l.set n a).length=l.length)∧(∀ l m:List α,(l++m).length=l.length+m.length)∧(∀ (a:α) (l:List α),(a::l).length=l.length+1)∧([]:List α).length=0:=⟨fun _ _ _=>List.length_set,fun _ _=>List.length_append,fun _ _=>rfl,rfl⟩
end Go.Bv
section
namespace Go.Bv
open Go.RowKit
inductive V where
 | any
 | int (k:IntKind) (n:Int)
 | bool (b:Bool)
 | str (s:ByteArray)
 | nil
 | sl (n:Nat) (cs:List V)
 | ref (r off n:Nat)
 | agg (cs:List V)
 | tup (vs:List V)
 | ptr (r off:Nat)
 | nilp
 | rp (cs:List V) (off:Nat)
 | fn (f:Fn) (first caps:List V)
 | nilf
 deriving Inhabited
structure Row where
 e:TypeId
 s:Nat
 cs:List V
abbrev Qb:=List (Option Row)
inductive Place where
 | no | dead | virt
 | at (b cap:Nat)
def nth:List V→Nat→V
 | [],_=>.any
 | a::_,0=>a
 | _::l,n+1=>nth l n
def upd:List V→Nat→V→List V
 | [],_,_=>[]
 | _::l,0,v=>v::l
 | a::l,n+1,v=>a::upd l n v
theorem Kc (l:List V) (i:Nat) (v:V):(upd l i v).length=l.length:=by
 induction l generalizing i with
 | nil=>rfl
 | cons a l ih=>cases i<;>simp [upd,ih]
theorem Qa4 (l:List V) (i:Nat) (v:V) (j:Nat):nth (upd l i v) j=if j=i∧i<l.length then v else nth l j:=by
 induction l generalizing i j with
 | nil=>simp [upd,nth]
 | cons a l ih =>
  cases i with
  | zero=>cases j<;>simp [upd,nth]
  | succ i=>cases j<;>simp [upd,nth,ih]
theorem Ze (l:List V) (i:Nat):nth l i=l.getD i .any:=by
 induction l generalizing i with
 | nil=>simp [nth]
 | cons a l ih=>cases i<;>simp [nth,ih]
theorem Zy (l m:List V) (i:Nat):nth (l++m) i=if i<l.length then nth l i else nth m (i - l.length):=by
 induction l generalizing i with
 | nil=>simp
 | cons a l ih=>cases i with
  | zero=>simp [nth]
  | succ i=>simp only [List.cons_append,nth,ih,List.length_cons];by_cases h:i<l.length<;>simp [h]
theorem Qba (l:List V) (i:Nat) (h:l.length≤i):nth l i=.any:=by
 rw [Ze];simp [List.getD,List.getElem?_eq_none h]
inductive VR (im:Nat→Prop) (pl:Nat→Place) (w:World):V→Value→Prop
 | any (v:Value):VR im pl w .any v
 | int (k:IntKind) (n:Int):VR im pl w (.int k n) (.int k n)
 | bool (b:Bool):VR im pl w (.bool b) (.bool b)
 | str (s:ByteArray):VR im pl w (.str s) (.string s)
 | nil:VR im pl w .nil (.slice none 0 0)
 | sl0 (cs:List V) (a:Option Addr) (c:Nat):VR im pl w (.sl 0 cs) (.slice a 0 c)
 | sl (n:Nat) (cs:List V) (ad:Addr) (c:Nat) (vs:Nat→Value) (hn:n≤c) (hi:im ad.block)
   (hc:∀ j,j<cs.length→w.cell? (ad.add j)=some (vs j)) (hr:∀ j,VR im pl w (nth cs j) (vs j)):VR im pl w (.sl n cs) (.slice (some ad) n c)
 | refAt (r off n b cap c:Nat) (hp:pl r=.at b cap) (hc:n≤c) (h0:off=0→c=cap):VR im pl w (.ref r off n) (.slice (some ⟨b,off,none⟩) n c)
 | refVirt (r:Nat) (hp:pl r=.virt):VR im pl w (.ref r 0 0) (.slice none 0 0)
 | refDead (r off n:Nat) (a:Option Addr) (c:Nat) (hp:pl r=.dead):VR im pl w (.ref r off n) (.slice a n c)
 | agg (cs:List V) (vs:List Value) (hl:cs.length=vs.length) (hr:∀ j,VR im pl w (nth cs j) (vs.getD j undef)):VR im pl w (.agg cs) (.agg vs.toArray)
 | tup (cs:List V) (vs:List Value) (hl:cs.length=vs.length) (hr:∀ j,VR im pl w (nth cs j) (vs.getD j undef)):VR im pl w (.tup cs) (.tuple vs.toArray)
 | ptrAt (r off b cap:Nat) (hp:pl r=.at b cap):VR im pl w (.ptr r off) (.pointer (some ⟨b,off,none⟩))
 | ptrDead (r off:Nat) (a:Addr) (hp:pl r=.dead):VR im pl w (.ptr r off) (.pointer (some a))
 | nilp:VR im pl w .nilp (.pointer none)
 | rp (cs:List V) (off:Nat) (ad:Addr) (vs:Nat→Value) (hi:im ad.block)
   (hc:∀ j,j<cs.length→w.cell? (ad.add j)=some (vs j)) (hr:∀ j,VR im pl w (nth cs j) (vs j)):VR im pl w (.rp cs off) (.pointer (some (ad.add off)))
 | fn (f:Fn) (xs ys:List V) (us vs:List Value) (hl:xs.length=us.length) (hr:∀ j,VR im pl w (nth xs j) (us.getD j undef))
   (hl':ys.length=vs.length) (hr':∀ j,VR im pl w (nth ys j) (vs.getD j undef)):VR im pl w (.fn f xs ys) (.func f us.toArray vs.toArray)
 | nilf:VR im pl w .nilf .nilFunc
structure Ext (im:Nat→Prop) (pl:Nat→Place) (w:World) (im':Nat→Prop) (pl':Nat→Place) (w':World):Prop where
 os:w'.os=w.os
 tape:w'.tape=w.tape
 output:w'.output=w.output
 size:w.heap.size≤w'.heap.size
 imm:∀ b,im b→im' b
 imn:∀ b,im' b→im b∨w.heap.size≤b∨∃ r cap,pl r=.at b cap
 plo:∀ r,pl r≠.no→pl' r=pl r∨pl' r=.dead
 pln:∀ r b cap,pl' r=.at b cap→(∃ r' cap',pl r'=.at b cap')∨w.heap.size≤b
 frame:∀ b,b<w.heap.size→(∀ r cap,pl r≠.at b cap)→w'.heap[b]?=w.heap[b]?
theorem Ext.refl (im:Nat→Prop) (pl:Nat→Place) (w:World):Ext im pl w im pl w :=
 ⟨rfl,rfl,rfl,Nat.le_refl _,fun _ h=>h,fun _ h=>.inl h,fun _ _=>.inl rfl,fun r b cap h=>.inl ⟨r,cap,h⟩,fun _ _ _=>rfl⟩
theorem Ext.trans {im im1 im2:Nat→Prop} {pl pl1 pl2:Nat→Place} {w w1 w2:World} (h:Ext im pl w im1 pl1 w1) (k:Ext im1 pl1 w1 im2 pl2 w2):Ext im pl w im2 pl2 w2:=by
 refine ⟨k.os.trans h.os,k.tape.trans h.tape,k.output.trans h.output,Nat.le_trans h.size k.size,fun b hb=>k.imm b (h.imm b hb),fun b hb=>?_,fun r hr=>?_,fun r b cap hb=>?_,fun b hb hn=>?_⟩
 ·rcases k.imn b hb with h1 | h1 | ⟨r,cap,h1⟩
  ·exact h.imn b h1
  ·exact .inr (.inl (Nat.le_trans h.size h1))
  ·rcases h.pln r b cap h1 with ⟨r',cap',h2⟩ | h2
   ·exact .inr (.inr ⟨r',cap',h2⟩)
   ·exact .inr (.inl h2)
 ·rcases h.plo r hr with h1 | h1
  ·have h1':pl1 r≠.no:=by rw [h1];exact hr
   rcases k.plo r h1' with h2 | h2
   ·exact .inl (h2.trans h1)
   ·exact .inr h2
  ·have h1':pl1 r≠.no:=by rw [h1];simp
   rcases k.plo r h1' with h2 | h2
   ·exact .inr (h2.trans h1)
   ·exact .inr h2
 ·rcases k.pln r b cap hb with ⟨r',cap',h1⟩ | h1
  ·exact h.pln r' b cap' h1
  ·exact .inr (Nat.le_trans h.size h1)
 ·rw [k.frame b (Nat.lt_of_lt_of_le hb h.size) (fun r cap hr=>?_),h.frame b hb hn]
  rcases h.pln r b cap hr with ⟨r',cap',h1⟩ | h1
  ·exact hn r' cap' h1
  ·omega
def Xlb (im:Nat→Prop) (pl:Nat→Place):Prop:=∀ b,im b→∀ r cap,pl r≠.at b cap
theorem Qin {w w':World} {a:Addr} {v:Value} (h:w.cell? a=some v) (hb:a.block<w.heap.size→w'.heap[a.block]?=w.heap[a.block]?):w'.cell? a=some v:=by
 rw [World.cell?_of_block (w:=w) (hb (World.block_lt_of_cell? w a h))];exact h
theorem Qd1 (a:Addr) (n:Nat):(a.add n).block=a.block:=by unfold Addr.add;split<;>rfl
theorem add_add (a:Addr) (i j:Nat):(a.add i).add j=a.add (i+j):=by
 unfold Addr.add;by_cases h1:i=0<;>by_cases h2:j=0<;>simp [h1,h2,Nat.add_assoc]
theorem VR.mono {im im':Nat→Prop} {pl pl':Nat→Place} {w w':World} (hE:Ext im pl w im' pl' w') (hd:Xlb im pl) {v:V} {c:Value} (h:VR im pl w v c):VR im' pl' w' v c:=by
 have hcell:∀ {ad:Addr} {n:Nat} {vs:Nat→Value},im ad.block→(∀ j,j<n→w.cell? (ad.add j)=some (vs j))→∀ j,j<n→w'.cell? (ad.add j)=some (vs j):=by
  intro ad n vs hi hc j hj;refine Qin (hc j hj) fun hb=>hE.frame _ hb ?_
  rw [Qd1];exact hd _ hi
 induction h with
 | any v=>exact .any v
 | int k n=>exact .int k n
 | bool b=>exact .bool b
 | str s=>exact .str s
 | nil=>exact .nil
 | sl0 cs a c=>exact .sl0 cs a c
 | sl n cs ad c vs hn hi hc hr ih=>exact .sl n cs ad c vs hn (hE.imm _ hi) (hcell hi hc) ih
 | refAt r off n b cap c hp hc h0 =>
  rcases hE.plo r (by rw [hp];simp) with h1 | h1
  ·exact .refAt r off n b cap c (h1.trans hp) hc h0
  ·exact .refDead r off n _ c h1
 | refVirt r hp =>
  rcases hE.plo r (by rw [hp];simp) with h1 | h1
  ·exact .refVirt r (h1.trans hp)
  ·exact .refDead r 0 0 _ 0 h1
 | refDead r off n a c hp =>
  rcases hE.plo r (by rw [hp];simp) with h1 | h1
  ·exact .refDead r off n a c (h1.trans hp)
  ·exact .refDead r off n a c h1
 | agg cs vs hl hr ih=>exact .agg cs vs hl ih
 | tup cs vs hl hr ih=>exact .tup cs vs hl ih
 | ptrAt r off b cap hp =>
  rcases hE.plo r (by rw [hp];simp) with h1 | h1
  ·exact .ptrAt r off b cap (h1.trans hp)
  ·exact .ptrDead r off _ h1
 | ptrDead r off a hp =>
  rcases hE.plo r (by rw [hp];simp) with h1 | h1
  ·exact .ptrDead r off a (h1.trans hp)
  ·exact .ptrDead r off a h1
 | nilp=>exact .nilp
 | rp cs off ad vs hi hc hr ih=>exact .rp cs off ad vs (hE.imm _ hi) (hcell hi hc) ih
 | fn f xs ys us vs hl hr hl' hr' ih ih'=>exact .fn f xs ys us vs hl ih hl' ih'
 | nilf=>exact .nilf
structure HR (im:Nat→Prop) (pl:Nat→Place) (w:World) (H:Qb):Prop where
 len:∀ r,r<H.length↔pl r≠.no
 apart:Xlb im pl
 bound:∀ r b cap,pl r=.at b cap→b<w.heap.size
 imb:∀ b,im b→b<w.heap.size
 inj:∀ r r' b cap cap',pl r=.at b cap→pl r'=.at b cap'→r=r'
 dead:∀ r,pl r=.dead→H[r]?=some none
 virt:∀ r,pl r=.virt→∃ e s,H[r]?=some (some ⟨e,s,[]⟩)
 row:∀ r b cap,pl r=.at b cap→∃ (e s:Nat) (cs:List V) (cur:Array Value),H[r]?=some (some ⟨e,s,cs⟩)∧w.heap[b]?=some (.cells cur e (0,0))∧cur.size=cap*s∧cap≤maxLen ∧
  cs.length≤cur.size∧∀ j,VR im pl w (nth cs j) (cur.getD j undef)
def Qtf:TypeDesc→Bool
 | .struct _ | .array _ _=>true
 | _=>false
def Qzg:TypeDesc→Option Nat
 | .slice e=>some e
 | _=>none
def Qte:TypeDesc→Option (Nat × Nat)
 | .array n e=>some (n,e)
 | _=>none
def Qtd:TypeDesc→List (Nat × Nat)
 | .struct fs=>fs.toList.map fun f=>(f.offset,f.type)
 | _=>[]
def Qtb:TypeDesc→Bool
 | .string=>true
 | _=>false
def Qzh:TypeDesc→Bool
 | .bool=>true
 | _=>false
def Qtc:TypeDesc→Option IntKind
 | .int k=>some k
 | _=>none
structure Ty where
 z:Value
 size:Nat
 bytes:Nat
 agg:Bool
 sl:Option Nat
 arr:Option (Nat × Nat)
 fs:List (Nat × Nat)
 str:Bool:=false
 ik:Option IntKind:=Option.none
 bl:Bool:=false
 ok:Bool:=true
def Ty.none:Ty:={ z:=undef,size:=1,bytes:=0,agg:=false,sl:=.none,arr:=.none,fs:=[],ok:=false }
structure OKt (P:Program) (t:TypeId) (y:Ty):Prop where
 info:(P.info? t).map (fun i=>(i.zero,i.size,i.bytes))=some (some y.z,y.size,y.bytes)
 und:∃ d,P.underlying t=some d∧y.agg=Qtf d∧y.sl=Qzg d∧y.arr=Qte d∧y.fs=Qtd d∧y.str=Qtb d∧y.ik=Qtc d∧y.bl=Qzh d
 one:y.agg=false→y.size=1
 zc:y.z.cells.size=y.size
structure Ctx where
 P:Program
 ty:TypeId→Ty
 ok:∀ t,(ty t).ok=true→OKt P t (ty t)
theorem OKt.parts {P:Program} {t:TypeId} {y:Ty} (h:OKt P t y):∃ i,P.info? t=some i∧i.zero=some y.z∧i.size=y.size∧i.bytes=y.bytes:=by
 obtain ⟨i,hi,hz⟩:=Option.map_eq_some_iff.1 h.info;simp only [Prod.mk.injEq] at hz;exact ⟨i,hi,hz.1,hz.2.1,hz.2.2⟩
theorem OKt.slice {P:Program} {t e:TypeId} {y:Ty} (h:OKt P t y) (hs:y.sl=some e):P.underlying t=some (.slice e):=by
 obtain ⟨d,hd,_,h2,_⟩:=h.und;rw [hs] at h2;cases d<;>simp [Qzg] at h2;rw [hd,h2]
theorem OKt.array {P:Program} {t e:TypeId} {n:Nat} {y:Ty} (h:OKt P t y) (hs:y.arr=some (n,e)):P.underlying t=some (.array n e):=by
 obtain ⟨d,hd,_,_,h2,_⟩:=h.und;rw [hs] at h2;cases d<;>simp [Qte] at h2;rw [hd,h2.1,h2.2]
theorem OKt.field {P:Program} {t:TypeId} {f o u:Nat} {y:Ty} (h:OKt P t y) (hs:y.fs[f]?=some (o,u)):∃ fs fd,P.underlying t=some (.struct fs)∧fs[f]?=some fd∧fd.offset=o∧fd.type=u:=by
 obtain ⟨d,hd,_,_,_,h2,_⟩:=h.und;rw [h2] at hs;cases d<;>simp [Qtd] at hs;obtain ⟨fd,h3,h4,h5⟩:=hs;exact ⟨_,fd,hd,h3,h4,h5⟩
theorem OKt.struct_fs {P:Program} {t:TypeId} {y:Ty} (h:OKt P t y) (hs:y.fs≠[]):∃ fs,P.underlying t=some (.struct fs)∧y.fs=fs.toList.map fun f=>(f.offset,f.type):=by
 obtain ⟨d,hd,_,_,_,h2,_⟩:=h.und;cases d<;>simp [Qtd] at h2<;>try exact absurd h2 hs
 exact ⟨_,hd,h2⟩
theorem OKt.string {P:Program} {t:TypeId} {y:Ty} (h:OKt P t y) (hs:y.str=true):P.underlying t=some .string:=by
 obtain ⟨d,hd,_,_,_,_,h2,_⟩:=h.und;rw [hs] at h2;cases d<;>simp [Qtb] at h2;exact hd
theorem OKt.bool {P:Program} {t:TypeId} {y:Ty} (h:OKt P t y) (hs:y.bl=true):P.underlying t=some .bool:=by
 obtain ⟨d,hd,_,_,_,_,_,_,h2⟩:=h.und;rw [hs] at h2;cases d<;>simp [Qzh] at h2;exact hd
theorem OKt.int {P:Program} {t:TypeId} {y:Ty} {k:IntKind} (h:OKt P t y) (hs:y.ik=some k):P.underlying t=some (.int k):=by
 obtain ⟨d,hd,_,_,_,_,_,h2,_⟩:=h.und;rw [hs] at h2;cases d<;>simp [Qtc] at h2;rw [hd,h2]
theorem OKt.isAgg {P:Program} {t:TypeId} {y:Ty} (h:OKt P t y) (w:World):(Go.isAgg t).run P w=.ok y.agg w:=by
 obtain ⟨d,hd,h1,_⟩:=h.und;rw [h1];cases d<;>simp [Go.isAgg,run_underlying hd,Qtf]
theorem OKt.sizeOf {P:Program} {t:TypeId} {y:Ty} (h:OKt P t y) (w:World):(Go.sizeOf t).run P w=.ok y.size w:=by
 obtain ⟨i,hi,_,hs,_⟩:=h.parts;simp [Go.sizeOf,typeInfo,hi,hs]
theorem OKt.zero {P:Program} {t:TypeId} {y:Ty} (h:OKt P t y) (w:World):(Go.zeroValue t).run P w=.ok y.z w:=by
 obtain ⟨i,hi,hz,_⟩:=h.parts;simp [Go.zeroValue,typeInfo,hi,hz]
def cv1:Value→V
 | .int k n=>.int k n
 | .bool b=>.bool b
 | .string s=>.str s
 | .slice none 0 0=>.nil
 | .pointer none=>.nilp
 | .nilFunc=>.nilf
 | _=>.any
def cv:Value→V
 | .agg cs=>.agg (cs.toList.map cv1)
 | v=>cv1 v
theorem Xj4 (im:Nat→Prop) (pl:Nat→Place) (w:World) (v:Value):VR im pl w (cv1 v) v:=by
 unfold cv1;split<;>constructor
theorem Xbe (im:Nat→Prop) (pl:Nat→Place) (w:World) (l:List Value) (j:Nat):VR im pl w (nth (l.map cv1) j) (l.getD j undef):=by
 rw [Ze];by_cases h:j<l.length
 ·simp [List.getD,List.getElem?_eq_getElem h];exact Xj4 ..
 ·simp [List.getD,List.getElem?_eq_none (Nat.le_of_not_lt h)];exact .any _
theorem Xt0 (im:Nat→Prop) (pl:Nat→Place) (w:World) (v:Value):VR im pl w (cv v) v:=by
 unfold cv;split
 ·rename_i cs
  have:=VR.agg (im:=im) (pl:=pl) (w:=w) (cs.toList.map cv1) cs.toList (by simp) (Xbe im pl w _)
  simpa using this
 ·exact Xj4 ..
def ev (ts:List V):Operand→V
 | .tmp t=>nth ts t
 | .const v=>cv v
 | .global _=>.any
 | .func f=>.fn (.func f) [] []
def cellsOf:V→List V
 | .agg cs=>cs
 | v=>[v]
def Yq:V→Bool
 | .any | .agg _ | .tup _=>false
 | _=>true
def TR (im:Nat→Prop) (pl:Nat→Place) (w:World) (ts:List V) (tmps:Array Value):Prop :=
 ts.length=tmps.size∧∀ i,VR im pl w (nth ts i) (tmps.getD i undef)
theorem Qkx {im:Nat→Prop} {pl:Nat→Place} {w:World} {ts:List V} {a:Act} (h:TR im pl w ts a.tmps) (x:Operand):VR im pl w (ev ts x) (a.eval x):=by
 cases x with
 | tmp t=>exact h.2 t
 | const v=>exact Xt0 ..
 | global g=>exact .any _
 | func f=>exact .fn _ [] [] [] [] rfl (fun j=>by simp [nth];exact .any _) rfl (fun j=>by simp [nth];exact .any _)
theorem VR.oneCell {im:Nat→Prop} {pl:Nat→Place} {w:World} {v:V} {c:Value} (h:VR im pl w v c) (hs:Yq v=true):c.oneCell'=true∧c.cells=#[c]:=by
 cases h<;>simp [Yq] at hs<;>exact ⟨rfl,rfl⟩
theorem VR.cells {im:Nat→Prop} {pl:Nat→Place} {w:World} {v:V} {c:Value} (h:VR im pl w v c) (hs:(cellsOf v).all Yq=true) :
  c.cells.size=(cellsOf v).length∧(∀ j,VR im pl w (nth (cellsOf v) j) (c.cells.getD j undef))∧∀ u∈c.cells.toList,u.oneCell'=true:=by
 by_cases hv:∃ cs,v=.agg cs
 ·obtain ⟨cs,rfl⟩:=hv;cases h with
  | agg _ vs hl hr =>
   refine ⟨by simp [Value.cells,cellsOf,hl],fun j=>by simpa [Value.cells,cellsOf] using hr j,fun u hu=>?_⟩
   simp only [Value.cells,List.mem_iff_getElem] at hu;obtain ⟨j,hj,rfl⟩:=hu
   have h1:=hr j
   have hj':j<vs.length:=by simpa using hj
   rw [Ze] at h1;simp only [List.getD,List.getElem?_eq_getElem hj',List.getElem?_eq_getElem (show j<cs.length by omega),Option.getD_some] at h1
   refine (h1.oneCell ?_).1;simp only [cellsOf,List.all_eq_true] at hs;exact hs _ (List.getElem_mem _)
 ·have hc:cellsOf v=[v]:=by cases v<;>first | rfl | exact absurd ⟨_,rfl⟩ hv
  rw [hc] at hs ⊢
  have h1:=h.oneCell (by simpa using hs)
  rw [h1.2];refine ⟨by simp,fun j=>?_,fun u hu=>?_⟩
  ·cases j with
   | zero=>simpa [nth] using h
   | succ j=>simp [nth];exact .any _
  ·simp at hu;rw [hu];exact h1.1
def win (cs:List V) (off:Nat):Nat→List V
 | 0=>[]
 | n+1=>nth cs off::win cs (off+1) n
theorem Qnf (cs:List V) (n:Nat):∀ off,(win cs off n).length=n:=by
 induction n with
 | zero=>intro off;rfl
 | succ n ih=>intro off;simp [win,ih]
theorem Xa0 (cs:List V) (n:Nat):∀ off j,nth (win cs off n) j=if j<n then nth cs (off+j) else .any:=by
 induction n with
 | zero=>intro off j;simp [win,nth]
 | succ n ih =>
  intro off j;cases j with
  | zero=>simp [win,nth]
  | succ j=>simp only [win,nth,ih,Nat.succ_lt_succ_iff,Nat.add_assoc,Nat.add_comm 1 j]
def Qlm (y:Ty) (cs:List V) (off:Nat):V:=if y.agg then .agg (win cs off y.size) else nth cs off
def OpRes (P:Program) (im:Nat→Prop) (pl:Nat→Place) (w:World) (run:Result Next) (K:V→Qb→Prop):Prop :=
 ∃ v vc im' pl' w' H',(run=.ok (.value vc) w'∨(run=.ok .skip w'∧v=.any))∧K v H'∧VR im' pl' w' v vc∧HR im' pl' w' H'∧Ext im pl w im' pl' w'
theorem OpRes.same {P:Program} {im:Nat→Prop} {pl:Nat→Place} {w:World} {run:Result Next} {K:V→Qb→Prop} {v:V} {vc:Value} {H:Qb}
  (h:run=.ok (.value vc) w) (hK:K v H) (hv:VR im pl w v vc) (hH:HR im pl w H):OpRes P im pl w run K :=
 ⟨v,vc,im,pl,w,H,.inl h,hK,hv,hH,.refl _ _ _⟩
theorem Qfe {P:Program} {w:World} {t:TypeId} {y:Ty} (hy:OKt P t y) (ad:Addr) (f:Nat→Value) (hc:∀ j,j<y.size→w.cell? (ad.add j)=some (f j)) :
  (loadVar t ad).run P w=.ok (if y.agg then .agg ((List.range y.size).map f).toArray else f 0) w:=by
 unfold loadVar;simp only [Sem.run_bind,hy.isAgg,Result.andThen_ok];cases h:y.agg with
 | true=>simp [hy.sizeOf,run_loadCells w ad y.size f hc]
 | false =>
  have h0:=hc 0 (by rw [hy.one h];omega)
  have:ad.add 0=ad:=by unfold Addr.add;simp
  rw [this] at h0;simp [h0]
theorem Qj8 {im:Nat→Prop} {pl:Nat→Place} {w:World} (y:Ty) (cs:List V) (off:Nat) (f:Nat→Value) (hr:∀ j,VR im pl w (nth cs (off+j)) (f j)) :
  VR im pl w (Qlm y cs off) (if y.agg then .agg ((List.range y.size).map f).toArray else f 0):=by
 unfold Qlm;split
 ·refine .agg _ _ (by simp [Qnf]) fun j=>?_
  rw [Xa0];split
  ·rename_i h;simp [List.getD,List.getElem?_eq_getElem,h];exact hr j
  ·exact .any _
 ·simpa using hr 0
def Qc (H:Qb) (r:Nat):Option Row:=(H[r]?).bind id
def Qc7 (y:Ty) (x:V) (H:Qb) (K:V→Prop):Prop :=
 match x with
 | .rp cs off=>off+y.size≤cs.length∧K (Qlm y cs off)
 | .ptr r off=>match Qc H r with
  | some row=>off+y.size≤row.cs.length∧K (Qlm y row.cs off)
  | none=>False
 | _=>False
theorem Yd {H:Qb} {r:Nat} {row:Row} (h:Qc H r=some row):H[r]?=some (some row):=by
 unfold Qc at h;cases hr:H[r]? with
 | none=>simp [hr] at h
 | some o=>simp [hr] at h;rw [h]
theorem HR.block {im:Nat→Prop} {pl:Nat→Place} {w:World} {H:Qb} (h:HR im pl w H) {r:Nat} {row:Row} (hr:H[r]?=some (some row)) (hne:0<row.cs.length) :
  ∃ b cap cur,pl r=.at b cap∧w.heap[b]?=some (.cells cur row.e (0,0))∧cur.size=cap*row.s∧cap≤maxLen∧row.cs.length≤cur.size∧∀ j,VR im pl w (nth row.cs j) (cur.getD j undef):=by
 have hlt:r<H.length:=by
  rcases Nat.lt_or_ge r H.length with h1 | h1
  ·exact h1
  ·simp [List.getElem?_eq_none h1] at hr
 cases hp:pl r with
 | no=>exact absurd hp ((h.len r).1 hlt)
 | dead=>have:=h.dead r hp;rw [hr] at this;cases this
 | virt =>
  obtain ⟨e,s,h1⟩:=h.virt r hp;rw [hr] at h1;injection h1 with h1
  injection h1 with h1
  subst h1;simp at hne
 | «at» b cap =>
  obtain ⟨e,s,cs,cur,h1,h2,h3,h4,h5,h6⟩:=h.row r b cap hp;rw [hr] at h1;injection h1 with h1
  injection h1 with h1
  subst h1;exact ⟨b,cap,cur,rfl,h2,h3,h4,h5,h6⟩
theorem Kg {w:World} {b j:Nat} {cur:Array Value} {e:TypeId} {fr:Nat × Nat} (h:w.heap[b]?=some (.cells cur e fr)) (hj:j<cur.size):w.cell? ⟨b,j,none⟩=some (cur.getD j undef):=by
 simp [World.cell?,h,Array.getD,hj]
theorem Jp (b o j:Nat):(⟨b,o,none⟩:Addr).add j=⟨b,o+j,none⟩:=by
 unfold Addr.add;split<;>simp_all
theorem Qml {C:Ctx} {im:Nat→Prop} {pl:Nat→Place} {w:World} {H:Qb} {t:TypeId} {x:V} {xc:Value} {K:V→Qb→Prop}
  (ht:(C.ty t).ok=true) (h:Qc7 (C.ty t) x H fun v=>K v H) (hx:VR im pl w x xc) (hH:HR im pl w H) :
  ∃ v vc,(Instr.loadAt t xc).run C.P w=.ok vc w∧K v H∧VR im pl w v vc:=by
 have hy:=C.ok t ht
 cases x with
 | rp cs off =>
  obtain ⟨hl,hK⟩:=h;cases hx with
  | rp _ _ ad vs hi hc hr =>
   refine ⟨_,_, ?_,hK,Qj8 (C.ty t) cs off (fun j=>vs (off+j)) (fun j=>hr _)⟩
   simp only [Instr.loadAt,Instr.sureAddr,Sem.run_bind,Sem.run_pure,Result.andThen_ok];exact Qfe hy _ _ (fun j hj=>by rw [add_add];exact hc _ (by omega))
 | ptr r off =>
  simp only [Qc7] at h;cases hrow:Qc H r with
  | none=>simp [hrow] at h
  | some row =>
   simp only [hrow] at h;obtain ⟨hl,hK⟩:=h
   have hr:=Yd hrow
   by_cases hz:0<row.cs.length
   ·obtain ⟨b,cap,cur,hp,hb,_,_,hlc,hv⟩:=hH.block hr hz;cases hx with
    | ptrAt _ _ b' cap' hp' =>
     rw [hp] at hp';injection hp' with e1 e2
     subst e1 e2;refine ⟨_,_, ?_,hK,Qj8 (C.ty t) row.cs off (fun j=>cur.getD (off+j) undef) (fun j=>hv _)⟩
     simp only [Instr.loadAt,Instr.sureAddr,Sem.run_bind,Sem.run_pure,Result.andThen_ok];exact Qfe hy _ _ (fun j hj=>by rw [Jp];exact Kg hb (by omega))
    | ptrDead _ _ a hp'=>rw [hp] at hp';cases hp'
   ·cases hx with
    | ptrAt _ _ b' cap' hp' =>
     have h0:(C.ty t).size=0:=by omega
     refine ⟨_,_, ?_,hK,Qj8 (C.ty t) row.cs off (fun j=>undef) (fun j=>by rw [Qba _ _ (by omega)];exact .any _)⟩
     simp only [Instr.loadAt,Instr.sureAddr,Sem.run_bind,Sem.run_pure,Result.andThen_ok];exact Qfe hy _ _ (fun j hj=>by omega)
    | ptrDead _ _ a hp' =>
     have:=hH.dead r hp'
     rw [hr] at this;cases this
 | _=>exact h.elim
def Qby (pl:Nat→Place) (r:Nat) (p:Place):Nat→Place:=fun i=>if i=r then p else pl i
theorem Xi (pl:Nat→Place) (r:Nat) (p:Place):Qby pl r p r=p:=by simp [Qby]
theorem Xb (pl:Nat→Place) (r i:Nat) (p:Place) (h:i≠r):Qby pl r p i=pl i:=by simp [Qby,h]
theorem HR.no {im:Nat→Prop} {pl:Nat→Place} {w:World} {H:Qb} (h:HR im pl w H) {r:Nat} (hr:H.length≤r):pl r=.no:=by
 cases hp:pl r with
 | no=>rfl
 | _=>have:=(h.len r).2 (by rw [hp];simp);omega
theorem HR.lt {im:Nat→Prop} {pl:Nat→Place} {w:World} {H:Qb} (h:HR im pl w H) {r:Nat} (hr:pl r≠.no):r<H.length:=(h.len r).2 hr
theorem HR.alloc {im:Nat→Prop} {pl:Nat→Place} {w:World} {H:Qb} (h:HR im pl w H) (e s cap:Nat) (cs:List V) (cur:Array Value)
  (hs:cur.size=cap*s) (hcap:cap≤maxLen) (hl:cs.length≤cur.size) (hv:∀ j,VR im pl w (nth cs j) (cur.getD j undef)) :
  HR im (Qby pl H.length (.at w.heap.size cap)) (w.alloc (.cells cur e)) (H++[some ⟨e,s,cs⟩])∧Ext im pl w im (Qby pl H.length (.at w.heap.size cap)) (w.alloc (.cells cur e)):=by
 have hno:=h.no (Nat.le_refl _)
 have hE:Ext im pl w im (Qby pl H.length (.at w.heap.size cap)) (w.alloc (.cells cur e)):=by
  refine ⟨rfl,rfl,rfl,by simp,fun _ hb=>hb,fun _ hb=>.inl hb,fun r hr=>.inl (Xb _ _ _ _ (fun e=>hr (e ▸ hno))),fun r b c hb=>?_,fun b hb _=>heap_alloc_old _ _ _ hb⟩
  by_cases hr:r=H.length
  ·subst hr;rw [Xi] at hb;injection hb with h1 _;exact .inr (by omega)
  ·rw [Xb _ _ _ _ hr] at hb;exact .inl ⟨r,c,hb⟩
 refine ⟨⟨fun r=>?_,fun b hb r c=>?_,fun r b c hb=>?_,fun b hb=>?_,fun r r' b c c' h1 h2=>?_,fun r hr=>?_,fun r hr=>?_,fun r b c hb=>?_⟩,hE⟩
 ·by_cases hr:r=H.length
  ·subst hr;simp [Xi]
  ·rw [Xb _ _ _ _ hr,← h.len r];simp;omega
 ·by_cases hr:r=H.length
  ·subst hr;rw [Xi];intro h1;injection h1 with h1 _;have:=h.imb b hb;omega
  ·rw [Xb _ _ _ _ hr];exact h.apart b hb r c
 ·by_cases hr:r=H.length
  ·subst hr;rw [Xi] at hb;injection hb with h1 _;simp;omega
  ·rw [Xb _ _ _ _ hr] at hb;have:=h.bound r b c hb;simp;omega
 ·have:=h.imb b hb;simp;omega
 ·by_cases hr:r=H.length<;>by_cases hr':r'=H.length
  ·omega
  ·subst hr;rw [Xi] at h1;rw [Xb _ _ _ _ hr'] at h2;injection h1 with h1 _;have:=h.bound r' b c' h2;omega
  ·subst hr';rw [Xi] at h2;rw [Xb _ _ _ _ hr] at h1;injection h2 with h2 _;have:=h.bound r b c h1;omega
  ·rw [Xb _ _ _ _ hr] at h1;rw [Xb _ _ _ _ hr'] at h2;exact h.inj r r' b c c' h1 h2
 ·by_cases hq:r=H.length
  ·subst hq;rw [Xi] at hr;cases hr
  ·rw [Xb _ _ _ _ hq] at hr
   have:=h.dead r hr
   rw [List.getElem?_append_left (by have:=h.lt (r:=r) (by rw [hr];simp);omega)];exact this
 ·by_cases hq:r=H.length
  ·subst hq;rw [Xi] at hr;cases hr
  ·rw [Xb _ _ _ _ hq] at hr
   have:=h.virt r hr
   rw [List.getElem?_append_left (by have:=h.lt (r:=r) (by rw [hr];simp);omega)];exact this
 ·by_cases hq:r=H.length
  ·subst hq;rw [Xi] at hb;injection hb with h1 h2
   subst h1 h2;exact ⟨e,s,cs,cur,by simp,heap_alloc_new _ _,hs,hcap,hl,fun j=>(hv j).mono hE h.apart⟩
  ·rw [Xb _ _ _ _ hq] at hb;obtain ⟨e',s',cs',cur',h1,h2,h3,h4,h5,h6⟩:=h.row r b c hb;exact ⟨e',s',cs',cur',by rw [List.getElem?_append_left (h.lt (r:=r) (by rw [hb];simp))];exact h1,by rw [heap_alloc_old _ _ _ (h.bound r b c hb)];exact h2,h3,h4,h5,fun j=>(h6 j).mono hE h.apart⟩
theorem Qd7 {P:Program} (w:World) (t:TypeId) (v:Value):(newVar t v).run P w=.ok ⟨w.heap.size,0,none⟩ (w.alloc (.cells v.cells t)):=by
 simp only [newVar,newRow,newObj,Sem.run_bind,Sem.run,Sem.run_pure,Result.andThen_ok];rfl
theorem Qkk {C:Ctx} {im:Nat→Prop} {pl:Nat→Place} {w:World} {H:Qb} {K:V→Qb→Prop} (t:TypeId) (cs:List V) (v:Value)
  (hl:cs.length=v.cells.size) (hv:∀ j,VR im pl w (nth cs j) (v.cells.getD j undef)) (hH:HR im pl w H) (hK:K (.ptr H.length 0) (H++[some ⟨t,cs.length,cs⟩]))
  {run:Result Next} (hr:run=((newVar t v).run C.P w).andThen fun a w=>.ok (.value (.pointer (some a))) w):OpRes C.P im pl w run K:=by
 have h:=hH.alloc t cs.length 1 cs v.cells (by omega) (by simp [maxLen]) (by omega) hv
 refine ⟨_,_,im,_,_,_,.inl (by rw [hr,Qd7];rfl),hK, ?_,h.1,h.2⟩
 exact .ptrAt _ 0 w.heap.size 1 (Xi _ _ _)
def Qa2:List V→Nat→List V→List V
 | cs,_,[]=>cs
 | cs,off,v::vs=>Qa2 (upd cs off v) (off+1) vs
theorem Qaq (vs:List V):∀ cs off,(Qa2 cs off vs).length=cs.length:=by
 induction vs with
 | nil=>intro cs off;rfl
 | cons v vs ih=>intro cs off;simp [Qa2,ih,Kc]
theorem Qkh (vs:List V):∀ cs off j,off+vs.length≤cs.length→nth (Qa2 cs off vs) j=if off≤j∧j<off+vs.length then nth vs (j - off) else nth cs j:=by
 induction vs with
 | nil=>intro cs off j h;simp [Qa2];intro h1 h2;omega
 | cons v vs ih =>
  intro cs off j h;simp only [List.length_cons] at h;simp only [Qa2];rw [ih _ _ _ (by rw [Kc];omega),Qa4]
  simp only [List.length_cons];by_cases h1:j=off
  ·subst h1;rw [if_neg (by omega),if_pos ⟨rfl,by omega⟩,if_pos (by omega)]
   simp [nth]
  ·by_cases h2:off+1≤j∧j<off+1+vs.length
   ·rw [if_pos h2,if_pos (by omega)]
    obtain ⟨d,rfl⟩:∃ d,j=off+1+d:=⟨j - (off+1),by omega⟩
    rw [show off+1+d - (off+1)=d by omega,show off+1+d - off=d+1 by omega]
    rfl
   ·rw [if_neg h2,if_neg (by omega),if_neg (by omega)]
theorem HR.setRow {im:Nat→Prop} {pl:Nat→Place} {w:World} {H:Qb} (h:HR im pl w H) {r b cap:Nat} {row:Row} {cur cur':Array Value} (hp:pl r=.at b cap) (hr:H[r]?=some (some row))
  (hb:w.heap[b]?=some (.cells cur row.e (0,0))) (hs:cur'.size=cur.size) (cs:List V) (hl:cs.length≤cur'.size) (hv:∀ j,VR im pl w (nth cs j) (cur'.getD j undef)) :
  HR im pl (w.setRow b cur') (H.set r (some ⟨row.e,row.s,cs⟩))∧Ext im pl w im pl (w.setRow b cur'):=by
 have hblt:=h.bound r b cap hp
 have hE:Ext im pl w im pl (w.setRow b cur'):=by
  refine ⟨rfl,rfl,rfl,by simp [World.setRow],fun _ hb=>hb,fun _ hb=>.inl hb,fun r hr=>.inl rfl,fun r b c hb=>.inl ⟨r,c,hb⟩,fun k hk hn=>?_⟩
  exact setRow_other _ _ _ _ (fun e=>hn r cap (e ▸ hp))
 have hsz:(w.setRow b cur').heap.size=w.heap.size:=by simp [World.setRow]
 refine ⟨⟨fun r'=>by rw [List.length_set];exact h.len r',h.apart,fun r' b' c' hb'=>by rw [hsz];exact h.bound r' b' c' hb',fun b' hb'=>by rw [hsz];exact h.imb b' hb',h.inj,fun r' hr'=>?_,fun r' hr'=>?_,fun r' b' c' hb'=>?_⟩,hE⟩
 ·have hne:r≠r':=fun e=>by subst e;rw [hp] at hr';cases hr'
  rw [List.getElem?_set_ne hne];exact h.dead r' hr'
 ·have hne:r≠r':=fun e=>by subst e;rw [hp] at hr';cases hr'
  rw [List.getElem?_set_ne hne];exact h.virt r' hr'
 ·by_cases hq:r=r'
  ·subst hq;rw [hp] at hb';injection hb' with e1 e2
   subst e1 e2;obtain ⟨e,s,cs0,cur0,h1,h2,h3,h4,h5,h6⟩:=h.row r b cap hp;rw [hr] at h1;injection h1 with h1
   injection h1 with h1
   subst h1;rw [hb] at h2;injection h2 with h2
   injection h2 with h2 _ _
   subst h2;refine ⟨e,s,cs,cur', ?_,setRow_heap _ _ _ _ _ _ hb,by rw [hs];exact h3,h4,hl,fun j=>(hv j).mono hE h.apart⟩
   rw [List.getElem?_set_self (h.lt (r:=r) (by rw [hp];simp))]
  ·obtain ⟨e,s,cs0,cur0,h1,h2,h3,h4,h5,h6⟩:=h.row r' b' c' hb';refine ⟨e,s,cs0,cur0,by rw [List.getElem?_set_ne hq];exact h1, ?_,h3,h4,h5,fun j=>(h6 j).mono hE h.apart⟩
   rw [setRow_other _ _ _ _ (fun e':b'=b=>hq (h.inj r r' b cap c' hp (by rw [← e'];exact hb')))]
   exact h2
def Qcj (y:Ty) (x v:V) (H:Qb) (K:Qb→Prop):Prop :=
 match x with
 | .ptr r off=>match Qc H r with
  | some row=>off+y.size≤row.cs.length∧(cellsOf v).length=y.size∧(cellsOf v).all Yq=true∧K (H.set r (some ⟨row.e,row.s,Qa2 row.cs off (cellsOf v)⟩))
  | none=>False
 | _=>False
theorem Qr2 {C:Ctx} {im:Nat→Prop} {pl:Nat→Place} {w:World} {H:Qb} {t:TypeId} {x v:V} {xc vc:Value} {K:Qb→Prop}
  (ht:(C.ty t).ok=true) (h:Qcj (C.ty t) x v H K) (hx:VR im pl w x xc) (hv:VR im pl w v vc) (hH:HR im pl w H) :
  ∃ w' H',(Instr.storeAt t xc vc).run C.P w=.ok () w'∧K H'∧HR im pl w' H'∧Ext im pl w im pl w':=by
 have hy:=C.ok t ht
 cases x with
 | ptr r off =>
  simp only [Qcj] at h;cases hrow:Qc H r with
  | none=>simp [hrow] at h
  | some row =>
   simp only [hrow] at h;obtain ⟨hl,hn,hs,hK⟩:=h
   have hr:=Yd hrow
   obtain ⟨c1,c2,c3⟩:=hv.cells hs;cases hx with
   | ptrDead _ _ a hp' =>
    have:=hH.dead r hp'
    rw [hr] at this;cases this
   | ptrAt _ _ b cap hp =>
    obtain ⟨e,s,cs,cur,h1,h2,h3,h4,h5,h6⟩:=hH.row r b cap hp;rw [hr] at h1;injection h1 with h1
    injection h1 with h1
    subst h1;simp only at hl hK
    have hlc:off+0+vc.cells.toList.length≤cur.size:=by simp;omega
    have hrun:=run_storeCells_at (P:=C.P) b off e vc.cells.toList 0 cur w h2 hlc c3
    generalize hnew:(cur.toList.take (off+0)++vc.cells.toList++cur.toList.drop (off+0+vc.cells.toList.length)).toArray=new at hrun
    have hnewsz:new.size=cur.size:=by rw [← hnew];simp;simp at hlc;omega
    have hget:∀ j,new.getD j undef=if off≤j∧j<off+vc.cells.size then vc.cells.getD (j - off) undef else cur.getD j undef:=by
     intro j;rw [← hnew];simp only [Array.getD_eq_getD_getElem?,List.getElem?_toArray,Nat.add_zero];rw [List.append_assoc,List.getElem?_append];simp only [Array.length_toList] at hlc
     have ht:(cur.toList.take off).length=off:=by simp;omega
     rw [ht];by_cases h1:j<off
     ·rw [if_pos h1,if_neg (by omega)];simp [List.getElem?_take,h1]
     ·rw [if_neg h1,List.getElem?_append];by_cases h2:j - off<vc.cells.toList.length
      ·rw [if_pos h2,if_pos (by simp at h2;omega)];simp
      ·rw [if_neg h2,if_neg (by simp at h2;omega)]
       simp only [List.getElem?_drop,Array.length_toList];simp only [Array.length_toList] at h2;rw [show off+vc.cells.size+(j - off - vc.cells.size)=j by omega];simp
    have hset:=hH.setRow hp hr h2 hnewsz (Qa2 cs off (cellsOf v)) (by rw [Qaq,hnewsz];exact h5) (fun j=>by
     rw [Qkh _ _ _ _ (by omega),hget j,c1]
     split
     ·exact c2 _
     ·exact h6 j)
    refine ⟨_,_, ?_,hK,hset.1,hset.2⟩;simp only [Instr.storeAt,Instr.sureAddr,Sem.run_bind,Sem.run_pure,Result.andThen_ok,storeVar,hy.sizeOf];rw [if_neg (by omega)]
    simpa using hrun
 | _=>exact h.elim
def Qks (pl:Nat→Place):Option Nat→Nat→Place
 | none=>pl
 | some r=>Qby pl r .dead
def Qi2 (H:Qb):Option Nat→Qb
 | none=>H
 | some r=>H.set r none
theorem HR.append {im:Nat→Prop} {pl:Nat→Place} {w w':World} {H:Qb} (h:HR im pl w H) (kill:Option Nat) (hk:∀ r,kill=some r→pl r=.virt∨∃ b cap,pl r=.at b cap) (p:Place) (e s:Nat) (cs:List V)
  (os:w'.os=w.os) (tape:w'.tape=w.tape) (output:w'.output=w.output) (size:w.heap.size≤w'.heap.size)
  (frame:∀ k,k<w.heap.size→(∀ r cap,kill=some r→pl r≠.at k cap)→w'.heap[k]?=w.heap[k]?)
  (hp:(p=.virt∧cs=[])∨∃ g cap cur,p=.at g cap∧((∃ r c,kill=some r∧pl r=.at g c)∨w.heap.size≤g)∧g<w'.heap.size∧w'.heap[g]?=some (.cells cur e (0,0))∧cur.size=cap*s∧cap≤maxLen∧cs.length≤cur.size∧∀ j,VR im pl w (nth cs j) (cur.getD j undef)) :
  HR im (Qby (Qks pl kill) H.length p) w' (Qi2 H kill++[some ⟨e,s,cs⟩])∧Ext im pl w im (Qby (Qks pl kill) H.length p) w':=by
 have hno:=h.no (Nat.le_refl H.length)
 have hkl:(Qi2 H kill).length=H.length:=by cases kill<;>simp [Qi2]
 have hkne:∀ r,kill=some r→r≠H.length:=by
  intro r hr e;rcases hk r hr with h1 | ⟨b,cap,h1⟩<;>rw [e,hno] at h1<;>cases h1
 have hkp:∀ r,kill≠some r→Qks pl kill r=pl r:=by
  intro r hr;cases kill with
  | none=>rfl
  | some q=>exact Xb _ _ _ _ (fun e=>hr (by rw [e]))
 have hkd:∀ r,kill=some r→Qks pl kill r=.dead:=by
  intro r hr;rw [hr];exact Xi _ _ _
 -- an old place that is still there
 have hold:∀ r b c,r≠H.length→Qby (Qks pl kill) H.length p r=.at b c→kill≠some r∧pl r=.at b c:=by
  intro r b c hr hb;rw [Xb _ _ _ _ hr] at hb;by_cases hq:kill=some r
  ·rw [hkd r hq] at hb;cases hb
  ·rw [hkp r hq] at hb;exact ⟨hq,hb⟩
 have hkH:∀ r,kill≠some r→r<H.length→(Qi2 H kill++[some (⟨e,s,cs⟩:Row)])[r]?=H[r]?:=by
  intro r hr hlt;rw [List.getElem?_append_left (by omega)]
  cases kill with
  | none=>rfl
  | some q=>exact List.getElem?_set_ne (fun e=>hr (by rw [e]))
 have hE:Ext im pl w im (Qby (Qks pl kill) H.length p) w':=by
  refine ⟨os,tape,output,size,fun _ hb=>hb,fun _ hb=>.inl hb,fun r hr=>?_,fun r b c hb=>?_,fun b hb hn=>frame b hb (fun r cap _=>hn r cap)⟩
  ·have hq:r≠H.length:=fun e=>hr (e ▸ hno)
   rw [Xb _ _ _ _ hq];by_cases hk2:kill=some r
   ·exact .inr (hkd r hk2)
   ·exact .inl (hkp r hk2)
  ·by_cases hr:r=H.length
   ·subst hr;rw [Xi] at hb;rcases hp with ⟨h1,_⟩ | ⟨g,cap,cur,h1,h2,_⟩
    ·rw [h1] at hb;cases hb
    ·rw [h1] at hb;injection hb with e1 e2;subst e1
     rcases h2 with ⟨r,c,_,h3⟩ | h3
     ·exact .inl ⟨r,c,h3⟩
     ·exact .inr h3
   ·exact .inl ⟨r,c,(hold r b c hr hb).2⟩
 refine ⟨⟨fun r=>?_,fun b hb r c hr=>?_,fun r b c hb=>?_,fun b hb=>Nat.lt_of_lt_of_le (h.imb b hb) size,fun r r' b c c' h1 h2=>?_,fun r hr=>?_,fun r hr=>?_,fun r b c hb=>?_⟩,hE⟩
 ·by_cases hr:r=H.length
  ·subst hr;rw [Xi];simp only [List.length_append,hkl,List.length_singleton];refine ⟨fun _=>?_,fun _=>by omega⟩
   rcases hp with ⟨h1,_⟩ | ⟨g,cap,cur,h1,_⟩<;>rw [h1]<;>simp
  ·rw [Xb _ _ _ _ hr];simp only [List.length_append,hkl,List.length_singleton];by_cases hq:kill=some r
   ·rw [hkd r hq]
    have:r<H.length:=h.lt (by rcases hk r hq with h1 | ⟨b,cap,h1⟩<;>rw [h1]<;>simp)
    exact ⟨fun _=>by simp,fun _=>by omega⟩
   ·rw [hkp r hq,← h.len r];omega
 ·by_cases hq:r=H.length
  ·subst hq;rw [Xi] at hr;rcases hp with ⟨h1,_⟩ | ⟨g,cap,cur,h1,h2,_⟩
   ·rw [h1] at hr;cases hr
   ·rw [h1] at hr;injection hr with e1 e2;subst e1
    rcases h2 with ⟨r,c,_,h3⟩ | h3
    ·exact h.apart g hb r c h3
    ·have:=h.imb g hb;omega
  ·exact h.apart b hb r c (hold r b c hq hr).2
 ·by_cases hr:r=H.length
  ·subst hr;rw [Xi] at hb;rcases hp with ⟨h1,_⟩ | ⟨g,cap,cur,h1,_,h3,_⟩
   ·rw [h1] at hb;cases hb
   ·rw [h1] at hb;injection hb with e1 e2;subst e1;exact h3
  ·exact Nat.lt_of_lt_of_le (h.bound r b c (hold r b c hr hb).2) size
 ·have key:∀ r' b c c',r'≠H.length→Qby (Qks pl kill) H.length p H.length=.at b c→Qby (Qks pl kill) H.length p r'=.at b c'→False:=by
   intro r' b c c' hr' h1 h2;rw [Xi] at h1;obtain ⟨h3,h4⟩:=hold r' b c' hr' h2;rcases hp with ⟨h5,_⟩ | ⟨g,cap,cur,h5,h6,_⟩
   ·rw [h5] at h1;cases h1
   ·rw [h5] at h1;injection h1 with e1 e2;subst e1
    rcases h6 with ⟨q,c,hq,h7⟩ | h7
    ·exact h3 (by rw [hq,h.inj q r' g c c' h7 h4])
    ·have:=h.bound r' g c' h4;omega
  by_cases hr:r=H.length<;>by_cases hr':r'=H.length
  ·omega
  ·subst hr;exact (key r' b c c' hr' h1 h2).elim
  ·subst hr';exact (key r b c' c hr h2 h1).elim
  ·exact h.inj r r' b c c' (hold r b c hr h1).2 (hold r' b c' hr' h2).2
 ·by_cases hq:r=H.length
  ·subst hq;rw [Xi] at hr;rcases hp with ⟨h1,_⟩ | ⟨g,cap,cur,h1,_⟩<;>rw [h1] at hr<;>cases hr
  ·rw [Xb _ _ _ _ hq] at hr;by_cases hk2:kill=some r
   ·have hlt:r<H.length:=h.lt (by rcases hk r hk2 with h1 | ⟨b,cap,h1⟩<;>rw [h1]<;>simp)
    rw [List.getElem?_append_left (by omega)]
    subst hk2;simp only [Qi2];rw [List.getElem?_set_self hlt]
   ·rw [hkp r hk2] at hr;rw [hkH r hk2 (h.lt (by rw [hr];simp))]
    exact h.dead r hr
 ·by_cases hq:r=H.length
  ·subst hq;rw [Xi] at hr;rcases hp with ⟨h1,h2⟩ | ⟨g,cap,cur,h1,_⟩
   ·subst h2;exact ⟨e,s,by rw [List.getElem?_append_right (by omega)];simp [hkl]⟩
   ·rw [h1] at hr;cases hr
  ·rw [Xb _ _ _ _ hq] at hr;by_cases hk2:kill=some r
   ·rw [hkd r hk2] at hr;cases hr
   ·rw [hkp r hk2] at hr;rw [hkH r hk2 (h.lt (by rw [hr];simp))]
    exact h.virt r hr
 ·by_cases hq:r=H.length
  ·subst hq;rw [Xi] at hb;rcases hp with ⟨h1,_⟩ | ⟨g,cap,cur,h1,h2,h3,h4,h5,h6,h7,h8⟩
   ·rw [h1] at hb;cases hb
   ·rw [h1] at hb;injection hb with e1 e2;subst e1 e2
    exact ⟨e,s,cs,cur,by rw [List.getElem?_append_right (by omega)];simp [hkl],h4,h5,h6,h7,fun j=>(h8 j).mono hE h.apart⟩
  ·obtain ⟨hk2,hb2⟩:=hold r b c hq hb;obtain ⟨e',s',cs',cur',h1,h2,h3,h4,h5,h6⟩:=h.row r b c hb2;refine ⟨e',s',cs',cur',by rw [hkH r hk2 (h.lt (by rw [hb2];simp))];exact h1, ?_,h3,h4,h5,fun j=>(h6 j).mono hE h.apart⟩
   rw [frame b (h.bound r b c hb2) (fun q cap hq2 h7=>hk2 (by rw [hq2,h.inj q r b cap c h7 hb2]))]
   exact h2
def Ka (y:Ty) (x:V) (H:Qb):Option (Nat × List V) :=
 match x with
 | .nil=>some (0,[])
 | .sl m cs=>some (m,cs)
 | .ref r off m=>match Qc H r with
  | some row=>some (m,(row.cs.drop off).take (m*y.size))
  | none=>none
 | _=>none
def Qbb (y:Ty) (e:TypeId) (s x:V) (H:Qb) (K:V→Qb→Prop):Prop :=
 match Ka y x H with
 | none=>False
 | some (m,news)=>news.length=m*y.size∧news.all Yq=true∧0<y.size∧0<y.bytes ∧
  match s with
  | .nil=>m*y.bytes≤140737488355328∧K (.ref H.length 0 m) (H++[some ⟨e,y.size,news⟩])
  | .ref r 0 n=>match Qc H r with
   | some row=>row.e=e∧row.s=y.size∧row.cs.length=n*y.size∧row.cs.all Yq=true∧(n+m)*y.bytes≤140737488355328∧K (.ref H.length 0 (n+m)) (H.set r none++[some ⟨e,y.size,row.cs++news⟩])
   | none=>False
  | .sl 0 _=>m=0∧K (.sl 0 []) H
  | _=>False
theorem Qf2 (l:List V) (a j:Nat):nth (l.drop a) j=nth l (a+j):=by
 rw [Ze,Ze];simp [List.getD,List.getElem?_drop]
theorem Qf1 (l:List V) (a j:Nat) (h:j<a):nth (l.take a) j=nth l j:=by
 rw [Ze,Ze];simp [List.getD,List.getElem?_take,h]
theorem Qoz {im:Nat→Prop} {pl:Nat→Place} {w:World} {H:Qb} {y:Ty} {x:V} {xc:Value} {m:Nat} {news:List V} (h:Ka y x H=some (m,news)) (hl:news.length=m*y.size) (hx:VR im pl w x xc) (hH:HR im pl w H) (hz:0<y.size) (hsc:news.all Yq=true) :
  ∃ (a:Option Addr) (c:Nat) (vs:List Value),xc=.slice a m c∧vs.length=m*y.size∧(∀ j,VR im pl w (nth news j) (vs.getD j undef))∧(∀ u∈vs,u.oneCell'=true) ∧
   ((∃ ad,a=some ad∧∀ j u,vs[j]?=some u→w.cell? (ad.add j)=some u)∨(a=none∧m=0)):=by
 have hone:∀ (vs:List Value),vs.length=m*y.size→(∀ j,VR im pl w (nth news j) (vs.getD j undef))→∀ u∈vs,u.oneCell'=true:=by
  intro vs hvl hv u hu;obtain ⟨j,hj,rfl⟩:=List.mem_iff_getElem.1 hu
  have h1:=hv j
  rw [Ze] at h1;simp only [List.getD,List.getElem?_eq_getElem hj,List.getElem?_eq_getElem (show j<news.length by omega),Option.getD_some] at h1
  refine (h1.oneCell ?_).1;simp only [List.all_eq_true] at hsc;exact hsc _ (List.getElem_mem _)
 have hnil:∀ (a:Option Addr) (c:Nat),m=0→∃ vs:List Value,vs.length=m*y.size∧(∀ j,VR im pl w (nth news j) (vs.getD j undef))∧(∀ u∈vs,u.oneCell'=true) ∧
   ((∃ ad,a=some ad∧∀ j u,vs[j]?=some u→w.cell? (ad.add j)=some u)∨(a=none∧m=0)):=by
  intro a c hm
  have hn:news=[]:=List.eq_nil_of_length_eq_zero (by rw [hl,hm];simp)
  refine ⟨[],by simp [hm],fun j=>by rw [hn];exact .any _,by simp, ?_⟩
  cases a with
  | none=>exact .inr ⟨rfl,hm⟩
  | some ad=>exact .inl ⟨ad,rfl,fun j u hu=>by simp at hu⟩
 cases x with
 | nil =>
  simp only [Ka,Option.some.injEq,Prod.mk.injEq] at h;cases hx;obtain ⟨vs,h1,h2,h3,h4⟩:=hnil none 0 h.1.symm;exact ⟨none,0,vs,by rw [← h.1],h1,h2,h3,h4⟩
 | sl m' cs =>
  simp only [Ka,Option.some.injEq,Prod.mk.injEq] at h;obtain ⟨rfl,rfl⟩:=h;cases hx with
  | sl0 _ a c =>
   obtain ⟨vs,h1,h2,h3,h4⟩:=hnil a c rfl;exact ⟨a,c,vs,rfl,h1,h2,h3,h4⟩
  | sl _ _ ad c vs hn hi hc hr =>
   have hg:∀ j,((List.range cs.length).map vs).getD j undef=if j<cs.length then vs j else undef:=by
    intro j;by_cases hj:j<cs.length
    ·simp [List.getD,hj]
    ·simp [List.getD,hj]
   have hv:∀ j,VR im pl w (nth cs j) (((List.range cs.length).map vs).getD j undef):=by
    intro j;rw [hg];split
    ·exact hr j
    ·rw [Qba _ _ (by omega)];exact .any _
   refine ⟨_,c,(List.range cs.length).map vs,rfl,by simp [hl],hv,hone _ (by simp [hl]) hv,.inl ⟨ad,rfl,fun j u hu=>?_⟩⟩
   simp only [List.getElem?_map,Option.map_eq_some_iff,List.getElem?_eq_some_iff] at hu;obtain ⟨q,⟨hq,rfl⟩,rfl⟩:=hu;simp at hq ⊢;exact hc _ hq
 | ref r off m' =>
  simp only [Ka] at h;cases hrow:Qc H r with
  | none=>simp [hrow] at h
  | some row =>
   simp only [hrow,Option.some.injEq,Prod.mk.injEq] at h;obtain ⟨rfl,rfl⟩:=h
   have hr:=Yd hrow
   rcases Nat.eq_zero_or_pos m' with hm | hm
   ·have:∃ a c,xc=.slice a m' c:=by
     cases hx with
     | refAt _ _ _ b cap c hp hc h0=>exact ⟨_,_,rfl⟩
     | refVirt _ hp=>exact ⟨_,_,rfl⟩
     | refDead _ _ _ a c hp=>exact ⟨_,_,rfl⟩
    obtain ⟨a,c,rfl⟩:=this;obtain ⟨vs,h1,h2,h3,h4⟩:=hnil a c hm;exact ⟨a,c,vs,rfl,h1,h2,h3,h4⟩
   ·have hpos:0<m'*y.size:=Nat.mul_pos hm hz
    have hlen:off+m'*y.size≤row.cs.length:=by
     simp only [List.length_take,List.length_drop] at hl;omega
    obtain ⟨b,cap,cur,hp,hb,hcs,hcap,hlc,hv⟩:=hH.block hr (by omega)
    cases hx with
    | refVirt _ hp'=>omega
    | refDead _ _ _ a c hp'=>rw [hp] at hp';cases hp'
    | refAt _ _ _ b' cap' c hp' hc h0 =>
     rw [hp] at hp';injection hp' with e1 e2
     subst e1 e2
     have hg:∀ j,((List.range (m'*y.size)).map fun j=>cur.getD (off+j) undef).getD j undef=if j<m'*y.size then cur.getD (off+j) undef else undef:=by
      intro j;by_cases hj:j<m'*y.size
      ·simp [List.getD,hj]
      ·simp [List.getD,hj]
     have hv2:∀ j,VR im pl w (nth ((row.cs.drop off).take (m'*y.size)) j) (((List.range (m'*y.size)).map fun j=>cur.getD (off+j) undef).getD j undef):=by
      intro j;rw [hg];split
      ·rename_i hj;rw [Qf1 _ _ _ hj,Qf2];exact hv _
      ·rw [Qba _ _ (by rw [hl];omega)];exact .any _
     refine ⟨_,c,(List.range (m'*y.size)).map fun j=>cur.getD (off+j) undef,rfl,by simp,hv2,hone _ (by simp) hv2,.inl ⟨_,rfl,fun j u hu=>?_⟩⟩
     simp only [List.getElem?_map,Option.map_eq_some_iff,List.getElem?_eq_some_iff] at hu;obtain ⟨q,⟨hq,rfl⟩,rfl⟩:=hu;simp only [List.length_range] at hq;simp only [List.getElem_range];rw [Jp];exact Kg hb (by omega)
 | _=>simp [Ka] at h
theorem Qgz {P:Program} (w:World) (t ty e:TypeId) (y:Ty) (ht:P.underlying t=some (.slice e)) (hy:OKt P e y) (a ax:Option Addr) (n c cx:Nat) (hn:n≤c) :
  (Builtin.append_ #[t,t] ty #[.slice a n c,.slice ax 0 cx]).run P w=.ok (.slice a n c) w:=by
 obtain ⟨i,hi,hz,hs,hb⟩:=hy.parts;cases a<;>cases ax<;>simp [Builtin.append_,run_underlying ht,sizeOf,typeInfo,hi,Builtin.lenOf,Builtin.firstCells,storeCells,loadCells,loadCellsFrom,hn]
theorem Qz0 {C:Ctx} {im:Nat→Prop} {pl:Nat→Place} {w:World} {H:Qb} {t e ty:TypeId} {s x:V} {sc xc:Value} {K:V→Qb→Prop}
  (ht:(C.ty t).ok=true) (hte:(C.ty t).sl=some e) (he:(C.ty e).ok=true) (h:Qbb (C.ty e) e s x H K) (hs:VR im pl w s sc) (hx:VR im pl w x xc) (hH:HR im pl w H) :
  ∃ v vc im' pl' w' H',(Builtin.append_ #[t,t] ty #[sc,xc]).run C.P w=.ok vc w'∧K v H'∧VR im' pl' w' v vc∧HR im' pl' w' H'∧Ext im pl w im' pl' w':=by
 have hy:=C.ok e he
 have hsl:=(C.ok t ht).slice hte
 obtain ⟨i,hi,hiz,his,hib⟩:=hy.parts;unfold Qbb at h;cases hel:Ka (C.ty e) x H with
 | none=>rw [hel] at h;exact h.elim
 | some mn =>
  obtain ⟨m,news⟩:=mn;rw [hel] at h;obtain ⟨hnl,hsc,hz,hbp,h⟩:=h;obtain ⟨a,c,vs,rfl,hvl,hvv,hone,hwhere⟩:=Qoz hel hnl hx hH hz hsc
  -- a row that is owned: append it
  have go:∀ (kill:Option Nat) (n:Nat) (old:List V) (base:Nat) (xs:List Value) (b0:Nat) ,(∀ r,kill=some r→pl r=.virt∨∃ cap,pl r=.at b0 cap)→w.ownsRow 0 e (C.ty e).size sc n xs→(sc=.slice none 0 0∨∃ r cap cap',kill=some r∧pl r=.at b0 cap∧sc=.slice (some ⟨b0,0,none⟩) n cap') →
    old.length=n*(C.ty e).size→(∀ j,VR im pl w (nth old j) (xs.getD j undef))→(n+m)*(C.ty e).bytes≤140737488355328 →
    K (.ref H.length 0 (n+m)) (Qi2 H kill++[some ⟨e,(C.ty e).size,old++news⟩]) →
    ∃ v vc im' pl' w' H',(Builtin.append_ #[t,t] ty #[sc,.slice a m c]).run C.P w=.ok vc w'∧K v H'∧VR im' pl' w' v vc∧HR im' pl' w' H'∧Ext im pl w im' pl' w':=by
   intro kill n old base xs b0 hkill hown hblk hol hov hby hK
   have hxl:xs.length=n*(C.ty e).size:=hown.1
   have hlen:n+m≤maxLen:=by
    have:=Nat.le_trans (Nat.le_mul_of_pos_right (n+m) hbp) hby
    simp only [maxLen];omega
   have hrun:∃ v' w',(Builtin.append_ #[t,t] ty #[sc,.slice a m c]).run C.P w=.ok v' w'∧w'.ownsRow 0 e (C.ty e).size v' (n+m) (xs++vs)∧w.grownBy w' sc.ownBlock∧(v'.ownBlock=sc.ownBlock∨v'.ownBlock=some w.heap.size):=by
    rcases hwhere with ⟨ad,rfl,hcells⟩ | ⟨rfl,rfl⟩
    ·obtain ⟨v',w',h1,h2,h3,_,h5⟩:=run_append_own_at (P:=C.P) w 0 t ty e i (C.ty e).z (C.ty e).size (C.ty e).bytes hsl hi hiz his hib hy.zc hz sc n xs hown ad m c vs hvl hcells hone hlen hby (Nat.zero_le _);exact ⟨v',w',h1,h2,h3,h5⟩
    ·have hvs:vs=[]:=List.eq_nil_of_length_eq_zero (by rw [hvl];simp)
     subst hvs
     have:∃ a' c',sc=.slice a' n c'∧n≤c':=by
      rcases hown.2 with ⟨h1,h2⟩ | ⟨g,cap,cur,h1,_,_,h2,_⟩
      ·exact ⟨none,0,by rw [h1,h2],by omega⟩
      ·exact ⟨_,cap,h1,h2⟩
     obtain ⟨a',c',rfl,hle⟩:=this;exact ⟨_,w,Qgz w t ty e (C.ty e) hsl hy a' none n c' c hle,by simpa using hown,World.grownBy.refl w _,.inl rfl⟩
   obtain ⟨v',w',hr,hown',hg,hat⟩:=hrun
   have hav:∀ j,VR im pl w (nth (old++news) j) ((xs++vs).getD j undef):=by
    intro j;rw [Zy];split
    ·rename_i hj
     have:=hov j
     simpa [List.getD,List.getElem?_append_left (show j<xs.length by omega)] using this
    ·rename_i hj
     have:=hvv (j - old.length)
     simp only [List.getD,List.getElem?_append_right (show xs.length≤j by omega)]
     rw [hxl,← hol];exact this
   have hsco:∀ k,sc.ownBlock=some k→k=b0∧∃ r cap,kill=some r∧pl r=.at b0 cap:=by
    intro k hk;rcases hblk with h1 | ⟨r,cap,cap',h1,h2,h3⟩
    ·rw [h1] at hk;simp [Value.ownBlock] at hk
    ·rw [h3] at hk;simp [Value.ownBlock] at hk;exact ⟨hk.symm,r,cap,h1,h2⟩
   have fin:∀ (p:Place) (_:VR im (Qby (Qks pl kill) H.length p) w' (.ref H.length 0 (n+m)) v'),((p=.virt∧old++news=[])∨∃ g cap cur,p=.at g cap∧((∃ r c,kill=some r∧pl r=.at g c)∨w.heap.size≤g)∧g<w'.heap.size∧w'.heap[g]?=some (.cells cur e (0,0))∧cur.size=cap*(C.ty e).size∧cap≤maxLen∧(old++news).length≤cur.size∧∀ j,VR im pl w (nth (old++news) j) (cur.getD j undef)) →
     ∃ v vc im' pl' w' H',(Builtin.append_ #[t,t] ty #[sc,.slice a m c]).run C.P w=.ok vc w'∧K v H'∧VR im' pl' w' v vc∧HR im' pl' w' H'∧Ext im pl w im' pl' w':=by
    intro p hv hp
    have:=hH.append (w':=w') kill (fun r hr=>(hkill r hr).imp id (fun ⟨cap,h⟩=>⟨b0,cap,h⟩)) p e (C.ty e).size (old++news) hg.os hg.tape hg.output hg.size (fun k hk hn=>hg.block k hk (fun e'=>by
     obtain ⟨h1,r,cap,h2,h3⟩:=hsco k (by rw [e'])
     exact hn r cap h2 (by rw [h1];exact h3))) hp
    exact ⟨_,_,im,_,w',_,hr,hK,hv,this.1,this.2⟩
   rcases hown'.2 with ⟨h1,h2⟩ | ⟨g,cap,cur,h1,_,h3,h4,h5,h6,h7⟩
   ·have hm0:m=0:=by omega
    have hn0:n=0:=by omega
    subst hm0 hn0;refine fin .virt (by rw [h1];exact .refVirt _ (Xi _ _ _)) (.inl ⟨rfl, ?_⟩)
    exact List.eq_nil_of_length_eq_zero (by rw [List.length_append,hol,hnl];simp)
   ·refine fin (.at g cap) (by rw [h1];exact .refAt _ 0 _ g cap cap (Xi _ _ _) h4 (fun _=>rfl)) (.inr ⟨g,cap,cur,rfl, ?_,(Array.getElem?_eq_some_iff.1 h3).1,h3,h6,h5, ?_,fun j=>?_⟩)
    ·rcases hat with h8 | h8
     ·rw [h1] at h8;obtain ⟨h9,r,cap',h10,h11⟩:=hsco g (by rw [← h8];rfl)
      exact .inl ⟨r,cap',h10,by rw [h9];exact h11⟩
     ·rw [h1] at h8;simp [Value.ownBlock] at h8;exact .inr (by omega)
    ·rw [List.length_append,hol,hnl,h6,← Nat.add_mul];exact Nat.mul_le_mul_right _ h4
    ·by_cases hj:j<(old++news).length
     ·have:=hav j
      rw [← h7] at this
      have hj2:j<(n+m)*(C.ty e).size:=by rw [List.length_append,hol,hnl,← Nat.add_mul] at hj;exact hj
      simpa [List.getD,List.getElem?_take,hj2,Array.getD_eq_getD_getElem?] using this
     ·rw [Qba _ _ (by omega)];exact .any _
  cases s with
  | nil =>
   obtain ⟨hby,hK⟩:=h;cases hs;exact go none 0 [] 0 [] 0 (fun r hr=>by cases hr) ⟨by simp,.inl ⟨rfl,rfl⟩⟩ (.inl rfl) (by simp) (fun j=>by simp [nth];exact .any _) (by simpa using hby) (by simpa [Qi2] using hK)
  | sl n cs =>
   cases n with
   | succ n=>exact h.elim
   | zero =>
    obtain ⟨rfl,hK⟩:=h
    have:∃ a' c',sc=.slice a' 0 c':=by
     cases hs with
     | sl0 _ a' c'=>exact ⟨_,_,rfl⟩
     | sl _ _ ad c' vs' hn hi2 hc hr=>exact ⟨_,_,rfl⟩
    obtain ⟨a',c',rfl⟩:=this;exact ⟨_,_,im,pl,w,H,Qgz w t ty e (C.ty e) hsl hy a' a 0 c' c (Nat.zero_le _),hK,.sl0 _ _ _,hH,.refl _ _ _⟩
  | ref r off n =>
   cases off with
   | succ off=>exact h.elim
   | zero =>
    simp only at h;cases hrow:Qc H r with
    | none=>rw [hrow] at h;exact h.elim
    | some row =>
     rw [hrow] at h;obtain ⟨rfl,hrs,hol,hosc,hby,hK⟩:=h
     have hr:=Yd hrow
     rw [← hrs] at hol;cases hs with
     | refDead _ _ _ a' c' hp=>have:=hH.dead r hp;rw [hr] at this;cases this
     | refVirt _ hp =>
      obtain ⟨e',s',h1⟩:=hH.virt r hp;rw [hr] at h1;injection h1 with h1;injection h1 with h1
      have hc0:row.cs=[]:=by rw [h1]
      exact go (some r) 0 row.cs 0 [] 0 (fun q hq=>by injection hq with hq;subst hq;exact .inl hp) ⟨by simp,.inl ⟨rfl,rfl⟩⟩ (.inl rfl) (by simp [hc0]) (fun j=>by rw [hc0];simp [nth];exact .any _) hby (by simpa [Qi2] using hK)
     | refAt _ _ _ b cap c' hp hc h0 =>
      have hcc:=h0 rfl
      subst hcc;obtain ⟨e',s',cs',cur,h1,h2,h3,h4,h5,h6⟩:=hH.row r b c' hp;rw [hr] at h1;injection h1 with h1;injection h1 with h1
      subst h1;simp only at hrs hol hosc;subst hrs;refine go (some r) n cs' 0 (cur.toList.take (n*(C.ty e').size)) b (fun q hq=>by injection hq with hq;subst hq;exact .inr ⟨c',hp⟩) ⟨?_,.inr ⟨b,c',cur,rfl,Nat.zero_le _,h2,hc,h4,h3,rfl⟩⟩ (.inr ⟨r,c',c',rfl,hp,rfl⟩) hol (fun j=>?_) hby (by simpa [Qi2] using hK)
      ·simp only [List.length_take,Array.length_toList];omega
      ·by_cases hj:j<n*(C.ty e').size
       ·have:=h6 j
        simpa [List.getD,List.getElem?_take,hj,Array.getD_eq_getD_getElem?] using this
       ·rw [Qba _ _ (by omega)];exact .any _
  | _=>exact h.elim
def kn:V→Bool
 | .any=>false
 | _=>true
theorem VR.cells' {im:Nat→Prop} {pl:Nat→Place} {w:World} {v:V} {c:Value} (h:VR im pl w v c) (hs:kn v=true) :
  c.cells.toList.length=(cellsOf v).length∧(∀ j,VR im pl w (nth (cellsOf v) j) (c.cells.toList.getD j undef)):=by
 have one:∀ v c,VR im pl w v c→([c]:List Value).length=([v]:List V).length∧∀ j,VR im pl w (nth [v] j) ([c].getD j undef):=by
  intro v c h;refine ⟨rfl,fun j=>?_⟩
  cases j with
  | zero=>simpa [nth] using h
  | succ j=>simp [nth];exact .any _
 cases h with
 | any=>simp [kn] at hs
 | agg cs vs hl hr=>exact ⟨by simp [Value.cells,cellsOf,hl],fun j=>by simpa [Value.cells,cellsOf] using hr j⟩
 | int=>exact one _ _ (.int _ _)
 | bool=>exact one _ _ (.bool _)
 | str=>exact one _ _ (.str _)
 | nil=>exact one _ _ .nil
 | sl0=>exact one _ _ (.sl0 _ _ _)
 | sl n cs ad c vs hn hi hc hr=>exact one _ _ (.sl n cs ad c vs hn hi hc hr)
 | refAt r off n b cap c hp hc h0=>exact one _ _ (.refAt r off n b cap c hp hc h0)
 | refVirt r hp=>exact one _ _ (.refVirt r hp)
 | refDead r off n a c hp=>exact one _ _ (.refDead r off n a c hp)
 | tup cs vs hl hr=>exact one _ _ (.tup cs vs hl hr)
 | ptrAt r off b cap hp=>exact one _ _ (.ptrAt r off b cap hp)
 | ptrDead r off a hp=>exact one _ _ (.ptrDead r off a hp)
 | nilp=>exact one _ _ .nilp
 | rp cs off ad vs hi hc hr=>exact one _ _ (.rp cs off ad vs hi hc hr)
 | fn f xs ys us vs hl hr hl' hr'=>exact one _ _ (.fn f xs ys us vs hl hr hl' hr')
 | nilf=>exact one _ _ .nilf
def Jz (place:Nat→Option (Nat × Nat)) (cells:List V):List (Nat × V)→Option (List V)
 | []=>some cells
 | (i,v)::rest =>
  match place i with
  | none=>none
  | some (off,size)=>if kn v=true∧(cellsOf v).length=size∧off+(cellsOf v).length≤cells.length then Jz place (Qa2 cells off (cellsOf v)) rest else none
theorem Xeu {im:Nat→Prop} {pl:Nat→Place} {w:World} (off:Nat):∀ (l:List Value) (ls:List V) (k:Nat) (cs:List V) (cells:Array Value),ls.length=l.length→cs.length=cells.size→off+k+l.length≤cs.length →
  (∀ j,VR im pl w (nth cs j) (cells.getD j undef))→(∀ j,VR im pl w (nth ls j) (l.getD j undef)) →
  ((l.zipIdx k).foldl (fun cs (p:Value × Nat)=>cs.setIfInBounds (off+p.2) p.1) cells).size=cells.size∧∀ j,VR im pl w (nth (Qa2 cs (off+k) ls) j) (((l.zipIdx k).foldl (fun cs (p:Value × Nat)=>cs.setIfInBounds (off+p.2) p.1) cells).getD j undef):=by
 intro l
 induction l with
 | nil =>
  intro ls k cs cells h1 h2 h3 h4 h5
  have:ls=[]:=List.eq_nil_of_length_eq_zero (by simpa using h1)
  subst this;exact ⟨rfl,h4⟩
 | cons a l ih =>
  intro ls k cs cells h1 h2 h3 h4 h5;cases ls with
  | nil=>simp at h1
  | cons v ls =>
   simp only [List.length_cons] at h1 h3;simp only [List.zipIdx_cons,List.foldl_cons,Qa2]
   have:=ih ls (k+1) (upd cs (off+k) v) (cells.setIfInBounds (off+k) a) (by omega) (by simp [Kc,h2]) (by rw [Kc];omega) (fun j=>by
    rw [Qa4];by_cases hj:j=off+k
    ·subst hj;rw [if_pos ⟨rfl,by omega⟩]
     have:=h5 0
     simp only [nth,List.getD_cons_zero] at this;simpa [Array.getD_eq_getD_getElem?,Array.getElem?_setIfInBounds,show off+k<cells.size by omega] using this
    ·rw [if_neg (by omega)]
     have:=h4 j
     simpa [Array.getD_eq_getD_getElem?,Array.getElem?_setIfInBounds,Ne.symm hj] using this) (fun j=>by have:=h5 (j+1);simpa [nth] using this)
   rw [show off+(k+1)=off+k+1 by omega] at this
   simpa using this
theorem Qg5 {im:Nat→Prop} {pl:Nat→Place} {w:World} (place:Nat→Option (Nat × Nat)):∀ (parts:List (Nat × V)) (vparts:List (Nat × Value)) (cs:List V) (cells:Array Value) (out:List V),
  Jz place cs parts=some out→parts.map (·.1)=vparts.map (·.1)→(∀ (j:Nat) (p:Nat × V) (q:Nat × Value),parts[j]?=some p→vparts[j]?=some q→VR im pl w p.2 q.2)→cs.length=cells.size→(∀ j,VR im pl w (nth cs j) (cells.getD j undef)) →
  ∃ res,Instr.fill place cells vparts=some res∧out.length=res.size∧out.length=cs.length∧∀ j,VR im pl w (nth out j) (res.getD j undef):=by
 intro parts
 induction parts with
 | nil =>
  intro vparts cs cells out h1 h2 h3 h4 h5;cases vparts with
  | cons q l=>simp at h2
  | nil=>simp only [Jz,Option.some.injEq] at h1;subst h1;exact ⟨cells,rfl,h4,rfl,h5⟩
 | cons p parts ih =>
  intro vparts cs cells out h1 h2 h3 h4 h5;cases vparts with
  | nil=>simp at h2
  | cons q vparts =>
   obtain ⟨i,v⟩:=p;obtain ⟨i',c⟩:=q;simp only [List.map_cons,List.cons.injEq] at h2;obtain ⟨rfl,h2⟩:=h2;simp only [Jz] at h1;simp only [Instr.fill];cases hp:place i with
   | none=>simp [hp] at h1
   | some os =>
    obtain ⟨off,size⟩:=os;simp only [hp] at h1 ⊢;by_cases hc:kn v=true∧(cellsOf v).length=size∧off+(cellsOf v).length≤cs.length
    ·rw [if_pos hc] at h1;obtain ⟨hk,hs,hle⟩:=hc
     have hv:VR im pl w v c:=h3 0 _ _ rfl rfl
     obtain ⟨c1,c2⟩:=hv.cells' hk
     have hcs:c.cells.size=size:=by rw [← hs,← c1];simp
     have hif:¬ ((c.cells.size≠size||off+c.cells.size>cells.size)=true):=by
      have:off+c.cells.size≤cells.size:=by rw [← h4,hcs,← hs];exact hle
      simp [hcs];omega
     rw [if_neg hif]
     have hf:=Xeu (im:=im) (pl:=pl) (w:=w) off c.cells.toList (cellsOf v) 0 cs cells c1.symm h4 (by rw [c1];omega) h5 c2
     have he:(Array.foldl (fun cs (x:Value × Nat)=>match x with | (c,j)=>cs.setIfInBounds (off+j) c) cells c.cells.zipIdx)=(c.cells.toList.zipIdx 0).foldl (fun cs (p:Value × Nat)=>cs.setIfInBounds (off+p.2) p.1) cells:=by
      rw [← Array.foldl_toList,Array.toList_zipIdx]
     rw [he];obtain ⟨res,r1,r2,r3,r4⟩:=ih vparts _ _ out h1 h2 (fun j p q hp hq=>h3 (j+1) p q hp hq) (by rw [Qaq,hf.1];exact h4) hf.2
     exact ⟨res,r1,r2,by rw [r3,Qaq],r4⟩
    ·rw [if_neg hc] at h1;cases h1
def Ja (y:Ty):List V:=y.z.cells.toList.map cv1
theorem Qqb {im:Nat→Prop} {pl:Nat→Place} {w:World} {P:Program} {t:TypeId} {y:Ty} (hy:OKt P t y):(Ja y).length=y.z.cells.size∧∀ j,VR im pl w (nth (Ja y) j) (y.z.cells.getD j undef):=by
 refine ⟨by simp [Ja],fun j=>?_⟩
 have:=Xbe im pl w y.z.cells.toList j
 simpa [Ja,Array.getD_eq_getD_getElem?,List.getD] using this
def Qzs (ty:TypeId→Ty) (t:TypeId) (parts:List (Nat × V)) (K:V→Prop):Prop :=
 (ty t).fs≠[]∧(ty t).fs.all (fun p=>(ty p.2).ok)=true ∧
  match Jz (fun i=>((ty t).fs[i]?).map fun p=>(p.1,(ty p.2).size)) (Ja (ty t)) parts with
  | some out=>K (.agg out)
  | none=>False
def Xkh (ty:TypeId→Ty) (t e:TypeId) (parts:List (Nat × V)) (K:V→Prop):Prop :=
 (ty e).ok=true ∧
  match Jz (fun i=>some (i*(ty e).size,(ty e).size)) (Ja (ty t)) parts with
  | some out=>K (.agg out)
  | none=>False
def Qeu (ty:TypeId→Ty) (t:TypeId) (parts:List (Nat × V)) (K:V→Prop):Prop :=
 match (ty t).arr with
 | some (_,e)=>Xkh ty t e parts K
 | none=>Qzs ty t parts K
theorem Qll {im:Nat→Prop} {pl:Nat→Place} {w:World} {ts:List V} {a:Act} (h:TR im pl w ts a.tmps) (parts:Array (Nat × Operand)) :
  (parts.toList.map fun p=>(p.1,ev ts p.2)).map (·.1)=(parts.map fun (i,x)=>(i,a.eval x)).toList.map (·.1) ∧
  ∀ (j:Nat) (p:Nat × V) (q:Nat × Value),(parts.toList.map fun p=>(p.1,ev ts p.2))[j]?=some p→(parts.map fun (i,x)=>(i,a.eval x)).toList[j]?=some q→VR im pl w p.2 q.2:=by
 refine ⟨by simp,fun j p q hp hq=>?_⟩
 simp only [List.getElem?_map,Option.map_eq_some_iff,Array.toList_map] at hp hq;obtain ⟨x,hx,rfl⟩:=hp;obtain ⟨x',hx',rfl⟩:=hq;rw [hx] at hx';injection hx' with hx'
 subst hx';exact Qkx h _
theorem Qtr {C:Ctx} {im:Nat→Prop} {pl:Nat→Place} {w:World} {t:TypeId} {ts:List V} {a:Act} {parts:Array (Nat × Operand)} {K:V→Prop} (ht:(C.ty t).ok=true)
  (h:Qzs C.ty t (parts.toList.map fun p=>(p.1,ev ts p.2)) K) (hts:TR im pl w ts a.tmps):∃ v vc,(Instr.build t (parts.map fun (i,x)=>(i,a.eval x))).run C.P w=.ok vc w∧K v∧VR im pl w v vc:=by
 obtain ⟨hne,hall,h⟩:=h
 have hy:=C.ok t ht
 obtain ⟨i,hi,hiz,his,hib⟩:=hy.parts;obtain ⟨fs,hu,hfs⟩:=hy.struct_fs hne;obtain ⟨hp1,hp2⟩:=Qll hts parts
 have hz:=Qqb (im:=im) (pl:=pl) (w:=w) hy
 cases hv:Jz (fun i=>((C.ty t).fs[i]?).map fun p=>(p.1,(C.ty p.2).size)) (Ja (C.ty t)) (parts.toList.map fun p=>(p.1,ev ts p.2)) with
 | none=>rw [hv] at h;exact h.elim
 | some out =>
  rw [hv] at h;obtain ⟨res,r1,r2,_,r4⟩:=Qg5 _ _ _ _ _ _ hv hp1 hp2 hz.1 hz.2;refine ⟨_,.agg res,run_build w t _ res ?_,h, ?_⟩
  ·unfold Program.built
   have hm:fs.toList.mapM (fun f=>(C.P.info? f.type).map fun i=>(f.offset,i.size))=some ((C.ty t).fs.map fun p=>(p.1,(C.ty p.2).size)):=by
    rw [hfs] at hall ⊢
    clear hfs hu hv r1 h hp1 hp2
    generalize fs.toList=l at hall ⊢
    induction l with
    | nil=>rfl
    | cons f l ih =>
     simp only [List.map_cons,List.all_cons,Bool.and_eq_true] at hall;obtain ⟨j,hj,_,hjs,_⟩:=(C.ok f.type hall.1).parts;simp only [List.mapM_cons,hj,Option.map_some,Option.bind_eq_bind,Option.bind_some,Option.pure_def,ih hall.2,List.map_cons,hjs]
   simp only [hi,hu,hiz,hm]
   have:(fun x:Nat=>(((C.ty t).fs.map fun p:Nat × Nat=>(p.1,(C.ty p.2).size)).toArray)[x]?)=fun i=>((C.ty t).fs[i]?).map fun p=>(p.1,(C.ty p.2).size):=by
    funext x;simp
   rw [this];exact r1
  ·have:=VR.agg (im:=im) (pl:=pl) (w:=w) out res.toList (by simpa using r2) (fun j=>by have:=r4 j;simpa [Array.getD_eq_getD_getElem?,List.getD] using this)
   simpa using this
theorem Qtq {C:Ctx} {im:Nat→Prop} {pl:Nat→Place} {w:World} {t:TypeId} {ts:List V} {a:Act} {parts:Array (Nat × Operand)} {K:V→Prop} (ht:(C.ty t).ok=true)
  (h:Qeu C.ty t (parts.toList.map fun p=>(p.1,ev ts p.2)) K) (hts:TR im pl w ts a.tmps):∃ v vc,(Instr.build t (parts.map fun (i,x)=>(i,a.eval x))).run C.P w=.ok vc w∧K v∧VR im pl w v vc:=by
 unfold Qeu at h;cases harr:(C.ty t).arr with
 | none=>rw [harr] at h;exact Qtr ht h hts
 | some ne =>
  obtain ⟨n,e⟩:=ne;rw [harr] at h;obtain ⟨he,h⟩:=h
  have hy:=C.ok t ht
  have hye:=C.ok e he
  obtain ⟨i,hi,hiz,his,hib⟩:=hy.parts;obtain ⟨j,hj,hjz,hjs,hjb⟩:=hye.parts
  have hu:=hy.array harr
  obtain ⟨hp1,hp2⟩:=Qll hts parts
  have hz:=Qqb (im:=im) (pl:=pl) (w:=w) hy
  cases hv:Jz (fun i=>some (i*(C.ty e).size,(C.ty e).size)) (Ja (C.ty t)) (parts.toList.map fun p=>(p.1,ev ts p.2)) with
  | none=>simp only [hv] at h
  | some out =>
   simp only [hv] at h;obtain ⟨res,r1,r2,_,r4⟩:=Qg5 _ _ _ _ _ _ hv hp1 hp2 hz.1 hz.2;refine ⟨_,.agg res,run_build w t _ res ?_,h, ?_⟩
   ·unfold Program.built;simp only [hi,hu,hiz,hj,hjs];exact r1
   ·have:=VR.agg (im:=im) (pl:=pl) (w:=w) out res.toList (by simpa using r2) (fun j=>by have:=r4 j;simpa [Array.getD_eq_getD_getElem?,List.getD] using this)
    simpa using this
def Xj (n:Nat) (zs:List V):List V:=(List.replicate n zs).flatten
theorem Xs (n:Nat) (zs:List V):(Xj n zs).length=n*zs.length:=by simp [Xj]
theorem Qu6 (n:Nat) (zs:List V):∀ j,j<n*zs.length→nth (Xj n zs) j=nth zs (j%zs.length):=by
 induction n with
 | zero=>intro j hj;omega
 | succ n ih =>
  intro j hj
  have e:Xj (n+1) zs=zs++Xj n zs:=by simp [Xj,List.replicate_succ]
  rw [e,Zy];split
  ·rename_i h;rw [Nat.mod_eq_of_lt h]
  ·rename_i h;rw [Nat.succ_mul] at hj;rw [ih _ (by omega),← Nat.mod_eq_sub_mod (by omega)]
def Qci (ty:TypeId→Ty) (t:TypeId) (l c:V) (H:Qb) (K:V→Qb→Prop):Prop :=
 match (ty t).sl,l,c with
 | some e,.int _ n,.int _ m=>(ty e).ok=true∧n=m∧0≤n∧n≤9223372036854775807∧(ty e).bytes*n.toNat≤281474976710656∧K (.ref H.length 0 n.toNat) (H++[some ⟨e,(ty e).size,Xj n.toNat (Ja (ty e))⟩])
 | _,_,_=>False
theorem Qve {C:Ctx} {im:Nat→Prop} {pl:Nat→Place} {w:World} {H:Qb} {t:TypeId} {l c:V} {lc cc:Value} {K:V→Qb→Prop} (ht:(C.ty t).ok=true)
  (h:Qci C.ty t l c H K) (hl:VR im pl w l lc) (hc:VR im pl w c cc) (hH:HR im pl w H) :
  ∃ v vc im' pl' w' H',(Instr.makeSlice t lc cc).run C.P w=.ok vc w'∧K v H'∧VR im' pl' w' v vc∧HR im' pl' w' H'∧Ext im pl w im' pl' w':=by
 unfold Qci at h;split at h
 ·rename_i e k n k' m hsl;obtain ⟨he,rfl,h0,h63,hb,hK⟩:=h;cases hl;cases hc
  have hy:=C.ok e he
  obtain ⟨i,hi,hiz,his,hib⟩:=hy.parts;obtain ⟨q,rfl⟩:=Int.eq_ofNat_of_zero_le h0;simp only [Int.toNat_natCast] at hb hK;obtain ⟨w',hr,hown,hg⟩:=run_make_full (P:=C.P) w 0 t e i (C.ty e).z (C.ty e).size ((C.ok t ht).slice hsl) hi hiz his k k' q (by rw [hib];exact hb) (by simp only [maxLen];omega) (Nat.zero_le _)
  have hz:=Qqb (im:=im) (pl:=pl) (w:=w) hy
  have hzl:(Ja (C.ty e)).length=(C.ty e).size:=hz.1.trans hy.zc
  rcases hown.2 with ⟨h1,_⟩ | ⟨g,cap,cur,h1,_,h3,h4,h5,h6,h7⟩
  ·cases h1
  ·injection h1 with h1 h1' h1''
   injection h1 with h1
   injection h1 with h1
   subst h1 h1''
   have hcs:cur.size=q*(C.ty e).size:=h6
   have hcur:cur.toList=(madeCells (C.ty e).z.cells (q*(C.ty e).size)).toList:=by
    rw [← h7,List.take_of_length_le (by simp [hcs])]
   have:=hH.append (w':=w') none (fun r hr=>by cases hr) (.at w.heap.size q) e (C.ty e).size (Xj q (Ja (C.ty e))) hg.os hg.tape hg.output hg.size (fun k hk _=>hg.block k hk (by simp))
    (.inr ⟨w.heap.size,q,cur,rfl,.inr (Nat.le_refl _),(Array.getElem?_eq_some_iff.1 h3).1,h3,h6,h5,by rw [Xs,hzl,hcs];exact Nat.le_refl _,fun j=>?_⟩)
   ·exact ⟨_,_,im,_,w',_,hr,by simpa [Qi2] using hK,.refAt _ 0 _ _ q q (Xi _ _ _) (Nat.le_refl _) (fun _=>rfl),this.1,this.2⟩
   ·by_cases hj:j<q*(C.ty e).size
    ·rw [Qu6 _ _ _ (by rw [hzl];exact hj),hzl]
     have h8:=hz.2 (j%(C.ty e).size)
     have hpos:0<(C.ty e).size:=Nat.pos_of_ne_zero (fun e0=>by rw [e0] at hj;omega)
     have hmod:j%(C.ty e).size<(C.ty e).z.cells.size:=by rw [hy.zc];exact Nat.mod_lt _ hpos
     have h9:cur.getD j undef=(C.ty e).z.cells.getD (j%(C.ty e).size) undef:=by
      rw [Array.getD_eq_getD_getElem?,← Array.getElem?_toList,hcur];simp [madeCells,hj,hy.zc,Array.getD_eq_getD_getElem?,hmod,getElem!_pos,Nat.mod_lt _ hpos]
     rw [h9];exact h8
    ·rw [Qba _ _ (by rw [Xs,hzl];omega)];exact .any _
 ·exact h.elim
def Qdc (ty:TypeId→Ty) (t:TypeId) (len:Nat) (parts:List (Nat × V)) (H:Qb) (K:V→Qb→Prop):Prop :=
 match (ty t).sl with
 | some e=>(ty e).ok=true∧len*(ty e).size≤16777216∧0<(ty e).size ∧
  match Jz (fun i=>some (i*(ty e).size,(ty e).size)) (List.replicate (len*(ty e).size) .any) parts with
  | some out=>K (.ref H.length 0 len) (H++[some ⟨e,(ty e).size,out⟩])
  | none=>False
 | none=>False
theorem Qmq {C:Ctx} {im:Nat→Prop} {pl:Nat→Place} {w:World} {t:TypeId} {len:Nat} {ts:List V} {a:Act} {parts:Array (Nat × Operand)} {e:Nat} {out:List V} (ht:(C.ty t).ok=true) (hsl:(C.ty t).sl=some e)
  (he:(C.ty e).ok=true) (hsmall:len*(C.ty e).size≤16777216) (hpos:0<(C.ty e).size) (hv:Jz (fun i=>some (i*(C.ty e).size,(C.ty e).size)) (List.replicate (len*(C.ty e).size) .any) (parts.toList.map fun p=>(p.1,ev ts p.2))=some out) (hts:TR im pl w ts a.tmps) :
  ∃ res:Array Value,(Instr.buildSlice t len (parts.map fun (i,x)=>(i,a.eval x))).run C.P w=.ok (.slice (some ⟨w.heap.size,0,none⟩) len len) (w.alloc (.cells res e))∧res.size=len*(C.ty e).size∧out.length=len*(C.ty e).size∧len≤maxLen∧∀ j,VR im pl w (nth out j) (res.getD j undef):=by
 have hy:=C.ok e he
 have hu:=(C.ok t ht).slice hsl
 obtain ⟨i,hi,hiz,his,hib⟩:=hy.parts;obtain ⟨hp1,hp2⟩:=Qll hts parts
 let zero:Array Value:=if len*(C.ty e).size=0 then #[] else (C.ty e).z.cells
 obtain ⟨res,r1,r2,r3,r4⟩:=Qg5 (im:=im) (pl:=pl) (w:=w) _ _ _ _ ((Array.range (len*(C.ty e).size)).map (zero[·%zero.size]!)) _ hv hp1 hp2 (by simp) (fun j=>by
  rw [Ze];by_cases hj:j<len*(C.ty e).size
  ·simp [List.getD,List.getElem?_replicate,hj];exact .any _
  ·simp [List.getD,List.getElem?_replicate,hj];exact .any _)
 have hol:out.length=len*(C.ty e).size:=by rw [r3];simp
 have hlen:len≤maxLen:=by
  have:=Nat.le_trans (Nat.le_mul_of_pos_right len hpos) hsmall
  simp only [maxLen];omega
 refine ⟨res, ?_,by omega,hol,hlen,r4⟩
 have r1':Instr.fill (fun i=>some (i*(C.ty e).size,(C.ty e).size)) ((Array.range (len*(C.ty e).size)).map (zero[·%zero.size]!)) (parts.map fun x=>(x.1,a.eval x.2)).toList=some res:=r1
 have hnr:∀ w,(newRow e res).run C.P w=.ok ⟨w.heap.size,0,none⟩ (w.alloc (.cells res e)):=by
  intro w;simp only [newRow,newObj,Sem.run_bind,Sem.run,Sem.run_pure,Result.andThen_ok];rfl
 simp only [Instr.buildSlice,Sem.run_bind,run_underlying hu,Result.andThen_ok,hy.sizeOf];rw [if_neg (by omega)]
 by_cases h0:len*(C.ty e).size=0
 ·have hz0:zero=#[]:=if_pos h0
  rw [hz0] at r1';rw [if_pos h0];simp only [Sem.run_bind,Sem.run_pure,Result.andThen_ok];rw [r1'];simp only [Sem.run_bind,hnr,Sem.run_pure,Result.andThen_ok]
 ·have hz0:zero=(C.ty e).z.cells:=if_neg h0
  rw [hz0] at r1';rw [if_neg h0];simp only [Sem.run_bind,hy.zero,Sem.run_pure,Result.andThen_ok];rw [r1'];simp only [Sem.run_bind,hnr,Sem.run_pure,Result.andThen_ok]
theorem Qpc {C:Ctx} {im:Nat→Prop} {pl:Nat→Place} {w:World} {H:Qb} {t:TypeId} {len:Nat} {ts:List V} {a:Act} {parts:Array (Nat × Operand)} {K:V→Qb→Prop} (ht:(C.ty t).ok=true)
  (h:Qdc C.ty t len (parts.toList.map fun p=>(p.1,ev ts p.2)) H K) (hts:TR im pl w ts a.tmps) (hH:HR im pl w H) :
  ∃ v vc im' pl' w' H',(Instr.buildSlice t len (parts.map fun (i,x)=>(i,a.eval x))).run C.P w=.ok vc w'∧K v H'∧VR im' pl' w' v vc∧HR im' pl' w' H'∧Ext im pl w im' pl' w':=by
 unfold Qdc at h;cases hsl:(C.ty t).sl with
 | none=>rw [hsl] at h;exact h.elim
 | some e =>
  rw [hsl] at h;obtain ⟨he,hsmall,hpos,h⟩:=h;cases hv:Jz (fun i=>some (i*(C.ty e).size,(C.ty e).size)) (List.replicate (len*(C.ty e).size) .any) (parts.toList.map fun p=>(p.1,ev ts p.2)) with
  | none=>simp only [hv] at h
  | some out =>
   simp only [hv] at h;obtain ⟨res,hrun,hrs,hol,hlen,r4⟩:=Qmq ht hsl he hsmall hpos hv hts
   have hA:=hH.alloc e (C.ty e).size len out res (by omega) hlen (by omega) r4
   exact ⟨_,_,im,_,_,_,hrun,h,.refAt _ 0 _ _ len len (Xi _ _ _) (Nat.le_refl _) (fun _=>rfl),hA.1,hA.2⟩
def Qvk:List (Nat × Operand)→Bool
 | []=>true
 | (_,.const _)::r=>Qvk r
 | _::_=>false
def Qgo:List (Nat × Operand)→Bool
 | a::b::r=>Qvk (a::b::r)
 | _=>false
def Qoi (ty:TypeId→Ty) (t:TypeId) (len:Nat) (parts:List (Nat × V)) (K:V→Prop):Prop :=
 match (ty t).sl with
 | some e=>(ty e).ok=true∧len*(ty e).size≤16777216∧0<(ty e).size ∧
  match Jz (fun i=>some (i*(ty e).size,(ty e).size)) (List.replicate (len*(ty e).size) .any) parts with
  | some out=>K (.sl len out)
  | none=>False
 | none=>False
theorem HR.imNew {im:Nat→Prop} {pl:Nat→Place} {w:World} {H:Qb} (h:HR im pl w H) (e:Nat) (cur:Array Value) :
  HR (fun b=>im b∨b=w.heap.size) pl (w.alloc (.cells cur e)) H∧Ext im pl w (fun b=>im b∨b=w.heap.size) pl (w.alloc (.cells cur e)):=by
 have hE:Ext im pl w (fun b=>im b∨b=w.heap.size) pl (w.alloc (.cells cur e)) :=
  ⟨rfl,rfl,rfl,by simp,fun _ hb=>.inl hb,fun b hb=>hb.imp id fun hb=>.inl (by omega),fun r hr=>.inl rfl,fun r b c hb=>.inl ⟨r,c,hb⟩,fun b hb _=>heap_alloc_old _ _ _ hb⟩
 refine ⟨⟨h.len,fun b hb r c hr=>?_,fun r b c hb=>?_,fun b hb=>?_,h.inj,h.dead,h.virt,fun r b c hb=>?_⟩,hE⟩
 ·rcases hb with hb | hb
  ·exact h.apart b hb r c hr
  ·have:=h.bound r b c hr;omega
 ·have:=h.bound r b c hb;simp;omega
 ·rcases hb with hb | hb
  ·have:=h.imb b hb;simp;omega
  ·simp;omega
 ·obtain ⟨e',s',cs',cur',h1,h2,h3,h4,h5,h6⟩:=h.row r b c hb;exact ⟨e',s',cs',cur',h1,by rw [heap_alloc_old _ _ _ (h.bound r b c hb)];exact h2,h3,h4,h5,fun j=>(h6 j).mono hE h.apart⟩
theorem Qyo {C:Ctx} {im:Nat→Prop} {pl:Nat→Place} {w:World} {H:Qb} {t:TypeId} {len:Nat} {ts:List V} {a:Act} {parts:Array (Nat × Operand)} {K:V→Qb→Prop} (ht:(C.ty t).ok=true)
  (h:Qoi C.ty t len (parts.toList.map fun p=>(p.1,ev ts p.2)) fun v=>K v H) (hts:TR im pl w ts a.tmps) (hH:HR im pl w H) :
  ∃ v vc im' pl' w' H',(Instr.buildSlice t len (parts.map fun (i,x)=>(i,a.eval x))).run C.P w=.ok vc w'∧K v H'∧VR im' pl' w' v vc∧HR im' pl' w' H'∧Ext im pl w im' pl' w':=by
 unfold Qoi at h;cases hsl:(C.ty t).sl with
 | none=>rw [hsl] at h;exact h.elim
 | some e =>
  rw [hsl] at h;obtain ⟨he,hsmall,hpos,h⟩:=h;cases hv:Jz (fun i=>some (i*(C.ty e).size,(C.ty e).size)) (List.replicate (len*(C.ty e).size) .any) (parts.toList.map fun p=>(p.1,ev ts p.2)) with
  | none=>simp only [hv] at h
  | some out =>
   simp only [hv] at h;obtain ⟨res,hrun,hrs,hol,hlen,r4⟩:=Qmq ht hsl he hsmall hpos hv hts
   have hA:=hH.imNew e res
   refine ⟨_,_,_,_,_,_,hrun,h, ?_,hA.1,hA.2⟩;refine .sl len out _ len (fun j=>res.getD j undef) (Nat.le_refl _) (.inr rfl) (fun j hj=>?_) fun j=>(r4 j).mono hA.2 hH.apart
   rw [Jp,Nat.zero_add];exact Kg (heap_alloc_new _ _) (by omega)
def Quf (ty:TypeId→Ty) (t:TypeId) (b:Bool) (len:Nat) (parts:List (Nat × V)) (H:Qb) (K:V→Qb→Prop):Prop :=
 match b with
 | true=>Qoi ty t len parts fun v=>K v H
 | false=>Qdc ty t len parts H K
def Ke (op:BinOp) (k:IntKind) (a:Int) (k':IntKind) (b:Int) (K:V→Prop):Prop :=
 match op with
 | .add=>k=k'∧K (.int k (k.wrap (a+b)))
 | .sub=>k=k'∧K (.int k (k.wrap (a - b)))
 | .mul=>k=k'∧K (.int k (k.wrap (a*b)))
 | .quo=>k=k'∧b≠0∧K (.int k (k.wrap (a.tdiv b)))
 | .rem=>k=k'∧b≠0∧K (.int k (a.tmod b))
 | .eql=>k=k'∧K (.bool (a==b))
 | .neq=>k=k'∧K (.bool (a != b))
 | .lss=>k=k'∧K (.bool (decide (a<b)))
 | .leq=>k=k'∧K (.bool (decide (a≤b)))
 | .gtr=>k=k'∧K (.bool (decide (a>b)))
 | .geq=>k=k'∧K (.bool (decide (a≥b)))
 | .shl=>0≤b∧K (.int k (k.wrap (a*2 ^ (min b.toNat k.bits))))
 | .shr=>0≤b∧K (.int k (a.fdiv (2 ^ (min b.toNat k.bits))))
 | .and=>k=k'∧K (.int k (k.wrap ((BitVec.ofInt k.bits a &&& BitVec.ofInt k.bits b).toNat:Int)))
 | .or=>k=k'∧K (.int k (k.wrap ((BitVec.ofInt k.bits a|||BitVec.ofInt k.bits b).toNat:Int)))
 | .xor=>k=k'∧K (.int k (k.wrap ((BitVec.ofInt k.bits a ^^^ BitVec.ofInt k.bits b).toNat:Int)))
 | .andNot=>k=k'∧K (.int k (k.wrap ((BitVec.ofInt k.bits a &&& ~~~ BitVec.ofInt k.bits b).toNat:Int)))
def Qey (y:Ty) (op:BinOp) (a b:V) (H:Qb) (K:V→Prop):Prop :=
 match a,b with
 | .int k a,.int k' b=>Ke op k a k' b K
 | .bool a,.bool b=>y.bl=true∧match op with
  | .eql=>K (.bool (a==b))
  | .neq=>K (.bool (!(a==b)))
  | _=>False
 | .str a,.str b=>match op with
  | .eql=>K (.bool (a.toList==b.toList))
  | .neq=>K (.bool (!(a.toList==b.toList)))
  | _=>False
 | .nil,.nil=>y.sl.isSome=true∧match op with
  | .eql=>K (.bool true)
  | .neq=>K (.bool false)
  | _=>False
 | .sl n _,.nil=>y.sl.isSome=true∧match op with
  | .eql=>K (.bool false)∧(n=0→K (.bool true))
  | .neq=>K (.bool true)∧(n=0→K (.bool false))
  | _=>False
 | .ref r _ n,.nil=>y.sl.isSome=true∧(Qc H r).isSome=true∧match op with
  | .eql=>K (.bool false)∧(n=0→K (.bool true))
  | .neq=>K (.bool true)∧(n=0→K (.bool false))
  | _=>False
 | _,_=>False
theorem VR.slice_none {im:Nat→Prop} {pl:Nat→Place} {w:World} {n:Nat} {cs:List V} {c:Value} (h:VR im pl w (.sl n cs) c):∃ a cap,c=.slice a n cap∧(a.isNone=true→n=0):=by
 cases h with
 | sl0 _ a c=>exact ⟨a,c,rfl,fun _=>rfl⟩
 | sl _ _ ad c vs hn hi hc hr=>exact ⟨some ad,c,rfl,fun h=>by simp at h⟩
theorem VR.ref_none {im:Nat→Prop} {pl:Nat→Place} {w:World} {H:Qb} (hH:HR im pl w H) {r off n:Nat} {c:Value} (h:VR im pl w (.ref r off n) c):∃ a cap,c=.slice a n cap∧(a.isNone=true→n=0∨pl r=.dead):=by
 cases h with
 | refAt _ _ _ b cap c hp hc h0=>exact ⟨_,_,rfl,fun h=>by simp at h⟩
 | refVirt _ hp=>exact ⟨_,_,rfl,fun _=>.inl rfl⟩
 | refDead _ _ _ a c hp=>exact ⟨a,c,rfl,fun _=>.inr hp⟩
theorem Qb1 {P:Program} (w:World) (t e:TypeId) (op:BinOp) (ox oy:Operand) (a:Option Addr) (n c:Nat) (h:P.underlying t=some (.slice e)) (b:Bool) (hop:op=.eql∧b=a.isNone∨op=.neq∧b=!a.isNone) :
  ((do eqGuard op t ox oy (.slice a n c) (.slice none 0 0);binOp op t (.slice a n c) (.slice none 0 0)):Sem Value).run P w=.ok (.bool b) w:=by
 have he:∀ d:Nat,(Op.equalIn (d+1) t (.slice a n c) (.slice none 0 0)).run P w=.ok a.isNone w:=fun d=>by
  cases a<;>simp [Op.equalIn,run_underlying h]
 rcases hop with ⟨rfl,rfl⟩ | ⟨rfl,rfl⟩
 ·simp [eqGuard,binOp,Op.equal,Op.maxDepth,he 9999]
 ·simp [eqGuard,binOp,Op.equal,Op.maxDepth,he 9999]
theorem Qyu {P:Program} {w:World} {t:TypeId} {ox oy:Operand} {op:BinOp} {k k':IntKind} {a b:Int} {K:V→Prop} (h:Ke op k a k' b K) (im:Nat→Prop) (pl:Nat→Place) :
  ∃ v vc,((do eqGuard op t ox oy (.int k a) (.int k' b);binOp op t (.int k a) (.int k' b)):Sem Value).run P w=.ok vc w∧K v∧VR im pl w v vc:=by
 unfold Ke at h;cases op<;>simp only at h
 case and | or | xor | andNot=>obtain ⟨rfl,h⟩:=h;exact ⟨_,_,by simp [eqGuard,binOp,Op.intBits, -BitVec.toNat_and, -BitVec.toNat_or, -BitVec.toNat_xor, -BitVec.toNat_ofInt, -BitVec.toNat_not],h,.int _ _⟩
 case shl | shr=>obtain ⟨hb,h⟩:=h;exact ⟨_,_,by simp [eqGuard,binOp,Op.shift,Int.not_lt.2 hb],h,.int _ _⟩
 case quo | rem=>obtain ⟨rfl,hb,h⟩:=h;exact ⟨_,_,by simp [eqGuard,binOp,Op.intDiv,hb],h,.int _ _⟩
 all_goals first
  | (obtain ⟨rfl,h⟩:=h;exact ⟨_,_,by simp [eqGuard,binOp,Op.intArith,Op.intCmp],h,.int _ _⟩)
  | (obtain ⟨rfl,h⟩:=h;exact ⟨_,_,by simp [eqGuard,binOp,Op.intArith,Op.intCmp],h,.bool _⟩)
theorem Qzy {C:Ctx} {im:Nat→Prop} {pl:Nat→Place} {w:World} {H:Qb} {t:TypeId} {ox oy:Operand} {op:BinOp} {x y:V} {xc yc:Value} {K:V→Prop} (ht:(C.ty t).ok=true)
  (h:Qey (C.ty t) op x y H K) (hx:VR im pl w x xc) (hy:VR im pl w y yc) (hH:HR im pl w H) :
  ∃ v vc,((do eqGuard op t ox oy xc yc;binOp op t xc yc):Sem Value).run C.P w=.ok vc w∧K v∧VR im pl w v vc:=by
 have hok:=C.ok t ht
 unfold Qey at h;split at h
 ·cases hx;cases hy;exact Qyu h im pl
 ·cases hx;cases hy;obtain ⟨hb,h⟩:=h
  have hu:=hok.bool hb
  have:=fun a b=>run_equal_bool w t a b hu
  rename_i a b;cases op<;>simp only at h<;>first
   | exact h.elim
   | exact ⟨_,_,by simp [eqGuard,binOp,this],h,.bool _⟩
 ·cases hx;cases hy;cases op<;>simp only at h<;>first
   | exact h.elim
   | exact ⟨_,_,by simp [eqGuard,binOp,Op.stringOp],h,.bool _⟩
 ·cases hx;cases hy;obtain ⟨hb,h⟩:=h;obtain ⟨e,he⟩:=Option.isSome_iff_exists.1 hb
  have hu:=hok.slice he
  cases op<;>simp only at h<;>first
   | exact h.elim
   | exact ⟨_,_,Qb1 w t e _ ox oy none 0 0 hu _ (by simp),h,.bool _⟩
 ·cases hy;obtain ⟨a,cap,rfl,ha⟩:=hx.slice_none;obtain ⟨hb,h⟩:=h;obtain ⟨e,he⟩:=Option.isSome_iff_exists.1 hb
  have hu:=hok.slice he
  rename_i n _;cases op<;>simp only at h<;>first
   | exact h.elim
   | (cases hn:a.isNone with
      | true=>exact ⟨_,_,Qb1 w t e _ ox oy a n cap hu _ (by simp [hn]),h.2 (ha hn),.bool _⟩
      | false=>exact ⟨_,_,Qb1 w t e _ ox oy a n cap hu _ (by simp [hn]),h.1,.bool _⟩)
 ·cases hy;rename_i r _ n;obtain ⟨a,cap,rfl,ha⟩:=hx.ref_none hH;obtain ⟨hb,hrow,h⟩:=h;obtain ⟨e,he⟩:=Option.isSome_iff_exists.1 hb;obtain ⟨row,hrow⟩:=Option.isSome_iff_exists.1 hrow
  have hu:=hok.slice he
  have ha':a.isNone=true→n=0:=fun hn=>(ha hn).resolve_right (fun hd=>by have h1:=hH.dead r hd;rw [Yd hrow] at h1;cases h1)
  cases op<;>simp only at h<;>first
   | exact h.elim
   | (cases hn:a.isNone with
      | true=>exact ⟨_,_,Qb1 w t e _ ox oy a n cap hu _ (by simp [hn]),h.2 (ha' hn),.bool _⟩
      | false=>exact ⟨_,_,Qb1 w t e _ ox oy a n cap hu _ (by simp [hn]),h.1,.bool _⟩)
 ·exact h.elim
def Qi0 (c a b:V) (K:V→Prop):Prop :=
 match c with
 | .bool t=>(t=true→K a)∧(t=false→K b)
 | _=>False
theorem Quu {P:Program} {im:Nat→Prop} {pl:Nat→Place} {w:World} {c a b:V} {cc ac bc:Value} {K:V→Prop} (h:Qi0 c a b K) (hc:VR im pl w c cc) (ha:VR im pl w a ac) (hb:VR im pl w b bc) :
  ∃ v vc,((do pure (.value (if ← asBool cc then ac else bc))):Sem Next).run P w=.ok (.value vc) w∧K v∧VR im pl w v vc:=by
 unfold Qi0 at h;split at h
 ·cases hc;rename_i t;cases t with
  | true=>exact ⟨_,_,by simp [asBool],h.1 rfl,ha⟩
  | false=>exact ⟨_,_,by simp [asBool],h.2 rfl,hb⟩
 ·exact h.elim
def unw (op:UnOp) (x:V) (K:V→Prop):Prop :=
 match op,x with
 | .neg,.int k n=>K (.int k (k.wrap (0 - n)))
 | .not,.bool b=>K (.bool (!b))
 | .xor,.int k n=>K (.int k (k.wrap ((BitVec.ofInt k.bits (if k.signed then -1 else k.max) ^^^ BitVec.ofInt k.bits n).toNat:Int)))
 | _,_=>False
theorem Xb1 {P:Program} {im:Nat→Prop} {pl:Nat→Place} {w:World} {op:UnOp} {x:V} {xc:Value} {K:V→Prop} (h:unw op x K) (hx:VR im pl w x xc) :
  ∃ v vc,(Op.unary op xc).run P w=.ok vc w∧K v∧VR im pl w v vc:=by
 unfold unw at h;split at h
 ·cases hx;exact ⟨_,_,by simp [Op.unary,Op.intArith],h,.int _ _⟩
 ·cases hx;exact ⟨_,_,by simp [Op.unary],h,.bool _⟩
 ·cases hx;exact ⟨_,_,by simp [Op.unary,Op.intBits],h,.int _ _⟩
 ·exact h.elim
def Qet (d:Ty) (x:V) (K:V→Prop):Prop :=
 match d.ik,x with
 | some k,.int _ n=>K (.int k (k.wrap n))
 | _,_=>False
theorem Qv8 {C:Ctx} {im:Nat→Prop} {pl:Nat→Place} {w:World} {s d:TypeId} {x:V} {xc:Value} {K:V→Prop} (hs:(C.ty s).ok=true) (hd:(C.ty d).ok=true) (h:Qet (C.ty d) x K) (hx:VR im pl w x xc) :
  ∃ v vc,(convert s d xc).run C.P w=.ok vc w∧K v∧VR im pl w v vc:=by
 unfold Qet at h;split at h
 ·rename_i k k' n hk;cases hx;obtain ⟨ds,hu,_⟩:=(C.ok s hs).und
  have hi:=(C.ok d hd).int hk
  exact ⟨_,_,by simp [convert,run_underlying hu,run_underlying hi,Conv.intToInt],h,.int _ _⟩
 ·exact h.elim
def Qs4 (x:V) (i:Nat) (K:V→Prop):Prop :=
 match x with
 | .tup vs=>i<vs.length∧K (nth vs i)
 | _=>False
theorem Qy6 {P:Program} {im:Nat→Prop} {pl:Nat→Place} {w:World} {x:V} {xc:Value} {i:Nat} {K:V→Prop} (h:Qs4 x i K) (hx:VR im pl w x xc) :
  ∃ v vc,(Instr.extract xc i).run P w=.ok vc w∧K v∧VR im pl w v vc:=by
 unfold Qs4 at h;split at h
 ·cases hx with
  | tup _ vs hl hr =>
   have hi:i<vs.length:=by omega
   have:=hr i
   rw [List.getD_eq_getElem?_getD,List.getElem?_eq_getElem hi] at this;exact ⟨_,_,by simp [Instr.extract,hi],h.2,this⟩
 ·exact h.elim
def Qoe (x:V) (K:V→Prop):Prop :=
 match x with
 | .ptr _ _ | .rp _ _=>K x
 | .fn (.func _) _ _=>K x
 | .fn (.yield _) _ _=>K x
 | _=>False
def Qeo (y:Ty) (x:V) (f:Nat) (K:V→Prop):Prop :=
 match y.fs[f]?,x with
 | some (o,_),.ptr r off=>K (.ptr r (off+o))
 | some (o,_),.rp cs off=>K (.rp cs (off+o))
 | _,_=>False
def Qen (ty:TypeId→Ty) (y:Ty) (x:V) (f:Nat) (K:V→Prop):Prop :=
 match y.fs[f]?,x with
 | some (o,u),.agg cs=>(ty u).ok=true∧o+(ty u).size≤cs.length∧K (Qlm (ty u) cs o)
 | _,_=>False
theorem Quj {P:Program} {w:World} {t:TypeId} {y:Ty} (hy:OKt P t y) (vs:List Value) (off:Nat) (hl:off+y.size≤vs.length) :
  (part t vs.toArray off).run P w=.ok (if y.agg then .agg ((List.range y.size).map fun j=>vs.getD (off+j) undef).toArray else vs.getD off undef) w:=by
 unfold part;simp only [Sem.run_bind,hy.isAgg,Result.andThen_ok];cases h:y.agg with
 | true =>
  simp only [if_true,Sem.run_bind,hy.sizeOf,Result.andThen_ok,Sem.run_pure]
  congr 2
  apply Array.ext
  ·simp;omega
  ·intro i h1 h2;simp only [List.size_toArray,List.length_map,List.length_range] at h2;simp [List.getD,show off+i<vs.length by omega]
 | false =>
  have h1:=hy.one h
  have:off<vs.length:=by omega
  simp [List.getD,this]
theorem Qs3 {C:Ctx} {im:Nat→Prop} {pl:Nat→Place} {w:World} {t:TypeId} {x:V} {xc:Value} {f:Nat} {K:V→Prop} (ht:(C.ty t).ok=true) (h:Qen C.ty (C.ty t) x f K) (hx:VR im pl w x xc) :
  ∃ v vc,(Instr.field t xc f).run C.P w=.ok vc w∧K v∧VR im pl w v vc:=by
 unfold Qen at h;split at h
 ·rename_i o u cs hf;obtain ⟨hu,hl,hK⟩:=h;obtain ⟨fs,fd,hs,hfd,rfl,rfl⟩:=(C.ok t ht).field hf;cases hx with
  | agg _ vs hvl hr =>
   refine ⟨_,_, ?_,hK,Qj8 (C.ty fd.type) cs fd.offset (fun j=>vs.getD (fd.offset+j) undef) (fun j=>hr _)⟩
   have:=Quj (C.ok _ hu) (w:=w) vs fd.offset (by omega)
   simp only [Instr.field,Sem.run_bind,run_underlying hs,Result.andThen_ok,hfd];simpa [asAgg] using this
 ·exact h.elim
def Qaj (ty:TypeId→Ty) (y:Ty) (x i:V) (K:V→Prop):Prop :=
 match y.arr,x,i with
 | some (n,e),.agg cs,.int _ i=>(ty e).ok=true∧0≤i∧i<n∧i.toNat*(ty e).size+(ty e).size≤cs.length∧K (Qlm (ty e) cs (i.toNat*(ty e).size))
 | none,.str s,.int _ i=>y.str=true∧0≤i∧i.toNat<s.size∧K (.int .u8 ((s[i.toNat]?.getD 0).toNat:Int))
 | _,_,_=>False
theorem Qsw {C:Ctx} {im:Nat→Prop} {pl:Nat→Place} {w:World} {t:TypeId} {x i:V} {xc ic:Value} {K:V→Prop} (ht:(C.ty t).ok=true) (h:Qaj C.ty (C.ty t) x i K) (hx:VR im pl w x xc) (hi:VR im pl w i ic) :
  ∃ v vc,(Instr.index t xc ic).run C.P w=.ok vc w∧K v∧VR im pl w v vc:=by
 unfold Qaj at h;split at h
 ·rename_i n e cs k q ha;obtain ⟨he,h0,h1,hl,hK⟩:=h
  have hu:=(C.ok t ht).array ha
  cases hi;cases hx with
  | agg _ vs hvl hr =>
   refine ⟨_,_, ?_,hK,Qj8 (C.ty e) cs _ (fun j=>vs.getD (q.toNat*(C.ty e).size+j) undef) (fun j=>hr _)⟩
   have:=Quj (C.ok _ he) (w:=w) vs (q.toNat*(C.ty e).size) (by omega)
   simp only [Instr.index,asIntOf,Sem.run_bind,Sem.run_pure,run_underlying hu,Result.andThen_ok,if_pos (show 0≤q∧q<n from ⟨h0,h1⟩),(C.ok e he).sizeOf];simpa using this
 ·rename_i s k q ha;obtain ⟨hs,h0,h1,hK⟩:=h
  have hu:=(C.ok t ht).string hs
  cases hi;cases hx;refine ⟨_,_, ?_,hK,.int _ _⟩
  have hb:s[q.toNat]?=some (s[q.toNat]?.getD 0):=by simp [getElem?_pos s q.toNat h1]
  simp only [Instr.index,asIntOf,Sem.run_bind,Sem.run_pure,run_underlying hu,Result.andThen_ok,if_pos h0];rw [hb];simp
 ·exact h.elim
def Ys (ty:TypeId→Ty) (y:Ty) (x i:V) (K:V→Prop):Prop :=
 match i with
 | .int _ i =>
  match y.sl,x with
  | some e,.sl n cs=>(ty e).ok=true∧0≤i∧i<n∧K (.rp cs (i.toNat*(ty e).size))
  | some e,.ref r off n=>(ty e).ok=true∧0≤i∧i<n∧K (.ptr r (off+i.toNat*(ty e).size))
  | _,.ptr r off=>match y.arr with
   | some (n,e)=>(ty e).ok=true∧0≤i∧i<n∧K (.ptr r (off+i.toNat*(ty e).size))
   | none=>False
  | _,_=>False
 | _=>False
theorem Qlw {C:Ctx} {im:Nat→Prop} {pl:Nat→Place} {w:World} {H:Qb} {t:TypeId} {x i:V} {xc ic:Value} {K:V→Prop} (ht:(C.ty t).ok=true) (h:Ys C.ty (C.ty t) x i K) (hx:VR im pl w x xc) (hi:VR im pl w i ic)
  (hH:HR im pl w H) (hd:∀ r off n,x=.ref r off n→(Qc H r).isSome=true) (hd':∀ r off,x=.ptr r off→(Qc H r).isSome=true) :
  ∃ v vc,(Instr.indexAt t xc ic).run C.P w=.ok vc w∧K v∧VR im pl w v vc:=by
 unfold Ys at h;split at h
 case h_2=>exact h.elim
 case h_1 k q =>
  cases hi;split at h
  ·rename_i e n cs hs;obtain ⟨he,h0,h1,hK⟩:=h
   have hu:=(C.ok t ht).slice hs
   cases hx with
   | sl0=>omega
   | sl _ _ ad c vs hn hi hc hr =>
    refine ⟨_,_, ?_,hK,.rp cs _ ad vs hi hc hr⟩;simp only [Instr.indexAt,asIntOf,Sem.run_bind,Sem.run_pure,run_underlying hu,Result.andThen_ok,if_pos (show 0≤q∧q<n from ⟨h0,h1⟩),(C.ok e he).sizeOf]
  ·rename_i e r off n hs;obtain ⟨he,h0,h1,hK⟩:=h
   have hu:=(C.ok t ht).slice hs
   obtain ⟨row,hrow⟩:=Option.isSome_iff_exists.1 (hd _ _ _ rfl);cases hx with
   | refDead _ _ _ a c hp=>have h1:=hH.dead r hp;rw [Yd hrow] at h1;cases h1
   | refVirt=>omega
   | refAt _ _ _ b cap c hp hc h2 =>
    refine ⟨_,_, ?_,hK,.ptrAt r _ b cap hp⟩;simp only [Instr.indexAt,asIntOf,Sem.run_bind,Sem.run_pure,run_underlying hu,Result.andThen_ok,if_pos (show 0≤q∧q<n from ⟨h0,h1⟩),(C.ok e he).sizeOf,Jp]
  ·rename_i r off;split at h
   ·rename_i n e ha;obtain ⟨he,h0,h1,hK⟩:=h
    have hu:=(C.ok t ht).array ha
    obtain ⟨row,hrow⟩:=Option.isSome_iff_exists.1 (hd' _ _ rfl);cases hx with
    | ptrDead _ _ a hp=>have h1:=hH.dead r hp;rw [Yd hrow] at h1;cases h1
    | ptrAt _ _ b cap hp =>
     refine ⟨_,_, ?_,hK,.ptrAt r _ b cap hp⟩;simp only [Instr.indexAt,asIntOf,Instr.sureAddr,Sem.run_bind,Sem.run_pure,run_underlying hu,Result.andThen_ok,if_pos (show 0≤q∧q<n from ⟨h0,h1⟩),(C.ok e he).sizeOf,Jp]
   ·exact h.elim
  ·exact h.elim
def Xy (ty:TypeId→Ty) (y:Ty) (x:V) (lo hi:Option V) (H:Qb) (K:V→Prop):Prop :=
 match y.sl with
 | none=>False
 | some e=>(ty e).ok=true∧0<(ty e).size ∧
  match lo,hi with
  | none,some (.int _ h)=>0≤h∧(match x with
   | .sl n cs=>h≤n∧K (.sl h.toNat (cs.take (h.toNat*(ty e).size)))
   | .ref r off n=>(Qc H r).isSome=true∧h≤n∧(h=0→K (.sl 0 []))∧(h≠0→K (.ref r off h.toNat))
   | .nil=>h=0∧K .nil
   | _=>False)
  | some (.int _ l),none=>0≤l∧(match x with
   | .sl n cs=>l≤n∧K (.sl (n - l.toNat) (cs.drop (l.toNat*(ty e).size)))
   | .ref r off n=>(Qc H r).isSome=true∧l≤n∧(l=n→K (.sl 0 []))∧(l≠n→K (.ref r (off+l.toNat*(ty e).size) (n - l.toNat)))
   | .nil=>l=0∧K .nil
   | _=>False)
  | some (.int _ l),some (.int _ h)=>0≤l∧l≤h∧(match x with
   | .sl n cs=>h≤n∧K (.sl (h.toNat - l.toNat) ((cs.drop (l.toNat*(ty e).size)).take ((h.toNat - l.toNat)*(ty e).size)))
   | .ref r off n=>(Qc H r).isSome=true∧h≤n∧(l=h→K (.sl 0 []))∧(l≠h→K (.ref r (off+l.toNat*(ty e).size) (h.toNat - l.toNat)))
   | .nil=>h=0∧K .nil
   | _=>False)
  | _,_=>False
theorem VR.part {im:Nat→Prop} {pl:Nat→Place} {w:World} {n:Nat} {cs:List V} {c:Value} (h:VR im pl w (.sl n cs) c) (l hh s:Nat) (hs:0<s) (cs':List V) (hl:l≤hh) (hh':hh≤n)
  (hc':∀ j,j<cs'.length→l*s+j<cs.length∧nth cs' j=nth cs (l*s+j)) :
  ∃ a cap,c=.slice a n cap∧n≤cap+n∧∀ cap',cap'=cap - l→(cap=l→hh=l)→VR im pl w (.sl (hh - l) cs') (.slice (if cap=l then a else a.map (·.add (l*s))) (hh - l) cap'):=by
 cases h with
 | sl0 _ a c =>
  refine ⟨a,c,rfl,by omega,fun cap' _ _=>?_⟩
  have:hh - l=0:=by omega
  rw [this];exact .sl0 _ _ _
 | sl _ _ ad c vs hn hi hc hr =>
  refine ⟨some ad,c,rfl,by omega,fun cap' hcap hz=>?_⟩
  by_cases h0:hh - l=0
  ·rw [h0];exact .sl0 _ _ _
  ·rw [if_neg (fun e=>h0 (by have:=hz e;omega))]
   refine .sl _ _ (ad.add (l*s)) _ (fun j=>vs (l*s+j)) (by omega) (by rw [Qd1];exact hi) (fun j hj=>by rw [add_add];exact hc _ (hc' j hj).1) (fun j=>?_)
   by_cases hj:j<cs'.length
   ·rw [(hc' j hj).2];exact hr _
   ·rw [Qba _ _ (by omega)];exact .any _
theorem Jo {P:Program} (w:World) {t e:TypeId} {y:Ty} (hu:P.underlying t=some (.slice e)) (hy:OKt P e y) (a:Option Addr) (len cap:Nat) (lo hi:Option Value) (l h:Nat)
  (hlo:(lo=none∧l=0)∨∃ k,lo=some (.int k l)) (hhi:(hi=none∧h=len)∨∃ k,hi=some (.int k h)) (h1:l≤h) (h2:h≤len) (h3:len≤cap) :
  (Instr.sliceAt t (.slice a len cap) lo hi none).run P w=.ok (.slice (if cap=l then a else a.map (·.add (l*y.size))) (h - l) (cap - l)) w:=by
 have he:P.elem t=e:=by simp [Program.elem,hu]
 have hu':P.underlying t=some (.slice (P.elem t)):=by rw [he];exact hu
 rw [run_sliceAt_slice (h:=hu')];rcases hlo with ⟨rfl,rfl⟩ | ⟨k,rfl⟩<;>rcases hhi with ⟨rfl,rfl⟩ | ⟨k',rfl⟩
 ·rw [run_slice_any (ht:=hu'),he];simp [Instr.sliceBounds,hy.sizeOf,sliced,Result.andThen]
 ·rw [run_slice_h (ht:=hu') (h0:=by omega) (h2:=by omega),he,hy.sizeOf]
  simp [sliced,Result.andThen]
 ·rw [run_slice_l (ht:=hu') (h0:=by omega) (h1:=by omega),he,hy.sizeOf]
  simp [sliced,Result.andThen]
 ·rw [run_slice_lh (ht:=hu') (h0:=by omega) (h1:=by omega) (h2:=by omega),he,hy.sizeOf]
  simp [sliced,Result.andThen]
theorem Qd4 {C:Ctx} {im:Nat→Prop} {pl:Nat→Place} {w:World} {H:Qb} {t e:TypeId} {x:V} {xc:Value} {loc hic:Option Value} {K:V→Prop} (ht:(C.ty t).ok=true) (hsl:(C.ty t).sl=some e) (he:(C.ty e).ok=true) (hpos:0<(C.ty e).size)
  (hx:VR im pl w x xc) (hH:HR im pl w H) (l h:Nat) (hlo:(loc=none∧l=0)∨∃ k,loc=some (.int k l)) :
  (∀ n cs,x=.sl n cs→((hic=none∧h=n)∨∃ k,hic=some (.int k h))→l≤h→h≤n→∀ cs':List V,(∀ j,j<cs'.length→l*(C.ty e).size+j<cs.length∧nth cs' j=nth cs (l*(C.ty e).size+j))→K (.sl (h - l) cs') →
   ∃ v vc,(Instr.sliceAt t xc loc hic none).run C.P w=.ok vc w∧K v∧VR im pl w v vc) ∧
  (∀ r off n,x=.ref r off n→((hic=none∧h=n)∨∃ k,hic=some (.int k h))→l≤h→h≤n→(Qc H r).isSome=true→(l=h→K (.sl 0 []))→(l≠h→K (.ref r (off+l*(C.ty e).size) (h - l))) →
   ∃ v vc,(Instr.sliceAt t xc loc hic none).run C.P w=.ok vc w∧K v∧VR im pl w v vc) ∧
  (x=.nil→((hic=none∧h=0)∨∃ k,hic=some (.int k h))→l=0→h=0→K .nil→∃ v vc,(Instr.sliceAt t xc loc hic none).run C.P w=.ok vc w∧K v∧VR im pl w v vc):=by
 have hu:=(C.ok t ht).slice hsl
 have hy:=C.ok e he
 refine ⟨fun n cs hxe hhi h1 h2 cs' hc' hK=>?_,fun r off n hxe hhi h1 h2 hrow hK0 hK1=>?_,fun hxe hhi h1 h2 hK=>?_⟩
 ·subst hxe;by_cases h0:h - l=0
  ·obtain ⟨a,cap,rfl,_⟩:=hx.slice_none
   have hcap:n≤cap:=by
    cases hx with
    | sl0=>omega
    | sl _ _ _ _ _ hn=>exact hn
   refine ⟨_,_,Jo w hu hy a n cap _ _ l h hlo hhi h1 h2 hcap,hK, ?_⟩;rw [h0];exact .sl0 _ _ _
  ·obtain ⟨a,cap,rfl,_,hv⟩:=hx.part l h (C.ty e).size hpos cs' h1 h2 hc'
   have hcap:n≤cap:=by
    cases hx with
    | sl0=>omega
    | sl _ _ _ _ _ hn=>exact hn
   exact ⟨_,_,Jo w hu hy a n cap _ _ l h hlo hhi h1 h2 hcap,hK,hv _ rfl (fun e=>by omega)⟩
 ·subst hxe;obtain ⟨row,hrow⟩:=Option.isSome_iff_exists.1 hrow;cases hx with
  | refDead _ _ _ a c hp=>have h1:=hH.dead r hp;rw [Yd hrow] at h1;cases h1
  | refVirt _ hp =>
   refine ⟨_,_,Jo w hu hy none 0 0 _ _ l h hlo hhi h1 h2 (Nat.le_refl _),hK0 (by omega), ?_⟩
   rw [show h - l=0 by omega];exact .sl0 _ _ _
  | refAt _ _ _ b cap c hp hc hcc =>
   by_cases h0:l=h
   ·refine ⟨_,_,Jo w hu hy _ n c _ _ l h hlo hhi h1 h2 hc,hK0 h0, ?_⟩;rw [show h - l=0 by omega];exact .sl0 _ _ _
   ·refine ⟨_,_,Jo w hu hy _ n c _ _ l h hlo hhi h1 h2 hc,hK1 h0, ?_⟩;rw [if_neg (by omega)]
    simp only [Option.map_some,Jp];refine .refAt r _ _ b cap _ hp (by omega) (fun hz=>?_)
    have hl0:l=0:=by
     rcases Nat.eq_zero_or_pos l with h3 | h3
     ·exact h3
     ·have:=Nat.mul_pos h3 hpos;omega
    subst hl0
    have:=hcc (by omega)
    omega
 ·subst hxe;cases hx;refine ⟨_,_,Jo w hu hy none 0 0 _ _ l h hlo hhi (by omega) (by omega) (Nat.le_refl _),hK, ?_⟩
  rw [h1,h2]
  simp;exact .nil
theorem Qr4 {C:Ctx} {im:Nat→Prop} {pl:Nat→Place} {w:World} {H:Qb} {t:TypeId} {x:V} {xc:Value} {lo hi:Option V} {loc hic:Option Value} {K:V→Prop} (ht:(C.ty t).ok=true)
  (h:Xy C.ty (C.ty t) x lo hi H K) (hx:VR im pl w x xc) (hlo:∀ v,lo=some v→∃ c,loc=some c∧VR im pl w v c) (hlo':lo=none→loc=none) (hhi:∀ v,hi=some v→∃ c,hic=some c∧VR im pl w v c) (hhi':hi=none→hic=none) (hH:HR im pl w H) :
  ∃ v vc,(Instr.sliceAt t xc loc hic none).run C.P w=.ok vc w∧K v∧VR im pl w v vc:=by
 unfold Xy at h;split at h
 ·exact h.elim
 rename_i e hsl;obtain ⟨he,hpos,h⟩:=h;split at h
 ·rename_i _ _ k q;obtain ⟨h0,h⟩:=h;obtain ⟨c,hc,hv⟩:=hhi _ rfl;cases hv
  have hl:=hlo' rfl
  obtain ⟨m,rfl⟩:=Int.eq_ofNat_of_zero_le h0;simp only [Int.toNat_natCast] at h
  have core:=Qd4 (loc:=loc) (hic:=hic) (K:=K) ht hsl he hpos hx hH 0 m (.inl ⟨hl,rfl⟩)
  split at h
  ·rename_i n cs;exact core.1 n cs rfl (.inr ⟨k,hc⟩) (Nat.zero_le _) (by omega) _ (fun j hj=>by simp only [List.length_take] at hj;exact ⟨by omega,by rw [Qf1 _ _ _ (by omega)];simp⟩) h.2
  ·rename_i r off n;exact core.2.1 r off n rfl (.inr ⟨k,hc⟩) (Nat.zero_le _) (by omega) h.1 (fun e=>h.2.2.1 (by omega)) (fun e=>by simpa using h.2.2.2 (by omega))
  ·exact core.2.2 rfl (.inr ⟨k,hc⟩) rfl (by omega) h.2
  ·exact h.elim
 ·rename_i _ _ k q;obtain ⟨h0,h⟩:=h;obtain ⟨c,hc,hv⟩:=hlo _ rfl;cases hv
  have hl:=hhi' rfl
  obtain ⟨m,rfl⟩:=Int.eq_ofNat_of_zero_le h0;simp only [Int.toNat_natCast] at h;split at h
  ·rename_i n cs;exact (Qd4 (loc:=loc) (hic:=hic) (K:=K) ht hsl he hpos hx hH m n (.inr ⟨k,hc⟩)).1 n cs rfl (.inl ⟨hl,rfl⟩) (by omega) (Nat.le_refl _) _ (fun j hj=>by simp only [List.length_drop] at hj;exact ⟨by omega,by rw [Qf2]⟩) h.2
  ·rename_i r off n;exact (Qd4 (loc:=loc) (hic:=hic) (K:=K) ht hsl he hpos hx hH m n (.inr ⟨k,hc⟩)).2.1 r off n rfl (.inl ⟨hl,rfl⟩) (by omega) (Nat.le_refl _) h.1 (fun e=>h.2.2.1 (by omega)) (fun e=>h.2.2.2 (by omega))
  ·exact (Qd4 (loc:=loc) (hic:=hic) (K:=K) ht hsl he hpos hx hH m 0 (.inr ⟨k,hc⟩)).2.2 rfl (.inl ⟨hl,rfl⟩) (by omega) rfl h.2
  ·exact h.elim
 ·rename_i _ _ k q k' q';obtain ⟨h0,h01,h⟩:=h;obtain ⟨c,hc,hv⟩:=hlo _ rfl;obtain ⟨c',hc',hv'⟩:=hhi _ rfl;cases hv;cases hv';obtain ⟨m,rfl⟩:=Int.eq_ofNat_of_zero_le h0;obtain ⟨m',rfl⟩:=Int.eq_ofNat_of_zero_le (Int.le_trans h0 h01);simp only [Int.toNat_natCast] at h
  have core:=Qd4 (loc:=loc) (hic:=hic) (K:=K) ht hsl he hpos hx hH m m' (.inr ⟨k,hc⟩)
  split at h
  ·rename_i n cs;exact core.1 n cs rfl (.inr ⟨k',hc'⟩) (by omega) (by omega) _ (fun j hj=>by simp only [List.length_take,List.length_drop] at hj;exact ⟨by omega,by rw [Qf1 _ _ _ (by omega),Qf2]⟩) h.2
  ·rename_i r off n;exact core.2.1 r off n rfl (.inr ⟨k',hc'⟩) (by omega) (by omega) h.1 (fun e=>h.2.2.1 (by omega)) (fun e=>h.2.2.2 (by omega))
  ·exact core.2.2 rfl (.inr ⟨k',hc'⟩) (by omega) (by omega) h.2
  ·exact h.elim
 ·exact h.elim
def lenw (y:Ty) (x:V) (K:V→Prop):Prop :=
 match x with
 | .sl n _=>y.sl.isSome=true∧K (.int .i64 n)
 | .ref _ _ n=>y.sl.isSome=true∧K (.int .i64 n)
 | .nil=>y.sl.isSome=true∧K (.int .i64 0)
 | .str s=>y.str=true∧K (.int .i64 s.size)
 | _=>False
theorem Qyq {C:Ctx} {im:Nat→Prop} {pl:Nat→Place} {w:World} {H:Qb} {t ty:TypeId} {x:V} {xc:Value} {K:V→Prop} (ht:(C.ty t).ok=true) (h:lenw (C.ty t) x K) (hx:VR im pl w x xc) (hH:HR im pl w H) :
  ∃ v vc,(Builtin.len_ #[t] ty #[xc]).run C.P w=.ok vc w∧K v∧VR im pl w v vc:=by
 have hok:=C.ok t ht
 cases x with
 | sl n cs =>
  obtain ⟨hs,hK⟩:=h;obtain ⟨e,he⟩:=Option.isSome_iff_exists.1 hs;obtain ⟨a,cap,rfl,_⟩:=hx.slice_none;exact ⟨_,_,by simp [Builtin.len_,run_underlying (hok.slice he),goInt],hK,.int _ _⟩
 | ref r off n =>
  obtain ⟨hs,hK⟩:=h;obtain ⟨e,he⟩:=Option.isSome_iff_exists.1 hs;obtain ⟨a,cap,rfl,_⟩:=hx.ref_none hH;exact ⟨_,_,by simp [Builtin.len_,run_underlying (hok.slice he),goInt],hK,.int _ _⟩
 | nil =>
  obtain ⟨hs,hK⟩:=h;obtain ⟨e,he⟩:=Option.isSome_iff_exists.1 hs;cases hx;exact ⟨_,_,by simp [Builtin.len_,run_underlying (hok.slice he),goInt],hK,.int _ _⟩
 | str s =>
  obtain ⟨hs,hK⟩:=h;cases hx;exact ⟨_,_,by simp [Builtin.len_,run_underlying (hok.string hs),goInt],hK,.int _ _⟩
 | _=>exact h.elim
def Qdm (y:Ty) (d x:V) (H:Qb) (K:V→Qb→Prop):Prop:=match d,Ka y x H with
 | .ref r off n,some (m,news)=>(match Qc H r with
  | some row=>news.length=m*y.size∧news.all Yq=true∧0<y.size∧0<m∧0<n∧off+min m n*y.size≤row.cs.length∧K (.int .i64 (min m n:Nat)) (H.set r (some ⟨row.e,row.s,Qa2 row.cs off (news.take (min m n*y.size))⟩))
  | none=>False)
 | _,_=>False
theorem Qpt {P:Program} (w:World) (dT sT ty elem:TypeId) (z g o dLen dCap:Nat) (a:Addr) (sLen sCap:Nat) (cur:Array Value) (t:TypeId) (cs:List Value)
  (hu:P.underlying dT=some (.slice elem)) (hs:(P.info? elem).map (·.size)=some z)
  (hg:w.heap[g]?=some (.cells cur t (0,0))) (hn:cs.length=Nat.min sLen dLen*z)
  (hsrc:∀ j v,cs[j]?=some v→w.cell? (a.add j)=some v) (hfit:o+cs.length≤cur.size) (h1:∀ v∈cs,v.oneCell'=true) :
  (Builtin.copy_ #[dT,sT] ty #[.slice (some ⟨g,o,none⟩) dLen dCap,.slice (some a) sLen sCap]).run P w =
   .ok (goInt (Nat.min sLen dLen)) (w.setRow g (cur.toList.take o++cs++cur.toList.drop (o+cs.length)).toArray):=by
 have hl:=run_loadCells_list (P:=P) w a cs hsrc
 have hst:=run_storeCells_at P g o t cs 0 cur w hg (by simpa using hfit) h1
 cases hq:P.info? elem with
 | none=>simp [hq] at hs
 | some i =>
  have hi:i.size=z:=by simpa [hq] using hs
  simp [Builtin.copy_,run_underlying hu,Builtin.lenOf,Builtin.firstCells,sizeOf,typeInfo,hq,hi,← hn,hl,hst]
theorem Qv7 {C:Ctx} {im:Nat→Prop} {pl:Nat→Place} {w:World} {H:Qb} {t t' e ty:TypeId} {d x:V} {dc xc:Value} {K:V→Qb→Prop}
  (ht:(C.ty t).ok=true) (hte:(C.ty t).sl=some e) (he:(C.ty e).ok=true) (h:Qdm (C.ty e) d x H K) (hd:VR im pl w d dc) (hx:VR im pl w x xc) (hH:HR im pl w H) :
  ∃ v vc im' pl' w' H',(Builtin.copy_ #[t,t'] ty #[dc,xc]).run C.P w=.ok vc w'∧K v H'∧VR im' pl' w' v vc∧HR im' pl' w' H'∧Ext im pl w im' pl' w':=by
 have hsl:=(C.ok t ht).slice hte
 obtain ⟨i,hi,hiz,his,hib⟩:=(C.ok e he).parts;unfold Qdm at h;split at h
 ·rename_i r off n m news hel;split at h
  ·rename_i row hrow;obtain ⟨hnl,hsc,hz,hm,hn0,hfit,hK⟩:=h
   have hr:=Yd hrow
   obtain ⟨a,c,vs,rfl,hvl,hvv,hone,hwhere⟩:=Qoz hel hnl hx hH hz hsc
   have hqm:min m n*(C.ty e).size≤m*(C.ty e).size:=Nat.mul_le_mul_right _ (Nat.min_le_left _ _)
   have hq0:0<min m n*(C.ty e).size:=Nat.mul_pos (by omega) hz
   have hm0:0<m*(C.ty e).size:=Nat.mul_pos hm hz
   generalize hq:min m n*(C.ty e).size=q at hqm hq0 hfit hK
   have hvl2:(vs.take q).length=q:=by rw [List.length_take];omega
   have hnl2:(news.take q).length=q:=by rw [List.length_take];omega
   have hvv2:∀ j,j<q→VR im pl w (nth (news.take q) j) ((vs.take q).getD j undef):=fun j hj=>by
    rw [Qf1 _ _ _ hj]
    have e1:(vs.take q).getD j undef=vs.getD j undef:=by simp [List.getD,List.getElem?_take,hj]
    rw [e1];exact hvv j
   rcases hwhere with ⟨ad,rfl,hcell⟩ | ⟨_,h0⟩
   ·cases hd with
    | refDead _ _ _ _ _ hp =>
     have:=hH.dead r hp
     rw [hr] at this;cases this
    | refVirt _ hp=>omega
    | refAt _ _ _ b cap c' hp hc h0 =>
     obtain ⟨e0,s,cs,cur,h1,h2,h3,h4,h5,h6⟩:=hH.row r b cap hp;rw [hr] at h1;injection h1 with h1
     injection h1 with h1
     subst h1;simp only at hfit hK
     have hrun:=Qpt (P:=C.P) w t t' ty e (C.ty e).size b off n c' ad m c cur e0 (vs.take q) hsl (by rw [hi];simp [his]) h2 (by rw [hvl2,← hq]) (fun j v hv=>hcell j v (by
      rw [List.getElem?_take] at hv;split at hv
      ·exact hv
      ·cases hv)) (by omega) (fun v hv=>hone v (List.mem_of_mem_take hv))
     generalize hvt:vs.take q=vt at hrun hvl2 hvv2;generalize hnt:news.take q=nt at hK hnl2 hvv2;generalize hnew:(cur.toList.take off++vt++cur.toList.drop (off+vt.length)).toArray=new at hrun
     have hnewsz:new.size=cur.size:=by rw [← hnew];simp;omega
     have hget:∀ j,new.getD j undef=if off≤j∧j<off+vt.length then vt.getD (j - off) undef else cur.getD j undef:=by
      intro j;rw [← hnew];simp only [Array.getD_eq_getD_getElem?,List.getElem?_toArray];rw [List.append_assoc,List.getElem?_append]
      have ht:(cur.toList.take off).length=off:=by simp;omega
      rw [ht];by_cases h1:j<off
      ·rw [if_pos h1,if_neg (by omega)];simp [List.getElem?_take,h1]
      ·rw [if_neg h1,List.getElem?_append];by_cases h2:j - off<vt.length
       ·rw [if_pos h2,if_pos (by omega)];simp [List.getD]
       ·rw [if_neg h2,if_neg (by omega)]
        simp only [List.getElem?_drop];rw [show off+vt.length+(j - off - vt.length)=j by omega];simp
     have hset:=hH.setRow hp hr h2 hnewsz (Qa2 cs off nt) (by rw [Qaq,hnewsz];exact h5) (fun j=>by
      rw [Qkh _ _ _ _ (by omega),hget j,hnl2,hvl2]
      split
      ·exact hvv2 _ (by omega)
      ·exact h6 j)
     exact ⟨_,_,im,pl,_,_,hrun,hK,.int _ _,hset.1,hset.2⟩
   ·omega
  ·exact h.elim
 ·exact h.elim
def aok (ty:TypeId→Ty) (t t':TypeId):Bool:=t'==t||((ty t').ok&&(ty t').sl.isSome)
theorem Qty {P:Program} {w:World} {t t' ty e e':TypeId} {sc xc:Value} (h:P.underlying t=some (.slice e)) (h':P.underlying t'=some (.slice e')):(Builtin.append_ #[t,t'] ty #[sc,xc]).run P w=(Builtin.append_ #[t,t] ty #[sc,xc]).run P w:=by
 cases sc<;>simp [Builtin.append_,run_underlying h,run_underlying h']
def Qr (ty:TypeId→Ty) (b:Builtin) (ats:List TypeId) (args:List V) (H:Qb) (K:V→Qb→Prop):Prop :=
 match b,ats,args with
 | .len,[t],[x]=>(ty t).ok=true∧lenw (ty t) x fun v=>K v H
 | .max,_,[.int k a,.int _ b]=>K (.int k (if b>a then b else a)) H
 | .min,_,[.int k a,.int _ b]=>K (.int k (if b<a then b else a)) H
 | .append,[t,t'],[s,x]=>aok ty t t'=true∧(ty t).ok=true∧match (ty t).sl with
  | some e=>(ty e).ok=true∧Qbb (ty e) e s x H K
  | none=>False
 | .copy,[t,_],[d,x]=>(ty t).ok=true∧match (ty t).sl with
  | some e=>(ty e).ok=true∧Qdm (ty e) d x H K
  | none=>False
 | _,_,_=>False
def Xfa (t:TypeId) (x:V) (H:Qb) (K:V→Qb→Prop):Prop:=kn x=true∧K (.ptr H.length 0) (H++[some ⟨t,(cellsOf x).length,cellsOf x⟩])
def opw (ty:TypeId→Ty) (op:Op) (ts:List V) (H:Qb) (K:V→Qb→Prop):Prop :=
 match op with
 | .move x=>K (ev ts x) H
 | .assign x=>K (ev ts x) H
 | .pick c a b=>Qi0 (ev ts c) (ev ts a) (ev ts b) fun v=>K v H
 | .binOp o t x y _=>(ty t).ok=true∧Qey (ty t) o (ev ts x) (ev ts y) H fun v=>K v H
 | .unOp o _ x=>unw o (ev ts x) fun v=>K v H
 | .convert s d x=>(ty s).ok=true∧(ty d).ok=true∧Qet (ty d) (ev ts x) fun v=>K v H
 | .makeFunc fn first caps=>K (.fn fn (first.toList.map (ev ts)) (caps.toList.map (ev ts))) H
 | .extract x i=>Qs4 (ev ts x) i fun v=>K v H
 | .nilCheck x=>Qoe (ev ts x) fun v=>K v H
 | .load t x=>(ty t).ok=true∧Qc7 (ty t) (ev ts x) H fun v=>K v H
 | .store t x v=>(ty t).ok=true∧Qcj (ty t) (ev ts x) (ev ts v) H fun H'=>K .any H'
 | .box t x=>Xfa t (ev ts x) H K
 | .alloc t=>(ty t).ok=true∧K (.ptr H.length 0) (H++[some ⟨t,(Ja (ty t)).length,Ja (ty t)⟩])
 | .build t parts=>(ty t).ok=true∧Qeu ty t (parts.toList.map fun p=>(p.1,ev ts p.2)) fun v=>K v H
 | .buildSlice t len parts=>(ty t).ok=true∧Quf ty t (Qgo parts.toList) len (parts.toList.map fun p=>(p.1,ev ts p.2)) H K
 | .makeSlice t l c=>(ty t).ok=true∧Qci ty t (ev ts l) (ev ts c) H K
 | .slice t x lo hi mx=>mx.isNone=true∧(ty t).ok=true∧Xy ty (ty t) (ev ts x) (lo.map (ev ts)) (hi.map (ev ts)) H fun v=>K v H
 | .fieldAddr t x f=>(ty t).ok=true∧Qeo (ty t) (ev ts x) f (fun v=>(match (ty t).fs[f]? with | some (_,u)=>(ty u).ok=true∧(ty u).size≠0 | none=>False)∧K v H)
 | .field t x f=>(ty t).ok=true∧Qen ty (ty t) (ev ts x) f fun v=>K v H
 | .indexAddr t x i=>(ty t).ok=true∧(match ev ts x with | .ref r _ _=>(Qc H r).isSome=true | .ptr r _=>(Qc H r).isSome=true | _=>True)∧Ys ty (ty t) (ev ts x) (ev ts i) fun v=>K v H
 | .index t x i=>(ty t).ok=true∧Qaj ty (ty t) (ev ts x) (ev ts i) fun v=>K v H
 | .call c=>match c.callee with
  | .builtin b=>Qr ty b c.argTypes.toList (c.args.toList.map (ev ts)) H K
  | _=>False
 | _=>False
theorem Qkp {im:Nat→Prop} {pl:Nat→Place} {w:World} {ts:List V} {a:Act} (hts:TR im pl w ts a.tmps) (xs:Array Operand) :
  (xs.toList.map (ev ts)).length=(xs.map a.eval).toList.length∧∀ j,VR im pl w (nth (xs.toList.map (ev ts)) j) ((xs.map a.eval).toList.getD j undef):=by
 refine ⟨by simp,fun j=>?_⟩
 rw [Ze];by_cases hj:j<xs.size
 ·simp only [List.getD,List.getElem?_map,Array.toList_map,Array.getElem?_toList,Array.getElem?_eq_getElem hj,Option.map_some,Option.getD_some];exact Qkx hts _
 ·simp [List.getD,Array.getElem?_eq_none (Nat.le_of_not_lt hj)];exact .any _
theorem OpRes.of {P:Program} {im:Nat→Prop} {pl:Nat→Place} {w:World} {H:Qb} {K:V→Qb→Prop} {s:Sem Value} (hH:HR im pl w H) (h:∃ v vc,s.run P w=.ok vc w∧K v H∧VR im pl w v vc)
  {run:Result Next} (hr:run=(s.run P w).andThen fun v w=>.ok (.value v) w):OpRes P im pl w run K:=by
 obtain ⟨v,vc,h1,h2,h3⟩:=h;exact .same (by rw [hr,h1];rfl) h2 h3 hH
theorem OpRes.of' {P:Program} {im:Nat→Prop} {pl:Nat→Place} {w:World} {K:V→Qb→Prop} {s:Sem Value} (h:∃ v vc im' pl' w' H',s.run P w=.ok vc w'∧K v H'∧VR im' pl' w' v vc∧HR im' pl' w' H'∧Ext im pl w im' pl' w')
  {run:Result Next} (hr:run=(s.run P w).andThen fun v w=>.ok (.value v) w):OpRes P im pl w run K:=by
 obtain ⟨v,vc,im',pl',w',H',h1,h2,h3,h4,h5⟩:=h;exact ⟨v,vc,im',pl',w',H',.inl (by rw [hr,h1];rfl),h2,h3,h4,h5⟩
theorem Qpb {C:Ctx} {im:Nat→Prop} {pl:Nat→Place} {w:World} {H:Qb} {b:Builtin} {ats:List TypeId} {args:List V} {vargs:List Value} {ty:TypeId} {cs:Array Bool} {K:V→Qb→Prop} (h:Qr C.ty b ats args H K)
  (hl:args.length=vargs.length) (hv:∀ j,VR im pl w (nth args j) (vargs.getD j undef)) (hH:HR im pl w H):OpRes C.P im pl w ((builtin b ats.toArray ty cs vargs.toArray).run C.P w) K:=by
 unfold Qr at h;split at h
 ·rename_i t x;obtain ⟨c,rfl⟩:∃ c,vargs=[c]:=by
   match vargs,hl with
   | [c],_=>exact ⟨c,rfl⟩
  obtain ⟨ht,h⟩:=h;exact .of (s:=Builtin.len_ #[t] ty #[c]) hH (Qyq (K:=fun v=>K v H) ht h (by simpa [nth] using hv 0) hH) (by simp [builtin])
 ·rename_i _ k x k' y;obtain ⟨c,d,rfl⟩:∃ c d,vargs=[c,d]:=by
   match vargs,hl with
   | [c,d],_=>exact ⟨c,d,rfl⟩
  have h0:=hv 0
  have h1:=hv 1
  simp only [nth,List.getD_cons_zero,List.getD_cons_succ] at h0 h1;cases h0;cases h1;exact .same (v:=.int k (if y>x then y else x)) (vc:=.int k (if y>x then y else x)) (by simp [builtin,Builtin.max_,Builtin.max2]) h (.int _ _) hH
 ·rename_i _ k x k' y;obtain ⟨c,d,rfl⟩:∃ c d,vargs=[c,d]:=by
   match vargs,hl with
   | [c,d],_=>exact ⟨c,d,rfl⟩
  have h0:=hv 0
  have h1:=hv 1
  simp only [nth,List.getD_cons_zero,List.getD_cons_succ] at h0 h1;cases h0;cases h1;exact .same (v:=.int k (if y<x then y else x)) (vc:=.int k (if y<x then y else x)) (by simp [builtin,Builtin.min_,Builtin.min2]) h (.int _ _) hH
 ·rename_i t t' s x;obtain ⟨c,d,rfl⟩:∃ c d,vargs=[c,d]:=by
   match vargs,hl with
   | [c,d],_=>exact ⟨c,d,rfl⟩
  have h0:=hv 0
  have h1:=hv 1
  simp only [nth,List.getD_cons_zero,List.getD_cons_succ] at h0 h1;obtain ⟨ha,ht,h⟩:=h;cases hsl:(C.ty t).sl with
  | none=>rw [hsl] at h;exact h.elim
  | some e =>
   rw [hsl] at h
   have hu:=(C.ok t ht).slice hsl
   have hrun:∀ w,(Builtin.append_ #[t,t'] ty #[c,d]).run C.P w=(Builtin.append_ #[t,t] ty #[c,d]).run C.P w:=fun w=>by
    simp only [aok,Bool.or_eq_true,beq_iff_eq,Bool.and_eq_true] at ha;rcases ha with rfl | ⟨h2,h3⟩
    ·rfl
    ·obtain ⟨e',he'⟩:=Option.isSome_iff_exists.1 h3;exact Qty hu ((C.ok t' h2).slice he')
   have hs:=Qz0 (ty:=ty) ht hsl h.1 h.2 h0 h1 hH
   rw [← hrun] at hs;exact .of' (s:=Builtin.append_ #[t,t'] ty #[c,d]) hs (by simp [builtin])
 ·rename_i t t' s x;obtain ⟨c,d,rfl⟩:∃ c d,vargs=[c,d]:=by
   match vargs,hl with
   | [c,d],_=>exact ⟨c,d,rfl⟩
  have h0:=hv 0
  have h1:=hv 1
  simp only [nth,List.getD_cons_zero,List.getD_cons_succ] at h0 h1;obtain ⟨ht,h⟩:=h;cases hsl:(C.ty t).sl with
  | none=>rw [hsl] at h;exact h.elim
  | some e =>
   rw [hsl] at h;exact .of' (s:=Builtin.copy_ #[t,t'] ty #[c,d]) (Qv7 ht hsl h.1 h.2 h0 h1 hH) (by simp [builtin])
 ·exact h.elim
theorem Qp7 {α β γ:Type} (r:Result α) (f:α→World→Result β) (g:β→World→Result γ):(r.andThen f).andThen g=r.andThen fun a w=>(f a w).andThen g:=by cases r<;>rfl
theorem Qyk {C:Ctx} {im:Nat→Prop} {pl:Nat→Place} {w:World} {H:Qb} {x:V} {xc:Value} {o:Oper} {ρ:Operand→Value} {ox:Operand} {K:V→Qb→Prop} (ho:o.op=.nilCheck ox) (hxc:ρ ox=xc)
  (h:Qoe x fun v=>K v H) (hx:VR im pl w x xc) (hH:HR im pl w H):OpRes C.P im pl w ((execOp ρ o).run C.P w) K:=by
 unfold Qoe at h;split at h
 ·refine .same (vc:=xc) ?_ h hx hH;cases hx<;>simp [execOp,ho,hxc]
 ·refine .same (vc:=xc) ?_ h hx hH;cases hx<;>simp [execOp,ho,hxc]
 ·refine .same (vc:=xc) ?_ h hx hH;cases hx<;>simp [execOp,ho,hxc]
 ·refine .same (vc:=xc) ?_ h hx hH;cases hx<;>simp [execOp,ho,hxc]
 ·exact h.elim
set_option maxHeartbeats 2000000 in
theorem Xdi {C:Ctx} {im:Nat→Prop} {pl:Nat→Place} {w:World} {H:Qb} {ts:List V} {a:Act} {o:Oper} {K:V→Qb→Prop} (h:opw C.ty o.op ts H K) (hts:TR im pl w ts a.tmps) (hH:HR im pl w H) :
  (∀ c,o.op≠.defer c)∧OpRes C.P im pl w ((execOp a.eval o).run C.P w) K:=by
 have E:=fun x=>Qkx hts x
 cases ho:o.op with
 | move x=>rw [ho] at h;exact ⟨fun c=>by simp,.same (by simp [execOp,ho]) h (E x) hH⟩
 | assign x=>rw [ho] at h;exact ⟨fun c=>by simp,.same (by simp [execOp,ho]) h (E x) hH⟩
 | pick c x y =>
  rw [ho] at h;obtain ⟨v,vc,h1,h2,h3⟩:=Quu (P:=C.P) (K:=fun v=>K v H) h (E c) (E x) (E y)
  exact ⟨fun c=>by simp,.same (by simpa [execOp,ho] using h1) h2 h3 hH⟩
 | binOp op t x y yt =>
  rw [ho] at h;exact ⟨fun c=>by simp,.of (s:=do eqGuard op t x y (a.eval x) (a.eval y);binOp op t (a.eval x) (a.eval y)) hH (Qzy (K:=fun v=>K v H) h.1 h.2 (E x) (E y) hH) (by simp [execOp,ho,Qp7])⟩
 | unOp op t x =>
  rw [ho] at h;exact ⟨fun c=>by simp,.of (s:=Op.unary op (a.eval x)) hH (Xb1 (P:=C.P) (K:=fun v=>K v H) h (E x)) (by simp [execOp,ho])⟩
 | convert s d x =>
  rw [ho] at h;exact ⟨fun c=>by simp,.of (s:=convert s d (a.eval x)) hH (Qv8 (K:=fun v=>K v H) h.1 h.2.1 h.2.2 (E x)) (by simp [execOp,ho])⟩
 | makeFunc fn first caps =>
  rw [ho] at h
  have h1:=Qkp hts first
  have h2:=Qkp hts caps
  refine ⟨fun c=>by simp,.same (vc:=.func fn (first.map a.eval) (caps.map a.eval)) (by simp [execOp,ho,Instr.makeFunc]) h ?_ hH⟩
  have:=VR.fn (im:=im) (pl:=pl) (w:=w) fn _ _ _ _ h1.1 h1.2 h2.1 h2.2
  rw [Array.toArray_toList,Array.toArray_toList] at this;exact this
 | extract x i =>
  rw [ho] at h;exact ⟨fun c=>by simp,.of (s:=Instr.extract (a.eval x) i) hH (Qy6 (P:=C.P) (K:=fun v=>K v H) h (E x)) (by simp [execOp,ho])⟩
 | nilCheck x =>
  rw [ho] at h;exact ⟨fun c=>by simp,Qyk ho rfl h (E x) hH⟩
 | load t x =>
  rw [ho] at h;exact ⟨fun c=>by simp,.of (s:=Instr.loadAt t (a.eval x)) hH (Qml h.1 h.2 (E x) hH) (by simp [execOp,ho])⟩
 | store t x v =>
  rw [ho] at h;obtain ⟨w',H',h1,h2,h3,h4⟩:=Qr2 h.1 h.2 (E x) (E v) hH;exact ⟨fun c=>by simp,⟨.any,undef,im,pl,w',H',.inr ⟨by simp [execOp,ho,h1],rfl⟩,h2,.any _,h3,h4⟩⟩
 | box t x =>
  rw [ho] at h;obtain ⟨hk,hK⟩:=h;obtain ⟨c1,c2⟩:=(E x).cells' hk;refine ⟨fun c=>by simp,Qkk (C:=C) t (cellsOf (ev ts x)) (a.eval x) (by simpa using c1.symm) (fun j=>by have:=c2 j;simpa [Array.getD_eq_getD_getElem?,List.getD] using this) hH hK ?_⟩
  simp only [execOp,ho,Instr.box,Sem.run_bind,Qd7,Sem.run_pure,Result.andThen_ok]
 | alloc t =>
  rw [ho] at h
  have hz:=Qqb (im:=im) (pl:=pl) (w:=w) (C.ok t h.1)
  refine ⟨fun c=>by simp,Qkk (C:=C) t (Ja (C.ty t)) (C.ty t).z hz.1 hz.2 hH h.2 ?_⟩
  simp only [execOp,ho,Instr.alloc,Sem.run_bind,(C.ok t h.1).zero,Qd7,Sem.run_pure,Result.andThen_ok]
 | build t parts =>
  rw [ho] at h;exact ⟨fun c=>by simp,.of (s:=Instr.build t (parts.map fun (i,x)=>(i,a.eval x))) hH (Qtq (K:=fun v=>K v H) h.1 h.2 hts) (by simp [execOp,ho])⟩
 | buildSlice t len parts =>
  rw [ho] at h
  have h2:=h.2
  cases hb:Qgo parts.toList with
  | true =>
   rw [hb] at h2;exact ⟨fun c=>by simp,.of' (s:=Instr.buildSlice t len (parts.map fun (i,x)=>(i,a.eval x))) (Qyo h.1 h2 hts hH) (by simp [execOp,ho])⟩
  | false =>
   rw [hb] at h2;exact ⟨fun c=>by simp,.of' (s:=Instr.buildSlice t len (parts.map fun (i,x)=>(i,a.eval x))) (Qpc h.1 h2 hts hH) (by simp [execOp,ho])⟩
 | makeSlice t l c =>
  rw [ho] at h;exact ⟨fun c=>by simp,.of' (s:=Instr.makeSlice t (a.eval l) (a.eval c)) (Qve h.1 h.2 (E l) (E c) hH) (by simp [execOp,ho])⟩
 | slice t x lo hi mx =>
  rw [ho] at h;obtain ⟨hm,ht,h⟩:=h
  have hm':mx=none:=by simpa using hm
  subst hm';refine ⟨fun c=>by simp,.of (s:=Instr.sliceAt t (a.eval x) (lo.map a.eval) (hi.map a.eval) none) hH (Qr4 (K:=fun v=>K v H) ht h (E x) ?_ ?_ ?_ ?_ hH) (by simp [execOp,ho])⟩
  ·intro v hv;cases lo with
   | none=>cases hv
   | some l=>simp at hv;subst hv;exact ⟨_,rfl,E l⟩
  ·intro hv;cases lo with
   | none=>rfl
   | some l=>cases hv
  ·intro v hv;cases hi with
   | none=>cases hv
   | some l=>simp at hv;subst hv;exact ⟨_,rfl,E l⟩
  ·intro hv;cases hi with
   | none=>rfl
   | some l=>cases hv
 | fieldAddr t x f =>
  rw [ho] at h;obtain ⟨ht,h⟩:=h;refine ⟨fun c=>by simp, ?_⟩
  have hx:=E x
  simp only [Qeo] at h;split at h
  ·rename_i o u r off hf he;rw [hf] at h;obtain ⟨⟨hu,hne⟩,hK⟩:=h;obtain ⟨fs,fd,hs,hfd,rfl,rfl⟩:=(C.ok t ht).field hf;rw [he] at hx
   have run:∀ ad:Addr,a.eval x=.pointer (some ad)→(execOp a.eval o).run C.P w=.ok (.value (.pointer (some (ad.add fd.offset)))) w:=by
    intro ad hx;simp [execOp,ho,hx,Instr.fieldAt,run_underlying hs,hfd,Instr.sureAddr,fieldPlace,(C.ok _ hu).sizeOf,hne]
   cases hq:a.eval x with
   | pointer p =>
    rw [hq] at hx;cases hx with
    | ptrAt _ _ b cap hp=>exact .same (run _ hq) hK (by rw [Jp];exact .ptrAt r _ b cap hp) hH
    | ptrDead _ _ ad hp=>exact .same (run _ hq) hK (.ptrDead r _ _ hp) hH
   | _=>rw [hq] at hx;cases hx
  ·rename_i o u cs off hf he;rw [hf] at h;obtain ⟨⟨hu,hne⟩,hK⟩:=h;obtain ⟨fs,fd,hs,hfd,rfl,rfl⟩:=(C.ok t ht).field hf;rw [he] at hx
   have run:∀ ad:Addr,a.eval x=.pointer (some ad)→(execOp a.eval o).run C.P w=.ok (.value (.pointer (some (ad.add fd.offset)))) w:=by
    intro ad hx;simp [execOp,ho,hx,Instr.fieldAt,run_underlying hs,hfd,Instr.sureAddr,fieldPlace,(C.ok _ hu).sizeOf,hne]
   cases hq:a.eval x with
   | pointer p =>
    rw [hq] at hx;cases hx with
    | rp _ _ ad vs hi hc hr=>exact .same (run _ hq) hK (by rw [add_add];exact .rp cs _ ad vs hi hc hr) hH
   | _=>rw [hq] at hx;cases hx
  ·exact h.elim
 | field t x f =>
  rw [ho] at h;exact ⟨fun c=>by simp,.of (s:=Instr.field t (a.eval x) f) hH (Qs3 (K:=fun v=>K v H) h.1 h.2 (E x)) (by simp [execOp,ho])⟩
 | indexAddr t x i =>
  rw [ho] at h;exact ⟨fun c=>by simp,.of (s:=Instr.indexAt t (a.eval x) (a.eval i)) hH (Qlw (K:=fun v=>K v H) h.1 h.2.2 (E x) (E i) hH (fun r off n e=>by have:=h.2.1;rw [e] at this;exact this) (fun r off e=>by have:=h.2.1;rw [e] at this;exact this)) (by simp [execOp,ho])⟩
 | index t x i =>
  rw [ho] at h;exact ⟨fun c=>by simp,.of (s:=Instr.index t (a.eval x) (a.eval i)) hH (Qsw (K:=fun v=>K v H) h.1 h.2 (E x) (E i)) (by simp [execOp,ho])⟩
 | call c =>
  rw [ho] at h;refine ⟨fun c=>by simp, ?_⟩
  simp only [opw] at h;split at h
  ·rename_i b hb
   have h1:=Qkp hts c.args
   have:=Qpb (ty:=o.type) (cs:=c.args.map fun | .const _=>true | _=>false) h h1.1 h1.2 hH
   rw [Array.toArray_toList,Array.toArray_toList] at this;simp only [execOp,ho,resolve,hb,Sem.run_bind,Sem.run_pure,Result.andThen_ok,invoke];exact this
  ·exact h.elim
 | _=>rw [ho] at h;exact h.elim
abbrev FW (ro:Option Nat):Fence:={ fn:=fun _=>True,depth:=none,alive:=false,round:=ro }
structure DefOK (pl:Nat→Place) (w:World) (ds:List Deferred):Prop where
 nodup:ds.Pairwise (fun d d'=>d.target≠d'.target)
 each:∀ d∈ds,∃ r,d.target=.collected r∧w.heap[r]?=some (.deferred (some []))∧∀ q cap,pl q≠.at r cap
theorem DefOK.nil (pl:Nat→Place) (w:World):DefOK pl w []:=⟨.nil,fun d hd=>by cases hd⟩
theorem DefOK.mono {im im':Nat→Prop} {pl pl':Nat→Place} {w w':World} {ds:List Deferred} (h:DefOK pl w ds) (hE:Ext im pl w im' pl' w'):DefOK pl' w' ds:=by
 refine ⟨h.nodup,fun d hd=>?_⟩
 obtain ⟨r,h1,h2,h3⟩:=h.each d hd
 have hlt:r<w.heap.size:=(Array.getElem?_eq_some_iff.1 h2).1
 refine ⟨r,h1,by rw [hE.frame r hlt h3];exact h2,fun q cap hq=>?_⟩
 rcases hE.pln q r cap hq with ⟨r',cap',h4⟩ | h4
 ·exact h3 r' cap' h4
 ·omega
structure Rel (im:Nat→Prop) (pl:Nat→Place) (w:World) (ts:List V) (H:Qb) (a:Act):Prop where
 tr:TR im pl w ts a.tmps
 hr:HR im pl w H
 df:DefOK pl w a.defers
theorem TR.mono {im im':Nat→Prop} {pl pl':Nat→Place} {w w':World} {ts:List V} {tmps:Array Value} (h:TR im pl w ts tmps) (hE:Ext im pl w im' pl' w') (hd:Xlb im pl):TR im' pl' w' ts tmps :=
 ⟨h.1,fun i=>(h.2 i).mono hE hd⟩
def Yo (ts:List V) (d:Option Tmp) (v:V):List V :=
 match d with
 | some i=>upd ts i v
 | none=>ts
theorem TR.put {im:Nat→Prop} {pl:Nat→Place} {w:World} {ts:List V} {a:Act} {v:V} {vc:Value} (h:TR im pl w ts a.tmps) (hv:VR im pl w v vc) (d:Option Tmp):TR im pl w (Yo ts d v) (a.put d vc).tmps:=by
 cases d with
 | none=>exact h
 | some i =>
  refine ⟨by simp [Yo,Act.put,Kc,h.1],fun j=>?_⟩
  simp only [Yo,Act.put];rw [Qa4];by_cases hj:j=i∧i<ts.length
  ·obtain ⟨rfl,hlt⟩:=hj;rw [if_pos ⟨rfl,hlt⟩]
   have:j<a.tmps.size:=by rw [← h.1];exact hlt
   simpa [Array.getD_eq_getD_getElem?,Array.getElem?_setIfInBounds,this] using hv
  ·rw [if_neg hj]
   have h2:=h.2 j
   by_cases hji:j=i
   ·subst hji
    have hlt:¬ j<ts.length:=fun h=>hj ⟨rfl,h⟩
    rw [Qba _ _ (by omega)];exact .any _
   ·simpa [Array.getD_eq_getD_getElem?,Array.getElem?_setIfInBounds,Ne.symm hji] using h2
theorem Yl (a:Act) (d:Option Tmp) (v:Value):(a.put d v).defers=a.defers:=by cases d<;>rfl
theorem Rel.put {im im':Nat→Prop} {pl pl':Nat→Place} {w w':World} {ts:List V} {H H':Qb} {a:Act} {v:V} {vc:Value} (h:Rel im pl w ts H a) (hE:Ext im pl w im' pl' w') (hH:HR im' pl' w' H') (hv:VR im' pl' w' v vc) (d:Option Tmp) :
  Rel im' pl' w' (Yo ts d v) H' (a.put d vc) :=
 ⟨(h.tr.mono hE h.hr.apart).put hv d,hH,by rw [Yl];exact h.df.mono hE⟩
def Marks (w:World) (ds ds':List Deferred):Prop:=∃ nm,ds'=nm++ds∧∀ d∈nm,∃ r,d.target=.collected r∧w.heap.size≤r
theorem Marks.refl (w:World) (ds:List Deferred):Marks w ds ds:=⟨[],rfl,fun d hd=>by cases hd⟩
theorem Marks.trans {w w1:World} {ds ds1 ds2:List Deferred} (h:Marks w ds ds1) (hs:w.heap.size≤w1.heap.size) (k:Marks w1 ds1 ds2):Marks w ds ds2:=by
 obtain ⟨n1,rfl,h1⟩:=h;obtain ⟨n2,rfl,h2⟩:=k;refine ⟨n2++n1,by simp,fun d hd=>?_⟩
 rcases List.mem_append.1 hd with h3 | h3
 ·obtain ⟨r,h4,h5⟩:=h2 d h3;exact ⟨r,h4,by omega⟩
 ·exact h1 d h3
def Post (im:Nat→Prop) (pl:Nat→Place) (w:World) (ds:List Deferred) (Q:Exit→List V→Qb→Prop):Exit→Act→World→Prop
 | .panic _,_,_=>False
 | .outgrown,_,_=>False
 | e,a',w'=>∃ ts' H' im' pl',Q e ts' H'∧Rel im' pl' w' ts' H' a'∧Ext im pl w im' pl' w'∧Marks w ds a'.defers
theorem Post.mono {im:Nat→Prop} {pl:Nat→Place} {w:World} {ds:List Deferred} {Q Q':Exit→List V→Qb→Prop} {e:Exit} {a:Act} {w':World} (h:Post im pl w ds Q e a w') (hq:∀ e ts H,Q e ts H→Q' e ts H):Post im pl w ds Q' e a w':=by
 cases e with
 | panic _=>exact h
 | outgrown=>exact h
 | _=>obtain ⟨ts,H,im',pl',h1,h2⟩:=h;exact ⟨ts,H,im',pl',hq _ _ _ h1,h2⟩
theorem Post.from {im im1:Nat→Prop} {pl pl1:Nat→Place} {w w1:World} {ds ds1:List Deferred} {Q:Exit→List V→Qb→Prop} {e:Exit} {a:Act} {w':World} (hE:Ext im pl w im1 pl1 w1) (hM:Marks w ds ds1) (h:Post im1 pl1 w1 ds1 Q e a w'):Post im pl w ds Q e a w':=by
 cases e with
 | panic _=>exact h
 | outgrown=>exact h
 | _=>obtain ⟨ts,H,im',pl',h1,h2,h3,h4⟩:=h;exact ⟨ts,H,im',pl',h1,h2,hE.trans h3,hM.trans hE.size h4⟩
def T (C:Ctx) (ro:Option Nat) (c:Code) (Q:Exit→List V→Qb→Prop) (ts:List V) (H:Qb):Prop :=
 ∀ im pl w a,Rel im pl w ts H a→c.wpIn (FW ro) 0 C.P (Post im pl w a.defers Q) a w
theorem T.mono {C:Ctx} {ro:Option Nat} {c:Code} {Q Q':Exit→List V→Qb→Prop} {ts:List V} {H:Qb} (h:T C ro c Q ts H) (hq:∀ e ts H,Q e ts H→Q' e ts H):T C ro c Q' ts H :=
 fun im pl w a hr=>wpIn_mono (h im pl w a hr) fun e a w hp=>hp.mono hq
def Xo3 (im:Nat→Prop) (pl:Nat→Place) (w:World) (K:V→Qb→Prop):Ending→World→Prop
 | .returned vc,w'=>∃ v H' im' pl',K v H'∧VR im' pl' w' v vc∧HR im' pl' w' H'∧Ext im pl w im' pl' w'
 | _,_=>False
def Xbw (P:Program) (f:FuncId):Prop:=∃ fn,P.funcs[f]?=some fn∧(fn.name == "runtime.NumGoroutine")=false∧fn.body.isNone=false
def Fc (C:Ctx) (f:FuncId) (args:List V) (H:Qb) (K:V→Qb→Prop):Prop :=
 Xbw C.P f∧∀ im pl w (vs:List Value),args.length=vs.length→(∀ j,VR im pl w (nth args j) (vs.getD j undef))→HR im pl w H→Calls C.P f vs.toArray w (Xo3 im pl w K)
theorem Fc.mono {C:Ctx} {f:FuncId} {args:List V} {H:Qb} {K K':V→Qb→Prop} (h:Fc C f args H K) (hK:∀ v H,K v H→K' v H):Fc C f args H K':=by
 refine ⟨h.1,fun im pl w vs h1 h2 h3=>(callsIn_wide (n:=0)).1 ((callsIn_wide.2 (h.2 im pl w vs h1 h2 h3)).mono fun e w' hp=>?_)⟩
 cases e with
 | returned v=>obtain ⟨v,H',im',pl',k1,k2⟩:=hp;exact ⟨v,H',im',pl',hK _ _ k1,k2⟩
 | panicked _=>exact hp
 | outgrown=>exact hp
abbrev CW:=V→List V→Qb→(V→Qb→Prop)→Prop
def cwF (C:Ctx):CW:=fun fv args H K =>
 match fv with
 | .fn (.func g) first caps=>Fc C g (first++args++caps) H K
 | _=>False
def opc (ty:TypeId→Ty) (cw:CW) (op:Op) (ts:List V) (H:Qb) (K:V→Qb→Prop):Prop :=
 match op with
 | .call c=>match c.callee with
  | .value f=>cw (ev ts f) (c.args.toList.map (ev ts)) H K
  | .builtin b=>Qr ty b c.argTypes.toList (c.args.toList.map (ev ts)) H K
  | _=>False
 | op=>opw ty op ts H K
def Qiu (C:Ctx) (ro:Option Nat) (cw:CW):Prop :=
 ∀ (o:Oper) (c:Call) (f:Operand),o.op=.call c→c.callee=.value f→∀ im pl w (a:Act) (fv:V) (args:List V) (H:Qb) (K:V→Qb→Prop) (next:Act→World→Prop) (Q:Exit→Act→World→Prop),
  cw fv args H K→VR im pl w fv (a.eval f)→args.length=c.args.size→(∀ j,VR im pl w (nth args j) ((c.args.map a.eval).toList.getD j undef))→HR im pl w H →
  (∀ v vc H' im' pl' w',K v H'→VR im' pl' w' v vc→HR im' pl' w' H'→Ext im pl w im' pl' w'→next (a.put o.dst vc) w')→o.wpIn (FW ro) 0 C.P a w next Q
theorem Qa6 (C:Ctx) (ro:Option Nat):Qiu C ro (cwF C):=by
 intro o c f ho hc im pl w a fv args H K next Q h hf hl hv hH hK;refine ⟨fun _ _=>trivial, ?_⟩
 rw [Oper.semAt_eq ro a.eval o (fun c'=>by rw [ho];simp)]
 cases fv with
 | fn g first caps =>
  cases g with
  | func g =>
   obtain ⟨⟨fn,h1,h2,h3⟩,hcall⟩:=h;cases hfe:a.eval f with
   | func g' us vs =>
    rw [hfe] at hf;generalize hus:us=us' at hf;generalize hvs:vs=vs' at hf;cases hf with
    | fn _ _ _ us vs hl1 hr1 hl2 hr2 =>
     have hrun:(execOp a.eval o).run C.P w=.ok (.enter g (us++(c.args.map a.eval).toList++vs).toArray) w:=by
      simp only [execOp,ho,resolve,hc,Sem.run_bind,Sem.run_pure,Result.andThen_ok,hfe,Deferred.ofValue,hus,hvs,invoke,callFunc]
      have h2':¬ fn.name = "runtime.NumGoroutine" := by simpa using h2
      have h3':¬ fn.body=none:=by intro e;rw [e] at h3;cases h3
      simp [Go.program,Sem.run,h1,h2',h3']
     rw [hrun,Oper.uponIn_enter];refine ⟨(fun h=>by cases h), ?_⟩
     have hc2:=hcall im pl w (us++(c.args.map a.eval).toList++vs) (by simp [hl1,hl2,hl]) (fun j=>?_) hH
     ·refine CallsIn.mono (F:=FW ro) (show CallsIn Fence.wide _ C.P g _ w _ from callsIn_wide.2 hc2) fun e w' hp=>?_
      cases e with
      | returned vc=>obtain ⟨v,H',im',pl',k1,k2,k3,k4⟩:=hp;exact hK v vc H' im' pl' w' k1 k2 k3 k4
      | panicked _=>exact hp.elim
      | outgrown=>exact hp.elim
     ·rw [Zy,Zy];simp only [List.getD,List.getElem?_append,List.length_append]
      have e1:first.length=us.length:=hl1
      have e2:args.length=(c.args.map a.eval).toList.length:=by simp [hl]
      rw [e1,e2];split
      ·split
       ·have:=hr1 j;simpa [List.getD] using this
       ·have:=hv (j - us.length);simpa [List.getD] using this
      ·have:=hr2 (j - (us.length+(c.args.map a.eval).toList.length));simpa [List.getD,Nat.add_comm,Nat.sub_sub] using this
   | _=>rw [hfe] at hf;cases hf
  | _=>exact h.elim
 | _=>exact h.elim
def Qcs (ops:Array Oper) (g:Option (Nat × Bool)) (ts:List V) (yes no:Prop):Prop :=
 match g with
 | none=>yes
 | some (j,want)=>match (ops[j]?).bind (·.dst) with
  | some d=>match nth ts d with
   | .bool b=>(b=want→yes)∧(b≠want→no)
   | .tup _=>no
   | _=>False
  | none=>False
def Qdh (ops:Array Oper) (g:Option (Nat × Bool)) (ts:List V) (Y N:List V→Prop):Prop :=
 match g with
 | none=>Y ts
 | some (j,want)=>match (ops[j]?).bind (·.dst) with
  | some d=>match nth ts d with
   | .bool b=>(b=true→(match want with | true=>Y (upd ts d (.bool true)) | false=>N (upd ts d (.bool true))))∧(b=false→(match want with | true=>N (upd ts d (.bool false)) | false=>Y (upd ts d (.bool false))))
   | .tup _=>N ts
   | _=>False
  | none=>False
theorem Xf0 {l:List V} {i:Nat} {v:V} (h:nth l i=v) (hv:v≠.any):upd l i v=l:=by
 induction l generalizing i with
 | nil=>rfl
 | cons a l ih =>
  cases i with
  | zero=>simp only [nth] at h;subst h;rfl
  | succ i=>simp only [nth] at h;simp only [upd];rw [ih h]
theorem Qel {ops:Array Oper} {g:Option (Nat × Bool)} {ts:List V} {Y N:List V→Prop} (h:Qdh ops g ts Y N):Qcs ops g ts (Y ts) (N ts):=by
 revert h
 unfold Qdh Qcs;split
 ·exact id
 ·rename_i j want;split
  ·split
   ·rename_i b hb
    have e:∀ c,b=c→upd ts _ (.bool c)=ts:=fun c hc=>Xf0 (by rw [hb,hc]) (by simp)
    intro h;cases b with
    | true =>
     have h:=h.1 rfl
     rw [e true rfl] at h;cases want with
     | true=>exact ⟨fun _=>h,fun h'=>(h' rfl).elim⟩
     | false=>exact ⟨fun h'=>(by cases h'),fun _=>h⟩
    | false =>
     have h:=h.2 rfl
     rw [e false rfl] at h;cases want with
     | true=>exact ⟨fun h'=>(by cases h'),fun _=>h⟩
     | false=>exact ⟨fun _=>h,fun h'=>(h' rfl).elim⟩
   ·exact id
   ·exact id
  ·exact id
def Qcg (ty:TypeId→Ty) (cw:CW) (ops:Array Oper) (K:List V→Qb→Prop):List Oper→List V→Qb→Prop
 | [],ts,H=>K ts H
 | o::rest,ts,H=>Qdh ops o.guard ts (fun ts=>opc ty cw o.op ts H fun v H'=>Qcg ty cw ops K rest (Yo ts o.dst v) H') (fun ts=>Qcg ty cw ops K rest (Yo ts o.dst (.tup [])) H)
theorem Qbv {C:Ctx} {ro:Option Nat} {cw:CW} (hcw:Qiu C ro cw) {im:Nat→Prop} {pl:Nat→Place} {w:World} {H:Qb} {ts:List V} {a:Act} {o:Oper} {K:V→Qb→Prop} {next:Act→World→Prop} {Q:Exit→Act→World→Prop}
  (h:opc C.ty cw o.op ts H K) (hts:TR im pl w ts a.tmps) (hH:HR im pl w H) (hK:∀ v vc H' im' pl' w',K v H'→VR im' pl' w' v vc→HR im' pl' w' H'→Ext im pl w im' pl' w'→next (a.put o.dst vc) w') :
  o.wpIn (FW ro) 0 C.P a w next Q:=by
 have fromw:opw C.ty o.op ts H K→o.wpIn (FW ro) 0 C.P a w next Q:=by
  intro h;obtain ⟨hd,v,vc,im',pl',w',H',hrun,k1,k2,k3,k4⟩:=Xdi h hts hH;refine ⟨fun _ _=>trivial, ?_⟩
  rw [Oper.semAt_eq ro a.eval o hd];rcases hrun with hrun | ⟨hrun,rfl⟩
  ·rw [hrun];exact hK v vc H' im' pl' w' k1 k2 k3 k4
  ·rw [hrun];exact hK .any undef H' im' pl' w' k1 (.any _) k3 k4
 cases ho:o.op with
 | call c =>
  rw [ho] at h;simp only [opc] at h;cases hc:c.callee with
  | value f =>
   rw [hc] at h
   have h1:=Qkp hts c.args
   exact hcw o c f ho hc im pl w a _ _ H K next Q h (Qkx hts f) (by simp) h1.2 hH hK
  | builtin b =>
   rw [hc] at h;exact fromw (by rw [ho];simp only [opw,hc];exact h)
  | invoke _ _=>rw [hc] at h;exact h.elim
 | _=>rw [ho] at h;exact fromw (by rw [ho];exact h)
theorem Qc9 {ops:Array Oper} {o:Oper} {ts:List V} {im:Nat→Prop} {pl:Nat→Place} {w:World} {a:Act} {yes no:Prop} (h:Qcs ops o.guard ts yes no) (hts:TR im pl w ts a.tmps) :
  (Region.wanted o (yielded ops a.tmps)=true∧yes)∨(Region.wanted o (yielded ops a.tmps)=false∧no):=by
 cases hg:o.guard with
 | none=>rw [hg] at h;exact .inl ⟨by simp [Region.wanted,hg],h⟩
 | some g =>
  obtain ⟨j,want⟩:=g;rw [hg] at h;simp only [Qcs] at h;cases hd:(ops[j]?).bind (·.dst) with
  | none=>rw [hd] at h;exact h.elim
  | some d =>
   rw [hd] at h;simp only at h;split at h
   ·rename_i b hb
    have hv:=hts.2 d
    rw [hb] at hv
    have hy:yielded ops a.tmps j=some b:=by
     unfold yielded;rw [hd];simp only [Option.bind_some];cases hq:a.tmps[d]? with
     | none =>
      rw [Array.getD_eq_getD_getElem?,hq] at hv;simp only [Option.getD_none,undef] at hv;generalize hu:(Value.tuple #[])=u at hv;cases hv;cases hu
     | some x =>
      rw [Array.getD_eq_getD_getElem?,hq] at hv;simp only [Option.getD_some] at hv;cases hv
      rfl
    by_cases hbw:b=want
    ·exact .inl ⟨by simp [Region.wanted,hg,hy,hbw],h.1 hbw⟩
    ·exact .inr ⟨by simp [Region.wanted,hg,hy,hbw],h.2 hbw⟩
   ·rename_i vs hb
    have hv:=hts.2 d
    rw [hb] at hv
    have hy:yielded ops a.tmps j=none:=by
     unfold yielded;rw [hd];simp only [Option.bind_some];cases hq:a.tmps[d]? with
     | none=>rfl
     | some x =>
      rw [Array.getD_eq_getD_getElem?,hq] at hv;simp only [Option.getD_some] at hv;cases hv
      rfl
    exact .inr ⟨by simp [Region.wanted,hg,hy],h⟩
   ·exact h.elim
theorem Qx6 {C:Ctx} {ro:Option Nat} {cw:CW} (hcw:Qiu C ro cw) {ops:Array Oper} {K:List V→Qb→Prop} {R:Exit→Act→World→Prop} {im0:Nat→Prop} {pl0:Nat→Place} {w0:World}
  {ds0:List Deferred} (hK:∀ im pl w a ts H,K ts H→Rel im pl w ts H a→Ext im0 pl0 w0 im pl w→a.defers=ds0→R .normal a w):∀ (l:List Oper) (k:Nat) (ts:List V) (H:Qb) (im:Nat→Prop) (pl:Nat→Place) (w:World) (a:Act),
  ops.toList.drop k=l→Qcg C.ty cw ops K l ts H→Rel im pl w ts H a→Ext im0 pl0 w0 im pl w→a.defers=ds0→wpOpsIn (FW ro) 0 C.P ops R (List.range' k l.length) a w:=by
 intro l
 induction l with
 | nil=>intro k ts H im pl w a hl h hr hE hd;exact hK im pl w a ts H h hr hE hd
 | cons o l ih =>
  intro k ts H im pl w a hl h hr hE hd
  have ho:ops[k]?=some o:=by
   have:(ops.toList.drop k)[0]?=some o:=by rw [hl];rfl
   simpa [List.getElem?_drop] using this
  have hl':ops.toList.drop (k+1)=l:=by
   have:(ops.toList.drop k).tail=l:=by rw [hl];rfl
   simpa [List.tail_drop] using this
  simp only [List.length_cons,List.range'_succ,wpOpsIn,ho];simp only [Qcg] at h;rcases Qc9 (Qel h) hr.tr with ⟨hw,h⟩ | ⟨hw,h⟩
  ·rw [if_pos hw];exact Qbv hcw h hr.tr hr.hr fun v vc H' im' pl' w' k1 k2 k3 k4=>ih (k+1) _ H' im' pl' w' _ hl' k1 (hr.put k4 k3 k2 _) (hE.trans k4) (by rw [Yl];exact hd)
  ·rw [if_neg (by simp [hw])]
   exact ⟨fun _ _=>trivial,ih (k+1) _ H im pl w _ hl' h (hr.put (.refl _ _ _) hr.hr (.tup [] [] rfl fun j=>by simp [nth,List.getD];exact .any _) _) hE (by rw [Yl];exact hd)⟩
theorem Xkv {C:Ctx} {ro:Option Nat} {cw:CW} (hcw:Qiu C ro cw) {id:Nat} {ops:Array Oper} {Q:Exit→List V→Qb→Prop} {ts:List V} {H:Qb} (h:Qcg C.ty cw ops (Q .normal) ops.toList ts H):T C ro (.region id ops false) Q ts H:=by
 intro im pl w a hr;refine wpIn_region ?_;rw [List.range_eq_range']
 have:=Qx6 (C:=C) (ro:=ro) hcw (ops:=ops) (K:=Q .normal) (R:=Post im pl w a.defers Q) (im0:=im) (pl0:=pl) (w0:=w) (ds0:=a.defers) (fun im' pl' w' a' ts' H' k1 k2 k3 k4=>⟨ts',H',im',pl',k1,k2,k3,by rw [k4];exact .refl _ _⟩) ops.toList 0 ts H im pl w a (by simp) h hr (.refl _ _ _) rfl
 simpa using this
def Qfs (k:List V→Qb→Prop) (Q:Exit→List V→Qb→Prop):Exit→List V→Qb→Prop
 | .normal,ts,H=>k ts H
 | e,ts,H=>Q e ts H
def Jw (id:Nat) (Q:Exit→List V→Qb→Prop):Exit→List V→Qb→Prop
 | .exit id',ts,H=>if id'=id then Q .normal ts H else Q (.exit id') ts H
 | e,ts,H=>Q e ts H
def Qd6 (Q:Exit→List V→Qb→Prop):Exit→List V→Qb→Prop
 | .goto _,_,_=>False
 | e,ts,H=>Q e ts H
theorem Xo0 {C:Ctx} {ro:Option Nat} {x y:Code} {Q:Exit→List V→Qb→Prop} {ts:List V} {H:Qb} (h:T C ro x (Qfs (T C ro y Q) Q) ts H):T C ro (.seq x y) Q ts H:=by
 intro im pl w a hr;refine wpIn_seq (wpIn_mono (h im pl w a hr) fun e a' w' hp=>?_)
 cases e with
 | normal =>
  obtain ⟨ts',H',im',pl',k1,k2,k3,k4⟩:=hp;exact wpIn_mono (k1 im' pl' w' a' k2) fun e a w hp=>hp.from k3 k4
 | _=>exact hp
theorem Xkx {C:Ctx} {ro:Option Nat} {c:Operand} {x y:Code} {Q:Exit→List V→Qb→Prop} {ts:List V} {H:Qb} {b:Bool} (hc:ev ts c=.bool b) (ht:b=true→T C ro x Q ts H) (hf:b=false→T C ro y Q ts H):T C ro (.cond c x y) Q ts H:=by
 intro im pl w a hr
 have hv:=Qkx hr.tr c
 rw [hc] at hv;cases hq:a.eval c with
 | bool b' =>
  rw [hq] at hv;cases hv;exact wpIn_cond_split hq (fun e=>ht e im pl w a hr) (fun e=>hf e im pl w a hr)
 | _=>rw [hq] at hv;cases hv
theorem Xbt {C:Ctx} {ro:Option Nat} {id:Nat} {c:Code} {Q:Exit→List V→Qb→Prop} {ts:List V} {H:Qb} (h:T C ro c (Jw id Q) ts H):T C ro (.block id c) Q ts H:=by
 intro im pl w a hr;refine wpIn_block (wpIn_mono (h im pl w a hr) fun e a' w' hp=>?_)
 cases e with
 | exit id' =>
  obtain ⟨ts',H',im',pl',k1,k2,k3⟩:=hp;simp only [Jw] at k1;simp only [Exit.inBlock];split
  ·rename_i he;rw [if_pos he] at k1;exact ⟨ts',H',im',pl',k1,k2,k3⟩
  ·rename_i he;rw [if_neg he] at k1;exact ⟨ts',H',im',pl',k1,k2,k3⟩
 | _=>exact hp
theorem Xbs {C:Ctx} {ro:Option Nat} {c:Code} {Q:Exit→List V→Qb→Prop} {ts:List V} {H:Qb} (h:T C ro c (Qd6 Q) ts H):T C ro (.scope c) Q ts H:=by
 intro im pl w a hr b k cs hro hb hroom
 have hs:∀ (k:List Item) (a:Act) (w:World),step C.P (lone (b.atR a (.code (.scope c)::k)) cs w)=.next (lone (b.atR a (.code c::.inScope c::k)) cs w) :=
  fun k a w=>step_lone_go (by simp [stepG,stepG.exec,Frame.atR])
 have hs':∀ (k:List Item) (a:Act) (w:World),step C.P (lone (b.atR a (.inScope c::k)) cs w)=.next (lone (b.atR a k) cs w) :=
  fun k a w=>step_lone_go (by simp [stepG,stepG.exec,Frame.atR])
 have h0:(lone (b.atR a (.code (.scope c)::k)) cs w).fenced C.P (FW ro):=fenced_calm hb hroom rfl
 obtain ⟨e,a₁,w₁,hq,harr⟩:=h im pl w a hr b (.inScope c::k) cs hro hb hroom
 have hx:∀ id,exitTo id (.inScope c::k)=exitTo id k:=fun id=>by simp [exitTo]
 cases e with
 | normal=>exact ⟨.normal,a₁,w₁,hq,.head h0 (hs _ _ _) (StepsIn.trans harr (.one (fenced_calm hb hroom rfl) (hs' _ _ _)))⟩
 | exit id =>
  exact ⟨.exit id,a₁,w₁,hq,fun k' hk=>.head h0 (hs _ _ _) (harr.1 k' (by rw [hx];exact hk)),
   fun hr' hk=>let ⟨k₁,h1,h2⟩:=harr.2 hr' (by rw [hx];exact hk);⟨k₁,h1,.head h0 (hs _ _ _) h2⟩⟩
 | goto l=>obtain ⟨ts',H',im',pl',k1,_⟩:=hq;exact k1.elim
 | ret=>exact ⟨.ret,a₁,w₁,hq,ArrivesIn.of_steps (e:=.ret) (.one h0 (hs _ _ _)) harr⟩
 | panic ch=>exact hq.elim
 | outgrown=>exact hq.elim
def Qkn (body:(Exit→List V→Qb→Prop)→List V→Qb→Prop) (Q:Exit→List V→Qb→Prop):Nat→List V→Qb→Prop
 | 0,_,_=>False
 | n+1,ts,H=>body (Qfs (Qkn body Q n) Q) ts H
theorem Xkw {C:Ctx} {ro:Option Nat} {c:Code} {Q:Exit→List V→Qb→Prop} {ts:List V} {H:Qb} (n:Nat) (h:Qkn (T C ro c) Q n ts H):T C ro (.loop c) Q ts H:=by
 intro im pl w a hr b k cs hro hb hroom
 have key:∀ n ts H im pl w a,Qkn (T C ro c) Q n ts H→Rel im pl w ts H a →
   ∃ e a' w',Post im pl w a.defers Q e a' w'∧ArrivesIn (Machine.fenced C.P (FW ro)) C.P (lone (b.atR a (.code c::.inLoop c::k)) cs w) b k cs e a' w':=by
  intro n
  induction n with
  | zero=>intro ts H im pl w a h;exact h.elim
  | succ n ih =>
   intro ts H im pl w a h hr;obtain ⟨e,a₁,w₁,hq,harr⟩:=h im pl w a hr b (.inLoop c::k) cs hro hb hroom;cases e with
   | normal =>
    obtain ⟨ts',H',im',pl',k1,k2,k3,k4⟩:=hq;obtain ⟨e₂,a₂,w₂,hq₂,harr₂⟩:=ih ts' H' im' pl' w₁ a₁ k1 k2;exact ⟨e₂,a₂,w₂,hq₂.from k3 k4,.of_steps (StepsIn.trans harr (.one (fenced_calm hb hroom rfl) stepR_inLoop)) harr₂⟩
   | exit id=>exact ⟨.exit id,a₁,w₁,hq,.pass (x:=.inLoop c) rfl (fun _ _=>.inl (by simp)) harr⟩
   | goto l=>exact ⟨.goto l,a₁,w₁,hq,.pass (x:=.inLoop c) rfl (fun _ _=>.inl (by simp)) harr⟩
   | ret=>exact ⟨.ret,a₁,w₁,hq,.pass (x:=.inLoop c) rfl (fun _ _=>.inl (by simp)) harr⟩
   | panic ch=>exact hq.elim
   | outgrown=>exact hq.elim
 obtain ⟨e,a',w',hq,harr⟩:=key n ts H im pl w a h hr;exact ⟨e,a',w',hq,.of_steps (.one (fenced_calm hb hroom rfl) stepR_loop) harr⟩
def Xju (C:Ctx) (ro:Option Nat) (id:Nat) (ops:Array Oper) (Q:Exit→List V→Qb→Prop) (ts:List V) (H:Qb):Prop:=T C ro (.region id ops true) Q ts H
def wp (C:Ctx) (ro:Option Nat) (cw:CW):Code→(Exit→List V→Qb→Prop)→List V→Qb→Prop
 | .skip,Q,ts,H=>Q .normal ts H
 | .region id ops draw,Q,ts,H=>match draw with
  | false=>Qcg C.ty cw ops (Q .normal) ops.toList ts H
  | true=>Xju C ro id ops Q ts H
 | .seq x y,Q,ts,H=>wp C ro cw x (Qfs (wp C ro cw y Q) Q) ts H
 | .cond c x y,Q,ts,H=>match ev ts c with
  | .bool b=>(b=true→wp C ro cw x Q ts H)∧(b=false→wp C ro cw y Q ts H)
  | _=>False
 | .block id c,Q,ts,H=>wp C ro cw c (Jw id Q) ts H
 | .loop c,Q,ts,H=>T C ro (.loop c) Q ts H
 | .rangeFunc f ps assign body,Q,ts,H=>T C ro (.rangeFunc f ps assign body) Q ts H
 | .exit id,Q,ts,H=>Q (.exit id) ts H
 | .scope c,Q,ts,H=>wp C ro cw c (Qd6 Q) ts H
 | .label _,Q,ts,H=>Q .normal ts H
 | .goto l,Q,ts,H=>Q (.goto l) ts H
 | .ret,Q,ts,H=>Q .ret ts H
 | .refuse _,_,_,_=>False
theorem Post.now {im:Nat→Prop} {pl:Nat→Place} {w:World} {Q:Exit→List V→Qb→Prop} {ts:List V} {H:Qb} {a:Act} (hr:Rel im pl w ts H a) {e:Exit} (h:Q e ts H) (hp:∀ c,e≠.panic c) (ho:e≠.outgrown):Post im pl w a.defers Q e a w:=by
 cases e with
 | panic c=>exact absurd rfl (hp c)
 | outgrown=>exact absurd rfl ho
 | _=>exact ⟨ts,H,im,pl,h,hr,.refl _ _ _,.refl _ _⟩
theorem Qz7 {C:Ctx} {ro:Option Nat} {c:Code} {Q:Exit→List V→Qb→Prop} (I:Nat→List V→Qb→Prop) (step:∀ n ts H,I n ts H→T C ro c (Qfs (fun ts' H'=>∃ m,m<n∧I m ts' H') Q) ts H) {n:Nat} {ts:List V} {H:Qb} (h:I n ts H):T C ro (.loop c) Q ts H:=by
 have key:∀ k n ts H,n<k→I n ts H→Qkn (T C ro c) Q k ts H:=by
  intro k
  induction k with
  | zero=>intro n ts H hn;omega
  | succ k ih =>
   intro n ts H hn h;refine (step n ts H h).mono fun e ts' H' hq=>?_
   cases e with
   | normal=>obtain ⟨m,hm,hI⟩:=hq;exact ih m ts' H' (by omega) hI
   | _=>exact hq
 exact Xkw (n+1) (key (n+1) n ts H (by omega) h)
theorem Qg4 {C:Ctx} {ro:Option Nat} {cw:CW} (hcw:Qiu C ro cw):∀ (c:Code) (Q:Exit→List V→Qb→Prop) (ts:List V) (H:Qb),wp C ro cw c Q ts H→T C ro c Q ts H:=by
 intro c
 induction c with
 | skip=>exact fun Q ts H h im pl w a hr=>wpIn_skip (Post.now hr h (by simp) (by simp))
 | region id ops draw =>
  intro Q ts H h;cases draw with
  | false=>exact Xkv hcw h
  | true=>exact h
 | seq x y ihx ihy =>
  intro Q ts H h;exact Xo0 ((ihx _ _ _ h).mono fun e ts H hq=>by
   cases e with
   | normal=>exact ihy _ _ _ hq
   | _=>exact hq)
 | cond c x y ihx ihy =>
  intro Q ts H h;simp only [wp] at h;split at h
  ·rename_i b hb;exact Xkx hb (fun e=>ihx _ _ _ (h.1 e)) (fun e=>ihy _ _ _ (h.2 e))
  ·exact h.elim
 | block id c ih=>exact fun Q ts H h=>Xbt (ih _ _ _ h)
 | loop c _=>exact fun Q ts H h=>h
 | rangeFunc f ps assign body _ _=>exact fun Q ts H h=>h
 | exit id=>exact fun Q ts H h im pl w a hr=>wpIn_exit (Post.now hr h (by simp) (by simp))
 | scope c ih=>exact fun Q ts H h=>Xbs (ih _ _ _ h)
 | label l=>exact fun Q ts H h im pl w a hr=>wpIn_label (Post.now hr h (by simp) (by simp))
 | goto l=>exact fun Q ts H h im pl w a hr=>wpIn_goto (Post.now hr h (by simp) (by simp))
 | ret=>exact fun Q ts H h im pl w a hr=>wpIn_ret (Post.now hr h (by simp) (by simp))
 | refuse why=>exact fun Q ts H h=>h.elim
mutual
def ren (g:Nat→Option Nat):V→V
 | .any=>.any
 | .int k n=>.int k n
 | .bool b=>.bool b
 | .str s=>.str s
 | .nil=>.nil
 | .sl n cs=>.sl n (Qk g cs)
 | .ref r off n=>match g r with
  | some r'=>.ref r' off n
  | none=>.any
 | .agg cs=>.agg (Qk g cs)
 | .tup vs=>.tup (Qk g vs)
 | .ptr r off=>match g r with
  | some r'=>.ptr r' off
  | none=>.any
 | .nilp=>.nilp
 | .rp cs off=>.rp (Qk g cs) off
 | .fn f xs ys=>.fn f (Qk g xs) (Qk g ys)
 | .nilf=>.nilf
def Qk (g:Nat→Option Nat):List V→List V
 | []=>[]
 | v::l=>ren g v::Qk g l
end
theorem Qj4 (g:Nat→Option Nat) (l:List V):Qk g l=l.map (ren g):=by
 induction l with
 | nil=>rfl
 | cons a l ih=>simp [Qk,ih]
theorem Kw (g:Nat→Option Nat) (l:List V):(Qk g l).length=l.length:=by rw [Qj4];simp
theorem Jb (g:Nat→Option Nat) (l:List V) (j:Nat):nth (Qk g l) j=ren g (nth l j):=by
 induction l generalizing j with
 | nil=>simp [Qk,nth,ren]
 | cons a l ih=>cases j<;>simp [Qk,nth,ih]
theorem VR.ren {im im':Nat→Prop} {pl pl':Nat→Place} {w:World} {g:Nat→Option Nat} (hg:∀ r r',g r=some r'→pl' r'=pl r) (hi:∀ b,im b→im' b) {v:V} {c:Value} (h:VR im pl w v c):VR im' pl' w (ren g v) c:=by
 induction h with
 | any v=>exact .any v
 | int k n=>exact .int k n
 | bool b=>exact .bool b
 | str s=>exact .str s
 | nil=>exact .nil
 | sl0 cs a c=>exact .sl0 _ a c
 | sl n cs ad c vs hn hib hc hr ih=>exact .sl n _ ad c vs hn (hi _ hib) (fun j hj=>hc j (by rwa [Kw] at hj)) (fun j=>by rw [Jb];exact ih j)
 | refAt r off n b cap c hp hc h0 =>
  simp only [Bv.ren];cases hq:g r with
  | none=>exact .any _
  | some r'=>exact .refAt r' off n b cap c (by rw [hg r r' hq];exact hp) hc h0
 | refVirt r hp =>
  simp only [Bv.ren];cases hq:g r with
  | none=>exact .any _
  | some r'=>exact .refVirt r' (by rw [hg r r' hq];exact hp)
 | refDead r off n a c hp =>
  simp only [Bv.ren];cases hq:g r with
  | none=>exact .any _
  | some r'=>exact .refDead r' off n a c (by rw [hg r r' hq];exact hp)
 | agg cs vs hl hr ih=>exact .agg _ vs (by rw [Kw];exact hl) (fun j=>by rw [Jb];exact ih j)
 | tup cs vs hl hr ih=>exact .tup _ vs (by rw [Kw];exact hl) (fun j=>by rw [Jb];exact ih j)
 | ptrAt r off b cap hp =>
  simp only [Bv.ren];cases hq:g r with
  | none=>exact .any _
  | some r'=>exact .ptrAt r' off b cap (by rw [hg r r' hq];exact hp)
 | ptrDead r off a hp =>
  simp only [Bv.ren];cases hq:g r with
  | none=>exact .any _
  | some r'=>exact .ptrDead r' off a (by rw [hg r r' hq];exact hp)
 | nilp=>exact .nilp
 | rp cs off ad vs hib hc hr ih=>exact .rp _ off ad vs (hi _ hib) (fun j hj=>hc j (by rwa [Kw] at hj)) (fun j=>by rw [Jb];exact ih j)
 | fn f xs ys us vs hl hr hl' hr' ih ih'=>exact .fn f _ _ us vs (by rw [Kw];exact hl) (fun j=>by rw [Jb];exact ih j) (by rw [Kw];exact hl') (fun j=>by rw [Jb];exact ih' j)
 | nilf=>exact .nilf
mutual
theorem Qj3:∀ v:V,ren some v=v
 | .any=>rfl
 | .int _ _=>rfl
 | .bool _=>rfl
 | .str _=>rfl
 | .nil=>rfl
 | .sl n cs=>by simp only [ren,Qcl cs]
 | .ref _ _ _=>rfl
 | .agg cs=>by simp only [ren,Qcl cs]
 | .tup vs=>by simp only [ren,Qcl vs]
 | .ptr _ _=>rfl
 | .nilp=>rfl
 | .rp cs off=>by simp only [ren,Qcl cs]
 | .fn f xs ys=>by simp only [ren,Qcl xs,Qcl ys]
 | .nilf=>rfl
theorem Qcl:∀ l:List V,Qk some l=l
 | []=>rfl
 | v::l=>by simp only [Qk,Qj3 v,Qcl l]
end
def Kz (g:Nat→Option Nat) (row:Row):Row:=⟨row.e,row.s,Qk g row.cs⟩
def Qbf (g:Nat→Option Nat) (H:Qb):Qb:=H.map (Option.map (Kz g))
theorem VR.world {im:Nat→Prop} {pl:Nat→Place} {w w':World} (hw:∀ (a:Addr) v,im a.block→w.cell? a=some v→w'.cell? a=some v) {v:V} {c:Value} (h:VR im pl w v c):VR im pl w' v c:=by
 induction h with
 | any v=>exact .any v
 | int k n=>exact .int k n
 | bool b=>exact .bool b
 | str s=>exact .str s
 | nil=>exact .nil
 | sl0 cs a c=>exact .sl0 _ a c
 | sl n cs ad c vs hn hib hc hr ih=>exact .sl n _ ad c vs hn hib (fun j hj=>hw _ _ (by rw [Qd1];exact hib) (hc j hj)) ih
 | refAt r off n b cap c hp hc h0=>exact .refAt r off n b cap c hp hc h0
 | refVirt r hp=>exact .refVirt r hp
 | refDead r off n a c hp=>exact .refDead r off n a c hp
 | agg cs vs hl hr ih=>exact .agg _ vs hl ih
 | tup cs vs hl hr ih=>exact .tup _ vs hl ih
 | ptrAt r off b cap hp=>exact .ptrAt r off b cap hp
 | ptrDead r off a hp=>exact .ptrDead r off a hp
 | nilp=>exact .nilp
 | rp cs off ad vs hib hc hr ih=>exact .rp _ off ad vs hib (fun j hj=>hw _ _ (by rw [Qd1];exact hib) (hc j hj)) ih
 | fn f xs ys us vs hl hr hl' hr' ih ih'=>exact .fn f _ _ us vs hl ih hl' ih'
 | nilf=>exact .nilf
mutual
def clo:V→Bool
 | .ref _ _ _ | .ptr _ _=>false
 | .sl _ cs | .agg cs | .tup cs | .rp cs _=>Qh cs
 | .fn _ xs ys=>Qh xs&&Qh ys
 | _=>true
def Qh:List V→Bool
 | []=>true
 | v::l=>clo v&&Qh l
end
theorem Qwc (l:List V):Qh l=l.all clo:=by
 induction l with
 | nil=>rfl
 | cons a l ih=>simp [Qh,ih]
theorem Ju {l:List V} (h:Qh l=true) (j:Nat):clo (nth l j)=true:=by
 induction l generalizing j with
 | nil=>simp [nth,clo]
 | cons a l ih =>
  simp only [Qh,Bool.and_eq_true] at h;cases j with
  | zero=>exact h.1
  | succ j=>exact ih h.2 j
theorem VR.clo {im:Nat→Prop} {pl pl':Nat→Place} {w:World} {v:V} {c:Value} (h:VR im pl w v c) (hc:clo v=true):VR im pl' w v c:=by
 induction h with
 | any v=>exact .any v
 | int k n=>exact .int k n
 | bool b=>exact .bool b
 | str s=>exact .str s
 | nil=>exact .nil
 | sl0 cs a c=>exact .sl0 _ a c
 | sl n cs ad c vs hn hib hcc hr ih=>exact .sl n _ ad c vs hn hib hcc (fun j=>ih j (Ju hc j))
 | refAt r off n b cap c hp=>cases hc
 | refVirt r hp=>cases hc
 | refDead r off n a c hp=>cases hc
 | agg cs vs hl hr ih=>exact .agg _ vs hl (fun j=>ih j (Ju hc j))
 | tup cs vs hl hr ih=>exact .tup _ vs hl (fun j=>ih j (Ju hc j))
 | ptrAt r off b cap hp=>cases hc
 | ptrDead r off a hp=>cases hc
 | nilp=>exact .nilp
 | rp cs off ad vs hib hcc hr ih=>exact .rp _ off ad vs hib hcc (fun j=>ih j (Ju hc j))
 | fn f xs ys us vs hl hr hl' hr' ih ih' =>
  simp only [Bv.clo,Bool.and_eq_true] at hc;exact .fn f _ _ us vs hl (fun j=>ih j (Ju hc.1 j)) hl' (fun j=>ih' j (Ju hc.2 j))
 | nilf=>exact .nilf
inductive Bor (H:Qb):V→V→Prop
 | clo (v:V) (h:clo v=true):Bor H v v
 | ref (r off n:Nat) (row:Row) (cs:List V) (hr:Qc H r=some row) (hl:off+cs.length≤row.cs.length) (hb:∀ j,j<cs.length→Bor H (nth row.cs (off+j)) (nth cs j)):Bor H (.ref r off n) (.sl n cs)
 | nil (cs:List V):Bor H .nil (.sl 0 cs)
 | ptr (r off:Nat) (row:Row) (cs:List V) (hr:Qc H r=some row) (hl:cs.length≤row.cs.length) (hb:∀ j,j<cs.length→Bor H (nth row.cs j) (nth cs j)):Bor H (.ptr r off) (.rp cs off)
 | agg (cs cs':List V) (hl:cs.length=cs'.length) (hb:∀ j,Bor H (nth cs j) (nth cs' j)):Bor H (.agg cs) (.agg cs')
 | tup (cs cs':List V) (hl:cs.length=cs'.length) (hb:∀ j,Bor H (nth cs j) (nth cs' j)):Bor H (.tup cs) (.tup cs')
 | fn (f:Go.Fn) (xs ys xs' ys':List V) (hl:xs.length=xs'.length) (hb:∀ j,Bor H (nth xs j) (nth xs' j)) (hl':ys.length=ys'.length) (hb':∀ j,Bor H (nth ys j) (nth ys' j)):Bor H (.fn f xs ys) (.fn f xs' ys')
def Qax:Nat→Place:=fun _=>.no
def Qw2 (im:Nat→Prop) (pl:Nat→Place):Nat→Prop:=fun b=>im b∨∃ r cap,pl r=.at b cap
theorem Bor.VR {im:Nat→Prop} {pl:Nat→Place} {w:World} {H:Qb} (hH:HR im pl w H) {a a':V} (h:Bor H a a'):∀ {c:Value},Bv.VR im pl w a c→Bv.VR (Qw2 im pl) Qax w a' c:=by
 induction h with
 | clo v hc =>
  intro c hv
  have:=hv.ren (g:=some) (im':=Qw2 im pl) (pl':=pl) (fun r r' e=>by injection e with e;rw [e]) (fun b hb=>.inl hb)
  refine VR.clo (pl:=pl) ?_ hc
  have e:Bv.ren some v=v:=Qj3 v
  rwa [e] at this
 | ref r off n row cs hr hl hb ih =>
  intro c hv
  have hrow:=Yd hr
  cases hv with
  | refDead _ _ _ a c hp=>have:=hH.dead r hp;rw [hrow] at this;cases this
  | refVirt _ hp=>exact .sl0 _ _ _
  | refAt _ _ _ b cap c hp hc h0 =>
   obtain ⟨e,s,cs0,cur,h1,h2,h3,h4,h5,h6⟩:=hH.row r b cap hp;rw [hrow] at h1;injection h1 with h1
   injection h1 with h1
   subst h1;refine .sl n cs _ c (fun j=>cur.getD (off+j) undef) hc (.inr ⟨r,cap,hp⟩) (fun j hj=>?_) (fun j=>?_)
   ·rw [Jp]
    have hlt:off+j<cur.size:=by
     have:cs0.length≤cur.size:=h5
     have hl':off+cs.length≤cs0.length:=hl
     omega
    exact Kg h2 hlt
   ·by_cases hj:j<cs.length
    ·exact ih j hj (h6 _)
    ·rw [Qba _ _ (by omega)];exact .any _
 | nil cs =>
  intro c hv;cases hv with
  | nil=>exact .sl0 _ _ _
 | ptr r off row cs hr hl hb ih =>
  intro c hv
  have hrow:=Yd hr
  cases hv with
  | ptrDead _ _ a hp=>have:=hH.dead r hp;rw [hrow] at this;cases this
  | ptrAt _ _ b cap hp =>
   obtain ⟨e,s,cs0,cur,h1,h2,h3,h4,h5,h6⟩:=hH.row r b cap hp;rw [hrow] at h1;injection h1 with h1
   injection h1 with h1
   subst h1
   have hv:=VR.rp (im:=Qw2 im pl) (pl:=Qax) (w:=w) cs off ⟨b,0,none⟩ (fun j=>cur.getD j undef) (.inr ⟨r,cap,hp⟩) (fun j hj=>by
    rw [Jp,Nat.zero_add]
    have:cs0.length≤cur.size:=h5
    have hl':cs.length≤cs0.length:=hl
    exact Kg h2 (by omega)) (fun j=>by
    by_cases hj:j<cs.length
    ·exact ih j hj (h6 _)
    ·rw [Qba _ _ (by omega)];exact .any _)
   rwa [Jp,Nat.zero_add] at hv
 | agg cs cs' hl hb ih =>
  intro c hv;cases hv with
  | agg _ vs hl2 hr=>exact .agg _ vs (by omega) (fun j=>ih j (hr j))
 | tup cs cs' hl hb ih =>
  intro c hv;cases hv with
  | tup _ vs hl2 hr=>exact .tup _ vs (by omega) (fun j=>ih j (hr j))
 | fn f xs ys xs' ys' hl hb hl' hb' ih ih' =>
  intro c hv;cases hv with
  | fn _ _ _ us vs h1 h2 h3 h4=>exact .fn f _ _ us vs (by omega) (fun j=>ih j (h2 j)) (by omega) (fun j=>ih' j (h4 j))
mutual
def plain:V→Bool
 | .sl n _=>n==0
 | .rp _ _=>false
 | .agg cs | .tup cs=>Xt cs
 | .fn _ xs ys=>Xt xs&&Xt ys
 | _=>true
def Xt:List V→Bool
 | []=>true
 | v::l=>plain v&&Xt l
end
theorem Qag {l:List V} (h:Xt l=true) (j:Nat):plain (nth l j)=true:=by
 induction l generalizing j with
 | nil=>simp [nth,plain]
 | cons a l ih =>
  simp only [Xt,Bool.and_eq_true] at h;cases j with
  | zero=>exact h.1
  | succ j=>exact ih h.2 j
theorem VR.plain {im im':Nat→Prop} {pl:Nat→Place} {w:World} {v:V} {c:Value} (h:VR im pl w v c) (hc:plain v=true):VR im' pl w v c:=by
 induction h with
 | any v=>exact .any v
 | int k n=>exact .int k n
 | bool b=>exact .bool b
 | str s=>exact .str s
 | nil=>exact .nil
 | sl0 cs a c=>exact .sl0 _ a c
 | sl n cs ad c vs hn hib hcc hr ih =>
  have:n=0:=by simpa [Bv.plain] using hc
  subst this;exact .sl0 _ _ _
 | refAt r off n b cap c hp hcc h0=>exact .refAt r off n b cap c hp hcc h0
 | refVirt r hp=>exact .refVirt r hp
 | refDead r off n a c hp=>exact .refDead r off n a c hp
 | agg cs vs hl hr ih=>exact .agg _ vs hl (fun j=>ih j (Qag hc j))
 | tup cs vs hl hr ih=>exact .tup _ vs hl (fun j=>ih j (Qag hc j))
 | ptrAt r off b cap hp=>exact .ptrAt r off b cap hp
 | ptrDead r off a hp=>exact .ptrDead r off a hp
 | nilp=>exact .nilp
 | rp cs off ad vs hib hcc hr ih=>cases hc
 | fn f xs ys us vs hl hr hl' hr' ih ih' =>
  simp only [Bv.plain,Bool.and_eq_true] at hc;exact .fn f _ _ us vs hl (fun j=>ih j (Qag hc.1 j)) hl' (fun j=>ih' j (Qag hc.2 j))
 | nilf=>exact .nilf
def shift (n:Nat):Nat→Option Nat:=fun r=>some (r+n)
def plG (n:Nat) (pl pl':Nat→Place):Nat→Place:=fun r=>if r<n then pl r else pl' (r - n)
theorem Xqd {n:Nat} {pl pl':Nat→Place} {r:Nat} (h:r<n):plG n pl pl' r=pl r:=if_pos h
theorem Qx3 {n:Nat} {pl pl':Nat→Place} (r:Nat):plG n pl pl' (r+n)=pl' r:=by unfold plG;rw [if_neg (by omega)];congr 1;omega
theorem HR.glue {im im':Nat→Prop} {pl pl':Nat→Place} {w w':World} {H H':Qb} (h:HR im pl w H) (hS:HR im' pl' w' H') (h1:∀ b,im b→im' b) (h3:∀ b,im' b→im b∨w.heap.size≤b)
  (os:w'.os=w.os) (tape:w'.tape=w.tape) (output:w'.output=w.output) (size:w.heap.size≤w'.heap.size) (pln:∀ r b cap,pl' r=.at b cap→w.heap.size≤b) (frame:∀ b,b<w.heap.size→w'.heap[b]?=w.heap[b]?) :
  HR im' (plG H.length pl pl') w' (H++Qbf (shift H.length) H')∧Ext im pl w im' (plG H.length pl pl') w':=by
 have hpl:∀ r b cap,plG H.length pl pl' r=.at b cap→(r<H.length∧pl r=.at b cap)∨(H.length≤r∧pl' (r - H.length)=.at b cap):=by
  intro r b cap hr;unfold plG at hr;split at hr
  ·exact .inl ⟨‹_›,hr⟩
  ·exact .inr ⟨by omega,hr⟩
 have hE:Ext im pl w im' (plG H.length pl pl') w':=by
  refine ⟨os,tape,output,size,h1,fun b hb=>(h3 b hb).imp id .inl,fun r hr=>.inl (Xqd ((h.len r).2 hr)),fun r b cap hr=>?_,fun b hb _=>frame b hb⟩
  rcases hpl r b cap hr with ⟨_,h4⟩ | ⟨_,h4⟩
  ·exact .inl ⟨r,cap,h4⟩
  ·exact .inr (pln _ b cap h4)
 refine ⟨⟨fun r=>?_,fun b hb r cap hr=>?_,fun r b cap hr=>?_,fun b hb=>hS.imb b hb,fun r r' b c c' hr hr'=>?_,fun r hr=>?_,fun r hr=>?_,fun r b cap hr=>?_⟩,hE⟩
 ·unfold plG;simp only [List.length_append,Qbf,List.length_map];split
  ·rw [← h.len r];omega
  ·rw [← hS.len];omega
 ·rcases hpl r b cap hr with ⟨_,h4⟩ | ⟨_,h4⟩
  ·rcases h3 b hb with h5 | h5
   ·exact h.apart b h5 r cap h4
   ·have:=h.bound r b cap h4;omega
  ·exact hS.apart b hb _ cap h4
 ·rcases hpl r b cap hr with ⟨_,h4⟩ | ⟨_,h4⟩
  ·exact Nat.lt_of_lt_of_le (h.bound r b cap h4) size
  ·exact hS.bound _ b cap h4
 ·rcases hpl r b c hr with ⟨h4,h5⟩ | ⟨h4,h5⟩<;>rcases hpl r' b c' hr' with ⟨h6,h7⟩ | ⟨h6,h7⟩
  ·exact h.inj r r' b c c' h5 h7
  ·have:=h.bound r b c h5;have:=pln _ b c' h7;omega
  ·have:=h.bound r' b c' h7;have:=pln _ b c h5;omega
  ·have:=hS.inj _ _ b c c' h5 h7;omega
 ·unfold plG at hr;split at hr
  ·rename_i hlt;rw [List.getElem?_append_left hlt];exact h.dead r hr
  ·rename_i hlt;rw [List.getElem?_append_right (by omega)]
   have:=hS.dead _ hr
   simp [Qbf,this]
 ·unfold plG at hr;split at hr
  ·rename_i hlt;rw [List.getElem?_append_left hlt];exact h.virt r hr
  ·rename_i hlt;rw [List.getElem?_append_right (by omega)]
   obtain ⟨e,s,h4⟩:=hS.virt _ hr;exact ⟨e,s,by simp [Qbf,h4,Kz,Qk]⟩
 ·rcases hpl r b cap hr with ⟨h4,h5⟩ | ⟨h4,h5⟩
  ·obtain ⟨e,s,cs,cur,k1,k2,k3,k4,k5,k6⟩:=h.row r b cap h5;exact ⟨e,s,cs,cur,by rw [List.getElem?_append_left h4];exact k1,by rw [frame b (h.bound r b cap h5)];exact k2,k3,k4,k5,fun j=>(k6 j).mono hE h.apart⟩
  ·obtain ⟨e,s,cs,cur,k1,k2,k3,k4,k5,k6⟩:=hS.row _ b cap h5;refine ⟨e,s,Qk (shift H.length) cs,cur,by rw [List.getElem?_append_right h4];simp [Qbf,k1,Kz],k2,k3,k4,by rw [Kw];exact k5,fun j=>?_⟩
   rw [Jb];exact (k6 j).ren (fun r r' e=>by injection e with e;subst e;exact Qx3 r) (fun b hb=>hb)
theorem HR.none {im:Nat→Prop} {w:World} (h:∀ b,im b→b<w.heap.size):HR im Qax w [] :=
 ⟨fun r=>by simp [Qax],fun b _ r c=>by simp [Qax],fun r b c=>by simp [Qax],h,fun r r' b c c'=>by simp [Qax],fun r=>by simp [Qax],fun r=>by simp [Qax],fun r b c=>by simp [Qax]⟩
theorem Fc.call {C:Ctx} {f:FuncId} {args:List V} {H:Qb} {Q K:V→Qb→Prop} (h:Fc C f args [] Q) (hc:Qh args=true) (hK:∀ v H',Q v H'→K (ren (shift H.length) v) (H++Qbf (shift H.length) H')):Fc C f args H K:=by
 refine ⟨h.1,fun im pl w vs hl hv hH=>?_⟩
 have hcall:=h.2 im Qax w vs hl (fun j=>(hv j).clo (Ju hc j)) (HR.none hH.imb)
 refine (callsIn_wide (n:=0)).1 ((callsIn_wide.2 hcall).mono fun e w' hp=>?_)
 cases e with
 | panicked _=>exact hp
 | outgrown=>exact hp
 | returned vc =>
  obtain ⟨v,H',im',pl',k1,k2,k3,k4⟩:=hp
  have hg:=hH.glue k3 k4.imm (fun b hb=>by
   rcases k4.imn b hb with h1 | h1 | ⟨r,cap,h1⟩
   ·exact .inl h1
   ·exact .inr h1
   ·cases h1) k4.os k4.tape k4.output k4.size (fun r b cap hr=>by
   rcases k4.pln r b cap hr with ⟨r',cap',h1⟩ | h1
   ·cases h1
   ·exact h1) (fun b hb=>k4.frame b hb (fun r cap e=>by cases e))
  exact ⟨_,_,im',_,hK v H' k1,k2.ren (fun r r' e=>by injection e with e;subst e;exact Qx3 r) (fun b hb=>hb),hg.1,hg.2⟩
def Qar (H:Qb):Prop:=∀ (r:Nat) (row:Row),H[r]?=some (some row)→Xt row.cs=true
theorem Fc.borrow {C:Ctx} {f:FuncId} {args args':List V} {H:Qb} {Q K:V→Qb→Prop} (h:Fc C f args' [] Q) (hl:args.length=args'.length) (hb:∀ j,Bor H (nth args j) (nth args' j)) (hp:∀ v H',Q v H'→plain v=true∧Qar H')
  (hK:∀ v H',Q v H'→K (ren (shift H.length) v) (H++Qbf (shift H.length) H')):Fc C f args H K:=by
 refine ⟨h.1,fun im pl w vs hvl hv hH=>?_⟩
 have hcall:=h.2 (Qw2 im pl) Qax w vs (by omega) (fun j=>(hb j).VR hH (hv j)) (HR.none fun b hb=>by
  rcases hb with hb | ⟨r,cap,hb⟩
  ·exact hH.imb b hb
  ·exact hH.bound r b cap hb)
 refine (callsIn_wide (n:=0)).1 ((callsIn_wide.2 hcall).mono fun e w' hq=>?_)
 cases e with
 | panicked _=>exact hq
 | outgrown=>exact hq
 | returned vc =>
  obtain ⟨v,H',im',pl',k1,k2,k3,k4⟩:=hq;obtain ⟨p1,p2⟩:=hp v H' k1
  have hS:HR (fun b=>im b∨(w.heap.size≤b∧im' b)) pl' w' H':=by
   have hsub:∀ b,(im b∨(w.heap.size≤b∧im' b))→im' b:=fun b hb=>by
    rcases hb with hb | hb
    ·exact k4.imm b (.inl hb)
    ·exact hb.2
   refine ⟨k3.len,fun b hb=>k3.apart b (hsub b hb),k3.bound,fun b hb=>k3.imb b (hsub b hb),k3.inj,k3.dead,k3.virt,fun r b cap hr=>?_⟩
   obtain ⟨e,s,cs,cur,q1,q2,q3,q4,q5,q6⟩:=k3.row r b cap hr;exact ⟨e,s,cs,cur,q1,q2,q3,q4,q5,fun j=>(q6 j).plain (Qag (p2 r _ q1) j)⟩
  have hg:=hH.glue hS (fun b hb=>.inl hb) (fun b hb=>hb.imp id (·.1)) k4.os k4.tape k4.output k4.size (fun r b cap hr=>by
   rcases k4.pln r b cap hr with ⟨r',cap',h1⟩ | h1
   ·cases h1
   ·exact h1) (fun b hb=>k4.frame b hb (fun r cap e=>by cases e))
  exact ⟨_,_,_,_,hK v H' k1,((k2.plain p1).ren (fun r r' e=>by injection e with e;subst e;exact Qx3 r) (fun b hb=>hb)),hg.1,hg.2⟩
def pos:List Nat→Nat→Option Nat
 | [],_=>none
 | a::l,r=>if a=r then some 0 else (pos l r).map (·+1)
theorem Qn5 {l:List Nat} {r i:Nat} (h:pos l r=some i):l[i]?=some r:=by
 induction l generalizing i with
 | nil=>cases h
 | cons a l ih =>
  simp only [pos] at h;split at h
  ·rename_i e;injection h with h;subst h;simp [e]
  ·obtain ⟨j,hj,rfl⟩:=Option.map_eq_some_iff.1 h;simpa using ih hj
def Qck (sel:List Nat) (H:Qb):Qb:=sel.map fun r=>(Qc H r).map (Kz (pos sel))
def plS (sel:List Nat) (pl:Nat→Place):Nat→Place:=fun i=>match sel[i]? with
 | some r=>pl r
 | none=>.no
theorem HR.sel {im0 im:Nat→Prop} {pl:Nat→Place} {w0 w:World} {H:Qb} (h:HR im pl w H) (hE:Ext im0 Qax w0 im pl w) (sel:List Nat) (hn:sel.Nodup) (hl:∀ r∈sel,r<H.length) :
  HR im (plS sel pl) w (Qck sel H)∧Ext im0 Qax w0 im (plS sel pl) w:=by
 have hpl:∀ i p,plS sel pl i=p→p≠.no→∃ r,sel[i]?=some r∧pl r=p:=by
  intro i p hi hp;unfold plS at hi;cases hs:sel[i]? with
  | none=>rw [hs] at hi;exact absurd hi.symm hp
  | some r=>rw [hs] at hi;exact ⟨r,rfl,hi⟩
 have hren:∀ {v:V} {c:Value},VR im pl w v c→VR im (plS sel pl) w (ren (pos sel) v) c:=fun hv=>hv.ren (fun r r' e=>by simp [plS,Qn5 e]) (fun b hb=>hb)
 refine ⟨⟨fun i=>?_,fun b hb i cap hi=>?_,fun i b cap hi=>?_,h.imb,fun i j b c c' hi hj=>?_,fun i hi=>?_,fun i hi=>?_,fun i b cap hi=>?_⟩,⟨hE.os,hE.tape,hE.output,hE.size,hE.imm,hE.imn,fun r hr=>absurd rfl hr,fun i b cap hi=>?_,hE.frame⟩⟩
 ·simp only [Qck,List.length_map];constructor
  ·intro hi;simp only [plS,List.getElem?_eq_getElem hi];exact (h.len _).1 (hl _ (List.getElem_mem _))
  ·intro hi;rcases Nat.lt_or_ge i sel.length with h1 | h1
   ·exact h1
   ·exact absurd (by simp [plS,List.getElem?_eq_none h1]) hi
 ·obtain ⟨r,_,hr⟩:=hpl i _ hi (by simp)
  exact h.apart b hb r cap hr
 ·obtain ⟨r,_,hr⟩:=hpl i _ hi (by simp)
  exact h.bound r b cap hr
 ·obtain ⟨r,h1,hr⟩:=hpl i _ hi (by simp)
  obtain ⟨r',h1',hr'⟩:=hpl j _ hj (by simp)
  have:=h.inj r r' b c c' hr hr'
  subst this;obtain ⟨hi',e1⟩:=List.getElem?_eq_some_iff.1 h1;obtain ⟨hj',e2⟩:=List.getElem?_eq_some_iff.1 h1';exact (List.getElem_inj hn).1 (e1.trans e2.symm)
 ·obtain ⟨r,h1,hr⟩:=hpl i _ hi (by simp)
  have:=h.dead r hr
  simp [Qck,h1,Qc,this]
 ·obtain ⟨r,h1,hr⟩:=hpl i _ hi (by simp)
  obtain ⟨e,s,h2⟩:=h.virt r hr;exact ⟨e,s,by simp [Qck,h1,Qc,h2,Kz,Qk]⟩
 ·obtain ⟨r,h1,hr⟩:=hpl i _ hi (by simp)
  obtain ⟨e,s,cs,cur,k1,k2,k3,k4,k5,k6⟩:=h.row r b cap hr;exact ⟨e,s,Qk (pos sel) cs,cur,by simp [Qck,h1,Qc,k1,Kz],k2,k3,k4,by rw [Kw];exact k5,fun j=>by rw [Jb];exact hren (k6 j)⟩
 ·obtain ⟨r,_,hr⟩:=hpl i _ hi (by simp)
  exact hE.pln r b cap hr
def Qb6 (sel:List Nat) (Q:V→Qb→Prop) (v:V) (H:Qb):Prop:=sel.Nodup∧(∀ r∈sel,r<H.length)∧Q (ren (pos sel) v) (Qck sel H)
theorem Fc.keep {C:Ctx} {f:FuncId} {args:List V} {Q:V→Qb→Prop} (h:Fc C f args [] fun v H=>∃ sel,Qb6 sel Q v H):Fc C f args [] Q:=by
 refine ⟨h.1,fun im pl w vs hl hv hH=>?_⟩
 have hno:pl=Qax:=by
  funext r
  have:=hH.len r
  cases hp:pl r with
  | no=>rfl
  | _=>rw [hp] at this;simp at this
 subst hno;refine (callsIn_wide (n:=0)).1 ((callsIn_wide.2 (h.2 im Qax w vs hl hv hH)).mono fun e w' hp=>?_)
 cases e with
 | panicked _=>exact hp
 | outgrown=>exact hp
 | returned vc =>
  obtain ⟨v,H',im',pl',⟨sel,hn,hlt,hq⟩,k2,k3,k4⟩:=hp
  have:=k3.sel k4 sel hn hlt
  exact ⟨_,_,im',_,hq,k2.ren (fun r r' e=>by simp [plS,Qn5 e]) (fun b hb=>hb),this.1,this.2⟩
def Qj2 (ty:TypeId→Ty) (ts:List V) (H:Qb):List ResultVar→(List V→Prop)→Prop
 | [],K=>K []
 | .tmp t::rs,K=>Qj2 ty ts H rs fun vs=>K (nth ts t::vs)
 | .cell a t::rs,K=>(ty t).ok=true∧Qc7 (ty t) (nth ts a) H fun v=>Qj2 ty ts H rs fun vs=>K (v::vs)
def one (vs:List V):V :=
 match vs with
 | [v]=>v
 | vs=>.tup vs
def Xp9 (ty:TypeId→Ty) (rs:List ResultVar) (ts:List V) (H:Qb) (K:V→Qb→Prop):Prop:=Qj2 ty ts H rs fun vs=>K (one vs) H
def Qs7 (ty:TypeId→Ty) (rs:List ResultVar) (K:V→Qb→Prop):Exit→List V→Qb→Prop
 | .normal,ts,H=>Xp9 ty rs ts H K
 | .ret,ts,H=>Xp9 ty rs ts H K
 | _,_,_=>False
theorem Qxr {C:Ctx} {im:Nat→Prop} {pl:Nat→Place} {w:World} {ts:List V} {H:Qb} {tmps:Array Value} (hts:TR im pl w ts tmps) (hH:HR im pl w H):∀ (rs:List ResultVar) (K:List V→Prop),Qj2 C.ty ts H rs K →
  ∃ vs cs,(rs.mapM (m:=Sem) fun | .tmp t=>pure (tmps.getD t undef) | .cell a t=>do loadVar t (← asAddr (tmps.getD a undef))).run C.P w=.ok cs w∧K vs∧vs.length=cs.length∧∀ j,VR im pl w (nth vs j) (cs.getD j undef):=by
 intro rs
 induction rs with
 | nil=>exact fun K h=>⟨[],[],by simp,h,rfl,fun j=>by simp [nth];exact .any _⟩
 | cons r rs ih =>
  intro K h;cases r with
  | tmp t =>
   obtain ⟨vs,cs,h1,h2,h3,h4⟩:=ih _ h;refine ⟨_,tmps.getD t undef::cs, ?_,h2,by simp [h3],fun j=>?_⟩
   ·simp only [List.mapM_cons,Sem.run_bind,Sem.run_pure,Result.andThen_ok,h1]
   ·cases j with
    | zero=>simpa [nth] using hts.2 t
    | succ j=>simpa [nth] using h4 j
  | cell a t =>
   obtain ⟨ht,h⟩:=h
   have hx:=hts.2 a
   have hL:=Qml (C:=C) (K:=fun v _=>Qj2 C.ty ts H rs fun vs=>K (v::vs)) ht h hx hH
   obtain ⟨v,vc,k1,k2,k3⟩:=hL;obtain ⟨vs,cs,h1,h2,h3,h4⟩:=ih _ k2;refine ⟨_,vc::cs, ?_,h2,by simp [h3],fun j=>?_⟩
   ·have hrun:(do loadVar t (← asAddr (tmps.getD a undef)):Sem Value).run C.P w=.ok vc w:=by
     cases hq:tmps.getD a undef with
     | pointer p =>
      cases p with
      | none=>rw [hq] at k1;simp [Instr.loadAt,Instr.sureAddr,Go.stuck,Sem.run] at k1
      | some ad=>rw [hq] at k1;simpa [Instr.loadAt,Instr.sureAddr,asAddr] using k1
     | _=>rw [hq] at k1;simp [Instr.loadAt,Instr.sureAddr,Go.stuck,Sem.run] at k1
    simp only [List.mapM_cons,Sem.run_bind,hrun,Result.andThen_ok,h1,Sem.run_pure]
   ·cases j with
    | zero=>simpa [nth] using k3
    | succ j=>simpa [nth] using h4 j
theorem Xqm {im:Nat→Prop} {pl:Nat→Place} {w:World} {vs:List V} {cs:List Value} (hl:vs.length=cs.length) (hv:∀ j,VR im pl w (nth vs j) (cs.getD j undef)):VR im pl w (one vs) (if h:cs.toArray.size=1 then cs.toArray[0] else .tuple cs.toArray):=by
 match vs,cs,hl,hv with
 | [],[],hl,hv=>exact .tup [] [] hl hv
 | [v],[c],hl,hv=>simpa [one,nth] using hv 0
 | v::v'::vs,c::c'::cs,hl,hv =>
  have:¬ (c::c'::cs).toArray.size=1:=by simp
  rw [dif_neg this];exact .tup _ _ hl hv
theorem Xoh {C:Ctx} {fn:Func} {tmps:Array Value} {R:Ending→World→Prop} {w0:World} {pl:Nat→Place}:∀ (ds:List Deferred) (w:World),DefOK pl w ds→(∀ d∈ds,∃ r,d.target=.collected r∧w0.heap.size≤r) →
  (∀ w',w'.os=w.os→w'.tape=w.tape→w'.output=w.output→w'.heap.size=w.heap.size→(∀ b,b<w0.heap.size→w'.heap[b]?=w.heap[b]?)→(∀ b,(∃ q cap,pl q=.at b cap)→w'.heap[b]?=w.heap[b]?)→(∀ a v,w.cell? a=some v→w'.cell? a=some v)→LeavesInM Fence.wide 0 C.P fn tmps R [] .returning w') →
  LeavesInM Fence.wide 0 C.P fn tmps R ds .returning w:=by
 intro ds
 induction ds with
 | nil=>exact fun w _ _ h=>h w rfl rfl rfl rfl (fun _ _=>rfl) (fun _ _=>rfl) (fun _ _ h=>h)
 | cons d ds ih =>
  intro w hd hb h;obtain ⟨r,hr,hblk,hlive⟩:=hd.each d (by simp)
  obtain ⟨r',hr',hge⟩:=hb d (by simp)
  rw [hr] at hr';injection hr' with hr'
  subst hr'
  have hne:∀ k,k≠r→(w.putObj r (.deferred none)).heap[k]?=w.heap[k]?:=by
   intro k hk;simp [World.putObj,Array.getElem?_setIfInBounds,Ne.symm hk]
  have hcell:∀ a v,w.cell? a=some v→(w.putObj r (.deferred none)).cell? a=some v:=by
   intro a v ha;by_cases hk:a.block=r
   ·unfold World.cell? at ha;rw [hk,hblk] at ha;cases ha
   ·exact Qin ha fun _=>hne _ hk
  refine ⟨by simp,.inl ⟨r,_,hr,run_takeDeferred hblk,ih _ ⟨(List.pairwise_cons.1 hd.nodup).2,fun d' hd'=>?_⟩ (fun d' hd'=>hb d' (by simp [hd'])) fun w' e1 e2 e3 e4 e5 e6 e7=>?_⟩⟩
  ·obtain ⟨q,h1,h2,h3⟩:=hd.each d' (by simp [hd'])
   refine ⟨q,h1, ?_,h3⟩
   have:q≠r:=by
    rintro rfl;exact (List.pairwise_cons.1 hd.nodup).1 d' hd' (hr.trans h1.symm)
   rw [hne q this];exact h2
  ·refine h w' (e1.trans rfl) (e2.trans rfl) (e3.trans rfl) (e4.trans (by simp [World.putObj])) (fun b hb=>(e5 b hb).trans (hne b (by omega))) (fun b hb=>(e6 b hb).trans (hne b ?_)) (fun a v ha=>e7 a v (hcell a v ha))
   rintro rfl;obtain ⟨q,cap,hq⟩:=hb;exact hlive q cap hq
theorem Fc.body {C:Ctx} {f:FuncId} {fn:Func} {c:Code} {args:List V} {H:Qb} {K:V→Qb→Prop} (hf:C.P.funcs[f]?=some fn) (hb:fn.body=some c) (hn:(fn.name == "runtime.NumGoroutine")=false)
  (h:T C none c (Qs7 C.ty fn.results.toList K) (args++List.replicate (fn.ntmps - args.length) .any) H):Fc C f args H K:=by
 refine ⟨⟨fn,hf,hn,by rw [hb];rfl⟩,fun im pl w vs hl hv hH=>(callsIn_wide (n:=0)).1 ?_⟩
 refine callsIn_of_wp_marks hf hb trivial ?_
 have hrel:Rel im pl w (args++List.replicate (fn.ntmps - args.length) .any) H { tmps:=vs.toArray++Array.replicate (fn.ntmps - vs.toArray.size) undef,defers:=[] }:=by
  refine ⟨⟨by simp [hl],fun i=>?_⟩,hH,.nil _ _⟩
  rw [Zy];split
  ·rename_i hi
   have:=hv i
   simpa [Array.getD_eq_getD_getElem?,Array.getElem?_append_left (show i<vs.toArray.size by simp;omega),List.getD] using this
  ·rename_i hi
   have:nth (List.replicate (fn.ntmps - args.length) V.any) (i - args.length)=.any:=by
    rw [Ze];simp [List.getD,List.getElem?_replicate];split<;>rfl
   rw [this];exact .any _
 refine wpIn_mono (h im pl w _ hrel) fun e a' w' hp=>?_
 have fin:∀ ts' H' im' pl',Xp9 C.ty fn.results.toList ts' H' K→Rel im' pl' w' ts' H' a'→Ext im pl w im' pl' w'→Marks w [] a'.defers→LeavesInM Fence.wide 0 C.P fn a'.tmps (Xo3 im pl w K) a'.defers .returning w':=by
  intro ts' H' im' pl' k1 k2 k3 k4;obtain ⟨nm,e1,k4⟩:=k4;rw [List.append_nil] at e1;subst e1;refine Xoh (w0:=w) (pl:=pl') a'.defers w' k2.df k4 fun w2 e1 e2 e3 e4 e5 e6 e7=>?_
  have hE2:Ext im pl w im' pl' w2:=⟨e1.trans k3.os,e2.trans k3.tape,e3.trans k3.output,by rw [e4];exact k3.size,k3.imm,k3.imn,k3.plo,k3.pln,fun b hb hn=>(e5 b hb).trans (k3.frame b hb hn)⟩
  have hH2:HR im' pl' w2 H':=by
   refine ⟨k2.hr.len,k2.hr.apart,fun r b cap hr=>by rw [e4];exact k2.hr.bound r b cap hr,fun b hb=>by rw [e4];exact k2.hr.imb b hb,k2.hr.inj,k2.hr.dead,k2.hr.virt,fun r b cap hr=>?_⟩
   obtain ⟨e,s,cs,cur,q1,q2,q3,q4,q5,q6⟩:=k2.hr.row r b cap hr;exact ⟨e,s,cs,cur,q1,by rw [e6 b ⟨r,cap,hr⟩];exact q2,q3,q4,q5,fun j=>(q6 j).world (fun a v _ ha=>e7 a v ha)⟩
  have hts2:TR im' pl' w2 ts' a'.tmps:=⟨k2.tr.1,fun i=>(k2.tr.2 i).world (fun a v _ ha=>e7 a v ha)⟩
  obtain ⟨vs',cs',h1,h2,h3,h4⟩:=Qxr (C:=C) hts2 hH2 fn.results.toList _ k1;refine ⟨_, ?_,one vs',H',im',pl',h2,Xqm h3 h4,hH2,hE2⟩;unfold results;simp only [Sem.run_bind,Array.mapM_eq_mapM_toList,Sem.run_map]
  erw [h1]
  rfl
 cases e with
 | normal=>obtain ⟨ts',H',im',pl',k1,k2,k3,k4⟩:=hp;exact fin ts' H' im' pl' k1 k2 k3 k4
 | ret=>obtain ⟨ts',H',im',pl',k1,k2,k3,k4⟩:=hp;exact fin ts' H' im' pl' k1 k2 k3 k4
 | exit id=>obtain ⟨ts',H',im',pl',k1,k2,k3,k4⟩:=hp;exact k1.elim
 | goto l=>obtain ⟨ts',H',im',pl',k1,k2,k3,k4⟩:=hp;exact k1.elim
 | panic _=>exact hp.elim
 | outgrown=>exact hp.elim
theorem Qk8 {n:Int} (h0:-9223372036854775808≤n) (h1:n≤9223372036854775807):IntKind.wrap .i64 n=n:=IntWalk.i64_in n ⟨h0,h1⟩
theorem Xmd (y:Ty) (cs:List V) (off:Nat):Qlm y cs off=if y.agg=true then .agg (win cs off y.size) else nth cs off:=rfl
theorem Xfu (cs:List V) (off:Nat):win cs off 0=[]:=rfl
theorem Xfv (cs:List V) (off n:Nat):win cs off (n+1)=nth cs off::win cs (off+1) n:=rfl
def ints (xs:List Int):List V:=xs.map (V.int .i64)
theorem Yj (xs:List Int):(ints xs).length=xs.length:=by simp [ints]
theorem Xhu (xs:List Int) (i:Nat) (h:i<xs.length):nth (ints xs) i=.int .i64 (xs.getD i 0):=by
 rw [Ze];simp [ints,List.getD,List.getElem?_map,List.getElem?_eq_getElem h]
theorem Ql (g:Nat→Option Nat) (xs:List Int):Qk g (ints xs)=ints xs:=by rw [Qj4];simp [ints,ren]
theorem Qa (xs:List Int):Qh (ints xs)=true:=by rw [Qwc];simp [ints,clo]
theorem Xp (xs:List Int):Xt (ints xs)=true:=by
 induction xs with
 | nil=>rfl
 | cons a l ih=>simpa [ints,Xt,plain] using ih
theorem Qf6 (xs:List Int):(ints xs).all Yq=true:=by simp [ints,Yq]
theorem Qvr (xs ys:List Int):ints (xs++ys)=ints xs++ints ys:=by simp [ints]
section
variable (C:Ctx) (ro:Option Nat) (cw:CW) (ty:TypeId→Ty) (Q:Exit→List V→Qb→Prop) (ts ts':List V) (H H':Qb) (K:V→Qb→Prop) (KP:V→Prop) (KL:List V→Qb→Prop)
@[congr] theorem Xs9 {uu:Prop} (h00:(True∧True)=uu) (c:Code) (h1:ts=ts') (h2:H=H'):wp C ro cw c Q ts H=wp C ro cw c Q ts' H':=by rw [h1,h2]
@[congr] theorem Xqi {uu:Prop} (h00:(True∧True)=uu) (ops:Array Oper) (l:List Oper) (h1:ts=ts') (h2:H=H'):Qcg ty cw ops KL l ts H=Qcg ty cw ops KL l ts' H':=by rw [h1,h2]
@[congr] theorem Xsd {uu:Prop} (h00:(True∧True)=uu) (op:Op) (h1:ts=ts') (h2:H=H'):opc ty cw op ts H K=opc ty cw op ts' H' K:=by rw [h1,h2]
@[congr] theorem Xpl {uu:Prop} (h00:(True∧True)=uu) (e:Exit) (h1:ts=ts') (h2:H=H'):Qfs KL Q e ts H=Qfs KL Q e ts' H':=by rw [h1,h2]
@[congr] theorem Xn3 {uu:Prop} (h00:(True∧True)=uu) (id:Nat) (e:Exit) (h1:ts=ts') (h2:H=H'):Jw id Q e ts H=Jw id Q e ts' H':=by rw [h1,h2]
@[congr] theorem Xly {uu:Prop} (h00:(True∧True)=uu) (e:Exit) (h1:ts=ts') (h2:H=H'):Qd6 Q e ts H=Qd6 Q e ts' H':=by rw [h1,h2]
@[congr] theorem Xrf {uu:Prop} (h00:(True∧True)=uu) (rs:List ResultVar) (e:Exit) (h1:ts=ts') (h2:H=H'):Qs7 ty rs K e ts H=Qs7 ty rs K e ts' H':=by rw [h1,h2]
@[congr] theorem Xqa {uu:Prop} (h00:(True∧True)=uu) (rs:List ResultVar) (KV:List V→Prop) (h1:ts=ts') (h2:H=H'):Qj2 ty ts H rs KV=Qj2 ty ts' H' rs KV:=by rw [h1,h2]
@[congr] theorem Xnf {uu:Prop} (h00:(True∧True)=uu) (ops:Array Oper) (g:Option (Nat × Bool)) (Y N:List V→Prop) (h1:ts=ts'):Qdh ops g ts Y N=Qdh ops g ts' Y N:=by rw [h1]
@[congr] theorem Xnd {uu:Prop} (h00:(True∧True)=uu) (ops:Array Oper) (g:Option (Nat × Bool)) (yes no:Prop) (h1:ts=ts'):Qcs ops g ts yes no=Qcs ops g ts' yes no:=by rw [h1]
@[congr] theorem Xt7 {uu:Prop} (h00:(True∧True)=uu) (f:FuncId) {args args':List V} (h1:args=args') (h2:H=H'):Fc C f args H K=Fc C f args' H' K:=by rw [h1,h2]
@[congr] theorem Xsu {uu:Prop} (h00:(True∧True)=uu) {f f':V} {args args':List V} (h0:f=f') (h1:args=args') (h2:H=H'):cwF C f args H K=cwF C f' args' H' K:=by rw [h0,h1,h2]
@[congr] theorem Xrt {uu:Prop} (h00:(True∧True)=uu) (y:Ty) (op:BinOp) {a a' b b':V} (h1:a=a') (h2:b=b') (h3:H=H'):Qey y op a b H KP=Qey y op a' b' H' KP:=by rw [h1,h2,h3]
@[congr] theorem Xr9 {uu:Prop} (h00:(True∧True)=uu) (op:UnOp) {a a':V} (h1:a=a'):unw op a KP=unw op a' KP:=by rw [h1]
@[congr] theorem Xok {uu:Prop} (h00:(True∧True)=uu) {c c' a a' b b':V} (h0:c=c') (h1:a=a') (h2:b=b'):Qi0 c a b KP=Qi0 c' a' b' KP:=by rw [h0,h1,h2]
@[congr] theorem Xox {uu:Prop} (h00:(True∧True)=uu) (y:Ty) {a a':V} (h1:a=a'):Qet y a KP=Qet y a' KP:=by rw [h1]
@[congr] theorem Xq8 {uu:Prop} (h00:(True∧True)=uu) (i:Nat) {a a':V} (h1:a=a'):Qs4 a i KP=Qs4 a' i KP:=by rw [h1]
@[congr] theorem Xqo {uu:Prop} (h00:(True∧True)=uu) {a a':V} (h1:a=a'):Qoe a KP=Qoe a' KP:=by rw [h1]
@[congr] theorem Xop {uu:Prop} (h00:(True∧True)=uu) (y:Ty) {a a':V} (h1:a=a') (h2:H=H'):Qc7 y a H KP=Qc7 y a' H' KP:=by rw [h1,h2]
@[congr] theorem Xlt {uu:Prop} (h00:(True∧True)=uu) (y:Ty) {a a' v v':V} (KH:Qb→Prop) (h1:a=a') (h2:v=v') (h3:H=H'):Qcj y a v H KH=Qcj y a' v' H' KH:=by rw [h1,h2,h3]
@[congr] theorem Xrs {uu:Prop} (h00:(True∧True)=uu) (t:TypeId) {a a':V} (h1:a=a') (h2:H=H'):Xfa t a H K=Xfa t a' H' K:=by rw [h1,h2]
@[congr] theorem Xn0 {uu:Prop} (h00:(True∧True)=uu) (t:TypeId) {a a':List (Nat × V)} (h1:a=a'):Qeu ty t a KP=Qeu ty t a' KP:=by rw [h1]
@[congr] theorem Xpi {uu:Prop} (h00:(True∧True)=uu) (t:TypeId) {b b':Bool} (n:Nat) {a a':List (Nat × V)} (hb:b=b') (h1:a=a') (h2:H=H'):Quf ty t b n a H K=Quf ty t b' n a' H' K:=by rw [hb,h1,h2]
@[congr] theorem Xqs {uu:Prop} (h00:(True∧True)=uu) (t:TypeId) (n:Nat) {a a':List (Nat × V)} {KQ:V→Prop} (h1:a=a'):Qoi ty t n a KQ=Qoi ty t n a' KQ:=by rw [h1]
@[congr] theorem Xkg {uu:Prop} (h00:(True∧True)=uu) (t:TypeId) (n:Nat) {a a':List (Nat × V)} (h1:a=a') (h2:H=H'):Qdc ty t n a H K=Qdc ty t n a' H' K:=by rw [h1,h2]
@[congr] theorem Xon {uu:Prop} (h00:(True∧True)=uu) (t:TypeId) {a a' b b':V} (h1:a=a') (h2:b=b') (h3:H=H'):Qci ty t a b H K=Qci ty t a' b' H' K:=by rw [h1,h2,h3]
@[congr] theorem Xlv {uu:Prop} (h00:(True∧True)=uu) (y:Ty) {a a':V} {lo lo' hi hi':Option V} (h1:a=a') (h2:lo=lo') (h3:hi=hi') (h4:H=H'):Xy ty y a lo hi H KP=Xy ty y a' lo' hi' H' KP:=by rw [h1,h2,h3,h4]
@[congr] theorem Xey {uu:Prop} (h00:(True∧True)=uu) (y:Ty) (f:Nat) {a a':V} (h1:a=a'):Qeo y a f KP=Qeo y a' f KP:=by rw [h1]
@[congr] theorem Xnh {uu:Prop} (h00:(True∧True)=uu) (y:Ty) (f:Nat) {a a':V} (h1:a=a'):Qen ty y a f KP=Qen ty y a' f KP:=by rw [h1]
@[congr] theorem Xen {uu:Prop} (h00:(True∧True)=uu) (y:Ty) {a a' b b':V} (h1:a=a') (h2:b=b'):Ys ty y a b KP=Ys ty y a' b' KP:=by rw [h1,h2]
@[congr] theorem Xna {uu:Prop} (h00:(True∧True)=uu) (y:Ty) {a a' b b':V} (h1:a=a') (h2:b=b'):Qaj ty y a b KP=Qaj ty y a' b' KP:=by rw [h1,h2]
@[congr] theorem Xkf {uu:Prop} (h00:(True∧True)=uu) (b:Builtin) (ats:List TypeId) {a a':List V} (h1:a=a') (h2:H=H'):Qr ty b ats a H K=Qr ty b ats a' H' K:=by rw [h1,h2]
@[congr] theorem Xrv {uu:Prop} (h00:(True∧True)=uu) (y:Ty) (e:TypeId) {a a' b b':V} (h1:a=a') (h2:b=b') (h3:H=H'):Qbb y e a b H K=Qbb y e a' b' H' K:=by rw [h1,h2,h3]
@[congr] theorem Xqt {uu:Prop} (h00:(True∧True)=uu) (y:Ty) {a a':V} (h1:a=a'):lenw y a KP=lenw y a' KP:=by rw [h1]
@[congr] theorem Xud {uu:Prop} (h00:(True∧True)=uu) (c:Code) (h1:ts=ts') (h2:H=H'):T C ro c Q ts H=T C ro c Q ts' H':=by rw [h1,h2]
@[congr] theorem Xou {uu:Prop} (h00:(True∧True)=uu) (id:Nat) (ops:Array Oper) (h1:ts=ts') (h2:H=H'):Xju C ro id ops Q ts H=Xju C ro id ops Q ts' H':=by rw [h1,h2]
@[congr] theorem Xor {uu:Prop} (h00:(True∧True)=uu) {v v':V} (sel:List Nat) (h1:v=v') (h2:H=H'):Qb6 sel K v H=Qb6 sel K v' H':=by rw [h1,h2]
@[congr] theorem Xoo {uu:Prop} (h00:(True∧True)=uu) (b:(Exit→List V→Qb→Prop)→List V→Qb→Prop) (n:Nat) (h1:ts=ts') (h2:H=H'):Qkn b Q n ts H=Qkn b Q n ts' H':=by rw [h1,h2]
theorem Xlf:wp C ro cw .skip Q ts H=Q .normal ts H:=rfl
theorem Xo8 (x y:Code):wp C ro cw (.seq x y) Q ts H=wp C ro cw x (Qfs (wp C ro cw y Q) Q) ts H:=rfl
def Qg1 (v:V) (x y:Prop):Prop:=match v with
 | .bool b=>(b=true→x)∧(b=false→y)
 | _=>False
@[congr] theorem Xoz {uu:Prop} (h00:(True∧True)=uu) {v v':V} (x y:Prop) (h:v=v'):Qg1 v x y=Qg1 v' x y:=by rw [h]
theorem Xfs (c:Operand) (x y:Code):wp C ro cw (.cond c x y) Q ts H=Qg1 (ev ts c) (wp C ro cw x Q ts H) (wp C ro cw y Q ts H):=rfl
theorem Xft (id:Nat) (c:Code):wp C ro cw (.block id c) Q ts H=wp C ro cw c (Jw id Q) ts H:=rfl
theorem Xlg (c:Code):wp C ro cw (.loop c) Q ts H=T C ro (.loop c) Q ts H:=rfl
theorem Qrv (f:Operand) (ps:Array Tmp) (x y:Code):wp C ro cw (.rangeFunc f ps x y) Q ts H=T C ro (.rangeFunc f ps x y) Q ts H:=rfl
theorem Xlh (id:Nat):wp C ro cw (.exit id) Q ts H=Q (.exit id) ts H:=rfl
theorem Xfq (c:Code):wp C ro cw (.scope c) Q ts H=wp C ro cw c (Qd6 Q) ts H:=rfl
theorem Xfr (l:Nat):wp C ro cw (.label l) Q ts H=Q .normal ts H:=rfl
theorem Xo9:wp C ro cw .ret Q ts H=Q .ret ts H:=rfl
theorem Qug:Qfs KL Q .normal ts H=KL ts H:=rfl
theorem Xci (id:Nat):Qfs KL Q (.exit id) ts H=Q (.exit id) ts H:=rfl
theorem Xgi:Qfs KL Q .ret ts H=Q .ret ts H:=rfl
theorem Qp3 (id:Nat):Jw id Q .normal ts H=Q .normal ts H:=rfl
theorem Qzx (id:Nat):Jw id Q .ret ts H=Q .ret ts H:=rfl
theorem Qwl (id:Nat):Jw id Q (.exit id) ts H=Q .normal ts H:=by simp [Jw]
theorem Qtu (id id':Nat) (h:(id'==id)=false):Jw id Q (.exit id') ts H=Q (.exit id') ts H:=by simp at h;simp [Jw,h]
theorem Qps:Qd6 Q .normal ts H=Q .normal ts H:=rfl
theorem Qxp:Qd6 Q .ret ts H=Q .ret ts H:=rfl
theorem Quh (id:Nat):Qd6 Q (.exit id) ts H=Q (.exit id) ts H:=rfl
theorem Xjs (rs:List ResultVar):Qs7 ty rs K .ret ts H=Qj2 ty ts H rs (fun vs=>K (one vs) H):=rfl
theorem Qv4 (rs:List ResultVar):Qs7 ty rs K .normal ts H=Qj2 ty ts H rs (fun vs=>K (one vs) H):=rfl
theorem Xg2 (KV:List V→Prop):Qj2 ty ts H [] KV=KV []:=rfl
theorem Xg1 (KV:List V→Prop) (t:Tmp) (rs:List ResultVar):Qj2 ty ts H (.tmp t::rs) KV=Qj2 ty ts H rs fun vs=>KV (nth ts t::vs):=rfl
theorem Xcs (KV:List V→Prop) (a:Tmp) (t:TypeId) (rs:List ResultVar):Qj2 ty ts H (.cell a t::rs) KV=((ty t).ok=true∧Qc7 (ty t) (nth ts a) H fun v=>Qj2 ty ts H rs fun vs=>KV (v::vs)):=rfl
theorem Xmp (v:V):one [v]=v:=rfl
theorem Xmq:one []=.tup []:=rfl
theorem Xmn (v u:V) (l:List V):one (v::u::l)=.tup (v::u::l):=rfl
theorem Qqv (ops:Array Oper) (d:Option Tmp) (op:Op) (t:TypeId) (p:String) (e:Array Edge) (l:List Oper):Qcg ty cw ops KL (⟨d,op,t,p,e,none⟩::l) ts H=opc ty cw op ts H fun v H'=>Qcg ty cw ops KL l (Yo ts d v) H':=rfl
theorem Qx7 (ops:Array Oper) (d:Option Tmp) (op:Op) (t:TypeId) (p:String) (e:Array Edge) (j:Nat) (b:Bool) (l:List Oper):Qcg ty cw ops KL (⟨d,op,t,p,e,some (j,b)⟩::l) ts H =
  Qdh ops (some (j,b)) ts (fun ts=>opc ty cw op ts H fun v H'=>Qcg ty cw ops KL l (Yo ts d v) H') (fun ts=>Qcg ty cw ops KL l (Yo ts d (.tup [])) H):=rfl
def Qct (v:V) (d:Tmp) (want:Bool) (ts:List V) (Y N:List V→Prop):Prop:=match v with
 | .bool b=>(b=true→(match want with | true=>Y (upd ts d (.bool true)) | false=>N (upd ts d (.bool true))))∧(b=false→(match want with | true=>N (upd ts d (.bool false)) | false=>Y (upd ts d (.bool false))))
 | .tup _=>N ts
 | _=>False
@[congr] theorem Xng {uu:Prop} (h00:(True∧True)=uu) {v v':V} (d:Tmp) (want:Bool) (Y N:List V→Prop) (h:v=v') (h1:ts=ts'):Qct v d want ts Y N=Qct v' d want ts' Y N:=by rw [h,h1]
def Qgc:List Oper→Nat→Option Tmp
 | [],_=>none
 | o::_,0=>o.dst
 | _::l,n+1=>Qgc l n
theorem Xjt (l:List Oper) (j:Nat):Qgc l j=(l[j]?).bind (·.dst):=by
 induction l generalizing j with
 | nil=>rfl
 | cons a l ih=>cases j<;>simp [Qgc,ih]
def Qsx (d:Option Tmp) (ts:List V) (want:Bool) (Y N:List V→Prop):Prop:=match d with
 | some d=>Qct (nth ts d) d want ts Y N
 | none=>False
theorem Qlx (l:List Oper) (j:Nat) (want:Bool) (Y N:List V→Prop):Qdh l.toArray (some (j,want)) ts Y N=Qsx (Qgc l j) ts want Y N:=by
 simp only [Qdh,Xjt,List.getElem?_toArray];cases (l[j]?).bind (·.dst)<;>rfl
@[congr] theorem Xne {uu:Prop} (h00:(True∧True)=uu) {d d':Option Tmp} (want:Bool) (Y N:List V→Prop) (h1:d=d') (h2:ts=ts'):Qsx d ts want Y N=Qsx d' ts' want Y N:=by rw [h1,h2]
theorem Qhn (d:Tmp) (want:Bool) (Y N:List V→Prop):Qsx (some d) ts want Y N=Qct (nth ts d) d want ts Y N:=rfl
theorem Qy3 (l:List V) (d:Tmp) (want:Bool) (Y N:List V→Prop):Qct (.tup l) d want ts Y N=N ts:=rfl
theorem Qza (d:Option Tmp) (op:Op) (t:TypeId) (p:String) (e:Array Edge) (g:Option (Nat × Bool)) (l:List Oper):Qgc (⟨d,op,t,p,e,g⟩::l) 0=d:=rfl
theorem Qzb (o:Oper) (l:List Oper) (n:Nat):Qgc (o::l) (n+1)=Qgc l n:=rfl
theorem Xhn (x:Operand):opc ty cw (.move x) ts H K=K (ev ts x) H:=rfl
theorem Qye (x:Operand):opc ty cw (.assign x) ts H K=K (ev ts x) H:=rfl
theorem Xhm (c a b:Operand):opc ty cw (.pick c a b) ts H K=Qi0 (ev ts c) (ev ts a) (ev ts b) fun v=>K v H:=rfl
theorem Xdy (o:BinOp) (t:TypeId) (x y:Operand) (t':TypeId):opc ty cw (.binOp o t x y t') ts H K=((ty t).ok=true∧Qey (ty t) o (ev ts x) (ev ts y) H fun v=>K v H):=rfl
theorem Xhk (o:UnOp) (t:TypeId) (x:Operand):opc ty cw (.unOp o t x) ts H K=unw o (ev ts x) fun v=>K v H:=rfl
theorem Qu1 (s d:TypeId) (x:Operand):opc ty cw (.convert s d x) ts H K=((ty s).ok=true∧(ty d).ok=true∧Qet (ty d) (ev ts x) fun v=>K v H):=rfl
theorem Qsf (fn:Go.Fn) (a b:List Operand):opc ty cw (.makeFunc fn a.toArray b.toArray) ts H K=K (.fn fn (a.map (ev ts)) (b.map (ev ts))) H:=rfl
theorem Qu0 (x:Operand) (i:Nat):opc ty cw (.extract x i) ts H K=Qs4 (ev ts x) i fun v=>K v H:=rfl
theorem Qse (x:Operand):opc ty cw (.nilCheck x) ts H K=Qoe (ev ts x) fun v=>K v H:=rfl
theorem Xho (t:TypeId) (x:Operand):opc ty cw (.load t x) ts H K=((ty t).ok=true∧Qc7 (ty t) (ev ts x) H fun v=>K v H):=rfl
theorem Xdt (t:TypeId) (x v:Operand):opc ty cw (.store t x v) ts H K=((ty t).ok=true∧Qcj (ty t) (ev ts x) (ev ts v) H fun H'=>K .any H'):=rfl
theorem Xmm (t:TypeId) (x:Operand):opc ty cw (.box t x) ts H K=Xfa t (ev ts x) H K:=rfl
theorem Xdz (t:TypeId):opc ty cw (.alloc t) ts H K=((ty t).ok=true∧K (.ptr H.length 0) (H++[some ⟨t,(Ja (ty t)).length,Ja (ty t)⟩])):=rfl
theorem Xdx (t:TypeId) (ps:List (Nat × Operand)):opc ty cw (.build t ps.toArray) ts H K=((ty t).ok=true∧Qeu ty t (ps.map fun p=>(p.1,ev ts p.2)) fun v=>K v H):=rfl
theorem Qob (t:TypeId) (n:Nat) (ps:List (Nat × Operand)):opc ty cw (.buildSlice t n ps.toArray) ts H K=((ty t).ok=true∧Quf ty t (Qgo ps) n (ps.map fun p=>(p.1,ev ts p.2)) H K):=rfl
theorem Qpy (t:TypeId) (l c:Operand):opc ty cw (.makeSlice t l c) ts H K=((ty t).ok=true∧Qci ty t (ev ts l) (ev ts c) H K):=rfl
theorem Xdu (t:TypeId) (x:Operand) (lo hi:Option Operand):opc ty cw (.slice t x lo hi none) ts H K=((ty t).ok=true∧Xy ty (ty t) (ev ts x) (lo.map (ev ts)) (hi.map (ev ts)) H fun v=>K v H):=by simp [opc,opw]
def fao (f:Option (Nat × Nat)) (KO:Nat→Prop):Prop:=match f with
 | some (o,u)=>(ty u).ok=true∧(ty u).size≠0∧KO o
 | none=>False
@[congr] theorem Xsr {uu:Prop} (h00:(True∧True)=uu) {f f':Option (Nat × Nat)} (KO:Nat→Prop) (h:f=f'):fao ty f KO=fao ty f' KO:=by rw [h]
def faw (f:Option (Nat × Nat)) (x:V) (KP:V→Prop):Prop:=match x with
 | .ptr r off=>fao ty f fun o=>KP (.ptr r (off+o))
 | .rp cs off=>fao ty f fun o=>KP (.rp cs (off+o))
 | _=>False
@[congr] theorem Xsq {uu:Prop} (h00:(True∧True)=uu) {f f':Option (Nat × Nat)} {x x':V} (h:f=f') (h1:x=x'):faw ty f x KP=faw ty f' x' KP:=by rw [h,h1]
theorem Xni (f:Option (Nat × Nat)) (r off:Nat):faw ty f (.ptr r off) KP=fao ty f fun o=>KP (.ptr r (off+o)):=rfl
theorem Xq7 (f:Option (Nat × Nat)) (cs:List V) (off:Nat):faw ty f (.rp cs off) KP=fao ty f fun o=>KP (.rp cs (off+o)):=rfl
theorem Qfg (t:TypeId) (x:Operand) (f:Nat):opc ty cw (.fieldAddr t x f) ts H K=((ty t).ok=true∧faw ty ((ty t).fs[f]?) (ev ts x) fun v=>K v H):=by
 simp only [opc,opw,Qeo,faw,fao]
 congr 1
 cases (ty t).fs[f]? with
 | none=>cases ev ts x<;>rfl
 | some p=>obtain ⟨o,u⟩:=p;cases ev ts x<;>simp [and_assoc]
theorem Xdw (t:TypeId) (x:Operand) (f:Nat):opc ty cw (.field t x f) ts H K=((ty t).ok=true∧Qen ty (ty t) (ev ts x) f fun v=>K v H):=rfl
def Qop (y:Ty) (x i:V) (H:Qb) (KP:V→Prop):Prop:=(match x with | .ref r _ _=>(Qc H r).isSome=true | .ptr r _=>(Qc H r).isSome=true | _=>True)∧Ys ty y x i KP
@[congr] theorem Xq3 {uu:Prop} (h00:(True∧True)=uu) (y:Ty) {x x' i i':V} (h1:x=x') (h2:i=i') (h3:H=H'):Qop ty y x i H KP=Qop ty y x' i' H' KP:=by rw [h1,h2,h3]
theorem Qi1 (t:TypeId) (x i:Operand):opc ty cw (.indexAddr t x i) ts H K=((ty t).ok=true∧Qop ty (ty t) (ev ts x) (ev ts i) H fun v=>K v H):=rfl
def Qvt (e:Option Nat) (n:Nat) (i:Int) (KO:Nat→Prop):Prop:=match e with
 | some e=>(ty e).ok=true∧0≤i∧i<n∧KO (i.toNat*(ty e).size)
 | none=>False
@[congr] theorem Xq5 {uu:Prop} (h00:(True∧True)=uu) {e e':Option Nat} (n:Nat) (i:Int) (KO:Nat→Prop) (h:e=e'):Qvt ty e n i KO=Qvt ty e' n i KO:=by rw [h]
theorem Xnc (y:Ty) (n:Nat) (cs:List V) (k:IntKind) (i:Int):Qop ty y (.sl n cs) (.int k i) H KP=Qvt ty y.sl n i fun o=>KP (.rp cs o):=by
 unfold Qop Ys Qvt;cases y.sl<;>simp
theorem Xi9 (y:Ty) (r off n:Nat) (k:IntKind) (i:Int):Qop ty y (.ref r off n) (.int k i) H KP=((Qc H r).isSome=true∧Qvt ty y.sl n i fun o=>KP (.ptr r (off+o))):=by
 unfold Qop Ys Qvt;cases y.sl<;>simp
theorem Xdv (t:TypeId) (x i:Operand):opc ty cw (.index t x i) ts H K=((ty t).ok=true∧Qaj ty (ty t) (ev ts x) (ev ts i) fun v=>K v H):=rfl
theorem Xhp (f:Operand) (xs:List Operand) (ats:Array TypeId):opc ty cw (.call ⟨.value f,xs.toArray,ats⟩) ts H K=cw (ev ts f) (xs.map (ev ts)) H K:=rfl
theorem Qu2 (b:Builtin) (xs:List Operand) (ats:List TypeId):opc ty cw (.call ⟨.builtin b,xs.toArray,ats.toArray⟩) ts H K=Qr ty b ats (xs.map (ev ts)) H K:=rfl
theorem Xrj (g:FuncId) (xs ys args:List V):cwF C (.fn (.func g) xs ys) args H K=Fc C g (xs++args++ys) H K:=rfl
theorem Xq9 (t:Tmp):ev ts (.tmp t)=nth ts t:=rfl
theorem Xrc (k:IntKind) (n:Int):ev ts (.const (.int k n))=.int k n:=rfl
theorem Xno (b:Bool):ev ts (.const (.bool b))=.bool b:=rfl
theorem Xrb:ev ts (.const (.slice none 0 0))=.nil:=rfl
theorem Xnl:ev ts (.const (.pointer none))=.nilp:=rfl
theorem Xnm:ev ts (.const .nilFunc)=.nilf:=rfl
theorem Xra (s:ByteArray):ev ts (.const (.string s))=.str s:=rfl
theorem Xrd (cs:List Value):ev ts (.const (.agg cs.toArray))=.agg (cs.map cv1):=rfl
theorem Xnn (f:FuncId):ev ts (.func f)=.fn (.func f) [] []:=rfl
theorem Qli (i:Nat) (v:V):Yo ts (some i) v=upd ts i v:=rfl
theorem Qlj (v:V):Yo ts none v=ts:=rfl
theorem Xfy (a v:V) (l:List V):upd (a::l) 0 v=v::l:=rfl
theorem Xfz (a v:V) (l:List V) (n:Nat):upd (a::l) (n+1) v=a::upd l n v:=rfl
theorem Xhr (a:V) (l:List V):nth (a::l) 0=a:=rfl
theorem Xht (a:V) (l:List V) (n:Nat):nth (a::l) (n+1)=nth l n:=rfl
theorem Xkl (y:Ty) (op:BinOp) (k k':IntKind) (a b:Int):Qey y op (.int k a) (.int k' b) H KP=Ke op k a k' b KP:=rfl
theorem Qp5 (y:Ty) (a b:Bool):Qey y .eql (.bool a) (.bool b) H KP=(y.bl=true∧KP (.bool (a==b))):=rfl
theorem Qp4 (y:Ty) (a b:Bool):Qey y .neq (.bool a) (.bool b) H KP=(y.bl=true∧KP (.bool (!(a==b)))):=rfl
theorem Ql7 (y:Ty):Qey y .eql .nil .nil H KP=(y.sl.isSome=true∧KP (.bool true)):=rfl
theorem Xi8 (k:IntKind) (a b:Int):Ke .add k a k b KP=KP (.int k (k.wrap (a+b))):=by simp [Ke]
theorem Xiw (k:IntKind) (a b:Int):Ke .sub k a k b KP=KP (.int k (k.wrap (a - b))):=by simp [Ke]
theorem Xi0 (k:IntKind) (a b:Int):Ke .mul k a k b KP=KP (.int k (k.wrap (a*b))):=by simp [Ke]
theorem Xi5 (k:IntKind) (a b:Int):Ke .eql k a k b KP=KP (.bool (a==b)):=by simp [Ke]
theorem Xiz (k:IntKind) (a b:Int):Ke .neq k a k b KP=KP (.bool (a != b)):=by simp [Ke]
theorem Xi1 (k:IntKind) (a b:Int):Ke .lss k a k b KP=KP (.bool (decide (a<b))):=by simp [Ke]
theorem Xi2 (k:IntKind) (a b:Int):Ke .leq k a k b KP=KP (.bool (decide (a≤b))):=by simp [Ke]
theorem Xi3 (k:IntKind) (a b:Int):Ke .gtr k a k b KP=KP (.bool (decide (b<a))):=by simp [Ke]
theorem Xi4 (k:IntKind) (a b:Int):Ke .geq k a k b KP=KP (.bool (decide (b≤a))):=by simp [Ke]
theorem Xlm (k:IntKind) (n:Int):unw .neg (.int k n) KP=KP (.int k (k.wrap (0 - n))):=rfl
theorem Xll (b:Bool):unw .not (.bool b) KP=KP (.bool (!b)):=rfl
theorem Xjo (vs:List V) (i:Nat):Qs4 (.tup vs) i KP=(i<vs.length∧KP (nth vs i)):=rfl
theorem Xmw (f:FuncId) (xs ys:List V):Qoe (.fn (.func f) xs ys) KP=KP (.fn (.func f) xs ys):=rfl
theorem Qyj (f:Nat) (xs ys:List V):Qoe (.fn (.yield f) xs ys) KP=KP (.fn (.yield f) xs ys):=rfl
theorem Xhx (r off:Nat):Qoe (.ptr r off) KP=KP (.ptr r off):=rfl
def Xa7 (y:Ty) (row:Option Row) (off:Nat) (KP:V→Prop):Prop:=match row with
 | some row=>off+y.size≤row.cs.length∧KP (Qlm y row.cs off)
 | none=>False
@[congr] theorem Xoq {uu:Prop} (h00:(True∧True)=uu) (y:Ty) {row row':Option Row} (off:Nat) (h:row=row'):Xa7 y row off KP=Xa7 y row' off KP:=by rw [h]
theorem Xed (y:Ty) (r off:Nat):Qc7 y (.ptr r off) H KP=Xa7 y (Qc H r) off KP:=rfl
def Qnp (y:Ty) (row:Option Row) (r off:Nat) (v:V) (H:Qb) (KH:Qb→Prop):Prop:=match row with
 | some row=>off+y.size≤row.cs.length∧(cellsOf v).length=y.size∧(cellsOf v).all Yq=true∧KH (H.set r (some ⟨row.e,row.s,Qa2 row.cs off (cellsOf v)⟩))
 | none=>False
@[congr] theorem Xlu {uu:Prop} (h00:(True∧True)=uu) (y:Ty) {row row':Option Row} (r off:Nat) (v:V) (KH:Qb→Prop) (h:row=row'):Qnp y row r off v H KH=Qnp y row' r off v H KH:=by rw [h]
theorem Qxe (y:Ty) (r off:Nat) (v:V) (KH:Qb→Prop):Qcj y (.ptr r off) v H KH=Qnp y (Qc H r) r off v H KH:=rfl
def Qgn (o:Option (List V)) (KV:List V→Prop):Prop:=match o with
 | some l=>KV l
 | none=>False
@[congr] theorem Xqh {uu:Prop} (h00:(True∧True)=uu) {o o':Option (List V)} (KV:List V→Prop) (h:o=o'):Qgn o KV=Qgn o' KV:=by rw [h]
def bwo (o:Option (Nat × Nat)) (t:TypeId) (ps:List (Nat × V)) (KP:V→Prop):Prop:=match o with
 | some (_,e)=>(ty e).ok=true∧Qgn (Jz (fun i=>some (i*(ty e).size,(ty e).size)) (Ja (ty t)) ps) fun out=>KP (.agg out)
 | none=>(ty t).fs≠[]∧(ty t).fs.all (fun p=>(ty p.2).ok)=true∧Qgn (Jz (fun i=>((ty t).fs[i]?).map fun p=>(p.1,(ty p.2).size)) (Ja (ty t)) ps) fun out=>KP (.agg out)
@[congr] theorem Xsx {uu:Prop} (h00:(True∧True)=uu) {o o':Option (Nat × Nat)} (t:TypeId) {ps ps':List (Nat × V)} {KP:V→Prop} (h:o=o') (h1:ps=ps'):bwo ty o t ps KP=bwo ty o' t ps' KP:=by rw [h,h1]
theorem Xkd (t:TypeId) (ps:List (Nat × V)) (KP:V→Prop):bwo ty none t ps KP=((ty t).fs≠[]∧(ty t).fs.all (fun p=>(ty p.2).ok)=true∧Qgn (Jz (fun i=>((ty t).fs[i]?).map fun p=>(p.1,(ty p.2).size)) (Ja (ty t)) ps) fun out=>KP (.agg out)):=rfl
theorem Xkc (n e:Nat) (t:TypeId) (ps:List (Nat × V)) (KP:V→Prop):bwo ty (some (n,e)) t ps KP=((ty e).ok=true∧Qgn (Jz (fun i=>some (i*(ty e).size,(ty e).size)) (Ja (ty t)) ps) fun out=>KP (.agg out)):=rfl
theorem Qri (t:TypeId) (ps:List (Nat × V)):Qeu ty t ps KP=bwo ty (ty t).arr t ps KP:=by
 unfold Qeu Xkh Qzs bwo Qgn;cases (ty t).arr<;>rfl
def bso (e:Option Nat) (len:Nat) (ps:List (Nat × V)) (H:Qb) (K:V→Qb→Prop):Prop:=match e with
 | some e=>(ty e).ok=true∧len*(ty e).size≤16777216∧0<(ty e).size∧Qgn (Jz (fun i=>some (i*(ty e).size,(ty e).size)) (List.replicate (len*(ty e).size) .any) ps) fun out=>K (.ref H.length 0 len) (H++[some ⟨e,(ty e).size,out⟩])
 | none=>False
@[congr] theorem Xsy {uu:Prop} (h00:(True∧True)=uu) {e e':Option Nat} (len:Nat) {ps ps':List (Nat × V)} (h:e=e') (h1:ps=ps') (h2:H=H'):bso ty e len ps H K=bso ty e' len ps' H' K:=by rw [h,h1,h2]
theorem Xki (e len:Nat) (ps:List (Nat × V)):bso ty (some e) len ps H K=((ty e).ok=true∧len*(ty e).size≤16777216∧0<(ty e).size∧Qgn (Jz (fun i=>some (i*(ty e).size,(ty e).size)) (List.replicate (len*(ty e).size) .any) ps) fun out=>K (.ref H.length 0 len) (H++[some ⟨e,(ty e).size,out⟩])):=rfl
def lto (e:Option Nat) (len:Nat) (ps:List (Nat × V)) (KQ:V→Prop):Prop:=match e with
 | some e=>(ty e).ok=true∧len*(ty e).size≤16777216∧0<(ty e).size∧Qgn (Jz (fun i=>some (i*(ty e).size,(ty e).size)) (List.replicate (len*(ty e).size) .any) ps) fun out=>KQ (.sl len out)
 | none=>False
@[congr] theorem Xsk {uu:Prop} (h00:(True∧True)=uu) {e e':Option Nat} (len:Nat) {ps ps':List (Nat × V)} {KQ:V→Prop} (h:e=e') (h1:ps=ps'):lto ty e len ps KQ=lto ty e' len ps' KQ:=by rw [h,h1]
theorem Xid (e len:Nat) (ps:List (Nat × V)) (KQ:V→Prop):lto ty (some e) len ps KQ=((ty e).ok=true∧len*(ty e).size≤16777216∧0<(ty e).size∧Qgn (Jz (fun i=>some (i*(ty e).size,(ty e).size)) (List.replicate (len*(ty e).size) .any) ps) fun out=>KQ (.sl len out)):=rfl
theorem Xm3 (t:TypeId) (len:Nat) (ps:List (Nat × V)) (KQ:V→Prop):Qoi ty t len ps KQ=lto ty (ty t).sl len ps KQ:=by
 unfold Qoi lto Qgn
 rfl
theorem Qns (t:TypeId) (len:Nat) (ps:List (Nat × V)):Quf ty t true len ps H K=Qoi ty t len ps fun v=>K v H:=rfl
theorem Qr5 (t:TypeId) (len:Nat) (ps:List (Nat × V)):Quf ty t false len ps H K=Qdc ty t len ps H K:=rfl
theorem Xik:Qgo []=false:=rfl
theorem Xij (a:Nat × Operand):Qgo [a]=false:=rfl
theorem Xii (a b:Nat × Operand) (r:List (Nat × Operand)):Qgo (a::b::r)=Qvk (a::b::r):=rfl
theorem Xih:Qvk []=true:=rfl
theorem Qyp (i:Nat) (c:Value) (r:List (Nat × Operand)):Qvk ((i,.const c)::r)=Qvk r:=rfl
theorem Xig (i t:Nat) (r:List (Nat × Operand)):Qvk ((i,.tmp t)::r)=false:=rfl
theorem Xef (i t:Nat) (r:List (Nat × Operand)):Qvk ((i,.func t)::r)=false:=rfl
theorem Qfa (t:TypeId) (len:Nat) (ps:List (Nat × V)):Qdc ty t len ps H K=bso ty (ty t).sl len ps H K:=by
 unfold Qdc bso Qgn
 rfl
theorem Xb0 (place:Nat→Option (Nat × Nat)) (cs:List V):Jz place cs []=some cs:=rfl
def Xfx (o:Option (Nat × Nat)) (place:Nat→Option (Nat × Nat)) (cs:List V) (v:V) (rest:List (Nat × V)):Option (List V):=match o with
 | none=>none
 | some (off,size)=>if kn v=true∧(cellsOf v).length=size∧off+(cellsOf v).length≤cs.length then Jz place (Qa2 cs off (cellsOf v)) rest else none
theorem Qw7 (place:Nat→Option (Nat × Nat)) (cs:List V) (i:Nat) (v:V) (rest:List (Nat × V)):Jz place cs ((i,v)::rest)=Xfx (place i) place cs v rest:=rfl
theorem Xqy (k:IntKind) (n:Int):kn (.int k n)=true:=rfl
theorem Xm8 (b:Bool):kn (.bool b)=true:=rfl
theorem Xqu (b:ByteArray):kn (.str b)=true:=rfl
theorem Xqx:kn .nil=true:=rfl
theorem Xtn (n:Nat) (cs:List V):kn (.sl n cs)=true:=rfl
theorem Xqv (r o n:Nat):kn (.ref r o n)=true:=rfl
theorem Xqz (cs:List V):kn (.agg cs)=true:=rfl
theorem Xqw (r o:Nat):kn (.ptr r o)=true:=rfl
theorem Xto (cs:List V) (o:Nat):kn (.rp cs o)=true:=rfl
theorem Xm6:kn .nilp=true:=rfl
theorem Xtp (f:Go.Fn) (xs ys:List V):kn (.fn f xs ys)=true:=rfl
theorem Xm7:kn .nilf=true:=rfl
theorem Qwh (k:IntKind) (n:Int):cellsOf (.int k n)=[.int k n]:=rfl
theorem Qtl (b:Bool):cellsOf (.bool b)=[.bool b]:=rfl
theorem Qwd (b:ByteArray):cellsOf (.str b)=[.str b]:=rfl
theorem Qwg:cellsOf .nil=[.nil]:=rfl
theorem Qzn (n:Nat) (cs:List V):cellsOf (.sl n cs)=[.sl n cs]:=rfl
theorem Qwe (r o n:Nat):cellsOf (.ref r o n)=[.ref r o n]:=rfl
theorem Qwi (cs:List V):cellsOf (.agg cs)=cs:=rfl
theorem Qwf (r o:Nat):cellsOf (.ptr r o)=[.ptr r o]:=rfl
theorem Qzo (cs:List V) (o:Nat):cellsOf (.rp cs o)=[.rp cs o]:=rfl
theorem Qtj:cellsOf .nilp=[.nilp]:=rfl
theorem Qzp (f:Go.Fn) (xs ys:List V):cellsOf (.fn f xs ys)=[.fn f xs ys]:=rfl
theorem Qtk:cellsOf .nilf=[.nilf]:=rfl
theorem Xg6 (cs:List V) (o:Nat):Qa2 cs o []=cs:=rfl
theorem Xc0 (cs:List V) (o:Nat) (v:V) (vs:List V):Qa2 cs o (v::vs)=Qa2 (upd cs o v) (o+1) vs:=rfl
theorem Qg0 (x:Option Row) (H:Qb):Qc (x::H) 0=x:=by simp [Qc]
theorem Qmx (x:Option Row) (H:Qb) (n:Nat):Qc (x::H) (n+1)=Qc H n:=by simp [Qc]
theorem Xm4 (y:Ty) (n:Nat) (cs:List V):lenw y (.sl n cs) KP=(y.sl.isSome=true∧KP (.int .i64 n)):=rfl
theorem Xil (y:Ty) (r off n:Nat):lenw y (.ref r off n) KP=(y.sl.isSome=true∧KP (.int .i64 n)):=rfl
theorem Xim (y:Ty):lenw y .nil KP=(y.sl.isSome=true∧KP (.int .i64 0)):=rfl
theorem Qto (t:TypeId) (x:V):Qr ty .len [t] [x] H K=((ty t).ok=true∧lenw (ty t) x fun v=>K v H):=rfl
theorem Qtn (ats:List TypeId) (k k':IntKind) (a b:Int):Qr ty .max ats [.int k a,.int k' b] H K=K (.int k (if b>a then b else a)) H:=rfl
theorem Qtm (ats:List TypeId) (k k':IntKind) (a b:Int):Qr ty .min ats [.int k a,.int k' b] H K=K (.int k (if b<a then b else a)) H:=rfl
def Xkq (e:Option TypeId) (ty:TypeId→Ty) (s x:V) (H:Qb) (K:V→Qb→Prop):Prop:=match e with
 | some e=>(ty e).ok=true∧Qbb (ty e) e s x H K
 | none=>False
@[congr] theorem Xrw {uu:Prop} (h00:(True∧True)=uu) {e e':Option TypeId} {s s' x x':V} (h0:e=e') (h1:s=s') (h2:x=x') (h3:H=H'):Xkq e ty s x H K=Xkq e' ty s' x' H' K:=by rw [h0,h1,h2,h3]
theorem Xkr (t:TypeId):aok ty t t=true:=by simp [aok]
theorem Qm1 (t:TypeId) (s x:V):Qr ty .append [t,t] [s,x] H K=((ty t).ok=true∧Xkq (ty t).sl ty s x H K):=by simp only [Qr,Xkr,true_and];rfl
theorem Ql2 (t t':TypeId) (s x:V):Qr ty .append [t,t'] [s,x] H K=((t'==t||((ty t').ok&&(ty t').sl.isSome))=true∧(ty t).ok=true∧Xkq (ty t).sl ty s x H K):=rfl
theorem Xfh (e:TypeId) (s x:V):Xkq (some e) ty s x H K=((ty e).ok=true∧Qbb (ty e) e s x H K):=rfl
end
end Go.Bv
end
