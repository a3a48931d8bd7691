/-
  Parts Bv1, Bv2, Bv3, Bv4, Bv5, Bv6, Bv7, Bv8, Bv9, Bv10, Bv11, Bv12, Bv13, Bv14, one behind the other: a program logic of our own, contracts of functions.
-/
import Derived.RangeFuncLeaves
import Derived.RangeFuncCalls
import Derived.Maps.AppendAt
import Derived.Below
import Derived.ScopeJumps
import Derived.Laws.Cells
import Derived.Laws.Tables
import Derived.Laws.CopyRow
import Derived.Laws.Rows
import Derived.Laws.Slices
import Derived.Laws.OwnMore
import Derived.Laws.MakeOwn
import Derived.Laws.Entries
import Derived.Laws.Small
import Derived.IntWalk

set_option linter.unusedVariables false
set_option linter.unusedSimpArgs false
set_option maxRecDepth 100000
set_option maxHeartbeats 8000000
namespace Go.Bv
theorem zNm {α:Type} {P:α→Prop}:∀ x∈([]:List α),P x:=fun _ h=>nomatch h
theorem zFm {α:Type} {p:α→Prop} {a:α} {l:List α}:(∀ x∈a::l,p x)↔p a∧∀ x∈l,p x:=List.forall_mem_cons
theorem zLe {n m:Nat} (h:Nat.ble n m=true):n≤m:=Nat.le_of_ble_eq_true h
end Go.Bv
namespace Go.Bv
theorem Qbe {α:Type}:(∀ (l:List α) (n:Nat) (a:α),(l.set n a).length=l.length)∧(∀ l m:List α,(l++m).length=l.length+m.length)∧(∀ (a:α) (l:List α),(a::l).length=l.length+1)∧([]:List α).length=0:=⟨fun _ _ _=>List.length_set,fun _ _=>List.length_append,fun _ _=>rfl,rfl⟩
end Go.Bv
section
namespace Go.Bv
open Go.RowKit
inductive V where
 | any
 | int (k:IntKind) (n:Int)
 | bool (b:Bool)
 | str (s:ByteArray)
 | nil
 | sl (n:Nat) (cs:List V)
 | ref (r off n:Nat)
 | agg (cs:List V)
 | tup (vs:List V)
 | ptr (r off:Nat)
 | nilp
 | rp (cs:List V) (off:Nat)
 | fn (f:Fn) (first caps:List V)
 | nilf
 | mp (k:IntKind) (ks:List Int) (vs:List V)
 deriving Inhabited
structure Row where
 e:TypeId
 s:Nat
 cs:List V
abbrev Qa:=List (Option Row)
inductive Place where
 | no | dead | virt
 | at (b cap:Nat)
def nth:List V→Nat→V
 | [],_=>.any
 | a::_,0=>a
 | _::l,n+1=>nth l n
def upd:List V→Nat→V→List V
 | [],_,_=>[]
 | _::l,0,v=>v::l
 | a::l,n+1,v=>a::upd l n v
theorem Yi (l:List V) (i:Nat) (v:V):(upd l i v).length=l.length:=by
 induction l generalizing i with
 | nil=>rfl
 | cons a l ih=>cases i<;>simp [upd,ih]
theorem Zh (l:List V) (i:Nat) (v:V) (j:Nat):nth (upd l i v) j=if j=i∧i<l.length then v else nth l j:=by
 induction l generalizing i j with
 | nil=>simp [upd,nth]
 | cons a l ih =>
  cases i with
  | zero=>cases j<;>simp [upd,nth]
  | succ i=>cases j<;>simp [upd,nth,ih]
theorem Xo (l:List V) (i:Nat):nth l i=l.getD i .any:=by
 induction l generalizing i with
 | nil=>simp [nth]
 | cons a l ih=>cases i<;>simp [nth,ih]
theorem Yj (l m:List V) (i:Nat):nth (l++m) i=if i<l.length then nth l i else nth m (i - l.length):=by
 induction l generalizing i with
 | nil=>simp
 | cons a l ih=>cases i with
  | zero=>simp [nth]
  | succ i=>simp only [List.cons_append,nth,ih,List.length_cons];by_cases h:i<l.length<;>simp [h]
theorem Jw (l:List V) (i:Nat) (h:l.length≤i):nth l i=.any:=by
 rw [Xo];simp [List.getD,List.getElem?_eq_none h]
def Xga (es:Array MapEntry) (k:IntKind) (n:Int) (c:Value):Prop:=∃ i,Instr.findNow (.int k) (.int k n) es.toList 0=some (some (i,c))
inductive VR (im:Nat→Prop) (pl:Nat→Place) (w:World):V→Value→Prop
 | any (v:Value):VR im pl w .any v
 | int (k:IntKind) (n:Int):VR im pl w (.int k n) (.int k n)
 | bool (b:Bool):VR im pl w (.bool b) (.bool b)
 | str (s:ByteArray):VR im pl w (.str s) (.string s)
 | nil:VR im pl w .nil (.slice none 0 0)
 | sl0 (cs:List V) (a:Option Addr) (c:Nat):VR im pl w (.sl 0 cs) (.slice a 0 c)
 | sl (n:Nat) (cs:List V) (ad:Addr) (c:Nat) (vs:Nat→Value) (hn:n≤c) (hi:im ad.block)
   (hc:∀ j,j<cs.length→w.cell? (ad.add j)=some (vs j)) (hr:∀ j,VR im pl w (nth cs j) (vs j)):VR im pl w (.sl n cs) (.slice (some ad) n c)
 | refAt (r off n b cap c:Nat) (hp:pl r=.at b cap) (hc:n≤c) (h0:off=0→c=cap):VR im pl w (.ref r off n) (.slice (some ⟨b,off,none⟩) n c)
 | refVirt (r:Nat) (hp:pl r=.virt):VR im pl w (.ref r 0 0) (.slice none 0 0)
 | refDead (r off n:Nat) (a:Option Addr) (c:Nat) (hp:pl r=.dead):VR im pl w (.ref r off n) (.slice a n c)
 | agg (cs:List V) (vs:List Value) (hl:cs.length=vs.length) (hr:∀ j,VR im pl w (nth cs j) (vs.getD j undef)):VR im pl w (.agg cs) (.agg vs.toArray)
 | tup (cs:List V) (vs:List Value) (hl:cs.length=vs.length) (hr:∀ j,VR im pl w (nth cs j) (vs.getD j undef)):VR im pl w (.tup cs) (.tuple vs.toArray)
 | ptrAt (r off b cap:Nat) (hp:pl r=.at b cap):VR im pl w (.ptr r off) (.pointer (some ⟨b,off,none⟩))
 | ptrDead (r off:Nat) (a:Addr) (hp:pl r=.dead):VR im pl w (.ptr r off) (.pointer (some a))
 | nilp:VR im pl w .nilp (.pointer none)
 | rp (cs:List V) (off:Nat) (ad:Addr) (vs:Nat→Value) (hi:im ad.block)
   (hc:∀ j,j<cs.length→w.cell? (ad.add j)=some (vs j)) (hr:∀ j,VR im pl w (nth cs j) (vs j)):VR im pl w (.rp cs off) (.pointer (some (ad.add off)))
 | fn (f:Fn) (xs ys:List V) (us vs:List Value) (hl:xs.length=us.length) (hr:∀ j,VR im pl w (nth xs j) (us.getD j undef))
   (hl':ys.length=vs.length) (hr':∀ j,VR im pl w (nth ys j) (vs.getD j undef)):VR im pl w (.fn f xs ys) (.func f us.toArray vs.toArray)
 | nilf:VR im pl w .nilf .nilFunc
 | mp (k:IntKind) (ks:List Int) (cs:List V) (b:Nat) (es:Array MapEntry) (clock:Nat) (vs:Nat→Value) (hi:im b) (hb:w.heap[b]?=some (.map es clock))
   (hf:∀ j,j<ks.length→Xga es k (ks.getD j 0) (vs j)) (hr:∀ j,VR im pl w (nth cs j) (vs j)):VR im pl w (.mp k ks cs) (.map (some b))
structure Ext (im:Nat→Prop) (pl:Nat→Place) (w:World) (im':Nat→Prop) (pl':Nat→Place) (w':World):Prop where
 os:w'.os=w.os
 tape:w'.tape=w.tape
 output:w'.output=w.output
 size:w.heap.size≤w'.heap.size
 imm:∀ b,im b→im' b
 imn:∀ b,im' b→im b∨w.heap.size≤b∨∃ r cap,pl r=.at b cap
 plo:∀ r,pl r≠.no→pl' r=pl r∨pl' r=.dead
 pln:∀ r b cap,pl' r=.at b cap→(∃ r' cap',pl r'=.at b cap')∨w.heap.size≤b
 frame:∀ b,b<w.heap.size→(∀ r cap,pl r≠.at b cap)→w'.heap[b]?=w.heap[b]?
theorem Ext.refl (im:Nat→Prop) (pl:Nat→Place) (w:World):Ext im pl w im pl w :=
 ⟨rfl,rfl,rfl,Nat.le_refl _,fun _ h=>h,fun _ h=>.inl h,fun _ _=>.inl rfl,fun r b cap h=>.inl ⟨r,cap,h⟩,fun _ _ _=>rfl⟩
theorem Ext.trans {im im1 im2:Nat→Prop} {pl pl1 pl2:Nat→Place} {w w1 w2:World} (h:Ext im pl w im1 pl1 w1) (k:Ext im1 pl1 w1 im2 pl2 w2):Ext im pl w im2 pl2 w2:=by
 refine ⟨k.os.trans h.os,k.tape.trans h.tape,k.output.trans h.output,Nat.le_trans h.size k.size,fun b hb=>k.imm b (h.imm b hb),fun b hb=>?_,fun r hr=>?_,fun r b cap hb=>?_,fun b hb hn=>?_⟩
 ·rcases k.imn b hb with h1 | h1 | ⟨r,cap,h1⟩
  ·exact h.imn b h1
  ·exact .inr (.inl (Nat.le_trans h.size h1))
  ·rcases h.pln r b cap h1 with ⟨r',cap',h2⟩ | h2
   ·exact .inr (.inr ⟨r',cap',h2⟩)
   ·exact .inr (.inl h2)
 ·rcases h.plo r hr with h1 | h1
  ·have h1':pl1 r≠.no:=by rw [h1];exact hr
   rcases k.plo r h1' with h2 | h2
   ·exact .inl (h2.trans h1)
   ·exact .inr h2
  ·have h1':pl1 r≠.no:=by rw [h1];simp
   rcases k.plo r h1' with h2 | h2
   ·exact .inr (h2.trans h1)
   ·exact .inr h2
 ·rcases k.pln r b cap hb with ⟨r',cap',h1⟩ | h1
  ·exact h.pln r' b cap' h1
  ·exact .inr (Nat.le_trans h.size h1)
 ·rw [k.frame b (Nat.lt_of_lt_of_le hb h.size) (fun r cap hr=>?_),h.frame b hb hn]
  rcases h.pln r b cap hr with ⟨r',cap',h1⟩ | h1
  ·exact hn r' cap' h1
  ·omega
def Xgk (im:Nat→Prop) (pl:Nat→Place):Prop:=∀ b,im b→∀ r cap,pl r≠.at b cap
theorem Qed {w w':World} {a:Addr} {v:Value} (h:w.cell? a=some v) (hb:a.block<w.heap.size→w'.heap[a.block]?=w.heap[a.block]?):w'.cell? a=some v:=by
 rw [World.cell?_of_block (w:=w) (hb (World.block_lt_of_cell? w a h))];exact h
theorem Qef (a:Addr) (n:Nat):(a.add n).block=a.block:=by unfold Addr.add;split<;>rfl
theorem add_add (a:Addr) (i j:Nat):(a.add i).add j=a.add (i+j):=by
 unfold Addr.add;by_cases h1:i=0<;>by_cases h2:j=0<;>simp [h1,h2,Nat.add_assoc]
theorem VR.mono {im im':Nat→Prop} {pl pl':Nat→Place} {w w':World} (hE:Ext im pl w im' pl' w') (hd:Xgk im pl) {v:V} {c:Value} (h:VR im pl w v c):VR im' pl' w' v c:=by
 have hcell:∀ {ad:Addr} {n:Nat} {vs:Nat→Value},im ad.block→(∀ j,j<n→w.cell? (ad.add j)=some (vs j))→∀ j,j<n→w'.cell? (ad.add j)=some (vs j):=by
  intro ad n vs hi hc j hj;refine Qed (hc j hj) fun hb=>hE.frame _ hb ?_
  rw [Qef];exact hd _ hi
 induction h with
 | any v=>exact .any v
 | int k n=>exact .int k n
 | bool b=>exact .bool b
 | str s=>exact .str s
 | nil=>exact .nil
 | sl0 cs a c=>exact .sl0 cs a c
 | sl n cs ad c vs hn hi hc hr ih=>exact .sl n cs ad c vs hn (hE.imm _ hi) (hcell hi hc) ih
 | refAt r off n b cap c hp hc h0 =>
  rcases hE.plo r (by rw [hp];simp) with h1 | h1
  ·exact .refAt r off n b cap c (h1.trans hp) hc h0
  ·exact .refDead r off n _ c h1
 | refVirt r hp =>
  rcases hE.plo r (by rw [hp];simp) with h1 | h1
  ·exact .refVirt r (h1.trans hp)
  ·exact .refDead r 0 0 _ 0 h1
 | refDead r off n a c hp =>
  rcases hE.plo r (by rw [hp];simp) with h1 | h1
  ·exact .refDead r off n a c (h1.trans hp)
  ·exact .refDead r off n a c h1
 | agg cs vs hl hr ih=>exact .agg cs vs hl ih
 | tup cs vs hl hr ih=>exact .tup cs vs hl ih
 | ptrAt r off b cap hp =>
  rcases hE.plo r (by rw [hp];simp) with h1 | h1
  ·exact .ptrAt r off b cap (h1.trans hp)
  ·exact .ptrDead r off _ h1
 | ptrDead r off a hp =>
  rcases hE.plo r (by rw [hp];simp) with h1 | h1
  ·exact .ptrDead r off a (h1.trans hp)
  ·exact .ptrDead r off a h1
 | nilp=>exact .nilp
 | rp cs off ad vs hi hc hr ih=>exact .rp cs off ad vs (hE.imm _ hi) (hcell hi hc) ih
 | fn f xs ys us vs hl hr hl' hr' ih ih'=>exact .fn f xs ys us vs hl ih hl' ih'
 | nilf=>exact .nilf
 | mp k ks cs b es clock vs hi hb hf hr ih =>
  have hlt:b<w.heap.size:=(Array.getElem?_eq_some_iff.1 hb).1
  exact .mp k ks cs b es clock vs (hE.imm _ hi) (by rw [hE.frame b hlt fun r cap=>hd b hi r cap];exact hb) hf ih
structure HR (im:Nat→Prop) (pl:Nat→Place) (w:World) (H:Qa):Prop where
 len:∀ r,r<H.length↔pl r≠.no
 apart:Xgk im pl
 bound:∀ r b cap,pl r=.at b cap→b<w.heap.size
 imb:∀ b,im b→b<w.heap.size
 inj:∀ r r' b cap cap',pl r=.at b cap→pl r'=.at b cap'→r=r'
 dead:∀ r,pl r=.dead→H[r]?=some none
 virt:∀ r,pl r=.virt→∃ e s,H[r]?=some (some ⟨e,s,[]⟩)
 row:∀ r b cap,pl r=.at b cap→∃ (e s:Nat) (cs:List V) (cur:Array Value),H[r]?=some (some ⟨e,s,cs⟩)∧w.heap[b]?=some (.cells cur e (0,0))∧cur.size=cap*s∧cap≤maxLen ∧
  cs.length≤cur.size∧∀ j,VR im pl w (nth cs j) (cur.getD j undef)
def Qpi:TypeDesc→Bool
 | .struct _ | .array _ _=>true
 | _=>false
def Qvc:TypeDesc→Option Nat
 | .slice e=>some e
 | _=>none
def Qph:TypeDesc→Option (Nat × Nat)
 | .array n e=>some (n,e)
 | _=>none
def Qpg:TypeDesc→List (Nat × Nat)
 | .struct fs=>fs.toList.map fun f=>(f.offset,f.type)
 | _=>[]
def Qpe:TypeDesc→Bool
 | .string=>true
 | _=>false
def Qvd:TypeDesc→Bool
 | .bool=>true
 | _=>false
def Qpf:TypeDesc→Option IntKind
 | .int k=>some k
 | _=>none
structure Ty where
 z:Value
 size:Nat
 bytes:Nat
 agg:Bool
 sl:Option Nat
 arr:Option (Nat × Nat)
 fs:List (Nat × Nat)
 str:Bool:=false
 ik:Option IntKind:=Option.none
 bl:Bool:=false
 mpk:Option IntKind:=Option.none
 ok:Bool:=true
def Ty.none:Ty:={ z:=undef,size:=1,bytes:=0,agg:=false,sl:=.none,arr:=.none,fs:=[],ok:=false }
structure OKt (P:Program) (t:TypeId) (y:Ty):Prop where
 info:(P.info? t).map (fun i=>(i.zero,i.size,i.bytes))=some (some y.z,y.size,y.bytes)
 und:∃ d,P.underlying t=some d∧y.agg=Qpi d∧y.sl=Qvc d∧y.arr=Qph d∧y.fs=Qpg d∧y.str=Qpe d∧y.ik=Qpf d∧y.bl=Qvd d
 one:y.agg=false→y.size=1
 zc:y.z.cells.size=y.size
 mp:∀ k,y.mpk=some k→∃ e u,P.underlying t=some (.map e u)∧P.underlying e=some (.int k)
structure Ctx where
 P:Program
 ty:TypeId→Ty
 ok:∀ t,(ty t).ok=true→OKt P t (ty t)
theorem OKt.parts {P:Program} {t:TypeId} {y:Ty} (h:OKt P t y):∃ i,P.info? t=some i∧i.zero=some y.z∧i.size=y.size∧i.bytes=y.bytes:=by
 obtain ⟨i,hi,hz⟩:=Option.map_eq_some_iff.1 h.info;simp only [Prod.mk.injEq] at hz;exact ⟨i,hi,hz.1,hz.2.1,hz.2.2⟩
theorem OKt.slice {P:Program} {t e:TypeId} {y:Ty} (h:OKt P t y) (hs:y.sl=some e):P.underlying t=some (.slice e):=by
 obtain ⟨d,hd,_,h2,_⟩:=h.und;rw [hs] at h2;cases d<;>simp [Qvc] at h2;rw [hd,h2]
theorem OKt.array {P:Program} {t e:TypeId} {n:Nat} {y:Ty} (h:OKt P t y) (hs:y.arr=some (n,e)):P.underlying t=some (.array n e):=by
 obtain ⟨d,hd,_,_,h2,_⟩:=h.und;rw [hs] at h2;cases d<;>simp [Qph] at h2;rw [hd,h2.1,h2.2]
theorem OKt.field {P:Program} {t:TypeId} {f o u:Nat} {y:Ty} (h:OKt P t y) (hs:y.fs[f]?=some (o,u)):∃ fs fd,P.underlying t=some (.struct fs)∧fs[f]?=some fd∧fd.offset=o∧fd.type=u:=by
 obtain ⟨d,hd,_,_,_,h2,_⟩:=h.und;rw [h2] at hs;cases d<;>simp [Qpg] at hs;obtain ⟨fd,h3,h4,h5⟩:=hs;exact ⟨_,fd,hd,h3,h4,h5⟩
theorem OKt.struct_fs {P:Program} {t:TypeId} {y:Ty} (h:OKt P t y) (hs:y.fs≠[]):∃ fs,P.underlying t=some (.struct fs)∧y.fs=fs.toList.map fun f=>(f.offset,f.type):=by
 obtain ⟨d,hd,_,_,_,h2,_⟩:=h.und;cases d<;>simp [Qpg] at h2<;>try exact absurd h2 hs
 exact ⟨_,hd,h2⟩
theorem OKt.string {P:Program} {t:TypeId} {y:Ty} (h:OKt P t y) (hs:y.str=true):P.underlying t=some .string:=by
 obtain ⟨d,hd,_,_,_,_,h2,_⟩:=h.und;rw [hs] at h2;cases d<;>simp [Qpe] at h2;exact hd
theorem OKt.bool {P:Program} {t:TypeId} {y:Ty} (h:OKt P t y) (hs:y.bl=true):P.underlying t=some .bool:=by
 obtain ⟨d,hd,_,_,_,_,_,_,h2⟩:=h.und;rw [hs] at h2;cases d<;>simp [Qvd] at h2;exact hd
theorem OKt.int {P:Program} {t:TypeId} {y:Ty} {k:IntKind} (h:OKt P t y) (hs:y.ik=some k):P.underlying t=some (.int k):=by
 obtain ⟨d,hd,_,_,_,_,_,h2,_⟩:=h.und;rw [hs] at h2;cases d<;>simp [Qpf] at h2;rw [hd,h2]
theorem OKt.isAgg {P:Program} {t:TypeId} {y:Ty} (h:OKt P t y) (w:World):(Go.isAgg t).run P w=.ok y.agg w:=by
 obtain ⟨d,hd,h1,_⟩:=h.und;rw [h1];cases d<;>simp [Go.isAgg,run_underlying hd,Qpi]
theorem OKt.sizeOf {P:Program} {t:TypeId} {y:Ty} (h:OKt P t y) (w:World):(Go.sizeOf t).run P w=.ok y.size w:=by
 obtain ⟨i,hi,_,hs,_⟩:=h.parts;simp [Go.sizeOf,typeInfo,hi,hs]
theorem OKt.zero {P:Program} {t:TypeId} {y:Ty} (h:OKt P t y) (w:World):(Go.zeroValue t).run P w=.ok y.z w:=by
 obtain ⟨i,hi,hz,_⟩:=h.parts;simp [Go.zeroValue,typeInfo,hi,hz]
def cv1:Value→V
 | .int k n=>.int k n
 | .bool b=>.bool b
 | .string s=>.str s
 | .slice none 0 0=>.nil
 | .pointer none=>.nilp
 | .nilFunc=>.nilf
 | _=>.any
def cv:Value→V
 | .agg cs=>.agg (cs.toList.map cv1)
 | v=>cv1 v
theorem Xfd (im:Nat→Prop) (pl:Nat→Place) (w:World) (v:Value):VR im pl w (cv1 v) v:=by
 unfold cv1;split<;>constructor
theorem Qxa (im:Nat→Prop) (pl:Nat→Place) (w:World) (l:List Value) (j:Nat):VR im pl w (nth (l.map cv1) j) (l.getD j undef):=by
 rw [Xo];by_cases h:j<l.length
 ·simp [List.getD,List.getElem?_eq_getElem h];exact Xfd ..
 ·simp [List.getD,List.getElem?_eq_none (Nat.le_of_not_lt h)];exact .any _
theorem Xpo (im:Nat→Prop) (pl:Nat→Place) (w:World) (v:Value):VR im pl w (cv v) v:=by
 unfold cv;split
 ·rename_i cs
  have:=VR.agg (im:=im) (pl:=pl) (w:=w) (cs.toList.map cv1) cs.toList (by simp) (Qxa im pl w _)
  simpa using this
 ·exact Xfd ..
def ev (ts:List V):Operand→V
 | .tmp t=>nth ts t
 | .const v=>cv v
 | .global _=>.any
 | .func f=>.fn (.func f) [] []
def cellsOf:V→List V
 | .agg cs=>cs
 | v=>[v]
def Yc:V→Bool
 | .any | .agg _ | .tup _=>false
 | _=>true
def TR (im:Nat→Prop) (pl:Nat→Place) (w:World) (ts:List V) (tmps:Array Value):Prop :=
 ts.length=tmps.size∧∀ i,VR im pl w (nth ts i) (tmps.getD i undef)
theorem Qgl {im:Nat→Prop} {pl:Nat→Place} {w:World} {ts:List V} {a:Act} (h:TR im pl w ts a.tmps) (x:Operand):VR im pl w (ev ts x) (a.eval x):=by
 cases x with
 | tmp t=>exact h.2 t
 | const v=>exact Xpo ..
 | global g=>exact .any _
 | func f=>exact .fn _ [] [] [] [] rfl (fun j=>by simp [nth];exact .any _) rfl (fun j=>by simp [nth];exact .any _)
theorem VR.oneCell {im:Nat→Prop} {pl:Nat→Place} {w:World} {v:V} {c:Value} (h:VR im pl w v c) (hs:Yc v=true):c.oneCell'=true∧c.cells=#[c]:=by
 cases h<;>simp [Yc] at hs<;>exact ⟨rfl,rfl⟩
theorem VR.cells {im:Nat→Prop} {pl:Nat→Place} {w:World} {v:V} {c:Value} (h:VR im pl w v c) (hs:(cellsOf v).all Yc=true) :
  c.cells.size=(cellsOf v).length∧(∀ j,VR im pl w (nth (cellsOf v) j) (c.cells.getD j undef))∧∀ u∈c.cells.toList,u.oneCell'=true:=by
 by_cases hv:∃ cs,v=.agg cs
 ·obtain ⟨cs,rfl⟩:=hv;cases h with
  | agg _ vs hl hr =>
   refine ⟨by simp [Value.cells,cellsOf,hl],fun j=>by simpa [Value.cells,cellsOf] using hr j,fun u hu=>?_⟩
   simp only [Value.cells,List.mem_iff_getElem] at hu;obtain ⟨j,hj,rfl⟩:=hu
   have h1:=hr j
   have hj':j<vs.length:=by simpa using hj
   rw [Xo] at h1;simp only [List.getD,List.getElem?_eq_getElem hj',List.getElem?_eq_getElem (show j<cs.length by omega),Option.getD_some] at h1
   refine (h1.oneCell ?_).1;simp only [cellsOf,List.all_eq_true] at hs;exact hs _ (List.getElem_mem _)
 ·have hc:cellsOf v=[v]:=by cases v<;>first | rfl | exact absurd ⟨_,rfl⟩ hv
  rw [hc] at hs ⊢
  have h1:=h.oneCell (by simpa using hs)
  rw [h1.2];refine ⟨by simp,fun j=>?_,fun u hu=>?_⟩
  ·cases j with
   | zero=>simpa [nth] using h
   | succ j=>simp [nth];exact .any _
  ·simp at hu;rw [hu];exact h1.1
def win (cs:List V) (off:Nat):Nat→List V
 | 0=>[]
 | n+1=>nth cs off::win cs (off+1) n
theorem Qki (cs:List V) (n:Nat):∀ off,(win cs off n).length=n:=by
 induction n with
 | zero=>intro off;rfl
 | succ n ih=>intro off;simp [win,ih]
theorem Qwz (cs:List V) (n:Nat):∀ off j,nth (win cs off n) j=if j<n then nth cs (off+j) else .any:=by
 induction n with
 | zero=>intro off j;simp [win,nth]
 | succ n ih =>
  intro off j;cases j with
  | zero=>simp [win,nth]
  | succ j=>simp only [win,nth,ih,Nat.succ_lt_succ_iff,Nat.add_assoc,Nat.add_comm 1 j]
def Qgt (y:Ty) (cs:List V) (off:Nat):V:=if y.agg then .agg (win cs off y.size) else nth cs off
def OpRes (P:Program) (im:Nat→Prop) (pl:Nat→Place) (w:World) (run:Result Next) (K:V→Qa→Prop):Prop :=
 ∃ v vc im' pl' w' H',(run=.ok (.value vc) w'∨(run=.ok .skip w'∧v=.any))∧K v H'∧VR im' pl' w' v vc∧HR im' pl' w' H'∧Ext im pl w im' pl' w'
theorem OpRes.same {P:Program} {im:Nat→Prop} {pl:Nat→Place} {w:World} {run:Result Next} {K:V→Qa→Prop} {v:V} {vc:Value} {H:Qa}
  (h:run=.ok (.value vc) w) (hK:K v H) (hv:VR im pl w v vc) (hH:HR im pl w H):OpRes P im pl w run K :=
 ⟨v,vc,im,pl,w,H,.inl h,hK,hv,hH,.refl _ _ _⟩
theorem Qdl {P:Program} {w:World} {t:TypeId} {y:Ty} (hy:OKt P t y) (ad:Addr) (f:Nat→Value) (hc:∀ j,j<y.size→w.cell? (ad.add j)=some (f j)) :
  (loadVar t ad).run P w=.ok (if y.agg then .agg ((List.range y.size).map f).toArray else f 0) w:=by
 unfold loadVar;simp only [Sem.run_bind,hy.isAgg,Result.andThen_ok];cases h:y.agg with
 | true=>simp [hy.sizeOf,run_loadCells w ad y.size f hc]
 | false =>
  have h0:=hc 0 (by rw [hy.one h];omega)
  have:ad.add 0=ad:=by unfold Addr.add;simp
  rw [this] at h0;simp [h0]
theorem Qhn {im:Nat→Prop} {pl:Nat→Place} {w:World} (y:Ty) (cs:List V) (off:Nat) (f:Nat→Value) (hr:∀ j,VR im pl w (nth cs (off+j)) (f j)) :
  VR im pl w (Qgt y cs off) (if y.agg then .agg ((List.range y.size).map f).toArray else f 0):=by
 unfold Qgt;split
 ·refine .agg _ _ (by simp [Qki]) fun j=>?_
  rw [Qwz];split
  ·rename_i h;simp [List.getD,List.getElem?_eq_getElem,h];exact hr j
  ·exact .any _
 ·simpa using hr 0
def Qc (H:Qa) (r:Nat):Option Row:=(H[r]?).bind id
def Qbv (y:Ty) (x:V) (H:Qa) (K:V→Prop):Prop :=
 match x with
 | .rp cs off=>off+y.size≤cs.length∧K (Qgt y cs off)
 | .ptr r off=>match Qc H r with
  | some row=>off+y.size≤row.cs.length∧K (Qgt y row.cs off)
  | none=>False
 | _=>False
theorem Xh {H:Qa} {r:Nat} {row:Row} (h:Qc H r=some row):H[r]?=some (some row):=by
 unfold Qc at h;cases hr:H[r]? with
 | none=>simp [hr] at h
 | some o=>simp [hr] at h;rw [h]
theorem HR.block {im:Nat→Prop} {pl:Nat→Place} {w:World} {H:Qa} (h:HR im pl w H) {r:Nat} {row:Row} (hr:H[r]?=some (some row)) (hne:0<row.cs.length) :
  ∃ b cap cur,pl r=.at b cap∧w.heap[b]?=some (.cells cur row.e (0,0))∧cur.size=cap*row.s∧cap≤maxLen∧row.cs.length≤cur.size∧∀ j,VR im pl w (nth row.cs j) (cur.getD j undef):=by
 have hlt:r<H.length:=by
  rcases Nat.lt_or_ge r H.length with h1 | h1
  ·exact h1
  ·simp [List.getElem?_eq_none h1] at hr
 cases hp:pl r with
 | no=>exact absurd hp ((h.len r).1 hlt)
 | dead=>have:=h.dead r hp;rw [hr] at this;cases this
 | virt =>
  obtain ⟨e,s,h1⟩:=h.virt r hp;rw [hr] at h1;injection h1 with h1
  injection h1 with h1
  subst h1;simp at hne
 | «at» b cap =>
  obtain ⟨e,s,cs,cur,h1,h2,h3,h4,h5,h6⟩:=h.row r b cap hp;rw [hr] at h1;injection h1 with h1
  injection h1 with h1
  subst h1;exact ⟨b,cap,cur,rfl,h2,h3,h4,h5,h6⟩
theorem Zw {w:World} {b j:Nat} {cur:Array Value} {e:TypeId} {fr:Nat × Nat} (h:w.heap[b]?=some (.cells cur e fr)) (hj:j<cur.size):w.cell? ⟨b,j,none⟩=some (cur.getD j undef):=by
 simp [World.cell?,h,Array.getD,hj]
theorem Zl (b o j:Nat):(⟨b,o,none⟩:Addr).add j=⟨b,o+j,none⟩:=by
 unfold Addr.add;split<;>simp_all
theorem Qjl {C:Ctx} {im:Nat→Prop} {pl:Nat→Place} {w:World} {H:Qa} {t:TypeId} {x:V} {xc:Value} {K:V→Qa→Prop}
  (ht:(C.ty t).ok=true) (h:Qbv (C.ty t) x H fun v=>K v H) (hx:VR im pl w x xc) (hH:HR im pl w H) :
  ∃ v vc,(Instr.loadAt t xc).run C.P w=.ok vc w∧K v H∧VR im pl w v vc:=by
 have hy:=C.ok t ht
 cases x with
 | rp cs off =>
  obtain ⟨hl,hK⟩:=h;cases hx with
  | rp _ _ ad vs hi hc hr =>
   refine ⟨_,_, ?_,hK,Qhn (C.ty t) cs off (fun j=>vs (off+j)) (fun j=>hr _)⟩
   simp only [Instr.loadAt,Instr.sureAddr,Sem.run_bind,Sem.run_pure,Result.andThen_ok];exact Qdl hy _ _ (fun j hj=>by rw [add_add];exact hc _ (by omega))
 | ptr r off =>
  simp only [Qbv] at h;cases hrow:Qc H r with
  | none=>simp [hrow] at h
  | some row =>
   simp only [hrow] at h;obtain ⟨hl,hK⟩:=h
   have hr:=Xh hrow
   by_cases hz:0<row.cs.length
   ·obtain ⟨b,cap,cur,hp,hb,_,_,hlc,hv⟩:=hH.block hr hz;cases hx with
    | ptrAt _ _ b' cap' hp' =>
     rw [hp] at hp';injection hp' with e1 e2
     subst e1 e2;refine ⟨_,_, ?_,hK,Qhn (C.ty t) row.cs off (fun j=>cur.getD (off+j) undef) (fun j=>hv _)⟩
     simp only [Instr.loadAt,Instr.sureAddr,Sem.run_bind,Sem.run_pure,Result.andThen_ok];exact Qdl hy _ _ (fun j hj=>by rw [Zl];exact Zw hb (by omega))
    | ptrDead _ _ a hp'=>rw [hp] at hp';cases hp'
   ·cases hx with
    | ptrAt _ _ b' cap' hp' =>
     have h0:(C.ty t).size=0:=by omega
     refine ⟨_,_, ?_,hK,Qhn (C.ty t) row.cs off (fun j=>undef) (fun j=>by rw [Jw _ _ (by omega)];exact .any _)⟩
     simp only [Instr.loadAt,Instr.sureAddr,Sem.run_bind,Sem.run_pure,Result.andThen_ok];exact Qdl hy _ _ (fun j hj=>by omega)
    | ptrDead _ _ a hp' =>
     have:=hH.dead r hp'
     rw [hr] at this;cases this
 | _=>exact h.elim
def Qat (pl:Nat→Place) (r:Nat) (p:Place):Nat→Place:=fun i=>if i=r then p else pl i
theorem Qu (pl:Nat→Place) (r:Nat) (p:Place):Qat pl r p r=p:=by simp [Qat]
theorem Qq (pl:Nat→Place) (r i:Nat) (p:Place) (h:i≠r):Qat pl r p i=pl i:=by simp [Qat,h]
theorem HR.no {im:Nat→Prop} {pl:Nat→Place} {w:World} {H:Qa} (h:HR im pl w H) {r:Nat} (hr:H.length≤r):pl r=.no:=by
 cases hp:pl r with
 | no=>rfl
 | _=>have:=(h.len r).2 (by rw [hp];simp);omega
theorem HR.lt {im:Nat→Prop} {pl:Nat→Place} {w:World} {H:Qa} (h:HR im pl w H) {r:Nat} (hr:pl r≠.no):r<H.length:=(h.len r).2 hr
theorem HR.alloc {im:Nat→Prop} {pl:Nat→Place} {w:World} {H:Qa} (h:HR im pl w H) (e s cap:Nat) (cs:List V) (cur:Array Value)
  (hs:cur.size=cap*s) (hcap:cap≤maxLen) (hl:cs.length≤cur.size) (hv:∀ j,VR im pl w (nth cs j) (cur.getD j undef)) :
  HR im (Qat pl H.length (.at w.heap.size cap)) (w.alloc (.cells cur e)) (H++[some ⟨e,s,cs⟩])∧Ext im pl w im (Qat pl H.length (.at w.heap.size cap)) (w.alloc (.cells cur e)):=by
 have hno:=h.no (Nat.le_refl _)
 have hE:Ext im pl w im (Qat pl H.length (.at w.heap.size cap)) (w.alloc (.cells cur e)):=by
  refine ⟨rfl,rfl,rfl,by simp,fun _ hb=>hb,fun _ hb=>.inl hb,fun r hr=>.inl (Qq _ _ _ _ (fun e=>hr (e ▸ hno))),fun r b c hb=>?_,fun b hb _=>heap_alloc_old _ _ _ hb⟩
  by_cases hr:r=H.length
  ·subst hr;rw [Qu] at hb;injection hb with h1 _;exact .inr (by omega)
  ·rw [Qq _ _ _ _ hr] at hb;exact .inl ⟨r,c,hb⟩
 refine ⟨⟨fun r=>?_,fun b hb r c=>?_,fun r b c hb=>?_,fun b hb=>?_,fun r r' b c c' h1 h2=>?_,fun r hr=>?_,fun r hr=>?_,fun r b c hb=>?_⟩,hE⟩
 ·by_cases hr:r=H.length
  ·subst hr;simp [Qu]
  ·rw [Qq _ _ _ _ hr,← h.len r];simp;omega
 ·by_cases hr:r=H.length
  ·subst hr;rw [Qu];intro h1;injection h1 with h1 _;have:=h.imb b hb;omega
  ·rw [Qq _ _ _ _ hr];exact h.apart b hb r c
 ·by_cases hr:r=H.length
  ·subst hr;rw [Qu] at hb;injection hb with h1 _;simp;omega
  ·rw [Qq _ _ _ _ hr] at hb;have:=h.bound r b c hb;simp;omega
 ·have:=h.imb b hb;simp;omega
 ·by_cases hr:r=H.length<;>by_cases hr':r'=H.length
  ·omega
  ·subst hr;rw [Qu] at h1;rw [Qq _ _ _ _ hr'] at h2;injection h1 with h1 _;have:=h.bound r' b c' h2;omega
  ·subst hr';rw [Qu] at h2;rw [Qq _ _ _ _ hr] at h1;injection h2 with h2 _;have:=h.bound r b c h1;omega
  ·rw [Qq _ _ _ _ hr] at h1;rw [Qq _ _ _ _ hr'] at h2;exact h.inj r r' b c c' h1 h2
 ·by_cases hq:r=H.length
  ·subst hq;rw [Qu] at hr;cases hr
  ·rw [Qq _ _ _ _ hq] at hr
   have:=h.dead r hr
   rw [List.getElem?_append_left (by have:=h.lt (r:=r) (by rw [hr];simp);omega)];exact this
 ·by_cases hq:r=H.length
  ·subst hq;rw [Qu] at hr;cases hr
  ·rw [Qq _ _ _ _ hq] at hr
   have:=h.virt r hr
   rw [List.getElem?_append_left (by have:=h.lt (r:=r) (by rw [hr];simp);omega)];exact this
 ·by_cases hq:r=H.length
  ·subst hq;rw [Qu] at hb;injection hb with h1 h2
   subst h1 h2;exact ⟨e,s,cs,cur,by simp,heap_alloc_new _ _,hs,hcap,hl,fun j=>(hv j).mono hE h.apart⟩
  ·rw [Qq _ _ _ _ hq] at hb;obtain ⟨e',s',cs',cur',h1,h2,h3,h4,h5,h6⟩:=h.row r b c hb;exact ⟨e',s',cs',cur',by rw [List.getElem?_append_left (h.lt (r:=r) (by rw [hb];simp))];exact h1,by rw [heap_alloc_old _ _ _ (h.bound r b c hb)];exact h2,h3,h4,h5,fun j=>(h6 j).mono hE h.apart⟩
theorem Qch {P:Program} (w:World) (t:TypeId) (v:Value):(newVar t v).run P w=.ok ⟨w.heap.size,0,none⟩ (w.alloc (.cells v.cells t)):=by
 simp only [newVar,newRow,newObj,Sem.run_bind,Sem.run,Sem.run_pure,Result.andThen_ok];rfl
theorem Qhv {C:Ctx} {im:Nat→Prop} {pl:Nat→Place} {w:World} {H:Qa} {K:V→Qa→Prop} (t:TypeId) (cs:List V) (v:Value)
  (hl:cs.length=v.cells.size) (hv:∀ j,VR im pl w (nth cs j) (v.cells.getD j undef)) (hH:HR im pl w H) (hK:K (.ptr H.length 0) (H++[some ⟨t,cs.length,cs⟩]))
  {run:Result Next} (hr:run=((newVar t v).run C.P w).andThen fun a w=>.ok (.value (.pointer (some a))) w):OpRes C.P im pl w run K:=by
 have h:=hH.alloc t cs.length 1 cs v.cells (by omega) (by simp [maxLen]) (by omega) hv
 refine ⟨_,_,im,_,_,_,.inl (by rw [hr,Qch];rfl),hK, ?_,h.1,h.2⟩
 exact .ptrAt _ 0 w.heap.size 1 (Qu _ _ _)
def Ki:List V→Nat→List V→List V
 | cs,_,[]=>cs
 | cs,off,v::vs=>Ki (upd cs off v) (off+1) vs
theorem Jh (vs:List V):∀ cs off,(Ki cs off vs).length=cs.length:=by
 induction vs with
 | nil=>intro cs off;rfl
 | cons v vs ih=>intro cs off;simp [Ki,ih,Yi]
theorem Qd3 (vs:List V):∀ cs off j,off+vs.length≤cs.length→nth (Ki cs off vs) j=if off≤j∧j<off+vs.length then nth vs (j - off) else nth cs j:=by
 induction vs with
 | nil=>intro cs off j h;simp [Ki];intro h1 h2;omega
 | cons v vs ih =>
  intro cs off j h;simp only [List.length_cons] at h;simp only [Ki];rw [ih _ _ _ (by rw [Yi];omega),Zh]
  simp only [List.length_cons];by_cases h1:j=off
  ·subst h1;rw [if_neg (by omega),if_pos ⟨rfl,by omega⟩,if_pos (by omega)]
   simp [nth]
  ·by_cases h2:off+1≤j∧j<off+1+vs.length
   ·rw [if_pos h2,if_pos (by omega)]
    obtain ⟨d,rfl⟩:∃ d,j=off+1+d:=⟨j - (off+1),by omega⟩
    rw [show off+1+d - (off+1)=d by omega,show off+1+d - off=d+1 by omega]
    rfl
   ·rw [if_neg h2,if_neg (by omega),if_neg (by omega)]
theorem HR.setRow {im:Nat→Prop} {pl:Nat→Place} {w:World} {H:Qa} (h:HR im pl w H) {r b cap:Nat} {row:Row} {cur cur':Array Value} (hp:pl r=.at b cap) (hr:H[r]?=some (some row))
  (hb:w.heap[b]?=some (.cells cur row.e (0,0))) (hs:cur'.size=cur.size) (cs:List V) (hl:cs.length≤cur'.size) (hv:∀ j,VR im pl w (nth cs j) (cur'.getD j undef)) :
  HR im pl (w.setRow b cur') (H.set r (some ⟨row.e,row.s,cs⟩))∧Ext im pl w im pl (w.setRow b cur'):=by
 have hblt:=h.bound r b cap hp
 have hE:Ext im pl w im pl (w.setRow b cur'):=by
  refine ⟨rfl,rfl,rfl,by simp [World.setRow],fun _ hb=>hb,fun _ hb=>.inl hb,fun r hr=>.inl rfl,fun r b c hb=>.inl ⟨r,c,hb⟩,fun k hk hn=>?_⟩
  exact setRow_other _ _ _ _ (fun e=>hn r cap (e ▸ hp))
 have hsz:(w.setRow b cur').heap.size=w.heap.size:=by simp [World.setRow]
 refine ⟨⟨fun r'=>by rw [List.length_set];exact h.len r',h.apart,fun r' b' c' hb'=>by rw [hsz];exact h.bound r' b' c' hb',fun b' hb'=>by rw [hsz];exact h.imb b' hb',h.inj,fun r' hr'=>?_,fun r' hr'=>?_,fun r' b' c' hb'=>?_⟩,hE⟩
 ·have hne:r≠r':=fun e=>by subst e;rw [hp] at hr';cases hr'
  rw [List.getElem?_set_ne hne];exact h.dead r' hr'
 ·have hne:r≠r':=fun e=>by subst e;rw [hp] at hr';cases hr'
  rw [List.getElem?_set_ne hne];exact h.virt r' hr'
 ·by_cases hq:r=r'
  ·subst hq;rw [hp] at hb';injection hb' with e1 e2
   subst e1 e2;obtain ⟨e,s,cs0,cur0,h1,h2,h3,h4,h5,h6⟩:=h.row r b cap hp;rw [hr] at h1;injection h1 with h1
   injection h1 with h1
   subst h1;rw [hb] at h2;injection h2 with h2
   injection h2 with h2 _ _
   subst h2;refine ⟨e,s,cs,cur', ?_,setRow_heap _ _ _ _ _ _ hb,by rw [hs];exact h3,h4,hl,fun j=>(hv j).mono hE h.apart⟩
   rw [List.getElem?_set_self (h.lt (r:=r) (by rw [hp];simp))]
  ·obtain ⟨e,s,cs0,cur0,h1,h2,h3,h4,h5,h6⟩:=h.row r' b' c' hb';refine ⟨e,s,cs0,cur0,by rw [List.getElem?_set_ne hq];exact h1, ?_,h3,h4,h5,fun j=>(h6 j).mono hE h.apart⟩
   rw [setRow_other _ _ _ _ (fun e':b'=b=>hq (h.inj r r' b cap c' hp (by rw [← e'];exact hb')))]
   exact h2
def Qbb (y:Ty) (x v:V) (H:Qa) (K:Qa→Prop):Prop :=
 match x with
 | .ptr r off=>match Qc H r with
  | some row=>off+y.size≤row.cs.length∧(cellsOf v).length=y.size∧(cellsOf v).all Yc=true∧K (H.set r (some ⟨row.e,row.s,Ki row.cs off (cellsOf v)⟩))
  | none=>False
 | _=>False
theorem Qog {C:Ctx} {im:Nat→Prop} {pl:Nat→Place} {w:World} {H:Qa} {t:TypeId} {x v:V} {xc vc:Value} {K:Qa→Prop}
  (ht:(C.ty t).ok=true) (h:Qbb (C.ty t) x v H K) (hx:VR im pl w x xc) (hv:VR im pl w v vc) (hH:HR im pl w H) :
  ∃ w' H',(Instr.storeAt t xc vc).run C.P w=.ok () w'∧K H'∧HR im pl w' H'∧Ext im pl w im pl w':=by
 have hy:=C.ok t ht
 cases x with
 | ptr r off =>
  simp only [Qbb] at h;cases hrow:Qc H r with
  | none=>simp [hrow] at h
  | some row =>
   simp only [hrow] at h;obtain ⟨hl,hn,hs,hK⟩:=h
   have hr:=Xh hrow
   obtain ⟨c1,c2,c3⟩:=hv.cells hs;cases hx with
   | ptrDead _ _ a hp' =>
    have:=hH.dead r hp'
    rw [hr] at this;cases this
   | ptrAt _ _ b cap hp =>
    obtain ⟨e,s,cs,cur,h1,h2,h3,h4,h5,h6⟩:=hH.row r b cap hp;rw [hr] at h1;injection h1 with h1
    injection h1 with h1
    subst h1;simp only at hl hK
    have hlc:off+0+vc.cells.toList.length≤cur.size:=by simp;omega
    have hrun:=run_storeCells_at (P:=C.P) b off e vc.cells.toList 0 cur w h2 hlc c3
    generalize hnew:(cur.toList.take (off+0)++vc.cells.toList++cur.toList.drop (off+0+vc.cells.toList.length)).toArray=new at hrun
    have hnewsz:new.size=cur.size:=by rw [← hnew];simp;simp at hlc;omega
    have hget:∀ j,new.getD j undef=if off≤j∧j<off+vc.cells.size then vc.cells.getD (j - off) undef else cur.getD j undef:=by
     intro j;rw [← hnew];simp only [Array.getD_eq_getD_getElem?,List.getElem?_toArray,Nat.add_zero];rw [List.append_assoc,List.getElem?_append];simp only [Array.length_toList] at hlc
     have ht:(cur.toList.take off).length=off:=by simp;omega
     rw [ht];by_cases h1:j<off
     ·rw [if_pos h1,if_neg (by omega)];simp [List.getElem?_take,h1]
     ·rw [if_neg h1,List.getElem?_append];by_cases h2:j - off<vc.cells.toList.length
      ·rw [if_pos h2,if_pos (by simp at h2;omega)];simp
      ·rw [if_neg h2,if_neg (by simp at h2;omega)]
       simp only [List.getElem?_drop,Array.length_toList];simp only [Array.length_toList] at h2;rw [show off+vc.cells.size+(j - off - vc.cells.size)=j by omega];simp
    have hset:=hH.setRow hp hr h2 hnewsz (Ki cs off (cellsOf v)) (by rw [Jh,hnewsz];exact h5) (fun j=>by
     rw [Qd3 _ _ _ _ (by omega),hget j,c1]
     split
     ·exact c2 _
     ·exact h6 j)
    refine ⟨_,_, ?_,hK,hset.1,hset.2⟩;simp only [Instr.storeAt,Instr.sureAddr,Sem.run_bind,Sem.run_pure,Result.andThen_ok,storeVar,hy.sizeOf];rw [if_neg (by omega)]
    simpa using hrun
 | _=>exact h.elim
def Qh5 (pl:Nat→Place):Option Nat→Nat→Place
 | none=>pl
 | some r=>Qat pl r .dead
def Qgh (H:Qa):Option Nat→Qa
 | none=>H
 | some r=>H.set r none
theorem HR.append {im:Nat→Prop} {pl:Nat→Place} {w w':World} {H:Qa} (h:HR im pl w H) (kill:Option Nat) (hk:∀ r,kill=some r→pl r=.virt∨∃ b cap,pl r=.at b cap) (p:Place) (e s:Nat) (cs:List V)
  (os:w'.os=w.os) (tape:w'.tape=w.tape) (output:w'.output=w.output) (size:w.heap.size≤w'.heap.size)
  (frame:∀ k,k<w.heap.size→(∀ r cap,kill=some r→pl r≠.at k cap)→w'.heap[k]?=w.heap[k]?)
  (hp:(p=.virt∧cs=[])∨∃ g cap cur,p=.at g cap∧((∃ r c,kill=some r∧pl r=.at g c)∨w.heap.size≤g)∧g<w'.heap.size∧w'.heap[g]?=some (.cells cur e (0,0))∧cur.size=cap*s∧cap≤maxLen∧cs.length≤cur.size∧∀ j,VR im pl w (nth cs j) (cur.getD j undef)) :
  HR im (Qat (Qh5 pl kill) H.length p) w' (Qgh H kill++[some ⟨e,s,cs⟩])∧Ext im pl w im (Qat (Qh5 pl kill) H.length p) w':=by
 have hno:=h.no (Nat.le_refl H.length)
 have hkl:(Qgh H kill).length=H.length:=by cases kill<;>simp [Qgh]
 have hkne:∀ r,kill=some r→r≠H.length:=by
  intro r hr e;rcases hk r hr with h1 | ⟨b,cap,h1⟩<;>rw [e,hno] at h1<;>cases h1
 have hkp:∀ r,kill≠some r→Qh5 pl kill r=pl r:=by
  intro r hr;cases kill with
  | none=>rfl
  | some q=>exact Qq _ _ _ _ (fun e=>hr (by rw [e]))
 have hkd:∀ r,kill=some r→Qh5 pl kill r=.dead:=by
  intro r hr;rw [hr];exact Qu _ _ _
 -- an old place that is still there
 have hold:∀ r b c,r≠H.length→Qat (Qh5 pl kill) H.length p r=.at b c→kill≠some r∧pl r=.at b c:=by
  intro r b c hr hb;rw [Qq _ _ _ _ hr] at hb;by_cases hq:kill=some r
  ·rw [hkd r hq] at hb;cases hb
  ·rw [hkp r hq] at hb;exact ⟨hq,hb⟩
 have hkH:∀ r,kill≠some r→r<H.length→(Qgh H kill++[some (⟨e,s,cs⟩:Row)])[r]?=H[r]?:=by
  intro r hr hlt;rw [List.getElem?_append_left (by omega)]
  cases kill with
  | none=>rfl
  | some q=>exact List.getElem?_set_ne (fun e=>hr (by rw [e]))
 have hE:Ext im pl w im (Qat (Qh5 pl kill) H.length p) w':=by
  refine ⟨os,tape,output,size,fun _ hb=>hb,fun _ hb=>.inl hb,fun r hr=>?_,fun r b c hb=>?_,fun b hb hn=>frame b hb (fun r cap _=>hn r cap)⟩
  ·have hq:r≠H.length:=fun e=>hr (e ▸ hno)
   rw [Qq _ _ _ _ hq];by_cases hk2:kill=some r
   ·exact .inr (hkd r hk2)
   ·exact .inl (hkp r hk2)
  ·by_cases hr:r=H.length
   ·subst hr;rw [Qu] at hb;rcases hp with ⟨h1,_⟩ | ⟨g,cap,cur,h1,h2,_⟩
    ·rw [h1] at hb;cases hb
    ·rw [h1] at hb;injection hb with e1 e2;subst e1
     rcases h2 with ⟨r,c,_,h3⟩ | h3
     ·exact .inl ⟨r,c,h3⟩
     ·exact .inr h3
   ·exact .inl ⟨r,c,(hold r b c hr hb).2⟩
 refine ⟨⟨fun r=>?_,fun b hb r c hr=>?_,fun r b c hb=>?_,fun b hb=>Nat.lt_of_lt_of_le (h.imb b hb) size,fun r r' b c c' h1 h2=>?_,fun r hr=>?_,fun r hr=>?_,fun r b c hb=>?_⟩,hE⟩
 ·by_cases hr:r=H.length
  ·subst hr;rw [Qu];simp only [List.length_append,hkl,List.length_singleton];refine ⟨fun _=>?_,fun _=>by omega⟩
   rcases hp with ⟨h1,_⟩ | ⟨g,cap,cur,h1,_⟩<;>rw [h1]<;>simp
  ·rw [Qq _ _ _ _ hr];simp only [List.length_append,hkl,List.length_singleton];by_cases hq:kill=some r
   ·rw [hkd r hq]
    have:r<H.length:=h.lt (by rcases hk r hq with h1 | ⟨b,cap,h1⟩<;>rw [h1]<;>simp)
    exact ⟨fun _=>by simp,fun _=>by omega⟩
   ·rw [hkp r hq,← h.len r];omega
 ·by_cases hq:r=H.length
  ·subst hq;rw [Qu] at hr;rcases hp with ⟨h1,_⟩ | ⟨g,cap,cur,h1,h2,_⟩
   ·rw [h1] at hr;cases hr
   ·rw [h1] at hr;injection hr with e1 e2;subst e1
    rcases h2 with ⟨r,c,_,h3⟩ | h3
    ·exact h.apart g hb r c h3
    ·have:=h.imb g hb;omega
  ·exact h.apart b hb r c (hold r b c hq hr).2
 ·by_cases hr:r=H.length
  ·subst hr;rw [Qu] at hb;rcases hp with ⟨h1,_⟩ | ⟨g,cap,cur,h1,_,h3,_⟩
   ·rw [h1] at hb;cases hb
   ·rw [h1] at hb;injection hb with e1 e2;subst e1;exact h3
  ·exact Nat.lt_of_lt_of_le (h.bound r b c (hold r b c hr hb).2) size
 ·have key:∀ r' b c c',r'≠H.length→Qat (Qh5 pl kill) H.length p H.length=.at b c→Qat (Qh5 pl kill) H.length p r'=.at b c'→False:=by
   intro r' b c c' hr' h1 h2;rw [Qu] at h1;obtain ⟨h3,h4⟩:=hold r' b c' hr' h2;rcases hp with ⟨h5,_⟩ | ⟨g,cap,cur,h5,h6,_⟩
   ·rw [h5] at h1;cases h1
   ·rw [h5] at h1;injection h1 with e1 e2;subst e1
    rcases h6 with ⟨q,c,hq,h7⟩ | h7
    ·exact h3 (by rw [hq,h.inj q r' g c c' h7 h4])
    ·have:=h.bound r' g c' h4;omega
  by_cases hr:r=H.length<;>by_cases hr':r'=H.length
  ·omega
  ·subst hr;exact (key r' b c c' hr' h1 h2).elim
  ·subst hr';exact (key r b c' c hr h2 h1).elim
  ·exact h.inj r r' b c c' (hold r b c hr h1).2 (hold r' b c' hr' h2).2
 ·by_cases hq:r=H.length
  ·subst hq;rw [Qu] at hr;rcases hp with ⟨h1,_⟩ | ⟨g,cap,cur,h1,_⟩<;>rw [h1] at hr<;>cases hr
  ·rw [Qq _ _ _ _ hq] at hr;by_cases hk2:kill=some r
   ·have hlt:r<H.length:=h.lt (by rcases hk r hk2 with h1 | ⟨b,cap,h1⟩<;>rw [h1]<;>simp)
    rw [List.getElem?_append_left (by omega)]
    subst hk2;simp only [Qgh];rw [List.getElem?_set_self hlt]
   ·rw [hkp r hk2] at hr;rw [hkH r hk2 (h.lt (by rw [hr];simp))]
    exact h.dead r hr
 ·by_cases hq:r=H.length
  ·subst hq;rw [Qu] at hr;rcases hp with ⟨h1,h2⟩ | ⟨g,cap,cur,h1,_⟩
   ·subst h2;exact ⟨e,s,by rw [List.getElem?_append_right (by omega)];simp [hkl]⟩
   ·rw [h1] at hr;cases hr
  ·rw [Qq _ _ _ _ hq] at hr;by_cases hk2:kill=some r
   ·rw [hkd r hk2] at hr;cases hr
   ·rw [hkp r hk2] at hr;rw [hkH r hk2 (h.lt (by rw [hr];simp))]
    exact h.virt r hr
 ·by_cases hq:r=H.length
  ·subst hq;rw [Qu] at hb;rcases hp with ⟨h1,_⟩ | ⟨g,cap,cur,h1,h2,h3,h4,h5,h6,h7,h8⟩
   ·rw [h1] at hb;cases hb
   ·rw [h1] at hb;injection hb with e1 e2;subst e1 e2
    exact ⟨e,s,cs,cur,by rw [List.getElem?_append_right (by omega)];simp [hkl],h4,h5,h6,h7,fun j=>(h8 j).mono hE h.apart⟩
  ·obtain ⟨hk2,hb2⟩:=hold r b c hq hb;obtain ⟨e',s',cs',cur',h1,h2,h3,h4,h5,h6⟩:=h.row r b c hb2;refine ⟨e',s',cs',cur',by rw [hkH r hk2 (h.lt (by rw [hb2];simp))];exact h1, ?_,h3,h4,h5,fun j=>(h6 j).mono hE h.apart⟩
   rw [frame b (h.bound r b c hb2) (fun q cap hq2 h7=>hk2 (by rw [hq2,h.inj q r b cap c h7 hb2]))]
   exact h2
def Jo (y:Ty) (x:V) (H:Qa):Option (Nat × List V) :=
 match x with
 | .nil=>some (0,[])
 | .sl m cs=>some (m,cs)
 | .ref r off m=>match Qc H r with
  | some row=>some (m,(row.cs.drop off).take (m*y.size))
  | none=>none
 | _=>none
def Qaa (y:Ty) (e:TypeId) (s x:V) (H:Qa) (K:V→Qa→Prop):Prop :=
 match Jo y x H with
 | none=>False
 | some (m,news)=>news.length=m*y.size∧news.all Yc=true∧0<y.size∧0<y.bytes ∧
  match s with
  | .nil=>m*y.bytes≤140737488355328∧K (.ref H.length 0 m) (H++[some ⟨e,y.size,news⟩])
  | .ref r 0 n=>match Qc H r with
   | some row=>row.e=e∧row.s=y.size∧row.cs.length=n*y.size∧row.cs.all Yc=true∧(n+m)*y.bytes≤140737488355328∧K (.ref H.length 0 (n+m)) (H.set r none++[some ⟨e,y.size,row.cs++news⟩])
   | none=>False
  | .sl 0 _=>m=0∧K (.sl 0 []) H
  | _=>False
theorem Qfc (l:List V) (a j:Nat):nth (l.drop a) j=nth l (a+j):=by
 rw [Xo,Xo];simp [List.getD,List.getElem?_drop]
theorem Qd2 (l:List V) (a j:Nat) (h:j<a):nth (l.take a) j=nth l j:=by
 rw [Xo,Xo];simp [List.getD,List.getElem?_take,h]
theorem Qln {im:Nat→Prop} {pl:Nat→Place} {w:World} {H:Qa} {y:Ty} {x:V} {xc:Value} {m:Nat} {news:List V} (h:Jo y x H=some (m,news)) (hl:news.length=m*y.size) (hx:VR im pl w x xc) (hH:HR im pl w H) (hz:0<y.size) (hsc:news.all Yc=true) :
  ∃ (a:Option Addr) (c:Nat) (vs:List Value),xc=.slice a m c∧vs.length=m*y.size∧(∀ j,VR im pl w (nth news j) (vs.getD j undef))∧(∀ u∈vs,u.oneCell'=true) ∧
   ((∃ ad,a=some ad∧∀ j u,vs[j]?=some u→w.cell? (ad.add j)=some u)∨(a=none∧m=0)):=by
 have hone:∀ (vs:List Value),vs.length=m*y.size→(∀ j,VR im pl w (nth news j) (vs.getD j undef))→∀ u∈vs,u.oneCell'=true:=by
  intro vs hvl hv u hu;obtain ⟨j,hj,rfl⟩:=List.mem_iff_getElem.1 hu
  have h1:=hv j
  rw [Xo] at h1;simp only [List.getD,List.getElem?_eq_getElem hj,List.getElem?_eq_getElem (show j<news.length by omega),Option.getD_some] at h1
  refine (h1.oneCell ?_).1;simp only [List.all_eq_true] at hsc;exact hsc _ (List.getElem_mem _)
 have hnil:∀ (a:Option Addr) (c:Nat),m=0→∃ vs:List Value,vs.length=m*y.size∧(∀ j,VR im pl w (nth news j) (vs.getD j undef))∧(∀ u∈vs,u.oneCell'=true) ∧
   ((∃ ad,a=some ad∧∀ j u,vs[j]?=some u→w.cell? (ad.add j)=some u)∨(a=none∧m=0)):=by
  intro a c hm
  have hn:news=[]:=List.eq_nil_of_length_eq_zero (by rw [hl,hm];simp)
  refine ⟨[],by simp [hm],fun j=>by rw [hn];exact .any _,by simp, ?_⟩
  cases a with
  | none=>exact .inr ⟨rfl,hm⟩
  | some ad=>exact .inl ⟨ad,rfl,fun j u hu=>by simp at hu⟩
 cases x with
 | nil =>
  simp only [Jo,Option.some.injEq,Prod.mk.injEq] at h;cases hx;obtain ⟨vs,h1,h2,h3,h4⟩:=hnil none 0 h.1.symm;exact ⟨none,0,vs,by rw [← h.1],h1,h2,h3,h4⟩
 | sl m' cs =>
  simp only [Jo,Option.some.injEq,Prod.mk.injEq] at h;obtain ⟨rfl,rfl⟩:=h;cases hx with
  | sl0 _ a c =>
   obtain ⟨vs,h1,h2,h3,h4⟩:=hnil a c rfl;exact ⟨a,c,vs,rfl,h1,h2,h3,h4⟩
  | sl _ _ ad c vs hn hi hc hr =>
   have hg:∀ j,((List.range cs.length).map vs).getD j undef=if j<cs.length then vs j else undef:=by
    intro j;by_cases hj:j<cs.length
    ·simp [List.getD,hj]
    ·simp [List.getD,hj]
   have hv:∀ j,VR im pl w (nth cs j) (((List.range cs.length).map vs).getD j undef):=by
    intro j;rw [hg];split
    ·exact hr j
    ·rw [Jw _ _ (by omega)];exact .any _
   refine ⟨_,c,(List.range cs.length).map vs,rfl,by simp [hl],hv,hone _ (by simp [hl]) hv,.inl ⟨ad,rfl,fun j u hu=>?_⟩⟩
   simp only [List.getElem?_map,Option.map_eq_some_iff,List.getElem?_eq_some_iff] at hu;obtain ⟨q,⟨hq,rfl⟩,rfl⟩:=hu;simp at hq ⊢;exact hc _ hq
 | ref r off m' =>
  simp only [Jo] at h;cases hrow:Qc H r with
  | none=>simp [hrow] at h
  | some row =>
   simp only [hrow,Option.some.injEq,Prod.mk.injEq] at h;obtain ⟨rfl,rfl⟩:=h
   have hr:=Xh hrow
   rcases Nat.eq_zero_or_pos m' with hm | hm
   ·have:∃ a c,xc=.slice a m' c:=by
     cases hx with
     | refAt _ _ _ b cap c hp hc h0=>exact ⟨_,_,rfl⟩
     | refVirt _ hp=>exact ⟨_,_,rfl⟩
     | refDead _ _ _ a c hp=>exact ⟨_,_,rfl⟩
    obtain ⟨a,c,rfl⟩:=this;obtain ⟨vs,h1,h2,h3,h4⟩:=hnil a c hm;exact ⟨a,c,vs,rfl,h1,h2,h3,h4⟩
   ·have hpos:0<m'*y.size:=Nat.mul_pos hm hz
    have hlen:off+m'*y.size≤row.cs.length:=by
     simp only [List.length_take,List.length_drop] at hl;omega
    obtain ⟨b,cap,cur,hp,hb,hcs,hcap,hlc,hv⟩:=hH.block hr (by omega)
    cases hx with
    | refVirt _ hp'=>omega
    | refDead _ _ _ a c hp'=>rw [hp] at hp';cases hp'
    | refAt _ _ _ b' cap' c hp' hc h0 =>
     rw [hp] at hp';injection hp' with e1 e2
     subst e1 e2
     have hg:∀ j,((List.range (m'*y.size)).map fun j=>cur.getD (off+j) undef).getD j undef=if j<m'*y.size then cur.getD (off+j) undef else undef:=by
      intro j;by_cases hj:j<m'*y.size
      ·simp [List.getD,hj]
      ·simp [List.getD,hj]
     have hv2:∀ j,VR im pl w (nth ((row.cs.drop off).take (m'*y.size)) j) (((List.range (m'*y.size)).map fun j=>cur.getD (off+j) undef).getD j undef):=by
      intro j;rw [hg];split
      ·rename_i hj;rw [Qd2 _ _ _ hj,Qfc];exact hv _
      ·rw [Jw _ _ (by rw [hl];omega)];exact .any _
     refine ⟨_,c,(List.range (m'*y.size)).map fun j=>cur.getD (off+j) undef,rfl,by simp,hv2,hone _ (by simp) hv2,.inl ⟨_,rfl,fun j u hu=>?_⟩⟩
     simp only [List.getElem?_map,Option.map_eq_some_iff,List.getElem?_eq_some_iff] at hu;obtain ⟨q,⟨hq,rfl⟩,rfl⟩:=hu;simp only [List.length_range] at hq;simp only [List.getElem_range];rw [Zl];exact Zw hb (by omega)
 | _=>simp [Jo] at h
theorem Qez {P:Program} (w:World) (t ty e:TypeId) (y:Ty) (ht:P.underlying t=some (.slice e)) (hy:OKt P e y) (a ax:Option Addr) (n c cx:Nat) (hn:n≤c) :
  (Builtin.append_ #[t,t] ty #[.slice a n c,.slice ax 0 cx]).run P w=.ok (.slice a n c) w:=by
 obtain ⟨i,hi,hz,hs,hb⟩:=hy.parts;cases a<;>cases ax<;>simp [Builtin.append_,run_underlying ht,sizeOf,typeInfo,hi,Builtin.lenOf,Builtin.firstCells,storeCells,loadCells,loadCellsFrom,hn]
theorem Qvu {C:Ctx} {im:Nat→Prop} {pl:Nat→Place} {w:World} {H:Qa} {t e ty:TypeId} {s x:V} {sc xc:Value} {K:V→Qa→Prop}
  (ht:(C.ty t).ok=true) (hte:(C.ty t).sl=some e) (he:(C.ty e).ok=true) (h:Qaa (C.ty e) e s x H K) (hs:VR im pl w s sc) (hx:VR im pl w x xc) (hH:HR im pl w H) :
  ∃ v vc im' pl' w' H',(Builtin.append_ #[t,t] ty #[sc,xc]).run C.P w=.ok vc w'∧K v H'∧VR im' pl' w' v vc∧HR im' pl' w' H'∧Ext im pl w im' pl' w':=by
 have hy:=C.ok e he
 have hsl:=(C.ok t ht).slice hte
 obtain ⟨i,hi,hiz,his,hib⟩:=hy.parts;unfold Qaa at h;cases hel:Jo (C.ty e) x H with
 | none=>rw [hel] at h;exact h.elim
 | some mn =>
  obtain ⟨m,news⟩:=mn;rw [hel] at h;obtain ⟨hnl,hsc,hz,hbp,h⟩:=h;obtain ⟨a,c,vs,rfl,hvl,hvv,hone,hwhere⟩:=Qln hel hnl hx hH hz hsc
  -- a row that is owned: append it
  have go:∀ (kill:Option Nat) (n:Nat) (old:List V) (base:Nat) (xs:List Value) (b0:Nat) ,(∀ r,kill=some r→pl r=.virt∨∃ cap,pl r=.at b0 cap)→w.ownsRow 0 e (C.ty e).size sc n xs→(sc=.slice none 0 0∨∃ r cap cap',kill=some r∧pl r=.at b0 cap∧sc=.slice (some ⟨b0,0,none⟩) n cap') →
    old.length=n*(C.ty e).size→(∀ j,VR im pl w (nth old j) (xs.getD j undef))→(n+m)*(C.ty e).bytes≤140737488355328 →
    K (.ref H.length 0 (n+m)) (Qgh H kill++[some ⟨e,(C.ty e).size,old++news⟩]) →
    ∃ v vc im' pl' w' H',(Builtin.append_ #[t,t] ty #[sc,.slice a m c]).run C.P w=.ok vc w'∧K v H'∧VR im' pl' w' v vc∧HR im' pl' w' H'∧Ext im pl w im' pl' w':=by
   intro kill n old base xs b0 hkill hown hblk hol hov hby hK
   have hxl:xs.length=n*(C.ty e).size:=hown.1
   have hlen:n+m≤maxLen:=by
    have:=Nat.le_trans (Nat.le_mul_of_pos_right (n+m) hbp) hby
    simp only [maxLen];omega
   have hrun:∃ v' w',(Builtin.append_ #[t,t] ty #[sc,.slice a m c]).run C.P w=.ok v' w'∧w'.ownsRow 0 e (C.ty e).size v' (n+m) (xs++vs)∧w.grownBy w' sc.ownBlock∧(v'.ownBlock=sc.ownBlock∨v'.ownBlock=some w.heap.size):=by
    rcases hwhere with ⟨ad,rfl,hcells⟩ | ⟨rfl,rfl⟩
    ·obtain ⟨v',w',h1,h2,h3,_,h5⟩:=run_append_own_at (P:=C.P) w 0 t ty e i (C.ty e).z (C.ty e).size (C.ty e).bytes hsl hi hiz his hib hy.zc hz sc n xs hown ad m c vs hvl hcells hone hlen hby (Nat.zero_le _);exact ⟨v',w',h1,h2,h3,h5⟩
    ·have hvs:vs=[]:=List.eq_nil_of_length_eq_zero (by rw [hvl];simp)
     subst hvs
     have:∃ a' c',sc=.slice a' n c'∧n≤c':=by
      rcases hown.2 with ⟨h1,h2⟩ | ⟨g,cap,cur,h1,_,_,h2,_⟩
      ·exact ⟨none,0,by rw [h1,h2],by omega⟩
      ·exact ⟨_,cap,h1,h2⟩
     obtain ⟨a',c',rfl,hle⟩:=this;exact ⟨_,w,Qez w t ty e (C.ty e) hsl hy a' none n c' c hle,by simpa using hown,World.grownBy.refl w _,.inl rfl⟩
   obtain ⟨v',w',hr,hown',hg,hat⟩:=hrun
   have hav:∀ j,VR im pl w (nth (old++news) j) ((xs++vs).getD j undef):=by
    intro j;rw [Yj];split
    ·rename_i hj
     have:=hov j
     simpa [List.getD,List.getElem?_append_left (show j<xs.length by omega)] using this
    ·rename_i hj
     have:=hvv (j - old.length)
     simp only [List.getD,List.getElem?_append_right (show xs.length≤j by omega)]
     rw [hxl,← hol];exact this
   have hsco:∀ k,sc.ownBlock=some k→k=b0∧∃ r cap,kill=some r∧pl r=.at b0 cap:=by
    intro k hk;rcases hblk with h1 | ⟨r,cap,cap',h1,h2,h3⟩
    ·rw [h1] at hk;simp [Value.ownBlock] at hk
    ·rw [h3] at hk;simp [Value.ownBlock] at hk;exact ⟨hk.symm,r,cap,h1,h2⟩
   have fin:∀ (p:Place) (_:VR im (Qat (Qh5 pl kill) H.length p) w' (.ref H.length 0 (n+m)) v'),((p=.virt∧old++news=[])∨∃ g cap cur,p=.at g cap∧((∃ r c,kill=some r∧pl r=.at g c)∨w.heap.size≤g)∧g<w'.heap.size∧w'.heap[g]?=some (.cells cur e (0,0))∧cur.size=cap*(C.ty e).size∧cap≤maxLen∧(old++news).length≤cur.size∧∀ j,VR im pl w (nth (old++news) j) (cur.getD j undef)) →
     ∃ v vc im' pl' w' H',(Builtin.append_ #[t,t] ty #[sc,.slice a m c]).run C.P w=.ok vc w'∧K v H'∧VR im' pl' w' v vc∧HR im' pl' w' H'∧Ext im pl w im' pl' w':=by
    intro p hv hp
    have:=hH.append (w':=w') kill (fun r hr=>(hkill r hr).imp id (fun ⟨cap,h⟩=>⟨b0,cap,h⟩)) p e (C.ty e).size (old++news) hg.os hg.tape hg.output hg.size (fun k hk hn=>hg.block k hk (fun e'=>by
     obtain ⟨h1,r,cap,h2,h3⟩:=hsco k (by rw [e'])
     exact hn r cap h2 (by rw [h1];exact h3))) hp
    exact ⟨_,_,im,_,w',_,hr,hK,hv,this.1,this.2⟩
   rcases hown'.2 with ⟨h1,h2⟩ | ⟨g,cap,cur,h1,_,h3,h4,h5,h6,h7⟩
   ·have hm0:m=0:=by omega
    have hn0:n=0:=by omega
    subst hm0 hn0;refine fin .virt (by rw [h1];exact .refVirt _ (Qu _ _ _)) (.inl ⟨rfl, ?_⟩)
    exact List.eq_nil_of_length_eq_zero (by rw [List.length_append,hol,hnl];simp)
   ·refine fin (.at g cap) (by rw [h1];exact .refAt _ 0 _ g cap cap (Qu _ _ _) h4 (fun _=>rfl)) (.inr ⟨g,cap,cur,rfl, ?_,(Array.getElem?_eq_some_iff.1 h3).1,h3,h6,h5, ?_,fun j=>?_⟩)
    ·rcases hat with h8 | h8
     ·rw [h1] at h8;obtain ⟨h9,r,cap',h10,h11⟩:=hsco g (by rw [← h8];rfl)
      exact .inl ⟨r,cap',h10,by rw [h9];exact h11⟩
     ·rw [h1] at h8;simp [Value.ownBlock] at h8;exact .inr (by omega)
    ·rw [List.length_append,hol,hnl,h6,← Nat.add_mul];exact Nat.mul_le_mul_right _ h4
    ·by_cases hj:j<(old++news).length
     ·have:=hav j
      rw [← h7] at this
      have hj2:j<(n+m)*(C.ty e).size:=by rw [List.length_append,hol,hnl,← Nat.add_mul] at hj;exact hj
      simpa [List.getD,List.getElem?_take,hj2,Array.getD_eq_getD_getElem?] using this
     ·rw [Jw _ _ (by omega)];exact .any _
  cases s with
  | nil =>
   obtain ⟨hby,hK⟩:=h;cases hs;exact go none 0 [] 0 [] 0 (fun r hr=>by cases hr) ⟨by simp,.inl ⟨rfl,rfl⟩⟩ (.inl rfl) (by simp) (fun j=>by simp [nth];exact .any _) (by simpa using hby) (by simpa [Qgh] using hK)
  | sl n cs =>
   cases n with
   | succ n=>exact h.elim
   | zero =>
    obtain ⟨rfl,hK⟩:=h
    have:∃ a' c',sc=.slice a' 0 c':=by
     cases hs with
     | sl0 _ a' c'=>exact ⟨_,_,rfl⟩
     | sl _ _ ad c' vs' hn hi2 hc hr=>exact ⟨_,_,rfl⟩
    obtain ⟨a',c',rfl⟩:=this;exact ⟨_,_,im,pl,w,H,Qez w t ty e (C.ty e) hsl hy a' a 0 c' c (Nat.zero_le _),hK,.sl0 _ _ _,hH,.refl _ _ _⟩
  | ref r off n =>
   cases off with
   | succ off=>exact h.elim
   | zero =>
    simp only at h;cases hrow:Qc H r with
    | none=>rw [hrow] at h;exact h.elim
    | some row =>
     rw [hrow] at h;obtain ⟨rfl,hrs,hol,hosc,hby,hK⟩:=h
     have hr:=Xh hrow
     rw [← hrs] at hol;cases hs with
     | refDead _ _ _ a' c' hp=>have:=hH.dead r hp;rw [hr] at this;cases this
     | refVirt _ hp =>
      obtain ⟨e',s',h1⟩:=hH.virt r hp;rw [hr] at h1;injection h1 with h1;injection h1 with h1
      have hc0:row.cs=[]:=by rw [h1]
      exact go (some r) 0 row.cs 0 [] 0 (fun q hq=>by injection hq with hq;subst hq;exact .inl hp) ⟨by simp,.inl ⟨rfl,rfl⟩⟩ (.inl rfl) (by simp [hc0]) (fun j=>by rw [hc0];simp [nth];exact .any _) hby (by simpa [Qgh] using hK)
     | refAt _ _ _ b cap c' hp hc h0 =>
      have hcc:=h0 rfl
      subst hcc;obtain ⟨e',s',cs',cur,h1,h2,h3,h4,h5,h6⟩:=hH.row r b c' hp;rw [hr] at h1;injection h1 with h1;injection h1 with h1
      subst h1;simp only at hrs hol hosc;subst hrs;refine go (some r) n cs' 0 (cur.toList.take (n*(C.ty e').size)) b (fun q hq=>by injection hq with hq;subst hq;exact .inr ⟨c',hp⟩) ⟨?_,.inr ⟨b,c',cur,rfl,Nat.zero_le _,h2,hc,h4,h3,rfl⟩⟩ (.inr ⟨r,c',c',rfl,hp,rfl⟩) hol (fun j=>?_) hby (by simpa [Qgh] using hK)
      ·simp only [List.length_take,Array.length_toList];omega
      ·by_cases hj:j<n*(C.ty e').size
       ·have:=h6 j
        simpa [List.getD,List.getElem?_take,hj,Array.getD_eq_getD_getElem?] using this
       ·rw [Jw _ _ (by omega)];exact .any _
  | _=>exact h.elim
def kn:V→Bool
 | .any=>false
 | _=>true
theorem VR.cells' {im:Nat→Prop} {pl:Nat→Place} {w:World} {v:V} {c:Value} (h:VR im pl w v c) (hs:kn v=true) :
  c.cells.toList.length=(cellsOf v).length∧(∀ j,VR im pl w (nth (cellsOf v) j) (c.cells.toList.getD j undef)):=by
 have one:∀ v c,VR im pl w v c→([c]:List Value).length=([v]:List V).length∧∀ j,VR im pl w (nth [v] j) ([c].getD j undef):=by
  intro v c h;refine ⟨rfl,fun j=>?_⟩
  cases j with
  | zero=>simpa [nth] using h
  | succ j=>simp [nth];exact .any _
 cases h with
 | any=>simp [kn] at hs
 | agg cs vs hl hr=>exact ⟨by simp [Value.cells,cellsOf,hl],fun j=>by simpa [Value.cells,cellsOf] using hr j⟩
 | int=>exact one _ _ (.int _ _)
 | bool=>exact one _ _ (.bool _)
 | str=>exact one _ _ (.str _)
 | nil=>exact one _ _ .nil
 | sl0=>exact one _ _ (.sl0 _ _ _)
 | sl n cs ad c vs hn hi hc hr=>exact one _ _ (.sl n cs ad c vs hn hi hc hr)
 | refAt r off n b cap c hp hc h0=>exact one _ _ (.refAt r off n b cap c hp hc h0)
 | refVirt r hp=>exact one _ _ (.refVirt r hp)
 | refDead r off n a c hp=>exact one _ _ (.refDead r off n a c hp)
 | tup cs vs hl hr=>exact one _ _ (.tup cs vs hl hr)
 | ptrAt r off b cap hp=>exact one _ _ (.ptrAt r off b cap hp)
 | ptrDead r off a hp=>exact one _ _ (.ptrDead r off a hp)
 | nilp=>exact one _ _ .nilp
 | rp cs off ad vs hi hc hr=>exact one _ _ (.rp cs off ad vs hi hc hr)
 | fn f xs ys us vs hl hr hl' hr'=>exact one _ _ (.fn f xs ys us vs hl hr hl' hr')
 | nilf=>exact one _ _ .nilf
 | mp k ks cs b es clock vs hi hb hf hr=>exact one _ _ (.mp k ks cs b es clock vs hi hb hf hr)
def Zn (place:Nat→Option (Nat × Nat)) (cells:List V):List (Nat × V)→Option (List V)
 | []=>some cells
 | (i,v)::rest =>
  match place i with
  | none=>none
  | some (off,size)=>if kn v=true∧(cellsOf v).length=size∧off+(cellsOf v).length≤cells.length then Zn place (Ki cells off (cellsOf v)) rest else none
theorem Qz9 {im:Nat→Prop} {pl:Nat→Place} {w:World} (off:Nat):∀ (l:List Value) (ls:List V) (k:Nat) (cs:List V) (cells:Array Value),ls.length=l.length→cs.length=cells.size→off+k+l.length≤cs.length →
  (∀ j,VR im pl w (nth cs j) (cells.getD j undef))→(∀ j,VR im pl w (nth ls j) (l.getD j undef)) →
  ((l.zipIdx k).foldl (fun cs (p:Value × Nat)=>cs.setIfInBounds (off+p.2) p.1) cells).size=cells.size∧∀ j,VR im pl w (nth (Ki cs (off+k) ls) j) (((l.zipIdx k).foldl (fun cs (p:Value × Nat)=>cs.setIfInBounds (off+p.2) p.1) cells).getD j undef):=by
 intro l
 induction l with
 | nil =>
  intro ls k cs cells h1 h2 h3 h4 h5
  have:ls=[]:=List.eq_nil_of_length_eq_zero (by simpa using h1)
  subst this;exact ⟨rfl,h4⟩
 | cons a l ih =>
  intro ls k cs cells h1 h2 h3 h4 h5;cases ls with
  | nil=>simp at h1
  | cons v ls =>
   simp only [List.length_cons] at h1 h3;simp only [List.zipIdx_cons,List.foldl_cons,Ki]
   have:=ih ls (k+1) (upd cs (off+k) v) (cells.setIfInBounds (off+k) a) (by omega) (by simp [Yi,h2]) (by rw [Yi];omega) (fun j=>by
    rw [Zh];by_cases hj:j=off+k
    ·subst hj;rw [if_pos ⟨rfl,by omega⟩]
     have:=h5 0
     simp only [nth,List.getD_cons_zero] at this;simpa [Array.getD_eq_getD_getElem?,Array.getElem?_setIfInBounds,show off+k<cells.size by omega] using this
    ·rw [if_neg (by omega)]
     have:=h4 j
     simpa [Array.getD_eq_getD_getElem?,Array.getElem?_setIfInBounds,Ne.symm hj] using this) (fun j=>by have:=h5 (j+1);simpa [nth] using this)
   rw [show off+(k+1)=off+k+1 by omega] at this
   simpa using this
theorem Qe5 {im:Nat→Prop} {pl:Nat→Place} {w:World} (place:Nat→Option (Nat × Nat)):∀ (parts:List (Nat × V)) (vparts:List (Nat × Value)) (cs:List V) (cells:Array Value) (out:List V),
  Zn place cs parts=some out→parts.map (·.1)=vparts.map (·.1)→(∀ (j:Nat) (p:Nat × V) (q:Nat × Value),parts[j]?=some p→vparts[j]?=some q→VR im pl w p.2 q.2)→cs.length=cells.size→(∀ j,VR im pl w (nth cs j) (cells.getD j undef)) →
  ∃ res,Instr.fill place cells vparts=some res∧out.length=res.size∧out.length=cs.length∧∀ j,VR im pl w (nth out j) (res.getD j undef):=by
 intro parts
 induction parts with
 | nil =>
  intro vparts cs cells out h1 h2 h3 h4 h5;cases vparts with
  | cons q l=>simp at h2
  | nil=>simp only [Zn,Option.some.injEq] at h1;subst h1;exact ⟨cells,rfl,h4,rfl,h5⟩
 | cons p parts ih =>
  intro vparts cs cells out h1 h2 h3 h4 h5;cases vparts with
  | nil=>simp at h2
  | cons q vparts =>
   obtain ⟨i,v⟩:=p;obtain ⟨i',c⟩:=q;simp only [List.map_cons,List.cons.injEq] at h2;obtain ⟨rfl,h2⟩:=h2;simp only [Zn] at h1;simp only [Instr.fill];cases hp:place i with
   | none=>simp [hp] at h1
   | some os =>
    obtain ⟨off,size⟩:=os;simp only [hp] at h1 ⊢;by_cases hc:kn v=true∧(cellsOf v).length=size∧off+(cellsOf v).length≤cs.length
    ·rw [if_pos hc] at h1;obtain ⟨hk,hs,hle⟩:=hc
     have hv:VR im pl w v c:=h3 0 _ _ rfl rfl
     obtain ⟨c1,c2⟩:=hv.cells' hk
     have hcs:c.cells.size=size:=by rw [← hs,← c1];simp
     have hif:¬ ((c.cells.size≠size||off+c.cells.size>cells.size)=true):=by
      have:off+c.cells.size≤cells.size:=by rw [← h4,hcs,← hs];exact hle
      simp [hcs];omega
     rw [if_neg hif]
     have hf:=Qz9 (im:=im) (pl:=pl) (w:=w) off c.cells.toList (cellsOf v) 0 cs cells c1.symm h4 (by rw [c1];omega) h5 c2
     have he:(Array.foldl (fun cs (x:Value × Nat)=>match x with | (c,j)=>cs.setIfInBounds (off+j) c) cells c.cells.zipIdx)=(c.cells.toList.zipIdx 0).foldl (fun cs (p:Value × Nat)=>cs.setIfInBounds (off+p.2) p.1) cells:=by
      rw [← Array.foldl_toList,Array.toList_zipIdx]
     rw [he];obtain ⟨res,r1,r2,r3,r4⟩:=ih vparts _ _ out h1 h2 (fun j p q hp hq=>h3 (j+1) p q hp hq) (by rw [Jh,hf.1];exact h4) hf.2
     exact ⟨res,r1,r2,by rw [r3,Jh],r4⟩
    ·rw [if_neg hc] at h1;cases h1
def Xb (y:Ty):List V:=y.z.cells.toList.map cv1
theorem Qmq {im:Nat→Prop} {pl:Nat→Place} {w:World} {P:Program} {t:TypeId} {y:Ty} (hy:OKt P t y):(Xb y).length=y.z.cells.size∧∀ j,VR im pl w (nth (Xb y) j) (y.z.cells.getD j undef):=by
 refine ⟨by simp [Xb],fun j=>?_⟩
 have:=Qxa im pl w y.z.cells.toList j
 simpa [Xb,Array.getD_eq_getD_getElem?,List.getD] using this
def Qpu (ty:TypeId→Ty) (t:TypeId) (parts:List (Nat × V)) (K:V→Prop):Prop :=
 (ty t).fs≠[]∧(ty t).fs.all (fun p=>(ty p.2).ok)=true ∧
  match Zn (fun i=>((ty t).fs[i]?).map fun p=>(p.1,(ty p.2).size)) (Xb (ty t)) parts with
  | some out=>K (.agg out)
  | none=>False
def Xfn (ty:TypeId→Ty) (t e:TypeId) (parts:List (Nat × V)) (K:V→Prop):Prop :=
 (ty e).ok=true ∧
  match Zn (fun i=>some (i*(ty e).size,(ty e).size)) (Xb (ty t)) parts with
  | some out=>K (.agg out)
  | none=>False
def Qa3 (ty:TypeId→Ty) (t:TypeId) (parts:List (Nat × V)) (K:V→Prop):Prop :=
 match (ty t).arr with
 | some (_,e)=>Xfn ty t e parts K
 | none=>Qpu ty t parts K
theorem Qis {im:Nat→Prop} {pl:Nat→Place} {w:World} {ts:List V} {a:Act} (h:TR im pl w ts a.tmps) (parts:Array (Nat × Operand)) :
  (parts.toList.map fun p=>(p.1,ev ts p.2)).map (·.1)=(parts.map fun (i,x)=>(i,a.eval x)).toList.map (·.1) ∧
  ∀ (j:Nat) (p:Nat × V) (q:Nat × Value),(parts.toList.map fun p=>(p.1,ev ts p.2))[j]?=some p→(parts.map fun (i,x)=>(i,a.eval x)).toList[j]?=some q→VR im pl w p.2 q.2:=by
 refine ⟨by simp,fun j p q hp hq=>?_⟩
 simp only [List.getElem?_map,Option.map_eq_some_iff,Array.toList_map] at hp hq;obtain ⟨x,hx,rfl⟩:=hp;obtain ⟨x',hx',rfl⟩:=hq;rw [hx] at hx';injection hx' with hx'
 subst hx';exact Qgl h _
theorem Qpt {C:Ctx} {im:Nat→Prop} {pl:Nat→Place} {w:World} {t:TypeId} {ts:List V} {a:Act} {parts:Array (Nat × Operand)} {K:V→Prop} (ht:(C.ty t).ok=true)
  (h:Qpu C.ty t (parts.toList.map fun p=>(p.1,ev ts p.2)) K) (hts:TR im pl w ts a.tmps):∃ v vc,(Instr.build t (parts.map fun (i,x)=>(i,a.eval x))).run C.P w=.ok vc w∧K v∧VR im pl w v vc:=by
 obtain ⟨hne,hall,h⟩:=h
 have hy:=C.ok t ht
 obtain ⟨i,hi,hiz,his,hib⟩:=hy.parts;obtain ⟨fs,hu,hfs⟩:=hy.struct_fs hne;obtain ⟨hp1,hp2⟩:=Qis hts parts
 have hz:=Qmq (im:=im) (pl:=pl) (w:=w) hy
 cases hv:Zn (fun i=>((C.ty t).fs[i]?).map fun p=>(p.1,(C.ty p.2).size)) (Xb (C.ty t)) (parts.toList.map fun p=>(p.1,ev ts p.2)) with
 | none=>rw [hv] at h;exact h.elim
 | some out =>
  rw [hv] at h;obtain ⟨res,r1,r2,_,r4⟩:=Qe5 _ _ _ _ _ _ hv hp1 hp2 hz.1 hz.2;refine ⟨_,.agg res,run_build w t _ res ?_,h, ?_⟩
  ·unfold Program.built
   have hm:fs.toList.mapM (fun f=>(C.P.info? f.type).map fun i=>(f.offset,i.size))=some ((C.ty t).fs.map fun p=>(p.1,(C.ty p.2).size)):=by
    rw [hfs] at hall ⊢
    clear hfs hu hv r1 h hp1 hp2
    generalize fs.toList=l at hall ⊢
    induction l with
    | nil=>rfl
    | cons f l ih =>
     simp only [List.map_cons,List.all_cons,Bool.and_eq_true] at hall;obtain ⟨j,hj,_,hjs,_⟩:=(C.ok f.type hall.1).parts;simp only [List.mapM_cons,hj,Option.map_some,Option.bind_eq_bind,Option.bind_some,Option.pure_def,ih hall.2,List.map_cons,hjs]
   simp only [hi,hu,hiz,hm]
   have:(fun x:Nat=>(((C.ty t).fs.map fun p:Nat × Nat=>(p.1,(C.ty p.2).size)).toArray)[x]?)=fun i=>((C.ty t).fs[i]?).map fun p=>(p.1,(C.ty p.2).size):=by
    funext x;simp
   rw [this];exact r1
  ·have:=VR.agg (im:=im) (pl:=pl) (w:=w) out res.toList (by simpa using r2) (fun j=>by have:=r4 j;simpa [Array.getD_eq_getD_getElem?,List.getD] using this)
   simpa using this
theorem Qps {C:Ctx} {im:Nat→Prop} {pl:Nat→Place} {w:World} {t:TypeId} {ts:List V} {a:Act} {parts:Array (Nat × Operand)} {K:V→Prop} (ht:(C.ty t).ok=true)
  (h:Qa3 C.ty t (parts.toList.map fun p=>(p.1,ev ts p.2)) K) (hts:TR im pl w ts a.tmps):∃ v vc,(Instr.build t (parts.map fun (i,x)=>(i,a.eval x))).run C.P w=.ok vc w∧K v∧VR im pl w v vc:=by
 unfold Qa3 at h;cases harr:(C.ty t).arr with
 | none=>rw [harr] at h;exact Qpt ht h hts
 | some ne =>
  obtain ⟨n,e⟩:=ne;rw [harr] at h;obtain ⟨he,h⟩:=h
  have hy:=C.ok t ht
  have hye:=C.ok e he
  obtain ⟨i,hi,hiz,his,hib⟩:=hy.parts;obtain ⟨j,hj,hjz,hjs,hjb⟩:=hye.parts
  have hu:=hy.array harr
  obtain ⟨hp1,hp2⟩:=Qis hts parts
  have hz:=Qmq (im:=im) (pl:=pl) (w:=w) hy
  cases hv:Zn (fun i=>some (i*(C.ty e).size,(C.ty e).size)) (Xb (C.ty t)) (parts.toList.map fun p=>(p.1,ev ts p.2)) with
  | none=>simp only [hv] at h
  | some out =>
   simp only [hv] at h;obtain ⟨res,r1,r2,_,r4⟩:=Qe5 _ _ _ _ _ _ hv hp1 hp2 hz.1 hz.2;refine ⟨_,.agg res,run_build w t _ res ?_,h, ?_⟩
   ·unfold Program.built;simp only [hi,hu,hiz,hj,hjs];exact r1
   ·have:=VR.agg (im:=im) (pl:=pl) (w:=w) out res.toList (by simpa using r2) (fun j=>by have:=r4 j;simpa [Array.getD_eq_getD_getElem?,List.getD] using this)
    simpa using this
def Qbn (n:Nat) (zs:List V):List V:=(List.replicate n zs).flatten
theorem Qfh (n:Nat) (zs:List V):(Qbn n zs).length=n*zs.length:=by simp [Qbn]
theorem Qrb (n:Nat) (zs:List V):∀ j,j<n*zs.length→nth (Qbn n zs) j=nth zs (j%zs.length):=by
 induction n with
 | zero=>intro j hj;omega
 | succ n ih =>
  intro j hj
  have e:Qbn (n+1) zs=zs++Qbn n zs:=by simp [Qbn,List.replicate_succ]
  rw [e,Yj];split
  ·rename_i h;rw [Nat.mod_eq_of_lt h]
  ·rename_i h;rw [Nat.succ_mul] at hj;rw [ih _ (by omega),← Nat.mod_eq_sub_mod (by omega)]
def Qdd (ty:TypeId→Ty) (t:TypeId) (l c:V) (H:Qa) (K:V→Qa→Prop):Prop :=
 match (ty t).sl,l,c with
 | some e,.int _ n,.int _ m=>(ty e).ok=true∧n=m∧0≤n∧n≤9223372036854775807∧(ty e).bytes*n.toNat≤281474976710656∧K (.ref H.length 0 n.toNat) (H++[some ⟨e,(ty e).size,Qbn n.toNat (Xb (ty e))⟩])
 | _,_,_=>False
theorem Qrg {C:Ctx} {im:Nat→Prop} {pl:Nat→Place} {w:World} {H:Qa} {t:TypeId} {l c:V} {lc cc:Value} {K:V→Qa→Prop} (ht:(C.ty t).ok=true)
  (h:Qdd C.ty t l c H K) (hl:VR im pl w l lc) (hc:VR im pl w c cc) (hH:HR im pl w H) :
  ∃ v vc im' pl' w' H',(Instr.makeSlice t lc cc).run C.P w=.ok vc w'∧K v H'∧VR im' pl' w' v vc∧HR im' pl' w' H'∧Ext im pl w im' pl' w':=by
 unfold Qdd at h;split at h
 ·rename_i e k n k' m hsl;obtain ⟨he,rfl,h0,h63,hb,hK⟩:=h;cases hl;cases hc
  have hy:=C.ok e he
  obtain ⟨i,hi,hiz,his,hib⟩:=hy.parts;obtain ⟨q,rfl⟩:=Int.eq_ofNat_of_zero_le h0;simp only [Int.toNat_natCast] at hb hK;obtain ⟨w',hr,hown,hg⟩:=run_make_full (P:=C.P) w 0 t e i (C.ty e).z (C.ty e).size ((C.ok t ht).slice hsl) hi hiz his k k' q (by rw [hib];exact hb) (by simp only [maxLen];omega) (Nat.zero_le _)
  have hz:=Qmq (im:=im) (pl:=pl) (w:=w) hy
  have hzl:(Xb (C.ty e)).length=(C.ty e).size:=hz.1.trans hy.zc
  rcases hown.2 with ⟨h1,_⟩ | ⟨g,cap,cur,h1,_,h3,h4,h5,h6,h7⟩
  ·cases h1
  ·injection h1 with h1 h1' h1''
   injection h1 with h1
   injection h1 with h1
   subst h1 h1''
   have hcs:cur.size=q*(C.ty e).size:=h6
   have hcur:cur.toList=(madeCells (C.ty e).z.cells (q*(C.ty e).size)).toList:=by
    rw [← h7,List.take_of_length_le (by simp [hcs])]
   have:=hH.append (w':=w') none (fun r hr=>by cases hr) (.at w.heap.size q) e (C.ty e).size (Qbn q (Xb (C.ty e))) hg.os hg.tape hg.output hg.size (fun k hk _=>hg.block k hk (by simp))
    (.inr ⟨w.heap.size,q,cur,rfl,.inr (Nat.le_refl _),(Array.getElem?_eq_some_iff.1 h3).1,h3,h6,h5,by rw [Qfh,hzl,hcs];exact Nat.le_refl _,fun j=>?_⟩)
   ·exact ⟨_,_,im,_,w',_,hr,by simpa [Qgh] using hK,.refAt _ 0 _ _ q q (Qu _ _ _) (Nat.le_refl _) (fun _=>rfl),this.1,this.2⟩
   ·by_cases hj:j<q*(C.ty e).size
    ·rw [Qrb _ _ _ (by rw [hzl];exact hj),hzl]
     have h8:=hz.2 (j%(C.ty e).size)
     have hpos:0<(C.ty e).size:=Nat.pos_of_ne_zero (fun e0=>by rw [e0] at hj;omega)
     have hmod:j%(C.ty e).size<(C.ty e).z.cells.size:=by rw [hy.zc];exact Nat.mod_lt _ hpos
     have h9:cur.getD j undef=(C.ty e).z.cells.getD (j%(C.ty e).size) undef:=by
      rw [Array.getD_eq_getD_getElem?,← Array.getElem?_toList,hcur];simp [madeCells,hj,hy.zc,Array.getD_eq_getD_getElem?,hmod,getElem!_pos,Nat.mod_lt _ hpos]
     rw [h9];exact h8
    ·rw [Jw _ _ (by rw [Qfh,hzl];omega)];exact .any _
 ·exact h.elim
def Qbx (ty:TypeId→Ty) (t:TypeId) (len:Nat) (parts:List (Nat × V)) (H:Qa) (K:V→Qa→Prop):Prop :=
 match (ty t).sl with
 | some e=>(ty e).ok=true∧len*(ty e).size≤16777216∧0<(ty e).size ∧
  match Zn (fun i=>some (i*(ty e).size,(ty e).size)) (List.replicate (len*(ty e).size) .any) parts with
  | some out=>K (.ref H.length 0 len) (H++[some ⟨e,(ty e).size,out⟩])
  | none=>False
 | none=>False
theorem Qjr {C:Ctx} {im:Nat→Prop} {pl:Nat→Place} {w:World} {t:TypeId} {len:Nat} {ts:List V} {a:Act} {parts:Array (Nat × Operand)} {e:Nat} {out:List V} (ht:(C.ty t).ok=true) (hsl:(C.ty t).sl=some e)
  (he:(C.ty e).ok=true) (hsmall:len*(C.ty e).size≤16777216) (hpos:0<(C.ty e).size) (hv:Zn (fun i=>some (i*(C.ty e).size,(C.ty e).size)) (List.replicate (len*(C.ty e).size) .any) (parts.toList.map fun p=>(p.1,ev ts p.2))=some out) (hts:TR im pl w ts a.tmps) :
  ∃ res:Array Value,(Instr.buildSlice t len (parts.map fun (i,x)=>(i,a.eval x))).run C.P w=.ok (.slice (some ⟨w.heap.size,0,none⟩) len len) (w.alloc (.cells res e))∧res.size=len*(C.ty e).size∧out.length=len*(C.ty e).size∧len≤maxLen∧∀ j,VR im pl w (nth out j) (res.getD j undef):=by
 have hy:=C.ok e he
 have hu:=(C.ok t ht).slice hsl
 obtain ⟨i,hi,hiz,his,hib⟩:=hy.parts;obtain ⟨hp1,hp2⟩:=Qis hts parts
 let zero:Array Value:=if len*(C.ty e).size=0 then #[] else (C.ty e).z.cells
 obtain ⟨res,r1,r2,r3,r4⟩:=Qe5 (im:=im) (pl:=pl) (w:=w) _ _ _ _ ((Array.range (len*(C.ty e).size)).map (zero[·%zero.size]!)) _ hv hp1 hp2 (by simp) (fun j=>by
  rw [Xo];by_cases hj:j<len*(C.ty e).size
  ·simp [List.getD,List.getElem?_replicate,hj];exact .any _
  ·simp [List.getD,List.getElem?_replicate,hj];exact .any _)
 have hol:out.length=len*(C.ty e).size:=by rw [r3];simp
 have hlen:len≤maxLen:=by
  have:=Nat.le_trans (Nat.le_mul_of_pos_right len hpos) hsmall
  simp only [maxLen];omega
 refine ⟨res, ?_,by omega,hol,hlen,r4⟩
 have r1':Instr.fill (fun i=>some (i*(C.ty e).size,(C.ty e).size)) ((Array.range (len*(C.ty e).size)).map (zero[·%zero.size]!)) (parts.map fun x=>(x.1,a.eval x.2)).toList=some res:=r1
 have hnr:∀ w,(newRow e res).run C.P w=.ok ⟨w.heap.size,0,none⟩ (w.alloc (.cells res e)):=by
  intro w;simp only [newRow,newObj,Sem.run_bind,Sem.run,Sem.run_pure,Result.andThen_ok];rfl
 simp only [Instr.buildSlice,Sem.run_bind,run_underlying hu,Result.andThen_ok,hy.sizeOf];rw [if_neg (by omega)]
 by_cases h0:len*(C.ty e).size=0
 ·have hz0:zero=#[]:=if_pos h0
  rw [hz0] at r1';rw [if_pos h0];simp only [Sem.run_bind,Sem.run_pure,Result.andThen_ok];rw [r1'];simp only [Sem.run_bind,hnr,Sem.run_pure,Result.andThen_ok]
 ·have hz0:zero=(C.ty e).z.cells:=if_neg h0
  rw [hz0] at r1';rw [if_neg h0];simp only [Sem.run_bind,hy.zero,Sem.run_pure,Result.andThen_ok];rw [r1'];simp only [Sem.run_bind,hnr,Sem.run_pure,Result.andThen_ok]
theorem Qlw {C:Ctx} {im:Nat→Prop} {pl:Nat→Place} {w:World} {H:Qa} {t:TypeId} {len:Nat} {ts:List V} {a:Act} {parts:Array (Nat × Operand)} {K:V→Qa→Prop} (ht:(C.ty t).ok=true)
  (h:Qbx C.ty t len (parts.toList.map fun p=>(p.1,ev ts p.2)) H K) (hts:TR im pl w ts a.tmps) (hH:HR im pl w H) :
  ∃ v vc im' pl' w' H',(Instr.buildSlice t len (parts.map fun (i,x)=>(i,a.eval x))).run C.P w=.ok vc w'∧K v H'∧VR im' pl' w' v vc∧HR im' pl' w' H'∧Ext im pl w im' pl' w':=by
 unfold Qbx at h;cases hsl:(C.ty t).sl with
 | none=>rw [hsl] at h;exact h.elim
 | some e =>
  rw [hsl] at h;obtain ⟨he,hsmall,hpos,h⟩:=h;cases hv:Zn (fun i=>some (i*(C.ty e).size,(C.ty e).size)) (List.replicate (len*(C.ty e).size) .any) (parts.toList.map fun p=>(p.1,ev ts p.2)) with
  | none=>simp only [hv] at h
  | some out =>
   simp only [hv] at h;obtain ⟨res,hrun,hrs,hol,hlen,r4⟩:=Qjr ht hsl he hsmall hpos hv hts
   have hA:=hH.alloc e (C.ty e).size len out res (by omega) hlen (by omega) r4
   exact ⟨_,_,im,_,_,_,hrun,h,.refAt _ 0 _ _ len len (Qu _ _ _) (Nat.le_refl _) (fun _=>rfl),hA.1,hA.2⟩
def Qro:List (Nat × Operand)→Bool
 | []=>true
 | (_,.const _)::r=>Qro r
 | _::_=>false
def Qeq:List (Nat × Operand)→Bool
 | a::b::r=>Qro (a::b::r)
 | _=>false
def Qix (ty:TypeId→Ty) (t:TypeId) (len:Nat) (parts:List (Nat × V)) (K:V→Prop):Prop :=
 match (ty t).sl with
 | some e=>(ty e).ok=true∧len*(ty e).size≤16777216∧0<(ty e).size ∧
  match Zn (fun i=>some (i*(ty e).size,(ty e).size)) (List.replicate (len*(ty e).size) .any) parts with
  | some out=>K (.sl len out)
  | none=>False
 | none=>False
theorem HR.imNew {im:Nat→Prop} {pl:Nat→Place} {w:World} {H:Qa} (h:HR im pl w H) (e:Nat) (cur:Array Value) :
  HR (fun b=>im b∨b=w.heap.size) pl (w.alloc (.cells cur e)) H∧Ext im pl w (fun b=>im b∨b=w.heap.size) pl (w.alloc (.cells cur e)):=by
 have hE:Ext im pl w (fun b=>im b∨b=w.heap.size) pl (w.alloc (.cells cur e)) :=
  ⟨rfl,rfl,rfl,by simp,fun _ hb=>.inl hb,fun b hb=>hb.imp id fun hb=>.inl (by omega),fun r hr=>.inl rfl,fun r b c hb=>.inl ⟨r,c,hb⟩,fun b hb _=>heap_alloc_old _ _ _ hb⟩
 refine ⟨⟨h.len,fun b hb r c hr=>?_,fun r b c hb=>?_,fun b hb=>?_,h.inj,h.dead,h.virt,fun r b c hb=>?_⟩,hE⟩
 ·rcases hb with hb | hb
  ·exact h.apart b hb r c hr
  ·have:=h.bound r b c hr;omega
 ·have:=h.bound r b c hb;simp;omega
 ·rcases hb with hb | hb
  ·have:=h.imb b hb;simp;omega
  ·simp;omega
 ·obtain ⟨e',s',cs',cur',h1,h2,h3,h4,h5,h6⟩:=h.row r b c hb;exact ⟨e',s',cs',cur',h1,by rw [heap_alloc_old _ _ _ (h.bound r b c hb)];exact h2,h3,h4,h5,fun j=>(h6 j).mono hE h.apart⟩
theorem Qlc {C:Ctx} {im:Nat→Prop} {pl:Nat→Place} {w:World} {H:Qa} {t:TypeId} {len:Nat} {ts:List V} {a:Act} {parts:Array (Nat × Operand)} {K:V→Qa→Prop} (ht:(C.ty t).ok=true)
  (h:Qix C.ty t len (parts.toList.map fun p=>(p.1,ev ts p.2)) fun v=>K v H) (hts:TR im pl w ts a.tmps) (hH:HR im pl w H) :
  ∃ v vc im' pl' w' H',(Instr.buildSlice t len (parts.map fun (i,x)=>(i,a.eval x))).run C.P w=.ok vc w'∧K v H'∧VR im' pl' w' v vc∧HR im' pl' w' H'∧Ext im pl w im' pl' w':=by
 unfold Qix at h;cases hsl:(C.ty t).sl with
 | none=>rw [hsl] at h;exact h.elim
 | some e =>
  rw [hsl] at h;obtain ⟨he,hsmall,hpos,h⟩:=h;cases hv:Zn (fun i=>some (i*(C.ty e).size,(C.ty e).size)) (List.replicate (len*(C.ty e).size) .any) (parts.toList.map fun p=>(p.1,ev ts p.2)) with
  | none=>simp only [hv] at h
  | some out =>
   simp only [hv] at h;obtain ⟨res,hrun,hrs,hol,hlen,r4⟩:=Qjr ht hsl he hsmall hpos hv hts
   have hA:=hH.imNew e res
   refine ⟨_,_,_,_,_,_,hrun,h, ?_,hA.1,hA.2⟩;refine .sl len out _ len (fun j=>res.getD j undef) (Nat.le_refl _) (.inr rfl) (fun j hj=>?_) fun j=>(r4 j).mono hA.2 hH.apart
   rw [Zl,Nat.zero_add];exact Zw (heap_alloc_new _ _) (by omega)
def Qqj (ty:TypeId→Ty) (t:TypeId) (b:Bool) (len:Nat) (parts:List (Nat × V)) (H:Qa) (K:V→Qa→Prop):Prop :=
 match b with
 | true=>Qix ty t len parts fun v=>K v H
 | false=>Qbx ty t len parts H K
def Zv (op:BinOp) (k:IntKind) (a:Int) (k':IntKind) (b:Int) (K:V→Prop):Prop :=
 match op with
 | .add=>k=k'∧K (.int k (k.wrap (a+b)))
 | .sub=>k=k'∧K (.int k (k.wrap (a - b)))
 | .mul=>k=k'∧K (.int k (k.wrap (a*b)))
 | .quo=>k=k'∧b≠0∧K (.int k (k.wrap (a.tdiv b)))
 | .rem=>k=k'∧b≠0∧K (.int k (a.tmod b))
 | .eql=>k=k'∧K (.bool (a==b))
 | .neq=>k=k'∧K (.bool (a != b))
 | .lss=>k=k'∧K (.bool (decide (a<b)))
 | .leq=>k=k'∧K (.bool (decide (a≤b)))
 | .gtr=>k=k'∧K (.bool (decide (a>b)))
 | .geq=>k=k'∧K (.bool (decide (a≥b)))
 | .shl=>0≤b∧K (.int k (k.wrap (a*2 ^ (min b.toNat k.bits))))
 | .shr=>0≤b∧K (.int k (a.fdiv (2 ^ (min b.toNat k.bits))))
 | .and=>k=k'∧K (.int k (k.wrap ((BitVec.ofInt k.bits a &&& BitVec.ofInt k.bits b).toNat:Int)))
 | .or=>k=k'∧K (.int k (k.wrap ((BitVec.ofInt k.bits a|||BitVec.ofInt k.bits b).toNat:Int)))
 | .xor=>k=k'∧K (.int k (k.wrap ((BitVec.ofInt k.bits a ^^^ BitVec.ofInt k.bits b).toNat:Int)))
 | .andNot=>k=k'∧K (.int k (k.wrap ((BitVec.ofInt k.bits a &&& ~~~ BitVec.ofInt k.bits b).toNat:Int)))
def Qc2 (y:Ty) (op:BinOp) (a b:V) (H:Qa) (K:V→Prop):Prop :=
 match a,b with
 | .int k a,.int k' b=>Zv op k a k' b K
 | .bool a,.bool b=>y.bl=true∧match op with
  | .eql=>K (.bool (a==b))
  | .neq=>K (.bool (!(a==b)))
  | _=>False
 | .str a,.str b=>match op with
  | .eql=>K (.bool (a.toList==b.toList))
  | .neq=>K (.bool (!(a.toList==b.toList)))
  | _=>False
 | .nil,.nil=>y.sl.isSome=true∧match op with
  | .eql=>K (.bool true)
  | .neq=>K (.bool false)
  | _=>False
 | .sl n _,.nil=>y.sl.isSome=true∧match op with
  | .eql=>K (.bool false)∧(n=0→K (.bool true))
  | .neq=>K (.bool true)∧(n=0→K (.bool false))
  | _=>False
 | .ref r _ n,.nil=>y.sl.isSome=true∧(Qc H r).isSome=true∧match op with
  | .eql=>K (.bool false)∧(n=0→K (.bool true))
  | .neq=>K (.bool true)∧(n=0→K (.bool false))
  | _=>False
 | _,_=>False
theorem VR.slice_none {im:Nat→Prop} {pl:Nat→Place} {w:World} {n:Nat} {cs:List V} {c:Value} (h:VR im pl w (.sl n cs) c):∃ a cap,c=.slice a n cap∧(a.isNone=true→n=0):=by
 cases h with
 | sl0 _ a c=>exact ⟨a,c,rfl,fun _=>rfl⟩
 | sl _ _ ad c vs hn hi hc hr=>exact ⟨some ad,c,rfl,fun h=>by simp at h⟩
theorem VR.ref_none {im:Nat→Prop} {pl:Nat→Place} {w:World} {H:Qa} (hH:HR im pl w H) {r off n:Nat} {c:Value} (h:VR im pl w (.ref r off n) c):∃ a cap,c=.slice a n cap∧(a.isNone=true→n=0∨pl r=.dead):=by
 cases h with
 | refAt _ _ _ b cap c hp hc h0=>exact ⟨_,_,rfl,fun h=>by simp at h⟩
 | refVirt _ hp=>exact ⟨_,_,rfl,fun _=>.inl rfl⟩
 | refDead _ _ _ a c hp=>exact ⟨a,c,rfl,fun _=>.inr hp⟩
theorem Qav {P:Program} (w:World) (t e:TypeId) (op:BinOp) (ox oy:Operand) (a:Option Addr) (n c:Nat) (h:P.underlying t=some (.slice e)) (b:Bool) (hop:op=.eql∧b=a.isNone∨op=.neq∧b=!a.isNone) :
  ((do eqGuard op t ox oy (.slice a n c) (.slice none 0 0);binOp op t (.slice a n c) (.slice none 0 0)):Sem Value).run P w=.ok (.bool b) w:=by
 have he:∀ d:Nat,(Op.equalIn (d+1) t (.slice a n c) (.slice none 0 0)).run P w=.ok a.isNone w:=fun d=>by
  cases a<;>simp [Op.equalIn,run_underlying h]
 rcases hop with ⟨rfl,rfl⟩ | ⟨rfl,rfl⟩
 ·simp [eqGuard,binOp,Op.equal,Op.maxDepth,he 9999]
 ·simp [eqGuard,binOp,Op.equal,Op.maxDepth,he 9999]
theorem Qur {P:Program} {w:World} {t:TypeId} {ox oy:Operand} {op:BinOp} {k k':IntKind} {a b:Int} {K:V→Prop} (h:Zv op k a k' b K) (im:Nat→Prop) (pl:Nat→Place) :
  ∃ v vc,((do eqGuard op t ox oy (.int k a) (.int k' b);binOp op t (.int k a) (.int k' b)):Sem Value).run P w=.ok vc w∧K v∧VR im pl w v vc:=by
 unfold Zv at h;cases op<;>simp only at h
 case and | or | xor | andNot=>obtain ⟨rfl,h⟩:=h;exact ⟨_,_,by simp [eqGuard,binOp,Op.intBits, -BitVec.toNat_and, -BitVec.toNat_or, -BitVec.toNat_xor, -BitVec.toNat_ofInt, -BitVec.toNat_not],h,.int _ _⟩
 case shl | shr=>obtain ⟨hb,h⟩:=h;exact ⟨_,_,by simp [eqGuard,binOp,Op.shift,Int.not_lt.2 hb],h,.int _ _⟩
 case quo | rem=>obtain ⟨rfl,hb,h⟩:=h;exact ⟨_,_,by simp [eqGuard,binOp,Op.intDiv,hb],h,.int _ _⟩
 all_goals first
  | (obtain ⟨rfl,h⟩:=h;exact ⟨_,_,by simp [eqGuard,binOp,Op.intArith,Op.intCmp],h,.int _ _⟩)
  | (obtain ⟨rfl,h⟩:=h;exact ⟨_,_,by simp [eqGuard,binOp,Op.intArith,Op.intCmp],h,.bool _⟩)
theorem Qvs {C:Ctx} {im:Nat→Prop} {pl:Nat→Place} {w:World} {H:Qa} {t:TypeId} {ox oy:Operand} {op:BinOp} {x y:V} {xc yc:Value} {K:V→Prop} (ht:(C.ty t).ok=true)
  (h:Qc2 (C.ty t) op x y H K) (hx:VR im pl w x xc) (hy:VR im pl w y yc) (hH:HR im pl w H) :
  ∃ v vc,((do eqGuard op t ox oy xc yc;binOp op t xc yc):Sem Value).run C.P w=.ok vc w∧K v∧VR im pl w v vc:=by
 have hok:=C.ok t ht
 unfold Qc2 at h;split at h
 ·cases hx;cases hy;exact Qur h im pl
 ·cases hx;cases hy;obtain ⟨hb,h⟩:=h
  have hu:=hok.bool hb
  have:=fun a b=>run_equal_bool w t a b hu
  rename_i a b;cases op<;>simp only at h<;>first
   | exact h.elim
   | exact ⟨_,_,by simp [eqGuard,binOp,this],h,.bool _⟩
 ·cases hx;cases hy;cases op<;>simp only at h<;>first
   | exact h.elim
   | exact ⟨_,_,by simp [eqGuard,binOp,Op.stringOp],h,.bool _⟩
 ·cases hx;cases hy;obtain ⟨hb,h⟩:=h;obtain ⟨e,he⟩:=Option.isSome_iff_exists.1 hb
  have hu:=hok.slice he
  cases op<;>simp only at h<;>first
   | exact h.elim
   | exact ⟨_,_,Qav w t e _ ox oy none 0 0 hu _ (by simp),h,.bool _⟩
 ·cases hy;obtain ⟨a,cap,rfl,ha⟩:=hx.slice_none;obtain ⟨hb,h⟩:=h;obtain ⟨e,he⟩:=Option.isSome_iff_exists.1 hb
  have hu:=hok.slice he
  rename_i n _;cases op<;>simp only at h<;>first
   | exact h.elim
   | (cases hn:a.isNone with
      | true=>exact ⟨_,_,Qav w t e _ ox oy a n cap hu _ (by simp [hn]),h.2 (ha hn),.bool _⟩
      | false=>exact ⟨_,_,Qav w t e _ ox oy a n cap hu _ (by simp [hn]),h.1,.bool _⟩)
 ·cases hy;rename_i r _ n;obtain ⟨a,cap,rfl,ha⟩:=hx.ref_none hH;obtain ⟨hb,hrow,h⟩:=h;obtain ⟨e,he⟩:=Option.isSome_iff_exists.1 hb;obtain ⟨row,hrow⟩:=Option.isSome_iff_exists.1 hrow
  have hu:=hok.slice he
  have ha':a.isNone=true→n=0:=fun hn=>(ha hn).resolve_right (fun hd=>by have h1:=hH.dead r hd;rw [Xh hrow] at h1;cases h1)
  cases op<;>simp only at h<;>first
   | exact h.elim
   | (cases hn:a.isNone with
      | true=>exact ⟨_,_,Qav w t e _ ox oy a n cap hu _ (by simp [hn]),h.2 (ha' hn),.bool _⟩
      | false=>exact ⟨_,_,Qav w t e _ ox oy a n cap hu _ (by simp [hn]),h.1,.bool _⟩)
 ·exact h.elim
def Qge (c a b:V) (K:V→Prop):Prop :=
 match c with
 | .bool t=>(t=true→K a)∧(t=false→K b)
 | _=>False
theorem Qq0 {P:Program} {im:Nat→Prop} {pl:Nat→Place} {w:World} {c a b:V} {cc ac bc:Value} {K:V→Prop} (h:Qge c a b K) (hc:VR im pl w c cc) (ha:VR im pl w a ac) (hb:VR im pl w b bc) :
  ∃ v vc,((do pure (.value (if ← asBool cc then ac else bc))):Sem Next).run P w=.ok (.value vc) w∧K v∧VR im pl w v vc:=by
 unfold Qge at h;split at h
 ·cases hc;rename_i t;cases t with
  | true=>exact ⟨_,_,by simp [asBool],h.1 rfl,ha⟩
  | false=>exact ⟨_,_,by simp [asBool],h.2 rfl,hb⟩
 ·exact h.elim
def unw (op:UnOp) (x:V) (K:V→Prop):Prop :=
 match op,x with
 | .neg,.int k n=>K (.int k (k.wrap (0 - n)))
 | .not,.bool b=>K (.bool (!b))
 | .xor,.int k n=>K (.int k (k.wrap ((BitVec.ofInt k.bits (if k.signed then -1 else k.max) ^^^ BitVec.ofInt k.bits n).toNat:Int)))
 | _,_=>False
theorem Qxw {P:Program} {im:Nat→Prop} {pl:Nat→Place} {w:World} {op:UnOp} {x:V} {xc:Value} {K:V→Prop} (h:unw op x K) (hx:VR im pl w x xc) :
  ∃ v vc,(Op.unary op xc).run P w=.ok vc w∧K v∧VR im pl w v vc:=by
 unfold unw at h;split at h
 ·cases hx;exact ⟨_,_,by simp [Op.unary,Op.intArith],h,.int _ _⟩
 ·cases hx;exact ⟨_,_,by simp [Op.unary],h,.bool _⟩
 ·cases hx;exact ⟨_,_,by simp [Op.unary,Op.intBits],h,.int _ _⟩
 ·exact h.elim
def Qct (d:Ty) (x:V) (K:V→Prop):Prop :=
 match d.ik,x with
 | some k,.int _ n=>K (.int k (k.wrap n))
 | _,_=>False
theorem Qr9 {C:Ctx} {im:Nat→Prop} {pl:Nat→Place} {w:World} {s d:TypeId} {x:V} {xc:Value} {K:V→Prop} (hs:(C.ty s).ok=true) (hd:(C.ty d).ok=true) (h:Qct (C.ty d) x K) (hx:VR im pl w x xc) :
  ∃ v vc,(convert s d xc).run C.P w=.ok vc w∧K v∧VR im pl w v vc:=by
 unfold Qct at h;split at h
 ·rename_i k k' n hk;cases hx;obtain ⟨ds,hu,_⟩:=(C.ok s hs).und
  have hi:=(C.ok d hd).int hk
  exact ⟨_,_,by simp [convert,run_underlying hu,run_underlying hi,Conv.intToInt],h,.int _ _⟩
 ·exact h.elim
def Qpa (x:V) (i:Nat) (K:V→Prop):Prop :=
 match x with
 | .tup vs=>i<vs.length∧K (nth vs i)
 | _=>False
theorem Qu4 {P:Program} {im:Nat→Prop} {pl:Nat→Place} {w:World} {x:V} {xc:Value} {i:Nat} {K:V→Prop} (h:Qpa x i K) (hx:VR im pl w x xc) :
  ∃ v vc,(Instr.extract xc i).run P w=.ok vc w∧K v∧VR im pl w v vc:=by
 unfold Qpa at h;split at h
 ·cases hx with
  | tup _ vs hl hr =>
   have hi:i<vs.length:=by omega
   have:=hr i
   rw [List.getD_eq_getElem?_getD,List.getElem?_eq_getElem hi] at this;exact ⟨_,_,by simp [Instr.extract,hi],h.2,this⟩
 ·exact h.elim
def Qk8 (x:V) (K:V→Prop):Prop :=
 match x with
 | .ptr _ _ | .rp _ _=>K x
 | .fn (.func _) _ _=>K x
 | .fn (.yield _) _ _=>K x
 | _=>False
def Qcq (y:Ty) (x:V) (f:Nat) (K:V→Prop):Prop :=
 match y.fs[f]?,x with
 | some (o,_),.ptr r off=>K (.ptr r (off+o))
 | some (o,_),.rp cs off=>K (.rp cs (off+o))
 | _,_=>False
def Qbi (ty:TypeId→Ty) (y:Ty) (x:V) (f:Nat) (K:V→Prop):Prop :=
 match y.fs[f]?,x with
 | some (o,u),.agg cs=>(ty u).ok=true∧o+(ty u).size≤cs.length∧K (Qgt (ty u) cs o)
 | _,_=>False
theorem Qqq {P:Program} {w:World} {t:TypeId} {y:Ty} (hy:OKt P t y) (vs:List Value) (off:Nat) (hl:off+y.size≤vs.length) :
  (part t vs.toArray off).run P w=.ok (if y.agg then .agg ((List.range y.size).map fun j=>vs.getD (off+j) undef).toArray else vs.getD off undef) w:=by
 unfold part;simp only [Sem.run_bind,hy.isAgg,Result.andThen_ok];cases h:y.agg with
 | true =>
  simp only [if_true,Sem.run_bind,hy.sizeOf,Result.andThen_ok,Sem.run_pure]
  congr 2
  apply Array.ext
  ·simp;omega
  ·intro i h1 h2;simp only [List.size_toArray,List.length_map,List.length_range] at h2;simp [List.getD,show off+i<vs.length by omega]
 | false =>
  have h1:=hy.one h
  have:off<vs.length:=by omega
  simp [List.getD,this]
theorem Qo9 {C:Ctx} {im:Nat→Prop} {pl:Nat→Place} {w:World} {t:TypeId} {x:V} {xc:Value} {f:Nat} {K:V→Prop} (ht:(C.ty t).ok=true) (h:Qbi C.ty (C.ty t) x f K) (hx:VR im pl w x xc) :
  ∃ v vc,(Instr.field t xc f).run C.P w=.ok vc w∧K v∧VR im pl w v vc:=by
 unfold Qbi at h;split at h
 ·rename_i o u cs hf;obtain ⟨hu,hl,hK⟩:=h;obtain ⟨fs,fd,hs,hfd,rfl,rfl⟩:=(C.ok t ht).field hf;cases hx with
  | agg _ vs hvl hr =>
   refine ⟨_,_, ?_,hK,Qhn (C.ty fd.type) cs fd.offset (fun j=>vs.getD (fd.offset+j) undef) (fun j=>hr _)⟩
   have:=Qqq (C.ok _ hu) (w:=w) vs fd.offset (by omega)
   simp only [Instr.field,Sem.run_bind,run_underlying hs,Result.andThen_ok,hfd];simpa [asAgg] using this
 ·exact h.elim
def Jx (ty:TypeId→Ty) (y:Ty) (x i:V) (K:V→Prop):Prop :=
 match y.arr,x,i with
 | some (n,e),.agg cs,.int _ i=>(ty e).ok=true∧0≤i∧i<n∧i.toNat*(ty e).size+(ty e).size≤cs.length∧K (Qgt (ty e) cs (i.toNat*(ty e).size))
 | none,.str s,.int _ i=>y.str=true∧0≤i∧i.toNat<s.size∧K (.int .u8 ((s[i.toNat]?.getD 0).toNat:Int))
 | _,_,_=>False
theorem Qo3 {C:Ctx} {im:Nat→Prop} {pl:Nat→Place} {w:World} {t:TypeId} {x i:V} {xc ic:Value} {K:V→Prop} (ht:(C.ty t).ok=true) (h:Jx C.ty (C.ty t) x i K) (hx:VR im pl w x xc) (hi:VR im pl w i ic) :
  ∃ v vc,(Instr.index t xc ic).run C.P w=.ok vc w∧K v∧VR im pl w v vc:=by
 unfold Jx at h;split at h
 ·rename_i n e cs k q ha;obtain ⟨he,h0,h1,hl,hK⟩:=h
  have hu:=(C.ok t ht).array ha
  cases hi;cases hx with
  | agg _ vs hvl hr =>
   refine ⟨_,_, ?_,hK,Qhn (C.ty e) cs _ (fun j=>vs.getD (q.toNat*(C.ty e).size+j) undef) (fun j=>hr _)⟩
   have:=Qqq (C.ok _ he) (w:=w) vs (q.toNat*(C.ty e).size) (by omega)
   simp only [Instr.index,asIntOf,Sem.run_bind,Sem.run_pure,run_underlying hu,Result.andThen_ok,if_pos (show 0≤q∧q<n from ⟨h0,h1⟩),(C.ok e he).sizeOf];simpa using this
 ·rename_i s k q ha;obtain ⟨hs,h0,h1,hK⟩:=h
  have hu:=(C.ok t ht).string hs
  cases hi;cases hx;refine ⟨_,_, ?_,hK,.int _ _⟩
  have hb:s[q.toNat]?=some (s[q.toNat]?.getD 0):=by simp [getElem?_pos s q.toNat h1]
  simp only [Instr.index,asIntOf,Sem.run_bind,Sem.run_pure,run_underlying hu,Result.andThen_ok,if_pos h0];rw [hb];simp
 ·exact h.elim
def Xr (ty:TypeId→Ty) (y:Ty) (x i:V) (K:V→Prop):Prop :=
 match i with
 | .int _ i =>
  match y.sl,x with
  | some e,.sl n cs=>(ty e).ok=true∧0≤i∧i<n∧K (.rp cs (i.toNat*(ty e).size))
  | some e,.ref r off n=>(ty e).ok=true∧0≤i∧i<n∧K (.ptr r (off+i.toNat*(ty e).size))
  | _,.ptr r off=>match y.arr with
   | some (n,e)=>(ty e).ok=true∧0≤i∧i<n∧K (.ptr r (off+i.toNat*(ty e).size))
   | none=>False
  | _,_=>False
 | _=>False
theorem Qiz {C:Ctx} {im:Nat→Prop} {pl:Nat→Place} {w:World} {H:Qa} {t:TypeId} {x i:V} {xc ic:Value} {K:V→Prop} (ht:(C.ty t).ok=true) (h:Xr C.ty (C.ty t) x i K) (hx:VR im pl w x xc) (hi:VR im pl w i ic)
  (hH:HR im pl w H) (hd:∀ r off n,x=.ref r off n→(Qc H r).isSome=true) (hd':∀ r off,x=.ptr r off→(Qc H r).isSome=true) :
  ∃ v vc,(Instr.indexAt t xc ic).run C.P w=.ok vc w∧K v∧VR im pl w v vc:=by
 unfold Xr at h;split at h
 case h_2=>exact h.elim
 case h_1 k q =>
  cases hi;split at h
  ·rename_i e n cs hs;obtain ⟨he,h0,h1,hK⟩:=h
   have hu:=(C.ok t ht).slice hs
   cases hx with
   | sl0=>omega
   | sl _ _ ad c vs hn hi hc hr =>
    refine ⟨_,_, ?_,hK,.rp cs _ ad vs hi hc hr⟩;simp only [Instr.indexAt,asIntOf,Sem.run_bind,Sem.run_pure,run_underlying hu,Result.andThen_ok,if_pos (show 0≤q∧q<n from ⟨h0,h1⟩),(C.ok e he).sizeOf]
  ·rename_i e r off n hs;obtain ⟨he,h0,h1,hK⟩:=h
   have hu:=(C.ok t ht).slice hs
   obtain ⟨row,hrow⟩:=Option.isSome_iff_exists.1 (hd _ _ _ rfl);cases hx with
   | refDead _ _ _ a c hp=>have h1:=hH.dead r hp;rw [Xh hrow] at h1;cases h1
   | refVirt=>omega
   | refAt _ _ _ b cap c hp hc h2 =>
    refine ⟨_,_, ?_,hK,.ptrAt r _ b cap hp⟩;simp only [Instr.indexAt,asIntOf,Sem.run_bind,Sem.run_pure,run_underlying hu,Result.andThen_ok,if_pos (show 0≤q∧q<n from ⟨h0,h1⟩),(C.ok e he).sizeOf,Zl]
  ·rename_i r off;split at h
   ·rename_i n e ha;obtain ⟨he,h0,h1,hK⟩:=h
    have hu:=(C.ok t ht).array ha
    obtain ⟨row,hrow⟩:=Option.isSome_iff_exists.1 (hd' _ _ rfl);cases hx with
    | ptrDead _ _ a hp=>have h1:=hH.dead r hp;rw [Xh hrow] at h1;cases h1
    | ptrAt _ _ b cap hp =>
     refine ⟨_,_, ?_,hK,.ptrAt r _ b cap hp⟩;simp only [Instr.indexAt,asIntOf,Instr.sureAddr,Sem.run_bind,Sem.run_pure,run_underlying hu,Result.andThen_ok,if_pos (show 0≤q∧q<n from ⟨h0,h1⟩),(C.ok e he).sizeOf,Zl]
   ·exact h.elim
  ·exact h.elim
def Xf (ty:TypeId→Ty) (y:Ty) (x:V) (lo hi:Option V) (H:Qa) (K:V→Prop):Prop :=
 match y.sl with
 | none=>False
 | some e=>(ty e).ok=true∧0<(ty e).size ∧
  match lo,hi with
  | none,some (.int _ h)=>0≤h∧(match x with
   | .sl n cs=>h≤n∧K (.sl h.toNat (cs.take (h.toNat*(ty e).size)))
   | .ref r off n=>(Qc H r).isSome=true∧h≤n∧(h=0→K (.sl 0 []))∧(h≠0→K (.ref r off h.toNat))
   | .nil=>h=0∧K .nil
   | _=>False)
  | some (.int _ l),none=>0≤l∧(match x with
   | .sl n cs=>l≤n∧K (.sl (n - l.toNat) (cs.drop (l.toNat*(ty e).size)))
   | .ref r off n=>(Qc H r).isSome=true∧l≤n∧(l=n→K (.sl 0 []))∧(l≠n→K (.ref r (off+l.toNat*(ty e).size) (n - l.toNat)))
   | .nil=>l=0∧K .nil
   | _=>False)
  | some (.int _ l),some (.int _ h)=>0≤l∧l≤h∧(match x with
   | .sl n cs=>h≤n∧K (.sl (h.toNat - l.toNat) ((cs.drop (l.toNat*(ty e).size)).take ((h.toNat - l.toNat)*(ty e).size)))
   | .ref r off n=>(Qc H r).isSome=true∧h≤n∧(l=h→K (.sl 0 []))∧(l≠h→K (.ref r (off+l.toNat*(ty e).size) (h.toNat - l.toNat)))
   | .nil=>h=0∧K .nil
   | _=>False)
  | _,_=>False
theorem VR.part {im:Nat→Prop} {pl:Nat→Place} {w:World} {n:Nat} {cs:List V} {c:Value} (h:VR im pl w (.sl n cs) c) (l hh s:Nat) (hs:0<s) (cs':List V) (hl:l≤hh) (hh':hh≤n)
  (hc':∀ j,j<cs'.length→l*s+j<cs.length∧nth cs' j=nth cs (l*s+j)) :
  ∃ a cap,c=.slice a n cap∧n≤cap+n∧∀ cap',cap'=cap - l→(cap=l→hh=l)→VR im pl w (.sl (hh - l) cs') (.slice (if cap=l then a else a.map (·.add (l*s))) (hh - l) cap'):=by
 cases h with
 | sl0 _ a c =>
  refine ⟨a,c,rfl,by omega,fun cap' _ _=>?_⟩
  have:hh - l=0:=by omega
  rw [this];exact .sl0 _ _ _
 | sl _ _ ad c vs hn hi hc hr =>
  refine ⟨some ad,c,rfl,by omega,fun cap' hcap hz=>?_⟩
  by_cases h0:hh - l=0
  ·rw [h0];exact .sl0 _ _ _
  ·rw [if_neg (fun e=>h0 (by have:=hz e;omega))]
   refine .sl _ _ (ad.add (l*s)) _ (fun j=>vs (l*s+j)) (by omega) (by rw [Qef];exact hi) (fun j hj=>by rw [add_add];exact hc _ (hc' j hj).1) (fun j=>?_)
   by_cases hj:j<cs'.length
   ·rw [(hc' j hj).2];exact hr _
   ·rw [Jw _ _ (by omega)];exact .any _
theorem Zj {P:Program} (w:World) {t e:TypeId} {y:Ty} (hu:P.underlying t=some (.slice e)) (hy:OKt P e y) (a:Option Addr) (len cap:Nat) (lo hi:Option Value) (l h:Nat)
  (hlo:(lo=none∧l=0)∨∃ k,lo=some (.int k l)) (hhi:(hi=none∧h=len)∨∃ k,hi=some (.int k h)) (h1:l≤h) (h2:h≤len) (h3:len≤cap) :
  (Instr.sliceAt t (.slice a len cap) lo hi none).run P w=.ok (.slice (if cap=l then a else a.map (·.add (l*y.size))) (h - l) (cap - l)) w:=by
 have he:P.elem t=e:=by simp [Program.elem,hu]
 have hu':P.underlying t=some (.slice (P.elem t)):=by rw [he];exact hu
 rw [run_sliceAt_slice (h:=hu')];rcases hlo with ⟨rfl,rfl⟩ | ⟨k,rfl⟩<;>rcases hhi with ⟨rfl,rfl⟩ | ⟨k',rfl⟩
 ·rw [run_slice_any (ht:=hu'),he];simp [Instr.sliceBounds,hy.sizeOf,sliced,Result.andThen]
 ·rw [run_slice_h (ht:=hu') (h0:=by omega) (h2:=by omega),he,hy.sizeOf]
  simp [sliced,Result.andThen]
 ·rw [run_slice_l (ht:=hu') (h0:=by omega) (h1:=by omega),he,hy.sizeOf]
  simp [sliced,Result.andThen]
 ·rw [run_slice_lh (ht:=hu') (h0:=by omega) (h1:=by omega) (h2:=by omega),he,hy.sizeOf]
  simp [sliced,Result.andThen]
theorem Qcf {C:Ctx} {im:Nat→Prop} {pl:Nat→Place} {w:World} {H:Qa} {t e:TypeId} {x:V} {xc:Value} {loc hic:Option Value} {K:V→Prop} (ht:(C.ty t).ok=true) (hsl:(C.ty t).sl=some e) (he:(C.ty e).ok=true) (hpos:0<(C.ty e).size)
  (hx:VR im pl w x xc) (hH:HR im pl w H) (l h:Nat) (hlo:(loc=none∧l=0)∨∃ k,loc=some (.int k l)) :
  (∀ n cs,x=.sl n cs→((hic=none∧h=n)∨∃ k,hic=some (.int k h))→l≤h→h≤n→∀ cs':List V,(∀ j,j<cs'.length→l*(C.ty e).size+j<cs.length∧nth cs' j=nth cs (l*(C.ty e).size+j))→K (.sl (h - l) cs') →
   ∃ v vc,(Instr.sliceAt t xc loc hic none).run C.P w=.ok vc w∧K v∧VR im pl w v vc) ∧
  (∀ r off n,x=.ref r off n→((hic=none∧h=n)∨∃ k,hic=some (.int k h))→l≤h→h≤n→(Qc H r).isSome=true→(l=h→K (.sl 0 []))→(l≠h→K (.ref r (off+l*(C.ty e).size) (h - l))) →
   ∃ v vc,(Instr.sliceAt t xc loc hic none).run C.P w=.ok vc w∧K v∧VR im pl w v vc) ∧
  (x=.nil→((hic=none∧h=0)∨∃ k,hic=some (.int k h))→l=0→h=0→K .nil→∃ v vc,(Instr.sliceAt t xc loc hic none).run C.P w=.ok vc w∧K v∧VR im pl w v vc):=by
 have hu:=(C.ok t ht).slice hsl
 have hy:=C.ok e he
 refine ⟨fun n cs hxe hhi h1 h2 cs' hc' hK=>?_,fun r off n hxe hhi h1 h2 hrow hK0 hK1=>?_,fun hxe hhi h1 h2 hK=>?_⟩
 ·subst hxe;by_cases h0:h - l=0
  ·obtain ⟨a,cap,rfl,_⟩:=hx.slice_none
   have hcap:n≤cap:=by
    cases hx with
    | sl0=>omega
    | sl _ _ _ _ _ hn=>exact hn
   refine ⟨_,_,Zj w hu hy a n cap _ _ l h hlo hhi h1 h2 hcap,hK, ?_⟩;rw [h0];exact .sl0 _ _ _
  ·obtain ⟨a,cap,rfl,_,hv⟩:=hx.part l h (C.ty e).size hpos cs' h1 h2 hc'
   have hcap:n≤cap:=by
    cases hx with
    | sl0=>omega
    | sl _ _ _ _ _ hn=>exact hn
   exact ⟨_,_,Zj w hu hy a n cap _ _ l h hlo hhi h1 h2 hcap,hK,hv _ rfl (fun e=>by omega)⟩
 ·subst hxe;obtain ⟨row,hrow⟩:=Option.isSome_iff_exists.1 hrow;cases hx with
  | refDead _ _ _ a c hp=>have h1:=hH.dead r hp;rw [Xh hrow] at h1;cases h1
  | refVirt _ hp =>
   refine ⟨_,_,Zj w hu hy none 0 0 _ _ l h hlo hhi h1 h2 (Nat.le_refl _),hK0 (by omega), ?_⟩
   rw [show h - l=0 by omega];exact .sl0 _ _ _
  | refAt _ _ _ b cap c hp hc hcc =>
   by_cases h0:l=h
   ·refine ⟨_,_,Zj w hu hy _ n c _ _ l h hlo hhi h1 h2 hc,hK0 h0, ?_⟩;rw [show h - l=0 by omega];exact .sl0 _ _ _
   ·refine ⟨_,_,Zj w hu hy _ n c _ _ l h hlo hhi h1 h2 hc,hK1 h0, ?_⟩;rw [if_neg (by omega)]
    simp only [Option.map_some,Zl];refine .refAt r _ _ b cap _ hp (by omega) (fun hz=>?_)
    have hl0:l=0:=by
     rcases Nat.eq_zero_or_pos l with h3 | h3
     ·exact h3
     ·have:=Nat.mul_pos h3 hpos;omega
    subst hl0
    have:=hcc (by omega)
    omega
 ·subst hxe;cases hx;refine ⟨_,_,Zj w hu hy none 0 0 _ _ l h hlo hhi (by omega) (by omega) (Nat.le_refl _),hK, ?_⟩
  rw [h1,h2]
  simp;exact .nil
theorem Qoj {C:Ctx} {im:Nat→Prop} {pl:Nat→Place} {w:World} {H:Qa} {t:TypeId} {x:V} {xc:Value} {lo hi:Option V} {loc hic:Option Value} {K:V→Prop} (ht:(C.ty t).ok=true)
  (h:Xf C.ty (C.ty t) x lo hi H K) (hx:VR im pl w x xc) (hlo:∀ v,lo=some v→∃ c,loc=some c∧VR im pl w v c) (hlo':lo=none→loc=none) (hhi:∀ v,hi=some v→∃ c,hic=some c∧VR im pl w v c) (hhi':hi=none→hic=none) (hH:HR im pl w H) :
  ∃ v vc,(Instr.sliceAt t xc loc hic none).run C.P w=.ok vc w∧K v∧VR im pl w v vc:=by
 unfold Xf at h;split at h
 ·exact h.elim
 rename_i e hsl;obtain ⟨he,hpos,h⟩:=h;split at h
 ·rename_i _ _ k q;obtain ⟨h0,h⟩:=h;obtain ⟨c,hc,hv⟩:=hhi _ rfl;cases hv
  have hl:=hlo' rfl
  obtain ⟨m,rfl⟩:=Int.eq_ofNat_of_zero_le h0;simp only [Int.toNat_natCast] at h
  have core:=Qcf (loc:=loc) (hic:=hic) (K:=K) ht hsl he hpos hx hH 0 m (.inl ⟨hl,rfl⟩)
  split at h
  ·rename_i n cs;exact core.1 n cs rfl (.inr ⟨k,hc⟩) (Nat.zero_le _) (by omega) _ (fun j hj=>by simp only [List.length_take] at hj;exact ⟨by omega,by rw [Qd2 _ _ _ (by omega)];simp⟩) h.2
  ·rename_i r off n;exact core.2.1 r off n rfl (.inr ⟨k,hc⟩) (Nat.zero_le _) (by omega) h.1 (fun e=>h.2.2.1 (by omega)) (fun e=>by simpa using h.2.2.2 (by omega))
  ·exact core.2.2 rfl (.inr ⟨k,hc⟩) rfl (by omega) h.2
  ·exact h.elim
 ·rename_i _ _ k q;obtain ⟨h0,h⟩:=h;obtain ⟨c,hc,hv⟩:=hlo _ rfl;cases hv
  have hl:=hhi' rfl
  obtain ⟨m,rfl⟩:=Int.eq_ofNat_of_zero_le h0;simp only [Int.toNat_natCast] at h;split at h
  ·rename_i n cs;exact (Qcf (loc:=loc) (hic:=hic) (K:=K) ht hsl he hpos hx hH m n (.inr ⟨k,hc⟩)).1 n cs rfl (.inl ⟨hl,rfl⟩) (by omega) (Nat.le_refl _) _ (fun j hj=>by simp only [List.length_drop] at hj;exact ⟨by omega,by rw [Qfc]⟩) h.2
  ·rename_i r off n;exact (Qcf (loc:=loc) (hic:=hic) (K:=K) ht hsl he hpos hx hH m n (.inr ⟨k,hc⟩)).2.1 r off n rfl (.inl ⟨hl,rfl⟩) (by omega) (Nat.le_refl _) h.1 (fun e=>h.2.2.1 (by omega)) (fun e=>h.2.2.2 (by omega))
  ·exact (Qcf (loc:=loc) (hic:=hic) (K:=K) ht hsl he hpos hx hH m 0 (.inr ⟨k,hc⟩)).2.2 rfl (.inl ⟨hl,rfl⟩) (by omega) rfl h.2
  ·exact h.elim
 ·rename_i _ _ k q k' q';obtain ⟨h0,h01,h⟩:=h;obtain ⟨c,hc,hv⟩:=hlo _ rfl;obtain ⟨c',hc',hv'⟩:=hhi _ rfl;cases hv;cases hv';obtain ⟨m,rfl⟩:=Int.eq_ofNat_of_zero_le h0;obtain ⟨m',rfl⟩:=Int.eq_ofNat_of_zero_le (Int.le_trans h0 h01);simp only [Int.toNat_natCast] at h
  have core:=Qcf (loc:=loc) (hic:=hic) (K:=K) ht hsl he hpos hx hH m m' (.inr ⟨k,hc⟩)
  split at h
  ·rename_i n cs;exact core.1 n cs rfl (.inr ⟨k',hc'⟩) (by omega) (by omega) _ (fun j hj=>by simp only [List.length_take,List.length_drop] at hj;exact ⟨by omega,by rw [Qd2 _ _ _ (by omega),Qfc]⟩) h.2
  ·rename_i r off n;exact core.2.1 r off n rfl (.inr ⟨k',hc'⟩) (by omega) (by omega) h.1 (fun e=>h.2.2.1 (by omega)) (fun e=>h.2.2.2 (by omega))
  ·exact core.2.2 rfl (.inr ⟨k',hc'⟩) (by omega) (by omega) h.2
  ·exact h.elim
 ·exact h.elim
def lenw (y:Ty) (x:V) (K:V→Prop):Prop :=
 match x with
 | .sl n _=>y.sl.isSome=true∧K (.int .i64 n)
 | .ref _ _ n=>y.sl.isSome=true∧K (.int .i64 n)
 | .nil=>y.sl.isSome=true∧K (.int .i64 0)
 | .str s=>y.str=true∧K (.int .i64 s.size)
 | _=>False
theorem Qum {C:Ctx} {im:Nat→Prop} {pl:Nat→Place} {w:World} {H:Qa} {t ty:TypeId} {x:V} {xc:Value} {K:V→Prop} (ht:(C.ty t).ok=true) (h:lenw (C.ty t) x K) (hx:VR im pl w x xc) (hH:HR im pl w H) :
  ∃ v vc,(Builtin.len_ #[t] ty #[xc]).run C.P w=.ok vc w∧K v∧VR im pl w v vc:=by
 have hok:=C.ok t ht
 cases x with
 | sl n cs =>
  obtain ⟨hs,hK⟩:=h;obtain ⟨e,he⟩:=Option.isSome_iff_exists.1 hs;obtain ⟨a,cap,rfl,_⟩:=hx.slice_none;exact ⟨_,_,by simp [Builtin.len_,run_underlying (hok.slice he),goInt],hK,.int _ _⟩
 | ref r off n =>
  obtain ⟨hs,hK⟩:=h;obtain ⟨e,he⟩:=Option.isSome_iff_exists.1 hs;obtain ⟨a,cap,rfl,_⟩:=hx.ref_none hH;exact ⟨_,_,by simp [Builtin.len_,run_underlying (hok.slice he),goInt],hK,.int _ _⟩
 | nil =>
  obtain ⟨hs,hK⟩:=h;obtain ⟨e,he⟩:=Option.isSome_iff_exists.1 hs;cases hx;exact ⟨_,_,by simp [Builtin.len_,run_underlying (hok.slice he),goInt],hK,.int _ _⟩
 | str s =>
  obtain ⟨hs,hK⟩:=h;cases hx;exact ⟨_,_,by simp [Builtin.len_,run_underlying (hok.string hs),goInt],hK,.int _ _⟩
 | _=>exact h.elim
def Qdf (y:Ty) (d x:V) (H:Qa) (K:V→Qa→Prop):Prop:=match d,Jo y x H with
 | .ref r off n,some (m,news)=>(match Qc H r with
  | some row=>news.length=m*y.size∧news.all Yc=true∧0<y.size∧0<m∧0<n∧off+min m n*y.size≤row.cs.length∧K (.int .i64 (min m n:Nat)) (H.set r (some ⟨row.e,row.s,Ki row.cs off (news.take (min m n*y.size))⟩))
  | none=>False)
 | _,_=>False
theorem Qmb {P:Program} (w:World) (dT sT ty elem:TypeId) (z g o dLen dCap:Nat) (a:Addr) (sLen sCap:Nat) (cur:Array Value) (t:TypeId) (cs:List Value)
  (hu:P.underlying dT=some (.slice elem)) (hs:(P.info? elem).map (·.size)=some z)
  (hg:w.heap[g]?=some (.cells cur t (0,0))) (hn:cs.length=Nat.min sLen dLen*z)
  (hsrc:∀ j v,cs[j]?=some v→w.cell? (a.add j)=some v) (hfit:o+cs.length≤cur.size) (h1:∀ v∈cs,v.oneCell'=true) :
  (Builtin.copy_ #[dT,sT] ty #[.slice (some ⟨g,o,none⟩) dLen dCap,.slice (some a) sLen sCap]).run P w =
   .ok (goInt (Nat.min sLen dLen)) (w.setRow g (cur.toList.take o++cs++cur.toList.drop (o+cs.length)).toArray):=by
 have hl:=run_loadCells_list (P:=P) w a cs hsrc
 have hst:=run_storeCells_at P g o t cs 0 cur w hg (by simpa using hfit) h1
 cases hq:P.info? elem with
 | none=>simp [hq] at hs
 | some i =>
  have hi:i.size=z:=by simpa [hq] using hs
  simp [Builtin.copy_,run_underlying hu,Builtin.lenOf,Builtin.firstCells,sizeOf,typeInfo,hq,hi,← hn,hl,hst]
theorem Qr8 {C:Ctx} {im:Nat→Prop} {pl:Nat→Place} {w:World} {H:Qa} {t t' e ty:TypeId} {d x:V} {dc xc:Value} {K:V→Qa→Prop}
  (ht:(C.ty t).ok=true) (hte:(C.ty t).sl=some e) (he:(C.ty e).ok=true) (h:Qdf (C.ty e) d x H K) (hd:VR im pl w d dc) (hx:VR im pl w x xc) (hH:HR im pl w H) :
  ∃ v vc im' pl' w' H',(Builtin.copy_ #[t,t'] ty #[dc,xc]).run C.P w=.ok vc w'∧K v H'∧VR im' pl' w' v vc∧HR im' pl' w' H'∧Ext im pl w im' pl' w':=by
 have hsl:=(C.ok t ht).slice hte
 obtain ⟨i,hi,hiz,his,hib⟩:=(C.ok e he).parts;unfold Qdf at h;split at h
 ·rename_i r off n m news hel;split at h
  ·rename_i row hrow;obtain ⟨hnl,hsc,hz,hm,hn0,hfit,hK⟩:=h
   have hr:=Xh hrow
   obtain ⟨a,c,vs,rfl,hvl,hvv,hone,hwhere⟩:=Qln hel hnl hx hH hz hsc
   have hqm:min m n*(C.ty e).size≤m*(C.ty e).size:=Nat.mul_le_mul_right _ (Nat.min_le_left _ _)
   have hq0:0<min m n*(C.ty e).size:=Nat.mul_pos (by omega) hz
   have hm0:0<m*(C.ty e).size:=Nat.mul_pos hm hz
   generalize hq:min m n*(C.ty e).size=q at hqm hq0 hfit hK
   have hvl2:(vs.take q).length=q:=by rw [List.length_take];omega
   have hnl2:(news.take q).length=q:=by rw [List.length_take];omega
   have hvv2:∀ j,j<q→VR im pl w (nth (news.take q) j) ((vs.take q).getD j undef):=fun j hj=>by
    rw [Qd2 _ _ _ hj]
    have e1:(vs.take q).getD j undef=vs.getD j undef:=by simp [List.getD,List.getElem?_take,hj]
    rw [e1];exact hvv j
   rcases hwhere with ⟨ad,rfl,hcell⟩ | ⟨_,h0⟩
   ·cases hd with
    | refDead _ _ _ _ _ hp =>
     have:=hH.dead r hp
     rw [hr] at this;cases this
    | refVirt _ hp=>omega
    | refAt _ _ _ b cap c' hp hc h0 =>
     obtain ⟨e0,s,cs,cur,h1,h2,h3,h4,h5,h6⟩:=hH.row r b cap hp;rw [hr] at h1;injection h1 with h1
     injection h1 with h1
     subst h1;simp only at hfit hK
     have hrun:=Qmb (P:=C.P) w t t' ty e (C.ty e).size b off n c' ad m c cur e0 (vs.take q) hsl (by rw [hi];simp [his]) h2 (by rw [hvl2,← hq]) (fun j v hv=>hcell j v (by
      rw [List.getElem?_take] at hv;split at hv
      ·exact hv
      ·cases hv)) (by omega) (fun v hv=>hone v (List.mem_of_mem_take hv))
     generalize hvt:vs.take q=vt at hrun hvl2 hvv2;generalize hnt:news.take q=nt at hK hnl2 hvv2;generalize hnew:(cur.toList.take off++vt++cur.toList.drop (off+vt.length)).toArray=new at hrun
     have hnewsz:new.size=cur.size:=by rw [← hnew];simp;omega
     have hget:∀ j,new.getD j undef=if off≤j∧j<off+vt.length then vt.getD (j - off) undef else cur.getD j undef:=by
      intro j;rw [← hnew];simp only [Array.getD_eq_getD_getElem?,List.getElem?_toArray];rw [List.append_assoc,List.getElem?_append]
      have ht:(cur.toList.take off).length=off:=by simp;omega
      rw [ht];by_cases h1:j<off
      ·rw [if_pos h1,if_neg (by omega)];simp [List.getElem?_take,h1]
      ·rw [if_neg h1,List.getElem?_append];by_cases h2:j - off<vt.length
       ·rw [if_pos h2,if_pos (by omega)];simp [List.getD]
       ·rw [if_neg h2,if_neg (by omega)]
        simp only [List.getElem?_drop];rw [show off+vt.length+(j - off - vt.length)=j by omega];simp
     have hset:=hH.setRow hp hr h2 hnewsz (Ki cs off nt) (by rw [Jh,hnewsz];exact h5) (fun j=>by
      rw [Qd3 _ _ _ _ (by omega),hget j,hnl2,hvl2]
      split
      ·exact hvv2 _ (by omega)
      ·exact h6 j)
     exact ⟨_,_,im,pl,_,_,hrun,hK,.int _ _,hset.1,hset.2⟩
   ·omega
  ·exact h.elim
 ·exact h.elim
def aok (ty:TypeId→Ty) (t t':TypeId):Bool:=t'==t||((ty t').ok&&(ty t').sl.isSome)
theorem Qp0 {P:Program} {w:World} {t t' ty e e':TypeId} {sc xc:Value} (h:P.underlying t=some (.slice e)) (h':P.underlying t'=some (.slice e')):(Builtin.append_ #[t,t'] ty #[sc,xc]).run P w=(Builtin.append_ #[t,t] ty #[sc,xc]).run P w:=by
 cases sc<;>simp [Builtin.append_,run_underlying h,run_underlying h']
def Qm (ty:TypeId→Ty) (b:Builtin) (ats:List TypeId) (args:List V) (H:Qa) (K:V→Qa→Prop):Prop :=
 match b,ats,args with
 | .len,[t],[x]=>(ty t).ok=true∧lenw (ty t) x fun v=>K v H
 | .max,_,[.int k a,.int _ b]=>K (.int k (if b>a then b else a)) H
 | .min,_,[.int k a,.int _ b]=>K (.int k (if b<a then b else a)) H
 | .append,[t,t'],[s,x]=>aok ty t t'=true∧(ty t).ok=true∧match (ty t).sl with
  | some e=>(ty e).ok=true∧Qaa (ty e) e s x H K
  | none=>False
 | .copy,[t,_],[d,x]=>(ty t).ok=true∧match (ty t).sl with
  | some e=>(ty e).ok=true∧Qdf (ty e) d x H K
  | none=>False
 | _,_,_=>False
def Xan (t:TypeId) (x:V) (H:Qa) (K:V→Qa→Prop):Prop:=kn x=true∧K (.ptr H.length 0) (H++[some ⟨t,(cellsOf x).length,cellsOf x⟩])
def Qhz (y:Ty) (x i:V) (K:V→Prop):Prop:=match x,i with
 | .mp k ks cs,.int k' n=>y.mpk=some k∧k'=k∧ks.idxOf n<ks.length∧K (nth cs (ks.idxOf n))
 | _,_=>False
theorem Qie {P:Program} {w:World} (b:Bool) (m:Nat) {t:TypeId} {k:IntKind} (h:P.underlying t=some (.int k)) (n:Int):(Instr.checkKey b (m+1) t (.int k n)).run P w=.ok () w:=by
 simp [Instr.checkKey,run_underlying h]
theorem Qrl {C:Ctx} {im:Nat→Prop} {pl:Nat→Place} {w:World} {t:TypeId} {x i:V} {xc ic:Value} {K:V→Prop} (ht:(C.ty t).ok=true) (h:Qhz (C.ty t) x i K) (hx:VR im pl w x xc) (hi:VR im pl w i ic) :
  ∃ v vc,(Instr.lookup t xc ic false).run C.P w=.ok vc w∧K v∧VR im pl w v vc:=by
 unfold Qhz at h;split at h
 ·rename_i k ks cs k' n;obtain ⟨h1,rfl,h3,h4⟩:=h;cases hx with
  | mp _ _ _ b es clock vs him hb hf hr =>
   cases hi with
   | int _ _ =>
    obtain ⟨e,u,hm1,hm2⟩:=(C.ok t ht).mp _ h1;obtain ⟨j,hj⟩:=hf _ h3
    have e1:ks.getD (ks.idxOf n) 0=n:=by simp [List.getD,List.getElem?_eq_getElem h3]
    rw [e1] at hj;refine ⟨_,vs (ks.idxOf n), ?_,h4,hr _⟩
    have hck:=Qie (P:=C.P) (w:=w) es.isEmpty 9999 hm2 n
    simp only [Instr.lookup,Sem.run_bind,run_underlying hm1,Result.andThen_ok,getObj,Sem.run,hb,hck,Instr.findKey,run_underlying hm2,hj,Sem.run_pure];simp [Sem.run]
 ·exact h.elim
def opw (ty:TypeId→Ty) (op:Op) (ts:List V) (H:Qa) (K:V→Qa→Prop):Prop :=
 match op with
 | .move x=>K (ev ts x) H
 | .assign x=>K (ev ts x) H
 | .pick c a b=>Qge (ev ts c) (ev ts a) (ev ts b) fun v=>K v H
 | .binOp o t x y _=>(ty t).ok=true∧Qc2 (ty t) o (ev ts x) (ev ts y) H fun v=>K v H
 | .unOp o _ x=>unw o (ev ts x) fun v=>K v H
 | .convert s d x=>(ty s).ok=true∧(ty d).ok=true∧Qct (ty d) (ev ts x) fun v=>K v H
 | .makeFunc fn first caps=>K (.fn fn (first.toList.map (ev ts)) (caps.toList.map (ev ts))) H
 | .extract x i=>Qpa (ev ts x) i fun v=>K v H
 | .nilCheck x=>Qk8 (ev ts x) fun v=>K v H
 | .load t x=>(ty t).ok=true∧Qbv (ty t) (ev ts x) H fun v=>K v H
 | .store t x v=>(ty t).ok=true∧Qbb (ty t) (ev ts x) (ev ts v) H fun H'=>K .any H'
 | .box t x=>Xan t (ev ts x) H K
 | .alloc t=>(ty t).ok=true∧K (.ptr H.length 0) (H++[some ⟨t,(Xb (ty t)).length,Xb (ty t)⟩])
 | .build t parts=>(ty t).ok=true∧Qa3 ty t (parts.toList.map fun p=>(p.1,ev ts p.2)) fun v=>K v H
 | .buildSlice t len parts=>(ty t).ok=true∧Qqj ty t (Qeq parts.toList) len (parts.toList.map fun p=>(p.1,ev ts p.2)) H K
 | .makeSlice t l c=>(ty t).ok=true∧Qdd ty t (ev ts l) (ev ts c) H K
 | .slice t x lo hi mx=>mx.isNone=true∧(ty t).ok=true∧Xf ty (ty t) (ev ts x) (lo.map (ev ts)) (hi.map (ev ts)) H fun v=>K v H
 | .fieldAddr t x f=>(ty t).ok=true∧Qcq (ty t) (ev ts x) f (fun v=>(match (ty t).fs[f]? with | some (_,u)=>(ty u).ok=true∧(ty u).size≠0 | none=>False)∧K v H)
 | .field t x f=>(ty t).ok=true∧Qbi ty (ty t) (ev ts x) f fun v=>K v H
 | .indexAddr t x i=>(ty t).ok=true∧(match ev ts x with | .ref r _ _=>(Qc H r).isSome=true | .ptr r _=>(Qc H r).isSome=true | _=>True)∧Xr ty (ty t) (ev ts x) (ev ts i) fun v=>K v H
 | .index t x i=>(ty t).ok=true∧Jx ty (ty t) (ev ts x) (ev ts i) fun v=>K v H
 | .call c=>match c.callee with
  | .builtin b=>Qm ty b c.argTypes.toList (c.args.toList.map (ev ts)) H K
  | _=>False
 | .lookup t x i b=>b=false∧(ty t).ok=true∧Qhz (ty t) (ev ts x) (ev ts i) fun v=>K v H
 | _=>False
theorem Qh1 {im:Nat→Prop} {pl:Nat→Place} {w:World} {ts:List V} {a:Act} (hts:TR im pl w ts a.tmps) (xs:Array Operand) :
  (xs.toList.map (ev ts)).length=(xs.map a.eval).toList.length∧∀ j,VR im pl w (nth (xs.toList.map (ev ts)) j) ((xs.map a.eval).toList.getD j undef):=by
 refine ⟨by simp,fun j=>?_⟩
 rw [Xo];by_cases hj:j<xs.size
 ·simp only [List.getD,List.getElem?_map,Array.toList_map,Array.getElem?_toList,Array.getElem?_eq_getElem hj,Option.map_some,Option.getD_some];exact Qgl hts _
 ·simp [List.getD,Array.getElem?_eq_none (Nat.le_of_not_lt hj)];exact .any _
theorem OpRes.of {P:Program} {im:Nat→Prop} {pl:Nat→Place} {w:World} {H:Qa} {K:V→Qa→Prop} {s:Sem Value} (hH:HR im pl w H) (h:∃ v vc,s.run P w=.ok vc w∧K v H∧VR im pl w v vc)
  {run:Result Next} (hr:run=(s.run P w).andThen fun v w=>.ok (.value v) w):OpRes P im pl w run K:=by
 obtain ⟨v,vc,h1,h2,h3⟩:=h;exact .same (by rw [hr,h1];rfl) h2 h3 hH
theorem OpRes.of' {P:Program} {im:Nat→Prop} {pl:Nat→Place} {w:World} {K:V→Qa→Prop} {s:Sem Value} (h:∃ v vc im' pl' w' H',s.run P w=.ok vc w'∧K v H'∧VR im' pl' w' v vc∧HR im' pl' w' H'∧Ext im pl w im' pl' w')
  {run:Result Next} (hr:run=(s.run P w).andThen fun v w=>.ok (.value v) w):OpRes P im pl w run K:=by
 obtain ⟨v,vc,im',pl',w',H',h1,h2,h3,h4,h5⟩:=h;exact ⟨v,vc,im',pl',w',H',.inl (by rw [hr,h1];rfl),h2,h3,h4,h5⟩
theorem Qlv {C:Ctx} {im:Nat→Prop} {pl:Nat→Place} {w:World} {H:Qa} {b:Builtin} {ats:List TypeId} {args:List V} {vargs:List Value} {ty:TypeId} {cs:Array Bool} {K:V→Qa→Prop} (h:Qm C.ty b ats args H K)
  (hl:args.length=vargs.length) (hv:∀ j,VR im pl w (nth args j) (vargs.getD j undef)) (hH:HR im pl w H):OpRes C.P im pl w ((builtin b ats.toArray ty cs vargs.toArray).run C.P w) K:=by
 unfold Qm at h;split at h
 ·rename_i t x;obtain ⟨c,rfl⟩:∃ c,vargs=[c]:=by
   match vargs,hl with
   | [c],_=>exact ⟨c,rfl⟩
  obtain ⟨ht,h⟩:=h;exact .of (s:=Builtin.len_ #[t] ty #[c]) hH (Qum (K:=fun v=>K v H) ht h (by simpa [nth] using hv 0) hH) (by simp [builtin])
 ·rename_i _ k x k' y;obtain ⟨c,d,rfl⟩:∃ c d,vargs=[c,d]:=by
   match vargs,hl with
   | [c,d],_=>exact ⟨c,d,rfl⟩
  have h0:=hv 0
  have h1:=hv 1
  simp only [nth,List.getD_cons_zero,List.getD_cons_succ] at h0 h1;cases h0;cases h1;exact .same (v:=.int k (if y>x then y else x)) (vc:=.int k (if y>x then y else x)) (by simp [builtin,Builtin.max_,Builtin.max2]) h (.int _ _) hH
 ·rename_i _ k x k' y;obtain ⟨c,d,rfl⟩:∃ c d,vargs=[c,d]:=by
   match vargs,hl with
   | [c,d],_=>exact ⟨c,d,rfl⟩
  have h0:=hv 0
  have h1:=hv 1
  simp only [nth,List.getD_cons_zero,List.getD_cons_succ] at h0 h1;cases h0;cases h1;exact .same (v:=.int k (if y<x then y else x)) (vc:=.int k (if y<x then y else x)) (by simp [builtin,Builtin.min_,Builtin.min2]) h (.int _ _) hH
 ·rename_i t t' s x;obtain ⟨c,d,rfl⟩:∃ c d,vargs=[c,d]:=by
   match vargs,hl with
   | [c,d],_=>exact ⟨c,d,rfl⟩
  have h0:=hv 0
  have h1:=hv 1
  simp only [nth,List.getD_cons_zero,List.getD_cons_succ] at h0 h1;obtain ⟨ha,ht,h⟩:=h;cases hsl:(C.ty t).sl with
  | none=>rw [hsl] at h;exact h.elim
  | some e =>
   rw [hsl] at h
   have hu:=(C.ok t ht).slice hsl
   have hrun:∀ w,(Builtin.append_ #[t,t'] ty #[c,d]).run C.P w=(Builtin.append_ #[t,t] ty #[c,d]).run C.P w:=fun w=>by
    simp only [aok,Bool.or_eq_true,beq_iff_eq,Bool.and_eq_true] at ha;rcases ha with rfl | ⟨h2,h3⟩
    ·rfl
    ·obtain ⟨e',he'⟩:=Option.isSome_iff_exists.1 h3;exact Qp0 hu ((C.ok t' h2).slice he')
   have hs:=Qvu (ty:=ty) ht hsl h.1 h.2 h0 h1 hH
   rw [← hrun] at hs;exact .of' (s:=Builtin.append_ #[t,t'] ty #[c,d]) hs (by simp [builtin])
 ·rename_i t t' s x;obtain ⟨c,d,rfl⟩:∃ c d,vargs=[c,d]:=by
   match vargs,hl with
   | [c,d],_=>exact ⟨c,d,rfl⟩
  have h0:=hv 0
  have h1:=hv 1
  simp only [nth,List.getD_cons_zero,List.getD_cons_succ] at h0 h1;obtain ⟨ht,h⟩:=h;cases hsl:(C.ty t).sl with
  | none=>rw [hsl] at h;exact h.elim
  | some e =>
   rw [hsl] at h;exact .of' (s:=Builtin.copy_ #[t,t'] ty #[c,d]) (Qr8 ht hsl h.1 h.2 h0 h1 hH) (by simp [builtin])
 ·exact h.elim
theorem Qmo {α β γ:Type} (r:Result α) (f:α→World→Result β) (g:β→World→Result γ):(r.andThen f).andThen g=r.andThen fun a w=>(f a w).andThen g:=by cases r<;>rfl
theorem Quf {C:Ctx} {im:Nat→Prop} {pl:Nat→Place} {w:World} {H:Qa} {x:V} {xc:Value} {o:Oper} {ρ:Operand→Value} {ox:Operand} {K:V→Qa→Prop} (ho:o.op=.nilCheck ox) (hxc:ρ ox=xc)
  (h:Qk8 x fun v=>K v H) (hx:VR im pl w x xc) (hH:HR im pl w H):OpRes C.P im pl w ((execOp ρ o).run C.P w) K:=by
 unfold Qk8 at h;split at h
 ·refine .same (vc:=xc) ?_ h hx hH;cases hx<;>simp [execOp,ho,hxc]
 ·refine .same (vc:=xc) ?_ h hx hH;cases hx<;>simp [execOp,ho,hxc]
 ·refine .same (vc:=xc) ?_ h hx hH;cases hx<;>simp [execOp,ho,hxc]
 ·refine .same (vc:=xc) ?_ h hx hH;cases hx<;>simp [execOp,ho,hxc]
 ·exact h.elim
set_option maxHeartbeats 2000000 in
theorem Qy0 {C:Ctx} {im:Nat→Prop} {pl:Nat→Place} {w:World} {H:Qa} {ts:List V} {a:Act} {o:Oper} {K:V→Qa→Prop} (h:opw C.ty o.op ts H K) (hts:TR im pl w ts a.tmps) (hH:HR im pl w H) :
  (∀ c,o.op≠.defer c)∧OpRes C.P im pl w ((execOp a.eval o).run C.P w) K:=by
 have E:=fun x=>Qgl hts x
 cases ho:o.op with
 | move x=>rw [ho] at h;exact ⟨fun c=>by simp,.same (by simp [execOp,ho]) h (E x) hH⟩
 | assign x=>rw [ho] at h;exact ⟨fun c=>by simp,.same (by simp [execOp,ho]) h (E x) hH⟩
 | pick c x y =>
  rw [ho] at h;obtain ⟨v,vc,h1,h2,h3⟩:=Qq0 (P:=C.P) (K:=fun v=>K v H) h (E c) (E x) (E y)
  exact ⟨fun c=>by simp,.same (by simpa [execOp,ho] using h1) h2 h3 hH⟩
 | binOp op t x y yt =>
  rw [ho] at h;exact ⟨fun c=>by simp,.of (s:=do eqGuard op t x y (a.eval x) (a.eval y);binOp op t (a.eval x) (a.eval y)) hH (Qvs (K:=fun v=>K v H) h.1 h.2 (E x) (E y) hH) (by simp [execOp,ho,Qmo])⟩
 | unOp op t x =>
  rw [ho] at h;exact ⟨fun c=>by simp,.of (s:=Op.unary op (a.eval x)) hH (Qxw (P:=C.P) (K:=fun v=>K v H) h (E x)) (by simp [execOp,ho])⟩
 | convert s d x =>
  rw [ho] at h;exact ⟨fun c=>by simp,.of (s:=convert s d (a.eval x)) hH (Qr9 (K:=fun v=>K v H) h.1 h.2.1 h.2.2 (E x)) (by simp [execOp,ho])⟩
 | lookup t x i b =>
  rw [ho] at h;obtain ⟨hb,h1,h2⟩:=h;subst hb;exact ⟨fun c=>by simp,.of (s:=Instr.lookup t (a.eval x) (a.eval i) false) hH (Qrl (K:=fun v=>K v H) h1 h2 (E x) (E i)) (by simp [execOp,ho])⟩
 | makeFunc fn first caps =>
  rw [ho] at h
  have h1:=Qh1 hts first
  have h2:=Qh1 hts caps
  refine ⟨fun c=>by simp,.same (vc:=.func fn (first.map a.eval) (caps.map a.eval)) (by simp [execOp,ho,Instr.makeFunc]) h ?_ hH⟩
  have:=VR.fn (im:=im) (pl:=pl) (w:=w) fn _ _ _ _ h1.1 h1.2 h2.1 h2.2
  rw [Array.toArray_toList,Array.toArray_toList] at this;exact this
 | extract x i =>
  rw [ho] at h;exact ⟨fun c=>by simp,.of (s:=Instr.extract (a.eval x) i) hH (Qu4 (P:=C.P) (K:=fun v=>K v H) h (E x)) (by simp [execOp,ho])⟩
 | nilCheck x =>
  rw [ho] at h;exact ⟨fun c=>by simp,Quf ho rfl h (E x) hH⟩
 | load t x =>
  rw [ho] at h;exact ⟨fun c=>by simp,.of (s:=Instr.loadAt t (a.eval x)) hH (Qjl h.1 h.2 (E x) hH) (by simp [execOp,ho])⟩
 | store t x v =>
  rw [ho] at h;obtain ⟨w',H',h1,h2,h3,h4⟩:=Qog h.1 h.2 (E x) (E v) hH;exact ⟨fun c=>by simp,⟨.any,undef,im,pl,w',H',.inr ⟨by simp [execOp,ho,h1],rfl⟩,h2,.any _,h3,h4⟩⟩
 | box t x =>
  rw [ho] at h;obtain ⟨hk,hK⟩:=h;obtain ⟨c1,c2⟩:=(E x).cells' hk;refine ⟨fun c=>by simp,Qhv (C:=C) t (cellsOf (ev ts x)) (a.eval x) (by simpa using c1.symm) (fun j=>by have:=c2 j;simpa [Array.getD_eq_getD_getElem?,List.getD] using this) hH hK ?_⟩
  simp only [execOp,ho,Instr.box,Sem.run_bind,Qch,Sem.run_pure,Result.andThen_ok]
 | alloc t =>
  rw [ho] at h
  have hz:=Qmq (im:=im) (pl:=pl) (w:=w) (C.ok t h.1)
  refine ⟨fun c=>by simp,Qhv (C:=C) t (Xb (C.ty t)) (C.ty t).z hz.1 hz.2 hH h.2 ?_⟩
  simp only [execOp,ho,Instr.alloc,Sem.run_bind,(C.ok t h.1).zero,Qch,Sem.run_pure,Result.andThen_ok]
 | build t parts =>
  rw [ho] at h;exact ⟨fun c=>by simp,.of (s:=Instr.build t (parts.map fun (i,x)=>(i,a.eval x))) hH (Qps (K:=fun v=>K v H) h.1 h.2 hts) (by simp [execOp,ho])⟩
 | buildSlice t len parts =>
  rw [ho] at h
  have h2:=h.2
  cases hb:Qeq parts.toList with
  | true =>
   rw [hb] at h2;exact ⟨fun c=>by simp,.of' (s:=Instr.buildSlice t len (parts.map fun (i,x)=>(i,a.eval x))) (Qlc h.1 h2 hts hH) (by simp [execOp,ho])⟩
  | false =>
   rw [hb] at h2;exact ⟨fun c=>by simp,.of' (s:=Instr.buildSlice t len (parts.map fun (i,x)=>(i,a.eval x))) (Qlw h.1 h2 hts hH) (by simp [execOp,ho])⟩
 | makeSlice t l c =>
  rw [ho] at h;exact ⟨fun c=>by simp,.of' (s:=Instr.makeSlice t (a.eval l) (a.eval c)) (Qrg h.1 h.2 (E l) (E c) hH) (by simp [execOp,ho])⟩
 | slice t x lo hi mx =>
  rw [ho] at h;obtain ⟨hm,ht,h⟩:=h
  have hm':mx=none:=by simpa using hm
  subst hm';refine ⟨fun c=>by simp,.of (s:=Instr.sliceAt t (a.eval x) (lo.map a.eval) (hi.map a.eval) none) hH (Qoj (K:=fun v=>K v H) ht h (E x) ?_ ?_ ?_ ?_ hH) (by simp [execOp,ho])⟩
  ·intro v hv;cases lo with
   | none=>cases hv
   | some l=>simp at hv;subst hv;exact ⟨_,rfl,E l⟩
  ·intro hv;cases lo with
   | none=>rfl
   | some l=>cases hv
  ·intro v hv;cases hi with
   | none=>cases hv
   | some l=>simp at hv;subst hv;exact ⟨_,rfl,E l⟩
  ·intro hv;cases hi with
   | none=>rfl
   | some l=>cases hv
 | fieldAddr t x f =>
  rw [ho] at h;obtain ⟨ht,h⟩:=h;refine ⟨fun c=>by simp, ?_⟩
  have hx:=E x
  simp only [Qcq] at h;split at h
  ·rename_i o u r off hf he;rw [hf] at h;obtain ⟨⟨hu,hne⟩,hK⟩:=h;obtain ⟨fs,fd,hs,hfd,rfl,rfl⟩:=(C.ok t ht).field hf;rw [he] at hx
   have run:∀ ad:Addr,a.eval x=.pointer (some ad)→(execOp a.eval o).run C.P w=.ok (.value (.pointer (some (ad.add fd.offset)))) w:=by
    intro ad hx;simp [execOp,ho,hx,Instr.fieldAt,run_underlying hs,hfd,Instr.sureAddr,fieldPlace,(C.ok _ hu).sizeOf,hne]
   cases hq:a.eval x with
   | pointer p =>
    rw [hq] at hx;cases hx with
    | ptrAt _ _ b cap hp=>exact .same (run _ hq) hK (by rw [Zl];exact .ptrAt r _ b cap hp) hH
    | ptrDead _ _ ad hp=>exact .same (run _ hq) hK (.ptrDead r _ _ hp) hH
   | _=>rw [hq] at hx;cases hx
  ·rename_i o u cs off hf he;rw [hf] at h;obtain ⟨⟨hu,hne⟩,hK⟩:=h;obtain ⟨fs,fd,hs,hfd,rfl,rfl⟩:=(C.ok t ht).field hf;rw [he] at hx
   have run:∀ ad:Addr,a.eval x=.pointer (some ad)→(execOp a.eval o).run C.P w=.ok (.value (.pointer (some (ad.add fd.offset)))) w:=by
    intro ad hx;simp [execOp,ho,hx,Instr.fieldAt,run_underlying hs,hfd,Instr.sureAddr,fieldPlace,(C.ok _ hu).sizeOf,hne]
   cases hq:a.eval x with
   | pointer p =>
    rw [hq] at hx;cases hx with
    | rp _ _ ad vs hi hc hr=>exact .same (run _ hq) hK (by rw [add_add];exact .rp cs _ ad vs hi hc hr) hH
   | _=>rw [hq] at hx;cases hx
  ·exact h.elim
 | field t x f =>
  rw [ho] at h;exact ⟨fun c=>by simp,.of (s:=Instr.field t (a.eval x) f) hH (Qo9 (K:=fun v=>K v H) h.1 h.2 (E x)) (by simp [execOp,ho])⟩
 | indexAddr t x i =>
  rw [ho] at h;exact ⟨fun c=>by simp,.of (s:=Instr.indexAt t (a.eval x) (a.eval i)) hH (Qiz (K:=fun v=>K v H) h.1 h.2.2 (E x) (E i) hH (fun r off n e=>by have:=h.2.1;rw [e] at this;exact this) (fun r off e=>by have:=h.2.1;rw [e] at this;exact this)) (by simp [execOp,ho])⟩
 | index t x i =>
  rw [ho] at h;exact ⟨fun c=>by simp,.of (s:=Instr.index t (a.eval x) (a.eval i)) hH (Qo3 (K:=fun v=>K v H) h.1 h.2 (E x) (E i)) (by simp [execOp,ho])⟩
 | call c =>
  rw [ho] at h;refine ⟨fun c=>by simp, ?_⟩
  simp only [opw] at h;split at h
  ·rename_i b hb
   have h1:=Qh1 hts c.args
   have:=Qlv (ty:=o.type) (cs:=c.args.map fun | .const _=>true | _=>false) h h1.1 h1.2 hH
   rw [Array.toArray_toList,Array.toArray_toList] at this;simp only [execOp,ho,resolve,hb,Sem.run_bind,Sem.run_pure,Result.andThen_ok,invoke];exact this
  ·exact h.elim
 | _=>rw [ho] at h;exact h.elim
abbrev FW (ro:Option Nat):Fence:={ fn:=fun _=>True,depth:=none,alive:=false,round:=ro }
structure DefOK (pl:Nat→Place) (w:World) (ds:List Deferred):Prop where
 nodup:ds.Pairwise (fun d d'=>d.target≠d'.target)
 each:∀ d∈ds,∃ r,d.target=.collected r∧w.heap[r]?=some (.deferred (some []))∧∀ q cap,pl q≠.at r cap
theorem DefOK.nil (pl:Nat→Place) (w:World):DefOK pl w []:=⟨.nil,fun d hd=>by cases hd⟩
theorem DefOK.mono {im im':Nat→Prop} {pl pl':Nat→Place} {w w':World} {ds:List Deferred} (h:DefOK pl w ds) (hE:Ext im pl w im' pl' w'):DefOK pl' w' ds:=by
 refine ⟨h.nodup,fun d hd=>?_⟩
 obtain ⟨r,h1,h2,h3⟩:=h.each d hd
 have hlt:r<w.heap.size:=(Array.getElem?_eq_some_iff.1 h2).1
 refine ⟨r,h1,by rw [hE.frame r hlt h3];exact h2,fun q cap hq=>?_⟩
 rcases hE.pln q r cap hq with ⟨r',cap',h4⟩ | h4
 ·exact h3 r' cap' h4
 ·omega
structure Rel (im:Nat→Prop) (pl:Nat→Place) (w:World) (ts:List V) (H:Qa) (a:Act):Prop where
 tr:TR im pl w ts a.tmps
 hr:HR im pl w H
 df:DefOK pl w a.defers
theorem TR.mono {im im':Nat→Prop} {pl pl':Nat→Place} {w w':World} {ts:List V} {tmps:Array Value} (h:TR im pl w ts tmps) (hE:Ext im pl w im' pl' w') (hd:Xgk im pl):TR im' pl' w' ts tmps :=
 ⟨h.1,fun i=>(h.2 i).mono hE hd⟩
def Xi (ts:List V) (d:Option Tmp) (v:V):List V :=
 match d with
 | some i=>upd ts i v
 | none=>ts
theorem TR.put {im:Nat→Prop} {pl:Nat→Place} {w:World} {ts:List V} {a:Act} {v:V} {vc:Value} (h:TR im pl w ts a.tmps) (hv:VR im pl w v vc) (d:Option Tmp):TR im pl w (Xi ts d v) (a.put d vc).tmps:=by
 cases d with
 | none=>exact h
 | some i =>
  refine ⟨by simp [Xi,Act.put,Yi,h.1],fun j=>?_⟩
  simp only [Xi,Act.put];rw [Zh];by_cases hj:j=i∧i<ts.length
  ·obtain ⟨rfl,hlt⟩:=hj;rw [if_pos ⟨rfl,hlt⟩]
   have:j<a.tmps.size:=by rw [← h.1];exact hlt
   simpa [Array.getD_eq_getD_getElem?,Array.getElem?_setIfInBounds,this] using hv
  ·rw [if_neg hj]
   have h2:=h.2 j
   by_cases hji:j=i
   ·subst hji
    have hlt:¬ j<ts.length:=fun h=>hj ⟨rfl,h⟩
    rw [Jw _ _ (by omega)];exact .any _
   ·simpa [Array.getD_eq_getD_getElem?,Array.getElem?_setIfInBounds,Ne.symm hji] using h2
theorem Xa (a:Act) (d:Option Tmp) (v:Value):(a.put d v).defers=a.defers:=by cases d<;>rfl
theorem Rel.put {im im':Nat→Prop} {pl pl':Nat→Place} {w w':World} {ts:List V} {H H':Qa} {a:Act} {v:V} {vc:Value} (h:Rel im pl w ts H a) (hE:Ext im pl w im' pl' w') (hH:HR im' pl' w' H') (hv:VR im' pl' w' v vc) (d:Option Tmp) :
  Rel im' pl' w' (Xi ts d v) H' (a.put d vc) :=
 ⟨(h.tr.mono hE h.hr.apart).put hv d,hH,by rw [Xa];exact h.df.mono hE⟩
def Marks (w:World) (ds ds':List Deferred):Prop:=∃ nm,ds'=nm++ds∧∀ d∈nm,∃ r,d.target=.collected r∧w.heap.size≤r
theorem Marks.refl (w:World) (ds:List Deferred):Marks w ds ds:=⟨[],rfl,fun d hd=>by cases hd⟩
theorem Marks.trans {w w1:World} {ds ds1 ds2:List Deferred} (h:Marks w ds ds1) (hs:w.heap.size≤w1.heap.size) (k:Marks w1 ds1 ds2):Marks w ds ds2:=by
 obtain ⟨n1,rfl,h1⟩:=h;obtain ⟨n2,rfl,h2⟩:=k;refine ⟨n2++n1,by simp,fun d hd=>?_⟩
 rcases List.mem_append.1 hd with h3 | h3
 ·obtain ⟨r,h4,h5⟩:=h2 d h3;exact ⟨r,h4,by omega⟩
 ·exact h1 d h3
def Post (im:Nat→Prop) (pl:Nat→Place) (w:World) (ds:List Deferred) (Q:Exit→List V→Qa→Prop):Exit→Act→World→Prop
 | .panic _,_,_=>False
 | .outgrown,_,_=>False
 | e,a',w'=>∃ ts' H' im' pl',Q e ts' H'∧Rel im' pl' w' ts' H' a'∧Ext im pl w im' pl' w'∧Marks w ds a'.defers
theorem Post.mono {im:Nat→Prop} {pl:Nat→Place} {w:World} {ds:List Deferred} {Q Q':Exit→List V→Qa→Prop} {e:Exit} {a:Act} {w':World} (h:Post im pl w ds Q e a w') (hq:∀ e ts H,Q e ts H→Q' e ts H):Post im pl w ds Q' e a w':=by
 cases e with
 | panic _=>exact h
 | outgrown=>exact h
 | _=>obtain ⟨ts,H,im',pl',h1,h2⟩:=h;exact ⟨ts,H,im',pl',hq _ _ _ h1,h2⟩
theorem Post.from {im im1:Nat→Prop} {pl pl1:Nat→Place} {w w1:World} {ds ds1:List Deferred} {Q:Exit→List V→Qa→Prop} {e:Exit} {a:Act} {w':World} (hE:Ext im pl w im1 pl1 w1) (hM:Marks w ds ds1) (h:Post im1 pl1 w1 ds1 Q e a w'):Post im pl w ds Q e a w':=by
 cases e with
 | panic _=>exact h
 | outgrown=>exact h
 | _=>obtain ⟨ts,H,im',pl',h1,h2,h3,h4⟩:=h;exact ⟨ts,H,im',pl',h1,h2,hE.trans h3,hM.trans hE.size h4⟩
def T (C:Ctx) (ro:Option Nat) (c:Code) (Q:Exit→List V→Qa→Prop) (ts:List V) (H:Qa):Prop :=
 ∀ im pl w a,Rel im pl w ts H a→c.wpIn (FW ro) 0 C.P (Post im pl w a.defers Q) a w
theorem T.mono {C:Ctx} {ro:Option Nat} {c:Code} {Q Q':Exit→List V→Qa→Prop} {ts:List V} {H:Qa} (h:T C ro c Q ts H) (hq:∀ e ts H,Q e ts H→Q' e ts H):T C ro c Q' ts H :=
 fun im pl w a hr=>wpIn_mono (h im pl w a hr) fun e a w hp=>hp.mono hq
def Xkk (im:Nat→Prop) (pl:Nat→Place) (w:World) (K:V→Qa→Prop):Ending→World→Prop
 | .returned vc,w'=>∃ v H' im' pl',K v H'∧VR im' pl' w' v vc∧HR im' pl' w' H'∧Ext im pl w im' pl' w'
 | _,_=>False
def Qxp (P:Program) (f:FuncId):Prop:=∃ fn,P.funcs[f]?=some fn∧(fn.name == "runtime.NumGoroutine")=false∧fn.body.isNone=false
def Fc (C:Ctx) (f:FuncId) (args:List V) (H:Qa) (K:V→Qa→Prop):Prop :=
 Qxp C.P f∧∀ im pl w (vs:List Value),args.length=vs.length→(∀ j,VR im pl w (nth args j) (vs.getD j undef))→HR im pl w H→Calls C.P f vs.toArray w (Xkk im pl w K)
theorem Fc.mono {C:Ctx} {f:FuncId} {args:List V} {H:Qa} {K K':V→Qa→Prop} (h:Fc C f args H K) (hK:∀ v H,K v H→K' v H):Fc C f args H K':=by
 refine ⟨h.1,fun im pl w vs h1 h2 h3=>(callsIn_wide (n:=0)).1 ((callsIn_wide.2 (h.2 im pl w vs h1 h2 h3)).mono fun e w' hp=>?_)⟩
 cases e with
 | returned v=>obtain ⟨v,H',im',pl',k1,k2⟩:=hp;exact ⟨v,H',im',pl',hK _ _ k1,k2⟩
 | panicked _=>exact hp
 | outgrown=>exact hp
abbrev CW:=V→List V→Qa→(V→Qa→Prop)→Prop
def cwF (C:Ctx):CW:=fun fv args H K =>
 match fv with
 | .fn (.func g) first caps=>Fc C g (first++args++caps) H K
 | _=>False
def opc (ty:TypeId→Ty) (cw:CW) (op:Op) (ts:List V) (H:Qa) (K:V→Qa→Prop):Prop :=
 match op with
 | .call c=>match c.callee with
  | .value f=>cw (ev ts f) (c.args.toList.map (ev ts)) H K
  | .builtin b=>Qm ty b c.argTypes.toList (c.args.toList.map (ev ts)) H K
  | _=>False
 | op=>opw ty op ts H K
def Qga (C:Ctx) (ro:Option Nat) (cw:CW):Prop :=
 ∀ (o:Oper) (c:Call) (f:Operand),o.op=.call c→c.callee=.value f→∀ im pl w (a:Act) (fv:V) (args:List V) (H:Qa) (K:V→Qa→Prop) (next:Act→World→Prop) (Q:Exit→Act→World→Prop),
  cw fv args H K→VR im pl w fv (a.eval f)→args.length=c.args.size→(∀ j,VR im pl w (nth args j) ((c.args.map a.eval).toList.getD j undef))→HR im pl w H →
  (∀ v vc H' im' pl' w',K v H'→VR im' pl' w' v vc→HR im' pl' w' H'→Ext im pl w im' pl' w'→next (a.put o.dst vc) w')→o.wpIn (FW ro) 0 C.P a w next Q
theorem Je (C:Ctx) (ro:Option Nat):Qga C ro (cwF C):=by
 intro o c f ho hc im pl w a fv args H K next Q h hf hl hv hH hK;refine ⟨fun _ _=>trivial, ?_⟩
 rw [Oper.semAt_eq ro a.eval o (fun c'=>by rw [ho];simp)]
 cases fv with
 | fn g first caps =>
  cases g with
  | func g =>
   obtain ⟨⟨fn,h1,h2,h3⟩,hcall⟩:=h;cases hfe:a.eval f with
   | func g' us vs =>
    rw [hfe] at hf;generalize hus:us=us' at hf;generalize hvs:vs=vs' at hf;cases hf with
    | fn _ _ _ us vs hl1 hr1 hl2 hr2 =>
     have hrun:(execOp a.eval o).run C.P w=.ok (.enter g (us++(c.args.map a.eval).toList++vs).toArray) w:=by
      simp only [execOp,ho,resolve,hc,Sem.run_bind,Sem.run_pure,Result.andThen_ok,hfe,Deferred.ofValue,hus,hvs,invoke,callFunc]
      have h2':¬ fn.name = "runtime.NumGoroutine" := by simpa using h2
      have h3':¬ fn.body=none:=by intro e;rw [e] at h3;cases h3
      simp [Go.program,Sem.run,h1,h2',h3']
     rw [hrun,Oper.uponIn_enter];refine ⟨(fun h=>by cases h), ?_⟩
     have hc2:=hcall im pl w (us++(c.args.map a.eval).toList++vs) (by simp [hl1,hl2,hl]) (fun j=>?_) hH
     ·refine CallsIn.mono (F:=FW ro) (show CallsIn Fence.wide _ C.P g _ w _ from callsIn_wide.2 hc2) fun e w' hp=>?_
      cases e with
      | returned vc=>obtain ⟨v,H',im',pl',k1,k2,k3,k4⟩:=hp;exact hK v vc H' im' pl' w' k1 k2 k3 k4
      | panicked _=>exact hp.elim
      | outgrown=>exact hp.elim
     ·rw [Yj,Yj];simp only [List.getD,List.getElem?_append,List.length_append]
      have e1:first.length=us.length:=hl1
      have e2:args.length=(c.args.map a.eval).toList.length:=by simp [hl]
      rw [e1,e2];split
      ·split
       ·have:=hr1 j;simpa [List.getD] using this
       ·have:=hv (j - us.length);simpa [List.getD] using this
      ·have:=hr2 (j - (us.length+(c.args.map a.eval).toList.length));simpa [List.getD,Nat.add_comm,Nat.sub_sub] using this
   | _=>rw [hfe] at hf;cases hf
  | _=>exact h.elim
 | _=>exact h.elim
def Qbg (ops:Array Oper) (g:Option (Nat × Bool)) (ts:List V) (yes no:Prop):Prop :=
 match g with
 | none=>yes
 | some (j,want)=>match (ops[j]?).bind (·.dst) with
  | some d=>match nth ts d with
   | .bool b=>(b=want→yes)∧(b≠want→no)
   | .tup _=>no
   | _=>False
  | none=>False
def Qbz (ops:Array Oper) (g:Option (Nat × Bool)) (ts:List V) (Y N:List V→Prop):Prop :=
 match g with
 | none=>Y ts
 | some (j,want)=>match (ops[j]?).bind (·.dst) with
  | some d=>match nth ts d with
   | .bool b=>(b=true→(match want with | true=>Y (upd ts d (.bool true)) | false=>N (upd ts d (.bool true))))∧(b=false→(match want with | true=>N (upd ts d (.bool false)) | false=>Y (upd ts d (.bool false))))
   | .tup _=>N ts
   | _=>False
  | none=>False
theorem Xbd {l:List V} {i:Nat} {v:V} (h:nth l i=v) (hv:v≠.any):upd l i v=l:=by
 induction l generalizing i with
 | nil=>rfl
 | cons a l ih =>
  cases i with
  | zero=>simp only [nth] at h;subst h;rfl
  | succ i=>simp only [nth] at h;simp only [upd];rw [ih h]
theorem Qco {ops:Array Oper} {g:Option (Nat × Bool)} {ts:List V} {Y N:List V→Prop} (h:Qbz ops g ts Y N):Qbg ops g ts (Y ts) (N ts):=by
 revert h
 unfold Qbz Qbg;split
 ·exact id
 ·rename_i j want;split
  ·split
   ·rename_i b hb
    have e:∀ c,b=c→upd ts _ (.bool c)=ts:=fun c hc=>Xbd (by rw [hb,hc]) (by simp)
    intro h;cases b with
    | true =>
     have h:=h.1 rfl
     rw [e true rfl] at h;cases want with
     | true=>exact ⟨fun _=>h,fun h'=>(h' rfl).elim⟩
     | false=>exact ⟨fun h'=>(by cases h'),fun _=>h⟩
    | false =>
     have h:=h.2 rfl
     rw [e false rfl] at h;cases want with
     | true=>exact ⟨fun h'=>(by cases h'),fun _=>h⟩
     | false=>exact ⟨fun _=>h,fun h'=>(h' rfl).elim⟩
   ·exact id
   ·exact id
  ·exact id
def Qa5 (ty:TypeId→Ty) (cw:CW) (ops:Array Oper) (K:List V→Qa→Prop):List Oper→List V→Qa→Prop
 | [],ts,H=>K ts H
 | o::rest,ts,H=>Qbz ops o.guard ts (fun ts=>opc ty cw o.op ts H fun v H'=>Qa5 ty cw ops K rest (Xi ts o.dst v) H') (fun ts=>Qa5 ty cw ops K rest (Xi ts o.dst (.tup [])) H)
theorem Zt {C:Ctx} {ro:Option Nat} {cw:CW} (hcw:Qga C ro cw) {im:Nat→Prop} {pl:Nat→Place} {w:World} {H:Qa} {ts:List V} {a:Act} {o:Oper} {K:V→Qa→Prop} {next:Act→World→Prop} {Q:Exit→Act→World→Prop}
  (h:opc C.ty cw o.op ts H K) (hts:TR im pl w ts a.tmps) (hH:HR im pl w H) (hK:∀ v vc H' im' pl' w',K v H'→VR im' pl' w' v vc→HR im' pl' w' H'→Ext im pl w im' pl' w'→next (a.put o.dst vc) w') :
  o.wpIn (FW ro) 0 C.P a w next Q:=by
 have fromw:opw C.ty o.op ts H K→o.wpIn (FW ro) 0 C.P a w next Q:=by
  intro h;obtain ⟨hd,v,vc,im',pl',w',H',hrun,k1,k2,k3,k4⟩:=Qy0 h hts hH;refine ⟨fun _ _=>trivial, ?_⟩
  rw [Oper.semAt_eq ro a.eval o hd];rcases hrun with hrun | ⟨hrun,rfl⟩
  ·rw [hrun];exact hK v vc H' im' pl' w' k1 k2 k3 k4
  ·rw [hrun];exact hK .any undef H' im' pl' w' k1 (.any _) k3 k4
 cases ho:o.op with
 | call c =>
  rw [ho] at h;simp only [opc] at h;cases hc:c.callee with
  | value f =>
   rw [hc] at h
   have h1:=Qh1 hts c.args
   exact hcw o c f ho hc im pl w a _ _ H K next Q h (Qgl hts f) (by simp) h1.2 hH hK
  | builtin b =>
   rw [hc] at h;exact fromw (by rw [ho];simp only [opw,hc];exact h)
  | invoke _ _=>rw [hc] at h;exact h.elim
 | _=>rw [ho] at h;exact fromw (by rw [ho];exact h)
theorem Qbw {ops:Array Oper} {o:Oper} {ts:List V} {im:Nat→Prop} {pl:Nat→Place} {w:World} {a:Act} {yes no:Prop} (h:Qbg ops o.guard ts yes no) (hts:TR im pl w ts a.tmps) :
  (Region.wanted o (yielded ops a.tmps)=true∧yes)∨(Region.wanted o (yielded ops a.tmps)=false∧no):=by
 cases hg:o.guard with
 | none=>rw [hg] at h;exact .inl ⟨by simp [Region.wanted,hg],h⟩
 | some g =>
  obtain ⟨j,want⟩:=g;rw [hg] at h;simp only [Qbg] at h;cases hd:(ops[j]?).bind (·.dst) with
  | none=>rw [hd] at h;exact h.elim
  | some d =>
   rw [hd] at h;simp only at h;split at h
   ·rename_i b hb
    have hv:=hts.2 d
    rw [hb] at hv
    have hy:yielded ops a.tmps j=some b:=by
     unfold yielded;rw [hd];simp only [Option.bind_some];cases hq:a.tmps[d]? with
     | none =>
      rw [Array.getD_eq_getD_getElem?,hq] at hv;simp only [Option.getD_none,undef] at hv;generalize hu:(Value.tuple #[])=u at hv;cases hv;cases hu
     | some x =>
      rw [Array.getD_eq_getD_getElem?,hq] at hv;simp only [Option.getD_some] at hv;cases hv
      rfl
    by_cases hbw:b=want
    ·exact .inl ⟨by simp [Region.wanted,hg,hy,hbw],h.1 hbw⟩
    ·exact .inr ⟨by simp [Region.wanted,hg,hy,hbw],h.2 hbw⟩
   ·rename_i vs hb
    have hv:=hts.2 d
    rw [hb] at hv
    have hy:yielded ops a.tmps j=none:=by
     unfold yielded;rw [hd];simp only [Option.bind_some];cases hq:a.tmps[d]? with
     | none=>rfl
     | some x =>
      rw [Array.getD_eq_getD_getElem?,hq] at hv;simp only [Option.getD_some] at hv;cases hv
      rfl
    exact .inr ⟨by simp [Region.wanted,hg,hy],h⟩
   ·exact h.elim
theorem Qt0 {C:Ctx} {ro:Option Nat} {cw:CW} (hcw:Qga C ro cw) {ops:Array Oper} {K:List V→Qa→Prop} {R:Exit→Act→World→Prop} {im0:Nat→Prop} {pl0:Nat→Place} {w0:World}
  {ds0:List Deferred} (hK:∀ im pl w a ts H,K ts H→Rel im pl w ts H a→Ext im0 pl0 w0 im pl w→a.defers=ds0→R .normal a w):∀ (l:List Oper) (k:Nat) (ts:List V) (H:Qa) (im:Nat→Prop) (pl:Nat→Place) (w:World) (a:Act),
  ops.toList.drop k=l→Qa5 C.ty cw ops K l ts H→Rel im pl w ts H a→Ext im0 pl0 w0 im pl w→a.defers=ds0→wpOpsIn (FW ro) 0 C.P ops R (List.range' k l.length) a w:=by
 intro l
 induction l with
 | nil=>intro k ts H im pl w a hl h hr hE hd;exact hK im pl w a ts H h hr hE hd
 | cons o l ih =>
  intro k ts H im pl w a hl h hr hE hd
  have ho:ops[k]?=some o:=by
   have:(ops.toList.drop k)[0]?=some o:=by rw [hl];rfl
   simpa [List.getElem?_drop] using this
  have hl':ops.toList.drop (k+1)=l:=by
   have:(ops.toList.drop k).tail=l:=by rw [hl];rfl
   simpa [List.tail_drop] using this
  simp only [List.length_cons,List.range'_succ,wpOpsIn,ho];simp only [Qa5] at h;rcases Qbw (Qco h) hr.tr with ⟨hw,h⟩ | ⟨hw,h⟩
  ·rw [if_pos hw];exact Zt hcw h hr.tr hr.hr fun v vc H' im' pl' w' k1 k2 k3 k4=>ih (k+1) _ H' im' pl' w' _ hl' k1 (hr.put k4 k3 k2 _) (hE.trans k4) (by rw [Xa];exact hd)
  ·rw [if_neg (by simp [hw])]
   exact ⟨fun _ _=>trivial,ih (k+1) _ H im pl w _ hl' h (hr.put (.refl _ _ _) hr.hr (.tup [] [] rfl fun j=>by simp [nth,List.getD];exact .any _) _) hE (by rw [Xa];exact hd)⟩
theorem Xf3 {C:Ctx} {ro:Option Nat} {cw:CW} (hcw:Qga C ro cw) {id:Nat} {ops:Array Oper} {Q:Exit→List V→Qa→Prop} {ts:List V} {H:Qa} (h:Qa5 C.ty cw ops (Q .normal) ops.toList ts H):T C ro (.region id ops false) Q ts H:=by
 intro im pl w a hr;refine wpIn_region ?_;rw [List.range_eq_range']
 have:=Qt0 (C:=C) (ro:=ro) hcw (ops:=ops) (K:=Q .normal) (R:=Post im pl w a.defers Q) (im0:=im) (pl0:=pl) (w0:=w) (ds0:=a.defers) (fun im' pl' w' a' ts' H' k1 k2 k3 k4=>⟨ts',H',im',pl',k1,k2,k3,by rw [k4];exact .refl _ _⟩) ops.toList 0 ts H im pl w a (by simp) h hr (.refl _ _ _) rfl
 simpa using this
def Qdk (k:List V→Qa→Prop) (Q:Exit→List V→Qa→Prop):Exit→List V→Qa→Prop
 | .normal,ts,H=>k ts H
 | e,ts,H=>Q e ts H
def Zs (id:Nat) (Q:Exit→List V→Qa→Prop):Exit→List V→Qa→Prop
 | .exit id',ts,H=>if id'=id then Q .normal ts H else Q (.exit id') ts H
 | e,ts,H=>Q e ts H
def Qcg (Q:Exit→List V→Qa→Prop):Exit→List V→Qa→Prop
 | .goto _,_,_=>False
 | e,ts,H=>Q e ts H
theorem Xf2 {C:Ctx} {ro:Option Nat} {x y:Code} {Q:Exit→List V→Qa→Prop} {ts:List V} {H:Qa} (h:T C ro x (Qdk (T C ro y Q) Q) ts H):T C ro (.seq x y) Q ts H:=by
 intro im pl w a hr;refine wpIn_seq (wpIn_mono (h im pl w a hr) fun e a' w' hp=>?_)
 cases e with
 | normal =>
  obtain ⟨ts',H',im',pl',k1,k2,k3,k4⟩:=hp;exact wpIn_mono (k1 im' pl' w' a' k2) fun e a w hp=>hp.from k3 k4
 | _=>exact hp
theorem Xf5 {C:Ctx} {ro:Option Nat} {c:Operand} {x y:Code} {Q:Exit→List V→Qa→Prop} {ts:List V} {H:Qa} {b:Bool} (hc:ev ts c=.bool b) (ht:b=true→T C ro x Q ts H) (hf:b=false→T C ro y Q ts H):T C ro (.cond c x y) Q ts H:=by
 intro im pl w a hr
 have hv:=Qgl hr.tr c
 rw [hc] at hv;cases hq:a.eval c with
 | bool b' =>
  rw [hq] at hv;cases hv;exact wpIn_cond_split hq (fun e=>ht e im pl w a hr) (fun e=>hf e im pl w a hr)
 | _=>rw [hq] at hv;cases hv
theorem Qxn {C:Ctx} {ro:Option Nat} {id:Nat} {c:Code} {Q:Exit→List V→Qa→Prop} {ts:List V} {H:Qa} (h:T C ro c (Zs id Q) ts H):T C ro (.block id c) Q ts H:=by
 intro im pl w a hr;refine wpIn_block (wpIn_mono (h im pl w a hr) fun e a' w' hp=>?_)
 cases e with
 | exit id' =>
  obtain ⟨ts',H',im',pl',k1,k2,k3⟩:=hp;simp only [Zs] at k1;simp only [Exit.inBlock];split
  ·rename_i he;rw [if_pos he] at k1;exact ⟨ts',H',im',pl',k1,k2,k3⟩
  ·rename_i he;rw [if_neg he] at k1;exact ⟨ts',H',im',pl',k1,k2,k3⟩
 | _=>exact hp
theorem Qxm {C:Ctx} {ro:Option Nat} {c:Code} {Q:Exit→List V→Qa→Prop} {ts:List V} {H:Qa} (h:T C ro c (Qcg Q) ts H):T C ro (.scope c) Q ts H:=by
 intro im pl w a hr b k cs hro hb hroom
 have hs:∀ (k:List Item) (a:Act) (w:World),step C.P (lone (b.atR a (.code (.scope c)::k)) cs w)=.next (lone (b.atR a (.code c::.inScope c::k)) cs w) :=
  fun k a w=>step_lone_go (by simp [stepG,stepG.exec,Frame.atR])
 have hs':∀ (k:List Item) (a:Act) (w:World),step C.P (lone (b.atR a (.inScope c::k)) cs w)=.next (lone (b.atR a k) cs w) :=
  fun k a w=>step_lone_go (by simp [stepG,stepG.exec,Frame.atR])
 have h0:(lone (b.atR a (.code (.scope c)::k)) cs w).fenced C.P (FW ro):=fenced_calm hb hroom rfl
 obtain ⟨e,a₁,w₁,hq,harr⟩:=h im pl w a hr b (.inScope c::k) cs hro hb hroom
 have hx:∀ id,exitTo id (.inScope c::k)=exitTo id k:=fun id=>by simp [exitTo]
 cases e with
 | normal=>exact ⟨.normal,a₁,w₁,hq,.head h0 (hs _ _ _) (StepsIn.trans harr (.one (fenced_calm hb hroom rfl) (hs' _ _ _)))⟩
 | exit id =>
  exact ⟨.exit id,a₁,w₁,hq,fun k' hk=>.head h0 (hs _ _ _) (harr.1 k' (by rw [hx];exact hk)),
   fun hr' hk=>let ⟨k₁,h1,h2⟩:=harr.2 hr' (by rw [hx];exact hk);⟨k₁,h1,.head h0 (hs _ _ _) h2⟩⟩
 | goto l=>obtain ⟨ts',H',im',pl',k1,_⟩:=hq;exact k1.elim
 | ret=>exact ⟨.ret,a₁,w₁,hq,ArrivesIn.of_steps (e:=.ret) (.one h0 (hs _ _ _)) harr⟩
 | panic ch=>exact hq.elim
 | outgrown=>exact hq.elim
def Qhy (body:(Exit→List V→Qa→Prop)→List V→Qa→Prop) (Q:Exit→List V→Qa→Prop):Nat→List V→Qa→Prop
 | 0,_,_=>False
 | n+1,ts,H=>body (Qdk (Qhy body Q n) Q) ts H
theorem Xf4 {C:Ctx} {ro:Option Nat} {c:Code} {Q:Exit→List V→Qa→Prop} {ts:List V} {H:Qa} (n:Nat) (h:Qhy (T C ro c) Q n ts H):T C ro (.loop c) Q ts H:=by
 intro im pl w a hr b k cs hro hb hroom
 have key:∀ n ts H im pl w a,Qhy (T C ro c) Q n ts H→Rel im pl w ts H a →
   ∃ e a' w',Post im pl w a.defers Q e a' w'∧ArrivesIn (Machine.fenced C.P (FW ro)) C.P (lone (b.atR a (.code c::.inLoop c::k)) cs w) b k cs e a' w':=by
  intro n
  induction n with
  | zero=>intro ts H im pl w a h;exact h.elim
  | succ n ih =>
   intro ts H im pl w a h hr;obtain ⟨e,a₁,w₁,hq,harr⟩:=h im pl w a hr b (.inLoop c::k) cs hro hb hroom;cases e with
   | normal =>
    obtain ⟨ts',H',im',pl',k1,k2,k3,k4⟩:=hq;obtain ⟨e₂,a₂,w₂,hq₂,harr₂⟩:=ih ts' H' im' pl' w₁ a₁ k1 k2;exact ⟨e₂,a₂,w₂,hq₂.from k3 k4,.of_steps (StepsIn.trans harr (.one (fenced_calm hb hroom rfl) stepR_inLoop)) harr₂⟩
   | exit id=>exact ⟨.exit id,a₁,w₁,hq,.pass (x:=.inLoop c) rfl (fun _ _=>.inl (by simp)) harr⟩
   | goto l=>exact ⟨.goto l,a₁,w₁,hq,.pass (x:=.inLoop c) rfl (fun _ _=>.inl (by simp)) harr⟩
   | ret=>exact ⟨.ret,a₁,w₁,hq,.pass (x:=.inLoop c) rfl (fun _ _=>.inl (by simp)) harr⟩
   | panic ch=>exact hq.elim
   | outgrown=>exact hq.elim
 obtain ⟨e,a',w',hq,harr⟩:=key n ts H im pl w a h hr;exact ⟨e,a',w',hq,.of_steps (.one (fenced_calm hb hroom rfl) stepR_loop) harr⟩
def Xe2 (C:Ctx) (ro:Option Nat) (id:Nat) (ops:Array Oper) (Q:Exit→List V→Qa→Prop) (ts:List V) (H:Qa):Prop:=T C ro (.region id ops true) Q ts H
def wp (C:Ctx) (ro:Option Nat) (cw:CW):Code→(Exit→List V→Qa→Prop)→List V→Qa→Prop
 | .skip,Q,ts,H=>Q .normal ts H
 | .region id ops draw,Q,ts,H=>match draw with
  | false=>Qa5 C.ty cw ops (Q .normal) ops.toList ts H
  | true=>Xe2 C ro id ops Q ts H
 | .seq x y,Q,ts,H=>wp C ro cw x (Qdk (wp C ro cw y Q) Q) ts H
 | .cond c x y,Q,ts,H=>match ev ts c with
  | .bool b=>(b=true→wp C ro cw x Q ts H)∧(b=false→wp C ro cw y Q ts H)
  | _=>False
 | .block id c,Q,ts,H=>wp C ro cw c (Zs id Q) ts H
 | .loop c,Q,ts,H=>T C ro (.loop c) Q ts H
 | .rangeFunc f ps assign body,Q,ts,H=>T C ro (.rangeFunc f ps assign body) Q ts H
 | .exit id,Q,ts,H=>Q (.exit id) ts H
 | .scope c,Q,ts,H=>wp C ro cw c (Qcg Q) ts H
 | .label _,Q,ts,H=>Q .normal ts H
 | .goto l,Q,ts,H=>Q (.goto l) ts H
 | .ret,Q,ts,H=>Q .ret ts H
 | .refuse _,_,_,_=>False
theorem Post.now {im:Nat→Prop} {pl:Nat→Place} {w:World} {Q:Exit→List V→Qa→Prop} {ts:List V} {H:Qa} {a:Act} (hr:Rel im pl w ts H a) {e:Exit} (h:Q e ts H) (hp:∀ c,e≠.panic c) (ho:e≠.outgrown):Post im pl w a.defers Q e a w:=by
 cases e with
 | panic c=>exact absurd rfl (hp c)
 | outgrown=>exact absurd rfl ho
 | _=>exact ⟨ts,H,im,pl,h,hr,.refl _ _ _,.refl _ _⟩
theorem Qv2 {C:Ctx} {ro:Option Nat} {c:Code} {Q:Exit→List V→Qa→Prop} (I:Nat→List V→Qa→Prop) (step:∀ n ts H,I n ts H→T C ro c (Qdk (fun ts' H'=>∃ m,m<n∧I m ts' H') Q) ts H) {n:Nat} {ts:List V} {H:Qa} (h:I n ts H):T C ro (.loop c) Q ts H:=by
 have key:∀ k n ts H,n<k→I n ts H→Qhy (T C ro c) Q k ts H:=by
  intro k
  induction k with
  | zero=>intro n ts H hn;omega
  | succ k ih =>
   intro n ts H hn h;refine (step n ts H h).mono fun e ts' H' hq=>?_
   cases e with
   | normal=>obtain ⟨m,hm,hI⟩:=hq;exact ih m ts' H' (by omega) hI
   | _=>exact hq
 exact Xf4 (n+1) (key (n+1) n ts H (by omega) h)
theorem Qe4 {C:Ctx} {ro:Option Nat} {cw:CW} (hcw:Qga C ro cw):∀ (c:Code) (Q:Exit→List V→Qa→Prop) (ts:List V) (H:Qa),wp C ro cw c Q ts H→T C ro c Q ts H:=by
 intro c
 induction c with
 | skip=>exact fun Q ts H h im pl w a hr=>wpIn_skip (Post.now hr h (by simp) (by simp))
 | region id ops draw =>
  intro Q ts H h;cases draw with
  | false=>exact Xf3 hcw h
  | true=>exact h
 | seq x y ihx ihy =>
  intro Q ts H h;exact Xf2 ((ihx _ _ _ h).mono fun e ts H hq=>by
   cases e with
   | normal=>exact ihy _ _ _ hq
   | _=>exact hq)
 | cond c x y ihx ihy =>
  intro Q ts H h;simp only [wp] at h;split at h
  ·rename_i b hb;exact Xf5 hb (fun e=>ihx _ _ _ (h.1 e)) (fun e=>ihy _ _ _ (h.2 e))
  ·exact h.elim
 | block id c ih=>exact fun Q ts H h=>Qxn (ih _ _ _ h)
 | loop c _=>exact fun Q ts H h=>h
 | rangeFunc f ps assign body _ _=>exact fun Q ts H h=>h
 | exit id=>exact fun Q ts H h im pl w a hr=>wpIn_exit (Post.now hr h (by simp) (by simp))
 | scope c ih=>exact fun Q ts H h=>Qxm (ih _ _ _ h)
 | label l=>exact fun Q ts H h im pl w a hr=>wpIn_label (Post.now hr h (by simp) (by simp))
 | goto l=>exact fun Q ts H h im pl w a hr=>wpIn_goto (Post.now hr h (by simp) (by simp))
 | ret=>exact fun Q ts H h im pl w a hr=>wpIn_ret (Post.now hr h (by simp) (by simp))
 | refuse why=>exact fun Q ts H h=>h.elim
mutual
def ren (g:Nat→Option Nat):V→V
 | .any=>.any
 | .int k n=>.int k n
 | .bool b=>.bool b
 | .str s=>.str s
 | .nil=>.nil
 | .sl n cs=>.sl n (Qe g cs)
 | .ref r off n=>match g r with
  | some r'=>.ref r' off n
  | none=>.any
 | .agg cs=>.agg (Qe g cs)
 | .tup vs=>.tup (Qe g vs)
 | .ptr r off=>match g r with
  | some r'=>.ptr r' off
  | none=>.any
 | .nilp=>.nilp
 | .rp cs off=>.rp (Qe g cs) off
 | .fn f xs ys=>.fn f (Qe g xs) (Qe g ys)
 | .nilf=>.nilf
 | .mp k ks vs=>.mp k ks (Qe g vs)
def Qe (g:Nat→Option Nat):List V→List V
 | []=>[]
 | v::l=>ren g v::Qe g l
end
theorem Qhk (g:Nat→Option Nat) (l:List V):Qe g l=l.map (ren g):=by
 induction l with
 | nil=>rfl
 | cons a l ih=>simp [Qe,ih]
theorem Jg (g:Nat→Option Nat) (l:List V):(Qe g l).length=l.length:=by rw [Qhk];simp
theorem Yo (g:Nat→Option Nat) (l:List V) (j:Nat):nth (Qe g l) j=ren g (nth l j):=by
 induction l generalizing j with
 | nil=>simp [Qe,nth,ren]
 | cons a l ih=>cases j<;>simp [Qe,nth,ih]
theorem VR.ren {im im':Nat→Prop} {pl pl':Nat→Place} {w:World} {g:Nat→Option Nat} (hg:∀ r r',g r=some r'→pl' r'=pl r) (hi:∀ b,im b→im' b) {v:V} {c:Value} (h:VR im pl w v c):VR im' pl' w (ren g v) c:=by
 induction h with
 | any v=>exact .any v
 | int k n=>exact .int k n
 | bool b=>exact .bool b
 | str s=>exact .str s
 | nil=>exact .nil
 | sl0 cs a c=>exact .sl0 _ a c
 | sl n cs ad c vs hn hib hc hr ih=>exact .sl n _ ad c vs hn (hi _ hib) (fun j hj=>hc j (by rwa [Jg] at hj)) (fun j=>by rw [Yo];exact ih j)
 | refAt r off n b cap c hp hc h0 =>
  simp only [Bv.ren];cases hq:g r with
  | none=>exact .any _
  | some r'=>exact .refAt r' off n b cap c (by rw [hg r r' hq];exact hp) hc h0
 | refVirt r hp =>
  simp only [Bv.ren];cases hq:g r with
  | none=>exact .any _
  | some r'=>exact .refVirt r' (by rw [hg r r' hq];exact hp)
 | refDead r off n a c hp =>
  simp only [Bv.ren];cases hq:g r with
  | none=>exact .any _
  | some r'=>exact .refDead r' off n a c (by rw [hg r r' hq];exact hp)
 | agg cs vs hl hr ih=>exact .agg _ vs (by rw [Jg];exact hl) (fun j=>by rw [Yo];exact ih j)
 | tup cs vs hl hr ih=>exact .tup _ vs (by rw [Jg];exact hl) (fun j=>by rw [Yo];exact ih j)
 | ptrAt r off b cap hp =>
  simp only [Bv.ren];cases hq:g r with
  | none=>exact .any _
  | some r'=>exact .ptrAt r' off b cap (by rw [hg r r' hq];exact hp)
 | ptrDead r off a hp =>
  simp only [Bv.ren];cases hq:g r with
  | none=>exact .any _
  | some r'=>exact .ptrDead r' off a (by rw [hg r r' hq];exact hp)
 | nilp=>exact .nilp
 | rp cs off ad vs hib hc hr ih=>exact .rp _ off ad vs (hi _ hib) (fun j hj=>hc j (by rwa [Jg] at hj)) (fun j=>by rw [Yo];exact ih j)
 | fn f xs ys us vs hl hr hl' hr' ih ih'=>exact .fn f _ _ us vs (by rw [Jg];exact hl) (fun j=>by rw [Yo];exact ih j) (by rw [Jg];exact hl') (fun j=>by rw [Yo];exact ih' j)
 | nilf=>exact .nilf
 | mp k ks cs b es clock vs hib hb hf hr ih=>exact .mp k ks _ b es clock vs (hi _ hib) hb hf (fun j=>by rw [Yo];exact ih j)
mutual
theorem Qdz:∀ v:V,ren some v=v
 | .any=>rfl
 | .int _ _=>rfl
 | .bool _=>rfl
 | .str _=>rfl
 | .nil=>rfl
 | .sl n cs=>by simp only [ren,Qao cs]
 | .ref _ _ _=>rfl
 | .agg cs=>by simp only [ren,Qao cs]
 | .tup vs=>by simp only [ren,Qao vs]
 | .ptr _ _=>rfl
 | .nilp=>rfl
 | .rp cs off=>by simp only [ren,Qao cs]
 | .fn f xs ys=>by simp only [ren,Qao xs,Qao ys]
 | .nilf=>rfl
 | .mp k ks vs=>by simp only [ren,Qao vs]
theorem Qao:∀ l:List V,Qe some l=l
 | []=>rfl
 | v::l=>by simp only [Qe,Qdz v,Qao l]
end
def Jv (g:Nat→Option Nat) (row:Row):Row:=⟨row.e,row.s,Qe g row.cs⟩
def Qbs (g:Nat→Option Nat) (H:Qa):Qa:=H.map (Option.map (Jv g))
theorem VR.world {im:Nat→Prop} {pl:Nat→Place} {w w':World} (hw:∀ (a:Addr) v,im a.block→w.cell? a=some v→w'.cell? a=some v) (hm:∀ (b:Nat) es c,im b→w.heap[b]?=some (.map es c)→w'.heap[b]?=some (.map es c)) {v:V} {c:Value} (h:VR im pl w v c):VR im pl w' v c:=by
 induction h with
 | any v=>exact .any v
 | int k n=>exact .int k n
 | bool b=>exact .bool b
 | str s=>exact .str s
 | nil=>exact .nil
 | sl0 cs a c=>exact .sl0 _ a c
 | sl n cs ad c vs hn hib hc hr ih=>exact .sl n _ ad c vs hn hib (fun j hj=>hw _ _ (by rw [Qef];exact hib) (hc j hj)) ih
 | refAt r off n b cap c hp hc h0=>exact .refAt r off n b cap c hp hc h0
 | refVirt r hp=>exact .refVirt r hp
 | refDead r off n a c hp=>exact .refDead r off n a c hp
 | agg cs vs hl hr ih=>exact .agg _ vs hl ih
 | tup cs vs hl hr ih=>exact .tup _ vs hl ih
 | ptrAt r off b cap hp=>exact .ptrAt r off b cap hp
 | ptrDead r off a hp=>exact .ptrDead r off a hp
 | nilp=>exact .nilp
 | rp cs off ad vs hib hc hr ih=>exact .rp _ off ad vs hib (fun j hj=>hw _ _ (by rw [Qef];exact hib) (hc j hj)) ih
 | fn f xs ys us vs hl hr hl' hr' ih ih'=>exact .fn f _ _ us vs hl ih hl' ih'
 | nilf=>exact .nilf
 | mp k ks cs b es clock vs hib hb hf hr ih=>exact .mp k ks _ b es clock vs hib (hm _ _ _ hib hb) hf ih
mutual
def clo:V→Bool
 | .ref _ _ _ | .ptr _ _=>false
 | .sl _ cs | .agg cs | .tup cs | .rp cs _ | .mp _ _ cs=>Qf cs
 | .fn _ xs ys=>Qf xs&&Qf ys
 | _=>true
def Qf:List V→Bool
 | []=>true
 | v::l=>clo v&&Qf l
end
theorem Qlu (l:List V):Qf l=l.all clo:=by
 induction l with
 | nil=>rfl
 | cons a l ih=>simp [Qf,ih]
theorem Ys {l:List V} (h:Qf l=true) (j:Nat):clo (nth l j)=true:=by
 induction l generalizing j with
 | nil=>simp [nth,clo]
 | cons a l ih =>
  simp only [Qf,Bool.and_eq_true] at h;cases j with
  | zero=>exact h.1
  | succ j=>exact ih h.2 j
theorem VR.clo {im:Nat→Prop} {pl pl':Nat→Place} {w:World} {v:V} {c:Value} (h:VR im pl w v c) (hc:clo v=true):VR im pl' w v c:=by
 induction h with
 | any v=>exact .any v
 | int k n=>exact .int k n
 | bool b=>exact .bool b
 | str s=>exact .str s
 | nil=>exact .nil
 | sl0 cs a c=>exact .sl0 _ a c
 | sl n cs ad c vs hn hib hcc hr ih=>exact .sl n _ ad c vs hn hib hcc (fun j=>ih j (Ys hc j))
 | refAt r off n b cap c hp=>cases hc
 | refVirt r hp=>cases hc
 | refDead r off n a c hp=>cases hc
 | agg cs vs hl hr ih=>exact .agg _ vs hl (fun j=>ih j (Ys hc j))
 | tup cs vs hl hr ih=>exact .tup _ vs hl (fun j=>ih j (Ys hc j))
 | ptrAt r off b cap hp=>cases hc
 | ptrDead r off a hp=>cases hc
 | nilp=>exact .nilp
 | rp cs off ad vs hib hcc hr ih=>exact .rp _ off ad vs hib hcc (fun j=>ih j (Ys hc j))
 | fn f xs ys us vs hl hr hl' hr' ih ih' =>
  simp only [Bv.clo,Bool.and_eq_true] at hc;exact .fn f _ _ us vs hl (fun j=>ih j (Ys hc.1 j)) hl' (fun j=>ih' j (Ys hc.2 j))
 | nilf=>exact .nilf
 | mp k ks cs b es clock vs hib hb hf hr ih=>exact .mp k ks _ b es clock vs hib hb hf (fun j=>ih j (Ys hc j))
inductive Bor (H:Qa):V→V→Prop
 | clo (v:V) (h:clo v=true):Bor H v v
 | ref (r off n:Nat) (row:Row) (cs:List V) (hr:Qc H r=some row) (hl:off+cs.length≤row.cs.length) (hb:∀ j,j<cs.length→Bor H (nth row.cs (off+j)) (nth cs j)):Bor H (.ref r off n) (.sl n cs)
 | nil (cs:List V):Bor H .nil (.sl 0 cs)
 | ptr (r off:Nat) (row:Row) (cs:List V) (hr:Qc H r=some row) (hl:cs.length≤row.cs.length) (hb:∀ j,j<cs.length→Bor H (nth row.cs j) (nth cs j)):Bor H (.ptr r off) (.rp cs off)
 | agg (cs cs':List V) (hl:cs.length=cs'.length) (hb:∀ j,Bor H (nth cs j) (nth cs' j)):Bor H (.agg cs) (.agg cs')
 | tup (cs cs':List V) (hl:cs.length=cs'.length) (hb:∀ j,Bor H (nth cs j) (nth cs' j)):Bor H (.tup cs) (.tup cs')
 | fn (f:Go.Fn) (xs ys xs' ys':List V) (hl:xs.length=xs'.length) (hb:∀ j,Bor H (nth xs j) (nth xs' j)) (hl':ys.length=ys'.length) (hb':∀ j,Bor H (nth ys j) (nth ys' j)):Bor H (.fn f xs ys) (.fn f xs' ys')
def Kw:Nat→Place:=fun _=>.no
def Qs3 (im:Nat→Prop) (pl:Nat→Place):Nat→Prop:=fun b=>im b∨∃ r cap,pl r=.at b cap
theorem Bor.VR {im:Nat→Prop} {pl:Nat→Place} {w:World} {H:Qa} (hH:HR im pl w H) {a a':V} (h:Bor H a a'):∀ {c:Value},Bv.VR im pl w a c→Bv.VR (Qs3 im pl) Kw w a' c:=by
 induction h with
 | clo v hc =>
  intro c hv
  have:=hv.ren (g:=some) (im':=Qs3 im pl) (pl':=pl) (fun r r' e=>by injection e with e;rw [e]) (fun b hb=>.inl hb)
  refine VR.clo (pl:=pl) ?_ hc
  have e:Bv.ren some v=v:=Qdz v
  rwa [e] at this
 | ref r off n row cs hr hl hb ih =>
  intro c hv
  have hrow:=Xh hr
  cases hv with
  | refDead _ _ _ a c hp=>have:=hH.dead r hp;rw [hrow] at this;cases this
  | refVirt _ hp=>exact .sl0 _ _ _
  | refAt _ _ _ b cap c hp hc h0 =>
   obtain ⟨e,s,cs0,cur,h1,h2,h3,h4,h5,h6⟩:=hH.row r b cap hp;rw [hrow] at h1;injection h1 with h1
   injection h1 with h1
   subst h1;refine .sl n cs _ c (fun j=>cur.getD (off+j) undef) hc (.inr ⟨r,cap,hp⟩) (fun j hj=>?_) (fun j=>?_)
   ·rw [Zl]
    have hlt:off+j<cur.size:=by
     have:cs0.length≤cur.size:=h5
     have hl':off+cs.length≤cs0.length:=hl
     omega
    exact Zw h2 hlt
   ·by_cases hj:j<cs.length
    ·exact ih j hj (h6 _)
    ·rw [Jw _ _ (by omega)];exact .any _
 | nil cs =>
  intro c hv;cases hv with
  | nil=>exact .sl0 _ _ _
 | ptr r off row cs hr hl hb ih =>
  intro c hv
  have hrow:=Xh hr
  cases hv with
  | ptrDead _ _ a hp=>have:=hH.dead r hp;rw [hrow] at this;cases this
  | ptrAt _ _ b cap hp =>
   obtain ⟨e,s,cs0,cur,h1,h2,h3,h4,h5,h6⟩:=hH.row r b cap hp;rw [hrow] at h1;injection h1 with h1
   injection h1 with h1
   subst h1
   have hv:=VR.rp (im:=Qs3 im pl) (pl:=Kw) (w:=w) cs off ⟨b,0,none⟩ (fun j=>cur.getD j undef) (.inr ⟨r,cap,hp⟩) (fun j hj=>by
    rw [Zl,Nat.zero_add]
    have:cs0.length≤cur.size:=h5
    have hl':cs.length≤cs0.length:=hl
    exact Zw h2 (by omega)) (fun j=>by
    by_cases hj:j<cs.length
    ·exact ih j hj (h6 _)
    ·rw [Jw _ _ (by omega)];exact .any _)
   rwa [Zl,Nat.zero_add] at hv
 | agg cs cs' hl hb ih =>
  intro c hv;cases hv with
  | agg _ vs hl2 hr=>exact .agg _ vs (by omega) (fun j=>ih j (hr j))
 | tup cs cs' hl hb ih =>
  intro c hv;cases hv with
  | tup _ vs hl2 hr=>exact .tup _ vs (by omega) (fun j=>ih j (hr j))
 | fn f xs ys xs' ys' hl hb hl' hb' ih ih' =>
  intro c hv;cases hv with
  | fn _ _ _ us vs h1 h2 h3 h4=>exact .fn f _ _ us vs (by omega) (fun j=>ih j (h2 j)) (by omega) (fun j=>ih' j (h4 j))
mutual
def plain:V→Bool
 | .sl n _=>n==0
 | .rp _ _=>false
 | .mp _ _ _=>false
 | .agg cs | .tup cs=>Xd cs
 | .fn _ xs ys=>Xd xs&&Xd ys
 | _=>true
def Xd:List V→Bool
 | []=>true
 | v::l=>plain v&&Xd l
end
theorem Ja {l:List V} (h:Xd l=true) (j:Nat):plain (nth l j)=true:=by
 induction l generalizing j with
 | nil=>simp [nth,plain]
 | cons a l ih =>
  simp only [Xd,Bool.and_eq_true] at h;cases j with
  | zero=>exact h.1
  | succ j=>exact ih h.2 j
theorem VR.plain {im im':Nat→Prop} {pl:Nat→Place} {w:World} {v:V} {c:Value} (h:VR im pl w v c) (hc:plain v=true):VR im' pl w v c:=by
 induction h with
 | any v=>exact .any v
 | int k n=>exact .int k n
 | bool b=>exact .bool b
 | str s=>exact .str s
 | nil=>exact .nil
 | sl0 cs a c=>exact .sl0 _ a c
 | sl n cs ad c vs hn hib hcc hr ih =>
  have:n=0:=by simpa [Bv.plain] using hc
  subst this;exact .sl0 _ _ _
 | refAt r off n b cap c hp hcc h0=>exact .refAt r off n b cap c hp hcc h0
 | refVirt r hp=>exact .refVirt r hp
 | refDead r off n a c hp=>exact .refDead r off n a c hp
 | agg cs vs hl hr ih=>exact .agg _ vs hl (fun j=>ih j (Ja hc j))
 | tup cs vs hl hr ih=>exact .tup _ vs hl (fun j=>ih j (Ja hc j))
 | ptrAt r off b cap hp=>exact .ptrAt r off b cap hp
 | ptrDead r off a hp=>exact .ptrDead r off a hp
 | nilp=>exact .nilp
 | rp cs off ad vs hib hcc hr ih=>cases hc
 | fn f xs ys us vs hl hr hl' hr' ih ih' =>
  simp only [Bv.plain,Bool.and_eq_true] at hc;exact .fn f _ _ us vs hl (fun j=>ih j (Ja hc.1 j)) hl' (fun j=>ih' j (Ja hc.2 j))
 | nilf=>exact .nilf
 | mp k ks cs b es clock vs hib hb hf hr ih=>cases hc
def shift (n:Nat):Nat→Option Nat:=fun r=>some (r+n)
def plG (n:Nat) (pl pl':Nat→Place):Nat→Place:=fun r=>if r<n then pl r else pl' (r - n)
theorem Xlu {n:Nat} {pl pl':Nat→Place} {r:Nat} (h:r<n):plG n pl pl' r=pl r:=if_pos h
theorem Qtv {n:Nat} {pl pl':Nat→Place} (r:Nat):plG n pl pl' (r+n)=pl' r:=by unfold plG;rw [if_neg (by omega)];congr 1;omega
theorem HR.glue {im im':Nat→Prop} {pl pl':Nat→Place} {w w':World} {H H':Qa} (h:HR im pl w H) (hS:HR im' pl' w' H') (h1:∀ b,im b→im' b) (h3:∀ b,im' b→im b∨w.heap.size≤b)
  (os:w'.os=w.os) (tape:w'.tape=w.tape) (output:w'.output=w.output) (size:w.heap.size≤w'.heap.size) (pln:∀ r b cap,pl' r=.at b cap→w.heap.size≤b) (frame:∀ b,b<w.heap.size→w'.heap[b]?=w.heap[b]?) :
  HR im' (plG H.length pl pl') w' (H++Qbs (shift H.length) H')∧Ext im pl w im' (plG H.length pl pl') w':=by
 have hpl:∀ r b cap,plG H.length pl pl' r=.at b cap→(r<H.length∧pl r=.at b cap)∨(H.length≤r∧pl' (r - H.length)=.at b cap):=by
  intro r b cap hr;unfold plG at hr;split at hr
  ·exact .inl ⟨‹_›,hr⟩
  ·exact .inr ⟨by omega,hr⟩
 have hE:Ext im pl w im' (plG H.length pl pl') w':=by
  refine ⟨os,tape,output,size,h1,fun b hb=>(h3 b hb).imp id .inl,fun r hr=>.inl (Xlu ((h.len r).2 hr)),fun r b cap hr=>?_,fun b hb _=>frame b hb⟩
  rcases hpl r b cap hr with ⟨_,h4⟩ | ⟨_,h4⟩
  ·exact .inl ⟨r,cap,h4⟩
  ·exact .inr (pln _ b cap h4)
 refine ⟨⟨fun r=>?_,fun b hb r cap hr=>?_,fun r b cap hr=>?_,fun b hb=>hS.imb b hb,fun r r' b c c' hr hr'=>?_,fun r hr=>?_,fun r hr=>?_,fun r b cap hr=>?_⟩,hE⟩
 ·unfold plG;simp only [List.length_append,Qbs,List.length_map];split
  ·rw [← h.len r];omega
  ·rw [← hS.len];omega
 ·rcases hpl r b cap hr with ⟨_,h4⟩ | ⟨_,h4⟩
  ·rcases h3 b hb with h5 | h5
   ·exact h.apart b h5 r cap h4
   ·have:=h.bound r b cap h4;omega
  ·exact hS.apart b hb _ cap h4
 ·rcases hpl r b cap hr with ⟨_,h4⟩ | ⟨_,h4⟩
  ·exact Nat.lt_of_lt_of_le (h.bound r b cap h4) size
  ·exact hS.bound _ b cap h4
 ·rcases hpl r b c hr with ⟨h4,h5⟩ | ⟨h4,h5⟩<;>rcases hpl r' b c' hr' with ⟨h6,h7⟩ | ⟨h6,h7⟩
  ·exact h.inj r r' b c c' h5 h7
  ·have:=h.bound r b c h5;have:=pln _ b c' h7;omega
  ·have:=h.bound r' b c' h7;have:=pln _ b c h5;omega
  ·have:=hS.inj _ _ b c c' h5 h7;omega
 ·unfold plG at hr;split at hr
  ·rename_i hlt;rw [List.getElem?_append_left hlt];exact h.dead r hr
  ·rename_i hlt;rw [List.getElem?_append_right (by omega)]
   have:=hS.dead _ hr
   simp [Qbs,this]
 ·unfold plG at hr;split at hr
  ·rename_i hlt;rw [List.getElem?_append_left hlt];exact h.virt r hr
  ·rename_i hlt;rw [List.getElem?_append_right (by omega)]
   obtain ⟨e,s,h4⟩:=hS.virt _ hr;exact ⟨e,s,by simp [Qbs,h4,Jv,Qe]⟩
 ·rcases hpl r b cap hr with ⟨h4,h5⟩ | ⟨h4,h5⟩
  ·obtain ⟨e,s,cs,cur,k1,k2,k3,k4,k5,k6⟩:=h.row r b cap h5;exact ⟨e,s,cs,cur,by rw [List.getElem?_append_left h4];exact k1,by rw [frame b (h.bound r b cap h5)];exact k2,k3,k4,k5,fun j=>(k6 j).mono hE h.apart⟩
  ·obtain ⟨e,s,cs,cur,k1,k2,k3,k4,k5,k6⟩:=hS.row _ b cap h5;refine ⟨e,s,Qe (shift H.length) cs,cur,by rw [List.getElem?_append_right h4];simp [Qbs,k1,Jv],k2,k3,k4,by rw [Jg];exact k5,fun j=>?_⟩
   rw [Yo];exact (k6 j).ren (fun r r' e=>by injection e with e;subst e;exact Qtv r) (fun b hb=>hb)
theorem HR.none {im:Nat→Prop} {w:World} (h:∀ b,im b→b<w.heap.size):HR im Kw w [] :=
 ⟨fun r=>by simp [Kw],fun b _ r c=>by simp [Kw],fun r b c=>by simp [Kw],h,fun r r' b c c'=>by simp [Kw],fun r=>by simp [Kw],fun r=>by simp [Kw],fun r b c=>by simp [Kw]⟩
theorem Fc.call {C:Ctx} {f:FuncId} {args:List V} {H:Qa} {Q K:V→Qa→Prop} (h:Fc C f args [] Q) (hc:Qf args=true) (hK:∀ v H',Q v H'→K (ren (shift H.length) v) (H++Qbs (shift H.length) H')):Fc C f args H K:=by
 refine ⟨h.1,fun im pl w vs hl hv hH=>?_⟩
 have hcall:=h.2 im Kw w vs hl (fun j=>(hv j).clo (Ys hc j)) (HR.none hH.imb)
 refine (callsIn_wide (n:=0)).1 ((callsIn_wide.2 hcall).mono fun e w' hp=>?_)
 cases e with
 | panicked _=>exact hp
 | outgrown=>exact hp
 | returned vc =>
  obtain ⟨v,H',im',pl',k1,k2,k3,k4⟩:=hp
  have hg:=hH.glue k3 k4.imm (fun b hb=>by
   rcases k4.imn b hb with h1 | h1 | ⟨r,cap,h1⟩
   ·exact .inl h1
   ·exact .inr h1
   ·cases h1) k4.os k4.tape k4.output k4.size (fun r b cap hr=>by
   rcases k4.pln r b cap hr with ⟨r',cap',h1⟩ | h1
   ·cases h1
   ·exact h1) (fun b hb=>k4.frame b hb (fun r cap e=>by cases e))
  exact ⟨_,_,im',_,hK v H' k1,k2.ren (fun r r' e=>by injection e with e;subst e;exact Qtv r) (fun b hb=>hb),hg.1,hg.2⟩
def Jb (H:Qa):Prop:=∀ (r:Nat) (row:Row),H[r]?=some (some row)→Xd row.cs=true
theorem Fc.borrow {C:Ctx} {f:FuncId} {args args':List V} {H:Qa} {Q K:V→Qa→Prop} (h:Fc C f args' [] Q) (hl:args.length=args'.length) (hb:∀ j,Bor H (nth args j) (nth args' j)) (hp:∀ v H',Q v H'→plain v=true∧Jb H')
  (hK:∀ v H',Q v H'→K (ren (shift H.length) v) (H++Qbs (shift H.length) H')):Fc C f args H K:=by
 refine ⟨h.1,fun im pl w vs hvl hv hH=>?_⟩
 have hcall:=h.2 (Qs3 im pl) Kw w vs (by omega) (fun j=>(hb j).VR hH (hv j)) (HR.none fun b hb=>by
  rcases hb with hb | ⟨r,cap,hb⟩
  ·exact hH.imb b hb
  ·exact hH.bound r b cap hb)
 refine (callsIn_wide (n:=0)).1 ((callsIn_wide.2 hcall).mono fun e w' hq=>?_)
 cases e with
 | panicked _=>exact hq
 | outgrown=>exact hq
 | returned vc =>
  obtain ⟨v,H',im',pl',k1,k2,k3,k4⟩:=hq;obtain ⟨p1,p2⟩:=hp v H' k1
  have hS:HR (fun b=>im b∨(w.heap.size≤b∧im' b)) pl' w' H':=by
   have hsub:∀ b,(im b∨(w.heap.size≤b∧im' b))→im' b:=fun b hb=>by
    rcases hb with hb | hb
    ·exact k4.imm b (.inl hb)
    ·exact hb.2
   refine ⟨k3.len,fun b hb=>k3.apart b (hsub b hb),k3.bound,fun b hb=>k3.imb b (hsub b hb),k3.inj,k3.dead,k3.virt,fun r b cap hr=>?_⟩
   obtain ⟨e,s,cs,cur,q1,q2,q3,q4,q5,q6⟩:=k3.row r b cap hr;exact ⟨e,s,cs,cur,q1,q2,q3,q4,q5,fun j=>(q6 j).plain (Ja (p2 r _ q1) j)⟩
  have hg:=hH.glue hS (fun b hb=>.inl hb) (fun b hb=>hb.imp id (·.1)) k4.os k4.tape k4.output k4.size (fun r b cap hr=>by
   rcases k4.pln r b cap hr with ⟨r',cap',h1⟩ | h1
   ·cases h1
   ·exact h1) (fun b hb=>k4.frame b hb (fun r cap e=>by cases e))
  exact ⟨_,_,_,_,hK v H' k1,((k2.plain p1).ren (fun r r' e=>by injection e with e;subst e;exact Qtv r) (fun b hb=>hb)),hg.1,hg.2⟩
def pos:List Nat→Nat→Option Nat
 | [],_=>none
 | a::l,r=>if a=r then some 0 else (pos l r).map (·+1)
theorem Qky {l:List Nat} {r i:Nat} (h:pos l r=some i):l[i]?=some r:=by
 induction l generalizing i with
 | nil=>cases h
 | cons a l ih =>
  simp only [pos] at h;split at h
  ·rename_i e;injection h with h;subst h;simp [e]
  ·obtain ⟨j,hj,rfl⟩:=Option.map_eq_some_iff.1 h;simpa using ih hj
def Qbc (sel:List Nat) (H:Qa):Qa:=sel.map fun r=>(Qc H r).map (Jv (pos sel))
def plS (sel:List Nat) (pl:Nat→Place):Nat→Place:=fun i=>match sel[i]? with
 | some r=>pl r
 | none=>.no
theorem HR.sel {im0 im:Nat→Prop} {pl:Nat→Place} {w0 w:World} {H:Qa} (h:HR im pl w H) (hE:Ext im0 Kw w0 im pl w) (sel:List Nat) (hn:sel.Nodup) (hl:∀ r∈sel,r<H.length) :
  HR im (plS sel pl) w (Qbc sel H)∧Ext im0 Kw w0 im (plS sel pl) w:=by
 have hpl:∀ i p,plS sel pl i=p→p≠.no→∃ r,sel[i]?=some r∧pl r=p:=by
  intro i p hi hp;unfold plS at hi;cases hs:sel[i]? with
  | none=>rw [hs] at hi;exact absurd hi.symm hp
  | some r=>rw [hs] at hi;exact ⟨r,rfl,hi⟩
 have hren:∀ {v:V} {c:Value},VR im pl w v c→VR im (plS sel pl) w (ren (pos sel) v) c:=fun hv=>hv.ren (fun r r' e=>by simp [plS,Qky e]) (fun b hb=>hb)
 refine ⟨⟨fun i=>?_,fun b hb i cap hi=>?_,fun i b cap hi=>?_,h.imb,fun i j b c c' hi hj=>?_,fun i hi=>?_,fun i hi=>?_,fun i b cap hi=>?_⟩,⟨hE.os,hE.tape,hE.output,hE.size,hE.imm,hE.imn,fun r hr=>absurd rfl hr,fun i b cap hi=>?_,hE.frame⟩⟩
 ·simp only [Qbc,List.length_map];constructor
  ·intro hi;simp only [plS,List.getElem?_eq_getElem hi];exact (h.len _).1 (hl _ (List.getElem_mem _))
  ·intro hi;rcases Nat.lt_or_ge i sel.length with h1 | h1
   ·exact h1
   ·exact absurd (by simp [plS,List.getElem?_eq_none h1]) hi
 ·obtain ⟨r,_,hr⟩:=hpl i _ hi (by simp)
  exact h.apart b hb r cap hr
 ·obtain ⟨r,_,hr⟩:=hpl i _ hi (by simp)
  exact h.bound r b cap hr
 ·obtain ⟨r,h1,hr⟩:=hpl i _ hi (by simp)
  obtain ⟨r',h1',hr'⟩:=hpl j _ hj (by simp)
  have:=h.inj r r' b c c' hr hr'
  subst this;obtain ⟨hi',e1⟩:=List.getElem?_eq_some_iff.1 h1;obtain ⟨hj',e2⟩:=List.getElem?_eq_some_iff.1 h1';exact (List.getElem_inj hn).1 (e1.trans e2.symm)
 ·obtain ⟨r,h1,hr⟩:=hpl i _ hi (by simp)
  have:=h.dead r hr
  simp [Qbc,h1,Qc,this]
 ·obtain ⟨r,h1,hr⟩:=hpl i _ hi (by simp)
  obtain ⟨e,s,h2⟩:=h.virt r hr;exact ⟨e,s,by simp [Qbc,h1,Qc,h2,Jv,Qe]⟩
 ·obtain ⟨r,h1,hr⟩:=hpl i _ hi (by simp)
  obtain ⟨e,s,cs,cur,k1,k2,k3,k4,k5,k6⟩:=h.row r b cap hr;exact ⟨e,s,Qe (pos sel) cs,cur,by simp [Qbc,h1,Qc,k1,Jv],k2,k3,k4,by rw [Jg];exact k5,fun j=>by rw [Yo];exact hren (k6 j)⟩
 ·obtain ⟨r,_,hr⟩:=hpl i _ hi (by simp)
  exact hE.pln r b cap hr
def Qa7 (sel:List Nat) (Q:V→Qa→Prop) (v:V) (H:Qa):Prop:=sel.Nodup∧(∀ r∈sel,r<H.length)∧Q (ren (pos sel) v) (Qbc sel H)
theorem Fc.keep {C:Ctx} {f:FuncId} {args:List V} {Q:V→Qa→Prop} (h:Fc C f args [] fun v H=>∃ sel,Qa7 sel Q v H):Fc C f args [] Q:=by
 refine ⟨h.1,fun im pl w vs hl hv hH=>?_⟩
 have hno:pl=Kw:=by
  funext r
  have:=hH.len r
  cases hp:pl r with
  | no=>rfl
  | _=>rw [hp] at this;simp at this
 subst hno;refine (callsIn_wide (n:=0)).1 ((callsIn_wide.2 (h.2 im Kw w vs hl hv hH)).mono fun e w' hp=>?_)
 cases e with
 | panicked _=>exact hp
 | outgrown=>exact hp
 | returned vc =>
  obtain ⟨v,H',im',pl',⟨sel,hn,hlt,hq⟩,k2,k3,k4⟩:=hp
  have:=k3.sel k4 sel hn hlt
  exact ⟨_,_,im',_,hq,k2.ren (fun r r' e=>by simp [plS,Qky e]) (fun b hb=>hb),this.1,this.2⟩
def Qhj (ty:TypeId→Ty) (ts:List V) (H:Qa):List ResultVar→(List V→Prop)→Prop
 | [],K=>K []
 | .tmp t::rs,K=>Qhj ty ts H rs fun vs=>K (nth ts t::vs)
 | .cell a t::rs,K=>(ty t).ok=true∧Qbv (ty t) (nth ts a) H fun v=>Qhj ty ts H rs fun vs=>K (v::vs)
def one (vs:List V):V :=
 match vs with
 | [v]=>v
 | vs=>.tup vs
def Xlo (ty:TypeId→Ty) (rs:List ResultVar) (ts:List V) (H:Qa) (K:V→Qa→Prop):Prop:=Qhj ty ts H rs fun vs=>K (one vs) H
def Qmj (ty:TypeId→Ty) (rs:List ResultVar) (K:V→Qa→Prop):Exit→List V→Qa→Prop
 | .normal,ts,H=>Xlo ty rs ts H K
 | .ret,ts,H=>Xlo ty rs ts H K
 | _,_,_=>False
theorem Qtm {C:Ctx} {im:Nat→Prop} {pl:Nat→Place} {w:World} {ts:List V} {H:Qa} {tmps:Array Value} (hts:TR im pl w ts tmps) (hH:HR im pl w H):∀ (rs:List ResultVar) (K:List V→Prop),Qhj C.ty ts H rs K →
  ∃ vs cs,(rs.mapM (m:=Sem) fun | .tmp t=>pure (tmps.getD t undef) | .cell a t=>do loadVar t (← asAddr (tmps.getD a undef))).run C.P w=.ok cs w∧K vs∧vs.length=cs.length∧∀ j,VR im pl w (nth vs j) (cs.getD j undef):=by
 intro rs
 induction rs with
 | nil=>exact fun K h=>⟨[],[],by simp,h,rfl,fun j=>by simp [nth];exact .any _⟩
 | cons r rs ih =>
  intro K h;cases r with
  | tmp t =>
   obtain ⟨vs,cs,h1,h2,h3,h4⟩:=ih _ h;refine ⟨_,tmps.getD t undef::cs, ?_,h2,by simp [h3],fun j=>?_⟩
   ·simp only [List.mapM_cons,Sem.run_bind,Sem.run_pure,Result.andThen_ok,h1]
   ·cases j with
    | zero=>simpa [nth] using hts.2 t
    | succ j=>simpa [nth] using h4 j
  | cell a t =>
   obtain ⟨ht,h⟩:=h
   have hx:=hts.2 a
   have hL:=Qjl (C:=C) (K:=fun v _=>Qhj C.ty ts H rs fun vs=>K (v::vs)) ht h hx hH
   obtain ⟨v,vc,k1,k2,k3⟩:=hL;obtain ⟨vs,cs,h1,h2,h3,h4⟩:=ih _ k2;refine ⟨_,vc::cs, ?_,h2,by simp [h3],fun j=>?_⟩
   ·have hrun:(do loadVar t (← asAddr (tmps.getD a undef)):Sem Value).run C.P w=.ok vc w:=by
     cases hq:tmps.getD a undef with
     | pointer p =>
      cases p with
      | none=>rw [hq] at k1;simp [Instr.loadAt,Instr.sureAddr,Go.stuck,Sem.run] at k1
      | some ad=>rw [hq] at k1;simpa [Instr.loadAt,Instr.sureAddr,asAddr] using k1
     | _=>rw [hq] at k1;simp [Instr.loadAt,Instr.sureAddr,Go.stuck,Sem.run] at k1
    simp only [List.mapM_cons,Sem.run_bind,hrun,Result.andThen_ok,h1,Sem.run_pure]
   ·cases j with
    | zero=>simpa [nth] using k3
    | succ j=>simpa [nth] using h4 j
theorem Xl2 {im:Nat→Prop} {pl:Nat→Place} {w:World} {vs:List V} {cs:List Value} (hl:vs.length=cs.length) (hv:∀ j,VR im pl w (nth vs j) (cs.getD j undef)):VR im pl w (one vs) (if h:cs.toArray.size=1 then cs.toArray[0] else .tuple cs.toArray):=by
 match vs,cs,hl,hv with
 | [],[],hl,hv=>exact .tup [] [] hl hv
 | [v],[c],hl,hv=>simpa [one,nth] using hv 0
 | v::v'::vs,c::c'::cs,hl,hv =>
  have:¬ (c::c'::cs).toArray.size=1:=by simp
  rw [dif_neg this];exact .tup _ _ hl hv
theorem Xjy {C:Ctx} {fn:Func} {tmps:Array Value} {R:Ending→World→Prop} {w0:World} {pl:Nat→Place}:∀ (ds:List Deferred) (w:World),DefOK pl w ds→(∀ d∈ds,∃ r,d.target=.collected r∧w0.heap.size≤r) →
  (∀ w',w'.os=w.os→w'.tape=w.tape→w'.output=w.output→w'.heap.size=w.heap.size→(∀ b,b<w0.heap.size→w'.heap[b]?=w.heap[b]?)→(∀ b,(∃ q cap,pl q=.at b cap)→w'.heap[b]?=w.heap[b]?)→(∀ a v,w.cell? a=some v→w'.cell? a=some v)→(∀ (b:Nat) es c,w.heap[b]?=some (.map es c)→w'.heap[b]?=some (.map es c))→LeavesInM Fence.wide 0 C.P fn tmps R [] .returning w') →
  LeavesInM Fence.wide 0 C.P fn tmps R ds .returning w:=by
 intro ds
 induction ds with
 | nil=>exact fun w _ _ h=>h w rfl rfl rfl rfl (fun _ _=>rfl) (fun _ _=>rfl) (fun _ _ h=>h) (fun _ _ _ h=>h)
 | cons d ds ih =>
  intro w hd hb h;obtain ⟨r,hr,hblk,hlive⟩:=hd.each d (by simp)
  obtain ⟨r',hr',hge⟩:=hb d (by simp)
  rw [hr] at hr';injection hr' with hr'
  subst hr'
  have hne:∀ k,k≠r→(w.putObj r (.deferred none)).heap[k]?=w.heap[k]?:=by
   intro k hk;simp [World.putObj,Array.getElem?_setIfInBounds,Ne.symm hk]
  have hcell:∀ a v,w.cell? a=some v→(w.putObj r (.deferred none)).cell? a=some v:=by
   intro a v ha;by_cases hk:a.block=r
   ·unfold World.cell? at ha;rw [hk,hblk] at ha;cases ha
   ·exact Qed ha fun _=>hne _ hk
  refine ⟨by simp,.inl ⟨r,_,hr,run_takeDeferred hblk,ih _ ⟨(List.pairwise_cons.1 hd.nodup).2,fun d' hd'=>?_⟩ (fun d' hd'=>hb d' (by simp [hd'])) fun w' e1 e2 e3 e4 e5 e6 e7 e8=>?_⟩⟩
  ·obtain ⟨q,h1,h2,h3⟩:=hd.each d' (by simp [hd'])
   refine ⟨q,h1, ?_,h3⟩
   have:q≠r:=by
    rintro rfl;exact (List.pairwise_cons.1 hd.nodup).1 d' hd' (hr.trans h1.symm)
   rw [hne q this];exact h2
  ·refine h w' (e1.trans rfl) (e2.trans rfl) (e3.trans rfl) (e4.trans (by simp [World.putObj])) (fun b hb=>(e5 b hb).trans (hne b (by omega))) (fun b hb=>(e6 b hb).trans (hne b ?_)) (fun a v ha=>e7 a v (hcell a v ha)) (fun b es c hb=>e8 b es c (by rw [hne b (fun e=>by rw [e,hblk] at hb;cases hb)];exact hb))
   rintro rfl;obtain ⟨q,cap,hq⟩:=hb;exact hlive q cap hq
theorem Fc.body {C:Ctx} {f:FuncId} {fn:Func} {c:Code} {args:List V} {H:Qa} {K:V→Qa→Prop} (hf:C.P.funcs[f]?=some fn) (hb:fn.body=some c) (hn:(fn.name == "runtime.NumGoroutine")=false)
  (h:T C none c (Qmj C.ty fn.results.toList K) (args++List.replicate (fn.ntmps - args.length) .any) H):Fc C f args H K:=by
 refine ⟨⟨fn,hf,hn,by rw [hb];rfl⟩,fun im pl w vs hl hv hH=>(callsIn_wide (n:=0)).1 ?_⟩
 refine callsIn_of_wp_marks hf hb trivial ?_
 have hrel:Rel im pl w (args++List.replicate (fn.ntmps - args.length) .any) H { tmps:=vs.toArray++Array.replicate (fn.ntmps - vs.toArray.size) undef,defers:=[] }:=by
  refine ⟨⟨by simp [hl],fun i=>?_⟩,hH,.nil _ _⟩
  rw [Yj];split
  ·rename_i hi
   have:=hv i
   simpa [Array.getD_eq_getD_getElem?,Array.getElem?_append_left (show i<vs.toArray.size by simp;omega),List.getD] using this
  ·rename_i hi
   have:nth (List.replicate (fn.ntmps - args.length) V.any) (i - args.length)=.any:=by
    rw [Xo];simp [List.getD,List.getElem?_replicate];split<;>rfl
   rw [this];exact .any _
 refine wpIn_mono (h im pl w _ hrel) fun e a' w' hp=>?_
 have fin:∀ ts' H' im' pl',Xlo C.ty fn.results.toList ts' H' K→Rel im' pl' w' ts' H' a'→Ext im pl w im' pl' w'→Marks w [] a'.defers→LeavesInM Fence.wide 0 C.P fn a'.tmps (Xkk im pl w K) a'.defers .returning w':=by
  intro ts' H' im' pl' k1 k2 k3 k4;obtain ⟨nm,e1,k4⟩:=k4;rw [List.append_nil] at e1;subst e1;refine Xjy (w0:=w) (pl:=pl') a'.defers w' k2.df k4 fun w2 e1 e2 e3 e4 e5 e6 e7 e8=>?_
  have hE2:Ext im pl w im' pl' w2:=⟨e1.trans k3.os,e2.trans k3.tape,e3.trans k3.output,by rw [e4];exact k3.size,k3.imm,k3.imn,k3.plo,k3.pln,fun b hb hn=>(e5 b hb).trans (k3.frame b hb hn)⟩
  have hH2:HR im' pl' w2 H':=by
   refine ⟨k2.hr.len,k2.hr.apart,fun r b cap hr=>by rw [e4];exact k2.hr.bound r b cap hr,fun b hb=>by rw [e4];exact k2.hr.imb b hb,k2.hr.inj,k2.hr.dead,k2.hr.virt,fun r b cap hr=>?_⟩
   obtain ⟨e,s,cs,cur,q1,q2,q3,q4,q5,q6⟩:=k2.hr.row r b cap hr;exact ⟨e,s,cs,cur,q1,by rw [e6 b ⟨r,cap,hr⟩];exact q2,q3,q4,q5,fun j=>(q6 j).world (fun a v _ ha=>e7 a v ha) (fun b es c _ hb=>e8 b es c hb)⟩
  have hts2:TR im' pl' w2 ts' a'.tmps:=⟨k2.tr.1,fun i=>(k2.tr.2 i).world (fun a v _ ha=>e7 a v ha) (fun b es c _ hb=>e8 b es c hb)⟩
  obtain ⟨vs',cs',h1,h2,h3,h4⟩:=Qtm (C:=C) hts2 hH2 fn.results.toList _ k1;refine ⟨_, ?_,one vs',H',im',pl',h2,Xl2 h3 h4,hH2,hE2⟩;unfold results;simp only [Sem.run_bind,Array.mapM_eq_mapM_toList,Sem.run_map]
  erw [h1]
  rfl
 cases e with
 | normal=>obtain ⟨ts',H',im',pl',k1,k2,k3,k4⟩:=hp;exact fin ts' H' im' pl' k1 k2 k3 k4
 | ret=>obtain ⟨ts',H',im',pl',k1,k2,k3,k4⟩:=hp;exact fin ts' H' im' pl' k1 k2 k3 k4
 | exit id=>obtain ⟨ts',H',im',pl',k1,k2,k3,k4⟩:=hp;exact k1.elim
 | goto l=>obtain ⟨ts',H',im',pl',k1,k2,k3,k4⟩:=hp;exact k1.elim
 | panic _=>exact hp.elim
 | outgrown=>exact hp.elim
theorem Qxr {n:Int} (h0:-9223372036854775808≤n) (h1:n≤9223372036854775807):IntKind.wrap .i64 n=n:=IntWalk.i64_in n ⟨h0,h1⟩
theorem Xho (y:Ty) (cs:List V) (off:Nat):Qgt y cs off=if y.agg=true then .agg (win cs off y.size) else nth cs off:=rfl
theorem Xa7 (cs:List V) (off:Nat):win cs off 0=[]:=rfl
theorem Xa8 (cs:List V) (off n:Nat):win cs off (n+1)=nth cs off::win cs (off+1) n:=rfl
def ints (xs:List Int):List V:=xs.map (V.int .i64)
theorem Jj (xs:List Int):(ints xs).length=xs.length:=by simp [ints]
theorem Xda (xs:List Int) (i:Nat) (h:i<xs.length):nth (ints xs) i=.int .i64 (xs.getD i 0):=by
 rw [Xo];simp [ints,List.getD,List.getElem?_map,List.getElem?_eq_getElem h]
theorem Qn (g:Nat→Option Nat) (xs:List Int):Qe g (ints xs)=ints xs:=by rw [Qhk];simp [ints,ren]
theorem Qb (xs:List Int):Qf (ints xs)=true:=by rw [Qlu];simp [ints,clo]
theorem Yu (xs:List Int):Xd (ints xs)=true:=by
 induction xs with
 | nil=>rfl
 | cons a l ih=>simpa [ints,Xd,plain] using ih
theorem Qd8 (xs:List Int):(ints xs).all Yc=true:=by simp [ints,Yc]
theorem Qrv (xs ys:List Int):ints (xs++ys)=ints xs++ints ys:=by simp [ints]
section
variable (C:Ctx) (ro:Option Nat) (cw:CW) (ty:TypeId→Ty) (Q:Exit→List V→Qa→Prop) (ts ts':List V) (H H':Qa) (K:V→Qa→Prop) (KP:V→Prop) (KL:List V→Qa→Prop)
@[congr] theorem Xov {uu:Prop} (h00:(True∧True)=uu) (c:Code) (h1:ts=ts') (h2:H=H'):wp C ro cw c Q ts H=wp C ro cw c Q ts' H':=by rw [h1,h2]
@[congr] theorem Xlx {uu:Prop} (h00:(True∧True)=uu) (ops:Array Oper) (l:List Oper) (h1:ts=ts') (h2:H=H'):Qa5 ty cw ops KL l ts H=Qa5 ty cw ops KL l ts' H':=by rw [h1,h2]
@[congr] theorem Xn1 {uu:Prop} (h00:(True∧True)=uu) (op:Op) (h1:ts=ts') (h2:H=H'):opc ty cw op ts H K=opc ty cw op ts' H' K:=by rw [h1,h2]
@[congr] theorem Xk0 {uu:Prop} (h00:(True∧True)=uu) (e:Exit) (h1:ts=ts') (h2:H=H'):Qdk KL Q e ts H=Qdk KL Q e ts' H':=by rw [h1,h2]
@[congr] theorem Xjj {uu:Prop} (h00:(True∧True)=uu) (id:Nat) (e:Exit) (h1:ts=ts') (h2:H=H'):Zs id Q e ts H=Zs id Q e ts' H':=by rw [h1,h2]
@[congr] theorem Xg8 {uu:Prop} (h00:(True∧True)=uu) (e:Exit) (h1:ts=ts') (h2:H=H'):Qcg Q e ts H=Qcg Q e ts' H':=by rw [h1,h2]
@[congr] theorem Xmx {uu:Prop} (h00:(True∧True)=uu) (rs:List ResultVar) (e:Exit) (h1:ts=ts') (h2:H=H'):Qmj ty rs K e ts H=Qmj ty rs K e ts' H':=by rw [h1,h2]
@[congr] theorem Xlp {uu:Prop} (h00:(True∧True)=uu) (rs:List ResultVar) (KV:List V→Prop) (h1:ts=ts') (h2:H=H'):Qhj ty ts H rs KV=Qhj ty ts' H' rs KV:=by rw [h1,h2]
@[congr] theorem Xis {uu:Prop} (h00:(True∧True)=uu) (ops:Array Oper) (g:Option (Nat × Bool)) (Y N:List V→Prop) (h1:ts=ts'):Qbz ops g ts Y N=Qbz ops g ts' Y N:=by rw [h1]
@[congr] theorem Xiq {uu:Prop} (h00:(True∧True)=uu) (ops:Array Oper) (g:Option (Nat × Bool)) (yes no:Prop) (h1:ts=ts'):Qbg ops g ts yes no=Qbg ops g ts' yes no:=by rw [h1]
@[congr] theorem Xpz {uu:Prop} (h00:(True∧True)=uu) (f:FuncId) {args args':List V} (h1:args=args') (h2:H=H'):Fc C f args H K=Fc C f args' H' K:=by rw [h1,h2]
@[congr] theorem Xoj {uu:Prop} (h00:(True∧True)=uu) {f f':V} {args args':List V} (h0:f=f') (h1:args=args') (h2:H=H'):cwF C f args H K=cwF C f' args' H' K:=by rw [h0,h1,h2]
@[congr] theorem Xnd {uu:Prop} (h00:(True∧True)=uu) (y:Ty) (op:BinOp) {a a' b b':V} (h1:a=a') (h2:b=b') (h3:H=H'):Qc2 y op a b H KP=Qc2 y op a' b' H' KP:=by rw [h1,h2,h3]
@[congr] theorem Xnw {uu:Prop} (h00:(True∧True)=uu) (op:UnOp) {a a':V} (h1:a=a'):unw op a KP=unw op a' KP:=by rw [h1]
@[congr] theorem Xj2 {uu:Prop} (h00:(True∧True)=uu) {c c' a a' b b':V} (h0:c=c') (h1:a=a') (h2:b=b'):Qge c a b KP=Qge c' a' b' KP:=by rw [h0,h1,h2]
@[congr] theorem Xkf {uu:Prop} (h00:(True∧True)=uu) (y:Ty) {a a':V} (h1:a=a'):Qct y a KP=Qct y a' KP:=by rw [h1]
@[congr] theorem Xmq {uu:Prop} (h00:(True∧True)=uu) (i:Nat) {a a':V} (h1:a=a'):Qpa a i KP=Qpa a' i KP:=by rw [h1]
@[congr] theorem Xl3 {uu:Prop} (h00:(True∧True)=uu) {a a':V} (h1:a=a'):Qk8 a KP=Qk8 a' KP:=by rw [h1]
@[congr] theorem Xj6 {uu:Prop} (h00:(True∧True)=uu) (y:Ty) {a a':V} (h1:a=a') (h2:H=H'):Qbv y a H KP=Qbv y a' H' KP:=by rw [h1,h2]
@[congr] theorem Xg4 {uu:Prop} (h00:(True∧True)=uu) (y:Ty) {a a' v v':V} (KH:Qa→Prop) (h1:a=a') (h2:v=v') (h3:H=H'):Qbb y a v H KH=Qbb y a' v' H' KH:=by rw [h1,h2,h3]
@[congr] theorem Xnc {uu:Prop} (h00:(True∧True)=uu) (t:TypeId) {a a':V} (h1:a=a') (h2:H=H'):Xan t a H K=Xan t a' H' K:=by rw [h1,h2]
@[congr] theorem Xjh {uu:Prop} (h00:(True∧True)=uu) (t:TypeId) {a a':List (Nat × V)} (h1:a=a'):Qa3 ty t a KP=Qa3 ty t a' KP:=by rw [h1]
@[congr] theorem Xkx {uu:Prop} (h00:(True∧True)=uu) (t:TypeId) {b b':Bool} (n:Nat) {a a':List (Nat × V)} (hb:b=b') (h1:a=a') (h2:H=H'):Qqj ty t b n a H K=Qqj ty t b' n a' H' K:=by rw [hb,h1,h2]
@[congr] theorem Xl6 {uu:Prop} (h00:(True∧True)=uu) (t:TypeId) (n:Nat) {a a':List (Nat × V)} {KQ:V→Prop} (h1:a=a'):Qix ty t n a KQ=Qix ty t n a' KQ:=by rw [h1]
@[congr] theorem Xfm {uu:Prop} (h00:(True∧True)=uu) (t:TypeId) (n:Nat) {a a':List (Nat × V)} (h1:a=a') (h2:H=H'):Qbx ty t n a H K=Qbx ty t n a' H' K:=by rw [h1,h2]
@[congr] theorem Xj4 {uu:Prop} (h00:(True∧True)=uu) (t:TypeId) {a a' b b':V} (h1:a=a') (h2:b=b') (h3:H=H'):Qdd ty t a b H K=Qdd ty t a' b' H' K:=by rw [h1,h2,h3]
@[congr] theorem Xg6 {uu:Prop} (h00:(True∧True)=uu) (y:Ty) {a a':V} {lo lo' hi hi':Option V} (h1:a=a') (h2:lo=lo') (h3:hi=hi') (h4:H=H'):Xf ty y a lo hi H KP=Xf ty y a' lo' hi' H' KP:=by rw [h1,h2,h3,h4]
@[congr] theorem Xac {uu:Prop} (h00:(True∧True)=uu) (y:Ty) (f:Nat) {a a':V} (h1:a=a'):Qcq y a f KP=Qcq y a' f KP:=by rw [h1]
@[congr] theorem Xiv {uu:Prop} (h00:(True∧True)=uu) (y:Ty) (f:Nat) {a a':V} (h1:a=a'):Qbi ty y a f KP=Qbi ty y a' f KP:=by rw [h1]
@[congr] theorem Qz3 {uu:Prop} (h00:(True∧True)=uu) (y:Ty) {a a' b b':V} (h1:a=a') (h2:b=b'):Xr ty y a b KP=Xr ty y a' b' KP:=by rw [h1,h2]
@[congr] theorem Xin {uu:Prop} (h00:(True∧True)=uu) (y:Ty) {a a' b b':V} (h1:a=a') (h2:b=b'):Jx ty y a b KP=Jx ty y a' b' KP:=by rw [h1,h2]
@[congr] theorem Xfl {uu:Prop} (h00:(True∧True)=uu) (b:Builtin) (ats:List TypeId) {a a':List V} (h1:a=a') (h2:H=H'):Qm ty b ats a H K=Qm ty b ats a' H' K:=by rw [h1,h2]
@[congr] theorem Xne {uu:Prop} (h00:(True∧True)=uu) (y:Ty) (e:TypeId) {a a' b b':V} (h1:a=a') (h2:b=b') (h3:H=H'):Qaa y e a b H K=Qaa y e a' b' H' K:=by rw [h1,h2,h3]
@[congr] theorem Xl7 {uu:Prop} (h00:(True∧True)=uu) (y:Ty) {a a':V} (h1:a=a'):lenw y a KP=lenw y a' KP:=by rw [h1]
@[congr] theorem Xp9 {uu:Prop} (h00:(True∧True)=uu) (c:Code) (h1:ts=ts') (h2:H=H'):T C ro c Q ts H=T C ro c Q ts' H':=by rw [h1,h2]
@[congr] theorem Xkc {uu:Prop} (h00:(True∧True)=uu) (id:Nat) (ops:Array Oper) (h1:ts=ts') (h2:H=H'):Xe2 C ro id ops Q ts H=Xe2 C ro id ops Q ts' H':=by rw [h1,h2]
@[congr] theorem Xj9 {uu:Prop} (h00:(True∧True)=uu) {v v':V} (sel:List Nat) (h1:v=v') (h2:H=H'):Qa7 sel K v H=Qa7 sel K v' H':=by rw [h1,h2]
@[congr] theorem Xj5 {uu:Prop} (h00:(True∧True)=uu) (b:(Exit→List V→Qa→Prop)→List V→Qa→Prop) (n:Nat) (h1:ts=ts') (h2:H=H'):Qhy b Q n ts H=Qhy b Q n ts' H':=by rw [h1,h2]
theorem Xgp:wp C ro cw .skip Q ts H=Q .normal ts H:=rfl
theorem Xkp (x y:Code):wp C ro cw (.seq x y) Q ts H=wp C ro cw x (Qdk (wp C ro cw y Q) Q) ts H:=rfl
def Qe2 (v:V) (x y:Prop):Prop:=match v with
 | .bool b=>(b=true→x)∧(b=false→y)
 | _=>False
@[congr] theorem Xkh {uu:Prop} (h00:(True∧True)=uu) {v v':V} (x y:Prop) (h:v=v'):Qe2 v x y=Qe2 v' x y:=by rw [h]
theorem Xa5 (c:Operand) (x y:Code):wp C ro cw (.cond c x y) Q ts H=Qe2 (ev ts c) (wp C ro cw x Q ts H) (wp C ro cw y Q ts H):=rfl
theorem Xa6 (id:Nat) (c:Code):wp C ro cw (.block id c) Q ts H=wp C ro cw c (Zs id Q) ts H:=rfl
theorem Xgq (c:Code):wp C ro cw (.loop c) Q ts H=T C ro (.loop c) Q ts H:=rfl
theorem Qob (f:Operand) (ps:Array Tmp) (x y:Code):wp C ro cw (.rangeFunc f ps x y) Q ts H=T C ro (.rangeFunc f ps x y) Q ts H:=rfl
theorem Xgr (id:Nat):wp C ro cw (.exit id) Q ts H=Q (.exit id) ts H:=rfl
theorem Xa3 (c:Code):wp C ro cw (.scope c) Q ts H=wp C ro cw c (Qcg Q) ts H:=rfl
theorem Xa4 (l:Nat):wp C ro cw (.label l) Q ts H=Q .normal ts H:=rfl
theorem Xkq:wp C ro cw .ret Q ts H=Q .ret ts H:=rfl
theorem Qqm:Qdk KL Q .normal ts H=KL ts H:=rfl
theorem Qyb (id:Nat):Qdk KL Q (.exit id) ts H=Q (.exit id) ts H:=rfl
theorem Xbz:Qdk KL Q .ret ts H=Q .ret ts H:=rfl
theorem Qml (id:Nat):Zs id Q .normal ts H=Q .normal ts H:=rfl
theorem Qvq (id:Nat):Zs id Q .ret ts H=Q .ret ts H:=rfl
theorem Qsj (id:Nat):Zs id Q (.exit id) ts H=Q .normal ts H:=by simp [Zs]
theorem Qpx (id id':Nat) (h:(id'==id)=false):Zs id Q (.exit id') ts H=Q (.exit id') ts H:=by simp at h;simp [Zs,h]
theorem Qma:Qcg Q .normal ts H=Q .normal ts H:=rfl
theorem Qtk:Qcg Q .ret ts H=Q .ret ts H:=rfl
theorem Qqn (id:Nat):Qcg Q (.exit id) ts H=Q (.exit id) ts H:=rfl
theorem Xez (rs:List ResultVar):Qmj ty rs K .ret ts H=Qhj ty ts H rs (fun vs=>K (one vs) H):=rfl
theorem Qr5 (rs:List ResultVar):Qmj ty rs K .normal ts H=Qhj ty ts H rs (fun vs=>K (one vs) H):=rfl
theorem Xck (KV:List V→Prop):Qhj ty ts H [] KV=KV []:=rfl
theorem Xcj (KV:List V→Prop) (t:Tmp) (rs:List ResultVar):Qhj ty ts H (.tmp t::rs) KV=Qhj ty ts H rs fun vs=>KV (nth ts t::vs):=rfl
theorem Qyi (KV:List V→Prop) (a:Tmp) (t:TypeId) (rs:List ResultVar):Qhj ty ts H (.cell a t::rs) KV=((ty t).ok=true∧Qbv (ty t) (nth ts a) H fun v=>Qhj ty ts H rs fun vs=>KV (v::vs)):=rfl
theorem Xh1 (v:V):one [v]=v:=rfl
theorem Xh2:one []=.tup []:=rfl
theorem Xh0 (v u:V) (l:List V):one (v::u::l)=.tup (v::u::l):=rfl
theorem Qm5 (ops:Array Oper) (d:Option Tmp) (op:Op) (t:TypeId) (p:String) (e:Array Edge) (l:List Oper):Qa5 ty cw ops KL (⟨d,op,t,p,e,none⟩::l) ts H=opc ty cw op ts H fun v H'=>Qa5 ty cw ops KL l (Xi ts d v) H':=rfl
theorem Qt1 (ops:Array Oper) (d:Option Tmp) (op:Op) (t:TypeId) (p:String) (e:Array Edge) (j:Nat) (b:Bool) (l:List Oper):Qa5 ty cw ops KL (⟨d,op,t,p,e,some (j,b)⟩::l) ts H =
  Qbz ops (some (j,b)) ts (fun ts=>opc ty cw op ts H fun v H'=>Qa5 ty cw ops KL l (Xi ts d v) H') (fun ts=>Qa5 ty cw ops KL l (Xi ts d (.tup [])) H):=rfl
def Qbh (v:V) (d:Tmp) (want:Bool) (ts:List V) (Y N:List V→Prop):Prop:=match v with
 | .bool b=>(b=true→(match want with | true=>Y (upd ts d (.bool true)) | false=>N (upd ts d (.bool true))))∧(b=false→(match want with | true=>N (upd ts d (.bool false)) | false=>Y (upd ts d (.bool false))))
 | .tup _=>N ts
 | _=>False
@[congr] theorem Xit {uu:Prop} (h00:(True∧True)=uu) {v v':V} (d:Tmp) (want:Bool) (Y N:List V→Prop) (h:v=v') (h1:ts=ts'):Qbh v d want ts Y N=Qbh v' d want ts' Y N:=by rw [h,h1]
def Qeb:List Oper→Nat→Option Tmp
 | [],_=>none
 | o::_,0=>o.dst
 | _::l,n+1=>Qeb l n
theorem Xe0 (l:List Oper) (j:Nat):Qeb l j=(l[j]?).bind (·.dst):=by
 induction l generalizing j with
 | nil=>rfl
 | cons a l ih=>cases j<;>simp [Qeb,ih]
def Qo5 (d:Option Tmp) (ts:List V) (want:Bool) (Y N:List V→Prop):Prop:=match d with
 | some d=>Qbh (nth ts d) d want ts Y N
 | none=>False
theorem Qi0 (l:List Oper) (j:Nat) (want:Bool) (Y N:List V→Prop):Qbz l.toArray (some (j,want)) ts Y N=Qo5 (Qeb l j) ts want Y N:=by
 simp only [Qbz,Xe0,List.getElem?_toArray];cases (l[j]?).bind (·.dst)<;>rfl
@[congr] theorem Xir {uu:Prop} (h00:(True∧True)=uu) {d d':Option Tmp} (want:Bool) (Y N:List V→Prop) (h1:d=d') (h2:ts=ts'):Qo5 d ts want Y N=Qo5 d' ts' want Y N:=by rw [h1,h2]
theorem Qfl (d:Tmp) (want:Bool) (Y N:List V→Prop):Qo5 (some d) ts want Y N=Qbh (nth ts d) d want ts Y N:=rfl
theorem Quz (l:List V) (d:Tmp) (want:Bool) (Y N:List V→Prop):Qbh (.tup l) d want ts Y N=N ts:=rfl
theorem Qu6 (d:Option Tmp) (op:Op) (t:TypeId) (p:String) (e:Array Edge) (g:Option (Nat × Bool)) (l:List Oper):Qeb (⟨d,op,t,p,e,g⟩::l) 0=d:=rfl
theorem Qu7 (o:Oper) (l:List Oper) (n:Nat):Qeb (o::l) (n+1)=Qeb l n:=rfl
theorem Xc4 (x:Operand):opc ty cw (.move x) ts H K=K (ev ts x) H:=rfl
theorem Qua (x:Operand):opc ty cw (.assign x) ts H K=K (ev ts x) H:=rfl
theorem Xc3 (c a b:Operand):opc ty cw (.pick c a b) ts H K=Qge (ev ts c) (ev ts a) (ev ts b) fun v=>K v H:=rfl
theorem Qzg (o:BinOp) (t:TypeId) (x y:Operand) (t':TypeId):opc ty cw (.binOp o t x y t') ts H K=((ty t).ok=true∧Qc2 (ty t) o (ev ts x) (ev ts y) H fun v=>K v H):=rfl
theorem Xc1 (o:UnOp) (t:TypeId) (x:Operand):opc ty cw (.unOp o t x) ts H K=unw o (ev ts x) fun v=>K v H:=rfl
theorem Qq7 (s d:TypeId) (x:Operand):opc ty cw (.convert s d x) ts H K=((ty s).ok=true∧(ty d).ok=true∧Qct (ty d) (ev ts x) fun v=>K v H):=rfl
theorem Qot (fn:Go.Fn) (a b:List Operand):opc ty cw (.makeFunc fn a.toArray b.toArray) ts H K=K (.fn fn (a.map (ev ts)) (b.map (ev ts))) H:=rfl
theorem Qq6 (x:Operand) (i:Nat):opc ty cw (.extract x i) ts H K=Qpa (ev ts x) i fun v=>K v H:=rfl
theorem Qos (x:Operand):opc ty cw (.nilCheck x) ts H K=Qk8 (ev ts x) fun v=>K v H:=rfl
theorem Xc5 (t:TypeId) (x:Operand):opc ty cw (.load t x) ts H K=((ty t).ok=true∧Qbv (ty t) (ev ts x) H fun v=>K v H):=rfl
theorem Qzb (t:TypeId) (x v:Operand):opc ty cw (.store t x v) ts H K=((ty t).ok=true∧Qbb (ty t) (ev ts x) (ev ts v) H fun H'=>K .any H'):=rfl
theorem Xhz (t:TypeId) (x:Operand):opc ty cw (.box t x) ts H K=Xan t (ev ts x) H K:=rfl
theorem Qzh (t:TypeId):opc ty cw (.alloc t) ts H K=((ty t).ok=true∧K (.ptr H.length 0) (H++[some ⟨t,(Xb (ty t)).length,Xb (ty t)⟩])):=rfl
theorem Qzf (t:TypeId) (ps:List (Nat × Operand)):opc ty cw (.build t ps.toArray) ts H K=((ty t).ok=true∧Qa3 ty t (ps.map fun p=>(p.1,ev ts p.2)) fun v=>K v H):=rfl
theorem Qk6 (t:TypeId) (n:Nat) (ps:List (Nat × Operand)):opc ty cw (.buildSlice t n ps.toArray) ts H K=((ty t).ok=true∧Qqj ty t (Qeq ps) n (ps.map fun p=>(p.1,ev ts p.2)) H K):=rfl
theorem Qmf (t:TypeId) (l c:Operand):opc ty cw (.makeSlice t l c) ts H K=((ty t).ok=true∧Qdd ty t (ev ts l) (ev ts c) H K):=rfl
theorem Qzc (t:TypeId) (x:Operand) (lo hi:Option Operand):opc ty cw (.slice t x lo hi none) ts H K=((ty t).ok=true∧Xf ty (ty t) (ev ts x) (lo.map (ev ts)) (hi.map (ev ts)) H fun v=>K v H):=by simp [opc,opw]
def fao (f:Option (Nat × Nat)) (KO:Nat→Prop):Prop:=match f with
 | some (o,u)=>(ty u).ok=true∧(ty u).size≠0∧KO o
 | none=>False
@[congr] theorem Xog {uu:Prop} (h00:(True∧True)=uu) {f f':Option (Nat × Nat)} (KO:Nat→Prop) (h:f=f'):fao ty f KO=fao ty f' KO:=by rw [h]
def faw (f:Option (Nat × Nat)) (x:V) (KP:V→Prop):Prop:=match x with
 | .ptr r off=>fao ty f fun o=>KP (.ptr r (off+o))
 | .rp cs off=>fao ty f fun o=>KP (.rp cs (off+o))
 | _=>False
@[congr] theorem Xof {uu:Prop} (h00:(True∧True)=uu) {f f':Option (Nat × Nat)} {x x':V} (h:f=f') (h1:x=x'):faw ty f x KP=faw ty f' x' KP:=by rw [h,h1]
theorem Xix (f:Option (Nat × Nat)) (r off:Nat):faw ty f (.ptr r off) KP=fao ty f fun o=>KP (.ptr r (off+o)):=rfl
theorem Xmp (f:Option (Nat × Nat)) (cs:List V) (off:Nat):faw ty f (.rp cs off) KP=fao ty f fun o=>KP (.rp cs (off+o)):=rfl
theorem Qdm (t:TypeId) (x:Operand) (f:Nat):opc ty cw (.fieldAddr t x f) ts H K=((ty t).ok=true∧faw ty ((ty t).fs[f]?) (ev ts x) fun v=>K v H):=by
 simp only [opc,opw,Qcq,faw,fao]
 congr 1
 cases (ty t).fs[f]? with
 | none=>cases ev ts x<;>rfl
 | some p=>obtain ⟨o,u⟩:=p;cases ev ts x<;>simp [and_assoc]
theorem Qze (t:TypeId) (x:Operand) (f:Nat):opc ty cw (.field t x f) ts H K=((ty t).ok=true∧Qbi ty (ty t) (ev ts x) f fun v=>K v H):=rfl
def Qlk (y:Ty) (x i:V) (H:Qa) (KP:V→Prop):Prop:=(match x with | .ref r _ _=>(Qc H r).isSome=true | .ptr r _=>(Qc H r).isSome=true | _=>True)∧Xr ty y x i KP
@[congr] theorem Xml {uu:Prop} (h00:(True∧True)=uu) (y:Ty) {x x' i i':V} (h1:x=x') (h2:i=i') (h3:H=H'):Qlk ty y x i H KP=Qlk ty y x' i' H' KP:=by rw [h1,h2,h3]
theorem Qgf (t:TypeId) (x i:Operand):opc ty cw (.indexAddr t x i) ts H K=((ty t).ok=true∧Qlk ty (ty t) (ev ts x) (ev ts i) H fun v=>K v H):=rfl
def Qry (e:Option Nat) (n:Nat) (i:Int) (KO:Nat→Prop):Prop:=match e with
 | some e=>(ty e).ok=true∧0≤i∧i<n∧KO (i.toNat*(ty e).size)
 | none=>False
@[congr] theorem Xmn {uu:Prop} (h00:(True∧True)=uu) {e e':Option Nat} (n:Nat) (i:Int) (KO:Nat→Prop) (h:e=e'):Qry ty e n i KO=Qry ty e' n i KO:=by rw [h]
theorem Xip (y:Ty) (n:Nat) (cs:List V) (k:IntKind) (i:Int):Qlk ty y (.sl n cs) (.int k i) H KP=Qry ty y.sl n i fun o=>KP (.rp cs o):=by
 unfold Qlk Xr Qry;cases y.sl<;>simp
theorem Xel (y:Ty) (r off n:Nat) (k:IntKind) (i:Int):Qlk ty y (.ref r off n) (.int k i) H KP=((Qc H r).isSome=true∧Qry ty y.sl n i fun o=>KP (.ptr r (off+o))):=by
 unfold Qlk Xr Qry;cases y.sl<;>simp
theorem Qzd (t:TypeId) (x i:Operand):opc ty cw (.index t x i) ts H K=((ty t).ok=true∧Jx ty (ty t) (ev ts x) (ev ts i) fun v=>K v H):=rfl
theorem Xc6 (f:Operand) (xs:List Operand) (ats:Array TypeId):opc ty cw (.call ⟨.value f,xs.toArray,ats⟩) ts H K=cw (ev ts f) (xs.map (ev ts)) H K:=rfl
theorem Qq8 (b:Builtin) (xs:List Operand) (ats:List TypeId):opc ty cw (.call ⟨.builtin b,xs.toArray,ats.toArray⟩) ts H K=Qm ty b ats (xs.map (ev ts)) H K:=rfl
theorem Xm3 (g:FuncId) (xs ys args:List V):cwF C (.fn (.func g) xs ys) args H K=Fc C g (xs++args++ys) H K:=rfl
theorem Xmr (t:Tmp):ev ts (.tmp t)=nth ts t:=rfl
theorem Xmu (k:IntKind) (n:Int):ev ts (.const (.int k n))=.int k n:=rfl
theorem Xi3 (b:Bool):ev ts (.const (.bool b))=.bool b:=rfl
theorem Xmt:ev ts (.const (.slice none 0 0))=.nil:=rfl
theorem Xi0:ev ts (.const (.pointer none))=.nilp:=rfl
theorem Xi1:ev ts (.const .nilFunc)=.nilf:=rfl
theorem Xms (s:ByteArray):ev ts (.const (.string s))=.str s:=rfl
theorem Xmv (cs:List Value):ev ts (.const (.agg cs.toArray))=.agg (cs.map cv1):=rfl
theorem Xi2 (f:FuncId):ev ts (.func f)=.fn (.func f) [] []:=rfl
theorem Qiq (i:Nat) (v:V):Xi ts (some i) v=upd ts i v:=rfl
theorem Qir (v:V):Xi ts none v=ts:=rfl
theorem Xbb (a v:V) (l:List V):upd (a::l) 0 v=v::l:=rfl
theorem Xbc (a v:V) (l:List V) (n:Nat):upd (a::l) (n+1) v=a::upd l n v:=rfl
theorem Xc8 (a:V) (l:List V):nth (a::l) 0=a:=rfl
theorem Xc9 (a:V) (l:List V) (n:Nat):nth (a::l) (n+1)=nth l n:=rfl
theorem Xfr (y:Ty) (op:BinOp) (k k':IntKind) (a b:Int):Qc2 y op (.int k a) (.int k' b) H KP=Zv op k a k' b KP:=rfl
theorem Qmn (y:Ty) (a b:Bool):Qc2 y .eql (.bool a) (.bool b) H KP=(y.bl=true∧KP (.bool (a==b))):=rfl
theorem Qmm (y:Ty) (a b:Bool):Qc2 y .neq (.bool a) (.bool b) H KP=(y.bl=true∧KP (.bool (!(a==b)))):=rfl
theorem Qi7 (y:Ty):Qc2 y .eql .nil .nil H KP=(y.sl.isSome=true∧KP (.bool true)):=rfl
theorem Xek (k:IntKind) (a b:Int):Zv .add k a k b KP=KP (.int k (k.wrap (a+b))):=by simp [Zv]
theorem Xd8 (k:IntKind) (a b:Int):Zv .sub k a k b KP=KP (.int k (k.wrap (a - b))):=by simp [Zv]
theorem Xec (k:IntKind) (a b:Int):Zv .mul k a k b KP=KP (.int k (k.wrap (a*b))):=by simp [Zv]
theorem Xeh (k:IntKind) (a b:Int):Zv .eql k a k b KP=KP (.bool (a==b)):=by simp [Zv]
theorem Xeb (k:IntKind) (a b:Int):Zv .neq k a k b KP=KP (.bool (a != b)):=by simp [Zv]
theorem Xed (k:IntKind) (a b:Int):Zv .lss k a k b KP=KP (.bool (decide (a<b))):=by simp [Zv]
theorem Xee (k:IntKind) (a b:Int):Zv .leq k a k b KP=KP (.bool (decide (a≤b))):=by simp [Zv]
theorem Xef (k:IntKind) (a b:Int):Zv .gtr k a k b KP=KP (.bool (decide (b<a))):=by simp [Zv]
theorem Xeg (k:IntKind) (a b:Int):Zv .geq k a k b KP=KP (.bool (decide (b≤a))):=by simp [Zv]
theorem Xgy (k:IntKind) (n:Int):unw .neg (.int k n) KP=KP (.int k (k.wrap (0 - n))):=rfl
theorem Xgx (b:Bool):unw .not (.bool b) KP=KP (.bool (!b)):=rfl
theorem Xew (vs:List V) (i:Nat):Qpa (.tup vs) i KP=(i<vs.length∧KP (nth vs i)):=rfl
theorem Xh5 (f:FuncId) (xs ys:List V):Qk8 (.fn (.func f) xs ys) KP=KP (.fn (.func f) xs ys):=rfl
theorem Que (f:Nat) (xs ys:List V):Qk8 (.fn (.yield f) xs ys) KP=KP (.fn (.yield f) xs ys):=rfl
theorem Xde (r off:Nat):Qk8 (.ptr r off) KP=KP (.ptr r off):=rfl
def Qw2 (y:Ty) (row:Option Row) (off:Nat) (KP:V→Prop):Prop:=match row with
 | some row=>off+y.size≤row.cs.length∧KP (Qgt y row.cs off)
 | none=>False
@[congr] theorem Xj7 {uu:Prop} (h00:(True∧True)=uu) (y:Ty) {row row':Option Row} (off:Nat) (h:row=row'):Qw2 y row off KP=Qw2 y row' off KP:=by rw [h]
theorem Qzs (y:Ty) (r off:Nat):Qbv y (.ptr r off) H KP=Qw2 y (Qc H r) off KP:=rfl
def Qko (y:Ty) (row:Option Row) (r off:Nat) (v:V) (H:Qa) (KH:Qa→Prop):Prop:=match row with
 | some row=>off+y.size≤row.cs.length∧(cellsOf v).length=y.size∧(cellsOf v).all Yc=true∧KH (H.set r (some ⟨row.e,row.s,Ki row.cs off (cellsOf v)⟩))
 | none=>False
@[congr] theorem Xg5 {uu:Prop} (h00:(True∧True)=uu) (y:Ty) {row row':Option Row} (r off:Nat) (v:V) (KH:Qa→Prop) (h:row=row'):Qko y row r off v H KH=Qko y row' r off v H KH:=by rw [h]
theorem Qte (y:Ty) (r off:Nat) (v:V) (KH:Qa→Prop):Qbb y (.ptr r off) v H KH=Qko y (Qc H r) r off v H KH:=rfl
def Qeo (o:Option (List V)) (KV:List V→Prop):Prop:=match o with
 | some l=>KV l
 | none=>False
@[congr] theorem Xlw {uu:Prop} (h00:(True∧True)=uu) {o o':Option (List V)} (KV:List V→Prop) (h:o=o'):Qeo o KV=Qeo o' KV:=by rw [h]
def bwo (o:Option (Nat × Nat)) (t:TypeId) (ps:List (Nat × V)) (KP:V→Prop):Prop:=match o with
 | some (_,e)=>(ty e).ok=true∧Qeo (Zn (fun i=>some (i*(ty e).size,(ty e).size)) (Xb (ty t)) ps) fun out=>KP (.agg out)
 | none=>(ty t).fs≠[]∧(ty t).fs.all (fun p=>(ty p.2).ok)=true∧Qeo (Zn (fun i=>((ty t).fs[i]?).map fun p=>(p.1,(ty p.2).size)) (Xb (ty t)) ps) fun out=>KP (.agg out)
@[congr] theorem Xom {uu:Prop} (h00:(True∧True)=uu) {o o':Option (Nat × Nat)} (t:TypeId) {ps ps':List (Nat × V)} {KP:V→Prop} (h:o=o') (h1:ps=ps'):bwo ty o t ps KP=bwo ty o' t ps' KP:=by rw [h,h1]
theorem Xfk (t:TypeId) (ps:List (Nat × V)) (KP:V→Prop):bwo ty none t ps KP=((ty t).fs≠[]∧(ty t).fs.all (fun p=>(ty p.2).ok)=true∧Qeo (Zn (fun i=>((ty t).fs[i]?).map fun p=>(p.1,(ty p.2).size)) (Xb (ty t)) ps) fun out=>KP (.agg out)):=rfl
theorem Xfj (n e:Nat) (t:TypeId) (ps:List (Nat × V)) (KP:V→Prop):bwo ty (some (n,e)) t ps KP=((ty e).ok=true∧Qeo (Zn (fun i=>some (i*(ty e).size,(ty e).size)) (Xb (ty t)) ps) fun out=>KP (.agg out)):=rfl
theorem Qnw (t:TypeId) (ps:List (Nat × V)):Qa3 ty t ps KP=bwo ty (ty t).arr t ps KP:=by
 unfold Qa3 Xfn Qpu bwo Qeo;cases (ty t).arr<;>rfl
def bso (e:Option Nat) (len:Nat) (ps:List (Nat × V)) (H:Qa) (K:V→Qa→Prop):Prop:=match e with
 | some e=>(ty e).ok=true∧len*(ty e).size≤16777216∧0<(ty e).size∧Qeo (Zn (fun i=>some (i*(ty e).size,(ty e).size)) (List.replicate (len*(ty e).size) .any) ps) fun out=>K (.ref H.length 0 len) (H++[some ⟨e,(ty e).size,out⟩])
 | none=>False
@[congr] theorem Xon {uu:Prop} (h00:(True∧True)=uu) {e e':Option Nat} (len:Nat) {ps ps':List (Nat × V)} (h:e=e') (h1:ps=ps') (h2:H=H'):bso ty e len ps H K=bso ty e' len ps' H' K:=by rw [h,h1,h2]
theorem Xfo (e len:Nat) (ps:List (Nat × V)):bso ty (some e) len ps H K=((ty e).ok=true∧len*(ty e).size≤16777216∧0<(ty e).size∧Qeo (Zn (fun i=>some (i*(ty e).size,(ty e).size)) (List.replicate (len*(ty e).size) .any) ps) fun out=>K (.ref H.length 0 len) (H++[some ⟨e,(ty e).size,out⟩])):=rfl
def lto (e:Option Nat) (len:Nat) (ps:List (Nat × V)) (KQ:V→Prop):Prop:=match e with
 | some e=>(ty e).ok=true∧len*(ty e).size≤16777216∧0<(ty e).size∧Qeo (Zn (fun i=>some (i*(ty e).size,(ty e).size)) (List.replicate (len*(ty e).size) .any) ps) fun out=>KQ (.sl len out)
 | none=>False
@[congr] theorem Xn8 {uu:Prop} (h00:(True∧True)=uu) {e e':Option Nat} (len:Nat) {ps ps':List (Nat × V)} {KQ:V→Prop} (h:e=e') (h1:ps=ps'):lto ty e len ps KQ=lto ty e' len ps' KQ:=by rw [h,h1]
theorem Xdo (e len:Nat) (ps:List (Nat × V)) (KQ:V→Prop):lto ty (some e) len ps KQ=((ty e).ok=true∧len*(ty e).size≤16777216∧0<(ty e).size∧Qeo (Zn (fun i=>some (i*(ty e).size,(ty e).size)) (List.replicate (len*(ty e).size) .any) ps) fun out=>KQ (.sl len out)):=rfl
theorem Xid (t:TypeId) (len:Nat) (ps:List (Nat × V)) (KQ:V→Prop):Qix ty t len ps KQ=lto ty (ty t).sl len ps KQ:=by
 unfold Qix lto Qeo
 rfl
theorem Qkp (t:TypeId) (len:Nat) (ps:List (Nat × V)):Qqj ty t true len ps H K=Qix ty t len ps fun v=>K v H:=rfl
theorem Qol (t:TypeId) (len:Nat) (ps:List (Nat × V)):Qqj ty t false len ps H K=Qbx ty t len ps H K:=rfl
theorem Xdw:Qeq []=false:=rfl
theorem Xdv (a:Nat × Operand):Qeq [a]=false:=rfl
theorem Xdu (a b:Nat × Operand) (r:List (Nat × Operand)):Qeq (a::b::r)=Qro (a::b::r):=rfl
theorem Xdt:Qro []=true:=rfl
theorem Quk (i:Nat) (c:Value) (r:List (Nat × Operand)):Qro ((i,.const c)::r)=Qro r:=rfl
theorem Xds (i t:Nat) (r:List (Nat × Operand)):Qro ((i,.tmp t)::r)=false:=rfl
theorem Qzu (i t:Nat) (r:List (Nat × Operand)):Qro ((i,.func t)::r)=false:=rfl
theorem Qdg (t:TypeId) (len:Nat) (ps:List (Nat × V)):Qbx ty t len ps H K=bso ty (ty t).sl len ps H K:=by
 unfold Qbx bso Qeo
 rfl
theorem Qxv (place:Nat→Option (Nat × Nat)) (cs:List V):Zn place cs []=some cs:=rfl
def Xba (o:Option (Nat × Nat)) (place:Nat→Option (Nat × Nat)) (cs:List V) (v:V) (rest:List (Nat × V)):Option (List V):=match o with
 | none=>none
 | some (off,size)=>if kn v=true∧(cellsOf v).length=size∧off+(cellsOf v).length≤cs.length then Zn place (Ki cs off (cellsOf v)) rest else none
theorem Qs8 (place:Nat→Option (Nat × Nat)) (cs:List V) (i:Nat) (v:V) (rest:List (Nat × V)):Zn place cs ((i,v)::rest)=Xba (place i) place cs v rest:=rfl
theorem Xmc (k:IntKind) (n:Int):kn (.int k n)=true:=rfl
theorem Xih (b:Bool):kn (.bool b)=true:=rfl
theorem Xl8 (b:ByteArray):kn (.str b)=true:=rfl
theorem Xmb:kn .nil=true:=rfl
theorem Xpb (n:Nat) (cs:List V):kn (.sl n cs)=true:=rfl
theorem Xl9 (r o n:Nat):kn (.ref r o n)=true:=rfl
theorem Xmd (cs:List V):kn (.agg cs)=true:=rfl
theorem Xma (r o:Nat):kn (.ptr r o)=true:=rfl
theorem Xpc (cs:List V) (o:Nat):kn (.rp cs o)=true:=rfl
theorem Xif:kn .nilp=true:=rfl
theorem Xpe (f:Go.Fn) (xs ys:List V):kn (.fn f xs ys)=true:=rfl
theorem Xig:kn .nilf=true:=rfl
theorem Qsh (k:IntKind) (n:Int):cellsOf (.int k n)=[.int k n]:=rfl
theorem Qpn (b:Bool):cellsOf (.bool b)=[.bool b]:=rfl
theorem Qsd (b:ByteArray):cellsOf (.str b)=[.str b]:=rfl
theorem Qsg:cellsOf .nil=[.nil]:=rfl
theorem Qvh (n:Nat) (cs:List V):cellsOf (.sl n cs)=[.sl n cs]:=rfl
theorem Qse (r o n:Nat):cellsOf (.ref r o n)=[.ref r o n]:=rfl
theorem Qsi (cs:List V):cellsOf (.agg cs)=cs:=rfl
theorem Qsf (r o:Nat):cellsOf (.ptr r o)=[.ptr r o]:=rfl
theorem Qvi (cs:List V) (o:Nat):cellsOf (.rp cs o)=[.rp cs o]:=rfl
theorem Qpl:cellsOf .nilp=[.nilp]:=rfl
theorem Qvk (f:Go.Fn) (xs ys:List V):cellsOf (.fn f xs ys)=[.fn f xs ys]:=rfl
theorem Qpm:cellsOf .nilf=[.nilf]:=rfl
theorem Xcm (cs:List V) (o:Nat):Ki cs o []=cs:=rfl
theorem Qyr (cs:List V) (o:Nat) (v:V) (vs:List V):Ki cs o (v::vs)=Ki (upd cs o v) (o+1) vs:=rfl
theorem Qjy (x:Option Row) (H:Qa):Qc (x::H) 0=x:=by simp [Qc]
theorem Qjz (x:Option Row) (H:Qa) (n:Nat):Qc (x::H) (n+1)=Qc H n:=by simp [Qc]
theorem Xie (y:Ty) (n:Nat) (cs:List V):lenw y (.sl n cs) KP=(y.sl.isSome=true∧KP (.int .i64 n)):=rfl
theorem Xdy (y:Ty) (r off n:Nat):lenw y (.ref r off n) KP=(y.sl.isSome=true∧KP (.int .i64 n)):=rfl
theorem Xdz (y:Ty):lenw y .nil KP=(y.sl.isSome=true∧KP (.int .i64 0)):=rfl
theorem Qpq (t:TypeId) (x:V):Qm ty .len [t] [x] H K=((ty t).ok=true∧lenw (ty t) x fun v=>K v H):=rfl
theorem Qpp (ats:List TypeId) (k k':IntKind) (a b:Int):Qm ty .max ats [.int k a,.int k' b] H K=K (.int k (if b>a then b else a)) H:=rfl
theorem Qpo (ats:List TypeId) (k k':IntKind) (a b:Int):Qm ty .min ats [.int k a,.int k' b] H K=K (.int k (if b<a then b else a)) H:=rfl
def Xfv (e:Option TypeId) (ty:TypeId→Ty) (s x:V) (H:Qa) (K:V→Qa→Prop):Prop:=match e with
 | some e=>(ty e).ok=true∧Qaa (ty e) e s x H K
 | none=>False
@[congr] theorem Xnf {uu:Prop} (h00:(True∧True)=uu) {e e':Option TypeId} {s s' x x':V} (h0:e=e') (h1:s=s') (h2:x=x') (h3:H=H'):Xfv e ty s x H K=Xfv e' ty s' x' H' K:=by rw [h0,h1,h2,h3]
theorem Xfw (t:TypeId):aok ty t t=true:=by simp [aok]
theorem Qj0 (t:TypeId) (s x:V):Qm ty .append [t,t] [s,x] H K=((ty t).ok=true∧Xfv (ty t).sl ty s x H K):=by simp only [Qm,Xfw,true_and];rfl
theorem Qi2 (t t':TypeId) (s x:V):Qm ty .append [t,t'] [s,x] H K=((t'==t||((ty t').ok&&(ty t').sl.isSome))=true∧(ty t).ok=true∧Xfv (ty t).sl ty s x H K):=rfl
theorem Xav (e:TypeId) (s x:V):Xfv (some e) ty s x H K=((ty e).ok=true∧Qaa (ty e) e s x H K):=rfl
end
end Go.Bv
end
