/-
  Parts Bv10, Bv11, Bv12, Bv13, Bv14, Bv15, one behind the other: a program logic of our own, contracts of functions.
-/
import Derived.Test.YtlomgfdepllanaaM1
import Derived.IntWalk
import Derived.OrdersIn
section
/-
  PART 10: regions and code.
-/
set_option linter.unusedVariables false
set_option linter.unusedSimpArgs false
namespace Go.Bv
open Go.RowKit

abbrev FW (ro : Option Nat) : Fence := { fn := fun _ => True, depth := none, alive := false, round := ro }
theorem fw_room (ro : Option Nat) (n : Nat) : (FW ro).room n := fun _ h => by cases h

/-- The marks of ranges over functions that have been walked. -/
structure DefOK (pl : Nat → Place) (w : World) (ds : List Deferred) : Prop where
  nodup : ds.Pairwise (fun d d' => d.target ≠ d'.target)
  each : ∀ d ∈ ds, ∃ r, d.target = .collected r ∧ w.heap[r]? = some (.deferred (some [])) ∧ ∀ q cap, pl q ≠ .at r cap
theorem DefOK.nil (pl : Nat → Place) (w : World) : DefOK pl w [] := ⟨.nil, fun d hd => by cases hd⟩
theorem DefOK.mono {im im' : Nat → Prop} {pl pl' : Nat → Place} {w w' : World} {ds : List Deferred} (h : DefOK pl w ds) (hE : Ext im pl w im' pl' w') : DefOK pl' w' ds := by
  refine ⟨h.nodup, fun d hd => ?_⟩
  obtain ⟨r, h1, h2, h3⟩ := h.each d hd
  have hlt : r < w.heap.size := (Array.getElem?_eq_some_iff.1 h2).1
  refine ⟨r, h1, by rw [hE.frame r hlt h3]; exact h2, fun q cap hq => ?_⟩
  rcases hE.pln q r cap hq with ⟨r', cap', h4⟩ | h4
  · exact h3 r' cap' h4
  · omega

/-- What stands between the steps of one activation. -/
structure Rel (im : Nat → Prop) (pl : Nat → Place) (w : World) (ts : List V) (H : Heap) (a : Act) : Prop where
  tr : TR im pl w ts a.tmps
  hr : HR im pl w H
  df : DefOK pl w a.defers

theorem TR.mono {im im' : Nat → Prop} {pl pl' : Nat → Place} {w w' : World} {ts : List V} {tmps : Array Value} (h : TR im pl w ts tmps) (hE : Ext im pl w im' pl' w') (hd : Apart im pl) : TR im' pl' w' ts tmps :=
  ⟨h.1, fun i => (h.2 i).mono hE hd⟩

def putd (ts : List V) (d : Option Tmp) (v : V) : List V :=
  match d with
  | some i => upd ts i v
  | none => ts

theorem TR.put {im : Nat → Prop} {pl : Nat → Place} {w : World} {ts : List V} {a : Act} {v : V} {vc : Value} (h : TR im pl w ts a.tmps) (hv : VR im pl w v vc) (d : Option Tmp) : TR im pl w (putd ts d v) (a.put d vc).tmps := by
  cases d with
  | none => exact h
  | some i =>
    refine ⟨by simp [putd, Act.put, upd_length, h.1], fun j => ?_⟩
    simp only [putd, Act.put]
    rw [nth_upd]
    by_cases hj : j = i ∧ i < ts.length
    · obtain ⟨rfl, hlt⟩ := hj
      rw [if_pos ⟨rfl, hlt⟩]
      have : j < a.tmps.size := by rw [← h.1]; exact hlt
      simpa [Array.getD_eq_getD_getElem?, Array.getElem?_setIfInBounds, this] using hv
    · rw [if_neg hj]
      have h2 := h.2 j
      by_cases hji : j = i
      · subst hji
        have hlt : ¬ j < ts.length := fun h => hj ⟨rfl, h⟩
        rw [nth_ge _ _ (by omega)]; exact .any _
      · simpa [Array.getD_eq_getD_getElem?, Array.getElem?_setIfInBounds, Ne.symm hji] using h2

theorem put_defers (a : Act) (d : Option Tmp) (v : Value) : (a.put d v).defers = a.defers := by cases d <;> rfl
theorem Rel.put {im im' : Nat → Prop} {pl pl' : Nat → Place} {w w' : World} {ts : List V} {H H' : Heap} {a : Act} {v : V} {vc : Value} (h : Rel im pl w ts H a) (hE : Ext im pl w im' pl' w') (hH : HR im' pl' w' H') (hv : VR im' pl' w' v vc) (d : Option Tmp) :
    Rel im' pl' w' (putd ts d v) H' (a.put d vc) :=
  ⟨(h.tr.mono hE h.hr.apart).put hv d, hH, by rw [put_defers]; exact h.df.mono hE⟩

/-- Marks that have come since. -/
def Marks (w : World) (ds ds' : List Deferred) : Prop := ∃ nm, ds' = nm ++ ds ∧ ∀ d ∈ nm, ∃ r, d.target = .collected r ∧ w.heap.size ≤ r
theorem Marks.refl (w : World) (ds : List Deferred) : Marks w ds ds := ⟨[], rfl, fun d hd => by cases hd⟩
theorem Marks.trans {w w1 : World} {ds ds1 ds2 : List Deferred} (h : Marks w ds ds1) (hs : w.heap.size ≤ w1.heap.size) (k : Marks w1 ds1 ds2) : Marks w ds ds2 := by
  obtain ⟨n1, rfl, h1⟩ := h
  obtain ⟨n2, rfl, h2⟩ := k
  refine ⟨n2 ++ n1, by simp, fun d hd => ?_⟩
  rcases List.mem_append.1 hd with h3 | h3
  · obtain ⟨r, h4, h5⟩ := h2 d h3; exact ⟨r, h4, by omega⟩
  · exact h1 d h3

/-- What a statement is to come to: how it is left, the temporaries, the rows. -/
def Post (im : Nat → Prop) (pl : Nat → Place) (w : World) (ds : List Deferred) (Q : Exit → List V → Heap → Prop) : Exit → Act → World → Prop
  | .panic _, _, _ => False
  | .outgrown, _, _ => False
  | e, a', w' => ∃ ts' H' im' pl', Q e ts' H' ∧ Rel im' pl' w' ts' H' a' ∧ Ext im pl w im' pl' w' ∧ Marks w ds a'.defers

theorem Post.mono {im : Nat → Prop} {pl : Nat → Place} {w : World} {ds : List Deferred} {Q Q' : Exit → List V → Heap → Prop} {e : Exit} {a : Act} {w' : World} (h : Post im pl w ds Q e a w') (hq : ∀ e ts H, Q e ts H → Q' e ts H) : Post im pl w ds Q' e a w' := by
  cases e with
  | panic _ => exact h
  | outgrown => exact h
  | _ => obtain ⟨ts, H, im', pl', h1, h2⟩ := h; exact ⟨ts, H, im', pl', hq _ _ _ h1, h2⟩
theorem Post.from {im im1 : Nat → Prop} {pl pl1 : Nat → Place} {w w1 : World} {ds ds1 : List Deferred} {Q : Exit → List V → Heap → Prop} {e : Exit} {a : Act} {w' : World} (hE : Ext im pl w im1 pl1 w1) (hM : Marks w ds ds1) (h : Post im1 pl1 w1 ds1 Q e a w') : Post im pl w ds Q e a w' := by
  cases e with
  | panic _ => exact h
  | outgrown => exact h
  | _ => obtain ⟨ts, H, im', pl', h1, h2, h3, h4⟩ := h; exact ⟨ts, H, im', pl', h1, h2, hE.trans h3, hM.trans hE.size h4⟩

/-- **A statement, walked.** -/
def T (C : Ctx) (ro : Option Nat) (c : Code) (Q : Exit → List V → Heap → Prop) (ts : List V) (H : Heap) : Prop :=
  ∀ im pl w a, Rel im pl w ts H a → c.wpIn (FW ro) 0 C.P (Post im pl w a.defers Q) a w

theorem T.mono {C : Ctx} {ro : Option Nat} {c : Code} {Q Q' : Exit → List V → Heap → Prop} {ts : List V} {H : Heap} (h : T C ro c Q ts H) (hq : ∀ e ts H, Q e ts H → Q' e ts H) : T C ro c Q' ts H :=
  fun im pl w a hr => wpIn_mono (h im pl w a hr) fun e a w hp => hp.mono hq

/-! ### Calls -/
def CPost (im : Nat → Prop) (pl : Nat → Place) (w : World) (K : V → Heap → Prop) : Ending → World → Prop
  | .returned vc, w' => ∃ v H' im' pl', K v H' ∧ VR im' pl' w' v vc ∧ HR im' pl' w' H' ∧ Ext im pl w im' pl' w'
  | _, _ => False
def HasBody (P : Program) (f : FuncId) : Prop := ∃ fn, P.funcs[f]? = some fn ∧ (fn.name == "runtime.NumGoroutine") = false ∧ fn.body.isNone = false
/-- **A function's contract**: called with values that stand for these, the rows being there. -/
def Fc (C : Ctx) (f : FuncId) (args : List V) (H : Heap) (K : V → Heap → Prop) : Prop :=
  HasBody C.P f ∧ ∀ im pl w (vs : List Value), args.length = vs.length → (∀ j, VR im pl w (nth args j) (vs.getD j undef)) → HR im pl w H → Calls C.P f vs.toArray w (CPost im pl w K)
theorem Fc.mono {C : Ctx} {f : FuncId} {args : List V} {H : Heap} {K K' : V → Heap → Prop} (h : Fc C f args H K) (hK : ∀ v H, K v H → K' v H) : Fc C f args H K' := by
  refine ⟨h.1, fun im pl w vs h1 h2 h3 => (callsIn_wide (n := 0)).1 ((callsIn_wide.2 (h.2 im pl w vs h1 h2 h3)).mono fun e w' hp => ?_)⟩
  cases e with
  | returned v => obtain ⟨v, H', im', pl', k1, k2⟩ := hp; exact ⟨v, H', im', pl', hK _ _ k1, k2⟩
  | panicked _ => exact hp
  | outgrown => exact hp

/-- What a call of a value comes to. -/
abbrev CW := V → List V → Heap → (V → Heap → Prop) → Prop
def cwF (C : Ctx) : CW := fun fv args H K =>
  match fv with
  | .fn (.func g) first caps => Fc C g (first ++ args ++ caps) H K
  | _ => False

/-- An operation: of itself, or a call. -/
def opc (ty : TypeId → Ty) (cw : CW) (op : Op) (ts : List V) (H : Heap) (K : V → Heap → Prop) : Prop :=
  match op with
  | .call c => match c.callee with
    | .value f => cw (ev ts f) (c.args.toList.map (ev ts)) H K
    | .builtin b => builtinw ty b c.argTypes.toList (c.args.toList.map (ev ts)) H K
    | _ => False
  | op => opw ty op ts H K

/-- The calls of a value are as said, in a frame of that kind. -/
def CWSound (C : Ctx) (ro : Option Nat) (cw : CW) : Prop :=
  ∀ (o : Oper) (c : Call) (f : Operand), o.op = .call c → c.callee = .value f → ∀ im pl w (a : Act) (fv : V) (args : List V) (H : Heap) (K : V → Heap → Prop) (next : Act → World → Prop) (Q : Exit → Act → World → Prop),
    cw fv args H K → VR im pl w fv (a.eval f) → args.length = c.args.size → (∀ j, VR im pl w (nth args j) ((c.args.map a.eval).toList.getD j undef)) → HR im pl w H →
    (∀ v vc H' im' pl' w', K v H' → VR im' pl' w' v vc → HR im' pl' w' H' → Ext im pl w im' pl' w' → next (a.put o.dst vc) w') → o.wpIn (FW ro) 0 C.P a w next Q

theorem cwF_sound (C : Ctx) (ro : Option Nat) : CWSound C ro (cwF C) := by
  intro o c f ho hc im pl w a fv args H K next Q h hf hl hv hH hK
  refine ⟨fun _ _ => trivial, ?_⟩
  rw [Oper.semAt_eq ro a.eval o (fun c' => by rw [ho]; simp)]
  cases fv with
  | fn g first caps =>
    cases g with
    | func g =>
      obtain ⟨⟨fn, h1, h2, h3⟩, hcall⟩ := h
      cases hfe : a.eval f with
      | func g' us vs =>
        rw [hfe] at hf
        generalize hus : us = us' at hf
        generalize hvs : vs = vs' at hf
        cases hf with
        | fn _ _ _ us vs hl1 hr1 hl2 hr2 =>
          have hrun : (execOp a.eval o).run C.P w = .ok (.enter g (us ++ (c.args.map a.eval).toList ++ vs).toArray) w := by
            simp only [execOp, ho, resolve, hc, Sem.run_bind, Sem.run_pure, Result.andThen_ok, hfe, Deferred.ofValue, hus, hvs, invoke, callFunc]
            have h2' : ¬ fn.name = "runtime.NumGoroutine" := by simpa using h2
            have h3' : ¬ fn.body = none := by intro e; rw [e] at h3; cases h3
            simp [Go.program, Sem.run, h1, h2', h3']
          rw [hrun, Oper.uponIn_enter]
          refine ⟨(fun h => by cases h), ?_⟩
          have hc2 := hcall im pl w (us ++ (c.args.map a.eval).toList ++ vs) (by simp [hl1, hl2, hl]) (fun j => ?_) hH
          · refine CallsIn.mono (F := FW ro) (show CallsIn Fence.wide _ C.P g _ w _ from callsIn_wide.2 hc2) fun e w' hp => ?_
            cases e with
            | returned vc => obtain ⟨v, H', im', pl', k1, k2, k3, k4⟩ := hp; exact hK v vc H' im' pl' w' k1 k2 k3 k4
            | panicked _ => exact hp.elim
            | outgrown => exact hp.elim
          · rw [nth_append, nth_append]
            simp only [List.getD, List.getElem?_append, List.length_append]
            have e1 : first.length = us.length := hl1
            have e2 : args.length = (c.args.map a.eval).toList.length := by simp [hl]
            rw [e1, e2]
            split
            · split
              · have := hr1 j; simpa [List.getD] using this
              · have := hv (j - us.length); simpa [List.getD] using this
            · have := hr2 (j - (us.length + (c.args.map a.eval).toList.length)); simpa [List.getD, Nat.add_comm, Nat.sub_sub] using this
      | _ => rw [hfe] at hf; cases hf
    | _ => exact h.elim
  | _ => exact h.elim

/-! ### Regions -/
def guardw (ops : Array Oper) (g : Option (Nat × Bool)) (ts : List V) (yes no : Prop) : Prop :=
  match g with
  | none => yes
  | some (j, want) => match (ops[j]?).bind (·.dst) with
    | some d => match nth ts d with
      | .bool b => (b = want → yes) ∧ (b ≠ want → no)
      | .tup _ => no
      | _ => False
    | none => False
/-- A guard parts the ways, and each way knows which one it is. -/
def guardn (ops : Array Oper) (g : Option (Nat × Bool)) (ts : List V) (Y N : List V → Prop) : Prop :=
  match g with
  | none => Y ts
  | some (j, want) => match (ops[j]?).bind (·.dst) with
    | some d => match nth ts d with
      | .bool b => (b = true → (match want with | true => Y (upd ts d (.bool true)) | false => N (upd ts d (.bool true)))) ∧ (b = false → (match want with | true => N (upd ts d (.bool false)) | false => Y (upd ts d (.bool false))))
      | .tup _ => N ts
      | _ => False
    | none => False
theorem upd_self {l : List V} {i : Nat} {v : V} (h : nth l i = v) (hv : v ≠ .any) : upd l i v = l := by
  induction l generalizing i with
  | nil => rfl
  | cons a l ih =>
    cases i with
    | zero => simp only [nth] at h; subst h; rfl
    | succ i => simp only [nth] at h; simp only [upd]; rw [ih h]
theorem guardn_old {ops : Array Oper} {g : Option (Nat × Bool)} {ts : List V} {Y N : List V → Prop} (h : guardn ops g ts Y N) : guardw ops g ts (Y ts) (N ts) := by
  revert h
  unfold guardn guardw
  split
  · exact id
  · rename_i j want
    split
    · split
      · rename_i b hb
        have e : ∀ c, b = c → upd ts _ (.bool c) = ts := fun c hc => upd_self (by rw [hb, hc]) (by simp)
        intro h
        cases b with
        | true =>
          have h := h.1 rfl
          rw [e true rfl] at h
          cases want with
          | true => exact ⟨fun _ => h, fun h' => (h' rfl).elim⟩
          | false => exact ⟨fun h' => (by cases h'), fun _ => h⟩
        | false =>
          have h := h.2 rfl
          rw [e false rfl] at h
          cases want with
          | true => exact ⟨fun h' => (by cases h'), fun _ => h⟩
          | false => exact ⟨fun _ => h, fun h' => (h' rfl).elim⟩
      · exact id
      · exact id
    · exact id
def opsl (ty : TypeId → Ty) (cw : CW) (ops : Array Oper) (K : List V → Heap → Prop) : List Oper → List V → Heap → Prop
  | [], ts, H => K ts H
  | o :: rest, ts, H => guardn ops o.guard ts (fun ts => opc ty cw o.op ts H fun v H' => opsl ty cw ops K rest (putd ts o.dst v) H') (fun ts => opsl ty cw ops K rest (putd ts o.dst (.tup [])) H)

theorem opc_sound {C : Ctx} {ro : Option Nat} {cw : CW} (hcw : CWSound C ro cw) {im : Nat → Prop} {pl : Nat → Place} {w : World} {H : Heap} {ts : List V} {a : Act} {o : Oper} {K : V → Heap → Prop} {next : Act → World → Prop} {Q : Exit → Act → World → Prop}
    (h : opc C.ty cw o.op ts H K) (hts : TR im pl w ts a.tmps) (hH : HR im pl w H) (hK : ∀ v vc H' im' pl' w', K v H' → VR im' pl' w' v vc → HR im' pl' w' H' → Ext im pl w im' pl' w' → next (a.put o.dst vc) w') :
    o.wpIn (FW ro) 0 C.P a w next Q := by
  have fromw : opw C.ty o.op ts H K → o.wpIn (FW ro) 0 C.P a w next Q := by
    intro h
    obtain ⟨hd, v, vc, im', pl', w', H', hrun, k1, k2, k3, k4⟩ := opw_sound h hts hH
    refine ⟨fun _ _ => trivial, ?_⟩
    rw [Oper.semAt_eq ro a.eval o hd]
    rcases hrun with hrun | ⟨hrun, rfl⟩
    · rw [hrun]; exact hK v vc H' im' pl' w' k1 k2 k3 k4
    · rw [hrun]; exact hK .any undef H' im' pl' w' k1 (.any _) k3 k4
  cases ho : o.op with
  | call c =>
    rw [ho] at h
    simp only [opc] at h
    cases hc : c.callee with
    | value f =>
      rw [hc] at h
      have h1 := list_VR hts c.args
      exact hcw o c f ho hc im pl w a _ _ H K next Q h (ev_VR hts f) (by simp) h1.2 hH hK
    | builtin b =>
      rw [hc] at h
      exact fromw (by rw [ho]; simp only [opw, hc]; exact h)
    | invoke _ _ => rw [hc] at h; exact h.elim
  | _ => rw [ho] at h; exact fromw (by rw [ho]; exact h)

theorem guard_sound {ops : Array Oper} {o : Oper} {ts : List V} {im : Nat → Prop} {pl : Nat → Place} {w : World} {a : Act} {yes no : Prop} (h : guardw ops o.guard ts yes no) (hts : TR im pl w ts a.tmps) :
    (Region.wanted o (yielded ops a.tmps) = true ∧ yes) ∨ (Region.wanted o (yielded ops a.tmps) = false ∧ no) := by
  cases hg : o.guard with
  | none => rw [hg] at h; exact .inl ⟨by simp [Region.wanted, hg], h⟩
  | some g =>
    obtain ⟨j, want⟩ := g
    rw [hg] at h
    simp only [guardw] at h
    cases hd : (ops[j]?).bind (·.dst) with
    | none => rw [hd] at h; exact h.elim
    | some d =>
      rw [hd] at h
      simp only at h
      split at h
      · rename_i b hb
        have hv := hts.2 d
        rw [hb] at hv
        have hy : yielded ops a.tmps j = some b := by
          unfold yielded
          rw [hd]
          simp only [Option.bind_some]
          cases hq : a.tmps[d]? with
          | none =>
            rw [Array.getD_eq_getD_getElem?, hq] at hv
            simp only [Option.getD_none, undef] at hv
            generalize hu : (Value.tuple #[]) = u at hv
            cases hv
            cases hu
          | some x =>
            rw [Array.getD_eq_getD_getElem?, hq] at hv
            simp only [Option.getD_some] at hv
            cases hv
            rfl
        by_cases hbw : b = want
        · exact .inl ⟨by simp [Region.wanted, hg, hy, hbw], h.1 hbw⟩
        · exact .inr ⟨by simp [Region.wanted, hg, hy, hbw], h.2 hbw⟩
      · rename_i vs hb
        have hv := hts.2 d
        rw [hb] at hv
        have hy : yielded ops a.tmps j = none := by
          unfold yielded
          rw [hd]
          simp only [Option.bind_some]
          cases hq : a.tmps[d]? with
          | none => rfl
          | some x =>
            rw [Array.getD_eq_getD_getElem?, hq] at hv
            simp only [Option.getD_some] at hv
            cases hv
            rfl
        exact .inr ⟨by simp [Region.wanted, hg, hy], h⟩
      · exact h.elim

theorem opsl_sound {C : Ctx} {ro : Option Nat} {cw : CW} (hcw : CWSound C ro cw) {ops : Array Oper} {K : List V → Heap → Prop} {R : Exit → Act → World → Prop} {im0 : Nat → Prop} {pl0 : Nat → Place} {w0 : World}
    {ds0 : List Deferred} (hK : ∀ im pl w a ts H, K ts H → Rel im pl w ts H a → Ext im0 pl0 w0 im pl w → a.defers = ds0 → R .normal a w) : ∀ (l : List Oper) (k : Nat) (ts : List V) (H : Heap) (im : Nat → Prop) (pl : Nat → Place) (w : World) (a : Act),
    ops.toList.drop k = l → opsl C.ty cw ops K l ts H → Rel im pl w ts H a → Ext im0 pl0 w0 im pl w → a.defers = ds0 → wpOpsIn (FW ro) 0 C.P ops R (List.range' k l.length) a w := by
  intro l
  induction l with
  | nil => intro k ts H im pl w a hl h hr hE hd; exact hK im pl w a ts H h hr hE hd
  | cons o l ih =>
    intro k ts H im pl w a hl h hr hE hd
    have ho : ops[k]? = some o := by
      have : (ops.toList.drop k)[0]? = some o := by rw [hl]; rfl
      simpa [List.getElem?_drop] using this
    have hl' : ops.toList.drop (k + 1) = l := by
      have : (ops.toList.drop k).tail = l := by rw [hl]; rfl
      simpa [List.tail_drop] using this
    simp only [List.length_cons, List.range'_succ, wpOpsIn, ho]
    simp only [opsl] at h
    rcases guard_sound (guardn_old h) hr.tr with ⟨hw, h⟩ | ⟨hw, h⟩
    · rw [if_pos hw]
      exact opc_sound hcw h hr.tr hr.hr fun v vc H' im' pl' w' k1 k2 k3 k4 => ih (k + 1) _ H' im' pl' w' _ hl' k1 (hr.put k4 k3 k2 _) (hE.trans k4) (by rw [put_defers]; exact hd)
    · rw [if_neg (by simp [hw])]
      exact ⟨fun _ _ => trivial, ih (k + 1) _ H im pl w _ hl' h (hr.put (.refl _ _ _) hr.hr (.tup [] [] rfl fun j => by simp [nth, List.getD]; exact .any _) _) hE (by rw [put_defers]; exact hd)⟩

theorem T_region {C : Ctx} {ro : Option Nat} {cw : CW} (hcw : CWSound C ro cw) {id : Nat} {ops : Array Oper} {Q : Exit → List V → Heap → Prop} {ts : List V} {H : Heap} (h : opsl C.ty cw ops (Q .normal) ops.toList ts H) : T C ro (.region id ops false) Q ts H := by
  intro im pl w a hr
  refine wpIn_region ?_
  rw [List.range_eq_range']
  have := opsl_sound (C := C) (ro := ro) hcw (ops := ops) (K := Q .normal) (R := Post im pl w a.defers Q) (im0 := im) (pl0 := pl) (w0 := w) (ds0 := a.defers) (fun im' pl' w' a' ts' H' k1 k2 k3 k4 => ⟨ts', H', im', pl', k1, k2, k3, by rw [k4]; exact .refl _ _⟩) ops.toList 0 ts H im pl w a (by simp) h hr (.refl _ _ _) rfl
  simpa using this

end Go.Bv
end

section
/-
  PART 11: code; a function's contract from its body; calls with a few rows, or none.
-/
set_option linter.unusedVariables false
set_option linter.unusedSimpArgs false
namespace Go.Bv
open Go.RowKit

def seqQ (k : List V → Heap → Prop) (Q : Exit → List V → Heap → Prop) : Exit → List V → Heap → Prop
  | .normal, ts, H => k ts H
  | e, ts, H => Q e ts H
def blockQ (id : Nat) (Q : Exit → List V → Heap → Prop) : Exit → List V → Heap → Prop
  | .exit id', ts, H => if id' = id then Q .normal ts H else Q (.exit id') ts H
  | e, ts, H => Q e ts H
def scopeQ (Q : Exit → List V → Heap → Prop) : Exit → List V → Heap → Prop
  | .goto _, _, _ => False
  | e, ts, H => Q e ts H

theorem T_seq {C : Ctx} {ro : Option Nat} {x y : Code} {Q : Exit → List V → Heap → Prop} {ts : List V} {H : Heap} (h : T C ro x (seqQ (T C ro y Q) Q) ts H) : T C ro (.seq x y) Q ts H := by
  intro im pl w a hr
  refine wpIn_seq (wpIn_mono (h im pl w a hr) fun e a' w' hp => ?_)
  cases e with
  | normal =>
    obtain ⟨ts', H', im', pl', k1, k2, k3, k4⟩ := hp
    exact wpIn_mono (k1 im' pl' w' a' k2) fun e a w hp => hp.from k3 k4
  | _ => exact hp

theorem T_cond {C : Ctx} {ro : Option Nat} {c : Operand} {x y : Code} {Q : Exit → List V → Heap → Prop} {ts : List V} {H : Heap} {b : Bool} (hc : ev ts c = .bool b) (ht : b = true → T C ro x Q ts H) (hf : b = false → T C ro y Q ts H) : T C ro (.cond c x y) Q ts H := by
  intro im pl w a hr
  have hv := ev_VR hr.tr c
  rw [hc] at hv
  cases hq : a.eval c with
  | bool b' =>
    rw [hq] at hv
    cases hv
    exact wpIn_cond_split hq (fun e => ht e im pl w a hr) (fun e => hf e im pl w a hr)
  | _ => rw [hq] at hv; cases hv

theorem T_block {C : Ctx} {ro : Option Nat} {id : Nat} {c : Code} {Q : Exit → List V → Heap → Prop} {ts : List V} {H : Heap} (h : T C ro c (blockQ id Q) ts H) : T C ro (.block id c) Q ts H := by
  intro im pl w a hr
  refine wpIn_block (wpIn_mono (h im pl w a hr) fun e a' w' hp => ?_)
  cases e with
  | exit id' =>
    obtain ⟨ts', H', im', pl', k1, k2, k3⟩ := hp
    simp only [blockQ] at k1
    simp only [Exit.inBlock]
    split
    · rename_i he; rw [if_pos he] at k1; exact ⟨ts', H', im', pl', k1, k2, k3⟩
    · rename_i he; rw [if_neg he] at k1; exact ⟨ts', H', im', pl', k1, k2, k3⟩
  | _ => exact hp

theorem T_scope {C : Ctx} {ro : Option Nat} {c : Code} {Q : Exit → List V → Heap → Prop} {ts : List V} {H : Heap} (h : T C ro c (scopeQ Q) ts H) : T C ro (.scope c) Q ts H := by
  intro im pl w a hr b k cs hro hb hroom
  have hs : ∀ (k : List Item) (a : Act) (w : World), step C.P (lone (b.atR a (.code (.scope c) :: k)) cs w) = .next (lone (b.atR a (.code c :: .inScope c :: k)) cs w) :=
    fun k a w => step_lone_go (by simp [stepG, stepG.exec, Frame.atR])
  have hs' : ∀ (k : List Item) (a : Act) (w : World), step C.P (lone (b.atR a (.inScope c :: k)) cs w) = .next (lone (b.atR a k) cs w) :=
    fun k a w => step_lone_go (by simp [stepG, stepG.exec, Frame.atR])
  have h0 : (lone (b.atR a (.code (.scope c) :: k)) cs w).fenced C.P (FW ro) := fenced_calm hb hroom rfl
  obtain ⟨e, a₁, w₁, hq, harr⟩ := h im pl w a hr b (.inScope c :: k) cs hro hb hroom
  have hx : ∀ id, exitTo id (.inScope c :: k) = exitTo id k := fun id => by simp [exitTo]
  cases e with
  | normal => exact ⟨.normal, a₁, w₁, hq, .head h0 (hs _ _ _) (StepsIn.trans harr (.one (fenced_calm hb hroom rfl) (hs' _ _ _)))⟩
  | exit id =>
    exact ⟨.exit id, a₁, w₁, hq, fun k' hk => .head h0 (hs _ _ _) (harr.1 k' (by rw [hx]; exact hk)),
      fun hr' hk => let ⟨k₁, h1, h2⟩ := harr.2 hr' (by rw [hx]; exact hk); ⟨k₁, h1, .head h0 (hs _ _ _) h2⟩⟩
  | goto l => obtain ⟨ts', H', im', pl', k1, _⟩ := hq; exact k1.elim
  | ret => exact ⟨.ret, a₁, w₁, hq, ArrivesIn.of_steps (e := .ret) (.one h0 (hs _ _ _)) harr⟩
  | panic ch => exact hq.elim
  | outgrown => exact hq.elim

def loopN (body : (Exit → List V → Heap → Prop) → List V → Heap → Prop) (Q : Exit → List V → Heap → Prop) : Nat → List V → Heap → Prop
  | 0, _, _ => False
  | n + 1, ts, H => body (seqQ (loopN body Q n) Q) ts H

theorem T_loop {C : Ctx} {ro : Option Nat} {c : Code} {Q : Exit → List V → Heap → Prop} {ts : List V} {H : Heap} (n : Nat) (h : loopN (T C ro c) Q n ts H) : T C ro (.loop c) Q ts H := by
  intro im pl w a hr b k cs hro hb hroom
  have key : ∀ n ts H im pl w a, loopN (T C ro c) Q n ts H → Rel im pl w ts H a →
      ∃ e a' w', Post im pl w a.defers Q e a' w' ∧ ArrivesIn (Machine.fenced C.P (FW ro)) C.P (lone (b.atR a (.code c :: .inLoop c :: k)) cs w) b k cs e a' w' := by
    intro n
    induction n with
    | zero => intro ts H im pl w a h; exact h.elim
    | succ n ih =>
      intro ts H im pl w a h hr
      obtain ⟨e, a₁, w₁, hq, harr⟩ := h im pl w a hr b (.inLoop c :: k) cs hro hb hroom
      cases e with
      | normal =>
        obtain ⟨ts', H', im', pl', k1, k2, k3, k4⟩ := hq
        obtain ⟨e₂, a₂, w₂, hq₂, harr₂⟩ := ih ts' H' im' pl' w₁ a₁ k1 k2
        exact ⟨e₂, a₂, w₂, hq₂.from k3 k4, .of_steps (StepsIn.trans harr (.one (fenced_calm hb hroom rfl) stepR_inLoop)) harr₂⟩
      | exit id => exact ⟨.exit id, a₁, w₁, hq, .pass (x := .inLoop c) rfl (fun _ _ => .inl (by simp)) harr⟩
      | goto l => exact ⟨.goto l, a₁, w₁, hq, .pass (x := .inLoop c) rfl (fun _ _ => .inl (by simp)) harr⟩
      | ret => exact ⟨.ret, a₁, w₁, hq, .pass (x := .inLoop c) rfl (fun _ _ => .inl (by simp)) harr⟩
      | panic ch => exact hq.elim
      | outgrown => exact hq.elim
  obtain ⟨e, a', w', hq, harr⟩ := key n ts H im pl w a h hr
  exact ⟨e, a', w', hq, .of_steps (.one (fenced_calm hb hroom rfl) stepR_loop) harr⟩

/-- What a region that draws its order is: told by PART 12. -/
def drawT (C : Ctx) (ro : Option Nat) (id : Nat) (ops : Array Oper) (Q : Exit → List V → Heap → Prop) (ts : List V) (H : Heap) : Prop := T C ro (.region id ops true) Q ts H

def wp (C : Ctx) (ro : Option Nat) (cw : CW) : Code → (Exit → List V → Heap → Prop) → List V → Heap → Prop
  | .skip, Q, ts, H => Q .normal ts H
  | .region id ops draw, Q, ts, H => match draw with
    | false => opsl C.ty cw ops (Q .normal) ops.toList ts H
    | true => drawT C ro id ops Q ts H
  | .seq x y, Q, ts, H => wp C ro cw x (seqQ (wp C ro cw y Q) Q) ts H
  | .cond c x y, Q, ts, H => match ev ts c with
    | .bool b => (b = true → wp C ro cw x Q ts H) ∧ (b = false → wp C ro cw y Q ts H)
    | _ => False
  | .block id c, Q, ts, H => wp C ro cw c (blockQ id Q) ts H
  | .loop c, Q, ts, H => T C ro (.loop c) Q ts H
  | .rangeFunc f ps assign body, Q, ts, H => T C ro (.rangeFunc f ps assign body) Q ts H
  | .exit id, Q, ts, H => Q (.exit id) ts H
  | .scope c, Q, ts, H => wp C ro cw c (scopeQ Q) ts H
  | .label _, Q, ts, H => Q .normal ts H
  | .goto l, Q, ts, H => Q (.goto l) ts H
  | .ret, Q, ts, H => Q .ret ts H
  | .refuse _, _, _, _ => False

theorem Post.now {im : Nat → Prop} {pl : Nat → Place} {w : World} {Q : Exit → List V → Heap → Prop} {ts : List V} {H : Heap} {a : Act} (hr : Rel im pl w ts H a) {e : Exit} (h : Q e ts H) (hp : ∀ c, e ≠ .panic c) (ho : e ≠ .outgrown) : Post im pl w a.defers Q e a w := by
  cases e with
  | panic c => exact absurd rfl (hp c)
  | outgrown => exact absurd rfl ho
  | _ => exact ⟨ts, H, im, pl, h, hr, .refl _ _ _, .refl _ _⟩

/-- **A loop**: what holds at each round's head, under a number that goes down. -/
theorem T_loop_inv {C : Ctx} {ro : Option Nat} {c : Code} {Q : Exit → List V → Heap → Prop} (I : Nat → List V → Heap → Prop) (step : ∀ n ts H, I n ts H → T C ro c (seqQ (fun ts' H' => ∃ m, m < n ∧ I m ts' H') Q) ts H) {n : Nat} {ts : List V} {H : Heap} (h : I n ts H) : T C ro (.loop c) Q ts H := by
  have key : ∀ k n ts H, n < k → I n ts H → loopN (T C ro c) Q k ts H := by
    intro k
    induction k with
    | zero => intro n ts H hn; omega
    | succ k ih =>
      intro n ts H hn h
      refine (step n ts H h).mono fun e ts' H' hq => ?_
      cases e with
      | normal => obtain ⟨m, hm, hI⟩ := hq; exact ih m ts' H' (by omega) hI
      | _ => exact hq
  exact T_loop (n + 1) (key (n + 1) n ts H (by omega) h)

theorem wp_sound {C : Ctx} {ro : Option Nat} {cw : CW} (hcw : CWSound C ro cw) : ∀ (c : Code) (Q : Exit → List V → Heap → Prop) (ts : List V) (H : Heap), wp C ro cw c Q ts H → T C ro c Q ts H := by
  intro c
  induction c with
  | skip => exact fun Q ts H h im pl w a hr => wpIn_skip (Post.now hr h (by simp) (by simp))
  | region id ops draw =>
    intro Q ts H h
    cases draw with
    | false => exact T_region hcw h
    | true => exact h
  | seq x y ihx ihy =>
    intro Q ts H h
    exact T_seq ((ihx _ _ _ h).mono fun e ts H hq => by
      cases e with
      | normal => exact ihy _ _ _ hq
      | _ => exact hq)
  | cond c x y ihx ihy =>
    intro Q ts H h
    simp only [wp] at h
    split at h
    · rename_i b hb
      exact T_cond hb (fun e => ihx _ _ _ (h.1 e)) (fun e => ihy _ _ _ (h.2 e))
    · exact h.elim
  | block id c ih => exact fun Q ts H h => T_block (ih _ _ _ h)
  | loop c _ => exact fun Q ts H h => h
  | rangeFunc f ps assign body _ _ => exact fun Q ts H h => h
  | exit id => exact fun Q ts H h im pl w a hr => wpIn_exit (Post.now hr h (by simp) (by simp))
  | scope c ih => exact fun Q ts H h => T_scope (ih _ _ _ h)
  | label l => exact fun Q ts H h im pl w a hr => wpIn_label (Post.now hr h (by simp) (by simp))
  | goto l => exact fun Q ts H h im pl w a hr => wpIn_goto (Post.now hr h (by simp) (by simp))
  | ret => exact fun Q ts H h im pl w a hr => wpIn_ret (Post.now hr h (by simp) (by simp))
  | refuse why => exact fun Q ts H h => h.elim

end Go.Bv
end

section
/-
  PART 12: rows under other numbers; a call that is handed values alone.
-/
set_option linter.unusedVariables false
set_option linter.unusedSimpArgs false
namespace Go.Bv
open Go.RowKit

mutual
/-- A value, its rows under other numbers (none: forgotten). -/
def ren (g : Nat → Option Nat) : V → V
  | .any => .any
  | .int k n => .int k n
  | .bool b => .bool b
  | .str s => .str s
  | .nil => .nil
  | .sl n cs => .sl n (renL g cs)
  | .ref r off n => match g r with
    | some r' => .ref r' off n
    | none => .any
  | .agg cs => .agg (renL g cs)
  | .tup vs => .tup (renL g vs)
  | .ptr r off => match g r with
    | some r' => .ptr r' off
    | none => .any
  | .nilp => .nilp
  | .rp cs off => .rp (renL g cs) off
  | .fn f xs ys => .fn f (renL g xs) (renL g ys)
  | .nilf => .nilf
def renL (g : Nat → Option Nat) : List V → List V
  | [] => []
  | v :: l => ren g v :: renL g l
end
theorem renL_map (g : Nat → Option Nat) (l : List V) : renL g l = l.map (ren g) := by
  induction l with
  | nil => rfl
  | cons a l ih => simp [renL, ih]
theorem renL_length (g : Nat → Option Nat) (l : List V) : (renL g l).length = l.length := by rw [renL_map]; simp
theorem nth_renL (g : Nat → Option Nat) (l : List V) (j : Nat) : nth (renL g l) j = ren g (nth l j) := by
  induction l generalizing j with
  | nil => simp [renL, nth, ren]
  | cons a l ih => cases j <;> simp [renL, nth, ih]

theorem VR.ren {im im' : Nat → Prop} {pl pl' : Nat → Place} {w : World} {g : Nat → Option Nat} (hg : ∀ r r', g r = some r' → pl' r' = pl r) (hi : ∀ b, im b → im' b) {v : V} {c : Value} (h : VR im pl w v c) : VR im' pl' w (ren g v) c := by
  induction h with
  | any v => exact .any v
  | int k n => exact .int k n
  | bool b => exact .bool b
  | str s => exact .str s
  | nil => exact .nil
  | sl0 cs a c => exact .sl0 _ a c
  | sl n cs ad c vs hn hib hc hr ih => exact .sl n _ ad c vs hn (hi _ hib) (fun j hj => hc j (by rwa [renL_length] at hj)) (fun j => by rw [nth_renL]; exact ih j)
  | refAt r off n b cap c hp hc h0 =>
    simp only [Bv.ren]
    cases hq : g r with
    | none => exact .any _
    | some r' => exact .refAt r' off n b cap c (by rw [hg r r' hq]; exact hp) hc h0
  | refVirt r hp =>
    simp only [Bv.ren]
    cases hq : g r with
    | none => exact .any _
    | some r' => exact .refVirt r' (by rw [hg r r' hq]; exact hp)
  | refDead r off n a c hp =>
    simp only [Bv.ren]
    cases hq : g r with
    | none => exact .any _
    | some r' => exact .refDead r' off n a c (by rw [hg r r' hq]; exact hp)
  | agg cs vs hl hr ih => exact .agg _ vs (by rw [renL_length]; exact hl) (fun j => by rw [nth_renL]; exact ih j)
  | tup cs vs hl hr ih => exact .tup _ vs (by rw [renL_length]; exact hl) (fun j => by rw [nth_renL]; exact ih j)
  | ptrAt r off b cap hp =>
    simp only [Bv.ren]
    cases hq : g r with
    | none => exact .any _
    | some r' => exact .ptrAt r' off b cap (by rw [hg r r' hq]; exact hp)
  | ptrDead r off a hp =>
    simp only [Bv.ren]
    cases hq : g r with
    | none => exact .any _
    | some r' => exact .ptrDead r' off a (by rw [hg r r' hq]; exact hp)
  | nilp => exact .nilp
  | rp cs off ad vs hib hc hr ih => exact .rp _ off ad vs (hi _ hib) (fun j hj => hc j (by rwa [renL_length] at hj)) (fun j => by rw [nth_renL]; exact ih j)
  | fn f xs ys us vs hl hr hl' hr' ih ih' => exact .fn f _ _ us vs (by rw [renL_length]; exact hl) (fun j => by rw [nth_renL]; exact ih j) (by rw [renL_length]; exact hl') (fun j => by rw [nth_renL]; exact ih' j)
  | nilf => exact .nilf

mutual
theorem ren_some : ∀ v : V, ren some v = v
  | .any => rfl
  | .int _ _ => rfl
  | .bool _ => rfl
  | .str _ => rfl
  | .nil => rfl
  | .sl n cs => by simp only [ren, renL_some cs]
  | .ref _ _ _ => rfl
  | .agg cs => by simp only [ren, renL_some cs]
  | .tup vs => by simp only [ren, renL_some vs]
  | .ptr _ _ => rfl
  | .nilp => rfl
  | .rp cs off => by simp only [ren, renL_some cs]
  | .fn f xs ys => by simp only [ren, renL_some xs, renL_some ys]
  | .nilf => rfl
theorem renL_some : ∀ l : List V, renL some l = l
  | [] => rfl
  | v :: l => by simp only [renL, ren_some v, renL_some l]
end
def renRow (g : Nat → Option Nat) (row : Row) : Row := ⟨row.e, row.s, renL g row.cs⟩
def renH (g : Nat → Option Nat) (H : Heap) : Heap := H.map (Option.map (renRow g))

/-- Memory that is only read, in another world. -/
theorem VR.world {im : Nat → Prop} {pl : Nat → Place} {w w' : World} (hw : ∀ (a : Addr) v, im a.block → w.cell? a = some v → w'.cell? a = some v) {v : V} {c : Value} (h : VR im pl w v c) : VR im pl w' v c := by
  induction h with
  | any v => exact .any v
  | int k n => exact .int k n
  | bool b => exact .bool b
  | str s => exact .str s
  | nil => exact .nil
  | sl0 cs a c => exact .sl0 _ a c
  | sl n cs ad c vs hn hib hc hr ih => exact .sl n _ ad c vs hn hib (fun j hj => hw _ _ (by rw [add_block]; exact hib) (hc j hj)) ih
  | refAt r off n b cap c hp hc h0 => exact .refAt r off n b cap c hp hc h0
  | refVirt r hp => exact .refVirt r hp
  | refDead r off n a c hp => exact .refDead r off n a c hp
  | agg cs vs hl hr ih => exact .agg _ vs hl ih
  | tup cs vs hl hr ih => exact .tup _ vs hl ih
  | ptrAt r off b cap hp => exact .ptrAt r off b cap hp
  | ptrDead r off a hp => exact .ptrDead r off a hp
  | nilp => exact .nilp
  | rp cs off ad vs hib hc hr ih => exact .rp _ off ad vs hib (fun j hj => hw _ _ (by rw [add_block]; exact hib) (hc j hj)) ih
  | fn f xs ys us vs hl hr hl' hr' ih ih' => exact .fn f _ _ us vs hl ih hl' ih'
  | nilf => exact .nilf

/-! ### Values without rows -/
mutual
def clo : V → Bool
  | .ref _ _ _ | .ptr _ _ => false
  | .sl _ cs | .agg cs | .tup cs | .rp cs _ => cloL cs
  | .fn _ xs ys => cloL xs && cloL ys
  | _ => true
def cloL : List V → Bool
  | [] => true
  | v :: l => clo v && cloL l
end
theorem cloL_all (l : List V) : cloL l = l.all clo := by
  induction l with
  | nil => rfl
  | cons a l ih => simp [cloL, ih]
theorem clo_nth {l : List V} (h : cloL l = true) (j : Nat) : clo (nth l j) = true := by
  induction l generalizing j with
  | nil => simp [nth, clo]
  | cons a l ih =>
    simp only [cloL, Bool.and_eq_true] at h
    cases j with
    | zero => exact h.1
    | succ j => exact ih h.2 j
theorem VR.clo {im : Nat → Prop} {pl pl' : Nat → Place} {w : World} {v : V} {c : Value} (h : VR im pl w v c) (hc : clo v = true) : VR im pl' w v c := by
  induction h with
  | any v => exact .any v
  | int k n => exact .int k n
  | bool b => exact .bool b
  | str s => exact .str s
  | nil => exact .nil
  | sl0 cs a c => exact .sl0 _ a c
  | sl n cs ad c vs hn hib hcc hr ih => exact .sl n _ ad c vs hn hib hcc (fun j => ih j (clo_nth hc j))
  | refAt r off n b cap c hp => cases hc
  | refVirt r hp => cases hc
  | refDead r off n a c hp => cases hc
  | agg cs vs hl hr ih => exact .agg _ vs hl (fun j => ih j (clo_nth hc j))
  | tup cs vs hl hr ih => exact .tup _ vs hl (fun j => ih j (clo_nth hc j))
  | ptrAt r off b cap hp => cases hc
  | ptrDead r off a hp => cases hc
  | nilp => exact .nilp
  | rp cs off ad vs hib hcc hr ih => exact .rp _ off ad vs hib hcc (fun j => ih j (clo_nth hc j))
  | fn f xs ys us vs hl hr hl' hr' ih ih' =>
    simp only [Bv.clo, Bool.and_eq_true] at hc
    exact .fn f _ _ us vs hl (fun j => ih j (clo_nth hc.1 j)) hl' (fun j => ih' j (clo_nth hc.2 j))
  | nilf => exact .nilf

/-- A value of the rows' is handed on by value, for the time of a call. -/
inductive Bor (H : Heap) : V → V → Prop
  | clo (v : V) (h : clo v = true) : Bor H v v
  | ref (r off n : Nat) (row : Row) (cs : List V) (hr : rowOf H r = some row) (hl : off + cs.length ≤ row.cs.length) (hb : ∀ j, j < cs.length → Bor H (nth row.cs (off + j)) (nth cs j)) : Bor H (.ref r off n) (.sl n cs)
  | nil (cs : List V) : Bor H .nil (.sl 0 cs)
  | ptr (r off : Nat) (row : Row) (cs : List V) (hr : rowOf H r = some row) (hl : cs.length ≤ row.cs.length) (hb : ∀ j, j < cs.length → Bor H (nth row.cs j) (nth cs j)) : Bor H (.ptr r off) (.rp cs off)
  | agg (cs cs' : List V) (hl : cs.length = cs'.length) (hb : ∀ j, Bor H (nth cs j) (nth cs' j)) : Bor H (.agg cs) (.agg cs')
  | fn (f : Go.Fn) (xs ys xs' ys' : List V) (hl : xs.length = xs'.length) (hb : ∀ j, Bor H (nth xs j) (nth xs' j)) (hl' : ys.length = ys'.length) (hb' : ∀ j, Bor H (nth ys j) (nth ys' j)) : Bor H (.fn f xs ys) (.fn f xs' ys')

def NoPl : Nat → Place := fun _ => .no
def Live (im : Nat → Prop) (pl : Nat → Place) : Nat → Prop := fun b => im b ∨ ∃ r cap, pl r = .at b cap
theorem Bor.VR {im : Nat → Prop} {pl : Nat → Place} {w : World} {H : Heap} (hH : HR im pl w H) {a a' : V} (h : Bor H a a') : ∀ {c : Value}, Bv.VR im pl w a c → Bv.VR (Live im pl) NoPl w a' c := by
  induction h with
  | clo v hc =>
    intro c hv
    have := hv.ren (g := some) (im' := Live im pl) (pl' := pl) (fun r r' e => by injection e with e; rw [e]) (fun b hb => .inl hb)
    refine VR.clo (pl := pl) ?_ hc
    have e : Bv.ren some v = v := ren_some v
    rwa [e] at this
  | ref r off n row cs hr hl hb ih =>
    intro c hv
    have hrow := rowOf_some hr
    cases hv with
    | refDead _ _ _ a c hp => have := hH.dead r hp; rw [hrow] at this; cases this
    | refVirt _ hp => exact .sl0 _ _ _
    | refAt _ _ _ b cap c hp hc h0 =>
      obtain ⟨e, s, cs0, cur, h1, h2, h3, h4, h5, h6⟩ := hH.row r b cap hp
      rw [hrow] at h1
      injection h1 with h1
      injection h1 with h1
      subst h1
      refine .sl n cs _ c (fun j => cur.getD (off + j) undef) hc (.inr ⟨r, cap, hp⟩) (fun j hj => ?_) (fun j => ?_)
      · rw [plain_add]
        have hlt : off + j < cur.size := by
          have : cs0.length ≤ cur.size := h5
          have hl' : off + cs.length ≤ cs0.length := hl
          omega
        exact cell_of_cells h2 hlt
      · by_cases hj : j < cs.length
        · exact ih j hj (h6 _)
        · rw [nth_ge _ _ (by omega)]; exact .any _
  | nil cs =>
    intro c hv
    cases hv with
    | nil => exact .sl0 _ _ _
  | ptr r off row cs hr hl hb ih =>
    intro c hv
    have hrow := rowOf_some hr
    cases hv with
    | ptrDead _ _ a hp => have := hH.dead r hp; rw [hrow] at this; cases this
    | ptrAt _ _ b cap hp =>
      obtain ⟨e, s, cs0, cur, h1, h2, h3, h4, h5, h6⟩ := hH.row r b cap hp
      rw [hrow] at h1
      injection h1 with h1
      injection h1 with h1
      subst h1
      have hv := VR.rp (im := Live im pl) (pl := NoPl) (w := w) cs off ⟨b, 0, none⟩ (fun j => cur.getD j undef) (.inr ⟨r, cap, hp⟩) (fun j hj => by
        rw [plain_add, Nat.zero_add]
        have : cs0.length ≤ cur.size := h5
        have hl' : cs.length ≤ cs0.length := hl
        exact cell_of_cells h2 (by omega)) (fun j => by
        by_cases hj : j < cs.length
        · exact ih j hj (h6 _)
        · rw [nth_ge _ _ (by omega)]; exact .any _)
      rwa [plain_add, Nat.zero_add] at hv
  | agg cs cs' hl hb ih =>
    intro c hv
    cases hv with
    | agg _ vs hl2 hr => exact .agg _ vs (by omega) (fun j => ih j (hr j))
  | fn f xs ys xs' ys' hl hb hl' hb' ih ih' =>
    intro c hv
    cases hv with
    | fn _ _ _ us vs h1 h2 h3 h4 => exact .fn f _ _ us vs (by omega) (fun j => ih j (h2 j)) (by omega) (fun j => ih' j (h4 j))

end Go.Bv
end

section
/-
  PART 13: calls that are handed values alone; what a function leaves that nobody needs; a contract from a body.
-/
set_option linter.unusedVariables false
set_option linter.unusedSimpArgs false
namespace Go.Bv
open Go.RowKit

mutual
/-- Nothing in it leads into memory that is only read. -/
def plain : V → Bool
  | .sl n _ => n == 0
  | .rp _ _ => false
  | .agg cs | .tup cs => plainL cs
  | .fn _ xs ys => plainL xs && plainL ys
  | _ => true
def plainL : List V → Bool
  | [] => true
  | v :: l => plain v && plainL l
end
theorem plain_nth {l : List V} (h : plainL l = true) (j : Nat) : plain (nth l j) = true := by
  induction l generalizing j with
  | nil => simp [nth, plain]
  | cons a l ih =>
    simp only [plainL, Bool.and_eq_true] at h
    cases j with
    | zero => exact h.1
    | succ j => exact ih h.2 j
theorem VR.plain {im im' : Nat → Prop} {pl : Nat → Place} {w : World} {v : V} {c : Value} (h : VR im pl w v c) (hc : plain v = true) : VR im' pl w v c := by
  induction h with
  | any v => exact .any v
  | int k n => exact .int k n
  | bool b => exact .bool b
  | str s => exact .str s
  | nil => exact .nil
  | sl0 cs a c => exact .sl0 _ a c
  | sl n cs ad c vs hn hib hcc hr ih =>
    have : n = 0 := by simpa [Bv.plain] using hc
    subst this
    exact .sl0 _ _ _
  | refAt r off n b cap c hp hcc h0 => exact .refAt r off n b cap c hp hcc h0
  | refVirt r hp => exact .refVirt r hp
  | refDead r off n a c hp => exact .refDead r off n a c hp
  | agg cs vs hl hr ih => exact .agg _ vs hl (fun j => ih j (plain_nth hc j))
  | tup cs vs hl hr ih => exact .tup _ vs hl (fun j => ih j (plain_nth hc j))
  | ptrAt r off b cap hp => exact .ptrAt r off b cap hp
  | ptrDead r off a hp => exact .ptrDead r off a hp
  | nilp => exact .nilp
  | rp cs off ad vs hib hcc hr ih => cases hc
  | fn f xs ys us vs hl hr hl' hr' ih ih' =>
    simp only [Bv.plain, Bool.and_eq_true] at hc
    exact .fn f _ _ us vs hl (fun j => ih j (plain_nth hc.1 j)) hl' (fun j => ih' j (plain_nth hc.2 j))
  | nilf => exact .nilf

def shift (n : Nat) : Nat → Option Nat := fun r => some (r + n)
def plG (n : Nat) (pl pl' : Nat → Place) : Nat → Place := fun r => if r < n then pl r else pl' (r - n)
theorem plG_lt {n : Nat} {pl pl' : Nat → Place} {r : Nat} (h : r < n) : plG n pl pl' r = pl r := if_pos h
theorem plG_ge {n : Nat} {pl pl' : Nat → Place} (r : Nat) : plG n pl pl' (r + n) = pl' r := by unfold plG; rw [if_neg (by omega)]; congr 1; omega

theorem HR.glue {im im' : Nat → Prop} {pl pl' : Nat → Place} {w w' : World} {H H' : Heap} (h : HR im pl w H) (hS : HR im' pl' w' H') (h1 : ∀ b, im b → im' b) (h3 : ∀ b, im' b → im b ∨ w.heap.size ≤ b)
    (os : w'.os = w.os) (tape : w'.tape = w.tape) (output : w'.output = w.output) (size : w.heap.size ≤ w'.heap.size) (pln : ∀ r b cap, pl' r = .at b cap → w.heap.size ≤ b) (frame : ∀ b, b < w.heap.size → w'.heap[b]? = w.heap[b]?) :
    HR im' (plG H.length pl pl') w' (H ++ renH (shift H.length) H') ∧ Ext im pl w im' (plG H.length pl pl') w' := by
  have hpl : ∀ r b cap, plG H.length pl pl' r = .at b cap → (r < H.length ∧ pl r = .at b cap) ∨ (H.length ≤ r ∧ pl' (r - H.length) = .at b cap) := by
    intro r b cap hr
    unfold plG at hr
    split at hr
    · exact .inl ⟨‹_›, hr⟩
    · exact .inr ⟨by omega, hr⟩
  have hE : Ext im pl w im' (plG H.length pl pl') w' := by
    refine ⟨os, tape, output, size, h1, fun b hb => (h3 b hb).imp id .inl, fun r hr => .inl (plG_lt ((h.len r).2 hr)), fun r b cap hr => ?_, fun b hb _ => frame b hb⟩
    rcases hpl r b cap hr with ⟨_, h4⟩ | ⟨_, h4⟩
    · exact .inl ⟨r, cap, h4⟩
    · exact .inr (pln _ b cap h4)
  refine ⟨⟨fun r => ?_, fun b hb r cap hr => ?_, fun r b cap hr => ?_, fun b hb => hS.imb b hb, fun r r' b c c' hr hr' => ?_, fun r hr => ?_, fun r hr => ?_, fun r b cap hr => ?_⟩, hE⟩
  · unfold plG
    simp only [List.length_append, renH, List.length_map]
    split
    · rw [← h.len r]; omega
    · rw [← hS.len]; omega
  · rcases hpl r b cap hr with ⟨_, h4⟩ | ⟨_, h4⟩
    · rcases h3 b hb with h5 | h5
      · exact h.apart b h5 r cap h4
      · have := h.bound r b cap h4; omega
    · exact hS.apart b hb _ cap h4
  · rcases hpl r b cap hr with ⟨_, h4⟩ | ⟨_, h4⟩
    · exact Nat.lt_of_lt_of_le (h.bound r b cap h4) size
    · exact hS.bound _ b cap h4
  · rcases hpl r b c hr with ⟨h4, h5⟩ | ⟨h4, h5⟩ <;> rcases hpl r' b c' hr' with ⟨h6, h7⟩ | ⟨h6, h7⟩
    · exact h.inj r r' b c c' h5 h7
    · have := h.bound r b c h5; have := pln _ b c' h7; omega
    · have := h.bound r' b c' h7; have := pln _ b c h5; omega
    · have := hS.inj _ _ b c c' h5 h7; omega
  · unfold plG at hr
    split at hr
    · rename_i hlt
      rw [List.getElem?_append_left hlt]; exact h.dead r hr
    · rename_i hlt
      rw [List.getElem?_append_right (by omega)]
      have := hS.dead _ hr
      simp [renH, this]
  · unfold plG at hr
    split at hr
    · rename_i hlt
      rw [List.getElem?_append_left hlt]; exact h.virt r hr
    · rename_i hlt
      rw [List.getElem?_append_right (by omega)]
      obtain ⟨e, s, h4⟩ := hS.virt _ hr
      exact ⟨e, s, by simp [renH, h4, renRow, renL]⟩
  · rcases hpl r b cap hr with ⟨h4, h5⟩ | ⟨h4, h5⟩
    · obtain ⟨e, s, cs, cur, k1, k2, k3, k4, k5, k6⟩ := h.row r b cap h5
      exact ⟨e, s, cs, cur, by rw [List.getElem?_append_left h4]; exact k1, by rw [frame b (h.bound r b cap h5)]; exact k2, k3, k4, k5, fun j => (k6 j).mono hE h.apart⟩
    · obtain ⟨e, s, cs, cur, k1, k2, k3, k4, k5, k6⟩ := hS.row _ b cap h5
      refine ⟨e, s, renL (shift H.length) cs, cur, by rw [List.getElem?_append_right h4]; simp [renH, k1, renRow], k2, k3, k4, by rw [renL_length]; exact k5, fun j => ?_⟩
      rw [nth_renL]
      exact (k6 j).ren (fun r r' e => by injection e with e; subst e; exact plG_ge r) (fun b hb => hb)

theorem HR.none {im : Nat → Prop} {w : World} (h : ∀ b, im b → b < w.heap.size) : HR im NoPl w [] :=
  ⟨fun r => by simp [NoPl], fun b _ r c => by simp [NoPl], fun r b c => by simp [NoPl], h, fun r r' b c c' => by simp [NoPl], fun r => by simp [NoPl], fun r => by simp [NoPl], fun r b c => by simp [NoPl]⟩

/-- **A call that is handed values alone.** -/
theorem Fc.call {C : Ctx} {f : FuncId} {args : List V} {H : Heap} {Q K : V → Heap → Prop} (h : Fc C f args [] Q) (hc : cloL args = true) (hK : ∀ v H', Q v H' → K (ren (shift H.length) v) (H ++ renH (shift H.length) H')) : Fc C f args H K := by
  refine ⟨h.1, fun im pl w vs hl hv hH => ?_⟩
  have hcall := h.2 im NoPl w vs hl (fun j => (hv j).clo (clo_nth hc j)) (HR.none hH.imb)
  refine (callsIn_wide (n := 0)).1 ((callsIn_wide.2 hcall).mono fun e w' hp => ?_)
  cases e with
  | panicked _ => exact hp
  | outgrown => exact hp
  | returned vc =>
    obtain ⟨v, H', im', pl', k1, k2, k3, k4⟩ := hp
    have hg := hH.glue k3 k4.imm (fun b hb => by
      rcases k4.imn b hb with h1 | h1 | ⟨r, cap, h1⟩
      · exact .inl h1
      · exact .inr h1
      · cases h1) k4.os k4.tape k4.output k4.size (fun r b cap hr => by
      rcases k4.pln r b cap hr with ⟨r', cap', h1⟩ | h1
      · cases h1
      · exact h1) (fun b hb => k4.frame b hb (fun r cap e => by cases e))
    exact ⟨_, _, im', _, hK v H' k1, k2.ren (fun r r' e => by injection e with e; subst e; exact plG_ge r) (fun b hb => hb), hg.1, hg.2⟩

def plainH (H : Heap) : Prop := ∀ (r : Nat) (row : Row), H[r]? = some (some row) → plainL row.cs = true

/-- **A call that is handed rows of the caller's by value**, where nothing that it answers leads into memory that is only read. -/
theorem Fc.borrow {C : Ctx} {f : FuncId} {args args' : List V} {H : Heap} {Q K : V → Heap → Prop} (h : Fc C f args' [] Q) (hl : args.length = args'.length) (hb : ∀ j, Bor H (nth args j) (nth args' j)) (hp : ∀ v H', Q v H' → plain v = true ∧ plainH H')
    (hK : ∀ v H', Q v H' → K (ren (shift H.length) v) (H ++ renH (shift H.length) H')) : Fc C f args H K := by
  refine ⟨h.1, fun im pl w vs hvl hv hH => ?_⟩
  have hcall := h.2 (Live im pl) NoPl w vs (by omega) (fun j => (hb j).VR hH (hv j)) (HR.none fun b hb => by
    rcases hb with hb | ⟨r, cap, hb⟩
    · exact hH.imb b hb
    · exact hH.bound r b cap hb)
  refine (callsIn_wide (n := 0)).1 ((callsIn_wide.2 hcall).mono fun e w' hq => ?_)
  cases e with
  | panicked _ => exact hq
  | outgrown => exact hq
  | returned vc =>
    obtain ⟨v, H', im', pl', k1, k2, k3, k4⟩ := hq
    obtain ⟨p1, p2⟩ := hp v H' k1
    have hS : HR (fun b => im b ∨ (w.heap.size ≤ b ∧ im' b)) pl' w' H' := by
      have hsub : ∀ b, (im b ∨ (w.heap.size ≤ b ∧ im' b)) → im' b := fun b hb => by
        rcases hb with hb | hb
        · exact k4.imm b (.inl hb)
        · exact hb.2
      refine ⟨k3.len, fun b hb => k3.apart b (hsub b hb), k3.bound, fun b hb => k3.imb b (hsub b hb), k3.inj, k3.dead, k3.virt, fun r b cap hr => ?_⟩
      obtain ⟨e, s, cs, cur, q1, q2, q3, q4, q5, q6⟩ := k3.row r b cap hr
      exact ⟨e, s, cs, cur, q1, q2, q3, q4, q5, fun j => (q6 j).plain (plain_nth (p2 r _ q1) j)⟩
    have hg := hH.glue hS (fun b hb => .inl hb) (fun b hb => hb.imp id (·.1)) k4.os k4.tape k4.output k4.size (fun r b cap hr => by
      rcases k4.pln r b cap hr with ⟨r', cap', h1⟩ | h1
      · cases h1
      · exact h1) (fun b hb => k4.frame b hb (fun r cap e => by cases e))
    exact ⟨_, _, _, _, hK v H' k1, ((k2.plain p1).ren (fun r r' e => by injection e with e; subst e; exact plG_ge r) (fun b hb => hb)), hg.1, hg.2⟩

/-! ### Rows that are kept -/
def pos : List Nat → Nat → Option Nat
  | [], _ => none
  | a :: l, r => if a = r then some 0 else (pos l r).map (· + 1)
theorem pos_some {l : List Nat} {r i : Nat} (h : pos l r = some i) : l[i]? = some r := by
  induction l generalizing i with
  | nil => cases h
  | cons a l ih =>
    simp only [pos] at h
    split at h
    · rename_i e; injection h with h; subst h; simp [e]
    · obtain ⟨j, hj, rfl⟩ := Option.map_eq_some_iff.1 h
      simpa using ih hj
def selH (sel : List Nat) (H : Heap) : Heap := sel.map fun r => (rowOf H r).map (renRow (pos sel))
def plS (sel : List Nat) (pl : Nat → Place) : Nat → Place := fun i => match sel[i]? with
  | some r => pl r
  | none => .no

theorem HR.sel {im0 im : Nat → Prop} {pl : Nat → Place} {w0 w : World} {H : Heap} (h : HR im pl w H) (hE : Ext im0 NoPl w0 im pl w) (sel : List Nat) (hn : sel.Nodup) (hl : ∀ r ∈ sel, r < H.length) :
    HR im (plS sel pl) w (selH sel H) ∧ Ext im0 NoPl w0 im (plS sel pl) w := by
  have hpl : ∀ i p, plS sel pl i = p → p ≠ .no → ∃ r, sel[i]? = some r ∧ pl r = p := by
    intro i p hi hp
    unfold plS at hi
    cases hs : sel[i]? with
    | none => rw [hs] at hi; exact absurd hi.symm hp
    | some r => rw [hs] at hi; exact ⟨r, rfl, hi⟩
  have hren : ∀ {v : V} {c : Value}, VR im pl w v c → VR im (plS sel pl) w (ren (pos sel) v) c := fun hv => hv.ren (fun r r' e => by simp [plS, pos_some e]) (fun b hb => hb)
  refine ⟨⟨fun i => ?_, fun b hb i cap hi => ?_, fun i b cap hi => ?_, h.imb, fun i j b c c' hi hj => ?_, fun i hi => ?_, fun i hi => ?_, fun i b cap hi => ?_⟩, ⟨hE.os, hE.tape, hE.output, hE.size, hE.imm, hE.imn, fun r hr => absurd rfl hr, fun i b cap hi => ?_, hE.frame⟩⟩
  · simp only [selH, List.length_map]
    constructor
    · intro hi
      simp only [plS, List.getElem?_eq_getElem hi]
      exact (h.len _).1 (hl _ (List.getElem_mem _))
    · intro hi
      rcases Nat.lt_or_ge i sel.length with h1 | h1
      · exact h1
      · exact absurd (by simp [plS, List.getElem?_eq_none h1]) hi
  · obtain ⟨r, _, hr⟩ := hpl i _ hi (by simp)
    exact h.apart b hb r cap hr
  · obtain ⟨r, _, hr⟩ := hpl i _ hi (by simp)
    exact h.bound r b cap hr
  · obtain ⟨r, h1, hr⟩ := hpl i _ hi (by simp)
    obtain ⟨r', h1', hr'⟩ := hpl j _ hj (by simp)
    have := h.inj r r' b c c' hr hr'
    subst this
    obtain ⟨hi', e1⟩ := List.getElem?_eq_some_iff.1 h1
    obtain ⟨hj', e2⟩ := List.getElem?_eq_some_iff.1 h1'
    exact (List.getElem_inj hn).1 (e1.trans e2.symm)
  · obtain ⟨r, h1, hr⟩ := hpl i _ hi (by simp)
    have := h.dead r hr
    simp [selH, h1, rowOf, this]
  · obtain ⟨r, h1, hr⟩ := hpl i _ hi (by simp)
    obtain ⟨e, s, h2⟩ := h.virt r hr
    exact ⟨e, s, by simp [selH, h1, rowOf, h2, renRow, renL]⟩
  · obtain ⟨r, h1, hr⟩ := hpl i _ hi (by simp)
    obtain ⟨e, s, cs, cur, k1, k2, k3, k4, k5, k6⟩ := h.row r b cap hr
    exact ⟨e, s, renL (pos sel) cs, cur, by simp [selH, h1, rowOf, k1, renRow], k2, k3, k4, by rw [renL_length]; exact k5, fun j => by rw [nth_renL]; exact hren (k6 j)⟩
  · obtain ⟨r, _, hr⟩ := hpl i _ hi (by simp)
    exact hE.pln r b cap hr

/-- Of the rows that a function has made only some are told of. -/
def keepw (sel : List Nat) (Q : V → Heap → Prop) (v : V) (H : Heap) : Prop := sel.Nodup ∧ (∀ r ∈ sel, r < H.length) ∧ Q (ren (pos sel) v) (selH sel H)
theorem Fc.keep {C : Ctx} {f : FuncId} {args : List V} {Q : V → Heap → Prop} (h : Fc C f args [] fun v H => ∃ sel, keepw sel Q v H) : Fc C f args [] Q := by
  refine ⟨h.1, fun im pl w vs hl hv hH => ?_⟩
  have hno : pl = NoPl := by
    funext r
    have := hH.len r
    cases hp : pl r with
    | no => rfl
    | _ => rw [hp] at this; simp at this
  subst hno
  refine (callsIn_wide (n := 0)).1 ((callsIn_wide.2 (h.2 im NoPl w vs hl hv hH)).mono fun e w' hp => ?_)
  cases e with
  | panicked _ => exact hp
  | outgrown => exact hp
  | returned vc =>
    obtain ⟨v, H', im', pl', ⟨sel, hn, hlt, hq⟩, k2, k3, k4⟩ := hp
    have := k3.sel k4 sel hn hlt
    exact ⟨_, _, im', _, hq, k2.ren (fun r r' e => by simp [plS, pos_some e]) (fun b hb => hb), this.1, this.2⟩

/-! ### A contract from a body -/
def resl (ty : TypeId → Ty) (ts : List V) (H : Heap) : List ResultVar → (List V → Prop) → Prop
  | [], K => K []
  | .tmp t :: rs, K => resl ty ts H rs fun vs => K (nth ts t :: vs)
  | .cell a t :: rs, K => (ty t).ok = true ∧ loadw (ty t) (nth ts a) H fun v => resl ty ts H rs fun vs => K (v :: vs)
def one (vs : List V) : V :=
  match vs with
  | [v] => v
  | vs => .tup vs
def resw (ty : TypeId → Ty) (rs : List ResultVar) (ts : List V) (H : Heap) (K : V → Heap → Prop) : Prop := resl ty ts H rs fun vs => K (one vs) H
def endQ (ty : TypeId → Ty) (rs : List ResultVar) (K : V → Heap → Prop) : Exit → List V → Heap → Prop
  | .normal, ts, H => resw ty rs ts H K
  | .ret, ts, H => resw ty rs ts H K
  | _, _, _ => False

theorem resl_sound {C : Ctx} {im : Nat → Prop} {pl : Nat → Place} {w : World} {ts : List V} {H : Heap} {tmps : Array Value} (hts : TR im pl w ts tmps) (hH : HR im pl w H) : ∀ (rs : List ResultVar) (K : List V → Prop), resl C.ty ts H rs K →
    ∃ vs cs, (rs.mapM (m := Sem) fun | .tmp t => pure (tmps.getD t undef) | .cell a t => do loadVar t (← asAddr (tmps.getD a undef))).run C.P w = .ok cs w ∧ K vs ∧ vs.length = cs.length ∧ ∀ j, VR im pl w (nth vs j) (cs.getD j undef) := by
  intro rs
  induction rs with
  | nil => exact fun K h => ⟨[], [], by simp, h, rfl, fun j => by simp [nth]; exact .any _⟩
  | cons r rs ih =>
    intro K h
    cases r with
    | tmp t =>
      obtain ⟨vs, cs, h1, h2, h3, h4⟩ := ih _ h
      refine ⟨_, tmps.getD t undef :: cs, ?_, h2, by simp [h3], fun j => ?_⟩
      · simp only [List.mapM_cons, Sem.run_bind, Sem.run_pure, Result.andThen_ok, h1]
      · cases j with
        | zero => simpa [nth] using hts.2 t
        | succ j => simpa [nth] using h4 j
    | cell a t =>
      obtain ⟨ht, h⟩ := h
      have hx := hts.2 a
      have hL := loadw_sound (C := C) (K := fun v _ => resl C.ty ts H rs fun vs => K (v :: vs)) ht h hx hH
      obtain ⟨v, vc, k1, k2, k3⟩ := hL
      obtain ⟨vs, cs, h1, h2, h3, h4⟩ := ih _ k2
      refine ⟨_, vc :: cs, ?_, h2, by simp [h3], fun j => ?_⟩
      · have hrun : (do loadVar t (← asAddr (tmps.getD a undef)) : Sem Value).run C.P w = .ok vc w := by
          cases hq : tmps.getD a undef with
          | pointer p =>
            cases p with
            | none => rw [hq] at k1; simp [Instr.loadAt, Instr.sureAddr, Go.stuck, Sem.run] at k1
            | some ad => rw [hq] at k1; simpa [Instr.loadAt, Instr.sureAddr, asAddr] using k1
          | _ => rw [hq] at k1; simp [Instr.loadAt, Instr.sureAddr, Go.stuck, Sem.run] at k1
        simp only [List.mapM_cons, Sem.run_bind, hrun, Result.andThen_ok, h1, Sem.run_pure]
      · cases j with
        | zero => simpa [nth] using k3
        | succ j => simpa [nth] using h4 j

theorem one_VR {im : Nat → Prop} {pl : Nat → Place} {w : World} {vs : List V} {cs : List Value} (hl : vs.length = cs.length) (hv : ∀ j, VR im pl w (nth vs j) (cs.getD j undef)) : VR im pl w (one vs) (if h : cs.toArray.size = 1 then cs.toArray[0] else .tuple cs.toArray) := by
  match vs, cs, hl, hv with
  | [], [], hl, hv => exact .tup [] [] hl hv
  | [v], [c], hl, hv => simpa [one, nth] using hv 0
  | v :: v' :: vs, c :: c' :: cs, hl, hv =>
    have : ¬ (c :: c' :: cs).toArray.size = 1 := by simp
    rw [dif_neg this]
    exact .tup _ _ hl hv

theorem takes {C : Ctx} {fn : Func} {tmps : Array Value} {R : Ending → World → Prop} {w0 : World} {pl : Nat → Place} : ∀ (ds : List Deferred) (w : World), DefOK pl w ds → (∀ d ∈ ds, ∃ r, d.target = .collected r ∧ w0.heap.size ≤ r) →
    (∀ w', w'.os = w.os → w'.tape = w.tape → w'.output = w.output → w'.heap.size = w.heap.size → (∀ b, b < w0.heap.size → w'.heap[b]? = w.heap[b]?) → (∀ b, (∃ q cap, pl q = .at b cap) → w'.heap[b]? = w.heap[b]?) → (∀ a v, w.cell? a = some v → w'.cell? a = some v) → LeavesInM Fence.wide 0 C.P fn tmps R [] .returning w') →
    LeavesInM Fence.wide 0 C.P fn tmps R ds .returning w := by
  intro ds
  induction ds with
  | nil => exact fun w _ _ h => h w rfl rfl rfl rfl (fun _ _ => rfl) (fun _ _ => rfl) (fun _ _ h => h)
  | cons d ds ih =>
    intro w hd hb h
    obtain ⟨r, hr, hblk, hlive⟩ := hd.each d (by simp)
    obtain ⟨r', hr', hge⟩ := hb d (by simp)
    rw [hr] at hr'
    injection hr' with hr'
    subst hr'
    have hne : ∀ k, k ≠ r → (w.putObj r (.deferred none)).heap[k]? = w.heap[k]? := by
      intro k hk
      simp [World.putObj, Array.getElem?_setIfInBounds, Ne.symm hk]
    have hcell : ∀ a v, w.cell? a = some v → (w.putObj r (.deferred none)).cell? a = some v := by
      intro a v ha
      by_cases hk : a.block = r
      · unfold World.cell? at ha
        rw [hk, hblk] at ha
        cases ha
      · exact cell_keep ha fun _ => hne _ hk
    refine ⟨by simp, .inl ⟨r, _, hr, run_takeDeferred hblk, ih _ ⟨(List.pairwise_cons.1 hd.nodup).2, fun d' hd' => ?_⟩ (fun d' hd' => hb d' (by simp [hd'])) fun w' e1 e2 e3 e4 e5 e6 e7 => ?_⟩⟩
    · obtain ⟨q, h1, h2, h3⟩ := hd.each d' (by simp [hd'])
      refine ⟨q, h1, ?_, h3⟩
      have : q ≠ r := by
        rintro rfl
        exact (List.pairwise_cons.1 hd.nodup).1 d' hd' (hr.trans h1.symm)
      rw [hne q this]; exact h2
    · refine h w' (e1.trans rfl) (e2.trans rfl) (e3.trans rfl) (e4.trans (by simp [World.putObj])) (fun b hb => (e5 b hb).trans (hne b (by omega))) (fun b hb => (e6 b hb).trans (hne b ?_)) (fun a v ha => e7 a v (hcell a v ha))
      rintro rfl
      obtain ⟨q, cap, hq⟩ := hb
      exact hlive q cap hq

theorem Fc.body {C : Ctx} {f : FuncId} {fn : Func} {c : Code} {args : List V} {H : Heap} {K : V → Heap → Prop} (hf : C.P.funcs[f]? = some fn) (hb : fn.body = some c) (hn : (fn.name == "runtime.NumGoroutine") = false)
    (h : T C none c (endQ C.ty fn.results.toList K) (args ++ List.replicate (fn.ntmps - args.length) .any) H) : Fc C f args H K := by
  refine ⟨⟨fn, hf, hn, by rw [hb]; rfl⟩, fun im pl w vs hl hv hH => (callsIn_wide (n := 0)).1 ?_⟩
  refine callsIn_of_wp_marks hf hb trivial ?_
  have hrel : Rel im pl w (args ++ List.replicate (fn.ntmps - args.length) .any) H { tmps := vs.toArray ++ Array.replicate (fn.ntmps - vs.toArray.size) undef, defers := [] } := by
    refine ⟨⟨by simp [hl], fun i => ?_⟩, hH, .nil _ _⟩
    rw [nth_append]
    split
    · rename_i hi
      have := hv i
      simpa [Array.getD_eq_getD_getElem?, Array.getElem?_append_left (show i < vs.toArray.size by simp; omega), List.getD] using this
    · rename_i hi
      have : nth (List.replicate (fn.ntmps - args.length) V.any) (i - args.length) = .any := by
        rw [nth_getD]; simp [List.getD, List.getElem?_replicate]; split <;> rfl
      rw [this]; exact .any _
  refine wpIn_mono (h im pl w _ hrel) fun e a' w' hp => ?_
  have fin : ∀ ts' H' im' pl', resw C.ty fn.results.toList ts' H' K → Rel im' pl' w' ts' H' a' → Ext im pl w im' pl' w' → Marks w [] a'.defers → LeavesInM Fence.wide 0 C.P fn a'.tmps (CPost im pl w K) a'.defers .returning w' := by
    intro ts' H' im' pl' k1 k2 k3 k4
    obtain ⟨nm, e1, k4⟩ := k4
    rw [List.append_nil] at e1
    subst e1
    refine takes (w0 := w) (pl := pl') a'.defers w' k2.df k4 fun w2 e1 e2 e3 e4 e5 e6 e7 => ?_
    have hE2 : Ext im pl w im' pl' w2 := ⟨e1.trans k3.os, e2.trans k3.tape, e3.trans k3.output, by rw [e4]; exact k3.size, k3.imm, k3.imn, k3.plo, k3.pln, fun b hb hn => (e5 b hb).trans (k3.frame b hb hn)⟩
    have hH2 : HR im' pl' w2 H' := by
      refine ⟨k2.hr.len, k2.hr.apart, fun r b cap hr => by rw [e4]; exact k2.hr.bound r b cap hr, fun b hb => by rw [e4]; exact k2.hr.imb b hb, k2.hr.inj, k2.hr.dead, k2.hr.virt, fun r b cap hr => ?_⟩
      obtain ⟨e, s, cs, cur, q1, q2, q3, q4, q5, q6⟩ := k2.hr.row r b cap hr
      exact ⟨e, s, cs, cur, q1, by rw [e6 b ⟨r, cap, hr⟩]; exact q2, q3, q4, q5, fun j => (q6 j).world (fun a v _ ha => e7 a v ha)⟩
    have hts2 : TR im' pl' w2 ts' a'.tmps := ⟨k2.tr.1, fun i => (k2.tr.2 i).world (fun a v _ ha => e7 a v ha)⟩
    obtain ⟨vs', cs', h1, h2, h3, h4⟩ := resl_sound (C := C) hts2 hH2 fn.results.toList _ k1
    refine ⟨_, ?_, one vs', H', im', pl', h2, one_VR h3 h4, hH2, hE2⟩
    unfold results
    simp only [Sem.run_bind, Array.mapM_eq_mapM_toList, Sem.run_map]
    erw [h1]
    rfl
  cases e with
  | normal => obtain ⟨ts', H', im', pl', k1, k2, k3, k4⟩ := hp; exact fin ts' H' im' pl' k1 k2 k3 k4
  | ret => obtain ⟨ts', H', im', pl', k1, k2, k3, k4⟩ := hp; exact fin ts' H' im' pl' k1 k2 k3 k4
  | exit id => obtain ⟨ts', H', im', pl', k1, k2, k3, k4⟩ := hp; exact k1.elim
  | goto l => obtain ⟨ts', H', im', pl', k1, k2, k3, k4⟩ := hp; exact k1.elim
  | panic _ => exact hp.elim
  | outgrown => exact hp.elim

end Go.Bv
end

section
/-
  PART 14: words for computing: each a step, by 'rfl'; what is still to come is not looked into (the congruences).
-/
set_option linter.unusedVariables false
set_option linter.unusedSimpArgs false
namespace Go.Bv
open Go.RowKit

theorem wrap64_in {n : Int} (h0 : -9223372036854775808 ≤ n) (h1 : n ≤ 9223372036854775807) : IntKind.wrap .i64 n = n := IntWalk.i64_in n ⟨h0, h1⟩

theorem pack_eq (y : Ty) (cs : List V) (off : Nat) : pack y cs off = if y.agg = true then .agg (win cs off y.size) else nth cs off := rfl
theorem win_zero (cs : List V) (off : Nat) : win cs off 0 = [] := rfl
theorem win_succ (cs : List V) (off n : Nat) : win cs off (n + 1) = nth cs off :: win cs (off + 1) n := rfl
theorem len_succ {ts : List V} {n : Nat} (h : ts.length = n + 1) : ∃ a l, ts = a :: l ∧ l.length = n := by
  cases ts with
  | nil => simp at h
  | cons a l => exact ⟨a, l, rfl, by simpa using h⟩
theorem len_zero {ts : List V} (h : ts.length = 0) : ts = [] := List.eq_nil_of_length_eq_zero h
/-- A list of numbers, as cells. -/
def ints (xs : List Int) : List V := xs.map (V.int .i64)
theorem ints_length (xs : List Int) : (ints xs).length = xs.length := by simp [ints]
theorem nth_ints (xs : List Int) (i : Nat) (h : i < xs.length) : nth (ints xs) i = .int .i64 (xs.getD i 0) := by
  rw [nth_getD]; simp [ints, List.getD, List.getElem?_map, List.getElem?_eq_getElem h]
theorem nth_ints_mid (pre : List Int) (x : Int) (rest : List Int) : nth (ints (pre ++ x :: rest)) pre.length = .int .i64 x := by
  rw [nth_ints _ _ (by simp)]; simp [List.getD]
theorem renL_ints (g : Nat → Option Nat) (xs : List Int) : renL g (ints xs) = ints xs := by rw [renL_map]; simp [ints, ren]
theorem cloL_ints (xs : List Int) : cloL (ints xs) = true := by rw [cloL_all]; simp [ints, clo]
theorem plainL_ints (xs : List Int) : plainL (ints xs) = true := by
  induction xs with
  | nil => rfl
  | cons a l ih => simpa [ints, plainL, plain] using ih
theorem ints_scal (xs : List Int) : (ints xs).all scal = true := by simp [ints, scal]
theorem ints_append (xs ys : List Int) : ints (xs ++ ys) = ints xs ++ ints ys := by simp [ints]

section
variable (C : Ctx) (ro : Option Nat) (cw : CW) (ty : TypeId → Ty) (Q : Exit → List V → Heap → Prop) (ts ts' : List V) (H H' : Heap) (K : V → Heap → Prop) (KP : V → Prop) (KL : List V → Heap → Prop)

@[congr] theorem wp_congr {uu : Prop} (h00 : (True ∧ True) = uu) (c : Code) (h1 : ts = ts') (h2 : H = H') : wp C ro cw c Q ts H = wp C ro cw c Q ts' H' := by rw [h1, h2]
@[congr] theorem opsl_congr {uu : Prop} (h00 : (True ∧ True) = uu) (ops : Array Oper) (l : List Oper) (h1 : ts = ts') (h2 : H = H') : opsl ty cw ops KL l ts H = opsl ty cw ops KL l ts' H' := by rw [h1, h2]
@[congr] theorem opc_congr {uu : Prop} (h00 : (True ∧ True) = uu) (op : Op) (h1 : ts = ts') (h2 : H = H') : opc ty cw op ts H K = opc ty cw op ts' H' K := by rw [h1, h2]
@[congr] theorem seqQ_congr {uu : Prop} (h00 : (True ∧ True) = uu) (e : Exit) (h1 : ts = ts') (h2 : H = H') : seqQ KL Q e ts H = seqQ KL Q e ts' H' := by rw [h1, h2]
@[congr] theorem blockQ_congr {uu : Prop} (h00 : (True ∧ True) = uu) (id : Nat) (e : Exit) (h1 : ts = ts') (h2 : H = H') : blockQ id Q e ts H = blockQ id Q e ts' H' := by rw [h1, h2]
@[congr] theorem scopeQ_congr {uu : Prop} (h00 : (True ∧ True) = uu) (e : Exit) (h1 : ts = ts') (h2 : H = H') : scopeQ Q e ts H = scopeQ Q e ts' H' := by rw [h1, h2]
@[congr] theorem endQ_congr {uu : Prop} (h00 : (True ∧ True) = uu) (rs : List ResultVar) (e : Exit) (h1 : ts = ts') (h2 : H = H') : endQ ty rs K e ts H = endQ ty rs K e ts' H' := by rw [h1, h2]
@[congr] theorem resl_congr {uu : Prop} (h00 : (True ∧ True) = uu) (rs : List ResultVar) (KV : List V → Prop) (h1 : ts = ts') (h2 : H = H') : resl ty ts H rs KV = resl ty ts' H' rs KV := by rw [h1, h2]
@[congr] theorem guardn_congr {uu : Prop} (h00 : (True ∧ True) = uu) (ops : Array Oper) (g : Option (Nat × Bool)) (Y N : List V → Prop) (h1 : ts = ts') : guardn ops g ts Y N = guardn ops g ts' Y N := by rw [h1]
@[congr] theorem guardw_congr {uu : Prop} (h00 : (True ∧ True) = uu) (ops : Array Oper) (g : Option (Nat × Bool)) (yes no : Prop) (h1 : ts = ts') : guardw ops g ts yes no = guardw ops g ts' yes no := by rw [h1]
@[congr] theorem Fc_congr {uu : Prop} (h00 : (True ∧ True) = uu) (f : FuncId) {args args' : List V} (h1 : args = args') (h2 : H = H') : Fc C f args H K = Fc C f args' H' K := by rw [h1, h2]
@[congr] theorem cwF_congr {uu : Prop} (h00 : (True ∧ True) = uu) {f f' : V} {args args' : List V} (h0 : f = f') (h1 : args = args') (h2 : H = H') : cwF C f args H K = cwF C f' args' H' K := by rw [h0, h1, h2]
@[congr] theorem binw_congr {uu : Prop} (h00 : (True ∧ True) = uu) (y : Ty) (op : BinOp) {a a' b b' : V} (h1 : a = a') (h2 : b = b') (h3 : H = H') : binw y op a b H KP = binw y op a' b' H' KP := by rw [h1, h2, h3]
@[congr] theorem unw_congr {uu : Prop} (h00 : (True ∧ True) = uu) (op : UnOp) {a a' : V} (h1 : a = a') : unw op a KP = unw op a' KP := by rw [h1]
@[congr] theorem pickw_congr {uu : Prop} (h00 : (True ∧ True) = uu) {c c' a a' b b' : V} (h0 : c = c') (h1 : a = a') (h2 : b = b') : pickw c a b KP = pickw c' a' b' KP := by rw [h0, h1, h2]
@[congr] theorem convw_congr {uu : Prop} (h00 : (True ∧ True) = uu) (y : Ty) {a a' : V} (h1 : a = a') : convw y a KP = convw y a' KP := by rw [h1]
@[congr] theorem extw_congr {uu : Prop} (h00 : (True ∧ True) = uu) (i : Nat) {a a' : V} (h1 : a = a') : extw a i KP = extw a' i KP := by rw [h1]
@[congr] theorem nilw_congr {uu : Prop} (h00 : (True ∧ True) = uu) {a a' : V} (h1 : a = a') : nilw a KP = nilw a' KP := by rw [h1]
@[congr] theorem loadw_congr {uu : Prop} (h00 : (True ∧ True) = uu) (y : Ty) {a a' : V} (h1 : a = a') (h2 : H = H') : loadw y a H KP = loadw y a' H' KP := by rw [h1, h2]
@[congr] theorem storew_congr {uu : Prop} (h00 : (True ∧ True) = uu) (y : Ty) {a a' v v' : V} (KH : Heap → Prop) (h1 : a = a') (h2 : v = v') (h3 : H = H') : storew y a v H KH = storew y a' v' H' KH := by rw [h1, h2, h3]
@[congr] theorem boxw_congr {uu : Prop} (h00 : (True ∧ True) = uu) (t : TypeId) {a a' : V} (h1 : a = a') (h2 : H = H') : boxw t a H K = boxw t a' H' K := by rw [h1, h2]
@[congr] theorem buildw_congr {uu : Prop} (h00 : (True ∧ True) = uu) (t : TypeId) {a a' : List (Nat × V)} (h1 : a = a') : buildw ty t a KP = buildw ty t a' KP := by rw [h1]
@[congr] theorem buildSlw_congr {uu : Prop} (h00 : (True ∧ True) = uu) (t : TypeId) (n : Nat) {a a' : List (Nat × V)} (h1 : a = a') (h2 : H = H') : buildSlw ty t n a H K = buildSlw ty t n a' H' K := by rw [h1, h2]
@[congr] theorem makew_congr {uu : Prop} (h00 : (True ∧ True) = uu) (t : TypeId) {a a' b b' : V} (h1 : a = a') (h2 : b = b') (h3 : H = H') : makew ty t a b H K = makew ty t a' b' H' K := by rw [h1, h2, h3]
@[congr] theorem slicew_congr {uu : Prop} (h00 : (True ∧ True) = uu) (y : Ty) {a a' : V} {lo lo' hi hi' : Option V} (h1 : a = a') (h2 : lo = lo') (h3 : hi = hi') (h4 : H = H') : slicew ty y a lo hi H KP = slicew ty y a' lo' hi' H' KP := by rw [h1, h2, h3, h4]
@[congr] theorem fieldAddrw_congr {uu : Prop} (h00 : (True ∧ True) = uu) (y : Ty) (f : Nat) {a a' : V} (h1 : a = a') : fieldAddrw y a f KP = fieldAddrw y a' f KP := by rw [h1]
@[congr] theorem fieldw_congr {uu : Prop} (h00 : (True ∧ True) = uu) (y : Ty) (f : Nat) {a a' : V} (h1 : a = a') : fieldw ty y a f KP = fieldw ty y a' f KP := by rw [h1]
@[congr] theorem indexAddrw_congr {uu : Prop} (h00 : (True ∧ True) = uu) (y : Ty) {a a' b b' : V} (h1 : a = a') (h2 : b = b') : indexAddrw ty y a b KP = indexAddrw ty y a' b' KP := by rw [h1, h2]
@[congr] theorem indexw_congr {uu : Prop} (h00 : (True ∧ True) = uu) (y : Ty) {a a' b b' : V} (h1 : a = a') (h2 : b = b') : indexw ty y a b KP = indexw ty y a' b' KP := by rw [h1, h2]
@[congr] theorem builtinw_congr {uu : Prop} (h00 : (True ∧ True) = uu) (b : Builtin) (ats : List TypeId) {a a' : List V} (h1 : a = a') (h2 : H = H') : builtinw ty b ats a H K = builtinw ty b ats a' H' K := by rw [h1, h2]
@[congr] theorem appw_congr {uu : Prop} (h00 : (True ∧ True) = uu) (y : Ty) (e : TypeId) {a a' b b' : V} (h1 : a = a') (h2 : b = b') (h3 : H = H') : appw y e a b H K = appw y e a' b' H' K := by rw [h1, h2, h3]
@[congr] theorem lenw_congr {uu : Prop} (h00 : (True ∧ True) = uu) (y : Ty) {a a' : V} (h1 : a = a') : lenw y a KP = lenw y a' KP := by rw [h1]
@[congr] theorem T_congr {uu : Prop} (h00 : (True ∧ True) = uu) (c : Code) (h1 : ts = ts') (h2 : H = H') : T C ro c Q ts H = T C ro c Q ts' H' := by rw [h1, h2]
@[congr] theorem drawT_congr {uu : Prop} (h00 : (True ∧ True) = uu) (id : Nat) (ops : Array Oper) (h1 : ts = ts') (h2 : H = H') : drawT C ro id ops Q ts H = drawT C ro id ops Q ts' H' := by rw [h1, h2]
@[congr] theorem keepw_congr {uu : Prop} (h00 : (True ∧ True) = uu) {v v' : V} (sel : List Nat) (h1 : v = v') (h2 : H = H') : keepw sel K v H = keepw sel K v' H' := by rw [h1, h2]
@[congr] theorem loopN_congr {uu : Prop} (h00 : (True ∧ True) = uu) (b : (Exit → List V → Heap → Prop) → List V → Heap → Prop) (n : Nat) (h1 : ts = ts') (h2 : H = H') : loopN b Q n ts H = loopN b Q n ts' H' := by rw [h1, h2]

/-! ### Steps -/
theorem wp_skip : wp C ro cw .skip Q ts H = Q .normal ts H := rfl
theorem wp_region (id : Nat) (l : List Oper) : wp C ro cw (.region id l.toArray false) Q ts H = opsl C.ty cw l.toArray (Q .normal) l ts H := rfl
theorem wp_draw (id : Nat) (ops : Array Oper) : wp C ro cw (.region id ops true) Q ts H = drawT C ro id ops Q ts H := rfl
theorem wp_seq (x y : Code) : wp C ro cw (.seq x y) Q ts H = wp C ro cw x (seqQ (wp C ro cw y Q) Q) ts H := rfl
theorem wp_cond (c : Operand) (x y : Code) : wp C ro cw (.cond c x y) Q ts H = (match ev ts c with | .bool b => (b = true → wp C ro cw x Q ts H) ∧ (b = false → wp C ro cw y Q ts H) | _ => False) := rfl
def condw (v : V) (x y : Prop) : Prop := match v with
  | .bool b => (b = true → x) ∧ (b = false → y)
  | _ => False
@[congr] theorem condw_congr {uu : Prop} (h00 : (True ∧ True) = uu) {v v' : V} (x y : Prop) (h : v = v') : condw v x y = condw v' x y := by rw [h]
theorem wp_cond' (c : Operand) (x y : Code) : wp C ro cw (.cond c x y) Q ts H = condw (ev ts c) (wp C ro cw x Q ts H) (wp C ro cw y Q ts H) := rfl
theorem condw_bool (b : Bool) (x y : Prop) : condw (.bool b) x y = ((b = true → x) ∧ (b = false → y)) := rfl
theorem condw_dec (p : Prop) [Decidable p] (x y : Prop) : condw (.bool (decide p)) x y = ((decide p = true → x) ∧ (decide p = false → y)) := rfl
theorem condw_beq (a b : Int) (x y : Prop) : condw (.bool (a == b)) x y = (((a == b) = true → x) ∧ ((a == b) = false → y)) := rfl
theorem condw_bne (a b : Int) (x y : Prop) : condw (.bool (a != b)) x y = (((a != b) = true → x) ∧ ((a != b) = false → y)) := rfl
theorem condw_not (c : Bool) (x y : Prop) : condw (.bool (!c)) x y = ((c = false → x) ∧ (c = true → y)) := by cases c <;> simp [condw]
theorem condw_true (x y : Prop) : condw (.bool true) x y = x := by simp [condw]
theorem condw_false (x y : Prop) : condw (.bool false) x y = y := by simp [condw]
theorem wp_block (id : Nat) (c : Code) : wp C ro cw (.block id c) Q ts H = wp C ro cw c (blockQ id Q) ts H := rfl
theorem wp_loop (c : Code) : wp C ro cw (.loop c) Q ts H = T C ro (.loop c) Q ts H := rfl
theorem wp_rangeFunc (f : Operand) (ps : Array Tmp) (x y : Code) : wp C ro cw (.rangeFunc f ps x y) Q ts H = T C ro (.rangeFunc f ps x y) Q ts H := rfl
theorem wp_exit (id : Nat) : wp C ro cw (.exit id) Q ts H = Q (.exit id) ts H := rfl
theorem wp_scope (c : Code) : wp C ro cw (.scope c) Q ts H = wp C ro cw c (scopeQ Q) ts H := rfl
theorem wp_label (l : Nat) : wp C ro cw (.label l) Q ts H = Q .normal ts H := rfl
theorem wp_ret : wp C ro cw .ret Q ts H = Q .ret ts H := rfl
theorem seqQ_normal : seqQ KL Q .normal ts H = KL ts H := rfl
theorem seqQ_exit (id : Nat) : seqQ KL Q (.exit id) ts H = Q (.exit id) ts H := rfl
theorem seqQ_ret : seqQ KL Q .ret ts H = Q .ret ts H := rfl
theorem blockQ_normal (id : Nat) : blockQ id Q .normal ts H = Q .normal ts H := rfl
theorem blockQ_ret (id : Nat) : blockQ id Q .ret ts H = Q .ret ts H := rfl
theorem blockQ_exit (id : Nat) : blockQ id Q (.exit id) ts H = Q .normal ts H := by simp [blockQ]
theorem blockQ_exit' (id id' : Nat) (h : (id' == id) = false) : blockQ id Q (.exit id') ts H = Q (.exit id') ts H := by simp at h; simp [blockQ, h]
theorem scopeQ_normal : scopeQ Q .normal ts H = Q .normal ts H := rfl
theorem scopeQ_ret : scopeQ Q .ret ts H = Q .ret ts H := rfl
theorem scopeQ_exit (id : Nat) : scopeQ Q (.exit id) ts H = Q (.exit id) ts H := rfl
theorem endQ_ret (rs : List ResultVar) : endQ ty rs K .ret ts H = resl ty ts H rs (fun vs => K (one vs) H) := rfl
theorem endQ_normal (rs : List ResultVar) : endQ ty rs K .normal ts H = resl ty ts H rs (fun vs => K (one vs) H) := rfl
theorem resl_nil (KV : List V → Prop) : resl ty ts H [] KV = KV [] := rfl
theorem resl_tmp (KV : List V → Prop) (t : Tmp) (rs : List ResultVar) : resl ty ts H (.tmp t :: rs) KV = resl ty ts H rs fun vs => KV (nth ts t :: vs) := rfl
theorem resl_cell (KV : List V → Prop) (a : Tmp) (t : TypeId) (rs : List ResultVar) : resl ty ts H (.cell a t :: rs) KV = ((ty t).ok = true ∧ loadw (ty t) (nth ts a) H fun v => resl ty ts H rs fun vs => KV (v :: vs)) := rfl
theorem one_one (v : V) : one [v] = v := rfl
theorem one_nil : one [] = .tup [] := rfl
theorem one_two (v u : V) (l : List V) : one (v :: u :: l) = .tup (v :: u :: l) := rfl
theorem loopN_succ (b : (Exit → List V → Heap → Prop) → List V → Heap → Prop) (n : Nat) : loopN b Q (n + 1) ts H = b (seqQ (loopN b Q n) Q) ts H := rfl

theorem opsl_nil (ops : Array Oper) : opsl ty cw ops KL [] ts H = KL ts H := rfl
theorem opsl_free (ops : Array Oper) (d : Option Tmp) (op : Op) (t : TypeId) (p : String) (e : Array Edge) (l : List Oper) : opsl ty cw ops KL (⟨d, op, t, p, e, none⟩ :: l) ts H = opc ty cw op ts H fun v H' => opsl ty cw ops KL l (putd ts d v) H' := rfl
theorem opsl_guard (ops : Array Oper) (d : Option Tmp) (op : Op) (t : TypeId) (p : String) (e : Array Edge) (j : Nat) (b : Bool) (l : List Oper) : opsl ty cw ops KL (⟨d, op, t, p, e, some (j, b)⟩ :: l) ts H =
    guardn ops (some (j, b)) ts (fun ts => opc ty cw op ts H fun v H' => opsl ty cw ops KL l (putd ts d v) H') (fun ts => opsl ty cw ops KL l (putd ts d (.tup [])) H) := rfl
/-- A guard: the Bool, where it lies, and which one is wanted. -/
def guardb (v : V) (d : Tmp) (want : Bool) (ts : List V) (Y N : List V → Prop) : Prop := match v with
  | .bool b => (b = true → (match want with | true => Y (upd ts d (.bool true)) | false => N (upd ts d (.bool true)))) ∧ (b = false → (match want with | true => N (upd ts d (.bool false)) | false => Y (upd ts d (.bool false))))
  | .tup _ => N ts
  | _ => False
@[congr] theorem guardb_congr {uu : Prop} (h00 : (True ∧ True) = uu) {v v' : V} (d : Tmp) (want : Bool) (Y N : List V → Prop) (h : v = v') (h1 : ts = ts') : guardb v d want ts Y N = guardb v' d want ts' Y N := by rw [h, h1]
def dstAt : List Oper → Nat → Option Tmp
  | [], _ => none
  | o :: _, 0 => o.dst
  | _ :: l, n + 1 => dstAt l n
theorem dstAt_eq (l : List Oper) (j : Nat) : dstAt l j = (l[j]?).bind (·.dst) := by
  induction l generalizing j with
  | nil => rfl
  | cons a l ih => cases j <;> simp [dstAt, ih]
def guardo (d : Option Tmp) (ts : List V) (want : Bool) (Y N : List V → Prop) : Prop := match d with
  | some d => guardb (nth ts d) d want ts Y N
  | none => False
theorem guardn_eq (l : List Oper) (j : Nat) (want : Bool) (Y N : List V → Prop) : guardn l.toArray (some (j, want)) ts Y N = guardo (dstAt l j) ts want Y N := by
  simp only [guardn, dstAt_eq, List.getElem?_toArray]
  cases (l[j]?).bind (·.dst) <;> rfl
@[congr] theorem guardo_congr {uu : Prop} (h00 : (True ∧ True) = uu) {d d' : Option Tmp} (want : Bool) (Y N : List V → Prop) (h1 : d = d') (h2 : ts = ts') : guardo d ts want Y N = guardo d' ts' want Y N := by rw [h1, h2]
theorem guardo_some (d : Tmp) (want : Bool) (Y N : List V → Prop) : guardo (some d) ts want Y N = guardb (nth ts d) d want ts Y N := rfl
theorem guardb_bool_t (b : Bool) (d : Tmp) (Y N : List V → Prop) : guardb (.bool b) d true ts Y N = ((b = true → Y (upd ts d (.bool true))) ∧ (b = false → N (upd ts d (.bool false)))) := rfl
theorem guardb_bool_f (b : Bool) (d : Tmp) (Y N : List V → Prop) : guardb (.bool b) d false ts Y N = ((b = true → N (upd ts d (.bool true))) ∧ (b = false → Y (upd ts d (.bool false)))) := rfl
theorem guardb_dec_t (p : Prop) [Decidable p] (d : Tmp) (Y N : List V → Prop) : guardb (.bool (decide p)) d true ts Y N = (((decide p) = true → Y (upd ts d (.bool true))) ∧ ((decide p) = false → N (upd ts d (.bool false)))) := rfl
theorem guardb_dec_f (p : Prop) [Decidable p] (d : Tmp) (Y N : List V → Prop) : guardb (.bool (decide p)) d false ts Y N = (((decide p) = true → N (upd ts d (.bool true))) ∧ ((decide p) = false → Y (upd ts d (.bool false)))) := rfl
theorem guardb_beq_t (a b : Int) (d : Tmp) (Y N : List V → Prop) : guardb (.bool (a == b)) d true ts Y N = (((a == b) = true → Y (upd ts d (.bool true))) ∧ ((a == b) = false → N (upd ts d (.bool false)))) := rfl
theorem guardb_beq_f (a b : Int) (d : Tmp) (Y N : List V → Prop) : guardb (.bool (a == b)) d false ts Y N = (((a == b) = true → N (upd ts d (.bool true))) ∧ ((a == b) = false → Y (upd ts d (.bool false)))) := rfl
theorem guardb_bne_t (a b : Int) (d : Tmp) (Y N : List V → Prop) : guardb (.bool (a != b)) d true ts Y N = (((a != b) = true → Y (upd ts d (.bool true))) ∧ ((a != b) = false → N (upd ts d (.bool false)))) := rfl
theorem guardb_bne_f (a b : Int) (d : Tmp) (Y N : List V → Prop) : guardb (.bool (a != b)) d false ts Y N = (((a != b) = true → N (upd ts d (.bool true))) ∧ ((a != b) = false → Y (upd ts d (.bool false)))) := rfl
theorem guardb_not_t (c : Bool) (d : Tmp) (Y N : List V → Prop) : guardb (.bool (!c)) d true ts Y N = (((!c) = true → Y (upd ts d (.bool true))) ∧ ((!c) = false → N (upd ts d (.bool false)))) := rfl
theorem guardb_not_f (c : Bool) (d : Tmp) (Y N : List V → Prop) : guardb (.bool (!c)) d false ts Y N = (((!c) = true → N (upd ts d (.bool true))) ∧ ((!c) = false → Y (upd ts d (.bool false)))) := rfl
theorem guardb_tt (d : Tmp) (Y N : List V → Prop) : guardb (.bool true) d true ts Y N = Y (upd ts d (.bool true)) := by simp [guardb]
theorem guardb_tf (d : Tmp) (Y N : List V → Prop) : guardb (.bool true) d false ts Y N = N (upd ts d (.bool true)) := by simp [guardb]
theorem guardb_ft (d : Tmp) (Y N : List V → Prop) : guardb (.bool false) d true ts Y N = N (upd ts d (.bool false)) := by simp [guardb]
theorem guardb_ff (d : Tmp) (Y N : List V → Prop) : guardb (.bool false) d false ts Y N = Y (upd ts d (.bool false)) := by simp [guardb]
theorem guardb_tup (l : List V) (d : Tmp) (want : Bool) (Y N : List V → Prop) : guardb (.tup l) d want ts Y N = N ts := rfl
theorem dstAt_zero (d : Option Tmp) (op : Op) (t : TypeId) (p : String) (e : Array Edge) (g : Option (Nat × Bool)) (l : List Oper) : dstAt (⟨d, op, t, p, e, g⟩ :: l) 0 = d := rfl
theorem dstAt_succ (o : Oper) (l : List Oper) (n : Nat) : dstAt (o :: l) (n + 1) = dstAt l n := rfl

theorem opc_move (x : Operand) : opc ty cw (.move x) ts H K = K (ev ts x) H := rfl
theorem opc_assign (x : Operand) : opc ty cw (.assign x) ts H K = K (ev ts x) H := rfl
theorem opc_pick (c a b : Operand) : opc ty cw (.pick c a b) ts H K = pickw (ev ts c) (ev ts a) (ev ts b) fun v => K v H := rfl
theorem opc_binOp (o : BinOp) (t : TypeId) (x y : Operand) (t' : TypeId) : opc ty cw (.binOp o t x y t') ts H K = ((ty t).ok = true ∧ binw (ty t) o (ev ts x) (ev ts y) H fun v => K v H) := rfl
theorem opc_unOp (o : UnOp) (t : TypeId) (x : Operand) : opc ty cw (.unOp o t x) ts H K = unw o (ev ts x) fun v => K v H := rfl
theorem opc_convert (s d : TypeId) (x : Operand) : opc ty cw (.convert s d x) ts H K = ((ty s).ok = true ∧ (ty d).ok = true ∧ convw (ty d) (ev ts x) fun v => K v H) := rfl
theorem opc_makeFunc (fn : Go.Fn) (a b : List Operand) : opc ty cw (.makeFunc fn a.toArray b.toArray) ts H K = K (.fn fn (a.map (ev ts)) (b.map (ev ts))) H := rfl
theorem opc_extract (x : Operand) (i : Nat) : opc ty cw (.extract x i) ts H K = extw (ev ts x) i fun v => K v H := rfl
theorem opc_nilCheck (x : Operand) : opc ty cw (.nilCheck x) ts H K = nilw (ev ts x) fun v => K v H := rfl
theorem opc_load (t : TypeId) (x : Operand) : opc ty cw (.load t x) ts H K = ((ty t).ok = true ∧ loadw (ty t) (ev ts x) H fun v => K v H) := rfl
theorem opc_store (t : TypeId) (x v : Operand) : opc ty cw (.store t x v) ts H K = ((ty t).ok = true ∧ storew (ty t) (ev ts x) (ev ts v) H fun H' => K .any H') := rfl
theorem opc_box (t : TypeId) (x : Operand) : opc ty cw (.box t x) ts H K = boxw t (ev ts x) H K := rfl
theorem opc_alloc (t : TypeId) : opc ty cw (.alloc t) ts H K = ((ty t).ok = true ∧ K (.ptr H.length 0) (H ++ [some ⟨t, (zsOf (ty t)).length, zsOf (ty t)⟩])) := rfl
theorem opc_build (t : TypeId) (ps : List (Nat × Operand)) : opc ty cw (.build t ps.toArray) ts H K = ((ty t).ok = true ∧ buildw ty t (ps.map fun p => (p.1, ev ts p.2)) fun v => K v H) := rfl
theorem opc_buildSlice (t : TypeId) (n : Nat) (ps : List (Nat × Operand)) : opc ty cw (.buildSlice t n ps.toArray) ts H K = ((ty t).ok = true ∧ buildSlw ty t n (ps.map fun p => (p.1, ev ts p.2)) H K) := rfl
theorem opc_makeSlice (t : TypeId) (l c : Operand) : opc ty cw (.makeSlice t l c) ts H K = ((ty t).ok = true ∧ makew ty t (ev ts l) (ev ts c) H K) := rfl
theorem opc_slice (t : TypeId) (x : Operand) (lo hi : Option Operand) : opc ty cw (.slice t x lo hi none) ts H K = ((ty t).ok = true ∧ slicew ty (ty t) (ev ts x) (lo.map (ev ts)) (hi.map (ev ts)) H fun v => K v H) := by simp [opc, opw]
def fao (f : Option (Nat × Nat)) (KO : Nat → Prop) : Prop := match f with
  | some (o, u) => (ty u).ok = true ∧ (ty u).size ≠ 0 ∧ KO o
  | none => False
@[congr] theorem fao_congr {uu : Prop} (h00 : (True ∧ True) = uu) {f f' : Option (Nat × Nat)} (KO : Nat → Prop) (h : f = f') : fao ty f KO = fao ty f' KO := by rw [h]
theorem fao_some (o u : Nat) (KO : Nat → Prop) : fao ty (some (o, u)) KO = ((ty u).ok = true ∧ (ty u).size ≠ 0 ∧ KO o) := rfl
def faw (f : Option (Nat × Nat)) (x : V) (KP : V → Prop) : Prop := match x with
  | .ptr r off => fao ty f fun o => KP (.ptr r (off + o))
  | .rp cs off => fao ty f fun o => KP (.rp cs (off + o))
  | _ => False
@[congr] theorem faw_congr {uu : Prop} (h00 : (True ∧ True) = uu) {f f' : Option (Nat × Nat)} {x x' : V} (h : f = f') (h1 : x = x') : faw ty f x KP = faw ty f' x' KP := by rw [h, h1]
theorem faw_ptr (f : Option (Nat × Nat)) (r off : Nat) : faw ty f (.ptr r off) KP = fao ty f fun o => KP (.ptr r (off + o)) := rfl
theorem faw_rp (f : Option (Nat × Nat)) (cs : List V) (off : Nat) : faw ty f (.rp cs off) KP = fao ty f fun o => KP (.rp cs (off + o)) := rfl
theorem opc_fieldAddr (t : TypeId) (x : Operand) (f : Nat) : opc ty cw (.fieldAddr t x f) ts H K = ((ty t).ok = true ∧ faw ty ((ty t).fs[f]?) (ev ts x) fun v => K v H) := by
  simp only [opc, opw, fieldAddrw, faw, fao]
  congr 1
  cases (ty t).fs[f]? with
  | none => cases ev ts x <;> rfl
  | some p => obtain ⟨o, u⟩ := p; cases ev ts x <;> simp [and_assoc]
theorem opc_field (t : TypeId) (x : Operand) (f : Nat) : opc ty cw (.field t x f) ts H K = ((ty t).ok = true ∧ fieldw ty (ty t) (ev ts x) f fun v => K v H) := rfl
def idxw (y : Ty) (x i : V) (H : Heap) (KP : V → Prop) : Prop := (match x with | .ref r _ _ => (rowOf H r).isSome = true | .ptr r _ => (rowOf H r).isSome = true | _ => True) ∧ indexAddrw ty y x i KP
@[congr] theorem idxw_congr {uu : Prop} (h00 : (True ∧ True) = uu) (y : Ty) {x x' i i' : V} (h1 : x = x') (h2 : i = i') (h3 : H = H') : idxw ty y x i H KP = idxw ty y x' i' H' KP := by rw [h1, h2, h3]
theorem opc_indexAddr (t : TypeId) (x i : Operand) : opc ty cw (.indexAddr t x i) ts H K = ((ty t).ok = true ∧ idxw ty (ty t) (ev ts x) (ev ts i) H fun v => K v H) := rfl
def idxo (e : Option Nat) (n : Nat) (i : Int) (KO : Nat → Prop) : Prop := match e with
  | some e => (ty e).ok = true ∧ 0 ≤ i ∧ i < n ∧ KO (i.toNat * (ty e).size)
  | none => False
@[congr] theorem idxo_congr {uu : Prop} (h00 : (True ∧ True) = uu) {e e' : Option Nat} (n : Nat) (i : Int) (KO : Nat → Prop) (h : e = e') : idxo ty e n i KO = idxo ty e' n i KO := by rw [h]
theorem idxo_some (e n : Nat) (i : Int) (KO : Nat → Prop) : idxo ty (some e) n i KO = ((ty e).ok = true ∧ 0 ≤ i ∧ i < n ∧ KO (i.toNat * (ty e).size)) := rfl
theorem idxw_sl (y : Ty) (n : Nat) (cs : List V) (k : IntKind) (i : Int) : idxw ty y (.sl n cs) (.int k i) H KP = idxo ty y.sl n i fun o => KP (.rp cs o) := by
  unfold idxw indexAddrw idxo
  cases y.sl <;> simp
theorem idxw_ref (y : Ty) (r off n : Nat) (k : IntKind) (i : Int) : idxw ty y (.ref r off n) (.int k i) H KP = ((rowOf H r).isSome = true ∧ idxo ty y.sl n i fun o => KP (.ptr r (off + o))) := by
  unfold idxw indexAddrw idxo
  cases y.sl <;> simp
theorem opc_index (t : TypeId) (x i : Operand) : opc ty cw (.index t x i) ts H K = ((ty t).ok = true ∧ indexw ty (ty t) (ev ts x) (ev ts i) fun v => K v H) := rfl
theorem opc_call (f : Operand) (xs : List Operand) (ats : Array TypeId) : opc ty cw (.call ⟨.value f, xs.toArray, ats⟩) ts H K = cw (ev ts f) (xs.map (ev ts)) H K := rfl
theorem opc_builtin (b : Builtin) (xs : List Operand) (ats : List TypeId) : opc ty cw (.call ⟨.builtin b, xs.toArray, ats.toArray⟩) ts H K = builtinw ty b ats (xs.map (ev ts)) H K := rfl
theorem cwF_fn (g : FuncId) (xs ys args : List V) : cwF C (.fn (.func g) xs ys) args H K = Fc C g (xs ++ args ++ ys) H K := rfl

theorem ev_tmp (t : Tmp) : ev ts (.tmp t) = nth ts t := rfl
theorem ev_int (k : IntKind) (n : Int) : ev ts (.const (.int k n)) = .int k n := rfl
theorem ev_bool (b : Bool) : ev ts (.const (.bool b)) = .bool b := rfl
theorem ev_nil : ev ts (.const (.slice none 0 0)) = .nil := rfl
theorem ev_nilp : ev ts (.const (.pointer none)) = .nilp := rfl
theorem ev_nilf : ev ts (.const .nilFunc) = .nilf := rfl
theorem ev_str (s : ByteArray) : ev ts (.const (.string s)) = .str s := rfl
theorem ev_agg (cs : List Value) : ev ts (.const (.agg cs.toArray)) = .agg (cs.map cv1) := rfl
theorem ev_func (f : FuncId) : ev ts (.func f) = .fn (.func f) [] [] := rfl
theorem putd_some (i : Nat) (v : V) : putd ts (some i) v = upd ts i v := rfl
theorem putd_none (v : V) : putd ts none v = ts := rfl
theorem upd_zero (a v : V) (l : List V) : upd (a :: l) 0 v = v :: l := rfl
theorem upd_succ (a v : V) (l : List V) (n : Nat) : upd (a :: l) (n + 1) v = a :: upd l n v := rfl
theorem nth_zero (a : V) (l : List V) : nth (a :: l) 0 = a := rfl
theorem nth_succ (a : V) (l : List V) (n : Nat) : nth (a :: l) (n + 1) = nth l n := rfl

theorem pickw_bool (t : Bool) (a b : V) : pickw (.bool t) a b KP = ((t = true → KP a) ∧ (t = false → KP b)) := rfl
theorem pickw_true (a b : V) : pickw (.bool true) a b KP = KP a := by simp [pickw]
theorem pickw_false (a b : V) : pickw (.bool false) a b KP = KP b := by simp [pickw]
theorem pickw_bools (t a b : Bool) : pickw (.bool t) (.bool a) (.bool b) KP = KP (.bool (if t = true then a else b)) := by cases t <;> simp [pickw]
theorem binw_int (y : Ty) (op : BinOp) (k k' : IntKind) (a b : Int) : binw y op (.int k a) (.int k' b) H KP = intw op k a k' b KP := rfl
theorem binw_bool_eql (y : Ty) (a b : Bool) : binw y .eql (.bool a) (.bool b) H KP = (y.bl = true ∧ KP (.bool (a == b))) := rfl
theorem binw_bool_neq (y : Ty) (a b : Bool) : binw y .neq (.bool a) (.bool b) H KP = (y.bl = true ∧ KP (.bool (!(a == b)))) := rfl
theorem binw_sl_nil_eql (y : Ty) (n : Nat) (cs : List V) : binw y .eql (.sl n cs) .nil H KP = (y.sl.isSome = true ∧ KP (.bool false) ∧ (n = 0 → KP (.bool true))) := rfl
theorem binw_ref_nil_eql (y : Ty) (r off n : Nat) : binw y .eql (.ref r off n) .nil H KP = (y.sl.isSome = true ∧ (rowOf H r).isSome = true ∧ KP (.bool false) ∧ (n = 0 → KP (.bool true))) := rfl
theorem binw_nil_nil_eql (y : Ty) : binw y .eql .nil .nil H KP = (y.sl.isSome = true ∧ KP (.bool true)) := rfl
theorem intw_add (k : IntKind) (a b : Int) : intw .add k a k b KP = KP (.int k (k.wrap (a + b))) := by simp [intw]
theorem intw_sub (k : IntKind) (a b : Int) : intw .sub k a k b KP = KP (.int k (k.wrap (a - b))) := by simp [intw]
theorem intw_mul (k : IntKind) (a b : Int) : intw .mul k a k b KP = KP (.int k (k.wrap (a * b))) := by simp [intw]
theorem intw_quo (k : IntKind) (a b : Int) : intw .quo k a k b KP = (b ≠ 0 ∧ KP (.int k (k.wrap (a.tdiv b)))) := by simp [intw]
theorem intw_rem (k : IntKind) (a b : Int) : intw .rem k a k b KP = (b ≠ 0 ∧ KP (.int k (a.tmod b))) := by simp [intw]
theorem intw_eql (k : IntKind) (a b : Int) : intw .eql k a k b KP = KP (.bool (a == b)) := by simp [intw]
theorem intw_neq (k : IntKind) (a b : Int) : intw .neq k a k b KP = KP (.bool (a != b)) := by simp [intw]
theorem intw_lss (k : IntKind) (a b : Int) : intw .lss k a k b KP = KP (.bool (decide (a < b))) := by simp [intw]
theorem intw_leq (k : IntKind) (a b : Int) : intw .leq k a k b KP = KP (.bool (decide (a ≤ b))) := by simp [intw]
theorem intw_gtr (k : IntKind) (a b : Int) : intw .gtr k a k b KP = KP (.bool (decide (b < a))) := by simp [intw]
theorem intw_geq (k : IntKind) (a b : Int) : intw .geq k a k b KP = KP (.bool (decide (b ≤ a))) := by simp [intw]
theorem unw_neg (k : IntKind) (n : Int) : unw .neg (.int k n) KP = KP (.int k (k.wrap (0 - n))) := rfl
theorem unw_not (b : Bool) : unw .not (.bool b) KP = KP (.bool (!b)) := rfl
theorem extw_tup (vs : List V) (i : Nat) : extw (.tup vs) i KP = (i < vs.length ∧ KP (nth vs i)) := rfl
theorem nilw_fn (f : FuncId) (xs ys : List V) : nilw (.fn (.func f) xs ys) KP = KP (.fn (.func f) xs ys) := rfl
theorem nilw_yield (f : Nat) (xs ys : List V) : nilw (.fn (.yield f) xs ys) KP = KP (.fn (.yield f) xs ys) := rfl
theorem nilw_ptr (r off : Nat) : nilw (.ptr r off) KP = KP (.ptr r off) := rfl
theorem loadw_rp (y : Ty) (cs : List V) (off : Nat) : loadw y (.rp cs off) H KP = (off + y.size ≤ cs.length ∧ KP (pack y cs off)) := rfl
def loadr (y : Ty) (row : Option Row) (off : Nat) (KP : V → Prop) : Prop := match row with
  | some row => off + y.size ≤ row.cs.length ∧ KP (pack y row.cs off)
  | none => False
@[congr] theorem loadr_congr {uu : Prop} (h00 : (True ∧ True) = uu) (y : Ty) {row row' : Option Row} (off : Nat) (h : row = row') : loadr y row off KP = loadr y row' off KP := by rw [h]
theorem loadw_ptr (y : Ty) (r off : Nat) : loadw y (.ptr r off) H KP = loadr y (rowOf H r) off KP := rfl
theorem loadr_some (y : Ty) (e s : Nat) (cs : List V) (off : Nat) : loadr y (some ⟨e, s, cs⟩) off KP = (off + y.size ≤ cs.length ∧ KP (pack y cs off)) := rfl
def storer (y : Ty) (row : Option Row) (r off : Nat) (v : V) (H : Heap) (KH : Heap → Prop) : Prop := match row with
  | some row => off + y.size ≤ row.cs.length ∧ (cellsOf v).length = y.size ∧ (cellsOf v).all scal = true ∧ KH (H.set r (some ⟨row.e, row.s, puts row.cs off (cellsOf v)⟩))
  | none => False
@[congr] theorem storer_congr {uu : Prop} (h00 : (True ∧ True) = uu) (y : Ty) {row row' : Option Row} (r off : Nat) (v : V) (KH : Heap → Prop) (h : row = row') : storer y row r off v H KH = storer y row' r off v H KH := by rw [h]
theorem storew_ptr (y : Ty) (r off : Nat) (v : V) (KH : Heap → Prop) : storew y (.ptr r off) v H KH = storer y (rowOf H r) r off v H KH := rfl
theorem storer_some (y : Ty) (e s : Nat) (cs : List V) (r off : Nat) (v : V) (KH : Heap → Prop) : storer y (some ⟨e, s, cs⟩) r off v H KH =
    (off + y.size ≤ cs.length ∧ (cellsOf v).length = y.size ∧ (cellsOf v).all scal = true ∧ KH (H.set r (some ⟨e, s, puts cs off (cellsOf v)⟩))) := rfl
def optw (o : Option (List V)) (KV : List V → Prop) : Prop := match o with
  | some l => KV l
  | none => False
@[congr] theorem optw_congr {uu : Prop} (h00 : (True ∧ True) = uu) {o o' : Option (List V)} (KV : List V → Prop) (h : o = o') : optw o KV = optw o' KV := by rw [h]
theorem optw_some (l : List V) (KV : List V → Prop) : optw (some l) KV = KV l := rfl
theorem buildw_eq (t : TypeId) (ps : List (Nat × V)) : buildw ty t ps KP = ((ty t).fs ≠ [] ∧ (ty t).fs.all (fun p => (ty p.2).ok) = true ∧ optw (vfill (fun i => ((ty t).fs[i]?).map fun p => (p.1, (ty p.2).size)) (zsOf (ty t)) ps) fun out => KP (.agg out)) := by
  unfold buildw optw
  rfl
def bso (e : Option Nat) (len : Nat) (ps : List (Nat × V)) (H : Heap) (K : V → Heap → Prop) : Prop := match e with
  | some e => (ty e).ok = true ∧ len * (ty e).size ≤ 16777216 ∧ 0 < (ty e).size ∧ optw (vfill (fun i => some (i * (ty e).size, (ty e).size)) (List.replicate (len * (ty e).size) .any) ps) fun out => K (.ref H.length 0 len) (H ++ [some ⟨e, (ty e).size, out⟩])
  | none => False
@[congr] theorem bso_congr {uu : Prop} (h00 : (True ∧ True) = uu) {e e' : Option Nat} (len : Nat) {ps ps' : List (Nat × V)} (h : e = e') (h1 : ps = ps') (h2 : H = H') : bso ty e len ps H K = bso ty e' len ps' H' K := by rw [h, h1, h2]
theorem bso_some (e len : Nat) (ps : List (Nat × V)) : bso ty (some e) len ps H K = ((ty e).ok = true ∧ len * (ty e).size ≤ 16777216 ∧ 0 < (ty e).size ∧ optw (vfill (fun i => some (i * (ty e).size, (ty e).size)) (List.replicate (len * (ty e).size) .any) ps) fun out => K (.ref H.length 0 len) (H ++ [some ⟨e, (ty e).size, out⟩])) := rfl
theorem buildSlw_eq (t : TypeId) (len : Nat) (ps : List (Nat × V)) : buildSlw ty t len ps H K = bso ty (ty t).sl len ps H K := by
  unfold buildSlw bso optw
  rfl
theorem vfill_nil (place : Nat → Option (Nat × Nat)) (cs : List V) : vfill place cs [] = some cs := rfl
def vfillo (o : Option (Nat × Nat)) (place : Nat → Option (Nat × Nat)) (cs : List V) (v : V) (rest : List (Nat × V)) : Option (List V) := match o with
  | none => none
  | some (off, size) => if kn v = true ∧ (cellsOf v).length = size ∧ off + (cellsOf v).length ≤ cs.length then vfill place (puts cs off (cellsOf v)) rest else none
theorem vfill_cons (place : Nat → Option (Nat × Nat)) (cs : List V) (i : Nat) (v : V) (rest : List (Nat × V)) : vfill place cs ((i, v) :: rest) = vfillo (place i) place cs v rest := rfl
theorem kn_int (k : IntKind) (n : Int) : kn (.int k n) = true := rfl
theorem kn_bool (b : Bool) : kn (.bool b) = true := rfl
theorem kn_str (b : ByteArray) : kn (.str b) = true := rfl
theorem kn_nil : kn .nil = true := rfl
theorem kn_sl (n : Nat) (cs : List V) : kn (.sl n cs) = true := rfl
theorem kn_ref (r o n : Nat) : kn (.ref r o n) = true := rfl
theorem kn_agg (cs : List V) : kn (.agg cs) = true := rfl
theorem kn_ptr (r o : Nat) : kn (.ptr r o) = true := rfl
theorem kn_rp (cs : List V) (o : Nat) : kn (.rp cs o) = true := rfl
theorem kn_nilp : kn .nilp = true := rfl
theorem kn_fn (f : Go.Fn) (xs ys : List V) : kn (.fn f xs ys) = true := rfl
theorem kn_nilf : kn .nilf = true := rfl
theorem cellsOf_int (k : IntKind) (n : Int) : cellsOf (.int k n) = [.int k n] := rfl
theorem cellsOf_bool (b : Bool) : cellsOf (.bool b) = [.bool b] := rfl
theorem cellsOf_str (b : ByteArray) : cellsOf (.str b) = [.str b] := rfl
theorem cellsOf_nil : cellsOf .nil = [.nil] := rfl
theorem cellsOf_sl (n : Nat) (cs : List V) : cellsOf (.sl n cs) = [.sl n cs] := rfl
theorem cellsOf_ref (r o n : Nat) : cellsOf (.ref r o n) = [.ref r o n] := rfl
theorem cellsOf_agg (cs : List V) : cellsOf (.agg cs) = cs := rfl
theorem cellsOf_ptr (r o : Nat) : cellsOf (.ptr r o) = [.ptr r o] := rfl
theorem cellsOf_rp (cs : List V) (o : Nat) : cellsOf (.rp cs o) = [.rp cs o] := rfl
theorem cellsOf_nilp : cellsOf .nilp = [.nilp] := rfl
theorem cellsOf_fn (f : Go.Fn) (xs ys : List V) : cellsOf (.fn f xs ys) = [.fn f xs ys] := rfl
theorem cellsOf_nilf : cellsOf .nilf = [.nilf] := rfl
theorem puts_nil (cs : List V) (o : Nat) : puts cs o [] = cs := rfl
theorem puts_cons (cs : List V) (o : Nat) (v : V) (vs : List V) : puts cs o (v :: vs) = puts (upd cs o v) (o + 1) vs := rfl
theorem vfillo_some (place : Nat → Option (Nat × Nat)) (cs : List V) (v : V) (rest : List (Nat × V)) (off size : Nat) : vfillo (some (off, size)) place cs v rest = if kn v = true ∧ (cellsOf v).length = size ∧ off + (cellsOf v).length ≤ cs.length then vfill place (puts cs off (cellsOf v)) rest else none := rfl
theorem rowOf_cons_zero (x : Option Row) (H : Heap) : rowOf (x :: H) 0 = x := by simp [rowOf]
theorem rowOf_cons_succ (x : Option Row) (H : Heap) (n : Nat) : rowOf (x :: H) (n + 1) = rowOf H n := by simp [rowOf]
theorem lenw_sl (y : Ty) (n : Nat) (cs : List V) : lenw y (.sl n cs) KP = (y.sl.isSome = true ∧ KP (.int .i64 n)) := rfl
theorem lenw_ref (y : Ty) (r off n : Nat) : lenw y (.ref r off n) KP = (y.sl.isSome = true ∧ KP (.int .i64 n)) := rfl
theorem lenw_nil (y : Ty) : lenw y .nil KP = (y.sl.isSome = true ∧ KP (.int .i64 0)) := rfl
theorem builtinw_len (t : TypeId) (x : V) : builtinw ty .len [t] [x] H K = ((ty t).ok = true ∧ lenw (ty t) x fun v => K v H) := rfl
theorem builtinw_max (ats : List TypeId) (k k' : IntKind) (a b : Int) : builtinw ty .max ats [.int k a, .int k' b] H K = K (.int k (if b > a then b else a)) H := rfl
theorem builtinw_min (ats : List TypeId) (k k' : IntKind) (a b : Int) : builtinw ty .min ats [.int k a, .int k' b] H K = K (.int k (if b < a then b else a)) H := rfl
def appt (e : Option TypeId) (ty : TypeId → Ty) (s x : V) (H : Heap) (K : V → Heap → Prop) : Prop := match e with
  | some e => (ty e).ok = true ∧ appw (ty e) e s x H K
  | none => False
@[congr] theorem appt_congr {uu : Prop} (h00 : (True ∧ True) = uu) {e e' : Option TypeId} {s s' x x' : V} (h0 : e = e') (h1 : s = s') (h2 : x = x') (h3 : H = H') : appt e ty s x H K = appt e' ty s' x' H' K := by rw [h0, h1, h2, h3]
theorem builtinw_append (t : TypeId) (s x : V) : builtinw ty .append [t, t] [s, x] H K = ((ty t).ok = true ∧ appt (ty t).sl ty s x H K) := by simp only [builtinw, true_and]; rfl
theorem appt_some (e : TypeId) (s x : V) : appt (some e) ty s x H K = ((ty e).ok = true ∧ appw (ty e) e s x H K) := rfl
end

end Go.Bv
end

section
/-
  PART 15: regions that draw their order.
-/
set_option linter.unusedVariables false
set_option linter.unusedSimpArgs false
namespace Go.Bv
open Go.RowKit

def Same (H0 H : Heap) : Prop := ∀ r row, rowOf H0 r = some row → rowOf H r = some row
/-- A call whose answers are told (and there is one), and that leaves the rows as they are. -/
def Pc (C : Ctx) (f : FuncId) (args : List V) (H : Heap) (K : V → Heap → Prop) : Prop :=
  (∃ Q, Fc C f args H Q ∧ (∃ v H', Q v H') ∧ ∀ v H', Q v H' → Same H H' ∧ K v H') ∨ ∃ args' Q, Fc C f args' [] Q ∧ (∃ v H', Q v H') ∧ ((args' = args ∧ cloL args = true) ∨ (args.length = args'.length ∧ (∀ j, Bor H (nth args j) (nth args' j)) ∧ ∀ v H', Q v H' → plain v = true ∧ plainH H')) ∧
    ∀ v H', Q v H' → K (ren (shift H.length) v) (H ++ renH (shift H.length) H')
def cwP (C : Ctx) : CW := fun fv args H K =>
  match fv with
  | .fn (.func g) first caps => Pc C g (first ++ args ++ caps) H K
  | _ => False
theorem Pc.fc {C : Ctx} {f : FuncId} {args : List V} {H : Heap} {K : V → Heap → Prop} (h : Pc C f args H K) : Fc C f args H K := by
  rcases h with ⟨Q, h1, _, h2⟩ | ⟨args', Q, h1, _, h2, h3⟩
  · exact h1.mono fun v H' hq => (h2 v H' hq).2
  rcases h2 with ⟨rfl, hc⟩ | ⟨hl, hb, hp⟩
  · exact h1.call hc h3
  · exact h1.borrow hl hb hp h3
theorem cwP_sound (C : Ctx) (ro : Option Nat) : CWSound C ro (cwP C) := by
  intro o c f ho hc im pl w a fv args H K next Q h
  have h' : cwF C fv args H K := by
    unfold cwP at h
    split at h
    · exact h.fc
    · exact h.elim
  exact cwF_sound C ro o c f ho hc im pl w a fv args H K next Q h'

/-- What a meaning of calls must be, to stand in a region that draws. -/
structure CWok (cw : CW) : Prop where
  mono : ∀ {fv args H K K'}, (∀ v H', K v H' → K' v H') → cw fv args H K → cw fv args H K'
  strict : ∀ {fv args H p}, (cw fv args H fun _ _ => p) → p
  new : ∀ {fv args H K}, cw fv args H K → cw fv args H fun v H' => Same H H' ∧ K v H'
/-- What changes rows. -/
def isEff : Op → Bool
  | .alloc _ | .box _ _ | .buildSlice _ _ _ | .makeSlice _ _ _ | .store _ _ _ => true
  | .call c => match c.callee with
    | .builtin .len | .builtin .min | .builtin .max => false
    | _ => true
  | _ => false
def isStore : Op → Bool
  | .store _ _ _ => true
  | _ => false
def isLoad : Op → Bool
  | .load _ _ => true
  | _ => false
/-- What needs no row, or only that it is there. -/
def isQuiet : Op → Bool
  | .move _ | .assign _ | .pick _ _ _ | .unOp _ _ _ | .convert _ _ _ | .makeFunc _ _ _ | .extract _ _ | .nilCheck _ | .build _ _ | .slice _ _ _ _ none | .fieldAddr _ _ _ | .field _ _ _ | .indexAddr _ _ _ | .index _ _ _ => true
  | .binOp _ _ _ _ _ => true
  | .call c => match c.callee with
    | .builtin .len | .builtin .min | .builtin .max => true
    | _ => false
  | _ => false
def isNew : Op → Bool
  | .alloc _ | .box _ _ | .buildSlice _ _ _ | .makeSlice _ _ _ => true
  | .call c => match c.callee with
    | .value _ => true
    | _ => false
  | _ => false

def isApp : Op → Bool
  | .call c => match c.callee with
    | .builtin .append => true
    | _ => false
  | _ => false
/-- What looks at no row at all. -/
def isFree : Op → Bool
  | .move _ | .assign _ | .pick _ _ _ | .unOp _ _ _ | .convert _ _ _ | .makeFunc _ _ _ | .extract _ _ | .nilCheck _ | .build _ _ | .fieldAddr _ _ _ | .field _ _ _ | .index _ _ _ => true
  | .call c => match c.callee with
    | .builtin .len => true
    | _ => false
  | _ => false

def notNil : V → Bool
  | .nil => false
  | _ => true
/-- No comparison with nil. -/
def noNil (op : Op) (ts : List V) : Prop := match op with
  | .binOp _ _ _ y _ => notNil (ev ts y) = true
  | _ => True
/-- An operation of a region that draws: what only reads reads the rows as they were ahead of the region. -/
def opd (C : Ctx) (cw : CW) (op : Op) (ts : List V) (H0 H : Heap) (K : V → Heap → Prop) : Prop :=
  if isEff op then opc C.ty cw op ts H K else noNil op ts ∧ opc C.ty cw op ts H0 fun v _ => K v H
def opsd (C : Ctx) (cw : CW) (ops : Array Oper) (H0 : Heap) (K : List V → Heap → Prop) : List Oper → List V → Heap → Prop
  | [], ts, H => K ts H
  | o :: rest, ts, H => guardn ops o.guard ts (fun ts => opd C cw o.op ts H0 H fun v H' => opsd C cw ops H0 K rest (putd ts o.dst v) H') (fun ts => opsd C cw ops H0 K rest (putd ts o.dst (.tup [])) H)

/-! ### One operation, with its guard -/
def tro (C : Ctx) (cw : CW) (ops : Array Oper) (H0 : Heap) (o : Oper) (ts : List V) (H : Heap) (K : V → Heap → Prop) : Prop :=
  guardw ops o.guard ts (opd C cw o.op ts H0 H K) (K (.tup []) H)

theorem makew_mono {ty : TypeId → Ty} {t : TypeId} {l c : V} {H : Heap} {K K' : V → Heap → Prop} (hK : ∀ v H', K v H' → K' v H') (h : makew ty t l c H K) : makew ty t l c H K' := by
  revert h
  unfold makew
  split
  · rintro ⟨h1, h2, h3, h4, h5, h6⟩
    exact ⟨h1, h2, h3, h4, h5, hK _ _ h6⟩
  · exact id

theorem opc_mono {C : Ctx} {cw : CW} (hcw : CWok cw) {op : Op} {ts : List V} {H : Heap} {K K' : V → Heap → Prop} (hn : isNew op = true ∨ isStore op = true) (hK : ∀ v H', K v H' → K' v H') (h : opc C.ty cw op ts H K) : opc C.ty cw op ts H K' := by
  cases op with
  | alloc t => exact ⟨h.1, hK _ _ h.2⟩
  | box t x => exact ⟨h.1, hK _ _ h.2⟩
  | buildSlice t n ps =>
    simp only [opc, opw, buildSlw_eq] at h ⊢
    refine ⟨h.1, ?_⟩
    have h := h.2
    unfold bso at h ⊢
    split
    · rename_i e he
      rw [he] at h
      obtain ⟨h1, h2, h3, h4⟩ := h
      refine ⟨h1, h2, h3, ?_⟩
      unfold optw at h4 ⊢
      split
      · rename_i l hl; rw [hl] at h4; exact hK _ _ h4
      · rename_i hl; rw [hl] at h4; exact h4
    · rename_i he; rw [he] at h; exact h
  | makeSlice t l c =>
    simp only [opc, opw] at h ⊢
    refine ⟨h.1, ?_⟩
    exact makew_mono hK h.2
  | store t x v =>
    simp only [opc, opw] at h ⊢
    refine ⟨h.1, ?_⟩
    have h := h.2
    unfold storew at h ⊢
    split
    · rename_i r off hx
      simp only [hx] at h
      split
      · rename_i row hrow
        simp only [hrow] at h
        exact ⟨h.1, h.2.1, h.2.2.1, hK _ _ h.2.2.2⟩
      · rename_i hrow; simp only [hrow] at h
    · rename_i hne
      split at h
      · rename_i r off hx; exact (hne _ _ hx).elim
      · exact h
  | call c =>
    simp only [opc] at h ⊢
    cases hc : c.callee with
    | value f =>
      rw [hc] at h
      exact hcw.mono hK h
    | builtin b => simp [isNew, isStore, hc] at hn
    | invoke _ _ => simp [isNew, isStore, hc] at hn
  | _ => simp [isNew, isStore] at hn

theorem opc_strict {C : Ctx} {cw : CW} (hcw : CWok cw) {op : Op} {ts : List V} {H : Heap} {p : Prop} (hn : isNew op = true ∨ isStore op = true) (h : opc C.ty cw op ts H fun _ _ => p) : p := by
  cases op with
  | alloc t => exact h.2
  | box t x => exact h.2
  | buildSlice t n ps =>
    simp only [opc, opw, buildSlw_eq] at h
    have h := h.2
    unfold bso at h
    split at h
    · obtain ⟨h1, h2, h3, h4⟩ := h
      unfold optw at h4
      split at h4
      · exact h4
      · exact h4.elim
    · exact h.elim
  | makeSlice t l c =>
    simp only [opc, opw] at h
    have h := h.2
    unfold makew at h
    split at h
    · exact h.2.2.2.2.2
    · exact h.elim
  | store t x v =>
    simp only [opc, opw] at h
    have h := h.2
    unfold storew at h
    split at h
    · split at h
      · exact h.2.2.2
      · exact h.elim
    · exact h.elim
  | call c =>
    simp only [opc] at h
    cases hc : c.callee with
    | value f =>
      rw [hc] at h
      exact hcw.strict h
    | builtin b => simp [isNew, isStore, hc] at hn
    | invoke _ _ => simp [isNew, isStore, hc] at hn
  | _ => simp [isNew, isStore] at hn

/-- One value, if it may be done. -/
def Det (F : (V → Prop) → Prop) : Prop := ∃ (p : Prop) (v : V), ∀ k : V → Prop, F k ↔ (p ∧ k v)
theorem Det.of {F : (V → Prop) → Prop} (v : V) (h : ∀ k, F k ↔ k v) : Det F := ⟨True, v, fun k => by simp [h]⟩
theorem Det.no {F : (V → Prop) → Prop} (h : ∀ k, ¬ F k) : Det F := ⟨False, .any, fun k => ⟨fun h' => (h k h').elim, fun h' => h'.1.elim⟩⟩
theorem Det.and {F : (V → Prop) → Prop} {G : (V → Prop) → Prop} {q : Prop} (h : Det F) (hg : ∀ k, G k ↔ (q ∧ F k)) : Det G := by
  obtain ⟨p, v, h⟩ := h
  exact ⟨q ∧ p, v, fun k => by rw [hg, h, and_assoc]⟩
theorem Det.two {F : (V → Prop) → Prop} (q : Prop) (x y : V) (h : ∀ k, F k ↔ ((q → k x) ∧ (¬ q → k y))) : Det F := by
  by_cases hq : q
  · exact .of x fun k => by rw [h]; exact ⟨fun h => h.1 hq, fun h => ⟨fun _ => h, fun h' => (h' hq).elim⟩⟩
  · exact .of y fun k => by rw [h]; exact ⟨fun h => h.2 hq, fun h => ⟨fun h' => (hq h').elim, fun _ => h⟩⟩

theorem pickw_det (c a b : V) : Det (pickw c a b) := by
  cases c with
  | bool t => exact .two (t = true) a b fun k => by cases t <;> simp [pickw]
  | _ => exact .no fun k h => h
theorem intw_det (op : BinOp) (k k' : IntKind) (a b : Int) : Det (intw op k a k' b) := by
  cases op <;> first
    | exact .no fun k h => h
    | exact .and (q := k = k') (.of _ fun _ => Iff.rfl) fun _ => Iff.rfl
    | exact .and (q := k = k') (.and (q := b ≠ 0) (.of _ fun _ => Iff.rfl) fun _ => Iff.rfl) fun _ => Iff.rfl
    | exact .and (q := 0 ≤ b) (.of _ fun _ => Iff.rfl) fun _ => Iff.rfl
theorem binw_det (y : Ty) (op : BinOp) (a b : V) (H : Heap) (hb : notNil b = true) : Det (binw y op a b H) := by
  cases b with
  | int k' b' =>
    cases a with
    | int k a' => exact intw_det op k k' a' b'
    | _ => exact .no fun k h => h
  | bool b' =>
    cases a with
    | bool a' =>
      cases op <;> first
        | exact .no fun k h => h.2
        | exact .and (q := y.bl = true) (.of _ fun _ => Iff.rfl) fun _ => Iff.rfl
    | _ => exact .no fun k h => h
  | str b' =>
    cases a with
    | str a' =>
      cases op <;> first
        | exact .no fun k h => h
        | exact .of _ fun _ => Iff.rfl
    | _ => exact .no fun k h => h
  | nil => cases hb
  | _ => cases a <;> exact .no fun k h => h
theorem loadw_det (y : Ty) (x : V) (H : Heap) : Det (loadw y x H) := by
  cases x with
  | rp cs off => exact .and (.of _ fun _ => Iff.rfl) fun _ => Iff.rfl
  | ptr r off =>
    cases hrow : rowOf H r with
    | none => exact .no fun k h => by simp only [loadw, hrow] at h
    | some row => exact .and (q := off + y.size ≤ row.cs.length) (.of (pack y row.cs off) fun _ => Iff.rfl) fun k => by simp only [loadw, hrow]
  | _ => exact .no fun k h => h
theorem unw_det (op : UnOp) (x : V) : Det (unw op x) := by
  cases op <;> cases x <;> first
    | exact .no fun k h => h
    | exact .of _ fun _ => Iff.rfl
theorem convw_det (y : Ty) (x : V) : Det (convw y x) := by
  cases hk : y.ik with
  | none => exact .no fun k h => by simp [convw, hk] at h
  | some ik =>
    cases x with
    | int k n => exact .of (.int ik (ik.wrap n)) fun k => by simp [convw, hk]
    | _ => exact .no fun k h => by simp [convw, hk] at h
theorem extw_det (x : V) (i : Nat) : Det (extw x i) := by
  cases x with
  | tup vs => exact .and (.of _ fun _ => Iff.rfl) fun _ => Iff.rfl
  | _ => exact .no fun k h => h
theorem nilw_det (x : V) : Det (nilw x) := by
  cases x with
  | ptr r off => exact .of _ fun _ => Iff.rfl
  | rp cs off => exact .of _ fun _ => Iff.rfl
  | fn f xs ys => cases f <;> first | exact .of _ fun _ => Iff.rfl | exact .no fun k h => h
  | _ => exact .no fun k h => h
theorem fao_det (ty : TypeId → Ty) (f : Option (Nat × Nat)) (g : Nat → V) : Det fun k => fao ty f fun o => k (g o) := by
  cases f with
  | none => exact .no fun k h => h
  | some p => obtain ⟨o, u⟩ := p; exact .and (.and (.of _ fun _ => Iff.rfl) fun _ => Iff.rfl) fun _ => Iff.rfl
theorem faw_det (ty : TypeId → Ty) (f : Option (Nat × Nat)) (x : V) : Det (faw ty f x) := by
  cases x with
  | ptr r off => exact fao_det ty f _
  | rp cs off => exact fao_det ty f _
  | _ => exact .no fun k h => h
theorem fieldw_det (ty : TypeId → Ty) (y : Ty) (x : V) (f : Nat) : Det (fieldw ty y x f) := by
  cases hf : y.fs[f]? with
  | none => exact .no fun k h => by simp [fieldw, hf] at h
  | some p =>
    obtain ⟨o, u⟩ := p
    cases x with
    | agg cs => exact .and (q := (ty u).ok = true) (.and (q := o + (ty u).size ≤ cs.length) (.of (pack (ty u) cs o) fun _ => Iff.rfl) fun _ => Iff.rfl) fun k => by simp only [fieldw, hf]
    | _ => exact .no fun k h => by simp [fieldw, hf] at h
theorem idxo_det (ty : TypeId → Ty) (e : Option Nat) (n : Nat) (i : Int) (g : Nat → V) : Det fun k => idxo ty e n i fun o => k (g o) := by
  cases e with
  | none => exact .no fun k h => h
  | some e => exact .and (.and (.and (.of _ fun _ => Iff.rfl) fun _ => Iff.rfl) fun _ => Iff.rfl) fun _ => Iff.rfl
theorem idxw_det (ty : TypeId → Ty) (y : Ty) (x i : V) (H : Heap) : Det (idxw ty y x i H) := by
  refine .and (F := indexAddrw ty y x i) ?_ fun _ => Iff.rfl
  cases i with
  | int k i =>
    cases hs : y.sl with
    | some e =>
      cases x with
      | sl n cs => exact .and (q := (ty e).ok = true) (.and (q := 0 ≤ i) (.and (q := i < n) (.of (.rp cs (i.toNat * (ty e).size)) fun _ => Iff.rfl) fun _ => Iff.rfl) fun _ => Iff.rfl) fun k => by simp only [indexAddrw, hs]
      | ref r off n => exact .and (q := (ty e).ok = true) (.and (q := 0 ≤ i) (.and (q := i < n) (.of (.ptr r (off + i.toNat * (ty e).size)) fun _ => Iff.rfl) fun _ => Iff.rfl) fun _ => Iff.rfl) fun k => by simp only [indexAddrw, hs]
      | ptr r off =>
        cases ha : y.arr with
        | none => exact .no fun k h => by simp [indexAddrw, hs, ha] at h
        | some p => obtain ⟨n, e'⟩ := p; exact .and (q := (ty e').ok = true) (.and (q := 0 ≤ i) (.and (q := i < n) (.of (.ptr r (off + i.toNat * (ty e').size)) fun _ => Iff.rfl) fun _ => Iff.rfl) fun _ => Iff.rfl) fun k => by simp only [indexAddrw, hs, ha]
      | _ => exact .no fun k h => by simp [indexAddrw, hs] at h
    | none =>
      cases x with
      | ptr r off =>
        cases ha : y.arr with
        | none => exact .no fun k h => by simp [indexAddrw, hs, ha] at h
        | some p => obtain ⟨n, e'⟩ := p; exact .and (q := (ty e').ok = true) (.and (q := 0 ≤ i) (.and (q := i < n) (.of (.ptr r (off + i.toNat * (ty e').size)) fun _ => Iff.rfl) fun _ => Iff.rfl) fun _ => Iff.rfl) fun k => by simp only [indexAddrw, hs, ha]
      | _ => exact .no fun k h => by simp [indexAddrw, hs] at h
  | _ => exact .no fun k h => h
theorem indexw_det (ty : TypeId → Ty) (y : Ty) (x i : V) : Det (indexw ty y x i) := by
  cases ha : y.arr with
  | none =>
    cases x with
    | str s =>
      cases i with
      | int k i => exact .and (q := y.str = true) (.and (q := 0 ≤ i) (.and (q := i.toNat < s.size) (.of (.int .u8 ((s[i.toNat]?.getD 0).toNat : Int)) fun _ => Iff.rfl) fun _ => Iff.rfl) fun _ => Iff.rfl) fun k => by simp only [indexw, ha]
      | _ => exact .no fun k h => by simp [indexw, ha] at h
    | _ => exact .no fun k h => by simp [indexw, ha] at h
  | some p =>
    obtain ⟨n, e⟩ := p
    cases x with
    | agg cs =>
      cases i with
      | int k i => exact .and (q := (ty e).ok = true) (.and (q := 0 ≤ i) (.and (q := i < n) (.and (q := i.toNat * (ty e).size + (ty e).size ≤ cs.length) (.of (pack (ty e) cs (i.toNat * (ty e).size)) fun _ => Iff.rfl) fun _ => Iff.rfl) fun _ => Iff.rfl) fun _ => Iff.rfl) fun k => by simp only [indexw, ha]
      | _ => exact .no fun k h => by simp [indexw, ha] at h
    | _ => exact .no fun k h => by simp [indexw, ha] at h
theorem buildw_det (ty : TypeId → Ty) (t : TypeId) (ps : List (Nat × V)) : Det (buildw ty t ps) := by
  refine .and (.and (F := fun k => optw (vfill (fun i => ((ty t).fs[i]?).map fun p => (p.1, (ty p.2).size)) (zsOf (ty t)) ps) fun out => k (.agg out)) ?_ fun _ => Iff.rfl) fun _ => Iff.rfl
  cases vfill (fun i => ((ty t).fs[i]?).map fun p => (p.1, (ty p.2).size)) (zsOf (ty t)) ps with
  | none => exact .no fun k h => h
  | some l => exact .of _ fun _ => Iff.rfl
theorem lenw_det (y : Ty) (x : V) : Det (lenw y x) := by
  cases x with
  | sl n cs => exact .and (.of _ fun _ => Iff.rfl) fun _ => Iff.rfl
  | ref r off n => exact .and (.of _ fun _ => Iff.rfl) fun _ => Iff.rfl
  | nil => exact .and (.of _ fun _ => Iff.rfl) fun _ => Iff.rfl
  | str s => exact .and (.of _ fun _ => Iff.rfl) fun _ => Iff.rfl
  | _ => exact .no fun k h => h

theorem slicew_det (ty : TypeId → Ty) (y : Ty) (x : V) (lo hi : Option V) (H : Heap) : Det (slicew ty y x lo hi H) := by
  cases hs : y.sl with
  | none => exact .no fun k h => by simp [slicew, hs] at h
  | some e =>
    have main : ∀ {F : (V → Prop) → Prop}, Det F → (∀ k, slicew ty y x lo hi H k ↔ ((ty e).ok = true ∧ 0 < (ty e).size ∧ F k)) → Det (slicew ty y x lo hi H) := fun h hk => .and (.and h fun _ => Iff.rfl) fun k => by rw [hk]
    cases lo with
    | none =>
      cases hi with
      | none => exact .no fun k h => by simp [slicew, hs] at h
      | some v =>
        cases v with
        | int kk h =>
          cases x with
          | sl n cs => exact main (F := fun k => 0 ≤ h ∧ h ≤ n ∧ k (.sl h.toNat (cs.take (h.toNat * (ty e).size)))) (.and (.and (.of _ fun _ => Iff.rfl) fun _ => Iff.rfl) fun _ => Iff.rfl) fun k => by simp only [slicew, hs]
          | ref r off n => exact main (F := fun k => 0 ≤ h ∧ (rowOf H r).isSome = true ∧ h ≤ n ∧ (h = 0 → k (.sl 0 [])) ∧ (h ≠ 0 → k (.ref r off h.toNat))) (.and (.and (.and (.two (h = 0) _ _ fun _ => Iff.rfl) fun _ => Iff.rfl) fun _ => Iff.rfl) fun _ => Iff.rfl) fun k => by simp only [slicew, hs]
          | nil => exact main (F := fun k => 0 ≤ h ∧ h = 0 ∧ k .nil) (.and (.and (.of _ fun _ => Iff.rfl) fun _ => Iff.rfl) fun _ => Iff.rfl) fun k => by simp only [slicew, hs]
          | _ => exact .no fun k h => by simp [slicew, hs] at h
        | _ => exact .no fun k h => by simp [slicew, hs] at h
    | some u =>
      cases u with
      | int k0 l =>
        cases hi with
        | none =>
          cases x with
          | sl n cs => exact main (F := fun k => 0 ≤ l ∧ l ≤ n ∧ k (.sl (n - l.toNat) (cs.drop (l.toNat * (ty e).size)))) (.and (.and (.of _ fun _ => Iff.rfl) fun _ => Iff.rfl) fun _ => Iff.rfl) fun k => by simp only [slicew, hs]
          | ref r off n => exact main (F := fun k => 0 ≤ l ∧ (rowOf H r).isSome = true ∧ l ≤ n ∧ (l = n → k (.sl 0 [])) ∧ (l ≠ n → k (.ref r (off + l.toNat * (ty e).size) (n - l.toNat)))) (.and (.and (.and (.two (l = n) _ _ fun _ => Iff.rfl) fun _ => Iff.rfl) fun _ => Iff.rfl) fun _ => Iff.rfl) fun k => by simp only [slicew, hs]
          | nil => exact main (F := fun k => 0 ≤ l ∧ l = 0 ∧ k .nil) (.and (.and (.of _ fun _ => Iff.rfl) fun _ => Iff.rfl) fun _ => Iff.rfl) fun k => by simp only [slicew, hs]
          | _ => exact .no fun k h => by simp [slicew, hs] at h
        | some v =>
          cases v with
          | int kk h =>
            cases x with
            | sl n cs => exact main (F := fun k => 0 ≤ l ∧ l ≤ h ∧ h ≤ n ∧ k (.sl (h.toNat - l.toNat) ((cs.drop (l.toNat * (ty e).size)).take ((h.toNat - l.toNat) * (ty e).size)))) (.and (.and (.and (.of _ fun _ => Iff.rfl) fun _ => Iff.rfl) fun _ => Iff.rfl) fun _ => Iff.rfl) fun k => by simp only [slicew, hs]
            | ref r off n => exact main (F := fun k => 0 ≤ l ∧ l ≤ h ∧ (rowOf H r).isSome = true ∧ h ≤ n ∧ (l = h → k (.sl 0 [])) ∧ (l ≠ h → k (.ref r (off + l.toNat * (ty e).size) (h.toNat - l.toNat)))) (.and (.and (.and (.and (.two (l = h) _ _ fun _ => Iff.rfl) fun _ => Iff.rfl) fun _ => Iff.rfl) fun _ => Iff.rfl) fun _ => Iff.rfl) fun k => by simp only [slicew, hs]
            | nil => exact main (F := fun k => 0 ≤ l ∧ l ≤ h ∧ h = 0 ∧ k .nil) (.and (.and (.and (.of _ fun _ => Iff.rfl) fun _ => Iff.rfl) fun _ => Iff.rfl) fun _ => Iff.rfl) fun k => by simp only [slicew, hs]
            | _ => exact .no fun k h => by simp [slicew, hs] at h
          | _ => exact .no fun k h => by simp [slicew, hs] at h
      | _ => cases hi <;> exact .no fun k h => by simp [slicew, hs] at h
theorem builtinw_det (ty : TypeId → Ty) (b : Builtin) (hb : b = .len ∨ b = .min ∨ b = .max) (ats : List TypeId) (args : List V) (H : Heap) : Det fun k => builtinw ty b ats args H fun v _ => k v := by
  rcases hb with rfl | rfl | rfl
  · match ats, args with
    | [t], [x] => exact .and (lenw_det (ty t) x) fun _ => Iff.rfl
    | [], _ => exact .no fun k h => h
    | [_], [] => exact .no fun k h => h
    | [_], _ :: _ :: _ => exact .no fun k h => h
    | _ :: _ :: _, _ => exact .no fun k h => h
  · match args with
    | [x, y] =>
      cases x with
      | int k a =>
        cases y with
        | int k' b => exact .of _ fun _ => Iff.rfl
        | _ => exact .no fun k h => h
      | _ => exact .no fun k h => by cases y <;> exact h
    | [] => exact .no fun k h => by simp [builtinw] at h
    | [_] => exact .no fun k h => by simp [builtinw] at h
    | _ :: _ :: _ :: _ => exact .no fun k h => by simp [builtinw] at h
  · match args with
    | [x, y] =>
      cases x with
      | int k a =>
        cases y with
        | int k' b => exact .of _ fun _ => Iff.rfl
        | _ => exact .no fun k h => h
      | _ => exact .no fun k h => by cases y <;> exact h
    | [] => exact .no fun k h => by simp [builtinw] at h
    | [_] => exact .no fun k h => by simp [builtinw] at h
    | _ :: _ :: _ :: _ => exact .no fun k h => by simp [builtinw] at h

/-- What only reads comes to one value, if it may be done. -/
theorem opc_det {C : Ctx} {cw : CW} {op : Op} (hn : isQuiet op = true ∨ isLoad op = true) (ts : List V) (H : Heap) (hnil : noNil op ts) : Det fun k => opc C.ty cw op ts H fun v _ => k v := by
  cases op with
  | move x => exact .of _ fun _ => Iff.rfl
  | assign x => exact .of _ fun _ => Iff.rfl
  | pick c a b => exact pickw_det _ _ _
  | binOp o t x y yt => exact .and (binw_det _ _ _ _ _ hnil) fun _ => Iff.rfl
  | unOp o t x => exact unw_det _ _
  | convert s d x => exact .and (.and (convw_det _ _) fun _ => Iff.rfl) fun _ => Iff.rfl
  | makeFunc fn a b => exact .of _ fun _ => Iff.rfl
  | extract x i => exact extw_det _ _
  | nilCheck x => exact nilw_det _
  | load t x => exact .and (loadw_det _ _ _) fun _ => Iff.rfl
  | build t ps => exact .and (buildw_det _ _ _) fun _ => Iff.rfl
  | slice t x lo hi mx =>
    cases mx with
    | none => exact .and (.and (slicew_det _ _ _ _ _ _) fun _ => Iff.rfl) fun _ => Iff.rfl
    | some m => simp [isQuiet, isLoad] at hn
  | fieldAddr t x f => exact .and (faw_det C.ty ((C.ty t).fs[f]?) (ev ts x)) fun k => by rw [opc_fieldAddr]
  | field t x f => exact .and (fieldw_det _ _ _ _) fun _ => Iff.rfl
  | indexAddr t x i => exact .and (idxw_det _ _ _ _ _) fun _ => Iff.rfl
  | index t x i => exact .and (indexw_det _ _ _ _) fun _ => Iff.rfl
  | call c =>
    obtain ⟨callee, args, ats⟩ := c
    cases callee with
    | builtin b =>
      have hb : b = .len ∨ b = .min ∨ b = .max := by
        cases b <;> simp [isQuiet, isLoad] at hn ⊢
      exact builtinw_det _ b hb _ _ _
    | value f => simp [isQuiet, isLoad] at hn
    | invoke _ _ => simp [isQuiet, isLoad] at hn
  | _ => simp [isQuiet, isLoad] at hn

/-! ### What is looked at -/
theorem ev_put {ts : List V} {d : Option Tmp} {v : V} {x : Operand} (h : ∀ t, d = some t → x ≠ .tmp t) : ev (putd ts d v) x = ev ts x := by
  cases d with
  | none => rfl
  | some t =>
    cases x with
    | tmp u =>
      have hne : u ≠ t := fun e => h t rfl (by rw [e])
      simp only [ev, putd, nth_upd]
      rw [if_neg (fun h => hne h.1)]
    | _ => rfl
theorem upd_comm {ts : List V} {i j : Nat} (h : i ≠ j) (x y : V) : upd (upd ts i x) j y = upd (upd ts j y) i x := by
  induction ts generalizing i j with
  | nil => rfl
  | cons a l ih =>
    cases i with
    | zero => cases j with
      | zero => exact (h rfl).elim
      | succ j => rfl
    | succ i => cases j with
      | zero => rfl
      | succ j => simp only [upd]; rw [ih (by omega)]
theorem putd_comm {ts : List V} {d e : Option Tmp} (h : ∀ t, d = some t → e ≠ some t) (x y : V) : putd (putd ts d x) e y = putd (putd ts e y) d x := by
  cases d with
  | none => rfl
  | some i => cases e with
    | none => rfl
    | some j => exact upd_comm (fun e => h i rfl (by rw [e])) x y

theorem opc_ts {ty : TypeId → Ty} {cw : CW} {op : Op} {ts ts' : List V} (h : ∀ x ∈ op.operands, ev ts x = ev ts' x) : opc ty cw op ts = opc ty cw op ts' := by
  have hp : ∀ (ps : Array (Nat × Operand)), (∀ x ∈ (ps.toList.map (·.2)), ev ts x = ev ts' x) → (ps.toList.map fun p => (p.1, ev ts p.2)) = ps.toList.map fun p => (p.1, ev ts' p.2) := fun ps h => List.map_congr_left fun p hp => by rw [h p.2 (List.mem_map_of_mem hp)]
  have ha : ∀ (xs : Array Operand), (∀ x ∈ xs, ev ts x = ev ts' x) → xs.toList.map (ev ts) = xs.toList.map (ev ts') := fun xs h => List.map_congr_left fun x hx => h x (by simpa using hx)
  have ho : ∀ (o : Option Operand), (∀ x ∈ o, ev ts x = ev ts' x) → o.map (ev ts) = o.map (ev ts') := fun o h => by cases o with | none => rfl | some x => simp [h x rfl]
  funext H K
  cases op with
  | move x => have e := h x (by simp [Op.operands]); simp only [opc, opw, e]
  | assign x => have e := h x (by simp [Op.operands]); simp only [opc, opw, e]
  | pick c a b => have e1 := h c (by simp [Op.operands]); have e2 := h a (by simp [Op.operands]); have e3 := h b (by simp [Op.operands]); simp only [opc, opw, e1, e2, e3]
  | binOp o t x y yt => have e1 := h x (by simp [Op.operands]); have e2 := h y (by simp [Op.operands]); simp only [opc, opw, e1, e2]
  | unOp o t x => have e := h x (by simp [Op.operands]); simp only [opc, opw, e]
  | convert s d x => have e := h x (by simp [Op.operands]); simp only [opc, opw, e]
  | makeFunc fn first caps => simp only [opc, opw, ha first (fun x hx => h x (by simp [Op.operands, hx])), ha caps (fun x hx => h x (by simp [Op.operands, hx]))]
  | extract x i => have e := h x (by simp [Op.operands]); simp only [opc, opw, e]
  | nilCheck x => have e := h x (by simp [Op.operands]); simp only [opc, opw, e]
  | load t x => have e := h x (by simp [Op.operands]); simp only [opc, opw, e]
  | store t x v => have e1 := h x (by simp [Op.operands]); have e2 := h v (by simp [Op.operands]); simp only [opc, opw, e1, e2]
  | box t x => have e := h x (by simp [Op.operands]); simp only [opc, opw, e]
  | alloc t => rfl
  | build t ps => simp only [opc, opw, hp ps (fun x hx => h x (by simpa [Op.operands] using hx))]
  | buildSlice t n ps => simp only [opc, opw, hp ps (fun x hx => h x (by simpa [Op.operands] using hx))]
  | makeSlice t a v => have e1 := h a (by simp [Op.operands]); have e2 := h v (by simp [Op.operands]); simp only [opc, opw, e1, e2]
  | slice t x lo hi mx =>
    have e := h x (by simp [Op.operands])
    have e1 := ho lo (fun y hy => h y (by simp only [Option.mem_def] at hy; simp [Op.operands, hy]))
    have e2 := ho hi (fun y hy => h y (by simp only [Option.mem_def] at hy; simp [Op.operands, hy]))
    simp only [opc, opw, e, e1, e2]
  | fieldAddr t x f => have e := h x (by simp [Op.operands]); simp only [opc, opw, e]
  | field t x f => have e := h x (by simp [Op.operands]); simp only [opc, opw, e]
  | indexAddr t x i => have e1 := h x (by simp [Op.operands]); have e2 := h i (by simp [Op.operands]); simp only [opc, opw, e1, e2]
  | index t x i => have e1 := h x (by simp [Op.operands]); have e2 := h i (by simp [Op.operands]); simp only [opc, opw, e1, e2]
  | call c =>
    obtain ⟨callee, args, ats⟩ := c
    have e := ha args (fun x hx => h x (by simp [Op.operands, Call.operands, hx]))
    cases callee with
    | builtin b => simp only [opc, e]
    | value f =>
      have ef := h f (by simp [Op.operands, Call.operands])
      simp only [opc, e, ef]
    | invoke _ _ => rfl
  | _ => rfl

theorem noNil_congr {op : Op} {ts ts' : List V} (h : ∀ x ∈ op.operands, ev ts x = ev ts' x) : noNil op ts = noNil op ts' := by
  cases op with
  | binOp o t x y yt => have e2 := h y (by simp [Op.operands]); simp only [noNil, e2]
  | _ => rfl
theorem opd_congr {C : Ctx} {cw : CW} {op : Op} {ts ts' : List V} {H0 : Heap} (h : ∀ x ∈ op.operands, ev ts x = ev ts' x) : opd C cw op ts H0 = opd C cw op ts' H0 := by
  funext H K
  simp only [opd, opc_ts h, noNil_congr h]
theorem tro_put {C : Ctx} {cw : CW} {ops : Array Oper} {H0 : Heap} {o : Oper} {ts : List V} {d : Option Tmp} {v : V} (h : ∀ t, d = some t → t ∉ o.looksAt ops) : tro C cw ops H0 o (putd ts d v) = tro C cw ops H0 o ts := by
  have e : opd C cw o.op (putd ts d v) H0 = opd C cw o.op ts H0 := opd_congr fun x hx => ev_put fun t ht hxt => h t ht (by
    subst hxt
    exact List.mem_append_left _ (List.mem_filterMap.2 ⟨.tmp t, by simpa using hx, rfl⟩))
  funext H K
  simp only [tro, e]
  cases hg : o.guard with
  | none => rfl
  | some g =>
    obtain ⟨j, want⟩ := g
    simp only [guardw]
    cases hd : (ops[j]?).bind (·.dst) with
    | none => rfl
    | some u =>
      have hu : nth (putd ts d v) u = nth ts u := by
        cases d with
        | none => rfl
        | some t =>
          have hne : u ≠ t := fun e => h t rfl (by subst e; simp [Oper.looksAt, hg, hd])
          simp only [putd, nth_upd]
          rw [if_neg (fun h => hne h.1)]
      simp only [hu]

/-! ### One operation of a region that draws -/
def known (op : Op) : Bool := if isEff op then isNew op || isStore op || isApp op else isQuiet op || isLoad op

theorem appw_mono {y : Ty} {e : TypeId} {s x : V} {H : Heap} {K K' : V → Heap → Prop} (hK : ∀ v H', K v H' → K' v H') (h : appw y e s x H K) : appw y e s x H K' := by
  revert h
  unfold appw
  split
  · exact id
  · rintro ⟨h1, h2, h3, h4, h5⟩
    refine ⟨h1, h2, h3, h4, ?_⟩
    revert h5
    split
    · exact fun h => ⟨h.1, hK _ _ h.2⟩
    · split
      · exact fun h => ⟨h.1, h.2.1, h.2.2.1, h.2.2.2.1, h.2.2.2.2.1, hK _ _ h.2.2.2.2.2⟩
      · exact id
    · exact fun h => ⟨h.1, hK _ _ h.2⟩
    · exact id
theorem appw_strict {y : Ty} {e : TypeId} {s x : V} {H : Heap} {p : Prop} (h : appw y e s x H fun _ _ => p) : p := by
  revert h
  unfold appw
  split
  · exact fun h => h.elim
  · rintro ⟨h1, h2, h3, h4, h5⟩
    revert h5
    split
    · exact fun h => h.2
    · split
      · exact fun h => h.2.2.2.2.2
      · exact fun h => h.elim
    · exact fun h => h.2
    · exact fun h => h.elim
theorem builtinw_app_mono {ty : TypeId → Ty} {ats : List TypeId} {args : List V} {H : Heap} {K K' : V → Heap → Prop} (hK : ∀ v H', K v H' → K' v H') (h : builtinw ty .append ats args H K) : builtinw ty .append ats args H K' := by
  match ats, args with
  | [t, t'], [s, x] =>
    simp only [builtinw] at h ⊢
    obtain ⟨h1, h2, h3⟩ := h
    refine ⟨h1, h2, ?_⟩
    revert h3
    split
    · exact fun h => ⟨h.1, appw_mono hK h.2⟩
    · exact id
  | [], _ => simp [builtinw] at h
  | [_], _ => simp [builtinw] at h
  | _ :: _ :: _ :: _, _ => simp [builtinw] at h
  | [_, _], [] => simp [builtinw] at h
  | [_, _], [_] => simp [builtinw] at h
  | [_, _], _ :: _ :: _ :: _ => simp [builtinw] at h
theorem builtinw_app_strict {ty : TypeId → Ty} {ats : List TypeId} {args : List V} {H : Heap} {p : Prop} (h : builtinw ty .append ats args H fun _ _ => p) : p := by
  match ats, args with
  | [t, t'], [s, x] =>
    simp only [builtinw] at h
    obtain ⟨h1, h2, h3⟩ := h
    revert h3
    split
    · exact fun h => appw_strict h.2
    · exact fun h => h.elim
  | [], _ => simp [builtinw] at h
  | [_], _ => simp [builtinw] at h
  | _ :: _ :: _ :: _, _ => simp [builtinw] at h
  | [_, _], [] => simp [builtinw] at h
  | [_, _], [_] => simp [builtinw] at h
  | [_, _], _ :: _ :: _ :: _ => simp [builtinw] at h
theorem isApp_call {op : Op} (h : isApp op = true) : ∃ c, op = .call c ∧ c.callee = .builtin .append := by
  unfold isApp at h
  split at h
  · rename_i c
    split at h
    · rename_i hc; exact ⟨c, rfl, hc⟩
    · cases h
  · cases h
theorem opc_app_mono {C : Ctx} {cw : CW} {op : Op} {ts : List V} {H : Heap} {K K' : V → Heap → Prop} (hn : isApp op = true) (hK : ∀ v H', K v H' → K' v H') (h : opc C.ty cw op ts H K) : opc C.ty cw op ts H K' := by
  obtain ⟨c, rfl, hc⟩ := isApp_call hn
  simp only [opc, hc] at h ⊢
  exact builtinw_app_mono hK h
theorem opc_app_strict {C : Ctx} {cw : CW} {op : Op} {ts : List V} {H : Heap} {p : Prop} (hn : isApp op = true) (h : opc C.ty cw op ts H fun _ _ => p) : p := by
  obtain ⟨c, rfl, hc⟩ := isApp_call hn
  simp only [opc, hc] at h
  exact builtinw_app_strict h
theorem opc_free_up {C : Ctx} {cw : CW} {op : Op} {ts : List V} {H0 H : Heap} {K : V → Heap → Prop} (hn : isFree op = true) (h : opc C.ty cw op ts H0 fun v _ => K v H) : opc C.ty cw op ts H K := by
  cases op with
  | call c =>
    simp only [isFree] at hn
    split at hn
    · rename_i hc
      simp only [opc, hc] at h ⊢
      revert h
      generalize c.argTypes.toList = ats
      generalize (c.args.toList.map (ev ts)) = args
      match ats, args with
      | [t], [x] => exact id
      | [], _ => intro h; simp [builtinw] at h
      | _ :: _ :: _, _ => intro h; simp [builtinw] at h
      | [_], [] => intro h; simp [builtinw] at h
      | [_], _ :: _ :: _ => intro h; simp [builtinw] at h
    · cases hn
  | move _ | assign _ | pick _ _ _ | unOp _ _ _ | convert _ _ _ | makeFunc _ _ _ | extract _ _ | nilCheck _ | build _ _ | fieldAddr _ _ _ | field _ _ _ | index _ _ _ => exact h
  | _ => simp [isFree] at hn

theorem tro_mono {C : Ctx} {cw : CW} (hcw : CWok cw) {ops : Array Oper} {H0 : Heap} {o : Oper} {ts : List V} {H : Heap} {K K' : V → Heap → Prop} (hk : known o.op = true) (hK : ∀ v H', K v H' → K' v H') (h : tro C cw ops H0 o ts H K) : tro C cw ops H0 o ts H K' := by
  have main : opd C cw o.op ts H0 H K → opd C cw o.op ts H0 H K' := by
    unfold opd known at *
    split
    · rename_i he
      simp only [he, if_true, Bool.or_eq_true] at hk
      rcases hk with hk | hk
      · exact opc_mono hcw hk hK
      · exact opc_app_mono hk hK
    · rename_i he
      simp only [he, Bool.false_eq_true, if_false, Bool.or_eq_true] at hk
      rintro ⟨h1, h2⟩
      obtain ⟨p, v, hd⟩ := opc_det hk ts H0 h1
      refine ⟨h1, (hd (fun v => K' v H)).2 ?_⟩
      have := (hd (fun v => K v H)).1 h2
      exact ⟨this.1, hK _ _ this.2⟩
  revert h
  unfold tro guardw
  split
  · exact main
  · split
    · split
      · exact fun h => ⟨fun e => main (h.1 e), fun e => hK _ _ (h.2 e)⟩
      · exact hK _ _
      · exact id
    · exact id
theorem tro_strict {C : Ctx} {cw : CW} (hcw : CWok cw) {ops : Array Oper} {H0 : Heap} {o : Oper} {ts : List V} {H : Heap} {p : Prop} (hk : known o.op = true) (h : tro C cw ops H0 o ts H fun _ _ => p) : p := by
  have main : opd C cw o.op ts H0 H (fun _ _ => p) → p := by
    unfold opd known at *
    split
    · rename_i he
      simp only [he, if_true, Bool.or_eq_true] at hk
      rcases hk with hk | hk
      · exact opc_strict hcw hk
      · exact opc_app_strict hk
    · rename_i he
      simp only [he, Bool.false_eq_true, if_false, Bool.or_eq_true] at hk
      rintro ⟨h1, h2⟩
      obtain ⟨q, v, hd⟩ := opc_det hk ts H0 h1
      exact ((hd (fun _ => p)).1 h2).2
  revert h
  unfold tro guardw
  split
  · exact main
  · split
    · split
      · rename_i want _ _ _ _ _ b _
        intro h
        by_cases hb : b = want
        · exact main (h.1 hb)
        · exact h.2 hb
      · exact id
      · exact fun h => h.elim
    · exact fun h => h.elim
theorem tro_det {C : Ctx} {cw : CW} {ops : Array Oper} {H0 : Heap} {o : Oper} (ts : List V) (hk : known o.op = true) (he : isEff o.op = false) : ∃ p v, ∀ H K, tro C cw ops H0 o ts H K ↔ (p ∧ K v H) := by
  have main : ∃ p v, ∀ H K, opd C cw o.op ts H0 H K ↔ (p ∧ K v H) := by
    simp only [known, he, Bool.false_eq_true, if_false, Bool.or_eq_true] at hk
    by_cases h1 : noNil o.op ts
    · obtain ⟨q, v, hd⟩ := opc_det (C := C) hk ts H0 h1
      refine ⟨q, v, fun H K => ?_⟩
      simp only [opd, he, Bool.false_eq_true, if_false, h1, true_and]
      exact hd fun v => K v H
    · exact ⟨False, .any, fun H K => by simp [opd, he, h1]⟩
  unfold tro guardw
  split
  · exact main
  · split
    · split
      · rename_i want _ _ _ _ _ b _
        by_cases hb : b = want
        · obtain ⟨p, v, h⟩ := main
          exact ⟨p, v, fun H K => by simp [hb, h]⟩
        · exact ⟨True, .tup [], fun H K => by simp [hb]⟩
      · exact ⟨True, .tup [], fun H K => by simp⟩
      · exact ⟨False, .any, fun H K => by simp⟩
    · exact ⟨False, .any, fun H K => by simp⟩

/-- Two that stand apart may be done the other way about. -/
theorem tro_swap {C : Ctx} {cw : CW} (hcw : CWok cw) {ops : Array Oper} {H0 : Heap} {x y : Oper} {ts : List V} {H : Heap} {K : List V → Heap → Prop} (hx : known x.op = true) (hy : known y.op = true) (hap : x.apart ops y = true) (he : isEff x.op = false ∨ isEff y.op = false)
    (h : tro C cw ops H0 x ts H fun v H1 => tro C cw ops H0 y (putd ts x.dst v) H1 fun u H2 => K (putd (putd ts x.dst v) y.dst u) H2) :
    tro C cw ops H0 y ts H fun u H1 => tro C cw ops H0 x (putd ts y.dst u) H1 fun v H2 => K (putd (putd ts y.dst u) x.dst v) H2 := by
  obtain ⟨h1, h2, h3⟩ := Oper.apart_spec hap
  simp only [tro_put h1] at h
  simp only [tro_put h3]
  have e : ∀ u v, putd (putd ts y.dst u) x.dst v = putd (putd ts x.dst v) y.dst u := fun u v => (putd_comm h2 v u).symm
  simp only [e]
  rcases he with he | he
  · obtain ⟨p, v, hd⟩ := tro_det (C := C) (cw := cw) (ops := ops) (H0 := H0) ts hx he
    simp only [hd] at h ⊢
    refine tro_mono hcw hy (fun _ _ h' => h') ?_
    obtain ⟨hp, h⟩ := h
    exact tro_mono hcw hy (fun _ _ h' => ⟨hp, h'⟩) h
  · obtain ⟨p, u, hd⟩ := tro_det (C := C) (cw := cw) (ops := ops) (H0 := H0) ts hy he
    simp only [hd] at h ⊢
    exact ⟨tro_strict hcw hx (tro_mono hcw hx (fun _ _ h' => h'.1) h), tro_mono hcw hx (fun _ _ h' => h'.2) h⟩

/-! ### Along a list of operations -/
def opsx (C : Ctx) (cw : CW) (ops : Array Oper) (H0 : Heap) (K : List V → Heap → Prop) : List Nat → List V → Heap → Prop
  | [], ts, H => K ts H
  | i :: rest, ts, H => match ops[i]? with
    | none => opsx C cw ops H0 K rest ts H
    | some o => tro C cw ops H0 o ts H fun v H' => opsx C cw ops H0 K rest (putd ts o.dst v) H'

def allKnown (ops : Array Oper) : Bool := ops.toList.all fun o => known o.op
theorem allKnown_at {ops : Array Oper} (h : allKnown ops = true) {i : Nat} {o : Oper} (ho : ops[i]? = some o) : known o.op = true := by
  simp only [allKnown, List.all_eq_true] at h
  exact h o (by simpa using Array.mem_of_getElem? ho)

def okPair (ops : Array Oper) (i j : Nat) : Bool := match ops[i]?, ops[j]? with
  | some x, some y => x.apart ops y && (!isEff x.op || !isEff y.op)
  | _, _ => true
theorem opsx_swap {C : Ctx} {cw : CW} (hcw : CWok cw) {ops : Array Oper} {H0 : Heap} {K : List V → Heap → Prop} {i j : Nat} {rest : List Nat} {ts : List V} {H : Heap} (hk : allKnown ops = true) (hp : okPair ops i j = true) (h : opsx C cw ops H0 K (i :: j :: rest) ts H) : opsx C cw ops H0 K (j :: i :: rest) ts H := by
  simp only [opsx] at h ⊢
  cases hi : ops[i]? with
  | none => simp only [hi] at h ⊢; cases hj : ops[j]? with
    | none => simpa only [hj] using h
    | some y => simpa only [hj] using h
  | some x => cases hj : ops[j]? with
    | none => simp only [hi, hj] at h ⊢; exact h
    | some y =>
      simp only [hi, hj] at h ⊢
      simp only [okPair, hi, hj, Bool.and_eq_true, Bool.or_eq_true, Bool.not_eq_true'] at hp
      exact tro_swap hcw (allKnown_at hk hi) (allKnown_at hk hj) hp.1 hp.2 h
theorem opsx_tail {C : Ctx} {cw : CW} (hcw : CWok cw) {ops : Array Oper} {H0 : Heap} {K : List V → Heap → Prop} {l l' : List Nat} (hk : allKnown ops = true) (hl : ∀ ts H, opsx C cw ops H0 K l ts H → opsx C cw ops H0 K l' ts H) (i : Nat) {ts : List V} {H : Heap} (h : opsx C cw ops H0 K (i :: l) ts H) : opsx C cw ops H0 K (i :: l') ts H := by
  simp only [opsx] at h ⊢
  cases hi : ops[i]? with
  | none => simp only [hi] at h ⊢; exact hl _ _ h
  | some x => simp only [hi] at h ⊢; exact tro_mono hcw (allKnown_at hk hi) (fun _ _ h => hl _ _ h) h
theorem opsx_bubble {C : Ctx} {cw : CW} (hcw : CWok cw) {ops : Array Oper} {H0 : Heap} {K : List V → Heap → Prop} (hk : allKnown ops = true) {i : Nat} (l2 : List Nat) : ∀ (l1 : List Nat), (∀ j ∈ l1, okPair ops j i = true) → ∀ ts H, opsx C cw ops H0 K (l1 ++ i :: l2) ts H → opsx C cw ops H0 K (i :: (l1 ++ l2)) ts H
  | [], _, ts, H, h => h
  | j :: l1, hp, ts, H, h => opsx_swap hcw hk (hp j (by simp)) (opsx_tail hcw hk (opsx_bubble hcw hk l2 l1 fun j hj => hp j (by simp [hj])) j h)

/-! ### Rows that stand, rows that are as they were -/
def Stand (H0 H : Heap) : Prop := ∀ r, (rowOf H0 r).isSome = true → (rowOf H r).isSome = true
theorem Same.stand {H0 H : Heap} (h : Same H0 H) : Stand H0 H := fun r hr => by
  obtain ⟨row, hrow⟩ := Option.isSome_iff_exists.1 hr
  rw [h r row hrow]; rfl
theorem Same.refl (H : Heap) : Same H H := fun _ _ h => h
theorem Same.trans {H0 H1 H2 : Heap} (h : Same H0 H1) (k : Same H1 H2) : Same H0 H2 := fun r row hr => k r row (h r row hr)
theorem Stand.trans {H0 H1 H2 : Heap} (h : Stand H0 H1) (k : Stand H1 H2) : Stand H0 H2 := fun r hr => k r (h r hr)
theorem Same.app (H X : Heap) : Same H (H ++ X) := fun r row hr => by
  have h1 := rowOf_some hr
  have hlt : r < H.length := (List.getElem?_eq_some_iff.1 h1).1
  simp only [rowOf, List.getElem?_append_left hlt, h1]; rfl
theorem Stand.set (H : Heap) (r : Nat) (row : Row) : Stand H (H.set r (some row)) := fun q hq => by
  obtain ⟨x, hx⟩ := Option.isSome_iff_exists.1 hq
  have h1 := rowOf_some hx
  have hlt : q < H.length := (List.getElem?_eq_some_iff.1 h1).1
  simp only [rowOf, List.getElem?_set]
  split
  · rename_i e; subst e; simp [hlt]
  · rw [h1]; rfl

theorem opc_new {C : Ctx} {cw : CW} (hcw : CWok cw) {op : Op} {ts : List V} {H : Heap} {K : V → Heap → Prop} (hn : isNew op = true) (h : opc C.ty cw op ts H K) : opc C.ty cw op ts H fun v H' => Same H H' ∧ K v H' := by
  cases op with
  | alloc t => exact ⟨h.1, .app _ _, h.2⟩
  | box t x => exact ⟨h.1, .app _ _, h.2⟩
  | buildSlice t n ps =>
    simp only [opc, opw, buildSlw_eq] at h ⊢
    refine ⟨h.1, ?_⟩
    have h := h.2
    unfold bso at h ⊢
    split
    · rename_i e he
      rw [he] at h
      obtain ⟨h1, h2, h3, h4⟩ := h
      refine ⟨h1, h2, h3, ?_⟩
      unfold optw at h4 ⊢
      split
      · rename_i l hl; rw [hl] at h4; exact ⟨.app _ _, h4⟩
      · rename_i hl; rw [hl] at h4; exact h4
    · rename_i he; rw [he] at h; exact h
  | makeSlice t l c =>
    simp only [opc, opw] at h ⊢
    refine ⟨h.1, ?_⟩
    have h := h.2
    revert h
    unfold makew
    split
    · rintro ⟨h1, h2, h3, h4, h5, h6⟩
      exact ⟨h1, h2, h3, h4, h5, .app _ _, h6⟩
    · exact id
  | call c =>
    simp only [opc] at h ⊢
    cases hc : c.callee with
    | value f =>
      rw [hc] at h
      exact hcw.new h
    | builtin b => simp [isNew, hc] at hn
    | invoke _ _ => simp [isNew, hc] at hn
  | _ => simp [isNew] at hn
theorem opc_stored {C : Ctx} {cw : CW} {op : Op} {ts : List V} {H : Heap} {K : V → Heap → Prop} (hn : isStore op = true) (h : opc C.ty cw op ts H K) : opc C.ty cw op ts H fun v H' => Stand H H' ∧ K v H' := by
  cases op with
  | store t x v =>
    simp only [opc, opw] at h ⊢
    refine ⟨h.1, ?_⟩
    have h := h.2
    unfold storew at h ⊢
    split
    · rename_i r off hx
      simp only [hx] at h
      split
      · rename_i row hrow
        simp only [hrow] at h
        exact ⟨h.1, h.2.1, h.2.2.1, .set _ _ _, h.2.2.2⟩
      · rename_i hrow; simp only [hrow] at h
    · rename_i hne
      split at h
      · rename_i r off hx; exact (hne _ _ hx).elim
      · exact h
  | _ => simp [isStore] at hn

theorem binw_up {y : Ty} {op : BinOp} {a b : V} {H0 H : Heap} {K : V → Prop} (hb : notNil b = true) (h : binw y op a b H0 K) : binw y op a b H K := by
  cases b with
  | nil => cases hb
  | _ => cases a <;> exact h
theorem slicew_up {ty : TypeId → Ty} {y : Ty} {x : V} {lo hi : Option V} {H0 H : Heap} {K : V → Prop} (hl : Stand H0 H) (h : slicew ty y x lo hi H0 K) : slicew ty y x lo hi H K := by
  cases hs : y.sl with
  | none => simp [slicew, hs] at h
  | some e =>
    cases lo with
    | none => cases hi with
      | none => simp [slicew, hs] at h
      | some v => cases v with
        | int kk n => cases x with
          | ref r off m => simp only [slicew, hs] at h ⊢; exact ⟨h.1, h.2.1, h.2.2.1, hl _ h.2.2.2.1, h.2.2.2.2⟩
          | _ => simp only [slicew, hs] at h ⊢; exact h
        | _ => simp [slicew, hs] at h
    | some u => cases u with
      | int k0 l => cases hi with
        | none => cases x with
          | ref r off m => simp only [slicew, hs] at h ⊢; exact ⟨h.1, h.2.1, h.2.2.1, hl _ h.2.2.2.1, h.2.2.2.2⟩
          | _ => simp only [slicew, hs] at h ⊢; exact h
        | some v => cases v with
          | int kk n => cases x with
            | ref r off m => simp only [slicew, hs] at h ⊢; exact ⟨h.1, h.2.1, h.2.2.1, h.2.2.2.1, hl _ h.2.2.2.2.1, h.2.2.2.2.2⟩
            | _ => simp only [slicew, hs] at h ⊢; exact h
          | _ => simp [slicew, hs] at h
      | _ => cases hi <;> simp [slicew, hs] at h
theorem loadw_up {y : Ty} {x : V} {H0 H : Heap} {K : V → Prop} (hl : Same H0 H) (h : loadw y x H0 K) : loadw y x H K := by
  cases x with
  | ptr r off =>
    simp only [loadw] at h ⊢
    cases hrow : rowOf H0 r with
    | none => rw [hrow] at h; exact h.elim
    | some row => rw [hrow] at h; rw [hl r row hrow]; exact h
  | _ => exact h

theorem opc_up {C : Ctx} {cw : CW} {op : Op} {ts : List V} {H0 H : Heap} {K : V → Heap → Prop} (hn : (isQuiet op = true ∧ Stand H0 H) ∨ (isLoad op = true ∧ Same H0 H)) (hnil : noNil op ts) (h : opc C.ty cw op ts H0 fun v _ => K v H) : opc C.ty cw op ts H K := by
  rcases hn with ⟨hn, hl⟩ | ⟨hn, hl⟩
  · cases op with
    | binOp o t x y yt => exact ⟨h.1, binw_up hnil h.2⟩
    | slice t x lo hi mx => exact ⟨h.1, h.2.1, slicew_up hl h.2.2⟩
    | indexAddr t x i =>
      simp only [opc, opw] at h ⊢
      refine ⟨h.1, ?_, h.2.2⟩
      have h := h.2.1
      revert h
      cases ev ts x <;> first | exact hl _ | exact id
    | call c =>
      obtain ⟨callee, args, ats⟩ := c
      cases callee with
      | builtin b =>
        have hb : b = .len ∨ b = .min ∨ b = .max := by
          cases b <;> simp [isQuiet] at hn ⊢
        simp only [opc] at h ⊢
        revert h
        generalize ats.toList = ats', args.toList.map (ev ts) = args'
        rcases hb with rfl | rfl | rfl
        · match ats', args' with
          | [t], [x] => exact id
          | [], _ => exact fun h => h.elim
          | [_], [] => exact fun h => h.elim
          | [_], _ :: _ :: _ => exact fun h => h.elim
          | _ :: _ :: _, _ => exact fun h => h.elim
        · match args' with
          | [x, y] => cases x <;> cases y <;> exact id
          | [] => intro h; simp [builtinw] at h
          | [_] => intro h; simp [builtinw] at h
          | _ :: _ :: _ :: _ => intro h; simp [builtinw] at h
        · match args' with
          | [x, y] => cases x <;> cases y <;> exact id
          | [] => intro h; simp [builtinw] at h
          | [_] => intro h; simp [builtinw] at h
          | _ :: _ :: _ :: _ => intro h; simp [builtinw] at h
      | value f => simp [isQuiet] at hn
      | invoke _ _ => simp [isQuiet] at hn
    | move _ | assign _ | pick _ _ _ | unOp _ _ _ | convert _ _ _ | makeFunc _ _ _ | extract _ _ | nilCheck _ | build _ _ | fieldAddr _ _ _ | field _ _ _ | index _ _ _ => exact h
    | _ => simp [isQuiet] at hn
  · cases op with
    | load t x => exact ⟨h.1, loadw_up hl h.2⟩
    | _ => simp [isLoad] at hn

/-! ### What is looked at once, of a region -/
def bindsTo (o : Oper) (j : Nat) : Bool := o.after.toList.any fun e => Region.binds .any e && e.on == j
/-- j is ahead of i in every order. -/
def ahead (ops : Array Oper) : Nat → Nat → Nat → Bool
  | 0, _, _ => false
  | fuel + 1, j, i => match ops[i]? with
    | none => false
    | some o => bindsTo o j || o.after.toList.any fun e => Region.binds .any e && (match ops[e.on]? with | some p => isEff p.op | none => false) && ahead ops fuel j e.on
def aheadA (ops : Array Oper) : Nat → Nat → Nat → Bool
  | 0, _, _ => false
  | fuel + 1, j, i => match ops[i]? with
    | none => false
    | some o => bindsTo o j || o.after.toList.any fun e => Region.binds .any e && decide (j < e.on) && aheadA ops fuel j e.on
def drawOK (ops : Array Oper) : Bool :=
  allKnown ops &&
  (List.range ops.size).all fun i => match ops[i]? with
    | none => true
    | some o =>
      (o.after.toList.all fun e => !Region.binds .any e || decide (e.on < i)) &&
      ((List.range i).all fun j => okPair ops j i || ahead ops i j i) &&
      (!isStore o.op || (List.range ops.size).all fun j => match ops[j]? with
        | some p => !isLoad p.op || bindsTo o j
        | none => true) &&
      (!isApp o.op || (List.range ops.size).all fun j => match ops[j]? with
        | some p => isFree p.op || isEff p.op || aheadA ops i j i
        | none => true)

def Closed (ops : Array Oper) (listed : Array Bool) : Prop := ∀ i o, ops[i]? = some o → listed.getD i false = true → ∀ j, bindsTo o j = true → listed.getD j false = true
theorem ahead_listed {ops : Array Oper} {listed : Array Bool} (hc : Closed ops listed) : ∀ (fuel j i : Nat) (o : Oper), ops[i]? = some o → (∀ k, bindsTo o k = true → listed.getD k false = true) → ahead ops fuel j i = true → listed.getD j false = true := by
  intro fuel
  induction fuel with
  | zero => intro j i o ho hb h; simp [ahead] at h
  | succ fuel ih =>
    intro j i o ho hb h
    simp only [ahead, ho, Bool.or_eq_true, List.any_eq_true, Bool.and_eq_true] at h
    rcases h with h | ⟨e, he, ⟨h1, h2⟩, h3⟩
    · exact hb j h
    · have hl : listed.getD e.on false = true := hb e.on (by simp only [bindsTo, List.any_eq_true, Bool.and_eq_true]; exact ⟨e, he, h1, by simp⟩)
      cases hp : ops[e.on]? with
      | none => simp [hp] at h2
      | some p => exact ih j e.on p hp (hc e.on p hp hl) h3

theorem aheadA_listed {ops : Array Oper} {listed : Array Bool} (hc : Closed ops listed) : ∀ (fuel j i : Nat) (o : Oper), ops[i]? = some o → (∀ k, bindsTo o k = true → listed.getD k false = true) → aheadA ops fuel j i = true → listed.getD j false = true := by
  intro fuel
  induction fuel with
  | zero => intro j i o ho hb h; simp [aheadA] at h
  | succ fuel ih =>
    intro j i o ho hb h
    simp only [aheadA, ho, Bool.or_eq_true, List.any_eq_true, Bool.and_eq_true] at h
    rcases h with h | ⟨e, he, ⟨h1, h2⟩, h3⟩
    · exact hb j h
    · have hl : listed.getD e.on false = true := hb e.on (by simp only [bindsTo, List.any_eq_true, Bool.and_eq_true]; exact ⟨e, he, h1, by simp⟩)
      cases hp : ops[e.on]? with
      | none =>
        cases fuel with
        | zero => simp [aheadA] at h3
        | succ f => simp [aheadA, hp] at h3
      | some p => exact ih j e.on p hp (hc e.on p hp hl) h3

theorem opd_sound {C : Ctx} {cw : CW} (hcw : CWok cw) {op : Op} {ts : List V} {H0 H : Heap} {K : V → Heap → Prop} (hk : known op = true) (hS : Same H0 H ∨ (Stand H0 H ∧ isLoad op = false) ∨ (isFree op = true ∨ isEff op = true)) (h : opd C cw op ts H0 H K) :
    opc C.ty cw op ts H fun v H' => (Same H H' ∨ (isStore op = true ∧ Stand H H') ∨ isApp op = true) ∧ K v H' := by
  unfold opd known at *
  split at h
  · rename_i he
    simp only [he, if_true, Bool.or_eq_true] at hk
    rcases hk with (hk | hk) | hk
    · exact opc_mono hcw (.inl hk) (fun v H' h => ⟨.inl h.1, h.2⟩) (opc_new hcw hk h)
    · exact opc_mono hcw (.inr hk) (fun v H' h => ⟨.inr (.inl ⟨hk, h.1⟩), h.2⟩) (opc_stored hk h)
    · exact opc_app_mono hk (fun v H' h => ⟨.inr (.inr hk), h⟩) h
  · rename_i he
    simp only [he, Bool.false_eq_true, if_false, Bool.or_eq_true] at hk
    obtain ⟨h1, h2⟩ := h
    obtain ⟨p, v, hd⟩ := opc_det (C := C) hk ts H0 h1
    have h2 := (hd (fun v => K v H)).1 h2
    have h2' := (hd fun v => (Same H H ∨ (isStore op = true ∧ Stand H H) ∨ isApp op = true) ∧ K v H).2 ⟨h2.1, .inl (.refl _), h2.2⟩
    rcases hS with hS | hS | hS
    · refine opc_up ?_ h1 h2'
      rcases hk with hk | hk
      · exact .inl ⟨hk, hS.stand⟩
      · exact .inr ⟨hk, hS⟩
    · refine opc_up ?_ h1 h2'
      rcases hk with hk | hk
      · exact .inl ⟨hk, hS.1⟩
      · have := hS.2; rw [hk] at this; cases this
    · rcases hS with hS | hS
      · exact opc_free_up hS h2'
      · exact (he hS).elim

theorem ready_mem {ops : Array Oper} {listed : Array Bool} {i : Nat} (h : i ∈ Region.ready .any ops listed) : listed.getD i true = false ∧ ∃ o, ops[i]? = some o ∧ ∀ j, bindsTo o j = true → listed.getD j false = true := by
  obtain ⟨h1, o, h2, h3⟩ := mem_ready.1 h
  refine ⟨h1, o, h2, fun j hj => ?_⟩
  simp only [bindsTo, List.any_eq_true, Bool.and_eq_true] at hj
  obtain ⟨e, he, h4, h5⟩ := hj
  have := h3 e (by simpa using he) h4
  rw [beq_iff_eq] at h5
  rwa [h5] at this

structure Left (ops : Array Oper) (listed : Array Bool) (S : List Nat) : Prop where
  size : listed.size = ops.size
  sorted : S.Pairwise (· < ·)
  mem : ∀ i, i ∈ S ↔ i < ops.size ∧ listed.getD i false = false
  closed : Closed ops listed

theorem Left.take {ops : Array Oper} {listed : Array Bool} {l1 l2 : List Nat} {i : Nat} {o : Oper} (h : Left ops listed (l1 ++ i :: l2)) (ho : ops[i]? = some o) (hb : ∀ j, bindsTo o j = true → listed.getD j false = true) : Left ops (listed.setIfInBounds i true) (l1 ++ l2) := by
  have hi := (h.mem i).1 (by simp)
  have hlt : i < listed.size := by rw [h.size]; exact hi.1
  have hget : ∀ j, (listed.setIfInBounds i true).getD j false = if i = j then true else listed.getD j false := fun j => by
    simp only [Array.getD_eq_getD_getElem?, Array.getElem?_setIfInBounds]
    split
    · simp [hlt]
    · rfl
  have hs := h.sorted
  rw [List.pairwise_append] at hs
  obtain ⟨s1, s2, s3⟩ := hs
  rw [List.pairwise_cons] at s2
  refine ⟨by simp [h.size], List.pairwise_append.2 ⟨s1, s2.2, fun a ha b hb' => s3 a ha b (by simp [hb'])⟩, fun j => ?_, fun k p hp hl j hj => ?_⟩
  · rw [hget]
    have hm := h.mem j
    simp only [List.mem_append, List.mem_cons] at hm ⊢
    by_cases e : i = j
    · subst e
      simp only [if_true, Bool.true_eq_false, and_false, iff_false]
      rintro (h1 | h1)
      · have := s3 i h1 i (by simp); omega
      · have := s2.1 i h1; omega
    · rw [if_neg e]
      rw [← hm]
      constructor
      · rintro (h1 | h1)
        · exact .inl h1
        · exact .inr (.inr h1)
      · rintro (h1 | h1 | h1)
        · exact .inl h1
        · exact (e h1.symm).elim
        · exact .inr h1
  · rw [hget] at hl ⊢
    split
    · rfl
    · split at hl
      · rename_i e; subst e; rw [ho] at hp; cases hp; exact hb j hj
      · exact h.closed k p hp hl j hj

/-- What is asked of an operation of a region that draws, of those that are spoken of. -/
def Hat (ops : Array Oper) (G : Nat → Prop) (i : Nat) (o : Oper) : Prop := (∀ j, bindsTo o j = true → j < i) ∧ (∀ j, j < i → G j → okPair ops j i = true ∨ ahead ops i j i = true) ∧ (isStore o.op = true → ∀ j p, ops[j]? = some p → isLoad p.op = true → bindsTo o j = true) ∧
      (isApp o.op = true → ∀ j p, ops[j]? = some p → (isFree p.op = true ∨ isEff p.op = true) ∨ aheadA ops i j i = true)
theorem drawOK_hat {ops : Array Oper} (hok : drawOK ops = true) (G : Nat → Prop) : ∀ i o, ops[i]? = some o → G i → Hat ops G i o := by
  intro i o ho _
  have hlt : i < ops.size := (Array.getElem?_eq_some_iff.1 ho).1
  simp only [drawOK, Bool.and_eq_true, List.all_eq_true, List.mem_range] at hok
  have h := hok.2 i hlt
  simp only [ho, Bool.and_eq_true, List.all_eq_true, List.mem_range, Bool.or_eq_true, Bool.not_eq_true', decide_eq_true_eq] at h
  refine ⟨fun j hj => ?_, fun j hj _ => h.1.1.2 j hj, fun hs j p hp hl => ?_, fun hs j p hp => ?_⟩
  · simp only [bindsTo, List.any_eq_true, Bool.and_eq_true] at hj
    obtain ⟨e, he, h4, h5⟩ := hj
    rw [beq_iff_eq] at h5
    subst h5
    rcases h.1.1.1 e he with h6 | h6
    · rw [h4] at h6; cases h6
    · exact h6
  · have hlj : j < ops.size := (Array.getElem?_eq_some_iff.1 hp).1
    rcases h.1.2 with h6 | h6
    · rw [hs] at h6; cases h6
    · have := h6 j hlj
      simp only [hp, Bool.or_eq_true, Bool.not_eq_true', hl, Bool.true_eq_false, false_or] at this
      exact this
  · have hlj : j < ops.size := (Array.getElem?_eq_some_iff.1 hp).1
    rcases h.2 with h6 | h6
    · rw [hs] at h6; cases h6
    · have := h6 j hlj
      simp only [hp, Bool.or_eq_true] at this
      exact this
theorem any_soundG {C : Ctx} {cw : CW} (hcw : CWok cw) {ro : Option Nat} {ops : Array Oper} {H0 : Heap} {K : List V → Heap → Prop} {R : Exit → Act → World → Prop} {Inv : List V → Heap → Act → World → Prop} (hk : allKnown ops = true) (G : Nat → Prop) (hat : ∀ i o, ops[i]? = some o → G i → Hat ops G i o)
    (htr : ∀ ts H a w, Inv ts H a w → ∃ im pl, TR im pl w ts a.tmps)
    (hop : ∀ (i : Nat) (o : Oper), ops[i]? = some o → ∀ (ts : List V) (H : Heap) (a : Act) (w : World) (KK : V → Heap → Prop) (next : Act → World → Prop), opc C.ty cw o.op ts H KK → Inv ts H a w →
      (∀ v vc H' w', KK v H' → Inv (putd ts o.dst v) H' (a.put o.dst vc) w' → next (a.put o.dst vc) w') → o.wpIn (FW ro) 0 C.P a w next R)
    (hskip : ∀ ts H a w d, Inv ts H a w → Inv (putd ts d (.tup [])) H (a.put d (.tuple [].toArray)) w)
    (hK : ∀ a w ts H, K ts H → Inv ts H a w → R .normal a w) :
    ∀ (fuel : Nat) (S : List Nat) (listed : Array Bool) (ts : List V) (H : Heap) (w : World) (a : Act), (∀ i ∈ S, G i) → Left ops listed S → S.length ≤ fuel →
    (Same H0 H ∨ (Stand H0 H ∧ ∀ j ∈ S, ∀ p, ops[j]? = some p → isLoad p.op = false) ∨ (∀ j ∈ S, ∀ p, ops[j]? = some p → isFree p.op = true ∨ isEff p.op = true)) → opsx C cw ops H0 K S ts H → Inv ts H a w →
    wpAnyIn (FW ro) 0 C.P .any ops R fuel listed a w := by
  intro fuel
  have step : ∀ (S : List Nat) (listed : Array Bool), (∀ i ∈ S, G i) → Left ops listed S → Region.ready .any ops listed = [] → S = [] := by
    intro S listed hG hL hr
    cases S with
    | nil => rfl
    | cons i S =>
      exfalso
      have hi := (hL.mem i).1 (by simp)
      have : i ∈ Region.ready .any ops listed := by
        refine mem_ready.2 ⟨?_, ops[i], by simp [hi.1], fun e he hb => ?_⟩
        · have hlt : i < listed.size := by rw [hL.size]; exact hi.1
          have := hi.2
          simp only [Array.getD_eq_getD_getElem?, hlt, Array.getElem?_eq_getElem, Option.getD_some] at this ⊢
          exact this
        · have hbt : bindsTo ops[i] e.on = true := by
            simp only [bindsTo, List.any_eq_true, Bool.and_eq_true]
            exact ⟨e, by simpa using he, hb, by simp⟩
          have hlt := (hat i ops[i] (by simp [hi.1]) (hG i (by simp))).1 e.on hbt
          cases hl : listed.getD e.on false with
          | true => rfl
          | false =>
            have := (hL.mem e.on).2 ⟨by omega, hl⟩
            have hs := hL.sorted
            rw [List.pairwise_cons] at hs
            rcases List.mem_cons.1 this with h1 | h1
            · omega
            · have := hs.1 _ h1; omega
      rw [hr] at this
      cases this
  induction fuel with
  | zero =>
    intro S listed ts H w a hG hL hlen hS hx hR
    have : S = [] := List.length_eq_zero_iff.1 (by omega)
    subst this
    refine ⟨?_, hK a w ts H hx hR⟩
    cases hr : Region.ready .any ops listed with
    | nil => rfl
    | cons i l =>
      exfalso
      obtain ⟨h1, o, ho, h3⟩ := ready_mem (listed := listed) (i := i) (by rw [hr]; simp)
      have hlt : i < ops.size := (Array.getElem?_eq_some_iff.1 ho).1
      have hlt' : i < listed.size := by rw [hL.size]; exact hlt
      have := (hL.mem i).2 ⟨hlt, by simpa only [Array.getD_eq_getD_getElem?, hlt', Array.getElem?_eq_getElem, Option.getD_some] using h1⟩
      cases this
  | succ fuel ih =>
    intro S listed ts H w a hG hL hlen hS hx hR
    refine ⟨fun hr => ?_, fun i hi => ?_⟩
    · have := step S listed hG hL hr
      subst this
      exact hK a w ts H hx hR
    · obtain ⟨h1, o, ho, h3⟩ := ready_mem hi
      have hlt : i < ops.size := (Array.getElem?_eq_some_iff.1 ho).1
      have hlt' : i < listed.size := by rw [hL.size]; exact hlt
      have hm := (hL.mem i).2 ⟨hlt, by simpa only [Array.getD_eq_getD_getElem?, hlt', Array.getElem?_eq_getElem, Option.getD_some] using h1⟩
      obtain ⟨l1, l2, rfl⟩ := List.append_of_mem hm
      have hs := hL.sorted
      rw [List.pairwise_append] at hs
      have hGi := hG i hm
      have hb : opsx C cw ops H0 K (i :: (l1 ++ l2)) ts H := by
        refine opsx_bubble hcw hk l2 l1 (fun j hj => ?_) ts H hx
        have hji : j < i := hs.2.2 j hj i (by simp)
        rcases (hat i o ho hGi).2.1 j hji (hG j (by simp [hj])) with h4 | h4
        · exact h4
        · have h5 := ahead_listed hL.closed i j i o ho h3 h4
          have h6 := (hL.mem j).1 (by simp [hj])
          rw [h5] at h6
          cases h6.2
      have hL' := hL.take ho h3
      have hlen' : (l1 ++ l2).length ≤ fuel := by simp only [List.length_append, List.length_cons] at hlen ⊢; omega
      have hsub : ∀ j, j ∈ l1 ++ l2 → j ∈ l1 ++ i :: l2 := fun j hj => by
        simp only [List.mem_append, List.mem_cons] at hj ⊢
        rcases hj with h | h
        · exact .inl h
        · exact .inr (.inr h)
      simp only [opsx, ho] at hb
      unfold wpOpIn
      simp only [ho]
      obtain ⟨im, pl, hTR⟩ := htr _ _ _ _ hR
      rcases guard_sound hb hTR with ⟨hw, h⟩ | ⟨hw, h⟩
      · rw [if_pos hw]
        have hS1 : Same H0 H ∨ (Stand H0 H ∧ isLoad o.op = false) ∨ (isFree o.op = true ∨ isEff o.op = true) := hS.imp id fun h => h.imp (fun h => ⟨h.1, h.2 i hm o ho⟩) (fun h => h i hm o ho)
        refine hop i o ho ts H a w _ _ (opd_sound hcw (allKnown_at hk ho) hS1 h) hR fun v vc H' w' k1 k2 => ?_
        refine ih (l1 ++ l2) _ _ H' w' _ (fun j hj => hG j (hsub j hj)) hL' hlen' ?_ k1.2 k2
        rcases k1.1 with k5 | ⟨k5, k6⟩ | k5
        · rcases hS with hS | hS | hS
          · exact .inl (hS.trans k5)
          · exact .inr (.inl ⟨hS.1.trans k5.stand, fun j hj p hp => hS.2 j (hsub j hj) p hp⟩)
          · exact .inr (.inr fun j hj p hp => hS j (hsub j hj) p hp)
        · have hnl : ∀ j ∈ l1 ++ l2, ∀ p, ops[j]? = some p → isLoad p.op = false := fun j hj p hp => by
            cases hl : isLoad p.op with
            | false => rfl
            | true =>
              have h7 := (hat i o ho hGi).2.2.1 k5 j p hp hl
              have h8 := h3 j h7
              have h9 := (hL.mem j).1 (hsub j hj)
              rw [h8] at h9
              cases h9.2
          rcases hS with hS | hS | hS
          · exact .inr (.inl ⟨hS.stand.trans k6, hnl⟩)
          · exact .inr (.inl ⟨hS.1.trans k6, hnl⟩)
          · exact .inr (.inr fun j hj p hp => hS j (hsub j hj) p hp)
        · refine .inr (.inr fun j hj p hp => ?_)
          rcases (hat i o ho hGi).2.2.2 k5 j p hp with h7 | h7
          · exact h7
          · have h8 := aheadA_listed hL.closed i j i o ho h3 h7
            have h9 := (hL.mem j).1 (hsub j hj)
            rw [h8] at h9
            cases h9.2
      · rw [if_neg (by simp [hw])]
        refine ⟨fun _ _ => trivial, ih (l1 ++ l2) _ _ H w _ (fun j hj => hG j (hsub j hj)) hL' hlen' ?_ h (hskip _ _ _ _ _ hR)⟩
        exact hS.imp id fun h => h.imp (fun h => ⟨h.1, fun j hj p hp => h.2 j (hsub j hj) p hp⟩) (fun h j hj p hp => h j (hsub j hj) p hp)

theorem opsx_of {C : Ctx} {cw : CW} (hcw : CWok cw) {ops : Array Oper} {H0 : Heap} {K : List V → Heap → Prop} (hk : allKnown ops = true) : ∀ (l : List Oper) (k : Nat) (ts : List V) (H : Heap), ops.toList.drop k = l → opsd C cw ops H0 K l ts H → opsx C cw ops H0 K (List.range' k l.length) ts H := by
  intro l
  induction l with
  | nil => intro k ts H hl h; exact h
  | cons o l ih =>
    intro k ts H hl h
    have ho : ops[k]? = some o := by
      have : (ops.toList.drop k)[0]? = some o := by rw [hl]; rfl
      simpa [List.getElem?_drop] using this
    have hl' : ops.toList.drop (k + 1) = l := by
      have : (ops.toList.drop k).tail = l := by rw [hl]; rfl
      simpa [List.tail_drop] using this
    simp only [List.length_cons, List.range'_succ, opsx, ho]
    simp only [opsd] at h
    have : tro C cw ops H0 o ts H fun v H' => opsd C cw ops H0 K l (putd ts o.dst v) H' := guardn_old h
    exact tro_mono hcw (allKnown_at hk ho) (fun v H' h => ih (k + 1) _ H' hl' h) this

theorem cwP_ok (C : Ctx) : CWok (cwP C) := by
  refine ⟨?_, ?_, ?_⟩
  · intro fv args H K K' hK h
    unfold cwP at h ⊢
    split
    · rename_i g xs ys
      rcases h with ⟨Q, h1, h2, h4⟩ | ⟨args', Q, h1, h2, h3, h4⟩
      · exact .inl ⟨Q, h1, h2, fun v H' hq => ⟨(h4 v H' hq).1, hK _ _ (h4 v H' hq).2⟩⟩
      · exact .inr ⟨args', Q, h1, h2, h3, fun v H' hq => hK _ _ (h4 v H' hq)⟩
    · rename_i hne
      split at h
      · rename_i g xs ys; exact (hne _ _ _ rfl).elim
      · exact h
  · intro fv args H p h
    unfold cwP at h
    split at h
    · rcases h with ⟨Q, h1, ⟨v, H', h2⟩, h4⟩ | ⟨args', Q, h1, ⟨v, H', h2⟩, h3, h4⟩
      · exact (h4 v H' h2).2
      · exact h4 v H' h2
    · exact h.elim
  · intro fv args H K h
    unfold cwP at h ⊢
    split
    · rcases h with ⟨Q, h1, h2, h4⟩ | ⟨args', Q, h1, h2, h3, h4⟩
      · exact .inl ⟨Q, h1, h2, fun v H' hq => ⟨(h4 v H' hq).1, h4 v H' hq⟩⟩
      · exact .inr ⟨args', Q, h1, h2, h3, fun v H' hq => ⟨.app _ _, h4 v H' hq⟩⟩
    · rename_i hne
      split at h
      · rename_i g xs ys; exact (hne _ _ _ rfl).elim
      · exact h
/-- **A region that draws its order.** -/
theorem T_draw {C : Ctx} {ro : Option Nat} (hm : C.P.follows .mixedOrders = true) {id : Nat} {ops : Array Oper} {Q : Exit → List V → Heap → Prop} {ts : List V} {H : Heap} (hok : drawOK ops = true) (h : opsd C (cwP C) ops H (Q .normal) ops.toList ts H) : T C ro (.region id ops true) Q ts H := by
  intro im pl w a hr
  have hk : allKnown ops = true := by simp only [drawOK, Bool.and_eq_true] at hok; exact hok.1
  refine wpIn_region_any hm ?_
  have hx := opsx_of (cwP_ok C) hk ops.toList 0 ts H (by simp) h
  have hvr : ∀ {v c}, VR im pl w v c → VR im pl { w with drawn := w.drawn + 1 } v c := fun h => VR.world (w := w) (w' := { w with drawn := w.drawn + 1 }) (fun _ _ _ (h : w.cell? _ = some _) => h) h
  have hE : Ext im pl w im pl { w with drawn := w.drawn + 1 } := ⟨rfl, rfl, rfl, Nat.le_refl _, fun _ h => h, fun _ h => .inl h, fun _ _ => .inl rfl, fun r b cap h => .inl ⟨r, cap, h⟩, fun _ _ _ => rfl⟩
  have hr' : Rel im pl { w with drawn := w.drawn + 1 } ts H a := by
    refine ⟨⟨hr.tr.1, fun i => hvr (hr.tr.2 i)⟩, ?_, hr.df.mono hE⟩
    obtain ⟨g1, g2, g3, g4, g5, g6, g7, g8⟩ := hr.hr
    refine ⟨g1, g2, g3, g4, g5, g6, g7, fun r b cap hp => ?_⟩
    obtain ⟨e, s, cs, cur, f1, f2, f3, f4, f5, f6⟩ := g8 r b cap hp
    exact ⟨e, s, cs, cur, f1, f2, f3, f4, f5, fun j => hvr (f6 j)⟩
  refine any_soundG (cwP_ok C) (ro := ro) (ops := ops) (H0 := H) (K := Q .normal) (R := Post im pl w a.defers Q) (Inv := fun ts' H' a' w' => ∃ im' pl', Rel im' pl' w' ts' H' a' ∧ Ext im pl w im' pl' w' ∧ a'.defers = a.defers) hk (fun _ => True) (drawOK_hat hok _) ?_ ?_ ?_ ?_
    ops.size (List.range' 0 ops.toList.length) _ ts H _ a (fun _ _ => trivial) ⟨by simp, ?_, fun i => ?_, fun i o ho hl => ?_⟩ (by simp) (.inl (.refl _)) hx ⟨im, pl, hr', hE, rfl⟩
  · rintro ts' H' a' w' ⟨im', pl', h1, _, _⟩; exact ⟨im', pl', h1.tr⟩
  · rintro _ o _ ts' H' a' w' KK next ho ⟨im', pl', h1, h2, h3⟩ hnext
    exact opc_sound (cwP_sound C ro) ho h1.tr h1.hr fun v vc H2 im2 pl2 w2 k1 k2 k3 k4 => hnext v vc H2 w2 k1 ⟨im2, pl2, h1.put k4 k3 k2 _, h2.trans k4, by rw [put_defers]; exact h3⟩
  · rintro ts' H' a' w' d ⟨im', pl', h1, h2, h3⟩
    exact ⟨im', pl', h1.put (.refl _ _ _) h1.hr (.tup [] [] rfl fun j => by simp [nth, List.getD]; exact .any _) _, h2, by rw [put_defers]; exact h3⟩
  · rintro a' w' ts' H' k1 ⟨im', pl', k2, k3, k4⟩
    exact ⟨ts', H', im', pl', k1, k2, k3, by rw [k4]; exact .refl _ _⟩
  · exact List.pairwise_lt_range' ..
  · simp only [List.mem_range'_1, Nat.zero_le, true_and, Nat.zero_add, Array.length_toList]
    simp only [Array.getD_eq_getD_getElem?, Array.getElem?_replicate]
    constructor
    · intro h; refine ⟨h, ?_⟩; simp [h]
    · exact fun h => h.1
  · exfalso
    simp only [Array.getD_eq_getD_getElem?, Array.getElem?_replicate] at hl
    split at hl <;> simp at hl

end Go.Bv
end
