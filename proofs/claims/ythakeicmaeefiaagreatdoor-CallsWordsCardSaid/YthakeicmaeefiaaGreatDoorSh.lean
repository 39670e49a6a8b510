/-
  A shallow reading of code: 'sh' turns a function's body into a proposition over values and worlds (a weakest precondition without frames), by plain recursion,
  so that the kernel reckons it; 'sh_calls': what that proposition says, the call does. For regions that draw their order: operations that only compute or load are taken early,
  and what was loaded early must still stand behind each operation that could have come first.
-/
import Derived.OrdersHeld
import Derived.Deep.Draws
import Derived.Tactics
import Derived.Laws.Sem
import Derived.Scope
set_option linter.unusedVariables false
set_option linter.unusedSimpArgs false
namespace Go.Sh
open Go

/-! ### Frames as functions -/
abbrev Env := Nat → Value
def Env.put (e : Env) (d : Nat) (v : Value) : Env := fun i => bif Nat.beq i d then v else e i
def Env.putO (e : Env) : Option Tmp → Value → Env
  | some d, v => e.put d v
  | none, _ => e
def Env.ev (e : Env) : Operand → Value
  | .tmp t => e t
  | .const v => v
  | .global g => .pointer (some ⟨g, 0, none⟩)
  | .func f => .func (.func f) #[] #[]
def Env.of (l : List Value) : Env := fun i => l.getD i undef

structure Rel (n : Nat) (e : Env) (a : Act) : Prop where
  size : a.tmps.size = n
  defers : a.defers = []
  at_ : ∀ i, i < n → a.tmps[i]? = some (e i)

theorem Env.put_same (e : Env) (d : Nat) (v : Value) : e.put d v d = v := by simp [Env.put]
theorem Env.put_ne (e : Env) {d i : Nat} (v : Value) (h : i ≠ d) : e.put d v i = e i := by
  simp only [Env.put]
  have : Nat.beq i d = false := by
    cases hb : Nat.beq i d
    · rfl
    · exact absurd (Nat.eq_of_beq_eq_true hb) h
  rw [this]; rfl

theorem Rel.put {n : Nat} {e : Env} {a : Act} (h : Rel n e a) (d : Nat) (v : Value) : Rel n (e.put d v) (a.put (some d) v) := by
  refine ⟨by simp [Act.put, h.size], h.defers, fun i hi => ?_⟩
  by_cases hid : i = d
  · subst hid
    simp [Act.put, Env.put_same, h.size, hi]
  · simp [Act.put, Env.put_ne e v hid, Array.getElem?_setIfInBounds_ne (Ne.symm hid), h.at_ i hi]
theorem Rel.putO {n : Nat} {e : Env} {a : Act} (h : Rel n e a) (d : Option Tmp) (v : Value) : Rel n (e.putO d v) (a.put d v) := by
  cases d with
  | none => exact h
  | some d => exact h.put d v
theorem Rel.congr {n : Nat} {e e' : Env} {a : Act} (h : Rel n e a) (he : ∀ i, i < n → e' i = e i) : Rel n e' a :=
  ⟨h.size, h.defers, fun i hi => by rw [he i hi]; exact h.at_ i hi⟩

/-! ### Operations -/
def isC : Operand → Bool
  | .const _ => true
  | _ => false
def mkC : Bool → Operand
  | true => .const undef
  | false => .tmp 0
def vS (s : Sem Value) : Sem Next := do pure (.value (← s))
def uS (s : Sem Unit) : Sem Next := do s; pure .skip
def oBin (op : BinOp) (t : TypeId) (cx cy : Bool) (x y : Value) : Sem Next := vS (do eqGuard op t (mkC cx) (mkC cy) x y; binOp op t x y)
def oUn (op : UnOp) (x : Value) : Sem Next := vS (Op.unary op x)
def oPick (c a b : Value) : Sem Next := do pure (.value (if ← asBool c then a else b))
def oAlloc (t : TypeId) : Sem Next := vS (Instr.alloc t true (.tuple #[]))
def oBox (t : TypeId) (x : Value) : Sem Next := vS (Instr.box t x)
def oBuild (t : TypeId) (ps : List (Nat × Value)) : Sem Next := vS (Instr.build t ps.toArray)
def oBuildSlice (t : TypeId) (n : Nat) (ps : List (Nat × Value)) : Sem Next := vS (Instr.buildSlice t n ps.toArray)
def oLoad (t : TypeId) (a : Value) : Sem Next := vS (Instr.loadAt t a)
def oStore (t : TypeId) (a v : Value) : Sem Next := uS (Instr.storeAt t a v)
def oNil (x : Value) : Sem Next := match x with
  | .pointer none | .nilIface | .nilFunc => runtimePanic .nilDeref
  | .func (.method name) first captured =>
    match (first[0]? : Option Value) with
    | some .nilIface => runtimePanic .nilDeref
    | some (.iface t w) => do
      if (← nilAhead ((← program).types.size + Made.depth) t w name) != some false then
        unsupported (.noEntry "op/nilCheck.the method's receiver behind this interface value is a nil pointer, or cannot be seen to be none, and the arguments act or may panic (ledger 612)")
      pure (.value (.func (.method name) first captured))
    | _ => pure (.value (.func (.method name) first captured))
  | x => pure (.value x)
def oConvert (src dst : TypeId) (x : Value) : Sem Next := vS (convert src dst x)
def oFunc (fn : Fn) (first captured : List Value) : Sem Next := vS (Instr.makeFunc fn first.toArray captured.toArray)
def oMakeSlice (t : TypeId) (l c : Value) : Sem Next := vS (Instr.makeSlice t l c)
def oSlice (t : TypeId) (x : Value) (lo hi mx : Option Value) : Sem Next := vS (Instr.sliceAt t x lo hi mx)
def oFieldAddr (s : TypeId) (x : Value) (f : Nat) : Sem Next := vS (Instr.fieldAt s x f)
def oField (t : TypeId) (x : Value) (f : Nat) : Sem Next := vS (Instr.field t x f)
def oIndexAddr (t : TypeId) (x i : Value) : Sem Next := vS (Instr.indexAt t x i)
def oIndex (t : TypeId) (x i : Value) : Sem Next := vS (Instr.index t x i)
def oExtract (x : Value) (i : Nat) : Sem Next := vS (Instr.extract x i)
def oRange (t : TypeId) (x : Value) : Sem Next := vS (Instr.range t x)
def oNext (t : TypeId) (b : Bool) (x : Value) : Sem Next := vS (Instr.next x b t)
def fnV (k : FuncId) : Value := .func (.func k) #[] #[]
def oCall (f : Value) (args : List Value) : Sem Next := do let d ← Deferred.ofValue f args.toArray; invoke d.target d.args
def oBuiltin (b : Builtin) (ats : Array TypeId) (t : TypeId) (cs : List Bool) (args : List Value) : Sem Next := builtin b ats t cs.toArray args.toArray

def opS (ρ : Operand → Value) (o : Oper) : Sem Next := match o.op with
  | .move x | .assign x => pure (.value (ρ x))
  | .pick c a b => oPick (ρ c) (ρ a) (ρ b)
  | .alloc t => oAlloc t
  | .box t x => oBox t (ρ x)
  | .build t ps => oBuild t (ps.toList.map fun p => (p.1, ρ p.2))
  | .buildSlice t n ps => oBuildSlice t n (ps.toList.map fun p => (p.1, ρ p.2))
  | .load t a => oLoad t (ρ a)
  | .store t a x => oStore t (ρ a) (ρ x)
  | .nilCheck x => oNil (ρ x)
  | .binOp op t x y _ => oBin op t (isC x) (isC y) (ρ x) (ρ y)
  | .unOp op _ x => oUn op (ρ x)
  | .convert src dst x => oConvert src dst (ρ x)
  | .makeFunc fn first captured => oFunc fn (first.toList.map ρ) (captured.toList.map ρ)
  | .makeSlice t l c => oMakeSlice t (ρ l) (ρ c)
  | .slice t x lo hi mx => oSlice t (ρ x) (lo.map ρ) (hi.map ρ) (mx.map ρ)
  | .fieldAddr s x f => oFieldAddr s (ρ x) f
  | .field t x f => oField t (ρ x) f
  | .indexAddr t x i => oIndexAddr t (ρ x) (ρ i)
  | .index t x i => oIndex t (ρ x) (ρ i)
  | .extract x i => oExtract (ρ x) i
  | .range t x => oRange t (ρ x)
  | .next x b => oNext o.type b (ρ x)
  | .call c => (match c.callee with
    | .value f => oCall (ρ f) (c.args.toList.map ρ)
    | .builtin b => oBuiltin b c.argTypes o.type (c.args.toList.map isC) (c.args.toList.map ρ)
    | .invoke _ _ => unsupported (.noEntry "sh"))
  | _ => unsupported (.noEntry "sh")

theorem eqGuard_mkC (op : BinOp) (t : TypeId) (x y : Operand) (a b : Value) : eqGuard op t x y a b = eqGuard op t (mkC (isC x)) (mkC (isC y)) a b := by
  cases x <;> cases y <;> rfl

/-- What 'opS' runs, 'execOp' runs, wherever 'opS' comes to an end. -/
theorem opS_run {P : Program} (ρ : Operand → Value) (o : Oper) (w : World) {r : Next} {w' : World} (h : (opS ρ o).run P w = .ok r w') : (execOp ρ o).run P w = .ok r w' := by
  obtain ⟨dst, op, type, pos, after, guard⟩ := o
  cases op
  case binOp bop t x y yt =>
    rw [← h]
    simp only [opS, execOp, oBin, vS]
    rw [eqGuard_mkC]
  case call c =>
    obtain ⟨callee, args, argTypes⟩ := c
    cases callee
    case value f =>
      rw [← h]
      have : args.map ρ = (args.toList.map ρ).toArray := by rw [← Array.toList_map, Array.toArray_toList]
      simp [opS, execOp, oCall, resolve, this]
    case builtin b =>
      rw [← h]
      have e1 : args.map isC = (args.toList.map isC).toArray := by rw [← Array.toList_map, Array.toArray_toList]
      have e2 : args.map ρ = (args.toList.map ρ).toArray := by rw [← Array.toList_map, Array.toArray_toList]
      change Sem.run P (invoke (.builtin b argTypes type (args.map isC)) (args.map ρ)) w = _
      rw [e1, e2]
      rfl
    case invoke r m => simp [opS, unsupported, Sem.run] at h
  case build t ps =>
    rw [← h]
    simp only [opS, execOp, oBuild, vS]
    have : (ps.map fun (i, x) => (i, ρ x)) = (ps.toList.map fun p => (p.1, ρ p.2)).toArray := by rw [← Array.toList_map, Array.toArray_toList]
    simp only [this]
  case buildSlice t n ps =>
    rw [← h]
    simp only [opS, execOp, oBuildSlice, vS]
    have : (ps.map fun (i, x) => (i, ρ x)) = (ps.toList.map fun p => (p.1, ρ p.2)).toArray := by rw [← Array.toList_map, Array.toArray_toList]
    simp only [this]
  case makeFunc fn first captured =>
    rw [← h]
    simp only [opS, execOp, oFunc, vS]
    have e1 : first.map ρ = (first.toList.map ρ).toArray := by rw [← Array.toList_map, Array.toArray_toList]
    have e2 : captured.map ρ = (captured.toList.map ρ).toArray := by rw [← Array.toList_map, Array.toArray_toList]
    rw [e1, e2]
  case nilCheck x => rw [← h]; rfl
  all_goals first | (rw [← h]; rfl) | (simp [opS, unsupported, Sem.run] at h)

/-- An operation that comes to an end: with a value, with none, or in a function that returns. -/
def nx (P : Program) (s : Sem Next) (w : World) (K : Value → World → Prop) : Prop :=
  match s.run P w with
  | .ok (.value v) w' => K v w'
  | .ok .skip w' => K undef w'
  | .ok (.enter f args) w' => Calls P f args w' fun e w'' => ∃ v, e = .returned v ∧ K v w''
  | _ => False
/-- (A structure, so that nobody lays it open by the way.) -/
structure NX (P : Program) (s : Sem Next) (w : World) (K : Value → World → Prop) : Prop where
  mk :: out : nx P s w K
/-- An operation that tells the same in every world and turns none. -/
structure FX (P : Program) (s : Sem Next) (K : Value → Prop) : Prop where
  mk :: out : ∃ v, (∀ w, s.run P w = .ok (.value v) w) ∧ K v
/-- What is read at x in w. -/
structure RD (P : Program) (w : World) (t : TypeId) (x v : Value) : Prop where
  mk :: out : (oLoad t x).run P w = .ok (.value v) w
structure LX (P : Program) (t : TypeId) (x : Value) (w : World) (K : Value → Prop) : Prop where
  mk :: out : ∃ v, RD P w t x v ∧ K v
/-- A test: parted. -/
structure IFB (v : Value) (A B : Prop) : Prop where
  mk :: out : ∃ b, v = .bool b ∧ (b = true → A) ∧ (b = false → B)

/-! ### Which temporaries hold a written-out bool -/
def isK (kn t : Nat) : Bool := Nat.testBit kn t
def knClr (kn d : Nat) : Nat := Nat.xor kn (Nat.land kn (Nat.pow 2 d))
def knSet (kn d : Nat) : Nat := Nat.lor kn (Nat.pow 2 d)
def knPut (kn : Nat) (d : Option Tmp) (b : Bool) : Nat := match d with
  | none => kn
  | some d => bif b then knSet kn d else knClr kn d
/-- The number is reckoned here, once. -/
def forceN {α : Sort _} (n : Nat) (f : Nat → α) : α := match n with
  | 0 => f 0
  | m + 1 => f (m + 1)
theorem forceN_eq {α : Sort _} (n : Nat) (f : Nat → α) : forceN n f = f n := by cases n <;> rfl
def opdK (kn : Nat) : Operand → Bool
  | .tmp t => isK kn t
  | .const (.bool _) => true
  | _ => false

abbrev KT := Env → Nat → World → Prop

def exec1 (P : Program) (o : Oper) (e : Env) (kn : Nat) (w : World) (K : KT) : Prop := match o.op with
  | .move x | .assign x => K (e.putO o.dst (e.ev x)) (knPut kn o.dst (opdK kn x)) w
  | .pick c a b =>
    bif opdK kn c then
      (match e.ev c with
       | .bool true => K (e.putO o.dst (e.ev a)) (knPut kn o.dst (opdK kn a)) w
       | .bool false => K (e.putO o.dst (e.ev b)) (knPut kn o.dst (opdK kn b)) w
       | _ => False)
    else NX P (oPick (e.ev c) (e.ev a) (e.ev b)) w fun v w => K (e.putO o.dst v) (knPut kn o.dst false) w
  | _ => NX P (opS e.ev o) w fun v w => K (e.putO o.dst v) (knPut kn o.dst false) w

def dstOf (ops : List Oper) (j : Nat) : Option Nat := (ops[j]?).bind (·.dst)

def stepO (P : Program) (ops : List Oper) (o : Oper) (e : Env) (kn : Nat) (w : World) (K : KT) : Prop := match o.guard with
  | none => exec1 P o e kn w K
  | some (j, want) => match dstOf ops j with
    | none => False
    | some t =>
      bif isK kn t then
        (match e t with
         | .bool true => bif want then exec1 P o e kn w K else K (e.putO o.dst undef) (knPut kn o.dst true) w
         | .bool false => bif want then K (e.putO o.dst undef) (knPut kn o.dst true) w else exec1 P o e kn w K
         | .tuple _ => K (e.putO o.dst undef) (knPut kn o.dst true) w
         | _ => False)
      else bif want then
        IFB (e t) (exec1 P o (e.put t (.bool true)) (knSet kn t) w K) (K ((e.put t (.bool false)).putO o.dst undef) (knPut (knSet kn t) o.dst true) w)
      else
        IFB (e t) (K ((e.put t (.bool true)).putO o.dst undef) (knPut (knSet kn t) o.dst true) w) (exec1 P o (e.put t (.bool false)) (knSet kn t) w K)

def shOps (P : Program) (ops : List Oper) : List Oper → Env → Nat → World → KT → Prop
  | [], e, kn, w, K => K e kn w
  | o :: rest, e, kn, w, K => stepO P ops o e kn w fun e kn w => forceN kn fun kn => shOps P ops rest e kn w K

/-! ### What is checked of the text: every temporary is one of the frame's -/
def opds : Op → List Operand
  | .move x | .assign x | .box _ x | .load _ x | .nilCheck x | .unOp _ _ x | .convert _ _ x | .fieldAddr _ x _ | .field _ x _ | .extract x _ | .range _ x | .next x _ => [x]
  | .pick c a b => [c, a, b]
  | .build _ ps | .buildSlice _ _ ps => ps.toList.map (·.2)
  | .store _ a v | .binOp _ _ a v _ | .makeSlice _ a v | .indexAddr _ a v | .index _ a v => [a, v]
  | .makeFunc _ first captured => first.toList ++ captured.toList
  | .slice _ x l h m => x :: (l.toList ++ (h.toList ++ m.toList))
  | .call c => (match c.callee with | .value f => [f] | .invoke r _ => [r] | .builtin _ => []) ++ c.args.toList
  | _ => []
/-- Is this one of the operations that 'opS' knows? -/
def known : Op → Bool
  | .move _ | .assign _ | .box .. | .load .. | .nilCheck _ | .unOp .. | .convert .. | .fieldAddr .. | .field .. | .extract .. | .range .. | .next .. | .pick .. | .build .. | .buildSlice ..
  | .store .. | .binOp .. | .makeSlice .. | .indexAddr .. | .index .. | .makeFunc .. | .slice .. | .alloc _ => true
  | .call c => (match c.callee with | .invoke .. => false | _ => true)
  | _ => false
def opdOK (n : Nat) : Operand → Bool
  | .tmp t => Nat.blt t n
  | _ => true
def operOK (n : Nat) (o : Oper) : Bool := known o.op && ((opds o.op).all (opdOK n) && (match o.dst with | some d => Nat.blt d n | none => true))

theorem operands_opds {op : Op} (hk : known op = true) : ∀ x ∈ op.operands, x ∈ opds op := by
  cases op <;> first | (simp [known] at hk; done) | skip
  case call c =>
    intro x hx
    simp only [Op.operands, Call.operands, Array.mem_append] at hx
    obtain ⟨callee, args, argTypes⟩ := c
    cases callee <;> simp_all [opds]
  all_goals
    intro x hx
    simp [Op.operands] at hx
    try simp [opds]
    try first | done | exact hx | (rcases hx with h | h <;> simp [h]; done) | (simp_all; done) | (rcases hx with h | h | h | h <;> simp_all; done)

theorem ev_eq {n : Nat} {e : Env} {a : Act} (h : Rel n e a) {x : Operand} (hx : opdOK n x = true) : a.eval x = e.ev x := by
  cases x with
  | tmp t =>
    have ht : t < n := by simpa [opdOK, Nat.blt_eq] using hx
    simp [Act.eval, Env.ev, h.at_ t ht]
  | _ => rfl

theorem exec_eq {n : Nat} {e : Env} {a : Act} (h : Rel n e a) {o : Oper} (ho : operOK n o = true) : execOp a.eval o = execOp e.ev o := by
  simp only [operOK, Bool.and_eq_true, List.all_eq_true] at ho
  refine execOp_congr o (fun cs b he => ?_) fun x hx => ev_eq h (ho.2.1 x (operands_opds ho.1 x hx))
  have := ho.1
  rw [he] at this
  simp [known] at this

/-! ### One operation -/
/-- What stands behind: some frame as a function that fits, and K. -/
def Fit (n : Nat) (K : KT) (a : Act) (w : World) : Prop := ∃ e kn, Rel n e a ∧ K e kn w

section
variable {P : Program} {n : Nat} {Q : Exit → Act → World → Prop} {K' : Act → World → Prop}

theorem NX.wp {o : Oper} {a : Act} {e : Env} {w : World} {R : Value → World → Prop} (he : execOp a.eval o = execOp e.ev o)
    (h : NX P (opS e.ev o) w R) (hR : ∀ v w, R v w → K' (a.put o.dst v) w) : o.wp P a w K' Q := by
  replace h := h.out
  unfold nx at h
  unfold Oper.wp
  rw [he]
  cases hr : (opS e.ev o).run P w with
  | halt x w' => rw [hr] at h; exact h.elim
  | ok r w' =>
    rw [hr] at h
    rw [opS_run e.ev o w hr]
    cases r <;> simp only at h <;> first | exact h.elim | skip
    case value v => exact hR v w' h
    case skip => exact hR _ w' h
    case enter f args =>
      refine Calls.mono h fun en w'' hh => ?_
      obtain ⟨v, rfl, hk⟩ := hh
      exact hR v w'' hk

/-- The operations that 'exec1' does by itself are the others' kin. -/
theorem exec1_NX {o : Oper} {e : Env} {kn : Nat} {w : World} {K : KT} (h : exec1 P o e kn w K) :
    NX P (opS e.ev o) w fun v w => ∃ kn', K (e.putO o.dst v) kn' w := by
  obtain ⟨dst, op, type, pos, after, guard⟩ := o
  have key : ∀ s : Sem Next, NX P s w (fun v w => K (e.putO dst v) (knPut kn dst false) w) → NX P s w fun v w => ∃ kn', K (e.putO dst v) kn' w := by
    intro s hs
    refine ⟨?_⟩
    replace hs := hs.out
    unfold nx at *
    cases hr : s.run P w with
    | halt x w' => rw [hr] at hs; exact hs
    | ok r w' =>
      rw [hr] at hs
      cases r <;> simp only at hs ⊢ <;> first | exact hs.elim | exact ⟨_, hs⟩ | skip
      case enter f args => exact Calls.mono hs fun en w'' ⟨v, hv, hk⟩ => ⟨v, hv, _, hk⟩
  cases op
  case move x => exact ⟨⟨_, h⟩⟩
  case assign x => exact ⟨⟨_, h⟩⟩
  case pick c a b =>
    simp only [exec1] at h
    cases hk : opdK kn c
    · rw [hk] at h
      exact key _ h
    · rw [hk] at h
      simp only [cond_true] at h
      show NX P (oPick (e.ev c) (e.ev a) (e.ev b)) w _
      cases hc : e.ev c <;> rw [hc] at h <;> first | exact h.elim | skip
      case bool b' =>
        cases b' <;> exact ⟨⟨_, h⟩⟩
  all_goals exact key _ h

theorem Fit.put {K : KT} {a : Act} {e : Env} {w : World} (hr : Rel n e a) {d : Option Tmp} {v : Value} (h : ∃ kn, K (e.putO d v) kn w) : Fit n K (a.put d v) w :=
  let ⟨kn, hk⟩ := h
  ⟨_, kn, hr.putO d v, hk⟩

theorem exec1_wp {o : Oper} {a : Act} {e : Env} {kn : Nat} {w : World} {K : KT} (hr : Rel n e a) (ho : operOK n o = true)
    (h : exec1 P o e kn w K) : o.wp P a w (Fit n K) Q :=
  NX.wp (exec_eq hr ho) (exec1_NX h) fun _ _ hk => Fit.put hr hk

theorem yielded_eq {ops : List Oper} {e : Env} {a : Act} (hr : Rel n e a) {j t : Nat} (hd : dstOf ops j = some t) (ht : t < n) :
    yielded ops.toArray a.tmps j = (match e t with | .bool b => some b | _ => none) := by
  unfold yielded
  have : ((ops.toArray[j]?).bind (·.dst)) = some t := by simpa [dstOf] using hd
  rw [this]
  simp only [Option.bind_some, hr.at_ t ht]
  cases e t <;> rfl

theorem put_bool {e : Env} {t : Nat} {b : Bool} (h : e t = .bool b) (i : Nat) : (e.put t (.bool b)) i = e i := by
  by_cases hi : i = t
  · subst hi; rw [Env.put_same, h]
  · rw [Env.put_ne e _ hi]

/-- A step of the list: the guard, and the operation. -/
theorem stepO_wp {ops : List Oper} (hall : ∀ o ∈ ops, operOK n o = true) {o : Oper} (ho : operOK n o = true) {a : Act} {e : Env} {kn : Nat} {w : World} {K : KT}
    (hr : Rel n e a) (h : stepO P ops o e kn w K) :
    (Region.wanted o (yielded ops.toArray a.tmps) = true ∧ o.wp P a w (Fit n K) Q) ∨ (Region.wanted o (yielded ops.toArray a.tmps) = false ∧ Fit n K (a.put o.dst undef) w) := by
  unfold stepO at h
  cases hg : o.guard with
  | none => rw [hg] at h; exact .inl ⟨by simp [Region.wanted, hg], exec1_wp hr ho h⟩
  | some gw =>
    obtain ⟨j, want⟩ := gw
    rw [hg] at h
    simp only at h
    have hw : Region.wanted o (yielded ops.toArray a.tmps) = (yielded ops.toArray a.tmps j == some want) := by simp [Region.wanted, hg]
    rw [hw]
    cases hd : dstOf ops j with
    | none => rw [hd] at h; exact h.elim
    | some t =>
      rw [hd] at h
      simp only at h
      have ht : t < n := by
        simp only [dstOf, Option.bind_eq_some_iff] at hd
        obtain ⟨oj, hoj, hdj⟩ := hd
        have := hall oj (List.mem_of_getElem? hoj)
        simp only [operOK, Bool.and_eq_true, hdj] at this
        simpa [Nat.blt_eq] using this.2.2
      rw [yielded_eq hr hd ht]
      cases hk : isK kn t
      · rw [hk] at h
        simp only [cond_false] at h
        cases want
        · simp only [cond_false] at h
          obtain ⟨b, hb, hA, hB⟩ := h
          rw [hb]
          cases b
          · exact .inl ⟨rfl, exec1_wp (hr.congr fun i _ => put_bool hb i) ho (hB rfl)⟩
          · exact .inr ⟨rfl, Fit.put (hr.congr fun i _ => put_bool hb i) ⟨_, hA rfl⟩⟩
        · simp only [cond_true] at h
          obtain ⟨b, hb, hA, hB⟩ := h
          rw [hb]
          cases b
          · exact .inr ⟨rfl, Fit.put (hr.congr fun i _ => put_bool hb i) ⟨_, hB rfl⟩⟩
          · exact .inl ⟨rfl, exec1_wp (hr.congr fun i _ => put_bool hb i) ho (hA rfl)⟩
      · rw [hk] at h
        simp only [cond_true] at h
        cases hv : e t <;> rw [hv] at h <;> first | exact (h : False).elim | skip
        case bool b =>
          cases b <;> cases want <;> simp only [cond_true, cond_false] at h
          · exact .inl ⟨rfl, exec1_wp hr ho h⟩
          · exact .inr ⟨rfl, Fit.put hr ⟨_, h⟩⟩
          · exact .inr ⟨rfl, Fit.put hr ⟨_, h⟩⟩
          · exact .inl ⟨rfl, exec1_wp hr ho h⟩
        case tuple vs => exact .inr ⟨rfl, Fit.put hr ⟨_, h⟩⟩

theorem shOps_wp {ops : List Oper} (hall : ∀ o ∈ ops, operOK n o = true) {K : KT} : ∀ (l : List Oper), (∀ o ∈ l, operOK n o = true) → ∀ (a : Act) (e : Env) (kn : Nat) (w : World),
    Rel n e a → shOps P ops l e kn w K → (∀ a w, Fit n K a w → Q .normal a w) → wpList P ops.toArray Q l a w
  | [], _, a, e, kn, w, hr, h, hQ => hQ a w ⟨e, kn, hr, h⟩
  | o :: rest, hl, a, e, kn, w, hr, h, hQ => by
    simp only [shOps, forceN_eq] at h
    have hs := stepO_wp (Q := Q) hall (hl o (by simp)) hr h
    have next : ∀ a w, Fit n (fun e kn w => shOps P ops rest e kn w K) a w → wpList P ops.toArray Q rest a w := fun a w ⟨e, kn, hr, h⟩ =>
      shOps_wp hall rest (fun o ho => hl o (by simp [ho])) a e kn w hr h hQ
    unfold wpList
    rcases hs with ⟨hw, hs⟩ | ⟨hw, hs⟩
    · rw [if_pos hw]
      exact .inl (Oper.wp_mono next hs)
    · rw [if_neg (by simp [hw])]
      exact next _ _ hs
end

/-! ### More follows from more; and what is not assigned stays -/
section
variable {P : Program}
theorem NX.mono {s : Sem Next} {w : World} {K K' : Value → World → Prop} (h : NX P s w K) (hk : ∀ v w, K v w → K' v w) : NX P s w K' := by
  refine ⟨?_⟩
  replace h := h.out
  unfold nx at *
  cases hr : s.run P w with
  | halt x w' => rw [hr] at h; exact h
  | ok r w' =>
    rw [hr] at h
    cases r <;> simp only at h ⊢ <;> first | exact h.elim | exact hk _ _ h | skip
    case enter f args => exact Calls.mono h fun en w'' ⟨v, hv, hh⟩ => ⟨v, hv, hk _ _ hh⟩
theorem FX.mono {s : Sem Next} {K K' : Value → Prop} (h : FX P s K) (hk : ∀ v, K v → K' v) : FX P s K' := let ⟨v, h1, h2⟩ := h.out; ⟨v, h1, hk v h2⟩
theorem LX.mono {t : TypeId} {x : Value} {w : World} {K K' : Value → Prop} (h : LX P t x w K) (hk : ∀ v, K v → K' v) : LX P t x w K' := let ⟨v, h1, h2⟩ := h.out; ⟨v, h1, hk v h2⟩
theorem IFB.mono {v : Value} {A B A' B' : Prop} (h : IFB v A B) (ha : A → A') (hb : B → B') : IFB v A' B' :=
  let ⟨b, h1, h2, h3⟩ := h.out; ⟨b, h1, fun e => ha (h2 e), fun e => hb (h3 e)⟩

theorem putO_stays (e : Env) (d : Option Tmp) (v : Value) {i : Nat} (h : d ≠ some i) : e.putO d v i = e i := by
  cases d with
  | none => rfl
  | some d => exact Env.put_ne e v fun hi => h (by rw [hi])

theorem exec1_mono {o : Oper} {e : Env} {kn : Nat} {w : World} {K K' : KT} (h : exec1 P o e kn w K)
    (hk : ∀ e' kn' w', (∀ i, o.dst ≠ some i → e' i = e i) → K e' kn' w' → K' e' kn' w') : exec1 P o e kn w K' := by
  have go : ∀ v kn' w', K (e.putO o.dst v) kn' w' → K' (e.putO o.dst v) kn' w' := fun v kn' w' => hk _ kn' w' fun i hi => putO_stays e o.dst v hi
  unfold exec1 at *
  cases ho : o.op <;> rw [ho] at h <;> simp only at h ⊢
  case move x => exact go _ _ _ h
  case assign x => exact go _ _ _ h
  case pick c a b =>
    cases hc : opdK kn c <;> rw [hc] at h <;> simp only [cond_true, cond_false] at h ⊢
    · exact h.mono fun v w hh => go _ _ _ hh
    · cases hv : e.ev c <;> rw [hv] at h <;> first | exact (h : False).elim | skip
      case bool b' => cases b' <;> exact go _ _ _ h
  all_goals exact h.mono fun v w hh => go _ _ _ hh

theorem stepO_mono {ops : List Oper} {o : Oper} {e : Env} {kn : Nat} {w : World} {K K' : KT} (h : stepO P ops o e kn w K)
    (hk : ∀ e' kn' w', (∀ i, o.dst ≠ some i → e' i = e i) → K e' kn' w' → K' e' kn' w') : stepO P ops o e kn w K' := by
  unfold stepO at *
  cases hg : o.guard with
  | none => rw [hg] at h; exact exec1_mono h hk
  | some gw =>
    obtain ⟨j, want⟩ := gw
    rw [hg] at h
    simp only at h ⊢
    cases hd : dstOf ops j with
    | none => rw [hd] at h; exact h.elim
    | some t =>
      rw [hd] at h
      simp only at h ⊢
      have skip : ∀ (e₁ : Env) (kn' : Nat) (w' : World), (∀ i, e₁ i = e i) → K (e₁.putO o.dst undef) kn' w' → K' (e₁.putO o.dst undef) kn' w' := fun e₁ kn' w' he hh =>
        hk _ _ _ (fun i hi => by rw [putO_stays _ _ _ hi]; exact he i) hh
      have exec : ∀ (e₁ : Env) (kn' : Nat), (∀ i, e₁ i = e i) → exec1 P o e₁ kn' w K → exec1 P o e₁ kn' w K' := fun e₁ kn' he hh =>
        exec1_mono hh fun e' kn' w' h1 h2 => hk e' kn' w' (fun i hi => (h1 i hi).trans (he i)) h2
      cases hkn : isK kn t <;> rw [hkn] at h <;> simp only [cond_true, cond_false] at h ⊢
      · cases want <;> simp only [cond_true, cond_false] at h ⊢
        · obtain ⟨b, hb, hA, hB⟩ := h
          refine ⟨b, hb, fun e1 => ?_, fun e1 => ?_⟩ <;> subst e1
          · exact skip _ _ _ (put_bool hb) (hA rfl)
          · exact exec _ _ (put_bool hb) (hB rfl)
        · obtain ⟨b, hb, hA, hB⟩ := h
          refine ⟨b, hb, fun e1 => ?_, fun e1 => ?_⟩ <;> subst e1
          · exact exec _ _ (put_bool hb) (hA rfl)
          · exact skip _ _ _ (put_bool hb) (hB rfl)
      · cases hv : e t <;> rw [hv] at h <;> first | exact (h : False).elim | skip
        case bool b =>
          cases b <;> cases want <;> simp only [cond_true, cond_false] at h ⊢
          · exact exec _ _ (fun _ => rfl) h
          · exact skip _ _ _ (fun _ => rfl) h
          · exact skip _ _ _ (fun _ => rfl) h
          · exact exec _ _ (fun _ => rfl) h
        case tuple vs => exact skip _ _ _ (fun _ => rfl) h

theorem shOps_mono {ops : List Oper} {K K' : KT} : ∀ (l : List Oper) {e : Env} {kn : Nat} {w : World}, shOps P ops l e kn w K →
    (∀ e' kn' w', (∀ i, (∀ o ∈ l, o.dst ≠ some i) → e' i = e i) → K e' kn' w' → K' e' kn' w') → shOps P ops l e kn w K'
  | [], e, kn, w, h, hk => hk e kn w (fun _ _ => rfl) h
  | o :: rest, e, kn, w, h, hk => stepO_mono h fun e1 kn1 w1 h1 h2 => by
    simp only [forceN_eq] at h2 ⊢
    exact shOps_mono rest h2 fun e2 kn2 w2 h3 h4 => hk e2 kn2 w2 (fun i hi => (h3 i fun o ho => hi o (by simp [ho])).trans (h1 i (hi o (by simp)))) h4
end

/-! ### Regions that draw their order -/
structure Pd where
  op : Nat
  t : TypeId
  x : Value
  v : Value
def isFloat : Op → Bool
  | .move _ | .assign _ | .pick .. | .load .. | .nilCheck _ | .binOp .. | .unOp .. | .fieldAddr .. | .field .. | .indexAddr .. | .index .. | .extract .. | .slice .. | .build .. | .makeFunc .. => true
  | .call c => (match c.callee with | .builtin .len | .builtin .cap | .builtin .min | .builtin .max => true | _ => false)
  | _ => false
def hard (e : Edge) : Bool := match e.ground with
  | .textOnly _ | .gcOnly _ => false
  | _ => true
theorem hard_eq (e : Edge) : Region.binds .any e = hard e := by
  unfold Region.binds hard
  cases e.ground <;> rfl
def onB (o : Oper) (j : Nat) : Bool := o.after.toList.any fun e => hard e && Nat.beq e.on j
def dependsB (ops : List Oper) (i j : Nat) : Bool := match ops[i]? with
  | some o => onB o j
  | none => false
def Still (P : Program) (w : World) : List Pd → Prop → Prop
  | [], A => A
  | p :: r, A => RD P w p.t p.x p.v ∧ Still P w r A

section
variable {P : Program} {n : Nat}

/-- Whatever order is drawn; what was loaded early stands still. -/
def GG (P : Program) (ops : List Oper) (Q : Exit → Act → World → Prop) : Nat → Array Bool → List Pd → Act → World → Prop
  | 0, listed, pend, a, w => (∀ p ∈ pend, RD P w p.t p.x p.v) ∧ Region.ready .any ops.toArray listed = [] ∧ Q .normal a w
  | fuel + 1, listed, pend, a, w => (∀ p ∈ pend, RD P w p.t p.x p.v) ∧ (Region.ready .any ops.toArray listed = [] → Q .normal a w) ∧
    ∀ i ∈ Region.ready .any ops.toArray listed, wpOp P ops.toArray Q i (GG P ops Q fuel (listed.setIfInBounds i true) (pend.filter fun p => !dependsB ops i p.op)) a w

theorem GG.any {ops : List Oper} {Q : Exit → Act → World → Prop} : ∀ (fuel : Nat) {listed : Array Bool} {pend : List Pd} {a : Act} {w : World},
    GG P ops Q fuel listed pend a w → wpAny P .any ops.toArray Q fuel listed a w
  | 0, _, _, _, _, h => h.2
  | fuel + 1, _, _, _, _, h => ⟨h.2.1, fun i hi => wpOp_mono (fun _ _ h' => GG.any fuel h') (h.2.2 i hi)⟩

theorem GG.reads {ops : List Oper} {Q : Exit → Act → World → Prop} {fuel : Nat} {listed : Array Bool} {pend : List Pd} {a : Act} {w : World}
    (h : GG P ops Q fuel listed pend a w) : ∀ p ∈ pend, RD P w p.t p.x p.v := by
  cases fuel <;> exact h.1

theorem GG.less {ops : List Oper} {Q : Exit → Act → World → Prop} : ∀ (fuel : Nat) {listed : Array Bool} {pend pend' : List Pd} {a : Act} {w : World},
    (∀ p ∈ pend', p ∈ pend) → GG P ops Q fuel listed pend a w → GG P ops Q fuel listed pend' a w
  | 0, _, _, _, _, _, hp, h => ⟨fun p hp' => h.1 p (hp p hp'), h.2⟩
  | fuel + 1, _, _, _, _, _, hp, h => ⟨fun p hp' => h.1 p (hp p hp'), h.2.1, fun i hi => wpOp_mono (fun _ _ h' => GG.less fuel (fun p hp' => by
      rw [List.mem_filter] at *
      exact ⟨hp p hp'.1, hp'.2⟩) h') (h.2.2 i hi)⟩

/-- An operation that may come now and tells the same as long as what it loads stands may be taken first. -/
theorem GG.first {ops : List Oper} {Q : Exit → Act → World → Prop} {i : Nat} {oi : Oper} {v : Value} (hi : ops[i]? = some oi)
    (hsel : ∀ (j : Nat) (o : Oper) cs b, ops[j]? = some o → o.op ≠ .select cs b)
    (hQ : ∀ c a w, Q (.panic c) (a.put oi.dst v) w → Q (.panic c) a w) (pe : List Pd) (hpe : ∀ p ∈ pe, p.op = i) :
    ∀ (fuel : Nat) (listed : Array Bool) (pend : List Pd) (a : Act) (w : World),
      (∀ j oj, ops[j]? = some oj → j ≠ i → listed.getD j true = false → (∀ e ∈ oj.after, Region.binds .any e = true → e.on ≠ i) → oi.apart ops.toArray oj = true) →
      i ∈ Region.ready .any ops.toArray listed → YieldsIf P ops.toArray (fun w => ∀ p ∈ pe, RD P w p.t p.x p.v) oi v a →
      GG P ops Q fuel (listed.setIfInBounds i true) (pe ++ pend) (a.put oi.dst v) w → GG P ops Q (fuel + 1) listed pend a w := by
  have hi' : ops.toArray[i]? = some oi := by simpa using hi
  intro fuel
  induction fuel with
  | zero =>
    intro listed pend a w _ hr hy H
    have hS : ∀ p ∈ pe, RD P w p.t p.x p.v := fun p hp => H.reads p (by simp [hp])
    refine ⟨fun p hp => H.reads p (by simp [hp]), fun h => (by rw [h] at hr; cases hr), fun j hj => ?_⟩
    by_cases hji : j = i
    · subst hji
      exact hy.wpOp hi' hS (H.less 0 (fun p hp => by simp only [List.mem_filter] at hp; simp [hp.1]))
    · have := ready_mono hj hji
      rw [H.2.1] at this
      cases this
  | succ fuel ih =>
    intro listed pend a w hfree hr hy H
    have hS : ∀ p ∈ pe, RD P w p.t p.x p.v := fun p hp => H.reads p (by simp [hp])
    refine ⟨fun p hp => H.reads p (by simp [hp]), fun h => (by rw [h] at hr; cases hr), fun j hj => ?_⟩
    by_cases hji : j = i
    · subst hji
      exact hy.wpOp hi' hS (H.less _ (fun p hp => by simp only [List.mem_filter] at hp; simp [hp.1]))
    · have h1 := H.2.2 j (ready_mono hj hji)
      obtain ⟨hjun, oj, hoj', hall⟩ := mem_ready.1 hj
      have hoj : ops[j]? = some oj := by simpa using hoj'
      have hnot : ∀ e ∈ oj.after, Region.binds .any e = true → e.on ≠ i := fun e he hb heq => by
        have h1 := hall e he hb
        have h0 := (mem_ready.1 hr).1
        rw [heq] at h1
        rcases Nat.lt_or_ge i listed.size with h' | h'
        · simp [h'] at h0 h1; rw [h0] at h1; cases h1
        · simp [Array.getElem?_eq_none h'] at h1
      have h2 := wpOp_putIf hoj' (hfree j oj hoj hji hjun hnot) (fun cs b => hsel i oi cs b hi) (fun cs b => hsel j oj cs b hoj) hQ hy h1
      have hfree' : ∀ k ok, ops[k]? = some ok → k ≠ i → (listed.setIfInBounds j true).getD k true = false →
          (∀ e ∈ ok.after, Region.binds .any e = true → e.on ≠ i) → oi.apart ops.toArray ok = true := fun k ok hk hki hun hno => by
        refine hfree k ok hk hki ?_ hno
        by_cases hjk : j = k
        · subst hjk; exact hjun
        · rw [getD_set_ne true hjk] at hun; exact hun
      have hdep : dependsB ops j i = false := by
        unfold dependsB onB
        rw [hoj]
        simp only [List.any_eq_false, Bool.and_eq_true, Bool.not_eq_true]
        intro e he hb
        have := hnot e (by simpa using he) (by rw [hard_eq]; exact hb.1)
        exact this (Nat.eq_of_beq_eq_true hb.2)
      have hfil : (pe ++ pend).filter (fun p => !dependsB ops j p.op) = pe ++ pend.filter (fun p => !dependsB ops j p.op) := by
        rw [List.filter_append]
        congr 1
        rw [List.filter_eq_self]
        intro p hp
        rw [hpe p hp, hdep]; rfl
      refine wpOp_mono (fun a' w' h3 => ih (listed.setIfInBounds j true) _ a' w' hfree' (ready_mono hr (Ne.symm hji)) h3.1 ?_) h2
      rw [Array.setIfInBounds_comm _ _ hji, ← hfil]
      exact h3.2

/-- The order in which a drawn region is read here: 'take': an operation that only computes or loads, early; 'one', 'two': all that may come. -/
inductive DP where
  | fin
  | take (i : Nat) (d : DP)
  | one (i : Nat) (d : DP)
  | two (i : Nat) (d : DP) (j : Nat) (d' : DP)
def DP.lenIs : DP → Nat → Bool
  | .fin, 0 => true
  | .take _ d, k + 1 => d.lenIs k
  | .one _ d, k + 1 => d.lenIs k
  | .two _ d _ d', k + 1 => d.lenIs k && d'.lenIs k
  | _, _ => false
def readyB (o : Oper) (lst i : Nat) : Bool := !Nat.testBit lst i && o.after.toList.all fun e => !hard e || Nat.testBit lst e.on
def readyFrom : List Oper → Nat → Nat → List Nat
  | [], _, _ => []
  | o :: r, k, lst => bif readyB o lst k then k :: readyFrom r (k + 1) lst else readyFrom r (k + 1) lst
def isNil : List Nat → Bool
  | [] => true
  | _ => false
def isOne : List Nat → Nat → Bool
  | [i], j => Nat.beq i j
  | _, _ => false
def isTwo : List Nat → Nat → Nat → Bool
  | [i, k], j, l => Nat.beq i j && Nat.beq k l
  | _, _, _ => false
def set1 (lst i : Nat) : Nat := lst ||| 2 ^ i
def keep (ops : List Oper) (i : Nat) (pend : List Pd) : List Pd := pend.filter fun p => !dependsB ops i p.op

abbrev FT := List Pd → Env → Nat → Prop
def execF (P : Program) (i : Nat) (o : Oper) (e : Env) (kn : Nat) (w : World) (K : FT) : Prop := match o.op with
  | .move x | .assign x => K [] (e.putO o.dst (e.ev x)) (knPut kn o.dst (opdK kn x))
  | .pick c a b =>
    bif opdK kn c then
      (match e.ev c with
       | .bool true => K [] (e.putO o.dst (e.ev a)) (knPut kn o.dst (opdK kn a))
       | .bool false => K [] (e.putO o.dst (e.ev b)) (knPut kn o.dst (opdK kn b))
       | _ => False)
    else FX P (oPick (e.ev c) (e.ev a) (e.ev b)) fun v => K [] (e.putO o.dst v) (knPut kn o.dst false)
  | .load t x => LX P t (e.ev x) w fun v => K [⟨i, t, e.ev x, v⟩] (e.putO o.dst v) (knPut kn o.dst false)
  | _ => bif isFloat o.op then FX P (opS e.ev o) fun v => K [] (e.putO o.dst v) (knPut kn o.dst false) else False

def stepF (P : Program) (ops : List Oper) (i : Nat) (o : Oper) (e : Env) (kn : Nat) (w : World) (K : FT) : Prop := match o.guard with
  | none => execF P i o e kn w K
  | some (j, want) => match dstOf ops j with
    | none => False
    | some t =>
      bif isK kn t then
        (match e t with
         | .bool true => bif want then execF P i o e kn w K else K [] (e.putO o.dst undef) (knPut kn o.dst true)
         | .bool false => bif want then K [] (e.putO o.dst undef) (knPut kn o.dst true) else execF P i o e kn w K
         | .tuple _ => K [] (e.putO o.dst undef) (knPut kn o.dst true)
         | _ => False)
      else bif want then
        IFB (e t) (execF P i o (e.put t (.bool true)) (knSet kn t) w K) (K [] ((e.put t (.bool false)).putO o.dst undef) (knPut (knSet kn t) o.dst true))
      else
        IFB (e t) (K [] ((e.put t (.bool true)).putO o.dst undef) (knPut (knSet kn t) o.dst true)) (execF P i o (e.put t (.bool false)) (knSet kn t) w K)

def shD (P : Program) (ops : List Oper) : DP → Nat → List Pd → Env → Nat → World → KT → Prop
  | .fin, lst, _, e, kn, w, K => bif isNil (readyFrom ops 0 lst) then K e kn w else False
  | .take i d, lst, pend, e, kn, w, K => match ops[i]? with
    | none => False
    | some o => bif isFloat o.op && readyB o lst i then stepF P ops i o e kn w fun pe e kn => forceN kn fun kn => forceN (set1 lst i) fun lst => shD P ops d lst (pe ++ pend) e kn w K else False
  | .one i d, lst, pend, e, kn, w, K => match ops[i]? with
    | none => False
    | some o => bif isOne (readyFrom ops 0 lst) i then stepO P ops o e kn w fun e kn w => Still P w (keep ops i pend) (forceN kn fun kn => forceN (set1 lst i) fun lst => shD P ops d lst (keep ops i pend) e kn w K) else False
  | .two i d j d', lst, pend, e, kn, w, K => match ops[i]?, ops[j]? with
    | some o, some o' => bif isTwo (readyFrom ops 0 lst) i j then
        (stepO P ops o e kn w fun e kn w => Still P w (keep ops i pend) (forceN kn fun kn => forceN (set1 lst i) fun lst => shD P ops d lst (keep ops i pend) e kn w K)) ∧
        (stepO P ops o' e kn w fun e kn w => Still P w (keep ops j pend) (forceN kn fun kn => forceN (set1 lst j) fun lst => shD P ops d' lst (keep ops j pend) e kn w K)) else False
    | _, _ => False

/-- No two operations of which neither hangs on the other touch one temporary. -/
def looksL (ops : List Oper) (o : Oper) : List Nat := (opds o.op).filterMap (fun | .tmp t => some t | _ => none) ++ (match o.guard with | some (g, _) => (dstOf ops g).toList | none => [])
def apartB (ops : List Oper) (x y : Oper) : Bool :=
  (match x.dst with | some d => !(looksL ops y).any (Nat.beq d) && (match y.dst with | some d' => !Nat.beq d' d | none => true) | none => true) &&
  (match y.dst with | some d => !(looksL ops x).any (Nat.beq d) | none => true)
def freeRow (ops : List Oper) (i : Nat) (x : Oper) : List Oper → Nat → Bool
  | [], _ => true
  | y :: r, j => (Nat.beq i j || onB x j || onB y i || apartB ops x y) && freeRow ops i x r (j + 1)
def freeFrom (ops : List Oper) : List Oper → Nat → Bool
  | [], _ => true
  | x :: r, i => (!isFloat x.op || freeRow ops i x ops 0) && freeFrom ops r (i + 1)

/-! ### Soundness of the drawn ones -/
theorem Still.out {w : World} {A : Prop} : ∀ {l : List Pd}, Still P w l A → (∀ p ∈ l, RD P w p.t p.x p.v) ∧ A
  | [], h => ⟨by simp, h⟩
  | p :: r, h => ⟨fun q hq => by
      rcases List.mem_cons.1 hq with rfl | hq
      · exact h.1
      · exact (Still.out h.2).1 q hq, (Still.out h.2).2⟩
theorem Still.mono {w : World} {A B : Prop} (hab : A → B) : ∀ {l : List Pd}, Still P w l A → Still P w l B
  | [], h => hab h
  | _ :: _, h => ⟨h.1, Still.mono hab h.2⟩

theorem freeRow_spec {ops : List Oper} {i : Nat} {x : Oper} : ∀ (l : List Oper) (j : Nat), freeRow ops i x l j = true → ∀ k y, l[k]? = some y → j + k ≠ i → onB x (j + k) = false → onB y i = false → apartB ops x y = true
  | [], _, _, k, y, hk => by simp at hk
  | z :: r, j, h, k, y, hk => by
    intro hne hx hy
    simp only [freeRow, Bool.and_eq_true, Bool.or_eq_true] at h
    cases k with
    | zero =>
      simp only [List.getElem?_cons_zero, Option.some.injEq] at hk
      subst hk
      rcases h.1 with ((h1 | h1) | h1) | h1
      · exact absurd (Nat.eq_of_beq_eq_true h1).symm hne
      · rw [show j + 0 = j from rfl] at hx; rw [hx] at h1; cases h1
      · rw [hy] at h1; cases h1
      · exact h1
    | succ k =>
      refine freeRow_spec r (j + 1) h.2 k y (by simpa using hk) (by omega) ?_ hy
      rw [show j + 1 + k = j + (k + 1) by omega]; exact hx
theorem freeFrom_spec {ops : List Oper} : ∀ (l : List Oper) (i : Nat), freeFrom ops l i = true → ∀ k x, l[k]? = some x → isFloat x.op = true → freeRow ops (i + k) x ops 0 = true
  | [], _, _, k, x, hk => by simp at hk
  | z :: r, i, h, k, x, hk => by
    intro hf
    simp only [freeFrom, Bool.and_eq_true, Bool.or_eq_true] at h
    cases k with
    | zero =>
      simp only [List.getElem?_cons_zero, Option.some.injEq] at hk
      subst hk
      rcases h.1 with h1 | h1
      · simp [hf] at h1
      · exact h1
    | succ k =>
      have := freeFrom_spec r (i + 1) h.2 k x (by simpa using hk) hf
      rwa [show i + 1 + k = i + (k + 1) by omega] at this

theorem looks_sub {ops : List Oper} {o : Oper} (hk : known o.op = true) {d : Nat} (h : d ∈ o.looksAt ops.toArray) : d ∈ looksL ops o := by
  unfold Oper.looksAt at h
  unfold looksL
  rw [List.mem_append] at h ⊢
  rcases h with h | h
  · left
    rw [List.mem_filterMap] at h ⊢
    obtain ⟨x, hx, hd⟩ := h
    exact ⟨x, operands_opds hk x (by simpa using hx), hd⟩
  · right
    cases hg : o.guard with
    | none => rw [hg] at h; exact h
    | some g =>
      obtain ⟨g, want⟩ := g
      rw [hg] at h
      simpa [dstOf] using h
theorem apartB_spec {ops : List Oper} {x y : Oper} (hx : known x.op = true) (hy : known y.op = true) (h : apartB ops x y = true) : x.apart ops.toArray y = true := by
  unfold apartB at h
  simp only [Bool.and_eq_true] at h
  obtain ⟨h1, h2⟩ := h
  have no : ∀ {o : Oper}, known o.op = true → ∀ {d : Nat}, (!(looksL ops o).any (Nat.beq d)) = true → (!(o.looksAt ops.toArray).contains d) = true := by
    intro o ho d hd
    simp only [Bool.not_eq_true', List.any_eq_false, List.contains_eq_mem, decide_eq_false_iff_not] at hd ⊢
    intro hm
    exact hd d (looks_sub ho hm) (Nat.beq_refl d)
  unfold Oper.apart
  simp only [Bool.and_eq_true]
  refine ⟨?_, ?_⟩
  · cases hdx : x.dst with
    | none => rfl
    | some d =>
      rw [hdx] at h1
      simp only [Bool.and_eq_true] at h1 ⊢
      refine ⟨no hy h1.1, ?_⟩
      have h1' := h1.2
      cases hdy : y.dst with
      | none => rfl
      | some d' =>
        rw [hdy] at h1'
        simp only [Bool.not_eq_true'] at h1'
        simp only [bne_iff_ne, ne_eq, Option.some.injEq]
        rintro rfl
        rw [Nat.beq_refl] at h1'
        cases h1'
  · cases hdy : y.dst with
    | none => rfl
    | some d =>
      rw [hdy] at h2
      exact no hx h2

/-- Whom 'lst' lists. -/
structure Lists (m : Nat) (listed : Array Bool) (lst : Nat) : Prop where
  size : listed.size = m
  at_ : ∀ k, listed.getD k false = Nat.testBit lst k
theorem Lists.set {m i : Nat} {listed : Array Bool} {lst : Nat} (h : Lists m listed lst) (hi : i < m) : Lists m (listed.setIfInBounds i true) (set1 lst i) := by
  refine ⟨by simp [h.size], fun k => ?_⟩
  unfold set1
  rw [Nat.testBit_or, Nat.testBit_two_pow, ← h.at_ k]
  by_cases hik : i = k
  · subst hik; simp [h.size, hi]
  · simp [Array.getElem?_setIfInBounds_ne hik, hik]
theorem Lists.ready {ops : List Oper} {listed : Array Bool} {lst : Nat} (h : Lists ops.length listed lst) {i : Nat} :
    i ∈ Region.ready .any ops.toArray listed ↔ ∃ o, ops[i]? = some o ∧ readyB o lst i = true := by
  rw [mem_ready]
  constructor
  · rintro ⟨h0, o, ho, hall⟩
    have ho' : ops[i]? = some o := by simpa using ho
    refine ⟨o, ho', ?_⟩
    have hi : i < ops.length := (List.getElem?_eq_some_iff.1 ho').1
    unfold readyB
    simp only [Bool.and_eq_true, Bool.not_eq_true', List.all_eq_true, Bool.or_eq_true]
    refine ⟨?_, fun e he => ?_⟩
    · rw [← h.at_ i]
      simp only [Array.getD_eq_getD_getElem?] at h0 ⊢
      rw [Array.getElem?_eq_getElem (by rw [h.size]; exact hi)] at h0 ⊢
      simpa using h0
    · rw [← h.at_ e.on, ← hard_eq]
      cases hb : Region.binds .any e
      · exact .inl rfl
      · exact .inr (hall e (by simpa using he) hb)
  · rintro ⟨o, ho, hr⟩
    have hi : i < ops.length := (List.getElem?_eq_some_iff.1 ho).1
    unfold readyB at hr
    simp only [Bool.and_eq_true, Bool.not_eq_true', List.all_eq_true, Bool.or_eq_true] at hr
    refine ⟨?_, o, by simpa using ho, fun e he hb => ?_⟩
    · have := hr.1
      rw [← h.at_ i] at this
      simp only [Array.getD_eq_getD_getElem?] at this ⊢
      rw [Array.getElem?_eq_getElem (by rw [h.size]; exact hi)] at this ⊢
      simpa using this
    · rw [h.at_ e.on]
      rcases hr.2 e (by simpa using he) with h1 | h1
      · rw [← hard_eq, hb] at h1; cases h1
      · exact h1
theorem mem_readyFrom {lst : Nat} : ∀ (l : List Oper) (k i : Nat), i ∈ readyFrom l k lst ↔ ∃ j o, l[j]? = some o ∧ i = k + j ∧ readyB o lst i = true
  | [], k, i => by simp [readyFrom]
  | o :: r, k, i => by
    have ih := mem_readyFrom (lst := lst) r (k + 1) i
    have split : (∃ j o', (o :: r)[j]? = some o' ∧ i = k + j ∧ readyB o' lst i = true) ↔ (i = k ∧ readyB o lst i = true) ∨ ∃ j o', r[j]? = some o' ∧ i = k + 1 + j ∧ readyB o' lst i = true := by
      constructor
      · rintro ⟨j, o', hj, hi, hr⟩
        cases j with
        | zero => simp only [List.getElem?_cons_zero, Option.some.injEq] at hj; subst hj; exact .inl ⟨by omega, hr⟩
        | succ j => exact .inr ⟨j, o', by simpa using hj, by omega, hr⟩
      · rintro (⟨rfl, hr⟩ | ⟨j, o', hj, hi, hr⟩)
        · exact ⟨0, o, by simp, by omega, hr⟩
        · exact ⟨j + 1, o', by simpa using hj, by omega, hr⟩
    rw [split, ← ih]
    have hrf : readyFrom (o :: r) k lst = bif readyB o lst k then k :: readyFrom r (k + 1) lst else readyFrom r (k + 1) lst := rfl
    rw [hrf]
    cases hb : readyB o lst k
    · simp only [cond_false]
      constructor
      · exact .inr
      · rintro (⟨rfl, hr⟩ | h)
        · rw [hb] at hr; cases hr
        · exact h
    · simp only [cond_true, List.mem_cons]
      constructor
      · rintro (rfl | h)
        · exact .inl ⟨rfl, hb⟩
        · exact .inr h
      · rintro (⟨rfl, _⟩ | h)
        · exact .inl rfl
        · exact .inr h
theorem Lists.ready' {ops : List Oper} {listed : Array Bool} {lst : Nat} (h : Lists ops.length listed lst) {i : Nat} :
    i ∈ Region.ready .any ops.toArray listed ↔ i ∈ readyFrom ops 0 lst := by
  rw [h.ready, mem_readyFrom]
  constructor
  · rintro ⟨o, ho, hr⟩; exact ⟨i, o, ho, by omega, hr⟩
  · rintro ⟨j, o, ho, hi, hr⟩
    obtain rfl : i = j := by omega
    exact ⟨o, ho, hr⟩

theorem execF_yields {i : Nat} {o : Oper} {e : Env} {kn : Nat} {w : World} {K : FT} (h : execF P i o e kn w K) :
    isFloat o.op = true ∧ ∃ v pe kn', (∀ p ∈ pe, p.op = i) ∧ (∀ w', (∀ p ∈ pe, RD P w' p.t p.x p.v) → (opS e.ev o).run P w' = .ok (.value v) w') ∧ (∀ p ∈ pe, RD P w p.t p.x p.v) ∧ K pe (e.putO o.dst v) kn' := by
  obtain ⟨dst, op, type, pos, after, guard⟩ := o
  cases op
  case move x => exact ⟨rfl, e.ev x, [], _, by simp, fun _ _ => rfl, by simp, h⟩
  case assign x => exact ⟨rfl, e.ev x, [], _, by simp, fun _ _ => rfl, by simp, h⟩
  case pick c a b =>
    refine ⟨rfl, ?_⟩
    simp only [execF] at h
    cases hc : opdK kn c <;> rw [hc] at h <;> simp only [cond_true, cond_false] at h
    · obtain ⟨v, hv, hk⟩ := h
      exact ⟨v, [], _, by simp, fun w' _ => hv w', by simp, hk⟩
    · cases hv : e.ev c <;> rw [hv] at h <;> first | exact (h : False).elim | skip
      case bool b' =>
        cases b'
        · exact ⟨e.ev b, [], _, by simp, fun w' _ => by simp only [opS]; rw [hv]; rfl, by simp, h⟩
        · exact ⟨e.ev a, [], _, by simp, fun w' _ => by simp only [opS]; rw [hv]; rfl, by simp, h⟩
  case load t x =>
    obtain ⟨v, hv, hk⟩ := h
    exact ⟨rfl, v, [⟨i, t, e.ev x, v⟩], _, by simp, fun w' hp => (hp ⟨i, t, e.ev x, v⟩ (by simp)).out, by simpa using hv, hk⟩
  all_goals
    simp only [execF] at h
    generalize hf : isFloat _ = b at h
    cases b
    · exact (h : False).elim
    · obtain ⟨v, hv, hk⟩ := (h : FX P _ _)
      exact ⟨rfl, v, [], _, by simp, fun w' _ => hv w', by simp, hk⟩

theorem YieldsIf.mk_exec {ops : Array Oper} {S : World → Prop} {o : Oper} {v : Value} {a : Act} {e : Env} (he : execOp a.eval o = execOp e.ev o) (hw : Region.wanted o (yielded ops a.tmps) = true)
    (h : ∀ w, S w → (opS e.ev o).run P w = .ok (.value v) w) : YieldsIf P ops S o v a := .inl ⟨hw, fun w hs => by rw [he]; exact opS_run e.ev o w (h w hs)⟩

theorem stepF_yields {ops : List Oper} (hall : ∀ o ∈ ops, operOK n o = true) {i : Nat} {o : Oper} (ho : operOK n o = true) {a : Act} {e : Env} {kn : Nat} {w : World} {K : FT}
    (hr : Rel n e a) (h : stepF P ops i o e kn w K) :
    ∃ v pe e' kn', (∀ p ∈ pe, p.op = i) ∧ YieldsIf P ops.toArray (fun w => ∀ p ∈ pe, RD P w p.t p.x p.v) o v a ∧ (∀ p ∈ pe, RD P w p.t p.x p.v) ∧ Rel n e' (a.put o.dst v) ∧ K pe e' kn' := by
  have exec : ∀ {e₁ : Env} {kn₁ : Nat}, (∀ i, e₁ i = e i) → Region.wanted o (yielded ops.toArray a.tmps) = true → execF P i o e₁ kn₁ w K →
      ∃ v pe e' kn', (∀ p ∈ pe, p.op = i) ∧ YieldsIf P ops.toArray (fun w => ∀ p ∈ pe, RD P w p.t p.x p.v) o v a ∧ (∀ p ∈ pe, RD P w p.t p.x p.v) ∧ Rel n e' (a.put o.dst v) ∧ K pe e' kn' := by
    intro e₁ kn₁ he hw hx
    have hr₁ : Rel n e₁ a := hr.congr fun i _ => he i
    obtain ⟨_, v, pe, kn', h1, h2, h3, h4⟩ := execF_yields hx
    exact ⟨v, pe, _, kn', h1, YieldsIf.mk_exec (exec_eq hr₁ ho) hw h2, h3, hr₁.putO _ _, h4⟩
  have skip : ∀ {e₁ : Env} {kn₁ : Nat}, (∀ i, e₁ i = e i) → Region.wanted o (yielded ops.toArray a.tmps) = false → K [] (e₁.putO o.dst undef) kn₁ →
      ∃ v pe e' kn', (∀ p ∈ pe, p.op = i) ∧ YieldsIf P ops.toArray (fun w => ∀ p ∈ pe, RD P w p.t p.x p.v) o v a ∧ (∀ p ∈ pe, RD P w p.t p.x p.v) ∧ Rel n e' (a.put o.dst v) ∧ K pe e' kn' := by
    intro e₁ kn₁ he hw hx
    exact ⟨undef, [], _, kn₁, by simp, .inr ⟨hw, rfl⟩, by simp, (hr.congr fun i _ => he i).putO _ _, hx⟩
  unfold stepF at h
  cases hg : o.guard with
  | none => rw [hg] at h; exact exec (fun _ => rfl) (by simp [Region.wanted, hg]) h
  | some gw =>
    obtain ⟨j, want⟩ := gw
    rw [hg] at h
    simp only at h
    have hw : Region.wanted o (yielded ops.toArray a.tmps) = (yielded ops.toArray a.tmps j == some want) := by simp [Region.wanted, hg]
    cases hd : dstOf ops j with
    | none => rw [hd] at h; exact h.elim
    | some t =>
      rw [hd] at h
      simp only at h
      have ht : t < n := by
        simp only [dstOf, Option.bind_eq_some_iff] at hd
        obtain ⟨oj, hoj, hdj⟩ := hd
        have := hall oj (List.mem_of_getElem? hoj)
        simp only [operOK, Bool.and_eq_true, hdj] at this
        simpa [Nat.blt_eq] using this.2.2
      rw [yielded_eq hr hd ht] at hw
      cases hk : isK kn t
      · rw [hk] at h
        simp only [cond_false] at h
        cases want
        · simp only [cond_false] at h
          obtain ⟨b, hb, hA, hB⟩ := h
          rw [hb] at hw
          cases b
          · exact exec (put_bool hb) hw (hB rfl)
          · exact skip (put_bool hb) hw (hA rfl)
        · simp only [cond_true] at h
          obtain ⟨b, hb, hA, hB⟩ := h
          rw [hb] at hw
          cases b
          · exact skip (put_bool hb) hw (hB rfl)
          · exact exec (put_bool hb) hw (hA rfl)
      · rw [hk] at h
        simp only [cond_true] at h
        cases hv : e t <;> rw [hv] at h hw <;> first | exact (h : False).elim | skip
        case bool b =>
          cases b <;> cases want <;> simp only [cond_true, cond_false] at h
          · exact exec (fun _ => rfl) hw h
          · exact skip (fun _ => rfl) hw h
          · exact skip (fun _ => rfl) hw h
          · exact exec (fun _ => rfl) hw h
        case tuple vs => exact skip (fun _ => rfl) hw h

theorem known_noSelect {ops : List Oper} (hall : ∀ o ∈ ops, operOK n o = true) (j : Nat) (o : Oper) (cs : Array SelectCase) (b : Bool) (hj : ops[j]? = some o) : o.op ≠ .select cs b := by
  intro he
  have := hall o (List.mem_of_getElem? hj)
  simp [operOK, he, known] at this

theorem shD_spine {ops : List Oper} {Q : Exit → Act → World → Prop} (hall : ∀ o ∈ ops, operOK n o = true) {i : Nat} {o : Oper} (ho : operOK n o = true) (hi : ops[i]? = some o) {a : Act} {e : Env} {kn : Nat} {w : World}
    {K : KT} {G : Act → World → Prop} (hr : Rel n e a) (h : stepO P ops o e kn w K) (hG : ∀ a' w' e' kn', Rel n e' a' → K e' kn' w' → G a' w') : wpOp P ops.toArray Q i G a w := by
  have hi' : ops.toArray[i]? = some o := by simpa using hi
  unfold wpOp
  simp only [hi']
  rcases stepO_wp (Q := Q) hall ho hr h with ⟨hw, hs⟩ | ⟨hw, hs⟩
  · rw [if_pos hw]
    exact .inl (Oper.wp_mono (fun a' w' ⟨e', kn', hr', hk⟩ => hG a' w' e' kn' hr' hk) hs)
  · rw [if_neg (by simp [hw])]
    obtain ⟨e', kn', hr', hk⟩ := hs
    exact hG _ _ e' kn' hr' hk

theorem shD_GG {ops : List Oper} {Q : Exit → Act → World → Prop} (hall : ∀ o ∈ ops, operOK n o = true) (hfree : freeFrom ops ops 0 = true) (hQ : ∀ c a w, ¬ Q (.panic c) a w) {K : KT}
    (hK : ∀ a w, Fit n K a w → Q .normal a w) : ∀ (d : DP) (fuel lst : Nat) (listed : Array Bool) (pend : List Pd) (a : Act) (e : Env) (kn : Nat) (w : World),
    d.lenIs fuel = true → Lists ops.length listed lst → Rel n e a → (∀ p ∈ pend, RD P w p.t p.x p.v) → shD P ops d lst pend e kn w K → GG P ops Q fuel listed pend a w := by
  intro d
  induction d with
  | fin =>
    intro fuel lst listed pend a e kn w hl hL hr hp h
    cases fuel with
    | succ k => simp [DP.lenIs] at hl
    | zero =>
      simp only [shD, forceN_eq] at h
      cases hn : isNil (readyFrom ops 0 lst) <;> rw [hn] at h
      · exact h.elim
      · have hnil : readyFrom ops 0 lst = [] := by
          cases hrf : readyFrom ops 0 lst with
          | nil => rfl
          | cons x xs => rw [hrf] at hn; cases hn
        refine ⟨hp, ?_, hK a w ⟨e, kn, hr, h⟩⟩
        rw [List.eq_nil_iff_forall_not_mem]
        intro i hi
        rw [hL.ready', hnil] at hi
        cases hi
  | take i d ih =>
    intro fuel lst listed pend a e kn w hl hL hr hp h
    cases fuel with
    | zero => simp [DP.lenIs] at hl
    | succ fuel =>
      simp only [DP.lenIs] at hl
      simp only [shD, forceN_eq] at h
      cases ho : ops[i]? with
      | none => rw [ho] at h; exact h.elim
      | some o =>
        rw [ho] at h
        simp only at h
        cases hfl : isFloat o.op <;> rw [hfl] at h
        · exact h.elim
        cases hrb : readyB o lst i <;> rw [hrb] at h
        · exact h.elim
        · have hf : stepF P ops i o e kn w (fun pe e kn => shD P ops d (set1 lst i) (pe ++ pend) e kn w K) := h
          have hoo := hall o (List.mem_of_getElem? ho)
          have hi : i < ops.length := (List.getElem?_eq_some_iff.1 ho).1
          obtain ⟨v, pe, e', kn', h1, h2, h3, h4, h5⟩ := stepF_yields hall hoo hr hf
          refine GG.first ho (known_noSelect hall) (fun c a w hh => (hQ _ _ _ hh).elim) pe h1 fuel listed pend a w ?_ (hL.ready.2 ⟨o, ho, hrb⟩) h2 ?_
          · intro j oj hj hji hun hno
            have hoj := hall oj (List.mem_of_getElem? hj)
            simp only [operOK, Bool.and_eq_true] at hoo hoj
            have hrow := freeFrom_spec ops 0 hfree i o ho hfl
            rw [Nat.zero_add] at hrow
            refine apartB_spec hoo.1 hoj.1 (freeRow_spec ops 0 hrow j oj hj (by omega) ?_ ?_)
            · rw [Nat.zero_add]
              cases hb : onB o j
              · rfl
              · exfalso
                simp only [onB, List.any_eq_true, Bool.and_eq_true] at hb
                obtain ⟨ed, hed, hh, hbe⟩ := hb
                simp only [readyB, Bool.and_eq_true, List.all_eq_true, Bool.or_eq_true, Bool.not_eq_true'] at hrb
                have hon : ed.on = j := Nat.eq_of_beq_eq_true hbe
                rcases hrb.2 ed hed with h6 | h6
                · rw [hh] at h6; cases h6
                · rw [hon, ← hL.at_ j] at h6
                  have hjl : j < listed.size := by rw [hL.size]; exact (List.getElem?_eq_some_iff.1 hj).1
                  simp [hjl] at hun h6
                  rw [hun] at h6; cases h6
            · cases hb : onB oj i
              · rfl
              · exfalso
                simp only [onB, List.any_eq_true, Bool.and_eq_true] at hb
                obtain ⟨ed, hed, hh, hbe⟩ := hb
                exact hno ed (by simpa using hed) (by rw [hard_eq]; exact hh) (Nat.eq_of_beq_eq_true hbe)
          · exact ih fuel _ _ _ _ _ _ _ hl (hL.set hi) h4 (fun p hp' => by
              rcases List.mem_append.1 hp' with h6 | h6
              · exact h3 p h6
              · exact hp p h6) h5
  | one i d ih =>
    intro fuel lst listed pend a e kn w hl hL hr hp h
    cases fuel with
    | zero => simp [DP.lenIs] at hl
    | succ fuel =>
      simp only [DP.lenIs] at hl
      simp only [shD, forceN_eq] at h
      cases ho : ops[i]? with
      | none => rw [ho] at h; exact h.elim
      | some o =>
        rw [ho] at h
        simp only at h
        cases hon : isOne (readyFrom ops 0 lst) i <;> rw [hon] at h
        · exact h.elim
        have hrf : readyFrom ops 0 lst = [i] := by
          cases hrf : readyFrom ops 0 lst with
          | nil => rw [hrf] at hon; cases hon
          | cons x xs =>
            cases xs with
            | cons y ys => rw [hrf] at hon; cases hon
            | nil => rw [hrf] at hon; rw [Nat.eq_of_beq_eq_true hon]
        have hi : i < ops.length := (List.getElem?_eq_some_iff.1 ho).1
        refine ⟨hp, fun h0 => ?_, fun k hk => ?_⟩
        · exfalso
          have : i ∈ Region.ready .any ops.toArray listed := by rw [hL.ready', hrf]; simp
          rw [h0] at this; cases this
        · rw [hL.ready', hrf] at hk
          obtain rfl : k = i := by simpa using hk
          exact shD_spine hall (hall o (List.mem_of_getElem? ho)) ho hr h fun a' w' e' kn' hr' hst => by
            obtain ⟨h1, h2⟩ := hst.out
            exact ih fuel _ _ _ _ _ _ _ hl (hL.set hi) hr' h1 h2
  | two i d j d' ih ih' =>
    intro fuel lst listed pend a e kn w hl hL hr hp h
    cases fuel with
    | zero => simp [DP.lenIs] at hl
    | succ fuel =>
      simp only [DP.lenIs, Bool.and_eq_true] at hl
      simp only [shD, forceN_eq] at h
      cases ho : ops[i]? with
      | none => rw [ho] at h; exact h.elim
      | some o =>
      cases ho' : ops[j]? with
      | none => rw [ho, ho'] at h; exact h.elim
      | some o' =>
        rw [ho, ho'] at h
        simp only at h
        cases hon : isTwo (readyFrom ops 0 lst) i j <;> rw [hon] at h
        · exact h.elim
        obtain ⟨hA, hB⟩ := (h : _ ∧ _)
        have hrf : readyFrom ops 0 lst = [i, j] := by
          cases hrf : readyFrom ops 0 lst with
          | nil => rw [hrf] at hon; cases hon
          | cons x xs =>
            cases xs with
            | nil => rw [hrf] at hon; cases hon
            | cons y ys =>
              cases ys with
              | cons z zs => rw [hrf] at hon; cases hon
              | nil =>
                rw [hrf] at hon
                simp only [isTwo, Bool.and_eq_true] at hon
                rw [Nat.eq_of_beq_eq_true hon.1, Nat.eq_of_beq_eq_true hon.2]
        have hi : i < ops.length := (List.getElem?_eq_some_iff.1 ho).1
        have hj : j < ops.length := (List.getElem?_eq_some_iff.1 ho').1
        refine ⟨hp, fun h0 => ?_, fun k hk => ?_⟩
        · exfalso
          have : i ∈ Region.ready .any ops.toArray listed := by rw [hL.ready', hrf]; simp
          rw [h0] at this; cases this
        · rw [hL.ready', hrf] at hk
          have hk' : k = i ∨ k = j := by simpa using hk
          rcases hk' with rfl | rfl
          · exact shD_spine hall (hall o (List.mem_of_getElem? ho)) ho hr hA fun a' w' e' kn' hr' hst => by
              obtain ⟨h1, h2⟩ := hst.out
              exact ih fuel _ _ _ _ _ _ _ hl.1 (hL.set hi) hr' h1 h2
          · exact shD_spine hall (hall o' (List.mem_of_getElem? ho')) ho' hr hB fun a' w' e' kn' hr' hst => by
              obtain ⟨h1, h2⟩ := hst.out
              exact ih' fuel _ _ _ _ _ _ _ hl.2 (hL.set hj) hr' h1 h2

theorem shD_wp {ops : List Oper} {Q : Exit → Act → World → Prop} (hall : ∀ o ∈ ops, operOK n o = true) (hfree : freeFrom ops ops 0 = true) (hQ : ∀ c a w, ¬ Q (.panic c) a w) {K : KT}
    (hK : ∀ a w, Fit n K a w → Q .normal a w) (hm : P.follows .mixedOrders = true) {d : DP} (hl : d.lenIs ops.length = true) {id : Nat} {a : Act} {e : Env} {kn : Nat} {w : World}
    (hr : Rel n e a) (h : shD P ops d 0 [] e kn { w with drawn := w.drawn + 1 } K) : (Code.region id ops.toArray true).wp P Q a w := by
  refine wp_region_any hm (GG.any _ (shD_GG hall hfree hQ hK d _ 0 _ [] a e kn _ ?_ ⟨by simp, fun k => by simp [Nat.zero_testBit, Array.getElem?_replicate]; split <;> rfl⟩ hr (by simp) h))
  simpa using hl

/-! ### More follows from more, in drawn regions -/
theorem execF_mono {i : Nat} {o : Oper} {e : Env} {kn : Nat} {w : World} {K K' : FT} (h : execF P i o e kn w K)
    (hk : ∀ pe e' kn', (∀ i, o.dst ≠ some i → e' i = e i) → K pe e' kn' → K' pe e' kn') : execF P i o e kn w K' := by
  have go : ∀ v pe kn', K pe (e.putO o.dst v) kn' → K' pe (e.putO o.dst v) kn' := fun v pe kn' => hk pe _ kn' fun i hi => putO_stays e o.dst v hi
  unfold execF at *
  cases ho : o.op <;> rw [ho] at h <;> simp only at h ⊢
  case move x => exact go _ _ _ h
  case assign x => exact go _ _ _ h
  case pick c a b =>
    cases hc : opdK kn c <;> rw [hc] at h <;> simp only [cond_true, cond_false] at h ⊢
    · exact h.mono fun v hh => go _ _ _ hh
    · cases hv : e.ev c <;> rw [hv] at h <;> first | exact (h : False).elim | skip
      case bool b' => cases b' <;> exact go _ _ _ h
  case load t x => exact h.mono fun v hh => go _ _ _ hh
  all_goals
    generalize isFloat _ = b at h ⊢
    cases b
    · exact (h : False).elim
    · exact FX.mono (h : FX P _ _) fun v hh => go _ _ _ hh

theorem stepF_mono {ops : List Oper} {i : Nat} {o : Oper} {e : Env} {kn : Nat} {w : World} {K K' : FT} (h : stepF P ops i o e kn w K)
    (hk : ∀ pe e' kn', (∀ i, o.dst ≠ some i → e' i = e i) → K pe e' kn' → K' pe e' kn') : stepF P ops i o e kn w K' := by
  unfold stepF at *
  cases hg : o.guard with
  | none => rw [hg] at h; exact execF_mono h hk
  | some gw =>
    obtain ⟨j, want⟩ := gw
    rw [hg] at h
    simp only at h ⊢
    cases hd : dstOf ops j with
    | none => rw [hd] at h; exact h.elim
    | some t =>
      rw [hd] at h
      simp only at h ⊢
      have skip : ∀ (e₁ : Env) (kn' : Nat), (∀ i, e₁ i = e i) → K [] (e₁.putO o.dst undef) kn' → K' [] (e₁.putO o.dst undef) kn' := fun e₁ kn' he hh =>
        hk _ _ _ (fun i hi => by rw [putO_stays _ _ _ hi]; exact he i) hh
      have exec : ∀ (e₁ : Env) (kn' : Nat), (∀ i, e₁ i = e i) → execF P i o e₁ kn' w K → execF P i o e₁ kn' w K' := fun e₁ kn' he hh =>
        execF_mono hh fun pe e' kn' h1 h2 => hk pe e' kn' (fun i hi => (h1 i hi).trans (he i)) h2
      cases hkn : isK kn t <;> rw [hkn] at h <;> simp only [cond_true, cond_false] at h ⊢
      · cases want <;> simp only [cond_true, cond_false] at h ⊢
        · obtain ⟨b, hb, hA, hB⟩ := h
          refine ⟨b, hb, fun e1 => ?_, fun e1 => ?_⟩ <;> subst e1
          · exact skip _ _ (put_bool hb) (hA rfl)
          · exact exec _ _ (put_bool hb) (hB rfl)
        · obtain ⟨b, hb, hA, hB⟩ := h
          refine ⟨b, hb, fun e1 => ?_, fun e1 => ?_⟩ <;> subst e1
          · exact exec _ _ (put_bool hb) (hA rfl)
          · exact skip _ _ (put_bool hb) (hB rfl)
      · cases hv : e t <;> rw [hv] at h <;> first | exact (h : False).elim | skip
        case bool b =>
          cases b <;> cases want <;> simp only [cond_true, cond_false] at h ⊢
          · exact exec _ _ (fun _ => rfl) h
          · exact skip _ _ (fun _ => rfl) h
          · exact skip _ _ (fun _ => rfl) h
          · exact exec _ _ (fun _ => rfl) h
        case tuple vs => exact skip _ _ (fun _ => rfl) h

theorem shD_mono {ops : List Oper} {K K' : KT} : ∀ (d : DP) {lst : Nat} {pend : List Pd} {e : Env} {kn : Nat} {w : World}, shD P ops d lst pend e kn w K →
    (∀ e' kn' w', (∀ i, (∀ o ∈ ops, o.dst ≠ some i) → e' i = e i) → K e' kn' w' → K' e' kn' w') → shD P ops d lst pend e kn w K' := by
  intro d
  induction d with
  | fin =>
    intro lst pend e kn w h hk
    simp only [shD, forceN_eq] at h ⊢
    cases hn : isNil (readyFrom ops 0 lst) <;> rw [hn] at h
    · exact h.elim
    · exact hk _ _ _ (fun _ _ => rfl) h
  | take i d ih =>
    intro lst pend e kn w h hk
    simp only [shD, forceN_eq] at h ⊢
    cases ho : ops[i]? with
    | none => rw [ho] at h; exact h.elim
    | some o =>
      rw [ho] at h
      simp only at h ⊢
      cases hb : (isFloat o.op && readyB o lst i) <;> rw [hb] at h
      · exact h.elim
      · exact stepF_mono (h : stepF P ops i o e kn w _) fun pe e1 kn1 h1 h2 => ih h2 fun e2 kn2 w2 h3 h4 =>
          hk e2 kn2 w2 (fun i hi => (h3 i hi).trans (h1 i (hi o (List.mem_of_getElem? ho)))) h4
  | one i d ih =>
    intro lst pend e kn w h hk
    simp only [shD, forceN_eq] at h ⊢
    cases ho : ops[i]? with
    | none => rw [ho] at h; exact h.elim
    | some o =>
      rw [ho] at h
      simp only at h ⊢
      cases hb : isOne (readyFrom ops 0 lst) i <;> rw [hb] at h
      · exact h.elim
      · exact stepO_mono (h : stepO P ops o e kn w _) fun e1 kn1 w1 h1 h2 => Still.mono (fun h2 => ih h2 fun e2 kn2 w2 h3 h4 =>
          hk e2 kn2 w2 (fun i hi => (h3 i hi).trans (h1 i (hi o (List.mem_of_getElem? ho)))) h4) h2
  | two i d j d' ih ih' =>
    intro lst pend e kn w h hk
    simp only [shD, forceN_eq] at h ⊢
    cases ho : ops[i]? with
    | none => rw [ho] at h; exact h.elim
    | some o =>
    cases ho' : ops[j]? with
    | none => rw [ho, ho'] at h; exact h.elim
    | some o' =>
      rw [ho, ho'] at h
      simp only at h ⊢
      cases hb : isTwo (readyFrom ops 0 lst) i j <;> rw [hb] at h
      · exact h.elim
      · obtain ⟨hA, hB⟩ := (h : _ ∧ _)
        exact ⟨stepO_mono hA fun e1 kn1 w1 h1 h2 => Still.mono (fun h2 => ih h2 fun e2 kn2 w2 h3 h4 =>
            hk e2 kn2 w2 (fun i hi => (h3 i hi).trans (h1 i (hi o (List.mem_of_getElem? ho)))) h4) h2,
          stepO_mono hB fun e1 kn1 w1 h1 h2 => Still.mono (fun h2 => ih' h2 fun e2 kn2 w2 h3 h4 =>
            hk e2 kn2 w2 (fun i hi => (h3 i hi).trans (h1 i (hi o' (List.mem_of_getElem? ho')))) h4) h2⟩
end

/-! ### Code -/
inductive X where
  | norm
  | exit (id : Nat)
  | ret
/-- What is said beside the text: the orders of drawn regions; of joins and loops: which temporaries are told on (L), which may have turned (S). -/
inductive Pl where
  | leaf
  | draw (d : DP)
  | seq (a b : Pl)
  | join (L S : List Nat) (a b : Pl)
  | cond (a b : Pl)
  | block (a : Pl)
  | loop (L S : List Nat) (a : Pl)

def dsts (ops : List Oper) : List Nat := ops.filterMap (·.dst)
def asg : Code → List Nat
  | .region _ ops _ => dsts ops.toList
  | .seq a b => asg a ++ asg b
  | .cond _ a b => asg a ++ asg b
  | .block _ a => asg a
  | .loop a => asg a
  | .scope a => asg a
  | _ => []
def sub (l S : List Nat) : Bool := l.all fun t => S.any (Nat.beq t)
def Env.hav (S : List Nat) (f e : Env) : Env := fun i => bif S.any (Nat.beq i) then f i else e i
def vals (L : List Nat) (e : Env) : List Value := L.map e
def knOut (S : List Nat) (kn : Nat) : Nat := S.foldl knClr kn

def sh (P : Program) : Code → Pl → (X → KT) → Env → Nat → World → Prop
  | .skip, _, Q, e, kn, w => Q .norm e kn w
  | .region _ ops false, _, Q, e, kn, w => shOps P ops.toList ops.toList e kn w (Q .norm)
  | .region _ ops true, .draw d, Q, e, kn, w => bif freeFrom ops.toList ops.toList 0 && d.lenIs ops.toList.length then shD P ops.toList d 0 [] e kn { w with drawn := w.drawn + 1 } (Q .norm) else False
  | .seq a b, .seq pa pb, Q, e, kn, w => sh P a pa (fun x e kn w => match x with
    | .norm => forceN kn fun kn => sh P b pb Q e kn w
    | .exit i => Q (.exit i) e kn w
    | .ret => Q .ret e kn w) e kn w
  | .seq a b, .join L S pa pb, Q, e, kn, w => bif sub (asg a) S && sub S (asg a) then
      ∃ J : List Value → World → Prop, sh P a pa (fun x e kn w => match x with
        | .norm => J (vals L e) w
        | .exit i => Q (.exit i) e kn w
        | .ret => Q .ret e kn w) e kn w ∧ ∀ (f : Env) (w : World), J (vals L f) w → forceN (knOut S kn) fun kn => sh P b pb Q (Env.hav S f e) kn w
      else False
  | .cond c a b, .cond pa pb, Q, e, kn, w => match c with
    | .tmp t => bif isK kn t then (match e t with
        | .bool true => sh P a pa Q e kn w
        | .bool false => sh P b pb Q e kn w
        | _ => False)
      else forceN (knSet kn t) fun kn => IFB (e t) (sh P a pa Q (e.put t (.bool true)) kn w) (sh P b pb Q (e.put t (.bool false)) kn w)
    | _ => False
  | .block id a, .block pa, Q, e, kn, w => sh P a pa (fun x e kn w => match x with
    | .norm => Q .norm e kn w
    | .exit i => bif Nat.beq i id then Q .norm e kn w else Q (.exit i) e kn w
    | .ret => Q .ret e kn w) e kn w
  | .loop a, .loop L S pa, Q, e, kn, w => bif sub (asg a) S && sub S (asg a) then
      ∃ (I : List Value → World → Prop) (m : List Value → World → Nat), I (vals L e) w ∧ ∀ (f : Env) (w : World), I (vals L f) w →
        forceN (knOut S kn) fun kn => sh P a pa (fun x e' kn' w' => match x with
          | .norm => I (vals L e') w' ∧ m (vals L e') w' < m (vals L f) w
          | .exit i => Q (.exit i) e' kn' w'
          | .ret => Q .ret e' kn' w') (Env.hav S f e) kn w
      else False
  | .scope a, .block pa, Q, e, kn, w => sh P a pa Q e kn w
  | .label _, _, Q, e, kn, w => Q .norm e kn w
  | .exit id, _, Q, e, kn, w => Q (.exit id) e kn w
  | .ret, _, Q, e, kn, w => Q .ret e kn w
  | _, _, _, _, _, _ => False

/-- Every temporary is one of the frame's. -/
def codeOK (n : Nat) : Code → Bool
  | .region _ ops _ => ops.toList.all (operOK n)
  | .seq a b => codeOK n a && codeOK n b
  | .cond (.tmp t) a b => Nat.blt t n && (codeOK n a && codeOK n b)
  | .block _ a => codeOK n a
  | .loop a => codeOK n a
  | .scope a => codeOK n a
  | _ => true
/-- .. and each that is told on. -/
def plOK (n : Nat) : Pl → Bool
  | .seq a b => plOK n a && plOK n b
  | .join L _ a b => L.all (Nat.blt · n) && (plOK n a && plOK n b)
  | .cond a b => plOK n a && plOK n b
  | .block a => plOK n a
  | .loop L _ a => L.all (Nat.blt · n) && plOK n a
  | _ => true

def lift (n : Nat) (Q : X → KT) : Exit → Act → World → Prop
  | .normal, a, w => Fit n (Q .norm) a w
  | .exit id, a, w => Fit n (Q (.exit id)) a w
  | .ret, a, w => Fit n (Q .ret) a w
  | _, _, _ => False

section
variable {P : Program} {n : Nat}
theorem sub_spec {l S : List Nat} (h : sub l S = true) {t : Nat} (ht : t ∈ l) : S.any (Nat.beq t) = true := by
  simp only [sub, List.all_eq_true] at h
  exact h t ht
theorem mem_dsts {ops : List Oper} {o : Oper} (ho : o ∈ ops) {i : Nat} (hd : o.dst = some i) : i ∈ dsts ops := List.mem_filterMap.2 ⟨o, ho, hd⟩

theorem mem_of_anyB {S : List Nat} {t : Nat} (h : S.any (Nat.beq t) = true) : t ∈ S := by
  simp only [List.any_eq_true] at h
  obtain ⟨x, hx, hb⟩ := h
  rw [Nat.eq_of_beq_eq_true hb]; exact hx
theorem anyB_of_mem {S : List Nat} {t : Nat} (h : t ∈ S) : S.any (Nat.beq t) = true := List.any_eq_true.2 ⟨t, h, Nat.beq_refl t⟩
theorem hav_ne {S : List Nat} (f e : Env) {i : Nat} (h : ¬ S.any (Nat.beq i) = true) : Env.hav S f e i = e i := by
  unfold Env.hav
  rw [Bool.not_eq_true] at h
  rw [h]; rfl
theorem hav_in {S : List Nat} (f e : Env) {i : Nat} (h : S.any (Nat.beq i) = true) : Env.hav S f e i = f i := by
  unfold Env.hav
  rw [h]; rfl

theorem sh_mono : ∀ (c : Code) {pl : Pl} {Q Q' : X → KT} {e : Env} {kn : Nat} {w : World}, sh P c pl Q e kn w →
    (∀ x e' kn' w', (∀ i, i ∉ asg c → e' i = e i) → Q x e' kn' w' → Q' x e' kn' w') → sh P c pl Q' e kn w := by
  intro c
  induction c with
  | skip => intro pl Q Q' e kn w h hk; exact hk _ _ _ _ (fun _ _ => rfl) h
  | label l => intro pl Q Q' e kn w h hk; exact hk _ _ _ _ (fun _ _ => rfl) h
  | scope a iha =>
    intro pl Q Q' e kn w h hk
    cases pl <;> first | exact (h : False).elim | skip
    case block pa => exact iha (h : sh P a pa Q e kn w) hk
  | exit id => intro pl Q Q' e kn w h hk; exact hk _ _ _ _ (fun _ _ => rfl) h
  | ret => intro pl Q Q' e kn w h hk; exact hk _ _ _ _ (fun _ _ => rfl) h
  | region id ops draw =>
    intro pl Q Q' e kn w h hk
    have stays : ∀ {e' : Env}, (∀ i, (∀ o ∈ ops.toList, o.dst ≠ some i) → e' i = e i) → ∀ i, i ∉ asg (.region id ops draw) → e' i = e i := fun he i hi =>
      he i fun o ho hd => hi (mem_dsts ho hd)
    cases draw with
    | false => exact shOps_mono _ (h : shOps P ops.toList ops.toList e kn w (Q .norm)) fun e' kn' w' he hh => hk _ _ _ _ (stays he) hh
    | true =>
      cases pl <;> first | exact (h : False).elim | skip
      case draw d =>
        simp only [sh, forceN_eq] at h ⊢
        cases hb : (freeFrom ops.toList ops.toList 0 && d.lenIs ops.toList.length) <;> rw [hb] at h
        · exact (h : False).elim
        · exact shD_mono d (h : shD P _ _ _ _ _ _ _ _) fun e' kn' w' he hh => hk _ _ _ _ (stays he) hh
  | seq a b iha ihb =>
    intro pl Q Q' e kn w h hk
    cases pl <;> first | exact (h : False).elim | skip
    case seq pa pb =>
      simp only [sh, forceN_eq] at h ⊢
      refine iha h fun x e' kn' w' he hh => ?_
      have hea : ∀ i, i ∉ asg (.seq a b) → e' i = e i := fun i hi => he i fun hm => hi (by simp [asg, hm])
      cases x
      · exact ihb hh fun x e2 kn2 w2 he2 hh2 => hk x e2 kn2 w2 (fun i hi => (he2 i fun hm => hi (by simp [asg, hm])).trans (hea i hi)) hh2
      · exact hk _ _ _ _ hea hh
      · exact hk _ _ _ _ hea hh
    case join L S pa pb =>
      simp only [sh, forceN_eq] at h ⊢
      cases hb : (sub (asg a) S && sub S (asg a)) <;> rw [hb] at h
      · exact (h : False).elim
      · obtain ⟨J, hA, hB⟩ := (h : ∃ J, _)
        refine ⟨J, iha hA fun x e' kn' w' he hh => ?_, fun f w' hJ => ?_⟩
        · have hea : ∀ i, i ∉ asg (.seq a b) → e' i = e i := fun i hi => he i fun hm => hi (by simp [asg, hm])
          cases x
          · exact hh
          · exact hk _ _ _ _ hea hh
          · exact hk _ _ _ _ hea hh
        · refine ihb (hB f w' hJ) fun x e' kn' w' he hh => hk x e' kn' w' (fun i hi => (he i fun hm => hi (by simp [asg, hm])).trans (hav_ne f e ?_)) hh
          intro hm
          have := sub_spec ((Bool.and_eq_true _ _ ▸ hb : _ ∧ _).2) (mem_of_anyB hm)
          exact hi (by simp [asg, mem_of_anyB this])
  | cond c a b iha ihb =>
    intro pl Q Q' e kn w h hk
    cases pl <;> first | (cases c <;> exact (h : False).elim) | skip
    case cond pa pb =>
      cases c <;> first | exact (h : False).elim | skip
      case tmp t =>
        simp only [sh, forceN_eq] at h ⊢
        have hA : ∀ {e₁ : Env} {kn₁ : Nat}, (∀ i, e₁ i = e i) → sh P a pa Q e₁ kn₁ w → sh P a pa Q' e₁ kn₁ w := fun he hh =>
          iha hh fun x e' kn' w' h1 h2 => hk x e' kn' w' (fun i hi => (h1 i fun hm => hi (by simp [asg, hm])).trans (he i)) h2
        have hB : ∀ {e₁ : Env} {kn₁ : Nat}, (∀ i, e₁ i = e i) → sh P b pb Q e₁ kn₁ w → sh P b pb Q' e₁ kn₁ w := fun he hh =>
          ihb hh fun x e' kn' w' h1 h2 => hk x e' kn' w' (fun i hi => (h1 i fun hm => hi (by simp [asg, hm])).trans (he i)) h2
        cases hkn : isK kn t <;> rw [hkn] at h <;> simp only [cond_true, cond_false] at h ⊢
        · obtain ⟨b', hb, h1, h2⟩ := h
          refine ⟨b', hb, fun e1 => ?_, fun e1 => ?_⟩ <;> subst e1
          · exact hA (put_bool hb) (h1 rfl)
          · exact hB (put_bool hb) (h2 rfl)
        · cases hv : e t <;> rw [hv] at h <;> first | exact (h : False).elim | skip
          case bool b' => cases b'
                          · exact hB (fun _ => rfl) h
                          · exact hA (fun _ => rfl) h
  | block id a iha =>
    intro pl Q Q' e kn w h hk
    cases pl <;> first | exact (h : False).elim | skip
    case block pa =>
      refine iha (h : sh P a pa _ e kn w) fun x e' kn' w' he hh => ?_
      cases x
      · exact hk _ _ _ _ he hh
      · rename_i i
        simp only at hh ⊢
        cases hb : Nat.beq i id <;> rw [hb] at hh
        · exact hk _ _ _ _ he hh
        · exact hk _ _ _ _ he hh
      · exact hk _ _ _ _ he hh
  | loop a iha =>
    intro pl Q Q' e kn w h hk
    cases pl <;> first | exact (h : False).elim | skip
    case loop L S pa =>
      simp only [sh, forceN_eq] at h ⊢
      cases hb : (sub (asg a) S && sub S (asg a)) <;> rw [hb] at h
      · exact (h : False).elim
      · obtain ⟨I, m, h0, hI⟩ := (h : ∃ I m, _)
        refine ⟨I, m, h0, fun f w1 h1 => iha (hI f w1 h1) fun x e' kn' w' he hh => ?_⟩
        have hee : ∀ i, i ∉ asg (.loop a) → e' i = e i := fun i hi => (he i hi).trans (hav_ne f e fun hm =>
          hi (mem_of_anyB (sub_spec ((Bool.and_eq_true _ _ ▸ hb : _ ∧ _).2) (mem_of_anyB hm))))
        cases x
        · exact hh
        · exact hk _ _ _ _ hee hh
        · exact hk _ _ _ _ hee hh
  | _ => intro pl Q Q' e kn w h hk; exact (h : False).elim

def fr (a : Act) : Env := fun i => a.tmps.getD i undef
theorem rel_fr {a : Act} (hs : a.tmps.size = n) (hd : a.defers = []) : Rel n (fr a) a := by
  refine ⟨hs, hd, fun i hi => ?_⟩
  simp [fr, Array.getElem?_eq_getElem (show i < a.tmps.size by omega)]
theorem Rel.fr_eq {a : Act} {e : Env} (h : Rel n e a) {i : Nat} (hi : i < n) : fr a i = e i := by
  simp [fr, h.at_ i hi]
theorem vals_fr {a : Act} {e : Env} (h : Rel n e a) {L : List Nat} (hL : L.all (Nat.blt · n) = true) : vals L (fr a) = vals L e := by
  simp only [List.all_eq_true] at hL
  exact List.map_congr_left fun t ht => h.fr_eq (by simpa [Nat.blt_eq] using hL t ht)

theorem sh_wp (hm : P.follows .mixedOrders = true) : ∀ (c : Code) {pl : Pl} {Q : X → KT} {a : Act} {e : Env} {kn : Nat} {w : World}, codeOK n c = true → plOK n pl = true → Rel n e a →
    sh P c pl Q e kn w → c.wp P (lift n Q) a w := by
  intro c
  induction c with
  | skip => intro pl Q a e kn w _ _ hr h; exact wp_skip ⟨e, kn, hr, h⟩
  | label l => intro pl Q a e kn w _ _ hr h; exact wp_label ⟨e, kn, hr, h⟩
  | scope c ih =>
    intro pl Q a e kn w hc hp hr h
    cases pl <;> first | exact (h : False).elim | skip
    case block pa =>
      refine wp_scope_straight (Code.wp_mono (fun x a' w' hh => ?_) (ih (pl := pa) hc hp hr h))
      cases x <;> first | exact (hh : False).elim | exact hh
  | exit id => intro pl Q a e kn w _ _ hr h; exact wp_exit ⟨e, kn, hr, h⟩
  | ret => intro pl Q a e kn w _ _ hr h; exact wp_ret ⟨e, kn, hr, h⟩
  | region id ops draw =>
    intro pl Q a e kn w hc hp hr h
    have hall : ∀ o ∈ ops.toList, operOK n o = true := List.all_eq_true.1 hc
    have e0 : ops = ops.toList.toArray := by simp
    cases draw with
    | false =>
      have := shOps_wp (Q := lift n Q) hall ops.toList hall a e kn w hr (h : shOps P ops.toList ops.toList e kn w (Q .norm)) fun a w hh => hh
      rw [e0]
      exact wp_region_list (by simpa using this)
    | true =>
      cases pl <;> first | exact (h : False).elim | skip
      case draw d =>
        simp only [sh, forceN_eq] at h
        cases hb : (freeFrom ops.toList ops.toList 0 && d.lenIs ops.toList.length) <;> rw [hb] at h
        · exact (h : False).elim
        · rw [Bool.and_eq_true] at hb
          rw [e0]
          exact shD_wp hall hb.1 (fun c a w hh => hh) (fun a w hh => hh) hm hb.2 hr h
  | seq c₁ c₂ ih1 ih2 =>
    intro pl Q a e kn w hc hp hr h
    simp only [codeOK, Bool.and_eq_true] at hc
    cases pl <;> first | exact (h : False).elim | skip
    case seq pa pb =>
      simp only [plOK, Bool.and_eq_true] at hp
      simp only [sh, forceN_eq] at h
      refine wp_seq (Code.wp_mono (fun x a' w' hh => ?_) (ih1 hc.1 hp.1 hr h))
      cases x <;> first | exact (hh : False).elim | skip
      · obtain ⟨e', kn', hr', hh⟩ := hh
        exact ih2 hc.2 hp.2 hr' hh
      · exact hh
      · exact hh
    case join L S pa pb =>
      simp only [plOK, Bool.and_eq_true] at hp
      simp only [sh, forceN_eq] at h
      cases hb : (sub (asg c₁) S && sub S (asg c₁)) <;> rw [hb] at h
      · exact (h : False).elim
      · obtain ⟨J, hA, hB⟩ := (h : ∃ J, _)
        rw [Bool.and_eq_true] at hb
        have hA' := sh_mono c₁ hA (Q' := fun x e' kn' w' => (∀ i, i ∉ asg c₁ → e' i = e i) ∧ (match x with
          | .norm => J (vals L e') w'
          | .exit i => Q (.exit i) e' kn' w'
          | .ret => Q .ret e' kn' w')) fun x e' kn' w' he hh => ⟨he, by cases x <;> exact hh⟩
        refine wp_seq (Code.wp_mono (fun x a' w' hh => ?_) (ih1 hc.1 hp.2.1 hr hA'))
        cases x <;> first | exact (hh : False).elim | skip
        · obtain ⟨e', kn', hr', he, hh⟩ := hh
          refine ih2 hc.2 hp.2.2 (e := Env.hav S e' e) (hr'.congr fun i hi => ?_) (hB e' w' hh)
          cases hs : S.any (Nat.beq i)
          · rw [hav_ne _ _ (by simp [hs])]
            exact (he i fun hm => by have := sub_spec hb.1 hm; rw [hs] at this; cases this).symm
          · rw [hav_in _ _ hs]
        · obtain ⟨e', kn', hr', _, hh⟩ := hh
          exact ⟨e', kn', hr', hh⟩
        · obtain ⟨e', kn', hr', _, hh⟩ := hh
          exact ⟨e', kn', hr', hh⟩
  | cond c c₁ c₂ ih1 ih2 =>
    intro pl Q a e kn w hc hp hr h
    cases pl <;> first | (cases c <;> exact (h : False).elim) | skip
    case cond pa pb =>
      simp only [plOK, Bool.and_eq_true] at hp
      cases c <;> first | exact (h : False).elim | skip
      case tmp t =>
        simp only [codeOK, Bool.and_eq_true] at hc
        have ht : t < n := by simpa [Nat.blt_eq] using hc.1
        have hev : a.eval (.tmp t) = e t := by simp [Act.eval, hr.at_ t ht]
        simp only [sh, forceN_eq] at h
        cases hkn : isK kn t <;> rw [hkn] at h <;> simp only [cond_true, cond_false] at h
        · obtain ⟨b', hb, h1, h2⟩ := h
          refine wp_cond_split (t := b') (by rw [hev, hb]) (fun e1 => ?_) (fun e1 => ?_) <;> subst e1
          · exact ih1 hc.2.1 hp.1 (hr.congr fun i _ => put_bool hb i) (h1 rfl)
          · exact ih2 hc.2.2 hp.2 (hr.congr fun i _ => put_bool hb i) (h2 rfl)
        · cases hv : e t <;> rw [hv] at h <;> first | exact (h : False).elim | skip
          case bool b' =>
            cases b'
            · exact wp_cond_false (by rw [hev, hv]) (ih2 hc.2.2 hp.2 hr h)
            · exact wp_cond_true (by rw [hev, hv]) (ih1 hc.2.1 hp.1 hr h)
  | block id c ih =>
    intro pl Q a e kn w hc hp hr h
    cases pl <;> first | exact (h : False).elim | skip
    case block pa =>
      refine wp_block (Code.wp_mono (fun x a' w' hh => ?_) (ih (pl := pa) hc hp hr h))
      cases x <;> first | exact (hh : False).elim | skip
      · exact hh
      · rename_i i
        obtain ⟨e', kn', hr', hh⟩ := hh
        simp only at hh
        unfold Exit.inBlock
        cases hb : Nat.beq i id <;> rw [hb] at hh
        · have : i ≠ id := fun h0 => by subst h0; rw [Nat.beq_refl] at hb; cases hb
          simp only [if_neg this]
          exact ⟨e', kn', hr', hh⟩
        · have : i = id := Nat.eq_of_beq_eq_true hb
          simp only [if_pos this]
          exact ⟨e', kn', hr', hh⟩
      · exact hh
  | loop c ih =>
    intro pl Q a e kn w hc hp hr h
    cases pl <;> first | exact (h : False).elim | skip
    case loop L S pa =>
      simp only [plOK, Bool.and_eq_true] at hp
      simp only [sh, forceN_eq] at h
      cases hb : (sub (asg c) S && sub S (asg c)) <;> rw [hb] at h
      · exact (h : False).elim
      · obtain ⟨I, m, h0, hI⟩ := (h : ∃ I m, _)
        rw [Bool.and_eq_true] at hb
        refine wp_loop (fun a' w' => a'.tmps.size = n ∧ a'.defers = [] ∧ (∀ i, i < n → ¬ S.any (Nat.beq i) = true → fr a' i = e i) ∧ I (vals L (fr a')) w')
          (fun a' w' => m (vals L (fr a')) w') ⟨hr.size, hr.defers, fun i hi _ => hr.fr_eq hi, by rw [vals_fr hr hp.1]; exact h0⟩ ?_
        rintro a' w' ⟨hs, hd, hag, hi⟩
        have hr1 : Rel n (Env.hav S (fr a') e) a' := (rel_fr hs hd).congr fun i hi => by
          cases hsi : S.any (Nat.beq i)
          · rw [hav_ne _ _ (by simp [hsi])]
            exact (hag i hi (by simp [hsi])).symm
          · rw [hav_in _ _ hsi]
        have hbody := sh_mono c (hI (fr a') w' hi) (Q' := fun x e' kn' w'' => (∀ i, i ∉ asg c → e' i = Env.hav S (fr a') e i) ∧ (match x with
          | .norm => I (vals L e') w'' ∧ m (vals L e') w'' < m (vals L (fr a')) w'
          | .exit i => Q (.exit i) e' kn' w''
          | .ret => Q .ret e' kn' w'')) fun x e' kn' w' he hh => ⟨he, by cases x <;> exact hh⟩
        refine Code.wp_mono (fun x a2 w2 hh => ?_) (ih hc hp.2 hr1 hbody)
        cases x <;> first | exact (hh : False).elim | skip
        · obtain ⟨e2, kn2, hr2, he, hh⟩ := hh
          refine ⟨⟨hr2.size, hr2.defers, fun i hi hns => ?_, ?_⟩, ?_⟩
          · rw [hr2.fr_eq hi, he i fun hm => hns (sub_spec hb.1 hm), hav_ne _ _ hns]
          · rw [vals_fr hr2 hp.1]; exact hh.1
          · rw [vals_fr hr2 hp.1]; exact hh.2
        · obtain ⟨e2, kn2, hr2, _, hh⟩ := hh
          exact ⟨e2, kn2, hr2, hh⟩
        · obtain ⟨e2, kn2, hr2, _, hh⟩ := hh
          exact ⟨e2, kn2, hr2, hh⟩
  | _ => intro pl Q a e kn w _ _ _ h; exact (h : False).elim

/-! ### A function -/
def fin : List Value → Value
  | [v] => v
  | l => .tuple l.toArray
def shRes (P : Program) : List ResultVar → List Value → Env → World → (Value → World → Prop) → Prop
  | [], acc, _, w, R => R (fin acc.reverse) w
  | .tmp t :: r, acc, e, w, R => shRes P r (e t :: acc) e w R
  | .cell t ty :: r, acc, e, w, R => LX P ty (e t) w fun v => shRes P r (v :: acc) e w R
def resOK (n : Nat) : ResultVar → Bool
  | .tmp t => Nat.blt t n
  | .cell t _ => Nat.blt t n

theorem loadVar_of_RD {w : World} {t : TypeId} {x v : Value} (h : RD P w t x v) : ∃ a, x = .pointer (some a) ∧ (loadVar t a).run P w = .ok v w := by
  replace h := h.out
  unfold oLoad vS Instr.loadAt at h
  cases x <;> try (simp [Instr.sureAddr, stuck, Sem.run] at h; done)
  case pointer a =>
    cases a with
    | none => simp [Instr.sureAddr, stuck] at h
    | some a =>
      refine ⟨a, rfl, ?_⟩
      have h' : ((loadVar t a >>= fun v => pure (Next.value v) : Sem Next)).run P w = .ok (.value v) w := by simpa [Instr.sureAddr] using h
      cases hr : (loadVar t a).run P w with
      | halt x w' => simp [hr] at h'
      | ok u w' => simp [hr] at h'; rw [h'.1, h'.2]

def resOf (ts : Array Value) : ResultVar → Sem Value
  | .tmp t => pure (ts.getD t undef)
  | .cell a t => do loadVar t (← asAddr (ts.getD a undef))

theorem shRes_run {a : Act} {e : Env} (hr : Rel n e a) {w : World} {R : Value → World → Prop} : ∀ (rs : List ResultVar) (acc : List Value), rs.all (resOK n) = true → shRes P rs acc e w R →
    ∃ vs, (rs.mapM (resOf a.tmps)).run P w = .ok vs w ∧ R (fin (acc.reverse ++ vs)) w
  | [], acc, _, h => ⟨[], by simp, by simpa [shRes] using h⟩
  | .tmp t :: r, acc, hk, h => by
    simp only [List.all_cons, Bool.and_eq_true] at hk
    obtain ⟨vs, h1, h2⟩ := shRes_run hr r (e t :: acc) hk.2 h
    have ht : t < n := by simpa [resOK, Nat.blt_eq] using hk.1
    refine ⟨e t :: vs, ?_, by simpa using h2⟩
    have : a.tmps.getD t undef = e t := hr.fr_eq ht
    simp only [List.mapM_cons, resOf, this]
    simp [h1]
  | .cell t ty :: r, acc, hk, h => by
    simp only [List.all_cons, Bool.and_eq_true] at hk
    obtain ⟨v, hv, h'⟩ := h
    obtain ⟨vs, h1, h2⟩ := shRes_run hr r (v :: acc) hk.2 h'
    have ht : t < n := by simpa [resOK, Nat.blt_eq] using hk.1
    obtain ⟨ad, hx, hl⟩ := loadVar_of_RD hv
    refine ⟨v :: vs, ?_, by simpa using h2⟩
    have : a.tmps.getD t undef = .pointer (some ad) := (hr.fr_eq ht).trans hx
    simp only [List.mapM_cons, resOf, this]
    simp [asAddr, hl, h1]

theorem results_run {fn : Func} {a : Act} {e : Env} (hr : Rel n e a) {w : World} {R : Value → World → Prop} (hk : fn.results.toList.all (resOK n) = true) (h : shRes P fn.results.toList [] e w R) :
    ∃ v, (results fn a.tmps).run P w = .ok v w ∧ R v w := by
  obtain ⟨vs, h1, h2⟩ := shRes_run hr fn.results.toList [] hk h
  refine ⟨fin vs, ?_, by simpa using h2⟩
  have e0 : results fn a.tmps = (do
      let vs ← fn.results.mapM (resOf a.tmps)
      pure (if h : vs.size = 1 then vs[0] else .tuple vs)) := by
    unfold results
    congr 1
  rw [e0, Array.mapM_eq_mapM_toList]
  simp only [Sem.run_bind, Sem.run_map, h1, Result.andThen_ok]
  match vs with
  | [] => rfl
  | [v] => rfl
  | _ :: _ :: _ => simp [fin]

/-- **WHAT THE SHALLOW READING SAYS, THE CALL DOES.** -/
theorem sh_calls (hm : P.follows .mixedOrders = true) {f : FuncId} {fn : Func} {c : Code} (hf : P.funcs[f]? = some fn) (hb : fn.body = some c) {args : List Value} (pl : Pl)
    (hok : (codeOK fn.ntmps c && (plOK fn.ntmps pl && (fn.results.toList.all (resOK fn.ntmps) && Nat.ble args.length fn.ntmps))) = true) {w : World} {R : Value → World → Prop}
    (h : sh P c pl (fun x e _ w => match x with
      | .exit _ => False
      | _ => shRes P fn.results.toList [] e w R) (Env.of args) 0 w) :
    Calls P f args.toArray w fun e w' => ∃ v, e = .returned v ∧ R v w' := by
  simp only [Bool.and_eq_true] at hok
  obtain ⟨h1, h2, h3, h4⟩ := hok
  have h4 := Nat.le_of_ble_eq_true h4
  refine calls_of_wp hf hb ?_
  have hr : Rel fn.ntmps (Env.of args) { tmps := args.toArray ++ Array.replicate (fn.ntmps - args.toArray.size) undef, defers := [] } := by
    refine ⟨by simp; omega, rfl, fun i hi => ?_⟩
    by_cases hia : i < args.length
    · simp [Env.of, hia, Array.getElem?_append]
    · simp only [Array.getElem?_append, List.size_toArray, hia, if_false, Env.of]
      rw [Array.getElem?_replicate, if_pos (by omega)]
      simp [List.getElem?_eq_none (show args.length ≤ i by omega)]
  refine Code.wp_mono (fun x a' w' hh => ?_) (sh_wp hm c h1 h2 hr h)
  cases x <;> first | exact (hh : False).elim | skip
  · obtain ⟨e', kn', hr', hh⟩ := hh
    obtain ⟨v, hv, hR⟩ := results_run hr' h3 hh
    exact ⟨hr'.defers, v, hv, v, rfl, hR⟩
  · obtain ⟨e', kn', hr', hh⟩ := hh
    exact hh.elim
  · obtain ⟨e', kn', hr', hh⟩ := hh
    obtain ⟨v, hv, hR⟩ := results_run hr' h3 hh
    exact ⟨hr'.defers, v, hv, v, rfl, hR⟩
end
end Go.Sh
