/-
  Small steps over the shallow reading: what each operation comes to, over any program whose tables say what the premises ask.
-/
import Derived.Test.YthakeicmaeefiaaGreatDoorSh
import Derived.Below
import Derived.Laws.World
import Derived.Laws.Alloc2
import Derived.Laws.Entries
import Derived.Lib.Strings
set_option linter.unusedVariables false
set_option linter.unusedSimpArgs false
namespace Go.Sh
open Go Go.RowKit

/-! ### Ways to take a step -/
section
variable {P : Program} {s : Sem Next} {w w' : World} {v : Value} {K : Value → World → Prop}
theorem NX.val (h : s.run P w = .ok (.value v) w') (k : K v w') : NX P s w K := ⟨by unfold nx; rw [h]; exact k⟩
theorem NX.skip (h : s.run P w = .ok .skip w') (k : K undef w') : NX P s w K := ⟨by unfold nx; rw [h]; exact k⟩
theorem NX.enter {f : FuncId} {args : Array Value} (h : s.run P w = .ok (.enter f args) w') (k : Calls P f args w' fun e w'' => ∃ v, e = .returned v ∧ K v w'') : NX P s w K := ⟨by unfold nx; rw [h]; exact k⟩
/-- Tells v in every world. -/
def PU (P : Program) (s : Sem Next) (v : Value) : Prop := ∀ w, s.run P w = .ok (.value v) w
theorem NX.pu (h : PU P s v) (k : K v w) : NX P s w K := NX.val (h w) k
theorem FX.pu {K : Value → Prop} (h : PU P s v) (k : K v) : FX P s K := ⟨v, h, k⟩
theorem LX.rd {t : TypeId} {x : Value} {K : Value → Prop} (h : RD P w t x v) (k : K v) : LX P t x w K := ⟨v, h, k⟩
theorem NX.rd {t : TypeId} {x : Value} (h : RD P w t x v) (k : K v w) : NX P (oLoad t x) w K := NX.val h.out k
theorem IFB.tt {A B : Prop} (h : A) : IFB (.bool true) A B := ⟨true, rfl, fun _ => h, fun e => (by cases e)⟩
theorem IFB.ff {A B : Prop} (h : B) : IFB (.bool false) A B := ⟨false, rfl, fun e => (by cases e), fun _ => h⟩
theorem IFB.b {b : Bool} {A B : Prop} (ha : b = true → A) (hb : b = false → B) : IFB (.bool b) A B := ⟨b, rfl, ha, hb⟩
theorem IFB.dec {p : Prop} [Decidable p] {A B : Prop} (ha : p → A) (hb : ¬ p → B) : IFB (.bool (decide p)) A B := ⟨_, rfl, fun e => ha (by simpa using e), fun e => hb (by simpa using e)⟩
theorem IFB.beq {x y : Int} {A B : Prop} (ha : x = y → A) (hb : x ≠ y → B) : IFB (.bool (x == y)) A B := ⟨_, rfl, fun e => ha (by simpa using e), fun e => hb (by simpa using e)⟩
theorem IFB.bne {x y : Int} {A B : Prop} (ha : x ≠ y → A) (hb : x = y → B) : IFB (.bool (x != y)) A B := ⟨_, rfl, fun e => ha (by simpa using e), fun e => hb (by simpa using e)⟩
end

/-! ### Texts -/
abbrev Str := List UInt8
abbrev bs (l : Str) : ByteArray := ⟨l.toArray⟩
theorem toList_bs (l : Str) : (bs l).toList = l := by
  rw [Lib.toList_data]

/-! ### Operations that only compute -/
section
variable {P : Program} {c d : Bool} {t : TypeId}
theorem pu_lss {k : IntKind} {a b : Int} : PU P (oBin .lss t c d (.int k a) (.int k b)) (.bool (decide (a < b))) := fun w => by simp [oBin, vS, eqGuard, binOp, Op.intCmp]
theorem pu_leq {k : IntKind} {a b : Int} : PU P (oBin .leq t c d (.int k a) (.int k b)) (.bool (decide (a ≤ b))) := fun w => by simp [oBin, vS, eqGuard, binOp, Op.intCmp]
theorem pu_gtr {k : IntKind} {a b : Int} : PU P (oBin .gtr t c d (.int k a) (.int k b)) (.bool (decide (b < a))) := fun w => by simp [oBin, vS, eqGuard, binOp, Op.intCmp]
theorem pu_geq {k : IntKind} {a b : Int} : PU P (oBin .geq t c d (.int k a) (.int k b)) (.bool (decide (b ≤ a))) := fun w => by simp [oBin, vS, eqGuard, binOp, Op.intCmp]
theorem pu_eql {k : IntKind} {a b : Int} : PU P (oBin .eql t c d (.int k a) (.int k b)) (.bool (a == b)) := fun w => by simp [oBin, vS, eqGuard, binOp, Op.intCmp]
theorem pu_neq {k : IntKind} {a b : Int} : PU P (oBin .neq t c d (.int k a) (.int k b)) (.bool (a != b)) := fun w => by simp [oBin, vS, eqGuard, binOp, Op.intCmp]
theorem pu_add {k : IntKind} {a b : Int} : PU P (oBin .add t c d (.int k a) (.int k b)) (.int k (k.wrap (a + b))) := fun w => by simp [oBin, vS, eqGuard, binOp, Op.intArith]
theorem pu_sub {k : IntKind} {a b : Int} : PU P (oBin .sub t c d (.int k a) (.int k b)) (.int k (k.wrap (a - b))) := fun w => by simp [oBin, vS, eqGuard, binOp, Op.intArith]
theorem wrap_in {a : Int} (h : -9223372036854775808 ≤ a ∧ a ≤ 9223372036854775807) : IntKind.i64.wrap a = a := by
  unfold IntKind.wrap
  simp [IntKind.bits, IntKind.signed]
  omega
theorem pu_add64 {a b : Int} (h : -9223372036854775808 ≤ a + b ∧ a + b ≤ 9223372036854775807) : PU P (oBin .add t c d (.int .i64 a) (.int .i64 b)) (.int .i64 (a + b)) := by
  have := pu_add (P := P) (c := c) (d := d) (t := t) (k := .i64) (a := a) (b := b); rwa [wrap_in h] at this
theorem pu_sub64 {a b : Int} (h : -9223372036854775808 ≤ a - b ∧ a - b ≤ 9223372036854775807) : PU P (oBin .sub t c d (.int .i64 a) (.int .i64 b)) (.int .i64 (a - b)) := by
  have := pu_sub (P := P) (c := c) (d := d) (t := t) (k := .i64) (a := a) (b := b); rwa [wrap_in h] at this
theorem pu_not {b : Bool} : PU P (oUn .not (.bool b)) (.bool (!b)) := fun w => rfl
theorem pu_pick {b : Bool} {x y : Value} : PU P (oPick (.bool b) x y) (if b then x else y) := fun w => by cases b <;> rfl
theorem pu_nil {a : Addr} : PU P (oNil (.pointer (some a))) (.pointer (some a)) := fun w => rfl
theorem pu_nilf {fn : FuncId} {x y : Array Value} : PU P (oNil (.func (.func fn) x y)) (.func (.func fn) x y) := fun w => rfl
theorem pu_seql {a b : Str} : PU P (oBin .eql t c d (.string (bs a)) (.string (bs b))) (.bool (a == b)) := fun w => by
  simp only [oBin, vS, eqGuard, binOp, Op.stringOp, toList_bs]; rfl
theorem pu_sneq {a b : Str} : PU P (oBin .neq t c d (.string (bs a)) (.string (bs b))) (.bool (a != b)) := fun w => by
  simp only [oBin, vS, eqGuard, binOp, Op.stringOp, toList_bs]; rfl
theorem pu_sgeq {a b : Str} : PU P (oBin .geq t c d (.string (bs a)) (.string (bs b))) (.bool (!Op.bytesLess a b)) := fun w => by
  simp only [oBin, vS, eqGuard, binOp, Op.stringOp, toList_bs]; rfl
theorem pu_and {k : IntKind} {a b : Int} : PU P (oBin .and t c d (.int k a) (.int k b)) (.int k (bits .and k a b)) := fun w => by
  simp [oBin, vS, eqGuard, binOp, intBits_and]
theorem pu_or {k : IntKind} {a b : Int} : PU P (oBin .or t c d (.int k a) (.int k b)) (.int k (bits .or k a b)) := fun w => by
  simp [oBin, vS, eqGuard, binOp, intBits_or]
theorem pu_andNot {k : IntKind} {a b : Int} : PU P (oBin .andNot t c d (.int k a) (.int k b)) (.int k (bits .andNot k a b)) := fun w => by
  simp [oBin, vS, eqGuard, binOp, intBits_andNot]
def ishr (a b : Int) : Int := a.fdiv (2 ^ (min b.toNat 64))
theorem pu_shr {a b : Int} (h : 0 ≤ b) : PU P (oBin .shr t c d (.int .i64 a) (.int .i64 b)) (.int .i64 (ishr a b)) := fun w => by
  have : ¬ b < 0 := by omega
  simp [oBin, vS, eqGuard, binOp, Op.shift, this, ishr, IntKind.bits]
theorem pu_func {fn : Fn} {x y : List Value} : PU P (oFunc fn x y) (.func fn x.toArray y.toArray) := fun w => rfl
theorem pu_extract {vs : Array Value} {i : Nat} {v : Value} (h : vs[i]? = some v) : PU P (oExtract (.tuple vs) i) v := fun w => by simp [oExtract, vS, Instr.extract, h]
end

/-! ### .. as equations, for 'simp only [↓ ..]' -/
theorem nx_pu {P : Program} {s : Sem Next} {v : Value} (h : PU P s v) {K : Value → World → Prop} {w : World} : NX P s w K = K v w :=
  propext ⟨fun k => by have := k.out; unfold nx at this; rw [h w] at this; exact this, fun k => NX.pu h k⟩
theorem fx_pu {P : Program} {s : Sem Next} {v : Value} (h : PU P s v) {K : Value → Prop} : FX P s K = K v :=
  propext ⟨fun k => by
    obtain ⟨u, hu, hk⟩ := k.out
    have := (hu default).symm.trans (h default)
    injection this with e1
    injection e1 with e2
    exact e2 ▸ hk, fun k => FX.pu h k⟩

section
variable {P : Program} {c d : Bool} {t : TypeId} {w : World} {K : Value → World → Prop} {F : Value → Prop}
theorem nx_lss {k : IntKind} {a b : Int} : NX P (oBin .lss t c d (.int k a) (.int k b)) w K = K (.bool (decide (a < b))) w := nx_pu pu_lss
theorem fx_lss {k : IntKind} {a b : Int} : FX P (oBin .lss t c d (.int k a) (.int k b)) F = F (.bool (decide (a < b))) := fx_pu pu_lss
theorem nx_leq {k : IntKind} {a b : Int} : NX P (oBin .leq t c d (.int k a) (.int k b)) w K = K (.bool (decide (a ≤ b))) w := nx_pu pu_leq
theorem fx_leq {k : IntKind} {a b : Int} : FX P (oBin .leq t c d (.int k a) (.int k b)) F = F (.bool (decide (a ≤ b))) := fx_pu pu_leq
theorem nx_gtr {k : IntKind} {a b : Int} : NX P (oBin .gtr t c d (.int k a) (.int k b)) w K = K (.bool (decide (b < a))) w := nx_pu pu_gtr
theorem fx_gtr {k : IntKind} {a b : Int} : FX P (oBin .gtr t c d (.int k a) (.int k b)) F = F (.bool (decide (b < a))) := fx_pu pu_gtr
theorem nx_geq {k : IntKind} {a b : Int} : NX P (oBin .geq t c d (.int k a) (.int k b)) w K = K (.bool (decide (b ≤ a))) w := nx_pu pu_geq
theorem fx_geq {k : IntKind} {a b : Int} : FX P (oBin .geq t c d (.int k a) (.int k b)) F = F (.bool (decide (b ≤ a))) := fx_pu pu_geq
theorem nx_eql {k : IntKind} {a b : Int} : NX P (oBin .eql t c d (.int k a) (.int k b)) w K = K (.bool (a == b)) w := nx_pu pu_eql
theorem fx_eql {k : IntKind} {a b : Int} : FX P (oBin .eql t c d (.int k a) (.int k b)) F = F (.bool (a == b)) := fx_pu pu_eql
theorem nx_neq {k : IntKind} {a b : Int} : NX P (oBin .neq t c d (.int k a) (.int k b)) w K = K (.bool (a != b)) w := nx_pu pu_neq
theorem fx_neq {k : IntKind} {a b : Int} : FX P (oBin .neq t c d (.int k a) (.int k b)) F = F (.bool (a != b)) := fx_pu pu_neq
theorem nx_not {b : Bool} : NX P (oUn .not (.bool b)) w K = K (.bool (!b)) w := nx_pu pu_not
theorem fx_not {b : Bool} : FX P (oUn .not (.bool b)) F = F (.bool (!b)) := fx_pu pu_not
theorem nx_pick {b : Bool} {x y : Value} : NX P (oPick (.bool b) x y) w K = K (if b then x else y) w := nx_pu pu_pick
theorem fx_pick {b : Bool} {x y : Value} : FX P (oPick (.bool b) x y) F = F (if b then x else y) := fx_pu pu_pick
theorem nx_nil {a : Addr} : NX P (oNil (.pointer (some a))) w K = K (.pointer (some a)) w := nx_pu pu_nil
theorem fx_nil {a : Addr} : FX P (oNil (.pointer (some a))) F = F (.pointer (some a)) := fx_pu pu_nil
theorem nx_nilf {fn : FuncId} {x y : Array Value} : NX P (oNil (.func (.func fn) x y)) w K = K (.func (.func fn) x y) w := nx_pu pu_nilf
theorem fx_nilf {fn : FuncId} {x y : Array Value} : FX P (oNil (.func (.func fn) x y)) F = F (.func (.func fn) x y) := fx_pu pu_nilf
theorem nx_seql {a b : Str} : NX P (oBin .eql t c d (.string (bs a)) (.string (bs b))) w K = K (.bool (a == b)) w := nx_pu pu_seql
theorem fx_seql {a b : Str} : FX P (oBin .eql t c d (.string (bs a)) (.string (bs b))) F = F (.bool (a == b)) := fx_pu pu_seql
theorem nx_sneq {a b : Str} : NX P (oBin .neq t c d (.string (bs a)) (.string (bs b))) w K = K (.bool (a != b)) w := nx_pu pu_sneq
theorem fx_sneq {a b : Str} : FX P (oBin .neq t c d (.string (bs a)) (.string (bs b))) F = F (.bool (a != b)) := fx_pu pu_sneq
theorem nx_sgeq {a b : Str} : NX P (oBin .geq t c d (.string (bs a)) (.string (bs b))) w K = K (.bool (!Op.bytesLess a b)) w := nx_pu pu_sgeq
theorem fx_sgeq {a b : Str} : FX P (oBin .geq t c d (.string (bs a)) (.string (bs b))) F = F (.bool (!Op.bytesLess a b)) := fx_pu pu_sgeq
theorem nx_func {fn : Fn} {x y : List Value} : NX P (oFunc fn x y) w K = K (.func fn x.toArray y.toArray) w := nx_pu pu_func
theorem fx_func {fn : Fn} {x y : List Value} : FX P (oFunc fn x y) F = F (.func fn x.toArray y.toArray) := fx_pu pu_func
theorem nx_and {k : IntKind} {a b : Int} : NX P (oBin .and t c d (.int k a) (.int k b)) w K = K (.int k (bits .and k a b)) w := nx_pu pu_and
theorem fx_and {k : IntKind} {a b : Int} : FX P (oBin .and t c d (.int k a) (.int k b)) F = F (.int k (bits .and k a b)) := fx_pu pu_and
theorem nx_or {k : IntKind} {a b : Int} : NX P (oBin .or t c d (.int k a) (.int k b)) w K = K (.int k (bits .or k a b)) w := nx_pu pu_or
theorem fx_or {k : IntKind} {a b : Int} : FX P (oBin .or t c d (.int k a) (.int k b)) F = F (.int k (bits .or k a b)) := fx_pu pu_or
theorem nx_andNot {k : IntKind} {a b : Int} : NX P (oBin .andNot t c d (.int k a) (.int k b)) w K = K (.int k (bits .andNot k a b)) w := nx_pu pu_andNot
theorem fx_andNot {k : IntKind} {a b : Int} : FX P (oBin .andNot t c d (.int k a) (.int k b)) F = F (.int k (bits .andNot k a b)) := fx_pu pu_andNot
theorem nx_ex0 {v : Value} {l : List Value} : NX P (oExtract (.tuple (v :: l).toArray) 0) w K = K v w := nx_pu (pu_extract rfl)
theorem nx_ex1 {u v : Value} {l : List Value} : NX P (oExtract (.tuple (u :: v :: l).toArray) 1) w K = K v w := nx_pu (pu_extract rfl)
theorem nx_ex2 {u u' v : Value} {l : List Value} : NX P (oExtract (.tuple (u :: u' :: v :: l).toArray) 2) w K = K v w := nx_pu (pu_extract rfl)
theorem fx_ex0 {v : Value} {l : List Value} : FX P (oExtract (.tuple (v :: l).toArray) 0) F = F v := fx_pu (pu_extract rfl)
theorem fx_ex1 {u v : Value} {l : List Value} : FX P (oExtract (.tuple (u :: v :: l).toArray) 1) F = F v := fx_pu (pu_extract rfl)
theorem fx_ex2 {u u' v : Value} {l : List Value} : FX P (oExtract (.tuple (u :: u' :: v :: l).toArray) 2) F = F v := fx_pu (pu_extract rfl)
theorem ifb_tt {A B : Prop} : IFB (.bool true) A B = A := by
  refine propext ⟨fun h => ?_, IFB.tt⟩
  obtain ⟨b, hb, h1, h2⟩ := h.out
  cases b
  · cases hb
  · exact h1 rfl
theorem ifb_ff {A B : Prop} : IFB (.bool false) A B = B := by
  refine propext ⟨fun h => ?_, IFB.ff⟩
  obtain ⟨b, hb, h1, h2⟩ := h.out
  cases b
  · exact h2 rfl
  · cases hb
end

/-! ### What the tables say of a type -/
def oneB (P : Program) (t : TypeId) : Bool := (match P.underlying t with | some (.struct _) | some (.array _ _) | none => false | _ => true) && (match P.info? t with | some i => Nat.beq i.size 1 | none => false)
def aggB (P : Program) (t : TypeId) (k : Nat) : Bool := (match P.underlying t with | some (.struct _) | some (.array _ _) => true | _ => false) && (match P.info? t with | some i => Nat.beq i.size k | none => false)
def sizeB (P : Program) (t : TypeId) (k : Nat) : Bool := match P.info? t with | some i => Nat.beq i.size k | none => false
def zeroB (P : Program) (t : TypeId) : Option Value := (P.info? t).bind (·.zero)
def offB (P : Program) (t : TypeId) (f o : Nat) : Bool := match P.underlying t with
  | some (.struct fs) => (match fs[f]? with | some x => Nat.beq x.offset o && (match P.info? x.type with | some i => Nat.blt 0 i.size | none => false) | none => false)
  | _ => false
def sliceB (P : Program) (t : TypeId) (k : Nat) : Bool := match P.underlying t with
  | some (.slice e) => sizeB P e k
  | _ => false

section
variable {P : Program} {w : World} {t : TypeId}
theorem isAgg_one (h : oneB P t = true) : (isAgg t).run P w = .ok false w := by
  simp only [oneB, Bool.and_eq_true] at h
  have h1 := h.1
  unfold isAgg
  cases hu : P.underlying t with
  | none => rw [hu] at h1; cases h1
  | some d => rw [hu] at h1; simp only [Sem.run_bind, run_underlying hu, Result.andThen_ok]; cases d <;> first | rfl | (cases h1; done)
theorem isAgg_agg {k : Nat} (h : aggB P t k = true) : (isAgg t).run P w = .ok true w := by
  simp only [aggB, Bool.and_eq_true] at h
  have h1 := h.1
  unfold isAgg
  cases hu : P.underlying t with
  | none => rw [hu] at h1; cases h1
  | some d => rw [hu] at h1; simp only [Sem.run_bind, run_underlying hu, Result.andThen_ok]; cases d <;> first | rfl | (cases h1; done)
theorem sizeOf_size {k : Nat} (h : sizeB P t k = true) : (sizeOf t).run P w = .ok k w := by
  unfold sizeB at h
  unfold sizeOf typeInfo
  cases hi : P.info? t with
  | none => rw [hi] at h; cases h
  | some i =>
    rw [hi] at h
    have e : i.size = k := Nat.eq_of_beq_eq_true h
    have h1 : (program).run P w = .ok P w := rfl
    simp only [Sem.run_bind, h1, Result.andThen_ok, hi]
    show Result.ok i.size w = _
    rw [e]
theorem sizeB_one (h : oneB P t = true) : sizeB P t 1 = true := by
  simp only [oneB, Bool.and_eq_true] at h; exact h.2
theorem sizeB_agg {k : Nat} (h : aggB P t k = true) : sizeB P t k = true := by
  simp only [aggB, Bool.and_eq_true] at h; exact h.2

/-- The cells from a on. -/
def Cs (w : World) (a : Addr) (vs : List Value) : Prop := ∀ i v, vs[i]? = some v → w.cell? (a.add i) = some v
theorem Cs.head {a : Addr} {v : Value} {vs : List Value} (h : Cs w a (v :: vs)) : w.cell? a = some v := h 0 v rfl
theorem add_add (a : Addr) (i j : Nat) : (a.add i).add j = a.add (i + j) := by
  unfold Addr.add
  by_cases hi : i = 0 <;> by_cases hj : j = 0 <;> simp [hi, hj, Nat.add_assoc]
theorem add_pl (b o i : Nat) : (⟨b, o, none⟩ : Addr).add i = ⟨b, o + i, none⟩ := by
  unfold Addr.add; split <;> simp_all
theorem Cs.sub {a : Addr} {vs us : List Value} (h : Cs w a vs) (j k : Nat) (hu : (vs.drop j).take k = us) : Cs w (a.add j) us := by
  intro i v hv
  rw [add_add]
  subst hu
  refine h (j + i) v ?_
  rw [List.getElem?_take] at hv
  split at hv
  · rwa [List.getElem?_drop] at hv
  · cases hv
theorem Cs.one {a : Addr} {vs : List Value} {v : Value} (h : Cs w a vs) (j : Nat) (hv : vs[j]? = some v) : Cs w (a.add j) [v] := by
  intro i u hu
  cases i with
  | zero => simp at hu; subst hu; rw [add_add]; exact h j v hv
  | succ i => simp at hu

theorem run_loadCellsFrom {a : Addr} : ∀ (vs : List Value) (i : Nat) (acc : Array Value), (∀ j v, vs[j]? = some v → w.cell? (a.add (i + j)) = some v) →
    (loadCellsFrom a i vs.length acc).run P w = .ok (acc ++ vs.toArray) w
  | [], i, acc, _ => by simp [loadCellsFrom]
  | v :: vs, i, acc, h => by
    have h0 := h 0 v rfl
    have ih := run_loadCellsFrom vs (i + 1) (acc.push v) fun j u hu => by
      have := h (j + 1) u hu
      rwa [show i + (j + 1) = i + 1 + j by omega] at this
    have h0' : w.cell? (a.add i) = some v := by simpa using h0
    have hl : (load (a.add i)).run P w = .ok v w := by
      simp only [load, Sem.run, h0']
    simp only [List.length_cons, loadCellsFrom, Sem.run_bind, hl, Result.andThen_ok]
    rw [ih]
    simp

theorem RD.one {a : Addr} {v : Value} (ht : oneB P t = true) (h : Cs w a [v]) : RD P w t (.pointer (some a)) v := by
  refine ⟨?_⟩
  have := h.head
  simp [oLoad, vS, Instr.loadAt, Instr.sureAddr, loadVar, isAgg_one ht, load, Sem.run, this]
theorem RD.agg {a : Addr} {vs : List Value} {k : Nat} (ht : aggB P t k = true) (hk : vs.length = k) (h : Cs w a vs) : RD P w t (.pointer (some a)) (.agg vs.toArray) := by
  refine ⟨?_⟩
  subst hk
  have := run_loadCellsFrom (P := P) (w := w) (a := a) vs 0 #[] fun j v hv => by simpa using h j v hv
  simp [oLoad, vS, Instr.loadAt, Instr.sureAddr, loadVar, isAgg_agg ht, sizeOf_size (sizeB_agg ht), loadCells, this]
end

/-! ### Worlds that grow -/
/-- All that there was is as it was. -/
def Gr (w w' : World) : Prop := Below w.heap.size w w'
theorem Gr.refl (w : World) : Gr w w := Below.refl _ _
theorem Gr.trans {a b c : World} (h : Gr a b) (k : Gr b c) : Gr a c := Below.trans h (Below.mono k h.size)
theorem Gr.drew {a b : World} (h : Gr a b) : Gr a b.drew := Below.drew h
theorem Gr.alloc {a b : World} (h : Gr a b) (o : Obj) : Gr a (b.alloc o) := Below.alloc h h.size o
theorem Gr.set {a b : World} (h : Gr a b) {p : Addr} (hp : a.heap.size ≤ p.block) (v : Value) : Gr a (b.setCell p v) := Below.setCell h hp v
theorem Gr.cell {a b : World} (h : Gr a b) {p : Addr} {v : Value} (hc : a.cell? p = some v) : b.cell? p = some v := by
  rw [Below.cell h (World.block_lt_of_cell? a p hc)]; exact hc
theorem Gr.cs {a b : World} (h : Gr a b) {p : Addr} {vs : List Value} (hc : Cs a p vs) : Cs b p vs := fun i v hv => h.cell (hc i v hv)
theorem Gr.heap {a b : World} (h : Gr a b) {k : Nat} {o : Obj} (hk : a.heap[k]? = some o) : b.heap[k]? = some o := by
  rw [h.block k (Array.getElem?_eq_some_iff.1 hk).1]; exact hk

/-- The call's own blocks: the last one first. -/
structure Bx (n : Nat) (w : World) (L : List (Nat × List Value × TypeId)) : Prop where
  at_ : ∀ (i b : Nat) (l : List Value) (t : TypeId), L[i]? = some (b, l, t) → w.heap[b]? = some (Obj.cells l.toArray t (0, 0))
  ge : ∀ (i b : Nat) (l : List Value) (t : TypeId), L[i]? = some (b, l, t) → n ≤ b
  apart : (L.map (·.1)).Pairwise fun x y => y < x
theorem Bx.nil (n : Nat) (w : World) : Bx n w [] := ⟨by simp, by simp, .nil⟩
theorem Bx.gr {n : Nat} {w w' : World} {L : List (Nat × List Value × TypeId)} (h : Bx n w L) (g : Gr w w') : Bx n w' L := ⟨fun i b l t hx => g.heap (h.at_ i b l t hx), h.ge, h.apart⟩
theorem Bx.drew {n : Nat} {w : World} {L : List (Nat × List Value × TypeId)} (h : Bx n w L) : Bx n w.drew L := h.gr (Gr.refl w).drew
theorem heap_new (w : World) (o : Obj) : (w.alloc o).heap[w.heap.size]? = some o := by
  show (w.heap.push o)[w.heap.size]? = _
  simp
theorem Bx.cons {n : Nat} {w : World} {L : List (Nat × List Value × TypeId)} (h : Bx n w L) (hn : n ≤ w.heap.size) (l : List Value) (t : TypeId) :
    Bx n (w.alloc (.cells l.toArray t)) ((w.heap.size, l, t) :: L) := by
  refine ⟨fun i b l' t' hx => ?_, fun i b l' t' hx => ?_, ?_⟩
  · cases i with
    | zero =>
      simp only [List.getElem?_cons_zero, Option.some.injEq, Prod.mk.injEq] at hx
      obtain ⟨rfl, rfl, rfl⟩ := hx
      exact heap_new _ _
    | succ i => exact ((Gr.refl w).alloc _).heap (h.at_ i b l' t' (by simpa using hx))
  · cases i with
    | zero =>
      simp only [List.getElem?_cons_zero, Option.some.injEq, Prod.mk.injEq] at hx
      omega
    | succ i => exact h.ge i b l' t' (by simpa using hx)
  · simp only [List.map_cons]
    refine .cons (fun x hx => ?_) h.apart
    obtain ⟨⟨b, l', t'⟩, hy, rfl⟩ := List.mem_map.1 hx
    obtain ⟨i, hi⟩ := List.getElem?_of_mem hy
    exact (Array.getElem?_eq_some_iff.1 (h.at_ i b l' t' hi)).1
theorem Bx.cs {n : Nat} {w : World} {L : List (Nat × List Value × TypeId)} (h : Bx n w L) {i b : Nat} {l : List Value} {t : TypeId} (hx : L[i]? = some (b, l, t)) : Cs w ⟨b, 0, none⟩ l := by
  intro j v hv
  rw [add_pl]
  simp only [World.cell?, h.at_ i b l t hx]
  simpa using hv
/-- A part of a box. -/
theorem Bx.sub {n : Nat} {w : World} {L : List (Nat × List Value × TypeId)} (h : Bx n w L) {i b : Nat} {l : List Value} {t : TypeId} (hx : L[i]? = some (b, l, t)) (o k : Nat) {vs : List Value} (hv : (l.drop o).take k = vs) :
    Cs w ⟨b, o, none⟩ vs := by
  have := (h.cs hx).sub o k hv
  rwa [add_pl, Nat.zero_add] at this
theorem Bx.ne {n : Nat} {w : World} {L : List (Nat × List Value × TypeId)} (h : Bx n w L) {i j b b' : Nat} {l l' : List Value} {t t' : TypeId} (hi : L[i]? = some (b, l, t)) (hj : L[j]? = some (b', l', t')) (hij : i ≠ j) : b ≠ b' := by
  have hi' := (List.getElem?_eq_some_iff.1 hi)
  have hj' := (List.getElem?_eq_some_iff.1 hj)
  obtain ⟨h1, e1⟩ := hi'
  obtain ⟨h2, e2⟩ := hj'
  have hp := List.pairwise_iff_getElem.1 h.apart
  have g1 : (L.map (·.1))[i]'(by simpa using h1) = b := by simp [e1]
  have g2 : (L.map (·.1))[j]'(by simpa using h2) = b' := by simp [e2]
  rcases Nat.lt_or_gt_of_ne hij with hlt | hlt
  · have := hp i j (by simpa using h1) (by simpa using h2) hlt
    rw [g1, g2] at this; omega
  · have := hp j i (by simpa using h2) (by simpa using h1) hlt
    rw [g1, g2] at this; omega
theorem map_fst_set {L : List (Nat × List Value × TypeId)} {i b : Nat} {l l' : List Value} {t t' : TypeId} (hi : L[i]? = some (b, l, t)) : (L.set i (b, l', t')).map (·.1) = L.map (·.1) := by
  rw [List.map_set]
  apply List.ext_getElem?
  intro j
  rw [List.getElem?_set]
  split
  · subst_vars
    obtain ⟨h1, e1⟩ := List.getElem?_eq_some_iff.1 hi
    simp [h1, e1]
  · rfl

/-! ### Addresses -/
section
variable {P : Program}
theorem pu_fieldAddr {t : TypeId} {f o b p : Nat} (h : offB P t f o = true) : PU P (oFieldAddr t (.pointer (some ⟨b, p, none⟩)) f) (.pointer (some ⟨b, p + o, none⟩)) := by
  intro w
  unfold offB at h
  cases hu : P.underlying t with
  | none => rw [hu] at h; cases h
  | some d =>
    rw [hu] at h
    cases d <;> try (cases h; done)
    case struct fs =>
      simp only at h
      cases hf : fs[f]? with
      | none => rw [hf] at h; cases h
      | some x =>
        rw [hf] at h
        simp only [Bool.and_eq_true] at h
        obtain ⟨h1, h2⟩ := h
        cases hi : P.info? x.type with
        | none => rw [hi] at h2; cases h2
        | some i =>
          rw [hi] at h2
          have hpos : 0 < i.size := by simpa [Nat.blt_eq] using h2
          have hs : (sizeOf x.type).run P w = .ok i.size w := sizeOf_size (by unfold sizeB; rw [hi]; exact Nat.beq_refl _)
          have ho : x.offset = o := Nat.eq_of_beq_eq_true h1
          simp only [oFieldAddr, vS, Instr.fieldAt, Sem.run_bind, run_underlying hu, Result.andThen_ok, hf, Instr.sureAddr]
          have : (fieldPlace ⟨b, p, none⟩ x).run P w = .ok ⟨b, p + o, none⟩ w := by
            unfold fieldPlace
            simp only [Sem.run_bind, hs, Result.andThen_ok, if_neg (Nat.ne_of_gt hpos)]
            rw [add_pl, ho]; rfl
          show ((Sem.run P (fieldPlace ⟨b, p, none⟩ x) w).andThen _).andThen _ = _
          rw [this]; rfl
theorem pu_indexAddr {t : TypeId} {k : IntKind} {sz b p n c : Nat} {i : Int} (h : sliceB P t sz = true) (h0 : 0 ≤ i) (h1 : i < n) :
    PU P (oIndexAddr t (.slice (some ⟨b, p, none⟩) n c) (.int k i)) (.pointer (some ⟨b, p + i.toNat * sz, none⟩)) := by
  intro w
  unfold sliceB at h
  cases hu : P.underlying t with
  | none => rw [hu] at h; cases h
  | some d =>
    rw [hu] at h
    cases d <;> try (cases h; done)
    case slice e =>
      simp only at h
      have hs : (sizeOf e).run P w = .ok sz w := sizeOf_size h
      simp [oIndexAddr, vS, Instr.indexAt, asIntOf, run_underlying hu, h0, h1, hs, add_pl]
theorem pu_len {t : TypeId} {ty : TypeId} {cs : List Bool} {e : TypeId} {a : Option Addr} {n c : Nat} (h : P.underlying t = some (.slice e)) :
    PU P (oBuiltin .len #[t] ty cs [.slice a n c]) (.int .i64 n) := fun w => by
  simp [oBuiltin, builtin, Builtin.len_, run_underlying h, goInt]
theorem pu_slen {t : TypeId} {ty : TypeId} {cs : List Bool} {s : Str} (h : P.underlying t = some .string) :
    PU P (oBuiltin .len #[t] ty cs [.string (bs s)]) (.int .i64 s.length) := fun w => by
  have e : (oBuiltin .len #[t] ty cs [.string (bs s)]).run P w = .ok (.value (goInt (bs s).size)) w := by
    simp [oBuiltin, builtin, Builtin.len_, run_underlying h, - World.alloc_eq]
  rw [e]; rfl
end

/-! ### Steps that turn the world -/
section
variable {P : Program} {w₀ w : World} {L : List (Nat × List Value × TypeId)} {K : Value → World → Prop} {t : TypeId}
theorem run_box (v : Value) : (oBox t v).run P w = .ok (.value (.pointer (some ⟨w.heap.size, 0, none⟩))) (w.alloc (.cells v.cells t)) := rfl
theorem NX.box {v : Value} (g : Gr w₀ w) (x : Bx w₀.heap.size w L)
    (k : ∀ b w', w₀.heap.size ≤ b → Gr w₀ w' → Bx w₀.heap.size w' ((b, v.cells.toList, t) :: L) → K (.pointer (some ⟨b, 0, none⟩)) w') : NX P (oBox t v) w K :=
  NX.val (run_box v) (k _ _ g.size (g.alloc _) (by simpa using x.cons g.size v.cells.toList t))
/-- .. of a struct by value. -/
theorem NX.boxa {l : List Value} (g : Gr w₀ w) (x : Bx w₀.heap.size w L)
    (k : ∀ b w', w₀.heap.size ≤ b → Gr w₀ w' → Bx w₀.heap.size w' ((b, l, t) :: L) → K (.pointer (some ⟨b, 0, none⟩)) w') : NX P (oBox t (.agg l.toArray)) w K :=
  NX.val (run_box _) (k _ _ g.size (g.alloc _) (x.cons g.size l t))
theorem NX.alloca {l : List Value} (g : Gr w₀ w) (x : Bx w₀.heap.size w L) (hz : zeroB P t = some (.agg l.toArray))
    (k : ∀ b w', w₀.heap.size ≤ b → Gr w₀ w' → Bx w₀.heap.size w' ((b, l, t) :: L) → K (.pointer (some ⟨b, 0, none⟩)) w') : NX P (oAlloc t) w K := by
  unfold zeroB at hz
  cases hi : P.info? t with
  | none => rw [hi] at hz; cases hz
  | some i =>
    rw [hi] at hz
    have hz' : i.zero = some (.agg l.toArray) := hz
    have h1 : (program).run P w = .ok P w := rfl
    have hzv : (zeroValue t).run P w = .ok (.agg l.toArray) w := by
      unfold zeroValue typeInfo
      simp only [Sem.run_bind, h1, Result.andThen_ok, hi]
      show (match i.zero with | some v => (pure v : Sem Value) | none => _).run P w = _
      rw [hz']; rfl
    refine NX.val (v := .pointer (some ⟨w.heap.size, 0, none⟩)) (w' := w.alloc (.cells l.toArray t)) ?_ (k _ _ g.size (g.alloc _) (x.cons g.size l t))
    simp only [oAlloc, vS, Instr.alloc, Sem.run_bind, hzv, Result.andThen_ok]
    rfl
theorem NX.alloc {z : Value} (g : Gr w₀ w) (x : Bx w₀.heap.size w L) (hz : zeroB P t = some z)
    (k : ∀ b w', w₀.heap.size ≤ b → Gr w₀ w' → Bx w₀.heap.size w' ((b, z.cells.toList, t) :: L) → K (.pointer (some ⟨b, 0, none⟩)) w') : NX P (oAlloc t) w K := by
  refine NX.val (v := .pointer (some ⟨w.heap.size, 0, none⟩)) (w' := w.alloc (.cells z.cells t)) ?_ (k _ _ g.size (g.alloc _) (by simpa using x.cons g.size z.cells.toList t))
  unfold zeroB at hz
  cases hi : P.info? t with
  | none => rw [hi] at hz; cases hz
  | some i =>
    rw [hi] at hz
    have hz' : i.zero = some z := hz
    have h1 : (program).run P w = .ok P w := rfl
    have hzv : (zeroValue t).run P w = .ok z w := by
      unfold zeroValue typeInfo
      simp only [Sem.run_bind, h1, Result.andThen_ok, hi]
      show (match i.zero with | some v => (pure v : Sem Value) | none => _).run P w = _
      rw [hz']; rfl
    simp only [oAlloc, vS, Instr.alloc, Sem.run_bind, hzv, Result.andThen_ok]
    rfl

/-- A call by its contract. -/
theorem NX.call {s : Sem Next} {f : FuncId} {args : List Value} {R : Value → World → Prop} (g : Gr w₀ w) (x : Bx w₀.heap.size w L) (he : s.run P w = .ok (.enter f args.toArray) w)
    (c : Calls P f args.toArray w fun e w' => ∃ v, e = .returned v ∧ R v w') (hR : ∀ v w', R v w' → Gr w w')
    (k : ∀ v w', R v w' → Gr w w' → Gr w₀ w' → Bx w₀.heap.size w' L → K v w') : NX P s w K :=
  NX.enter he (c.mono fun _ w' ⟨v, hv, hr⟩ => ⟨v, hv, k v w' hr (hR v w' hr) (g.trans (hR v w' hr)) (x.gr (hR v w' hr))⟩)
theorem run_enter {f : FuncId} {fn : Func} (hf : P.funcs[f]? = some fn) (h : (!(fn.name == "runtime.NumGoroutine") && fn.body.isSome) = true) (args : List Value) (w : World) :
    (oCall (fnV f) args).run P w = .ok (.enter f args.toArray) w := by
  simp only [Bool.and_eq_true, Bool.not_eq_true'] at h
  have h1 : (program).run P w = .ok P w := rfl
  have hb : fn.body ≠ none := by intro hb; rw [hb] at h; cases h.2
  have hn : fn.name ≠ "runtime.NumGoroutine" := by simpa using h.1
  simp [oCall, fnV, Deferred.ofValue, invoke, callFunc, h1, hf, hn, hb]
/-- .. of a closure: what it has captured comes behind the arguments. -/
theorem run_enter_fn {f : FuncId} {fn : Func} (hf : P.funcs[f]? = some fn) (h : (!(fn.name == "runtime.NumGoroutine") && fn.body.isSome) = true) (cap args : List Value) (w : World) :
    (oCall (.func (.func f) #[] cap.toArray) args).run P w = .ok (.enter f (args ++ cap).toArray) w := by
  simp only [Bool.and_eq_true, Bool.not_eq_true'] at h
  have h1 : (program).run P w = .ok P w := rfl
  have hb : fn.body ≠ none := by intro hb; rw [hb] at h; cases h.2
  have hn : fn.name ≠ "runtime.NumGoroutine" := by simpa using h.1
  simp [oCall, Deferred.ofValue, invoke, callFunc, h1, hf, hn, hb]
end

/-! ### Loads from the call's own blocks -/
section
variable {P : Program} {w : World} {n : Nat} {L : List (Nat × List Value × TypeId)} {t : TypeId}
/-- One cell of box i. -/
theorem RD.bx1 (x : Bx n w L) (i : Nat) {b o : Nat} {l : List Value} {t' : TypeId} {v : Value} (hL : L[i]? = some (b, l, t')) (ht : oneB P t = true) (hv : l[o]? = some v) : RD P w t (.pointer (some ⟨b, o, none⟩)) v := by
  refine RD.one ht ?_
  have := (x.cs hL).one o hv
  rwa [add_pl, Nat.zero_add] at this
/-- The whole of box i. -/
theorem RD.bxa (x : Bx n w L) (i : Nat) {b : Nat} {l : List Value} {t' : TypeId} {k : Nat} (hL : L[i]? = some (b, l, t')) (ht : aggB P t k = true) (hl : l.length = k) : RD P w t (.pointer (some ⟨b, 0, none⟩)) (.agg l.toArray) :=
  RD.agg ht hl (x.cs hL)
/-- A part of box i. -/
theorem RD.bxp (x : Bx n w L) (i : Nat) {b o : Nat} {l vs : List Value} {t' : TypeId} {k : Nat} (hL : L[i]? = some (b, l, t')) (ht : aggB P t k = true) (hv : (l.drop o).take k = vs) (hl : vs.length = k) : RD P w t (.pointer (some ⟨b, o, none⟩)) (.agg vs.toArray) :=
  RD.agg ht hl (x.sub hL o k hv)
end

section
variable {P : Program} {w : World} {n : Nat} {L : List (Nat × List Value × TypeId)} {t : TypeId}
theorem NX.bx1 (x : Bx n w L) (i : Nat) {b o : Nat} {l : List Value} {t' : TypeId} {v : Value} {K : Value → World → Prop} (hL : L[i]? = some (b, l, t')) (ht : oneB P t = true) (hv : l[o]? = some v) (k : K v w) :
    NX P (oLoad t (.pointer (some ⟨b, o, none⟩))) w K := NX.rd (RD.bx1 x i hL ht hv) k
theorem LX.bx1 (x : Bx n w L) (i : Nat) {b o : Nat} {l : List Value} {t' : TypeId} {v : Value} {K : Value → Prop} (hL : L[i]? = some (b, l, t')) (ht : oneB P t = true) (hv : l[o]? = some v) (k : K v) :
    LX P t (.pointer (some ⟨b, o, none⟩)) w K := LX.rd (RD.bx1 x i hL ht hv) k
theorem NX.bxa (x : Bx n w L) (i : Nat) {b : Nat} {l : List Value} {t' : TypeId} {c : Nat} {K : Value → World → Prop} (hL : L[i]? = some (b, l, t')) (ht : aggB P t c = true) (hl : l.length = c) (k : K (.agg l.toArray) w) :
    NX P (oLoad t (.pointer (some ⟨b, 0, none⟩))) w K := NX.rd (RD.bxa x i hL ht hl) k
theorem LX.bxa (x : Bx n w L) (i : Nat) {b : Nat} {l : List Value} {t' : TypeId} {c : Nat} {K : Value → Prop} (hL : L[i]? = some (b, l, t')) (ht : aggB P t c = true) (hl : l.length = c) (k : K (.agg l.toArray)) :
    LX P t (.pointer (some ⟨b, 0, none⟩)) w K := LX.rd (RD.bxa x i hL ht hl) k
end

/-! ### Stores -/
section
variable {P : Program} {w : World}
/-- One cell's value. -/
def plain : Value → Bool
  | .agg _ => false
  | .tuple _ => false
  | _ => true
/-- The cells from a on can be written. -/
theorem run_storeCells {b : Nat} {t : TypeId} : ∀ (vs : List Value) (l : List Value) (w : World) (o i : Nat), (∀ v ∈ vs, plain v = true) → w.heap[b]? = some (Obj.cells l.toArray t (0, 0)) → o + i + vs.length ≤ l.length →
    ∃ w', (storeCells ⟨b, o, none⟩ vs i).run P w = .ok () w' ∧ w'.heap[b]? = some (.cells (l.take (o + i) ++ vs ++ l.drop (o + i + vs.length)).toArray t (0, 0)) ∧ w'.heap.size = w.heap.size ∧
      (∀ k, k ≠ b → w'.heap[k]? = w.heap[k]?) ∧ w'.os = w.os ∧ w'.tape = w.tape ∧ w'.output = w.output
  | [], l, w, o, i, _, hb, _ => ⟨w, rfl, by simpa using hb, rfl, fun _ _ => rfl, rfl, rfl, rfl⟩
  | v :: vs, l, w, o, i, hv, hb, hl => by
    simp only [List.length_cons] at hl
    have hcell : w.cell? ⟨b, o + i, none⟩ = some (l[o + i]'(by omega)) := by
      simp [World.cell?, hb, List.getElem?_eq_getElem (show o + i < l.length by omega)]
    have hfr : w.frozen? ⟨b, o + i, none⟩ = false := by simp [World.frozen?, hb]
    have hv0 : plain v = true := hv v (by simp)
    let w1 := w.setCell ⟨b, o + i, none⟩ v
    have h1 : w1.heap[b]? = some (.cells (l.set (o + i) v).toArray t (0, 0)) := by
      show (w.heap.modify b _)[b]? = _
      rw [Array.getElem?_modify]
      simp [hb]
    have hoth : ∀ k, k ≠ b → w1.heap[k]? = w.heap[k]? := fun k hk => by
      show (w.heap.modify b _)[k]? = _
      rw [Array.getElem?_modify, if_neg (Ne.symm hk)]
    obtain ⟨w', hr, hb', hs, ho, r1, r2, r3⟩ := run_storeCells vs (l.set (o + i) v) w1 o (i + 1) (fun u hu => hv u (by simp [hu])) h1 (by simp; omega)
    refine ⟨w', ?_, ?_, by rw [hs]; simp [w1, World.setCell], fun k hk => (ho k hk).trans (hoth k hk), r1, r2, r3⟩
    · have hst : (store ((⟨b, o, none⟩ : Addr).add i) v).run P w = .ok () w1 := by
        rw [add_pl]
        cases v <;> first | (simp only [store, Sem.run, hcell, hfr]; rfl) | (cases hv0; done)
      simp only [storeCells, Sem.run_bind, hst, Result.andThen_ok]
      exact hr
    · rw [hb']
      congr 2
      rw [show o + (i + 1) = o + i + 1 by omega]
      rw [List.take_add_one, List.getElem?_set_self (by omega), List.take_set_of_le (by omega), List.drop_set_of_lt (by omega)]
      simp [Nat.add_assoc, Nat.add_comm 1]

/-- Block b alone has turned; it holds l now. -/
structure Upd (w w' : World) (b : Nat) (l : List Value) (t : TypeId) : Prop where
  now : w'.heap[b]? = some (Obj.cells l.toArray t (0, 0))
  size : w'.heap.size = w.heap.size
  other : ∀ k, k ≠ b → w'.heap[k]? = w.heap[k]?
  os : w'.os = w.os
  tape : w'.tape = w.tape
  output : w'.output = w.output
theorem Upd.below {w w' : World} {b : Nat} {l : List Value} {t : TypeId} (h : Upd w w' b l t) {n : Nat} (hn : n ≤ b) : Below n w w' :=
  ⟨h.os, h.tape, h.output, by rw [h.size]; exact Nat.le_refl _, fun k hk => h.other k (by omega)⟩
theorem Upd.gr {w₀ w w' : World} {b : Nat} {l : List Value} {t : TypeId} (h : Upd w w' b l t) (g : Gr w₀ w) (hn : w₀.heap.size ≤ b) : Gr w₀ w' := Below.trans g (h.below hn)
theorem Upd.cell {w w' : World} {b : Nat} {l : List Value} {t : TypeId} (h : Upd w w' b l t) {p : Addr} (hp : p.block ≠ b) : w'.cell? p = w.cell? p := by
  simp only [World.cell?, h.other _ hp]
theorem Upd.cs {w w' : World} {b : Nat} {l : List Value} {t : TypeId} (h : Upd w w' b l t) {p : Addr} {vs : List Value} (hp : p.block ≠ b) (hc : Cs w p vs) : Cs w' p vs := fun i v hv => by
  have : (p.add i).block = p.block := by unfold Addr.add; split <;> rfl
  rw [h.cell (by rw [this]; exact hp)]; exact hc i v hv

/-- What a store of vs at o makes of l. -/
def ins (l : List Value) (o : Nat) (vs : List Value) : List Value := l.take o ++ vs ++ l.drop (o + vs.length)
theorem ins_length {l vs : List Value} {o : Nat} (h : o + vs.length ≤ l.length) : (ins l o vs).length = l.length := by
  simp [ins]; omega
theorem run_store {b o : Nat} {l : List Value} {t' t : TypeId} {v : Value} {k : Nat} (hb : w.heap[b]? = some (Obj.cells l.toArray t' (0, 0))) (ht : sizeB P t k = true) (hk : v.cells.size = k)
    (hp : v.cells.toList.all plain = true) (hl : o + k ≤ l.length) : ∃ w', (oStore t (.pointer (some ⟨b, o, none⟩)) v).run P w = .ok .skip w' ∧ Upd w w' b (ins l o v.cells.toList) t' := by
  obtain ⟨w', hr, h1, h2, h3, h4, h5, h6⟩ := run_storeCells (P := P) v.cells.toList l w o 0 (fun v hv => List.all_eq_true.1 hp v hv) hb (by simp only [Array.length_toList]; omega)
  refine ⟨w', ?_, ⟨by simpa [ins] using h1, h2, h3, h4, h5, h6⟩⟩
  simp [oStore, uS, Instr.storeAt, Instr.sureAddr, storeVar, sizeOf_size ht, hk, hr]

theorem NX.store {w₀ : World} {K : Value → World → Prop} {L : List (Nat × List Value × TypeId)} {i b o : Nat} {l : List Value} {t' t : TypeId} {v : Value} {k : Nat} (g : Gr w₀ w) (x : Bx w₀.heap.size w L)
    (hL : L[i]? = some (b, l, t')) (ht : sizeB P t k = true) (hk : v.cells.size = k) (hp : v.cells.toList.all plain = true) (hl : o + k ≤ l.length)
    (kk : ∀ w', Gr w₀ w' → Bx w₀.heap.size w' (L.set i (b, ins l o v.cells.toList, t')) → K undef w') : NX P (oStore t (.pointer (some ⟨b, o, none⟩)) v) w K := by
  obtain ⟨w', hr, u⟩ := run_store (x.at_ i b l t' hL) ht hk hp hl
  have hi : i < L.length := (List.getElem?_eq_some_iff.1 hL).1
  have hb := x.ge i b l t' hL
  refine NX.skip hr (kk w' (u.gr g hb) ⟨fun j b1 l1 t1 hy => ?_, fun j b1 l1 t1 hy => ?_, ?_⟩)
  · rw [List.getElem?_set] at hy
    split at hy
    · subst_vars
      simp only [hi, if_true, Option.some.injEq, Prod.mk.injEq] at hy
      obtain ⟨rfl, rfl, rfl⟩ := hy
      exact u.now
    · rename_i hij
      rw [u.other _ (Ne.symm (x.ne hL hy hij))]
      exact x.at_ j b1 l1 t1 hy
  · rw [List.getElem?_set] at hy
    split at hy
    · subst_vars
      simp only [hi, if_true, Option.some.injEq, Prod.mk.injEq] at hy
      omega
    · exact x.ge j b1 l1 t1 hy
  · rw [map_fst_set hL]; exact x.apart
end
end Go.Sh
