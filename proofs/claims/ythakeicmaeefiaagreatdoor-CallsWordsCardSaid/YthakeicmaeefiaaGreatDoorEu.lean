/- Operations that only compute. -/
import Derived.Test.YthakeicmaeefiaaGreatDoorEt
import Derived.Lib.SliceRun
import Derived.WalkSpells
set_option linter.unusedVariables false
set_option linter.unusedSimpArgs false
namespace Go.Ev
open Go Go.Sh Go.RowKit

def ER (μ : Mu) (re : RE) (e : Env) : Prop := ∀ i, VR μ (re.get i) (e i)
theorem ER.ext {μ ν : Mu} {re : RE} {e : Env} (h : ER μ re e) (x : Ext μ ν) : ER ν re e := fun i => (h i).ext x
theorem VR.any {μ : Mu} (v : Value) : VR μ .any v := by simp [VR]

theorem ofNat_toNat_map (l : List UInt8) : (l.map (·.toNat)).map UInt8.ofNat = l := by
  induction l with
  | nil => rfl
  | cons a l ih => simp only [List.map_cons, ih]; rw [UInt8.ofNat_toNat]
theorem of1_ok {μ : Mu} (v : Value) : VR μ (of1 v) v := by
  cases v
  case string s =>
    simp only [of1, VR]
    refine ⟨fun c hc => ?_, ?_⟩
    · obtain ⟨x, _, rfl⟩ := List.mem_map.1 hc
      exact UInt8.toNat_lt x
    · rw [ofNat_toNat_map]
  case pointer a => cases a <;> simp [of1, VR]
  case slice a n c =>
    cases a
    · cases n
      · cases c <;> simp [of1, VR]
      · simp [of1, VR]
    · simp [of1, VR]
  all_goals simp [of1, VR]
theorem ofV_ok {μ : Mu} (v : Value) : VR μ (ofV v) v := by
  cases v
  case agg l =>
    simp only [ofV, VR]
    refine ⟨l.toList, by simp, ?_⟩
    have := VRs.map (μ := μ) (f := of1) (g := fun v => v) (l := l.toList) fun x _ => of1_ok x
    simpa using this
  all_goals (simp only [ofV]; exact of1_ok _)
theorem ER.ev {μ : Mu} {re : RE} {e : Env} (h : ER μ re e) (x : Operand) : VR μ (re.ev x) (e.ev x) := by
  cases x with
  | tmp t => exact h t
  | const v => exact ofV_ok v
  | global g => exact VR.any _
  | func f => simp only [RE.ev, Env.ev, VR]; exact ⟨[], [], rfl, VRs.nil, VRs.nil⟩
theorem ER.evs {μ : Mu} {re : RE} {e : Env} (h : ER μ re e) (l : List Operand) : VRs μ (l.map re.ev) (l.map e.ev) := VRs.map fun x _ => h.ev x
theorem ER.put {μ : Mu} {re : RE} {e : Env} (h : ER μ re e) {r : RV} {v : Value} (k : VR μ r v) (d : Nat) : ER μ (re.put d r) (e.put d v) := fun i => by
  simp only [RE.put, RE.get, Env.put]
  cases Nat.beq i d
  · exact h i
  · exact k
theorem ER.putO {μ : Mu} {re : RE} {e : Env} (h : ER μ re e) {r : RV} {v : Value} (k : VR μ r v) (d : Option Tmp) : ER μ (re.putO d r) (e.putO d v) := by
  cases d
  · exact h
  · exact h.put k _

theorem natOf_ok {μ : Mu} {r : RV} {v : Value} {n : Nat} (h : natOf r = some n) (k : VR μ r v) : ∃ d, v = .int d (n : Int) := by
  unfold natOf at h
  split at h
  · cases h; simp only [VR] at k; exact ⟨_, k⟩
  · cases h

section
variable {P : Program} {c d : Bool} {t : TypeId} {μ : Mu}
theorem ofNat_inj {a b : List Nat} (ha : ∀ x ∈ a, x < 256) (hb : ∀ x ∈ b, x < 256) (h : a.map UInt8.ofNat = b.map UInt8.ofNat) : a = b := by
  have : ∀ {l : List Nat}, (∀ x ∈ l, x < 256) → (l.map UInt8.ofNat).map (·.toNat) = l := by
    intro l hl
    induction l with
    | nil => rfl
    | cons x l ih =>
      simp only [List.map_cons]
      rw [ih fun y hy => hl y (by simp [hy])]
      have := hl x (by simp)
      congr 1
      rw [UInt8.toNat_ofNat']
      exact Nat.mod_eq_of_lt this
  rw [← this ha, ← this hb, h]
theorem pu_shrG {k l : IntKind} {a b : Int} (hk : k = .i64 ∨ k = .u64) (h : 0 ≤ b) : PU P (oBin .shr t c d (.int k a) (.int l b)) (.int k (ishr a b)) := fun w => by
  have : ¬ b < 0 := by omega
  rcases hk with rfl | rfl <;> simp [oBin, vS, eqGuard, binOp, Op.shift, this, ishr, IntKind.bits]
theorem pu_eqlNil {e : TypeId} {x : Option Addr} {n m n' m' : Nat} (hu : P.underlying t = some (.slice e)) : PU P (oBin .eql t c d (.slice x n m) (.slice none n' m')) (.bool x.isNone) := fun w => by
  have := Lib.run_eql_slice_nil (P := P) w t e x n m n' m' hu
  simp [oBin, vS, eqGuard, this]
theorem pu_neqNil {e : TypeId} {x : Option Addr} {n m n' m' : Nat} (hu : P.underlying t = some (.slice e)) : PU P (oBin .neq t c d (.slice x n m) (.slice none n' m')) (.bool (!x.isNone)) := fun w => by
  have := run_neq_slice_nil_any (P := P) w t e x n m n' m' hu
  simp [oBin, vS, eqGuard, this]
theorem binI_ok {op : BinOp} {k : IntKind} {a b : Int} {r : RV} (h : binI op k a b = some r) : ∃ v, PU P (oBin op t c d (.int k a) (.int k b)) v ∧ VR μ r v := by
  cases op <;> simp only [binI, Option.some.injEq] at h <;> first | (cases h; done) | skip
  all_goals subst h
  · exact ⟨_, pu_add, by simp [VR]⟩
  · exact ⟨_, pu_sub, by simp [VR]⟩
  · exact ⟨_, pu_and, by simp [VR]⟩
  · exact ⟨_, pu_or, by simp [VR]⟩
  · exact ⟨_, pu_andNot, by simp [VR]⟩
  · exact ⟨_, pu_eql, by simp only [VR]; rfl⟩
  · exact ⟨_, pu_neq, by simp only [VR]; rfl⟩
  · exact ⟨_, pu_lss, by simp [VR]⟩
  · exact ⟨_, pu_leq, by simp [VR]⟩
  · exact ⟨_, pu_gtr, by simp [VR]⟩
  · exact ⟨_, pu_geq, by simp [VR]⟩
theorem isSl_out (h : isSl P t = true) : ∃ e, P.underlying t = some (.slice e) := by
  unfold isSl at h
  split at h
  · exact ⟨_, by assumption⟩
  · cases h
theorem bin_ok {op : BinOp} {x y : RV} {a b : Value} {r : RV} (h : bin P op t x y = some r) (ha : VR μ x a) (hb : VR μ y b) : ∃ v, PU P (oBin op t c d a b) v ∧ VR μ r v := by
  unfold bin at h
  split at h
  · rename_i k a l b
    simp only [VR] at ha hb
    subst ha hb
    split at h
    · cases hc : ((decide (k = .i64) || decide (k = .u64)) && decide (0 ≤ b))
      · rw [hc] at h; cases h
      · rw [hc] at h
        simp only [Bool.and_eq_true, Bool.or_eq_true, decide_eq_true_eq] at hc
        simp only [cond_true, Option.some.injEq] at h
        subst h
        exact ⟨_, pu_shrG hc.1 hc.2, by simp [VR]⟩
    · cases hc : decide (k = l)
      · rw [hc] at h; cases h
      · rw [hc] at h
        have := of_decide_eq_true hc
        subst this
        exact binI_ok h
  · simp only [VR] at ha hb
    obtain ⟨ha, rfl⟩ := ha
    obtain ⟨hb, rfl⟩ := hb
    split at h
    · cases h
      refine ⟨_, pu_seql, ?_⟩
      simp only [VR, Value.bool.injEq]
      rw [Bool.eq_iff_iff]
      simp only [beq_iff_eq, decide_eq_true_eq]
      exact ⟨fun e => ofNat_inj ha hb e, fun e => e ▸ rfl⟩
    · cases h
      refine ⟨_, pu_sneq, ?_⟩
      simp only [VR, Value.bool.injEq]
      rw [Bool.eq_iff_iff]
      simp only [bne_iff_ne, ne_eq, Bool.not_eq_true', decide_eq_false_iff_not]
      exact ⟨fun e q => e (q ▸ rfl), fun e q => e (ofNat_inj ha hb q)⟩
    · cases h
  · simp only [VR] at ha hb
    obtain ⟨B, x, _, rfl⟩ := ha
    subst hb
    cases hs : isSl P t
    · rw [hs] at h; cases h
    · rw [hs] at h
      obtain ⟨el, hu⟩ := isSl_out hs
      simp only [cond_true] at h
      split at h
      · cases h; exact ⟨_, pu_eqlNil hu, by simp [VR]⟩
      · cases h; exact ⟨_, pu_neqNil hu, by simp [VR]⟩
      · cases h
  · simp only [VR] at ha hb
    subst ha hb
    cases hs : isSl P t
    · rw [hs] at h; cases h
    · rw [hs] at h
      obtain ⟨el, hu⟩ := isSl_out hs
      simp only [cond_true] at h
      split at h
      · cases h; exact ⟨_, pu_eqlNil hu, by simp [VR]⟩
      · cases h; exact ⟨_, pu_neqNil hu, by simp [VR]⟩
      · cases h
  · cases h
end
end Go.Ev
