/- Regions and code. -/
import Derived.Test.YthakeicmaeefiaaGreatDoorEab
set_option linter.unusedVariables false
set_option linter.unusedSimpArgs false
namespace Go.Ev
open Go Go.Sh Go.RowKit

theorem isK_set (kn d i : Nat) : isK (knSet kn d) i = (isK kn i || decide (d = i)) := by
  unfold isK knSet
  show Nat.testBit (kn ||| 2 ^ d) i = _
  rw [Nat.testBit_or, Nat.testBit_two_pow]
theorem isK_clr (kn d i : Nat) (h : i ≠ d) : isK (knClr kn d) i = isK kn i := by
  unfold isK knClr
  show Nat.testBit (kn ^^^ (kn &&& 2 ^ d)) i = _
  rw [Nat.testBit_xor, Nat.testBit_and, Nat.testBit_two_pow]
  have : decide (d = i) = false := by simp [Ne.symm h]
  rw [this]; simp
def KN (re : RE) (kn : Nat) : Prop := ∀ i, re.get i = .skip → isK kn i = true
theorem KN.set {re : RE} {kn : Nat} (h : KN re kn) (d : Nat) : KN re (knSet kn d) := fun i hi => by rw [isK_set, h i hi]; rfl
theorem KN.putO {re : RE} {kn : Nat} (h : KN re kn) {r : RV} {b : Bool} (hb : r = .skip → b = true) (d : Option Tmp) : KN (re.putO d r) (knPut kn d b) := by
  cases d with
  | none => exact h
  | some d =>
    intro i hi
    simp only [RE.putO, RE.put, RE.get] at hi
    simp only [knPut]
    cases hid : Nat.beq i d
    · rw [hid] at hi
      have hne : i ≠ d := fun e => by rw [e, Nat.beq_refl] at hid; cases hid
      have := h i hi
      cases b
      · simp only [cond_false]; rw [isK_clr _ _ _ hne]; exact this
      · simp only [cond_true]; rw [isK_set, this]; rfl
    · rw [hid] at hi
      have := Nat.eq_of_beq_eq_true hid
      subst this
      rw [hb hi]
      simp only [cond_true]
      rw [isK_set]; simp
theorem of1_ne (v : Value) : of1 v ≠ .skip := by
  cases v <;> simp [of1]
  case pointer a => cases a <;> simp [of1]
  case slice a n c =>
    cases a
    · cases n
      · cases c <;> simp [of1]
      · simp [of1]
    · simp [of1]
theorem ev_skip {re : RE} {kn : Nat} (h : KN re kn) {x : Operand} (e : re.ev x = .skip) : opdK kn x = true := by
  cases x with
  | tmp t => exact h t e
  | const v =>
    exfalso
    simp only [RE.ev] at e
    cases v
    case agg l => simp [ofV] at e
    all_goals (simp only [ofV] at e; exact of1_ne _ e)
  | global g => simp [RE.ev] at e
  | func f => simp [RE.ev] at e
theorem ER.same {μ : Mu} {re : RE} {e : Env} {t : Nat} {v : Value} (h : ER μ re e) (hv : e t = v) : ER μ re (e.put t v) := fun i => by
  unfold Env.put
  cases hit : Nat.beq i t
  · exact h i
  · have := Nat.eq_of_beq_eq_true hit
    subst this
    simp only [cond_true]
    rw [← hv]; exact h i

section
variable {P : Program}
def StepOK (P : Program) (ops : List Oper) (o : Oper) (re : RE) (h : HP) (k : RE → HP → Bool) : Prop := ∃ re' h', k re' h' = true ∧
  ∀ w0 μ w e kn (K : KT), ER μ re e → KN re kn → HR w0 μ h w → (∀ ν e' kn' w', Ext μ ν → ER ν re' e' → KN re' kn' → HR w0 ν h' w' → K e' kn' w') → stepO P ops o e kn w K
def ExecOK (P : Program) (o : Oper) (re : RE) (h : HP) (k : RE → HP → Bool) : Prop := ∃ re' h', k re' h' = true ∧
  ∀ w0 μ w e kn (K : KT), ER μ re e → KN re kn → HR w0 μ h w → (∀ ν e' kn' w', Ext μ ν → ER ν re' e' → KN re' kn' → HR w0 ν h' w' → K e' kn' w') → exec1 P o e kn w K
theorem nsk_out {k : RV → HP → Bool} {v : RV} {h : HP} (e : nsk k v h = true) : v ≠ .skip ∧ k v h = true := by
  unfold nsk at e
  split at e
  · cases e
  · rename_i hne; exact ⟨hne, e⟩
theorem exec1_ok {rec : Rec} (hrec : RecOK P rec) {o : Oper} {re : RE} {h : HP} {k : RE → HP → Bool}
    (e : (match o.op with
    | .move x | .assign x => fV (re.ev x) fun v => k (re.putO o.dst v) h
    | .pick c a b => (match re.ev c with
      | .bool true => fV (re.ev a) fun v => nsk (fun v h => k (re.putO o.dst v) h) v h
      | .bool false => fV (re.ev b) fun v => nsk (fun v h => k (re.putO o.dst v) h) v h
      | _ => false)
    | _ => evO P rec o re h (nsk fun v h => k (re.putO o.dst v) h)) = true) : ExecOK P o re h k := by
  have gen : evO P rec o re h (nsk fun v h => k (re.putO o.dst v) h) = true → (∀ e kn w K, exec1 P o e kn w K = NX P (opS e.ev o) w fun v w => K (e.putO o.dst v) (knPut kn o.dst false) w) → ExecOK P o re h k := by
    intro e1 h1
    obtain ⟨r, h', hk, hh⟩ := evO_ok hrec e1
    obtain ⟨hne, hk⟩ := nsk_out hk
    refine ⟨_, _, hk, fun w0 μ w e kn K he hkn hr hK => ?_⟩
    rw [h1]
    refine hh w0 μ w e _ he hr fun ν v w' x hv hr' => hK ν _ _ w' x ((he.ext x).putO hv _) (hkn.putO (fun e => absurd e hne) _) hr'
  obtain ⟨dst, op, ty, pos, after, guard⟩ := o
  cases op
  case move x =>
    simp only [fV_eq] at e
    exact ⟨_, _, e, fun w0 μ w e kn K he hkn hr hK => hK μ _ _ w (Ext.refl μ) (he.putO (he.ev x) _) (hkn.putO (fun e => ev_skip hkn e) _) hr⟩
  case assign x =>
    simp only [fV_eq] at e
    exact ⟨_, _, e, fun w0 μ w e kn K he hkn hr hK => hK μ _ _ w (Ext.refl μ) (he.putO (he.ev x) _) (hkn.putO (fun e => ev_skip hkn e) _) hr⟩
  case pick c a b =>
    simp only at e
    split at e
    · rename_i hc
      rw [fV_eq] at e
      obtain ⟨hne, hk⟩ := nsk_out e
      refine ⟨_, _, hk, fun w0 μ w e kn K he hkn hr hK => ?_⟩
      have hcv := he.ev c
      rw [hc] at hcv
      simp only [VR] at hcv
      simp only [exec1]
      cases ho : opdK kn c
      · simp only [cond_false, hcv]
        exact NX.pu pu_pick (hK μ _ _ w (Ext.refl μ) (he.putO (he.ev a) _) (hkn.putO (fun e => absurd e hne) _) hr)
      · simp only [cond_true, hcv]
        exact hK μ _ _ w (Ext.refl μ) (he.putO (he.ev a) _) (hkn.putO (fun e => absurd e hne) _) hr
    · rename_i hc
      rw [fV_eq] at e
      obtain ⟨hne, hk⟩ := nsk_out e
      refine ⟨_, _, hk, fun w0 μ w e kn K he hkn hr hK => ?_⟩
      have hcv := he.ev c
      rw [hc] at hcv
      simp only [VR] at hcv
      simp only [exec1]
      cases ho : opdK kn c
      · simp only [cond_false, hcv]
        exact NX.pu pu_pick (hK μ _ _ w (Ext.refl μ) (he.putO (he.ev b) _) (hkn.putO (fun e => absurd e hne) _) hr)
      · simp only [cond_true, hcv]
        exact hK μ _ _ w (Ext.refl μ) (he.putO (he.ev b) _) (hkn.putO (fun e => absurd e hne) _) hr
    · cases e
  all_goals exact gen e fun _ _ _ _ => rfl

theorem gd_ok {ops : List Oper} {o : Oper} {re : RE} {b : Bool} (hg : gd ops o re = some b) {μ : Mu} {e : Env} {kn : Nat} {w : World} {K : KT} (he : ER μ re e) (hkn : KN re kn)
    (ht : b = true → ∀ e' kn', ER μ re e' → KN re kn' → exec1 P o e' kn' w K) (hf : b = false → ∀ e' kn', ER μ re e' → KN re kn' → K (e'.putO o.dst undef) (knPut kn' o.dst true) w) : stepO P ops o e kn w K := by
  unfold gd at hg
  unfold stepO
  split at hg
  · rename_i hgu
    rw [hgu]
    cases hg
    exact ht rfl e kn he hkn
  · rename_i j want hgu
    rw [hgu]
    simp only
    split at hg
    · cases hg
    · rename_i t htt
      simp only [htt]
      have hv := he t
      split at hg
      · rename_i c hc
        cases hg
        rw [hc] at hv
        simp only [VR] at hv
        have e1 : ER μ re (e.put t (.bool c)) := he.same hv
        have k1 : KN re (knSet kn t) := hkn.set t
        cases hk : isK kn t
        · simp only [cond_false]
          rw [hv]
          cases want <;> simp only [cond_false, cond_true] at ht hf ⊢ <;> cases c
          · exact IFB.ff (ht rfl _ _ e1 k1)
          · exact IFB.tt (hf rfl _ _ e1 k1)
          · exact IFB.ff (hf rfl _ _ e1 k1)
          · exact IFB.tt (ht rfl _ _ e1 k1)
        · simp only [cond_true]
          rw [hv]
          cases want <;> simp only [cond_false, cond_true] at ht hf ⊢ <;> cases c
          · exact ht rfl _ _ he hkn
          · exact hf rfl _ _ he hkn
          · exact hf rfl _ _ he hkn
          · exact ht rfl _ _ he hkn
      · rename_i hc
        cases hg
        rw [hc] at hv
        simp only [VR] at hv
        have hk := hkn t hc
        rw [hk]
        simp only [cond_true]
        rw [hv]
        exact hf rfl _ _ he hkn
      · cases hg
theorem evStep_ok {rec : Rec} (hrec : RecOK P rec) {ops : List Oper} {o : Oper} {re : RE} {h : HP} {k : RE → HP → Bool} (e : evStep P rec ops o re h k = true) : StepOK P ops o re h k := by
  unfold evStep at e
  split at e
  · rename_i hg
    obtain ⟨re', h', hk, hh⟩ := exec1_ok hrec e
    refine ⟨re', h', hk, fun w0 μ w e kn K he hkn hr hK => gd_ok hg he hkn (fun _ e' kn' he' hkn' => hh w0 μ w e' kn' K he' hkn' hr hK) (fun hb => by cases hb)⟩
  · rename_i hg
    refine ⟨_, _, e, fun w0 μ w e kn K he hkn hr hK => gd_ok hg he hkn (fun hb => by cases hb) (fun _ e' kn' he' hkn' => hK μ _ _ w (Ext.refl μ) (he'.putO (by simp [VR]) _) (hkn'.putO (fun _ => rfl) _) hr)⟩
  · cases e
theorem evOps_ok {rec : Rec} (hrec : RecOK P rec) {ops : List Oper} : ∀ {l : List Oper} {re : RE} {h : HP} {k : RE → HP → Bool}, evOps P rec ops l re h k = true → ∃ re' h', k re' h' = true ∧
    ∀ w0 μ w e kn (K : KT), ER μ re e → KN re kn → HR w0 μ h w → (∀ ν e' kn' w', Ext μ ν → ER ν re' e' → KN re' kn' → HR w0 ν h' w' → K e' kn' w') → shOps P ops l e kn w K
  | [], re, h, k, e => ⟨re, h, e, fun w0 μ w e kn K he hkn hr hK => hK μ e kn w (Ext.refl μ) he hkn hr⟩
  | o :: l, re, h, k, e => by
    obtain ⟨re1, h1, hk1, hh1⟩ := evStep_ok hrec e
    obtain ⟨re2, h2, hk2, hh2⟩ := evOps_ok hrec hk1
    refine ⟨re2, h2, hk2, fun w0 μ w e kn K he hkn hr hK => ?_⟩
    unfold shOps
    refine hh1 w0 μ w e kn _ he hkn hr fun ν e' kn' w' x he' hkn' hr' => ?_
    rw [forceN_eq]
    exact hh2 w0 ν w' e' kn' K he' hkn' hr' fun ξ e2 kn2 w2 y he2 hkn2 hr2 => hK ξ e2 kn2 w2 (x.trans y) he2 hkn2 hr2
end
end Go.Ev
