/- Functions and calls. -/
import Derived.Test.YthakeicmaeefiaaGreatDoorEae
set_option linter.unusedVariables false
set_option linter.unusedSimpArgs false
namespace Go.Ev
open Go Go.Sh Go.RowKit
section
variable {P : Program}
theorem finE_ok {μ : Mu} {l : List RV} {vs : List Value} (h : VRs μ l vs) : VR μ (finE l) (fin vs) := by
  match l, vs, h with
  | [], vs, h => simp only [VRs] at h; subst h; simp only [finE, fin, VR]; exact ⟨[], rfl, VRs.nil⟩
  | [r], vs, h =>
    obtain ⟨v, us, rfl, h1, h2⟩ := h.out
    simp only [VRs] at h2
    subst h2
    exact h1
  | a :: b :: l, vs, h =>
    have h0 := h
    obtain ⟨v, us, rfl, h1, h2⟩ := h.out
    obtain ⟨v2, us2, rfl, h3, h4⟩ := h2.out
    simp only [finE, fin, VR]
    exact ⟨_, rfl, h0⟩
theorem VRs.rev {μ : Mu} : ∀ {l : List RV} {vs : List Value}, VRs μ l vs → VRs μ l.reverse vs.reverse
  | [], vs, h => by simp only [VRs] at h; subst h; exact VRs.nil
  | r :: l, vs, h => by
    obtain ⟨v, us, rfl, h1, h2⟩ := h.out
    simp only [List.reverse_cons]
    exact h2.rev.append (VRs.cons h1 VRs.nil)
theorem evR_ok : ∀ (rs : List ResultVar) (acc : List RV) (re : RE) (h : HP) (k : RV → Bool), evR P rs acc re h k = true → ∃ r, k r = true ∧
    ∀ w0 μ w e vs (R : Value → World → Prop), ER μ re e → HR w0 μ h w → VRs μ acc vs → (∀ v, VR μ r v → R v w) → shRes P rs vs e w R
  | [], acc, re, h, k, e => ⟨_, e, fun w0 μ w e vs R he hr hv hR => hR _ (finE_ok hv.rev)⟩
  | .tmp t :: rs, acc, re, h, k, e => by
    simp only [evR, fV_eq] at e
    obtain ⟨r, hk, hh⟩ := evR_ok rs _ re h k e
    exact ⟨r, hk, fun w0 μ w e vs R he hr hv hR => hh w0 μ w e _ R he hr (VRs.cons (he t) hv) hR⟩
  | .cell t ty :: rs, acc, re, h, k, e => by
    simp only [evR] at e
    obtain ⟨x, hk1, hh1⟩ := ldK_ok e
    obtain ⟨r, hk, hh⟩ := evR_ok rs _ re h k hk1
    refine ⟨r, hk, fun w0 μ w e vs R he hr hv hR => ?_⟩
    obtain ⟨v, h1, h2⟩ := hh1 w0 μ w _ (he t) hr
    exact LX.rd h1 (hh w0 μ w e _ R he hr (VRs.cons h2 hv) hR)

/-- What is checked of a function, once. -/
def fuOK (P : Program) (f : FuncId) (fu : Fu) : Prop := ∃ fn, P.funcs[f]? = some fn ∧ fn.body = some fu.body ∧ fn.results.toList = fu.res ∧ fn.ntmps = fu.nt ∧ (fn.name == "runtime.NumGoroutine") = false ∧
  (stC fu.body fu.pl && (codeOK fu.nt fu.body && (plOK fu.nt fu.pl && fu.res.all (resOK fu.nt)))) = true
def ExtOK (P : Program) (tab : FuncId → Option Fu) (ext : FuncId → List RV → Option RV) : Prop := ∀ f as r, tab f = none → ext f as = some r → ∀ μ vs, VRs μ as vs → ∃ v, VR μ r v ∧ ∀ w, (callFunc f (List.toArray vs)).run P w = .ok (.value v) w
theorem get_enum : ∀ (l : List RV) (n i : Nat), RE.get (enum n l) i = if n ≤ i then l.getD (i - n) .any else .any
  | [], n, i => by simp [enum, RE.get]
  | v :: l, n, i => by
    simp only [enum, RE.get]
    rw [get_enum l (n + 1) i]
    cases h : Nat.beq i n
    · have hne : i ≠ n := fun e => by rw [e, Nat.beq_refl] at h; cases h
      simp only [cond_false]
      by_cases h1 : n ≤ i
      · rw [if_pos h1, if_pos (by omega), show i - n = (i - (n + 1)) + 1 by omega]
        simp
      · rw [if_neg h1, if_neg (by omega)]
    · have := Nat.eq_of_beq_eq_true h
      subst this
      simp
theorem ER.args {μ : Mu} {as : List RV} {vs : List Value} (h : VRs μ as vs) : ER μ (enum 0 as) (Env.of vs) := by
  intro i
  rw [get_enum, if_pos (Nat.zero_le _), Nat.sub_zero]
  cases hi : as[i]? with
  | none =>
    have : as.getD i .any = .any := by simp [List.getD, hi]
    rw [this]; exact VR.any _
  | some r =>
    obtain ⟨v, h1, h2⟩ := h.get hi
    have e1 : as.getD i .any = r := by simp [List.getD, hi]
    have e2 : Env.of vs i = v := by simp [Env.of, List.getD, h1]
    rw [e1, e2]; exact h2
theorem KN.zero {re : RE} (h : ∀ i, re.get i ≠ .skip) (kn : Nat) : KN re kn := fun i hi => absurd hi (h i)

theorem evCall_ok (hm : P.follows .mixedOrders = true) {tab : FuncId → Option Fu} {ext : FuncId → List RV → Option RV} (htab : ∀ f fu, tab f = some fu → fuOK P f fu) (hext : ExtOK P tab ext) (lf : Nat) : ∀ n, RecOK P (evCall P tab ext lf n)
  | 0 => fun f as h k e => by cases e
  | n + 1 => fun f as h k e => by
    have ih := evCall_ok hm htab hext lf n
    simp only [evCall] at e
    split at e
    · rename_i fu hfu
      obtain ⟨hc, e⟩ := cond_true_of e
      simp only [Bool.and_eq_true] at hc
      obtain ⟨fn, h1, h2, h3, h4, h5, h6⟩ := htab f fu hfu
      simp only [Bool.and_eq_true] at h6
      obtain ⟨x, re', h', hk, hh⟩ := evC_ok ih fu.body fu.pl _ h _ h6.1 e
      have hx : ∀ i, x ≠ .exit i := by rintro i rfl; cases hk
      have hk' : evR P fu.res [] re' h' (fun v => k v h') = true := by
        cases x
        · exact hk
        · cases hk
        · exact hk
      obtain ⟨r, hk2, hh2⟩ := evR_ok _ _ _ _ _ hk'
      refine ⟨r, h', hk2, fun w0 μ w vs K hv hr hK => ?_⟩
      have hns : ∀ i, (enum 0 as).get i ≠ .skip := by
        intro i hi
        rw [get_enum, if_pos (Nat.zero_le _), Nat.sub_zero] at hi
        cases hai : as[i]? with
        | none => simp [List.getD, hai] at hi
        | some r =>
          have e1 : as.getD i .any = r := by simp [List.getD, hai]
          rw [e1] at hi
          subst hi
          have := List.all_eq_true.1 hc.2 _ (List.mem_of_getElem? hai)
          cases this
      have hcall : Calls P f vs.toArray w fun e w' => ∃ v, e = .returned v ∧ K v w' := by
        refine sh_calls hm h1 h2 fu.pl ?_ ?_
        · rw [h4, h3]
          simp only [Bool.and_eq_true]
          refine ⟨h6.2.1, h6.2.2.1, h6.2.2.2, ?_⟩
          have := hv.length
          rw [this]; exact hc.1
        · rw [h3]
          refine hh w0 μ w _ 0 _ (ER.args hv) (KN.zero hns 0) hr fun ν e' kn' w' y he' hkn' hr' => ?_
          have : shRes P fu.res [] e' w' K := hh2 w0 ν w' e' [] K he' hr' VRs.nil fun v hvv => hK ν v w' y hvv hr'
          cases x
          · exact this
          · exact absurd rfl (hx _)
          · exact this
      have hb : fn.body ≠ none := by rw [h2]; simp
      have hn : fn.name ≠ "runtime.NumGoroutine" := by simpa using h5
      have hrun : (callFunc f vs.toArray).run P w = .ok (.enter f vs.toArray) w := by
        have hp : (program).run P w = .ok P w := rfl
        simp [callFunc, hp, h1, hn, hb]
      exact NX.enter hrun hcall
    · rename_i hnone
      split at e
      · rename_i v hv
        rw [fV_eq] at e
        refine ⟨v, h, e, fun w0 μ w vs K hvs hr hK => ?_⟩
        obtain ⟨u, h1, h2⟩ := hext f as v hnone hv μ vs hvs
        exact NX.val (h2 w) (hK μ u w (Ext.refl μ) h1 hr)
      · cases e
/-- **A CLOSED CALL, IN ANY WORLD.** -/
theorem closed_ok (hm : P.follows .mixedOrders = true) {tab : FuncId → Option Fu} {ext : FuncId → List RV → Option RV} (htab : ∀ f fu, tab f = some fu → fuOK P f fu) (hext : ExtOK P tab ext) {lf n : Nat} {f : FuncId} {b : Bool} {fu : Fu} (hf : tab f = some fu)
    (e : evCall P tab ext lf n f [] ⟨.e, [], 0⟩ (fun v _ => beqV v (.bool b)) = true) (w : World) : Calls P f #[] w fun en w' => ∃ v, en = .returned v ∧ (v = .bool b ∧ Gr w w') := by
  obtain ⟨r, h', hk, hh⟩ := evCall_ok hm htab hext lf n f [] _ _ e
  have hr := beqV_eq hk
  subst hr
  have := (hh w (fun _ => none) w [] (fun v w' => v = .bool b ∧ Gr w w') VRs.nil (HR.init w) fun ν v w' x hv hr => ⟨by simpa [VR] using hv, hr.gr⟩).out
  obtain ⟨fn, h1, h2, h3, h4, h5, h6⟩ := htab f fu hf
  have hb : fn.body ≠ none := by rw [h2]; simp
  have hn : fn.name ≠ "runtime.NumGoroutine" := by simpa using h5
  have hrun : (callFunc f (List.toArray [])).run P w = .ok (.enter f #[]) w := by
    have hp : (program).run P w = .ok P w := rfl
    simp [callFunc, hp, h1, hn, hb]
  unfold nx at this
  rw [hrun] at this
  exact this
end
end Go.Ev
