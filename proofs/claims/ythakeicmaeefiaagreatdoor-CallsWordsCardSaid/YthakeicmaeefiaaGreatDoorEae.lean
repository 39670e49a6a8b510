/- Code, functions, calls. -/
import Derived.Test.YthakeicmaeefiaaGreatDoorEad
set_option linter.unusedVariables false
set_option linter.unusedSimpArgs false
namespace Go.Ev
open Go Go.Sh Go.RowKit

/-- What is checked of a text and its plan, once. -/
def stC : Code → Pl → Bool
  | .region _ ops true, .draw d => (freeFrom ops.toList ops.toList 0 && d.lenIs ops.toList.length) && dOK ops.toList d 0
  | .seq a b, .seq pa pb => stC a pa && stC b pb
  | .seq a b, .join L S pa pb => (sub (asg a) S && sub S (asg a)) && (sub L S && (stC a pa && stC b pb))
  | .cond _ a b, .cond pa pb => stC a pa && stC b pb
  | .block _ a, .block pa => stC a pa
  | .loop a, .loop L S pa => (sub (asg a) S && sub S (asg a)) && (sub L S && stC a pa)
  | .scope a, .block pa => stC a pa
  | _, _ => true

theorem get_hav {S : List Nat} : ∀ {re : RE} {i : Nat}, (hav S re).get i = if S.any (Nat.beq i) then .any else re.get i
  | [], i => by simp [hav, RE.get]
  | (j, v) :: re, i => by
    have ih := get_hav (S := S) (re := re) (i := i)
    unfold hav at ih ⊢
    simp only [List.filter_cons]
    cases hj : S.any (Nat.beq j)
    · simp only [Bool.not_false, if_true, RE.get]
      cases hij : Nat.beq i j
      · exact ih
      · have := Nat.eq_of_beq_eq_true hij
        subst this
        rw [hj]; rfl
    · simp only [Bool.not_true, RE.get, Bool.false_eq_true, if_false]
      cases hij : Nat.beq i j
      · exact ih
      · have := Nat.eq_of_beq_eq_true hij
        subst this
        rw [ih, hj]; rfl
theorem get_putL : ∀ {L : List Nat} {vs : List RV} {re : RE} {i : Nat}, vs.length = L.length → (putL L vs re).get i = re.get i ∨ ∃ (j : Nat) (v : RV), L[j]? = some i ∧ vs[j]? = some v ∧ (putL L vs re).get i = v
  | [], vs, re, i, h => by left; cases vs <;> rfl
  | t :: L, [], re, i, h => by simp at h
  | t :: L, v :: vs, re, i, h => by
    simp only [putL, RE.get]
    cases hit : Nat.beq i t
    · simp only [cond_false]
      rcases get_putL (re := re) (i := i) (by simpa using h : vs.length = L.length) with h1 | ⟨j, u, h1, h2, h3⟩
      · left; exact h1
      · right; exact ⟨j + 1, u, by simpa using h1, by simpa using h2, h3⟩
    · have := Nat.eq_of_beq_eq_true hit
      subst this
      right; exact ⟨0, v, rfl, rfl, rfl⟩
theorem noskip_ok {μ : Mu} {r : RV} {v : Value} (h : VR μ r v) : VR μ (noskip r) v := by
  cases r <;> first | exact h | exact VR.any v
theorem noskip_ne (r : RV) : noskip r ≠ .skip := by cases r <;> simp [noskip]
/-- Behind a join: what is told on, and what has not turned. -/
theorem ER.join {μ : Mu} {re : RE} {e f : Env} {L S : List Nat} {vs : List RV} (he : ER μ re e) (hv : VRs μ vs (vals L f)) (hL : sub L S = true) : ER μ (putL L vs (hav S re)) (Env.hav S f e) := by
  have hlen : vs.length = L.length := by have := hv.length; simp [vals] at this; exact this.symm
  intro i
  rcases get_putL (re := hav S re) (i := i) hlen with h | ⟨j, u, h1, h2, h3⟩
  · rw [h, get_hav]
    split
    · exact VR.any _
    · rename_i hs
      rw [hav_ne f e hs]; exact he i
  · rw [h3]
    have hS : S.any (Nat.beq i) = true := sub_spec hL (List.mem_of_getElem? h1)
    rw [hav_in f e hS]
    obtain ⟨v, g1, g2⟩ := hv.get h2
    simp only [vals, List.getElem?_map, h1, Option.map_some, Option.some.injEq] at g1
    rw [g1]; exact g2
theorem KN.join {re : RE} {L S : List Nat} {vs : List RV} {kn : Nat} (h : KN re kn) (hlen : vs.length = L.length) (hns : ∀ v ∈ vs, v ≠ .skip) : KN (putL L vs (hav S re)) (knOut S kn) := by
  intro i hi
  rcases get_putL (re := hav S re) (i := i) hlen with h1 | ⟨j, u, h1, h2, h3⟩
  · rw [h1, get_hav] at hi
    split at hi
    · cases hi
    · rename_i hs
      have hk := h i hi
      have : ∀ (S : List Nat) (kn : Nat), isK kn i = true → ¬ S.any (Nat.beq i) = true → isK (knOut S kn) i = true := by
        intro S
        induction S with
        | nil => intro kn hk _; exact hk
        | cons d S ih =>
          intro kn hk hs
          simp only [List.any_cons, Bool.or_eq_true, not_or] at hs
          refine ih _ ?_ hs.2
          rw [isK_clr _ _ _ (fun e => hs.1 (by rw [e]; exact Nat.beq_refl d))]
          exact hk
      exact this S kn hk hs
  · rw [h3] at hi
    exact absurd hi (hns u (List.mem_of_getElem? h2))
section
variable {P : Program}
/-- One round, or what a loop's body comes to. -/
def CodeOK (P : Program) (c : Code) (pl : Pl) (re : RE) (h : HP) (x : X) (re' : RE) (h' : HP) : Prop :=
  ∀ w0 μ w e kn (Q : X → KT), ER μ re e → KN re kn → HR w0 μ h w → (∀ ν e' kn' w', Ext μ ν → ER ν re' e' → KN re' kn' → HR w0 ν h' w' → Q x e' kn' w') → sh P c pl Q e kn w
/-- The rounds of a loop. -/
def It (P : Program) (a : Code) (pa : Pl) (L : List Nat) (rs : RE) : Nat → List RV → HP → X → RE → HP → Prop
  | 0, _, _, _, _, _ => False
  | m + 1, vs, h, x, re', h' => (x ≠ .norm ∧ CodeOK P a pa (putL L vs rs) h x re' h') ∨
    ∃ re1 h1, CodeOK P a pa (putL L vs rs) h .norm re1 h1 ∧ It P a pa L rs m (L.map fun t => noskip (re1.get t)) h1 x re' h'
theorem iter_ok {a : Code} {pa : Pl} {L : List Nat} {rs : RE} {step : List RV → HP → (X → RE → HP → Bool) → Bool}
    (hs : ∀ vs h k, step vs h k = true → ∃ x re' h', k x re' h' = true ∧ CodeOK P a pa (putL L vs rs) h x re' h') : ∀ (m : Nat) (vs : List RV) (h : HP) (k : X → RE → HP → Bool), iter step L m vs h k = true →
    ∃ x re' h', k x re' h' = true ∧ It P a pa L rs m vs h x re' h' ∧ x ≠ .norm
  | 0, vs, h, k, e => by cases e
  | m + 1, vs, h, k, e => by
    simp only [iter] at e
    obtain ⟨x, re1, h1, hk, hh⟩ := hs vs h _ e
    cases x
    case norm =>
      simp only [fVs_eq] at hk
      obtain ⟨x, re', h', g1, g2, g3⟩ := iter_ok hs m _ _ _ hk
      exact ⟨x, re', h', g1, .inr ⟨re1, h1, hh, g2⟩, g3⟩
    case exit i => exact ⟨_, _, _, hk, .inl ⟨by simp, hh⟩, by simp⟩
    case ret => exact ⟨_, _, _, hk, .inl ⟨by simp, hh⟩, by simp⟩

theorem least {p : Nat → Prop} (h : ∃ n, p n) : ∃ n, p n ∧ ∀ m, p m → n ≤ m := by
  obtain ⟨n, hn⟩ := h
  induction n using Nat.strongRecOn with
  | ind n ih =>
    by_cases hm : ∃ m, m < n ∧ p m
    · obtain ⟨m, h1, h2⟩ := hm
      exact ih m h1 h2
    · exact ⟨n, hn, fun m h => Nat.le_of_not_lt fun hl => hm ⟨m, hl, h⟩⟩
open Classical in
noncomputable def leastOf (p : Nat → Prop) : Nat := if h : ∃ n, p n then Classical.choose (least h) else 0
theorem leastOf_spec {p : Nat → Prop} (h : ∃ n, p n) : p (leastOf p) ∧ ∀ m, p m → leastOf p ≤ m := by
  unfold leastOf
  rw [dif_pos h]
  exact Classical.choose_spec (least h)
theorem loop_ok {a : Code} {pa : Pl} {L S : List Nat} {re : RE} {h : HP} {x : X} {re' : RE} {h' : HP} {m : Nat} (hsub : (sub (asg a) S && sub S (asg a)) = true) (hL : sub L S = true)
    (hit : It P a pa L (hav S re) m (L.map fun t => noskip (re.get t)) h x re' h') (hx : x ≠ .norm) : CodeOK P (.loop a) (.loop L S pa) re h x re' h' := by
  intro w0 μ w e kn Q he hkn hr hK
  simp only [sh, hsub, cond_true]
  let J : Nat → List Value → World → Prop := fun j vs wv => ∃ rvs hj ν, Ext μ ν ∧ VRs ν rvs vs ∧ (∀ v ∈ rvs, v ≠ RV.skip) ∧ rvs.length = L.length ∧ HR w0 ν hj wv ∧ It P a pa L (hav S re) j rvs hj x re' h'
  refine ⟨fun vs wv => ∃ j, J j vs wv, fun vs wv => leastOf fun j => J j vs wv, ⟨m, _, h, μ, Ext.refl μ, ?_, ?_, by simp, hr, hit⟩, fun f wv hI => ?_⟩
  · exact VRs.map fun t _ => noskip_ok (he t)
  · intro v hv
    obtain ⟨t, _, rfl⟩ := List.mem_map.1 hv
    exact noskip_ne _
  · rw [forceN_eq]
    have hspec := (leastOf_spec hI).1
    obtain ⟨rvs, hj, ν, hext, hv, hns, hlen, hrj, hitj⟩ := hspec
    have heJ := ER.join (he.ext hext) hv hL
    have hknJ : KN (putL L rvs (hav S re)) (knOut S kn) := hkn.join hlen hns
    generalize hjv : (leastOf fun j => J j (vals L f) wv) = j at hitj
    cases j with
    | zero => exact hitj.elim
    | succ j =>
      rcases hitj with ⟨hne, hc⟩ | ⟨re1, h1, hc, hi⟩
      · refine hc w0 ν wv _ _ _ heJ hknJ hrj fun ξ e' kn' w' y he' hkn' hr' => ?_
        cases x
        · exact absurd rfl hne
        · exact hK ξ e' kn' w' (hext.trans y) he' hkn' hr'
        · exact hK ξ e' kn' w' (hext.trans y) he' hkn' hr'
      · refine hc w0 ν wv _ _ _ heJ hknJ hrj fun ξ e' kn' w' y he' hkn' hr' => ?_
        have hJ : J j (vals L e') w' := ⟨_, h1, ξ, hext.trans y, VRs.map fun t _ => noskip_ok (he' t), fun v hv => (by obtain ⟨t, _, rfl⟩ := List.mem_map.1 hv; exact noskip_ne _), by simp, hr', hi⟩
        refine ⟨⟨j, hJ⟩, ?_⟩
        show (leastOf fun j => J j (vals L e') w') < (leastOf fun j => J j (vals L f) wv)
        rw [hjv]
        exact Nat.lt_succ_of_le ((leastOf_spec ⟨j, hJ⟩).2 j hJ)

theorem evC_ok {rec : Rec} (hrec : RecOK P rec) {lf : Nat} : ∀ (c : Code) (pl : Pl) (re : RE) (h : HP) (k : X → RE → HP → Bool), stC c pl = true → evC P rec lf c pl re h k = true → ∃ x re' h', k x re' h' = true ∧ CodeOK P c pl re h x re' h' := by
  intro c
  induction c with
  | skip => intro pl re h k hs e; exact ⟨_, _, _, e, fun w0 μ w e kn Q he hkn hr hK => hK μ e kn w (Ext.refl μ) he hkn hr⟩
  | region id ops dr =>
    intro pl re h k hs e
    cases dr
    · obtain ⟨re', h', hk, hh⟩ := evOps_ok hrec e
      exact ⟨_, re', h', hk, fun w0 μ w e kn Q he hkn hr hK => hh w0 μ w e kn _ he hkn hr hK⟩
    · cases pl <;> try (cases e; done)
      rename_i d
      simp only [stC, Bool.and_eq_true] at hs
      obtain ⟨re', h', hk, hh⟩ := evD_ok hrec hs.2 e
      refine ⟨_, re', h', hk, fun w0 μ w e kn Q he hkn hr hK => ?_⟩
      simp only [sh, hs.1.1, hs.1.2, Bool.and_self, cond_true]
      exact hh w0 μ _ e kn [] _ he hkn (hr.world hr.gr.drew rfl) .nil hK
  | seq a b iha ihb =>
    intro pl re h k hs e
    cases pl <;> try (cases e; done)
    case seq pa pb =>
      simp only [stC, Bool.and_eq_true] at hs
      obtain ⟨x, re1, h1, hk, hc⟩ := iha pa re h _ hs.1 e
      cases x
      case norm =>
        obtain ⟨y, re2, h2, hk2, hc2⟩ := ihb pb re1 h1 _ hs.2 hk
        refine ⟨y, re2, h2, hk2, fun w0 μ w e kn Q he hkn hr hK => ?_⟩
        simp only [sh]
        refine hc w0 μ w e kn _ he hkn hr fun ν e' kn' w' x he' hkn' hr' => ?_
        simp only [forceN_eq]
        exact hc2 w0 ν w' e' kn' Q he' hkn' hr' fun ξ e2 kn2 w2 y he2 hkn2 hr2 => hK ξ e2 kn2 w2 (x.trans y) he2 hkn2 hr2
      all_goals exact ⟨_, re1, h1, hk, fun w0 μ w e kn Q he hkn hr hK => hc w0 μ w e kn _ he hkn hr hK⟩
    case join L S pa pb =>
      simp only [stC, Bool.and_eq_true] at hs
      obtain ⟨x, re1, h1, hk, hc⟩ := iha pa re h _ hs.2.2.1 e
      have hsub : (sub (asg a) S && sub S (asg a)) = true := by simp [hs.1.1, hs.1.2]
      cases x
      case norm =>
        simp only [fRE_eq] at hk
        obtain ⟨y, re2, h2, hk2, hc2⟩ := ihb pb _ h1 _ hs.2.2.2 hk
        refine ⟨y, re2, h2, hk2, fun w0 μ w e kn Q he hkn hr hK => ?_⟩
        simp only [sh, hsub, cond_true]
        refine ⟨fun vs wv => ∃ ν, Ext μ ν ∧ VRs ν (L.map fun t => noskip (re1.get t)) vs ∧ HR w0 ν h1 wv, ?_, fun f wv hJ => ?_⟩
        · exact hc w0 μ w e kn _ he hkn hr fun ν e' kn' w' x he' hkn' hr' => ⟨ν, x, VRs.map fun t _ => noskip_ok (he' t), hr'⟩
        · rw [forceN_eq]
          obtain ⟨ν, x, hv, hr'⟩ := hJ
          exact hc2 w0 ν wv _ _ Q (ER.join (he.ext x) hv hs.2.1) (hkn.join (by simp) fun v hv => (by obtain ⟨t, _, rfl⟩ := List.mem_map.1 hv; exact noskip_ne _)) hr' fun ξ e2 kn2 w2 y he2 hkn2 hr2 => hK ξ e2 kn2 w2 (x.trans y) he2 hkn2 hr2
      all_goals
        refine ⟨_, re1, h1, hk, fun w0 μ w e kn Q he hkn hr hK => ?_⟩
        simp only [sh, hsub, cond_true]
        exact ⟨fun _ _ => False, hc w0 μ w e kn _ he hkn hr hK, fun _ _ h => h.elim⟩
  | cond c a b iha ihb =>
    intro pl re h k hs e
    cases pl <;> try (cases e; done)
    rename_i pa pb
    simp only [stC, Bool.and_eq_true] at hs
    cases c <;> try (cases e; done)
    rename_i t
    simp only [evC] at e
    split at e
    · rename_i hc
      obtain ⟨x, re', h', hk, hh⟩ := iha pa re h k hs.1 e
      refine ⟨x, re', h', hk, fun w0 μ w e kn Q he hkn hr hK => ?_⟩
      have hv := he t
      rw [hc] at hv
      simp only [VR] at hv
      simp only [sh]
      cases hkt : isK kn t
      · simp only [cond_false, forceN_eq, hv]
        exact IFB.tt (hh w0 μ w _ _ Q (he.same hv) (hkn.set t) hr hK)
      · simp only [cond_true, hv]
        exact hh w0 μ w _ _ Q he hkn hr hK
    · rename_i hc
      obtain ⟨x, re', h', hk, hh⟩ := ihb pb re h k hs.2 e
      refine ⟨x, re', h', hk, fun w0 μ w e kn Q he hkn hr hK => ?_⟩
      have hv := he t
      rw [hc] at hv
      simp only [VR] at hv
      simp only [sh]
      cases hkt : isK kn t
      · simp only [cond_false, forceN_eq, hv]
        exact IFB.ff (hh w0 μ w _ _ Q (he.same hv) (hkn.set t) hr hK)
      · simp only [cond_true, hv]
        exact hh w0 μ w _ _ Q he hkn hr hK
    · cases e
  | block id a ih =>
    intro pl re h k hs e
    cases pl <;> try (cases e; done)
    rename_i pa
    obtain ⟨x, re', h', hk, hh⟩ := ih pa re h _ hs e
    cases x
    case exit i =>
      simp only at hk
      cases hi : Nat.beq i id
      · rw [hi] at hk
        exact ⟨_, re', h', hk, fun w0 μ w e kn Q he hkn hr hK => hh w0 μ w e kn _ he hkn hr fun ν e' kn' w' x he' hkn' hr' => (by simp only [hi, cond_false]; exact hK ν e' kn' w' x he' hkn' hr')⟩
      · rw [hi] at hk
        exact ⟨_, re', h', hk, fun w0 μ w e kn Q he hkn hr hK => hh w0 μ w e kn _ he hkn hr fun ν e' kn' w' x he' hkn' hr' => (by simp only [hi, cond_true]; exact hK ν e' kn' w' x he' hkn' hr')⟩
    all_goals exact ⟨_, re', h', hk, fun w0 μ w e kn Q he hkn hr hK => hh w0 μ w e kn _ he hkn hr hK⟩
  | loop a ih =>
    intro pl re h k hs e
    cases pl <;> try (cases e; done)
    rename_i L S pa
    simp only [stC, Bool.and_eq_true] at hs
    simp only [evC, fRE_eq, fVs_eq] at e
    obtain ⟨x, re', h', hk, hit, hx⟩ := iter_ok (P := P) (a := a) (pa := pa) (rs := hav S re) (fun vs h k e => ih pa _ h k hs.2.2 e) _ _ _ _ e
    exact ⟨x, re', h', hk, loop_ok (by simp [hs.1.1, hs.1.2]) hs.2.1 hit hx⟩
  | scope a ih =>
    intro pl re h k hs e
    cases pl <;> try (cases e; done)
    rename_i pa
    obtain ⟨x, re', h', hk, hh⟩ := ih pa re h k hs e
    exact ⟨x, re', h', hk, fun w0 μ w e kn Q he hkn hr hK => hh w0 μ w e kn Q he hkn hr hK⟩
  | label i => intro pl re h k hs e; exact ⟨_, _, _, e, fun w0 μ w e kn Q he hkn hr hK => hK μ e kn w (Ext.refl μ) he hkn hr⟩
  | exit i => intro pl re h k hs e; exact ⟨_, _, _, e, fun w0 μ w e kn Q he hkn hr hK => hK μ e kn w (Ext.refl μ) he hkn hr⟩
  | ret => intro pl re h k hs e; exact ⟨_, _, _, e, fun w0 μ w e kn Q he hkn hr hK => hK μ e kn w (Ext.refl μ) he hkn hr⟩
  | _ => intro pl re h k hs e; cases e
end
end Go.Ev
