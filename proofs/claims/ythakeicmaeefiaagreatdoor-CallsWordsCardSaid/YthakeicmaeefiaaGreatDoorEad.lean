/- Drawn regions. -/
import Derived.Test.YthakeicmaeefiaaGreatDoorEac
set_option linter.unusedVariables false
set_option linter.unusedSimpArgs false
namespace Go.Ev
open Go Go.Sh Go.RowKit

mutual
theorem beqV_eq : ∀ {a b : RV}, beqV a b = true → a = b
  | .any, b, h => by cases b <;> simp_all [beqV]
  | .skip, b, h => by cases b <;> simp_all [beqV]
  | .int k i, b, h => by cases b <;> simp_all [beqV]
  | .bool x, b, h => by cases b <;> simp_all [beqV]
  | .str s, b, h => by cases b <;> simp_all [beqV]
  | .nilp, b, h => by cases b <;> simp_all [beqV]
  | .ptr x o, b, h => by cases b <;> simp_all [beqV, Nat.beq_eq]
  | .nils, b, h => by cases b <;> simp_all [beqV]
  | .slice x o n c e, b, h => by cases b <;> simp_all [beqV, Nat.beq_eq]
  | .nilf, b, h => by cases b <;> simp_all [beqV]
  | .fn f a c, b, h => by
    cases b <;> simp only [beqV, Bool.and_eq_true, Bool.false_eq_true] at h
    obtain ⟨h1, h2, h3⟩ := h
    rw [Nat.eq_of_beq_eq_true h1, beqL_eq h2, beqL_eq h3]
  | .agg l, b, h => by
    cases b <;> simp only [beqV, Bool.false_eq_true] at h
    rw [beqL_eq h]
  | .tup l, b, h => by
    cases b <;> simp only [beqV, Bool.false_eq_true] at h
    rw [beqL_eq h]
theorem beqL_eq : ∀ {a b : List RV}, beqL a b = true → a = b
  | [], b, h => by cases b <;> simp_all [beqL]
  | x :: l, b, h => by
    cases b <;> simp only [beqL, Bool.and_eq_true, Bool.false_eq_true] at h
    rw [beqV_eq h.1, beqL_eq h.2]
end
theorem beqT_eq : ∀ {a b : T}, beqT a b = true → a = b
  | .e, b, h => by cases b <;> simp_all [beqT]
  | .n l x r, b, h => by
    cases b <;> simp only [beqT, Bool.and_eq_true, Bool.false_eq_true] at h
    rename_i l' y r'
    obtain ⟨h1, h2, h3⟩ := h
    rw [beqT_eq h1, beqT_eq h2]
    congr 1
    split at h3
    · rfl
    · simp only [Bool.and_eq_true] at h3
      rw [Nat.eq_of_beq_eq_true h3.1, beqL_eq h3.2]
    · simp only [Bool.and_eq_true, decide_eq_true_eq] at h3
      rw [Nat.eq_of_beq_eq_true h3.1, h3.2]
    · cases h3
theorem det1 {μ : Mu} {r : RV} {u v : Value} (h : det r = true) (h1 : VR μ r u) (h2 : VR μ r v) : u = v := by
  cases r <;> simp only [det, Bool.false_eq_true] at h <;> simp only [VR] at h1 h2
  case str s => rw [h1.2, h2.2]
  case ptr b o =>
    obtain ⟨B, x, e1, rfl⟩ := h1
    obtain ⟨B', x', e2, rfl⟩ := h2
    rw [e1] at e2; cases e2; rfl
  case slice b o n c ex =>
    obtain ⟨B, x, e1, rfl⟩ := h1
    obtain ⟨B', x', e2, rfl⟩ := h2
    rw [e1] at e2; cases e2; rfl
  all_goals rw [h1, h2]
theorem detL {μ : Mu} : ∀ {l : List RV} {u v : List Value}, l.all det = true → VRs μ l u → VRs μ l v → u = v
  | [], u, v, h, h1, h2 => by simp only [VRs] at h1 h2; rw [h1, h2]
  | r :: l, u, v, h, h1, h2 => by
    simp only [List.all_cons, Bool.and_eq_true] at h
    obtain ⟨a, us, rfl, a1, a2⟩ := h1.out
    obtain ⟨b, vs, rfl, b1, b2⟩ := h2.out
    rw [det1 h.1 a1 b1, detL h.2 a2 b2]
theorem detV_eq {μ : Mu} {r : RV} {u v : Value} (h : detV r = true) (h1 : VR μ r u) (h2 : VR μ r v) : u = v := by
  cases r
  case agg l =>
    simp only [VR] at h1 h2
    obtain ⟨us, rfl, a⟩ := h1
    obtain ⟨vs, rfl, b⟩ := h2
    rw [detL h a b]
  all_goals (simp only [detV] at h; exact det1 h h1 h2)

inductive PE (μ : Mu) : List Pe → List Pd → Prop
  | nil : PE μ [] []
  | cons {p : Pe} {q : Pd} {l : List Pe} {m : List Pd} (ho : q.op = p.op) (ht : q.t = p.t) (hx : VR μ p.x q.x) (hv : VR μ p.v q.v) (h : PE μ l m) : PE μ (p :: l) (q :: m)
theorem PE.ext {μ ν : Mu} (x : Ext μ ν) : ∀ {l : List Pe} {m : List Pd}, PE μ l m → PE ν l m
  | _, _, .nil => .nil
  | _, _, .cons a b c d e => .cons a b (c.ext x) (d.ext x) (e.ext x)
theorem PE.keep {μ : Mu} {ops : List Oper} {i : Nat} : ∀ {l : List Pe} {m : List Pd}, PE μ l m → PE μ (keepE ops i l) (keep ops i m)
  | _, _, .nil => .nil
  | _, _, .cons (p := p) (q := q) a b c d e => by
    unfold keepE Go.Sh.keep
    simp only [List.filter_cons, a]
    split
    · exact .cons a b c d e.keep
    · exact e.keep
section
variable {P : Program}
theorem still_ok {w0 w : World} {μ : Mu} {h : HP} (hh : HR w0 μ h w) {A : Prop} (ha : A) {l : List Pe} {m : List Pd} (hp : PE μ l m) : stillB P h l = true → Still P w m A := by
  induction hp with
  | nil => intro _; exact ha
  | @cons p q l m a b c d f ih =>
    intro e
    simp only [stillB, Bool.and_eq_true] at e
    obtain ⟨r, hr, hs⟩ := ldK_ok e.1
    simp only [Bool.and_eq_true] at hr
    have h1 := beqV_eq hr.1
    subst h1
    obtain ⟨v, h2, h3⟩ := hs w0 μ w q.x c hh
    have := detV_eq hr.2 h3 d
    subst this
    exact ⟨by rw [b]; exact h2, ih e.2⟩

def fcB (n : Nat) (k : Nat → Bool) : Bool := forceN n k
theorem fcB_eq (n : Nat) (k : Nat → Bool) : fcB n k = k n := forceN_eq n k
def dOK (ops : List Oper) : DP → Nat → Bool
  | .fin, lst => isNil (readyFrom ops 0 lst)
  | .take i d, lst => match ops[i]? with
    | none => false
    | some o => (isFloat o.op && readyB o lst i) && fcB (set1 lst i) fun lst => dOK ops d lst
  | .one i d, lst => isOne (readyFrom ops 0 lst) i && fcB (set1 lst i) fun lst => dOK ops d lst
  | .two i d j d', lst => isTwo (readyFrom ops 0 lst) i j && ((fcB (set1 lst i) fun lst => dOK ops d lst) && (fcB (set1 lst j) fun lst => dOK ops d' lst))
end
section
variable {P : Program}
theorem gdF_ok {ops : List Oper} {i : Nat} {o : Oper} {re : RE} {b : Bool} (hg : gd ops o re = some b) {μ : Mu} {e : Env} {kn : Nat} {w : World} {K : FT} (he : ER μ re e) (hkn : KN re kn)
    (ht : b = true → ∀ e' kn', ER μ re e' → KN re kn' → execF P i o e' kn' w K) (hf : b = false → ∀ e' kn', ER μ re e' → KN re kn' → K [] (e'.putO o.dst undef) (knPut kn' o.dst true)) : stepF P ops i o e kn w K := by
  unfold gd at hg
  unfold stepF
  split at hg
  · rename_i hgu
    rw [hgu]
    cases hg
    exact ht rfl e kn he hkn
  · rename_i j want hgu
    rw [hgu]
    simp only
    split at hg
    · cases hg
    · rename_i t htt
      simp only [htt]
      have hv := he t
      split at hg
      · rename_i c hc
        cases hg
        rw [hc] at hv
        simp only [VR] at hv
        have e1 : ER μ re (e.put t (.bool c)) := he.same hv
        have k1 : KN re (knSet kn t) := hkn.set t
        cases hk : isK kn t
        · simp only [cond_false]
          rw [hv]
          cases want <;> simp only [cond_false, cond_true] at ht hf ⊢ <;> cases c
          · exact IFB.ff (ht rfl _ _ e1 k1)
          · exact IFB.tt (hf rfl _ _ e1 k1)
          · exact IFB.ff (hf rfl _ _ e1 k1)
          · exact IFB.tt (ht rfl _ _ e1 k1)
        · simp only [cond_true]
          rw [hv]
          cases want <;> simp only [cond_false, cond_true] at ht hf ⊢ <;> cases c
          · exact ht rfl _ _ he hkn
          · exact hf rfl _ _ he hkn
          · exact hf rfl _ _ he hkn
          · exact ht rfl _ _ he hkn
      · rename_i hc
        cases hg
        rw [hc] at hv
        simp only [VR] at hv
        have hk := hkn t hc
        rw [hk]
        simp only [cond_true]
        rw [hv]
        exact hf rfl _ _ he hkn
      · cases hg
theorem evFloat_ok {ops : List Oper} {i : Nat} {o : Oper} {re : RE} {h : HP} {k : List Pe → RE → Bool} (hfl : isFloat o.op = true) (e : evFloat P ops i o re h k = true) : ∃ pe re', k pe re' = true ∧
    ∀ w0 μ w e kn (K : FT), ER μ re e → KN re kn → HR w0 μ h w → (∀ pd e' kn', PE μ pe pd → ER μ re' e' → KN re' kn' → K pd e' kn') → stepF P ops i o e kn w K := by
  unfold evFloat at e
  split at e
  · rename_i hg
    have gen : (match evP P o re with | some v => fV v fun v => nsk (fun v _ => k [] (re.putO o.dst v)) v h | none => false) = true →
        (∀ e kn w K, execF P i o e kn w K = FX P (opS e.ev o) fun v => K [] (e.putO o.dst v) (knPut kn o.dst false)) → ∃ pe re', k pe re' = true ∧
        ∀ w0 μ w e kn (K : FT), ER μ re e → KN re kn → HR w0 μ h w → (∀ pd e' kn', PE μ pe pd → ER μ re' e' → KN re' kn' → K pd e' kn') → stepF P ops i o e kn w K := by
      intro e1 hx
      split at e1
      · rename_i v hv
        rw [fV_eq] at e1
        obtain ⟨hne, hk⟩ := nsk_out e1
        refine ⟨_, _, hk, fun w0 μ w e kn K he hkn hr hK => gdF_ok hg he hkn (fun _ e' kn' he' hkn' => ?_) (fun hb => by cases hb)⟩
        rw [hx]
        obtain ⟨x, h1, h2⟩ := evP_ok (P := P) he' hv
        exact FX.pu h1 (hK _ _ _ .nil (he'.putO h2 _) (hkn'.putO (fun e => absurd e hne) _))
      · cases e1
    obtain ⟨dst, op, ty, pos, after, guard⟩ := o
    cases op <;> simp only at e
    case move x =>
      rw [fV_eq] at e
      exact ⟨_, _, e, fun w0 μ w e kn K he hkn hr hK => gdF_ok hg he hkn (fun _ e' kn' he' hkn' => hK _ _ _ .nil (he'.putO (he'.ev x) _) (hkn'.putO (fun e => ev_skip hkn' e) _)) (fun hb => by cases hb)⟩
    case assign x =>
      rw [fV_eq] at e
      exact ⟨_, _, e, fun w0 μ w e kn K he hkn hr hK => gdF_ok hg he hkn (fun _ e' kn' he' hkn' => hK _ _ _ .nil (he'.putO (he'.ev x) _) (hkn'.putO (fun e => ev_skip hkn' e) _)) (fun hb => by cases hb)⟩
    case pick c a b =>
      split at e
      · rename_i hc
        rw [fV_eq] at e
        obtain ⟨hne, hk⟩ := nsk_out e
        refine ⟨_, _, hk, fun w0 μ w e kn K he hkn hr hK => gdF_ok hg he hkn (fun _ e kn he hkn => ?_) (fun hb => by cases hb)⟩
        have hcv := he.ev c
        rw [hc] at hcv
        simp only [VR] at hcv
        simp only [execF]
        cases ho : opdK kn c
        · simp only [cond_false, hcv]
          exact FX.pu pu_pick (hK _ _ _ .nil (he.putO (he.ev a) _) (hkn.putO (fun e => absurd e hne) _))
        · simp only [cond_true, hcv]
          exact hK _ _ _ .nil (he.putO (he.ev a) _) (hkn.putO (fun e => absurd e hne) _)
      · rename_i hc
        rw [fV_eq] at e
        obtain ⟨hne, hk⟩ := nsk_out e
        refine ⟨_, _, hk, fun w0 μ w e kn K he hkn hr hK => gdF_ok hg he hkn (fun _ e kn he hkn => ?_) (fun hb => by cases hb)⟩
        have hcv := he.ev c
        rw [hc] at hcv
        simp only [VR] at hcv
        simp only [execF]
        cases ho : opdK kn c
        · simp only [cond_false, hcv]
          exact FX.pu pu_pick (hK _ _ _ .nil (he.putO (he.ev b) _) (hkn.putO (fun e => absurd e hne) _))
        · simp only [cond_true, hcv]
          exact hK _ _ _ .nil (he.putO (he.ev b) _) (hkn.putO (fun e => absurd e hne) _)
      · cases e
    case load t x =>
      obtain ⟨r, hk, hh⟩ := ldK_ok e
      obtain ⟨hne, hk⟩ := nsk_out hk
      refine ⟨_, _, hk, fun w0 μ w e kn K he hkn hr hK => gdF_ok hg he hkn (fun _ e kn he hkn => ?_) (fun hb => by cases hb)⟩
      obtain ⟨v, h1, h2⟩ := hh w0 μ w _ (he.ev x) hr
      exact LX.rd h1 (hK _ _ _ (.cons rfl rfl (he.ev x) h2 .nil) (he.putO h2 _) (hkn.putO (fun e => absurd e hne) _))
    all_goals exact gen e fun _ _ _ _ => by simp only [execF, hfl, cond_true]
  · rename_i hg
    exact ⟨_, _, e, fun w0 μ w e kn K he hkn hr hK => gdF_ok hg he hkn (fun hb => by cases hb) (fun _ e' kn' he' hkn' => hK _ _ _ .nil (he'.putO (by simp [VR]) _) (hkn'.putO (fun _ => rfl) _))⟩
  · cases e

theorem PE.append {μ : Mu} : ∀ {a : List Pe} {b : List Pd} {c : List Pe} {d : List Pd}, PE μ a b → PE μ c d → PE μ (a ++ c) (b ++ d)
  | _, _, _, _, .nil, h => h
  | _, _, _, _, .cons a b c d e, h => .cons a b c d (e.append h)
theorem evD_ok {rec : Rec} (hrec : RecOK P rec) {ops : List Oper} : ∀ {d : DP} {lst : Nat} {pend : List Pe} {re : RE} {h : HP} {k : RE → HP → Bool}, dOK ops d lst = true → evD P rec ops d pend re h k = true → ∃ re' h', k re' h' = true ∧
    ∀ w0 μ w e kn pd (K : KT), ER μ re e → KN re kn → HR w0 μ h w → PE μ pend pd → (∀ ν e' kn' w', Ext μ ν → ER ν re' e' → KN re' kn' → HR w0 ν h' w' → K e' kn' w') → shD P ops d lst pd e kn w K
  | .fin, lst, pend, re, h, k, hd, e => ⟨re, h, e, fun w0 μ w e kn pd K he hkn hr hp hK => by
      unfold shD
      simp only [dOK] at hd
      rw [hd]
      exact hK μ e kn w (Ext.refl μ) he hkn hr⟩
  | .take i d, lst, pend, re, h, k, hd, e => by
    simp only [dOK] at hd
    simp only [evD] at e
    cases ho : ops[i]? with
    | none => rw [ho] at e; cases e
    | some o =>
      rw [ho] at hd e
      simp only [Bool.and_eq_true, fcB_eq] at hd
      obtain ⟨pe, re1, hk1, hh1⟩ := evFloat_ok hd.1.1 e
      obtain ⟨re2, h2, hk2, hh2⟩ := evD_ok hrec hd.2 hk1
      refine ⟨re2, h2, hk2, fun w0 μ w e kn pd K he hkn hr hp hK => ?_⟩
      unfold shD
      simp only [ho, hd.1.1, hd.1.2, Bool.and_self, cond_true]
      refine hh1 w0 μ w e kn _ he hkn hr fun pd' e' kn' hp' he' hkn' => ?_
      rw [forceN_eq, forceN_eq]
      exact hh2 w0 μ w e' kn' _ K he' hkn' hr (hp'.append hp) hK
  | .one i d, lst, pend, re, h, k, hd, e => by
    simp only [dOK] at hd
    simp only [evD] at e
    cases ho : ops[i]? with
    | none => rw [ho] at e; cases e
    | some o =>
      rw [ho] at e
      simp only [Bool.and_eq_true, fcB_eq] at hd
      obtain ⟨re1, h1, hk1, hh1⟩ := evStep_ok hrec e
      obtain ⟨hst, hk1⟩ := cond_true_of hk1
      obtain ⟨re2, h2, hk2, hh2⟩ := evD_ok hrec hd.2 hk1
      refine ⟨re2, h2, hk2, fun w0 μ w e kn pd K he hkn hr hp hK => ?_⟩
      unfold shD
      simp only [ho, hd.1, cond_true]
      refine hh1 w0 μ w e kn _ he hkn hr fun ν e' kn' w' x he' hkn' hr' => ?_
      refine still_ok hr' ?_ (hp.ext x).keep hst
      rw [forceN_eq, forceN_eq]
      exact hh2 w0 ν w' e' kn' _ K he' hkn' hr' (hp.ext x).keep fun ξ e2 kn2 w2 y he2 hkn2 hr2 => hK ξ e2 kn2 w2 (x.trans y) he2 hkn2 hr2
  | .two i d j d', lst, pend, re, h, k, hd, e => by
    simp only [dOK] at hd
    simp only [evD] at e
    cases ho : ops[i]? with
    | none => rw [ho] at e; cases e
    | some o =>
      cases ho' : ops[j]? with
      | none => rw [ho, ho'] at e; cases e
      | some o' =>
        rw [ho, ho'] at e
        simp only [Bool.and_eq_true, fcB_eq] at hd
        obtain ⟨re1, h1, hk1, hh1⟩ := evStep_ok hrec e
        obtain ⟨hst1, hk1⟩ := cond_true_of hk1
        obtain ⟨re2, h2, hk2, hh2⟩ := evD_ok hrec hd.2.1 hk1
        obtain ⟨re3, h3, hk3, hh3⟩ := evStep_ok hrec hk2
        obtain ⟨hst3, hk3⟩ := cond_true_of hk3
        obtain ⟨re4, h4, hk4, hh4⟩ := evD_ok hrec hd.2.2 hk3
        obtain ⟨hsame, hk5⟩ := cond_true_of hk4
        simp only [Bool.and_eq_true] at hsame
        obtain ⟨hs1, hs2, hs3, hs4⟩ := hsame
        have hT := beqT_eq hs2
        have hget : ∀ i, re2.get i = .any ∨ re2.get i = re4.get i := by
          intro i
          by_cases hm : ∃ p ∈ re2, p.1 = i
          · obtain ⟨p, hp, rfl⟩ := hm
            right
            exact beqV_eq (List.all_eq_true.1 hs1 p hp)
          · left
            have : ∀ (l : RE), (∀ p ∈ l, p.1 ≠ i) → RE.get l i = .any := by
              intro l
              induction l with
              | nil => intro _; rfl
              | cons p l ih =>
                intro hl
                obtain ⟨a, b⟩ := p
                simp only [RE.get]
                have h0 : Nat.beq i a = false := by
                  cases hb : Nat.beq i a
                  · rfl
                  · exact absurd (Nat.eq_of_beq_eq_true hb).symm (hl (a, b) (by simp))
                rw [h0]
                exact ih fun q hq => hl q (by simp [hq])
            exact this re2 fun p hp hpi => hm ⟨p, hp, hpi⟩
        refine ⟨re2, h2, hk5, fun w0 μ w e kn pd K he hkn hr hp hK => ?_⟩
        unfold shD
        simp only [ho, ho', hd.1, cond_true]
        refine ⟨?_, ?_⟩
        · refine hh1 w0 μ w e kn _ he hkn hr fun ν e' kn' w' x he' hkn' hr' => ?_
          refine still_ok hr' ?_ (hp.ext x).keep hst1
          rw [forceN_eq, forceN_eq]
          exact hh2 w0 ν w' e' kn' _ K he' hkn' hr' (hp.ext x).keep fun ξ e2 kn2 w2 y he2 hkn2 hr2 => hK ξ e2 kn2 w2 (x.trans y) he2 hkn2 hr2
        · refine hh3 w0 μ w e kn _ he hkn (hr.same rfl) fun ν e' kn' w' x he' hkn' hr' => ?_
          refine still_ok hr' ?_ (hp.ext x).keep hst3
          rw [forceN_eq, forceN_eq]
          refine hh4 w0 ν w' e' kn' _ K he' hkn' hr' (hp.ext x).keep fun ξ e2 kn2 w2 y he2 hkn2 hr2 => hK ξ e2 kn2 w2 (x.trans y) (fun i => ?_) (fun i hi => ?_) (hr2.same hT)
          · rcases hget i with h0 | h0
            · rw [h0]; exact VR.any _
            · rw [h0]; exact he2 i
          · rcases hget i with h0 | h0
            · rw [h0] at hi; cases hi
            · rw [h0] at hi; exact hkn2 i hi
end
end Go.Ev
