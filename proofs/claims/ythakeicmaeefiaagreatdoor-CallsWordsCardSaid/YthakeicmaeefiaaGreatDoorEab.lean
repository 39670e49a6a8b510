/- All operations. -/
import Derived.Test.YthakeicmaeefiaaGreatDoorEaa
set_option linter.unusedVariables false
set_option linter.unusedSimpArgs false
namespace Go.Ev
open Go Go.Sh Go.RowKit
section
variable {P : Program}

/-- What a call comes to. -/
def RecOK (P : Program) (rec : Rec) : Prop := ∀ f as h k, rec f as h k = true → ∃ r h', k r h' = true ∧
  ∀ w0 μ w vs (K : Value → World → Prop), VRs μ as vs → HR w0 μ h w → (∀ ν v w', Ext μ ν → VR ν r v → HR w0 ν h' w' → K v w') → NX P (callFunc f (List.toArray vs)) w K

/-- What an operation comes to. -/
def OpOK (P : Program) (oo : Oper) (re : RE) (h : HP) (k : RV → HP → Bool) : Prop := ∃ r h', k r h' = true ∧
  ∀ w0 μ w e (K : Value → World → Prop), ER μ re e → HR w0 μ h w → (∀ ν v w', Ext μ ν → VR ν r v → HR w0 ν h' w' → K v w') → NX P (opS e.ev oo) w K
theorem pureOK {oo : Oper} {re : RE} {h : HP} {k : RV → HP → Bool} (e : (match evP P oo re with | some v => fV v fun v => k v h | none => false) = true) : OpOK P oo re h k := by
  split at e
  · rename_i v hv
    rw [fV_eq] at e
    refine ⟨v, h, e, fun w0 μ w e K he hh hK => ?_⟩
    obtain ⟨x, h1, h2⟩ := evP_ok (P := P) he hv
    exact NX.pu h1 (hK μ x w (Ext.refl μ) h2 hh)
  · cases e
theorem cond_true_of {b x : Bool} (h : (bif b then x else false) = true) : b = true ∧ x = true := by
  cases b
  · cases h
  · exact ⟨rfl, h⟩
theorem nilCall {f : FuncId} {first caps args : List Value} {w : World} {K : Value → World → Prop} (h : NX P (callFunc f (first ++ args ++ caps).toArray) w K) : NX P (oCall (.func (.func f) first.toArray caps.toArray) args) w K := by
  have : (oCall (.func (.func f) first.toArray caps.toArray) args).run P w = (callFunc f (first ++ args ++ caps).toArray).run P w := by
    simp [oCall, Deferred.ofValue, invoke]
  refine ⟨?_⟩
  have h := h.out
  unfold nx at h ⊢
  rw [this]
  exact h
theorem evO_ok {rec : Rec} (hrec : RecOK P rec) {oo : Oper} {re : RE} {h : HP} {k : RV → HP → Bool} (e : evO P rec oo re h k = true) : OpOK P oo re h k := by
  obtain ⟨dst, op, ty, pos, after, guard⟩ := oo
  unfold evO at e
  cases op <;> simp only at e
  all_goals try (exact pureOK e)
  case alloc t =>
    obtain ⟨hok, e⟩ := cond_true_of e
    obtain ⟨b, h', hk, hh⟩ := alloc_ok hok e
    exact ⟨_, _, hk, fun w0 μ w e K he hr hK => hh w0 μ w K hr hK⟩
  case box t x =>
    obtain ⟨hok, e⟩ := cond_true_of e
    obtain ⟨b, h', hk, hh⟩ := box_ok (P := P) hok e
    exact ⟨_, _, hk, fun w0 μ w e K he hr hK => hh w0 μ w _ K (he.ev x) hr hK⟩
  case load t x =>
    obtain ⟨r, hk, hh⟩ := ldK_ok e
    refine ⟨_, _, hk, fun w0 μ w e K he hr hK => ?_⟩
    obtain ⟨v, h1, h2⟩ := hh w0 μ w _ (he.ev x) hr
    exact NX.rd h1 (hK μ v w (Ext.refl μ) h2 hr)
  case store t a x =>
    split at e
    · rename_i b o hb
      split at e
      · rename_i cs u hcs
        obtain ⟨hc, e⟩ := cond_true_of e
        obtain ⟨h', hk, hh⟩ := store_ok (P := P) hcs hc e
        exact ⟨_, _, hk, fun w0 μ w e K he hr hK => hh w0 μ w _ _ K (by rw [← hb]; exact he.ev a) (he.ev x) hr fun w' hr' => hK μ _ w' (Ext.refl μ) (VR.any _) hr'⟩
      · cases e
    · cases e
  case buildSlice t n ps =>
    split at e
    · rename_i el hel
      split at e
      · rename_i z hz
        split at e
        · rename_i cs hcs
          obtain ⟨hc, e⟩ := cond_true_of e
          obtain ⟨b, h', hk, hh⟩ := buildSlice_ok (P := P) hel hz hcs hc e
          exact ⟨_, _, hk, fun w0 μ w e K he hr hK => hh w0 μ w _ K (PR.map he _) hr hK⟩
        · cases e
      · cases e
    · cases e
  case makeSlice t l c =>
    split at e
    · rename_i el l' c' hel hl hc
      split at e
      · rename_i z hz
        obtain ⟨hc', e⟩ := cond_true_of e
        obtain ⟨b, h', hk, hh⟩ := makeSlice_ok (P := P) hel hz hc' e
        refine ⟨_, _, hk, fun w0 μ w e K he hr hK => ?_⟩
        obtain ⟨k1, h1⟩ := natOf_ok hl (he.ev l)
        obtain ⟨k2, h2⟩ := natOf_ok hc (he.ev c)
        simp only [opS, h1, h2]
        exact hh w0 μ w k1 k2 K hr hK
      · cases e
    · cases e
  case convert src dst x =>
    split at e
    · rename_i b q n c ex hx
      cases h1 : (u8T P dst && Nat.beq src dst)
      · rw [h1] at e
        simp only [cond_false] at e
        obtain ⟨h2, e⟩ := cond_true_of e
        simp only [Bool.and_eq_true] at h2
        split at e
        · rename_i cs u hcs
          split at e
          · rename_i l hl
            obtain ⟨h3, e⟩ := cond_true_of e
            rw [fNats_eq] at e
            exact ⟨_, _, e, fun w0 μ w e K he hr hK => toStr_ok h2.1 h2.2 hcs hl h3 (by rw [← hx]; exact he.ev x) hr fun v hv => hK μ v w (Ext.refl μ) hv hr⟩
          · cases e
        · cases e
      · rw [h1] at e
        simp only [cond_true] at e
        simp only [Bool.and_eq_true] at h1
        have h2 := Nat.eq_of_beq_eq_true h1.2
        subst h2
        split at e
        · rename_i cs u hcs
          exact ⟨_, _, e, fun w0 μ w e K he hr hK => convSame_ok (P := P) h1.1 hcs (by rw [← hx]; exact he.ev x) hr fun w' hr' => hK μ _ w' (Ext.refl μ) (by rw [← hx]; exact he.ev x) hr'⟩
        · cases e
    · rename_i s hx
      cases h1 : (u8T P dst && strT P src)
      · rw [h1] at e
        exact pureOK e
      · rw [h1] at e
        simp only [Bool.and_eq_true] at h1
        simp only [cond_true] at e
        split at e
        · rename_i el hel
          obtain ⟨b, h', hk, hh⟩ := ofStr_ok (P := P) h1.1 h1.2 hel e
          exact ⟨_, _, hk, fun w0 μ w e K he hr hK => hh w0 μ w _ K (by rw [← hx]; exact he.ev x) hr hK⟩
        · cases e
    · exact pureOK e
  case range t x =>
    split at e
    · rename_i s hx hu
      obtain ⟨b, h', hk, hh⟩ := range_ok (P := P) hu e
      exact ⟨_, _, hk, fun w0 μ w e K he hr hK => hh w0 μ w _ K (by rw [← hx]; exact he.ev x) hr hK⟩
    · cases e
  case next x str =>
    cases str
    · exact pureOK e
    · simp only at e
      split at e
      · rename_i b hx
        split at e
        · rename_i s p hb
          split at e
          · rename_i c hc
            obtain ⟨hlt, e⟩ := cond_true_of e
            rw [Nat.blt_eq] at hlt
            obtain ⟨h', hk, hh⟩ := next_ok (P := P) (k := fun h => k (.tup [.bool true, .int .i64 p, .int .i32 c]) h) hb hc hlt e
            exact ⟨_, _, hk, fun w0 μ w e K he hr hK => hh w0 μ w _ ty K (by rw [← hx]; exact he.ev x) hr fun v w' hv hr' => hK μ v w' (Ext.refl μ) hv hr'⟩
          · rename_i hc
            exact ⟨_, _, e, fun w0 μ w e K he hr hK => nextEnd_ok (P := P) hb hc (by rw [← hx]; exact he.ev x) hr fun v hv => hK μ v w (Ext.refl μ) hv hr⟩
        · cases e
      · cases e
  case call c =>
    obtain ⟨callee, args, ats⟩ := c
    cases callee <;> simp only at e
    case value f =>
      split at e
      · rename_i f' first caps hf
        rw [fVs_eq] at e
        obtain ⟨r, h', hk, hh⟩ := hrec _ _ _ _ e
        refine ⟨r, h', hk, fun w0 μ w e K he hr hK => ?_⟩
        have hfv := he.ev f
        rw [hf] at hfv
        simp only [VR] at hfv
        obtain ⟨vs, ws, hv, g1, g2⟩ := hfv
        simp only [opS, hv]
        exact nilCall (hh w0 μ w _ K ((g1.append (he.evs args.toList)).append g2) hr hK)
      · cases e
    case builtin b =>
      cases b <;> simp only at e
      case append =>
        split at e
        · rename_i el s x hel hargs
          obtain ⟨t, ht, hel⟩ := Option.bind_eq_some_iff.1 hel
          split at e
          · rename_i n m hn hm
            obtain ⟨hc, e⟩ := cond_true_of e
            simp only [Bool.and_eq_true] at hc
            obtain ⟨r, h', hk, hh⟩ := append_ok (P := P) ht hel hc.1 hc.2 hn hm e
            refine ⟨r, h', hk, fun w0 μ w e K he hr hK => ?_⟩
            have ha := he.evs args.toList
            rw [hargs] at ha
            obtain ⟨v, us, hv, a1, a2⟩ := ha.out
            obtain ⟨v2, us2, rfl, a3, a4⟩ := a2.out
            simp only [VRs] at a4
            subst a4
            simp only [opS, hv]
            exact hh w0 μ w v v2 _ _ K a1 a3 hr hK
          · cases e
        · cases e
      case copy =>
        split at e
        · rename_i el s x hel hargs
          obtain ⟨t, ht, hel⟩ := Option.bind_eq_some_iff.1 hel
          split at e
          · rename_i n m hn hm
            obtain ⟨r, h', hk, hh⟩ := copy_ok (P := P) ht hel hn hm e
            refine ⟨r, h', hk, fun w0 μ w e K he hr hK => ?_⟩
            have ha := he.evs args.toList
            rw [hargs] at ha
            obtain ⟨v, us, hv, a1, a2⟩ := ha.out
            obtain ⟨v2, us2, rfl, a3, a4⟩ := a2.out
            simp only [VRs] at a4
            subst a4
            simp only [opS, hv]
            exact hh w0 μ w v v2 _ _ K a1 a3 hr hK
          · cases e
        · cases e
      case clear =>
        split at e
        · rename_i el hel hargs
          obtain ⟨t, ht, hel⟩ := Option.bind_eq_some_iff.1 hel
          refine ⟨_, _, e, fun w0 μ w e K he hr hK => ?_⟩
          have ha := he.evs args.toList
          rw [hargs] at ha
          obtain ⟨v, us, hv, a1, a2⟩ := ha.out
          simp only [VRs] at a2
          subst a2
          simp only [VR] at a1
          subst a1
          simp only [opS, hv]
          exact clearNil_ok (P := P) ht hel fun v => hK μ v w (Ext.refl μ) (VR.any _) hr
        · rename_i el b q n c ex hel hargs
          obtain ⟨t, ht, hel⟩ := Option.bind_eq_some_iff.1 hel
          split at e
          · rename_i bs u zs hb hz
            obtain ⟨hc, e⟩ := cond_true_of e
            obtain ⟨h', hk, hh⟩ := clear_ok (P := P) (c := c) (ex := ex) ht hel hb hz hc e
            refine ⟨_, _, hk, fun w0 μ w e K he hr hK => ?_⟩
            have ha := he.evs args.toList
            rw [hargs] at ha
            obtain ⟨v, us, hv, a1, a2⟩ := ha.out
            simp only [VRs] at a2
            subst a2
            simp only [opS, hv]
            exact hh w0 μ w v _ _ K a1 hr fun v w' hr' => hK μ v w' (Ext.refl μ) (VR.any _) hr'
          · cases e
        · cases e
      all_goals exact pureOK e
    case invoke r m => exact pureOK e
end
end Go.Ev
