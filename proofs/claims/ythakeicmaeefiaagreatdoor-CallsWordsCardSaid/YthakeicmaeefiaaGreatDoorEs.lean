/- What the evaluator comes to, a call does, in every world. -/
import Derived.Test.YthakeicmaeefiaaGreatDoorEv
set_option linter.unusedVariables false
set_option linter.unusedSimpArgs false
namespace Go.Ev
open Go Go.Sh Go.RowKit

/-- Where the evaluator's blocks lie, and how much more room there is than it knows. -/
abbrev Mu := Nat → Option (Nat × Nat)
def Ext (μ ν : Mu) : Prop := ∀ b x, μ b = some x → ν b = some x
theorem Ext.refl (μ : Mu) : Ext μ μ := fun _ _ h => h
theorem Ext.trans {μ ν ξ : Mu} (h : Ext μ ν) (k : Ext ν ξ) : Ext μ ξ := fun b x e => k b x (h b x e)

mutual
def VR (μ : Mu) : RV → Value → Prop
  | .any, _ => True
  | .skip, v => v = undef
  | .int k i, v => v = .int k i
  | .bool b, v => v = .bool b
  | .str s, v => (∀ c ∈ s, c < 256) ∧ v = .string (bs (s.map UInt8.ofNat))
  | .nilp, v => v = .pointer none
  | .ptr b o, v => ∃ B x, μ b = some (B, x) ∧ v = .pointer (some ⟨B, o, none⟩)
  | .nils, v => v = .slice none 0 0
  | .slice b o n c ex, v => ∃ B x, μ b = some (B, x) ∧ v = .slice (some ⟨B, o, none⟩) n (c + bif ex then 0 else x)
  | .nilf, v => v = .nilFunc
  | .fn f a c, v => ∃ vs ws, v = .func (.func f) (List.toArray vs) (List.toArray ws) ∧ VRs μ a vs ∧ VRs μ c ws
  | .agg l, v => ∃ vs, v = .agg (List.toArray vs) ∧ VRs μ l vs
  | .tup l, v => ∃ vs, v = .tuple (List.toArray vs) ∧ VRs μ l vs
def VRs (μ : Mu) : List RV → List Value → Prop
  | [], vs => vs = []
  | r :: l, vs => ∃ v us, vs = v :: us ∧ VR μ r v ∧ VRs μ l us
end

mutual
theorem VR.ext {μ ν : Mu} (h : Ext μ ν) : ∀ (r : RV) (v : Value), VR μ r v → VR ν r v
  | .any, _, _ => by simp [VR]
  | .skip, v, k => by simpa [VR] using k
  | .int _ _, v, k => by simpa [VR] using k
  | .bool _, v, k => by simpa [VR] using k
  | .str _, v, k => by simpa [VR] using k
  | .nilp, v, k => by simpa [VR] using k
  | .ptr b o, v, k => by
    simp only [VR] at k ⊢
    obtain ⟨B, x, h1, h2⟩ := k
    exact ⟨B, x, h _ _ h1, h2⟩
  | .nils, v, k => by simpa [VR] using k
  | .slice b o n c ex, v, k => by
    simp only [VR] at k ⊢
    obtain ⟨B, x, h1, h2⟩ := k
    exact ⟨B, x, h _ _ h1, h2⟩
  | .nilf, v, k => by simpa [VR] using k
  | .fn f a c, v, k => by
    simp only [VR] at k ⊢
    obtain ⟨vs, ws, h1, h2, h3⟩ := k
    exact ⟨vs, ws, h1, VRs.ext h a vs h2, VRs.ext h c ws h3⟩
  | .agg l, v, k => by
    simp only [VR] at k ⊢
    obtain ⟨vs, h1, h2⟩ := k
    exact ⟨vs, h1, VRs.ext h l vs h2⟩
  | .tup l, v, k => by
    simp only [VR] at k ⊢
    obtain ⟨vs, h1, h2⟩ := k
    exact ⟨vs, h1, VRs.ext h l vs h2⟩
theorem VRs.ext {μ ν : Mu} (h : Ext μ ν) : ∀ (r : List RV) (v : List Value), VRs μ r v → VRs ν r v
  | [], vs, k => by simpa [VRs] using k
  | r :: l, vs, k => by
    simp only [VRs] at k ⊢
    obtain ⟨v, us, h1, h2, h3⟩ := k
    exact ⟨v, us, h1, VR.ext h r v h2, VRs.ext h l us h3⟩
end

theorem VRs.cons {μ : Mu} {r : RV} {l : List RV} {v : Value} {vs : List Value} (h : VR μ r v) (k : VRs μ l vs) : VRs μ (r :: l) (v :: vs) := by
  simp only [VRs]; exact ⟨v, vs, rfl, h, k⟩
theorem VRs.nil {μ : Mu} : VRs μ [] [] := by simp [VRs]
theorem VRs.out {μ : Mu} {r : RV} {l : List RV} {vs : List Value} (h : VRs μ (r :: l) vs) : ∃ v us, vs = v :: us ∧ VR μ r v ∧ VRs μ l us := by simpa only [VRs] using h
theorem VRs.length {μ : Mu} : ∀ {l : List RV} {vs : List Value}, VRs μ l vs → vs.length = l.length
  | [], vs, h => by simp only [VRs] at h; subst h; rfl
  | r :: l, vs, h => by
    obtain ⟨v, us, rfl, _, h2⟩ := h.out
    simp [VRs.length h2]
theorem VRs.append {μ : Mu} : ∀ {l m : List RV} {vs us : List Value}, VRs μ l vs → VRs μ m us → VRs μ (l ++ m) (vs ++ us)
  | [], m, vs, us, h, k => by simp only [VRs] at h; subst h; exact k
  | r :: l, m, vs, us, h, k => by
    obtain ⟨v, ws, rfl, h1, h2⟩ := h.out
    exact VRs.cons h1 (VRs.append h2 k)
theorem VRs.get {μ : Mu} : ∀ {l : List RV} {vs : List Value} {i : Nat} {r : RV}, VRs μ l vs → l[i]? = some r → ∃ v, vs[i]? = some v ∧ VR μ r v
  | [], vs, i, r, h, k => by simp at k
  | a :: l, vs, i, r, h, k => by
    obtain ⟨v, ws, rfl, h1, h2⟩ := h.out
    cases i with
    | zero => simp at k; subst k; exact ⟨v, by simp, h1⟩
    | succ i => simp at k; obtain ⟨u, hu, hr⟩ := VRs.get h2 k; exact ⟨u, by simpa using hu, hr⟩
theorem VRs.take {μ : Mu} : ∀ {l : List RV} {vs : List Value} (n : Nat), VRs μ l vs → VRs μ (l.take n) (vs.take n)
  | l, vs, 0, h => by simp [VRs]
  | [], vs, n + 1, h => by simp only [VRs] at h; subst h; simp [VRs]
  | a :: l, vs, n + 1, h => by
    obtain ⟨v, ws, rfl, h1, h2⟩ := h.out
    exact VRs.cons h1 (VRs.take n h2)
theorem VRs.drop {μ : Mu} : ∀ {l : List RV} {vs : List Value} (n : Nat), VRs μ l vs → VRs μ (l.drop n) (vs.drop n)
  | l, vs, 0, h => h
  | [], vs, n + 1, h => by simp only [VRs] at h; subst h; simp [VRs]
  | a :: l, vs, n + 1, h => by
    obtain ⟨v, ws, rfl, h1, h2⟩ := h.out
    exact VRs.drop n h2
theorem VRs.map {μ : Mu} {α : Type} {f : α → RV} {g : α → Value} : ∀ {l : List α}, (∀ x ∈ l, VR μ (f x) (g x)) → VRs μ (l.map f) (l.map g)
  | [], _ => VRs.nil
  | a :: l, h => VRs.cons (h a (by simp)) (VRs.map fun x hx => h x (by simp [hx]))
theorem VRs.flatRep {μ : Mu} {l : List RV} {vs : List Value} (h : VRs μ l vs) : ∀ n, VRs μ (List.replicate n l).flatten (List.replicate n vs).flatten
  | 0 => by simp [VRs]
  | n + 1 => by simp only [List.replicate_succ, List.flatten_cons]; exact h.append (VRs.flatRep h n)

/-! ### Forcing turns nothing -/
theorem fInt_eq (i : Int) (k : Int → Bool) : fInt i k = k i := by cases i <;> simp [fInt, forceN_eq]
theorem fNats_eq : ∀ (l : List Nat) (k : List Nat → Bool), fNats l k = k l
  | [], k => rfl
  | a :: l, k => by simp [fNats, forceN_eq, fNats_eq l]
theorem fKind_eq (d : IntKind) (k : IntKind → Bool) : fKind d k = k d := by cases d <;> rfl
theorem fBool_eq (b : Bool) (k : Bool → Bool) : fBool b k = k b := by cases b <;> rfl
theorem f1_eq (v : RV) (k : RV → Bool) : f1 v k = k v := by cases v <;> simp [f1, fInt_eq, fKind_eq, fBool_eq, fNats_eq, forceN_eq]
theorem fL_eq : ∀ (l : List RV) (k : List RV → Bool), fL l k = k l
  | [], k => rfl
  | a :: l, k => by simp [fL, f1_eq, fL_eq l]
theorem fV_eq (v : RV) (k : RV → Bool) : fV v k = k v := by
  unfold fV
  split
  · simp [fL_eq]
  · rfl
  · split <;> simp [fL_eq, f1_eq]
  · simp [forceN_eq, fL_eq]
  · exact f1_eq _ _
theorem fVs_eq : ∀ (l : List RV) (k : List RV → Bool), fVs l k = k l
  | [], k => rfl
  | a :: l, k => by simp [fVs, fV_eq, fVs_eq l]
theorem fRE_eq : ∀ (l : RE) (k : RE → Bool), fRE l k = k l
  | [], k => rfl
  | (i, a) :: l, k => by simp [fRE, fV_eq, forceN_eq, fRE_eq l]

/-! ### The tree -/
theorem T.put_spec : ∀ (f : Nat) (t : T) (i : Nat) (v : Blk) (k : T → Bool), t.put f i v k = true → ∃ t', k t' = true ∧ t'.get f i = some v ∧ ∀ j, j ≠ i → t'.get f j = t.get f j
  | 0, t, i, v, k, h => by cases t <;> simp [T.put] at h
  | f + 1, .e, i, v, k, h => by
    simp only [T.put, forceN_eq] at h
    by_cases h0 : i = 0
    · subst h0
      simp at h
      refine ⟨_, h, by simp [T.get], fun j hj => ?_⟩
      simp only [T.get]
      cases hb : Nat.beq j 0
      · cases (j % 2).beq 0 <;> cases f <;> simp [T.get]
      · exact absurd (Nat.eq_of_beq_eq_true hb) hj
    · have hb : Nat.beq i 0 = false := by cases hh : Nat.beq i 0; rfl; exact absurd (Nat.eq_of_beq_eq_true hh) h0
      rw [hb] at h
      simp only [cond_false] at h
      cases h2 : Nat.beq (i % 2) 0
      · rw [h2] at h
        simp only [cond_false] at h
        obtain ⟨t', hk, hg, ho⟩ := T.put_spec f .e _ v _ h
        refine ⟨_, hk, by simp [T.get, hb, h2, hg], fun j hj => ?_⟩
        simp only [T.get]
        cases hj0 : Nat.beq j 0
        · cases hj2 : Nat.beq (j % 2) 0
          · simp only [cond_false]
            have e1 : i % 2 ≠ 0 := fun e => by rw [e] at h2; cases h2
            have e2 : j % 2 ≠ 0 := fun e => by rw [e] at hj2; cases hj2
            rw [ho (j / 2) (by omega)]
            cases f <;> rfl
          · cases f <;> simp [T.get]
        · simp
      · rw [h2] at h
        simp only [cond_true] at h
        obtain ⟨t', hk, hg, ho⟩ := T.put_spec f .e _ v _ h
        refine ⟨_, hk, by simp [T.get, hb, h2, hg], fun j hj => ?_⟩
        simp only [T.get]
        cases hj0 : Nat.beq j 0
        · have n0 : j ≠ 0 := fun e => by rw [e] at hj0; cases hj0
          cases hj2 : Nat.beq (j % 2) 0
          · cases f <;> simp [T.get]
          · simp only [cond_false, cond_true]
            have e1 : i % 2 = 0 := Nat.eq_of_beq_eq_true h2
            have e2 : j % 2 = 0 := Nat.eq_of_beq_eq_true hj2
            rw [ho (j / 2 - 1) (by omega)]
            cases f <;> rfl
        · simp
  | f + 1, .n l x r, i, v, k, h => by
    simp only [T.put, forceN_eq] at h
    by_cases h0 : i = 0
    · subst h0
      simp at h
      refine ⟨_, h, by simp [T.get], fun j hj => ?_⟩
      simp only [T.get]
      cases hb : Nat.beq j 0
      · rfl
      · exact absurd (Nat.eq_of_beq_eq_true hb) hj
    · have hb : Nat.beq i 0 = false := by cases hh : Nat.beq i 0; rfl; exact absurd (Nat.eq_of_beq_eq_true hh) h0
      rw [hb] at h
      simp only [cond_false] at h
      cases h2 : Nat.beq (i % 2) 0
      · rw [h2] at h
        simp only [cond_false] at h
        obtain ⟨t', hk, hg, ho⟩ := T.put_spec f r _ v _ h
        refine ⟨_, hk, by simp [T.get, hb, h2, hg], fun j hj => ?_⟩
        simp only [T.get]
        cases hj0 : Nat.beq j 0
        · cases hj2 : Nat.beq (j % 2) 0
          · simp only [cond_false]
            have e1 : i % 2 ≠ 0 := fun e => by rw [e] at h2; cases h2
            have e2 : j % 2 ≠ 0 := fun e => by rw [e] at hj2; cases hj2
            rw [ho (j / 2) (by omega)]
          · simp
        · simp
      · rw [h2] at h
        simp only [cond_true] at h
        obtain ⟨t', hk, hg, ho⟩ := T.put_spec f l _ v _ h
        refine ⟨_, hk, by simp [T.get, hb, h2, hg], fun j hj => ?_⟩
        simp only [T.get]
        cases hj0 : Nat.beq j 0
        · have n0 : j ≠ 0 := fun e => by rw [e] at hj0; cases hj0
          cases hj2 : Nat.beq (j % 2) 0
          · simp
          · simp only [cond_false, cond_true]
            have e1 : i % 2 = 0 := Nat.eq_of_beq_eq_true h2
            have e2 : j % 2 = 0 := Nat.eq_of_beq_eq_true hj2
            rw [ho (j / 2 - 1) (by omega)]
        · simp
end Go.Ev
