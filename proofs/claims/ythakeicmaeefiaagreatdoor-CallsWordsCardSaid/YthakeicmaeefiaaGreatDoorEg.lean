/- The library's functions that have no text, as the evaluator knows them. -/
import Derived.Test.YthakeicmaeefiaaGreatDoorEaf
import Derived.Lib.Bytealg
import Derived.Test.YthakeicmaeefiaaGreatDoorFc
import Derived.KernelRfl
set_option linter.unusedVariables false
set_option linter.unusedSimpArgs false
namespace Go.Ev
open Go Go.Sh Go.RowKit
def cmpN : List Nat → List Nat → Int
  | [], [] => 0
  | [], _ :: _ => -1
  | _ :: _, [] => 1
  | a :: l, b :: m => bif Nat.blt a b then -1 else bif Nat.blt b a then 1 else cmpN l m
def idxN : List Nat → Nat → Nat → Option Nat
  | [], _, _ => none
  | a :: l, c, k => bif Nat.beq a c then some k else idxN l c (k + 1)
def cntN : List Nat → Nat → Nat
  | [], _ => 0
  | a :: l, c => bif Nat.beq a c then cntN l c + 1 else cntN l c
def idxI (s : List Nat) (c : Nat) : Int := match idxN s c 0 with
  | some i => .ofNat i
  | none => -1

theorem u8_eq {a c : Nat} (ha : a < 256) (hc : c < 256) : (UInt8.ofNat a == UInt8.ofNat c) = Nat.beq a c := by
  rw [Bool.eq_iff_iff, beq_iff_eq, Nat.beq_eq, ← UInt8.toNat_inj]
  simp [Nat.mod_eq_of_lt ha, Nat.mod_eq_of_lt hc]
theorem u8_lt {a c : Nat} (ha : a < 256) (hc : c < 256) : (UInt8.ofNat a < UInt8.ofNat c) ↔ Nat.blt a c = true := by
  rw [Nat.blt_eq, UInt8.lt_iff_toNat_lt]
  simp [Nat.mod_eq_of_lt ha, Nat.mod_eq_of_lt hc]
theorem cmpN_eq : ∀ (a b : List Nat), (∀ c ∈ a, c < 256) → (∀ c ∈ b, c < 256) → Lib.compareBytes (a.map UInt8.ofNat) (b.map UInt8.ofNat) = cmpN a b
  | [], [], _, _ => rfl
  | [], _ :: _, _, _ => rfl
  | _ :: _, [], _, _ => rfl
  | a :: l, b :: m, ha, hb => by
    have ha0 : a < 256 := ha a (by simp)
    have hb0 : b < 256 := hb b (by simp)
    have ih := cmpN_eq l m (fun c h => ha c (by simp [h])) (fun c h => hb c (by simp [h]))
    simp only [List.map_cons, Lib.compareBytes, cmpN, u8_lt ha0 hb0, u8_lt hb0 ha0, ih]
    cases Nat.blt a b <;> cases Nat.blt b a <;> simp
theorem cntN_eq {c : Nat} (hc : c < 256) : ∀ (a : List Nat), (∀ c ∈ a, c < 256) → Lib.countByte (a.map UInt8.ofNat) (UInt8.ofNat c) = cntN a c
  | [], _ => rfl
  | a :: l, ha => by
    have ih := cntN_eq hc l (fun c h => ha c (by simp [h]))
    unfold Lib.countByte at ih ⊢
    simp only [List.map_cons, List.count_cons, u8_eq (ha a (by simp)) hc, ih, cntN]
    cases Nat.beq a c <;> simp
theorem idxN_eq {c : Nat} (hc : c < 256) : ∀ (a : List Nat) (k : Nat), (∀ c ∈ a, c < 256) →
    (match idxN a c k with | some i => (i : Int) | none => -1) = if Lib.indexByte (a.map UInt8.ofNat) (UInt8.ofNat c) = -1 then -1 else Lib.indexByte (a.map UInt8.ofNat) (UInt8.ofNat c) + k
  | [], k, _ => by simp [idxN, Lib.indexByte]
  | a :: l, k, ha => by
    have ih := idxN_eq hc l (k + 1) (fun c h => ha c (by simp [h]))
    have hg := Lib.indexByte_ge (l.map UInt8.ofNat) (UInt8.ofNat c)
    simp only [List.map_cons, Lib.indexByte, u8_eq (ha a (by simp)) hc, idxN]
    cases Nat.beq a c
    · simp only [cond_false, Bool.false_eq_true, if_false]
      rw [ih]
      by_cases h : Lib.indexByte (l.map UInt8.ofNat) (UInt8.ofNat c) = -1
      · simp [h]
      · have h1 : ¬ Lib.indexByte (l.map UInt8.ofNat) (UInt8.ofNat c) + 1 = -1 := by omega
        simp [h, h1]; omega
    · simp
theorem idxI_eq {c : Nat} (hc : c < 256) {a : List Nat} (ha : ∀ c ∈ a, c < 256) : Lib.indexByte (a.map UInt8.ofNat) (UInt8.ofNat c) = idxI a c := by
  have h := idxN_eq hc a 0 ha
  unfold idxI
  have e : (match idxN a c 0 with | some i => Int.ofNat i | none => -1) = (match idxN a c 0 with | some i => (i : Int) | none => -1) := by cases idxN a c 0 <;> rfl
  rw [e, h]
  split
  · rename_i h1; exact h1
  · simp
def cmpE (xs : List RV) : Option RV := match xs with
  | [.str a, .str b] => some (.int .i64 (cmpN a b))
  | _ => none
def idxE (xs : List RV) : Option RV := match xs with
  | [.str a, .int .u8 (.ofNat c)] => bif Nat.blt c 256 then some (.int .i64 (idxI a c)) else none
  | _ => none
def cntE (xs : List RV) : Option RV := match xs with
  | [.str a, .int .u8 (.ofNat c)] => bif Nat.blt c 256 then some (.int .i64 (.ofNat (cntN a c))) else none
  | _ => none
section
variable {P : Program} {f : FuncId} {fn : Func} (hf : P.funcs[f]? = some fn) (hk : ((fn.name == "runtime.NumGoroutine") = false ∧ fn.body.isNone = true ∧ Extern.findNext fn = none))
include hf hk
theorem cmpE_ok (he : Extern.find fn = some Extern.BytealgCompare.compare) {xs : List RV} {r : RV} (e : cmpE xs = some r) (μ : Mu) (vs : List Value) (hv : VRs μ xs vs) : ∃ v, VR μ r v ∧ ∀ w, (callFunc f (List.toArray vs)).run P w = .ok (.value v) w := by
  unfold cmpE at e
  split at e
  · rename_i a b
    obtain ⟨v1, us, rfl, h1, h2⟩ := hv.out
    obtain ⟨v2, us, rfl, h3, h4⟩ := h2.out
    simp only [VRs] at h4
    subst h4
    simp only [VR] at h1 h3
    obtain ⟨h1, rfl⟩ := h1
    obtain ⟨h3, rfl⟩ := h3
    injection e with e
    subst e
    refine ⟨.int .i64 (cmpN a b), by simp [VR], fun w => ?_⟩
    rw [run_callFunc_extern hf hk.1 hk.2.1 hk.2.2 he]
    have := Lib.run_compareString (P := P) (bs (a.map UInt8.ofNat)) (bs (b.map UInt8.ofNat)) w
    rw [cmpN_eq a b h1 h3] at this
    rw [this]; rfl
  · cases e
theorem idxE_ok (he : Extern.find fn = some Extern.BytealgIndexByte.indexByte) {xs : List RV} {r : RV} (e : idxE xs = some r) (μ : Mu) (vs : List Value) (hv : VRs μ xs vs) : ∃ v, VR μ r v ∧ ∀ w, (callFunc f (List.toArray vs)).run P w = .ok (.value v) w := by
  unfold idxE at e
  split at e
  · rename_i a c
    cases hc : Nat.blt c 256 <;> rw [hc] at e
    · cases e
    have hc' : c < 256 := by simpa [Nat.blt_eq] using hc
    obtain ⟨v1, us, rfl, h1, h2⟩ := hv.out
    obtain ⟨v2, us, rfl, h3, h4⟩ := h2.out
    simp only [VRs] at h4
    subst h4
    simp only [VR] at h1 h3
    obtain ⟨h1, rfl⟩ := h1
    subst h3
    injection e with e
    subst e
    refine ⟨.int .i64 (idxI a c), by simp [VR], fun w => ?_⟩
    rw [run_callFunc_extern hf hk.1 hk.2.1 hk.2.2 he]
    have := Lib.run_indexByteString (P := P) (bs (a.map UInt8.ofNat)) (c : Int) w
    have e2 : Lib.indexByte (bs (a.map UInt8.ofNat)).data.toList (c : Int).toNat.toUInt8 = idxI a c := idxI_eq hc' h1
    rw [e2] at this
    show ((Extern.BytealgIndexByte.indexByte #[.string (bs (a.map UInt8.ofNat)), .int .u8 (c : Int)]).run P w).andThen _ = _
    rw [this]; rfl
  · cases e
theorem cntE_ok (he : Extern.find fn = some Extern.BytealgCount.count) {xs : List RV} {r : RV} (e : cntE xs = some r) (μ : Mu) (vs : List Value) (hv : VRs μ xs vs) : ∃ v, VR μ r v ∧ ∀ w, (callFunc f (List.toArray vs)).run P w = .ok (.value v) w := by
  unfold cntE at e
  split at e
  · rename_i a c
    cases hc : Nat.blt c 256 <;> rw [hc] at e
    · cases e
    have hc' : c < 256 := by simpa [Nat.blt_eq] using hc
    obtain ⟨v1, us, rfl, h1, h2⟩ := hv.out
    obtain ⟨v2, us, rfl, h3, h4⟩ := h2.out
    simp only [VRs] at h4
    subst h4
    simp only [VR] at h1 h3
    obtain ⟨h1, rfl⟩ := h1
    subst h3
    injection e with e
    subst e
    refine ⟨.int .i64 (cntN a c), by simp [VR], fun w => ?_⟩
    rw [run_callFunc_extern hf hk.1 hk.2.1 hk.2.2 he]
    have := Lib.run_countString (P := P) (bs (a.map UInt8.ofNat)) (c : Int) w
    have e2 : Lib.countByte (bs (a.map UInt8.ofNat)).data.toList (c : Int).toNat.toUInt8 = cntN a c := cntN_eq hc' a h1
    rw [e2] at this
    show ((Extern.BytealgCount.count #[.string (bs (a.map UInt8.ofNat)), .int .u8 (c : Int)]).run P w).andThen _ = _
    rw [this]; rfl
  · cases e
end
end Go.Ev
