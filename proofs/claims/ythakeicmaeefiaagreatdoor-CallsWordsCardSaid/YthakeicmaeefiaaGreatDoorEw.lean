/- Operations that only compute, II. -/
import Derived.Test.YthakeicmaeefiaaGreatDoorEu
set_option linter.unusedVariables false
set_option linter.unusedSimpArgs false
namespace Go.Ev
open Go Go.Sh Go.RowKit

theorem cond_some {α : Type} {b : Bool} {x y : Option α} {r : α} (h : (bif b then x else y) = some r) (hy : y = none) : b = true ∧ x = some r := by
  cases b
  · rw [hy] at h; cases h
  · exact ⟨rfl, h⟩
section
variable {P : Program} {μ : Mu}
theorem part_ok {t : TypeId} {cs : List RV} {o : Nat} {r : RV} {vs : List Value} (h : part P t cs o = some r) (hv : VRs μ cs vs) :
    ∃ v, (∀ w, (Go.part t vs.toArray o).run P w = .ok v w) ∧ VR μ r v := by
  unfold part at h
  cases ha : aggB P t (sizeT P t)
  · rw [ha] at h
    simp only [cond_false] at h
    obtain ⟨ho, hr⟩ := cond_some h rfl
    obtain ⟨v, h1, h2⟩ := hv.get hr
    refine ⟨v, fun w => ?_, h2⟩
    simp [Go.part, isAgg_one ho, h1]
  · rw [ha] at h
    simp only [cond_true] at h
    obtain ⟨hl, hr⟩ := cond_some h rfl
    cases hr
    have hl := Nat.le_of_ble_eq_true hl
    refine ⟨.agg ((vs.drop o).take (sizeT P t)).toArray, fun w => ?_, ?_⟩
    · simp only [Go.part, Sem.run_bind, isAgg_agg ha, Result.andThen_ok, if_true, sizeOf_size (sizeB_agg ha)]
      show Result.ok _ _ = _
      congr 2
      apply Array.ext'
      simp [List.take_drop]
    · simp only [VR]; exact ⟨_, rfl, (hv.drop o).take _⟩

theorem pu_field {t : TypeId} {f : Nat} {fs : Array Field} {y : Field} {cs : List RV} {r : RV} {vs : List Value} (hu : P.underlying t = some (.struct fs)) (hf : fs[f]? = some y) (h : part P y.type cs y.offset = some r) (hv : VRs μ cs vs) :
    ∃ v, PU P (oField t (.agg vs.toArray) f) v ∧ VR μ r v := by
  obtain ⟨v, h1, h2⟩ := part_ok h hv
  refine ⟨v, fun w => ?_, h2⟩
  simp [oField, vS, Instr.field, run_underlying hu, hf, asAgg, h1]
theorem pu_indexAddrA {t : TypeId} {k : IntKind} {e sz b p n i : Nat} (hu : P.underlying t = some (.array n e)) (h : sizeB P e sz = true) (h1 : i < n) :
    PU P (oIndexAddr t (.pointer (some ⟨b, p, none⟩)) (.int k (i : Int))) (.pointer (some ⟨b, p + i * sz, none⟩)) := by
  intro w
  have h1' : (i : Int) < (n : Int) := by omega
  simp [oIndexAddr, vS, Instr.indexAt, Instr.sureAddr, asIntOf, run_underlying hu, h1, sizeOf_size h, add_pl]
theorem pu_indexA {t : TypeId} {k : IntKind} {e sz n i : Nat} {cs : List RV} {r : RV} {vs : List Value} (hu : P.underlying t = some (.array n e)) (h : sizeB P e sz = true) (h1 : i < n) (hp : part P e cs (i * sz) = some r) (hv : VRs μ cs vs) :
    ∃ v, PU P (oIndex t (.agg vs.toArray) (.int k (i : Int))) v ∧ VR μ r v := by
  obtain ⟨v, g1, g2⟩ := part_ok hp hv
  refine ⟨v, fun w => ?_, g2⟩
  have h1' : (i : Int) < (n : Int) := by omega
  simp [oIndex, vS, Instr.index, asIntOf, run_underlying hu, h1, sizeOf_size h, g1]
theorem pu_indexS {t : TypeId} {k : IntKind} {i : Nat} {l : Str} {c : UInt8} (hu : P.underlying t = some .string) (h : l[i]? = some c) :
    PU P (oIndex t (.string (bs l)) (.int k (i : Int))) (.int .u8 c.toNat) := by
  intro w
  have hi : (bs l)[i]? = some c := by
    obtain ⟨h1, h2⟩ := List.getElem?_eq_some_iff.1 h
    have hs : i < (bs l).size := by simpa [bs, ByteArray.size] using h1
    rw [getElem?_pos (bs l) i hs]
    exact congrArg some h2
  simp [oIndex, vS, Instr.index, asIntOf, run_underlying hu, hi]
theorem pu_sliceS {t : TypeId} {l : Str} {i j : Nat} {lo hi : Option Value} (hu : P.underlying t = some .string)
    (hlo : (lo = none ∧ i = 0) ∨ ∃ k, lo = some (.int k (i : Int))) (hhi : (hi = none ∧ j = l.length) ∨ ∃ k, hi = some (.int k (j : Int))) (h1 : i ≤ j) (h2 : j ≤ l.length) :
    PU P (oSlice t (.string (bs l)) lo hi none) (.string (bs ((l.take j).drop i))) := by
  intro w
  have hs : (bs l).size = l.length := rfl
  have e : (bs l).extract i j = bs ((l.take j).drop i) := by
    apply ByteArray.ext
    apply Array.ext'
    simp [bs, List.take_drop]
    rw [show i + (j - i) = j by omega]
  rcases hlo with ⟨rfl, rfl⟩ | ⟨k, rfl⟩ <;> rcases hhi with ⟨rfl, rfl⟩ | ⟨k', rfl⟩ <;>
    simp [oSlice, vS, Instr.sliceAt, Instr.slice, Instr.sliceBounds, Instr.sliceBound, asIntOf, run_underlying hu, hs, h1, h2, e] <;> (try (rw [← hs] at *; simp [e]))
theorem pu_slice3 {t e sz : TypeId} {a : Addr} {n c i j m : Nat} {lo : Option Value} {k' k'' : IntKind} (hu : P.underlying t = some (.slice e)) (hs : sizeB P e sz = true)
    (hlo : (lo = none ∧ i = 0) ∨ ∃ k, lo = some (.int k (i : Int))) (h1 : i ≤ j) (h2 : j ≤ m) (h3 : m ≤ c) :
    PU P (oSlice t (.slice (some a) n c) lo (some (.int k' (j : Int))) (some (.int k'' (m : Int)))) (.slice (some (if m = i then a else a.add (i * sz))) (j - i) (m - i)) := by
  intro w
  rcases hlo with ⟨rfl, rfl⟩ | ⟨k, rfl⟩ <;>
    simp [oSlice, vS, Instr.sliceAt, Instr.slice, Instr.sliceBounds, Instr.sliceBound, asIntOf, run_underlying hu, h1, h2, h3, sizeOf_size hs]
  split <;> rfl
  split <;> rfl
theorem pu_slice2 {t e sz : TypeId} {a : Addr} {n c i j : Nat} {lo hi : Option Value} (hu : P.underlying t = some (.slice e)) (hs : sizeB P e sz = true)
    (hlo : (lo = none ∧ i = 0) ∨ ∃ k, lo = some (.int k (i : Int))) (hhi : (hi = none ∧ j = n) ∨ ∃ k, hi = some (.int k (j : Int))) (h1 : i ≤ j) (h2 : j ≤ c) :
    PU P (oSlice t (.slice (some a) n c) lo hi none) (.slice (some (if c = i then a else a.add (i * sz))) (j - i) (c - i)) := by
  intro w
  rcases hlo with ⟨rfl, rfl⟩ | ⟨k, rfl⟩ <;> rcases hhi with ⟨rfl, rfl⟩ | ⟨k', rfl⟩ <;>
    simp [oSlice, vS, Instr.sliceAt, Instr.slice, Instr.sliceBounds, Instr.sliceBound, asIntOf, run_underlying hu, h1, h2, sizeOf_size hs] <;> split <;> rfl

/-! ### Parts laid over cells -/
theorem fold_set : ∀ (vs : List Value) (cs : List Value) (o : Nat) (k : Nat), o + k + vs.length ≤ cs.length →
    (vs.zipIdx k).foldl (fun (a : Array Value) (p : Value × Nat) => a.setIfInBounds (o + p.2) p.1) cs.toArray = (cs.take (o + k) ++ vs ++ cs.drop (o + k + vs.length)).toArray
  | [], cs, o, k, _ => by simp
  | v :: vs, cs, o, k, h => by
    simp only [List.length_cons] at h
    simp only [List.zipIdx_cons, List.foldl_cons, List.setIfInBounds_toArray]
    rw [fold_set vs (cs.set (o + k) v) o (k + 1) (by simp; omega)]
    congr 1
    rw [show o + (k + 1) = o + k + 1 by omega]
    rw [List.take_add_one, List.getElem?_set_self (by omega), List.take_set_of_le (by omega), List.drop_set_of_lt (by omega)]
    simp [Nat.add_assoc, Nat.add_comm 1]
theorem VR.cells {r : RV} {v : Value} (h : VR μ r v) (ok : okC r = true) : VRs μ r.cells v.cells.toList := by
  cases r <;> simp only [okC, plainR, Bool.false_eq_true] at ok
  case agg l =>
    simp only [VR] at h
    obtain ⟨vs, rfl, h2⟩ := h
    simpa [RV.cells, Value.cells] using h2
  all_goals
    have h0 := h
    simp only [VR] at h
    first
    | (subst h; exact VRs.cons h0 VRs.nil)
    | (obtain ⟨_, rfl⟩ := h; exact VRs.cons h0 VRs.nil)
    | (obtain ⟨_, _, _, rfl⟩ := h; exact VRs.cons h0 VRs.nil)
    | (obtain ⟨_, _, rfl, _⟩ := h; exact VRs.cons h0 VRs.nil)
theorem VR.plain {r : RV} {v : Value} (h : VR μ r v) (ok : plainR r = true) : plain v = true := by
  cases r <;> simp only [plainR, Bool.false_eq_true] at ok
  all_goals
    simp only [VR] at h
    first
    | (subst h; rfl)
    | (obtain ⟨_, rfl⟩ := h; rfl)
    | (obtain ⟨_, _, _, rfl⟩ := h; rfl)
    | (obtain ⟨_, _, rfl, _⟩ := h; rfl)
end
end Go.Ev
