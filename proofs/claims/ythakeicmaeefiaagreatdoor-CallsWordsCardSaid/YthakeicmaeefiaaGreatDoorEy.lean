/- Operations on memory. -/
import Derived.Test.YthakeicmaeefiaaGreatDoorEx
import Derived.Laws.IdiomStrings
import Derived.Laws.RangeString
set_option linter.unusedVariables false
set_option linter.unusedSimpArgs false
namespace Go.Ev
open Go Go.Sh Go.RowKit
section
variable {P : Program} {μ : Mu}

/-- What an operation comes to: r, and the memory is h' behind it. -/
def Does (P : Program) (h : HP) (s : Mu → Sem Next → Prop) (r : RV) (h' : HP) : Prop :=
  ∀ w0 μ w q (K : Value → World → Prop), s μ q → HR w0 μ h w → (∀ ν v w', Ext μ ν → VR ν r v → HR w0 ν h' w' → K v w') → NX P q w K

theorem ldK_ok {t : TypeId} {x : RV} {h : HP} {k : RV → Bool} (e : ldK P t x h k = true) :
    ∃ r, k r = true ∧ ∀ w0 μ w xv, VR μ x xv → HR w0 μ h w → ∃ v, RD P w t xv v ∧ VR μ r v := by
  unfold ldK at e
  split at e
  · rename_i b o
    split at e
    · rename_i cs u hb
      cases hl : Nat.ble (o + sizeT P t) cs.length
      · rw [hl] at e; cases e
      · rw [hl] at e
        have hl := Nat.le_of_ble_eq_true hl
        simp only [cond_true] at e
        cases ha : aggB P t (sizeT P t)
        · rw [ha] at e
          simp only [cond_false] at e
          cases ho : oneB P t
          · rw [ho] at e; cases e
          · rw [ho] at e
            simp only [cond_true] at e
            split at e
            · rename_i r hr
              rw [fV_eq] at e
              refine ⟨r, e, fun w0 μ w xv hx hh => ?_⟩
              simp only [VR] at hx
              obtain ⟨B, y, hB, rfl⟩ := hx
              have hlt : o < cs.length := (List.getElem?_eq_some_iff.1 hr).1
              obtain ⟨B', y', vs, hB', hlen, hvr, hcs⟩ := hh.cs (n := 1) (o := o) hb (by omega)
              rw [hB] at hB'
              cases hB'
              obtain ⟨v, hv, hvv⟩ := hvr.get (i := 0) (r := r) (by simp [hr])
              refine ⟨v, RD.one ho ?_, hvv⟩
              intro i u hu
              cases i with
              | zero => simp at hu; subst hu; exact hcs 0 v hv
              | succ i => simp at hu
            · cases e
        · rw [ha] at e
          simp only [cond_true, fV_eq] at e
          refine ⟨_, e, fun w0 μ w xv hx hh => ?_⟩
          simp only [VR] at hx
          obtain ⟨B, y, hB, rfl⟩ := hx
          obtain ⟨B', y', vs, hB', hlen, hvr, hcs⟩ := hh.cs (n := sizeT P t) (o := o) hb hl
          rw [hB] at hB'
          cases hB'
          exact ⟨.agg vs.toArray, RD.agg ha hlen hcs, by simp only [VR]; exact ⟨vs, rfl, hvr⟩⟩
    · cases e
  · cases e

theorem okC_ne {r : RV} (h : okC r = true) : r ≠ .any := by rintro rfl; cases h

theorem run_alloc {t : TypeId} {z : Value} (hz : ∀ w, (zeroValue t).run P w = .ok z w) (w : World) : (oAlloc t).run P w = .ok (.value (.pointer (some ⟨w.heap.size, 0, none⟩))) (w.alloc (.cells z.cells t)) := by
  simp only [oAlloc, vS, Instr.alloc, Sem.run_bind, hz, Result.andThen_ok]
  rfl
theorem toArr (a : Array Value) : a = a.toList.toArray := by simp
theorem alloc_ok {h : HP} {t : TypeId} {k : Nat → HP → Bool} (ok : okC (zeroT P t) = true) (e : h.new (zeroT P t).cells t k = true) :
    ∃ b h', k b h' = true ∧ ∀ w0 μ w (K : Value → World → Prop), HR w0 μ h w → (∀ ν v w', Ext μ ν → VR ν (.ptr b 0) v → HR w0 ν h' w' → K v w') → NX P (oAlloc t) w K := by
  obtain ⟨b, h', hk, h1, h2, h3⟩ := new_spec e
  refine ⟨b, h', hk, fun w0 μ w K hh hK => ?_⟩
  obtain ⟨z, i, _, _, hz, hvr⟩ := zero_ok (P := P) (μ := μ) (t := t) (fun _ _ => trivial) (okC_ne ok)
  have hc := hvr.cells ok
  have hl := hc.length
  obtain ⟨x, hr⟩ := hh.new_ (x := 0) (vs := z.cells.toList) h1 h2 h3 (by omega) (by rw [List.take_of_length_le (by omega)]; exact hc)
  refine NX.val (run_alloc hz w) (hK _ _ _ x ?_ (by rw [toArr z.cells]; exact hr))
  simp only [VR]
  exact ⟨_, _, Mu.set_same _ _ _, rfl⟩
theorem box_ok {h : HP} {r : RV} {t : TypeId} {k : Nat → HP → Bool} (ok : okC r = true) (e : h.new r.cells t k = true) :
    ∃ b h', k b h' = true ∧ ∀ w0 μ w v (K : Value → World → Prop), VR μ r v → HR w0 μ h w → (∀ ν v w', Ext μ ν → VR ν (.ptr b 0) v → HR w0 ν h' w' → K v w') → NX P (oBox t v) w K := by
  obtain ⟨b, h', hk, h1, h2, h3⟩ := new_spec e
  refine ⟨b, h', hk, fun w0 μ w v K hv hh hK => ?_⟩
  have hc := hv.cells ok
  have hl := hc.length
  obtain ⟨x, hr⟩ := hh.new_ (x := 0) (vs := v.cells.toList) h1 h2 h3 (by omega) (by rw [List.take_of_length_le (by omega)]; exact hc)
  refine NX.val (run_box v) (hK _ _ _ x ?_ (by rw [toArr v.cells]; exact hr))
  simp only [VR]
  exact ⟨_, _, Mu.set_same _ _ _, rfl⟩
theorem all_plain : ∀ {l : List RV} {vs : List Value}, VRs μ l vs → l.all plainR = true → ∀ v ∈ vs, plain v = true
  | [], vs, h, _ => by simp only [VRs] at h; subst h; simp
  | r :: l, vs, h, hp => by
    obtain ⟨v, us, rfl, h1, h2⟩ := h.out
    simp only [List.all_cons, Bool.and_eq_true] at hp
    intro u hu
    rcases List.mem_cons.1 hu with rfl | hu
    · exact h1.plain hp.1
    · exact all_plain h2 hp.2 u hu

theorem store_ok {h : HP} {t u : TypeId} {b o : Nat} {cs : List RV} {x : RV} {k : HP → Bool} (hb : h.get b = some (.mk cs u))
    (hc : ((okC x && (x.cells.all plainR && sizeB P t (sizeT P t))) && (Nat.beq x.cells.length (sizeT P t) && Nat.ble (o + sizeT P t) cs.length)) = true) (e : h.set b (lay cs o x.cells) u k = true) :
    ∃ h', k h' = true ∧ ∀ w0 μ w a v (K : Value → World → Prop), VR μ (.ptr b o) a → VR μ x v → HR w0 μ h w → (∀ w', HR w0 μ h' w' → K undef w') → NX P (oStore t a v) w K := by
  simp only [Bool.and_eq_true] at hc
  obtain ⟨⟨hok, hpl, hsz⟩, hlen, hle⟩ := hc
  have hlen := Nat.eq_of_beq_eq_true hlen
  have hle := Nat.le_of_ble_eq_true hle
  obtain ⟨h', hk, h1, h2⟩ := set_spec e
  refine ⟨h', hk, fun w0 μ w a v K ha hv hh hK => ?_⟩
  simp only [VR] at ha
  obtain ⟨B, y, hB, rfl⟩ := ha
  have hcl := hv.cells hok
  have hl := hcl.length
  obtain ⟨w', hr, hh'⟩ := hh.write (P := P) (o := o) (ds := x.cells) (us := v.cells.toList) hb (by omega) h1 h2 hcl (all_plain hcl hpl) hB
  refine NX.skip (w' := w') ?_ (hK w' hh')
  have hsz' : v.cells.size = sizeT P t := by rw [← Array.length_toList]; omega
  simp [oStore, uS, Instr.storeAt, Instr.sureAddr, storeVar, sizeOf_size hsz, hsz', hr]

/-! ### Zero elements -/
theorem range_mod {α : Type} [Inhabited α] (z : Array α) : ∀ n, ((Array.range (n * z.size)).map (z[· % z.size]!)).toList = (List.replicate n z.toList).flatten
  | 0 => by simp
  | n + 1 => by
    have ih := range_mod z n
    simp only [Array.toList_map, Array.toList_range] at ih ⊢
    rw [show (n + 1) * z.size = z.size + n * z.size by rw [Nat.add_mul]; omega, List.range_add]
    simp only [List.map_append, List.map_map, List.replicate_succ, List.flatten_cons]
    congr 1
    · apply List.ext_getElem
      · simp
      · intro i h1 h2
        simp at h1 h2
        simp [Nat.mod_eq_of_lt h2, h2]
    · rw [← ih]
      apply List.map_congr_left
      intro i hi
      simp
theorem zerosT_ok {e : TypeId} {n : Nat} {zs : List RV} (h : zerosT P e n = some zs) : ∃ z i, P.info? e = some i ∧ i.zero = some z ∧ z.cells.size = sizeT P e ∧ (∀ w, (zeroValue e).run P w = .ok z w) ∧
    VRs μ zs ((Array.range (n * sizeT P e)).map (z.cells[· % z.cells.size]!)).toList ∧ zs.length = n * sizeT P e ∧ zs.all plainR = true := by
  unfold zerosT at h
  obtain ⟨hc, h⟩ := cond_some h rfl
  cases h
  simp only [Bool.and_eq_true] at hc
  obtain ⟨hok, hpl, hlen⟩ := hc
  have hlen := Nat.eq_of_beq_eq_true hlen
  obtain ⟨z, i, hi, hz, hzv, hvr⟩ := zero_ok (P := P) (μ := μ) (t := e) (fun _ _ => trivial) (okC_ne hok)
  have hcl := hvr.cells hok
  have hl := hcl.length
  have hs : z.cells.size = sizeT P e := by rw [← Array.length_toList]; omega
  refine ⟨z, i, hi, hz, hs, hzv, ?_, ?_, ?_⟩
  · rw [← hs, range_mod]
    exact hcl.flatRep n
  · simp [hlen]
  · rw [List.all_eq_true] at hpl ⊢
    intro x hx
    simp only [List.mem_flatten, List.mem_replicate] at hx
    obtain ⟨l, ⟨_, rfl⟩, hx⟩ := hx
    exact hpl x hx
end
end Go.Ev
