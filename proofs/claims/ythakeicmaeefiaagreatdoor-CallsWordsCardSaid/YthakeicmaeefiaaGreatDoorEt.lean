/- What the evaluator's memory is in a world. -/
import Derived.Test.YthakeicmaeefiaaGreatDoorEs
import Derived.Laws.AppendOwn
import Derived.Laws.CopyRow
import Derived.Laws.MakeOwn
set_option linter.unusedVariables false
set_option linter.unusedSimpArgs false
namespace Go.Ev
open Go Go.Sh Go.RowKit

def FrOK (fr : Nat × Nat) (n : Nat) : Prop := fr = (0, 0) ∨ n ≤ fr.1
theorem FrOK.out {fr : Nat × Nat} {n : Nat} (h : FrOK fr n) : ∀ o, o < n → ¬ (fr.1 ≤ o ∧ o < fr.2) := by
  intro o ho
  rcases h with rfl | h
  · simp
  · omega
structure HR (w0 : World) (μ : Mu) (h : HP) (w : World) : Prop where
  gr : Gr w0 w
  at_ : ∀ k cs t, h.get k = some (.mk cs t) → ∃ B x vs fr, μ k = some (B, x) ∧ w.heap[B]? = some (.cells (List.toArray vs) t fr) ∧ cs.length ≤ vs.length ∧ VRs μ cs (vs.take cs.length) ∧ FrOK fr vs.length
  it : ∀ k s p, h.get k = some (.iter s p) → (∀ c ∈ s, c < 256) ∧ ∃ B x, μ k = some (B, x) ∧ w.heap[B]? = some (.stringIter (bs (s.map UInt8.ofNat)) p)
  inj : ∀ i j B x y, μ i = some (B, x) → μ j = some (B, y) → i = j
  new : ∀ i B x, μ i = some (B, x) → w0.heap.size ≤ B ∧ B < w.heap.size
  dom : ∀ i, h.get i = none → μ i = none

theorem HR.init (w : World) : HR w (fun _ => none) ⟨.e, [], 0⟩ w :=
  ⟨Gr.refl w, fun k cs t h => (by simp [HP.get, dep, T.get] at h), fun k s p h => (by simp [HP.get, dep, T.get] at h), fun i j B x y h => (by cases h), fun i B x h => (by cases h), fun _ _ => rfl⟩
theorem HR.same {w0 w : World} {μ : Mu} {h h' : HP} (r : HR w0 μ h w) (e : h'.t = h.t) : HR w0 μ h' w := by
  have : ∀ k, h'.get k = h.get k := fun k => by unfold HP.get; rw [e]
  exact ⟨r.gr, fun k cs t hk => r.at_ k cs t (by rw [← this]; exact hk), fun k s p hk => r.it k s p (by rw [← this]; exact hk), r.inj, r.new, fun i hi => r.dom i (by rw [← this]; exact hi)⟩
/-- A world of the same heap. -/
theorem HR.world {w0 w w' : World} {μ : Mu} {h : HP} (r : HR w0 μ h w) (g : Gr w0 w') (e : w'.heap = w.heap) : HR w0 μ h w' :=
  ⟨g, fun k cs t hk => by rw [e]; exact r.at_ k cs t hk, fun k s p hk => by rw [e]; exact r.it k s p hk, r.inj, fun i B x hi => by rw [e]; exact r.new i B x hi, r.dom⟩
theorem HR.drew {w0 w : World} {μ : Mu} {h : HP} (r : HR w0 μ h w) : HR w0 μ h w.drew := r.world r.gr.drew rfl

def Mu.set (μ : Mu) (b : Nat) (x : Nat × Nat) : Mu := fun i => if i = b then some x else μ i
theorem Mu.ext_set {μ : Mu} {b : Nat} {x : Nat × Nat} (h : μ b = none) : Ext μ (μ.set b x) := fun i y hi => by
  unfold Mu.set
  split
  · subst_vars; rw [h] at hi; cases hi
  · exact hi
theorem Mu.set_same (μ : Mu) (b : Nat) (x : Nat × Nat) : μ.set b x b = some x := by simp [Mu.set]

theorem newB_spec {h : HP} {y : Blk} {k : Nat → HP → Bool} (e : h.newB y k = true) : ∃ b h', k b h' = true ∧ h.get b = none ∧ h'.get b = some y ∧ ∀ j, j ≠ b → h'.get j = h.get j := by
  unfold HP.newB at e
  split at e
  · rw [forceN_eq] at e
    split at e
    · rename_i hn
      obtain ⟨t', hk, hg, ho⟩ := T.put_spec _ _ _ _ _ e
      exact ⟨_, _, hk, hn, hg, ho⟩
    · cases e
  · split at e
    · rename_i hn
      obtain ⟨t', hk, hg, ho⟩ := T.put_spec _ _ _ _ _ e
      exact ⟨_, _, hk, hn, hg, ho⟩
    · cases e

/-- A new object: block b of the memory lies there. -/
theorem HR.newObj {w0 w w1 : World} {μ : Mu} {h h' : HP} {b x : Nat} {y : Blk} (r : HR w0 μ h w) (hb : h.get b = none) (hy : h'.get b = some y) (ho : ∀ j, j ≠ b → h'.get j = h.get j)
    (g : Gr w0 w1) (hs : w1.heap.size = w.heap.size + 1) (hold : ∀ j, j < w.heap.size → w1.heap[j]? = w.heap[j]?)
    (hnew : match y with
      | .mk cs t => ∃ vs fr, w1.heap[w.heap.size]? = some (.cells (List.toArray vs) t fr) ∧ cs.length ≤ vs.length ∧ VRs μ cs (vs.take cs.length) ∧ FrOK fr vs.length
      | .iter s p => (∀ c ∈ s, c < 256) ∧ w1.heap[w.heap.size]? = some (.stringIter (bs (s.map UInt8.ofNat)) p)) :
    Ext μ (μ.set b (w.heap.size, x)) ∧ HR w0 (μ.set b (w.heap.size, x)) h' w1 := by
  have hx : Ext μ (μ.set b (w.heap.size, x)) := Mu.ext_set (r.dom b hb)
  refine ⟨hx, g, fun k cs t hk => ?_, fun k s p hk => ?_, fun i j B y1 y2 hi hj => ?_, fun i B y1 hi => ?_, fun i hi => ?_⟩
  · by_cases hkb : k = b
    · subst hkb
      rw [hy] at hk
      cases hk
      obtain ⟨vs, fr, h1, h2, h3, h4⟩ := hnew
      exact ⟨_, _, vs, fr, Mu.set_same _ _ _, h1, h2, VRs.ext hx _ _ h3, h4⟩
    · rw [ho k hkb] at hk
      obtain ⟨B, x1, vs, fr, h0, h1, h2, h3, h4⟩ := r.at_ k cs t hk
      exact ⟨B, x1, vs, fr, hx _ _ h0, by rw [hold B (r.new _ _ _ h0).2]; exact h1, h2, VRs.ext hx _ _ h3, h4⟩
  · by_cases hkb : k = b
    · subst hkb
      rw [hy] at hk
      cases hk
      exact ⟨hnew.1, _, _, Mu.set_same _ _ _, hnew.2⟩
    · rw [ho k hkb] at hk
      obtain ⟨h5, B, x1, h0, h1⟩ := r.it k s p hk
      exact ⟨h5, B, x1, hx _ _ h0, by rw [hold B (r.new _ _ _ h0).2]; exact h1⟩
  · unfold Mu.set at hi hj
    split at hi <;> split at hj
    · subst_vars; rfl
    · cases hi; have := (r.new _ _ _ hj).2; omega
    · cases hj; have := (r.new _ _ _ hi).2; omega
    · exact r.inj i j B y1 y2 hi hj
  · unfold Mu.set at hi
    split at hi
    · cases hi; exact ⟨r.gr.size, by omega⟩
    · have := r.new i B y1 hi; exact ⟨this.1, by omega⟩
  · unfold Mu.set
    split
    · subst_vars; rw [hy] at hi; cases hi
    · rename_i hib; rw [ho i hib] at hi; exact r.dom i hi

theorem alloc_size (w : World) (o : Obj) : (w.alloc o).heap.size = w.heap.size + 1 := by
  show (w.heap.push o).size = _; simp
theorem alloc_old (w : World) (o : Obj) {j : Nat} (h : j < w.heap.size) : (w.alloc o).heap[j]? = w.heap[j]? := by
  show (w.heap.push o)[j]? = _
  rw [Array.getElem?_push, if_neg (by omega)]

/-- A new row of cells. -/
theorem HR.new_ {w0 w : World} {μ : Mu} {h h' : HP} {b x : Nat} {cs : List RV} {t : TypeId} {vs : List Value} (r : HR w0 μ h w) (hb : h.get b = none) (hy : h'.get b = some (.mk cs t)) (ho : ∀ j, j ≠ b → h'.get j = h.get j)
    (hv : cs.length ≤ vs.length) (hr : VRs μ cs (vs.take cs.length)) :
    Ext μ (μ.set b (w.heap.size, x)) ∧ HR w0 (μ.set b (w.heap.size, x)) h' (w.alloc (.cells vs.toArray t)) :=
  r.newObj hb hy ho (r.gr.alloc _) (alloc_size _ _) (fun j hj => alloc_old _ _ hj) ⟨vs, (0, 0), heap_new _ _, hv, hr, .inl rfl⟩

theorem new_spec {h : HP} {cs : List RV} {t : TypeId} {k : Nat → HP → Bool} (e : h.new cs t k = true) : ∃ b h', k b h' = true ∧ h.get b = none ∧ h'.get b = some (.mk cs t) ∧ ∀ j, j ≠ b → h'.get j = h.get j := by
  unfold HP.new at e
  rw [fL_eq] at e
  exact newB_spec e
theorem set_spec {h : HP} {b : Nat} {cs : List RV} {t : TypeId} {k : HP → Bool} (e : h.set b cs t k = true) : ∃ h', k h' = true ∧ h'.get b = some (.mk cs t) ∧ ∀ j, j ≠ b → h'.get j = h.get j := by
  unfold HP.set at e
  rw [fL_eq] at e
  obtain ⟨t', hk, hg, ho⟩ := T.put_spec _ _ _ _ _ e
  exact ⟨_, hk, hg, ho⟩

/-- What is read of a block. -/
theorem HR.cs {w0 w : World} {μ : Mu} {h : HP} {b o n : Nat} {cs : List RV} {t : TypeId} (r : HR w0 μ h w) (hk : h.get b = some (.mk cs t)) (hl : o + n ≤ cs.length) :
    ∃ B x vs, μ b = some (B, x) ∧ vs.length = n ∧ VRs μ ((cs.drop o).take n) vs ∧ Cs w ⟨B, o, none⟩ vs := by
  obtain ⟨B, x, vs, fr, h0, h1, h2, h3, h4⟩ := r.at_ b cs t hk
  refine ⟨B, x, (vs.drop o).take n, h0, by simp; omega, ?_, ?_⟩
  · have := (h3.drop o).take n
    rwa [List.drop_take (l := vs), List.take_take, Nat.min_eq_left (by omega)] at this
  · intro i v hv
    rw [add_pl]
    simp only [World.cell?, h1]
    rw [List.getElem?_take] at hv
    split at hv
    · rw [List.getElem?_drop] at hv; simpa using hv
    · cases hv

/-- The cells of a block are written. -/
theorem run_storeCellsF {P : Program} {b : Nat} {t : TypeId} {fr : Nat × Nat} : ∀ (vs : List Value) (l : List Value) (w : World) (o i : Nat), (∀ v ∈ vs, plain v = true) → (∀ o, o < l.length → ¬ (fr.1 ≤ o ∧ o < fr.2)) →
    w.heap[b]? = some (Obj.cells l.toArray t fr) → o + i + vs.length ≤ l.length →
    ∃ w', (storeCells ⟨b, o, none⟩ vs i).run P w = .ok () w' ∧ w'.heap[b]? = some (.cells (l.take (o + i) ++ vs ++ l.drop (o + i + vs.length)).toArray t fr) ∧ w'.heap.size = w.heap.size ∧
      (∀ k, k ≠ b → w'.heap[k]? = w.heap[k]?) ∧ w'.os = w.os ∧ w'.tape = w.tape ∧ w'.output = w.output
  | [], l, w, o, i, _, _, hb, _ => ⟨w, rfl, by simpa using hb, rfl, fun _ _ => rfl, rfl, rfl, rfl⟩
  | v :: vs, l, w, o, i, hv, hfr, hb, hl => by
    simp only [List.length_cons] at hl
    have hcell : w.cell? ⟨b, o + i, none⟩ = some (l[o + i]'(by omega)) := by
      simp [World.cell?, hb, List.getElem?_eq_getElem (show o + i < l.length by omega)]
    have hfz : w.frozen? ⟨b, o + i, none⟩ = false := by
      have := hfr (o + i) (by omega)
      obtain ⟨lo, hi⟩ := fr
      simp only [World.frozen?, hb]
      simpa using this
    have hv0 : plain v = true := hv v (by simp)
    let w1 := w.setCell ⟨b, o + i, none⟩ v
    have h1 : w1.heap[b]? = some (.cells (l.set (o + i) v).toArray t fr) := by
      show (w.heap.modify b _)[b]? = _
      rw [Array.getElem?_modify]
      simp [hb]
    have hoth : ∀ k, k ≠ b → w1.heap[k]? = w.heap[k]? := fun k hk => by
      show (w.heap.modify b _)[k]? = _
      rw [Array.getElem?_modify, if_neg (Ne.symm hk)]
    obtain ⟨w', hr, hb', hs, ho, r1, r2, r3⟩ := run_storeCellsF vs (l.set (o + i) v) w1 o (i + 1) (fun u hu => hv u (by simp [hu])) (by simpa using hfr) h1 (by simp; omega)
    refine ⟨w', ?_, ?_, by rw [hs]; simp [w1, World.setCell], fun k hk => (ho k hk).trans (hoth k hk), r1, r2, r3⟩
    · have hst : (store ((⟨b, o, none⟩ : Addr).add i) v).run P w = .ok () w1 := by
        rw [add_pl]
        cases v <;> first | (simp only [store, Sem.run, hcell, hfz]; rfl) | (cases hv0; done)
      simp only [storeCells, Sem.run_bind, hst, Result.andThen_ok]
      exact hr
    · rw [hb']
      congr 2
      rw [show o + (i + 1) = o + i + 1 by omega]
      rw [List.take_add_one, List.getElem?_set_self (by omega), List.take_set_of_le (by omega), List.drop_set_of_lt (by omega)]
      simp [Nat.add_assoc, Nat.add_comm 1]

theorem HR.write {P : Program} {w0 w : World} {μ : Mu} {h h' : HP} {b o : Nat} {cs ds : List RV} {t : TypeId} {us : List Value} (r : HR w0 μ h w) (hk : h.get b = some (.mk cs t)) (hl : o + ds.length ≤ cs.length)
    (hy : h'.get b = some (.mk (lay cs o ds) t)) (ho : ∀ j, j ≠ b → h'.get j = h.get j) (hd : VRs μ ds us) (hp : ∀ v ∈ us, plain v = true) {B x : Nat} (hB : μ b = some (B, x)) :
    ∃ w', (storeCells ⟨B, o, none⟩ us).run P w = .ok () w' ∧ HR w0 μ h' w' := by
  obtain ⟨B', x', vs, fr, h0, h1, h2, h3, h4⟩ := r.at_ b cs t hk
  rw [hB] at h0
  cases h0
  have hlu := hd.length
  obtain ⟨w', hr, e1, e2, e3, e4, e5, e6⟩ := run_storeCellsF (P := P) us vs w o 0 hp h4.out h1 (by omega)
  refine ⟨w', hr, ⟨?_, fun k cs' t' hk' => ?_, fun k s p hk' => ?_, r.inj, fun i B y hi => (by rw [e2]; exact r.new i B y hi), fun i hi => ?_⟩⟩
  · exact Below.trans r.gr ⟨e4, e5, e6, by rw [e2]; exact Nat.le_refl _, fun k hk => e3 k (by have := (r.new _ _ _ hB).1; omega)⟩
  · by_cases hkb : k = b
    · subst hkb
      rw [hy] at hk'
      cases hk'
      refine ⟨B, x, _, fr, hB, e1, ?_, ?_, ?_⟩
      · simp [lay]; omega
      · have hll : (lay cs o ds).length = cs.length := by simp [lay]; omega
        rw [hll, Nat.add_zero]
        have e : (vs.take o ++ us ++ vs.drop (o + us.length)).take cs.length = (vs.take cs.length).take o ++ us ++ (vs.take cs.length).drop (o + us.length) := by
          rw [List.take_take, Nat.min_eq_left (by omega), List.append_assoc, List.append_assoc, List.take_append, List.take_of_length_le (by simp; omega)]
          congr 1
          rw [List.take_append, List.take_of_length_le (by simp; omega)]
          congr 1
          rw [List.drop_take]
          congr 1
          simp; omega
        rw [e, hlu]
        unfold lay
        exact ((h3.take o).append hd).append (h3.drop _)
      · have hln : (vs.take (o + 0) ++ us ++ vs.drop (o + 0 + us.length)).length = vs.length := by simp; omega
        rw [hln]; exact h4
    · rw [ho k hkb] at hk'
      obtain ⟨B1, x1, vs1, fr1, g0, g1, g2, g3, g4⟩ := r.at_ k cs' t' hk'
      exact ⟨B1, x1, vs1, fr1, g0, by rw [e3 B1 (fun e => hkb (r.inj k b B1 x1 x g0 (e ▸ hB)))]; exact g1, g2, g3, g4⟩
  · by_cases hkb : k = b
    · subst hkb; rw [hy] at hk'; cases hk'
    · rw [ho k hkb] at hk'
      obtain ⟨g5, B1, x1, g0, g1⟩ := r.it k s p hk'
      exact ⟨g5, B1, x1, g0, by rw [e3 B1 (fun e => hkb (r.inj k b B1 x1 x g0 (e ▸ hB)))]; exact g1⟩
  · by_cases hib : i = b
    · subst hib; rw [hy] at hi; cases hi
    · rw [ho i hib] at hi; exact r.dom i hi
end Go.Ev
