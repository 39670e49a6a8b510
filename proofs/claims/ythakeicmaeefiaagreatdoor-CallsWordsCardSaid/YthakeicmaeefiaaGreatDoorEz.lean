/- Operations on memory, II. -/
import Derived.Test.YthakeicmaeefiaaGreatDoorEy
set_option linter.unusedVariables false
set_option linter.unusedSimpArgs false
namespace Go.Ev
open Go Go.Sh Go.RowKit
section
variable {P : Program} {μ : Mu}

theorem elemT_out {t e : TypeId} (h : elemT P t = some e) : P.underlying t = some (.slice e) ∧ sizeB P e (sizeT P e) = true := by
  unfold elemT at h
  split at h
  · rename_i el hu
    obtain ⟨hc, h⟩ := cond_some h rfl
    cases h
    exact ⟨hu, hc⟩
  · cases h

theorem buildSlice_ok {h : HP} {t e : TypeId} {n : Nat} {zs cs : List RV} {ps : List (Nat × RV)} {k : Nat → HP → Bool} (he : elemT P t = some e) (hz : zerosT P e n = some zs)
    (hl : layAll (fun i => some (i * sizeT P e, sizeT P e)) zs ps = some cs) (hn : Nat.ble (n * sizeT P e) 16777216 = true) (ek : h.new cs e k = true) :
    ∃ b h', k b h' = true ∧ ∀ w0 μ w qs (K : Value → World → Prop), PR μ ps qs → HR w0 μ h w → (∀ ν v w', Ext μ ν → VR ν (.slice b 0 n n true) v → HR w0 ν h' w' → K v w') → NX P (oBuildSlice t n qs) w K := by
  obtain ⟨b, h', hk, h1, h2, h3⟩ := new_spec ek
  refine ⟨b, h', hk, fun w0 μ w qs K hp hh hK => ?_⟩
  obtain ⟨hu, hs⟩ := elemT_out he
  have hn := Nat.le_of_ble_eq_true hn
  obtain ⟨z, i, hi, hzz, hsz, hzv, hvr, hlen, _⟩ := zerosT_ok (μ := μ) hz
  obtain ⟨us, g1, g2⟩ := fill_ok (place' := fun i => some (i * sizeT P e, sizeT P e)) (fun i x hx => hx) hp hl hvr
  have hl2 := g2.length
  obtain ⟨x, hr⟩ := hh.new_ (x := 0) (vs := us) h1 h2 h3 (by omega) (by rw [List.take_of_length_le (by omega)]; exact g2)
  refine NX.val (v := .slice (some ⟨w.heap.size, 0, none⟩) n n) (w' := w.alloc (.cells us.toArray e)) ?_ (hK _ _ _ x ?_ hr)
  · have hne : ¬ (n * sizeT P e > 2 ^ 24) := by omega
    by_cases h0 : n * sizeT P e = 0
    · have hf : Instr.fill (fun i => some (i * sizeT P e, sizeT P e)) #[] qs = some us.toArray := by
        rw [← g1]; congr 1; simp [h0]
      simp only [oBuildSlice, vS, Instr.buildSlice, Sem.run_bind, run_underlying hu, Result.andThen_ok, sizeOf_size hs, if_neg hne, h0, if_true]
      simp [hf, newRow, newObj, Sem.run, Array.range_zero']
    · have hf : Instr.fill (fun i => some (i * sizeT P e, sizeT P e)) ((Array.range (n * sizeT P e)).map (z.cells[· % z.cells.size]!)) qs = some us.toArray := by
        rw [← g1]
      simp only [oBuildSlice, vS, Instr.buildSlice, Sem.run_bind, run_underlying hu, Result.andThen_ok, sizeOf_size hs, if_neg hne, if_neg h0, hzv]
      simp [hf, newRow, newObj, Sem.run]
  · simp only [VR]
    exact ⟨_, _, Mu.set_same _ _ _, by simp⟩

theorem makeSlice_ok {h : HP} {t e : TypeId} {l c : Nat} {zs : List RV} {k : Nat → HP → Bool} (he : elemT P t = some e) (hz : zerosT P e c = some zs)
    (hn : (Nat.ble l c && (Nat.ble c 10000 && Nat.ble (bytesT P e * c) 281474976710656)) = true) (ek : h.new zs e k = true) :
    ∃ b h', k b h' = true ∧ ∀ w0 μ w kl kc (K : Value → World → Prop), HR w0 μ h w → (∀ ν v w', Ext μ ν → VR ν (.slice b 0 l c true) v → HR w0 ν h' w' → K v w') → NX P (oMakeSlice t (.int kl (l : Int)) (.int kc (c : Int))) w K := by
  obtain ⟨b, h', hk, h1, h2, h3⟩ := new_spec ek
  refine ⟨b, h', hk, fun w0 μ w kl kc K hh hK => ?_⟩
  obtain ⟨hu, hs⟩ := elemT_out he
  simp only [Bool.and_eq_true] at hn
  have hn1 := Nat.le_of_ble_eq_true hn.1
  have hn2 := Nat.le_of_ble_eq_true hn.2.1
  have hn3 := Nat.le_of_ble_eq_true hn.2.2
  obtain ⟨z, i, hi, hzz, hsz, hzv, hvr, hlen, _⟩ := zerosT_ok (μ := μ) hz
  have hbt : bytesT P e = i.bytes := by unfold bytesT; rw [hi]
  have hst : sizeT P e = i.size := by unfold sizeT; rw [hi]
  obtain ⟨x, hr⟩ := hh.new_ (x := 0) (vs := ((Array.range (c * sizeT P e)).map (z.cells[· % z.cells.size]!)).toList) h1 h2 h3 (by rw [hvr.length]; exact Nat.le_refl _) (by rw [List.take_of_length_le (by rw [hvr.length]; exact Nat.le_refl _)]; exact hvr)
  have hb' : (i.bytes : Int) * (c : Int) ≤ 281474976710656 := by
    have h : ((i.bytes * c : Nat) : Int) ≤ 281474976710656 := by rw [← hbt]; omega
    rwa [Int.natCast_mul] at h
  have hm := run_make (P := P) w t e i z hu hi hzz kl kc l c (by omega) (by omega) hb' (by omega)
  refine NX.val (v := .slice (some ⟨w.heap.size, 0, none⟩) l c) ?_ (hK _ _ _ x ?_ hr)
  · simp only [Int.toNat_natCast, ← hst] at hm
    simp only [oMakeSlice, vS, Sem.run_bind, hm, Result.andThen_ok, Array.toArray_toList]
    rfl
  · simp only [VR]
    exact ⟨_, _, Mu.set_same _ _ _, by simp⟩

theorem cellsOf_ok {h : HP} {sz n : Nat} {r : RV} {cs : List RV} (e : cellsOf h sz n r = some cs) : cs.length = n * sz ∧ cs.all plainR = true ∧
    ∀ w0 μ w v, VR μ r v → HR w0 μ h w → ∃ vs, VRs μ cs vs ∧ (∀ w', w'.heap = w.heap → (Builtin.firstCells sz n v).run P w' = .ok vs.toArray w') := by
  unfold cellsOf at e
  split at e
  · obtain ⟨hc, e⟩ := cond_some e rfl
    cases e
    have hc := Nat.eq_of_beq_eq_true hc
    refine ⟨by simp [hc], rfl, fun w0 μ w v hv hh => ⟨[], VRs.nil, fun w' _ => ?_⟩⟩
    simp only [VR] at hv
    subst hv
    exact run_firstCells_none _ _ _ _ _
  · rename_i b o m c ex
    split at e
    · rename_i bs u hb
      obtain ⟨hc, e⟩ := cond_some e rfl
      cases e
      simp only [Bool.and_eq_true] at hc
      have hle := Nat.le_of_ble_eq_true hc.1
      refine ⟨by simp; omega, hc.2, fun w0 μ w v hv hh => ?_⟩
      simp only [VR] at hv
      obtain ⟨B, y, hB, rfl⟩ := hv
      obtain ⟨B', y', vs, hB', hlen, hvr, hcs⟩ := hh.cs (n := n * sz) (o := o) hb hle
      rw [hB] at hB'
      cases hB'
      refine ⟨vs, hvr, fun w' hw' => run_firstCells_some w' sz n _ _ _ vs hlen fun j v hv => ?_⟩
      have := hcs j v hv
      simp only [World.cell?, hw'] at this ⊢
      exact this
    · cases e
  · cases e

theorem lenOf_ok {r : RV} {n : Nat} {v : Value} (e : lenOf r = some n) (hv : VR μ r v) : ∀ w, (Builtin.lenOf v).run P w = .ok n w := by
  unfold lenOf at e
  split at e
  · cases e; simp only [VR] at hv; subst hv; intro w; rfl
  · cases e; simp only [VR] at hv; obtain ⟨B, y, _, rfl⟩ := hv; intro w; rfl
  · cases e

theorem HR.newMore {w0 w w1 : World} {h h' : HP} {b x : Nat} {cs : List RV} {t : TypeId} {vs : List Value} {fr : Nat × Nat} (r : HR w0 μ h w) (hb : h.get b = none) (hy : h'.get b = some (.mk cs t)) (ho : ∀ j, j ≠ b → h'.get j = h.get j)
    (g : Gr w0 w1) (hs : w1.heap = w.heap.push (.cells vs.toArray t fr)) (hv : cs.length ≤ vs.length) (hr : VRs μ cs (vs.take cs.length)) (hf : FrOK fr vs.length) :
    Ext μ (μ.set b (w.heap.size, x)) ∧ HR w0 (μ.set b (w.heap.size, x)) h' w1 :=
  r.newObj hb hy ho g (by rw [hs]; simp) (fun j hj => by rw [hs, Array.getElem?_push, if_neg (by omega)]) ⟨vs, fr, by rw [hs]; simp, hv, hr, hf⟩

theorem run_app_room {t u e el : TypeId} {ats : Array TypeId} {ty : TypeId} {sz n m c : Nat} {base : Option Addr} {xv : Value} {news : Array Value} {w w' : World} (ht : ats[0]? = some t) (hu : P.underlying t = some (.slice e)) (hu1 : ats[1]? = some u) (hue : P.underlying u = some (.slice el))
    (hs : sizeB P e sz = true) (hlen : ∀ w, (Builtin.lenOf xv).run P w = .ok m w) (hf : (Builtin.firstCells sz m xv).run P w = .ok news w) (hle : n + m ≤ c)
    (hst : match base with | some a => (storeCells (a.add (n * sz)) news.toList).run P w = .ok () w' | none => w' = w) :
    (Builtin.append_ ats ty #[.slice base n c, xv]).run P w = .ok (.slice base (n + m) c) w' := by
  cases base with
  | none => subst hst; simp [Builtin.append_, ht, hu1, run_underlying hu, run_underlying hue, sizeOf_size hs, hlen, hle, hf]
  | some a => simp only at hst; simp [Builtin.append_, ht, hu1, run_underlying hu, run_underlying hue, sizeOf_size hs, hlen, hle, hf, hst]
theorem run_app_grow {t u e el : TypeId} {ats : Array TypeId} {ty : TypeId} {sz n m c : Nat} {base : Option Addr} {xv z : Value} {i : TypeInfo} {olds news : Array Value} {w : World} (ht : ats[0]? = some t) (hu : P.underlying t = some (.slice e)) (hu1 : ats[1]? = some u) (hue : P.underlying u = some (.slice el))
    (hs : sizeB P e sz = true) (hi : P.info? e = some i) (hz : i.zero = some z) (hlen : ∀ w, (Builtin.lenOf xv).run P w = .ok m w) (hfo : (Builtin.firstCells sz n (.slice base n c)).run P w.drew = .ok olds w.drew) (hf : (Builtin.firstCells sz m xv).run P w.drew = .ok news w.drew)
    (hg : c < n + m) (h63 : ((n + m : Nat) : Int) ≤ 9223372036854775807) (hfit : Builtin.nextslicecap (n + m) c * i.bytes ≤ 281474976710656) :
    (Builtin.append_ ats ty #[.slice base n c, xv]).run P w = .ok (.slice (some ⟨w.heap.size, 0, none⟩) (n + m) (grownCap w (n + m) c e))
      (w.drew.alloc (.cells (olds ++ news ++ Builtin.zeroCells z.cells (grownCap w (n + m) c e - (n + m))) e)) := by
  have hn : ¬ (n + m ≤ c) := by omega
  have h63' : ¬ (9223372036854775807 < ((n : Int) + (m : Int))) := by omega
  have h48' : ¬ (281474976710656 < Builtin.nextslicecap (n + m) c * i.bytes) := by omega
  have hsz : i.size = sz := by
    unfold sizeB at hs; rw [hi] at hs; exact Nat.eq_of_beq_eq_true hs
  simp [Builtin.append_, ht, hu1, run_underlying hu, run_underlying hue, sizeOf_size hs, typeInfo, zeroValue, hi, hz, hlen, hn, h63', h48', Question.forced, hf, hfo, newRow, grownCap]

/-- 'append', of slices. -/
theorem append_ok {h : HP} {t e : TypeId} {ats : Array TypeId} {s x : RV} {n m : Nat} {k : RV → HP → Bool} (ht : ats[0]? = some t) (he : elemT P t = some e) (hrow : rowT P ats[1]? = true)
    (hz : (zerosT P e 0).isSome = true) (hn : lenOf s = some n) (hm : lenOf x = some m) (ek : appendK P h e s x n m k = true) :
    ∃ r h', k r h' = true ∧ ∀ w0 μ w sv xv ty cs (K : Value → World → Prop), VR μ s sv → VR μ x xv → HR w0 μ h w → (∀ ν v w', Ext μ ν → VR ν r v → HR w0 ν h' w' → K v w') → NX P (oBuiltin .append ats ty cs [sv, xv]) w K := by
  obtain ⟨hu, hs⟩ := elemT_out he
  obtain ⟨u, hu1, el, hue⟩ : ∃ u, ats[1]? = some u ∧ ∃ el, P.underlying u = some (.slice el) := by
    unfold rowT at hrow
    split at hrow
    · rename_i el heq
      obtain ⟨u, h1, h2⟩ := Option.bind_eq_some_iff.1 heq
      exact ⟨u, h1, el, h2⟩
    · cases hrow
  obtain ⟨zs, hz⟩ := Option.isSome_iff_exists.1 hz
  obtain ⟨z, i, hi, hzz, hsz, hzv, _⟩ := zerosT_ok (μ := fun _ => none) hz
  have hbt : bytesT P e = i.bytes := by unfold bytesT; rw [hi]
  have toNX : ∀ {ty cs sv xv w w' v} {K : Value → World → Prop}, (Builtin.append_ ats ty #[sv, xv]).run P w = .ok v w' → K v w' → NX P (oBuiltin .append ats ty cs [sv, xv]) w K := by
    intro ty cs sv xv w w' v K hr hk
    refine NX.val (v := v) (w' := w') ?_ hk
    simp [oBuiltin, builtin, hr]
  unfold appendK at ek
  split at ek
  · -- nil
    simp only [lenOf, Option.some.injEq] at hn
    subst hn
    cases h0 : Nat.beq m 0
    · rw [h0] at ek
      simp only [cond_false] at ek
      split at ek
      · rename_i cs hcs
        cases hb : (Nat.ble (m * bytesT P e) 140737488355328 && Nat.ble m 10000)
        · rw [hb] at ek; cases ek
        · rw [hb] at ek
          simp only [Bool.and_eq_true] at hb
          have hb1 := Nat.le_of_ble_eq_true hb.1
          have hb2 := Nat.le_of_ble_eq_true hb.2
          simp only [cond_true] at ek
          obtain ⟨b, h', hk, g1, g2, g3⟩ := new_spec ek
          have hm0 : 0 < m := by
            rcases Nat.eq_zero_or_pos m with rfl | hh
            · rw [Nat.beq_refl] at h0; cases h0
            · exact hh
          refine ⟨_, _, hk, fun w0 μ w sv xv ty cs' K hsv hxv hh hK => ?_⟩
          simp only [VR] at hsv
          subst hsv
          obtain ⟨c1, c2, c3⟩ := cellsOf_ok hcs
          obtain ⟨vs, hvs, hfc⟩ := c3 w0 μ w xv hxv hh
          have hrun := run_app_grow (P := P) (ty := ty) (n := 0) (m := m) (c := 0) (base := none) (xv := xv) (w := w) ht hu hu1 hue hs hi hzz (lenOf_ok hm hxv) (run_firstCells_none _ _ _ _ _) (hfc w.drew rfl) (by omega) (by omega) (by rw [Nat.zero_add, nextslicecap_zero hm0, ← hbt]; omega)
          have hge := grownCap_ge w (0 + m) 0 e
          have hl := hvs.length
          obtain ⟨xx, hr⟩ := HR.newMore (x := grownCap w (0 + m) 0 e - m) (w1 := w.drew.alloc (.cells (#[] ++ vs.toArray ++ Builtin.zeroCells z.cells (grownCap w (0 + m) 0 e - (0 + m))) e)) (vs := vs ++ (Builtin.zeroCells z.cells (grownCap w (0 + m) 0 e - (0 + m))).toList) (fr := (0, 0)) hh g1 g2 g3 (hh.gr.drew.alloc _)
            (by show w.heap.push _ = _; congr 2; apply Array.ext'; simp) (by simp; omega) (by rw [← hl, List.take_left']; exact hvs; rfl) (.inl rfl)
          refine toNX hrun (hK _ _ _ xx ?_ hr)
          simp only [VR]
          refine ⟨_, _, Mu.set_same _ _ _, ?_⟩
          simp only [cond_false, Nat.zero_add] at hge ⊢
          congr 1
          omega
      · cases ek
    · rw [h0] at ek
      simp only [cond_true] at ek
      refine ⟨_, _, ek, fun w0 μ w sv xv ty cs K hsv hxv hh hK => ?_⟩
      have h0 := Nat.eq_of_beq_eq_true h0
      subst h0
      simp only [VR] at hsv
      subst hsv
      have hf : (Builtin.firstCells (sizeT P e) 0 xv).run P w = .ok #[] w := by
        unfold lenOf at hm
        split at hm
        · simp only [VR] at hxv; subst hxv; exact run_firstCells_none _ _ _ _ _
        · simp only [VR] at hxv
          obtain ⟨B, y, _, rfl⟩ := hxv
          exact run_firstCells_some (P := P) w (sizeT P e) 0 _ _ _ [] (by simp) (fun j v hv => by simp at hv)
        · cases hm
      exact toNX (run_app_room (P := P) (w' := w) ht hu hu1 hue hs (lenOf_ok hm hxv) hf (by omega) rfl) (hK μ _ w (Ext.refl μ) (by simp [VR]) hh)
  · rename_i b o n' c ex
    simp only [lenOf, Option.some.injEq] at hn
    subst hn
    cases hnc : Nat.ble (n' + m) c
    · rw [hnc] at ek
      simp only [cond_false] at ek
      have hlt : c < n' + m := by
        rcases Nat.lt_or_ge c (n' + m) with hh | hh
        · exact hh
        · rw [Nat.ble_eq_true_of_le hh] at hnc; cases hnc
      cases ex
      · cases ek
      · simp only [cond_true] at ek
        split at ek
        · rename_i cs ds hcs hds
          cases hb : (Nat.ble ((n' + m) * bytesT P e) 140737488355328 && Nat.ble (n' + m) 10000)
          · rw [hb] at ek; cases ek
          · rw [hb] at ek
            simp only [Bool.and_eq_true] at hb
            have hb1 := Nat.le_of_ble_eq_true hb.1
            have hb2 := Nat.le_of_ble_eq_true hb.2
            simp only [cond_true, forceN_eq] at ek
            obtain ⟨b', h', hk, g1, g2, g3⟩ := new_spec ek
            refine ⟨_, _, hk, fun w0 μ w sv xv ty cs' K hsv hxv hh hK => ?_⟩
            obtain ⟨c1, c2, c3⟩ := cellsOf_ok hcs
            obtain ⟨d1, d2, d3⟩ := cellsOf_ok hds
            obtain ⟨vs, hvs, hfc⟩ := c3 w0 μ w sv hsv hh
            obtain ⟨us, hus, hfd⟩ := d3 w0 μ w xv hxv hh
            simp only [VR] at hsv
            obtain ⟨B, y, hB, rfl⟩ := hsv
            simp only [cond_true, Nat.add_zero] at hfc ⊢
            have hrun := run_app_grow (P := P) (ty := ty) (n := n') (m := m) (c := c) (base := some ⟨B, o, none⟩) (xv := xv) (w := w) ht hu hu1 hue hs hi hzz (lenOf_ok hm hxv) (hfc w.drew rfl) (hfd w.drew rfl) hlt (by omega) (growslice_fits hlt (by rw [← hbt]; exact hb1))
            have hge := grownCap_ge w (n' + m) c e
            have hl := hvs.length
            have hl2 := hus.length
            obtain ⟨xx, hr⟩ := HR.newMore (x := grownCap w (n' + m) c e - (n' + m)) (w1 := w.drew.alloc (.cells (vs.toArray ++ us.toArray ++ Builtin.zeroCells z.cells (grownCap w (n' + m) c e - (n' + m))) e)) (vs := vs ++ us ++ (Builtin.zeroCells z.cells (grownCap w (n' + m) c e - (n' + m))).toList) (fr := (0, 0)) hh g1 g2 g3 (hh.gr.drew.alloc _)
              (by show w.heap.push _ = _; congr 2; apply Array.ext'; simp) (by simp; omega) (by rw [List.take_left' (by simp; omega)]; exact hvs.append hus) (.inl rfl)
            refine toNX hrun (hK _ _ _ xx ?_ hr)
            simp only [VR]
            refine ⟨_, _, Mu.set_same _ _ _, ?_⟩
            simp only [cond_false]
            congr 1
            omega
        · cases ek
    · rw [hnc] at ek
      simp only [cond_true] at ek
      have hle := Nat.le_of_ble_eq_true hnc
      split at ek
      · rename_i cs bs u' hcs hb
        cases hb2 : Nat.ble (o + (n' + m) * sizeT P e) bs.length
        · rw [hb2] at ek; cases ek
        · rw [hb2] at ek
          have hb2 := Nat.le_of_ble_eq_true hb2
          simp only [cond_true, forceN_eq] at ek
          obtain ⟨h', hk, g1, g2⟩ := set_spec ek
          refine ⟨_, _, hk, fun w0 μ w sv xv ty cs' K hsv hxv hh hK => ?_⟩
          obtain ⟨c1, c2, c3⟩ := cellsOf_ok hcs
          obtain ⟨vs, hvs, hfc⟩ := c3 w0 μ w xv hxv hh
          simp only [VR] at hsv
          obtain ⟨B, y, hB, rfl⟩ := hsv
          rw [Nat.add_mul] at hb2
          obtain ⟨w', hr, hh'⟩ := hh.write (P := P) (o := o + n' * sizeT P e) (ds := cs) (us := vs) hb (by omega) g1 g2 hvs (all_plain hvs c2) hB
          refine toNX (run_app_room (P := P) (w' := w') ht hu hu1 hue hs (lenOf_ok hm hxv) (hfc w rfl) (by omega) ?_) (hK μ _ w' (Ext.refl μ) ?_ hh')
          · simp only [add_pl]; exact hr
          · simp only [VR]; exact ⟨B, y, hB, rfl⟩
      · cases ek
  · cases ek

theorem run_copy_gen {t e : TypeId} {ats : Array TypeId} {ty : TypeId} {sz n m c : Nat} {base : Option Addr} {xv : Value} {news : Array Value} {w w' : World} (ht : ats[0]? = some t) (hu : P.underlying t = some (.slice e)) (hs : sizeB P e sz = true)
    (hlen : ∀ w, (Builtin.lenOf xv).run P w = .ok m w) (hf : (Builtin.firstCells sz (Nat.min m n) xv).run P w = .ok news w)
    (hst : match base with | some a => (storeCells a news.toList).run P w = .ok () w' | none => w' = w) :
    (Builtin.copy_ ats ty #[.slice base n c, xv]).run P w = .ok (.int .i64 (Nat.min m n : Nat)) w' := by
  cases base with
  | none => subst hst; simp [Builtin.copy_, ht, run_underlying hu, sizeOf_size hs, hlen, hf, goInt]
  | some a => simp only at hst; simp [Builtin.copy_, ht, run_underlying hu, sizeOf_size hs, hlen, hf, hst, goInt]
theorem copy_ok {h : HP} {t e : TypeId} {ats : Array TypeId} {d x : RV} {n m : Nat} {k : RV → HP → Bool} (ht : ats[0]? = some t) (he : elemT P t = some e)
    (hn : lenOf d = some n) (hm : lenOf x = some m) (ek : copyK P h e d x n m k = true) :
    ∃ r h', k r h' = true ∧ ∀ w0 μ w dv xv ty cs (K : Value → World → Prop), VR μ d dv → VR μ x xv → HR w0 μ h w → (∀ ν v w', Ext μ ν → VR ν r v → HR w0 ν h' w' → K v w') → NX P (oBuiltin .copy ats ty cs [dv, xv]) w K := by
  obtain ⟨hu, hs⟩ := elemT_out he
  have toNX : ∀ {ty cs sv xv w w' v} {K : Value → World → Prop}, (Builtin.copy_ ats ty #[sv, xv]).run P w = .ok v w' → K v w' → NX P (oBuiltin .copy ats ty cs [sv, xv]) w K := by
    intro ty cs sv xv w w' v K hr hk
    refine NX.val (v := v) (w' := w') ?_ hk
    simp [oBuiltin, builtin, hr]
  unfold copyK at ek
  simp only [forceN_eq] at ek
  split at ek
  · rename_i cs hcs
    simp only [lenOf, Option.some.injEq] at hn
    subst hn
    cases hl : Nat.beq (Nat.min m 0) 0
    · rw [hl] at ek; cases ek
    · rw [hl] at ek
      simp only [cond_true] at ek
      have hl := Nat.eq_of_beq_eq_true hl
      obtain ⟨c1, c2, c3⟩ := cellsOf_ok hcs
      refine ⟨_, _, ek, fun w0 μ w dv xv ty cs' K hd hx hh hK => ?_⟩
      obtain ⟨vs, hvs, hfc⟩ := c3 w0 μ w xv hx hh
      simp only [VR] at hd
      subst hd
      have := run_copy_gen (P := P) (ty := ty) (c := 0) (base := none) (w' := w) ht hu hs (lenOf_ok hm hx) (hfc w rfl) rfl
      rw [hl] at this
      exact toNX this (hK μ _ w (Ext.refl μ) (by simp [VR]) hh)
  · rename_i b o n' c ex cs hcs
    simp only [lenOf, Option.some.injEq] at hn
    subst hn
    split at ek
    · rename_i bs u hb
      cases hb2 : Nat.ble (o + Nat.min m n' * sizeT P e) bs.length
      · rw [hb2] at ek; cases ek
      · rw [hb2] at ek
        have hb2 := Nat.le_of_ble_eq_true hb2
        simp only [cond_true] at ek
        obtain ⟨h', hk, g1, g2⟩ := set_spec ek
        obtain ⟨c1, c2, c3⟩ := cellsOf_ok hcs
        refine ⟨_, _, hk, fun w0 μ w dv xv ty cs' K hd hx hh hK => ?_⟩
        obtain ⟨vs, hvs, hfc⟩ := c3 w0 μ w xv hx hh
        simp only [VR] at hd
        obtain ⟨B, y, hB, rfl⟩ := hd
        obtain ⟨w', hr, hh'⟩ := hh.write (P := P) (o := o) (ds := cs) (us := vs) hb (by omega) g1 g2 hvs (all_plain hvs c2) hB
        exact toNX (run_copy_gen (P := P) (ty := ty) (base := some ⟨B, o, none⟩) (w' := w') ht hu hs (lenOf_ok hm hx) (hfc w rfl) hr) (hK μ _ w' (Ext.refl μ) (by simp [VR]) hh')
    · cases ek
  · cases ek
theorem clear_ok {h : HP} {t e u : TypeId} {ats : Array TypeId} {b q n c : Nat} {ex : Bool} {bs zs : List RV} {k : HP → Bool} (ht : ats[0]? = some t) (he : elemT P t = some e) (hb : h.get b = some (.mk bs u)) (hz : zerosT P e n = some zs)
    (hle : Nat.ble (q + n * sizeT P e) bs.length = true) (ek : h.set b (lay bs q zs) u k = true) :
    ∃ h', k h' = true ∧ ∀ w0 μ w sv ty cs (K : Value → World → Prop), VR μ (.slice b q n c ex) sv → HR w0 μ h w → (∀ v w', HR w0 μ h' w' → K v w') → NX P (oBuiltin .clear ats ty cs [sv]) w K := by
  obtain ⟨hu, hs⟩ := elemT_out he
  obtain ⟨h', hk, g1, g2⟩ := set_spec ek
  refine ⟨h', hk, fun w0 μ w sv ty cs K hsv hh hK => ?_⟩
  obtain ⟨z, i, hi, hzz, hsz, hzv, hvr, hlen, hpl⟩ := zerosT_ok (μ := μ) hz
  have hle := Nat.le_of_ble_eq_true hle
  simp only [VR] at hsv
  obtain ⟨B, y, hB, rfl⟩ := hsv
  obtain ⟨w', hr, hh'⟩ := hh.write (P := P) (o := q) (ds := zs) hb (by omega) g1 g2 hvr (all_plain hvr hpl) hB
  have hzc : (Builtin.zeroCells z.cells n).toList = ((Array.range (n * sizeT P e)).map (z.cells[· % z.cells.size]!)).toList := by
    unfold Builtin.zeroCells; rw [hsz]
  rw [← hzc] at hr
  refine NX.val (v := .tuple #[]) (w' := w') ?_ (hK _ w' hh')
  cases n with
  | zero =>
    have hw : w' = w := by
      have : (Builtin.zeroCells z.cells 0).toList = [] := by simp [Builtin.zeroCells]
      rw [this] at hr
      have h2 : (storeCells (⟨B, q, none⟩ : Addr) []).run P w = .ok () w := rfl
      rw [h2] at hr
      injection hr with _ h3
      exact h3.symm
    subst hw
    simp [oBuiltin, builtin, Builtin.clear_, ht, run_underlying hu]
  | succ n => simp [oBuiltin, builtin, Builtin.clear_, ht, run_underlying hu, hzv, hr]
theorem clearNil_ok {t e : TypeId} {ats : Array TypeId} (ht : ats[0]? = some t) (he : elemT P t = some e) {w : World} {ty : TypeId} {cs : List Bool} {K : Value → World → Prop} (hK : ∀ v, K v w) : NX P (oBuiltin .clear ats ty cs [.slice none 0 0]) w K := by
  obtain ⟨hu, hs⟩ := elemT_out he
  refine NX.val (v := .tuple #[]) (w' := w) ?_ (hK _)
  simp [oBuiltin, builtin, Builtin.clear_, ht, run_underlying hu]
end
end Go.Ev
