/- Operations that only compute, III. -/
import Derived.Test.YthakeicmaeefiaaGreatDoorEw
set_option linter.unusedVariables false
set_option linter.unusedSimpArgs false
namespace Go.Ev
open Go Go.Sh Go.RowKit
section
variable {P : Program} {μ : Mu}
/-- Parts by their places. -/
inductive PR (μ : Mu) : List (Nat × RV) → List (Nat × Value) → Prop
  | nil : PR μ [] []
  | cons {i : Nat} {r : RV} {v : Value} {l : List (Nat × RV)} {m : List (Nat × Value)} (h : VR μ r v) (t : PR μ l m) : PR μ ((i, r) :: l) ((i, v) :: m)
theorem fill_ok {place place' : Nat → Option (Nat × Nat)} (hp : ∀ i x, place i = some x → place' i = some x) : ∀ {ps : List (Nat × RV)} {qs : List (Nat × Value)}, PR μ ps qs → ∀ {cs : List RV} {vs : List Value} {r : List RV},
    layAll place cs ps = some r → VRs μ cs vs → ∃ us, Instr.fill place' vs.toArray qs = some (List.toArray us) ∧ VRs μ r us
  | _, _, .nil, cs, vs, r, h, hv => by
    simp only [layAll, Option.some.injEq] at h
    subst h
    exact ⟨vs, rfl, hv⟩
  | _, _, .cons (i := i) (r := a) (v := v) ha t, cs, vs, r, h, hv => by
    simp only [layAll] at h
    cases hpl : place i with
    | none => rw [hpl] at h; cases h
    | some x =>
      obtain ⟨o, sz⟩ := x
      rw [hpl] at h
      obtain ⟨hc, h⟩ := cond_some h rfl
      simp only [Bool.and_eq_true] at hc
      obtain ⟨hok, hlen, hle⟩ := hc
      have hlen := Nat.eq_of_beq_eq_true hlen
      have hle := Nat.le_of_ble_eq_true hle
      have hcells := ha.cells hok
      have hl1 := hcells.length
      have hl2 := hv.length
      have hsz : v.cells.size = sz := by rw [← Array.length_toList, hl1, hlen]
      have hlay : VRs μ (lay cs o a.cells) (vs.take o ++ v.cells.toList ++ vs.drop (o + v.cells.toList.length)) := by
        unfold lay
        rw [hl1]
        exact ((hv.take o).append hcells).append (hv.drop _)
      obtain ⟨us, h1, h2⟩ := fill_ok hp t h hlay
      refine ⟨us, ?_, h2⟩
      rw [← h1]
      simp only [Instr.fill, hp i _ hpl]
      have hno : (v.cells.size ≠ sz || decide (o + v.cells.size > vs.toArray.size)) = false := by
        simp [hsz]; omega
      have hz : ¬ ((v.cells.size ≠ sz || decide (o + v.cells.size > vs.toArray.size)) = true) := by rw [hno]; simp
      have hf := fold_set v.cells.toList vs o 0 (by rw [Nat.add_zero, Array.length_toList, hsz]; omega)
      have e2 : (v.cells.zipIdx.foldl (fun (cs : Array Value) (p : Value × Nat) => cs.setIfInBounds (o + p.2) p.1) vs.toArray) = (vs.take o ++ v.cells.toList ++ vs.drop (o + v.cells.toList.length)).toArray := by
        rw [← Array.foldl_toList, Array.toList_zipIdx]
        simpa using hf
      have hsz2 : ¬ (o + v.cells.size > vs.length) := by omega
      simp only [hsz, ne_eq, not_true_eq_false, decide_false, Bool.false_or, List.size_toArray, decide_eq_true_eq]
      rw [if_neg (by rw [hsz] at hsz2; simpa using hsz2)]
      congr 1
theorem zero_ok {t : TypeId} (h : ∀ l, zeroT P t = .agg l → True) (hne : zeroT P t ≠ .any) : ∃ z i, P.info? t = some i ∧ i.zero = some z ∧ (∀ w, (zeroValue t).run P w = .ok z w) ∧ VR μ (zeroT P t) z := by
  unfold zeroT at hne ⊢
  cases hi : P.info? t with
  | none => rw [hi] at hne; exact absurd rfl hne
  | some i =>
    rw [hi] at hne
    simp only at hne ⊢
    cases hz : i.zero with
    | none => rw [hz] at hne; exact absurd rfl hne
    | some z =>
      refine ⟨z, i, rfl, hz, fun w => ?_, ofV_ok z⟩
      have h1 : (program).run P w = .ok P w := rfl
      unfold zeroValue typeInfo
      simp only [Sem.run_bind, h1, Result.andThen_ok, hi]
      show (match i.zero with | some v => (pure v : Sem Value) | none => _).run P w = _
      rw [hz]; rfl
theorem mapM_sizes : ∀ (fs : List Field), (∀ f ∈ fs, sizeB P f.type (sizeT P f.type) = true) → ∀ w, (fs.mapM fun f => (do pure (f.offset, ← sizeOf f.type) : Sem (Nat × Nat))).run P w = .ok (fs.map fun f => (f.offset, sizeT P f.type)) w
  | [], _, w => by simp
  | f :: fs, h, w => by
    have h1 := sizeOf_size (w := w) (h f (by simp))
    have h2 := mapM_sizes fs (fun g hg => h g (by simp [hg])) w
    simp only [List.mapM_cons, Sem.run_bind, h1, Result.andThen_ok]
    simp only [bind_pure_comp] at h2 ⊢
    simp [h2]
theorem pu_build {t : TypeId} {ps : List (Nat × RV)} {qs : List (Nat × Value)} {r : List RV} {z : List RV} {fs : Array Field} (hz : zeroT P t = .agg z) (hu : P.underlying t = some (.struct fs))
    (hs : fs.toList.all (fun f => sizeB P f.type (sizeT P f.type)) = true) (h : layAll (fun i => (fs[i]?).map fun f => (f.offset, sizeT P f.type)) z ps = some r) (hp : PR μ ps qs) :
    ∃ us, PU P (oBuild t qs) (.agg (List.toArray us)) ∧ VRs μ r us := by
  obtain ⟨zv, i, _, _, hzv, hvr⟩ := zero_ok (P := P) (μ := μ) (t := t) (fun _ _ => trivial) (by rw [hz]; simp)
  rw [hz] at hvr
  simp only [VR] at hvr
  obtain ⟨zs, rfl, hzs⟩ := hvr
  obtain ⟨us, h1, h2⟩ := fill_ok (place' := ((fs.map fun f => (f.offset, sizeT P f.type))[·]?)) (fun i x hx => by simpa using hx) hp h hzs
  refine ⟨us, fun w => ?_, h2⟩
  have hm := mapM_sizes (P := P) fs.toList (List.all_eq_true.1 hs) w
  have hm' : (fs.mapM fun f => (do pure (f.offset, ← sizeOf f.type) : Sem (Nat × Nat))).run P w = .ok (fs.map fun f => (f.offset, sizeT P f.type)) w := by
    rw [Array.mapM_eq_mapM_toList, Sem.run_map, hm]
    simp
    apply Array.ext'
    simp
  have hc : (Value.agg zs.toArray).cells = zs.toArray := rfl
  simp only [oBuild, vS, Instr.build, Sem.run_bind, hzv, Result.andThen_ok, run_underlying hu, hm', hc, List.toList_toArray, h1]
  rfl
theorem pu_buildA {t n e : TypeId} {ps : List (Nat × RV)} {qs : List (Nat × Value)} {r : List RV} {z : List RV} (hz : zeroT P t = .agg z) (hu : P.underlying t = some (.array n e))
    (hs : sizeB P e (sizeT P e) = true) (h : layAll (fun i => some (i * sizeT P e, sizeT P e)) z ps = some r) (hp : PR μ ps qs) :
    ∃ us, PU P (oBuild t qs) (.agg (List.toArray us)) ∧ VRs μ r us := by
  obtain ⟨zv, i, _, _, hzv, hvr⟩ := zero_ok (P := P) (μ := μ) (t := t) (fun _ _ => trivial) (by rw [hz]; simp)
  rw [hz] at hvr
  simp only [VR] at hvr
  obtain ⟨zs, rfl, hzs⟩ := hvr
  obtain ⟨us, h1, h2⟩ := fill_ok (place' := fun i => some (i * sizeT P e, sizeT P e)) (fun i x hx => hx) hp h hzs
  refine ⟨us, fun w => ?_, h2⟩
  have hc : (Value.agg zs.toArray).cells = zs.toArray := rfl
  simp only [oBuild, vS, Instr.build, Sem.run_bind, hzv, Result.andThen_ok, run_underlying hu, sizeOf_size hs, hc, List.toList_toArray, h1]
  rfl
theorem pu_conv {src dst : TypeId} {k l : IntKind} {i : Int} {u : TypeDesc} (hs : P.underlying src = some u) (hd : P.underlying dst = some (.int k)) : PU P (oConvert src dst (.int l i)) (.int k (k.wrap i)) := fun w => by
  simp [oConvert, vS, convert, run_underlying hs, run_underlying hd, Conv.intToInt]
theorem pu_convS {src dst : TypeId} {s : ByteArray} {u : TypeDesc} (hs : P.underlying src = some u) (hd : P.underlying dst = some .string) : PU P (oConvert src dst (.string s)) (.string s) := fun w => by
  simp [oConvert, vS, convert, run_underlying hs, run_underlying hd]
theorem pu_lenSl {ats : Array TypeId} {t e ty : TypeId} {cs : List Bool} {a : Option Addr} {n c : Nat} (ht : ats[0]? = some t) (hu : P.underlying t = some (.slice e)) :
    PU P (oBuiltin .len ats ty cs [.slice a n c]) (.int .i64 n) := fun w => by
  simp [oBuiltin, builtin, Builtin.len_, ht, run_underlying hu, goInt]
theorem pu_lenStr {ats : Array TypeId} {t ty : TypeId} {cs : List Bool} {s : Str} (ht : ats[0]? = some t) (hu : P.underlying t = some .string) :
    PU P (oBuiltin .len ats ty cs [.string (bs s)]) (.int .i64 s.length) := fun w => by
  have : (oBuiltin .len ats ty cs [.string (bs s)]).run P w = .ok (.value (goInt (bs s).size)) w := by
    simp [oBuiltin, builtin, Builtin.len_, ht, run_underlying hu]
  rw [this]; rfl

theorem minL_ok {k : IntKind} : ∀ {l : List RV} {vs : List Value} {a : Int} {r : RV}, minL k a l = some r → VRs μ l vs → ∃ v, (∀ w, (vs.foldlM Builtin.min2 (.int k a)).run P w = .ok v w) ∧ VR μ r v
  | [], vs, a, r, h, hv => by
    simp only [VRs] at hv; subst hv
    simp only [minL, Option.some.injEq] at h
    subst h
    exact ⟨_, fun w => rfl, by simp [VR]⟩
  | x :: l, vs, a, r, h, hv => by
    obtain ⟨v, us, rfl, h1, h2⟩ := hv.out
    cases x <;> simp only [minL] at h <;> first | (cases h; done) | skip
    rename_i k' b
    obtain ⟨hk, h'⟩ := cond_some h rfl
    have hk := of_decide_eq_true hk
    subst hk
    obtain ⟨v', h3, h4⟩ := minL_ok h' h2
    simp only [VR] at h1
    subst h1
    exact ⟨v', fun w => by simpa [Builtin.min2] using h3 w, h4⟩
theorem maxL_ok {k : IntKind} : ∀ {l : List RV} {vs : List Value} {a : Int} {r : RV}, maxL k a l = some r → VRs μ l vs → ∃ v, (∀ w, (vs.foldlM Builtin.max2 (.int k a)).run P w = .ok v w) ∧ VR μ r v
  | [], vs, a, r, h, hv => by
    simp only [VRs] at hv; subst hv
    simp only [maxL, Option.some.injEq] at h
    subst h
    exact ⟨_, fun w => rfl, by simp [VR]⟩
  | x :: l, vs, a, r, h, hv => by
    obtain ⟨v, us, rfl, h1, h2⟩ := hv.out
    cases x <;> simp only [maxL] at h <;> first | (cases h; done) | skip
    rename_i k' b
    obtain ⟨hk, h'⟩ := cond_some h rfl
    have hk := of_decide_eq_true hk
    subst hk
    obtain ⟨v', h3, h4⟩ := maxL_ok h' h2
    simp only [VR] at h1
    subst h1
    exact ⟨v', fun w => by simpa [Builtin.max2] using h3 w, h4⟩
theorem pu_min {ats : Array TypeId} {ty : TypeId} {cs : List Bool} {x v : Value} {vs : List Value} (h : ∀ w, (vs.foldlM Builtin.min2 x).run P w = .ok v w) : PU P (oBuiltin .min ats ty cs (x :: vs)) v := fun w => by
  simp [oBuiltin, builtin, Builtin.min_, h]
theorem pu_max {ats : Array TypeId} {ty : TypeId} {cs : List Bool} {x v : Value} {vs : List Value} (h : ∀ w, (vs.foldlM Builtin.max2 x).run P w = .ok v w) : PU P (oBuiltin .max ats ty cs (x :: vs)) v := fun w => by
  simp [oBuiltin, builtin, Builtin.max_, h]

theorem PR.map {re : RE} {e : Env} (he : ER μ re e) : ∀ (l : List (Nat × Operand)), PR μ (l.map fun p => (p.1, re.ev p.2)) (l.map fun p => (p.1, e.ev p.2))
  | [] => .nil
  | (i, x) :: l => .cons (he.ev x) (PR.map he l)
theorem optOp {re : RE} {e : Env} (he : ER μ re e) {lo : Option Operand} {d i : Nat} (h : (match lo with | some l => natOf (re.ev l) | none => some d) = some i) :
    (lo.map e.ev = none ∧ i = d) ∨ ∃ k, lo.map e.ev = some (.int k (i : Int)) := by
  cases lo with
  | none => left; simp only [Option.some.injEq] at h; exact ⟨rfl, h.symm⟩
  | some x => right; obtain ⟨k, hk⟩ := natOf_ok h (he.ev x); exact ⟨k, by simp [hk]⟩

theorem evP_ok {o : Oper} {re : RE} {e : Env} {r : RV} (he : ER μ re e) (h : evP P o re = some r) : ∃ v, PU P (opS e.ev o) v ∧ VR μ r v := by
  obtain ⟨dst, op, ty, pos, after, guard⟩ := o
  unfold evP at h
  cases op <;> simp only at h <;> first | (cases h; done) | skip
  case nilCheck x =>
    have hx := he.ev x
    split at h
    · rename_i b p hb
      rw [hb] at hx
      cases h
      have hx0 := hx
      simp only [VR] at hx
      obtain ⟨B, y, hB, hv⟩ := hx
      refine ⟨e.ev x, ?_, hx0⟩
      simp only [opS, hv]
      exact pu_nil
    · rename_i f a c hb
      rw [hb] at hx
      cases h
      have hx0 := hx
      simp only [VR] at hx
      obtain ⟨vs, ws, hv, _⟩ := hx
      refine ⟨e.ev x, ?_, hx0⟩
      simp only [opS, hv]
      exact pu_nilf
    · cases h
  case binOp bop t x y yt => exact bin_ok h (he.ev x) (he.ev y)
  case unOp uop t x =>
    cases uop <;> simp only at h <;> first | (cases h; done) | skip
    have hx := he.ev x
    split at h
    · rename_i b hb
      rw [hb] at hx
      cases h
      simp only [VR] at hx
      refine ⟨.bool (!b), ?_, by simp [VR]⟩
      simp only [opS, hx]
      exact pu_not
    · cases h
  case convert src dst x =>
    have hx := he.ev x
    split at h
    · rename_i l i u k hb hs hd
      rw [hb] at hx
      cases h
      simp only [VR] at hx
      refine ⟨.int k (k.wrap i), ?_, by simp [VR]⟩
      simp only [opS, hx]
      exact pu_conv hs hd
    · rename_i s u hb hs hd
      rw [hb] at hx
      cases h
      have hx0 := hx
      simp only [VR] at hx
      refine ⟨e.ev x, ?_, hx0⟩
      simp only [opS, hx.2]
      exact pu_convS hs hd
    · cases h
  case makeFunc fn first caps =>
    cases fn <;> simp only at h <;> first | (cases h; done) | skip
    cases h
    refine ⟨_, pu_func, ?_⟩
    simp only [VR]
    exact ⟨_, _, rfl, he.evs _, he.evs _⟩
  case fieldAddr s x f =>
    have hx := he.ev x
    split at h
    · rename_i b p hb
      rw [hb] at hx
      replace h := cond_some h rfl
      obtain ⟨hc, h⟩ := h
      cases h
      simp only [VR] at hx
      obtain ⟨B, y, hB, hv⟩ := hx
      refine ⟨.pointer (some ⟨B, p + offT P s f, none⟩), ?_, by simp only [VR]; exact ⟨B, y, hB, rfl⟩⟩
      simp only [opS, hv]
      exact pu_fieldAddr hc
    · cases h
  case field t x f =>
    have hx := he.ev x
    split at h
    · rename_i cs fs hb hu
      rw [hb] at hx
      simp only [VR] at hx
      obtain ⟨vs, hv, hr⟩ := hx
      split at h
      · rename_i y hy
        simp only [opS, hv]
        exact pu_field hu hy h hr
      · cases h
    · cases h
  case indexAddr t x i =>
    have hx := he.ev x
    split at h
    · rename_i b p n c ex j el hb hi hu
      rw [hb] at hx
      obtain ⟨k, hk⟩ := natOf_ok hi (he.ev i)
      replace h := cond_some h rfl
      obtain ⟨hc, h⟩ := h
      simp only [Bool.and_eq_true, Nat.blt_eq] at hc
      cases h
      simp only [VR] at hx
      obtain ⟨B, y, hB, hv⟩ := hx
      refine ⟨.pointer (some ⟨B, p + j * sizeT P el, none⟩), ?_, by simp only [VR]; exact ⟨B, y, hB, rfl⟩⟩
      simp only [opS, hv, hk]
      have := pu_indexAddr (P := P) (t := t) (k := k) (sz := sizeT P el) (b := B) (p := p) (n := n) (c := c + bif ex then 0 else y) (i := (j : Int)) (by unfold sliceB; rw [hu]; exact hc.2) (by omega) (by omega)
      simpa using this
    · rename_i b p j n el hb hi hu
      rw [hb] at hx
      obtain ⟨k, hk⟩ := natOf_ok hi (he.ev i)
      replace h := cond_some h rfl
      obtain ⟨hc, h⟩ := h
      simp only [Bool.and_eq_true, Nat.blt_eq] at hc
      cases h
      simp only [VR] at hx
      obtain ⟨B, y, hB, hv⟩ := hx
      refine ⟨.pointer (some ⟨B, p + j * sizeT P el, none⟩), ?_, by simp only [VR]; exact ⟨B, y, hB, rfl⟩⟩
      simp only [opS, hv, hk]
      exact pu_indexAddrA hu hc.2 hc.1
    · cases h
  case index t x i =>
    have hx := he.ev x
    split at h
    · rename_i cs j n el hb hi hu
      rw [hb] at hx
      obtain ⟨k, hk⟩ := natOf_ok hi (he.ev i)
      replace h := cond_some h rfl
      obtain ⟨hc, h⟩ := h
      simp only [Bool.and_eq_true, Nat.blt_eq] at hc
      simp only [VR] at hx
      obtain ⟨vs, hv, hr⟩ := hx
      simp only [opS, hv, hk]
      exact pu_indexA hu hc.2 hc.1 h hr
    · rename_i s j hb hi hu
      rw [hb] at hx
      obtain ⟨k, hk⟩ := natOf_ok hi (he.ev i)
      simp only [VR] at hx
      split at h
      · rename_i c hc
        cases h
        have hlt := hx.1 c (List.mem_of_getElem? hc)
        refine ⟨.int .u8 c, ?_, by simp [VR]⟩
        simp only [opS, hx.2, hk]
        have := pu_indexS (P := P) (t := t) (k := k) (i := j) (l := s.map UInt8.ofNat) (c := UInt8.ofNat c) hu (by simp [hc])
        rw [UInt8.toNat_ofNat', Nat.mod_eq_of_lt hlt] at this
        exact this
      · cases h
    · cases h
  case extract x i =>
    have hx := he.ev x
    split at h
    · rename_i l hb
      rw [hb] at hx
      simp only [VR] at hx
      obtain ⟨vs, hv, hr⟩ := hx
      obtain ⟨v, h1, h2⟩ := hr.get h
      refine ⟨v, ?_, h2⟩
      simp only [opS, hv]
      exact pu_extract (by simpa using h1)
    · cases h
  case slice t x lo hi mx =>
    have hx := he.ev x
    split at h
    · rename_i s hb hu
      rw [hb] at hx
      simp only [VR] at hx
      try simp only at h
      split at h
      · rename_i l j hl hj
        replace h := cond_some h rfl
        obtain ⟨hc, h⟩ := h
        simp only [Bool.and_eq_true] at hc
        have h1 := Nat.le_of_ble_eq_true hc.1
        have h2 := Nat.le_of_ble_eq_true hc.2
        cases h
        refine ⟨.string (bs (((s.map UInt8.ofNat).take j).drop l)), ?_, ?_⟩
        · simp only [opS, hx.2]
          exact pu_sliceS hu (optOp he hl) (by simpa using optOp he hj) h1 (by simpa using h2)
        · simp only [VR]
          refine ⟨fun c hc => hx.1 c (List.mem_of_mem_take (List.mem_of_mem_drop hc)), ?_⟩
          rw [← List.map_take, ← List.map_drop]
      · cases h
    · rename_i b p n c ex el hb hu
      rw [hb] at hx
      replace h := cond_some h rfl
      obtain ⟨hsz, h⟩ := h
      simp only [VR] at hx
      obtain ⟨B, y, hB, hv⟩ := hx
      try simp only at h
      split at h
      · rename_i m
        split at h
        · rename_i l j m' hi' hl hj hm
          replace h := cond_some h rfl
          obtain ⟨hc, h⟩ := h
          simp only [Bool.and_eq_true] at hc
          have h1 := Nat.le_of_ble_eq_true hc.1
          have h2 := Nat.le_of_ble_eq_true hc.2.1
          have h3 := Nat.le_of_ble_eq_true hc.2.2
          cases h
          obtain ⟨k1, hk1⟩ := natOf_ok hm (he.ev _)
          obtain ⟨k2, hk2⟩ := natOf_ok hj (he.ev _)
          refine ⟨.slice (some (if m' = l then (⟨B, p, none⟩ : Addr) else (⟨B, p, none⟩ : Addr).add (l * sizeT P el))) (j - l) (m' - l), ?_, ?_⟩
          · simp only [opS, hv, Option.map_some, hk1, hk2]
            exact pu_slice3 (sz := sizeT P el) hu hsz (optOp he hl) h1 h2 (by omega)
          · simp only [VR]
            refine ⟨B, y, hB, ?_⟩
            simp only [cond_true, Nat.add_zero, add_pl]
            congr 2
            cases hml : Nat.beq m' l
            · rw [if_neg (fun e => by rw [e, Nat.beq_refl] at hml; cases hml)]; rfl
            · rw [if_pos (Nat.eq_of_beq_eq_true hml)]; rfl
        · cases h
      · split at h
        · rename_i l j hl hj
          replace h := cond_some h rfl
          obtain ⟨hc, h⟩ := h
          simp only [Bool.and_eq_true, Bool.or_eq_true] at hc
          have h1 := Nat.le_of_ble_eq_true hc.1
          have h2 := Nat.le_of_ble_eq_true hc.2.1
          cases h
          refine ⟨.slice (some (if c + (bif ex then 0 else y) = l then (⟨B, p, none⟩ : Addr) else (⟨B, p, none⟩ : Addr).add (l * sizeT P el))) (j - l) (c + (bif ex then 0 else y) - l), ?_, ?_⟩
          · simp only [opS, hv, Option.map_none]
            exact pu_slice2 (sz := sizeT P el) hu hsz (optOp he hl) (optOp he hj) h1 (by omega)
          · simp only [VR]
            refine ⟨B, y, hB, ?_⟩
            simp only [add_pl]
            have ecap : c + (bif ex then 0 else y) - l = c - l + (bif ex then 0 else y) := by omega
            rw [ecap]
            congr 2
            by_cases hcl : c = l
            · subst hcl
              rw [Nat.beq_refl]
              simp only [cond_true]
              rcases hc.2.2 with h5 | h5 | h5
              · rw [Nat.blt_eq] at h5; omega
              · rw [h5]; simp
              · have := Nat.eq_of_beq_eq_true h5
                subst this
                simp
            · have hb2 : Nat.beq c l = false := by cases hh : Nat.beq c l; rfl; exact absurd (Nat.eq_of_beq_eq_true hh) hcl
              rw [hb2]
              simp only [cond_false]
              split
              · rename_i hh
                have : l = 0 ∨ l < c ∨ ex = true := by
                  rcases hc.2.2 with h5 | h5 | h5
                  · rw [Nat.blt_eq] at h5; right; left; exact h5
                  · right; right; exact h5
                  · left; exact Nat.eq_of_beq_eq_true h5
                omega
              · rfl
        · cases h
    · rename_i el hb hu
      rw [hb] at hx
      replace h := cond_some h rfl
      obtain ⟨hsz, h⟩ := h
      simp only [VR] at hx
      try simp only at h
      split at h
      · rename_i hl hj hm
        replace h := cond_some h rfl
        obtain ⟨hc, h⟩ := h
        cases h
        have o1 := optOp (μ := μ) he hl
        have o2 := optOp (μ := μ) he hj
        have o3 := optOp (μ := μ) he hm
        refine ⟨.slice none 0 0, ?_, by simp [VR]⟩
        simp only [opS, hx]
        intro w
        have hlo : lo.map e.ev = none ∨ ∃ k, lo.map e.ev = some (.int k 0) := by
          rcases o1 with ⟨a, _⟩ | ⟨k, a⟩
          · exact .inl a
          · exact .inr ⟨k, a⟩
        have hhi : hi.map e.ev = none ∨ ∃ k, hi.map e.ev = some (.int k 0) := by
          rcases o2 with ⟨a, _⟩ | ⟨k, a⟩
          · exact .inl a
          · exact .inr ⟨k, a⟩
        have hmx : mx.map e.ev = none ∨ ∃ k, mx.map e.ev = some (.int k 0) := by
          rcases o3 with ⟨a, _⟩ | ⟨k, a⟩
          · exact .inl a
          · exact .inr ⟨k, a⟩
        have hmh : mx.map e.ev = none ∨ hi.map e.ev ≠ none := by
          cases mx with
          | none => left; rfl
          | some m => right; cases hi with
            | none => cases hc
            | some x => simp
        rcases hlo with a | ⟨k, a⟩ <;> rcases hhi with b | ⟨k', b⟩ <;> rcases hmx with c | ⟨k'', c⟩ <;> rw [a, b, c] <;>
          first
          | (exfalso; rw [b, c] at hmh; simp at hmh; done)
          | (simp [oSlice, vS, Instr.sliceAt, Instr.slice, Instr.sliceBounds, Instr.sliceBound, asIntOf, run_underlying hu, sizeOf_size hsz]; done)
      · cases h
    · cases h
  case build t ps =>
    split at h
    · rename_i z fs hz hu
      replace h := cond_some h rfl
      obtain ⟨hs, h⟩ := h
      rw [Option.map_eq_some_iff] at h
      obtain ⟨l, h1, rfl⟩ := h
      obtain ⟨us, h2, h3⟩ := pu_build hz hu hs h1 (PR.map he _)
      exact ⟨_, h2, by simp only [VR]; exact ⟨_, rfl, h3⟩⟩
    · rename_i z n el hz hu
      replace h := cond_some h rfl
      obtain ⟨hs, h⟩ := h
      rw [Option.map_eq_some_iff] at h
      obtain ⟨l, h1, rfl⟩ := h
      obtain ⟨us, h2, h3⟩ := pu_buildA hz hu hs h1 (PR.map he _)
      exact ⟨_, h2, by simp only [VR]; exact ⟨_, rfl, h3⟩⟩
    · cases h
  case call c =>
    obtain ⟨callee, args, ats⟩ := c
    simp only at h
    have ha := he.evs args.toList
    cases callee <;> (try simp only at h) <;> first | (cases h; done) | skip
    rename_i b
    cases b <;> (try simp only at h) <;> first | (cases h; done) | skip
    · split at h
      · rename_i b o n c ex el hl hu
        cases h
        rw [hl] at ha
        obtain ⟨v, us, hv, h1, h2⟩ := ha.out
        simp only [VRs] at h2
        subst h2
        simp only [VR] at h1
        obtain ⟨B, y, _, rfl⟩ := h1
        obtain ⟨t, ht, hu⟩ := Option.bind_eq_some_iff.1 hu
        refine ⟨.int .i64 n, ?_, by simp [VR]⟩
        simp only [opS, hv]
        exact pu_lenSl ht hu
      · rename_i el hl hu
        cases h
        rw [hl] at ha
        obtain ⟨v, us, hv, h1, h2⟩ := ha.out
        simp only [VRs] at h2
        subst h2
        simp only [VR] at h1
        subst h1
        obtain ⟨t, ht, hu⟩ := Option.bind_eq_some_iff.1 hu
        refine ⟨.int .i64 0, ?_, by simp [VR]⟩
        simp only [opS, hv]
        exact pu_lenSl ht hu
      · rename_i s hl hu
        cases h
        rw [hl] at ha
        obtain ⟨v, us, hv, h1, h2⟩ := ha.out
        simp only [VRs] at h2
        subst h2
        simp only [VR] at h1
        obtain ⟨_, rfl⟩ := h1
        obtain ⟨t, ht, hu⟩ := Option.bind_eq_some_iff.1 hu
        refine ⟨.int .i64 s.length, ?_, by simp [VR]⟩
        simp only [opS, hv]
        have := pu_lenStr (P := P) (ats := ats) (ty := ty) (cs := args.toList.map isC) (s := s.map UInt8.ofNat) ht hu
        simpa using this
      · cases h
    · split at h
      · rename_i k a l hl
        rw [hl] at ha
        obtain ⟨v, us, hv, h1, h2⟩ := ha.out
        simp only [VR] at h1
        subst h1
        obtain ⟨v, h3, h4⟩ := maxL_ok (P := P) h h2
        refine ⟨v, ?_, h4⟩
        simp only [opS, hv]
        exact pu_max h3
      · cases h
    · split at h
      · rename_i k a l hl
        rw [hl] at ha
        obtain ⟨v, us, hv, h1, h2⟩ := ha.out
        simp only [VR] at h1
        subst h1
        obtain ⟨v, h3, h4⟩ := minL_ok (P := P) h h2
        refine ⟨v, ?_, h4⟩
        simp only [opS, hv]
        exact pu_min h3
      · cases h
end
end Go.Ev
