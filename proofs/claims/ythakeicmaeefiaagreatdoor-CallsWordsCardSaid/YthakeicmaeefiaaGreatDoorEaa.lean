/- Operations on memory, III. -/
import Derived.Test.YthakeicmaeefiaaGreatDoorEz
import Derived.Lib.SlBytesConst
set_option linter.unusedVariables false
set_option linter.unusedSimpArgs false
namespace Go.Ev
open Go Go.Sh Go.RowKit
section
variable {P : Program} {μ : Mu}

theorem u8T_out {t : TypeId} (h : u8T P t = true) : ∃ e, P.underlying t = some (.slice e) ∧ P.underlying e = some (.int .u8) := by
  unfold u8T at h
  split at h
  · rename_i e hu
    split at h
    · rename_i he; exact ⟨e, hu, he⟩
    · cases h
  · cases h
theorem strT_out {t : TypeId} (h : strT P t = true) : P.underlying t = some .string := by
  unfold strT at h
  split at h
  · assumption
  · cases h
theorem natsOf_ok : ∀ {l : List RV} {ns : List Nat} {vs : List Value}, natsOf l = some ns → VRs μ l vs → vs = ns.map fun (n : Nat) => Value.int .u8 n
  | [], ns, vs, h, hv => by
    simp only [natsOf, Option.some.injEq] at h
    simp only [VRs] at hv
    subst h hv
    rfl
  | r :: l, ns, vs, h, hv => by
    obtain ⟨v, us, rfl, h1, h2⟩ := hv.out
    unfold natsOf at h
    split at h
    · rename_i hh; cases hh
    · rename_i c r' hh
      cases hh
      rw [Option.map_eq_some_iff] at h
      obtain ⟨m, hm, rfl⟩ := h
      simp only [VR] at h1
      subst h1
      simp only [List.map_cons, natsOf_ok hm h2]
      rfl
    · cases h
theorem foldl_push : ∀ (ns : List Nat) (s : ByteArray), (ns.map fun (n : Nat) => (n : Int)).foldl (fun r n => r.push (UInt8.ofNat n.toNat)) s = ⟨s.data ++ (ns.map UInt8.ofNat).toArray⟩
  | [], s => by simp
  | n :: ns, s => by
    simp only [List.map_cons, List.foldl_cons]
    rw [foldl_push ns]
    simp [ByteArray.push]
theorem toStr_ok {h : HP} {src dst u : TypeId} {b q n c : Nat} {ex : Bool} {cs : List RV} {l : List Nat} (hs : u8T P src = true) (hd : strT P dst = true) (hb : h.get b = some (.mk cs u)) (hl : natsOf ((cs.drop q).take n) = some l)
    (hc : (Nat.ble (q + n) cs.length && l.all (Nat.blt · 256)) = true) {w0 w : World} {v : Value} {K : Value → World → Prop} (hv : VR μ (.slice b q n c ex) v) (hh : HR w0 μ h w) (hK : ∀ x, VR μ (.str l) x → K x w) : NX P (oConvert src dst v) w K := by
  obtain ⟨e, hu, he⟩ := u8T_out hs
  have hdu := strT_out hd
  simp only [Bool.and_eq_true] at hc
  have hle := Nat.le_of_ble_eq_true hc.1
  simp only [VR] at hv
  obtain ⟨B, y, hB, rfl⟩ := hv
  obtain ⟨B', y', vs, hB', hlen, hvr, hcs⟩ := hh.cs (n := n) (o := q) hb hle
  rw [hB] at hB'
  cases hB'
  have hvs := natsOf_ok hl hvr
  have hlc : (loadCells ⟨B, q, none⟩ n).run P w = .ok ((l.map fun (n : Nat) => (n : Int)).map (Value.int .u8)).toArray w := by
    have := run_loadCells_list (P := P) w ⟨B, q, none⟩ vs hcs
    rw [hlen] at this
    rw [this, hvs, List.map_map]
    rfl
  refine NX.val (v := .string (bs (l.map UInt8.ofNat))) (w' := w) ?_ (hK _ ?_)
  · have h1 := run_convert_bytes_string (P := P) w src dst e (some ⟨B, q, none⟩) n (c + bif ex then 0 else y) hu he hdu
    have h2 := run_bytesToString (P := P) w ⟨B, q, none⟩ n (c + bif ex then 0 else y) _ hlc
    simp only [oConvert, vS, Sem.run_bind, h1, h2, Result.andThen_ok]
    show Result.ok _ _ = _
    rw [foldl_push]
    simp [bs, ByteArray.empty, ByteArray.emptyWithCapacity]
    rfl
  · simp only [VR]
    refine ⟨fun x hx => ?_, trivial⟩
    have := List.all_eq_true.1 hc.2 x hx
    simpa [Nat.blt_eq] using this
theorem ofStr_ok {h : HP} {src dst e : TypeId} {s : List Nat} {k : Nat → HP → Bool} (hd : u8T P dst = true) (hs : strT P src = true) (he : elemT P dst = some e) (ek : h.new (s.map fun (c : Nat) => .int .u8 c) e k = true) :
    ∃ b h', k b h' = true ∧ ∀ w0 μ w v (K : Value → World → Prop), VR μ (.str s) v → HR w0 μ h w → (∀ ν v w', Ext μ ν → VR ν (.slice b 0 s.length s.length false) v → HR w0 ν h' w' → K v w') → NX P (oConvert src dst v) w K := by
  obtain ⟨e', hu, he'⟩ := u8T_out hd
  obtain ⟨hu2, _⟩ := elemT_out he
  rw [hu] at hu2
  cases hu2
  have hsu := strT_out hs
  obtain ⟨b, h', hk, g1, g2, g3⟩ := new_spec ek
  refine ⟨b, h', hk, fun w0 μ w v K hv hh hK => ?_⟩
  simp only [VR] at hv
  obtain ⟨hlt, rfl⟩ := hv
  have hsz : (bs (s.map UInt8.ofNat)).size = s.length := by simp [bs, ByteArray.size]
  have hrun := run_bytes_of_string (P := P) w src dst e (bs (s.map UInt8.ofNat)) hsu hu he'
  have hge := grownCap_ge w (bs (s.map UInt8.ofNat)).size 0 e
  have hvr : VRs μ (s.map fun (c : Nat) => RV.int .u8 c) ((s.map UInt8.ofNat).map fun (b : UInt8) => Value.int .u8 b.toNat) := by
    rw [List.map_map]
    refine VRs.map fun c hc => ?_
    simp only [VR, Function.comp]
    rw [UInt8.toNat_ofNat', Nat.mod_eq_of_lt (hlt c hc)]
  obtain ⟨xx, hr⟩ := HR.newMore (μ := μ) (x := grownCap w s.length 0 e - s.length) (w1 := w.drew.alloc (.cells (bytesRow (bs (s.map UInt8.ofNat)) (grownCap w (bs (s.map UInt8.ofNat)).size 0 e)) e
      ((bytesRow (bs (s.map UInt8.ofNat)) (grownCap w (bs (s.map UInt8.ofNat)).size 0 e)).size, (bytesRow (bs (s.map UInt8.ofNat)) (grownCap w (bs (s.map UInt8.ofNat)).size 0 e)).size + 1)))
    (vs := (bytesRow (bs (s.map UInt8.ofNat)) (grownCap w (bs (s.map UInt8.ofNat)).size 0 e)).toList) hh g1 g2 g3 (hh.gr.drew.alloc _)
    (by show w.heap.push _ = _; rw [Array.toArray_toList])
    (by simp [bytesRow, bs]) (by
      have : (bytesRow (bs (s.map UInt8.ofNat)) (grownCap w (bs (s.map UInt8.ofNat)).size 0 e)).toList = ((s.map UInt8.ofNat).map fun (b : UInt8) => Value.int .u8 b.toNat) ++ List.replicate (grownCap w (bs (s.map UInt8.ofNat)).size 0 e - (bs (s.map UInt8.ofNat)).size) (.int .u8 0) := by
        simp [bytesRow, bs]
      rw [this, List.take_left' (by simp)]
      exact hvr) (.inr (by simp))
  refine NX.val (w' := w.drew.alloc _) (by simp only [oConvert, vS, Sem.run_bind, hrun, Result.andThen_ok]; rfl) (hK _ _ _ xx ?_ hr)
  simp only [VR]
  refine ⟨_, _, Mu.set_same _ _ _, ?_⟩
  simp only [cond_false, hsz]
  rw [hsz] at hge
  congr 1
  omega

/-- A block gets a mark behind its last cell. -/
theorem HR.freeze {h : HP} {w0 w : World} {b B x o : Nat} {cs : List RV} {t : TypeId} (hh : HR w0 μ h w) (hb : h.get b = some (.mk cs t)) (hB : μ b = some (B, x)) : 
    ∃ w', (markStringish ⟨B, o, none⟩).run P w = .ok () w' ∧ HR w0 μ h w' := by
  obtain ⟨B', x', vs, fr, h0, h1, h2, h3, h4⟩ := hh.at_ b cs t hb
  rw [hB] at h0
  cases h0
  have hsh : w.shape? B = some (t, vs.length) := by
    unfold World.shape?
    rw [h1]
    simp
  refine ⟨w.freeze ⟨B, vs.length, none⟩ 1, ?_, ?_⟩
  · simp only [markStringish, Sem.run_bind]
    show ((Go.shape B).run P w).andThen _ = _
    have : (Go.shape B).run P w = .ok (some (t, vs.length)) w := by simp [Go.shape, Sem.run, hsh]
    rw [this]
    simp [Result.andThen, Go.freeze, Sem.run]
  · have hm : ∃ fr', (w.freeze ⟨B, vs.length, none⟩ 1).heap[B]? = some (.cells vs.toArray t fr') ∧ FrOK fr' vs.length := by
      unfold World.freeze
      rw [if_neg (by decide)]
      obtain ⟨lo, hi⟩ := fr
      refine ⟨if (lo == hi) = true then (vs.length, vs.length + 1) else (min lo vs.length, max hi (vs.length + 1)), ?_, ?_⟩
      · show (w.heap.modify B _)[B]? = _
        rw [Array.getElem?_modify]
        simp [h1]
      · rcases h4 with h4 | h4
        · cases h4; exact .inr (Nat.le_refl _)
        · split
          · exact .inr (Nat.le_refl _)
          · exact .inr (by simp at h4 ⊢; omega)
    obtain ⟨fr', hm, hm'⟩ := hm
    have ho : ∀ k, k ≠ B → (w.freeze ⟨B, vs.length, none⟩ 1).heap[k]? = w.heap[k]? := fun k hk => by
      unfold World.freeze
      rw [if_neg (by decide)]
      show (w.heap.modify B _)[k]? = _
      rw [Array.getElem?_modify, if_neg (Ne.symm hk)]
    have hs : (w.freeze ⟨B, vs.length, none⟩ 1).heap.size = w.heap.size := by
      unfold World.freeze
      rw [if_neg (by decide)]
      show (w.heap.modify B _).size = _
      simp
    have hf : (w.freeze ⟨B, vs.length, none⟩ 1).os = w.os ∧ (w.freeze ⟨B, vs.length, none⟩ 1).tape = w.tape ∧ (w.freeze ⟨B, vs.length, none⟩ 1).output = w.output := by
      unfold World.freeze
      rw [if_neg (by decide)]
      exact ⟨rfl, rfl, rfl⟩
    refine ⟨?_, fun k cs' t' hk' => ?_, fun k s p hk' => ?_, hh.inj, fun i B y hi => (by rw [hs]; exact hh.new i B y hi), hh.dom⟩
    · exact Below.trans hh.gr ⟨hf.1, hf.2.1, hf.2.2, by rw [hs]; exact Nat.le_refl _, fun k hk => ho k (by have := (hh.new _ _ _ hB).1; omega)⟩
    · by_cases hkb : k = b
      · subst hkb
        rw [hb] at hk'
        cases hk'
        exact ⟨B, x, vs, _, hB, hm, h2, h3, hm'⟩
      · obtain ⟨B1, x1, vs1, fr1, g0, g1, g2, g3, g4⟩ := hh.at_ k cs' t' hk'
        exact ⟨B1, x1, vs1, fr1, g0, by rw [ho B1 (fun e => hkb (hh.inj k b B1 x1 x g0 (e ▸ hB)))]; exact g1, g2, g3, g4⟩
    · obtain ⟨g5, B1, x1, g0, g1⟩ := hh.it k s p hk'
      refine ⟨g5, B1, x1, g0, ?_⟩
      rw [ho B1 (fun e => ?_)]
      · exact g1
      · subst e
        rw [h1] at g1
        cases g1
theorem convSame_ok {h : HP} {t u : TypeId} {b q n c : Nat} {ex : Bool} {cs : List RV} (hd : u8T P t = true) (hb : h.get b = some (.mk cs u)) {w0 w : World} {v : Value} {K : Value → World → Prop} (hv : VR μ (.slice b q n c ex) v) (hh : HR w0 μ h w)
    (hK : ∀ w', HR w0 μ h w' → K v w') : NX P (oConvert t t v) w K := by
  obtain ⟨e, hu, he⟩ := u8T_out hd
  simp only [VR] at hv
  obtain ⟨B, y, hB, rfl⟩ := hv
  obtain ⟨w', hr, hh'⟩ := HR.freeze (P := P) (o := q) hh hb hB
  refine NX.val (w' := w') ?_ (hK w' hh')
  simp [oConvert, vS, convert, run_underlying hu, run_underlying he, hr]

theorem range_ok {h : HP} {t : TypeId} {s : List Nat} {k : Nat → HP → Bool} (ht : P.underlying t = some .string) (ek : h.newB (.iter s 0) k = true) :
    ∃ b h', k b h' = true ∧ ∀ w0 μ w v (K : Value → World → Prop), VR μ (.str s) v → HR w0 μ h w → (∀ ν v w', Ext μ ν → VR ν (.ptr b 0) v → HR w0 ν h' w' → K v w') → NX P (oRange t v) w K := by
  obtain ⟨b, h', hk, g1, g2, g3⟩ := newB_spec ek
  refine ⟨b, h', hk, fun w0 μ w v K hv hh hK => ?_⟩
  simp only [VR] at hv
  obtain ⟨hlt, rfl⟩ := hv
  have hrun := run_range_string (P := P) w t (bs (s.map UInt8.ofNat)) ht
  obtain ⟨xx, hr⟩ := hh.newObj (x := 0) (w1 := w.iter (bs (s.map UInt8.ofNat)) 0) g1 g2 g3 (hh.gr.alloc _) (alloc_size _ _) (fun j hj => alloc_old _ _ hj) ⟨hlt, World.iter_heap _ _ _⟩
  refine NX.val (by simp only [oRange, vS, Sem.run_bind, hrun, Result.andThen_ok]; rfl) (hK _ _ _ xx ?_ hr)
  simp only [VR]
  exact ⟨_, _, Mu.set_same _ _ _, rfl⟩

theorem next_ok {h : HP} {b p c : Nat} {s : List Nat} {k : HP → Bool} (hb : h.get b = some (.iter s p)) (hc : s[p]? = some c) (hlt : c < 128) (ek : (h.t.put dep b (.iter s (p + 1)) fun t => k ⟨t, h.pre, h.n⟩) = true) :
    ∃ h', k h' = true ∧ ∀ w0 μ w v ty (K : Value → World → Prop), VR μ (.ptr b 0) v → HR w0 μ h w → (∀ v w', VR μ (.tup [.bool true, .int .i64 p, .int .i32 c]) v → HR w0 μ h' w' → K v w') → NX P (oNext ty true v) w K := by
  obtain ⟨t', hk, g1, g2⟩ := T.put_spec _ _ _ _ _ ek
  refine ⟨_, hk, fun w0 μ w v ty K hv hh hK => ?_⟩
  simp only [VR] at hv
  obtain ⟨B, y, hB, rfl⟩ := hv
  obtain ⟨hs, B', x, hB', hw⟩ := hh.it b s p hb
  rw [hB] at hB'
  cases hB'
  have hp : p < (bs (s.map UInt8.ofNat)).size := by
    have := (List.getElem?_eq_some_iff.1 hc).1
    simpa [bs, ByteArray.size] using this
  have hbyte : ((bs (s.map UInt8.ofNat))[p]'hp).toNat = c := by
    obtain ⟨h1, h2⟩ := List.getElem?_eq_some_iff.1 hc
    have : (bs (s.map UInt8.ofNat))[p]'hp = UInt8.ofNat c := by
      show (s.map UInt8.ofNat)[p]'(by simpa using h1) = _
      simp [h2]
    rw [this, UInt8.toNat_ofNat', Nat.mod_eq_of_lt (by omega)]
  have hd := decode_ascii (bs (s.map UInt8.ofNat)) p hp (by rw [hbyte]; exact hlt)
  rw [hbyte] at hd
  refine NX.val (v := .tuple #[.bool true, .int .i64 p, .int .i32 c]) (w' := { w with heap := w.heap.setIfInBounds B (.stringIter (bs (s.map UInt8.ofNat)) (p + 1)) }) ?_ (hK _ _ ?_ ?_)
  · simp only [oNext, vS, Instr.next, getObj, setObj, Sem.run_bind, Sem.run, hw, Result.andThen, hp, if_true, hd]
    simp [goInt, Sem.run, hw]
  · simp only [VR]
    exact ⟨_, rfl, VRs.cons (by simp [VR]) (VRs.cons (by simp [VR]) (VRs.cons (by simp [VR]) VRs.nil))⟩
  · have hne : ∀ k, k ≠ B → (w.heap.setIfInBounds B (.stringIter (bs (s.map UInt8.ofNat)) (p + 1)))[k]? = w.heap[k]? := fun k hk => by
      rw [Array.getElem?_setIfInBounds, if_neg (Ne.symm hk)]
    have hBlt := (hh.new _ _ _ hB).2
    refine ⟨?_, fun k cs' t'' hk' => ?_, fun k s' p' hk' => ?_, hh.inj, fun i B y hi => (by simp; exact hh.new i B y hi), fun i hi => ?_⟩
    · exact Below.trans hh.gr ⟨rfl, rfl, rfl, by simp, fun k hk => hne k (by have := (hh.new _ _ _ hB).1; omega)⟩
    · by_cases hkb : k = b
      · subst hkb
        have : some (Blk.iter s (p + 1)) = some (.mk cs' t'') := g1.symm.trans hk'
        cases this
      · have hk2 : h.get k = some (.mk cs' t'') := (g2 k hkb).symm.trans hk'
        obtain ⟨B1, x1, vs1, fr1, e0, e1, e2, e3, e4⟩ := hh.at_ k cs' t'' hk2
        exact ⟨B1, x1, vs1, fr1, e0, by rw [hne B1 (fun e => hkb (hh.inj k b B1 x1 _ e0 (e ▸ hB)))]; exact e1, e2, e3, e4⟩
    · by_cases hkb : k = b
      · subst hkb
        have : some (Blk.iter s (p + 1)) = some (.iter s' p') := g1.symm.trans hk'
        cases this
        exact ⟨hs, B, _, hB, by simp [hBlt]⟩
      · have hk2 : h.get k = some (.iter s' p') := (g2 k hkb).symm.trans hk'
        obtain ⟨e5, B1, x1, e0, e1⟩ := hh.it k s' p' hk2
        exact ⟨e5, B1, x1, e0, by rw [hne B1 (fun e => hkb (hh.inj k b B1 x1 _ e0 (e ▸ hB)))]; exact e1⟩
    · by_cases hib : i = b
      · subst hib
        have : some (Blk.iter s (p + 1)) = none := g1.symm.trans hi
        cases this
      · exact hh.dom i ((g2 i hib).symm.trans hi)
theorem nextEnd_ok {h : HP} {b p : Nat} {s : List Nat} (hb : h.get b = some (.iter s p)) (hc : s[p]? = none) {w0 w : World} {v : Value} {ty : TypeId} {K : Value → World → Prop} (hv : VR μ (.ptr b 0) v) (hh : HR w0 μ h w)
    (hK : ∀ v, VR μ (.tup [.bool false]) v → K v w) : NX P (oNext ty true v) w K := by
  simp only [VR] at hv
  obtain ⟨B, y, hB, rfl⟩ := hv
  obtain ⟨hs, B', x, hB', hw⟩ := hh.it b s p hb
  rw [hB] at hB'
  cases hB'
  have hp : ¬ p < (bs (s.map UInt8.ofNat)).size := by
    have := List.getElem?_eq_none_iff.1 hc
    simp [bs, ByteArray.size]; omega
  refine NX.val (v := .tuple #[.bool false]) (w' := w) ?_ (hK _ ?_)
  · simp [oNext, vS, Instr.next, getObj, Sem.run, hw, hp]
  · simp only [VR]
    exact ⟨_, rfl, VRs.cons (by simp [VR]) VRs.nil⟩
end
end Go.Ev
