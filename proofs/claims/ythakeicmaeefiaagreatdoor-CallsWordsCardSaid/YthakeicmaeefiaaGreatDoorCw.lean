/- Contracts: what an error is called. -/
import Derived.Test.YthakeicmaeefiaaGreatDoorLw
set_option linter.unusedVariables false
set_option linter.unusedSimpArgs false
namespace Go.Proofs.YthakeicmaeefiaaGreatDoor
open Go Go.Sh Go.Ev Go.Proofs
set_option maxRecDepth 100000
theorem ev_calls {f : FuncId} {fu : Fu} {xs : List RV} {r : RV} (hf : tab f = some fu) (e : evCall Tryz.prog tab extT 1000 40 f xs ⟨.e, [], 0⟩ (fun v _ => beqV v r) = true) {vs : List Value} (hv : ∀ μ, VRs μ xs vs) (w : World) :
    Calls Tryz.prog f vs.toArray w fun en w' => ∃ v, en = .returned v ∧ ((∃ ν, VR ν r v) ∧ Gr w w') := by
  obtain ⟨r', h', hk, hh⟩ := evCall_ok Tryz.mixed tab_ok ext_ok 1000 40 f xs _ _ e
  have hr := beqV_eq hk
  subst hr
  have := (hh w (fun _ => none) w vs (fun v w' => (∃ ν, VR ν r' v) ∧ Gr w w') (hv _) (HR.init w) fun ν v w' x hv hr => ⟨⟨ν, hv⟩, hr.gr⟩).out
  obtain ⟨fn, h1, h2, h3, h4, h5, h6⟩ := tab_ok f fu hf
  have hb : fn.body ≠ none := by rw [h2]; simp
  have hn : fn.name ≠ "runtime.NumGoroutine" := by simpa using h5
  have hrun : (callFunc f (List.toArray vs)).run Tryz.prog w = .ok (.enter f vs.toArray) w := by
    have hp : (program).run Tryz.prog w = .ok Tryz.prog w := rfl
    simp [callFunc, hp, h1, hn, hb]
  unfold nx at this
  rw [hrun] at this
  exact this
def wordS (n : Int) : Str :=
  if n = 1 then [105, 110, 118, 97, 108, 105, 100, 32, 97, 114, 103, 117, 109, 101, 110, 116] else
  if n = 3 then [116, 111, 111, 32, 100, 101, 101, 112] else
  if n = 6 then [110, 111, 32, 115, 117, 99, 104, 32, 102, 105, 108, 101, 32, 111, 114, 32, 100, 105, 114, 101, 99, 116, 111, 114, 121] else
  if n = 7 then [102, 105, 108, 101, 32, 101, 120, 105, 115, 116, 115] else
  if n = 8 then [105, 115, 32, 97, 32, 100, 105, 114, 101, 99, 116, 111, 114, 121] else
  if n = 9 then [110, 111, 116, 32, 97, 32, 100, 105, 114, 101, 99, 116, 111, 114, 121] else
  if n = 10 then [112, 101, 114, 109, 105, 115, 115, 105, 111, 110, 32, 100, 101, 110, 105, 101, 100] else
  if n = 11 then [110, 111, 32, 115, 112, 97, 99, 101, 32, 108, 101, 102, 116] else
  if n = 12 then [116, 111, 111, 32, 109, 97, 110, 121, 32, 108, 105, 110, 107, 115] else
  if n = 13 then [110, 97, 109, 101, 32, 116, 111, 111, 32, 108, 111, 110, 103] else
  if n = 14 then [100, 105, 114, 101, 99, 116, 111, 114, 121, 32, 110, 111, 116, 32, 101, 109, 112, 116, 121] else
  if n = 15 then [100, 105, 114, 101, 99, 116, 111, 114, 121, 32, 105, 110, 116, 111, 32, 105, 116, 115, 101, 108, 102] else
  if n = 17 then [102, 105, 108, 101, 32, 116, 111, 111, 32, 108, 97, 114, 103, 101] else
  [101, 114, 114, 111, 114]
def words : List Value := [(.string { data := #[] }), (.string { data := #[105, 110, 118, 97, 108, 105, 100, 32, 97, 114, 103, 117, 109, 101, 110, 116] }), (.string { data := #[] }), (.string { data := #[116, 111, 111, 32, 100, 101, 101, 112] }), (.string { data := #[] }), (.string { data := #[] }), (.string { data := #[110, 111, 32, 115, 117, 99, 104, 32, 102, 105, 108, 101, 32, 111, 114, 32, 100, 105, 114, 101, 99, 116, 111, 114, 121] }), (.string { data := #[102, 105, 108, 101, 32, 101, 120, 105, 115, 116, 115] }), (.string { data := #[105, 115, 32, 97, 32, 100, 105, 114, 101, 99, 116, 111, 114, 121] }), (.string { data := #[110, 111, 116, 32, 97, 32, 100, 105, 114, 101, 99, 116, 111, 114, 121] }), (.string { data := #[112, 101, 114, 109, 105, 115, 115, 105, 111, 110, 32, 100, 101, 110, 105, 101, 100] }), (.string { data := #[110, 111, 32, 115, 112, 97, 99, 101, 32, 108, 101, 102, 116] }), (.string { data := #[116, 111, 111, 32, 109, 97, 110, 121, 32, 108, 105, 110, 107, 115] }), (.string { data := #[110, 97, 109, 101, 32, 116, 111, 111, 32, 108, 111, 110, 103] }), (.string { data := #[100, 105, 114, 101, 99, 116, 111, 114, 121, 32, 110, 111, 116, 32, 101, 109, 112, 116, 121] }), (.string { data := #[100, 105, 114, 101, 99, 116, 111, 114, 121, 32, 105, 110, 116, 111, 32, 105, 116, 115, 101, 108, 102] }), (.string { data := #[] }), (.string { data := #[102, 105, 108, 101, 32, 116, 111, 111, 32, 108, 97, 114, 103, 101] })]
theorem pu_words : PU Tryz.prog (oBuild 99 [(1, (.string { data := #[105, 110, 118, 97, 108, 105, 100, 32, 97, 114, 103, 117, 109, 101, 110, 116] })), (3, (.string { data := #[116, 111, 111, 32, 100, 101, 101, 112] })), (6, (.string { data := #[110, 111, 32, 115, 117, 99, 104, 32, 102, 105, 108, 101, 32, 111, 114, 32, 100, 105, 114, 101, 99, 116, 111, 114, 121] })), (7, (.string { data := #[102, 105, 108, 101, 32, 101, 120, 105, 115, 116, 115] })), (8, (.string { data := #[105, 115, 32, 97, 32, 100, 105, 114, 101, 99, 116, 111, 114, 121] })), (9, (.string { data := #[110, 111, 116, 32, 97, 32, 100, 105, 114, 101, 99, 116, 111, 114, 121] })), (10, (.string { data := #[112, 101, 114, 109, 105, 115, 115, 105, 111, 110, 32, 100, 101, 110, 105, 101, 100] })), (11, (.string { data := #[110, 111, 32, 115, 112, 97, 99, 101, 32, 108, 101, 102, 116] })), (12, (.string { data := #[116, 111, 111, 32, 109, 97, 110, 121, 32, 108, 105, 110, 107, 115] })), (13, (.string { data := #[110, 97, 109, 101, 32, 116, 111, 111, 32, 108, 111, 110, 103] })), (14, (.string { data := #[100, 105, 114, 101, 99, 116, 111, 114, 121, 32, 110, 111, 116, 32, 101, 109, 112, 116, 121] })), (15, (.string { data := #[100, 105, 114, 101, 99, 116, 111, 114, 121, 32, 105, 110, 116, 111, 32, 105, 116, 115, 101, 108, 102] })), (17, (.string { data := #[102, 105, 108, 101, 32, 116, 111, 111, 32, 108, 97, 114, 103, 101] }))]) (.agg words.toArray) := fun w => by kernel_rfl
theorem tab19 : ∃ fu, tab 19 = some fu := by
  cases h : tab 19 with
  | none =>
    have := lives_ev
    have h2 : (tab 19).isSome = true := by kernel_rfl
    rw [h] at h2
    cases h2
  | some fu => exact ⟨fu, rfl⟩
theorem ev19_0 : evCall Tryz.prog tab extT 1000 40 19 [.int .i64 0] ⟨.e, [], 0⟩ (fun v _ => beqV v (.str [101, 114, 114, 111, 114])) = true := by kernel_rfl
theorem ev19_1 : evCall Tryz.prog tab extT 1000 40 19 [.int .i64 1] ⟨.e, [], 0⟩ (fun v _ => beqV v (.str [105, 110, 118, 97, 108, 105, 100, 32, 97, 114, 103, 117, 109, 101, 110, 116])) = true := by kernel_rfl
theorem ev19_2 : evCall Tryz.prog tab extT 1000 40 19 [.int .i64 2] ⟨.e, [], 0⟩ (fun v _ => beqV v (.str [101, 114, 114, 111, 114])) = true := by kernel_rfl
theorem ev19_3 : evCall Tryz.prog tab extT 1000 40 19 [.int .i64 3] ⟨.e, [], 0⟩ (fun v _ => beqV v (.str [116, 111, 111, 32, 100, 101, 101, 112])) = true := by kernel_rfl
theorem ev19_4 : evCall Tryz.prog tab extT 1000 40 19 [.int .i64 4] ⟨.e, [], 0⟩ (fun v _ => beqV v (.str [101, 114, 114, 111, 114])) = true := by kernel_rfl
theorem ev19_5 : evCall Tryz.prog tab extT 1000 40 19 [.int .i64 5] ⟨.e, [], 0⟩ (fun v _ => beqV v (.str [101, 114, 114, 111, 114])) = true := by kernel_rfl
theorem ev19_6 : evCall Tryz.prog tab extT 1000 40 19 [.int .i64 6] ⟨.e, [], 0⟩ (fun v _ => beqV v (.str [110, 111, 32, 115, 117, 99, 104, 32, 102, 105, 108, 101, 32, 111, 114, 32, 100, 105, 114, 101, 99, 116, 111, 114, 121])) = true := by kernel_rfl
theorem ev19_7 : evCall Tryz.prog tab extT 1000 40 19 [.int .i64 7] ⟨.e, [], 0⟩ (fun v _ => beqV v (.str [102, 105, 108, 101, 32, 101, 120, 105, 115, 116, 115])) = true := by kernel_rfl
theorem ev19_8 : evCall Tryz.prog tab extT 1000 40 19 [.int .i64 8] ⟨.e, [], 0⟩ (fun v _ => beqV v (.str [105, 115, 32, 97, 32, 100, 105, 114, 101, 99, 116, 111, 114, 121])) = true := by kernel_rfl
theorem ev19_9 : evCall Tryz.prog tab extT 1000 40 19 [.int .i64 9] ⟨.e, [], 0⟩ (fun v _ => beqV v (.str [110, 111, 116, 32, 97, 32, 100, 105, 114, 101, 99, 116, 111, 114, 121])) = true := by kernel_rfl
theorem ev19_10 : evCall Tryz.prog tab extT 1000 40 19 [.int .i64 10] ⟨.e, [], 0⟩ (fun v _ => beqV v (.str [112, 101, 114, 109, 105, 115, 115, 105, 111, 110, 32, 100, 101, 110, 105, 101, 100])) = true := by kernel_rfl
theorem ev19_11 : evCall Tryz.prog tab extT 1000 40 19 [.int .i64 11] ⟨.e, [], 0⟩ (fun v _ => beqV v (.str [110, 111, 32, 115, 112, 97, 99, 101, 32, 108, 101, 102, 116])) = true := by kernel_rfl
theorem ev19_12 : evCall Tryz.prog tab extT 1000 40 19 [.int .i64 12] ⟨.e, [], 0⟩ (fun v _ => beqV v (.str [116, 111, 111, 32, 109, 97, 110, 121, 32, 108, 105, 110, 107, 115])) = true := by kernel_rfl
theorem ev19_13 : evCall Tryz.prog tab extT 1000 40 19 [.int .i64 13] ⟨.e, [], 0⟩ (fun v _ => beqV v (.str [110, 97, 109, 101, 32, 116, 111, 111, 32, 108, 111, 110, 103])) = true := by kernel_rfl
theorem ev19_14 : evCall Tryz.prog tab extT 1000 40 19 [.int .i64 14] ⟨.e, [], 0⟩ (fun v _ => beqV v (.str [100, 105, 114, 101, 99, 116, 111, 114, 121, 32, 110, 111, 116, 32, 101, 109, 112, 116, 121])) = true := by kernel_rfl
theorem ev19_15 : evCall Tryz.prog tab extT 1000 40 19 [.int .i64 15] ⟨.e, [], 0⟩ (fun v _ => beqV v (.str [100, 105, 114, 101, 99, 116, 111, 114, 121, 32, 105, 110, 116, 111, 32, 105, 116, 115, 101, 108, 102])) = true := by kernel_rfl
theorem ev19_16 : evCall Tryz.prog tab extT 1000 40 19 [.int .i64 16] ⟨.e, [], 0⟩ (fun v _ => beqV v (.str [101, 114, 114, 111, 114])) = true := by kernel_rfl
theorem ev19_17 : evCall Tryz.prog tab extT 1000 40 19 [.int .i64 17] ⟨.e, [], 0⟩ (fun v _ => beqV v (.str [102, 105, 108, 101, 32, 116, 111, 111, 32, 108, 97, 114, 103, 101])) = true := by kernel_rfl
theorem c19_of {n : Int} {l : List Nat} (e : evCall Tryz.prog tab extT 1000 40 19 [.int .i64 n] ⟨.e, [], 0⟩ (fun v _ => beqV v (.str l)) = true) (hl : l.map UInt8.ofNat = wordS n) (w : World) :
    Calls Tryz.prog 19 #[.int .i64 n] w fun en w' => ∃ v, en = .returned v ∧ (v = .string (bs (wordS n)) ∧ Gr w w') := by
  obtain ⟨fu, hf⟩ := tab19
  refine (ev_calls hf e (vs := [.int .i64 n]) (fun μ => VRs.cons (by simp [VR]) VRs.nil) w).mono ?_
  rintro en w' ⟨v, he, ⟨ν, hv⟩, hg⟩
  refine ⟨v, he, ?_, hg⟩
  simp only [VR] at hv
  rw [hv.2, hl]
theorem c_Word (n : Int) (w : World) : Calls Tryz.prog 19 #[.int .i64 n] w fun en w' => ∃ v, en = .returned v ∧ (v = .string (bs (wordS n)) ∧ Gr w w') := by
  by_cases h : 0 ≤ n ∧ n < 18
  · have hn : n = 0 ∨ n = 1 ∨ n = 2 ∨ n = 3 ∨ n = 4 ∨ n = 5 ∨ n = 6 ∨ n = 7 ∨ n = 8 ∨ n = 9 ∨ n = 10 ∨ n = 11 ∨ n = 12 ∨ n = 13 ∨ n = 14 ∨ n = 15 ∨ n = 16 ∨ n = 17 := by omega
    rcases hn with rfl | rfl | rfl | rfl | rfl | rfl | rfl | rfl | rfl | rfl | rfl | rfl | rfl | rfl | rfl | rfl | rfl | rfl
    · exact c19_of ev19_0 rfl w
    · exact c19_of ev19_1 rfl w
    · exact c19_of ev19_2 rfl w
    · exact c19_of ev19_3 rfl w
    · exact c19_of ev19_4 rfl w
    · exact c19_of ev19_5 rfl w
    · exact c19_of ev19_6 rfl w
    · exact c19_of ev19_7 rfl w
    · exact c19_of ev19_8 rfl w
    · exact c19_of ev19_9 rfl w
    · exact c19_of ev19_10 rfl w
    · exact c19_of ev19_11 rfl w
    · exact c19_of ev19_12 rfl w
    · exact c19_of ev19_13 rfl w
    · exact c19_of ev19_14 rfl w
    · exact c19_of ev19_15 rfl w
    · exact c19_of ev19_16 rfl w
    · exact c19_of ev19_17 rfl w
  · have hw : wordS n = [101, 114, 114, 111, 114] := by
      unfold wordS
      rw [if_neg (by omega), if_neg (by omega), if_neg (by omega), if_neg (by omega), if_neg (by omega), if_neg (by omega), if_neg (by omega), if_neg (by omega), if_neg (by omega), if_neg (by omega), if_neg (by omega), if_neg (by omega), if_neg (by omega)]
    refine G19_ok ?_
    unfold G19
    have g := Gr.refl w
    have x := Bx.nil w.heap.size w
    simp only [↓ nx_pu pu_words]
    refine NX.alloca g x zero_99 ?_
    intro b w1 hb g x
    refine NX.store (k := 18) g x (i := 0) rfl (sizeB_agg agg_99) rfl (by kernel_rfl) (by decide) ?_
    intro w1 g x
    simp only [↓nx_lss, ↓nx_leq, ↓nx_gtr, ↓nx_geq, ↓nx_eql, ↓nx_neq, ↓nx_not, ↓nx_pick, ↓nx_nil, ↓nx_nilf, ↓nx_seql, ↓nx_sneq, ↓nx_sgeq, ↓nx_func, ↓nx_and, ↓nx_or, ↓nx_andNot, ↓nx_ex0, ↓nx_ex1, ↓nx_ex2, ↓fx_lss, ↓fx_leq, ↓fx_gtr, ↓fx_geq, ↓fx_eql, ↓fx_neq, ↓fx_not, ↓fx_pick, ↓fx_nil, ↓fx_nilf, ↓fx_seql, ↓fx_sneq, ↓fx_sgeq, ↓fx_func, ↓fx_and, ↓fx_or, ↓fx_andNot, ↓fx_ex0, ↓fx_ex1, ↓fx_ex2, ↓ifb_tt, ↓ifb_ff, ↓nx_fa_24_0, ↓nx_fa_24_1, ↓nx_fa_32_0, ↓nx_fa_32_1, ↓nx_fa_32_2, ↓nx_fa_32_3, ↓nx_fa_34_0, ↓nx_fa_34_1, ↓nx_fa_34_2, ↓nx_fa_34_3, ↓nx_fa_34_4, ↓nx_fa_34_5, ↓nx_fa_34_6, ↓nx_fa_34_7, ↓nx_fa_34_8, ↓nx_fa_44_0, ↓nx_fa_44_1, ↓nx_fa_44_2, ↓nx_fa_44_3, ↓nx_fa_44_4, ↓nx_fa_44_5, ↓nx_fa_44_6, ↓nx_fa_44_7, ↓nx_fa_44_8, ↓nx_fa_44_9, ↓nx_fa_49_0, ↓nx_fa_49_1, ↓nx_fa_49_2, ↓nx_fa_49_3, ↓nx_fa_52_0, ↓nx_fa_52_1, ↓nx_fa_52_2, ↓nx_fa_52_5, ↓nx_fa_52_6, ↓nx_fa_59_0, ↓nx_fa_59_1, ↓nx_fa_59_2, ↓nx_fa_80_0, ↓nx_fa_80_1, ↓nx_fa_80_2, ↓nx_fa_80_3, ↓nx_fa_82_0, ↓nx_fa_82_1, ↓nx_fa_82_2, ↓nx_fa_82_3, ↓nx_fa_82_4, ↓nx_fa_93_0, ↓nx_fa_93_1, ↓nx_fa_106_0, ↓nx_fa_106_1, ↓nx_fa_106_2, ↓nx_fa_106_3, ↓nx_fa_159_0, ↓nx_fa_159_1, ↓nx_len_22, ↓nx_len_25, ↓nx_len_30, ↓nx_len_42, ↓nx_len_69, ↓nx_len_104, ↓nx_slen_9, ↓fx_fa_24_0, ↓fx_fa_24_1, ↓fx_fa_32_0, ↓fx_fa_32_1, ↓fx_fa_32_2, ↓fx_fa_32_3, ↓fx_fa_34_0, ↓fx_fa_34_1, ↓fx_fa_34_2, ↓fx_fa_34_3, ↓fx_fa_34_4, ↓fx_fa_34_5, ↓fx_fa_34_6, ↓fx_fa_34_7, ↓fx_fa_34_8, ↓fx_fa_44_0, ↓fx_fa_44_1, ↓fx_fa_44_2, ↓fx_fa_44_3, ↓fx_fa_44_4, ↓fx_fa_44_5, ↓fx_fa_44_6, ↓fx_fa_44_7, ↓fx_fa_44_8, ↓fx_fa_44_9, ↓fx_fa_49_0, ↓fx_fa_49_1, ↓fx_fa_49_2, ↓fx_fa_49_3, ↓fx_fa_52_0, ↓fx_fa_52_1, ↓fx_fa_52_2, ↓fx_fa_52_5, ↓fx_fa_52_6, ↓fx_fa_59_0, ↓fx_fa_59_1, ↓fx_fa_59_2, ↓fx_fa_80_0, ↓fx_fa_80_1, ↓fx_fa_80_2, ↓fx_fa_80_3, ↓fx_fa_82_0, ↓fx_fa_82_1, ↓fx_fa_82_2, ↓fx_fa_82_3, ↓fx_fa_82_4, ↓fx_fa_93_0, ↓fx_fa_93_1, ↓fx_fa_106_0, ↓fx_fa_106_1, ↓fx_fa_106_2, ↓fx_fa_106_3, ↓fx_fa_159_0, ↓fx_fa_159_1, ↓fx_len_22, ↓fx_len_25, ↓fx_len_30, ↓fx_len_42, ↓fx_len_69, ↓fx_len_104, ↓fx_slen_9, Nat.zero_add, Nat.reduceAdd, ite_true, ite_false, if_true, if_false, reduceIte, Bool.not_true, Bool.not_false, Bool.false_eq_true]
    by_cases h1 : n < 0
    · simp only [h1, decide_true, ifb_tt, hw]
      exact ⟨trivial, g⟩
    · have h2 : 18 ≤ n := by omega
      simp only [h1, decide_false, ifb_ff, h2, decide_true, ifb_tt, hw, ↓nx_lss, ↓nx_leq, ↓nx_gtr, ↓nx_geq, ↓nx_eql, ↓nx_neq, ↓nx_not, ↓nx_pick, ↓nx_nil, ↓nx_nilf, ↓nx_seql, ↓nx_sneq, ↓nx_sgeq, ↓nx_func, ↓nx_and, ↓nx_or, ↓nx_andNot, ↓nx_ex0, ↓nx_ex1, ↓nx_ex2, ↓fx_lss, ↓fx_leq, ↓fx_gtr, ↓fx_geq, ↓fx_eql, ↓fx_neq, ↓fx_not, ↓fx_pick, ↓fx_nil, ↓fx_nilf, ↓fx_seql, ↓fx_sneq, ↓fx_sgeq, ↓fx_func, ↓fx_and, ↓fx_or, ↓fx_andNot, ↓fx_ex0, ↓fx_ex1, ↓fx_ex2, ↓ifb_tt, ↓ifb_ff, ↓nx_fa_24_0, ↓nx_fa_24_1, ↓nx_fa_32_0, ↓nx_fa_32_1, ↓nx_fa_32_2, ↓nx_fa_32_3, ↓nx_fa_34_0, ↓nx_fa_34_1, ↓nx_fa_34_2, ↓nx_fa_34_3, ↓nx_fa_34_4, ↓nx_fa_34_5, ↓nx_fa_34_6, ↓nx_fa_34_7, ↓nx_fa_34_8, ↓nx_fa_44_0, ↓nx_fa_44_1, ↓nx_fa_44_2, ↓nx_fa_44_3, ↓nx_fa_44_4, ↓nx_fa_44_5, ↓nx_fa_44_6, ↓nx_fa_44_7, ↓nx_fa_44_8, ↓nx_fa_44_9, ↓nx_fa_49_0, ↓nx_fa_49_1, ↓nx_fa_49_2, ↓nx_fa_49_3, ↓nx_fa_52_0, ↓nx_fa_52_1, ↓nx_fa_52_2, ↓nx_fa_52_5, ↓nx_fa_52_6, ↓nx_fa_59_0, ↓nx_fa_59_1, ↓nx_fa_59_2, ↓nx_fa_80_0, ↓nx_fa_80_1, ↓nx_fa_80_2, ↓nx_fa_80_3, ↓nx_fa_82_0, ↓nx_fa_82_1, ↓nx_fa_82_2, ↓nx_fa_82_3, ↓nx_fa_82_4, ↓nx_fa_93_0, ↓nx_fa_93_1, ↓nx_fa_106_0, ↓nx_fa_106_1, ↓nx_fa_106_2, ↓nx_fa_106_3, ↓nx_fa_159_0, ↓nx_fa_159_1, ↓nx_len_22, ↓nx_len_25, ↓nx_len_30, ↓nx_len_42, ↓nx_len_69, ↓nx_len_104, ↓nx_slen_9, ↓fx_fa_24_0, ↓fx_fa_24_1, ↓fx_fa_32_0, ↓fx_fa_32_1, ↓fx_fa_32_2, ↓fx_fa_32_3, ↓fx_fa_34_0, ↓fx_fa_34_1, ↓fx_fa_34_2, ↓fx_fa_34_3, ↓fx_fa_34_4, ↓fx_fa_34_5, ↓fx_fa_34_6, ↓fx_fa_34_7, ↓fx_fa_34_8, ↓fx_fa_44_0, ↓fx_fa_44_1, ↓fx_fa_44_2, ↓fx_fa_44_3, ↓fx_fa_44_4, ↓fx_fa_44_5, ↓fx_fa_44_6, ↓fx_fa_44_7, ↓fx_fa_44_8, ↓fx_fa_44_9, ↓fx_fa_49_0, ↓fx_fa_49_1, ↓fx_fa_49_2, ↓fx_fa_49_3, ↓fx_fa_52_0, ↓fx_fa_52_1, ↓fx_fa_52_2, ↓fx_fa_52_5, ↓fx_fa_52_6, ↓fx_fa_59_0, ↓fx_fa_59_1, ↓fx_fa_59_2, ↓fx_fa_80_0, ↓fx_fa_80_1, ↓fx_fa_80_2, ↓fx_fa_80_3, ↓fx_fa_82_0, ↓fx_fa_82_1, ↓fx_fa_82_2, ↓fx_fa_82_3, ↓fx_fa_82_4, ↓fx_fa_93_0, ↓fx_fa_93_1, ↓fx_fa_106_0, ↓fx_fa_106_1, ↓fx_fa_106_2, ↓fx_fa_106_3, ↓fx_fa_159_0, ↓fx_fa_159_1, ↓fx_len_22, ↓fx_len_25, ↓fx_len_30, ↓fx_len_42, ↓fx_len_69, ↓fx_len_104, ↓fx_slen_9, Nat.zero_add, Nat.reduceAdd, ite_true, ite_false, if_true, if_false, reduceIte, Bool.not_true, Bool.not_false, Bool.false_eq_true]
      exact ⟨trivial, g⟩
theorem c_refWord (n : Int) (w : World) : Calls Tryz.prog 20 #[.int .i64 n] w fun en w' => ∃ v, en = .returned v ∧ (v = .string (bs (wordS n)) ∧ Gr w w') := by
  refine G20_ok ?_
  unfold G20 wordS
  have g := Gr.refl w
  simp only [↓nx_lss, ↓nx_leq, ↓nx_gtr, ↓nx_geq, ↓nx_eql, ↓nx_neq, ↓nx_not, ↓nx_pick, ↓nx_nil, ↓nx_nilf, ↓nx_seql, ↓nx_sneq, ↓nx_sgeq, ↓nx_func, ↓nx_and, ↓nx_or, ↓nx_andNot, ↓nx_ex0, ↓nx_ex1, ↓nx_ex2, ↓fx_lss, ↓fx_leq, ↓fx_gtr, ↓fx_geq, ↓fx_eql, ↓fx_neq, ↓fx_not, ↓fx_pick, ↓fx_nil, ↓fx_nilf, ↓fx_seql, ↓fx_sneq, ↓fx_sgeq, ↓fx_func, ↓fx_and, ↓fx_or, ↓fx_andNot, ↓fx_ex0, ↓fx_ex1, ↓fx_ex2, ↓ifb_tt, ↓ifb_ff, ↓nx_fa_24_0, ↓nx_fa_24_1, ↓nx_fa_32_0, ↓nx_fa_32_1, ↓nx_fa_32_2, ↓nx_fa_32_3, ↓nx_fa_34_0, ↓nx_fa_34_1, ↓nx_fa_34_2, ↓nx_fa_34_3, ↓nx_fa_34_4, ↓nx_fa_34_5, ↓nx_fa_34_6, ↓nx_fa_34_7, ↓nx_fa_34_8, ↓nx_fa_44_0, ↓nx_fa_44_1, ↓nx_fa_44_2, ↓nx_fa_44_3, ↓nx_fa_44_4, ↓nx_fa_44_5, ↓nx_fa_44_6, ↓nx_fa_44_7, ↓nx_fa_44_8, ↓nx_fa_44_9, ↓nx_fa_49_0, ↓nx_fa_49_1, ↓nx_fa_49_2, ↓nx_fa_49_3, ↓nx_fa_52_0, ↓nx_fa_52_1, ↓nx_fa_52_2, ↓nx_fa_52_5, ↓nx_fa_52_6, ↓nx_fa_59_0, ↓nx_fa_59_1, ↓nx_fa_59_2, ↓nx_fa_80_0, ↓nx_fa_80_1, ↓nx_fa_80_2, ↓nx_fa_80_3, ↓nx_fa_82_0, ↓nx_fa_82_1, ↓nx_fa_82_2, ↓nx_fa_82_3, ↓nx_fa_82_4, ↓nx_fa_93_0, ↓nx_fa_93_1, ↓nx_fa_106_0, ↓nx_fa_106_1, ↓nx_fa_106_2, ↓nx_fa_106_3, ↓nx_fa_159_0, ↓nx_fa_159_1, ↓nx_len_22, ↓nx_len_25, ↓nx_len_30, ↓nx_len_42, ↓nx_len_69, ↓nx_len_104, ↓nx_slen_9, ↓fx_fa_24_0, ↓fx_fa_24_1, ↓fx_fa_32_0, ↓fx_fa_32_1, ↓fx_fa_32_2, ↓fx_fa_32_3, ↓fx_fa_34_0, ↓fx_fa_34_1, ↓fx_fa_34_2, ↓fx_fa_34_3, ↓fx_fa_34_4, ↓fx_fa_34_5, ↓fx_fa_34_6, ↓fx_fa_34_7, ↓fx_fa_34_8, ↓fx_fa_44_0, ↓fx_fa_44_1, ↓fx_fa_44_2, ↓fx_fa_44_3, ↓fx_fa_44_4, ↓fx_fa_44_5, ↓fx_fa_44_6, ↓fx_fa_44_7, ↓fx_fa_44_8, ↓fx_fa_44_9, ↓fx_fa_49_0, ↓fx_fa_49_1, ↓fx_fa_49_2, ↓fx_fa_49_3, ↓fx_fa_52_0, ↓fx_fa_52_1, ↓fx_fa_52_2, ↓fx_fa_52_5, ↓fx_fa_52_6, ↓fx_fa_59_0, ↓fx_fa_59_1, ↓fx_fa_59_2, ↓fx_fa_80_0, ↓fx_fa_80_1, ↓fx_fa_80_2, ↓fx_fa_80_3, ↓fx_fa_82_0, ↓fx_fa_82_1, ↓fx_fa_82_2, ↓fx_fa_82_3, ↓fx_fa_82_4, ↓fx_fa_93_0, ↓fx_fa_93_1, ↓fx_fa_106_0, ↓fx_fa_106_1, ↓fx_fa_106_2, ↓fx_fa_106_3, ↓fx_fa_159_0, ↓fx_fa_159_1, ↓fx_len_22, ↓fx_len_25, ↓fx_len_30, ↓fx_len_42, ↓fx_len_69, ↓fx_len_104, ↓fx_slen_9, Nat.zero_add, Nat.reduceAdd, ite_true, ite_false, if_true, if_false, reduceIte, Bool.not_true, Bool.not_false, Bool.false_eq_true]
  refine IFB.beq (fun h => ?_) (fun h => ?_)
  · subst h; exact ⟨rfl, g⟩
  rw [if_neg h]
  refine IFB.beq (fun h => ?_) (fun h => ?_)
  · subst h; exact ⟨rfl, g⟩
  rw [if_neg h]
  refine IFB.beq (fun h => ?_) (fun h => ?_)
  · subst h; exact ⟨rfl, g⟩
  rw [if_neg h]
  refine IFB.beq (fun h => ?_) (fun h => ?_)
  · subst h; exact ⟨rfl, g⟩
  rw [if_neg h]
  refine IFB.beq (fun h => ?_) (fun h => ?_)
  · subst h; exact ⟨rfl, g⟩
  rw [if_neg h]
  refine IFB.beq (fun h => ?_) (fun h => ?_)
  · subst h; exact ⟨rfl, g⟩
  rw [if_neg h]
  refine IFB.beq (fun h => ?_) (fun h => ?_)
  · subst h; exact ⟨rfl, g⟩
  rw [if_neg h]
  refine IFB.beq (fun h => ?_) (fun h => ?_)
  · subst h; exact ⟨rfl, g⟩
  rw [if_neg h]
  refine IFB.beq (fun h => ?_) (fun h => ?_)
  · subst h; exact ⟨rfl, g⟩
  rw [if_neg h]
  refine IFB.beq (fun h => ?_) (fun h => ?_)
  · subst h; exact ⟨rfl, g⟩
  rw [if_neg h]
  refine IFB.beq (fun h => ?_) (fun h => ?_)
  · subst h; exact ⟨rfl, g⟩
  rw [if_neg h]
  refine IFB.beq (fun h => ?_) (fun h => ?_)
  · subst h; exact ⟨rfl, g⟩
  rw [if_neg h]
  refine IFB.beq (fun h => ?_) (fun h => ?_)
  · subst h; exact ⟨rfl, g⟩
  rw [if_neg h]
  exact ⟨rfl, g⟩
theorem c_law (n : Int) (w : World) : Calls Tryz.prog 6 #[.int .i64 n] w fun en w' => ∃ v, en = .returned v ∧ (v = .bool true ∧ Gr w w') := by
  refine G6_ok ?_
  unfold G6
  have g := Gr.refl w
  have x := Bx.nil w.heap.size w
  refine NX.call g x (en_19 _ _) (c_Word n w) (fun v w' h => h.2) ?_
  rintro v w1 ⟨rfl, _⟩ g1 g x
  refine NX.call g x (en_20 _ _) (c_refWord n w1) (fun v w' h => h.2) ?_
  rintro v w2 ⟨rfl, _⟩ g2 g x
  simp only [↓nx_lss, ↓nx_leq, ↓nx_gtr, ↓nx_geq, ↓nx_eql, ↓nx_neq, ↓nx_not, ↓nx_pick, ↓nx_nil, ↓nx_nilf, ↓nx_seql, ↓nx_sneq, ↓nx_sgeq, ↓nx_func, ↓nx_and, ↓nx_or, ↓nx_andNot, ↓nx_ex0, ↓nx_ex1, ↓nx_ex2, ↓fx_lss, ↓fx_leq, ↓fx_gtr, ↓fx_geq, ↓fx_eql, ↓fx_neq, ↓fx_not, ↓fx_pick, ↓fx_nil, ↓fx_nilf, ↓fx_seql, ↓fx_sneq, ↓fx_sgeq, ↓fx_func, ↓fx_and, ↓fx_or, ↓fx_andNot, ↓fx_ex0, ↓fx_ex1, ↓fx_ex2, ↓ifb_tt, ↓ifb_ff, ↓nx_fa_24_0, ↓nx_fa_24_1, ↓nx_fa_32_0, ↓nx_fa_32_1, ↓nx_fa_32_2, ↓nx_fa_32_3, ↓nx_fa_34_0, ↓nx_fa_34_1, ↓nx_fa_34_2, ↓nx_fa_34_3, ↓nx_fa_34_4, ↓nx_fa_34_5, ↓nx_fa_34_6, ↓nx_fa_34_7, ↓nx_fa_34_8, ↓nx_fa_44_0, ↓nx_fa_44_1, ↓nx_fa_44_2, ↓nx_fa_44_3, ↓nx_fa_44_4, ↓nx_fa_44_5, ↓nx_fa_44_6, ↓nx_fa_44_7, ↓nx_fa_44_8, ↓nx_fa_44_9, ↓nx_fa_49_0, ↓nx_fa_49_1, ↓nx_fa_49_2, ↓nx_fa_49_3, ↓nx_fa_52_0, ↓nx_fa_52_1, ↓nx_fa_52_2, ↓nx_fa_52_5, ↓nx_fa_52_6, ↓nx_fa_59_0, ↓nx_fa_59_1, ↓nx_fa_59_2, ↓nx_fa_80_0, ↓nx_fa_80_1, ↓nx_fa_80_2, ↓nx_fa_80_3, ↓nx_fa_82_0, ↓nx_fa_82_1, ↓nx_fa_82_2, ↓nx_fa_82_3, ↓nx_fa_82_4, ↓nx_fa_93_0, ↓nx_fa_93_1, ↓nx_fa_106_0, ↓nx_fa_106_1, ↓nx_fa_106_2, ↓nx_fa_106_3, ↓nx_fa_159_0, ↓nx_fa_159_1, ↓nx_len_22, ↓nx_len_25, ↓nx_len_30, ↓nx_len_42, ↓nx_len_69, ↓nx_len_104, ↓nx_slen_9, ↓fx_fa_24_0, ↓fx_fa_24_1, ↓fx_fa_32_0, ↓fx_fa_32_1, ↓fx_fa_32_2, ↓fx_fa_32_3, ↓fx_fa_34_0, ↓fx_fa_34_1, ↓fx_fa_34_2, ↓fx_fa_34_3, ↓fx_fa_34_4, ↓fx_fa_34_5, ↓fx_fa_34_6, ↓fx_fa_34_7, ↓fx_fa_34_8, ↓fx_fa_44_0, ↓fx_fa_44_1, ↓fx_fa_44_2, ↓fx_fa_44_3, ↓fx_fa_44_4, ↓fx_fa_44_5, ↓fx_fa_44_6, ↓fx_fa_44_7, ↓fx_fa_44_8, ↓fx_fa_44_9, ↓fx_fa_49_0, ↓fx_fa_49_1, ↓fx_fa_49_2, ↓fx_fa_49_3, ↓fx_fa_52_0, ↓fx_fa_52_1, ↓fx_fa_52_2, ↓fx_fa_52_5, ↓fx_fa_52_6, ↓fx_fa_59_0, ↓fx_fa_59_1, ↓fx_fa_59_2, ↓fx_fa_80_0, ↓fx_fa_80_1, ↓fx_fa_80_2, ↓fx_fa_80_3, ↓fx_fa_82_0, ↓fx_fa_82_1, ↓fx_fa_82_2, ↓fx_fa_82_3, ↓fx_fa_82_4, ↓fx_fa_93_0, ↓fx_fa_93_1, ↓fx_fa_106_0, ↓fx_fa_106_1, ↓fx_fa_106_2, ↓fx_fa_106_3, ↓fx_fa_159_0, ↓fx_fa_159_1, ↓fx_len_22, ↓fx_len_25, ↓fx_len_30, ↓fx_len_42, ↓fx_len_69, ↓fx_len_104, ↓fx_slen_9, Nat.zero_add, Nat.reduceAdd, ite_true, ite_false, if_true, if_false, reduceIte, Bool.not_true, Bool.not_false, Bool.false_eq_true, beq_self_eq_true]
  refine NX.call g x (en_10 _ _) (c_lives w2) (fun v w' h => h.2) ?_
  rintro v w3 ⟨rfl, _⟩ g3 g x
  exact ⟨rfl, g⟩
end Go.Proofs.YthakeicmaeefiaaGreatDoor
