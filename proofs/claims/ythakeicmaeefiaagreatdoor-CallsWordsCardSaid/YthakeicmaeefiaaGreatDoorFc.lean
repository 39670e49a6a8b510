/- Closed facts on the program's tables, written by facts.py. -/
import Derived.Test.YthakeicmaeefiaaGreatDoorProg
import Derived.Test.YthakeicmaeefiaaGreatDoorSt
import Derived.KernelRfl
set_option linter.unusedVariables false
set_option linter.unusedSimpArgs false
namespace Go.Proofs.YthakeicmaeefiaaGreatDoor
open Go Go.Sh Go.Proofs
theorem Tryz.mixed : Tryz.prog.follows .mixedOrders = true := by kernel_rfl
theorem one_3 : oneB Tryz.prog 3 = true := by kernel_rfl
theorem one_4 : oneB Tryz.prog 4 = true := by kernel_rfl
theorem one_5 : oneB Tryz.prog 5 = true := by kernel_rfl
theorem one_9 : oneB Tryz.prog 9 = true := by kernel_rfl
theorem one_22 : oneB Tryz.prog 22 = true := by kernel_rfl
theorem one_29 : oneB Tryz.prog 29 = true := by kernel_rfl
theorem one_30 : oneB Tryz.prog 30 = true := by kernel_rfl
theorem one_41 : oneB Tryz.prog 41 = true := by kernel_rfl
theorem one_42 : oneB Tryz.prog 42 = true := by kernel_rfl
theorem one_65 : oneB Tryz.prog 65 = true := by kernel_rfl
theorem one_72 : oneB Tryz.prog 72 = true := by kernel_rfl
theorem one_104 : oneB Tryz.prog 104 = true := by kernel_rfl
theorem agg_24 : aggB Tryz.prog 24 2 = true := by kernel_rfl
theorem agg_32 : aggB Tryz.prog 32 4 = true := by kernel_rfl
theorem agg_34 : aggB Tryz.prog 34 12 = true := by kernel_rfl
theorem agg_44 : aggB Tryz.prog 44 10 = true := by kernel_rfl
theorem agg_49 : aggB Tryz.prog 49 8 = true := by kernel_rfl
theorem agg_52 : aggB Tryz.prog 52 8 = true := by kernel_rfl
theorem agg_59 : aggB Tryz.prog 59 8 = true := by kernel_rfl
theorem agg_66 : aggB Tryz.prog 66 4 = true := by kernel_rfl
theorem agg_80 : aggB Tryz.prog 80 4 = true := by kernel_rfl
theorem agg_82 : aggB Tryz.prog 82 26 = true := by kernel_rfl
theorem agg_89 : aggB Tryz.prog 89 13 = true := by kernel_rfl
theorem agg_93 : aggB Tryz.prog 93 2 = true := by kernel_rfl
theorem agg_99 : aggB Tryz.prog 99 18 = true := by kernel_rfl
theorem agg_106 : aggB Tryz.prog 106 4 = true := by kernel_rfl
theorem agg_108 : aggB Tryz.prog 108 13 = true := by kernel_rfl
theorem agg_139 : aggB Tryz.prog 139 256 = true := by kernel_rfl
theorem agg_159 : aggB Tryz.prog 159 2 = true := by kernel_rfl
theorem zero_9 : zeroB Tryz.prog 9 = some (.string (bs [])) := by kernel_rfl
theorem zero_24 : zeroB Tryz.prog 24 = some (.agg #[(.slice none 0 0), (.int .i64 0)]) := by kernel_rfl
theorem zero_32 : zeroB Tryz.prog 32 = some (.agg #[(.int .i64 0), (.int .i64 0), (.int .i64 0), (.int .i64 0)]) := by kernel_rfl
theorem zero_34 : zeroB Tryz.prog 34 = some (.agg #[(.int .u8 0), (.string (bs [])), (.string (bs [])), (.int .i64 0), (.int .i64 0), (.int .i64 0), (.int .i64 0), (.slice none 0 0), (.int .i64 0), (.int .i64 0), (.int .i64 0), (.int .i64 0)]) := by kernel_rfl
theorem zero_44 : zeroB Tryz.prog 44 = some (.agg #[(.int .u8 0), (.int .i64 0), (.int .i64 0), (.int .i64 0), (.int .i64 0), (.int .i64 0), (.slice none 0 0), (.string (bs [])), (.slice none 0 0), (.int .i64 0)]) := by kernel_rfl
theorem zero_52 : zeroB Tryz.prog 52 = some (.agg #[(.int .i64 0), (.int .u8 0), (.int .i64 0), (.int .i64 0), (.int .i64 0), (.int .i64 0), (.int .i64 0), (.int .i64 0)]) := by kernel_rfl
theorem zero_66 : zeroB Tryz.prog 66 = some (.agg #[.nilFunc, .nilFunc, .nilFunc, .nilFunc]) := by kernel_rfl
theorem zero_72 : zeroB Tryz.prog 72 = some .nilFunc := by kernel_rfl
theorem zero_80 : zeroB Tryz.prog 80 = some (.agg #[(.int .i64 0), (.string (bs [])), (.int .i64 0), (.bool false)]) := by kernel_rfl
theorem zero_82 : zeroB Tryz.prog 82 = some (.agg #[(.slice none 0 0), (.int .i64 0), (.int .u8 0), (.string (bs [])), (.string (bs [])), (.int .i64 0), (.int .i64 0), (.int .i64 0), (.int .i64 0), (.slice none 0 0), (.int .i64 0), (.int .i64 0), (.int .i64 0), (.int .i64 0), (.int .i64 0), (.int .i64 0), (.int .i64 0), (.int .i64 0), (.int .i64 0), (.string (bs [])), (.int .i64 0), (.bool false), (.int .i64 0), (.string (bs [])), (.int .i64 0), (.bool false)]) := by kernel_rfl
theorem zero_89 : zeroB Tryz.prog 89 = some (.agg #[.nilFunc, .nilFunc, .nilFunc, .nilFunc, .nilFunc, .nilFunc, .nilFunc, .nilFunc, .nilFunc, .nilFunc, .nilFunc, .nilFunc, .nilFunc]) := by kernel_rfl
theorem zero_93 : zeroB Tryz.prog 93 = some (.agg #[(.string (bs [])), (.int .i64 0)]) := by kernel_rfl
theorem zero_99 : zeroB Tryz.prog 99 = some (.agg #[(.string (bs [])), (.string (bs [])), (.string (bs [])), (.string (bs [])), (.string (bs [])), (.string (bs [])), (.string (bs [])), (.string (bs [])), (.string (bs [])), (.string (bs [])), (.string (bs [])), (.string (bs [])), (.string (bs [])), (.string (bs [])), (.string (bs [])), (.string (bs [])), (.string (bs [])), (.string (bs []))]) := by kernel_rfl
theorem zero_106 : zeroB Tryz.prog 106 = some (.agg #[(.int .i64 0), (.slice none 0 0), (.bool false), (.int .i64 0)]) := by kernel_rfl
theorem zero_108 : zeroB Tryz.prog 108 = some (.agg #[(.string (bs [])), (.string (bs [])), (.string (bs [])), (.string (bs [])), (.string (bs [])), (.string (bs [])), (.string (bs [])), (.string (bs [])), (.string (bs [])), (.string (bs [])), (.string (bs [])), (.string (bs [])), (.string (bs []))]) := by kernel_rfl
theorem zero_139 : zeroB Tryz.prog 139 = some (.agg #[(.bool false), (.bool false), (.bool false), (.bool false), (.bool false), (.bool false), (.bool false), (.bool false), (.bool false), (.bool false), (.bool false), (.bool false), (.bool false), (.bool false), (.bool false), (.bool false), (.bool false), (.bool false), (.bool false), (.bool false), (.bool false), (.bool false), (.bool false), (.bool false), (.bool false), (.bool false), (.bool false), (.bool false), (.bool false), (.bool false), (.bool false), (.bool false), (.bool false), (.bool false), (.bool false), (.bool false), (.bool false), (.bool false), (.bool false), (.bool false), (.bool false), (.bool false), (.bool false), (.bool false), (.bool false), (.bool false), (.bool false), (.bool false), (.bool false), (.bool false), (.bool false), (.bool false), (.bool false), (.bool false), (.bool false), (.bool false), (.bool false), (.bool false), (.bool false), (.bool false), (.bool false), (.bool false), (.bool false), (.bool false), (.bool false), (.bool false), (.bool false), (.bool false), (.bool false), (.bool false), (.bool false), (.bool false), (.bool false), (.bool false), (.bool false), (.bool false), (.bool false), (.bool false), (.bool false), (.bool false), (.bool false), (.bool false), (.bool false), (.bool false), (.bool false), (.bool false), (.bool false), (.bool false), (.bool false), (.bool false), (.bool false), (.bool false), (.bool false), (.bool false), (.bool false), (.bool false), (.bool false), (.bool false), (.bool false), (.bool false), (.bool false), (.bool false), (.bool false), (.bool false), (.bool false), (.bool false), (.bool false), (.bool false), (.bool false), (.bool false), (.bool false), (.bool false), (.bool false), (.bool false), (.bool false), (.bool false), (.bool false), (.bool false), (.bool false), (.bool false), (.bool false), (.bool false), (.bool false), (.bool false), (.bool false), (.bool false), (.bool false), (.bool false), (.bool false), (.bool false), (.bool false), (.bool false), (.bool false), (.bool false), (.bool false), (.bool false), (.bool false), (.bool false), (.bool false), (.bool false), (.bool false), (.bool false), (.bool false), (.bool false), (.bool false), (.bool false), (.bool false), (.bool false), (.bool false), (.bool false), (.bool false), (.bool false), (.bool false), (.bool false), (.bool false), (.bool false), (.bool false), (.bool false), (.bool false), (.bool false), (.bool false), (.bool false), (.bool false), (.bool false), (.bool false), (.bool false), (.bool false), (.bool false), (.bool false), (.bool false), (.bool false), (.bool false), (.bool false), (.bool false), (.bool false), (.bool false), (.bool false), (.bool false), (.bool false), (.bool false), (.bool false), (.bool false), (.bool false), (.bool false), (.bool false), (.bool false), (.bool false), (.bool false), (.bool false), (.bool false), (.bool false), (.bool false), (.bool false), (.bool false), (.bool false), (.bool false), (.bool false), (.bool false), (.bool false), (.bool false), (.bool false), (.bool false), (.bool false), (.bool false), (.bool false), (.bool false), (.bool false), (.bool false), (.bool false), (.bool false), (.bool false), (.bool false), (.bool false), (.bool false), (.bool false), (.bool false), (.bool false), (.bool false), (.bool false), (.bool false), (.bool false), (.bool false), (.bool false), (.bool false), (.bool false), (.bool false), (.bool false), (.bool false), (.bool false), (.bool false), (.bool false), (.bool false), (.bool false), (.bool false), (.bool false), (.bool false), (.bool false), (.bool false), (.bool false), (.bool false), (.bool false), (.bool false), (.bool false), (.bool false), (.bool false), (.bool false), (.bool false), (.bool false), (.bool false), (.bool false), (.bool false), (.bool false), (.bool false), (.bool false), (.bool false), (.bool false)]) := by kernel_rfl
theorem zero_159 : zeroB Tryz.prog 159 = some (.agg #[(.int .u8 0), (.int .u8 0)]) := by kernel_rfl
theorem off_24_0 : offB Tryz.prog 24 0 0 = true := by kernel_rfl
theorem nx_fa_24_0 {b p : Nat} {K : Value → World → Prop} {w : World} : NX Tryz.prog (oFieldAddr 24 (.pointer (some ⟨b, p, none⟩)) 0) w K = K (.pointer (some ⟨b, p, none⟩)) w := nx_pu (pu_fieldAddr off_24_0)
theorem fx_fa_24_0 {b p : Nat} {K : Value → Prop} : FX Tryz.prog (oFieldAddr 24 (.pointer (some ⟨b, p, none⟩)) 0) K = K (.pointer (some ⟨b, p, none⟩)) := fx_pu (pu_fieldAddr off_24_0)
theorem off_24_1 : offB Tryz.prog 24 1 1 = true := by kernel_rfl
theorem nx_fa_24_1 {b p : Nat} {K : Value → World → Prop} {w : World} : NX Tryz.prog (oFieldAddr 24 (.pointer (some ⟨b, p, none⟩)) 1) w K = K (.pointer (some ⟨b, p + 1, none⟩)) w := nx_pu (pu_fieldAddr off_24_1)
theorem fx_fa_24_1 {b p : Nat} {K : Value → Prop} : FX Tryz.prog (oFieldAddr 24 (.pointer (some ⟨b, p, none⟩)) 1) K = K (.pointer (some ⟨b, p + 1, none⟩)) := fx_pu (pu_fieldAddr off_24_1)
theorem off_32_0 : offB Tryz.prog 32 0 0 = true := by kernel_rfl
theorem nx_fa_32_0 {b p : Nat} {K : Value → World → Prop} {w : World} : NX Tryz.prog (oFieldAddr 32 (.pointer (some ⟨b, p, none⟩)) 0) w K = K (.pointer (some ⟨b, p, none⟩)) w := nx_pu (pu_fieldAddr off_32_0)
theorem fx_fa_32_0 {b p : Nat} {K : Value → Prop} : FX Tryz.prog (oFieldAddr 32 (.pointer (some ⟨b, p, none⟩)) 0) K = K (.pointer (some ⟨b, p, none⟩)) := fx_pu (pu_fieldAddr off_32_0)
theorem off_32_1 : offB Tryz.prog 32 1 1 = true := by kernel_rfl
theorem nx_fa_32_1 {b p : Nat} {K : Value → World → Prop} {w : World} : NX Tryz.prog (oFieldAddr 32 (.pointer (some ⟨b, p, none⟩)) 1) w K = K (.pointer (some ⟨b, p + 1, none⟩)) w := nx_pu (pu_fieldAddr off_32_1)
theorem fx_fa_32_1 {b p : Nat} {K : Value → Prop} : FX Tryz.prog (oFieldAddr 32 (.pointer (some ⟨b, p, none⟩)) 1) K = K (.pointer (some ⟨b, p + 1, none⟩)) := fx_pu (pu_fieldAddr off_32_1)
theorem off_32_2 : offB Tryz.prog 32 2 2 = true := by kernel_rfl
theorem nx_fa_32_2 {b p : Nat} {K : Value → World → Prop} {w : World} : NX Tryz.prog (oFieldAddr 32 (.pointer (some ⟨b, p, none⟩)) 2) w K = K (.pointer (some ⟨b, p + 2, none⟩)) w := nx_pu (pu_fieldAddr off_32_2)
theorem fx_fa_32_2 {b p : Nat} {K : Value → Prop} : FX Tryz.prog (oFieldAddr 32 (.pointer (some ⟨b, p, none⟩)) 2) K = K (.pointer (some ⟨b, p + 2, none⟩)) := fx_pu (pu_fieldAddr off_32_2)
theorem off_32_3 : offB Tryz.prog 32 3 3 = true := by kernel_rfl
theorem nx_fa_32_3 {b p : Nat} {K : Value → World → Prop} {w : World} : NX Tryz.prog (oFieldAddr 32 (.pointer (some ⟨b, p, none⟩)) 3) w K = K (.pointer (some ⟨b, p + 3, none⟩)) w := nx_pu (pu_fieldAddr off_32_3)
theorem fx_fa_32_3 {b p : Nat} {K : Value → Prop} : FX Tryz.prog (oFieldAddr 32 (.pointer (some ⟨b, p, none⟩)) 3) K = K (.pointer (some ⟨b, p + 3, none⟩)) := fx_pu (pu_fieldAddr off_32_3)
theorem off_34_0 : offB Tryz.prog 34 0 0 = true := by kernel_rfl
theorem nx_fa_34_0 {b p : Nat} {K : Value → World → Prop} {w : World} : NX Tryz.prog (oFieldAddr 34 (.pointer (some ⟨b, p, none⟩)) 0) w K = K (.pointer (some ⟨b, p, none⟩)) w := nx_pu (pu_fieldAddr off_34_0)
theorem fx_fa_34_0 {b p : Nat} {K : Value → Prop} : FX Tryz.prog (oFieldAddr 34 (.pointer (some ⟨b, p, none⟩)) 0) K = K (.pointer (some ⟨b, p, none⟩)) := fx_pu (pu_fieldAddr off_34_0)
theorem off_34_1 : offB Tryz.prog 34 1 1 = true := by kernel_rfl
theorem nx_fa_34_1 {b p : Nat} {K : Value → World → Prop} {w : World} : NX Tryz.prog (oFieldAddr 34 (.pointer (some ⟨b, p, none⟩)) 1) w K = K (.pointer (some ⟨b, p + 1, none⟩)) w := nx_pu (pu_fieldAddr off_34_1)
theorem fx_fa_34_1 {b p : Nat} {K : Value → Prop} : FX Tryz.prog (oFieldAddr 34 (.pointer (some ⟨b, p, none⟩)) 1) K = K (.pointer (some ⟨b, p + 1, none⟩)) := fx_pu (pu_fieldAddr off_34_1)
theorem off_34_2 : offB Tryz.prog 34 2 2 = true := by kernel_rfl
theorem nx_fa_34_2 {b p : Nat} {K : Value → World → Prop} {w : World} : NX Tryz.prog (oFieldAddr 34 (.pointer (some ⟨b, p, none⟩)) 2) w K = K (.pointer (some ⟨b, p + 2, none⟩)) w := nx_pu (pu_fieldAddr off_34_2)
theorem fx_fa_34_2 {b p : Nat} {K : Value → Prop} : FX Tryz.prog (oFieldAddr 34 (.pointer (some ⟨b, p, none⟩)) 2) K = K (.pointer (some ⟨b, p + 2, none⟩)) := fx_pu (pu_fieldAddr off_34_2)
theorem off_34_3 : offB Tryz.prog 34 3 3 = true := by kernel_rfl
theorem nx_fa_34_3 {b p : Nat} {K : Value → World → Prop} {w : World} : NX Tryz.prog (oFieldAddr 34 (.pointer (some ⟨b, p, none⟩)) 3) w K = K (.pointer (some ⟨b, p + 3, none⟩)) w := nx_pu (pu_fieldAddr off_34_3)
theorem fx_fa_34_3 {b p : Nat} {K : Value → Prop} : FX Tryz.prog (oFieldAddr 34 (.pointer (some ⟨b, p, none⟩)) 3) K = K (.pointer (some ⟨b, p + 3, none⟩)) := fx_pu (pu_fieldAddr off_34_3)
theorem off_34_4 : offB Tryz.prog 34 4 4 = true := by kernel_rfl
theorem nx_fa_34_4 {b p : Nat} {K : Value → World → Prop} {w : World} : NX Tryz.prog (oFieldAddr 34 (.pointer (some ⟨b, p, none⟩)) 4) w K = K (.pointer (some ⟨b, p + 4, none⟩)) w := nx_pu (pu_fieldAddr off_34_4)
theorem fx_fa_34_4 {b p : Nat} {K : Value → Prop} : FX Tryz.prog (oFieldAddr 34 (.pointer (some ⟨b, p, none⟩)) 4) K = K (.pointer (some ⟨b, p + 4, none⟩)) := fx_pu (pu_fieldAddr off_34_4)
theorem off_34_5 : offB Tryz.prog 34 5 5 = true := by kernel_rfl
theorem nx_fa_34_5 {b p : Nat} {K : Value → World → Prop} {w : World} : NX Tryz.prog (oFieldAddr 34 (.pointer (some ⟨b, p, none⟩)) 5) w K = K (.pointer (some ⟨b, p + 5, none⟩)) w := nx_pu (pu_fieldAddr off_34_5)
theorem fx_fa_34_5 {b p : Nat} {K : Value → Prop} : FX Tryz.prog (oFieldAddr 34 (.pointer (some ⟨b, p, none⟩)) 5) K = K (.pointer (some ⟨b, p + 5, none⟩)) := fx_pu (pu_fieldAddr off_34_5)
theorem off_34_6 : offB Tryz.prog 34 6 6 = true := by kernel_rfl
theorem nx_fa_34_6 {b p : Nat} {K : Value → World → Prop} {w : World} : NX Tryz.prog (oFieldAddr 34 (.pointer (some ⟨b, p, none⟩)) 6) w K = K (.pointer (some ⟨b, p + 6, none⟩)) w := nx_pu (pu_fieldAddr off_34_6)
theorem fx_fa_34_6 {b p : Nat} {K : Value → Prop} : FX Tryz.prog (oFieldAddr 34 (.pointer (some ⟨b, p, none⟩)) 6) K = K (.pointer (some ⟨b, p + 6, none⟩)) := fx_pu (pu_fieldAddr off_34_6)
theorem off_34_7 : offB Tryz.prog 34 7 7 = true := by kernel_rfl
theorem nx_fa_34_7 {b p : Nat} {K : Value → World → Prop} {w : World} : NX Tryz.prog (oFieldAddr 34 (.pointer (some ⟨b, p, none⟩)) 7) w K = K (.pointer (some ⟨b, p + 7, none⟩)) w := nx_pu (pu_fieldAddr off_34_7)
theorem fx_fa_34_7 {b p : Nat} {K : Value → Prop} : FX Tryz.prog (oFieldAddr 34 (.pointer (some ⟨b, p, none⟩)) 7) K = K (.pointer (some ⟨b, p + 7, none⟩)) := fx_pu (pu_fieldAddr off_34_7)
theorem off_34_8 : offB Tryz.prog 34 8 8 = true := by kernel_rfl
theorem nx_fa_34_8 {b p : Nat} {K : Value → World → Prop} {w : World} : NX Tryz.prog (oFieldAddr 34 (.pointer (some ⟨b, p, none⟩)) 8) w K = K (.pointer (some ⟨b, p + 8, none⟩)) w := nx_pu (pu_fieldAddr off_34_8)
theorem fx_fa_34_8 {b p : Nat} {K : Value → Prop} : FX Tryz.prog (oFieldAddr 34 (.pointer (some ⟨b, p, none⟩)) 8) K = K (.pointer (some ⟨b, p + 8, none⟩)) := fx_pu (pu_fieldAddr off_34_8)
theorem off_44_0 : offB Tryz.prog 44 0 0 = true := by kernel_rfl
theorem nx_fa_44_0 {b p : Nat} {K : Value → World → Prop} {w : World} : NX Tryz.prog (oFieldAddr 44 (.pointer (some ⟨b, p, none⟩)) 0) w K = K (.pointer (some ⟨b, p, none⟩)) w := nx_pu (pu_fieldAddr off_44_0)
theorem fx_fa_44_0 {b p : Nat} {K : Value → Prop} : FX Tryz.prog (oFieldAddr 44 (.pointer (some ⟨b, p, none⟩)) 0) K = K (.pointer (some ⟨b, p, none⟩)) := fx_pu (pu_fieldAddr off_44_0)
theorem off_44_1 : offB Tryz.prog 44 1 1 = true := by kernel_rfl
theorem nx_fa_44_1 {b p : Nat} {K : Value → World → Prop} {w : World} : NX Tryz.prog (oFieldAddr 44 (.pointer (some ⟨b, p, none⟩)) 1) w K = K (.pointer (some ⟨b, p + 1, none⟩)) w := nx_pu (pu_fieldAddr off_44_1)
theorem fx_fa_44_1 {b p : Nat} {K : Value → Prop} : FX Tryz.prog (oFieldAddr 44 (.pointer (some ⟨b, p, none⟩)) 1) K = K (.pointer (some ⟨b, p + 1, none⟩)) := fx_pu (pu_fieldAddr off_44_1)
theorem off_44_2 : offB Tryz.prog 44 2 2 = true := by kernel_rfl
theorem nx_fa_44_2 {b p : Nat} {K : Value → World → Prop} {w : World} : NX Tryz.prog (oFieldAddr 44 (.pointer (some ⟨b, p, none⟩)) 2) w K = K (.pointer (some ⟨b, p + 2, none⟩)) w := nx_pu (pu_fieldAddr off_44_2)
theorem fx_fa_44_2 {b p : Nat} {K : Value → Prop} : FX Tryz.prog (oFieldAddr 44 (.pointer (some ⟨b, p, none⟩)) 2) K = K (.pointer (some ⟨b, p + 2, none⟩)) := fx_pu (pu_fieldAddr off_44_2)
theorem off_44_3 : offB Tryz.prog 44 3 3 = true := by kernel_rfl
theorem nx_fa_44_3 {b p : Nat} {K : Value → World → Prop} {w : World} : NX Tryz.prog (oFieldAddr 44 (.pointer (some ⟨b, p, none⟩)) 3) w K = K (.pointer (some ⟨b, p + 3, none⟩)) w := nx_pu (pu_fieldAddr off_44_3)
theorem fx_fa_44_3 {b p : Nat} {K : Value → Prop} : FX Tryz.prog (oFieldAddr 44 (.pointer (some ⟨b, p, none⟩)) 3) K = K (.pointer (some ⟨b, p + 3, none⟩)) := fx_pu (pu_fieldAddr off_44_3)
theorem off_44_4 : offB Tryz.prog 44 4 4 = true := by kernel_rfl
theorem nx_fa_44_4 {b p : Nat} {K : Value → World → Prop} {w : World} : NX Tryz.prog (oFieldAddr 44 (.pointer (some ⟨b, p, none⟩)) 4) w K = K (.pointer (some ⟨b, p + 4, none⟩)) w := nx_pu (pu_fieldAddr off_44_4)
theorem fx_fa_44_4 {b p : Nat} {K : Value → Prop} : FX Tryz.prog (oFieldAddr 44 (.pointer (some ⟨b, p, none⟩)) 4) K = K (.pointer (some ⟨b, p + 4, none⟩)) := fx_pu (pu_fieldAddr off_44_4)
theorem off_44_5 : offB Tryz.prog 44 5 5 = true := by kernel_rfl
theorem nx_fa_44_5 {b p : Nat} {K : Value → World → Prop} {w : World} : NX Tryz.prog (oFieldAddr 44 (.pointer (some ⟨b, p, none⟩)) 5) w K = K (.pointer (some ⟨b, p + 5, none⟩)) w := nx_pu (pu_fieldAddr off_44_5)
theorem fx_fa_44_5 {b p : Nat} {K : Value → Prop} : FX Tryz.prog (oFieldAddr 44 (.pointer (some ⟨b, p, none⟩)) 5) K = K (.pointer (some ⟨b, p + 5, none⟩)) := fx_pu (pu_fieldAddr off_44_5)
theorem off_44_6 : offB Tryz.prog 44 6 6 = true := by kernel_rfl
theorem nx_fa_44_6 {b p : Nat} {K : Value → World → Prop} {w : World} : NX Tryz.prog (oFieldAddr 44 (.pointer (some ⟨b, p, none⟩)) 6) w K = K (.pointer (some ⟨b, p + 6, none⟩)) w := nx_pu (pu_fieldAddr off_44_6)
theorem fx_fa_44_6 {b p : Nat} {K : Value → Prop} : FX Tryz.prog (oFieldAddr 44 (.pointer (some ⟨b, p, none⟩)) 6) K = K (.pointer (some ⟨b, p + 6, none⟩)) := fx_pu (pu_fieldAddr off_44_6)
theorem off_44_7 : offB Tryz.prog 44 7 7 = true := by kernel_rfl
theorem nx_fa_44_7 {b p : Nat} {K : Value → World → Prop} {w : World} : NX Tryz.prog (oFieldAddr 44 (.pointer (some ⟨b, p, none⟩)) 7) w K = K (.pointer (some ⟨b, p + 7, none⟩)) w := nx_pu (pu_fieldAddr off_44_7)
theorem fx_fa_44_7 {b p : Nat} {K : Value → Prop} : FX Tryz.prog (oFieldAddr 44 (.pointer (some ⟨b, p, none⟩)) 7) K = K (.pointer (some ⟨b, p + 7, none⟩)) := fx_pu (pu_fieldAddr off_44_7)
theorem off_44_8 : offB Tryz.prog 44 8 8 = true := by kernel_rfl
theorem nx_fa_44_8 {b p : Nat} {K : Value → World → Prop} {w : World} : NX Tryz.prog (oFieldAddr 44 (.pointer (some ⟨b, p, none⟩)) 8) w K = K (.pointer (some ⟨b, p + 8, none⟩)) w := nx_pu (pu_fieldAddr off_44_8)
theorem fx_fa_44_8 {b p : Nat} {K : Value → Prop} : FX Tryz.prog (oFieldAddr 44 (.pointer (some ⟨b, p, none⟩)) 8) K = K (.pointer (some ⟨b, p + 8, none⟩)) := fx_pu (pu_fieldAddr off_44_8)
theorem off_44_9 : offB Tryz.prog 44 9 9 = true := by kernel_rfl
theorem nx_fa_44_9 {b p : Nat} {K : Value → World → Prop} {w : World} : NX Tryz.prog (oFieldAddr 44 (.pointer (some ⟨b, p, none⟩)) 9) w K = K (.pointer (some ⟨b, p + 9, none⟩)) w := nx_pu (pu_fieldAddr off_44_9)
theorem fx_fa_44_9 {b p : Nat} {K : Value → Prop} : FX Tryz.prog (oFieldAddr 44 (.pointer (some ⟨b, p, none⟩)) 9) K = K (.pointer (some ⟨b, p + 9, none⟩)) := fx_pu (pu_fieldAddr off_44_9)
theorem off_49_0 : offB Tryz.prog 49 0 0 = true := by kernel_rfl
theorem nx_fa_49_0 {b p : Nat} {K : Value → World → Prop} {w : World} : NX Tryz.prog (oFieldAddr 49 (.pointer (some ⟨b, p, none⟩)) 0) w K = K (.pointer (some ⟨b, p, none⟩)) w := nx_pu (pu_fieldAddr off_49_0)
theorem fx_fa_49_0 {b p : Nat} {K : Value → Prop} : FX Tryz.prog (oFieldAddr 49 (.pointer (some ⟨b, p, none⟩)) 0) K = K (.pointer (some ⟨b, p, none⟩)) := fx_pu (pu_fieldAddr off_49_0)
theorem off_49_1 : offB Tryz.prog 49 1 2 = true := by kernel_rfl
theorem nx_fa_49_1 {b p : Nat} {K : Value → World → Prop} {w : World} : NX Tryz.prog (oFieldAddr 49 (.pointer (some ⟨b, p, none⟩)) 1) w K = K (.pointer (some ⟨b, p + 2, none⟩)) w := nx_pu (pu_fieldAddr off_49_1)
theorem fx_fa_49_1 {b p : Nat} {K : Value → Prop} : FX Tryz.prog (oFieldAddr 49 (.pointer (some ⟨b, p, none⟩)) 1) K = K (.pointer (some ⟨b, p + 2, none⟩)) := fx_pu (pu_fieldAddr off_49_1)
theorem off_49_2 : offB Tryz.prog 49 2 6 = true := by kernel_rfl
theorem nx_fa_49_2 {b p : Nat} {K : Value → World → Prop} {w : World} : NX Tryz.prog (oFieldAddr 49 (.pointer (some ⟨b, p, none⟩)) 2) w K = K (.pointer (some ⟨b, p + 6, none⟩)) w := nx_pu (pu_fieldAddr off_49_2)
theorem fx_fa_49_2 {b p : Nat} {K : Value → Prop} : FX Tryz.prog (oFieldAddr 49 (.pointer (some ⟨b, p, none⟩)) 2) K = K (.pointer (some ⟨b, p + 6, none⟩)) := fx_pu (pu_fieldAddr off_49_2)
theorem off_49_3 : offB Tryz.prog 49 3 7 = true := by kernel_rfl
theorem nx_fa_49_3 {b p : Nat} {K : Value → World → Prop} {w : World} : NX Tryz.prog (oFieldAddr 49 (.pointer (some ⟨b, p, none⟩)) 3) w K = K (.pointer (some ⟨b, p + 7, none⟩)) w := nx_pu (pu_fieldAddr off_49_3)
theorem fx_fa_49_3 {b p : Nat} {K : Value → Prop} : FX Tryz.prog (oFieldAddr 49 (.pointer (some ⟨b, p, none⟩)) 3) K = K (.pointer (some ⟨b, p + 7, none⟩)) := fx_pu (pu_fieldAddr off_49_3)
theorem off_52_0 : offB Tryz.prog 52 0 0 = true := by kernel_rfl
theorem nx_fa_52_0 {b p : Nat} {K : Value → World → Prop} {w : World} : NX Tryz.prog (oFieldAddr 52 (.pointer (some ⟨b, p, none⟩)) 0) w K = K (.pointer (some ⟨b, p, none⟩)) w := nx_pu (pu_fieldAddr off_52_0)
theorem fx_fa_52_0 {b p : Nat} {K : Value → Prop} : FX Tryz.prog (oFieldAddr 52 (.pointer (some ⟨b, p, none⟩)) 0) K = K (.pointer (some ⟨b, p, none⟩)) := fx_pu (pu_fieldAddr off_52_0)
theorem off_52_1 : offB Tryz.prog 52 1 1 = true := by kernel_rfl
theorem nx_fa_52_1 {b p : Nat} {K : Value → World → Prop} {w : World} : NX Tryz.prog (oFieldAddr 52 (.pointer (some ⟨b, p, none⟩)) 1) w K = K (.pointer (some ⟨b, p + 1, none⟩)) w := nx_pu (pu_fieldAddr off_52_1)
theorem fx_fa_52_1 {b p : Nat} {K : Value → Prop} : FX Tryz.prog (oFieldAddr 52 (.pointer (some ⟨b, p, none⟩)) 1) K = K (.pointer (some ⟨b, p + 1, none⟩)) := fx_pu (pu_fieldAddr off_52_1)
theorem off_52_2 : offB Tryz.prog 52 2 2 = true := by kernel_rfl
theorem nx_fa_52_2 {b p : Nat} {K : Value → World → Prop} {w : World} : NX Tryz.prog (oFieldAddr 52 (.pointer (some ⟨b, p, none⟩)) 2) w K = K (.pointer (some ⟨b, p + 2, none⟩)) w := nx_pu (pu_fieldAddr off_52_2)
theorem fx_fa_52_2 {b p : Nat} {K : Value → Prop} : FX Tryz.prog (oFieldAddr 52 (.pointer (some ⟨b, p, none⟩)) 2) K = K (.pointer (some ⟨b, p + 2, none⟩)) := fx_pu (pu_fieldAddr off_52_2)
theorem off_52_5 : offB Tryz.prog 52 5 5 = true := by kernel_rfl
theorem nx_fa_52_5 {b p : Nat} {K : Value → World → Prop} {w : World} : NX Tryz.prog (oFieldAddr 52 (.pointer (some ⟨b, p, none⟩)) 5) w K = K (.pointer (some ⟨b, p + 5, none⟩)) w := nx_pu (pu_fieldAddr off_52_5)
theorem fx_fa_52_5 {b p : Nat} {K : Value → Prop} : FX Tryz.prog (oFieldAddr 52 (.pointer (some ⟨b, p, none⟩)) 5) K = K (.pointer (some ⟨b, p + 5, none⟩)) := fx_pu (pu_fieldAddr off_52_5)
theorem off_52_6 : offB Tryz.prog 52 6 6 = true := by kernel_rfl
theorem nx_fa_52_6 {b p : Nat} {K : Value → World → Prop} {w : World} : NX Tryz.prog (oFieldAddr 52 (.pointer (some ⟨b, p, none⟩)) 6) w K = K (.pointer (some ⟨b, p + 6, none⟩)) w := nx_pu (pu_fieldAddr off_52_6)
theorem fx_fa_52_6 {b p : Nat} {K : Value → Prop} : FX Tryz.prog (oFieldAddr 52 (.pointer (some ⟨b, p, none⟩)) 6) K = K (.pointer (some ⟨b, p + 6, none⟩)) := fx_pu (pu_fieldAddr off_52_6)
theorem off_59_0 : offB Tryz.prog 59 0 0 = true := by kernel_rfl
theorem nx_fa_59_0 {b p : Nat} {K : Value → World → Prop} {w : World} : NX Tryz.prog (oFieldAddr 59 (.pointer (some ⟨b, p, none⟩)) 0) w K = K (.pointer (some ⟨b, p, none⟩)) w := nx_pu (pu_fieldAddr off_59_0)
theorem fx_fa_59_0 {b p : Nat} {K : Value → Prop} : FX Tryz.prog (oFieldAddr 59 (.pointer (some ⟨b, p, none⟩)) 0) K = K (.pointer (some ⟨b, p, none⟩)) := fx_pu (pu_fieldAddr off_59_0)
theorem off_59_1 : offB Tryz.prog 59 1 2 = true := by kernel_rfl
theorem nx_fa_59_1 {b p : Nat} {K : Value → World → Prop} {w : World} : NX Tryz.prog (oFieldAddr 59 (.pointer (some ⟨b, p, none⟩)) 1) w K = K (.pointer (some ⟨b, p + 2, none⟩)) w := nx_pu (pu_fieldAddr off_59_1)
theorem fx_fa_59_1 {b p : Nat} {K : Value → Prop} : FX Tryz.prog (oFieldAddr 59 (.pointer (some ⟨b, p, none⟩)) 1) K = K (.pointer (some ⟨b, p + 2, none⟩)) := fx_pu (pu_fieldAddr off_59_1)
theorem off_59_2 : offB Tryz.prog 59 2 6 = true := by kernel_rfl
theorem nx_fa_59_2 {b p : Nat} {K : Value → World → Prop} {w : World} : NX Tryz.prog (oFieldAddr 59 (.pointer (some ⟨b, p, none⟩)) 2) w K = K (.pointer (some ⟨b, p + 6, none⟩)) w := nx_pu (pu_fieldAddr off_59_2)
theorem fx_fa_59_2 {b p : Nat} {K : Value → Prop} : FX Tryz.prog (oFieldAddr 59 (.pointer (some ⟨b, p, none⟩)) 2) K = K (.pointer (some ⟨b, p + 6, none⟩)) := fx_pu (pu_fieldAddr off_59_2)
theorem off_80_0 : offB Tryz.prog 80 0 0 = true := by kernel_rfl
theorem nx_fa_80_0 {b p : Nat} {K : Value → World → Prop} {w : World} : NX Tryz.prog (oFieldAddr 80 (.pointer (some ⟨b, p, none⟩)) 0) w K = K (.pointer (some ⟨b, p, none⟩)) w := nx_pu (pu_fieldAddr off_80_0)
theorem fx_fa_80_0 {b p : Nat} {K : Value → Prop} : FX Tryz.prog (oFieldAddr 80 (.pointer (some ⟨b, p, none⟩)) 0) K = K (.pointer (some ⟨b, p, none⟩)) := fx_pu (pu_fieldAddr off_80_0)
theorem off_80_1 : offB Tryz.prog 80 1 1 = true := by kernel_rfl
theorem nx_fa_80_1 {b p : Nat} {K : Value → World → Prop} {w : World} : NX Tryz.prog (oFieldAddr 80 (.pointer (some ⟨b, p, none⟩)) 1) w K = K (.pointer (some ⟨b, p + 1, none⟩)) w := nx_pu (pu_fieldAddr off_80_1)
theorem fx_fa_80_1 {b p : Nat} {K : Value → Prop} : FX Tryz.prog (oFieldAddr 80 (.pointer (some ⟨b, p, none⟩)) 1) K = K (.pointer (some ⟨b, p + 1, none⟩)) := fx_pu (pu_fieldAddr off_80_1)
theorem off_80_2 : offB Tryz.prog 80 2 2 = true := by kernel_rfl
theorem nx_fa_80_2 {b p : Nat} {K : Value → World → Prop} {w : World} : NX Tryz.prog (oFieldAddr 80 (.pointer (some ⟨b, p, none⟩)) 2) w K = K (.pointer (some ⟨b, p + 2, none⟩)) w := nx_pu (pu_fieldAddr off_80_2)
theorem fx_fa_80_2 {b p : Nat} {K : Value → Prop} : FX Tryz.prog (oFieldAddr 80 (.pointer (some ⟨b, p, none⟩)) 2) K = K (.pointer (some ⟨b, p + 2, none⟩)) := fx_pu (pu_fieldAddr off_80_2)
theorem off_80_3 : offB Tryz.prog 80 3 3 = true := by kernel_rfl
theorem nx_fa_80_3 {b p : Nat} {K : Value → World → Prop} {w : World} : NX Tryz.prog (oFieldAddr 80 (.pointer (some ⟨b, p, none⟩)) 3) w K = K (.pointer (some ⟨b, p + 3, none⟩)) w := nx_pu (pu_fieldAddr off_80_3)
theorem fx_fa_80_3 {b p : Nat} {K : Value → Prop} : FX Tryz.prog (oFieldAddr 80 (.pointer (some ⟨b, p, none⟩)) 3) K = K (.pointer (some ⟨b, p + 3, none⟩)) := fx_pu (pu_fieldAddr off_80_3)
theorem off_82_0 : offB Tryz.prog 82 0 0 = true := by kernel_rfl
theorem nx_fa_82_0 {b p : Nat} {K : Value → World → Prop} {w : World} : NX Tryz.prog (oFieldAddr 82 (.pointer (some ⟨b, p, none⟩)) 0) w K = K (.pointer (some ⟨b, p, none⟩)) w := nx_pu (pu_fieldAddr off_82_0)
theorem fx_fa_82_0 {b p : Nat} {K : Value → Prop} : FX Tryz.prog (oFieldAddr 82 (.pointer (some ⟨b, p, none⟩)) 0) K = K (.pointer (some ⟨b, p, none⟩)) := fx_pu (pu_fieldAddr off_82_0)
theorem off_82_1 : offB Tryz.prog 82 1 2 = true := by kernel_rfl
theorem nx_fa_82_1 {b p : Nat} {K : Value → World → Prop} {w : World} : NX Tryz.prog (oFieldAddr 82 (.pointer (some ⟨b, p, none⟩)) 1) w K = K (.pointer (some ⟨b, p + 2, none⟩)) w := nx_pu (pu_fieldAddr off_82_1)
theorem fx_fa_82_1 {b p : Nat} {K : Value → Prop} : FX Tryz.prog (oFieldAddr 82 (.pointer (some ⟨b, p, none⟩)) 1) K = K (.pointer (some ⟨b, p + 2, none⟩)) := fx_pu (pu_fieldAddr off_82_1)
theorem off_82_2 : offB Tryz.prog 82 2 14 = true := by kernel_rfl
theorem nx_fa_82_2 {b p : Nat} {K : Value → World → Prop} {w : World} : NX Tryz.prog (oFieldAddr 82 (.pointer (some ⟨b, p, none⟩)) 2) w K = K (.pointer (some ⟨b, p + 14, none⟩)) w := nx_pu (pu_fieldAddr off_82_2)
theorem fx_fa_82_2 {b p : Nat} {K : Value → Prop} : FX Tryz.prog (oFieldAddr 82 (.pointer (some ⟨b, p, none⟩)) 2) K = K (.pointer (some ⟨b, p + 14, none⟩)) := fx_pu (pu_fieldAddr off_82_2)
theorem off_82_3 : offB Tryz.prog 82 3 18 = true := by kernel_rfl
theorem nx_fa_82_3 {b p : Nat} {K : Value → World → Prop} {w : World} : NX Tryz.prog (oFieldAddr 82 (.pointer (some ⟨b, p, none⟩)) 3) w K = K (.pointer (some ⟨b, p + 18, none⟩)) w := nx_pu (pu_fieldAddr off_82_3)
theorem fx_fa_82_3 {b p : Nat} {K : Value → Prop} : FX Tryz.prog (oFieldAddr 82 (.pointer (some ⟨b, p, none⟩)) 3) K = K (.pointer (some ⟨b, p + 18, none⟩)) := fx_pu (pu_fieldAddr off_82_3)
theorem off_82_4 : offB Tryz.prog 82 4 22 = true := by kernel_rfl
theorem nx_fa_82_4 {b p : Nat} {K : Value → World → Prop} {w : World} : NX Tryz.prog (oFieldAddr 82 (.pointer (some ⟨b, p, none⟩)) 4) w K = K (.pointer (some ⟨b, p + 22, none⟩)) w := nx_pu (pu_fieldAddr off_82_4)
theorem fx_fa_82_4 {b p : Nat} {K : Value → Prop} : FX Tryz.prog (oFieldAddr 82 (.pointer (some ⟨b, p, none⟩)) 4) K = K (.pointer (some ⟨b, p + 22, none⟩)) := fx_pu (pu_fieldAddr off_82_4)
theorem off_93_0 : offB Tryz.prog 93 0 0 = true := by kernel_rfl
theorem nx_fa_93_0 {b p : Nat} {K : Value → World → Prop} {w : World} : NX Tryz.prog (oFieldAddr 93 (.pointer (some ⟨b, p, none⟩)) 0) w K = K (.pointer (some ⟨b, p, none⟩)) w := nx_pu (pu_fieldAddr off_93_0)
theorem fx_fa_93_0 {b p : Nat} {K : Value → Prop} : FX Tryz.prog (oFieldAddr 93 (.pointer (some ⟨b, p, none⟩)) 0) K = K (.pointer (some ⟨b, p, none⟩)) := fx_pu (pu_fieldAddr off_93_0)
theorem off_93_1 : offB Tryz.prog 93 1 1 = true := by kernel_rfl
theorem nx_fa_93_1 {b p : Nat} {K : Value → World → Prop} {w : World} : NX Tryz.prog (oFieldAddr 93 (.pointer (some ⟨b, p, none⟩)) 1) w K = K (.pointer (some ⟨b, p + 1, none⟩)) w := nx_pu (pu_fieldAddr off_93_1)
theorem fx_fa_93_1 {b p : Nat} {K : Value → Prop} : FX Tryz.prog (oFieldAddr 93 (.pointer (some ⟨b, p, none⟩)) 1) K = K (.pointer (some ⟨b, p + 1, none⟩)) := fx_pu (pu_fieldAddr off_93_1)
theorem off_106_0 : offB Tryz.prog 106 0 0 = true := by kernel_rfl
theorem nx_fa_106_0 {b p : Nat} {K : Value → World → Prop} {w : World} : NX Tryz.prog (oFieldAddr 106 (.pointer (some ⟨b, p, none⟩)) 0) w K = K (.pointer (some ⟨b, p, none⟩)) w := nx_pu (pu_fieldAddr off_106_0)
theorem fx_fa_106_0 {b p : Nat} {K : Value → Prop} : FX Tryz.prog (oFieldAddr 106 (.pointer (some ⟨b, p, none⟩)) 0) K = K (.pointer (some ⟨b, p, none⟩)) := fx_pu (pu_fieldAddr off_106_0)
theorem off_106_1 : offB Tryz.prog 106 1 1 = true := by kernel_rfl
theorem nx_fa_106_1 {b p : Nat} {K : Value → World → Prop} {w : World} : NX Tryz.prog (oFieldAddr 106 (.pointer (some ⟨b, p, none⟩)) 1) w K = K (.pointer (some ⟨b, p + 1, none⟩)) w := nx_pu (pu_fieldAddr off_106_1)
theorem fx_fa_106_1 {b p : Nat} {K : Value → Prop} : FX Tryz.prog (oFieldAddr 106 (.pointer (some ⟨b, p, none⟩)) 1) K = K (.pointer (some ⟨b, p + 1, none⟩)) := fx_pu (pu_fieldAddr off_106_1)
theorem off_106_2 : offB Tryz.prog 106 2 2 = true := by kernel_rfl
theorem nx_fa_106_2 {b p : Nat} {K : Value → World → Prop} {w : World} : NX Tryz.prog (oFieldAddr 106 (.pointer (some ⟨b, p, none⟩)) 2) w K = K (.pointer (some ⟨b, p + 2, none⟩)) w := nx_pu (pu_fieldAddr off_106_2)
theorem fx_fa_106_2 {b p : Nat} {K : Value → Prop} : FX Tryz.prog (oFieldAddr 106 (.pointer (some ⟨b, p, none⟩)) 2) K = K (.pointer (some ⟨b, p + 2, none⟩)) := fx_pu (pu_fieldAddr off_106_2)
theorem off_106_3 : offB Tryz.prog 106 3 3 = true := by kernel_rfl
theorem nx_fa_106_3 {b p : Nat} {K : Value → World → Prop} {w : World} : NX Tryz.prog (oFieldAddr 106 (.pointer (some ⟨b, p, none⟩)) 3) w K = K (.pointer (some ⟨b, p + 3, none⟩)) w := nx_pu (pu_fieldAddr off_106_3)
theorem fx_fa_106_3 {b p : Nat} {K : Value → Prop} : FX Tryz.prog (oFieldAddr 106 (.pointer (some ⟨b, p, none⟩)) 3) K = K (.pointer (some ⟨b, p + 3, none⟩)) := fx_pu (pu_fieldAddr off_106_3)
theorem off_159_0 : offB Tryz.prog 159 0 0 = true := by kernel_rfl
theorem nx_fa_159_0 {b p : Nat} {K : Value → World → Prop} {w : World} : NX Tryz.prog (oFieldAddr 159 (.pointer (some ⟨b, p, none⟩)) 0) w K = K (.pointer (some ⟨b, p, none⟩)) w := nx_pu (pu_fieldAddr off_159_0)
theorem fx_fa_159_0 {b p : Nat} {K : Value → Prop} : FX Tryz.prog (oFieldAddr 159 (.pointer (some ⟨b, p, none⟩)) 0) K = K (.pointer (some ⟨b, p, none⟩)) := fx_pu (pu_fieldAddr off_159_0)
theorem off_159_1 : offB Tryz.prog 159 1 1 = true := by kernel_rfl
theorem nx_fa_159_1 {b p : Nat} {K : Value → World → Prop} {w : World} : NX Tryz.prog (oFieldAddr 159 (.pointer (some ⟨b, p, none⟩)) 1) w K = K (.pointer (some ⟨b, p + 1, none⟩)) w := nx_pu (pu_fieldAddr off_159_1)
theorem fx_fa_159_1 {b p : Nat} {K : Value → Prop} : FX Tryz.prog (oFieldAddr 159 (.pointer (some ⟨b, p, none⟩)) 1) K = K (.pointer (some ⟨b, p + 1, none⟩)) := fx_pu (pu_fieldAddr off_159_1)
theorem sl_22 : sliceB Tryz.prog 22 10 = true := by kernel_rfl
theorem sl_25 : sliceB Tryz.prog 25 12 = true := by kernel_rfl
theorem sl_30 : sliceB Tryz.prog 30 1 = true := by kernel_rfl
theorem sl_42 : sliceB Tryz.prog 42 2 = true := by kernel_rfl
theorem sl_69 : sliceB Tryz.prog 69 1 = true := by kernel_rfl
theorem sl_104 : sliceB Tryz.prog 104 1 = true := by kernel_rfl
theorem us_22 : Tryz.prog.underlying 22 = some (.slice 44) := by kernel_rfl
theorem nx_len_22 {ty : TypeId} {cs : List Bool} {a : Option Addr} {n c : Nat} {K : Value → World → Prop} {w : World} : NX Tryz.prog (oBuiltin .len #[22] ty cs [.slice a n c]) w K = K (.int .i64 n) w := nx_pu (pu_len us_22)
theorem fx_len_22 {ty : TypeId} {cs : List Bool} {a : Option Addr} {n c : Nat} {K : Value → Prop} : FX Tryz.prog (oBuiltin .len #[22] ty cs [.slice a n c]) K = K (.int .i64 n) := fx_pu (pu_len us_22)
theorem us_25 : Tryz.prog.underlying 25 = some (.slice 34) := by kernel_rfl
theorem nx_len_25 {ty : TypeId} {cs : List Bool} {a : Option Addr} {n c : Nat} {K : Value → World → Prop} {w : World} : NX Tryz.prog (oBuiltin .len #[25] ty cs [.slice a n c]) w K = K (.int .i64 n) w := nx_pu (pu_len us_25)
theorem fx_len_25 {ty : TypeId} {cs : List Bool} {a : Option Addr} {n c : Nat} {K : Value → Prop} : FX Tryz.prog (oBuiltin .len #[25] ty cs [.slice a n c]) K = K (.int .i64 n) := fx_pu (pu_len us_25)
theorem us_30 : Tryz.prog.underlying 30 = some (.slice 5) := by kernel_rfl
theorem nx_len_30 {ty : TypeId} {cs : List Bool} {a : Option Addr} {n c : Nat} {K : Value → World → Prop} {w : World} : NX Tryz.prog (oBuiltin .len #[30] ty cs [.slice a n c]) w K = K (.int .i64 n) w := nx_pu (pu_len us_30)
theorem fx_len_30 {ty : TypeId} {cs : List Bool} {a : Option Addr} {n c : Nat} {K : Value → Prop} : FX Tryz.prog (oBuiltin .len #[30] ty cs [.slice a n c]) K = K (.int .i64 n) := fx_pu (pu_len us_30)
theorem us_42 : Tryz.prog.underlying 42 = some (.slice 93) := by kernel_rfl
theorem nx_len_42 {ty : TypeId} {cs : List Bool} {a : Option Addr} {n c : Nat} {K : Value → World → Prop} {w : World} : NX Tryz.prog (oBuiltin .len #[42] ty cs [.slice a n c]) w K = K (.int .i64 n) w := nx_pu (pu_len us_42)
theorem fx_len_42 {ty : TypeId} {cs : List Bool} {a : Option Addr} {n c : Nat} {K : Value → Prop} : FX Tryz.prog (oBuiltin .len #[42] ty cs [.slice a n c]) K = K (.int .i64 n) := fx_pu (pu_len us_42)
theorem us_69 : Tryz.prog.underlying 69 = some (.slice 3) := by kernel_rfl
theorem nx_len_69 {ty : TypeId} {cs : List Bool} {a : Option Addr} {n c : Nat} {K : Value → World → Prop} {w : World} : NX Tryz.prog (oBuiltin .len #[69] ty cs [.slice a n c]) w K = K (.int .i64 n) w := nx_pu (pu_len us_69)
theorem fx_len_69 {ty : TypeId} {cs : List Bool} {a : Option Addr} {n c : Nat} {K : Value → Prop} : FX Tryz.prog (oBuiltin .len #[69] ty cs [.slice a n c]) K = K (.int .i64 n) := fx_pu (pu_len us_69)
theorem us_104 : Tryz.prog.underlying 104 = some (.slice 9) := by kernel_rfl
theorem nx_len_104 {ty : TypeId} {cs : List Bool} {a : Option Addr} {n c : Nat} {K : Value → World → Prop} {w : World} : NX Tryz.prog (oBuiltin .len #[104] ty cs [.slice a n c]) w K = K (.int .i64 n) w := nx_pu (pu_len us_104)
theorem fx_len_104 {ty : TypeId} {cs : List Bool} {a : Option Addr} {n c : Nat} {K : Value → Prop} : FX Tryz.prog (oBuiltin .len #[104] ty cs [.slice a n c]) K = K (.int .i64 n) := fx_pu (pu_len us_104)
theorem ustr_9 : Tryz.prog.underlying 9 = some .string := by kernel_rfl
theorem nx_slen_9 {ty : TypeId} {cs : List Bool} {l : Str} {K : Value → World → Prop} {w : World} : NX Tryz.prog (oBuiltin .len #[9] ty cs [.string (bs l)]) w K = K (.int .i64 l.length) w := nx_pu (pu_slen ustr_9)
theorem fx_slen_9 {ty : TypeId} {cs : List Bool} {l : Str} {K : Value → Prop} : FX Tryz.prog (oBuiltin .len #[9] ty cs [.string (bs l)]) K = K (.int .i64 l.length) := fx_pu (pu_slen ustr_9)
theorem en_3 (args : List Value) (w : World) : (oCall (fnV 3) args).run Tryz.prog w = .ok (.enter 3 args.toArray) w := run_enter Tryz.func3 (by kernel_rfl) args w
theorem en_4 (args : List Value) (w : World) : (oCall (fnV 4) args).run Tryz.prog w = .ok (.enter 4 args.toArray) w := run_enter Tryz.func4 (by kernel_rfl) args w
theorem en_5 (args : List Value) (w : World) : (oCall (fnV 5) args).run Tryz.prog w = .ok (.enter 5 args.toArray) w := run_enter Tryz.func5 (by kernel_rfl) args w
theorem en_6 (args : List Value) (w : World) : (oCall (fnV 6) args).run Tryz.prog w = .ok (.enter 6 args.toArray) w := run_enter Tryz.func6 (by kernel_rfl) args w
theorem en_7 (args : List Value) (w : World) : (oCall (fnV 7) args).run Tryz.prog w = .ok (.enter 7 args.toArray) w := run_enter Tryz.func7 (by kernel_rfl) args w
theorem en_8 (args : List Value) (w : World) : (oCall (fnV 8) args).run Tryz.prog w = .ok (.enter 8 args.toArray) w := run_enter Tryz.func8 (by kernel_rfl) args w
theorem en_9 (args : List Value) (w : World) : (oCall (fnV 9) args).run Tryz.prog w = .ok (.enter 9 args.toArray) w := run_enter Tryz.func9 (by kernel_rfl) args w
theorem en_10 (args : List Value) (w : World) : (oCall (fnV 10) args).run Tryz.prog w = .ok (.enter 10 args.toArray) w := run_enter Tryz.func10 (by kernel_rfl) args w
theorem en_11 (args : List Value) (w : World) : (oCall (fnV 11) args).run Tryz.prog w = .ok (.enter 11 args.toArray) w := run_enter Tryz.func11 (by kernel_rfl) args w
theorem en_12 (args : List Value) (w : World) : (oCall (fnV 12) args).run Tryz.prog w = .ok (.enter 12 args.toArray) w := run_enter Tryz.func12 (by kernel_rfl) args w
theorem en_13 (args : List Value) (w : World) : (oCall (fnV 13) args).run Tryz.prog w = .ok (.enter 13 args.toArray) w := run_enter Tryz.func13 (by kernel_rfl) args w
theorem en_14 (args : List Value) (w : World) : (oCall (fnV 14) args).run Tryz.prog w = .ok (.enter 14 args.toArray) w := run_enter Tryz.func14 (by kernel_rfl) args w
theorem en_15 (args : List Value) (w : World) : (oCall (fnV 15) args).run Tryz.prog w = .ok (.enter 15 args.toArray) w := run_enter Tryz.func15 (by kernel_rfl) args w
theorem en_16 (args : List Value) (w : World) : (oCall (fnV 16) args).run Tryz.prog w = .ok (.enter 16 args.toArray) w := run_enter Tryz.func16 (by kernel_rfl) args w
theorem en_17 (args : List Value) (w : World) : (oCall (fnV 17) args).run Tryz.prog w = .ok (.enter 17 args.toArray) w := run_enter Tryz.func17 (by kernel_rfl) args w
theorem en_18 (args : List Value) (w : World) : (oCall (fnV 18) args).run Tryz.prog w = .ok (.enter 18 args.toArray) w := run_enter Tryz.func18 (by kernel_rfl) args w
theorem en_19 (args : List Value) (w : World) : (oCall (fnV 19) args).run Tryz.prog w = .ok (.enter 19 args.toArray) w := run_enter Tryz.func19 (by kernel_rfl) args w
theorem en_20 (args : List Value) (w : World) : (oCall (fnV 20) args).run Tryz.prog w = .ok (.enter 20 args.toArray) w := run_enter Tryz.func20 (by kernel_rfl) args w
theorem en_21 (args : List Value) (w : World) : (oCall (fnV 21) args).run Tryz.prog w = .ok (.enter 21 args.toArray) w := run_enter Tryz.func21 (by kernel_rfl) args w
theorem en_22 (args : List Value) (w : World) : (oCall (fnV 22) args).run Tryz.prog w = .ok (.enter 22 args.toArray) w := run_enter Tryz.func22 (by kernel_rfl) args w
theorem en_23 (args : List Value) (w : World) : (oCall (fnV 23) args).run Tryz.prog w = .ok (.enter 23 args.toArray) w := run_enter Tryz.func23 (by kernel_rfl) args w
theorem en_24 (args : List Value) (w : World) : (oCall (fnV 24) args).run Tryz.prog w = .ok (.enter 24 args.toArray) w := run_enter Tryz.func24 (by kernel_rfl) args w
theorem en_25 (args : List Value) (w : World) : (oCall (fnV 25) args).run Tryz.prog w = .ok (.enter 25 args.toArray) w := run_enter Tryz.func25 (by kernel_rfl) args w
theorem en_26 (args : List Value) (w : World) : (oCall (fnV 26) args).run Tryz.prog w = .ok (.enter 26 args.toArray) w := run_enter Tryz.func26 (by kernel_rfl) args w
theorem en_27 (args : List Value) (w : World) : (oCall (fnV 27) args).run Tryz.prog w = .ok (.enter 27 args.toArray) w := run_enter Tryz.func27 (by kernel_rfl) args w
theorem en_28 (args : List Value) (w : World) : (oCall (fnV 28) args).run Tryz.prog w = .ok (.enter 28 args.toArray) w := run_enter Tryz.func28 (by kernel_rfl) args w
theorem en_29 (args : List Value) (w : World) : (oCall (fnV 29) args).run Tryz.prog w = .ok (.enter 29 args.toArray) w := run_enter Tryz.func29 (by kernel_rfl) args w
theorem en_30 (args : List Value) (w : World) : (oCall (fnV 30) args).run Tryz.prog w = .ok (.enter 30 args.toArray) w := run_enter Tryz.func30 (by kernel_rfl) args w
theorem en_31 (args : List Value) (w : World) : (oCall (fnV 31) args).run Tryz.prog w = .ok (.enter 31 args.toArray) w := run_enter Tryz.func31 (by kernel_rfl) args w
theorem en_32 (args : List Value) (w : World) : (oCall (fnV 32) args).run Tryz.prog w = .ok (.enter 32 args.toArray) w := run_enter Tryz.func32 (by kernel_rfl) args w
theorem en_33 (args : List Value) (w : World) : (oCall (fnV 33) args).run Tryz.prog w = .ok (.enter 33 args.toArray) w := run_enter Tryz.func33 (by kernel_rfl) args w
theorem en_34 (args : List Value) (w : World) : (oCall (fnV 34) args).run Tryz.prog w = .ok (.enter 34 args.toArray) w := run_enter Tryz.func34 (by kernel_rfl) args w
theorem en_35 (args : List Value) (w : World) : (oCall (fnV 35) args).run Tryz.prog w = .ok (.enter 35 args.toArray) w := run_enter Tryz.func35 (by kernel_rfl) args w
theorem en_36 (args : List Value) (w : World) : (oCall (fnV 36) args).run Tryz.prog w = .ok (.enter 36 args.toArray) w := run_enter Tryz.func36 (by kernel_rfl) args w
theorem en_37 (args : List Value) (w : World) : (oCall (fnV 37) args).run Tryz.prog w = .ok (.enter 37 args.toArray) w := run_enter Tryz.func37 (by kernel_rfl) args w
theorem en_38 (args : List Value) (w : World) : (oCall (fnV 38) args).run Tryz.prog w = .ok (.enter 38 args.toArray) w := run_enter Tryz.func38 (by kernel_rfl) args w
theorem en_39 (args : List Value) (w : World) : (oCall (fnV 39) args).run Tryz.prog w = .ok (.enter 39 args.toArray) w := run_enter Tryz.func39 (by kernel_rfl) args w
theorem en_40 (args : List Value) (w : World) : (oCall (fnV 40) args).run Tryz.prog w = .ok (.enter 40 args.toArray) w := run_enter Tryz.func40 (by kernel_rfl) args w
theorem en_41 (args : List Value) (w : World) : (oCall (fnV 41) args).run Tryz.prog w = .ok (.enter 41 args.toArray) w := run_enter Tryz.func41 (by kernel_rfl) args w
theorem en_42 (args : List Value) (w : World) : (oCall (fnV 42) args).run Tryz.prog w = .ok (.enter 42 args.toArray) w := run_enter Tryz.func42 (by kernel_rfl) args w
theorem en_43 (args : List Value) (w : World) : (oCall (fnV 43) args).run Tryz.prog w = .ok (.enter 43 args.toArray) w := run_enter Tryz.func43 (by kernel_rfl) args w
theorem en_44 (args : List Value) (w : World) : (oCall (fnV 44) args).run Tryz.prog w = .ok (.enter 44 args.toArray) w := run_enter Tryz.func44 (by kernel_rfl) args w
theorem en_45 (args : List Value) (w : World) : (oCall (fnV 45) args).run Tryz.prog w = .ok (.enter 45 args.toArray) w := run_enter Tryz.func45 (by kernel_rfl) args w
theorem en_46 (args : List Value) (w : World) : (oCall (fnV 46) args).run Tryz.prog w = .ok (.enter 46 args.toArray) w := run_enter Tryz.func46 (by kernel_rfl) args w
theorem en_47 (args : List Value) (w : World) : (oCall (fnV 47) args).run Tryz.prog w = .ok (.enter 47 args.toArray) w := run_enter Tryz.func47 (by kernel_rfl) args w
theorem en_48 (args : List Value) (w : World) : (oCall (fnV 48) args).run Tryz.prog w = .ok (.enter 48 args.toArray) w := run_enter Tryz.func48 (by kernel_rfl) args w
theorem en_49 (args : List Value) (w : World) : (oCall (fnV 49) args).run Tryz.prog w = .ok (.enter 49 args.toArray) w := run_enter Tryz.func49 (by kernel_rfl) args w
theorem en_50 (args : List Value) (w : World) : (oCall (fnV 50) args).run Tryz.prog w = .ok (.enter 50 args.toArray) w := run_enter Tryz.func50 (by kernel_rfl) args w
theorem en_51 (args : List Value) (w : World) : (oCall (fnV 51) args).run Tryz.prog w = .ok (.enter 51 args.toArray) w := run_enter Tryz.func51 (by kernel_rfl) args w
theorem en_52 (args : List Value) (w : World) : (oCall (fnV 52) args).run Tryz.prog w = .ok (.enter 52 args.toArray) w := run_enter Tryz.func52 (by kernel_rfl) args w
theorem en_53 (args : List Value) (w : World) : (oCall (fnV 53) args).run Tryz.prog w = .ok (.enter 53 args.toArray) w := run_enter Tryz.func53 (by kernel_rfl) args w
theorem en_54 (args : List Value) (w : World) : (oCall (fnV 54) args).run Tryz.prog w = .ok (.enter 54 args.toArray) w := run_enter Tryz.func54 (by kernel_rfl) args w
theorem en_55 (args : List Value) (w : World) : (oCall (fnV 55) args).run Tryz.prog w = .ok (.enter 55 args.toArray) w := run_enter Tryz.func55 (by kernel_rfl) args w
theorem en_56 (args : List Value) (w : World) : (oCall (fnV 56) args).run Tryz.prog w = .ok (.enter 56 args.toArray) w := run_enter Tryz.func56 (by kernel_rfl) args w
theorem en_57 (args : List Value) (w : World) : (oCall (fnV 57) args).run Tryz.prog w = .ok (.enter 57 args.toArray) w := run_enter Tryz.func57 (by kernel_rfl) args w
theorem en_58 (args : List Value) (w : World) : (oCall (fnV 58) args).run Tryz.prog w = .ok (.enter 58 args.toArray) w := run_enter Tryz.func58 (by kernel_rfl) args w
theorem en_59 (args : List Value) (w : World) : (oCall (fnV 59) args).run Tryz.prog w = .ok (.enter 59 args.toArray) w := run_enter Tryz.func59 (by kernel_rfl) args w
theorem en_60 (args : List Value) (w : World) : (oCall (fnV 60) args).run Tryz.prog w = .ok (.enter 60 args.toArray) w := run_enter Tryz.func60 (by kernel_rfl) args w
theorem en_61 (args : List Value) (w : World) : (oCall (fnV 61) args).run Tryz.prog w = .ok (.enter 61 args.toArray) w := run_enter Tryz.func61 (by kernel_rfl) args w
theorem en_62 (args : List Value) (w : World) : (oCall (fnV 62) args).run Tryz.prog w = .ok (.enter 62 args.toArray) w := run_enter Tryz.func62 (by kernel_rfl) args w
theorem en_63 (args : List Value) (w : World) : (oCall (fnV 63) args).run Tryz.prog w = .ok (.enter 63 args.toArray) w := run_enter Tryz.func63 (by kernel_rfl) args w
theorem en_64 (args : List Value) (w : World) : (oCall (fnV 64) args).run Tryz.prog w = .ok (.enter 64 args.toArray) w := run_enter Tryz.func64 (by kernel_rfl) args w
theorem en_65 (args : List Value) (w : World) : (oCall (fnV 65) args).run Tryz.prog w = .ok (.enter 65 args.toArray) w := run_enter Tryz.func65 (by kernel_rfl) args w
theorem en_66 (args : List Value) (w : World) : (oCall (fnV 66) args).run Tryz.prog w = .ok (.enter 66 args.toArray) w := run_enter Tryz.func66 (by kernel_rfl) args w
theorem en_67 (args : List Value) (w : World) : (oCall (fnV 67) args).run Tryz.prog w = .ok (.enter 67 args.toArray) w := run_enter Tryz.func67 (by kernel_rfl) args w
theorem en_68 (args : List Value) (w : World) : (oCall (fnV 68) args).run Tryz.prog w = .ok (.enter 68 args.toArray) w := run_enter Tryz.func68 (by kernel_rfl) args w
theorem en_69 (args : List Value) (w : World) : (oCall (fnV 69) args).run Tryz.prog w = .ok (.enter 69 args.toArray) w := run_enter Tryz.func69 (by kernel_rfl) args w
theorem en_70 (args : List Value) (w : World) : (oCall (fnV 70) args).run Tryz.prog w = .ok (.enter 70 args.toArray) w := run_enter Tryz.func70 (by kernel_rfl) args w
theorem en_71 (args : List Value) (w : World) : (oCall (fnV 71) args).run Tryz.prog w = .ok (.enter 71 args.toArray) w := run_enter Tryz.func71 (by kernel_rfl) args w
theorem en_72 (args : List Value) (w : World) : (oCall (fnV 72) args).run Tryz.prog w = .ok (.enter 72 args.toArray) w := run_enter Tryz.func72 (by kernel_rfl) args w
theorem en_73 (args : List Value) (w : World) : (oCall (fnV 73) args).run Tryz.prog w = .ok (.enter 73 args.toArray) w := run_enter Tryz.func73 (by kernel_rfl) args w
theorem en_74 (args : List Value) (w : World) : (oCall (fnV 74) args).run Tryz.prog w = .ok (.enter 74 args.toArray) w := run_enter Tryz.func74 (by kernel_rfl) args w
theorem en_75 (args : List Value) (w : World) : (oCall (fnV 75) args).run Tryz.prog w = .ok (.enter 75 args.toArray) w := run_enter Tryz.func75 (by kernel_rfl) args w
theorem en_76 (args : List Value) (w : World) : (oCall (fnV 76) args).run Tryz.prog w = .ok (.enter 76 args.toArray) w := run_enter Tryz.func76 (by kernel_rfl) args w
theorem en_77 (args : List Value) (w : World) : (oCall (fnV 77) args).run Tryz.prog w = .ok (.enter 77 args.toArray) w := run_enter Tryz.func77 (by kernel_rfl) args w
theorem en_78 (args : List Value) (w : World) : (oCall (fnV 78) args).run Tryz.prog w = .ok (.enter 78 args.toArray) w := run_enter Tryz.func78 (by kernel_rfl) args w
theorem en_79 (args : List Value) (w : World) : (oCall (fnV 79) args).run Tryz.prog w = .ok (.enter 79 args.toArray) w := run_enter Tryz.func79 (by kernel_rfl) args w
theorem en_80 (args : List Value) (w : World) : (oCall (fnV 80) args).run Tryz.prog w = .ok (.enter 80 args.toArray) w := run_enter Tryz.func80 (by kernel_rfl) args w
theorem en_81 (args : List Value) (w : World) : (oCall (fnV 81) args).run Tryz.prog w = .ok (.enter 81 args.toArray) w := run_enter Tryz.func81 (by kernel_rfl) args w
theorem en_82 (args : List Value) (w : World) : (oCall (fnV 82) args).run Tryz.prog w = .ok (.enter 82 args.toArray) w := run_enter Tryz.func82 (by kernel_rfl) args w
theorem en_83 (args : List Value) (w : World) : (oCall (fnV 83) args).run Tryz.prog w = .ok (.enter 83 args.toArray) w := run_enter Tryz.func83 (by kernel_rfl) args w
theorem en_84 (args : List Value) (w : World) : (oCall (fnV 84) args).run Tryz.prog w = .ok (.enter 84 args.toArray) w := run_enter Tryz.func84 (by kernel_rfl) args w
theorem en_85 (args : List Value) (w : World) : (oCall (fnV 85) args).run Tryz.prog w = .ok (.enter 85 args.toArray) w := run_enter Tryz.func85 (by kernel_rfl) args w
theorem en_86 (args : List Value) (w : World) : (oCall (fnV 86) args).run Tryz.prog w = .ok (.enter 86 args.toArray) w := run_enter Tryz.func86 (by kernel_rfl) args w
theorem en_87 (args : List Value) (w : World) : (oCall (fnV 87) args).run Tryz.prog w = .ok (.enter 87 args.toArray) w := run_enter Tryz.func87 (by kernel_rfl) args w
theorem en_88 (args : List Value) (w : World) : (oCall (fnV 88) args).run Tryz.prog w = .ok (.enter 88 args.toArray) w := run_enter Tryz.func88 (by kernel_rfl) args w
theorem en_89 (args : List Value) (w : World) : (oCall (fnV 89) args).run Tryz.prog w = .ok (.enter 89 args.toArray) w := run_enter Tryz.func89 (by kernel_rfl) args w
theorem en_90 (args : List Value) (w : World) : (oCall (fnV 90) args).run Tryz.prog w = .ok (.enter 90 args.toArray) w := run_enter Tryz.func90 (by kernel_rfl) args w
theorem en_91 (args : List Value) (w : World) : (oCall (fnV 91) args).run Tryz.prog w = .ok (.enter 91 args.toArray) w := run_enter Tryz.func91 (by kernel_rfl) args w
theorem en_92 (args : List Value) (w : World) : (oCall (fnV 92) args).run Tryz.prog w = .ok (.enter 92 args.toArray) w := run_enter Tryz.func92 (by kernel_rfl) args w
theorem en_93 (args : List Value) (w : World) : (oCall (fnV 93) args).run Tryz.prog w = .ok (.enter 93 args.toArray) w := run_enter Tryz.func93 (by kernel_rfl) args w
theorem en_94 (args : List Value) (w : World) : (oCall (fnV 94) args).run Tryz.prog w = .ok (.enter 94 args.toArray) w := run_enter Tryz.func94 (by kernel_rfl) args w
theorem en_95 (args : List Value) (w : World) : (oCall (fnV 95) args).run Tryz.prog w = .ok (.enter 95 args.toArray) w := run_enter Tryz.func95 (by kernel_rfl) args w
theorem en_96 (args : List Value) (w : World) : (oCall (fnV 96) args).run Tryz.prog w = .ok (.enter 96 args.toArray) w := run_enter Tryz.func96 (by kernel_rfl) args w
theorem en_97 (args : List Value) (w : World) : (oCall (fnV 97) args).run Tryz.prog w = .ok (.enter 97 args.toArray) w := run_enter Tryz.func97 (by kernel_rfl) args w
theorem en_98 (args : List Value) (w : World) : (oCall (fnV 98) args).run Tryz.prog w = .ok (.enter 98 args.toArray) w := run_enter Tryz.func98 (by kernel_rfl) args w
theorem en_99 (args : List Value) (w : World) : (oCall (fnV 99) args).run Tryz.prog w = .ok (.enter 99 args.toArray) w := run_enter Tryz.func99 (by kernel_rfl) args w
theorem en_101 (args : List Value) (w : World) : (oCall (fnV 101) args).run Tryz.prog w = .ok (.enter 101 args.toArray) w := run_enter Tryz.func101 (by kernel_rfl) args w
theorem en_102 (args : List Value) (w : World) : (oCall (fnV 102) args).run Tryz.prog w = .ok (.enter 102 args.toArray) w := run_enter Tryz.func102 (by kernel_rfl) args w
theorem en_103 (args : List Value) (w : World) : (oCall (fnV 103) args).run Tryz.prog w = .ok (.enter 103 args.toArray) w := run_enter Tryz.func103 (by kernel_rfl) args w
theorem en_104 (args : List Value) (w : World) : (oCall (fnV 104) args).run Tryz.prog w = .ok (.enter 104 args.toArray) w := run_enter Tryz.func104 (by kernel_rfl) args w
theorem en_105 (args : List Value) (w : World) : (oCall (fnV 105) args).run Tryz.prog w = .ok (.enter 105 args.toArray) w := run_enter Tryz.func105 (by kernel_rfl) args w
theorem en_106 (args : List Value) (w : World) : (oCall (fnV 106) args).run Tryz.prog w = .ok (.enter 106 args.toArray) w := run_enter Tryz.func106 (by kernel_rfl) args w
theorem en_107 (args : List Value) (w : World) : (oCall (fnV 107) args).run Tryz.prog w = .ok (.enter 107 args.toArray) w := run_enter Tryz.func107 (by kernel_rfl) args w
theorem en_108 (args : List Value) (w : World) : (oCall (fnV 108) args).run Tryz.prog w = .ok (.enter 108 args.toArray) w := run_enter Tryz.func108 (by kernel_rfl) args w
theorem en_109 (args : List Value) (w : World) : (oCall (fnV 109) args).run Tryz.prog w = .ok (.enter 109 args.toArray) w := run_enter Tryz.func109 (by kernel_rfl) args w
theorem en_110 (args : List Value) (w : World) : (oCall (fnV 110) args).run Tryz.prog w = .ok (.enter 110 args.toArray) w := run_enter Tryz.func110 (by kernel_rfl) args w
theorem en_111 (args : List Value) (w : World) : (oCall (fnV 111) args).run Tryz.prog w = .ok (.enter 111 args.toArray) w := run_enter Tryz.func111 (by kernel_rfl) args w
theorem en_112 (args : List Value) (w : World) : (oCall (fnV 112) args).run Tryz.prog w = .ok (.enter 112 args.toArray) w := run_enter Tryz.func112 (by kernel_rfl) args w
theorem en_114 (args : List Value) (w : World) : (oCall (fnV 114) args).run Tryz.prog w = .ok (.enter 114 args.toArray) w := run_enter Tryz.func114 (by kernel_rfl) args w
theorem en_115 (args : List Value) (w : World) : (oCall (fnV 115) args).run Tryz.prog w = .ok (.enter 115 args.toArray) w := run_enter Tryz.func115 (by kernel_rfl) args w
theorem en_117 (args : List Value) (w : World) : (oCall (fnV 117) args).run Tryz.prog w = .ok (.enter 117 args.toArray) w := run_enter Tryz.func117 (by kernel_rfl) args w
theorem en_118 (args : List Value) (w : World) : (oCall (fnV 118) args).run Tryz.prog w = .ok (.enter 118 args.toArray) w := run_enter Tryz.func118 (by kernel_rfl) args w
theorem en_120 (args : List Value) (w : World) : (oCall (fnV 120) args).run Tryz.prog w = .ok (.enter 120 args.toArray) w := run_enter Tryz.func120 (by kernel_rfl) args w
theorem en_121 (args : List Value) (w : World) : (oCall (fnV 121) args).run Tryz.prog w = .ok (.enter 121 args.toArray) w := run_enter Tryz.func121 (by kernel_rfl) args w
theorem en_122 (args : List Value) (w : World) : (oCall (fnV 122) args).run Tryz.prog w = .ok (.enter 122 args.toArray) w := run_enter Tryz.func122 (by kernel_rfl) args w
theorem en_123 (args : List Value) (w : World) : (oCall (fnV 123) args).run Tryz.prog w = .ok (.enter 123 args.toArray) w := run_enter Tryz.func123 (by kernel_rfl) args w
theorem en_124 (args : List Value) (w : World) : (oCall (fnV 124) args).run Tryz.prog w = .ok (.enter 124 args.toArray) w := run_enter Tryz.func124 (by kernel_rfl) args w
theorem en_125 (args : List Value) (w : World) : (oCall (fnV 125) args).run Tryz.prog w = .ok (.enter 125 args.toArray) w := run_enter Tryz.func125 (by kernel_rfl) args w
theorem en_126 (args : List Value) (w : World) : (oCall (fnV 126) args).run Tryz.prog w = .ok (.enter 126 args.toArray) w := run_enter Tryz.func126 (by kernel_rfl) args w
theorem en_127 (args : List Value) (w : World) : (oCall (fnV 127) args).run Tryz.prog w = .ok (.enter 127 args.toArray) w := run_enter Tryz.func127 (by kernel_rfl) args w
theorem en_129 (args : List Value) (w : World) : (oCall (fnV 129) args).run Tryz.prog w = .ok (.enter 129 args.toArray) w := run_enter Tryz.func129 (by kernel_rfl) args w
theorem en_130 (args : List Value) (w : World) : (oCall (fnV 130) args).run Tryz.prog w = .ok (.enter 130 args.toArray) w := run_enter Tryz.func130 (by kernel_rfl) args w
end Go.Proofs.YthakeicmaeefiaaGreatDoor
