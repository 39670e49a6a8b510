/- The evaluator's table fits the program; lives() answers true. -/
import Derived.Test.YthakeicmaeefiaaGreatDoorTa
import Derived.Test.YthakeicmaeefiaaGreatDoorEg
set_option linter.unusedVariables false
set_option linter.unusedSimpArgs false
namespace Go.Proofs.YthakeicmaeefiaaGreatDoor
open Go Go.Sh Go.Ev Go.Proofs
set_option maxRecDepth 100000

def chkF (fn : Func) (pl : Pl) : Bool := match fn.body with
  | none => false
  | some b => !(fn.name == "runtime.NumGoroutine") && (stC b pl && (codeOK fn.ntmps b && (plOK fn.ntmps pl && fn.results.toList.all (resOK fn.ntmps))))
theorem fuOf_ok {P : Program} {k : FuncId} {fn : Func} {pl : Pl} {fu : Fu} (h : P.funcs[k]? = some fn) (hc : chkF fn pl = true) (hf : fuOf fn pl = some fu) : fuOK P k fu := by
  unfold chkF at hc
  unfold fuOf at hf
  cases hb : fn.body with
  | none => rw [hb] at hc; cases hc
  | some b =>
    rw [hb] at hc hf
    simp only [Bool.and_eq_true, Bool.not_eq_true'] at hc
    simp only [Option.map_some, Option.some.injEq] at hf
    subst hf
    refine ⟨fn, h, hb, rfl, rfl, hc.1, ?_⟩
    simp only [Bool.and_eq_true]
    exact hc.2
theorem chk_3 : chkF Tryz.f3 pl3 = true := by kernel_rfl
theorem chk_4 : chkF Tryz.f4 pl4 = true := by kernel_rfl
theorem chk_5 : chkF Tryz.f5 pl5 = true := by kernel_rfl
theorem chk_6 : chkF Tryz.f6 pl6 = true := by kernel_rfl
theorem chk_7 : chkF Tryz.f7 pl7 = true := by kernel_rfl
theorem chk_8 : chkF Tryz.f8 pl8 = true := by kernel_rfl
theorem chk_9 : chkF Tryz.f9 pl9 = true := by kernel_rfl
theorem chk_10 : chkF Tryz.f10 pl10 = true := by kernel_rfl
theorem chk_11 : chkF Tryz.f11 pl11 = true := by kernel_rfl
theorem chk_12 : chkF Tryz.f12 pl12 = true := by kernel_rfl
theorem chk_13 : chkF Tryz.f13 pl13 = true := by kernel_rfl
theorem chk_14 : chkF Tryz.f14 pl14 = true := by kernel_rfl
theorem chk_15 : chkF Tryz.f15 pl15 = true := by kernel_rfl
theorem chk_16 : chkF Tryz.f16 pl16 = true := by kernel_rfl
theorem chk_17 : chkF Tryz.f17 pl17 = true := by kernel_rfl
theorem chk_18 : chkF Tryz.f18 pl18 = true := by kernel_rfl
theorem chk_19 : chkF Tryz.f19 pl19 = true := by kernel_rfl
theorem chk_20 : chkF Tryz.f20 pl20 = true := by kernel_rfl
theorem chk_21 : chkF Tryz.f21 pl21 = true := by kernel_rfl
theorem chk_22 : chkF Tryz.f22 pl22 = true := by kernel_rfl
theorem chk_23 : chkF Tryz.f23 pl23 = true := by kernel_rfl
theorem chk_24 : chkF Tryz.f24 pl24 = true := by kernel_rfl
theorem chk_25 : chkF Tryz.f25 pl25 = true := by kernel_rfl
theorem chk_26 : chkF Tryz.f26 pl26 = true := by kernel_rfl
theorem chk_27 : chkF Tryz.f27 pl27 = true := by kernel_rfl
theorem chk_28 : chkF Tryz.f28 pl28 = true := by kernel_rfl
theorem chk_29 : chkF Tryz.f29 pl29 = true := by kernel_rfl
theorem chk_30 : chkF Tryz.f30 pl30 = true := by kernel_rfl
theorem chk_31 : chkF Tryz.f31 pl31 = true := by kernel_rfl
theorem chk_32 : chkF Tryz.f32 pl32 = true := by kernel_rfl
theorem chk_33 : chkF Tryz.f33 pl33 = true := by kernel_rfl
theorem chk_34 : chkF Tryz.f34 pl34 = true := by kernel_rfl
theorem chk_35 : chkF Tryz.f35 pl35 = true := by kernel_rfl
theorem chk_36 : chkF Tryz.f36 pl36 = true := by kernel_rfl
theorem chk_37 : chkF Tryz.f37 pl37 = true := by kernel_rfl
theorem chk_38 : chkF Tryz.f38 pl38 = true := by kernel_rfl
theorem chk_39 : chkF Tryz.f39 pl39 = true := by kernel_rfl
theorem chk_40 : chkF Tryz.f40 pl40 = true := by kernel_rfl
theorem chk_41 : chkF Tryz.f41 pl41 = true := by kernel_rfl
theorem chk_42 : chkF Tryz.f42 pl42 = true := by kernel_rfl
theorem chk_43 : chkF Tryz.f43 pl43 = true := by kernel_rfl
theorem chk_44 : chkF Tryz.f44 pl44 = true := by kernel_rfl
theorem chk_45 : chkF Tryz.f45 pl45 = true := by kernel_rfl
theorem chk_46 : chkF Tryz.f46 pl46 = true := by kernel_rfl
theorem chk_47 : chkF Tryz.f47 pl47 = true := by kernel_rfl
theorem chk_48 : chkF Tryz.f48 pl48 = true := by kernel_rfl
theorem chk_49 : chkF Tryz.f49 pl49 = true := by kernel_rfl
theorem chk_50 : chkF Tryz.f50 pl50 = true := by kernel_rfl
theorem chk_51 : chkF Tryz.f51 pl51 = true := by kernel_rfl
theorem chk_52 : chkF Tryz.f52 pl52 = true := by kernel_rfl
theorem chk_53 : chkF Tryz.f53 pl53 = true := by kernel_rfl
theorem chk_54 : chkF Tryz.f54 pl54 = true := by kernel_rfl
theorem chk_55 : chkF Tryz.f55 pl55 = true := by kernel_rfl
theorem chk_56 : chkF Tryz.f56 pl56 = true := by kernel_rfl
theorem chk_57 : chkF Tryz.f57 pl57 = true := by kernel_rfl
theorem chk_58 : chkF Tryz.f58 pl58 = true := by kernel_rfl
theorem chk_59 : chkF Tryz.f59 pl59 = true := by kernel_rfl
theorem chk_60 : chkF Tryz.f60 pl60 = true := by kernel_rfl
theorem chk_61 : chkF Tryz.f61 pl61 = true := by kernel_rfl
theorem chk_62 : chkF Tryz.f62 pl62 = true := by kernel_rfl
theorem chk_63 : chkF Tryz.f63 pl63 = true := by kernel_rfl
theorem chk_64 : chkF Tryz.f64 pl64 = true := by kernel_rfl
theorem chk_65 : chkF Tryz.f65 pl65 = true := by kernel_rfl
theorem chk_66 : chkF Tryz.f66 pl66 = true := by kernel_rfl
theorem chk_67 : chkF Tryz.f67 pl67 = true := by kernel_rfl
theorem chk_68 : chkF Tryz.f68 pl68 = true := by kernel_rfl
theorem chk_69 : chkF Tryz.f69 pl69 = true := by kernel_rfl
theorem chk_70 : chkF Tryz.f70 pl70 = true := by kernel_rfl
theorem chk_71 : chkF Tryz.f71 pl71 = true := by kernel_rfl
theorem chk_72 : chkF Tryz.f72 pl72 = true := by kernel_rfl
theorem chk_73 : chkF Tryz.f73 pl73 = true := by kernel_rfl
theorem chk_74 : chkF Tryz.f74 pl74 = true := by kernel_rfl
theorem chk_75 : chkF Tryz.f75 pl75 = true := by kernel_rfl
theorem chk_76 : chkF Tryz.f76 pl76 = true := by kernel_rfl
theorem chk_77 : chkF Tryz.f77 pl77 = true := by kernel_rfl
theorem chk_78 : chkF Tryz.f78 pl78 = true := by kernel_rfl
theorem chk_79 : chkF Tryz.f79 pl79 = true := by kernel_rfl
theorem chk_80 : chkF Tryz.f80 pl80 = true := by kernel_rfl
theorem chk_81 : chkF Tryz.f81 pl81 = true := by kernel_rfl
theorem chk_82 : chkF Tryz.f82 pl82 = true := by kernel_rfl
theorem chk_83 : chkF Tryz.f83 pl83 = true := by kernel_rfl
theorem chk_84 : chkF Tryz.f84 pl84 = true := by kernel_rfl
theorem chk_85 : chkF Tryz.f85 pl85 = true := by kernel_rfl
theorem chk_86 : chkF Tryz.f86 pl86 = true := by kernel_rfl
theorem chk_87 : chkF Tryz.f87 pl87 = true := by kernel_rfl
theorem chk_88 : chkF Tryz.f88 pl88 = true := by kernel_rfl
theorem chk_89 : chkF Tryz.f89 pl89 = true := by kernel_rfl
theorem chk_90 : chkF Tryz.f90 pl90 = true := by kernel_rfl
theorem chk_91 : chkF Tryz.f91 pl91 = true := by kernel_rfl
theorem chk_92 : chkF Tryz.f92 pl92 = true := by kernel_rfl
theorem chk_93 : chkF Tryz.f93 pl93 = true := by kernel_rfl
theorem chk_94 : chkF Tryz.f94 pl94 = true := by kernel_rfl
theorem chk_95 : chkF Tryz.f95 pl95 = true := by kernel_rfl
theorem chk_96 : chkF Tryz.f96 pl96 = true := by kernel_rfl
theorem chk_97 : chkF Tryz.f97 pl97 = true := by kernel_rfl
theorem chk_98 : chkF Tryz.f98 pl98 = true := by kernel_rfl
theorem chk_99 : chkF Tryz.f99 pl99 = true := by kernel_rfl
theorem chk_101 : chkF Tryz.f101 pl101 = true := by kernel_rfl
theorem chk_102 : chkF Tryz.f102 pl102 = true := by kernel_rfl
theorem chk_103 : chkF Tryz.f103 pl103 = true := by kernel_rfl
theorem chk_104 : chkF Tryz.f104 pl104 = true := by kernel_rfl
theorem chk_105 : chkF Tryz.f105 pl105 = true := by kernel_rfl
theorem chk_106 : chkF Tryz.f106 pl106 = true := by kernel_rfl
theorem chk_107 : chkF Tryz.f107 pl107 = true := by kernel_rfl
theorem chk_108 : chkF Tryz.f108 pl108 = true := by kernel_rfl
theorem chk_109 : chkF Tryz.f109 pl109 = true := by kernel_rfl
theorem chk_110 : chkF Tryz.f110 pl110 = true := by kernel_rfl
theorem chk_111 : chkF Tryz.f111 pl111 = true := by kernel_rfl
theorem chk_112 : chkF Tryz.f112 pl112 = true := by kernel_rfl
theorem chk_114 : chkF Tryz.f114 pl114 = true := by kernel_rfl
theorem chk_115 : chkF Tryz.f115 pl115 = true := by kernel_rfl
theorem chk_117 : chkF Tryz.f117 pl117 = true := by kernel_rfl
theorem chk_118 : chkF Tryz.f118 pl118 = true := by kernel_rfl
theorem chk_120 : chkF Tryz.f120 pl120 = true := by kernel_rfl
theorem chk_121 : chkF Tryz.f121 pl121 = true := by kernel_rfl
theorem chk_122 : chkF Tryz.f122 pl122 = true := by kernel_rfl
theorem chk_123 : chkF Tryz.f123 pl123 = true := by kernel_rfl
theorem chk_124 : chkF Tryz.f124 pl124 = true := by kernel_rfl
theorem chk_125 : chkF Tryz.f125 pl125 = true := by kernel_rfl
theorem chk_126 : chkF Tryz.f126 pl126 = true := by kernel_rfl
theorem chk_127 : chkF Tryz.f127 pl127 = true := by kernel_rfl
theorem chk_129 : chkF Tryz.f129 pl129 = true := by kernel_rfl
theorem chk_130 : chkF Tryz.f130 pl130 = true := by kernel_rfl
theorem tab_ok : ∀ f fu, tab f = some fu → fuOK Tryz.prog f fu := by
  intro f fu h
  unfold tab at h
  split at h
  · exact fuOf_ok Tryz.func3 chk_3 h
  · exact fuOf_ok Tryz.func4 chk_4 h
  · exact fuOf_ok Tryz.func5 chk_5 h
  · exact fuOf_ok Tryz.func6 chk_6 h
  · exact fuOf_ok Tryz.func7 chk_7 h
  · exact fuOf_ok Tryz.func8 chk_8 h
  · exact fuOf_ok Tryz.func9 chk_9 h
  · exact fuOf_ok Tryz.func10 chk_10 h
  · exact fuOf_ok Tryz.func11 chk_11 h
  · exact fuOf_ok Tryz.func12 chk_12 h
  · exact fuOf_ok Tryz.func13 chk_13 h
  · exact fuOf_ok Tryz.func14 chk_14 h
  · exact fuOf_ok Tryz.func15 chk_15 h
  · exact fuOf_ok Tryz.func16 chk_16 h
  · exact fuOf_ok Tryz.func17 chk_17 h
  · exact fuOf_ok Tryz.func18 chk_18 h
  · exact fuOf_ok Tryz.func19 chk_19 h
  · exact fuOf_ok Tryz.func20 chk_20 h
  · exact fuOf_ok Tryz.func21 chk_21 h
  · exact fuOf_ok Tryz.func22 chk_22 h
  · exact fuOf_ok Tryz.func23 chk_23 h
  · exact fuOf_ok Tryz.func24 chk_24 h
  · exact fuOf_ok Tryz.func25 chk_25 h
  · exact fuOf_ok Tryz.func26 chk_26 h
  · exact fuOf_ok Tryz.func27 chk_27 h
  · exact fuOf_ok Tryz.func28 chk_28 h
  · exact fuOf_ok Tryz.func29 chk_29 h
  · exact fuOf_ok Tryz.func30 chk_30 h
  · exact fuOf_ok Tryz.func31 chk_31 h
  · exact fuOf_ok Tryz.func32 chk_32 h
  · exact fuOf_ok Tryz.func33 chk_33 h
  · exact fuOf_ok Tryz.func34 chk_34 h
  · exact fuOf_ok Tryz.func35 chk_35 h
  · exact fuOf_ok Tryz.func36 chk_36 h
  · exact fuOf_ok Tryz.func37 chk_37 h
  · exact fuOf_ok Tryz.func38 chk_38 h
  · exact fuOf_ok Tryz.func39 chk_39 h
  · exact fuOf_ok Tryz.func40 chk_40 h
  · exact fuOf_ok Tryz.func41 chk_41 h
  · exact fuOf_ok Tryz.func42 chk_42 h
  · exact fuOf_ok Tryz.func43 chk_43 h
  · exact fuOf_ok Tryz.func44 chk_44 h
  · exact fuOf_ok Tryz.func45 chk_45 h
  · exact fuOf_ok Tryz.func46 chk_46 h
  · exact fuOf_ok Tryz.func47 chk_47 h
  · exact fuOf_ok Tryz.func48 chk_48 h
  · exact fuOf_ok Tryz.func49 chk_49 h
  · exact fuOf_ok Tryz.func50 chk_50 h
  · exact fuOf_ok Tryz.func51 chk_51 h
  · exact fuOf_ok Tryz.func52 chk_52 h
  · exact fuOf_ok Tryz.func53 chk_53 h
  · exact fuOf_ok Tryz.func54 chk_54 h
  · exact fuOf_ok Tryz.func55 chk_55 h
  · exact fuOf_ok Tryz.func56 chk_56 h
  · exact fuOf_ok Tryz.func57 chk_57 h
  · exact fuOf_ok Tryz.func58 chk_58 h
  · exact fuOf_ok Tryz.func59 chk_59 h
  · exact fuOf_ok Tryz.func60 chk_60 h
  · exact fuOf_ok Tryz.func61 chk_61 h
  · exact fuOf_ok Tryz.func62 chk_62 h
  · exact fuOf_ok Tryz.func63 chk_63 h
  · exact fuOf_ok Tryz.func64 chk_64 h
  · exact fuOf_ok Tryz.func65 chk_65 h
  · exact fuOf_ok Tryz.func66 chk_66 h
  · exact fuOf_ok Tryz.func67 chk_67 h
  · exact fuOf_ok Tryz.func68 chk_68 h
  · exact fuOf_ok Tryz.func69 chk_69 h
  · exact fuOf_ok Tryz.func70 chk_70 h
  · exact fuOf_ok Tryz.func71 chk_71 h
  · exact fuOf_ok Tryz.func72 chk_72 h
  · exact fuOf_ok Tryz.func73 chk_73 h
  · exact fuOf_ok Tryz.func74 chk_74 h
  · exact fuOf_ok Tryz.func75 chk_75 h
  · exact fuOf_ok Tryz.func76 chk_76 h
  · exact fuOf_ok Tryz.func77 chk_77 h
  · exact fuOf_ok Tryz.func78 chk_78 h
  · exact fuOf_ok Tryz.func79 chk_79 h
  · exact fuOf_ok Tryz.func80 chk_80 h
  · exact fuOf_ok Tryz.func81 chk_81 h
  · exact fuOf_ok Tryz.func82 chk_82 h
  · exact fuOf_ok Tryz.func83 chk_83 h
  · exact fuOf_ok Tryz.func84 chk_84 h
  · exact fuOf_ok Tryz.func85 chk_85 h
  · exact fuOf_ok Tryz.func86 chk_86 h
  · exact fuOf_ok Tryz.func87 chk_87 h
  · exact fuOf_ok Tryz.func88 chk_88 h
  · exact fuOf_ok Tryz.func89 chk_89 h
  · exact fuOf_ok Tryz.func90 chk_90 h
  · exact fuOf_ok Tryz.func91 chk_91 h
  · exact fuOf_ok Tryz.func92 chk_92 h
  · exact fuOf_ok Tryz.func93 chk_93 h
  · exact fuOf_ok Tryz.func94 chk_94 h
  · exact fuOf_ok Tryz.func95 chk_95 h
  · exact fuOf_ok Tryz.func96 chk_96 h
  · exact fuOf_ok Tryz.func97 chk_97 h
  · exact fuOf_ok Tryz.func98 chk_98 h
  · exact fuOf_ok Tryz.func99 chk_99 h
  · exact fuOf_ok Tryz.func101 chk_101 h
  · exact fuOf_ok Tryz.func102 chk_102 h
  · exact fuOf_ok Tryz.func103 chk_103 h
  · exact fuOf_ok Tryz.func104 chk_104 h
  · exact fuOf_ok Tryz.func105 chk_105 h
  · exact fuOf_ok Tryz.func106 chk_106 h
  · exact fuOf_ok Tryz.func107 chk_107 h
  · exact fuOf_ok Tryz.func108 chk_108 h
  · exact fuOf_ok Tryz.func109 chk_109 h
  · exact fuOf_ok Tryz.func110 chk_110 h
  · exact fuOf_ok Tryz.func111 chk_111 h
  · exact fuOf_ok Tryz.func112 chk_112 h
  · exact fuOf_ok Tryz.func114 chk_114 h
  · exact fuOf_ok Tryz.func115 chk_115 h
  · exact fuOf_ok Tryz.func117 chk_117 h
  · exact fuOf_ok Tryz.func118 chk_118 h
  · exact fuOf_ok Tryz.func120 chk_120 h
  · exact fuOf_ok Tryz.func121 chk_121 h
  · exact fuOf_ok Tryz.func122 chk_122 h
  · exact fuOf_ok Tryz.func123 chk_123 h
  · exact fuOf_ok Tryz.func124 chk_124 h
  · exact fuOf_ok Tryz.func125 chk_125 h
  · exact fuOf_ok Tryz.func126 chk_126 h
  · exact fuOf_ok Tryz.func127 chk_127 h
  · exact fuOf_ok Tryz.func129 chk_129 h
  · exact fuOf_ok Tryz.func130 chk_130 h
  · cases h
def extT : FuncId → List RV → Option RV
  | 113, l => cmpE l
  | 116, l => idxE l
  | 128, l => cntE l
  | _, _ => none
theorem ext_ok : ExtOK Tryz.prog tab extT := by
  intro f xs r _ e μ vs hv
  unfold extT at e
  split at e
  · exact cmpE_ok Tryz.func113 ⟨by kernel_rfl, by kernel_rfl, by kernel_rfl⟩ (by kernel_rfl) e μ vs hv
  · exact idxE_ok Tryz.func116 ⟨by kernel_rfl, by kernel_rfl, by kernel_rfl⟩ (by kernel_rfl) e μ vs hv
  · exact cntE_ok Tryz.func128 ⟨by kernel_rfl, by kernel_rfl, by kernel_rfl⟩ (by kernel_rfl) e μ vs hv
  · cases e
end Go.Proofs.YthakeicmaeefiaaGreatDoor
