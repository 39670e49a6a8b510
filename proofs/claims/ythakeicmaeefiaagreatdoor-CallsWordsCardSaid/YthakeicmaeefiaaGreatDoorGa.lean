/- Shallow readings of functions of the program, written by gen.py. -/
import Derived.Test.YthakeicmaeefiaaGreatDoorFc
set_option linter.unusedVariables false
set_option linter.unusedSimpArgs false
namespace Go.Proofs.YthakeicmaeefiaaGreatDoor
open Go Go.Sh Go.Proofs
set_option maxRecDepth 100000
/-- toolchest/tree.Check -/
def G9 (P : Program) (a0 : Value) (w : World) (R : Value → World → Prop) : Prop :=
NX P (oBox 24 a0) w fun v1 w =>
NX P (oFieldAddr 24 v1 0) w fun v15 w =>
NX P (oLoad 22 v15) w fun v16 w =>
NX P (oBuiltin .len #[22] 3 [false] [v16]) w fun v17 w =>
NX P (oBin .lss 3 false true v17 (.int .i64 2)) w fun v18 w =>
IFB v18 (
R (.bool false) w) (
NX P (oFieldAddr 24 v1 0) w fun v20 w =>
NX P (oLoad 22 v20) w fun v21 w =>
NX P (oBuiltin .len #[22] 3 [false] [v21]) w fun v22 w =>
NX P (oBin .gtr 3 false true v22 (.int .i64 513)) w fun v23 w =>
IFB v23 (
R (.bool false) w) (
NX P (oFieldAddr 24 v1 0) w fun v26 w =>
NX P (oLoad 22 v26) w fun v27 w =>
NX P (oIndexAddr 22 v27 (.int .i64 0)) w fun v28 w =>
NX P (oFieldAddr 44 v28 0) w fun v29 w =>
NX P (oLoad 41 v29) w fun v30 w =>
NX P (oBin .neq 41 false true v30 (.int .u8 0)) w fun v31 w =>
IFB v31 (
R (.bool false) w) (
NX P (oFieldAddr 24 v1 0) w fun v34 w =>
NX P (oLoad 22 v34) w fun v35 w =>
NX P (oIndexAddr 22 v35 (.int .i64 1)) w fun v36 w =>
NX P (oFieldAddr 44 v36 0) w fun v37 w =>
NX P (oLoad 41 v37) w fun v38 w =>
NX P (oBin .neq 41 false true v38 (.int .u8 2)) w fun v39 w =>
IFB v39 (
R (.bool false) w) (
NX P (oFieldAddr 24 v1 0) w fun v42 w =>
NX P (oLoad 22 v42) w fun v43 w =>
NX P (oIndexAddr 22 v43 (.int .i64 1)) w fun v44 w =>
NX P (oFieldAddr 44 v44 9) w fun v45 w =>
NX P (oLoad 3 v45) w fun v46 w =>
NX P (oBin .neq 3 false true v46 (.int .i64 1)) w fun v47 w =>
IFB v47 (
R (.bool false) w) (
NX P (oFieldAddr 24 v1 0) w fun v50 w =>
NX P (oLoad 22 v50) w fun v51 w =>
NX P (oFieldAddr 24 v1 0) w fun v52 w =>
NX P (oLoad 22 v52) w fun v53 w =>
NX P (oBuiltin .len #[22] 3 [false] [v53]) w fun v54 w =>
NX P (oBin .sub 3 false true v54 (.int .i64 1)) w fun v55 w =>
NX P (oIndexAddr 22 v51 v55) w fun v56 w =>
NX P (oFieldAddr 44 v56 0) w fun v57 w =>
NX P (oLoad 41 v57) w fun v58 w =>
NX P (oBin .eql 41 false true v58 (.int .u8 0)) w fun v59 w =>
IFB v59 (
R (.bool false) w) (
NX P (oFieldAddr 24 v1 1) w fun v62 w =>
NX P (oLoad 3 v62) w fun v63 w =>
NX P (oBin .lss 3 false true v63 (.int .i64 0)) w fun v64 w =>
IFB v64 (
R (.bool false) w) (
NX P (oFieldAddr 24 v1 1) w fun v67 w =>
NX P (oLoad 3 v67) w fun v68 w =>
NX P (oBin .gtr 3 false true v68 (.int .i64 1099511627775)) w fun v69 w =>
IFB v69 (
R (.bool false) w) (
NX P (oCall (fnV 24) []) w fun v71 w =>
NX P (oAlloc 66) w fun v5 w =>
NX P (oStore 66 v5 v71) w fun _ w =>
NX P (oFieldAddr 24 v1 0) w fun v72 w =>
NX P (oLoad 22 v72) w fun v73 w =>
NX P (oBuiltin .len #[22] 3 [false] [v73]) w fun v74 w =>
∃ (I1 : List Value → World → Prop) (m1 : List Value → World → Nat), I1 [(.int .i64 0), (.int .i64 0), (.int .i64 0)] w ∧ ∀ (f1 : Env) (wh1 : World), I1 [f1 3, f1 4, f1 75] wh1 →
NX P (oBin .lss 3 false false (f1 75) v74) wh1 fun v76 w =>
IFB v76 (
NX P (oIndexAddr 22 v73 (f1 75)) w fun v77 w =>
NX P (oLoad 44 v77) w fun v78 w =>
NX P (oAlloc 44) w fun v7 w =>
NX P (oStore 44 v7 v78) w fun _ w =>
NX P (oLoad 44 v7) w fun v79 w =>
NX P (oLoad 66 v5) w fun v80 w =>
NX P (oCall (fnV 25) [v79, v80]) w fun v81 w =>
NX P (oUn .not v81) w fun v82 w =>
IFB v82 (
R (.bool false) w) (
FX P (oFieldAddr 44 v7 6) fun v84 =>
LX P 30 v84 w.drew fun v85 =>
FX P (oBuiltin .len #[30] 3 [false] [v85]) fun v86 =>
FX P (oBin .add 3 false false (f1 3) v86) fun v87 =>
FX P (oFieldAddr 44 v7 8) fun v89 =>
LX P 42 v89 w.drew fun v90 =>
FX P (oBuiltin .len #[42] 3 [false] [v90]) fun v91 =>
FX P (oBin .add 3 false false (f1 4) v91) fun v92 =>
NX P (oBin .add 3 false true (f1 75) (.int .i64 1)) w.drew fun v93 w =>
I1 [v87, v92, v93] w ∧ m1 [v87, v92, v93] w < m1 [f1 3, f1 4, f1 75] wh1)) (
NX P (oLoad 24 v1) w fun v95 w =>
NX P (oCall (fnV 26) [v95]) w fun v96 w =>
NX P (oExtract v96 0) w fun v97 w =>
NX P (oExtract v96 1) w fun v98 w =>
NX P (oExtract v96 2) w fun v99 w =>
NX P (oUn .not v99) w fun v101 w =>
IFB v101 (
R (.bool false) w) (
NX P (oBin .gtr 3 false true (f1 3) (.int .i64 1048576)) w fun v104 w =>
IFB v104 (
R (.bool false) w) (
NX P (oBin .gtr 3 false true (f1 4) (.int .i64 2048)) w fun v108 w =>
IFB v108 (
R (.bool false) w) (
NX P (oAlloc 72) w fun v11 w =>
NX P (oFunc (.func 27) [] [v1, v11]) w fun v110 w =>
NX P (oStore 72 v11 v110) w fun _ w =>
NX P (oFieldAddr 24 v1 0) w fun v111 w =>
NX P (oLoad 22 v111) w fun v112 w =>
NX P (oBuiltin .len #[22] 3 [false] [v112]) w fun v113 w =>
∃ (I2 : List Value → World → Prop) (m2 : List Value → World → Nat), I2 [(.int .i64 0)] w ∧ ∀ (f2 : Env) (wh2 : World), I2 [f2 114] wh2 →
NX P (oBin .lss 3 false false (f2 114) v113) wh2 fun v115 w =>
IFB v115 (
NX P (oIndexAddr 22 v112 (f2 114)) w fun v117 w =>
NX P (oLoad 44 v117) w fun v118 w =>
NX P (oAlloc 44) w fun v13 w =>
NX P (oStore 44 v13 v118) w fun _ w =>
NX P (oFieldAddr 44 v13 0) w fun v119 w =>
NX P (oLoad 41 v119) w fun v120 w =>
NX P (oBin .eql 41 false true v120 (.int .u8 2)) w fun v122 w =>
IFB v122 (
FX P (oFieldAddr 44 v13 4) fun v123 =>
LX P 3 v123 w.drew fun v124 =>
FX P (oIndexAddr 69 v98 (f2 114)) fun v127 =>
LX P 3 v127 w.drew fun v128 =>
FX P (oBin .add 3 true false (.int .i64 2) v128) fun v129 =>
FX P (oBin .neq 3 false false v124 v129) fun v130 =>
IFB v130 (
RD P w.drew 3 v127 v128 ∧ (RD P w.drew 3 v123 v124 ∧ (R (.bool false) w.drew))) (
FX P (oBin .gtr 3 false true (f2 114) (.int .i64 1)) fun v133 =>
IFB v133 (
FX P (oIndexAddr 69 v97 (f2 114)) fun v137 =>
LX P 3 v137 w.drew fun v138 =>
FX P (oBin .neq 3 false true v138 (.int .i64 1)) fun v139 =>
IFB v139 (
RD P w.drew 3 v137 v138 ∧ (RD P w.drew 3 v127 v128 ∧ (RD P w.drew 3 v123 v124 ∧ (R (.bool false) w.drew)))) (
LX P 72 v11 w.drew fun v143 =>
NX P (oCall v143 [(f2 114), (.int .i64 32)]) w.drew fun v145 w =>
RD P w 3 v137 v138 ∧ (RD P w 3 v127 v128 ∧ (RD P w 3 v123 v124 ∧ (FX P (oUn .not v145) fun v146 =>
IFB v146 (
R (.bool false) w) (
NX P (oBin .add 3 false true (f2 114) (.int .i64 1)) w fun v166 w =>
I2 [v166] w ∧ m2 [v166] w < m2 [f2 114] wh2)))))) (
LX P 72 v11 w.drew fun v143 =>
NX P (oCall v143 [(f2 114), (.int .i64 32)]) w.drew fun v145 w =>
RD P w 3 v127 v128 ∧ (RD P w 3 v123 v124 ∧ (FX P (oUn .not v145) fun v146 =>
IFB v146 (
R (.bool false) w) (
NX P (oBin .add 3 false true (f2 114) (.int .i64 1)) w fun v166 w =>
I2 [v166] w ∧ m2 [v166] w < m2 [f2 114] wh2)))))) (
∃ J3 : List Value → World → Prop, (
NX P (oBin .eql 41 false true v120 (.int .u8 1)) w fun v149 w =>
IFB v149 (
J3 [(.bool true)] w) (
NX P (oBin .eql 41 false true v120 (.int .u8 3)) w fun v150 w =>
J3 [v150] w)) ∧ ∀ (f3 : Env) (w : World), J3 [f3 148] w →
IFB (f3 148) (
FX P (oIndexAddr 69 v97 (f2 114)) fun v153 =>
LX P 3 v153 w.drew fun v154 =>
FX P (oBin .lss 3 false true v154 (.int .i64 1)) fun v155 =>
IFB v155 (
R (.bool false) w.drew) (
FX P (oFieldAddr 44 v13 4) fun v157 =>
LX P 3 v157 w.drew fun v158 =>
FX P (oIndexAddr 69 v97 (f2 114)) fun v161 =>
LX P 3 v161 w.drew fun v162 =>
FX P (oBin .neq 3 false false v158 v162) fun v163 =>
IFB v163 (
R (.bool false) w.drew) (
NX P (oBin .add 3 false true (f2 114) (.int .i64 1)) w.drew fun v166 w =>
I2 [v166] w ∧ m2 [v166] w < m2 [f2 114] wh2))) (
NX P (oBin .add 3 false true (f2 114) (.int .i64 1)) w fun v166 w =>
I2 [v166] w ∧ m2 [v166] w < m2 [f2 114] wh2))) (
R (.bool true) w)))))))))))))
def pl9 : Pl := (.seq .leaf (.seq (.seq .leaf (.cond (.seq .leaf .leaf) .leaf)) (.seq .leaf (.seq (.seq .leaf (.block (.loop [3, 4, 75] [76, 77, 78, 7, 79, 80, 81, 82, 2, 83, 84, 85, 86, 87, 88, 89, 90, 91, 92, 3, 4, 93, 75] (.seq .leaf (.seq (.cond .leaf .leaf) (.seq (.block (.seq .leaf (.seq (.seq .leaf (.cond (.seq .leaf .leaf) .leaf)) (.draw (.take 0 (.take 1 (.take 2 (.take 3 (.take 4 (.take 5 (.take 6 (.take 7 (.take 8 (.take 9 (.take 10 (.take 11 .fin)))))))))))))))) .leaf)))))) (.seq .leaf (.seq (.seq .leaf (.cond (.seq .leaf .leaf) .leaf)) (.seq .leaf (.seq .leaf (.seq (.seq .leaf (.block (.loop [114] [115, 116, 117, 118, 13, 12, 14, 119, 120, 122, 121, 123, 124, 125, 126, 127, 128, 129, 130, 131, 132, 133, 134, 135, 136, 137, 138, 139, 140, 141, 142, 143, 144, 145, 146, 147, 149, 148, 150, 151, 152, 153, 154, 155, 156, 157, 158, 159, 160, 161, 162, 163, 164, 165, 2, 166, 114] (.seq .leaf (.seq (.cond .leaf .leaf) (.seq (.block (.seq .leaf (.seq .leaf (.seq (.seq .leaf (.block (.seq .leaf (.cond (.draw (.take 0 (.take 1 (.take 2 (.take 3 (.take 4 (.take 5 (.take 6 (.take 7 (.take 8 (.take 9 (.take 10 (.take 11 (.take 12 (.take 13 (.take 14 (.take 15 (.take 16 (.take 17 (.take 18 (.take 19 (.take 20 (.take 21 (.one 22 (.take 23 (.take 24 (.take 25 .fin))))))))))))))))))))))))))) (.join [148] [149, 148, 150] (.seq .leaf (.cond .leaf .leaf)) (.cond (.draw (.take 0 (.take 1 (.take 2 (.take 3 (.take 4 (.take 5 (.take 6 (.take 7 (.take 8 (.take 9 (.take 10 (.take 11 (.take 12 (.take 13 (.take 14 .fin)))))))))))))))) .leaf)))))) (.seq .leaf (.cond (.seq .leaf .leaf) .leaf)))))) .leaf)))))) (.seq .leaf .leaf))))))))))
theorem G9_ok {a0 : Value} {w : World} {R : Value → World → Prop} (h : G9 Tryz.prog a0 w R) : Calls Tryz.prog 9 #[a0] w fun e w' => ∃ v, e = .returned v ∧ R v w' :=
  sh_calls Tryz.mixed Tryz.func9 rfl pl9 (by kernel_rfl) (cast (by kernel_rfl) h)

/-- toolchest/perms.May -/
def G14 (P : Program) (a0 a1 a2 : Value) (w : World) (R : Value → World → Prop) : Prop :=
NX P (oBox 44 a0) w fun v3 w =>
NX P (oBox 32 a1) w fun v4 w =>
NX P (oBin .lss 3 false true a2 (.int .i64 1)) w fun v9 w =>
IFB v9 (
R (.bool false) w) (
NX P (oBin .gtr 3 false true a2 (.int .i64 7)) w fun v12 w =>
IFB v12 (
R (.bool false) w) (
NX P (oFieldAddr 44 v3 0) w fun v15 w =>
NX P (oLoad 41 v15) w fun v16 w =>
NX P (oBin .eql 41 false true v16 (.int .u8 0)) w fun v17 w =>
IFB v17 (
R (.bool false) w) (
NX P (oFieldAddr 32 v4 0) w fun v19 w =>
NX P (oLoad 3 v19) w fun v20 w =>
NX P (oBin .eql 3 false true v20 (.int .i64 0)) w fun v21 w =>
IFB v21 (
NX P (oBin .and 3 false true a2 (.int .i64 1)) w fun v23 w =>
NX P (oBin .eql 3 false true v23 (.int .i64 0)) w fun v24 w =>
IFB v24 (
R (.bool true) w) (
NX P (oFieldAddr 44 v3 0) w fun v26 w =>
NX P (oLoad 41 v26) w fun v27 w =>
NX P (oBin .neq 41 false true v27 (.int .u8 1)) w fun v28 w =>
IFB v28 (
R (.bool true) w) (
NX P (oFieldAddr 44 v3 1) w fun v31 w =>
NX P (oLoad 3 v31) w fun v32 w =>
NX P (oBin .and 3 false true v32 (.int .i64 73)) w fun v33 w =>
NX P (oBin .neq 3 false true v33 (.int .i64 0)) w fun v34 w =>
R v34 w))) (
∃ J1 : List Value → World → Prop, (
NX P (oFieldAddr 32 v4 0) w fun v37 w =>
NX P (oLoad 3 v37) w fun v38 w =>
NX P (oFieldAddr 44 v3 2) w fun v39 w =>
NX P (oLoad 3 v39) w fun v40 w =>
NX P (oBin .eql 3 false false v38 v40) w fun v41 w =>
IFB v41 (
NX P (oBin .add 3 false true (.int .i64 0) (.int .i64 3)) w fun v56 w =>
NX P (oBin .add 3 false true v56 (.int .i64 3)) w fun v58 w =>
J1 [v58] w) (
NX P (oFieldAddr 32 v4 0) w fun v43 w =>
NX P (oLoad 3 v43) w fun v44 w =>
NX P (oFieldAddr 44 v3 2) w fun v45 w =>
NX P (oLoad 3 v45) w fun v46 w =>
NX P (oBin .neq 3 false false v44 v46) w fun v47 w =>
IFB v47 (
NX P (oFieldAddr 32 v4 1) w fun v49 w =>
NX P (oLoad 3 v49) w fun v50 w =>
NX P (oFieldAddr 44 v3 3) w fun v51 w =>
NX P (oLoad 3 v51) w fun v52 w =>
NX P (oBin .eql 3 false false v50 v52) w fun v53 w =>
IFB v53 (
NX P (oBin .add 3 false true (.int .i64 0) (.int .i64 3)) w fun v58 w =>
J1 [v58] w) (
J1 [(.int .i64 0)] w)) (
J1 [(.int .i64 0)] w))) ∧ ∀ (f1 : Env) (w : World), J1 [f1 7] w →
NX P (oFieldAddr 44 v3 1) w fun v59 w =>
NX P (oLoad 3 v59) w fun v60 w =>
NX P (oBin .shr 3 false false v60 (f1 7)) w fun v62 w =>
NX P (oBin .and 3 false false v62 a2) w fun v64 w =>
NX P (oBin .eql 3 false false v64 a2) w fun v66 w =>
R v66 w))))
def pl14 : Pl := (.seq .leaf (.seq (.seq .leaf (.cond (.seq .leaf .leaf) .leaf)) (.seq (.seq .leaf (.cond (.seq .leaf .leaf) .leaf)) (.seq .leaf (.join [7] [37, 38, 39, 40, 41, 36, 43, 44, 45, 46, 47, 48, 49, 50, 51, 52, 53, 54, 42, 55, 56, 7, 57, 58] (.block (.seq (.block (.seq (.block (.seq (.seq (.seq .leaf (.cond .leaf .leaf)) (.seq .leaf (.cond .leaf .leaf))) .leaf)) .leaf)) (.seq .leaf .leaf))) (.seq .leaf .leaf))))))
theorem G14_ok {a0 a1 a2 : Value} {w : World} {R : Value → World → Prop} (h : G14 Tryz.prog a0 a1 a2 w R) : Calls Tryz.prog 14 #[a0, a1, a2] w fun e w' => ∃ v, e = .returned v ∧ R v w' :=
  sh_calls Tryz.mixed Tryz.func14 rfl pl14 (by kernel_rfl) (cast (by kernel_rfl) h)

/-- toolchest/perms.Owns -/
def G16 (P : Program) (a0 a1 : Value) (w : World) (R : Value → World → Prop) : Prop :=
NX P (oBox 44 a0) w fun v2 w =>
NX P (oBox 32 a1) w fun v3 w =>
NX P (oFieldAddr 32 v3 0) w fun v5 w =>
NX P (oLoad 3 v5) w fun v6 w =>
NX P (oBin .eql 3 false true v6 (.int .i64 0)) w fun v7 w =>
IFB v7 (
R (.bool true) w) (
NX P (oFieldAddr 32 v3 0) w fun v9 w =>
NX P (oLoad 3 v9) w fun v10 w =>
NX P (oFieldAddr 44 v2 2) w fun v11 w =>
NX P (oLoad 3 v11) w fun v12 w =>
NX P (oBin .eql 3 false false v10 v12) w fun v13 w =>
R v13 w)
def pl16 : Pl := (.seq .leaf (.seq .leaf .leaf))
theorem G16_ok {a0 a1 : Value} {w : World} {R : Value → World → Prop} (h : G16 Tryz.prog a0 a1 w R) : Calls Tryz.prog 16 #[a0, a1] w fun e w' => ∃ v, e = .returned v ∧ R v w' :=
  sh_calls Tryz.mixed Tryz.func16 rfl pl16 (by kernel_rfl) (cast (by kernel_rfl) h)

/-- toolchest/tree.Sizes -/
def G21 (P : Program) (a0 : Value) (w : World) (R : Value → World → Prop) : Prop :=
NX P (oBox 24 a0) w fun v1 w =>
NX P (oLoad 24 v1) w fun v6 w =>
NX P (oCall (fnV 9) [v6]) w fun v7 w =>
NX P (oUn .not v7) w fun v8 w =>
IFB v8 (
R (.tuple #[(.int .i64 0), (.int .i64 0)]) w) (
NX P (oFieldAddr 24 v1 0) w fun v9 w =>
NX P (oLoad 22 v9) w fun v10 w =>
NX P (oBuiltin .len #[22] 3 [false] [v10]) w fun v11 w =>
∃ (I1 : List Value → World → Prop) (m1 : List Value → World → Nat), I1 [(.int .i64 0), (.int .i64 0), (.int .i64 0)] w ∧ ∀ (f1 : Env) (wh1 : World), I1 [f1 2, f1 3, f1 12] wh1 →
NX P (oBin .lss 3 false false (f1 12) v11) wh1 fun v13 w =>
IFB v13 (
NX P (oIndexAddr 22 v10 (f1 12)) w fun v14 w =>
NX P (oLoad 44 v14) w fun v15 w =>
NX P (oAlloc 44) w fun v5 w =>
NX P (oStore 44 v5 v15) w fun _ w =>
NX P (oFieldAddr 44 v5 0) w fun v16 w =>
NX P (oLoad 41 v16) w fun v17 w =>
NX P (oBin .neq 41 false true v17 (.int .u8 0)) w fun v18 w =>
IFB v18 (
NX P (oBin .add 3 false true (f1 2) (.int .i64 1)) w fun v20 w =>
NX P (oFieldAddr 44 v5 6) w fun v22 w =>
NX P (oLoad 30 v22) w fun v23 w =>
NX P (oBuiltin .len #[30] 3 [false] [v23]) w fun v24 w =>
NX P (oBin .add 3 false false (f1 3) v24) w fun v25 w =>
NX P (oBin .add 3 false true (f1 12) (.int .i64 1)) w fun v26 w =>
I1 [v20, v25, v26] w ∧ m1 [v20, v25, v26] w < m1 [f1 2, f1 3, f1 12] wh1) (
NX P (oFieldAddr 44 v5 6) w fun v22 w =>
NX P (oLoad 30 v22) w fun v23 w =>
NX P (oBuiltin .len #[30] 3 [false] [v23]) w fun v24 w =>
NX P (oBin .add 3 false false (f1 3) v24) w fun v25 w =>
NX P (oBin .add 3 false true (f1 12) (.int .i64 1)) w fun v26 w =>
I1 [(f1 2), v25, v26] w ∧ m1 [(f1 2), v25, v26] w < m1 [f1 2, f1 3, f1 12] wh1)) (
R (.tuple #[(f1 2), (f1 3)]) w))
def pl21 : Pl := (.seq .leaf (.seq (.seq .leaf (.cond (.seq .leaf .leaf) .leaf)) (.seq (.seq .leaf (.block (.loop [2, 3, 12] [13, 14, 15, 5, 16, 17, 18, 19, 20, 2, 21, 22, 23, 24, 25, 3, 26, 12] (.seq .leaf (.seq (.cond .leaf .leaf) (.seq (.block (.seq .leaf (.seq (.seq .leaf (.cond .leaf .leaf)) .leaf))) .leaf)))))) (.seq .leaf .leaf))))
theorem G21_ok {a0 : Value} {w : World} {R : Value → World → Prop} (h : G21 Tryz.prog a0 w R) : Calls Tryz.prog 21 #[a0] w fun e w' => ∃ v, e = .returned v ∧ R v w' :=
  sh_calls Tryz.mixed Tryz.func21 rfl pl21 (by kernel_rfl) (cast (by kernel_rfl) h)

/-- toolchest/tree.kinds -/
def G24 (P : Program) (w : World) (R : Value → World → Prop) : Prop :=
NX P (oAlloc 66) w fun v0 w =>
NX P (oBuild 66 [(0, (fnV 45)), (1, (fnV 46)), (2, (fnV 47)), (3, (fnV 48))]) w fun v1 w =>
NX P (oStore 66 v0 v1) w fun _ w =>
LX P 66 v0 w fun r0 =>
R r0 w
def pl24 : Pl := (.seq .leaf (.seq .leaf .leaf))
theorem G24_ok {w : World} {R : Value → World → Prop} (h : G24 Tryz.prog  w R) : Calls Tryz.prog 24 #[] w fun e w' => ∃ v, e = .returned v ∧ R v w' :=
  sh_calls Tryz.mixed Tryz.func24 rfl pl24 (by kernel_rfl) (cast (by kernel_rfl) h)

/-- toolchest/tree.node -/
def G25 (P : Program) (a0 a1 : Value) (w : World) (R : Value → World → Prop) : Prop :=
NX P (oBox 44 a0) w fun v2 w =>
NX P (oBox 66 a1) w fun v3 w =>
NX P (oFieldAddr 44 v2 0) w fun v5 w =>
NX P (oLoad 41 v5) w fun v6 w =>
NX P (oBin .gtr 41 false true v6 (.int .u8 3)) w fun v7 w =>
IFB v7 (
R (.bool false) w) (
NX P (oFieldAddr 44 v2 1) w fun v9 w =>
NX P (oLoad 3 v9) w fun v10 w =>
NX P (oBin .lss 3 false true v10 (.int .i64 0)) w fun v11 w =>
IFB v11 (
R (.bool false) w) (
NX P (oFieldAddr 44 v2 1) w fun v14 w =>
NX P (oLoad 3 v14) w fun v15 w =>
NX P (oBin .gtr 3 false true v15 (.int .i64 511)) w fun v16 w =>
IFB v16 (
R (.bool false) w) (
NX P (oFieldAddr 44 v2 2) w fun v19 w =>
NX P (oLoad 3 v19) w fun v20 w =>
NX P (oFieldAddr 44 v2 3) w fun v21 w =>
NX P (oLoad 3 v21) w fun v22 w =>
NX P (oFieldAddr 44 v2 5) w fun v23 w =>
NX P (oLoad 3 v23) w fun v24 w =>
NX P (oBuiltin .min #[3, 3, 3] 3 [false, false, false] [v20, v22, v24]) w fun v25 w =>
NX P (oBin .lss 3 false true v25 (.int .i64 0)) w fun v26 w =>
IFB v26 (
R (.bool false) w) (
NX P (oFieldAddr 44 v2 2) w fun v29 w =>
NX P (oLoad 3 v29) w fun v30 w =>
NX P (oFieldAddr 44 v2 3) w fun v31 w =>
NX P (oLoad 3 v31) w fun v32 w =>
NX P (oBuiltin .max #[3, 3] 3 [false, false] [v30, v32]) w fun v33 w =>
NX P (oBin .gtr 3 false true v33 (.int .i64 65535)) w fun v34 w =>
IFB v34 (
R (.bool false) w) (
NX P (oFieldAddr 44 v2 5) w fun v37 w =>
NX P (oLoad 3 v37) w fun v38 w =>
NX P (oBin .gtr 3 false true v38 (.int .i64 1099511627775)) w fun v39 w =>
IFB v39 (
R (.bool false) w) (
FX P (oFieldAddr 44 v2 0) fun v41 =>
LX P 41 v41 w.drew fun v42 =>
FX P (oIndexAddr 66 v3 v42) fun v43 =>
LX P 65 v43 w.drew fun v44 =>
LX P 44 v2 w.drew fun v45 =>
NX P (oCall v44 [v45]) w.drew fun v46 w =>
RD P w 41 v41 v42 ∧ (R v46 w)))))))
def pl25 : Pl := (.seq .leaf (.seq (.seq .leaf (.cond (.seq .leaf .leaf) .leaf)) (.seq (.draw (.take 0 (.take 1 (.take 2 (.take 3 (.take 4 (.one 5 (.take 6 .fin)))))))) .leaf)))
theorem G25_ok {a0 a1 : Value} {w : World} {R : Value → World → Prop} (h : G25 Tryz.prog a0 a1 w R) : Calls Tryz.prog 25 #[a0, a1] w fun e w' => ∃ v, e = .returned v ∧ R v w' :=
  sh_calls Tryz.mixed Tryz.func25 rfl pl25 (by kernel_rfl) (cast (by kernel_rfl) h)

/-- toolchest/tree.listed -/
def G26 (P : Program) (a0 : Value) (w : World) (R : Value → World → Prop) : Prop :=
NX P (oBox 24 a0) w fun v1 w =>
∃ J1 : List Value → World → Prop, (
FX P (oFieldAddr 24 v1 0) fun v10 =>
LX P 22 v10 w.drew fun v11 =>
FX P (oBuiltin .len #[22] 3 [false] [v11]) fun v12 =>
FX P (oFieldAddr 24 v1 0) fun v14 =>
LX P 22 v14 w.drew fun v15 =>
FX P (oBuiltin .len #[22] 3 [false] [v15]) fun v16 =>
(NX P (oMakeSlice 69 v12 v12) w.drew fun v13 w =>
RD P w 22 v14 v15 ∧ (RD P w 22 v10 v11 ∧ (NX P (oMakeSlice 69 v16 v16) w fun v17 w =>
RD P w 22 v14 v15 ∧ (RD P w 22 v10 v11 ∧ (J1 [v13, v17] w))))) ∧ (NX P (oMakeSlice 69 v16 v16) w.drew fun v17 w =>
RD P w 22 v14 v15 ∧ (RD P w 22 v10 v11 ∧ (NX P (oMakeSlice 69 v12 v12) w fun v13 w =>
RD P w 22 v14 v15 ∧ (RD P w 22 v10 v11 ∧ (J1 [v13, v17] w)))))) ∧ ∀ (f1 : Env) (w : World), J1 [f1 2, f1 3] w →
NX P (oFieldAddr 24 v1 0) w fun v18 w =>
NX P (oLoad 22 v18) w fun v19 w =>
NX P (oBuiltin .len #[22] 3 [false] [v19]) w fun v20 w =>
∃ (I2 : List Value → World → Prop) (m2 : List Value → World → Nat), I2 [(f1 2), (f1 3), (.int .i64 0)] w ∧ ∀ (f2 : Env) (wh2 : World), I2 [f2 2, f2 3, f2 21] wh2 →
NX P (oBin .lss 3 false false (f2 21) v20) wh2 fun v22 w =>
IFB v22 (
NX P (oIndexAddr 22 v19 (f2 21)) w fun v24 w =>
NX P (oLoad 44 v24) w fun v25 w =>
NX P (oAlloc 44) w fun v6 w =>
NX P (oStore 44 v6 v25) w fun _ w =>
NX P (oFieldAddr 44 v6 8) w fun v26 w =>
NX P (oLoad 42 v26) w fun v27 w =>
NX P (oBuiltin .len #[42] 3 [false] [v27]) w fun v28 w =>
∃ (I3 : List Value → World → Prop) (m3 : List Value → World → Nat), I3 [(f2 2), (f2 3), (.int .i64 0)] w ∧ ∀ (f3 : Env) (wh3 : World), I3 [f3 2, f3 3, f3 29] wh3 →
NX P (oBin .lss 3 false false (f3 29) v28) wh3 fun v30 w =>
IFB v30 (
NX P (oIndexAddr 42 v27 (f3 29)) w fun v32 w =>
NX P (oLoad 93 v32) w fun v33 w =>
NX P (oAlloc 93) w fun v8 w =>
NX P (oStore 93 v8 v33) w fun _ w =>
∃ J4 : List Value → World → Prop, (
FX P (oFieldAddr 93 v8 0) fun v34 =>
LX P 9 v34 w.drew fun v35 =>
NX P (oCall (fnV 49) [v35]) w.drew fun v36 w =>
FX P (oUn .not v36) fun v37 =>
IFB v37 (
R (.tuple #[(.slice none 0 0), (.slice none 0 0), (.bool false)]) w) (
FX P (oBin .gtr 3 false true (f3 29) (.int .i64 0)) fun v40 =>
IFB v40 (
FX P (oFieldAddr 44 v6 8) fun v42 =>
LX P 42 v42 w fun v43 =>
FX P (oBin .sub 3 false true (f3 29) (.int .i64 1)) fun v45 =>
FX P (oIndexAddr 42 v43 v45) fun v46 =>
FX P (oFieldAddr 93 v46 0) fun v47 =>
LX P 9 v47 w fun v48 =>
FX P (oFieldAddr 93 v8 0) fun v49 =>
LX P 9 v49 w fun v50 =>
FX P (oBin .geq 9 false false v48 v50) fun v51 =>
IFB v51 (
R (.tuple #[(.slice none 0 0), (.slice none 0 0), (.bool false)]) w) (
FX P (oFieldAddr 93 v8 1) fun v55 =>
LX P 3 v55 w fun v56 =>
FX P (oBin .lss 3 false true v56 (.int .i64 2)) fun v57 =>
IFB v57 (
R (.tuple #[(.slice none 0 0), (.slice none 0 0), (.bool false)]) w) (
FX P (oFieldAddr 93 v8 1) fun v60 =>
LX P 3 v60 w fun v61 =>
FX P (oFieldAddr 24 v1 0) fun v62 =>
LX P 22 v62 w fun v63 =>
FX P (oBuiltin .len #[22] 3 [false] [v63]) fun v64 =>
FX P (oBin .geq 3 false false v61 v64) fun v65 =>
IFB v65 (
R (.tuple #[(.slice none 0 0), (.slice none 0 0), (.bool false)]) w) (
J4 [(f3 2), (f3 3)] w)))) (
FX P (oFieldAddr 93 v8 1) fun v55 =>
LX P 3 v55 w fun v56 =>
FX P (oBin .lss 3 false true v56 (.int .i64 2)) fun v57 =>
IFB v57 (
R (.tuple #[(.slice none 0 0), (.slice none 0 0), (.bool false)]) w) (
FX P (oFieldAddr 93 v8 1) fun v60 =>
LX P 3 v60 w fun v61 =>
FX P (oFieldAddr 24 v1 0) fun v62 =>
LX P 22 v62 w fun v63 =>
FX P (oBuiltin .len #[22] 3 [false] [v63]) fun v64 =>
FX P (oBin .geq 3 false false v61 v64) fun v65 =>
IFB v65 (
R (.tuple #[(.slice none 0 0), (.slice none 0 0), (.bool false)]) w) (
J4 [(f3 2), (f3 3)] w))))) ∧ ∀ (f4 : Env) (w : World), J4 [f4 2, f4 3] w →
NX P (oFieldAddr 24 v1 0) w fun v67 w =>
NX P (oLoad 22 v67) w fun v68 w =>
NX P (oFieldAddr 93 v8 1) w fun v69 w =>
NX P (oLoad 3 v69) w fun v70 w =>
NX P (oIndexAddr 22 v68 v70) w fun v71 w =>
NX P (oLoad 44 v71) w fun v72 w =>
NX P (oAlloc 44) w fun v9 w =>
NX P (oStore 44 v9 v72) w fun _ w =>
NX P (oFieldAddr 93 v8 1) w fun v74 w =>
NX P (oLoad 3 v74) w fun v75 w =>
NX P (oIndexAddr 69 (f4 2) v75) w fun v76 w =>
NX P (oLoad 3 v76) w fun v77 w =>
NX P (oBin .add 3 false true v77 (.int .i64 1)) w fun v78 w =>
NX P (oIndexAddr 69 (f4 2) v75) w fun v79 w =>
NX P (oStore 3 v79 v78) w fun _ w =>
∃ J5 : List Value → World → Prop, (
NX P (oFieldAddr 44 v9 0) w fun v80 w =>
NX P (oLoad 41 v80) w fun v81 w =>
NX P (oBin .eql 41 false true v81 (.int .u8 2)) w fun v82 w =>
IFB v82 (
NX P (oIndexAddr 69 (f4 3) (f2 21)) w fun v85 w =>
NX P (oLoad 3 v85) w fun v86 w =>
NX P (oBin .add 3 false true v86 (.int .i64 1)) w fun v87 w =>
NX P (oIndexAddr 69 (f4 3) (f2 21)) w fun v88 w =>
NX P (oStore 3 v88 v87) w fun _ w =>
J5 [] w) (
J5 [] w)) ∧ ∀ (f5 : Env) (w : World), J5 [] w →
NX P (oFieldAddr 44 v9 0) w fun v89 w =>
NX P (oLoad 41 v89) w fun v90 w =>
NX P (oBin .eql 41 false true v90 (.int .u8 0)) w fun v91 w =>
IFB v91 (
R (.tuple #[(.slice none 0 0), (.slice none 0 0), (.bool false)]) w) (
NX P (oFieldAddr 44 v9 0) w fun v93 w =>
NX P (oLoad 41 v93) w fun v94 w =>
NX P (oBin .eql 41 false true v94 (.int .u8 2)) w fun v95 w =>
IFB v95 (
NX P (oFieldAddr 44 v9 9) w fun v97 w =>
NX P (oLoad 3 v97) w fun v98 w =>
NX P (oBin .neq 3 false false v98 (f2 21)) w fun v100 w =>
IFB v100 (
R (.tuple #[(.slice none 0 0), (.slice none 0 0), (.bool false)]) w) (
NX P (oBin .add 3 false true (f3 29) (.int .i64 1)) w fun v103 w =>
I3 [(f4 2), (f4 3), v103] w ∧ m3 [(f4 2), (f4 3), v103] w < m3 [f3 2, f3 3, f3 29] wh3)) (
NX P (oBin .add 3 false true (f3 29) (.int .i64 1)) w fun v103 w =>
I3 [(f4 2), (f4 3), v103] w ∧ m3 [(f4 2), (f4 3), v103] w < m3 [f3 2, f3 3, f3 29] wh3))) (
NX P (oBin .add 3 false true (f2 21) (.int .i64 1)) w fun v104 w =>
I2 [(f3 2), (f3 3), v104] w ∧ m2 [(f3 2), (f3 3), v104] w < m2 [f2 2, f2 3, f2 21] wh2)) (
R (.tuple #[(f2 2), (f2 3), (.bool true)]) w)
def pl26 : Pl := (.seq .leaf (.join [2, 3] [10, 11, 12, 13, 14, 15, 16, 17, 2, 3] (.draw (.take 0 (.take 1 (.take 2 (.take 4 (.take 5 (.take 6 (.two 3 (.take 8 (.one 7 (.take 9 .fin))) 7 (.one 3 (.take 8 (.take 9 .fin))))))))))) (.seq (.seq .leaf (.block (.loop [2, 3, 21] [22, 23, 24, 25, 6, 5, 26, 27, 28, 29, 30, 31, 32, 33, 8, 7, 34, 35, 36, 37, 38, 39, 40, 41, 42, 43, 44, 45, 46, 47, 48, 49, 50, 51, 52, 53, 54, 55, 56, 57, 58, 59, 60, 61, 62, 63, 64, 65, 66, 2, 3, 4, 67, 68, 69, 70, 71, 72, 9, 73, 74, 75, 76, 77, 78, 79, 80, 81, 82, 83, 84, 85, 86, 87, 88, 89, 90, 91, 92, 93, 94, 95, 96, 97, 98, 99, 100, 101, 102, 103, 104, 21] (.seq .leaf (.seq (.cond .leaf .leaf) (.seq (.block (.seq .leaf (.seq .leaf (.block (.loop [2, 3, 29] [30, 31, 32, 33, 8, 7, 34, 35, 36, 37, 38, 39, 40, 41, 42, 43, 44, 45, 46, 47, 48, 49, 50, 51, 52, 53, 54, 55, 56, 57, 58, 59, 60, 61, 62, 63, 64, 65, 66, 2, 3, 4, 67, 68, 69, 70, 71, 72, 9, 73, 74, 75, 76, 77, 78, 79, 80, 81, 82, 83, 84, 85, 86, 87, 88, 89, 90, 91, 92, 93, 94, 95, 96, 97, 98, 99, 100, 101, 102, 103, 29] (.seq .leaf (.seq (.cond .leaf .leaf) (.seq (.block (.seq .leaf (.join [2, 3] [34, 35, 36, 37, 38, 39, 40, 41, 42, 43, 44, 45, 46, 47, 48, 49, 50, 51, 52, 53, 54, 55, 56, 57, 58, 59, 60, 61, 62, 63, 64, 65, 66, 2, 3, 4] (.seq (.draw (.take 0 (.take 1 (.one 2 (.take 3 (.take 4 (.take 5 (.take 6 (.take 7 (.take 8 (.take 9 (.take 10 (.take 11 (.take 12 (.take 13 (.take 14 (.take 15 (.take 16 (.take 17 (.take 18 (.take 19 (.take 20 (.take 21 (.take 22 (.take 23 (.take 24 (.take 25 (.take 26 (.take 27 (.take 28 (.take 29 (.take 30 (.take 31 (.take 32 .fin)))))))))))))))))))))))))))))))))) (.cond (.seq .leaf .leaf) .leaf)) (.seq .leaf (.seq .leaf (.join [] [80, 81, 82, 83, 84, 85, 86, 87, 88] (.seq .leaf (.cond .leaf .leaf)) (.seq .leaf (.cond (.seq .leaf .leaf) .leaf)))))))) .leaf)))))))) .leaf)))))) (.seq .leaf .leaf))))
theorem G26_ok {a0 : Value} {w : World} {R : Value → World → Prop} (h : G26 Tryz.prog a0 w R) : Calls Tryz.prog 26 #[a0] w fun e w' => ∃ v, e = .returned v ∧ R v w' :=
  sh_calls Tryz.mixed Tryz.func26 rfl pl26 (by kernel_rfl) (cast (by kernel_rfl) h)

/-- toolchest/tree.Check$1 -/
def G27 (P : Program) (a0 a1 a2 a3 : Value) (w : World) (R : Value → World → Prop) : Prop :=
FX P (oBin .eql 3 false true a0 (.int .i64 1)) fun v8 =>
IFB v8 (
R (.bool true) w.drew) (
FX P (oBin .gtr 3 false true a1 (.int .i64 0)) fun v11 =>
IFB v11 (
FX P (oBin .gtr 3 false true a0 (.int .i64 1)) fun v14 =>
IFB v14 (
FX P (oFieldAddr 24 a2 0) fun v18 =>
LX P 22 v18 w.drew fun v19 =>
FX P (oBuiltin .len #[22] 3 [false] [v19]) fun v20 =>
FX P (oBin .lss 3 false false a0 v20) fun v21 =>
IFB v21 (
FX P (oFieldAddr 24 a2 0) fun v24 =>
LX P 22 v24 w.drew fun v25 =>
FX P (oIndexAddr 22 v25 a0) fun v27 =>
FX P (oFieldAddr 44 v27 0) fun v28 =>
LX P 41 v28 w.drew fun v29 =>
FX P (oBin .eql 41 false true v29 (.int .u8 2)) fun v30 =>
IFB v30 (
LX P 72 a3 w.drew fun v33 =>
FX P (oFieldAddr 24 a2 0) fun v34 =>
LX P 22 v34 w.drew fun v35 =>
FX P (oIndexAddr 22 v35 a0) fun v37 =>
FX P (oFieldAddr 44 v37 9) fun v38 =>
LX P 3 v38 w.drew fun v39 =>
FX P (oBin .sub 3 false true a1 (.int .i64 1)) fun v41 =>
NX P (oCall v33 [v39, v41]) w.drew fun v42 w =>
RD P w 22 v34 v35 ∧ (RD P w 41 v28 v29 ∧ (RD P w 22 v24 v25 ∧ (RD P w 22 v18 v19 ∧ (R v42 w))))) (
RD P w.drew 41 v28 v29 ∧ (RD P w.drew 22 v24 v25 ∧ (RD P w.drew 22 v18 v19 ∧ (R (.bool false) w.drew))))) (
RD P w.drew 22 v18 v19 ∧ (R (.bool false) w.drew))) (
R (.bool false) w.drew)) (
R (.bool false) w.drew))
def pl27 : Pl := (.seq .leaf (.seq (.draw (.take 0 (.take 1 (.take 2 (.take 3 (.take 4 (.take 5 (.take 6 (.take 7 (.take 8 (.take 9 (.take 10 (.take 11 (.take 12 (.take 13 (.take 14 (.take 15 (.take 16 (.take 17 (.take 18 (.take 19 (.take 20 (.take 21 (.take 22 (.take 23 (.take 24 (.take 25 (.take 26 (.take 27 (.take 28 (.take 29 (.take 30 (.take 31 (.take 32 (.take 33 (.take 34 (.one 35 (.take 36 (.take 37 (.take 38 .fin)))))))))))))))))))))))))))))))))))))))) .leaf))
theorem G27_ok {a0 a1 a2 a3 : Value} {w : World} {R : Value → World → Prop} (h : G27 Tryz.prog a0 a1 a2 a3 w R) : Calls Tryz.prog 27 #[a0, a1, a2, a3] w fun e w' => ∃ v, e = .returned v ∧ R v w' :=
  sh_calls Tryz.mixed Tryz.func27 rfl pl27 (by kernel_rfl) (cast (by kernel_rfl) h)

/-- toolchest/tree.New -/
def G28 (P : Program) (w : World) (R : Value → World → Prop) : Prop :=
NX P (oAlloc 24) w fun v0 w =>
NX P (oBuild 44 []) w fun v1 w =>
NX P (oBuild 44 [(0, (.int .u8 2)), (1, (.int .i64 493)), (4, (.int .i64 2)), (9, (.int .i64 1))]) w fun v2 w =>
NX P (oBuildSlice 22 2 [(0, v1), (1, v2)]) w fun v3 w =>
NX P (oBuild 24 [(0, v3)]) w fun v4 w =>
NX P (oStore 24 v0 v4) w fun _ w =>
LX P 24 v0 w fun r0 =>
R r0 w
def pl28 : Pl := (.seq .leaf (.seq .leaf .leaf))
theorem G28_ok {w : World} {R : Value → World → Prop} (h : G28 Tryz.prog  w R) : Calls Tryz.prog 28 #[] w fun e w' => ∃ v, e = .returned v ∧ R v w' :=
  sh_calls Tryz.mixed Tryz.func28 rfl pl28 (by kernel_rfl) (cast (by kernel_rfl) h)

/-- toolchest/tree.Find -/
def G29 (P : Program) (a0 a1 a2 : Value) (w : World) (R : Value → World → Prop) : Prop :=
NX P (oBox 24 a0) w fun v3 w =>
NX P (oLoad 24 v3) w fun v7 w =>
NX P (oCall (fnV 9) [v7]) w fun v8 w =>
NX P (oUn .not v8) w fun v9 w =>
IFB v9 (
R (.int .i64 0) w) (
NX P (oLoad 24 v3) w fun v10 w =>
NX P (oCall (fnV 50) [v10, a1, a2]) w fun v13 w =>
R v13 w)
def pl29 : Pl := (.seq .leaf (.seq (.seq .leaf (.cond (.seq .leaf .leaf) .leaf)) (.seq .leaf .leaf)))
theorem G29_ok {a0 a1 a2 : Value} {w : World} {R : Value → World → Prop} (h : G29 Tryz.prog a0 a1 a2 w R) : Calls Tryz.prog 29 #[a0, a1, a2] w fun e w' => ∃ v, e = .returned v ∧ R v w' :=
  sh_calls Tryz.mixed Tryz.func29 rfl pl29 (by kernel_rfl) (cast (by kernel_rfl) h)

/-- toolchest/perms.Check -/
def G30 (P : Program) (a0 a1 : Value) (w : World) (R : Value → World → Prop) : Prop :=
NX P (oBox 24 a0) w fun v2 w =>
NX P (oBox 32 a1) w fun v3 w =>
NX P (oLoad 24 v2) w fun v5 w =>
NX P (oCall (fnV 9) [v5]) w fun v6 w =>
NX P (oUn .not v6) w fun v7 w =>
IFB v7 (
R (.bool false) w) (
NX P (oFieldAddr 32 v3 0) w fun v9 w =>
NX P (oLoad 3 v9) w fun v10 w =>
NX P (oFieldAddr 32 v3 1) w fun v11 w =>
NX P (oLoad 3 v11) w fun v12 w =>
NX P (oFieldAddr 32 v3 2) w fun v13 w =>
NX P (oLoad 3 v13) w fun v14 w =>
NX P (oBuiltin .min #[3, 3, 3] 3 [false, false, false] [v10, v12, v14]) w fun v15 w =>
NX P (oBin .lss 3 false true v15 (.int .i64 0)) w fun v16 w =>
IFB v16 (
R (.bool false) w) (
NX P (oFieldAddr 32 v3 0) w fun v19 w =>
NX P (oLoad 3 v19) w fun v20 w =>
NX P (oFieldAddr 32 v3 1) w fun v21 w =>
NX P (oLoad 3 v21) w fun v22 w =>
NX P (oBuiltin .max #[3, 3] 3 [false, false] [v20, v22]) w fun v23 w =>
NX P (oBin .gtr 3 false true v23 (.int .i64 65535)) w fun v24 w =>
IFB v24 (
R (.bool false) w) (
NX P (oFieldAddr 32 v3 2) w fun v27 w =>
NX P (oLoad 3 v27) w fun v28 w =>
NX P (oBin .gtr 3 false true v28 (.int .i64 511)) w fun v29 w =>
IFB v29 (
R (.bool false) w) (
NX P (oFieldAddr 32 v3 3) w fun v31 w =>
NX P (oLoad 3 v31) w fun v32 w =>
NX P (oBin .geq 3 false true v32 (.int .i64 1)) w fun v33 w =>
IFB v33 (
NX P (oFieldAddr 32 v3 3) w fun v35 w =>
NX P (oLoad 3 v35) w fun v36 w =>
NX P (oFieldAddr 24 v2 0) w fun v37 w =>
NX P (oLoad 22 v37) w fun v38 w =>
NX P (oBuiltin .len #[22] 3 [false] [v38]) w fun v39 w =>
NX P (oBin .lss 3 false false v36 v39) w fun v40 w =>
IFB v40 (
NX P (oFieldAddr 24 v2 0) w fun v43 w =>
NX P (oLoad 22 v43) w fun v44 w =>
NX P (oFieldAddr 32 v3 3) w fun v45 w =>
NX P (oLoad 3 v45) w fun v46 w =>
NX P (oIndexAddr 22 v44 v46) w fun v47 w =>
NX P (oFieldAddr 44 v47 0) w fun v48 w =>
NX P (oLoad 41 v48) w fun v49 w =>
NX P (oBin .eql 41 false true v49 (.int .u8 2)) w fun v50 w =>
R v50 w) (
R (.bool false) w)) (
R (.bool false) w)))))
def pl30 : Pl := (.seq .leaf (.seq (.seq .leaf (.cond (.seq .leaf .leaf) .leaf)) (.seq .leaf .leaf)))
theorem G30_ok {a0 a1 : Value} {w : World} {R : Value → World → Prop} (h : G30 Tryz.prog a0 a1 w R) : Calls Tryz.prog 30 #[a0, a1] w fun e w' => ∃ v, e = .returned v ∧ R v w' :=
  sh_calls Tryz.mixed Tryz.func30 rfl pl30 (by kernel_rfl) (cast (by kernel_rfl) h)

/-- toolchest/tree.Of -/
def G42 (P : Program) (a0 a1 : Value) (w : World) (R : Value → World → Prop) : Prop :=
NX P (oBox 24 a0) w fun v2 w =>
NX P (oAlloc 52) w fun v4 w =>
NX P (oFieldAddr 24 v2 0) w fun v6 w =>
NX P (oLoad 22 v6) w fun v7 w =>
NX P (oIndexAddr 22 v7 a1) w fun v9 w =>
NX P (oLoad 44 v9) w fun v10 w =>
NX P (oAlloc 44) w fun v5 w =>
NX P (oStore 44 v5 v10) w fun _ w =>
NX P (oFieldAddr 44 v5 0) w fun v12 w =>
NX P (oLoad 41 v12) w fun v13 w =>
NX P (oFieldAddr 44 v5 1) w fun v14 w =>
NX P (oLoad 3 v14) w fun v15 w =>
NX P (oFieldAddr 44 v5 2) w fun v16 w =>
NX P (oLoad 3 v16) w fun v17 w =>
NX P (oFieldAddr 44 v5 3) w fun v18 w =>
NX P (oLoad 3 v18) w fun v19 w =>
NX P (oFieldAddr 44 v5 4) w fun v20 w =>
NX P (oLoad 3 v20) w fun v21 w =>
NX P (oFieldAddr 44 v5 6) w fun v22 w =>
NX P (oLoad 30 v22) w fun v23 w =>
NX P (oBuiltin .len #[30] 3 [false] [v23]) w fun v24 w =>
NX P (oFieldAddr 44 v5 7) w fun v25 w =>
NX P (oLoad 9 v25) w fun v26 w =>
NX P (oBuiltin .len #[9] 3 [false] [v26]) w fun v27 w =>
NX P (oBin .add 3 false false v24 v27) w fun v28 w =>
NX P (oFieldAddr 44 v5 8) w fun v29 w =>
NX P (oLoad 42 v29) w fun v30 w =>
NX P (oBuiltin .len #[42] 3 [false] [v30]) w fun v31 w =>
NX P (oBin .add 3 false false v28 v31) w fun v32 w =>
NX P (oFieldAddr 44 v5 5) w fun v33 w =>
NX P (oLoad 3 v33) w fun v34 w =>
NX P (oBuild 52 [(0, a1), (1, v13), (2, v15), (3, v17), (4, v19), (5, v21), (6, v32), (7, v34)]) w fun v35 w =>
NX P (oStore 52 v4 v35) w fun _ w =>
LX P 52 v4 w fun r4 =>
R r4 w
def pl42 : Pl := (.seq .leaf (.seq .leaf (.seq .leaf .leaf)))
theorem G42_ok {a0 a1 : Value} {w : World} {R : Value → World → Prop} (h : G42 Tryz.prog a0 a1 w R) : Calls Tryz.prog 42 #[a0, a1] w fun e w' => ∃ v, e = .returned v ∧ R v w' :=
  sh_calls Tryz.mixed Tryz.func42 rfl pl42 (by kernel_rfl) (cast (by kernel_rfl) h)

/-- toolchest/tree.kinds$1 -/
def G45 (P : Program) (a0 : Value) (w : World) (R : Value → World → Prop) : Prop :=
NX P (oBox 44 a0) w fun v1 w =>
NX P (oFieldAddr 44 v1 1) w fun v3 w =>
NX P (oLoad 3 v3) w fun v4 w =>
NX P (oFieldAddr 44 v1 2) w fun v5 w =>
NX P (oLoad 3 v5) w fun v6 w =>
NX P (oBin .or 3 false false v4 v6) w fun v7 w =>
NX P (oFieldAddr 44 v1 3) w fun v8 w =>
NX P (oLoad 3 v8) w fun v9 w =>
NX P (oBin .or 3 false false v7 v9) w fun v10 w =>
NX P (oFieldAddr 44 v1 4) w fun v11 w =>
NX P (oLoad 3 v11) w fun v12 w =>
NX P (oBin .or 3 false false v10 v12) w fun v13 w =>
NX P (oFieldAddr 44 v1 5) w fun v14 w =>
NX P (oLoad 3 v14) w fun v15 w =>
NX P (oBin .or 3 false false v13 v15) w fun v16 w =>
NX P (oFieldAddr 44 v1 9) w fun v17 w =>
NX P (oLoad 3 v17) w fun v18 w =>
NX P (oBin .or 3 false false v16 v18) w fun v19 w =>
NX P (oBin .eql 3 false true v19 (.int .i64 0)) w fun v20 w =>
IFB v20 (
NX P (oFieldAddr 44 v1 6) w fun v22 w =>
NX P (oLoad 30 v22) w fun v23 w =>
NX P (oBuiltin .len #[30] 3 [false] [v23]) w fun v24 w =>
NX P (oFieldAddr 44 v1 8) w fun v25 w =>
NX P (oLoad 42 v25) w fun v26 w =>
NX P (oBuiltin .len #[42] 3 [false] [v26]) w fun v27 w =>
NX P (oBin .add 3 false false v24 v27) w fun v28 w =>
NX P (oFieldAddr 44 v1 7) w fun v29 w =>
NX P (oLoad 9 v29) w fun v30 w =>
NX P (oBuiltin .len #[9] 3 [false] [v30]) w fun v31 w =>
NX P (oBin .add 3 false false v28 v31) w fun v32 w =>
NX P (oBin .eql 3 false true v32 (.int .i64 0)) w fun v33 w =>
R v33 w) (
R (.bool false) w)
def pl45 : Pl := (.seq .leaf (.seq .leaf .leaf))
theorem G45_ok {a0 : Value} {w : World} {R : Value → World → Prop} (h : G45 Tryz.prog a0 w R) : Calls Tryz.prog 45 #[a0] w fun e w' => ∃ v, e = .returned v ∧ R v w' :=
  sh_calls Tryz.mixed Tryz.func45 rfl pl45 (by kernel_rfl) (cast (by kernel_rfl) h)

/-- toolchest/tree.kinds$2 -/
def G46 (P : Program) (a0 : Value) (w : World) (R : Value → World → Prop) : Prop :=
NX P (oBox 44 a0) w fun v1 w =>
NX P (oFieldAddr 44 v1 6) w fun v3 w =>
NX P (oLoad 30 v3) w fun v4 w =>
NX P (oBuiltin .len #[30] 3 [false] [v4]) w fun v5 w =>
NX P (oBin .leq 3 false true v5 (.int .i64 65536)) w fun v6 w =>
IFB v6 (
NX P (oFieldAddr 44 v1 8) w fun v8 w =>
NX P (oLoad 42 v8) w fun v9 w =>
NX P (oBuiltin .len #[42] 3 [false] [v9]) w fun v10 w =>
NX P (oFieldAddr 44 v1 7) w fun v11 w =>
NX P (oLoad 9 v11) w fun v12 w =>
NX P (oBuiltin .len #[9] 3 [false] [v12]) w fun v13 w =>
NX P (oBin .add 3 false false v10 v13) w fun v14 w =>
NX P (oFieldAddr 44 v1 9) w fun v15 w =>
NX P (oLoad 3 v15) w fun v16 w =>
NX P (oBin .add 3 false false v14 v16) w fun v17 w =>
NX P (oBin .eql 3 false true v17 (.int .i64 0)) w fun v18 w =>
IFB v18 (
NX P (oFieldAddr 44 v1 9) w fun v21 w =>
NX P (oLoad 3 v21) w fun v22 w =>
NX P (oBin .eql 3 false true v22 (.int .i64 0)) w fun v23 w =>
R v23 w) (
R (.bool false) w)) (
R (.bool false) w)
def pl46 : Pl := (.seq .leaf (.seq .leaf .leaf))
theorem G46_ok {a0 : Value} {w : World} {R : Value → World → Prop} (h : G46 Tryz.prog a0 w R) : Calls Tryz.prog 46 #[a0] w fun e w' => ∃ v, e = .returned v ∧ R v w' :=
  sh_calls Tryz.mixed Tryz.func46 rfl pl46 (by kernel_rfl) (cast (by kernel_rfl) h)

/-- toolchest/tree.kinds$3 -/
def G47 (P : Program) (a0 : Value) (w : World) (R : Value → World → Prop) : Prop :=
NX P (oBox 44 a0) w fun v1 w =>
NX P (oFieldAddr 44 v1 6) w fun v3 w =>
NX P (oLoad 30 v3) w fun v4 w =>
NX P (oBuiltin .len #[30] 3 [false] [v4]) w fun v5 w =>
NX P (oFieldAddr 44 v1 7) w fun v6 w =>
NX P (oLoad 9 v6) w fun v7 w =>
NX P (oBuiltin .len #[9] 3 [false] [v7]) w fun v8 w =>
NX P (oBin .add 3 false false v5 v8) w fun v9 w =>
NX P (oBin .eql 3 false true v9 (.int .i64 0)) w fun v10 w =>
IFB v10 (
NX P (oFieldAddr 44 v1 8) w fun v12 w =>
NX P (oLoad 42 v12) w fun v13 w =>
NX P (oBuiltin .len #[42] 3 [false] [v13]) w fun v14 w =>
NX P (oBin .leq 3 false true v14 (.int .i64 512)) w fun v15 w =>
R v15 w) (
R (.bool false) w)
def pl47 : Pl := (.seq .leaf (.seq .leaf .leaf))
theorem G47_ok {a0 : Value} {w : World} {R : Value → World → Prop} (h : G47 Tryz.prog a0 w R) : Calls Tryz.prog 47 #[a0] w fun e w' => ∃ v, e = .returned v ∧ R v w' :=
  sh_calls Tryz.mixed Tryz.func47 rfl pl47 (by kernel_rfl) (cast (by kernel_rfl) h)

/-- toolchest/tree.kinds$4 -/
def G48 (P : Program) (a0 : Value) (w : World) (R : Value → World → Prop) : Prop :=
NX P (oBox 44 a0) w fun v1 w =>
NX P (oFieldAddr 44 v1 1) w fun v3 w =>
NX P (oLoad 3 v3) w fun v4 w =>
NX P (oBin .eql 3 false true v4 (.int .i64 511)) w fun v5 w =>
IFB v5 (
NX P (oFieldAddr 44 v1 7) w fun v7 w =>
NX P (oLoad 9 v7) w fun v8 w =>
NX P (oBin .neq 9 false true v8 (.string { data := #[] })) w fun v9 w =>
IFB v9 (
NX P (oFieldAddr 44 v1 7) w fun v12 w =>
NX P (oLoad 9 v12) w fun v13 w =>
NX P (oBuiltin .len #[9] 3 [false] [v13]) w fun v14 w =>
NX P (oBin .leq 3 false true v14 (.int .i64 1024)) w fun v15 w =>
IFB v15 (
NX P (oFieldAddr 44 v1 7) w fun v18 w =>
NX P (oLoad 9 v18) w fun v19 w =>
NX P (oCall (fnV 35) [v19, (.string { data := #[0] })]) w fun v20 w =>
NX P (oUn .not v20) w fun v21 w =>
IFB v21 (
NX P (oFieldAddr 44 v1 6) w fun v24 w =>
NX P (oLoad 30 v24) w fun v25 w =>
NX P (oBuiltin .len #[30] 3 [false] [v25]) w fun v26 w =>
NX P (oFieldAddr 44 v1 8) w fun v27 w =>
NX P (oLoad 42 v27) w fun v28 w =>
NX P (oBuiltin .len #[42] 3 [false] [v28]) w fun v29 w =>
NX P (oBin .add 3 false false v26 v29) w fun v30 w =>
NX P (oBin .eql 3 false true v30 (.int .i64 0)) w fun v31 w =>
IFB v31 (
NX P (oFieldAddr 44 v1 9) w fun v34 w =>
NX P (oLoad 3 v34) w fun v35 w =>
NX P (oBin .eql 3 false true v35 (.int .i64 0)) w fun v36 w =>
R v36 w) (
R (.bool false) w)) (
R (.bool false) w)) (
R (.bool false) w)) (
R (.bool false) w)) (
R (.bool false) w)
def pl48 : Pl := (.seq .leaf (.seq .leaf .leaf))
theorem G48_ok {a0 : Value} {w : World} {R : Value → World → Prop} (h : G48 Tryz.prog a0 w R) : Calls Tryz.prog 48 #[a0] w fun e w' => ∃ v, e = .returned v ∧ R v w' :=
  sh_calls Tryz.mixed Tryz.func48 rfl pl48 (by kernel_rfl) (cast (by kernel_rfl) h)

/-- toolchest/tree.Name -/
def G49 (P : Program) (a0 : Value) (w : World) (R : Value → World → Prop) : Prop :=
NX P (oBin .neq 9 false true a0 (.string { data := #[] })) w fun v4 w =>
IFB v4 (
NX P (oBuiltin .len #[9] 3 [false] [a0]) w fun v7 w =>
NX P (oBin .leq 3 false true v7 (.int .i64 64)) w fun v8 w =>
IFB v8 (
NX P (oBin .neq 9 false true a0 (.string { data := #[46] })) w fun v12 w =>
IFB v12 (
NX P (oBin .neq 9 false true a0 (.string { data := #[46, 46] })) w fun v16 w =>
IFB v16 (
NX P (oCall (fnV 71) [a0, (.string { data := #[0, 47] })]) w fun v20 w =>
NX P (oUn .not v20) w fun v21 w =>
R v21 w) (
R (.bool false) w)) (
R (.bool false) w)) (
R (.bool false) w)) (
R (.bool false) w)
def pl49 : Pl := (.seq .leaf (.seq .leaf .leaf))
theorem G49_ok {a0 : Value} {w : World} {R : Value → World → Prop} (h : G49 Tryz.prog a0 w R) : Calls Tryz.prog 49 #[a0] w fun e w' => ∃ v, e = .returned v ∧ R v w' :=
  sh_calls Tryz.mixed Tryz.func49 rfl pl49 (by kernel_rfl) (cast (by kernel_rfl) h)

/-- toolchest/tree.In -/
def G50 (P : Program) (a0 a1 a2 : Value) (w : World) (R : Value → World → Prop) : Prop :=
NX P (oBox 24 a0) w fun v3 w =>
NX P (oBin .lss 3 false true a1 (.int .i64 1)) w fun v11 w =>
IFB v11 (
R (.int .i64 0) w) (
NX P (oFieldAddr 24 v3 0) w fun v14 w =>
NX P (oLoad 22 v14) w fun v15 w =>
NX P (oBuiltin .len #[22] 3 [false] [v15]) w fun v16 w =>
NX P (oBin .geq 3 false false a1 v16) w fun v17 w =>
IFB v17 (
R (.int .i64 0) w) (
NX P (oFieldAddr 24 v3 0) w fun v19 w =>
NX P (oLoad 22 v19) w fun v20 w =>
NX P (oIndexAddr 22 v20 a1) w fun v22 w =>
NX P (oFieldAddr 44 v22 8) w fun v23 w =>
NX P (oLoad 42 v23) w fun v24 w =>
NX P (oCall (fnV 72) [v24, a2, (fnV 73)]) w fun v28 w =>
NX P (oExtract v28 0) w fun v29 w =>
NX P (oExtract v28 1) w fun v30 w =>
NX P (oUn .not v30) w fun v32 w =>
IFB v32 (
R (.int .i64 0) w) (
NX P (oIndexAddr 42 v24 v29) w fun v35 w =>
NX P (oFieldAddr 93 v35 1) w fun v36 w =>
NX P (oLoad 3 v36) w fun v37 w =>
R v37 w)))
def pl50 : Pl := (.seq .leaf (.seq (.seq .leaf (.cond (.seq .leaf .leaf) .leaf)) (.seq .leaf (.seq .leaf (.seq (.seq .leaf (.cond (.seq .leaf .leaf) .leaf)) (.seq .leaf .leaf))))))
theorem G50_ok {a0 a1 a2 : Value} {w : World} {R : Value → World → Prop} (h : G50 Tryz.prog a0 a1 a2 w R) : Calls Tryz.prog 50 #[a0, a1, a2] w fun e w' => ∃ v, e = .returned v ∧ R v w' :=
  sh_calls Tryz.mixed Tryz.func50 rfl pl50 (by kernel_rfl) (cast (by kernel_rfl) h)

/-- slices.BinarySearchFunc[[]toolchest/api.Entry,toolchest/api.Entry,string] -/
def G72 (P : Program) (a0 a1 a2 : Value) (w : World) (R : Value → World → Prop) : Prop :=
NX P (oBuiltin .len #[42] 3 [false] [a0]) w fun v13 w =>
∃ (I1 : List Value → World → Prop) (m1 : List Value → World → Nat), I1 [(.int .i64 0), v13] w ∧ ∀ (f1 : Env) (wh1 : World), I1 [f1 9, f1 10] wh1 →
NX P (oBin .lss 3 false false (f1 9) (f1 10)) wh1 fun v17 w =>
IFB v17 (
NX P (oBin .add 3 false false (f1 9) (f1 10)) w fun v20 w =>
NX P (oConvert 3 128 v20) w fun v21 w =>
NX P (oBin .shr 128 false true v21 (.int .u64 1)) w fun v22 w =>
NX P (oConvert 128 3 v22) w fun v23 w =>
NX P (oIndexAddr 42 a0 v23) w fun v27 w =>
NX P (oLoad 93 v27) w fun v28 w =>
NX P (oCall a2 [v28, a1]) w fun v30 w =>
NX P (oBin .lss 3 false true v30 (.int .i64 0)) w fun v31 w =>
IFB v31 (
NX P (oBin .add 3 false true v23 (.int .i64 1)) w fun v33 w =>
I1 [v33, (f1 10)] w ∧ m1 [v33, (f1 10)] w < m1 [f1 9, f1 10] wh1) (
I1 [(f1 9), v23] w ∧ m1 [(f1 9), v23] w < m1 [f1 9, f1 10] wh1)) (
NX P (oBin .lss 3 false false (f1 9) v13) w fun v38 w =>
IFB v38 (
NX P (oIndexAddr 42 a0 (f1 9)) w fun v43 w =>
NX P (oLoad 93 v43) w fun v44 w =>
NX P (oCall a2 [v44, a1]) w fun v46 w =>
NX P (oBin .eql 3 false true v46 (.int .i64 0)) w fun v47 w =>
R (.tuple #[(f1 9), v47]) w) (
R (.tuple #[(f1 9), (.bool false)]) w))
def pl72 : Pl := (.seq .leaf (.seq .leaf (.seq .leaf (.seq (.block (.loop [9, 10] [15, 16, 17, 18, 19, 20, 21, 22, 23, 11, 24, 25, 26, 27, 28, 29, 30, 31, 32, 33, 9, 34, 10] (.seq (.seq .leaf (.cond .leaf .leaf)) (.block (.seq .leaf (.seq .leaf (.cond .leaf .leaf))))))) (.seq .leaf .leaf)))))
theorem G72_ok {a0 a1 a2 : Value} {w : World} {R : Value → World → Prop} (h : G72 Tryz.prog a0 a1 a2 w R) : Calls Tryz.prog 72 #[a0, a1, a2] w fun e w' => ∃ v, e = .returned v ∧ R v w' :=
  sh_calls Tryz.mixed Tryz.func72 rfl pl72 (by kernel_rfl) (cast (by kernel_rfl) h)

/-- toolchest/tree.In$1 -/
def G73 (P : Program) (a0 a1 : Value) (w : World) (R : Value → World → Prop) : Prop :=
NX P (oBox 93 a0) w fun v2 w =>
NX P (oFieldAddr 93 v2 0) w fun v5 w =>
NX P (oLoad 9 v5) w fun v6 w =>
NX P (oCall (fnV 74) [v6, a1]) w fun v8 w =>
R v8 w
def pl73 : Pl := (.seq .leaf (.seq .leaf .leaf))
theorem G73_ok {a0 a1 : Value} {w : World} {R : Value → World → Prop} (h : G73 Tryz.prog a0 a1 w R) : Calls Tryz.prog 73 #[a0, a1] w fun e w' => ∃ v, e = .returned v ∧ R v w' :=
  sh_calls Tryz.mixed Tryz.func73 rfl pl73 (by kernel_rfl) (cast (by kernel_rfl) h)

/-- toolchest/tree.Deep -/
def G82 (P : Program) (a0 a1 : Value) (w : World) (R : Value → World → Prop) : Prop :=
NX P (oBox 24 a0) w fun v2 w =>
∃ (I1 : List Value → World → Prop) (m1 : List Value → World → Nat), I1 [a1, (.int .i64 0)] w ∧ ∀ (f1 : Env) (wh1 : World), I1 [f1 1, f1 4] wh1 →
NX P (oBin .neq 3 false true (f1 1) (.int .i64 1)) wh1 fun v6 w =>
IFB v6 (
NX P (oFieldAddr 24 v2 0) w fun v9 w =>
NX P (oLoad 22 v9) w fun v10 w =>
NX P (oIndexAddr 22 v10 (f1 1)) w fun v12 w =>
NX P (oFieldAddr 44 v12 9) w fun v13 w =>
NX P (oLoad 3 v13) w fun v14 w =>
NX P (oBin .add 3 false true (f1 4) (.int .i64 1)) w fun v8 w =>
I1 [v14, v8] w ∧ m1 [v14, v8] w < m1 [f1 1, f1 4] wh1) (
R (f1 4) w)
def pl82 : Pl := (.seq .leaf (.seq (.block (.loop [1, 4] [5, 6, 9, 10, 11, 12, 13, 14, 1, 7, 8, 4] (.seq (.seq .leaf (.cond .leaf .leaf)) (.seq (.block .leaf) .leaf)))) (.seq .leaf .leaf)))
theorem G82_ok {a0 a1 : Value} {w : World} {R : Value → World → Prop} (h : G82 Tryz.prog a0 a1 w R) : Calls Tryz.prog 82 #[a0, a1] w fun e w' => ∃ v, e = .returned v ∧ R v w' :=
  sh_calls Tryz.mixed Tryz.func82 rfl pl82 (by kernel_rfl) (cast (by kernel_rfl) h)

end Go.Proofs.YthakeicmaeefiaaGreatDoor
