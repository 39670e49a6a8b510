/- Shallow readings of functions of the program, written by gen.py. -/
import Derived.Test.YthakeicmaeefiaaGreatDoorFc
set_option linter.unusedVariables false
set_option linter.unusedSimpArgs false
namespace Go.Proofs.YthakeicmaeefiaaGreatDoor
open Go Go.Sh Go.Proofs
set_option maxRecDepth 100000
/-- toolchest/toolchestlaw15.CallsKeep -/
def G3 (P : Program) (a0 a1 : Value) (w : World) (R : Value → World → Prop) : Prop :=
NX P (oBox 24 a0) w fun v2 w =>
∃ J1 : List Value → World → Prop, (
NX P (oLoad 24 v2) w fun v11 w =>
NX P (oCall (fnV 8) [v11, a1]) w fun v13 w =>
IFB v13 (
J1 [(.bool true)] w) (
NX P (oLoad 24 v2) w fun v15 w =>
NX P (oCall (fnV 9) [v15]) w fun v16 w =>
NX P (oUn .not v16) w fun v17 w =>
J1 [v17] w)) ∧ ∀ (f1 : Env) (w : World), J1 [f1 18] w →
IFB (f1 18) (
NX P (oCall (fnV 10) []) w fun v19 w =>
R v19 w) (
∃ (I2 : List Value → World → Prop) (m2 : List Value → World → Nat), I2 [(.int .i64 0)] w ∧ ∀ (f2 : Env) (wh2 : World), I2 [f2 5] wh2 →
NX P (oBuiltin .len #[25] 3 [false] [a1]) wh2 fun v22 w =>
NX P (oBin .lss 3 false false (f2 5) v22) w fun v23 w =>
IFB v23 (
NX P (oIndexAddr 25 a1 (f2 5)) w fun v28 w =>
NX P (oLoad 34 v28) w fun v29 w =>
NX P (oAlloc 34) w fun v6 w =>
NX P (oStore 34 v6 v29) w fun _ w =>
NX P (oLoad 24 v2) w fun v31 w =>
NX P (oLoad 34 v6) w fun v32 w =>
NX P (oCall (fnV 11) [v31, v32]) w fun v33 w =>
NX P (oExtract v33 0) w fun v34 w =>
NX P (oExtract v33 1) w fun v35 w =>
NX P (oAlloc 24) w fun v7 w =>
NX P (oStore 24 v7 v34) w fun _ w =>
NX P (oBin .neq 35 false true v35 (.int .i64 0)) w fun v37 w =>
IFB v37 (
NX P (oFieldAddr 24 v7 0) w fun v38 w =>
NX P (oLoad 22 v38) w fun v39 w =>
NX P (oBuiltin .len #[22] 3 [false] [v39]) w fun v40 w =>
NX P (oBin .neq 3 false true v40 (.int .i64 0)) w fun v41 w =>
IFB v41 (
R (.bool false) w) (
NX P (oBin .add 3 false true (f2 5) (.int .i64 1)) w fun v25 w =>
I2 [v25] w ∧ m2 [v25] w < m2 [f2 5] wh2)) (
NX P (oLoad 24 v7) w fun v42 w =>
NX P (oCall (fnV 9) [v42]) w fun v43 w =>
NX P (oUn .not v43) w fun v44 w =>
IFB v44 (
R (.bool false) w) (
NX P (oLoad 24 v7) w fun v45 w =>
NX P (oStore 24 v2 v45) w fun _ w =>
NX P (oFieldAddr 34 v6 0) w fun v46 w =>
NX P (oLoad 29 v46) w fun v47 w =>
NX P (oBin .eql 29 false true v47 (.int .u8 1)) w fun v48 w =>
IFB v48 (
NX P (oFieldAddr 34 v6 8) w fun v49 w =>
NX P (oFieldAddr 32 v49 0) w fun v50 w =>
NX P (oStore 3 v50 (.int .i64 0)) w fun _ w =>
NX P (oLoad 24 v2) w fun v52 w =>
NX P (oFieldAddr 34 v6 8) w fun v53 w =>
NX P (oLoad 32 v53) w fun v54 w =>
NX P (oFieldAddr 34 v6 1) w fun v55 w =>
NX P (oLoad 9 v55) w fun v56 w =>
NX P (oCall (fnV 12) [v52, v54, v56]) w fun v57 w =>
NX P (oExtract v57 0) w fun v58 w =>
NX P (oExtract v57 1) w fun v59 w =>
NX P (oBin .neq 35 false true v59 (.int .i64 0)) w fun v61 w =>
IFB v61 (
R (.bool false) w) (
NX P (oFieldAddr 34 v6 7) w fun v64 w =>
NX P (oLoad 30 v64) w fun v65 w =>
NX P (oCall (fnV 13) [v58, v65]) w fun v66 w =>
NX P (oUn .not v66) w fun v67 w =>
IFB v67 (
R (.bool false) w) (
NX P (oBin .add 3 false true (f2 5) (.int .i64 1)) w fun v25 w =>
I2 [v25] w ∧ m2 [v25] w < m2 [f2 5] wh2))) (
NX P (oBin .add 3 false true (f2 5) (.int .i64 1)) w fun v25 w =>
I2 [v25] w ∧ m2 [v25] w < m2 [f2 5] wh2)))) (
NX P (oCall (fnV 10) []) w fun v69 w =>
R v69 w))
def pl3 : Pl := (.seq .leaf (.seq (.join [18] [11, 12, 13, 14, 15, 16, 17, 18] .leaf (.cond (.seq .leaf .leaf) .leaf)) (.seq (.seq .leaf (.block (.loop [5] [20, 21, 22, 23, 26, 27, 28, 29, 6, 31, 32, 33, 30, 34, 35, 7, 8, 36, 37, 38, 39, 40, 41, 4, 42, 43, 44, 45, 46, 47, 48, 49, 50, 52, 53, 54, 55, 56, 57, 51, 58, 59, 9, 10, 60, 61, 62, 63, 64, 65, 66, 67, 68, 24, 25, 5] (.seq (.seq .leaf (.cond .leaf .leaf)) (.seq (.block (.seq .leaf (.seq .leaf (.seq (.seq .leaf (.cond (.seq (.seq .leaf (.cond (.seq .leaf .leaf) .leaf)) .leaf) .leaf)) (.seq (.seq .leaf (.cond (.seq .leaf .leaf) .leaf)) (.seq .leaf (.seq .leaf (.cond (.seq .leaf (.seq .leaf (.seq .leaf (.cond (.seq .leaf .leaf) .leaf)))) .leaf)))))))) .leaf))))) (.seq .leaf .leaf))))
theorem G3_ok {a0 a1 : Value} {w : World} {R : Value → World → Prop} (h : G3 Tryz.prog a0 a1 w R) : Calls Tryz.prog 3 #[a0, a1] w fun e w' => ∃ v, e = .returned v ∧ R v w' :=
  sh_calls Tryz.mixed Tryz.func3 rfl pl3 (by kernel_rfl) (cast (by kernel_rfl) h)

/-- toolchest/toolchestlaw15.CallsGuard -/
def G4 (P : Program) (a0 a1 : Value) (w : World) (R : Value → World → Prop) : Prop :=
NX P (oBox 24 a0) w fun v2 w =>
∃ J1 : List Value → World → Prop, (
NX P (oLoad 24 v2) w fun v12 w =>
NX P (oCall (fnV 8) [v12, a1]) w fun v14 w =>
IFB v14 (
J1 [(.bool true)] w) (
NX P (oLoad 24 v2) w fun v16 w =>
NX P (oCall (fnV 9) [v16]) w fun v17 w =>
NX P (oUn .not v17) w fun v18 w =>
J1 [v18] w)) ∧ ∀ (f1 : Env) (w : World), J1 [f1 19] w →
IFB (f1 19) (
NX P (oCall (fnV 10) []) w fun v20 w =>
R v20 w) (
∃ (I2 : List Value → World → Prop) (m2 : List Value → World → Nat), I2 [(.int .i64 0)] w ∧ ∀ (f2 : Env) (wh2 : World), I2 [f2 5] wh2 →
NX P (oBuiltin .len #[25] 3 [false] [a1]) wh2 fun v23 w =>
NX P (oBin .lss 3 false false (f2 5) v23) w fun v24 w =>
IFB v24 (
NX P (oIndexAddr 25 a1 (f2 5)) w fun v29 w =>
NX P (oLoad 34 v29) w fun v30 w =>
NX P (oAlloc 34) w fun v6 w =>
NX P (oStore 34 v6 v30) w fun _ w =>
NX P (oLoad 24 v2) w fun v32 w =>
NX P (oLoad 34 v6) w fun v33 w =>
NX P (oCall (fnV 11) [v32, v33]) w fun v34 w =>
NX P (oExtract v34 0) w fun v35 w =>
NX P (oExtract v34 1) w fun v36 w =>
NX P (oAlloc 24) w fun v7 w =>
NX P (oStore 24 v7 v35) w fun _ w =>
NX P (oBin .neq 35 false true v36 (.int .i64 0)) w fun v38 w =>
IFB v38 (
NX P (oBin .add 3 false true (f2 5) (.int .i64 1)) w fun v26 w =>
I2 [v26] w ∧ m2 [v26] w < m2 [f2 5] wh2) (
∃ (I3 : List Value → World → Prop) (m3 : List Value → World → Nat), I3 [(.int .i64 1)] w ∧ ∀ (f3 : Env) (wh3 : World), I3 [f3 9] wh3 →
NX P (oFieldAddr 24 v2 0) wh3 fun v40 w =>
NX P (oLoad 22 v40) w fun v41 w =>
NX P (oBuiltin .len #[22] 3 [false] [v41]) w fun v42 w =>
NX P (oBin .lss 3 false false (f3 9) v42) w fun v43 w =>
IFB v43 (
NX P (oFieldAddr 34 v6 8) w fun v45 w =>
NX P (oFieldAddr 32 v45 0) w fun v46 w =>
NX P (oLoad 3 v46) w fun v47 w =>
NX P (oBin .neq 3 false true v47 (.int .i64 0)) w fun v48 w =>
IFB v48 (
NX P (oFieldAddr 24 v2 0) w fun v52 w =>
NX P (oLoad 22 v52) w fun v53 w =>
NX P (oIndexAddr 22 v53 (f3 9)) w fun v55 w =>
NX P (oLoad 44 v55) w fun v56 w =>
NX P (oAlloc 44) w fun v10 w =>
NX P (oStore 44 v10 v56) w fun _ w =>
NX P (oBuild 44 []) w fun v57 w =>
NX P (oAlloc 44) w fun v11 w =>
NX P (oStore 44 v11 v57) w fun _ w =>
∃ J4 : List Value → World → Prop, (
NX P (oFieldAddr 24 v7 0) w fun v59 w =>
NX P (oLoad 22 v59) w fun v60 w =>
NX P (oBuiltin .len #[22] 3 [false] [v60]) w fun v61 w =>
NX P (oBin .lss 3 false false (f3 9) v61) w fun v62 w =>
IFB v62 (
NX P (oFieldAddr 24 v7 0) w fun v63 w =>
NX P (oLoad 22 v63) w fun v64 w =>
NX P (oIndexAddr 22 v64 (f3 9)) w fun v66 w =>
NX P (oLoad 44 v66) w fun v67 w =>
NX P (oStore 44 v11 v67) w fun _ w =>
J4 [] w) (
J4 [] w)) ∧ ∀ (f4 : Env) (w : World), J4 [] w →
NX P (oFieldAddr 44 v10 0) w fun v68 w =>
NX P (oLoad 41 v68) w fun v69 w =>
NX P (oBin .eql 41 false true v69 (.int .u8 0)) w fun v70 w =>
IFB v70 (
NX P (oBin .add 3 false true (f3 9) (.int .i64 1)) w fun v51 w =>
I3 [v51] w ∧ m3 [v51] w < m3 [f3 9] wh3) (
NX P (oFieldAddr 44 v10 0) w fun v72 w =>
NX P (oLoad 41 v72) w fun v73 w =>
NX P (oFieldAddr 44 v11 0) w fun v74 w =>
NX P (oLoad 41 v74) w fun v75 w =>
NX P (oBin .neq 41 false false v73 v75) w fun v76 w =>
IFB v76 (
NX P (oBin .add 3 false true (f3 9) (.int .i64 1)) w fun v51 w =>
I3 [v51] w ∧ m3 [v51] w < m3 [f3 9] wh3) (
∃ J5 : List Value → World → Prop, (
NX P (oLoad 44 v10) w fun v78 w =>
NX P (oFieldAddr 34 v6 8) w fun v79 w =>
NX P (oLoad 32 v79) w fun v80 w =>
NX P (oCall (fnV 14) [v78, v80, (.int .i64 2)]) w fun v81 w =>
NX P (oUn .not v81) w fun v82 w =>
IFB v82 (
NX P (oFieldAddr 44 v10 0) w fun v84 w =>
NX P (oLoad 41 v84) w fun v85 w =>
NX P (oBin .eql 41 false true v85 (.int .u8 2)) w fun v86 w =>
IFB v86 (
NX P (oFieldAddr 44 v10 8) w fun v89 w =>
NX P (oLoad 42 v89) w fun v90 w =>
NX P (oFieldAddr 44 v11 8) w fun v91 w =>
NX P (oLoad 42 v91) w fun v92 w =>
NX P (oCall (fnV 15) [v90, v92]) w fun v93 w =>
NX P (oUn .not v93) w fun v94 w =>
IFB v94 (
R (.bool false) w) (
J5 [] w)) (
J5 [] w)) (
J5 [] w)) ∧ ∀ (f5 : Env) (w : World), J5 [] w →
∃ J6 : List Value → World → Prop, (
NX P (oLoad 44 v10) w fun v96 w =>
NX P (oFieldAddr 34 v6 8) w fun v97 w =>
NX P (oLoad 32 v97) w fun v98 w =>
NX P (oCall (fnV 14) [v96, v98, (.int .i64 2)]) w fun v99 w =>
NX P (oUn .not v99) w fun v100 w =>
IFB v100 (
NX P (oFieldAddr 44 v10 0) w fun v102 w =>
NX P (oLoad 41 v102) w fun v103 w =>
NX P (oBin .eql 41 false true v103 (.int .u8 1)) w fun v104 w =>
IFB v104 (
NX P (oFieldAddr 44 v10 6) w fun v107 w =>
NX P (oLoad 30 v107) w fun v108 w =>
NX P (oFieldAddr 44 v11 6) w fun v109 w =>
NX P (oLoad 30 v109) w fun v110 w =>
NX P (oCall (fnV 13) [v108, v110]) w fun v111 w =>
NX P (oUn .not v111) w fun v112 w =>
IFB v112 (
R (.bool false) w) (
J6 [] w)) (
J6 [] w)) (
J6 [] w)) ∧ ∀ (f6 : Env) (w : World), J6 [] w →
NX P (oLoad 44 v10) w fun v114 w =>
NX P (oFieldAddr 34 v6 8) w fun v115 w =>
NX P (oLoad 32 v115) w fun v116 w =>
NX P (oCall (fnV 16) [v114, v116]) w fun v117 w =>
NX P (oUn .not v117) w fun v118 w =>
IFB v118 (
NX P (oFieldAddr 44 v10 1) w fun v120 w =>
NX P (oLoad 3 v120) w fun v121 w =>
NX P (oFieldAddr 44 v11 1) w fun v122 w =>
NX P (oLoad 3 v122) w fun v123 w =>
NX P (oBin .neq 3 false false v121 v123) w fun v124 w =>
IFB v124 (
R (.bool false) w) (
NX P (oFieldAddr 44 v10 2) w fun v126 w =>
NX P (oLoad 3 v126) w fun v127 w =>
NX P (oFieldAddr 44 v11 2) w fun v128 w =>
NX P (oLoad 3 v128) w fun v129 w =>
NX P (oBin .neq 3 false false v127 v129) w fun v130 w =>
IFB v130 (
R (.bool false) w) (
NX P (oFieldAddr 44 v10 3) w fun v133 w =>
NX P (oLoad 3 v133) w fun v134 w =>
NX P (oFieldAddr 44 v11 3) w fun v135 w =>
NX P (oLoad 3 v135) w fun v136 w =>
NX P (oBin .neq 3 false false v134 v136) w fun v137 w =>
IFB v137 (
R (.bool false) w) (
NX P (oBin .add 3 false true (f3 9) (.int .i64 1)) w fun v51 w =>
I3 [v51] w ∧ m3 [v51] w < m3 [f3 9] wh3)))) (
NX P (oBin .add 3 false true (f3 9) (.int .i64 1)) w fun v51 w =>
I3 [v51] w ∧ m3 [v51] w < m3 [f3 9] wh3)))) (
NX P (oLoad 24 v7) w fun v140 w =>
NX P (oStore 24 v2 v140) w fun _ w =>
NX P (oBin .add 3 false true (f2 5) (.int .i64 1)) w fun v26 w =>
I2 [v26] w ∧ m2 [v26] w < m2 [f2 5] wh2)) (
NX P (oLoad 24 v7) w fun v140 w =>
NX P (oStore 24 v2 v140) w fun _ w =>
NX P (oBin .add 3 false true (f2 5) (.int .i64 1)) w fun v26 w =>
I2 [v26] w ∧ m2 [v26] w < m2 [f2 5] wh2))) (
NX P (oCall (fnV 10) []) w fun v141 w =>
R v141 w))
def pl4 : Pl := (.seq .leaf (.seq (.join [19] [12, 13, 14, 15, 16, 17, 18, 19] .leaf (.cond (.seq .leaf .leaf) .leaf)) (.seq (.seq .leaf (.block (.loop [5] [21, 22, 23, 24, 27, 28, 29, 30, 6, 32, 33, 34, 31, 35, 36, 7, 8, 37, 38, 9, 39, 40, 41, 42, 43, 44, 45, 46, 47, 48, 49, 52, 53, 54, 55, 56, 10, 57, 11, 58, 59, 60, 61, 62, 63, 64, 65, 66, 67, 68, 69, 70, 71, 72, 73, 74, 75, 76, 77, 78, 79, 80, 81, 82, 83, 84, 85, 86, 87, 88, 89, 90, 91, 92, 93, 94, 95, 4, 96, 97, 98, 99, 100, 101, 102, 103, 104, 105, 106, 107, 108, 109, 110, 111, 112, 113, 114, 115, 116, 117, 118, 119, 120, 121, 122, 123, 124, 125, 126, 127, 128, 129, 130, 131, 132, 133, 134, 135, 136, 137, 138, 139, 50, 51, 140, 25, 26, 5] (.seq (.seq .leaf (.cond .leaf .leaf)) (.seq (.block (.seq .leaf (.seq .leaf (.seq (.seq .leaf (.cond .leaf .leaf)) (.seq (.seq .leaf (.block (.loop [9] [39, 40, 41, 42, 43, 44, 45, 46, 47, 48, 49, 52, 53, 54, 55, 56, 10, 57, 11, 58, 59, 60, 61, 62, 63, 64, 65, 66, 67, 68, 69, 70, 71, 72, 73, 74, 75, 76, 77, 78, 79, 80, 81, 82, 83, 84, 85, 86, 87, 88, 89, 90, 91, 92, 93, 94, 95, 4, 96, 97, 98, 99, 100, 101, 102, 103, 104, 105, 106, 107, 108, 109, 110, 111, 112, 113, 114, 115, 116, 117, 118, 119, 120, 121, 122, 123, 124, 125, 126, 127, 128, 129, 130, 131, 132, 133, 134, 135, 136, 137, 138, 139, 50, 51, 9] (.seq (.seq .leaf (.cond .leaf .leaf)) (.seq (.block (.seq .leaf (.seq .leaf (.join [] [58, 59, 60, 61, 62, 63, 64, 65, 66, 67] (.seq .leaf (.cond .leaf .leaf)) (.seq (.seq .leaf (.cond .leaf .leaf)) (.join [] [78, 79, 80, 81, 82, 83, 84, 85, 86, 87, 88, 89, 90, 91, 92, 93, 94, 95, 4] (.seq .leaf (.cond (.seq .leaf .leaf) .leaf)) (.join [] [96, 97, 98, 99, 100, 101, 102, 103, 104, 105, 106, 107, 108, 109, 110, 111, 112, 113, 4] (.seq .leaf (.cond (.seq .leaf .leaf) .leaf)) (.seq .leaf (.cond (.seq .leaf .leaf) .leaf))))))))) .leaf))))) .leaf))))) .leaf))))) (.seq .leaf .leaf))))
theorem G4_ok {a0 a1 : Value} {w : World} {R : Value → World → Prop} (h : G4 Tryz.prog a0 a1 w R) : Calls Tryz.prog 4 #[a0, a1] w fun e w' => ∃ v, e = .returned v ∧ R v w' :=
  sh_calls Tryz.mixed Tryz.func4 rfl pl4 (by kernel_rfl) (cast (by kernel_rfl) h)

/-- toolchest/toolchestlaw15.CallsMove -/
def G5 (P : Program) (a0 : Value) (w : World) (R : Value → World → Prop) : Prop :=
NX P (oBox 49 a0) w fun v1 w =>
NX P (oFieldAddr 49 v1 0) w fun v18 w =>
NX P (oLoad 24 v18) w fun v19 w =>
NX P (oAlloc 24) w fun v3 w =>
NX P (oStore 24 v3 v19) w fun _ w =>
NX P (oFieldAddr 49 v1 1) w fun v20 w =>
NX P (oLoad 32 v20) w fun v21 w =>
NX P (oAlloc 32) w fun v4 w =>
NX P (oStore 32 v4 v21) w fun _ w =>
NX P (oFieldAddr 49 v1 2) w fun v22 w =>
NX P (oLoad 9 v22) w fun v23 w =>
NX P (oFieldAddr 49 v1 3) w fun v24 w =>
NX P (oLoad 9 v24) w fun v25 w =>
∃ J1 : List Value → World → Prop, (
NX P (oLoad 24 v3) w fun v26 w =>
NX P (oCall (fnV 8) [v26, (.slice none 0 0)]) w fun v27 w =>
IFB v27 (
J1 [(.bool true)] w) (
NX P (oBuiltin .len #[9] 3 [false] [v23]) w fun v30 w =>
NX P (oBuiltin .len #[9] 3 [false] [v25]) w fun v32 w =>
NX P (oBin .add 3 false false v30 v32) w fun v33 w =>
NX P (oBin .gtr 3 false true v33 (.int .i64 5000)) w fun v34 w =>
IFB v34 (
J1 [(.bool true)] w) (
NX P (oCall (fnV 17) [v23]) w fun v38 w =>
IFB v38 (
J1 [(.bool true)] w) (
NX P (oCall (fnV 17) [v25]) w fun v42 w =>
J1 [v42] w)))) ∧ ∀ (f1 : Env) (w : World), J1 [f1 43] w →
IFB (f1 43) (
NX P (oCall (fnV 10) []) w fun v44 w =>
R v44 w) (
NX P (oLoad 24 v3) w fun v46 w =>
NX P (oLoad 32 v4) w fun v47 w =>
NX P (oCall (fnV 18) [v46, v47, v23, (.bool false)]) w fun v49 w =>
NX P (oExtract v49 0) w fun v50 w =>
NX P (oExtract v49 1) w fun v51 w =>
NX P (oAlloc 52) w fun v7 w =>
NX P (oStore 52 v7 v50) w fun _ w =>
NX P (oLoad 24 v3) w fun v53 w =>
NX P (oLoad 32 v4) w fun v54 w =>
NX P (oCall (fnV 18) [v53, v54, v25, (.bool false)]) w fun v56 w =>
NX P (oExtract v56 0) w fun v57 w =>
NX P (oExtract v56 1) w fun v58 w =>
NX P (oAlloc 52) w fun v9 w =>
NX P (oStore 52 v9 v57) w fun _ w =>
NX P (oLoad 24 v3) w fun v60 w =>
NX P (oLoad 32 v4) w fun v63 w =>
NX P (oBuild 34 [(0, (.int .u8 8)), (1, v23), (2, v25), (8, v63)]) w fun v64 w =>
NX P (oCall (fnV 11) [v60, v64]) w fun v65 w =>
NX P (oExtract v65 0) w fun v66 w =>
NX P (oExtract v65 1) w fun v67 w =>
NX P (oAlloc 24) w fun v11 w =>
NX P (oStore 24 v11 v66) w fun _ w =>
NX P (oBin .neq 35 false true v67 (.int .i64 0)) w fun v69 w =>
IFB v69 (
NX P (oCall (fnV 10) []) w fun v70 w =>
R v70 w) (
NX P (oLoad 24 v11) w fun v72 w =>
NX P (oLoad 32 v4) w fun v73 w =>
NX P (oCall (fnV 18) [v72, v73, v25, (.bool false)]) w fun v75 w =>
NX P (oExtract v75 0) w fun v76 w =>
NX P (oExtract v75 1) w fun v77 w =>
NX P (oAlloc 52) w fun v13 w =>
NX P (oStore 52 v13 v76) w fun _ w =>
NX P (oLoad 24 v11) w fun v79 w =>
NX P (oLoad 32 v4) w fun v80 w =>
NX P (oCall (fnV 18) [v79, v80, v23, (.bool false)]) w fun v82 w =>
NX P (oExtract v82 0) w fun v83 w =>
NX P (oExtract v82 1) w fun v84 w =>
NX P (oAlloc 52) w fun v15 w =>
NX P (oStore 52 v15 v83) w fun _ w =>
NX P (oBin .neq 35 false true v51 (.int .i64 0)) w fun v86 w =>
IFB v86 (
R (.bool false) w) (
NX P (oBin .neq 35 false true v77 (.int .i64 0)) w fun v89 w =>
IFB v89 (
R (.bool false) w) (
NX P (oFieldAddr 52 v13 0) w fun v92 w =>
NX P (oLoad 3 v92) w fun v93 w =>
NX P (oFieldAddr 52 v7 0) w fun v94 w =>
NX P (oLoad 3 v94) w fun v95 w =>
NX P (oBin .neq 3 false false v93 v95) w fun v96 w =>
IFB v96 (
R (.bool false) w) (
NX P (oFieldAddr 52 v13 1) w fun v99 w =>
NX P (oLoad 41 v99) w fun v100 w =>
NX P (oFieldAddr 52 v7 1) w fun v101 w =>
NX P (oLoad 41 v101) w fun v102 w =>
NX P (oBin .neq 41 false false v100 v102) w fun v103 w =>
IFB v103 (
R (.bool false) w) (
NX P (oFieldAddr 52 v13 6) w fun v106 w =>
NX P (oLoad 3 v106) w fun v107 w =>
NX P (oFieldAddr 52 v7 6) w fun v108 w =>
NX P (oLoad 3 v108) w fun v109 w =>
NX P (oBin .neq 3 false false v107 v109) w fun v110 w =>
IFB v110 (
R (.bool false) w) (
NX P (oFieldAddr 52 v13 2) w fun v113 w =>
NX P (oLoad 3 v113) w fun v114 w =>
NX P (oFieldAddr 52 v7 2) w fun v115 w =>
NX P (oLoad 3 v115) w fun v116 w =>
NX P (oBin .neq 3 false false v114 v116) w fun v117 w =>
IFB v117 (
R (.bool false) w) (
NX P (oFieldAddr 52 v13 5) w fun v120 w =>
NX P (oLoad 3 v120) w fun v121 w =>
NX P (oFieldAddr 52 v7 5) w fun v122 w =>
NX P (oLoad 3 v122) w fun v123 w =>
NX P (oBin .neq 3 false false v121 v123) w fun v124 w =>
IFB v124 (
R (.bool false) w) (
∃ J2 : List Value → World → Prop, (
NX P (oBin .eql 35 false true v58 (.int .i64 0)) w fun v127 w =>
IFB v127 (
NX P (oFieldAddr 52 v7 0) w fun v129 w =>
NX P (oLoad 3 v129) w fun v130 w =>
NX P (oFieldAddr 52 v9 0) w fun v131 w =>
NX P (oLoad 3 v131) w fun v132 w =>
NX P (oBin .eql 3 false false v130 v132) w fun v133 w =>
J2 [v133] w) (
J2 [(.bool false)] w)) ∧ ∀ (f2 : Env) (w : World), J2 [f2 17] w →
IFB (f2 17) (
NX P (oCall (fnV 10) []) w fun v141 w =>
R v141 w) (
NX P (oBin .neq 35 false true v84 (.int .i64 0)) w fun v138 w =>
IFB v138 (
NX P (oCall (fnV 10) []) w fun v141 w =>
R v141 w) (
R (.bool false) w)))))))))))
def pl5 : Pl := (.seq .leaf (.seq .leaf (.seq .leaf (.seq .leaf (.seq .leaf (.seq (.join [43] [26, 27, 28, 29, 30, 31, 32, 33, 34, 35, 36, 37, 38, 39, 40, 41, 42, 43] .leaf (.cond (.seq .leaf .leaf) .leaf)) (.seq .leaf (.seq .leaf (.seq .leaf (.seq (.seq .leaf (.cond (.seq .leaf .leaf) .leaf)) (.seq .leaf (.seq .leaf (.seq (.seq .leaf (.cond (.seq .leaf .leaf) .leaf)) (.join [17] [126, 127, 128, 129, 130, 131, 132, 133, 134, 17] .leaf (.seq .leaf .leaf)))))))))))))))
theorem G5_ok {a0 : Value} {w : World} {R : Value → World → Prop} (h : G5 Tryz.prog a0 w R) : Calls Tryz.prog 5 #[a0] w fun e w' => ∃ v, e = .returned v ∧ R v w' :=
  sh_calls Tryz.mixed Tryz.func5 rfl pl5 (by kernel_rfl) (cast (by kernel_rfl) h)

/-- toolchest/toolchestlaw15.CallsWords -/
def G6 (P : Program) (a0 : Value) (w : World) (R : Value → World → Prop) : Prop :=
NX P (oCall (fnV 19) [a0]) w fun v4 w =>
NX P (oCall (fnV 20) [a0]) w fun v6 w =>
NX P (oBin .eql 9 false false v4 v6) w fun v7 w =>
IFB v7 (
NX P (oCall (fnV 10) []) w fun v9 w =>
R v9 w) (
R (.bool false) w)
def pl6 : Pl := (.seq .leaf (.seq .leaf .leaf))
theorem G6_ok {a0 : Value} {w : World} {R : Value → World → Prop} (h : G6 Tryz.prog a0 w R) : Calls Tryz.prog 6 #[a0] w fun e w' => ∃ v, e = .returned v ∧ R v w' :=
  sh_calls Tryz.mixed Tryz.func6 rfl pl6 (by kernel_rfl) (cast (by kernel_rfl) h)

/-- toolchest/toolchestlaw15.CallsUndo -/
def G7 (P : Program) (a0 a1 : Value) (w : World) (R : Value → World → Prop) : Prop :=
NX P (oBox 59 a0) w fun v2 w =>
NX P (oFieldAddr 59 v2 0) w fun v20 w =>
NX P (oLoad 24 v20) w fun v21 w =>
NX P (oAlloc 24) w fun v5 w =>
NX P (oStore 24 v5 v21) w fun _ w =>
NX P (oFieldAddr 59 v2 1) w fun v22 w =>
NX P (oLoad 32 v22) w fun v23 w =>
NX P (oAlloc 32) w fun v6 w =>
NX P (oStore 32 v6 v23) w fun _ w =>
NX P (oFieldAddr 59 v2 2) w fun v24 w =>
NX P (oLoad 9 v24) w fun v25 w =>
∃ J1 : List Value → World → Prop, (
NX P (oLoad 24 v5) w fun v26 w =>
NX P (oCall (fnV 8) [v26, (.slice none 0 0)]) w fun v27 w =>
IFB v27 (
J1 [(.bool true)] w) (
NX P (oBuiltin .len #[9] 3 [false] [v25]) w fun v30 w =>
NX P (oBin .gtr 3 false true v30 (.int .i64 5000)) w fun v31 w =>
J1 [v31] w)) ∧ ∀ (f1 : Env) (w : World), J1 [f1 32] w →
IFB (f1 32) (
NX P (oCall (fnV 10) []) w fun v33 w =>
R v33 w) (
NX P (oLoad 24 v5) w fun v35 w =>
NX P (oCall (fnV 21) [v35]) w fun v36 w =>
NX P (oExtract v36 0) w fun v37 w =>
NX P (oExtract v36 1) w fun v38 w =>
NX P (oBuildSlice 30 4 [(0, (.int .u8 115)), (1, (.int .u8 111)), (2, (.int .u8 109)), (3, (.int .u8 101))]) w fun v40 w =>
NX P (oConvert 30 30 v40) w fun v41 w =>
NX P (oLoad 32 v6) w fun v42 w =>
NX P (oBuild 34 [(0, (.int .u8 1)), (1, v25), (3, (.int .i64 448)), (7, v41), (8, v42)]) w fun v43 w =>
NX P (oAlloc 34) w fun v10 w =>
NX P (oStore 34 v10 v43) w fun _ w =>
NX P (oLoad 32 v6) w fun v45 w =>
NX P (oBuild 34 [(0, (.int .u8 5)), (1, v25), (8, v45)]) w fun v46 w =>
NX P (oAlloc 34) w fun v11 w =>
NX P (oStore 34 v11 v46) w fun _ w =>
∃ J2 : List Value → World → Prop, (
NX P (oBin .rem 5 false true a1 (.int .u8 3)) w fun v48 w =>
NX P (oBin .eql 5 false true v48 (.int .u8 1)) w fun v50 w =>
IFB v50 (
NX P (oLoad 32 v6) w fun v52 w =>
NX P (oBuild 34 [(0, (.int .u8 3)), (1, v25), (3, (.int .i64 448)), (8, v52)]) w fun v53 w =>
NX P (oStore 34 v10 v53) w fun _ w =>
NX P (oFieldAddr 34 v11 0) w fun v54 w =>
NX P (oStore 29 v54 (.int .u8 4)) w fun _ w =>
J2 [] w) (
NX P (oBin .eql 5 false true v48 (.int .u8 2)) w fun v56 w =>
IFB v56 (
NX P (oLoad 32 v6) w fun v58 w =>
NX P (oBuild 34 [(0, (.int .u8 7)), (1, (.string { data := #[120] })), (2, v25), (8, v58)]) w fun v59 w =>
NX P (oStore 34 v10 v59) w fun _ w =>
J2 [] w) (
J2 [] w))) ∧ ∀ (f2 : Env) (w : World), J2 [] w →
NX P (oLoad 24 v5) w fun v61 w =>
NX P (oLoad 32 v6) w fun v62 w =>
NX P (oCall (fnV 18) [v61, v62, v25, (.bool false)]) w fun v64 w =>
NX P (oExtract v64 0) w fun v65 w =>
NX P (oExtract v64 1) w fun v66 w =>
NX P (oAlloc 52) w fun v12 w =>
NX P (oStore 52 v12 v65) w fun _ w =>
NX P (oLoad 24 v5) w fun v68 w =>
NX P (oLoad 34 v10) w fun v69 w =>
NX P (oCall (fnV 11) [v68, v69]) w fun v70 w =>
NX P (oExtract v70 0) w fun v71 w =>
NX P (oExtract v70 1) w fun v72 w =>
NX P (oAlloc 24) w fun v14 w =>
NX P (oStore 24 v14 v71) w fun _ w =>
∃ J3 : List Value → World → Prop, (
NX P (oBin .neq 35 false true v72 (.int .i64 0)) w fun v74 w =>
IFB v74 (
J3 [(.bool true)] w) (
NX P (oBin .neq 35 false true v66 (.int .i64 6)) w fun v77 w =>
J3 [v77] w)) ∧ ∀ (f3 : Env) (w : World), J3 [f3 78] w →
IFB (f3 78) (
NX P (oCall (fnV 10) []) w fun v79 w =>
R v79 w) (
NX P (oLoad 24 v14) w fun v81 w =>
NX P (oLoad 34 v11) w fun v82 w =>
NX P (oCall (fnV 11) [v81, v82]) w fun v83 w =>
NX P (oExtract v83 0) w fun v84 w =>
NX P (oExtract v83 1) w fun v85 w =>
NX P (oAlloc 24) w fun v16 w =>
NX P (oStore 24 v16 v84) w fun _ w =>
NX P (oLoad 24 v16) w fun v87 w =>
NX P (oCall (fnV 21) [v87]) w fun v88 w =>
NX P (oExtract v88 0) w fun v89 w =>
NX P (oExtract v88 1) w fun v90 w =>
NX P (oBin .eql 35 false true v85 (.int .i64 0)) w fun v92 w =>
IFB v92 (
NX P (oBin .eql 3 false false v89 v37) w fun v96 w =>
IFB v96 (
NX P (oBin .eql 3 false false v90 v38) w fun v101 w =>
IFB v101 (
NX P (oCall (fnV 10) []) w fun v104 w =>
R v104 w) (
R (.bool false) w)) (
R (.bool false) w)) (
R (.bool false) w)))
def pl7 : Pl := (.seq .leaf (.seq .leaf (.seq .leaf (.seq .leaf (.seq (.join [32] [26, 27, 28, 29, 30, 31, 32] .leaf (.cond (.seq .leaf .leaf) .leaf)) (.seq .leaf (.seq .leaf (.seq .leaf (.join [] [47, 48, 50, 49, 51, 52, 53, 54, 56, 55, 57, 58, 59] (.seq .leaf (.block (.seq .leaf (.cond (.seq .leaf .leaf) (.seq .leaf (.cond .leaf .leaf)))))) (.seq .leaf (.seq .leaf (.seq (.join [78] [73, 74, 75, 76, 77, 78] .leaf (.cond (.seq .leaf .leaf) .leaf)) (.seq .leaf (.seq .leaf (.seq .leaf .leaf)))))))))))))))
theorem G7_ok {a0 a1 : Value} {w : World} {R : Value → World → Prop} (h : G7 Tryz.prog a0 a1 w R) : Calls Tryz.prog 7 #[a0, a1] w fun e w' => ∃ v, e = .returned v ∧ R v w' :=
  sh_calls Tryz.mixed Tryz.func7 rfl pl7 (by kernel_rfl) (cast (by kernel_rfl) h)

/-- toolchest/toolchestlaw15.great -/
def G8 (P : Program) (a0 a1 : Value) (w : World) (R : Value → World → Prop) : Prop :=
NX P (oBox 24 a0) w fun v2 w =>
NX P (oLoad 24 v2) w fun v5 w =>
NX P (oCall (fnV 22) [v5]) w fun v6 w =>
NX P (oBin .gtr 3 false true v6 (.int .i64 60000)) w fun v7 w =>
IFB v7 (
R (.bool true) w) (
NX P (oCall (fnV 23) [a1]) w fun v10 w =>
NX P (oBin .gtr 3 false true v10 (.int .i64 30000)) w fun v11 w =>
IFB v11 (
R (.bool true) w) (
NX P (oBuiltin .len #[25] 3 [false] [a1]) w fun v15 w =>
NX P (oBin .gtr 3 false true v15 (.int .i64 60)) w fun v16 w =>
R v16 w))
def pl8 : Pl := (.seq .leaf (.seq .leaf .leaf))
theorem G8_ok {a0 a1 : Value} {w : World} {R : Value → World → Prop} (h : G8 Tryz.prog a0 a1 w R) : Calls Tryz.prog 8 #[a0, a1] w fun e w' => ∃ v, e = .returned v ∧ R v w' :=
  sh_calls Tryz.mixed Tryz.func8 rfl pl8 (by kernel_rfl) (cast (by kernel_rfl) h)

/-- toolchest/toolchestlaw15.lives -/
def G10 (P : Program) (w : World) (R : Value → World → Prop) : Prop :=
NX P (oCall (fnV 28) []) w fun v16 w =>
NX P (oAlloc 24) w fun v1 w =>
NX P (oStore 24 v1 v16) w fun _ w =>
NX P (oBuild 32 [(2, (.int .i64 18)), (3, (.int .i64 1))]) w fun v17 w =>
NX P (oAlloc 32) w fun v2 w =>
NX P (oStore 32 v2 v17) w fun _ w =>
NX P (oBuild 32 [(0, (.int .i64 5)), (3, (.int .i64 1))]) w fun v18 w =>
NX P (oAlloc 32) w fun v3 w =>
NX P (oStore 32 v3 v18) w fun _ w =>
NX P (oLoad 24 v1) w fun v20 w =>
NX P (oLoad 32 v3) w fun v21 w =>
NX P (oBuild 34 [(0, (.int .u8 1)), (1, (.string { data := #[97] })), (8, v21)]) w fun v22 w =>
NX P (oCall (fnV 11) [v20, v22]) w fun v23 w =>
NX P (oExtract v23 0) w fun v24 w =>
NX P (oExtract v23 1) w fun v25 w =>
NX P (oAlloc 24) w fun v4 w =>
NX P (oStore 24 v4 v24) w fun _ w =>
NX P (oLoad 24 v1) w fun v27 w =>
NX P (oBuildSlice 30 2 [(0, (.int .u8 104)), (1, (.int .u8 105))]) w fun v28 w =>
NX P (oConvert 30 30 v28) w fun v29 w =>
NX P (oLoad 32 v2) w fun v30 w =>
NX P (oBuild 34 [(0, (.int .u8 1)), (1, (.string { data := #[97] })), (3, (.int .i64 420)), (7, v29), (8, v30)]) w fun v31 w =>
NX P (oCall (fnV 11) [v27, v31]) w fun v32 w =>
NX P (oExtract v32 0) w fun v33 w =>
NX P (oExtract v32 1) w fun v34 w =>
NX P (oAlloc 24) w fun v6 w =>
NX P (oStore 24 v6 v33) w fun _ w =>
NX P (oLoad 24 v6) w fun v36 w =>
NX P (oLoad 32 v3) w fun v37 w =>
NX P (oCall (fnV 12) [v36, v37, (.string { data := #[47, 97] })]) w fun v38 w =>
NX P (oExtract v38 0) w fun v39 w =>
NX P (oExtract v38 1) w fun v40 w =>
NX P (oLoad 24 v6) w fun v42 w =>
NX P (oLoad 32 v2) w fun v43 w =>
NX P (oBuild 34 [(0, (.int .u8 3)), (1, (.string { data := #[97] })), (8, v43)]) w fun v44 w =>
NX P (oCall (fnV 11) [v42, v44]) w fun v45 w =>
NX P (oExtract v45 0) w fun v46 w =>
NX P (oExtract v45 1) w fun v47 w =>
NX P (oAlloc 24) w fun v10 w =>
NX P (oStore 24 v10 v46) w fun _ w =>
NX P (oLoad 24 v6) w fun v49 w =>
NX P (oLoad 32 v2) w fun v50 w =>
NX P (oBuild 34 [(0, (.int .u8 8)), (1, (.string { data := #[97] })), (2, (.string { data := #[98] })), (8, v50)]) w fun v51 w =>
NX P (oCall (fnV 11) [v49, v51]) w fun v52 w =>
NX P (oExtract v52 0) w fun v53 w =>
NX P (oExtract v52 1) w fun v54 w =>
NX P (oAlloc 24) w fun v12 w =>
NX P (oStore 24 v12 v53) w fun _ w =>
NX P (oLoad 24 v6) w fun v56 w =>
NX P (oLoad 32 v2) w fun v57 w =>
NX P (oBuild 34 [(0, (.int .u8 6)), (1, (.string { data := #[97] })), (2, (.string { data := #[97] })), (8, v57)]) w fun v58 w =>
NX P (oCall (fnV 11) [v56, v58]) w fun v59 w =>
NX P (oExtract v59 0) w fun v60 w =>
NX P (oExtract v59 1) w fun v61 w =>
NX P (oAlloc 24) w fun v14 w =>
NX P (oStore 24 v14 v60) w fun _ w =>
NX P (oBin .eql 35 false true v25 (.int .i64 10)) w fun v63 w =>
IFB v63 (
NX P (oBin .eql 35 false true v34 (.int .i64 0)) w fun v66 w =>
IFB v66 (
NX P (oBin .eql 35 false true v40 (.int .i64 0)) w fun v70 w =>
IFB v70 (
NX P (oConvert 30 9 v39) w fun v74 w =>
NX P (oBin .eql 9 false true v74 (.string { data := #[104, 105] })) w fun v75 w =>
IFB v75 (
NX P (oBin .eql 35 false true v47 (.int .i64 7)) w fun v79 w =>
IFB v79 (
NX P (oBin .eql 35 false true v54 (.int .i64 0)) w fun v83 w =>
IFB v83 (
NX P (oLoad 24 v12) w fun v86 w =>
NX P (oCall (fnV 29) [v86, (.int .i64 1), (.string { data := #[98] })]) w fun v87 w =>
NX P (oBin .eql 3 false true v87 (.int .i64 2)) w fun v88 w =>
IFB v88 (
NX P (oBin .eql 35 false true v61 (.int .i64 7)) w fun v92 w =>
R v92 w) (
R (.bool false) w)) (
R (.bool false) w)) (
R (.bool false) w)) (
R (.bool false) w)) (
R (.bool false) w)) (
R (.bool false) w)) (
R (.bool false) w)
def pl10 : Pl := (.seq .leaf (.seq .leaf (.seq .leaf (.seq .leaf (.seq .leaf (.seq .leaf (.seq .leaf (.seq .leaf (.seq .leaf (.seq .leaf (.seq .leaf .leaf)))))))))))
theorem G10_ok {w : World} {R : Value → World → Prop} (h : G10 Tryz.prog  w R) : Calls Tryz.prog 10 #[] w fun e w' => ∃ v, e = .returned v ∧ R v w' :=
  sh_calls Tryz.mixed Tryz.func10 rfl pl10 (by kernel_rfl) (cast (by kernel_rfl) h)

/-- toolchest/toolchestlaw01.SameBytes -/
def G13 (P : Program) (a0 a1 : Value) (w : World) (R : Value → World → Prop) : Prop :=
NX P (oBuiltin .len #[30] 3 [false] [a0]) w fun v7 w =>
NX P (oBuiltin .len #[30] 3 [false] [a1]) w fun v9 w =>
NX P (oBin .neq 3 false false v7 v9) w fun v10 w =>
IFB v10 (
R (.bool false) w) (
∃ (I1 : List Value → World → Prop) (m1 : List Value → World → Nat), I1 [(.int .i64 0)] w ∧ ∀ (f1 : Env) (wh1 : World), I1 [f1 5] wh1 →
NX P (oBuiltin .len #[30] 3 [false] [a0]) wh1 fun v13 w =>
NX P (oBin .lss 3 false false (f1 5) v13) w fun v14 w =>
IFB v14 (
FX P (oIndexAddr 30 a0 (f1 5)) fun v19 =>
LX P 5 v19 w.drew fun v20 =>
FX P (oIndexAddr 30 a1 (f1 5)) fun v23 =>
LX P 5 v23 w.drew fun v24 =>
FX P (oBin .neq 5 false false v20 v24) fun v25 =>
IFB v25 (
R (.bool false) w.drew) (
NX P (oBin .add 3 false true (f1 5) (.int .i64 1)) w.drew fun v16 w =>
I1 [v16] w ∧ m1 [v16] w < m1 [f1 5] wh1)) (
R (.bool true) w))
def pl13 : Pl := (.seq .leaf (.seq (.seq .leaf (.cond (.seq .leaf .leaf) .leaf)) (.seq (.seq .leaf (.block (.loop [5] [11, 12, 13, 14, 17, 18, 19, 20, 21, 22, 23, 24, 25, 4, 15, 16, 5] (.seq (.seq .leaf (.cond .leaf .leaf)) (.seq (.block (.seq (.draw (.take 0 (.take 1 (.take 2 (.take 3 (.take 4 (.take 5 (.take 6 (.take 7 (.take 8 .fin)))))))))) (.cond (.seq .leaf .leaf) .leaf))) .leaf))))) (.seq .leaf .leaf))))
theorem G13_ok {a0 a1 : Value} {w : World} {R : Value → World → Prop} (h : G13 Tryz.prog a0 a1 w R) : Calls Tryz.prog 13 #[a0, a1] w fun e w' => ∃ v, e = .returned v ∧ R v w' :=
  sh_calls Tryz.mixed Tryz.func13 rfl pl13 (by kernel_rfl) (cast (by kernel_rfl) h)

/-- toolchest/toolchestlaw01.SameEntries -/
def G15 (P : Program) (a0 a1 : Value) (w : World) (R : Value → World → Prop) : Prop :=
NX P (oBuiltin .len #[42] 3 [false] [a0]) w fun v7 w =>
NX P (oBuiltin .len #[42] 3 [false] [a1]) w fun v9 w =>
NX P (oBin .neq 3 false false v7 v9) w fun v10 w =>
IFB v10 (
R (.bool false) w) (
∃ (I1 : List Value → World → Prop) (m1 : List Value → World → Nat), I1 [(.int .i64 0)] w ∧ ∀ (f1 : Env) (wh1 : World), I1 [f1 5] wh1 →
NX P (oBuiltin .len #[42] 3 [false] [a0]) wh1 fun v13 w =>
NX P (oBin .lss 3 false false (f1 5) v13) w fun v14 w =>
IFB v14 (
FX P (oIndexAddr 42 a0 (f1 5)) fun v19 =>
LX P 93 v19 w.drew fun v20 =>
FX P (oIndexAddr 42 a1 (f1 5)) fun v23 =>
LX P 93 v23 w.drew fun v24 =>
FX P (oBin .neq 93 false false v20 v24) fun v25 =>
IFB v25 (
R (.bool false) w.drew) (
NX P (oBin .add 3 false true (f1 5) (.int .i64 1)) w.drew fun v16 w =>
I1 [v16] w ∧ m1 [v16] w < m1 [f1 5] wh1)) (
R (.bool true) w))
def pl15 : Pl := (.seq .leaf (.seq (.seq .leaf (.cond (.seq .leaf .leaf) .leaf)) (.seq (.seq .leaf (.block (.loop [5] [11, 12, 13, 14, 17, 18, 19, 20, 21, 22, 23, 24, 25, 4, 15, 16, 5] (.seq (.seq .leaf (.cond .leaf .leaf)) (.seq (.block (.seq (.draw (.take 0 (.take 1 (.take 2 (.take 3 (.take 4 (.take 5 (.take 6 (.take 7 (.take 8 .fin)))))))))) (.cond (.seq .leaf .leaf) .leaf))) .leaf))))) (.seq .leaf .leaf))))
theorem G15_ok {a0 a1 : Value} {w : World} {R : Value → World → Prop} (h : G15 Tryz.prog a0 a1 w R) : Calls Tryz.prog 15 #[a0, a1] w fun e w' => ∃ v, e = .returned v ∧ R v w' :=
  sh_calls Tryz.mixed Tryz.func15 rfl pl15 (by kernel_rfl) (cast (by kernel_rfl) h)

/-- toolchest/toolchestlaw15.slash -/
def G17 (P : Program) (a0 : Value) (w : World) (R : Value → World → Prop) : Prop :=
∃ (I1 : List Value → World → Prop) (m1 : List Value → World → Nat), I1 [(.int .i64 0)] w ∧ ∀ (f1 : Env) (wh1 : World), I1 [f1 3] wh1 →
NX P (oBuiltin .len #[9] 3 [false] [a0]) wh1 fun v6 w =>
NX P (oBin .lss 3 false false (f1 3) v6) w fun v7 w =>
IFB v7 (
NX P (oIndex 9 a0 (f1 3)) w fun v12 w =>
NX P (oBin .eql 5 false true v12 (.int .u8 47)) w fun v13 w =>
IFB v13 (
R (.bool true) w) (
NX P (oBin .add 3 false true (f1 3) (.int .i64 1)) w fun v9 w =>
I1 [v9] w ∧ m1 [v9] w < m1 [f1 3] wh1)) (
R (.bool false) w)
def pl17 : Pl := (.seq .leaf (.seq (.seq .leaf (.block (.loop [3] [4, 5, 6, 7, 10, 11, 12, 13, 2, 8, 9, 3] (.seq (.seq .leaf (.cond .leaf .leaf)) (.seq (.block (.seq .leaf (.cond (.seq .leaf .leaf) .leaf))) .leaf))))) (.seq .leaf .leaf)))
theorem G17_ok {a0 : Value} {w : World} {R : Value → World → Prop} (h : G17 Tryz.prog a0 w R) : Calls Tryz.prog 17 #[a0] w fun e w' => ∃ v, e = .returned v ∧ R v w' :=
  sh_calls Tryz.mixed Tryz.func17 rfl pl17 (by kernel_rfl) (cast (by kernel_rfl) h)

/-- toolchest/toolchestlaw01.TreeSize -/
def G22 (P : Program) (a0 : Value) (w : World) (R : Value → World → Prop) : Prop :=
NX P (oBox 24 a0) w fun v1 w =>
NX P (oBin .leq 3 false true (.int .i64 1) (.int .i64 1048576)) w fun v5 w =>
IFB v5 (
NX P (oFieldAddr 24 v1 0) w fun v7 w =>
NX P (oLoad 22 v7) w fun v8 w =>
NX P (oCall (fnV 43) [v8]) w fun v9 w =>
NX P (oBin .add 3 false false (.int .i64 1) v9) w fun v10 w =>
R v10 w) (
R (.int .i64 1) w)
def pl22 : Pl := (.seq .leaf (.seq .leaf (.seq (.seq .leaf (.cond .leaf .leaf)) (.seq .leaf .leaf))))
theorem G22_ok {a0 : Value} {w : World} {R : Value → World → Prop} (h : G22 Tryz.prog a0 w R) : Calls Tryz.prog 22 #[a0] w fun e w' => ∃ v, e = .returned v ∧ R v w' :=
  sh_calls Tryz.mixed Tryz.func22 rfl pl22 (by kernel_rfl) (cast (by kernel_rfl) h)

/-- toolchest/toolchestlaw01.CallsSize -/
def G23 (P : Program) (a0 : Value) (w : World) (R : Value → World → Prop) : Prop :=
NX P (oBuiltin .len #[25] 3 [false] [a0]) w fun v6 w =>
∃ (I1 : List Value → World → Prop) (m1 : List Value → World → Nat), I1 [v6, (.int .i64 0)] w ∧ ∀ (f1 : Env) (wh1 : World), I1 [f1 3, f1 4] wh1 →
NX P (oBuiltin .len #[25] 3 [false] [a0]) wh1 fun v9 w =>
NX P (oBin .lss 3 false false (f1 4) v9) w fun v10 w =>
IFB v10 (
NX P (oBin .leq 3 false true (f1 3) (.int .i64 1048576)) w fun v13 w =>
IFB v13 (
NX P (oIndexAddr 25 a0 (f1 4)) w fun v20 w =>
NX P (oLoad 34 v20) w fun v21 w =>
NX P (oCall (fnV 44) [v21]) w fun v22 w =>
NX P (oBin .add 3 false false (f1 3) v22) w fun v23 w =>
NX P (oBin .add 3 false true (f1 4) (.int .i64 1)) w fun v16 w =>
I1 [v23, v16] w ∧ m1 [v23, v16] w < m1 [f1 3, f1 4] wh1) (
R (f1 3) w)) (
R (f1 3) w)
def pl23 : Pl := (.seq .leaf (.seq .leaf (.seq (.seq .leaf (.block (.loop [3, 4] [7, 8, 9, 10, 11, 12, 13, 14, 17, 18, 19, 20, 21, 22, 23, 3, 15, 16, 4] (.seq (.seq .leaf (.cond .leaf .leaf)) (.seq (.block .leaf) .leaf))))) (.seq .leaf .leaf))))
theorem G23_ok {a0 : Value} {w : World} {R : Value → World → Prop} (h : G23 Tryz.prog a0 w R) : Calls Tryz.prog 23 #[a0] w fun e w' => ∃ v, e = .returned v ∧ R v w' :=
  sh_calls Tryz.mixed Tryz.func23 rfl pl23 (by kernel_rfl) (cast (by kernel_rfl) h)

/-- toolchest/toolchestlaw01.NodesSize -/
def G43 (P : Program) (a0 : Value) (w : World) (R : Value → World → Prop) : Prop :=
NX P (oBuiltin .len #[22] 3 [false] [a0]) w fun v6 w =>
∃ (I1 : List Value → World → Prop) (m1 : List Value → World → Nat), I1 [v6, (.int .i64 0)] w ∧ ∀ (f1 : Env) (wh1 : World), I1 [f1 3, f1 4] wh1 →
NX P (oBuiltin .len #[22] 3 [false] [a0]) wh1 fun v9 w =>
NX P (oBin .lss 3 false false (f1 4) v9) w fun v10 w =>
IFB v10 (
NX P (oBin .leq 3 false true (f1 3) (.int .i64 1048576)) w fun v13 w =>
IFB v13 (
NX P (oIndexAddr 22 a0 (f1 4)) w fun v20 w =>
NX P (oLoad 44 v20) w fun v21 w =>
NX P (oCall (fnV 69) [v21]) w fun v22 w =>
NX P (oBin .add 3 false false (f1 3) v22) w fun v23 w =>
NX P (oBin .add 3 false true (f1 4) (.int .i64 1)) w fun v16 w =>
I1 [v23, v16] w ∧ m1 [v23, v16] w < m1 [f1 3, f1 4] wh1) (
R (f1 3) w)) (
R (f1 3) w)
def pl43 : Pl := (.seq .leaf (.seq .leaf (.seq (.seq .leaf (.block (.loop [3, 4] [7, 8, 9, 10, 11, 12, 13, 14, 17, 18, 19, 20, 21, 22, 23, 3, 15, 16, 4] (.seq (.seq .leaf (.cond .leaf .leaf)) (.seq (.block .leaf) .leaf))))) (.seq .leaf .leaf))))
theorem G43_ok {a0 : Value} {w : World} {R : Value → World → Prop} (h : G43 Tryz.prog a0 w R) : Calls Tryz.prog 43 #[a0] w fun e w' => ∃ v, e = .returned v ∧ R v w' :=
  sh_calls Tryz.mixed Tryz.func43 rfl pl43 (by kernel_rfl) (cast (by kernel_rfl) h)

/-- toolchest/toolchestlaw01.CallSize -/
def G44 (P : Program) (a0 : Value) (w : World) (R : Value → World → Prop) : Prop :=
NX P (oBox 34 a0) w fun v1 w =>
NX P (oFieldAddr 34 v1 1) w fun v4 w =>
NX P (oLoad 9 v4) w fun v5 w =>
NX P (oBuiltin .len #[9] 3 [false] [v5]) w fun v6 w =>
NX P (oBin .add 3 true false (.int .i64 1) v6) w fun v7 w =>
NX P (oFieldAddr 34 v1 2) w fun v8 w =>
NX P (oLoad 9 v8) w fun v9 w =>
NX P (oBuiltin .len #[9] 3 [false] [v9]) w fun v10 w =>
NX P (oBin .add 3 false false v7 v10) w fun v11 w =>
NX P (oBin .leq 3 false true v11 (.int .i64 1048576)) w fun v13 w =>
IFB v13 (
NX P (oFieldAddr 34 v1 7) w fun v15 w =>
NX P (oLoad 30 v15) w fun v16 w =>
NX P (oCall (fnV 70) [v16]) w fun v17 w =>
NX P (oBin .add 3 false false v11 v17) w fun v18 w =>
R v18 w) (
R v11 w)
def pl44 : Pl := (.seq .leaf (.seq .leaf (.seq (.seq .leaf (.cond .leaf .leaf)) (.seq .leaf .leaf))))
theorem G44_ok {a0 : Value} {w : World} {R : Value → World → Prop} (h : G44 Tryz.prog a0 w R) : Calls Tryz.prog 44 #[a0] w fun e w' => ∃ v, e = .returned v ∧ R v w' :=
  sh_calls Tryz.mixed Tryz.func44 rfl pl44 (by kernel_rfl) (cast (by kernel_rfl) h)

/-- toolchest/toolchestlaw01.NodeSize -/
def G69 (P : Program) (a0 : Value) (w : World) (R : Value → World → Prop) : Prop :=
NX P (oBox 44 a0) w fun v1 w =>
NX P (oFieldAddr 44 v1 7) w fun v4 w =>
NX P (oLoad 9 v4) w fun v5 w =>
NX P (oBuiltin .len #[9] 3 [false] [v5]) w fun v6 w =>
NX P (oBin .add 3 true false (.int .i64 1) v6) w fun v7 w =>
∃ J1 : List Value → World → Prop, (
NX P (oBin .leq 3 false true v7 (.int .i64 1048576)) w fun v9 w =>
IFB v9 (
NX P (oFieldAddr 44 v1 6) w fun v11 w =>
NX P (oLoad 30 v11) w fun v12 w =>
NX P (oCall (fnV 70) [v12]) w fun v13 w =>
NX P (oBin .add 3 false false v7 v13) w fun v14 w =>
J1 [v14] w) (
J1 [v7] w)) ∧ ∀ (f1 : Env) (w : World), J1 [f1 3] w →
NX P (oBin .leq 3 false true (f1 3) (.int .i64 1048576)) w fun v16 w =>
IFB v16 (
NX P (oFieldAddr 44 v1 8) w fun v18 w =>
NX P (oLoad 42 v18) w fun v19 w =>
NX P (oCall (fnV 93) [v19]) w fun v20 w =>
NX P (oBin .add 3 false false (f1 3) v20) w fun v21 w =>
R v21 w) (
R (f1 3) w)
def pl69 : Pl := (.seq .leaf (.seq .leaf (.join [3] [8, 9, 10, 11, 12, 13, 14, 3] (.seq .leaf (.cond .leaf .leaf)) (.seq (.seq .leaf (.cond .leaf .leaf)) (.seq .leaf .leaf)))))
theorem G69_ok {a0 : Value} {w : World} {R : Value → World → Prop} (h : G69 Tryz.prog a0 w R) : Calls Tryz.prog 69 #[a0] w fun e w' => ∃ v, e = .returned v ∧ R v w' :=
  sh_calls Tryz.mixed Tryz.func69 rfl pl69 (by kernel_rfl) (cast (by kernel_rfl) h)

/-- toolchest/toolchestlaw01.BytesSize -/
def G70 (P : Program) (a0 : Value) (w : World) (R : Value → World → Prop) : Prop :=
NX P (oBuiltin .len #[30] 3 [false] [a0]) w fun v4 w =>
R v4 w
def pl70 : Pl := (.seq .leaf (.seq .leaf .leaf))
theorem G70_ok {a0 : Value} {w : World} {R : Value → World → Prop} (h : G70 Tryz.prog a0 w R) : Calls Tryz.prog 70 #[a0] w fun e w' => ∃ v, e = .returned v ∧ R v w' :=
  sh_calls Tryz.mixed Tryz.func70 rfl pl70 (by kernel_rfl) (cast (by kernel_rfl) h)

/-- toolchest/toolchestlaw01.EntriesSize -/
def G93 (P : Program) (a0 : Value) (w : World) (R : Value → World → Prop) : Prop :=
NX P (oBuiltin .len #[42] 3 [false] [a0]) w fun v6 w =>
∃ (I1 : List Value → World → Prop) (m1 : List Value → World → Nat), I1 [v6, (.int .i64 0)] w ∧ ∀ (f1 : Env) (wh1 : World), I1 [f1 3, f1 4] wh1 →
NX P (oBuiltin .len #[42] 3 [false] [a0]) wh1 fun v9 w =>
NX P (oBin .lss 3 false false (f1 4) v9) w fun v10 w =>
IFB v10 (
NX P (oBin .leq 3 false true (f1 3) (.int .i64 1048576)) w fun v13 w =>
IFB v13 (
NX P (oIndexAddr 42 a0 (f1 4)) w fun v20 w =>
NX P (oFieldAddr 93 v20 0) w fun v21 w =>
NX P (oLoad 9 v21) w fun v22 w =>
NX P (oBuiltin .len #[9] 3 [false] [v22]) w fun v23 w =>
NX P (oBin .add 3 false false (f1 3) v23) w fun v24 w =>
NX P (oBin .add 3 false true (f1 4) (.int .i64 1)) w fun v16 w =>
I1 [v24, v16] w ∧ m1 [v24, v16] w < m1 [f1 3, f1 4] wh1) (
R (f1 3) w)) (
R (f1 3) w)
def pl93 : Pl := (.seq .leaf (.seq .leaf (.seq (.seq .leaf (.block (.loop [3, 4] [7, 8, 9, 10, 11, 12, 13, 14, 17, 18, 19, 20, 21, 22, 23, 24, 3, 15, 16, 4] (.seq (.seq .leaf (.cond .leaf .leaf)) (.seq (.block .leaf) .leaf))))) (.seq .leaf .leaf))))
theorem G93_ok {a0 : Value} {w : World} {R : Value → World → Prop} (h : G93 Tryz.prog a0 w R) : Calls Tryz.prog 93 #[a0] w fun e w' => ∃ v, e = .returned v ∧ R v w' :=
  sh_calls Tryz.mixed Tryz.func93 rfl pl93 (by kernel_rfl) (cast (by kernel_rfl) h)

/-- strings.Contains -/
def G35 (P : Program) (a0 a1 : Value) (w : World) (R : Value → World → Prop) : Prop :=
NX P (oCall (fnV 56) [a0, a1]) w fun v7 w =>
NX P (oBin .geq 3 false true v7 (.int .i64 0)) w fun v8 w =>
R v8 w
def pl35 : Pl := (.seq .leaf (.seq .leaf .leaf))
theorem G35_ok {a0 a1 : Value} {w : World} {R : Value → World → Prop} (h : G35 Tryz.prog a0 a1 w R) : Calls Tryz.prog 35 #[a0, a1] w fun e w' => ∃ v, e = .returned v ∧ R v w' :=
  sh_calls Tryz.mixed Tryz.func35 rfl pl35 (by kernel_rfl) (cast (by kernel_rfl) h)

/-- strings.HasSuffix -/
def G55 (P : Program) (a0 a1 : Value) (w : World) (R : Value → World → Prop) : Prop :=
NX P (oCall (fnV 76) [a0, a1]) w fun v7 w =>
R v7 w
def pl55 : Pl := (.seq .leaf (.seq .leaf .leaf))
theorem G55_ok {a0 a1 : Value} {w : World} {R : Value → World → Prop} (h : G55 Tryz.prog a0 a1 w R) : Calls Tryz.prog 55 #[a0, a1] w fun e w' => ∃ v, e = .returned v ∧ R v w' :=
  sh_calls Tryz.mixed Tryz.func55 rfl pl55 (by kernel_rfl) (cast (by kernel_rfl) h)

/-- strings.Index -/
def G56 (P : Program) (a0 a1 : Value) (w : World) (R : Value → World → Prop) : Prop :=
NX P (oCall (fnV 77) [a0, a1]) w fun v7 w =>
R v7 w
def pl56 : Pl := (.seq .leaf (.seq .leaf .leaf))
theorem G56_ok {a0 a1 : Value} {w : World} {R : Value → World → Prop} (h : G56 Tryz.prog a0 a1 w R) : Calls Tryz.prog 56 #[a0, a1] w fun e w' => ∃ v, e = .returned v ∧ R v w' :=
  sh_calls Tryz.mixed Tryz.func56 rfl pl56 (by kernel_rfl) (cast (by kernel_rfl) h)

/-- strings.ContainsAny -/
def G71 (P : Program) (a0 a1 : Value) (w : World) (R : Value → World → Prop) : Prop :=
NX P (oCall (fnV 94) [a0, a1]) w fun v7 w =>
NX P (oBin .geq 3 false true v7 (.int .i64 0)) w fun v8 w =>
R v8 w
def pl71 : Pl := (.seq .leaf (.seq .leaf .leaf))
theorem G71_ok {a0 a1 : Value} {w : World} {R : Value → World → Prop} (h : G71 Tryz.prog a0 a1 w R) : Calls Tryz.prog 71 #[a0, a1] w fun e w' => ∃ v, e = .returned v ∧ R v w' :=
  sh_calls Tryz.mixed Tryz.func71 rfl pl71 (by kernel_rfl) (cast (by kernel_rfl) h)

/-- strings.Compare -/
def G74 (P : Program) (a0 a1 : Value) (w : World) (R : Value → World → Prop) : Prop :=
NX P (oCall (fnV 95) [a0, a1]) w fun v7 w =>
R v7 w
def pl74 : Pl := (.seq .leaf (.seq .leaf .leaf))
theorem G74_ok {a0 a1 : Value} {w : World} {R : Value → World → Prop} (h : G74 Tryz.prog a0 a1 w R) : Calls Tryz.prog 74 #[a0, a1] w fun e w' => ∃ v, e = .returned v ∧ R v w' :=
  sh_calls Tryz.mixed Tryz.func74 rfl pl74 (by kernel_rfl) (cast (by kernel_rfl) h)

/-- internal/stringslite.HasSuffix -/
def G76 (P : Program) (a0 a1 : Value) (w : World) (R : Value → World → Prop) : Prop :=
NX P (oBuiltin .len #[9] 3 [false] [a0]) w fun v6 w =>
NX P (oBuiltin .len #[9] 3 [false] [a1]) w fun v8 w =>
NX P (oBin .geq 3 false false v6 v8) w fun v9 w =>
IFB v9 (
NX P (oBuiltin .len #[9] 3 [false] [a0]) w fun v13 w =>
NX P (oBuiltin .len #[9] 3 [false] [a1]) w fun v15 w =>
NX P (oBin .sub 3 false false v13 v15) w fun v16 w =>
NX P (oSlice 9 a0 (some v16) none none) w fun v17 w =>
NX P (oBin .eql 9 false false v17 a1) w fun v19 w =>
R v19 w) (
R (.bool false) w)
def pl76 : Pl := (.seq .leaf (.seq .leaf .leaf))
theorem G76_ok {a0 a1 : Value} {w : World} {R : Value → World → Prop} (h : G76 Tryz.prog a0 a1 w R) : Calls Tryz.prog 76 #[a0, a1] w fun e w' => ∃ v, e = .returned v ∧ R v w' :=
  sh_calls Tryz.mixed Tryz.func76 rfl pl76 (by kernel_rfl) (cast (by kernel_rfl) h)

/-- internal/bytealg.CompareString -/
def G95 (P : Program) (a0 a1 : Value) (w : World) (R : Value → World → Prop) : Prop :=
NX P (oCall (fnV 113) [a0, a1]) w fun v7 w =>
R v7 w
def pl95 : Pl := (.seq .leaf (.seq .leaf .leaf))
theorem G95_ok {a0 a1 : Value} {w : World} {R : Value → World → Prop} (h : G95 Tryz.prog a0 a1 w R) : Calls Tryz.prog 95 #[a0, a1] w fun e w' => ∃ v, e = .returned v ∧ R v w' :=
  sh_calls Tryz.mixed Tryz.func95 rfl pl95 (by kernel_rfl) (cast (by kernel_rfl) h)

end Go.Proofs.YthakeicmaeefiaaGreatDoor
