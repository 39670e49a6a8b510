/- Shallow readings of functions of the program, written by gen.py. -/
import Derived.Test.YthakeicmaeefiaaGreatDoorFc
set_option linter.unusedVariables false
set_option linter.unusedSimpArgs false
namespace Go.Proofs.YthakeicmaeefiaaGreatDoor
open Go Go.Sh Go.Proofs
set_option maxRecDepth 100000
/-- toolchest/calls.Do -/
def G11 (P : Program) (a0 a1 : Value) (w : World) (R : Value → World → Prop) : Prop :=
NX P (oBox 24 a0) w fun v2 w =>
NX P (oBox 34 a1) w fun v3 w =>
NX P (oAlloc 24) w fun v4 w =>
NX P (oLoad 24 v2) w fun v12 w =>
NX P (oFieldAddr 34 v3 8) w fun v13 w =>
NX P (oLoad 32 v13) w fun v14 w =>
NX P (oCall (fnV 30) [v12, v14]) w fun v15 w =>
NX P (oUn .not v15) w fun v16 w =>
IFB v16 (
NX P (oBuild 24 []) w fun v22 w =>
NX P (oStore 24 v4 v22) w fun _ w =>
LX P 24 v4 w fun r4 =>
R (.tuple #[r4, (.int .i64 1)]) w) (
NX P (oLoad 34 v3) w fun v18 w =>
NX P (oCall (fnV 31) [v18]) w fun v19 w =>
NX P (oUn .not v19) w fun v20 w =>
IFB v20 (
NX P (oBuild 24 []) w fun v22 w =>
NX P (oStore 24 v4 v22) w fun _ w =>
LX P 24 v4 w fun r4 =>
R (.tuple #[r4, (.int .i64 1)]) w) (
LX P 24 v2 w.drew fun v23 =>
LX P 34 v3 w.drew fun v25 =>
FX P (oFieldAddr 34 v3 8) fun v26 =>
LX P 32 v26 w.drew fun v27 =>
NX P (oCall (fnV 32) [v23]) w.drew fun v24 w =>
RD P w 32 v26 v27 ∧ (RD P w 34 v3 v25 ∧ (FX P (oBuild 82 [(0, v24), (1, v25), (2, v27)]) fun v28 =>
NX P (oBox 82 v28) w fun v29 w =>
RD P w 32 v26 v27 ∧ (RD P w 34 v3 v25 ∧ (∃ J1 : List Value → World → Prop, (
NX P (oFieldAddr 34 v3 0) w fun v30 w =>
NX P (oLoad 29 v30) w fun v31 w =>
NX P (oBin .eql 29 false true v31 (.int .u8 1)) w fun v32 w =>
IFB v32 (
J1 [(.bool true)] w) (
NX P (oFieldAddr 34 v3 0) w fun v34 w =>
NX P (oLoad 29 v34) w fun v35 w =>
NX P (oBin .eql 29 false true v35 (.int .u8 2)) w fun v36 w =>
IFB v36 (
J1 [(.bool true)] w) (
NX P (oFieldAddr 34 v3 0) w fun v39 w =>
NX P (oLoad 29 v39) w fun v40 w =>
NX P (oBin .geq 29 false true v40 (.int .u8 9)) w fun v41 w =>
J1 [v41] w))) ∧ ∀ (f1 : Env) (w : World), J1 [f1 7] w →
∃ J2 : List Value → World → Prop, (
∃ J3 : List Value → World → Prop, (
NX P (oFieldAddr 34 v3 0) w fun v43 w =>
NX P (oLoad 29 v43) w fun v44 w =>
NX P (oBin .neq 29 false true v44 (.int .u8 7)) w fun v45 w =>
IFB v45 (
NX P (oFieldAddr 34 v3 0) w fun v47 w =>
NX P (oLoad 29 v47) w fun v48 w =>
NX P (oBin .neq 29 false true v48 (.int .u8 12)) w fun v49 w =>
J3 [v49] w) (
J3 [(.bool false)] w)) ∧ ∀ (f3 : Env) (w : World), J3 [f3 50] w →
IFB (f3 50) (
FX P (oNil v29) fun v54 =>
FX P (oFieldAddr 82 v54 0) fun v55 =>
LX P 24 v55 w.drew fun v56 =>
FX P (oNil v29) fun v58 =>
FX P (oFieldAddr 82 v58 2) fun v59 =>
LX P 32 v59 w.drew fun v60 =>
FX P (oFieldAddr 34 v3 1) fun v61 =>
LX P 9 v61 w.drew fun v62 =>
NX P (oCall (fnV 33) [v56, v60, v62, (f1 7)]) w.drew fun v64 w =>
FX P (oExtract v64 0) fun v65 =>
FX P (oExtract v64 1) fun v66 =>
FX P (oNil v29) fun v67 =>
FX P (oFieldAddr 82 v67 3) fun v68 =>
NX P (oStore 80 v68 v65) w fun _ w =>
J2 [v66] w) (
J2 [(.int .i64 0)] w)) ∧ ∀ (f2 : Env) (w : World), J2 [f2 8] w →
∃ J4 : List Value → World → Prop, (
NX P (oFieldAddr 34 v3 0) w fun v70 w =>
NX P (oLoad 29 v70) w fun v71 w =>
NX P (oCall (fnV 34) [v71]) w fun v72 w =>
NX P (oExtract v72 0) w fun v73 w =>
NX P (oExtract v72 1) w fun v74 w =>
∃ J5 : List Value → World → Prop, (
NX P (oBin .eql 35 false true (f2 8) (.int .i64 0)) w fun v76 w =>
IFB v76 (
NX P (oCall (fnV 35) [v73, (.string { data := #[111] })]) w fun v79 w =>
J5 [v79] w) (
J5 [(.bool false)] w)) ∧ ∀ (f5 : Env) (w : World), J5 [f5 80] w →
IFB (f5 80) (
FX P (oNil v29) fun v84 =>
FX P (oFieldAddr 82 v84 0) fun v85 =>
LX P 24 v85 w.drew fun v86 =>
FX P (oNil v29) fun v88 =>
FX P (oFieldAddr 82 v88 2) fun v89 =>
LX P 32 v89 w.drew fun v90 =>
FX P (oFieldAddr 34 v3 2) fun v91 =>
LX P 9 v91 w.drew fun v92 =>
NX P (oCall (fnV 33) [v86, v90, v92, (.bool false)]) w.drew fun v93 w =>
FX P (oExtract v93 0) fun v94 =>
FX P (oExtract v93 1) fun v95 =>
FX P (oNil v29) fun v96 =>
FX P (oFieldAddr 82 v96 4) fun v97 =>
NX P (oStore 80 v97 v94) w fun _ w =>
J4 [v95] w) (
J4 [(f2 8)] w)) ∧ ∀ (f4 : Env) (w : World), J4 [f4 8] w →
∃ J6 : List Value → World → Prop, (
NX P (oBin .eql 35 false true (f4 8) (.int .i64 0)) w fun v99 w =>
IFB v99 (
FX P (oFieldAddr 34 v3 0) fun v102 =>
LX P 29 v102 w.drew fun v103 =>
NX P (oCall (fnV 36) [v29]) w.drew fun v101 w =>
RD P w 29 v102 v103 ∧ (FX P (oIndex 89 v101 v103) fun v104 =>
NX P (oCall v104 []) w fun v105 w =>
RD P w 29 v102 v103 ∧ (J6 [v105] w))) (
J6 [(f4 8)] w)) ∧ ∀ (f6 : Env) (w : World), J6 [f6 8] w →
NX P (oBin .neq 35 false true (f6 8) (.int .i64 0)) w fun v107 w =>
IFB v107 (
NX P (oBuild 24 []) w fun v108 w =>
NX P (oStore 24 v4 v108) w fun _ w =>
LX P 24 v4 w fun r4 =>
R (.tuple #[r4, (f6 8)]) w) (
NX P (oNil v29) w fun v111 w =>
NX P (oFieldAddr 82 v111 0) w fun v112 w =>
NX P (oFieldAddr 24 v112 0) w fun v113 w =>
NX P (oLoad 22 v113) w fun v114 w =>
NX P (oBuiltin .len #[22] 3 [false] [v114]) w fun v115 w =>
∃ (I7 : List Value → World → Prop) (m7 : List Value → World → Nat), I7 [(.int .i64 0)] w ∧ ∀ (f7 : Env) (wh7 : World), I7 [f7 116] wh7 →
NX P (oBin .lss 3 false false (f7 116) v115) wh7 fun v117 w =>
IFB v117 (
FX P (oNil v29) fun v120 =>
FX P (oFieldAddr 82 v120 0) fun v121 =>
FX P (oFieldAddr 24 v121 0) fun v122 =>
LX P 22 v122 w.drew fun v123 =>
FX P (oNil v29) fun v126 =>
FX P (oFieldAddr 82 v126 0) fun v127 =>
FX P (oFieldAddr 24 v127 0) fun v128 =>
LX P 22 v128 w.drew fun v129 =>
FX P (oIndexAddr 22 v129 (f7 116)) fun v131 =>
FX P (oFieldAddr 44 v131 8) fun v132 =>
LX P 42 v132 w.drew fun v133 =>
NX P (oCall (fnV 37) [v133]) w.drew fun v134 w =>
RD P w 22 v128 v129 ∧ (RD P w 22 v122 v123 ∧ (FX P (oIndexAddr 22 v123 (f7 116)) fun v135 =>
FX P (oFieldAddr 44 v135 8) fun v136 =>
NX P (oStore 42 v136 v134) w fun _ w =>
NX P (oBin .add 3 false true (f7 116) (.int .i64 1)) w fun v137 w =>
I7 [v137] w ∧ m7 [v137] w < m7 [f7 116] wh7))) (
NX P (oNil v29) w fun v140 w =>
NX P (oFieldAddr 82 v140 0) w fun v141 w =>
NX P (oFieldAddr 24 v141 0) w fun v142 w =>
NX P (oLoad 22 v142) w fun v143 w =>
NX P (oCall (fnV 38) [v143]) w fun v144 w =>
NX P (oNil v29) w fun v145 w =>
NX P (oFieldAddr 82 v145 0) w fun v146 w =>
NX P (oFieldAddr 24 v146 0) w fun v147 w =>
NX P (oStore 22 v147 v144) w fun _ w =>
NX P (oNil v29) w fun v149 w =>
NX P (oFieldAddr 82 v149 0) w fun v150 w =>
NX P (oLoad 24 v150) w fun v151 w =>
NX P (oStore 24 v4 v151) w fun _ w =>
LX P 24 v4 w fun r4 =>
R (.tuple #[r4, (.int .i64 0)]) w))))))))
def pl11 : Pl := (.seq .leaf (.seq (.seq .leaf (.cond (.seq .leaf .leaf) .leaf)) (.seq (.draw (.take 0 (.take 2 (.take 3 (.take 4 (.one 1 (.take 5 (.one 6 (.take 7 .fin))))))))) (.join [7] [30, 31, 32, 33, 34, 35, 36, 37, 38, 39, 40, 41, 42, 7] .leaf (.seq .leaf (.join [8] [43, 44, 45, 46, 47, 48, 49, 50, 52, 53, 54, 55, 56, 57, 58, 59, 60, 61, 62, 63, 64, 51, 65, 66, 67, 68, 8] (.join [50] [43, 44, 45, 46, 47, 48, 49, 50] .leaf (.cond (.draw (.take 0 (.take 1 (.take 2 (.take 3 (.take 4 (.take 5 (.take 6 (.take 7 (.take 8 (.take 9 (.take 10 (.take 11 (.one 12 (.take 13 (.take 14 (.take 15 (.take 16 (.take 17 (.one 18 (.take 19 .fin))))))))))))))))))))) .leaf)) (.join [8] [70, 71, 72, 69, 73, 74, 9, 10, 75, 76, 77, 78, 79, 80, 82, 83, 84, 85, 86, 87, 88, 89, 90, 91, 92, 93, 81, 94, 95, 96, 97, 8] (.seq .leaf (.join [80] [75, 76, 77, 78, 79, 80] .leaf (.cond (.draw (.take 0 (.take 1 (.take 2 (.take 3 (.take 4 (.take 5 (.take 6 (.take 7 (.take 8 (.take 9 (.take 10 (.one 11 (.take 12 (.take 13 (.take 14 (.take 15 (.take 16 (.one 17 (.take 18 .fin)))))))))))))))))))) .leaf))) (.join [8] [98, 99, 100, 101, 102, 103, 104, 105, 8] (.seq .leaf (.cond (.draw (.take 0 (.take 2 (.take 3 (.one 1 (.take 4 (.one 5 (.take 6 .fin)))))))) .leaf)) (.seq (.seq .leaf (.cond (.seq .leaf .leaf) .leaf)) (.seq (.seq .leaf (.block (.loop [116] [117, 118, 11, 119, 120, 121, 122, 123, 124, 125, 126, 127, 128, 129, 130, 131, 132, 133, 134, 135, 136, 137, 116] (.seq .leaf (.seq (.cond .leaf .leaf) (.seq (.block (.seq .leaf (.draw (.take 0 (.take 1 (.take 2 (.take 3 (.take 4 (.take 5 (.take 6 (.take 7 (.take 8 (.take 9 (.take 10 (.take 11 (.take 12 (.take 13 (.take 14 (.one 15 (.take 16 (.take 17 (.one 18 .fin)))))))))))))))))))))) .leaf)))))) (.seq .leaf (.seq .leaf .leaf))))))))))))
theorem G11_ok {a0 a1 : Value} {w : World} {R : Value → World → Prop} (h : G11 Tryz.prog a0 a1 w R) : Calls Tryz.prog 11 #[a0, a1] w fun e w' => ∃ v, e = .returned v ∧ R v w' :=
  sh_calls Tryz.mixed Tryz.func11 rfl pl11 (by kernel_rfl) (cast (by kernel_rfl) h)

/-- toolchest/calls.Read -/
def G12 (P : Program) (a0 a1 a2 : Value) (w : World) (R : Value → World → Prop) : Prop :=
NX P (oBox 24 a0) w fun v3 w =>
NX P (oBox 32 a1) w fun v4 w =>
NX P (oLoad 24 v3) w fun v12 w =>
NX P (oLoad 32 v4) w fun v13 w =>
NX P (oCall (fnV 39) [v12, v13, a2, (.bool true)]) w fun v15 w =>
NX P (oExtract v15 0) w fun v16 w =>
NX P (oExtract v15 1) w fun v17 w =>
NX P (oExtract v15 2) w fun v18 w =>
NX P (oAlloc 44) w fun v8 w =>
NX P (oStore 44 v8 v16) w fun _ w =>
NX P (oBin .neq 35 false true v18 (.int .i64 0)) w fun v21 w =>
IFB v21 (
R (.tuple #[(.slice none 0 0), v18]) w) (
NX P (oFieldAddr 44 v8 0) w fun v24 w =>
NX P (oLoad 41 v24) w fun v25 w =>
NX P (oBin .eql 41 false true v25 (.int .u8 2)) w fun v26 w =>
IFB v26 (
R (.tuple #[(.slice none 0 0), (.int .i64 8)]) w) (
NX P (oLoad 44 v8) w fun v28 w =>
NX P (oLoad 32 v4) w fun v29 w =>
NX P (oCall (fnV 14) [v28, v29, (.int .i64 4)]) w fun v30 w =>
NX P (oUn .not v30) w fun v31 w =>
IFB v31 (
R (.tuple #[(.slice none 0 0), (.int .i64 10)]) w) (
NX P (oFieldAddr 44 v8 6) w fun v32 w =>
NX P (oLoad 30 v32) w fun v33 w =>
NX P (oCall (fnV 41) [v33]) w fun v34 w =>
NX P (oCall (fnV 40) [v34]) w fun v35 w =>
R (.tuple #[v35, (.int .i64 0)]) w)))
def pl12 : Pl := (.seq .leaf (.seq .leaf (.seq (.block (.seq .leaf (.cond (.seq .leaf .leaf) (.seq .leaf (.cond (.seq .leaf .leaf) (.seq .leaf (.cond (.seq .leaf .leaf) .leaf))))))) (.seq .leaf .leaf))))
theorem G12_ok {a0 a1 a2 : Value} {w : World} {R : Value → World → Prop} (h : G12 Tryz.prog a0 a1 a2 w R) : Calls Tryz.prog 12 #[a0, a1, a2] w fun e w' => ∃ v, e = .returned v ∧ R v w' :=
  sh_calls Tryz.mixed Tryz.func12 rfl pl12 (by kernel_rfl) (cast (by kernel_rfl) h)

/-- toolchest/calls.Stat -/
def G18 (P : Program) (a0 a1 a2 a3 : Value) (w : World) (R : Value → World → Prop) : Prop :=
NX P (oBox 24 a0) w fun v4 w =>
NX P (oBox 32 a1) w fun v5 w =>
NX P (oAlloc 52) w fun v8 w =>
NX P (oLoad 24 v4) w fun v14 w =>
NX P (oLoad 32 v5) w fun v15 w =>
NX P (oCall (fnV 39) [v14, v15, a2, a3]) w fun v18 w =>
NX P (oExtract v18 0) w fun v19 w =>
NX P (oExtract v18 1) w fun v20 w =>
NX P (oExtract v18 2) w fun v21 w =>
NX P (oAlloc 44) w fun v10 w =>
NX P (oStore 44 v10 v19) w fun _ w =>
NX P (oBin .neq 35 false true v21 (.int .i64 0)) w fun v23 w =>
IFB v23 (
NX P (oBuild 52 []) w fun v24 w =>
NX P (oStore 52 v8 v24) w fun _ w =>
LX P 52 v8 w fun r8 =>
R (.tuple #[r8, v21]) w) (
NX P (oLoad 24 v4) w fun v26 w =>
NX P (oCall (fnV 42) [v26, v20]) w fun v28 w =>
NX P (oStore 52 v8 v28) w fun _ w =>
LX P 52 v8 w fun r8 =>
R (.tuple #[r8, (.int .i64 0)]) w)
def pl18 : Pl := (.seq .leaf (.seq .leaf (.seq (.seq .leaf (.cond (.seq .leaf .leaf) .leaf)) (.seq .leaf .leaf))))
theorem G18_ok {a0 a1 a2 a3 : Value} {w : World} {R : Value → World → Prop} (h : G18 Tryz.prog a0 a1 a2 a3 w R) : Calls Tryz.prog 18 #[a0, a1, a2, a3] w fun e w' => ∃ v, e = .returned v ∧ R v w' :=
  sh_calls Tryz.mixed Tryz.func18 rfl pl18 (by kernel_rfl) (cast (by kernel_rfl) h)

/-- toolchest/calls.Word -/
def G19 (P : Program) (a0 : Value) (w : World) (R : Value → World → Prop) : Prop :=
NX P (oBuild 99 [(1, (.string { data := #[105, 110, 118, 97, 108, 105, 100, 32, 97, 114, 103, 117, 109, 101, 110, 116] })), (3, (.string { data := #[116, 111, 111, 32, 100, 101, 101, 112] })), (6, (.string { data := #[110, 111, 32, 115, 117, 99, 104, 32, 102, 105, 108, 101, 32, 111, 114, 32, 100, 105, 114, 101, 99, 116, 111, 114, 121] })), (7, (.string { data := #[102, 105, 108, 101, 32, 101, 120, 105, 115, 116, 115] })), (8, (.string { data := #[105, 115, 32, 97, 32, 100, 105, 114, 101, 99, 116, 111, 114, 121] })), (9, (.string { data := #[110, 111, 116, 32, 97, 32, 100, 105, 114, 101, 99, 116, 111, 114, 121] })), (10, (.string { data := #[112, 101, 114, 109, 105, 115, 115, 105, 111, 110, 32, 100, 101, 110, 105, 101, 100] })), (11, (.string { data := #[110, 111, 32, 115, 112, 97, 99, 101, 32, 108, 101, 102, 116] })), (12, (.string { data := #[116, 111, 111, 32, 109, 97, 110, 121, 32, 108, 105, 110, 107, 115] })), (13, (.string { data := #[110, 97, 109, 101, 32, 116, 111, 111, 32, 108, 111, 110, 103] })), (14, (.string { data := #[100, 105, 114, 101, 99, 116, 111, 114, 121, 32, 110, 111, 116, 32, 101, 109, 112, 116, 121] })), (15, (.string { data := #[100, 105, 114, 101, 99, 116, 111, 114, 121, 32, 105, 110, 116, 111, 32, 105, 116, 115, 101, 108, 102] })), (17, (.string { data := #[102, 105, 108, 101, 32, 116, 111, 111, 32, 108, 97, 114, 103, 101] }))]) w fun v4 w =>
NX P (oAlloc 99) w fun v3 w =>
NX P (oStore 99 v3 v4) w fun _ w =>
NX P (oBin .lss 35 false true a0 (.int .i64 0)) w fun v6 w =>
IFB v6 (
R (.string { data := #[101, 114, 114, 111, 114] }) w) (
NX P (oBin .geq 3 false true a0 (.int .i64 18)) w fun v9 w =>
IFB v9 (
R (.string { data := #[101, 114, 114, 111, 114] }) w) (
NX P (oIndexAddr 99 v3 a0) w fun v13 w =>
NX P (oLoad 9 v13) w fun v14 w =>
NX P (oBin .eql 9 false true v14 (.string { data := #[] })) w fun v15 w =>
IFB v15 (
R (.string { data := #[101, 114, 114, 111, 114] }) w) (
NX P (oIndexAddr 99 v3 a0) w fun v18 w =>
NX P (oLoad 9 v18) w fun v19 w =>
R v19 w)))
def pl19 : Pl := (.seq .leaf (.seq .leaf (.seq (.seq .leaf (.cond (.seq .leaf .leaf) .leaf)) (.seq .leaf .leaf))))
theorem G19_ok {a0 : Value} {w : World} {R : Value → World → Prop} (h : G19 Tryz.prog a0 w R) : Calls Tryz.prog 19 #[a0] w fun e w' => ∃ v, e = .returned v ∧ R v w' :=
  sh_calls Tryz.mixed Tryz.func19 rfl pl19 (by kernel_rfl) (cast (by kernel_rfl) h)

/-- toolchest/toolchestref15.Word -/
def G20 (P : Program) (a0 : Value) (w : World) (R : Value → World → Prop) : Prop :=
NX P (oBin .eql 35 false true a0 (.int .i64 1)) w fun v5 w =>
IFB v5 (
R (.string { data := #[105, 110, 118, 97, 108, 105, 100, 32, 97, 114, 103, 117, 109, 101, 110, 116] }) w) (
NX P (oBin .eql 35 false true a0 (.int .i64 3)) w fun v7 w =>
IFB v7 (
R (.string { data := #[116, 111, 111, 32, 100, 101, 101, 112] }) w) (
NX P (oBin .eql 35 false true a0 (.int .i64 6)) w fun v9 w =>
IFB v9 (
R (.string { data := #[110, 111, 32, 115, 117, 99, 104, 32, 102, 105, 108, 101, 32, 111, 114, 32, 100, 105, 114, 101, 99, 116, 111, 114, 121] }) w) (
NX P (oBin .eql 35 false true a0 (.int .i64 7)) w fun v11 w =>
IFB v11 (
R (.string { data := #[102, 105, 108, 101, 32, 101, 120, 105, 115, 116, 115] }) w) (
NX P (oBin .eql 35 false true a0 (.int .i64 8)) w fun v13 w =>
IFB v13 (
R (.string { data := #[105, 115, 32, 97, 32, 100, 105, 114, 101, 99, 116, 111, 114, 121] }) w) (
NX P (oBin .eql 35 false true a0 (.int .i64 9)) w fun v15 w =>
IFB v15 (
R (.string { data := #[110, 111, 116, 32, 97, 32, 100, 105, 114, 101, 99, 116, 111, 114, 121] }) w) (
NX P (oBin .eql 35 false true a0 (.int .i64 10)) w fun v17 w =>
IFB v17 (
R (.string { data := #[112, 101, 114, 109, 105, 115, 115, 105, 111, 110, 32, 100, 101, 110, 105, 101, 100] }) w) (
NX P (oBin .eql 35 false true a0 (.int .i64 11)) w fun v19 w =>
IFB v19 (
R (.string { data := #[110, 111, 32, 115, 112, 97, 99, 101, 32, 108, 101, 102, 116] }) w) (
NX P (oBin .eql 35 false true a0 (.int .i64 12)) w fun v21 w =>
IFB v21 (
R (.string { data := #[116, 111, 111, 32, 109, 97, 110, 121, 32, 108, 105, 110, 107, 115] }) w) (
NX P (oBin .eql 35 false true a0 (.int .i64 13)) w fun v23 w =>
IFB v23 (
R (.string { data := #[110, 97, 109, 101, 32, 116, 111, 111, 32, 108, 111, 110, 103] }) w) (
NX P (oBin .eql 35 false true a0 (.int .i64 14)) w fun v25 w =>
IFB v25 (
R (.string { data := #[100, 105, 114, 101, 99, 116, 111, 114, 121, 32, 110, 111, 116, 32, 101, 109, 112, 116, 121] }) w) (
NX P (oBin .eql 35 false true a0 (.int .i64 15)) w fun v27 w =>
IFB v27 (
R (.string { data := #[100, 105, 114, 101, 99, 116, 111, 114, 121, 32, 105, 110, 116, 111, 32, 105, 116, 115, 101, 108, 102] }) w) (
NX P (oBin .eql 35 false true a0 (.int .i64 17)) w fun v29 w =>
IFB v29 (
R (.string { data := #[102, 105, 108, 101, 32, 116, 111, 111, 32, 108, 97, 114, 103, 101] }) w) (
R (.string { data := #[101, 114, 114, 111, 114] }) w)))))))))))))
def pl20 : Pl := (.seq .leaf (.seq (.seq .leaf (.block (.seq .leaf (.cond (.seq .leaf .leaf) (.seq .leaf (.cond (.seq .leaf .leaf) (.seq .leaf (.cond (.seq .leaf .leaf) (.seq .leaf (.cond (.seq .leaf .leaf) (.seq .leaf (.cond (.seq .leaf .leaf) (.seq .leaf (.cond (.seq .leaf .leaf) (.seq .leaf (.cond (.seq .leaf .leaf) (.seq .leaf (.cond (.seq .leaf .leaf) (.seq .leaf (.cond (.seq .leaf .leaf) (.seq .leaf (.cond (.seq .leaf .leaf) (.seq .leaf (.cond (.seq .leaf .leaf) (.seq .leaf (.cond (.seq .leaf .leaf) (.seq .leaf (.cond (.seq .leaf .leaf) .leaf)))))))))))))))))))))))))))) (.seq .leaf .leaf)))
theorem G20_ok {a0 : Value} {w : World} {R : Value → World → Prop} (h : G20 Tryz.prog a0 w R) : Calls Tryz.prog 20 #[a0] w fun e w' => ∃ v, e = .returned v ∧ R v w' :=
  sh_calls Tryz.mixed Tryz.func20 rfl pl20 (by kernel_rfl) (cast (by kernel_rfl) h)

/-- toolchest/calls.may -/
def G31 (P : Program) (a0 : Value) (w : World) (R : Value → World → Prop) : Prop :=
NX P (oBox 34 a0) w fun v1 w =>
NX P (oFieldAddr 34 v1 0) w fun v8 w =>
NX P (oLoad 29 v8) w fun v9 w =>
NX P (oCall (fnV 34) [v9]) w fun v10 w =>
NX P (oExtract v10 0) w fun v11 w =>
NX P (oExtract v10 1) w fun v12 w =>
NX P (oAlloc 9) w fun v3 w =>
NX P (oStore 9 v3 v11) w fun _ w =>
NX P (oFunc (.func 51) [] [v3]) w fun v13 w =>
∃ J1 : List Value → World → Prop, (
NX P (oFieldAddr 34 v1 0) w fun v14 w =>
NX P (oLoad 29 v14) w fun v15 w =>
NX P (oBin .eql 29 false true v15 (.int .u8 11)) w fun v16 w =>
IFB v16 (
J1 [(.int .i64 (-1))] w) (
J1 [(.int .i64 0)] w)) ∧ ∀ (f1 : Env) (w : World), J1 [f1 6] w →
IFB v12 (
NX P (oFieldAddr 34 v1 1) w fun v20 w =>
NX P (oLoad 9 v20) w fun v21 w =>
NX P (oBin .neq 9 false true v21 (.string { data := #[] })) w fun v22 w =>
NX P (oCall v13 [(.string { data := #[112] }), v22]) w fun v23 w =>
IFB v23 (
NX P (oFieldAddr 34 v1 2) w fun v27 w =>
NX P (oLoad 9 v27) w fun v28 w =>
NX P (oBin .neq 9 false true v28 (.string { data := #[] })) w fun v29 w =>
NX P (oCall v13 [(.string { data := #[111] }), v29]) w fun v30 w =>
IFB v30 (
NX P (oFieldAddr 34 v1 3) w fun v34 w =>
NX P (oLoad 3 v34) w fun v35 w =>
NX P (oBin .neq 3 false true v35 (.int .i64 0)) w fun v36 w =>
NX P (oCall v13 [(.string { data := #[109] }), v36]) w fun v37 w =>
IFB v37 (
NX P (oFieldAddr 34 v1 4) w fun v41 w =>
NX P (oLoad 3 v41) w fun v42 w =>
NX P (oBin .neq 3 false true v42 (.int .i64 0)) w fun v43 w =>
IFB v43 (
NX P (oCall v13 [(.string { data := #[117] }), (.bool true)]) w fun v49 w =>
IFB v49 (
NX P (oFieldAddr 34 v1 6) w fun v53 w =>
NX P (oLoad 3 v53) w fun v54 w =>
NX P (oBin .neq 3 false true v54 (.int .i64 0)) w fun v55 w =>
NX P (oCall v13 [(.string { data := #[116] }), v55]) w fun v56 w =>
IFB v56 (
NX P (oFieldAddr 34 v1 7) w fun v60 w =>
NX P (oLoad 30 v60) w fun v61 w =>
NX P (oBuiltin .len #[30] 3 [false] [v61]) w fun v62 w =>
NX P (oBin .gtr 3 false true v62 (.int .i64 0)) w fun v63 w =>
NX P (oCall v13 [(.string { data := #[100] }), v63]) w fun v64 w =>
IFB v64 (
NX P (oFieldAddr 34 v1 3) w fun v67 w =>
NX P (oLoad 3 v67) w fun v68 w =>
NX P (oBin .geq 3 false true v68 (.int .i64 0)) w fun v69 w =>
IFB v69 (
NX P (oFieldAddr 34 v1 3) w fun v72 w =>
NX P (oLoad 3 v72) w fun v73 w =>
NX P (oBin .leq 3 false true v73 (.int .i64 511)) w fun v74 w =>
IFB v74 (
NX P (oFieldAddr 34 v1 4) w fun v77 w =>
NX P (oLoad 3 v77) w fun v78 w =>
NX P (oFieldAddr 34 v1 5) w fun v79 w =>
NX P (oLoad 3 v79) w fun v80 w =>
NX P (oBuiltin .min #[3, 3] 3 [false, false] [v78, v80]) w fun v81 w =>
NX P (oBin .geq 3 false true v81 (.int .i64 (-1))) w fun v82 w =>
IFB v82 (
NX P (oFieldAddr 34 v1 4) w fun v85 w =>
NX P (oLoad 3 v85) w fun v86 w =>
NX P (oFieldAddr 34 v1 5) w fun v87 w =>
NX P (oLoad 3 v87) w fun v88 w =>
NX P (oBuiltin .max #[3, 3] 3 [false, false] [v86, v88]) w fun v89 w =>
NX P (oBin .leq 3 false true v89 (.int .i64 65535)) w fun v90 w =>
IFB v90 (
NX P (oFieldAddr 34 v1 6) w fun v93 w =>
NX P (oLoad 3 v93) w fun v94 w =>
NX P (oBin .geq 3 false false v94 (f1 6)) w fun v96 w =>
IFB v96 (
NX P (oFieldAddr 34 v1 6) w fun v99 w =>
NX P (oLoad 3 v99) w fun v100 w =>
NX P (oBin .leq 3 false true v100 (.int .i64 1099511627775)) w fun v101 w =>
R v101 w) (
R (.bool false) w)) (
R (.bool false) w)) (
R (.bool false) w)) (
R (.bool false) w)) (
R (.bool false) w)) (
R (.bool false) w)) (
R (.bool false) w)) (
R (.bool false) w)) (
NX P (oFieldAddr 34 v1 5) w fun v45 w =>
NX P (oLoad 3 v45) w fun v46 w =>
NX P (oBin .neq 3 false true v46 (.int .i64 0)) w fun v47 w =>
NX P (oCall v13 [(.string { data := #[117] }), v47]) w fun v49 w =>
IFB v49 (
NX P (oFieldAddr 34 v1 6) w fun v53 w =>
NX P (oLoad 3 v53) w fun v54 w =>
NX P (oBin .neq 3 false true v54 (.int .i64 0)) w fun v55 w =>
NX P (oCall v13 [(.string { data := #[116] }), v55]) w fun v56 w =>
IFB v56 (
NX P (oFieldAddr 34 v1 7) w fun v60 w =>
NX P (oLoad 30 v60) w fun v61 w =>
NX P (oBuiltin .len #[30] 3 [false] [v61]) w fun v62 w =>
NX P (oBin .gtr 3 false true v62 (.int .i64 0)) w fun v63 w =>
NX P (oCall v13 [(.string { data := #[100] }), v63]) w fun v64 w =>
IFB v64 (
NX P (oFieldAddr 34 v1 3) w fun v67 w =>
NX P (oLoad 3 v67) w fun v68 w =>
NX P (oBin .geq 3 false true v68 (.int .i64 0)) w fun v69 w =>
IFB v69 (
NX P (oFieldAddr 34 v1 3) w fun v72 w =>
NX P (oLoad 3 v72) w fun v73 w =>
NX P (oBin .leq 3 false true v73 (.int .i64 511)) w fun v74 w =>
IFB v74 (
NX P (oFieldAddr 34 v1 4) w fun v77 w =>
NX P (oLoad 3 v77) w fun v78 w =>
NX P (oFieldAddr 34 v1 5) w fun v79 w =>
NX P (oLoad 3 v79) w fun v80 w =>
NX P (oBuiltin .min #[3, 3] 3 [false, false] [v78, v80]) w fun v81 w =>
NX P (oBin .geq 3 false true v81 (.int .i64 (-1))) w fun v82 w =>
IFB v82 (
NX P (oFieldAddr 34 v1 4) w fun v85 w =>
NX P (oLoad 3 v85) w fun v86 w =>
NX P (oFieldAddr 34 v1 5) w fun v87 w =>
NX P (oLoad 3 v87) w fun v88 w =>
NX P (oBuiltin .max #[3, 3] 3 [false, false] [v86, v88]) w fun v89 w =>
NX P (oBin .leq 3 false true v89 (.int .i64 65535)) w fun v90 w =>
IFB v90 (
NX P (oFieldAddr 34 v1 6) w fun v93 w =>
NX P (oLoad 3 v93) w fun v94 w =>
NX P (oBin .geq 3 false false v94 (f1 6)) w fun v96 w =>
IFB v96 (
NX P (oFieldAddr 34 v1 6) w fun v99 w =>
NX P (oLoad 3 v99) w fun v100 w =>
NX P (oBin .leq 3 false true v100 (.int .i64 1099511627775)) w fun v101 w =>
R v101 w) (
R (.bool false) w)) (
R (.bool false) w)) (
R (.bool false) w)) (
R (.bool false) w)) (
R (.bool false) w)) (
R (.bool false) w)) (
R (.bool false) w)) (
R (.bool false) w))) (
R (.bool false) w)) (
R (.bool false) w)) (
R (.bool false) w)) (
R (.bool false) w)
def pl31 : Pl := (.seq .leaf (.seq .leaf (.seq .leaf (.seq .leaf (.join [6] [14, 15, 16, 6] (.seq .leaf (.cond .leaf .leaf)) (.seq .leaf .leaf))))))
theorem G31_ok {a0 : Value} {w : World} {R : Value → World → Prop} (h : G31 Tryz.prog a0 w R) : Calls Tryz.prog 31 #[a0] w fun e w' => ∃ v, e = .returned v ∧ R v w' :=
  sh_calls Tryz.mixed Tryz.func31 rfl pl31 (by kernel_rfl) (cast (by kernel_rfl) h)

/-- toolchest/calls.Twin -/
def G32 (P : Program) (a0 : Value) (w : World) (R : Value → World → Prop) : Prop :=
NX P (oBox 24 a0) w fun v1 w =>
NX P (oAlloc 24) w fun v2 w =>
NX P (oFieldAddr 24 v1 0) w fun v5 w =>
NX P (oLoad 22 v5) w fun v6 w =>
NX P (oBuiltin .len #[22] 3 [false] [v6]) w fun v7 w =>
NX P (oMakeSlice 22 v7 v7) w fun v8 w =>
NX P (oFieldAddr 24 v1 0) w fun v10 w =>
NX P (oLoad 22 v10) w fun v11 w =>
NX P (oBuiltin .copy #[22, 22] 3 [false, false] [v8, v11]) w fun v12 w =>
NX P (oBuiltin .len #[22] 3 [false] [v8]) w fun v14 w =>
∃ (I1 : List Value → World → Prop) (m1 : List Value → World → Nat), I1 [(.int .i64 0)] w ∧ ∀ (f1 : Env) (wh1 : World), I1 [f1 15] wh1 →
NX P (oBin .lss 3 false false (f1 15) v14) wh1 fun v16 w =>
IFB v16 (
FX P (oIndexAddr 22 v8 (f1 15)) fun v24 =>
FX P (oFieldAddr 44 v24 6) fun v25 =>
LX P 30 v25 w.drew fun v26 =>
FX P (oIndexAddr 22 v8 (f1 15)) fun v31 =>
FX P (oFieldAddr 44 v31 8) fun v32 =>
LX P 42 v32 w.drew fun v33 =>
NX P (oCall (fnV 41) [v26]) w.drew fun v27 w =>
RD P w 42 v32 v33 ∧ (NX P (oCall (fnV 40) [v27]) w fun v28 w =>
RD P w 42 v32 v33 ∧ (NX P (oCall (fnV 52) [v33]) w fun v34 w =>
NX P (oCall (fnV 37) [v34]) w fun v35 w =>
FX P (oIndexAddr 22 v8 (f1 15)) fun v36 =>
FX P (oFieldAddr 44 v36 6) fun v37 =>
NX P (oStore 30 v37 v28) w fun _ w =>
FX P (oIndexAddr 22 v8 (f1 15)) fun v38 =>
FX P (oFieldAddr 44 v38 8) fun v39 =>
NX P (oStore 42 v39 v35) w fun _ w =>
NX P (oBin .add 3 false true (f1 15) (.int .i64 1)) w fun v40 w =>
I1 [v40] w ∧ m1 [v40] w < m1 [f1 15] wh1))) (
NX P (oFieldAddr 24 v1 1) w fun v42 w =>
NX P (oLoad 3 v42) w fun v43 w =>
NX P (oBuild 24 [(0, v8), (1, v43)]) w fun v44 w =>
NX P (oStore 24 v2 v44) w fun _ w =>
LX P 24 v2 w fun r2 =>
R r2 w)
def pl32 : Pl := (.seq .leaf (.seq .leaf (.seq .leaf (.seq (.seq .leaf (.block (.loop [15] [16, 17, 4, 18, 19, 20, 21, 22, 23, 24, 25, 26, 27, 28, 29, 30, 31, 32, 33, 34, 35, 36, 37, 38, 39, 40, 15] (.seq .leaf (.seq (.cond .leaf .leaf) (.seq (.block (.seq .leaf (.draw (.take 0 (.take 1 (.take 2 (.take 3 (.take 4 (.take 5 (.take 6 (.take 7 (.take 8 (.take 11 (.take 12 (.take 13 (.take 14 (.take 15 (.one 9 (.one 10 (.one 16 (.one 17 (.take 18 (.take 19 (.one 20 (.take 21 (.take 22 (.one 23 .fin))))))))))))))))))))))))))) .leaf)))))) (.seq .leaf .leaf)))))
theorem G32_ok {a0 : Value} {w : World} {R : Value → World → Prop} (h : G32 Tryz.prog a0 w R) : Calls Tryz.prog 32 #[a0] w fun e w' => ∃ v, e = .returned v ∧ R v w' :=
  sh_calls Tryz.mixed Tryz.func32 rfl pl32 (by kernel_rfl) (cast (by kernel_rfl) h)

/-- toolchest/calls.shape -/
def G34 (P : Program) (a0 : Value) (w : World) (R : Value → World → Prop) : Prop :=
NX P (oBuild 108 [(0, (.string { data := #[] })), (1, (.string { data := #[112, 109, 100] })), (2, (.string { data := #[112, 109, 100] })), (3, (.string { data := #[112, 109] })), (4, (.string { data := #[112] })), (5, (.string { data := #[112] })), (6, (.string { data := #[112, 111] })), (7, (.string { data := #[112, 111] })), (8, (.string { data := #[112, 111] })), (9, (.string { data := #[112, 109] })), (10, (.string { data := #[112, 117] })), (11, (.string { data := #[112, 116] })), (12, (.string { data := #[116] }))]) w fun v5 w =>
NX P (oAlloc 108) w fun v4 w =>
NX P (oStore 108 v4 v5) w fun _ w =>
NX P (oBin .lss 29 false true a0 (.int .u8 1)) w fun v7 w =>
IFB v7 (
R (.tuple #[(.string { data := #[] }), (.bool false)]) w) (
NX P (oConvert 29 3 a0) w fun v10 w =>
NX P (oBin .geq 3 false true v10 (.int .i64 13)) w fun v11 w =>
IFB v11 (
R (.tuple #[(.string { data := #[] }), (.bool false)]) w) (
NX P (oIndexAddr 108 v4 a0) w fun v14 w =>
NX P (oLoad 9 v14) w fun v15 w =>
R (.tuple #[v15, (.bool true)]) w))
def pl34 : Pl := (.seq .leaf (.seq .leaf (.seq (.seq .leaf (.cond (.seq .leaf .leaf) .leaf)) (.seq .leaf .leaf))))
theorem G34_ok {a0 : Value} {w : World} {R : Value → World → Prop} (h : G34 Tryz.prog a0 w R) : Calls Tryz.prog 34 #[a0] w fun e w' => ∃ v, e = .returned v ∧ R v w' :=
  sh_calls Tryz.mixed Tryz.func34 rfl pl34 (by kernel_rfl) (cast (by kernel_rfl) h)

/-- (*toolchest/calls.work).kinds -/
def G36 (P : Program) (a0 : Value) (w : World) (R : Value → World → Prop) : Prop :=
NX P (oAlloc 89) w fun v2 w =>
NX P (oFunc (.func 57) [a0] []) w fun v4 w =>
NX P (oFunc (.func 57) [a0] []) w fun v6 w =>
NX P (oFunc (.func 58) [a0] []) w fun v8 w =>
NX P (oFunc (.func 59) [a0] []) w fun v10 w =>
NX P (oFunc (.func 60) [a0] []) w fun v12 w =>
NX P (oFunc (.func 61) [a0] []) w fun v14 w =>
NX P (oFunc (.func 62) [a0] []) w fun v16 w =>
NX P (oFunc (.func 63) [a0] []) w fun v18 w =>
NX P (oFunc (.func 64) [a0] []) w fun v20 w =>
NX P (oFunc (.func 65) [a0] []) w fun v22 w =>
NX P (oFunc (.func 66) [a0] []) w fun v24 w =>
NX P (oFunc (.func 67) [a0] []) w fun v26 w =>
NX P (oBuild 89 [(1, v4), (2, v6), (3, v8), (4, v10), (5, v12), (6, v14), (7, v16), (8, v18), (9, v20), (10, v22), (11, v24), (12, v26)]) w fun v27 w =>
NX P (oStore 89 v2 v27) w fun _ w =>
LX P 89 v2 w fun r2 =>
R r2 w
def pl36 : Pl := (.seq .leaf (.seq .leaf .leaf))
theorem G36_ok {a0 : Value} {w : World} {R : Value → World → Prop} (h : G36 Tryz.prog a0 w R) : Calls Tryz.prog 36 #[a0] w fun e w' => ∃ v, e = .returned v ∧ R v w' :=
  sh_calls Tryz.mixed Tryz.func36 rfl pl36 (by kernel_rfl) (cast (by kernel_rfl) h)

/-- slices.Clip[[]toolchest/api.Entry,toolchest/api.Entry] -/
def G37 (P : Program) (a0 : Value) (w : World) (R : Value → World → Prop) : Prop :=
NX P (oBuiltin .len #[42] 3 [false] [a0]) w fun v5 w =>
NX P (oBuiltin .len #[42] 3 [false] [a0]) w fun v7 w =>
NX P (oSlice 42 a0 none (some v5) (some v7)) w fun v8 w =>
R v8 w
def pl37 : Pl := (.seq .leaf (.seq .leaf .leaf))
theorem G37_ok {a0 : Value} {w : World} {R : Value → World → Prop} (h : G37 Tryz.prog a0 w R) : Calls Tryz.prog 37 #[a0] w fun e w' => ∃ v, e = .returned v ∧ R v w' :=
  sh_calls Tryz.mixed Tryz.func37 rfl pl37 (by kernel_rfl) (cast (by kernel_rfl) h)

/-- slices.Clip[[]toolchest/api.Node,toolchest/api.Node] -/
def G38 (P : Program) (a0 : Value) (w : World) (R : Value → World → Prop) : Prop :=
NX P (oBuiltin .len #[22] 3 [false] [a0]) w fun v5 w =>
NX P (oBuiltin .len #[22] 3 [false] [a0]) w fun v7 w =>
NX P (oSlice 22 a0 none (some v5) (some v7)) w fun v8 w =>
R v8 w
def pl38 : Pl := (.seq .leaf (.seq .leaf .leaf))
theorem G38_ok {a0 : Value} {w : World} {R : Value → World → Prop} (h : G38 Tryz.prog a0 w R) : Calls Tryz.prog 38 #[a0] w fun e w' => ∃ v, e = .returned v ∧ R v w' :=
  sh_calls Tryz.mixed Tryz.func38 rfl pl38 (by kernel_rfl) (cast (by kernel_rfl) h)

/-- toolchest/calls.node -/
def G39 (P : Program) (a0 a1 a2 a3 : Value) (w : World) (R : Value → World → Prop) : Prop :=
NX P (oBox 24 a0) w fun v4 w =>
NX P (oBox 32 a1) w fun v5 w =>
NX P (oAlloc 44) w fun v8 w =>
NX P (oLoad 24 v4) w fun v14 w =>
NX P (oLoad 32 v5) w fun v15 w =>
NX P (oCall (fnV 68) [v14, v15, a2, a3]) w fun v18 w =>
NX P (oExtract v18 0) w fun v19 w =>
NX P (oExtract v18 1) w fun v20 w =>
NX P (oAlloc 80) w fun v11 w =>
NX P (oStore 80 v11 v19) w fun _ w =>
NX P (oBin .neq 35 false true v20 (.int .i64 0)) w fun v23 w =>
IFB v23 (
NX P (oBuild 44 []) w fun v24 w =>
NX P (oStore 44 v8 v24) w fun _ w =>
LX P 44 v8 w fun r8 =>
R (.tuple #[r8, (.int .i64 0), v20]) w) (
NX P (oFieldAddr 80 v11 2) w fun v27 w =>
NX P (oLoad 3 v27) w fun v28 w =>
NX P (oBin .eql 3 false true v28 (.int .i64 0)) w fun v29 w =>
IFB v29 (
NX P (oBuild 44 []) w fun v30 w =>
NX P (oStore 44 v8 v30) w fun _ w =>
LX P 44 v8 w fun r8 =>
R (.tuple #[r8, (.int .i64 0), (.int .i64 6)]) w) (
FX P (oFieldAddr 24 v4 0) fun v31 =>
LX P 22 v31 w.drew fun v32 =>
FX P (oFieldAddr 80 v11 2) fun v33 =>
LX P 3 v33 w.drew fun v34 =>
FX P (oIndexAddr 22 v32 v34) fun v35 =>
LX P 44 v35 w.drew fun v36 =>
FX P (oFieldAddr 80 v11 2) fun v37 =>
LX P 3 v37 w.drew fun v38 =>
NX P (oStore 44 v8 v36) w.drew fun _ w =>
RD P w 3 v37 v38 ∧ (LX P 44 v8 w fun r8 =>
R (.tuple #[r8, v38, (.int .i64 0)]) w)))
def pl39 : Pl := (.seq .leaf (.seq .leaf (.seq (.block (.seq .leaf (.cond (.seq .leaf .leaf) (.seq .leaf (.cond (.seq .leaf .leaf) .leaf))))) (.seq (.draw (.take 0 (.take 1 (.take 2 (.take 3 (.take 4 (.take 5 (.take 6 (.take 7 (.one 8 (.take 9 (.take 10 .fin)))))))))))) .leaf))))
theorem G39_ok {a0 a1 a2 a3 : Value} {w : World} {R : Value → World → Prop} (h : G39 Tryz.prog a0 a1 a2 a3 w R) : Calls Tryz.prog 39 #[a0, a1, a2, a3] w fun e w' => ∃ v, e = .returned v ∧ R v w' :=
  sh_calls Tryz.mixed Tryz.func39 rfl pl39 (by kernel_rfl) (cast (by kernel_rfl) h)

/-- slices.Clip[[]byte,byte] -/
def G40 (P : Program) (a0 : Value) (w : World) (R : Value → World → Prop) : Prop :=
NX P (oBuiltin .len #[30] 3 [false] [a0]) w fun v5 w =>
NX P (oBuiltin .len #[30] 3 [false] [a0]) w fun v7 w =>
NX P (oSlice 30 a0 none (some v5) (some v7)) w fun v8 w =>
R v8 w
def pl40 : Pl := (.seq .leaf (.seq .leaf .leaf))
theorem G40_ok {a0 : Value} {w : World} {R : Value → World → Prop} (h : G40 Tryz.prog a0 w R) : Calls Tryz.prog 40 #[a0] w fun e w' => ∃ v, e = .returned v ∧ R v w' :=
  sh_calls Tryz.mixed Tryz.func40 rfl pl40 (by kernel_rfl) (cast (by kernel_rfl) h)

/-- slices.Clone[[]byte,byte] -/
def G41 (P : Program) (a0 : Value) (w : World) (R : Value → World → Prop) : Prop :=
NX P (oBin .eql 30 false true a0 (.slice none 0 0)) w fun v4 w =>
IFB v4 (
R (.slice none 0 0) w) (
NX P (oBuildSlice 30 0 []) w fun v5 w =>
NX P (oBuiltin .append #[30, 30] 30 [false, false] [v5, a0]) w fun v7 w =>
R v7 w)
def pl41 : Pl := (.seq .leaf (.seq (.seq .leaf (.cond (.seq .leaf .leaf) .leaf)) (.seq .leaf .leaf)))
theorem G41_ok {a0 : Value} {w : World} {R : Value → World → Prop} (h : G41 Tryz.prog a0 w R) : Calls Tryz.prog 41 #[a0] w fun e w' => ∃ v, e = .returned v ∧ R v w' :=
  sh_calls Tryz.mixed Tryz.func41 rfl pl41 (by kernel_rfl) (cast (by kernel_rfl) h)

/-- toolchest/calls.may$1 -/
def G51 (P : Program) (a0 a1 a2 : Value) (w : World) (R : Value → World → Prop) : Prop :=
NX P (oUn .not a1) w fun v7 w =>
IFB v7 (
R (.bool true) w) (
NX P (oLoad 9 a2) w fun v9 w =>
NX P (oCall (fnV 35) [v9, a0]) w fun v11 w =>
R v11 w)
def pl51 : Pl := (.seq .leaf (.seq .leaf .leaf))
theorem G51_ok {a0 a1 a2 : Value} {w : World} {R : Value → World → Prop} (h : G51 Tryz.prog a0 a1 a2 w R) : Calls Tryz.prog 51 #[a0, a1, a2] w fun e w' => ∃ v, e = .returned v ∧ R v w' :=
  sh_calls Tryz.mixed Tryz.func51 rfl pl51 (by kernel_rfl) (cast (by kernel_rfl) h)

/-- slices.Clone[[]toolchest/api.Entry,toolchest/api.Entry] -/
def G52 (P : Program) (a0 : Value) (w : World) (R : Value → World → Prop) : Prop :=
NX P (oBin .eql 42 false true a0 (.slice none 0 0)) w fun v4 w =>
IFB v4 (
R (.slice none 0 0) w) (
NX P (oBuildSlice 42 0 []) w fun v5 w =>
NX P (oBuiltin .append #[42, 42] 42 [false, false] [v5, a0]) w fun v7 w =>
R v7 w)
def pl52 : Pl := (.seq .leaf (.seq (.seq .leaf (.cond (.seq .leaf .leaf) .leaf)) (.seq .leaf .leaf)))
theorem G52_ok {a0 : Value} {w : World} {R : Value → World → Prop} (h : G52 Tryz.prog a0 w R) : Calls Tryz.prog 52 #[a0] w fun e w' => ∃ v, e = .returned v ∧ R v w' :=
  sh_calls Tryz.mixed Tryz.func52 rfl pl52 (by kernel_rfl) (cast (by kernel_rfl) h)

/-- (*toolchest/calls.work).write -/
def G57 (P : Program) (a0 : Value) (w : World) (R : Value → World → Prop) : Prop :=
∃ J1 : List Value → World → Prop, (
NX P (oNil a0) w fun v10 w =>
NX P (oFieldAddr 82 v10 1) w fun v11 w =>
NX P (oFieldAddr 34 v11 7) w fun v12 w =>
NX P (oLoad 30 v12) w fun v13 w =>
NX P (oBuiltin .len #[30] 3 [false] [v13]) w fun v14 w =>
NX P (oBin .gtr 3 false true v14 (.int .i64 65536)) w fun v15 w =>
IFB v15 (
R (.int .i64 17) w) (
∃ J2 : List Value → World → Prop, (
NX P (oNil a0) w fun v18 w =>
NX P (oFieldAddr 82 v18 3) w fun v19 w =>
NX P (oFieldAddr 80 v19 1) w fun v20 w =>
NX P (oLoad 9 v20) w fun v21 w =>
NX P (oBin .eql 9 false true v21 (.string { data := #[] })) w fun v22 w =>
IFB v22 (
J2 [(.bool true)] w) (
NX P (oNil a0) w fun v26 w =>
NX P (oFieldAddr 82 v26 3) w fun v27 w =>
NX P (oLoad 80 v27) w fun v28 w =>
NX P (oCall (fnV 78) [a0, v28, (.int .u8 2)]) w fun v29 w =>
IFB v29 (
J2 [(.bool true)] w) (
NX P (oNil a0) w fun v33 w =>
NX P (oFieldAddr 82 v33 3) w fun v34 w =>
NX P (oFieldAddr 80 v34 2) w fun v35 w =>
NX P (oLoad 3 v35) w fun v36 w =>
NX P (oBin .eql 3 false true v36 (.int .i64 0)) w fun v37 w =>
IFB v37 (
NX P (oNil a0) w fun v40 w =>
NX P (oFieldAddr 82 v40 3) w fun v41 w =>
NX P (oFieldAddr 80 v41 3) w fun v42 w =>
NX P (oLoad 4 v42) w fun v43 w =>
J2 [v43] w) (
J2 [(.bool false)] w)))) ∧ ∀ (f2 : Env) (w : World), J2 [f2 16] w →
IFB (f2 16) (
R (.int .i64 8) w) (
FX P (oNil a0) fun v48 =>
FX P (oFieldAddr 82 v48 3) fun v49 =>
FX P (oFieldAddr 80 v49 2) fun v50 =>
LX P 3 v50 w.drew fun v51 =>
FX P (oBin .neq 3 false true v51 (.int .i64 0)) fun v52 =>
IFB v52 (
FX P (oNil a0) fun v56 =>
FX P (oFieldAddr 82 v56 3) fun v57 =>
LX P 80 v57 w.drew fun v58 =>
FX P (oNil a0) fun v63 =>
FX P (oFieldAddr 82 v63 2) fun v64 =>
LX P 32 v64 w.drew fun v65 =>
NX P (oCall (fnV 79) [a0, v58]) w.drew fun v59 w =>
RD P w 32 v64 v65 ∧ (RD P w 3 v50 v51 ∧ (FX P (oNil v59) fun v60 =>
LX P 44 v60 w fun v61 =>
NX P (oCall (fnV 14) [v61, v65, (.int .i64 2)]) w fun v66 w =>
RD P w 3 v50 v51 ∧ (FX P (oUn .not v66) fun v67 =>
IFB v67 (
R (.int .i64 10) w) (
J1 [] w))))) (
RD P w.drew 3 v50 v51 ∧ (RD P w.drew 3 v50 v51 ∧ (J1 [] w.drew)))))) ∧ ∀ (f1 : Env) (w : World), J1 [] w →
∃ J3 : List Value → World → Prop, (
NX P (oNil a0) w fun v70 w =>
NX P (oFieldAddr 82 v70 3) w fun v71 w =>
NX P (oFieldAddr 80 v71 2) w fun v72 w =>
NX P (oLoad 3 v72) w fun v73 w =>
NX P (oBin .eql 3 false true v73 (.int .i64 0)) w fun v74 w =>
IFB v74 (
NX P (oNil a0) w fun v77 w =>
NX P (oFieldAddr 82 v77 3) w fun v78 w =>
NX P (oFieldAddr 80 v78 0) w fun v79 w =>
NX P (oLoad 3 v79) w fun v80 w =>
NX P (oCall (fnV 80) [a0, v80]) w fun v81 w =>
∃ J4 : List Value → World → Prop, (
NX P (oBin .eql 35 false true v81 (.int .i64 0)) w fun v83 w =>
IFB v83 (
FX P (oNil a0) fun v86 =>
FX P (oFieldAddr 82 v86 3) fun v87 =>
LX P 80 v87 w.drew fun v88 =>
FX P (oNil a0) fun v90 =>
FX P (oFieldAddr 82 v90 1) fun v91 =>
FX P (oFieldAddr 34 v91 3) fun v92 =>
LX P 3 v92 w.drew fun v93 =>
FX P (oNil a0) fun v95 =>
FX P (oFieldAddr 82 v95 2) fun v96 =>
FX P (oFieldAddr 32 v96 2) fun v97 =>
LX P 3 v97 w.drew fun v98 =>
FX P (oBin .andNot 3 false false v93 v98) fun v99 =>
FX P (oBuild 44 [(0, (.int .u8 1)), (1, v99), (4, (.int .i64 1))]) fun v100 =>
NX P (oCall (fnV 81) [a0, v88, v100]) w.drew fun v101 w =>
RD P w 3 v97 v98 ∧ (RD P w 3 v92 v93 ∧ (J4 [v101] w))) (
J4 [v81] w)) ∧ ∀ (f4 : Env) (w : World), J4 [f4 3] w →
NX P (oBin .neq 35 false true (f4 3) (.int .i64 0)) w fun v103 w =>
IFB v103 (
R (f4 3) w) (
FX P (oNil a0) fun v107 =>
FX P (oFieldAddr 82 v107 0) fun v108 =>
LX P 24 v108 w.drew fun v109 =>
FX P (oNil a0) fun v111 =>
FX P (oFieldAddr 82 v111 3) fun v112 =>
FX P (oFieldAddr 80 v112 0) fun v113 =>
LX P 3 v113 w.drew fun v114 =>
FX P (oNil a0) fun v116 =>
FX P (oFieldAddr 82 v116 3) fun v117 =>
FX P (oFieldAddr 80 v117 1) fun v118 =>
LX P 9 v118 w.drew fun v119 =>
NX P (oCall (fnV 50) [v109, v114, v119]) w.drew fun v120 w =>
FX P (oNil a0) fun v121 =>
FX P (oFieldAddr 82 v121 3) fun v122 =>
FX P (oFieldAddr 80 v122 2) fun v123 =>
NX P (oStore 3 v123 v120) w fun _ w =>
J3 [] w)) (
J3 [] w)) ∧ ∀ (f3 : Env) (w : World), J3 [] w →
NX P (oNil a0) w fun v126 w =>
NX P (oFieldAddr 82 v126 3) w fun v127 w =>
NX P (oLoad 80 v127) w fun v128 w =>
NX P (oCall (fnV 79) [a0, v128]) w fun v129 w =>
∃ J5 : List Value → World → Prop, (
NX P (oNil a0) w fun v131 w =>
NX P (oFieldAddr 82 v131 1) w fun v132 w =>
NX P (oFieldAddr 34 v132 0) w fun v133 w =>
NX P (oLoad 29 v133) w fun v134 w =>
NX P (oBin .eql 29 false true v134 (.int .u8 1)) w fun v135 w =>
IFB v135 (
NX P (oNil v129) w fun v137 w =>
NX P (oFieldAddr 44 v137 6) w fun v138 w =>
NX P (oStore 30 v138 (.slice none 0 0)) w fun _ w =>
J5 [] w) (
J5 [] w)) ∧ ∀ (f5 : Env) (w : World), J5 [] w →
FX P (oNil v129) fun v140 =>
FX P (oFieldAddr 44 v140 6) fun v141 =>
LX P 30 v141 w.drew fun v142 =>
FX P (oBuiltin .len #[30] 3 [false] [v142]) fun v143 =>
FX P (oNil a0) fun v145 =>
FX P (oFieldAddr 82 v145 1) fun v146 =>
FX P (oFieldAddr 34 v146 7) fun v147 =>
LX P 30 v147 w.drew fun v148 =>
FX P (oBuiltin .len #[30] 3 [false] [v148]) fun v149 =>
FX P (oBin .add 3 false false v143 v149) fun v150 =>
FX P (oBin .gtr 3 false true v150 (.int .i64 65536)) fun v151 =>
IFB v151 (
R (.int .i64 17) w.drew) (
FX P (oNil v129) fun v155 =>
FX P (oFieldAddr 44 v155 6) fun v156 =>
LX P 30 v156 (w.drew).drew fun v157 =>
FX P (oNil a0) fun v159 =>
FX P (oFieldAddr 82 v159 1) fun v160 =>
FX P (oFieldAddr 34 v160 7) fun v161 =>
LX P 30 v161 (w.drew).drew fun v162 =>
FX P (oNil a0) fun v166 =>
FX P (oFieldAddr 82 v166 0) fun v167 =>
FX P (oFieldAddr 24 v167 1) fun v168 =>
LX P 3 v168 (w.drew).drew fun v169 =>
NX P (oBuiltin .append #[30, 30] 30 [false, false] [v157, v162]) (w.drew).drew fun v163 w =>
RD P w 3 v168 v169 ∧ (NX P (oCall (fnV 40) [v163]) w fun v164 w =>
RD P w 3 v168 v169 ∧ (FX P (oNil v129) fun v170 =>
FX P (oFieldAddr 44 v170 6) fun v171 =>
NX P (oStore 30 v171 v164) w fun _ w =>
FX P (oNil v129) fun v172 =>
FX P (oFieldAddr 44 v172 5) fun v173 =>
NX P (oStore 3 v173 v169) w fun _ w =>
NX P (oNil a0) w fun v175 w =>
NX P (oFieldAddr 82 v175 0) w fun v176 w =>
NX P (oFieldAddr 24 v176 0) w fun v177 w =>
NX P (oLoad 22 v177) w fun v178 w =>
NX P (oBuiltin .len #[22] 3 [false] [v178]) w fun v179 w =>
∃ (I6 : List Value → World → Prop) (m6 : List Value → World → Nat), I6 [(.int .i64 0), (.int .i64 0)] w ∧ ∀ (f6 : Env) (wh6 : World), I6 [f6 5, f6 180] wh6 →
NX P (oBin .lss 3 false false (f6 180) v179) wh6 fun v181 w =>
IFB v181 (
NX P (oIndexAddr 22 v178 (f6 180)) w fun v182 w =>
NX P (oLoad 44 v182) w fun v183 w =>
NX P (oAlloc 44) w fun v7 w =>
NX P (oStore 44 v7 v183) w fun _ w =>
NX P (oFieldAddr 44 v7 6) w fun v185 w =>
NX P (oLoad 30 v185) w fun v186 w =>
NX P (oBuiltin .len #[30] 3 [false] [v186]) w fun v187 w =>
NX P (oBin .add 3 false false (f6 5) v187) w fun v188 w =>
NX P (oBin .add 3 false true (f6 180) (.int .i64 1)) w fun v189 w =>
I6 [v188, v189] w ∧ m6 [v188, v189] w < m6 [f6 5, f6 180] wh6) (
NX P (oBin .gtr 3 false true (f6 5) (.int .i64 1048576)) w fun v191 w =>
IFB v191 (
R (.int .i64 11) w) (
R (.int .i64 0) w)))))
def pl57 : Pl := (.seq .leaf (.join [] [9, 10, 11, 12, 13, 14, 15, 8, 2, 17, 18, 19, 20, 21, 22, 23, 24, 25, 26, 27, 28, 29, 30, 31, 32, 33, 34, 35, 36, 37, 38, 39, 40, 41, 42, 43, 44, 45, 16, 47, 48, 49, 50, 51, 52, 53, 54, 55, 56, 57, 58, 59, 60, 61, 62, 63, 64, 65, 66, 67, 68, 46] (.block (.seq .leaf (.cond (.seq .leaf .leaf) (.join [16] [17, 18, 19, 20, 21, 22, 23, 24, 25, 26, 27, 28, 29, 30, 31, 32, 33, 34, 35, 36, 37, 38, 39, 40, 41, 42, 43, 44, 45, 16] .leaf (.cond (.seq .leaf .leaf) (.seq (.draw (.take 0 (.take 1 (.take 2 (.take 3 (.take 4 (.take 5 (.take 6 (.take 7 (.take 8 (.take 9 (.take 10 (.take 11 (.take 15 (.take 16 (.take 17 (.take 18 (.one 12 (.take 13 (.take 14 (.one 19 (.take 20 (.take 21 (.take 22 .fin)))))))))))))))))))))))) (.cond (.seq .leaf .leaf) .leaf))))))) (.join [] [69, 70, 71, 72, 73, 74, 75, 76, 77, 78, 79, 80, 81, 3, 82, 83, 84, 85, 86, 87, 88, 89, 90, 91, 92, 93, 94, 95, 96, 97, 98, 99, 100, 101, 102, 103, 104, 2, 105, 106, 107, 108, 109, 110, 111, 112, 113, 114, 115, 116, 117, 118, 119, 120, 121, 122, 123] (.seq .leaf (.cond (.seq .leaf (.join [3] [82, 83, 84, 85, 86, 87, 88, 89, 90, 91, 92, 93, 94, 95, 96, 97, 98, 99, 100, 101, 3] (.seq .leaf (.cond (.draw (.take 0 (.take 1 (.take 2 (.take 3 (.take 4 (.take 5 (.take 6 (.take 7 (.take 8 (.take 9 (.take 10 (.take 11 (.take 12 (.take 13 (.take 14 (.take 15 (.take 16 (.one 17 (.take 18 .fin)))))))))))))))))))) .leaf)) (.seq (.seq .leaf (.cond (.seq .leaf .leaf) .leaf)) (.draw (.take 0 (.take 1 (.take 2 (.take 3 (.take 4 (.take 5 (.take 6 (.take 7 (.take 8 (.take 9 (.take 10 (.take 11 (.take 12 (.take 13 (.take 14 (.one 15 (.take 16 (.take 17 (.take 18 (.one 19 .fin)))))))))))))))))))))))) .leaf)) (.seq .leaf (.join [] [130, 131, 132, 133, 134, 135, 136, 137, 138] (.seq .leaf (.cond .leaf .leaf)) (.seq (.seq (.draw (.take 0 (.take 1 (.take 2 (.take 3 (.take 4 (.take 5 (.take 6 (.take 7 (.take 8 (.take 9 (.take 10 (.take 11 (.take 12 .fin)))))))))))))) (.cond (.seq .leaf .leaf) .leaf)) (.seq (.draw (.take 0 (.take 1 (.take 2 (.take 3 (.take 4 (.take 5 (.take 6 (.take 7 (.take 8 (.take 9 (.take 10 (.take 13 (.take 14 (.take 15 (.take 16 (.take 17 (.one 11 (.one 12 (.take 18 (.take 19 (.one 20 (.take 21 (.take 22 (.one 23 .fin))))))))))))))))))))))))) (.seq .leaf (.seq (.seq .leaf (.block (.loop [5, 180] [181, 182, 183, 7, 184, 185, 186, 187, 188, 5, 189, 180] (.seq .leaf (.seq (.cond .leaf .leaf) (.seq (.block (.seq .leaf .leaf)) .leaf)))))) (.seq (.seq .leaf (.cond (.seq .leaf .leaf) .leaf)) (.seq .leaf .leaf)))))))))))
theorem G57_ok {a0 : Value} {w : World} {R : Value → World → Prop} (h : G57 Tryz.prog a0 w R) : Calls Tryz.prog 57 #[a0] w fun e w' => ∃ v, e = .returned v ∧ R v w' :=
  sh_calls Tryz.mixed Tryz.func57 rfl pl57 (by kernel_rfl) (cast (by kernel_rfl) h)

/-- (*toolchest/calls.work).mkdir -/
def G58 (P : Program) (a0 : Value) (w : World) (R : Value → World → Prop) : Prop :=
NX P (oNil a0) w fun v5 w =>
NX P (oFieldAddr 82 v5 3) w fun v6 w =>
NX P (oFieldAddr 80 v6 1) w fun v7 w =>
NX P (oLoad 9 v7) w fun v8 w =>
NX P (oBin .eql 9 false true v8 (.string { data := #[] })) w fun v9 w =>
IFB v9 (
R (.int .i64 7) w) (
NX P (oNil a0) w fun v12 w =>
NX P (oFieldAddr 82 v12 3) w fun v13 w =>
NX P (oFieldAddr 80 v13 2) w fun v14 w =>
NX P (oLoad 3 v14) w fun v15 w =>
NX P (oBin .neq 3 false true v15 (.int .i64 0)) w fun v16 w =>
IFB v16 (
R (.int .i64 7) w) (
NX P (oNil a0) w fun v20 w =>
NX P (oFieldAddr 82 v20 3) w fun v21 w =>
NX P (oFieldAddr 80 v21 0) w fun v22 w =>
NX P (oLoad 3 v22) w fun v23 w =>
NX P (oCall (fnV 80) [a0, v23]) w fun v24 w =>
NX P (oBin .neq 35 false true v24 (.int .i64 0)) w fun v26 w =>
IFB v26 (
R v24 w) (
FX P (oNil a0) fun v29 =>
FX P (oFieldAddr 82 v29 0) fun v30 =>
LX P 24 v30 w.drew fun v31 =>
FX P (oNil a0) fun v33 =>
FX P (oFieldAddr 82 v33 3) fun v34 =>
FX P (oFieldAddr 80 v34 0) fun v35 =>
LX P 3 v35 w.drew fun v36 =>
NX P (oCall (fnV 82) [v31, v36]) w.drew fun v37 w =>
FX P (oBin .geq 3 false true v37 (.int .i64 32)) fun v38 =>
IFB v38 (
R (.int .i64 3) w) (
FX P (oNil a0) fun v40 =>
FX P (oFieldAddr 82 v40 0) fun v41 =>
FX P (oFieldAddr 24 v41 0) fun v42 =>
LX P 22 v42 w.drew fun v43 =>
FX P (oNil a0) fun v45 =>
FX P (oFieldAddr 82 v45 3) fun v46 =>
FX P (oFieldAddr 80 v46 0) fun v47 =>
LX P 3 v47 w.drew fun v48 =>
FX P (oIndexAddr 22 v43 v48) fun v49 =>
FX P (oFieldAddr 44 v49 4) fun v50 =>
LX P 3 v50 w.drew fun v51 =>
FX P (oBin .add 3 false true v51 (.int .i64 1)) fun v52 =>
FX P (oIndexAddr 22 v43 v48) fun v53 =>
FX P (oFieldAddr 44 v53 4) fun v54 =>
NX P (oStore 3 v54 v52) w.drew fun _ w =>
FX P (oNil a0) fun v57 =>
FX P (oFieldAddr 82 v57 3) fun v58 =>
LX P 80 v58 w.drew fun v59 =>
FX P (oNil a0) fun v61 =>
FX P (oFieldAddr 82 v61 1) fun v62 =>
FX P (oFieldAddr 34 v62 3) fun v63 =>
LX P 3 v63 w.drew fun v64 =>
FX P (oNil a0) fun v66 =>
FX P (oFieldAddr 82 v66 2) fun v67 =>
FX P (oFieldAddr 32 v67 2) fun v68 =>
LX P 3 v68 w.drew fun v69 =>
FX P (oBin .andNot 3 false false v64 v69) fun v70 =>
FX P (oNil a0) fun v72 =>
FX P (oFieldAddr 82 v72 3) fun v73 =>
FX P (oFieldAddr 80 v73 0) fun v74 =>
LX P 3 v74 w.drew fun v75 =>
FX P (oBuild 44 [(0, (.int .u8 2)), (1, v70), (4, (.int .i64 2)), (9, v75)]) fun v76 =>
NX P (oCall (fnV 81) [a0, v59, v76]) w.drew fun v77 w =>
RD P w 3 v74 v75 ∧ (RD P w 3 v68 v69 ∧ (RD P w 3 v63 v64 ∧ (R v77 w)))))))
def pl58 : Pl := (.seq .leaf (.seq (.seq .leaf (.cond (.seq .leaf .leaf) .leaf)) (.seq (.seq .leaf (.seq .leaf (.cond (.seq .leaf .leaf) .leaf))) (.seq (.seq (.draw (.take 0 (.take 1 (.take 2 (.take 3 (.take 4 (.take 5 (.take 6 (.take 7 (.take 8 (.one 9 (.take 10 .fin)))))))))))) (.cond (.seq .leaf .leaf) .leaf)) (.seq (.draw (.take 0 (.take 1 (.take 2 (.take 3 (.take 4 (.take 5 (.take 6 (.take 7 (.take 8 (.take 9 (.take 10 (.take 11 (.take 12 (.take 13 (.take 14 (.take 15 (.one 16 .fin)))))))))))))))))) (.seq (.draw (.take 0 (.take 1 (.take 2 (.take 3 (.take 4 (.take 5 (.take 6 (.take 7 (.take 8 (.take 9 (.take 10 (.take 11 (.take 12 (.take 13 (.take 14 (.take 15 (.take 16 (.take 17 (.take 18 (.take 19 (.take 20 (.take 21 (.one 22 (.take 23 .fin))))))))))))))))))))))))) .leaf))))))
theorem G58_ok {a0 : Value} {w : World} {R : Value → World → Prop} (h : G58 Tryz.prog a0 w R) : Calls Tryz.prog 58 #[a0] w fun e w' => ∃ v, e = .returned v ∧ R v w' :=
  sh_calls Tryz.mixed Tryz.func58 rfl pl58 (by kernel_rfl) (cast (by kernel_rfl) h)

/-- (*toolchest/calls.work).rmdir -/
def G59 (P : Program) (a0 : Value) (w : World) (R : Value → World → Prop) : Prop :=
NX P (oNil a0) w fun v6 w =>
NX P (oFieldAddr 82 v6 3) w fun v7 w =>
NX P (oFieldAddr 80 v7 1) w fun v8 w =>
NX P (oLoad 9 v8) w fun v9 w =>
NX P (oBin .eql 9 false true v9 (.string { data := #[] })) w fun v10 w =>
IFB v10 (
R (.int .i64 14) w) (
NX P (oNil a0) w fun v13 w =>
NX P (oFieldAddr 82 v13 3) w fun v14 w =>
NX P (oFieldAddr 80 v14 2) w fun v15 w =>
NX P (oLoad 3 v15) w fun v16 w =>
NX P (oBin .eql 3 false true v16 (.int .i64 0)) w fun v17 w =>
IFB v17 (
R (.int .i64 6) w) (
NX P (oNil a0) w fun v20 w =>
NX P (oFieldAddr 82 v20 3) w fun v21 w =>
NX P (oLoad 80 v21) w fun v22 w =>
NX P (oCall (fnV 83) [a0, v22]) w fun v23 w =>
∃ J1 : List Value → World → Prop, (
NX P (oBin .eql 35 false true v23 (.int .i64 0)) w fun v25 w =>
IFB v25 (
NX P (oNil a0) w fun v28 w =>
NX P (oFieldAddr 82 v28 3) w fun v29 w =>
NX P (oFieldAddr 80 v29 0) w fun v30 w =>
NX P (oLoad 3 v30) w fun v31 w =>
NX P (oCall (fnV 84) [a0, v31]) w fun v32 w =>
J1 [v32] w) (
J1 [v23] w)) ∧ ∀ (f1 : Env) (w : World), J1 [f1 3] w →
NX P (oBin .eql 35 false true (f1 3) (.int .i64 0)) w fun v34 w =>
IFB v34 (
NX P (oNil a0) w fun v37 w =>
NX P (oFieldAddr 82 v37 3) w fun v38 w =>
NX P (oLoad 80 v38) w fun v39 w =>
NX P (oCall (fnV 85) [a0, v39]) w fun v40 w =>
NX P (oNil a0) w fun v43 w =>
NX P (oFieldAddr 82 v43 3) w fun v44 w =>
NX P (oLoad 80 v44) w fun v45 w =>
NX P (oCall (fnV 86) [a0, v45]) w fun v46 w =>
R (f1 3) w) (
R (f1 3) w)))
def pl59 : Pl := (.seq .leaf (.seq (.block (.seq .leaf (.cond (.seq .leaf .leaf) (.seq .leaf (.cond (.seq .leaf .leaf) .leaf))))) (.seq .leaf (.join [3] [24, 25, 26, 27, 28, 29, 30, 31, 32, 3] (.seq .leaf (.cond .leaf .leaf)) (.seq (.seq .leaf (.cond (.seq .leaf .leaf) .leaf)) (.seq .leaf .leaf))))))
theorem G59_ok {a0 : Value} {w : World} {R : Value → World → Prop} (h : G59 Tryz.prog a0 w R) : Calls Tryz.prog 59 #[a0] w fun e w' => ∃ v, e = .returned v ∧ R v w' :=
  sh_calls Tryz.mixed Tryz.func59 rfl pl59 (by kernel_rfl) (cast (by kernel_rfl) h)

/-- (*toolchest/calls.work).unlink -/
def G60 (P : Program) (a0 : Value) (w : World) (R : Value → World → Prop) : Prop :=
NX P (oCall (fnV 87) [a0]) w fun v5 w =>
∃ J1 : List Value → World → Prop, (
NX P (oBin .eql 35 false true v5 (.int .i64 0)) w fun v7 w =>
IFB v7 (
NX P (oNil a0) w fun v10 w =>
NX P (oFieldAddr 82 v10 3) w fun v11 w =>
NX P (oFieldAddr 80 v11 0) w fun v12 w =>
NX P (oLoad 3 v12) w fun v13 w =>
NX P (oCall (fnV 84) [a0, v13]) w fun v14 w =>
J1 [v14] w) (
J1 [v5] w)) ∧ ∀ (f1 : Env) (w : World), J1 [f1 3] w →
NX P (oBin .eql 35 false true (f1 3) (.int .i64 0)) w fun v16 w =>
IFB v16 (
NX P (oNil a0) w fun v19 w =>
NX P (oFieldAddr 82 v19 3) w fun v20 w =>
NX P (oLoad 80 v20) w fun v21 w =>
NX P (oCall (fnV 85) [a0, v21]) w fun v22 w =>
NX P (oNil a0) w fun v25 w =>
NX P (oFieldAddr 82 v25 3) w fun v26 w =>
NX P (oLoad 80 v26) w fun v27 w =>
NX P (oCall (fnV 86) [a0, v27]) w fun v28 w =>
R (f1 3) w) (
R (f1 3) w)
def pl60 : Pl := (.seq .leaf (.seq .leaf (.join [3] [6, 7, 8, 9, 10, 11, 12, 13, 14, 3] (.seq .leaf (.cond .leaf .leaf)) (.seq (.seq .leaf (.cond (.seq .leaf .leaf) .leaf)) (.seq .leaf .leaf)))))
theorem G60_ok {a0 : Value} {w : World} {R : Value → World → Prop} (h : G60 Tryz.prog a0 w R) : Calls Tryz.prog 60 #[a0] w fun e w' => ∃ v, e = .returned v ∧ R v w' :=
  sh_calls Tryz.mixed Tryz.func60 rfl pl60 (by kernel_rfl) (cast (by kernel_rfl) h)

end Go.Proofs.YthakeicmaeefiaaGreatDoor
