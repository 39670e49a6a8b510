/- Shallow readings of functions of the program, written by gen.py. -/
import Derived.Test.YthakeicmaeefiaaGreatDoorFc
set_option linter.unusedVariables false
set_option linter.unusedSimpArgs false
namespace Go.Proofs.YthakeicmaeefiaaGreatDoor
open Go Go.Sh Go.Proofs
set_option maxRecDepth 100000
/-- (*toolchest/calls.work).link -/
def G61 (P : Program) (a0 : Value) (w : World) (R : Value → World → Prop) : Prop :=
NX P (oCall (fnV 87) [a0]) w fun v5 w =>
∃ J1 : List Value → World → Prop, (
NX P (oBin .eql 35 false true v5 (.int .i64 0)) w fun v7 w =>
IFB v7 (
NX P (oCall (fnV 88) [a0]) w fun v9 w =>
J1 [v9] w) (
J1 [v5] w)) ∧ ∀ (f1 : Env) (w : World), J1 [f1 3] w →
NX P (oBin .eql 35 false true (f1 3) (.int .i64 0)) w fun v11 w =>
IFB v11 (
NX P (oNil a0) w fun v14 w =>
NX P (oFieldAddr 82 v14 3) w fun v15 w =>
NX P (oLoad 80 v15) w fun v16 w =>
NX P (oCall (fnV 79) [a0, v16]) w fun v17 w =>
NX P (oNil v17) w fun v18 w =>
NX P (oFieldAddr 44 v18 4) w fun v19 w =>
NX P (oLoad 3 v19) w fun v20 w =>
NX P (oBin .add 3 false true v20 (.int .i64 1)) w fun v21 w =>
NX P (oNil v17) w fun v22 w =>
NX P (oFieldAddr 44 v22 4) w fun v23 w =>
NX P (oStore 3 v23 v21) w fun _ w =>
FX P (oNil a0) fun v26 =>
FX P (oFieldAddr 82 v26 4) fun v27 =>
LX P 80 v27 w.drew fun v28 =>
FX P (oNil a0) fun v30 =>
FX P (oFieldAddr 82 v30 3) fun v31 =>
FX P (oFieldAddr 80 v31 2) fun v32 =>
LX P 3 v32 w.drew fun v33 =>
NX P (oCall (fnV 89) [a0, v28, v33]) w.drew fun v34 w =>
R (f1 3) w) (
R (f1 3) w)
def pl61 : Pl := (.seq .leaf (.seq .leaf (.join [3] [6, 7, 8, 9, 3] (.seq .leaf (.cond .leaf .leaf)) (.seq (.seq .leaf (.cond (.seq .leaf (.draw (.take 0 (.take 1 (.take 2 (.take 3 (.take 4 (.take 5 (.take 6 (.take 7 (.take 8 (.take 9 (.one 10 .fin))))))))))))) .leaf)) (.seq .leaf .leaf)))))
theorem G61_ok {a0 : Value} {w : World} {R : Value → World → Prop} (h : G61 Tryz.prog a0 w R) : Calls Tryz.prog 61 #[a0] w fun e w' => ∃ v, e = .returned v ∧ R v w' :=
  sh_calls Tryz.mixed Tryz.func61 rfl pl61 (by kernel_rfl) (cast (by kernel_rfl) h)

/-- (*toolchest/calls.work).symlink -/
def G62 (P : Program) (a0 : Value) (w : World) (R : Value → World → Prop) : Prop :=
NX P (oNil a0) w fun v6 w =>
NX P (oFieldAddr 82 v6 1) w fun v7 w =>
NX P (oFieldAddr 34 v7 1) w fun v8 w =>
NX P (oLoad 9 v8) w fun v9 w =>
NX P (oBin .eql 9 false true v9 (.string { data := #[] })) w fun v10 w =>
IFB v10 (
R (.int .i64 6) w) (
NX P (oNil a0) w fun v13 w =>
NX P (oFieldAddr 82 v13 1) w fun v14 w =>
NX P (oFieldAddr 34 v14 1) w fun v15 w =>
NX P (oLoad 9 v15) w fun v16 w =>
NX P (oCall (fnV 53) [v16]) w fun v17 w =>
IFB v17 (
R (.int .i64 13) w) (
NX P (oCall (fnV 88) [a0]) w fun v19 w =>
NX P (oBin .eql 35 false true v19 (.int .i64 0)) w fun v21 w =>
IFB v21 (
FX P (oNil a0) fun v24 =>
FX P (oFieldAddr 82 v24 4) fun v25 =>
LX P 80 v25 w.drew fun v26 =>
FX P (oNil a0) fun v28 =>
FX P (oFieldAddr 82 v28 1) fun v29 =>
FX P (oFieldAddr 34 v29 1) fun v30 =>
LX P 9 v30 w.drew fun v31 =>
FX P (oBuild 44 [(0, (.int .u8 3)), (1, (.int .i64 511)), (4, (.int .i64 1)), (7, v31)]) fun v32 =>
NX P (oCall (fnV 81) [a0, v26, v32]) w.drew fun v33 w =>
RD P w 9 v30 v31 ∧ (R v33 w)) (
R v19 w)))
def pl62 : Pl := (.seq .leaf (.seq (.block (.seq .leaf (.cond (.seq .leaf .leaf) (.seq .leaf (.cond (.seq .leaf .leaf) .leaf))))) (.seq .leaf (.seq (.seq .leaf (.cond (.draw (.take 0 (.take 1 (.take 2 (.take 3 (.take 4 (.take 5 (.take 6 (.take 7 (.take 8 (.take 9 (.take 10 (.one 11 (.take 12 .fin)))))))))))))) .leaf)) (.seq .leaf .leaf)))))
theorem G62_ok {a0 : Value} {w : World} {R : Value → World → Prop} (h : G62 Tryz.prog a0 w R) : Calls Tryz.prog 62 #[a0] w fun e w' => ∃ v, e = .returned v ∧ R v w' :=
  sh_calls Tryz.mixed Tryz.func62 rfl pl62 (by kernel_rfl) (cast (by kernel_rfl) h)

/-- (*toolchest/calls.work).rename -/
def G63 (P : Program) (a0 : Value) (w : World) (R : Value → World → Prop) : Prop :=
∃ J1 : List Value → World → Prop, (
NX P (oNil a0) w fun v7 w =>
NX P (oFieldAddr 82 v7 3) w fun v8 w =>
NX P (oFieldAddr 80 v8 1) w fun v9 w =>
NX P (oLoad 9 v9) w fun v10 w =>
NX P (oBin .eql 9 false true v10 (.string { data := #[] })) w fun v11 w =>
IFB v11 (
J1 [(.bool true)] w) (
NX P (oNil a0) w fun v14 w =>
NX P (oFieldAddr 82 v14 4) w fun v15 w =>
NX P (oFieldAddr 80 v15 1) w fun v16 w =>
NX P (oLoad 9 v16) w fun v17 w =>
NX P (oBin .eql 9 false true v17 (.string { data := #[] })) w fun v18 w =>
J1 [v18] w)) ∧ ∀ (f1 : Env) (w : World), J1 [f1 5] w →
IFB (f1 5) (
R (.int .i64 14) w) (
NX P (oNil a0) w fun v22 w =>
NX P (oFieldAddr 82 v22 3) w fun v23 w =>
NX P (oFieldAddr 80 v23 2) w fun v24 w =>
NX P (oLoad 3 v24) w fun v25 w =>
NX P (oBin .eql 3 false true v25 (.int .i64 0)) w fun v26 w =>
IFB v26 (
R (.int .i64 6) w) (
FX P (oNil a0) fun v29 =>
FX P (oFieldAddr 82 v29 3) fun v30 =>
FX P (oFieldAddr 80 v30 2) fun v31 =>
LX P 3 v31 w.drew fun v32 =>
FX P (oNil a0) fun v34 =>
FX P (oFieldAddr 82 v34 4) fun v35 =>
FX P (oFieldAddr 80 v35 2) fun v36 =>
LX P 3 v36 w.drew fun v37 =>
FX P (oBin .eql 3 false false v32 v37) fun v38 =>
IFB v38 (
R (.int .i64 0) w.drew) (
NX P (oNil a0) w.drew fun v41 w =>
NX P (oFieldAddr 82 v41 3) w fun v42 w =>
NX P (oLoad 80 v42) w fun v43 w =>
NX P (oCall (fnV 78) [a0, v43, (.int .u8 2)]) w fun v44 w =>
∃ J2 : List Value → World → Prop, (
IFB v44 (
NX P (oCall (fnV 90) [a0]) w fun v48 w =>
J2 [v48] w) (
NX P (oNil a0) w fun v52 w =>
NX P (oFieldAddr 82 v52 4) w fun v53 w =>
NX P (oLoad 80 v53) w fun v54 w =>
NX P (oCall (fnV 78) [a0, v54, (.int .u8 2)]) w fun v55 w =>
IFB v55 (
J2 [(.int .i64 8)] w) (
NX P (oNil a0) w fun v58 w =>
NX P (oFieldAddr 82 v58 4) w fun v59 w =>
NX P (oFieldAddr 80 v59 2) w fun v60 w =>
NX P (oLoad 3 v60) w fun v61 w =>
NX P (oBin .eql 3 false true v61 (.int .i64 0)) w fun v62 w =>
IFB v62 (
NX P (oNil a0) w fun v65 w =>
NX P (oFieldAddr 82 v65 4) w fun v66 w =>
NX P (oFieldAddr 80 v66 3) w fun v67 w =>
NX P (oLoad 4 v67) w fun v68 w =>
IFB v68 (
J2 [(.int .i64 9)] w) (
J2 [(.int .i64 0)] w)) (
J2 [(.int .i64 0)] w)))) ∧ ∀ (f2 : Env) (w : World), J2 [f2 4] w →
∃ J3 : List Value → World → Prop, (
NX P (oBin .eql 35 false true (f2 4) (.int .i64 0)) w fun v71 w =>
IFB v71 (
NX P (oNil a0) w fun v74 w =>
NX P (oFieldAddr 82 v74 3) w fun v75 w =>
NX P (oFieldAddr 80 v75 0) w fun v76 w =>
NX P (oLoad 3 v76) w fun v77 w =>
NX P (oCall (fnV 84) [a0, v77]) w fun v78 w =>
J3 [v78] w) (
J3 [(f2 4)] w)) ∧ ∀ (f3 : Env) (w : World), J3 [f3 4] w →
∃ J4 : List Value → World → Prop, (
NX P (oBin .eql 35 false true (f3 4) (.int .i64 0)) w fun v80 w =>
IFB v80 (
NX P (oNil a0) w fun v83 w =>
NX P (oFieldAddr 82 v83 4) w fun v84 w =>
NX P (oFieldAddr 80 v84 0) w fun v85 w =>
NX P (oLoad 3 v85) w fun v86 w =>
NX P (oCall (fnV 84) [a0, v86]) w fun v87 w =>
J4 [v87] w) (
J4 [(f3 4)] w)) ∧ ∀ (f4 : Env) (w : World), J4 [f4 4] w →
∃ J5 : List Value → World → Prop, (
FX P (oBin .eql 35 false true (f4 4) (.int .i64 0)) fun v89 =>
IFB v89 (
FX P (oNil a0) fun v92 =>
FX P (oFieldAddr 82 v92 4) fun v93 =>
FX P (oFieldAddr 80 v93 2) fun v94 =>
LX P 3 v94 w.drew fun v95 =>
FX P (oBin .eql 3 false true v95 (.int .i64 0)) fun v96 =>
IFB v96 (
FX P (oNil a0) fun v100 =>
FX P (oFieldAddr 82 v100 4) fun v101 =>
FX P (oFieldAddr 80 v101 0) fun v102 =>
LX P 3 v102 w.drew fun v103 =>
FX P (oNil a0) fun v105 =>
FX P (oFieldAddr 82 v105 3) fun v106 =>
FX P (oFieldAddr 80 v106 0) fun v107 =>
LX P 3 v107 w.drew fun v108 =>
FX P (oBin .neq 3 false false v103 v108) fun v109 =>
IFB v109 (
FX P (oNil a0) fun v113 =>
FX P (oFieldAddr 82 v113 0) fun v114 =>
FX P (oFieldAddr 24 v114 0) fun v115 =>
LX P 22 v115 w.drew fun v116 =>
FX P (oNil a0) fun v118 =>
FX P (oFieldAddr 82 v118 4) fun v119 =>
FX P (oFieldAddr 80 v119 0) fun v120 =>
LX P 3 v120 w.drew fun v121 =>
FX P (oIndexAddr 22 v116 v121) fun v122 =>
FX P (oFieldAddr 44 v122 8) fun v123 =>
LX P 42 v123 w.drew fun v124 =>
FX P (oBuiltin .len #[42] 3 [false] [v124]) fun v125 =>
FX P (oBin .geq 3 false true v125 (.int .i64 512)) fun v126 =>
IFB v126 (
J5 [(.int .i64 11)] w.drew) (
J5 [(f4 4)] w.drew)) (
J5 [(f4 4)] w.drew)) (
J5 [(f4 4)] w.drew)) (
J5 [(f4 4)] w.drew)) ∧ ∀ (f5 : Env) (w : World), J5 [f5 4] w →
NX P (oBin .neq 35 false true (f5 4) (.int .i64 0)) w fun v129 w =>
IFB v129 (
R (f5 4) w) (
NX P (oNil a0) w fun v133 w =>
NX P (oFieldAddr 82 v133 3) w fun v134 w =>
NX P (oLoad 80 v134) w fun v135 w =>
NX P (oCall (fnV 85) [a0, v135]) w fun v136 w =>
NX P (oNil a0) w fun v139 w =>
NX P (oFieldAddr 82 v139 4) w fun v140 w =>
NX P (oLoad 80 v140) w fun v141 w =>
NX P (oCall (fnV 85) [a0, v141]) w fun v142 w =>
FX P (oNil a0) fun v145 =>
FX P (oFieldAddr 82 v145 4) fun v146 =>
LX P 80 v146 w.drew fun v147 =>
FX P (oNil a0) fun v149 =>
FX P (oFieldAddr 82 v149 3) fun v150 =>
FX P (oFieldAddr 80 v150 2) fun v151 =>
LX P 3 v151 w.drew fun v152 =>
NX P (oCall (fnV 89) [a0, v147, v152]) w.drew fun v153 w =>
∃ J6 : List Value → World → Prop, (
IFB v44 (
FX P (oNil a0) fun v157 =>
FX P (oFieldAddr 82 v157 3) fun v158 =>
LX P 80 v158 w.drew fun v159 =>
FX P (oNil a0) fun v162 =>
FX P (oFieldAddr 82 v162 4) fun v163 =>
FX P (oFieldAddr 80 v163 0) fun v164 =>
LX P 3 v164 w.drew fun v165 =>
NX P (oCall (fnV 79) [a0, v159]) w.drew fun v160 w =>
RD P w 3 v164 v165 ∧ (FX P (oNil v160) fun v166 =>
FX P (oFieldAddr 44 v166 9) fun v167 =>
NX P (oStore 3 v167 v165) w fun _ w =>
FX P (oNil a0) fun v169 =>
FX P (oFieldAddr 82 v169 0) fun v170 =>
FX P (oFieldAddr 24 v170 0) fun v171 =>
LX P 22 v171 w.drew fun v172 =>
FX P (oNil a0) fun v174 =>
FX P (oFieldAddr 82 v174 3) fun v175 =>
FX P (oFieldAddr 80 v175 0) fun v176 =>
LX P 3 v176 w.drew fun v177 =>
FX P (oIndexAddr 22 v172 v177) fun v178 =>
FX P (oFieldAddr 44 v178 4) fun v179 =>
LX P 3 v179 w.drew fun v180 =>
FX P (oBin .sub 3 false true v180 (.int .i64 1)) fun v181 =>
FX P (oIndexAddr 22 v172 v177) fun v182 =>
FX P (oFieldAddr 44 v182 4) fun v183 =>
NX P (oStore 3 v183 v181) w.drew fun _ w =>
FX P (oNil a0) fun v185 =>
FX P (oFieldAddr 82 v185 0) fun v186 =>
FX P (oFieldAddr 24 v186 0) fun v187 =>
LX P 22 v187 w.drew fun v188 =>
FX P (oNil a0) fun v190 =>
FX P (oFieldAddr 82 v190 4) fun v191 =>
FX P (oFieldAddr 80 v191 0) fun v192 =>
LX P 3 v192 w.drew fun v193 =>
FX P (oIndexAddr 22 v188 v193) fun v194 =>
FX P (oFieldAddr 44 v194 4) fun v195 =>
LX P 3 v195 w.drew fun v196 =>
FX P (oBin .add 3 false true v196 (.int .i64 1)) fun v197 =>
FX P (oIndexAddr 22 v188 v193) fun v198 =>
FX P (oFieldAddr 44 v198 4) fun v199 =>
NX P (oStore 3 v199 v197) w.drew fun _ w =>
J6 [] w)) (
J6 [] w)) ∧ ∀ (f6 : Env) (w : World), J6 [] w →
NX P (oNil a0) w fun v201 w =>
NX P (oFieldAddr 82 v201 4) w fun v202 w =>
NX P (oFieldAddr 80 v202 2) w fun v203 w =>
NX P (oLoad 3 v203) w fun v204 w =>
NX P (oBin .neq 3 false true v204 (.int .i64 0)) w fun v205 w =>
IFB v205 (
NX P (oNil a0) w fun v208 w =>
NX P (oFieldAddr 82 v208 4) w fun v209 w =>
NX P (oLoad 80 v209) w fun v210 w =>
NX P (oCall (fnV 86) [a0, v210]) w fun v211 w =>
R (.int .i64 0) w) (
R (.int .i64 0) w)))))
def pl63 : Pl := (.seq .leaf (.seq (.block (.join [5] [6, 7, 8, 9, 10, 11, 12, 13, 14, 15, 16, 17, 18, 19, 5] .leaf (.cond (.seq .leaf .leaf) (.seq .leaf (.cond (.seq .leaf .leaf) (.seq (.draw (.take 0 (.take 1 (.take 2 (.take 3 (.take 4 (.take 5 (.take 6 (.take 7 (.take 8 (.take 9 (.take 10 (.take 11 .fin))))))))))))) (.cond (.seq .leaf .leaf) .leaf))))))) (.seq .leaf (.join [4] [46, 45, 47, 48, 4, 50, 51, 52, 53, 54, 55, 49, 57, 58, 59, 60, 61, 62, 63, 64, 65, 66, 67, 68, 69, 56] (.block (.seq .leaf (.cond .leaf (.seq .leaf (.cond .leaf (.seq .leaf (.cond .leaf .leaf))))))) (.join [4] [70, 71, 72, 73, 74, 75, 76, 77, 78, 4] (.seq .leaf (.cond .leaf .leaf)) (.join [4] [79, 80, 81, 82, 83, 84, 85, 86, 87, 4] (.seq .leaf (.cond .leaf .leaf)) (.join [4] [88, 89, 90, 91, 92, 93, 94, 95, 96, 97, 98, 99, 100, 101, 102, 103, 104, 105, 106, 107, 108, 109, 110, 111, 112, 113, 114, 115, 116, 117, 118, 119, 120, 121, 122, 123, 124, 125, 126, 127, 4] (.seq (.draw (.take 0 (.take 1 (.take 2 (.take 3 (.take 4 (.take 5 (.take 6 (.take 7 (.take 8 (.take 9 (.take 10 (.take 11 (.take 12 (.take 13 (.take 14 (.take 15 (.take 16 (.take 17 (.take 18 (.take 19 (.take 20 (.take 21 (.take 22 (.take 23 (.take 24 (.take 25 (.take 26 (.take 27 (.take 28 (.take 29 (.take 30 (.take 31 (.take 32 (.take 33 (.take 34 (.take 35 (.take 36 (.take 37 (.take 38 (.take 39 .fin))))))))))))))))))))))))))))))))))))))))) (.cond .leaf .leaf)) (.seq (.seq .leaf (.cond (.seq .leaf .leaf) .leaf)) (.seq .leaf (.seq .leaf (.seq (.draw (.take 0 (.take 1 (.take 2 (.take 3 (.take 4 (.take 5 (.take 6 (.take 7 (.take 8 (.take 9 (.one 10 .fin)))))))))))) (.join [] [154, 155, 156, 157, 158, 159, 160, 161, 162, 163, 164, 165, 166, 167, 168, 169, 170, 171, 172, 173, 174, 175, 176, 177, 178, 179, 180, 181, 182, 183, 184, 185, 186, 187, 188, 189, 190, 191, 192, 193, 194, 195, 196, 197, 198, 199] (.seq .leaf (.cond (.seq (.draw (.take 0 (.take 1 (.take 2 (.take 3 (.take 4 (.take 6 (.take 7 (.take 8 (.take 9 (.take 10 (.one 5 (.take 11 (.take 12 (.one 13 .fin))))))))))))))) (.seq (.draw (.take 0 (.take 1 (.take 2 (.take 3 (.take 4 (.take 5 (.take 6 (.take 7 (.take 8 (.take 9 (.take 10 (.take 11 (.take 12 (.take 13 (.take 14 (.take 15 (.one 16 .fin)))))))))))))))))) (.draw (.take 0 (.take 1 (.take 2 (.take 3 (.take 4 (.take 5 (.take 6 (.take 7 (.take 8 (.take 9 (.take 10 (.take 11 (.take 12 (.take 13 (.take 14 (.take 15 (.one 16 .fin)))))))))))))))))))) .leaf)) (.seq (.seq .leaf (.cond .leaf .leaf)) (.seq .leaf .leaf))))))))))))))
theorem G63_ok {a0 : Value} {w : World} {R : Value → World → Prop} (h : G63 Tryz.prog a0 w R) : Calls Tryz.prog 63 #[a0] w fun e w' => ∃ v, e = .returned v ∧ R v w' :=
  sh_calls Tryz.mixed Tryz.func63 rfl pl63 (by kernel_rfl) (cast (by kernel_rfl) h)

/-- (*toolchest/calls.work).chmod -/
def G64 (P : Program) (a0 : Value) (w : World) (R : Value → World → Prop) : Prop :=
NX P (oNil a0) w fun v5 w =>
NX P (oFieldAddr 82 v5 3) w fun v6 w =>
NX P (oFieldAddr 80 v6 2) w fun v7 w =>
NX P (oLoad 3 v7) w fun v8 w =>
NX P (oBin .eql 3 false true v8 (.int .i64 0)) w fun v9 w =>
IFB v9 (
R (.int .i64 6) w) (
FX P (oNil a0) fun v13 =>
FX P (oFieldAddr 82 v13 3) fun v14 =>
LX P 80 v14 w.drew fun v15 =>
FX P (oNil a0) fun v20 =>
FX P (oFieldAddr 82 v20 2) fun v21 =>
LX P 32 v21 w.drew fun v22 =>
NX P (oCall (fnV 79) [a0, v15]) w.drew fun v16 w =>
RD P w 32 v21 v22 ∧ (FX P (oNil v16) fun v17 =>
LX P 44 v17 w fun v18 =>
NX P (oCall (fnV 16) [v18, v22]) w fun v23 w =>
FX P (oUn .not v23) fun v24 =>
IFB v24 (
R (.int .i64 10) w) (
FX P (oNil a0) fun v27 =>
FX P (oFieldAddr 82 v27 3) fun v28 =>
LX P 80 v28 w.drew fun v29 =>
FX P (oNil a0) fun v32 =>
FX P (oFieldAddr 82 v32 1) fun v33 =>
FX P (oFieldAddr 34 v33 3) fun v34 =>
LX P 3 v34 w.drew fun v35 =>
NX P (oCall (fnV 79) [a0, v29]) w.drew fun v30 w =>
RD P w 3 v34 v35 ∧ (FX P (oNil v30) fun v36 =>
FX P (oFieldAddr 44 v36 1) fun v37 =>
NX P (oStore 3 v37 v35) w fun _ w =>
R (.int .i64 0) w))))
def pl64 : Pl := (.seq .leaf (.seq (.block (.seq .leaf (.cond (.seq .leaf .leaf) (.seq (.draw (.take 0 (.take 1 (.take 2 (.take 3 (.take 4 (.take 8 (.take 9 (.take 10 (.take 11 (.one 5 (.take 6 (.take 7 (.one 12 (.take 13 (.take 14 .fin)))))))))))))))) (.cond (.seq .leaf .leaf) .leaf))))) (.seq (.draw (.take 0 (.take 1 (.take 2 (.take 3 (.take 4 (.take 6 (.take 7 (.take 8 (.take 9 (.take 10 (.one 5 (.take 11 (.take 12 (.one 13 .fin))))))))))))))) (.seq .leaf .leaf))))
theorem G64_ok {a0 : Value} {w : World} {R : Value → World → Prop} (h : G64 Tryz.prog a0 w R) : Calls Tryz.prog 64 #[a0] w fun e w' => ∃ v, e = .returned v ∧ R v w' :=
  sh_calls Tryz.mixed Tryz.func64 rfl pl64 (by kernel_rfl) (cast (by kernel_rfl) h)

/-- (*toolchest/calls.work).chown -/
def G65 (P : Program) (a0 : Value) (w : World) (R : Value → World → Prop) : Prop :=
NX P (oNil a0) w fun v6 w =>
NX P (oFieldAddr 82 v6 3) w fun v7 w =>
NX P (oFieldAddr 80 v7 2) w fun v8 w =>
NX P (oLoad 3 v8) w fun v9 w =>
NX P (oBin .eql 3 false true v9 (.int .i64 0)) w fun v10 w =>
IFB v10 (
R (.int .i64 6) w) (
NX P (oNil a0) w fun v13 w =>
NX P (oFieldAddr 82 v13 3) w fun v14 w =>
NX P (oLoad 80 v14) w fun v15 w =>
NX P (oCall (fnV 79) [a0, v15]) w fun v16 w =>
∃ J1 : List Value → World → Prop, (
FX P (oNil a0) fun v18 =>
FX P (oFieldAddr 82 v18 2) fun v19 =>
FX P (oFieldAddr 32 v19 0) fun v20 =>
LX P 3 v20 w.drew fun v21 =>
FX P (oBin .neq 3 false true v21 (.int .i64 0)) fun v22 =>
IFB v22 (
FX P (oNil a0) fun v26 =>
FX P (oFieldAddr 82 v26 1) fun v27 =>
FX P (oFieldAddr 34 v27 4) fun v28 =>
LX P 3 v28 w.drew fun v29 =>
FX P (oNil v16) fun v31 =>
FX P (oFieldAddr 44 v31 2) fun v32 =>
LX P 3 v32 w.drew fun v33 =>
NX P (oBuildSlice 69 1 [(0, v33)]) w.drew fun v34 w =>
RD P w 3 v28 v29 ∧ (RD P w 3 v20 v21 ∧ (NX P (oCall (fnV 91) [v29, v34]) w fun v35 w =>
RD P w 3 v20 v21 ∧ (FX P (oUn .not v35) fun v36 =>
IFB v36 (
RD P w 3 v20 v21 ∧ (RD P w 3 v20 v21 ∧ (RD P w 3 v20 v21 ∧ (R (.int .i64 10) w)))) (
FX P (oNil v16) fun v39 =>
LX P 44 v39 w fun v40 =>
FX P (oNil a0) fun v42 =>
FX P (oFieldAddr 82 v42 2) fun v43 =>
LX P 32 v43 w fun v44 =>
NX P (oCall (fnV 16) [v40, v44]) w fun v45 w =>
RD P w 3 v20 v21 ∧ (FX P (oUn .not v45) fun v46 =>
IFB v46 (
RD P w 3 v20 v21 ∧ (RD P w 3 v20 v21 ∧ (R (.int .i64 10) w))) (
FX P (oNil a0) fun v51 =>
FX P (oFieldAddr 82 v51 1) fun v52 =>
FX P (oFieldAddr 34 v52 5) fun v53 =>
LX P 3 v53 w fun v54 =>
FX P (oNil v16) fun v56 =>
FX P (oFieldAddr 44 v56 3) fun v57 =>
LX P 3 v57 w fun v58 =>
FX P (oNil a0) fun v60 =>
FX P (oFieldAddr 82 v60 2) fun v61 =>
FX P (oFieldAddr 32 v61 1) fun v62 =>
LX P 3 v62 w fun v63 =>
NX P (oBuildSlice 69 2 [(0, v58), (1, v63)]) w fun v64 w =>
RD P w 3 v53 v54 ∧ (RD P w 3 v20 v21 ∧ (NX P (oCall (fnV 91) [v54, v64]) w fun v65 w =>
RD P w 3 v20 v21 ∧ (FX P (oUn .not v65) fun v66 =>
IFB v66 (
R (.int .i64 10) w) (
J1 [] w))))))))))) (
RD P w.drew 3 v20 v21 ∧ (RD P w.drew 3 v20 v21 ∧ (RD P w.drew 3 v20 v21 ∧ (RD P w.drew 3 v20 v21 ∧ (RD P w.drew 3 v20 v21 ∧ (J1 [] w.drew))))))) ∧ ∀ (f1 : Env) (w : World), J1 [] w →
∃ J2 : List Value → World → Prop, (
NX P (oNil a0) w fun v70 w =>
NX P (oFieldAddr 82 v70 1) w fun v71 w =>
NX P (oFieldAddr 34 v71 4) w fun v72 w =>
NX P (oLoad 3 v72) w fun v73 w =>
NX P (oBin .geq 3 false true v73 (.int .i64 0)) w fun v74 w =>
IFB v74 (
NX P (oNil a0) w fun v77 w =>
NX P (oFieldAddr 82 v77 1) w fun v78 w =>
NX P (oFieldAddr 34 v78 4) w fun v79 w =>
NX P (oLoad 3 v79) w fun v80 w =>
NX P (oNil v16) w fun v81 w =>
NX P (oFieldAddr 44 v81 2) w fun v82 w =>
NX P (oStore 3 v82 v80) w fun _ w =>
J2 [] w) (
J2 [] w)) ∧ ∀ (f2 : Env) (w : World), J2 [] w →
NX P (oNil a0) w fun v84 w =>
NX P (oFieldAddr 82 v84 1) w fun v85 w =>
NX P (oFieldAddr 34 v85 5) w fun v86 w =>
NX P (oLoad 3 v86) w fun v87 w =>
NX P (oBin .geq 3 false true v87 (.int .i64 0)) w fun v88 w =>
IFB v88 (
NX P (oNil a0) w fun v91 w =>
NX P (oFieldAddr 82 v91 1) w fun v92 w =>
NX P (oFieldAddr 34 v92 5) w fun v93 w =>
NX P (oLoad 3 v93) w fun v94 w =>
NX P (oNil v16) w fun v95 w =>
NX P (oFieldAddr 44 v95 3) w fun v96 w =>
NX P (oStore 3 v96 v94) w fun _ w =>
R (.int .i64 0) w) (
R (.int .i64 0) w))
def pl65 : Pl := (.seq .leaf (.seq (.seq .leaf (.cond (.seq .leaf .leaf) .leaf)) (.seq .leaf (.seq .leaf (.join [] [17, 18, 19, 20, 21, 22, 23, 24, 25, 26, 27, 28, 29, 30, 31, 32, 33, 34, 35, 36, 37, 38, 39, 40, 41, 42, 43, 44, 45, 46, 47, 48, 49, 50, 51, 52, 53, 54, 55, 56, 57, 58, 59, 60, 61, 62, 63, 64, 65, 66, 67, 68, 2] (.seq (.draw (.take 0 (.take 1 (.take 2 (.take 3 (.take 4 (.take 5 (.take 6 (.take 7 (.take 8 (.take 9 (.take 10 (.take 11 (.take 12 (.take 13 (.take 14 (.take 15 (.take 16 (.one 17 (.one 18 (.take 19 (.take 20 (.take 21 (.take 22 (.take 23 (.take 24 (.take 25 (.take 26 (.take 27 (.one 28 (.take 29 (.take 30 (.take 31 (.take 32 (.take 33 (.take 34 (.take 35 (.take 36 (.take 37 (.take 38 (.take 39 (.take 40 (.take 41 (.take 42 (.take 43 (.take 44 (.take 45 (.take 46 (.one 47 (.one 48 (.take 49 (.take 50 (.take 51 .fin))))))))))))))))))))))))))))))))))))))))))))))))))))) (.cond (.seq .leaf .leaf) .leaf)) (.join [] [69, 70, 71, 72, 73, 74, 75, 76, 77, 78, 79, 80, 81, 82] (.seq .leaf (.cond .leaf .leaf)) (.seq (.seq .leaf (.cond .leaf .leaf)) (.seq .leaf .leaf))))))))
theorem G65_ok {a0 : Value} {w : World} {R : Value → World → Prop} (h : G65 Tryz.prog a0 w R) : Calls Tryz.prog 65 #[a0] w fun e w' => ∃ v, e = .returned v ∧ R v w' :=
  sh_calls Tryz.mixed Tryz.func65 rfl pl65 (by kernel_rfl) (cast (by kernel_rfl) h)

/-- (*toolchest/calls.work).touch -/
def G66 (P : Program) (a0 : Value) (w : World) (R : Value → World → Prop) : Prop :=
NX P (oNil a0) w fun v5 w =>
NX P (oFieldAddr 82 v5 3) w fun v6 w =>
NX P (oFieldAddr 80 v6 2) w fun v7 w =>
NX P (oLoad 3 v7) w fun v8 w =>
NX P (oBin .eql 3 false true v8 (.int .i64 0)) w fun v9 w =>
IFB v9 (
R (.int .i64 6) w) (
NX P (oNil a0) w fun v12 w =>
NX P (oFieldAddr 82 v12 3) w fun v13 w =>
NX P (oLoad 80 v13) w fun v14 w =>
NX P (oCall (fnV 79) [a0, v14]) w fun v15 w =>
∃ J1 : List Value → World → Prop, (
FX P (oNil v15) fun v17 =>
LX P 44 v17 w.drew fun v18 =>
FX P (oNil a0) fun v20 =>
FX P (oFieldAddr 82 v20 2) fun v21 =>
LX P 32 v21 w.drew fun v22 =>
NX P (oCall (fnV 16) [v18, v22]) w.drew fun v23 w =>
FX P (oUn .not v23) fun v24 =>
IFB v24 (
FX P (oNil v15) fun v27 =>
LX P 44 v27 w fun v28 =>
FX P (oNil a0) fun v30 =>
FX P (oFieldAddr 82 v30 2) fun v31 =>
LX P 32 v31 w fun v32 =>
NX P (oCall (fnV 14) [v28, v32, (.int .i64 2)]) w fun v33 w =>
FX P (oUn .not v33) fun v34 =>
IFB v34 (
R (.int .i64 10) w) (
J1 [] w)) (
J1 [] w)) ∧ ∀ (f1 : Env) (w : World), J1 [] w →
NX P (oNil a0) w fun v38 w =>
NX P (oFieldAddr 82 v38 1) w fun v39 w =>
NX P (oFieldAddr 34 v39 6) w fun v40 w =>
NX P (oLoad 3 v40) w fun v41 w =>
NX P (oNil v15) w fun v42 w =>
NX P (oFieldAddr 44 v42 5) w fun v43 w =>
NX P (oStore 3 v43 v41) w fun _ w =>
NX P (oNil v15) w fun v45 w =>
NX P (oFieldAddr 44 v45 5) w fun v46 w =>
NX P (oLoad 3 v46) w fun v47 w =>
NX P (oBin .lss 3 false true v47 (.int .i64 0)) w fun v48 w =>
IFB v48 (
NX P (oNil a0) w fun v51 w =>
NX P (oFieldAddr 82 v51 0) w fun v52 w =>
NX P (oFieldAddr 24 v52 1) w fun v53 w =>
NX P (oLoad 3 v53) w fun v54 w =>
NX P (oNil v15) w fun v55 w =>
NX P (oFieldAddr 44 v55 5) w fun v56 w =>
NX P (oStore 3 v56 v54) w fun _ w =>
R (.int .i64 0) w) (
R (.int .i64 0) w))
def pl66 : Pl := (.seq .leaf (.seq (.seq .leaf (.cond (.seq .leaf .leaf) .leaf)) (.seq .leaf (.join [] [16, 17, 18, 19, 20, 21, 22, 23, 24, 25, 26, 27, 28, 29, 30, 31, 32, 33, 34, 35, 2] (.seq (.draw (.take 0 (.take 1 (.take 2 (.take 3 (.take 4 (.take 5 (.take 6 (.one 7 (.take 8 (.take 9 (.take 10 (.take 11 (.take 12 (.take 13 (.take 14 (.take 15 (.take 16 (.one 17 (.take 18 (.take 19 .fin))))))))))))))))))))) (.cond (.seq .leaf .leaf) .leaf)) (.seq (.seq .leaf (.seq .leaf (.cond .leaf .leaf))) (.seq .leaf .leaf))))))
theorem G66_ok {a0 : Value} {w : World} {R : Value → World → Prop} (h : G66 Tryz.prog a0 w R) : Calls Tryz.prog 66 #[a0] w fun e w' => ∃ v, e = .returned v ∧ R v w' :=
  sh_calls Tryz.mixed Tryz.func66 rfl pl66 (by kernel_rfl) (cast (by kernel_rfl) h)

/-- (*toolchest/calls.work).tick -/
def G67 (P : Program) (a0 : Value) (w : World) (R : Value → World → Prop) : Prop :=
FX P (oNil a0) fun v5 =>
FX P (oFieldAddr 82 v5 0) fun v6 =>
FX P (oFieldAddr 24 v6 1) fun v7 =>
LX P 3 v7 w.drew fun v8 =>
FX P (oNil a0) fun v10 =>
FX P (oFieldAddr 82 v10 1) fun v11 =>
FX P (oFieldAddr 34 v11 6) fun v12 =>
LX P 3 v12 w.drew fun v13 =>
FX P (oBin .add 3 false false v8 v13) fun v14 =>
FX P (oBuiltin .min #[3, 3] 3 [false, true] [v14, (.int .i64 1099511627775)]) fun v15 =>
FX P (oNil a0) fun v16 =>
FX P (oFieldAddr 82 v16 0) fun v17 =>
FX P (oFieldAddr 24 v17 1) fun v18 =>
NX P (oStore 3 v18 v15) w.drew fun _ w =>
R (.int .i64 0) w
def pl67 : Pl := (.seq .leaf (.seq (.draw (.take 0 (.take 1 (.take 2 (.take 3 (.take 4 (.take 5 (.take 6 (.take 7 (.take 8 (.take 9 (.take 10 (.take 11 (.take 12 (.take 13 (.take 14 (.take 15 (.one 16 .fin)))))))))))))))))) (.seq .leaf .leaf)))
theorem G67_ok {a0 : Value} {w : World} {R : Value → World → Prop} (h : G67 Tryz.prog a0 w R) : Calls Tryz.prog 67 #[a0] w fun e w' => ∃ v, e = .returned v ∧ R v w' :=
  sh_calls Tryz.mixed Tryz.func67 rfl pl67 (by kernel_rfl) (cast (by kernel_rfl) h)

/-- (*toolchest/calls.work).is -/
def G78 (P : Program) (a0 a1 a2 : Value) (w : World) (R : Value → World → Prop) : Prop :=
NX P (oBox 80 a1) w fun v4 w =>
NX P (oFieldAddr 80 v4 2) w fun v7 w =>
NX P (oLoad 3 v7) w fun v8 w =>
NX P (oBin .neq 3 false true v8 (.int .i64 0)) w fun v9 w =>
IFB v9 (
NX P (oLoad 80 v4) w fun v12 w =>
NX P (oCall (fnV 79) [a0, v12]) w fun v13 w =>
NX P (oNil v13) w fun v14 w =>
NX P (oFieldAddr 44 v14 0) w fun v15 w =>
NX P (oLoad 41 v15) w fun v16 w =>
NX P (oBin .eql 41 false false v16 a2) w fun v18 w =>
R v18 w) (
R (.bool false) w)
def pl78 : Pl := (.seq .leaf (.seq .leaf .leaf))
theorem G78_ok {a0 a1 a2 : Value} {w : World} {R : Value → World → Prop} (h : G78 Tryz.prog a0 a1 a2 w R) : Calls Tryz.prog 78 #[a0, a1, a2] w fun e w' => ∃ v, e = .returned v ∧ R v w' :=
  sh_calls Tryz.mixed Tryz.func78 rfl pl78 (by kernel_rfl) (cast (by kernel_rfl) h)

/-- (*toolchest/calls.work).at -/
def G79 (P : Program) (a0 a1 : Value) (w : World) (R : Value → World → Prop) : Prop :=
NX P (oBox 80 a1) w fun v3 w =>
FX P (oNil a0) fun v6 =>
FX P (oFieldAddr 82 v6 0) fun v7 =>
FX P (oFieldAddr 24 v7 0) fun v8 =>
LX P 22 v8 w.drew fun v9 =>
FX P (oFieldAddr 80 v3 2) fun v10 =>
LX P 3 v10 w.drew fun v11 =>
FX P (oIndexAddr 22 v9 v11) fun v12 =>
R v12 w.drew
def pl79 : Pl := (.seq .leaf (.seq (.draw (.take 0 (.take 1 (.take 2 (.take 3 (.take 4 (.take 5 (.take 6 (.take 7 (.take 8 .fin)))))))))) .leaf))
theorem G79_ok {a0 a1 : Value} {w : World} {R : Value → World → Prop} (h : G79 Tryz.prog a0 a1 w R) : Calls Tryz.prog 79 #[a0, a1] w fun e w' => ∃ v, e = .returned v ∧ R v w' :=
  sh_calls Tryz.mixed Tryz.func79 rfl pl79 (by kernel_rfl) (cast (by kernel_rfl) h)

/-- (*toolchest/calls.work).comes -/
def G80 (P : Program) (a0 a1 : Value) (w : World) (R : Value → World → Prop) : Prop :=
NX P (oNil a0) w fun v9 w =>
NX P (oFieldAddr 82 v9 0) w fun v10 w =>
NX P (oFieldAddr 24 v10 0) w fun v11 w =>
NX P (oLoad 22 v11) w fun v12 w =>
NX P (oBuiltin .len #[22] 3 [false] [v12]) w fun v13 w =>
∃ (I1 : List Value → World → Prop) (m1 : List Value → World → Nat), I1 [(.int .i64 0), (.int .i64 0)] w ∧ ∀ (f1 : Env) (wh1 : World), I1 [f1 5, f1 14] wh1 →
NX P (oBin .lss 3 false false (f1 14) v13) wh1 fun v15 w =>
IFB v15 (
NX P (oIndexAddr 22 v12 (f1 14)) w fun v16 w =>
NX P (oLoad 44 v16) w fun v17 w =>
NX P (oAlloc 44) w fun v7 w =>
NX P (oStore 44 v7 v17) w fun _ w =>
NX P (oFieldAddr 44 v7 8) w fun v19 w =>
NX P (oLoad 42 v19) w fun v20 w =>
NX P (oBuiltin .len #[42] 3 [false] [v20]) w fun v21 w =>
NX P (oBin .add 3 false false (f1 5) v21) w fun v22 w =>
NX P (oBin .add 3 false true (f1 14) (.int .i64 1)) w fun v23 w =>
I1 [v22, v23] w ∧ m1 [v22, v23] w < m1 [f1 5, f1 14] wh1) (
FX P (oNil a0) fun v26 =>
FX P (oFieldAddr 82 v26 0) fun v27 =>
FX P (oFieldAddr 24 v27 0) fun v28 =>
LX P 22 v28 w.drew fun v29 =>
FX P (oIndexAddr 22 v29 a1) fun v31 =>
LX P 44 v31 w.drew fun v32 =>
FX P (oNil a0) fun v34 =>
FX P (oFieldAddr 82 v34 2) fun v35 =>
LX P 32 v35 w.drew fun v36 =>
NX P (oCall (fnV 14) [v32, v36, (.int .i64 2)]) w.drew fun v37 w =>
RD P w 22 v28 v29 ∧ (FX P (oUn .not v37) fun v38 =>
IFB v38 (
R (.int .i64 10) w) (
NX P (oNil a0) w fun v41 w =>
NX P (oFieldAddr 82 v41 0) w fun v42 w =>
NX P (oFieldAddr 24 v42 0) w fun v43 w =>
NX P (oLoad 22 v43) w fun v44 w =>
NX P (oIndexAddr 22 v44 a1) w fun v46 w =>
NX P (oFieldAddr 44 v46 8) w fun v47 w =>
NX P (oLoad 42 v47) w fun v48 w =>
NX P (oBuiltin .len #[42] 3 [false] [v48]) w fun v49 w =>
NX P (oBin .geq 3 false true v49 (.int .i64 512)) w fun v50 w =>
IFB v50 (
R (.int .i64 11) w) (
NX P (oBin .geq 3 false true (f1 5) (.int .i64 2048)) w fun v53 w =>
IFB v53 (
R (.int .i64 11) w) (
R (.int .i64 0) w)))))
def pl80 : Pl := (.seq .leaf (.seq .leaf (.seq (.seq .leaf (.block (.loop [5, 14] [15, 16, 17, 7, 18, 19, 20, 21, 22, 5, 23, 14] (.seq .leaf (.seq (.cond .leaf .leaf) (.seq (.block (.seq .leaf .leaf)) .leaf)))))) (.seq (.block (.seq (.draw (.take 0 (.take 1 (.take 2 (.take 3 (.take 4 (.take 5 (.take 6 (.take 7 (.take 8 (.take 9 (.take 10 (.take 11 (.one 12 (.take 13 (.take 14 .fin)))))))))))))))) (.cond (.seq .leaf .leaf) (.seq .leaf (.cond (.seq .leaf .leaf) .leaf))))) (.seq .leaf .leaf)))))
theorem G80_ok {a0 a1 : Value} {w : World} {R : Value → World → Prop} (h : G80 Tryz.prog a0 a1 w R) : Calls Tryz.prog 80 #[a0, a1] w fun e w' => ∃ v, e = .returned v ∧ R v w' :=
  sh_calls Tryz.mixed Tryz.func80 rfl pl80 (by kernel_rfl) (cast (by kernel_rfl) h)

/-- (*toolchest/calls.work).node -/
def G81 (P : Program) (a0 a1 a2 : Value) (w : World) (R : Value → World → Prop) : Prop :=
NX P (oBox 80 a1) w fun v4 w =>
NX P (oBox 44 a2) w fun v5 w =>
NX P (oNil a0) w fun v12 w =>
NX P (oFieldAddr 82 v12 0) w fun v13 w =>
NX P (oFieldAddr 24 v13 0) w fun v14 w =>
NX P (oLoad 22 v14) w fun v15 w =>
NX P (oBuiltin .len #[22] 3 [false] [v15]) w fun v16 w =>
∃ (I1 : List Value → World → Prop) (m1 : List Value → World → Nat), I1 [(.int .i64 0), (.int .i64 0), (.int .i64 0)] w ∧ ∀ (f1 : Env) (wh1 : World), I1 [f1 7, f1 8, f1 17] wh1 →
NX P (oBin .lss 3 false false (f1 17) v16) wh1 fun v18 w =>
IFB v18 (
NX P (oIndexAddr 22 v15 (f1 17)) w fun v20 w =>
NX P (oLoad 44 v20) w fun v21 w =>
NX P (oAlloc 44) w fun v10 w =>
NX P (oStore 44 v10 v21) w fun _ w =>
NX P (oFieldAddr 44 v10 0) w fun v23 w =>
NX P (oLoad 41 v23) w fun v24 w =>
NX P (oBin .neq 41 false true v24 (.int .u8 0)) w fun v25 w =>
IFB v25 (
NX P (oBin .add 3 false true (f1 7) (.int .i64 1)) w fun v27 w =>
NX P (oBin .add 3 false true (f1 17) (.int .i64 1)) w fun v36 w =>
I1 [v27, (f1 8), v36] w ∧ m1 [v27, (f1 8), v36] w < m1 [f1 7, f1 8, f1 17] wh1) (
NX P (oBin .gtr 3 false true (f1 17) (.int .i64 1)) w fun v30 w =>
IFB v30 (
NX P (oBin .eql 3 false true (f1 8) (.int .i64 0)) w fun v33 w =>
IFB v33 (
NX P (oBin .add 3 false true (f1 17) (.int .i64 1)) w fun v36 w =>
I1 [(f1 7), (f1 17), v36] w ∧ m1 [(f1 7), (f1 17), v36] w < m1 [f1 7, f1 8, f1 17] wh1) (
NX P (oBin .add 3 false true (f1 17) (.int .i64 1)) w fun v36 w =>
I1 [(f1 7), (f1 8), v36] w ∧ m1 [(f1 7), (f1 8), v36] w < m1 [f1 7, f1 8, f1 17] wh1)) (
NX P (oBin .add 3 false true (f1 17) (.int .i64 1)) w fun v36 w =>
I1 [(f1 7), (f1 8), v36] w ∧ m1 [(f1 7), (f1 8), v36] w < m1 [f1 7, f1 8, f1 17] wh1))) (
NX P (oBin .geq 3 false true (f1 7) (.int .i64 512)) w fun v38 w =>
IFB v38 (
R (.int .i64 11) w) (
∃ J2 : List Value → World → Prop, (
NX P (oBin .eql 3 false true (f1 8) (.int .i64 0)) w fun v40 w =>
IFB v40 (
NX P (oNil a0) w fun v42 w =>
NX P (oFieldAddr 82 v42 0) w fun v43 w =>
NX P (oFieldAddr 24 v43 0) w fun v44 w =>
NX P (oLoad 22 v44) w fun v45 w =>
NX P (oBuiltin .len #[22] 3 [false] [v45]) w fun v46 w =>
NX P (oNil a0) w fun v49 w =>
NX P (oFieldAddr 82 v49 0) w fun v50 w =>
NX P (oFieldAddr 24 v50 0) w fun v51 w =>
NX P (oLoad 22 v51) w fun v52 w =>
NX P (oBuild 44 []) w fun v53 w =>
NX P (oBuildSlice 22 1 [(0, v53)]) w fun v54 w =>
NX P (oBuiltin .append #[22, 22] 22 [false, false] [v52, v54]) w fun v55 w =>
NX P (oNil a0) w fun v56 w =>
NX P (oFieldAddr 82 v56 0) w fun v57 w =>
NX P (oFieldAddr 24 v57 0) w fun v58 w =>
NX P (oStore 22 v58 v55) w fun _ w =>
J2 [v46] w) (
J2 [(f1 8)] w)) ∧ ∀ (f2 : Env) (w : World), J2 [f2 8] w →
FX P (oNil a0) fun v60 =>
FX P (oFieldAddr 82 v60 2) fun v61 =>
FX P (oFieldAddr 32 v61 0) fun v62 =>
LX P 3 v62 w.drew fun v63 =>
FX P (oNil a0) fun v65 =>
FX P (oFieldAddr 82 v65 2) fun v66 =>
FX P (oFieldAddr 32 v66 1) fun v67 =>
LX P 3 v67 w.drew fun v68 =>
FX P (oNil a0) fun v70 =>
FX P (oFieldAddr 82 v70 0) fun v71 =>
FX P (oFieldAddr 24 v71 1) fun v72 =>
LX P 3 v72 w.drew fun v73 =>
FX P (oFieldAddr 44 v5 2) fun v74 =>
NX P (oStore 3 v74 v63) w.drew fun _ w =>
RD P w 3 v72 v73 ∧ (RD P w 3 v67 v68 ∧ (FX P (oFieldAddr 44 v5 3) fun v75 =>
NX P (oStore 3 v75 v68) w fun _ w =>
RD P w 3 v72 v73 ∧ (FX P (oFieldAddr 44 v5 5) fun v76 =>
NX P (oStore 3 v76 v73) w fun _ w =>
FX P (oNil a0) fun v78 =>
FX P (oFieldAddr 82 v78 0) fun v79 =>
FX P (oFieldAddr 24 v79 0) fun v80 =>
LX P 22 v80 w.drew fun v81 =>
LX P 44 v5 w.drew fun v83 =>
FX P (oIndexAddr 22 v81 (f2 8)) fun v84 =>
NX P (oStore 44 v84 v83) w.drew fun _ w =>
NX P (oLoad 80 v4) w fun v86 w =>
NX P (oCall (fnV 89) [a0, v86, (f2 8)]) w fun v88 w =>
R (.int .i64 0) w)))))
def pl81 : Pl := (.seq .leaf (.seq .leaf (.seq (.seq .leaf (.block (.loop [7, 8, 17] [18, 19, 20, 21, 10, 9, 23, 24, 25, 22, 26, 27, 7, 29, 30, 31, 32, 33, 34, 28, 35, 8, 36, 17] (.seq .leaf (.seq (.cond .leaf .leaf) (.seq (.block (.seq .leaf (.block (.seq .leaf (.cond .leaf (.seq .leaf (.cond .leaf .leaf))))))) .leaf)))))) (.seq (.seq .leaf (.cond (.seq .leaf .leaf) .leaf)) (.join [8] [39, 40, 41, 42, 43, 44, 45, 46, 8, 47, 48, 49, 50, 51, 52, 53, 54, 55, 56, 57, 58] (.seq .leaf (.cond (.seq .leaf .leaf) .leaf)) (.seq (.draw (.take 0 (.take 1 (.take 2 (.take 3 (.take 4 (.take 5 (.take 6 (.take 7 (.take 8 (.take 9 (.take 10 (.take 11 (.take 12 (.take 13 (.take 14 (.take 15 (.one 16 (.take 17 (.one 18 (.take 19 (.one 20 .fin)))))))))))))))))))))) (.seq (.draw (.take 0 (.take 1 (.take 2 (.take 3 (.take 4 (.take 5 (.take 6 (.take 7 (.one 8 .fin)))))))))) (.seq .leaf (.seq .leaf .leaf)))))))))
theorem G81_ok {a0 a1 a2 : Value} {w : World} {R : Value → World → Prop} (h : G81 Tryz.prog a0 a1 a2 w R) : Calls Tryz.prog 81 #[a0, a1, a2] w fun e w' => ∃ v, e = .returned v ∧ R v w' :=
  sh_calls Tryz.mixed Tryz.func81 rfl pl81 (by kernel_rfl) (cast (by kernel_rfl) h)

/-- (*toolchest/calls.work).empty -/
def G83 (P : Program) (a0 a1 : Value) (w : World) (R : Value → World → Prop) : Prop :=
NX P (oBox 80 a1) w fun v3 w =>
NX P (oLoad 80 v3) w fun v7 w =>
NX P (oCall (fnV 78) [a0, v7, (.int .u8 2)]) w fun v8 w =>
NX P (oUn .not v8) w fun v9 w =>
IFB v9 (
R (.int .i64 9) w) (
LX P 80 v3 w.drew fun v12 =>
NX P (oCall (fnV 79) [a0, v12]) w.drew fun v13 w =>
FX P (oNil v13) fun v14 =>
FX P (oFieldAddr 44 v14 8) fun v15 =>
LX P 42 v15 w fun v16 =>
FX P (oBuiltin .len #[42] 3 [false] [v16]) fun v17 =>
FX P (oBin .gtr 3 false true v17 (.int .i64 0)) fun v18 =>
IFB v18 (
R (.int .i64 14) w) (
FX P (oFieldAddr 80 v3 2) fun v20 =>
LX P 3 v20 w fun v21 =>
FX P (oNil a0) fun v23 =>
FX P (oFieldAddr 82 v23 2) fun v24 =>
FX P (oFieldAddr 32 v24 3) fun v25 =>
LX P 3 v25 w fun v26 =>
FX P (oBin .eql 3 false false v21 v26) fun v27 =>
IFB v27 (
R (.int .i64 14) w) (
R (.int .i64 0) w)))
def pl83 : Pl := (.seq .leaf (.seq (.block (.seq .leaf (.cond (.seq .leaf .leaf) (.seq (.draw (.take 0 (.take 1 (.one 2 (.take 3 (.take 4 (.take 5 (.take 6 (.take 7 (.take 8 (.take 9 (.take 10 (.take 11 (.take 12 (.take 13 (.take 14 (.take 15 (.take 16 (.take 17 (.take 18 .fin)))))))))))))))))))) (.cond (.seq .leaf .leaf) .leaf))))) (.seq .leaf .leaf)))
theorem G83_ok {a0 a1 : Value} {w : World} {R : Value → World → Prop} (h : G83 Tryz.prog a0 a1 w R) : Calls Tryz.prog 83 #[a0, a1] w fun e w' => ∃ v, e = .returned v ∧ R v w' :=
  sh_calls Tryz.mixed Tryz.func83 rfl pl83 (by kernel_rfl) (cast (by kernel_rfl) h)

/-- (*toolchest/calls.work).goes -/
def G84 (P : Program) (a0 a1 : Value) (w : World) (R : Value → World → Prop) : Prop :=
FX P (oNil a0) fun v6 =>
FX P (oFieldAddr 82 v6 0) fun v7 =>
FX P (oFieldAddr 24 v7 0) fun v8 =>
LX P 22 v8 w.drew fun v9 =>
FX P (oIndexAddr 22 v9 a1) fun v11 =>
LX P 44 v11 w.drew fun v12 =>
FX P (oNil a0) fun v14 =>
FX P (oFieldAddr 82 v14 2) fun v15 =>
LX P 32 v15 w.drew fun v16 =>
NX P (oCall (fnV 14) [v12, v16, (.int .i64 2)]) w.drew fun v17 w =>
RD P w 22 v8 v9 ∧ (FX P (oUn .not v17) fun v18 =>
IFB v18 (
R (.int .i64 10) w) (
R (.int .i64 0) w))
def pl84 : Pl := (.seq .leaf (.seq (.seq (.draw (.take 0 (.take 1 (.take 2 (.take 3 (.take 4 (.take 5 (.take 6 (.take 7 (.take 8 (.take 9 (.take 10 (.take 11 (.one 12 (.take 13 .fin))))))))))))))) (.cond (.seq .leaf .leaf) .leaf)) (.seq .leaf .leaf)))
theorem G84_ok {a0 a1 : Value} {w : World} {R : Value → World → Prop} (h : G84 Tryz.prog a0 a1 w R) : Calls Tryz.prog 84 #[a0, a1] w fun e w' => ∃ v, e = .returned v ∧ R v w' :=
  sh_calls Tryz.mixed Tryz.func84 rfl pl84 (by kernel_rfl) (cast (by kernel_rfl) h)

/-- (*toolchest/calls.work).unname -/
def G85 (P : Program) (a0 a1 : Value) (w : World) (R : Value → World → Prop) : Prop :=
NX P (oBox 80 a1) w fun v3 w =>
FX P (oNil a0) fun v6 =>
FX P (oFieldAddr 82 v6 0) fun v7 =>
FX P (oFieldAddr 24 v7 0) fun v8 =>
LX P 22 v8 w.drew fun v9 =>
FX P (oFieldAddr 80 v3 0) fun v10 =>
LX P 3 v10 w.drew fun v11 =>
FX P (oIndexAddr 22 v9 v11) fun v12 =>
NX P (oNil v12) w.drew fun v15 w =>
NX P (oFieldAddr 44 v15 8) w fun v16 w =>
NX P (oLoad 42 v16) w fun v17 w =>
NX P (oFunc (.func 104) [] [v3]) w fun v18 w =>
NX P (oCall (fnV 103) [v17, v18]) w fun v19 w =>
NX P (oNil v12) w fun v20 w =>
NX P (oFieldAddr 44 v20 8) w fun v21 w =>
NX P (oStore 42 v21 v19) w fun _ w =>
NX P (oNil a0) w fun v24 w =>
NX P (oFieldAddr 82 v24 0) w fun v25 w =>
NX P (oFieldAddr 24 v25 1) w fun v26 w =>
NX P (oLoad 3 v26) w fun v27 w =>
NX P (oNil v12) w fun v28 w =>
NX P (oFieldAddr 44 v28 5) w fun v29 w =>
NX P (oStore 3 v29 v27) w fun _ w =>
R (.tuple #[]) w
def pl85 : Pl := (.seq .leaf (.seq (.draw (.take 0 (.take 1 (.take 2 (.take 3 (.take 4 (.take 5 (.take 6 (.take 7 (.take 8 .fin)))))))))) (.seq .leaf .leaf)))
theorem G85_ok {a0 a1 : Value} {w : World} {R : Value → World → Prop} (h : G85 Tryz.prog a0 a1 w R) : Calls Tryz.prog 85 #[a0, a1] w fun e w' => ∃ v, e = .returned v ∧ R v w' :=
  sh_calls Tryz.mixed Tryz.func85 rfl pl85 (by kernel_rfl) (cast (by kernel_rfl) h)

/-- (*toolchest/calls.work).loses -/
def G86 (P : Program) (a0 a1 : Value) (w : World) (R : Value → World → Prop) : Prop :=
NX P (oBox 80 a1) w fun v3 w =>
NX P (oLoad 80 v3) w fun v6 w =>
NX P (oCall (fnV 79) [a0, v6]) w fun v7 w =>
NX P (oNil v7) w fun v9 w =>
NX P (oFieldAddr 44 v9 4) w fun v10 w =>
NX P (oLoad 3 v10) w fun v11 w =>
NX P (oBin .sub 3 false true v11 (.int .i64 1)) w fun v12 w =>
NX P (oNil v7) w fun v13 w =>
NX P (oFieldAddr 44 v13 4) w fun v14 w =>
NX P (oStore 3 v14 v12) w fun _ w =>
∃ J1 : List Value → World → Prop, (
NX P (oNil v7) w fun v16 w =>
NX P (oFieldAddr 44 v16 0) w fun v17 w =>
NX P (oLoad 41 v17) w fun v18 w =>
NX P (oBin .eql 41 false true v18 (.int .u8 2)) w fun v19 w =>
IFB v19 (
FX P (oNil a0) fun v21 =>
FX P (oFieldAddr 82 v21 0) fun v22 =>
FX P (oFieldAddr 24 v22 0) fun v23 =>
LX P 22 v23 w.drew fun v24 =>
FX P (oFieldAddr 80 v3 0) fun v25 =>
LX P 3 v25 w.drew fun v26 =>
FX P (oIndexAddr 22 v24 v26) fun v27 =>
FX P (oFieldAddr 44 v27 4) fun v28 =>
LX P 3 v28 w.drew fun v29 =>
FX P (oBin .sub 3 false true v29 (.int .i64 1)) fun v30 =>
FX P (oIndexAddr 22 v24 v26) fun v31 =>
FX P (oFieldAddr 44 v31 4) fun v32 =>
NX P (oStore 3 v32 v30) w.drew fun _ w =>
NX P (oNil v7) w fun v34 w =>
NX P (oFieldAddr 44 v34 4) w fun v35 w =>
NX P (oStore 3 v35 (.int .i64 0)) w fun _ w =>
J1 [] w) (
J1 [] w)) ∧ ∀ (f1 : Env) (w : World), J1 [] w →
∃ J2 : List Value → World → Prop, (
NX P (oNil v7) w fun v37 w =>
NX P (oFieldAddr 44 v37 4) w fun v38 w =>
NX P (oLoad 3 v38) w fun v39 w =>
NX P (oBin .eql 3 false true v39 (.int .i64 0)) w fun v40 w =>
IFB v40 (
NX P (oBuild 44 []) w fun v42 w =>
NX P (oNil v7) w fun v43 w =>
NX P (oStore 44 v43 v42) w fun _ w =>
J2 [] w) (
J2 [] w)) ∧ ∀ (f2 : Env) (w : World), J2 [] w →
∃ (I3 : List Value → World → Prop) (m3 : List Value → World → Nat), I3 [] w ∧ ∀ (f3 : Env) (wh3 : World), I3 [] wh3 →
FX P (oNil a0) fun v45 =>
FX P (oFieldAddr 82 v45 0) fun v46 =>
FX P (oFieldAddr 24 v46 0) fun v47 =>
LX P 22 v47 wh3.drew fun v48 =>
FX P (oNil a0) fun v50 =>
FX P (oFieldAddr 82 v50 0) fun v51 =>
FX P (oFieldAddr 24 v51 0) fun v52 =>
LX P 22 v52 wh3.drew fun v53 =>
FX P (oBuiltin .len #[22] 3 [false] [v53]) fun v54 =>
FX P (oBin .sub 3 false true v54 (.int .i64 1)) fun v55 =>
FX P (oIndexAddr 22 v48 v55) fun v56 =>
FX P (oFieldAddr 44 v56 0) fun v57 =>
LX P 41 v57 wh3.drew fun v58 =>
FX P (oBin .eql 41 false true v58 (.int .u8 0)) fun v59 =>
IFB v59 (
FX P (oNil a0) fun v62 =>
FX P (oFieldAddr 82 v62 0) fun v63 =>
FX P (oFieldAddr 24 v63 0) fun v64 =>
LX P 22 v64 (wh3.drew).drew fun v65 =>
FX P (oNil a0) fun v67 =>
FX P (oFieldAddr 82 v67 0) fun v68 =>
FX P (oFieldAddr 24 v68 0) fun v69 =>
LX P 22 v69 (wh3.drew).drew fun v70 =>
FX P (oBuiltin .len #[22] 3 [false] [v70]) fun v71 =>
FX P (oBin .sub 3 false true v71 (.int .i64 1)) fun v72 =>
FX P (oSlice 22 v65 none (some v72) none) fun v73 =>
FX P (oNil a0) fun v74 =>
FX P (oFieldAddr 82 v74 0) fun v75 =>
FX P (oFieldAddr 24 v75 0) fun v76 =>
NX P (oStore 22 v76 v73) (wh3.drew).drew fun _ w =>
I3 [] w ∧ m3 [] w < m3 [] wh3) (
R (.tuple #[]) wh3.drew)
def pl86 : Pl := (.seq .leaf (.seq .leaf (.seq .leaf (.join [] [15, 16, 17, 18, 19, 20, 21, 22, 23, 24, 25, 26, 27, 28, 29, 30, 31, 32, 33, 34, 35] (.seq .leaf (.cond (.seq (.draw (.take 0 (.take 1 (.take 2 (.take 3 (.take 4 (.take 5 (.take 6 (.take 7 (.take 8 (.take 9 (.take 10 (.take 11 (.take 12 (.one 13 .fin))))))))))))))) .leaf) .leaf)) (.join [] [36, 37, 38, 39, 40, 41, 42, 43] (.seq .leaf (.cond .leaf .leaf)) (.block (.loop [] [44, 45, 46, 47, 48, 49, 50, 51, 52, 53, 54, 55, 56, 57, 58, 59, 60, 61, 62, 63, 64, 65, 66, 67, 68, 69, 70, 71, 72, 73, 74, 75, 76] (.seq (.seq (.draw (.take 0 (.take 1 (.take 2 (.take 3 (.take 4 (.take 5 (.take 6 (.take 7 (.take 8 (.take 9 (.take 10 (.take 11 (.take 12 (.take 13 (.take 14 (.take 15 .fin))))))))))))))))) (.cond .leaf .leaf)) (.block (.draw (.take 0 (.take 1 (.take 2 (.take 3 (.take 4 (.take 5 (.take 6 (.take 7 (.take 8 (.take 9 (.take 10 (.take 11 (.take 12 (.take 13 (.take 14 (.take 15 (.take 16 (.one 17 .fin))))))))))))))))))))))))))))
theorem G86_ok {a0 a1 : Value} {w : World} {R : Value → World → Prop} (h : G86 Tryz.prog a0 a1 w R) : Calls Tryz.prog 86 #[a0, a1] w fun e w' => ∃ v, e = .returned v ∧ R v w' :=
  sh_calls Tryz.mixed Tryz.func86 rfl pl86 (by kernel_rfl) (cast (by kernel_rfl) h)

/-- (*toolchest/calls.work).file -/
def G87 (P : Program) (a0 : Value) (w : World) (R : Value → World → Prop) : Prop :=
∃ J1 : List Value → World → Prop, (
NX P (oNil a0) w fun v5 w =>
NX P (oFieldAddr 82 v5 3) w fun v6 w =>
NX P (oFieldAddr 80 v6 1) w fun v7 w =>
NX P (oLoad 9 v7) w fun v8 w =>
NX P (oBin .eql 9 false true v8 (.string { data := #[] })) w fun v9 w =>
IFB v9 (
J1 [(.bool true)] w) (
NX P (oNil a0) w fun v13 w =>
NX P (oFieldAddr 82 v13 3) w fun v14 w =>
NX P (oLoad 80 v14) w fun v15 w =>
NX P (oCall (fnV 78) [a0, v15, (.int .u8 2)]) w fun v16 w =>
J1 [v16] w)) ∧ ∀ (f1 : Env) (w : World), J1 [f1 3] w →
IFB (f1 3) (
R (.int .i64 8) w) (
NX P (oNil a0) w fun v20 w =>
NX P (oFieldAddr 82 v20 3) w fun v21 w =>
NX P (oFieldAddr 80 v21 2) w fun v22 w =>
NX P (oLoad 3 v22) w fun v23 w =>
NX P (oBin .eql 3 false true v23 (.int .i64 0)) w fun v24 w =>
IFB v24 (
R (.int .i64 6) w) (
R (.int .i64 0) w))
def pl87 : Pl := (.seq .leaf (.seq (.block (.join [3] [4, 5, 6, 7, 8, 9, 10, 11, 12, 13, 14, 15, 16, 17, 3] .leaf (.cond (.seq .leaf .leaf) (.seq .leaf (.cond (.seq .leaf .leaf) .leaf))))) (.seq .leaf .leaf)))
theorem G87_ok {a0 : Value} {w : World} {R : Value → World → Prop} (h : G87 Tryz.prog a0 w R) : Calls Tryz.prog 87 #[a0] w fun e w' => ∃ v, e = .returned v ∧ R v w' :=
  sh_calls Tryz.mixed Tryz.func87 rfl pl87 (by kernel_rfl) (cast (by kernel_rfl) h)

/-- (*toolchest/calls.work).fresh -/
def G88 (P : Program) (a0 : Value) (w : World) (R : Value → World → Prop) : Prop :=
NX P (oNil a0) w fun v5 w =>
NX P (oFieldAddr 82 v5 4) w fun v6 w =>
NX P (oFieldAddr 80 v6 1) w fun v7 w =>
NX P (oLoad 9 v7) w fun v8 w =>
NX P (oBin .eql 9 false true v8 (.string { data := #[] })) w fun v9 w =>
IFB v9 (
R (.int .i64 7) w) (
NX P (oNil a0) w fun v12 w =>
NX P (oFieldAddr 82 v12 4) w fun v13 w =>
NX P (oFieldAddr 80 v13 2) w fun v14 w =>
NX P (oLoad 3 v14) w fun v15 w =>
NX P (oBin .neq 3 false true v15 (.int .i64 0)) w fun v16 w =>
IFB v16 (
R (.int .i64 7) w) (
NX P (oNil a0) w fun v20 w =>
NX P (oFieldAddr 82 v20 4) w fun v21 w =>
NX P (oFieldAddr 80 v21 3) w fun v22 w =>
NX P (oLoad 4 v22) w fun v23 w =>
IFB v23 (
R (.int .i64 6) w) (
NX P (oNil a0) w fun v26 w =>
NX P (oFieldAddr 82 v26 4) w fun v27 w =>
NX P (oFieldAddr 80 v27 0) w fun v28 w =>
NX P (oLoad 3 v28) w fun v29 w =>
NX P (oCall (fnV 80) [a0, v29]) w fun v30 w =>
R v30 w)))
def pl88 : Pl := (.seq .leaf (.seq (.block (.seq .leaf (.cond (.seq .leaf .leaf) (.seq .leaf (.cond (.seq .leaf .leaf) .leaf))))) (.seq .leaf .leaf)))
theorem G88_ok {a0 : Value} {w : World} {R : Value → World → Prop} (h : G88 Tryz.prog a0 w R) : Calls Tryz.prog 88 #[a0] w fun e w' => ∃ v, e = .returned v ∧ R v w' :=
  sh_calls Tryz.mixed Tryz.func88 rfl pl88 (by kernel_rfl) (cast (by kernel_rfl) h)

/-- (*toolchest/calls.work).name -/
def G89 (P : Program) (a0 a1 a2 : Value) (w : World) (R : Value → World → Prop) : Prop :=
NX P (oBox 80 a1) w fun v4 w =>
FX P (oNil a0) fun v10 =>
FX P (oFieldAddr 82 v10 0) fun v11 =>
FX P (oFieldAddr 24 v11 0) fun v12 =>
LX P 22 v12 w.drew fun v13 =>
FX P (oFieldAddr 80 v4 0) fun v14 =>
LX P 3 v14 w.drew fun v15 =>
FX P (oIndexAddr 22 v13 v15) fun v16 =>
FX P (oNil v16) fun v19 =>
FX P (oFieldAddr 44 v19 8) fun v20 =>
LX P 42 v20 (w.drew).drew fun v21 =>
FX P (oFieldAddr 80 v4 1) fun v22 =>
LX P 9 v22 (w.drew).drew fun v23 =>
NX P (oCall (fnV 72) [v21, v23, (fnV 105)]) (w.drew).drew fun v24 w =>
FX P (oExtract v24 0) fun v25 =>
FX P (oExtract v24 1) fun v26 =>
FX P (oNil v16) fun v29 =>
FX P (oFieldAddr 44 v29 8) fun v30 =>
LX P 42 v30 w.drew fun v31 =>
FX P (oFieldAddr 80 v4 1) fun v33 =>
LX P 9 v33 w.drew fun v34 =>
FX P (oBuild 93 [(0, v34), (1, a2)]) fun v36 =>
NX P (oBuildSlice 42 1 [(0, v36)]) w.drew fun v37 w =>
RD P w 9 v33 v34 ∧ (RD P w 42 v30 v31 ∧ (NX P (oCall (fnV 106) [v31, v25, v37]) w fun v38 w =>
RD P w 9 v33 v34 ∧ (FX P (oNil v16) fun v39 =>
FX P (oFieldAddr 44 v39 8) fun v40 =>
NX P (oStore 42 v40 v38) w fun _ w =>
NX P (oNil a0) w fun v43 w =>
NX P (oFieldAddr 82 v43 0) w fun v44 w =>
NX P (oFieldAddr 24 v44 1) w fun v45 w =>
NX P (oLoad 3 v45) w fun v46 w =>
NX P (oNil v16) w fun v47 w =>
NX P (oFieldAddr 44 v47 5) w fun v48 w =>
NX P (oStore 3 v48 v46) w fun _ w =>
R (.tuple #[]) w)))
def pl89 : Pl := (.seq .leaf (.seq (.draw (.take 0 (.take 1 (.take 2 (.take 3 (.take 4 (.take 5 (.take 6 (.take 7 (.take 8 .fin)))))))))) (.seq (.draw (.take 0 (.take 1 (.take 2 (.take 3 (.take 4 (.take 5 (.one 6 (.take 7 (.take 8 (.take 9 (.take 10 (.take 11 .fin))))))))))))) (.seq (.draw (.take 0 (.take 1 (.take 2 (.take 3 (.take 4 (.take 5 (.take 6 (.take 7 (.take 8 (.take 9 (.one 10 (.one 11 (.take 12 (.take 13 (.one 14 .fin)))))))))))))))) .leaf))))
theorem G89_ok {a0 a1 a2 : Value} {w : World} {R : Value → World → Prop} (h : G89 Tryz.prog a0 a1 a2 w R) : Calls Tryz.prog 89 #[a0, a1, a2] w fun e w' => ∃ v, e = .returned v ∧ R v w' :=
  sh_calls Tryz.mixed Tryz.func89 rfl pl89 (by kernel_rfl) (cast (by kernel_rfl) h)

/-- (*toolchest/calls.work).dirGoes -/
def G90 (P : Program) (a0 : Value) (w : World) (R : Value → World → Prop) : Prop :=
NX P (oNil a0) w fun v6 w =>
NX P (oFieldAddr 82 v6 4) w fun v7 w =>
NX P (oFieldAddr 80 v7 0) w fun v8 w =>
NX P (oLoad 3 v8) w fun v9 w =>
∃ (I1 : List Value → World → Prop) (m1 : List Value → World → Nat), I1 [v9] w ∧ ∀ (f1 : Env) (wh1 : World), I1 [f1 3] wh1 →
NX P (oNil a0) wh1 fun v21 w =>
NX P (oFieldAddr 82 v21 3) w fun v22 w =>
NX P (oFieldAddr 80 v22 2) w fun v23 w =>
NX P (oLoad 3 v23) w fun v24 w =>
NX P (oBin .eql 3 false false (f1 3) v24) w fun v25 w =>
IFB v25 (
R (.int .i64 15) w) (
NX P (oBin .eql 3 false true (f1 3) (.int .i64 1)) w fun v27 w =>
IFB v27 (
∃ J2 : List Value → World → Prop, (
NX P (oNil a0) w fun v29 w =>
NX P (oFieldAddr 82 v29 4) w fun v30 w =>
NX P (oFieldAddr 80 v30 2) w fun v31 w =>
NX P (oLoad 3 v31) w fun v32 w =>
NX P (oBin .neq 3 false true v32 (.int .i64 0)) w fun v33 w =>
IFB v33 (
NX P (oNil a0) w fun v36 w =>
NX P (oFieldAddr 82 v36 4) w fun v37 w =>
NX P (oLoad 80 v37) w fun v38 w =>
NX P (oCall (fnV 83) [a0, v38]) w fun v39 w =>
NX P (oBin .neq 35 false true v39 (.int .i64 0)) w fun v41 w =>
IFB v41 (
R v39 w) (
J2 [] w)) (
J2 [] w)) ∧ ∀ (f2 : Env) (w : World), J2 [] w →
FX P (oNil a0) fun v44 =>
FX P (oFieldAddr 82 v44 0) fun v45 =>
LX P 24 v45 w.drew fun v46 =>
FX P (oNil a0) fun v48 =>
FX P (oFieldAddr 82 v48 4) fun v49 =>
FX P (oFieldAddr 80 v49 0) fun v50 =>
LX P 3 v50 w.drew fun v51 =>
FX P (oNil a0) fun v55 =>
FX P (oFieldAddr 82 v55 3) fun v56 =>
FX P (oFieldAddr 80 v56 2) fun v57 =>
LX P 3 v57 w.drew fun v58 =>
NX P (oCall (fnV 82) [v46, v51]) w.drew fun v52 w =>
RD P w 3 v57 v58 ∧ (NX P (oCall (fnV 107) [a0, v58]) w fun v59 w =>
FX P (oBin .add 3 false false v52 v59) fun v60 =>
FX P (oBin .gtr 3 false true v60 (.int .i64 32)) fun v61 =>
IFB v61 (
R (.int .i64 3) w) (
R (.int .i64 0) w))) (
NX P (oNil a0) w fun v11 w =>
NX P (oFieldAddr 82 v11 0) w fun v12 w =>
NX P (oFieldAddr 24 v12 0) w fun v13 w =>
NX P (oLoad 22 v13) w fun v14 w =>
NX P (oIndexAddr 22 v14 (f1 3)) w fun v16 w =>
NX P (oFieldAddr 44 v16 9) w fun v17 w =>
NX P (oLoad 3 v17) w fun v18 w =>
I1 [v18] w ∧ m1 [v18] w < m1 [f1 3] wh1))
def pl90 : Pl := (.seq .leaf (.seq (.seq .leaf (.block (.loop [3] [19, 20, 21, 22, 23, 24, 25, 2, 26, 27, 10, 11, 12, 13, 14, 15, 16, 17, 18, 3] (.seq (.block (.seq (.seq .leaf (.cond (.seq .leaf .leaf) .leaf)) (.seq .leaf (.cond .leaf .leaf)))) .leaf)))) (.join [] [28, 29, 30, 31, 32, 33, 34, 35, 36, 37, 38, 39, 4, 40, 41, 42, 2] (.seq .leaf (.cond (.seq .leaf (.seq .leaf (.cond (.seq .leaf .leaf) .leaf))) .leaf)) (.seq (.seq (.draw (.take 0 (.take 1 (.take 2 (.take 3 (.take 4 (.take 5 (.take 6 (.take 7 (.take 8 (.take 10 (.take 11 (.take 12 (.take 13 (.take 14 (.take 15 (.one 9 (.one 16 (.take 17 (.take 18 .fin)))))))))))))))))))) (.cond (.seq .leaf .leaf) .leaf)) (.seq .leaf .leaf)))))
theorem G90_ok {a0 : Value} {w : World} {R : Value → World → Prop} (h : G90 Tryz.prog a0 w R) : Calls Tryz.prog 90 #[a0] w fun e w' => ∃ v, e = .returned v ∧ R v w' :=
  sh_calls Tryz.mixed Tryz.func90 rfl pl90 (by kernel_rfl) (cast (by kernel_rfl) h)

/-- (*toolchest/calls.work).chown$1 -/
def G91 (P : Program) (a0 a1 : Value) (w : World) (R : Value → World → Prop) : Prop :=
NX P (oBin .eql 3 false true a0 (.int .i64 (-1))) w fun v6 w =>
IFB v6 (
R (.bool true) w) (
NX P (oCall (fnV 92) [a1, a0]) w fun v10 w =>
R v10 w)
def pl91 : Pl := (.seq .leaf (.seq .leaf .leaf))
theorem G91_ok {a0 a1 : Value} {w : World} {R : Value → World → Prop} (h : G91 Tryz.prog a0 a1 w R) : Calls Tryz.prog 91 #[a0, a1] w fun e w' => ∃ v, e = .returned v ∧ R v w' :=
  sh_calls Tryz.mixed Tryz.func91 rfl pl91 (by kernel_rfl) (cast (by kernel_rfl) h)

/-- slices.Contains[[]int,int] -/
def G92 (P : Program) (a0 a1 : Value) (w : World) (R : Value → World → Prop) : Prop :=
NX P (oCall (fnV 108) [a0, a1]) w fun v7 w =>
NX P (oBin .geq 3 false true v7 (.int .i64 0)) w fun v8 w =>
R v8 w
def pl92 : Pl := (.seq .leaf (.seq .leaf .leaf))
theorem G92_ok {a0 a1 : Value} {w : World} {R : Value → World → Prop} (h : G92 Tryz.prog a0 a1 w R) : Calls Tryz.prog 92 #[a0, a1] w fun e w' => ∃ v, e = .returned v ∧ R v w' :=
  sh_calls Tryz.mixed Tryz.func92 rfl pl92 (by kernel_rfl) (cast (by kernel_rfl) h)

/-- slices.DeleteFunc[[]toolchest/api.Entry,toolchest/api.Entry] -/
def G103 (P : Program) (a0 a1 : Value) (w : World) (R : Value → World → Prop) : Prop :=
NX P (oCall (fnV 118) [a0, a1]) w fun v10 w =>
NX P (oBin .eql 3 false true v10 (.int .i64 (-1))) w fun v12 w =>
IFB v12 (
R a0 w) (
NX P (oBin .add 3 false true v10 (.int .i64 1)) w fun v15 w =>
∃ (I1 : List Value → World → Prop) (m1 : List Value → World → Nat), I1 [v10, v15] w ∧ ∀ (f1 : Env) (wh1 : World), I1 [f1 5, f1 6] wh1 →
NX P (oBuiltin .len #[42] 3 [false] [a0]) wh1 fun v18 w =>
NX P (oBin .lss 3 false false (f1 6) v18) w fun v19 w =>
IFB v19 (
NX P (oIndexAddr 42 a0 (f1 6)) w fun v24 w =>
NX P (oLoad 93 v24) w fun v25 w =>
NX P (oAlloc 93) w fun v7 w =>
NX P (oStore 93 v7 v25) w fun _ w =>
NX P (oLoad 93 v7) w fun v27 w =>
NX P (oCall a1 [v27]) w fun v28 w =>
NX P (oUn .not v28) w fun v29 w =>
IFB v29 (
NX P (oLoad 93 v7) w fun v32 w =>
NX P (oIndexAddr 42 a0 (f1 5)) w fun v33 w =>
NX P (oStore 93 v33 v32) w fun _ w =>
NX P (oBin .add 3 false true (f1 5) (.int .i64 1)) w fun v35 w =>
NX P (oBin .add 3 false true (f1 6) (.int .i64 1)) w fun v21 w =>
I1 [v35, v21] w ∧ m1 [v35, v21] w < m1 [f1 5, f1 6] wh1) (
NX P (oBin .add 3 false true (f1 6) (.int .i64 1)) w fun v21 w =>
I1 [(f1 5), v21] w ∧ m1 [(f1 5), v21] w < m1 [f1 5, f1 6] wh1)) (
NX P (oSlice 42 a0 (some (f1 5)) none none) w fun v38 w =>
NX P (oBuiltin .clear #[42] 0 [false] [v38]) w fun _ w =>
NX P (oSlice 42 a0 none (some (f1 5)) none) w fun v41 w =>
R v41 w))
def pl103 : Pl := (.seq .leaf (.seq .leaf (.seq (.seq .leaf (.cond (.seq .leaf .leaf) .leaf)) (.seq (.seq .leaf (.block (.loop [5, 6] [16, 17, 18, 19, 22, 23, 24, 25, 7, 26, 27, 28, 29, 30, 31, 32, 33, 34, 35, 5, 20, 21, 6] (.seq (.seq .leaf (.cond .leaf .leaf)) (.seq (.block (.seq .leaf (.seq .leaf (.cond (.seq .leaf .leaf) .leaf)))) .leaf))))) (.seq .leaf (.seq .leaf .leaf))))))
theorem G103_ok {a0 a1 : Value} {w : World} {R : Value → World → Prop} (h : G103 Tryz.prog a0 a1 w R) : Calls Tryz.prog 103 #[a0, a1] w fun e w' => ∃ v, e = .returned v ∧ R v w' :=
  sh_calls Tryz.mixed Tryz.func103 rfl pl103 (by kernel_rfl) (cast (by kernel_rfl) h)

/-- (*toolchest/calls.work).unname$1 -/
def G104 (P : Program) (a0 a1 : Value) (w : World) (R : Value → World → Prop) : Prop :=
NX P (oBox 93 a0) w fun v2 w =>
NX P (oFieldAddr 93 v2 0) w fun v4 w =>
NX P (oLoad 9 v4) w fun v5 w =>
NX P (oFieldAddr 80 a1 1) w fun v6 w =>
NX P (oLoad 9 v6) w fun v7 w =>
NX P (oBin .eql 9 false false v5 v7) w fun v8 w =>
R v8 w
def pl104 : Pl := (.seq .leaf (.seq .leaf .leaf))
theorem G104_ok {a0 a1 : Value} {w : World} {R : Value → World → Prop} (h : G104 Tryz.prog a0 a1 w R) : Calls Tryz.prog 104 #[a0, a1] w fun e w' => ∃ v, e = .returned v ∧ R v w' :=
  sh_calls Tryz.mixed Tryz.func104 rfl pl104 (by kernel_rfl) (cast (by kernel_rfl) h)

/-- (*toolchest/calls.work).name$1 -/
def G105 (P : Program) (a0 a1 : Value) (w : World) (R : Value → World → Prop) : Prop :=
NX P (oBox 93 a0) w fun v2 w =>
NX P (oFieldAddr 93 v2 0) w fun v5 w =>
NX P (oLoad 9 v5) w fun v6 w =>
NX P (oCall (fnV 74) [v6, a1]) w fun v8 w =>
R v8 w
def pl105 : Pl := (.seq .leaf (.seq .leaf .leaf))
theorem G105_ok {a0 a1 : Value} {w : World} {R : Value → World → Prop} (h : G105 Tryz.prog a0 a1 w R) : Calls Tryz.prog 105 #[a0, a1] w fun e w' => ∃ v, e = .returned v ∧ R v w' :=
  sh_calls Tryz.mixed Tryz.func105 rfl pl105 (by kernel_rfl) (cast (by kernel_rfl) h)

/-- slices.Insert[[]toolchest/api.Entry,toolchest/api.Entry] -/
def G106 (P : Program) (a0 a1 a2 : Value) (w : World) (R : Value → World → Prop) : Prop :=
NX P (oSlice 42 a0 (some a1) none none) w fun v12 w =>
NX P (oBuiltin .len #[42] 3 [false] [a2]) w fun v14 w =>
NX P (oBin .eql 3 false true v14 (.int .i64 0)) w fun v16 w =>
IFB v16 (
R a0 w) (
NX P (oBuiltin .len #[42] 3 [false] [a0]) w fun v19 w =>
NX P (oBin .eql 3 false false a1 v19) w fun v22 w =>
IFB v22 (
NX P (oBuiltin .append #[42, 42] 42 [false, false] [a0, a2]) w fun v25 w =>
R v25 w) (
NX P (oBin .add 3 false false v19 v14) w fun v28 w =>
NX P (oBuiltin .cap #[42] 3 [false] [a0]) w fun v30 w =>
NX P (oBin .gtr 3 false false v28 v30) w fun v31 w =>
IFB v31 (
NX P (oSlice 42 a0 none (some a1) none) w fun v34 w =>
NX P (oBin .add 3 false false v19 v14) w fun v37 w =>
NX P (oBin .sub 3 false false v37 a1) w fun v39 w =>
NX P (oBuiltin .append #[42, 3] 42 [false, false] [v34, v39]) w fun v40 w =>
NX P (oSlice 42 v40 (some a1) none none) w fun v43 w =>
NX P (oBuiltin .copy #[42, 42] 3 [false, false] [v43, a2]) w fun v45 w =>
FX P (oBin .add 3 false false a1 v14) fun v49 =>
FX P (oSlice 42 v40 (some v49) none none) fun v50 =>
FX P (oSlice 42 a0 (some a1) none none) fun v53 =>
NX P (oBuiltin .copy #[42, 42] 3 [false, false] [v50, v53]) w.drew fun v54 w =>
R v40 w) (
NX P (oBin .add 3 false false v19 v14) w fun v59 w =>
NX P (oSlice 42 a0 none (some v59) none) w fun v60 w =>
NX P (oBin .add 3 false false a1 v14) w fun v65 w =>
NX P (oSlice 42 v60 (some v65) none none) w fun v66 w =>
NX P (oCall (fnV 119) [a2, v66]) w fun v67 w =>
NX P (oUn .not v67) w fun v68 w =>
IFB v68 (
FX P (oBin .add 3 false false a1 v14) fun v72 =>
FX P (oSlice 42 v60 (some v72) none none) fun v73 =>
FX P (oSlice 42 v60 (some a1) none none) fun v76 =>
NX P (oBuiltin .copy #[42, 42] 3 [false, false] [v73, v76]) w.drew fun v77 w =>
NX P (oSlice 42 v60 (some a1) none none) w fun v80 w =>
NX P (oBuiltin .copy #[42, 42] 3 [false, false] [v80, a2]) w fun v82 w =>
R v60 w) (
NX P (oSlice 42 v60 (some v19) none none) w fun v86 w =>
NX P (oBuiltin .copy #[42, 42] 3 [false, false] [v86, a2]) w fun v88 w =>
NX P (oSlice 42 v60 (some a1) none none) w fun v91 w =>
NX P (oCall (fnV 120) [v91, v14]) w fun v93 w =>
R v60 w))))
def pl106 : Pl := (.seq .leaf (.seq .leaf (.seq .leaf (.seq (.seq .leaf (.cond (.seq .leaf .leaf) .leaf)) (.seq .leaf (.seq (.seq .leaf (.cond (.seq .leaf .leaf) .leaf)) (.seq (.seq .leaf (.cond (.seq .leaf (.seq .leaf (.seq (.draw (.take 0 (.take 1 (.take 2 (.take 3 (.take 4 (.take 5 (.take 6 (.take 7 (.one 8 .fin)))))))))) (.seq .leaf .leaf)))) .leaf)) (.seq .leaf (.seq (.seq .leaf (.cond (.seq (.draw (.take 0 (.take 1 (.take 2 (.take 3 (.take 4 (.take 5 (.take 6 (.take 7 (.one 8 .fin)))))))))) (.seq .leaf (.seq .leaf .leaf))) .leaf)) (.seq .leaf (.seq .leaf (.seq .leaf .leaf))))))))))))
theorem G106_ok {a0 a1 a2 : Value} {w : World} {R : Value → World → Prop} (h : G106 Tryz.prog a0 a1 a2 w R) : Calls Tryz.prog 106 #[a0, a1, a2] w fun e w' => ∃ v, e = .returned v ∧ R v w' :=
  sh_calls Tryz.mixed Tryz.func106 rfl pl106 (by kernel_rfl) (cast (by kernel_rfl) h)

/-- (*toolchest/calls.work).below -/
def G107 (P : Program) (a0 a1 : Value) (w : World) (R : Value → World → Prop) : Prop :=
NX P (oNil a0) w fun v8 w =>
NX P (oFieldAddr 82 v8 0) w fun v9 w =>
NX P (oFieldAddr 24 v9 0) w fun v10 w =>
NX P (oLoad 22 v10) w fun v11 w =>
NX P (oIndexAddr 22 v11 a1) w fun v13 w =>
NX P (oFieldAddr 44 v13 8) w fun v14 w =>
NX P (oLoad 42 v14) w fun v15 w =>
NX P (oBuiltin .len #[42] 3 [false] [v15]) w fun v16 w =>
∃ (I1 : List Value → World → Prop) (m1 : List Value → World → Nat), I1 [(.int .i64 0), (.int .i64 0)] w ∧ ∀ (f1 : Env) (wh1 : World), I1 [f1 4, f1 17] wh1 →
NX P (oBin .lss 3 false false (f1 17) v16) wh1 fun v18 w =>
IFB v18 (
NX P (oIndexAddr 42 v15 (f1 17)) w fun v19 w =>
NX P (oLoad 93 v19) w fun v20 w =>
NX P (oAlloc 93) w fun v6 w =>
NX P (oStore 93 v6 v20) w fun _ w =>
FX P (oNil a0) fun v22 =>
FX P (oFieldAddr 82 v22 0) fun v23 =>
FX P (oFieldAddr 24 v23 0) fun v24 =>
LX P 22 v24 w.drew fun v25 =>
FX P (oFieldAddr 93 v6 1) fun v26 =>
LX P 3 v26 w.drew fun v27 =>
FX P (oIndexAddr 22 v25 v27) fun v28 =>
FX P (oFieldAddr 44 v28 0) fun v29 =>
LX P 41 v29 w.drew fun v30 =>
FX P (oBin .eql 41 false true v30 (.int .u8 2)) fun v31 =>
IFB v31 (
NX P (oFieldAddr 93 v6 1) w.drew fun v34 w =>
NX P (oLoad 3 v34) w fun v35 w =>
NX P (oCall (fnV 107) [a0, v35]) w fun v36 w =>
NX P (oBuiltin .max #[3, 3] 3 [false, false] [(f1 4), v36]) w fun v37 w =>
NX P (oBin .add 3 false true (f1 17) (.int .i64 1)) w fun v38 w =>
I1 [v37, v38] w ∧ m1 [v37, v38] w < m1 [f1 4, f1 17] wh1) (
NX P (oBin .add 3 false true (f1 17) (.int .i64 1)) w.drew fun v38 w =>
I1 [(f1 4), v38] w ∧ m1 [(f1 4), v38] w < m1 [f1 4, f1 17] wh1)) (
NX P (oBin .add 3 false true (f1 4) (.int .i64 1)) w fun v40 w =>
R v40 w)
def pl107 : Pl := (.seq .leaf (.seq (.seq .leaf (.block (.loop [4, 17] [18, 19, 20, 6, 21, 22, 23, 24, 25, 26, 27, 28, 29, 30, 31, 32, 33, 34, 35, 36, 37, 4, 38, 17] (.seq .leaf (.seq (.cond .leaf .leaf) (.seq (.block (.seq .leaf (.seq (.draw (.take 0 (.take 1 (.take 2 (.take 3 (.take 4 (.take 5 (.take 6 (.take 7 (.take 8 (.take 9 (.take 10 .fin)))))))))))) (.cond .leaf .leaf)))) .leaf)))))) (.seq .leaf .leaf)))
theorem G107_ok {a0 a1 : Value} {w : World} {R : Value → World → Prop} (h : G107 Tryz.prog a0 a1 w R) : Calls Tryz.prog 107 #[a0, a1] w fun e w' => ∃ v, e = .returned v ∧ R v w' :=
  sh_calls Tryz.mixed Tryz.func107 rfl pl107 (by kernel_rfl) (cast (by kernel_rfl) h)

/-- slices.Index[[]int,int] -/
def G108 (P : Program) (a0 a1 : Value) (w : World) (R : Value → World → Prop) : Prop :=
NX P (oBuiltin .len #[69] 3 [false] [a0]) w fun v7 w =>
∃ (I1 : List Value → World → Prop) (m1 : List Value → World → Nat), I1 [(.int .i64 0)] w ∧ ∀ (f1 : Env) (wh1 : World), I1 [f1 8] wh1 →
NX P (oBin .lss 3 false false (f1 8) v7) wh1 fun v9 w =>
IFB v9 (
NX P (oIndexAddr 69 a0 (f1 8)) w fun v14 w =>
NX P (oLoad 3 v14) w fun v15 w =>
NX P (oBin .eql 3 false false a1 v15) w fun v16 w =>
IFB v16 (
R (f1 8) w) (
NX P (oBin .add 3 false true (f1 8) (.int .i64 1)) w fun v18 w =>
I1 [v18] w ∧ m1 [v18] w < m1 [f1 8] wh1)) (
R (.int .i64 (-1)) w)
def pl108 : Pl := (.seq .leaf (.seq (.seq .leaf (.block (.loop [8] [9, 10, 5, 11, 12, 13, 14, 15, 16, 17, 4, 18, 8] (.seq .leaf (.seq (.cond .leaf .leaf) (.seq (.block (.seq .leaf (.seq .leaf (.cond (.seq .leaf .leaf) .leaf)))) .leaf)))))) (.seq .leaf .leaf)))
theorem G108_ok {a0 a1 : Value} {w : World} {R : Value → World → Prop} (h : G108 Tryz.prog a0 a1 w R) : Calls Tryz.prog 108 #[a0, a1] w fun e w' => ∃ v, e = .returned v ∧ R v w' :=
  sh_calls Tryz.mixed Tryz.func108 rfl pl108 (by kernel_rfl) (cast (by kernel_rfl) h)

/-- slices.IndexFunc[[]toolchest/api.Entry,toolchest/api.Entry] -/
def G118 (P : Program) (a0 a1 : Value) (w : World) (R : Value → World → Prop) : Prop :=
NX P (oBuiltin .len #[42] 3 [false] [a0]) w fun v7 w =>
∃ (I1 : List Value → World → Prop) (m1 : List Value → World → Nat), I1 [(.int .i64 0)] w ∧ ∀ (f1 : Env) (wh1 : World), I1 [f1 8] wh1 →
NX P (oBin .lss 3 false false (f1 8) v7) wh1 fun v9 w =>
IFB v9 (
NX P (oIndexAddr 42 a0 (f1 8)) w fun v14 w =>
NX P (oLoad 93 v14) w fun v15 w =>
NX P (oCall a1 [v15]) w fun v16 w =>
IFB v16 (
R (f1 8) w) (
NX P (oBin .add 3 false true (f1 8) (.int .i64 1)) w fun v18 w =>
I1 [v18] w ∧ m1 [v18] w < m1 [f1 8] wh1)) (
R (.int .i64 (-1)) w)
def pl118 : Pl := (.seq .leaf (.seq (.seq .leaf (.block (.loop [8] [9, 10, 5, 11, 12, 13, 14, 15, 16, 17, 4, 18, 8] (.seq .leaf (.seq (.cond .leaf .leaf) (.seq (.block (.seq .leaf (.seq .leaf (.cond (.seq .leaf .leaf) .leaf)))) .leaf)))))) (.seq .leaf .leaf)))
theorem G118_ok {a0 a1 : Value} {w : World} {R : Value → World → Prop} (h : G118 Tryz.prog a0 a1 w R) : Calls Tryz.prog 118 #[a0, a1] w fun e w' => ∃ v, e = .returned v ∧ R v w' :=
  sh_calls Tryz.mixed Tryz.func118 rfl pl118 (by kernel_rfl) (cast (by kernel_rfl) h)

end Go.Proofs.YthakeicmaeefiaaGreatDoor
