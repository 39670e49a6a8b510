/- Shallow readings of functions of the program, written by gen.py. -/
import Derived.Test.YthakeicmaeefiaaGreatDoorFc
set_option linter.unusedVariables false
set_option linter.unusedSimpArgs false
namespace Go.Proofs.YthakeicmaeefiaaGreatDoor
open Go Go.Sh Go.Proofs
set_option maxRecDepth 100000
/-- toolchest/paths.In -/
def G33 (P : Program) (a0 a1 a2 a3 : Value) (w : World) (R : Value → World → Prop) : Prop :=
NX P (oBox 24 a0) w fun v4 w =>
NX P (oBox 32 a1) w fun v5 w =>
NX P (oAlloc 80) w fun v8 w =>
NX P (oBin .eql 9 false true a2 (.string { data := #[] })) w fun v17 w =>
IFB v17 (
NX P (oBuild 80 []) w fun v18 w =>
NX P (oStore 80 v8 v18) w fun _ w =>
LX P 80 v8 w fun r8 =>
R (.tuple #[r8, (.int .i64 6)]) w) (
NX P (oCall (fnV 53) [a2]) w fun v21 w =>
IFB v21 (
NX P (oBuild 80 []) w fun v22 w =>
NX P (oStore 80 v8 v22) w fun _ w =>
LX P 80 v8 w fun r8 =>
R (.tuple #[r8, (.int .i64 13)]) w) (
NX P (oFieldAddr 32 v5 3) w fun v23 w =>
NX P (oLoad 3 v23) w fun v24 w =>
NX P (oBuild 106 [(0, v24)]) w fun v25 w =>
NX P (oBox 106 v25) w fun v26 w =>
NX P (oCall (fnV 54) [v26, a2]) w fun v29 w =>
NX P (oCall (fnV 55) [a2, (.string { data := #[47] })]) w fun v32 w =>
NX P (oNil v26) w fun v33 w =>
NX P (oFieldAddr 106 v33 2) w fun v34 w =>
NX P (oStore 4 v34 v32) w fun _ w =>
∃ (I1 : List Value → World → Prop) (m1 : List Value → World → Nat), I1 [] w ∧ ∀ (f1 : Env) (wh1 : World), I1 [] wh1 →
NX P (oNil v26) wh1 fun v36 w =>
NX P (oFieldAddr 106 v36 1) w fun v37 w =>
NX P (oLoad 104 v37) w fun v38 w =>
NX P (oBuiltin .len #[104] 3 [false] [v38]) w fun v39 w =>
NX P (oBin .gtr 3 false true v39 (.int .i64 0)) w fun v40 w =>
IFB v40 (
NX P (oNil v26) w fun v42 w =>
NX P (oFieldAddr 106 v42 1) w fun v43 w =>
NX P (oLoad 104 v43) w fun v44 w =>
NX P (oIndexAddr 104 v44 (.int .i64 0)) w fun v45 w =>
NX P (oLoad 9 v45) w fun v46 w =>
FX P (oNil v26) fun v49 =>
FX P (oFieldAddr 106 v49 1) fun v50 =>
LX P 104 v50 w.drew fun v51 =>
FX P (oNil v26) fun v53 =>
FX P (oFieldAddr 106 v53 1) fun v54 =>
LX P 104 v54 w.drew fun v55 =>
FX P (oBuiltin .len #[104] 3 [false] [v55]) fun v56 =>
FX P (oNil v26) fun v58 =>
FX P (oFieldAddr 106 v58 1) fun v59 =>
LX P 104 v59 w.drew fun v60 =>
FX P (oBuiltin .len #[104] 3 [false] [v60]) fun v61 =>
FX P (oSlice 104 v51 (some (.int .i64 1)) (some v56) (some v61)) fun v62 =>
FX P (oNil v26) fun v63 =>
FX P (oFieldAddr 106 v63 1) fun v64 =>
NX P (oStore 104 v64 v62) w.drew fun _ w =>
NX P (oNil v26) w fun v66 w =>
NX P (oFieldAddr 106 v66 1) w fun v67 w =>
NX P (oLoad 104 v67) w fun v68 w =>
NX P (oBuiltin .len #[104] 3 [false] [v68]) w fun v69 w =>
NX P (oBin .eql 3 false true v69 (.int .i64 0)) w fun v70 w =>
FX P (oFieldAddr 24 v4 0) fun v72 =>
LX P 22 v72 w.drew fun v73 =>
FX P (oNil v26) fun v75 =>
FX P (oFieldAddr 106 v75 0) fun v76 =>
LX P 3 v76 w.drew fun v77 =>
FX P (oIndexAddr 22 v73 v77) fun v78 =>
LX P 44 v78 w.drew fun v79 =>
LX P 32 v5 w.drew fun v80 =>
NX P (oCall (fnV 14) [v79, v80, (.int .i64 1)]) w.drew fun v81 w =>
RD P w 3 v76 v77 ∧ (RD P w 22 v72 v73 ∧ (FX P (oUn .not v81) fun v82 =>
IFB v82 (
NX P (oBuild 80 []) w fun v83 w =>
NX P (oStore 80 v8 v83) w fun _ w =>
LX P 80 v8 w fun r8 =>
R (.tuple #[r8, (.int .i64 10)]) w) (
NX P (oBuiltin .len #[9] 3 [false] [v46]) w fun v86 w =>
NX P (oBin .gtr 3 false true v86 (.int .i64 64)) w fun v87 w =>
IFB v87 (
NX P (oBuild 80 []) w fun v88 w =>
NX P (oStore 80 v8 v88) w fun _ w =>
LX P 80 v8 w fun r8 =>
R (.tuple #[r8, (.int .i64 13)]) w) (
NX P (oBin .eql 9 false true v46 (.string { data := #[46] })) w fun v91 w =>
IFB v91 (
I1 [] w ∧ m1 [] w < m1 [] wh1) (
NX P (oBin .eql 9 false true v46 (.string { data := #[46, 46] })) w fun v94 w =>
IFB v94 (
FX P (oFieldAddr 24 v4 0) fun v96 =>
LX P 22 v96 w.drew fun v97 =>
FX P (oNil v26) fun v99 =>
FX P (oFieldAddr 106 v99 0) fun v100 =>
LX P 3 v100 w.drew fun v101 =>
FX P (oIndexAddr 22 v97 v101) fun v102 =>
FX P (oFieldAddr 44 v102 9) fun v103 =>
LX P 3 v103 w.drew fun v104 =>
FX P (oNil v26) fun v105 =>
FX P (oFieldAddr 106 v105 0) fun v106 =>
NX P (oStore 3 v106 v104) w.drew fun _ w =>
I1 [] w ∧ m1 [] w < m1 [] wh1) (
LX P 24 v4 w.drew fun v107 =>
FX P (oNil v26) fun v109 =>
FX P (oFieldAddr 106 v109 0) fun v110 =>
LX P 3 v110 w.drew fun v111 =>
NX P (oCall (fnV 50) [v107, v111, v46]) w.drew fun v113 w =>
NX P (oFieldAddr 24 v4 0) w fun v114 w =>
NX P (oLoad 22 v114) w fun v115 w =>
NX P (oIndexAddr 22 v115 v113) w fun v117 w =>
NX P (oLoad 44 v117) w fun v118 w =>
NX P (oAlloc 44) w fun v14 w =>
NX P (oStore 44 v14 v118) w fun _ w =>
∃ J2 : List Value → World → Prop, (
NX P (oBin .eql 3 false true v113 (.int .i64 0)) w fun v125 w =>
IFB v125 (
J2 [v70] w) (
J2 [(.bool false)] w)) ∧ ∀ (f2 : Env) (w : World), J2 [f2 123] w →
IFB (f2 123) (
FX P (oNil v26) fun v130 =>
FX P (oFieldAddr 106 v130 0) fun v131 =>
LX P 3 v131 w.drew fun v132 =>
FX P (oNil v26) fun v135 =>
FX P (oFieldAddr 106 v135 2) fun v136 =>
LX P 4 v136 w.drew fun v137 =>
FX P (oBuild 80 [(0, v132), (1, v46), (2, (.int .i64 0)), (3, v137)]) fun v138 =>
NX P (oStore 80 v8 v138) w.drew fun _ w =>
LX P 80 v8 w fun r8 =>
R (.tuple #[r8, (.int .i64 0)]) w) (
NX P (oBin .eql 3 false true v113 (.int .i64 0)) w fun v141 w =>
IFB v141 (
NX P (oBuild 80 []) w fun v142 w =>
NX P (oStore 80 v8 v142) w fun _ w =>
LX P 80 v8 w fun r8 =>
R (.tuple #[r8, (.int .i64 6)]) w) (
∃ J3 : List Value → World → Prop, (
NX P (oFieldAddr 44 v14 0) w fun v144 w =>
NX P (oLoad 41 v144) w fun v145 w =>
NX P (oBin .eql 41 false true v145 (.int .u8 3)) w fun v146 w =>
IFB v146 (
NX P (oUn .not v70) w fun v149 w =>
IFB v149 (
J3 [(.bool true)] w) (
IFB a3 (
J3 [(.bool true)] w) (
NX P (oNil v26) w fun v155 w =>
NX P (oFieldAddr 106 v155 2) w fun v156 w =>
NX P (oLoad 4 v156) w fun v157 w =>
J3 [v157] w))) (
J3 [(.bool false)] w)) ∧ ∀ (f3 : Env) (w : World), J3 [f3 143] w →
IFB (f3 143) (
NX P (oNil v26) w fun v161 w =>
NX P (oFieldAddr 106 v161 3) w fun v162 w =>
NX P (oLoad 3 v162) w fun v163 w =>
NX P (oBin .add 3 false true v163 (.int .i64 1)) w fun v164 w =>
NX P (oNil v26) w fun v165 w =>
NX P (oFieldAddr 106 v165 3) w fun v166 w =>
NX P (oStore 3 v166 v164) w fun _ w =>
NX P (oNil v26) w fun v168 w =>
NX P (oFieldAddr 106 v168 3) w fun v169 w =>
NX P (oLoad 3 v169) w fun v170 w =>
NX P (oBin .gtr 3 false true v170 (.int .i64 16)) w fun v171 w =>
IFB v171 (
NX P (oBuild 80 []) w fun v172 w =>
NX P (oStore 80 v8 v172) w fun _ w =>
LX P 80 v8 w fun r8 =>
R (.tuple #[r8, (.int .i64 12)]) w) (
∃ J4 : List Value → World → Prop, (
NX P (oNil v26) w fun v175 w =>
NX P (oFieldAddr 106 v175 2) w fun v176 w =>
NX P (oLoad 4 v176) w fun v177 w =>
IFB v177 (
NX P (oNil v26) w fun v186 w =>
NX P (oFieldAddr 106 v186 2) w fun v187 w =>
NX P (oStore 4 v187 (.bool true)) w fun _ w =>
J4 [] w) (
IFB v70 (
NX P (oFieldAddr 44 v14 7) w fun v181 w =>
NX P (oLoad 9 v181) w fun v182 w =>
NX P (oCall (fnV 55) [v182, (.string { data := #[47] })]) w fun v183 w =>
NX P (oNil v26) w fun v186 w =>
NX P (oFieldAddr 106 v186 2) w fun v187 w =>
NX P (oStore 4 v187 v183) w fun _ w =>
J4 [] w) (
NX P (oNil v26) w fun v186 w =>
NX P (oFieldAddr 106 v186 2) w fun v187 w =>
NX P (oStore 4 v187 (.bool false)) w fun _ w =>
J4 [] w))) ∧ ∀ (f4 : Env) (w : World), J4 [] w →
NX P (oFieldAddr 44 v14 7) w fun v189 w =>
NX P (oLoad 9 v189) w fun v190 w =>
NX P (oCall (fnV 54) [v26, v190]) w fun v191 w =>
I1 [] w ∧ m1 [] w < m1 [] wh1)) (
∃ J5 : List Value → World → Prop, (
IFB v70 (
NX P (oFieldAddr 44 v14 0) w fun v195 w =>
NX P (oLoad 41 v195) w fun v196 w =>
NX P (oBin .neq 41 false true v196 (.int .u8 1)) w fun v197 w =>
IFB v197 (
J5 [(.bool true)] w) (
NX P (oNil v26) w fun v200 w =>
NX P (oFieldAddr 106 v200 2) w fun v201 w =>
NX P (oLoad 4 v201) w fun v202 w =>
NX P (oUn .not v202) w fun v203 w =>
J5 [v203] w)) (
J5 [(.bool false)] w)) ∧ ∀ (f5 : Env) (w : World), J5 [f5 192] w →
IFB (f5 192) (
FX P (oNil v26) fun v207 =>
FX P (oFieldAddr 106 v207 0) fun v208 =>
LX P 3 v208 w.drew fun v209 =>
FX P (oNil v26) fun v213 =>
FX P (oFieldAddr 106 v213 2) fun v214 =>
LX P 4 v214 w.drew fun v215 =>
FX P (oBuild 80 [(0, v209), (1, v46), (2, v113), (3, v215)]) fun v216 =>
NX P (oStore 80 v8 v216) w.drew fun _ w =>
LX P 80 v8 w fun r8 =>
R (.tuple #[r8, (.int .i64 0)]) w) (
NX P (oFieldAddr 44 v14 0) w fun v218 w =>
NX P (oLoad 41 v218) w fun v219 w =>
NX P (oBin .neq 41 false true v219 (.int .u8 2)) w fun v220 w =>
IFB v220 (
NX P (oBuild 80 []) w fun v221 w =>
NX P (oStore 80 v8 v221) w fun _ w =>
LX P 80 v8 w fun r8 =>
R (.tuple #[r8, (.int .i64 9)]) w) (
NX P (oNil v26) w fun v121 w =>
NX P (oFieldAddr 106 v121 0) w fun v122 w =>
NX P (oStore 3 v122 v113) w fun _ w =>
I1 [] w ∧ m1 [] w < m1 [] wh1)))))))))))) (
FX P (oNil v26) fun v223 =>
FX P (oFieldAddr 106 v223 0) fun v224 =>
LX P 3 v224 w.drew fun v225 =>
FX P (oNil v26) fun v227 =>
FX P (oFieldAddr 106 v227 0) fun v228 =>
LX P 3 v228 w.drew fun v229 =>
FX P (oNil v26) fun v231 =>
FX P (oFieldAddr 106 v231 2) fun v232 =>
LX P 4 v232 w.drew fun v233 =>
FX P (oBuild 80 [(0, v225), (2, v229), (3, v233)]) fun v234 =>
NX P (oStore 80 v8 v234) w.drew fun _ w =>
LX P 80 v8 w fun r8 =>
R (.tuple #[r8, (.int .i64 0)]) w)))
def pl33 : Pl := (.seq .leaf (.block (.seq (.block (.seq .leaf (.cond (.seq .leaf .leaf) (.seq .leaf (.cond (.seq .leaf .leaf) .leaf))))) (.seq .leaf (.seq .leaf (.seq .leaf (.seq .leaf (.seq (.block (.loop [] [35, 36, 37, 38, 39, 40, 41, 42, 43, 44, 45, 46, 11, 47, 48, 49, 50, 51, 52, 53, 54, 55, 56, 57, 58, 59, 60, 61, 62, 63, 64, 65, 66, 67, 68, 69, 70, 12, 72, 73, 74, 75, 76, 77, 78, 79, 80, 81, 82, 71, 83, 9, 85, 86, 87, 84, 88, 90, 91, 89, 93, 94, 92, 95, 96, 97, 98, 99, 100, 101, 102, 103, 104, 105, 106, 107, 108, 109, 110, 111, 112, 113, 13, 114, 115, 116, 117, 118, 14, 124, 125, 126, 127, 128, 123, 129, 130, 131, 132, 133, 134, 135, 136, 137, 138, 140, 141, 139, 142, 144, 145, 146, 147, 148, 149, 150, 151, 152, 153, 154, 155, 156, 157, 158, 159, 143, 160, 161, 162, 163, 164, 165, 166, 167, 168, 169, 170, 171, 172, 173, 174, 175, 176, 177, 178, 179, 180, 181, 182, 183, 184, 185, 186, 187, 188, 189, 190, 191, 193, 194, 195, 196, 197, 198, 199, 200, 201, 202, 203, 204, 205, 192, 206, 207, 208, 209, 210, 211, 212, 213, 214, 215, 216, 218, 219, 220, 217, 221, 119, 120, 121, 122] (.seq (.seq .leaf (.cond .leaf .leaf)) (.block (.seq .leaf (.seq (.draw (.take 0 (.take 1 (.take 2 (.take 3 (.take 4 (.take 5 (.take 6 (.take 7 (.take 8 (.take 9 (.take 10 (.take 11 (.take 12 (.take 13 (.take 14 (.take 15 (.take 16 (.take 17 (.one 18 .fin)))))))))))))))))))) (.seq .leaf (.seq (.block (.seq (.draw (.take 0 (.take 1 (.take 2 (.take 3 (.take 4 (.take 5 (.take 6 (.take 7 (.take 8 (.one 9 (.take 10 (.take 11 .fin))))))))))))) (.cond (.seq .leaf .leaf) (.seq .leaf (.cond (.seq .leaf .leaf) (.seq .leaf (.cond .leaf (.seq .leaf (.cond (.seq (.draw (.take 0 (.take 1 (.take 2 (.take 3 (.take 4 (.take 5 (.take 6 (.take 7 (.take 8 (.take 9 (.take 10 (.take 11 (.one 12 .fin)))))))))))))) .leaf) .leaf))))))))) (.seq (.draw (.take 0 (.take 1 (.take 2 (.take 3 (.take 4 (.take 5 (.one 6 (.take 7 .fin))))))))) (.seq .leaf (.block (.join [123] [124, 125, 126, 127, 128, 123] .leaf (.cond (.seq (.draw (.take 0 (.take 1 (.take 2 (.take 3 (.take 4 (.take 5 (.take 6 (.take 7 (.take 8 (.take 9 (.one 10 (.take 11 .fin))))))))))))) .leaf) (.seq .leaf (.cond (.seq .leaf .leaf) (.join [143] [144, 145, 146, 147, 148, 149, 150, 151, 152, 153, 154, 155, 156, 157, 158, 159, 143] .leaf (.cond (.seq (.seq .leaf (.seq .leaf (.cond (.seq .leaf .leaf) .leaf))) (.join [] [173, 174, 175, 176, 177, 178, 179, 180, 181, 182, 183, 184, 185, 186, 187] .leaf .leaf)) (.join [192] [193, 194, 195, 196, 197, 198, 199, 200, 201, 202, 203, 204, 205, 192] .leaf (.cond (.seq (.draw (.take 0 (.take 1 (.take 2 (.take 3 (.take 4 (.take 5 (.take 6 (.take 7 (.take 8 (.take 9 (.take 10 (.one 11 (.take 12 .fin)))))))))))))) .leaf) (.seq .leaf (.cond (.seq .leaf .leaf) .leaf))))))))))))))))))))) (.seq (.draw (.take 0 (.take 1 (.take 2 (.take 3 (.take 4 (.take 5 (.take 6 (.take 7 (.take 8 (.take 9 (.take 10 (.take 11 (.take 12 (.one 13 (.take 14 .fin)))))))))))))))) .leaf)))))))))
theorem G33_ok {a0 a1 a2 a3 : Value} {w : World} {R : Value → World → Prop} (h : G33 Tryz.prog a0 a1 a2 a3 w R) : Calls Tryz.prog 33 #[a0, a1, a2, a3] w fun e w' => ∃ v, e = .returned v ∧ R v w' :=
  sh_calls Tryz.mixed Tryz.func33 rfl pl33 (by kernel_rfl) (cast (by kernel_rfl) h)

/-- toolchest/paths.Bad -/
def G53 (P : Program) (a0 : Value) (w : World) (R : Value → World → Prop) : Prop :=
NX P (oBuiltin .len #[9] 3 [false] [a0]) w fun v4 w =>
NX P (oBin .gtr 3 false true v4 (.int .i64 1024)) w fun v5 w =>
IFB v5 (
R (.bool true) w) (
NX P (oCall (fnV 35) [a0, (.string { data := #[0] })]) w fun v8 w =>
R v8 w)
def pl53 : Pl := (.seq .leaf (.seq .leaf .leaf))
theorem G53_ok {a0 : Value} {w : World} {R : Value → World → Prop} (h : G53 Tryz.prog a0 w R) : Calls Tryz.prog 53 #[a0] w fun e w' => ∃ v, e = .returned v ∧ R v w' :=
  sh_calls Tryz.mixed Tryz.func53 rfl pl53 (by kernel_rfl) (cast (by kernel_rfl) h)

/-- (*toolchest/paths.way).goes -/
def G54 (P : Program) (a0 a1 : Value) (w : World) (R : Value → World → Prop) : Prop :=
∃ J1 : List Value → World → Prop, (
NX P (oIndex 9 a1 (.int .i64 0)) w fun v5 w =>
NX P (oBin .eql 5 false true v5 (.int .u8 47)) w fun v6 w =>
IFB v6 (
NX P (oNil a0) w fun v8 w =>
NX P (oFieldAddr 106 v8 0) w fun v9 w =>
NX P (oStore 3 v9 (.int .i64 1)) w fun _ w =>
J1 [] w) (
J1 [] w)) ∧ ∀ (f1 : Env) (w : World), J1 [] w →
FX P (oNil a0) fun v14 =>
FX P (oFieldAddr 106 v14 1) fun v15 =>
LX P 104 v15 w.drew fun v16 =>
NX P (oCall (fnV 75) [a1]) w.drew fun v12 w =>
RD P w 104 v15 v16 ∧ (NX P (oBuiltin .append #[104, 104] 104 [false, false] [v12, v16]) w fun v17 w =>
FX P (oNil a0) fun v18 =>
FX P (oFieldAddr 106 v18 1) fun v19 =>
NX P (oStore 104 v19 v17) w fun _ w =>
R (.tuple #[]) w)
def pl54 : Pl := (.join [] [4, 5, 6, 7, 8, 9] (.seq .leaf (.cond .leaf .leaf)) (.draw (.take 0 (.take 1 (.take 3 (.take 4 (.take 5 (.take 6 (.one 2 (.one 7 (.take 8 (.take 9 (.one 10 .fin)))))))))))))
theorem G54_ok {a0 a1 : Value} {w : World} {R : Value → World → Prop} (h : G54 Tryz.prog a0 a1 w R) : Calls Tryz.prog 54 #[a0, a1] w fun e w' => ∃ v, e = .returned v ∧ R v w' :=
  sh_calls Tryz.mixed Tryz.func54 rfl pl54 (by kernel_rfl) (cast (by kernel_rfl) h)

/-- toolchest/paths.Find -/
def G68 (P : Program) (a0 a1 a2 a3 : Value) (w : World) (R : Value → World → Prop) : Prop :=
NX P (oBox 24 a0) w fun v4 w =>
NX P (oBox 32 a1) w fun v5 w =>
NX P (oAlloc 80) w fun v8 w =>
NX P (oLoad 24 v4) w fun v10 w =>
NX P (oLoad 32 v5) w fun v11 w =>
NX P (oCall (fnV 30) [v10, v11]) w fun v12 w =>
NX P (oUn .not v12) w fun v13 w =>
IFB v13 (
NX P (oBuild 80 []) w fun v14 w =>
NX P (oStore 80 v8 v14) w fun _ w =>
LX P 80 v8 w fun r8 =>
R (.tuple #[r8, (.int .i64 1)]) w) (
NX P (oLoad 24 v4) w fun v15 w =>
NX P (oLoad 32 v5) w fun v16 w =>
NX P (oCall (fnV 33) [v15, v16, a2, a3]) w fun v19 w =>
NX P (oExtract v19 0) w fun v20 w =>
NX P (oExtract v19 1) w fun v21 w =>
NX P (oStore 80 v8 v20) w fun _ w =>
LX P 80 v8 w fun r8 =>
R (.tuple #[r8, v21]) w)
def pl68 : Pl := (.seq .leaf (.seq (.seq .leaf (.cond (.seq .leaf .leaf) .leaf)) (.seq .leaf .leaf)))
theorem G68_ok {a0 a1 a2 a3 : Value} {w : World} {R : Value → World → Prop} (h : G68 Tryz.prog a0 a1 a2 a3 w R) : Calls Tryz.prog 68 #[a0, a1, a2, a3] w fun e w' => ∃ v, e = .returned v ∧ R v w' :=
  sh_calls Tryz.mixed Tryz.func68 rfl pl68 (by kernel_rfl) (cast (by kernel_rfl) h)

/-- toolchest/paths.parts -/
def G75 (P : Program) (a0 : Value) (w : World) (R : Value → World → Prop) : Prop :=
NX P (oCall (fnV 97) [a0, (.string { data := #[47] })]) w fun v4 w =>
NX P (oCall (fnV 96) [v4, (fnV 98)]) w fun v5 w =>
R v5 w
def pl75 : Pl := (.seq .leaf (.seq .leaf .leaf))
theorem G75_ok {a0 : Value} {w : World} {R : Value → World → Prop} (h : G75 Tryz.prog a0 w R) : Calls Tryz.prog 75 #[a0] w fun e w' => ∃ v, e = .returned v ∧ R v w' :=
  sh_calls Tryz.mixed Tryz.func75 rfl pl75 (by kernel_rfl) (cast (by kernel_rfl) h)

/-- slices.DeleteFunc[[]string,string] -/
def G96 (P : Program) (a0 a1 : Value) (w : World) (R : Value → World → Prop) : Prop :=
NX P (oCall (fnV 114) [a0, a1]) w fun v10 w =>
NX P (oBin .eql 3 false true v10 (.int .i64 (-1))) w fun v12 w =>
IFB v12 (
R a0 w) (
NX P (oBin .add 3 false true v10 (.int .i64 1)) w fun v15 w =>
∃ (I1 : List Value → World → Prop) (m1 : List Value → World → Nat), I1 [v10, v15] w ∧ ∀ (f1 : Env) (wh1 : World), I1 [f1 5, f1 6] wh1 →
NX P (oBuiltin .len #[104] 3 [false] [a0]) wh1 fun v18 w =>
NX P (oBin .lss 3 false false (f1 6) v18) w fun v19 w =>
IFB v19 (
NX P (oIndexAddr 104 a0 (f1 6)) w fun v24 w =>
NX P (oLoad 9 v24) w fun v25 w =>
NX P (oCall a1 [v25]) w fun v28 w =>
NX P (oUn .not v28) w fun v29 w =>
IFB v29 (
NX P (oIndexAddr 104 a0 (f1 5)) w fun v33 w =>
NX P (oStore 9 v33 v25) w fun _ w =>
NX P (oBin .add 3 false true (f1 5) (.int .i64 1)) w fun v35 w =>
NX P (oBin .add 3 false true (f1 6) (.int .i64 1)) w fun v21 w =>
I1 [v35, v21] w ∧ m1 [v35, v21] w < m1 [f1 5, f1 6] wh1) (
NX P (oBin .add 3 false true (f1 6) (.int .i64 1)) w fun v21 w =>
I1 [(f1 5), v21] w ∧ m1 [(f1 5), v21] w < m1 [f1 5, f1 6] wh1)) (
NX P (oSlice 104 a0 (some (f1 5)) none none) w fun v38 w =>
NX P (oBuiltin .clear #[104] 0 [false] [v38]) w fun _ w =>
NX P (oSlice 104 a0 none (some (f1 5)) none) w fun v41 w =>
R v41 w))
def pl96 : Pl := (.seq .leaf (.seq .leaf (.seq (.seq .leaf (.cond (.seq .leaf .leaf) .leaf)) (.seq (.seq .leaf (.block (.loop [5, 6] [16, 17, 18, 19, 22, 23, 24, 25, 7, 26, 27, 28, 29, 30, 31, 32, 33, 34, 35, 5, 20, 21, 6] (.seq (.seq .leaf (.cond .leaf .leaf)) (.seq (.block (.seq .leaf (.seq .leaf (.cond (.seq .leaf .leaf) .leaf)))) .leaf))))) (.seq .leaf (.seq .leaf .leaf))))))
theorem G96_ok {a0 a1 : Value} {w : World} {R : Value → World → Prop} (h : G96 Tryz.prog a0 a1 w R) : Calls Tryz.prog 96 #[a0, a1] w fun e w' => ∃ v, e = .returned v ∧ R v w' :=
  sh_calls Tryz.mixed Tryz.func96 rfl pl96 (by kernel_rfl) (cast (by kernel_rfl) h)

/-- toolchest/paths.parts$1 -/
def G98 (P : Program) (a0 : Value) (w : World) (R : Value → World → Prop) : Prop :=
NX P (oBin .eql 9 false true a0 (.string { data := #[] })) w fun v4 w =>
R v4 w
def pl98 : Pl := (.seq .leaf (.seq .leaf .leaf))
theorem G98_ok {a0 : Value} {w : World} {R : Value → World → Prop} (h : G98 Tryz.prog a0 w R) : Calls Tryz.prog 98 #[a0] w fun e w' => ∃ v, e = .returned v ∧ R v w' :=
  sh_calls Tryz.mixed Tryz.func98 rfl pl98 (by kernel_rfl) (cast (by kernel_rfl) h)

/-- slices.IndexFunc[[]string,string] -/
def G114 (P : Program) (a0 a1 : Value) (w : World) (R : Value → World → Prop) : Prop :=
NX P (oBuiltin .len #[104] 3 [false] [a0]) w fun v7 w =>
∃ (I1 : List Value → World → Prop) (m1 : List Value → World → Nat), I1 [(.int .i64 0)] w ∧ ∀ (f1 : Env) (wh1 : World), I1 [f1 8] wh1 →
NX P (oBin .lss 3 false false (f1 8) v7) wh1 fun v9 w =>
IFB v9 (
NX P (oIndexAddr 104 a0 (f1 8)) w fun v14 w =>
NX P (oLoad 9 v14) w fun v15 w =>
NX P (oCall a1 [v15]) w fun v16 w =>
IFB v16 (
R (f1 8) w) (
NX P (oBin .add 3 false true (f1 8) (.int .i64 1)) w fun v18 w =>
I1 [v18] w ∧ m1 [v18] w < m1 [f1 8] wh1)) (
R (.int .i64 (-1)) w)
def pl114 : Pl := (.seq .leaf (.seq (.seq .leaf (.block (.loop [8] [9, 10, 5, 11, 12, 13, 14, 15, 16, 17, 4, 18, 8] (.seq .leaf (.seq (.cond .leaf .leaf) (.seq (.block (.seq .leaf (.seq .leaf (.cond (.seq .leaf .leaf) .leaf)))) .leaf)))))) (.seq .leaf .leaf)))
theorem G114_ok {a0 a1 : Value} {w : World} {R : Value → World → Prop} (h : G114 Tryz.prog a0 a1 w R) : Calls Tryz.prog 114 #[a0, a1] w fun e w' => ∃ v, e = .returned v ∧ R v w' :=
  sh_calls Tryz.mixed Tryz.func114 rfl pl114 (by kernel_rfl) (cast (by kernel_rfl) h)

end Go.Proofs.YthakeicmaeefiaaGreatDoor
