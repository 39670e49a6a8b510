/- Shallow readings of functions of the program, written by gen.py. -/
import Derived.Test.YthakeicmaeefiaaGreatDoorFc
set_option linter.unusedVariables false
set_option linter.unusedSimpArgs false
namespace Go.Proofs.YthakeicmaeefiaaGreatDoor
open Go Go.Sh Go.Proofs
set_option maxRecDepth 100000
/-- internal/stringslite.Index -/
def G77 (P : Program) (a0 a1 : Value) (w : World) (R : Value → World → Prop) : Prop :=
NX P (oBuiltin .len #[9] 3 [false] [a1]) w fun v15 w =>
∃ J1 : List Value → World → Prop, (
NX P (oBin .eql 3 false true v15 (.int .i64 0)) w fun v18 w =>
IFB v18 (
J1 [(.bool true)] w) (
NX P (oBin .eql 9 false false a1 a0) w fun v22 w =>
J1 [v22] w)) ∧ ∀ (f1 : Env) (w : World), J1 [f1 16] w →
IFB (f1 16) (
R (.int .i64 0) w) (
NX P (oBin .eql 3 false true v15 (.int .i64 1)) w fun v26 w =>
IFB v26 (
NX P (oIndex 9 a1 (.int .i64 0)) w fun v29 w =>
NX P (oCall (fnV 99) [a0, v29]) w fun v30 w =>
R v30 w) (
NX P (oBuiltin .len #[9] 3 [false] [a0]) w fun v34 w =>
NX P (oBin .geq 3 false false v15 v34) w fun v35 w =>
IFB v35 (
R (.int .i64 (-1)) w) (
∃ J2 : List Value → World → Prop, (
NX P (oLoad 3 (.pointer (some ⟨0, 0, none⟩))) w fun v38 w =>
NX P (oBin .leq 3 false false v15 v38) w fun v39 w =>
IFB v39 (
NX P (oBuiltin .len #[9] 3 [false] [a0]) w fun v42 w =>
NX P (oBin .leq 3 false true v42 (.int .i64 64)) w fun v43 w =>
J2 [v43] w) (
J2 [(.bool false)] w)) ∧ ∀ (f2 : Env) (w : World), J2 [f2 36] w →
IFB (f2 36) (
NX P (oCall (fnV 100) [a0, a1]) w fun v47 w =>
R v47 w) (
NX P (oIndex 9 a1 (.int .i64 0)) w fun v49 w =>
NX P (oIndex 9 a1 (.int .i64 1)) w fun v51 w =>
NX P (oBuiltin .len #[9] 3 [false] [a0]) w fun v53 w =>
NX P (oBin .sub 3 false false v53 v15) w fun v55 w =>
NX P (oBin .add 3 false true v55 (.int .i64 1)) w fun v56 w =>
∃ (I3 : List Value → World → Prop) (m3 : List Value → World → Nat), I3 [(.int .i64 0), (.int .i64 0)] w ∧ ∀ (f3 : Env) (wh3 : World), I3 [f3 8, f3 10] wh3 →
NX P (oBin .lss 3 false false (f3 8) v56) wh3 fun v59 w =>
IFB v59 (
∃ J4 : List Value → World → Prop, (
NX P (oIndex 9 a0 (f3 8)) w fun v62 w =>
NX P (oBin .neq 5 false false v62 v49) w fun v64 w =>
IFB v64 (
NX P (oBin .add 3 false true (f3 8) (.int .i64 1)) w fun v67 w =>
NX P (oSlice 9 a0 (some v67) (some v56) none) w fun v69 w =>
NX P (oCall (fnV 99) [v69, v49]) w fun v71 w =>
NX P (oBin .lss 3 false true v71 (.int .i64 0)) w fun v73 w =>
IFB v73 (
R (.int .i64 (-1)) w) (
NX P (oBin .add 3 false true v71 (.int .i64 1)) w fun v76 w =>
NX P (oBin .add 3 false false (f3 8) v76) w fun v77 w =>
J4 [v77] w)) (
J4 [(f3 8)] w)) ∧ ∀ (f4 : Env) (w : World), J4 [f4 8] w →
∃ J5 : List Value → World → Prop, (
NX P (oBin .add 3 false true (f4 8) (.int .i64 1)) w fun v80 w =>
NX P (oIndex 9 a0 v80) w fun v81 w =>
NX P (oBin .eql 5 false false v81 v51) w fun v83 w =>
IFB v83 (
NX P (oBin .add 3 false false (f4 8) v15) w fun v89 w =>
NX P (oSlice 9 a0 (some (f4 8)) (some v89) none) w fun v90 w =>
NX P (oBin .eql 9 false false v90 a1) w fun v92 w =>
IFB v92 (
R (f4 8) w) (
J5 [] w)) (
J5 [] w)) ∧ ∀ (f5 : Env) (w : World), J5 [] w →
NX P (oBin .add 3 false true (f4 8) (.int .i64 1)) w fun v96 w =>
NX P (oBin .add 3 false true (f3 10) (.int .i64 1)) w fun v98 w =>
∃ J6 : List Value → World → Prop, (
NX P (oLoad 3 (.pointer (some ⟨0, 0, none⟩))) w fun v100 w =>
NX P (oBin .leq 3 false false v15 v100) w fun v101 w =>
IFB v101 (
NX P (oCall (fnV 101) [v96]) w fun v105 w =>
NX P (oBin .gtr 3 false false v98 v105) w fun v106 w =>
J6 [v106] w) (
J6 [(.bool false)] w)) ∧ ∀ (f6 : Env) (w : World), J6 [f6 107] w →
IFB (f6 107) (
NX P (oSlice 9 a0 (some v96) none none) w fun v110 w =>
NX P (oCall (fnV 100) [v110, a1]) w fun v112 w =>
NX P (oBin .geq 3 false true v112 (.int .i64 0)) w fun v114 w =>
IFB v114 (
NX P (oBin .add 3 false false v112 v96) w fun v117 w =>
R v117 w) (
R (.int .i64 (-1)) w)) (
∃ J7 : List Value → World → Prop, (
NX P (oLoad 3 (.pointer (some ⟨0, 0, none⟩))) w fun v119 w =>
NX P (oBin .gtr 3 false false v15 v119) w fun v120 w =>
IFB v120 (
NX P (oBin .shr 3 false true v96 (.int .u64 4)) w fun v124 w =>
NX P (oBin .add 3 true false (.int .i64 4) v124) w fun v125 w =>
NX P (oBin .geq 3 false false v98 v125) w fun v126 w =>
IFB v126 (
NX P (oBin .lss 3 false false v96 v56) w fun v131 w =>
J7 [v131] w) (
J7 [(.bool false)] w)) (
J7 [(.bool false)] w)) ∧ ∀ (f7 : Env) (w : World), J7 [f7 132] w →
IFB (f7 132) (
NX P (oSlice 9 a0 (some v96) none none) w fun v135 w =>
NX P (oCall (fnV 102) [v135, a1]) w fun v137 w =>
NX P (oBin .lss 3 false true v137 (.int .i64 0)) w fun v139 w =>
IFB v139 (
R (.int .i64 (-1)) w) (
NX P (oBin .add 3 false false v96 v137) w fun v142 w =>
R v142 w)) (
I3 [v96, v98] w ∧ m3 [v96, v98] w < m3 [f3 8, f3 10] wh3))) (
R (.int .i64 (-1)) w)))))
def pl77 : Pl := (.seq .leaf (.seq .leaf (.seq (.block (.join [16] [17, 18, 19, 20, 21, 22, 23, 16] .leaf (.cond (.seq .leaf .leaf) (.seq .leaf (.cond (.seq .leaf .leaf) (.seq .leaf (.cond (.seq .leaf .leaf) (.join [36] [37, 38, 39, 40, 41, 42, 43, 44, 36] .leaf (.cond (.seq .leaf .leaf) .leaf))))))))) (.seq .leaf (.seq .leaf (.seq .leaf (.seq .leaf (.seq .leaf (.seq (.block (.loop [8, 10] [57, 58, 59, 60, 61, 62, 63, 64, 65, 66, 67, 68, 69, 70, 71, 11, 72, 73, 4, 74, 75, 76, 77, 8, 78, 79, 80, 81, 82, 83, 84, 85, 86, 87, 88, 89, 90, 91, 92, 93, 94, 95, 96, 97, 98, 10, 99, 100, 101, 102, 103, 104, 105, 106, 107, 108, 109, 110, 111, 112, 12, 113, 114, 115, 116, 117, 118, 119, 120, 121, 122, 123, 124, 125, 126, 127, 128, 129, 130, 131, 132, 133, 134, 135, 136, 137, 13, 138, 139, 140, 141, 142] (.seq (.seq .leaf (.cond .leaf .leaf)) (.block (.join [8] [60, 61, 62, 63, 64, 65, 66, 67, 68, 69, 70, 71, 11, 72, 73, 4, 74, 75, 76, 77, 8] (.seq .leaf (.cond (.seq .leaf (.seq (.seq .leaf (.cond (.seq .leaf .leaf) .leaf)) .leaf)) .leaf)) (.join [] [78, 79, 80, 81, 82, 83, 84, 85, 86, 87, 88, 89, 90, 91, 92, 93, 94, 4] (.seq .leaf (.cond (.seq .leaf .leaf) .leaf)) (.seq .leaf (.seq .leaf (.join [107] [99, 100, 101, 102, 103, 104, 105, 106, 107] .leaf (.cond (.seq .leaf (.seq (.seq .leaf (.cond (.seq .leaf .leaf) .leaf)) (.seq .leaf .leaf))) (.join [132] [118, 119, 120, 121, 122, 123, 124, 125, 126, 127, 128, 129, 130, 131, 132] .leaf (.cond (.seq .leaf (.seq (.seq .leaf (.cond (.seq .leaf .leaf) .leaf)) (.seq .leaf .leaf))) .leaf)))))))))))) (.seq .leaf .leaf))))))))))
theorem G77_ok {a0 a1 : Value} {w : World} {R : Value → World → Prop} (h : G77 Tryz.prog a0 a1 w R) : Calls Tryz.prog 77 #[a0, a1] w fun e w' => ∃ v, e = .returned v ∧ R v w' :=
  sh_calls Tryz.mixed Tryz.func77 rfl pl77 (by kernel_rfl) (cast (by kernel_rfl) h)

/-- strings.IndexAny -/
def G94 (P : Program) (a0 a1 : Value) (w : World) (R : Value → World → Prop) : Prop :=
NX P (oBin .eql 9 false true a1 (.string { data := #[] })) w fun v12 w =>
IFB v12 (
R (.int .i64 (-1)) w) (
NX P (oBuiltin .len #[9] 3 [false] [a1]) w fun v14 w =>
NX P (oBin .eql 3 false true v14 (.int .i64 1)) w fun v15 w =>
IFB v15 (
NX P (oIndex 9 a1 (.int .i64 0)) w fun v17 w =>
NX P (oConvert 5 21 v17) w fun v18 w =>
∃ J1 : List Value → World → Prop, (
NX P (oBin .geq 21 false true v18 (.int .i32 128)) w fun v20 w =>
IFB v20 (
J1 [(.int .i32 65533)] w) (
J1 [v18] w)) ∧ ∀ (f1 : Env) (w : World), J1 [f1 5] w →
NX P (oCall (fnV 109) [a0, (f1 5)]) w fun v23 w =>
R v23 w) (
∃ J2 : List Value → World → Prop, (
NX P (oBuiltin .len #[9] 3 [false] [a0]) w fun v25 w =>
NX P (oCall (fnV 110) [v25]) w fun v26 w =>
IFB v26 (
NX P (oCall (fnV 111) [a1]) w fun v29 w =>
NX P (oExtract v29 0) w fun v30 w =>
NX P (oExtract v29 1) w fun v31 w =>
NX P (oAlloc 139) w fun v6 w =>
NX P (oStore 139 v6 v30) w fun _ w =>
IFB v31 (
∃ (I3 : List Value → World → Prop) (m3 : List Value → World → Nat), I3 [(.int .i64 0)] w ∧ ∀ (f3 : Env) (wh3 : World), I3 [f3 8] wh3 →
NX P (oBuiltin .len #[9] 3 [false] [a0]) wh3 fun v35 w =>
NX P (oBin .lss 3 false false (f3 8) v35) w fun v36 w =>
IFB v36 (
NX P (oIndex 9 a0 (f3 8)) w fun v41 w =>
NX P (oCall (fnV 112) [v6, v41]) w fun v42 w =>
IFB v42 (
R (f3 8) w) (
NX P (oBin .add 3 false true (f3 8) (.int .i64 1)) w fun v38 w =>
I3 [v38] w ∧ m3 [v38] w < m3 [f3 8] wh3)) (
R (.int .i64 (-1)) w)) (
J2 [] w)) (
J2 [] w)) ∧ ∀ (f2 : Env) (w : World), J2 [] w →
NX P (oRange 9 a0) w fun v45 w =>
∃ (I4 : List Value → World → Prop) (m4 : List Value → World → Nat), I4 [] w ∧ ∀ (f4 : Env) (wh4 : World), I4 [] wh4 →
NX P (oNext 0 true v45) wh4 fun v46 w =>
NX P (oExtract v46 0) w fun v47 w =>
IFB v47 (
NX P (oExtract v46 1) w fun v48 w =>
NX P (oExtract v46 2) w fun v49 w =>
NX P (oCall (fnV 109) [a1, v49]) w fun v52 w =>
NX P (oBin .geq 3 false true v52 (.int .i64 0)) w fun v53 w =>
IFB v53 (
R v48 w) (
I4 [] w ∧ m4 [] w < m4 [] wh4)) (
R (.int .i64 (-1)) w)))
def pl94 : Pl := (.seq .leaf (.seq (.seq .leaf (.cond (.seq .leaf .leaf) .leaf)) (.seq (.seq .leaf (.cond (.seq .leaf (.join [5] [19, 20, 5] (.seq .leaf (.cond .leaf .leaf)) (.seq .leaf .leaf))) .leaf)) (.join [] [24, 25, 26, 28, 29, 27, 30, 31, 6, 7, 32, 8, 33, 34, 35, 36, 39, 40, 41, 42, 43, 4, 37, 38] (.seq .leaf (.cond (.seq .leaf (.seq .leaf (.cond (.seq (.seq .leaf (.block (.loop [8] [33, 34, 35, 36, 39, 40, 41, 42, 43, 4, 37, 38, 8] (.seq (.seq .leaf (.cond .leaf .leaf)) (.seq (.block (.seq .leaf (.cond (.seq .leaf .leaf) .leaf))) .leaf))))) (.seq .leaf .leaf)) .leaf))) .leaf)) (.seq (.seq .leaf (.block (.loop [] [46, 47, 48, 49, 9, 10, 50, 51, 52, 53, 54, 4] (.seq .leaf (.seq (.cond .leaf .leaf) (.block (.seq .leaf (.seq .leaf (.cond (.seq .leaf .leaf) .leaf))))))))) (.seq .leaf .leaf))))))
theorem G94_ok {a0 a1 : Value} {w : World} {R : Value → World → Prop} (h : G94 Tryz.prog a0 a1 w R) : Calls Tryz.prog 94 #[a0, a1] w fun e w' => ∃ v, e = .returned v ∧ R v w' :=
  sh_calls Tryz.mixed Tryz.func94 rfl pl94 (by kernel_rfl) (cast (by kernel_rfl) h)

/-- strings.Split -/
def G97 (P : Program) (a0 a1 : Value) (w : World) (R : Value → World → Prop) : Prop :=
NX P (oCall (fnV 115) [a0, a1, (.int .i64 0), (.int .i64 (-1))]) w fun v7 w =>
R v7 w
def pl97 : Pl := (.seq .leaf (.seq .leaf .leaf))
theorem G97_ok {a0 a1 : Value} {w : World} {R : Value → World → Prop} (h : G97 Tryz.prog a0 a1 w R) : Calls Tryz.prog 97 #[a0, a1] w fun e w' => ∃ v, e = .returned v ∧ R v w' :=
  sh_calls Tryz.mixed Tryz.func97 rfl pl97 (by kernel_rfl) (cast (by kernel_rfl) h)

/-- internal/stringslite.IndexByte -/
def G99 (P : Program) (a0 a1 : Value) (w : World) (R : Value → World → Prop) : Prop :=
NX P (oCall (fnV 116) [a0, a1]) w fun v7 w =>
R v7 w
def pl99 : Pl := (.seq .leaf (.seq .leaf .leaf))
theorem G99_ok {a0 a1 : Value} {w : World} {R : Value → World → Prop} (h : G99 Tryz.prog a0 a1 w R) : Calls Tryz.prog 99 #[a0, a1] w fun e w' => ∃ v, e = .returned v ∧ R v w' :=
  sh_calls Tryz.mixed Tryz.func99 rfl pl99 (by kernel_rfl) (cast (by kernel_rfl) h)

/-- internal/bytealg.Cutover -/
def G101 (P : Program) (a0 : Value) (w : World) (R : Value → World → Prop) : Prop :=
NX P (oBin .add 3 false true a0 (.int .i64 16)) w fun v4 w =>
NX P (oBin .quo 3 false true v4 (.int .i64 8)) w fun v5 w =>
R v5 w
def pl101 : Pl := (.seq .leaf (.seq .leaf .leaf))
theorem G101_ok {a0 : Value} {w : World} {R : Value → World → Prop} (h : G101 Tryz.prog a0 w R) : Calls Tryz.prog 101 #[a0] w fun e w' => ∃ v, e = .returned v ∧ R v w' :=
  sh_calls Tryz.mixed Tryz.func101 rfl pl101 (by kernel_rfl) (cast (by kernel_rfl) h)

/-- internal/bytealg.IndexRabinKarp[string] -/
def G102 (P : Program) (a0 a1 : Value) (w : World) (R : Value → World → Prop) : Prop :=
NX P (oCall (fnV 117) [a1]) w fun v13 w =>
NX P (oExtract v13 0) w fun v14 w =>
NX P (oExtract v13 1) w fun v15 w =>
NX P (oBuiltin .len #[9] 3 [false] [a1]) w fun v17 w =>
∃ (I1 : List Value → World → Prop) (m1 : List Value → World → Nat), I1 [(.int .u32 0), (.int .i64 0)] w ∧ ∀ (f1 : Env) (wh1 : World), I1 [f1 8, f1 9] wh1 →
NX P (oBin .lss 3 false false (f1 9) v17) wh1 fun v20 w =>
IFB v20 (
NX P (oBin .mul 145 false true (f1 8) (.int .u32 16777619)) w fun v24 w =>
NX P (oIndex 9 a0 (f1 9)) w fun v27 w =>
NX P (oConvert 5 145 v27) w fun v28 w =>
NX P (oBin .add 145 false false v24 v28) w fun v29 w =>
NX P (oBin .add 3 false true (f1 9) (.int .i64 1)) w fun v22 w =>
I1 [v29, v22] w ∧ m1 [v29, v22] w < m1 [f1 8, f1 9] wh1) (
∃ J2 : List Value → World → Prop, (
NX P (oBin .eql 145 false false (f1 8) v14) w fun v32 w =>
IFB v32 (
NX P (oSlice 9 a0 none (some v17) none) w fun v36 w =>
NX P (oBin .eql 9 false false v36 a1) w fun v38 w =>
IFB v38 (
R (.int .i64 0) w) (
J2 [] w)) (
J2 [] w)) ∧ ∀ (f2 : Env) (w : World), J2 [] w →
∃ (I3 : List Value → World → Prop) (m3 : List Value → World → Nat), I3 [(f1 8), v17] w ∧ ∀ (f3 : Env) (wh3 : World), I3 [f3 8, f3 10] wh3 →
NX P (oBuiltin .len #[9] 3 [false] [a0]) wh3 fun v43 w =>
NX P (oBin .lss 3 false false (f3 10) v43) w fun v44 w =>
IFB v44 (
NX P (oBin .mul 145 false true (f3 8) (.int .u32 16777619)) w fun v46 w =>
NX P (oIndex 9 a0 (f3 10)) w fun v50 w =>
NX P (oConvert 5 145 v50) w fun v51 w =>
NX P (oBin .add 145 false false v46 v51) w fun v52 w =>
NX P (oBin .sub 3 false false (f3 10) v17) w fun v58 w =>
NX P (oIndex 9 a0 v58) w fun v59 w =>
NX P (oConvert 5 145 v59) w fun v60 w =>
NX P (oBin .mul 145 false false v15 v60) w fun v61 w =>
NX P (oBin .sub 145 false false v52 v61) w fun v62 w =>
NX P (oBin .add 3 false true (f3 10) (.int .i64 1)) w fun v64 w =>
NX P (oBin .eql 145 false false v62 v14) w fun v67 w =>
IFB v67 (
NX P (oBin .sub 3 false false v64 v17) w fun v72 w =>
NX P (oSlice 9 a0 (some v72) (some v64) none) w fun v74 w =>
NX P (oBin .eql 9 false false v74 a1) w fun v76 w =>
IFB v76 (
NX P (oBin .sub 3 false false v64 v17) w fun v80 w =>
R v80 w) (
I3 [v62, v64] w ∧ m3 [v62, v64] w < m3 [f3 8, f3 10] wh3)) (
I3 [v62, v64] w ∧ m3 [v62, v64] w < m3 [f3 8, f3 10] wh3)) (
R (.int .i64 (-1)) w))
def pl102 : Pl := (.seq .leaf (.seq .leaf (.seq .leaf (.seq .leaf (.seq (.seq .leaf (.block (.loop [8, 9] [18, 19, 20, 23, 24, 25, 26, 27, 28, 29, 8, 21, 22, 9] (.seq (.seq .leaf (.cond .leaf .leaf)) (.seq (.block .leaf) .leaf))))) (.join [] [30, 31, 32, 33, 34, 35, 36, 37, 38, 39, 4] (.seq .leaf (.cond (.seq .leaf .leaf) .leaf)) (.seq (.seq .leaf (.block (.loop [8, 10] [41, 42, 43, 44, 45, 46, 8, 47, 48, 49, 50, 51, 52, 53, 54, 55, 56, 57, 58, 59, 60, 61, 62, 63, 64, 10, 65, 66, 67, 68, 69, 70, 71, 72, 73, 74, 75, 76, 77, 78, 79, 80, 4] (.seq (.seq .leaf (.cond .leaf .leaf)) (.block (.seq .leaf (.seq .leaf (.seq .leaf (.seq .leaf (.seq .leaf (.cond (.seq .leaf .leaf) .leaf))))))))))) (.seq .leaf .leaf))))))))
theorem G102_ok {a0 a1 : Value} {w : World} {R : Value → World → Prop} (h : G102 Tryz.prog a0 a1 w R) : Calls Tryz.prog 102 #[a0, a1] w fun e w' => ∃ v, e = .returned v ∧ R v w' :=
  sh_calls Tryz.mixed Tryz.func102 rfl pl102 (by kernel_rfl) (cast (by kernel_rfl) h)

/-- strings.IndexRune -/
def G109 (P : Program) (a0 a1 : Value) (w : World) (R : Value → World → Prop) : Prop :=
∃ J1 : List Value → World → Prop, (
NX P (oBin .leq 21 true false (.int .i32 0) a1) w fun v162 w =>
IFB v162 (
NX P (oBin .lss 21 false true a1 (.int .i32 128)) w fun v165 w =>
J1 [v165] w) (
J1 [(.bool false)] w)) ∧ ∀ (f1 : Env) (w : World), J1 [f1 160] w →
IFB (f1 160) (
NX P (oConvert 21 5 a1) w fun v169 w =>
NX P (oCall (fnV 121) [a0, v169]) w fun v170 w =>
R v170 w) (
NX P (oBin .eql 21 false true a1 (.int .i32 65533)) w fun v173 w =>
IFB v173 (
NX P (oRange 9 a0) w fun v175 w =>
∃ (I2 : List Value → World → Prop) (m2 : List Value → World → Nat), I2 [] w ∧ ∀ (f2 : Env) (wh2 : World), I2 [] wh2 →
NX P (oNext 0 true v175) wh2 fun v176 w =>
NX P (oExtract v176 0) w fun v177 w =>
IFB v177 (
NX P (oExtract v176 1) w fun v178 w =>
NX P (oExtract v176 2) w fun v179 w =>
NX P (oBin .eql 21 false true v179 (.int .i32 65533)) w fun v181 w =>
IFB v181 (
R v178 w) (
I2 [] w ∧ m2 [] w < m2 [] wh2)) (
R (.int .i64 (-1)) w)) (
NX P (oCall (fnV 122) [a1]) w fun v185 w =>
NX P (oUn .not v185) w fun v186 w =>
IFB v186 (
R (.int .i64 (-1)) w) (
NX P (oConvert 21 9 a1) w fun v18 w =>
NX P (oBuiltin .len #[9] 3 [false] [v18]) w fun v20 w =>
NX P (oBin .sub 3 false true v20 (.int .i64 1)) w fun v21 w =>
∃ (I3 : List Value → World → Prop) (m3 : List Value → World → Nat), I3 [v21] w ∧ ∀ (f3 : Env) (wh3 : World), I3 [f3 9] wh3 →
NX P (oBuiltin .len #[9] 3 [false] [a0]) wh3 fun v25 w =>
NX P (oBin .lss 3 false false (f3 9) v25) w fun v26 w =>
IFB v26 (
∃ J4 : List Value → World → Prop, (
FX P (oIndex 9 a0 (f3 9)) fun v29 =>
FX P (oIndex 9 v18 v21) fun v32 =>
FX P (oBin .neq 5 false false v29 v32) fun v33 =>
IFB v33 (
FX P (oBin .add 3 false true (f3 9) (.int .i64 1)) fun v36 =>
FX P (oSlice 9 a0 (some v36) none none) fun v37 =>
FX P (oIndex 9 v18 v21) fun v40 =>
NX P (oCall (fnV 121) [v37, v40]) (w.drew).drew fun v41 w =>
NX P (oBin .lss 3 false true v41 (.int .i64 0)) w fun v43 w =>
IFB v43 (
R (.int .i64 (-1)) w) (
NX P (oBin .add 3 false true v41 (.int .i64 1)) w fun v46 w =>
NX P (oBin .add 3 false false (f3 9) v46) w fun v47 w =>
J4 [v47] w)) (
J4 [(f3 9)] w.drew)) ∧ ∀ (f4 : Env) (w : World), J4 [f4 9] w →
∃ (I5 : List Value → World → Prop) (m5 : List Value → World → Nat), I5 [(.int .i64 1)] w ∧ ∀ (f5 : Env) (wh5 : World), I5 [f5 12] wh5 →
NX P (oBuiltin .len #[9] 3 [false] [v18]) wh5 fun v50 w =>
NX P (oBin .lss 3 false false (f5 12) v50) w fun v51 w =>
IFB v51 (
FX P (oBin .sub 3 false false (f4 9) (f5 12)) fun v57 =>
FX P (oIndex 9 a0 v57) fun v58 =>
FX P (oBin .sub 3 false false v21 (f5 12)) fun v62 =>
FX P (oIndex 9 v18 v62) fun v63 =>
FX P (oBin .neq 5 false false v58 v63) fun v64 =>
IFB v64 (
False) (
NX P (oBin .add 3 false true (f5 12) (.int .i64 1)) w.drew fun v53 w =>
I5 [v53] w ∧ m5 [v53] w < m5 [f5 12] wh5)) (
NX P (oBin .sub 3 false false (f4 9) v21) w fun v67 w =>
R v67 w)) (
R (.int .i64 (-1)) w))))
def pl109 : Pl := (.seq .leaf (.block (.join [160] [161, 162, 163, 164, 165, 166, 160] .leaf (.cond (.seq .leaf .leaf) (.seq .leaf (.cond (.seq (.seq .leaf (.block (.loop [] [176, 177, 178, 179, 5, 6, 180, 181, 182, 4] (.seq .leaf (.seq (.cond .leaf .leaf) (.block (.seq .leaf (.seq .leaf (.cond (.seq .leaf .leaf) .leaf))))))))) (.seq .leaf .leaf)) (.seq .leaf (.cond (.seq .leaf .leaf) (.block (.seq .leaf (.seq .leaf (.seq .leaf (.seq .leaf (.seq (.block (.loop [9] [23, 24, 25, 26, 27, 28, 29, 30, 31, 32, 33, 34, 35, 36, 37, 38, 39, 40, 41, 11, 42, 43, 4, 44, 45, 46, 47, 9, 12, 48, 49, 50, 51, 54, 55, 56, 57, 58, 59, 60, 61, 62, 63, 64, 52, 53, 65, 66, 67, 68, 69, 10, 70, 71, 72, 73, 74, 75, 76, 77, 78, 79, 80, 81, 82, 83, 84, 85, 86, 87, 88, 89, 90, 91, 92, 93, 94, 95, 96, 97, 98] (.seq (.seq .leaf (.cond .leaf .leaf)) (.block (.block (.join [9] [27, 28, 29, 30, 31, 32, 33, 34, 35, 36, 37, 38, 39, 40, 41, 11, 42, 43, 4, 44, 45, 46, 47, 9] (.seq (.draw (.take 0 (.take 1 (.take 2 (.take 3 (.take 4 (.take 5 (.take 6 .fin)))))))) (.cond (.seq (.draw (.take 0 (.take 1 (.take 2 (.take 3 (.take 4 (.take 5 (.take 6 (.one 7 (.take 8 .fin)))))))))) (.seq (.seq .leaf (.cond (.seq .leaf .leaf) .leaf)) .leaf)) .leaf)) (.seq (.seq .leaf (.block (.loop [12] [48, 49, 50, 51, 54, 55, 56, 57, 58, 59, 60, 61, 62, 63, 64, 52, 53, 12] (.seq (.seq .leaf (.cond .leaf .leaf)) (.seq (.block (.seq (.draw (.take 0 (.take 1 (.take 2 (.take 3 (.take 4 (.take 5 (.take 6 (.take 7 (.take 8 (.take 9 (.take 10 .fin)))))))))))) (.cond .leaf .leaf))) .leaf))))) (.seq (.seq .leaf .leaf) (.seq .leaf (.seq .leaf (.seq .leaf (.seq .leaf (.cond .leaf .leaf))))))))))))) (.seq (.seq .leaf .leaf) (.seq .leaf (.seq .leaf (.seq .leaf .leaf))))))))))))))))))
theorem G109_ok {a0 a1 : Value} {w : World} {R : Value → World → Prop} (h : G109 Tryz.prog a0 a1 w R) : Calls Tryz.prog 109 #[a0, a1] w fun e w' => ∃ v, e = .returned v ∧ R v w' :=
  sh_calls Tryz.mixed Tryz.func109 rfl pl109 (by kernel_rfl) (cast (by kernel_rfl) h)

/-- strings.shouldUseASCIISet -/
def G110 (P : Program) (a0 : Value) (w : World) (R : Value → World → Prop) : Prop :=
NX P (oBin .gtr 3 false true a0 (.int .i64 8)) w fun v4 w =>
R v4 w
def pl110 : Pl := (.seq .leaf (.seq .leaf .leaf))
theorem G110_ok {a0 : Value} {w : World} {R : Value → World → Prop} (h : G110 Tryz.prog a0 w R) : Calls Tryz.prog 110 #[a0] w fun e w' => ∃ v, e = .returned v ∧ R v w' :=
  sh_calls Tryz.mixed Tryz.func110 rfl pl110 (by kernel_rfl) (cast (by kernel_rfl) h)

/-- strings.makeASCIISet -/
def G111 (P : Program) (a0 : Value) (w : World) (R : Value → World → Prop) : Prop :=
NX P (oAlloc 139) w fun v2 w =>
∃ (I1 : List Value → World → Prop) (m1 : List Value → World → Nat), I1 [(.int .i64 0)] w ∧ ∀ (f1 : Env) (wh1 : World), I1 [f1 4] wh1 →
NX P (oBuiltin .len #[9] 3 [false] [a0]) wh1 fun v8 w =>
NX P (oBin .lss 3 false false (f1 4) v8) w fun v9 w =>
IFB v9 (
NX P (oIndex 9 a0 (f1 4)) w fun v14 w =>
NX P (oBin .geq 5 false true v14 (.int .u8 128)) w fun v16 w =>
IFB v16 (
NX P (oLoad 139 v2) w fun v17 w =>
NX P (oStore 139 v2 v17) w fun _ w =>
LX P 139 v2 w fun r2 =>
R (.tuple #[r2, (.bool false)]) w) (
NX P (oIndexAddr 139 v2 v14) w fun v19 w =>
NX P (oStore 4 v19 (.bool true)) w fun _ w =>
NX P (oBin .add 3 false true (f1 4) (.int .i64 1)) w fun v11 w =>
I1 [v11] w ∧ m1 [v11] w < m1 [f1 4] wh1)) (
NX P (oLoad 139 v2) w fun v20 w =>
NX P (oStore 139 v2 v20) w fun _ w =>
LX P 139 v2 w fun r2 =>
R (.tuple #[r2, (.bool true)]) w)
def pl111 : Pl := (.seq .leaf (.seq (.seq .leaf (.block (.loop [4] [6, 7, 8, 9, 12, 13, 14, 5, 15, 16, 17, 3, 18, 19, 10, 11, 4] (.seq (.seq .leaf (.cond .leaf .leaf)) (.seq (.block (.seq .leaf (.seq (.seq .leaf (.cond (.seq .leaf .leaf) .leaf)) .leaf))) .leaf))))) (.seq .leaf .leaf)))
theorem G111_ok {a0 : Value} {w : World} {R : Value → World → Prop} (h : G111 Tryz.prog a0 w R) : Calls Tryz.prog 111 #[a0] w fun e w' => ∃ v, e = .returned v ∧ R v w' :=
  sh_calls Tryz.mixed Tryz.func111 rfl pl111 (by kernel_rfl) (cast (by kernel_rfl) h)

/-- (*strings.asciiSet).contains -/
def G112 (P : Program) (a0 a1 : Value) (w : World) (R : Value → World → Prop) : Prop :=
NX P (oNil a0) w fun v7 w =>
NX P (oIndexAddr 139 v7 a1) w fun v8 w =>
NX P (oLoad 4 v8) w fun v9 w =>
R v9 w
def pl112 : Pl := (.seq .leaf (.seq .leaf .leaf))
theorem G112_ok {a0 a1 : Value} {w : World} {R : Value → World → Prop} (h : G112 Tryz.prog a0 a1 w R) : Calls Tryz.prog 112 #[a0, a1] w fun e w' => ∃ v, e = .returned v ∧ R v w' :=
  sh_calls Tryz.mixed Tryz.func112 rfl pl112 (by kernel_rfl) (cast (by kernel_rfl) h)

/-- strings.genSplit -/
def G115 (P : Program) (a0 a1 a2 a3 : Value) (w : World) (R : Value → World → Prop) : Prop :=
NX P (oBin .eql 3 false true a3 (.int .i64 0)) w fun v13 w =>
IFB v13 (
R (.slice none 0 0) w) (
NX P (oBin .eql 9 false true a1 (.string { data := #[] })) w fun v15 w =>
IFB v15 (
NX P (oCall (fnV 123) [a0, a3]) w fun v18 w =>
R v18 w) (
∃ J1 : List Value → World → Prop, (
NX P (oBin .lss 3 false true a3 (.int .i64 0)) w fun v20 w =>
IFB v20 (
NX P (oCall (fnV 124) [a0, a1]) w fun v23 w =>
NX P (oBin .add 3 false true v23 (.int .i64 1)) w fun v24 w =>
J1 [v24] w) (
J1 [a3] w)) ∧ ∀ (f1 : Env) (w : World), J1 [f1 3] w →
NX P (oBuiltin .len #[9] 3 [false] [a0]) w fun v27 w =>
NX P (oBin .add 3 false true v27 (.int .i64 1)) w fun v28 w =>
NX P (oBuiltin .min #[3, 3] 3 [false, false] [(f1 3), v28]) w fun v29 w =>
NX P (oMakeSlice 104 v29 v29) w fun v31 w =>
NX P (oBin .sub 3 false true v29 (.int .i64 1)) w fun v33 w =>
∃ J2 : List Value → World → Prop, (
∃ (I3 : List Value → World → Prop) (m3 : List Value → World → Nat), I3 [a0, (.int .i64 0)] w ∧ ∀ (f3 : Env) (wh3 : World), I3 [f3 0, f3 10] wh3 →
NX P (oBin .lss 3 false false (f3 10) v33) wh3 fun v36 w =>
IFB v36 (
NX P (oCall (fnV 56) [(f3 0), a1]) w fun v39 w =>
NX P (oBin .lss 3 false true v39 (.int .i64 0)) w fun v41 w =>
IFB v41 (
J2 [(f3 0), (f3 10)] w) (
NX P (oBin .add 3 false false v39 a2) w fun v47 w =>
NX P (oSlice 9 (f3 0) none (some v47) none) w fun v48 w =>
NX P (oIndexAddr 104 v31 (f3 10)) w fun v49 w =>
NX P (oStore 9 v49 v48) w fun _ w =>
NX P (oBuiltin .len #[9] 3 [false] [a1]) w fun v53 w =>
NX P (oBin .add 3 false false v39 v53) w fun v54 w =>
NX P (oSlice 9 (f3 0) (some v54) none none) w fun v55 w =>
NX P (oBin .add 3 false true (f3 10) (.int .i64 1)) w fun v57 w =>
I3 [v55, v57] w ∧ m3 [v55, v57] w < m3 [f3 0, f3 10] wh3)) (
J2 [(f3 0), (f3 10)] w)) ∧ ∀ (f2 : Env) (w : World), J2 [f2 0, f2 10] w →
NX P (oIndexAddr 104 v31 (f2 10)) w fun v61 w =>
NX P (oStore 9 v61 (f2 0)) w fun _ w =>
NX P (oBin .add 3 false true (f2 10) (.int .i64 1)) w fun v64 w =>
NX P (oSlice 104 v31 none (some v64) none) w fun v65 w =>
R v65 w))
def pl115 : Pl := (.seq .leaf (.seq (.seq .leaf (.cond (.seq .leaf .leaf) .leaf)) (.seq (.seq .leaf (.cond (.seq .leaf .leaf) .leaf)) (.join [3] [19, 20, 21, 22, 23, 24, 3] (.seq .leaf (.cond .leaf .leaf)) (.seq .leaf (.seq .leaf (.seq .leaf (.seq .leaf (.join [0, 10] [34, 35, 36, 37, 38, 39, 11, 40, 41, 42, 43, 44, 45, 46, 47, 48, 49, 50, 51, 52, 53, 54, 55, 0, 56, 57, 10] (.block (.loop [0, 10] [34, 35, 36, 37, 38, 39, 11, 40, 41, 42, 43, 44, 45, 46, 47, 48, 49, 50, 51, 52, 53, 54, 55, 0, 56, 57, 10] (.seq (.seq .leaf (.cond .leaf .leaf)) (.block (.seq .leaf (.seq (.seq .leaf (.cond .leaf .leaf)) (.seq .leaf (.seq .leaf .leaf)))))))) (.seq .leaf (.seq .leaf .leaf)))))))))))
theorem G115_ok {a0 a1 a2 a3 : Value} {w : World} {R : Value → World → Prop} (h : G115 Tryz.prog a0 a1 a2 a3 w R) : Calls Tryz.prog 115 #[a0, a1, a2, a3] w fun e w' => ∃ v, e = .returned v ∧ R v w' :=
  sh_calls Tryz.mixed Tryz.func115 rfl pl115 (by kernel_rfl) (cast (by kernel_rfl) h)

/-- internal/bytealg.hashStr[string] -/
def G117 (P : Program) (a0 : Value) (w : World) (R : Value → World → Prop) : Prop :=
∃ (I1 : List Value → World → Prop) (m1 : List Value → World → Nat), I1 [(.int .u32 0), (.int .i64 0)] w ∧ ∀ (f1 : Env) (wh1 : World), I1 [f1 4, f1 5] wh1 →
NX P (oBuiltin .len #[9] 3 [false] [a0]) wh1 fun v11 w =>
NX P (oBin .lss 3 false false (f1 5) v11) w fun v12 w =>
IFB v12 (
NX P (oBin .mul 145 false true (f1 4) (.int .u32 16777619)) w fun v16 w =>
NX P (oIndex 9 a0 (f1 5)) w fun v19 w =>
NX P (oConvert 5 145 v19) w fun v20 w =>
NX P (oBin .add 145 false false v16 v20) w fun v21 w =>
NX P (oBin .add 3 false true (f1 5) (.int .i64 1)) w fun v14 w =>
I1 [v21, v14] w ∧ m1 [v21, v14] w < m1 [f1 4, f1 5] wh1) (
NX P (oBuiltin .len #[9] 3 [false] [a0]) w fun v23 w =>
∃ (I2 : List Value → World → Prop) (m2 : List Value → World → Nat), I2 [(.int .u32 1), (.int .u32 16777619), v23] w ∧ ∀ (f2 : Env) (wh2 : World), I2 [f2 6, f2 7, f2 8] wh2 →
NX P (oBin .gtr 3 false true (f2 8) (.int .i64 0)) wh2 fun v25 w =>
IFB v25 (
NX P (oBin .and 3 false true (f2 8) (.int .i64 1)) w fun v29 w =>
NX P (oBin .neq 3 false true v29 (.int .i64 0)) w fun v30 w =>
IFB v30 (
NX P (oBin .mul 145 false false (f2 6) (f2 7)) w fun v33 w =>
NX P (oBin .mul 145 false false (f2 7) (f2 7)) w fun v36 w =>
NX P (oBin .shr 3 false true (f2 8) (.int .u64 1)) w fun v27 w =>
I2 [v33, v36, v27] w ∧ m2 [v33, v36, v27] w < m2 [f2 6, f2 7, f2 8] wh2) (
NX P (oBin .mul 145 false false (f2 7) (f2 7)) w fun v36 w =>
NX P (oBin .shr 3 false true (f2 8) (.int .u64 1)) w fun v27 w =>
I2 [(f2 6), v36, v27] w ∧ m2 [(f2 6), v36, v27] w < m2 [f2 6, f2 7, f2 8] wh2)) (
R (.tuple #[(f1 4), (f2 6)]) w))
def pl117 : Pl := (.seq .leaf (.seq .leaf (.seq (.seq .leaf (.block (.loop [4, 5] [9, 10, 11, 12, 15, 16, 17, 18, 19, 20, 21, 4, 13, 14, 5] (.seq (.seq .leaf (.cond .leaf .leaf)) (.seq (.block .leaf) .leaf))))) (.seq .leaf (.seq (.seq .leaf (.block (.loop [6, 7, 8] [24, 25, 28, 29, 30, 31, 32, 33, 6, 34, 35, 36, 7, 26, 27, 8] (.seq (.seq .leaf (.cond .leaf .leaf)) (.seq (.block (.seq (.seq .leaf (.cond .leaf .leaf)) .leaf)) .leaf))))) (.seq .leaf .leaf))))))
theorem G117_ok {a0 : Value} {w : World} {R : Value → World → Prop} (h : G117 Tryz.prog a0 w R) : Calls Tryz.prog 117 #[a0] w fun e w' => ∃ v, e = .returned v ∧ R v w' :=
  sh_calls Tryz.mixed Tryz.func117 rfl pl117 (by kernel_rfl) (cast (by kernel_rfl) h)

/-- slices.rotateRight[toolchest/api.Entry] -/
def G120 (P : Program) (a0 a1 : Value) (w : World) (R : Value → World → Prop) : Prop :=
NX P (oBuiltin .len #[42] 3 [false] [a0]) w fun v6 w =>
NX P (oBin .sub 3 false false v6 a1) w fun v8 w =>
NX P (oCall (fnV 125) [a0, v8]) w fun v9 w =>
R (.tuple #[]) w
def pl120 : Pl := .leaf
theorem G120_ok {a0 a1 : Value} {w : World} {R : Value → World → Prop} (h : G120 Tryz.prog a0 a1 w R) : Calls Tryz.prog 120 #[a0, a1] w fun e w' => ∃ v, e = .returned v ∧ R v w' :=
  sh_calls Tryz.mixed Tryz.func120 rfl pl120 (by kernel_rfl) (cast (by kernel_rfl) h)

/-- strings.IndexByte -/
def G121 (P : Program) (a0 a1 : Value) (w : World) (R : Value → World → Prop) : Prop :=
NX P (oCall (fnV 99) [a0, a1]) w fun v7 w =>
R v7 w
def pl121 : Pl := (.seq .leaf (.seq .leaf .leaf))
theorem G121_ok {a0 a1 : Value} {w : World} {R : Value → World → Prop} (h : G121 Tryz.prog a0 a1 w R) : Calls Tryz.prog 121 #[a0, a1] w fun e w' => ∃ v, e = .returned v ∧ R v w' :=
  sh_calls Tryz.mixed Tryz.func121 rfl pl121 (by kernel_rfl) (cast (by kernel_rfl) h)

/-- unicode/utf8.ValidRune -/
def G122 (P : Program) (a0 : Value) (w : World) (R : Value → World → Prop) : Prop :=
∃ J1 : List Value → World → Prop, (
NX P (oBin .leq 21 true false (.int .i32 0) a0) w fun v5 w =>
IFB v5 (
NX P (oBin .lss 21 false true a0 (.int .i32 55296)) w fun v8 w =>
J1 [v8] w) (
J1 [(.bool false)] w)) ∧ ∀ (f1 : Env) (w : World), J1 [f1 3] w →
IFB (f1 3) (
R (.bool true) w) (
NX P (oBin .lss 21 true false (.int .i32 57343) a0) w fun v12 w =>
IFB v12 (
NX P (oBin .leq 21 false true a0 (.int .i32 1114111)) w fun v15 w =>
IFB v15 (
R (.bool true) w) (
R (.bool false) w)) (
R (.bool false) w))
def pl122 : Pl := (.seq .leaf (.seq (.block (.join [3] [4, 5, 6, 7, 8, 9, 3] .leaf (.cond (.seq .leaf .leaf) (.seq .leaf (.cond (.seq .leaf .leaf) .leaf))))) (.seq .leaf .leaf)))
theorem G122_ok {a0 : Value} {w : World} {R : Value → World → Prop} (h : G122 Tryz.prog a0 w R) : Calls Tryz.prog 122 #[a0] w fun e w' => ∃ v, e = .returned v ∧ R v w' :=
  sh_calls Tryz.mixed Tryz.func122 rfl pl122 (by kernel_rfl) (cast (by kernel_rfl) h)

/-- strings.explode -/
def G123 (P : Program) (a0 a1 : Value) (w : World) (R : Value → World → Prop) : Prop :=
NX P (oCall (fnV 126) [a0]) w fun v11 w =>
∃ J1 : List Value → World → Prop, (
NX P (oBin .lss 3 false true a1 (.int .i64 0)) w fun v13 w =>
IFB v13 (
J1 [v11] w) (
NX P (oBin .gtr 3 false false a1 v11) w fun v17 w =>
IFB v17 (
J1 [v11] w) (
J1 [a1] w))) ∧ ∀ (f1 : Env) (w : World), J1 [f1 1] w →
NX P (oMakeSlice 104 (f1 1) (f1 1)) w fun v21 w =>
∃ (I2 : List Value → World → Prop) (m2 : List Value → World → Nat), I2 [a0, (.int .i64 0)] w ∧ ∀ (f2 : Env) (wh2 : World), I2 [f2 0, f2 7] wh2 →
NX P (oBin .sub 3 false true (f1 1) (.int .i64 1)) wh2 fun v24 w =>
NX P (oBin .lss 3 false false (f2 7) v24) w fun v25 w =>
IFB v25 (
NX P (oCall (fnV 127) [(f2 0)]) w fun v30 w =>
NX P (oExtract v30 0) w fun v31 w =>
NX P (oExtract v30 1) w fun v32 w =>
NX P (oSlice 9 (f2 0) none (some v32) none) w fun v37 w =>
NX P (oIndexAddr 104 v21 (f2 7)) w fun v38 w =>
NX P (oStore 9 v38 v37) w fun _ w =>
NX P (oSlice 9 (f2 0) (some v32) none none) w fun v41 w =>
NX P (oBin .add 3 false true (f2 7) (.int .i64 1)) w fun v27 w =>
I2 [v41, v27] w ∧ m2 [v41, v27] w < m2 [f2 0, f2 7] wh2) (
NX P (oBin .gtr 3 false true (f1 1) (.int .i64 0)) w fun v43 w =>
IFB v43 (
NX P (oBin .sub 3 false true (f1 1) (.int .i64 1)) w fun v46 w =>
NX P (oIndexAddr 104 v21 v46) w fun v48 w =>
NX P (oStore 9 v48 (f2 0)) w fun _ w =>
R v21 w) (
R v21 w))
def pl123 : Pl := (.seq .leaf (.seq .leaf (.join [1] [12, 13, 14, 15, 16, 17, 18, 19, 1] (.seq .leaf (.cond .leaf .leaf)) (.seq .leaf (.seq (.seq .leaf (.block (.loop [0, 7] [22, 23, 24, 25, 29, 30, 28, 31, 32, 8, 9, 33, 34, 35, 36, 37, 38, 39, 40, 41, 0, 26, 27, 7] (.seq (.seq .leaf (.cond .leaf .leaf)) (.seq (.block (.seq .leaf (.seq .leaf .leaf))) .leaf))))) (.seq (.seq .leaf (.cond .leaf .leaf)) (.seq .leaf .leaf)))))))
theorem G123_ok {a0 a1 : Value} {w : World} {R : Value → World → Prop} (h : G123 Tryz.prog a0 a1 w R) : Calls Tryz.prog 123 #[a0, a1] w fun e w' => ∃ v, e = .returned v ∧ R v w' :=
  sh_calls Tryz.mixed Tryz.func123 rfl pl123 (by kernel_rfl) (cast (by kernel_rfl) h)

/-- strings.Count -/
def G124 (P : Program) (a0 a1 : Value) (w : World) (R : Value → World → Prop) : Prop :=
NX P (oBuiltin .len #[9] 3 [false] [a1]) w fun v8 w =>
NX P (oBin .eql 3 false true v8 (.int .i64 0)) w fun v9 w =>
IFB v9 (
NX P (oCall (fnV 126) [a0]) w fun v11 w =>
NX P (oBin .add 3 false true v11 (.int .i64 1)) w fun v12 w =>
R v12 w) (
NX P (oBuiltin .len #[9] 3 [false] [a1]) w fun v14 w =>
NX P (oBin .eql 3 false true v14 (.int .i64 1)) w fun v15 w =>
IFB v15 (
NX P (oIndex 9 a1 (.int .i64 0)) w fun v18 w =>
NX P (oCall (fnV 128) [a0, v18]) w fun v19 w =>
R v19 w) (
∃ (I1 : List Value → World → Prop) (m1 : List Value → World → Nat), I1 [a0, (.int .i64 0)] w ∧ ∀ (f1 : Env) (wh1 : World), I1 [f1 0, f1 5] wh1 →
NX P (oCall (fnV 56) [(f1 0), a1]) wh1 fun v22 w =>
NX P (oBin .eql 3 false true v22 (.int .i64 (-1))) w fun v24 w =>
IFB v24 (
R (f1 5) w) (
NX P (oBin .add 3 false true (f1 5) (.int .i64 1)) w fun v27 w =>
NX P (oBuiltin .len #[9] 3 [false] [a1]) w fun v31 w =>
NX P (oBin .add 3 false false v22 v31) w fun v32 w =>
NX P (oSlice 9 (f1 0) (some v32) none none) w fun v33 w =>
I1 [v33, v27] w ∧ m1 [v33, v27] w < m1 [f1 0, f1 5] wh1)))
def pl124 : Pl := (.seq .leaf (.seq (.seq .leaf (.cond (.seq .leaf .leaf) .leaf)) (.seq (.seq .leaf (.cond (.seq .leaf .leaf) .leaf)) (.seq .leaf (.block (.loop [0, 5] [20, 21, 22, 6, 23, 24, 25, 4, 26, 27, 5, 28, 29, 30, 31, 32, 33, 0] (.block (.seq .leaf (.seq (.seq .leaf (.cond (.seq .leaf .leaf) .leaf)) (.seq .leaf .leaf))))))))))
theorem G124_ok {a0 a1 : Value} {w : World} {R : Value → World → Prop} (h : G124 Tryz.prog a0 a1 w R) : Calls Tryz.prog 124 #[a0, a1] w fun e w' => ∃ v, e = .returned v ∧ R v w' :=
  sh_calls Tryz.mixed Tryz.func124 rfl pl124 (by kernel_rfl) (cast (by kernel_rfl) h)

/-- slices.rotateLeft[toolchest/api.Entry] -/
def G125 (P : Program) (a0 a1 : Value) (w : World) (R : Value → World → Prop) : Prop :=
NX P (oSlice 42 a0 none (some a1) none) w fun v6 w =>
NX P (oCall (fnV 129) [v6]) w fun v7 w =>
NX P (oSlice 42 a0 (some a1) none none) w fun v10 w =>
NX P (oCall (fnV 129) [v10]) w fun v11 w =>
NX P (oCall (fnV 129) [a0]) w fun v13 w =>
R (.tuple #[]) w
def pl125 : Pl := (.seq .leaf (.seq .leaf .leaf))
theorem G125_ok {a0 a1 : Value} {w : World} {R : Value → World → Prop} (h : G125 Tryz.prog a0 a1 w R) : Calls Tryz.prog 125 #[a0, a1] w fun e w' => ∃ v, e = .returned v ∧ R v w' :=
  sh_calls Tryz.mixed Tryz.func125 rfl pl125 (by kernel_rfl) (cast (by kernel_rfl) h)

/-- unicode/utf8.RuneCountInString -/
def G126 (P : Program) (a0 : Value) (w : World) (R : Value → World → Prop) : Prop :=
NX P (oRange 9 a0) w fun v4 w =>
∃ (I1 : List Value → World → Prop) (m1 : List Value → World → Nat), I1 [(.int .i64 0)] w ∧ ∀ (f1 : Env) (wh1 : World), I1 [f1 2] wh1 →
NX P (oNext 0 true v4) wh1 fun v5 w =>
NX P (oExtract v5 0) w fun v6 w =>
IFB v6 (
NX P (oBin .add 3 false true (f1 2) (.int .i64 1)) w fun v8 w =>
I1 [v8] w ∧ m1 [v8] w < m1 [f1 2] wh1) (
R (f1 2) w)
def pl126 : Pl := (.seq .leaf (.seq (.seq .leaf (.block (.loop [2] [5, 6, 7, 8, 2] (.seq .leaf (.seq (.cond .leaf .leaf) (.block .leaf)))))) (.seq .leaf .leaf)))
theorem G126_ok {a0 : Value} {w : World} {R : Value → World → Prop} (h : G126 Tryz.prog a0 w R) : Calls Tryz.prog 126 #[a0] w fun e w' => ∃ v, e = .returned v ∧ R v w' :=
  sh_calls Tryz.mixed Tryz.func126 rfl pl126 (by kernel_rfl) (cast (by kernel_rfl) h)

/-- unicode/utf8.DecodeRuneInString -/
def G127 (P : Program) (a0 : Value) (w : World) (R : Value → World → Prop) : Prop :=
∃ J1 : List Value → World → Prop, (
NX P (oBin .neq 9 false true a0 (.string { data := #[] })) w fun v5 w =>
IFB v5 (
NX P (oIndex 9 a0 (.int .i64 0)) w fun v8 w =>
NX P (oBin .lss 5 false true v8 (.int .u8 128)) w fun v9 w =>
J1 [v9] w) (
J1 [(.bool false)] w)) ∧ ∀ (f1 : Env) (w : World), J1 [f1 10] w →
IFB (f1 10) (
NX P (oIndex 9 a0 (.int .i64 0)) w fun v12 w =>
NX P (oConvert 5 21 v12) w fun v13 w =>
R (.tuple #[v13, (.int .i64 1)]) w) (
NX P (oCall (fnV 130) [a0]) w fun v16 w =>
NX P (oExtract v16 0) w fun v17 w =>
NX P (oExtract v16 1) w fun v18 w =>
R (.tuple #[v17, v18]) w)
def pl127 : Pl := (.seq .leaf (.seq (.join [10] [4, 5, 6, 7, 8, 9, 10] .leaf (.cond (.seq .leaf .leaf) .leaf)) .leaf))
theorem G127_ok {a0 : Value} {w : World} {R : Value → World → Prop} (h : G127 Tryz.prog a0 w R) : Calls Tryz.prog 127 #[a0] w fun e w' => ∃ v, e = .returned v ∧ R v w' :=
  sh_calls Tryz.mixed Tryz.func127 rfl pl127 (by kernel_rfl) (cast (by kernel_rfl) h)

/-- slices.Reverse[[]toolchest/api.Entry,toolchest/api.Entry] -/
def G129 (P : Program) (a0 : Value) (w : World) (R : Value → World → Prop) : Prop :=
NX P (oBuiltin .len #[42] 3 [false] [a0]) w fun v5 w =>
NX P (oBin .sub 3 false true v5 (.int .i64 1)) w fun v6 w =>
∃ (I1 : List Value → World → Prop) (m1 : List Value → World → Nat), I1 [(.int .i64 0), v6] w ∧ ∀ (f1 : Env) (wh1 : World), I1 [f1 2, f1 3] wh1 →
NX P (oBin .lss 3 false false (f1 2) (f1 3)) wh1 fun v9 w =>
IFB v9 (
FX P (oIndexAddr 42 a0 (f1 3)) fun v20 =>
LX P 93 v20 w.drew fun v21 =>
FX P (oIndexAddr 42 a0 (f1 2)) fun v24 =>
LX P 93 v24 w.drew fun v25 =>
FX P (oIndexAddr 42 a0 (f1 2)) fun v26 =>
NX P (oStore 93 v26 v21) w.drew fun _ w =>
FX P (oIndexAddr 42 a0 (f1 3)) fun v27 =>
NX P (oStore 93 v27 v25) w fun _ w =>
NX P (oBin .add 3 false true (f1 2) (.int .i64 1)) w fun v11 w =>
NX P (oBin .sub 3 false true (f1 3) (.int .i64 1)) w fun v13 w =>
I1 [v11, v13] w ∧ m1 [v11, v13] w < m1 [f1 2, f1 3] wh1) (
R (.tuple #[]) w)
def pl129 : Pl := (.seq .leaf (.block (.loop [2, 3] [7, 8, 9, 14, 15, 16, 17, 18, 19, 20, 21, 22, 23, 24, 25, 26, 27, 10, 11, 12, 13, 2, 3] (.seq (.seq .leaf (.cond .leaf .leaf)) (.seq (.block (.draw (.take 0 (.take 1 (.take 2 (.take 3 (.take 4 (.take 5 (.take 6 (.take 7 (.take 8 (.take 9 (.take 10 (.take 11 (.take 12 (.one 13 (.take 14 (.one 15 .fin)))))))))))))))))) .leaf)))))
theorem G129_ok {a0 : Value} {w : World} {R : Value → World → Prop} (h : G129 Tryz.prog a0 w R) : Calls Tryz.prog 129 #[a0] w fun e w' => ∃ v, e = .returned v ∧ R v w' :=
  sh_calls Tryz.mixed Tryz.func129 rfl pl129 (by kernel_rfl) (cast (by kernel_rfl) h)

/-- unicode/utf8.decodeRuneInStringSlow -/
def G130 (P : Program) (a0 : Value) (w : World) (R : Value → World → Prop) : Prop :=
NX P (oBuiltin .len #[9] 3 [false] [a0]) w fun v14 w =>
NX P (oBin .lss 3 false true v14 (.int .i64 1)) w fun v16 w =>
IFB v16 (
R (.tuple #[(.int .i32 65533), (.int .i64 0)]) w) (
NX P (oIndex 9 a0 (.int .i64 0)) w fun v18 w =>
NX P (oIndexAddr 157 (.pointer (some ⟨1, 0, none⟩)) v18) w fun v20 w =>
NX P (oLoad 5 v20) w fun v21 w =>
NX P (oBin .geq 5 false true v21 (.int .u8 240)) w fun v23 w =>
IFB v23 (
NX P (oConvert 5 21 v21) w fun v25 w =>
NX P (oBin .shl 21 false true v25 (.int .u64 31)) w fun v26 w =>
NX P (oBin .shr 21 false true v26 (.int .u64 31)) w fun v27 w =>
NX P (oIndex 9 a0 (.int .i64 0)) w fun v29 w =>
NX P (oConvert 5 21 v29) w fun v30 w =>
NX P (oBin .andNot 21 false false v30 v27) w fun v32 w =>
NX P (oBin .and 21 true false (.int .i32 65533) v27) w fun v34 w =>
NX P (oBin .or 21 false false v32 v34) w fun v35 w =>
R (.tuple #[v35, (.int .i64 1)]) w) (
NX P (oBin .and 5 false true v21 (.int .u8 7)) w fun v37 w =>
NX P (oConvert 5 3 v37) w fun v38 w =>
NX P (oBin .shr 5 false true v21 (.int .u64 4)) w fun v40 w =>
NX P (oIndexAddr 160 (.pointer (some ⟨2, 0, none⟩)) v40) w fun v41 w =>
NX P (oLoad 159 v41) w fun v42 w =>
NX P (oAlloc 159) w fun v9 w =>
NX P (oStore 159 v9 v42) w fun _ w =>
NX P (oBin .lss 3 false false v14 v38) w fun v45 w =>
IFB v45 (
R (.tuple #[(.int .i32 65533), (.int .i64 1)]) w) (
NX P (oIndex 9 a0 (.int .i64 1)) w fun v47 w =>
NX P (oFieldAddr 159 v9 0) w fun v49 w =>
NX P (oLoad 5 v49) w fun v50 w =>
NX P (oBin .lss 5 false false v47 v50) w fun v51 w =>
IFB v51 (
R (.tuple #[(.int .i32 65533), (.int .i64 1)]) w) (
NX P (oFieldAddr 159 v9 1) w fun v53 w =>
NX P (oLoad 5 v53) w fun v54 w =>
NX P (oBin .lss 5 false false v54 v47) w fun v56 w =>
IFB v56 (
R (.tuple #[(.int .i32 65533), (.int .i64 1)]) w) (
NX P (oBin .leq 3 false true v38 (.int .i64 2)) w fun v59 w =>
IFB v59 (
NX P (oBin .and 5 false true v18 (.int .u8 31)) w fun v61 w =>
NX P (oConvert 5 21 v61) w fun v62 w =>
NX P (oBin .shl 21 false true v62 (.int .u64 6)) w fun v63 w =>
NX P (oBin .and 5 false true v47 (.int .u8 63)) w fun v65 w =>
NX P (oConvert 5 21 v65) w fun v66 w =>
NX P (oBin .or 21 false false v63 v66) w fun v67 w =>
R (.tuple #[v67, (.int .i64 2)]) w) (
NX P (oIndex 9 a0 (.int .i64 2)) w fun v69 w =>
NX P (oBin .lss 5 false true v69 (.int .u8 128)) w fun v71 w =>
IFB v71 (
R (.tuple #[(.int .i32 65533), (.int .i64 1)]) w) (
NX P (oBin .lss 5 true false (.int .u8 191) v69) w fun v74 w =>
IFB v74 (
R (.tuple #[(.int .i32 65533), (.int .i64 1)]) w) (
NX P (oBin .leq 3 false true v38 (.int .i64 3)) w fun v77 w =>
IFB v77 (
NX P (oBin .and 5 false true v18 (.int .u8 15)) w fun v79 w =>
NX P (oConvert 5 21 v79) w fun v80 w =>
NX P (oBin .shl 21 false true v80 (.int .u64 12)) w fun v81 w =>
NX P (oBin .and 5 false true v47 (.int .u8 63)) w fun v83 w =>
NX P (oConvert 5 21 v83) w fun v84 w =>
NX P (oBin .shl 21 false true v84 (.int .u64 6)) w fun v85 w =>
NX P (oBin .or 21 false false v81 v85) w fun v86 w =>
NX P (oBin .and 5 false true v69 (.int .u8 63)) w fun v88 w =>
NX P (oConvert 5 21 v88) w fun v89 w =>
NX P (oBin .or 21 false false v86 v89) w fun v90 w =>
R (.tuple #[v90, (.int .i64 3)]) w) (
NX P (oIndex 9 a0 (.int .i64 3)) w fun v92 w =>
NX P (oBin .lss 5 false true v92 (.int .u8 128)) w fun v94 w =>
IFB v94 (
R (.tuple #[(.int .i32 65533), (.int .i64 1)]) w) (
NX P (oBin .lss 5 true false (.int .u8 191) v92) w fun v97 w =>
IFB v97 (
R (.tuple #[(.int .i32 65533), (.int .i64 1)]) w) (
NX P (oBin .and 5 false true v18 (.int .u8 7)) w fun v100 w =>
NX P (oConvert 5 21 v100) w fun v101 w =>
NX P (oBin .shl 21 false true v101 (.int .u64 18)) w fun v102 w =>
NX P (oBin .and 5 false true v47 (.int .u8 63)) w fun v104 w =>
NX P (oConvert 5 21 v104) w fun v105 w =>
NX P (oBin .shl 21 false true v105 (.int .u64 12)) w fun v106 w =>
NX P (oBin .or 21 false false v102 v106) w fun v107 w =>
NX P (oBin .and 5 false true v69 (.int .u8 63)) w fun v109 w =>
NX P (oConvert 5 21 v109) w fun v110 w =>
NX P (oBin .shl 21 false true v110 (.int .u64 6)) w fun v111 w =>
NX P (oBin .or 21 false false v107 v111) w fun v112 w =>
NX P (oBin .and 5 false true v92 (.int .u8 63)) w fun v114 w =>
NX P (oConvert 5 21 v114) w fun v115 w =>
NX P (oBin .or 21 false false v112 v115) w fun v116 w =>
R (.tuple #[v116, (.int .i64 4)]) w)))))))))))
def pl130 : Pl := (.seq .leaf (.seq .leaf (.seq (.seq .leaf (.cond (.seq .leaf .leaf) .leaf)) (.seq .leaf (.seq .leaf (.seq (.seq .leaf (.cond (.seq .leaf (.seq .leaf .leaf)) .leaf)) (.seq .leaf (.seq .leaf (.seq (.seq .leaf (.cond (.seq .leaf .leaf) .leaf)) (.seq .leaf (.seq (.seq .leaf (.cond (.seq .leaf .leaf) .leaf)) (.seq (.seq .leaf (.cond (.seq .leaf .leaf) .leaf)) (.seq .leaf (.seq (.seq .leaf (.cond (.seq .leaf .leaf) .leaf)) (.seq (.seq .leaf (.cond (.seq .leaf .leaf) .leaf)) (.seq .leaf (.seq (.seq .leaf (.cond (.seq .leaf .leaf) .leaf)) (.seq .leaf .leaf))))))))))))))))))
theorem G130_ok {a0 : Value} {w : World} {R : Value → World → Prop} (h : G130 Tryz.prog a0 w R) : Calls Tryz.prog 130 #[a0] w fun e w' => ∃ v, e = .returned v ∧ R v w' :=
  sh_calls Tryz.mixed Tryz.func130 rfl pl130 (by kernel_rfl) (cast (by kernel_rfl) h)

end Go.Proofs.YthakeicmaeefiaaGreatDoor
