/- Part 3 of the proof: laws and contracts of functions, each proved; they are joined in the last part. No conditions beyond those that the theorems state. -/
import Derived.Test.YtagikldfacbonaaDoorProg
import Derived.Test.YtagikldfacbonaaDoorSw2
set_option linter.all false
namespace Go.Ve
open Go.Proofs
/-- laws.FnExactSkyWay: function 4 -/
def XW : SFun := { n := 85,res := [.t 6],body := (jq [jn 3 (.box 103 (.v 0)) [0],jn 6 (.mv (.c (.bool false))) [6]] [1,2,3] (.seq (jq [jm 15 1 [],jn 16 (.lenS (.v 15)) [15],jc 17 .gtr 16 1048576 [16]] [1,2,3,17] (.cond (.v 17) (jq [jn 6 (.mv (.c (.bool true))) []] [6] .ret) .skip)) (.seq (jq [jm 18 2 [],jn 19 (.lenS (.v 18)) [18],jc 20 .gtr 19 1048576 [19]] [1,2,3,20] (.cond (.v 20) (jq [jn 6 (.mv (.c (.bool true))) []] [6] .ret) .skip)) (jq [jI 7 1048576 []] [1,2,3,7] (jq [jL 21 7 3 [],jm 22 7 [7],jn 23 (.call 5 [.v 21,.v 22]) [21,22],jm 7 23 [23]] [1,2,3,7] (.seq (jq [jm 24 7 [7],jc 25 .lss 24 0 [24]] [1,2,3,25] (.cond (.v 25) (jq [jn 6 (.mv (.c (.bool true))) []] [6] .ret) .skip)) (jq [jL 26 7 3 [],jn 27 (.call 7 [.v 26]) [26],jm 28 1 [],jm 29 2 [],jn 30 (.call 10 [.v 27,.v 28,.v 29]) [27,28,29],jm 8 30 [30]] [1,2,3,8] (jq [jL 31 7 3 [],jn 32 (.call 7 [.v 31]) [31],jn 9 (.alloc 109 [.int .i64 0,.int .i64 0,.int .i64 0,.sl 0 3 [],.sl 0 2 [],.sl 0 2 [],.sl 0 4 []]) [],⟨none,.store 7 (.v 9) (.v 32),none,[32]⟩] [1,2,3,8,9] (jq [jL 33 7 9 [],jm 34 1 [],jm 35 2 [],jn 36 (.call 11 [.v 33,.v 34,.v 35]) [33,34,35],jm 10 36 [36]] [1,2,3,8,9,10] (.seq (jq [jm 37 10 [],jm 38 8 [],jn 39 (.call 12 [.v 37,.v 38]) [37,38],jn 40 (.not (.v 39)) [39]] [1,2,3,8,9,10,40] (.cond (.v 40) (jq [jn 6 (.mv (.c (.bool false))) []] [6] .ret) .skip)) (.seq (.seq (.rgd [jL 41 7 9 [],jL 42 7 3 [],jn 43 (.call 7 [.v 42]) [],jn 44 (.call 9 [.v 41,.v 43]) [],jn 45 (.not (.v 44)) []] [1,2,3,8,9,10,45] [some [],none,some [1],none,none]) (.cond (.v 45) (jq [jn 6 (.mv (.c (.bool false))) []] [6] .ret) .skip)) (jq [jI 11 1 []] [1,2,3,8,9,10,11] (jq [jL 46 7 9 [9],jm 47 11 [11],jn 48 (.call 13 [.v 46,.v 47]) [46,47],jm 11 48 [48]] [1,2,3,8,10,11] (.seq (jq [jm 49 11 [11],jc 50 .lss 49 0 [49],jm 51 50 [50],jM 52 51 10 [],jM 53 51 8 [],jh 54 51 (.call 12 [.v 52,.v 53]) [52,53],jh 55 51 (.not (.v 54)) [54],jp 56 51 55 [51,55]] [1,2,3,8,10,56] (.cond (.v 56) (jq [jn 6 (.mv (.c (.bool false))) []] [6] .ret) .skip)) (jq [jI 12 1 []] [1,2,3,8,10,12] (jq [jm 57 10 [],jm 58 12 [12],jn 59 (.call 14 [.v 57,.v 58]) [57,58],jm 12 59 [59]] [1,2,3,8,10,12] (jq [jI 13 1 []] [1,2,3,8,10,12,13] (jq [jm 60 10 [],jm 61 13 [13],jn 62 (.call 15 [.v 60,.v 61]) [60,61],jm 13 62 [62]] [1,2,3,8,10,12,13] (.seq (jq [jm 63 13 [],jc 64 .lss 63 0 [63]] [1,2,3,8,10,12,13,64] (.cond (.v 64) (jq [jn 6 (.mv (.c (.bool false))) []] [6] .ret) .skip)) (.seq (jq [jm 65 13 [13],jm 66 12 [],jb 67 .neq 65 66 [65,66]] [1,2,3,8,10,12,67] (.cond (.v 67) (jq [jn 6 (.mv (.c (.bool false))) []] [6] .ret) .skip)) (jq [jL 68 7 3 [3],jn 69 (.call 7 [.v 68]) [68],jm 70 1 [1],jm 71 2 [2],jn 72 (.call 11 [.v 69,.v 70,.v 71]) [69,70,71],jm 14 72 [72]] [8,10,12,14] (.seq (jq [jm 73 14 [14],jm 74 8 [8],jn 75 (.call 12 [.v 73,.v 74]) [73,74],jn 76 (.not (.v 75)) [75]] [10,12,76] (.cond (.v 76) (jq [jn 6 (.mv (.c (.bool false))) []] [6] .ret) .skip)) (jq [jI 13 1 []] [10,12,13] (jq [jm 77 10 [10],jm 78 13 [13],jn 79 (.call 15 [.v 77,.v 78]) [77,78],jm 13 79 [79]] [12,13] (.seq (jq [jm 80 13 [],jc 81 .lss 80 0 [80]] [12,13,81] (.cond (.v 81) (jq [jn 6 (.mv (.c (.bool false))) []] [6] .ret) .skip)) (.seq (jq [jm 82 13 [13],jm 83 12 [12],jb 84 .neq 82 83 [82,83]] [84] (.cond (.v 84) (jq [jn 6 (.mv (.c (.bool false))) []] [6] .ret) .skip)) (jq [jn 6 (.mv (.c (.bool true))) []] [6] .ret))))))))))))))))))))))))))) }
theorem Uq : YM Go.Proofs.Tryd.prog 4 XW = true := by kernel_rfl
/-- laws.szSky: function 5 -/
def QdB : SFun := { n := 30,res := [.t 4],body := (jq [jn 2 (.box 102 (.v 0)) [0],jI 4 0 [4]] [1,2] (jq [jf 5 3 2 [],jl 6 5 [5],jm 7 1 [1],jn 8 (.call 16 [.v 6,.v 7]) [6,7],jm 1 8 [8]] [1,2] (.seq (jq [jm 9 1 [],jc 10 .lss 9 0 [9]] [1,2,10] (.cond (.v 10) (jq [jn 4 (.mv (.c (.int .i64 (-1)))) []] [4] .ret) .skip)) (jq [jf 11 4 2 [],jl 12 11 [11],jm 13 1 [1],jn 14 (.call 17 [.v 12,.v 13]) [12,13],jm 1 14 [14]] [1,2] (.seq (jq [jm 15 1 [],jc 16 .lss 15 0 [15]] [1,2,16] (.cond (.v 16) (jq [jn 4 (.mv (.c (.int .i64 (-1)))) []] [4] .ret) .skip)) (jq [jf 17 5 2 [],jl 18 17 [17],jm 19 1 [1],jn 20 (.call 18 [.v 18,.v 19]) [18,19],jm 1 20 [20]] [1,2] (.seq (jq [jm 21 1 [],jc 22 .lss 21 0 [21]] [1,2,22] (.cond (.v 22) (jq [jn 4 (.mv (.c (.int .i64 (-1)))) []] [4] .ret) .skip)) (jq [jf 23 6 2 [2],jl 24 23 [23],jm 25 1 [1],jn 26 (.call 19 [.v 24,.v 25]) [24,25],jm 1 26 [26]] [1] (.seq (jq [jm 27 1 [],jc 28 .lss 27 0 [27]] [1,28] (.cond (.v 28) (jq [jn 4 (.mv (.c (.int .i64 (-1)))) []] [4] .ret) .skip)) (jq [jm 29 1 [1],jm 4 29 [29]] [4] .ret)))))))))) }
theorem QhZ : YM Go.Proofs.Tryd.prog 5 QdB = true := by kernel_rfl
/-- laws.toSky: function 7 -/
def Qav : SFun := { n := 30,res := [.cN 2 7],body := (jq [jn 1 (.box 101 (.v 0)) [0],jn 2 (.alloc 102 [.int .i64 0,.int .i64 0,.int .i64 0,.sl 0 3 [],.sl 0 2 [],.sl 0 2 [],.sl 0 4 []]) []] [1,2] (jq [jn 3 (.alloc 103 [.int .i64 0,.int .i64 0,.int .i64 0,.sl 0 3 [],.sl 0 2 [],.sl 0 2 [],.sl 0 4 []]) []] [1,2,3] (jq [jf 4 0 1 [],jl 5 4 [4],jf 6 0 3 [],⟨none,.store 1 (.v 6) (.v 5),none,[5,6]⟩] [1,2,3] (jq [jf 7 1 1 [],jl 8 7 [7],jf 9 1 3 [],⟨none,.store 1 (.v 9) (.v 8),none,[8,9]⟩] [1,2,3] (jq [jf 10 2 1 [],jl 11 10 [10],jf 12 2 3 [],⟨none,.store 1 (.v 12) (.v 11),none,[11,12]⟩] [1,2,3] (jq [jf 13 3 1 [],jl 14 13 [13],jn 15 (.call 21 [.v 14]) [14],jf 16 3 3 [],⟨none,.store 1 (.v 16) (.v 15),none,[15,16]⟩] [1,2,3] (jq [jf 17 4 1 [],jl 18 17 [17],jn 19 (.call 22 [.v 18]) [18],jf 20 4 3 [],⟨none,.store 1 (.v 20) (.v 19),none,[19,20]⟩] [1,2,3] (jq [jf 21 5 1 [],jl 22 21 [21],jn 23 (.call 23 [.v 22]) [22],jf 24 5 3 [],⟨none,.store 1 (.v 24) (.v 23),none,[23,24]⟩] [1,2,3] (jq [jf 25 6 1 [1],jl 26 25 [25],jn 27 (.call 24 [.v 26]) [26],jf 28 6 3 [],⟨none,.store 1 (.v 28) (.v 27),none,[27,28]⟩] [2,3] (jq [jL 29 7 3 [3],⟨none,.store 7 (.v 2) (.v 29),none,[29]⟩] [2] .ret)))))))))) }
theorem QdC : YM Go.Proofs.Tryd.prog 7 Qav = true := by kernel_rfl
/-- laws.eqSky: function 9 -/
def QdD : SFun := { n := 44,res := [.t 4],body := (jq [jn 2 (.box 102 (.v 0)) [0],jn 3 (.box 103 (.v 1)) [1],jn 4 (.mv (.c (.bool false))) [4]] [2,3] (.seq (jq [jf 5 0 2 [],jl 6 5 [5],jf 7 0 3 [],jl 8 7 [7],jb 9 .neq 6 8 [6,8]] [2,3,9] (.cond (.v 9) (jq [jn 4 (.mv (.c (.bool false))) []] [4] .ret) .skip)) (.seq (jq [jf 10 1 2 [],jl 11 10 [10],jf 12 1 3 [],jl 13 12 [12],jb 14 .neq 11 13 [11,13]] [2,3,14] (.cond (.v 14) (jq [jn 4 (.mv (.c (.bool false))) []] [4] .ret) .skip)) (.seq (jq [jf 15 2 2 [],jl 16 15 [15],jf 17 2 3 [],jl 18 17 [17],jb 19 .neq 16 18 [16,18]] [2,3,19] (.cond (.v 19) (jq [jn 4 (.mv (.c (.bool false))) []] [4] .ret) .skip)) (.seq (jq [jf 20 3 2 [],jl 21 20 [20],jf 22 3 3 [],jl 23 22 [22],jn 24 (.call 28 [.v 21,.v 23]) [21,23],jn 25 (.not (.v 24)) [24]] [2,3,25] (.cond (.v 25) (jq [jn 4 (.mv (.c (.bool false))) []] [4] .ret) .skip)) (.seq (jq [jf 26 4 2 [],jl 27 26 [26],jf 28 4 3 [],jl 29 28 [28],jn 30 (.call 29 [.v 27,.v 29]) [27,29],jn 31 (.not (.v 30)) [30]] [2,3,31] (.cond (.v 31) (jq [jn 4 (.mv (.c (.bool false))) []] [4] .ret) .skip)) (.seq (jq [jf 32 5 2 [],jl 33 32 [32],jf 34 5 3 [],jl 35 34 [34],jn 36 (.call 30 [.v 33,.v 35]) [33,35],jn 37 (.not (.v 36)) [36]] [2,3,37] (.cond (.v 37) (jq [jn 4 (.mv (.c (.bool false))) []] [4] .ret) .skip)) (.seq (jq [jf 38 6 2 [2],jl 39 38 [38],jf 40 6 3 [3],jl 41 40 [40],jn 42 (.call 31 [.v 39,.v 41]) [39,41],jn 43 (.not (.v 42)) [42]] [43] (.cond (.v 43) (jq [jn 4 (.mv (.c (.bool false))) []] [4] .ret) .skip)) (jq [jn 4 (.mv (.c (.bool true))) []] [4] .ret))))))))) }
theorem Qh0 : YM Go.Proofs.Tryd.prog 9 QdD = true := by kernel_rfl
/-- spec.SkyWay: function 10 -/
def Qco : SFun := { n := 15,res := [.t 6],body := (jq [jn 3 (.box 103 (.v 0)) [0],jn 6 (.mv (.c (.sl 0 1 []))) [6]] [1,2,3] (.seq (jq [jL 7 7 3 [],jn 8 (.call 32 [.v 7]) [7],jn 9 (.not (.v 8)) [8]] [1,2,3,9] (.cond (.v 9) (jq [jn 10 (.lit 9 1 []) [],jm 6 10 [10]] [6] .ret) .skip)) (jq [jL 11 7 3 [3],jm 12 1 [1],jm 13 2 [2],jn 14 (.call 33 [.v 11,.v 12,.v 13]) [11,12,13],jm 6 14 [14]] [6] .ret))) }
theorem Qgn : YM Go.Proofs.Tryd.prog 10 Qco = true := by kernel_rfl
def Vq : SCode := (.seq (jq [jm 11 5 [],jm 12 0 [],jn 13 (.lenL (.v 12)) [12],jb 14 .lss 11 13 [11,13]] [0,1,5,14] (.cond (.v 14) .skip (.exit 0))) (.seq (.block 1 (.seq (.rgd [jm 17 0 [],jm 18 5 [],ja 19 1 17 18 [],jl 20 19 [],jm 21 1 [],jm 22 5 [],ja 23 1 21 22 [],jl 24 23 [],jb 25 .neq 20 24 []] [0,1,5,25] [none,none,none,none,none,none,none,none,none]) (.cond (.v 25) (jq [jn 4 (.mv (.c (.bool false))) []] [4] .ret) .skip))) (.rg [jm 15 5 [5],jn 16 (.binN .add (.v 15) (ci 1)) [15],jm 5 16 [16]] [0,1,5])))
/-- laws.eqStringS: function 12 -/
def W1 : SFun := { n := 26,res := [.t 4],body := (jq [jn 4 (.mv (.c (.bool false))) [4]] [0,1] (.seq (jq [jm 6 0 [],jn 7 (.lenL (.v 6)) [6],jm 8 1 [],jn 9 (.lenL (.v 8)) [8],jb 10 .neq 7 9 [7,9]] [0,1,10] (.cond (.v 10) (jq [jn 4 (.mv (.c (.bool false))) []] [4] .ret) .skip)) (.seq (jq [jI 5 0 []] [0,1,5] (.block 0 (.loop Vq))) (jq [jn 4 (.mv (.c (.bool true))) []] [4] .ret)))) }
theorem QdO : YM Go.Proofs.Tryd.prog 12 W1 = true := by kernel_rfl
/-- laws.markSky: function 13 -/
def Qbp : SFun := { n := 22,res := [.t 4],body := (jq [jn 2 (.box 102 (.v 0)) [0],jI 4 0 [4]] [1,2] (jq [jf 5 3 2 [],jl 6 5 [5],jm 7 1 [1],jn 8 (.call 34 [.v 6,.v 7]) [6,7],jm 1 8 [8]] [1,2] (jq [jf 9 4 2 [],jl 10 9 [9],jm 11 1 [1],jn 12 (.call 35 [.v 10,.v 11]) [10,11],jm 1 12 [12]] [1,2] (jq [jf 13 5 2 [],jl 14 13 [13],jm 15 1 [1],jn 16 (.call 36 [.v 14,.v 15]) [14,15],jm 1 16 [16]] [1,2] (jq [jf 17 6 2 [2],jl 18 17 [17],jm 19 1 [1],jn 20 (.call 37 [.v 18,.v 19]) [18,19],jm 1 20 [20]] [1] (jq [jm 21 1 [1],jm 4 21 [21]] [4] .ret)))))) }
theorem Qfw : YM Go.Proofs.Tryd.prog 13 Qbp = true := by kernel_rfl
def Xq : SCode := (.seq (jq [jm 6 5 [],jm 7 0 [],jn 8 (.lenL (.v 7)) [7],jb 9 .lss 6 8 [6,8]] [0,1,5,9] (.cond (.v 9) .skip (.exit 0))) (.seq (.block 1 (jq [jm 12 0 [],jm 13 5 [],jm 14 1 [],jn 15 (.call 38 [.v 14]) [14],ja 16 1 12 13 [12,13],⟨none,.store 1 (.v 16) (.v 15),none,[15,16]⟩] [0,1,5] (.rg [jm 17 1 [1],jn 18 (.binN .add (.v 17) (ci 1)) [17],jm 1 18 [18]] [0,1,5]))) (.rg [jm 10 5 [5],jn 11 (.binN .add (.v 10) (ci 1)) [10],jm 5 11 [11]] [0,1,5])))
/-- laws.markStringS: function 14 -/
def Zn : SFun := { n := 20,res := [.t 4],body := (jq [jI 4 0 [4]] [0,1] (.seq (jq [jI 5 0 []] [0,1,5] (.block 0 (.loop Xq))) (jq [jm 19 1 [1],jm 4 19 [19]] [4] .ret))) }
theorem Vr : YM Go.Proofs.Tryd.prog 14 Zn = true := by kernel_rfl
def XX : SCode := (.seq (jq [jm 6 5 [],jm 7 0 [],jn 8 (.lenL (.v 7)) [7],jb 9 .lss 6 8 [6,8]] [0,1,5,9] (.cond (.v 9) .skip (.exit 0))) (.seq (.block 1 (.seq (.seq (.rgd [jm 12 0 [],jm 13 5 [],ja 14 1 12 13 [],jl 15 14 [],jm 16 1 [],jn 17 (.call 38 [.v 16]) [],jb 18 .neq 15 17 []] [0,1,5,18] [none,none,some [],some [],none,some [2,1],none]) (.cond (.v 18) (jq [jn 4 (.mv (.c (.int .i64 (-1)))) []] [4] .ret) .skip)) (.rg [jm 19 1 [1],jn 20 (.binN .add (.v 19) (ci 1)) [19],jm 1 20 [20]] [0,1,5]))) (.rg [jm 10 5 [5],jn 11 (.binN .add (.v 10) (ci 1)) [10],jm 5 11 [11]] [0,1,5])))
/-- laws.heldStringS: function 15 -/
def Vs : SFun := { n := 22,res := [.t 4],body := (jq [jI 4 0 [4]] [0,1] (.seq (jq [jI 5 0 []] [0,1,5] (.block 0 (.loop XX))) (jq [jm 21 1 [1],jm 4 21 [21]] [4] .ret))) }
theorem Qcp : YM Go.Proofs.Tryd.prog 15 Vs = true := by kernel_rfl
def Ur : SCode := (.seq (jq [jm 12 5 [],jm 13 0 [],jn 14 (.lenL (.v 13)) [13],jb 15 .lss 12 14 [12,14]] [0,1,5,15] (.cond (.v 15) .skip (.exit 0))) (.seq (.block 1 (jq [jm 18 0 [],jm 19 5 [],ja 20 3 18 19 [18,19],jL 21 3 20 [20],jm 22 1 [1],jn 23 (.call 39 [.v 21,.v 22]) [21,22],jm 1 23 [23]] [0,1,5] (jq [jm 24 1 [],jc 25 .lss 24 0 [24]] [0,1,5,25] (.cond (.v 25) (jq [jn 4 (.mv (.c (.int .i64 (-1)))) []] [4] .ret) .skip)))) (.rg [jm 16 5 [5],jn 17 (.binN .add (.v 16) (ci 1)) [16],jm 5 17 [17]] [0,1,5])))
/-- laws.szSkyPointS: function 16 -/
def Vt : SFun := { n := 27,res := [.t 4],body := (jq [jI 4 0 [4]] [0,1] (jq [jm 6 1 [1],jm 7 0 [],jn 8 (.lenL (.v 7)) [7],jn 9 (.binN .sub (.v 6) (.v 8)) [6,8],jm 1 9 [9]] [0,1] (.seq (jq [jm 10 1 [],jc 11 .lss 10 0 [10]] [0,1,11] (.cond (.v 11) (jq [jn 4 (.mv (.c (.int .i64 (-1)))) []] [4] .ret) .skip)) (.seq (jq [jI 5 0 []] [0,1,5] (.block 0 (.loop Ur))) (jq [jm 26 1 [1],jm 4 26 [26]] [4] .ret))))) }
theorem Qcq : YM Go.Proofs.Tryd.prog 16 Vt = true := by kernel_rfl
def Z0 : SCode := (.seq (jq [jm 12 5 [],jm 13 0 [],jn 14 (.lenL (.v 13)) [13],jb 15 .lss 12 14 [12,14]] [0,1,5,15] (.cond (.v 15) .skip (.exit 0))) (.seq (.block 1 (jq [jm 18 0 [],jm 19 5 [],ja 20 2 18 19 [18,19],jL 21 2 20 [20],jm 22 1 [1],jn 23 (.call 40 [.v 21,.v 22]) [21,22],jm 1 23 [23]] [0,1,5] (jq [jm 24 1 [],jc 25 .lss 24 0 [24]] [0,1,5,25] (.cond (.v 25) (jq [jn 4 (.mv (.c (.int .i64 (-1)))) []] [4] .ret) .skip)))) (.rg [jm 16 5 [5],jn 17 (.binN .add (.v 16) (ci 1)) [16],jm 5 17 [17]] [0,1,5])))
/-- laws.szSkyAirwayS: function 17 -/
def U1 : SFun := { n := 27,res := [.t 4],body := (jq [jI 4 0 [4]] [0,1] (jq [jm 6 1 [1],jm 7 0 [],jn 8 (.lenL (.v 7)) [7],jn 9 (.binN .sub (.v 6) (.v 8)) [6,8],jm 1 9 [9]] [0,1] (.seq (jq [jm 10 1 [],jc 11 .lss 10 0 [10]] [0,1,11] (.cond (.v 11) (jq [jn 4 (.mv (.c (.int .i64 (-1)))) []] [4] .ret) .skip)) (.seq (jq [jI 5 0 []] [0,1,5] (.block 0 (.loop Z0))) (jq [jm 26 1 [1],jm 4 26 [26]] [4] .ret))))) }
theorem QbI : YM Go.Proofs.Tryd.prog 17 U1 = true := by kernel_rfl
def Z1 : SCode := (.seq (jq [jm 12 5 [],jm 13 0 [],jn 14 (.lenL (.v 13)) [13],jb 15 .lss 12 14 [12,14]] [0,1,5,15] (.cond (.v 15) .skip (.exit 0))) (.seq (.block 1 (jq [jm 18 0 [],jm 19 5 [],ja 20 2 18 19 [18,19],jL 21 2 20 [20],jm 22 1 [1],jn 23 (.call 41 [.v 21,.v 22]) [21,22],jm 1 23 [23]] [0,1,5] (jq [jm 24 1 [],jc 25 .lss 24 0 [24]] [0,1,5,25] (.cond (.v 25) (jq [jn 4 (.mv (.c (.int .i64 (-1)))) []] [4] .ret) .skip)))) (.rg [jm 16 5 [5],jn 17 (.binN .add (.v 16) (ci 1)) [16],jm 5 17 [17]] [0,1,5])))
/-- laws.szSkySectorS: function 18 -/
def U2 : SFun := { n := 27,res := [.t 4],body := (jq [jI 4 0 [4]] [0,1] (jq [jm 6 1 [1],jm 7 0 [],jn 8 (.lenL (.v 7)) [7],jn 9 (.binN .sub (.v 6) (.v 8)) [6,8],jm 1 9 [9]] [0,1] (.seq (jq [jm 10 1 [],jc 11 .lss 10 0 [10]] [0,1,11] (.cond (.v 11) (jq [jn 4 (.mv (.c (.int .i64 (-1)))) []] [4] .ret) .skip)) (.seq (jq [jI 5 0 []] [0,1,5] (.block 0 (.loop Z1))) (jq [jm 26 1 [1],jm 4 26 [26]] [4] .ret))))) }
theorem QbJ : YM Go.Proofs.Tryd.prog 18 U2 = true := by kernel_rfl
def Z2 : SCode := (.seq (jq [jm 12 5 [],jm 13 0 [],jn 14 (.lenL (.v 13)) [13],jb 15 .lss 12 14 [12,14]] [0,1,5,15] (.cond (.v 15) .skip (.exit 0))) (.seq (.block 1 (jq [jm 18 0 [],jm 19 5 [],ja 20 4 18 19 [18,19],jL 21 4 20 [20],jm 22 1 [1],jn 23 (.call 42 [.v 21,.v 22]) [21,22],jm 1 23 [23]] [0,1,5] (jq [jm 24 1 [],jc 25 .lss 24 0 [24]] [0,1,5,25] (.cond (.v 25) (jq [jn 4 (.mv (.c (.int .i64 (-1)))) []] [4] .ret) .skip)))) (.rg [jm 16 5 [5],jn 17 (.binN .add (.v 16) (ci 1)) [16],jm 5 17 [17]] [0,1,5])))
/-- laws.szSkyRunwayS: function 19 -/
def U3 : SFun := { n := 27,res := [.t 4],body := (jq [jI 4 0 [4]] [0,1] (jq [jm 6 1 [1],jm 7 0 [],jn 8 (.lenL (.v 7)) [7],jn 9 (.binN .sub (.v 6) (.v 8)) [6,8],jm 1 9 [9]] [0,1] (.seq (jq [jm 10 1 [],jc 11 .lss 10 0 [10]] [0,1,11] (.cond (.v 11) (jq [jn 4 (.mv (.c (.int .i64 (-1)))) []] [4] .ret) .skip)) (.seq (jq [jI 5 0 []] [0,1,5] (.block 0 (.loop Z2))) (jq [jm 26 1 [1],jm 4 26 [26]] [4] .ret))))) }
theorem QbK : YM Go.Proofs.Tryd.prog 19 U3 = true := by kernel_rfl
def Qaw : SCode := (.seq (jq [jm 7 6 [],jm 8 1 [],jn 9 (.lenL (.v 8)) [8],jb 10 .lss 7 9 [7,9]] [1,2,5,6,10] (.cond (.v 10) .skip (.exit 0))) (.seq (.block 1 (.rgd [jm 13 5 [],jL 14 7 2 [],jm 15 1 [],jm 16 6 [],jn 17 (.binN .sub (.v 16) (ci 1)) [],ja 18 1 15 17 [],jl 19 18 [],jm 20 1 [],jm 21 6 [],ja 22 1 20 21 [],jl 23 22 [],jn 24 (.call 43 [.v 14,.v 19,.v 23]) [],jn 25 (.binN .add (.v 13) (.v 24)) [],jm 5 25 []] [1,2,5,6] [none,none,none,none,none,none,none,none,none,none,none,none,none,none])) (.rg [jm 11 6 [6],jn 12 (.binN .add (.v 11) (ci 1)) [11],jm 6 12 [12]] [1,2,5,6])))
/-- spec.l7Long: function 20 -/
def Qcr : SFun := { n := 27,res := [.t 4],body := (jq [jn 2 (.box 102 (.v 0)) [0],jI 4 0 [4]] [1,2] (jq [jI 5 0 []] [1,2,5] (.seq (jq [jI 6 1 []] [1,2,5,6] (.block 0 (.loop Qaw))) (jq [jm 26 5 [5],jm 4 26 [26]] [4] .ret)))) }
theorem Qgo : YM Go.Proofs.Tryd.prog 20 Qcr = true := by kernel_rfl
def Us : SCode := (.seq (jq [jm 8 4 [],jm 9 0 [],jn 10 (.lenL (.v 9)) [9],jb 11 .lss 8 10 [8,10]] [0,3,4,11] (.cond (.v 11) .skip (.exit 0))) (.seq (.block 1 (.rg [jm 14 3 [],jm 15 4 [],jm 16 0 [],jm 17 4 [],ja 18 3 16 17 [16,17],jL 19 3 18 [18],jn 20 (.call 44 [.v 19]) [19],ja 21 3 14 15 [14,15],⟨none,.store 3 (.v 21) (.v 20),none,[20,21]⟩] [0,3,4])) (.rg [jm 12 4 [4],jn 13 (.binN .add (.v 12) (ci 1)) [12],jm 4 13 [13]] [0,3,4])))
/-- laws.toSkyPointS: function 21 -/
def Vu : SFun := { n := 23,res := [.t 2],body := (jq [jn 2 (.mv (.c (.sl 0 3 []))) [2]] [0] (jq [jm 5 0 [],jn 6 (.lenL (.v 5)) [5],⟨some 7,.mk 107 82 3 [.str ⟨#[]⟩,.int .i64 0,.int .i64 0] (.v 6),none,[6]⟩,jm 3 7 [7]] [0,3] (.seq (jq [jI 4 0 []] [0,3,4] (.block 0 (.loop Us))) (jq [jm 22 3 [3],jm 2 22 [22]] [2] (.gh (.frzE 2) .ret))))) }
theorem Qcs : YM Go.Proofs.Tryd.prog 21 Vu = true := by kernel_rfl
def Z3 : SCode := (.seq (jq [jm 8 4 [],jm 9 0 [],jn 10 (.lenL (.v 9)) [9],jb 11 .lss 8 10 [8,10]] [0,3,4,11] (.cond (.v 11) .skip (.exit 0))) (.seq (.block 1 (.rg [jm 14 3 [],jm 15 4 [],jm 16 0 [],jm 17 4 [],ja 18 2 16 17 [16,17],jL 19 2 18 [18],jn 20 (.call 45 [.v 19]) [19],ja 21 2 14 15 [14,15],⟨none,.store 2 (.v 21) (.v 20),none,[20,21]⟩] [0,3,4])) (.rg [jm 12 4 [4],jn 13 (.binN .add (.v 12) (ci 1)) [12],jm 4 13 [13]] [0,3,4])))
/-- laws.toSkyAirwayS: function 22 -/
def U4 : SFun := { n := 23,res := [.t 2],body := (jq [jn 2 (.mv (.c (.sl 0 2 []))) [2]] [0] (jq [jm 5 0 [],jn 6 (.lenL (.v 5)) [5],⟨some 7,.mk 107 84 2 [.str ⟨#[]⟩,.sl 0 1 []] (.v 6),none,[6]⟩,jm 3 7 [7]] [0,3] (.seq (jq [jI 4 0 []] [0,3,4] (.block 0 (.loop Z3))) (jq [jm 22 3 [3],jm 2 22 [22]] [2] (.gh (.frzE 2) .ret))))) }
theorem QbL : YM Go.Proofs.Tryd.prog 22 U4 = true := by kernel_rfl
def Z4 : SCode := (.seq (jq [jm 8 4 [],jm 9 0 [],jn 10 (.lenL (.v 9)) [9],jb 11 .lss 8 10 [8,10]] [0,3,4,11] (.cond (.v 11) .skip (.exit 0))) (.seq (.block 1 (.rg [jm 14 3 [],jm 15 4 [],jm 16 0 [],jm 17 4 [],ja 18 2 16 17 [16,17],jL 19 2 18 [18],jn 20 (.call 46 [.v 19]) [19],ja 21 2 14 15 [14,15],⟨none,.store 2 (.v 21) (.v 20),none,[20,21]⟩] [0,3,4])) (.rg [jm 12 4 [4],jn 13 (.binN .add (.v 12) (ci 1)) [12],jm 4 13 [13]] [0,3,4])))
/-- laws.toSkySectorS: function 23 -/
def U5 : SFun := { n := 23,res := [.t 2],body := (jq [jn 2 (.mv (.c (.sl 0 2 []))) [2]] [0] (jq [jm 5 0 [],jn 6 (.lenL (.v 5)) [5],⟨some 7,.mk 107 88 2 [.str ⟨#[]⟩,.sl 0 6 []] (.v 6),none,[6]⟩,jm 3 7 [7]] [0,3] (.seq (jq [jI 4 0 []] [0,3,4] (.block 0 (.loop Z4))) (jq [jm 22 3 [3],jm 2 22 [22]] [2] (.gh (.frzE 2) .ret))))) }
theorem QbM : YM Go.Proofs.Tryd.prog 23 U5 = true := by kernel_rfl
def Z5 : SCode := (.seq (jq [jm 8 4 [],jm 9 0 [],jn 10 (.lenL (.v 9)) [9],jb 11 .lss 8 10 [8,10]] [0,3,4,11] (.cond (.v 11) .skip (.exit 0))) (.seq (.block 1 (.rg [jm 14 3 [],jm 15 4 [],jm 16 0 [],jm 17 4 [],ja 18 4 16 17 [16,17],jL 19 4 18 [18],jn 20 (.call 47 [.v 19]) [19],ja 21 4 14 15 [14,15],⟨none,.store 4 (.v 21) (.v 20),none,[20,21]⟩] [0,3,4])) (.rg [jm 12 4 [4],jn 13 (.binN .add (.v 12) (ci 1)) [12],jm 4 13 [13]] [0,3,4])))
/-- laws.toSkyRunwayS: function 24 -/
def U6 : SFun := { n := 23,res := [.t 2],body := (jq [jn 2 (.mv (.c (.sl 0 4 []))) [2]] [0] (jq [jm 5 0 [],jn 6 (.lenL (.v 5)) [5],⟨some 7,.mk 107 90 4 [.str ⟨#[]⟩,.int .i64 0,.int .i64 0,.int .i64 0] (.v 6),none,[6]⟩,jm 3 7 [7]] [0,3] (.seq (jq [jI 4 0 []] [0,3,4] (.block 0 (.loop Z5))) (jq [jm 22 3 [3],jm 2 22 [22]] [2] (.gh (.frzE 2) .ret))))) }
theorem QbN : YM Go.Proofs.Tryd.prog 24 U6 = true := by kernel_rfl
def ZK : SCode := (.rg [jf 24 0 1 [],jl 25 24 [24],jn 26 (.call 48 [.v 25,.c (.int .i64 1),.c (.int .i64 16)]) [25],jn 27 (.not (.v 26)) [26],jm 28 27 [27],jh 29 28 (.faddr 1 (.v 1)) [],jh 30 28 (.load1 (.v 29)) [29],jh 31 28 (.call 48 [.v 30,.c (.int .i64 1),.c (.int .i64 16)]) [30],jh 32 28 (.not (.v 31)) [31],jp 33 28 32 [28,32],jm 34 33 [33],jh 35 34 (.faddr 2 (.v 1)) [],jh 36 34 (.load1 (.v 35)) [35],jh 37 34 (.call 48 [.v 36,.c (.int .i64 1),.c (.int .i64 6)]) [36],jh 38 34 (.not (.v 37)) [37],jp 39 34 38 [34,38],jm 40 39 [39],jh 41 40 (.faddr 3 (.v 1)) [],jh 42 40 (.load1 (.v 41)) [41],jh 43 40 (.lenL (.v 42)) [42],jh 44 40 (.bin .gtr (.v 43) (ci 16)) [43],jp 45 40 44 [40,44],jm 46 45 [45],jh 47 46 (.faddr 4 (.v 1)) [],jh 48 46 (.load1 (.v 47)) [47],jh 49 46 (.lenL (.v 48)) [48],jh 50 46 (.bin .gtr (.v 49) (ci 8)) [49],jp 51 46 50 [46,50],jm 52 51 [51],jh 53 52 (.faddr 5 (.v 1)) [],jh 54 52 (.load1 (.v 53)) [53],jh 55 52 (.lenL (.v 54)) [54],jh 56 52 (.bin .gtr (.v 55) (ci 6)) [55],jp 57 52 56 [52,56],jm 58 57 [57],jh 59 58 (.faddr 6 (.v 1)) [],jh 60 58 (.load1 (.v 59)) [59],jh 61 58 (.lenL (.v 60)) [60],jh 62 58 (.bin .gtr (.v 61) (ci 4)) [61],jp 63 58 62 [58,62]] [1,63])
def ZL : SCode := (.rgd [jf 79 0 6 [],jl 80 79 [],jn 81 (.call 49 [.v 80]) [],jn 82 (.not (.v 81)) [],jm 83 82 [],jh 84 83 (.loadN 7 (.v 1)) [],jh 85 83 (.faddr 1 (.v 6)) [],jh 86 83 (.load1 (.v 85)) [],jh 87 83 (.faddr 2 (.v 6)) [],jh 88 83 (.load1 (.v 87)) [],jh 89 83 (.call 50 [.v 84,.v 86,.v 88]) [],jh 90 83 (.not (.v 89)) [],jp 91 83 90 [],jm 92 91 [],jM 93 92 4 [],jh 94 92 (.loadN 2 (.v 7)) [],jh 95 92 (.look false 2 (.bool false) (.v 93) (.v 94)) [],jp 96 92 95 [],jm 97 96 [],jM 98 97 5 [],jh 99 97 (.bin .gtr (.v 98) (ci 0)) [],jM 100 97 99 [],jt 101 100 (.faddr 0 (.v 6)) [],jt 102 100 (.load1 (.v 101)) [],jt 103 100 (.faddr 3 (.v 1)) [],jt 104 100 (.load1 (.v 103)) [],jt 105 100 (.mv (.v 5)) [],jt 106 100 (.binN .sub (.v 105) (ci 1)) [],jt 107 100 (.iaddr 3 (.v 104) (.v 106)) [],jt 108 100 (.faddr 0 (.v 107)) [],jt 109 100 (.load1 (.v 108)) [],jt 110 100 (.bin .leq (.v 102) (.v 109)) [],jh 111 97 (.pick (.v 100) (.v 110) (.c (.bool false))) [],jp 112 97 111 []] [1,3,4,6,7,67,68,69,112] [none,none,none,none,none,none,none,none,none,none,none,none,none,none,none,none,none,none,none,none,none,none,none,none,none,none,none,none,none,none,none,none,none,none])
def Wd : SCode := (jq [jb 70 .lss 69 68 []] [1,3,4,67,68,69,70] (.seq (.cond (.v 70) .skip (.exit 0)) (.seq (.block 1 (jq [jm 71 69 [],ja 72 3 67 69 [],jL 73 3 72 [72],jn 6 (.alloc 106 [.str ⟨#[]⟩,.int .i64 0,.int .i64 0]) [],jm 5 71 [71],⟨none,.store 3 (.v 6) (.v 73),none,[73]⟩] [1,3,4,5,6,67,68,69] (jq [jf 74 1 6 [],jl 75 74 [74],jf 76 2 6 [],jl 77 76 [76],jn 78 (.build [.int .i64 0,.int .i64 0] [(0,1,.v 75),(1,1,.v 77)]) [75,77],jn 7 (.alloc 107 [.int .i64 0,.int .i64 0]) [],⟨none,.store 2 (.v 7) (.v 78),none,[78]⟩] [1,3,4,5,6,7,67,68,69] (.seq (.seq ZL (.cond (.v 112) (jq [jn 2 (.mv (.c (.bool false))) []] [2] .ret) .skip)) (jq [jm 113 4 [],jL 114 2 7 [7],⟨none,.mset 2 (.v 113) (.v 114) (.c (.bool true)),none,[113,114]⟩] [1,3,4,6,67,68,69] (.rg [jm 115 3 [],jf 116 0 6 [6],jl 117 116 [116],⟨none,.mset 0 (.v 115) (.v 117) (.c (.bool true)),none,[115,117]⟩] [1,3,4,67,68,69])))))) (.rg [jn 118 (.binN .add (.v 69) (ci 1)) [69],jm 69 118 [118]] [1,3,4,67,68,69]))))
def ZM : SCode := (.rgd [jf 127 0 9 [],jl 128 127 [],jn 129 (.call 49 [.v 128]) [],jn 130 (.not (.v 129)) [],jm 131 130 [],jh 132 131 (.faddr 1 (.v 9)) [],jh 133 131 (.load1 (.v 132)) [],jh 134 131 (.lenL (.v 133)) [],jh 135 131 (.call 48 [.v 134,.c (.int .i64 2),.c (.int .i64 8)]) [],jh 136 131 (.not (.v 135)) [],jp 137 131 136 [],jm 138 137 [],jM 139 138 8 [],jh 140 138 (.bin .gtr (.v 139) (ci 0)) [],jM 141 138 140 [],jt 142 141 (.faddr 0 (.v 9)) [],jt 143 141 (.load1 (.v 142)) [],jt 144 141 (.faddr 4 (.v 1)) [],jt 145 141 (.load1 (.v 144)) [],jt 146 141 (.mv (.v 8)) [],jt 147 141 (.binN .sub (.v 146) (ci 1)) [],jt 148 141 (.iaddr 2 (.v 145) (.v 147)) [],jt 149 141 (.faddr 0 (.v 148)) [],jt 150 141 (.load1 (.v 149)) [],jt 151 141 (.bin .leq (.v 143) (.v 150)) [],jh 152 138 (.pick (.v 141) (.v 151) (.c (.bool false))) [],jp 153 138 152 []] [1,3,9,120,121,122,153] [none,none,none,none,none,none,none,none,none,none,none,none,none,none,none,none,none,none,none,none,none,none,none,none,none,none,none])
def We : SCode := (jq [jb 159 .lss 158 157 []] [1,3,10,120,121,122,156,157,158,159] (.seq (.cond (.v 159) .skip (.exit 4)) (.seq (.block 5 (jq [ja 160 1 156 158 [],jl 161 160 [160],jm 12 161 [161]] [1,3,10,12,120,121,122,156,157,158] (.seq (jq [jm 162 3 [],jm 163 12 [],jn 164 (.look false 0 (.bool false) (.v 162) (.v 163)) [162,163],jn 165 (.not (.v 164)) [164],jm 166 165 [165],jM 167 166 10 [],jM 168 166 12 [],jh 169 166 (.look false 0 (.bool false) (.v 167) (.v 168)) [167,168],jp 170 166 169 [166,169]] [1,3,10,12,120,121,122,156,157,158,170] (.cond (.v 170) (jq [jn 2 (.mv (.c (.bool false))) []] [2] .ret) .skip)) (.rg [jm 171 10 [],jm 172 12 [12],⟨none,.mset 0 (.v 171) (.v 172) (.c (.bool true)),none,[171,172]⟩] [1,3,10,120,121,122,156,157,158])))) (.rg [jn 173 (.binN .add (.v 158) (ci 1)) [158],jm 158 173 [173]] [1,3,10,120,121,122,156,157,158]))))
def Wf : SCode := (jq [jb 123 .lss 122 121 []] [1,3,120,121,122,123] (.seq (.cond (.v 123) .skip (.exit 2)) (.seq (.block 3 (jq [jm 124 122 [],ja 125 2 120 122 [],jL 126 2 125 [125],jn 9 (.alloc 109 [.str ⟨#[]⟩,.sl 0 1 []]) [],jm 8 124 [124],⟨none,.store 2 (.v 9) (.v 126),none,[126]⟩] [1,3,8,9,120,121,122] (.seq (.seq ZM (.cond (.v 153) (jq [jn 2 (.mv (.c (.bool false))) []] [2] .ret) .skip)) (jq [jn 154 (.mkmap 254 0) [],jm 10 154 [154]] [1,3,9,10,120,121,122] (jq [jf 155 1 9 [9],jl 156 155 [155],jn 157 (.lenL (.v 156)) [],jI 158 0 []] [1,3,10,120,121,122,156,157,158] (.block 4 (.loop We))))))) (.rg [jn 174 (.binN .add (.v 122) (ci 1)) [122],jm 122 174 [174]] [1,3,120,121,122]))))
def ZN : SCode := (.rgd [jf 183 0 16 [],jl 184 183 [],jn 185 (.call 49 [.v 184]) [],jn 186 (.not (.v 185)) [],jm 187 186 [],jh 188 187 (.faddr 1 (.v 16)) [],jh 189 187 (.load1 (.v 188)) [],jh 190 187 (.lenL (.v 189)) [],jh 191 187 (.call 48 [.v 190,.c (.int .i64 1),.c (.int .i64 4)]) [],jh 192 187 (.not (.v 191)) [],jp 193 187 192 [],jm 194 193 [],jM 195 194 15 [],jh 196 194 (.bin .gtr (.v 195) (ci 0)) [],jM 197 194 196 [],jt 198 197 (.faddr 0 (.v 16)) [],jt 199 197 (.load1 (.v 198)) [],jt 200 197 (.faddr 5 (.v 1)) [],jt 201 197 (.load1 (.v 200)) [],jt 202 197 (.mv (.v 15)) [],jt 203 197 (.binN .sub (.v 202) (ci 1)) [],jt 204 197 (.iaddr 2 (.v 201) (.v 203)) [],jt 205 197 (.faddr 0 (.v 204)) [],jt 206 197 (.load1 (.v 205)) [],jt 207 197 (.bin .leq (.v 199) (.v 206)) [],jh 208 194 (.pick (.v 197) (.v 207) (.c (.bool false))) [],jp 209 194 208 []] [1,13,14,16,176,177,178,209] [none,none,none,none,none,none,none,none,none,none,none,none,none,none,none,none,none,none,none,none,none,none,none,none,none,none,none])
def ZO : SCode := (.rgd [jL 218 7 1 [],jL 219 6 18 [],jn 220 (.call 51 [.v 218,.v 219]) [],jn 221 (.not (.v 220)) [],jm 222 221 [],jM 223 222 17 [],jh 224 222 (.bin .gtr (.v 223) (ci 0)) [],jM 225 222 224 [],jt 226 225 (.faddr 1 (.v 16)) [],jt 227 225 (.load1 (.v 226)) [],jt 228 225 (.mv (.v 17)) [],jt 229 225 (.binN .sub (.v 228) (ci 1)) [],jt 230 225 (.iaddr 6 (.v 227) (.v 229)) [],jt 231 225 (.loadN 6 (.v 230)) [],jt 232 225 (.loadN 6 (.v 18)) [],jt 233 225 (.call 52 [.v 231,.v 232]) [],jt 234 225 (.not (.v 233)) [],jh 235 222 (.pick (.v 225) (.v 234) (.c (.bool false))) [],jp 236 222 235 []] [1,13,14,16,18,176,177,178,211,212,213,236] [none,none,none,none,none,none,none,none,none,none,none,none,none,none,none,none,none,none,none])
def Wg : SCode := (jq [jb 240 .lss 239 238 []] [1,13,14,16,18,176,177,178,211,212,213,237,238,239,240] (.seq (.cond (.v 240) .skip (.exit 10)) (.seq (.block 11 (jq [ja 241 6 237 239 [],jL 242 6 241 [241],jn 20 (.alloc 120 [.int .i64 0,.int .i64 0,.int .i64 0,.int .i64 0,.int .i64 0,.int .i64 0]) [],⟨none,.store 6 (.v 20) (.v 242),none,[242]⟩] [1,13,14,16,18,20,176,177,178,211,212,213,237,238,239] (jq [jL 243 6 20 [20],jL 244 6 18 [],jn 245 (.call 53 [.v 243,.v 244]) [243,244]] [1,13,14,16,18,176,177,178,211,212,213,237,238,239,245] (.cond (.v 245) (jq [jn 2 (.mv (.c (.bool false))) []] [2] .ret) .skip)))) (.rg [jn 246 (.binN .add (.v 239) (ci 1)) [239],jm 239 246 [246]] [1,13,14,16,18,176,177,178,211,212,213,237,238,239]))))
def Wh : SCode := (jq [jb 214 .lss 213 212 []] [1,13,14,16,176,177,178,211,212,213,214] (.seq (.cond (.v 214) .skip (.exit 8)) (.seq (.block 9 (jq [jm 215 213 [],ja 216 6 211 213 [],jL 217 6 216 [216],jn 18 (.alloc 118 [.int .i64 0,.int .i64 0,.int .i64 0,.int .i64 0,.int .i64 0,.int .i64 0]) [],jm 17 215 [215],⟨none,.store 6 (.v 18) (.v 217),none,[217]⟩] [1,13,14,16,17,18,176,177,178,211,212,213] (.seq (.seq ZO (.cond (.v 236) (jq [jn 2 (.mv (.c (.bool false))) []] [2] .ret) .skip)) (.seq (jq [jm 237 13 [],jn 238 (.lenL (.v 237)) [],jI 239 0 []] [1,13,14,16,18,176,177,178,211,212,213,237,238,239] (.block 10 (.loop Wg))) (jq [jm 247 13 [13],jL 248 6 18 [],jn 249 (.lit 99 6 [.v 248]) [248],jn 250 (.app 113 99 6 (.v 247) (.v 249)) [247,249],jm 13 250 [250]] [1,13,14,16,18,176,177,178,211,212,213] (.rg [jm 251 14 [14],jL 252 6 18 [18],jn 253 (.call 54 [.v 252]) [252],jn 254 (.binN .add (.v 251) (.v 253)) [251,253],jm 14 254 [254]] [1,13,14,16,176,177,178,211,212,213])))))) (.rg [jn 255 (.binN .add (.v 213) (ci 1)) [213],jm 213 255 [255]] [1,13,14,16,176,177,178,211,212,213]))))
def Wi : SCode := (jq [jb 179 .lss 178 177 []] [1,13,14,176,177,178,179] (.seq (.cond (.v 179) .skip (.exit 6)) (.seq (.block 7 (jq [jm 180 178 [],ja 181 2 176 178 [],jL 182 2 181 [181],jn 16 (.alloc 116 [.str ⟨#[]⟩,.sl 0 6 []]) [],jm 15 180 [180],⟨none,.store 2 (.v 16) (.v 182),none,[182]⟩] [1,13,14,15,16,176,177,178] (.seq (.seq ZN (.cond (.v 209) (jq [jn 2 (.mv (.c (.bool false))) []] [2] .ret) .skip)) (jq [jf 210 1 16 [],jl 211 210 [210],jn 212 (.lenL (.v 211)) [],jI 213 0 []] [1,13,14,16,176,177,178,211,212,213] (.block 8 (.loop Wh)))))) (.rg [jn 256 (.binN .add (.v 178) (ci 1)) [178],jm 178 256 [256]] [1,13,14,176,177,178]))))
def ZP : SCode := (.rg [jm 257 14 [14],jf 258 0 1 [],jl 259 258 [258],jf 260 1 1 [],jl 261 260 [260],jn 262 (.binN .mul (.v 259) (.v 261)) [259,261],jf 263 2 1 [],jl 264 263 [263],jn 265 (.binN .mul (.v 262) (.v 264)) [262,264],jb 266 .neq 257 265 [257,265]] [1,266])
def ZQ : SCode := (.rgd [jf 281 0 22 [],jl 282 281 [],jn 283 (.call 49 [.v 282]) [],jn 284 (.not (.v 283)) [],jm 285 284 [],jh 286 285 (.loadN 7 (.v 1)) [],jh 287 285 (.loadN 4 (.v 22)) [],jh 288 285 (.call 55 [.v 286,.v 287]) [],jh 289 285 (.not (.v 288)) [],jp 290 285 289 [],jm 291 290 [],jM 292 291 4 [],jh 293 291 (.loadN 2 (.v 23)) [],jh 294 291 (.look false 2 (.bool false) (.v 292) (.v 293)) [],jp 295 291 294 [],jm 296 295 [],jM 297 296 21 [],jh 298 296 (.bin .gtr (.v 297) (ci 0)) [],jM 299 296 298 [],jt 300 299 (.faddr 0 (.v 22)) [],jt 301 299 (.load1 (.v 300)) [],jt 302 299 (.faddr 6 (.v 1)) [],jt 303 299 (.load1 (.v 302)) [],jt 304 299 (.mv (.v 21)) [],jt 305 299 (.binN .sub (.v 304) (ci 1)) [],jt 306 299 (.iaddr 4 (.v 303) (.v 305)) [],jt 307 299 (.faddr 0 (.v 306)) [],jt 308 299 (.load1 (.v 307)) [],jt 309 299 (.bin .leq (.v 301) (.v 308)) [],jh 310 296 (.pick (.v 299) (.v 309) (.c (.bool false))) [],jp 311 296 310 []] [1,4,23,269,270,271,311] [none,none,none,none,none,none,none,none,none,none,none,none,none,none,none,none,none,none,none,none,none,none,none,none,none,none,none,none,none,none,none])
def Wj : SCode := (jq [jb 272 .lss 271 270 []] [1,4,269,270,271,272] (.seq (.cond (.v 272) .skip (.exit 12)) (.seq (.block 13 (jq [jm 273 271 [],ja 274 4 269 271 [],jL 275 4 274 [274],jn 22 (.alloc 122 [.str ⟨#[]⟩,.int .i64 0,.int .i64 0,.int .i64 0]) [],jm 21 273 [273],⟨none,.store 4 (.v 22) (.v 275),none,[275]⟩] [1,4,21,22,269,270,271] (jq [jf 276 1 22 [],jl 277 276 [276],jf 278 2 22 [],jl 279 278 [278],jn 280 (.build [.int .i64 0,.int .i64 0] [(0,1,.v 277),(1,1,.v 279)]) [277,279],jn 23 (.alloc 123 [.int .i64 0,.int .i64 0]) [],⟨none,.store 2 (.v 23) (.v 280),none,[280]⟩] [1,4,21,22,23,269,270,271] (.seq (.seq ZQ (.cond (.v 311) (jq [jn 2 (.mv (.c (.bool false))) []] [2] .ret) .skip)) (.rg [jm 312 4 [],jL 313 2 23 [23],⟨none,.mset 2 (.v 312) (.v 313) (.c (.bool true)),none,[312,313]⟩] [1,4,269,270,271]))))) (.rg [jn 314 (.binN .add (.v 271) (ci 1)) [271],jm 271 314 [314]] [1,4,269,270,271]))))
/-- impl.SkyValid: function 25 -/
def Qax : SFun := { n := 315,res := [.t 2],body := (jq [jn 1 (.box 101 (.v 0)) [0],jn 2 (.mv (.c (.bool false))) [2]] [1] (.seq (.seq ZK (.cond (.v 63) (jq [jn 2 (.mv (.c (.bool false))) []] [2] .ret) .skip)) (jq [jn 64 (.mkmap 164 0) [],jm 3 64 [64]] [1,3] (jq [jn 65 (.mkmap 165 2) [],jm 4 65 [65]] [1,3,4] (.seq (jq [jf 66 3 1 [],jl 67 66 [66],jn 68 (.lenL (.v 67)) [],jI 69 0 []] [1,3,4,67,68,69] (.block 0 (.loop Wd))) (.seq (jq [jf 119 4 1 [],jl 120 119 [119],jn 121 (.lenL (.v 120)) [],jI 122 0 []] [1,3,120,121,122] (.block 2 (.loop Wf))) (jq [jn 13 (.newnil 113 99 6) []] [1,13] (jq [jI 14 0 []] [1,13,14] (.seq (jq [jf 175 5 1 [],jl 176 175 [175],jn 177 (.lenL (.v 176)) [],jI 178 0 []] [1,13,14,176,177,178] (.block 6 (.loop Wi))) (.seq (.seq ZP (.cond (.v 266) (jq [jn 2 (.mv (.c (.bool false))) []] [2] .ret) .skip)) (jq [jn 267 (.mkmap 367 2) [],jm 4 267 [267]] [1,4] (.seq (jq [jf 268 6 1 [],jl 269 268 [268],jn 270 (.lenL (.v 269)) [],jI 271 0 []] [1,4,269,270,271] (.block 12 (.loop Wj))) (jq [jn 2 (.mv (.c (.bool true))) []] [2] .ret))))))))))))) }
theorem QeS : YM Go.Proofs.Tryd.prog 25 Qax = true := by kernel_rfl
end Go.Ve

namespace Go.Ve
open Go.Proofs
set_option maxRecDepth 100000
/-- impl.Sky).point: function 26 -/
def W2 : SFun := { n := 9,res := [.t 4],body := (jq [jn 2 (.box 102 (.v 0)) [0],jn 3 (.box 103 (.v 1)) [1],jI 4 0 [4]] [2,3] (jq [jf 5 3 2 [2],jl 6 5 [5],jn 7 (.clos 57 [.v 3]) [3],jn 8 (.call 56 [.v 6,.v 7]) [6,7],jm 4 8 [8]] [4] .ret)) }
theorem QdP : YM Go.Proofs.Tryd.prog 26 W2 = true := by kernel_rfl
def Ut : SCode := (.seq (jq [jm 11 5 [],jm 12 0 [],jn 13 (.lenL (.v 12)) [12],jb 14 .lss 11 13 [11,13]] [0,1,5,14] (.cond (.v 14) .skip (.exit 0))) (.seq (.block 1 (.seq (.rgd [jm 17 0 [],jm 18 5 [],ja 19 3 17 18 [],jL 20 3 19 [],jm 21 1 [],jm 22 5 [],ja 23 3 21 22 [],jL 24 3 23 [],jn 25 (.call 61 [.v 20,.v 24]) [],jn 26 (.not (.v 25)) []] [0,1,5,26] [none,none,none,none,none,none,none,none,none,none]) (.cond (.v 26) (jq [jn 4 (.mv (.c (.bool false))) []] [4] .ret) .skip))) (.rg [jm 15 5 [5],jn 16 (.binN .add (.v 15) (ci 1)) [15],jm 5 16 [16]] [0,1,5])))
/-- laws.eqSkyPointS: function 28 -/
def Vv : SFun := { n := 27,res := [.t 4],body := (jq [jn 4 (.mv (.c (.bool false))) [4]] [0,1] (.seq (jq [jm 6 0 [],jn 7 (.lenL (.v 6)) [6],jm 8 1 [],jn 9 (.lenL (.v 8)) [8],jb 10 .neq 7 9 [7,9]] [0,1,10] (.cond (.v 10) (jq [jn 4 (.mv (.c (.bool false))) []] [4] .ret) .skip)) (.seq (jq [jI 5 0 []] [0,1,5] (.block 0 (.loop Ut))) (jq [jn 4 (.mv (.c (.bool true))) []] [4] .ret)))) }
theorem Qct : YM Go.Proofs.Tryd.prog 28 Vv = true := by kernel_rfl
def Z6 : SCode := (.seq (jq [jm 11 5 [],jm 12 0 [],jn 13 (.lenL (.v 12)) [12],jb 14 .lss 11 13 [11,13]] [0,1,5,14] (.cond (.v 14) .skip (.exit 0))) (.seq (.block 1 (.seq (.rgd [jm 17 0 [],jm 18 5 [],ja 19 2 17 18 [],jL 20 2 19 [],jm 21 1 [],jm 22 5 [],ja 23 2 21 22 [],jL 24 2 23 [],jn 25 (.call 62 [.v 20,.v 24]) [],jn 26 (.not (.v 25)) []] [0,1,5,26] [none,none,none,none,none,none,none,none,none,none]) (.cond (.v 26) (jq [jn 4 (.mv (.c (.bool false))) []] [4] .ret) .skip))) (.rg [jm 15 5 [5],jn 16 (.binN .add (.v 15) (ci 1)) [15],jm 5 16 [16]] [0,1,5])))
/-- laws.eqSkyAirwayS: function 29 -/
def U7 : SFun := { n := 27,res := [.t 4],body := (jq [jn 4 (.mv (.c (.bool false))) [4]] [0,1] (.seq (jq [jm 6 0 [],jn 7 (.lenL (.v 6)) [6],jm 8 1 [],jn 9 (.lenL (.v 8)) [8],jb 10 .neq 7 9 [7,9]] [0,1,10] (.cond (.v 10) (jq [jn 4 (.mv (.c (.bool false))) []] [4] .ret) .skip)) (.seq (jq [jI 5 0 []] [0,1,5] (.block 0 (.loop Z6))) (jq [jn 4 (.mv (.c (.bool true))) []] [4] .ret)))) }
theorem QbO : YM Go.Proofs.Tryd.prog 29 U7 = true := by kernel_rfl
def Z7 : SCode := (.seq (jq [jm 11 5 [],jm 12 0 [],jn 13 (.lenL (.v 12)) [12],jb 14 .lss 11 13 [11,13]] [0,1,5,14] (.cond (.v 14) .skip (.exit 0))) (.seq (.block 1 (.seq (.rgd [jm 17 0 [],jm 18 5 [],ja 19 2 17 18 [],jL 20 2 19 [],jm 21 1 [],jm 22 5 [],ja 23 2 21 22 [],jL 24 2 23 [],jn 25 (.call 63 [.v 20,.v 24]) [],jn 26 (.not (.v 25)) []] [0,1,5,26] [none,none,none,none,none,none,none,none,none,none]) (.cond (.v 26) (jq [jn 4 (.mv (.c (.bool false))) []] [4] .ret) .skip))) (.rg [jm 15 5 [5],jn 16 (.binN .add (.v 15) (ci 1)) [15],jm 5 16 [16]] [0,1,5])))
/-- laws.eqSkySectorS: function 30 -/
def U8 : SFun := { n := 27,res := [.t 4],body := (jq [jn 4 (.mv (.c (.bool false))) [4]] [0,1] (.seq (jq [jm 6 0 [],jn 7 (.lenL (.v 6)) [6],jm 8 1 [],jn 9 (.lenL (.v 8)) [8],jb 10 .neq 7 9 [7,9]] [0,1,10] (.cond (.v 10) (jq [jn 4 (.mv (.c (.bool false))) []] [4] .ret) .skip)) (.seq (jq [jI 5 0 []] [0,1,5] (.block 0 (.loop Z7))) (jq [jn 4 (.mv (.c (.bool true))) []] [4] .ret)))) }
theorem QbP : YM Go.Proofs.Tryd.prog 30 U8 = true := by kernel_rfl
def Z8 : SCode := (.seq (jq [jm 11 5 [],jm 12 0 [],jn 13 (.lenL (.v 12)) [12],jb 14 .lss 11 13 [11,13]] [0,1,5,14] (.cond (.v 14) .skip (.exit 0))) (.seq (.block 1 (.seq (.rgd [jm 17 0 [],jm 18 5 [],ja 19 4 17 18 [],jL 20 4 19 [],jm 21 1 [],jm 22 5 [],ja 23 4 21 22 [],jL 24 4 23 [],jn 25 (.call 64 [.v 20,.v 24]) [],jn 26 (.not (.v 25)) []] [0,1,5,26] [none,none,none,none,none,none,none,none,none,none]) (.cond (.v 26) (jq [jn 4 (.mv (.c (.bool false))) []] [4] .ret) .skip))) (.rg [jm 15 5 [5],jn 16 (.binN .add (.v 15) (ci 1)) [15],jm 5 16 [16]] [0,1,5])))
/-- laws.eqSkyRunwayS: function 31 -/
def U9 : SFun := { n := 27,res := [.t 4],body := (jq [jn 4 (.mv (.c (.bool false))) [4]] [0,1] (.seq (jq [jm 6 0 [],jn 7 (.lenL (.v 6)) [6],jm 8 1 [],jn 9 (.lenL (.v 8)) [8],jb 10 .neq 7 9 [7,9]] [0,1,10] (.cond (.v 10) (jq [jn 4 (.mv (.c (.bool false))) []] [4] .ret) .skip)) (.seq (jq [jI 5 0 []] [0,1,5] (.block 0 (.loop Z8))) (jq [jn 4 (.mv (.c (.bool true))) []] [4] .ret)))) }
theorem QbQ : YM Go.Proofs.Tryd.prog 31 U9 = true := by kernel_rfl
/-- spec.SkyValid: function 32 -/
def Qay : SFun := { n := 37,res := [.t 2],body := (jq [jn 1 (.box 101 (.v 0)) [0],jn 2 (.mv (.c (.bool false))) [2]] [1] (.seq (jq [jf 3 0 1 [],jl 4 3 [3],jn 5 (.call 65 [.v 4,.c (.int .i64 1),.c (.int .i64 16)]) [4],jn 6 (.not (.v 5)) [5],jm 7 6 [6],jh 8 7 (.faddr 1 (.v 1)) [],jh 9 7 (.load1 (.v 8)) [8],jh 10 7 (.call 65 [.v 9,.c (.int .i64 1),.c (.int .i64 16)]) [9],jh 11 7 (.not (.v 10)) [10],jp 12 7 11 [7,11],jm 13 12 [12],jh 14 13 (.faddr 2 (.v 1)) [],jh 15 13 (.load1 (.v 14)) [14],jh 16 13 (.call 65 [.v 15,.c (.int .i64 1),.c (.int .i64 6)]) [15],jh 17 13 (.not (.v 16)) [16],jp 18 13 17 [13,17]] [1,18] (.cond (.v 18) (jq [jn 2 (.mv (.c (.bool false))) []] [2] .ret) .skip)) (jq [jL 19 7 1 [],jn 20 (.call 66 [.v 19]) [19],jm 21 20 [20],jt 22 21 (.loadN 7 (.v 1)) [],jt 23 21 (.call 67 [.v 22]) [22],jn 24 (.pick (.v 21) (.v 23) (.c (.bool false))) [21,23],jm 25 24 [24],jt 26 25 (.loadN 7 (.v 1)) [],jt 27 25 (.call 68 [.v 26]) [26],jn 28 (.pick (.v 25) (.v 27) (.c (.bool false))) [25,27],jm 29 28 [28],jt 30 29 (.loadN 7 (.v 1)) [],jt 31 29 (.call 69 [.v 30]) [30],jn 32 (.pick (.v 29) (.v 31) (.c (.bool false))) [29,31],jm 33 32 [32],jt 34 33 (.loadN 7 (.v 1)) [1],jt 35 33 (.call 70 [.v 34]) [34],jn 36 (.pick (.v 33) (.v 35) (.c (.bool false))) [33,35],jm 2 36 [36]] [2] .ret))) }
theorem QeT : YM Go.Proofs.Tryd.prog 32 Qay = true := by kernel_rfl
/-- spec.l7Way: function 33 -/
def Qaz : SFun := { n := 30,res := [.t 6],body := (jq [jn 3 (.box 103 (.v 0)) [0],jn 6 (.mv (.c (.sl 0 1 []))) [6]] [1,2,3] (jq [jf 8 3 3 [],jl 9 8 [8],jm 10 1 [1],jn 11 (.call 71 [.v 9,.v 10]) [9,10],jm 7 11 [11]] [2,3,7] (.seq (jq [jm 12 7 [],jc 13 .lss 12 0 [12],jm 14 13 [13],jh 15 14 (.faddr 3 (.v 3)) [],jh 16 14 (.load1 (.v 15)) [15],jM 17 14 2 [],jh 18 14 (.call 71 [.v 16,.v 17]) [16,17],jh 19 14 (.bin .lss (.v 18) (ci 0)) [18],jp 20 14 19 [14,19]] [2,3,7,20] (.cond (.v 20) (jq [jn 21 (.lit 9 1 []) [],jm 6 21 [21]] [6] (.gh (.frzE 6) .ret)) .skip)) (jq [jn 22 (.litOwn 122 9 1 []) [],jL 23 7 3 [3],jm 24 2 [2],jn 25 (.call 72 [.v 23,.v 24]) [23,24],jm 26 7 [7],ja 27 1 25 26 [25,26],jl 28 27 [27],jn 29 (.app 122 9 1 (.v 22) (.v 28)) [22,28],jm 6 29 [29]] [6] (.gh (.frzE 6) .ret))))) }
theorem QdE : YM Go.Proofs.Tryd.prog 33 Qaz = true := by kernel_rfl
def XC : SCode := (.seq (jq [jm 6 5 [],jm 7 0 [],jn 8 (.lenL (.v 7)) [7],jb 9 .lss 6 8 [6,8]] [0,1,5,9] (.cond (.v 9) .skip (.exit 0))) (.seq (.block 1 (jq [jm 12 0 [],jm 13 5 [],jm 14 1 [],jn 15 (.call 38 [.v 14]) [14],ja 16 3 12 13 [12,13],jf 17 0 16 [16],⟨none,.store 1 (.v 17) (.v 15),none,[15,17]⟩] [0,1,5] (jq [jm 18 1 [1],jn 19 (.binN .add (.v 18) (ci 1)) [18],jm 1 19 [19]] [0,1,5] (jq [jm 20 0 [],jm 21 5 [],jm 22 1 [],ja 23 3 20 21 [20,21],jf 24 1 23 [23],⟨none,.store 1 (.v 24) (.v 22),none,[22,24]⟩] [0,1,5] (jq [jm 25 1 [1],jn 26 (.binN .add (.v 25) (ci 1)) [25],jm 1 26 [26]] [0,1,5] (jq [jm 27 0 [],jm 28 5 [],jm 29 1 [],ja 30 3 27 28 [27,28],jf 31 2 30 [30],⟨none,.store 1 (.v 31) (.v 29),none,[29,31]⟩] [0,1,5] (.rg [jm 32 1 [1],jn 33 (.binN .add (.v 32) (ci 1)) [32],jm 1 33 [33]] [0,1,5]))))))) (.rg [jm 10 5 [5],jn 11 (.binN .add (.v 10) (ci 1)) [10],jm 5 11 [11]] [0,1,5])))
/-- laws.markSkyPointS: function 34 -/
def Uu : SFun := { n := 35,res := [.t 4],body := (jq [jI 4 0 [4]] [0,1] (.seq (jq [jI 5 0 []] [0,1,5] (.block 0 (.loop XC))) (jq [jm 34 1 [1],jm 4 34 [34]] [4] .ret))) }
theorem Qbc : YM Go.Proofs.Tryd.prog 34 Uu = true := by kernel_rfl
def Xt : SCode := (.seq (jq [jm 6 5 [],jm 7 0 [],jn 8 (.lenL (.v 7)) [7],jb 9 .lss 6 8 [6,8]] [0,1,5,9] (.cond (.v 9) .skip (.exit 0))) (.seq (.block 1 (jq [jm 12 0 [],jm 13 5 [],jm 14 1 [],jn 15 (.call 38 [.v 14]) [14],ja 16 2 12 13 [12,13],jf 17 0 16 [16],⟨none,.store 1 (.v 17) (.v 15),none,[15,17]⟩] [0,1,5] (jq [jm 18 1 [1],jn 19 (.binN .add (.v 18) (ci 1)) [18],jm 1 19 [19]] [0,1,5] (.rg [jm 20 0 [],jm 21 5 [],ja 22 2 20 21 [20,21],jf 23 1 22 [22],jl 24 23 [23],jm 25 1 [1],jn 26 (.call 14 [.v 24,.v 25]) [24,25],jm 1 26 [26]] [0,1,5])))) (.rg [jm 10 5 [5],jn 11 (.binN .add (.v 10) (ci 1)) [10],jm 5 11 [11]] [0,1,5])))
/-- laws.markSkyAirwayS: function 35 -/
def Z9 : SFun := { n := 28,res := [.t 4],body := (jq [jI 4 0 [4]] [0,1] (.seq (jq [jI 5 0 []] [0,1,5] (.block 0 (.loop Xt))) (jq [jm 27 1 [1],jm 4 27 [27]] [4] .ret))) }
theorem QaA : YM Go.Proofs.Tryd.prog 35 Z9 = true := by kernel_rfl
def Xu : SCode := (.seq (jq [jm 6 5 [],jm 7 0 [],jn 8 (.lenL (.v 7)) [7],jb 9 .lss 6 8 [6,8]] [0,1,5,9] (.cond (.v 9) .skip (.exit 0))) (.seq (.block 1 (jq [jm 12 0 [],jm 13 5 [],jm 14 1 [],jn 15 (.call 38 [.v 14]) [14],ja 16 2 12 13 [12,13],jf 17 0 16 [16],⟨none,.store 1 (.v 17) (.v 15),none,[15,17]⟩] [0,1,5] (jq [jm 18 1 [1],jn 19 (.binN .add (.v 18) (ci 1)) [18],jm 1 19 [19]] [0,1,5] (.rg [jm 20 0 [],jm 21 5 [],ja 22 2 20 21 [20,21],jf 23 1 22 [22],jl 24 23 [23],jm 25 1 [1],jn 26 (.call 73 [.v 24,.v 25]) [24,25],jm 1 26 [26]] [0,1,5])))) (.rg [jm 10 5 [5],jn 11 (.binN .add (.v 10) (ci 1)) [10],jm 5 11 [11]] [0,1,5])))
/-- laws.markSkySectorS: function 36 -/
def Ua : SFun := { n := 28,res := [.t 4],body := (jq [jI 4 0 [4]] [0,1] (.seq (jq [jI 5 0 []] [0,1,5] (.block 0 (.loop Xu))) (jq [jm 27 1 [1],jm 4 27 [27]] [4] .ret))) }
theorem QaB : YM Go.Proofs.Tryd.prog 36 Ua = true := by kernel_rfl
def Xv : SCode := (.seq (jq [jm 6 5 [],jm 7 0 [],jn 8 (.lenL (.v 7)) [7],jb 9 .lss 6 8 [6,8]] [0,1,5,9] (.cond (.v 9) .skip (.exit 0))) (.seq (.block 1 (jq [jm 12 0 [],jm 13 5 [],jm 14 1 [],jn 15 (.call 38 [.v 14]) [14],ja 16 4 12 13 [12,13],jf 17 0 16 [16],⟨none,.store 1 (.v 17) (.v 15),none,[15,17]⟩] [0,1,5] (jq [jm 18 1 [1],jn 19 (.binN .add (.v 18) (ci 1)) [18],jm 1 19 [19]] [0,1,5] (jq [jm 20 0 [],jm 21 5 [],jm 22 1 [],ja 23 4 20 21 [20,21],jf 24 1 23 [23],⟨none,.store 1 (.v 24) (.v 22),none,[22,24]⟩] [0,1,5] (jq [jm 25 1 [1],jn 26 (.binN .add (.v 25) (ci 1)) [25],jm 1 26 [26]] [0,1,5] (jq [jm 27 0 [],jm 28 5 [],jm 29 1 [],ja 30 4 27 28 [27,28],jf 31 2 30 [30],⟨none,.store 1 (.v 31) (.v 29),none,[29,31]⟩] [0,1,5] (jq [jm 32 1 [1],jn 33 (.binN .add (.v 32) (ci 1)) [32],jm 1 33 [33]] [0,1,5] (jq [jm 34 0 [],jm 35 5 [],jm 36 1 [],ja 37 4 34 35 [34,35],jf 38 3 37 [37],⟨none,.store 1 (.v 38) (.v 36),none,[36,38]⟩] [0,1,5] (.rg [jm 39 1 [1],jn 40 (.binN .add (.v 39) (ci 1)) [39],jm 1 40 [40]] [0,1,5]))))))))) (.rg [jm 10 5 [5],jn 11 (.binN .add (.v 10) (ci 1)) [10],jm 5 11 [11]] [0,1,5])))
/-- laws.markSkyRunwayS: function 37 -/
def Ub : SFun := { n := 42,res := [.t 4],body := (jq [jI 4 0 [4]] [0,1] (.seq (jq [jI 5 0 []] [0,1,5] (.block 0 (.loop Xv))) (jq [jm 41 1 [1],jm 4 41 [41]] [4] .ret))) }
theorem QaC : YM Go.Proofs.Tryd.prog 37 Ub = true := by kernel_rfl
def Wl : SCode := (.seq (jq [jm 6 0 [],jc 7 .gtr 6 0 [6]] [0,3,7] (.cond (.v 7) .skip (.exit 0))) (.block 1 (jq [jm 8 0 [],jn 9 (.binN .rem (.v 8) (ci 10)) [8],jn 10 (.binN .add (ci 48) (.v 9)) [9],jn 11 (.conv .u8 (.v 10)) [10],jn 12 (.lit 5 1 [.v 11]) [11],jn 13 (.b2s (.v 12)) [12],jm 14 3 [3],jb 15 .add 13 14 [13,14],jm 3 15 [15]] [0,3] (.rg [jm 16 0 [0],jn 17 (.binN .quo (.v 16) (ci 10)) [16],jm 0 17 [17]] [0,3]))))
/-- laws.markText: function 38 -/
def QaD : SFun := { n := 20,res := [.t 2],body := (jq [⟨some 2,.mv (.c (.str ⟨#[]⟩)),none,[2]⟩] [0] (.seq (jq [jm 4 0 [],jc 5 .leq 4 0 [4]] [0,5] (.cond (.v 5) (jq [⟨some 2,.mv (.c (.str ⟨#[109,48]⟩)),none,[]⟩] [2] .ret) .skip)) (jq [⟨some 3,.mv (.c (.str ⟨#[]⟩)),none,[]⟩] [0,3] (.seq (.block 0 (.loop Wl)) (jq [jm 18 3 [3],⟨some 19,.bin .add (.c (.str ⟨#[109]⟩)) (.v 18),none,[18]⟩,jm 2 19 [19]] [2] .ret))))) }
theorem QeU : YM Go.Proofs.Tryd.prog 38 QaD = true := by kernel_rfl
/-- laws.szSkyPoint: function 39 -/
def Wm : SFun := { n := 13,res := [.t 4],body := (jq [jn 2 (.box 102 (.v 0)) [0],jI 4 0 [4]] [1,2] (jq [jm 5 1 [1],jf 6 0 2 [2],jl 7 6 [6],jn 8 (.lenS (.v 7)) [7],jn 9 (.binN .sub (.v 5) (.v 8)) [5,8],jm 1 9 [9]] [1] (.seq (jq [jm 10 1 [],jc 11 .lss 10 0 [10]] [1,11] (.cond (.v 11) (jq [jn 4 (.mv (.c (.int .i64 (-1)))) []] [4] .ret) .skip)) (jq [jm 12 1 [1],jm 4 12 [12]] [4] .ret)))) }
theorem Qdg : YM Go.Proofs.Tryd.prog 39 Wm = true := by kernel_rfl
/-- laws.szSkyAirway: function 40 -/
def Vw : SFun := { n := 19,res := [.t 4],body := (jq [jn 2 (.box 102 (.v 0)) [0],jI 4 0 [4]] [1,2] (jq [jm 5 1 [1],jf 6 0 2 [],jl 7 6 [6],jn 8 (.lenS (.v 7)) [7],jn 9 (.binN .sub (.v 5) (.v 8)) [5,8],jm 1 9 [9]] [1,2] (.seq (jq [jm 10 1 [],jc 11 .lss 10 0 [10]] [1,2,11] (.cond (.v 11) (jq [jn 4 (.mv (.c (.int .i64 (-1)))) []] [4] .ret) .skip)) (jq [jf 12 1 2 [2],jl 13 12 [12],jm 14 1 [1],jn 15 (.call 74 [.v 13,.v 14]) [13,14],jm 1 15 [15]] [1] (.seq (jq [jm 16 1 [],jc 17 .lss 16 0 [16]] [1,17] (.cond (.v 17) (jq [jn 4 (.mv (.c (.int .i64 (-1)))) []] [4] .ret) .skip)) (jq [jm 18 1 [1],jm 4 18 [18]] [4] .ret)))))) }
theorem Qcu : YM Go.Proofs.Tryd.prog 40 Vw = true := by kernel_rfl
/-- laws.szSkySector: function 41 -/
def Vx : SFun := { n := 19,res := [.t 4],body := (jq [jn 2 (.box 102 (.v 0)) [0],jI 4 0 [4]] [1,2] (jq [jm 5 1 [1],jf 6 0 2 [],jl 7 6 [6],jn 8 (.lenS (.v 7)) [7],jn 9 (.binN .sub (.v 5) (.v 8)) [5,8],jm 1 9 [9]] [1,2] (.seq (jq [jm 10 1 [],jc 11 .lss 10 0 [10]] [1,2,11] (.cond (.v 11) (jq [jn 4 (.mv (.c (.int .i64 (-1)))) []] [4] .ret) .skip)) (jq [jf 12 1 2 [2],jl 13 12 [12],jm 14 1 [1],jn 15 (.call 75 [.v 13,.v 14]) [13,14],jm 1 15 [15]] [1] (.seq (jq [jm 16 1 [],jc 17 .lss 16 0 [16]] [1,17] (.cond (.v 17) (jq [jn 4 (.mv (.c (.int .i64 (-1)))) []] [4] .ret) .skip)) (jq [jm 18 1 [1],jm 4 18 [18]] [4] .ret)))))) }
theorem Qcv : YM Go.Proofs.Tryd.prog 41 Vx = true := by kernel_rfl
/-- laws.szSkyRunway: function 42 -/
def Vy : SFun := { n := 13,res := [.t 4],body := (jq [jn 2 (.box 102 (.v 0)) [0],jI 4 0 [4]] [1,2] (jq [jm 5 1 [1],jf 6 0 2 [2],jl 7 6 [6],jn 8 (.lenS (.v 7)) [7],jn 9 (.binN .sub (.v 5) (.v 8)) [5,8],jm 1 9 [9]] [1] (.seq (jq [jm 10 1 [],jc 11 .lss 10 0 [10]] [1,11] (.cond (.v 11) (jq [jn 4 (.mv (.c (.int .i64 (-1)))) []] [4] .ret) .skip)) (jq [jm 12 1 [1],jm 4 12 [12]] [4] .ret)))) }
theorem Qcw : YM Go.Proofs.Tryd.prog 42 Vy = true := by kernel_rfl
/-- spec.l7Edge: function 43 -/
def Qcx : SFun := { n := 14,res := [.t 6],body := (jq [jn 3 (.box 103 (.v 0)) [0],jI 6 0 [6]] [1,2,3] (.seq (.rgd [jL 7 7 3 [],jm 8 1 [],jn 9 (.call 77 [.v 7,.v 8]) [],jL 10 7 3 [],jm 11 2 [],jn 12 (.call 77 [.v 10,.v 11]) [],jn 13 (.call 76 [.v 9,.v 12]) [],jm 6 13 []] [6] [none,none,some [],some [0],none,none,none,none]) .ret)) }
theorem Qgp : YM Go.Proofs.Tryd.prog 43 Qcx = true := by kernel_rfl
/-- laws.toSkyPoint: function 44 -/
def Wn : SFun := { n := 14,res := [.cN 2 3],body := (jq [jn 1 (.box 101 (.v 0)) [0],jn 2 (.alloc 102 [.str ⟨#[]⟩,.int .i64 0,.int .i64 0]) []] [1,2] (jq [jn 3 (.alloc 103 [.str ⟨#[]⟩,.int .i64 0,.int .i64 0]) []] [1,2,3] (jq [jf 4 0 1 [],jl 5 4 [4],jf 6 0 3 [],⟨none,.store 1 (.v 6) (.v 5),none,[5,6]⟩] [1,2,3] (jq [jf 7 1 1 [],jl 8 7 [7],jf 9 1 3 [],⟨none,.store 1 (.v 9) (.v 8),none,[8,9]⟩] [1,2,3] (jq [jf 10 2 1 [1],jl 11 10 [10],jf 12 2 3 [],⟨none,.store 1 (.v 12) (.v 11),none,[11,12]⟩] [2,3] (jq [jL 13 3 3 [3],⟨none,.store 3 (.v 2) (.v 13),none,[13]⟩] [2] .ret)))))) }
theorem Qdh : YM Go.Proofs.Tryd.prog 44 Wn = true := by kernel_rfl
/-- laws.toSkyAirway: function 45 -/
def Zo : SFun := { n := 12,res := [.cN 2 2],body := (jq [jn 1 (.box 101 (.v 0)) [0],jn 2 (.alloc 102 [.str ⟨#[]⟩,.sl 0 1 []]) []] [1,2] (jq [jn 3 (.alloc 103 [.str ⟨#[]⟩,.sl 0 1 []]) []] [1,2,3] (jq [jf 4 0 1 [],jl 5 4 [4],jf 6 0 3 [],⟨none,.store 1 (.v 6) (.v 5),none,[5,6]⟩] [1,2,3] (jq [jf 7 1 1 [1],jl 8 7 [7],jn 9 (.call 78 [.v 8]) [8],jf 10 1 3 [],⟨none,.store 1 (.v 10) (.v 9),none,[9,10]⟩] [2,3] (jq [jL 11 2 3 [3],⟨none,.store 2 (.v 2) (.v 11),none,[11]⟩] [2] .ret))))) }
theorem Vz : YM Go.Proofs.Tryd.prog 45 Zo = true := by kernel_rfl
/-- laws.toSkySector: function 46 -/
def Zp : SFun := { n := 12,res := [.cN 2 2],body := (jq [jn 1 (.box 101 (.v 0)) [0],jn 2 (.alloc 102 [.str ⟨#[]⟩,.sl 0 6 []]) []] [1,2] (jq [jn 3 (.alloc 103 [.str ⟨#[]⟩,.sl 0 6 []]) []] [1,2,3] (jq [jf 4 0 1 [],jl 5 4 [4],jf 6 0 3 [],⟨none,.store 1 (.v 6) (.v 5),none,[5,6]⟩] [1,2,3] (jq [jf 7 1 1 [1],jl 8 7 [7],jn 9 (.call 79 [.v 8]) [8],jf 10 1 3 [],⟨none,.store 1 (.v 10) (.v 9),none,[9,10]⟩] [2,3] (jq [jL 11 2 3 [3],⟨none,.store 2 (.v 2) (.v 11),none,[11]⟩] [2] .ret))))) }
theorem VA : YM Go.Proofs.Tryd.prog 46 Zp = true := by kernel_rfl
/-- laws.toSkyRunway: function 47 -/
def VB : SFun := { n := 17,res := [.cN 2 4],body := (jq [jn 1 (.box 101 (.v 0)) [0],jn 2 (.alloc 102 [.str ⟨#[]⟩,.int .i64 0,.int .i64 0,.int .i64 0]) []] [1,2] (jq [jn 3 (.alloc 103 [.str ⟨#[]⟩,.int .i64 0,.int .i64 0,.int .i64 0]) []] [1,2,3] (jq [jf 4 0 1 [],jl 5 4 [4],jf 6 0 3 [],⟨none,.store 1 (.v 6) (.v 5),none,[5,6]⟩] [1,2,3] (jq [jf 7 1 1 [],jl 8 7 [7],jf 9 1 3 [],⟨none,.store 1 (.v 9) (.v 8),none,[8,9]⟩] [1,2,3] (jq [jf 10 2 1 [],jl 11 10 [10],jf 12 2 3 [],⟨none,.store 1 (.v 12) (.v 11),none,[11,12]⟩] [1,2,3] (jq [jf 13 3 1 [1],jl 14 13 [13],jf 15 3 3 [],⟨none,.store 1 (.v 15) (.v 14),none,[14,15]⟩] [2,3] (jq [jL 16 4 3 [3],⟨none,.store 4 (.v 2) (.v 16),none,[16]⟩] [2] .ret))))))) }
theorem Qcy : YM Go.Proofs.Tryd.prog 47 VB = true := by kernel_rfl
/-- impl.within: function 48 -/
def Qcz : SFun := { n := 15,res := [.t 6],body := (jq [jn 6 (.mv (.c (.bool false))) [6]] [0,1,2] (jq [jm 7 0 [],jm 8 1 [1],jb 9 .geq 7 8 [7,8],jm 10 9 [9],jt 11 10 (.mv (.v 0)) [0],jt 12 10 (.mv (.v 2)) [2],jt 13 10 (.bin .leq (.v 11) (.v 12)) [11,12],jn 14 (.pick (.v 10) (.v 13) (.c (.bool false))) [10,13],jm 6 14 [14]] [6] .ret)) }
theorem Qgq : YM Go.Proofs.Tryd.prog 48 Qcz = true := by kernel_rfl
def QaE : SCode := (.seq (jq [jm 13 3 [],jm 14 0 [],jn 15 (.lenS (.v 14)) [14],jb 16 .lss 13 15 [13,15]] [0,3,16] (.cond (.v 16) .skip (.exit 0))) (.seq (.block 1 (jq [jm 19 0 [],jm 20 3 [],jn 21 (.istr (.v 19) (.v 20)) [19,20],jm 4 21 [21]] [0,3,4] (jq [jm 22 4 [],jn 23 (.bin .geq (.v 22) (.c (.int .u8 97))) [22],jm 24 23 [23],jt 25 24 (.mv (.v 4)) [],jt 26 24 (.bin .leq (.v 25) (.c (.int .u8 122))) [25],jn 27 (.pick (.v 24) (.v 26) (.c (.bool false))) [24,26],jm 28 27 [27],jM 29 28 4 [],jh 30 28 (.bin .geq (.v 29) (.c (.int .u8 48))) [29],jM 31 28 30 [30],jt 32 31 (.mv (.v 4)) [],jt 33 31 (.bin .leq (.v 32) (.c (.int .u8 57))) [32],jh 34 28 (.pick (.v 31) (.v 33) (.c (.bool false))) [31,33],jp 35 28 34 [28,34],jm 36 35 [35],jM 37 36 4 [4],jh 38 36 (.bin .eql (.v 37) (.c (.int .u8 45))) [37],jp 39 36 38 [36,38],jn 40 (.not (.v 39)) [39]] [0,3,40] (.cond (.v 40) (jq [jn 2 (.mv (.c (.bool false))) []] [2] .ret) .skip)))) (.rg [jm 17 3 [3],jn 18 (.binN .add (.v 17) (ci 1)) [17],jm 3 18 [18]] [0,3])))
/-- impl.isName: function 49 -/
def QcA : SFun := { n := 41,res := [.t 2],body := (jq [jn 2 (.mv (.c (.bool false))) [2]] [0] (.seq (jq [jm 5 0 [],jn 6 (.lenS (.v 5)) [5],jc 7 .lss 6 1 [6],jm 8 7 [7],jM 9 8 0 [],jh 10 8 (.lenS (.v 9)) [9],jh 11 8 (.bin .gtr (.v 10) (ci 8)) [10],jp 12 8 11 [8,11]] [0,12] (.cond (.v 12) (jq [jn 2 (.mv (.c (.bool false))) []] [2] .ret) .skip)) (.seq (jq [jI 3 0 []] [0,3] (.block 0 (.loop QaE))) (jq [jn 2 (.mv (.c (.bool true))) []] [2] .ret)))) }
theorem Qgr : YM Go.Proofs.Tryd.prog 49 QcA = true := by kernel_rfl
end Go.Ve

namespace Go.Ve
open Go.Proofs
set_option maxRecDepth 100000
/-- impl.Sky).cell: function 50 -/
def QaF : SFun := { n := 19,res := [.t 6],body := (jq [jn 3 (.box 103 (.v 0)) [0],jn 6 (.mv (.c (.bool false))) [6]] [1,2,3] (jq [jm 7 1 [1],jf 8 0 3 [],jl 9 8 [8],jn 10 (.binN .sub (.v 9) (ci 1)) [9],jn 11 (.call 48 [.v 7,.c (.int .i64 0),.v 10]) [7,10],jm 12 11 [11],jt 13 12 (.mv (.v 2)) [2],jt 14 12 (.faddr 1 (.v 3)) [3],jt 15 12 (.load1 (.v 14)) [14],jt 16 12 (.binN .sub (.v 15) (ci 1)) [15],jt 17 12 (.call 48 [.v 13,.c (.int .i64 0),.v 16]) [13,16],jn 18 (.pick (.v 12) (.v 17) (.c (.bool false))) [12,17],jm 6 18 [18]] [6] .ret)) }
theorem QeV : YM Go.Proofs.Tryd.prog 50 QaF = true := by kernel_rfl
/-- impl.Sky).block: function 51 -/
def W3 : SFun := { n := 60,res := [.t 4],body := (jq [jn 2 (.box 102 (.v 0)) [0],jn 3 (.box 103 (.v 1)) [1],jn 4 (.mv (.c (.bool false))) [4]] [2,3] (jq [jf 5 0 3 [],jl 6 5 [5],jn 7 (.bin .leq (ci 0) (.v 6)) [6],jm 8 7 [7],jt 9 8 (.faddr 0 (.v 3)) [],jt 10 8 (.load1 (.v 9)) [9],jt 11 8 (.faddr 2 (.v 3)) [],jt 12 8 (.load1 (.v 11)) [11],jt 13 8 (.bin .leq (.v 10) (.v 12)) [10,12],jn 14 (.pick (.v 8) (.v 13) (.c (.bool false))) [8,13],jm 15 14 [14],jt 16 15 (.faddr 2 (.v 3)) [],jt 17 15 (.load1 (.v 16)) [16],jt 18 15 (.faddr 0 (.v 2)) [],jt 19 15 (.load1 (.v 18)) [18],jt 20 15 (.bin .lss (.v 17) (.v 19)) [17,19],jn 21 (.pick (.v 15) (.v 20) (.c (.bool false))) [15,20],jm 22 21 [21],jt 23 22 (.faddr 1 (.v 3)) [],jt 24 22 (.load1 (.v 23)) [23],jt 25 22 (.bin .leq (ci 0) (.v 24)) [24],jn 26 (.pick (.v 22) (.v 25) (.c (.bool false))) [22,25],jm 27 26 [26],jt 28 27 (.faddr 1 (.v 3)) [],jt 29 27 (.load1 (.v 28)) [28],jt 30 27 (.faddr 3 (.v 3)) [],jt 31 27 (.load1 (.v 30)) [30],jt 32 27 (.bin .leq (.v 29) (.v 31)) [29,31],jn 33 (.pick (.v 27) (.v 32) (.c (.bool false))) [27,32],jm 34 33 [33],jt 35 34 (.faddr 3 (.v 3)) [],jt 36 34 (.load1 (.v 35)) [35],jt 37 34 (.faddr 1 (.v 2)) [],jt 38 34 (.load1 (.v 37)) [37],jt 39 34 (.bin .lss (.v 36) (.v 38)) [36,38],jn 40 (.pick (.v 34) (.v 39) (.c (.bool false))) [34,39],jm 41 40 [40],jt 42 41 (.faddr 4 (.v 3)) [],jt 43 41 (.load1 (.v 42)) [42],jt 44 41 (.bin .leq (ci 1) (.v 43)) [43],jn 45 (.pick (.v 41) (.v 44) (.c (.bool false))) [41,44],jm 46 45 [45],jt 47 46 (.faddr 4 (.v 3)) [],jt 48 46 (.load1 (.v 47)) [47],jt 49 46 (.faddr 5 (.v 3)) [],jt 50 46 (.load1 (.v 49)) [49],jt 51 46 (.bin .leq (.v 48) (.v 50)) [48,50],jn 52 (.pick (.v 46) (.v 51) (.c (.bool false))) [46,51],jm 53 52 [52],jt 54 53 (.faddr 5 (.v 3)) [3],jt 55 53 (.load1 (.v 54)) [54],jt 56 53 (.faddr 2 (.v 2)) [2],jt 57 53 (.load1 (.v 56)) [56],jt 58 53 (.bin .leq (.v 55) (.v 57)) [55,57],jn 59 (.pick (.v 53) (.v 58) (.c (.bool false))) [53,58],jm 4 59 [59]] [4] .ret)) }
theorem QdQ : YM Go.Proofs.Tryd.prog 51 W3 = true := by kernel_rfl
/-- impl.blockLess: function 52 -/
def W4 : SFun := { n := 32,res := [.t 4],body := (jq [jn 2 (.box 102 (.v 0)) [0],jn 3 (.box 103 (.v 1)) [1],jn 4 (.mv (.c (.bool false))) [4]] [2,3] (.seq (.block 0 (jq [jf 6 0 2 [],jl 7 6 [6],jf 8 0 3 [],jl 9 8 [8],jb 10 .neq 7 9 [7,9],jm 5 10 [10]] [2,3,5] (.cond (.v 5) (jq [jf 11 0 2 [2],jl 12 11 [11],jf 13 0 3 [3],jl 14 13 [13],jb 15 .lss 12 14 [12,14],jm 4 15 [15]] [4] .ret) (jq [jf 17 1 2 [],jl 18 17 [17],jf 19 1 3 [],jl 20 19 [19],jb 21 .neq 18 20 [18,20],jm 16 21 [21]] [2,3,16] (.cond (.v 16) (jq [jf 22 1 2 [2],jl 23 22 [22],jf 24 1 3 [3],jl 25 24 [24],jb 26 .lss 23 25 [23,25],jm 4 26 [26]] [4] .ret) .skip))))) (jq [jf 27 4 2 [2],jl 28 27 [27],jf 29 4 3 [3],jl 30 29 [29],jb 31 .lss 28 30 [28,30],jm 4 31 [31]] [4] .ret))) }
theorem QdR : YM Go.Proofs.Tryd.prog 52 W4 = true := by kernel_rfl
/-- impl.meets: function 53 -/
def QdF : SFun := { n := 45,res := [.t 4],body := (jq [jn 2 (.box 102 (.v 0)) [0],jn 3 (.box 103 (.v 1)) [1],jn 4 (.mv (.c (.bool false))) [4]] [2,3] (jq [jf 5 0 2 [],jl 6 5 [5],jf 7 2 3 [],jl 8 7 [7],jb 9 .leq 6 8 [6,8],jm 10 9 [9],jt 11 10 (.faddr 0 (.v 3)) [],jt 12 10 (.load1 (.v 11)) [11],jt 13 10 (.faddr 2 (.v 2)) [],jt 14 10 (.load1 (.v 13)) [13],jt 15 10 (.bin .leq (.v 12) (.v 14)) [12,14],jn 16 (.pick (.v 10) (.v 15) (.c (.bool false))) [10,15],jm 17 16 [16],jt 18 17 (.faddr 1 (.v 2)) [],jt 19 17 (.load1 (.v 18)) [18],jt 20 17 (.faddr 3 (.v 3)) [],jt 21 17 (.load1 (.v 20)) [20],jt 22 17 (.bin .leq (.v 19) (.v 21)) [19,21],jn 23 (.pick (.v 17) (.v 22) (.c (.bool false))) [17,22],jm 24 23 [23],jt 25 24 (.faddr 1 (.v 3)) [],jt 26 24 (.load1 (.v 25)) [25],jt 27 24 (.faddr 3 (.v 2)) [],jt 28 24 (.load1 (.v 27)) [27],jt 29 24 (.bin .leq (.v 26) (.v 28)) [26,28],jn 30 (.pick (.v 24) (.v 29) (.c (.bool false))) [24,29],jm 31 30 [30],jt 32 31 (.faddr 4 (.v 2)) [],jt 33 31 (.load1 (.v 32)) [32],jt 34 31 (.faddr 5 (.v 3)) [],jt 35 31 (.load1 (.v 34)) [34],jt 36 31 (.bin .leq (.v 33) (.v 35)) [33,35],jn 37 (.pick (.v 31) (.v 36) (.c (.bool false))) [31,36],jm 38 37 [37],jt 39 38 (.faddr 4 (.v 3)) [3],jt 40 38 (.load1 (.v 39)) [39],jt 41 38 (.faddr 5 (.v 2)) [2],jt 42 38 (.load1 (.v 41)) [41],jt 43 38 (.bin .leq (.v 40) (.v 42)) [40,42],jn 44 (.pick (.v 38) (.v 43) (.c (.bool false))) [38,43],jm 4 44 [44]] [4] .ret)) }
theorem Qh1 : YM Go.Proofs.Tryd.prog 53 QdF = true := by kernel_rfl
/-- impl.SkyBlock).places: function 54 -/
def ZC : SFun := { n := 23,res := [.t 2],body := (jq [jn 1 (.box 101 (.v 0)) [0],jI 2 0 [2]] [1] (jq [jf 3 2 1 [],jl 4 3 [3],jf 5 0 1 [],jl 6 5 [5],jn 7 (.binN .sub (.v 4) (.v 6)) [4,6],jn 8 (.binN .add (.v 7) (ci 1)) [7],jf 9 3 1 [],jl 10 9 [9],jf 11 1 1 [],jl 12 11 [11],jn 13 (.binN .sub (.v 10) (.v 12)) [10,12],jn 14 (.binN .add (.v 13) (ci 1)) [13],jn 15 (.binN .mul (.v 8) (.v 14)) [8,14],jf 16 5 1 [],jl 17 16 [16],jf 18 4 1 [1],jl 19 18 [18],jn 20 (.binN .sub (.v 17) (.v 19)) [17,19],jn 21 (.binN .add (.v 20) (ci 1)) [20],jn 22 (.binN .mul (.v 15) (.v 21)) [15,21],jm 2 22 [22]] [2] .ret)) }
theorem Qag : YM Go.Proofs.Tryd.prog 54 ZC = true := by kernel_rfl
/-- impl.Sky).runway: function 55 -/
def ZR : SFun := { n := 34,res := [.t 4],body := (jq [jn 2 (.box 102 (.v 0)) [0],jn 3 (.box 103 (.v 1)) [1],jn 4 (.mv (.c (.bool false))) [4]] [2,3] (.seq (jq [jf 6 3 3 [],jl 7 6 [6],jn 8 (.call 48 [.v 7,.c (.int .i64 1),.c (.int .i64 8)]) [7],jn 9 (.not (.v 8)) [8]] [2,3,9] (.cond (.v 9) (jq [jn 4 (.mv (.c (.bool false))) []] [4] .ret) .skip)) (jq [jf 10 3 3 [],jl 11 10 [10],jn 12 (.iaddrA 9 2 (.g 0) (.v 11)) [11],jL 13 2 12 [12],jn 5 (.alloc 105 [.int .i64 0,.int .i64 0]) [],⟨none,.store 2 (.v 5) (.v 13),none,[13]⟩] [2,3,5] (jq [jL 14 7 2 [],jf 15 1 3 [],jl 16 15 [15],jf 17 2 3 [],jl 18 17 [17],jn 19 (.call 50 [.v 14,.v 16,.v 18]) [14,16,18],jm 20 19 [19],jt 21 20 (.loadN 7 (.v 2)) [2],jt 22 20 (.faddr 1 (.v 3)) [],jt 23 20 (.load1 (.v 22)) [22],jt 24 20 (.iaddrA 2 1 (.v 5) (ci 0)) [],jt 25 20 (.load1 (.v 24)) [24],jt 26 20 (.binN .sub (.v 23) (.v 25)) [23,25],jt 27 20 (.faddr 2 (.v 3)) [3],jt 28 20 (.load1 (.v 27)) [27],jt 29 20 (.iaddrA 2 1 (.v 5) (ci 1)) [5],jt 30 20 (.load1 (.v 29)) [29],jt 31 20 (.binN .sub (.v 28) (.v 30)) [28,30],jt 32 20 (.call 50 [.v 21,.v 26,.v 31]) [21,26,31],jn 33 (.pick (.v 20) (.v 32) (.c (.bool false))) [20,32],jm 4 33 [33]] [4] .ret)))) }
theorem Wo : YM Go.Proofs.Tryd.prog 55 ZR = true := by kernel_rfl
def Xy : SCode := (jq [jb 9 .lss 8 7 []] [0,1,7,8,9] (.seq (.cond (.v 9) .skip (.exit 0)) (.seq (.block 1 (jq [jm 10 8 [],jm 5 10 [10]] [0,1,5,7,8] (jq [jm 11 1 [],jm 12 0 [],jm 13 5 [],ja 14 3 12 13 [12,13],jL 15 3 14 [14],jn 16 (.callV (.v 11) [.v 15]) [11,15]] [0,1,5,7,8,16] (.cond (.v 16) (jq [jm 17 5 [5],jm 4 17 [17]] [4] .ret) .skip)))) (.rg [jn 18 (.binN .add (.v 8) (ci 1)) [8],jm 8 18 [18]] [0,1,7,8]))))
/-- impl.SkyPoint]: function 56 -/
def XP : SFun := { n := 19,res := [.t 4],body := (jq [jI 4 0 [4]] [0,1] (.seq (jq [jm 6 0 [],jn 7 (.lenL (.v 6)) [6],jI 8 0 []] [0,1,7,8] (.block 0 (.loop Xy))) (jq [jn 4 (.mv (.c (.int .i64 (-1)))) []] [4] .ret))) }
theorem Va : YM Go.Proofs.Tryd.prog 56 XP = true := by kernel_rfl
/-- impl.Sky).point$1: function 57 -/
def VC : SFun := { n := 8,res := [.t 3],body := (jq [jn 2 (.box 102 (.v 0)) [0],jn 3 (.mv (.c (.bool false))) [3]] [1,2] (jq [jf 4 0 2 [2],jl 5 4 [4],jl 6 1 [1],jb 7 .eql 5 6 [5,6],jm 3 7 [7]] [3] .ret)) }
theorem QcB : YM Go.Proofs.Tryd.prog 57 VC = true := by kernel_rfl
/-- impl.dist: function 58 -/
def QeW : SFun := { n := 14,res := [.t 4],body := (jq [jI 4 0 [4]] [0,1] (.seq (jq [jm 5 0 [],jm 6 1 [],jb 7 .gtr 5 6 [5,6]] [0,1,7] (.cond (.v 7) (jq [jm 8 0 [0],jm 9 1 [1],jn 10 (.binN .sub (.v 8) (.v 9)) [8,9],jm 4 10 [10]] [4] .ret) .skip)) (jq [jm 11 1 [1],jm 12 0 [0],jn 13 (.binN .sub (.v 11) (.v 12)) [11,12],jm 4 13 [13]] [4] .ret))) }
theorem QiY : YM Go.Proofs.Tryd.prog 58 QeW = true := by kernel_rfl
/-- impl.skyWay).better: function 60 -/
def Uv : SFun := { n := 37,res := [.t 4],body := (jq [jn 2 (.box 102 (.v 0)) [0],jn 3 (.box 103 (.v 1)) [1],jn 4 (.mv (.c (.bool false))) [4]] [2,3] (.seq (.block 0 (jq [jf 6 0 2 [],jl 7 6 [6],jf 8 0 3 [],jl 9 8 [8],jb 10 .neq 7 9 [7,9],jm 5 10 [10]] [2,3,5] (.cond (.v 5) (jq [jf 11 0 2 [2],jl 12 11 [11],jf 13 0 3 [3],jl 14 13 [13],jb 15 .lss 12 14 [12,14],jm 4 15 [15]] [4] .ret) (jq [jf 17 1 2 [],jl 18 17 [17],jn 19 (.lenL (.v 18)) [18],jf 20 1 3 [],jl 21 20 [20],jn 22 (.lenL (.v 21)) [21],jb 23 .neq 19 22 [19,22],jm 16 23 [23]] [2,3,16] (.cond (.v 16) (jq [jf 24 1 2 [2],jl 25 24 [24],jn 26 (.lenL (.v 25)) [25],jf 27 1 3 [3],jl 28 27 [27],jn 29 (.lenL (.v 28)) [28],jb 30 .lss 26 29 [26,29],jm 4 30 [30]] [4] .ret) .skip))))) (jq [jf 31 1 2 [2],jl 32 31 [31],jf 33 1 3 [3],jl 34 33 [33],jn 35 (.call 80 [.v 32,.v 34]) [32,34],jc 36 .lss 35 0 [35],jm 4 36 [36]] [4] .ret))) }
theorem Qbd : YM Go.Proofs.Tryd.prog 60 Uv = true := by kernel_rfl
/-- laws.eqSkyPoint: function 61 -/
def Wp : SFun := { n := 20,res := [.t 4],body := (jq [jn 2 (.box 102 (.v 0)) [0],jn 3 (.box 103 (.v 1)) [1],jn 4 (.mv (.c (.bool false))) [4]] [2,3] (.seq (jq [jf 5 0 2 [],jl 6 5 [5],jf 7 0 3 [],jl 8 7 [7],jb 9 .neq 6 8 [6,8]] [2,3,9] (.cond (.v 9) (jq [jn 4 (.mv (.c (.bool false))) []] [4] .ret) .skip)) (.seq (jq [jf 10 1 2 [],jl 11 10 [10],jf 12 1 3 [],jl 13 12 [12],jb 14 .neq 11 13 [11,13]] [2,3,14] (.cond (.v 14) (jq [jn 4 (.mv (.c (.bool false))) []] [4] .ret) .skip)) (.seq (jq [jf 15 2 2 [2],jl 16 15 [15],jf 17 2 3 [3],jl 18 17 [17],jb 19 .neq 16 18 [16,18]] [19] (.cond (.v 19) (jq [jn 4 (.mv (.c (.bool false))) []] [4] .ret) .skip)) (jq [jn 4 (.mv (.c (.bool true))) []] [4] .ret))))) }
theorem Qdi : YM Go.Proofs.Tryd.prog 61 Wp = true := by kernel_rfl
/-- laws.eqSkyAirway: function 62 -/
def VD : SFun := { n := 16,res := [.t 4],body := (jq [jn 2 (.box 102 (.v 0)) [0],jn 3 (.box 103 (.v 1)) [1],jn 4 (.mv (.c (.bool false))) [4]] [2,3] (.seq (jq [jf 5 0 2 [],jl 6 5 [5],jf 7 0 3 [],jl 8 7 [7],jb 9 .neq 6 8 [6,8]] [2,3,9] (.cond (.v 9) (jq [jn 4 (.mv (.c (.bool false))) []] [4] .ret) .skip)) (.seq (jq [jf 10 1 2 [2],jl 11 10 [10],jf 12 1 3 [3],jl 13 12 [12],jn 14 (.call 12 [.v 11,.v 13]) [11,13],jn 15 (.not (.v 14)) [14]] [15] (.cond (.v 15) (jq [jn 4 (.mv (.c (.bool false))) []] [4] .ret) .skip)) (jq [jn 4 (.mv (.c (.bool true))) []] [4] .ret)))) }
theorem QcC : YM Go.Proofs.Tryd.prog 62 VD = true := by kernel_rfl
/-- laws.eqSkySector: function 63 -/
def VE : SFun := { n := 16,res := [.t 4],body := (jq [jn 2 (.box 102 (.v 0)) [0],jn 3 (.box 103 (.v 1)) [1],jn 4 (.mv (.c (.bool false))) [4]] [2,3] (.seq (jq [jf 5 0 2 [],jl 6 5 [5],jf 7 0 3 [],jl 8 7 [7],jb 9 .neq 6 8 [6,8]] [2,3,9] (.cond (.v 9) (jq [jn 4 (.mv (.c (.bool false))) []] [4] .ret) .skip)) (.seq (jq [jf 10 1 2 [2],jl 11 10 [10],jf 12 1 3 [3],jl 13 12 [12],jn 14 (.call 81 [.v 11,.v 13]) [11,13],jn 15 (.not (.v 14)) [14]] [15] (.cond (.v 15) (jq [jn 4 (.mv (.c (.bool false))) []] [4] .ret) .skip)) (jq [jn 4 (.mv (.c (.bool true))) []] [4] .ret)))) }
theorem QcD : YM Go.Proofs.Tryd.prog 63 VE = true := by kernel_rfl
/-- laws.eqSkyRunway: function 64 -/
def VF : SFun := { n := 25,res := [.t 4],body := (jq [jn 2 (.box 102 (.v 0)) [0],jn 3 (.box 103 (.v 1)) [1],jn 4 (.mv (.c (.bool false))) [4]] [2,3] (.seq (jq [jf 5 0 2 [],jl 6 5 [5],jf 7 0 3 [],jl 8 7 [7],jb 9 .neq 6 8 [6,8]] [2,3,9] (.cond (.v 9) (jq [jn 4 (.mv (.c (.bool false))) []] [4] .ret) .skip)) (.seq (jq [jf 10 1 2 [],jl 11 10 [10],jf 12 1 3 [],jl 13 12 [12],jb 14 .neq 11 13 [11,13]] [2,3,14] (.cond (.v 14) (jq [jn 4 (.mv (.c (.bool false))) []] [4] .ret) .skip)) (.seq (jq [jf 15 2 2 [],jl 16 15 [15],jf 17 2 3 [],jl 18 17 [17],jb 19 .neq 16 18 [16,18]] [2,3,19] (.cond (.v 19) (jq [jn 4 (.mv (.c (.bool false))) []] [4] .ret) .skip)) (.seq (jq [jf 20 3 2 [2],jl 21 20 [20],jf 22 3 3 [3],jl 23 22 [22],jb 24 .neq 21 23 [21,23]] [24] (.cond (.v 24) (jq [jn 4 (.mv (.c (.bool false))) []] [4] .ret) .skip)) (jq [jn 4 (.mv (.c (.bool true))) []] [4] .ret)))))) }
theorem QcE : YM Go.Proofs.Tryd.prog 64 VF = true := by kernel_rfl
/-- spec.l1In: function 65 -/
def QeX : SFun := { n := 15,res := [.t 6],body := (jq [jn 6 (.mv (.c (.bool false))) [6]] [0,1,2] (jq [jm 7 0 [],jm 8 1 [1],jb 9 .geq 7 8 [7,8],jm 10 9 [9],jt 11 10 (.mv (.v 0)) [0],jt 12 10 (.mv (.v 2)) [2],jt 13 10 (.bin .leq (.v 11) (.v 12)) [11,12],jn 14 (.pick (.v 10) (.v 13) (.c (.bool false))) [10,13],jm 6 14 [14]] [6] .ret)) }
theorem QiZ : YM Go.Proofs.Tryd.prog 65 QeX = true := by kernel_rfl
def Zb : SCode := (.rgd [jf 22 0 4 [],jl 23 22 [],jn 24 (.call 82 [.v 23]) [],jn 25 (.not (.v 24)) [],jm 26 25 [],jM 27 26 3 [],jh 28 26 (.bin .gtr (.v 27) (ci 0)) [],jM 29 26 28 [],jt 30 29 (.faddr 3 (.v 1)) [],jt 31 29 (.load1 (.v 30)) [],jt 32 29 (.mv (.v 3)) [],jt 33 29 (.binN .sub (.v 32) (ci 1)) [],jt 34 29 (.iaddr 3 (.v 31) (.v 33)) [],jt 35 29 (.faddr 0 (.v 34)) [],jt 36 29 (.load1 (.v 35)) [],jt 37 29 (.faddr 0 (.v 4)) [],jt 38 29 (.load1 (.v 37)) [],jt 39 29 (.bin .geq (.v 36) (.v 38)) [],jh 40 26 (.pick (.v 29) (.v 39) (.c (.bool false))) [],jp 41 26 40 [],jm 42 41 [],jh 43 42 (.faddr 1 (.v 4)) [],jh 44 42 (.load1 (.v 43)) [],jh 45 42 (.faddr 0 (.v 1)) [],jh 46 42 (.load1 (.v 45)) [],jh 47 42 (.binN .sub (.v 46) (ci 1)) [],jh 48 42 (.call 65 [.v 44,.c (.int .i64 0),.v 47]) [],jh 49 42 (.not (.v 48)) [],jp 50 42 49 [],jm 51 50 [],jh 52 51 (.faddr 2 (.v 4)) [],jh 53 51 (.load1 (.v 52)) [],jh 54 51 (.faddr 1 (.v 1)) [],jh 55 51 (.load1 (.v 54)) [],jh 56 51 (.binN .sub (.v 55) (ci 1)) [],jh 57 51 (.call 65 [.v 53,.c (.int .i64 0),.v 56]) [],jh 58 51 (.not (.v 57)) [],jp 59 51 58 []] [1,3,4,59] [none,none,none,none,none,none,none,none,none,none,none,none,none,none,none,none,none,none,none,none,none,none,none,none,none,none,none,none,none,none,none,none,none,none,none,none,none,none])
def Zc : SCode := (.rgd [jf 65 3 1 [],jl 66 65 [],jm 67 5 [],ja 68 3 66 67 [],jf 69 1 68 [],jl 70 69 [],jf 71 1 4 [],jl 72 71 [],jb 73 .eql 70 72 [],jm 74 73 [],jt 75 74 (.faddr 3 (.v 1)) [],jt 76 74 (.load1 (.v 75)) [],jt 77 74 (.mv (.v 5)) [],jt 78 74 (.iaddr 3 (.v 76) (.v 77)) [],jt 79 74 (.faddr 2 (.v 78)) [],jt 80 74 (.load1 (.v 79)) [],jt 81 74 (.faddr 2 (.v 4)) [],jt 82 74 (.load1 (.v 81)) [],jt 83 74 (.bin .eql (.v 80) (.v 82)) [],jn 84 (.pick (.v 74) (.v 83) (.c (.bool false))) []] [1,3,4,5,84] [none,none,none,none,none,none,none,none,none,none,none,none,none,none,none,none,none,none,none,none])
def Vb : SCode := (.seq (jq [jm 60 5 [],jm 61 3 [],jb 62 .lss 60 61 [60,61]] [1,3,4,5,62] (.cond (.v 62) .skip (.exit 2))) (.seq (.block 3 (.seq Zc (.cond (.v 84) (jq [jn 2 (.mv (.c (.bool false))) []] [2] .ret) .skip))) (.rg [jm 63 5 [5],jn 64 (.binN .add (.v 63) (ci 1)) [63],jm 5 64 [64]] [1,3,4,5])))
def Vc : SCode := (.seq (jq [jm 10 3 [],jf 11 3 1 [],jl 12 11 [11],jn 13 (.lenL (.v 12)) [12],jb 14 .lss 10 13 [10,13]] [1,3,14] (.cond (.v 14) .skip (.exit 0))) (.seq (.block 1 (jq [jf 17 3 1 [],jl 18 17 [17],jm 19 3 [],ja 20 3 18 19 [18,19],jL 21 3 20 [20],jn 4 (.alloc 104 [.str ⟨#[]⟩,.int .i64 0,.int .i64 0]) [],⟨none,.store 3 (.v 4) (.v 21),none,[21]⟩] [1,3,4] (.seq (.seq Zb (.cond (.v 59) (jq [jn 2 (.mv (.c (.bool false))) []] [2] .ret) .skip)) (jq [jI 5 0 []] [1,3,4,5] (.block 2 (.loop Vb)))))) (.rg [jm 15 3 [3],jn 16 (.binN .add (.v 15) (ci 1)) [15],jm 3 16 [16]] [1,3])))
/-- spec.l2PointsOk: function 66 -/
def Wq : SFun := { n := 85,res := [.t 2],body := (jq [jn 1 (.box 101 (.v 0)) [0],jn 2 (.mv (.c (.bool false))) [2]] [1] (.seq (jq [jf 6 3 1 [],jl 7 6 [6],jn 8 (.lenL (.v 7)) [7],jc 9 .gtr 8 16 [8]] [1,9] (.cond (.v 9) (jq [jn 2 (.mv (.c (.bool false))) []] [2] .ret) .skip)) (.seq (jq [jI 3 0 []] [1,3] (.block 0 (.loop Vc))) (jq [jn 2 (.mv (.c (.bool true))) []] [2] .ret)))) }
theorem Qdj : YM Go.Proofs.Tryd.prog 66 Wq = true := by kernel_rfl
def XY : SCode := (.rgd [jf 23 0 4 [],jl 24 23 [],jn 25 (.call 82 [.v 24]) [],jn 26 (.not (.v 25)) [],jm 27 26 [],jM 28 27 3 [],jh 29 27 (.bin .gtr (.v 28) (ci 0)) [],jM 30 27 29 [],jt 31 30 (.faddr 4 (.v 1)) [],jt 32 30 (.load1 (.v 31)) [],jt 33 30 (.mv (.v 3)) [],jt 34 30 (.binN .sub (.v 33) (ci 1)) [],jt 35 30 (.iaddr 2 (.v 32) (.v 34)) [],jt 36 30 (.faddr 0 (.v 35)) [],jt 37 30 (.load1 (.v 36)) [],jt 38 30 (.faddr 0 (.v 4)) [],jt 39 30 (.load1 (.v 38)) [],jt 40 30 (.bin .geq (.v 37) (.v 39)) [],jh 41 27 (.pick (.v 30) (.v 40) (.c (.bool false))) [],jp 42 27 41 [],jm 43 42 [],jh 44 43 (.faddr 1 (.v 4)) [],jh 45 43 (.load1 (.v 44)) [],jh 46 43 (.lenL (.v 45)) [],jh 47 43 (.call 65 [.v 46,.c (.int .i64 2),.c (.int .i64 8)]) [],jh 48 43 (.not (.v 47)) [],jp 49 43 48 []] [1,3,4,49] [none,none,none,none,none,none,none,none,none,none,none,none,none,none,none,none,none,none,none,none,none,none,none,none,none,none,none])
def Uw : SCode := (.seq (jq [jm 66 6 [],jm 67 5 [],jb 68 .lss 66 67 [66,67]] [1,3,4,5,6,68] (.cond (.v 68) .skip (.exit 4))) (.seq (.block 5 (.seq (.rgd [jf 71 1 4 [],jl 72 71 [],jm 73 6 [],ja 74 1 72 73 [],jl 75 74 [],jf 76 1 4 [],jl 77 76 [],jm 78 5 [],ja 79 1 77 78 [],jl 80 79 [],jb 81 .eql 75 80 []] [1,3,4,5,6,81] [none,none,none,none,none,none,none,none,none,none,none]) (.cond (.v 81) (jq [jn 2 (.mv (.c (.bool false))) []] [2] .ret) .skip))) (.rg [jm 69 6 [6],jn 70 (.binN .add (.v 69) (ci 1)) [69],jm 6 70 [70]] [1,3,4,5,6])))
def Ux : SCode := (.seq (jq [jm 50 5 [],jf 51 1 4 [],jl 52 51 [51],jn 53 (.lenL (.v 52)) [52],jb 54 .lss 50 53 [50,53]] [1,3,4,5,54] (.cond (.v 54) .skip (.exit 2))) (.seq (.block 3 (.seq (.seq (.rgd [jf 57 3 1 [],jl 58 57 [],jf 59 1 4 [],jl 60 59 [],jm 61 5 [],ja 62 1 60 61 [],jl 63 62 [],jn 64 (.call 71 [.v 58,.v 63]) [],jc 65 .lss 64 0 []] [1,3,4,5,65] [none,none,none,none,none,none,none,none,none]) (.cond (.v 65) (jq [jn 2 (.mv (.c (.bool false))) []] [2] .ret) .skip)) (jq [jI 6 0 []] [1,3,4,5,6] (.block 4 (.loop Uw))))) (.rg [jm 55 5 [5],jn 56 (.binN .add (.v 55) (ci 1)) [55],jm 5 56 [56]] [1,3,4,5])))
def Uy : SCode := (.seq (jq [jm 11 3 [],jf 12 4 1 [],jl 13 12 [12],jn 14 (.lenL (.v 13)) [13],jb 15 .lss 11 14 [11,14]] [1,3,15] (.cond (.v 15) .skip (.exit 0))) (.seq (.block 1 (jq [jf 18 4 1 [],jl 19 18 [18],jm 20 3 [],ja 21 2 19 20 [19,20],jL 22 2 21 [21],jn 4 (.alloc 104 [.str ⟨#[]⟩,.sl 0 1 []]) [],⟨none,.store 2 (.v 4) (.v 22),none,[22]⟩] [1,3,4] (.seq (.seq XY (.cond (.v 49) (jq [jn 2 (.mv (.c (.bool false))) []] [2] .ret) .skip)) (jq [jI 5 0 []] [1,3,4,5] (.block 2 (.loop Ux)))))) (.rg [jm 16 3 [3],jn 17 (.binN .add (.v 16) (ci 1)) [16],jm 3 17 [17]] [1,3])))
/-- spec.l2AirwaysOk: function 67 -/
def VG : SFun := { n := 82,res := [.t 2],body := (jq [jn 1 (.box 101 (.v 0)) [0],jn 2 (.mv (.c (.bool false))) [2]] [1] (.seq (jq [jf 7 4 1 [],jl 8 7 [7],jn 9 (.lenL (.v 8)) [8],jc 10 .gtr 9 8 [9]] [1,10] (.cond (.v 10) (jq [jn 2 (.mv (.c (.bool false))) []] [2] .ret) .skip)) (.seq (jq [jI 3 0 []] [1,3] (.block 0 (.loop Uy))) (jq [jn 2 (.mv (.c (.bool true))) []] [2] .ret)))) }
theorem QcF : YM Go.Proofs.Tryd.prog 67 VG = true := by kernel_rfl
def XZ : SCode := (.rgd [jf 22 0 4 [],jl 23 22 [],jn 24 (.call 82 [.v 23]) [],jn 25 (.not (.v 24)) [],jm 26 25 [],jM 27 26 3 [],jh 28 26 (.bin .gtr (.v 27) (ci 0)) [],jM 29 26 28 [],jt 30 29 (.faddr 5 (.v 1)) [],jt 31 29 (.load1 (.v 30)) [],jt 32 29 (.mv (.v 3)) [],jt 33 29 (.binN .sub (.v 32) (ci 1)) [],jt 34 29 (.iaddr 2 (.v 31) (.v 33)) [],jt 35 29 (.faddr 0 (.v 34)) [],jt 36 29 (.load1 (.v 35)) [],jt 37 29 (.faddr 0 (.v 4)) [],jt 38 29 (.load1 (.v 37)) [],jt 39 29 (.bin .geq (.v 36) (.v 38)) [],jh 40 26 (.pick (.v 29) (.v 39) (.c (.bool false))) [],jp 41 26 40 [],jm 42 41 [],jh 43 42 (.faddr 1 (.v 4)) [],jh 44 42 (.load1 (.v 43)) [],jh 45 42 (.lenL (.v 44)) [],jh 46 42 (.call 65 [.v 45,.c (.int .i64 1),.c (.int .i64 4)]) [],jh 47 42 (.not (.v 46)) [],jp 48 42 47 []] [1,3,4,48] [none,none,none,none,none,none,none,none,none,none,none,none,none,none,none,none,none,none,none,none,none,none,none,none,none,none,none])
def X0 : SCode := (.rgd [jL 56 7 1 [],jf 57 1 4 [],jl 58 57 [],jm 59 5 [],ja 60 6 58 59 [],jL 61 6 60 [],jn 62 (.call 83 [.v 56,.v 61]) [],jn 63 (.not (.v 62)) [],jm 64 63 [],jM 65 64 5 [],jh 66 64 (.bin .gtr (.v 65) (ci 0)) [],jM 67 64 66 [],jt 68 67 (.faddr 1 (.v 4)) [],jt 69 67 (.load1 (.v 68)) [],jt 70 67 (.mv (.v 5)) [],jt 71 67 (.binN .sub (.v 70) (ci 1)) [],jt 72 67 (.iaddr 6 (.v 69) (.v 71)) [],jt 73 67 (.loadN 6 (.v 72)) [],jt 74 67 (.faddr 1 (.v 4)) [],jt 75 67 (.load1 (.v 74)) [],jt 76 67 (.mv (.v 5)) [],jt 77 67 (.iaddr 6 (.v 75) (.v 76)) [],jt 78 67 (.loadN 6 (.v 77)) [],jt 79 67 (.call 84 [.v 73,.v 78]) [],jt 80 67 (.not (.v 79)) [],jh 81 64 (.pick (.v 67) (.v 80) (.c (.bool false))) [],jp 82 64 81 []] [1,3,4,5,82] [none,none,none,none,none,none,none,none,none,none,none,none,none,none,none,none,none,none,none,none,none,none,none,none,none,none,none])
def Uz : SCode := (.seq (jq [jm 49 5 [],jf 50 1 4 [],jl 51 50 [50],jn 52 (.lenL (.v 51)) [51],jb 53 .lss 49 52 [49,52]] [1,3,4,5,53] (.cond (.v 53) .skip (.exit 2))) (.seq (.block 3 (.seq X0 (.cond (.v 82) (jq [jn 2 (.mv (.c (.bool false))) []] [2] .ret) .skip))) (.rg [jm 54 5 [5],jn 55 (.binN .add (.v 54) (ci 1)) [54],jm 5 55 [55]] [1,3,4,5])))
def UA : SCode := (.seq (jq [jm 10 3 [],jf 11 5 1 [],jl 12 11 [11],jn 13 (.lenL (.v 12)) [12],jb 14 .lss 10 13 [10,13]] [1,3,14] (.cond (.v 14) .skip (.exit 0))) (.seq (.block 1 (jq [jf 17 5 1 [],jl 18 17 [17],jm 19 3 [],ja 20 2 18 19 [18,19],jL 21 2 20 [20],jn 4 (.alloc 104 [.str ⟨#[]⟩,.sl 0 6 []]) [],⟨none,.store 2 (.v 4) (.v 21),none,[21]⟩] [1,3,4] (.seq (.seq XZ (.cond (.v 48) (jq [jn 2 (.mv (.c (.bool false))) []] [2] .ret) .skip)) (jq [jI 5 0 []] [1,3,4,5] (.block 2 (.loop Uz)))))) (.rg [jm 15 3 [3],jn 16 (.binN .add (.v 15) (ci 1)) [15],jm 3 16 [16]] [1,3])))
/-- spec.l2SectorsOk: function 68 -/
def VH : SFun := { n := 83,res := [.t 2],body := (jq [jn 1 (.box 101 (.v 0)) [0],jn 2 (.mv (.c (.bool false))) [2]] [1] (.seq (jq [jf 6 5 1 [],jl 7 6 [6],jn 8 (.lenL (.v 7)) [7],jc 9 .gtr 8 6 [8]] [1,9] (.cond (.v 9) (jq [jn 2 (.mv (.c (.bool false))) []] [2] .ret) .skip)) (.seq (jq [jI 3 0 []] [1,3] (.block 0 (.loop UA))) (jq [jn 2 (.mv (.c (.bool true))) []] [2] .ret)))) }
theorem QcG : YM Go.Proofs.Tryd.prog 68 VH = true := by kernel_rfl
def Wr : SCode := (.seq (jq [jm 42 7 [],jm 43 5 [],jb 44 .lss 42 43 [42,43]] [1,3,4,5,6,7,44] (.cond (.v 44) .skip (.exit 2))) (.seq (.block 3 (.seq (.rgd [jm 47 3 [],jm 48 7 [],ja 49 6 47 48 [],jL 50 6 49 [],jL 51 6 6 [],jn 52 (.call 86 [.v 50,.v 51]) []] [1,3,4,5,6,7,52] [none,none,none,none,none,none]) (.cond (.v 52) (jq [jn 2 (.mv (.c (.bool false))) []] [2] .ret) .skip))) (.rg [jm 45 7 [7],jn 46 (.binN .add (.v 45) (ci 1)) [45],jm 7 46 [46]] [1,3,4,5,6,7])))
def Ws : SCode := (.seq (jq [jm 10 5 [],jm 11 3 [],jn 12 (.lenL (.v 11)) [11],jb 13 .lss 10 12 [10,12]] [1,3,4,5,13] (.cond (.v 13) .skip (.exit 0))) (.seq (.block 1 (jq [jm 16 3 [],jm 17 5 [],ja 18 6 16 17 [16,17],jL 19 6 18 [18],jn 6 (.alloc 106 [.int .i64 0,.int .i64 0,.int .i64 0,.int .i64 0,.int .i64 0,.int .i64 0]) [],⟨none,.store 6 (.v 6) (.v 19),none,[19]⟩] [1,3,4,5,6] (jq [jm 20 4 [4],jf 21 2 6 [],jl 22 21 [21],jf 23 0 6 [],jl 24 23 [23],jn 25 (.binN .sub (.v 22) (.v 24)) [22,24],jn 26 (.binN .add (.v 25) (ci 1)) [25],jf 27 3 6 [],jl 28 27 [27],jf 29 1 6 [],jl 30 29 [29],jn 31 (.binN .sub (.v 28) (.v 30)) [28,30],jn 32 (.binN .add (.v 31) (ci 1)) [31],jn 33 (.binN .mul (.v 26) (.v 32)) [26,32],jf 34 5 6 [],jl 35 34 [34],jf 36 4 6 [],jl 37 36 [36],jn 38 (.binN .sub (.v 35) (.v 37)) [35,37],jn 39 (.binN .add (.v 38) (ci 1)) [38],jn 40 (.binN .mul (.v 33) (.v 39)) [33,39],jn 41 (.binN .add (.v 20) (.v 40)) [20,40],jm 4 41 [41]] [1,3,4,5,6] (jq [jI 7 0 []] [1,3,4,5,6,7] (.block 2 (.loop Wr)))))) (.rg [jm 14 5 [5],jn 15 (.binN .add (.v 14) (ci 1)) [14],jm 5 15 [15]] [1,3,4,5])))
/-- spec.l2Covers: function 69 -/
def QaG : SFun := { n := 63,res := [.t 2],body := (jq [jn 1 (.box 101 (.v 0)) [0],jn 2 (.mv (.c (.bool false))) [2]] [1] (jq [jL 8 7 1 [],jn 9 (.call 85 [.v 8]) [8],jm 3 9 [9]] [1,3] (jq [jI 4 0 []] [1,3,4] (.seq (jq [jI 5 0 []] [1,3,4,5] (.block 0 (.loop Ws))) (jq [jm 53 4 [4],jf 54 0 1 [],jl 55 54 [54],jf 56 1 1 [],jl 57 56 [56],jn 58 (.binN .mul (.v 55) (.v 57)) [55,57],jf 59 2 1 [1],jl 60 59 [59],jn 61 (.binN .mul (.v 58) (.v 60)) [58,60],jb 62 .eql 53 61 [53,61],jm 2 62 [62]] [2] .ret))))) }
theorem QeY : YM Go.Proofs.Tryd.prog 69 QaG = true := by kernel_rfl
def X1 : SCode := (.rgd [jf 22 0 4 [],jl 23 22 [],jn 24 (.call 82 [.v 23]) [],jn 25 (.not (.v 24)) [],jm 26 25 [],jM 27 26 3 [],jh 28 26 (.bin .gtr (.v 27) (ci 0)) [],jM 29 26 28 [],jt 30 29 (.faddr 6 (.v 1)) [],jt 31 29 (.load1 (.v 30)) [],jt 32 29 (.mv (.v 3)) [],jt 33 29 (.binN .sub (.v 32) (ci 1)) [],jt 34 29 (.iaddr 4 (.v 31) (.v 33)) [],jt 35 29 (.faddr 0 (.v 34)) [],jt 36 29 (.load1 (.v 35)) [],jt 37 29 (.faddr 0 (.v 4)) [],jt 38 29 (.load1 (.v 37)) [],jt 39 29 (.bin .geq (.v 36) (.v 38)) [],jh 40 26 (.pick (.v 29) (.v 39) (.c (.bool false))) [],jp 41 26 40 [],jm 42 41 [],jh 43 42 (.faddr 1 (.v 4)) [],jh 44 42 (.load1 (.v 43)) [],jh 45 42 (.faddr 0 (.v 1)) [],jh 46 42 (.load1 (.v 45)) [],jh 47 42 (.binN .sub (.v 46) (ci 1)) [],jh 48 42 (.call 65 [.v 44,.c (.int .i64 0),.v 47]) [],jh 49 42 (.not (.v 48)) [],jp 50 42 49 [],jm 51 50 [],jh 52 51 (.faddr 2 (.v 4)) [],jh 53 51 (.load1 (.v 52)) [],jh 54 51 (.faddr 1 (.v 1)) [],jh 55 51 (.load1 (.v 54)) [],jh 56 51 (.binN .sub (.v 55) (ci 1)) [],jh 57 51 (.call 65 [.v 53,.c (.int .i64 0),.v 56]) [],jh 58 51 (.not (.v 57)) [],jp 59 51 58 [],jm 60 59 [],jh 61 60 (.faddr 3 (.v 4)) [],jh 62 60 (.load1 (.v 61)) [],jh 63 60 (.call 65 [.v 62,.c (.int .i64 1),.c (.int .i64 8)]) [],jh 64 60 (.not (.v 63)) [],jp 65 60 64 []] [1,3,4,65] [none,none,none,none,none,none,none,none,none,none,none,none,none,none,none,none,none,none,none,none,none,none,none,none,none,none,none,none,none,none,none,none,none,none,none,none,none,none,none,none,none,none,none,none])
def X2 : SCode := (.rgd [jf 66 1 4 [],jl 67 66 [],jf 68 3 4 [],jl 69 68 [],jn 70 (.call 87 [.v 69]) [],jn 71 (.binN .sub (.v 67) (.v 70)) [],jf 72 0 1 [],jl 73 72 [],jn 74 (.binN .sub (.v 73) (ci 1)) [],jn 75 (.call 65 [.v 71,.c (.int .i64 0),.v 74]) [],jn 76 (.not (.v 75)) [],jm 77 76 [],jh 78 77 (.faddr 2 (.v 4)) [],jh 79 77 (.load1 (.v 78)) [],jh 80 77 (.faddr 3 (.v 4)) [],jh 81 77 (.load1 (.v 80)) [],jh 82 77 (.call 88 [.v 81]) [],jh 83 77 (.binN .sub (.v 79) (.v 82)) [],jh 84 77 (.faddr 1 (.v 1)) [],jh 85 77 (.load1 (.v 84)) [],jh 86 77 (.binN .sub (.v 85) (ci 1)) [],jh 87 77 (.call 65 [.v 83,.c (.int .i64 0),.v 86]) [],jh 88 77 (.not (.v 87)) [],jp 89 77 88 []] [1,3,4,89] [some [],some [],none,none,some [3,2],none,some [1],some [2],none,none,none,none,some [],some [],none,none,some [3,2],none,some [1],some [2],none,none,none,none])
def X3 : SCode := (.rgd [jf 95 6 1 [],jl 96 95 [],jm 97 5 [],ja 98 4 96 97 [],jf 99 1 98 [],jl 100 99 [],jf 101 1 4 [],jl 102 101 [],jb 103 .eql 100 102 [],jm 104 103 [],jt 105 104 (.faddr 6 (.v 1)) [],jt 106 104 (.load1 (.v 105)) [],jt 107 104 (.mv (.v 5)) [],jt 108 104 (.iaddr 4 (.v 106) (.v 107)) [],jt 109 104 (.faddr 2 (.v 108)) [],jt 110 104 (.load1 (.v 109)) [],jt 111 104 (.faddr 2 (.v 4)) [],jt 112 104 (.load1 (.v 111)) [],jt 113 104 (.bin .eql (.v 110) (.v 112)) [],jn 114 (.pick (.v 104) (.v 113) (.c (.bool false))) []] [1,3,4,5,114] [none,none,none,none,none,none,none,none,none,none,none,none,none,none,none,none,none,none,none,none])
def UB : SCode := (.seq (jq [jm 90 5 [],jm 91 3 [],jb 92 .lss 90 91 [90,91]] [1,3,4,5,92] (.cond (.v 92) .skip (.exit 2))) (.seq (.block 3 (.seq X3 (.cond (.v 114) (jq [jn 2 (.mv (.c (.bool false))) []] [2] .ret) .skip))) (.rg [jm 93 5 [5],jn 94 (.binN .add (.v 93) (ci 1)) [93],jm 5 94 [94]] [1,3,4,5])))
def UC : SCode := (.seq (jq [jm 10 3 [],jf 11 6 1 [],jl 12 11 [11],jn 13 (.lenL (.v 12)) [12],jb 14 .lss 10 13 [10,13]] [1,3,14] (.cond (.v 14) .skip (.exit 0))) (.seq (.block 1 (jq [jf 17 6 1 [],jl 18 17 [17],jm 19 3 [],ja 20 4 18 19 [18,19],jL 21 4 20 [20],jn 4 (.alloc 104 [.str ⟨#[]⟩,.int .i64 0,.int .i64 0,.int .i64 0]) [],⟨none,.store 4 (.v 4) (.v 21),none,[21]⟩] [1,3,4] (.seq (.seq X1 (.cond (.v 65) (jq [jn 2 (.mv (.c (.bool false))) []] [2] .ret) .skip)) (.seq (.seq X2 (.cond (.v 89) (jq [jn 2 (.mv (.c (.bool false))) []] [2] .ret) .skip)) (jq [jI 5 0 []] [1,3,4,5] (.block 2 (.loop UB))))))) (.rg [jm 15 3 [3],jn 16 (.binN .add (.v 15) (ci 1)) [15],jm 3 16 [16]] [1,3])))
/-- spec.l2RunwaysOk: function 70 -/
def VI : SFun := { n := 115,res := [.t 2],body := (jq [jn 1 (.box 101 (.v 0)) [0],jn 2 (.mv (.c (.bool false))) [2]] [1] (.seq (jq [jf 6 6 1 [],jl 7 6 [6],jn 8 (.lenL (.v 7)) [7],jc 9 .gtr 8 4 [8]] [1,9] (.cond (.v 9) (jq [jn 2 (.mv (.c (.bool false))) []] [2] .ret) .skip)) (.seq (jq [jI 3 0 []] [1,3] (.block 0 (.loop UC))) (jq [jn 2 (.mv (.c (.bool true))) []] [2] .ret)))) }
theorem QcH : YM Go.Proofs.Tryd.prog 70 VI = true := by kernel_rfl
end Go.Ve

namespace Go.Ve
open Go.Proofs
set_option maxRecDepth 100000
def W5 : SCode := (.seq (jq [jm 6 5 [],jm 7 0 [],jn 8 (.lenL (.v 7)) [7],jb 9 .lss 6 8 [6,8]] [0,1,5,9] (.cond (.v 9) .skip (.exit 0))) (.seq (.block 1 (jq [jm 12 0 [],jm 13 5 [],ja 14 3 12 13 [12,13],jf 15 0 14 [14],jl 16 15 [15],jm 17 1 [],jb 18 .eql 16 17 [16,17]] [0,1,5,18] (.cond (.v 18) (jq [jm 19 5 [5],jm 4 19 [19]] [4] .ret) .skip))) (.rg [jm 10 5 [5],jn 11 (.binN .add (.v 10) (ci 1)) [10],jm 5 11 [11]] [0,1,5])))
/-- spec.l2Point: function 71 -/
def Qbq : SFun := { n := 20,res := [.t 4],body := (jq [jI 4 0 [4]] [0,1] (.seq (jq [jI 5 0 []] [0,1,5] (.block 0 (.loop W5))) (jq [jn 4 (.mv (.c (.int .i64 (-1)))) []] [4] .ret))) }
theorem Qfx : YM Go.Proofs.Tryd.prog 71 Qbq = true := by kernel_rfl
def XD : SCode := (.seq (jq [jm 6 5 [],jm 7 0 [],jn 8 (.lenL (.v 7)) [7],jb 9 .lss 6 8 [6,8]] [0,1,5,9] (.cond (.v 9) .skip (.exit 0))) (.seq (.block 1 (jq [jm 12 0 [],jm 13 5 [],jm 14 1 [],ja 15 6 12 13 [12,13],jf 16 0 15 [15],⟨none,.store 1 (.v 16) (.v 14),none,[14,16]⟩] [0,1,5] (jq [jm 17 1 [1],jn 18 (.binN .add (.v 17) (ci 1)) [17],jm 1 18 [18]] [0,1,5] (jq [jm 19 0 [],jm 20 5 [],jm 21 1 [],ja 22 6 19 20 [19,20],jf 23 1 22 [22],⟨none,.store 1 (.v 23) (.v 21),none,[21,23]⟩] [0,1,5] (jq [jm 24 1 [1],jn 25 (.binN .add (.v 24) (ci 1)) [24],jm 1 25 [25]] [0,1,5] (jq [jm 26 0 [],jm 27 5 [],jm 28 1 [],ja 29 6 26 27 [26,27],jf 30 2 29 [29],⟨none,.store 1 (.v 30) (.v 28),none,[28,30]⟩] [0,1,5] (jq [jm 31 1 [1],jn 32 (.binN .add (.v 31) (ci 1)) [31],jm 1 32 [32]] [0,1,5] (jq [jm 33 0 [],jm 34 5 [],jm 35 1 [],ja 36 6 33 34 [33,34],jf 37 3 36 [36],⟨none,.store 1 (.v 37) (.v 35),none,[35,37]⟩] [0,1,5] (jq [jm 38 1 [1],jn 39 (.binN .add (.v 38) (ci 1)) [38],jm 1 39 [39]] [0,1,5] (jq [jm 40 0 [],jm 41 5 [],jm 42 1 [],ja 43 6 40 41 [40,41],jf 44 4 43 [43],⟨none,.store 1 (.v 44) (.v 42),none,[42,44]⟩] [0,1,5] (jq [jm 45 1 [1],jn 46 (.binN .add (.v 45) (ci 1)) [45],jm 1 46 [46]] [0,1,5] (jq [jm 47 0 [],jm 48 5 [],jm 49 1 [],ja 50 6 47 48 [47,48],jf 51 5 50 [50],⟨none,.store 1 (.v 51) (.v 49),none,[49,51]⟩] [0,1,5] (.rg [jm 52 1 [1],jn 53 (.binN .add (.v 52) (ci 1)) [52],jm 1 53 [53]] [0,1,5]))))))))))))) (.rg [jm 10 5 [5],jn 11 (.binN .add (.v 10) (ci 1)) [10],jm 5 11 [11]] [0,1,5])))
/-- laws.markSkyBlockS: function 73 -/
def UD : SFun := { n := 55,res := [.t 4],body := (jq [jI 4 0 [4]] [0,1] (.seq (jq [jI 5 0 []] [0,1,5] (.block 0 (.loop XD))) (jq [jm 54 1 [1],jm 4 54 [54]] [4] .ret))) }
theorem Qbe : YM Go.Proofs.Tryd.prog 73 UD = true := by kernel_rfl
def VJ : SCode := (.seq (jq [jm 12 5 [],jm 13 0 [],jn 14 (.lenL (.v 13)) [13],jb 15 .lss 12 14 [12,14]] [0,1,5,15] (.cond (.v 15) .skip (.exit 0))) (.seq (.block 1 (jq [jm 18 1 [1],jm 19 0 [],jm 20 5 [],ja 21 1 19 20 [19,20],jl 22 21 [21],jn 23 (.lenS (.v 22)) [22],jn 24 (.binN .sub (.v 18) (.v 23)) [18,23],jm 1 24 [24]] [0,1,5] (jq [jm 25 1 [],jc 26 .lss 25 0 [25]] [0,1,5,26] (.cond (.v 26) (jq [jn 4 (.mv (.c (.int .i64 (-1)))) []] [4] .ret) .skip)))) (.rg [jm 16 5 [5],jn 17 (.binN .add (.v 16) (ci 1)) [16],jm 5 17 [17]] [0,1,5])))
/-- laws.szStringS: function 74 -/
def W6 : SFun := { n := 28,res := [.t 4],body := (jq [jI 4 0 [4]] [0,1] (jq [jm 6 1 [1],jm 7 0 [],jn 8 (.lenL (.v 7)) [7],jn 9 (.binN .sub (.v 6) (.v 8)) [6,8],jm 1 9 [9]] [0,1] (.seq (jq [jm 10 1 [],jc 11 .lss 10 0 [10]] [0,1,11] (.cond (.v 11) (jq [jn 4 (.mv (.c (.int .i64 (-1)))) []] [4] .ret) .skip)) (.seq (jq [jI 5 0 []] [0,1,5] (.block 0 (.loop VJ))) (jq [jm 27 1 [1],jm 4 27 [27]] [4] .ret))))) }
theorem QdS : YM Go.Proofs.Tryd.prog 74 W6 = true := by kernel_rfl
/-- laws.szSkyBlockS: function 75 -/
def VK : SFun := { n := 12,res := [.t 4],body := (jq [jI 4 0 [4]] [0,1] (jq [jm 5 1 [1],jm 6 0 [0],jn 7 (.lenL (.v 6)) [6],jn 8 (.binN .sub (.v 5) (.v 7)) [5,7],jm 1 8 [8]] [1] (.seq (jq [jm 9 1 [],jc 10 .lss 9 0 [9]] [1,10] (.cond (.v 10) (jq [jn 4 (.mv (.c (.int .i64 (-1)))) []] [4] .ret) .skip)) (jq [jm 11 1 [1],jm 4 11 [11]] [4] .ret)))) }
theorem QcI : YM Go.Proofs.Tryd.prog 75 VK = true := by kernel_rfl
/-- spec.l6Steps: function 76 -/
def Qbr : SFun := { n := 24,res := [.t 4],body := (jq [jn 2 (.box 102 (.v 0)) [0],jn 3 (.box 103 (.v 1)) [1],jI 4 0 [4]] [2,3] (jq [jf 7 0 2 [],jl 8 7 [7],jf 9 0 3 [],jl 10 9 [9],jn 11 (.binN .sub (.v 8) (.v 10)) [8,10],jn 12 (.call 92 [.v 11]) [11],jm 5 12 [12]] [2,3,5] (jq [jf 13 1 2 [2],jl 14 13 [13],jf 15 1 3 [3],jl 16 15 [15],jn 17 (.binN .sub (.v 14) (.v 16)) [14,16],jn 18 (.call 92 [.v 17]) [17],jm 6 18 [18]] [5,6] (.seq (jq [jm 19 5 [],jm 20 6 [],jb 21 .gtr 19 20 [19,20]] [5,6,21] (.cond (.v 21) (jq [jm 22 5 [5],jm 4 22 [22]] [4] .ret) .skip)) (jq [jm 23 6 [6],jm 4 23 [23]] [4] .ret))))) }
theorem Qfy : YM Go.Proofs.Tryd.prog 76 Qbr = true := by kernel_rfl
/-- spec.l6At: function 77 -/
def QeZ : SFun := { n := 19,res := [.cN 4 2],body := (jq [jn 2 (.box 102 (.v 0)) [0],jn 4 (.alloc 104 [.int .i64 0,.int .i64 0]) []] [1,2,4] (.seq (.rgd [jf 6 3 2 [],jl 7 6 [],jf 8 3 2 [],jl 9 8 [],jm 10 1 [],jn 11 (.call 71 [.v 9,.v 10]) [],ja 12 3 7 11 [],jL 13 3 12 [],jn 5 (.alloc 105 [.str ⟨#[]⟩,.int .i64 0,.int .i64 0]) [],⟨none,.store 3 (.v 5) (.v 13),none,[]⟩] [4,5] [some [],some [],some [],some [],none,some [4,3],some [],some [],some [7,6,5,4,2,1,0],none]) (jq [jf 14 1 5 [],jl 15 14 [14],jf 16 2 5 [5],jl 17 16 [16],jn 18 (.build [.int .i64 0,.int .i64 0] [(0,1,.v 15),(1,1,.v 17)]) [15,17],⟨none,.store 2 (.v 4) (.v 18),none,[18]⟩] [4] .ret))) }
theorem Qi0 : YM Go.Proofs.Tryd.prog 77 QeZ = true := by kernel_rfl
def VL : SCode := (.seq (jq [jm 8 4 [],jm 9 0 [],jn 10 (.lenL (.v 9)) [9],jb 11 .lss 8 10 [8,10]] [0,3,4,11] (.cond (.v 11) .skip (.exit 0))) (.seq (.block 1 (.rg [jm 14 3 [],jm 15 4 [],jm 16 0 [],jm 17 4 [],ja 18 1 16 17 [16,17],jl 19 18 [18],ja 20 1 14 15 [14,15],⟨none,.store 1 (.v 20) (.v 19),none,[19,20]⟩] [0,3,4])) (.rg [jm 12 4 [4],jn 13 (.binN .add (.v 12) (ci 1)) [12],jm 4 13 [13]] [0,3,4])))
/-- laws.toStringS: function 78 -/
def W7 : SFun := { n := 22,res := [.t 2],body := (jq [jn 2 (.mv (.c (.sl 0 1 []))) [2]] [0] (jq [jm 5 0 [],jn 6 (.lenL (.v 5)) [5],⟨some 7,.mk 107 9 1 [.str ⟨#[]⟩] (.v 6),none,[6]⟩,jm 3 7 [7]] [0,3] (.seq (jq [jI 4 0 []] [0,3,4] (.block 0 (.loop VL))) (jq [jm 21 3 [3],jm 2 21 [21]] [2] (.gh (.frzE 2) .ret))))) }
theorem QdT : YM Go.Proofs.Tryd.prog 78 W7 = true := by kernel_rfl
def UE : SCode := (.seq (jq [jm 8 4 [],jm 9 0 [],jn 10 (.lenL (.v 9)) [9],jb 11 .lss 8 10 [8,10]] [0,3,4,11] (.cond (.v 11) .skip (.exit 0))) (.seq (.block 1 (.rg [jm 14 3 [],jm 15 4 [],jm 16 0 [],jm 17 4 [],ja 18 6 16 17 [16,17],jL 19 6 18 [18],jn 20 (.call 93 [.v 19]) [19],ja 21 6 14 15 [14,15],⟨none,.store 6 (.v 21) (.v 20),none,[20,21]⟩] [0,3,4])) (.rg [jm 12 4 [4],jn 13 (.binN .add (.v 12) (ci 1)) [12],jm 4 13 [13]] [0,3,4])))
/-- laws.toSkyBlockS: function 79 -/
def VM : SFun := { n := 23,res := [.t 2],body := (jq [jn 2 (.mv (.c (.sl 0 6 []))) [2]] [0] (jq [jm 5 0 [],jn 6 (.lenL (.v 5)) [5],jn 7 (.mk 107 99 6 [.int .i64 0,.int .i64 0,.int .i64 0,.int .i64 0,.int .i64 0,.int .i64 0] (.v 6)) [6],jm 3 7 [7]] [0,3] (.seq (jq [jI 4 0 []] [0,3,4] (.block 0 (.loop UE))) (jq [jm 22 3 [3],jm 2 22 [22]] [2] (.gh (.frzE 2) .ret))))) }
theorem QcJ : YM Go.Proofs.Tryd.prog 79 VM = true := by kernel_rfl
def X8 : SCode := (jq [jb 12 .lss 11 10 []] [0,1,9,10,11,12] (.seq (.cond (.v 12) .skip (.exit 0)) (.seq (.block 1 (jq [jm 13 11 [],ja 14 1 9 11 [],jl 15 14 [14],jm 5 13 [13],jm 6 15 [15]] [0,1,5,6,9,10,11] (.seq (jq [jm 16 5 [],jm 17 1 [],jn 18 (.lenL (.v 17)) [17],jb 19 .geq 16 18 [16,18]] [0,1,5,6,9,10,11,19] (.cond (.v 19) (jq [jI 4 1 []] [4] .ret) .skip)) (jq [jm 20 1 [],jm 21 5 [5],ja 22 1 20 21 [20,21],jl 23 22 [22],jm 7 23 [23]] [0,1,6,7,9,10,11] (jq [jm 24 6 [6],jm 25 7 [7],jn 26 (.call 94 [.v 24,.v 25]) [24,25],jm 8 26 [26]] [0,1,8,9,10,11] (jq [jm 27 8 [],jc 28 .neq 27 0 [27]] [0,1,8,9,10,11,28] (.cond (.v 28) (jq [jm 29 8 [8],jm 4 29 [29]] [4] .ret) .skip))))))) (.rg [jn 30 (.binN .add (.v 11) (ci 1)) [11],jm 11 30 [30]] [0,1,9,10,11]))))
/-- slices.Compare[[]string,string]: function 80 -/
def Zq : SFun := { n := 36,res := [.t 4],body := (jq [jI 4 0 [4]] [0,1] (.seq (jq [jm 9 0 [],jn 10 (.lenL (.v 9)) [],jI 11 0 []] [0,1,9,10,11] (.block 0 (.loop X8))) (.seq (jq [jm 31 0 [0],jn 32 (.lenL (.v 31)) [31],jm 33 1 [1],jn 34 (.lenL (.v 33)) [33],jb 35 .lss 32 34 [32,34]] [35] (.cond (.v 35) (jq [jn 4 (.mv (.c (.int .i64 (-1)))) []] [4] .ret) .skip)) (jq [jI 4 0 []] [4] .ret)))) }
theorem WR : YM Go.Proofs.Tryd.prog 80 Zq = true := by kernel_rfl
def UF : SCode := (.seq (jq [jm 11 5 [],jm 12 0 [],jn 13 (.lenL (.v 12)) [12],jb 14 .lss 11 13 [11,13]] [0,1,5,14] (.cond (.v 14) .skip (.exit 0))) (.seq (.block 1 (.seq (.rgd [jm 17 0 [],jm 18 5 [],ja 19 6 17 18 [],jL 20 6 19 [],jm 21 1 [],jm 22 5 [],ja 23 6 21 22 [],jL 24 6 23 [],jn 25 (.call 95 [.v 20,.v 24]) [],jn 26 (.not (.v 25)) []] [0,1,5,26] [none,none,none,none,none,none,none,none,none,none]) (.cond (.v 26) (jq [jn 4 (.mv (.c (.bool false))) []] [4] .ret) .skip))) (.rg [jm 15 5 [5],jn 16 (.binN .add (.v 15) (ci 1)) [15],jm 5 16 [16]] [0,1,5])))
/-- laws.eqSkyBlockS: function 81 -/
def VN : SFun := { n := 27,res := [.t 4],body := (jq [jn 4 (.mv (.c (.bool false))) [4]] [0,1] (.seq (jq [jm 6 0 [],jn 7 (.lenL (.v 6)) [6],jm 8 1 [],jn 9 (.lenL (.v 8)) [8],jb 10 .neq 7 9 [7,9]] [0,1,10] (.cond (.v 10) (jq [jn 4 (.mv (.c (.bool false))) []] [4] .ret) .skip)) (.seq (jq [jI 5 0 []] [0,1,5] (.block 0 (.loop UF))) (jq [jn 4 (.mv (.c (.bool true))) []] [4] .ret)))) }
theorem QcK : YM Go.Proofs.Tryd.prog 81 VN = true := by kernel_rfl
def Wt : SCode := (.seq (jq [jm 9 3 [],jm 10 0 [],jn 11 (.lenS (.v 10)) [10],jb 12 .lss 9 11 [9,11]] [0,3,12] (.cond (.v 12) .skip (.exit 0))) (.seq (.block 1 (jq [jm 15 0 [],jm 16 3 [],jn 17 (.istr (.v 15) (.v 16)) [15,16],jm 4 17 [17]] [0,3,4] (jq [jm 18 4 [],jn 19 (.bin .geq (.v 18) (.c (.int .u8 97))) [18],jm 20 19 [19],jt 21 20 (.mv (.v 4)) [],jt 22 20 (.bin .leq (.v 21) (.c (.int .u8 122))) [21],jn 23 (.pick (.v 20) (.v 22) (.c (.bool false))) [20,22],jm 24 23 [23],jM 25 24 4 [],jh 26 24 (.bin .geq (.v 25) (.c (.int .u8 48))) [25],jM 27 24 26 [26],jt 28 27 (.mv (.v 4)) [],jt 29 27 (.bin .leq (.v 28) (.c (.int .u8 57))) [28],jh 30 24 (.pick (.v 27) (.v 29) (.c (.bool false))) [27,29],jp 31 24 30 [24,30],jm 32 31 [31],jM 33 32 4 [4],jh 34 32 (.bin .eql (.v 33) (.c (.int .u8 45))) [33],jp 35 32 34 [32,34],jn 36 (.not (.v 35)) [35]] [0,3,36] (.cond (.v 36) (jq [jn 2 (.mv (.c (.bool false))) []] [2] .ret) .skip)))) (.rg [jm 13 3 [3],jn 14 (.binN .add (.v 13) (ci 1)) [13],jm 3 14 [14]] [0,3])))
/-- spec.l2NameOk: function 82 -/
def QaH : SFun := { n := 37,res := [.t 2],body := (jq [jn 2 (.mv (.c (.bool false))) [2]] [0] (.seq (jq [jm 5 0 [],jn 6 (.lenS (.v 5)) [5],jn 7 (.call 65 [.v 6,.c (.int .i64 1),.c (.int .i64 8)]) [6],jn 8 (.not (.v 7)) [7]] [0,8] (.cond (.v 8) (jq [jn 2 (.mv (.c (.bool false))) []] [2] .ret) .skip)) (.seq (jq [jI 3 0 []] [0,3] (.block 0 (.loop Wt))) (jq [jn 2 (.mv (.c (.bool true))) []] [2] .ret)))) }
theorem Qe0 : YM Go.Proofs.Tryd.prog 82 QaH = true := by kernel_rfl
/-- spec.l2BlockOk: function 83 -/
def W8 : SFun := { n := 45,res := [.t 4],body := (jq [jn 2 (.box 102 (.v 0)) [0],jn 3 (.box 103 (.v 1)) [1],jn 4 (.mv (.c (.bool false))) [4]] [2,3] (jq [jf 5 0 3 [],jl 6 5 [5],jf 7 2 3 [],jl 8 7 [7],jn 9 (.call 65 [.v 6,.c (.int .i64 0),.v 8]) [6,8],jm 10 9 [9],jt 11 10 (.faddr 2 (.v 3)) [],jt 12 10 (.load1 (.v 11)) [11],jt 13 10 (.faddr 0 (.v 2)) [],jt 14 10 (.load1 (.v 13)) [13],jt 15 10 (.bin .lss (.v 12) (.v 14)) [12,14],jn 16 (.pick (.v 10) (.v 15) (.c (.bool false))) [10,15],jm 17 16 [16],jt 18 17 (.faddr 1 (.v 3)) [],jt 19 17 (.load1 (.v 18)) [18],jt 20 17 (.faddr 3 (.v 3)) [],jt 21 17 (.load1 (.v 20)) [20],jt 22 17 (.call 65 [.v 19,.c (.int .i64 0),.v 21]) [19,21],jn 23 (.pick (.v 17) (.v 22) (.c (.bool false))) [17,22],jm 24 23 [23],jt 25 24 (.faddr 3 (.v 3)) [],jt 26 24 (.load1 (.v 25)) [25],jt 27 24 (.faddr 1 (.v 2)) [],jt 28 24 (.load1 (.v 27)) [27],jt 29 24 (.bin .lss (.v 26) (.v 28)) [26,28],jn 30 (.pick (.v 24) (.v 29) (.c (.bool false))) [24,29],jm 31 30 [30],jt 32 31 (.faddr 4 (.v 3)) [],jt 33 31 (.load1 (.v 32)) [32],jt 34 31 (.faddr 5 (.v 3)) [],jt 35 31 (.load1 (.v 34)) [34],jt 36 31 (.call 65 [.v 33,.c (.int .i64 1),.v 35]) [33,35],jn 37 (.pick (.v 31) (.v 36) (.c (.bool false))) [31,36],jm 38 37 [37],jt 39 38 (.faddr 5 (.v 3)) [3],jt 40 38 (.load1 (.v 39)) [39],jt 41 38 (.faddr 2 (.v 2)) [2],jt 42 38 (.load1 (.v 41)) [41],jt 43 38 (.bin .leq (.v 40) (.v 42)) [40,42],jn 44 (.pick (.v 38) (.v 43) (.c (.bool false))) [38,43],jm 4 44 [44]] [4] .ret)) }
theorem QdU : YM Go.Proofs.Tryd.prog 83 W8 = true := by kernel_rfl
/-- spec.l2Less: function 84 -/
def QcL : SFun := { n := 30,res := [.t 4],body := (jq [jn 2 (.box 102 (.v 0)) [0],jn 3 (.box 103 (.v 1)) [1],jn 4 (.mv (.c (.bool false))) [4]] [2,3] (.seq (jq [jf 5 0 2 [],jl 6 5 [5],jf 7 0 3 [],jl 8 7 [7],jb 9 .neq 6 8 [6,8]] [2,3,9] (.cond (.v 9) (jq [jf 10 0 2 [2],jl 11 10 [10],jf 12 0 3 [3],jl 13 12 [12],jb 14 .lss 11 13 [11,13],jm 4 14 [14]] [4] .ret) .skip)) (.seq (jq [jf 15 1 2 [],jl 16 15 [15],jf 17 1 3 [],jl 18 17 [17],jb 19 .neq 16 18 [16,18]] [2,3,19] (.cond (.v 19) (jq [jf 20 1 2 [2],jl 21 20 [20],jf 22 1 3 [3],jl 23 22 [22],jb 24 .lss 21 23 [21,23],jm 4 24 [24]] [4] .ret) .skip)) (jq [jf 25 4 2 [2],jl 26 25 [25],jf 27 4 3 [3],jl 28 27 [27],jb 29 .lss 26 28 [26,28],jm 4 29 [29]] [4] .ret)))) }
theorem Qgs : YM Go.Proofs.Tryd.prog 84 QcL = true := by kernel_rfl
def Wu : SCode := (.seq (jq [jm 6 4 [],jf 7 5 1 [],jl 8 7 [7],jn 9 (.lenL (.v 8)) [8],jb 10 .lss 6 9 [6,9]] [1,3,4,10] (.cond (.v 10) .skip (.exit 0))) (.seq (.block 1 (.rg [jm 13 3 [3],jf 14 5 1 [],jl 15 14 [14],jm 16 4 [],ja 17 2 15 16 [15,16],jf 18 1 17 [17],jl 19 18 [18],jn 20 (.app 105 99 6 (.v 13) (.v 19)) [13,19],jm 3 20 [20]] [1,3,4])) (.rg [jm 11 4 [4],jn 12 (.binN .add (.v 11) (ci 1)) [11],jm 4 12 [12]] [1,3,4])))
/-- spec.l2Blocks: function 85 -/
def QaI : SFun := { n := 22,res := [.t 2],body := (jq [jn 1 (.box 101 (.v 0)) [0],jn 2 (.mv (.c (.sl 0 6 []))) [2]] [1] (jq [jn 5 (.litOwn 105 99 6 []) [],jm 3 5 [5]] [1,3] (.seq (jq [jI 4 0 []] [1,3,4] (.block 0 (.loop Wu))) (jq [jm 21 3 [3],jm 2 21 [21]] [2] (.gh (.frzE 2) .ret))))) }
theorem Qe1 : YM Go.Proofs.Tryd.prog 85 QaI = true := by kernel_rfl
/-- spec.l2Shares: function 86 -/
def QaJ : SFun := { n := 45,res := [.t 4],body := (jq [jn 2 (.box 102 (.v 0)) [0],jn 3 (.box 103 (.v 1)) [1],jn 4 (.mv (.c (.bool false))) [4]] [2,3] (jq [jf 5 0 2 [],jl 6 5 [5],jf 7 2 3 [],jl 8 7 [7],jb 9 .leq 6 8 [6,8],jm 10 9 [9],jt 11 10 (.faddr 0 (.v 3)) [],jt 12 10 (.load1 (.v 11)) [11],jt 13 10 (.faddr 2 (.v 2)) [],jt 14 10 (.load1 (.v 13)) [13],jt 15 10 (.bin .leq (.v 12) (.v 14)) [12,14],jn 16 (.pick (.v 10) (.v 15) (.c (.bool false))) [10,15],jm 17 16 [16],jt 18 17 (.faddr 1 (.v 2)) [],jt 19 17 (.load1 (.v 18)) [18],jt 20 17 (.faddr 3 (.v 3)) [],jt 21 17 (.load1 (.v 20)) [20],jt 22 17 (.bin .leq (.v 19) (.v 21)) [19,21],jn 23 (.pick (.v 17) (.v 22) (.c (.bool false))) [17,22],jm 24 23 [23],jt 25 24 (.faddr 1 (.v 3)) [],jt 26 24 (.load1 (.v 25)) [25],jt 27 24 (.faddr 3 (.v 2)) [],jt 28 24 (.load1 (.v 27)) [27],jt 29 24 (.bin .leq (.v 26) (.v 28)) [26,28],jn 30 (.pick (.v 24) (.v 29) (.c (.bool false))) [24,29],jm 31 30 [30],jt 32 31 (.faddr 4 (.v 2)) [],jt 33 31 (.load1 (.v 32)) [32],jt 34 31 (.faddr 5 (.v 3)) [],jt 35 31 (.load1 (.v 34)) [34],jt 36 31 (.bin .leq (.v 33) (.v 35)) [33,35],jn 37 (.pick (.v 31) (.v 36) (.c (.bool false))) [31,36],jm 38 37 [37],jt 39 38 (.faddr 4 (.v 3)) [3],jt 40 38 (.load1 (.v 39)) [39],jt 41 38 (.faddr 5 (.v 2)) [2],jt 42 38 (.load1 (.v 41)) [41],jt 43 38 (.bin .leq (.v 40) (.v 42)) [40,42],jn 44 (.pick (.v 38) (.v 43) (.c (.bool false))) [38,43],jm 4 44 [44]] [4] .ret)) }
theorem Qe2 : YM Go.Proofs.Tryd.prog 86 QaJ = true := by kernel_rfl
/-- spec.l2Dx: function 87 -/
def Qe3 : SFun := { n := 12,res := [.t 2],body := (jq [jI 2 0 [2]] [0] (.seq (jq [jm 3 0 [0]] [3] (.block 0 (.seq (jq [jc 5 .eql 3 2 [],jm 4 5 [5]] [3,4] (.cond (.v 4) .skip (jq [jc 6 .eql 3 3 [],jm 4 6 [6]] [3,4] (.cond (.v 4) .skip (.rg [jc 7 .eql 3 4 [],jm 4 7 [7]] [3,4]))))) (.cond (.v 4) (jq [jI 2 1 []] [2] .ret) (.seq (jq [jc 9 .eql 3 6 [],jm 8 9 [9]] [3,8] (.cond (.v 8) .skip (jq [jc 10 .eql 3 7 [],jm 8 10 [10]] [3,8] (.cond (.v 8) .skip (.rg [jc 11 .eql 3 8 [3],jm 8 11 [11]] [8]))))) (.cond (.v 8) (jq [jn 2 (.mv (.c (.int .i64 (-1)))) []] [2] .ret) .skip)))))) (jq [jI 2 0 []] [2] .ret))) }
theorem Qi1 : YM Go.Proofs.Tryd.prog 87 Qe3 = true := by kernel_rfl
/-- spec.l2Dy: function 88 -/
def Qe4 : SFun := { n := 12,res := [.t 2],body := (jq [jI 2 0 [2]] [0] (.seq (jq [jm 3 0 [0]] [3] (.block 0 (.seq (jq [jc 5 .eql 3 1 [],jm 4 5 [5]] [3,4] (.cond (.v 4) .skip (jq [jc 6 .eql 3 2 [],jm 4 6 [6]] [3,4] (.cond (.v 4) .skip (.rg [jc 7 .eql 3 8 [],jm 4 7 [7]] [3,4]))))) (.cond (.v 4) (jq [jI 2 1 []] [2] .ret) (.seq (jq [jc 9 .eql 3 4 [],jm 8 9 [9]] [3,8] (.cond (.v 8) .skip (jq [jc 10 .eql 3 5 [],jm 8 10 [10]] [3,8] (.cond (.v 8) .skip (.rg [jc 11 .eql 3 6 [3],jm 8 11 [11]] [8]))))) (.cond (.v 8) (jq [jn 2 (.mv (.c (.int .i64 (-1)))) []] [2] .ret) .skip)))))) (jq [jI 2 0 []] [2] .ret))) }
theorem Qi2 : YM Go.Proofs.Tryd.prog 88 Qe4 = true := by kernel_rfl
def QaK : SCode := (.seq (jq [jm 23 9 [],jm 24 8 [],jn 25 (.lenL (.v 24)) [24],jb 26 .lss 23 25 [23,25]] [1,2,3,7,8,9,26] (.cond (.v 26) .skip (.exit 2))) (.seq (.block 3 (jq [jm 29 8 [],jm 30 9 [],jn 31 (.binN .sub (.v 30) (ci 1)) [30],ja 32 1 29 31 [29,31],jl 33 32 [32],jm 34 1 [],jb 35 .eql 33 34 [33,34],jm 36 35 [35],jt 37 36 (.mv (.v 8)) [],jt 38 36 (.mv (.v 9)) [],jt 39 36 (.iaddr 1 (.v 37) (.v 38)) [37,38],jt 40 36 (.load1 (.v 39)) [39],jt 41 36 (.mv (.v 2)) [],jt 42 36 (.bin .eql (.v 40) (.v 41)) [40,41],jn 43 (.pick (.v 36) (.v 42) (.c (.bool false))) [36,42],jm 44 43 [43],jM 45 44 8 [],jM 46 44 9 [],jh 47 44 (.binN .sub (.v 46) (ci 1)) [46],jh 48 44 (.iaddr 1 (.v 45) (.v 47)) [45,47],jh 49 44 (.load1 (.v 48)) [48],jM 50 44 2 [],jh 51 44 (.bin .eql (.v 49) (.v 50)) [49,50],jM 52 44 51 [51],jt 53 52 (.mv (.v 8)) [],jt 54 52 (.mv (.v 9)) [],jt 55 52 (.iaddr 1 (.v 53) (.v 54)) [53,54],jt 56 52 (.load1 (.v 55)) [55],jt 57 52 (.mv (.v 1)) [],jt 58 52 (.bin .eql (.v 56) (.v 57)) [56,57],jh 59 44 (.pick (.v 52) (.v 58) (.c (.bool false))) [52,58],jp 60 44 59 [44,59]] [1,2,3,7,8,9,60] (.cond (.v 60) (jq [jn 6 (.mv (.c (.bool true))) []] [6] .ret) .skip))) (.rg [jm 27 9 [9],jn 28 (.binN .add (.v 27) (ci 1)) [27],jm 9 28 [28]] [1,2,3,7,8,9])))
def QaL : SCode := (.seq (jq [jm 10 7 [],jf 11 4 3 [],jl 12 11 [11],jn 13 (.lenL (.v 12)) [12],jb 14 .lss 10 13 [10,13]] [1,2,3,7,14] (.cond (.v 14) .skip (.exit 0))) (.seq (.block 1 (jq [jf 17 4 3 [],jl 18 17 [17],jm 19 7 [],ja 20 2 18 19 [18,19],jf 21 1 20 [20],jl 22 21 [21],jm 8 22 [22]] [1,2,3,7,8] (jq [jI 9 1 []] [1,2,3,7,8,9] (.block 2 (.loop QaK))))) (.rg [jm 15 7 [7],jn 16 (.binN .add (.v 15) (ci 1)) [15],jm 7 16 [16]] [1,2,3,7])))
/-- spec.l7Next: function 89 -/
def QcM : SFun := { n := 61,res := [.t 6],body := (jq [jn 3 (.box 103 (.v 0)) [0],jn 6 (.mv (.c (.bool false))) [6]] [1,2,3] (.seq (jq [jI 7 0 []] [1,2,3,7] (.block 0 (.loop QaL))) (jq [jn 6 (.mv (.c (.bool false))) []] [6] .ret))) }
theorem Qgt : YM Go.Proofs.Tryd.prog 89 QcM = true := by kernel_rfl
def Qbs : SCode := (.seq (jq [jm 6 5 [],jm 7 0 [],jn 8 (.lenL (.v 7)) [7],jb 9 .lss 6 8 [6,8]] [0,1,5,9] (.cond (.v 9) .skip (.exit 0))) (.seq (.block 1 (jq [jm 12 0 [],jm 13 5 [],ja 14 1 12 13 [12,13],jl 15 14 [14],jm 16 1 [],jb 17 .eql 15 16 [15,16]] [0,1,5,17] (.cond (.v 17) (jq [jn 4 (.mv (.c (.bool true))) []] [4] .ret) .skip))) (.rg [jm 10 5 [5],jn 11 (.binN .add (.v 10) (ci 1)) [10],jm 5 11 [11]] [0,1,5])))
/-- spec.l7Has: function 90 -/
def QdG : SFun := { n := 18,res := [.t 4],body := (jq [jn 4 (.mv (.c (.bool false))) [4]] [0,1] (.seq (jq [jI 5 0 []] [0,1,5] (.block 0 (.loop Qbs))) (jq [jn 4 (.mv (.c (.bool false))) []] [4] .ret))) }
theorem Qh2 : YM Go.Proofs.Tryd.prog 90 QdG = true := by kernel_rfl
def Wv : SCode := (.seq (jq [jm 35 7 [],jm 36 1 [],jn 37 (.lenL (.v 36)) [36],jb 38 .lss 35 37 [35,37]] [1,2,7,38] (.cond (.v 38) .skip (.exit 0))) (.seq (.block 1 (.seq (.rgd [jm 41 1 [],jm 42 7 [],ja 43 1 41 42 [],jl 44 43 [],jm 45 2 [],jm 46 7 [],ja 47 1 45 46 [],jl 48 47 [],jb 49 .neq 44 48 []] [1,2,7,49] [none,none,none,none,none,none,none,none,none]) (.cond (.v 49) (.seq (.rgd [jm 50 1 [],jm 51 7 [],ja 52 1 50 51 [],jl 53 52 [],jm 54 2 [],jm 55 7 [],ja 56 1 54 55 [],jl 57 56 [],jb 58 .lss 53 57 [],jm 6 58 []] [6] [none,none,none,none,none,none,none,none,none,none]) .ret) .skip))) (.rg [jm 39 7 [7],jn 40 (.binN .add (.v 39) (ci 1)) [39],jm 7 40 [40]] [1,2,7])))
/-- spec.l7Better: function 91 -/
def QaM : SFun := { n := 59,res := [.t 6],body := (jq [jn 3 (.box 103 (.v 0)) [0],jn 6 (.mv (.c (.bool false))) [6]] [1,2,3] (.seq (jq [jm 8 2 [],jn 9 (.lenL (.v 8)) [8],jc 10 .eql 9 0 [9]] [1,2,3,10] (.cond (.v 10) (jq [jn 6 (.mv (.c (.bool true))) []] [6] .ret) .skip)) (.seq (.seq (.rgd [jL 11 7 3 [],jm 12 1 [],jn 13 (.call 20 [.v 11,.v 12]) [],jL 14 7 3 [],jm 15 2 [],jn 16 (.call 20 [.v 14,.v 15]) [],jb 17 .neq 13 16 []] [1,2,3,17] [none,none,some [],some [0],none,none,none]) (.cond (.v 17) (.seq (.rgd [jL 18 7 3 [],jm 19 1 [],jn 20 (.call 20 [.v 18,.v 19]) [],jL 21 7 3 [],jm 22 2 [],jn 23 (.call 20 [.v 21,.v 22]) [],jb 24 .lss 20 23 [],jm 6 24 []] [6] [none,none,some [],some [0],none,none,none,none]) .ret) .skip)) (.seq (jq [jm 25 1 [],jn 26 (.lenL (.v 25)) [25],jm 27 2 [],jn 28 (.lenL (.v 27)) [27],jb 29 .neq 26 28 [26,28]] [1,2,29] (.cond (.v 29) (jq [jm 30 1 [1],jn 31 (.lenL (.v 30)) [30],jm 32 2 [2],jn 33 (.lenL (.v 32)) [32],jb 34 .lss 31 33 [31,33],jm 6 34 [34]] [6] .ret) .skip)) (.seq (jq [jI 7 0 []] [1,2,7] (.block 0 (.loop Wv))) (jq [jn 6 (.mv (.c (.bool false))) []] [6] .ret)))))) }
theorem Qe5 : YM Go.Proofs.Tryd.prog 91 QaM = true := by kernel_rfl
/-- spec.l6Abs: function 92 -/
def QdH : SFun := { n := 8,res := [.t 2],body := (jq [jI 2 0 [2]] [0] (.seq (jq [jm 3 0 [],jc 4 .lss 3 0 [3]] [0,4] (.cond (.v 4) (jq [jm 5 0 [0],jn 6 (.neg (.v 5)) [5],jm 2 6 [6]] [2] .ret) .skip)) (jq [jm 7 0 [0],jm 2 7 [7]] [2] .ret))) }
theorem Qh3 : YM Go.Proofs.Tryd.prog 92 QdH = true := by kernel_rfl
/-- laws.toSkyBlock: function 93 -/
def Ww : SFun := { n := 23,res := [.cN 2 6],body := (jq [jn 1 (.box 101 (.v 0)) [0],jn 2 (.alloc 102 [.int .i64 0,.int .i64 0,.int .i64 0,.int .i64 0,.int .i64 0,.int .i64 0]) []] [1,2] (jq [jn 3 (.alloc 103 [.int .i64 0,.int .i64 0,.int .i64 0,.int .i64 0,.int .i64 0,.int .i64 0]) []] [1,2,3] (jq [jf 4 0 1 [],jl 5 4 [4],jf 6 0 3 [],⟨none,.store 1 (.v 6) (.v 5),none,[5,6]⟩] [1,2,3] (jq [jf 7 1 1 [],jl 8 7 [7],jf 9 1 3 [],⟨none,.store 1 (.v 9) (.v 8),none,[8,9]⟩] [1,2,3] (jq [jf 10 2 1 [],jl 11 10 [10],jf 12 2 3 [],⟨none,.store 1 (.v 12) (.v 11),none,[11,12]⟩] [1,2,3] (jq [jf 13 3 1 [],jl 14 13 [13],jf 15 3 3 [],⟨none,.store 1 (.v 15) (.v 14),none,[14,15]⟩] [1,2,3] (jq [jf 16 4 1 [],jl 17 16 [16],jf 18 4 3 [],⟨none,.store 1 (.v 18) (.v 17),none,[17,18]⟩] [1,2,3] (jq [jf 19 5 1 [1],jl 20 19 [19],jf 21 5 3 [],⟨none,.store 1 (.v 21) (.v 20),none,[20,21]⟩] [2,3] (jq [jL 22 6 3 [3],⟨none,.store 6 (.v 2) (.v 22),none,[22]⟩] [2] .ret))))))))) }
theorem Qdk : YM Go.Proofs.Tryd.prog 93 Ww = true := by kernel_rfl
/-- cmp.Compare[string]: function 94 -/
def UG : SFun := { n := 20,res := [.t 4],body := (jq [jI 4 0 [4]] [0,1] (jq [jm 7 0 [],jn 8 (.call 96 [.v 7]) [7],jm 5 8 [8]] [0,1,5] (jq [jm 9 1 [],jn 10 (.call 96 [.v 9]) [9],jm 6 10 [10]] [0,1,5,6] (.seq (jq [jm 11 5 [5]] [0,1,6,11] (.cond (.v 11) (.seq (jq [jm 12 6 [6]] [12] (.cond (.v 12) (jq [jI 4 0 []] [4] .ret) .skip)) (jq [jn 4 (.mv (.c (.int .i64 (-1)))) []] [4] .ret)) .skip)) (.seq (jq [jm 13 6 [6]] [0,1,13] (.cond (.v 13) (jq [jI 4 1 []] [4] .ret) .skip)) (.seq (jq [jm 14 0 [],jm 15 1 [],jb 16 .lss 14 15 [14,15]] [0,1,16] (.cond (.v 16) (jq [jn 4 (.mv (.c (.int .i64 (-1)))) []] [4] .ret) .skip)) (.seq (jq [jm 17 0 [0],jm 18 1 [1],jb 19 .gtr 17 18 [17,18]] [19] (.cond (.v 19) (jq [jI 4 1 []] [4] .ret) .skip)) (jq [jI 4 0 []] [4] .ret)))))))) }
theorem Qbf : YM Go.Proofs.Tryd.prog 94 UG = true := by kernel_rfl
/-- laws.eqSkyBlock: function 95 -/
def Wx : SFun := { n := 35,res := [.t 4],body := (jq [jn 2 (.box 102 (.v 0)) [0],jn 3 (.box 103 (.v 1)) [1],jn 4 (.mv (.c (.bool false))) [4]] [2,3] (.seq (jq [jf 5 0 2 [],jl 6 5 [5],jf 7 0 3 [],jl 8 7 [7],jb 9 .neq 6 8 [6,8]] [2,3,9] (.cond (.v 9) (jq [jn 4 (.mv (.c (.bool false))) []] [4] .ret) .skip)) (.seq (jq [jf 10 1 2 [],jl 11 10 [10],jf 12 1 3 [],jl 13 12 [12],jb 14 .neq 11 13 [11,13]] [2,3,14] (.cond (.v 14) (jq [jn 4 (.mv (.c (.bool false))) []] [4] .ret) .skip)) (.seq (jq [jf 15 2 2 [],jl 16 15 [15],jf 17 2 3 [],jl 18 17 [17],jb 19 .neq 16 18 [16,18]] [2,3,19] (.cond (.v 19) (jq [jn 4 (.mv (.c (.bool false))) []] [4] .ret) .skip)) (.seq (jq [jf 20 3 2 [],jl 21 20 [20],jf 22 3 3 [],jl 23 22 [22],jb 24 .neq 21 23 [21,23]] [2,3,24] (.cond (.v 24) (jq [jn 4 (.mv (.c (.bool false))) []] [4] .ret) .skip)) (.seq (jq [jf 25 4 2 [],jl 26 25 [25],jf 27 4 3 [],jl 28 27 [27],jb 29 .neq 26 28 [26,28]] [2,3,29] (.cond (.v 29) (jq [jn 4 (.mv (.c (.bool false))) []] [4] .ret) .skip)) (.seq (jq [jf 30 5 2 [2],jl 31 30 [30],jf 32 5 3 [3],jl 33 32 [32],jb 34 .neq 31 33 [31,33]] [34] (.cond (.v 34) (jq [jn 4 (.mv (.c (.bool false))) []] [4] .ret) .skip)) (jq [jn 4 (.mv (.c (.bool true))) []] [4] .ret)))))))) }
theorem Qdl : YM Go.Proofs.Tryd.prog 95 Wx = true := by kernel_rfl
/-- cmp.isNaN[string]: function 96 -/
def VO : SFun := { n := 6,res := [.t 2],body := (jq [jn 2 (.mv (.c (.bool false))) [2]] [0] (jq [jm 3 0 [],jm 4 0 [0],jb 5 .neq 3 4 [3,4],jm 2 5 [5]] [2] .ret)) }
theorem QcN : YM Go.Proofs.Tryd.prog 96 VO = true := by kernel_rfl
end Go.Ve

namespace Go.Ve
open Go.Proofs
set_option linter.unusedSimpArgs false
set_option linter.unusedVariables false
set_option maxRecDepth 100000
noncomputable abbrev P := Go.Proofs.Tryd.prog
theorem hm : P.follows .mixedOrders = true := by kernel_rfl
theorem Qnd (n lo hi : Int) (hp : True) : Contract P 48 [.int .i64 n, .int .i64 lo, .int .i64 hi] [] (.bool (decide (lo ≤ n ∧ n ≤ hi))) [] := by
  refine QP (Env.nil P) hm Qgq (Nat.le_of_ble_eq_true rfl) rfl ?_
  unfold Qcz
  simp only [JK, Gr, KO, KP, JL, QW, JM, JN, KQ, Gs, KR, KS, KT, KU, KV, KW, KX, KY, KZ, K1, K2, QX, QY, QZ, JO, JP, JQ, Q0, Q1, Q2, Q3, Q4, Q5, JR, JS, JT, JU, JV, Qz, Qk, KN, QT, QU, JH, QV, JI, JJ, QS, Qy, JE, JF, KK, JG, KL, KM, Q8, Q9, Qc, Qd, QE, QF, Ja, Jb, QQ, QR, Qe, Qf, GD, GE, JZ, J0, K3, JW, JX, JY, Kb, Kc, Kd, QA, QB, QD, Gt, Gu, Gv, Gw, Q6, Q7, Gy, Gx, Gz, QG, J1, K4, J2, K5, K6, K7, K8, J3, Jc, K9, Jd, Je, Jf, Jg, Jh, QH, QI, Ji, J4, Jj, J5, J6, J7, GA, GB, Ya, Jk, Yb, QJ, KJ, J8, KF, GC, Jl, Yc, J9, Yd, Ye, GF, Yf, Yg, GG, Yh, Ka, Yi, GH, Yj, Yk, GI, GJ, GK, Yl, eff, JB, QO, Ke, Ym, Kf, Kg, Kh, GL, GM, JD, JC, Jm, GN, GO, GP, Y7, pur, List.map, List.drop, List.take, List.length, List.foldl, List.append_eq, List.nil_append, List.cons_append, List.getD_cons_zero, List.getD_cons_succ, reduceIte, Nat.reduceEqDiff, Nat.reduceAdd, Nat.reduceLeDiff, true_and, and_true, Bool.not_true, Bool.not_false, Bool.and_true, Bool.true_and, Bool.and_self, reduceCtorEq, true_implies, false_implies, implies_true, decide_eq_true_eq, Option.map_some, Gm, fpX, SOp.xs, oX, refs, KE, dom, Gl, List.all_nil, List.all_cons, List.contains_cons, List.contains_nil, Nat.reduceBEq, Bool.or_false, Bool.false_or, List.append_nil, Bool.not_false, Bool.not_true, List.forall_mem_cons, fm0, List.set, Nat.reduceLT, Nat.reduceMod, ne_eq, not_false_eq_true, not_true_eq_false
, GQ, Yn, Yo, Yp, Ki, Jn, Kj, Yq, Kk, Kl, GR, GS, GT, Yr, Ys, Yt, Jo, Jp, decide_true, AV.bool.injEq, AV.int.injEq, Nat.reduceLeDiff, Bool.true_eq, Bool.false_eq, decide_eq_true_eq, decide_eq_false_iff_not]
  repeat' (first | apply And.intro | intro _)
  all_goals (first | trivial | omega | (simp_all; done) | (simp_all; omega))
def YA : List AV → Option (Prop × AV)
  | [.int .i64 n, .int .i64 lo, .int .i64 hi] => some (True, .bool (decide (lo ≤ n ∧ n ≤ hi)))
  | _ => none
theorem Zr : ∀ args p v, YA args = some (p, v) → p → Contract P 48 args [] v [] ∧ noref v = true ∧ No99 v := by
  intro args p v h1 h2
  unfold YA at h1
  split at h1
  · cases h1; exact ⟨Qnd _ _ _ h2, rfl, trivial⟩
  · cases h1
theorem QqC (n lo hi : Int) (hp : True) : Contract P 65 [.int .i64 n, .int .i64 lo, .int .i64 hi] [] (.bool (decide (lo ≤ n ∧ n ≤ hi))) [] := by
  refine QP (Env.nil P) hm QiZ (Nat.le_of_ble_eq_true rfl) rfl ?_
  unfold QeX
  simp only [JK, Gr, KO, KP, JL, QW, JM, JN, KQ, Gs, KR, KS, KT, KU, KV, KW, KX, KY, KZ, K1, K2, QX, QY, QZ, JO, JP, JQ, Q0, Q1, Q2, Q3, Q4, Q5, JR, JS, JT, JU, JV, Qz, Qk, KN, QT, QU, JH, QV, JI, JJ, QS, Qy, JE, JF, KK, JG, KL, KM, Q8, Q9, Qc, Qd, QE, QF, Ja, Jb, QQ, QR, Qe, Qf, GD, GE, JZ, J0, K3, JW, JX, JY, Kb, Kc, Kd, QA, QB, QD, Gt, Gu, Gv, Gw, Q6, Q7, Gy, Gx, Gz, QG, J1, K4, J2, K5, K6, K7, K8, J3, Jc, K9, Jd, Je, Jf, Jg, Jh, QH, QI, Ji, J4, Jj, J5, J6, J7, GA, GB, Ya, Jk, Yb, QJ, KJ, J8, KF, GC, Jl, Yc, J9, Yd, Ye, GF, Yf, Yg, GG, Yh, Ka, Yi, GH, Yj, Yk, GI, GJ, GK, Yl, eff, JB, QO, Ke, Ym, Kf, Kg, Kh, GL, GM, JD, JC, Jm, GN, GO, GP, Y7, pur, List.map, List.drop, List.take, List.length, List.foldl, List.append_eq, List.nil_append, List.cons_append, List.getD_cons_zero, List.getD_cons_succ, reduceIte, Nat.reduceEqDiff, Nat.reduceAdd, Nat.reduceLeDiff, true_and, and_true, Bool.not_true, Bool.not_false, Bool.and_true, Bool.true_and, Bool.and_self, reduceCtorEq, true_implies, false_implies, implies_true, decide_eq_true_eq, Option.map_some, Gm, fpX, SOp.xs, oX, refs, KE, dom, Gl, List.all_nil, List.all_cons, List.contains_cons, List.contains_nil, Nat.reduceBEq, Bool.or_false, Bool.false_or, List.append_nil, Bool.not_false, Bool.not_true, List.forall_mem_cons, fm0, List.set, Nat.reduceLT, Nat.reduceMod, ne_eq, not_false_eq_true, not_true_eq_false
, GQ, Yn, Yo, Yp, Ki, Jn, Kj, Yq, Kk, Kl, GR, GS, GT, Yr, Ys, Yt, Jo, Jp, decide_true, AV.bool.injEq, AV.int.injEq, Nat.reduceLeDiff, Bool.true_eq, Bool.false_eq, decide_eq_true_eq, decide_eq_false_iff_not]
  repeat' (first | apply And.intro | intro _)
  all_goals (first | trivial | omega | (simp_all; done) | (simp_all; omega))
def Y0 : List AV → Option (Prop × AV)
  | [.int .i64 n, .int .i64 lo, .int .i64 hi] => some (True, .bool (decide (lo ≤ n ∧ n ≤ hi)))
  | _ => none
theorem Vd : ∀ args p v, Y0 args = some (p, v) → p → Contract P 65 args [] v [] ∧ noref v = true ∧ No99 v := by
  intro args p v h1 h2
  unfold Y0 at h1
  split at h1
  · cases h1; exact ⟨QqC _ _ _ h2, rfl, trivial⟩
  · cases h1
theorem QqD (a b : Int) (hp : -9223372036854775808 ≤ a - b ∧ a - b ≤ 9223372036854775807 ∧ -9223372036854775808 ≤ b - a ∧ b - a ≤ 9223372036854775807) : Contract P 58 [.int .i64 a, .int .i64 b] [] (.int .i64 (max (a - b) (b - a))) [] := by
  refine QP (Env.nil P) hm QiY (Nat.le_of_ble_eq_true rfl) rfl ?_
  unfold QeW
  simp only [JK, Gr, KO, KP, JL, QW, JM, JN, KQ, Gs, KR, KS, KT, KU, KV, KW, KX, KY, KZ, K1, K2, QX, QY, QZ, JO, JP, JQ, Q0, Q1, Q2, Q3, Q4, Q5, JR, JS, JT, JU, JV, Qz, Qk, KN, QT, QU, JH, QV, JI, JJ, QS, Qy, JE, JF, KK, JG, KL, KM, Q8, Q9, Qc, Qd, QE, QF, Ja, Jb, QQ, QR, Qe, Qf, GD, GE, JZ, J0, K3, JW, JX, JY, Kb, Kc, Kd, QA, QB, QD, Gt, Gu, Gv, Gw, Q6, Q7, Gy, Gx, Gz, QG, J1, K4, J2, K5, K6, K7, K8, J3, Jc, K9, Jd, Je, Jf, Jg, Jh, QH, QI, Ji, J4, Jj, J5, J6, J7, GA, GB, Ya, Jk, Yb, QJ, KJ, J8, KF, GC, Jl, Yc, J9, Yd, Ye, GF, Yf, Yg, GG, Yh, Ka, Yi, GH, Yj, Yk, GI, GJ, GK, Yl, eff, JB, QO, Ke, Ym, Kf, Kg, Kh, GL, GM, JD, JC, Jm, GN, GO, GP, Y7, pur, List.map, List.drop, List.take, List.length, List.foldl, List.append_eq, List.nil_append, List.cons_append, List.getD_cons_zero, List.getD_cons_succ, reduceIte, Nat.reduceEqDiff, Nat.reduceAdd, Nat.reduceLeDiff, true_and, and_true, Bool.not_true, Bool.not_false, Bool.and_true, Bool.true_and, Bool.and_self, reduceCtorEq, true_implies, false_implies, implies_true, decide_eq_true_eq, Option.map_some, Gm, fpX, SOp.xs, oX, refs, KE, dom, Gl, List.all_nil, List.all_cons, List.contains_cons, List.contains_nil, Nat.reduceBEq, Bool.or_false, Bool.false_or, List.append_nil, Bool.not_false, Bool.not_true, List.forall_mem_cons, fm0, List.set, Nat.reduceLT, Nat.reduceMod, ne_eq, not_false_eq_true, not_true_eq_false
, GQ, Yn, Yo, Yp, Ki, Jn, Kj, Yq, Kk, Kl, GR, GS, GT, Yr, Ys, Yt, Jo, Jp, decide_true, AV.bool.injEq, AV.int.injEq, Nat.reduceLeDiff, Bool.true_eq, Bool.false_eq, decide_eq_true_eq, decide_eq_false_iff_not]
  repeat' (first | apply And.intro | intro _)
  all_goals (first | trivial | omega | (simp_all; done) | (simp_all; omega))
def Zf : List AV → Option (Prop × AV)
  | [.int .i64 a, .int .i64 b] => some (-9223372036854775808 ≤ a - b ∧ a - b ≤ 9223372036854775807 ∧ -9223372036854775808 ≤ b - a ∧ b - a ≤ 9223372036854775807, .int .i64 (max (a - b) (b - a)))
  | _ => none
theorem QqE : ∀ args p v, Zf args = some (p, v) → p → Contract P 58 args [] v [] ∧ noref v = true ∧ No99 v := by
  intro args p v h1 h2
  unfold Zf at h1
  split at h1
  · cases h1; exact ⟨QqD _ _ h2, rfl, trivial⟩
  · cases h1
structure Box6 where
  x : Int
  y : Int
  l : Int
  h : Int
  i : Int
  o : Int
  deriving Inhabited
def Box6.row (b : Box6) : List AV := [.int .i64 b.x, .int .i64 b.y, .int .i64 b.l, .int .i64 b.h, .int .i64 b.i, .int .i64 b.o]
def Box6.ok (b : Box6) : Prop := (0 ≤ b.x ∧ b.x ≤ 15) ∧ (0 ≤ b.y ∧ b.y ≤ 15) ∧ 0 ≤ b.l ∧ b.l ≤ b.h ∧ b.h ≤ 6 ∧ 0 ≤ b.i ∧ b.i ≤ b.o ∧ b.o ≤ 10000
instance (b : Box6) : Decidable b.ok := by unfold Box6.ok; infer_instance
structure Stp7 where
  x : Int
  y : Int
  l : Int
  h : Int
  f : Int
  b : Int
  hold : Bool
  deriving Inhabited
def Stp7.row (s : Stp7) : List AV := [.int .i64 s.x, .int .i64 s.y, .int .i64 s.l, .int .i64 s.h, .int .i64 s.f, .int .i64 s.b, .bool s.hold]
def Stp7.ok (s : Stp7) : Prop := (0 ≤ s.x ∧ s.x ≤ 15) ∧ (0 ≤ s.y ∧ s.y ≤ 15) ∧ 0 ≤ s.l ∧ s.l ≤ s.h ∧ s.h ≤ 6 ∧ 0 ≤ s.f ∧ s.f ≤ s.b ∧ s.b ≤ 10000
instance (s : Stp7) : Decidable s.ok := by unfold Stp7.ok; infer_instance
def Stp7.nb (a s : Stp7) : Prop := (-1 ≤ a.x - s.x ∧ a.x - s.x ≤ 1) ∧ (-1 ≤ a.y - s.y ∧ a.y - s.y ≤ 1) ∧ ¬ (a.x = s.x ∧ a.y = s.y) ∧ a.l ≤ s.h ∧ s.l ≤ a.h
instance (a s : Stp7) : Decidable (a.nb s) := by unfold Stp7.nb; infer_instance
end Go.Ve

namespace Go.Ve
open Go.Proofs
set_option linter.unusedSimpArgs false
set_option linter.unusedVariables false
set_option maxRecDepth 100000
theorem Qa (i : Nat) : ((i : Int) - 1).toNat = i - 1 := by omega
def Qe6 (q s : Int) (l : List Stp7) (f b : Int) : Prop :=
  (1 ≤ q ∧ q ≤ s ∧ s ≤ 50) ∧ (1 ≤ l.length ∧ l.length ≤ 40) ∧ (0 ≤ f ∧ f ≤ b ∧ b ≤ 10000) ∧ ∀ i, i < l.length → (l.getD i default).ok ∧ (0 < i → Stp7.nb (l.getD (i - 1) default) (l.getD i default))
instance (q s : Int) (l : List Stp7) (f b : Int) : Decidable (Qe6 q s l f b) := by unfold Qe6; infer_instance
end Go.Ve

namespace Go.Ve
open Go.Proofs
set_option linter.unusedSimpArgs false
set_option linter.unusedVariables false
set_option maxRecDepth 100000
end Go.Ve

namespace Go.Ve
open Go.Proofs
set_option linter.unusedSimpArgs false
set_option linter.unusedVariables false
set_option maxRecDepth 100000
structure Path5 where
  q : Int
  s : Int
  l : List Stp7
  f : Int
  b : Int
  deriving Inhabited
def Qo3 (l : List Box6) (i : Nat) : Stp7 := ⟨(l.getD i default).x, (l.getD i default).y, (l.getD i default).l, (l.getD i default).h, (l.getD i default).i, if 0 < i then min (l.getD i default).o ((l.getD (i - 1) default).o + 1) else (l.getD i default).o, false⟩
def QrC (l : List Box6) (i : Nat) : Int := if 0 < i then (l.getD (i - 1) default).i else 0
def QrD (l : List Box6) (i : Nat) : Int := if 0 < i then (l.getD (i - 1) default).o + 1 else 0
def Qro (q s : Int) (l : List Box6) (i : Nat) : Path5 := ⟨q, s, (List.range i).map (Qo3 l), QrC l i, QrD l i⟩
def QqF (q s : Int) (l : List Box6) : Prop := (∀ i, i < l.length → (l.getD i default).ok) ∧ Qe6 q s (Qro q s l l.length).l (QrC l l.length) (QrD l l.length)
instance (q s : Int) (l : List Box6) : Decidable (QqF q s l) := by unfold QqF; infer_instance
end Go.Ve

namespace Go.Ve
open Go.Proofs
set_option linter.unusedSimpArgs false
set_option linter.unusedVariables false
set_option maxRecDepth 100000
def Path5.low (p : Path5) (k : Nat) : Int := if k < p.l.length then (p.l.getD k default).f else p.f
def Path5.high (p : Path5) (k : Nat) : Int := if k < p.l.length then (p.l.getD k default).b else p.b
def Path5.most (p : Path5) (k : Nat) : Int := if (p.l.getD k default).hold then 10000 else p.s
structure Span2 where
  lo : Int
  hi : Int
  deriving Inhabited
def Span2.row (s : Span2) : List AV := [.int .i64 s.lo, .int .i64 s.hi]
/-- Ahead: the earliest and the latest, from the first step on. -/
def Path5.fwd (p : Path5) : Nat → Span2
  | 0 => ⟨p.low 0, p.high 0⟩
  | k + 1 => ⟨max (p.low (k + 1)) ((p.fwd k).lo + p.q), min (p.high (k + 1)) ((p.fwd k).hi + p.most k)⟩
/-- Back again, from the last one. -/
def Path5.bwd (p : Path5) : Nat → Span2
  | 0 => p.fwd p.l.length
  | d + 1 => ⟨max (p.fwd (p.l.length - (d + 1))).lo ((p.bwd d).lo - p.most (p.l.length - (d + 1))), min (p.fwd (p.l.length - (d + 1))).hi ((p.bwd d).hi - p.q)⟩
def Path5.span (p : Path5) (k : Nat) : Span2 := p.bwd (p.l.length - k)
def Path5.can (p : Path5) : Prop := ∀ k, k < p.l.length + 1 → (p.span k).lo ≤ (p.span k).hi
instance (p : Path5) : Decidable p.can := by unfold Path5.can; infer_instance
def Path5.spans (p : Path5) : List Span2 := if p.can then (List.range (p.l.length + 1)).map p.span else []
/-- What the passes ask of the numbers. -/
structure Path5.calm (p : Path5) : Prop where
  q : 0 ≤ p.q ∧ p.q ≤ 50
  s : 0 ≤ p.s ∧ p.s ≤ 50
  n : p.l.length ≤ 1048576
  lo : ∀ k, k ≤ p.l.length → 0 ≤ p.low k
  hi : ∀ k, k ≤ p.l.length → p.high k ≤ 10000
theorem Path5.calm.most {p : Path5} (h : p.calm) (k : Nat) : 0 ≤ p.most k ∧ p.most k ≤ 10000 := by
  unfold Path5.most
  have := h.s
  split <;> omega
end Go.Ve

namespace Go.Ve
open Go.Proofs
set_option linter.unusedSimpArgs false
set_option linter.unusedVariables false
set_option maxRecDepth 100000
def Yx (n : Int) : List AV := [.int .i64 n]
def unI : List AV → Int
  | [.int _ n] => n
  | _ => 0
theorem YG (l : List Int) : (l.map Yx).map unI = l := by
  rw [List.map_map]; exact List.map_id'' (fun s => rfl) l
/-- What the program starts from. -/
def Path5.ini (p : Path5) (bg : List Int) (k : Nat) : Span2 := if k < bg.length then ⟨max (p.low k) (bg.getD k default), min (p.high k) (bg.getD k default)⟩ else ⟨p.low k, p.high k⟩
/-- Ahead, as the program does it. -/
def Path5.wf (p : Path5) (bg : List Int) : Nat → Span2
  | 0 => p.ini bg 0
  | k + 1 => ⟨max (p.ini bg (k + 1)).lo (IntKind.i64.wrap ((p.wf bg k).lo + p.q)), if (p.l.getD k default).hold then (p.ini bg (k + 1)).hi else min (p.ini bg (k + 1)).hi (IntKind.i64.wrap ((p.wf bg k).hi + p.s))⟩
/-- Back again, as the program does it. -/
def Path5.wb (p : Path5) (bg : List Int) : Nat → Span2
  | 0 => p.wf bg p.l.length
  | d + 1 => ⟨if (p.l.getD (p.l.length - (d + 1)) default).hold then (p.wf bg (p.l.length - (d + 1))).lo else max (p.wf bg (p.l.length - (d + 1))).lo (IntKind.i64.wrap ((p.wb bg d).lo - p.s)), min (p.wf bg (p.l.length - (d + 1))).hi (IntKind.i64.wrap ((p.wb bg d).hi - p.q))⟩
def Path5.wsp (p : Path5) (bg : List Int) (j : Nat) : Span2 := p.wb bg (p.l.length - j)
def Path5.wcan (p : Path5) (bg : List Int) : Prop := ∀ k, k < p.l.length + 1 → (p.wsp bg k).lo ≤ (p.wsp bg k).hi
instance (p : Path5) (bg : List Int) : Decidable (p.wcan bg) := by unfold Path5.wcan; infer_instance
end Go.Ve

namespace Go.Ve
open Go.Proofs
set_option linter.unusedSimpArgs false
set_option linter.unusedVariables false
set_option maxRecDepth 100000
def Qne (p : Path5) (bg : List Int) (k j : Nat) : Stp7 := if j < k then { p.l.getD j default with f := max (p.l.getD j default).f (bg.getD j default), b := min (p.l.getD j default).b (bg.getD j default) } else p.l.getD j default
def Path5.held (p : Path5) (bg : List Int) : Path5 := ⟨p.q, p.s, (List.range p.l.length).map (Qne p bg bg.length), p.f, p.b⟩
end Go.Ve

namespace Go.Ve
open Go.Proofs
set_option linter.unusedSimpArgs false
set_option linter.unusedVariables false
set_option maxRecDepth 100000
def Path5.begun (p : Path5) (bg : List Int) : Prop := Qe6 p.q p.s p.l p.f p.b ∧ bg.length ≤ p.l.length ∧ (p.held bg).can
instance (p : Path5) (bg : List Int) : Decidable (p.begun bg) := by unfold Path5.begun; infer_instance
def Path5.next (p : Path5) (bg : List Int) : Span2 := if p.begun bg then (p.held bg).span bg.length else ⟨0, 0⟩
end Go.Ve

namespace Go.Ve
set_option linter.unusedSimpArgs false
set_option linter.unusedVariables false
/-! The program's passes and the reference's come to the same. -/
section
variable {p : Path5} {bg : List Int}
end
end Go.Ve

namespace Go.Ve
open Go.Proofs
set_option linter.unusedSimpArgs false
set_option linter.unusedVariables false
set_option maxRecDepth 100000
end Go.Ve

namespace Go.Ve
open Go.Proofs
set_option linter.unusedSimpArgs false
set_option linter.unusedVariables false
set_option maxRecDepth 100000
def Path5.fit (p : Path5) : Prop := Qe6 p.q p.s p.l p.f p.b ∧ p.can
instance (p : Path5) : Decidable p.fit := by unfold Path5.fit; infer_instance
end Go.Ve

namespace Go.Ve
open Go.Proofs
set_option linter.unusedSimpArgs false
set_option linter.unusedVariables false
set_option maxRecDepth 100000
end Go.Ve

namespace Go.Ve
open Go.Proofs
set_option linter.unusedSimpArgs false
set_option linter.unusedVariables false
set_option maxRecDepth 100000
theorem Qbt {α : Type} [Inhabited α] {a b : List α} (hl : a.length = b.length) (h : ∀ j, j < a.length → a.getD j default = b.getD j default) : a = b := by
  refine List.ext_getElem hl fun j h1 h2 => ?_
  have := h j h1
  simpa [h1, h2] using this
end Go.Ve

namespace Go.Ve
open Go.Proofs
set_option linter.unusedSimpArgs false
set_option linter.unusedVariables false
set_option maxRecDepth 100000
end Go.Ve

namespace Go.Ve
open Go.Proofs
set_option linter.unusedSimpArgs false
set_option linter.unusedVariables false
set_option maxRecDepth 100000
theorem QjK {α : Type} {f : α → List AV} {l : List α} : List.take l.length (List.map f l) = List.map f l := List.take_of_length_le (by simp)
def Path5.tail (p : Path5) (k : Nat) : Path5 := { p with l := p.l.drop k }
def Path5.after (p : Path5) (now : Int) : Path5 := if 1 < p.l.length then { p with l := p.l.set 1 { p.l.getD 1 default with f := max (p.l.getD 1 default).f (now + 1) } } else { p with f := max p.f (now + 1) }
end Go.Ve

namespace Go.Ve
set_option linter.unusedSimpArgs false
set_option linter.unusedVariables false
/-! The spans are those of flights. -/
section
variable {p : Path5}
end

/-! A path begun later, or at a later step. -/
/-- The first step's ticks set anew. -/
def Path5.first (p : Path5) (f b : Int) : Path5 := { p with l := p.l.set 0 { p.l.getD 0 default with f := f, b := b } }
def Path5.rest (p : Path5) (k : Nat) (f b now : Int) : Path5 := ((p.tail k).first f b).after now
section
variable {p : Path5} {k : Nat} {f b now : Int}
end
/-! Waiting ahead of the first step. -/
def Path5.wait (p : Path5) (now : Int) : Path5 := { p with l := p.l.set 0 { p.l.getD 0 default with f := max (p.l.getD 0 default).f (now + 1) } }
end Go.Ve

namespace Go.Ve
open Go.Proofs
set_option linter.unusedSimpArgs false
set_option linter.unusedVariables false
set_option maxRecDepth 100000
def Path5.restAt (p : Path5) (k e now : Int) : Path5 := p.rest k.toNat (max (p.l.getD k.toNat default).f e) (min (p.l.getD k.toNat default).b e) now
def Path5.goes (p : Path5) (k e now : Int) : Prop := Qe6 p.q p.s p.l p.f p.b ∧ (0 ≤ k ∧ k < p.l.length) ∧ (0 ≤ e ∧ e ≤ now ∧ now ≤ 10000) ∧ (p.restAt k e now).can
instance (p : Path5) (k e now : Int) : Decidable (p.goes k e now) := by unfold Path5.goes; infer_instance
end Go.Ve

namespace Go.Ve
open Go.Proofs
set_option linter.unusedSimpArgs false
set_option linter.unusedVariables false
set_option maxRecDepth 100000
end Go.Ve

namespace Go.Ve
open Go.Proofs
set_option linter.unusedSimpArgs false
set_option linter.unusedVariables false
set_option maxRecDepth 100000
/-- The aircraft can stay where it is behind now. -/
def Path5.stays (p : Path5) (bg : List Int) (now : Int) : Prop := if bg.length = 0 then Qe6 p.q p.s p.l p.f p.b ∧ (p.wait now).can else p.goes ((bg.length : Int) - 1) (bg.getD (bg.length - 1) default) now
instance (p : Path5) (bg : List Int) (now : Int) : Decidable (p.stays bg now) := by unfold Path5.stays; infer_instance
end Go.Ve

namespace Go.Ve
open Go.Proofs
set_option linter.unusedSimpArgs false
set_option linter.unusedVariables false
set_option maxRecDepth 100000
def Path5.must (p : Path5) (bg : List Int) (now : Int) : Prop := p.begun bg ∧ ((p.next bg).lo ≤ now ∧ now ≤ (p.next bg).hi) ∧ ¬ p.stays bg now
instance (p : Path5) (bg : List Int) (now : Int) : Decidable (p.must bg now) := by unfold Path5.must; infer_instance
end Go.Ve

namespace Go.Ve
open Go.Proofs
set_option linter.unusedSimpArgs false
set_option linter.unusedVariables false
set_option maxRecDepth 100000
def Qaj (a : Int) (n : Nat) : Int := if a - n < 0 then -1 else a - n
theorem Box6.eq_iff (a b : Box6) : a = b ↔ a.x = b.x ∧ a.y = b.y ∧ a.l = b.l ∧ a.h = b.h ∧ a.i = b.i ∧ a.o = b.o := ⟨fun h => by subst h; exact ⟨rfl, rfl, rfl, rfl, rfl, rfl⟩, fun h => by
  cases a; cases b; simp only at h; simp only [Box6.mk.injEq]; exact h⟩
instance : DecidableEq Box6 := fun a b => decidable_of_iff _ (Box6.eq_iff a b).symm
end Go.Ve

namespace Go.Ve
open Go.Proofs
set_option linter.unusedSimpArgs false
set_option linter.unusedVariables false
set_option maxRecDepth 100000
structure Kind2 where
  q : Int
  s : Int
  deriving Inhabited
theorem QaN (l : List Int) : GW (l.map Yx) := by
  induction l with
  | nil => trivial
  | cons x l ih => exact ⟨⟨trivial, trivial⟩, ih⟩
theorem Zs (l : List Box6) : GW (l.map Box6.row) := by
  induction l with
  | nil => trivial
  | cons x l ih => exact ⟨⟨trivial, trivial, trivial, trivial, trivial, trivial, trivial⟩, ih⟩
theorem Kind2.eq_iff (a b : Kind2) : a = b ↔ a.q = b.q ∧ a.s = b.s := ⟨fun h => by subst h; exact ⟨rfl, rfl⟩, fun h => by
  cases a; cases b; simp only at h; simp only [Kind2.mk.injEq]; exact h⟩
instance : DecidableEq Kind2 := fun a b => decidable_of_iff _ (Kind2.eq_iff a b).symm
end Go.Ve

namespace Go.Ve
noncomputable section
open Go.Proofs
set_option linter.unusedSimpArgs false
set_option linter.unusedVariables false
set_option maxRecDepth 100000
structure Zone where
  nm : ByteArray
  x0 : Int
  y0 : Int
  x1 : Int
  y1 : Int
  deriving Inhabited, DecidableEq
def Zone.row (s : Zone) : List AV := [.str s.nm, .int .i64 s.x0, .int .i64 s.y0, .int .i64 s.x1, .int .i64 s.y1]
def QlJ : List AV → Zone
  | [.str vnm, .int .i64 vx0, .int .i64 vy0, .int .i64 vx1, .int .i64 vy1] => (Zone.mk vnm vx0 vy0 vx1 vy1)
  | _ => default
theorem Qky (s : Zone) : QlJ (Zone.row s) = s := by
  cases s; simp only [Zone.row, QlJ]
theorem QK (l : List Zone) : (l.map Zone.row).map QlJ = l := by
  rw [List.map_map]; exact List.map_id'' (fun s => Qky s) l
theorem Qj (s : Zone) : (Zone.mk s.nm s.x0 s.y0 s.x1 s.y1) = s := (rfl)
structure Word where
  kd : Int
  fr : ByteArray
  dst : ByteArray
  fl : ByteArray
  nr : Int
  la : Int
  tn : Int
  tu : List Box6
  deriving Inhabited, DecidableEq
def Word.row (t : Nat) (s : Word) : List AV := [.int .i64 s.kd, .str s.fr, .str s.dst, .str s.fl, .int .i64 s.nr, .int .i64 s.la, .int .i64 s.tn, .sl t 6 (s.tu.map Box6.row)]
structure Own where
  fl : ByteArray
  st : Int
  tn : Int
  dst : ByteArray
  la : Int
  nr : Int
  tu : List Box6
  wi : Int
  nx : List Box6
  gr : List ByteArray
  sent : Bool
  deriving Inhabited, DecidableEq
def Own.row (t : Nat) (s : Own) : List AV := [.str s.fl, .int .i64 s.st, .int .i64 s.tn, .str s.dst, .int .i64 s.la, .int .i64 s.nr, .sl t 6 (s.tu.map Box6.row), .int .i64 s.wi, .sl t 6 (s.nx.map Box6.row), .sl t 1 (s.gr.map Ko), .bool s.sent]
structure Part where
  fl : ByteArray
  nr : Int
  bx : List Box6
  deriving Inhabited, DecidableEq
def Part.row (t : Nat) (s : Part) : List AV := [.str s.fl, .int .i64 s.nr, .sl t 6 (s.bx.map Box6.row)]
structure Seen where
  fl : ByteArray
  nr : Int
  deriving Inhabited, DecidableEq
def Seen.row (s : Seen) : List AV := [.str s.fl, .int .i64 s.nr]
structure Book where
  own : List Own
  parts : List Part
  seen : List Seen
  deriving Inhabited, DecidableEq
def Book.row (t : Nat) (s : Book) : List AV := [.sl t 11 (s.own.map (Own.row t)), .sl t 3 (s.parts.map (Part.row t)), .sl t 2 (s.seen.map Seen.row)]
structure Sector where
  up : Bool
  mo : List Own
  mp : List Part
  ms : List Seen
  dn : List Own
  dp : List Part
  ds : List Seen
  ot : List Word
  deriving Inhabited, DecidableEq
def Sector.row (t : Nat) (s : Sector) : List AV := [.bool s.up, .sl t 11 (s.mo.map (Own.row t)), .sl t 3 (s.mp.map (Part.row t)), .sl t 2 (s.ms.map Seen.row), .sl t 11 (s.dn.map (Own.row t)), .sl t 3 (s.dp.map (Part.row t)), .sl t 2 (s.ds.map Seen.row), .sl t 8 (s.ot.map (Word.row t))]
structure HCraft where
  nm : ByteArray
  nr : Int
  no : Int
  tu : List Box6
  deriving Inhabited, DecidableEq
def HCraft.row (t : Nat) (s : HCraft) : List AV := [.str s.nm, .int .i64 s.nr, .int .i64 s.no, .sl t 6 (s.tu.map Box6.row)]
structure World where
  zones : List Zone
  secs : List Sector
  crafts : List HCraft
  radio : List Word
  deriving Inhabited, DecidableEq
def World.row (t : Nat) (s : World) : List AV := [.sl t 5 (s.zones.map Zone.row), .sl t 8 (s.secs.map (Sector.row t)), .sl t 4 (s.crafts.map (HCraft.row t)), .sl t 8 (s.radio.map (Word.row t))]
theorem Qnf (s : ByteArray) : Contract P 49 [.str s] [] (.bool (decide (XG s))) [] := by
  refine QP (Env.nil P) hm Qgr (Nat.le_of_ble_eq_true rfl) rfl ?_; unfold QcA; simp (config := { maxSteps := 2000000 }) only [JK, Gr, KO, KP, JL, QW, JM, JN, KQ, Gs, KR, KS, KT, KU, KV, KW, KX, KY, KZ, K1, K2, QX, QY, QZ, JO, JP, JQ, Q0, Q1, Q2, Q3, Q4, Q5, JR, JS, JT, JU, Jq, Jr, Kp, Yv, GU, JV, Qz, Qk, KN, QT, QU, JH, QV, JI, JJ, QS, Qy, JE, JF, KK, JG, KL, KM, Q8, Q9, Qc, Qd, QE, QF, Ja, Jb, QQ, QR, Qe, Qf, GD, GE, JZ, J0, K3, JW, JX, JY, Kb, Kc, Kd, QA, QB, QD, Gt, Gu, Gv, Gw, Q6, Q7, Gy, Gx, Gz, QG, J1, K4, J2, K5, K6, K7, K8, J3, Jc, K9, Jd, Je, Jf, Jg, Jh, QH, QI, Ji, J4, Jj, J5, J6, J7, GA, GB, Ya, Jk, Yb, QJ, KJ, J8, KF, GC, Jl, YF, YE, YD, Gk, List.length_take, Int.toNat_zero, List.drop_zero, YC, Ks, QL, Jt, GX, Yu, Kr, Kq, Js, Yc, J9, Yd, Ye, GF, Yf, Yg, GG, Yh, Ka, Yi, GH, Yj, Yk, GI, GJ, GK, Yl, eff, JB, QO, Ke, Ym, Kf, Kg, Kh, GL, GM, JD, JC, Jm, GN, GO, GP, Y7, pur, List.map, List.drop, List.take, List.length, List.foldl, List.append_eq, List.nil_append, List.cons_append, List.getD_cons_zero, List.getD_cons_succ, reduceIte, Nat.reduceEqDiff, Nat.reduceAdd, Nat.reduceLeDiff, true_and, and_true, Bool.not_true, Bool.not_false, Bool.and_true, Bool.true_and, Bool.and_self, reduceCtorEq, true_implies, false_implies, implies_true, decide_eq_true_eq, Option.map_some, Gm, fpX, SOp.xs, oX, refs, KE, dom, Gl, List.all_nil, List.all_cons, List.contains_cons, List.contains_nil, Nat.reduceBEq, Bool.or_false, Bool.false_or, List.append_nil, Bool.not_false, Bool.not_true, List.forall_mem_cons, fm0, List.set, Nat.reduceLT, Nat.reduceMod, ne_eq, not_false_eq_true, not_true_eq_false, GQ, Yn, Yo, Yp, Ki, Jn, Kj, Yq, Kk, Kl, GR, GS, GT, Yr, Ys, Yt, Jo, Jp, decide_true, AV.bool.injEq, AV.int.injEq, Nat.reduceLeDiff, decide_eq_true_eq, decide_eq_false_iff_not, Int.toNat_natCast, List.length_map, decide_false, KH, noref, flatOk, Qb, wkM, Km, Kw, Kx, Ju, QM, Kv, Jv, Kt, Ku, Qn, QN, Classical.not_not]
  refine ⟨fun h1 => ?_, fun h1 => ⟨fun h2 => ?_, fun h2 => ?_⟩⟩
  · grind [XG]
  · grind [XG]
  · refine Yz (fun i : Nat => [(3, .int .i64 i)]) (fun _ => []) (fun i => i ≤ s.toList.length ∧ ∀ j, j < i → QeK (s.toList.getD j 0)) (fun i => s.toList.length - i) (0) (by simp only [YC, YD, YE, YF, Qc, Qd, Qe, Qf, reduceIte, Nat.reduceEqDiff]; exact ⟨by repeat' (first | exact trivial | refine ⟨.inr rfl, ?_⟩), by repeat' (first | exact trivial | refine ⟨rfl, ?_⟩), by first | rfl | simp [closedB, Qx, Qo, Qb, dom, Qm, *], by first | rfl | simp [keepB, dom]⟩) ?_ ?_
    · exact ⟨Nat.zero_le _, by intro j hj; omega⟩
    intro i hi NX hN
    unfold QaE; simp (config := { maxSteps := 2000000 }) only [JK, Gr, KO, KP, JL, QW, JM, JN, KQ, Gs, KR, KS, KT, KU, KV, KW, KX, KY, KZ, K1, K2, QX, QY, QZ, JO, JP, JQ, Q0, Q1, Q2, Q3, Q4, Q5, JR, JS, JT, JU, Jq, Jr, Kp, Yv, GU, JV, Qz, Qk, KN, QT, QU, JH, QV, JI, JJ, QS, Qy, JE, JF, KK, JG, KL, KM, Q8, Q9, Qc, Qd, QE, QF, Ja, Jb, QQ, QR, Qe, Qf, GD, GE, JZ, J0, K3, JW, JX, JY, Kb, Kc, Kd, QA, QB, QD, Gt, Gu, Gv, Gw, Q6, Q7, Gy, Gx, Gz, QG, J1, K4, J2, K5, K6, K7, K8, J3, Jc, K9, Jd, Je, Jf, Jg, Jh, QH, QI, Ji, J4, Jj, J5, J6, J7, GA, GB, Ya, Jk, Yb, QJ, KJ, J8, KF, GC, Jl, YF, YE, YD, Gk, List.length_take, Int.toNat_zero, List.drop_zero, YC, Ks, QL, Jt, GX, Yu, Kr, Kq, Js, Yc, J9, Yd, Ye, GF, Yf, Yg, GG, Yh, Ka, Yi, GH, Yj, Yk, GI, GJ, GK, Yl, eff, JB, QO, Ke, Ym, Kf, Kg, Kh, GL, GM, JD, JC, Jm, GN, GO, GP, Y7, pur, List.map, List.drop, List.take, List.length, List.foldl, List.append_eq, List.nil_append, List.cons_append, List.getD_cons_zero, List.getD_cons_succ, reduceIte, Nat.reduceEqDiff, Nat.reduceAdd, Nat.reduceLeDiff, true_and, and_true, Bool.not_true, Bool.not_false, Bool.and_true, Bool.true_and, Bool.and_self, reduceCtorEq, true_implies, false_implies, implies_true, decide_eq_true_eq, Option.map_some, Gm, fpX, SOp.xs, oX, refs, KE, dom, Gl, List.all_nil, List.all_cons, List.contains_cons, List.contains_nil, Nat.reduceBEq, Bool.or_false, Bool.false_or, List.append_nil, Bool.not_false, Bool.not_true, List.forall_mem_cons, fm0, List.set, Nat.reduceLT, Nat.reduceMod, ne_eq, not_false_eq_true, not_true_eq_false, GQ, Yn, Yo, Yp, Ki, Jn, Kj, Yq, Kk, Kl, GR, GS, GT, Yr, Ys, Yt, Jo, Jp, decide_true, AV.bool.injEq, AV.int.injEq, Nat.reduceLeDiff, decide_eq_true_eq, decide_eq_false_iff_not, Int.toNat_natCast, List.length_map, decide_false, KH, noref, flatOk, Qb, wkM, Km, Kw, Kx, Ju, QM, Kv, Jv, Kt, Ku, Qn, QN, Classical.not_not]
    repeat' (first | apply And.intro | intro _)
    all_goals first
      | omega
      | (refine hN (i + 1) _ (by simp only [YC, YD, YE, YF, Qc, Qd, Qe, Qf, reduceIte, Nat.reduceEqDiff]; exact ⟨by repeat' (first | exact trivial | refine ⟨.inr rfl, ?_⟩), by repeat' (first | exact trivial | refine ⟨rfl, ?_⟩), by first | rfl | simp [closedB, Qx, Qo, Qb, dom, Qm, *], by first | rfl | simp [keepB, dom]⟩) ?_ ?_
         · exact ⟨by omega, Gf hi.2 (by grind [QeK])⟩
         · omega)
      | grind [XG, QeK]
end
end Go.Ve

namespace Go.Ve
noncomputable section
open Go.Proofs
set_option linter.unusedSimpArgs false
set_option linter.unusedVariables false
set_option maxRecDepth 100000
theorem Qr {α : Type} {f : α → List AV} {l : List α} {n : Nat} : List.take n (List.map f l) = List.map f (List.take n l) := (List.map_take).symm
theorem Qt {α : Type} {f : α → List AV} {l : List α} {n : Nat} : List.drop n (List.map f l) = List.map f (List.drop n l) := (List.map_drop).symm
def YN : List AV → Option (Prop × AV)
  | [.str s] => some ((True) ∧ (True), .bool (decide (XG s)))
  | _ => none
theorem VP : ∀ args p v, YN args = some (p, v) → p → Contract P 49 args [] v [] ∧ noref v = true ∧ No99 v := by
  intro args p v h1 h2
  unfold YN at h1
  split at h1
  · rename_i s
    cases h1
    obtain ⟨_, HP⟩ := h2
    have := Qnf s
    exact ⟨this, rfl, trivial⟩
  · cases h1
def Zone.ok (z : Zone) : Prop := XG z.nm ∧ (0 ≤ z.x0 ∧ z.x0 ≤ z.x1 ∧ z.x1 < 16) ∧ (0 ≤ z.y0 ∧ z.y0 ≤ z.y1 ∧ z.y1 < 16)
def Zone.meet (o z : Zone) : Prop := o.x0 ≤ z.x1 ∧ z.x0 ≤ o.x1 ∧ o.y0 ≤ z.y1 ∧ z.y0 ≤ o.y1
def QqG (zs : List Zone) (i : Nat) : Prop := (zs.getD i default).ok ∧ (0 < i → slt (zs.getD (i - 1) default).nm (zs.getD i default).nm) ∧ ∀ k, k < i → ¬ (zs.getD k default).meet (zs.getD i default)
def Qo4 (zs : List Zone) : Prop := (1 ≤ zs.length ∧ zs.length ≤ 4) ∧ ∀ i, i < zs.length → QqG zs i
noncomputable instance (zs : List Zone) : Decidable (Qo4 zs) := Classical.propDecidable _
end
end Go.Ve

namespace Go.Ve
noncomputable section
open Go.Proofs
set_option linter.unusedSimpArgs false
set_option linter.unusedVariables false
set_option maxRecDepth 100000
structure Pt where
  nm : ByteArray
  x : Int
  y : Int
  deriving Inhabited, DecidableEq
def Pt.row (s : Pt) : List AV := [.str s.nm, .int .i64 s.x, .int .i64 s.y]
def Y1 : List AV → Pt
  | [.str vnm, .int .i64 vx, .int .i64 vy] => (Pt.mk vnm vx vy)
  | _ => default
theorem Qng (s : Pt) : Y1 (Pt.row s) = s := by
  cases s; simp only [Pt.row, Y1]
theorem Jw (l : List Pt) : (l.map Pt.row).map Y1 = l := by
  rw [List.map_map]; exact List.map_id'' (fun s => Qng s) l
theorem Qs (s : Pt) : (Pt.mk s.nm s.x s.y) = s := (rfl)
theorem QqH (s : Pt) : (Pt.row s).length = 3 := (rfl)
theorem Qrp (s : Pt) : YT (Pt.row s) = true := (rfl)
theorem X4 (l : List Pt) : GW (l.map Pt.row) := by
  induction l with
  | nil => simp [GW]
  | cons x l ih => simp only [List.map_cons, GW]; exact ⟨by simp [Pt.row, Xl, No99], ih⟩
theorem Qo5 (s : Pt) : List.take 3 (Pt.row s) = Pt.row s := (rfl)
structure Aw where
  nm : ByteArray
  pts : List ByteArray
  deriving Inhabited, DecidableEq
def Aw.row (t : Nat) (s : Aw) : List AV := [.str s.nm, .sl t 1 (s.pts.map Ko)]
def Y4 : List AV → Aw
  | [.str vnm, .sl _ 1 vpts] => (Aw.mk vnm (vpts.map unS))
  | _ => default
theorem Qnh (t : Nat) (s : Aw) : Y4 (Aw.row t s) = s := by
  cases s; simp only [Aw.row, Y4, Yy]
theorem Jx (t : Nat) (l : List Aw) : (l.map (Aw.row t)).map Y4 = l := by
  rw [List.map_map]; exact List.map_id'' (fun s => Qnh t s) l
theorem Qv (s : Aw) : (Aw.mk s.nm s.pts) = s := (rfl)
theorem Zt (l : List Aw) : GW (l.map (Aw.row 0)) := by
  induction l with
  | nil => simp [GW]
  | cons x l ih => simp only [List.map_cons, GW]; exact ⟨by simp [Aw.row, Xl, No99, G3], ih⟩
structure Blk where
  x0 : Int
  y0 : Int
  x1 : Int
  y1 : Int
  lo : Int
  hi : Int
  deriving Inhabited, DecidableEq
def Blk.row (s : Blk) : List AV := [.int .i64 s.x0, .int .i64 s.y0, .int .i64 s.x1, .int .i64 s.y1, .int .i64 s.lo, .int .i64 s.hi]
def XV : List AV → Blk
  | [.int .i64 vx0, .int .i64 vy0, .int .i64 vx1, .int .i64 vy1, .int .i64 vlo, .int .i64 vhi] => (Blk.mk vx0 vy0 vx1 vy1 vlo vhi)
  | _ => default
theorem QlK (s : Blk) : XV (Blk.row s) = s := by
  cases s; simp only [Blk.row, XV]
theorem Qp (l : List Blk) : (l.map Blk.row).map XV = l := by
  rw [List.map_map]; exact List.map_id'' (fun s => QlK s) l
theorem Qg (s : Blk) : (Blk.mk s.x0 s.y0 s.x1 s.y1 s.lo s.hi) = s := (rfl)
theorem Xr (l : List Blk) : GW (l.map Blk.row) := by
  induction l with
  | nil => simp [GW]
  | cons x l ih => simp only [List.map_cons, GW]; exact ⟨by simp [Blk.row, Xl, No99], ih⟩
structure Sec where
  nm : ByteArray
  bl : List Blk
  deriving Inhabited, DecidableEq
def Sec.row (t : Nat) (s : Sec) : List AV := [.str s.nm, .sl t 6 (s.bl.map Blk.row)]
def KC : List AV → Sec
  | [.str vnm, .sl _ 6 vbl] => (Sec.mk vnm (vbl.map XV))
  | _ => default
theorem QlL (t : Nat) (s : Sec) : KC (Sec.row t s) = s := by
  cases s; simp only [Sec.row, KC, Qp]
theorem Qu (t : Nat) (l : List Sec) : (l.map (Sec.row t)).map KC = l := by
  rw [List.map_map]; exact List.map_id'' (fun s => QlL t s) l
theorem Qh (s : Sec) : (Sec.mk s.nm s.bl) = s := (rfl)
theorem XI (l : List Sec) : GW (l.map (Sec.row 0)) := by
  induction l with
  | nil => simp [GW]
  | cons x l ih => simp only [List.map_cons, GW]; exact ⟨by simp [Sec.row, Xl, No99, Xr], ih⟩
structure Rw where
  nm : ByteArray
  x : Int
  y : Int
  tn : Int
  deriving Inhabited, DecidableEq
def Rw.row (s : Rw) : List AV := [.str s.nm, .int .i64 s.x, .int .i64 s.y, .int .i64 s.tn]
def Y2 : List AV → Rw
  | [.str vnm, .int .i64 vx, .int .i64 vy, .int .i64 vtn] => (Rw.mk vnm vx vy vtn)
  | _ => default
theorem Qni (s : Rw) : Y2 (Rw.row s) = s := by
  cases s; simp only [Rw.row, Y2]
theorem Jy (l : List Rw) : (l.map Rw.row).map Y2 = l := by
  rw [List.map_map]; exact List.map_id'' (fun s => Qni s) l
theorem Qw (s : Rw) : (Rw.mk s.nm s.x s.y s.tn) = s := (rfl)
theorem X5 (l : List Rw) : GW (l.map Rw.row) := by
  induction l with
  | nil => simp [GW]
  | cons x l ih => simp only [List.map_cons, GW]; exact ⟨by simp [Rw.row, Xl, No99], ih⟩
structure Sky where
  w : Int
  h : Int
  lv : Int
  pts : List Pt
  aws : List Aw
  secs : List Sec
  rws : List Rw
  deriving Inhabited, DecidableEq
def Sky.row (t : Nat) (s : Sky) : List AV := [.int .i64 s.w, .int .i64 s.h, .int .i64 s.lv, .sl t 3 (s.pts.map Pt.row), .sl t 2 (s.aws.map (Aw.row t)), .sl t 2 (s.secs.map (Sec.row t)), .sl t 4 (s.rws.map Rw.row)]
def Qo6 : List AV → Sky
  | [.int .i64 vw, .int .i64 vh, .int .i64 vlv, .sl _ 3 vpts, .sl _ 2 vaws, .sl _ 2 vsecs, .sl _ 4 vrws] => (Sky.mk vw vh vlv (vpts.map Y1) (vaws.map Y4) (vsecs.map KC) (vrws.map Y2))
  | _ => default
theorem QlM (t : Nat) (s : Sky) : Qo6 (Sky.row t s) = s := by
  cases s; simp only [Sky.row, Qo6, Jw, Jx, Qu, Jy]
theorem YK (t : Nat) (l : List Sky) : (l.map (Sky.row t)).map Qo6 = l := by
  rw [List.map_map]; exact List.map_id'' (fun s => QlM t s) l
theorem Qi (s : Sky) : (Sky.mk s.w s.h s.lv s.pts s.aws s.secs s.rws) = s := (rfl)
theorem Zu (l : List Sky) : GW (l.map (Sky.row 0)) := by
  induction l with
  | nil => simp [GW]
  | cons x l ih => simp only [List.map_cons, GW]; exact ⟨by simp [Sky.row, Xl, No99, X4, Zt, XI, X5], ih⟩
def X6 (w h x y : Int) : Prop := (0 ≤ x ∧ x ≤ w - 1) ∧ (0 ≤ y ∧ y ≤ h - 1)
instance (w h x y : Int) : Decidable (X6 w h x y) := by unfold X6; infer_instance
def Qo7 (w h : Int) (l : List Pt) (i : Nat) : Prop := XG (l.getD i default).nm ∧ (0 < i → slt (l.getD (i - 1) default).nm (l.getD i default).nm) ∧ X6 w h (l.getD i default).x (l.getD i default).y ∧
  ∀ k, k < i → ¬ ((l.getD k default).x = (l.getD i default).x ∧ (l.getD k default).y = (l.getD i default).y)
def QlN (w h : Int) (l : List Pt) : Prop := l.length ≤ 16 ∧ ∀ i, i < l.length → Qo7 w h l i
noncomputable instance (w h : Int) (l : List Pt) : Decidable (QlN w h l) := Classical.propDecidable _
def Xm (l : List Pt) (s : ByteArray) : Int := Qkv (fun p => decide (p.nm = s)) l
def Qrq (ps : List Pt) (l : List ByteArray) (k : Nat) : Prop := 0 ≤ Xm ps (l.getD k default) ∧ ∀ j, j < k → l.getD j default ≠ l.getD k default
def Qo8 (ps : List Pt) (l : List Aw) (i : Nat) : Prop := XG (l.getD i default).nm ∧ (0 < i → slt (l.getD (i - 1) default).nm (l.getD i default).nm) ∧ (2 ≤ (l.getD i default).pts.length ∧ (l.getD i default).pts.length ≤ 8) ∧ ∀ k, k < (l.getD i default).pts.length → Qrq ps (l.getD i default).pts k
def QlO (ps : List Pt) (l : List Aw) : Prop := l.length ≤ 8 ∧ ∀ i, i < l.length → Qo8 ps l i
noncomputable instance (ps : List Pt) (l : List Aw) : Decidable (QlO ps l) := Classical.propDecidable _
def Blk.ok (w h lv : Int) (b : Blk) : Prop := (0 ≤ b.x0 ∧ b.x0 ≤ b.x1 ∧ b.x1 < w) ∧ (0 ≤ b.y0 ∧ b.y0 ≤ b.y1 ∧ b.y1 < h) ∧ (1 ≤ b.lo ∧ b.lo ≤ b.hi ∧ b.hi ≤ lv)
instance (w h lv : Int) (b : Blk) : Decidable (b.ok w h lv) := by unfold Blk.ok; infer_instance
def Blk.meet (a b : Blk) : Prop := (a.x0 ≤ b.x1 ∧ b.x0 ≤ a.x1) ∧ (a.y0 ≤ b.y1 ∧ b.y0 ≤ a.y1) ∧ (a.lo ≤ b.hi ∧ b.lo ≤ a.hi)
instance (a b : Blk) : Decidable (a.meet b) := by unfold Blk.meet; infer_instance
def Blk.less (a b : Blk) : Prop := (a.x0 ≠ b.x0 → a.x0 < b.x0) ∧ (a.x0 = b.x0 → (a.y0 ≠ b.y0 → a.y0 < b.y0) ∧ (a.y0 = b.y0 → a.lo < b.lo))
instance (a b : Blk) : Decidable (a.less b) := by unfold Blk.less; infer_instance
def Blk.vol (b : Blk) : Int := (b.x1 - b.x0 + 1) * (b.y1 - b.y0 + 1) * (b.hi - b.lo + 1)
def QdV (w h lv : Int) (l : List Blk) (k : Nat) : Prop := (l.getD k default).ok w h lv ∧ (0 < k → (l.getD (k - 1) default).less (l.getD k default))
def Qh4 (w h lv : Int) (l : List Sec) (i : Nat) : Prop := XG (l.getD i default).nm ∧ (0 < i → slt (l.getD (i - 1) default).nm (l.getD i default).nm) ∧ (1 ≤ (l.getD i default).bl.length ∧ (l.getD i default).bl.length ≤ 4) ∧ ∀ k, k < (l.getD i default).bl.length → QdV w h lv (l.getD i default).bl k
def Qbu (w h lv : Int) (l : List Sec) : Prop := l.length ≤ 6 ∧ ∀ i, i < l.length → Qh4 w h lv l i
noncomputable instance (w h lv : Int) (l : List Sec) : Decidable (Qbu w h lv l) := Classical.propDecidable _
def Y9 (l : List Sec) : List Blk := l.flatMap (·.bl)
def QjL (l : List Blk) : Int := (l.map Blk.vol).sum
def Qgu (l : List Blk) (i : Nat) : Prop := ∀ k, k < i → ¬ (l.getD k default).meet (l.getD i default)
def QjM (w h lv : Int) (l : List Sec) : Prop := (∀ i, i < (Y9 l).length → Qgu (Y9 l) i) ∧ QjL (Y9 l) = w * h * lv
noncomputable instance (w h lv : Int) (l : List Sec) : Decidable (QjM w h lv l) := Classical.propDecidable _
def dX (t : Int) : Int := if t = 2 ∨ t = 3 ∨ t = 4 then 1 else if t = 6 ∨ t = 7 ∨ t = 8 then -1 else 0
def dY (t : Int) : Int := if t = 1 ∨ t = 2 ∨ t = 8 then 1 else if t = 4 ∨ t = 5 ∨ t = 6 then -1 else 0
def Rw.ok (w h : Int) (r : Rw) : Prop := (1 ≤ r.tn ∧ r.tn ≤ 8) ∧ X6 w h r.x r.y ∧ X6 w h (r.x - dX r.tn) (r.y - dY r.tn)
instance (w h : Int) (r : Rw) : Decidable (r.ok w h) := by unfold Rw.ok; infer_instance
def Qo9 (w h : Int) (l : List Rw) (i : Nat) : Prop := XG (l.getD i default).nm ∧ (0 < i → slt (l.getD (i - 1) default).nm (l.getD i default).nm) ∧ (l.getD i default).ok w h ∧ ∀ k, k < i → ¬ ((l.getD k default).x = (l.getD i default).x ∧ (l.getD k default).y = (l.getD i default).y)
def QlP (w h : Int) (l : List Rw) : Prop := l.length ≤ 4 ∧ ∀ i, i < l.length → Qo9 w h l i
noncomputable instance (w h : Int) (l : List Rw) : Decidable (QlP w h l) := Classical.propDecidable _
def Uj (w h lv : Int) : Prop := (1 ≤ w ∧ w ≤ 16) ∧ (1 ≤ h ∧ h ≤ 16) ∧ (1 ≤ lv ∧ lv ≤ 6)
instance (w h lv : Int) : Decidable (Uj w h lv) := by unfold Uj; infer_instance
def Sky.valid (s : Sky) : Prop := Uj s.w s.h s.lv ∧ QlN s.w s.h s.pts ∧ QlO s.pts s.aws ∧ Qbu s.w s.h s.lv s.secs ∧ QjM s.w s.h s.lv s.secs ∧ QlP s.w s.h s.rws
noncomputable instance (s : Sky) : Decidable s.valid := Classical.propDecidable _
/-- Lists that are not too long for a machine. -/
def Aw.small (a : Aw) : Prop := a.pts.length ≤ 1048576
def Sec.small (a : Sec) : Prop := a.bl.length ≤ 1048576
def Sky.small (s : Sky) : Prop := s.pts.length ≤ 1048576 ∧ (s.aws.length ≤ 1048576 ∧ ∀ y ∈ s.aws, y.small) ∧ (s.secs.length ≤ 1048576 ∧ ∀ y ∈ s.secs, y.small) ∧ s.rws.length ≤ 1048576
theorem Sky.small_aw {s : Sky} (h : s.small) {i : Nat} (hi : i < s.aws.length) : (s.aws.getD i default).pts.length ≤ 1048576 := h.2.1.2 _ (by simp [hi])
theorem Sky.small_sec {s : Sky} (h : s.small) {i : Nat} (hi : i < s.secs.length) : (s.secs.getD i default).bl.length ≤ 1048576 := h.2.2.1.2 _ (by simp [hi])
theorem QqI (t : Int) : -1 ≤ dX t ∧ dX t ≤ 1 := by unfold dX; split <;> (try split) <;> omega
theorem QqJ (t : Int) : -1 ≤ dY t ∧ dY t ≤ 1 := by unfold dY; split <;> (try split) <;> omega
theorem Qnj (s : ByteArray) (hp : True) : Contract P 82 [.str s] [] (.bool (decide (XG s))) [] := by
  refine QP ((Env.nil P).add 65 Y0 Vd) hm Qe0 (Nat.le_of_ble_eq_true rfl) rfl ?_; unfold QaH; simp (config := { maxSteps := 2000000 }) only [JK, Gr, KO, KP, JL, QW, JM, JN, KQ, Gs, KR, KS, KT, KU, KV, KW, KX, KY, KZ, K1, K2, QX, QY, QZ, JO, JP, JQ, Q0, Q1, Q2, Q3, Q4, Q5, JR, JS, JT, JU, Jq, Jr, Kp, Yv, GU, JV, Qz, Qk, KN, QT, QU, JH, QV, JI, JJ, QS, Qy, JE, JF, KK, JG, KL, KM, Q8, Q9, Qc, Qd, QE, QF, Ja, Jb, QQ, QR, Qe, Qf, GD, GE, JZ, J0, K3, JW, JX, JY, Kb, Kc, Kd, QA, QB, QD, Gt, Gu, Gv, Gw, Q6, Q7, Gy, Gx, Gz, QG, J1, K4, J2, K5, K6, K7, K8, J3, Jc, K9, Jd, Je, Jf, Jg, Jh, QH, QI, Ji, J4, Jj, J5, J6, J7, GA, GB, Ya, Jk, Yb, QJ, KJ, J8, KF, GC, Jl, YF, YE, YD, Gk, List.length_take, Int.toNat_zero, List.drop_zero, YC, Ks, QL, Jt, GX, Yu, Kr, Kq, Js, Yc, J9, Yd, Ye, GF, Yf, Yg, GG, Yh, Ka, Yi, GH, Yj, Yk, GI, GJ, GK, Yl, eff, JB, QO, Ke, Ym, Kf, Kg, Kh, GL, GM, JD, JC, Jm, GN, GO, GP, Y7, pur, List.map, List.drop, List.take, List.length, List.foldl, List.append_eq, List.nil_append, List.cons_append, List.getD_cons_zero, List.getD_cons_succ, reduceIte, Nat.reduceEqDiff, Nat.reduceAdd, Nat.reduceLeDiff, true_and, and_true, Bool.not_true, Bool.not_false, Bool.and_true, Bool.true_and, Bool.and_self, reduceCtorEq, true_implies, false_implies, implies_true, decide_eq_true_eq, Option.map_some, Gm, fpX, SOp.xs, oX, refs, KE, dom, Gl, List.all_nil, List.all_cons, List.contains_cons, List.contains_nil, Nat.reduceBEq, Bool.or_false, Bool.false_or, List.append_nil, Bool.not_false, Bool.not_true, List.forall_mem_cons, fm0, List.set, Nat.reduceLT, Nat.reduceMod, ne_eq, not_false_eq_true, not_true_eq_false, GQ, Yn, Yo, Yp, Ki, Jn, Kj, Yq, Kk, Kl, GR, GS, GT, Yr, Ys, Yt, Jo, Jp, decide_true, AV.bool.injEq, AV.int.injEq, Nat.reduceLeDiff, decide_eq_true_eq, decide_eq_false_iff_not, Int.toNat_natCast, List.length_map, decide_false, KH, noref, flatOk, Qb, wkM, Km, Kw, Kx, Ju, QM, Kv, Jv, Kt, Ku, Qn, QN, Classical.not_not, Y0]
  refine ⟨fun h1 => ?_, fun h1 => ?_⟩
  · refine Yz (fun i : Nat => [(3, .int .i64 i)]) (fun _ => []) (fun i => i ≤ s.toList.length ∧ ∀ j, j < i → QeK (s.toList.getD j 0)) (fun i => s.toList.length - i) (0) (by simp only [YC, YD, YE, YF, Qc, Qd, Qe, Qf, reduceIte, Nat.reduceEqDiff]; exact ⟨by repeat' (first | exact trivial | refine ⟨.inr rfl, ?_⟩), by repeat' (first | exact trivial | refine ⟨rfl, ?_⟩), by first | rfl | simp [closedB, Qx, Qo, Qb, dom, Qm, *], by first | rfl | simp [keepB, dom]⟩) ?_ ?_
    · exact ⟨Nat.zero_le _, by intro j hj; omega⟩
    intro i hi NX hN
    unfold Wt; simp (config := { maxSteps := 2000000 }) only [JK, Gr, KO, KP, JL, QW, JM, JN, KQ, Gs, KR, KS, KT, KU, KV, KW, KX, KY, KZ, K1, K2, QX, QY, QZ, JO, JP, JQ, Q0, Q1, Q2, Q3, Q4, Q5, JR, JS, JT, JU, Jq, Jr, Kp, Yv, GU, JV, Qz, Qk, KN, QT, QU, JH, QV, JI, JJ, QS, Qy, JE, JF, KK, JG, KL, KM, Q8, Q9, Qc, Qd, QE, QF, Ja, Jb, QQ, QR, Qe, Qf, GD, GE, JZ, J0, K3, JW, JX, JY, Kb, Kc, Kd, QA, QB, QD, Gt, Gu, Gv, Gw, Q6, Q7, Gy, Gx, Gz, QG, J1, K4, J2, K5, K6, K7, K8, J3, Jc, K9, Jd, Je, Jf, Jg, Jh, QH, QI, Ji, J4, Jj, J5, J6, J7, GA, GB, Ya, Jk, Yb, QJ, KJ, J8, KF, GC, Jl, YF, YE, YD, Gk, List.length_take, Int.toNat_zero, List.drop_zero, YC, Ks, QL, Jt, GX, Yu, Kr, Kq, Js, Yc, J9, Yd, Ye, GF, Yf, Yg, GG, Yh, Ka, Yi, GH, Yj, Yk, GI, GJ, GK, Yl, eff, JB, QO, Ke, Ym, Kf, Kg, Kh, GL, GM, JD, JC, Jm, GN, GO, GP, Y7, pur, List.map, List.drop, List.take, List.length, List.foldl, List.append_eq, List.nil_append, List.cons_append, List.getD_cons_zero, List.getD_cons_succ, reduceIte, Nat.reduceEqDiff, Nat.reduceAdd, Nat.reduceLeDiff, true_and, and_true, Bool.not_true, Bool.not_false, Bool.and_true, Bool.true_and, Bool.and_self, reduceCtorEq, true_implies, false_implies, implies_true, decide_eq_true_eq, Option.map_some, Gm, fpX, SOp.xs, oX, refs, KE, dom, Gl, List.all_nil, List.all_cons, List.contains_cons, List.contains_nil, Nat.reduceBEq, Bool.or_false, Bool.false_or, List.append_nil, Bool.not_false, Bool.not_true, List.forall_mem_cons, fm0, List.set, Nat.reduceLT, Nat.reduceMod, ne_eq, not_false_eq_true, not_true_eq_false, GQ, Yn, Yo, Yp, Ki, Jn, Kj, Yq, Kk, Kl, GR, GS, GT, Yr, Ys, Yt, Jo, Jp, decide_true, AV.bool.injEq, AV.int.injEq, Nat.reduceLeDiff, decide_eq_true_eq, decide_eq_false_iff_not, Int.toNat_natCast, List.length_map, decide_false, KH, noref, flatOk, Qb, wkM, Km, Kw, Kx, Ju, QM, Kv, Jv, Kt, Ku, Qn, QN, Classical.not_not]
    repeat' (first | with_reducible apply And.intro | with_reducible intro _)
    all_goals first
      | exact trivial
      | omega
      | (refine hN (i + 1) _ (by simp only [YC, YD, YE, YF, Qc, Qd, Qe, Qf, reduceIte, Nat.reduceEqDiff]; exact ⟨by repeat' (first | exact trivial | refine ⟨.inr rfl, ?_⟩), by repeat' (first | exact trivial | refine ⟨rfl, ?_⟩), by first | rfl | simp [closedB, Qx, Qo, Qb, dom, Qm, *], by first | rfl | simp [keepB, dom]⟩) ?_ ?_
         · exact ⟨by omega, Gf hi.2 (by grind [XG, QeK])⟩
         · omega)
      | grind [XG, QeK]
  · grind [XG]
def KI : List AV → Option (Prop × AV)
  | [.str s] => some ((True) ∧ (True), .bool (decide (XG s)))
  | _ => none
theorem X9 : ∀ args p v, KI args = some (p, v) → p → Contract P 82 args [] v [] ∧ noref v = true ∧ No99 v := by
  intro args p v h1 h2
  unfold KI at h1
  split at h1
  · rename_i s
    cases h1
    obtain ⟨_, HP⟩ := h2
    have := Qnj s HP
    exact ⟨this, rfl, trivial⟩
  · cases h1
theorem QlQ (t : Nat) (ps : List Pt) (s : ByteArray) (hl : ps.length ≤ 4611686018427387904) : Contract P 71 [.sl t 3 (ps.map Pt.row), .str s] [] (.int .i64 (Xm ps s)) [] := by
  refine QP (Env.nil P) hm Qfx (Nat.le_of_ble_eq_true rfl) rfl ?_; unfold Qbq; simp (config := { maxSteps := 2000000 }) only [JK, Gr, KO, KP, JL, QW, JM, JN, KQ, Gs, KR, KS, KT, KU, KV, KW, KX, KY, KZ, K1, K2, QX, QY, QZ, JO, JP, JQ, Q0, Q1, Q2, Q3, Q4, Q5, JR, JS, JT, JU, Jq, Jr, Kp, Yv, GU, JV, Qz, Qk, KN, QT, QU, JH, QV, JI, JJ, QS, Qy, JE, JF, KK, JG, KL, KM, Q8, Q9, Qc, Qd, QE, QF, Ja, Jb, QQ, QR, Qe, Qf, GD, GE, JZ, J0, K3, JW, JX, JY, Kb, Kc, Kd, QA, QB, QD, Gt, Gu, Gv, Gw, Q6, Q7, Gy, Gx, Gz, QG, J1, K4, J2, K5, K6, K7, K8, J3, Jc, K9, Jd, Je, Jf, Jg, Jh, QH, QI, Ji, J4, Jj, J5, J6, J7, GA, GB, Ya, Jk, Yb, QJ, KJ, J8, KF, GC, Jl, YF, YE, YD, Gk, List.length_take, Int.toNat_zero, List.drop_zero, YC, Ks, QL, Jt, GX, Yu, Kr, Kq, Js, Yc, J9, Yd, Ye, GF, Yf, Yg, GG, Yh, Ka, Yi, GH, Yj, Yk, GI, GJ, GK, Yl, eff, JB, QO, Ke, Ym, Kf, Kg, Kh, GL, GM, JD, JC, Jm, GN, GO, GP, Y7, pur, List.map, List.drop, List.take, List.length, List.foldl, List.append_eq, List.nil_append, List.cons_append, List.getD_cons_zero, List.getD_cons_succ, reduceIte, Nat.reduceEqDiff, Nat.reduceAdd, Nat.reduceLeDiff, true_and, and_true, Bool.not_true, Bool.not_false, Bool.and_true, Bool.true_and, Bool.and_self, reduceCtorEq, true_implies, false_implies, implies_true, decide_eq_true_eq, Option.map_some, Gm, fpX, SOp.xs, oX, refs, KE, dom, Gl, List.all_nil, List.all_cons, List.contains_cons, List.contains_nil, Nat.reduceBEq, Bool.or_false, Bool.false_or, List.append_nil, Bool.not_false, Bool.not_true, List.forall_mem_cons, fm0, List.set, Nat.reduceLT, Nat.reduceMod, ne_eq, not_false_eq_true, not_true_eq_false, GQ, Yn, Yo, Yp, Ki, Jn, Kj, Yq, Kk, Kl, GR, GS, GT, Yr, Ys, Yt, Jo, Jp, decide_true, AV.bool.injEq, AV.int.injEq, Nat.reduceLeDiff, decide_eq_true_eq, decide_eq_false_iff_not, Int.toNat_natCast, List.length_map, decide_false, KH, noref, flatOk, Qb, wkM, Km, Kw, Kx, Ju, QM, Kv, Jv, Kt, Ku, Qn, QN, Classical.not_not, Qr, Qt, Qa, Yw, Ql, List.take_length, List.length_cons, List.length_nil, Nat.zero_add, Ko, Yx, Yy, YG, Zone.row, Qj, QK, Pt.row, Qs, Jw, Aw.row, Qv, Jx, Blk.row, Qg, Qp, Sec.row, Qh, Qu, Rw.row, Qw, Jy, Qi]
  refine Yz (fun i : Nat => [(5, .int .i64 i)]) (fun _ => []) (fun i => i ≤ ps.length ∧ ∀ j, j < i → decide ((ps.getD j default).nm = s) = false) (fun i => ps.length - i) (0) (by simp only [YC, YD, YE, YF, Qc, Qd, Qe, Qf, reduceIte, Nat.reduceEqDiff]; exact ⟨by repeat' (first | exact trivial | refine ⟨.inr rfl, ?_⟩), by repeat' (first | exact trivial | refine ⟨rfl, ?_⟩), by first | rfl | simp [closedB, Qx, Qo, Qb, dom, Qm, *], by first | rfl | simp [keepB, dom]⟩) ?_ ?_
  · exact ⟨Nat.zero_le _, by intro j hj; omega⟩
  intro i hi NX hN
  unfold W5; simp (config := { maxSteps := 2000000 }) only [JK, Gr, KO, KP, JL, QW, JM, JN, KQ, Gs, KR, KS, KT, KU, KV, KW, KX, KY, KZ, K1, K2, QX, QY, QZ, JO, JP, JQ, Q0, Q1, Q2, Q3, Q4, Q5, JR, JS, JT, JU, Jq, Jr, Kp, Yv, GU, JV, Qz, Qk, KN, QT, QU, JH, QV, JI, JJ, QS, Qy, JE, JF, KK, JG, KL, KM, Q8, Q9, Qc, Qd, QE, QF, Ja, Jb, QQ, QR, Qe, Qf, GD, GE, JZ, J0, K3, JW, JX, JY, Kb, Kc, Kd, QA, QB, QD, Gt, Gu, Gv, Gw, Q6, Q7, Gy, Gx, Gz, QG, J1, K4, J2, K5, K6, K7, K8, J3, Jc, K9, Jd, Je, Jf, Jg, Jh, QH, QI, Ji, J4, Jj, J5, J6, J7, GA, GB, Ya, Jk, Yb, QJ, KJ, J8, KF, GC, Jl, YF, YE, YD, Gk, List.length_take, Int.toNat_zero, List.drop_zero, YC, Ks, QL, Jt, GX, Yu, Kr, Kq, Js, Yc, J9, Yd, Ye, GF, Yf, Yg, GG, Yh, Ka, Yi, GH, Yj, Yk, GI, GJ, GK, Yl, eff, JB, QO, Ke, Ym, Kf, Kg, Kh, GL, GM, JD, JC, Jm, GN, GO, GP, Y7, pur, List.map, List.drop, List.take, List.length, List.foldl, List.append_eq, List.nil_append, List.cons_append, List.getD_cons_zero, List.getD_cons_succ, reduceIte, Nat.reduceEqDiff, Nat.reduceAdd, Nat.reduceLeDiff, true_and, and_true, Bool.not_true, Bool.not_false, Bool.and_true, Bool.true_and, Bool.and_self, reduceCtorEq, true_implies, false_implies, implies_true, decide_eq_true_eq, Option.map_some, Gm, fpX, SOp.xs, oX, refs, KE, dom, Gl, List.all_nil, List.all_cons, List.contains_cons, List.contains_nil, Nat.reduceBEq, Bool.or_false, Bool.false_or, List.append_nil, Bool.not_false, Bool.not_true, List.forall_mem_cons, fm0, List.set, Nat.reduceLT, Nat.reduceMod, ne_eq, not_false_eq_true, not_true_eq_false, GQ, Yn, Yo, Yp, Ki, Jn, Kj, Yq, Kk, Kl, GR, GS, GT, Yr, Ys, Yt, Jo, Jp, decide_true, AV.bool.injEq, AV.int.injEq, Nat.reduceLeDiff, decide_eq_true_eq, decide_eq_false_iff_not, Int.toNat_natCast, List.length_map, decide_false, KH, noref, flatOk, Qb, wkM, Km, Kw, Kx, Ju, QM, Kv, Jv, Kt, Ku, Qn, QN, Classical.not_not, Qr, Qt, Qa, Yw, Ql, List.take_length, List.length_cons, List.length_nil, Nat.zero_add, Ko, Yx, Yy, YG, Zone.row, Qj, QK, Pt.row, Qs, Jw, Aw.row, Qv, Jx, Blk.row, Qg, Qp, Sec.row, Qh, Qu, Rw.row, Qw, Jy, Qi]
  
  repeat' (first | with_reducible apply And.intro | with_reducible intro _)
  all_goals first
    | omega
    | (refine hN (i + 1) _ (by simp only [YC, YD, YE, YF, Qc, Qd, Qe, Qf, reduceIte, Nat.reduceEqDiff]; exact ⟨by repeat' (first | exact trivial | refine ⟨.inr rfl, ?_⟩), by repeat' (first | exact trivial | refine ⟨rfl, ?_⟩), by first | rfl | simp [closedB, Qx, Qo, Qb, dom, Qm, *], by first | rfl | simp [keepB, dom]⟩) ?_ ?_
       · exact ⟨by omega, Gf hi.2 (by simpa using ‹¬ _›)⟩
       · omega)
    | (unfold Xm; rw [Qls (i := i) (by omega) (by simpa using ‹_›) hi.2])
    | (unfold Xm; rw [QhH fun j hj => hi.2 j (by omega)])
def Y6 : List AV → Option (Prop × AV)
  | [.sl pst 3 psx, .str s] => some ((((psx.map Y1).map Pt.row = psx)) ∧ ((psx.map Y1).length ≤ 4611686018427387904), .int .i64 (Xm (psx.map Y1) s))
  | _ => none
theorem Wy : ∀ args p v, Y6 args = some (p, v) → p → Contract P 71 args [] v [] ∧ noref v = true ∧ No99 v := by
  intro args p v h1 h2
  unfold Y6 at h1
  split at h1
  · rename_i pst psx s
    cases h1
    obtain ⟨e0, HP⟩ := h2
    have := QlQ pst (psx.map Y1) s HP
    exact ⟨by simpa only [e0] using this, rfl, trivial⟩
  · cases h1
set_option maxHeartbeats 400000 in
theorem Qbg (s : Sky) (i : Nat) {Q : XT → St → Prop} (hi : i < s.pts.length) (hl : s.pts.length ≤ 1048576) (hd : Uj s.w s.h s.lv) (hQ : ∀ bv : Bool, (bv = true ↔ ¬ (XG (s.pts.getD i default).nm ∧ (0 < i → slt (s.pts.getD (i - 1) default).nm (s.pts.getD i default).nm) ∧ X6 s.w s.h (s.pts.getD i default).x (s.pts.getD i default).y)) → Q .normal ⟨[(1, .ptr 101 0), (3, .int .i64 i), (4, .ptr 104 0), (59, .bool bv)], [(101, .box [.int .i64 s.w, .int .i64 s.h, .int .i64 s.lv, .sl 0 3 (s.pts.map Pt.row), .sl 0 2 (s.aws.map (Aw.row 0)), .sl 0 2 (s.secs.map (Sec.row 0)), .sl 0 4 (s.rws.map Rw.row)]), (104, .box [.str (s.pts.getD i default).nm, .int .i64 (s.pts.getD i default).x, .int .i64 (s.pts.getD i default).y])]⟩) : SCode.wp (((Env.nil P).add 65 Y0 Vd).add 82 KI X9) Zb Q ⟨[(1, .ptr 101 0), (3, .int .i64 i), (4, .ptr 104 0)], [(101, .box [.int .i64 s.w, .int .i64 s.h, .int .i64 s.lv, .sl 0 3 (s.pts.map Pt.row), .sl 0 2 (s.aws.map (Aw.row 0)), .sl 0 2 (s.secs.map (Sec.row 0)), .sl 0 4 (s.rws.map Rw.row)]), (104, .box [.str (s.pts.getD i default).nm, .int .i64 (s.pts.getD i default).x, .int .i64 (s.pts.getD i default).y])]⟩ := by
  all_goals (unfold Zb; simp (config := { maxSteps := 2000000 }) only [JK, Gr, KO, KP, JL, QW, JM, JN, KQ, Gs, KR, KS, KT, KU, KV, KW, KX, KY, KZ, K1, K2, QX, QY, QZ, JO, JP, JQ, Q0, Q1, Q2, Q3, Q4, Q5, JR, JS, JT, JU, Jq, Jr, Kp, Yv, GU, JV, Qz, Qk, KN, QT, QU, JH, QV, JI, JJ, QS, Qy, JE, JF, KK, JG, KL, KM, Q8, Q9, Qc, Qd, QE, QF, Ja, Jb, QQ, QR, Qe, Qf, GD, GE, JZ, J0, K3, JW, JX, JY, Kb, Kc, Kd, QA, QB, QD, Gt, Gu, Gv, Gw, Q6, Q7, Gy, Gx, Gz, QG, J1, K4, J2, K5, K6, K7, K8, J3, Jc, K9, Jd, Je, Jf, Jg, Jh, QH, QI, Ji, J4, Jj, J5, J6, J7, GA, GB, Ya, Jk, Yb, QJ, KJ, J8, KF, GC, Jl, YF, YE, YD, Gk, List.length_take, Int.toNat_zero, List.drop_zero, YC, Ks, QL, Jt, GX, Yu, Kr, Kq, Js, Yc, J9, Yd, Ye, GF, Yf, Yg, GG, Yh, Ka, Yi, GH, Yj, Yk, GI, GJ, GK, Yl, eff, JB, QO, Ke, Ym, Kf, Kg, Kh, GL, GM, JD, JC, Jm, GN, GO, GP, Y7, pur, List.map, List.drop, List.take, List.length, List.foldl, List.append_eq, List.nil_append, List.cons_append, List.getD_cons_zero, List.getD_cons_succ, reduceIte, Nat.reduceEqDiff, Nat.reduceAdd, Nat.reduceLeDiff, true_and, and_true, Bool.not_true, Bool.not_false, Bool.and_true, Bool.true_and, Bool.and_self, reduceCtorEq, true_implies, false_implies, implies_true, decide_eq_true_eq, Option.map_some, Gm, fpX, SOp.xs, oX, refs, KE, dom, Gl, List.all_nil, List.all_cons, List.contains_cons, List.contains_nil, Nat.reduceBEq, Bool.or_false, Bool.false_or, List.append_nil, Bool.not_false, Bool.not_true, List.forall_mem_cons, fm0, List.set, Nat.reduceLT, Nat.reduceMod, ne_eq, not_false_eq_true, not_true_eq_false, GQ, Yn, Yo, Yp, Ki, Jn, Kj, Yq, Kk, Kl, GR, GS, GT, Yr, Ys, Yt, Jo, Jp, decide_true, AV.bool.injEq, AV.int.injEq, Nat.reduceLeDiff, decide_eq_true_eq, decide_eq_false_iff_not, Int.toNat_natCast, List.length_map, decide_false, KH, noref, flatOk, Qb, wkM, Km, Kw, Kx, Ju, QM, Kv, Jv, Kt, Ku, Qn, QN, Classical.not_not, Y0, KI, Qr, Qt, Qa, Yw, Ql, List.take_length, List.length_cons, List.length_nil, Nat.zero_add, Ko, Yx, Yy, YG, Zone.row, Qj, QK, Pt.row, Qs, Jw, Aw.row, Qv, Jx, Blk.row, Qg, Qp, Sec.row, Qh, Qu, Rw.row, Qw, Jy, Qi])
  repeat' (first | with_reducible apply And.intro | with_reducible intro _)
  all_goals first
    | omega
    | (refine hQ _ ?_
       first
         | grind [X6, Uj]
         | (simp; grind [X6, Uj]))
    | grind [X6, Uj]
set_option maxHeartbeats 400000 in
theorem Qbh (s : Sky) (i : Nat) (k : Nat) {w62 : AV} {Q : XT → St → Prop} (hi : i < s.pts.length) (hk : k < i) (hl : s.pts.length ≤ 1048576) (hQ : ∀ bv : Bool, (bv = true ↔ ((s.pts.getD k default).x = (s.pts.getD i default).x ∧ (s.pts.getD k default).y = (s.pts.getD i default).y)) → Q .normal ⟨[(1, .ptr 101 0), (3, .int .i64 i), (4, .ptr 104 0), (5, .int .i64 k), (84, .bool bv)], [(101, .box [.int .i64 s.w, .int .i64 s.h, .int .i64 s.lv, .sl 0 3 (s.pts.map Pt.row), .sl 0 2 (s.aws.map (Aw.row 0)), .sl 0 2 (s.secs.map (Sec.row 0)), .sl 0 4 (s.rws.map Rw.row)]), (104, .box [.str (s.pts.getD i default).nm, .int .i64 (s.pts.getD i default).x, .int .i64 (s.pts.getD i default).y])]⟩) : SCode.wp (((Env.nil P).add 65 Y0 Vd).add 82 KI X9) Zc Q ⟨[(1, .ptr 101 0), (3, .int .i64 i), (4, .ptr 104 0), (5, .int .i64 k), (62, w62)], [(101, .box [.int .i64 s.w, .int .i64 s.h, .int .i64 s.lv, .sl 0 3 (s.pts.map Pt.row), .sl 0 2 (s.aws.map (Aw.row 0)), .sl 0 2 (s.secs.map (Sec.row 0)), .sl 0 4 (s.rws.map Rw.row)]), (104, .box [.str (s.pts.getD i default).nm, .int .i64 (s.pts.getD i default).x, .int .i64 (s.pts.getD i default).y])]⟩ := by
  all_goals (unfold Zc; simp (config := { maxSteps := 2000000 }) only [JK, Gr, KO, KP, JL, QW, JM, JN, KQ, Gs, KR, KS, KT, KU, KV, KW, KX, KY, KZ, K1, K2, QX, QY, QZ, JO, JP, JQ, Q0, Q1, Q2, Q3, Q4, Q5, JR, JS, JT, JU, Jq, Jr, Kp, Yv, GU, JV, Qz, Qk, KN, QT, QU, JH, QV, JI, JJ, QS, Qy, JE, JF, KK, JG, KL, KM, Q8, Q9, Qc, Qd, QE, QF, Ja, Jb, QQ, QR, Qe, Qf, GD, GE, JZ, J0, K3, JW, JX, JY, Kb, Kc, Kd, QA, QB, QD, Gt, Gu, Gv, Gw, Q6, Q7, Gy, Gx, Gz, QG, J1, K4, J2, K5, K6, K7, K8, J3, Jc, K9, Jd, Je, Jf, Jg, Jh, QH, QI, Ji, J4, Jj, J5, J6, J7, GA, GB, Ya, Jk, Yb, QJ, KJ, J8, KF, GC, Jl, YF, YE, YD, Gk, List.length_take, Int.toNat_zero, List.drop_zero, YC, Ks, QL, Jt, GX, Yu, Kr, Kq, Js, Yc, J9, Yd, Ye, GF, Yf, Yg, GG, Yh, Ka, Yi, GH, Yj, Yk, GI, GJ, GK, Yl, eff, JB, QO, Ke, Ym, Kf, Kg, Kh, GL, GM, JD, JC, Jm, GN, GO, GP, Y7, pur, List.map, List.drop, List.take, List.length, List.foldl, List.append_eq, List.nil_append, List.cons_append, List.getD_cons_zero, List.getD_cons_succ, reduceIte, Nat.reduceEqDiff, Nat.reduceAdd, Nat.reduceLeDiff, true_and, and_true, Bool.not_true, Bool.not_false, Bool.and_true, Bool.true_and, Bool.and_self, reduceCtorEq, true_implies, false_implies, implies_true, decide_eq_true_eq, Option.map_some, Gm, fpX, SOp.xs, oX, refs, KE, dom, Gl, List.all_nil, List.all_cons, List.contains_cons, List.contains_nil, Nat.reduceBEq, Bool.or_false, Bool.false_or, List.append_nil, Bool.not_false, Bool.not_true, List.forall_mem_cons, fm0, List.set, Nat.reduceLT, Nat.reduceMod, ne_eq, not_false_eq_true, not_true_eq_false, GQ, Yn, Yo, Yp, Ki, Jn, Kj, Yq, Kk, Kl, GR, GS, GT, Yr, Ys, Yt, Jo, Jp, decide_true, AV.bool.injEq, AV.int.injEq, Nat.reduceLeDiff, decide_eq_true_eq, decide_eq_false_iff_not, Int.toNat_natCast, List.length_map, decide_false, KH, noref, flatOk, Qb, wkM, Km, Kw, Kx, Ju, QM, Kv, Jv, Kt, Ku, Qn, QN, Classical.not_not, Y0, KI, Qr, Qt, Qa, Yw, Ql, List.take_length, List.length_cons, List.length_nil, Nat.zero_add, Ko, Yx, Yy, YG, Zone.row, Qj, QK, Pt.row, Qs, Jw, Aw.row, Qv, Jx, Blk.row, Qg, Qp, Sec.row, Qh, Qu, Rw.row, Qw, Jy, Qi])
  repeat' (first | with_reducible apply And.intro | with_reducible intro _)
  all_goals first
    | omega
    | (refine hQ _ ?_
       first
         | grind []
         | (simp; grind []))
    | grind []
theorem Qh5 (s : Sky) (hd : Uj s.w s.h s.lv) (hs : s.small) : Contract P 66 [.agg (s.row 0)] [] (.bool (decide (QlN s.w s.h s.pts))) [] := by
  have hl : s.pts.length ≤ 1048576 := hs.1
  simp only [Sky.row]
  refine QP (((Env.nil P).add 65 Y0 Vd).add 82 KI X9) hm Qdj (Nat.le_of_ble_eq_true rfl) rfl ?_; unfold Wq; simp (config := { maxSteps := 2000000 }) only [JK, Gr, KO, KP, JL, QW, JM, JN, KQ, Gs, KR, KS, KT, KU, KV, KW, KX, KY, KZ, K1, K2, QX, QY, QZ, JO, JP, JQ, Q0, Q1, Q2, Q3, Q4, Q5, JR, JS, JT, JU, Jq, Jr, Kp, Yv, GU, JV, Qz, Qk, KN, QT, QU, JH, QV, JI, JJ, QS, Qy, JE, JF, KK, JG, KL, KM, Q8, Q9, Qc, Qd, QE, QF, Ja, Jb, QQ, QR, Qe, Qf, GD, GE, JZ, J0, K3, JW, JX, JY, Kb, Kc, Kd, QA, QB, QD, Gt, Gu, Gv, Gw, Q6, Q7, Gy, Gx, Gz, QG, J1, K4, J2, K5, K6, K7, K8, J3, Jc, K9, Jd, Je, Jf, Jg, Jh, QH, QI, Ji, J4, Jj, J5, J6, J7, GA, GB, Ya, Jk, Yb, QJ, KJ, J8, KF, GC, Jl, YF, YE, YD, Gk, List.length_take, Int.toNat_zero, List.drop_zero, YC, Ks, QL, Jt, GX, Yu, Kr, Kq, Js, Yc, J9, Yd, Ye, GF, Yf, Yg, GG, Yh, Ka, Yi, GH, Yj, Yk, GI, GJ, GK, Yl, eff, JB, QO, Ke, Ym, Kf, Kg, Kh, GL, GM, JD, JC, Jm, GN, GO, GP, Y7, pur, List.map, List.drop, List.take, List.length, List.foldl, List.append_eq, List.nil_append, List.cons_append, List.getD_cons_zero, List.getD_cons_succ, reduceIte, Nat.reduceEqDiff, Nat.reduceAdd, Nat.reduceLeDiff, true_and, and_true, Bool.not_true, Bool.not_false, Bool.and_true, Bool.true_and, Bool.and_self, reduceCtorEq, true_implies, false_implies, implies_true, decide_eq_true_eq, Option.map_some, Gm, fpX, SOp.xs, oX, refs, KE, dom, Gl, List.all_nil, List.all_cons, List.contains_cons, List.contains_nil, Nat.reduceBEq, Bool.or_false, Bool.false_or, List.append_nil, Bool.not_false, Bool.not_true, List.forall_mem_cons, fm0, List.set, Nat.reduceLT, Nat.reduceMod, ne_eq, not_false_eq_true, not_true_eq_false, GQ, Yn, Yo, Yp, Ki, Jn, Kj, Yq, Kk, Kl, GR, GS, GT, Yr, Ys, Yt, Jo, Jp, decide_true, AV.bool.injEq, AV.int.injEq, Nat.reduceLeDiff, decide_eq_true_eq, decide_eq_false_iff_not, Int.toNat_natCast, List.length_map, decide_false, KH, noref, flatOk, Qb, wkM, Km, Kw, Kx, Ju, QM, Kv, Jv, Kt, Ku, Qn, QN, Classical.not_not, Y0, KI, Qr, Qt, Qa, Yw, Ql, List.take_length, List.length_cons, List.length_nil, Nat.zero_add, Ko, Yx, Yy, YG, Zone.row, Qj, QK, Pt.row, Qs, Jw, Aw.row, Qv, Jx, Blk.row, Qg, Qp, Sec.row, Qh, Qu, Rw.row, Qw, Jy, Qi]
  refine ⟨fun h1 => by intro h; have := h.1; omega, fun h1 => ?_⟩
  refine Yz (fun i : Nat => [(3, .int .i64 i)]) (fun _ => []) (fun i => i ≤ s.pts.length ∧ ∀ j, j < i → Qo7 s.w s.h s.pts j) (fun i => s.pts.length - i) (0) (by simp only [YC, YD, YE, YF, Qc, Qd, Qe, Qf, reduceIte, Nat.reduceEqDiff]; exact ⟨by repeat' (first | exact trivial | refine ⟨.inr rfl, ?_⟩), by repeat' (first | exact trivial | refine ⟨rfl, ?_⟩), by first | rfl | simp [closedB, Qx, Qo, Qb, dom, Qm, *], by first | rfl | simp [keepB, dom]⟩) ?_ ?_
  · exact ⟨Nat.zero_le _, by intro j hj; omega⟩
  intro i hi NX hN
  unfold Vc; simp (config := { maxSteps := 2000000 }) only [JK, Gr, KO, KP, JL, QW, JM, JN, KQ, Gs, KR, KS, KT, KU, KV, KW, KX, KY, KZ, K1, K2, QX, QY, QZ, JO, JP, JQ, Q0, Q1, Q2, Q3, Q4, Q5, JR, JS, JT, JU, Jq, Jr, Kp, Yv, GU, JV, Qz, Qk, KN, QT, QU, JH, QV, JI, JJ, QS, Qy, JE, JF, KK, JG, KL, KM, Q8, Q9, Qc, Qd, QE, QF, Ja, Jb, QQ, QR, Qe, Qf, GD, GE, JZ, J0, K3, JW, JX, JY, Kb, Kc, Kd, QA, QB, QD, Gt, Gu, Gv, Gw, Q6, Q7, Gy, Gx, Gz, QG, J1, K4, J2, K5, K6, K7, K8, J3, Jc, K9, Jd, Je, Jf, Jg, Jh, QH, QI, Ji, J4, Jj, J5, J6, J7, GA, GB, Ya, Jk, Yb, QJ, KJ, J8, KF, GC, Jl, YF, YE, YD, Gk, List.length_take, Int.toNat_zero, List.drop_zero, YC, Ks, QL, Jt, GX, Yu, Kr, Kq, Js, Yc, J9, Yd, Ye, GF, Yf, Yg, GG, Yh, Ka, Yi, GH, Yj, Yk, GI, GJ, GK, Yl, eff, JB, QO, Ke, Ym, Kf, Kg, Kh, GL, GM, JD, JC, Jm, GN, GO, GP, Y7, pur, List.map, List.drop, List.take, List.length, List.foldl, List.append_eq, List.nil_append, List.cons_append, List.getD_cons_zero, List.getD_cons_succ, reduceIte, Nat.reduceEqDiff, Nat.reduceAdd, Nat.reduceLeDiff, true_and, and_true, Bool.not_true, Bool.not_false, Bool.and_true, Bool.true_and, Bool.and_self, reduceCtorEq, true_implies, false_implies, implies_true, decide_eq_true_eq, Option.map_some, Gm, fpX, SOp.xs, oX, refs, KE, dom, Gl, List.all_nil, List.all_cons, List.contains_cons, List.contains_nil, Nat.reduceBEq, Bool.or_false, Bool.false_or, List.append_nil, Bool.not_false, Bool.not_true, List.forall_mem_cons, fm0, List.set, Nat.reduceLT, Nat.reduceMod, ne_eq, not_false_eq_true, not_true_eq_false, GQ, Yn, Yo, Yp, Ki, Jn, Kj, Yq, Kk, Kl, GR, GS, GT, Yr, Ys, Yt, Jo, Jp, decide_true, AV.bool.injEq, AV.int.injEq, Nat.reduceLeDiff, decide_eq_true_eq, decide_eq_false_iff_not, Int.toNat_natCast, List.length_map, decide_false, KH, noref, flatOk, Qb, wkM, Km, Kw, Kx, Ju, QM, Kv, Jv, Kt, Ku, Qn, QN, Classical.not_not, Y0, KI, Qr, Qt, Qa, Yw, Ql, List.take_length, List.length_cons, List.length_nil, Nat.zero_add, Ko, Yx, Yy, YG, Zone.row, Qj, QK, Pt.row, Qs, Jw, Aw.row, Qv, Jx, Blk.row, Qg, Qp, Sec.row, Qh, Qu, Rw.row, Qw, Jy, Qi]
  refine ⟨fun g1 => ⟨by omega, by omega, ?_⟩, fun g1 => ?_⟩
  · have A : QlN s.w s.h s.pts → Qo7 s.w s.h s.pts i := fun h => h.2 i (by omega)
    unfold Qo7 at A
    refine Qbg s i (by omega) hl hd fun bv hbv => ?_
    cases bv
    case true =>
      simp (config := { maxSteps := 2000000 }) only [JK, Gr, KO, KP, JL, QW, JM, JN, KQ, Gs, KR, KS, KT, KU, KV, KW, KX, KY, KZ, K1, K2, QX, QY, QZ, JO, JP, JQ, Q0, Q1, Q2, Q3, Q4, Q5, JR, JS, JT, JU, Jq, Jr, Kp, Yv, GU, JV, Qz, Qk, KN, QT, QU, JH, QV, JI, JJ, QS, Qy, JE, JF, KK, JG, KL, KM, Q8, Q9, Qc, Qd, QE, QF, Ja, Jb, QQ, QR, Qe, Qf, GD, GE, JZ, J0, K3, JW, JX, JY, Kb, Kc, Kd, QA, QB, QD, Gt, Gu, Gv, Gw, Q6, Q7, Gy, Gx, Gz, QG, J1, K4, J2, K5, K6, K7, K8, J3, Jc, K9, Jd, Je, Jf, Jg, Jh, QH, QI, Ji, J4, Jj, J5, J6, J7, GA, GB, Ya, Jk, Yb, QJ, KJ, J8, KF, GC, Jl, YF, YE, YD, Gk, List.length_take, Int.toNat_zero, List.drop_zero, YC, Ks, QL, Jt, GX, Yu, Kr, Kq, Js, Yc, J9, Yd, Ye, GF, Yf, Yg, GG, Yh, Ka, Yi, GH, Yj, Yk, GI, GJ, GK, Yl, eff, JB, QO, Ke, Ym, Kf, Kg, Kh, GL, GM, JD, JC, Jm, GN, GO, GP, Y7, pur, List.map, List.drop, List.take, List.length, List.foldl, List.append_eq, List.nil_append, List.cons_append, List.getD_cons_zero, List.getD_cons_succ, reduceIte, Nat.reduceEqDiff, Nat.reduceAdd, Nat.reduceLeDiff, true_and, and_true, Bool.not_true, Bool.not_false, Bool.and_true, Bool.true_and, Bool.and_self, reduceCtorEq, true_implies, false_implies, implies_true, decide_eq_true_eq, Option.map_some, Gm, fpX, SOp.xs, oX, refs, KE, dom, Gl, List.all_nil, List.all_cons, List.contains_cons, List.contains_nil, Nat.reduceBEq, Bool.or_false, Bool.false_or, List.append_nil, Bool.not_false, Bool.not_true, List.forall_mem_cons, fm0, List.set, Nat.reduceLT, Nat.reduceMod, ne_eq, not_false_eq_true, not_true_eq_false, GQ, Yn, Yo, Yp, Ki, Jn, Kj, Yq, Kk, Kl, GR, GS, GT, Yr, Ys, Yt, Jo, Jp, decide_true, AV.bool.injEq, AV.int.injEq, Nat.reduceLeDiff, decide_eq_true_eq, decide_eq_false_iff_not, Int.toNat_natCast, List.length_map, decide_false, KH, noref, flatOk, Qb, wkM, Km, Kw, Kx, Ju, QM, Kv, Jv, Kt, Ku, Qn, QN, Classical.not_not, Y0, KI, Qr, Qt, Qa, Yw, Ql, List.take_length, List.length_cons, List.length_nil, Nat.zero_add, Ko, Yx, Yy, YG, Zone.row, Qj, QK, Pt.row, Qs, Jw, Aw.row, Qv, Jx, Blk.row, Qg, Qp, Sec.row, Qh, Qu, Rw.row, Qw, Jy, Qi]
      exact fun hq => (hbv.1 rfl) ⟨(A hq).1, (A hq).2.1, (A hq).2.2.1⟩
    have o1 := Classical.not_not.1 fun h => Bool.noConfusion (hbv.2 h)
    simp (config := { maxSteps := 2000000 }) only [JK, Gr, KO, KP, JL, QW, JM, JN, KQ, Gs, KR, KS, KT, KU, KV, KW, KX, KY, KZ, K1, K2, QX, QY, QZ, JO, JP, JQ, Q0, Q1, Q2, Q3, Q4, Q5, JR, JS, JT, JU, Jq, Jr, Kp, Yv, GU, JV, Qz, Qk, KN, QT, QU, JH, QV, JI, JJ, QS, Qy, JE, JF, KK, JG, KL, KM, Q8, Q9, Qc, Qd, QE, QF, Ja, Jb, QQ, QR, Qe, Qf, GD, GE, JZ, J0, K3, JW, JX, JY, Kb, Kc, Kd, QA, QB, QD, Gt, Gu, Gv, Gw, Q6, Q7, Gy, Gx, Gz, QG, J1, K4, J2, K5, K6, K7, K8, J3, Jc, K9, Jd, Je, Jf, Jg, Jh, QH, QI, Ji, J4, Jj, J5, J6, J7, GA, GB, Ya, Jk, Yb, QJ, KJ, J8, KF, GC, Jl, YF, YE, YD, Gk, List.length_take, Int.toNat_zero, List.drop_zero, YC, Ks, QL, Jt, GX, Yu, Kr, Kq, Js, Yc, J9, Yd, Ye, GF, Yf, Yg, GG, Yh, Ka, Yi, GH, Yj, Yk, GI, GJ, GK, Yl, eff, JB, QO, Ke, Ym, Kf, Kg, Kh, GL, GM, JD, JC, Jm, GN, GO, GP, Y7, pur, List.map, List.drop, List.take, List.length, List.foldl, List.append_eq, List.nil_append, List.cons_append, List.getD_cons_zero, List.getD_cons_succ, reduceIte, Nat.reduceEqDiff, Nat.reduceAdd, Nat.reduceLeDiff, true_and, and_true, Bool.not_true, Bool.not_false, Bool.and_true, Bool.true_and, Bool.and_self, reduceCtorEq, true_implies, false_implies, implies_true, decide_eq_true_eq, Option.map_some, Gm, fpX, SOp.xs, oX, refs, KE, dom, Gl, List.all_nil, List.all_cons, List.contains_cons, List.contains_nil, Nat.reduceBEq, Bool.or_false, Bool.false_or, List.append_nil, Bool.not_false, Bool.not_true, List.forall_mem_cons, fm0, List.set, Nat.reduceLT, Nat.reduceMod, ne_eq, not_false_eq_true, not_true_eq_false, GQ, Yn, Yo, Yp, Ki, Jn, Kj, Yq, Kk, Kl, GR, GS, GT, Yr, Ys, Yt, Jo, Jp, decide_true, AV.bool.injEq, AV.int.injEq, Nat.reduceLeDiff, decide_eq_true_eq, decide_eq_false_iff_not, Int.toNat_natCast, List.length_map, decide_false, KH, noref, flatOk, Qb, wkM, Km, Kw, Kx, Ju, QM, Kv, Jv, Kt, Ku, Qn, QN, Classical.not_not, Y0, KI, Qr, Qt, Qa, Yw, Ql, List.take_length, List.length_cons, List.length_nil, Nat.zero_add, Ko, Yx, Yy, YG, Zone.row, Qj, QK, Pt.row, Qs, Jw, Aw.row, Qv, Jx, Blk.row, Qg, Qp, Sec.row, Qh, Qu, Rw.row, Qw, Jy, Qi]
    refine Yz (fun k : Nat => [(5, .int .i64 k)]) (fun _ => []) (fun k => k ≤ i ∧ ∀ j, j < k → ¬ ((s.pts.getD j default).x = (s.pts.getD i default).x ∧ (s.pts.getD j default).y = (s.pts.getD i default).y)) (fun k => i - k) (0) (by simp only [YC, YD, YE, YF, Qc, Qd, Qe, Qf, reduceIte, Nat.reduceEqDiff]; exact ⟨by repeat' (first | exact trivial | refine ⟨.inr rfl, ?_⟩), by repeat' (first | exact trivial | refine ⟨rfl, ?_⟩), by first | rfl | simp [closedB, Qx, Qo, Qb, dom, Qm, *], by first | rfl | simp [keepB, dom]⟩) ?_ ?_
    · exact ⟨Nat.zero_le _, by intro j hj; omega⟩
    intro k hk NX2 hN2
    unfold Vb; simp (config := { maxSteps := 2000000 }) only [JK, Gr, KO, KP, JL, QW, JM, JN, KQ, Gs, KR, KS, KT, KU, KV, KW, KX, KY, KZ, K1, K2, QX, QY, QZ, JO, JP, JQ, Q0, Q1, Q2, Q3, Q4, Q5, JR, JS, JT, JU, Jq, Jr, Kp, Yv, GU, JV, Qz, Qk, KN, QT, QU, JH, QV, JI, JJ, QS, Qy, JE, JF, KK, JG, KL, KM, Q8, Q9, Qc, Qd, QE, QF, Ja, Jb, QQ, QR, Qe, Qf, GD, GE, JZ, J0, K3, JW, JX, JY, Kb, Kc, Kd, QA, QB, QD, Gt, Gu, Gv, Gw, Q6, Q7, Gy, Gx, Gz, QG, J1, K4, J2, K5, K6, K7, K8, J3, Jc, K9, Jd, Je, Jf, Jg, Jh, QH, QI, Ji, J4, Jj, J5, J6, J7, GA, GB, Ya, Jk, Yb, QJ, KJ, J8, KF, GC, Jl, YF, YE, YD, Gk, List.length_take, Int.toNat_zero, List.drop_zero, YC, Ks, QL, Jt, GX, Yu, Kr, Kq, Js, Yc, J9, Yd, Ye, GF, Yf, Yg, GG, Yh, Ka, Yi, GH, Yj, Yk, GI, GJ, GK, Yl, eff, JB, QO, Ke, Ym, Kf, Kg, Kh, GL, GM, JD, JC, Jm, GN, GO, GP, Y7, pur, List.map, List.drop, List.take, List.length, List.foldl, List.append_eq, List.nil_append, List.cons_append, List.getD_cons_zero, List.getD_cons_succ, reduceIte, Nat.reduceEqDiff, Nat.reduceAdd, Nat.reduceLeDiff, true_and, and_true, Bool.not_true, Bool.not_false, Bool.and_true, Bool.true_and, Bool.and_self, reduceCtorEq, true_implies, false_implies, implies_true, decide_eq_true_eq, Option.map_some, Gm, fpX, SOp.xs, oX, refs, KE, dom, Gl, List.all_nil, List.all_cons, List.contains_cons, List.contains_nil, Nat.reduceBEq, Bool.or_false, Bool.false_or, List.append_nil, Bool.not_false, Bool.not_true, List.forall_mem_cons, fm0, List.set, Nat.reduceLT, Nat.reduceMod, ne_eq, not_false_eq_true, not_true_eq_false, GQ, Yn, Yo, Yp, Ki, Jn, Kj, Yq, Kk, Kl, GR, GS, GT, Yr, Ys, Yt, Jo, Jp, decide_true, AV.bool.injEq, AV.int.injEq, Nat.reduceLeDiff, decide_eq_true_eq, decide_eq_false_iff_not, Int.toNat_natCast, List.length_map, decide_false, KH, noref, flatOk, Qb, wkM, Km, Kw, Kx, Ju, QM, Kv, Jv, Kt, Ku, Qn, QN, Classical.not_not, Y0, KI, Qr, Qt, Qa, Yw, Ql, List.take_length, List.length_cons, List.length_nil, Nat.zero_add, Ko, Yx, Yy, YG, Zone.row, Qj, QK, Pt.row, Qs, Jw, Aw.row, Qv, Jx, Blk.row, Qg, Qp, Sec.row, Qh, Qu, Rw.row, Qw, Jy, Qi]
    refine ⟨fun g2 => ?_, fun g2 => ?_⟩
    · refine Qbh s i k (by omega) (by omega) hl fun bv hbv => ?_
      cases bv
      case true =>
        simp (config := { maxSteps := 2000000 }) only [JK, Gr, KO, KP, JL, QW, JM, JN, KQ, Gs, KR, KS, KT, KU, KV, KW, KX, KY, KZ, K1, K2, QX, QY, QZ, JO, JP, JQ, Q0, Q1, Q2, Q3, Q4, Q5, JR, JS, JT, JU, Jq, Jr, Kp, Yv, GU, JV, Qz, Qk, KN, QT, QU, JH, QV, JI, JJ, QS, Qy, JE, JF, KK, JG, KL, KM, Q8, Q9, Qc, Qd, QE, QF, Ja, Jb, QQ, QR, Qe, Qf, GD, GE, JZ, J0, K3, JW, JX, JY, Kb, Kc, Kd, QA, QB, QD, Gt, Gu, Gv, Gw, Q6, Q7, Gy, Gx, Gz, QG, J1, K4, J2, K5, K6, K7, K8, J3, Jc, K9, Jd, Je, Jf, Jg, Jh, QH, QI, Ji, J4, Jj, J5, J6, J7, GA, GB, Ya, Jk, Yb, QJ, KJ, J8, KF, GC, Jl, YF, YE, YD, Gk, List.length_take, Int.toNat_zero, List.drop_zero, YC, Ks, QL, Jt, GX, Yu, Kr, Kq, Js, Yc, J9, Yd, Ye, GF, Yf, Yg, GG, Yh, Ka, Yi, GH, Yj, Yk, GI, GJ, GK, Yl, eff, JB, QO, Ke, Ym, Kf, Kg, Kh, GL, GM, JD, JC, Jm, GN, GO, GP, Y7, pur, List.map, List.drop, List.take, List.length, List.foldl, List.append_eq, List.nil_append, List.cons_append, List.getD_cons_zero, List.getD_cons_succ, reduceIte, Nat.reduceEqDiff, Nat.reduceAdd, Nat.reduceLeDiff, true_and, and_true, Bool.not_true, Bool.not_false, Bool.and_true, Bool.true_and, Bool.and_self, reduceCtorEq, true_implies, false_implies, implies_true, decide_eq_true_eq, Option.map_some, Gm, fpX, SOp.xs, oX, refs, KE, dom, Gl, List.all_nil, List.all_cons, List.contains_cons, List.contains_nil, Nat.reduceBEq, Bool.or_false, Bool.false_or, List.append_nil, Bool.not_false, Bool.not_true, List.forall_mem_cons, fm0, List.set, Nat.reduceLT, Nat.reduceMod, ne_eq, not_false_eq_true, not_true_eq_false, GQ, Yn, Yo, Yp, Ki, Jn, Kj, Yq, Kk, Kl, GR, GS, GT, Yr, Ys, Yt, Jo, Jp, decide_true, AV.bool.injEq, AV.int.injEq, Nat.reduceLeDiff, decide_eq_true_eq, decide_eq_false_iff_not, Int.toNat_natCast, List.length_map, decide_false, KH, noref, flatOk, Qb, wkM, Km, Kw, Kx, Ju, QM, Kv, Jv, Kt, Ku, Qn, QN, Classical.not_not, Y0, KI, Qr, Qt, Qa, Yw, Ql, List.take_length, List.length_cons, List.length_nil, Nat.zero_add, Ko, Yx, Yy, YG, Zone.row, Qj, QK, Pt.row, Qs, Jw, Aw.row, Qv, Jx, Blk.row, Qg, Qp, Sec.row, Qh, Qu, Rw.row, Qw, Jy, Qi]
        exact fun hq => (A hq).2.2.2 k (by omega) (hbv.1 rfl)
      have o2 : ¬ _ := fun h => Bool.noConfusion (hbv.2 h)
      simp (config := { maxSteps := 2000000 }) only [JK, Gr, KO, KP, JL, QW, JM, JN, KQ, Gs, KR, KS, KT, KU, KV, KW, KX, KY, KZ, K1, K2, QX, QY, QZ, JO, JP, JQ, Q0, Q1, Q2, Q3, Q4, Q5, JR, JS, JT, JU, Jq, Jr, Kp, Yv, GU, JV, Qz, Qk, KN, QT, QU, JH, QV, JI, JJ, QS, Qy, JE, JF, KK, JG, KL, KM, Q8, Q9, Qc, Qd, QE, QF, Ja, Jb, QQ, QR, Qe, Qf, GD, GE, JZ, J0, K3, JW, JX, JY, Kb, Kc, Kd, QA, QB, QD, Gt, Gu, Gv, Gw, Q6, Q7, Gy, Gx, Gz, QG, J1, K4, J2, K5, K6, K7, K8, J3, Jc, K9, Jd, Je, Jf, Jg, Jh, QH, QI, Ji, J4, Jj, J5, J6, J7, GA, GB, Ya, Jk, Yb, QJ, KJ, J8, KF, GC, Jl, YF, YE, YD, Gk, List.length_take, Int.toNat_zero, List.drop_zero, YC, Ks, QL, Jt, GX, Yu, Kr, Kq, Js, Yc, J9, Yd, Ye, GF, Yf, Yg, GG, Yh, Ka, Yi, GH, Yj, Yk, GI, GJ, GK, Yl, eff, JB, QO, Ke, Ym, Kf, Kg, Kh, GL, GM, JD, JC, Jm, GN, GO, GP, Y7, pur, List.map, List.drop, List.take, List.length, List.foldl, List.append_eq, List.nil_append, List.cons_append, List.getD_cons_zero, List.getD_cons_succ, reduceIte, Nat.reduceEqDiff, Nat.reduceAdd, Nat.reduceLeDiff, true_and, and_true, Bool.not_true, Bool.not_false, Bool.and_true, Bool.true_and, Bool.and_self, reduceCtorEq, true_implies, false_implies, implies_true, decide_eq_true_eq, Option.map_some, Gm, fpX, SOp.xs, oX, refs, KE, dom, Gl, List.all_nil, List.all_cons, List.contains_cons, List.contains_nil, Nat.reduceBEq, Bool.or_false, Bool.false_or, List.append_nil, Bool.not_false, Bool.not_true, List.forall_mem_cons, fm0, List.set, Nat.reduceLT, Nat.reduceMod, ne_eq, not_false_eq_true, not_true_eq_false, GQ, Yn, Yo, Yp, Ki, Jn, Kj, Yq, Kk, Kl, GR, GS, GT, Yr, Ys, Yt, Jo, Jp, decide_true, AV.bool.injEq, AV.int.injEq, Nat.reduceLeDiff, decide_eq_true_eq, decide_eq_false_iff_not, Int.toNat_natCast, List.length_map, decide_false, KH, noref, flatOk, Qb, wkM, Km, Kw, Kx, Ju, QM, Kv, Jv, Kt, Ku, Qn, QN, Classical.not_not, Y0, KI, Qr, Qt, Qa, Yw, Ql, List.take_length, List.length_cons, List.length_nil, Nat.zero_add, Ko, Yx, Yy, YG, Zone.row, Qj, QK, Pt.row, Qs, Jw, Aw.row, Qv, Jx, Blk.row, Qg, Qp, Sec.row, Qh, Qu, Rw.row, Qw, Jy, Qi]
      refine ⟨by omega, ?_⟩
      refine hN2 (k + 1) _ (by simp only [YC, YD, YE, YF, Qc, Qd, Qe, Qf, reduceIte, Nat.reduceEqDiff]; exact ⟨by repeat' (first | exact trivial | refine ⟨.inr rfl, ?_⟩), by repeat' (first | exact trivial | refine ⟨rfl, ?_⟩), by first | rfl | simp [closedB, Qx, Qo, Qb, dom, Qm, *], by first | rfl | simp [keepB, dom]⟩) ?_ ?_
      · exact ⟨by omega, Gf hk.2 o2⟩
      · omega
    · refine ⟨by omega, ?_⟩
      refine hN (i + 1) _ (by simp only [YC, YD, YE, YF, Qc, Qd, Qe, Qf, reduceIte, Nat.reduceEqDiff]; exact ⟨by repeat' (first | exact trivial | refine ⟨.inr rfl, ?_⟩), by repeat' (first | exact trivial | refine ⟨rfl, ?_⟩), by first | rfl | simp [closedB, Qx, Qo, Qb, dom, Qm, *], by first | rfl | simp [keepB, dom]⟩) ?_ ?_
      · exact ⟨by omega, Gf hi.2 ⟨o1.1, o1.2.1, o1.2.2, fun k hk2 => hk.2 k (by omega)⟩⟩
      · omega
  · exact ⟨by omega, fun j hj => hi.2 j (by omega)⟩
end
end Go.Ve

