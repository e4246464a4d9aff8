/- Part 3 of the proof: laws and contracts of functions, each proved; they are joined in the last part. No conditions beyond those that the theorems state. -/
import Derived.Test.YtagikldfacbonaaGreatDoorProg
import Derived.Test.YtagikldfacbonaaGreatDoorSi2
set_option linter.all false
namespace Go.Ve
open Go.Proofs
set_option maxRecDepth 100000
/-- laws.FnExactSkyIndexOf: function 3 -/
def Gi : SFun := { n := 69,res := [.t 2],body := (jq [jn 1 (.box 101 (.v 0)) [0],jn 2 (.mv (.c (.bool false))) [2]] [1] (jq [jI 3 1048576 []] [1,3] (jq [jL 11 7 1 [],jm 12 3 [3],jn 13 (.call 4 [.v 11,.v 12]) [11,12],jm 3 13 [13]] [1,3] (.seq (jq [jm 14 3 [3],jc 15 .lss 14 0 [14]] [1,15] (.cond (.v 15) (jq [jn 2 (.mv (.c (.bool true))) []] [2] .ret) .skip)) (jq [jL 16 7 1 [],jn 17 (.call 6 [.v 16]) [16],jn 18 (.call 5 [.v 17]) [17],jn 4 (.alloc 104 [.sl 0 3 [],.sl 0 4 []]) [],⟨none,.store 2 (.v 4) (.v 18),none,[18]⟩] [1,4] (jq [jL 19 7 1 [],jn 20 (.call 6 [.v 19]) [19],jn 5 (.alloc 105 [.int .i64 0,.int .i64 0,.int .i64 0,.sl 0 3 [],.sl 0 2 [],.sl 0 2 [],.sl 0 4 []]) [],⟨none,.store 7 (.v 5) (.v 20),none,[20]⟩] [1,4,5] (jq [jL 21 7 5 [],jn 22 (.call 7 [.v 21]) [21],jn 6 (.alloc 106 [.sl 0 3 [],.sl 0 4 []]) [],⟨none,.store 2 (.v 6) (.v 22),none,[22]⟩] [1,4,5,6] (.seq (jq [jL 23 2 6 [],jL 24 2 4 [],jn 25 (.call 8 [.v 23,.v 24]) [23,24],jn 26 (.not (.v 25)) [25]] [1,4,5,6,26] (.cond (.v 26) (jq [jn 2 (.mv (.c (.bool false))) []] [2] .ret) .skip)) (.seq (.seq (.rgd [jL 27 7 5 [],jL 28 7 1 [],jn 29 (.call 6 [.v 28]) [],jn 30 (.call 9 [.v 27,.v 29]) [],jn 31 (.not (.v 30)) []] [1,4,5,6,31] [some [],none,some [1],none,none]) (.cond (.v 31) (jq [jn 2 (.mv (.c (.bool false))) []] [2] .ret) .skip)) (jq [jI 7 1 []] [1,4,5,6,7] (jq [jL 32 7 5 [5],jm 33 7 [7],jn 34 (.call 10 [.v 32,.v 33]) [32,33],jm 7 34 [34]] [1,4,6,7] (.seq (jq [jm 35 7 [7],jc 36 .lss 35 0 [35],jm 37 36 [36],jh 38 37 (.loadN 2 (.v 6)) [],jh 39 37 (.loadN 2 (.v 4)) [],jh 40 37 (.call 8 [.v 38,.v 39]) [38,39],jh 41 37 (.not (.v 40)) [40],jp 42 37 41 [37,41]] [1,4,6,42] (.cond (.v 42) (jq [jn 2 (.mv (.c (.bool false))) []] [2] .ret) .skip)) (jq [jI 8 1 []] [1,4,6,8] (jq [jL 43 2 6 [],jm 44 8 [8],jn 45 (.call 11 [.v 43,.v 44]) [43,44],jm 8 45 [45]] [1,4,6,8] (jq [jI 9 1 []] [1,4,6,8,9] (jq [jL 46 2 6 [],jm 47 9 [9],jn 48 (.call 12 [.v 46,.v 47]) [46,47],jm 9 48 [48]] [1,4,6,8,9] (.seq (jq [jm 49 9 [],jc 50 .lss 49 0 [49]] [1,4,6,8,9,50] (.cond (.v 50) (jq [jn 2 (.mv (.c (.bool false))) []] [2] .ret) .skip)) (.seq (jq [jm 51 9 [9],jm 52 8 [],jb 53 .neq 51 52 [51,52]] [1,4,6,8,53] (.cond (.v 53) (jq [jn 2 (.mv (.c (.bool false))) []] [2] .ret) .skip)) (jq [jL 54 7 1 [1],jn 55 (.call 6 [.v 54]) [54],jn 56 (.call 7 [.v 55]) [55],jn 10 (.alloc 110 [.sl 0 3 [],.sl 0 4 []]) [],⟨none,.store 2 (.v 10) (.v 56),none,[56]⟩] [4,6,8,10] (.seq (jq [jL 57 2 10 [10],jL 58 2 4 [4],jn 59 (.call 8 [.v 57,.v 58]) [57,58],jn 60 (.not (.v 59)) [59]] [6,8,60] (.cond (.v 60) (jq [jn 2 (.mv (.c (.bool false))) []] [2] .ret) .skip)) (jq [jI 9 1 []] [6,8,9] (jq [jL 61 2 6 [6],jm 62 9 [9],jn 63 (.call 12 [.v 61,.v 62]) [61,62],jm 9 63 [63]] [8,9] (.seq (jq [jm 64 9 [],jc 65 .lss 64 0 [64]] [8,9,65] (.cond (.v 65) (jq [jn 2 (.mv (.c (.bool false))) []] [2] .ret) .skip)) (.seq (jq [jm 66 9 [9],jm 67 8 [8],jb 68 .neq 66 67 [66,67]] [68] (.cond (.v 68) (jq [jn 2 (.mv (.c (.bool false))) []] [2] .ret) .skip)) (jq [jn 2 (.mv (.c (.bool true))) []] [2] .ret))))))))))))))))))))))))) }
theorem UR : Jd Go.Proofs.Tryz.prog 3 Gi = true := by kernel_rfl
/-- laws.szSky: function 4 -/
def QcT : SFun := { n := 30,res := [.t 4],body := (jq [jn 2 (.box 102 (.v 0)) [0],jI 4 0 [4]] [1,2] (jq [jf 5 3 2 [],jl 6 5 [5],jm 7 1 [1],jn 8 (.call 13 [.v 6,.v 7]) [6,7],jm 1 8 [8]] [1,2] (.seq (jq [jm 9 1 [],jc 10 .lss 9 0 [9]] [1,2,10] (.cond (.v 10) (jq [jn 4 (.mv (.c (.int .i64 (-1)))) []] [4] .ret) .skip)) (jq [jf 11 4 2 [],jl 12 11 [11],jm 13 1 [1],jn 14 (.call 14 [.v 12,.v 13]) [12,13],jm 1 14 [14]] [1,2] (.seq (jq [jm 15 1 [],jc 16 .lss 15 0 [15]] [1,2,16] (.cond (.v 16) (jq [jn 4 (.mv (.c (.int .i64 (-1)))) []] [4] .ret) .skip)) (jq [jf 17 5 2 [],jl 18 17 [17],jm 19 1 [1],jn 20 (.call 15 [.v 18,.v 19]) [18,19],jm 1 20 [20]] [1,2] (.seq (jq [jm 21 1 [],jc 22 .lss 21 0 [21]] [1,2,22] (.cond (.v 22) (jq [jn 4 (.mv (.c (.int .i64 (-1)))) []] [4] .ret) .skip)) (jq [jf 23 6 2 [2],jl 24 23 [23],jm 25 1 [1],jn 26 (.call 16 [.v 24,.v 25]) [24,25],jm 1 26 [26]] [1] (.seq (jq [jm 27 1 [],jc 28 .lss 27 0 [27]] [1,28] (.cond (.v 28) (jq [jn 4 (.mv (.c (.int .i64 (-1)))) []] [4] .ret) .skip)) (jq [jm 29 1 [1],jm 4 29 [29]] [4] .ret)))))))))) }
theorem QiE : Jd Go.Proofs.Tryz.prog 4 QcT = true := by kernel_rfl
/-- laws.toSky: function 6 -/
def Wh : SFun := { n := 30,res := [.cN 2 7],body := (jq [jn 1 (.box 101 (.v 0)) [0],jn 2 (.alloc 102 [.int .i64 0,.int .i64 0,.int .i64 0,.sl 0 3 [],.sl 0 2 [],.sl 0 2 [],.sl 0 4 []]) []] [1,2] (jq [jn 3 (.alloc 103 [.int .i64 0,.int .i64 0,.int .i64 0,.sl 0 3 [],.sl 0 2 [],.sl 0 2 [],.sl 0 4 []]) []] [1,2,3] (jq [jf 4 0 1 [],jl 5 4 [4],jf 6 0 3 [],⟨none,.store 1 (.v 6) (.v 5),none,[5,6]⟩] [1,2,3] (jq [jf 7 1 1 [],jl 8 7 [7],jf 9 1 3 [],⟨none,.store 1 (.v 9) (.v 8),none,[8,9]⟩] [1,2,3] (jq [jf 10 2 1 [],jl 11 10 [10],jf 12 2 3 [],⟨none,.store 1 (.v 12) (.v 11),none,[11,12]⟩] [1,2,3] (jq [jf 13 3 1 [],jl 14 13 [13],jn 15 (.call 21 [.v 14]) [14],jf 16 3 3 [],⟨none,.store 1 (.v 16) (.v 15),none,[15,16]⟩] [1,2,3] (jq [jf 17 4 1 [],jl 18 17 [17],jn 19 (.call 22 [.v 18]) [18],jf 20 4 3 [],⟨none,.store 1 (.v 20) (.v 19),none,[19,20]⟩] [1,2,3] (jq [jf 21 5 1 [],jl 22 21 [21],jn 23 (.call 23 [.v 22]) [22],jf 24 5 3 [],⟨none,.store 1 (.v 24) (.v 23),none,[23,24]⟩] [1,2,3] (jq [jf 25 6 1 [1],jl 26 25 [25],jn 27 (.call 24 [.v 26]) [26],jf 28 6 3 [],⟨none,.store 1 (.v 28) (.v 27),none,[27,28]⟩] [2,3] (jq [jL 29 7 3 [3],⟨none,.store 7 (.v 2) (.v 29),none,[29]⟩] [2] .ret)))))))))) }
theorem QcU : Jd Go.Proofs.Tryz.prog 6 Wh = true := by kernel_rfl
/-- laws.eqSkyIndex: function 8 -/
def US : SFun := { n := 17,res := [.t 4],body := (jq [jn 2 (.box 102 (.v 0)) [0],jn 3 (.box 103 (.v 1)) [1],jn 4 (.mv (.c (.bool false))) [4]] [2,3] (.seq (jq [jf 5 0 2 [],jl 6 5 [5],jf 7 0 3 [],jl 8 7 [7],jn 9 (.call 28 [.v 6,.v 8]) [6,8],jn 10 (.not (.v 9)) [9]] [2,3,10] (.cond (.v 10) (jq [jn 4 (.mv (.c (.bool false))) []] [4] .ret) .skip)) (.seq (jq [jf 11 1 2 [2],jl 12 11 [11],jf 13 1 3 [3],jl 14 13 [13],jn 15 (.call 29 [.v 12,.v 14]) [12,14],jn 16 (.not (.v 15)) [15]] [16] (.cond (.v 16) (jq [jn 4 (.mv (.c (.bool false))) []] [4] .ret) .skip)) (jq [jn 4 (.mv (.c (.bool true))) []] [4] .ret)))) }
theorem Qcv : Jd Go.Proofs.Tryz.prog 8 US = true := by kernel_rfl
/-- laws.eqSky: function 9 -/
def QcV : SFun := { n := 44,res := [.t 4],body := (jq [jn 2 (.box 102 (.v 0)) [0],jn 3 (.box 103 (.v 1)) [1],jn 4 (.mv (.c (.bool false))) [4]] [2,3] (.seq (jq [jf 5 0 2 [],jl 6 5 [5],jf 7 0 3 [],jl 8 7 [7],jb 9 .neq 6 8 [6,8]] [2,3,9] (.cond (.v 9) (jq [jn 4 (.mv (.c (.bool false))) []] [4] .ret) .skip)) (.seq (jq [jf 10 1 2 [],jl 11 10 [10],jf 12 1 3 [],jl 13 12 [12],jb 14 .neq 11 13 [11,13]] [2,3,14] (.cond (.v 14) (jq [jn 4 (.mv (.c (.bool false))) []] [4] .ret) .skip)) (.seq (jq [jf 15 2 2 [],jl 16 15 [15],jf 17 2 3 [],jl 18 17 [17],jb 19 .neq 16 18 [16,18]] [2,3,19] (.cond (.v 19) (jq [jn 4 (.mv (.c (.bool false))) []] [4] .ret) .skip)) (.seq (jq [jf 20 3 2 [],jl 21 20 [20],jf 22 3 3 [],jl 23 22 [22],jn 24 (.call 30 [.v 21,.v 23]) [21,23],jn 25 (.not (.v 24)) [24]] [2,3,25] (.cond (.v 25) (jq [jn 4 (.mv (.c (.bool false))) []] [4] .ret) .skip)) (.seq (jq [jf 26 4 2 [],jl 27 26 [26],jf 28 4 3 [],jl 29 28 [28],jn 30 (.call 31 [.v 27,.v 29]) [27,29],jn 31 (.not (.v 30)) [30]] [2,3,31] (.cond (.v 31) (jq [jn 4 (.mv (.c (.bool false))) []] [4] .ret) .skip)) (.seq (jq [jf 32 5 2 [],jl 33 32 [32],jf 34 5 3 [],jl 35 34 [34],jn 36 (.call 32 [.v 33,.v 35]) [33,35],jn 37 (.not (.v 36)) [36]] [2,3,37] (.cond (.v 37) (jq [jn 4 (.mv (.c (.bool false))) []] [4] .ret) .skip)) (.seq (jq [jf 38 6 2 [2],jl 39 38 [38],jf 40 6 3 [3],jl 41 40 [40],jn 42 (.call 33 [.v 39,.v 41]) [39,41],jn 43 (.not (.v 42)) [42]] [43] (.cond (.v 43) (jq [jn 4 (.mv (.c (.bool false))) []] [4] .ret) .skip)) (jq [jn 4 (.mv (.c (.bool true))) []] [4] .ret))))))))) }
theorem QiF : Jd Go.Proofs.Tryz.prog 9 QcV = true := by kernel_rfl
/-- laws.markSky: function 10 -/
def Qak : SFun := { n := 22,res := [.t 4],body := (jq [jn 2 (.box 102 (.v 0)) [0],jI 4 0 [4]] [1,2] (jq [jf 5 3 2 [],jl 6 5 [5],jm 7 1 [1],jn 8 (.call 34 [.v 6,.v 7]) [6,7],jm 1 8 [8]] [1,2] (jq [jf 9 4 2 [],jl 10 9 [9],jm 11 1 [1],jn 12 (.call 35 [.v 10,.v 11]) [10,11],jm 1 12 [12]] [1,2] (jq [jf 13 5 2 [],jl 14 13 [13],jm 15 1 [1],jn 16 (.call 36 [.v 14,.v 15]) [14,15],jm 1 16 [16]] [1,2] (jq [jf 17 6 2 [2],jl 18 17 [17],jm 19 1 [1],jn 20 (.call 37 [.v 18,.v 19]) [18,19],jm 1 20 [20]] [1] (jq [jm 21 1 [1],jm 4 21 [21]] [4] .ret)))))) }
theorem Qfs : Jd Go.Proofs.Tryz.prog 10 Qak = true := by kernel_rfl
/-- laws.markSkyIndex: function 11 -/
def Zk : SFun := { n := 14,res := [.t 4],body := (jq [jn 2 (.box 102 (.v 0)) [0],jI 4 0 [4]] [1,2] (jq [jf 5 0 2 [],jl 6 5 [5],jm 7 1 [1],jn 8 (.call 38 [.v 6,.v 7]) [6,7],jm 1 8 [8]] [1,2] (jq [jf 9 1 2 [2],jl 10 9 [9],jm 11 1 [1],jn 12 (.call 39 [.v 10,.v 11]) [10,11],jm 1 12 [12]] [1] (jq [jm 13 1 [1],jm 4 13 [13]] [4] .ret)))) }
theorem QaF : Jd Go.Proofs.Tryz.prog 11 Zk = true := by kernel_rfl
/-- laws.heldSkyIndex: function 12 -/
def Zl : SFun := { n := 18,res := [.t 4],body := (jq [jn 2 (.box 102 (.v 0)) [0],jI 4 0 [4]] [1,2] (jq [jf 5 0 2 [],jl 6 5 [5],jm 7 1 [1],jn 8 (.call 40 [.v 6,.v 7]) [6,7],jm 1 8 [8]] [1,2] (.seq (jq [jm 9 1 [],jc 10 .lss 9 0 [9]] [1,2,10] (.cond (.v 10) (jq [jn 4 (.mv (.c (.int .i64 (-1)))) []] [4] .ret) .skip)) (jq [jf 11 1 2 [2],jl 12 11 [11],jm 13 1 [1],jn 14 (.call 41 [.v 12,.v 13]) [12,13],jm 1 14 [14]] [1] (.seq (jq [jm 15 1 [],jc 16 .lss 15 0 [15]] [1,16] (.cond (.v 16) (jq [jn 4 (.mv (.c (.int .i64 (-1)))) []] [4] .ret) .skip)) (jq [jm 17 1 [1],jm 4 17 [17]] [4] .ret)))))) }
theorem QaG : Jd Go.Proofs.Tryz.prog 12 Zl = true := by kernel_rfl
def Xz : SCode := (.seq (jq [jm 12 5 [],jm 13 0 [],jn 14 (.lenL (.v 13)) [13],jb 15 .lss 12 14 [12,14]] [0,1,5,15] (.cond (.v 15) .skip (.exit 0))) (.seq (.block 1 (jq [jm 18 0 [],jm 19 5 [],ja 20 3 18 19 [18,19],jL 21 3 20 [20],jm 22 1 [1],jn 23 (.call 42 [.v 21,.v 22]) [21,22],jm 1 23 [23]] [0,1,5] (jq [jm 24 1 [],jc 25 .lss 24 0 [24]] [0,1,5,25] (.cond (.v 25) (jq [jn 4 (.mv (.c (.int .i64 (-1)))) []] [4] .ret) .skip)))) (.rg [jm 16 5 [5],jn 17 (.binN .add (.v 16) (ci 1)) [16],jm 5 17 [17]] [0,1,5])))
/-- laws.szSkyPointS: function 13 -/
def ZQ : SFun := { n := 27,res := [.t 4],body := (jq [jI 4 0 [4]] [0,1] (jq [jm 6 1 [1],jm 7 0 [],jn 8 (.lenL (.v 7)) [7],jn 9 (.binN .sub (.v 6) (.v 8)) [6,8],jm 1 9 [9]] [0,1] (.seq (jq [jm 10 1 [],jc 11 .lss 10 0 [10]] [0,1,11] (.cond (.v 11) (jq [jn 4 (.mv (.c (.int .i64 (-1)))) []] [4] .ret) .skip)) (.seq (jq [jI 5 0 []] [0,1,5] (.block 0 (.loop Xz))) (jq [jm 26 1 [1],jm 4 26 [26]] [4] .ret))))) }
theorem Qbt : Jd Go.Proofs.Tryz.prog 13 ZQ = true := by kernel_rfl
def Xc : SCode := (.seq (jq [jm 12 5 [],jm 13 0 [],jn 14 (.lenL (.v 13)) [13],jb 15 .lss 12 14 [12,14]] [0,1,5,15] (.cond (.v 15) .skip (.exit 0))) (.seq (.block 1 (jq [jm 18 0 [],jm 19 5 [],ja 20 2 18 19 [18,19],jL 21 2 20 [20],jm 22 1 [1],jn 23 (.call 43 [.v 21,.v 22]) [21,22],jm 1 23 [23]] [0,1,5] (jq [jm 24 1 [],jc 25 .lss 24 0 [24]] [0,1,5,25] (.cond (.v 25) (jq [jn 4 (.mv (.c (.int .i64 (-1)))) []] [4] .ret) .skip)))) (.rg [jm 16 5 [5],jn 17 (.binN .add (.v 16) (ci 1)) [16],jm 5 17 [17]] [0,1,5])))
/-- laws.szSkyAirwayS: function 14 -/
def Zm : SFun := { n := 27,res := [.t 4],body := (jq [jI 4 0 [4]] [0,1] (jq [jm 6 1 [1],jm 7 0 [],jn 8 (.lenL (.v 7)) [7],jn 9 (.binN .sub (.v 6) (.v 8)) [6,8],jm 1 9 [9]] [0,1] (.seq (jq [jm 10 1 [],jc 11 .lss 10 0 [10]] [0,1,11] (.cond (.v 11) (jq [jn 4 (.mv (.c (.int .i64 (-1)))) []] [4] .ret) .skip)) (.seq (jq [jI 5 0 []] [0,1,5] (.block 0 (.loop Xc))) (jq [jm 26 1 [1],jm 4 26 [26]] [4] .ret))))) }
theorem QaH : Jd Go.Proofs.Tryz.prog 14 Zm = true := by kernel_rfl
def Xd : SCode := (.seq (jq [jm 12 5 [],jm 13 0 [],jn 14 (.lenL (.v 13)) [13],jb 15 .lss 12 14 [12,14]] [0,1,5,15] (.cond (.v 15) .skip (.exit 0))) (.seq (.block 1 (jq [jm 18 0 [],jm 19 5 [],ja 20 2 18 19 [18,19],jL 21 2 20 [20],jm 22 1 [1],jn 23 (.call 44 [.v 21,.v 22]) [21,22],jm 1 23 [23]] [0,1,5] (jq [jm 24 1 [],jc 25 .lss 24 0 [24]] [0,1,5,25] (.cond (.v 25) (jq [jn 4 (.mv (.c (.int .i64 (-1)))) []] [4] .ret) .skip)))) (.rg [jm 16 5 [5],jn 17 (.binN .add (.v 16) (ci 1)) [16],jm 5 17 [17]] [0,1,5])))
/-- laws.szSkySectorS: function 15 -/
def Zn : SFun := { n := 27,res := [.t 4],body := (jq [jI 4 0 [4]] [0,1] (jq [jm 6 1 [1],jm 7 0 [],jn 8 (.lenL (.v 7)) [7],jn 9 (.binN .sub (.v 6) (.v 8)) [6,8],jm 1 9 [9]] [0,1] (.seq (jq [jm 10 1 [],jc 11 .lss 10 0 [10]] [0,1,11] (.cond (.v 11) (jq [jn 4 (.mv (.c (.int .i64 (-1)))) []] [4] .ret) .skip)) (.seq (jq [jI 5 0 []] [0,1,5] (.block 0 (.loop Xd))) (jq [jm 26 1 [1],jm 4 26 [26]] [4] .ret))))) }
theorem QaI : Jd Go.Proofs.Tryz.prog 15 Zn = true := by kernel_rfl
def Xe : SCode := (.seq (jq [jm 12 5 [],jm 13 0 [],jn 14 (.lenL (.v 13)) [13],jb 15 .lss 12 14 [12,14]] [0,1,5,15] (.cond (.v 15) .skip (.exit 0))) (.seq (.block 1 (jq [jm 18 0 [],jm 19 5 [],ja 20 4 18 19 [18,19],jL 21 4 20 [20],jm 22 1 [1],jn 23 (.call 45 [.v 21,.v 22]) [21,22],jm 1 23 [23]] [0,1,5] (jq [jm 24 1 [],jc 25 .lss 24 0 [24]] [0,1,5,25] (.cond (.v 25) (jq [jn 4 (.mv (.c (.int .i64 (-1)))) []] [4] .ret) .skip)))) (.rg [jm 16 5 [5],jn 17 (.binN .add (.v 16) (ci 1)) [16],jm 5 17 [17]] [0,1,5])))
/-- laws.szSkyRunwayS: function 16 -/
def Zo : SFun := { n := 27,res := [.t 4],body := (jq [jI 4 0 [4]] [0,1] (jq [jm 6 1 [1],jm 7 0 [],jn 8 (.lenL (.v 7)) [7],jn 9 (.binN .sub (.v 6) (.v 8)) [6,8],jm 1 9 [9]] [0,1] (.seq (jq [jm 10 1 [],jc 11 .lss 10 0 [10]] [0,1,11] (.cond (.v 11) (jq [jn 4 (.mv (.c (.int .i64 (-1)))) []] [4] .ret) .skip)) (.seq (jq [jI 5 0 []] [0,1,5] (.block 0 (.loop Xe))) (jq [jm 26 1 [1],jm 4 26 [26]] [4] .ret))))) }
theorem QaJ : Jd Go.Proofs.Tryz.prog 16 Zo = true := by kernel_rfl
/-- spec.SkyValid: function 17 -/
def Wi : SFun := { n := 37,res := [.t 2],body := (jq [jn 1 (.box 101 (.v 0)) [0],jn 2 (.mv (.c (.bool false))) [2]] [1] (.seq (jq [jf 3 0 1 [],jl 4 3 [3],jn 5 (.call 46 [.v 4,.c (.int .i64 1),.c (.int .i64 16)]) [4],jn 6 (.not (.v 5)) [5],jm 7 6 [6],jh 8 7 (.faddr 1 (.v 1)) [],jh 9 7 (.load1 (.v 8)) [8],jh 10 7 (.call 46 [.v 9,.c (.int .i64 1),.c (.int .i64 16)]) [9],jh 11 7 (.not (.v 10)) [10],jp 12 7 11 [7,11],jm 13 12 [12],jh 14 13 (.faddr 2 (.v 1)) [],jh 15 13 (.load1 (.v 14)) [14],jh 16 13 (.call 46 [.v 15,.c (.int .i64 1),.c (.int .i64 6)]) [15],jh 17 13 (.not (.v 16)) [16],jp 18 13 17 [13,17]] [1,18] (.cond (.v 18) (jq [jn 2 (.mv (.c (.bool false))) []] [2] .ret) .skip)) (jq [jL 19 7 1 [],jn 20 (.call 47 [.v 19]) [19],jm 21 20 [20],jt 22 21 (.loadN 7 (.v 1)) [],jt 23 21 (.call 48 [.v 22]) [22],jn 24 (.pick (.v 21) (.v 23) (.c (.bool false))) [21,23],jm 25 24 [24],jt 26 25 (.loadN 7 (.v 1)) [],jt 27 25 (.call 49 [.v 26]) [26],jn 28 (.pick (.v 25) (.v 27) (.c (.bool false))) [25,27],jm 29 28 [28],jt 30 29 (.loadN 7 (.v 1)) [],jt 31 29 (.call 50 [.v 30]) [30],jn 32 (.pick (.v 29) (.v 31) (.c (.bool false))) [29,31],jm 33 32 [32],jt 34 33 (.loadN 7 (.v 1)) [1],jt 35 33 (.call 51 [.v 34]) [34],jn 36 (.pick (.v 33) (.v 35) (.c (.bool false))) [33,35],jm 2 36 [36]] [2] .ret))) }
theorem Qex : Jd Go.Proofs.Tryz.prog 17 Wi = true := by kernel_rfl
/-- spec.l7Way: function 19 -/
def Wj : SFun := { n := 30,res := [.t 6],body := (jq [jn 3 (.box 103 (.v 0)) [0],jn 6 (.mv (.c (.sl 0 1 []))) [6]] [1,2,3] (jq [jf 8 3 3 [],jl 9 8 [8],jm 10 1 [1],jn 11 (.call 53 [.v 9,.v 10]) [9,10],jm 7 11 [11]] [2,3,7] (.seq (jq [jm 12 7 [],jc 13 .lss 12 0 [12],jm 14 13 [13],jh 15 14 (.faddr 3 (.v 3)) [],jh 16 14 (.load1 (.v 15)) [15],jM 17 14 2 [],jh 18 14 (.call 53 [.v 16,.v 17]) [16,17],jh 19 14 (.bin .lss (.v 18) (ci 0)) [18],jp 20 14 19 [14,19]] [2,3,7,20] (.cond (.v 20) (jq [jn 21 (.lit 9 1 []) [],jm 6 21 [21]] [6] (.gh (.frzE 6) .ret)) .skip)) (jq [jn 22 (.litOwn 122 9 1 []) [],jL 23 7 3 [3],jm 24 2 [2],jn 25 (.call 54 [.v 23,.v 24]) [23,24],jm 26 7 [7],ja 27 1 25 26 [25,26],jl 28 27 [27],jn 29 (.app 122 9 1 (.v 22) (.v 28)) [22,28],jm 6 29 [29]] [6] (.gh (.frzE 6) .ret))))) }
theorem QcW : Jd Go.Proofs.Tryz.prog 19 Wj = true := by kernel_rfl
def Wl : SCode := (.seq (jq [jm 7 6 [],jm 8 1 [],jn 9 (.lenL (.v 8)) [8],jb 10 .lss 7 9 [7,9]] [1,2,5,6,10] (.cond (.v 10) .skip (.exit 0))) (.seq (.block 1 (.rgd [jm 13 5 [],jL 14 7 2 [],jm 15 1 [],jm 16 6 [],jn 17 (.binN .sub (.v 16) (ci 1)) [],ja 18 1 15 17 [],jl 19 18 [],jm 20 1 [],jm 21 6 [],ja 22 1 20 21 [],jl 23 22 [],jn 24 (.call 55 [.v 14,.v 19,.v 23]) [],jn 25 (.binN .add (.v 13) (.v 24)) [],jm 5 25 []] [1,2,5,6] [none,none,none,none,none,none,none,none,none,none,none,none,none,none])) (.rg [jm 11 6 [6],jn 12 (.binN .add (.v 11) (ci 1)) [11],jm 6 12 [12]] [1,2,5,6])))
/-- spec.l7Long: function 20 -/
def Qbu : SFun := { n := 27,res := [.t 4],body := (jq [jn 2 (.box 102 (.v 0)) [0],jI 4 0 [4]] [1,2] (jq [jI 5 0 []] [1,2,5] (.seq (jq [jI 6 1 []] [1,2,5,6] (.block 0 (.loop Wl))) (jq [jm 26 5 [5],jm 4 26 [26]] [4] .ret)))) }
theorem Qg0 : Jd Go.Proofs.Tryz.prog 20 Qbu = true := by kernel_rfl
def XA : SCode := (.seq (jq [jm 8 4 [],jm 9 0 [],jn 10 (.lenL (.v 9)) [9],jb 11 .lss 8 10 [8,10]] [0,3,4,11] (.cond (.v 11) .skip (.exit 0))) (.seq (.block 1 (.rg [jm 14 3 [],jm 15 4 [],jm 16 0 [],jm 17 4 [],ja 18 3 16 17 [16,17],jL 19 3 18 [18],jn 20 (.call 56 [.v 19]) [19],ja 21 3 14 15 [14,15],⟨none,.store 3 (.v 21) (.v 20),none,[20,21]⟩] [0,3,4])) (.rg [jm 12 4 [4],jn 13 (.binN .add (.v 12) (ci 1)) [12],jm 4 13 [13]] [0,3,4])))
/-- laws.toSkyPointS: function 21 -/
def ZR : SFun := { n := 23,res := [.t 2],body := (jq [jn 2 (.mv (.c (.sl 0 3 []))) [2]] [0] (jq [jm 5 0 [],jn 6 (.lenL (.v 5)) [5],⟨some 7,.mk 107 58 3 [.str ⟨#[]⟩,.int .i64 0,.int .i64 0] (.v 6),none,[6]⟩,jm 3 7 [7]] [0,3] (.seq (jq [jI 4 0 []] [0,3,4] (.block 0 (.loop XA))) (jq [jm 22 3 [3],jm 2 22 [22]] [2] (.gh (.frzE 2) .ret))))) }
theorem Qbv : Jd Go.Proofs.Tryz.prog 21 ZR = true := by kernel_rfl
def Xf : SCode := (.seq (jq [jm 8 4 [],jm 9 0 [],jn 10 (.lenL (.v 9)) [9],jb 11 .lss 8 10 [8,10]] [0,3,4,11] (.cond (.v 11) .skip (.exit 0))) (.seq (.block 1 (.rg [jm 14 3 [],jm 15 4 [],jm 16 0 [],jm 17 4 [],ja 18 2 16 17 [16,17],jL 19 2 18 [18],jn 20 (.call 57 [.v 19]) [19],ja 21 2 14 15 [14,15],⟨none,.store 2 (.v 21) (.v 20),none,[20,21]⟩] [0,3,4])) (.rg [jm 12 4 [4],jn 13 (.binN .add (.v 12) (ci 1)) [12],jm 4 13 [13]] [0,3,4])))
/-- laws.toSkyAirwayS: function 22 -/
def Zp : SFun := { n := 23,res := [.t 2],body := (jq [jn 2 (.mv (.c (.sl 0 2 []))) [2]] [0] (jq [jm 5 0 [],jn 6 (.lenL (.v 5)) [5],⟨some 7,.mk 107 108 2 [.str ⟨#[]⟩,.sl 0 1 []] (.v 6),none,[6]⟩,jm 3 7 [7]] [0,3] (.seq (jq [jI 4 0 []] [0,3,4] (.block 0 (.loop Xf))) (jq [jm 22 3 [3],jm 2 22 [22]] [2] (.gh (.frzE 2) .ret))))) }
theorem QaK : Jd Go.Proofs.Tryz.prog 22 Zp = true := by kernel_rfl
def Xg : SCode := (.seq (jq [jm 8 4 [],jm 9 0 [],jn 10 (.lenL (.v 9)) [9],jb 11 .lss 8 10 [8,10]] [0,3,4,11] (.cond (.v 11) .skip (.exit 0))) (.seq (.block 1 (.rg [jm 14 3 [],jm 15 4 [],jm 16 0 [],jm 17 4 [],ja 18 2 16 17 [16,17],jL 19 2 18 [18],jn 20 (.call 58 [.v 19]) [19],ja 21 2 14 15 [14,15],⟨none,.store 2 (.v 21) (.v 20),none,[20,21]⟩] [0,3,4])) (.rg [jm 12 4 [4],jn 13 (.binN .add (.v 12) (ci 1)) [12],jm 4 13 [13]] [0,3,4])))
/-- laws.toSkySectorS: function 23 -/
def Zq : SFun := { n := 23,res := [.t 2],body := (jq [jn 2 (.mv (.c (.sl 0 2 []))) [2]] [0] (jq [jm 5 0 [],jn 6 (.lenL (.v 5)) [5],⟨some 7,.mk 107 112 2 [.str ⟨#[]⟩,.sl 0 6 []] (.v 6),none,[6]⟩,jm 3 7 [7]] [0,3] (.seq (jq [jI 4 0 []] [0,3,4] (.block 0 (.loop Xg))) (jq [jm 22 3 [3],jm 2 22 [22]] [2] (.gh (.frzE 2) .ret))))) }
theorem QaL : Jd Go.Proofs.Tryz.prog 23 Zq = true := by kernel_rfl
def Xh : SCode := (.seq (jq [jm 8 4 [],jm 9 0 [],jn 10 (.lenL (.v 9)) [9],jb 11 .lss 8 10 [8,10]] [0,3,4,11] (.cond (.v 11) .skip (.exit 0))) (.seq (.block 1 (.rg [jm 14 3 [],jm 15 4 [],jm 16 0 [],jm 17 4 [],ja 18 4 16 17 [16,17],jL 19 4 18 [18],jn 20 (.call 59 [.v 19]) [19],ja 21 4 14 15 [14,15],⟨none,.store 4 (.v 21) (.v 20),none,[20,21]⟩] [0,3,4])) (.rg [jm 12 4 [4],jn 13 (.binN .add (.v 12) (ci 1)) [12],jm 4 13 [13]] [0,3,4])))
/-- laws.toSkyRunwayS: function 24 -/
def Zr : SFun := { n := 23,res := [.t 2],body := (jq [jn 2 (.mv (.c (.sl 0 4 []))) [2]] [0] (jq [jm 5 0 [],jn 6 (.lenL (.v 5)) [5],⟨some 7,.mk 107 114 4 [.str ⟨#[]⟩,.int .i64 0,.int .i64 0,.int .i64 0] (.v 6),none,[6]⟩,jm 3 7 [7]] [0,3] (.seq (jq [jI 4 0 []] [0,3,4] (.block 0 (.loop Xh))) (jq [jm 22 3 [3],jm 2 22 [22]] [2] (.gh (.frzE 2) .ret))))) }
theorem QaM : Jd Go.Proofs.Tryz.prog 24 Zr = true := by kernel_rfl
def GW : SCode := (.rg [jf 24 0 1 [],jl 25 24 [24],jn 26 (.call 60 [.v 25,.c (.int .i64 1),.c (.int .i64 16)]) [25],jn 27 (.not (.v 26)) [26],jm 28 27 [27],jh 29 28 (.faddr 1 (.v 1)) [],jh 30 28 (.load1 (.v 29)) [29],jh 31 28 (.call 60 [.v 30,.c (.int .i64 1),.c (.int .i64 16)]) [30],jh 32 28 (.not (.v 31)) [31],jp 33 28 32 [28,32],jm 34 33 [33],jh 35 34 (.faddr 2 (.v 1)) [],jh 36 34 (.load1 (.v 35)) [35],jh 37 34 (.call 60 [.v 36,.c (.int .i64 1),.c (.int .i64 6)]) [36],jh 38 34 (.not (.v 37)) [37],jp 39 34 38 [34,38],jm 40 39 [39],jh 41 40 (.faddr 3 (.v 1)) [],jh 42 40 (.load1 (.v 41)) [41],jh 43 40 (.lenL (.v 42)) [42],jh 44 40 (.bin .gtr (.v 43) (ci 16)) [43],jp 45 40 44 [40,44],jm 46 45 [45],jh 47 46 (.faddr 4 (.v 1)) [],jh 48 46 (.load1 (.v 47)) [47],jh 49 46 (.lenL (.v 48)) [48],jh 50 46 (.bin .gtr (.v 49) (ci 8)) [49],jp 51 46 50 [46,50],jm 52 51 [51],jh 53 52 (.faddr 5 (.v 1)) [],jh 54 52 (.load1 (.v 53)) [53],jh 55 52 (.lenL (.v 54)) [54],jh 56 52 (.bin .gtr (.v 55) (ci 6)) [55],jp 57 52 56 [52,56],jm 58 57 [57],jh 59 58 (.faddr 6 (.v 1)) [],jh 60 58 (.load1 (.v 59)) [59],jh 61 58 (.lenL (.v 60)) [60],jh 62 58 (.bin .gtr (.v 61) (ci 4)) [61],jp 63 58 62 [58,62]] [1,63])
def GX : SCode := (.rgd [jf 79 0 6 [],jl 80 79 [],jn 81 (.call 61 [.v 80]) [],jn 82 (.not (.v 81)) [],jm 83 82 [],jh 84 83 (.loadN 7 (.v 1)) [],jh 85 83 (.faddr 1 (.v 6)) [],jh 86 83 (.load1 (.v 85)) [],jh 87 83 (.faddr 2 (.v 6)) [],jh 88 83 (.load1 (.v 87)) [],jh 89 83 (.call 62 [.v 84,.v 86,.v 88]) [],jh 90 83 (.not (.v 89)) [],jp 91 83 90 [],jm 92 91 [],jM 93 92 4 [],jh 94 92 (.loadN 2 (.v 7)) [],jh 95 92 (.look false 2 (.bool false) (.v 93) (.v 94)) [],jp 96 92 95 [],jm 97 96 [],jM 98 97 5 [],jh 99 97 (.bin .gtr (.v 98) (ci 0)) [],jM 100 97 99 [],jt 101 100 (.faddr 0 (.v 6)) [],jt 102 100 (.load1 (.v 101)) [],jt 103 100 (.faddr 3 (.v 1)) [],jt 104 100 (.load1 (.v 103)) [],jt 105 100 (.mv (.v 5)) [],jt 106 100 (.binN .sub (.v 105) (ci 1)) [],jt 107 100 (.iaddr 3 (.v 104) (.v 106)) [],jt 108 100 (.faddr 0 (.v 107)) [],jt 109 100 (.load1 (.v 108)) [],jt 110 100 (.bin .leq (.v 102) (.v 109)) [],jh 111 97 (.pick (.v 100) (.v 110) (.c (.bool false))) [],jp 112 97 111 []] [1,3,4,6,7,67,68,69,112] [none,none,none,none,none,none,none,none,none,none,none,none,none,none,none,none,none,none,none,none,none,none,none,none,none,none,none,none,none,none,none,none,none,none])
def UT : SCode := (jq [jb 70 .lss 69 68 []] [1,3,4,67,68,69,70] (.seq (.cond (.v 70) .skip (.exit 0)) (.seq (.block 1 (jq [jm 71 69 [],ja 72 3 67 69 [],jL 73 3 72 [72],jn 6 (.alloc 106 [.str ⟨#[]⟩,.int .i64 0,.int .i64 0]) [],jm 5 71 [71],⟨none,.store 3 (.v 6) (.v 73),none,[73]⟩] [1,3,4,5,6,67,68,69] (jq [jf 74 1 6 [],jl 75 74 [74],jf 76 2 6 [],jl 77 76 [76],jn 78 (.build [.int .i64 0,.int .i64 0] [(0,1,.v 75),(1,1,.v 77)]) [75,77],jn 7 (.alloc 107 [.int .i64 0,.int .i64 0]) [],⟨none,.store 2 (.v 7) (.v 78),none,[78]⟩] [1,3,4,5,6,7,67,68,69] (.seq (.seq GX (.cond (.v 112) (jq [jn 2 (.mv (.c (.bool false))) []] [2] .ret) .skip)) (jq [jm 113 4 [],jL 114 2 7 [7],⟨none,.mset 2 (.v 113) (.v 114) (.c (.bool true)),none,[113,114]⟩] [1,3,4,6,67,68,69] (.rg [jm 115 3 [],jf 116 0 6 [6],jl 117 116 [116],⟨none,.mset 0 (.v 115) (.v 117) (.c (.bool true)),none,[115,117]⟩] [1,3,4,67,68,69])))))) (.rg [jn 118 (.binN .add (.v 69) (ci 1)) [69],jm 69 118 [118]] [1,3,4,67,68,69]))))
def GY : SCode := (.rgd [jf 127 0 9 [],jl 128 127 [],jn 129 (.call 61 [.v 128]) [],jn 130 (.not (.v 129)) [],jm 131 130 [],jh 132 131 (.faddr 1 (.v 9)) [],jh 133 131 (.load1 (.v 132)) [],jh 134 131 (.lenL (.v 133)) [],jh 135 131 (.call 60 [.v 134,.c (.int .i64 2),.c (.int .i64 8)]) [],jh 136 131 (.not (.v 135)) [],jp 137 131 136 [],jm 138 137 [],jM 139 138 8 [],jh 140 138 (.bin .gtr (.v 139) (ci 0)) [],jM 141 138 140 [],jt 142 141 (.faddr 0 (.v 9)) [],jt 143 141 (.load1 (.v 142)) [],jt 144 141 (.faddr 4 (.v 1)) [],jt 145 141 (.load1 (.v 144)) [],jt 146 141 (.mv (.v 8)) [],jt 147 141 (.binN .sub (.v 146) (ci 1)) [],jt 148 141 (.iaddr 2 (.v 145) (.v 147)) [],jt 149 141 (.faddr 0 (.v 148)) [],jt 150 141 (.load1 (.v 149)) [],jt 151 141 (.bin .leq (.v 143) (.v 150)) [],jh 152 138 (.pick (.v 141) (.v 151) (.c (.bool false))) [],jp 153 138 152 []] [1,3,9,120,121,122,153] [none,none,none,none,none,none,none,none,none,none,none,none,none,none,none,none,none,none,none,none,none,none,none,none,none,none,none])
def UU : SCode := (jq [jb 159 .lss 158 157 []] [1,3,10,120,121,122,156,157,158,159] (.seq (.cond (.v 159) .skip (.exit 4)) (.seq (.block 5 (jq [ja 160 1 156 158 [],jl 161 160 [160],jm 12 161 [161]] [1,3,10,12,120,121,122,156,157,158] (.seq (jq [jm 162 3 [],jm 163 12 [],jn 164 (.look false 0 (.bool false) (.v 162) (.v 163)) [162,163],jn 165 (.not (.v 164)) [164],jm 166 165 [165],jM 167 166 10 [],jM 168 166 12 [],jh 169 166 (.look false 0 (.bool false) (.v 167) (.v 168)) [167,168],jp 170 166 169 [166,169]] [1,3,10,12,120,121,122,156,157,158,170] (.cond (.v 170) (jq [jn 2 (.mv (.c (.bool false))) []] [2] .ret) .skip)) (.rg [jm 171 10 [],jm 172 12 [12],⟨none,.mset 0 (.v 171) (.v 172) (.c (.bool true)),none,[171,172]⟩] [1,3,10,120,121,122,156,157,158])))) (.rg [jn 173 (.binN .add (.v 158) (ci 1)) [158],jm 158 173 [173]] [1,3,10,120,121,122,156,157,158]))))
def UV : SCode := (jq [jb 123 .lss 122 121 []] [1,3,120,121,122,123] (.seq (.cond (.v 123) .skip (.exit 2)) (.seq (.block 3 (jq [jm 124 122 [],ja 125 2 120 122 [],jL 126 2 125 [125],jn 9 (.alloc 109 [.str ⟨#[]⟩,.sl 0 1 []]) [],jm 8 124 [124],⟨none,.store 2 (.v 9) (.v 126),none,[126]⟩] [1,3,8,9,120,121,122] (.seq (.seq GY (.cond (.v 153) (jq [jn 2 (.mv (.c (.bool false))) []] [2] .ret) .skip)) (jq [jn 154 (.mkmap 254 0) [],jm 10 154 [154]] [1,3,9,10,120,121,122] (jq [jf 155 1 9 [9],jl 156 155 [155],jn 157 (.lenL (.v 156)) [],jI 158 0 []] [1,3,10,120,121,122,156,157,158] (.block 4 (.loop UU))))))) (.rg [jn 174 (.binN .add (.v 122) (ci 1)) [122],jm 122 174 [174]] [1,3,120,121,122]))))
def GZ : SCode := (.rgd [jf 183 0 16 [],jl 184 183 [],jn 185 (.call 61 [.v 184]) [],jn 186 (.not (.v 185)) [],jm 187 186 [],jh 188 187 (.faddr 1 (.v 16)) [],jh 189 187 (.load1 (.v 188)) [],jh 190 187 (.lenL (.v 189)) [],jh 191 187 (.call 60 [.v 190,.c (.int .i64 1),.c (.int .i64 4)]) [],jh 192 187 (.not (.v 191)) [],jp 193 187 192 [],jm 194 193 [],jM 195 194 15 [],jh 196 194 (.bin .gtr (.v 195) (ci 0)) [],jM 197 194 196 [],jt 198 197 (.faddr 0 (.v 16)) [],jt 199 197 (.load1 (.v 198)) [],jt 200 197 (.faddr 5 (.v 1)) [],jt 201 197 (.load1 (.v 200)) [],jt 202 197 (.mv (.v 15)) [],jt 203 197 (.binN .sub (.v 202) (ci 1)) [],jt 204 197 (.iaddr 2 (.v 201) (.v 203)) [],jt 205 197 (.faddr 0 (.v 204)) [],jt 206 197 (.load1 (.v 205)) [],jt 207 197 (.bin .leq (.v 199) (.v 206)) [],jh 208 194 (.pick (.v 197) (.v 207) (.c (.bool false))) [],jp 209 194 208 []] [1,13,14,16,176,177,178,209] [none,none,none,none,none,none,none,none,none,none,none,none,none,none,none,none,none,none,none,none,none,none,none,none,none,none,none])
def G0 : SCode := (.rgd [jL 218 7 1 [],jL 219 6 18 [],jn 220 (.call 63 [.v 218,.v 219]) [],jn 221 (.not (.v 220)) [],jm 222 221 [],jM 223 222 17 [],jh 224 222 (.bin .gtr (.v 223) (ci 0)) [],jM 225 222 224 [],jt 226 225 (.faddr 1 (.v 16)) [],jt 227 225 (.load1 (.v 226)) [],jt 228 225 (.mv (.v 17)) [],jt 229 225 (.binN .sub (.v 228) (ci 1)) [],jt 230 225 (.iaddr 6 (.v 227) (.v 229)) [],jt 231 225 (.loadN 6 (.v 230)) [],jt 232 225 (.loadN 6 (.v 18)) [],jt 233 225 (.call 64 [.v 231,.v 232]) [],jt 234 225 (.not (.v 233)) [],jh 235 222 (.pick (.v 225) (.v 234) (.c (.bool false))) [],jp 236 222 235 []] [1,13,14,16,18,176,177,178,211,212,213,236] [none,none,none,none,none,none,none,none,none,none,none,none,none,none,none,none,none,none,none])
def UW : SCode := (jq [jb 240 .lss 239 238 []] [1,13,14,16,18,176,177,178,211,212,213,237,238,239,240] (.seq (.cond (.v 240) .skip (.exit 10)) (.seq (.block 11 (jq [ja 241 6 237 239 [],jL 242 6 241 [241],jn 20 (.alloc 120 [.int .i64 0,.int .i64 0,.int .i64 0,.int .i64 0,.int .i64 0,.int .i64 0]) [],⟨none,.store 6 (.v 20) (.v 242),none,[242]⟩] [1,13,14,16,18,20,176,177,178,211,212,213,237,238,239] (jq [jL 243 6 20 [20],jL 244 6 18 [],jn 245 (.call 65 [.v 243,.v 244]) [243,244]] [1,13,14,16,18,176,177,178,211,212,213,237,238,239,245] (.cond (.v 245) (jq [jn 2 (.mv (.c (.bool false))) []] [2] .ret) .skip)))) (.rg [jn 246 (.binN .add (.v 239) (ci 1)) [239],jm 239 246 [246]] [1,13,14,16,18,176,177,178,211,212,213,237,238,239]))))
def UX : SCode := (jq [jb 214 .lss 213 212 []] [1,13,14,16,176,177,178,211,212,213,214] (.seq (.cond (.v 214) .skip (.exit 8)) (.seq (.block 9 (jq [jm 215 213 [],ja 216 6 211 213 [],jL 217 6 216 [216],jn 18 (.alloc 118 [.int .i64 0,.int .i64 0,.int .i64 0,.int .i64 0,.int .i64 0,.int .i64 0]) [],jm 17 215 [215],⟨none,.store 6 (.v 18) (.v 217),none,[217]⟩] [1,13,14,16,17,18,176,177,178,211,212,213] (.seq (.seq G0 (.cond (.v 236) (jq [jn 2 (.mv (.c (.bool false))) []] [2] .ret) .skip)) (.seq (jq [jm 237 13 [],jn 238 (.lenL (.v 237)) [],jI 239 0 []] [1,13,14,16,18,176,177,178,211,212,213,237,238,239] (.block 10 (.loop UW))) (jq [jm 247 13 [13],jL 248 6 18 [],jn 249 (.lit 122 6 [.v 248]) [248],jn 250 (.app 113 122 6 (.v 247) (.v 249)) [247,249],jm 13 250 [250]] [1,13,14,16,18,176,177,178,211,212,213] (.rg [jm 251 14 [14],jL 252 6 18 [18],jn 253 (.call 66 [.v 252]) [252],jn 254 (.binN .add (.v 251) (.v 253)) [251,253],jm 14 254 [254]] [1,13,14,16,176,177,178,211,212,213])))))) (.rg [jn 255 (.binN .add (.v 213) (ci 1)) [213],jm 213 255 [255]] [1,13,14,16,176,177,178,211,212,213]))))
def UY : SCode := (jq [jb 179 .lss 178 177 []] [1,13,14,176,177,178,179] (.seq (.cond (.v 179) .skip (.exit 6)) (.seq (.block 7 (jq [jm 180 178 [],ja 181 2 176 178 [],jL 182 2 181 [181],jn 16 (.alloc 116 [.str ⟨#[]⟩,.sl 0 6 []]) [],jm 15 180 [180],⟨none,.store 2 (.v 16) (.v 182),none,[182]⟩] [1,13,14,15,16,176,177,178] (.seq (.seq GZ (.cond (.v 209) (jq [jn 2 (.mv (.c (.bool false))) []] [2] .ret) .skip)) (jq [jf 210 1 16 [],jl 211 210 [210],jn 212 (.lenL (.v 211)) [],jI 213 0 []] [1,13,14,16,176,177,178,211,212,213] (.block 8 (.loop UX)))))) (.rg [jn 256 (.binN .add (.v 178) (ci 1)) [178],jm 178 256 [256]] [1,13,14,176,177,178]))))
def G1 : SCode := (.rg [jm 257 14 [14],jf 258 0 1 [],jl 259 258 [258],jf 260 1 1 [],jl 261 260 [260],jn 262 (.binN .mul (.v 259) (.v 261)) [259,261],jf 263 2 1 [],jl 264 263 [263],jn 265 (.binN .mul (.v 262) (.v 264)) [262,264],jb 266 .neq 257 265 [257,265]] [1,266])
def G2 : SCode := (.rgd [jf 281 0 22 [],jl 282 281 [],jn 283 (.call 61 [.v 282]) [],jn 284 (.not (.v 283)) [],jm 285 284 [],jh 286 285 (.loadN 7 (.v 1)) [],jh 287 285 (.loadN 4 (.v 22)) [],jh 288 285 (.call 67 [.v 286,.v 287]) [],jh 289 285 (.not (.v 288)) [],jp 290 285 289 [],jm 291 290 [],jM 292 291 4 [],jh 293 291 (.loadN 2 (.v 23)) [],jh 294 291 (.look false 2 (.bool false) (.v 292) (.v 293)) [],jp 295 291 294 [],jm 296 295 [],jM 297 296 21 [],jh 298 296 (.bin .gtr (.v 297) (ci 0)) [],jM 299 296 298 [],jt 300 299 (.faddr 0 (.v 22)) [],jt 301 299 (.load1 (.v 300)) [],jt 302 299 (.faddr 6 (.v 1)) [],jt 303 299 (.load1 (.v 302)) [],jt 304 299 (.mv (.v 21)) [],jt 305 299 (.binN .sub (.v 304) (ci 1)) [],jt 306 299 (.iaddr 4 (.v 303) (.v 305)) [],jt 307 299 (.faddr 0 (.v 306)) [],jt 308 299 (.load1 (.v 307)) [],jt 309 299 (.bin .leq (.v 301) (.v 308)) [],jh 310 296 (.pick (.v 299) (.v 309) (.c (.bool false))) [],jp 311 296 310 []] [1,4,23,269,270,271,311] [none,none,none,none,none,none,none,none,none,none,none,none,none,none,none,none,none,none,none,none,none,none,none,none,none,none,none,none,none,none,none])
def UZ : SCode := (jq [jb 272 .lss 271 270 []] [1,4,269,270,271,272] (.seq (.cond (.v 272) .skip (.exit 12)) (.seq (.block 13 (jq [jm 273 271 [],ja 274 4 269 271 [],jL 275 4 274 [274],jn 22 (.alloc 122 [.str ⟨#[]⟩,.int .i64 0,.int .i64 0,.int .i64 0]) [],jm 21 273 [273],⟨none,.store 4 (.v 22) (.v 275),none,[275]⟩] [1,4,21,22,269,270,271] (jq [jf 276 1 22 [],jl 277 276 [276],jf 278 2 22 [],jl 279 278 [278],jn 280 (.build [.int .i64 0,.int .i64 0] [(0,1,.v 277),(1,1,.v 279)]) [277,279],jn 23 (.alloc 123 [.int .i64 0,.int .i64 0]) [],⟨none,.store 2 (.v 23) (.v 280),none,[280]⟩] [1,4,21,22,23,269,270,271] (.seq (.seq G2 (.cond (.v 311) (jq [jn 2 (.mv (.c (.bool false))) []] [2] .ret) .skip)) (.rg [jm 312 4 [],jL 313 2 23 [23],⟨none,.mset 2 (.v 312) (.v 313) (.c (.bool true)),none,[312,313]⟩] [1,4,269,270,271]))))) (.rg [jn 314 (.binN .add (.v 271) (ci 1)) [271],jm 271 314 [314]] [1,4,269,270,271]))))
/-- impl.SkyValid: function 25 -/
def Wm : SFun := { n := 315,res := [.t 2],body := (jq [jn 1 (.box 101 (.v 0)) [0],jn 2 (.mv (.c (.bool false))) [2]] [1] (.seq (.seq GW (.cond (.v 63) (jq [jn 2 (.mv (.c (.bool false))) []] [2] .ret) .skip)) (jq [jn 64 (.mkmap 164 0) [],jm 3 64 [64]] [1,3] (jq [jn 65 (.mkmap 165 2) [],jm 4 65 [65]] [1,3,4] (.seq (jq [jf 66 3 1 [],jl 67 66 [66],jn 68 (.lenL (.v 67)) [],jI 69 0 []] [1,3,4,67,68,69] (.block 0 (.loop UT))) (.seq (jq [jf 119 4 1 [],jl 120 119 [119],jn 121 (.lenL (.v 120)) [],jI 122 0 []] [1,3,120,121,122] (.block 2 (.loop UV))) (jq [jn 13 (.newnil 113 122 6) []] [1,13] (jq [jI 14 0 []] [1,13,14] (.seq (jq [jf 175 5 1 [],jl 176 175 [175],jn 177 (.lenL (.v 176)) [],jI 178 0 []] [1,13,14,176,177,178] (.block 6 (.loop UY))) (.seq (.seq G1 (.cond (.v 266) (jq [jn 2 (.mv (.c (.bool false))) []] [2] .ret) .skip)) (jq [jn 267 (.mkmap 367 2) [],jm 4 267 [267]] [1,4] (.seq (jq [jf 268 6 1 [],jl 269 268 [268],jn 270 (.lenL (.v 269)) [],jI 271 0 []] [1,4,269,270,271] (.block 12 (.loop UZ))) (jq [jn 2 (.mv (.c (.bool true))) []] [2] .ret))))))))))))) }
theorem Qey : Jd Go.Proofs.Tryz.prog 25 Wm = true := by kernel_rfl
end Go.Ve

namespace Go.Ve
open Go.Proofs
set_option maxRecDepth 100000
def ZS : SCode := (jq [jb 21 .lss 20 19 []] [3,7,11,12,13,18,19,20,21] (.seq (.cond (.v 21) .skip (.exit 2)) (.seq (.block 3 (jq [ja 22 6 18 20 [],jL 23 6 22 [22],jn 9 (.alloc 109 [.int .i64 0,.int .i64 0,.int .i64 0,.int .i64 0,.int .i64 0,.int .i64 0]) [],⟨none,.store 6 (.v 9) (.v 23),none,[23]⟩] [3,7,9,11,12,13,18,19,20] (jq [jf 24 0 3 [],jl 25 24 [24],jf 26 0 9 [],jl 27 26 [26],jf 28 2 9 [],jl 29 28 [28],jn 30 (.call 60 [.v 25,.v 27,.v 29]) [25,27,29],jm 31 30 [30],jt 32 31 (.faddr 1 (.v 3)) [],jt 33 31 (.load1 (.v 32)) [32],jt 34 31 (.faddr 1 (.v 9)) [],jt 35 31 (.load1 (.v 34)) [34],jt 36 31 (.faddr 3 (.v 9)) [],jt 37 31 (.load1 (.v 36)) [36],jt 38 31 (.call 60 [.v 33,.v 35,.v 37]) [33,35,37],jn 39 (.pick (.v 31) (.v 38) (.c (.bool false))) [31,38],jm 40 39 [39],jt 41 40 (.faddr 2 (.v 3)) [],jt 42 40 (.load1 (.v 41)) [41],jt 43 40 (.faddr 4 (.v 9)) [],jt 44 40 (.load1 (.v 43)) [43],jt 45 40 (.faddr 5 (.v 9)) [9],jt 46 40 (.load1 (.v 45)) [45],jt 47 40 (.call 60 [.v 42,.v 44,.v 46]) [42,44,46],jn 48 (.pick (.v 40) (.v 47) (.c (.bool false))) [40,47]] [3,7,11,12,13,18,19,20,48] (.cond (.v 48) (jq [jf 49 0 7 [7],jl 50 49 [49],jm 4 50 [50],jn 5 (.mv (.c (.bool true))) []] [4,5] .ret) .skip)))) (.rg [jn 51 (.binN .add (.v 20) (ci 1)) [20],jm 20 51 [51]] [3,7,11,12,13,18,19,20]))))
def ZT : SCode := (jq [jb 14 .lss 13 12 []] [3,11,12,13,14] (.seq (.cond (.v 14) .skip (.exit 0)) (.seq (.block 1 (jq [ja 15 2 11 13 [],jL 16 2 15 [15],jn 7 (.alloc 107 [.str ⟨#[]⟩,.sl 0 6 []]) [],⟨none,.store 2 (.v 7) (.v 16),none,[16]⟩] [3,7,11,12,13] (jq [jf 17 1 7 [],jl 18 17 [17],jn 19 (.lenL (.v 18)) [],jI 20 0 []] [3,7,11,12,13,18,19,20] (.block 2 (.loop ZS))))) (.rg [jn 52 (.binN .add (.v 13) (ci 1)) [13],jm 13 52 [52]] [3,11,12,13]))))
/-- impl.Sky).where: function 26 -/
def VF : SFun := { n := 53,res := [.t 4,.t 5],body := (jq [jn 2 (.box 102 (.v 0)) [0],jn 3 (.box 103 (.v 1)) [1],⟨some 4,.mv (.c (.str ⟨#[]⟩)),none,[4]⟩,jn 5 (.mv (.c (.bool false))) [5]] [2,3] (.seq (jq [jf 10 5 2 [2],jl 11 10 [10],jn 12 (.lenL (.v 11)) [],jI 13 0 []] [3,11,12,13] (.block 0 (.loop ZT))) (jq [⟨some 4,.mv (.c (.str ⟨#[]⟩)),none,[]⟩,jn 5 (.mv (.c (.bool false))) []] [4,5] .ret))) }
theorem Qc4 : Jd Go.Proofs.Tryz.prog 26 VF = true := by kernel_rfl
def ZU : SCode := (.seq (jq [jm 11 5 [],jm 12 0 [],jn 13 (.lenL (.v 12)) [12],jb 14 .lss 11 13 [11,13]] [0,1,5,14] (.cond (.v 14) .skip (.exit 0))) (.seq (.block 1 (.seq (.rgd [jm 17 0 [],jm 18 5 [],ja 19 3 17 18 [],jL 20 3 19 [],jm 21 1 [],jm 22 5 [],ja 23 3 21 22 [],jL 24 3 23 [],jn 25 (.call 72 [.v 20,.v 24]) [],jn 26 (.not (.v 25)) []] [0,1,5,26] [none,none,none,none,none,none,none,none,none,none]) (.cond (.v 26) (jq [jn 4 (.mv (.c (.bool false))) []] [4] .ret) .skip))) (.rg [jm 15 5 [5],jn 16 (.binN .add (.v 15) (ci 1)) [15],jm 5 16 [16]] [0,1,5])))
/-- laws.eqSkyRowS: function 28 -/
def VG : SFun := { n := 27,res := [.t 4],body := (jq [jn 4 (.mv (.c (.bool false))) [4]] [0,1] (.seq (jq [jm 6 0 [],jn 7 (.lenL (.v 6)) [6],jm 8 1 [],jn 9 (.lenL (.v 8)) [8],jb 10 .neq 7 9 [7,9]] [0,1,10] (.cond (.v 10) (jq [jn 4 (.mv (.c (.bool false))) []] [4] .ret) .skip)) (.seq (jq [jI 5 0 []] [0,1,5] (.block 0 (.loop ZU))) (jq [jn 4 (.mv (.c (.bool true))) []] [4] .ret)))) }
theorem Qc5 : Jd Go.Proofs.Tryz.prog 28 VG = true := by kernel_rfl
def ZV : SCode := (.seq (jq [jm 11 5 [],jm 12 0 [],jn 13 (.lenL (.v 12)) [12],jb 14 .lss 11 13 [11,13]] [0,1,5,14] (.cond (.v 14) .skip (.exit 0))) (.seq (.block 1 (.seq (.rgd [jm 17 0 [],jm 18 5 [],ja 19 4 17 18 [],jL 20 4 19 [],jm 21 1 [],jm 22 5 [],ja 23 4 21 22 [],jL 24 4 23 [],jn 25 (.call 73 [.v 20,.v 24]) [],jn 26 (.not (.v 25)) []] [0,1,5,26] [none,none,none,none,none,none,none,none,none,none]) (.cond (.v 26) (jq [jn 4 (.mv (.c (.bool false))) []] [4] .ret) .skip))) (.rg [jm 15 5 [5],jn 16 (.binN .add (.v 15) (ci 1)) [15],jm 5 16 [16]] [0,1,5])))
/-- laws.eqSkyHopS: function 29 -/
def VH : SFun := { n := 27,res := [.t 4],body := (jq [jn 4 (.mv (.c (.bool false))) [4]] [0,1] (.seq (jq [jm 6 0 [],jn 7 (.lenL (.v 6)) [6],jm 8 1 [],jn 9 (.lenL (.v 8)) [8],jb 10 .neq 7 9 [7,9]] [0,1,10] (.cond (.v 10) (jq [jn 4 (.mv (.c (.bool false))) []] [4] .ret) .skip)) (.seq (jq [jI 5 0 []] [0,1,5] (.block 0 (.loop ZV))) (jq [jn 4 (.mv (.c (.bool true))) []] [4] .ret)))) }
theorem Qc6 : Jd Go.Proofs.Tryz.prog 29 VH = true := by kernel_rfl
def XB : SCode := (.seq (jq [jm 11 5 [],jm 12 0 [],jn 13 (.lenL (.v 12)) [12],jb 14 .lss 11 13 [11,13]] [0,1,5,14] (.cond (.v 14) .skip (.exit 0))) (.seq (.block 1 (.seq (.rgd [jm 17 0 [],jm 18 5 [],ja 19 3 17 18 [],jL 20 3 19 [],jm 21 1 [],jm 22 5 [],ja 23 3 21 22 [],jL 24 3 23 [],jn 25 (.call 74 [.v 20,.v 24]) [],jn 26 (.not (.v 25)) []] [0,1,5,26] [none,none,none,none,none,none,none,none,none,none]) (.cond (.v 26) (jq [jn 4 (.mv (.c (.bool false))) []] [4] .ret) .skip))) (.rg [jm 15 5 [5],jn 16 (.binN .add (.v 15) (ci 1)) [15],jm 5 16 [16]] [0,1,5])))
/-- laws.eqSkyPointS: function 30 -/
def ZW : SFun := { n := 27,res := [.t 4],body := (jq [jn 4 (.mv (.c (.bool false))) [4]] [0,1] (.seq (jq [jm 6 0 [],jn 7 (.lenL (.v 6)) [6],jm 8 1 [],jn 9 (.lenL (.v 8)) [8],jb 10 .neq 7 9 [7,9]] [0,1,10] (.cond (.v 10) (jq [jn 4 (.mv (.c (.bool false))) []] [4] .ret) .skip)) (.seq (jq [jI 5 0 []] [0,1,5] (.block 0 (.loop XB))) (jq [jn 4 (.mv (.c (.bool true))) []] [4] .ret)))) }
theorem Qbw : Jd Go.Proofs.Tryz.prog 30 ZW = true := by kernel_rfl
def Xi : SCode := (.seq (jq [jm 11 5 [],jm 12 0 [],jn 13 (.lenL (.v 12)) [12],jb 14 .lss 11 13 [11,13]] [0,1,5,14] (.cond (.v 14) .skip (.exit 0))) (.seq (.block 1 (.seq (.rgd [jm 17 0 [],jm 18 5 [],ja 19 2 17 18 [],jL 20 2 19 [],jm 21 1 [],jm 22 5 [],ja 23 2 21 22 [],jL 24 2 23 [],jn 25 (.call 75 [.v 20,.v 24]) [],jn 26 (.not (.v 25)) []] [0,1,5,26] [none,none,none,none,none,none,none,none,none,none]) (.cond (.v 26) (jq [jn 4 (.mv (.c (.bool false))) []] [4] .ret) .skip))) (.rg [jm 15 5 [5],jn 16 (.binN .add (.v 15) (ci 1)) [15],jm 5 16 [16]] [0,1,5])))
/-- laws.eqSkyAirwayS: function 31 -/
def Zs : SFun := { n := 27,res := [.t 4],body := (jq [jn 4 (.mv (.c (.bool false))) [4]] [0,1] (.seq (jq [jm 6 0 [],jn 7 (.lenL (.v 6)) [6],jm 8 1 [],jn 9 (.lenL (.v 8)) [8],jb 10 .neq 7 9 [7,9]] [0,1,10] (.cond (.v 10) (jq [jn 4 (.mv (.c (.bool false))) []] [4] .ret) .skip)) (.seq (jq [jI 5 0 []] [0,1,5] (.block 0 (.loop Xi))) (jq [jn 4 (.mv (.c (.bool true))) []] [4] .ret)))) }
theorem QaN : Jd Go.Proofs.Tryz.prog 31 Zs = true := by kernel_rfl
def Xj : SCode := (.seq (jq [jm 11 5 [],jm 12 0 [],jn 13 (.lenL (.v 12)) [12],jb 14 .lss 11 13 [11,13]] [0,1,5,14] (.cond (.v 14) .skip (.exit 0))) (.seq (.block 1 (.seq (.rgd [jm 17 0 [],jm 18 5 [],ja 19 2 17 18 [],jL 20 2 19 [],jm 21 1 [],jm 22 5 [],ja 23 2 21 22 [],jL 24 2 23 [],jn 25 (.call 76 [.v 20,.v 24]) [],jn 26 (.not (.v 25)) []] [0,1,5,26] [none,none,none,none,none,none,none,none,none,none]) (.cond (.v 26) (jq [jn 4 (.mv (.c (.bool false))) []] [4] .ret) .skip))) (.rg [jm 15 5 [5],jn 16 (.binN .add (.v 15) (ci 1)) [15],jm 5 16 [16]] [0,1,5])))
/-- laws.eqSkySectorS: function 32 -/
def Zt : SFun := { n := 27,res := [.t 4],body := (jq [jn 4 (.mv (.c (.bool false))) [4]] [0,1] (.seq (jq [jm 6 0 [],jn 7 (.lenL (.v 6)) [6],jm 8 1 [],jn 9 (.lenL (.v 8)) [8],jb 10 .neq 7 9 [7,9]] [0,1,10] (.cond (.v 10) (jq [jn 4 (.mv (.c (.bool false))) []] [4] .ret) .skip)) (.seq (jq [jI 5 0 []] [0,1,5] (.block 0 (.loop Xj))) (jq [jn 4 (.mv (.c (.bool true))) []] [4] .ret)))) }
theorem QaO : Jd Go.Proofs.Tryz.prog 32 Zt = true := by kernel_rfl
def Xk : SCode := (.seq (jq [jm 11 5 [],jm 12 0 [],jn 13 (.lenL (.v 12)) [12],jb 14 .lss 11 13 [11,13]] [0,1,5,14] (.cond (.v 14) .skip (.exit 0))) (.seq (.block 1 (.seq (.rgd [jm 17 0 [],jm 18 5 [],ja 19 4 17 18 [],jL 20 4 19 [],jm 21 1 [],jm 22 5 [],ja 23 4 21 22 [],jL 24 4 23 [],jn 25 (.call 77 [.v 20,.v 24]) [],jn 26 (.not (.v 25)) []] [0,1,5,26] [none,none,none,none,none,none,none,none,none,none]) (.cond (.v 26) (jq [jn 4 (.mv (.c (.bool false))) []] [4] .ret) .skip))) (.rg [jm 15 5 [5],jn 16 (.binN .add (.v 15) (ci 1)) [15],jm 5 16 [16]] [0,1,5])))
/-- laws.eqSkyRunwayS: function 33 -/
def Zu : SFun := { n := 27,res := [.t 4],body := (jq [jn 4 (.mv (.c (.bool false))) [4]] [0,1] (.seq (jq [jm 6 0 [],jn 7 (.lenL (.v 6)) [6],jm 8 1 [],jn 9 (.lenL (.v 8)) [8],jb 10 .neq 7 9 [7,9]] [0,1,10] (.cond (.v 10) (jq [jn 4 (.mv (.c (.bool false))) []] [4] .ret) .skip)) (.seq (jq [jI 5 0 []] [0,1,5] (.block 0 (.loop Xk))) (jq [jn 4 (.mv (.c (.bool true))) []] [4] .ret)))) }
theorem QaP : Jd Go.Proofs.Tryz.prog 33 Zu = true := by kernel_rfl
def K4 : SCode := (.seq (jq [jm 6 5 [],jm 7 0 [],jn 8 (.lenL (.v 7)) [7],jb 9 .lss 6 8 [6,8]] [0,1,5,9] (.cond (.v 9) .skip (.exit 0))) (.seq (.block 1 (jq [jm 12 0 [],jm 13 5 [],jm 14 1 [],jn 15 (.call 78 [.v 14]) [14],ja 16 3 12 13 [12,13],jf 17 0 16 [16],⟨none,.store 1 (.v 17) (.v 15),none,[15,17]⟩] [0,1,5] (jq [jm 18 1 [1],jn 19 (.binN .add (.v 18) (ci 1)) [18],jm 1 19 [19]] [0,1,5] (jq [jm 20 0 [],jm 21 5 [],jm 22 1 [],ja 23 3 20 21 [20,21],jf 24 1 23 [23],⟨none,.store 1 (.v 24) (.v 22),none,[22,24]⟩] [0,1,5] (jq [jm 25 1 [1],jn 26 (.binN .add (.v 25) (ci 1)) [25],jm 1 26 [26]] [0,1,5] (jq [jm 27 0 [],jm 28 5 [],jm 29 1 [],ja 30 3 27 28 [27,28],jf 31 2 30 [30],⟨none,.store 1 (.v 31) (.v 29),none,[29,31]⟩] [0,1,5] (.rg [jm 32 1 [1],jn 33 (.binN .add (.v 32) (ci 1)) [32],jm 1 33 [33]] [0,1,5]))))))) (.rg [jm 10 5 [5],jn 11 (.binN .add (.v 10) (ci 1)) [10],jm 5 11 [11]] [0,1,5])))
/-- laws.markSkyPointS: function 34 -/
def XC : SFun := { n := 35,res := [.t 4],body := (jq [jI 4 0 [4]] [0,1] (.seq (jq [jI 5 0 []] [0,1,5] (.block 0 (.loop K4))) (jq [jm 34 1 [1],jm 4 34 [34]] [4] .ret))) }
theorem Qaa : Jd Go.Proofs.Tryz.prog 34 XC = true := by kernel_rfl
def KW : SCode := (.seq (jq [jm 6 5 [],jm 7 0 [],jn 8 (.lenL (.v 7)) [7],jb 9 .lss 6 8 [6,8]] [0,1,5,9] (.cond (.v 9) .skip (.exit 0))) (.seq (.block 1 (jq [jm 12 0 [],jm 13 5 [],jm 14 1 [],jn 15 (.call 78 [.v 14]) [14],ja 16 2 12 13 [12,13],jf 17 0 16 [16],⟨none,.store 1 (.v 17) (.v 15),none,[15,17]⟩] [0,1,5] (jq [jm 18 1 [1],jn 19 (.binN .add (.v 18) (ci 1)) [18],jm 1 19 [19]] [0,1,5] (.rg [jm 20 0 [],jm 21 5 [],ja 22 2 20 21 [20,21],jf 23 1 22 [22],jl 24 23 [23],jm 25 1 [1],jn 26 (.call 79 [.v 24,.v 25]) [24,25],jm 1 26 [26]] [0,1,5])))) (.rg [jm 10 5 [5],jn 11 (.binN .add (.v 10) (ci 1)) [10],jm 5 11 [11]] [0,1,5])))
/-- laws.markSkyAirwayS: function 35 -/
def Xl : SFun := { n := 28,res := [.t 4],body := (jq [jI 4 0 [4]] [0,1] (.seq (jq [jI 5 0 []] [0,1,5] (.block 0 (.loop KW))) (jq [jm 27 1 [1],jm 4 27 [27]] [4] .ret))) }
theorem Wn : Jd Go.Proofs.Tryz.prog 35 Xl = true := by kernel_rfl
def KX : SCode := (.seq (jq [jm 6 5 [],jm 7 0 [],jn 8 (.lenL (.v 7)) [7],jb 9 .lss 6 8 [6,8]] [0,1,5,9] (.cond (.v 9) .skip (.exit 0))) (.seq (.block 1 (jq [jm 12 0 [],jm 13 5 [],jm 14 1 [],jn 15 (.call 78 [.v 14]) [14],ja 16 2 12 13 [12,13],jf 17 0 16 [16],⟨none,.store 1 (.v 17) (.v 15),none,[15,17]⟩] [0,1,5] (jq [jm 18 1 [1],jn 19 (.binN .add (.v 18) (ci 1)) [18],jm 1 19 [19]] [0,1,5] (.rg [jm 20 0 [],jm 21 5 [],ja 22 2 20 21 [20,21],jf 23 1 22 [22],jl 24 23 [23],jm 25 1 [1],jn 26 (.call 80 [.v 24,.v 25]) [24,25],jm 1 26 [26]] [0,1,5])))) (.rg [jm 10 5 [5],jn 11 (.binN .add (.v 10) (ci 1)) [10],jm 5 11 [11]] [0,1,5])))
/-- laws.markSkySectorS: function 36 -/
def Xm : SFun := { n := 28,res := [.t 4],body := (jq [jI 4 0 [4]] [0,1] (.seq (jq [jI 5 0 []] [0,1,5] (.block 0 (.loop KX))) (jq [jm 27 1 [1],jm 4 27 [27]] [4] .ret))) }
theorem Wo : Jd Go.Proofs.Tryz.prog 36 Xm = true := by kernel_rfl
def KY : SCode := (.seq (jq [jm 6 5 [],jm 7 0 [],jn 8 (.lenL (.v 7)) [7],jb 9 .lss 6 8 [6,8]] [0,1,5,9] (.cond (.v 9) .skip (.exit 0))) (.seq (.block 1 (jq [jm 12 0 [],jm 13 5 [],jm 14 1 [],jn 15 (.call 78 [.v 14]) [14],ja 16 4 12 13 [12,13],jf 17 0 16 [16],⟨none,.store 1 (.v 17) (.v 15),none,[15,17]⟩] [0,1,5] (jq [jm 18 1 [1],jn 19 (.binN .add (.v 18) (ci 1)) [18],jm 1 19 [19]] [0,1,5] (jq [jm 20 0 [],jm 21 5 [],jm 22 1 [],ja 23 4 20 21 [20,21],jf 24 1 23 [23],⟨none,.store 1 (.v 24) (.v 22),none,[22,24]⟩] [0,1,5] (jq [jm 25 1 [1],jn 26 (.binN .add (.v 25) (ci 1)) [25],jm 1 26 [26]] [0,1,5] (jq [jm 27 0 [],jm 28 5 [],jm 29 1 [],ja 30 4 27 28 [27,28],jf 31 2 30 [30],⟨none,.store 1 (.v 31) (.v 29),none,[29,31]⟩] [0,1,5] (jq [jm 32 1 [1],jn 33 (.binN .add (.v 32) (ci 1)) [32],jm 1 33 [33]] [0,1,5] (jq [jm 34 0 [],jm 35 5 [],jm 36 1 [],ja 37 4 34 35 [34,35],jf 38 3 37 [37],⟨none,.store 1 (.v 38) (.v 36),none,[36,38]⟩] [0,1,5] (.rg [jm 39 1 [1],jn 40 (.binN .add (.v 39) (ci 1)) [39],jm 1 40 [40]] [0,1,5]))))))))) (.rg [jm 10 5 [5],jn 11 (.binN .add (.v 10) (ci 1)) [10],jm 5 11 [11]] [0,1,5])))
/-- laws.markSkyRunwayS: function 37 -/
def Xn : SFun := { n := 42,res := [.t 4],body := (jq [jI 4 0 [4]] [0,1] (.seq (jq [jI 5 0 []] [0,1,5] (.block 0 (.loop KY))) (jq [jm 41 1 [1],jm 4 41 [41]] [4] .ret))) }
theorem Wp : Jd Go.Proofs.Tryz.prog 37 Xn = true := by kernel_rfl
def YC : SCode := (.seq (jq [jm 6 5 [],jm 7 0 [],jn 8 (.lenL (.v 7)) [7],jb 9 .lss 6 8 [6,8]] [0,1,5,9] (.cond (.v 9) .skip (.exit 0))) (.seq (.block 1 (jq [jm 12 0 [],jm 13 5 [],jm 14 1 [],ja 15 3 12 13 [12,13],jf 16 0 15 [15],⟨none,.store 1 (.v 16) (.v 14),none,[14,16]⟩] [0,1,5] (jq [jm 17 1 [1],jn 18 (.binN .add (.v 17) (ci 1)) [17],jm 1 18 [18]] [0,1,5] (jq [jm 19 0 [],jm 20 5 [],jm 21 1 [],ja 22 3 19 20 [19,20],jf 23 1 22 [22],⟨none,.store 1 (.v 23) (.v 21),none,[21,23]⟩] [0,1,5] (jq [jm 24 1 [1],jn 25 (.binN .add (.v 24) (ci 1)) [24],jm 1 25 [25]] [0,1,5] (.rg [jm 26 0 [],jm 27 5 [],ja 28 3 26 27 [26,27],jf 29 2 28 [28],jl 30 29 [29],jm 31 1 [1],jn 32 (.call 81 [.v 30,.v 31]) [30,31],jm 1 32 [32]] [0,1,5])))))) (.rg [jm 10 5 [5],jn 11 (.binN .add (.v 10) (ci 1)) [10],jm 5 11 [11]] [0,1,5])))
/-- laws.markSkyRowS: function 38 -/
def ZX : SFun := { n := 34,res := [.t 4],body := (jq [jI 4 0 [4]] [0,1] (.seq (jq [jI 5 0 []] [0,1,5] (.block 0 (.loop YC))) (jq [jm 33 1 [1],jm 4 33 [33]] [4] .ret))) }
theorem Qbx : Jd Go.Proofs.Tryz.prog 38 ZX = true := by kernel_rfl
def YD : SCode := (.seq (jq [jm 6 5 [],jm 7 0 [],jn 8 (.lenL (.v 7)) [7],jb 9 .lss 6 8 [6,8]] [0,1,5,9] (.cond (.v 9) .skip (.exit 0))) (.seq (.block 1 (jq [jm 12 0 [],jm 13 5 [],jm 14 1 [],jn 15 (.call 78 [.v 14]) [14],ja 16 4 12 13 [12,13],jf 17 0 16 [16],⟨none,.store 1 (.v 17) (.v 15),none,[15,17]⟩] [0,1,5] (jq [jm 18 1 [1],jn 19 (.binN .add (.v 18) (ci 1)) [18],jm 1 19 [19]] [0,1,5] (jq [jm 20 0 [],jm 21 5 [],jm 22 1 [],jn 23 (.call 78 [.v 22]) [22],ja 24 4 20 21 [20,21],jf 25 1 24 [24],⟨none,.store 1 (.v 25) (.v 23),none,[23,25]⟩] [0,1,5] (jq [jm 26 1 [1],jn 27 (.binN .add (.v 26) (ci 1)) [26],jm 1 27 [27]] [0,1,5] (jq [jm 28 0 [],jm 29 5 [],jm 30 1 [],ja 31 4 28 29 [28,29],jf 32 2 31 [31],⟨none,.store 1 (.v 32) (.v 30),none,[30,32]⟩] [0,1,5] (jq [jm 33 1 [1],jn 34 (.binN .add (.v 33) (ci 1)) [33],jm 1 34 [34]] [0,1,5] (jq [jm 35 0 [],jm 36 5 [],jm 37 1 [],jn 38 (.call 78 [.v 37]) [37],ja 39 4 35 36 [35,36],jf 40 3 39 [39],⟨none,.store 1 (.v 40) (.v 38),none,[38,40]⟩] [0,1,5] (.rg [jm 41 1 [1],jn 42 (.binN .add (.v 41) (ci 1)) [41],jm 1 42 [42]] [0,1,5]))))))))) (.rg [jm 10 5 [5],jn 11 (.binN .add (.v 10) (ci 1)) [10],jm 5 11 [11]] [0,1,5])))
/-- laws.markSkyHopS: function 39 -/
def ZY : SFun := { n := 44,res := [.t 4],body := (jq [jI 4 0 [4]] [0,1] (.seq (jq [jI 5 0 []] [0,1,5] (.block 0 (.loop YD))) (jq [jm 43 1 [1],jm 4 43 [43]] [4] .ret))) }
theorem Qby : Jd Go.Proofs.Tryz.prog 39 ZY = true := by kernel_rfl
def YE : SCode := (.seq (jq [jm 6 5 [],jm 7 0 [],jn 8 (.lenL (.v 7)) [7],jb 9 .lss 6 8 [6,8]] [0,1,5,9] (.cond (.v 9) .skip (.exit 0))) (.seq (.block 1 (.seq (jq [jm 12 0 [],jm 13 5 [],ja 14 3 12 13 [12,13],jf 15 0 14 [14],jl 16 15 [15],jm 17 1 [],jb 18 .neq 16 17 [16,17]] [0,1,5,18] (.cond (.v 18) (jq [jn 4 (.mv (.c (.int .i64 (-1)))) []] [4] .ret) .skip)) (jq [jm 19 1 [1],jn 20 (.binN .add (.v 19) (ci 1)) [19],jm 1 20 [20]] [0,1,5] (.seq (jq [jm 21 0 [],jm 22 5 [],ja 23 3 21 22 [21,22],jf 24 1 23 [23],jl 25 24 [24],jm 26 1 [],jb 27 .neq 25 26 [25,26]] [0,1,5,27] (.cond (.v 27) (jq [jn 4 (.mv (.c (.int .i64 (-1)))) []] [4] .ret) .skip)) (jq [jm 28 1 [1],jn 29 (.binN .add (.v 28) (ci 1)) [28],jm 1 29 [29]] [0,1,5] (jq [jm 30 0 [],jm 31 5 [],ja 32 3 30 31 [30,31],jf 33 2 32 [32],jl 34 33 [33],jm 35 1 [1],jn 36 (.call 82 [.v 34,.v 35]) [34,35],jm 1 36 [36]] [0,1,5] (jq [jm 37 1 [],jc 38 .lss 37 0 [37]] [0,1,5,38] (.cond (.v 38) (jq [jn 4 (.mv (.c (.int .i64 (-1)))) []] [4] .ret) .skip)))))))) (.rg [jm 10 5 [5],jn 11 (.binN .add (.v 10) (ci 1)) [10],jm 5 11 [11]] [0,1,5])))
/-- laws.heldSkyRowS: function 40 -/
def ZZ : SFun := { n := 40,res := [.t 4],body := (jq [jI 4 0 [4]] [0,1] (.seq (jq [jI 5 0 []] [0,1,5] (.block 0 (.loop YE))) (jq [jm 39 1 [1],jm 4 39 [39]] [4] .ret))) }
theorem Qbz : Jd Go.Proofs.Tryz.prog 40 ZZ = true := by kernel_rfl
def YF : SCode := (.seq (jq [jm 6 5 [],jm 7 0 [],jn 8 (.lenL (.v 7)) [7],jb 9 .lss 6 8 [6,8]] [0,1,5,9] (.cond (.v 9) .skip (.exit 0))) (.seq (.block 1 (.seq (.seq (.rgd [jm 12 0 [],jm 13 5 [],ja 14 4 12 13 [],jf 15 0 14 [],jl 16 15 [],jm 17 1 [],jn 18 (.call 78 [.v 17]) [],jb 19 .neq 16 18 []] [0,1,5,19] [none,none,some [],some [],some [],none,some [3,2,1],none]) (.cond (.v 19) (jq [jn 4 (.mv (.c (.int .i64 (-1)))) []] [4] .ret) .skip)) (jq [jm 20 1 [1],jn 21 (.binN .add (.v 20) (ci 1)) [20],jm 1 21 [21]] [0,1,5] (.seq (.seq (.rgd [jm 22 0 [],jm 23 5 [],ja 24 4 22 23 [],jf 25 1 24 [],jl 26 25 [],jm 27 1 [],jn 28 (.call 78 [.v 27]) [],jb 29 .neq 26 28 []] [0,1,5,29] [none,none,some [],some [],some [],none,some [3,2,1],none]) (.cond (.v 29) (jq [jn 4 (.mv (.c (.int .i64 (-1)))) []] [4] .ret) .skip)) (jq [jm 30 1 [1],jn 31 (.binN .add (.v 30) (ci 1)) [30],jm 1 31 [31]] [0,1,5] (.seq (jq [jm 32 0 [],jm 33 5 [],ja 34 4 32 33 [32,33],jf 35 2 34 [34],jl 36 35 [35],jm 37 1 [],jb 38 .neq 36 37 [36,37]] [0,1,5,38] (.cond (.v 38) (jq [jn 4 (.mv (.c (.int .i64 (-1)))) []] [4] .ret) .skip)) (jq [jm 39 1 [1],jn 40 (.binN .add (.v 39) (ci 1)) [39],jm 1 40 [40]] [0,1,5] (.seq (.seq (.rgd [jm 41 0 [],jm 42 5 [],ja 43 4 41 42 [],jf 44 3 43 [],jl 45 44 [],jm 46 1 [],jn 47 (.call 78 [.v 46]) [],jb 48 .neq 45 47 []] [0,1,5,48] [none,none,some [],some [],some [],none,some [3,2,1],none]) (.cond (.v 48) (jq [jn 4 (.mv (.c (.int .i64 (-1)))) []] [4] .ret) .skip)) (.rg [jm 49 1 [1],jn 50 (.binN .add (.v 49) (ci 1)) [49],jm 1 50 [50]] [0,1,5]))))))))) (.rg [jm 10 5 [5],jn 11 (.binN .add (.v 10) (ci 1)) [10],jm 5 11 [11]] [0,1,5])))
/-- laws.heldSkyHopS: function 41 -/
def Z0 : SFun := { n := 52,res := [.t 4],body := (jq [jI 4 0 [4]] [0,1] (.seq (jq [jI 5 0 []] [0,1,5] (.block 0 (.loop YF))) (jq [jm 51 1 [1],jm 4 51 [51]] [4] .ret))) }
theorem QbA : Jd Go.Proofs.Tryz.prog 41 Z0 = true := by kernel_rfl
/-- laws.szSkyPoint: function 42 -/
def U0 : SFun := { n := 13,res := [.t 4],body := (jq [jn 2 (.box 102 (.v 0)) [0],jI 4 0 [4]] [1,2] (jq [jm 5 1 [1],jf 6 0 2 [2],jl 7 6 [6],jn 8 (.lenS (.v 7)) [7],jn 9 (.binN .sub (.v 5) (.v 8)) [5,8],jm 1 9 [9]] [1] (.seq (jq [jm 10 1 [],jc 11 .lss 10 0 [10]] [1,11] (.cond (.v 11) (jq [jn 4 (.mv (.c (.int .i64 (-1)))) []] [4] .ret) .skip)) (jq [jm 12 1 [1],jm 4 12 [12]] [4] .ret)))) }
theorem Qcw : Jd Go.Proofs.Tryz.prog 42 U0 = true := by kernel_rfl
/-- laws.szSkyAirway: function 43 -/
def Z1 : SFun := { n := 19,res := [.t 4],body := (jq [jn 2 (.box 102 (.v 0)) [0],jI 4 0 [4]] [1,2] (jq [jm 5 1 [1],jf 6 0 2 [],jl 7 6 [6],jn 8 (.lenS (.v 7)) [7],jn 9 (.binN .sub (.v 5) (.v 8)) [5,8],jm 1 9 [9]] [1,2] (.seq (jq [jm 10 1 [],jc 11 .lss 10 0 [10]] [1,2,11] (.cond (.v 11) (jq [jn 4 (.mv (.c (.int .i64 (-1)))) []] [4] .ret) .skip)) (jq [jf 12 1 2 [2],jl 13 12 [12],jm 14 1 [1],jn 15 (.call 83 [.v 13,.v 14]) [13,14],jm 1 15 [15]] [1] (.seq (jq [jm 16 1 [],jc 17 .lss 16 0 [16]] [1,17] (.cond (.v 17) (jq [jn 4 (.mv (.c (.int .i64 (-1)))) []] [4] .ret) .skip)) (jq [jm 18 1 [1],jm 4 18 [18]] [4] .ret)))))) }
theorem QbB : Jd Go.Proofs.Tryz.prog 43 Z1 = true := by kernel_rfl
/-- laws.szSkySector: function 44 -/
def Z2 : SFun := { n := 19,res := [.t 4],body := (jq [jn 2 (.box 102 (.v 0)) [0],jI 4 0 [4]] [1,2] (jq [jm 5 1 [1],jf 6 0 2 [],jl 7 6 [6],jn 8 (.lenS (.v 7)) [7],jn 9 (.binN .sub (.v 5) (.v 8)) [5,8],jm 1 9 [9]] [1,2] (.seq (jq [jm 10 1 [],jc 11 .lss 10 0 [10]] [1,2,11] (.cond (.v 11) (jq [jn 4 (.mv (.c (.int .i64 (-1)))) []] [4] .ret) .skip)) (jq [jf 12 1 2 [2],jl 13 12 [12],jm 14 1 [1],jn 15 (.call 84 [.v 13,.v 14]) [13,14],jm 1 15 [15]] [1] (.seq (jq [jm 16 1 [],jc 17 .lss 16 0 [16]] [1,17] (.cond (.v 17) (jq [jn 4 (.mv (.c (.int .i64 (-1)))) []] [4] .ret) .skip)) (jq [jm 18 1 [1],jm 4 18 [18]] [4] .ret)))))) }
theorem QbC : Jd Go.Proofs.Tryz.prog 44 Z2 = true := by kernel_rfl
/-- laws.szSkyRunway: function 45 -/
def Z3 : SFun := { n := 13,res := [.t 4],body := (jq [jn 2 (.box 102 (.v 0)) [0],jI 4 0 [4]] [1,2] (jq [jm 5 1 [1],jf 6 0 2 [2],jl 7 6 [6],jn 8 (.lenS (.v 7)) [7],jn 9 (.binN .sub (.v 5) (.v 8)) [5,8],jm 1 9 [9]] [1] (.seq (jq [jm 10 1 [],jc 11 .lss 10 0 [10]] [1,11] (.cond (.v 11) (jq [jn 4 (.mv (.c (.int .i64 (-1)))) []] [4] .ret) .skip)) (jq [jm 12 1 [1],jm 4 12 [12]] [4] .ret)))) }
theorem QbD : Jd Go.Proofs.Tryz.prog 45 Z3 = true := by kernel_rfl
/-- spec.l1In: function 46 -/
def Qez : SFun := { n := 15,res := [.t 6],body := (jq [jn 6 (.mv (.c (.bool false))) [6]] [0,1,2] (jq [jm 7 0 [],jm 8 1 [1],jb 9 .geq 7 8 [7,8],jm 10 9 [9],jt 11 10 (.mv (.v 0)) [0],jt 12 10 (.mv (.v 2)) [2],jt 13 10 (.bin .leq (.v 11) (.v 12)) [11,12],jn 14 (.pick (.v 10) (.v 13) (.c (.bool false))) [10,13],jm 6 14 [14]] [6] .ret)) }
theorem QjS : Jd Go.Proofs.Tryz.prog 46 Qez = true := by kernel_rfl
def Ga : SCode := (.rgd [jf 22 0 4 [],jl 23 22 [],jn 24 (.call 85 [.v 23]) [],jn 25 (.not (.v 24)) [],jm 26 25 [],jM 27 26 3 [],jh 28 26 (.bin .gtr (.v 27) (ci 0)) [],jM 29 26 28 [],jt 30 29 (.faddr 3 (.v 1)) [],jt 31 29 (.load1 (.v 30)) [],jt 32 29 (.mv (.v 3)) [],jt 33 29 (.binN .sub (.v 32) (ci 1)) [],jt 34 29 (.iaddr 3 (.v 31) (.v 33)) [],jt 35 29 (.faddr 0 (.v 34)) [],jt 36 29 (.load1 (.v 35)) [],jt 37 29 (.faddr 0 (.v 4)) [],jt 38 29 (.load1 (.v 37)) [],jt 39 29 (.bin .geq (.v 36) (.v 38)) [],jh 40 26 (.pick (.v 29) (.v 39) (.c (.bool false))) [],jp 41 26 40 [],jm 42 41 [],jh 43 42 (.faddr 1 (.v 4)) [],jh 44 42 (.load1 (.v 43)) [],jh 45 42 (.faddr 0 (.v 1)) [],jh 46 42 (.load1 (.v 45)) [],jh 47 42 (.binN .sub (.v 46) (ci 1)) [],jh 48 42 (.call 46 [.v 44,.c (.int .i64 0),.v 47]) [],jh 49 42 (.not (.v 48)) [],jp 50 42 49 [],jm 51 50 [],jh 52 51 (.faddr 2 (.v 4)) [],jh 53 51 (.load1 (.v 52)) [],jh 54 51 (.faddr 1 (.v 1)) [],jh 55 51 (.load1 (.v 54)) [],jh 56 51 (.binN .sub (.v 55) (ci 1)) [],jh 57 51 (.call 46 [.v 53,.c (.int .i64 0),.v 56]) [],jh 58 51 (.not (.v 57)) [],jp 59 51 58 []] [1,3,4,59] [none,none,none,none,none,none,none,none,none,none,none,none,none,none,none,none,none,none,none,none,none,none,none,none,none,none,none,none,none,none,none,none,none,none,none,none,none,none])
def Gb : SCode := (.rgd [jf 65 3 1 [],jl 66 65 [],jm 67 5 [],ja 68 3 66 67 [],jf 69 1 68 [],jl 70 69 [],jf 71 1 4 [],jl 72 71 [],jb 73 .eql 70 72 [],jm 74 73 [],jt 75 74 (.faddr 3 (.v 1)) [],jt 76 74 (.load1 (.v 75)) [],jt 77 74 (.mv (.v 5)) [],jt 78 74 (.iaddr 3 (.v 76) (.v 77)) [],jt 79 74 (.faddr 2 (.v 78)) [],jt 80 74 (.load1 (.v 79)) [],jt 81 74 (.faddr 2 (.v 4)) [],jt 82 74 (.load1 (.v 81)) [],jt 83 74 (.bin .eql (.v 80) (.v 82)) [],jn 84 (.pick (.v 74) (.v 83) (.c (.bool false))) []] [1,3,4,5,84] [none,none,none,none,none,none,none,none,none,none,none,none,none,none,none,none,none,none,none,none])
def Zv : SCode := (.seq (jq [jm 60 5 [],jm 61 3 [],jb 62 .lss 60 61 [60,61]] [1,3,4,5,62] (.cond (.v 62) .skip (.exit 2))) (.seq (.block 3 (.seq Gb (.cond (.v 84) (jq [jn 2 (.mv (.c (.bool false))) []] [2] .ret) .skip))) (.rg [jm 63 5 [5],jn 64 (.binN .add (.v 63) (ci 1)) [63],jm 5 64 [64]] [1,3,4,5])))
def Zw : SCode := (.seq (jq [jm 10 3 [],jf 11 3 1 [],jl 12 11 [11],jn 13 (.lenL (.v 12)) [12],jb 14 .lss 10 13 [10,13]] [1,3,14] (.cond (.v 14) .skip (.exit 0))) (.seq (.block 1 (jq [jf 17 3 1 [],jl 18 17 [17],jm 19 3 [],ja 20 3 18 19 [18,19],jL 21 3 20 [20],jn 4 (.alloc 104 [.str ⟨#[]⟩,.int .i64 0,.int .i64 0]) [],⟨none,.store 3 (.v 4) (.v 21),none,[21]⟩] [1,3,4] (.seq (.seq Ga (.cond (.v 59) (jq [jn 2 (.mv (.c (.bool false))) []] [2] .ret) .skip)) (jq [jI 5 0 []] [1,3,4,5] (.block 2 (.loop Zv)))))) (.rg [jm 15 3 [3],jn 16 (.binN .add (.v 15) (ci 1)) [15],jm 3 16 [16]] [1,3])))
/-- spec.l2PointsOk: function 47 -/
def U1 : SFun := { n := 85,res := [.t 2],body := (jq [jn 1 (.box 101 (.v 0)) [0],jn 2 (.mv (.c (.bool false))) [2]] [1] (.seq (jq [jf 6 3 1 [],jl 7 6 [6],jn 8 (.lenL (.v 7)) [7],jc 9 .gtr 8 16 [8]] [1,9] (.cond (.v 9) (jq [jn 2 (.mv (.c (.bool false))) []] [2] .ret) .skip)) (.seq (jq [jI 3 0 []] [1,3] (.block 0 (.loop Zw))) (jq [jn 2 (.mv (.c (.bool true))) []] [2] .ret)))) }
theorem Qcx : Jd Go.Proofs.Tryz.prog 47 U1 = true := by kernel_rfl
end Go.Ve

namespace Go.Ve
open Go.Proofs
set_option maxRecDepth 100000
def YG : SCode := (.rgd [jf 23 0 4 [],jl 24 23 [],jn 25 (.call 85 [.v 24]) [],jn 26 (.not (.v 25)) [],jm 27 26 [],jM 28 27 3 [],jh 29 27 (.bin .gtr (.v 28) (ci 0)) [],jM 30 27 29 [],jt 31 30 (.faddr 4 (.v 1)) [],jt 32 30 (.load1 (.v 31)) [],jt 33 30 (.mv (.v 3)) [],jt 34 30 (.binN .sub (.v 33) (ci 1)) [],jt 35 30 (.iaddr 2 (.v 32) (.v 34)) [],jt 36 30 (.faddr 0 (.v 35)) [],jt 37 30 (.load1 (.v 36)) [],jt 38 30 (.faddr 0 (.v 4)) [],jt 39 30 (.load1 (.v 38)) [],jt 40 30 (.bin .geq (.v 37) (.v 39)) [],jh 41 27 (.pick (.v 30) (.v 40) (.c (.bool false))) [],jp 42 27 41 [],jm 43 42 [],jh 44 43 (.faddr 1 (.v 4)) [],jh 45 43 (.load1 (.v 44)) [],jh 46 43 (.lenL (.v 45)) [],jh 47 43 (.call 46 [.v 46,.c (.int .i64 2),.c (.int .i64 8)]) [],jh 48 43 (.not (.v 47)) [],jp 49 43 48 []] [1,3,4,49] [none,none,none,none,none,none,none,none,none,none,none,none,none,none,none,none,none,none,none,none,none,none,none,none,none,none,none])
def XD : SCode := (.seq (jq [jm 66 6 [],jm 67 5 [],jb 68 .lss 66 67 [66,67]] [1,3,4,5,6,68] (.cond (.v 68) .skip (.exit 4))) (.seq (.block 5 (.seq (.rgd [jf 71 1 4 [],jl 72 71 [],jm 73 6 [],ja 74 1 72 73 [],jl 75 74 [],jf 76 1 4 [],jl 77 76 [],jm 78 5 [],ja 79 1 77 78 [],jl 80 79 [],jb 81 .eql 75 80 []] [1,3,4,5,6,81] [none,none,none,none,none,none,none,none,none,none,none]) (.cond (.v 81) (jq [jn 2 (.mv (.c (.bool false))) []] [2] .ret) .skip))) (.rg [jm 69 6 [6],jn 70 (.binN .add (.v 69) (ci 1)) [69],jm 6 70 [70]] [1,3,4,5,6])))
def XE : SCode := (.seq (jq [jm 50 5 [],jf 51 1 4 [],jl 52 51 [51],jn 53 (.lenL (.v 52)) [52],jb 54 .lss 50 53 [50,53]] [1,3,4,5,54] (.cond (.v 54) .skip (.exit 2))) (.seq (.block 3 (.seq (.seq (.rgd [jf 57 3 1 [],jl 58 57 [],jf 59 1 4 [],jl 60 59 [],jm 61 5 [],ja 62 1 60 61 [],jl 63 62 [],jn 64 (.call 53 [.v 58,.v 63]) [],jc 65 .lss 64 0 []] [1,3,4,5,65] [none,none,none,none,none,none,none,none,none]) (.cond (.v 65) (jq [jn 2 (.mv (.c (.bool false))) []] [2] .ret) .skip)) (jq [jI 6 0 []] [1,3,4,5,6] (.block 4 (.loop XD))))) (.rg [jm 55 5 [5],jn 56 (.binN .add (.v 55) (ci 1)) [55],jm 5 56 [56]] [1,3,4,5])))
def XF : SCode := (.seq (jq [jm 11 3 [],jf 12 4 1 [],jl 13 12 [12],jn 14 (.lenL (.v 13)) [13],jb 15 .lss 11 14 [11,14]] [1,3,15] (.cond (.v 15) .skip (.exit 0))) (.seq (.block 1 (jq [jf 18 4 1 [],jl 19 18 [18],jm 20 3 [],ja 21 2 19 20 [19,20],jL 22 2 21 [21],jn 4 (.alloc 104 [.str ⟨#[]⟩,.sl 0 1 []]) [],⟨none,.store 2 (.v 4) (.v 22),none,[22]⟩] [1,3,4] (.seq (.seq YG (.cond (.v 49) (jq [jn 2 (.mv (.c (.bool false))) []] [2] .ret) .skip)) (jq [jI 5 0 []] [1,3,4,5] (.block 2 (.loop XE)))))) (.rg [jm 16 3 [3],jn 17 (.binN .add (.v 16) (ci 1)) [16],jm 3 17 [17]] [1,3])))
/-- spec.l2AirwaysOk: function 48 -/
def Z4 : SFun := { n := 82,res := [.t 2],body := (jq [jn 1 (.box 101 (.v 0)) [0],jn 2 (.mv (.c (.bool false))) [2]] [1] (.seq (jq [jf 7 4 1 [],jl 8 7 [7],jn 9 (.lenL (.v 8)) [8],jc 10 .gtr 9 8 [9]] [1,10] (.cond (.v 10) (jq [jn 2 (.mv (.c (.bool false))) []] [2] .ret) .skip)) (.seq (jq [jI 3 0 []] [1,3] (.block 0 (.loop XF))) (jq [jn 2 (.mv (.c (.bool true))) []] [2] .ret)))) }
theorem QbE : Jd Go.Proofs.Tryz.prog 48 Z4 = true := by kernel_rfl
def YH : SCode := (.rgd [jf 22 0 4 [],jl 23 22 [],jn 24 (.call 85 [.v 23]) [],jn 25 (.not (.v 24)) [],jm 26 25 [],jM 27 26 3 [],jh 28 26 (.bin .gtr (.v 27) (ci 0)) [],jM 29 26 28 [],jt 30 29 (.faddr 5 (.v 1)) [],jt 31 29 (.load1 (.v 30)) [],jt 32 29 (.mv (.v 3)) [],jt 33 29 (.binN .sub (.v 32) (ci 1)) [],jt 34 29 (.iaddr 2 (.v 31) (.v 33)) [],jt 35 29 (.faddr 0 (.v 34)) [],jt 36 29 (.load1 (.v 35)) [],jt 37 29 (.faddr 0 (.v 4)) [],jt 38 29 (.load1 (.v 37)) [],jt 39 29 (.bin .geq (.v 36) (.v 38)) [],jh 40 26 (.pick (.v 29) (.v 39) (.c (.bool false))) [],jp 41 26 40 [],jm 42 41 [],jh 43 42 (.faddr 1 (.v 4)) [],jh 44 42 (.load1 (.v 43)) [],jh 45 42 (.lenL (.v 44)) [],jh 46 42 (.call 46 [.v 45,.c (.int .i64 1),.c (.int .i64 4)]) [],jh 47 42 (.not (.v 46)) [],jp 48 42 47 []] [1,3,4,48] [none,none,none,none,none,none,none,none,none,none,none,none,none,none,none,none,none,none,none,none,none,none,none,none,none,none,none])
def YI : SCode := (.rgd [jL 56 7 1 [],jf 57 1 4 [],jl 58 57 [],jm 59 5 [],ja 60 6 58 59 [],jL 61 6 60 [],jn 62 (.call 86 [.v 56,.v 61]) [],jn 63 (.not (.v 62)) [],jm 64 63 [],jM 65 64 5 [],jh 66 64 (.bin .gtr (.v 65) (ci 0)) [],jM 67 64 66 [],jt 68 67 (.faddr 1 (.v 4)) [],jt 69 67 (.load1 (.v 68)) [],jt 70 67 (.mv (.v 5)) [],jt 71 67 (.binN .sub (.v 70) (ci 1)) [],jt 72 67 (.iaddr 6 (.v 69) (.v 71)) [],jt 73 67 (.loadN 6 (.v 72)) [],jt 74 67 (.faddr 1 (.v 4)) [],jt 75 67 (.load1 (.v 74)) [],jt 76 67 (.mv (.v 5)) [],jt 77 67 (.iaddr 6 (.v 75) (.v 76)) [],jt 78 67 (.loadN 6 (.v 77)) [],jt 79 67 (.call 87 [.v 73,.v 78]) [],jt 80 67 (.not (.v 79)) [],jh 81 64 (.pick (.v 67) (.v 80) (.c (.bool false))) [],jp 82 64 81 []] [1,3,4,5,82] [none,none,none,none,none,none,none,none,none,none,none,none,none,none,none,none,none,none,none,none,none,none,none,none,none,none,none])
def XG : SCode := (.seq (jq [jm 49 5 [],jf 50 1 4 [],jl 51 50 [50],jn 52 (.lenL (.v 51)) [51],jb 53 .lss 49 52 [49,52]] [1,3,4,5,53] (.cond (.v 53) .skip (.exit 2))) (.seq (.block 3 (.seq YI (.cond (.v 82) (jq [jn 2 (.mv (.c (.bool false))) []] [2] .ret) .skip))) (.rg [jm 54 5 [5],jn 55 (.binN .add (.v 54) (ci 1)) [54],jm 5 55 [55]] [1,3,4,5])))
def XH : SCode := (.seq (jq [jm 10 3 [],jf 11 5 1 [],jl 12 11 [11],jn 13 (.lenL (.v 12)) [12],jb 14 .lss 10 13 [10,13]] [1,3,14] (.cond (.v 14) .skip (.exit 0))) (.seq (.block 1 (jq [jf 17 5 1 [],jl 18 17 [17],jm 19 3 [],ja 20 2 18 19 [18,19],jL 21 2 20 [20],jn 4 (.alloc 104 [.str ⟨#[]⟩,.sl 0 6 []]) [],⟨none,.store 2 (.v 4) (.v 21),none,[21]⟩] [1,3,4] (.seq (.seq YH (.cond (.v 48) (jq [jn 2 (.mv (.c (.bool false))) []] [2] .ret) .skip)) (jq [jI 5 0 []] [1,3,4,5] (.block 2 (.loop XG)))))) (.rg [jm 15 3 [3],jn 16 (.binN .add (.v 15) (ci 1)) [15],jm 3 16 [16]] [1,3])))
/-- spec.l2SectorsOk: function 49 -/
def Z5 : SFun := { n := 83,res := [.t 2],body := (jq [jn 1 (.box 101 (.v 0)) [0],jn 2 (.mv (.c (.bool false))) [2]] [1] (.seq (jq [jf 6 5 1 [],jl 7 6 [6],jn 8 (.lenL (.v 7)) [7],jc 9 .gtr 8 6 [8]] [1,9] (.cond (.v 9) (jq [jn 2 (.mv (.c (.bool false))) []] [2] .ret) .skip)) (.seq (jq [jI 3 0 []] [1,3] (.block 0 (.loop XH))) (jq [jn 2 (.mv (.c (.bool true))) []] [2] .ret)))) }
theorem QbF : Jd Go.Proofs.Tryz.prog 49 Z5 = true := by kernel_rfl
def U2 : SCode := (.seq (jq [jm 42 7 [],jm 43 5 [],jb 44 .lss 42 43 [42,43]] [1,3,4,5,6,7,44] (.cond (.v 44) .skip (.exit 2))) (.seq (.block 3 (.seq (.rgd [jm 47 3 [],jm 48 7 [],ja 49 6 47 48 [],jL 50 6 49 [],jL 51 6 6 [],jn 52 (.call 89 [.v 50,.v 51]) []] [1,3,4,5,6,7,52] [none,none,none,none,none,none]) (.cond (.v 52) (jq [jn 2 (.mv (.c (.bool false))) []] [2] .ret) .skip))) (.rg [jm 45 7 [7],jn 46 (.binN .add (.v 45) (ci 1)) [45],jm 7 46 [46]] [1,3,4,5,6,7])))
def U3 : SCode := (.seq (jq [jm 10 5 [],jm 11 3 [],jn 12 (.lenL (.v 11)) [11],jb 13 .lss 10 12 [10,12]] [1,3,4,5,13] (.cond (.v 13) .skip (.exit 0))) (.seq (.block 1 (jq [jm 16 3 [],jm 17 5 [],ja 18 6 16 17 [16,17],jL 19 6 18 [18],jn 6 (.alloc 106 [.int .i64 0,.int .i64 0,.int .i64 0,.int .i64 0,.int .i64 0,.int .i64 0]) [],⟨none,.store 6 (.v 6) (.v 19),none,[19]⟩] [1,3,4,5,6] (jq [jm 20 4 [4],jf 21 2 6 [],jl 22 21 [21],jf 23 0 6 [],jl 24 23 [23],jn 25 (.binN .sub (.v 22) (.v 24)) [22,24],jn 26 (.binN .add (.v 25) (ci 1)) [25],jf 27 3 6 [],jl 28 27 [27],jf 29 1 6 [],jl 30 29 [29],jn 31 (.binN .sub (.v 28) (.v 30)) [28,30],jn 32 (.binN .add (.v 31) (ci 1)) [31],jn 33 (.binN .mul (.v 26) (.v 32)) [26,32],jf 34 5 6 [],jl 35 34 [34],jf 36 4 6 [],jl 37 36 [36],jn 38 (.binN .sub (.v 35) (.v 37)) [35,37],jn 39 (.binN .add (.v 38) (ci 1)) [38],jn 40 (.binN .mul (.v 33) (.v 39)) [33,39],jn 41 (.binN .add (.v 20) (.v 40)) [20,40],jm 4 41 [41]] [1,3,4,5,6] (jq [jI 7 0 []] [1,3,4,5,6,7] (.block 2 (.loop U2)))))) (.rg [jm 14 5 [5],jn 15 (.binN .add (.v 14) (ci 1)) [14],jm 5 15 [15]] [1,3,4,5])))
/-- spec.l2Covers: function 50 -/
def Wq : SFun := { n := 63,res := [.t 2],body := (jq [jn 1 (.box 101 (.v 0)) [0],jn 2 (.mv (.c (.bool false))) [2]] [1] (jq [jL 8 7 1 [],jn 9 (.call 88 [.v 8]) [8],jm 3 9 [9]] [1,3] (jq [jI 4 0 []] [1,3,4] (.seq (jq [jI 5 0 []] [1,3,4,5] (.block 0 (.loop U3))) (jq [jm 53 4 [4],jf 54 0 1 [],jl 55 54 [54],jf 56 1 1 [],jl 57 56 [56],jn 58 (.binN .mul (.v 55) (.v 57)) [55,57],jf 59 2 1 [1],jl 60 59 [59],jn 61 (.binN .mul (.v 58) (.v 60)) [58,60],jb 62 .eql 53 61 [53,61],jm 2 62 [62]] [2] .ret))))) }
theorem QeA : Jd Go.Proofs.Tryz.prog 50 Wq = true := by kernel_rfl
def YJ : SCode := (.rgd [jf 22 0 4 [],jl 23 22 [],jn 24 (.call 85 [.v 23]) [],jn 25 (.not (.v 24)) [],jm 26 25 [],jM 27 26 3 [],jh 28 26 (.bin .gtr (.v 27) (ci 0)) [],jM 29 26 28 [],jt 30 29 (.faddr 6 (.v 1)) [],jt 31 29 (.load1 (.v 30)) [],jt 32 29 (.mv (.v 3)) [],jt 33 29 (.binN .sub (.v 32) (ci 1)) [],jt 34 29 (.iaddr 4 (.v 31) (.v 33)) [],jt 35 29 (.faddr 0 (.v 34)) [],jt 36 29 (.load1 (.v 35)) [],jt 37 29 (.faddr 0 (.v 4)) [],jt 38 29 (.load1 (.v 37)) [],jt 39 29 (.bin .geq (.v 36) (.v 38)) [],jh 40 26 (.pick (.v 29) (.v 39) (.c (.bool false))) [],jp 41 26 40 [],jm 42 41 [],jh 43 42 (.faddr 1 (.v 4)) [],jh 44 42 (.load1 (.v 43)) [],jh 45 42 (.faddr 0 (.v 1)) [],jh 46 42 (.load1 (.v 45)) [],jh 47 42 (.binN .sub (.v 46) (ci 1)) [],jh 48 42 (.call 46 [.v 44,.c (.int .i64 0),.v 47]) [],jh 49 42 (.not (.v 48)) [],jp 50 42 49 [],jm 51 50 [],jh 52 51 (.faddr 2 (.v 4)) [],jh 53 51 (.load1 (.v 52)) [],jh 54 51 (.faddr 1 (.v 1)) [],jh 55 51 (.load1 (.v 54)) [],jh 56 51 (.binN .sub (.v 55) (ci 1)) [],jh 57 51 (.call 46 [.v 53,.c (.int .i64 0),.v 56]) [],jh 58 51 (.not (.v 57)) [],jp 59 51 58 [],jm 60 59 [],jh 61 60 (.faddr 3 (.v 4)) [],jh 62 60 (.load1 (.v 61)) [],jh 63 60 (.call 46 [.v 62,.c (.int .i64 1),.c (.int .i64 8)]) [],jh 64 60 (.not (.v 63)) [],jp 65 60 64 []] [1,3,4,65] [none,none,none,none,none,none,none,none,none,none,none,none,none,none,none,none,none,none,none,none,none,none,none,none,none,none,none,none,none,none,none,none,none,none,none,none,none,none,none,none,none,none,none,none])
def YK : SCode := (.rgd [jf 66 1 4 [],jl 67 66 [],jf 68 3 4 [],jl 69 68 [],jn 70 (.call 90 [.v 69]) [],jn 71 (.binN .sub (.v 67) (.v 70)) [],jf 72 0 1 [],jl 73 72 [],jn 74 (.binN .sub (.v 73) (ci 1)) [],jn 75 (.call 46 [.v 71,.c (.int .i64 0),.v 74]) [],jn 76 (.not (.v 75)) [],jm 77 76 [],jh 78 77 (.faddr 2 (.v 4)) [],jh 79 77 (.load1 (.v 78)) [],jh 80 77 (.faddr 3 (.v 4)) [],jh 81 77 (.load1 (.v 80)) [],jh 82 77 (.call 91 [.v 81]) [],jh 83 77 (.binN .sub (.v 79) (.v 82)) [],jh 84 77 (.faddr 1 (.v 1)) [],jh 85 77 (.load1 (.v 84)) [],jh 86 77 (.binN .sub (.v 85) (ci 1)) [],jh 87 77 (.call 46 [.v 83,.c (.int .i64 0),.v 86]) [],jh 88 77 (.not (.v 87)) [],jp 89 77 88 []] [1,3,4,89] [some [],some [],none,none,some [3,2],none,some [1],some [2],none,none,none,none,some [],some [],none,none,some [3,2],none,some [1],some [2],none,none,none,none])
def YL : SCode := (.rgd [jf 95 6 1 [],jl 96 95 [],jm 97 5 [],ja 98 4 96 97 [],jf 99 1 98 [],jl 100 99 [],jf 101 1 4 [],jl 102 101 [],jb 103 .eql 100 102 [],jm 104 103 [],jt 105 104 (.faddr 6 (.v 1)) [],jt 106 104 (.load1 (.v 105)) [],jt 107 104 (.mv (.v 5)) [],jt 108 104 (.iaddr 4 (.v 106) (.v 107)) [],jt 109 104 (.faddr 2 (.v 108)) [],jt 110 104 (.load1 (.v 109)) [],jt 111 104 (.faddr 2 (.v 4)) [],jt 112 104 (.load1 (.v 111)) [],jt 113 104 (.bin .eql (.v 110) (.v 112)) [],jn 114 (.pick (.v 104) (.v 113) (.c (.bool false))) []] [1,3,4,5,114] [none,none,none,none,none,none,none,none,none,none,none,none,none,none,none,none,none,none,none,none])
def XI : SCode := (.seq (jq [jm 90 5 [],jm 91 3 [],jb 92 .lss 90 91 [90,91]] [1,3,4,5,92] (.cond (.v 92) .skip (.exit 2))) (.seq (.block 3 (.seq YL (.cond (.v 114) (jq [jn 2 (.mv (.c (.bool false))) []] [2] .ret) .skip))) (.rg [jm 93 5 [5],jn 94 (.binN .add (.v 93) (ci 1)) [93],jm 5 94 [94]] [1,3,4,5])))
def XJ : SCode := (.seq (jq [jm 10 3 [],jf 11 6 1 [],jl 12 11 [11],jn 13 (.lenL (.v 12)) [12],jb 14 .lss 10 13 [10,13]] [1,3,14] (.cond (.v 14) .skip (.exit 0))) (.seq (.block 1 (jq [jf 17 6 1 [],jl 18 17 [17],jm 19 3 [],ja 20 4 18 19 [18,19],jL 21 4 20 [20],jn 4 (.alloc 104 [.str ⟨#[]⟩,.int .i64 0,.int .i64 0,.int .i64 0]) [],⟨none,.store 4 (.v 4) (.v 21),none,[21]⟩] [1,3,4] (.seq (.seq YJ (.cond (.v 65) (jq [jn 2 (.mv (.c (.bool false))) []] [2] .ret) .skip)) (.seq (.seq YK (.cond (.v 89) (jq [jn 2 (.mv (.c (.bool false))) []] [2] .ret) .skip)) (jq [jI 5 0 []] [1,3,4,5] (.block 2 (.loop XI))))))) (.rg [jm 15 3 [3],jn 16 (.binN .add (.v 15) (ci 1)) [15],jm 3 16 [16]] [1,3])))
/-- spec.l2RunwaysOk: function 51 -/
def Z6 : SFun := { n := 115,res := [.t 2],body := (jq [jn 1 (.box 101 (.v 0)) [0],jn 2 (.mv (.c (.bool false))) [2]] [1] (.seq (jq [jf 6 6 1 [],jl 7 6 [6],jn 8 (.lenL (.v 7)) [7],jc 9 .gtr 8 4 [8]] [1,9] (.cond (.v 9) (jq [jn 2 (.mv (.c (.bool false))) []] [2] .ret) .skip)) (.seq (jq [jI 3 0 []] [1,3] (.block 0 (.loop XJ))) (jq [jn 2 (.mv (.c (.bool true))) []] [2] .ret)))) }
theorem QbG : Jd Go.Proofs.Tryz.prog 51 Z6 = true := by kernel_rfl
def VI : SCode := (.seq (jq [jm 15 7 [],jf 16 5 2 [],jl 17 16 [16],jm 18 6 [],ja 19 2 17 18 [17,18],jf 20 1 19 [19],jl 21 20 [20],jn 22 (.lenL (.v 21)) [21],jb 23 .lss 15 22 [15,22]] [2,3,6,7,23] (.cond (.v 23) .skip (.exit 2))) (.seq (.block 3 (.seq (.rgd [jf 26 5 2 [],jl 27 26 [],jm 28 6 [],ja 29 2 27 28 [],jf 30 1 29 [],jl 31 30 [],jm 32 7 [],ja 33 6 31 32 [],jL 34 6 33 [],jL 35 3 3 [],jn 36 (.call 92 [.v 34,.v 35]) []] [2,3,6,7,36] [none,none,none,none,none,none,none,none,none,none,none]) (.cond (.v 36) (jq [jf 37 5 2 [2],jl 38 37 [37],jm 39 6 [6],ja 40 2 38 39 [38,39],jf 41 0 40 [40],jl 42 41 [41],jm 4 42 [42],jn 5 (.mv (.c (.bool true))) []] [4,5] .ret) .skip))) (.rg [jm 24 7 [7],jn 25 (.binN .add (.v 24) (ci 1)) [24],jm 7 25 [25]] [2,3,6,7])))
def VJ : SCode := (.seq (jq [jm 8 6 [],jf 9 5 2 [],jl 10 9 [9],jn 11 (.lenL (.v 10)) [10],jb 12 .lss 8 11 [8,11]] [2,3,6,12] (.cond (.v 12) .skip (.exit 0))) (.seq (.block 1 (jq [jI 7 0 []] [2,3,6,7] (.block 2 (.loop VI)))) (.rg [jm 13 6 [6],jn 14 (.binN .add (.v 13) (ci 1)) [13],jm 6 14 [14]] [2,3,6])))
/-- spec.l5Where: function 52 -/
def Qal : SFun := { n := 43,res := [.t 4,.t 5],body := (jq [jn 2 (.box 102 (.v 0)) [0],jn 3 (.box 103 (.v 1)) [1],⟨some 4,.mv (.c (.str ⟨#[]⟩)),none,[4]⟩,jn 5 (.mv (.c (.bool false))) [5]] [2,3] (.seq (jq [jI 6 0 []] [2,3,6] (.block 0 (.loop VJ))) (jq [⟨some 4,.mv (.c (.str ⟨#[]⟩)),none,[]⟩,jn 5 (.mv (.c (.bool false))) []] [4,5] .ret))) }
theorem Qft : Jd Go.Proofs.Tryz.prog 52 Qal = true := by kernel_rfl
def VK : SCode := (.seq (jq [jm 6 5 [],jm 7 0 [],jn 8 (.lenL (.v 7)) [7],jb 9 .lss 6 8 [6,8]] [0,1,5,9] (.cond (.v 9) .skip (.exit 0))) (.seq (.block 1 (jq [jm 12 0 [],jm 13 5 [],ja 14 3 12 13 [12,13],jf 15 0 14 [14],jl 16 15 [15],jm 17 1 [],jb 18 .eql 16 17 [16,17]] [0,1,5,18] (.cond (.v 18) (jq [jm 19 5 [5],jm 4 19 [19]] [4] .ret) .skip))) (.rg [jm 10 5 [5],jn 11 (.binN .add (.v 10) (ci 1)) [10],jm 5 11 [11]] [0,1,5])))
/-- spec.l2Point: function 53 -/
def Qam : SFun := { n := 20,res := [.t 4],body := (jq [jI 4 0 [4]] [0,1] (.seq (jq [jI 5 0 []] [0,1,5] (.block 0 (.loop VK))) (jq [jn 4 (.mv (.c (.int .i64 (-1)))) []] [4] .ret))) }
theorem Qfu : Jd Go.Proofs.Tryz.prog 53 Qam = true := by kernel_rfl
/-- spec.l7Edge: function 55 -/
def QbH : SFun := { n := 14,res := [.t 6],body := (jq [jn 3 (.box 103 (.v 0)) [0],jI 6 0 [6]] [1,2,3] (.seq (.rgd [jL 7 7 3 [],jm 8 1 [],jn 9 (.call 97 [.v 7,.v 8]) [],jL 10 7 3 [],jm 11 2 [],jn 12 (.call 97 [.v 10,.v 11]) [],jn 13 (.call 96 [.v 9,.v 12]) [],jm 6 13 []] [6] [none,none,some [],some [0],none,none,none,none]) .ret)) }
theorem Qg1 : Jd Go.Proofs.Tryz.prog 55 QbH = true := by kernel_rfl
/-- laws.toSkyPoint: function 56 -/
def U4 : SFun := { n := 14,res := [.cN 2 3],body := (jq [jn 1 (.box 101 (.v 0)) [0],jn 2 (.alloc 102 [.str ⟨#[]⟩,.int .i64 0,.int .i64 0]) []] [1,2] (jq [jn 3 (.alloc 103 [.str ⟨#[]⟩,.int .i64 0,.int .i64 0]) []] [1,2,3] (jq [jf 4 0 1 [],jl 5 4 [4],jf 6 0 3 [],⟨none,.store 1 (.v 6) (.v 5),none,[5,6]⟩] [1,2,3] (jq [jf 7 1 1 [],jl 8 7 [7],jf 9 1 3 [],⟨none,.store 1 (.v 9) (.v 8),none,[8,9]⟩] [1,2,3] (jq [jf 10 2 1 [1],jl 11 10 [10],jf 12 2 3 [],⟨none,.store 1 (.v 12) (.v 11),none,[11,12]⟩] [2,3] (jq [jL 13 3 3 [3],⟨none,.store 3 (.v 2) (.v 13),none,[13]⟩] [2] .ret)))))) }
theorem Qcy : Jd Go.Proofs.Tryz.prog 56 U4 = true := by kernel_rfl
/-- laws.toSkyAirway: function 57 -/
def Gv : SFun := { n := 12,res := [.cN 2 2],body := (jq [jn 1 (.box 101 (.v 0)) [0],jn 2 (.alloc 102 [.str ⟨#[]⟩,.sl 0 1 []]) []] [1,2] (jq [jn 3 (.alloc 103 [.str ⟨#[]⟩,.sl 0 1 []]) []] [1,2,3] (jq [jf 4 0 1 [],jl 5 4 [4],jf 6 0 3 [],⟨none,.store 1 (.v 6) (.v 5),none,[5,6]⟩] [1,2,3] (jq [jf 7 1 1 [1],jl 8 7 [7],jn 9 (.call 98 [.v 8]) [8],jf 10 1 3 [],⟨none,.store 1 (.v 10) (.v 9),none,[9,10]⟩] [2,3] (jq [jL 11 2 3 [3],⟨none,.store 2 (.v 2) (.v 11),none,[11]⟩] [2] .ret))))) }
theorem Z7 : Jd Go.Proofs.Tryz.prog 57 Gv = true := by kernel_rfl
/-- laws.toSkySector: function 58 -/
def Gw : SFun := { n := 12,res := [.cN 2 2],body := (jq [jn 1 (.box 101 (.v 0)) [0],jn 2 (.alloc 102 [.str ⟨#[]⟩,.sl 0 6 []]) []] [1,2] (jq [jn 3 (.alloc 103 [.str ⟨#[]⟩,.sl 0 6 []]) []] [1,2,3] (jq [jf 4 0 1 [],jl 5 4 [4],jf 6 0 3 [],⟨none,.store 1 (.v 6) (.v 5),none,[5,6]⟩] [1,2,3] (jq [jf 7 1 1 [1],jl 8 7 [7],jn 9 (.call 99 [.v 8]) [8],jf 10 1 3 [],⟨none,.store 1 (.v 10) (.v 9),none,[9,10]⟩] [2,3] (jq [jL 11 2 3 [3],⟨none,.store 2 (.v 2) (.v 11),none,[11]⟩] [2] .ret))))) }
theorem Z8 : Jd Go.Proofs.Tryz.prog 58 Gw = true := by kernel_rfl
/-- laws.toSkyRunway: function 59 -/
def Z9 : SFun := { n := 17,res := [.cN 2 4],body := (jq [jn 1 (.box 101 (.v 0)) [0],jn 2 (.alloc 102 [.str ⟨#[]⟩,.int .i64 0,.int .i64 0,.int .i64 0]) []] [1,2] (jq [jn 3 (.alloc 103 [.str ⟨#[]⟩,.int .i64 0,.int .i64 0,.int .i64 0]) []] [1,2,3] (jq [jf 4 0 1 [],jl 5 4 [4],jf 6 0 3 [],⟨none,.store 1 (.v 6) (.v 5),none,[5,6]⟩] [1,2,3] (jq [jf 7 1 1 [],jl 8 7 [7],jf 9 1 3 [],⟨none,.store 1 (.v 9) (.v 8),none,[8,9]⟩] [1,2,3] (jq [jf 10 2 1 [],jl 11 10 [10],jf 12 2 3 [],⟨none,.store 1 (.v 12) (.v 11),none,[11,12]⟩] [1,2,3] (jq [jf 13 3 1 [1],jl 14 13 [13],jf 15 3 3 [],⟨none,.store 1 (.v 15) (.v 14),none,[14,15]⟩] [2,3] (jq [jL 16 4 3 [3],⟨none,.store 4 (.v 2) (.v 16),none,[16]⟩] [2] .ret))))))) }
theorem QbI : Jd Go.Proofs.Tryz.prog 59 Z9 = true := by kernel_rfl
/-- impl.within: function 60 -/
def QbJ : SFun := { n := 15,res := [.t 6],body := (jq [jn 6 (.mv (.c (.bool false))) [6]] [0,1,2] (jq [jm 7 0 [],jm 8 1 [1],jb 9 .geq 7 8 [7,8],jm 10 9 [9],jt 11 10 (.mv (.v 0)) [0],jt 12 10 (.mv (.v 2)) [2],jt 13 10 (.bin .leq (.v 11) (.v 12)) [11,12],jn 14 (.pick (.v 10) (.v 13) (.c (.bool false))) [10,13],jm 6 14 [14]] [6] .ret)) }
theorem Qg2 : Jd Go.Proofs.Tryz.prog 60 QbJ = true := by kernel_rfl
def Wr : SCode := (.seq (jq [jm 13 3 [],jm 14 0 [],jn 15 (.lenS (.v 14)) [14],jb 16 .lss 13 15 [13,15]] [0,3,16] (.cond (.v 16) .skip (.exit 0))) (.seq (.block 1 (jq [jm 19 0 [],jm 20 3 [],jn 21 (.istr (.v 19) (.v 20)) [19,20],jm 4 21 [21]] [0,3,4] (jq [jm 22 4 [],jn 23 (.bin .geq (.v 22) (.c (.int .u8 97))) [22],jm 24 23 [23],jt 25 24 (.mv (.v 4)) [],jt 26 24 (.bin .leq (.v 25) (.c (.int .u8 122))) [25],jn 27 (.pick (.v 24) (.v 26) (.c (.bool false))) [24,26],jm 28 27 [27],jM 29 28 4 [],jh 30 28 (.bin .geq (.v 29) (.c (.int .u8 48))) [29],jM 31 28 30 [30],jt 32 31 (.mv (.v 4)) [],jt 33 31 (.bin .leq (.v 32) (.c (.int .u8 57))) [32],jh 34 28 (.pick (.v 31) (.v 33) (.c (.bool false))) [31,33],jp 35 28 34 [28,34],jm 36 35 [35],jM 37 36 4 [4],jh 38 36 (.bin .eql (.v 37) (.c (.int .u8 45))) [37],jp 39 36 38 [36,38],jn 40 (.not (.v 39)) [39]] [0,3,40] (.cond (.v 40) (jq [jn 2 (.mv (.c (.bool false))) []] [2] .ret) .skip)))) (.rg [jm 17 3 [3],jn 18 (.binN .add (.v 17) (ci 1)) [17],jm 3 18 [18]] [0,3])))
/-- impl.isName: function 61 -/
def QbK : SFun := { n := 41,res := [.t 2],body := (jq [jn 2 (.mv (.c (.bool false))) [2]] [0] (.seq (jq [jm 5 0 [],jn 6 (.lenS (.v 5)) [5],jc 7 .lss 6 1 [6],jm 8 7 [7],jM 9 8 0 [],jh 10 8 (.lenS (.v 9)) [9],jh 11 8 (.bin .gtr (.v 10) (ci 8)) [10],jp 12 8 11 [8,11]] [0,12] (.cond (.v 12) (jq [jn 2 (.mv (.c (.bool false))) []] [2] .ret) .skip)) (.seq (jq [jI 3 0 []] [0,3] (.block 0 (.loop Wr))) (jq [jn 2 (.mv (.c (.bool true))) []] [2] .ret)))) }
theorem Qg3 : Jd Go.Proofs.Tryz.prog 61 QbK = true := by kernel_rfl
/-- impl.Sky).cell: function 62 -/
def Ws : SFun := { n := 19,res := [.t 6],body := (jq [jn 3 (.box 103 (.v 0)) [0],jn 6 (.mv (.c (.bool false))) [6]] [1,2,3] (jq [jm 7 1 [1],jf 8 0 3 [],jl 9 8 [8],jn 10 (.binN .sub (.v 9) (ci 1)) [9],jn 11 (.call 60 [.v 7,.c (.int .i64 0),.v 10]) [7,10],jm 12 11 [11],jt 13 12 (.mv (.v 2)) [2],jt 14 12 (.faddr 1 (.v 3)) [3],jt 15 12 (.load1 (.v 14)) [14],jt 16 12 (.binN .sub (.v 15) (ci 1)) [15],jt 17 12 (.call 60 [.v 13,.c (.int .i64 0),.v 16]) [13,16],jn 18 (.pick (.v 12) (.v 17) (.c (.bool false))) [12,17],jm 6 18 [18]] [6] .ret)) }
theorem QeB : Jd Go.Proofs.Tryz.prog 62 Ws = true := by kernel_rfl
/-- impl.Sky).block: function 63 -/
def VL : SFun := { n := 60,res := [.t 4],body := (jq [jn 2 (.box 102 (.v 0)) [0],jn 3 (.box 103 (.v 1)) [1],jn 4 (.mv (.c (.bool false))) [4]] [2,3] (jq [jf 5 0 3 [],jl 6 5 [5],jn 7 (.bin .leq (ci 0) (.v 6)) [6],jm 8 7 [7],jt 9 8 (.faddr 0 (.v 3)) [],jt 10 8 (.load1 (.v 9)) [9],jt 11 8 (.faddr 2 (.v 3)) [],jt 12 8 (.load1 (.v 11)) [11],jt 13 8 (.bin .leq (.v 10) (.v 12)) [10,12],jn 14 (.pick (.v 8) (.v 13) (.c (.bool false))) [8,13],jm 15 14 [14],jt 16 15 (.faddr 2 (.v 3)) [],jt 17 15 (.load1 (.v 16)) [16],jt 18 15 (.faddr 0 (.v 2)) [],jt 19 15 (.load1 (.v 18)) [18],jt 20 15 (.bin .lss (.v 17) (.v 19)) [17,19],jn 21 (.pick (.v 15) (.v 20) (.c (.bool false))) [15,20],jm 22 21 [21],jt 23 22 (.faddr 1 (.v 3)) [],jt 24 22 (.load1 (.v 23)) [23],jt 25 22 (.bin .leq (ci 0) (.v 24)) [24],jn 26 (.pick (.v 22) (.v 25) (.c (.bool false))) [22,25],jm 27 26 [26],jt 28 27 (.faddr 1 (.v 3)) [],jt 29 27 (.load1 (.v 28)) [28],jt 30 27 (.faddr 3 (.v 3)) [],jt 31 27 (.load1 (.v 30)) [30],jt 32 27 (.bin .leq (.v 29) (.v 31)) [29,31],jn 33 (.pick (.v 27) (.v 32) (.c (.bool false))) [27,32],jm 34 33 [33],jt 35 34 (.faddr 3 (.v 3)) [],jt 36 34 (.load1 (.v 35)) [35],jt 37 34 (.faddr 1 (.v 2)) [],jt 38 34 (.load1 (.v 37)) [37],jt 39 34 (.bin .lss (.v 36) (.v 38)) [36,38],jn 40 (.pick (.v 34) (.v 39) (.c (.bool false))) [34,39],jm 41 40 [40],jt 42 41 (.faddr 4 (.v 3)) [],jt 43 41 (.load1 (.v 42)) [42],jt 44 41 (.bin .leq (ci 1) (.v 43)) [43],jn 45 (.pick (.v 41) (.v 44) (.c (.bool false))) [41,44],jm 46 45 [45],jt 47 46 (.faddr 4 (.v 3)) [],jt 48 46 (.load1 (.v 47)) [47],jt 49 46 (.faddr 5 (.v 3)) [],jt 50 46 (.load1 (.v 49)) [49],jt 51 46 (.bin .leq (.v 48) (.v 50)) [48,50],jn 52 (.pick (.v 46) (.v 51) (.c (.bool false))) [46,51],jm 53 52 [52],jt 54 53 (.faddr 5 (.v 3)) [3],jt 55 53 (.load1 (.v 54)) [54],jt 56 53 (.faddr 2 (.v 2)) [2],jt 57 53 (.load1 (.v 56)) [56],jt 58 53 (.bin .leq (.v 55) (.v 57)) [55,57],jn 59 (.pick (.v 53) (.v 58) (.c (.bool false))) [53,58],jm 4 59 [59]] [4] .ret)) }
theorem Qc7 : Jd Go.Proofs.Tryz.prog 63 VL = true := by kernel_rfl
/-- impl.blockLess: function 64 -/
def VM : SFun := { n := 32,res := [.t 4],body := (jq [jn 2 (.box 102 (.v 0)) [0],jn 3 (.box 103 (.v 1)) [1],jn 4 (.mv (.c (.bool false))) [4]] [2,3] (.seq (.block 0 (jq [jf 6 0 2 [],jl 7 6 [6],jf 8 0 3 [],jl 9 8 [8],jb 10 .neq 7 9 [7,9],jm 5 10 [10]] [2,3,5] (.cond (.v 5) (jq [jf 11 0 2 [2],jl 12 11 [11],jf 13 0 3 [3],jl 14 13 [13],jb 15 .lss 12 14 [12,14],jm 4 15 [15]] [4] .ret) (jq [jf 17 1 2 [],jl 18 17 [17],jf 19 1 3 [],jl 20 19 [19],jb 21 .neq 18 20 [18,20],jm 16 21 [21]] [2,3,16] (.cond (.v 16) (jq [jf 22 1 2 [2],jl 23 22 [22],jf 24 1 3 [3],jl 25 24 [24],jb 26 .lss 23 25 [23,25],jm 4 26 [26]] [4] .ret) .skip))))) (jq [jf 27 4 2 [2],jl 28 27 [27],jf 29 4 3 [3],jl 30 29 [29],jb 31 .lss 28 30 [28,30],jm 4 31 [31]] [4] .ret))) }
theorem Qc8 : Jd Go.Proofs.Tryz.prog 64 VM = true := by kernel_rfl
/-- impl.meets: function 65 -/
def QcX : SFun := { n := 45,res := [.t 4],body := (jq [jn 2 (.box 102 (.v 0)) [0],jn 3 (.box 103 (.v 1)) [1],jn 4 (.mv (.c (.bool false))) [4]] [2,3] (jq [jf 5 0 2 [],jl 6 5 [5],jf 7 2 3 [],jl 8 7 [7],jb 9 .leq 6 8 [6,8],jm 10 9 [9],jt 11 10 (.faddr 0 (.v 3)) [],jt 12 10 (.load1 (.v 11)) [11],jt 13 10 (.faddr 2 (.v 2)) [],jt 14 10 (.load1 (.v 13)) [13],jt 15 10 (.bin .leq (.v 12) (.v 14)) [12,14],jn 16 (.pick (.v 10) (.v 15) (.c (.bool false))) [10,15],jm 17 16 [16],jt 18 17 (.faddr 1 (.v 2)) [],jt 19 17 (.load1 (.v 18)) [18],jt 20 17 (.faddr 3 (.v 3)) [],jt 21 17 (.load1 (.v 20)) [20],jt 22 17 (.bin .leq (.v 19) (.v 21)) [19,21],jn 23 (.pick (.v 17) (.v 22) (.c (.bool false))) [17,22],jm 24 23 [23],jt 25 24 (.faddr 1 (.v 3)) [],jt 26 24 (.load1 (.v 25)) [25],jt 27 24 (.faddr 3 (.v 2)) [],jt 28 24 (.load1 (.v 27)) [27],jt 29 24 (.bin .leq (.v 26) (.v 28)) [26,28],jn 30 (.pick (.v 24) (.v 29) (.c (.bool false))) [24,29],jm 31 30 [30],jt 32 31 (.faddr 4 (.v 2)) [],jt 33 31 (.load1 (.v 32)) [32],jt 34 31 (.faddr 5 (.v 3)) [],jt 35 31 (.load1 (.v 34)) [34],jt 36 31 (.bin .leq (.v 33) (.v 35)) [33,35],jn 37 (.pick (.v 31) (.v 36) (.c (.bool false))) [31,36],jm 38 37 [37],jt 39 38 (.faddr 4 (.v 3)) [3],jt 40 38 (.load1 (.v 39)) [39],jt 41 38 (.faddr 5 (.v 2)) [2],jt 42 38 (.load1 (.v 41)) [41],jt 43 38 (.bin .leq (.v 40) (.v 42)) [40,42],jn 44 (.pick (.v 38) (.v 43) (.c (.bool false))) [38,43],jm 4 44 [44]] [4] .ret)) }
theorem QiG : Jd Go.Proofs.Tryz.prog 65 QcX = true := by kernel_rfl
/-- impl.SkyBlock).places: function 66 -/
def GN : SFun := { n := 23,res := [.t 2],body := (jq [jn 1 (.box 101 (.v 0)) [0],jI 2 0 [2]] [1] (jq [jf 3 2 1 [],jl 4 3 [3],jf 5 0 1 [],jl 6 5 [5],jn 7 (.binN .sub (.v 4) (.v 6)) [4,6],jn 8 (.binN .add (.v 7) (ci 1)) [7],jf 9 3 1 [],jl 10 9 [9],jf 11 1 1 [],jl 12 11 [11],jn 13 (.binN .sub (.v 10) (.v 12)) [10,12],jn 14 (.binN .add (.v 13) (ci 1)) [13],jn 15 (.binN .mul (.v 8) (.v 14)) [8,14],jf 16 5 1 [],jl 17 16 [16],jf 18 4 1 [1],jl 19 18 [18],jn 20 (.binN .sub (.v 17) (.v 19)) [17,19],jn 21 (.binN .add (.v 20) (ci 1)) [20],jn 22 (.binN .mul (.v 15) (.v 21)) [15,21],jm 2 22 [22]] [2] .ret)) }
theorem VZ : Jd Go.Proofs.Tryz.prog 66 GN = true := by kernel_rfl
/-- impl.Sky).runway: function 67 -/
def G3 : SFun := { n := 34,res := [.t 4],body := (jq [jn 2 (.box 102 (.v 0)) [0],jn 3 (.box 103 (.v 1)) [1],jn 4 (.mv (.c (.bool false))) [4]] [2,3] (.seq (jq [jf 6 3 3 [],jl 7 6 [6],jn 8 (.call 60 [.v 7,.c (.int .i64 1),.c (.int .i64 8)]) [7],jn 9 (.not (.v 8)) [8]] [2,3,9] (.cond (.v 9) (jq [jn 4 (.mv (.c (.bool false))) []] [4] .ret) .skip)) (jq [jf 10 3 3 [],jl 11 10 [10],jn 12 (.iaddrA 9 2 (.g 0) (.v 11)) [11],jL 13 2 12 [12],jn 5 (.alloc 105 [.int .i64 0,.int .i64 0]) [],⟨none,.store 2 (.v 5) (.v 13),none,[13]⟩] [2,3,5] (jq [jL 14 7 2 [],jf 15 1 3 [],jl 16 15 [15],jf 17 2 3 [],jl 18 17 [17],jn 19 (.call 62 [.v 14,.v 16,.v 18]) [14,16,18],jm 20 19 [19],jt 21 20 (.loadN 7 (.v 2)) [2],jt 22 20 (.faddr 1 (.v 3)) [],jt 23 20 (.load1 (.v 22)) [22],jt 24 20 (.iaddrA 2 1 (.v 5) (ci 0)) [],jt 25 20 (.load1 (.v 24)) [24],jt 26 20 (.binN .sub (.v 23) (.v 25)) [23,25],jt 27 20 (.faddr 2 (.v 3)) [3],jt 28 20 (.load1 (.v 27)) [27],jt 29 20 (.iaddrA 2 1 (.v 5) (ci 1)) [5],jt 30 20 (.load1 (.v 29)) [29],jt 31 20 (.binN .sub (.v 28) (.v 30)) [28,30],jt 32 20 (.call 62 [.v 21,.v 26,.v 31]) [21,26,31],jn 33 (.pick (.v 20) (.v 32) (.c (.bool false))) [20,32],jm 4 33 [33]] [4] .ret)))) }
theorem U5 : Jd Go.Proofs.Tryz.prog 67 G3 = true := by kernel_rfl
/-- impl.Sky).point: function 68 -/
def VN : SFun := { n := 9,res := [.t 4],body := (jq [jn 2 (.box 102 (.v 0)) [0],jn 3 (.box 103 (.v 1)) [1],jI 4 0 [4]] [2,3] (jq [jf 5 3 2 [2],jl 6 5 [5],jn 7 (.clos 101 [.v 3]) [3],jn 8 (.call 100 [.v 6,.v 7]) [6,7],jm 4 8 [8]] [4] .ret)) }
theorem Qc9 : Jd Go.Proofs.Tryz.prog 68 VN = true := by kernel_rfl
/-- impl.dist: function 69 -/
def QeC : SFun := { n := 14,res := [.t 4],body := (jq [jI 4 0 [4]] [0,1] (.seq (jq [jm 5 0 [],jm 6 1 [],jb 7 .gtr 5 6 [5,6]] [0,1,7] (.cond (.v 7) (jq [jm 8 0 [0],jm 9 1 [1],jn 10 (.binN .sub (.v 8) (.v 9)) [8,9],jm 4 10 [10]] [4] .ret) .skip)) (jq [jm 11 1 [1],jm 12 0 [0],jn 13 (.binN .sub (.v 11) (.v 12)) [11,12],jm 4 13 [13]] [4] .ret))) }
theorem QjT : Jd Go.Proofs.Tryz.prog 69 QeC = true := by kernel_rfl
/-- impl.skyWay).better: function 71 -/
def XK : SFun := { n := 37,res := [.t 4],body := (jq [jn 2 (.box 102 (.v 0)) [0],jn 3 (.box 103 (.v 1)) [1],jn 4 (.mv (.c (.bool false))) [4]] [2,3] (.seq (.block 0 (jq [jf 6 0 2 [],jl 7 6 [6],jf 8 0 3 [],jl 9 8 [8],jb 10 .neq 7 9 [7,9],jm 5 10 [10]] [2,3,5] (.cond (.v 5) (jq [jf 11 0 2 [2],jl 12 11 [11],jf 13 0 3 [3],jl 14 13 [13],jb 15 .lss 12 14 [12,14],jm 4 15 [15]] [4] .ret) (jq [jf 17 1 2 [],jl 18 17 [17],jn 19 (.lenL (.v 18)) [18],jf 20 1 3 [],jl 21 20 [20],jn 22 (.lenL (.v 21)) [21],jb 23 .neq 19 22 [19,22],jm 16 23 [23]] [2,3,16] (.cond (.v 16) (jq [jf 24 1 2 [2],jl 25 24 [24],jn 26 (.lenL (.v 25)) [25],jf 27 1 3 [3],jl 28 27 [27],jn 29 (.lenL (.v 28)) [28],jb 30 .lss 26 29 [26,29],jm 4 30 [30]] [4] .ret) .skip))))) (jq [jf 31 1 2 [2],jl 32 31 [31],jf 33 1 3 [3],jl 34 33 [33],jn 35 (.call 102 [.v 32,.v 34]) [32,34],jc 36 .lss 35 0 [35],jm 4 36 [36]] [4] .ret))) }
theorem Qab : Jd Go.Proofs.Tryz.prog 71 XK = true := by kernel_rfl
/-- laws.eqSkyRow: function 72 -/
def Wt : SFun := { n := 21,res := [.t 4],body := (jq [jn 2 (.box 102 (.v 0)) [0],jn 3 (.box 103 (.v 1)) [1],jn 4 (.mv (.c (.bool false))) [4]] [2,3] (.seq (jq [jf 5 0 2 [],jl 6 5 [5],jf 7 0 3 [],jl 8 7 [7],jb 9 .neq 6 8 [6,8]] [2,3,9] (.cond (.v 9) (jq [jn 4 (.mv (.c (.bool false))) []] [4] .ret) .skip)) (.seq (jq [jf 10 1 2 [],jl 11 10 [10],jf 12 1 3 [],jl 13 12 [12],jb 14 .neq 11 13 [11,13]] [2,3,14] (.cond (.v 14) (jq [jn 4 (.mv (.c (.bool false))) []] [4] .ret) .skip)) (.seq (jq [jf 15 2 2 [2],jl 16 15 [15],jf 17 2 3 [3],jl 18 17 [17],jn 19 (.call 103 [.v 16,.v 18]) [16,18],jn 20 (.not (.v 19)) [19]] [20] (.cond (.v 20) (jq [jn 4 (.mv (.c (.bool false))) []] [4] .ret) .skip)) (jq [jn 4 (.mv (.c (.bool true))) []] [4] .ret))))) }
theorem QeD : Jd Go.Proofs.Tryz.prog 72 Wt = true := by kernel_rfl
/-- laws.eqSkyHop: function 73 -/
def Wu : SFun := { n := 25,res := [.t 4],body := (jq [jn 2 (.box 102 (.v 0)) [0],jn 3 (.box 103 (.v 1)) [1],jn 4 (.mv (.c (.bool false))) [4]] [2,3] (.seq (jq [jf 5 0 2 [],jl 6 5 [5],jf 7 0 3 [],jl 8 7 [7],jb 9 .neq 6 8 [6,8]] [2,3,9] (.cond (.v 9) (jq [jn 4 (.mv (.c (.bool false))) []] [4] .ret) .skip)) (.seq (jq [jf 10 1 2 [],jl 11 10 [10],jf 12 1 3 [],jl 13 12 [12],jb 14 .neq 11 13 [11,13]] [2,3,14] (.cond (.v 14) (jq [jn 4 (.mv (.c (.bool false))) []] [4] .ret) .skip)) (.seq (jq [jf 15 2 2 [],jl 16 15 [15],jf 17 2 3 [],jl 18 17 [17],jb 19 .neq 16 18 [16,18]] [2,3,19] (.cond (.v 19) (jq [jn 4 (.mv (.c (.bool false))) []] [4] .ret) .skip)) (.seq (jq [jf 20 3 2 [2],jl 21 20 [20],jf 22 3 3 [3],jl 23 22 [22],jb 24 .neq 21 23 [21,23]] [24] (.cond (.v 24) (jq [jn 4 (.mv (.c (.bool false))) []] [4] .ret) .skip)) (jq [jn 4 (.mv (.c (.bool true))) []] [4] .ret)))))) }
theorem QeE : Jd Go.Proofs.Tryz.prog 73 Wu = true := by kernel_rfl
/-- laws.eqSkyPoint: function 74 -/
def U6 : SFun := { n := 20,res := [.t 4],body := (jq [jn 2 (.box 102 (.v 0)) [0],jn 3 (.box 103 (.v 1)) [1],jn 4 (.mv (.c (.bool false))) [4]] [2,3] (.seq (jq [jf 5 0 2 [],jl 6 5 [5],jf 7 0 3 [],jl 8 7 [7],jb 9 .neq 6 8 [6,8]] [2,3,9] (.cond (.v 9) (jq [jn 4 (.mv (.c (.bool false))) []] [4] .ret) .skip)) (.seq (jq [jf 10 1 2 [],jl 11 10 [10],jf 12 1 3 [],jl 13 12 [12],jb 14 .neq 11 13 [11,13]] [2,3,14] (.cond (.v 14) (jq [jn 4 (.mv (.c (.bool false))) []] [4] .ret) .skip)) (.seq (jq [jf 15 2 2 [2],jl 16 15 [15],jf 17 2 3 [3],jl 18 17 [17],jb 19 .neq 16 18 [16,18]] [19] (.cond (.v 19) (jq [jn 4 (.mv (.c (.bool false))) []] [4] .ret) .skip)) (jq [jn 4 (.mv (.c (.bool true))) []] [4] .ret))))) }
theorem Qcz : Jd Go.Proofs.Tryz.prog 74 U6 = true := by kernel_rfl
end Go.Ve

namespace Go.Ve
open Go.Proofs
set_option maxRecDepth 100000
/-- laws.eqSkyAirway: function 75 -/
def Ua : SFun := { n := 16,res := [.t 4],body := (jq [jn 2 (.box 102 (.v 0)) [0],jn 3 (.box 103 (.v 1)) [1],jn 4 (.mv (.c (.bool false))) [4]] [2,3] (.seq (jq [jf 5 0 2 [],jl 6 5 [5],jf 7 0 3 [],jl 8 7 [7],jb 9 .neq 6 8 [6,8]] [2,3,9] (.cond (.v 9) (jq [jn 4 (.mv (.c (.bool false))) []] [4] .ret) .skip)) (.seq (jq [jf 10 1 2 [2],jl 11 10 [10],jf 12 1 3 [3],jl 13 12 [12],jn 14 (.call 104 [.v 11,.v 13]) [11,13],jn 15 (.not (.v 14)) [14]] [15] (.cond (.v 15) (jq [jn 4 (.mv (.c (.bool false))) []] [4] .ret) .skip)) (jq [jn 4 (.mv (.c (.bool true))) []] [4] .ret)))) }
theorem QbL : Jd Go.Proofs.Tryz.prog 75 Ua = true := by kernel_rfl
/-- laws.eqSkySector: function 76 -/
def Ub : SFun := { n := 16,res := [.t 4],body := (jq [jn 2 (.box 102 (.v 0)) [0],jn 3 (.box 103 (.v 1)) [1],jn 4 (.mv (.c (.bool false))) [4]] [2,3] (.seq (jq [jf 5 0 2 [],jl 6 5 [5],jf 7 0 3 [],jl 8 7 [7],jb 9 .neq 6 8 [6,8]] [2,3,9] (.cond (.v 9) (jq [jn 4 (.mv (.c (.bool false))) []] [4] .ret) .skip)) (.seq (jq [jf 10 1 2 [2],jl 11 10 [10],jf 12 1 3 [3],jl 13 12 [12],jn 14 (.call 105 [.v 11,.v 13]) [11,13],jn 15 (.not (.v 14)) [14]] [15] (.cond (.v 15) (jq [jn 4 (.mv (.c (.bool false))) []] [4] .ret) .skip)) (jq [jn 4 (.mv (.c (.bool true))) []] [4] .ret)))) }
theorem QbM : Jd Go.Proofs.Tryz.prog 76 Ub = true := by kernel_rfl
/-- laws.eqSkyRunway: function 77 -/
def Uc : SFun := { n := 25,res := [.t 4],body := (jq [jn 2 (.box 102 (.v 0)) [0],jn 3 (.box 103 (.v 1)) [1],jn 4 (.mv (.c (.bool false))) [4]] [2,3] (.seq (jq [jf 5 0 2 [],jl 6 5 [5],jf 7 0 3 [],jl 8 7 [7],jb 9 .neq 6 8 [6,8]] [2,3,9] (.cond (.v 9) (jq [jn 4 (.mv (.c (.bool false))) []] [4] .ret) .skip)) (.seq (jq [jf 10 1 2 [],jl 11 10 [10],jf 12 1 3 [],jl 13 12 [12],jb 14 .neq 11 13 [11,13]] [2,3,14] (.cond (.v 14) (jq [jn 4 (.mv (.c (.bool false))) []] [4] .ret) .skip)) (.seq (jq [jf 15 2 2 [],jl 16 15 [15],jf 17 2 3 [],jl 18 17 [17],jb 19 .neq 16 18 [16,18]] [2,3,19] (.cond (.v 19) (jq [jn 4 (.mv (.c (.bool false))) []] [4] .ret) .skip)) (.seq (jq [jf 20 3 2 [2],jl 21 20 [20],jf 22 3 3 [3],jl 23 22 [22],jb 24 .neq 21 23 [21,23]] [24] (.cond (.v 24) (jq [jn 4 (.mv (.c (.bool false))) []] [4] .ret) .skip)) (jq [jn 4 (.mv (.c (.bool true))) []] [4] .ret)))))) }
theorem QbN : Jd Go.Proofs.Tryz.prog 77 Uc = true := by kernel_rfl
def U7 : SCode := (.seq (jq [jm 6 0 [],jc 7 .gtr 6 0 [6]] [0,3,7] (.cond (.v 7) .skip (.exit 0))) (.block 1 (jq [jm 8 0 [],jn 9 (.binN .rem (.v 8) (ci 10)) [8],jn 10 (.binN .add (ci 48) (.v 9)) [9],jn 11 (.conv .u8 (.v 10)) [10],jn 12 (.lit 5 1 [.v 11]) [11],jn 13 (.b2s (.v 12)) [12],jm 14 3 [3],jb 15 .add 13 14 [13,14],jm 3 15 [15]] [0,3] (.rg [jm 16 0 [0],jn 17 (.binN .quo (.v 16) (ci 10)) [16],jm 0 17 [17]] [0,3]))))
/-- laws.markText: function 78 -/
def Wv : SFun := { n := 20,res := [.t 2],body := (jq [⟨some 2,.mv (.c (.str ⟨#[]⟩)),none,[2]⟩] [0] (.seq (jq [jm 4 0 [],jc 5 .leq 4 0 [4]] [0,5] (.cond (.v 5) (jq [⟨some 2,.mv (.c (.str ⟨#[109,48]⟩)),none,[]⟩] [2] .ret) .skip)) (jq [⟨some 3,.mv (.c (.str ⟨#[]⟩)),none,[]⟩] [0,3] (.seq (.block 0 (.loop U7)) (jq [jm 18 3 [3],⟨some 19,.bin .add (.c (.str ⟨#[109]⟩)) (.v 18),none,[18]⟩,jm 2 19 [19]] [2] .ret))))) }
theorem QeF : Jd Go.Proofs.Tryz.prog 78 Wv = true := by kernel_rfl
def YM : SCode := (.seq (jq [jm 6 5 [],jm 7 0 [],jn 8 (.lenL (.v 7)) [7],jb 9 .lss 6 8 [6,8]] [0,1,5,9] (.cond (.v 9) .skip (.exit 0))) (.seq (.block 1 (jq [jm 12 0 [],jm 13 5 [],jm 14 1 [],jn 15 (.call 78 [.v 14]) [14],ja 16 1 12 13 [12,13],⟨none,.store 1 (.v 16) (.v 15),none,[15,16]⟩] [0,1,5] (.rg [jm 17 1 [1],jn 18 (.binN .add (.v 17) (ci 1)) [17],jm 1 18 [18]] [0,1,5]))) (.rg [jm 10 5 [5],jn 11 (.binN .add (.v 10) (ci 1)) [10],jm 5 11 [11]] [0,1,5])))
/-- laws.markStringS: function 79 -/
def Ud : SFun := { n := 20,res := [.t 4],body := (jq [jI 4 0 [4]] [0,1] (.seq (jq [jI 5 0 []] [0,1,5] (.block 0 (.loop YM))) (jq [jm 19 1 [1],jm 4 19 [19]] [4] .ret))) }
theorem QbO : Jd Go.Proofs.Tryz.prog 79 Ud = true := by kernel_rfl
def K5 : SCode := (.seq (jq [jm 6 5 [],jm 7 0 [],jn 8 (.lenL (.v 7)) [7],jb 9 .lss 6 8 [6,8]] [0,1,5,9] (.cond (.v 9) .skip (.exit 0))) (.seq (.block 1 (jq [jm 12 0 [],jm 13 5 [],jm 14 1 [],ja 15 6 12 13 [12,13],jf 16 0 15 [15],⟨none,.store 1 (.v 16) (.v 14),none,[14,16]⟩] [0,1,5] (jq [jm 17 1 [1],jn 18 (.binN .add (.v 17) (ci 1)) [17],jm 1 18 [18]] [0,1,5] (jq [jm 19 0 [],jm 20 5 [],jm 21 1 [],ja 22 6 19 20 [19,20],jf 23 1 22 [22],⟨none,.store 1 (.v 23) (.v 21),none,[21,23]⟩] [0,1,5] (jq [jm 24 1 [1],jn 25 (.binN .add (.v 24) (ci 1)) [24],jm 1 25 [25]] [0,1,5] (jq [jm 26 0 [],jm 27 5 [],jm 28 1 [],ja 29 6 26 27 [26,27],jf 30 2 29 [29],⟨none,.store 1 (.v 30) (.v 28),none,[28,30]⟩] [0,1,5] (jq [jm 31 1 [1],jn 32 (.binN .add (.v 31) (ci 1)) [31],jm 1 32 [32]] [0,1,5] (jq [jm 33 0 [],jm 34 5 [],jm 35 1 [],ja 36 6 33 34 [33,34],jf 37 3 36 [36],⟨none,.store 1 (.v 37) (.v 35),none,[35,37]⟩] [0,1,5] (jq [jm 38 1 [1],jn 39 (.binN .add (.v 38) (ci 1)) [38],jm 1 39 [39]] [0,1,5] (jq [jm 40 0 [],jm 41 5 [],jm 42 1 [],ja 43 6 40 41 [40,41],jf 44 4 43 [43],⟨none,.store 1 (.v 44) (.v 42),none,[42,44]⟩] [0,1,5] (jq [jm 45 1 [1],jn 46 (.binN .add (.v 45) (ci 1)) [45],jm 1 46 [46]] [0,1,5] (jq [jm 47 0 [],jm 48 5 [],jm 49 1 [],ja 50 6 47 48 [47,48],jf 51 5 50 [50],⟨none,.store 1 (.v 51) (.v 49),none,[49,51]⟩] [0,1,5] (.rg [jm 52 1 [1],jn 53 (.binN .add (.v 52) (ci 1)) [52],jm 1 53 [53]] [0,1,5]))))))))))))) (.rg [jm 10 5 [5],jn 11 (.binN .add (.v 10) (ci 1)) [10],jm 5 11 [11]] [0,1,5])))
/-- laws.markSkyBlockS: function 80 -/
def XL : SFun := { n := 55,res := [.t 4],body := (jq [jI 4 0 [4]] [0,1] (.seq (jq [jI 5 0 []] [0,1,5] (.block 0 (.loop K5))) (jq [jm 54 1 [1],jm 4 54 [54]] [4] .ret))) }
theorem Qac : Jd Go.Proofs.Tryz.prog 80 XL = true := by kernel_rfl
def YN : SCode := (.seq (jq [jm 6 5 [],jm 7 0 [],jn 8 (.lenL (.v 7)) [7],jb 9 .lss 6 8 [6,8]] [0,1,5,9] (.cond (.v 9) .skip (.exit 0))) (.seq (.block 1 (jq [jm 12 0 [],jm 13 5 [],jm 14 1 [],ja 15 3 12 13 [12,13],jf 16 0 15 [15],⟨none,.store 1 (.v 16) (.v 14),none,[14,16]⟩] [0,1,5] (jq [jm 17 1 [1],jn 18 (.binN .add (.v 17) (ci 1)) [17],jm 1 18 [18]] [0,1,5] (jq [jm 19 0 [],jm 20 5 [],jm 21 1 [],ja 22 3 19 20 [19,20],jf 23 1 22 [22],⟨none,.store 1 (.v 23) (.v 21),none,[21,23]⟩] [0,1,5] (jq [jm 24 1 [1],jn 25 (.binN .add (.v 24) (ci 1)) [24],jm 1 25 [25]] [0,1,5] (jq [jm 26 0 [],jm 27 5 [],jm 28 1 [],jn 29 (.call 78 [.v 28]) [28],ja 30 3 26 27 [26,27],jf 31 2 30 [30],⟨none,.store 1 (.v 31) (.v 29),none,[29,31]⟩] [0,1,5] (.rg [jm 32 1 [1],jn 33 (.binN .add (.v 32) (ci 1)) [32],jm 1 33 [33]] [0,1,5]))))))) (.rg [jm 10 5 [5],jn 11 (.binN .add (.v 10) (ci 1)) [10],jm 5 11 [11]] [0,1,5])))
/-- laws.markSkyRunS: function 81 -/
def Ue : SFun := { n := 35,res := [.t 4],body := (jq [jI 4 0 [4]] [0,1] (.seq (jq [jI 5 0 []] [0,1,5] (.block 0 (.loop YN))) (jq [jm 34 1 [1],jm 4 34 [34]] [4] .ret))) }
theorem QbP : Jd Go.Proofs.Tryz.prog 81 Ue = true := by kernel_rfl
def YO : SCode := (.seq (jq [jm 6 5 [],jm 7 0 [],jn 8 (.lenL (.v 7)) [7],jb 9 .lss 6 8 [6,8]] [0,1,5,9] (.cond (.v 9) .skip (.exit 0))) (.seq (.block 1 (.seq (jq [jm 12 0 [],jm 13 5 [],ja 14 3 12 13 [12,13],jf 15 0 14 [14],jl 16 15 [15],jm 17 1 [],jb 18 .neq 16 17 [16,17]] [0,1,5,18] (.cond (.v 18) (jq [jn 4 (.mv (.c (.int .i64 (-1)))) []] [4] .ret) .skip)) (jq [jm 19 1 [1],jn 20 (.binN .add (.v 19) (ci 1)) [19],jm 1 20 [20]] [0,1,5] (.seq (jq [jm 21 0 [],jm 22 5 [],ja 23 3 21 22 [21,22],jf 24 1 23 [23],jl 25 24 [24],jm 26 1 [],jb 27 .neq 25 26 [25,26]] [0,1,5,27] (.cond (.v 27) (jq [jn 4 (.mv (.c (.int .i64 (-1)))) []] [4] .ret) .skip)) (jq [jm 28 1 [1],jn 29 (.binN .add (.v 28) (ci 1)) [28],jm 1 29 [29]] [0,1,5] (.seq (.seq (.rgd [jm 30 0 [],jm 31 5 [],ja 32 3 30 31 [],jf 33 2 32 [],jl 34 33 [],jm 35 1 [],jn 36 (.call 78 [.v 35]) [],jb 37 .neq 34 36 []] [0,1,5,37] [none,none,some [],some [],some [],none,some [3,2,1],none]) (.cond (.v 37) (jq [jn 4 (.mv (.c (.int .i64 (-1)))) []] [4] .ret) .skip)) (.rg [jm 38 1 [1],jn 39 (.binN .add (.v 38) (ci 1)) [38],jm 1 39 [39]] [0,1,5]))))))) (.rg [jm 10 5 [5],jn 11 (.binN .add (.v 10) (ci 1)) [10],jm 5 11 [11]] [0,1,5])))
/-- laws.heldSkyRunS: function 82 -/
def Uf : SFun := { n := 41,res := [.t 4],body := (jq [jI 4 0 [4]] [0,1] (.seq (jq [jI 5 0 []] [0,1,5] (.block 0 (.loop YO))) (jq [jm 40 1 [1],jm 4 40 [40]] [4] .ret))) }
theorem QbQ : Jd Go.Proofs.Tryz.prog 82 Uf = true := by kernel_rfl
def Ug : SCode := (.seq (jq [jm 12 5 [],jm 13 0 [],jn 14 (.lenL (.v 13)) [13],jb 15 .lss 12 14 [12,14]] [0,1,5,15] (.cond (.v 15) .skip (.exit 0))) (.seq (.block 1 (jq [jm 18 1 [1],jm 19 0 [],jm 20 5 [],ja 21 1 19 20 [19,20],jl 22 21 [21],jn 23 (.lenS (.v 22)) [22],jn 24 (.binN .sub (.v 18) (.v 23)) [18,23],jm 1 24 [24]] [0,1,5] (jq [jm 25 1 [],jc 26 .lss 25 0 [25]] [0,1,5,26] (.cond (.v 26) (jq [jn 4 (.mv (.c (.int .i64 (-1)))) []] [4] .ret) .skip)))) (.rg [jm 16 5 [5],jn 17 (.binN .add (.v 16) (ci 1)) [16],jm 5 17 [17]] [0,1,5])))
/-- laws.szStringS: function 83 -/
def VO : SFun := { n := 28,res := [.t 4],body := (jq [jI 4 0 [4]] [0,1] (jq [jm 6 1 [1],jm 7 0 [],jn 8 (.lenL (.v 7)) [7],jn 9 (.binN .sub (.v 6) (.v 8)) [6,8],jm 1 9 [9]] [0,1] (.seq (jq [jm 10 1 [],jc 11 .lss 10 0 [10]] [0,1,11] (.cond (.v 11) (jq [jn 4 (.mv (.c (.int .i64 (-1)))) []] [4] .ret) .skip)) (.seq (jq [jI 5 0 []] [0,1,5] (.block 0 (.loop Ug))) (jq [jm 27 1 [1],jm 4 27 [27]] [4] .ret))))) }
theorem Qda : Jd Go.Proofs.Tryz.prog 83 VO = true := by kernel_rfl
/-- laws.szSkyBlockS: function 84 -/
def Uh : SFun := { n := 12,res := [.t 4],body := (jq [jI 4 0 [4]] [0,1] (jq [jm 5 1 [1],jm 6 0 [0],jn 7 (.lenL (.v 6)) [6],jn 8 (.binN .sub (.v 5) (.v 7)) [5,7],jm 1 8 [8]] [1] (.seq (jq [jm 9 1 [],jc 10 .lss 9 0 [9]] [1,10] (.cond (.v 10) (jq [jn 4 (.mv (.c (.int .i64 (-1)))) []] [4] .ret) .skip)) (jq [jm 11 1 [1],jm 4 11 [11]] [4] .ret)))) }
theorem QbR : Jd Go.Proofs.Tryz.prog 84 Uh = true := by kernel_rfl
def U8 : SCode := (.seq (jq [jm 9 3 [],jm 10 0 [],jn 11 (.lenS (.v 10)) [10],jb 12 .lss 9 11 [9,11]] [0,3,12] (.cond (.v 12) .skip (.exit 0))) (.seq (.block 1 (jq [jm 15 0 [],jm 16 3 [],jn 17 (.istr (.v 15) (.v 16)) [15,16],jm 4 17 [17]] [0,3,4] (jq [jm 18 4 [],jn 19 (.bin .geq (.v 18) (.c (.int .u8 97))) [18],jm 20 19 [19],jt 21 20 (.mv (.v 4)) [],jt 22 20 (.bin .leq (.v 21) (.c (.int .u8 122))) [21],jn 23 (.pick (.v 20) (.v 22) (.c (.bool false))) [20,22],jm 24 23 [23],jM 25 24 4 [],jh 26 24 (.bin .geq (.v 25) (.c (.int .u8 48))) [25],jM 27 24 26 [26],jt 28 27 (.mv (.v 4)) [],jt 29 27 (.bin .leq (.v 28) (.c (.int .u8 57))) [28],jh 30 24 (.pick (.v 27) (.v 29) (.c (.bool false))) [27,29],jp 31 24 30 [24,30],jm 32 31 [31],jM 33 32 4 [4],jh 34 32 (.bin .eql (.v 33) (.c (.int .u8 45))) [33],jp 35 32 34 [32,34],jn 36 (.not (.v 35)) [35]] [0,3,36] (.cond (.v 36) (jq [jn 2 (.mv (.c (.bool false))) []] [2] .ret) .skip)))) (.rg [jm 13 3 [3],jn 14 (.binN .add (.v 13) (ci 1)) [13],jm 3 14 [14]] [0,3])))
/-- spec.l2NameOk: function 85 -/
def Ww : SFun := { n := 37,res := [.t 2],body := (jq [jn 2 (.mv (.c (.bool false))) [2]] [0] (.seq (jq [jm 5 0 [],jn 6 (.lenS (.v 5)) [5],jn 7 (.call 46 [.v 6,.c (.int .i64 1),.c (.int .i64 8)]) [6],jn 8 (.not (.v 7)) [7]] [0,8] (.cond (.v 8) (jq [jn 2 (.mv (.c (.bool false))) []] [2] .ret) .skip)) (.seq (jq [jI 3 0 []] [0,3] (.block 0 (.loop U8))) (jq [jn 2 (.mv (.c (.bool true))) []] [2] .ret)))) }
theorem QeG : Jd Go.Proofs.Tryz.prog 85 Ww = true := by kernel_rfl
/-- spec.l2BlockOk: function 86 -/
def VP : SFun := { n := 45,res := [.t 4],body := (jq [jn 2 (.box 102 (.v 0)) [0],jn 3 (.box 103 (.v 1)) [1],jn 4 (.mv (.c (.bool false))) [4]] [2,3] (jq [jf 5 0 3 [],jl 6 5 [5],jf 7 2 3 [],jl 8 7 [7],jn 9 (.call 46 [.v 6,.c (.int .i64 0),.v 8]) [6,8],jm 10 9 [9],jt 11 10 (.faddr 2 (.v 3)) [],jt 12 10 (.load1 (.v 11)) [11],jt 13 10 (.faddr 0 (.v 2)) [],jt 14 10 (.load1 (.v 13)) [13],jt 15 10 (.bin .lss (.v 12) (.v 14)) [12,14],jn 16 (.pick (.v 10) (.v 15) (.c (.bool false))) [10,15],jm 17 16 [16],jt 18 17 (.faddr 1 (.v 3)) [],jt 19 17 (.load1 (.v 18)) [18],jt 20 17 (.faddr 3 (.v 3)) [],jt 21 17 (.load1 (.v 20)) [20],jt 22 17 (.call 46 [.v 19,.c (.int .i64 0),.v 21]) [19,21],jn 23 (.pick (.v 17) (.v 22) (.c (.bool false))) [17,22],jm 24 23 [23],jt 25 24 (.faddr 3 (.v 3)) [],jt 26 24 (.load1 (.v 25)) [25],jt 27 24 (.faddr 1 (.v 2)) [],jt 28 24 (.load1 (.v 27)) [27],jt 29 24 (.bin .lss (.v 26) (.v 28)) [26,28],jn 30 (.pick (.v 24) (.v 29) (.c (.bool false))) [24,29],jm 31 30 [30],jt 32 31 (.faddr 4 (.v 3)) [],jt 33 31 (.load1 (.v 32)) [32],jt 34 31 (.faddr 5 (.v 3)) [],jt 35 31 (.load1 (.v 34)) [34],jt 36 31 (.call 46 [.v 33,.c (.int .i64 1),.v 35]) [33,35],jn 37 (.pick (.v 31) (.v 36) (.c (.bool false))) [31,36],jm 38 37 [37],jt 39 38 (.faddr 5 (.v 3)) [3],jt 40 38 (.load1 (.v 39)) [39],jt 41 38 (.faddr 2 (.v 2)) [2],jt 42 38 (.load1 (.v 41)) [41],jt 43 38 (.bin .leq (.v 40) (.v 42)) [40,42],jn 44 (.pick (.v 38) (.v 43) (.c (.bool false))) [38,43],jm 4 44 [44]] [4] .ret)) }
theorem Qdb : Jd Go.Proofs.Tryz.prog 86 VP = true := by kernel_rfl
/-- spec.l2Less: function 87 -/
def QbS : SFun := { n := 30,res := [.t 4],body := (jq [jn 2 (.box 102 (.v 0)) [0],jn 3 (.box 103 (.v 1)) [1],jn 4 (.mv (.c (.bool false))) [4]] [2,3] (.seq (jq [jf 5 0 2 [],jl 6 5 [5],jf 7 0 3 [],jl 8 7 [7],jb 9 .neq 6 8 [6,8]] [2,3,9] (.cond (.v 9) (jq [jf 10 0 2 [2],jl 11 10 [10],jf 12 0 3 [3],jl 13 12 [12],jb 14 .lss 11 13 [11,13],jm 4 14 [14]] [4] .ret) .skip)) (.seq (jq [jf 15 1 2 [],jl 16 15 [15],jf 17 1 3 [],jl 18 17 [17],jb 19 .neq 16 18 [16,18]] [2,3,19] (.cond (.v 19) (jq [jf 20 1 2 [2],jl 21 20 [20],jf 22 1 3 [3],jl 23 22 [22],jb 24 .lss 21 23 [21,23],jm 4 24 [24]] [4] .ret) .skip)) (jq [jf 25 4 2 [2],jl 26 25 [25],jf 27 4 3 [3],jl 28 27 [27],jb 29 .lss 26 28 [26,28],jm 4 29 [29]] [4] .ret)))) }
theorem Qg4 : Jd Go.Proofs.Tryz.prog 87 QbS = true := by kernel_rfl
def U9 : SCode := (.seq (jq [jm 6 4 [],jf 7 5 1 [],jl 8 7 [7],jn 9 (.lenL (.v 8)) [8],jb 10 .lss 6 9 [6,9]] [1,3,4,10] (.cond (.v 10) .skip (.exit 0))) (.seq (.block 1 (.rg [jm 13 3 [3],jf 14 5 1 [],jl 15 14 [14],jm 16 4 [],ja 17 2 15 16 [15,16],jf 18 1 17 [17],jl 19 18 [18],jn 20 (.app 105 122 6 (.v 13) (.v 19)) [13,19],jm 3 20 [20]] [1,3,4])) (.rg [jm 11 4 [4],jn 12 (.binN .add (.v 11) (ci 1)) [11],jm 4 12 [12]] [1,3,4])))
/-- spec.l2Blocks: function 88 -/
def Wx : SFun := { n := 22,res := [.t 2],body := (jq [jn 1 (.box 101 (.v 0)) [0],jn 2 (.mv (.c (.sl 0 6 []))) [2]] [1] (jq [jn 5 (.litOwn 105 122 6 []) [],jm 3 5 [5]] [1,3] (.seq (jq [jI 4 0 []] [1,3,4] (.block 0 (.loop U9))) (jq [jm 21 3 [3],jm 2 21 [21]] [2] (.gh (.frzE 2) .ret))))) }
theorem QeH : Jd Go.Proofs.Tryz.prog 88 Wx = true := by kernel_rfl
/-- spec.l2Shares: function 89 -/
def Wy : SFun := { n := 45,res := [.t 4],body := (jq [jn 2 (.box 102 (.v 0)) [0],jn 3 (.box 103 (.v 1)) [1],jn 4 (.mv (.c (.bool false))) [4]] [2,3] (jq [jf 5 0 2 [],jl 6 5 [5],jf 7 2 3 [],jl 8 7 [7],jb 9 .leq 6 8 [6,8],jm 10 9 [9],jt 11 10 (.faddr 0 (.v 3)) [],jt 12 10 (.load1 (.v 11)) [11],jt 13 10 (.faddr 2 (.v 2)) [],jt 14 10 (.load1 (.v 13)) [13],jt 15 10 (.bin .leq (.v 12) (.v 14)) [12,14],jn 16 (.pick (.v 10) (.v 15) (.c (.bool false))) [10,15],jm 17 16 [16],jt 18 17 (.faddr 1 (.v 2)) [],jt 19 17 (.load1 (.v 18)) [18],jt 20 17 (.faddr 3 (.v 3)) [],jt 21 17 (.load1 (.v 20)) [20],jt 22 17 (.bin .leq (.v 19) (.v 21)) [19,21],jn 23 (.pick (.v 17) (.v 22) (.c (.bool false))) [17,22],jm 24 23 [23],jt 25 24 (.faddr 1 (.v 3)) [],jt 26 24 (.load1 (.v 25)) [25],jt 27 24 (.faddr 3 (.v 2)) [],jt 28 24 (.load1 (.v 27)) [27],jt 29 24 (.bin .leq (.v 26) (.v 28)) [26,28],jn 30 (.pick (.v 24) (.v 29) (.c (.bool false))) [24,29],jm 31 30 [30],jt 32 31 (.faddr 4 (.v 2)) [],jt 33 31 (.load1 (.v 32)) [32],jt 34 31 (.faddr 5 (.v 3)) [],jt 35 31 (.load1 (.v 34)) [34],jt 36 31 (.bin .leq (.v 33) (.v 35)) [33,35],jn 37 (.pick (.v 31) (.v 36) (.c (.bool false))) [31,36],jm 38 37 [37],jt 39 38 (.faddr 4 (.v 3)) [3],jt 40 38 (.load1 (.v 39)) [39],jt 41 38 (.faddr 5 (.v 2)) [2],jt 42 38 (.load1 (.v 41)) [41],jt 43 38 (.bin .leq (.v 40) (.v 42)) [40,42],jn 44 (.pick (.v 38) (.v 43) (.c (.bool false))) [38,43],jm 4 44 [44]] [4] .ret)) }
theorem QeI : Jd Go.Proofs.Tryz.prog 89 Wy = true := by kernel_rfl
/-- spec.l2Dx: function 90 -/
def QeJ : SFun := { n := 12,res := [.t 2],body := (jq [jI 2 0 [2]] [0] (.seq (jq [jm 3 0 [0]] [3] (.block 0 (.seq (jq [jc 5 .eql 3 2 [],jm 4 5 [5]] [3,4] (.cond (.v 4) .skip (jq [jc 6 .eql 3 3 [],jm 4 6 [6]] [3,4] (.cond (.v 4) .skip (.rg [jc 7 .eql 3 4 [],jm 4 7 [7]] [3,4]))))) (.cond (.v 4) (jq [jI 2 1 []] [2] .ret) (.seq (jq [jc 9 .eql 3 6 [],jm 8 9 [9]] [3,8] (.cond (.v 8) .skip (jq [jc 10 .eql 3 7 [],jm 8 10 [10]] [3,8] (.cond (.v 8) .skip (.rg [jc 11 .eql 3 8 [3],jm 8 11 [11]] [8]))))) (.cond (.v 8) (jq [jn 2 (.mv (.c (.int .i64 (-1)))) []] [2] .ret) .skip)))))) (jq [jI 2 0 []] [2] .ret))) }
theorem QjU : Jd Go.Proofs.Tryz.prog 90 QeJ = true := by kernel_rfl
/-- spec.l2Dy: function 91 -/
def QeK : SFun := { n := 12,res := [.t 2],body := (jq [jI 2 0 [2]] [0] (.seq (jq [jm 3 0 [0]] [3] (.block 0 (.seq (jq [jc 5 .eql 3 1 [],jm 4 5 [5]] [3,4] (.cond (.v 4) .skip (jq [jc 6 .eql 3 2 [],jm 4 6 [6]] [3,4] (.cond (.v 4) .skip (.rg [jc 7 .eql 3 8 [],jm 4 7 [7]] [3,4]))))) (.cond (.v 4) (jq [jI 2 1 []] [2] .ret) (.seq (jq [jc 9 .eql 3 4 [],jm 8 9 [9]] [3,8] (.cond (.v 8) .skip (jq [jc 10 .eql 3 5 [],jm 8 10 [10]] [3,8] (.cond (.v 8) .skip (.rg [jc 11 .eql 3 6 [3],jm 8 11 [11]] [8]))))) (.cond (.v 8) (jq [jn 2 (.mv (.c (.int .i64 (-1)))) []] [2] .ret) .skip)))))) (jq [jI 2 0 []] [2] .ret))) }
theorem QjV : Jd Go.Proofs.Tryz.prog 91 QeK = true := by kernel_rfl
/-- spec.l5In: function 92 -/
def QeL : SFun := { n := 30,res := [.t 4],body := (jq [jn 2 (.box 102 (.v 0)) [0],jn 3 (.box 103 (.v 1)) [1],jn 4 (.mv (.c (.bool false))) [4]] [2,3] (jq [jf 5 0 3 [],jl 6 5 [5],jf 7 0 2 [],jl 8 7 [7],jf 9 2 2 [],jl 10 9 [9],jn 11 (.call 46 [.v 6,.v 8,.v 10]) [6,8,10],jm 12 11 [11],jt 13 12 (.faddr 1 (.v 3)) [],jt 14 12 (.load1 (.v 13)) [13],jt 15 12 (.faddr 1 (.v 2)) [],jt 16 12 (.load1 (.v 15)) [15],jt 17 12 (.faddr 3 (.v 2)) [],jt 18 12 (.load1 (.v 17)) [17],jt 19 12 (.call 46 [.v 14,.v 16,.v 18]) [14,16,18],jn 20 (.pick (.v 12) (.v 19) (.c (.bool false))) [12,19],jm 21 20 [20],jt 22 21 (.faddr 2 (.v 3)) [3],jt 23 21 (.load1 (.v 22)) [22],jt 24 21 (.faddr 4 (.v 2)) [],jt 25 21 (.load1 (.v 24)) [24],jt 26 21 (.faddr 5 (.v 2)) [2],jt 27 21 (.load1 (.v 26)) [26],jt 28 21 (.call 46 [.v 23,.v 25,.v 27]) [23,25,27],jn 29 (.pick (.v 21) (.v 28) (.c (.bool false))) [21,28],jm 4 29 [29]] [4] .ret)) }
theorem QjW : Jd Go.Proofs.Tryz.prog 92 QeL = true := by kernel_rfl
def Wz : SCode := (.seq (jq [jm 23 9 [],jm 24 8 [],jn 25 (.lenL (.v 24)) [24],jb 26 .lss 23 25 [23,25]] [1,2,3,7,8,9,26] (.cond (.v 26) .skip (.exit 2))) (.seq (.block 3 (jq [jm 29 8 [],jm 30 9 [],jn 31 (.binN .sub (.v 30) (ci 1)) [30],ja 32 1 29 31 [29,31],jl 33 32 [32],jm 34 1 [],jb 35 .eql 33 34 [33,34],jm 36 35 [35],jt 37 36 (.mv (.v 8)) [],jt 38 36 (.mv (.v 9)) [],jt 39 36 (.iaddr 1 (.v 37) (.v 38)) [37,38],jt 40 36 (.load1 (.v 39)) [39],jt 41 36 (.mv (.v 2)) [],jt 42 36 (.bin .eql (.v 40) (.v 41)) [40,41],jn 43 (.pick (.v 36) (.v 42) (.c (.bool false))) [36,42],jm 44 43 [43],jM 45 44 8 [],jM 46 44 9 [],jh 47 44 (.binN .sub (.v 46) (ci 1)) [46],jh 48 44 (.iaddr 1 (.v 45) (.v 47)) [45,47],jh 49 44 (.load1 (.v 48)) [48],jM 50 44 2 [],jh 51 44 (.bin .eql (.v 49) (.v 50)) [49,50],jM 52 44 51 [51],jt 53 52 (.mv (.v 8)) [],jt 54 52 (.mv (.v 9)) [],jt 55 52 (.iaddr 1 (.v 53) (.v 54)) [53,54],jt 56 52 (.load1 (.v 55)) [55],jt 57 52 (.mv (.v 1)) [],jt 58 52 (.bin .eql (.v 56) (.v 57)) [56,57],jh 59 44 (.pick (.v 52) (.v 58) (.c (.bool false))) [52,58],jp 60 44 59 [44,59]] [1,2,3,7,8,9,60] (.cond (.v 60) (jq [jn 6 (.mv (.c (.bool true))) []] [6] .ret) .skip))) (.rg [jm 27 9 [9],jn 28 (.binN .add (.v 27) (ci 1)) [27],jm 9 28 [28]] [1,2,3,7,8,9])))
def WA : SCode := (.seq (jq [jm 10 7 [],jf 11 4 3 [],jl 12 11 [11],jn 13 (.lenL (.v 12)) [12],jb 14 .lss 10 13 [10,13]] [1,2,3,7,14] (.cond (.v 14) .skip (.exit 0))) (.seq (.block 1 (jq [jf 17 4 3 [],jl 18 17 [17],jm 19 7 [],ja 20 2 18 19 [18,19],jf 21 1 20 [20],jl 22 21 [21],jm 8 22 [22]] [1,2,3,7,8] (jq [jI 9 1 []] [1,2,3,7,8,9] (.block 2 (.loop Wz))))) (.rg [jm 15 7 [7],jn 16 (.binN .add (.v 15) (ci 1)) [15],jm 7 16 [16]] [1,2,3,7])))
/-- spec.l7Next: function 93 -/
def QbT : SFun := { n := 61,res := [.t 6],body := (jq [jn 3 (.box 103 (.v 0)) [0],jn 6 (.mv (.c (.bool false))) [6]] [1,2,3] (.seq (jq [jI 7 0 []] [1,2,3,7] (.block 0 (.loop WA))) (jq [jn 6 (.mv (.c (.bool false))) []] [6] .ret))) }
theorem Qg5 : Jd Go.Proofs.Tryz.prog 93 QbT = true := by kernel_rfl
def Qan : SCode := (.seq (jq [jm 6 5 [],jm 7 0 [],jn 8 (.lenL (.v 7)) [7],jb 9 .lss 6 8 [6,8]] [0,1,5,9] (.cond (.v 9) .skip (.exit 0))) (.seq (.block 1 (jq [jm 12 0 [],jm 13 5 [],ja 14 1 12 13 [12,13],jl 15 14 [14],jm 16 1 [],jb 17 .eql 15 16 [15,16]] [0,1,5,17] (.cond (.v 17) (jq [jn 4 (.mv (.c (.bool true))) []] [4] .ret) .skip))) (.rg [jm 10 5 [5],jn 11 (.binN .add (.v 10) (ci 1)) [10],jm 5 11 [11]] [0,1,5])))
/-- spec.l7Has: function 94 -/
def QcY : SFun := { n := 18,res := [.t 4],body := (jq [jn 4 (.mv (.c (.bool false))) [4]] [0,1] (.seq (jq [jI 5 0 []] [0,1,5] (.block 0 (.loop Qan))) (jq [jn 4 (.mv (.c (.bool false))) []] [4] .ret))) }
theorem QiH : Jd Go.Proofs.Tryz.prog 94 QcY = true := by kernel_rfl
def Va : SCode := (.seq (jq [jm 35 7 [],jm 36 1 [],jn 37 (.lenL (.v 36)) [36],jb 38 .lss 35 37 [35,37]] [1,2,7,38] (.cond (.v 38) .skip (.exit 0))) (.seq (.block 1 (.seq (.rgd [jm 41 1 [],jm 42 7 [],ja 43 1 41 42 [],jl 44 43 [],jm 45 2 [],jm 46 7 [],ja 47 1 45 46 [],jl 48 47 [],jb 49 .neq 44 48 []] [1,2,7,49] [none,none,none,none,none,none,none,none,none]) (.cond (.v 49) (.seq (.rgd [jm 50 1 [],jm 51 7 [],ja 52 1 50 51 [],jl 53 52 [],jm 54 2 [],jm 55 7 [],ja 56 1 54 55 [],jl 57 56 [],jb 58 .lss 53 57 [],jm 6 58 []] [6] [none,none,none,none,none,none,none,none,none,none]) .ret) .skip))) (.rg [jm 39 7 [7],jn 40 (.binN .add (.v 39) (ci 1)) [39],jm 7 40 [40]] [1,2,7])))
/-- spec.l7Better: function 95 -/
def WB : SFun := { n := 59,res := [.t 6],body := (jq [jn 3 (.box 103 (.v 0)) [0],jn 6 (.mv (.c (.bool false))) [6]] [1,2,3] (.seq (jq [jm 8 2 [],jn 9 (.lenL (.v 8)) [8],jc 10 .eql 9 0 [9]] [1,2,3,10] (.cond (.v 10) (jq [jn 6 (.mv (.c (.bool true))) []] [6] .ret) .skip)) (.seq (.seq (.rgd [jL 11 7 3 [],jm 12 1 [],jn 13 (.call 20 [.v 11,.v 12]) [],jL 14 7 3 [],jm 15 2 [],jn 16 (.call 20 [.v 14,.v 15]) [],jb 17 .neq 13 16 []] [1,2,3,17] [none,none,some [],some [0],none,none,none]) (.cond (.v 17) (.seq (.rgd [jL 18 7 3 [],jm 19 1 [],jn 20 (.call 20 [.v 18,.v 19]) [],jL 21 7 3 [],jm 22 2 [],jn 23 (.call 20 [.v 21,.v 22]) [],jb 24 .lss 20 23 [],jm 6 24 []] [6] [none,none,some [],some [0],none,none,none,none]) .ret) .skip)) (.seq (jq [jm 25 1 [],jn 26 (.lenL (.v 25)) [25],jm 27 2 [],jn 28 (.lenL (.v 27)) [27],jb 29 .neq 26 28 [26,28]] [1,2,29] (.cond (.v 29) (jq [jm 30 1 [1],jn 31 (.lenL (.v 30)) [30],jm 32 2 [2],jn 33 (.lenL (.v 32)) [32],jb 34 .lss 31 33 [31,33],jm 6 34 [34]] [6] .ret) .skip)) (.seq (jq [jI 7 0 []] [1,2,7] (.block 0 (.loop Va))) (jq [jn 6 (.mv (.c (.bool false))) []] [6] .ret)))))) }
theorem QeM : Jd Go.Proofs.Tryz.prog 95 WB = true := by kernel_rfl
/-- spec.l6Steps: function 96 -/
def Qao : SFun := { n := 24,res := [.t 4],body := (jq [jn 2 (.box 102 (.v 0)) [0],jn 3 (.box 103 (.v 1)) [1],jI 4 0 [4]] [2,3] (jq [jf 7 0 2 [],jl 8 7 [7],jf 9 0 3 [],jl 10 9 [9],jn 11 (.binN .sub (.v 8) (.v 10)) [8,10],jn 12 (.call 106 [.v 11]) [11],jm 5 12 [12]] [2,3,5] (jq [jf 13 1 2 [2],jl 14 13 [13],jf 15 1 3 [3],jl 16 15 [15],jn 17 (.binN .sub (.v 14) (.v 16)) [14,16],jn 18 (.call 106 [.v 17]) [17],jm 6 18 [18]] [5,6] (.seq (jq [jm 19 5 [],jm 20 6 [],jb 21 .gtr 19 20 [19,20]] [5,6,21] (.cond (.v 21) (jq [jm 22 5 [5],jm 4 22 [22]] [4] .ret) .skip)) (jq [jm 23 6 [6],jm 4 23 [23]] [4] .ret))))) }
theorem Qfv : Jd Go.Proofs.Tryz.prog 96 Qao = true := by kernel_rfl
/-- spec.l6At: function 97 -/
def QeN : SFun := { n := 19,res := [.cN 4 2],body := (jq [jn 2 (.box 102 (.v 0)) [0],jn 4 (.alloc 104 [.int .i64 0,.int .i64 0]) []] [1,2,4] (.seq (.rgd [jf 6 3 2 [],jl 7 6 [],jf 8 3 2 [],jl 9 8 [],jm 10 1 [],jn 11 (.call 53 [.v 9,.v 10]) [],ja 12 3 7 11 [],jL 13 3 12 [],jn 5 (.alloc 105 [.str ⟨#[]⟩,.int .i64 0,.int .i64 0]) [],⟨none,.store 3 (.v 5) (.v 13),none,[]⟩] [4,5] [some [],some [],some [],some [],none,some [4,3],some [],some [],some [7,6,5,4,2,1,0],none]) (jq [jf 14 1 5 [],jl 15 14 [14],jf 16 2 5 [5],jl 17 16 [16],jn 18 (.build [.int .i64 0,.int .i64 0] [(0,1,.v 15),(1,1,.v 17)]) [15,17],⟨none,.store 2 (.v 4) (.v 18),none,[18]⟩] [4] .ret))) }
theorem QjX : Jd Go.Proofs.Tryz.prog 97 QeN = true := by kernel_rfl
def Ui : SCode := (.seq (jq [jm 8 4 [],jm 9 0 [],jn 10 (.lenL (.v 9)) [9],jb 11 .lss 8 10 [8,10]] [0,3,4,11] (.cond (.v 11) .skip (.exit 0))) (.seq (.block 1 (.rg [jm 14 3 [],jm 15 4 [],jm 16 0 [],jm 17 4 [],ja 18 1 16 17 [16,17],jl 19 18 [18],ja 20 1 14 15 [14,15],⟨none,.store 1 (.v 20) (.v 19),none,[19,20]⟩] [0,3,4])) (.rg [jm 12 4 [4],jn 13 (.binN .add (.v 12) (ci 1)) [12],jm 4 13 [13]] [0,3,4])))
/-- laws.toStringS: function 98 -/
def VQ : SFun := { n := 22,res := [.t 2],body := (jq [jn 2 (.mv (.c (.sl 0 1 []))) [2]] [0] (jq [jm 5 0 [],jn 6 (.lenL (.v 5)) [5],⟨some 7,.mk 107 9 1 [.str ⟨#[]⟩] (.v 6),none,[6]⟩,jm 3 7 [7]] [0,3] (.seq (jq [jI 4 0 []] [0,3,4] (.block 0 (.loop Ui))) (jq [jm 21 3 [3],jm 2 21 [21]] [2] (.gh (.frzE 2) .ret))))) }
theorem Qdc : Jd Go.Proofs.Tryz.prog 98 VQ = true := by kernel_rfl
def XM : SCode := (.seq (jq [jm 8 4 [],jm 9 0 [],jn 10 (.lenL (.v 9)) [9],jb 11 .lss 8 10 [8,10]] [0,3,4,11] (.cond (.v 11) .skip (.exit 0))) (.seq (.block 1 (.rg [jm 14 3 [],jm 15 4 [],jm 16 0 [],jm 17 4 [],ja 18 6 16 17 [16,17],jL 19 6 18 [18],jn 20 (.call 107 [.v 19]) [19],ja 21 6 14 15 [14,15],⟨none,.store 6 (.v 21) (.v 20),none,[20,21]⟩] [0,3,4])) (.rg [jm 12 4 [4],jn 13 (.binN .add (.v 12) (ci 1)) [12],jm 4 13 [13]] [0,3,4])))
/-- laws.toSkyBlockS: function 99 -/
def Uj : SFun := { n := 23,res := [.t 2],body := (jq [jn 2 (.mv (.c (.sl 0 6 []))) [2]] [0] (jq [jm 5 0 [],jn 6 (.lenL (.v 5)) [5],jn 7 (.mk 107 122 6 [.int .i64 0,.int .i64 0,.int .i64 0,.int .i64 0,.int .i64 0,.int .i64 0] (.v 6)) [6],jm 3 7 [7]] [0,3] (.seq (jq [jI 4 0 []] [0,3,4] (.block 0 (.loop XM))) (jq [jm 22 3 [3],jm 2 22 [22]] [2] (.gh (.frzE 2) .ret))))) }
theorem QbU : Jd Go.Proofs.Tryz.prog 99 Uj = true := by kernel_rfl
def K1 : SCode := (jq [jb 9 .lss 8 7 []] [0,1,7,8,9] (.seq (.cond (.v 9) .skip (.exit 0)) (.seq (.block 1 (jq [jm 10 8 [],jm 5 10 [10]] [0,1,5,7,8] (jq [jm 11 1 [],jm 12 0 [],jm 13 5 [],ja 14 3 12 13 [12,13],jL 15 3 14 [14],jn 16 (.callV (.v 11) [.v 15]) [11,15]] [0,1,5,7,8,16] (.cond (.v 16) (jq [jm 17 5 [5],jm 4 17 [17]] [4] .ret) .skip)))) (.rg [jn 18 (.binN .add (.v 8) (ci 1)) [8],jm 8 18 [18]] [0,1,7,8]))))
/-- impl.SkyPoint]: function 100 -/
def Yi : SFun := { n := 19,res := [.t 4],body := (jq [jI 4 0 [4]] [0,1] (.seq (jq [jm 6 0 [],jn 7 (.lenL (.v 6)) [6],jI 8 0 []] [0,1,7,8] (.block 0 (.loop K1))) (jq [jn 4 (.mv (.c (.int .i64 (-1)))) []] [4] .ret))) }
theorem Zx : Jd Go.Proofs.Tryz.prog 100 Yi = true := by kernel_rfl
/-- impl.Sky).point$1: function 101 -/
def Uk : SFun := { n := 8,res := [.t 3],body := (jq [jn 2 (.box 102 (.v 0)) [0],jn 3 (.mv (.c (.bool false))) [3]] [1,2] (jq [jf 4 0 2 [2],jl 5 4 [4],jl 6 1 [1],jb 7 .eql 5 6 [5,6],jm 3 7 [7]] [3] .ret)) }
theorem QbV : Jd Go.Proofs.Tryz.prog 101 Uk = true := by kernel_rfl
def YZ : SCode := (jq [jb 12 .lss 11 10 []] [0,1,9,10,11,12] (.seq (.cond (.v 12) .skip (.exit 0)) (.seq (.block 1 (jq [jm 13 11 [],ja 14 1 9 11 [],jl 15 14 [14],jm 5 13 [13],jm 6 15 [15]] [0,1,5,6,9,10,11] (.seq (jq [jm 16 5 [],jm 17 1 [],jn 18 (.lenL (.v 17)) [17],jb 19 .geq 16 18 [16,18]] [0,1,5,6,9,10,11,19] (.cond (.v 19) (jq [jI 4 1 []] [4] .ret) .skip)) (jq [jm 20 1 [],jm 21 5 [5],ja 22 1 20 21 [20,21],jl 23 22 [22],jm 7 23 [23]] [0,1,6,7,9,10,11] (jq [jm 24 6 [6],jm 25 7 [7],jn 26 (.call 108 [.v 24,.v 25]) [24,25],jm 8 26 [26]] [0,1,8,9,10,11] (jq [jm 27 8 [],jc 28 .neq 27 0 [27]] [0,1,8,9,10,11,28] (.cond (.v 28) (jq [jm 29 8 [8],jm 4 29 [29]] [4] .ret) .skip))))))) (.rg [jn 30 (.binN .add (.v 11) (ci 1)) [11],jm 11 30 [30]] [0,1,9,10,11]))))
/-- slices.Compare[[]string,string]: function 102 -/
def Gx : SFun := { n := 36,res := [.t 4],body := (jq [jI 4 0 [4]] [0,1] (.seq (jq [jm 9 0 [],jn 10 (.lenL (.v 9)) [],jI 11 0 []] [0,1,9,10,11] (.block 0 (.loop YZ))) (.seq (jq [jm 31 0 [0],jn 32 (.lenL (.v 31)) [31],jm 33 1 [1],jn 34 (.lenL (.v 33)) [33],jb 35 .lss 32 34 [32,34]] [35] (.cond (.v 35) (jq [jn 4 (.mv (.c (.int .i64 (-1)))) []] [4] .ret) .skip)) (jq [jI 4 0 []] [4] .ret)))) }
theorem Vt : Jd Go.Proofs.Tryz.prog 102 Gx = true := by kernel_rfl
def Ul : SCode := (.seq (jq [jm 11 5 [],jm 12 0 [],jn 13 (.lenL (.v 12)) [12],jb 14 .lss 11 13 [11,13]] [0,1,5,14] (.cond (.v 14) .skip (.exit 0))) (.seq (.block 1 (.seq (.rgd [jm 17 0 [],jm 18 5 [],ja 19 3 17 18 [],jL 20 3 19 [],jm 21 1 [],jm 22 5 [],ja 23 3 21 22 [],jL 24 3 23 [],jn 25 (.call 109 [.v 20,.v 24]) [],jn 26 (.not (.v 25)) []] [0,1,5,26] [none,none,none,none,none,none,none,none,none,none]) (.cond (.v 26) (jq [jn 4 (.mv (.c (.bool false))) []] [4] .ret) .skip))) (.rg [jm 15 5 [5],jn 16 (.binN .add (.v 15) (ci 1)) [15],jm 5 16 [16]] [0,1,5])))
/-- laws.eqSkyRunS: function 103 -/
def VR : SFun := { n := 27,res := [.t 4],body := (jq [jn 4 (.mv (.c (.bool false))) [4]] [0,1] (.seq (jq [jm 6 0 [],jn 7 (.lenL (.v 6)) [6],jm 8 1 [],jn 9 (.lenL (.v 8)) [8],jb 10 .neq 7 9 [7,9]] [0,1,10] (.cond (.v 10) (jq [jn 4 (.mv (.c (.bool false))) []] [4] .ret) .skip)) (.seq (jq [jI 5 0 []] [0,1,5] (.block 0 (.loop Ul))) (jq [jn 4 (.mv (.c (.bool true))) []] [4] .ret)))) }
theorem Qdd : Jd Go.Proofs.Tryz.prog 103 VR = true := by kernel_rfl
def Um : SCode := (.seq (jq [jm 11 5 [],jm 12 0 [],jn 13 (.lenL (.v 12)) [12],jb 14 .lss 11 13 [11,13]] [0,1,5,14] (.cond (.v 14) .skip (.exit 0))) (.seq (.block 1 (.seq (.rgd [jm 17 0 [],jm 18 5 [],ja 19 1 17 18 [],jl 20 19 [],jm 21 1 [],jm 22 5 [],ja 23 1 21 22 [],jl 24 23 [],jb 25 .neq 20 24 []] [0,1,5,25] [none,none,none,none,none,none,none,none,none]) (.cond (.v 25) (jq [jn 4 (.mv (.c (.bool false))) []] [4] .ret) .skip))) (.rg [jm 15 5 [5],jn 16 (.binN .add (.v 15) (ci 1)) [15],jm 5 16 [16]] [0,1,5])))
/-- laws.eqStringS: function 104 -/
def VS : SFun := { n := 26,res := [.t 4],body := (jq [jn 4 (.mv (.c (.bool false))) [4]] [0,1] (.seq (jq [jm 6 0 [],jn 7 (.lenL (.v 6)) [6],jm 8 1 [],jn 9 (.lenL (.v 8)) [8],jb 10 .neq 7 9 [7,9]] [0,1,10] (.cond (.v 10) (jq [jn 4 (.mv (.c (.bool false))) []] [4] .ret) .skip)) (.seq (jq [jI 5 0 []] [0,1,5] (.block 0 (.loop Um))) (jq [jn 4 (.mv (.c (.bool true))) []] [4] .ret)))) }
theorem Qde : Jd Go.Proofs.Tryz.prog 104 VS = true := by kernel_rfl
def XN : SCode := (.seq (jq [jm 11 5 [],jm 12 0 [],jn 13 (.lenL (.v 12)) [12],jb 14 .lss 11 13 [11,13]] [0,1,5,14] (.cond (.v 14) .skip (.exit 0))) (.seq (.block 1 (.seq (.rgd [jm 17 0 [],jm 18 5 [],ja 19 6 17 18 [],jL 20 6 19 [],jm 21 1 [],jm 22 5 [],ja 23 6 21 22 [],jL 24 6 23 [],jn 25 (.call 110 [.v 20,.v 24]) [],jn 26 (.not (.v 25)) []] [0,1,5,26] [none,none,none,none,none,none,none,none,none,none]) (.cond (.v 26) (jq [jn 4 (.mv (.c (.bool false))) []] [4] .ret) .skip))) (.rg [jm 15 5 [5],jn 16 (.binN .add (.v 15) (ci 1)) [15],jm 5 16 [16]] [0,1,5])))
/-- laws.eqSkyBlockS: function 105 -/
def Un : SFun := { n := 27,res := [.t 4],body := (jq [jn 4 (.mv (.c (.bool false))) [4]] [0,1] (.seq (jq [jm 6 0 [],jn 7 (.lenL (.v 6)) [6],jm 8 1 [],jn 9 (.lenL (.v 8)) [8],jb 10 .neq 7 9 [7,9]] [0,1,10] (.cond (.v 10) (jq [jn 4 (.mv (.c (.bool false))) []] [4] .ret) .skip)) (.seq (jq [jI 5 0 []] [0,1,5] (.block 0 (.loop XN))) (jq [jn 4 (.mv (.c (.bool true))) []] [4] .ret)))) }
theorem QbW : Jd Go.Proofs.Tryz.prog 105 Un = true := by kernel_rfl
/-- spec.l6Abs: function 106 -/
def QcZ : SFun := { n := 8,res := [.t 2],body := (jq [jI 2 0 [2]] [0] (.seq (jq [jm 3 0 [],jc 4 .lss 3 0 [3]] [0,4] (.cond (.v 4) (jq [jm 5 0 [0],jn 6 (.neg (.v 5)) [5],jm 2 6 [6]] [2] .ret) .skip)) (jq [jm 7 0 [0],jm 2 7 [7]] [2] .ret))) }
theorem QiI : Jd Go.Proofs.Tryz.prog 106 QcZ = true := by kernel_rfl
/-- laws.toSkyBlock: function 107 -/
def Vb : SFun := { n := 23,res := [.cN 2 6],body := (jq [jn 1 (.box 101 (.v 0)) [0],jn 2 (.alloc 102 [.int .i64 0,.int .i64 0,.int .i64 0,.int .i64 0,.int .i64 0,.int .i64 0]) []] [1,2] (jq [jn 3 (.alloc 103 [.int .i64 0,.int .i64 0,.int .i64 0,.int .i64 0,.int .i64 0,.int .i64 0]) []] [1,2,3] (jq [jf 4 0 1 [],jl 5 4 [4],jf 6 0 3 [],⟨none,.store 1 (.v 6) (.v 5),none,[5,6]⟩] [1,2,3] (jq [jf 7 1 1 [],jl 8 7 [7],jf 9 1 3 [],⟨none,.store 1 (.v 9) (.v 8),none,[8,9]⟩] [1,2,3] (jq [jf 10 2 1 [],jl 11 10 [10],jf 12 2 3 [],⟨none,.store 1 (.v 12) (.v 11),none,[11,12]⟩] [1,2,3] (jq [jf 13 3 1 [],jl 14 13 [13],jf 15 3 3 [],⟨none,.store 1 (.v 15) (.v 14),none,[14,15]⟩] [1,2,3] (jq [jf 16 4 1 [],jl 17 16 [16],jf 18 4 3 [],⟨none,.store 1 (.v 18) (.v 17),none,[17,18]⟩] [1,2,3] (jq [jf 19 5 1 [1],jl 20 19 [19],jf 21 5 3 [],⟨none,.store 1 (.v 21) (.v 20),none,[20,21]⟩] [2,3] (jq [jL 22 6 3 [3],⟨none,.store 6 (.v 2) (.v 22),none,[22]⟩] [2] .ret))))))))) }
theorem QcA : Jd Go.Proofs.Tryz.prog 107 Vb = true := by kernel_rfl
/-- cmp.Compare[string]: function 108 -/
def XO : SFun := { n := 20,res := [.t 4],body := (jq [jI 4 0 [4]] [0,1] (jq [jm 7 0 [],jn 8 (.call 111 [.v 7]) [7],jm 5 8 [8]] [0,1,5] (jq [jm 9 1 [],jn 10 (.call 111 [.v 9]) [9],jm 6 10 [10]] [0,1,5,6] (.seq (jq [jm 11 5 [5]] [0,1,6,11] (.cond (.v 11) (.seq (jq [jm 12 6 [6]] [12] (.cond (.v 12) (jq [jI 4 0 []] [4] .ret) .skip)) (jq [jn 4 (.mv (.c (.int .i64 (-1)))) []] [4] .ret)) .skip)) (.seq (jq [jm 13 6 [6]] [0,1,13] (.cond (.v 13) (jq [jI 4 1 []] [4] .ret) .skip)) (.seq (jq [jm 14 0 [],jm 15 1 [],jb 16 .lss 14 15 [14,15]] [0,1,16] (.cond (.v 16) (jq [jn 4 (.mv (.c (.int .i64 (-1)))) []] [4] .ret) .skip)) (.seq (jq [jm 17 0 [0],jm 18 1 [1],jb 19 .gtr 17 18 [17,18]] [19] (.cond (.v 19) (jq [jI 4 1 []] [4] .ret) .skip)) (jq [jI 4 0 []] [4] .ret)))))))) }
theorem Qad : Jd Go.Proofs.Tryz.prog 108 XO = true := by kernel_rfl
/-- laws.eqSkyRun: function 109 -/
def WC : SFun := { n := 20,res := [.t 4],body := (jq [jn 2 (.box 102 (.v 0)) [0],jn 3 (.box 103 (.v 1)) [1],jn 4 (.mv (.c (.bool false))) [4]] [2,3] (.seq (jq [jf 5 0 2 [],jl 6 5 [5],jf 7 0 3 [],jl 8 7 [7],jb 9 .neq 6 8 [6,8]] [2,3,9] (.cond (.v 9) (jq [jn 4 (.mv (.c (.bool false))) []] [4] .ret) .skip)) (.seq (jq [jf 10 1 2 [],jl 11 10 [10],jf 12 1 3 [],jl 13 12 [12],jb 14 .neq 11 13 [11,13]] [2,3,14] (.cond (.v 14) (jq [jn 4 (.mv (.c (.bool false))) []] [4] .ret) .skip)) (.seq (jq [jf 15 2 2 [2],jl 16 15 [15],jf 17 2 3 [3],jl 18 17 [17],jb 19 .neq 16 18 [16,18]] [19] (.cond (.v 19) (jq [jn 4 (.mv (.c (.bool false))) []] [4] .ret) .skip)) (jq [jn 4 (.mv (.c (.bool true))) []] [4] .ret))))) }
theorem QeO : Jd Go.Proofs.Tryz.prog 109 WC = true := by kernel_rfl
/-- laws.eqSkyBlock: function 110 -/
def Vc : SFun := { n := 35,res := [.t 4],body := (jq [jn 2 (.box 102 (.v 0)) [0],jn 3 (.box 103 (.v 1)) [1],jn 4 (.mv (.c (.bool false))) [4]] [2,3] (.seq (jq [jf 5 0 2 [],jl 6 5 [5],jf 7 0 3 [],jl 8 7 [7],jb 9 .neq 6 8 [6,8]] [2,3,9] (.cond (.v 9) (jq [jn 4 (.mv (.c (.bool false))) []] [4] .ret) .skip)) (.seq (jq [jf 10 1 2 [],jl 11 10 [10],jf 12 1 3 [],jl 13 12 [12],jb 14 .neq 11 13 [11,13]] [2,3,14] (.cond (.v 14) (jq [jn 4 (.mv (.c (.bool false))) []] [4] .ret) .skip)) (.seq (jq [jf 15 2 2 [],jl 16 15 [15],jf 17 2 3 [],jl 18 17 [17],jb 19 .neq 16 18 [16,18]] [2,3,19] (.cond (.v 19) (jq [jn 4 (.mv (.c (.bool false))) []] [4] .ret) .skip)) (.seq (jq [jf 20 3 2 [],jl 21 20 [20],jf 22 3 3 [],jl 23 22 [22],jb 24 .neq 21 23 [21,23]] [2,3,24] (.cond (.v 24) (jq [jn 4 (.mv (.c (.bool false))) []] [4] .ret) .skip)) (.seq (jq [jf 25 4 2 [],jl 26 25 [25],jf 27 4 3 [],jl 28 27 [27],jb 29 .neq 26 28 [26,28]] [2,3,29] (.cond (.v 29) (jq [jn 4 (.mv (.c (.bool false))) []] [4] .ret) .skip)) (.seq (jq [jf 30 5 2 [2],jl 31 30 [30],jf 32 5 3 [3],jl 33 32 [32],jb 34 .neq 31 33 [31,33]] [34] (.cond (.v 34) (jq [jn 4 (.mv (.c (.bool false))) []] [4] .ret) .skip)) (jq [jn 4 (.mv (.c (.bool true))) []] [4] .ret)))))))) }
theorem QcB : Jd Go.Proofs.Tryz.prog 110 Vc = true := by kernel_rfl
/-- cmp.isNaN[string]: function 111 -/
def Uo : SFun := { n := 6,res := [.t 2],body := (jq [jn 2 (.mv (.c (.bool false))) [2]] [0] (jq [jm 3 0 [],jm 4 0 [0],jb 5 .neq 3 4 [3,4],jm 2 5 [5]] [2] .ret)) }
theorem QbX : Jd Go.Proofs.Tryz.prog 111 Uo = true := by kernel_rfl
end Go.Ve

namespace Go.Ve
open Go.Proofs
set_option linter.unusedSimpArgs false
set_option linter.unusedVariables false
set_option maxRecDepth 100000
noncomputable abbrev P := Go.Proofs.Tryz.prog
theorem hm : P.follows .mixedOrders = true := by kernel_rfl
theorem Qqy (n lo hi : Int) (hp : True) : Contract P 60 [.int .i64 n, .int .i64 lo, .int .i64 hi] [] (.bool (decide (lo ≤ n ∧ n ≤ hi))) [] := by
  refine Qt (Env.nil P) hm Qg2 (Nat.le_of_ble_eq_true rfl) rfl ?_
  unfold QbJ
  simp only [QkC, Qvs, QpI, QpJ, QkD, Qgh, QkE, QkF, QpK, Qvt, QpL, QpM, QpN, QpO, QpP, QpQ, QpR, QpS, QpT, QpU, QpV, Qgi, Qgj, Qgk, QkG, QkH, QkI, Qgl, Qgm, Qgn, Qgo, Qgp, Qgq, QkJ, QkK, QkL, QkM, QkN, Qds, Qbf, QpH, Qge, Qgf, Qkz, Qgg, QkA, QkB, Qgd, Qdr, Qkw, Qkx, QpE, Qky, QpF, QpG, Qgt, Qgu, Qw, Qx, Qdw, Qdx, Qgx, Qgy, Qgv, Qgw, Qy, Qz, QvE, QvF, QkR, QkS, QpX, QkO, QkP, QkQ, Qk3, Qk4, Qk5, Qdt, Qdu, Qdv, Qvu, Qvv, Qvw, Qvx, Qgr, Qgs, Qvz, Qvy, QvA, Qdy, QkT, QpY, QkU, QpZ, Qp0, Qp1, Qp2, QkV, Qgz, Qp3, QgA, QgB, QgC, QgD, QgE, Qdz, QdA, QgF, QkW, QgG, QkX, QkY, QkZ, QvB, QvC, Qp4, QgH, Qp5, QdB, QjK, Qk0, UC, QvD, QgI, Qp6, Qk1, Qp7, Qp8, QvG, Qp9, Qqa, QvH, Qqb, Qk2, Qqc, QvI, Qqd, Qqe, QvJ, QvK, QvL, Qqf, eff, Gp, Y5, Qk6, Qqg, Qk7, Qk8, Qk9, QvM, QvN, Xy, GL, QgJ, QvO, QvP, QvQ, W8, pur, List.map, List.drop, List.take, List.length, List.foldl, List.append_eq, List.nil_append, List.cons_append, List.getD_cons_zero, List.getD_cons_succ, reduceIte, Nat.reduceEqDiff, Nat.reduceAdd, Nat.reduceLeDiff, true_and, and_true, Bool.not_true, Bool.not_false, Bool.and_true, Bool.true_and, Bool.and_self, reduceCtorEq, true_implies, false_implies, implies_true, decide_eq_true_eq, Option.map_some, Ql9, fpX, SOp.xs, oX, refs, G9, dom, Qjn, List.all_nil, List.all_cons, List.contains_cons, List.contains_nil, Nat.reduceBEq, Bool.or_false, Bool.false_or, List.append_nil, Bool.not_false, Bool.not_true, List.forall_mem_cons, fm0, List.set, Nat.reduceLT, Nat.reduceMod, ne_eq, not_false_eq_true, not_true_eq_false
, QvR, Qqh, Qqi, Qqj, Qla, QgK, Qlb, Qqk, Qlc, Qld, QvS, QvT, QvU, Qql, Qqm, Qqn, QgL, QgM, decide_true, AV.bool.injEq, AV.int.injEq, Nat.reduceLeDiff, Bool.true_eq, Bool.false_eq, decide_eq_true_eq, decide_eq_false_iff_not]
  repeat' (first | apply And.intro | intro _)
  all_goals (first | trivial | omega | (simp_all; done) | (simp_all; omega))
def Ja : List AV → Option (Prop × AV)
  | [.int .i64 n, .int .i64 lo, .int .i64 hi] => some (True, .bool (decide (lo ≤ n ∧ n ≤ hi)))
  | _ => none
theorem Y3 : ∀ args p v, Ja args = some (p, v) → p → Contract P 60 args [] v [] ∧ noref v = true ∧ No99 v := by
  intro args p v h1 h2
  unfold Ja at h1
  split at h1
  · cases h1; exact ⟨Qqy _ _ _ h2, rfl, trivial⟩
  · cases h1
theorem Qux (n lo hi : Int) (hp : True) : Contract P 46 [.int .i64 n, .int .i64 lo, .int .i64 hi] [] (.bool (decide (lo ≤ n ∧ n ≤ hi))) [] := by
  refine Qt (Env.nil P) hm QjS (Nat.le_of_ble_eq_true rfl) rfl ?_
  unfold Qez
  simp only [QkC, Qvs, QpI, QpJ, QkD, Qgh, QkE, QkF, QpK, Qvt, QpL, QpM, QpN, QpO, QpP, QpQ, QpR, QpS, QpT, QpU, QpV, Qgi, Qgj, Qgk, QkG, QkH, QkI, Qgl, Qgm, Qgn, Qgo, Qgp, Qgq, QkJ, QkK, QkL, QkM, QkN, Qds, Qbf, QpH, Qge, Qgf, Qkz, Qgg, QkA, QkB, Qgd, Qdr, Qkw, Qkx, QpE, Qky, QpF, QpG, Qgt, Qgu, Qw, Qx, Qdw, Qdx, Qgx, Qgy, Qgv, Qgw, Qy, Qz, QvE, QvF, QkR, QkS, QpX, QkO, QkP, QkQ, Qk3, Qk4, Qk5, Qdt, Qdu, Qdv, Qvu, Qvv, Qvw, Qvx, Qgr, Qgs, Qvz, Qvy, QvA, Qdy, QkT, QpY, QkU, QpZ, Qp0, Qp1, Qp2, QkV, Qgz, Qp3, QgA, QgB, QgC, QgD, QgE, Qdz, QdA, QgF, QkW, QgG, QkX, QkY, QkZ, QvB, QvC, Qp4, QgH, Qp5, QdB, QjK, Qk0, UC, QvD, QgI, Qp6, Qk1, Qp7, Qp8, QvG, Qp9, Qqa, QvH, Qqb, Qk2, Qqc, QvI, Qqd, Qqe, QvJ, QvK, QvL, Qqf, eff, Gp, Y5, Qk6, Qqg, Qk7, Qk8, Qk9, QvM, QvN, Xy, GL, QgJ, QvO, QvP, QvQ, W8, pur, List.map, List.drop, List.take, List.length, List.foldl, List.append_eq, List.nil_append, List.cons_append, List.getD_cons_zero, List.getD_cons_succ, reduceIte, Nat.reduceEqDiff, Nat.reduceAdd, Nat.reduceLeDiff, true_and, and_true, Bool.not_true, Bool.not_false, Bool.and_true, Bool.true_and, Bool.and_self, reduceCtorEq, true_implies, false_implies, implies_true, decide_eq_true_eq, Option.map_some, Ql9, fpX, SOp.xs, oX, refs, G9, dom, Qjn, List.all_nil, List.all_cons, List.contains_cons, List.contains_nil, Nat.reduceBEq, Bool.or_false, Bool.false_or, List.append_nil, Bool.not_false, Bool.not_true, List.forall_mem_cons, fm0, List.set, Nat.reduceLT, Nat.reduceMod, ne_eq, not_false_eq_true, not_true_eq_false
, QvR, Qqh, Qqi, Qqj, Qla, QgK, Qlb, Qqk, Qlc, Qld, QvS, QvT, QvU, Qql, Qqm, Qqn, QgL, QgM, decide_true, AV.bool.injEq, AV.int.injEq, Nat.reduceLeDiff, Bool.true_eq, Bool.false_eq, decide_eq_true_eq, decide_eq_false_iff_not]
  repeat' (first | apply And.intro | intro _)
  all_goals (first | trivial | omega | (simp_all; done) | (simp_all; omega))
def JC : List AV → Option (Prop × AV)
  | [.int .i64 n, .int .i64 lo, .int .i64 hi] => some (True, .bool (decide (lo ≤ n ∧ n ≤ hi)))
  | _ => none
theorem XP : ∀ args p v, JC args = some (p, v) → p → Contract P 46 args [] v [] ∧ noref v = true ∧ No99 v := by
  intro args p v h1 h2
  unfold JC at h1
  split at h1
  · cases h1; exact ⟨Qux _ _ _ h2, rfl, trivial⟩
  · cases h1
theorem Quy (a b : Int) (hp : -9223372036854775808 ≤ a - b ∧ a - b ≤ 9223372036854775807 ∧ -9223372036854775808 ≤ b - a ∧ b - a ≤ 9223372036854775807) : Contract P 69 [.int .i64 a, .int .i64 b] [] (.int .i64 (max (a - b) (b - a))) [] := by
  refine Qt (Env.nil P) hm QjT (Nat.le_of_ble_eq_true rfl) rfl ?_
  unfold QeC
  simp only [QkC, Qvs, QpI, QpJ, QkD, Qgh, QkE, QkF, QpK, Qvt, QpL, QpM, QpN, QpO, QpP, QpQ, QpR, QpS, QpT, QpU, QpV, Qgi, Qgj, Qgk, QkG, QkH, QkI, Qgl, Qgm, Qgn, Qgo, Qgp, Qgq, QkJ, QkK, QkL, QkM, QkN, Qds, Qbf, QpH, Qge, Qgf, Qkz, Qgg, QkA, QkB, Qgd, Qdr, Qkw, Qkx, QpE, Qky, QpF, QpG, Qgt, Qgu, Qw, Qx, Qdw, Qdx, Qgx, Qgy, Qgv, Qgw, Qy, Qz, QvE, QvF, QkR, QkS, QpX, QkO, QkP, QkQ, Qk3, Qk4, Qk5, Qdt, Qdu, Qdv, Qvu, Qvv, Qvw, Qvx, Qgr, Qgs, Qvz, Qvy, QvA, Qdy, QkT, QpY, QkU, QpZ, Qp0, Qp1, Qp2, QkV, Qgz, Qp3, QgA, QgB, QgC, QgD, QgE, Qdz, QdA, QgF, QkW, QgG, QkX, QkY, QkZ, QvB, QvC, Qp4, QgH, Qp5, QdB, QjK, Qk0, UC, QvD, QgI, Qp6, Qk1, Qp7, Qp8, QvG, Qp9, Qqa, QvH, Qqb, Qk2, Qqc, QvI, Qqd, Qqe, QvJ, QvK, QvL, Qqf, eff, Gp, Y5, Qk6, Qqg, Qk7, Qk8, Qk9, QvM, QvN, Xy, GL, QgJ, QvO, QvP, QvQ, W8, pur, List.map, List.drop, List.take, List.length, List.foldl, List.append_eq, List.nil_append, List.cons_append, List.getD_cons_zero, List.getD_cons_succ, reduceIte, Nat.reduceEqDiff, Nat.reduceAdd, Nat.reduceLeDiff, true_and, and_true, Bool.not_true, Bool.not_false, Bool.and_true, Bool.true_and, Bool.and_self, reduceCtorEq, true_implies, false_implies, implies_true, decide_eq_true_eq, Option.map_some, Ql9, fpX, SOp.xs, oX, refs, G9, dom, Qjn, List.all_nil, List.all_cons, List.contains_cons, List.contains_nil, Nat.reduceBEq, Bool.or_false, Bool.false_or, List.append_nil, Bool.not_false, Bool.not_true, List.forall_mem_cons, fm0, List.set, Nat.reduceLT, Nat.reduceMod, ne_eq, not_false_eq_true, not_true_eq_false
, QvR, Qqh, Qqi, Qqj, Qla, QgK, Qlb, Qqk, Qlc, Qld, QvS, QvT, QvU, Qql, Qqm, Qqn, QgL, QgM, decide_true, AV.bool.injEq, AV.int.injEq, Nat.reduceLeDiff, Bool.true_eq, Bool.false_eq, decide_eq_true_eq, decide_eq_false_iff_not]
  repeat' (first | apply And.intro | intro _)
  all_goals (first | trivial | omega | (simp_all; done) | (simp_all; omega))
def XQ : List AV → Option (Prop × AV)
  | [.int .i64 a, .int .i64 b] => some (-9223372036854775808 ≤ a - b ∧ a - b ≤ 9223372036854775807 ∧ -9223372036854775808 ≤ b - a ∧ b - a ≤ 9223372036854775807, .int .i64 (max (a - b) (b - a)))
  | _ => none
theorem Quz : ∀ args p v, XQ args = some (p, v) → p → Contract P 69 args [] v [] ∧ noref v = true ∧ No99 v := by
  intro args p v h1 h2
  unfold XQ at h1
  split at h1
  · cases h1; exact ⟨Quy _ _ h2, rfl, trivial⟩
  · cases h1
structure Box6 where
  x : Int
  y : Int
  l : Int
  h : Int
  i : Int
  o : Int
  deriving Inhabited
def Box6.row (b : Box6) : List AV := [.int .i64 b.x, .int .i64 b.y, .int .i64 b.l, .int .i64 b.h, .int .i64 b.i, .int .i64 b.o]
def Box6.ok (b : Box6) : Prop := (0 ≤ b.x ∧ b.x ≤ 15) ∧ (0 ≤ b.y ∧ b.y ≤ 15) ∧ 0 ≤ b.l ∧ b.l ≤ b.h ∧ b.h ≤ 6 ∧ 0 ≤ b.i ∧ b.i ≤ b.o ∧ b.o ≤ 10000
instance (b : Box6) : Decidable b.ok := by unfold Box6.ok; infer_instance
structure Stp7 where
  x : Int
  y : Int
  l : Int
  h : Int
  f : Int
  b : Int
  hold : Bool
  deriving Inhabited
def Stp7.row (s : Stp7) : List AV := [.int .i64 s.x, .int .i64 s.y, .int .i64 s.l, .int .i64 s.h, .int .i64 s.f, .int .i64 s.b, .bool s.hold]
def Stp7.ok (s : Stp7) : Prop := (0 ≤ s.x ∧ s.x ≤ 15) ∧ (0 ≤ s.y ∧ s.y ≤ 15) ∧ 0 ≤ s.l ∧ s.l ≤ s.h ∧ s.h ≤ 6 ∧ 0 ≤ s.f ∧ s.f ≤ s.b ∧ s.b ≤ 10000
instance (s : Stp7) : Decidable s.ok := by unfold Stp7.ok; infer_instance
def Stp7.nb (a s : Stp7) : Prop := (-1 ≤ a.x - s.x ∧ a.x - s.x ≤ 1) ∧ (-1 ≤ a.y - s.y ∧ a.y - s.y ≤ 1) ∧ ¬ (a.x = s.x ∧ a.y = s.y) ∧ a.l ≤ s.h ∧ s.l ≤ a.h
instance (a s : Stp7) : Decidable (a.nb s) := by unfold Stp7.nb; infer_instance
end Go.Ve

namespace Go.Ve
open Go.Proofs
set_option linter.unusedSimpArgs false
set_option linter.unusedVariables false
set_option maxRecDepth 100000
theorem Qa (i : Nat) : ((i : Int) - 1).toNat = i - 1 := by omega
def QeP (q s : Int) (l : List Stp7) (f b : Int) : Prop :=
  (1 ≤ q ∧ q ≤ s ∧ s ≤ 50) ∧ (1 ≤ l.length ∧ l.length ≤ 40) ∧ (0 ≤ f ∧ f ≤ b ∧ b ≤ 10000) ∧ ∀ i, i < l.length → (l.getD i default).ok ∧ (0 < i → Stp7.nb (l.getD (i - 1) default) (l.getD i default))
instance (q s : Int) (l : List Stp7) (f b : Int) : Decidable (QeP q s l f b) := by unfold QeP; infer_instance
end Go.Ve

namespace Go.Ve
open Go.Proofs
set_option linter.unusedSimpArgs false
set_option linter.unusedVariables false
set_option maxRecDepth 100000
end Go.Ve

namespace Go.Ve
open Go.Proofs
set_option linter.unusedSimpArgs false
set_option linter.unusedVariables false
set_option maxRecDepth 100000
structure Path5 where
  q : Int
  s : Int
  l : List Stp7
  f : Int
  b : Int
  deriving Inhabited
def QsK (l : List Box6) (i : Nat) : Stp7 := ⟨(l.getD i default).x, (l.getD i default).y, (l.getD i default).l, (l.getD i default).h, (l.getD i default).i, if 0 < i then min (l.getD i default).o ((l.getD (i - 1) default).o + 1) else (l.getD i default).o, false⟩
def Qwh (l : List Box6) (i : Nat) : Int := if 0 < i then (l.getD (i - 1) default).i else 0
def Qwi (l : List Box6) (i : Nat) : Int := if 0 < i then (l.getD (i - 1) default).o + 1 else 0
def Qv3 (q s : Int) (l : List Box6) (i : Nat) : Path5 := ⟨q, s, (List.range i).map (QsK l), Qwh l i, Qwi l i⟩
def QuA (q s : Int) (l : List Box6) : Prop := (∀ i, i < l.length → (l.getD i default).ok) ∧ QeP q s (Qv3 q s l l.length).l (Qwh l l.length) (Qwi l l.length)
instance (q s : Int) (l : List Box6) : Decidable (QuA q s l) := by unfold QuA; infer_instance
end Go.Ve

namespace Go.Ve
open Go.Proofs
set_option linter.unusedSimpArgs false
set_option linter.unusedVariables false
set_option maxRecDepth 100000
def Path5.low (p : Path5) (k : Nat) : Int := if k < p.l.length then (p.l.getD k default).f else p.f
def Path5.high (p : Path5) (k : Nat) : Int := if k < p.l.length then (p.l.getD k default).b else p.b
def Path5.most (p : Path5) (k : Nat) : Int := if (p.l.getD k default).hold then 10000 else p.s
structure Span2 where
  lo : Int
  hi : Int
  deriving Inhabited
def Span2.row (s : Span2) : List AV := [.int .i64 s.lo, .int .i64 s.hi]
/-- Ahead: the earliest and the latest, from the first step on. -/
def Path5.fwd (p : Path5) : Nat → Span2
  | 0 => ⟨p.low 0, p.high 0⟩
  | k + 1 => ⟨max (p.low (k + 1)) ((p.fwd k).lo + p.q), min (p.high (k + 1)) ((p.fwd k).hi + p.most k)⟩
/-- Back again, from the last one. -/
def Path5.bwd (p : Path5) : Nat → Span2
  | 0 => p.fwd p.l.length
  | d + 1 => ⟨max (p.fwd (p.l.length - (d + 1))).lo ((p.bwd d).lo - p.most (p.l.length - (d + 1))), min (p.fwd (p.l.length - (d + 1))).hi ((p.bwd d).hi - p.q)⟩
def Path5.span (p : Path5) (k : Nat) : Span2 := p.bwd (p.l.length - k)
def Path5.can (p : Path5) : Prop := ∀ k, k < p.l.length + 1 → (p.span k).lo ≤ (p.span k).hi
instance (p : Path5) : Decidable p.can := by unfold Path5.can; infer_instance
def Path5.spans (p : Path5) : List Span2 := if p.can then (List.range (p.l.length + 1)).map p.span else []
/-- What the passes ask of the numbers. -/
structure Path5.calm (p : Path5) : Prop where
  q : 0 ≤ p.q ∧ p.q ≤ 50
  s : 0 ≤ p.s ∧ p.s ≤ 50
  n : p.l.length ≤ 1048576
  lo : ∀ k, k ≤ p.l.length → 0 ≤ p.low k
  hi : ∀ k, k ≤ p.l.length → p.high k ≤ 10000
theorem Path5.calm.most {p : Path5} (h : p.calm) (k : Nat) : 0 ≤ p.most k ∧ p.most k ≤ 10000 := by
  unfold Path5.most
  have := h.s
  split <;> omega
end Go.Ve

namespace Go.Ve
open Go.Proofs
set_option linter.unusedSimpArgs false
set_option linter.unusedVariables false
set_option maxRecDepth 100000
def QX (n : Int) : List AV := [.int .i64 n]
def unI : List AV → Int
  | [.int _ n] => n
  | _ => 0
theorem Q6 (l : List Int) : (l.map QX).map unI = l := by
  rw [List.map_map]; exact List.map_id'' (fun s => rfl) l
/-- What the program starts from. -/
def Path5.ini (p : Path5) (bg : List Int) (k : Nat) : Span2 := if k < bg.length then ⟨max (p.low k) (bg.getD k default), min (p.high k) (bg.getD k default)⟩ else ⟨p.low k, p.high k⟩
/-- Ahead, as the program does it. -/
def Path5.wf (p : Path5) (bg : List Int) : Nat → Span2
  | 0 => p.ini bg 0
  | k + 1 => ⟨max (p.ini bg (k + 1)).lo (IntKind.i64.wrap ((p.wf bg k).lo + p.q)), if (p.l.getD k default).hold then (p.ini bg (k + 1)).hi else min (p.ini bg (k + 1)).hi (IntKind.i64.wrap ((p.wf bg k).hi + p.s))⟩
/-- Back again, as the program does it. -/
def Path5.wb (p : Path5) (bg : List Int) : Nat → Span2
  | 0 => p.wf bg p.l.length
  | d + 1 => ⟨if (p.l.getD (p.l.length - (d + 1)) default).hold then (p.wf bg (p.l.length - (d + 1))).lo else max (p.wf bg (p.l.length - (d + 1))).lo (IntKind.i64.wrap ((p.wb bg d).lo - p.s)), min (p.wf bg (p.l.length - (d + 1))).hi (IntKind.i64.wrap ((p.wb bg d).hi - p.q))⟩
def Path5.wsp (p : Path5) (bg : List Int) (j : Nat) : Span2 := p.wb bg (p.l.length - j)
def Path5.wcan (p : Path5) (bg : List Int) : Prop := ∀ k, k < p.l.length + 1 → (p.wsp bg k).lo ≤ (p.wsp bg k).hi
instance (p : Path5) (bg : List Int) : Decidable (p.wcan bg) := by unfold Path5.wcan; infer_instance
end Go.Ve

namespace Go.Ve
open Go.Proofs
set_option linter.unusedSimpArgs false
set_option linter.unusedVariables false
set_option maxRecDepth 100000
def Qqz (p : Path5) (bg : List Int) (k j : Nat) : Stp7 := if j < k then { p.l.getD j default with f := max (p.l.getD j default).f (bg.getD j default), b := min (p.l.getD j default).b (bg.getD j default) } else p.l.getD j default
def Path5.held (p : Path5) (bg : List Int) : Path5 := ⟨p.q, p.s, (List.range p.l.length).map (Qqz p bg bg.length), p.f, p.b⟩
end Go.Ve

namespace Go.Ve
open Go.Proofs
set_option linter.unusedSimpArgs false
set_option linter.unusedVariables false
set_option maxRecDepth 100000
def Path5.begun (p : Path5) (bg : List Int) : Prop := QeP p.q p.s p.l p.f p.b ∧ bg.length ≤ p.l.length ∧ (p.held bg).can
instance (p : Path5) (bg : List Int) : Decidable (p.begun bg) := by unfold Path5.begun; infer_instance
def Path5.next (p : Path5) (bg : List Int) : Span2 := if p.begun bg then (p.held bg).span bg.length else ⟨0, 0⟩
end Go.Ve

namespace Go.Ve
set_option linter.unusedSimpArgs false
set_option linter.unusedVariables false
/-! The program's passes and the reference's come to the same. -/
section
variable {p : Path5} {bg : List Int}
end
end Go.Ve

namespace Go.Ve
open Go.Proofs
set_option linter.unusedSimpArgs false
set_option linter.unusedVariables false
set_option maxRecDepth 100000
end Go.Ve

namespace Go.Ve
open Go.Proofs
set_option linter.unusedSimpArgs false
set_option linter.unusedVariables false
set_option maxRecDepth 100000
def Path5.fit (p : Path5) : Prop := QeP p.q p.s p.l p.f p.b ∧ p.can
instance (p : Path5) : Decidable p.fit := by unfold Path5.fit; infer_instance
end Go.Ve

namespace Go.Ve
open Go.Proofs
set_option linter.unusedSimpArgs false
set_option linter.unusedVariables false
set_option maxRecDepth 100000
def Qmm : List AV → Box6
  | [.int _ x, .int _ y, .int _ l, .int _ h, .int _ i, .int _ o] => ⟨x, y, l, h, i, o⟩
  | _ => default
theorem QiJ (l : List Box6) : (l.map Box6.row).map Qmm = l := by
  rw [List.map_map]; exact List.map_id'' (fun s => rfl) l
end Go.Ve

namespace Go.Ve
open Go.Proofs
set_option linter.unusedSimpArgs false
set_option linter.unusedVariables false
set_option maxRecDepth 100000
theorem XR {α : Type} [Inhabited α] {a b : List α} (hl : a.length = b.length) (h : ∀ j, j < a.length → a.getD j default = b.getD j default) : a = b := by
  refine List.ext_getElem hl fun j h1 h2 => ?_
  have := h j h1
  simpa [h1, h2] using this
end Go.Ve

namespace Go.Ve
open Go.Proofs
set_option linter.unusedSimpArgs false
set_option linter.unusedVariables false
set_option maxRecDepth 100000
end Go.Ve

namespace Go.Ve
open Go.Proofs
set_option linter.unusedSimpArgs false
set_option linter.unusedVariables false
set_option maxRecDepth 100000
theorem Qlo {α : Type} {f : α → List AV} {l : List α} : List.take l.length (List.map f l) = List.map f l := List.take_of_length_le (by simp)
def Path5.tail (p : Path5) (k : Nat) : Path5 := { p with l := p.l.drop k }
def Path5.after (p : Path5) (now : Int) : Path5 := if 1 < p.l.length then { p with l := p.l.set 1 { p.l.getD 1 default with f := max (p.l.getD 1 default).f (now + 1) } } else { p with f := max p.f (now + 1) }
end Go.Ve

namespace Go.Ve
set_option linter.unusedSimpArgs false
set_option linter.unusedVariables false
/-! The spans are those of flights. -/
section
variable {p : Path5}
end

/-! A path begun later, or at a later step. -/
/-- The first step's ticks set anew. -/
def Path5.first (p : Path5) (f b : Int) : Path5 := { p with l := p.l.set 0 { p.l.getD 0 default with f := f, b := b } }
def Path5.rest (p : Path5) (k : Nat) (f b now : Int) : Path5 := ((p.tail k).first f b).after now
section
variable {p : Path5} {k : Nat} {f b now : Int}
end
/-! Waiting ahead of the first step. -/
def Path5.wait (p : Path5) (now : Int) : Path5 := { p with l := p.l.set 0 { p.l.getD 0 default with f := max (p.l.getD 0 default).f (now + 1) } }
end Go.Ve

namespace Go.Ve
open Go.Proofs
set_option linter.unusedSimpArgs false
set_option linter.unusedVariables false
set_option maxRecDepth 100000
def Path5.restAt (p : Path5) (k e now : Int) : Path5 := p.rest k.toNat (max (p.l.getD k.toNat default).f e) (min (p.l.getD k.toNat default).b e) now
def Path5.goes (p : Path5) (k e now : Int) : Prop := QeP p.q p.s p.l p.f p.b ∧ (0 ≤ k ∧ k < p.l.length) ∧ (0 ≤ e ∧ e ≤ now ∧ now ≤ 10000) ∧ (p.restAt k e now).can
instance (p : Path5) (k e now : Int) : Decidable (p.goes k e now) := by unfold Path5.goes; infer_instance
end Go.Ve

namespace Go.Ve
open Go.Proofs
set_option linter.unusedSimpArgs false
set_option linter.unusedVariables false
set_option maxRecDepth 100000
end Go.Ve

namespace Go.Ve
open Go.Proofs
set_option linter.unusedSimpArgs false
set_option linter.unusedVariables false
set_option maxRecDepth 100000
/-- The aircraft can stay where it is behind now. -/
def Path5.stays (p : Path5) (bg : List Int) (now : Int) : Prop := if bg.length = 0 then QeP p.q p.s p.l p.f p.b ∧ (p.wait now).can else p.goes ((bg.length : Int) - 1) (bg.getD (bg.length - 1) default) now
instance (p : Path5) (bg : List Int) (now : Int) : Decidable (p.stays bg now) := by unfold Path5.stays; infer_instance
end Go.Ve

namespace Go.Ve
open Go.Proofs
set_option linter.unusedSimpArgs false
set_option linter.unusedVariables false
set_option maxRecDepth 100000
def Path5.must (p : Path5) (bg : List Int) (now : Int) : Prop := p.begun bg ∧ ((p.next bg).lo ≤ now ∧ now ≤ (p.next bg).hi) ∧ ¬ p.stays bg now
instance (p : Path5) (bg : List Int) (now : Int) : Decidable (p.must bg now) := by unfold Path5.must; infer_instance
end Go.Ve

namespace Go.Ve
open Go.Proofs
set_option linter.unusedSimpArgs false
set_option linter.unusedVariables false
set_option maxRecDepth 100000
def V6 (a : Int) (n : Nat) : Int := if a - n < 0 then -1 else a - n
theorem Box6.eq_iff (a b : Box6) : a = b ↔ a.x = b.x ∧ a.y = b.y ∧ a.l = b.l ∧ a.h = b.h ∧ a.i = b.i ∧ a.o = b.o := ⟨fun h => by subst h; exact ⟨rfl, rfl, rfl, rfl, rfl, rfl⟩, fun h => by
  cases a; cases b; simp only at h; simp only [Box6.mk.injEq]; exact h⟩
instance : DecidableEq Box6 := fun a b => decidable_of_iff _ (Box6.eq_iff a b).symm
end Go.Ve

namespace Go.Ve
open Go.Proofs
set_option linter.unusedSimpArgs false
set_option linter.unusedVariables false
set_option maxRecDepth 100000
structure Kind2 where
  q : Int
  s : Int
  deriving Inhabited
theorem WD (l : List Int) : JW (l.map QX) := by
  induction l with
  | nil => trivial
  | cons x l ih => exact ⟨⟨trivial, trivial⟩, ih⟩
theorem Gy (l : List Box6) : JW (l.map Box6.row) := by
  induction l with
  | nil => trivial
  | cons x l ih => exact ⟨⟨trivial, trivial, trivial, trivial, trivial, trivial, trivial⟩, ih⟩
theorem Kind2.eq_iff (a b : Kind2) : a = b ↔ a.q = b.q ∧ a.s = b.s := ⟨fun h => by subst h; exact ⟨rfl, rfl⟩, fun h => by
  cases a; cases b; simp only at h; simp only [Kind2.mk.injEq]; exact h⟩
instance : DecidableEq Kind2 := fun a b => decidable_of_iff _ (Kind2.eq_iff a b).symm
end Go.Ve

namespace Go.Ve
noncomputable section
open Go.Proofs
set_option linter.unusedSimpArgs false
set_option linter.unusedVariables false
set_option maxRecDepth 100000
structure Zone where
  nm : ByteArray
  x0 : Int
  y0 : Int
  x1 : Int
  y1 : Int
  deriving Inhabited, DecidableEq
def Zone.row (s : Zone) : List AV := [.str s.nm, .int .i64 s.x0, .int .i64 s.y0, .int .i64 s.x1, .int .i64 s.y1]
def Qlp : List AV → Zone
  | [.str vnm, .int .i64 vx0, .int .i64 vy0, .int .i64 vx1, .int .i64 vy1] => (Zone.mk vnm vx0 vy0 vx1 vy1)
  | _ => default
theorem Qmn (s : Zone) : Qlp (Zone.row s) = s := by
  cases s; simp only [Zone.row, Qlp]
theorem Qs (l : List Zone) : (l.map Zone.row).map Qlp = l := by
  rw [List.map_map]; exact List.map_id'' (fun s => Qmn s) l
theorem Qf (s : Zone) : (Zone.mk s.nm s.x0 s.y0 s.x1 s.y1) = s := (rfl)
structure Word where
  kd : Int
  fr : ByteArray
  dst : ByteArray
  fl : ByteArray
  nr : Int
  la : Int
  tn : Int
  tu : List Box6
  deriving Inhabited, DecidableEq
def Word.row (t : Nat) (s : Word) : List AV := [.int .i64 s.kd, .str s.fr, .str s.dst, .str s.fl, .int .i64 s.nr, .int .i64 s.la, .int .i64 s.tn, .sl t 6 (s.tu.map Box6.row)]
def QiK : List AV → Word
  | [.int .i64 vkd, .str vfr, .str vdst, .str vfl, .int .i64 vnr, .int .i64 vla, .int .i64 vtn, .sl _ 6 vtu] => (Word.mk vkd vfr vdst vfl vnr vla vtn (vtu.map Qmm))
  | _ => default
theorem Qmo (t : Nat) (s : Word) : QiK (Word.row t s) = s := by
  cases s; simp only [Word.row, QiK, QiJ]
theorem Jx (t : Nat) (l : List Word) : (l.map (Word.row t)).map QiK = l := by
  rw [List.map_map]; exact List.map_id'' (fun s => Qmo t s) l
theorem Je (s : Word) : (Word.mk s.kd s.fr s.dst s.fl s.nr s.la s.tn s.tu) = s := (rfl)
structure Own where
  fl : ByteArray
  st : Int
  tn : Int
  dst : ByteArray
  la : Int
  nr : Int
  tu : List Box6
  wi : Int
  nx : List Box6
  gr : List ByteArray
  sent : Bool
  deriving Inhabited, DecidableEq
def Own.row (t : Nat) (s : Own) : List AV := [.str s.fl, .int .i64 s.st, .int .i64 s.tn, .str s.dst, .int .i64 s.la, .int .i64 s.nr, .sl t 6 (s.tu.map Box6.row), .int .i64 s.wi, .sl t 6 (s.nx.map Box6.row), .sl t 1 (s.gr.map QH), .bool s.sent]
def Qmp : List AV → Own
  | [.str vfl, .int .i64 vst, .int .i64 vtn, .str vdst, .int .i64 vla, .int .i64 vnr, .sl _ 6 vtu, .int .i64 vwi, .sl _ 6 vnx, .sl _ 1 vgr, .bool vsent] => (Own.mk vfl vst vtn vdst vla vnr (vtu.map Qmm) vwi (vnx.map Qmm) (vgr.map unS) vsent)
  | _ => default
theorem QnQ (t : Nat) (s : Own) : Qmp (Own.row t s) = s := by
  cases s; simp only [Own.row, Qmp, QiJ, QiJ, Q4]
theorem JS (t : Nat) (l : List Own) : (l.map (Own.row t)).map Qmp = l := by
  rw [List.map_map]; exact List.map_id'' (fun s => QnQ t s) l
theorem Jy (s : Own) : (Own.mk s.fl s.st s.tn s.dst s.la s.nr s.tu s.wi s.nx s.gr s.sent) = s := (rfl)
structure Part where
  fl : ByteArray
  nr : Int
  bx : List Box6
  deriving Inhabited, DecidableEq
def Part.row (t : Nat) (s : Part) : List AV := [.str s.fl, .int .i64 s.nr, .sl t 6 (s.bx.map Box6.row)]
def QfS : List AV → Part
  | [.str vfl, .int .i64 vnr, .sl _ 6 vbx] => (Part.mk vfl vnr (vbx.map Qmm))
  | _ => default
theorem Qmq (t : Nat) (s : Part) : QfS (Part.row t s) = s := by
  cases s; simp only [Part.row, QfS, QiJ]
theorem Jn (t : Nat) (l : List Part) : (l.map (Part.row t)).map QfS = l := by
  rw [List.map_map]; exact List.map_id'' (fun s => Qmq t s) l
theorem Jf (s : Part) : (Part.mk s.fl s.nr s.bx) = s := (rfl)
structure Seen where
  fl : ByteArray
  nr : Int
  deriving Inhabited, DecidableEq
def Seen.row (s : Seen) : List AV := [.str s.fl, .int .i64 s.nr]
def QfT : List AV → Seen
  | [.str vfl, .int .i64 vnr] => (Seen.mk vfl vnr)
  | _ => default
theorem Qmr (s : Seen) : QfT (Seen.row s) = s := by
  cases s; simp only [Seen.row, QfT]
theorem Jo (l : List Seen) : (l.map Seen.row).map QfT = l := by
  rw [List.map_map]; exact List.map_id'' (fun s => Qmr s) l
theorem Jg (s : Seen) : (Seen.mk s.fl s.nr) = s := (rfl)
structure Book where
  own : List Own
  parts : List Part
  seen : List Seen
  deriving Inhabited, DecidableEq
def Book.row (t : Nat) (s : Book) : List AV := [.sl t 11 (s.own.map (Own.row t)), .sl t 3 (s.parts.map (Part.row t)), .sl t 2 (s.seen.map Seen.row)]
def QnR : List AV → Book
  | [.sl _ 11 vown, .sl _ 3 vparts, .sl _ 2 vseen] => (Book.mk (vown.map Qmp) (vparts.map QfS) (vseen.map QfT))
  | _ => default
theorem Qms (t : Nat) (s : Book) : QnR (Book.row t s) = s := by
  cases s; simp only [Book.row, QnR, JS, Jn, Jo]
theorem Jz (t : Nat) (l : List Book) : (l.map (Book.row t)).map QnR = l := by
  rw [List.map_map]; exact List.map_id'' (fun s => Qms t s) l
theorem Jh (s : Book) : (Book.mk s.own s.parts s.seen) = s := (rfl)
structure Sector where
  up : Bool
  mo : List Own
  mp : List Part
  ms : List Seen
  dn : List Own
  dp : List Part
  ds : List Seen
  ot : List Word
  deriving Inhabited, DecidableEq
def Sector.row (t : Nat) (s : Sector) : List AV := [.bool s.up, .sl t 11 (s.mo.map (Own.row t)), .sl t 3 (s.mp.map (Part.row t)), .sl t 2 (s.ms.map Seen.row), .sl t 11 (s.dn.map (Own.row t)), .sl t 3 (s.dp.map (Part.row t)), .sl t 2 (s.ds.map Seen.row), .sl t 8 (s.ot.map (Word.row t))]
def QdF : List AV → Sector
  | [.bool vup, .sl _ 11 vmo, .sl _ 3 vmp, .sl _ 2 vms, .sl _ 11 vdn, .sl _ 3 vdp, .sl _ 2 vds, .sl _ 8 vot] => (Sector.mk vup (vmo.map Qmp) (vmp.map QfS) (vms.map QfT) (vdn.map Qmp) (vdp.map QfS) (vds.map QfT) (vot.map QiK))
  | _ => default
theorem QiL (t : Nat) (s : Sector) : QdF (Sector.row t s) = s := by
  cases s; simp only [Sector.row, QdF, JS, Jn, Jo, JS, Jn, Jo, Jx]
theorem QY (t : Nat) (l : List Sector) : (l.map (Sector.row t)).map QdF = l := by
  rw [List.map_map]; exact List.map_id'' (fun s => QiL t s) l
theorem QR (s : Sector) : (Sector.mk s.up s.mo s.mp s.ms s.dn s.dp s.ds s.ot) = s := (rfl)
structure HCraft where
  nm : ByteArray
  nr : Int
  no : Int
  tu : List Box6
  deriving Inhabited, DecidableEq
def HCraft.row (t : Nat) (s : HCraft) : List AV := [.str s.nm, .int .i64 s.nr, .int .i64 s.no, .sl t 6 (s.tu.map Box6.row)]
def QdG : List AV → HCraft
  | [.str vnm, .int .i64 vnr, .int .i64 vno, .sl _ 6 vtu] => (HCraft.mk vnm vnr vno (vtu.map Qmm))
  | _ => default
theorem QiM (t : Nat) (s : HCraft) : QdG (HCraft.row t s) = s := by
  cases s; simp only [HCraft.row, QdG, QiJ]
theorem QZ (t : Nat) (l : List HCraft) : (l.map (HCraft.row t)).map QdG = l := by
  rw [List.map_map]; exact List.map_id'' (fun s => QiM t s) l
theorem QS (s : HCraft) : (HCraft.mk s.nm s.nr s.no s.tu) = s := (rfl)
structure World where
  zones : List Zone
  secs : List Sector
  crafts : List HCraft
  radio : List Word
  deriving Inhabited, DecidableEq
def World.row (t : Nat) (s : World) : List AV := [.sl t 5 (s.zones.map Zone.row), .sl t 8 (s.secs.map (Sector.row t)), .sl t 4 (s.crafts.map (HCraft.row t)), .sl t 8 (s.radio.map (Word.row t))]
def QjY : List AV → World
  | [.sl _ 5 vzones, .sl _ 8 vsecs, .sl _ 4 vcrafts, .sl _ 8 vradio] => (World.mk (vzones.map Qlp) (vsecs.map QdF) (vcrafts.map QdG) (vradio.map QiK))
  | _ => default
theorem QjZ (t : Nat) (s : World) : QjY (World.row t s) = s := by
  cases s; simp only [World.row, QjY, Qs, QY, QZ, Jx]
theorem Ji (t : Nat) (l : List World) : (l.map (World.row t)).map QjY = l := by
  rw [List.map_map]; exact List.map_id'' (fun s => QjZ t s) l
theorem Q2 (s : World) : (World.mk s.zones s.secs s.crafts s.radio) = s := (rfl)
theorem QqA (s : ByteArray) : Contract P 61 [.str s] [] (.bool (decide (K9 s))) [] := by
  refine Qt (Env.nil P) hm Qg3 (Nat.le_of_ble_eq_true rfl) rfl ?_; unfold QbK; simp (config := { maxSteps := 2000000 }) only [bitvec_to_nat, reduceIte, Nat.reduceEqDiff, Nat.reduceAdd, Nat.reduceLeDiff, reduceCtorEq, Nat.reduceBEq, Nat.reduceLT, Nat.reduceMod, List.forall_mem_cons]
  refine ⟨fun h1 => ?_, fun h1 => ⟨fun h2 => ?_, fun h2 => ?_⟩⟩
  · grind [K9]
  · grind [K9]
  · refine QV (fun i : Nat => [(3, .int .i64 i)]) (fun _ => []) (fun i => i ≤ s.toList.length ∧ ∀ j, j < i → Qej (s.toList.getD j 0)) (fun i => s.toList.length - i) (0) (by simp only [JX, JY, JZ, J0, Qw, Qx, Qy, Qz, reduceIte, Nat.reduceEqDiff]; exact ⟨by repeat' (first | exact trivial | refine ⟨.inr rfl, ?_⟩), by repeat' (first | exact trivial | refine ⟨rfl, ?_⟩), by first | rfl | simp [closedB, Qr, Qg, Qi, dom, Qe, *], by first | rfl | simp [keepB, dom]⟩) ?_ ?_
    · exact ⟨Nat.zero_le _, by intro j hj; omega⟩
    intro i hi NX hN
    unfold Wr; simp (config := { maxSteps := 2000000 }) only [bitvec_to_nat, reduceIte, Nat.reduceEqDiff, Nat.reduceAdd, Nat.reduceLeDiff, reduceCtorEq, Nat.reduceBEq, Nat.reduceLT, Nat.reduceMod, List.forall_mem_cons]
    repeat' (first | apply And.intro | intro _)
    all_goals first
      | omega
      | (refine hN (i + 1) _ (by simp only [JX, JY, JZ, J0, Qw, Qx, Qy, Qz, reduceIte, Nat.reduceEqDiff]; exact ⟨by repeat' (first | exact trivial | refine ⟨.inr rfl, ?_⟩), by repeat' (first | exact trivial | refine ⟨rfl, ?_⟩), by first | rfl | simp [closedB, Qr, Qg, Qi, dom, Qe, *], by first | rfl | simp [keepB, dom]⟩) ?_ ?_
         · exact ⟨by omega, JB hi.2 (by grind [Qej])⟩
         · omega)
      | grind [K9, Qej]
end
end Go.Ve

namespace Go.Ve
noncomputable section
open Go.Proofs
set_option linter.unusedSimpArgs false
set_option linter.unusedVariables false
set_option maxRecDepth 100000
theorem Qk {α : Type} {f : α → List AV} {l : List α} {n : Nat} : List.take n (List.map f l) = List.map f (List.take n l) := (List.map_take).symm
theorem Qm {α : Type} {f : α → List AV} {l : List α} {n : Nat} : List.drop n (List.map f l) = List.map f (List.drop n l) := (List.map_drop).symm
def Jp : List AV → Option (Prop × AV)
  | [.str s] => some ((True) ∧ (True), .bool (decide (K9 s)))
  | _ => none
theorem Up : ∀ args p v, Jp args = some (p, v) → p → Contract P 61 args [] v [] ∧ noref v = true ∧ No99 v := by
  intro args p v h1 h2
  unfold Jp at h1
  split at h1
  · rename_i s
    cases h1
    obtain ⟨_, HP⟩ := h2
    have := QqA s
    exact ⟨this, rfl, trivial⟩
  · cases h1
def Zone.ok (z : Zone) : Prop := K9 z.nm ∧ (0 ≤ z.x0 ∧ z.x0 ≤ z.x1 ∧ z.x1 < 16) ∧ (0 ≤ z.y0 ∧ z.y0 ≤ z.y1 ∧ z.y1 < 16)
def Zone.meet (o z : Zone) : Prop := o.x0 ≤ z.x1 ∧ z.x0 ≤ o.x1 ∧ o.y0 ≤ z.y1 ∧ z.y0 ≤ o.y1
def QuB (zs : List Zone) (i : Nat) : Prop := (zs.getD i default).ok ∧ (0 < i → slt (zs.getD (i - 1) default).nm (zs.getD i default).nm) ∧ ∀ k, k < i → ¬ (zs.getD k default).meet (zs.getD i default)
def QsL (zs : List Zone) : Prop := (1 ≤ zs.length ∧ zs.length ≤ 4) ∧ ∀ i, i < zs.length → QuB zs i
noncomputable instance (zs : List Zone) : Decidable (QsL zs) := Classical.propDecidable _
end
end Go.Ve

namespace Go.Ve
noncomputable section
open Go.Proofs
set_option linter.unusedSimpArgs false
set_option linter.unusedVariables false
set_option maxRecDepth 100000
structure Pt where
  nm : ByteArray
  x : Int
  y : Int
  deriving Inhabited, DecidableEq
def Pt.row (s : Pt) : List AV := [.str s.nm, .int .i64 s.x, .int .i64 s.y]
def JA : List AV → Pt
  | [.str vnm, .int .i64 vx, .int .i64 vy] => (Pt.mk vnm vx vy)
  | _ => default
theorem QqB (s : Pt) : JA (Pt.row s) = s := by
  cases s; simp only [Pt.row, JA]
theorem QA (l : List Pt) : (l.map Pt.row).map JA = l := by
  rw [List.map_map]; exact List.map_id'' (fun s => QqB s) l
theorem Ql (s : Pt) : (Pt.mk s.nm s.x s.y) = s := (rfl)
theorem QuC (s : Pt) : (Pt.row s).length = 3 := (rfl)
theorem Qv4 (s : Pt) : JJ (Pt.row s) = true := (rfl)
theorem Gc (l : List Pt) : JW (l.map Pt.row) := by
  induction l with
  | nil => simp [JW]
  | cons x l ih => simp only [List.map_cons, JW]; exact ⟨by simp [Pt.row, Ko, No99], ih⟩
theorem QsM (s : Pt) : List.take 3 (Pt.row s) = Pt.row s := (rfl)
structure Aw where
  nm : ByteArray
  pts : List ByteArray
  deriving Inhabited, DecidableEq
def Aw.row (t : Nat) (s : Aw) : List AV := [.str s.nm, .sl t 1 (s.pts.map QH)]
def JI : List AV → Aw
  | [.str vnm, .sl _ 1 vpts] => (Aw.mk vnm (vpts.map unS))
  | _ => default
theorem QqC (t : Nat) (s : Aw) : JI (Aw.row t s) = s := by
  cases s; simp only [Aw.row, JI, Q4]
theorem QB (t : Nat) (l : List Aw) : (l.map (Aw.row t)).map JI = l := by
  rw [List.map_map]; exact List.map_id'' (fun s => QqC t s) l
theorem Qo (s : Aw) : (Aw.mk s.nm s.pts) = s := (rfl)
theorem G4 (l : List Aw) : JW (l.map (Aw.row 0)) := by
  induction l with
  | nil => simp [JW]
  | cons x l ih => simp only [List.map_cons, JW]; exact ⟨by simp [Aw.row, Ko, No99, Kp], ih⟩
structure Blk where
  x0 : Int
  y0 : Int
  x1 : Int
  y1 : Int
  lo : Int
  hi : Int
  deriving Inhabited, DecidableEq
def Blk.row (s : Blk) : List AV := [.int .i64 s.x0, .int .i64 s.y0, .int .i64 s.x1, .int .i64 s.y1, .int .i64 s.lo, .int .i64 s.hi]
def Yp : List AV → Blk
  | [.int .i64 vx0, .int .i64 vy0, .int .i64 vx1, .int .i64 vy1, .int .i64 vlo, .int .i64 vhi] => (Blk.mk vx0 vy0 vx1 vy1 vlo vhi)
  | _ => default
theorem QnS (s : Blk) : Yp (Blk.row s) = s := by
  cases s; simp only [Blk.row, Yp]
theorem Qj (l : List Blk) : (l.map Blk.row).map Yp = l := by
  rw [List.map_map]; exact List.map_id'' (fun s => QnS s) l
theorem Qb (s : Blk) : (Blk.mk s.x0 s.y0 s.x1 s.y1 s.lo s.hi) = s := (rfl)
theorem KI (l : List Blk) : JW (l.map Blk.row) := by
  induction l with
  | nil => simp [JW]
  | cons x l ih => simp only [List.map_cons, JW]; exact ⟨by simp [Blk.row, Ko, No99], ih⟩
structure Sec where
  nm : ByteArray
  bl : List Blk
  deriving Inhabited, DecidableEq
def Sec.row (t : Nat) (s : Sec) : List AV := [.str s.nm, .sl t 6 (s.bl.map Blk.row)]
def QP : List AV → Sec
  | [.str vnm, .sl _ 6 vbl] => (Sec.mk vnm (vbl.map Yp))
  | _ => default
theorem QnT (t : Nat) (s : Sec) : QP (Sec.row t s) = s := by
  cases s; simp only [Sec.row, QP, Qj]
theorem Qn (t : Nat) (l : List Sec) : (l.map (Sec.row t)).map QP = l := by
  rw [List.map_map]; exact List.map_id'' (fun s => QnT t s) l
theorem Qc (s : Sec) : (Sec.mk s.nm s.bl) = s := (rfl)
theorem Yq (l : List Sec) : JW (l.map (Sec.row 0)) := by
  induction l with
  | nil => simp [JW]
  | cons x l ih => simp only [List.map_cons, JW]; exact ⟨by simp [Sec.row, Ko, No99, KI], ih⟩
structure Rw where
  nm : ByteArray
  x : Int
  y : Int
  tn : Int
  deriving Inhabited, DecidableEq
def Rw.row (s : Rw) : List AV := [.str s.nm, .int .i64 s.x, .int .i64 s.y, .int .i64 s.tn]
def JG : List AV → Rw
  | [.str vnm, .int .i64 vx, .int .i64 vy, .int .i64 vtn] => (Rw.mk vnm vx vy vtn)
  | _ => default
theorem QqD (s : Rw) : JG (Rw.row s) = s := by
  cases s; simp only [Rw.row, JG]
theorem QD (l : List Rw) : (l.map Rw.row).map JG = l := by
  rw [List.map_map]; exact List.map_id'' (fun s => QqD s) l
theorem Qp (s : Rw) : (Rw.mk s.nm s.x s.y s.tn) = s := (rfl)
theorem Gd (l : List Rw) : JW (l.map Rw.row) := by
  induction l with
  | nil => simp [JW]
  | cons x l ih => simp only [List.map_cons, JW]; exact ⟨by simp [Rw.row, Ko, No99], ih⟩
structure Sky where
  w : Int
  h : Int
  lv : Int
  pts : List Pt
  aws : List Aw
  secs : List Sec
  rws : List Rw
  deriving Inhabited, DecidableEq
def Sky.row (t : Nat) (s : Sky) : List AV := [.int .i64 s.w, .int .i64 s.h, .int .i64 s.lv, .sl t 3 (s.pts.map Pt.row), .sl t 2 (s.aws.map (Aw.row t)), .sl t 2 (s.secs.map (Sec.row t)), .sl t 4 (s.rws.map Rw.row)]
def QsN : List AV → Sky
  | [.int .i64 vw, .int .i64 vh, .int .i64 vlv, .sl _ 3 vpts, .sl _ 2 vaws, .sl _ 2 vsecs, .sl _ 4 vrws] => (Sky.mk vw vh vlv (vpts.map JA) (vaws.map JI) (vsecs.map QP) (vrws.map JG))
  | _ => default
theorem QnU (t : Nat) (s : Sky) : QsN (Sky.row t s) = s := by
  cases s; simp only [Sky.row, QsN, QA, QB, Qn, QD]
theorem QO (t : Nat) (l : List Sky) : (l.map (Sky.row t)).map QsN = l := by
  rw [List.map_map]; exact List.map_id'' (fun s => QnU t s) l
theorem Qd (s : Sky) : (Sky.mk s.w s.h s.lv s.pts s.aws s.secs s.rws) = s := (rfl)
theorem Gz (l : List Sky) : JW (l.map (Sky.row 0)) := by
  induction l with
  | nil => simp [JW]
  | cons x l ih => simp only [List.map_cons, JW]; exact ⟨by simp [Sky.row, Ko, No99, Gc, G4, Yq, Gd], ih⟩
def YP (w h x y : Int) : Prop := (0 ≤ x ∧ x ≤ w - 1) ∧ (0 ≤ y ∧ y ≤ h - 1)
instance (w h x y : Int) : Decidable (YP w h x y) := by unfold YP; infer_instance
def QsO (w h : Int) (l : List Pt) (i : Nat) : Prop := K9 (l.getD i default).nm ∧ (0 < i → slt (l.getD (i - 1) default).nm (l.getD i default).nm) ∧ YP w h (l.getD i default).x (l.getD i default).y ∧
  ∀ k, k < i → ¬ ((l.getD k default).x = (l.getD i default).x ∧ (l.getD k default).y = (l.getD i default).y)
def QnV (w h : Int) (l : List Pt) : Prop := l.length ≤ 16 ∧ ∀ i, i < l.length → QsO w h l i
noncomputable instance (w h : Int) (l : List Pt) : Decidable (QnV w h l) := Classical.propDecidable _
def KN (l : List Pt) (s : ByteArray) : Int := Qmi (fun p => decide (p.nm = s)) l
def Qv5 (ps : List Pt) (l : List ByteArray) (k : Nat) : Prop := 0 ≤ KN ps (l.getD k default) ∧ ∀ j, j < k → l.getD j default ≠ l.getD k default
def QsP (ps : List Pt) (l : List Aw) (i : Nat) : Prop := K9 (l.getD i default).nm ∧ (0 < i → slt (l.getD (i - 1) default).nm (l.getD i default).nm) ∧ (2 ≤ (l.getD i default).pts.length ∧ (l.getD i default).pts.length ≤ 8) ∧ ∀ k, k < (l.getD i default).pts.length → Qv5 ps (l.getD i default).pts k
def QnW (ps : List Pt) (l : List Aw) : Prop := l.length ≤ 8 ∧ ∀ i, i < l.length → QsP ps l i
noncomputable instance (ps : List Pt) (l : List Aw) : Decidable (QnW ps l) := Classical.propDecidable _
def Blk.ok (w h lv : Int) (b : Blk) : Prop := (0 ≤ b.x0 ∧ b.x0 ≤ b.x1 ∧ b.x1 < w) ∧ (0 ≤ b.y0 ∧ b.y0 ≤ b.y1 ∧ b.y1 < h) ∧ (1 ≤ b.lo ∧ b.lo ≤ b.hi ∧ b.hi ≤ lv)
instance (w h lv : Int) (b : Blk) : Decidable (b.ok w h lv) := by unfold Blk.ok; infer_instance
def Blk.meet (a b : Blk) : Prop := (a.x0 ≤ b.x1 ∧ b.x0 ≤ a.x1) ∧ (a.y0 ≤ b.y1 ∧ b.y0 ≤ a.y1) ∧ (a.lo ≤ b.hi ∧ b.lo ≤ a.hi)
instance (a b : Blk) : Decidable (a.meet b) := by unfold Blk.meet; infer_instance
def Blk.less (a b : Blk) : Prop := (a.x0 ≠ b.x0 → a.x0 < b.x0) ∧ (a.x0 = b.x0 → (a.y0 ≠ b.y0 → a.y0 < b.y0) ∧ (a.y0 = b.y0 → a.lo < b.lo))
instance (a b : Blk) : Decidable (a.less b) := by unfold Blk.less; infer_instance
def Blk.vol (b : Blk) : Int := (b.x1 - b.x0 + 1) * (b.y1 - b.y0 + 1) * (b.hi - b.lo + 1)
def Qdf (w h lv : Int) (l : List Blk) (k : Nat) : Prop := (l.getD k default).ok w h lv ∧ (0 < k → (l.getD (k - 1) default).less (l.getD k default))
def QiN (w h lv : Int) (l : List Sec) (i : Nat) : Prop := K9 (l.getD i default).nm ∧ (0 < i → slt (l.getD (i - 1) default).nm (l.getD i default).nm) ∧ (1 ≤ (l.getD i default).bl.length ∧ (l.getD i default).bl.length ≤ 4) ∧ ∀ k, k < (l.getD i default).bl.length → Qdf w h lv (l.getD i default).bl k
def Qap (w h lv : Int) (l : List Sec) : Prop := l.length ≤ 6 ∧ ∀ i, i < l.length → QiN w h lv l i
noncomputable instance (w h lv : Int) (l : List Sec) : Decidable (Qap w h lv l) := Classical.propDecidable _
def JP (l : List Sec) : List Blk := l.flatMap (·.bl)
def Qlq (l : List Blk) : Int := (l.map Blk.vol).sum
def Qg6 (l : List Blk) (i : Nat) : Prop := ∀ k, k < i → ¬ (l.getD k default).meet (l.getD i default)
def Qlr (w h lv : Int) (l : List Sec) : Prop := (∀ i, i < (JP l).length → Qg6 (JP l) i) ∧ Qlq (JP l) = w * h * lv
noncomputable instance (w h lv : Int) (l : List Sec) : Decidable (Qlr w h lv l) := Classical.propDecidable _
def dX (t : Int) : Int := if t = 2 ∨ t = 3 ∨ t = 4 then 1 else if t = 6 ∨ t = 7 ∨ t = 8 then -1 else 0
def dY (t : Int) : Int := if t = 1 ∨ t = 2 ∨ t = 8 then 1 else if t = 4 ∨ t = 5 ∨ t = 6 then -1 else 0
def Rw.ok (w h : Int) (r : Rw) : Prop := (1 ≤ r.tn ∧ r.tn ≤ 8) ∧ YP w h r.x r.y ∧ YP w h (r.x - dX r.tn) (r.y - dY r.tn)
instance (w h : Int) (r : Rw) : Decidable (r.ok w h) := by unfold Rw.ok; infer_instance
def QsQ (w h : Int) (l : List Rw) (i : Nat) : Prop := K9 (l.getD i default).nm ∧ (0 < i → slt (l.getD (i - 1) default).nm (l.getD i default).nm) ∧ (l.getD i default).ok w h ∧ ∀ k, k < i → ¬ ((l.getD k default).x = (l.getD i default).x ∧ (l.getD k default).y = (l.getD i default).y)
def QnX (w h : Int) (l : List Rw) : Prop := l.length ≤ 4 ∧ ∀ i, i < l.length → QsQ w h l i
noncomputable instance (w h : Int) (l : List Rw) : Decidable (QnX w h l) := Classical.propDecidable _
def G7 (w h lv : Int) : Prop := (1 ≤ w ∧ w ≤ 16) ∧ (1 ≤ h ∧ h ≤ 16) ∧ (1 ≤ lv ∧ lv ≤ 6)
instance (w h lv : Int) : Decidable (G7 w h lv) := by unfold G7; infer_instance
def Sky.valid (s : Sky) : Prop := G7 s.w s.h s.lv ∧ QnV s.w s.h s.pts ∧ QnW s.pts s.aws ∧ Qap s.w s.h s.lv s.secs ∧ Qlr s.w s.h s.lv s.secs ∧ QnX s.w s.h s.rws
noncomputable instance (s : Sky) : Decidable s.valid := Classical.propDecidable _
/-- Lists that are not too long for a machine. -/
def Aw.small (a : Aw) : Prop := a.pts.length ≤ 1048576
def Sec.small (a : Sec) : Prop := a.bl.length ≤ 1048576
def Sky.small (s : Sky) : Prop := s.pts.length ≤ 1048576 ∧ (s.aws.length ≤ 1048576 ∧ ∀ y ∈ s.aws, y.small) ∧ (s.secs.length ≤ 1048576 ∧ ∀ y ∈ s.secs, y.small) ∧ s.rws.length ≤ 1048576
theorem Sky.small_aw {s : Sky} (h : s.small) {i : Nat} (hi : i < s.aws.length) : (s.aws.getD i default).pts.length ≤ 1048576 := h.2.1.2 _ (by simp [hi])
theorem Sky.small_sec {s : Sky} (h : s.small) {i : Nat} (hi : i < s.secs.length) : (s.secs.getD i default).bl.length ≤ 1048576 := h.2.2.1.2 _ (by simp [hi])
theorem QuD (t : Int) : -1 ≤ dX t ∧ dX t ≤ 1 := by unfold dX; split <;> (try split) <;> omega
theorem QuE (t : Int) : -1 ≤ dY t ∧ dY t ≤ 1 := by unfold dY; split <;> (try split) <;> omega
theorem QqE (s : ByteArray) (hp : True) : Contract P 85 [.str s] [] (.bool (decide (K9 s))) [] := by
  refine Qt ((Env.nil P).add 46 JC XP) hm QeG (Nat.le_of_ble_eq_true rfl) rfl ?_; unfold Ww; simp (config := { maxSteps := 2000000 }) only [bitvec_to_nat, reduceIte, Nat.reduceEqDiff, Nat.reduceAdd, Nat.reduceLeDiff, reduceCtorEq, Nat.reduceBEq, Nat.reduceLT, Nat.reduceMod, List.forall_mem_cons, JC]
  refine ⟨fun h1 => ?_, fun h1 => ?_⟩
  · refine QV (fun i : Nat => [(3, .int .i64 i)]) (fun _ => []) (fun i => i ≤ s.toList.length ∧ ∀ j, j < i → Qej (s.toList.getD j 0)) (fun i => s.toList.length - i) (0) (by simp only [JX, JY, JZ, J0, Qw, Qx, Qy, Qz, reduceIte, Nat.reduceEqDiff]; exact ⟨by repeat' (first | exact trivial | refine ⟨.inr rfl, ?_⟩), by repeat' (first | exact trivial | refine ⟨rfl, ?_⟩), by first | rfl | simp [closedB, Qr, Qg, Qi, dom, Qe, *], by first | rfl | simp [keepB, dom]⟩) ?_ ?_
    · exact ⟨Nat.zero_le _, by intro j hj; omega⟩
    intro i hi NX hN
    unfold U8; simp (config := { maxSteps := 2000000 }) only [bitvec_to_nat, reduceIte, Nat.reduceEqDiff, Nat.reduceAdd, Nat.reduceLeDiff, reduceCtorEq, Nat.reduceBEq, Nat.reduceLT, Nat.reduceMod, List.forall_mem_cons]
    repeat' (first | with_reducible apply And.intro | with_reducible intro _)
    all_goals first
      | exact trivial
      | omega
      | (refine hN (i + 1) _ (by simp only [JX, JY, JZ, J0, Qw, Qx, Qy, Qz, reduceIte, Nat.reduceEqDiff]; exact ⟨by repeat' (first | exact trivial | refine ⟨.inr rfl, ?_⟩), by repeat' (first | exact trivial | refine ⟨rfl, ?_⟩), by first | rfl | simp [closedB, Qr, Qg, Qi, dom, Qe, *], by first | rfl | simp [keepB, dom]⟩) ?_ ?_
         · exact ⟨by omega, JB hi.2 (by grind [K9, Qej])⟩
         · omega)
      | grind [K9, Qej]
  · grind [K9]
def Q8 : List AV → Option (Prop × AV)
  | [.str s] => some ((True) ∧ (True), .bool (decide (K9 s)))
  | _ => none
theorem Y4 : ∀ args p v, Q8 args = some (p, v) → p → Contract P 85 args [] v [] ∧ noref v = true ∧ No99 v := by
  intro args p v h1 h2
  unfold Q8 at h1
  split at h1
  · rename_i s
    cases h1
    obtain ⟨_, HP⟩ := h2
    have := QqE s HP
    exact ⟨this, rfl, trivial⟩
  · cases h1
theorem QnY (t : Nat) (ps : List Pt) (s : ByteArray) (hl : ps.length ≤ 4611686018427387904) : Contract P 53 [.sl t 3 (ps.map Pt.row), .str s] [] (.int .i64 (KN ps s)) [] := by
  refine Qt (Env.nil P) hm Qfu (Nat.le_of_ble_eq_true rfl) rfl ?_; unfold Qam; simp (config := { maxSteps := 2000000 }) only [bitvec_to_nat, reduceIte, Nat.reduceEqDiff, Nat.reduceAdd, Nat.reduceLeDiff, reduceCtorEq, Nat.reduceBEq, Nat.reduceLT, Nat.reduceMod, List.forall_mem_cons, Qk, Qm, Qa, Q3, Qh, List.take_length, List.length_cons, List.length_nil, Nat.zero_add, QH, QX, Q4, Q6, Zone.row, Qf, Qs, Pt.row, Ql, QA, Aw.row, Qo, QB, Blk.row, Qb, Qj, Sec.row, Qc, Qn, Rw.row, Qp, QD, Qd]
  refine QV (fun i : Nat => [(5, .int .i64 i)]) (fun _ => []) (fun i => i ≤ ps.length ∧ ∀ j, j < i → decide ((ps.getD j default).nm = s) = false) (fun i => ps.length - i) (0) (by simp only [JX, JY, JZ, J0, Qw, Qx, Qy, Qz, reduceIte, Nat.reduceEqDiff]; exact ⟨by repeat' (first | exact trivial | refine ⟨.inr rfl, ?_⟩), by repeat' (first | exact trivial | refine ⟨rfl, ?_⟩), by first | rfl | simp [closedB, Qr, Qg, Qi, dom, Qe, *], by first | rfl | simp [keepB, dom]⟩) ?_ ?_
  · exact ⟨Nat.zero_le _, by intro j hj; omega⟩
  intro i hi NX hN
  unfold VK; simp (config := { maxSteps := 2000000 }) only [bitvec_to_nat, reduceIte, Nat.reduceEqDiff, Nat.reduceAdd, Nat.reduceLeDiff, reduceCtorEq, Nat.reduceBEq, Nat.reduceLT, Nat.reduceMod, List.forall_mem_cons, Qk, Qm, Qa, Q3, Qh, List.take_length, List.length_cons, List.length_nil, Nat.zero_add, QH, QX, Q4, Q6, Zone.row, Qf, Qs, Pt.row, Ql, QA, Aw.row, Qo, QB, Blk.row, Qb, Qj, Sec.row, Qc, Qn, Rw.row, Qp, QD, Qd]
  
  repeat' (first | with_reducible apply And.intro | with_reducible intro _)
  all_goals first
    | omega
    | (refine hN (i + 1) _ (by simp only [JX, JY, JZ, J0, Qw, Qx, Qy, Qz, reduceIte, Nat.reduceEqDiff]; exact ⟨by repeat' (first | exact trivial | refine ⟨.inr rfl, ?_⟩), by repeat' (first | exact trivial | refine ⟨rfl, ?_⟩), by first | rfl | simp [closedB, Qr, Qg, Qi, dom, Qe, *], by first | rfl | simp [keepB, dom]⟩) ?_ ?_
       · exact ⟨by omega, JB hi.2 (by simpa using ‹¬ _›)⟩
       · omega)
    | (unfold KN; rw [QjL (i := i) (by omega) (by simpa using ‹_›) hi.2])
    | (unfold KN; rw [Qek fun j hj => hi.2 j (by omega)])
def JO : List AV → Option (Prop × AV)
  | [.sl pst 3 psx, .str s] => some ((((psx.map JA).map Pt.row = psx)) ∧ ((psx.map JA).length ≤ 4611686018427387904), .int .i64 (KN (psx.map JA) s))
  | _ => none
theorem Vd : ∀ args p v, JO args = some (p, v) → p → Contract P 53 args [] v [] ∧ noref v = true ∧ No99 v := by
  intro args p v h1 h2
  unfold JO at h1
  split at h1
  · rename_i pst psx s
    cases h1
    obtain ⟨e0, HP⟩ := h2
    have := QnY pst (psx.map JA) s HP
    exact ⟨by simpa only [e0] using this, rfl, trivial⟩
  · cases h1
set_option maxHeartbeats 400000 in
theorem Qae (s : Sky) (i : Nat) {Q : XT → St → Prop} (hi : i < s.pts.length) (hl : s.pts.length ≤ 1048576) (hd : G7 s.w s.h s.lv) (hQ : ∀ bv : Bool, (bv = true ↔ ¬ (K9 (s.pts.getD i default).nm ∧ (0 < i → slt (s.pts.getD (i - 1) default).nm (s.pts.getD i default).nm) ∧ YP s.w s.h (s.pts.getD i default).x (s.pts.getD i default).y)) → Q .normal ⟨[(1, .ptr 101 0), (3, .int .i64 i), (4, .ptr 104 0), (59, .bool bv)], [(101, .box [.int .i64 s.w, .int .i64 s.h, .int .i64 s.lv, .sl 0 3 (s.pts.map Pt.row), .sl 0 2 (s.aws.map (Aw.row 0)), .sl 0 2 (s.secs.map (Sec.row 0)), .sl 0 4 (s.rws.map Rw.row)]), (104, .box [.str (s.pts.getD i default).nm, .int .i64 (s.pts.getD i default).x, .int .i64 (s.pts.getD i default).y])]⟩) : SCode.wp (((Env.nil P).add 46 JC XP).add 85 Q8 Y4) Ga Q ⟨[(1, .ptr 101 0), (3, .int .i64 i), (4, .ptr 104 0)], [(101, .box [.int .i64 s.w, .int .i64 s.h, .int .i64 s.lv, .sl 0 3 (s.pts.map Pt.row), .sl 0 2 (s.aws.map (Aw.row 0)), .sl 0 2 (s.secs.map (Sec.row 0)), .sl 0 4 (s.rws.map Rw.row)]), (104, .box [.str (s.pts.getD i default).nm, .int .i64 (s.pts.getD i default).x, .int .i64 (s.pts.getD i default).y])]⟩ := by
  all_goals (unfold Ga; simp (config := { maxSteps := 2000000 }) only [bitvec_to_nat, reduceIte, Nat.reduceEqDiff, Nat.reduceAdd, Nat.reduceLeDiff, reduceCtorEq, Nat.reduceBEq, Nat.reduceLT, Nat.reduceMod, List.forall_mem_cons, JC, Q8, Qk, Qm, Qa, Q3, Qh, List.take_length, List.length_cons, List.length_nil, Nat.zero_add, QH, QX, Q4, Q6, Zone.row, Qf, Qs, Pt.row, Ql, QA, Aw.row, Qo, QB, Blk.row, Qb, Qj, Sec.row, Qc, Qn, Rw.row, Qp, QD, Qd])
  repeat' (first | with_reducible apply And.intro | with_reducible intro _)
  all_goals first
    | omega
    | (refine hQ _ ?_
       first
         | grind [YP, G7]
         | (simp; grind [YP, G7]))
    | grind [YP, G7]
set_option maxHeartbeats 400000 in
theorem Qaf (s : Sky) (i : Nat) (k : Nat) {w62 : AV} {Q : XT → St → Prop} (hi : i < s.pts.length) (hk : k < i) (hl : s.pts.length ≤ 1048576) (hQ : ∀ bv : Bool, (bv = true ↔ ((s.pts.getD k default).x = (s.pts.getD i default).x ∧ (s.pts.getD k default).y = (s.pts.getD i default).y)) → Q .normal ⟨[(1, .ptr 101 0), (3, .int .i64 i), (4, .ptr 104 0), (5, .int .i64 k), (84, .bool bv)], [(101, .box [.int .i64 s.w, .int .i64 s.h, .int .i64 s.lv, .sl 0 3 (s.pts.map Pt.row), .sl 0 2 (s.aws.map (Aw.row 0)), .sl 0 2 (s.secs.map (Sec.row 0)), .sl 0 4 (s.rws.map Rw.row)]), (104, .box [.str (s.pts.getD i default).nm, .int .i64 (s.pts.getD i default).x, .int .i64 (s.pts.getD i default).y])]⟩) : SCode.wp (((Env.nil P).add 46 JC XP).add 85 Q8 Y4) Gb Q ⟨[(1, .ptr 101 0), (3, .int .i64 i), (4, .ptr 104 0), (5, .int .i64 k), (62, w62)], [(101, .box [.int .i64 s.w, .int .i64 s.h, .int .i64 s.lv, .sl 0 3 (s.pts.map Pt.row), .sl 0 2 (s.aws.map (Aw.row 0)), .sl 0 2 (s.secs.map (Sec.row 0)), .sl 0 4 (s.rws.map Rw.row)]), (104, .box [.str (s.pts.getD i default).nm, .int .i64 (s.pts.getD i default).x, .int .i64 (s.pts.getD i default).y])]⟩ := by
  all_goals (unfold Gb; simp (config := { maxSteps := 2000000 }) only [bitvec_to_nat, reduceIte, Nat.reduceEqDiff, Nat.reduceAdd, Nat.reduceLeDiff, reduceCtorEq, Nat.reduceBEq, Nat.reduceLT, Nat.reduceMod, List.forall_mem_cons, JC, Q8, Qk, Qm, Qa, Q3, Qh, List.take_length, List.length_cons, List.length_nil, Nat.zero_add, QH, QX, Q4, Q6, Zone.row, Qf, Qs, Pt.row, Ql, QA, Aw.row, Qo, QB, Blk.row, Qb, Qj, Sec.row, Qc, Qn, Rw.row, Qp, QD, Qd])
  repeat' (first | with_reducible apply And.intro | with_reducible intro _)
  all_goals first
    | omega
    | (refine hQ _ ?_
       first
         | grind []
         | (simp; grind []))
    | grind []
theorem QiO (s : Sky) (hd : G7 s.w s.h s.lv) (hs : s.small) : Contract P 47 [.agg (s.row 0)] [] (.bool (decide (QnV s.w s.h s.pts))) [] := by
  have hl : s.pts.length ≤ 1048576 := hs.1
  simp only [Sky.row]
  refine Qt (((Env.nil P).add 46 JC XP).add 85 Q8 Y4) hm Qcx (Nat.le_of_ble_eq_true rfl) rfl ?_; unfold U1; simp (config := { maxSteps := 2000000 }) only [bitvec_to_nat, reduceIte, Nat.reduceEqDiff, Nat.reduceAdd, Nat.reduceLeDiff, reduceCtorEq, Nat.reduceBEq, Nat.reduceLT, Nat.reduceMod, List.forall_mem_cons, JC, Q8, Qk, Qm, Qa, Q3, Qh, List.take_length, List.length_cons, List.length_nil, Nat.zero_add, QH, QX, Q4, Q6, Zone.row, Qf, Qs, Pt.row, Ql, QA, Aw.row, Qo, QB, Blk.row, Qb, Qj, Sec.row, Qc, Qn, Rw.row, Qp, QD, Qd]
  refine ⟨fun h1 => by intro h; have := h.1; omega, fun h1 => ?_⟩
  refine QV (fun i : Nat => [(3, .int .i64 i)]) (fun _ => []) (fun i => i ≤ s.pts.length ∧ ∀ j, j < i → QsO s.w s.h s.pts j) (fun i => s.pts.length - i) (0) (by simp only [JX, JY, JZ, J0, Qw, Qx, Qy, Qz, reduceIte, Nat.reduceEqDiff]; exact ⟨by repeat' (first | exact trivial | refine ⟨.inr rfl, ?_⟩), by repeat' (first | exact trivial | refine ⟨rfl, ?_⟩), by first | rfl | simp [closedB, Qr, Qg, Qi, dom, Qe, *], by first | rfl | simp [keepB, dom]⟩) ?_ ?_
  · exact ⟨Nat.zero_le _, by intro j hj; omega⟩
  intro i hi NX hN
  unfold Zw; simp (config := { maxSteps := 2000000 }) only [bitvec_to_nat, reduceIte, Nat.reduceEqDiff, Nat.reduceAdd, Nat.reduceLeDiff, reduceCtorEq, Nat.reduceBEq, Nat.reduceLT, Nat.reduceMod, List.forall_mem_cons, JC, Q8, Qk, Qm, Qa, Q3, Qh, List.take_length, List.length_cons, List.length_nil, Nat.zero_add, QH, QX, Q4, Q6, Zone.row, Qf, Qs, Pt.row, Ql, QA, Aw.row, Qo, QB, Blk.row, Qb, Qj, Sec.row, Qc, Qn, Rw.row, Qp, QD, Qd]
  refine ⟨fun g1 => ⟨by omega, by omega, ?_⟩, fun g1 => ?_⟩
  · have A : QnV s.w s.h s.pts → QsO s.w s.h s.pts i := fun h => h.2 i (by omega)
    unfold QsO at A
    refine Qae s i (by omega) hl hd fun bv hbv => ?_
    cases bv
    case true =>
      simp (config := { maxSteps := 2000000 }) only [bitvec_to_nat, reduceIte, Nat.reduceEqDiff, Nat.reduceAdd, Nat.reduceLeDiff, reduceCtorEq, Nat.reduceBEq, Nat.reduceLT, Nat.reduceMod, List.forall_mem_cons, JC, Q8, Qk, Qm, Qa, Q3, Qh, List.take_length, List.length_cons, List.length_nil, Nat.zero_add, QH, QX, Q4, Q6, Zone.row, Qf, Qs, Pt.row, Ql, QA, Aw.row, Qo, QB, Blk.row, Qb, Qj, Sec.row, Qc, Qn, Rw.row, Qp, QD, Qd]
      exact fun hq => (hbv.1 rfl) ⟨(A hq).1, (A hq).2.1, (A hq).2.2.1⟩
    have o1 := Classical.not_not.1 fun h => Bool.noConfusion (hbv.2 h)
    simp (config := { maxSteps := 2000000 }) only [bitvec_to_nat, reduceIte, Nat.reduceEqDiff, Nat.reduceAdd, Nat.reduceLeDiff, reduceCtorEq, Nat.reduceBEq, Nat.reduceLT, Nat.reduceMod, List.forall_mem_cons, JC, Q8, Qk, Qm, Qa, Q3, Qh, List.take_length, List.length_cons, List.length_nil, Nat.zero_add, QH, QX, Q4, Q6, Zone.row, Qf, Qs, Pt.row, Ql, QA, Aw.row, Qo, QB, Blk.row, Qb, Qj, Sec.row, Qc, Qn, Rw.row, Qp, QD, Qd]
    refine QV (fun k : Nat => [(5, .int .i64 k)]) (fun _ => []) (fun k => k ≤ i ∧ ∀ j, j < k → ¬ ((s.pts.getD j default).x = (s.pts.getD i default).x ∧ (s.pts.getD j default).y = (s.pts.getD i default).y)) (fun k => i - k) (0) (by simp only [JX, JY, JZ, J0, Qw, Qx, Qy, Qz, reduceIte, Nat.reduceEqDiff]; exact ⟨by repeat' (first | exact trivial | refine ⟨.inr rfl, ?_⟩), by repeat' (first | exact trivial | refine ⟨rfl, ?_⟩), by first | rfl | simp [closedB, Qr, Qg, Qi, dom, Qe, *], by first | rfl | simp [keepB, dom]⟩) ?_ ?_
    · exact ⟨Nat.zero_le _, by intro j hj; omega⟩
    intro k hk NX2 hN2
    unfold Zv; simp (config := { maxSteps := 2000000 }) only [bitvec_to_nat, reduceIte, Nat.reduceEqDiff, Nat.reduceAdd, Nat.reduceLeDiff, reduceCtorEq, Nat.reduceBEq, Nat.reduceLT, Nat.reduceMod, List.forall_mem_cons, JC, Q8, Qk, Qm, Qa, Q3, Qh, List.take_length, List.length_cons, List.length_nil, Nat.zero_add, QH, QX, Q4, Q6, Zone.row, Qf, Qs, Pt.row, Ql, QA, Aw.row, Qo, QB, Blk.row, Qb, Qj, Sec.row, Qc, Qn, Rw.row, Qp, QD, Qd]
    refine ⟨fun g2 => ?_, fun g2 => ?_⟩
    · refine Qaf s i k (by omega) (by omega) hl fun bv hbv => ?_
      cases bv
      case true =>
        simp (config := { maxSteps := 2000000 }) only [bitvec_to_nat, reduceIte, Nat.reduceEqDiff, Nat.reduceAdd, Nat.reduceLeDiff, reduceCtorEq, Nat.reduceBEq, Nat.reduceLT, Nat.reduceMod, List.forall_mem_cons, JC, Q8, Qk, Qm, Qa, Q3, Qh, List.take_length, List.length_cons, List.length_nil, Nat.zero_add, QH, QX, Q4, Q6, Zone.row, Qf, Qs, Pt.row, Ql, QA, Aw.row, Qo, QB, Blk.row, Qb, Qj, Sec.row, Qc, Qn, Rw.row, Qp, QD, Qd]
        exact fun hq => (A hq).2.2.2 k (by omega) (hbv.1 rfl)
      have o2 : ¬ _ := fun h => Bool.noConfusion (hbv.2 h)
      simp (config := { maxSteps := 2000000 }) only [bitvec_to_nat, reduceIte, Nat.reduceEqDiff, Nat.reduceAdd, Nat.reduceLeDiff, reduceCtorEq, Nat.reduceBEq, Nat.reduceLT, Nat.reduceMod, List.forall_mem_cons, JC, Q8, Qk, Qm, Qa, Q3, Qh, List.take_length, List.length_cons, List.length_nil, Nat.zero_add, QH, QX, Q4, Q6, Zone.row, Qf, Qs, Pt.row, Ql, QA, Aw.row, Qo, QB, Blk.row, Qb, Qj, Sec.row, Qc, Qn, Rw.row, Qp, QD, Qd]
      refine ⟨by omega, ?_⟩
      refine hN2 (k + 1) _ (by simp only [JX, JY, JZ, J0, Qw, Qx, Qy, Qz, reduceIte, Nat.reduceEqDiff]; exact ⟨by repeat' (first | exact trivial | refine ⟨.inr rfl, ?_⟩), by repeat' (first | exact trivial | refine ⟨rfl, ?_⟩), by first | rfl | simp [closedB, Qr, Qg, Qi, dom, Qe, *], by first | rfl | simp [keepB, dom]⟩) ?_ ?_
      · exact ⟨by omega, JB hk.2 o2⟩
      · omega
    · refine ⟨by omega, ?_⟩
      refine hN (i + 1) _ (by simp only [JX, JY, JZ, J0, Qw, Qx, Qy, Qz, reduceIte, Nat.reduceEqDiff]; exact ⟨by repeat' (first | exact trivial | refine ⟨.inr rfl, ?_⟩), by repeat' (first | exact trivial | refine ⟨rfl, ?_⟩), by first | rfl | simp [closedB, Qr, Qg, Qi, dom, Qe, *], by first | rfl | simp [keepB, dom]⟩) ?_ ?_
      · exact ⟨by omega, JB hi.2 ⟨o1.1, o1.2.1, o1.2.2, fun k hk2 => hk.2 k (by omega)⟩⟩
      · omega
  · exact ⟨by omega, fun j hj => hi.2 j (by omega)⟩
end
end Go.Ve

namespace Go.Ve
noncomputable section
open Go.Proofs
set_option linter.unusedSimpArgs false
set_option linter.unusedVariables false
set_option maxRecDepth 100000
def Uq : List AV → Option (Prop × AV)
  | [.agg [.int .i64 s_w, .int .i64 s_h, .int .i64 s_lv, .sl 0 3 s_pts, .sl 0 2 s_aws, .sl 0 2 s_secs, .sl 0 4 s_rws]] => some ((((s_pts.map JA).map Pt.row = s_pts) ∧ ((s_aws.map JI).map (Aw.row 0) = s_aws) ∧ ((s_secs.map QP).map (Sec.row 0) = s_secs) ∧ ((s_rws.map JG).map Rw.row = s_rws)) ∧ (G7 (Sky.mk s_w s_h s_lv (s_pts.map JA) (s_aws.map JI) (s_secs.map QP) (s_rws.map JG)).w (Sky.mk s_w s_h s_lv (s_pts.map JA) (s_aws.map JI) (s_secs.map QP) (s_rws.map JG)).h (Sky.mk s_w s_h s_lv (s_pts.map JA) (s_aws.map JI) (s_secs.map QP) (s_rws.map JG)).lv ∧ (Sky.mk s_w s_h s_lv (s_pts.map JA) (s_aws.map JI) (s_secs.map QP) (s_rws.map JG)).small), .bool (decide (QnV (Sky.mk s_w s_h s_lv (s_pts.map JA) (s_aws.map JI) (s_secs.map QP) (s_rws.map JG)).w (Sky.mk s_w s_h s_lv (s_pts.map JA) (s_aws.map JI) (s_secs.map QP) (s_rws.map JG)).h (Sky.mk s_w s_h s_lv (s_pts.map JA) (s_aws.map JI) (s_secs.map QP) (s_rws.map JG)).pts)))
  | _ => none
theorem QiP : ∀ args p v, Uq args = some (p, v) → p → Contract P 47 args [] v [] ∧ noref v = true ∧ No99 v := by
  intro args p v h1 h2
  unfold Uq at h1
  split at h1
  · rename_i s_w s_h s_lv s_pts s_aws s_secs s_rws
    cases h1
    obtain ⟨⟨e0, e1, e2, e3⟩, HP⟩ := h2
    have := QiO (Sky.mk s_w s_h s_lv (s_pts.map JA) (s_aws.map JI) (s_secs.map QP) (s_rws.map JG)) HP.1 HP.2
    exact ⟨by simpa only [e0, e1, e2, e3, Sky.row] using this, rfl, trivial⟩
  · cases h1
set_option maxHeartbeats 400000 in
theorem WE (s : Sky) (i : Nat) {Q : XT → St → Prop} (hi : i < s.aws.length) (hl : s.aws.length ≤ 1048576) (hQ : ∀ bv : Bool, (bv = true ↔ ¬ (K9 (s.aws.getD i default).nm ∧ (0 < i → slt (s.aws.getD (i - 1) default).nm (s.aws.getD i default).nm) ∧ 2 ≤ (s.aws.getD i default).pts.length ∧ (s.aws.getD i default).pts.length ≤ 8)) → Q .normal ⟨[(1, .ptr 101 0), (3, .int .i64 i), (4, .ptr 104 0), (49, .bool bv)], [(101, .box [.int .i64 s.w, .int .i64 s.h, .int .i64 s.lv, .sl 0 3 (s.pts.map Pt.row), .sl 0 2 (s.aws.map (Aw.row 0)), .sl 0 2 (s.secs.map (Sec.row 0)), .sl 0 4 (s.rws.map Rw.row)]), (104, .box [.str (s.aws.getD i default).nm, .sl 0 1 ((s.aws.getD i default).pts.map QH)])]⟩) : SCode.wp ((((Env.nil P).add 46 JC XP).add 85 Q8 Y4).add 53 JO Vd) YG Q ⟨[(1, .ptr 101 0), (3, .int .i64 i), (4, .ptr 104 0)], [(101, .box [.int .i64 s.w, .int .i64 s.h, .int .i64 s.lv, .sl 0 3 (s.pts.map Pt.row), .sl 0 2 (s.aws.map (Aw.row 0)), .sl 0 2 (s.secs.map (Sec.row 0)), .sl 0 4 (s.rws.map Rw.row)]), (104, .box [.str (s.aws.getD i default).nm, .sl 0 1 ((s.aws.getD i default).pts.map QH)])]⟩ := by
  all_goals (unfold YG; simp (config := { maxSteps := 2000000 }) only [bitvec_to_nat, reduceIte, Nat.reduceEqDiff, Nat.reduceAdd, Nat.reduceLeDiff, reduceCtorEq, Nat.reduceBEq, Nat.reduceLT, Nat.reduceMod, List.forall_mem_cons, JC, Q8, JO, Qk, Qm, Qa, Q3, Qh, List.take_length, List.length_cons, List.length_nil, Nat.zero_add, QH, QX, Q4, Q6, Zone.row, Qf, Qs, Pt.row, Ql, QA, Aw.row, Qo, QB, Blk.row, Qb, Qj, Sec.row, Qc, Qn, Rw.row, Qp, QD, Qd])
  repeat' (first | with_reducible apply And.intro | with_reducible intro _)
  all_goals first
    | omega
    | (refine hQ _ ?_
       first
         | grind []
         | (simp; grind []))
    | grind []
theorem Qg7 (s : Sky) (hs : s.small) : Contract P 48 [.agg (s.row 0)] [] (.bool (decide (QnW s.pts s.aws))) [] := by
  have hl : s.aws.length ≤ 1048576 := hs.2.1.1
  have hp : s.pts.length ≤ 1048576 := hs.1
  simp only [Sky.row]
  refine Qt ((((Env.nil P).add 46 JC XP).add 85 Q8 Y4).add 53 JO Vd) hm QbE (Nat.le_of_ble_eq_true rfl) rfl ?_; unfold Z4; simp (config := { maxSteps := 2000000 }) only [bitvec_to_nat, reduceIte, Nat.reduceEqDiff, Nat.reduceAdd, Nat.reduceLeDiff, reduceCtorEq, Nat.reduceBEq, Nat.reduceLT, Nat.reduceMod, List.forall_mem_cons, JC, Q8, JO, Qk, Qm, Qa, Q3, Qh, List.take_length, List.length_cons, List.length_nil, Nat.zero_add, QH, QX, Q4, Q6, Zone.row, Qf, Qs, Pt.row, Ql, QA, Aw.row, Qo, QB, Blk.row, Qb, Qj, Sec.row, Qc, Qn, Rw.row, Qp, QD, Qd]
  refine ⟨fun h1 => by intro h; have := h.1; omega, fun h1 => ?_⟩
  refine QV (fun i : Nat => [(3, .int .i64 i)]) (fun _ => []) (fun i => i ≤ s.aws.length ∧ ∀ j, j < i → QsP s.pts s.aws j) (fun i => s.aws.length - i) (0) (by simp only [JX, JY, JZ, J0, Qw, Qx, Qy, Qz, reduceIte, Nat.reduceEqDiff]; exact ⟨by repeat' (first | exact trivial | refine ⟨.inr rfl, ?_⟩), by repeat' (first | exact trivial | refine ⟨rfl, ?_⟩), by first | rfl | simp [closedB, Qr, Qg, Qi, dom, Qe, *], by first | rfl | simp [keepB, dom]⟩) ?_ ?_
  · exact ⟨Nat.zero_le _, by intro j hj; omega⟩
  intro i hi NX hN
  unfold XF; simp (config := { maxSteps := 2000000 }) only [bitvec_to_nat, reduceIte, Nat.reduceEqDiff, Nat.reduceAdd, Nat.reduceLeDiff, reduceCtorEq, Nat.reduceBEq, Nat.reduceLT, Nat.reduceMod, List.forall_mem_cons, JC, Q8, JO, Qk, Qm, Qa, Q3, Qh, List.take_length, List.length_cons, List.length_nil, Nat.zero_add, QH, QX, Q4, Q6, Zone.row, Qf, Qs, Pt.row, Ql, QA, Aw.row, Qo, QB, Blk.row, Qb, Qj, Sec.row, Qc, Qn, Rw.row, Qp, QD, Qd]
  refine ⟨fun g1 => ⟨by omega, by omega, ?_⟩, fun g1 => ?_⟩
  · have hq4 := Sky.small_aw hs (i := i) (by omega)
    have A : QnW s.pts s.aws → QsP s.pts s.aws i := fun h => h.2 i (by omega)
    unfold QsP at A
    refine WE s i (by omega) hl fun bv hbv => ?_
    cases bv
    case true =>
      simp (config := { maxSteps := 2000000 }) only [bitvec_to_nat, reduceIte, Nat.reduceEqDiff, Nat.reduceAdd, Nat.reduceLeDiff, reduceCtorEq, Nat.reduceBEq, Nat.reduceLT, Nat.reduceMod, List.forall_mem_cons, JC, Q8, JO, Qk, Qm, Qa, Q3, Qh, List.take_length, List.length_cons, List.length_nil, Nat.zero_add, QH, QX, Q4, Q6, Zone.row, Qf, Qs, Pt.row, Ql, QA, Aw.row, Qo, QB, Blk.row, Qb, Qj, Sec.row, Qc, Qn, Rw.row, Qp, QD, Qd]
      exact fun hq => (hbv.1 rfl) ⟨(A hq).1, (A hq).2.1, (A hq).2.2.1⟩
    have o1 := Classical.not_not.1 fun h => Bool.noConfusion (hbv.2 h)
    simp (config := { maxSteps := 2000000 }) only [bitvec_to_nat, reduceIte, Nat.reduceEqDiff, Nat.reduceAdd, Nat.reduceLeDiff, reduceCtorEq, Nat.reduceBEq, Nat.reduceLT, Nat.reduceMod, List.forall_mem_cons, JC, Q8, JO, Qk, Qm, Qa, Q3, Qh, List.take_length, List.length_cons, List.length_nil, Nat.zero_add, QH, QX, Q4, Q6, Zone.row, Qf, Qs, Pt.row, Ql, QA, Aw.row, Qo, QB, Blk.row, Qb, Qj, Sec.row, Qc, Qn, Rw.row, Qp, QD, Qd]
    refine QV (fun k : Nat => [(5, .int .i64 k)]) (fun _ => []) (fun k => k ≤ (s.aws.getD i default).pts.length ∧ ∀ j, j < k → Qv5 s.pts (s.aws.getD i default).pts j) (fun k => (s.aws.getD i default).pts.length - k) (0) (by simp only [JX, JY, JZ, J0, Qw, Qx, Qy, Qz, reduceIte, Nat.reduceEqDiff]; exact ⟨by repeat' (first | exact trivial | refine ⟨.inr rfl, ?_⟩), by repeat' (first | exact trivial | refine ⟨rfl, ?_⟩), by first | rfl | simp [closedB, Qr, Qg, Qi, dom, Qe, *], by first | rfl | simp [keepB, dom]⟩) ?_ ?_
    · exact ⟨Nat.zero_le _, by intro j hj; omega⟩
    intro k hk NX2 hN2
    unfold XE; simp (config := { maxSteps := 2000000 }) only [bitvec_to_nat, reduceIte, Nat.reduceEqDiff, Nat.reduceAdd, Nat.reduceLeDiff, reduceCtorEq, Nat.reduceBEq, Nat.reduceLT, Nat.reduceMod, List.forall_mem_cons, JC, Q8, JO, Qk, Qm, Qa, Q3, Qh, List.take_length, List.length_cons, List.length_nil, Nat.zero_add, QH, QX, Q4, Q6, Zone.row, Qf, Qs, Pt.row, Ql, QA, Aw.row, Qo, QB, Blk.row, Qb, Qj, Sec.row, Qc, Qn, Rw.row, Qp, QD, Qd]
    refine ⟨fun g2 => ⟨by omega, by omega, by omega, fun g3 => ?_, fun g3 => ?_⟩, fun g2 => ?_⟩
    · intro hq; have := ((A hq).2.2.2 k (by omega)).1; omega
    · refine QV (fun j : Nat => [(6, .int .i64 j)]) (fun _ => []) (fun j => j ≤ k ∧ ∀ q, q < j → (s.aws.getD i default).pts.getD q default ≠ (s.aws.getD i default).pts.getD k default) (fun j => k - j) (0) (by simp only [JX, JY, JZ, J0, Qw, Qx, Qy, Qz, reduceIte, Nat.reduceEqDiff]; exact ⟨by repeat' (first | exact trivial | refine ⟨.inr rfl, ?_⟩), by repeat' (first | exact trivial | refine ⟨rfl, ?_⟩), by first | rfl | simp [closedB, Qr, Qg, Qi, dom, Qe, *], by first | rfl | simp [keepB, dom]⟩) ?_ ?_
      · exact ⟨Nat.zero_le _, by intro j hj; omega⟩
      intro j hj NX3 hN3
      unfold XD; simp (config := { maxSteps := 2000000 }) only [bitvec_to_nat, reduceIte, Nat.reduceEqDiff, Nat.reduceAdd, Nat.reduceLeDiff, reduceCtorEq, Nat.reduceBEq, Nat.reduceLT, Nat.reduceMod, List.forall_mem_cons, JC, Q8, JO, Qk, Qm, Qa, Q3, Qh, List.take_length, List.length_cons, List.length_nil, Nat.zero_add, QH, QX, Q4, Q6, Zone.row, Qf, Qs, Pt.row, Ql, QA, Aw.row, Qo, QB, Blk.row, Qb, Qj, Sec.row, Qc, Qn, Rw.row, Qp, QD, Qd]
      refine ⟨fun g4 => ⟨by omega, by omega, by omega, by omega, fun g5 => ?_, fun g5 => ⟨by omega, ?_⟩⟩, fun g4 => ⟨by omega, ?_⟩⟩
      · exact fun hq => ((A hq).2.2.2 k (by omega)).2 j (by omega) g5
      · refine hN3 (j + 1) _ (by simp only [JX, JY, JZ, J0, Qw, Qx, Qy, Qz, reduceIte, Nat.reduceEqDiff]; exact ⟨by repeat' (first | exact trivial | refine ⟨.inr rfl, ?_⟩), by repeat' (first | exact trivial | refine ⟨rfl, ?_⟩), by first | rfl | simp [closedB, Qr, Qg, Qi, dom, Qe, *], by first | rfl | simp [keepB, dom]⟩) ?_ ?_
        · exact ⟨by omega, JB hj.2 g5⟩
        · omega
      · refine hN2 (k + 1) _ (by simp only [JX, JY, JZ, J0, Qw, Qx, Qy, Qz, reduceIte, Nat.reduceEqDiff]; exact ⟨by repeat' (first | exact trivial | refine ⟨.inr rfl, ?_⟩), by repeat' (first | exact trivial | refine ⟨rfl, ?_⟩), by first | rfl | simp [closedB, Qr, Qg, Qi, dom, Qe, *], by first | rfl | simp [keepB, dom]⟩) ?_ ?_
        · exact ⟨by omega, JB hk.2 ⟨by omega, fun q hq => hj.2 q (by omega)⟩⟩
        · omega
    · refine ⟨by omega, ?_⟩
      refine hN (i + 1) _ (by simp only [JX, JY, JZ, J0, Qw, Qx, Qy, Qz, reduceIte, Nat.reduceEqDiff]; exact ⟨by repeat' (first | exact trivial | refine ⟨.inr rfl, ?_⟩), by repeat' (first | exact trivial | refine ⟨rfl, ?_⟩), by first | rfl | simp [closedB, Qr, Qg, Qi, dom, Qe, *], by first | rfl | simp [keepB, dom]⟩) ?_ ?_
      · exact ⟨by omega, JB hi.2 ⟨o1.1, o1.2.1, o1.2.2, fun k hk2 => hk.2 k (by omega)⟩⟩
      · omega
  · exact ⟨by omega, fun j hj => hi.2 j (by omega)⟩
def XZ : List AV → Option (Prop × AV)
  | [.agg [.int .i64 s_w, .int .i64 s_h, .int .i64 s_lv, .sl 0 3 s_pts, .sl 0 2 s_aws, .sl 0 2 s_secs, .sl 0 4 s_rws]] => some ((((s_pts.map JA).map Pt.row = s_pts) ∧ ((s_aws.map JI).map (Aw.row 0) = s_aws) ∧ ((s_secs.map QP).map (Sec.row 0) = s_secs) ∧ ((s_rws.map JG).map Rw.row = s_rws)) ∧ ((Sky.mk s_w s_h s_lv (s_pts.map JA) (s_aws.map JI) (s_secs.map QP) (s_rws.map JG)).small), .bool (decide (QnW (Sky.mk s_w s_h s_lv (s_pts.map JA) (s_aws.map JI) (s_secs.map QP) (s_rws.map JG)).pts (Sky.mk s_w s_h s_lv (s_pts.map JA) (s_aws.map JI) (s_secs.map QP) (s_rws.map JG)).aws)))
  | _ => none
theorem Qg8 : ∀ args p v, XZ args = some (p, v) → p → Contract P 48 args [] v [] ∧ noref v = true ∧ No99 v := by
  intro args p v h1 h2
  unfold XZ at h1
  split at h1
  · rename_i s_w s_h s_lv s_pts s_aws s_secs s_rws
    cases h1
    obtain ⟨⟨e0, e1, e2, e3⟩, HP⟩ := h2
    have := Qg7 (Sky.mk s_w s_h s_lv (s_pts.map JA) (s_aws.map JI) (s_secs.map QP) (s_rws.map JG)) HP
    exact ⟨by simpa only [e0, e1, e2, e3, Sky.row] using this, rfl, trivial⟩
  · cases h1
theorem Qj0 (s : Sky) (b : Blk) : Contract P 86 [.agg (s.row 0), .agg b.row] [] (.bool (decide (b.ok s.w s.h s.lv))) [] := by
  simp only [Sky.row, Blk.row]
  refine Qt ((Env.nil P).add 46 JC XP) hm Qdb (Nat.le_of_ble_eq_true rfl) rfl ?_; unfold VP; simp (config := { maxSteps := 2000000 }) only [bitvec_to_nat, reduceIte, Nat.reduceEqDiff, Nat.reduceAdd, Nat.reduceLeDiff, reduceCtorEq, Nat.reduceBEq, Nat.reduceLT, Nat.reduceMod, List.forall_mem_cons, JC, Qk, Qm, Qa, Q3, Qh, List.take_length, List.length_cons, List.length_nil, Nat.zero_add, QH, QX, Q4, Q6, Zone.row, Qf, Qs, Pt.row, Ql, QA, Aw.row, Qo, QB, Blk.row, Qb, Qj, Sec.row, Qc, Qn, Rw.row, Qp, QD, Qd]
  repeat' (first | with_reducible apply And.intro | with_reducible intro _)
  all_goals first | omega | grind [Blk.ok]
def J4 : List AV → Option (Prop × AV)
  | [.agg [.int .i64 s_w, .int .i64 s_h, .int .i64 s_lv, .sl 0 3 s_pts, .sl 0 2 s_aws, .sl 0 2 s_secs, .sl 0 4 s_rws], .agg [.int .i64 b_x0, .int .i64 b_y0, .int .i64 b_x1, .int .i64 b_y1, .int .i64 b_lo, .int .i64 b_hi]] => some ((((s_pts.map JA).map Pt.row = s_pts) ∧ ((s_aws.map JI).map (Aw.row 0) = s_aws) ∧ ((s_secs.map QP).map (Sec.row 0) = s_secs) ∧ ((s_rws.map JG).map Rw.row = s_rws)) ∧ (True), .bool (decide ((Blk.mk b_x0 b_y0 b_x1 b_y1 b_lo b_hi).ok (Sky.mk s_w s_h s_lv (s_pts.map JA) (s_aws.map JI) (s_secs.map QP) (s_rws.map JG)).w (Sky.mk s_w s_h s_lv (s_pts.map JA) (s_aws.map JI) (s_secs.map QP) (s_rws.map JG)).h (Sky.mk s_w s_h s_lv (s_pts.map JA) (s_aws.map JI) (s_secs.map QP) (s_rws.map JG)).lv)))
  | _ => none
theorem QaQ : ∀ args p v, J4 args = some (p, v) → p → Contract P 86 args [] v [] ∧ noref v = true ∧ No99 v := by
  intro args p v h1 h2
  unfold J4 at h1
  split at h1
  · rename_i s_w s_h s_lv s_pts s_aws s_secs s_rws b_x0 b_y0 b_x1 b_y1 b_lo b_hi
    cases h1
    obtain ⟨⟨e0, e1, e2, e3⟩, HP⟩ := h2
    have := Qj0 (Sky.mk s_w s_h s_lv (s_pts.map JA) (s_aws.map JI) (s_secs.map QP) (s_rws.map JG)) (Blk.mk b_x0 b_y0 b_x1 b_y1 b_lo b_hi)
    exact ⟨by simpa only [e0, e1, e2, e3, Sky.row, Blk.row] using this, rfl, trivial⟩
  · cases h1
theorem QqF (a b : Blk) : Contract P 87 [.agg a.row, .agg b.row] [] (.bool (decide (a.less b))) [] := by
  simp only [Blk.row]
  refine Qt (Env.nil P) hm Qg4 (Nat.le_of_ble_eq_true rfl) rfl ?_; unfold QbS; simp (config := { maxSteps := 2000000 }) only [bitvec_to_nat, reduceIte, Nat.reduceEqDiff, Nat.reduceAdd, Nat.reduceLeDiff, reduceCtorEq, Nat.reduceBEq, Nat.reduceLT, Nat.reduceMod, List.forall_mem_cons, Qk, Qm, Qa, Q3, Qh, List.take_length, List.length_cons, List.length_nil, Nat.zero_add, QH, QX, Q4, Q6, Zone.row, Qf, Qs, Pt.row, Ql, QA, Aw.row, Qo, QB, Blk.row, Qb, Qj, Sec.row, Qc, Qn, Rw.row, Qp, QD, Qd]
  repeat' (first | with_reducible apply And.intro | with_reducible intro _)
  all_goals first | omega | grind [Blk.less]
def Yb : List AV → Option (Prop × AV)
  | [.agg [.int .i64 a_x0, .int .i64 a_y0, .int .i64 a_x1, .int .i64 a_y1, .int .i64 a_lo, .int .i64 a_hi], .agg [.int .i64 b_x0, .int .i64 b_y0, .int .i64 b_x1, .int .i64 b_y1, .int .i64 b_lo, .int .i64 b_hi]] => some ((True) ∧ (True), .bool (decide ((Blk.mk a_x0 a_y0 a_x1 a_y1 a_lo a_hi).less (Blk.mk b_x0 b_y0 b_x1 b_y1 b_lo b_hi))))
  | _ => none
theorem Qg9 : ∀ args p v, Yb args = some (p, v) → p → Contract P 87 args [] v [] ∧ noref v = true ∧ No99 v := by
  intro args p v h1 h2
  unfold Yb at h1
  split at h1
  · rename_i a_x0 a_y0 a_x1 a_y1 a_lo a_hi b_x0 b_y0 b_x1 b_y1 b_lo b_hi
    cases h1
    obtain ⟨_, HP⟩ := h2
    have := QqF (Blk.mk a_x0 a_y0 a_x1 a_y1 a_lo a_hi) (Blk.mk b_x0 b_y0 b_x1 b_y1 b_lo b_hi)
    exact ⟨by simpa only [Blk.row, Blk.row] using this, rfl, trivial⟩
  · cases h1
theorem Qmt (a b : Blk) : Contract P 89 [.agg a.row, .agg b.row] [] (.bool (decide (a.meet b))) [] := by
  simp only [Blk.row]
  refine Qt (Env.nil P) hm QeI (Nat.le_of_ble_eq_true rfl) rfl ?_; unfold Wy; simp (config := { maxSteps := 2000000 }) only [bitvec_to_nat, reduceIte, Nat.reduceEqDiff, Nat.reduceAdd, Nat.reduceLeDiff, reduceCtorEq, Nat.reduceBEq, Nat.reduceLT, Nat.reduceMod, List.forall_mem_cons, Qk, Qm, Qa, Q3, Qh, List.take_length, List.length_cons, List.length_nil, Nat.zero_add, QH, QX, Q4, Q6, Zone.row, Qf, Qs, Pt.row, Ql, QA, Aw.row, Qo, QB, Blk.row, Qb, Qj, Sec.row, Qc, Qn, Rw.row, Qp, QD, Qd]
  repeat' (first | with_reducible apply And.intro | with_reducible intro _)
  all_goals first | omega | grind [Blk.meet]
def X9 : List AV → Option (Prop × AV)
  | [.agg [.int .i64 a_x0, .int .i64 a_y0, .int .i64 a_x1, .int .i64 a_y1, .int .i64 a_lo, .int .i64 a_hi], .agg [.int .i64 b_x0, .int .i64 b_y0, .int .i64 b_x1, .int .i64 b_y1, .int .i64 b_lo, .int .i64 b_hi]] => some ((True) ∧ (True), .bool (decide ((Blk.mk a_x0 a_y0 a_x1 a_y1 a_lo a_hi).meet (Blk.mk b_x0 b_y0 b_x1 b_y1 b_lo b_hi))))
  | _ => none
theorem Qmu : ∀ args p v, X9 args = some (p, v) → p → Contract P 89 args [] v [] ∧ noref v = true ∧ No99 v := by
  intro args p v h1 h2
  unfold X9 at h1
  split at h1
  · rename_i a_x0 a_y0 a_x1 a_y1 a_lo a_hi b_x0 b_y0 b_x1 b_y1 b_lo b_hi
    cases h1
    obtain ⟨_, HP⟩ := h2
    have := Qmt (Blk.mk a_x0 a_y0 a_x1 a_y1 a_lo a_hi) (Blk.mk b_x0 b_y0 b_x1 b_y1 b_lo b_hi)
    exact ⟨by simpa only [Blk.row, Blk.row] using this, rfl, trivial⟩
  · cases h1
set_option maxHeartbeats 400000 in
theorem WF (s : Sky) (i : Nat) {Q : XT → St → Prop} (hi : i < s.secs.length) (hl : s.secs.length ≤ 1048576) (hQ : ∀ bv : Bool, (bv = true ↔ ¬ (K9 (s.secs.getD i default).nm ∧ (0 < i → slt (s.secs.getD (i - 1) default).nm (s.secs.getD i default).nm) ∧ 1 ≤ (s.secs.getD i default).bl.length ∧ (s.secs.getD i default).bl.length ≤ 4)) → Q .normal ⟨[(1, .ptr 101 0), (3, .int .i64 i), (4, .ptr 104 0), (48, .bool bv)], [(101, .box [.int .i64 s.w, .int .i64 s.h, .int .i64 s.lv, .sl 0 3 (s.pts.map Pt.row), .sl 0 2 (s.aws.map (Aw.row 0)), .sl 0 2 (s.secs.map (Sec.row 0)), .sl 0 4 (s.rws.map Rw.row)]), (104, .box [.str (s.secs.getD i default).nm, .sl 0 6 ((s.secs.getD i default).bl.map Blk.row)])]⟩) : SCode.wp (((((Env.nil P).add 46 JC XP).add 85 Q8 Y4).add 86 J4 QaQ).add 87 Yb Qg9) YH Q ⟨[(1, .ptr 101 0), (3, .int .i64 i), (4, .ptr 104 0)], [(101, .box [.int .i64 s.w, .int .i64 s.h, .int .i64 s.lv, .sl 0 3 (s.pts.map Pt.row), .sl 0 2 (s.aws.map (Aw.row 0)), .sl 0 2 (s.secs.map (Sec.row 0)), .sl 0 4 (s.rws.map Rw.row)]), (104, .box [.str (s.secs.getD i default).nm, .sl 0 6 ((s.secs.getD i default).bl.map Blk.row)])]⟩ := by
  all_goals (unfold YH; simp (config := { maxSteps := 2000000 }) only [bitvec_to_nat, reduceIte, Nat.reduceEqDiff, Nat.reduceAdd, Nat.reduceLeDiff, reduceCtorEq, Nat.reduceBEq, Nat.reduceLT, Nat.reduceMod, List.forall_mem_cons, JC, Q8, J4, Yb, Qk, Qm, Qa, Q3, Qh, List.take_length, List.length_cons, List.length_nil, Nat.zero_add, QH, QX, Q4, Q6, Zone.row, Qf, Qs, Pt.row, Ql, QA, Aw.row, Qo, QB, Blk.row, Qb, Qj, Sec.row, Qc, Qn, Rw.row, Qp, QD, Qd])
  repeat' (first | with_reducible apply And.intro | with_reducible intro _)
  all_goals first
    | omega
    | (refine hQ _ ?_
       first
         | grind []
         | (simp; grind []))
    | grind []
set_option maxHeartbeats 400000 in
theorem WG (s : Sky) (i k : Nat) {w53 : AV} {Q : XT → St → Prop} (hk : k < (s.secs.getD i default).bl.length) (hl : (s.secs.getD i default).bl.length ≤ 1048576) (hQ : ∀ bv : Bool, (bv = true ↔ ¬ Qdf s.w s.h s.lv (s.secs.getD i default).bl k) → Q .normal ⟨[(1, .ptr 101 0), (3, .int .i64 i), (4, .ptr 104 0), (5, .int .i64 k), (82, .bool bv)], [(101, .box [.int .i64 s.w, .int .i64 s.h, .int .i64 s.lv, .sl 0 3 (s.pts.map Pt.row), .sl 0 2 (s.aws.map (Aw.row 0)), .sl 0 2 (s.secs.map (Sec.row 0)), .sl 0 4 (s.rws.map Rw.row)]), (104, .box [.str (s.secs.getD i default).nm, .sl 0 6 ((s.secs.getD i default).bl.map Blk.row)])]⟩) : SCode.wp (((((Env.nil P).add 46 JC XP).add 85 Q8 Y4).add 86 J4 QaQ).add 87 Yb Qg9) YI Q ⟨[(1, .ptr 101 0), (3, .int .i64 i), (4, .ptr 104 0), (5, .int .i64 k), (53, w53)], [(101, .box [.int .i64 s.w, .int .i64 s.h, .int .i64 s.lv, .sl 0 3 (s.pts.map Pt.row), .sl 0 2 (s.aws.map (Aw.row 0)), .sl 0 2 (s.secs.map (Sec.row 0)), .sl 0 4 (s.rws.map Rw.row)]), (104, .box [.str (s.secs.getD i default).nm, .sl 0 6 ((s.secs.getD i default).bl.map Blk.row)])]⟩ := by
  all_goals (unfold YI; simp (config := { maxSteps := 2000000 }) only [bitvec_to_nat, reduceIte, Nat.reduceEqDiff, Nat.reduceAdd, Nat.reduceLeDiff, reduceCtorEq, Nat.reduceBEq, Nat.reduceLT, Nat.reduceMod, List.forall_mem_cons, JC, Q8, J4, Yb, Qk, Qm, Qa, Q3, Qh, List.take_length, List.length_cons, List.length_nil, Nat.zero_add, QH, QX, Q4, Q6, Zone.row, Qf, Qs, Pt.row, Ql, QA, Aw.row, Qo, QB, Blk.row, Qb, Qj, Sec.row, Qc, Qn, Rw.row, Qp, QD, Qd])
  repeat' (first | with_reducible apply And.intro | with_reducible intro _)
  all_goals first
    | omega
    | (refine hQ _ ?_
       first
         | grind [Qdf]
         | (simp; grind [Qdf]))
    | grind [Qdf]
theorem Qha (s : Sky) (hs : s.small) : Contract P 49 [.agg (s.row 0)] [] (.bool (decide (Qap s.w s.h s.lv s.secs))) [] := by
  have hl : s.secs.length ≤ 1048576 := hs.2.2.1.1
  simp only [Sky.row]
  refine Qt (((((Env.nil P).add 46 JC XP).add 85 Q8 Y4).add 86 J4 QaQ).add 87 Yb Qg9) hm QbF (Nat.le_of_ble_eq_true rfl) rfl ?_; unfold Z5; simp (config := { maxSteps := 2000000 }) only [bitvec_to_nat, reduceIte, Nat.reduceEqDiff, Nat.reduceAdd, Nat.reduceLeDiff, reduceCtorEq, Nat.reduceBEq, Nat.reduceLT, Nat.reduceMod, List.forall_mem_cons, JC, Q8, J4, Yb, Qk, Qm, Qa, Q3, Qh, List.take_length, List.length_cons, List.length_nil, Nat.zero_add, QH, QX, Q4, Q6, Zone.row, Qf, Qs, Pt.row, Ql, QA, Aw.row, Qo, QB, Blk.row, Qb, Qj, Sec.row, Qc, Qn, Rw.row, Qp, QD, Qd]
  refine ⟨fun h1 => by intro h; have := h.1; omega, fun h1 => ?_⟩
  refine QV (fun i : Nat => [(3, .int .i64 i)]) (fun _ => []) (fun i => i ≤ s.secs.length ∧ ∀ j, j < i → QiN s.w s.h s.lv s.secs j) (fun i => s.secs.length - i) (0) (by simp only [JX, JY, JZ, J0, Qw, Qx, Qy, Qz, reduceIte, Nat.reduceEqDiff]; exact ⟨by repeat' (first | exact trivial | refine ⟨.inr rfl, ?_⟩), by repeat' (first | exact trivial | refine ⟨rfl, ?_⟩), by first | rfl | simp [closedB, Qr, Qg, Qi, dom, Qe, *], by first | rfl | simp [keepB, dom]⟩) ?_ ?_
  · exact ⟨Nat.zero_le _, by intro j hj; omega⟩
  intro i hi NX hN
  unfold XH; simp (config := { maxSteps := 2000000 }) only [bitvec_to_nat, reduceIte, Nat.reduceEqDiff, Nat.reduceAdd, Nat.reduceLeDiff, reduceCtorEq, Nat.reduceBEq, Nat.reduceLT, Nat.reduceMod, List.forall_mem_cons, JC, Q8, J4, Yb, Qk, Qm, Qa, Q3, Qh, List.take_length, List.length_cons, List.length_nil, Nat.zero_add, QH, QX, Q4, Q6, Zone.row, Qf, Qs, Pt.row, Ql, QA, Aw.row, Qo, QB, Blk.row, Qb, Qj, Sec.row, Qc, Qn, Rw.row, Qp, QD, Qd]
  refine ⟨fun g1 => ⟨by omega, by omega, ?_⟩, fun g1 => ?_⟩
  · have hq4 := Sky.small_sec hs (i := i) (by omega)
    have A : Qap s.w s.h s.lv s.secs → QiN s.w s.h s.lv s.secs i := fun h => h.2 i (by omega)
    unfold QiN at A
    refine WF s i (by omega) hl fun bv hbv => ?_
    cases bv
    case true =>
      simp (config := { maxSteps := 2000000 }) only [bitvec_to_nat, reduceIte, Nat.reduceEqDiff, Nat.reduceAdd, Nat.reduceLeDiff, reduceCtorEq, Nat.reduceBEq, Nat.reduceLT, Nat.reduceMod, List.forall_mem_cons, JC, Q8, J4, Yb, Qk, Qm, Qa, Q3, Qh, List.take_length, List.length_cons, List.length_nil, Nat.zero_add, QH, QX, Q4, Q6, Zone.row, Qf, Qs, Pt.row, Ql, QA, Aw.row, Qo, QB, Blk.row, Qb, Qj, Sec.row, Qc, Qn, Rw.row, Qp, QD, Qd]
      exact fun hq => (hbv.1 rfl) ⟨(A hq).1, (A hq).2.1, (A hq).2.2.1⟩
    have o1 := Classical.not_not.1 fun h => Bool.noConfusion (hbv.2 h)
    simp (config := { maxSteps := 2000000 }) only [bitvec_to_nat, reduceIte, Nat.reduceEqDiff, Nat.reduceAdd, Nat.reduceLeDiff, reduceCtorEq, Nat.reduceBEq, Nat.reduceLT, Nat.reduceMod, List.forall_mem_cons, JC, Q8, J4, Yb, Qk, Qm, Qa, Q3, Qh, List.take_length, List.length_cons, List.length_nil, Nat.zero_add, QH, QX, Q4, Q6, Zone.row, Qf, Qs, Pt.row, Ql, QA, Aw.row, Qo, QB, Blk.row, Qb, Qj, Sec.row, Qc, Qn, Rw.row, Qp, QD, Qd]
    refine QV (fun k : Nat => [(5, .int .i64 k)]) (fun _ => []) (fun k => k ≤ (s.secs.getD i default).bl.length ∧ ∀ j, j < k → Qdf s.w s.h s.lv (s.secs.getD i default).bl j) (fun k => (s.secs.getD i default).bl.length - k) (0) (by simp only [JX, JY, JZ, J0, Qw, Qx, Qy, Qz, reduceIte, Nat.reduceEqDiff]; exact ⟨by repeat' (first | exact trivial | refine ⟨.inr rfl, ?_⟩), by repeat' (first | exact trivial | refine ⟨rfl, ?_⟩), by first | rfl | simp [closedB, Qr, Qg, Qi, dom, Qe, *], by first | rfl | simp [keepB, dom]⟩) ?_ ?_
    · exact ⟨Nat.zero_le _, by intro j hj; omega⟩
    intro k hk NX2 hN2
    unfold XG; simp (config := { maxSteps := 2000000 }) only [bitvec_to_nat, reduceIte, Nat.reduceEqDiff, Nat.reduceAdd, Nat.reduceLeDiff, reduceCtorEq, Nat.reduceBEq, Nat.reduceLT, Nat.reduceMod, List.forall_mem_cons, JC, Q8, J4, Yb, Qk, Qm, Qa, Q3, Qh, List.take_length, List.length_cons, List.length_nil, Nat.zero_add, QH, QX, Q4, Q6, Zone.row, Qf, Qs, Pt.row, Ql, QA, Aw.row, Qo, QB, Blk.row, Qb, Qj, Sec.row, Qc, Qn, Rw.row, Qp, QD, Qd]
    refine ⟨fun g2 => ?_, fun g2 => ?_⟩
    · refine WG s i k (by omega) hq4 fun bv hbv => ?_
      cases bv
      case true =>
        simp (config := { maxSteps := 2000000 }) only [bitvec_to_nat, reduceIte, Nat.reduceEqDiff, Nat.reduceAdd, Nat.reduceLeDiff, reduceCtorEq, Nat.reduceBEq, Nat.reduceLT, Nat.reduceMod, List.forall_mem_cons, JC, Q8, J4, Yb, Qk, Qm, Qa, Q3, Qh, List.take_length, List.length_cons, List.length_nil, Nat.zero_add, QH, QX, Q4, Q6, Zone.row, Qf, Qs, Pt.row, Ql, QA, Aw.row, Qo, QB, Blk.row, Qb, Qj, Sec.row, Qc, Qn, Rw.row, Qp, QD, Qd]
        exact fun hq => (hbv.1 rfl) ((A hq).2.2.2 k (by omega))
      have o2 := Classical.not_not.1 fun h => Bool.noConfusion (hbv.2 h)
      simp (config := { maxSteps := 2000000 }) only [bitvec_to_nat, reduceIte, Nat.reduceEqDiff, Nat.reduceAdd, Nat.reduceLeDiff, reduceCtorEq, Nat.reduceBEq, Nat.reduceLT, Nat.reduceMod, List.forall_mem_cons, JC, Q8, J4, Yb, Qk, Qm, Qa, Q3, Qh, List.take_length, List.length_cons, List.length_nil, Nat.zero_add, QH, QX, Q4, Q6, Zone.row, Qf, Qs, Pt.row, Ql, QA, Aw.row, Qo, QB, Blk.row, Qb, Qj, Sec.row, Qc, Qn, Rw.row, Qp, QD, Qd]
      refine ⟨by omega, ?_⟩
      refine hN2 (k + 1) _ (by simp only [JX, JY, JZ, J0, Qw, Qx, Qy, Qz, reduceIte, Nat.reduceEqDiff]; exact ⟨by repeat' (first | exact trivial | refine ⟨.inr rfl, ?_⟩), by repeat' (first | exact trivial | refine ⟨rfl, ?_⟩), by first | rfl | simp [closedB, Qr, Qg, Qi, dom, Qe, *], by first | rfl | simp [keepB, dom]⟩) ?_ ?_
      · exact ⟨by omega, JB hk.2 o2⟩
      · omega
    · refine ⟨by omega, ?_⟩
      refine hN (i + 1) _ (by simp only [JX, JY, JZ, J0, Qw, Qx, Qy, Qz, reduceIte, Nat.reduceEqDiff]; exact ⟨by repeat' (first | exact trivial | refine ⟨.inr rfl, ?_⟩), by repeat' (first | exact trivial | refine ⟨rfl, ?_⟩), by first | rfl | simp [closedB, Qr, Qg, Qi, dom, Qe, *], by first | rfl | simp [keepB, dom]⟩) ?_ ?_
      · exact ⟨by omega, JB hi.2 ⟨o1.1, o1.2.1, o1.2.2, fun k hk2 => hk.2 k (by omega)⟩⟩
      · omega
  · exact ⟨by omega, fun j hj => hi.2 j (by omega)⟩
def X0 : List AV → Option (Prop × AV)
  | [.agg [.int .i64 s_w, .int .i64 s_h, .int .i64 s_lv, .sl 0 3 s_pts, .sl 0 2 s_aws, .sl 0 2 s_secs, .sl 0 4 s_rws]] => some ((((s_pts.map JA).map Pt.row = s_pts) ∧ ((s_aws.map JI).map (Aw.row 0) = s_aws) ∧ ((s_secs.map QP).map (Sec.row 0) = s_secs) ∧ ((s_rws.map JG).map Rw.row = s_rws)) ∧ ((Sky.mk s_w s_h s_lv (s_pts.map JA) (s_aws.map JI) (s_secs.map QP) (s_rws.map JG)).small), .bool (decide (Qap (Sky.mk s_w s_h s_lv (s_pts.map JA) (s_aws.map JI) (s_secs.map QP) (s_rws.map JG)).w (Sky.mk s_w s_h s_lv (s_pts.map JA) (s_aws.map JI) (s_secs.map QP) (s_rws.map JG)).h (Sky.mk s_w s_h s_lv (s_pts.map JA) (s_aws.map JI) (s_secs.map QP) (s_rws.map JG)).lv (Sky.mk s_w s_h s_lv (s_pts.map JA) (s_aws.map JI) (s_secs.map QP) (s_rws.map JG)).secs)))
  | _ => none
theorem Qhb : ∀ args p v, X0 args = some (p, v) → p → Contract P 49 args [] v [] ∧ noref v = true ∧ No99 v := by
  intro args p v h1 h2
  unfold X0 at h1
  split at h1
  · rename_i s_w s_h s_lv s_pts s_aws s_secs s_rws
    cases h1
    obtain ⟨⟨e0, e1, e2, e3⟩, HP⟩ := h2
    have := Qha (Sky.mk s_w s_h s_lv (s_pts.map JA) (s_aws.map JI) (s_secs.map QP) (s_rws.map JG)) HP
    exact ⟨by simpa only [e0, e1, e2, e3, Sky.row] using this, rfl, trivial⟩
  · cases h1
theorem Qwl (t : Int) : Contract P 90 [.int .i64 t] [] (.int .i64 (dX t)) [] := by
  refine Qt (Env.nil P) hm QjU (Nat.le_of_ble_eq_true rfl) rfl ?_; unfold QeJ; simp (config := { maxSteps := 2000000 }) only [bitvec_to_nat, reduceIte, Nat.reduceEqDiff, Nat.reduceAdd, Nat.reduceLeDiff, reduceCtorEq, Nat.reduceBEq, Nat.reduceLT, Nat.reduceMod, List.forall_mem_cons, Qk, Qm, Qa, Q3, Qh, List.take_length, List.length_cons, List.length_nil, Nat.zero_add, QH, QX, Q4, Q6, Zone.row, Qf, Qs, Pt.row, Ql, QA, Aw.row, Qo, QB, Blk.row, Qb, Qj, Sec.row, Qc, Qn, Rw.row, Qp, QD, Qd]
  repeat' (first | with_reducible apply And.intro | with_reducible intro _)
  all_goals first | omega | (unfold dX; grind)
def QhR : List AV → Option (Prop × AV)
  | [.int .i64 t] => some ((True) ∧ (True), .int .i64 (dX t))
  | _ => none
theorem QvW : ∀ args p v, QhR args = some (p, v) → p → Contract P 90 args [] v [] ∧ noref v = true ∧ No99 v := by
  intro args p v h1 h2
  unfold QhR at h1
  split at h1
  · rename_i t
    cases h1
    obtain ⟨_, HP⟩ := h2
    have := Qwl t
    exact ⟨this, rfl, trivial⟩
  · cases h1
theorem Qwm (t : Int) : Contract P 91 [.int .i64 t] [] (.int .i64 (dY t)) [] := by
  refine Qt (Env.nil P) hm QjV (Nat.le_of_ble_eq_true rfl) rfl ?_; unfold QeK; simp (config := { maxSteps := 2000000 }) only [bitvec_to_nat, reduceIte, Nat.reduceEqDiff, Nat.reduceAdd, Nat.reduceLeDiff, reduceCtorEq, Nat.reduceBEq, Nat.reduceLT, Nat.reduceMod, List.forall_mem_cons, Qk, Qm, Qa, Q3, Qh, List.take_length, List.length_cons, List.length_nil, Nat.zero_add, QH, QX, Q4, Q6, Zone.row, Qf, Qs, Pt.row, Ql, QA, Aw.row, Qo, QB, Blk.row, Qb, Qj, Sec.row, Qc, Qn, Rw.row, Qp, QD, Qd]
  repeat' (first | with_reducible apply And.intro | with_reducible intro _)
  all_goals first | omega | (unfold dY; grind)
def QhS : List AV → Option (Prop × AV)
  | [.int .i64 t] => some ((True) ∧ (True), .int .i64 (dY t))
  | _ => none
theorem QvX : ∀ args p v, QhS args = some (p, v) → p → Contract P 91 args [] v [] ∧ noref v = true ∧ No99 v := by
  intro args p v h1 h2
  unfold QhS at h1
  split at h1
  · rename_i t
    cases h1
    obtain ⟨_, HP⟩ := h2
    have := Qwm t
    exact ⟨this, rfl, trivial⟩
  · cases h1
set_option maxHeartbeats 400000 in
theorem WH (s : Sky) (i : Nat) {Q : XT → St → Prop} (hi : i < s.rws.length) (hl : s.rws.length ≤ 1048576) (hd : G7 s.w s.h s.lv) (hQ : ∀ bv : Bool, (bv = true ↔ ¬ (K9 (s.rws.getD i default).nm ∧ (0 < i → slt (s.rws.getD (i - 1) default).nm (s.rws.getD i default).nm) ∧ YP s.w s.h (s.rws.getD i default).x (s.rws.getD i default).y ∧ 1 ≤ (s.rws.getD i default).tn ∧ (s.rws.getD i default).tn ≤ 8)) → Q .normal ⟨[(1, .ptr 101 0), (3, .int .i64 i), (4, .ptr 104 0), (65, .bool bv)], [(101, .box [.int .i64 s.w, .int .i64 s.h, .int .i64 s.lv, .sl 0 3 (s.pts.map Pt.row), .sl 0 2 (s.aws.map (Aw.row 0)), .sl 0 2 (s.secs.map (Sec.row 0)), .sl 0 4 (s.rws.map Rw.row)]), (104, .box [.str (s.rws.getD i default).nm, .int .i64 (s.rws.getD i default).x, .int .i64 (s.rws.getD i default).y, .int .i64 (s.rws.getD i default).tn])]⟩) : SCode.wp (((((Env.nil P).add 46 JC XP).add 85 Q8 Y4).add 90 QhR QvW).add 91 QhS QvX) YJ Q ⟨[(1, .ptr 101 0), (3, .int .i64 i), (4, .ptr 104 0)], [(101, .box [.int .i64 s.w, .int .i64 s.h, .int .i64 s.lv, .sl 0 3 (s.pts.map Pt.row), .sl 0 2 (s.aws.map (Aw.row 0)), .sl 0 2 (s.secs.map (Sec.row 0)), .sl 0 4 (s.rws.map Rw.row)]), (104, .box [.str (s.rws.getD i default).nm, .int .i64 (s.rws.getD i default).x, .int .i64 (s.rws.getD i default).y, .int .i64 (s.rws.getD i default).tn])]⟩ := by
  all_goals (unfold YJ; simp (config := { maxSteps := 2000000 }) only [bitvec_to_nat, reduceIte, Nat.reduceEqDiff, Nat.reduceAdd, Nat.reduceLeDiff, reduceCtorEq, Nat.reduceBEq, Nat.reduceLT, Nat.reduceMod, List.forall_mem_cons, JC, Q8, QhR, QhS, Qk, Qm, Qa, Q3, Qh, List.take_length, List.length_cons, List.length_nil, Nat.zero_add, QH, QX, Q4, Q6, Zone.row, Qf, Qs, Pt.row, Ql, QA, Aw.row, Qo, QB, Blk.row, Qb, Qj, Sec.row, Qc, Qn, Rw.row, Qp, QD, Qd])
  repeat' (first | with_reducible apply And.intro | with_reducible intro _)
  all_goals first
    | omega
    | (refine hQ _ ?_
       first
         | grind [YP, G7]
         | (simp; grind [YP, G7]))
    | grind [YP, G7]
set_option maxHeartbeats 400000 in
theorem WJ (s : Sky) (i : Nat) {w65 : AV} {Q : XT → St → Prop} (hd : G7 s.w s.h s.lv) (hc : YP s.w s.h (s.rws.getD i default).x (s.rws.getD i default).y) (d1 : -1 ≤ dX (s.rws.getD i default).tn ∧ dX (s.rws.getD i default).tn ≤ 1) (d2 : -1 ≤ dY (s.rws.getD i default).tn ∧ dY (s.rws.getD i default).tn ≤ 1) (hQ : ∀ bv : Bool, (bv = true ↔ ¬ YP s.w s.h ((s.rws.getD i default).x - dX (s.rws.getD i default).tn) ((s.rws.getD i default).y - dY (s.rws.getD i default).tn)) → Q .normal ⟨[(1, .ptr 101 0), (3, .int .i64 i), (4, .ptr 104 0), (89, .bool bv)], [(101, .box [.int .i64 s.w, .int .i64 s.h, .int .i64 s.lv, .sl 0 3 (s.pts.map Pt.row), .sl 0 2 (s.aws.map (Aw.row 0)), .sl 0 2 (s.secs.map (Sec.row 0)), .sl 0 4 (s.rws.map Rw.row)]), (104, .box [.str (s.rws.getD i default).nm, .int .i64 (s.rws.getD i default).x, .int .i64 (s.rws.getD i default).y, .int .i64 (s.rws.getD i default).tn])]⟩) : SCode.wp (((((Env.nil P).add 46 JC XP).add 85 Q8 Y4).add 90 QhR QvW).add 91 QhS QvX) YK Q ⟨[(1, .ptr 101 0), (3, .int .i64 i), (4, .ptr 104 0), (65, w65)], [(101, .box [.int .i64 s.w, .int .i64 s.h, .int .i64 s.lv, .sl 0 3 (s.pts.map Pt.row), .sl 0 2 (s.aws.map (Aw.row 0)), .sl 0 2 (s.secs.map (Sec.row 0)), .sl 0 4 (s.rws.map Rw.row)]), (104, .box [.str (s.rws.getD i default).nm, .int .i64 (s.rws.getD i default).x, .int .i64 (s.rws.getD i default).y, .int .i64 (s.rws.getD i default).tn])]⟩ := by
  all_goals (unfold YK; simp (config := { maxSteps := 2000000 }) only [bitvec_to_nat, reduceIte, Nat.reduceEqDiff, Nat.reduceAdd, Nat.reduceLeDiff, reduceCtorEq, Nat.reduceBEq, Nat.reduceLT, Nat.reduceMod, List.forall_mem_cons, JC, Q8, QhR, QhS, Qk, Qm, Qa, Q3, Qh, List.take_length, List.length_cons, List.length_nil, Nat.zero_add, QH, QX, Q4, Q6, Zone.row, Qf, Qs, Pt.row, Ql, QA, Aw.row, Qo, QB, Blk.row, Qb, Qj, Sec.row, Qc, Qn, Rw.row, Qp, QD, Qd])
  repeat' (first | with_reducible apply And.intro | with_reducible intro _)
  all_goals first
    | omega
    | (refine hQ _ ?_
       first
         | grind [YP, G7]
         | (simp; grind [YP, G7]))
    | grind [YP, G7]
set_option maxHeartbeats 400000 in
theorem WK (s : Sky) (i k : Nat) {w92 : AV} {Q : XT → St → Prop} (hi : i < s.rws.length) (hk : k < i) (hl : s.rws.length ≤ 1048576) (hQ : ∀ bv : Bool, (bv = true ↔ ((s.rws.getD k default).x = (s.rws.getD i default).x ∧ (s.rws.getD k default).y = (s.rws.getD i default).y)) → Q .normal ⟨[(1, .ptr 101 0), (3, .int .i64 i), (4, .ptr 104 0), (5, .int .i64 k), (114, .bool bv)], [(101, .box [.int .i64 s.w, .int .i64 s.h, .int .i64 s.lv, .sl 0 3 (s.pts.map Pt.row), .sl 0 2 (s.aws.map (Aw.row 0)), .sl 0 2 (s.secs.map (Sec.row 0)), .sl 0 4 (s.rws.map Rw.row)]), (104, .box [.str (s.rws.getD i default).nm, .int .i64 (s.rws.getD i default).x, .int .i64 (s.rws.getD i default).y, .int .i64 (s.rws.getD i default).tn])]⟩) : SCode.wp (((((Env.nil P).add 46 JC XP).add 85 Q8 Y4).add 90 QhR QvW).add 91 QhS QvX) YL Q ⟨[(1, .ptr 101 0), (3, .int .i64 i), (4, .ptr 104 0), (5, .int .i64 k), (92, w92)], [(101, .box [.int .i64 s.w, .int .i64 s.h, .int .i64 s.lv, .sl 0 3 (s.pts.map Pt.row), .sl 0 2 (s.aws.map (Aw.row 0)), .sl 0 2 (s.secs.map (Sec.row 0)), .sl 0 4 (s.rws.map Rw.row)]), (104, .box [.str (s.rws.getD i default).nm, .int .i64 (s.rws.getD i default).x, .int .i64 (s.rws.getD i default).y, .int .i64 (s.rws.getD i default).tn])]⟩ := by
  all_goals (unfold YL; simp (config := { maxSteps := 2000000 }) only [bitvec_to_nat, reduceIte, Nat.reduceEqDiff, Nat.reduceAdd, Nat.reduceLeDiff, reduceCtorEq, Nat.reduceBEq, Nat.reduceLT, Nat.reduceMod, List.forall_mem_cons, JC, Q8, QhR, QhS, Qk, Qm, Qa, Q3, Qh, List.take_length, List.length_cons, List.length_nil, Nat.zero_add, QH, QX, Q4, Q6, Zone.row, Qf, Qs, Pt.row, Ql, QA, Aw.row, Qo, QB, Blk.row, Qb, Qj, Sec.row, Qc, Qn, Rw.row, Qp, QD, Qd])
  repeat' (first | with_reducible apply And.intro | with_reducible intro _)
  all_goals first
    | omega
    | (refine hQ _ ?_
       first
         | grind []
         | (simp; grind []))
    | grind []
theorem Qhc (s : Sky) (hd : G7 s.w s.h s.lv) (hs : s.small) : Contract P 51 [.agg (s.row 0)] [] (.bool (decide (QnX s.w s.h s.rws))) [] := by
  have hl : s.rws.length ≤ 1048576 := hs.2.2.2
  simp only [Sky.row]
  refine Qt (((((Env.nil P).add 46 JC XP).add 85 Q8 Y4).add 90 QhR QvW).add 91 QhS QvX) hm QbG (Nat.le_of_ble_eq_true rfl) rfl ?_; unfold Z6; simp (config := { maxSteps := 2000000 }) only [bitvec_to_nat, reduceIte, Nat.reduceEqDiff, Nat.reduceAdd, Nat.reduceLeDiff, reduceCtorEq, Nat.reduceBEq, Nat.reduceLT, Nat.reduceMod, List.forall_mem_cons, JC, Q8, QhR, QhS, Qk, Qm, Qa, Q3, Qh, List.take_length, List.length_cons, List.length_nil, Nat.zero_add, QH, QX, Q4, Q6, Zone.row, Qf, Qs, Pt.row, Ql, QA, Aw.row, Qo, QB, Blk.row, Qb, Qj, Sec.row, Qc, Qn, Rw.row, Qp, QD, Qd]
  refine ⟨fun h1 => by intro h; have := h.1; omega, fun h1 => ?_⟩
  refine QV (fun i : Nat => [(3, .int .i64 i)]) (fun _ => []) (fun i => i ≤ s.rws.length ∧ ∀ j, j < i → QsQ s.w s.h s.rws j) (fun i => s.rws.length - i) (0) (by simp only [JX, JY, JZ, J0, Qw, Qx, Qy, Qz, reduceIte, Nat.reduceEqDiff]; exact ⟨by repeat' (first | exact trivial | refine ⟨.inr rfl, ?_⟩), by repeat' (first | exact trivial | refine ⟨rfl, ?_⟩), by first | rfl | simp [closedB, Qr, Qg, Qi, dom, Qe, *], by first | rfl | simp [keepB, dom]⟩) ?_ ?_
  · exact ⟨Nat.zero_le _, by intro j hj; omega⟩
  intro i hi NX hN
  unfold XJ; simp (config := { maxSteps := 2000000 }) only [bitvec_to_nat, reduceIte, Nat.reduceEqDiff, Nat.reduceAdd, Nat.reduceLeDiff, reduceCtorEq, Nat.reduceBEq, Nat.reduceLT, Nat.reduceMod, List.forall_mem_cons, JC, Q8, QhR, QhS, Qk, Qm, Qa, Q3, Qh, List.take_length, List.length_cons, List.length_nil, Nat.zero_add, QH, QX, Q4, Q6, Zone.row, Qf, Qs, Pt.row, Ql, QA, Aw.row, Qo, QB, Blk.row, Qb, Qj, Sec.row, Qc, Qn, Rw.row, Qp, QD, Qd]
  refine ⟨fun g1 => ⟨by omega, by omega, ?_⟩, fun g1 => ?_⟩
  · have A : QnX s.w s.h s.rws → QsQ s.w s.h s.rws i := fun h => h.2 i (by omega)
    unfold QsQ Rw.ok at A
    refine WH s i (by omega) hl hd fun bv hbv => ?_
    cases bv
    case true =>
      simp (config := { maxSteps := 2000000 }) only [bitvec_to_nat, reduceIte, Nat.reduceEqDiff, Nat.reduceAdd, Nat.reduceLeDiff, reduceCtorEq, Nat.reduceBEq, Nat.reduceLT, Nat.reduceMod, List.forall_mem_cons, JC, Q8, QhR, QhS, Qk, Qm, Qa, Q3, Qh, List.take_length, List.length_cons, List.length_nil, Nat.zero_add, QH, QX, Q4, Q6, Zone.row, Qf, Qs, Pt.row, Ql, QA, Aw.row, Qo, QB, Blk.row, Qb, Qj, Sec.row, Qc, Qn, Rw.row, Qp, QD, Qd]
      exact fun hq => (hbv.1 rfl) ⟨(A hq).1, (A hq).2.1, (A hq).2.2.1.2.1, (A hq).2.2.1.1⟩
    have o1 := Classical.not_not.1 fun h => Bool.noConfusion (hbv.2 h)
    simp (config := { maxSteps := 2000000 }) only [bitvec_to_nat, reduceIte, Nat.reduceEqDiff, Nat.reduceAdd, Nat.reduceLeDiff, reduceCtorEq, Nat.reduceBEq, Nat.reduceLT, Nat.reduceMod, List.forall_mem_cons, JC, Q8, QhR, QhS, Qk, Qm, Qa, Q3, Qh, List.take_length, List.length_cons, List.length_nil, Nat.zero_add, QH, QX, Q4, Q6, Zone.row, Qf, Qs, Pt.row, Ql, QA, Aw.row, Qo, QB, Blk.row, Qb, Qj, Sec.row, Qc, Qn, Rw.row, Qp, QD, Qd]
    refine WJ s i hd o1.2.2.1 (QuD _) (QuE _) fun bv hbv => ?_
    cases bv
    case true =>
      simp (config := { maxSteps := 2000000 }) only [bitvec_to_nat, reduceIte, Nat.reduceEqDiff, Nat.reduceAdd, Nat.reduceLeDiff, reduceCtorEq, Nat.reduceBEq, Nat.reduceLT, Nat.reduceMod, List.forall_mem_cons, JC, Q8, QhR, QhS, Qk, Qm, Qa, Q3, Qh, List.take_length, List.length_cons, List.length_nil, Nat.zero_add, QH, QX, Q4, Q6, Zone.row, Qf, Qs, Pt.row, Ql, QA, Aw.row, Qo, QB, Blk.row, Qb, Qj, Sec.row, Qc, Qn, Rw.row, Qp, QD, Qd]
      exact fun hq => (hbv.1 rfl) (A hq).2.2.1.2.2
    have o2 := Classical.not_not.1 fun h => Bool.noConfusion (hbv.2 h)
    simp (config := { maxSteps := 2000000 }) only [bitvec_to_nat, reduceIte, Nat.reduceEqDiff, Nat.reduceAdd, Nat.reduceLeDiff, reduceCtorEq, Nat.reduceBEq, Nat.reduceLT, Nat.reduceMod, List.forall_mem_cons, JC, Q8, QhR, QhS, Qk, Qm, Qa, Q3, Qh, List.take_length, List.length_cons, List.length_nil, Nat.zero_add, QH, QX, Q4, Q6, Zone.row, Qf, Qs, Pt.row, Ql, QA, Aw.row, Qo, QB, Blk.row, Qb, Qj, Sec.row, Qc, Qn, Rw.row, Qp, QD, Qd]
    refine QV (fun k : Nat => [(5, .int .i64 k)]) (fun _ => []) (fun k => k ≤ i ∧ ∀ j, j < k → ¬ ((s.rws.getD j default).x = (s.rws.getD i default).x ∧ (s.rws.getD j default).y = (s.rws.getD i default).y)) (fun k => i - k) (0) (by simp only [JX, JY, JZ, J0, Qw, Qx, Qy, Qz, reduceIte, Nat.reduceEqDiff]; exact ⟨by repeat' (first | exact trivial | refine ⟨.inr rfl, ?_⟩), by repeat' (first | exact trivial | refine ⟨rfl, ?_⟩), by first | rfl | simp [closedB, Qr, Qg, Qi, dom, Qe, *], by first | rfl | simp [keepB, dom]⟩) ?_ ?_
    · exact ⟨Nat.zero_le _, by intro j hj; omega⟩
    intro k hk NX2 hN2
    unfold XI; simp (config := { maxSteps := 2000000 }) only [bitvec_to_nat, reduceIte, Nat.reduceEqDiff, Nat.reduceAdd, Nat.reduceLeDiff, reduceCtorEq, Nat.reduceBEq, Nat.reduceLT, Nat.reduceMod, List.forall_mem_cons, JC, Q8, QhR, QhS, Qk, Qm, Qa, Q3, Qh, List.take_length, List.length_cons, List.length_nil, Nat.zero_add, QH, QX, Q4, Q6, Zone.row, Qf, Qs, Pt.row, Ql, QA, Aw.row, Qo, QB, Blk.row, Qb, Qj, Sec.row, Qc, Qn, Rw.row, Qp, QD, Qd]
    refine ⟨fun g2 => ?_, fun g2 => ?_⟩
    · refine WK s i k (by omega) (by omega) hl fun bv hbv => ?_
      cases bv
      case true =>
        simp (config := { maxSteps := 2000000 }) only [bitvec_to_nat, reduceIte, Nat.reduceEqDiff, Nat.reduceAdd, Nat.reduceLeDiff, reduceCtorEq, Nat.reduceBEq, Nat.reduceLT, Nat.reduceMod, List.forall_mem_cons, JC, Q8, QhR, QhS, Qk, Qm, Qa, Q3, Qh, List.take_length, List.length_cons, List.length_nil, Nat.zero_add, QH, QX, Q4, Q6, Zone.row, Qf, Qs, Pt.row, Ql, QA, Aw.row, Qo, QB, Blk.row, Qb, Qj, Sec.row, Qc, Qn, Rw.row, Qp, QD, Qd]
        exact fun hq => (A hq).2.2.2 k (by omega) (hbv.1 rfl)
      have o3 : ¬ _ := fun h => Bool.noConfusion (hbv.2 h)
      simp (config := { maxSteps := 2000000 }) only [bitvec_to_nat, reduceIte, Nat.reduceEqDiff, Nat.reduceAdd, Nat.reduceLeDiff, reduceCtorEq, Nat.reduceBEq, Nat.reduceLT, Nat.reduceMod, List.forall_mem_cons, JC, Q8, QhR, QhS, Qk, Qm, Qa, Q3, Qh, List.take_length, List.length_cons, List.length_nil, Nat.zero_add, QH, QX, Q4, Q6, Zone.row, Qf, Qs, Pt.row, Ql, QA, Aw.row, Qo, QB, Blk.row, Qb, Qj, Sec.row, Qc, Qn, Rw.row, Qp, QD, Qd]
      refine ⟨by omega, ?_⟩
      refine hN2 (k + 1) _ (by simp only [JX, JY, JZ, J0, Qw, Qx, Qy, Qz, reduceIte, Nat.reduceEqDiff]; exact ⟨by repeat' (first | exact trivial | refine ⟨.inr rfl, ?_⟩), by repeat' (first | exact trivial | refine ⟨rfl, ?_⟩), by first | rfl | simp [closedB, Qr, Qg, Qi, dom, Qe, *], by first | rfl | simp [keepB, dom]⟩) ?_ ?_
      · exact ⟨by omega, JB hk.2 o3⟩
      · omega
    · refine ⟨by omega, ?_⟩
      refine hN (i + 1) _ (by simp only [JX, JY, JZ, J0, Qw, Qx, Qy, Qz, reduceIte, Nat.reduceEqDiff]; exact ⟨by repeat' (first | exact trivial | refine ⟨.inr rfl, ?_⟩), by repeat' (first | exact trivial | refine ⟨rfl, ?_⟩), by first | rfl | simp [closedB, Qr, Qg, Qi, dom, Qe, *], by first | rfl | simp [keepB, dom]⟩) ?_ ?_
      · exact ⟨by omega, JB hi.2 ⟨o1.1, o1.2.1, ⟨o1.2.2.2, o1.2.2.1, o2⟩, fun k hk2 => hk.2 k (by omega)⟩⟩
      · omega
  · exact ⟨by omega, fun j hj => hi.2 j (by omega)⟩
def X1 : List AV → Option (Prop × AV)
  | [.agg [.int .i64 s_w, .int .i64 s_h, .int .i64 s_lv, .sl 0 3 s_pts, .sl 0 2 s_aws, .sl 0 2 s_secs, .sl 0 4 s_rws]] => some ((((s_pts.map JA).map Pt.row = s_pts) ∧ ((s_aws.map JI).map (Aw.row 0) = s_aws) ∧ ((s_secs.map QP).map (Sec.row 0) = s_secs) ∧ ((s_rws.map JG).map Rw.row = s_rws)) ∧ (G7 (Sky.mk s_w s_h s_lv (s_pts.map JA) (s_aws.map JI) (s_secs.map QP) (s_rws.map JG)).w (Sky.mk s_w s_h s_lv (s_pts.map JA) (s_aws.map JI) (s_secs.map QP) (s_rws.map JG)).h (Sky.mk s_w s_h s_lv (s_pts.map JA) (s_aws.map JI) (s_secs.map QP) (s_rws.map JG)).lv ∧ (Sky.mk s_w s_h s_lv (s_pts.map JA) (s_aws.map JI) (s_secs.map QP) (s_rws.map JG)).small), .bool (decide (QnX (Sky.mk s_w s_h s_lv (s_pts.map JA) (s_aws.map JI) (s_secs.map QP) (s_rws.map JG)).w (Sky.mk s_w s_h s_lv (s_pts.map JA) (s_aws.map JI) (s_secs.map QP) (s_rws.map JG)).h (Sky.mk s_w s_h s_lv (s_pts.map JA) (s_aws.map JI) (s_secs.map QP) (s_rws.map JG)).rws)))
  | _ => none
theorem Qhd : ∀ args p v, X1 args = some (p, v) → p → Contract P 51 args [] v [] ∧ noref v = true ∧ No99 v := by
  intro args p v h1 h2
  unfold X1 at h1
  split at h1
  · rename_i s_w s_h s_lv s_pts s_aws s_secs s_rws
    cases h1
    obtain ⟨⟨e0, e1, e2, e3⟩, HP⟩ := h2
    have := Qhc (Sky.mk s_w s_h s_lv (s_pts.map JA) (s_aws.map JI) (s_secs.map QP) (s_rws.map JG)) HP.1 HP.2
    exact ⟨by simpa only [e0, e1, e2, e3, Sky.row] using this, rfl, trivial⟩
  · cases h1
end
end Go.Ve

namespace Go.Ve
noncomputable section
open Go.Proofs
set_option linter.unusedSimpArgs false
set_option linter.unusedVariables false
set_option maxRecDepth 100000
theorem Qhe {α : Type} [Inhabited α] {l : List α} {i : Nat} (h : i < l.length) : l.getD i default ∈ l := by simp [h]
theorem Zy {l : List Sec} {i : Nat} (hi : i < l.length) : JP (l.take (i + 1)) = JP (l.take i) ++ (l.getD i default).bl := by
  have e : l.getD i default = l[i] := by simp [hi]
  rw [e, List.take_succ_eq_append_getElem hi]; simp only [JP, List.flatMap_append, List.flatMap_cons, List.flatMap_nil, List.append_nil]
theorem QcC {l : List Sec} (h : ∀ j, j < l.length → (l.getD j default).bl.length ≤ 4) : ∀ i, i ≤ l.length → (JP (l.take i)).length ≤ 4 * i
  | 0, _ => by simp [JP]
  | i + 1, hi => by
    rw [Zy (by omega), List.length_append]
    have := QcC h i (by omega); have := h i (by omega); omega
theorem QnZ {w h lv : Int} {l : List Sec} (hq : Qap w h lv l) : (JP l).length ≤ 24 ∧ ∀ b ∈ JP l, b.ok w h lv := by
  constructor
  · have := QcC (fun j hj => (hq.2 j hj).2.2.1.2) l.length (Nat.le_refl _)
    rw [List.take_length] at this; have := hq.1; omega
  · intro b hb
    simp only [JP, List.mem_flatMap] at hb
    obtain ⟨x, hx, hb⟩ := hb
    obtain ⟨i, hi, rfl⟩ := List.mem_iff_getElem.1 hx
    obtain ⟨k, hk, rfl⟩ := List.mem_iff_getElem.1 hb
    have := ((hq.2 i hi).2.2.2 k (by simpa [hi] using hk)).1
    simpa [hi, hk] using this
theorem QiQ {w h lv : Int} {b : Blk} (hd : G7 w h lv) (hb : b.ok w h lv) : (1 ≤ b.x1 - b.x0 + 1 ∧ b.x1 - b.x0 + 1 ≤ 16) ∧ (1 ≤ b.y1 - b.y0 + 1 ∧ b.y1 - b.y0 + 1 ≤ 16) ∧ (1 ≤ b.hi - b.lo + 1 ∧ b.hi - b.lo + 1 ≤ 6) ∧
    (1 ≤ (b.x1 - b.x0 + 1) * (b.y1 - b.y0 + 1) ∧ (b.x1 - b.x0 + 1) * (b.y1 - b.y0 + 1) ≤ 256) ∧ 1 ≤ b.vol ∧ b.vol ≤ 1536 := by
  unfold G7 at hd; unfold Blk.ok at hb; unfold Blk.vol
  have h1 : 1 ≤ b.x1 - b.x0 + 1 ∧ b.x1 - b.x0 + 1 ≤ 16 := by omega
  have h2 : 1 ≤ b.y1 - b.y0 + 1 ∧ b.y1 - b.y0 + 1 ≤ 16 := by omega
  have h3 : 1 ≤ b.hi - b.lo + 1 ∧ b.hi - b.lo + 1 ≤ 6 := by omega
  generalize b.x1 - b.x0 + 1 = x at *
  generalize b.y1 - b.y0 + 1 = y at *
  generalize b.hi - b.lo + 1 = z at *
  have h4 : 1 ≤ x * y ∧ x * y ≤ 256 := by
    have a : 0 ≤ (x - 1) * (y - 1) := Int.mul_nonneg (by omega) (by omega)
    have c : 0 ≤ (16 - x) * (y - 1) := Int.mul_nonneg (by omega) (by omega)
    rw [Int.sub_mul, Int.mul_sub, Int.mul_sub] at a c
    omega
  refine ⟨h1, h2, h3, h4, ?_⟩
  generalize x * y = q at *
  have a : 0 ≤ (q - 1) * (z - 1) := Int.mul_nonneg (by omega) (by omega)
  have c : 0 ≤ (256 - q) * (z - 1) := Int.mul_nonneg (by omega) (by omega)
  rw [Int.sub_mul, Int.mul_sub, Int.mul_sub] at a c
  omega
theorem Qn0 {l : List Blk} {i : Nat} (hi : i < l.length) : Qlq (l.take (i + 1)) = Qlq (l.take i) + (l.getD i default).vol := by
  have e : l.getD i default = l[i] := by simp [hi]
  rw [e, List.take_succ_eq_append_getElem hi]; simp only [Qlq, List.map_append, List.map_cons, List.map_nil, List.sum_append, List.sum_cons, List.sum_nil, Int.add_zero]
theorem Qj1 {w h lv : Int} (hd : G7 w h lv) : ∀ {l : List Blk} (_ : ∀ b ∈ l, b.ok w h lv), 0 ≤ Qlq l ∧ Qlq l ≤ 1536 * l.length
  | [], _ => by simp [Qlq]
  | b :: l, hb => by
    have ih := Qj1 hd (l := l) fun x hx => hb x (by simp [hx])
    have := (QiQ hd (hb b (by simp))).2.2.2.2
    simp only [Qlq, List.map_cons, List.sum_cons, List.length_cons] at *
    omega
theorem Qls {w h lv : Int} (hd : G7 w h lv) : (1 ≤ w * h ∧ w * h ≤ 256) ∧ 1 ≤ w * h * lv ∧ w * h * lv ≤ 1536 := by
  have hb : (Blk.mk 0 0 (w - 1) (h - 1) 1 lv).ok w h lv := by unfold G7 at hd; unfold Blk.ok; simp only; omega
  have := (QiQ hd hb).2.2.2
  unfold Blk.vol at this
  simp only [show w - 1 - 0 + 1 = w by omega, show h - 1 - 0 + 1 = h by omega, show lv - 1 + 1 = lv by omega] at this
  exact this
theorem Qmv (s : Sky) (hq : Qap s.w s.h s.lv s.secs) : Contract P 88 [.agg (s.row 0)] [] (.sl 0 6 ((JP s.secs).map Blk.row)) [] := by
  have hl : s.secs.length ≤ 6 := hq.1
  have hb := QcC fun j hj => (hq.2 j hj).2.2.1.2
  simp only [Sky.row]
  refine Qt (Env.nil P) hm QeH (Nat.le_of_ble_eq_true rfl) rfl ?_; unfold Wx; simp (config := { maxSteps := 2000000 }) only [bitvec_to_nat, reduceIte, Nat.reduceEqDiff, Nat.reduceAdd, Nat.reduceLeDiff, reduceCtorEq, Nat.reduceBEq, Nat.reduceLT, Nat.reduceMod, List.forall_mem_cons, Qk, Qm, Qa, Q3, Qh, List.take_length, List.length_cons, List.length_nil, Nat.zero_add, QH, QX, Q4, Q6, Zone.row, Qf, Qs, Pt.row, Ql, QA, Aw.row, Qo, QB, Blk.row, Qb, Qj, Sec.row, Qc, Qn, Rw.row, Qp, QD, Qd]
  refine QV (fun i : Nat => [(3, .own 105 i 0 (JP (s.secs.take i)).length), (4, .int .i64 i)]) (fun i => [(105, .arr 122 i 6 ((JP (s.secs.take i)).map Blk.row))]) (fun i => i ≤ s.secs.length) (fun i => s.secs.length - i) (0) (by simp only [JX, JY, JZ, J0, Qw, Qx, Qy, Qz, reduceIte, Nat.reduceEqDiff]; exact ⟨by repeat' (first | exact trivial | refine ⟨.inr rfl, ?_⟩), by repeat' (first | exact trivial | refine ⟨rfl, ?_⟩), by first | rfl | simp [closedB, Qr, Qg, Qi, dom, Qe, *], by first | rfl | simp [keepB, dom]⟩) ?_ ?_
  · exact Nat.zero_le _
  intro i hi NX hN
  unfold U9; simp (config := { maxSteps := 2000000 }) only [bitvec_to_nat, reduceIte, Nat.reduceEqDiff, Nat.reduceAdd, Nat.reduceLeDiff, reduceCtorEq, Nat.reduceBEq, Nat.reduceLT, Nat.reduceMod, List.forall_mem_cons, Qk, Qm, Qa, Q3, Qh, List.take_length, List.length_cons, List.length_nil, Nat.zero_add, QH, QX, Q4, Q6, Zone.row, Qf, Qs, Pt.row, Ql, QA, Aw.row, Qo, QB, Blk.row, Qb, Qj, Sec.row, Qc, Qn, Rw.row, Qp, QD, Qd]
  have hb1 := hb i hi
  refine ⟨fun g1 => ⟨by omega, by omega, ?_⟩, fun g1 => ?_⟩
  · have hb2 := (hq.2 i (by omega)).2.2.1.2
    refine ⟨by omega, by omega, ?_⟩
    have e := Zy (l := s.secs) (i := i) (by omega)
    refine hN (i + 1) _ (by simp only [e, List.length_append, List.length_cons, List.length_nil, Nat.zero_add, List.map_append, List.map_cons, List.map_nil, JX, JY, JZ, J0, Qw, Qx, Qy, Qz, reduceIte, Nat.reduceEqDiff]; exact ⟨by repeat' (first | exact trivial | refine ⟨.inr rfl, ?_⟩), by repeat' (first | exact trivial | refine ⟨rfl, ?_⟩), by first | rfl | simp [closedB, Qr, Qg, Qi, dom, Qe, *], by first | rfl | simp [keepB, dom]⟩) ?_ ?_
    · omega
    · omega
  · have e : i = s.secs.length := by omega
    subst e
    simp [List.take_length]
def Za : List AV → Option (Prop × AV)
  | [.agg [.int .i64 s_w, .int .i64 s_h, .int .i64 s_lv, .sl 0 3 s_pts, .sl 0 2 s_aws, .sl 0 2 s_secs, .sl 0 4 s_rws]] => some ((((s_pts.map JA).map Pt.row = s_pts) ∧ ((s_aws.map JI).map (Aw.row 0) = s_aws) ∧ ((s_secs.map QP).map (Sec.row 0) = s_secs) ∧ ((s_rws.map JG).map Rw.row = s_rws)) ∧ (Qap (Sky.mk s_w s_h s_lv (s_pts.map JA) (s_aws.map JI) (s_secs.map QP) (s_rws.map JG)).w (Sky.mk s_w s_h s_lv (s_pts.map JA) (s_aws.map JI) (s_secs.map QP) (s_rws.map JG)).h (Sky.mk s_w s_h s_lv (s_pts.map JA) (s_aws.map JI) (s_secs.map QP) (s_rws.map JG)).lv (Sky.mk s_w s_h s_lv (s_pts.map JA) (s_aws.map JI) (s_secs.map QP) (s_rws.map JG)).secs), .sl 0 6 ((JP (Sky.mk s_w s_h s_lv (s_pts.map JA) (s_aws.map JI) (s_secs.map QP) (s_rws.map JG)).secs).map Blk.row))
  | _ => none
theorem Qmw : ∀ args p v, Za args = some (p, v) → p → Contract P 88 args [] v [] ∧ noref v = true ∧ No99 v := by
  intro args p v h1 h2
  unfold Za at h1
  split at h1
  · rename_i s_w s_h s_lv s_pts s_aws s_secs s_rws
    cases h1
    obtain ⟨⟨e0, e1, e2, e3⟩, HP⟩ := h2
    have := Qmv (Sky.mk s_w s_h s_lv (s_pts.map JA) (s_aws.map JI) (s_secs.map QP) (s_rws.map JG)) HP
    exact ⟨by simpa only [e0, e1, e2, e3, Sky.row] using this, rfl, by simp only [No99]; exact ⟨by omega, KI _⟩⟩
  · cases h1
theorem Qmx (s : Sky) (hd : G7 s.w s.h s.lv) (hq : Qap s.w s.h s.lv s.secs) : Contract P 50 [.agg (s.row 0)] [] (.bool (decide (Qlr s.w s.h s.lv s.secs))) [] := by
  have hb := QnZ hq
  have hmul := Qls hd
  simp only [Sky.row]
  refine Qt (((Env.nil P).add 88 Za Qmw).add 89 X9 Qmu) hm QeA (Nat.le_of_ble_eq_true rfl) rfl ?_; unfold Wq; simp (config := { maxSteps := 2000000 }) only [bitvec_to_nat, reduceIte, Nat.reduceEqDiff, Nat.reduceAdd, Nat.reduceLeDiff, reduceCtorEq, Nat.reduceBEq, Nat.reduceLT, Nat.reduceMod, List.forall_mem_cons, Za, X9, Qk, Qm, Qa, Q3, Qh, List.take_length, List.length_cons, List.length_nil, Nat.zero_add, QH, QX, Q4, Q6, Zone.row, Qf, Qs, Pt.row, Ql, QA, Aw.row, Qo, QB, Blk.row, Qb, Qj, Sec.row, Qc, Qn, Rw.row, Qp, QD, Qd]
  refine ⟨hq, ?_⟩
  refine QV (fun i : Nat => [(4, .int .i64 (Qlq ((JP s.secs).take i))), (5, .int .i64 i)]) (fun _ => []) (fun i => i ≤ (JP s.secs).length ∧ ∀ j, j < i → Qg6 (JP s.secs) j) (fun i => (JP s.secs).length - i) (0) (by simp only [JX, JY, JZ, J0, Qw, Qx, Qy, Qz, reduceIte, Nat.reduceEqDiff]; exact ⟨by repeat' (first | exact trivial | refine ⟨.inr rfl, ?_⟩), by repeat' (first | exact trivial | refine ⟨rfl, ?_⟩), by first | rfl | simp [closedB, Qr, Qg, Qi, dom, Qe, *], by first | rfl | simp [keepB, dom]⟩) ?_ ?_
  · exact ⟨Nat.zero_le _, by intro j hj; omega⟩
  intro i hi NX hN
  have hv := Qj1 hd (l := (JP s.secs).take i) fun b h => hb.2 b (List.mem_of_mem_take h)
  have hv2 : ((JP s.secs).take i).length ≤ 24 := by rw [List.length_take]; omega
  unfold U3; simp (config := { maxSteps := 2000000 }) only [bitvec_to_nat, reduceIte, Nat.reduceEqDiff, Nat.reduceAdd, Nat.reduceLeDiff, reduceCtorEq, Nat.reduceBEq, Nat.reduceLT, Nat.reduceMod, List.forall_mem_cons, Za, X9, Qk, Qm, Qa, Q3, Qh, List.take_length, List.length_cons, List.length_nil, Nat.zero_add, QH, QX, Q4, Q6, Zone.row, Qf, Qs, Pt.row, Ql, QA, Aw.row, Qo, QB, Blk.row, Qb, Qj, Sec.row, Qc, Qn, Rw.row, Qp, QD, Qd]
  refine ⟨fun g1 => ⟨by omega, by omega, ?_⟩, fun g1 => ?_⟩
  · have ho := QiQ hd (hb.2 ((JP s.secs).getD i default) (Qhe (by omega)))
    have e := Qn0 (l := (JP s.secs)) (i := i) (by omega)
    unfold Blk.vol at ho e
    refine ⟨by omega, by omega, by omega, by omega, by omega, by omega, by omega, by omega, by omega, ?_⟩
    refine QV (fun k : Nat => [(7, .int .i64 k)]) (fun _ => []) (fun k => k ≤ i ∧ ∀ j, j < k → ¬ ((JP s.secs).getD j default).meet ((JP s.secs).getD i default)) (fun k => i - k) (0) (by simp only [JX, JY, JZ, J0, Qw, Qx, Qy, Qz, reduceIte, Nat.reduceEqDiff]; exact ⟨by repeat' (first | exact trivial | refine ⟨.inr rfl, ?_⟩), by repeat' (first | exact trivial | refine ⟨rfl, ?_⟩), by first | rfl | simp [closedB, Qr, Qg, Qi, dom, Qe, *], by first | rfl | simp [keepB, dom]⟩) ?_ ?_
    · exact ⟨Nat.zero_le _, by intro j hj; omega⟩
    intro k hk NX2 hN2
    unfold U2; simp (config := { maxSteps := 2000000 }) only [bitvec_to_nat, reduceIte, Nat.reduceEqDiff, Nat.reduceAdd, Nat.reduceLeDiff, reduceCtorEq, Nat.reduceBEq, Nat.reduceLT, Nat.reduceMod, List.forall_mem_cons, Za, X9, Qk, Qm, Qa, Q3, Qh, List.take_length, List.length_cons, List.length_nil, Nat.zero_add, QH, QX, Q4, Q6, Zone.row, Qf, Qs, Pt.row, Ql, QA, Aw.row, Qo, QB, Blk.row, Qb, Qj, Sec.row, Qc, Qn, Rw.row, Qp, QD, Qd]
    refine ⟨fun g2 => ⟨by omega, by omega, fun g3 => ?_, fun g3 => ⟨by omega, ?_⟩⟩, fun g2 => ⟨by omega, ?_⟩⟩
    · exact fun h => h.1 i (by omega) k (by omega) g3
    · refine hN2 (k + 1) _ (by simp only [JX, JY, JZ, J0, Qw, Qx, Qy, Qz, reduceIte, Nat.reduceEqDiff]; exact ⟨by repeat' (first | exact trivial | refine ⟨.inr rfl, ?_⟩), by repeat' (first | exact trivial | refine ⟨rfl, ?_⟩), by first | rfl | simp [closedB, Qr, Qg, Qi, dom, Qe, *], by first | rfl | simp [keepB, dom]⟩) ?_ ?_
      · exact ⟨by omega, JB hk.2 g3⟩
      · omega
    · refine hN (i + 1) _ (by simp only [e, List.length_append, List.length_cons, List.length_nil, Nat.zero_add, List.map_append, List.map_cons, List.map_nil, JX, JY, JZ, J0, Qw, Qx, Qy, Qz, reduceIte, Nat.reduceEqDiff]; exact ⟨by repeat' (first | exact trivial | refine ⟨.inr rfl, ?_⟩), by repeat' (first | exact trivial | refine ⟨rfl, ?_⟩), by first | rfl | simp [closedB, Qr, Qg, Qi, dom, Qe, *], by first | rfl | simp [keepB, dom]⟩) ?_ ?_
      · exact ⟨by omega, JB hi.2 fun k hk2 => hk.2 k (by omega)⟩
      · omega
  · have e : i = (JP s.secs).length := by omega
    rw [e, List.take_length] at *
    refine ⟨by omega, by omega, ?_⟩
    rw [decide_eq_decide]
    exact ⟨fun h => ⟨fun j hj => hi.2 j (by omega), h⟩, fun h => h.2⟩
def W0 : List AV → Option (Prop × AV)
  | [.agg [.int .i64 s_w, .int .i64 s_h, .int .i64 s_lv, .sl 0 3 s_pts, .sl 0 2 s_aws, .sl 0 2 s_secs, .sl 0 4 s_rws]] => some ((((s_pts.map JA).map Pt.row = s_pts) ∧ ((s_aws.map JI).map (Aw.row 0) = s_aws) ∧ ((s_secs.map QP).map (Sec.row 0) = s_secs) ∧ ((s_rws.map JG).map Rw.row = s_rws)) ∧ (G7 (Sky.mk s_w s_h s_lv (s_pts.map JA) (s_aws.map JI) (s_secs.map QP) (s_rws.map JG)).w (Sky.mk s_w s_h s_lv (s_pts.map JA) (s_aws.map JI) (s_secs.map QP) (s_rws.map JG)).h (Sky.mk s_w s_h s_lv (s_pts.map JA) (s_aws.map JI) (s_secs.map QP) (s_rws.map JG)).lv ∧ Qap (Sky.mk s_w s_h s_lv (s_pts.map JA) (s_aws.map JI) (s_secs.map QP) (s_rws.map JG)).w (Sky.mk s_w s_h s_lv (s_pts.map JA) (s_aws.map JI) (s_secs.map QP) (s_rws.map JG)).h (Sky.mk s_w s_h s_lv (s_pts.map JA) (s_aws.map JI) (s_secs.map QP) (s_rws.map JG)).lv (Sky.mk s_w s_h s_lv (s_pts.map JA) (s_aws.map JI) (s_secs.map QP) (s_rws.map JG)).secs), .bool (decide (Qlr (Sky.mk s_w s_h s_lv (s_pts.map JA) (s_aws.map JI) (s_secs.map QP) (s_rws.map JG)).w (Sky.mk s_w s_h s_lv (s_pts.map JA) (s_aws.map JI) (s_secs.map QP) (s_rws.map JG)).h (Sky.mk s_w s_h s_lv (s_pts.map JA) (s_aws.map JI) (s_secs.map QP) (s_rws.map JG)).lv (Sky.mk s_w s_h s_lv (s_pts.map JA) (s_aws.map JI) (s_secs.map QP) (s_rws.map JG)).secs)))
  | _ => none
theorem Qmy : ∀ args p v, W0 args = some (p, v) → p → Contract P 50 args [] v [] ∧ noref v = true ∧ No99 v := by
  intro args p v h1 h2
  unfold W0 at h1
  split at h1
  · rename_i s_w s_h s_lv s_pts s_aws s_secs s_rws
    cases h1
    obtain ⟨⟨e0, e1, e2, e3⟩, HP⟩ := h2
    have := Qmx (Sky.mk s_w s_h s_lv (s_pts.map JA) (s_aws.map JI) (s_secs.map QP) (s_rws.map JG)) HP.1 HP.2
    exact ⟨by simpa only [e0, e1, e2, e3, Sky.row] using this, rfl, trivial⟩
  · cases h1
theorem Qj2 (s : Sky) (hs : s.small) : Contract P 17 [.agg (s.row 0)] [] (.bool (decide s.valid)) [] := by
  simp only [Sky.row]
  refine Qt (((((((Env.nil P).add 46 JC XP).add 47 Uq QiP).add 48 XZ Qg8).add 49 X0 Qhb).add 50 W0 Qmy).add 51 X1 Qhd) hm Qex (Nat.le_of_ble_eq_true rfl) rfl ?_; unfold Wi; simp (config := { maxSteps := 2000000 }) only [bitvec_to_nat, reduceIte, Nat.reduceEqDiff, Nat.reduceAdd, Nat.reduceLeDiff, reduceCtorEq, Nat.reduceBEq, Nat.reduceLT, Nat.reduceMod, List.forall_mem_cons, JC, Uq, XZ, X0, W0, X1, Qk, Qm, Qa, Q3, Qh, List.take_length, List.length_cons, List.length_nil, Nat.zero_add, QH, QX, Q4, Q6, Zone.row, Qf, Qs, Pt.row, Ql, QA, Aw.row, Qo, QB, Blk.row, Qb, Qj, Sec.row, Qc, Qn, Rw.row, Qp, QD, Qd]
  repeat' (first | with_reducible apply And.intro | with_reducible intro _)
  all_goals first
    | with_reducible assumption
    | omega
    | grind [Sky.valid, G7]
def J5 : List AV → Option (Prop × AV)
  | [.agg [.int .i64 s_w, .int .i64 s_h, .int .i64 s_lv, .sl 0 3 s_pts, .sl 0 2 s_aws, .sl 0 2 s_secs, .sl 0 4 s_rws]] => some ((((s_pts.map JA).map Pt.row = s_pts) ∧ ((s_aws.map JI).map (Aw.row 0) = s_aws) ∧ ((s_secs.map QP).map (Sec.row 0) = s_secs) ∧ ((s_rws.map JG).map Rw.row = s_rws)) ∧ ((Sky.mk s_w s_h s_lv (s_pts.map JA) (s_aws.map JI) (s_secs.map QP) (s_rws.map JG)).small), .bool (decide (Sky.mk s_w s_h s_lv (s_pts.map JA) (s_aws.map JI) (s_secs.map QP) (s_rws.map JG)).valid))
  | _ => none
theorem QeQ : ∀ args p v, J5 args = some (p, v) → p → Contract P 17 args [] v [] ∧ noref v = true ∧ No99 v := by
  intro args p v h1 h2
  unfold J5 at h1
  split at h1
  · rename_i s_w s_h s_lv s_pts s_aws s_secs s_rws
    cases h1
    obtain ⟨⟨e0, e1, e2, e3⟩, HP⟩ := h2
    have := Qj2 (Sky.mk s_w s_h s_lv (s_pts.map JA) (s_aws.map JI) (s_secs.map QP) (s_rws.map JG)) HP
    exact ⟨by simpa only [e0, e1, e2, e3, Sky.row] using this, rfl, trivial⟩
  · cases h1
end
end Go.Ve

