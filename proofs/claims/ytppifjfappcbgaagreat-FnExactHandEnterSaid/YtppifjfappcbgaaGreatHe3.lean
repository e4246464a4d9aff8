/- Part 3 of the proof: laws and contracts of functions, each proved; they are joined in the last part. No conditions beyond those that the theorems state. -/
import Derived.Test.YtppifjfappcbgaaGreatProg
import Derived.Test.YtppifjfappcbgaaGreatHe2
set_option linter.all false
namespace Go.Ve
open Go.Proofs
set_option maxRecDepth 100000
/-- laws.FnExactHandEnter: function 6 -/
def KI : SFun := { n := 127,res := [.t 6],body := (jq [jn 4 (.box 104 (.v 1)) [1],jn 6 (.mv (.c (.bool false))) [6]] [0,2,4] (.seq (jq [jm 19 2 [],jn 20 (.lenS (.v 19)) [19],jc 21 .gtr 20 1048576 [20]] [0,2,4,21] (.cond (.v 21) (jq [jn 6 (.mv (.c (.bool true))) []] [6] .ret) .skip)) (jq [jI 7 1048576 []] [0,2,4,7] (jq [jm 22 0 [],jm 23 7 [7],jn 24 (.call 7 [.v 22,.v 23]) [22,23],jm 7 24 [24]] [0,2,4,7] (.seq (jq [jm 25 7 [],jc 26 .lss 25 0 [25]] [0,2,4,7,26] (.cond (.v 26) (jq [jn 6 (.mv (.c (.bool true))) []] [6] .ret) .skip)) (jq [jL 27 3 4 [],jm 28 7 [7],jn 29 (.call 8 [.v 27,.v 28]) [27,28],jm 7 29 [29]] [0,2,4,7] (.seq (jq [jm 30 7 [7],jc 31 .lss 30 0 [30]] [0,2,4,31] (.cond (.v 31) (jq [jn 6 (.mv (.c (.bool true))) []] [6] .ret) .skip)) (.seq (.rgd [jm 33 0 [],jn 34 (.call 10 [.v 33]) [],jL 35 3 4 [],jn 36 (.call 11 [.v 35]) [],jm 37 2 [],jn 38 (.call 29 [.v 34,.v 36,.v 37]) [],jm 32 38 [],jn 39 (.ext 0 (.v 32)) [],jn 40 (.ext 1 (.v 32)) [],jn 8 (.alloc 108 [.sl 0 11 [],.sl 0 3 [],.sl 0 2 []]) [],⟨none,.store 3 (.v 8) (.v 39),none,[]⟩,jm 9 40 []] [0,2,4,8,9] [none,some [],some [0],some [],none,some [],none,none,none,some [7,6,5,3],none,none]) (jq [jm 41 0 [],jn 42 (.call 10 [.v 41]) [41],jm 10 42 [42]] [0,2,4,8,9,10] (jq [jL 43 3 4 [],jn 44 (.call 11 [.v 43]) [43],jn 11 (.alloc 111 [.sl 0 11 [],.sl 0 3 [],.sl 0 2 []]) [],⟨none,.store 3 (.v 11) (.v 44),none,[44]⟩] [0,2,4,8,9,10,11] (jq [jm 46 10 [],jL 47 3 11 [],jm 48 2 [],jn 49 (.call 30 [.v 46,.v 47,.v 48]) [46,47,48],jm 45 49 [49],jn 50 (.ext 0 (.v 45)) [],jn 51 (.ext 1 (.v 45)) [45],jn 12 (.alloc 112 [.sl 0 11 [],.sl 0 3 [],.sl 0 2 []]) [],⟨none,.store 3 (.v 12) (.v 50),none,[50]⟩,jm 13 51 [51]] [0,2,4,8,9,10,11,12,13] (.seq (jq [jL 52 3 12 [],jL 53 3 8 [],jn 54 (.call 15 [.v 52,.v 53]) [52,53],jn 55 (.not (.v 54)) [54],jm 56 55 [55],jM 57 56 13 [],jM 58 56 9 [],jh 59 56 (.bin .neq (.v 57) (.v 58)) [57,58],jp 60 56 59 [56,59]] [0,2,4,8,9,10,11,12,13,60] (.cond (.v 60) (jq [jn 6 (.mv (.c (.bool false))) []] [6] .ret) .skip)) (.seq (jq [jm 61 10 [],jm 62 0 [],jn 63 (.call 10 [.v 62]) [62],jn 64 (.call 14 [.v 61,.v 63]) [61,63],jn 65 (.not (.v 64)) [64]] [0,2,4,8,9,10,11,12,13,65] (.cond (.v 65) (jq [jn 6 (.mv (.c (.bool false))) []] [6] .ret) .skip)) (.seq (.seq (.rgd [jL 66 3 11 [],jL 67 3 4 [],jn 68 (.call 11 [.v 67]) [],jn 69 (.call 15 [.v 66,.v 68]) [],jn 70 (.not (.v 69)) []] [0,2,4,8,9,10,11,12,13,70] [some [],none,some [1],none,none]) (.cond (.v 70) (jq [jn 6 (.mv (.c (.bool false))) []] [6] .ret) .skip)) (jq [jI 14 1 []] [0,2,4,8,9,10,11,12,13,14] (jq [jm 71 10 [10],jm 72 14 [14],jn 73 (.call 16 [.v 71,.v 72]) [71,72],jm 14 73 [73]] [0,2,4,8,9,11,12,13,14] (jq [jL 74 3 11 [11],jm 75 14 [14],jn 76 (.call 17 [.v 74,.v 75]) [74,75],jm 14 76 [76]] [0,2,4,8,9,12,13,14] (.seq (jq [jm 77 14 [14],jc 78 .lss 77 0 [77],jm 79 78 [78],jh 80 79 (.loadN 3 (.v 12)) [],jh 81 79 (.loadN 3 (.v 8)) [],jh 82 79 (.call 15 [.v 80,.v 81]) [80,81],jh 83 79 (.not (.v 82)) [82],jp 84 79 83 [79,83],jm 85 84 [84],jM 86 85 13 [13],jM 87 85 9 [],jh 88 85 (.bin .neq (.v 86) (.v 87)) [86,87],jp 89 85 88 [85,88]] [0,2,4,8,9,12,89] (.cond (.v 89) (jq [jn 6 (.mv (.c (.bool false))) []] [6] .ret) .skip)) (jq [jI 15 1 []] [0,2,4,8,9,12,15] (jq [jL 90 3 12 [],jm 91 15 [15],jn 92 (.call 17 [.v 90,.v 91]) [90,91],jm 15 92 [92]] [0,2,4,8,9,12,15] (jq [jI 16 1 []] [0,2,4,8,9,12,15,16] (jq [jL 93 3 12 [],jm 94 16 [16],jn 95 (.call 22 [.v 93,.v 94]) [93,94],jm 16 95 [95]] [0,2,4,8,9,12,15,16] (.seq (jq [jm 96 16 [],jc 97 .lss 96 0 [96]] [0,2,4,8,9,12,15,16,97] (.cond (.v 97) (jq [jn 6 (.mv (.c (.bool false))) []] [6] .ret) .skip)) (.seq (jq [jm 98 16 [16],jm 99 15 [],jb 100 .neq 98 99 [98,99]] [0,2,4,8,9,12,15,100] (.cond (.v 100) (jq [jn 6 (.mv (.c (.bool false))) []] [6] .ret) .skip)) (.seq (.rgd [jm 102 0 [],jn 103 (.call 10 [.v 102]) [],jL 104 3 4 [],jn 105 (.call 11 [.v 104]) [],jm 106 2 [],jn 107 (.call 30 [.v 103,.v 105,.v 106]) [],jm 101 107 [],jn 108 (.ext 0 (.v 101)) [],jn 109 (.ext 1 (.v 101)) [],jn 17 (.alloc 117 [.sl 0 11 [],.sl 0 3 [],.sl 0 2 []]) [],⟨none,.store 3 (.v 17) (.v 108),none,[]⟩,jm 18 109 []] [8,9,12,15,17,18] [none,some [],some [0],some [],none,some [],none,none,none,some [7,6,5,3],none,none]) (.seq (jq [jL 110 3 17 [17],jL 111 3 8 [8],jn 112 (.call 15 [.v 110,.v 111]) [110,111],jn 113 (.not (.v 112)) [112],jm 114 113 [113],jM 115 114 18 [18],jM 116 114 9 [9],jh 117 114 (.bin .neq (.v 115) (.v 116)) [115,116],jp 118 114 117 [114,117]] [12,15,118] (.cond (.v 118) (jq [jn 6 (.mv (.c (.bool false))) []] [6] .ret) .skip)) (jq [jI 16 1 []] [12,15,16] (jq [jL 119 3 12 [12],jm 120 16 [16],jn 121 (.call 22 [.v 119,.v 120]) [119,120],jm 16 121 [121]] [15,16] (.seq (jq [jm 122 16 [],jc 123 .lss 122 0 [122]] [15,16,123] (.cond (.v 123) (jq [jn 6 (.mv (.c (.bool false))) []] [6] .ret) .skip)) (.seq (jq [jm 124 16 [16],jm 125 15 [15],jb 126 .neq 124 125 [124,125]] [126] (.cond (.v 126) (jq [jn 6 (.mv (.c (.bool false))) []] [6] .ret) .skip)) (jq [jn 6 (.mv (.c (.bool true))) []] [6] .ret))))))))))))))))))))))))))))))) }
theorem Ge : QS Go.Proofs.Tryz.prog 6 KI = true := by kernel_rfl
def XN : SCode := (.seq (jq [jm 12 5 [],jm 13 0 [],jn 14 (.lenL (.v 13)) [13],jb 15 .lss 12 14 [12,14]] [0,1,5,15] (.cond (.v 15) .skip (.exit 0))) (.seq (.block 1 (jq [jm 18 0 [],jm 19 5 [],ja 20 5 18 19 [18,19],jL 21 5 20 [20],jm 22 1 [1],jn 23 (.call 31 [.v 21,.v 22]) [21,22],jm 1 23 [23]] [0,1,5] (jq [jm 24 1 [],jc 25 .lss 24 0 [24]] [0,1,5,25] (.cond (.v 25) (jq [jn 4 (.mv (.c (.int .i64 (-1)))) []] [4] .ret) .skip)))) (.rg [jm 16 5 [5],jn 17 (.binN .add (.v 16) (ci 1)) [16],jm 5 17 [17]] [0,1,5])))
/-- laws.szHandZoneS: function 7 -/
def Ue : SFun := { n := 27,res := [.t 4],body := (jq [jI 4 0 [4]] [0,1] (jq [jm 6 1 [1],jm 7 0 [],jn 8 (.lenL (.v 7)) [7],jn 9 (.binN .sub (.v 6) (.v 8)) [6,8],jm 1 9 [9]] [0,1] (.seq (jq [jm 10 1 [],jc 11 .lss 10 0 [10]] [0,1,11] (.cond (.v 11) (jq [jn 4 (.mv (.c (.int .i64 (-1)))) []] [4] .ret) .skip)) (.seq (jq [jI 5 0 []] [0,1,5] (.block 0 (.loop XN))) (jq [jm 26 1 [1],jm 4 26 [26]] [4] .ret))))) }
theorem Qco : QS Go.Proofs.Tryz.prog 7 Ue = true := by kernel_rfl
/-- laws.szHandBook: function 8 -/
def VF : SFun := { n := 24,res := [.t 4],body := (jq [jn 2 (.box 102 (.v 0)) [0],jI 4 0 [4]] [1,2] (jq [jf 5 0 2 [],jl 6 5 [5],jm 7 1 [1],jn 8 (.call 32 [.v 6,.v 7]) [6,7],jm 1 8 [8]] [1,2] (.seq (jq [jm 9 1 [],jc 10 .lss 9 0 [9]] [1,2,10] (.cond (.v 10) (jq [jn 4 (.mv (.c (.int .i64 (-1)))) []] [4] .ret) .skip)) (jq [jf 11 1 2 [],jl 12 11 [11],jm 13 1 [1],jn 14 (.call 33 [.v 12,.v 13]) [12,13],jm 1 14 [14]] [1,2] (.seq (jq [jm 15 1 [],jc 16 .lss 15 0 [15]] [1,2,16] (.cond (.v 16) (jq [jn 4 (.mv (.c (.int .i64 (-1)))) []] [4] .ret) .skip)) (jq [jf 17 2 2 [2],jl 18 17 [17],jm 19 1 [1],jn 20 (.call 34 [.v 18,.v 19]) [18,19],jm 1 20 [20]] [1] (.seq (jq [jm 21 1 [],jc 22 .lss 21 0 [21]] [1,22] (.cond (.v 22) (jq [jn 4 (.mv (.c (.int .i64 (-1)))) []] [4] .ret) .skip)) (jq [jm 23 1 [1],jm 4 23 [23]] [4] .ret)))))))) }
theorem Qd9 : QS Go.Proofs.Tryz.prog 8 VF = true := by kernel_rfl
def XO : SCode := (.seq (jq [jm 8 4 [],jm 9 0 [],jn 10 (.lenL (.v 9)) [9],jb 11 .lss 8 10 [8,10]] [0,3,4,11] (.cond (.v 11) .skip (.exit 0))) (.seq (.block 1 (.rg [jm 14 3 [],jm 15 4 [],jm 16 0 [],jm 17 4 [],ja 18 5 16 17 [16,17],jL 19 5 18 [18],jn 20 (.call 41 [.v 19]) [19],ja 21 5 14 15 [14,15],⟨none,.store 5 (.v 21) (.v 20),none,[20,21]⟩] [0,3,4])) (.rg [jm 12 4 [4],jn 13 (.binN .add (.v 12) (ci 1)) [12],jm 4 13 [13]] [0,3,4])))
/-- laws.toHandZoneS: function 10 -/
def Uf : SFun := { n := 23,res := [.t 2],body := (jq [jn 2 (.mv (.c (.sl 0 5 []))) [2]] [0] (jq [jm 5 0 [],jn 6 (.lenL (.v 5)) [5],⟨some 7,.mk 107 76 5 [.str ⟨#[]⟩,.int .i64 0,.int .i64 0,.int .i64 0,.int .i64 0] (.v 6),none,[6]⟩,jm 3 7 [7]] [0,3] (.seq (jq [jI 4 0 []] [0,3,4] (.block 0 (.loop XO))) (jq [jm 22 3 [3],jm 2 22 [22]] [2] (.gh (.frzE 2) .ret))))) }
theorem Qcp : QS Go.Proofs.Tryz.prog 10 Uf = true := by kernel_rfl
/-- laws.toHandBook: function 11 -/
def G9 : SFun := { n := 17,res := [.cN 2 3],body := (jq [jn 1 (.box 101 (.v 0)) [0],jn 2 (.alloc 102 [.sl 0 11 [],.sl 0 3 [],.sl 0 2 []]) []] [1,2] (jq [jn 3 (.alloc 103 [.sl 0 11 [],.sl 0 3 [],.sl 0 2 []]) []] [1,2,3] (jq [jf 4 0 1 [],jl 5 4 [4],jn 6 (.call 42 [.v 5]) [5],jf 7 0 3 [],⟨none,.store 1 (.v 7) (.v 6),none,[6,7]⟩] [1,2,3] (jq [jf 8 1 1 [],jl 9 8 [8],jn 10 (.call 43 [.v 9]) [9],jf 11 1 3 [],⟨none,.store 1 (.v 11) (.v 10),none,[10,11]⟩] [1,2,3] (jq [jf 12 2 1 [1],jl 13 12 [12],jn 14 (.call 44 [.v 13]) [13],jf 15 2 3 [],⟨none,.store 1 (.v 15) (.v 14),none,[14,15]⟩] [2,3] (jq [jL 16 3 3 [3],⟨none,.store 3 (.v 2) (.v 16),none,[16]⟩] [2] .ret)))))) }
theorem VG : QS Go.Proofs.Tryz.prog 11 G9 = true := by kernel_rfl
def XP : SCode := (.seq (jq [jm 11 5 [],jm 12 0 [],jn 13 (.lenL (.v 12)) [12],jb 14 .lss 11 13 [11,13]] [0,1,5,14] (.cond (.v 14) .skip (.exit 0))) (.seq (.block 1 (.seq (.rgd [jm 17 0 [],jm 18 5 [],ja 19 5 17 18 [],jL 20 5 19 [],jm 21 1 [],jm 22 5 [],ja 23 5 21 22 [],jL 24 5 23 [],jn 25 (.call 48 [.v 20,.v 24]) [],jn 26 (.not (.v 25)) []] [0,1,5,26] [none,none,none,none,none,none,none,none,none,none]) (.cond (.v 26) (jq [jn 4 (.mv (.c (.bool false))) []] [4] .ret) .skip))) (.rg [jm 15 5 [5],jn 16 (.binN .add (.v 15) (ci 1)) [15],jm 5 16 [16]] [0,1,5])))
/-- laws.eqHandZoneS: function 14 -/
def Ug : SFun := { n := 27,res := [.t 4],body := (jq [jn 4 (.mv (.c (.bool false))) [4]] [0,1] (.seq (jq [jm 6 0 [],jn 7 (.lenL (.v 6)) [6],jm 8 1 [],jn 9 (.lenL (.v 8)) [8],jb 10 .neq 7 9 [7,9]] [0,1,10] (.cond (.v 10) (jq [jn 4 (.mv (.c (.bool false))) []] [4] .ret) .skip)) (.seq (jq [jI 5 0 []] [0,1,5] (.block 0 (.loop XP))) (jq [jn 4 (.mv (.c (.bool true))) []] [4] .ret)))) }
theorem Qcq : QS Go.Proofs.Tryz.prog 14 Ug = true := by kernel_rfl
/-- laws.eqHandBook: function 15 -/
def Xa : SFun := { n := 23,res := [.t 4],body := (jq [jn 2 (.box 102 (.v 0)) [0],jn 3 (.box 103 (.v 1)) [1],jn 4 (.mv (.c (.bool false))) [4]] [2,3] (.seq (jq [jf 5 0 2 [],jl 6 5 [5],jf 7 0 3 [],jl 8 7 [7],jn 9 (.call 49 [.v 6,.v 8]) [6,8],jn 10 (.not (.v 9)) [9]] [2,3,10] (.cond (.v 10) (jq [jn 4 (.mv (.c (.bool false))) []] [4] .ret) .skip)) (.seq (jq [jf 11 1 2 [],jl 12 11 [11],jf 13 1 3 [],jl 14 13 [13],jn 15 (.call 50 [.v 12,.v 14]) [12,14],jn 16 (.not (.v 15)) [15]] [2,3,16] (.cond (.v 16) (jq [jn 4 (.mv (.c (.bool false))) []] [4] .ret) .skip)) (.seq (jq [jf 17 2 2 [2],jl 18 17 [17],jf 19 2 3 [3],jl 20 19 [19],jn 21 (.call 51 [.v 18,.v 20]) [18,20],jn 22 (.not (.v 21)) [21]] [22] (.cond (.v 22) (jq [jn 4 (.mv (.c (.bool false))) []] [4] .ret) .skip)) (jq [jn 4 (.mv (.c (.bool true))) []] [4] .ret))))) }
theorem VH : QS Go.Proofs.Tryz.prog 15 Xa = true := by kernel_rfl
def KV : SCode := (.seq (jq [jm 6 5 [],jm 7 0 [],jn 8 (.lenL (.v 7)) [7],jb 9 .lss 6 8 [6,8]] [0,1,5,9] (.cond (.v 9) .skip (.exit 0))) (.seq (.block 1 (jq [jm 12 0 [],jm 13 5 [],jm 14 1 [],jn 15 (.call 52 [.v 14]) [14],ja 16 5 12 13 [12,13],jf 17 0 16 [16],⟨none,.store 1 (.v 17) (.v 15),none,[15,17]⟩] [0,1,5] (jq [jm 18 1 [1],jn 19 (.binN .add (.v 18) (ci 1)) [18],jm 1 19 [19]] [0,1,5] (jq [jm 20 0 [],jm 21 5 [],jm 22 1 [],ja 23 5 20 21 [20,21],jf 24 1 23 [23],⟨none,.store 1 (.v 24) (.v 22),none,[22,24]⟩] [0,1,5] (jq [jm 25 1 [1],jn 26 (.binN .add (.v 25) (ci 1)) [25],jm 1 26 [26]] [0,1,5] (jq [jm 27 0 [],jm 28 5 [],jm 29 1 [],ja 30 5 27 28 [27,28],jf 31 2 30 [30],⟨none,.store 1 (.v 31) (.v 29),none,[29,31]⟩] [0,1,5] (jq [jm 32 1 [1],jn 33 (.binN .add (.v 32) (ci 1)) [32],jm 1 33 [33]] [0,1,5] (jq [jm 34 0 [],jm 35 5 [],jm 36 1 [],ja 37 5 34 35 [34,35],jf 38 3 37 [37],⟨none,.store 1 (.v 38) (.v 36),none,[36,38]⟩] [0,1,5] (jq [jm 39 1 [1],jn 40 (.binN .add (.v 39) (ci 1)) [39],jm 1 40 [40]] [0,1,5] (jq [jm 41 0 [],jm 42 5 [],jm 43 1 [],ja 44 5 41 42 [41,42],jf 45 4 44 [44],⟨none,.store 1 (.v 45) (.v 43),none,[43,45]⟩] [0,1,5] (.rg [jm 46 1 [1],jn 47 (.binN .add (.v 46) (ci 1)) [46],jm 1 47 [47]] [0,1,5]))))))))))) (.rg [jm 10 5 [5],jn 11 (.binN .add (.v 10) (ci 1)) [10],jm 5 11 [11]] [0,1,5])))
/-- laws.markHandZoneS: function 16 -/
def XQ : SFun := { n := 49,res := [.t 4],body := (jq [jI 4 0 [4]] [0,1] (.seq (jq [jI 5 0 []] [0,1,5] (.block 0 (.loop KV))) (jq [jm 48 1 [1],jm 4 48 [48]] [4] .ret))) }
theorem Qbl : QS Go.Proofs.Tryz.prog 16 XQ = true := by kernel_rfl
/-- laws.markHandBook: function 17 -/
def YR : SFun := { n := 18,res := [.t 4],body := (jq [jn 2 (.box 102 (.v 0)) [0],jI 4 0 [4]] [1,2] (jq [jf 5 0 2 [],jl 6 5 [5],jm 7 1 [1],jn 8 (.call 53 [.v 6,.v 7]) [6,7],jm 1 8 [8]] [1,2] (jq [jf 9 1 2 [],jl 10 9 [9],jm 11 1 [1],jn 12 (.call 54 [.v 10,.v 11]) [10,11],jm 1 12 [12]] [1,2] (jq [jf 13 2 2 [2],jl 14 13 [13],jm 15 1 [1],jn 16 (.call 55 [.v 14,.v 15]) [14,15],jm 1 16 [16]] [1] (jq [jm 17 1 [1],jm 4 17 [17]] [4] .ret))))) }
theorem Zo : QS Go.Proofs.Tryz.prog 17 YR = true := by kernel_rfl
/-- laws.heldHandBook: function 22 -/
def YS : SFun := { n := 24,res := [.t 4],body := (jq [jn 2 (.box 102 (.v 0)) [0],jI 4 0 [4]] [1,2] (jq [jf 5 0 2 [],jl 6 5 [5],jm 7 1 [1],jn 8 (.call 62 [.v 6,.v 7]) [6,7],jm 1 8 [8]] [1,2] (.seq (jq [jm 9 1 [],jc 10 .lss 9 0 [9]] [1,2,10] (.cond (.v 10) (jq [jn 4 (.mv (.c (.int .i64 (-1)))) []] [4] .ret) .skip)) (jq [jf 11 1 2 [],jl 12 11 [11],jm 13 1 [1],jn 14 (.call 63 [.v 12,.v 13]) [12,13],jm 1 14 [14]] [1,2] (.seq (jq [jm 15 1 [],jc 16 .lss 15 0 [15]] [1,2,16] (.cond (.v 16) (jq [jn 4 (.mv (.c (.int .i64 (-1)))) []] [4] .ret) .skip)) (jq [jf 17 2 2 [2],jl 18 17 [17],jm 19 1 [1],jn 20 (.call 64 [.v 18,.v 19]) [18,19],jm 1 20 [20]] [1] (.seq (jq [jm 21 1 [],jc 22 .lss 21 0 [21]] [1,22] (.cond (.v 22) (jq [jn 4 (.mv (.c (.int .i64 (-1)))) []] [4] .ret) .skip)) (jq [jm 23 1 [1],jm 4 23 [23]] [4] .ret)))))))) }
theorem Zp : QS Go.Proofs.Tryz.prog 22 YS = true := by kernel_rfl
/-- laws.szHandBoxS: function 23 -/
def VI : SFun := { n := 12,res := [.t 4],body := (jq [jI 4 0 [4]] [0,1] (jq [jm 5 1 [1],jm 6 0 [0],jn 7 (.lenL (.v 6)) [6],jn 8 (.binN .sub (.v 5) (.v 7)) [5,7],jm 1 8 [8]] [1] (.seq (jq [jm 9 1 [],jc 10 .lss 9 0 [9]] [1,10] (.cond (.v 10) (jq [jn 4 (.mv (.c (.int .i64 (-1)))) []] [4] .ret) .skip)) (jq [jm 11 1 [1],jm 4 11 [11]] [4] .ret)))) }
theorem Qea : QS Go.Proofs.Tryz.prog 23 VI = true := by kernel_rfl
def Zq : SCode := (.seq (jq [jm 8 4 [],jm 9 0 [],jn 10 (.lenL (.v 9)) [9],jb 11 .lss 8 10 [8,10]] [0,3,4,11] (.cond (.v 11) .skip (.exit 0))) (.seq (.block 1 (.rg [jm 14 3 [],jm 15 4 [],jm 16 0 [],jm 17 4 [],ja 18 6 16 17 [16,17],jL 19 6 18 [18],jn 20 (.call 67 [.v 19]) [19],ja 21 6 14 15 [14,15],⟨none,.store 6 (.v 21) (.v 20),none,[20,21]⟩] [0,3,4])) (.rg [jm 12 4 [4],jn 13 (.binN .add (.v 12) (ci 1)) [12],jm 4 13 [13]] [0,3,4])))
/-- laws.toHandBoxS: function 25 -/
def VJ : SFun := { n := 23,res := [.t 2],body := (jq [jn 2 (.mv (.c (.sl 0 6 []))) [2]] [0] (jq [jm 5 0 [],jn 6 (.lenL (.v 5)) [5],jn 7 (.mk 107 100 6 [.int .i64 0,.int .i64 0,.int .i64 0,.int .i64 0,.int .i64 0,.int .i64 0] (.v 6)) [6],jm 3 7 [7]] [0,3] (.seq (jq [jI 4 0 []] [0,3,4] (.block 0 (.loop Zq))) (jq [jm 22 3 [3],jm 2 22 [22]] [2] (.gh (.frzE 2) .ret))))) }
theorem Qeb : QS Go.Proofs.Tryz.prog 25 VJ = true := by kernel_rfl
def Zr : SCode := (.seq (jq [jm 11 5 [],jm 12 0 [],jn 13 (.lenL (.v 12)) [12],jb 14 .lss 11 13 [11,13]] [0,1,5,14] (.cond (.v 14) .skip (.exit 0))) (.seq (.block 1 (.seq (.rgd [jm 17 0 [],jm 18 5 [],ja 19 6 17 18 [],jL 20 6 19 [],jm 21 1 [],jm 22 5 [],ja 23 6 21 22 [],jL 24 6 23 [],jn 25 (.call 69 [.v 20,.v 24]) [],jn 26 (.not (.v 25)) []] [0,1,5,26] [none,none,none,none,none,none,none,none,none,none]) (.cond (.v 26) (jq [jn 4 (.mv (.c (.bool false))) []] [4] .ret) .skip))) (.rg [jm 15 5 [5],jn 16 (.binN .add (.v 15) (ci 1)) [15],jm 5 16 [16]] [0,1,5])))
/-- laws.eqHandBoxS: function 27 -/
def VK : SFun := { n := 27,res := [.t 4],body := (jq [jn 4 (.mv (.c (.bool false))) [4]] [0,1] (.seq (jq [jm 6 0 [],jn 7 (.lenL (.v 6)) [6],jm 8 1 [],jn 9 (.lenL (.v 8)) [8],jb 10 .neq 7 9 [7,9]] [0,1,10] (.cond (.v 10) (jq [jn 4 (.mv (.c (.bool false))) []] [4] .ret) .skip)) (.seq (jq [jI 5 0 []] [0,1,5] (.block 0 (.loop Zr))) (jq [jn 4 (.mv (.c (.bool true))) []] [4] .ret)))) }
theorem Qec : QS Go.Proofs.Tryz.prog 27 VK = true := by kernel_rfl
def Yd : SCode := (.seq (jq [jm 6 5 [],jm 7 0 [],jn 8 (.lenL (.v 7)) [7],jb 9 .lss 6 8 [6,8]] [0,1,5,9] (.cond (.v 9) .skip (.exit 0))) (.seq (.block 1 (jq [jm 12 0 [],jm 13 5 [],jm 14 1 [],ja 15 6 12 13 [12,13],jf 16 0 15 [15],⟨none,.store 1 (.v 16) (.v 14),none,[14,16]⟩] [0,1,5] (jq [jm 17 1 [1],jn 18 (.binN .add (.v 17) (ci 1)) [17],jm 1 18 [18]] [0,1,5] (jq [jm 19 0 [],jm 20 5 [],jm 21 1 [],ja 22 6 19 20 [19,20],jf 23 1 22 [22],⟨none,.store 1 (.v 23) (.v 21),none,[21,23]⟩] [0,1,5] (jq [jm 24 1 [1],jn 25 (.binN .add (.v 24) (ci 1)) [24],jm 1 25 [25]] [0,1,5] (jq [jm 26 0 [],jm 27 5 [],jm 28 1 [],ja 29 6 26 27 [26,27],jf 30 2 29 [29],⟨none,.store 1 (.v 30) (.v 28),none,[28,30]⟩] [0,1,5] (jq [jm 31 1 [1],jn 32 (.binN .add (.v 31) (ci 1)) [31],jm 1 32 [32]] [0,1,5] (jq [jm 33 0 [],jm 34 5 [],jm 35 1 [],ja 36 6 33 34 [33,34],jf 37 3 36 [36],⟨none,.store 1 (.v 37) (.v 35),none,[35,37]⟩] [0,1,5] (jq [jm 38 1 [1],jn 39 (.binN .add (.v 38) (ci 1)) [38],jm 1 39 [39]] [0,1,5] (jq [jm 40 0 [],jm 41 5 [],jm 42 1 [],ja 43 6 40 41 [40,41],jf 44 4 43 [43],⟨none,.store 1 (.v 44) (.v 42),none,[42,44]⟩] [0,1,5] (jq [jm 45 1 [1],jn 46 (.binN .add (.v 45) (ci 1)) [45],jm 1 46 [46]] [0,1,5] (jq [jm 47 0 [],jm 48 5 [],jm 49 1 [],ja 50 6 47 48 [47,48],jf 51 5 50 [50],⟨none,.store 1 (.v 51) (.v 49),none,[49,51]⟩] [0,1,5] (.rg [jm 52 1 [1],jn 53 (.binN .add (.v 52) (ci 1)) [52],jm 1 53 [53]] [0,1,5]))))))))))))) (.rg [jm 10 5 [5],jn 11 (.binN .add (.v 10) (ci 1)) [10],jm 5 11 [11]] [0,1,5])))
/-- laws.markHandBoxS: function 28 -/
def Zs : SFun := { n := 55,res := [.t 4],body := (jq [jI 4 0 [4]] [0,1] (.seq (jq [jI 5 0 []] [0,1,5] (.block 0 (.loop Yd))) (jq [jm 54 1 [1],jm 4 54 [54]] [4] .ret))) }
theorem QbS : QS Go.Proofs.Tryz.prog 28 Zs = true := by kernel_rfl
/-- spec.HandEnter: function 29 -/
def Wz : SFun := { n := 35,res := [.cN 6 3,.t 7],body := (jq [jn 4 (.box 104 (.v 1)) [1],jn 6 (.alloc 106 [.sl 0 11 [],.sl 0 3 [],.sl 0 2 []]) [],jI 7 0 [7]] [0,2,4,6] (.seq (jq [jm 9 0 [0],jL 10 3 4 [],jn 11 (.call 35 [.v 9,.v 10]) [9,10],jn 12 (.not (.v 11)) [11]] [2,4,6,12] (.cond (.v 12) (jq [jn 13 (.build [.sl 0 11 [],.sl 0 3 [],.sl 0 2 []] []) [],⟨none,.store 3 (.v 6) (.v 13),none,[13]⟩,jI 7 1 []] [6,7] .ret) .skip)) (jq [jL 14 3 4 [],jn 15 (.call 57 [.v 14]) [14],jn 8 (.alloc 108 [.sl 0 11 [],.sl 0 3 [],.sl 0 2 []]) [],⟨none,.store 3 (.v 8) (.v 15),none,[15]⟩] [2,4,6,8] (.seq (jq [jm 16 2 [],jn 17 (.call 70 [.v 16]) [16],jn 18 (.not (.v 17)) [17]] [2,4,6,8,18] (.cond (.v 18) (jq [jL 19 3 8 [8],⟨none,.store 3 (.v 6) (.v 19),none,[19]⟩,jI 7 2 []] [6,7] .ret) .skip)) (.seq (jq [jL 20 3 4 [],jm 21 2 [],jn 22 (.call 58 [.v 20,.v 21]) [20,21],jc 23 .geq 22 0 [22]] [2,4,6,8,23] (.cond (.v 23) (jq [jL 24 3 8 [8],⟨none,.store 3 (.v 6) (.v 24),none,[24]⟩,jI 7 3 []] [6,7] .ret) .skip)) (.seq (jq [jf 25 0 4 [4],jl 26 25 [25],jn 27 (.lenL (.v 26)) [26],jc 28 .geq 27 6 [27]] [2,6,8,28] (.cond (.v 28) (jq [jL 29 3 8 [8],⟨none,.store 3 (.v 6) (.v 29),none,[29]⟩,jI 7 4 []] [6,7] .ret) .skip)) (jq [jL 30 3 8 [8],jm 31 2 [2],jn 32 (.build [.str ⟨#[]⟩,.int .i64 0,.int .i64 0,.str ⟨#[]⟩,.int .i64 0,.int .i64 0,.sl 0 6 [],.int .i64 0,.sl 0 6 [],.sl 0 1 [],.bool false] [(0,1,.v 31),(1,1,.c (.int .i64 1)),(2,1,.c (.int .i64 1))]) [31],jn 33 (.call 71 [.v 30,.v 32]) [30,32],jn 34 (.call 57 [.v 33]) [33],⟨none,.store 3 (.v 6) (.v 34),none,[34]⟩,jI 7 0 []] [6,7] .ret))))))) }
theorem Qe7 : QS Go.Proofs.Tryz.prog 29 Wz = true := by kernel_rfl
/-- laws.szHandZone: function 31 -/
def VL : SFun := { n := 13,res := [.t 4],body := (jq [jn 2 (.box 102 (.v 0)) [0],jI 4 0 [4]] [1,2] (jq [jm 5 1 [1],jf 6 0 2 [2],jl 7 6 [6],jn 8 (.lenS (.v 7)) [7],jn 9 (.binN .sub (.v 5) (.v 8)) [5,8],jm 1 9 [9]] [1] (.seq (jq [jm 10 1 [],jc 11 .lss 10 0 [10]] [1,11] (.cond (.v 11) (jq [jn 4 (.mv (.c (.int .i64 (-1)))) []] [4] .ret) .skip)) (jq [jm 12 1 [1],jm 4 12 [12]] [4] .ret)))) }
theorem Qed : QS Go.Proofs.Tryz.prog 31 VL = true := by kernel_rfl
def Zt : SCode := (.seq (jq [jm 12 5 [],jm 13 0 [],jn 14 (.lenL (.v 13)) [13],jb 15 .lss 12 14 [12,14]] [0,1,5,15] (.cond (.v 15) .skip (.exit 0))) (.seq (.block 1 (jq [jm 18 0 [],jm 19 5 [],ja 20 11 18 19 [18,19],jL 21 11 20 [20],jm 22 1 [1],jn 23 (.call 74 [.v 21,.v 22]) [21,22],jm 1 23 [23]] [0,1,5] (jq [jm 24 1 [],jc 25 .lss 24 0 [24]] [0,1,5,25] (.cond (.v 25) (jq [jn 4 (.mv (.c (.int .i64 (-1)))) []] [4] .ret) .skip)))) (.rg [jm 16 5 [5],jn 17 (.binN .add (.v 16) (ci 1)) [16],jm 5 17 [17]] [0,1,5])))
/-- laws.szHandOwnS: function 32 -/
def VM : SFun := { n := 27,res := [.t 4],body := (jq [jI 4 0 [4]] [0,1] (jq [jm 6 1 [1],jm 7 0 [],jn 8 (.lenL (.v 7)) [7],jn 9 (.binN .sub (.v 6) (.v 8)) [6,8],jm 1 9 [9]] [0,1] (.seq (jq [jm 10 1 [],jc 11 .lss 10 0 [10]] [0,1,11] (.cond (.v 11) (jq [jn 4 (.mv (.c (.int .i64 (-1)))) []] [4] .ret) .skip)) (.seq (jq [jI 5 0 []] [0,1,5] (.block 0 (.loop Zt))) (jq [jm 26 1 [1],jm 4 26 [26]] [4] .ret))))) }
theorem Qee : QS Go.Proofs.Tryz.prog 32 VM = true := by kernel_rfl
end Go.Ve

namespace Go.Ve
open Go.Proofs
set_option maxRecDepth 100000
def XR : SCode := (.seq (jq [jm 12 5 [],jm 13 0 [],jn 14 (.lenL (.v 13)) [13],jb 15 .lss 12 14 [12,14]] [0,1,5,15] (.cond (.v 15) .skip (.exit 0))) (.seq (.block 1 (jq [jm 18 0 [],jm 19 5 [],ja 20 3 18 19 [18,19],jL 21 3 20 [20],jm 22 1 [1],jn 23 (.call 75 [.v 21,.v 22]) [21,22],jm 1 23 [23]] [0,1,5] (jq [jm 24 1 [],jc 25 .lss 24 0 [24]] [0,1,5,25] (.cond (.v 25) (jq [jn 4 (.mv (.c (.int .i64 (-1)))) []] [4] .ret) .skip)))) (.rg [jm 16 5 [5],jn 17 (.binN .add (.v 16) (ci 1)) [16],jm 5 17 [17]] [0,1,5])))
/-- laws.szHandPartS: function 33 -/
def Uh : SFun := { n := 27,res := [.t 4],body := (jq [jI 4 0 [4]] [0,1] (jq [jm 6 1 [1],jm 7 0 [],jn 8 (.lenL (.v 7)) [7],jn 9 (.binN .sub (.v 6) (.v 8)) [6,8],jm 1 9 [9]] [0,1] (.seq (jq [jm 10 1 [],jc 11 .lss 10 0 [10]] [0,1,11] (.cond (.v 11) (jq [jn 4 (.mv (.c (.int .i64 (-1)))) []] [4] .ret) .skip)) (.seq (jq [jI 5 0 []] [0,1,5] (.block 0 (.loop XR))) (jq [jm 26 1 [1],jm 4 26 [26]] [4] .ret))))) }
theorem Qcr : QS Go.Proofs.Tryz.prog 33 Uh = true := by kernel_rfl
def XS : SCode := (.seq (jq [jm 12 5 [],jm 13 0 [],jn 14 (.lenL (.v 13)) [13],jb 15 .lss 12 14 [12,14]] [0,1,5,15] (.cond (.v 15) .skip (.exit 0))) (.seq (.block 1 (jq [jm 18 0 [],jm 19 5 [],ja 20 2 18 19 [18,19],jL 21 2 20 [20],jm 22 1 [1],jn 23 (.call 76 [.v 21,.v 22]) [21,22],jm 1 23 [23]] [0,1,5] (jq [jm 24 1 [],jc 25 .lss 24 0 [24]] [0,1,5,25] (.cond (.v 25) (jq [jn 4 (.mv (.c (.int .i64 (-1)))) []] [4] .ret) .skip)))) (.rg [jm 16 5 [5],jn 17 (.binN .add (.v 16) (ci 1)) [16],jm 5 17 [17]] [0,1,5])))
/-- laws.szHandSeenS: function 34 -/
def Ui : SFun := { n := 27,res := [.t 4],body := (jq [jI 4 0 [4]] [0,1] (jq [jm 6 1 [1],jm 7 0 [],jn 8 (.lenL (.v 7)) [7],jn 9 (.binN .sub (.v 6) (.v 8)) [6,8],jm 1 9 [9]] [0,1] (.seq (jq [jm 10 1 [],jc 11 .lss 10 0 [10]] [0,1,11] (.cond (.v 11) (jq [jn 4 (.mv (.c (.int .i64 (-1)))) []] [4] .ret) .skip)) (.seq (jq [jI 5 0 []] [0,1,5] (.block 0 (.loop XS))) (jq [jm 26 1 [1],jm 4 26 [26]] [4] .ret))))) }
theorem Qcs : QS Go.Proofs.Tryz.prog 34 Ui = true := by kernel_rfl
def Zu : SCode := (.seq (jq [jm 27 5 [],jf 28 2 3 [],jl 29 28 [28],jn 30 (.lenL (.v 29)) [29],jb 31 .lss 27 30 [27,30]] [3,5,31] (.cond (.v 31) .skip (.exit 0))) (.seq (.block 1 (.seq (.rgd [jf 34 2 3 [],jl 35 34 [],jm 36 5 [],ja 37 2 35 36 [],jf 38 0 37 [],jl 39 38 [],jn 40 (.call 70 [.v 39]) [],jn 41 (.not (.v 40)) [],jm 42 41 [],jh 43 42 (.faddr 2 (.v 3)) [],jh 44 42 (.load1 (.v 43)) [],jM 45 42 5 [],jh 46 42 (.iaddr 2 (.v 44) (.v 45)) [],jh 47 42 (.faddr 1 (.v 46)) [],jh 48 42 (.load1 (.v 47)) [],jh 49 42 (.call 80 [.v 48,.c (.int .i64 1),.c (.int .i64 1000000)]) [],jh 50 42 (.not (.v 49)) [],jp 51 42 50 [],jm 52 51 [],jM 53 52 5 [],jh 54 52 (.bin .gtr (.v 53) (ci 0)) [],jM 55 52 54 [],jt 56 55 (.faddr 2 (.v 3)) [],jt 57 55 (.load1 (.v 56)) [],jt 58 55 (.mv (.v 5)) [],jt 59 55 (.binN .sub (.v 58) (ci 1)) [],jt 60 55 (.iaddr 2 (.v 57) (.v 59)) [],jt 61 55 (.faddr 0 (.v 60)) [],jt 62 55 (.load1 (.v 61)) [],jt 63 55 (.faddr 2 (.v 3)) [],jt 64 55 (.load1 (.v 63)) [],jt 65 55 (.mv (.v 5)) [],jt 66 55 (.iaddr 2 (.v 64) (.v 65)) [],jt 67 55 (.faddr 0 (.v 66)) [],jt 68 55 (.load1 (.v 67)) [],jt 69 55 (.bin .geq (.v 62) (.v 68)) [],jh 70 52 (.pick (.v 55) (.v 69) (.c (.bool false))) [],jp 71 52 70 []] [3,5,71] [none,none,none,none,none,none,none,none,none,none,none,none,none,none,none,none,none,none,none,none,none,none,none,none,none,none,none,none,none,none,none,none,none,none,none,none,none,none]) (.cond (.v 71) (jq [jn 4 (.mv (.c (.bool false))) []] [4] .ret) .skip))) (.rg [jm 32 5 [5],jn 33 (.binN .add (.v 32) (ci 1)) [32],jm 5 33 [33]] [3,5])))
/-- spec.HandBookOk: function 35 -/
def VN : SFun := { n := 72,res := [.t 4],body := (jq [jn 3 (.box 103 (.v 1)) [1],jn 4 (.mv (.c (.bool false))) [4]] [0,3] (.seq (jq [jm 6 0 [],jn 7 (.call 77 [.v 6]) [6],jn 8 (.not (.v 7)) [7],jm 9 8 [8],jM 10 9 0 [],jh 11 9 (.loadN 3 (.v 3)) [],jh 12 9 (.call 78 [.v 10,.v 11]) [10,11],jh 13 9 (.not (.v 12)) [12],jp 14 9 13 [9,13],jm 15 14 [14],jM 16 15 0 [0],jh 17 15 (.loadN 3 (.v 3)) [],jh 18 15 (.call 79 [.v 16,.v 17]) [16,17],jh 19 15 (.not (.v 18)) [18],jp 20 15 19 [15,19],jm 21 20 [20],jh 22 21 (.faddr 2 (.v 3)) [],jh 23 21 (.load1 (.v 22)) [22],jh 24 21 (.lenL (.v 23)) [23],jh 25 21 (.bin .gtr (.v 24) (ci 6)) [24],jp 26 21 25 [21,25]] [3,26] (.cond (.v 26) (jq [jn 4 (.mv (.c (.bool false))) []] [4] .ret) .skip)) (.seq (jq [jI 5 0 []] [3,5] (.block 0 (.loop Zu))) (jq [jn 4 (.mv (.c (.bool true))) []] [4] .ret)))) }
theorem Qef : QS Go.Proofs.Tryz.prog 35 VN = true := by kernel_rfl
def WA : SCode := (.seq (jq [jm 6 5 [],jm 7 0 [],jn 8 (.lenL (.v 7)) [7],jb 9 .lss 6 8 [6,8]] [0,1,5,9] (.cond (.v 9) .skip (.exit 0))) (.seq (.block 1 (jq [jm 12 0 [],jm 13 5 [],ja 14 5 12 13 [12,13],jf 15 0 14 [14],jl 16 15 [15],jm 17 1 [],jb 18 .eql 16 17 [16,17]] [0,1,5,18] (.cond (.v 18) (jq [jm 19 5 [5],jm 4 19 [19]] [4] .ret) .skip))) (.rg [jm 10 5 [5],jn 11 (.binN .add (.v 10) (ci 1)) [10],jm 5 11 [11]] [0,1,5])))
/-- spec.l32Zone: function 36 -/
def Qbv : SFun := { n := 20,res := [.t 4],body := (jq [jI 4 0 [4]] [0,1] (.seq (jq [jI 5 0 []] [0,1,5] (.block 0 (.loop WA))) (jq [jn 4 (.mv (.c (.int .i64 (-1)))) []] [4] .ret))) }
theorem Qhm : QS Go.Proofs.Tryz.prog 36 Qbv = true := by kernel_rfl
/-- laws.toHandZone: function 41 -/
def VO : SFun := { n := 20,res := [.cN 2 5],body := (jq [jn 1 (.box 101 (.v 0)) [0],jn 2 (.alloc 102 [.str ⟨#[]⟩,.int .i64 0,.int .i64 0,.int .i64 0,.int .i64 0]) []] [1,2] (jq [jn 3 (.alloc 103 [.str ⟨#[]⟩,.int .i64 0,.int .i64 0,.int .i64 0,.int .i64 0]) []] [1,2,3] (jq [jf 4 0 1 [],jl 5 4 [4],jf 6 0 3 [],⟨none,.store 1 (.v 6) (.v 5),none,[5,6]⟩] [1,2,3] (jq [jf 7 1 1 [],jl 8 7 [7],jf 9 1 3 [],⟨none,.store 1 (.v 9) (.v 8),none,[8,9]⟩] [1,2,3] (jq [jf 10 2 1 [],jl 11 10 [10],jf 12 2 3 [],⟨none,.store 1 (.v 12) (.v 11),none,[11,12]⟩] [1,2,3] (jq [jf 13 3 1 [],jl 14 13 [13],jf 15 3 3 [],⟨none,.store 1 (.v 15) (.v 14),none,[14,15]⟩] [1,2,3] (jq [jf 16 4 1 [1],jl 17 16 [16],jf 18 4 3 [],⟨none,.store 1 (.v 18) (.v 17),none,[17,18]⟩] [2,3] (jq [jL 19 5 3 [3],⟨none,.store 5 (.v 2) (.v 19),none,[19]⟩] [2] .ret)))))))) }
theorem Qeg : QS Go.Proofs.Tryz.prog 41 VO = true := by kernel_rfl
def Zv : SCode := (.seq (jq [jm 8 4 [],jm 9 0 [],jn 10 (.lenL (.v 9)) [9],jb 11 .lss 8 10 [8,10]] [0,3,4,11] (.cond (.v 11) .skip (.exit 0))) (.seq (.block 1 (.rg [jm 14 3 [],jm 15 4 [],jm 16 0 [],jm 17 4 [],ja 18 11 16 17 [16,17],jL 19 11 18 [18],jn 20 (.call 83 [.v 19]) [19],ja 21 11 14 15 [14,15],⟨none,.store 11 (.v 21) (.v 20),none,[20,21]⟩] [0,3,4])) (.rg [jm 12 4 [4],jn 13 (.binN .add (.v 12) (ci 1)) [12],jm 4 13 [13]] [0,3,4])))
/-- laws.toHandOwnS: function 42 -/
def VP : SFun := { n := 23,res := [.t 2],body := (jq [jn 2 (.mv (.c (.sl 0 11 []))) [2]] [0] (jq [jm 5 0 [],jn 6 (.lenL (.v 5)) [5],⟨some 7,.mk 107 71 11 [.str ⟨#[]⟩,.int .i64 0,.int .i64 0,.str ⟨#[]⟩,.int .i64 0,.int .i64 0,.sl 0 6 [],.int .i64 0,.sl 0 6 [],.sl 0 1 [],.bool false] (.v 6),none,[6]⟩,jm 3 7 [7]] [0,3] (.seq (jq [jI 4 0 []] [0,3,4] (.block 0 (.loop Zv))) (jq [jm 22 3 [3],jm 2 22 [22]] [2] (.gh (.frzE 2) .ret))))) }
theorem Qeh : QS Go.Proofs.Tryz.prog 42 VP = true := by kernel_rfl
def XU : SCode := (.seq (jq [jm 8 4 [],jm 9 0 [],jn 10 (.lenL (.v 9)) [9],jb 11 .lss 8 10 [8,10]] [0,3,4,11] (.cond (.v 11) .skip (.exit 0))) (.seq (.block 1 (.rg [jm 14 3 [],jm 15 4 [],jm 16 0 [],jm 17 4 [],ja 18 3 16 17 [16,17],jL 19 3 18 [18],jn 20 (.call 84 [.v 19]) [19],ja 21 3 14 15 [14,15],⟨none,.store 3 (.v 21) (.v 20),none,[20,21]⟩] [0,3,4])) (.rg [jm 12 4 [4],jn 13 (.binN .add (.v 12) (ci 1)) [12],jm 4 13 [13]] [0,3,4])))
/-- laws.toHandPartS: function 43 -/
def Uj : SFun := { n := 23,res := [.t 2],body := (jq [jn 2 (.mv (.c (.sl 0 3 []))) [2]] [0] (jq [jm 5 0 [],jn 6 (.lenL (.v 5)) [5],⟨some 7,.mk 107 124 3 [.str ⟨#[]⟩,.int .i64 0,.sl 0 6 []] (.v 6),none,[6]⟩,jm 3 7 [7]] [0,3] (.seq (jq [jI 4 0 []] [0,3,4] (.block 0 (.loop XU))) (jq [jm 22 3 [3],jm 2 22 [22]] [2] (.gh (.frzE 2) .ret))))) }
theorem Qct : QS Go.Proofs.Tryz.prog 43 Uj = true := by kernel_rfl
def XV : SCode := (.seq (jq [jm 8 4 [],jm 9 0 [],jn 10 (.lenL (.v 9)) [9],jb 11 .lss 8 10 [8,10]] [0,3,4,11] (.cond (.v 11) .skip (.exit 0))) (.seq (.block 1 (.rg [jm 14 3 [],jm 15 4 [],jm 16 0 [],jm 17 4 [],ja 18 2 16 17 [16,17],jL 19 2 18 [18],jn 20 (.call 85 [.v 19]) [19],ja 21 2 14 15 [14,15],⟨none,.store 2 (.v 21) (.v 20),none,[20,21]⟩] [0,3,4])) (.rg [jm 12 4 [4],jn 13 (.binN .add (.v 12) (ci 1)) [12],jm 4 13 [13]] [0,3,4])))
/-- laws.toHandSeenS: function 44 -/
def Uk : SFun := { n := 23,res := [.t 2],body := (jq [jn 2 (.mv (.c (.sl 0 2 []))) [2]] [0] (jq [jm 5 0 [],jn 6 (.lenL (.v 5)) [5],⟨some 7,.mk 107 118 2 [.str ⟨#[]⟩,.int .i64 0] (.v 6),none,[6]⟩,jm 3 7 [7]] [0,3] (.seq (jq [jI 4 0 []] [0,3,4] (.block 0 (.loop XV))) (jq [jm 22 3 [3],jm 2 22 [22]] [2] (.gh (.frzE 2) .ret))))) }
theorem Qcu : QS Go.Proofs.Tryz.prog 44 Uk = true := by kernel_rfl
/-- laws.eqHandZone: function 48 -/
def VQ : SFun := { n := 30,res := [.t 4],body := (jq [jn 2 (.box 102 (.v 0)) [0],jn 3 (.box 103 (.v 1)) [1],jn 4 (.mv (.c (.bool false))) [4]] [2,3] (.seq (jq [jf 5 0 2 [],jl 6 5 [5],jf 7 0 3 [],jl 8 7 [7],jb 9 .neq 6 8 [6,8]] [2,3,9] (.cond (.v 9) (jq [jn 4 (.mv (.c (.bool false))) []] [4] .ret) .skip)) (.seq (jq [jf 10 1 2 [],jl 11 10 [10],jf 12 1 3 [],jl 13 12 [12],jb 14 .neq 11 13 [11,13]] [2,3,14] (.cond (.v 14) (jq [jn 4 (.mv (.c (.bool false))) []] [4] .ret) .skip)) (.seq (jq [jf 15 2 2 [],jl 16 15 [15],jf 17 2 3 [],jl 18 17 [17],jb 19 .neq 16 18 [16,18]] [2,3,19] (.cond (.v 19) (jq [jn 4 (.mv (.c (.bool false))) []] [4] .ret) .skip)) (.seq (jq [jf 20 3 2 [],jl 21 20 [20],jf 22 3 3 [],jl 23 22 [22],jb 24 .neq 21 23 [21,23]] [2,3,24] (.cond (.v 24) (jq [jn 4 (.mv (.c (.bool false))) []] [4] .ret) .skip)) (.seq (jq [jf 25 4 2 [2],jl 26 25 [25],jf 27 4 3 [3],jl 28 27 [27],jb 29 .neq 26 28 [26,28]] [29] (.cond (.v 29) (jq [jn 4 (.mv (.c (.bool false))) []] [4] .ret) .skip)) (jq [jn 4 (.mv (.c (.bool true))) []] [4] .ret))))))) }
theorem Qei : QS Go.Proofs.Tryz.prog 48 VQ = true := by kernel_rfl
def Zw : SCode := (.seq (jq [jm 11 5 [],jm 12 0 [],jn 13 (.lenL (.v 12)) [12],jb 14 .lss 11 13 [11,13]] [0,1,5,14] (.cond (.v 14) .skip (.exit 0))) (.seq (.block 1 (.seq (.rgd [jm 17 0 [],jm 18 5 [],ja 19 11 17 18 [],jL 20 11 19 [],jm 21 1 [],jm 22 5 [],ja 23 11 21 22 [],jL 24 11 23 [],jn 25 (.call 91 [.v 20,.v 24]) [],jn 26 (.not (.v 25)) []] [0,1,5,26] [none,none,none,none,none,none,none,none,none,none]) (.cond (.v 26) (jq [jn 4 (.mv (.c (.bool false))) []] [4] .ret) .skip))) (.rg [jm 15 5 [5],jn 16 (.binN .add (.v 15) (ci 1)) [15],jm 5 16 [16]] [0,1,5])))
/-- laws.eqHandOwnS: function 49 -/
def VR : SFun := { n := 27,res := [.t 4],body := (jq [jn 4 (.mv (.c (.bool false))) [4]] [0,1] (.seq (jq [jm 6 0 [],jn 7 (.lenL (.v 6)) [6],jm 8 1 [],jn 9 (.lenL (.v 8)) [8],jb 10 .neq 7 9 [7,9]] [0,1,10] (.cond (.v 10) (jq [jn 4 (.mv (.c (.bool false))) []] [4] .ret) .skip)) (.seq (jq [jI 5 0 []] [0,1,5] (.block 0 (.loop Zw))) (jq [jn 4 (.mv (.c (.bool true))) []] [4] .ret)))) }
theorem Qej : QS Go.Proofs.Tryz.prog 49 VR = true := by kernel_rfl
def XW : SCode := (.seq (jq [jm 11 5 [],jm 12 0 [],jn 13 (.lenL (.v 12)) [12],jb 14 .lss 11 13 [11,13]] [0,1,5,14] (.cond (.v 14) .skip (.exit 0))) (.seq (.block 1 (.seq (.rgd [jm 17 0 [],jm 18 5 [],ja 19 3 17 18 [],jL 20 3 19 [],jm 21 1 [],jm 22 5 [],ja 23 3 21 22 [],jL 24 3 23 [],jn 25 (.call 92 [.v 20,.v 24]) [],jn 26 (.not (.v 25)) []] [0,1,5,26] [none,none,none,none,none,none,none,none,none,none]) (.cond (.v 26) (jq [jn 4 (.mv (.c (.bool false))) []] [4] .ret) .skip))) (.rg [jm 15 5 [5],jn 16 (.binN .add (.v 15) (ci 1)) [15],jm 5 16 [16]] [0,1,5])))
/-- laws.eqHandPartS: function 50 -/
def Ul : SFun := { n := 27,res := [.t 4],body := (jq [jn 4 (.mv (.c (.bool false))) [4]] [0,1] (.seq (jq [jm 6 0 [],jn 7 (.lenL (.v 6)) [6],jm 8 1 [],jn 9 (.lenL (.v 8)) [8],jb 10 .neq 7 9 [7,9]] [0,1,10] (.cond (.v 10) (jq [jn 4 (.mv (.c (.bool false))) []] [4] .ret) .skip)) (.seq (jq [jI 5 0 []] [0,1,5] (.block 0 (.loop XW))) (jq [jn 4 (.mv (.c (.bool true))) []] [4] .ret)))) }
theorem Qcv : QS Go.Proofs.Tryz.prog 50 Ul = true := by kernel_rfl
def XX : SCode := (.seq (jq [jm 11 5 [],jm 12 0 [],jn 13 (.lenL (.v 12)) [12],jb 14 .lss 11 13 [11,13]] [0,1,5,14] (.cond (.v 14) .skip (.exit 0))) (.seq (.block 1 (.seq (.rgd [jm 17 0 [],jm 18 5 [],ja 19 2 17 18 [],jL 20 2 19 [],jm 21 1 [],jm 22 5 [],ja 23 2 21 22 [],jL 24 2 23 [],jn 25 (.call 93 [.v 20,.v 24]) [],jn 26 (.not (.v 25)) []] [0,1,5,26] [none,none,none,none,none,none,none,none,none,none]) (.cond (.v 26) (jq [jn 4 (.mv (.c (.bool false))) []] [4] .ret) .skip))) (.rg [jm 15 5 [5],jn 16 (.binN .add (.v 15) (ci 1)) [15],jm 5 16 [16]] [0,1,5])))
/-- laws.eqHandSeenS: function 51 -/
def Um : SFun := { n := 27,res := [.t 4],body := (jq [jn 4 (.mv (.c (.bool false))) [4]] [0,1] (.seq (jq [jm 6 0 [],jn 7 (.lenL (.v 6)) [6],jm 8 1 [],jn 9 (.lenL (.v 8)) [8],jb 10 .neq 7 9 [7,9]] [0,1,10] (.cond (.v 10) (jq [jn 4 (.mv (.c (.bool false))) []] [4] .ret) .skip)) (.seq (jq [jI 5 0 []] [0,1,5] (.block 0 (.loop XX))) (jq [jn 4 (.mv (.c (.bool true))) []] [4] .ret)))) }
theorem Qcw : QS Go.Proofs.Tryz.prog 51 Um = true := by kernel_rfl
def VS : SCode := (.seq (jq [jm 6 0 [],jc 7 .gtr 6 0 [6]] [0,3,7] (.cond (.v 7) .skip (.exit 0))) (.block 1 (jq [jm 8 0 [],jn 9 (.binN .rem (.v 8) (ci 10)) [8],jn 10 (.binN .add (ci 48) (.v 9)) [9],jn 11 (.conv .u8 (.v 10)) [10],jn 12 (.lit 5 1 [.v 11]) [11],jn 13 (.b2s (.v 12)) [12],jm 14 3 [3],jb 15 .add 13 14 [13,14],jm 3 15 [15]] [0,3] (.rg [jm 16 0 [0],jn 17 (.binN .quo (.v 16) (ci 10)) [16],jm 0 17 [17]] [0,3]))))
/-- laws.markText: function 52 -/
def Qak : SFun := { n := 20,res := [.t 2],body := (jq [⟨some 2,.mv (.c (.str ⟨#[]⟩)),none,[2]⟩] [0] (.seq (jq [jm 4 0 [],jc 5 .leq 4 0 [4]] [0,5] (.cond (.v 5) (jq [⟨some 2,.mv (.c (.str ⟨#[109,48]⟩)),none,[]⟩] [2] .ret) .skip)) (jq [⟨some 3,.mv (.c (.str ⟨#[]⟩)),none,[]⟩] [0,3] (.seq (.block 0 (.loop VS)) (jq [jm 18 3 [3],⟨some 19,.bin .add (.c (.str ⟨#[109]⟩)) (.v 18),none,[18]⟩,jm 2 19 [19]] [2] .ret))))) }
theorem Qgm : QS Go.Proofs.Tryz.prog 52 Qak = true := by kernel_rfl
def Ki : SCode := (.seq (jq [jm 6 5 [],jm 7 0 [],jn 8 (.lenL (.v 7)) [7],jb 9 .lss 6 8 [6,8]] [0,1,5,9] (.cond (.v 9) .skip (.exit 0))) (.seq (.block 1 (jq [jm 12 0 [],jm 13 5 [],jm 14 1 [],jn 15 (.call 52 [.v 14]) [14],ja 16 11 12 13 [12,13],jf 17 0 16 [16],⟨none,.store 1 (.v 17) (.v 15),none,[15,17]⟩] [0,1,5] (jq [jm 18 1 [1],jn 19 (.binN .add (.v 18) (ci 1)) [18],jm 1 19 [19]] [0,1,5] (jq [jm 20 0 [],jm 21 5 [],jm 22 1 [],ja 23 11 20 21 [20,21],jf 24 1 23 [23],⟨none,.store 1 (.v 24) (.v 22),none,[22,24]⟩] [0,1,5] (jq [jm 25 1 [1],jn 26 (.binN .add (.v 25) (ci 1)) [25],jm 1 26 [26]] [0,1,5] (jq [jm 27 0 [],jm 28 5 [],jm 29 1 [],ja 30 11 27 28 [27,28],jf 31 2 30 [30],⟨none,.store 1 (.v 31) (.v 29),none,[29,31]⟩] [0,1,5] (jq [jm 32 1 [1],jn 33 (.binN .add (.v 32) (ci 1)) [32],jm 1 33 [33]] [0,1,5] (jq [jm 34 0 [],jm 35 5 [],jm 36 1 [],jn 37 (.call 52 [.v 36]) [36],ja 38 11 34 35 [34,35],jf 39 3 38 [38],⟨none,.store 1 (.v 39) (.v 37),none,[37,39]⟩] [0,1,5] (jq [jm 40 1 [1],jn 41 (.binN .add (.v 40) (ci 1)) [40],jm 1 41 [41]] [0,1,5] (jq [jm 42 0 [],jm 43 5 [],jm 44 1 [],ja 45 11 42 43 [42,43],jf 46 4 45 [45],⟨none,.store 1 (.v 46) (.v 44),none,[44,46]⟩] [0,1,5] (jq [jm 47 1 [1],jn 48 (.binN .add (.v 47) (ci 1)) [47],jm 1 48 [48]] [0,1,5] (jq [jm 49 0 [],jm 50 5 [],jm 51 1 [],ja 52 11 49 50 [49,50],jf 53 5 52 [52],⟨none,.store 1 (.v 53) (.v 51),none,[51,53]⟩] [0,1,5] (jq [jm 54 1 [1],jn 55 (.binN .add (.v 54) (ci 1)) [54],jm 1 55 [55]] [0,1,5] (jq [jm 56 0 [],jm 57 5 [],ja 58 11 56 57 [56,57],jf 59 6 58 [58],jl 60 59 [59],jm 61 1 [1],jn 62 (.call 28 [.v 60,.v 61]) [60,61],jm 1 62 [62]] [0,1,5] (jq [jm 63 0 [],jm 64 5 [],jm 65 1 [],ja 66 11 63 64 [63,64],jf 67 7 66 [66],⟨none,.store 1 (.v 67) (.v 65),none,[65,67]⟩] [0,1,5] (jq [jm 68 1 [1],jn 69 (.binN .add (.v 68) (ci 1)) [68],jm 1 69 [69]] [0,1,5] (jq [jm 70 0 [],jm 71 5 [],ja 72 11 70 71 [70,71],jf 73 8 72 [72],jl 74 73 [73],jm 75 1 [1],jn 76 (.call 28 [.v 74,.v 75]) [74,75],jm 1 76 [76]] [0,1,5] (jq [jm 77 0 [],jm 78 5 [],ja 79 11 77 78 [77,78],jf 80 9 79 [79],jl 81 80 [80],jm 82 1 [1],jn 83 (.call 94 [.v 81,.v 82]) [81,82],jm 1 83 [83]] [0,1,5] (jq [jm 84 0 [],jm 85 5 [],jm 86 1 [],jn 87 (.binN .rem (.v 86) (ci 3)) [86],jc 88 .eql 87 0 [87],ja 89 11 84 85 [84,85],jf 90 10 89 [89],⟨none,.store 1 (.v 90) (.v 88),none,[88,90]⟩] [0,1,5] (.rg [jm 91 1 [1],jn 92 (.binN .add (.v 91) (ci 1)) [91],jm 1 92 [92]] [0,1,5])))))))))))))))))))) (.rg [jm 10 5 [5],jn 11 (.binN .add (.v 10) (ci 1)) [10],jm 5 11 [11]] [0,1,5])))
/-- laws.markHandOwnS: function 53 -/
def YT : SFun := { n := 94,res := [.t 4],body := (jq [jI 4 0 [4]] [0,1] (.seq (jq [jI 5 0 []] [0,1,5] (.block 0 (.loop Ki))) (jq [jm 93 1 [1],jm 4 93 [93]] [4] .ret))) }
theorem Zx : QS Go.Proofs.Tryz.prog 53 YT = true := by kernel_rfl
def J6 : SCode := (.seq (jq [jm 6 5 [],jm 7 0 [],jn 8 (.lenL (.v 7)) [7],jb 9 .lss 6 8 [6,8]] [0,1,5,9] (.cond (.v 9) .skip (.exit 0))) (.seq (.block 1 (jq [jm 12 0 [],jm 13 5 [],jm 14 1 [],jn 15 (.call 52 [.v 14]) [14],ja 16 3 12 13 [12,13],jf 17 0 16 [16],⟨none,.store 1 (.v 17) (.v 15),none,[15,17]⟩] [0,1,5] (jq [jm 18 1 [1],jn 19 (.binN .add (.v 18) (ci 1)) [18],jm 1 19 [19]] [0,1,5] (jq [jm 20 0 [],jm 21 5 [],jm 22 1 [],ja 23 3 20 21 [20,21],jf 24 1 23 [23],⟨none,.store 1 (.v 24) (.v 22),none,[22,24]⟩] [0,1,5] (jq [jm 25 1 [1],jn 26 (.binN .add (.v 25) (ci 1)) [25],jm 1 26 [26]] [0,1,5] (.rg [jm 27 0 [],jm 28 5 [],ja 29 3 27 28 [27,28],jf 30 2 29 [29],jl 31 30 [30],jm 32 1 [1],jn 33 (.call 28 [.v 31,.v 32]) [31,32],jm 1 33 [33]] [0,1,5])))))) (.rg [jm 10 5 [5],jn 11 (.binN .add (.v 10) (ci 1)) [10],jm 5 11 [11]] [0,1,5])))
/-- laws.markHandPartS: function 54 -/
def YB : SFun := { n := 35,res := [.t 4],body := (jq [jI 4 0 [4]] [0,1] (.seq (jq [jI 5 0 []] [0,1,5] (.block 0 (.loop J6))) (jq [jm 34 1 [1],jm 4 34 [34]] [4] .ret))) }
theorem XY : QS Go.Proofs.Tryz.prog 54 YB = true := by kernel_rfl
def J7 : SCode := (.seq (jq [jm 6 5 [],jm 7 0 [],jn 8 (.lenL (.v 7)) [7],jb 9 .lss 6 8 [6,8]] [0,1,5,9] (.cond (.v 9) .skip (.exit 0))) (.seq (.block 1 (jq [jm 12 0 [],jm 13 5 [],jm 14 1 [],jn 15 (.call 52 [.v 14]) [14],ja 16 2 12 13 [12,13],jf 17 0 16 [16],⟨none,.store 1 (.v 17) (.v 15),none,[15,17]⟩] [0,1,5] (jq [jm 18 1 [1],jn 19 (.binN .add (.v 18) (ci 1)) [18],jm 1 19 [19]] [0,1,5] (jq [jm 20 0 [],jm 21 5 [],jm 22 1 [],ja 23 2 20 21 [20,21],jf 24 1 23 [23],⟨none,.store 1 (.v 24) (.v 22),none,[22,24]⟩] [0,1,5] (.rg [jm 25 1 [1],jn 26 (.binN .add (.v 25) (ci 1)) [25],jm 1 26 [26]] [0,1,5]))))) (.rg [jm 10 5 [5],jn 11 (.binN .add (.v 10) (ci 1)) [10],jm 5 11 [11]] [0,1,5])))
/-- laws.markHandSeenS: function 55 -/
def YC : SFun := { n := 28,res := [.t 4],body := (jq [jI 4 0 [4]] [0,1] (.seq (jq [jI 5 0 []] [0,1,5] (.block 0 (.loop J7))) (jq [jm 27 1 [1],jm 4 27 [27]] [4] .ret))) }
theorem XZ : QS Go.Proofs.Tryz.prog 55 YC = true := by kernel_rfl
def Ye : SCode := (.seq (jq [jm 6 5 [],jm 7 0 [],jn 8 (.lenL (.v 7)) [7],jb 9 .lss 6 8 [6,8]] [0,1,5,9] (.cond (.v 9) .skip (.exit 0))) (.seq (.block 1 (.seq (jq [jm 12 0 [],jm 13 5 [],ja 14 6 12 13 [12,13],jf 15 0 14 [14],jl 16 15 [15],jm 17 1 [],jb 18 .neq 16 17 [16,17]] [0,1,5,18] (.cond (.v 18) (jq [jn 4 (.mv (.c (.int .i64 (-1)))) []] [4] .ret) .skip)) (jq [jm 19 1 [1],jn 20 (.binN .add (.v 19) (ci 1)) [19],jm 1 20 [20]] [0,1,5] (.seq (jq [jm 21 0 [],jm 22 5 [],ja 23 6 21 22 [21,22],jf 24 1 23 [23],jl 25 24 [24],jm 26 1 [],jb 27 .neq 25 26 [25,26]] [0,1,5,27] (.cond (.v 27) (jq [jn 4 (.mv (.c (.int .i64 (-1)))) []] [4] .ret) .skip)) (jq [jm 28 1 [1],jn 29 (.binN .add (.v 28) (ci 1)) [28],jm 1 29 [29]] [0,1,5] (.seq (jq [jm 30 0 [],jm 31 5 [],ja 32 6 30 31 [30,31],jf 33 2 32 [32],jl 34 33 [33],jm 35 1 [],jb 36 .neq 34 35 [34,35]] [0,1,5,36] (.cond (.v 36) (jq [jn 4 (.mv (.c (.int .i64 (-1)))) []] [4] .ret) .skip)) (jq [jm 37 1 [1],jn 38 (.binN .add (.v 37) (ci 1)) [37],jm 1 38 [38]] [0,1,5] (.seq (jq [jm 39 0 [],jm 40 5 [],ja 41 6 39 40 [39,40],jf 42 3 41 [41],jl 43 42 [42],jm 44 1 [],jb 45 .neq 43 44 [43,44]] [0,1,5,45] (.cond (.v 45) (jq [jn 4 (.mv (.c (.int .i64 (-1)))) []] [4] .ret) .skip)) (jq [jm 46 1 [1],jn 47 (.binN .add (.v 46) (ci 1)) [46],jm 1 47 [47]] [0,1,5] (.seq (jq [jm 48 0 [],jm 49 5 [],ja 50 6 48 49 [48,49],jf 51 4 50 [50],jl 52 51 [51],jm 53 1 [],jb 54 .neq 52 53 [52,53]] [0,1,5,54] (.cond (.v 54) (jq [jn 4 (.mv (.c (.int .i64 (-1)))) []] [4] .ret) .skip)) (jq [jm 55 1 [1],jn 56 (.binN .add (.v 55) (ci 1)) [55],jm 1 56 [56]] [0,1,5] (.seq (jq [jm 57 0 [],jm 58 5 [],ja 59 6 57 58 [57,58],jf 60 5 59 [59],jl 61 60 [60],jm 62 1 [],jb 63 .neq 61 62 [61,62]] [0,1,5,63] (.cond (.v 63) (jq [jn 4 (.mv (.c (.int .i64 (-1)))) []] [4] .ret) .skip)) (.rg [jm 64 1 [1],jn 65 (.binN .add (.v 64) (ci 1)) [64],jm 1 65 [65]] [0,1,5]))))))))))))) (.rg [jm 10 5 [5],jn 11 (.binN .add (.v 10) (ci 1)) [10],jm 5 11 [11]] [0,1,5])))
/-- laws.heldHandBoxS: function 56 -/
def Zy : SFun := { n := 67,res := [.t 4],body := (jq [jI 4 0 [4]] [0,1] (.seq (jq [jI 5 0 []] [0,1,5] (.block 0 (.loop Ye))) (jq [jm 66 1 [1],jm 4 66 [66]] [4] .ret))) }
theorem QbT : QS Go.Proofs.Tryz.prog 56 Zy = true := by kernel_rfl
def Qbw : SCode := (.seq (jq [jm 6 5 [],jf 7 0 2 [],jl 8 7 [7],jn 9 (.lenL (.v 8)) [8],jb 10 .lss 6 9 [6,9]] [1,2,5,10] (.cond (.v 10) .skip (.exit 0))) (.seq (.block 1 (jq [jf 13 0 2 [],jl 14 13 [13],jm 15 5 [],ja 16 11 14 15 [14,15],jf 17 0 16 [16],jl 18 17 [17],jm 19 1 [],jb 20 .eql 18 19 [18,19]] [1,2,5,20] (.cond (.v 20) (jq [jm 21 5 [5],jm 4 21 [21]] [4] .ret) .skip))) (.rg [jm 11 5 [5],jn 12 (.binN .add (.v 11) (ci 1)) [11],jm 5 12 [12]] [1,2,5])))
/-- spec.l33At: function 58 -/
def QeZ : SFun := { n := 22,res := [.t 4],body := (jq [jn 2 (.box 102 (.v 0)) [0],jI 4 0 [4]] [1,2] (.seq (jq [jI 5 0 []] [1,2,5] (.block 0 (.loop Qbw))) (jq [jn 4 (.mv (.c (.int .i64 (-1)))) []] [4] .ret))) }
theorem Qju : QS Go.Proofs.Tryz.prog 58 QeZ = true := by kernel_rfl
def Yf : SCode := (.seq (jq [jm 6 5 [],jm 7 0 [],jn 8 (.lenL (.v 7)) [7],jb 9 .lss 6 8 [6,8]] [0,1,5,9] (.cond (.v 9) .skip (.exit 0))) (.seq (.block 1 (.seq (.seq (.rgd [jm 12 0 [],jm 13 5 [],ja 14 11 12 13 [],jf 15 0 14 [],jl 16 15 [],jm 17 1 [],jn 18 (.call 52 [.v 17]) [],jb 19 .neq 16 18 []] [0,1,5,19] [none,none,some [],some [],some [],none,some [3,2,1],none]) (.cond (.v 19) (jq [jn 4 (.mv (.c (.int .i64 (-1)))) []] [4] .ret) .skip)) (jq [jm 20 1 [1],jn 21 (.binN .add (.v 20) (ci 1)) [20],jm 1 21 [21]] [0,1,5] (.seq (jq [jm 22 0 [],jm 23 5 [],ja 24 11 22 23 [22,23],jf 25 1 24 [24],jl 26 25 [25],jm 27 1 [],jb 28 .neq 26 27 [26,27]] [0,1,5,28] (.cond (.v 28) (jq [jn 4 (.mv (.c (.int .i64 (-1)))) []] [4] .ret) .skip)) (jq [jm 29 1 [1],jn 30 (.binN .add (.v 29) (ci 1)) [29],jm 1 30 [30]] [0,1,5] (.seq (jq [jm 31 0 [],jm 32 5 [],ja 33 11 31 32 [31,32],jf 34 2 33 [33],jl 35 34 [34],jm 36 1 [],jb 37 .neq 35 36 [35,36]] [0,1,5,37] (.cond (.v 37) (jq [jn 4 (.mv (.c (.int .i64 (-1)))) []] [4] .ret) .skip)) (jq [jm 38 1 [1],jn 39 (.binN .add (.v 38) (ci 1)) [38],jm 1 39 [39]] [0,1,5] (.seq (.seq (.rgd [jm 40 0 [],jm 41 5 [],ja 42 11 40 41 [],jf 43 3 42 [],jl 44 43 [],jm 45 1 [],jn 46 (.call 52 [.v 45]) [],jb 47 .neq 44 46 []] [0,1,5,47] [none,none,some [],some [],some [],none,some [3,2,1],none]) (.cond (.v 47) (jq [jn 4 (.mv (.c (.int .i64 (-1)))) []] [4] .ret) .skip)) (jq [jm 48 1 [1],jn 49 (.binN .add (.v 48) (ci 1)) [48],jm 1 49 [49]] [0,1,5] (.seq (jq [jm 50 0 [],jm 51 5 [],ja 52 11 50 51 [50,51],jf 53 4 52 [52],jl 54 53 [53],jm 55 1 [],jb 56 .neq 54 55 [54,55]] [0,1,5,56] (.cond (.v 56) (jq [jn 4 (.mv (.c (.int .i64 (-1)))) []] [4] .ret) .skip)) (jq [jm 57 1 [1],jn 58 (.binN .add (.v 57) (ci 1)) [57],jm 1 58 [58]] [0,1,5] (.seq (jq [jm 59 0 [],jm 60 5 [],ja 61 11 59 60 [59,60],jf 62 5 61 [61],jl 63 62 [62],jm 64 1 [],jb 65 .neq 63 64 [63,64]] [0,1,5,65] (.cond (.v 65) (jq [jn 4 (.mv (.c (.int .i64 (-1)))) []] [4] .ret) .skip)) (jq [jm 66 1 [1],jn 67 (.binN .add (.v 66) (ci 1)) [66],jm 1 67 [67]] [0,1,5] (jq [jm 68 0 [],jm 69 5 [],ja 70 11 68 69 [68,69],jf 71 6 70 [70],jl 72 71 [71],jm 73 1 [1],jn 74 (.call 56 [.v 72,.v 73]) [72,73],jm 1 74 [74]] [0,1,5] (.seq (jq [jm 75 1 [],jc 76 .lss 75 0 [75]] [0,1,5,76] (.cond (.v 76) (jq [jn 4 (.mv (.c (.int .i64 (-1)))) []] [4] .ret) .skip)) (.seq (jq [jm 77 0 [],jm 78 5 [],ja 79 11 77 78 [77,78],jf 80 7 79 [79],jl 81 80 [80],jm 82 1 [],jb 83 .neq 81 82 [81,82]] [0,1,5,83] (.cond (.v 83) (jq [jn 4 (.mv (.c (.int .i64 (-1)))) []] [4] .ret) .skip)) (jq [jm 84 1 [1],jn 85 (.binN .add (.v 84) (ci 1)) [84],jm 1 85 [85]] [0,1,5] (jq [jm 86 0 [],jm 87 5 [],ja 88 11 86 87 [86,87],jf 89 8 88 [88],jl 90 89 [89],jm 91 1 [1],jn 92 (.call 56 [.v 90,.v 91]) [90,91],jm 1 92 [92]] [0,1,5] (.seq (jq [jm 93 1 [],jc 94 .lss 93 0 [93]] [0,1,5,94] (.cond (.v 94) (jq [jn 4 (.mv (.c (.int .i64 (-1)))) []] [4] .ret) .skip)) (jq [jm 95 0 [],jm 96 5 [],ja 97 11 95 96 [95,96],jf 98 9 97 [97],jl 99 98 [98],jm 100 1 [1],jn 101 (.call 97 [.v 99,.v 100]) [99,100],jm 1 101 [101]] [0,1,5] (.seq (jq [jm 102 1 [],jc 103 .lss 102 0 [102]] [0,1,5,103] (.cond (.v 103) (jq [jn 4 (.mv (.c (.int .i64 (-1)))) []] [4] .ret) .skip)) (.seq (jq [jm 104 0 [],jm 105 5 [],ja 106 11 104 105 [104,105],jf 107 10 106 [106],jl 108 107 [107],jm 109 1 [],jn 110 (.binN .rem (.v 109) (ci 3)) [109],jc 111 .eql 110 0 [110],jn 112 (.eqB true (.v 108) (.v 111)) [108,111]] [0,1,5,112] (.cond (.v 112) (jq [jn 4 (.mv (.c (.int .i64 (-1)))) []] [4] .ret) .skip)) (.rg [jm 113 1 [1],jn 114 (.binN .add (.v 113) (ci 1)) [113],jm 1 114 [114]] [0,1,5]))))))))))))))))))))))) (.rg [jm 10 5 [5],jn 11 (.binN .add (.v 10) (ci 1)) [10],jm 5 11 [11]] [0,1,5])))
/-- laws.heldHandOwnS: function 62 -/
def Zz : SFun := { n := 116,res := [.t 4],body := (jq [jI 4 0 [4]] [0,1] (.seq (jq [jI 5 0 []] [0,1,5] (.block 0 (.loop Yf))) (jq [jm 115 1 [1],jm 4 115 [115]] [4] .ret))) }
theorem QbU : QS Go.Proofs.Tryz.prog 62 Zz = true := by kernel_rfl
def KW : SCode := (.seq (jq [jm 6 5 [],jm 7 0 [],jn 8 (.lenL (.v 7)) [7],jb 9 .lss 6 8 [6,8]] [0,1,5,9] (.cond (.v 9) .skip (.exit 0))) (.seq (.block 1 (.seq (.seq (.rgd [jm 12 0 [],jm 13 5 [],ja 14 3 12 13 [],jf 15 0 14 [],jl 16 15 [],jm 17 1 [],jn 18 (.call 52 [.v 17]) [],jb 19 .neq 16 18 []] [0,1,5,19] [none,none,some [],some [],some [],none,some [3,2,1],none]) (.cond (.v 19) (jq [jn 4 (.mv (.c (.int .i64 (-1)))) []] [4] .ret) .skip)) (jq [jm 20 1 [1],jn 21 (.binN .add (.v 20) (ci 1)) [20],jm 1 21 [21]] [0,1,5] (.seq (jq [jm 22 0 [],jm 23 5 [],ja 24 3 22 23 [22,23],jf 25 1 24 [24],jl 26 25 [25],jm 27 1 [],jb 28 .neq 26 27 [26,27]] [0,1,5,28] (.cond (.v 28) (jq [jn 4 (.mv (.c (.int .i64 (-1)))) []] [4] .ret) .skip)) (jq [jm 29 1 [1],jn 30 (.binN .add (.v 29) (ci 1)) [29],jm 1 30 [30]] [0,1,5] (jq [jm 31 0 [],jm 32 5 [],ja 33 3 31 32 [31,32],jf 34 2 33 [33],jl 35 34 [34],jm 36 1 [1],jn 37 (.call 56 [.v 35,.v 36]) [35,36],jm 1 37 [37]] [0,1,5] (jq [jm 38 1 [],jc 39 .lss 38 0 [38]] [0,1,5,39] (.cond (.v 39) (jq [jn 4 (.mv (.c (.int .i64 (-1)))) []] [4] .ret) .skip)))))))) (.rg [jm 10 5 [5],jn 11 (.binN .add (.v 10) (ci 1)) [10],jm 5 11 [11]] [0,1,5])))
/-- laws.heldHandPartS: function 63 -/
def X0 : SFun := { n := 41,res := [.t 4],body := (jq [jI 4 0 [4]] [0,1] (.seq (jq [jI 5 0 []] [0,1,5] (.block 0 (.loop KW))) (jq [jm 40 1 [1],jm 4 40 [40]] [4] .ret))) }
theorem Qbm : QS Go.Proofs.Tryz.prog 63 X0 = true := by kernel_rfl
def KX : SCode := (.seq (jq [jm 6 5 [],jm 7 0 [],jn 8 (.lenL (.v 7)) [7],jb 9 .lss 6 8 [6,8]] [0,1,5,9] (.cond (.v 9) .skip (.exit 0))) (.seq (.block 1 (.seq (.seq (.rgd [jm 12 0 [],jm 13 5 [],ja 14 2 12 13 [],jf 15 0 14 [],jl 16 15 [],jm 17 1 [],jn 18 (.call 52 [.v 17]) [],jb 19 .neq 16 18 []] [0,1,5,19] [none,none,some [],some [],some [],none,some [3,2,1],none]) (.cond (.v 19) (jq [jn 4 (.mv (.c (.int .i64 (-1)))) []] [4] .ret) .skip)) (jq [jm 20 1 [1],jn 21 (.binN .add (.v 20) (ci 1)) [20],jm 1 21 [21]] [0,1,5] (.seq (jq [jm 22 0 [],jm 23 5 [],ja 24 2 22 23 [22,23],jf 25 1 24 [24],jl 26 25 [25],jm 27 1 [],jb 28 .neq 26 27 [26,27]] [0,1,5,28] (.cond (.v 28) (jq [jn 4 (.mv (.c (.int .i64 (-1)))) []] [4] .ret) .skip)) (.rg [jm 29 1 [1],jn 30 (.binN .add (.v 29) (ci 1)) [29],jm 1 30 [30]] [0,1,5]))))) (.rg [jm 10 5 [5],jn 11 (.binN .add (.v 10) (ci 1)) [10],jm 5 11 [11]] [0,1,5])))
/-- laws.heldHandSeenS: function 64 -/
def X1 : SFun := { n := 32,res := [.t 4],body := (jq [jI 4 0 [4]] [0,1] (.seq (jq [jI 5 0 []] [0,1,5] (.block 0 (.loop KX))) (jq [jm 31 1 [1],jm 4 31 [31]] [4] .ret))) }
theorem Qbn : QS Go.Proofs.Tryz.prog 64 X1 = true := by kernel_rfl
def ZA : SCode := (.seq (jq [jm 23 7 [],jm 24 0 [],jn 25 (.lenL (.v 24)) [24],jb 26 .lss 23 25 [23,25]] [0,1,5,6,7,26] (.cond (.v 26) .skip (.exit 2))) (.seq (.block 3 (.rgd [jm 29 6 [],jm 30 29 [],jM 31 30 0 [],jM 32 30 7 [],jh 33 30 (.iaddr 5 (.v 31) (.v 32)) [],jh 34 30 (.loadN 5 (.v 33)) [],jM 35 30 1 [],jM 36 30 5 [],jh 37 30 (.iaddr 6 (.v 35) (.v 36)) [],jh 38 30 (.loadN 6 (.v 37)) [],jh 39 30 (.call 98 [.v 34,.v 38]) [],jp 40 30 39 [],jm 6 40 []] [0,1,5,6,7] [none,none,none,none,none,none,none,none,none,none,none,none,none])) (.rg [jm 27 7 [7],jn 28 (.binN .add (.v 27) (ci 1)) [27],jm 7 28 [28]] [0,1,5,6,7])))
def ZB : SCode := (.seq (jq [jm 17 5 [],jm 18 1 [],jn 19 (.lenL (.v 18)) [18],jb 20 .lss 17 19 [17,19]] [0,1,5,20] (.cond (.v 20) .skip (.exit 0))) (.seq (.block 1 (jq [jn 6 (.mv (.c (.bool false))) []] [0,1,5,6] (.seq (jq [jI 7 0 []] [0,1,5,6,7] (.block 2 (.loop ZA))) (jq [jm 41 6 [6],jn 42 (.not (.v 41)) [41],jm 43 42 [42],jM 44 43 1 [],jM 45 43 5 [],jh 46 43 (.iaddr 6 (.v 44) (.v 45)) [44,45],jh 47 43 (.loadN 6 (.v 46)) [46],jh 48 43 (.call 99 [.v 47]) [47],jh 49 43 (.not (.v 48)) [48],jp 50 43 49 [43,49]] [0,1,5,50] (.cond (.v 50) (jq [jn 4 (.mv (.c (.bool false))) []] [4] .ret) .skip))))) (.rg [jm 21 5 [5],jn 22 (.binN .add (.v 21) (ci 1)) [21],jm 5 22 [22]] [0,1,5])))
/-- spec.HandTubeOk: function 65 -/
def VT : SFun := { n := 51,res := [.t 4],body := (jq [jn 4 (.mv (.c (.bool false))) [4]] [0,1] (.seq (jq [jm 8 0 [],jn 9 (.call 77 [.v 8]) [8],jn 10 (.not (.v 9)) [9],jm 11 10 [10],jM 12 11 1 [],jh 13 11 (.lenL (.v 12)) [12],jh 14 11 (.call 80 [.v 13,.c (.int .i64 1),.c (.int .i64 20)]) [13],jh 15 11 (.not (.v 14)) [14],jp 16 11 15 [11,15]] [0,1,16] (.cond (.v 16) (jq [jn 4 (.mv (.c (.bool false))) []] [4] .ret) .skip)) (.seq (jq [jI 5 0 []] [0,1,5] (.block 0 (.loop ZB))) (jq [jn 4 (.mv (.c (.bool true))) []] [4] .ret)))) }
theorem Qek : QS Go.Proofs.Tryz.prog 65 VT = true := by kernel_rfl
/-- spec.l31Tube: function 66 -/
def Qbx : SFun := { n := 6,res := [.t 2],body := (jq [jn 2 (.mv (.c (.sl 0 6 []))) [2]] [0] (jq [jn 3 (.litOwn 103 100 6 []) [],jm 4 0 [0],jn 5 (.app 103 100 6 (.v 3) (.v 4)) [3,4],jm 2 5 [5]] [2] (.gh (.frzE 2) .ret))) }
theorem Qhn : QS Go.Proofs.Tryz.prog 66 Qbx = true := by kernel_rfl
/-- laws.toHandBox: function 67 -/
def WB : SFun := { n := 23,res := [.cN 2 6],body := (jq [jn 1 (.box 101 (.v 0)) [0],jn 2 (.alloc 102 [.int .i64 0,.int .i64 0,.int .i64 0,.int .i64 0,.int .i64 0,.int .i64 0]) []] [1,2] (jq [jn 3 (.alloc 103 [.int .i64 0,.int .i64 0,.int .i64 0,.int .i64 0,.int .i64 0,.int .i64 0]) []] [1,2,3] (jq [jf 4 0 1 [],jl 5 4 [4],jf 6 0 3 [],⟨none,.store 1 (.v 6) (.v 5),none,[5,6]⟩] [1,2,3] (jq [jf 7 1 1 [],jl 8 7 [7],jf 9 1 3 [],⟨none,.store 1 (.v 9) (.v 8),none,[8,9]⟩] [1,2,3] (jq [jf 10 2 1 [],jl 11 10 [10],jf 12 2 3 [],⟨none,.store 1 (.v 12) (.v 11),none,[11,12]⟩] [1,2,3] (jq [jf 13 3 1 [],jl 14 13 [13],jf 15 3 3 [],⟨none,.store 1 (.v 15) (.v 14),none,[14,15]⟩] [1,2,3] (jq [jf 16 4 1 [],jl 17 16 [16],jf 18 4 3 [],⟨none,.store 1 (.v 18) (.v 17),none,[17,18]⟩] [1,2,3] (jq [jf 19 5 1 [1],jl 20 19 [19],jf 21 5 3 [],⟨none,.store 1 (.v 21) (.v 20),none,[20,21]⟩] [2,3] (jq [jL 22 6 3 [3],⟨none,.store 6 (.v 2) (.v 22),none,[22]⟩] [2] .ret))))))))) }
theorem Qe8 : QS Go.Proofs.Tryz.prog 67 WB = true := by kernel_rfl
/-- laws.eqHandBox: function 69 -/
def WC : SFun := { n := 35,res := [.t 4],body := (jq [jn 2 (.box 102 (.v 0)) [0],jn 3 (.box 103 (.v 1)) [1],jn 4 (.mv (.c (.bool false))) [4]] [2,3] (.seq (jq [jf 5 0 2 [],jl 6 5 [5],jf 7 0 3 [],jl 8 7 [7],jb 9 .neq 6 8 [6,8]] [2,3,9] (.cond (.v 9) (jq [jn 4 (.mv (.c (.bool false))) []] [4] .ret) .skip)) (.seq (jq [jf 10 1 2 [],jl 11 10 [10],jf 12 1 3 [],jl 13 12 [12],jb 14 .neq 11 13 [11,13]] [2,3,14] (.cond (.v 14) (jq [jn 4 (.mv (.c (.bool false))) []] [4] .ret) .skip)) (.seq (jq [jf 15 2 2 [],jl 16 15 [15],jf 17 2 3 [],jl 18 17 [17],jb 19 .neq 16 18 [16,18]] [2,3,19] (.cond (.v 19) (jq [jn 4 (.mv (.c (.bool false))) []] [4] .ret) .skip)) (.seq (jq [jf 20 3 2 [],jl 21 20 [20],jf 22 3 3 [],jl 23 22 [22],jb 24 .neq 21 23 [21,23]] [2,3,24] (.cond (.v 24) (jq [jn 4 (.mv (.c (.bool false))) []] [4] .ret) .skip)) (.seq (jq [jf 25 4 2 [],jl 26 25 [25],jf 27 4 3 [],jl 28 27 [27],jb 29 .neq 26 28 [26,28]] [2,3,29] (.cond (.v 29) (jq [jn 4 (.mv (.c (.bool false))) []] [4] .ret) .skip)) (.seq (jq [jf 30 5 2 [2],jl 31 30 [30],jf 32 5 3 [3],jl 33 32 [32],jb 34 .neq 31 33 [31,33]] [34] (.cond (.v 34) (jq [jn 4 (.mv (.c (.bool false))) []] [4] .ret) .skip)) (jq [jn 4 (.mv (.c (.bool true))) []] [4] .ret)))))))) }
theorem Qe9 : QS Go.Proofs.Tryz.prog 69 WC = true := by kernel_rfl
def Un : SCode := (.seq (jq [jm 9 3 [],jm 10 0 [],jn 11 (.lenS (.v 10)) [10],jb 12 .lss 9 11 [9,11]] [0,3,12] (.cond (.v 12) .skip (.exit 0))) (.seq (.block 1 (jq [jm 15 0 [],jm 16 3 [],jn 17 (.istr (.v 15) (.v 16)) [15,16],jm 4 17 [17]] [0,3,4] (jq [jm 18 4 [],jn 19 (.bin .geq (.v 18) (.c (.int .u8 97))) [18],jm 20 19 [19],jt 21 20 (.mv (.v 4)) [],jt 22 20 (.bin .leq (.v 21) (.c (.int .u8 122))) [21],jn 23 (.pick (.v 20) (.v 22) (.c (.bool false))) [20,22],jm 24 23 [23],jM 25 24 4 [],jh 26 24 (.bin .geq (.v 25) (.c (.int .u8 48))) [25],jM 27 24 26 [26],jt 28 27 (.mv (.v 4)) [],jt 29 27 (.bin .leq (.v 28) (.c (.int .u8 57))) [28],jh 30 24 (.pick (.v 27) (.v 29) (.c (.bool false))) [27,29],jp 31 24 30 [24,30],jm 32 31 [31],jM 33 32 4 [4],jh 34 32 (.bin .eql (.v 33) (.c (.int .u8 45))) [33],jp 35 32 34 [32,34],jn 36 (.not (.v 35)) [35]] [0,3,36] (.cond (.v 36) (jq [jn 2 (.mv (.c (.bool false))) []] [2] .ret) .skip)))) (.rg [jm 13 3 [3],jn 14 (.binN .add (.v 13) (ci 1)) [13],jm 3 14 [14]] [0,3])))
/-- spec.l31NameOk: function 70 -/
def WD : SFun := { n := 37,res := [.t 2],body := (jq [jn 2 (.mv (.c (.bool false))) [2]] [0] (.seq (jq [jm 5 0 [],jn 6 (.lenS (.v 5)) [5],jn 7 (.call 80 [.v 6,.c (.int .i64 1),.c (.int .i64 8)]) [6],jn 8 (.not (.v 7)) [7]] [0,8] (.cond (.v 8) (jq [jn 2 (.mv (.c (.bool false))) []] [2] .ret) .skip)) (.seq (jq [jI 3 0 []] [0,3] (.block 0 (.loop Un))) (jq [jn 2 (.mv (.c (.bool true))) []] [2] .ret)))) }
theorem Qfa : QS Go.Proofs.Tryz.prog 70 WD = true := by kernel_rfl
/-- impl.HandBookOk: function 72 -/
def VU : SFun := { n := 12,res := [.t 4],body := (jq [jn 3 (.box 103 (.v 1)) [1],jn 4 (.mv (.c (.bool false))) [4]] [0,3] (jq [jm 5 0 [],jn 6 (.call 101 [.v 5]) [5],jm 7 6 [6],jt 8 7 (.mv (.v 0)) [0],jt 9 7 (.loadN 3 (.v 3)) [3],jt 10 7 (.call 102 [.v 8,.v 9]) [8,9],jn 11 (.pick (.v 7) (.v 10) (.c (.bool false))) [7,10],jm 4 11 [11]] [4] .ret)) }
theorem Qel : QS Go.Proofs.Tryz.prog 72 VU = true := by kernel_rfl
end Go.Ve

namespace Go.Ve
open Go.Proofs
set_option maxRecDepth 100000
/-- laws.szHandOwn: function 74 -/
def WE : SFun := { n := 38,res := [.t 4],body := (jq [jn 2 (.box 102 (.v 0)) [0],jI 4 0 [4]] [1,2] (jq [jm 5 1 [1],jf 6 0 2 [],jl 7 6 [6],jn 8 (.lenS (.v 7)) [7],jn 9 (.binN .sub (.v 5) (.v 8)) [5,8],jm 1 9 [9]] [1,2] (.seq (jq [jm 10 1 [],jc 11 .lss 10 0 [10]] [1,2,11] (.cond (.v 11) (jq [jn 4 (.mv (.c (.int .i64 (-1)))) []] [4] .ret) .skip)) (jq [jm 12 1 [1],jf 13 3 2 [],jl 14 13 [13],jn 15 (.lenS (.v 14)) [14],jn 16 (.binN .sub (.v 12) (.v 15)) [12,15],jm 1 16 [16]] [1,2] (.seq (jq [jm 17 1 [],jc 18 .lss 17 0 [17]] [1,2,18] (.cond (.v 18) (jq [jn 4 (.mv (.c (.int .i64 (-1)))) []] [4] .ret) .skip)) (jq [jf 19 6 2 [],jl 20 19 [19],jm 21 1 [1],jn 22 (.call 23 [.v 20,.v 21]) [20,21],jm 1 22 [22]] [1,2] (.seq (jq [jm 23 1 [],jc 24 .lss 23 0 [23]] [1,2,24] (.cond (.v 24) (jq [jn 4 (.mv (.c (.int .i64 (-1)))) []] [4] .ret) .skip)) (jq [jf 25 8 2 [],jl 26 25 [25],jm 27 1 [1],jn 28 (.call 23 [.v 26,.v 27]) [26,27],jm 1 28 [28]] [1,2] (.seq (jq [jm 29 1 [],jc 30 .lss 29 0 [29]] [1,2,30] (.cond (.v 30) (jq [jn 4 (.mv (.c (.int .i64 (-1)))) []] [4] .ret) .skip)) (jq [jf 31 9 2 [2],jl 32 31 [31],jm 33 1 [1],jn 34 (.call 105 [.v 32,.v 33]) [32,33],jm 1 34 [34]] [1] (.seq (jq [jm 35 1 [],jc 36 .lss 35 0 [35]] [1,36] (.cond (.v 36) (jq [jn 4 (.mv (.c (.int .i64 (-1)))) []] [4] .ret) .skip)) (jq [jm 37 1 [1],jm 4 37 [37]] [4] .ret)))))))))))) }
theorem Qfb : QS Go.Proofs.Tryz.prog 74 WE = true := by kernel_rfl
/-- laws.szHandPart: function 75 -/
def VV : SFun := { n := 19,res := [.t 4],body := (jq [jn 2 (.box 102 (.v 0)) [0],jI 4 0 [4]] [1,2] (jq [jm 5 1 [1],jf 6 0 2 [],jl 7 6 [6],jn 8 (.lenS (.v 7)) [7],jn 9 (.binN .sub (.v 5) (.v 8)) [5,8],jm 1 9 [9]] [1,2] (.seq (jq [jm 10 1 [],jc 11 .lss 10 0 [10]] [1,2,11] (.cond (.v 11) (jq [jn 4 (.mv (.c (.int .i64 (-1)))) []] [4] .ret) .skip)) (jq [jf 12 2 2 [2],jl 13 12 [12],jm 14 1 [1],jn 15 (.call 23 [.v 13,.v 14]) [13,14],jm 1 15 [15]] [1] (.seq (jq [jm 16 1 [],jc 17 .lss 16 0 [16]] [1,17] (.cond (.v 17) (jq [jn 4 (.mv (.c (.int .i64 (-1)))) []] [4] .ret) .skip)) (jq [jm 18 1 [1],jm 4 18 [18]] [4] .ret)))))) }
theorem Qem : QS Go.Proofs.Tryz.prog 75 VV = true := by kernel_rfl
/-- laws.szHandSeen: function 76 -/
def VX : SFun := { n := 13,res := [.t 4],body := (jq [jn 2 (.box 102 (.v 0)) [0],jI 4 0 [4]] [1,2] (jq [jm 5 1 [1],jf 6 0 2 [2],jl 7 6 [6],jn 8 (.lenS (.v 7)) [7],jn 9 (.binN .sub (.v 5) (.v 8)) [5,8],jm 1 9 [9]] [1] (.seq (jq [jm 10 1 [],jc 11 .lss 10 0 [10]] [1,11] (.cond (.v 11) (jq [jn 4 (.mv (.c (.int .i64 (-1)))) []] [4] .ret) .skip)) (jq [jm 12 1 [1],jm 4 12 [12]] [4] .ret)))) }
theorem Qen : QS Go.Proofs.Tryz.prog 76 VX = true := by kernel_rfl
def X2 : SCode := (.seq (jq [jm 66 5 [],jm 67 3 [],jb 68 .lss 66 67 [66,67]] [0,3,4,5,68] (.cond (.v 68) .skip (.exit 2))) (.seq (.block 3 (jq [jm 71 0 [],jm 72 5 [],ja 73 5 71 72 [71,72],jL 74 5 73 [73],jn 6 (.alloc 106 [.str ⟨#[]⟩,.int .i64 0,.int .i64 0,.int .i64 0,.int .i64 0]) [],⟨none,.store 5 (.v 6) (.v 74),none,[74]⟩] [0,3,4,5,6] (jq [jf 75 1 6 [],jl 76 75 [75],jf 77 3 4 [],jl 78 77 [77],jb 79 .leq 76 78 [76,78],jm 80 79 [79],jt 81 80 (.faddr 1 (.v 4)) [],jt 82 80 (.load1 (.v 81)) [81],jt 83 80 (.faddr 3 (.v 6)) [],jt 84 80 (.load1 (.v 83)) [83],jt 85 80 (.bin .leq (.v 82) (.v 84)) [82,84],jn 86 (.pick (.v 80) (.v 85) (.c (.bool false))) [80,85],jm 87 86 [86],jt 88 87 (.faddr 2 (.v 6)) [],jt 89 87 (.load1 (.v 88)) [88],jt 90 87 (.faddr 4 (.v 4)) [],jt 91 87 (.load1 (.v 90)) [90],jt 92 87 (.bin .leq (.v 89) (.v 91)) [89,91],jn 93 (.pick (.v 87) (.v 92) (.c (.bool false))) [87,92],jm 94 93 [93],jt 95 94 (.faddr 2 (.v 4)) [],jt 96 94 (.load1 (.v 95)) [95],jt 97 94 (.faddr 4 (.v 6)) [6],jt 98 94 (.load1 (.v 97)) [97],jt 99 94 (.bin .leq (.v 96) (.v 98)) [96,98],jn 100 (.pick (.v 94) (.v 99) (.c (.bool false))) [94,99]] [0,3,4,5,100] (.cond (.v 100) (jq [jn 2 (.mv (.c (.bool false))) []] [2] .ret) .skip)))) (.rg [jm 69 5 [5],jn 70 (.binN .add (.v 69) (ci 1)) [69],jm 5 70 [70]] [0,3,4,5])))
def X3 : SCode := (.seq (jq [jm 11 3 [],jm 12 0 [],jn 13 (.lenL (.v 12)) [12],jb 14 .lss 11 13 [11,13]] [0,3,14] (.cond (.v 14) .skip (.exit 0))) (.seq (.block 1 (jq [jm 17 0 [],jm 18 3 [],ja 19 5 17 18 [17,18],jL 20 5 19 [19],jn 4 (.alloc 104 [.str ⟨#[]⟩,.int .i64 0,.int .i64 0,.int .i64 0,.int .i64 0]) [],⟨none,.store 5 (.v 4) (.v 20),none,[20]⟩] [0,3,4] (.seq (.seq (.rgd [jf 21 0 4 [],jl 22 21 [],jn 23 (.call 70 [.v 22]) [],jn 24 (.not (.v 23)) [],jm 25 24 [],jM 26 25 3 [],jh 27 25 (.bin .gtr (.v 26) (ci 0)) [],jM 28 25 27 [],jt 29 28 (.mv (.v 0)) [],jt 30 28 (.mv (.v 3)) [],jt 31 28 (.binN .sub (.v 30) (ci 1)) [],jt 32 28 (.iaddr 5 (.v 29) (.v 31)) [],jt 33 28 (.faddr 0 (.v 32)) [],jt 34 28 (.load1 (.v 33)) [],jt 35 28 (.faddr 0 (.v 4)) [],jt 36 28 (.load1 (.v 35)) [],jt 37 28 (.bin .geq (.v 34) (.v 36)) [],jh 38 25 (.pick (.v 28) (.v 37) (.c (.bool false))) [],jp 39 25 38 [],jm 40 39 [],jh 41 40 (.faddr 1 (.v 4)) [],jh 42 40 (.load1 (.v 41)) [],jh 43 40 (.faddr 3 (.v 4)) [],jh 44 40 (.load1 (.v 43)) [],jh 45 40 (.call 80 [.v 42,.c (.int .i64 0),.v 44]) [],jh 46 40 (.not (.v 45)) [],jp 47 40 46 [],jm 48 47 [],jh 49 48 (.faddr 3 (.v 4)) [],jh 50 48 (.load1 (.v 49)) [],jh 51 48 (.bin .geq (.v 50) (ci 16)) [],jp 52 48 51 [],jm 53 52 [],jh 54 53 (.faddr 2 (.v 4)) [],jh 55 53 (.load1 (.v 54)) [],jh 56 53 (.faddr 4 (.v 4)) [],jh 57 53 (.load1 (.v 56)) [],jh 58 53 (.call 80 [.v 55,.c (.int .i64 0),.v 57]) [],jh 59 53 (.not (.v 58)) [],jp 60 53 59 [],jm 61 60 [],jh 62 61 (.faddr 4 (.v 4)) [],jh 63 61 (.load1 (.v 62)) [],jh 64 61 (.bin .geq (.v 63) (ci 16)) [],jp 65 61 64 []] [0,3,4,65] [none,none,none,none,none,none,none,none,none,none,none,none,none,none,none,none,none,none,none,none,none,none,none,none,none,none,none,none,none,none,none,none,none,none,none,none,none,none,none,none,none,none,none,none,none]) (.cond (.v 65) (jq [jn 2 (.mv (.c (.bool false))) []] [2] .ret) .skip)) (jq [jI 5 0 []] [0,3,4,5] (.block 2 (.loop X2)))))) (.rg [jm 15 3 [3],jn 16 (.binN .add (.v 15) (ci 1)) [15],jm 3 16 [16]] [0,3])))
/-- spec.HandZonesOk: function 77 -/
def Uo : SFun := { n := 101,res := [.t 2],body := (jq [jn 2 (.mv (.c (.bool false))) [2]] [0] (.seq (jq [jm 7 0 [],jn 8 (.lenL (.v 7)) [7],jn 9 (.call 80 [.v 8,.c (.int .i64 1),.c (.int .i64 4)]) [8],jn 10 (.not (.v 9)) [9]] [0,10] (.cond (.v 10) (jq [jn 2 (.mv (.c (.bool false))) []] [2] .ret) .skip)) (.seq (jq [jI 3 0 []] [0,3] (.block 0 (.loop X3))) (jq [jn 2 (.mv (.c (.bool true))) []] [2] .ret)))) }
theorem Qcx : QS Go.Proofs.Tryz.prog 77 Uo = true := by kernel_rfl
def Up : SCode := (.seq (jq [jm 10 5 [],jf 11 0 3 [],jl 12 11 [11],jn 13 (.lenL (.v 12)) [12],jb 14 .lss 10 13 [10,13]] [0,3,5,14] (.cond (.v 14) .skip (.exit 0))) (.seq (.block 1 (.seq (.rgd [jm 17 0 [],jf 18 0 3 [],jl 19 18 [],jm 20 5 [],ja 21 11 19 20 [],jL 22 11 21 [],jn 23 (.call 106 [.v 17,.v 22]) [],jn 24 (.not (.v 23)) [],jm 25 24 [],jM 26 25 5 [],jh 27 25 (.bin .gtr (.v 26) (ci 0)) [],jM 28 25 27 [],jt 29 28 (.faddr 0 (.v 3)) [],jt 30 28 (.load1 (.v 29)) [],jt 31 28 (.mv (.v 5)) [],jt 32 28 (.binN .sub (.v 31) (ci 1)) [],jt 33 28 (.iaddr 11 (.v 30) (.v 32)) [],jt 34 28 (.faddr 0 (.v 33)) [],jt 35 28 (.load1 (.v 34)) [],jt 36 28 (.faddr 0 (.v 3)) [],jt 37 28 (.load1 (.v 36)) [],jt 38 28 (.mv (.v 5)) [],jt 39 28 (.iaddr 11 (.v 37) (.v 38)) [],jt 40 28 (.faddr 0 (.v 39)) [],jt 41 28 (.load1 (.v 40)) [],jt 42 28 (.bin .geq (.v 35) (.v 41)) [],jh 43 25 (.pick (.v 28) (.v 42) (.c (.bool false))) [],jp 44 25 43 []] [0,3,5,44] [none,none,none,none,none,none,none,none,none,none,none,none,none,none,none,none,none,none,none,none,none,none,none,none,none,none,none,none]) (.cond (.v 44) (jq [jn 4 (.mv (.c (.bool false))) []] [4] .ret) .skip))) (.rg [jm 15 5 [5],jn 16 (.binN .add (.v 15) (ci 1)) [15],jm 5 16 [16]] [0,3,5])))
/-- spec.l33OwnsOk: function 78 -/
def WF : SFun := { n := 45,res := [.t 4],body := (jq [jn 3 (.box 103 (.v 1)) [1],jn 4 (.mv (.c (.bool false))) [4]] [0,3] (.seq (jq [jf 6 0 3 [],jl 7 6 [6],jn 8 (.lenL (.v 7)) [7],jc 9 .gtr 8 6 [8]] [0,3,9] (.cond (.v 9) (jq [jn 4 (.mv (.c (.bool false))) []] [4] .ret) .skip)) (.seq (jq [jI 5 0 []] [0,3,5] (.block 0 (.loop Up))) (jq [jn 4 (.mv (.c (.bool true))) []] [4] .ret)))) }
theorem Qfc : QS Go.Proofs.Tryz.prog 78 WF = true := by kernel_rfl
def YU : SCode := (.rgd [jf 24 0 6 [],jl 25 24 [],jn 26 (.call 70 [.v 25]) [],jn 27 (.not (.v 26)) [],jm 28 27 [],jh 29 28 (.faddr 1 (.v 6)) [],jh 30 28 (.load1 (.v 29)) [],jh 31 28 (.loadN 3 (.v 3)) [],jh 32 28 (.faddr 0 (.v 6)) [],jh 33 28 (.load1 (.v 32)) [],jh 34 28 (.call 107 [.v 31,.v 33]) [],jh 35 28 (.call 80 [.v 30,.c (.int .i64 1),.v 34]) [],jh 36 28 (.not (.v 35)) [],jp 37 28 36 [],jm 38 37 [],jM 39 38 0 [],jh 40 38 (.faddr 2 (.v 6)) [],jh 41 38 (.load1 (.v 40)) [],jh 42 38 (.call 65 [.v 39,.v 41]) [],jh 43 38 (.not (.v 42)) [],jp 44 38 43 [],jm 45 44 [],jM 46 45 5 [],jh 47 45 (.bin .gtr (.v 46) (ci 0)) [],jM 48 45 47 [],jt 49 48 (.faddr 1 (.v 3)) [],jt 50 48 (.load1 (.v 49)) [],jt 51 48 (.mv (.v 5)) [],jt 52 48 (.binN .sub (.v 51) (ci 1)) [],jt 53 48 (.iaddr 3 (.v 50) (.v 52)) [],jt 54 48 (.loadN 3 (.v 53)) [],jt 55 48 (.loadN 3 (.v 6)) [],jt 56 48 (.call 108 [.v 54,.v 55]) [],jt 57 48 (.not (.v 56)) [],jh 58 45 (.pick (.v 48) (.v 57) (.c (.bool false))) [],jp 59 45 58 []] [0,3,5,6,59] [none,none,none,none,none,some [],some [],none,none,none,some [4,3],none,none,none,none,none,none,none,none,none,none,none,none,none,none,none,none,none,none,none,none,none,none,none,none,none])
def YV : SCode := (.rgd [jf 65 1 3 [],jl 66 65 [],jm 67 7 [],ja 68 3 66 67 [],jf 69 0 68 [],jl 70 69 [],jf 71 0 6 [],jl 72 71 [],jb 73 .neq 70 72 [],jm 74 73 [],jt 75 74 (.faddr 1 (.v 3)) [],jt 76 74 (.load1 (.v 75)) [],jt 77 74 (.mv (.v 7)) [],jt 78 74 (.iaddr 3 (.v 76) (.v 77)) [],jt 79 74 (.faddr 2 (.v 78)) [],jt 80 74 (.load1 (.v 79)) [],jt 81 74 (.faddr 2 (.v 6)) [],jt 82 74 (.load1 (.v 81)) [],jt 83 74 (.call 109 [.v 80,.v 82]) [],jn 84 (.pick (.v 74) (.v 83) (.c (.bool false))) []] [0,3,5,6,7,84] [none,none,none,none,none,none,none,none,none,none,none,none,none,none,none,none,none,none,none,none])
def ZC : SCode := (.seq (jq [jm 60 7 [],jm 61 5 [],jb 62 .lss 60 61 [60,61]] [0,3,5,6,7,62] (.cond (.v 62) .skip (.exit 2))) (.seq (.block 3 (.seq YV (.cond (.v 84) (jq [jn 4 (.mv (.c (.bool false))) []] [4] .ret) .skip))) (.rg [jm 63 7 [7],jn 64 (.binN .add (.v 63) (ci 1)) [63],jm 7 64 [64]] [0,3,5,6,7])))
def ZD : SCode := (.seq (jq [jm 12 5 [],jf 13 1 3 [],jl 14 13 [13],jn 15 (.lenL (.v 14)) [14],jb 16 .lss 12 15 [12,15]] [0,3,5,16] (.cond (.v 16) .skip (.exit 0))) (.seq (.block 1 (jq [jf 19 1 3 [],jl 20 19 [19],jm 21 5 [],ja 22 3 20 21 [20,21],jL 23 3 22 [22],jn 6 (.alloc 106 [.str ⟨#[]⟩,.int .i64 0,.sl 0 6 []]) [],⟨none,.store 3 (.v 6) (.v 23),none,[23]⟩] [0,3,5,6] (.seq (.seq YU (.cond (.v 59) (jq [jn 4 (.mv (.c (.bool false))) []] [4] .ret) .skip)) (jq [jI 7 0 []] [0,3,5,6,7] (.block 2 (.loop ZC)))))) (.rg [jm 17 5 [5],jn 18 (.binN .add (.v 17) (ci 1)) [17],jm 5 18 [18]] [0,3,5])))
/-- spec.l33PartsOk: function 79 -/
def VY : SFun := { n := 85,res := [.t 4],body := (jq [jn 3 (.box 103 (.v 1)) [1],jn 4 (.mv (.c (.bool false))) [4]] [0,3] (.seq (jq [jf 8 1 3 [],jl 9 8 [8],jn 10 (.lenL (.v 9)) [9],jc 11 .gtr 10 16 [10]] [0,3,11] (.cond (.v 11) (jq [jn 4 (.mv (.c (.bool false))) []] [4] .ret) .skip)) (.seq (jq [jI 5 0 []] [0,3,5] (.block 0 (.loop ZD))) (jq [jn 4 (.mv (.c (.bool true))) []] [4] .ret)))) }
theorem Qeo : QS Go.Proofs.Tryz.prog 79 VY = true := by kernel_rfl
/-- spec.l31In: function 80 -/
def Qe0 : SFun := { n := 15,res := [.t 6],body := (jq [jn 6 (.mv (.c (.bool false))) [6]] [0,1,2] (jq [jm 7 0 [],jm 8 1 [1],jb 9 .geq 7 8 [7,8],jm 10 9 [9],jt 11 10 (.mv (.v 0)) [0],jt 12 10 (.mv (.v 2)) [2],jt 13 10 (.bin .leq (.v 11) (.v 12)) [11,12],jn 14 (.pick (.v 10) (.v 13) (.c (.bool false))) [10,13],jm 6 14 [14]] [6] .ret)) }
theorem Qjv : QS Go.Proofs.Tryz.prog 80 Qe0 = true := by kernel_rfl
def WG : SCode := (.seq (jq [jm 8 6 [],jm 9 0 [],jn 10 (.lenL (.v 9)) [9],jb 11 .lss 8 10 [8,10]] [0,1,5,6,11] (.cond (.v 11) .skip (.exit 0))) (.seq (.block 1 (jq [jm 14 0 [],jm 15 6 [],ja 16 5 14 15 [14,15],jL 17 5 16 [16],jm 18 1 [],jn 19 (.call 82 [.v 17,.v 18]) [17,18],jn 20 (.lenL (.v 19)) [19],jc 21 .gtr 20 0 [20]] [0,1,5,6,21] (.cond (.v 21) (.rg [jm 22 5 [5],jm 23 0 [],jm 24 6 [],ja 25 5 23 24 [23,24],jf 26 0 25 [25],jl 27 26 [26],jn 28 (.lit 9 1 [.v 27]) [27],jn 29 (.app 107 9 1 (.v 22) (.v 28)) [22,28],jm 5 29 [29]] [0,1,5,6]) .skip))) (.rg [jm 12 6 [6],jn 13 (.binN .add (.v 12) (ci 1)) [12],jm 6 13 [13]] [0,1,5,6])))
/-- spec.HandWho: function 81 -/
def Qby : SFun := { n := 31,res := [.t 4],body := (jq [jn 4 (.mv (.c (.sl 0 1 []))) [4]] [0,1] (jq [jn 7 (.litOwn 107 9 1 []) [],jm 5 7 [7]] [0,1,5] (.seq (jq [jI 6 0 []] [0,1,5,6] (.block 0 (.loop WG))) (jq [jm 30 5 [5],jm 4 30 [30]] [4] (.gh (.frzE 4) .ret))))) }
theorem Qho : QS Go.Proofs.Tryz.prog 81 Qby = true := by kernel_rfl
def ZE : SCode := (.seq (jq [jm 8 6 [],jm 9 1 [],jn 10 (.lenL (.v 9)) [9],jb 11 .lss 8 10 [8,10],jm 12 11 [11],jt 13 12 (.loadN 5 (.v 2)) [],jt 14 12 (.call 110 [.v 13]) [13],jn 15 (.pick (.v 12) (.v 14) (.c (.bool false))) [12,14]] [1,2,5,6,15] (.cond (.v 15) .skip (.exit 0))) (.seq (.block 1 (.seq (.rgd [jL 18 5 2 [],jm 19 1 [],jm 20 6 [],ja 21 6 19 20 [],jL 22 6 21 [],jn 23 (.call 111 [.v 18,.v 22]) []] [1,2,5,6,23] [none,none,none,none,none,none]) (.cond (.v 23) (.rg [jm 24 5 [5],jm 25 1 [],jm 26 6 [],ja 27 6 25 26 [25,26],jL 28 6 27 [27],jn 29 (.lit 100 6 [.v 28]) [28],jn 30 (.app 107 100 6 (.v 24) (.v 29)) [24,29],jm 5 30 [30]] [1,2,5,6]) .skip))) (.rg [jm 16 6 [6],jn 17 (.binN .add (.v 16) (ci 1)) [16],jm 6 17 [17]] [1,2,5,6])))
/-- spec.HandPartOf: function 82 -/
def VZ : SFun := { n := 32,res := [.t 4],body := (jq [jn 2 (.box 102 (.v 0)) [0],jn 4 (.mv (.c (.sl 0 6 []))) [4]] [1,2] (jq [jn 7 (.litOwn 107 100 6 []) [],jm 5 7 [7]] [1,2,5] (.seq (jq [jI 6 0 []] [1,2,5,6] (.block 0 (.loop ZE))) (jq [jm 31 5 [5],jm 4 31 [31]] [4] (.gh (.frzE 4) .ret))))) }
theorem Qep : QS Go.Proofs.Tryz.prog 82 VZ = true := by kernel_rfl
/-- laws.toHandOwn: function 83 -/
def XH : SFun := { n := 41,res := [.cN 2 11],body := (jq [jn 1 (.box 101 (.v 0)) [0],jn 2 (.alloc 102 [.str ⟨#[]⟩,.int .i64 0,.int .i64 0,.str ⟨#[]⟩,.int .i64 0,.int .i64 0,.sl 0 6 [],.int .i64 0,.sl 0 6 [],.sl 0 1 [],.bool false]) []] [1,2] (jq [jn 3 (.alloc 103 [.str ⟨#[]⟩,.int .i64 0,.int .i64 0,.str ⟨#[]⟩,.int .i64 0,.int .i64 0,.sl 0 6 [],.int .i64 0,.sl 0 6 [],.sl 0 1 [],.bool false]) []] [1,2,3] (jq [jf 4 0 1 [],jl 5 4 [4],jf 6 0 3 [],⟨none,.store 1 (.v 6) (.v 5),none,[5,6]⟩] [1,2,3] (jq [jf 7 1 1 [],jl 8 7 [7],jf 9 1 3 [],⟨none,.store 1 (.v 9) (.v 8),none,[8,9]⟩] [1,2,3] (jq [jf 10 2 1 [],jl 11 10 [10],jf 12 2 3 [],⟨none,.store 1 (.v 12) (.v 11),none,[11,12]⟩] [1,2,3] (jq [jf 13 3 1 [],jl 14 13 [13],jf 15 3 3 [],⟨none,.store 1 (.v 15) (.v 14),none,[14,15]⟩] [1,2,3] (jq [jf 16 4 1 [],jl 17 16 [16],jf 18 4 3 [],⟨none,.store 1 (.v 18) (.v 17),none,[17,18]⟩] [1,2,3] (jq [jf 19 5 1 [],jl 20 19 [19],jf 21 5 3 [],⟨none,.store 1 (.v 21) (.v 20),none,[20,21]⟩] [1,2,3] (jq [jf 22 6 1 [],jl 23 22 [22],jn 24 (.call 25 [.v 23]) [23],jf 25 6 3 [],⟨none,.store 1 (.v 25) (.v 24),none,[24,25]⟩] [1,2,3] (jq [jf 26 7 1 [],jl 27 26 [26],jf 28 7 3 [],⟨none,.store 1 (.v 28) (.v 27),none,[27,28]⟩] [1,2,3] (jq [jf 29 8 1 [],jl 30 29 [29],jn 31 (.call 25 [.v 30]) [30],jf 32 8 3 [],⟨none,.store 1 (.v 32) (.v 31),none,[31,32]⟩] [1,2,3] (jq [jf 33 9 1 [],jl 34 33 [33],jn 35 (.call 112 [.v 34]) [34],jf 36 9 3 [],⟨none,.store 1 (.v 36) (.v 35),none,[35,36]⟩] [1,2,3] (jq [jf 37 10 1 [1],jl 38 37 [37],jf 39 10 3 [],⟨none,.store 1 (.v 39) (.v 38),none,[38,39]⟩] [2,3] (jq [jL 40 11 3 [3],⟨none,.store 11 (.v 2) (.v 40),none,[40]⟩] [2] .ret)))))))))))))) }
theorem WH : QS Go.Proofs.Tryz.prog 83 XH = true := by kernel_rfl
/-- laws.toHandPart: function 84 -/
def Xb : SFun := { n := 15,res := [.cN 2 3],body := (jq [jn 1 (.box 101 (.v 0)) [0],jn 2 (.alloc 102 [.str ⟨#[]⟩,.int .i64 0,.sl 0 6 []]) []] [1,2] (jq [jn 3 (.alloc 103 [.str ⟨#[]⟩,.int .i64 0,.sl 0 6 []]) []] [1,2,3] (jq [jf 4 0 1 [],jl 5 4 [4],jf 6 0 3 [],⟨none,.store 1 (.v 6) (.v 5),none,[5,6]⟩] [1,2,3] (jq [jf 7 1 1 [],jl 8 7 [7],jf 9 1 3 [],⟨none,.store 1 (.v 9) (.v 8),none,[8,9]⟩] [1,2,3] (jq [jf 10 2 1 [1],jl 11 10 [10],jn 12 (.call 25 [.v 11]) [11],jf 13 2 3 [],⟨none,.store 1 (.v 13) (.v 12),none,[12,13]⟩] [2,3] (jq [jL 14 3 3 [3],⟨none,.store 3 (.v 2) (.v 14),none,[14]⟩] [2] .ret)))))) }
theorem V0 : QS Go.Proofs.Tryz.prog 84 Xb = true := by kernel_rfl
/-- laws.toHandSeen: function 85 -/
def V1 : SFun := { n := 11,res := [.cN 2 2],body := (jq [jn 1 (.box 101 (.v 0)) [0],jn 2 (.alloc 102 [.str ⟨#[]⟩,.int .i64 0]) []] [1,2] (jq [jn 3 (.alloc 103 [.str ⟨#[]⟩,.int .i64 0]) []] [1,2,3] (jq [jf 4 0 1 [],jl 5 4 [4],jf 6 0 3 [],⟨none,.store 1 (.v 6) (.v 5),none,[5,6]⟩] [1,2,3] (jq [jf 7 1 1 [1],jl 8 7 [7],jf 9 1 3 [],⟨none,.store 1 (.v 9) (.v 8),none,[8,9]⟩] [2,3] (jq [jL 10 2 3 [3],⟨none,.store 2 (.v 2) (.v 10),none,[10]⟩] [2] .ret))))) }
theorem Qeq : QS Go.Proofs.Tryz.prog 85 V1 = true := by kernel_rfl
/-- impl.zoneAt: function 86 -/
def Qcy : SFun := { n := 8,res := [.t 4],body := (jq [jn 3 (.box 103 (.v 1)) [1],jI 4 0 [4]] [0,3] (jq [jm 5 0 [0],jn 6 (.clos 114 [.v 3]) [3],jn 7 (.call 113 [.v 5,.v 6]) [5,6],jm 4 7 [7]] [4] .ret)) }
theorem Qil : QS Go.Proofs.Tryz.prog 86 Qcy = true := by kernel_rfl
/-- laws.eqHandOwn: function 91 -/
def WI : SFun := { n := 63,res := [.t 4],body := (jq [jn 2 (.box 102 (.v 0)) [0],jn 3 (.box 103 (.v 1)) [1],jn 4 (.mv (.c (.bool false))) [4]] [2,3] (.seq (jq [jf 5 0 2 [],jl 6 5 [5],jf 7 0 3 [],jl 8 7 [7],jb 9 .neq 6 8 [6,8]] [2,3,9] (.cond (.v 9) (jq [jn 4 (.mv (.c (.bool false))) []] [4] .ret) .skip)) (.seq (jq [jf 10 1 2 [],jl 11 10 [10],jf 12 1 3 [],jl 13 12 [12],jb 14 .neq 11 13 [11,13]] [2,3,14] (.cond (.v 14) (jq [jn 4 (.mv (.c (.bool false))) []] [4] .ret) .skip)) (.seq (jq [jf 15 2 2 [],jl 16 15 [15],jf 17 2 3 [],jl 18 17 [17],jb 19 .neq 16 18 [16,18]] [2,3,19] (.cond (.v 19) (jq [jn 4 (.mv (.c (.bool false))) []] [4] .ret) .skip)) (.seq (jq [jf 20 3 2 [],jl 21 20 [20],jf 22 3 3 [],jl 23 22 [22],jb 24 .neq 21 23 [21,23]] [2,3,24] (.cond (.v 24) (jq [jn 4 (.mv (.c (.bool false))) []] [4] .ret) .skip)) (.seq (jq [jf 25 4 2 [],jl 26 25 [25],jf 27 4 3 [],jl 28 27 [27],jb 29 .neq 26 28 [26,28]] [2,3,29] (.cond (.v 29) (jq [jn 4 (.mv (.c (.bool false))) []] [4] .ret) .skip)) (.seq (jq [jf 30 5 2 [],jl 31 30 [30],jf 32 5 3 [],jl 33 32 [32],jb 34 .neq 31 33 [31,33]] [2,3,34] (.cond (.v 34) (jq [jn 4 (.mv (.c (.bool false))) []] [4] .ret) .skip)) (.seq (jq [jf 35 6 2 [],jl 36 35 [35],jf 37 6 3 [],jl 38 37 [37],jn 39 (.call 27 [.v 36,.v 38]) [36,38],jn 40 (.not (.v 39)) [39]] [2,3,40] (.cond (.v 40) (jq [jn 4 (.mv (.c (.bool false))) []] [4] .ret) .skip)) (.seq (jq [jf 41 7 2 [],jl 42 41 [41],jf 43 7 3 [],jl 44 43 [43],jb 45 .neq 42 44 [42,44]] [2,3,45] (.cond (.v 45) (jq [jn 4 (.mv (.c (.bool false))) []] [4] .ret) .skip)) (.seq (jq [jf 46 8 2 [],jl 47 46 [46],jf 48 8 3 [],jl 49 48 [48],jn 50 (.call 27 [.v 47,.v 49]) [47,49],jn 51 (.not (.v 50)) [50]] [2,3,51] (.cond (.v 51) (jq [jn 4 (.mv (.c (.bool false))) []] [4] .ret) .skip)) (.seq (jq [jf 52 9 2 [],jl 53 52 [52],jf 54 9 3 [],jl 55 54 [54],jn 56 (.call 117 [.v 53,.v 55]) [53,55],jn 57 (.not (.v 56)) [56]] [2,3,57] (.cond (.v 57) (jq [jn 4 (.mv (.c (.bool false))) []] [4] .ret) .skip)) (.seq (jq [jf 58 10 2 [2],jl 59 58 [58],jf 60 10 3 [3],jl 61 60 [60],jn 62 (.eqB true (.v 59) (.v 61)) [59,61]] [62] (.cond (.v 62) (jq [jn 4 (.mv (.c (.bool false))) []] [4] .ret) .skip)) (jq [jn 4 (.mv (.c (.bool true))) []] [4] .ret))))))))))))) }
theorem Qfd : QS Go.Proofs.Tryz.prog 91 WI = true := by kernel_rfl
/-- laws.eqHandPart: function 92 -/
def V2 : SFun := { n := 21,res := [.t 4],body := (jq [jn 2 (.box 102 (.v 0)) [0],jn 3 (.box 103 (.v 1)) [1],jn 4 (.mv (.c (.bool false))) [4]] [2,3] (.seq (jq [jf 5 0 2 [],jl 6 5 [5],jf 7 0 3 [],jl 8 7 [7],jb 9 .neq 6 8 [6,8]] [2,3,9] (.cond (.v 9) (jq [jn 4 (.mv (.c (.bool false))) []] [4] .ret) .skip)) (.seq (jq [jf 10 1 2 [],jl 11 10 [10],jf 12 1 3 [],jl 13 12 [12],jb 14 .neq 11 13 [11,13]] [2,3,14] (.cond (.v 14) (jq [jn 4 (.mv (.c (.bool false))) []] [4] .ret) .skip)) (.seq (jq [jf 15 2 2 [2],jl 16 15 [15],jf 17 2 3 [3],jl 18 17 [17],jn 19 (.call 27 [.v 16,.v 18]) [16,18],jn 20 (.not (.v 19)) [19]] [20] (.cond (.v 20) (jq [jn 4 (.mv (.c (.bool false))) []] [4] .ret) .skip)) (jq [jn 4 (.mv (.c (.bool true))) []] [4] .ret))))) }
theorem Qer : QS Go.Proofs.Tryz.prog 92 V2 = true := by kernel_rfl
/-- laws.eqHandSeen: function 93 -/
def V3 : SFun := { n := 15,res := [.t 4],body := (jq [jn 2 (.box 102 (.v 0)) [0],jn 3 (.box 103 (.v 1)) [1],jn 4 (.mv (.c (.bool false))) [4]] [2,3] (.seq (jq [jf 5 0 2 [],jl 6 5 [5],jf 7 0 3 [],jl 8 7 [7],jb 9 .neq 6 8 [6,8]] [2,3,9] (.cond (.v 9) (jq [jn 4 (.mv (.c (.bool false))) []] [4] .ret) .skip)) (.seq (jq [jf 10 1 2 [2],jl 11 10 [10],jf 12 1 3 [3],jl 13 12 [12],jb 14 .neq 11 13 [11,13]] [14] (.cond (.v 14) (jq [jn 4 (.mv (.c (.bool false))) []] [4] .ret) .skip)) (jq [jn 4 (.mv (.c (.bool true))) []] [4] .ret)))) }
theorem Qes : QS Go.Proofs.Tryz.prog 93 V3 = true := by kernel_rfl
def YD : SCode := (.seq (jq [jm 6 5 [],jm 7 0 [],jn 8 (.lenL (.v 7)) [7],jb 9 .lss 6 8 [6,8]] [0,1,5,9] (.cond (.v 9) .skip (.exit 0))) (.seq (.block 1 (jq [jm 12 0 [],jm 13 5 [],jm 14 1 [],jn 15 (.call 52 [.v 14]) [14],ja 16 1 12 13 [12,13],⟨none,.store 1 (.v 16) (.v 15),none,[15,16]⟩] [0,1,5] (.rg [jm 17 1 [1],jn 18 (.binN .add (.v 17) (ci 1)) [17],jm 1 18 [18]] [0,1,5]))) (.rg [jm 10 5 [5],jn 11 (.binN .add (.v 10) (ci 1)) [10],jm 5 11 [11]] [0,1,5])))
/-- laws.markStringS: function 94 -/
def Uq : SFun := { n := 20,res := [.t 4],body := (jq [jI 4 0 [4]] [0,1] (.seq (jq [jI 5 0 []] [0,1,5] (.block 0 (.loop YD))) (jq [jm 19 1 [1],jm 4 19 [19]] [4] .ret))) }
theorem Qcz : QS Go.Proofs.Tryz.prog 94 Uq = true := by kernel_rfl
/-- impl.HandBook).own: function 96 -/
def ZF : SFun := { n := 9,res := [.t 4],body := (jq [jn 2 (.box 102 (.v 0)) [0],jn 3 (.box 103 (.v 1)) [1],jI 4 0 [4]] [2,3] (jq [jf 5 0 2 [2],jl 6 5 [5],jn 7 (.clos 119 [.v 3]) [3],jn 8 (.call 118 [.v 6,.v 7]) [6,7],jm 4 8 [8]] [4] .ret)) }
theorem QbV : QS Go.Proofs.Tryz.prog 96 ZF = true := by kernel_rfl
def YE : SCode := (.seq (jq [jm 6 5 [],jm 7 0 [],jn 8 (.lenL (.v 7)) [7],jb 9 .lss 6 8 [6,8]] [0,1,5,9] (.cond (.v 9) .skip (.exit 0))) (.seq (.block 1 (.seq (.seq (.rgd [jm 12 0 [],jm 13 5 [],ja 14 1 12 13 [],jl 15 14 [],jm 16 1 [],jn 17 (.call 52 [.v 16]) [],jb 18 .neq 15 17 []] [0,1,5,18] [none,none,some [],some [],none,some [2,1],none]) (.cond (.v 18) (jq [jn 4 (.mv (.c (.int .i64 (-1)))) []] [4] .ret) .skip)) (.rg [jm 19 1 [1],jn 20 (.binN .add (.v 19) (ci 1)) [19],jm 1 20 [20]] [0,1,5]))) (.rg [jm 10 5 [5],jn 11 (.binN .add (.v 10) (ci 1)) [10],jm 5 11 [11]] [0,1,5])))
/-- laws.heldStringS: function 97 -/
def Ur : SFun := { n := 22,res := [.t 4],body := (jq [jI 4 0 [4]] [0,1] (.seq (jq [jI 5 0 []] [0,1,5] (.block 0 (.loop YE))) (jq [jm 21 1 [1],jm 4 21 [21]] [4] .ret))) }
theorem QcA : QS Go.Proofs.Tryz.prog 97 Ur = true := by kernel_rfl
/-- spec.l31Over: function 98 -/
def Qbz : SFun := { n := 21,res := [.t 4],body := (jq [jn 2 (.box 102 (.v 0)) [0],jn 3 (.box 103 (.v 1)) [1],jn 4 (.mv (.c (.bool false))) [4]] [2,3] (jq [jf 5 0 3 [],jl 6 5 [5],jf 7 1 2 [],jl 8 7 [7],jf 9 3 2 [],jl 10 9 [9],jn 11 (.call 80 [.v 6,.v 8,.v 10]) [6,8,10],jm 12 11 [11],jt 13 12 (.faddr 1 (.v 3)) [3],jt 14 12 (.load1 (.v 13)) [13],jt 15 12 (.faddr 2 (.v 2)) [],jt 16 12 (.load1 (.v 15)) [15],jt 17 12 (.faddr 4 (.v 2)) [2],jt 18 12 (.load1 (.v 17)) [17],jt 19 12 (.call 80 [.v 14,.v 16,.v 18]) [14,16,18],jn 20 (.pick (.v 12) (.v 19) (.c (.bool false))) [12,19],jm 4 20 [20]] [4] .ret)) }
theorem Qhp : QS Go.Proofs.Tryz.prog 98 Qbz = true := by kernel_rfl
/-- spec.l31BoxOk: function 99 -/
def Qal : SFun := { n := 35,res := [.t 2],body := (jq [jn 1 (.box 101 (.v 0)) [0],jn 2 (.mv (.c (.bool false))) [2]] [1] (jq [jf 3 0 1 [],jl 4 3 [3],jn 5 (.call 80 [.v 4,.c (.int .i64 0),.c (.int .i64 15)]) [4],jm 6 5 [5],jt 7 6 (.faddr 1 (.v 1)) [],jt 8 6 (.load1 (.v 7)) [7],jt 9 6 (.call 80 [.v 8,.c (.int .i64 0),.c (.int .i64 15)]) [8],jn 10 (.pick (.v 6) (.v 9) (.c (.bool false))) [6,9],jm 11 10 [10],jt 12 11 (.faddr 2 (.v 1)) [],jt 13 11 (.load1 (.v 12)) [12],jt 14 11 (.faddr 3 (.v 1)) [],jt 15 11 (.load1 (.v 14)) [14],jt 16 11 (.call 80 [.v 13,.c (.int .i64 0),.v 15]) [13,15],jn 17 (.pick (.v 11) (.v 16) (.c (.bool false))) [11,16],jm 18 17 [17],jt 19 18 (.faddr 3 (.v 1)) [],jt 20 18 (.load1 (.v 19)) [19],jt 21 18 (.bin .leq (.v 20) (ci 6)) [20],jn 22 (.pick (.v 18) (.v 21) (.c (.bool false))) [18,21],jm 23 22 [22],jt 24 23 (.faddr 4 (.v 1)) [],jt 25 23 (.load1 (.v 24)) [24],jt 26 23 (.faddr 5 (.v 1)) [],jt 27 23 (.load1 (.v 26)) [26],jt 28 23 (.call 80 [.v 25,.c (.int .i64 0),.v 27]) [25,27],jn 29 (.pick (.v 23) (.v 28) (.c (.bool false))) [23,28],jm 30 29 [29],jt 31 30 (.faddr 5 (.v 1)) [1],jt 32 30 (.load1 (.v 31)) [31],jt 33 30 (.bin .leq (.v 32) (ci 10000)) [32],jn 34 (.pick (.v 30) (.v 33) (.c (.bool false))) [30,33],jm 2 34 [34]] [2] .ret)) }
theorem Qgn : QS Go.Proofs.Tryz.prog 99 Qal = true := by kernel_rfl
def Qam : SCode := (jq [jb 14 .lss 13 12 []] [0,11,12,13,14] (.seq (.cond (.v 14) .skip (.exit 0)) (.seq (.block 1 (jq [ja 15 6 11 13 [],jL 16 6 15 [15],jn 6 (.alloc 106 [.int .i64 0,.int .i64 0,.int .i64 0,.int .i64 0,.int .i64 0,.int .i64 0]) [],⟨none,.store 6 (.v 6) (.v 16),none,[16]⟩] [0,6,11,12,13] (jq [jL 17 6 6 [],jn 18 (.call 121 [.v 17]) [17],jn 19 (.not (.v 18)) [18],jm 20 19 [19],jM 21 20 0 [],jh 22 20 (.clos 123 [.v 6]) [6],jh 23 20 (.call 122 [.v 21,.v 22]) [21,22],jh 24 20 (.not (.v 23)) [23],jp 25 20 24 [20,24]] [0,11,12,13,25] (.cond (.v 25) (jq [jn 4 (.mv (.c (.bool false))) []] [4] .ret) .skip)))) (.rg [jn 26 (.binN .add (.v 13) (ci 1)) [13],jm 13 26 [26]] [0,11,12,13]))))
/-- impl.tubeOk: function 100 -/
def QcB : SFun := { n := 27,res := [.t 4],body := (jq [jn 4 (.mv (.c (.bool false))) [4]] [0,1] (.seq (jq [jm 7 1 [],jn 8 (.lenL (.v 7)) [7],jn 9 (.call 120 [.v 8,.c (.int .i64 1),.c (.int .i64 20)]) [8],jn 10 (.not (.v 9)) [9]] [0,1,10] (.cond (.v 10) (jq [jn 4 (.mv (.c (.bool false))) []] [4] .ret) .skip)) (.seq (jq [jm 11 1 [1],jn 12 (.lenL (.v 11)) [],jI 13 0 []] [0,11,12,13] (.block 0 (.loop Qam))) (jq [jn 4 (.mv (.c (.bool true))) []] [4] .ret)))) }
theorem Qim : QS Go.Proofs.Tryz.prog 100 QcB = true := by kernel_rfl
def X4 : SCode := (jq [jb 78 .lss 77 76 []] [0,4,11,12,13,75,76,77,78] (.seq (.cond (.v 78) .skip (.exit 2)) (.seq (.block 3 (jq [ja 79 5 75 77 [],jL 80 5 79 [79],jn 6 (.alloc 106 [.str ⟨#[]⟩,.int .i64 0,.int .i64 0,.int .i64 0,.int .i64 0]) [],⟨none,.store 5 (.v 6) (.v 80),none,[80]⟩] [0,4,6,11,12,13,75,76,77] (jq [jf 81 1 6 [],jl 82 81 [81],jf 83 3 4 [],jl 84 83 [83],jb 85 .leq 82 84 [82,84],jm 86 85 [85],jt 87 86 (.faddr 1 (.v 4)) [],jt 88 86 (.load1 (.v 87)) [87],jt 89 86 (.faddr 3 (.v 6)) [],jt 90 86 (.load1 (.v 89)) [89],jt 91 86 (.bin .leq (.v 88) (.v 90)) [88,90],jn 92 (.pick (.v 86) (.v 91) (.c (.bool false))) [86,91],jm 93 92 [92],jt 94 93 (.faddr 2 (.v 6)) [],jt 95 93 (.load1 (.v 94)) [94],jt 96 93 (.faddr 4 (.v 4)) [],jt 97 93 (.load1 (.v 96)) [96],jt 98 93 (.bin .leq (.v 95) (.v 97)) [95,97],jn 99 (.pick (.v 93) (.v 98) (.c (.bool false))) [93,98],jm 100 99 [99],jt 101 100 (.faddr 2 (.v 4)) [],jt 102 100 (.load1 (.v 101)) [101],jt 103 100 (.faddr 4 (.v 6)) [6],jt 104 100 (.load1 (.v 103)) [103],jt 105 100 (.bin .leq (.v 102) (.v 104)) [102,104],jn 106 (.pick (.v 100) (.v 105) (.c (.bool false))) [100,105]] [0,4,11,12,13,75,76,77,106] (.cond (.v 106) (jq [jn 2 (.mv (.c (.bool false))) []] [2] .ret) .skip)))) (.rg [jn 107 (.binN .add (.v 77) (ci 1)) [77],jm 77 107 [107]] [0,4,11,12,13,75,76,77]))))
def X5 : SCode := (jq [jb 14 .lss 13 12 []] [0,11,12,13,14] (.seq (.cond (.v 14) .skip (.exit 0)) (.seq (.block 1 (jq [jm 15 13 [],ja 16 5 11 13 [],jL 17 5 16 [16],jn 4 (.alloc 104 [.str ⟨#[]⟩,.int .i64 0,.int .i64 0,.int .i64 0,.int .i64 0]) [],jm 3 15 [15],⟨none,.store 5 (.v 4) (.v 17),none,[17]⟩] [0,3,4,11,12,13] (.seq (.seq (.rgd [jf 18 0 4 [],jl 19 18 [],jn 20 (.call 103 [.v 19]) [],jn 21 (.not (.v 20)) [],jm 22 21 [],jh 23 22 (.faddr 1 (.v 4)) [],jh 24 22 (.load1 (.v 23)) [],jh 25 22 (.bin .leq (ci 0) (.v 24)) [],jM 26 22 25 [],jt 27 26 (.faddr 1 (.v 4)) [],jt 28 26 (.load1 (.v 27)) [],jt 29 26 (.faddr 3 (.v 4)) [],jt 30 26 (.load1 (.v 29)) [],jt 31 26 (.bin .leq (.v 28) (.v 30)) [],jh 32 22 (.pick (.v 26) (.v 31) (.c (.bool false))) [],jM 33 22 32 [],jt 34 33 (.faddr 3 (.v 4)) [],jt 35 33 (.load1 (.v 34)) [],jt 36 33 (.bin .lss (.v 35) (ci 16)) [],jh 37 22 (.pick (.v 33) (.v 36) (.c (.bool false))) [],jh 38 22 (.not (.v 37)) [],jp 39 22 38 [],jm 40 39 [],jh 41 40 (.faddr 2 (.v 4)) [],jh 42 40 (.load1 (.v 41)) [],jh 43 40 (.bin .leq (ci 0) (.v 42)) [],jM 44 40 43 [],jt 45 44 (.faddr 2 (.v 4)) [],jt 46 44 (.load1 (.v 45)) [],jt 47 44 (.faddr 4 (.v 4)) [],jt 48 44 (.load1 (.v 47)) [],jt 49 44 (.bin .leq (.v 46) (.v 48)) [],jh 50 40 (.pick (.v 44) (.v 49) (.c (.bool false))) [],jM 51 40 50 [],jt 52 51 (.faddr 4 (.v 4)) [],jt 53 51 (.load1 (.v 52)) [],jt 54 51 (.bin .lss (.v 53) (ci 16)) [],jh 55 40 (.pick (.v 51) (.v 54) (.c (.bool false))) [],jh 56 40 (.not (.v 55)) [],jp 57 40 56 [],jm 58 57 [],jM 59 58 3 [],jh 60 58 (.bin .gtr (.v 59) (ci 0)) [],jM 61 58 60 [],jt 62 61 (.faddr 0 (.v 4)) [],jt 63 61 (.load1 (.v 62)) [],jt 64 61 (.mv (.v 0)) [],jt 65 61 (.mv (.v 3)) [],jt 66 61 (.binN .sub (.v 65) (ci 1)) [],jt 67 61 (.iaddr 5 (.v 64) (.v 66)) [],jt 68 61 (.faddr 0 (.v 67)) [],jt 69 61 (.load1 (.v 68)) [],jt 70 61 (.bin .leq (.v 63) (.v 69)) [],jh 71 58 (.pick (.v 61) (.v 70) (.c (.bool false))) [],jp 72 58 71 []] [0,3,4,11,12,13,72] [none,none,none,none,none,none,none,none,none,none,none,none,none,none,none,none,none,none,none,none,none,none,none,none,none,none,none,none,none,none,none,none,none,none,none,none,none,none,none,none,none,none,none,none,none,none,none,none,none,none,none,none,none,none,none]) (.cond (.v 72) (jq [jn 2 (.mv (.c (.bool false))) []] [2] .ret) .skip)) (jq [jm 73 0 [],jm 74 3 [3],jn 75 (.slSl 5 (.v 73) none (some (.v 74))) [73,74],jn 76 (.lenL (.v 75)) [],jI 77 0 []] [0,4,11,12,13,75,76,77] (.block 2 (.loop X4)))))) (.rg [jn 108 (.binN .add (.v 13) (ci 1)) [13],jm 13 108 [108]] [0,11,12,13]))))
/-- impl.HandZonesOk: function 101 -/
def Us : SFun := { n := 109,res := [.t 2],body := (jq [jn 2 (.mv (.c (.bool false))) [2]] [0] (.seq (jq [jm 7 0 [],jn 8 (.lenL (.v 7)) [7],jn 9 (.call 120 [.v 8,.c (.int .i64 1),.c (.int .i64 4)]) [8],jn 10 (.not (.v 9)) [9]] [0,10] (.cond (.v 10) (jq [jn 2 (.mv (.c (.bool false))) []] [2] .ret) .skip)) (.seq (jq [jm 11 0 [],jn 12 (.lenL (.v 11)) [],jI 13 0 []] [0,11,12,13] (.block 0 (.loop X5))) (jq [jn 2 (.mv (.c (.bool true))) []] [2] .ret)))) }
theorem QcC : QS Go.Proofs.Tryz.prog 101 Us = true := by kernel_rfl
def ZG : SCode := (.rg [jf 19 0 3 [],jl 20 19 [19],jn 21 (.lenL (.v 20)) [20],jc 22 .gtr 21 6 [21],jm 23 22 [22],jh 24 23 (.faddr 1 (.v 3)) [],jh 25 23 (.load1 (.v 24)) [24],jh 26 23 (.lenL (.v 25)) [25],jh 27 23 (.bin .gtr (.v 26) (ci 16)) [26],jp 28 23 27 [23,27],jm 29 28 [28],jh 30 29 (.faddr 2 (.v 3)) [],jh 31 29 (.load1 (.v 30)) [30],jh 32 29 (.lenL (.v 31)) [31],jh 33 29 (.bin .gtr (.v 32) (ci 6)) [32],jp 34 29 33 [29,33]] [2,3,34])
def ZH : SCode := (.rgd [jf 43 0 6 [],jl 44 43 [],jn 45 (.call 103 [.v 44]) [],jn 46 (.not (.v 45)) [],jm 47 46 [],jM 48 47 5 [],jh 49 47 (.bin .gtr (.v 48) (ci 0)) [],jM 50 47 49 [],jt 51 50 (.faddr 0 (.v 6)) [],jt 52 50 (.load1 (.v 51)) [],jt 53 50 (.faddr 0 (.v 3)) [],jt 54 50 (.load1 (.v 53)) [],jt 55 50 (.mv (.v 5)) [],jt 56 50 (.binN .sub (.v 55) (ci 1)) [],jt 57 50 (.iaddr 11 (.v 54) (.v 56)) [],jt 58 50 (.faddr 0 (.v 57)) [],jt 59 50 (.load1 (.v 58)) [],jt 60 50 (.bin .leq (.v 52) (.v 59)) [],jh 61 47 (.pick (.v 50) (.v 60) (.c (.bool false))) [],jp 62 47 61 [],jm 63 62 [],jh 64 63 (.faddr 1 (.v 6)) [],jh 65 63 (.load1 (.v 64)) [],jh 66 63 (.call 120 [.v 65,.c (.int .i64 1),.c (.int .i64 3)]) [],jh 67 63 (.not (.v 66)) [],jp 68 63 67 [],jm 69 68 [],jh 70 69 (.faddr 2 (.v 6)) [],jh 71 69 (.load1 (.v 70)) [],jh 72 69 (.call 125 [.v 71]) [],jh 73 69 (.not (.v 72)) [],jp 74 69 73 [],jm 75 74 [],jh 76 75 (.faddr 4 (.v 6)) [],jh 77 75 (.load1 (.v 76)) [],jh 78 75 (.call 120 [.v 77,.c (.int .i64 0),.c (.int .i64 1000000)]) [],jh 79 75 (.not (.v 78)) [],jp 80 75 79 [],jm 81 80 [],jh 82 81 (.faddr 5 (.v 6)) [],jh 83 81 (.load1 (.v 82)) [],jh 84 81 (.faddr 4 (.v 6)) [],jh 85 81 (.load1 (.v 84)) [],jh 86 81 (.call 120 [.v 83,.c (.int .i64 0),.v 85]) [],jh 87 81 (.not (.v 86)) [],jp 88 81 87 [],jm 89 88 [],jh 90 89 (.faddr 7 (.v 6)) [],jh 91 89 (.load1 (.v 90)) [],jh 92 89 (.faddr 4 (.v 6)) [],jh 93 89 (.load1 (.v 92)) [],jh 94 89 (.call 120 [.v 91,.c (.int .i64 0),.v 93]) [],jh 95 89 (.not (.v 94)) [],jp 96 89 95 [],jm 97 96 [],jh 98 97 (.faddr 7 (.v 6)) [],jh 99 97 (.load1 (.v 98)) [],jh 100 97 (.bin .neq (.v 99) (ci 0)) [],jM 101 97 100 [],jt 102 101 (.faddr 7 (.v 6)) [],jt 103 101 (.load1 (.v 102)) [],jt 104 101 (.faddr 5 (.v 6)) [],jt 105 101 (.load1 (.v 104)) [],jt 106 101 (.bin .leq (.v 103) (.v 105)) [],jh 107 97 (.pick (.v 101) (.v 106) (.c (.bool false))) [],jp 108 97 107 []] [2,3,6,36,37,38,108] [none,none,none,none,none,none,none,none,none,none,none,none,none,none,none,none,none,none,none,none,none,none,none,none,none,none,none,none,none,none,none,none,none,none,none,none,none,none,none,none,none,none,none,none,none,none,none,none,none,none,none,none,none,none,none,none,none,none,none,none,none,none,none,none,none,none])
def ZI : SCode := (.rg [jm 112 7 [],jf 113 3 6 [],jl 114 113 [113],⟨some 115,.bin .eql (.v 114) (.c (.str ⟨#[]⟩)),none,[114]⟩,jn 116 (.eqB true (.v 112) (.v 115)) [112,115],jm 117 116 [116],jM 118 117 7 [],jh 119 117 (.not (.v 118)) [118],jM 120 117 119 [119],jt 121 120 (.load1 (.v 2)) [],jt 122 120 (.faddr 3 (.v 6)) [],jt 123 120 (.load1 (.v 122)) [122],jt 124 120 (.call 86 [.v 121,.v 123]) [121,123],jt 125 120 (.bin .lss (.v 124) (ci 0)) [124],jh 126 117 (.pick (.v 120) (.v 125) (.c (.bool false))) [120,125],jp 127 117 126 [117,126],jm 128 127 [127],jM 129 128 7 [7],jh 130 128 (.not (.v 129)) [129],jM 131 128 130 [130],jt 132 131 (.faddr 7 (.v 6)) [],jt 133 131 (.load1 (.v 132)) [132],jt 134 131 (.bin .neq (.v 133) (ci 0)) [133],jh 135 128 (.pick (.v 131) (.v 134) (.c (.bool false))) [131,134],jp 136 128 135 [128,135]] [2,3,6,36,37,38,136])
def ZJ : SCode := (.rg [jf 138 1 6 [],jl 139 138 [138],jc 140 .eql 139 2 [139],jm 141 140 [140],jt 142 141 (.faddr 5 (.v 6)) [],jt 143 141 (.load1 (.v 142)) [142],jt 144 141 (.bin .eql (.v 143) (ci 0)) [143],jn 145 (.pick (.v 141) (.v 144) (.c (.bool false))) [141,144],jm 146 145 [145],jM 147 146 8 [],jh 148 146 (.faddr 5 (.v 6)) [],jh 149 146 (.load1 (.v 148)) [148],jh 150 146 (.faddr 6 (.v 6)) [],jh 151 146 (.load1 (.v 150)) [150],jh 152 146 (.callV (.v 147) [.v 149,.v 151]) [147,149,151],jh 153 146 (.not (.v 152)) [152],jp 154 146 153 [146,153],jm 155 154 [154],jM 156 155 8 [8],jh 157 155 (.faddr 7 (.v 6)) [],jh 158 155 (.load1 (.v 157)) [157],jh 159 155 (.faddr 8 (.v 6)) [],jh 160 155 (.load1 (.v 159)) [159],jh 161 155 (.callV (.v 156) [.v 158,.v 160]) [156,158,160],jh 162 155 (.not (.v 161)) [161],jp 163 155 162 [155,162]] [2,3,6,36,37,38,163])
def ZK : SCode := (.rg [jm 176 10 [],jc 177 .gtr 176 0 [176],jm 178 177 [177],jt 179 178 (.mv (.v 11)) [],jt 180 178 (.faddr 9 (.v 6)) [],jt 181 178 (.load1 (.v 180)) [180],jt 182 178 (.mv (.v 10)) [10],jt 183 178 (.binN .sub (.v 182) (ci 1)) [182],jt 184 178 (.iaddr 1 (.v 181) (.v 183)) [181,183],jt 185 178 (.load1 (.v 184)) [184],jt 186 178 (.bin .leq (.v 179) (.v 185)) [179,185],jn 187 (.pick (.v 178) (.v 186) (.c (.bool false))) [178,186],jm 188 187 [187],jM 189 188 9 [],jM 190 188 11 [11],jh 191 188 (.call 116 [.v 189,.v 190]) [189,190],jh 192 188 (.not (.v 191)) [191],jp 193 188 192 [188,192]] [2,3,6,9,36,37,38,169,170,171,193])
def Qan : SCode := (jq [jb 172 .lss 171 170 []] [2,3,6,9,36,37,38,169,170,171,172] (.seq (.cond (.v 172) .skip (.exit 2)) (.seq (.block 3 (jq [jm 173 171 [],ja 174 1 169 171 [],jl 175 174 [174],jm 10 173 [173],jm 11 175 [175]] [2,3,6,9,10,11,36,37,38,169,170,171] (.seq ZK (.cond (.v 193) (jq [jn 4 (.mv (.c (.bool false))) []] [4] .ret) .skip)))) (.rg [jn 194 (.binN .add (.v 171) (ci 1)) [171],jm 171 194 [194]] [2,3,6,9,36,37,38,169,170,171]))))
def ZL : SCode := (.rgd [jf 195 10 6 [],jl 196 195 [],jf 197 7 6 [],jl 198 197 [],jc 199 .gtr 198 0 [],jm 200 199 [],jt 201 200 (.faddr 9 (.v 6)) [],jt 202 200 (.load1 (.v 201)) [],jt 203 200 (.mv (.v 9)) [],jt 204 200 (.call 128 [.v 202,.v 203]) [],jn 205 (.pick (.v 200) (.v 204) (.c (.bool false))) [],jn 206 (.eqB true (.v 196) (.v 205)) []] [2,3,36,37,38,206] [some [],some [],none,none,none,none,none,none,none,some [8,7],none,none])
def Qao : SCode := (jq [jb 39 .lss 38 37 []] [2,3,36,37,38,39] (.seq (.cond (.v 39) .skip (.exit 0)) (.seq (.block 1 (jq [jm 40 38 [],ja 41 11 36 38 [],jL 42 11 41 [41],jn 6 (.alloc 106 [.str ⟨#[]⟩,.int .i64 0,.int .i64 0,.str ⟨#[]⟩,.int .i64 0,.int .i64 0,.sl 0 6 [],.int .i64 0,.sl 0 6 [],.sl 0 1 [],.bool false]) [],jm 5 40 [40],⟨none,.store 11 (.v 6) (.v 42),none,[42]⟩] [2,3,5,6,36,37,38] (.seq (.seq ZH (.cond (.v 108) (jq [jn 4 (.mv (.c (.bool false))) []] [4] .ret) .skip)) (jq [jf 109 1 6 [],jl 110 109 [109],jc 111 .eql 110 1 [110],jm 7 111 [111]] [2,3,6,7,36,37,38] (.seq (.seq ZI (.cond (.v 136) (jq [jn 4 (.mv (.c (.bool false))) []] [4] .ret) .skip)) (jq [jn 137 (.clos 126 [.v 2]) [],jm 8 137 [137]] [2,3,6,8,36,37,38] (.seq (.seq ZJ (.cond (.v 163) (jq [jn 4 (.mv (.c (.bool false))) []] [4] .ret) .skip)) (jq [jl 164 2 [],jf 165 8 6 [],jl 166 165 [165],jn 167 (.call 127 [.v 164,.v 166]) [164,166],jm 9 167 [167]] [2,3,6,9,36,37,38] (.seq (jq [jf 168 9 6 [],jl 169 168 [168],jn 170 (.lenL (.v 169)) [],jI 171 0 []] [2,3,6,9,36,37,38,169,170,171] (.block 2 (.loop Qan))) (.seq ZL (.cond (.v 206) (jq [jn 4 (.mv (.c (.bool false))) []] [4] .ret) .skip))))))))))) (.rg [jn 207 (.binN .add (.v 38) (ci 1)) [38],jm 38 207 [207]] [2,3,36,37,38]))))
def ZM : SCode := (.rgd [jf 216 0 13 [],jl 217 216 [],jn 218 (.call 103 [.v 217]) [],jn 219 (.not (.v 218)) [],jm 220 219 [],jh 221 220 (.faddr 1 (.v 13)) [],jh 222 220 (.load1 (.v 221)) [],jh 223 220 (.call 125 [.v 222]) [],jh 224 220 (.not (.v 223)) [],jp 225 220 224 [],jm 226 225 [],jM 227 226 12 [],jh 228 226 (.bin .gtr (.v 227) (ci 0)) [],jM 229 226 228 [],jt 230 229 (.faddr 0 (.v 13)) [],jt 231 229 (.load1 (.v 230)) [],jt 232 229 (.faddr 2 (.v 3)) [],jt 233 229 (.load1 (.v 232)) [],jt 234 229 (.mv (.v 12)) [],jt 235 229 (.binN .sub (.v 234) (ci 1)) [],jt 236 229 (.iaddr 2 (.v 233) (.v 235)) [],jt 237 229 (.faddr 0 (.v 236)) [],jt 238 229 (.load1 (.v 237)) [],jt 239 229 (.bin .leq (.v 231) (.v 238)) [],jh 240 226 (.pick (.v 229) (.v 239) (.c (.bool false))) [],jp 241 226 240 []] [2,3,209,210,211,241] [none,none,none,none,none,none,none,none,none,none,none,none,none,none,none,none,none,none,none,none,none,none,none,none,none,none])
def Qap : SCode := (jq [jb 212 .lss 211 210 []] [2,3,209,210,211,212] (.seq (.cond (.v 212) .skip (.exit 4)) (.seq (.block 5 (jq [jm 213 211 [],ja 214 2 209 211 [],jL 215 2 214 [214],jn 13 (.alloc 113 [.str ⟨#[]⟩,.int .i64 0]) [],jm 12 213 [213],⟨none,.store 2 (.v 13) (.v 215),none,[215]⟩] [2,3,12,13,209,210,211] (.seq ZM (.cond (.v 241) (jq [jn 4 (.mv (.c (.bool false))) []] [4] .ret) .skip)))) (.rg [jn 242 (.binN .add (.v 211) (ci 1)) [211],jm 211 242 [242]] [2,3,209,210,211]))))
def ZN : SCode := (.rgd [jf 251 0 15 [],jl 252 251 [],jn 253 (.call 103 [.v 252]) [],jn 254 (.not (.v 253)) [],jm 255 254 [],jh 256 255 (.faddr 1 (.v 15)) [],jh 257 255 (.load1 (.v 256)) [],jh 258 255 (.loadN 3 (.v 3)) [],jh 259 255 (.faddr 0 (.v 15)) [],jh 260 255 (.load1 (.v 259)) [],jh 261 255 (.call 129 [.v 258,.v 260]) [],jh 262 255 (.call 120 [.v 257,.c (.int .i64 1),.v 261]) [],jh 263 255 (.not (.v 262)) [],jp 264 255 263 [],jm 265 264 [],jh 266 265 (.load1 (.v 2)) [],jh 267 265 (.faddr 2 (.v 15)) [],jh 268 265 (.load1 (.v 267)) [],jh 269 265 (.call 100 [.v 266,.v 268]) [],jh 270 265 (.not (.v 269)) [],jp 271 265 270 []] [2,3,14,15,244,245,246,271] [none,none,none,none,none,some [],some [],none,none,none,some [4,3],none,none,none,none,none,none,none,none,none,none])
def ZO : SCode := (.rg [jf 280 0 15 [],jl 281 280 [280],jf 282 0 16 [],jl 283 282 [282],jb 284 .lss 281 283 [281,283],jm 285 284 [284],jh 286 285 (.faddr 0 (.v 15)) [],jh 287 285 (.load1 (.v 286)) [286],jh 288 285 (.faddr 0 (.v 16)) [],jh 289 285 (.load1 (.v 288)) [288],jh 290 285 (.bin .eql (.v 287) (.v 289)) [287,289],jM 291 285 290 [290],jt 292 291 (.faddr 1 (.v 15)) [],jt 293 291 (.load1 (.v 292)) [292],jt 294 291 (.faddr 1 (.v 16)) [16],jt 295 291 (.load1 (.v 294)) [294],jt 296 291 (.bin .leq (.v 293) (.v 295)) [293,295],jh 297 285 (.pick (.v 291) (.v 296) (.c (.bool false))) [291,296],jp 298 285 297 [285,297]] [2,3,14,15,244,245,246,298])
def ZP : SCode := (.rg [jf 308 0 18 [],jl 309 308 [308],jf 310 0 15 [],jl 311 310 [310],jb 312 .neq 309 311 [309,311],jm 313 312 [312],jt 314 313 (.faddr 2 (.v 18)) [18],jt 315 313 (.load1 (.v 314)) [314],jt 316 313 (.faddr 2 (.v 15)) [],jt 317 313 (.load1 (.v 316)) [316],jt 318 313 (.call 130 [.v 315,.v 317]) [315,317],jn 319 (.pick (.v 313) (.v 318) (.c (.bool false))) [313,318]] [2,3,15,244,245,246,302,303,304,319])
def ZQ : SCode := (jq [jb 305 .lss 304 303 []] [2,3,15,244,245,246,302,303,304,305] (.seq (.cond (.v 305) .skip (.exit 8)) (.seq (.block 9 (jq [ja 306 3 302 304 [],jL 307 3 306 [306],jn 18 (.alloc 118 [.str ⟨#[]⟩,.int .i64 0,.sl 0 6 []]) [],⟨none,.store 3 (.v 18) (.v 307),none,[307]⟩] [2,3,15,18,244,245,246,302,303,304] (.seq ZP (.cond (.v 319) (jq [jn 4 (.mv (.c (.bool false))) []] [4] .ret) .skip)))) (.rg [jn 320 (.binN .add (.v 304) (ci 1)) [304],jm 304 320 [320]] [2,3,15,244,245,246,302,303,304]))))
def Qaq : SCode := (jq [jb 247 .lss 246 245 []] [2,3,244,245,246,247] (.seq (.cond (.v 247) .skip (.exit 6)) (.seq (.block 7 (jq [jm 248 246 [],ja 249 3 244 246 [],jL 250 3 249 [249],jn 15 (.alloc 115 [.str ⟨#[]⟩,.int .i64 0,.sl 0 6 []]) [],jm 14 248 [248],⟨none,.store 3 (.v 15) (.v 250),none,[250]⟩] [2,3,14,15,244,245,246] (.seq (.seq ZN (.cond (.v 271) (jq [jn 4 (.mv (.c (.bool false))) []] [4] .ret) .skip)) (.seq (jq [jm 272 14 [],jc 273 .gtr 272 0 [272]] [2,3,14,15,244,245,246,273] (.cond (.v 273) (jq [jf 274 1 3 [],jl 275 274 [274],jm 276 14 [],jn 277 (.binN .sub (.v 276) (ci 1)) [276],ja 278 3 275 277 [275,277],jL 279 3 278 [278],jn 16 (.alloc 116 [.str ⟨#[]⟩,.int .i64 0,.sl 0 6 []]) [],⟨none,.store 3 (.v 16) (.v 279),none,[279]⟩] [2,3,14,15,16,244,245,246] (.seq ZO (.cond (.v 298) (jq [jn 4 (.mv (.c (.bool false))) []] [4] .ret) .skip))) .skip)) (jq [jf 299 1 3 [],jl 300 299 [299],jm 301 14 [14],jn 302 (.slSl 3 (.v 300) none (some (.v 301))) [300,301],jn 303 (.lenL (.v 302)) [],jI 304 0 []] [2,3,15,244,245,246,302,303,304] (.block 8 (.loop ZQ))))))) (.rg [jn 321 (.binN .add (.v 246) (ci 1)) [246],jm 246 321 [321]] [2,3,244,245,246]))))
/-- impl.bookOk: function 102 -/
def QcD : SFun := { n := 322,res := [.t 4],body := (jq [jn 2 (.box 102 (.v 0)) [0],jn 3 (.box 103 (.v 1)) [1],jn 4 (.mv (.c (.bool false))) [4]] [2,3] (.seq (.seq ZG (.cond (.v 34) (jq [jn 4 (.mv (.c (.bool false))) []] [4] .ret) .skip)) (.seq (jq [jf 35 0 3 [],jl 36 35 [35],jn 37 (.lenL (.v 36)) [],jI 38 0 []] [2,3,36,37,38] (.block 0 (.loop Qao))) (.seq (jq [jf 208 2 3 [],jl 209 208 [208],jn 210 (.lenL (.v 209)) [],jI 211 0 []] [2,3,209,210,211] (.block 4 (.loop Qap))) (.seq (jq [jf 243 1 3 [],jl 244 243 [243],jn 245 (.lenL (.v 244)) [],jI 246 0 []] [2,3,244,245,246] (.block 6 (.loop Qaq))) (jq [jn 4 (.mv (.c (.bool true))) []] [4] .ret)))))) }
theorem Qin : QS Go.Proofs.Tryz.prog 102 QcD = true := by kernel_rfl
def Qar : SCode := (.seq (jq [jm 13 3 [],jm 14 0 [],jn 15 (.lenS (.v 14)) [14],jb 16 .lss 13 15 [13,15]] [0,3,16] (.cond (.v 16) .skip (.exit 0))) (.seq (.block 1 (jq [jm 19 0 [],jm 20 3 [],jn 21 (.istr (.v 19) (.v 20)) [19,20],jm 4 21 [21]] [0,3,4] (jq [jm 22 4 [],jn 23 (.bin .geq (.v 22) (.c (.int .u8 97))) [22],jm 24 23 [23],jt 25 24 (.mv (.v 4)) [],jt 26 24 (.bin .leq (.v 25) (.c (.int .u8 122))) [25],jn 27 (.pick (.v 24) (.v 26) (.c (.bool false))) [24,26],jm 28 27 [27],jM 29 28 4 [],jh 30 28 (.bin .geq (.v 29) (.c (.int .u8 48))) [29],jM 31 28 30 [30],jt 32 31 (.mv (.v 4)) [],jt 33 31 (.bin .leq (.v 32) (.c (.int .u8 57))) [32],jh 34 28 (.pick (.v 31) (.v 33) (.c (.bool false))) [31,33],jp 35 28 34 [28,34],jm 36 35 [35],jM 37 36 4 [4],jh 38 36 (.bin .eql (.v 37) (.c (.int .u8 45))) [37],jp 39 36 38 [36,38],jn 40 (.not (.v 39)) [39]] [0,3,40] (.cond (.v 40) (jq [jn 2 (.mv (.c (.bool false))) []] [2] .ret) .skip)))) (.rg [jm 17 3 [3],jn 18 (.binN .add (.v 17) (ci 1)) [17],jm 3 18 [18]] [0,3])))
/-- impl.isName: function 103 -/
def QcE : SFun := { n := 41,res := [.t 2],body := (jq [jn 2 (.mv (.c (.bool false))) [2]] [0] (.seq (jq [jm 5 0 [],jn 6 (.lenS (.v 5)) [5],jc 7 .lss 6 1 [6],jm 8 7 [7],jM 9 8 0 [],jh 10 8 (.lenS (.v 9)) [9],jh 11 8 (.bin .gtr (.v 10) (ci 8)) [10],jp 12 8 11 [8,11]] [0,12] (.cond (.v 12) (jq [jn 2 (.mv (.c (.bool false))) []] [2] .ret) .skip)) (.seq (jq [jI 3 0 []] [0,3] (.block 0 (.loop Qar))) (jq [jn 2 (.mv (.c (.bool true))) []] [2] .ret)))) }
theorem Qio : QS Go.Proofs.Tryz.prog 103 QcE = true := by kernel_rfl
def Ut : SCode := (.seq (jq [jm 12 5 [],jm 13 0 [],jn 14 (.lenL (.v 13)) [13],jb 15 .lss 12 14 [12,14]] [0,1,5,15] (.cond (.v 15) .skip (.exit 0))) (.seq (.block 1 (jq [jm 18 1 [1],jm 19 0 [],jm 20 5 [],ja 21 1 19 20 [19,20],jl 22 21 [21],jn 23 (.lenS (.v 22)) [22],jn 24 (.binN .sub (.v 18) (.v 23)) [18,23],jm 1 24 [24]] [0,1,5] (jq [jm 25 1 [],jc 26 .lss 25 0 [25]] [0,1,5,26] (.cond (.v 26) (jq [jn 4 (.mv (.c (.int .i64 (-1)))) []] [4] .ret) .skip)))) (.rg [jm 16 5 [5],jn 17 (.binN .add (.v 16) (ci 1)) [16],jm 5 17 [17]] [0,1,5])))
/-- laws.szStringS: function 105 -/
def WJ : SFun := { n := 28,res := [.t 4],body := (jq [jI 4 0 [4]] [0,1] (jq [jm 6 1 [1],jm 7 0 [],jn 8 (.lenL (.v 7)) [7],jn 9 (.binN .sub (.v 6) (.v 8)) [6,8],jm 1 9 [9]] [0,1] (.seq (jq [jm 10 1 [],jc 11 .lss 10 0 [10]] [0,1,11] (.cond (.v 11) (jq [jn 4 (.mv (.c (.int .i64 (-1)))) []] [4] .ret) .skip)) (.seq (jq [jI 5 0 []] [0,1,5] (.block 0 (.loop Ut))) (jq [jm 27 1 [1],jm 4 27 [27]] [4] .ret))))) }
theorem Qfe : QS Go.Proofs.Tryz.prog 105 WJ = true := by kernel_rfl
def Xc : SCode := (.rg [jf 5 0 3 [],jl 6 5 [5],jn 7 (.call 70 [.v 6]) [6],jn 8 (.not (.v 7)) [7],jm 9 8 [8],jh 10 9 (.faddr 1 (.v 3)) [],jh 11 9 (.load1 (.v 10)) [10],jh 12 9 (.call 80 [.v 11,.c (.int .i64 1),.c (.int .i64 3)]) [11],jh 13 9 (.not (.v 12)) [12],jp 14 9 13 [9,13],jm 15 14 [14],jh 16 15 (.faddr 2 (.v 3)) [],jh 17 15 (.load1 (.v 16)) [16],jh 18 15 (.call 80 [.v 17,.c (.int .i64 1),.c (.int .i64 1000000)]) [17],jh 19 15 (.not (.v 18)) [18],jp 20 15 19 [15,19],jm 21 20 [20],jh 22 21 (.faddr 4 (.v 3)) [],jh 23 21 (.load1 (.v 22)) [22],jh 24 21 (.call 80 [.v 23,.c (.int .i64 0),.c (.int .i64 1000000)]) [23],jh 25 21 (.not (.v 24)) [24],jp 26 21 25 [21,25],jm 27 26 [26],jh 28 27 (.faddr 5 (.v 3)) [],jh 29 27 (.load1 (.v 28)) [28],jh 30 27 (.faddr 4 (.v 3)) [],jh 31 27 (.load1 (.v 30)) [30],jh 32 27 (.call 80 [.v 29,.c (.int .i64 0),.v 31]) [29,31],jh 33 27 (.not (.v 32)) [32],jp 34 27 33 [27,33],jm 35 34 [34],jh 36 35 (.faddr 7 (.v 3)) [],jh 37 35 (.load1 (.v 36)) [36],jh 38 35 (.faddr 4 (.v 3)) [],jh 39 35 (.load1 (.v 38)) [38],jh 40 35 (.call 80 [.v 37,.c (.int .i64 0),.v 39]) [37,39],jh 41 35 (.not (.v 40)) [40],jp 42 35 41 [35,41],jm 43 42 [42],jh 44 43 (.faddr 7 (.v 3)) [],jh 45 43 (.load1 (.v 44)) [44],jh 46 43 (.bin .gtr (.v 45) (ci 0)) [45],jM 47 43 46 [46],jt 48 47 (.faddr 7 (.v 3)) [],jt 49 47 (.load1 (.v 48)) [48],jt 50 47 (.faddr 5 (.v 3)) [],jt 51 47 (.load1 (.v 50)) [50],jt 52 47 (.bin .leq (.v 49) (.v 51)) [49,51],jh 53 43 (.pick (.v 47) (.v 52) (.c (.bool false))) [47,52],jp 54 43 53 [43,53]] [0,3,54])
def Xd : SCode := (.rg [jf 55 1 3 [],jl 56 55 [55],jc 57 .eql 56 1 [56],jf 58 3 3 [],jl 59 58 [58],⟨some 60,.bin .eql (.v 59) (.c (.str ⟨#[]⟩)),none,[59]⟩,jn 61 (.eqB true (.v 57) (.v 60)) [57,60],jm 62 61 [61],jh 63 62 (.faddr 3 (.v 3)) [],jh 64 62 (.load1 (.v 63)) [63],⟨some 65,.bin .neq (.v 64) (.c (.str ⟨#[]⟩)),some (62,false),[64]⟩,jM 66 62 65 [65],jt 67 66 (.mv (.v 0)) [],jt 68 66 (.faddr 3 (.v 3)) [],jt 69 66 (.load1 (.v 68)) [68],jt 70 66 (.call 36 [.v 67,.v 69]) [67,69],jt 71 66 (.bin .lss (.v 70) (ci 0)) [70],jh 72 62 (.pick (.v 66) (.v 71) (.c (.bool false))) [66,71],jp 73 62 72 [62,72],jm 74 73 [73],jh 75 74 (.faddr 1 (.v 3)) [],jh 76 74 (.load1 (.v 75)) [75],jh 77 74 (.bin .neq (.v 76) (ci 1)) [76],jM 78 74 77 [77],jt 79 78 (.faddr 7 (.v 3)) [],jt 80 78 (.load1 (.v 79)) [79],jt 81 78 (.bin .gtr (.v 80) (ci 0)) [80],jh 82 74 (.pick (.v 78) (.v 81) (.c (.bool false))) [78,81],jp 83 74 82 [74,82],jm 84 83 [83],jh 85 84 (.faddr 1 (.v 3)) [],jh 86 84 (.load1 (.v 85)) [85],jh 87 84 (.bin .eql (.v 86) (ci 2)) [86],jM 88 84 87 [87],jt 89 88 (.faddr 5 (.v 3)) [],jt 90 88 (.load1 (.v 89)) [89],jt 91 88 (.bin .eql (.v 90) (ci 0)) [90],jh 92 84 (.pick (.v 88) (.v 91) (.c (.bool false))) [88,91],jp 93 84 92 [84,92]] [0,3,93])
def Xe : SCode := (.rg [jm 94 0 [],jf 95 5 3 [],jl 96 95 [95],jf 97 6 3 [],jl 98 97 [97],jn 99 (.call 134 [.v 94,.v 96,.v 98]) [94,96,98],jm 100 99 [99],jt 101 100 (.mv (.v 0)) [],jt 102 100 (.faddr 7 (.v 3)) [],jt 103 100 (.load1 (.v 102)) [102],jt 104 100 (.faddr 8 (.v 3)) [],jt 105 100 (.load1 (.v 104)) [104],jt 106 100 (.call 134 [.v 101,.v 103,.v 105]) [101,103,105],jn 107 (.pick (.v 100) (.v 106) (.c (.bool false))) [100,106],jm 108 107 [107],jt 109 108 (.mv (.v 0)) [0],jt 110 108 (.loadN 11 (.v 3)) [3],jt 111 108 (.call 135 [.v 109,.v 110]) [109,110],jn 112 (.pick (.v 108) (.v 111) (.c (.bool false))) [108,111],jm 4 112 [112]] [4])
/-- spec.l33OwnOk: function 106 -/
def Qas : SFun := { n := 113,res := [.t 4],body := (jq [jn 3 (.box 103 (.v 1)) [1],jn 4 (.mv (.c (.bool false))) [4]] [0,3] (.seq (.seq Xc (.cond (.v 54) (jq [jn 4 (.mv (.c (.bool false))) []] [4] .ret) .skip)) (.seq (.seq Xd (.cond (.v 93) (jq [jn 4 (.mv (.c (.bool false))) []] [4] .ret) .skip)) (.seq Xe .ret)))) }
theorem Qgo : QS Go.Proofs.Tryz.prog 106 Qas = true := by kernel_rfl
def WK : SCode := (.seq (jq [jm 6 5 [],jf 7 2 2 [],jl 8 7 [7],jn 9 (.lenL (.v 8)) [8],jb 10 .lss 6 9 [6,9]] [1,2,5,10] (.cond (.v 10) .skip (.exit 0))) (.seq (.block 1 (jq [jf 13 2 2 [],jl 14 13 [13],jm 15 5 [],ja 16 2 14 15 [14,15],jf 17 0 16 [16],jl 18 17 [17],jm 19 1 [],jb 20 .eql 18 19 [18,19]] [1,2,5,20] (.cond (.v 20) (jq [jf 21 2 2 [2],jl 22 21 [21],jm 23 5 [5],ja 24 2 22 23 [22,23],jf 25 1 24 [24],jl 26 25 [25],jm 4 26 [26]] [4] .ret) .skip))) (.rg [jm 11 5 [5],jn 12 (.binN .add (.v 11) (ci 1)) [11],jm 5 12 [12]] [1,2,5])))
/-- spec.l33Seen: function 107 -/
def QbA : SFun := { n := 27,res := [.t 4],body := (jq [jn 2 (.box 102 (.v 0)) [0],jI 4 0 [4]] [1,2] (.seq (jq [jI 5 0 []] [1,2,5] (.block 0 (.loop WK))) (jq [jI 4 0 []] [4] .ret))) }
theorem Qhq : QS Go.Proofs.Tryz.prog 107 QbA = true := by kernel_rfl
/-- spec.l33Before: function 108 -/
def WL : SFun := { n := 24,res := [.t 4],body := (jq [jn 2 (.box 102 (.v 0)) [0],jn 3 (.box 103 (.v 1)) [1],jn 4 (.mv (.c (.bool false))) [4]] [2,3] (jq [jf 5 0 2 [],jl 6 5 [5],jf 7 0 3 [],jl 8 7 [7],jb 9 .lss 6 8 [6,8],jm 10 9 [9],jh 11 10 (.faddr 0 (.v 2)) [],jh 12 10 (.load1 (.v 11)) [11],jh 13 10 (.faddr 0 (.v 3)) [],jh 14 10 (.load1 (.v 13)) [13],jh 15 10 (.bin .eql (.v 12) (.v 14)) [12,14],jM 16 10 15 [15],jt 17 16 (.faddr 1 (.v 2)) [2],jt 18 16 (.load1 (.v 17)) [17],jt 19 16 (.faddr 1 (.v 3)) [3],jt 20 16 (.load1 (.v 19)) [19],jt 21 16 (.bin .lss (.v 18) (.v 20)) [18,20],jh 22 10 (.pick (.v 16) (.v 21) (.c (.bool false))) [16,21],jp 23 10 22 [10,22],jm 4 23 [23]] [4] .ret)) }
theorem Qff : QS Go.Proofs.Tryz.prog 108 WL = true := by kernel_rfl
def V4 : SCode := (.seq (jq [jm 13 6 [],jm 14 1 [],jn 15 (.lenL (.v 14)) [14],jb 16 .lss 13 15 [13,15]] [0,1,5,6,16] (.cond (.v 16) .skip (.exit 2))) (.seq (.block 3 (.seq (.rgd [jm 19 0 [],jm 20 5 [],ja 21 6 19 20 [],jL 22 6 21 [],jm 23 1 [],jm 24 6 [],ja 25 6 23 24 [],jL 26 6 25 [],jn 27 (.call 136 [.v 22,.v 26]) []] [0,1,5,6,27] [none,none,none,none,none,none,none,none,none]) (.cond (.v 27) (jq [jn 4 (.mv (.c (.bool true))) []] [4] .ret) .skip))) (.rg [jm 17 6 [6],jn 18 (.binN .add (.v 17) (ci 1)) [17],jm 6 18 [18]] [0,1,5,6])))
def V5 : SCode := (.seq (jq [jm 7 5 [],jm 8 0 [],jn 9 (.lenL (.v 8)) [8],jb 10 .lss 7 9 [7,9]] [0,1,5,10] (.cond (.v 10) .skip (.exit 0))) (.seq (.block 1 (jq [jI 6 0 []] [0,1,5,6] (.block 2 (.loop V4)))) (.rg [jm 11 5 [5],jn 12 (.binN .add (.v 11) (ci 1)) [11],jm 5 12 [12]] [0,1,5])))
/-- spec.HandNear: function 109 -/
def Qat : SFun := { n := 28,res := [.t 4],body := (jq [jn 4 (.mv (.c (.bool false))) [4]] [0,1] (.seq (jq [jI 5 0 []] [0,1,5] (.block 0 (.loop V5))) (jq [jn 4 (.mv (.c (.bool false))) []] [4] .ret))) }
theorem Qgp : QS Go.Proofs.Tryz.prog 109 Qat = true := by kernel_rfl
/-- spec.l31ZoneOk: function 110 -/
def WM : SFun := { n := 6,res := [.t 2],body := (jq [jn 1 (.box 101 (.v 0)) [0],jn 2 (.mv (.c (.bool false))) [2]] [1] (jq [jL 3 5 1 [1],jn 4 (.lit 76 5 [.v 3]) [3],jn 5 (.call 77 [.v 4]) [4],jm 2 5 [5]] [2] .ret)) }
theorem Qfg : QS Go.Proofs.Tryz.prog 110 WM = true := by kernel_rfl
/-- spec.l31Sees: function 111 -/
def QbB : SFun := { n := 33,res := [.t 4],body := (jq [jn 2 (.box 102 (.v 0)) [0],jn 3 (.box 103 (.v 1)) [1],jn 4 (.mv (.c (.bool false))) [4]] [2,3] (jq [jL 5 6 3 [],jn 6 (.call 99 [.v 5]) [5],jm 7 6 [6],jt 8 7 (.faddr 0 (.v 3)) [],jt 9 7 (.load1 (.v 8)) [8],jt 10 7 (.faddr 1 (.v 2)) [],jt 11 7 (.load1 (.v 10)) [10],jt 12 7 (.binN .sub (.v 11) (ci 2)) [11],jt 13 7 (.binN .add (.v 12) (ci 1)) [12],jt 14 7 (.faddr 3 (.v 2)) [],jt 15 7 (.load1 (.v 14)) [14],jt 16 7 (.binN .add (.v 15) (ci 2)) [15],jt 17 7 (.binN .sub (.v 16) (ci 1)) [16],jt 18 7 (.call 80 [.v 9,.v 13,.v 17]) [9,13,17],jn 19 (.pick (.v 7) (.v 18) (.c (.bool false))) [7,18],jm 20 19 [19],jt 21 20 (.faddr 1 (.v 3)) [3],jt 22 20 (.load1 (.v 21)) [21],jt 23 20 (.faddr 2 (.v 2)) [],jt 24 20 (.load1 (.v 23)) [23],jt 25 20 (.binN .sub (.v 24) (ci 2)) [24],jt 26 20 (.binN .add (.v 25) (ci 1)) [25],jt 27 20 (.faddr 4 (.v 2)) [2],jt 28 20 (.load1 (.v 27)) [27],jt 29 20 (.binN .add (.v 28) (ci 2)) [28],jt 30 20 (.binN .sub (.v 29) (ci 1)) [29],jt 31 20 (.call 80 [.v 22,.v 26,.v 30]) [22,26,30],jn 32 (.pick (.v 20) (.v 31) (.c (.bool false))) [20,31],jm 4 32 [32]] [4] .ret)) }
theorem Qhr : QS Go.Proofs.Tryz.prog 111 QbB = true := by kernel_rfl
def Uu : SCode := (.seq (jq [jm 8 4 [],jm 9 0 [],jn 10 (.lenL (.v 9)) [9],jb 11 .lss 8 10 [8,10]] [0,3,4,11] (.cond (.v 11) .skip (.exit 0))) (.seq (.block 1 (.rg [jm 14 3 [],jm 15 4 [],jm 16 0 [],jm 17 4 [],ja 18 1 16 17 [16,17],jl 19 18 [18],ja 20 1 14 15 [14,15],⟨none,.store 1 (.v 20) (.v 19),none,[19,20]⟩] [0,3,4])) (.rg [jm 12 4 [4],jn 13 (.binN .add (.v 12) (ci 1)) [12],jm 4 13 [13]] [0,3,4])))
/-- laws.toStringS: function 112 -/
def WN : SFun := { n := 22,res := [.t 2],body := (jq [jn 2 (.mv (.c (.sl 0 1 []))) [2]] [0] (jq [jm 5 0 [],jn 6 (.lenL (.v 5)) [5],⟨some 7,.mk 107 9 1 [.str ⟨#[]⟩] (.v 6),none,[6]⟩,jm 3 7 [7]] [0,3] (.seq (jq [jI 4 0 []] [0,3,4] (.block 0 (.loop Uu))) (jq [jm 21 3 [3],jm 2 21 [21]] [2] (.gh (.frzE 2) .ret))))) }
theorem Qfh : QS Go.Proofs.Tryz.prog 112 WN = true := by kernel_rfl
def KN : SCode := (jq [jb 9 .lss 8 7 []] [0,1,7,8,9] (.seq (.cond (.v 9) .skip (.exit 0)) (.seq (.block 1 (jq [jm 10 8 [],jm 5 10 [10]] [0,1,5,7,8] (jq [jm 11 1 [],jm 12 0 [],jm 13 5 [],ja 14 5 12 13 [12,13],jL 15 5 14 [14],jn 16 (.callV (.v 11) [.v 15]) [11,15]] [0,1,5,7,8,16] (.cond (.v 16) (jq [jm 17 5 [5],jm 4 17 [17]] [4] .ret) .skip)))) (.rg [jn 18 (.binN .add (.v 8) (ci 1)) [8],jm 8 18 [18]] [0,1,7,8]))))
/-- impl.HandZone]: function 113 -/
def Yg : SFun := { n := 19,res := [.t 4],body := (jq [jI 4 0 [4]] [0,1] (.seq (jq [jm 6 0 [],jn 7 (.lenL (.v 6)) [6],jI 8 0 []] [0,1,7,8] (.block 0 (.loop KN))) (jq [jn 4 (.mv (.c (.int .i64 (-1)))) []] [4] .ret))) }
theorem ZR : QS Go.Proofs.Tryz.prog 113 Yg = true := by kernel_rfl
end Go.Ve

namespace Go.Ve
open Go.Proofs
set_option maxRecDepth 100000
/-- impl.zoneAt$1: function 114 -/
def Qau : SFun := { n := 8,res := [.t 3],body := (jq [jn 2 (.box 102 (.v 0)) [0],jn 3 (.mv (.c (.bool false))) [3]] [1,2] (jq [jf 4 0 2 [2],jl 5 4 [4],jl 6 1 [1],jb 7 .eql 5 6 [5,6],jm 3 7 [7]] [3] .ret)) }
theorem Qgq : QS Go.Proofs.Tryz.prog 114 Qau = true := by kernel_rfl
def ZS : SCode := (jq [jb 15 .lss 14 13 []] [2,5,12,13,14,15] (.seq (.cond (.v 15) .skip (.exit 0)) (.seq (.block 1 (jq [ja 16 6 12 14 [],jL 17 6 16 [16],jn 7 (.alloc 107 [.int .i64 0,.int .i64 0,.int .i64 0,.int .i64 0,.int .i64 0,.int .i64 0]) [],⟨none,.store 6 (.v 7) (.v 17),none,[17]⟩] [2,5,7,12,13,14] (jq [jL 18 6 7 [],jn 19 (.call 121 [.v 18]) [18],jm 20 19 [19],jt 21 20 (.faddr 0 (.v 7)) [],jt 22 20 (.load1 (.v 21)) [21],jt 23 20 (.faddr 1 (.v 2)) [],jt 24 20 (.load1 (.v 23)) [23],jt 25 20 (.binN .sub (.v 24) (ci 1)) [24],jt 26 20 (.faddr 3 (.v 2)) [],jt 27 20 (.load1 (.v 26)) [26],jt 28 20 (.binN .add (.v 27) (ci 1)) [27],jt 29 20 (.call 120 [.v 22,.v 25,.v 28]) [22,25,28],jn 30 (.pick (.v 20) (.v 29) (.c (.bool false))) [20,29],jm 31 30 [30],jt 32 31 (.faddr 1 (.v 7)) [],jt 33 31 (.load1 (.v 32)) [32],jt 34 31 (.faddr 2 (.v 2)) [],jt 35 31 (.load1 (.v 34)) [34],jt 36 31 (.binN .sub (.v 35) (ci 1)) [35],jt 37 31 (.faddr 4 (.v 2)) [],jt 38 31 (.load1 (.v 37)) [37],jt 39 31 (.binN .add (.v 38) (ci 1)) [38],jt 40 31 (.call 120 [.v 33,.v 36,.v 39]) [33,36,39],jn 41 (.pick (.v 31) (.v 40) (.c (.bool false))) [31,40]] [2,5,7,12,13,14,41] (.cond (.v 41) (.rg [jm 42 5 [5],jL 43 6 7 [7],jn 44 (.lit 100 6 [.v 43]) [43],jn 45 (.app 105 100 6 (.v 42) (.v 44)) [42,44],jm 5 45 [45]] [2,5,12,13,14]) .skip)))) (.rg [jn 46 (.binN .add (.v 14) (ci 1)) [14],jm 14 46 [46]] [2,5,12,13,14]))))
/-- impl.HandPartOf: function 115 -/
def V6 : SFun := { n := 48,res := [.t 4],body := (jq [jn 2 (.box 102 (.v 0)) [0],jn 4 (.mv (.c (.sl 0 6 []))) [4]] [1,2] (.seq (jq [jL 8 5 2 [],jn 9 (.lit 76 5 [.v 8]) [8],jn 10 (.call 101 [.v 9]) [9],jn 11 (.not (.v 10)) [10]] [1,2,11] (.cond (.v 11) (jq [jn 4 (.mv (.c (.sl 0 6 []))) []] [4] (.gh (.frzE 4) .ret)) .skip)) (jq [jn 5 (.newnil 105 100 6) []] [1,2,5] (.seq (jq [jm 12 1 [1],jn 13 (.lenL (.v 12)) [],jI 14 0 []] [2,5,12,13,14] (.block 0 (.loop ZS))) (jq [jm 47 5 [5],jm 4 47 [47]] [4] (.gh (.frzE 4) .ret)))))) }
theorem Qet : QS Go.Proofs.Tryz.prog 115 V6 = true := by kernel_rfl
/-- slices.Contains[[]string,string]: function 116 -/
def Y2 : SFun := { n := 9,res := [.t 4],body := (jq [jn 4 (.mv (.c (.bool false))) [4]] [0,1] (jq [jm 5 0 [0],jm 6 1 [1],jn 7 (.call 137 [.v 5,.v 6]) [5,6],jc 8 .geq 7 0 [7],jm 4 8 [8]] [4] .ret)) }
theorem V7 : QS Go.Proofs.Tryz.prog 116 Y2 = true := by kernel_rfl
def Uv : SCode := (.seq (jq [jm 11 5 [],jm 12 0 [],jn 13 (.lenL (.v 12)) [12],jb 14 .lss 11 13 [11,13]] [0,1,5,14] (.cond (.v 14) .skip (.exit 0))) (.seq (.block 1 (.seq (.rgd [jm 17 0 [],jm 18 5 [],ja 19 1 17 18 [],jl 20 19 [],jm 21 1 [],jm 22 5 [],ja 23 1 21 22 [],jl 24 23 [],jb 25 .neq 20 24 []] [0,1,5,25] [none,none,none,none,none,none,none,none,none]) (.cond (.v 25) (jq [jn 4 (.mv (.c (.bool false))) []] [4] .ret) .skip))) (.rg [jm 15 5 [5],jn 16 (.binN .add (.v 15) (ci 1)) [15],jm 5 16 [16]] [0,1,5])))
/-- laws.eqStringS: function 117 -/
def WO : SFun := { n := 26,res := [.t 4],body := (jq [jn 4 (.mv (.c (.bool false))) [4]] [0,1] (.seq (jq [jm 6 0 [],jn 7 (.lenL (.v 6)) [6],jm 8 1 [],jn 9 (.lenL (.v 8)) [8],jb 10 .neq 7 9 [7,9]] [0,1,10] (.cond (.v 10) (jq [jn 4 (.mv (.c (.bool false))) []] [4] .ret) .skip)) (.seq (jq [jI 5 0 []] [0,1,5] (.block 0 (.loop Uv))) (jq [jn 4 (.mv (.c (.bool true))) []] [4] .ret)))) }
theorem Qfi : QS Go.Proofs.Tryz.prog 117 WO = true := by kernel_rfl
def K3 : SCode := (jq [jb 9 .lss 8 7 []] [0,1,7,8,9] (.seq (.cond (.v 9) .skip (.exit 0)) (.seq (.block 1 (jq [jm 10 8 [],jm 5 10 [10]] [0,1,5,7,8] (jq [jm 11 1 [],jm 12 0 [],jm 13 5 [],ja 14 11 12 13 [12,13],jL 15 11 14 [14],jn 16 (.callV (.v 11) [.v 15]) [11,15]] [0,1,5,7,8,16] (.cond (.v 16) (jq [jm 17 5 [5],jm 4 17 [17]] [4] .ret) .skip)))) (.rg [jn 18 (.binN .add (.v 8) (ci 1)) [8],jm 8 18 [18]] [0,1,7,8]))))
/-- impl.HandOwn]: function 118 -/
def Yy : SFun := { n := 19,res := [.t 4],body := (jq [jI 4 0 [4]] [0,1] (.seq (jq [jm 6 0 [],jn 7 (.lenL (.v 6)) [6],jI 8 0 []] [0,1,7,8] (.block 0 (.loop K3))) (jq [jn 4 (.mv (.c (.int .i64 (-1)))) []] [4] .ret))) }
theorem Z9 : QS Go.Proofs.Tryz.prog 118 Yy = true := by kernel_rfl
/-- impl.HandBook).own$1: function 119 -/
def Xw : SFun := { n := 8,res := [.t 3],body := (jq [jn 2 (.box 102 (.v 0)) [0],jn 3 (.mv (.c (.bool false))) [3]] [1,2] (jq [jf 4 0 2 [2],jl 5 4 [4],jl 6 1 [1],jb 7 .eql 5 6 [5,6],jm 3 7 [7]] [3] .ret)) }
theorem Qav : QS Go.Proofs.Tryz.prog 119 Xw = true := by kernel_rfl
/-- impl.within: function 120 -/
def QcF : SFun := { n := 15,res := [.t 6],body := (jq [jn 6 (.mv (.c (.bool false))) [6]] [0,1,2] (jq [jm 7 0 [],jm 8 1 [1],jb 9 .geq 7 8 [7,8],jm 10 9 [9],jt 11 10 (.mv (.v 0)) [0],jt 12 10 (.mv (.v 2)) [2],jt 13 10 (.bin .leq (.v 11) (.v 12)) [11,12],jn 14 (.pick (.v 10) (.v 13) (.c (.bool false))) [10,13],jm 6 14 [14]] [6] .ret)) }
theorem Qip : QS Go.Proofs.Tryz.prog 120 QcF = true := by kernel_rfl
/-- impl.handBox: function 121 -/
def QbC : SFun := { n := 45,res := [.t 2],body := (jq [jn 1 (.box 101 (.v 0)) [0],jn 2 (.mv (.c (.bool false))) [2]] [1] (jq [jf 3 0 1 [],jl 4 3 [3],jn 5 (.call 120 [.v 4,.c (.int .i64 0),.c (.int .i64 15)]) [4],jm 6 5 [5],jt 7 6 (.faddr 1 (.v 1)) [],jt 8 6 (.load1 (.v 7)) [7],jt 9 6 (.call 120 [.v 8,.c (.int .i64 0),.c (.int .i64 15)]) [8],jn 10 (.pick (.v 6) (.v 9) (.c (.bool false))) [6,9],jm 11 10 [10],jt 12 11 (.faddr 2 (.v 1)) [],jt 13 11 (.load1 (.v 12)) [12],jt 14 11 (.bin .leq (ci 0) (.v 13)) [13],jn 15 (.pick (.v 11) (.v 14) (.c (.bool false))) [11,14],jm 16 15 [15],jt 17 16 (.faddr 2 (.v 1)) [],jt 18 16 (.load1 (.v 17)) [17],jt 19 16 (.faddr 3 (.v 1)) [],jt 20 16 (.load1 (.v 19)) [19],jt 21 16 (.bin .leq (.v 18) (.v 20)) [18,20],jn 22 (.pick (.v 16) (.v 21) (.c (.bool false))) [16,21],jm 23 22 [22],jt 24 23 (.faddr 3 (.v 1)) [],jt 25 23 (.load1 (.v 24)) [24],jt 26 23 (.bin .leq (.v 25) (ci 6)) [25],jn 27 (.pick (.v 23) (.v 26) (.c (.bool false))) [23,26],jm 28 27 [27],jt 29 28 (.faddr 4 (.v 1)) [],jt 30 28 (.load1 (.v 29)) [29],jt 31 28 (.bin .leq (ci 0) (.v 30)) [30],jn 32 (.pick (.v 28) (.v 31) (.c (.bool false))) [28,31],jm 33 32 [32],jt 34 33 (.faddr 4 (.v 1)) [],jt 35 33 (.load1 (.v 34)) [34],jt 36 33 (.faddr 5 (.v 1)) [],jt 37 33 (.load1 (.v 36)) [36],jt 38 33 (.bin .leq (.v 35) (.v 37)) [35,37],jn 39 (.pick (.v 33) (.v 38) (.c (.bool false))) [33,38],jm 40 39 [39],jt 41 40 (.faddr 5 (.v 1)) [1],jt 42 40 (.load1 (.v 41)) [41],jt 43 40 (.bin .leq (.v 42) (ci 10000)) [42],jn 44 (.pick (.v 40) (.v 43) (.c (.bool false))) [40,43],jm 2 44 [44]] [2] .ret)) }
theorem Qhs : QS Go.Proofs.Tryz.prog 121 QbC = true := by kernel_rfl
/-- impl.HandZone]: function 122 -/
def KG : SFun := { n := 9,res := [.t 4],body := (jq [jn 4 (.mv (.c (.bool false))) [4]] [0,1] (jq [jm 5 0 [0],jm 6 1 [1],jn 7 (.call 113 [.v 5,.v 6]) [5,6],jc 8 .geq 7 0 [7],jm 4 8 [8]] [4] .ret)) }
theorem Xx : QS Go.Proofs.Tryz.prog 122 KG = true := by kernel_rfl
/-- impl.tubeOk$1: function 123 -/
def Qaw : SFun := { n := 10,res := [.t 3],body := (jq [jn 2 (.box 102 (.v 0)) [0],jn 3 (.mv (.c (.bool false))) [3]] [1,2] (jq [jL 4 5 2 [2],jf 5 0 1 [],jl 6 5 [5],jf 7 1 1 [1],jl 8 7 [7],jn 9 (.call 124 [.v 4,.v 6,.v 8]) [4,6,8],jm 3 9 [9]] [3] .ret)) }
theorem Qgr : QS Go.Proofs.Tryz.prog 123 Qaw = true := by kernel_rfl
/-- impl.HandZone).over: function 124 -/
def X6 : SFun := { n := 21,res := [.t 6],body := (jq [jn 3 (.box 103 (.v 0)) [0],jn 6 (.mv (.c (.bool false))) [6]] [1,2,3] (jq [jm 7 1 [1],jf 8 1 3 [],jl 9 8 [8],jf 10 3 3 [],jl 11 10 [10],jn 12 (.call 120 [.v 7,.v 9,.v 11]) [7,9,11],jm 13 12 [12],jt 14 13 (.mv (.v 2)) [2],jt 15 13 (.faddr 2 (.v 3)) [],jt 16 13 (.load1 (.v 15)) [15],jt 17 13 (.faddr 4 (.v 3)) [3],jt 18 13 (.load1 (.v 17)) [17],jt 19 13 (.call 120 [.v 14,.v 16,.v 18]) [14,16,18],jn 20 (.pick (.v 13) (.v 19) (.c (.bool false))) [13,19],jm 6 20 [20]] [6] .ret)) }
theorem Qbo : QS Go.Proofs.Tryz.prog 124 X6 = true := by kernel_rfl
/-- impl.number: function 125 -/
def QcG : SFun := { n := 5,res := [.t 2],body := (jq [jn 2 (.mv (.c (.bool false))) [2]] [0] (jq [jm 3 0 [0],jn 4 (.call 120 [.v 3,.c (.int .i64 1),.c (.int .i64 1000000)]) [3],jm 2 4 [4]] [2] .ret)) }
theorem Qiq : QS Go.Proofs.Tryz.prog 125 QcG = true := by kernel_rfl
/-- impl.bookOk$1: function 126 -/
def Qax : SFun := { n := 14,res := [.t 5],body := (jq [jn 5 (.mv (.c (.bool false))) [5]] [0,1,2] (.seq (jq [jm 6 0 [0],jc 7 .eql 6 0 [6]] [1,2,7] (.cond (.v 7) (jq [jm 8 1 [1],jn 9 (.lenL (.v 8)) [8],jc 10 .eql 9 0 [9],jm 5 10 [10]] [5] .ret) .skip)) (jq [jl 11 2 [2],jm 12 1 [1],jn 13 (.call 100 [.v 11,.v 12]) [11,12],jm 5 13 [13]] [5] .ret))) }
theorem Qgs : QS Go.Proofs.Tryz.prog 126 Qax = true := by kernel_rfl
def WP : SCode := (jq [jb 11 .lss 10 9 []] [1,5,8,9,10,11] (.seq (.cond (.v 11) .skip (.exit 0)) (.seq (.block 1 (jq [ja 12 5 8 10 [],jL 13 5 12 [12],jn 7 (.alloc 107 [.str ⟨#[]⟩,.int .i64 0,.int .i64 0,.int .i64 0,.int .i64 0]) [],⟨none,.store 5 (.v 7) (.v 13),none,[13]⟩] [1,5,7,8,9,10] (jq [jL 14 5 7 [],jm 15 1 [],jn 16 (.call 115 [.v 14,.v 15]) [14,15],jn 17 (.lenL (.v 16)) [16],jc 18 .gtr 17 0 [17]] [1,5,7,8,9,10,18] (.cond (.v 18) (.rg [jm 19 5 [5],jf 20 0 7 [7],jl 21 20 [20],jn 22 (.lit 9 1 [.v 21]) [21],jn 23 (.app 105 9 1 (.v 19) (.v 22)) [19,22],jm 5 23 [23]] [1,5,8,9,10]) .skip)))) (.rg [jn 24 (.binN .add (.v 10) (ci 1)) [10],jm 10 24 [24]] [1,5,8,9,10]))))
/-- impl.HandWho: function 127 -/
def QbD : SFun := { n := 26,res := [.t 4],body := (jq [jn 4 (.mv (.c (.sl 0 1 []))) [4]] [0,1] (jq [jn 5 (.newnil 105 9 1) []] [0,1,5] (.seq (jq [jm 8 0 [0],jn 9 (.lenL (.v 8)) [],jI 10 0 []] [1,5,8,9,10] (.block 0 (.loop WP))) (jq [jm 25 5 [5],jm 4 25 [25]] [4] (.gh (.frzE 4) .ret))))) }
theorem Qht : QS Go.Proofs.Tryz.prog 127 QbD = true := by kernel_rfl
def Qe1 : SCode := (jq [jb 10 .lss 9 8 []] [0,7,8,9,10] (.seq (.cond (.v 10) .skip (.exit 0)) (.seq (.block 1 (jq [ja 11 1 7 9 [],jl 12 11 [11],jm 6 12 [12]] [0,6,7,8,9] (jq [jm 13 0 [],jm 14 6 [6],jn 15 (.call 116 [.v 13,.v 14]) [13,14],jn 16 (.not (.v 15)) [15]] [0,7,8,9,16] (.cond (.v 16) (jq [jn 4 (.mv (.c (.bool false))) []] [4] .ret) .skip)))) (.rg [jn 17 (.binN .add (.v 9) (ci 1)) [9],jm 9 17 [17]] [0,7,8,9]))))
/-- impl.all: function 128 -/
def QhQ : SFun := { n := 18,res := [.t 4],body := (jq [jn 4 (.mv (.c (.bool false))) [4]] [0,1] (.seq (jq [jm 7 1 [1],jn 8 (.lenL (.v 7)) [],jI 9 0 []] [0,7,8,9] (.block 0 (.loop Qe1))) (jq [jn 4 (.mv (.c (.bool true))) []] [4] .ret))) }
theorem QmJ : QS Go.Proofs.Tryz.prog 128 QhQ = true := by kernel_rfl
def Gq : SCode := (jq [jb 11 .lss 10 9 []] [1,8,9,10,11] (.seq (.cond (.v 11) .skip (.exit 0)) (.seq (.block 1 (jq [ja 12 2 8 10 [],jL 13 2 12 [12],jn 6 (.alloc 106 [.str ⟨#[]⟩,.int .i64 0]) [],⟨none,.store 2 (.v 6) (.v 13),none,[13]⟩] [1,6,8,9,10] (jq [jf 14 0 6 [],jl 15 14 [14],jm 16 1 [],jb 17 .eql 15 16 [15,16]] [1,6,8,9,10,17] (.cond (.v 17) (jq [jf 18 1 6 [6],jl 19 18 [18],jm 4 19 [19]] [4] .ret) .skip)))) (.rg [jn 20 (.binN .add (.v 10) (ci 1)) [10],jm 10 20 [20]] [1,8,9,10]))))
/-- impl.HandBook).seen: function 129 -/
def X7 : SFun := { n := 21,res := [.t 4],body := (jq [jn 2 (.box 102 (.v 0)) [0],jI 4 0 [4]] [1,2] (.seq (jq [jf 7 2 2 [2],jl 8 7 [7],jn 9 (.lenL (.v 8)) [],jI 10 0 []] [1,8,9,10] (.block 0 (.loop Gq))) (jq [jI 4 0 []] [4] .ret))) }
theorem Qbp : QS Go.Proofs.Tryz.prog 129 X7 = true := by kernel_rfl
def V8 : SCode := (jq [jb 21 .lss 20 19 []] [1,6,9,10,11,18,19,20,21] (.seq (.cond (.v 21) .skip (.exit 2)) (.seq (.block 3 (jq [ja 22 6 18 20 [],jL 23 6 22 [22],jn 8 (.alloc 108 [.int .i64 0,.int .i64 0,.int .i64 0,.int .i64 0,.int .i64 0,.int .i64 0]) [],⟨none,.store 6 (.v 8) (.v 23),none,[23]⟩] [1,6,8,9,10,11,18,19,20] (jq [jL 24 6 8 [],jn 25 (.call 121 [.v 24]) [24],jm 26 25 [25],jt 27 26 (.faddr 4 (.v 6)) [],jt 28 26 (.load1 (.v 27)) [27],jt 29 26 (.faddr 5 (.v 8)) [],jt 30 26 (.load1 (.v 29)) [29],jt 31 26 (.bin .leq (.v 28) (.v 30)) [28,30],jn 32 (.pick (.v 26) (.v 31) (.c (.bool false))) [26,31],jm 33 32 [32],jt 34 33 (.faddr 4 (.v 8)) [],jt 35 33 (.load1 (.v 34)) [34],jt 36 33 (.faddr 5 (.v 6)) [],jt 37 33 (.load1 (.v 36)) [36],jt 38 33 (.bin .leq (.v 35) (.v 37)) [35,37],jn 39 (.pick (.v 33) (.v 38) (.c (.bool false))) [33,38],jm 40 39 [39],jt 41 40 (.faddr 2 (.v 6)) [],jt 42 40 (.load1 (.v 41)) [41],jt 43 40 (.faddr 3 (.v 8)) [],jt 44 40 (.load1 (.v 43)) [43],jt 45 40 (.bin .leq (.v 42) (.v 44)) [42,44],jn 46 (.pick (.v 40) (.v 45) (.c (.bool false))) [40,45],jm 47 46 [46],jt 48 47 (.faddr 2 (.v 8)) [],jt 49 47 (.load1 (.v 48)) [48],jt 50 47 (.faddr 3 (.v 6)) [],jt 51 47 (.load1 (.v 50)) [50],jt 52 47 (.bin .leq (.v 49) (.v 51)) [49,51],jn 53 (.pick (.v 47) (.v 52) (.c (.bool false))) [47,52],jm 54 53 [53],jt 55 54 (.faddr 0 (.v 6)) [],jt 56 54 (.load1 (.v 55)) [55],jt 57 54 (.faddr 0 (.v 8)) [],jt 58 54 (.load1 (.v 57)) [57],jt 59 54 (.call 138 [.v 56,.v 58]) [56,58],jt 60 54 (.bin .lss (.v 59) (ci 2)) [59],jn 61 (.pick (.v 54) (.v 60) (.c (.bool false))) [54,60],jm 62 61 [61],jt 63 62 (.faddr 1 (.v 6)) [],jt 64 62 (.load1 (.v 63)) [63],jt 65 62 (.faddr 1 (.v 8)) [8],jt 66 62 (.load1 (.v 65)) [65],jt 67 62 (.call 138 [.v 64,.v 66]) [64,66],jt 68 62 (.bin .lss (.v 67) (ci 2)) [67],jn 69 (.pick (.v 62) (.v 68) (.c (.bool false))) [62,68]] [1,6,9,10,11,18,19,20,69] (.cond (.v 69) (jq [jn 4 (.mv (.c (.bool true))) []] [4] .ret) .skip)))) (.rg [jn 70 (.binN .add (.v 20) (ci 1)) [20],jm 20 70 [70]] [1,6,9,10,11,18,19,20]))))
def V9 : SCode := (jq [jb 12 .lss 11 10 []] [1,9,10,11,12] (.seq (.cond (.v 12) .skip (.exit 0)) (.seq (.block 1 (jq [ja 13 6 9 11 [],jL 14 6 13 [13],jn 6 (.alloc 106 [.int .i64 0,.int .i64 0,.int .i64 0,.int .i64 0,.int .i64 0,.int .i64 0]) [],⟨none,.store 6 (.v 6) (.v 14),none,[14]⟩] [1,6,9,10,11] (.seq (jq [jL 15 6 6 [],jn 16 (.call 121 [.v 15]) [15],jn 17 (.not (.v 16)) [16]] [1,6,9,10,11,17] (.cond (.v 17) (.exit 1) .skip)) (jq [jm 18 1 [],jn 19 (.lenL (.v 18)) [],jI 20 0 []] [1,6,9,10,11,18,19,20] (.block 2 (.loop V8)))))) (.rg [jn 71 (.binN .add (.v 11) (ci 1)) [11],jm 11 71 [71]] [1,9,10,11]))))
/-- impl.HandNear: function 130 -/
def Qay : SFun := { n := 72,res := [.t 4],body := (jq [jn 4 (.mv (.c (.bool false))) [4]] [0,1] (.seq (jq [jm 9 0 [0],jn 10 (.lenL (.v 9)) [],jI 11 0 []] [1,9,10,11] (.block 0 (.loop V9))) (jq [jn 4 (.mv (.c (.bool false))) []] [4] .ret))) }
theorem Qgt : QS Go.Proofs.Tryz.prog 130 Qay = true := by kernel_rfl
/-- impl.HandOwn]: function 131 -/
def YL : SFun := { n := 14,res := [],body := (jq [jm 5 0 [],jn 6 (.lenL (.v 5)) [5],jm 4 6 [6]] [0,1,4] (.rg [jm 7 0 [0],jm 8 4 [],jm 9 4 [4],jn 10 (.conv .u64 (.v 9)) [9],jn 11 (.call 140 [.v 10]) [10],jm 12 1 [1],jn 13 (.call 139 [.v 7,.c (.int .i64 0),.v 8,.v 11,.v 12]) [7,8,11,12,13]] [])) }
theorem UI : QS Go.Proofs.Tryz.prog 131 YL = true := by kernel_rfl
/-- impl.HandBook).comes$1: function 132 -/
def Gf : SFun := { n := 10,res := [.t 4],body := (jq [jn 2 (.box 102 (.v 0)) [0],jn 3 (.box 103 (.v 1)) [1],jI 4 0 [4]] [2,3] (jq [jf 5 0 2 [2],jl 6 5 [5],jf 7 0 3 [3],jl 8 7 [7],jn 9 (.call 133 [.v 6,.v 8]) [6,8],jm 4 9 [9]] [4] .ret)) }
theorem Wo : QS Go.Proofs.Tryz.prog 132 Gf = true := by kernel_rfl
/-- spec.l33TubeOk: function 134 -/
def WQ : SFun := { n := 15,res := [.t 6],body := (jq [jn 6 (.mv (.c (.bool false))) [6]] [0,1,2] (.seq (jq [jm 7 1 [1],jc 8 .eql 7 0 [7]] [0,2,8] (.cond (.v 8) (jq [jm 9 2 [2],jn 10 (.lenL (.v 9)) [9],jc 11 .eql 10 0 [10],jm 6 11 [11]] [6] .ret) .skip)) (jq [jm 12 0 [0],jm 13 2 [2],jn 14 (.call 65 [.v 12,.v 13]) [12,13],jm 6 14 [14]] [6] .ret))) }
theorem Qfj : QS Go.Proofs.Tryz.prog 134 WQ = true := by kernel_rfl
def Yh : SCode := (.rgd [jm 26 7 [],jm 27 26 [],jM 28 27 5 [],jM 29 27 8 [],jh 30 27 (.iaddr 1 (.v 28) (.v 29)) [],jh 31 27 (.load1 (.v 30)) [],jh 32 27 (.faddr 9 (.v 3)) [],jh 33 27 (.load1 (.v 32)) [],jM 34 27 6 [],jh 35 27 (.iaddr 1 (.v 33) (.v 34)) [],jh 36 27 (.load1 (.v 35)) [],jh 37 27 (.bin .eql (.v 31) (.v 36)) [],jp 38 27 37 [],jm 7 38 []] [3,5,6,7,8] [none,none,none,none,none,none,none,none,none,none,none,none,none,none])
def Xy : SCode := (.seq (jq [jm 20 8 [],jm 21 5 [],jn 22 (.lenL (.v 21)) [21],jb 23 .lss 20 22 [20,22]] [3,5,6,7,8,23] (.cond (.v 23) .skip (.exit 2))) (.seq (.block 3 Yh) (.rg [jm 24 8 [8],jn 25 (.binN .add (.v 24) (ci 1)) [24],jm 8 25 [25]] [3,5,6,7,8])))
def Yi : SCode := (.rgd [jm 39 7 [],jn 40 (.not (.v 39)) [],jm 41 40 [],jM 42 41 6 [],jh 43 41 (.bin .gtr (.v 42) (ci 0)) [],jM 44 41 43 [],jt 45 44 (.faddr 9 (.v 3)) [],jt 46 44 (.load1 (.v 45)) [],jt 47 44 (.mv (.v 6)) [],jt 48 44 (.binN .sub (.v 47) (ci 1)) [],jt 49 44 (.iaddr 1 (.v 46) (.v 48)) [],jt 50 44 (.load1 (.v 49)) [],jt 51 44 (.faddr 9 (.v 3)) [],jt 52 44 (.load1 (.v 51)) [],jt 53 44 (.mv (.v 6)) [],jt 54 44 (.iaddr 1 (.v 52) (.v 53)) [],jt 55 44 (.load1 (.v 54)) [],jt 56 44 (.bin .geq (.v 50) (.v 55)) [],jh 57 41 (.pick (.v 44) (.v 56) (.c (.bool false))) [],jp 58 41 57 []] [3,5,6,58] [none,none,none,none,none,none,none,none,none,none,none,none,none,none,none,none,none,none,none,none])
def Xz : SCode := (.seq (jq [jm 13 6 [],jf 14 9 3 [],jl 15 14 [14],jn 16 (.lenL (.v 15)) [15],jb 17 .lss 13 16 [13,16]] [3,5,6,17] (.cond (.v 17) .skip (.exit 0))) (.seq (.block 1 (jq [jn 7 (.mv (.c (.bool false))) []] [3,5,6,7] (.seq (jq [jI 8 0 []] [3,5,6,7,8] (.block 2 (.loop Xy))) (.seq Yi (.cond (.v 58) (jq [jn 4 (.mv (.c (.bool false))) []] [4] .ret) .skip))))) (.rg [jm 18 6 [6],jn 19 (.binN .add (.v 18) (ci 1)) [18],jm 6 19 [19]] [3,5,6])))
def Yj : SCode := (.rg [jf 59 10 3 [],jl 60 59 [59],jf 61 7 3 [],jl 62 61 [61],jc 63 .gtr 62 0 [62],jm 64 63 [63],jt 65 64 (.faddr 9 (.v 3)) [3],jt 66 64 (.load1 (.v 65)) [65],jt 67 64 (.lenL (.v 66)) [66],jt 68 64 (.mv (.v 5)) [5],jt 69 64 (.lenL (.v 68)) [68],jt 70 64 (.bin .eql (.v 67) (.v 69)) [67,69],jn 71 (.pick (.v 64) (.v 70) (.c (.bool false))) [64,70],jn 72 (.eqB false (.v 60) (.v 71)) [60,71],jm 4 72 [72]] [4])
/-- spec.l33GrantedOk: function 135 -/
def ZT : SFun := { n := 73,res := [.t 4],body := (jq [jn 3 (.box 103 (.v 1)) [1],jn 4 (.mv (.c (.bool false))) [4]] [0,3] (jq [jm 9 0 [0],jf 10 8 3 [],jl 11 10 [10],jn 12 (.call 81 [.v 9,.v 11]) [9,11],jm 5 12 [12]] [3,5] (.seq (jq [jI 6 0 []] [3,5,6] (.block 0 (.loop Xz))) (.seq Yj .ret)))) }
theorem QbW : QS Go.Proofs.Tryz.prog 135 ZT = true := by kernel_rfl
/-- spec.l31Close: function 136 -/
def Qaz : SFun := { n := 55,res := [.t 4],body := (jq [jn 2 (.box 102 (.v 0)) [0],jn 3 (.box 103 (.v 1)) [1],jn 4 (.mv (.c (.bool false))) [4]] [2,3] (jq [jL 5 6 2 [],jn 6 (.call 99 [.v 5]) [5],jm 7 6 [6],jt 8 7 (.loadN 6 (.v 3)) [],jt 9 7 (.call 99 [.v 8]) [8],jn 10 (.pick (.v 7) (.v 9) (.c (.bool false))) [7,9],jm 11 10 [10],jt 12 11 (.faddr 0 (.v 2)) [],jt 13 11 (.load1 (.v 12)) [12],jt 14 11 (.faddr 0 (.v 3)) [],jt 15 11 (.load1 (.v 14)) [14],jt 16 11 (.binN .sub (.v 13) (.v 15)) [13,15],jt 17 11 (.call 80 [.v 16,.c (.int .i64 (-1)),.c (.int .i64 1)]) [16],jn 18 (.pick (.v 11) (.v 17) (.c (.bool false))) [11,17],jm 19 18 [18],jt 20 19 (.faddr 1 (.v 2)) [],jt 21 19 (.load1 (.v 20)) [20],jt 22 19 (.faddr 1 (.v 3)) [],jt 23 19 (.load1 (.v 22)) [22],jt 24 19 (.binN .sub (.v 21) (.v 23)) [21,23],jt 25 19 (.call 80 [.v 24,.c (.int .i64 (-1)),.c (.int .i64 1)]) [24],jn 26 (.pick (.v 19) (.v 25) (.c (.bool false))) [19,25],jm 27 26 [26],jt 28 27 (.faddr 2 (.v 2)) [],jt 29 27 (.load1 (.v 28)) [28],jt 30 27 (.faddr 3 (.v 3)) [],jt 31 27 (.load1 (.v 30)) [30],jt 32 27 (.bin .leq (.v 29) (.v 31)) [29,31],jn 33 (.pick (.v 27) (.v 32) (.c (.bool false))) [27,32],jm 34 33 [33],jt 35 34 (.faddr 2 (.v 3)) [],jt 36 34 (.load1 (.v 35)) [35],jt 37 34 (.faddr 3 (.v 2)) [],jt 38 34 (.load1 (.v 37)) [37],jt 39 34 (.bin .leq (.v 36) (.v 38)) [36,38],jn 40 (.pick (.v 34) (.v 39) (.c (.bool false))) [34,39],jm 41 40 [40],jt 42 41 (.faddr 4 (.v 2)) [],jt 43 41 (.load1 (.v 42)) [42],jt 44 41 (.faddr 5 (.v 3)) [],jt 45 41 (.load1 (.v 44)) [44],jt 46 41 (.bin .leq (.v 43) (.v 45)) [43,45],jn 47 (.pick (.v 41) (.v 46) (.c (.bool false))) [41,46],jm 48 47 [47],jt 49 48 (.faddr 4 (.v 3)) [3],jt 50 48 (.load1 (.v 49)) [49],jt 51 48 (.faddr 5 (.v 2)) [2],jt 52 48 (.load1 (.v 51)) [51],jt 53 48 (.bin .leq (.v 50) (.v 52)) [50,52],jn 54 (.pick (.v 48) (.v 53) (.c (.bool false))) [48,53],jm 4 54 [54]] [4] .ret)) }
theorem Qgu : QS Go.Proofs.Tryz.prog 136 Qaz = true := by kernel_rfl
def Gg : SCode := (jq [jb 9 .lss 8 7 []] [0,1,7,8,9] (.seq (.cond (.v 9) .skip (.exit 0)) (.seq (.block 1 (jq [jm 10 8 [],jm 5 10 [10]] [0,1,5,7,8] (jq [jm 11 1 [],jm 12 0 [],jm 13 5 [],ja 14 1 12 13 [12,13],jl 15 14 [14],jb 16 .eql 11 15 [11,15]] [0,1,5,7,8,16] (.cond (.v 16) (jq [jm 17 5 [5],jm 4 17 [17]] [4] .ret) .skip)))) (.rg [jn 18 (.binN .add (.v 8) (ci 1)) [8],jm 8 18 [18]] [0,1,7,8]))))
/-- slices.Index[[]string,string]: function 137 -/
def XA : SFun := { n := 19,res := [.t 4],body := (jq [jI 4 0 [4]] [0,1] (.seq (jq [jm 6 0 [],jn 7 (.lenL (.v 6)) [6],jI 8 0 []] [0,1,7,8] (.block 0 (.loop Gg))) (jq [jn 4 (.mv (.c (.int .i64 (-1)))) []] [4] .ret))) }
theorem QaA : QS Go.Proofs.Tryz.prog 137 XA = true := by kernel_rfl
/-- impl.dist: function 138 -/
def Qgv : SFun := { n := 14,res := [.t 4],body := (jq [jI 4 0 [4]] [0,1] (.seq (jq [jm 5 0 [],jm 6 1 [],jb 7 .gtr 5 6 [5,6]] [0,1,7] (.cond (.v 7) (jq [jm 8 0 [0],jm 9 1 [1],jn 10 (.binN .sub (.v 8) (.v 9)) [8,9],jm 4 10 [10]] [4] .ret) .skip)) (jq [jm 11 1 [1],jm 12 0 [0],jn 13 (.binN .sub (.v 11) (.v 12)) [11,12],jm 4 13 [13]] [4] .ret))) }
theorem Qkq : QS Go.Proofs.Tryz.prog 138 Qgv = true := by kernel_rfl
def Kj : SCode := (.block 1 (jq [jm 21 2 [],jm 22 1 [],jn 23 (.binN .sub (.v 21) (.v 22)) [21,22],jm 12 23 [23]] [0,1,2,3,4,10,11,12] (.seq (jq [jm 24 12 [],jc 25 .leq 24 12 [24]] [0,1,2,3,4,10,11,12,25] (.cond (.v 25) (jq [jm 26 0 [0],jm 27 1 [1],jm 28 2 [2],jm 29 4 [4],jn 30 (.call 142 [.v 26,.v 27,.v 28,.v 29]) [26,27,28,29,30]] [] .ret) .skip)) (.seq (jq [jm 31 3 [],jc 32 .eql 31 0 [31]] [0,1,2,3,4,10,11,12,32] (.cond (.v 32) (jq [jm 33 0 [0],jm 34 1 [1],jm 35 2 [2],jm 36 4 [4],jn 37 (.call 143 [.v 33,.v 34,.v 35,.v 36]) [33,34,35,36,37]] [] .ret) .skip)) (.seq (jq [jm 38 10 [],jn 39 (.not (.v 38)) [38]] [0,1,2,3,4,10,11,12,39] (.cond (.v 39) (jq [jm 40 0 [],jm 41 1 [],jm 42 2 [],jm 43 4 [],jn 44 (.call 144 [.v 40,.v 41,.v 42,.v 43]) [40,41,42,43,44]] [0,1,2,3,4,10,11,12] (.rg [jm 45 3 [3],jn 46 (.binN .sub (.v 45) (ci 1)) [45],jm 3 46 [46]] [0,1,2,3,4,10,11,12])) .skip)) (jq [jm 48 0 [],jm 49 1 [],jm 50 2 [],jm 51 4 [],jn 52 (.call 145 [.v 48,.v 49,.v 50,.v 51]) [48,49,50,51],jm 47 52 [52],jn 53 (.ext 0 (.v 47)) [],jn 54 (.ext 1 (.v 47)) [47],jm 13 53 [53],jm 14 54 [54]] [0,1,2,3,4,10,11,12,13,14] (.seq (jq [jm 55 14 [],jc 56 .eql 55 2 [55]] [0,1,2,3,4,10,11,12,13,14,56] (.cond (.v 56) (jq [jm 57 0 [],jm 58 1 [],jm 59 2 [],jm 60 4 [],jn 61 (.call 146 [.v 57,.v 58,.v 59,.v 60]) [57,58,59,60,61]] [0,1,2,3,4,10,11,12,13] (jq [jm 62 2 [],jn 63 (.binN .sub (.v 62) (ci 1)) [62],jm 64 13 [13],jm 65 1 [],jn 66 (.binN .sub (.v 64) (.v 65)) [64,65],jn 67 (.binN .sub (.v 63) (.v 66)) [63,66],jm 13 67 [67]] [0,1,2,3,4,10,11,12,13] (.rg [jI 14 1 []] [0,1,2,3,4,10,11,12,13,14]))) .skip)) (.seq (jq [jm 68 10 [],jm 69 68 [68],jt 70 69 (.mv (.v 11)) [],jn 71 (.pick (.v 69) (.v 70) (.c (.bool false))) [69,70],jm 72 71 [71],jt 73 72 (.mv (.v 14)) [14],jt 74 72 (.bin .eql (.v 73) (ci 1)) [73],jn 75 (.pick (.v 72) (.v 74) (.c (.bool false))) [72,74]] [0,1,2,3,4,10,11,12,13,75] (.cond (.v 75) (jq [jm 76 0 [],jm 77 1 [],jm 78 2 [],jm 79 4 [],jn 80 (.call 147 [.v 76,.v 77,.v 78,.v 79]) [76,77,78,79]] [0,1,2,3,4,10,11,12,13,80] (.cond (.v 80) .ret .skip)) .skip)) (.seq (.seq (.rgd [jm 81 1 [],jc 82 .gtr 81 0 [],jm 83 82 [],jt 84 83 (.mv (.v 4)) [],jt 85 83 (.mv (.v 0)) [],jt 86 83 (.mv (.v 1)) [],jt 87 83 (.binN .sub (.v 86) (ci 1)) [],jt 88 83 (.iaddr 11 (.v 85) (.v 87)) [],jt 89 83 (.loadN 11 (.v 88)) [],jt 90 83 (.mv (.v 0)) [],jt 91 83 (.mv (.v 13)) [],jt 92 83 (.iaddr 11 (.v 90) (.v 91)) [],jt 93 83 (.loadN 11 (.v 92)) [],jt 94 83 (.callV (.v 84) [.v 89,.v 93]) [],jt 95 83 (.bin .lss (.v 94) (ci 0)) [],jt 96 83 (.not (.v 95)) [],jn 97 (.pick (.v 83) (.v 96) (.c (.bool false))) []] [0,1,2,3,4,10,11,12,13,97] [none,none,none,none,none,none,none,none,none,none,none,none,none,none,none,none,none]) (.cond (.v 97) (jq [jm 98 0 [],jm 99 1 [1],jm 100 2 [],jm 101 13 [13],jm 102 4 [],jn 103 (.call 148 [.v 98,.v 99,.v 100,.v 101,.v 102]) [98,99,100,101,102],jm 15 103 [103]] [0,2,3,4,10,11,15] (jq [jm 104 15 [15],jm 1 104 [104]] [0,1,2,3,4,10,11] (.exit 1))) .skip)) (jq [jm 106 0 [],jm 107 1 [],jm 108 2 [],jm 109 13 [13],jm 110 4 [],jn 111 (.call 149 [.v 106,.v 107,.v 108,.v 109,.v 110]) [106,107,108,109,110],jm 105 111 [111],jn 112 (.ext 0 (.v 105)) [],jn 113 (.ext 1 (.v 105)) [105],jm 16 112 [112],jm 17 113 [113]] [0,1,2,3,4,12,16,17] (jq [jm 114 17 [17],jm 11 114 [114]] [0,1,2,3,4,11,12,16] (jq [jm 115 16 [],jm 116 1 [],jn 117 (.binN .sub (.v 115) (.v 116)) [115,116],jm 118 2 [],jm 119 16 [],jn 120 (.binN .sub (.v 118) (.v 119)) [118,119],jm 18 117 [117],jm 19 120 [120]] [0,1,2,3,4,11,12,16,18,19] (jq [jm 121 12 [12],jn 122 (.binN .quo (.v 121) (ci 8)) [121],jm 20 122 [122]] [0,1,2,3,4,11,16,18,19,20] (jq [jm 123 18 [],jm 124 19 [],jb 125 .lss 123 124 [123,124]] [0,1,2,3,4,11,16,18,19,20,125] (.cond (.v 125) (jq [jm 126 18 [18],jm 127 20 [20],jb 128 .geq 126 127 [126,127],jm 10 128 [128]] [0,1,2,3,4,10,11,16] (jq [jm 129 0 [],jm 130 1 [1],jm 131 16 [],jm 132 3 [],jm 133 4 [],jn 134 (.call 139 [.v 129,.v 130,.v 131,.v 132,.v 133]) [129,130,131,132,133,134]] [0,2,3,4,10,11,16] (.rg [jm 135 16 [16],jn 136 (.binN .add (.v 135) (ci 1)) [135],jm 1 136 [136]] [0,1,2,3,4,10,11]))) (jq [jm 137 19 [19],jm 138 20 [20],jb 139 .geq 137 138 [137,138],jm 10 139 [139]] [0,1,2,3,4,10,11,16] (jq [jm 140 0 [],jm 141 16 [],jn 142 (.binN .add (.v 141) (ci 1)) [141],jm 143 2 [2],jm 144 3 [],jm 145 4 [],jn 146 (.call 139 [.v 140,.v 142,.v 143,.v 144,.v 145]) [140,142,143,144,145,146]] [0,1,3,4,10,11,16] (.rg [jm 147 16 [16],jm 2 147 [147]] [0,1,2,3,4,10,11]))))))))))))))))))
/-- impl.HandOwn]: function 139 -/
def KC : SFun := { n := 148,res := [],body := (jq [jn 10 (.mv (.c (.bool true))) []] [0,1,2,3,4,10] (jq [jn 11 (.mv (.c (.bool true))) []] [0,1,2,3,4,10,11] (.block 0 (.loop Kj)))) }
theorem Xf : QS Go.Proofs.Tryz.prog 139 KC = true := by kernel_rfl
def Jb : SCode := (.seq (.seq (.rgd [jm 18 9 [],jm 19 1 [],jb 20 .gtr 18 19 [],jm 21 20 [],jt 22 21 (.mv (.v 3)) [],jt 23 21 (.mv (.v 0)) [],jt 24 21 (.mv (.v 9)) [],jt 25 21 (.iaddr 11 (.v 23) (.v 24)) [],jt 26 21 (.loadN 11 (.v 25)) [],jt 27 21 (.mv (.v 0)) [],jt 28 21 (.mv (.v 9)) [],jt 29 21 (.binN .sub (.v 28) (ci 1)) [],jt 30 21 (.iaddr 11 (.v 27) (.v 29)) [],jt 31 21 (.loadN 11 (.v 30)) [],jt 32 21 (.callV (.v 22) [.v 26,.v 31]) [],jt 33 21 (.bin .lss (.v 32) (ci 0)) [],jn 34 (.pick (.v 21) (.v 33) (.c (.bool false))) []] [0,1,2,3,8,9,34] [none,none,none,none,none,none,none,none,none,none,none,none,none,none,none,none,none]) (.cond (.v 34) .skip (.exit 2))) (.seq (.block 3 (.rgd [jm 37 0 [],jm 38 9 [],jm 39 0 [],jm 40 9 [],jn 41 (.binN .sub (.v 40) (ci 1)) [],jm 42 0 [],jm 43 9 [],jn 44 (.binN .sub (.v 43) (ci 1)) [],ja 45 11 42 44 [],jL 46 11 45 [],jm 47 0 [],jm 48 9 [],ja 49 11 47 48 [],jL 50 11 49 [],ja 51 11 37 38 [],⟨none,.store 11 (.v 51) (.v 46),none,[]⟩,ja 52 11 39 41 [],⟨none,.store 11 (.v 52) (.v 50),none,[]⟩] [0,1,2,3,8,9] [none,none,none,none,none,none,none,none,none,none,none,none,none,none,none,none,none,none])) (.rg [jm 35 9 [9],jn 36 (.binN .sub (.v 35) (ci 1)) [35],jm 9 36 [36]] [0,1,2,3,8,9])))
def Jq : SCode := (.seq (jq [jm 12 8 [],jm 13 2 [],jb 14 .lss 12 13 [12,13]] [0,1,2,3,8,14] (.cond (.v 14) .skip (.exit 0))) (.seq (.block 1 (jq [jm 17 8 [],jm 9 17 [17]] [0,1,2,3,8,9] (.block 2 (.loop Jb)))) (.rg [jm 15 8 [8],jn 16 (.binN .add (.v 15) (ci 1)) [15],jm 8 16 [16]] [0,1,2,3,8])))
/-- impl.HandOwn]: function 142 -/
def JS : SFun := { n := 53,res := [],body := (jq [jm 10 1 [],jn 11 (.binN .add (.v 10) (ci 1)) [10],jm 8 11 [11]] [0,1,2,3,8] (.block 0 (.loop Jq))) }
theorem YF : QS Go.Proofs.Tryz.prog 142 JS = true := by kernel_rfl
end Go.Ve

namespace Go.Ve
open Go.Proofs
set_option maxRecDepth 100000
noncomputable abbrev P := Go.Proofs.Tryz.prog
theorem hm : P.follows .mixedOrders = true := by kernel_rfl
theorem QpS (n lo hi : Int) (hp : True) : Contract P 120 [.int .i64 n, .int .i64 lo, .int .i64 hi] [] (.bool (decide (lo ≤ n ∧ n ≤ hi))) [] := by
  refine Qg (Env.nil P) hm Qip (Nat.le_of_ble_eq_true rfl) rfl ?_
  unfold QcF
  simp only [UW, Ql9, Qdp, Qdq, UX, GC, UY, UZ, Qdr, Qma, Qds, Qdt, Qdu, Qdv, Qdw, Qdx, Qdy, Qdz, QdA, QdB, QdC, GD, GE, GF, U0, U1, U2, GG, GH, GI, GJ, GK, GL, U3, U4, U5, U6, U7, Ym, Kx, Qdo, Gx, Gy, UT, Gz, UU, UV, Gw, Yl, UQ, UR, Qdl, US, Qdm, Qdn, GN, GO, Qj, Qk, Yq, Yr, GS, GT, GP, GQ, Ql, Qm, Qml, Qmm, Vb, Vc, QdD, U8, U9, Va, Vo, Vp, Vq, Yn, Yo, Yp, Qmb, Qmc, Qmd, Qme, Y9, GM, Qmg, Qmf, Qmh, Ys, Vd, QdE, Vf, QdF, QdG, QdH, QdI, Vg, GU, QdJ, GV, GW, GX, GY, GZ, Yt, Yu, G0, Vh, G1, Vi, Vj, Vk, Qmi, Qmj, QdK, G2, QdL, Yv, QdM, Vl, Y5, Qmk, G3, QdN, Vm, QdO, QdP, Qmn, QdQ, QdR, Qmo, QdS, Vn, QdT, Qmp, QdU, QdV, Qmq, Qmr, Qms, QdW, eff, Kr, JW, Vr, QdX, Vs, Vt, Vu, Qmt, Qmu, KL, Kw, G4, Qmv, Qmw, Qmx, W5, pur, List.map, List.drop, List.take, List.length, List.foldl, List.append_eq, List.nil_append, List.cons_append, List.getD_cons_zero, List.getD_cons_succ, reduceIte, Nat.reduceEqDiff, Nat.reduceAdd, Nat.reduceLeDiff, true_and, and_true, Bool.not_true, Bool.not_false, Bool.and_true, Bool.true_and, Bool.and_self, reduceCtorEq, true_implies, false_implies, implies_true, decide_eq_true_eq, Option.map_some, Qg9, fpX, SOp.xs, oX, refs, K7, dom, Qe6, List.all_nil, List.all_cons, List.contains_cons, List.contains_nil, Nat.reduceBEq, Bool.or_false, Bool.false_or, List.append_nil, Bool.not_false, Bool.not_true, List.forall_mem_cons, fm0, List.set, Nat.reduceLT, Nat.reduceMod, ne_eq, not_false_eq_true, not_true_eq_false
, Qmy, QdY, QdZ, Qd0, Vv, G5, Vw, Qd1, Vx, Vy, Qmz, QmA, QmB, Qd2, Qd3, Qd4, G6, G7, decide_true, AV.bool.injEq, AV.int.injEq, Nat.reduceLeDiff, Bool.true_eq, Bool.false_eq, decide_eq_true_eq, decide_eq_false_iff_not]
  repeat' (first | apply And.intro | intro _)
  all_goals (first | trivial | omega | (simp_all; done) | (simp_all; omega))
def Qt : List AV → Option (Prop × AV)
  | [.int .i64 n, .int .i64 lo, .int .i64 hi] => some (True, .bool (decide (lo ≤ n ∧ n ≤ hi)))
  | _ => none
theorem Kk : ∀ args p v, Qt args = some (p, v) → p → Contract P 120 args [] v [] ∧ noref v = true ∧ No99 v := by
  intro args p v h1 h2
  unfold Qt at h1
  split at h1
  · cases h1; exact ⟨QpS _ _ _ h2, rfl, trivial⟩
  · cases h1
theorem Qr3 (n lo hi : Int) (hp : True) : Contract P 80 [.int .i64 n, .int .i64 lo, .int .i64 hi] [] (.bool (decide (lo ≤ n ∧ n ≤ hi))) [] := by
  refine Qg (Env.nil P) hm Qjv (Nat.le_of_ble_eq_true rfl) rfl ?_
  unfold Qe0
  simp only [UW, Ql9, Qdp, Qdq, UX, GC, UY, UZ, Qdr, Qma, Qds, Qdt, Qdu, Qdv, Qdw, Qdx, Qdy, Qdz, QdA, QdB, QdC, GD, GE, GF, U0, U1, U2, GG, GH, GI, GJ, GK, GL, U3, U4, U5, U6, U7, Ym, Kx, Qdo, Gx, Gy, UT, Gz, UU, UV, Gw, Yl, UQ, UR, Qdl, US, Qdm, Qdn, GN, GO, Qj, Qk, Yq, Yr, GS, GT, GP, GQ, Ql, Qm, Qml, Qmm, Vb, Vc, QdD, U8, U9, Va, Vo, Vp, Vq, Yn, Yo, Yp, Qmb, Qmc, Qmd, Qme, Y9, GM, Qmg, Qmf, Qmh, Ys, Vd, QdE, Vf, QdF, QdG, QdH, QdI, Vg, GU, QdJ, GV, GW, GX, GY, GZ, Yt, Yu, G0, Vh, G1, Vi, Vj, Vk, Qmi, Qmj, QdK, G2, QdL, Yv, QdM, Vl, Y5, Qmk, G3, QdN, Vm, QdO, QdP, Qmn, QdQ, QdR, Qmo, QdS, Vn, QdT, Qmp, QdU, QdV, Qmq, Qmr, Qms, QdW, eff, Kr, JW, Vr, QdX, Vs, Vt, Vu, Qmt, Qmu, KL, Kw, G4, Qmv, Qmw, Qmx, W5, pur, List.map, List.drop, List.take, List.length, List.foldl, List.append_eq, List.nil_append, List.cons_append, List.getD_cons_zero, List.getD_cons_succ, reduceIte, Nat.reduceEqDiff, Nat.reduceAdd, Nat.reduceLeDiff, true_and, and_true, Bool.not_true, Bool.not_false, Bool.and_true, Bool.true_and, Bool.and_self, reduceCtorEq, true_implies, false_implies, implies_true, decide_eq_true_eq, Option.map_some, Qg9, fpX, SOp.xs, oX, refs, K7, dom, Qe6, List.all_nil, List.all_cons, List.contains_cons, List.contains_nil, Nat.reduceBEq, Bool.or_false, Bool.false_or, List.append_nil, Bool.not_false, Bool.not_true, List.forall_mem_cons, fm0, List.set, Nat.reduceLT, Nat.reduceMod, ne_eq, not_false_eq_true, not_true_eq_false
, Qmy, QdY, QdZ, Qd0, Vv, G5, Vw, Qd1, Vx, Vy, Qmz, QmA, QmB, Qd2, Qd3, Qd4, G6, G7, decide_true, AV.bool.injEq, AV.int.injEq, Nat.reduceLeDiff, Bool.true_eq, Bool.false_eq, decide_eq_true_eq, decide_eq_false_iff_not]
  repeat' (first | apply And.intro | intro _)
  all_goals (first | trivial | omega | (simp_all; done) | (simp_all; omega))
def Q2 : List AV → Option (Prop × AV)
  | [.int .i64 n, .int .i64 lo, .int .i64 hi] => some (True, .bool (decide (lo ≤ n ∧ n ≤ hi)))
  | _ => none
theorem YW : ∀ args p v, Q2 args = some (p, v) → p → Contract P 80 args [] v [] ∧ noref v = true ∧ No99 v := by
  intro args p v h1 h2
  unfold Q2 at h1
  split at h1
  · cases h1; exact ⟨Qr3 _ _ _ h2, rfl, trivial⟩
  · cases h1
theorem Qs5 (a b : Int) (hp : -9223372036854775808 ≤ a - b ∧ a - b ≤ 9223372036854775807 ∧ -9223372036854775808 ≤ b - a ∧ b - a ≤ 9223372036854775807) : Contract P 138 [.int .i64 a, .int .i64 b] [] (.int .i64 (max (a - b) (b - a))) [] := by
  refine Qg (Env.nil P) hm Qkq (Nat.le_of_ble_eq_true rfl) rfl ?_
  unfold Qgv
  simp only [UW, Ql9, Qdp, Qdq, UX, GC, UY, UZ, Qdr, Qma, Qds, Qdt, Qdu, Qdv, Qdw, Qdx, Qdy, Qdz, QdA, QdB, QdC, GD, GE, GF, U0, U1, U2, GG, GH, GI, GJ, GK, GL, U3, U4, U5, U6, U7, Ym, Kx, Qdo, Gx, Gy, UT, Gz, UU, UV, Gw, Yl, UQ, UR, Qdl, US, Qdm, Qdn, GN, GO, Qj, Qk, Yq, Yr, GS, GT, GP, GQ, Ql, Qm, Qml, Qmm, Vb, Vc, QdD, U8, U9, Va, Vo, Vp, Vq, Yn, Yo, Yp, Qmb, Qmc, Qmd, Qme, Y9, GM, Qmg, Qmf, Qmh, Ys, Vd, QdE, Vf, QdF, QdG, QdH, QdI, Vg, GU, QdJ, GV, GW, GX, GY, GZ, Yt, Yu, G0, Vh, G1, Vi, Vj, Vk, Qmi, Qmj, QdK, G2, QdL, Yv, QdM, Vl, Y5, Qmk, G3, QdN, Vm, QdO, QdP, Qmn, QdQ, QdR, Qmo, QdS, Vn, QdT, Qmp, QdU, QdV, Qmq, Qmr, Qms, QdW, eff, Kr, JW, Vr, QdX, Vs, Vt, Vu, Qmt, Qmu, KL, Kw, G4, Qmv, Qmw, Qmx, W5, pur, List.map, List.drop, List.take, List.length, List.foldl, List.append_eq, List.nil_append, List.cons_append, List.getD_cons_zero, List.getD_cons_succ, reduceIte, Nat.reduceEqDiff, Nat.reduceAdd, Nat.reduceLeDiff, true_and, and_true, Bool.not_true, Bool.not_false, Bool.and_true, Bool.true_and, Bool.and_self, reduceCtorEq, true_implies, false_implies, implies_true, decide_eq_true_eq, Option.map_some, Qg9, fpX, SOp.xs, oX, refs, K7, dom, Qe6, List.all_nil, List.all_cons, List.contains_cons, List.contains_nil, Nat.reduceBEq, Bool.or_false, Bool.false_or, List.append_nil, Bool.not_false, Bool.not_true, List.forall_mem_cons, fm0, List.set, Nat.reduceLT, Nat.reduceMod, ne_eq, not_false_eq_true, not_true_eq_false
, Qmy, QdY, QdZ, Qd0, Vv, G5, Vw, Qd1, Vx, Vy, Qmz, QmA, QmB, Qd2, Qd3, Qd4, G6, G7, decide_true, AV.bool.injEq, AV.int.injEq, Nat.reduceLeDiff, Bool.true_eq, Bool.false_eq, decide_eq_true_eq, decide_eq_false_iff_not]
  repeat' (first | apply And.intro | intro _)
  all_goals (first | trivial | omega | (simp_all; done) | (simp_all; omega))
def QhR : List AV → Option (Prop × AV)
  | [.int .i64 a, .int .i64 b] => some (-9223372036854775808 ≤ a - b ∧ a - b ≤ 9223372036854775807 ∧ -9223372036854775808 ≤ b - a ∧ b - a ≤ 9223372036854775807, .int .i64 (max (a - b) (b - a)))
  | _ => none
theorem Qs6 : ∀ args p v, QhR args = some (p, v) → p → Contract P 138 args [] v [] ∧ noref v = true ∧ No99 v := by
  intro args p v h1 h2
  unfold QhR at h1
  split at h1
  · cases h1; exact ⟨Qs5 _ _ h2, rfl, trivial⟩
  · cases h1
structure Box6 where
  x : Int
  y : Int
  l : Int
  h : Int
  i : Int
  o : Int
  deriving Inhabited
def Box6.row (b : Box6) : List AV := [.int .i64 b.x, .int .i64 b.y, .int .i64 b.l, .int .i64 b.h, .int .i64 b.i, .int .i64 b.o]
def Box6.ok (b : Box6) : Prop := (0 ≤ b.x ∧ b.x ≤ 15) ∧ (0 ≤ b.y ∧ b.y ≤ 15) ∧ 0 ≤ b.l ∧ b.l ≤ b.h ∧ b.h ≤ 6 ∧ 0 ≤ b.i ∧ b.i ≤ b.o ∧ b.o ≤ 10000
instance (b : Box6) : Decidable b.ok := by unfold Box6.ok; infer_instance
structure Stp7 where
  x : Int
  y : Int
  l : Int
  h : Int
  f : Int
  b : Int
  hold : Bool
  deriving Inhabited
def Stp7.row (s : Stp7) : List AV := [.int .i64 s.x, .int .i64 s.y, .int .i64 s.l, .int .i64 s.h, .int .i64 s.f, .int .i64 s.b, .bool s.hold]
def Stp7.ok (s : Stp7) : Prop := (0 ≤ s.x ∧ s.x ≤ 15) ∧ (0 ≤ s.y ∧ s.y ≤ 15) ∧ 0 ≤ s.l ∧ s.l ≤ s.h ∧ s.h ≤ 6 ∧ 0 ≤ s.f ∧ s.f ≤ s.b ∧ s.b ≤ 10000
instance (s : Stp7) : Decidable s.ok := by unfold Stp7.ok; infer_instance
def Stp7.nb (a s : Stp7) : Prop := (-1 ≤ a.x - s.x ∧ a.x - s.x ≤ 1) ∧ (-1 ≤ a.y - s.y ∧ a.y - s.y ≤ 1) ∧ ¬ (a.x = s.x ∧ a.y = s.y) ∧ a.l ≤ s.h ∧ s.l ≤ a.h
instance (a s : Stp7) : Decidable (a.nb s) := by unfold Stp7.nb; infer_instance
theorem Qn9 (x y l h i o : Int) (hp : True) : Contract P 121 [.agg [.int .i64 x, .int .i64 y, .int .i64 l, .int .i64 h, .int .i64 i, .int .i64 o]] [] (.bool (decide (Box6.ok ⟨x, y, l, h, i, o⟩))) [] := by
  refine Qg ((Env.nil P).add 120 Qt Kk) hm Qhs (Nat.le_of_ble_eq_true rfl) rfl ?_
  unfold QbC
  simp only [UW, Ql9, Qdp, Qdq, UX, GC, UY, UZ, Qdr, Qma, Qds, Qdt, Qdu, Qdv, Qdw, Qdx, Qdy, Qdz, QdA, QdB, QdC, GD, GE, GF, U0, U1, U2, GG, GH, GI, GJ, GK, GL, U3, U4, U5, U6, U7, Ym, Kx, Qdo, Gx, Gy, UT, Gz, UU, UV, Gw, Yl, UQ, UR, Qdl, US, Qdm, Qdn, GN, GO, Qj, Qk, Yq, Yr, GS, GT, GP, GQ, Ql, Qm, Qml, Qmm, Vb, Vc, QdD, U8, U9, Va, Vo, Vp, Vq, Yn, Yo, Yp, Qmb, Qmc, Qmd, Qme, Y9, GM, Qmg, Qmf, Qmh, Ys, Vd, QdE, Vf, QdF, QdG, QdH, QdI, Vg, GU, QdJ, GV, GW, GX, GY, GZ, Yt, Yu, G0, Vh, G1, Vi, Vj, Vk, Qmi, Qmj, QdK, G2, QdL, Yv, QdM, Vl, Y5, Qmk, G3, QdN, Vm, QdO, QdP, Qmn, QdQ, QdR, Qmo, QdS, Vn, QdT, Qmp, QdU, QdV, Qmq, Qmr, Qms, QdW, eff, Kr, JW, Vr, QdX, Vs, Vt, Vu, Qmt, Qmu, KL, Kw, G4, Qmv, Qmw, Qmx, W5, pur, List.map, List.drop, List.take, List.length, List.foldl, List.append_eq, List.nil_append, List.cons_append, List.getD_cons_zero, List.getD_cons_succ, reduceIte, Nat.reduceEqDiff, Nat.reduceAdd, Nat.reduceLeDiff, true_and, and_true, Bool.not_true, Bool.not_false, Bool.and_true, Bool.true_and, Bool.and_self, reduceCtorEq, true_implies, false_implies, implies_true, decide_eq_true_eq, Option.map_some, Qg9, fpX, SOp.xs, oX, refs, K7, dom, Qe6, List.all_nil, List.all_cons, List.contains_cons, List.contains_nil, Nat.reduceBEq, Bool.or_false, Bool.false_or, List.append_nil, Bool.not_false, Bool.not_true, List.forall_mem_cons, fm0, List.set, Nat.reduceLT, Nat.reduceMod, ne_eq, not_false_eq_true, not_true_eq_false
, Qmy, QdY, QdZ, Qd0, Vv, G5, Vw, Qd1, Vx, Vy, Qmz, QmA, QmB, Qd2, Qd3, Qd4, G6, G7, decide_true, AV.bool.injEq, AV.int.injEq, Nat.reduceLeDiff, Bool.true_eq, Bool.false_eq, decide_eq_true_eq, decide_eq_false_iff_not, Qt]
  simp only [Box6.ok]
  repeat' (first | apply And.intro | intro _)
  all_goals (first | trivial | omega | (simp_all; done) | (simp_all; omega))
def KO : List AV → Option (Prop × AV)
  | [.agg [.int .i64 x, .int .i64 y, .int .i64 l, .int .i64 h, .int .i64 i, .int .i64 o]] => some (True, .bool (decide (Box6.ok ⟨x, y, l, h, i, o⟩)))
  | _ => none
theorem Qgw : ∀ args p v, KO args = some (p, v) → p → Contract P 121 args [] v [] ∧ noref v = true ∧ No99 v := by
  intro args p v h1 h2
  unfold KO at h1
  split at h1
  · cases h1; exact ⟨Qn9 _ _ _ _ _ _ h2, rfl, trivial⟩
  · cases h1
theorem QmK (x y l h i o : Int) (hp : True) : Contract P 99 [.agg [.int .i64 x, .int .i64 y, .int .i64 l, .int .i64 h, .int .i64 i, .int .i64 o]] [] (.bool (decide (Box6.ok ⟨x, y, l, h, i, o⟩))) [] := by
  refine Qg ((Env.nil P).add 80 Q2 YW) hm Qgn (Nat.le_of_ble_eq_true rfl) rfl ?_
  unfold Qal
  simp only [UW, Ql9, Qdp, Qdq, UX, GC, UY, UZ, Qdr, Qma, Qds, Qdt, Qdu, Qdv, Qdw, Qdx, Qdy, Qdz, QdA, QdB, QdC, GD, GE, GF, U0, U1, U2, GG, GH, GI, GJ, GK, GL, U3, U4, U5, U6, U7, Ym, Kx, Qdo, Gx, Gy, UT, Gz, UU, UV, Gw, Yl, UQ, UR, Qdl, US, Qdm, Qdn, GN, GO, Qj, Qk, Yq, Yr, GS, GT, GP, GQ, Ql, Qm, Qml, Qmm, Vb, Vc, QdD, U8, U9, Va, Vo, Vp, Vq, Yn, Yo, Yp, Qmb, Qmc, Qmd, Qme, Y9, GM, Qmg, Qmf, Qmh, Ys, Vd, QdE, Vf, QdF, QdG, QdH, QdI, Vg, GU, QdJ, GV, GW, GX, GY, GZ, Yt, Yu, G0, Vh, G1, Vi, Vj, Vk, Qmi, Qmj, QdK, G2, QdL, Yv, QdM, Vl, Y5, Qmk, G3, QdN, Vm, QdO, QdP, Qmn, QdQ, QdR, Qmo, QdS, Vn, QdT, Qmp, QdU, QdV, Qmq, Qmr, Qms, QdW, eff, Kr, JW, Vr, QdX, Vs, Vt, Vu, Qmt, Qmu, KL, Kw, G4, Qmv, Qmw, Qmx, W5, pur, List.map, List.drop, List.take, List.length, List.foldl, List.append_eq, List.nil_append, List.cons_append, List.getD_cons_zero, List.getD_cons_succ, reduceIte, Nat.reduceEqDiff, Nat.reduceAdd, Nat.reduceLeDiff, true_and, and_true, Bool.not_true, Bool.not_false, Bool.and_true, Bool.true_and, Bool.and_self, reduceCtorEq, true_implies, false_implies, implies_true, decide_eq_true_eq, Option.map_some, Qg9, fpX, SOp.xs, oX, refs, K7, dom, Qe6, List.all_nil, List.all_cons, List.contains_cons, List.contains_nil, Nat.reduceBEq, Bool.or_false, Bool.false_or, List.append_nil, Bool.not_false, Bool.not_true, List.forall_mem_cons, fm0, List.set, Nat.reduceLT, Nat.reduceMod, ne_eq, not_false_eq_true, not_true_eq_false
, Qmy, QdY, QdZ, Qd0, Vv, G5, Vw, Qd1, Vx, Vy, Qmz, QmA, QmB, Qd2, Qd3, Qd4, G6, G7, decide_true, AV.bool.injEq, AV.int.injEq, Nat.reduceLeDiff, Bool.true_eq, Bool.false_eq, decide_eq_true_eq, decide_eq_false_iff_not, Q2]
  simp only [Box6.ok]
  repeat' (first | apply And.intro | intro _)
  all_goals (first | trivial | omega | (simp_all; done) | (simp_all; omega))
def Ka : List AV → Option (Prop × AV)
  | [.agg [.int .i64 x, .int .i64 y, .int .i64 l, .int .i64 h, .int .i64 i, .int .i64 o]] => some (True, .bool (decide (Box6.ok ⟨x, y, l, h, i, o⟩)))
  | _ => none
theorem Qeu : ∀ args p v, Ka args = some (p, v) → p → Contract P 99 args [] v [] ∧ noref v = true ∧ No99 v := by
  intro args p v h1 h2
  unfold Ka at h1
  split at h1
  · cases h1; exact ⟨QmK _ _ _ _ _ _ h2, rfl, trivial⟩
  · cases h1
end Go.Ve

namespace Go.Ve
open Go.Proofs
set_option maxRecDepth 100000
theorem KD (i : Nat) : ((i : Int) - 1).toNat = i - 1 := by omega
def Qgx (q s : Int) (l : List Stp7) (f b : Int) : Prop :=
  (1 ≤ q ∧ q ≤ s ∧ s ≤ 50) ∧ (1 ≤ l.length ∧ l.length ≤ 40) ∧ (0 ≤ f ∧ f ≤ b ∧ b ≤ 10000) ∧ ∀ i, i < l.length → (l.getD i default).ok ∧ (0 < i → Stp7.nb (l.getD (i - 1) default) (l.getD i default))
instance (q s : Int) (l : List Stp7) (f b : Int) : Decidable (Qgx q s l f b) := by unfold Qgx; infer_instance
end Go.Ve

namespace Go.Ve
open Go.Proofs
set_option maxRecDepth 100000
end Go.Ve

namespace Go.Ve
open Go.Proofs
set_option maxRecDepth 100000
structure Path5 where
  q : Int
  s : Int
  l : List Stp7
  f : Int
  b : Int
  deriving Inhabited
def Qr4 (l : List Box6) (i : Nat) : Stp7 := ⟨(l.getD i default).x, (l.getD i default).y, (l.getD i default).l, (l.getD i default).h, (l.getD i default).i, if 0 < i then min (l.getD i default).o ((l.getD (i - 1) default).o + 1) else (l.getD i default).o, false⟩
def Que (l : List Box6) (i : Nat) : Int := if 0 < i then (l.getD (i - 1) default).i else 0
def Quf (l : List Box6) (i : Nat) : Int := if 0 < i then (l.getD (i - 1) default).o + 1 else 0
def QtN (q s : Int) (l : List Box6) (i : Nat) : Path5 := ⟨q, s, (List.range i).map (Qr4 l), Que l i, Quf l i⟩
def Qs7 (q s : Int) (l : List Box6) : Prop := (∀ i, i < l.length → (l.getD i default).ok) ∧ Qgx q s (QtN q s l l.length).l (Que l l.length) (Quf l l.length)
instance (q s : Int) (l : List Box6) : Decidable (Qs7 q s l) := by unfold Qs7; infer_instance
end Go.Ve

namespace Go.Ve
open Go.Proofs
set_option maxRecDepth 100000
def Path5.low (p : Path5) (k : Nat) : Int := if k < p.l.length then (p.l.getD k default).f else p.f
def Path5.high (p : Path5) (k : Nat) : Int := if k < p.l.length then (p.l.getD k default).b else p.b
def Path5.most (p : Path5) (k : Nat) : Int := if (p.l.getD k default).hold then 10000 else p.s
structure Span2 where
  lo : Int
  hi : Int
  deriving Inhabited
def Span2.row (s : Span2) : List AV := [.int .i64 s.lo, .int .i64 s.hi]
/-- Ahead: the earliest and the latest, from the first step on. -/
def Path5.fwd (p : Path5) : Nat → Span2
  | 0 => ⟨p.low 0, p.high 0⟩
  | k + 1 => ⟨max (p.low (k + 1)) ((p.fwd k).lo + p.q), min (p.high (k + 1)) ((p.fwd k).hi + p.most k)⟩
/-- Back again, from the last one. -/
def Path5.bwd (p : Path5) : Nat → Span2
  | 0 => p.fwd p.l.length
  | d + 1 => ⟨max (p.fwd (p.l.length - (d + 1))).lo ((p.bwd d).lo - p.most (p.l.length - (d + 1))), min (p.fwd (p.l.length - (d + 1))).hi ((p.bwd d).hi - p.q)⟩
def Path5.span (p : Path5) (k : Nat) : Span2 := p.bwd (p.l.length - k)
def Path5.can (p : Path5) : Prop := ∀ k, k < p.l.length + 1 → (p.span k).lo ≤ (p.span k).hi
instance (p : Path5) : Decidable p.can := by unfold Path5.can; infer_instance
def Path5.spans (p : Path5) : List Span2 := if p.can then (List.range (p.l.length + 1)).map p.span else []
/-- What the passes ask of the numbers. -/
structure Path5.calm (p : Path5) : Prop where
  q : 0 ≤ p.q ∧ p.q ≤ 50
  s : 0 ≤ p.s ∧ p.s ≤ 50
  n : p.l.length ≤ 1048576
  lo : ∀ k, k ≤ p.l.length → 0 ≤ p.low k
  hi : ∀ k, k ≤ p.l.length → p.high k ≤ 10000
theorem Path5.calm.most {p : Path5} (h : p.calm) (k : Nat) : 0 ≤ p.most k ∧ p.most k ≤ 10000 := by
  unfold Path5.most
  have := h.s
  split <;> omega
end Go.Ve

namespace Go.Ve
open Go.Proofs
set_option maxRecDepth 100000
def QfD (n : Int) : List AV := [.int .i64 n]
def unI : List AV → Int
  | [.int _ n] => n
  | _ => 0
theorem Qur (l : List Int) : (l.map QfD).map unI = l := by
  rw [List.map_map]; exact List.map_id'' (fun s => rfl) l
/-- What the program starts from. -/
def Path5.ini (p : Path5) (bg : List Int) (k : Nat) : Span2 := if k < bg.length then ⟨max (p.low k) (bg.getD k default), min (p.high k) (bg.getD k default)⟩ else ⟨p.low k, p.high k⟩
/-- Ahead, as the program does it. -/
def Path5.wf (p : Path5) (bg : List Int) : Nat → Span2
  | 0 => p.ini bg 0
  | k + 1 => ⟨max (p.ini bg (k + 1)).lo (IntKind.i64.wrap ((p.wf bg k).lo + p.q)), if (p.l.getD k default).hold then (p.ini bg (k + 1)).hi else min (p.ini bg (k + 1)).hi (IntKind.i64.wrap ((p.wf bg k).hi + p.s))⟩
/-- Back again, as the program does it. -/
def Path5.wb (p : Path5) (bg : List Int) : Nat → Span2
  | 0 => p.wf bg p.l.length
  | d + 1 => ⟨if (p.l.getD (p.l.length - (d + 1)) default).hold then (p.wf bg (p.l.length - (d + 1))).lo else max (p.wf bg (p.l.length - (d + 1))).lo (IntKind.i64.wrap ((p.wb bg d).lo - p.s)), min (p.wf bg (p.l.length - (d + 1))).hi (IntKind.i64.wrap ((p.wb bg d).hi - p.q))⟩
def Path5.wsp (p : Path5) (bg : List Int) (j : Nat) : Span2 := p.wb bg (p.l.length - j)
def Path5.wcan (p : Path5) (bg : List Int) : Prop := ∀ k, k < p.l.length + 1 → (p.wsp bg k).lo ≤ (p.wsp bg k).hi
instance (p : Path5) (bg : List Int) : Decidable (p.wcan bg) := by unfold Path5.wcan; infer_instance
end Go.Ve

namespace Go.Ve
open Go.Proofs
set_option maxRecDepth 100000
def QpT (p : Path5) (bg : List Int) (k j : Nat) : Stp7 := if j < k then { p.l.getD j default with f := max (p.l.getD j default).f (bg.getD j default), b := min (p.l.getD j default).b (bg.getD j default) } else p.l.getD j default
def Path5.held (p : Path5) (bg : List Int) : Path5 := ⟨p.q, p.s, (List.range p.l.length).map (QpT p bg bg.length), p.f, p.b⟩
end Go.Ve

namespace Go.Ve
open Go.Proofs
set_option maxRecDepth 100000
def Path5.begun (p : Path5) (bg : List Int) : Prop := Qgx p.q p.s p.l p.f p.b ∧ bg.length ≤ p.l.length ∧ (p.held bg).can
instance (p : Path5) (bg : List Int) : Decidable (p.begun bg) := by unfold Path5.begun; infer_instance
def Path5.next (p : Path5) (bg : List Int) : Span2 := if p.begun bg then (p.held bg).span bg.length else ⟨0, 0⟩
end Go.Ve

namespace Go.Ve
/-! The program's passes and the reference's come to the same. -/
section
variable {p : Path5} {bg : List Int}
end
end Go.Ve

namespace Go.Ve
open Go.Proofs
set_option maxRecDepth 100000
end Go.Ve

namespace Go.Ve
open Go.Proofs
set_option maxRecDepth 100000
def Path5.fit (p : Path5) : Prop := Qgx p.q p.s p.l p.f p.b ∧ p.can
instance (p : Path5) : Decidable p.fit := by unfold Path5.fit; infer_instance
end Go.Ve

namespace Go.Ve
open Go.Proofs
set_option maxRecDepth 100000
def Qz : List AV → Box6
  | [.int _ x, .int _ y, .int _ l, .int _ h, .int _ i, .int _ o] => ⟨x, y, l, h, i, o⟩
  | _ => default
theorem QhS (l : List Box6) : (l.map Box6.row).map Qz = l := by
  rw [List.map_map]; exact List.map_id'' (fun s => rfl) l
end Go.Ve

namespace Go.Ve
open Go.Proofs
set_option maxRecDepth 100000
theorem WR {α : Type} [Inhabited α] {a b : List α} (hl : a.length = b.length) (h : ∀ j, j < a.length → a.getD j default = b.getD j default) : a = b := by
  refine List.ext_getElem hl fun j h1 h2 => ?_
  have := h j h1
  simpa [h1, h2] using this
end Go.Ve

namespace Go.Ve
open Go.Proofs
set_option maxRecDepth 100000
end Go.Ve

namespace Go.Ve
open Go.Proofs
set_option maxRecDepth 100000
def Path5.tail (p : Path5) (k : Nat) : Path5 := { p with l := p.l.drop k }
def Path5.after (p : Path5) (now : Int) : Path5 := if 1 < p.l.length then { p with l := p.l.set 1 { p.l.getD 1 default with f := max (p.l.getD 1 default).f (now + 1) } } else { p with f := max p.f (now + 1) }
end Go.Ve

namespace Go.Ve
/-! The spans are those of flights. -/
section
variable {p : Path5}
end

/-! A path begun later, or at a later step. -/
/-- The first step's ticks set anew. -/
def Path5.first (p : Path5) (f b : Int) : Path5 := { p with l := p.l.set 0 { p.l.getD 0 default with f := f, b := b } }
def Path5.rest (p : Path5) (k : Nat) (f b now : Int) : Path5 := ((p.tail k).first f b).after now
section
variable {p : Path5} {k : Nat} {f b now : Int}
end
/-! Waiting ahead of the first step. -/
def Path5.wait (p : Path5) (now : Int) : Path5 := { p with l := p.l.set 0 { p.l.getD 0 default with f := max (p.l.getD 0 default).f (now + 1) } }
end Go.Ve

namespace Go.Ve
open Go.Proofs
set_option maxRecDepth 100000
def Path5.restAt (p : Path5) (k e now : Int) : Path5 := p.rest k.toNat (max (p.l.getD k.toNat default).f e) (min (p.l.getD k.toNat default).b e) now
def Path5.goes (p : Path5) (k e now : Int) : Prop := Qgx p.q p.s p.l p.f p.b ∧ (0 ≤ k ∧ k < p.l.length) ∧ (0 ≤ e ∧ e ≤ now ∧ now ≤ 10000) ∧ (p.restAt k e now).can
instance (p : Path5) (k e now : Int) : Decidable (p.goes k e now) := by unfold Path5.goes; infer_instance
end Go.Ve

namespace Go.Ve
open Go.Proofs
set_option maxRecDepth 100000
end Go.Ve

namespace Go.Ve
open Go.Proofs
set_option maxRecDepth 100000
/-- The aircraft can stay where it is behind now. -/
def Path5.stays (p : Path5) (bg : List Int) (now : Int) : Prop := if bg.length = 0 then Qgx p.q p.s p.l p.f p.b ∧ (p.wait now).can else p.goes ((bg.length : Int) - 1) (bg.getD (bg.length - 1) default) now
instance (p : Path5) (bg : List Int) (now : Int) : Decidable (p.stays bg now) := by unfold Path5.stays; infer_instance
end Go.Ve

namespace Go.Ve
open Go.Proofs
set_option maxRecDepth 100000
def Path5.must (p : Path5) (bg : List Int) (now : Int) : Prop := p.begun bg ∧ ((p.next bg).lo ≤ now ∧ now ≤ (p.next bg).hi) ∧ ¬ p.stays bg now
instance (p : Path5) (bg : List Int) (now : Int) : Decidable (p.must bg now) := by unfold Path5.must; infer_instance
end Go.Ve

namespace Go.Ve
open Go.Proofs
set_option maxRecDepth 100000
def Gp (a : Int) (n : Nat) : Int := if a - n < 0 then -1 else a - n
theorem Box6.eq_iff (a b : Box6) : a = b ↔ a.x = b.x ∧ a.y = b.y ∧ a.l = b.l ∧ a.h = b.h ∧ a.i = b.i ∧ a.o = b.o := ⟨fun h => by subst h; exact ⟨rfl, rfl, rfl, rfl, rfl, rfl⟩, fun h => by
  cases a; cases b; simp only at h; simp only [Box6.mk.injEq]; exact h⟩
instance : DecidableEq Box6 := fun a b => decidable_of_iff _ (Box6.eq_iff a b).symm
theorem QpU (t sz : Nat) (xs : List (List AV)) (a : Int) (hp : (0 ≤ a ∧ a ≤ 1048576) ∧ xs.length ≤ 9223372036854775807) : Contract P 23 [.sl t sz xs, .int .i64 a] [] (.int .i64 (Gp a xs.length)) [] := by
  refine Qg (Env.nil P) hm Qea (Nat.le_of_ble_eq_true rfl) rfl ?_
  unfold VI
  simp only [UW, Ql9, Qdp, Qdq, UX, GC, UY, UZ, Qdr, Qma, Qds, Qdt, Qdu, Qdv, Qdw, Qdx, Qdy, Qdz, QdA, QdB, QdC, GD, GE, GF, U0, U1, U2, GG, GH, GI, GJ, GK, GL, U3, U4, U5, U6, U7, Ym, Kx, Qdo, Gx, Gy, UT, Gz, UU, UV, Gw, Yl, UQ, UR, Qdl, US, Qdm, Qdn, GN, GO, Qj, Qk, Yq, Yr, GS, GT, GP, GQ, Ql, Qm, Qml, Qmm, Vb, Vc, QdD, U8, U9, Va, Vo, Vp, Vq, Yn, Yo, Yp, Qmb, Qmc, Qmd, Qme, Y9, GM, Qmg, Qmf, Qmh, Ys, Vd, QdE, Vf, QdF, QdG, QdH, QdI, Vg, GU, QdJ, GV, GW, GX, GY, GZ, Yt, Yu, G0, Vh, G1, Vi, Vj, Vk, Qmi, Qmj, QdK, G2, QdL, Yv, QdM, Vl, Y5, Qmk, G3, QdN, Vm, QdO, QdP, Qmn, QdQ, QdR, Qmo, QdS, Vn, QdT, Qmp, QdU, QdV, Qmq, Qmr, Qms, QdW, eff, Kr, JW, Vr, QdX, Vs, Vt, Vu, Qmt, Qmu, KL, Kw, G4, Qmv, Qmw, Qmx, W5, pur, List.map, List.drop, List.take, List.length, List.foldl, List.append_eq, List.nil_append, List.cons_append, List.getD_cons_zero, List.getD_cons_succ, reduceIte, Nat.reduceEqDiff, Nat.reduceAdd, Nat.reduceLeDiff, true_and, and_true, Bool.not_true, Bool.not_false, Bool.and_true, Bool.true_and, Bool.and_self, reduceCtorEq, true_implies, false_implies, implies_true, decide_eq_true_eq, Option.map_some, Qg9, fpX, SOp.xs, oX, refs, K7, dom, Qe6, List.all_nil, List.all_cons, List.contains_cons, List.contains_nil, Nat.reduceBEq, Bool.or_false, Bool.false_or, List.append_nil, Bool.not_false, Bool.not_true, List.forall_mem_cons, fm0, List.set, Nat.reduceLT, Nat.reduceMod, ne_eq, not_false_eq_true, not_true_eq_false
, Qmy, QdY, QdZ, Qd0, Vv, G5, Vw, Qd1, Vx, Vy, Qmz, QmA, QmB, Qd2, Qd3, Qd4, G6, G7, decide_true, AV.bool.injEq, AV.int.injEq, Nat.reduceLeDiff, Bool.true_eq, Bool.false_eq, decide_eq_true_eq, decide_eq_false_iff_not]
  unfold Gp
  exact ⟨by omega, fun h => by rw [if_pos (by omega)], fun h => by rw [if_neg (by omega)]⟩
def Qa9 : List AV → Option (Prop × AV)
  | [.sl t sz xs, .int .i64 a] => some ((0 ≤ a ∧ a ≤ 1048576) ∧ xs.length ≤ 9223372036854775807, .int .i64 (Gp a xs.length))
  | _ => none
theorem Qlq : ∀ args p v, Qa9 args = some (p, v) → p → Contract P 23 args [] v [] ∧ noref v = true ∧ No99 v := by
  intro args p v h1 h2
  unfold Qa9 at h1
  split at h1
  · cases h1; exact ⟨QpU _ _ _ _ h2, rfl, trivial⟩
  · cases h1
theorem Qr5 (x : Int) (y : Int) (l : Int) (h : Int) (i : Int) (o : Int) (hp : True) : Contract P 67 [.agg [.int .i64 x, .int .i64 y, .int .i64 l, .int .i64 h, .int .i64 i, .int .i64 o]] [] (.agg [.int .i64 x, .int .i64 y, .int .i64 l, .int .i64 h, .int .i64 i, .int .i64 o]) [] := by
  refine Qg (Env.nil P) hm Qe8 (Nat.le_of_ble_eq_true rfl) rfl ?_
  unfold WB
  simp only [UW, Ql9, Qdp, Qdq, UX, GC, UY, UZ, Qdr, Qma, Qds, Qdt, Qdu, Qdv, Qdw, Qdx, Qdy, Qdz, QdA, QdB, QdC, GD, GE, GF, U0, U1, U2, GG, GH, GI, GJ, GK, GL, U3, U4, U5, U6, U7, Ym, Kx, Qdo, Gx, Gy, UT, Gz, UU, UV, Gw, Yl, UQ, UR, Qdl, US, Qdm, Qdn, GN, GO, Qj, Qk, Yq, Yr, GS, GT, GP, GQ, Ql, Qm, Qml, Qmm, Vb, Vc, QdD, U8, U9, Va, Vo, Vp, Vq, Yn, Yo, Yp, Qmb, Qmc, Qmd, Qme, Y9, GM, Qmg, Qmf, Qmh, Ys, Vd, QdE, Vf, QdF, QdG, QdH, QdI, Vg, GU, QdJ, GV, GW, GX, GY, GZ, Yt, Yu, G0, Vh, G1, Vi, Vj, Vk, Qmi, Qmj, QdK, G2, QdL, Yv, QdM, Vl, Y5, Qmk, G3, QdN, Vm, QdO, QdP, Qmn, QdQ, QdR, Qmo, QdS, Vn, QdT, Qmp, QdU, QdV, Qmq, Qmr, Qms, QdW, eff, Kr, JW, Vr, QdX, Vs, Vt, Vu, Qmt, Qmu, KL, Kw, G4, Qmv, Qmw, Qmx, W5, pur, List.map, List.drop, List.take, List.length, List.foldl, List.append_eq, List.nil_append, List.cons_append, List.getD_cons_zero, List.getD_cons_succ, reduceIte, Nat.reduceEqDiff, Nat.reduceAdd, Nat.reduceLeDiff, true_and, and_true, Bool.not_true, Bool.not_false, Bool.and_true, Bool.true_and, Bool.and_self, reduceCtorEq, true_implies, false_implies, implies_true, decide_eq_true_eq, Option.map_some, Qg9, fpX, SOp.xs, oX, refs, K7, dom, Qe6, List.all_nil, List.all_cons, List.contains_cons, List.contains_nil, Nat.reduceBEq, Bool.or_false, Bool.false_or, List.append_nil, Bool.not_false, Bool.not_true, List.forall_mem_cons, fm0, List.set, Nat.reduceLT, Nat.reduceMod, ne_eq, not_false_eq_true, not_true_eq_false
, Qmy, QdY, QdZ, Qd0, Vv, G5, Vw, Qd1, Vx, Vy, Qmz, QmA, QmB, Qd2, Qd3, Qd4, G6, G7, decide_true, AV.bool.injEq, AV.int.injEq, Nat.reduceLeDiff, Bool.true_eq, Bool.false_eq, decide_eq_true_eq, decide_eq_false_iff_not]

def QaB : List AV → Option (Prop × AV)
  | [.agg [.int .i64 x, .int .i64 y, .int .i64 l, .int .i64 h, .int .i64 i, .int .i64 o]] => some (True, .agg [.int .i64 x, .int .i64 y, .int .i64 l, .int .i64 h, .int .i64 i, .int .i64 o])
  | _ => none
theorem Qoa : ∀ args p v, QaB args = some (p, v) → p → Contract P 67 args [] v [] ∧ noref v = true ∧ No99 v := by
  intro args p v h1 h2
  unfold QaB at h1
  split at h1
  · cases h1; exact ⟨Qr5 _ _ _ _ _ _ h2, rfl, by simp [No99, JI]⟩
  · cases h1
theorem Qr6 (x : Int) (y : Int) (l : Int) (h : Int) (i : Int) (o : Int) (ox : Int) (oy : Int) (ol : Int) (oh : Int) (oi : Int) (oo : Int) : Contract P 69 [.agg [.int .i64 x, .int .i64 y, .int .i64 l, .int .i64 h, .int .i64 i, .int .i64 o], .agg [.int .i64 ox, .int .i64 oy, .int .i64 ol, .int .i64 oh, .int .i64 oi, .int .i64 oo]] [] (.bool (decide ((⟨x, y, l, h, i, o⟩ : Box6) = ⟨ox, oy, ol, oh, oi, oo⟩))) [] := by
  refine Qg (Env.nil P) hm Qe9 (Nat.le_of_ble_eq_true rfl) rfl ?_
  unfold WC
  simp only [UW, Ql9, Qdp, Qdq, UX, GC, UY, UZ, Qdr, Qma, Qds, Qdt, Qdu, Qdv, Qdw, Qdx, Qdy, Qdz, QdA, QdB, QdC, GD, GE, GF, U0, U1, U2, GG, GH, GI, GJ, GK, GL, U3, U4, U5, U6, U7, Ym, Kx, Qdo, Gx, Gy, UT, Gz, UU, UV, Gw, Yl, UQ, UR, Qdl, US, Qdm, Qdn, GN, GO, Qj, Qk, Yq, Yr, GS, GT, GP, GQ, Ql, Qm, Qml, Qmm, Vb, Vc, QdD, U8, U9, Va, Vo, Vp, Vq, Yn, Yo, Yp, Qmb, Qmc, Qmd, Qme, Y9, GM, Qmg, Qmf, Qmh, Ys, Vd, QdE, Vf, QdF, QdG, QdH, QdI, Vg, GU, QdJ, GV, GW, GX, GY, GZ, Yt, Yu, G0, Vh, G1, Vi, Vj, Vk, Qmi, Qmj, QdK, G2, QdL, Yv, QdM, Vl, Y5, Qmk, G3, QdN, Vm, QdO, QdP, Qmn, QdQ, QdR, Qmo, QdS, Vn, QdT, Qmp, QdU, QdV, Qmq, Qmr, Qms, QdW, eff, Kr, JW, Vr, QdX, Vs, Vt, Vu, Qmt, Qmu, KL, Kw, G4, Qmv, Qmw, Qmx, W5, pur, List.map, List.drop, List.take, List.length, List.foldl, List.append_eq, List.nil_append, List.cons_append, List.getD_cons_zero, List.getD_cons_succ, reduceIte, Nat.reduceEqDiff, Nat.reduceAdd, Nat.reduceLeDiff, true_and, and_true, Bool.not_true, Bool.not_false, Bool.and_true, Bool.true_and, Bool.and_self, reduceCtorEq, true_implies, false_implies, implies_true, decide_eq_true_eq, Option.map_some, Qg9, fpX, SOp.xs, oX, refs, K7, dom, Qe6, List.all_nil, List.all_cons, List.contains_cons, List.contains_nil, Nat.reduceBEq, Bool.or_false, Bool.false_or, List.append_nil, Bool.not_false, Bool.not_true, List.forall_mem_cons, fm0, List.set, Nat.reduceLT, Nat.reduceMod, ne_eq, not_false_eq_true, not_true_eq_false
, Qmy, QdY, QdZ, Qd0, Vv, G5, Vw, Qd1, Vx, Vy, Qmz, QmA, QmB, Qd2, Qd3, Qd4, G6, G7, decide_true, AV.bool.injEq, AV.int.injEq, Nat.reduceLeDiff, Bool.true_eq, Bool.false_eq, decide_eq_true_eq, decide_eq_false_iff_not]
  simp only [Box6.mk.injEq]
  repeat' (first | apply And.intro | intro _)
  all_goals (first | trivial | (simp_all; done))
def Qgy : List AV → Option (Prop × AV)
  | [.agg [.int .i64 x, .int .i64 y, .int .i64 l, .int .i64 h, .int .i64 i, .int .i64 o], .agg [.int .i64 ox, .int .i64 oy, .int .i64 ol, .int .i64 oh, .int .i64 oi, .int .i64 oo]] => some (True, .bool (decide ((⟨x, y, l, h, i, o⟩ : Box6) = ⟨ox, oy, ol, oh, oi, oo⟩)))
  | _ => none
theorem Qr7 : ∀ args p v, Qgy args = some (p, v) → p → Contract P 69 args [] v [] ∧ noref v = true ∧ No99 v := by
  intro args p v h1 h2
  unfold Qgy at h1
  split at h1
  · cases h1; exact ⟨Qr6 _ _ _ _ _ _ _ _ _ _ _ _, rfl, trivial⟩
  · cases h1
def Qlr (t t' : Nat) (a b : List Box6) (i : Nat) : St := ⟨[(0, .sl t 6 (a.map Box6.row)), (1, .sl t' 6 (b.map Box6.row)), (5, .int .i64 i)], []⟩
theorem QpV (t t' : Nat) (a b : List Box6) (ha : a.length ≤ 4611686018427387904) : Contract P 27 [.sl t 6 (a.map Box6.row), .sl t' 6 (b.map Box6.row)] [] (.bool (decide (a = b))) [] := by
  refine Qg ((Env.nil P).add 69 Qgy Qr7) hm Qec (Nat.le_of_ble_eq_true rfl) rfl ?_
  unfold VK
  simp only [UW, Ql9, Qdp, Qdq, UX, GC, UY, UZ, Qdr, Qma, Qds, Qdt, Qdu, Qdv, Qdw, Qdx, Qdy, Qdz, QdA, QdB, QdC, GD, GE, GF, U0, U1, U2, GG, GH, GI, GJ, GK, GL, U3, U4, U5, U6, U7, Ym, Kx, Qdo, Gx, Gy, UT, Gz, UU, UV, Gw, Yl, UQ, UR, Qdl, US, Qdm, Qdn, GN, GO, Qj, Qk, Yq, Yr, GS, GT, GP, GQ, Ql, Qm, Qml, Qmm, Vb, Vc, QdD, U8, U9, Va, Vo, Vp, Vq, Yn, Yo, Yp, Qmb, Qmc, Qmd, Qme, Y9, GM, Qmg, Qmf, Qmh, Ys, Vd, QdE, Vf, QdF, QdG, QdH, QdI, Vg, GU, QdJ, GV, GW, GX, GY, GZ, Yt, Yu, G0, Vh, G1, Vi, Vj, Vk, Qmi, Qmj, QdK, G2, QdL, Yv, QdM, Vl, Y5, Qmk, G3, QdN, Vm, QdO, QdP, Qmn, QdQ, QdR, Qmo, QdS, Vn, QdT, Qmp, QdU, QdV, Qmq, Qmr, Qms, QdW, eff, Kr, JW, Vr, QdX, Vs, Vt, Vu, Qmt, Qmu, KL, Kw, G4, Qmv, Qmw, Qmx, W5, pur, List.map, List.drop, List.take, List.length, List.foldl, List.append_eq, List.nil_append, List.cons_append, List.getD_cons_zero, List.getD_cons_succ, reduceIte, Nat.reduceEqDiff, Nat.reduceAdd, Nat.reduceLeDiff, true_and, and_true, Bool.not_true, Bool.not_false, Bool.and_true, Bool.true_and, Bool.and_self, reduceCtorEq, true_implies, false_implies, implies_true, decide_eq_true_eq, Option.map_some, Qg9, fpX, SOp.xs, oX, refs, K7, dom, Qe6, List.all_nil, List.all_cons, List.contains_cons, List.contains_nil, Nat.reduceBEq, Bool.or_false, Bool.false_or, List.append_nil, Bool.not_false, Bool.not_true, List.forall_mem_cons, fm0, List.set, Nat.reduceLT, Nat.reduceMod, ne_eq, not_false_eq_true, not_true_eq_false
, Qmy, QdY, QdZ, Qd0, Vv, G5, Vw, Qd1, Vx, Vy, Qmz, QmA, QmB, Qd2, Qd3, Qd4, G6, G7, decide_true, AV.bool.injEq, AV.int.injEq, Nat.reduceLeDiff, Bool.true_eq, Bool.false_eq, decide_eq_true_eq, decide_eq_false_iff_not, Qgy, List.length_map, Box6.row, Int.toNat_natCast, Int.natCast_inj]
  refine ⟨fun h1 h => h1 (by rw [h]), fun h1 => ?_⟩
  refine Qig (Qlr t t' a b) (fun i => i ≤ a.length ∧ ∀ j, j < i → a.getD j default = b.getD j default) (fun i => a.length - i) 0 ⟨⟨.inr rfl, .inr rfl, .inr rfl, trivial⟩, trivial, rfl, rfl⟩ ⟨Nat.zero_le _, fun j hj => by omega⟩ ?_
  intro i hi
  unfold Zr Qlr
  simp only [UW, Ql9, Qdp, Qdq, UX, GC, UY, UZ, Qdr, Qma, Qds, Qdt, Qdu, Qdv, Qdw, Qdx, Qdy, Qdz, QdA, QdB, QdC, GD, GE, GF, U0, U1, U2, GG, GH, GI, GJ, GK, GL, U3, U4, U5, U6, U7, Ym, Kx, Qdo, Gx, Gy, UT, Gz, UU, UV, Gw, Yl, UQ, UR, Qdl, US, Qdm, Qdn, GN, GO, Qj, Qk, Yq, Yr, GS, GT, GP, GQ, Ql, Qm, Qml, Qmm, Vb, Vc, QdD, U8, U9, Va, Vo, Vp, Vq, Yn, Yo, Yp, Qmb, Qmc, Qmd, Qme, Y9, GM, Qmg, Qmf, Qmh, Ys, Vd, QdE, Vf, QdF, QdG, QdH, QdI, Vg, GU, QdJ, GV, GW, GX, GY, GZ, Yt, Yu, G0, Vh, G1, Vi, Vj, Vk, Qmi, Qmj, QdK, G2, QdL, Yv, QdM, Vl, Y5, Qmk, G3, QdN, Vm, QdO, QdP, Qmn, QdQ, QdR, Qmo, QdS, Vn, QdT, Qmp, QdU, QdV, Qmq, Qmr, Qms, QdW, eff, Kr, JW, Vr, QdX, Vs, Vt, Vu, Qmt, Qmu, KL, Kw, G4, Qmv, Qmw, Qmx, W5, pur, List.map, List.drop, List.take, List.length, List.foldl, List.append_eq, List.nil_append, List.cons_append, List.getD_cons_zero, List.getD_cons_succ, reduceIte, Nat.reduceEqDiff, Nat.reduceAdd, Nat.reduceLeDiff, true_and, and_true, Bool.not_true, Bool.not_false, Bool.and_true, Bool.true_and, Bool.and_self, reduceCtorEq, true_implies, false_implies, implies_true, decide_eq_true_eq, Option.map_some, Qg9, fpX, SOp.xs, oX, refs, K7, dom, Qe6, List.all_nil, List.all_cons, List.contains_cons, List.contains_nil, Nat.reduceBEq, Bool.or_false, Bool.false_or, List.append_nil, Bool.not_false, Bool.not_true, List.forall_mem_cons, fm0, List.set, Nat.reduceLT, Nat.reduceMod, ne_eq, not_false_eq_true, not_true_eq_false
, Qmy, QdY, QdZ, Qd0, Vv, G5, Vw, Qd1, Vx, Vy, Qmz, QmA, QmB, Qd2, Qd3, Qd4, G6, G7, decide_true, AV.bool.injEq, AV.int.injEq, Nat.reduceLeDiff, Bool.true_eq, Bool.false_eq, decide_eq_true_eq, decide_eq_false_iff_not, Qgy, List.length_map, Box6.row, Int.toNat_natCast, Int.natCast_inj]
  refine ⟨fun h2 => ⟨by omega, by omega, by omega, by omega, fun h3 => ⟨by omega, Qlf (i + 1) ⟨⟨.inr rfl, .inr rfl, .inr rfl, trivial⟩, trivial, rfl, rfl⟩ ⟨by omega, fun j hj => ?_⟩ (by omega)⟩, fun h3 h => h3 (by rw [h])⟩, fun h2 => WR (by omega) fun j hj => hi.2 j (by have := hi.1; omega)⟩
  by_cases e : j = i
  · subst e; exact h3
  · exact hi.2 j (by omega)
theorem QfE {lst : List Box6} {idx : Nat} {vx : Int} {vy : Int} {vl : Int} {vh : Int} {vi : Int} {vo : Int} : (lst.map Box6.row).set idx (QU ((lst.map Box6.row).getD idx []) 0 [.int .i64 vx, .int .i64 vy, .int .i64 vl, .int .i64 vh, .int .i64 vi, .int .i64 vo]) = (lst.set idx ⟨vx, vy, vl, vh, vi, vo⟩).map Box6.row :=
  JQ (α := Box6) (f := Box6.row) (fun s => ⟨vx, vy, vl, vh, vi, vo⟩) fun x => by simp [Box6.row, QU]
def KY (a : List Box6) (i : Nat) : List Box6 := a.take i ++ List.replicate (a.length - i) ⟨0, 0, 0, 0, 0, 0⟩
def Qls (t : Nat) (a : List Box6) (i : Nat) : St := ⟨[(0, .sl t 6 (a.map Box6.row)), (3, .own 107 0 0 a.length), (4, .int .i64 i)], [(107, .arr 100 0 6 ((KY a i).map Box6.row))]⟩
theorem QpW (t : Nat) (a : List Box6) (ha : a.length ≤ 1048576) : Contract P 25 [.sl t 6 (a.map Box6.row)] [] (.sl 0 6 (a.map Box6.row)) [] := by
  refine Qg ((Env.nil P).add 67 QaB Qoa) hm Qeb (Nat.le_of_ble_eq_true rfl) rfl ?_
  unfold VJ
  simp only [UW, Ql9, Qdp, Qdq, UX, GC, UY, UZ, Qdr, Qma, Qds, Qdt, Qdu, Qdv, Qdw, Qdx, Qdy, Qdz, QdA, QdB, QdC, GD, GE, GF, U0, U1, U2, GG, GH, GI, GJ, GK, GL, U3, U4, U5, U6, U7, Ym, Kx, Qdo, Gx, Gy, UT, Gz, UU, UV, Gw, Yl, UQ, UR, Qdl, US, Qdm, Qdn, GN, GO, Qj, Qk, Yq, Yr, GS, GT, GP, GQ, Ql, Qm, Qml, Qmm, Vb, Vc, QdD, U8, U9, Va, Vo, Vp, Vq, Yn, Yo, Yp, Qmb, Qmc, Qmd, Qme, Y9, GM, Qmg, Qmf, Qmh, Ys, Vd, QdE, Vf, QdF, QdG, QdH, QdI, Vg, GU, QdJ, GV, GW, GX, GY, GZ, Yt, Yu, G0, Vh, G1, Vi, Vj, Vk, Qmi, Qmj, QdK, G2, QdL, Yv, QdM, Vl, Y5, Qmk, G3, QdN, Vm, QdO, QdP, Qmn, QdQ, QdR, Qmo, QdS, Vn, QdT, Qmp, QdU, QdV, Qmq, Qmr, Qms, QdW, eff, Kr, JW, Vr, QdX, Vs, Vt, Vu, Qmt, Qmu, KL, Kw, G4, Qmv, Qmw, Qmx, W5, pur, List.map, List.drop, List.take, List.length, List.foldl, List.append_eq, List.nil_append, List.cons_append, List.getD_cons_zero, List.getD_cons_succ, reduceIte, Nat.reduceEqDiff, Nat.reduceAdd, Nat.reduceLeDiff, true_and, and_true, Bool.not_true, Bool.not_false, Bool.and_true, Bool.true_and, Bool.and_self, reduceCtorEq, true_implies, false_implies, implies_true, decide_eq_true_eq, Option.map_some, Qg9, fpX, SOp.xs, oX, refs, K7, dom, Qe6, List.all_nil, List.all_cons, List.contains_cons, List.contains_nil, Nat.reduceBEq, Bool.or_false, Bool.false_or, List.append_nil, Bool.not_false, Bool.not_true, List.forall_mem_cons, fm0, List.set, Nat.reduceLT, Nat.reduceMod, ne_eq, not_false_eq_true, not_true_eq_false
, Qmy, QdY, QdZ, Qd0, Vv, G5, Vw, Qd1, Vx, Vy, Qmz, QmA, QmB, Qd2, Qd3, Qd4, G6, G7, decide_true, AV.bool.injEq, AV.int.injEq, Nat.reduceLeDiff, Bool.true_eq, Bool.false_eq, decide_eq_true_eq, decide_eq_false_iff_not, QaB, List.length_map, Box6.row, Int.toNat_natCast, Qkf, QfE, Nat.zero_add, Nat.sub_zero]
  have m0 : List.replicate a.length [.int .i64 0, .int .i64 0, .int .i64 0, .int .i64 0, .int .i64 0, .int .i64 0] = (KY a 0).map Box6.row := by simp [KY, Box6.row]
  refine ⟨by omega, Qig (Qls t a) (fun i => i ≤ a.length) (fun i => a.length - i) 0 ⟨⟨.inr rfl, .inr rfl, .inr rfl, trivial⟩, ⟨congrArg (fun g => some (AObj.arr 100 0 6 g)) m0, trivial⟩, rfl, rfl⟩ (Nat.zero_le _) ?_⟩
  intro i hi
  unfold Zq Qls
  simp only [UW, Ql9, Qdp, Qdq, UX, GC, UY, UZ, Qdr, Qma, Qds, Qdt, Qdu, Qdv, Qdw, Qdx, Qdy, Qdz, QdA, QdB, QdC, GD, GE, GF, U0, U1, U2, GG, GH, GI, GJ, GK, GL, U3, U4, U5, U6, U7, Ym, Kx, Qdo, Gx, Gy, UT, Gz, UU, UV, Gw, Yl, UQ, UR, Qdl, US, Qdm, Qdn, GN, GO, Qj, Qk, Yq, Yr, GS, GT, GP, GQ, Ql, Qm, Qml, Qmm, Vb, Vc, QdD, U8, U9, Va, Vo, Vp, Vq, Yn, Yo, Yp, Qmb, Qmc, Qmd, Qme, Y9, GM, Qmg, Qmf, Qmh, Ys, Vd, QdE, Vf, QdF, QdG, QdH, QdI, Vg, GU, QdJ, GV, GW, GX, GY, GZ, Yt, Yu, G0, Vh, G1, Vi, Vj, Vk, Qmi, Qmj, QdK, G2, QdL, Yv, QdM, Vl, Y5, Qmk, G3, QdN, Vm, QdO, QdP, Qmn, QdQ, QdR, Qmo, QdS, Vn, QdT, Qmp, QdU, QdV, Qmq, Qmr, Qms, QdW, eff, Kr, JW, Vr, QdX, Vs, Vt, Vu, Qmt, Qmu, KL, Kw, G4, Qmv, Qmw, Qmx, W5, pur, List.map, List.drop, List.take, List.length, List.foldl, List.append_eq, List.nil_append, List.cons_append, List.getD_cons_zero, List.getD_cons_succ, reduceIte, Nat.reduceEqDiff, Nat.reduceAdd, Nat.reduceLeDiff, true_and, and_true, Bool.not_true, Bool.not_false, Bool.and_true, Bool.true_and, Bool.and_self, reduceCtorEq, true_implies, false_implies, implies_true, decide_eq_true_eq, Option.map_some, Qg9, fpX, SOp.xs, oX, refs, K7, dom, Qe6, List.all_nil, List.all_cons, List.contains_cons, List.contains_nil, Nat.reduceBEq, Bool.or_false, Bool.false_or, List.append_nil, Bool.not_false, Bool.not_true, List.forall_mem_cons, fm0, List.set, Nat.reduceLT, Nat.reduceMod, ne_eq, not_false_eq_true, not_true_eq_false
, Qmy, QdY, QdZ, Qd0, Vv, G5, Vw, Qd1, Vx, Vy, Qmz, QmA, QmB, Qd2, Qd3, Qd4, G6, G7, decide_true, AV.bool.injEq, AV.int.injEq, Nat.reduceLeDiff, Bool.true_eq, Bool.false_eq, decide_eq_true_eq, decide_eq_false_iff_not, QaB, List.length_map, Box6.row, Int.toNat_natCast, Qkf, QfE, Nat.zero_add, Nat.sub_zero]
  have st : i < a.length → (KY a i).set i (a.getD i default) = KY a (i + 1) := fun h => by
    refine List.ext_getElem (by simp [KY]; omega) fun j h1 h2 => ?_
    by_cases e : j = i
    · subst e
      simp [KY, List.getElem_append, h]
      intro h9; omega
    · simp only [List.getElem_set_ne (Ne.symm e)]
      simp only [KY, List.getElem_append, List.length_take, List.getElem_take, List.getElem_replicate]
      split <;> split <;> first | rfl | omega
  refine ⟨fun h => ⟨by omega, by omega, by omega, rfl, by omega, Qlf (i + 1) ⟨⟨.inr rfl, .inr rfl, .inr rfl, trivial⟩, ⟨congrArg (fun g => some (AObj.arr 100 0 6 (List.map Box6.row g))) (st (by omega)), trivial⟩, rfl, rfl⟩ (by omega) (by omega)⟩, fun h => ?_⟩
  have e : i = a.length := by omega
  subst e
  simp only [KY, List.take_length, Nat.sub_self, List.replicate_zero, List.append_nil]
  rw [List.take_of_length_le (by simp)]
end Go.Ve

namespace Go.Ve
open Go.Proofs
set_option maxRecDepth 100000
structure Kind2 where
  q : Int
  s : Int
  deriving Inhabited
theorem Qe2 (l : List Int) : Jh (l.map QfD) := by
  induction l with
  | nil => trivial
  | cons x l ih => exact ⟨⟨trivial, trivial⟩, ih⟩
theorem Jv (l : List Box6) : Jh (l.map Box6.row) := by
  induction l with
  | nil => trivial
  | cons x l ih => exact ⟨⟨trivial, trivial, trivial, trivial, trivial, trivial, trivial⟩, ih⟩
def Qba : List AV → Option (Prop × AV)
  | [.sl _ 6 xs, .sl _ 6 ys] => some (((xs.map Qz).map Box6.row = xs ∧ (ys.map Qz).map Box6.row = ys) ∧ (xs.map Qz).length ≤ 4611686018427387904, .bool (decide (xs.map Qz = ys.map Qz)))
  | _ => none
theorem Qlt : ∀ args p v, Qba args = some (p, v) → p → Contract P 27 args [] v [] ∧ noref v = true ∧ No99 v := by
  intro args p v h1 h2
  unfold Qba at h1
  split at h1
  · rename_i t xs t' ys
    cases h1
    have := QpV t t' (xs.map Qz) (ys.map Qz) h2.2
    simp only [h2.1.1, h2.1.2] at this
    exact ⟨this, rfl, trivial⟩
  · cases h1
def Qbb : List AV → Option (Prop × AV)
  | [.sl _ 6 xs] => some ((xs.map Qz).map Box6.row = xs ∧ (xs.map Qz).length ≤ 1048576, .sl 0 6 ((xs.map Qz).map Box6.row))
  | _ => none
theorem Qlu : ∀ args p v, Qbb args = some (p, v) → p → Contract P 25 args [] v [] ∧ noref v = true ∧ No99 v := by
  intro args p v h1 h2
  unfold Qbb at h1
  split at h1
  · rename_i t xs
    cases h1
    have := QpW t (xs.map Qz) h2.2
    rw [h2.1] at this ⊢
    exact ⟨this, rfl, by omega, by rw [← h2.1]; exact Jv _⟩
  · cases h1
theorem Kind2.eq_iff (a b : Kind2) : a = b ↔ a.q = b.q ∧ a.s = b.s := ⟨fun h => by subst h; exact ⟨rfl, rfl⟩, fun h => by
  cases a; cases b; simp only at h; simp only [Kind2.mk.injEq]; exact h⟩
instance : DecidableEq Kind2 := fun a b => decidable_of_iff _ (Kind2.eq_iff a b).symm
end Go.Ve

namespace Go.Ve
noncomputable section
open Go.Proofs
set_option maxRecDepth 100000
structure Zone where
  nm : ByteArray
  x0 : Int
  y0 : Int
  x1 : Int
  y1 : Int
  deriving Inhabited, DecidableEq
def Zone.row (s : Zone) : List AV := [.str s.nm, .int .i64 s.x0, .int .i64 s.y0, .int .i64 s.x1, .int .i64 s.y1]
def Qx : List AV → Zone
  | [.str vnm, .int .i64 vx0, .int .i64 vy0, .int .i64 vx1, .int .i64 vy1] => (Zone.mk vnm vx0 vy0 vx1 vy1)
  | _ => default
theorem QmL (s : Zone) : Qx (Zone.row s) = s := by
  cases s; simp only [Zone.row, Qx]
theorem UJ (l : List Zone) : (l.map Zone.row).map Qx = l := by
  rw [List.map_map]; exact List.map_id'' (fun s => QmL s) l
theorem K4 (s : Zone) : (Zone.mk s.nm s.x0 s.y0 s.x1 s.y1) = s := (rfl)
theorem QpX (s : Zone) : (Zone.row s).length = 5 := (rfl)
theorem Qr8 (s : Zone) : Je (Zone.row s) = true := (rfl)
theorem KE (l : List Zone) : Jh (l.map Zone.row) := by
  induction l with
  | nil => simp [Jh]
  | cons x l ih => simp only [List.map_cons, Jh]; exact ⟨by simp [Zone.row, JI, No99], ih⟩
theorem Qob (s : Zone) : List.take 5 (Zone.row s) = Zone.row s := (rfl)
structure Word where
  kd : Int
  fr : ByteArray
  dst : ByteArray
  fl : ByteArray
  nr : Int
  la : Int
  tn : Int
  tu : List Box6
  deriving Inhabited, DecidableEq
def Word.row (t : Nat) (s : Word) : List AV := [.int .i64 s.kd, .str s.fr, .str s.dst, .str s.fl, .int .i64 s.nr, .int .i64 s.la, .int .i64 s.tn, .sl t 6 (s.tu.map Box6.row)]
def Qjw : List AV → Word
  | [.int .i64 vkd, .str vfr, .str vdst, .str vfl, .int .i64 vnr, .int .i64 vla, .int .i64 vtn, .sl _ 6 vtu] => (Word.mk vkd vfr vdst vfl vnr vla vtn (vtu.map Qz))
  | _ => default
theorem QmM (t : Nat) (s : Word) : Qjw (Word.row t s) = s := by
  cases s; simp only [Word.row, Qjw, QhS]
theorem Qir (t : Nat) (l : List Word) : (l.map (Word.row t)).map Qjw = l := by
  rw [List.map_map]; exact List.map_id'' (fun s => QmM t s) l
theorem QpY (s : Word) : (Word.mk s.kd s.fr s.dst s.fl s.nr s.la s.tn s.tu) = s := (rfl)
theorem YM (l : List Word) : Jh (l.map (Word.row 0)) := by
  induction l with
  | nil => simp [Jh]
  | cons x l ih => simp only [List.map_cons, Jh]; exact ⟨by simp [Word.row, JI, No99, Jv], ih⟩
structure Own where
  fl : ByteArray
  st : Int
  tn : Int
  dst : ByteArray
  la : Int
  nr : Int
  tu : List Box6
  wi : Int
  nx : List Box6
  gr : List ByteArray
  sent : Bool
  deriving Inhabited, DecidableEq
def Own.row (t : Nat) (s : Own) : List AV := [.str s.fl, .int .i64 s.st, .int .i64 s.tn, .str s.dst, .int .i64 s.la, .int .i64 s.nr, .sl t 6 (s.tu.map Box6.row), .int .i64 s.wi, .sl t 6 (s.nx.map Box6.row), .sl t 1 (s.gr.map Jw), .bool s.sent]
def Jm : List AV → Own
  | [.str vfl, .int .i64 vst, .int .i64 vtn, .str vdst, .int .i64 vla, .int .i64 vnr, .sl _ 6 vtu, .int .i64 vwi, .sl _ 6 vnx, .sl _ 1 vgr, .bool vsent] => (Own.mk vfl vst vtn vdst vla vnr (vtu.map Qz) vwi (vnx.map Qz) (vgr.map unS) vsent)
  | _ => default
theorem Qoc (t : Nat) (s : Own) : Jm (Own.row t s) = s := by
  cases s; simp only [Own.row, Jm, QhS, QhS, QsM]
theorem Qe3 (t : Nat) (l : List Own) : (l.map (Own.row t)).map Jm = l := by
  rw [List.map_map]; exact List.map_id'' (fun s => Qoc t s) l
theorem Qy (s : Own) : (Own.mk s.fl s.st s.tn s.dst s.la s.nr s.tu s.wi s.nx s.gr s.sent) = s := (rfl)
theorem Qr9 (t : Nat) (s : Own) : (Own.row t s).length = 11 := (rfl)
theorem Qs8 (t : Nat) (s : Own) : Je (Own.row t s) = true := (rfl)
theorem Kv (l : List Own) : Jh (l.map (Own.row 0)) := by
  induction l with
  | nil => simp [Jh]
  | cons x l ih => simp only [List.map_cons, Jh]; exact ⟨by simp [Own.row, JI, No99, Jv, Jv, J4], ih⟩
theorem QpZ (t : Nat) (s : Own) : List.take 11 (Own.row t s) = Own.row t s := (rfl)
structure Part where
  fl : ByteArray
  nr : Int
  bx : List Box6
  deriving Inhabited, DecidableEq
def Part.row (t : Nat) (s : Part) : List AV := [.str s.fl, .int .i64 s.nr, .sl t 6 (s.bx.map Box6.row)]
def QX : List AV → Part
  | [.str vfl, .int .i64 vnr, .sl _ 6 vbx] => (Part.mk vfl vnr (vbx.map Qz))
  | _ => default
theorem QmN (t : Nat) (s : Part) : QX (Part.row t s) = s := by
  cases s; simp only [Part.row, QX, QhS]
theorem QbX (t : Nat) (l : List Part) : (l.map (Part.row t)).map QX = l := by
  rw [List.map_map]; exact List.map_id'' (fun s => QmN t s) l
theorem Qp (s : Part) : (Part.mk s.fl s.nr s.bx) = s := (rfl)
theorem JT (l : List Part) : Jh (l.map (Part.row 0)) := by
  induction l with
  | nil => simp [Jh]
  | cons x l ih => simp only [List.map_cons, Jh]; exact ⟨by simp [Part.row, JI, No99, Jv], ih⟩
structure Seen where
  fl : ByteArray
  nr : Int
  deriving Inhabited, DecidableEq
def Seen.row (s : Seen) : List AV := [.str s.fl, .int .i64 s.nr]
def QZ : List AV → Seen
  | [.str vfl, .int .i64 vnr] => (Seen.mk vfl vnr)
  | _ => default
theorem QmO (s : Seen) : QZ (Seen.row s) = s := by
  cases s; simp only [Seen.row, QZ]
theorem QbY (l : List Seen) : (l.map Seen.row).map QZ = l := by
  rw [List.map_map]; exact List.map_id'' (fun s => QmO s) l
theorem Qo (s : Seen) : (Seen.mk s.fl s.nr) = s := (rfl)
theorem JJ (l : List Seen) : Jh (l.map Seen.row) := by
  induction l with
  | nil => simp [Jh]
  | cons x l ih => simp only [List.map_cons, Jh]; exact ⟨by simp [Seen.row, JI, No99], ih⟩
structure Book where
  own : List Own
  parts : List Part
  seen : List Seen
  deriving Inhabited, DecidableEq
def Book.row (t : Nat) (s : Book) : List AV := [.sl t 11 (s.own.map (Own.row t)), .sl t 3 (s.parts.map (Part.row t)), .sl t 2 (s.seen.map Seen.row)]
def Qod : List AV → Book
  | [.sl _ 11 vown, .sl _ 3 vparts, .sl _ 2 vseen] => (Book.mk (vown.map Jm) (vparts.map QX) (vseen.map QZ))
  | _ => default
theorem QmP (t : Nat) (s : Book) : Qod (Book.row t s) = s := by
  cases s; simp only [Book.row, Qod, Qe3, QbX, QbY]
theorem Qkr (t : Nat) (l : List Book) : (l.map (Book.row t)).map Qod = l := by
  rw [List.map_map]; exact List.map_id'' (fun s => QmP t s) l
theorem Qis (s : Book) : (Book.mk s.own s.parts s.seen) = s := (rfl)
theorem XB (l : List Book) : Jh (l.map (Book.row 0)) := by
  induction l with
  | nil => simp [Jh]
  | cons x l ih => simp only [List.map_cons, Jh]; exact ⟨by simp [Book.row, JI, No99, Kv, JT, JJ], ih⟩
structure Sector where
  up : Bool
  mo : List Own
  mp : List Part
  ms : List Seen
  dn : List Own
  dp : List Part
  ds : List Seen
  ot : List Word
  deriving Inhabited, DecidableEq
def Sector.row (t : Nat) (s : Sector) : List AV := [.bool s.up, .sl t 11 (s.mo.map (Own.row t)), .sl t 3 (s.mp.map (Part.row t)), .sl t 2 (s.ms.map Seen.row), .sl t 11 (s.dn.map (Own.row t)), .sl t 3 (s.dp.map (Part.row t)), .sl t 2 (s.ds.map Seen.row), .sl t 8 (s.ot.map (Word.row t))]
def QfF : List AV → Sector
  | [.bool vup, .sl _ 11 vmo, .sl _ 3 vmp, .sl _ 2 vms, .sl _ 11 vdn, .sl _ 3 vdp, .sl _ 2 vds, .sl _ 8 vot] => (Sector.mk vup (vmo.map Jm) (vmp.map QX) (vms.map QZ) (vdn.map Jm) (vdp.map QX) (vds.map QZ) (vot.map Qjw))
  | _ => default
theorem Qjx (t : Nat) (s : Sector) : QfF (Sector.row t s) = s := by
  cases s; simp only [Sector.row, QfF, Qe3, QbX, QbY, Qe3, QbX, QbY, Qir]
theorem Qjy (t : Nat) (l : List Sector) : (l.map (Sector.row t)).map QfF = l := by
  rw [List.map_map]; exact List.map_id'' (fun s => Qjx t s) l
theorem QmQ (s : Sector) : (Sector.mk s.up s.mo s.mp s.ms s.dn s.dp s.ds s.ot) = s := (rfl)
theorem KJ (l : List Sector) : Jh (l.map (Sector.row 0)) := by
  induction l with
  | nil => simp [Jh]
  | cons x l ih => simp only [List.map_cons, Jh]; exact ⟨by simp [Sector.row, JI, No99, Kv, JT, JJ, Kv, JT, JJ, YM], ih⟩
structure HCraft where
  nm : ByteArray
  nr : Int
  no : Int
  tu : List Box6
  deriving Inhabited, DecidableEq
def HCraft.row (t : Nat) (s : HCraft) : List AV := [.str s.nm, .int .i64 s.nr, .int .i64 s.no, .sl t 6 (s.tu.map Box6.row)]
def QfG : List AV → HCraft
  | [.str vnm, .int .i64 vnr, .int .i64 vno, .sl _ 6 vtu] => (HCraft.mk vnm vnr vno (vtu.map Qz))
  | _ => default
theorem Qjz (t : Nat) (s : HCraft) : QfG (HCraft.row t s) = s := by
  cases s; simp only [HCraft.row, QfG, QhS]
theorem QjA (t : Nat) (l : List HCraft) : (l.map (HCraft.row t)).map QfG = l := by
  rw [List.map_map]; exact List.map_id'' (fun s => Qjz t s) l
theorem QmR (s : HCraft) : (HCraft.mk s.nm s.nr s.no s.tu) = s := (rfl)
theorem KK (l : List HCraft) : Jh (l.map (HCraft.row 0)) := by
  induction l with
  | nil => simp [Jh]
  | cons x l ih => simp only [List.map_cons, Jh]; exact ⟨by simp [HCraft.row, JI, No99, Jv], ih⟩
structure World where
  zones : List Zone
  secs : List Sector
  crafts : List HCraft
  radio : List Word
  deriving Inhabited, DecidableEq
def World.row (t : Nat) (s : World) : List AV := [.sl t 5 (s.zones.map Zone.row), .sl t 8 (s.secs.map (Sector.row t)), .sl t 4 (s.crafts.map (HCraft.row t)), .sl t 8 (s.radio.map (Word.row t))]
def Qks : List AV → World
  | [.sl _ 5 vzones, .sl _ 8 vsecs, .sl _ 4 vcrafts, .sl _ 8 vradio] => (World.mk (vzones.map Qx) (vsecs.map QfF) (vcrafts.map QfG) (vradio.map Qjw))
  | _ => default
theorem Qkt (t : Nat) (s : World) : Qks (World.row t s) = s := by
  cases s; simp only [World.row, Qks, UJ, Qjy, QjA, Qir]
theorem Qp0 (t : Nat) (l : List World) : (l.map (World.row t)).map Qks = l := by
  rw [List.map_map]; exact List.map_id'' (fun s => Qkt t s) l
theorem Qoe (s : World) : (World.mk s.zones s.secs s.crafts s.radio) = s := (rfl)
theorem Y3 (l : List World) : Jh (l.map (World.row 0)) := by
  induction l with
  | nil => simp [Jh]
  | cons x l ih => simp only [List.map_cons, Jh]; exact ⟨by simp [World.row, JI, No99, KE, KJ, KK, YM], ih⟩
theorem Uw (s : Box6) : (Box6.mk s.x s.y s.l s.h s.i s.o) = s := (rfl)
theorem Qp1 (s : ByteArray) : Contract P 103 [.str s] [] (.bool (decide (Ga s))) [] := by
  refine Qg (Env.nil P) hm Qio (nlb rfl) rfl ?_; unfold QcE; simp (maxSteps := 2000000) only [bitvec_to_nat, reduceIte, Nat.reduceEqDiff, Nat.reduceAdd, Nat.reduceLeDiff, reduceCtorEq, Nat.reduceBEq, Nat.reduceLT, Nat.reduceMod, fmc]
  refine ⟨fun h1 => ?_, fun h1 => ⟨fun h2 => ?_, fun h2 => ?_⟩⟩
  · grind [Ga]
  · grind [Ga]
  · refine QE (fun i : Nat => [(3, .int .i64 i)]) (fun _ => []) (fun i => i ≤ s.toList.length ∧ ∀ j, j < i → Qge (s.toList.getD j 0)) (fun i => s.toList.length - i) (0) (by simp only [Jr, Js, Jt, Ju, Qj, Qk, Ql, Qm, reduceIte, Nat.reduceEqDiff]; exact ⟨by repeat' (first | exact trivial | refine ⟨.inr rfl, ?_⟩), by repeat' (first | exact trivial | refine ⟨rfl, ?_⟩), by first | rfl | simp [closedB, Qd, Qb, Qc, dom, Qa, *], by first | rfl | simp [keepB, dom]⟩) ?_ ?_
    · exact ⟨Nat.zero_le _, by intro j hj; omega⟩
    intro i hi NX hN
    unfold Qar; simp (maxSteps := 2000000) only [bitvec_to_nat, reduceIte, Nat.reduceEqDiff, Nat.reduceAdd, Nat.reduceLeDiff, reduceCtorEq, Nat.reduceBEq, Nat.reduceLT, Nat.reduceMod, fmc]
    repeat' (first | apply And.intro | intro _)
    all_goals first
      | omega
      | (refine hN (i + 1) _ (by simp only [Jr, Js, Jt, Ju, Qj, Qk, Ql, Qm, reduceIte, Nat.reduceEqDiff]; exact ⟨by repeat' (first | exact trivial | refine ⟨.inr rfl, ?_⟩), by repeat' (first | exact trivial | refine ⟨rfl, ?_⟩), by first | rfl | simp [closedB, Qd, Qb, Qc, dom, Qa, *], by first | rfl | simp [keepB, dom]⟩) ?_ ?_
         · exact ⟨by omega, Q5 hi.2 (by grind [Qge])⟩
         · omega)
      | grind [Ga, Qge]
end
end Go.Ve

namespace Go.Ve
noncomputable section
open Go.Proofs
set_option maxRecDepth 100000
theorem QaC {α : Type} {f : α → List AV} {l : List α} {n : Nat} : List.take n (List.map f l) = List.map f (List.take n l) := (List.map_take).symm
theorem QaD {α : Type} {f : α → List AV} {l : List α} {n : Nat} : List.drop n (List.map f l) = List.map f (List.drop n l) := (List.map_drop).symm
theorem QcH {α : Type} [Inhabited α] {l : List α} {n j : Nat} (h : j < n) : (l.take n).getD j default = l.getD j default := by
  simp [List.getD_eq_getElem?_getD, List.getElem?_take, h]
def Qv : List AV → Option (Prop × AV)
  | [.str s] => some ((True) ∧ (True), .bool (decide (Ga s)))
  | _ => none
theorem K5 : ∀ args p v, Qv args = some (p, v) → p → Contract P 103 args [] v [] ∧ noref v = true ∧ No99 v := by
  intro args p v h1 h2
  unfold Qv at h1
  split at h1
  · rename_i s
    cases h1
    obtain ⟨_, HP⟩ := h2
    have := Qp1 s
    exact ⟨this, rfl, trivial⟩
  · cases h1
theorem Qku (s : ByteArray) (hp : True) : Contract P 70 [.str s] [] (.bool (decide (Ga s))) [] := by
  refine Qg ((Env.nil P).add 80 Q2 YW) hm Qfa (nlb rfl) rfl ?_; unfold WD; simp (maxSteps := 2000000) only [bitvec_to_nat, reduceIte, Nat.reduceEqDiff, Nat.reduceAdd, Nat.reduceLeDiff, reduceCtorEq, Nat.reduceBEq, Nat.reduceLT, Nat.reduceMod, fmc, Q2]
  refine ⟨fun h1 => ?_, fun h1 => ?_⟩
  · refine QE (fun i : Nat => [(3, .int .i64 i)]) (fun _ => []) (fun i => i ≤ s.toList.length ∧ ∀ j, j < i → Qge (s.toList.getD j 0)) (fun i => s.toList.length - i) (0) (by simp only [Jr, Js, Jt, Ju, Qj, Qk, Ql, Qm, reduceIte, Nat.reduceEqDiff]; exact ⟨by repeat' (first | exact trivial | refine ⟨.inr rfl, ?_⟩), by repeat' (first | exact trivial | refine ⟨rfl, ?_⟩), by first | rfl | simp [closedB, Qd, Qb, Qc, dom, Qa, *], by first | rfl | simp [keepB, dom]⟩) ?_ ?_
    · exact ⟨Nat.zero_le _, by intro j hj; omega⟩
    intro i hi NX hN
    unfold Un; simp (maxSteps := 2000000) only [bitvec_to_nat, reduceIte, Nat.reduceEqDiff, Nat.reduceAdd, Nat.reduceLeDiff, reduceCtorEq, Nat.reduceBEq, Nat.reduceLT, Nat.reduceMod, fmc]
    repeat' (first | with_reducible apply And.intro | with_reducible intro _)
    all_goals first
      | exact trivial
      | omega
      | (refine hN (i + 1) _ (by simp only [Jr, Js, Jt, Ju, Qj, Qk, Ql, Qm, reduceIte, Nat.reduceEqDiff]; exact ⟨by repeat' (first | exact trivial | refine ⟨.inr rfl, ?_⟩), by repeat' (first | exact trivial | refine ⟨rfl, ?_⟩), by first | rfl | simp [closedB, Qd, Qb, Qc, dom, Qa, *], by first | rfl | simp [keepB, dom]⟩) ?_ ?_
         · exact ⟨by omega, Q5 hi.2 (by grind [Ga, Qge])⟩
         · omega)
      | grind [Ga, Qge]
  · grind [Ga]
def QB : List AV → Option (Prop × AV)
  | [.str s] => some ((True) ∧ (True), .bool (decide (Ga s)))
  | _ => none
theorem Kp : ∀ args p v, QB args = some (p, v) → p → Contract P 70 args [] v [] ∧ noref v = true ∧ No99 v := by
  intro args p v h1 h2
  unfold QB at h1
  split at h1
  · rename_i s
    cases h1
    obtain ⟨_, HP⟩ := h2
    have := Qku s HP
    exact ⟨this, rfl, trivial⟩
  · cases h1
theorem Qp2 (n : Int) (hp : True) : Contract P 125 [.int .i64 n] [] (.bool (decide (1 ≤ n ∧ n ≤ 1000000))) [] := by
  refine Qg ((Env.nil P).add 120 Qt Kk) hm Qiq (nlb rfl) rfl ?_; unfold QcG; simp (maxSteps := 2000000) only [bitvec_to_nat, reduceIte, Nat.reduceEqDiff, Nat.reduceAdd, Nat.reduceLeDiff, reduceCtorEq, Nat.reduceBEq, Nat.reduceLT, Nat.reduceMod, fmc, Qt]
  repeat' (first | with_reducible apply And.intro | with_reducible intro _)
  all_goals (first | trivial | omega | (simp_all; done) | (simp_all; omega) | grind)
def QN : List AV → Option (Prop × AV)
  | [.int .i64 n] => some ((True) ∧ (True), .bool (decide (1 ≤ n ∧ n ≤ 1000000)))
  | _ => none
theorem Gi : ∀ args p v, QN args = some (p, v) → p → Contract P 125 args [] v [] ∧ noref v = true ∧ No99 v := by
  intro args p v h1 h2
  unfold QN at h1
  split at h1
  · rename_i n
    cases h1
    obtain ⟨_, HP⟩ := h2
    have := Qp2 n HP
    exact ⟨this, rfl, trivial⟩
  · cases h1
def Zone.ok (z : Zone) : Prop := Ga z.nm ∧ (0 ≤ z.x0 ∧ z.x0 ≤ z.x1 ∧ z.x1 < 16) ∧ (0 ≤ z.y0 ∧ z.y0 ≤ z.y1 ∧ z.y1 < 16)
def Zone.meet (o z : Zone) : Prop := o.x0 ≤ z.x1 ∧ z.x0 ≤ o.x1 ∧ o.y0 ≤ z.y1 ∧ z.y0 ≤ o.y1
def zoneAt (zs : List Zone) (i : Nat) : Prop := (zs.getD i default).ok ∧ (0 < i → slt (zs.getD (i - 1) default).nm (zs.getD i default).nm) ∧ ∀ k, k < i → ¬ (zs.getD k default).meet (zs.getD i default)
def Q3 (zs : List Zone) : Prop := (1 ≤ zs.length ∧ zs.length ≤ 4) ∧ ∀ i, i < zs.length → zoneAt zs i
noncomputable instance (zs : List Zone) : Decidable (Q3 zs) := Classical.propDecidable _
set_option maxHeartbeats 1000000 in
theorem Qof (t : Nat) (zs : List Zone) (hl : zs.length ≤ 4611686018427387904) : Contract P 101 [.sl t 5 (zs.map Zone.row)] [] (.bool (decide (Q3 zs))) [] := by
  refine Qg (((Env.nil P).add 120 Qt Kk).add 103 Qv K5) hm QcC (nlb rfl) rfl ?_; unfold Us; simp (maxSteps := 2000000) only [bitvec_to_nat, reduceIte, Nat.reduceEqDiff, Nat.reduceAdd, Nat.reduceLeDiff, reduceCtorEq, Nat.reduceBEq, Nat.reduceLT, Nat.reduceMod, fmc, Qt, Qv, Zone.row, K4, QaC, QaD, List.drop_zero, KD]
  refine ⟨fun h1 => ?_, fun h1 => by grind [Q3]⟩
  · refine QE (fun i : Nat => [(13, .int .i64 i)]) (fun _ => []) (fun i => i ≤ zs.length ∧ ∀ j, j < i → zoneAt zs j) (fun i => zs.length - i) (0) (by simp only [Jr, Js, Jt, Ju, Qj, Qk, Ql, Qm, reduceIte, Nat.reduceEqDiff]; exact ⟨by repeat' (first | exact trivial | refine ⟨.inr rfl, ?_⟩), by repeat' (first | exact trivial | refine ⟨rfl, ?_⟩), by first | rfl | simp [closedB, Qd, Qb, Qc, dom, Qa, *], by first | rfl | simp [keepB, dom]⟩) ?_ ?_
    · exact ⟨Nat.zero_le _, by intro j hj; omega⟩
    intro i hi NX hN
    unfold X5; simp (maxSteps := 2000000) only [bitvec_to_nat, reduceIte, Nat.reduceEqDiff, Nat.reduceAdd, Nat.reduceLeDiff, reduceCtorEq, Nat.reduceBEq, Nat.reduceLT, Nat.reduceMod, fmc, Qt, Qv, Zone.row, K4, QaC, QaD, List.drop_zero, KD]
    have bad : ∀ P : Prop, (Q3 zs → i < zs.length → P) → i < zs.length → ¬ P → ¬ Q3 zs := fun P h h1 h2 h3 => h2 (h h3 h1)
    repeat' (first | with_reducible apply And.intro | with_reducible intro _)
    all_goals first
      | omega
      | (intro hq; have := hq.2 i (by omega); unfold zoneAt Zone.ok at this; grind)
      | (refine QE (fun k : Nat => [(77, .int .i64 k)]) (fun _ => []) (fun k => k ≤ i ∧ ∀ j, j < k → ¬ (zs.getD j default).meet (zs.getD i default)) (fun k => i - k) (0) (by simp only [Jr, Js, Jt, Ju, Qj, Qk, Ql, Qm, reduceIte, Nat.reduceEqDiff]; exact ⟨by repeat' (first | exact trivial | refine ⟨.inr rfl, ?_⟩), by repeat' (first | exact trivial | refine ⟨rfl, ?_⟩), by first | rfl | simp [closedB, Qd, Qb, Qc, dom, Qa, *], by first | rfl | simp [keepB, dom]⟩) ?_ ?_
         · exact ⟨Nat.zero_le _, by intro j hj; omega⟩
         intro k hk NX2 hN2
         unfold X4; simp (maxSteps := 2000000) only [bitvec_to_nat, reduceIte, Nat.reduceEqDiff, Nat.reduceAdd, Nat.reduceLeDiff, reduceCtorEq, Nat.reduceBEq, Nat.reduceLT, Nat.reduceMod, fmc, Qt, Qv, Zone.row, K4, QaC, QaD, List.drop_zero, KD]
         repeat' (first | with_reducible apply And.intro | with_reducible intro _)
         all_goals first
           | omega
           | (refine hN2 (k + 1) _ (by simp only [Jr, Js, Jt, Ju, Qj, Qk, Ql, Qm, reduceIte, Nat.reduceEqDiff]; exact ⟨by repeat' (first | exact trivial | refine ⟨.inr rfl, ?_⟩), by repeat' (first | exact trivial | refine ⟨rfl, ?_⟩), by first | rfl | simp [closedB, Qd, Qb, Qc, dom, Qa, *], by first | rfl | simp [keepB, dom]⟩) ?_ ?_
              · refine ⟨by omega, Q5 hk.2 ?_⟩
                rw [QcH (by omega)] at *
                grind [Zone.meet]
              · omega)
           | (refine hN (i + 1) _ (by simp only [Jr, Js, Jt, Ju, Qj, Qk, Ql, Qm, reduceIte, Nat.reduceEqDiff]; exact ⟨by repeat' (first | exact trivial | refine ⟨.inr rfl, ?_⟩), by repeat' (first | exact trivial | refine ⟨rfl, ?_⟩), by first | rfl | simp [closedB, Qd, Qb, Qc, dom, Qa, *], by first | rfl | simp [keepB, dom]⟩) ?_ ?_
              · refine ⟨by omega, Q5 hi.2 ⟨?_, ?_, fun k hk2 => hk.2 k (by omega)⟩⟩
                · grind [Zone.ok]
                · grind
              · omega)
           | (intro hq
              have := (hq.2 i (by omega)).2.2 k (by omega)
              rw [QcH (by omega)] at *
              grind [Zone.meet]))
      | (refine ⟨by omega, fun j hj => hi.2 j (by omega)⟩)
    all_goals trace_state
end
end Go.Ve

namespace Go.Ve
noncomputable section
open Go.Proofs
set_option maxRecDepth 100000
def ZU : List AV → Option (Prop × AV)
  | [.sl zst 5 zsx] => some ((((zsx.map Qx).map Zone.row = zsx)) ∧ ((zsx.map Qx).length ≤ 4611686018427387904), .bool (decide (Q3 (zsx.map Qx))))
  | _ => none
theorem QjB : ∀ args p v, ZU args = some (p, v) → p → Contract P 101 args [] v [] ∧ noref v = true ∧ No99 v := by
  intro args p v h1 h2
  unfold ZU at h1
  split at h1
  · rename_i zst zsx
    cases h1
    obtain ⟨e0, HP⟩ := h2
    have := Qof zst (zsx.map Qx) HP
    exact ⟨by simpa only [e0] using this, rfl, trivial⟩
  · cases h1
set_option maxHeartbeats 1000000 in
theorem QmS (t : Nat) (zs : List Zone) (hl : zs.length ≤ 4611686018427387904) : Contract P 77 [.sl t 5 (zs.map Zone.row)] [] (.bool (decide (Q3 zs))) [] := by
  refine Qg (((Env.nil P).add 80 Q2 YW).add 70 QB Kp) hm Qcx (nlb rfl) rfl ?_; unfold Uo; simp (maxSteps := 2000000) only [bitvec_to_nat, reduceIte, Nat.reduceEqDiff, Nat.reduceAdd, Nat.reduceLeDiff, reduceCtorEq, Nat.reduceBEq, Nat.reduceLT, Nat.reduceMod, fmc, Q2, QB, Zone.row, K4, Box6.row, Uw, QaC, QaD, KD]
  refine ⟨fun h1 => ?_, fun h1 => by grind [Q3]⟩
  · refine QE (fun i : Nat => [(3, .int .i64 i)]) (fun _ => []) (fun i => i ≤ zs.length ∧ ∀ j, j < i → zoneAt zs j) (fun i => zs.length - i) (0) (by simp only [Jr, Js, Jt, Ju, Qj, Qk, Ql, Qm, reduceIte, Nat.reduceEqDiff]; exact ⟨by repeat' (first | exact trivial | refine ⟨.inr rfl, ?_⟩), by repeat' (first | exact trivial | refine ⟨rfl, ?_⟩), by first | rfl | simp [closedB, Qd, Qb, Qc, dom, Qa, *], by first | rfl | simp [keepB, dom]⟩) ?_ ?_
    · exact ⟨Nat.zero_le _, by intro j hj; omega⟩
    intro i hi NX hN
    unfold X3; simp (maxSteps := 2000000) only [bitvec_to_nat, reduceIte, Nat.reduceEqDiff, Nat.reduceAdd, Nat.reduceLeDiff, reduceCtorEq, Nat.reduceBEq, Nat.reduceLT, Nat.reduceMod, fmc, Q2, QB, Zone.row, K4, Box6.row, Uw, QaC, QaD, KD]
    repeat' (first | with_reducible apply And.intro | with_reducible intro _)
    all_goals first
      | omega
      | (intro hq; have := hq.2 i (by omega); unfold zoneAt Zone.ok at this; grind)
      | (refine QE (fun k : Nat => [(5, .int .i64 k)]) (fun _ => []) (fun k => k ≤ i ∧ ∀ j, j < k → ¬ (zs.getD j default).meet (zs.getD i default)) (fun k => i - k) (0) (by simp only [Jr, Js, Jt, Ju, Qj, Qk, Ql, Qm, reduceIte, Nat.reduceEqDiff]; exact ⟨by repeat' (first | exact trivial | refine ⟨.inr rfl, ?_⟩), by repeat' (first | exact trivial | refine ⟨rfl, ?_⟩), by first | rfl | simp [closedB, Qd, Qb, Qc, dom, Qa, *], by first | rfl | simp [keepB, dom]⟩) ?_ ?_
         · exact ⟨Nat.zero_le _, by intro j hj; omega⟩
         intro k hk NX2 hN2
         unfold X2; simp (maxSteps := 2000000) only [bitvec_to_nat, reduceIte, Nat.reduceEqDiff, Nat.reduceAdd, Nat.reduceLeDiff, reduceCtorEq, Nat.reduceBEq, Nat.reduceLT, Nat.reduceMod, fmc, Q2, QB, Zone.row, K4, Box6.row, Uw, QaC, QaD, KD]
         repeat' (first | with_reducible apply And.intro | with_reducible intro _)
         all_goals first
           | omega
           | (refine hN2 (k + 1) _ (by simp only [Jr, Js, Jt, Ju, Qj, Qk, Ql, Qm, reduceIte, Nat.reduceEqDiff]; exact ⟨by repeat' (first | exact trivial | refine ⟨.inr rfl, ?_⟩), by repeat' (first | exact trivial | refine ⟨rfl, ?_⟩), by first | rfl | simp [closedB, Qd, Qb, Qc, dom, Qa, *], by first | rfl | simp [keepB, dom]⟩) ?_ ?_
              · refine ⟨by omega, Q5 hk.2 ?_⟩
                grind [Zone.meet]
              · omega)
           | (refine hN (i + 1) _ (by simp only [Jr, Js, Jt, Ju, Qj, Qk, Ql, Qm, reduceIte, Nat.reduceEqDiff]; exact ⟨by repeat' (first | exact trivial | refine ⟨.inr rfl, ?_⟩), by repeat' (first | exact trivial | refine ⟨rfl, ?_⟩), by first | rfl | simp [closedB, Qd, Qb, Qc, dom, Qa, *], by first | rfl | simp [keepB, dom]⟩) ?_ ?_
              · refine ⟨by omega, Q5 hi.2 ⟨?_, ?_, fun k hk2 => hk.2 k (by omega)⟩⟩
                · grind [Zone.ok]
                · grind
              · omega)
           | (intro hq
              have := (hq.2 i (by omega)).2.2 k (by omega)
              grind [Zone.meet]))
      | (refine ⟨by omega, fun j hj => hi.2 j (by omega)⟩)
def J0 : List AV → Option (Prop × AV)
  | [.sl zst 5 zsx] => some ((((zsx.map Qx).map Zone.row = zsx)) ∧ ((zsx.map Qx).length ≤ 4611686018427387904), .bool (decide (Q3 (zsx.map Qx))))
  | _ => none
theorem Qev : ∀ args p v, J0 args = some (p, v) → p → Contract P 77 args [] v [] ∧ noref v = true ∧ No99 v := by
  intro args p v h1 h2
  unfold J0 at h1
  split at h1
  · rename_i zst zsx
    cases h1
    obtain ⟨e0, HP⟩ := h2
    have := QmS zst (zsx.map Qx) HP
    exact ⟨by simpa only [e0] using this, rfl, trivial⟩
  · cases h1
def Zone.over (z : Zone) (x y : Int) : Prop := (z.x0 ≤ x ∧ x ≤ z.x1) ∧ (z.y0 ≤ y ∧ y ≤ z.y1)
noncomputable instance (z : Zone) (x y : Int) : Decidable (z.over x y) := Classical.propDecidable _
theorem Qs9 (nm : ByteArray) (x0 y0 x1 y1 x y : Int) (hp : True) : Contract P 124 [.agg [.str nm, .int .i64 x0, .int .i64 y0, .int .i64 x1, .int .i64 y1], .int .i64 x, .int .i64 y] [] (.bool (decide (Zone.over ⟨nm, x0, y0, x1, y1⟩ x y))) [] := by
  refine Qg ((Env.nil P).add 120 Qt Kk) hm Qbo (nlb rfl) rfl ?_; unfold X6; simp (maxSteps := 2000000) only [bitvec_to_nat, reduceIte, Nat.reduceEqDiff, Nat.reduceAdd, Nat.reduceLeDiff, reduceCtorEq, Nat.reduceBEq, Nat.reduceLT, Nat.reduceMod, fmc, Qt]
  simp only [Zone.over]
  repeat' (first | with_reducible apply And.intro | with_reducible intro _)
  all_goals (first | trivial | omega | (simp_all; done) | (simp_all; omega) | grind)
def Qlv : List AV → Option (Prop × AV)
  | [.agg [.str z_nm, .int .i64 z_x0, .int .i64 z_y0, .int .i64 z_x1, .int .i64 z_y1], .int .i64 x, .int .i64 y] => some ((True) ∧ (True), .bool (decide ((Zone.mk z_nm z_x0 z_y0 z_x1 z_y1).over x y)))
  | _ => none
theorem Qta : ∀ args p v, Qlv args = some (p, v) → p → Contract P 124 args [] v [] ∧ noref v = true ∧ No99 v := by
  intro args p v h1 h2
  unfold Qlv at h1
  split at h1
  · rename_i z_nm z_x0 z_y0 z_x1 z_y1 x y
    cases h1
    obtain ⟨_, HP⟩ := h2
    have := Qs9 z_nm z_x0 z_y0 z_x1 z_y1 x y HP
    exact ⟨by simpa only [Zone.row] using this, rfl, trivial⟩
  · cases h1
theorem Qsa (nm : ByteArray) (x0 y0 x1 y1 x y l h i o : Int) (hp : True) : Contract P 98 [.agg [.str nm, .int .i64 x0, .int .i64 y0, .int .i64 x1, .int .i64 y1], .agg [.int .i64 x, .int .i64 y, .int .i64 l, .int .i64 h, .int .i64 i, .int .i64 o]] [] (.bool (decide (Zone.over ⟨nm, x0, y0, x1, y1⟩ x y))) [] := by
  refine Qg ((Env.nil P).add 80 Q2 YW) hm Qhp (nlb rfl) rfl ?_; unfold Qbz; simp (maxSteps := 2000000) only [bitvec_to_nat, reduceIte, Nat.reduceEqDiff, Nat.reduceAdd, Nat.reduceLeDiff, reduceCtorEq, Nat.reduceBEq, Nat.reduceLT, Nat.reduceMod, fmc, Q2]
  simp only [Zone.over]
  repeat' (first | with_reducible apply And.intro | with_reducible intro _)
  all_goals (first | trivial | omega | (simp_all; done) | (simp_all; omega) | grind)
def QaE : List AV → Option (Prop × AV)
  | [.agg [.str z_nm, .int .i64 z_x0, .int .i64 z_y0, .int .i64 z_x1, .int .i64 z_y1], .agg [.int .i64 b_x, .int .i64 b_y, .int .i64 b_l, .int .i64 b_h, .int .i64 b_i, .int .i64 b_o]] => some ((True) ∧ (True), .bool (decide ((Zone.mk z_nm z_x0 z_y0 z_x1 z_y1).over (Box6.mk b_x b_y b_l b_h b_i b_o).x (Box6.mk b_x b_y b_l b_h b_i b_o).y)))
  | _ => none
theorem Qsb : ∀ args p v, QaE args = some (p, v) → p → Contract P 98 args [] v [] ∧ noref v = true ∧ No99 v := by
  intro args p v h1 h2
  unfold QaE at h1
  split at h1
  · rename_i z_nm z_x0 z_y0 z_x1 z_y1 b_x b_y b_l b_h b_i b_o
    cases h1
    obtain ⟨_, HP⟩ := h2
    have := Qsa z_nm z_x0 z_y0 z_x1 z_y1 b_x b_y b_l b_h b_i b_o HP
    exact ⟨by simpa only [Zone.row, Box6.row] using this, rfl, trivial⟩
  · cases h1
end
end Go.Ve

namespace Go.Ve
noncomputable section
open Go.Proofs
set_option maxRecDepth 100000
theorem WS (g : FuncId) (hg : Wj P g = true) (ls : List AV) (hls : Je ls = true) (p : Zone → Bool) (t : Nat) (zs : List Zone) (hl : zs.length ≤ 4611686018427387904)
    (hC : ∀ z, Contract P g (.agg (Zone.row z) :: [.ptr 3 0]) [(3, .box ls)] (.bool (p z)) [(3, .box ls)]) : Contract P 113 [.sl t 5 (zs.map Zone.row), .fn g [] [.ptr 3 0]] [(3, .box ls)] (.int .i64 (QhI p zs)) [(3, .box ls)] := by
  refine Qg (Env.nil P) hm ZR (nlb rfl) rfl ?_; unfold Yg; simp (maxSteps := 2000000) only [bitvec_to_nat, reduceIte, Nat.reduceEqDiff, Nat.reduceAdd, Nat.reduceLeDiff, reduceCtorEq, Nat.reduceBEq, Nat.reduceLT, Nat.reduceMod, fmc, Qf, Qh, Qe, Qu, keepB, Qi, Qw, KM]
  refine QE (fun i : Nat => [(8, .int .i64 i)]) (fun _ => []) (fun i => i ≤ zs.length ∧ ∀ j, j < i → p (zs.getD j default) = false) (fun i => zs.length - i) (0) (by simp only [Jr, Js, Jt, Ju, Qj, Qk, Ql, Qm, reduceIte, Nat.reduceEqDiff]; exact ⟨by repeat' (first | exact trivial | refine ⟨.inr rfl, ?_⟩), by repeat' (first | exact trivial | refine ⟨rfl, ?_⟩), by first | rfl | simp [closedB, Qd, Qb, Qc, dom, Qa, *], by first | rfl | simp [keepB, dom]⟩) ?_ ?_
  · exact ⟨Nat.zero_le _, by intro j hj; omega⟩
  intro i hi NX hN
  unfold KN; simp (maxSteps := 2000000) only [bitvec_to_nat, reduceIte, Nat.reduceEqDiff, Nat.reduceAdd, Nat.reduceLeDiff, reduceCtorEq, Nat.reduceBEq, Nat.reduceLT, Nat.reduceMod, fmc, Qf, Qh, Qe, Qu, keepB, Qi, Qw, KM, QpX, Qob]
  refine ⟨fun h1 => ⟨by omega, by omega, hg, _, _, .inl ⟨[(3, .box ls)], hC (zs.getD i default), ?_, ?_, ?_, ?_, ?_, rfl, ?_⟩, ?_⟩, fun h1 => ?_⟩
  · simp [getM]
  · intro q hq; left; revert q; simp [dom]
  · simp [dom]
  · simp [Qb, Qd, dom, Qa, Qr8]
  · simp [Qc, Qa, *]
  · simp [Qc, Qa, *]
  · simp (maxSteps := 2000000) only [bitvec_to_nat, reduceIte, Nat.reduceEqDiff, Nat.reduceAdd, Nat.reduceLeDiff, reduceCtorEq, Nat.reduceBEq, Nat.reduceLT, Nat.reduceMod, fmc, Qf, Qh, Qe, Qu, keepB, Qi, Qw, KM]
    refine ⟨fun h2 => ?_, fun h2 => ?_⟩
    · simp (maxSteps := 2000000) only [bitvec_to_nat, reduceIte, Nat.reduceEqDiff, Nat.reduceAdd, Nat.reduceLeDiff, reduceCtorEq, Nat.reduceBEq, Nat.reduceLT, Nat.reduceMod, fmc, Qf, Qh, Qe, Qu, keepB, Qi, Qw, KM]
      rw [Qd5 (by omega) h2 hi.2]
      simp [dom, Qa, *]
    · simp (maxSteps := 2000000) only [bitvec_to_nat, reduceIte, Nat.reduceEqDiff, Nat.reduceAdd, Nat.reduceLeDiff, reduceCtorEq, Nat.reduceBEq, Nat.reduceLT, Nat.reduceMod, fmc, Qf, Qh, Qe, Qu, keepB, Qi, Qw, KM]
      refine ⟨by omega, ?_⟩
      refine hN (i + 1) _ (by simp only [Jr, Js, Jt, Ju, Qj, Qk, Ql, Qm, reduceIte, Nat.reduceEqDiff]; exact ⟨by repeat' (first | exact trivial | refine ⟨.inr rfl, ?_⟩), by repeat' (first | exact trivial | refine ⟨rfl, ?_⟩), by first | rfl | simp [closedB, Qd, Qb, Qc, dom, Qa, *], by first | rfl | simp [keepB, dom]⟩) ?_ ?_
      · exact ⟨by omega, Q5 hi.2 h2⟩
      · omega
  · rw [VA fun j hj => hi.2 j (by omega)]
    simp [dom, Qa, *]
theorem QbZ (g : FuncId) (hg : Wj P g = true) (ls : List AV) (hls : Je ls = true) (p : Zone → Bool) (t : Nat) (zs : List Zone) (hl : zs.length ≤ 4611686018427387904)
    (hC : ∀ z, Contract P g (.agg (Zone.row z) :: [.ptr 3 0]) [(3, .box ls)] (.bool (p z)) [(3, .box ls)]) : Contract P 122 [.sl t 5 (zs.map Zone.row), .fn g [] [.ptr 3 0]] [(3, .box ls)] (.bool (decide (∃ i, i < zs.length ∧ p (zs.getD i default) = true))) [(3, .box ls)] := by
  refine Qg (Env.nil P) hm Xx (nlb rfl) rfl ?_; unfold KG; simp (maxSteps := 2000000) only [bitvec_to_nat, reduceIte, Nat.reduceEqDiff, Nat.reduceAdd, Nat.reduceLeDiff, reduceCtorEq, Nat.reduceBEq, Nat.reduceLT, Nat.reduceMod, fmc, Qf, Qh, Qe, Qu, keepB, Qi, Qw, KM]
  refine ⟨_, _, .inl ⟨[(3, .box ls)], WS g hg ls hls p t zs hl hC, ?_, ?_, ?_, ?_, ?_, rfl, ?_⟩, ?_⟩
  · simp [getM]
  · intro q hq; left; revert q; simp [dom]
  · simp [dom]
  · simp [Qb, Qd, dom, Qa, *]
  · simp [Qc, Qa, *]
  · simp [Qc, Qa, *]
  · simp (maxSteps := 2000000) only [bitvec_to_nat, reduceIte, Nat.reduceEqDiff, Nat.reduceAdd, Nat.reduceLeDiff, reduceCtorEq, Nat.reduceBEq, Nat.reduceLT, Nat.reduceMod, fmc, Qf, Qh, Qe, Qu, keepB, Qi, Qw, KM]
    simp [QnO, dom, Qa, *]
theorem Qog (z : Zone) (b : Box6) : Contract P 123 [.agg z.row, .ptr 3 0] [(3, .box b.row)] (.bool (decide (z.over b.x b.y))) [(3, .box b.row)] := by
  simp only [Zone.row, Box6.row]
  refine Qg ((Env.nil P).add 124 Qlv Qta) hm Qgr (nlb rfl) rfl ?_; unfold Qaw; simp (maxSteps := 2000000) only [bitvec_to_nat, reduceIte, Nat.reduceEqDiff, Nat.reduceAdd, Nat.reduceLeDiff, reduceCtorEq, Nat.reduceBEq, Nat.reduceLT, Nat.reduceMod, fmc, Qf, Qh, Qe, Qu, keepB, Qi, Qw, Qlv, K4]
  all_goals simp [dom]
theorem Qoh (z : Zone) (s : ByteArray) : Contract P 114 [.agg z.row, .ptr 3 0] [(3, .box [.str s])] (.bool (decide (z.nm = s))) [(3, .box [.str s])] := by
  simp only [Zone.row]
  refine Qg (Env.nil P) hm Qgq (nlb rfl) rfl ?_; unfold Qau; simp (maxSteps := 2000000) only [bitvec_to_nat, reduceIte, Nat.reduceEqDiff, Nat.reduceAdd, Nat.reduceLeDiff, reduceCtorEq, Nat.reduceBEq, Nat.reduceLT, Nat.reduceMod, fmc, Qf, Qh, Qe, Qu, keepB, Qi, Qw, K4]
  all_goals simp [dom]
def Qgz : RTab
  | [.sl zt 5 zx, .fn 123 [] [.ptr ob off]], M => match M ob with
    | some (.box [.int .i64 b_x, .int .i64 b_y, .int .i64 b_l, .int .i64 b_h, .int .i64 b_i, .int .i64 b_o]) => some ⟨off = 0 ∧ (zx.map Qx).map Zone.row = zx ∧ (zx.map Qx).length ≤ 4611686018427387904, fun _ : Unit => True, fun _ => .bool (decide (∃ i, i < (zx.map Qx).length ∧ ((zx.map Qx).getD i default).over b_x b_y)), fun _ => [(ob, .box [.int .i64 b_x, .int .i64 b_y, .int .i64 b_l, .int .i64 b_h, .int .i64 b_i, .int .i64 b_o])]⟩
    | _ => none
  | _, _ => none
theorem Qsc : okTab P 122 Qgz := by
  intro args M o h hp
  unfold Qgz at h
  split at h
  · rename_i zt zx ob off
    split at h
    · rename_i b_x b_y b_l b_h b_i b_o hM
      cases h
      obtain ⟨rfl, e0, HP⟩ := hp
      have hC := QbZ 123 (by kernel_rfl) _ rfl (fun z => decide (z.over b_x b_y)) zt (zx.map Qx) HP fun z => Qog z ⟨b_x, b_y, b_l, b_h, b_i, b_o⟩
      simp only [e0, decide_eq_true_eq, Box6.row] at hC
      exact ⟨(), trivial, Qce _ hC (by simp [Je, noref]) rfl (by assumption) (by simp [K8, ren, swp]) (by simp [Qb, Qd, noref])⟩
    · cases h
  · cases h
def QcI : RTab
  | [.sl zt 5 zx, .fn 114 [] [.ptr ob off]], M => match M ob with
    | some (.box [.str s]) => some ⟨off = 0 ∧ (zx.map Qx).map Zone.row = zx ∧ (zx.map Qx).length ≤ 4611686018427387904, fun _ : Unit => True, fun _ => .int .i64 (QhI (fun z => decide (z.nm = s)) (zx.map Qx)), fun _ => [(ob, .box [.str s])]⟩
    | _ => none
  | _, _ => none
theorem Qoi : okTab P 113 QcI := by
  intro args M o h hp
  unfold QcI at h
  split at h
  · rename_i zt zx ob off
    split at h
    · rename_i s hM
      cases h
      obtain ⟨rfl, e0, HP⟩ := hp
      have hC := WS 114 (by kernel_rfl) _ rfl (fun z => decide (z.nm = s)) zt (zx.map Qx) HP fun z => Qoh z s
      simp only [e0, decide_eq_true_eq] at hC
      exact ⟨(), trivial, Qce _ hC (by simp [Je, noref]) rfl (by assumption) (by simp [K8, ren, swp]) (by simp [Qb, Qd, noref])⟩
    · cases h
  · cases h
def zAt (zs : List Zone) (s : ByteArray) : Int := QhI (fun z => decide (z.nm = s)) zs
theorem Qp3 (t : Nat) (zs : List Zone) (s : ByteArray) (hl : zs.length ≤ 4611686018427387904) : Contract P 86 [.sl t 5 (zs.map Zone.row), .str s] [] (.int .i64 (zAt zs s)) [] := by
  refine Qg ((Env.nil P).addR 113 QcI Qoi) hm Qil (nlb rfl) rfl ?_; unfold Qcy; simp (maxSteps := 2000000) only [bitvec_to_nat, reduceIte, Nat.reduceEqDiff, Nat.reduceAdd, Nat.reduceLeDiff, reduceCtorEq, Nat.reduceBEq, Nat.reduceLT, Nat.reduceMod, fmc, Qf, Qh, Qe, Qu, keepB, Qi, Qw, QcI, UJ]
  exact ⟨hl, fun _ => rfl⟩
theorem Qoj (t : Nat) (zs : List Zone) (s : ByteArray) (hl : zs.length ≤ 4611686018427387904) : Contract P 36 [.sl t 5 (zs.map Zone.row), .str s] [] (.int .i64 (zAt zs s)) [] := by
  refine Qg (Env.nil P) hm Qhm (nlb rfl) rfl ?_; unfold Qbv; simp (maxSteps := 2000000) only [bitvec_to_nat, reduceIte, Nat.reduceEqDiff, Nat.reduceAdd, Nat.reduceLeDiff, reduceCtorEq, Nat.reduceBEq, Nat.reduceLT, Nat.reduceMod, fmc, Zone.row, K4, Box6.row, Uw, QaC, QaD, KD]
  refine QE (fun i : Nat => [(5, .int .i64 i)]) (fun _ => []) (fun i => i ≤ zs.length ∧ ∀ j, j < i → decide ((zs.getD j default).nm = s) = false) (fun i => zs.length - i) (0) (by simp only [Jr, Js, Jt, Ju, Qj, Qk, Ql, Qm, reduceIte, Nat.reduceEqDiff]; exact ⟨by repeat' (first | exact trivial | refine ⟨.inr rfl, ?_⟩), by repeat' (first | exact trivial | refine ⟨rfl, ?_⟩), by first | rfl | simp [closedB, Qd, Qb, Qc, dom, Qa, *], by first | rfl | simp [keepB, dom]⟩) ?_ ?_
  · exact ⟨Nat.zero_le _, by intro j hj; omega⟩
  intro i hi NX hN
  unfold WA; simp (maxSteps := 2000000) only [bitvec_to_nat, reduceIte, Nat.reduceEqDiff, Nat.reduceAdd, Nat.reduceLeDiff, reduceCtorEq, Nat.reduceBEq, Nat.reduceLT, Nat.reduceMod, fmc, Zone.row, K4, Box6.row, Uw, QaC, QaD, KD]
  
  repeat' (first | with_reducible apply And.intro | with_reducible intro _)
  all_goals first
    | omega
    | (refine hN (i + 1) _ (by simp only [Jr, Js, Jt, Ju, Qj, Qk, Ql, Qm, reduceIte, Nat.reduceEqDiff]; exact ⟨by repeat' (first | exact trivial | refine ⟨.inr rfl, ?_⟩), by repeat' (first | exact trivial | refine ⟨rfl, ?_⟩), by first | rfl | simp [closedB, Qd, Qb, Qc, dom, Qa, *], by first | rfl | simp [keepB, dom]⟩) ?_ ?_
       · exact ⟨by omega, Q5 hi.2 (by simpa using ‹¬ _›)⟩
       · omega)
    | (unfold zAt; rw [Qd5 (i := i) (by omega) (by simpa using ‹_›) hi.2])
    | (unfold zAt; rw [VA fun j hj => hi.2 j (by omega)])
def QO : List AV → Option (Prop × AV)
  | [.sl zst 5 zsx, .str s] => some ((((zsx.map Qx).map Zone.row = zsx)) ∧ ((zsx.map Qx).length ≤ 4611686018427387904), .int .i64 (zAt (zsx.map Qx) s))
  | _ => none
theorem Gj : ∀ args p v, QO args = some (p, v) → p → Contract P 86 args [] v [] ∧ noref v = true ∧ No99 v := by
  intro args p v h1 h2
  unfold QO at h1
  split at h1
  · rename_i zst zsx s
    cases h1
    obtain ⟨e0, HP⟩ := h2
    have := Qp3 zst (zsx.map Qx) s HP
    exact ⟨by simpa only [e0] using this, rfl, trivial⟩
  · cases h1
def J2 : List AV → Option (Prop × AV)
  | [.sl zst 5 zsx, .str s] => some ((((zsx.map Qx).map Zone.row = zsx)) ∧ ((zsx.map Qx).length ≤ 4611686018427387904), .int .i64 (zAt (zsx.map Qx) s))
  | _ => none
theorem QcJ : ∀ args p v, J2 args = some (p, v) → p → Contract P 36 args [] v [] ∧ noref v = true ∧ No99 v := by
  intro args p v h1 h2
  unfold J2 at h1
  split at h1
  · rename_i zst zsx s
    cases h1
    obtain ⟨e0, HP⟩ := h2
    have := Qoj zst (zsx.map Qx) s HP
    exact ⟨by simpa only [e0] using this, rfl, trivial⟩
  · cases h1
def QgA (zs : List Zone) (b : Box6) : Prop := b.ok ∧ ∃ i, i < zs.length ∧ (zs.getD i default).over b.x b.y
def tubeOk (zs : List Zone) (tu : List Box6) : Prop := (1 ≤ tu.length ∧ tu.length ≤ 20) ∧ ∀ i, i < tu.length → QgA zs (tu.getD i default)
noncomputable instance (zs : List Zone) (tu : List Box6) : Decidable (tubeOk zs tu) := Classical.propDecidable _
theorem Qp4 (t t' : Nat) (zs : List Zone) (tu : List Box6) (hz : zs.length ≤ 4611686018427387904) (hl : tu.length ≤ 4611686018427387904) : Contract P 100 [.sl t 5 (zs.map Zone.row), .sl t' 6 (tu.map Box6.row)] [] (.bool (decide (tubeOk zs tu))) [] := by
  refine Qg ((((Env.nil P).addR 122 Qgz Qsc).add 120 Qt Kk).add 121 KO Qgw) hm Qim (nlb rfl) rfl ?_; unfold QcB; simp (maxSteps := 2000000) only [bitvec_to_nat, reduceIte, Nat.reduceEqDiff, Nat.reduceAdd, Nat.reduceLeDiff, reduceCtorEq, Nat.reduceBEq, Nat.reduceLT, Nat.reduceMod, fmc, Qf, Qh, Qe, Qu, keepB, Qi, Qw, Qt, KO, Qgz, Zone.row, K4, Box6.row, Uw, QaC, QaD, KD, UJ]
  refine ⟨fun h1 => ?_, fun h1 => by grind [tubeOk]⟩
  · refine QE (fun i : Nat => [(13, .int .i64 i)]) (fun _ => []) (fun i => i ≤ tu.length ∧ ∀ j, j < i → QgA zs (tu.getD j default)) (fun i => tu.length - i) (0) (by simp only [Jr, Js, Jt, Ju, Qj, Qk, Ql, Qm, reduceIte, Nat.reduceEqDiff]; exact ⟨by repeat' (first | exact trivial | refine ⟨.inr rfl, ?_⟩), by repeat' (first | exact trivial | refine ⟨rfl, ?_⟩), by first | rfl | simp [closedB, Qd, Qb, Qc, dom, Qa, *], by first | rfl | simp [keepB, dom]⟩) ?_ ?_
    · exact ⟨Nat.zero_le _, by intro j hj; omega⟩
    intro i hi NX hN
    unfold Qam; simp (maxSteps := 2000000) only [bitvec_to_nat, reduceIte, Nat.reduceEqDiff, Nat.reduceAdd, Nat.reduceLeDiff, reduceCtorEq, Nat.reduceBEq, Nat.reduceLT, Nat.reduceMod, fmc, Qf, Qh, Qe, Qu, keepB, Qi, Qw, Qt, KO, Qgz, Zone.row, K4, Box6.row, Uw, QaC, QaD, KD, UJ]
    repeat' (first | with_reducible apply And.intro | with_reducible intro _)
    all_goals first
      | exact trivial
      | omega
      | (refine hN (i + 1) _ (by simp only [Jr, Js, Jt, Ju, Qj, Qk, Ql, Qm, reduceIte, Nat.reduceEqDiff]; exact ⟨by repeat' (first | exact trivial | refine ⟨.inr rfl, ?_⟩), by repeat' (first | exact trivial | refine ⟨rfl, ?_⟩), by first | rfl | simp [closedB, Qd, Qb, Qc, dom, Qa, *], by first | rfl | simp [keepB, dom]⟩) ?_ ?_
         · exact ⟨by omega, Q5 hi.2 (by grind [tubeOk, QgA])⟩
         · omega)
      | grind [tubeOk, QgA]
end
end Go.Ve

namespace Go.Ve
noncomputable section
open Go.Proofs
set_option maxRecDepth 100000
theorem Qok {a : ByteArray} {b c d e : Int} : Qx [.str a, .int .i64 b, .int .i64 c, .int .i64 d, .int .i64 e] = ⟨a, b, c, d, e⟩ := rfl
attribute [method_specs_simp] QpY Qy Qp Qo Qis QmQ QmR Qoe Qir Qe3 QbX QbY Qkr Qjy QjA Qp0 Word.row Own.row Part.row Seen.row Book.row Sector.row HCraft.row World.row
attribute [int_toBitVec_meta] K4 Uw QaC QaD KD Qok List.take_length List.length_cons List.length_nil Nat.zero_add QsM Qur QhS UJ Qe3 QbX QbY Qir Zone.row Box6.row QfU Y0 Jw QfD
theorem Qrc {α : Type} [Inhabited α] {p : α → Bool} {l : List α} {i : Nat} (hi : i < l.length) (h : p (l.getD i default) = true) : (l.take (i + 1)).filter p = (l.take i).filter p ++ [l.getD i default] := by
  have e : l.getD i default = l[i] := by simp [hi]
  rw [e] at h ⊢
  rw [List.take_succ_eq_append_getElem hi, List.filter_append]; simp [h]
theorem Qol {α : Type} [Inhabited α] {p : α → Bool} {l : List α} {i : Nat} (hi : i < l.length) (h : p (l.getD i default) = false) : (l.take (i + 1)).filter p = (l.take i).filter p := by
  have e : l.getD i default = l[i] := by simp [hi]
  rw [e] at h
  rw [List.take_succ_eq_append_getElem hi, List.filter_append]; simp [h]
theorem Qrd {z : Zone} : Q3 [z] ↔ z.ok := by
  unfold Q3 zoneAt
  constructor
  · intro h; exact (h.2 0 (by simp)).1
  · intro h
    refine ⟨by simp, fun i hi => ?_⟩
    have : i = 0 := by simp at hi; omega
    subst this
    exact ⟨h, fun h => absurd h (by omega), fun k hk => absurd hk (by omega)⟩
def Zone.sees (z : Zone) (b : Box6) : Prop := b.ok ∧ (z.x0 - 1 ≤ b.x ∧ b.x ≤ z.x1 + 1) ∧ (z.y0 - 1 ≤ b.y ∧ b.y ≤ z.y1 + 1)
instance (z : Zone) (b : Box6) : Decidable (z.sees b) := Classical.propDecidable _
def Ux (z : Zone) (tu : List Box6) : List Box6 := if Q3 [z] then tu.filter (fun b => decide (z.sees b)) else []
def QG : List AV → Option (Prop × AV)
  | [.sl zst 5 zsx, .sl tut 6 tux] => some ((((zsx.map Qx).map Zone.row = zsx) ∧ ((tux.map Qz).map Box6.row = tux)) ∧ ((zsx.map Qx).length ≤ 4611686018427387904 ∧ (tux.map Qz).length ≤ 4611686018427387904), .bool (decide (tubeOk (zsx.map Qx) (tux.map Qz))))
  | _ => none
theorem YO : ∀ args p v, QG args = some (p, v) → p → Contract P 100 args [] v [] ∧ noref v = true ∧ No99 v := by
  intro args p v h1 h2
  unfold QG at h1
  split at h1
  · rename_i zst zsx tut tux
    cases h1
    obtain ⟨⟨e0, e1⟩, HP⟩ := h2
    have := Qp4 zst tut (zsx.map Qx) (tux.map Qz) HP.1 HP.2
    exact ⟨by simpa only [e0, e1] using this, rfl, trivial⟩
  · cases h1
theorem Qom (t t' : Nat) (zs : List Zone) (tu : List Box6) (hz : zs.length ≤ 4611686018427387904) (hl : tu.length ≤ 4611686018427387904) : Contract P 65 [.sl t 5 (zs.map Zone.row), .sl t' 6 (tu.map Box6.row)] [] (.bool (decide (Q3 zs ∧ tubeOk zs tu))) [] := by
  refine Qg (((((Env.nil P).add 77 J0 Qev).add 80 Q2 YW).add 98 QaE Qsb).add 99 Ka Qeu) hm Qek (nlb rfl) rfl ?_; unfold VT; simp (maxSteps := 2000000) only [bitvec_to_nat, reduceIte, Nat.reduceEqDiff, Nat.reduceAdd, Nat.reduceLeDiff, reduceCtorEq, Nat.reduceBEq, Nat.reduceLT, Nat.reduceMod, fmc, J0, Q2, QaE, Ka, int_toBitVec_meta, UJ]
  refine ⟨hz, fun h1 => ⟨fun h2 => ?_, fun h2 h => by grind [tubeOk]⟩, fun h1 h => h1 h.1⟩
  · refine QE (fun i : Nat => [(5, .int .i64 i)]) (fun _ => []) (fun i => i ≤ tu.length ∧ ∀ j, j < i → QgA zs (tu.getD j default)) (fun i => tu.length - i) (0) (by simp only [Jr, Js, Jt, Ju, Qj, Qk, Ql, Qm, reduceIte, Nat.reduceEqDiff]; exact ⟨by repeat' (first | exact trivial | refine ⟨.inr rfl, ?_⟩), by repeat' (first | exact trivial | refine ⟨rfl, ?_⟩), by first | rfl | simp [closedB, Qd, Qb, Qc, dom, Qa, *], by first | rfl | simp [keepB, dom]⟩) ?_ ?_
    · exact ⟨Nat.zero_le _, by intro j hj; omega⟩
    intro i hi NX hN
    unfold ZB; simp (maxSteps := 2000000) only [bitvec_to_nat, reduceIte, Nat.reduceEqDiff, Nat.reduceAdd, Nat.reduceLeDiff, reduceCtorEq, Nat.reduceBEq, Nat.reduceLT, Nat.reduceMod, fmc, J0, Q2, QaE, Ka, int_toBitVec_meta, UJ]
    repeat' (first | with_reducible apply And.intro | with_reducible intro _)
    · refine QE (fun a : Nat × Bool => [(6, .bool a.2), (7, .int .i64 a.1)]) (fun _ => []) (fun a => a.1 ≤ zs.length ∧ (a.2 = true ↔ ∃ k, k < a.1 ∧ (zs.getD k default).over (tu.getD i default).x (tu.getD i default).y)) (fun a => zs.length - a.1) ((0, false)) (by simp only [Jr, Js, Jt, Ju, Qj, Qk, Ql, Qm, reduceIte, Nat.reduceEqDiff]; exact ⟨by repeat' (first | exact trivial | refine ⟨.inr rfl, ?_⟩), by repeat' (first | exact trivial | refine ⟨rfl, ?_⟩), by first | rfl | simp [closedB, Qd, Qb, Qc, dom, Qa, *], by first | rfl | simp [keepB, dom]⟩) ?_ ?_
      · exact ⟨Nat.zero_le _, by simp⟩
      rintro ⟨k, b⟩ hk NX2 hN2
      unfold ZA; simp (maxSteps := 2000000) only [bitvec_to_nat, reduceIte, Nat.reduceEqDiff, Nat.reduceAdd, Nat.reduceLeDiff, reduceCtorEq, Nat.reduceBEq, Nat.reduceLT, Nat.reduceMod, fmc, J0, Q2, QaE, Ka, int_toBitVec_meta, UJ]
      simp only at hk
      have sn : ∀ b' : Bool, (b' = true ↔ b = true ∨ (zs.getD k default).over (tu.getD i default).x (tu.getD i default).y) → (b' = true ↔ ∃ j, j < k + 1 ∧ (zs.getD j default).over (tu.getD i default).x (tu.getD i default).y) := by
        intro b' hb'
        rw [hb', hk.2]
        constructor
        · rintro (⟨j, h1, h2⟩ | h)
          · exact ⟨j, by omega, h2⟩
          · exact ⟨k, by omega, h⟩
        · rintro ⟨j, h1, h2⟩
          by_cases e : j = k
          · subst e; exact .inr h2
          · exact .inl ⟨j, by omega, h2⟩
      have fin : k = zs.length → (b = true ↔ ∃ k, k < zs.length ∧ (zs.getD k default).over (tu.getD i default).x (tu.getD i default).y) := fun e => e ▸ hk.2
      refine ⟨fun h3 => ?_, fun h3 => ?_⟩
      · cases b <;> (simp (maxSteps := 2000000) only [bitvec_to_nat, reduceIte, Nat.reduceEqDiff, Nat.reduceAdd, Nat.reduceLeDiff, reduceCtorEq, Nat.reduceBEq, Nat.reduceLT, Nat.reduceMod, fmc, J0, Q2, QaE, Ka, int_toBitVec_meta, UJ])
        · refine ⟨by omega, by omega, by omega, by omega, by omega, ?_⟩
          refine hN2 ((k + 1, _)) _ (by simp only [Jr, Js, Jt, Ju, Qj, Qk, Ql, Qm, reduceIte, Nat.reduceEqDiff]; exact ⟨by repeat' (first | exact trivial | refine ⟨.inr rfl, ?_⟩), by repeat' (first | exact trivial | refine ⟨rfl, ?_⟩), by first | rfl | simp [closedB, Qd, Qb, Qc, dom, Qa, *], by first | rfl | simp [keepB, dom]⟩) ?_ ?_
          · exact ⟨by simp only; omega, sn _ (by simp)⟩
          · simp only; omega
        · refine ⟨by omega, ?_⟩
          refine hN2 ((k + 1, _)) _ (by simp only [Jr, Js, Jt, Ju, Qj, Qk, Ql, Qm, reduceIte, Nat.reduceEqDiff]; exact ⟨by repeat' (first | exact trivial | refine ⟨.inr rfl, ?_⟩), by repeat' (first | exact trivial | refine ⟨rfl, ?_⟩), by first | rfl | simp [closedB, Qd, Qb, Qc, dom, Qa, *], by first | rfl | simp [keepB, dom]⟩) ?_ ?_
          · exact ⟨by simp only; omega, sn _ (by simp)⟩
          · simp only; omega
      · have hf := fin (by omega)
        cases b <;> (simp (maxSteps := 2000000) only [bitvec_to_nat, reduceIte, Nat.reduceEqDiff, Nat.reduceAdd, Nat.reduceLeDiff, reduceCtorEq, Nat.reduceBEq, Nat.reduceLT, Nat.reduceMod, fmc, J0, Q2, QaE, Ka, int_toBitVec_meta, UJ])
        · intro h; have := (h.2.2 i (by omega)).2; grind
        · refine ⟨by omega, by omega, fun h4 => ⟨by omega, ?_⟩, fun h4 h => h4 (h.2.2 i (by omega)).1⟩
          refine hN (i + 1) _ (by simp only [Jr, Js, Jt, Ju, Qj, Qk, Ql, Qm, reduceIte, Nat.reduceEqDiff]; exact ⟨by repeat' (first | exact trivial | refine ⟨.inr rfl, ?_⟩), by repeat' (first | exact trivial | refine ⟨rfl, ?_⟩), by first | rfl | simp [closedB, Qd, Qb, Qc, dom, Qa, *], by first | rfl | simp [keepB, dom]⟩) ?_ ?_
          · exact ⟨by omega, Q5 hi.2 ⟨h4, hf.1 rfl⟩⟩
          · omega
    · exact h1
    · exact ⟨by omega, fun j hj => hi.2 j (by omega)⟩
def JU : List AV → Option (Prop × AV)
  | [.sl zst 5 zsx, .sl tut 6 tux] => some ((((zsx.map Qx).map Zone.row = zsx) ∧ ((tux.map Qz).map Box6.row = tux)) ∧ ((zsx.map Qx).length ≤ 4611686018427387904 ∧ (tux.map Qz).length ≤ 4611686018427387904), .bool (decide (Q3 (zsx.map Qx) ∧ tubeOk (zsx.map Qx) (tux.map Qz))))
  | _ => none
theorem QcK : ∀ args p v, JU args = some (p, v) → p → Contract P 65 args [] v [] ∧ noref v = true ∧ No99 v := by
  intro args p v h1 h2
  unfold JU at h1
  split at h1
  · rename_i zst zsx tut tux
    cases h1
    obtain ⟨⟨e0, e1⟩, HP⟩ := h2
    have := Qom zst tut (zsx.map Qx) (tux.map Qz) HP.1 HP.2
    exact ⟨by simpa only [e0, e1] using this, rfl, trivial⟩
  · cases h1
theorem Qkv (nm : ByteArray) (x0 y0 x1 y1 : Int) (hp : True) : Contract P 110 [.agg [.str nm, .int .i64 x0, .int .i64 y0, .int .i64 x1, .int .i64 y1]] [] (.bool (decide (Q3 [⟨nm, x0, y0, x1, y1⟩]))) [] := by
  refine Qg ((Env.nil P).add 77 J0 Qev) hm Qfg (nlb rfl) rfl ?_; unfold WM; simp (maxSteps := 2000000) only [bitvec_to_nat, reduceIte, Nat.reduceEqDiff, Nat.reduceAdd, Nat.reduceLeDiff, reduceCtorEq, Nat.reduceBEq, Nat.reduceLT, Nat.reduceMod, fmc, J0, int_toBitVec_meta]
  all_goals rfl
def ZV : List AV → Option (Prop × AV)
  | [.agg [.str z_nm, .int .i64 z_x0, .int .i64 z_y0, .int .i64 z_x1, .int .i64 z_y1]] => some ((True) ∧ (True), .bool (decide (Q3 [(Zone.mk z_nm z_x0 z_y0 z_x1 z_y1)])))
  | _ => none
theorem Qkw : ∀ args p v, ZV args = some (p, v) → p → Contract P 110 args [] v [] ∧ noref v = true ∧ No99 v := by
  intro args p v h1 h2
  unfold ZV at h1
  split at h1
  · rename_i z_nm z_x0 z_y0 z_x1 z_y1
    cases h1
    obtain ⟨_, HP⟩ := h2
    have := Qkv z_nm z_x0 z_y0 z_x1 z_y1 HP
    exact ⟨by simpa only [Zone.row] using this, rfl, trivial⟩
  · cases h1
theorem Qon (nm : ByteArray) (x0 y0 x1 y1 x y l h i o : Int) (hp : Q3 [⟨nm, x0, y0, x1, y1⟩]) : Contract P 111 [.agg [.str nm, .int .i64 x0, .int .i64 y0, .int .i64 x1, .int .i64 y1], .agg [.int .i64 x, .int .i64 y, .int .i64 l, .int .i64 h, .int .i64 i, .int .i64 o]] [] (.bool (decide (Zone.sees ⟨nm, x0, y0, x1, y1⟩ ⟨x, y, l, h, i, o⟩))) [] := by
  refine Qg (((Env.nil P).add 80 Q2 YW).add 99 Ka Qeu) hm Qhr (nlb rfl) rfl ?_; unfold QbB; simp (maxSteps := 2000000) only [bitvec_to_nat, reduceIte, Nat.reduceEqDiff, Nat.reduceAdd, Nat.reduceLeDiff, reduceCtorEq, Nat.reduceBEq, Nat.reduceLT, Nat.reduceMod, fmc, Q2, Ka, int_toBitVec_meta]
  rw [Qrd] at hp; unfold Zone.ok at hp; simp only [Zone.sees]
  repeat' (first | with_reducible apply And.intro | with_reducible intro _)
  all_goals first | omega | grind
def QaF : List AV → Option (Prop × AV)
  | [.agg [.str z_nm, .int .i64 z_x0, .int .i64 z_y0, .int .i64 z_x1, .int .i64 z_y1], .agg [.int .i64 b_x, .int .i64 b_y, .int .i64 b_l, .int .i64 b_h, .int .i64 b_i, .int .i64 b_o]] => some ((True) ∧ (Q3 [(Zone.mk z_nm z_x0 z_y0 z_x1 z_y1)]), .bool (decide ((Zone.mk z_nm z_x0 z_y0 z_x1 z_y1).sees (Box6.mk b_x b_y b_l b_h b_i b_o))))
  | _ => none
theorem Qoo : ∀ args p v, QaF args = some (p, v) → p → Contract P 111 args [] v [] ∧ noref v = true ∧ No99 v := by
  intro args p v h1 h2
  unfold QaF at h1
  split at h1
  · rename_i z_nm z_x0 z_y0 z_x1 z_y1 b_x b_y b_l b_h b_i b_o
    cases h1
    obtain ⟨_, HP⟩ := h2
    have := Qon z_nm z_x0 z_y0 z_x1 z_y1 b_x b_y b_l b_h b_i b_o HP
    exact ⟨by simpa only [Zone.row, Box6.row] using this, rfl, trivial⟩
  · cases h1
def kp (z : Zone) (tu : List Box6) (i : Nat) : List Box6 := (tu.take i).filter (fun b => decide (z.sees b))
theorem Qtb {z : Zone} {tu : List Box6} {i : Nat} (hi : i < tu.length) (h : z.sees (tu.getD i default)) : kp z tu (i + 1) = kp z tu i ++ [tu.getD i default] := Qrc hi (by simpa using h)
theorem Qre {z : Zone} {tu : List Box6} {i : Nat} (hi : i < tu.length) (h : ¬ z.sees (tu.getD i default)) : kp z tu (i + 1) = kp z tu i := Qol hi (by simpa using h)
theorem Qrf (z : Zone) (tu : List Box6) (i : Nat) : (kp z tu i).length ≤ i := Nat.le_trans (List.length_filter_le _ _) (by simp; omega)
theorem Qrg {z : Zone} {tu : List Box6} (h : Q3 [z]) : kp z tu tu.length = Ux z tu := by unfold kp Ux; rw [if_pos h, List.take_length]
theorem Qsd {z : Zone} {tu : List Box6} (h : ¬ Q3 [z]) : Ux z tu = [] := if_neg h
theorem Qop (z : Zone) (tu : List Box6) : kp z tu 0 = [] := by simp [kp]
theorem Qoq (z : Zone) (t : Nat) (tu : List Box6) (hl : tu.length ≤ 4294967295) : Contract P 82 [.agg z.row, .sl t 6 (tu.map Box6.row)] [] (.sl 0 6 ((Ux z tu).map Box6.row)) [] := by
  simp only [Zone.row]
  refine Qg (((Env.nil P).add 110 ZV Qkw).add 111 QaF Qoo) hm Qep (nlb rfl) rfl ?_; unfold VZ; simp (maxSteps := 2000000) only [bitvec_to_nat, reduceIte, Nat.reduceEqDiff, Nat.reduceAdd, Nat.reduceLeDiff, reduceCtorEq, Nat.reduceBEq, Nat.reduceLT, Nat.reduceMod, fmc, ZV, QaF, int_toBitVec_meta]
  refine QE (fun i : Nat => [(5, .own 107 (kp z tu i).length 0 (kp z tu i).length), (6, .int .i64 i)]) (fun i => [(107, .arr 100 (kp z tu i).length 6 ((kp z tu i).map Box6.row))]) (fun i => i ≤ tu.length ∧ (0 < i → Q3 [z])) (fun i => tu.length - i) (0) (by simp only [Jr, Js, Jt, Ju, Qj, Qk, Ql, Qm, reduceIte, Nat.reduceEqDiff]; exact ⟨by repeat' (first | exact trivial | refine ⟨.inr rfl, ?_⟩), by repeat' (first | exact trivial | refine ⟨rfl, ?_⟩), by first | rfl | simp [closedB, Qd, Qb, Qc, dom, Qa, *], by first | rfl | simp [keepB, dom]⟩) ?_ ?_
  · exact ⟨Nat.zero_le _, by omega⟩
  intro i hi NX hN
  unfold ZE; simp (maxSteps := 2000000) only [bitvec_to_nat, reduceIte, Nat.reduceEqDiff, Nat.reduceAdd, Nat.reduceLeDiff, reduceCtorEq, Nat.reduceBEq, Nat.reduceLT, Nat.reduceMod, fmc, ZV, QaF, int_toBitVec_meta]
  have hk := Qrf z tu i
  refine ⟨fun h1 => ⟨fun h2 => ⟨by omega, by omega, h2, fun h3 => ⟨by omega, by omega, by omega, by omega, ?_⟩, fun h3 => ⟨by omega, ?_⟩⟩, fun h2 => ?_⟩, fun h1 => ?_⟩
  · have e := Qtb (z := z) (show i < tu.length by omega) h3
    refine hN (i + 1) _ (by simp only [e, List.length_append, List.length_cons, List.length_nil, Nat.zero_add, List.map_append, List.map_cons, List.map_nil, Jr, Js, Jt, Ju, Qj, Qk, Ql, Qm, reduceIte, Nat.reduceEqDiff]; exact ⟨by repeat' (first | exact trivial | refine ⟨.inr rfl, ?_⟩), by repeat' (first | exact trivial | refine ⟨rfl, ?_⟩), by first | rfl | simp [closedB, Qd, Qb, Qc, dom, Qa, *], by first | rfl | simp [keepB, dom]⟩) ?_ ?_
    · exact ⟨by omega, fun _ => h2⟩
    · omega
  · have e := Qre (z := z) (show i < tu.length by omega) h3
    refine hN (i + 1) _ (by simp only [e, List.length_append, List.length_cons, List.length_nil, Nat.zero_add, List.map_append, List.map_cons, List.map_nil, Jr, Js, Jt, Ju, Qj, Qk, Ql, Qm, reduceIte, Nat.reduceEqDiff]; exact ⟨by repeat' (first | exact trivial | refine ⟨.inr rfl, ?_⟩), by repeat' (first | exact trivial | refine ⟨rfl, ?_⟩), by first | rfl | simp [closedB, Qd, Qb, Qc, dom, Qa, *], by first | rfl | simp [keepB, dom]⟩) ?_ ?_
    · exact ⟨by omega, fun _ => h2⟩
    · omega
  · have : i = 0 := Nat.eq_zero_of_not_pos fun h => h2 (hi.2 h)
    subst this
    rw [Qop, Qsd h2]
  · have e : i = tu.length := by omega
    subst e
    by_cases hz : Q3 [z]
    · rw [Qrg hz]
    · have : tu.length = 0 := Nat.eq_zero_of_not_pos fun h => hz (hi.2 h)
      rw [this, Qop, Qsd hz]
theorem Qp5 (z : Zone) (t : Nat) (tu : List Box6) (hl : tu.length ≤ 4294967295) : Contract P 115 [.agg z.row, .sl t 6 (tu.map Box6.row)] [] (.sl 0 6 ((Ux z tu).map Box6.row)) [] := by
  simp only [Zone.row]
  refine Qg ((((Env.nil P).add 101 ZU QjB).add 121 KO Qgw).add 120 Qt Kk) hm Qet (nlb rfl) rfl ?_; unfold V6; simp (maxSteps := 2000000) only [bitvec_to_nat, reduceIte, Nat.reduceEqDiff, Nat.reduceAdd, Nat.reduceLeDiff, reduceCtorEq, Nat.reduceBEq, Nat.reduceLT, Nat.reduceMod, fmc, ZU, KO, Qt, int_toBitVec_meta]
  refine ⟨fun h1 => ?_, fun h1 => by rw [Qsd h1]; rfl⟩
  refine QE (fun i : Nat => [(5, .own 105 (kp z tu i).length 0 (kp z tu i).length), (14, .int .i64 i)]) (fun i => [(105, .arr 100 (kp z tu i).length 6 ((kp z tu i).map Box6.row))]) (fun i => i ≤ tu.length ∧ (0 < i → Q3 [z])) (fun i => tu.length - i) (0) (by simp only [Jr, Js, Jt, Ju, Qj, Qk, Ql, Qm, reduceIte, Nat.reduceEqDiff]; exact ⟨by repeat' (first | exact trivial | refine ⟨.inr rfl, ?_⟩), by repeat' (first | exact trivial | refine ⟨rfl, ?_⟩), by first | rfl | simp [closedB, Qd, Qb, Qc, dom, Qa, *], by first | rfl | simp [keepB, dom]⟩) ?_ ?_
  · exact ⟨Nat.zero_le _, by omega⟩
  intro i hi NX hN
  unfold ZS; simp (maxSteps := 2000000) only [bitvec_to_nat, reduceIte, Nat.reduceEqDiff, Nat.reduceAdd, Nat.reduceLeDiff, reduceCtorEq, Nat.reduceBEq, Nat.reduceLT, Nat.reduceMod, fmc, ZU, KO, Qt, int_toBitVec_meta]
  have hk := Qrf z tu i
  have hz := h1
  rw [Qrd] at hz
  unfold Zone.ok at hz
  repeat' (first | with_reducible apply And.intro | with_reducible intro _)
  all_goals first
    | omega
    | (have e := Qtb (z := z) (show i < tu.length by omega) (by unfold Zone.sees; grind)
       refine hN (i + 1) _ (by simp only [e, List.length_append, List.length_cons, List.length_nil, Nat.zero_add, List.map_append, List.map_cons, List.map_nil, Jr, Js, Jt, Ju, Qj, Qk, Ql, Qm, reduceIte, Nat.reduceEqDiff]; exact ⟨by repeat' (first | exact trivial | refine ⟨.inr rfl, ?_⟩), by repeat' (first | exact trivial | refine ⟨rfl, ?_⟩), by first | rfl | simp [closedB, Qd, Qb, Qc, dom, Qa, *], by first | rfl | simp [keepB, dom]⟩) ?_ ?_
       · exact ⟨by omega, fun _ => h1⟩
       · omega)
    | (have e := Qre (z := z) (show i < tu.length by omega) (by unfold Zone.sees; grind)
       refine hN (i + 1) _ (by simp only [e, List.length_append, List.length_cons, List.length_nil, Nat.zero_add, List.map_append, List.map_cons, List.map_nil, Jr, Js, Jt, Ju, Qj, Qk, Ql, Qm, reduceIte, Nat.reduceEqDiff]; exact ⟨by repeat' (first | exact trivial | refine ⟨.inr rfl, ?_⟩), by repeat' (first | exact trivial | refine ⟨rfl, ?_⟩), by first | rfl | simp [closedB, Qd, Qb, Qc, dom, Qa, *], by first | rfl | simp [keepB, dom]⟩) ?_ ?_
       · exact ⟨by omega, fun _ => h1⟩
       · omega)
    | (have e : i = tu.length := by omega
       subst e
       rw [Qrg h1])
def QaG : List AV → Option (Prop × AV)
  | [.agg [.str z_nm, .int .i64 z_x0, .int .i64 z_y0, .int .i64 z_x1, .int .i64 z_y1], .sl tut 6 tux] => some ((((tux.map Qz).map Box6.row = tux)) ∧ ((tux.map Qz).length ≤ 4294967295), .sl 0 6 ((Ux (Zone.mk z_nm z_x0 z_y0 z_x1 z_y1) (tux.map Qz)).map Box6.row))
  | _ => none
theorem Qor : ∀ args p v, QaG args = some (p, v) → p → Contract P 82 args [] v [] ∧ noref v = true ∧ No99 v := by
  intro args p v h1 h2
  unfold QaG at h1
  split at h1
  · rename_i z_nm z_x0 z_y0 z_x1 z_y1 tut tux
    cases h1
    obtain ⟨e0, HP⟩ := h2
    have := Qoq (Zone.mk z_nm z_x0 z_y0 z_x1 z_y1) tut (tux.map Qz) HP
    exact ⟨by simpa only [e0, Zone.row] using this, rfl, by simp [No99, Jv]⟩
  · cases h1
def QcL : List AV → Option (Prop × AV)
  | [.agg [.str z_nm, .int .i64 z_x0, .int .i64 z_y0, .int .i64 z_x1, .int .i64 z_y1], .sl tut 6 tux] => some ((((tux.map Qz).map Box6.row = tux)) ∧ ((tux.map Qz).length ≤ 4294967295), .sl 0 6 ((Ux (Zone.mk z_nm z_x0 z_y0 z_x1 z_y1) (tux.map Qz)).map Box6.row))
  | _ => none
theorem Qp6 : ∀ args p v, QcL args = some (p, v) → p → Contract P 115 args [] v [] ∧ noref v = true ∧ No99 v := by
  intro args p v h1 h2
  unfold QcL at h1
  split at h1
  · rename_i z_nm z_x0 z_y0 z_x1 z_y1 tut tux
    cases h1
    obtain ⟨e0, HP⟩ := h2
    have := Qp5 (Zone.mk z_nm z_x0 z_y0 z_x1 z_y1) tut (tux.map Qz) HP
    exact ⟨by simpa only [e0, Zone.row] using this, rfl, by simp [No99, Jv]⟩
  · cases h1
def XI (zs : List Zone) (tu : List Box6) : List ByteArray := (zs.filter (fun z => decide (0 < (Ux z tu).length))).map (·.nm)
def wk (zs : List Zone) (tu : List Box6) (i : Nat) : List ByteArray := ((zs.take i).filter (fun z => decide (0 < (Ux z tu).length))).map (·.nm)
theorem Qtc {zs : List Zone} {tu : List Box6} {i : Nat} (hi : i < zs.length) (h : 0 < (Ux (zs.getD i default) tu).length) : wk zs tu (i + 1) = wk zs tu i ++ [(zs.getD i default).nm] := by
  unfold wk; rw [Qrc hi (by simpa using h)]; simp
theorem Qrh {zs : List Zone} {tu : List Box6} {i : Nat} (hi : i < zs.length) (h : ¬ 0 < (Ux (zs.getD i default) tu).length) : wk zs tu (i + 1) = wk zs tu i := by
  unfold wk; rw [Qol hi (by simpa using h)]
theorem Qos (zs : List Zone) (tu : List Box6) (i : Nat) : (wk zs tu i).length ≤ i := by
  unfold wk; rw [List.length_map]; exact Nat.le_trans (List.length_filter_le _ _) (by simp; omega)
theorem Qot (zs : List Zone) (tu : List Box6) : wk zs tu zs.length = XI zs tu := by unfold wk XI; rw [List.take_length]
theorem Qlw (z : Zone) (tu : List Box6) : (Ux z tu).length ≤ tu.length := by
  unfold Ux; split
  · exact List.length_filter_le _ _
  · simp
theorem QtO (t t' : Nat) (zs : List Zone) (tu : List Box6) (hz : zs.length ≤ 4294967295) (hl : tu.length ≤ 4294967295) : Contract P 127 [.sl t 5 (zs.map Zone.row), .sl t' 6 (tu.map Box6.row)] [] (.sl 0 1 ((XI zs tu).map Jw)) [] := by
  refine Qg ((Env.nil P).add 115 QcL Qp6) hm Qht (nlb rfl) rfl ?_; unfold QbD; simp (maxSteps := 2000000) only [bitvec_to_nat, reduceIte, Nat.reduceEqDiff, Nat.reduceAdd, Nat.reduceLeDiff, reduceCtorEq, Nat.reduceBEq, Nat.reduceLT, Nat.reduceMod, fmc, QcL, int_toBitVec_meta]
  refine QE (fun i : Nat => [(5, .own 105 (wk zs tu i).length 0 (wk zs tu i).length), (10, .int .i64 i)]) (fun i => [(105, .arr 9 (wk zs tu i).length 1 ((wk zs tu i).map Jw))]) (fun i => i ≤ zs.length) (fun i => zs.length - i) (0) (by simp only [Jr, Js, Jt, Ju, Qj, Qk, Ql, Qm, reduceIte, Nat.reduceEqDiff]; exact ⟨by repeat' (first | exact trivial | refine ⟨.inr rfl, ?_⟩), by repeat' (first | exact trivial | refine ⟨rfl, ?_⟩), by first | rfl | simp [closedB, Qd, Qb, Qc, dom, Qa, *], by first | rfl | simp [keepB, dom]⟩) ?_ ?_
  · exact Nat.zero_le _
  intro i hi NX hN
  unfold WP; simp (maxSteps := 2000000) only [bitvec_to_nat, reduceIte, Nat.reduceEqDiff, Nat.reduceAdd, Nat.reduceLeDiff, reduceCtorEq, Nat.reduceBEq, Nat.reduceLT, Nat.reduceMod, fmc, QcL, int_toBitVec_meta]
  have hk := Qos zs tu i
  have hpl := Qlw (zs.getD i default) tu
  repeat' (first | with_reducible apply And.intro | with_reducible intro _)
  all_goals first
    | omega
    | (have e := Qtc (zs := zs) (tu := tu) (show i < zs.length by omega) (by omega)
       refine hN (i + 1) _ (by simp only [e, List.length_append, List.length_cons, List.length_nil, Nat.zero_add, List.map_append, List.map_cons, List.map_nil, Jr, Js, Jt, Ju, Qj, Qk, Ql, Qm, reduceIte, Nat.reduceEqDiff]; exact ⟨by repeat' (first | exact trivial | refine ⟨.inr rfl, ?_⟩), by repeat' (first | exact trivial | refine ⟨rfl, ?_⟩), by first | rfl | simp [closedB, Qd, Qb, Qc, dom, Qa, *], by first | rfl | simp [keepB, dom]⟩) ?_ ?_
       · omega
       · omega)
    | (have e := Qrh (zs := zs) (tu := tu) (show i < zs.length by omega) (by omega)
       refine hN (i + 1) _ (by simp only [e, List.length_append, List.length_cons, List.length_nil, Nat.zero_add, List.map_append, List.map_cons, List.map_nil, Jr, Js, Jt, Ju, Qj, Qk, Ql, Qm, reduceIte, Nat.reduceEqDiff]; exact ⟨by repeat' (first | exact trivial | refine ⟨.inr rfl, ?_⟩), by repeat' (first | exact trivial | refine ⟨rfl, ?_⟩), by first | rfl | simp [closedB, Qd, Qb, Qc, dom, Qa, *], by first | rfl | simp [keepB, dom]⟩) ?_ ?_
       · omega
       · omega)
    | (have e : i = zs.length := by omega
       subst e
       rw [Qot])
def JN : List AV → Option (Prop × AV)
  | [.sl zst 5 zsx, .sl tut 6 tux] => some ((((zsx.map Qx).map Zone.row = zsx) ∧ ((tux.map Qz).map Box6.row = tux)) ∧ ((zsx.map Qx).length ≤ 4294967295 ∧ (tux.map Qz).length ≤ 4294967295), .sl 0 1 ((XI (zsx.map Qx) (tux.map Qz)).map Jw))
  | _ => none
theorem QgB : ∀ args p v, JN args = some (p, v) → p → Contract P 127 args [] v [] ∧ noref v = true ∧ No99 v := by
  intro args p v h1 h2
  unfold JN at h1
  split at h1
  · rename_i zst zsx tut tux
    cases h1
    obtain ⟨⟨e0, e1⟩, HP⟩ := h2
    have := QtO zst tut (zsx.map Qx) (tux.map Qz) HP.1 HP.2
    exact ⟨by simpa only [e0, e1] using this, rfl, by simp [No99, J4]⟩
  · cases h1
theorem Qtd (t t' : Nat) (zs : List Zone) (tu : List Box6) (hz : zs.length ≤ 4294967295) (hl : tu.length ≤ 4294967295) : Contract P 81 [.sl t 5 (zs.map Zone.row), .sl t' 6 (tu.map Box6.row)] [] (.sl 0 1 ((XI zs tu).map Jw)) [] := by
  refine Qg ((Env.nil P).add 82 QaG Qor) hm Qho (nlb rfl) rfl ?_; unfold Qby; simp (maxSteps := 2000000) only [bitvec_to_nat, reduceIte, Nat.reduceEqDiff, Nat.reduceAdd, Nat.reduceLeDiff, reduceCtorEq, Nat.reduceBEq, Nat.reduceLT, Nat.reduceMod, fmc, QaG, int_toBitVec_meta]
  refine QE (fun i : Nat => [(5, .own 107 (wk zs tu i).length 0 (wk zs tu i).length), (6, .int .i64 i)]) (fun i => [(107, .arr 9 (wk zs tu i).length 1 ((wk zs tu i).map Jw))]) (fun i => i ≤ zs.length) (fun i => zs.length - i) (0) (by simp only [Jr, Js, Jt, Ju, Qj, Qk, Ql, Qm, reduceIte, Nat.reduceEqDiff]; exact ⟨by repeat' (first | exact trivial | refine ⟨.inr rfl, ?_⟩), by repeat' (first | exact trivial | refine ⟨rfl, ?_⟩), by first | rfl | simp [closedB, Qd, Qb, Qc, dom, Qa, *], by first | rfl | simp [keepB, dom]⟩) ?_ ?_
  · exact Nat.zero_le _
  intro i hi NX hN
  unfold WG; simp (maxSteps := 2000000) only [bitvec_to_nat, reduceIte, Nat.reduceEqDiff, Nat.reduceAdd, Nat.reduceLeDiff, reduceCtorEq, Nat.reduceBEq, Nat.reduceLT, Nat.reduceMod, fmc, QaG, int_toBitVec_meta]
  have hk := Qos zs tu i
  have hpl := Qlw (zs.getD i default) tu
  repeat' (first | with_reducible apply And.intro | with_reducible intro _)
  all_goals first
    | omega
    | (have e := Qtc (zs := zs) (tu := tu) (show i < zs.length by omega) (by omega)
       refine hN (i + 1) _ (by simp only [e, List.length_append, List.length_cons, List.length_nil, Nat.zero_add, List.map_append, List.map_cons, List.map_nil, Jr, Js, Jt, Ju, Qj, Qk, Ql, Qm, reduceIte, Nat.reduceEqDiff]; exact ⟨by repeat' (first | exact trivial | refine ⟨.inr rfl, ?_⟩), by repeat' (first | exact trivial | refine ⟨rfl, ?_⟩), by first | rfl | simp [closedB, Qd, Qb, Qc, dom, Qa, *], by first | rfl | simp [keepB, dom]⟩) ?_ ?_
       · omega
       · omega)
    | (have e := Qrh (zs := zs) (tu := tu) (show i < zs.length by omega) (by omega)
       refine hN (i + 1) _ (by simp only [e, List.length_append, List.length_cons, List.length_nil, Nat.zero_add, List.map_append, List.map_cons, List.map_nil, Jr, Js, Jt, Ju, Qj, Qk, Ql, Qm, reduceIte, Nat.reduceEqDiff]; exact ⟨by repeat' (first | exact trivial | refine ⟨.inr rfl, ?_⟩), by repeat' (first | exact trivial | refine ⟨rfl, ?_⟩), by first | rfl | simp [closedB, Qd, Qb, Qc, dom, Qa, *], by first | rfl | simp [keepB, dom]⟩) ?_ ?_
       · omega
       · omega)
    | (have e : i = zs.length := by omega
       subst e
       rw [Qot])
def X8 : List AV → Option (Prop × AV)
  | [.sl zst 5 zsx, .sl tut 6 tux] => some ((((zsx.map Qx).map Zone.row = zsx) ∧ ((tux.map Qz).map Box6.row = tux)) ∧ ((zsx.map Qx).length ≤ 4294967295 ∧ (tux.map Qz).length ≤ 4294967295), .sl 0 1 ((XI (zsx.map Qx) (tux.map Qz)).map Jw))
  | _ => none
theorem Qlx : ∀ args p v, X8 args = some (p, v) → p → Contract P 81 args [] v [] ∧ noref v = true ∧ No99 v := by
  intro args p v h1 h2
  unfold X8 at h1
  split at h1
  · rename_i zst zsx tut tux
    cases h1
    obtain ⟨⟨e0, e1⟩, HP⟩ := h2
    have := Qtd zst tut (zsx.map Qx) (tux.map Qz) HP.1 HP.2
    exact ⟨by simpa only [e0, e1] using this, rfl, by simp [No99, J4]⟩
  · cases h1
end
end Go.Ve

