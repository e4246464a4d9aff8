/- Part 3 of the proof: laws and contracts of functions, each proved; they are joined in the last part. No conditions beyond those that the theorems state. -/
import Derived.Test.YtppifjfappcbgaaGreatProg
import Derived.Test.YtppifjfappcbgaaGreatHw2
set_option linter.all false
namespace Go.Ve
open Go.Proofs
set_option maxRecDepth 100000
/-- laws.FnExactHandWish: function 5 -/
def KC : SFun := { n := 195,res := [.t 10],body := (jq [jn 7 (.box 107 (.v 2)) [2],jn 10 (.mv (.c (.bool false))) [10]] [0,1,3,4,7] (.seq (jq [jm 27 1 [],jn 28 (.lenS (.v 27)) [27],jc 29 .gtr 28 1048576 [28]] [0,1,3,4,7,29] (.cond (.v 29) (jq [jn 10 (.mv (.c (.bool true))) []] [10] .ret) .skip)) (.seq (jq [jm 30 3 [],jn 31 (.lenS (.v 30)) [30],jc 32 .gtr 31 1048576 [31]] [0,1,3,4,7,32] (.cond (.v 32) (jq [jn 10 (.mv (.c (.bool true))) []] [10] .ret) .skip)) (jq [jI 11 1048576 []] [0,1,3,4,7,11] (jq [jm 33 0 [],jm 34 11 [11],jn 35 (.call 7 [.v 33,.v 34]) [33,34],jm 11 35 [35]] [0,1,3,4,7,11] (.seq (jq [jm 36 11 [],jc 37 .lss 36 0 [36]] [0,1,3,4,7,11,37] (.cond (.v 37) (jq [jn 10 (.mv (.c (.bool true))) []] [10] .ret) .skip)) (jq [jL 38 3 7 [],jm 39 11 [11],jn 40 (.call 8 [.v 38,.v 39]) [38,39],jm 11 40 [40]] [0,1,3,4,7,11] (.seq (jq [jm 41 11 [],jc 42 .lss 41 0 [41]] [0,1,3,4,7,11,42] (.cond (.v 42) (jq [jn 10 (.mv (.c (.bool true))) []] [10] .ret) .skip)) (jq [jm 43 4 [],jm 44 11 [11],jn 45 (.call 23 [.v 43,.v 44]) [43,44],jm 11 45 [45]] [0,1,3,4,7,11] (.seq (jq [jm 46 11 [11],jc 47 .lss 46 0 [46]] [0,1,3,4,7,47] (.cond (.v 47) (jq [jn 10 (.mv (.c (.bool true))) []] [10] .ret) .skip)) (.seq (.rgd [jm 49 0 [],jn 50 (.call 10 [.v 49]) [],jm 51 1 [],jL 52 3 7 [],jn 53 (.call 11 [.v 52]) [],jm 54 3 [],jm 55 4 [],jn 56 (.call 25 [.v 55]) [],jn 57 (.call 24 [.v 50,.v 51,.v 53,.v 54,.v 56]) [],jm 48 57 [],jn 58 (.ext 0 (.v 48)) [],jn 59 (.ext 1 (.v 48)) [],jn 60 (.ext 2 (.v 48)) [],jn 12 (.alloc 112 [.sl 0 11 [],.sl 0 3 [],.sl 0 2 []]) [],⟨none,.store 3 (.v 12) (.v 58),none,[]⟩,jm 13 59 [],jm 14 60 []] [0,1,3,4,7,12,13,14] [none,some [],none,some [1],some [],none,none,some [],some [],none,none,none,none,some [11,9,8,5,4],none,none,none]) (jq [jm 61 0 [],jn 62 (.call 10 [.v 61]) [61],jm 15 62 [62]] [0,1,3,4,7,12,13,14,15] (jq [jL 63 3 7 [],jn 64 (.call 11 [.v 63]) [63],jn 16 (.alloc 116 [.sl 0 11 [],.sl 0 3 [],.sl 0 2 []]) [],⟨none,.store 3 (.v 16) (.v 64),none,[64]⟩] [0,1,3,4,7,12,13,14,15,16] (jq [jm 65 4 [],jn 66 (.call 25 [.v 65]) [65],jm 17 66 [66]] [0,1,3,4,7,12,13,14,15,16,17] (jq [jm 68 15 [],jm 69 1 [],jL 70 3 16 [],jm 71 3 [],jm 72 17 [],jn 73 (.call 26 [.v 68,.v 69,.v 70,.v 71,.v 72]) [68,69,70,71,72],jm 67 73 [73],jn 74 (.ext 0 (.v 67)) [],jn 75 (.ext 1 (.v 67)) [],jn 76 (.ext 2 (.v 67)) [67],jn 18 (.alloc 118 [.sl 0 11 [],.sl 0 3 [],.sl 0 2 []]) [],⟨none,.store 3 (.v 18) (.v 74),none,[74]⟩,jm 19 75 [75],jm 20 76 [76]] [0,1,3,4,7,12,13,14,15,16,17,18,19,20] (.seq (jq [jL 77 3 18 [],jL 78 3 12 [],jn 79 (.call 15 [.v 77,.v 78]) [77,78],jn 80 (.not (.v 79)) [79],jm 81 80 [80],jM 82 81 19 [],jM 83 81 13 [],jh 84 81 (.call 13 [.v 82,.v 83]) [82,83],jh 85 81 (.not (.v 84)) [84],jp 86 81 85 [81,85],jm 87 86 [86],jM 88 87 20 [],jM 89 87 14 [],jh 90 87 (.bin .neq (.v 88) (.v 89)) [88,89],jp 91 87 90 [87,90]] [0,1,3,4,7,12,13,14,15,16,17,18,19,20,91] (.cond (.v 91) (jq [jn 10 (.mv (.c (.bool false))) []] [10] .ret) .skip)) (.seq (jq [jm 92 15 [],jm 93 0 [],jn 94 (.call 10 [.v 93]) [93],jn 95 (.call 14 [.v 92,.v 94]) [92,94],jn 96 (.not (.v 95)) [95]] [0,1,3,4,7,12,13,14,15,16,17,18,19,20,96] (.cond (.v 96) (jq [jn 10 (.mv (.c (.bool false))) []] [10] .ret) .skip)) (.seq (.seq (.rgd [jL 97 3 16 [],jL 98 3 7 [],jn 99 (.call 11 [.v 98]) [],jn 100 (.call 15 [.v 97,.v 99]) [],jn 101 (.not (.v 100)) []] [0,1,3,4,7,12,13,14,15,16,17,18,19,20,101] [some [],none,some [1],none,none]) (.cond (.v 101) (jq [jn 10 (.mv (.c (.bool false))) []] [10] .ret) .skip)) (.seq (jq [jm 102 17 [],jm 103 4 [],jn 104 (.call 25 [.v 103]) [103],jn 105 (.call 27 [.v 102,.v 104]) [102,104],jn 106 (.not (.v 105)) [105]] [0,1,3,4,7,12,13,14,15,16,17,18,19,20,106] (.cond (.v 106) (jq [jn 10 (.mv (.c (.bool false))) []] [10] .ret) .skip)) (jq [jI 21 1 []] [0,1,3,4,7,12,13,14,15,16,17,18,19,20,21] (jq [jm 107 15 [15],jm 108 21 [21],jn 109 (.call 16 [.v 107,.v 108]) [107,108],jm 21 109 [109]] [0,1,3,4,7,12,13,14,16,17,18,19,20,21] (jq [jL 110 3 16 [16],jm 111 21 [21],jn 112 (.call 17 [.v 110,.v 111]) [110,111],jm 21 112 [112]] [0,1,3,4,7,12,13,14,17,18,19,20,21] (jq [jm 113 17 [17],jm 114 21 [21],jn 115 (.call 28 [.v 113,.v 114]) [113,114],jm 21 115 [115]] [0,1,3,4,7,12,13,14,18,19,20,21] (.seq (jq [jm 116 21 [21],jc 117 .lss 116 0 [116],jm 118 117 [117],jh 119 118 (.loadN 3 (.v 18)) [],jh 120 118 (.loadN 3 (.v 12)) [],jh 121 118 (.call 15 [.v 119,.v 120]) [119,120],jh 122 118 (.not (.v 121)) [121],jp 123 118 122 [118,122],jm 124 123 [123],jM 125 124 19 [],jM 126 124 13 [],jh 127 124 (.call 13 [.v 125,.v 126]) [125,126],jh 128 124 (.not (.v 127)) [127],jp 129 124 128 [124,128],jm 130 129 [129],jM 131 130 20 [20],jM 132 130 14 [],jh 133 130 (.bin .neq (.v 131) (.v 132)) [131,132],jp 134 130 133 [130,133]] [0,1,3,4,7,12,13,14,18,19,134] (.cond (.v 134) (jq [jn 10 (.mv (.c (.bool false))) []] [10] .ret) .skip)) (jq [jI 22 1 []] [0,1,3,4,7,12,13,14,18,19,22] (jq [jL 135 3 18 [],jm 136 22 [22],jn 137 (.call 17 [.v 135,.v 136]) [135,136],jm 22 137 [137]] [0,1,3,4,7,12,13,14,18,19,22] (jq [jm 138 19 [],jm 139 22 [22],jn 140 (.call 18 [.v 138,.v 139]) [138,139],jm 22 140 [140]] [0,1,3,4,7,12,13,14,18,19,22] (jq [jI 23 1 []] [0,1,3,4,7,12,13,14,18,19,22,23] (jq [jL 141 3 18 [],jm 142 23 [23],jn 143 (.call 22 [.v 141,.v 142]) [141,142],jm 23 143 [143]] [0,1,3,4,7,12,13,14,18,19,22,23] (.seq (jq [jm 144 23 [],jc 145 .lss 144 0 [144]] [0,1,3,4,7,12,13,14,18,19,22,23,145] (.cond (.v 145) (jq [jn 10 (.mv (.c (.bool false))) []] [10] .ret) .skip)) (jq [jm 146 19 [],jm 147 23 [23],jn 148 (.call 19 [.v 146,.v 147]) [146,147],jm 23 148 [148]] [0,1,3,4,7,12,13,14,18,19,22,23] (.seq (jq [jm 149 23 [],jc 150 .lss 149 0 [149]] [0,1,3,4,7,12,13,14,18,19,22,23,150] (.cond (.v 150) (jq [jn 10 (.mv (.c (.bool false))) []] [10] .ret) .skip)) (.seq (jq [jm 151 23 [23],jm 152 22 [],jb 153 .neq 151 152 [151,152]] [0,1,3,4,7,12,13,14,18,19,22,153] (.cond (.v 153) (jq [jn 10 (.mv (.c (.bool false))) []] [10] .ret) .skip)) (.seq (.rgd [jm 155 0 [],jn 156 (.call 10 [.v 155]) [],jm 157 1 [],jL 158 3 7 [],jn 159 (.call 11 [.v 158]) [],jm 160 3 [],jm 161 4 [],jn 162 (.call 25 [.v 161]) [],jn 163 (.call 26 [.v 156,.v 157,.v 159,.v 160,.v 162]) [],jm 154 163 [],jn 164 (.ext 0 (.v 154)) [],jn 165 (.ext 1 (.v 154)) [],jn 166 (.ext 2 (.v 154)) [],jn 24 (.alloc 124 [.sl 0 11 [],.sl 0 3 [],.sl 0 2 []]) [],⟨none,.store 3 (.v 24) (.v 164),none,[]⟩,jm 25 165 [],jm 26 166 []] [12,13,14,18,19,22,24,25,26] [none,some [],none,some [1],some [],none,none,some [],some [],none,none,none,none,some [11,9,8,5,4],none,none,none]) (.seq (jq [jL 167 3 24 [24],jL 168 3 12 [12],jn 169 (.call 15 [.v 167,.v 168]) [167,168],jn 170 (.not (.v 169)) [169],jm 171 170 [170],jM 172 171 25 [25],jM 173 171 13 [13],jh 174 171 (.call 13 [.v 172,.v 173]) [172,173],jh 175 171 (.not (.v 174)) [174],jp 176 171 175 [171,175],jm 177 176 [176],jM 178 177 26 [26],jM 179 177 14 [14],jh 180 177 (.bin .neq (.v 178) (.v 179)) [178,179],jp 181 177 180 [177,180]] [18,19,22,181] (.cond (.v 181) (jq [jn 10 (.mv (.c (.bool false))) []] [10] .ret) .skip)) (jq [jI 23 1 []] [18,19,22,23] (jq [jL 182 3 18 [18],jm 183 23 [23],jn 184 (.call 22 [.v 182,.v 183]) [182,183],jm 23 184 [184]] [19,22,23] (.seq (jq [jm 185 23 [],jc 186 .lss 185 0 [185]] [19,22,23,186] (.cond (.v 186) (jq [jn 10 (.mv (.c (.bool false))) []] [10] .ret) .skip)) (jq [jm 187 19 [19],jm 188 23 [23],jn 189 (.call 19 [.v 187,.v 188]) [187,188],jm 23 189 [189]] [22,23] (.seq (jq [jm 190 23 [],jc 191 .lss 190 0 [190]] [22,23,191] (.cond (.v 191) (jq [jn 10 (.mv (.c (.bool false))) []] [10] .ret) .skip)) (.seq (jq [jm 192 23 [23],jm 193 22 [22],jb 194 .neq 192 193 [192,193]] [194] (.cond (.v 194) (jq [jn 10 (.mv (.c (.bool false))) []] [10] .ret) .skip)) (jq [jn 10 (.mv (.c (.bool true))) []] [10] .ret)))))))))))))))))))))))))))))))))))))))))) }
theorem Yi : QY Go.Proofs.Tryz.prog 5 KC = true := by kernel_rfl
def Zd : SCode := (.seq (jq [jm 12 5 [],jm 13 0 [],jn 14 (.lenL (.v 13)) [13],jb 15 .lss 12 14 [12,14]] [0,1,5,15] (.cond (.v 15) .skip (.exit 0))) (.seq (.block 1 (jq [jm 18 0 [],jm 19 5 [],ja 20 5 18 19 [18,19],jL 21 5 20 [20],jm 22 1 [1],jn 23 (.call 31 [.v 21,.v 22]) [21,22],jm 1 23 [23]] [0,1,5] (jq [jm 24 1 [],jc 25 .lss 24 0 [24]] [0,1,5,25] (.cond (.v 25) (jq [jn 4 (.mv (.c (.int .i64 (-1)))) []] [4] .ret) .skip)))) (.rg [jm 16 5 [5],jn 17 (.binN .add (.v 16) (ci 1)) [16],jm 5 17 [17]] [0,1,5])))
/-- laws.szHandZoneS: function 7 -/
def UT : SFun := { n := 27,res := [.t 4],body := (jq [jI 4 0 [4]] [0,1] (jq [jm 6 1 [1],jm 7 0 [],jn 8 (.lenL (.v 7)) [7],jn 9 (.binN .sub (.v 6) (.v 8)) [6,8],jm 1 9 [9]] [0,1] (.seq (jq [jm 10 1 [],jc 11 .lss 10 0 [10]] [0,1,11] (.cond (.v 11) (jq [jn 4 (.mv (.c (.int .i64 (-1)))) []] [4] .ret) .skip)) (.seq (jq [jI 5 0 []] [0,1,5] (.block 0 (.loop Zd))) (jq [jm 26 1 [1],jm 4 26 [26]] [4] .ret))))) }
theorem QcY : QY Go.Proofs.Tryz.prog 7 UT = true := by kernel_rfl
/-- laws.szHandBook: function 8 -/
def Wo : SFun := { n := 24,res := [.t 4],body := (jq [jn 2 (.box 102 (.v 0)) [0],jI 4 0 [4]] [1,2] (jq [jf 5 0 2 [],jl 6 5 [5],jm 7 1 [1],jn 8 (.call 32 [.v 6,.v 7]) [6,7],jm 1 8 [8]] [1,2] (.seq (jq [jm 9 1 [],jc 10 .lss 9 0 [9]] [1,2,10] (.cond (.v 10) (jq [jn 4 (.mv (.c (.int .i64 (-1)))) []] [4] .ret) .skip)) (jq [jf 11 1 2 [],jl 12 11 [11],jm 13 1 [1],jn 14 (.call 33 [.v 12,.v 13]) [12,13],jm 1 14 [14]] [1,2] (.seq (jq [jm 15 1 [],jc 16 .lss 15 0 [15]] [1,2,16] (.cond (.v 16) (jq [jn 4 (.mv (.c (.int .i64 (-1)))) []] [4] .ret) .skip)) (jq [jf 17 2 2 [2],jl 18 17 [17],jm 19 1 [1],jn 20 (.call 34 [.v 18,.v 19]) [18,19],jm 1 20 [20]] [1] (.seq (jq [jm 21 1 [],jc 22 .lss 21 0 [21]] [1,22] (.cond (.v 22) (jq [jn 4 (.mv (.c (.int .i64 (-1)))) []] [4] .ret) .skip)) (jq [jm 23 1 [1],jm 4 23 [23]] [4] .ret)))))))) }
theorem QeI : QY Go.Proofs.Tryz.prog 8 Wo = true := by kernel_rfl
def Ze : SCode := (.seq (jq [jm 8 4 [],jm 9 0 [],jn 10 (.lenL (.v 9)) [9],jb 11 .lss 8 10 [8,10]] [0,3,4,11] (.cond (.v 11) .skip (.exit 0))) (.seq (.block 1 (.rg [jm 14 3 [],jm 15 4 [],jm 16 0 [],jm 17 4 [],ja 18 5 16 17 [16,17],jL 19 5 18 [18],jn 20 (.call 41 [.v 19]) [19],ja 21 5 14 15 [14,15],⟨none,.store 5 (.v 21) (.v 20),none,[20,21]⟩] [0,3,4])) (.rg [jm 12 4 [4],jn 13 (.binN .add (.v 12) (ci 1)) [12],jm 4 13 [13]] [0,3,4])))
/-- laws.toHandZoneS: function 10 -/
def UU : SFun := { n := 23,res := [.t 2],body := (jq [jn 2 (.mv (.c (.sl 0 5 []))) [2]] [0] (jq [jm 5 0 [],jn 6 (.lenL (.v 5)) [5],⟨some 7,.mk 107 76 5 [.str ⟨#[]⟩,.int .i64 0,.int .i64 0,.int .i64 0,.int .i64 0] (.v 6),none,[6]⟩,jm 3 7 [7]] [0,3] (.seq (jq [jI 4 0 []] [0,3,4] (.block 0 (.loop Ze))) (jq [jm 22 3 [3],jm 2 22 [22]] [2] (.gh (.frzE 2) .ret))))) }
theorem QcZ : QY Go.Proofs.Tryz.prog 10 UU = true := by kernel_rfl
/-- laws.toHandBook: function 11 -/
def Xx : SFun := { n := 17,res := [.cN 2 3],body := (jq [jn 1 (.box 101 (.v 0)) [0],jn 2 (.alloc 102 [.sl 0 11 [],.sl 0 3 [],.sl 0 2 []]) []] [1,2] (jq [jn 3 (.alloc 103 [.sl 0 11 [],.sl 0 3 [],.sl 0 2 []]) []] [1,2,3] (jq [jf 4 0 1 [],jl 5 4 [4],jn 6 (.call 42 [.v 5]) [5],jf 7 0 3 [],⟨none,.store 1 (.v 7) (.v 6),none,[6,7]⟩] [1,2,3] (jq [jf 8 1 1 [],jl 9 8 [8],jn 10 (.call 43 [.v 9]) [9],jf 11 1 3 [],⟨none,.store 1 (.v 11) (.v 10),none,[10,11]⟩] [1,2,3] (jq [jf 12 2 1 [1],jl 13 12 [12],jn 14 (.call 44 [.v 13]) [13],jf 15 2 3 [],⟨none,.store 1 (.v 15) (.v 14),none,[14,15]⟩] [2,3] (jq [jL 16 3 3 [3],⟨none,.store 3 (.v 2) (.v 16),none,[16]⟩] [2] .ret)))))) }
theorem Wp : QY Go.Proofs.Tryz.prog 11 Xx = true := by kernel_rfl
def Zf : SCode := (.seq (jq [jm 11 5 [],jm 12 0 [],jn 13 (.lenL (.v 12)) [12],jb 14 .lss 11 13 [11,13]] [0,1,5,14] (.cond (.v 14) .skip (.exit 0))) (.seq (.block 1 (.seq (.rgd [jm 17 0 [],jm 18 5 [],ja 19 8 17 18 [],jL 20 8 19 [],jm 21 1 [],jm 22 5 [],ja 23 8 21 22 [],jL 24 8 23 [],jn 25 (.call 47 [.v 20,.v 24]) [],jn 26 (.not (.v 25)) []] [0,1,5,26] [none,none,none,none,none,none,none,none,none,none]) (.cond (.v 26) (jq [jn 4 (.mv (.c (.bool false))) []] [4] .ret) .skip))) (.rg [jm 15 5 [5],jn 16 (.binN .add (.v 15) (ci 1)) [15],jm 5 16 [16]] [0,1,5])))
/-- laws.eqHandWordS: function 13 -/
def UV : SFun := { n := 27,res := [.t 4],body := (jq [jn 4 (.mv (.c (.bool false))) [4]] [0,1] (.seq (jq [jm 6 0 [],jn 7 (.lenL (.v 6)) [6],jm 8 1 [],jn 9 (.lenL (.v 8)) [8],jb 10 .neq 7 9 [7,9]] [0,1,10] (.cond (.v 10) (jq [jn 4 (.mv (.c (.bool false))) []] [4] .ret) .skip)) (.seq (jq [jI 5 0 []] [0,1,5] (.block 0 (.loop Zf))) (jq [jn 4 (.mv (.c (.bool true))) []] [4] .ret)))) }
theorem Qc0 : QY Go.Proofs.Tryz.prog 13 UV = true := by kernel_rfl
def Zg : SCode := (.seq (jq [jm 11 5 [],jm 12 0 [],jn 13 (.lenL (.v 12)) [12],jb 14 .lss 11 13 [11,13]] [0,1,5,14] (.cond (.v 14) .skip (.exit 0))) (.seq (.block 1 (.seq (.rgd [jm 17 0 [],jm 18 5 [],ja 19 5 17 18 [],jL 20 5 19 [],jm 21 1 [],jm 22 5 [],ja 23 5 21 22 [],jL 24 5 23 [],jn 25 (.call 48 [.v 20,.v 24]) [],jn 26 (.not (.v 25)) []] [0,1,5,26] [none,none,none,none,none,none,none,none,none,none]) (.cond (.v 26) (jq [jn 4 (.mv (.c (.bool false))) []] [4] .ret) .skip))) (.rg [jm 15 5 [5],jn 16 (.binN .add (.v 15) (ci 1)) [15],jm 5 16 [16]] [0,1,5])))
/-- laws.eqHandZoneS: function 14 -/
def UW : SFun := { n := 27,res := [.t 4],body := (jq [jn 4 (.mv (.c (.bool false))) [4]] [0,1] (.seq (jq [jm 6 0 [],jn 7 (.lenL (.v 6)) [6],jm 8 1 [],jn 9 (.lenL (.v 8)) [8],jb 10 .neq 7 9 [7,9]] [0,1,10] (.cond (.v 10) (jq [jn 4 (.mv (.c (.bool false))) []] [4] .ret) .skip)) (.seq (jq [jI 5 0 []] [0,1,5] (.block 0 (.loop Zg))) (jq [jn 4 (.mv (.c (.bool true))) []] [4] .ret)))) }
theorem Qc1 : QY Go.Proofs.Tryz.prog 14 UW = true := by kernel_rfl
/-- laws.eqHandBook: function 15 -/
def Xy : SFun := { n := 23,res := [.t 4],body := (jq [jn 2 (.box 102 (.v 0)) [0],jn 3 (.box 103 (.v 1)) [1],jn 4 (.mv (.c (.bool false))) [4]] [2,3] (.seq (jq [jf 5 0 2 [],jl 6 5 [5],jf 7 0 3 [],jl 8 7 [7],jn 9 (.call 49 [.v 6,.v 8]) [6,8],jn 10 (.not (.v 9)) [9]] [2,3,10] (.cond (.v 10) (jq [jn 4 (.mv (.c (.bool false))) []] [4] .ret) .skip)) (.seq (jq [jf 11 1 2 [],jl 12 11 [11],jf 13 1 3 [],jl 14 13 [13],jn 15 (.call 50 [.v 12,.v 14]) [12,14],jn 16 (.not (.v 15)) [15]] [2,3,16] (.cond (.v 16) (jq [jn 4 (.mv (.c (.bool false))) []] [4] .ret) .skip)) (.seq (jq [jf 17 2 2 [2],jl 18 17 [17],jf 19 2 3 [3],jl 20 19 [19],jn 21 (.call 51 [.v 18,.v 20]) [18,20],jn 22 (.not (.v 21)) [21]] [22] (.cond (.v 22) (jq [jn 4 (.mv (.c (.bool false))) []] [4] .ret) .skip)) (jq [jn 4 (.mv (.c (.bool true))) []] [4] .ret))))) }
theorem Wq : QY Go.Proofs.Tryz.prog 15 Xy = true := by kernel_rfl
def Yj : SCode := (.seq (jq [jm 6 5 [],jm 7 0 [],jn 8 (.lenL (.v 7)) [7],jb 9 .lss 6 8 [6,8]] [0,1,5,9] (.cond (.v 9) .skip (.exit 0))) (.seq (.block 1 (jq [jm 12 0 [],jm 13 5 [],jm 14 1 [],jn 15 (.call 52 [.v 14]) [14],ja 16 5 12 13 [12,13],jf 17 0 16 [16],⟨none,.store 1 (.v 17) (.v 15),none,[15,17]⟩] [0,1,5] (jq [jm 18 1 [1],jn 19 (.binN .add (.v 18) (ci 1)) [18],jm 1 19 [19]] [0,1,5] (jq [jm 20 0 [],jm 21 5 [],jm 22 1 [],ja 23 5 20 21 [20,21],jf 24 1 23 [23],⟨none,.store 1 (.v 24) (.v 22),none,[22,24]⟩] [0,1,5] (jq [jm 25 1 [1],jn 26 (.binN .add (.v 25) (ci 1)) [25],jm 1 26 [26]] [0,1,5] (jq [jm 27 0 [],jm 28 5 [],jm 29 1 [],ja 30 5 27 28 [27,28],jf 31 2 30 [30],⟨none,.store 1 (.v 31) (.v 29),none,[29,31]⟩] [0,1,5] (jq [jm 32 1 [1],jn 33 (.binN .add (.v 32) (ci 1)) [32],jm 1 33 [33]] [0,1,5] (jq [jm 34 0 [],jm 35 5 [],jm 36 1 [],ja 37 5 34 35 [34,35],jf 38 3 37 [37],⟨none,.store 1 (.v 38) (.v 36),none,[36,38]⟩] [0,1,5] (jq [jm 39 1 [1],jn 40 (.binN .add (.v 39) (ci 1)) [39],jm 1 40 [40]] [0,1,5] (jq [jm 41 0 [],jm 42 5 [],jm 43 1 [],ja 44 5 41 42 [41,42],jf 45 4 44 [44],⟨none,.store 1 (.v 45) (.v 43),none,[43,45]⟩] [0,1,5] (.rg [jm 46 1 [1],jn 47 (.binN .add (.v 46) (ci 1)) [46],jm 1 47 [47]] [0,1,5]))))))))))) (.rg [jm 10 5 [5],jn 11 (.binN .add (.v 10) (ci 1)) [10],jm 5 11 [11]] [0,1,5])))
/-- laws.markHandZoneS: function 16 -/
def Zh : SFun := { n := 49,res := [.t 4],body := (jq [jI 4 0 [4]] [0,1] (.seq (jq [jI 5 0 []] [0,1,5] (.block 0 (.loop Yj))) (jq [jm 48 1 [1],jm 4 48 [48]] [4] .ret))) }
theorem QbV : QY Go.Proofs.Tryz.prog 16 Zh = true := by kernel_rfl
/-- laws.markHandBook: function 17 -/
def Gl : SFun := { n := 18,res := [.t 4],body := (jq [jn 2 (.box 102 (.v 0)) [0],jI 4 0 [4]] [1,2] (jq [jf 5 0 2 [],jl 6 5 [5],jm 7 1 [1],jn 8 (.call 53 [.v 6,.v 7]) [6,7],jm 1 8 [8]] [1,2] (jq [jf 9 1 2 [],jl 10 9 [9],jm 11 1 [1],jn 12 (.call 54 [.v 10,.v 11]) [10,11],jm 1 12 [12]] [1,2] (jq [jf 13 2 2 [2],jl 14 13 [13],jm 15 1 [1],jn 16 (.call 55 [.v 14,.v 15]) [14,15],jm 1 16 [16]] [1] (jq [jm 17 1 [1],jm 4 17 [17]] [4] .ret))))) }
theorem ZZ : QY Go.Proofs.Tryz.prog 17 Gl = true := by kernel_rfl
def KD : SCode := (.seq (jq [jm 6 5 [],jm 7 0 [],jn 8 (.lenL (.v 7)) [7],jb 9 .lss 6 8 [6,8]] [0,1,5,9] (.cond (.v 9) .skip (.exit 0))) (.seq (.block 1 (jq [jm 12 0 [],jm 13 5 [],jm 14 1 [],ja 15 8 12 13 [12,13],jf 16 0 15 [15],⟨none,.store 1 (.v 16) (.v 14),none,[14,16]⟩] [0,1,5] (jq [jm 17 1 [1],jn 18 (.binN .add (.v 17) (ci 1)) [17],jm 1 18 [18]] [0,1,5] (jq [jm 19 0 [],jm 20 5 [],jm 21 1 [],jn 22 (.call 52 [.v 21]) [21],ja 23 8 19 20 [19,20],jf 24 1 23 [23],⟨none,.store 1 (.v 24) (.v 22),none,[22,24]⟩] [0,1,5] (jq [jm 25 1 [1],jn 26 (.binN .add (.v 25) (ci 1)) [25],jm 1 26 [26]] [0,1,5] (jq [jm 27 0 [],jm 28 5 [],jm 29 1 [],jn 30 (.call 52 [.v 29]) [29],ja 31 8 27 28 [27,28],jf 32 2 31 [31],⟨none,.store 1 (.v 32) (.v 30),none,[30,32]⟩] [0,1,5] (jq [jm 33 1 [1],jn 34 (.binN .add (.v 33) (ci 1)) [33],jm 1 34 [34]] [0,1,5] (jq [jm 35 0 [],jm 36 5 [],jm 37 1 [],jn 38 (.call 52 [.v 37]) [37],ja 39 8 35 36 [35,36],jf 40 3 39 [39],⟨none,.store 1 (.v 40) (.v 38),none,[38,40]⟩] [0,1,5] (jq [jm 41 1 [1],jn 42 (.binN .add (.v 41) (ci 1)) [41],jm 1 42 [42]] [0,1,5] (jq [jm 43 0 [],jm 44 5 [],jm 45 1 [],ja 46 8 43 44 [43,44],jf 47 4 46 [46],⟨none,.store 1 (.v 47) (.v 45),none,[45,47]⟩] [0,1,5] (jq [jm 48 1 [1],jn 49 (.binN .add (.v 48) (ci 1)) [48],jm 1 49 [49]] [0,1,5] (jq [jm 50 0 [],jm 51 5 [],jm 52 1 [],ja 53 8 50 51 [50,51],jf 54 5 53 [53],⟨none,.store 1 (.v 54) (.v 52),none,[52,54]⟩] [0,1,5] (jq [jm 55 1 [1],jn 56 (.binN .add (.v 55) (ci 1)) [55],jm 1 56 [56]] [0,1,5] (jq [jm 57 0 [],jm 58 5 [],jm 59 1 [],ja 60 8 57 58 [57,58],jf 61 6 60 [60],⟨none,.store 1 (.v 61) (.v 59),none,[59,61]⟩] [0,1,5] (jq [jm 62 1 [1],jn 63 (.binN .add (.v 62) (ci 1)) [62],jm 1 63 [63]] [0,1,5] (.rg [jm 64 0 [],jm 65 5 [],ja 66 8 64 65 [64,65],jf 67 7 66 [66],jl 68 67 [67],jm 69 1 [1],jn 70 (.call 28 [.v 68,.v 69]) [68,69],jm 1 70 [70]] [0,1,5])))))))))))))))) (.rg [jm 10 5 [5],jn 11 (.binN .add (.v 10) (ci 1)) [10],jm 5 11 [11]] [0,1,5])))
/-- laws.markHandWordS: function 18 -/
def Y1 : SFun := { n := 72,res := [.t 4],body := (jq [jI 4 0 [4]] [0,1] (.seq (jq [jI 5 0 []] [0,1,5] (.block 0 (.loop KD))) (jq [jm 71 1 [1],jm 4 71 [71]] [4] .ret))) }
theorem Zi : QY Go.Proofs.Tryz.prog 18 Y1 = true := by kernel_rfl
def Yk : SCode := (.seq (jq [jm 6 5 [],jm 7 0 [],jn 8 (.lenL (.v 7)) [7],jb 9 .lss 6 8 [6,8]] [0,1,5,9] (.cond (.v 9) .skip (.exit 0))) (.seq (.block 1 (.seq (jq [jm 12 0 [],jm 13 5 [],ja 14 8 12 13 [12,13],jf 15 0 14 [14],jl 16 15 [15],jm 17 1 [],jb 18 .neq 16 17 [16,17]] [0,1,5,18] (.cond (.v 18) (jq [jn 4 (.mv (.c (.int .i64 (-1)))) []] [4] .ret) .skip)) (jq [jm 19 1 [1],jn 20 (.binN .add (.v 19) (ci 1)) [19],jm 1 20 [20]] [0,1,5] (.seq (.seq (.rgd [jm 21 0 [],jm 22 5 [],ja 23 8 21 22 [],jf 24 1 23 [],jl 25 24 [],jm 26 1 [],jn 27 (.call 52 [.v 26]) [],jb 28 .neq 25 27 []] [0,1,5,28] [none,none,some [],some [],some [],none,some [3,2,1],none]) (.cond (.v 28) (jq [jn 4 (.mv (.c (.int .i64 (-1)))) []] [4] .ret) .skip)) (jq [jm 29 1 [1],jn 30 (.binN .add (.v 29) (ci 1)) [29],jm 1 30 [30]] [0,1,5] (.seq (.seq (.rgd [jm 31 0 [],jm 32 5 [],ja 33 8 31 32 [],jf 34 2 33 [],jl 35 34 [],jm 36 1 [],jn 37 (.call 52 [.v 36]) [],jb 38 .neq 35 37 []] [0,1,5,38] [none,none,some [],some [],some [],none,some [3,2,1],none]) (.cond (.v 38) (jq [jn 4 (.mv (.c (.int .i64 (-1)))) []] [4] .ret) .skip)) (jq [jm 39 1 [1],jn 40 (.binN .add (.v 39) (ci 1)) [39],jm 1 40 [40]] [0,1,5] (.seq (.seq (.rgd [jm 41 0 [],jm 42 5 [],ja 43 8 41 42 [],jf 44 3 43 [],jl 45 44 [],jm 46 1 [],jn 47 (.call 52 [.v 46]) [],jb 48 .neq 45 47 []] [0,1,5,48] [none,none,some [],some [],some [],none,some [3,2,1],none]) (.cond (.v 48) (jq [jn 4 (.mv (.c (.int .i64 (-1)))) []] [4] .ret) .skip)) (jq [jm 49 1 [1],jn 50 (.binN .add (.v 49) (ci 1)) [49],jm 1 50 [50]] [0,1,5] (.seq (jq [jm 51 0 [],jm 52 5 [],ja 53 8 51 52 [51,52],jf 54 4 53 [53],jl 55 54 [54],jm 56 1 [],jb 57 .neq 55 56 [55,56]] [0,1,5,57] (.cond (.v 57) (jq [jn 4 (.mv (.c (.int .i64 (-1)))) []] [4] .ret) .skip)) (jq [jm 58 1 [1],jn 59 (.binN .add (.v 58) (ci 1)) [58],jm 1 59 [59]] [0,1,5] (.seq (jq [jm 60 0 [],jm 61 5 [],ja 62 8 60 61 [60,61],jf 63 5 62 [62],jl 64 63 [63],jm 65 1 [],jb 66 .neq 64 65 [64,65]] [0,1,5,66] (.cond (.v 66) (jq [jn 4 (.mv (.c (.int .i64 (-1)))) []] [4] .ret) .skip)) (jq [jm 67 1 [1],jn 68 (.binN .add (.v 67) (ci 1)) [67],jm 1 68 [68]] [0,1,5] (.seq (jq [jm 69 0 [],jm 70 5 [],ja 71 8 69 70 [69,70],jf 72 6 71 [71],jl 73 72 [72],jm 74 1 [],jb 75 .neq 73 74 [73,74]] [0,1,5,75] (.cond (.v 75) (jq [jn 4 (.mv (.c (.int .i64 (-1)))) []] [4] .ret) .skip)) (jq [jm 76 1 [1],jn 77 (.binN .add (.v 76) (ci 1)) [76],jm 1 77 [77]] [0,1,5] (jq [jm 78 0 [],jm 79 5 [],ja 80 8 78 79 [78,79],jf 81 7 80 [80],jl 82 81 [81],jm 83 1 [1],jn 84 (.call 56 [.v 82,.v 83]) [82,83],jm 1 84 [84]] [0,1,5] (jq [jm 85 1 [],jc 86 .lss 85 0 [85]] [0,1,5,86] (.cond (.v 86) (jq [jn 4 (.mv (.c (.int .i64 (-1)))) []] [4] .ret) .skip)))))))))))))))))) (.rg [jm 10 5 [5],jn 11 (.binN .add (.v 10) (ci 1)) [10],jm 5 11 [11]] [0,1,5])))
/-- laws.heldHandWordS: function 19 -/
def Zj : SFun := { n := 88,res := [.t 4],body := (jq [jI 4 0 [4]] [0,1] (.seq (jq [jI 5 0 []] [0,1,5] (.block 0 (.loop Yk))) (jq [jm 87 1 [1],jm 4 87 [87]] [4] .ret))) }
theorem QbW : QY Go.Proofs.Tryz.prog 19 Zj = true := by kernel_rfl
/-- laws.heldHandBook: function 22 -/
def Gm : SFun := { n := 24,res := [.t 4],body := (jq [jn 2 (.box 102 (.v 0)) [0],jI 4 0 [4]] [1,2] (jq [jf 5 0 2 [],jl 6 5 [5],jm 7 1 [1],jn 8 (.call 62 [.v 6,.v 7]) [6,7],jm 1 8 [8]] [1,2] (.seq (jq [jm 9 1 [],jc 10 .lss 9 0 [9]] [1,2,10] (.cond (.v 10) (jq [jn 4 (.mv (.c (.int .i64 (-1)))) []] [4] .ret) .skip)) (jq [jf 11 1 2 [],jl 12 11 [11],jm 13 1 [1],jn 14 (.call 63 [.v 12,.v 13]) [12,13],jm 1 14 [14]] [1,2] (.seq (jq [jm 15 1 [],jc 16 .lss 15 0 [15]] [1,2,16] (.cond (.v 16) (jq [jn 4 (.mv (.c (.int .i64 (-1)))) []] [4] .ret) .skip)) (jq [jf 17 2 2 [2],jl 18 17 [17],jm 19 1 [1],jn 20 (.call 64 [.v 18,.v 19]) [18,19],jm 1 20 [20]] [1] (.seq (jq [jm 21 1 [],jc 22 .lss 21 0 [21]] [1,22] (.cond (.v 22) (jq [jn 4 (.mv (.c (.int .i64 (-1)))) []] [4] .ret) .skip)) (jq [jm 23 1 [1],jm 4 23 [23]] [4] .ret)))))))) }
theorem Z0 : QY Go.Proofs.Tryz.prog 22 Gm = true := by kernel_rfl
/-- laws.szHandBoxS: function 23 -/
def Wr : SFun := { n := 12,res := [.t 4],body := (jq [jI 4 0 [4]] [0,1] (jq [jm 5 1 [1],jm 6 0 [0],jn 7 (.lenL (.v 6)) [6],jn 8 (.binN .sub (.v 5) (.v 7)) [5,7],jm 1 8 [8]] [1] (.seq (jq [jm 9 1 [],jc 10 .lss 9 0 [9]] [1,10] (.cond (.v 10) (jq [jn 4 (.mv (.c (.int .i64 (-1)))) []] [4] .ret) .skip)) (jq [jm 11 1 [1],jm 4 11 [11]] [4] .ret)))) }
theorem QeJ : QY Go.Proofs.Tryz.prog 23 Wr = true := by kernel_rfl
def Z1 : SCode := (.seq (jq [jm 8 4 [],jm 9 0 [],jn 10 (.lenL (.v 9)) [9],jb 11 .lss 8 10 [8,10]] [0,3,4,11] (.cond (.v 11) .skip (.exit 0))) (.seq (.block 1 (.rg [jm 14 3 [],jm 15 4 [],jm 16 0 [],jm 17 4 [],ja 18 6 16 17 [16,17],jL 19 6 18 [18],jn 20 (.call 67 [.v 19]) [19],ja 21 6 14 15 [14,15],⟨none,.store 6 (.v 21) (.v 20),none,[20,21]⟩] [0,3,4])) (.rg [jm 12 4 [4],jn 13 (.binN .add (.v 12) (ci 1)) [12],jm 4 13 [13]] [0,3,4])))
/-- laws.toHandBoxS: function 25 -/
def Ws : SFun := { n := 23,res := [.t 2],body := (jq [jn 2 (.mv (.c (.sl 0 6 []))) [2]] [0] (jq [jm 5 0 [],jn 6 (.lenL (.v 5)) [5],jn 7 (.mk 107 100 6 [.int .i64 0,.int .i64 0,.int .i64 0,.int .i64 0,.int .i64 0,.int .i64 0] (.v 6)) [6],jm 3 7 [7]] [0,3] (.seq (jq [jI 4 0 []] [0,3,4] (.block 0 (.loop Z1))) (jq [jm 22 3 [3],jm 2 22 [22]] [2] (.gh (.frzE 2) .ret))))) }
theorem QeK : QY Go.Proofs.Tryz.prog 25 Ws = true := by kernel_rfl
def Z2 : SCode := (.seq (jq [jm 11 5 [],jm 12 0 [],jn 13 (.lenL (.v 12)) [12],jb 14 .lss 11 13 [11,13]] [0,1,5,14] (.cond (.v 14) .skip (.exit 0))) (.seq (.block 1 (.seq (.rgd [jm 17 0 [],jm 18 5 [],ja 19 6 17 18 [],jL 20 6 19 [],jm 21 1 [],jm 22 5 [],ja 23 6 21 22 [],jL 24 6 23 [],jn 25 (.call 69 [.v 20,.v 24]) [],jn 26 (.not (.v 25)) []] [0,1,5,26] [none,none,none,none,none,none,none,none,none,none]) (.cond (.v 26) (jq [jn 4 (.mv (.c (.bool false))) []] [4] .ret) .skip))) (.rg [jm 15 5 [5],jn 16 (.binN .add (.v 15) (ci 1)) [15],jm 5 16 [16]] [0,1,5])))
/-- laws.eqHandBoxS: function 27 -/
def Wt : SFun := { n := 27,res := [.t 4],body := (jq [jn 4 (.mv (.c (.bool false))) [4]] [0,1] (.seq (jq [jm 6 0 [],jn 7 (.lenL (.v 6)) [6],jm 8 1 [],jn 9 (.lenL (.v 8)) [8],jb 10 .neq 7 9 [7,9]] [0,1,10] (.cond (.v 10) (jq [jn 4 (.mv (.c (.bool false))) []] [4] .ret) .skip)) (.seq (jq [jI 5 0 []] [0,1,5] (.block 0 (.loop Z2))) (jq [jn 4 (.mv (.c (.bool true))) []] [4] .ret)))) }
theorem QeL : QY Go.Proofs.Tryz.prog 27 Wt = true := by kernel_rfl
def Yz : SCode := (.seq (jq [jm 6 5 [],jm 7 0 [],jn 8 (.lenL (.v 7)) [7],jb 9 .lss 6 8 [6,8]] [0,1,5,9] (.cond (.v 9) .skip (.exit 0))) (.seq (.block 1 (jq [jm 12 0 [],jm 13 5 [],jm 14 1 [],ja 15 6 12 13 [12,13],jf 16 0 15 [15],⟨none,.store 1 (.v 16) (.v 14),none,[14,16]⟩] [0,1,5] (jq [jm 17 1 [1],jn 18 (.binN .add (.v 17) (ci 1)) [17],jm 1 18 [18]] [0,1,5] (jq [jm 19 0 [],jm 20 5 [],jm 21 1 [],ja 22 6 19 20 [19,20],jf 23 1 22 [22],⟨none,.store 1 (.v 23) (.v 21),none,[21,23]⟩] [0,1,5] (jq [jm 24 1 [1],jn 25 (.binN .add (.v 24) (ci 1)) [24],jm 1 25 [25]] [0,1,5] (jq [jm 26 0 [],jm 27 5 [],jm 28 1 [],ja 29 6 26 27 [26,27],jf 30 2 29 [29],⟨none,.store 1 (.v 30) (.v 28),none,[28,30]⟩] [0,1,5] (jq [jm 31 1 [1],jn 32 (.binN .add (.v 31) (ci 1)) [31],jm 1 32 [32]] [0,1,5] (jq [jm 33 0 [],jm 34 5 [],jm 35 1 [],ja 36 6 33 34 [33,34],jf 37 3 36 [36],⟨none,.store 1 (.v 37) (.v 35),none,[35,37]⟩] [0,1,5] (jq [jm 38 1 [1],jn 39 (.binN .add (.v 38) (ci 1)) [38],jm 1 39 [39]] [0,1,5] (jq [jm 40 0 [],jm 41 5 [],jm 42 1 [],ja 43 6 40 41 [40,41],jf 44 4 43 [43],⟨none,.store 1 (.v 44) (.v 42),none,[42,44]⟩] [0,1,5] (jq [jm 45 1 [1],jn 46 (.binN .add (.v 45) (ci 1)) [45],jm 1 46 [46]] [0,1,5] (jq [jm 47 0 [],jm 48 5 [],jm 49 1 [],ja 50 6 47 48 [47,48],jf 51 5 50 [50],⟨none,.store 1 (.v 51) (.v 49),none,[49,51]⟩] [0,1,5] (.rg [jm 52 1 [1],jn 53 (.binN .add (.v 52) (ci 1)) [52],jm 1 53 [53]] [0,1,5]))))))))))))) (.rg [jm 10 5 [5],jn 11 (.binN .add (.v 10) (ci 1)) [10],jm 5 11 [11]] [0,1,5])))
/-- laws.markHandBoxS: function 28 -/
def Z3 : SFun := { n := 55,res := [.t 4],body := (jq [jI 4 0 [4]] [0,1] (.seq (jq [jI 5 0 []] [0,1,5] (.block 0 (.loop Yz))) (jq [jm 54 1 [1],jm 4 54 [54]] [4] .ret))) }
theorem Qct : QY Go.Proofs.Tryz.prog 28 Z3 = true := by kernel_rfl
/-- laws.szHandZone: function 31 -/
def Wu : SFun := { n := 13,res := [.t 4],body := (jq [jn 2 (.box 102 (.v 0)) [0],jI 4 0 [4]] [1,2] (jq [jm 5 1 [1],jf 6 0 2 [2],jl 7 6 [6],jn 8 (.lenS (.v 7)) [7],jn 9 (.binN .sub (.v 5) (.v 8)) [5,8],jm 1 9 [9]] [1] (.seq (jq [jm 10 1 [],jc 11 .lss 10 0 [10]] [1,11] (.cond (.v 11) (jq [jn 4 (.mv (.c (.int .i64 (-1)))) []] [4] .ret) .skip)) (jq [jm 12 1 [1],jm 4 12 [12]] [4] .ret)))) }
theorem QeM : QY Go.Proofs.Tryz.prog 31 Wu = true := by kernel_rfl
def Z4 : SCode := (.seq (jq [jm 12 5 [],jm 13 0 [],jn 14 (.lenL (.v 13)) [13],jb 15 .lss 12 14 [12,14]] [0,1,5,15] (.cond (.v 15) .skip (.exit 0))) (.seq (.block 1 (jq [jm 18 0 [],jm 19 5 [],ja 20 11 18 19 [18,19],jL 21 11 20 [20],jm 22 1 [1],jn 23 (.call 74 [.v 21,.v 22]) [21,22],jm 1 23 [23]] [0,1,5] (jq [jm 24 1 [],jc 25 .lss 24 0 [24]] [0,1,5,25] (.cond (.v 25) (jq [jn 4 (.mv (.c (.int .i64 (-1)))) []] [4] .ret) .skip)))) (.rg [jm 16 5 [5],jn 17 (.binN .add (.v 16) (ci 1)) [16],jm 5 17 [17]] [0,1,5])))
/-- laws.szHandOwnS: function 32 -/
def Wv : SFun := { n := 27,res := [.t 4],body := (jq [jI 4 0 [4]] [0,1] (jq [jm 6 1 [1],jm 7 0 [],jn 8 (.lenL (.v 7)) [7],jn 9 (.binN .sub (.v 6) (.v 8)) [6,8],jm 1 9 [9]] [0,1] (.seq (jq [jm 10 1 [],jc 11 .lss 10 0 [10]] [0,1,11] (.cond (.v 11) (jq [jn 4 (.mv (.c (.int .i64 (-1)))) []] [4] .ret) .skip)) (.seq (jq [jI 5 0 []] [0,1,5] (.block 0 (.loop Z4))) (jq [jm 26 1 [1],jm 4 26 [26]] [4] .ret))))) }
theorem QeN : QY Go.Proofs.Tryz.prog 32 Wv = true := by kernel_rfl
end Go.Ve

namespace Go.Ve
open Go.Proofs
set_option maxRecDepth 100000
def Zk : SCode := (.seq (jq [jm 12 5 [],jm 13 0 [],jn 14 (.lenL (.v 13)) [13],jb 15 .lss 12 14 [12,14]] [0,1,5,15] (.cond (.v 15) .skip (.exit 0))) (.seq (.block 1 (jq [jm 18 0 [],jm 19 5 [],ja 20 3 18 19 [18,19],jL 21 3 20 [20],jm 22 1 [1],jn 23 (.call 75 [.v 21,.v 22]) [21,22],jm 1 23 [23]] [0,1,5] (jq [jm 24 1 [],jc 25 .lss 24 0 [24]] [0,1,5,25] (.cond (.v 25) (jq [jn 4 (.mv (.c (.int .i64 (-1)))) []] [4] .ret) .skip)))) (.rg [jm 16 5 [5],jn 17 (.binN .add (.v 16) (ci 1)) [16],jm 5 17 [17]] [0,1,5])))
/-- laws.szHandPartS: function 33 -/
def UX : SFun := { n := 27,res := [.t 4],body := (jq [jI 4 0 [4]] [0,1] (jq [jm 6 1 [1],jm 7 0 [],jn 8 (.lenL (.v 7)) [7],jn 9 (.binN .sub (.v 6) (.v 8)) [6,8],jm 1 9 [9]] [0,1] (.seq (jq [jm 10 1 [],jc 11 .lss 10 0 [10]] [0,1,11] (.cond (.v 11) (jq [jn 4 (.mv (.c (.int .i64 (-1)))) []] [4] .ret) .skip)) (.seq (jq [jI 5 0 []] [0,1,5] (.block 0 (.loop Zk))) (jq [jm 26 1 [1],jm 4 26 [26]] [4] .ret))))) }
theorem Qc2 : QY Go.Proofs.Tryz.prog 33 UX = true := by kernel_rfl
def Zl : SCode := (.seq (jq [jm 12 5 [],jm 13 0 [],jn 14 (.lenL (.v 13)) [13],jb 15 .lss 12 14 [12,14]] [0,1,5,15] (.cond (.v 15) .skip (.exit 0))) (.seq (.block 1 (jq [jm 18 0 [],jm 19 5 [],ja 20 2 18 19 [18,19],jL 21 2 20 [20],jm 22 1 [1],jn 23 (.call 76 [.v 21,.v 22]) [21,22],jm 1 23 [23]] [0,1,5] (jq [jm 24 1 [],jc 25 .lss 24 0 [24]] [0,1,5,25] (.cond (.v 25) (jq [jn 4 (.mv (.c (.int .i64 (-1)))) []] [4] .ret) .skip)))) (.rg [jm 16 5 [5],jn 17 (.binN .add (.v 16) (ci 1)) [16],jm 5 17 [17]] [0,1,5])))
/-- laws.szHandSeenS: function 34 -/
def UY : SFun := { n := 27,res := [.t 4],body := (jq [jI 4 0 [4]] [0,1] (jq [jm 6 1 [1],jm 7 0 [],jn 8 (.lenL (.v 7)) [7],jn 9 (.binN .sub (.v 6) (.v 8)) [6,8],jm 1 9 [9]] [0,1] (.seq (jq [jm 10 1 [],jc 11 .lss 10 0 [10]] [0,1,11] (.cond (.v 11) (jq [jn 4 (.mv (.c (.int .i64 (-1)))) []] [4] .ret) .skip)) (.seq (jq [jI 5 0 []] [0,1,5] (.block 0 (.loop Zl))) (jq [jm 26 1 [1],jm 4 26 [26]] [4] .ret))))) }
theorem Qc3 : QY Go.Proofs.Tryz.prog 34 UY = true := by kernel_rfl
def Z5 : SCode := (.seq (jq [jm 27 5 [],jf 28 2 3 [],jl 29 28 [28],jn 30 (.lenL (.v 29)) [29],jb 31 .lss 27 30 [27,30]] [3,5,31] (.cond (.v 31) .skip (.exit 0))) (.seq (.block 1 (.seq (.rgd [jf 34 2 3 [],jl 35 34 [],jm 36 5 [],ja 37 2 35 36 [],jf 38 0 37 [],jl 39 38 [],jn 40 (.call 70 [.v 39]) [],jn 41 (.not (.v 40)) [],jm 42 41 [],jh 43 42 (.faddr 2 (.v 3)) [],jh 44 42 (.load1 (.v 43)) [],jM 45 42 5 [],jh 46 42 (.iaddr 2 (.v 44) (.v 45)) [],jh 47 42 (.faddr 1 (.v 46)) [],jh 48 42 (.load1 (.v 47)) [],jh 49 42 (.call 80 [.v 48,.c (.int .i64 1),.c (.int .i64 1000000)]) [],jh 50 42 (.not (.v 49)) [],jp 51 42 50 [],jm 52 51 [],jM 53 52 5 [],jh 54 52 (.bin .gtr (.v 53) (ci 0)) [],jM 55 52 54 [],jt 56 55 (.faddr 2 (.v 3)) [],jt 57 55 (.load1 (.v 56)) [],jt 58 55 (.mv (.v 5)) [],jt 59 55 (.binN .sub (.v 58) (ci 1)) [],jt 60 55 (.iaddr 2 (.v 57) (.v 59)) [],jt 61 55 (.faddr 0 (.v 60)) [],jt 62 55 (.load1 (.v 61)) [],jt 63 55 (.faddr 2 (.v 3)) [],jt 64 55 (.load1 (.v 63)) [],jt 65 55 (.mv (.v 5)) [],jt 66 55 (.iaddr 2 (.v 64) (.v 65)) [],jt 67 55 (.faddr 0 (.v 66)) [],jt 68 55 (.load1 (.v 67)) [],jt 69 55 (.bin .geq (.v 62) (.v 68)) [],jh 70 52 (.pick (.v 55) (.v 69) (.c (.bool false))) [],jp 71 52 70 []] [3,5,71] [none,none,none,none,none,none,none,none,none,none,none,none,none,none,none,none,none,none,none,none,none,none,none,none,none,none,none,none,none,none,none,none,none,none,none,none,none,none]) (.cond (.v 71) (jq [jn 4 (.mv (.c (.bool false))) []] [4] .ret) .skip))) (.rg [jm 32 5 [5],jn 33 (.binN .add (.v 32) (ci 1)) [32],jm 5 33 [33]] [3,5])))
/-- spec.HandBookOk: function 35 -/
def Ww : SFun := { n := 72,res := [.t 4],body := (jq [jn 3 (.box 103 (.v 1)) [1],jn 4 (.mv (.c (.bool false))) [4]] [0,3] (.seq (jq [jm 6 0 [],jn 7 (.call 77 [.v 6]) [6],jn 8 (.not (.v 7)) [7],jm 9 8 [8],jM 10 9 0 [],jh 11 9 (.loadN 3 (.v 3)) [],jh 12 9 (.call 78 [.v 10,.v 11]) [10,11],jh 13 9 (.not (.v 12)) [12],jp 14 9 13 [9,13],jm 15 14 [14],jM 16 15 0 [0],jh 17 15 (.loadN 3 (.v 3)) [],jh 18 15 (.call 79 [.v 16,.v 17]) [16,17],jh 19 15 (.not (.v 18)) [18],jp 20 15 19 [15,19],jm 21 20 [20],jh 22 21 (.faddr 2 (.v 3)) [],jh 23 21 (.load1 (.v 22)) [22],jh 24 21 (.lenL (.v 23)) [23],jh 25 21 (.bin .gtr (.v 24) (ci 6)) [24],jp 26 21 25 [21,25]] [3,26] (.cond (.v 26) (jq [jn 4 (.mv (.c (.bool false))) []] [4] .ret) .skip)) (.seq (jq [jI 5 0 []] [3,5] (.block 0 (.loop Z5))) (jq [jn 4 (.mv (.c (.bool true))) []] [4] .ret)))) }
theorem QeO : QY Go.Proofs.Tryz.prog 35 Ww = true := by kernel_rfl
def Qai : SCode := (.seq (jq [jm 6 5 [],jm 7 0 [],jn 8 (.lenL (.v 7)) [7],jb 9 .lss 6 8 [6,8]] [0,1,5,9] (.cond (.v 9) .skip (.exit 0))) (.seq (.block 1 (jq [jm 12 0 [],jm 13 5 [],ja 14 5 12 13 [12,13],jf 15 0 14 [14],jl 16 15 [15],jm 17 1 [],jb 18 .eql 16 17 [16,17]] [0,1,5,18] (.cond (.v 18) (jq [jm 19 5 [5],jm 4 19 [19]] [4] .ret) .skip))) (.rg [jm 10 5 [5],jn 11 (.binN .add (.v 10) (ci 1)) [10],jm 5 11 [11]] [0,1,5])))
/-- spec.l32Zone: function 36 -/
def Qb6 : SFun := { n := 20,res := [.t 4],body := (jq [jI 4 0 [4]] [0,1] (.seq (jq [jI 5 0 []] [0,1,5] (.block 0 (.loop Qai))) (jq [jn 4 (.mv (.c (.int .i64 (-1)))) []] [4] .ret))) }
theorem Qh5 : QY Go.Proofs.Tryz.prog 36 Qb6 = true := by kernel_rfl
def X6 : SCode := (.seq (jq [jm 23 11 [],jf 24 9 5 [],jl 25 24 [24],jn 26 (.lenL (.v 25)) [25],jb 27 .lss 23 26 [23,26]] [0,1,5,7,8,9,10,11,27] (.cond (.v 27) .skip (.exit 2))) (.seq (.block 3 (.rgd [jm 30 10 [],jm 31 30 [],jh 32 31 (.faddr 9 (.v 5)) [],jh 33 31 (.load1 (.v 32)) [],jM 34 31 11 [],jh 35 31 (.iaddr 1 (.v 33) (.v 34)) [],jh 36 31 (.load1 (.v 35)) [],jM 37 31 8 [],jM 38 31 9 [],jh 39 31 (.iaddr 1 (.v 37) (.v 38)) [],jh 40 31 (.load1 (.v 39)) [],jh 41 31 (.bin .eql (.v 36) (.v 40)) [],jp 42 31 41 [],jm 10 42 []] [0,1,5,7,8,9,10,11] [none,none,none,none,none,none,none,none,none,none,none,none,none,none])) (.rg [jm 28 11 [11],jn 29 (.binN .add (.v 28) (ci 1)) [28],jm 11 29 [29]] [0,1,5,7,8,9,10,11])))
def Qaj : SCode := (.seq (jq [jm 17 9 [],jm 18 8 [],jn 19 (.lenL (.v 18)) [18],jb 20 .lss 17 19 [17,19]] [0,1,5,7,8,9,20] (.cond (.v 20) .skip (.exit 0))) (.seq (.block 1 (jq [jn 10 (.mv (.c (.bool false))) []] [0,1,5,7,8,9,10] (.seq (jq [jI 11 0 []] [0,1,5,7,8,9,10,11] (.block 2 (.loop X6))) (jq [jm 43 10 [10],jn 44 (.not (.v 43)) [43]] [0,1,5,7,8,9,44] (.cond (.v 44) (.rgd [jm 45 7 [],jm 46 1 [],jm 47 8 [],jm 48 9 [],ja 49 1 47 48 [],jl 50 49 [],jf 51 0 5 [],jl 52 51 [],jf 53 7 5 [],jl 54 53 [],jm 55 0 [],jm 56 0 [],jm 57 8 [],jm 58 9 [],ja 59 1 57 58 [],jl 60 59 [],jn 61 (.call 36 [.v 56,.v 60]) [],ja 62 5 55 61 [],jL 63 5 62 [],jf 64 8 5 [],jl 65 64 [],jn 66 (.call 82 [.v 63,.v 65]) [],jn 67 (.build [.int .i64 0,.str ⟨#[]⟩,.str ⟨#[]⟩,.str ⟨#[]⟩,.int .i64 0,.int .i64 0,.int .i64 0,.sl 0 6 []] [(0,1,.c (.int .i64 1)),(1,1,.v 46),(2,1,.v 50),(3,1,.v 52),(4,1,.v 54),(7,1,.v 66)]) [],jn 68 (.lit 73 8 [.v 67]) [],jn 69 (.app 112 73 8 (.v 45) (.v 68)) [],jm 7 69 []] [0,1,5,7,8,9] [none,none,none,none,some [],some [],some [],some [],some [],some [],none,none,none,none,none,none,some [11,10,9,8,7,6],none,none,some [2],some [3],some [16,15,14,13,12,11],none,none,none,none]) .skip))))) (.rg [jm 21 9 [9],jn 22 (.binN .add (.v 21) (ci 1)) [21],jm 9 22 [22]] [0,1,5,7,8,9])))
/-- spec.l34Asks: function 39 -/
def Qb7 : SFun := { n := 71,res := [.t 6],body := (jq [jn 5 (.box 105 (.v 2)) [2],jn 6 (.mv (.c (.sl 0 8 []))) [6]] [0,1,5] (jq [jn 12 (.litOwn 112 73 8 []) [],jm 7 12 [12]] [0,1,5,7] (jq [jm 13 0 [],jf 14 8 5 [],jl 15 14 [14],jn 16 (.call 81 [.v 13,.v 15]) [13,15],jm 8 16 [16]] [0,1,5,7,8] (.seq (jq [jI 9 0 []] [0,1,5,7,8,9] (.block 0 (.loop Qaj))) (jq [jm 70 7 [7],jm 6 70 [70]] [6] (.gh (.frzE 6) .ret)))))) }
theorem Qh6 : QY Go.Proofs.Tryz.prog 39 Qb7 = true := by kernel_rfl
/-- laws.toHandZone: function 41 -/
def Wx : SFun := { n := 20,res := [.cN 2 5],body := (jq [jn 1 (.box 101 (.v 0)) [0],jn 2 (.alloc 102 [.str ⟨#[]⟩,.int .i64 0,.int .i64 0,.int .i64 0,.int .i64 0]) []] [1,2] (jq [jn 3 (.alloc 103 [.str ⟨#[]⟩,.int .i64 0,.int .i64 0,.int .i64 0,.int .i64 0]) []] [1,2,3] (jq [jf 4 0 1 [],jl 5 4 [4],jf 6 0 3 [],⟨none,.store 1 (.v 6) (.v 5),none,[5,6]⟩] [1,2,3] (jq [jf 7 1 1 [],jl 8 7 [7],jf 9 1 3 [],⟨none,.store 1 (.v 9) (.v 8),none,[8,9]⟩] [1,2,3] (jq [jf 10 2 1 [],jl 11 10 [10],jf 12 2 3 [],⟨none,.store 1 (.v 12) (.v 11),none,[11,12]⟩] [1,2,3] (jq [jf 13 3 1 [],jl 14 13 [13],jf 15 3 3 [],⟨none,.store 1 (.v 15) (.v 14),none,[14,15]⟩] [1,2,3] (jq [jf 16 4 1 [1],jl 17 16 [16],jf 18 4 3 [],⟨none,.store 1 (.v 18) (.v 17),none,[17,18]⟩] [2,3] (jq [jL 19 5 3 [3],⟨none,.store 5 (.v 2) (.v 19),none,[19]⟩] [2] .ret)))))))) }
theorem QeP : QY Go.Proofs.Tryz.prog 41 Wx = true := by kernel_rfl
def Z6 : SCode := (.seq (jq [jm 8 4 [],jm 9 0 [],jn 10 (.lenL (.v 9)) [9],jb 11 .lss 8 10 [8,10]] [0,3,4,11] (.cond (.v 11) .skip (.exit 0))) (.seq (.block 1 (.rg [jm 14 3 [],jm 15 4 [],jm 16 0 [],jm 17 4 [],ja 18 11 16 17 [16,17],jL 19 11 18 [18],jn 20 (.call 83 [.v 19]) [19],ja 21 11 14 15 [14,15],⟨none,.store 11 (.v 21) (.v 20),none,[20,21]⟩] [0,3,4])) (.rg [jm 12 4 [4],jn 13 (.binN .add (.v 12) (ci 1)) [12],jm 4 13 [13]] [0,3,4])))
/-- laws.toHandOwnS: function 42 -/
def Wy : SFun := { n := 23,res := [.t 2],body := (jq [jn 2 (.mv (.c (.sl 0 11 []))) [2]] [0] (jq [jm 5 0 [],jn 6 (.lenL (.v 5)) [5],⟨some 7,.mk 107 71 11 [.str ⟨#[]⟩,.int .i64 0,.int .i64 0,.str ⟨#[]⟩,.int .i64 0,.int .i64 0,.sl 0 6 [],.int .i64 0,.sl 0 6 [],.sl 0 1 [],.bool false] (.v 6),none,[6]⟩,jm 3 7 [7]] [0,3] (.seq (jq [jI 4 0 []] [0,3,4] (.block 0 (.loop Z6))) (jq [jm 22 3 [3],jm 2 22 [22]] [2] (.gh (.frzE 2) .ret))))) }
theorem QeQ : QY Go.Proofs.Tryz.prog 42 Wy = true := by kernel_rfl
def Zm : SCode := (.seq (jq [jm 8 4 [],jm 9 0 [],jn 10 (.lenL (.v 9)) [9],jb 11 .lss 8 10 [8,10]] [0,3,4,11] (.cond (.v 11) .skip (.exit 0))) (.seq (.block 1 (.rg [jm 14 3 [],jm 15 4 [],jm 16 0 [],jm 17 4 [],ja 18 3 16 17 [16,17],jL 19 3 18 [18],jn 20 (.call 84 [.v 19]) [19],ja 21 3 14 15 [14,15],⟨none,.store 3 (.v 21) (.v 20),none,[20,21]⟩] [0,3,4])) (.rg [jm 12 4 [4],jn 13 (.binN .add (.v 12) (ci 1)) [12],jm 4 13 [13]] [0,3,4])))
/-- laws.toHandPartS: function 43 -/
def UZ : SFun := { n := 23,res := [.t 2],body := (jq [jn 2 (.mv (.c (.sl 0 3 []))) [2]] [0] (jq [jm 5 0 [],jn 6 (.lenL (.v 5)) [5],⟨some 7,.mk 107 124 3 [.str ⟨#[]⟩,.int .i64 0,.sl 0 6 []] (.v 6),none,[6]⟩,jm 3 7 [7]] [0,3] (.seq (jq [jI 4 0 []] [0,3,4] (.block 0 (.loop Zm))) (jq [jm 22 3 [3],jm 2 22 [22]] [2] (.gh (.frzE 2) .ret))))) }
theorem Qc4 : QY Go.Proofs.Tryz.prog 43 UZ = true := by kernel_rfl
def Zn : SCode := (.seq (jq [jm 8 4 [],jm 9 0 [],jn 10 (.lenL (.v 9)) [9],jb 11 .lss 8 10 [8,10]] [0,3,4,11] (.cond (.v 11) .skip (.exit 0))) (.seq (.block 1 (.rg [jm 14 3 [],jm 15 4 [],jm 16 0 [],jm 17 4 [],ja 18 2 16 17 [16,17],jL 19 2 18 [18],jn 20 (.call 85 [.v 19]) [19],ja 21 2 14 15 [14,15],⟨none,.store 2 (.v 21) (.v 20),none,[20,21]⟩] [0,3,4])) (.rg [jm 12 4 [4],jn 13 (.binN .add (.v 12) (ci 1)) [12],jm 4 13 [13]] [0,3,4])))
/-- laws.toHandSeenS: function 44 -/
def U0 : SFun := { n := 23,res := [.t 2],body := (jq [jn 2 (.mv (.c (.sl 0 2 []))) [2]] [0] (jq [jm 5 0 [],jn 6 (.lenL (.v 5)) [5],⟨some 7,.mk 107 118 2 [.str ⟨#[]⟩,.int .i64 0] (.v 6),none,[6]⟩,jm 3 7 [7]] [0,3] (.seq (jq [jI 4 0 []] [0,3,4] (.block 0 (.loop Zn))) (jq [jm 22 3 [3],jm 2 22 [22]] [2] (.gh (.frzE 2) .ret))))) }
theorem Qc5 : QY Go.Proofs.Tryz.prog 44 U0 = true := by kernel_rfl
/-- impl.mayHand: function 45 -/
def Qb8 : SFun := { n := 16,res := [.t 6],body := (jq [jn 5 (.box 105 (.v 2)) [2],jn 6 (.mv (.c (.bool false))) [6]] [0,1,5] (jq [jm 7 0 [],jL 8 3 5 [5],jn 9 (.call 72 [.v 7,.v 8]) [7,8],jm 10 9 [9],jt 11 10 (.mv (.v 0)) [0],jt 12 10 (.mv (.v 1)) [1],jt 13 10 (.call 86 [.v 11,.v 12]) [11,12],jt 14 10 (.bin .geq (.v 13) (ci 0)) [13],jn 15 (.pick (.v 10) (.v 14) (.c (.bool false))) [10,14],jm 6 15 [15]] [6] .ret)) }
theorem Qh7 : QY Go.Proofs.Tryz.prog 45 Qb8 = true := by kernel_rfl
/-- laws.eqHandWord: function 47 -/
def Wz : SFun := { n := 46,res := [.t 4],body := (jq [jn 2 (.box 102 (.v 0)) [0],jn 3 (.box 103 (.v 1)) [1],jn 4 (.mv (.c (.bool false))) [4]] [2,3] (.seq (jq [jf 5 0 2 [],jl 6 5 [5],jf 7 0 3 [],jl 8 7 [7],jb 9 .neq 6 8 [6,8]] [2,3,9] (.cond (.v 9) (jq [jn 4 (.mv (.c (.bool false))) []] [4] .ret) .skip)) (.seq (jq [jf 10 1 2 [],jl 11 10 [10],jf 12 1 3 [],jl 13 12 [12],jb 14 .neq 11 13 [11,13]] [2,3,14] (.cond (.v 14) (jq [jn 4 (.mv (.c (.bool false))) []] [4] .ret) .skip)) (.seq (jq [jf 15 2 2 [],jl 16 15 [15],jf 17 2 3 [],jl 18 17 [17],jb 19 .neq 16 18 [16,18]] [2,3,19] (.cond (.v 19) (jq [jn 4 (.mv (.c (.bool false))) []] [4] .ret) .skip)) (.seq (jq [jf 20 3 2 [],jl 21 20 [20],jf 22 3 3 [],jl 23 22 [22],jb 24 .neq 21 23 [21,23]] [2,3,24] (.cond (.v 24) (jq [jn 4 (.mv (.c (.bool false))) []] [4] .ret) .skip)) (.seq (jq [jf 25 4 2 [],jl 26 25 [25],jf 27 4 3 [],jl 28 27 [27],jb 29 .neq 26 28 [26,28]] [2,3,29] (.cond (.v 29) (jq [jn 4 (.mv (.c (.bool false))) []] [4] .ret) .skip)) (.seq (jq [jf 30 5 2 [],jl 31 30 [30],jf 32 5 3 [],jl 33 32 [32],jb 34 .neq 31 33 [31,33]] [2,3,34] (.cond (.v 34) (jq [jn 4 (.mv (.c (.bool false))) []] [4] .ret) .skip)) (.seq (jq [jf 35 6 2 [],jl 36 35 [35],jf 37 6 3 [],jl 38 37 [37],jb 39 .neq 36 38 [36,38]] [2,3,39] (.cond (.v 39) (jq [jn 4 (.mv (.c (.bool false))) []] [4] .ret) .skip)) (.seq (jq [jf 40 7 2 [2],jl 41 40 [40],jf 42 7 3 [3],jl 43 42 [42],jn 44 (.call 27 [.v 41,.v 43]) [41,43],jn 45 (.not (.v 44)) [44]] [45] (.cond (.v 45) (jq [jn 4 (.mv (.c (.bool false))) []] [4] .ret) .skip)) (jq [jn 4 (.mv (.c (.bool true))) []] [4] .ret)))))))))) }
theorem QeR : QY Go.Proofs.Tryz.prog 47 Wz = true := by kernel_rfl
/-- laws.eqHandZone: function 48 -/
def WA : SFun := { n := 30,res := [.t 4],body := (jq [jn 2 (.box 102 (.v 0)) [0],jn 3 (.box 103 (.v 1)) [1],jn 4 (.mv (.c (.bool false))) [4]] [2,3] (.seq (jq [jf 5 0 2 [],jl 6 5 [5],jf 7 0 3 [],jl 8 7 [7],jb 9 .neq 6 8 [6,8]] [2,3,9] (.cond (.v 9) (jq [jn 4 (.mv (.c (.bool false))) []] [4] .ret) .skip)) (.seq (jq [jf 10 1 2 [],jl 11 10 [10],jf 12 1 3 [],jl 13 12 [12],jb 14 .neq 11 13 [11,13]] [2,3,14] (.cond (.v 14) (jq [jn 4 (.mv (.c (.bool false))) []] [4] .ret) .skip)) (.seq (jq [jf 15 2 2 [],jl 16 15 [15],jf 17 2 3 [],jl 18 17 [17],jb 19 .neq 16 18 [16,18]] [2,3,19] (.cond (.v 19) (jq [jn 4 (.mv (.c (.bool false))) []] [4] .ret) .skip)) (.seq (jq [jf 20 3 2 [],jl 21 20 [20],jf 22 3 3 [],jl 23 22 [22],jb 24 .neq 21 23 [21,23]] [2,3,24] (.cond (.v 24) (jq [jn 4 (.mv (.c (.bool false))) []] [4] .ret) .skip)) (.seq (jq [jf 25 4 2 [2],jl 26 25 [25],jf 27 4 3 [3],jl 28 27 [27],jb 29 .neq 26 28 [26,28]] [29] (.cond (.v 29) (jq [jn 4 (.mv (.c (.bool false))) []] [4] .ret) .skip)) (jq [jn 4 (.mv (.c (.bool true))) []] [4] .ret))))))) }
theorem QeS : QY Go.Proofs.Tryz.prog 48 WA = true := by kernel_rfl
def Z7 : SCode := (.seq (jq [jm 11 5 [],jm 12 0 [],jn 13 (.lenL (.v 12)) [12],jb 14 .lss 11 13 [11,13]] [0,1,5,14] (.cond (.v 14) .skip (.exit 0))) (.seq (.block 1 (.seq (.rgd [jm 17 0 [],jm 18 5 [],ja 19 11 17 18 [],jL 20 11 19 [],jm 21 1 [],jm 22 5 [],ja 23 11 21 22 [],jL 24 11 23 [],jn 25 (.call 91 [.v 20,.v 24]) [],jn 26 (.not (.v 25)) []] [0,1,5,26] [none,none,none,none,none,none,none,none,none,none]) (.cond (.v 26) (jq [jn 4 (.mv (.c (.bool false))) []] [4] .ret) .skip))) (.rg [jm 15 5 [5],jn 16 (.binN .add (.v 15) (ci 1)) [15],jm 5 16 [16]] [0,1,5])))
/-- laws.eqHandOwnS: function 49 -/
def WB : SFun := { n := 27,res := [.t 4],body := (jq [jn 4 (.mv (.c (.bool false))) [4]] [0,1] (.seq (jq [jm 6 0 [],jn 7 (.lenL (.v 6)) [6],jm 8 1 [],jn 9 (.lenL (.v 8)) [8],jb 10 .neq 7 9 [7,9]] [0,1,10] (.cond (.v 10) (jq [jn 4 (.mv (.c (.bool false))) []] [4] .ret) .skip)) (.seq (jq [jI 5 0 []] [0,1,5] (.block 0 (.loop Z7))) (jq [jn 4 (.mv (.c (.bool true))) []] [4] .ret)))) }
theorem QeT : QY Go.Proofs.Tryz.prog 49 WB = true := by kernel_rfl
def Zo : SCode := (.seq (jq [jm 11 5 [],jm 12 0 [],jn 13 (.lenL (.v 12)) [12],jb 14 .lss 11 13 [11,13]] [0,1,5,14] (.cond (.v 14) .skip (.exit 0))) (.seq (.block 1 (.seq (.rgd [jm 17 0 [],jm 18 5 [],ja 19 3 17 18 [],jL 20 3 19 [],jm 21 1 [],jm 22 5 [],ja 23 3 21 22 [],jL 24 3 23 [],jn 25 (.call 92 [.v 20,.v 24]) [],jn 26 (.not (.v 25)) []] [0,1,5,26] [none,none,none,none,none,none,none,none,none,none]) (.cond (.v 26) (jq [jn 4 (.mv (.c (.bool false))) []] [4] .ret) .skip))) (.rg [jm 15 5 [5],jn 16 (.binN .add (.v 15) (ci 1)) [15],jm 5 16 [16]] [0,1,5])))
/-- laws.eqHandPartS: function 50 -/
def U1 : SFun := { n := 27,res := [.t 4],body := (jq [jn 4 (.mv (.c (.bool false))) [4]] [0,1] (.seq (jq [jm 6 0 [],jn 7 (.lenL (.v 6)) [6],jm 8 1 [],jn 9 (.lenL (.v 8)) [8],jb 10 .neq 7 9 [7,9]] [0,1,10] (.cond (.v 10) (jq [jn 4 (.mv (.c (.bool false))) []] [4] .ret) .skip)) (.seq (jq [jI 5 0 []] [0,1,5] (.block 0 (.loop Zo))) (jq [jn 4 (.mv (.c (.bool true))) []] [4] .ret)))) }
theorem Qc6 : QY Go.Proofs.Tryz.prog 50 U1 = true := by kernel_rfl
def Zp : SCode := (.seq (jq [jm 11 5 [],jm 12 0 [],jn 13 (.lenL (.v 12)) [12],jb 14 .lss 11 13 [11,13]] [0,1,5,14] (.cond (.v 14) .skip (.exit 0))) (.seq (.block 1 (.seq (.rgd [jm 17 0 [],jm 18 5 [],ja 19 2 17 18 [],jL 20 2 19 [],jm 21 1 [],jm 22 5 [],ja 23 2 21 22 [],jL 24 2 23 [],jn 25 (.call 93 [.v 20,.v 24]) [],jn 26 (.not (.v 25)) []] [0,1,5,26] [none,none,none,none,none,none,none,none,none,none]) (.cond (.v 26) (jq [jn 4 (.mv (.c (.bool false))) []] [4] .ret) .skip))) (.rg [jm 15 5 [5],jn 16 (.binN .add (.v 15) (ci 1)) [15],jm 5 16 [16]] [0,1,5])))
/-- laws.eqHandSeenS: function 51 -/
def U2 : SFun := { n := 27,res := [.t 4],body := (jq [jn 4 (.mv (.c (.bool false))) [4]] [0,1] (.seq (jq [jm 6 0 [],jn 7 (.lenL (.v 6)) [6],jm 8 1 [],jn 9 (.lenL (.v 8)) [8],jb 10 .neq 7 9 [7,9]] [0,1,10] (.cond (.v 10) (jq [jn 4 (.mv (.c (.bool false))) []] [4] .ret) .skip)) (.seq (jq [jI 5 0 []] [0,1,5] (.block 0 (.loop Zp))) (jq [jn 4 (.mv (.c (.bool true))) []] [4] .ret)))) }
theorem Qc7 : QY Go.Proofs.Tryz.prog 51 U2 = true := by kernel_rfl
def WC : SCode := (.seq (jq [jm 6 0 [],jc 7 .gtr 6 0 [6]] [0,3,7] (.cond (.v 7) .skip (.exit 0))) (.block 1 (jq [jm 8 0 [],jn 9 (.binN .rem (.v 8) (ci 10)) [8],jn 10 (.binN .add (ci 48) (.v 9)) [9],jn 11 (.conv .u8 (.v 10)) [10],jn 12 (.lit 5 1 [.v 11]) [11],jn 13 (.b2s (.v 12)) [12],jm 14 3 [3],jb 15 .add 13 14 [13,14],jm 3 15 [15]] [0,3] (.rg [jm 16 0 [0],jn 17 (.binN .quo (.v 16) (ci 10)) [16],jm 0 17 [17]] [0,3]))))
/-- laws.markText: function 52 -/
def Qa0 : SFun := { n := 20,res := [.t 2],body := (jq [⟨some 2,.mv (.c (.str ⟨#[]⟩)),none,[2]⟩] [0] (.seq (jq [jm 4 0 [],jc 5 .leq 4 0 [4]] [0,5] (.cond (.v 5) (jq [⟨some 2,.mv (.c (.str ⟨#[109,48]⟩)),none,[]⟩] [2] .ret) .skip)) (jq [⟨some 3,.mv (.c (.str ⟨#[]⟩)),none,[]⟩] [0,3] (.seq (.block 0 (.loop WC)) (jq [jm 18 3 [3],⟨some 19,.bin .add (.c (.str ⟨#[109]⟩)) (.v 18),none,[18]⟩,jm 2 19 [19]] [2] .ret))))) }
theorem Qg0 : QY Go.Proofs.Tryz.prog 52 Qa0 = true := by kernel_rfl
def KL : SCode := (.seq (jq [jm 6 5 [],jm 7 0 [],jn 8 (.lenL (.v 7)) [7],jb 9 .lss 6 8 [6,8]] [0,1,5,9] (.cond (.v 9) .skip (.exit 0))) (.seq (.block 1 (jq [jm 12 0 [],jm 13 5 [],jm 14 1 [],jn 15 (.call 52 [.v 14]) [14],ja 16 11 12 13 [12,13],jf 17 0 16 [16],⟨none,.store 1 (.v 17) (.v 15),none,[15,17]⟩] [0,1,5] (jq [jm 18 1 [1],jn 19 (.binN .add (.v 18) (ci 1)) [18],jm 1 19 [19]] [0,1,5] (jq [jm 20 0 [],jm 21 5 [],jm 22 1 [],ja 23 11 20 21 [20,21],jf 24 1 23 [23],⟨none,.store 1 (.v 24) (.v 22),none,[22,24]⟩] [0,1,5] (jq [jm 25 1 [1],jn 26 (.binN .add (.v 25) (ci 1)) [25],jm 1 26 [26]] [0,1,5] (jq [jm 27 0 [],jm 28 5 [],jm 29 1 [],ja 30 11 27 28 [27,28],jf 31 2 30 [30],⟨none,.store 1 (.v 31) (.v 29),none,[29,31]⟩] [0,1,5] (jq [jm 32 1 [1],jn 33 (.binN .add (.v 32) (ci 1)) [32],jm 1 33 [33]] [0,1,5] (jq [jm 34 0 [],jm 35 5 [],jm 36 1 [],jn 37 (.call 52 [.v 36]) [36],ja 38 11 34 35 [34,35],jf 39 3 38 [38],⟨none,.store 1 (.v 39) (.v 37),none,[37,39]⟩] [0,1,5] (jq [jm 40 1 [1],jn 41 (.binN .add (.v 40) (ci 1)) [40],jm 1 41 [41]] [0,1,5] (jq [jm 42 0 [],jm 43 5 [],jm 44 1 [],ja 45 11 42 43 [42,43],jf 46 4 45 [45],⟨none,.store 1 (.v 46) (.v 44),none,[44,46]⟩] [0,1,5] (jq [jm 47 1 [1],jn 48 (.binN .add (.v 47) (ci 1)) [47],jm 1 48 [48]] [0,1,5] (jq [jm 49 0 [],jm 50 5 [],jm 51 1 [],ja 52 11 49 50 [49,50],jf 53 5 52 [52],⟨none,.store 1 (.v 53) (.v 51),none,[51,53]⟩] [0,1,5] (jq [jm 54 1 [1],jn 55 (.binN .add (.v 54) (ci 1)) [54],jm 1 55 [55]] [0,1,5] (jq [jm 56 0 [],jm 57 5 [],ja 58 11 56 57 [56,57],jf 59 6 58 [58],jl 60 59 [59],jm 61 1 [1],jn 62 (.call 28 [.v 60,.v 61]) [60,61],jm 1 62 [62]] [0,1,5] (jq [jm 63 0 [],jm 64 5 [],jm 65 1 [],ja 66 11 63 64 [63,64],jf 67 7 66 [66],⟨none,.store 1 (.v 67) (.v 65),none,[65,67]⟩] [0,1,5] (jq [jm 68 1 [1],jn 69 (.binN .add (.v 68) (ci 1)) [68],jm 1 69 [69]] [0,1,5] (jq [jm 70 0 [],jm 71 5 [],ja 72 11 70 71 [70,71],jf 73 8 72 [72],jl 74 73 [73],jm 75 1 [1],jn 76 (.call 28 [.v 74,.v 75]) [74,75],jm 1 76 [76]] [0,1,5] (jq [jm 77 0 [],jm 78 5 [],ja 79 11 77 78 [77,78],jf 80 9 79 [79],jl 81 80 [80],jm 82 1 [1],jn 83 (.call 94 [.v 81,.v 82]) [81,82],jm 1 83 [83]] [0,1,5] (jq [jm 84 0 [],jm 85 5 [],jm 86 1 [],jn 87 (.binN .rem (.v 86) (ci 3)) [86],jc 88 .eql 87 0 [87],ja 89 11 84 85 [84,85],jf 90 10 89 [89],⟨none,.store 1 (.v 90) (.v 88),none,[88,90]⟩] [0,1,5] (.rg [jm 91 1 [1],jn 92 (.binN .add (.v 91) (ci 1)) [91],jm 1 92 [92]] [0,1,5])))))))))))))))))))) (.rg [jm 10 5 [5],jn 11 (.binN .add (.v 10) (ci 1)) [10],jm 5 11 [11]] [0,1,5])))
/-- laws.markHandOwnS: function 53 -/
def Gn : SFun := { n := 94,res := [.t 4],body := (jq [jI 4 0 [4]] [0,1] (.seq (jq [jI 5 0 []] [0,1,5] (.block 0 (.loop KL))) (jq [jm 93 1 [1],jm 4 93 [93]] [4] .ret))) }
theorem Z8 : QY Go.Proofs.Tryz.prog 53 Gn = true := by kernel_rfl
def KE : SCode := (.seq (jq [jm 6 5 [],jm 7 0 [],jn 8 (.lenL (.v 7)) [7],jb 9 .lss 6 8 [6,8]] [0,1,5,9] (.cond (.v 9) .skip (.exit 0))) (.seq (.block 1 (jq [jm 12 0 [],jm 13 5 [],jm 14 1 [],jn 15 (.call 52 [.v 14]) [14],ja 16 3 12 13 [12,13],jf 17 0 16 [16],⟨none,.store 1 (.v 17) (.v 15),none,[15,17]⟩] [0,1,5] (jq [jm 18 1 [1],jn 19 (.binN .add (.v 18) (ci 1)) [18],jm 1 19 [19]] [0,1,5] (jq [jm 20 0 [],jm 21 5 [],jm 22 1 [],ja 23 3 20 21 [20,21],jf 24 1 23 [23],⟨none,.store 1 (.v 24) (.v 22),none,[22,24]⟩] [0,1,5] (jq [jm 25 1 [1],jn 26 (.binN .add (.v 25) (ci 1)) [25],jm 1 26 [26]] [0,1,5] (.rg [jm 27 0 [],jm 28 5 [],ja 29 3 27 28 [27,28],jf 30 2 29 [29],jl 31 30 [30],jm 32 1 [1],jn 33 (.call 28 [.v 31,.v 32]) [31,32],jm 1 33 [33]] [0,1,5])))))) (.rg [jm 10 5 [5],jn 11 (.binN .add (.v 10) (ci 1)) [10],jm 5 11 [11]] [0,1,5])))
/-- laws.markHandPartS: function 54 -/
def Y2 : SFun := { n := 35,res := [.t 4],body := (jq [jI 4 0 [4]] [0,1] (.seq (jq [jI 5 0 []] [0,1,5] (.block 0 (.loop KE))) (jq [jm 34 1 [1],jm 4 34 [34]] [4] .ret))) }
theorem Zq : QY Go.Proofs.Tryz.prog 54 Y2 = true := by kernel_rfl
def KF : SCode := (.seq (jq [jm 6 5 [],jm 7 0 [],jn 8 (.lenL (.v 7)) [7],jb 9 .lss 6 8 [6,8]] [0,1,5,9] (.cond (.v 9) .skip (.exit 0))) (.seq (.block 1 (jq [jm 12 0 [],jm 13 5 [],jm 14 1 [],jn 15 (.call 52 [.v 14]) [14],ja 16 2 12 13 [12,13],jf 17 0 16 [16],⟨none,.store 1 (.v 17) (.v 15),none,[15,17]⟩] [0,1,5] (jq [jm 18 1 [1],jn 19 (.binN .add (.v 18) (ci 1)) [18],jm 1 19 [19]] [0,1,5] (jq [jm 20 0 [],jm 21 5 [],jm 22 1 [],ja 23 2 20 21 [20,21],jf 24 1 23 [23],⟨none,.store 1 (.v 24) (.v 22),none,[22,24]⟩] [0,1,5] (.rg [jm 25 1 [1],jn 26 (.binN .add (.v 25) (ci 1)) [25],jm 1 26 [26]] [0,1,5]))))) (.rg [jm 10 5 [5],jn 11 (.binN .add (.v 10) (ci 1)) [10],jm 5 11 [11]] [0,1,5])))
/-- laws.markHandSeenS: function 55 -/
def Y3 : SFun := { n := 28,res := [.t 4],body := (jq [jI 4 0 [4]] [0,1] (.seq (jq [jI 5 0 []] [0,1,5] (.block 0 (.loop KF))) (jq [jm 27 1 [1],jm 4 27 [27]] [4] .ret))) }
theorem Zr : QY Go.Proofs.Tryz.prog 55 Y3 = true := by kernel_rfl
def YA : SCode := (.seq (jq [jm 6 5 [],jm 7 0 [],jn 8 (.lenL (.v 7)) [7],jb 9 .lss 6 8 [6,8]] [0,1,5,9] (.cond (.v 9) .skip (.exit 0))) (.seq (.block 1 (.seq (jq [jm 12 0 [],jm 13 5 [],ja 14 6 12 13 [12,13],jf 15 0 14 [14],jl 16 15 [15],jm 17 1 [],jb 18 .neq 16 17 [16,17]] [0,1,5,18] (.cond (.v 18) (jq [jn 4 (.mv (.c (.int .i64 (-1)))) []] [4] .ret) .skip)) (jq [jm 19 1 [1],jn 20 (.binN .add (.v 19) (ci 1)) [19],jm 1 20 [20]] [0,1,5] (.seq (jq [jm 21 0 [],jm 22 5 [],ja 23 6 21 22 [21,22],jf 24 1 23 [23],jl 25 24 [24],jm 26 1 [],jb 27 .neq 25 26 [25,26]] [0,1,5,27] (.cond (.v 27) (jq [jn 4 (.mv (.c (.int .i64 (-1)))) []] [4] .ret) .skip)) (jq [jm 28 1 [1],jn 29 (.binN .add (.v 28) (ci 1)) [28],jm 1 29 [29]] [0,1,5] (.seq (jq [jm 30 0 [],jm 31 5 [],ja 32 6 30 31 [30,31],jf 33 2 32 [32],jl 34 33 [33],jm 35 1 [],jb 36 .neq 34 35 [34,35]] [0,1,5,36] (.cond (.v 36) (jq [jn 4 (.mv (.c (.int .i64 (-1)))) []] [4] .ret) .skip)) (jq [jm 37 1 [1],jn 38 (.binN .add (.v 37) (ci 1)) [37],jm 1 38 [38]] [0,1,5] (.seq (jq [jm 39 0 [],jm 40 5 [],ja 41 6 39 40 [39,40],jf 42 3 41 [41],jl 43 42 [42],jm 44 1 [],jb 45 .neq 43 44 [43,44]] [0,1,5,45] (.cond (.v 45) (jq [jn 4 (.mv (.c (.int .i64 (-1)))) []] [4] .ret) .skip)) (jq [jm 46 1 [1],jn 47 (.binN .add (.v 46) (ci 1)) [46],jm 1 47 [47]] [0,1,5] (.seq (jq [jm 48 0 [],jm 49 5 [],ja 50 6 48 49 [48,49],jf 51 4 50 [50],jl 52 51 [51],jm 53 1 [],jb 54 .neq 52 53 [52,53]] [0,1,5,54] (.cond (.v 54) (jq [jn 4 (.mv (.c (.int .i64 (-1)))) []] [4] .ret) .skip)) (jq [jm 55 1 [1],jn 56 (.binN .add (.v 55) (ci 1)) [55],jm 1 56 [56]] [0,1,5] (.seq (jq [jm 57 0 [],jm 58 5 [],ja 59 6 57 58 [57,58],jf 60 5 59 [59],jl 61 60 [60],jm 62 1 [],jb 63 .neq 61 62 [61,62]] [0,1,5,63] (.cond (.v 63) (jq [jn 4 (.mv (.c (.int .i64 (-1)))) []] [4] .ret) .skip)) (.rg [jm 64 1 [1],jn 65 (.binN .add (.v 64) (ci 1)) [64],jm 1 65 [65]] [0,1,5]))))))))))))) (.rg [jm 10 5 [5],jn 11 (.binN .add (.v 10) (ci 1)) [10],jm 5 11 [11]] [0,1,5])))
/-- laws.heldHandBoxS: function 56 -/
def Z9 : SFun := { n := 67,res := [.t 4],body := (jq [jI 4 0 [4]] [0,1] (.seq (jq [jI 5 0 []] [0,1,5] (.block 0 (.loop YA))) (jq [jm 66 1 [1],jm 4 66 [66]] [4] .ret))) }
theorem Qcu : QY Go.Proofs.Tryz.prog 56 Z9 = true := by kernel_rfl
def Qb9 : SCode := (.seq (jq [jm 6 5 [],jf 7 0 2 [],jl 8 7 [7],jn 9 (.lenL (.v 8)) [8],jb 10 .lss 6 9 [6,9]] [1,2,5,10] (.cond (.v 10) .skip (.exit 0))) (.seq (.block 1 (jq [jf 13 0 2 [],jl 14 13 [13],jm 15 5 [],ja 16 11 14 15 [14,15],jf 17 0 16 [16],jl 18 17 [17],jm 19 1 [],jb 20 .eql 18 19 [18,19]] [1,2,5,20] (.cond (.v 20) (jq [jm 21 5 [5],jm 4 21 [21]] [4] .ret) .skip))) (.rg [jm 11 5 [5],jn 12 (.binN .add (.v 11) (ci 1)) [11],jm 5 12 [12]] [1,2,5])))
/-- spec.l33At: function 58 -/
def QfA : SFun := { n := 22,res := [.t 4],body := (jq [jn 2 (.box 102 (.v 0)) [0],jI 4 0 [4]] [1,2] (.seq (jq [jI 5 0 []] [1,2,5] (.block 0 (.loop Qb9))) (jq [jn 4 (.mv (.c (.int .i64 (-1)))) []] [4] .ret))) }
theorem Qkp : QY Go.Proofs.Tryz.prog 58 QfA = true := by kernel_rfl
def YB : SCode := (.seq (jq [jm 6 5 [],jm 7 0 [],jn 8 (.lenL (.v 7)) [7],jb 9 .lss 6 8 [6,8]] [0,1,5,9] (.cond (.v 9) .skip (.exit 0))) (.seq (.block 1 (.seq (.seq (.rgd [jm 12 0 [],jm 13 5 [],ja 14 11 12 13 [],jf 15 0 14 [],jl 16 15 [],jm 17 1 [],jn 18 (.call 52 [.v 17]) [],jb 19 .neq 16 18 []] [0,1,5,19] [none,none,some [],some [],some [],none,some [3,2,1],none]) (.cond (.v 19) (jq [jn 4 (.mv (.c (.int .i64 (-1)))) []] [4] .ret) .skip)) (jq [jm 20 1 [1],jn 21 (.binN .add (.v 20) (ci 1)) [20],jm 1 21 [21]] [0,1,5] (.seq (jq [jm 22 0 [],jm 23 5 [],ja 24 11 22 23 [22,23],jf 25 1 24 [24],jl 26 25 [25],jm 27 1 [],jb 28 .neq 26 27 [26,27]] [0,1,5,28] (.cond (.v 28) (jq [jn 4 (.mv (.c (.int .i64 (-1)))) []] [4] .ret) .skip)) (jq [jm 29 1 [1],jn 30 (.binN .add (.v 29) (ci 1)) [29],jm 1 30 [30]] [0,1,5] (.seq (jq [jm 31 0 [],jm 32 5 [],ja 33 11 31 32 [31,32],jf 34 2 33 [33],jl 35 34 [34],jm 36 1 [],jb 37 .neq 35 36 [35,36]] [0,1,5,37] (.cond (.v 37) (jq [jn 4 (.mv (.c (.int .i64 (-1)))) []] [4] .ret) .skip)) (jq [jm 38 1 [1],jn 39 (.binN .add (.v 38) (ci 1)) [38],jm 1 39 [39]] [0,1,5] (.seq (.seq (.rgd [jm 40 0 [],jm 41 5 [],ja 42 11 40 41 [],jf 43 3 42 [],jl 44 43 [],jm 45 1 [],jn 46 (.call 52 [.v 45]) [],jb 47 .neq 44 46 []] [0,1,5,47] [none,none,some [],some [],some [],none,some [3,2,1],none]) (.cond (.v 47) (jq [jn 4 (.mv (.c (.int .i64 (-1)))) []] [4] .ret) .skip)) (jq [jm 48 1 [1],jn 49 (.binN .add (.v 48) (ci 1)) [48],jm 1 49 [49]] [0,1,5] (.seq (jq [jm 50 0 [],jm 51 5 [],ja 52 11 50 51 [50,51],jf 53 4 52 [52],jl 54 53 [53],jm 55 1 [],jb 56 .neq 54 55 [54,55]] [0,1,5,56] (.cond (.v 56) (jq [jn 4 (.mv (.c (.int .i64 (-1)))) []] [4] .ret) .skip)) (jq [jm 57 1 [1],jn 58 (.binN .add (.v 57) (ci 1)) [57],jm 1 58 [58]] [0,1,5] (.seq (jq [jm 59 0 [],jm 60 5 [],ja 61 11 59 60 [59,60],jf 62 5 61 [61],jl 63 62 [62],jm 64 1 [],jb 65 .neq 63 64 [63,64]] [0,1,5,65] (.cond (.v 65) (jq [jn 4 (.mv (.c (.int .i64 (-1)))) []] [4] .ret) .skip)) (jq [jm 66 1 [1],jn 67 (.binN .add (.v 66) (ci 1)) [66],jm 1 67 [67]] [0,1,5] (jq [jm 68 0 [],jm 69 5 [],ja 70 11 68 69 [68,69],jf 71 6 70 [70],jl 72 71 [71],jm 73 1 [1],jn 74 (.call 56 [.v 72,.v 73]) [72,73],jm 1 74 [74]] [0,1,5] (.seq (jq [jm 75 1 [],jc 76 .lss 75 0 [75]] [0,1,5,76] (.cond (.v 76) (jq [jn 4 (.mv (.c (.int .i64 (-1)))) []] [4] .ret) .skip)) (.seq (jq [jm 77 0 [],jm 78 5 [],ja 79 11 77 78 [77,78],jf 80 7 79 [79],jl 81 80 [80],jm 82 1 [],jb 83 .neq 81 82 [81,82]] [0,1,5,83] (.cond (.v 83) (jq [jn 4 (.mv (.c (.int .i64 (-1)))) []] [4] .ret) .skip)) (jq [jm 84 1 [1],jn 85 (.binN .add (.v 84) (ci 1)) [84],jm 1 85 [85]] [0,1,5] (jq [jm 86 0 [],jm 87 5 [],ja 88 11 86 87 [86,87],jf 89 8 88 [88],jl 90 89 [89],jm 91 1 [1],jn 92 (.call 56 [.v 90,.v 91]) [90,91],jm 1 92 [92]] [0,1,5] (.seq (jq [jm 93 1 [],jc 94 .lss 93 0 [93]] [0,1,5,94] (.cond (.v 94) (jq [jn 4 (.mv (.c (.int .i64 (-1)))) []] [4] .ret) .skip)) (jq [jm 95 0 [],jm 96 5 [],ja 97 11 95 96 [95,96],jf 98 9 97 [97],jl 99 98 [98],jm 100 1 [1],jn 101 (.call 97 [.v 99,.v 100]) [99,100],jm 1 101 [101]] [0,1,5] (.seq (jq [jm 102 1 [],jc 103 .lss 102 0 [102]] [0,1,5,103] (.cond (.v 103) (jq [jn 4 (.mv (.c (.int .i64 (-1)))) []] [4] .ret) .skip)) (.seq (jq [jm 104 0 [],jm 105 5 [],ja 106 11 104 105 [104,105],jf 107 10 106 [106],jl 108 107 [107],jm 109 1 [],jn 110 (.binN .rem (.v 109) (ci 3)) [109],jc 111 .eql 110 0 [110],jn 112 (.eqB true (.v 108) (.v 111)) [108,111]] [0,1,5,112] (.cond (.v 112) (jq [jn 4 (.mv (.c (.int .i64 (-1)))) []] [4] .ret) .skip)) (.rg [jm 113 1 [1],jn 114 (.binN .add (.v 113) (ci 1)) [113],jm 1 114 [114]] [0,1,5]))))))))))))))))))))))) (.rg [jm 10 5 [5],jn 11 (.binN .add (.v 10) (ci 1)) [10],jm 5 11 [11]] [0,1,5])))
/-- laws.heldHandOwnS: function 62 -/
def Ua : SFun := { n := 116,res := [.t 4],body := (jq [jI 4 0 [4]] [0,1] (.seq (jq [jI 5 0 []] [0,1,5] (.block 0 (.loop YB))) (jq [jm 115 1 [1],jm 4 115 [115]] [4] .ret))) }
theorem Qcv : QY Go.Proofs.Tryz.prog 62 Ua = true := by kernel_rfl
def Yl : SCode := (.seq (jq [jm 6 5 [],jm 7 0 [],jn 8 (.lenL (.v 7)) [7],jb 9 .lss 6 8 [6,8]] [0,1,5,9] (.cond (.v 9) .skip (.exit 0))) (.seq (.block 1 (.seq (.seq (.rgd [jm 12 0 [],jm 13 5 [],ja 14 3 12 13 [],jf 15 0 14 [],jl 16 15 [],jm 17 1 [],jn 18 (.call 52 [.v 17]) [],jb 19 .neq 16 18 []] [0,1,5,19] [none,none,some [],some [],some [],none,some [3,2,1],none]) (.cond (.v 19) (jq [jn 4 (.mv (.c (.int .i64 (-1)))) []] [4] .ret) .skip)) (jq [jm 20 1 [1],jn 21 (.binN .add (.v 20) (ci 1)) [20],jm 1 21 [21]] [0,1,5] (.seq (jq [jm 22 0 [],jm 23 5 [],ja 24 3 22 23 [22,23],jf 25 1 24 [24],jl 26 25 [25],jm 27 1 [],jb 28 .neq 26 27 [26,27]] [0,1,5,28] (.cond (.v 28) (jq [jn 4 (.mv (.c (.int .i64 (-1)))) []] [4] .ret) .skip)) (jq [jm 29 1 [1],jn 30 (.binN .add (.v 29) (ci 1)) [29],jm 1 30 [30]] [0,1,5] (jq [jm 31 0 [],jm 32 5 [],ja 33 3 31 32 [31,32],jf 34 2 33 [33],jl 35 34 [34],jm 36 1 [1],jn 37 (.call 56 [.v 35,.v 36]) [35,36],jm 1 37 [37]] [0,1,5] (jq [jm 38 1 [],jc 39 .lss 38 0 [38]] [0,1,5,39] (.cond (.v 39) (jq [jn 4 (.mv (.c (.int .i64 (-1)))) []] [4] .ret) .skip)))))))) (.rg [jm 10 5 [5],jn 11 (.binN .add (.v 10) (ci 1)) [10],jm 5 11 [11]] [0,1,5])))
/-- laws.heldHandPartS: function 63 -/
def Zs : SFun := { n := 41,res := [.t 4],body := (jq [jI 4 0 [4]] [0,1] (.seq (jq [jI 5 0 []] [0,1,5] (.block 0 (.loop Yl))) (jq [jm 40 1 [1],jm 4 40 [40]] [4] .ret))) }
theorem QbX : QY Go.Proofs.Tryz.prog 63 Zs = true := by kernel_rfl
def Ym : SCode := (.seq (jq [jm 6 5 [],jm 7 0 [],jn 8 (.lenL (.v 7)) [7],jb 9 .lss 6 8 [6,8]] [0,1,5,9] (.cond (.v 9) .skip (.exit 0))) (.seq (.block 1 (.seq (.seq (.rgd [jm 12 0 [],jm 13 5 [],ja 14 2 12 13 [],jf 15 0 14 [],jl 16 15 [],jm 17 1 [],jn 18 (.call 52 [.v 17]) [],jb 19 .neq 16 18 []] [0,1,5,19] [none,none,some [],some [],some [],none,some [3,2,1],none]) (.cond (.v 19) (jq [jn 4 (.mv (.c (.int .i64 (-1)))) []] [4] .ret) .skip)) (jq [jm 20 1 [1],jn 21 (.binN .add (.v 20) (ci 1)) [20],jm 1 21 [21]] [0,1,5] (.seq (jq [jm 22 0 [],jm 23 5 [],ja 24 2 22 23 [22,23],jf 25 1 24 [24],jl 26 25 [25],jm 27 1 [],jb 28 .neq 26 27 [26,27]] [0,1,5,28] (.cond (.v 28) (jq [jn 4 (.mv (.c (.int .i64 (-1)))) []] [4] .ret) .skip)) (.rg [jm 29 1 [1],jn 30 (.binN .add (.v 29) (ci 1)) [29],jm 1 30 [30]] [0,1,5]))))) (.rg [jm 10 5 [5],jn 11 (.binN .add (.v 10) (ci 1)) [10],jm 5 11 [11]] [0,1,5])))
/-- laws.heldHandSeenS: function 64 -/
def Zt : SFun := { n := 32,res := [.t 4],body := (jq [jI 4 0 [4]] [0,1] (.seq (jq [jI 5 0 []] [0,1,5] (.block 0 (.loop Ym))) (jq [jm 31 1 [1],jm 4 31 [31]] [4] .ret))) }
theorem QbY : QY Go.Proofs.Tryz.prog 64 Zt = true := by kernel_rfl
def Ub : SCode := (.seq (jq [jm 23 7 [],jm 24 0 [],jn 25 (.lenL (.v 24)) [24],jb 26 .lss 23 25 [23,25]] [0,1,5,6,7,26] (.cond (.v 26) .skip (.exit 2))) (.seq (.block 3 (.rgd [jm 29 6 [],jm 30 29 [],jM 31 30 0 [],jM 32 30 7 [],jh 33 30 (.iaddr 5 (.v 31) (.v 32)) [],jh 34 30 (.loadN 5 (.v 33)) [],jM 35 30 1 [],jM 36 30 5 [],jh 37 30 (.iaddr 6 (.v 35) (.v 36)) [],jh 38 30 (.loadN 6 (.v 37)) [],jh 39 30 (.call 98 [.v 34,.v 38]) [],jp 40 30 39 [],jm 6 40 []] [0,1,5,6,7] [none,none,none,none,none,none,none,none,none,none,none,none,none])) (.rg [jm 27 7 [7],jn 28 (.binN .add (.v 27) (ci 1)) [27],jm 7 28 [28]] [0,1,5,6,7])))
def Uc : SCode := (.seq (jq [jm 17 5 [],jm 18 1 [],jn 19 (.lenL (.v 18)) [18],jb 20 .lss 17 19 [17,19]] [0,1,5,20] (.cond (.v 20) .skip (.exit 0))) (.seq (.block 1 (jq [jn 6 (.mv (.c (.bool false))) []] [0,1,5,6] (.seq (jq [jI 7 0 []] [0,1,5,6,7] (.block 2 (.loop Ub))) (jq [jm 41 6 [6],jn 42 (.not (.v 41)) [41],jm 43 42 [42],jM 44 43 1 [],jM 45 43 5 [],jh 46 43 (.iaddr 6 (.v 44) (.v 45)) [44,45],jh 47 43 (.loadN 6 (.v 46)) [46],jh 48 43 (.call 99 [.v 47]) [47],jh 49 43 (.not (.v 48)) [48],jp 50 43 49 [43,49]] [0,1,5,50] (.cond (.v 50) (jq [jn 4 (.mv (.c (.bool false))) []] [4] .ret) .skip))))) (.rg [jm 21 5 [5],jn 22 (.binN .add (.v 21) (ci 1)) [21],jm 5 22 [22]] [0,1,5])))
/-- spec.HandTubeOk: function 65 -/
def WD : SFun := { n := 51,res := [.t 4],body := (jq [jn 4 (.mv (.c (.bool false))) [4]] [0,1] (.seq (jq [jm 8 0 [],jn 9 (.call 77 [.v 8]) [8],jn 10 (.not (.v 9)) [9],jm 11 10 [10],jM 12 11 1 [],jh 13 11 (.lenL (.v 12)) [12],jh 14 11 (.call 80 [.v 13,.c (.int .i64 1),.c (.int .i64 20)]) [13],jh 15 11 (.not (.v 14)) [14],jp 16 11 15 [11,15]] [0,1,16] (.cond (.v 16) (jq [jn 4 (.mv (.c (.bool false))) []] [4] .ret) .skip)) (.seq (jq [jI 5 0 []] [0,1,5] (.block 0 (.loop Uc))) (jq [jn 4 (.mv (.c (.bool true))) []] [4] .ret)))) }
theorem QeU : QY Go.Proofs.Tryz.prog 65 WD = true := by kernel_rfl
/-- spec.l31Tube: function 66 -/
def Qca : SFun := { n := 6,res := [.t 2],body := (jq [jn 2 (.mv (.c (.sl 0 6 []))) [2]] [0] (jq [jn 3 (.litOwn 103 100 6 []) [],jm 4 0 [0],jn 5 (.app 103 100 6 (.v 3) (.v 4)) [3,4],jm 2 5 [5]] [2] (.gh (.frzE 2) .ret))) }
theorem Qh8 : QY Go.Proofs.Tryz.prog 66 Qca = true := by kernel_rfl
/-- laws.toHandBox: function 67 -/
def Qak : SFun := { n := 23,res := [.cN 2 6],body := (jq [jn 1 (.box 101 (.v 0)) [0],jn 2 (.alloc 102 [.int .i64 0,.int .i64 0,.int .i64 0,.int .i64 0,.int .i64 0,.int .i64 0]) []] [1,2] (jq [jn 3 (.alloc 103 [.int .i64 0,.int .i64 0,.int .i64 0,.int .i64 0,.int .i64 0,.int .i64 0]) []] [1,2,3] (jq [jf 4 0 1 [],jl 5 4 [4],jf 6 0 3 [],⟨none,.store 1 (.v 6) (.v 5),none,[5,6]⟩] [1,2,3] (jq [jf 7 1 1 [],jl 8 7 [7],jf 9 1 3 [],⟨none,.store 1 (.v 9) (.v 8),none,[8,9]⟩] [1,2,3] (jq [jf 10 2 1 [],jl 11 10 [10],jf 12 2 3 [],⟨none,.store 1 (.v 12) (.v 11),none,[11,12]⟩] [1,2,3] (jq [jf 13 3 1 [],jl 14 13 [13],jf 15 3 3 [],⟨none,.store 1 (.v 15) (.v 14),none,[14,15]⟩] [1,2,3] (jq [jf 16 4 1 [],jl 17 16 [16],jf 18 4 3 [],⟨none,.store 1 (.v 18) (.v 17),none,[17,18]⟩] [1,2,3] (jq [jf 19 5 1 [1],jl 20 19 [19],jf 21 5 3 [],⟨none,.store 1 (.v 21) (.v 20),none,[20,21]⟩] [2,3] (jq [jL 22 6 3 [3],⟨none,.store 6 (.v 2) (.v 22),none,[22]⟩] [2] .ret))))))))) }
theorem QfK : QY Go.Proofs.Tryz.prog 67 Qak = true := by kernel_rfl
/-- laws.eqHandBox: function 69 -/
def Qal : SFun := { n := 35,res := [.t 4],body := (jq [jn 2 (.box 102 (.v 0)) [0],jn 3 (.box 103 (.v 1)) [1],jn 4 (.mv (.c (.bool false))) [4]] [2,3] (.seq (jq [jf 5 0 2 [],jl 6 5 [5],jf 7 0 3 [],jl 8 7 [7],jb 9 .neq 6 8 [6,8]] [2,3,9] (.cond (.v 9) (jq [jn 4 (.mv (.c (.bool false))) []] [4] .ret) .skip)) (.seq (jq [jf 10 1 2 [],jl 11 10 [10],jf 12 1 3 [],jl 13 12 [12],jb 14 .neq 11 13 [11,13]] [2,3,14] (.cond (.v 14) (jq [jn 4 (.mv (.c (.bool false))) []] [4] .ret) .skip)) (.seq (jq [jf 15 2 2 [],jl 16 15 [15],jf 17 2 3 [],jl 18 17 [17],jb 19 .neq 16 18 [16,18]] [2,3,19] (.cond (.v 19) (jq [jn 4 (.mv (.c (.bool false))) []] [4] .ret) .skip)) (.seq (jq [jf 20 3 2 [],jl 21 20 [20],jf 22 3 3 [],jl 23 22 [22],jb 24 .neq 21 23 [21,23]] [2,3,24] (.cond (.v 24) (jq [jn 4 (.mv (.c (.bool false))) []] [4] .ret) .skip)) (.seq (jq [jf 25 4 2 [],jl 26 25 [25],jf 27 4 3 [],jl 28 27 [27],jb 29 .neq 26 28 [26,28]] [2,3,29] (.cond (.v 29) (jq [jn 4 (.mv (.c (.bool false))) []] [4] .ret) .skip)) (.seq (jq [jf 30 5 2 [2],jl 31 30 [30],jf 32 5 3 [3],jl 33 32 [32],jb 34 .neq 31 33 [31,33]] [34] (.cond (.v 34) (jq [jn 4 (.mv (.c (.bool false))) []] [4] .ret) .skip)) (jq [jn 4 (.mv (.c (.bool true))) []] [4] .ret)))))))) }
theorem QfL : QY Go.Proofs.Tryz.prog 69 Qal = true := by kernel_rfl
def U3 : SCode := (.seq (jq [jm 9 3 [],jm 10 0 [],jn 11 (.lenS (.v 10)) [10],jb 12 .lss 9 11 [9,11]] [0,3,12] (.cond (.v 12) .skip (.exit 0))) (.seq (.block 1 (jq [jm 15 0 [],jm 16 3 [],jn 17 (.istr (.v 15) (.v 16)) [15,16],jm 4 17 [17]] [0,3,4] (jq [jm 18 4 [],jn 19 (.bin .geq (.v 18) (.c (.int .u8 97))) [18],jm 20 19 [19],jt 21 20 (.mv (.v 4)) [],jt 22 20 (.bin .leq (.v 21) (.c (.int .u8 122))) [21],jn 23 (.pick (.v 20) (.v 22) (.c (.bool false))) [20,22],jm 24 23 [23],jM 25 24 4 [],jh 26 24 (.bin .geq (.v 25) (.c (.int .u8 48))) [25],jM 27 24 26 [26],jt 28 27 (.mv (.v 4)) [],jt 29 27 (.bin .leq (.v 28) (.c (.int .u8 57))) [28],jh 30 24 (.pick (.v 27) (.v 29) (.c (.bool false))) [27,29],jp 31 24 30 [24,30],jm 32 31 [31],jM 33 32 4 [4],jh 34 32 (.bin .eql (.v 33) (.c (.int .u8 45))) [33],jp 35 32 34 [32,34],jn 36 (.not (.v 35)) [35]] [0,3,36] (.cond (.v 36) (jq [jn 2 (.mv (.c (.bool false))) []] [2] .ret) .skip)))) (.rg [jm 13 3 [3],jn 14 (.binN .add (.v 13) (ci 1)) [13],jm 3 14 [14]] [0,3])))
/-- spec.l31NameOk: function 70 -/
def Qam : SFun := { n := 37,res := [.t 2],body := (jq [jn 2 (.mv (.c (.bool false))) [2]] [0] (.seq (jq [jm 5 0 [],jn 6 (.lenS (.v 5)) [5],jn 7 (.call 80 [.v 6,.c (.int .i64 1),.c (.int .i64 8)]) [6],jn 8 (.not (.v 7)) [7]] [0,8] (.cond (.v 8) (jq [jn 2 (.mv (.c (.bool false))) []] [2] .ret) .skip)) (.seq (jq [jI 3 0 []] [0,3] (.block 0 (.loop U3))) (jq [jn 2 (.mv (.c (.bool true))) []] [2] .ret)))) }
theorem QfM : QY Go.Proofs.Tryz.prog 70 Qam = true := by kernel_rfl
/-- impl.HandBookOk: function 72 -/
def WE : SFun := { n := 12,res := [.t 4],body := (jq [jn 3 (.box 103 (.v 1)) [1],jn 4 (.mv (.c (.bool false))) [4]] [0,3] (jq [jm 5 0 [],jn 6 (.call 101 [.v 5]) [5],jm 7 6 [6],jt 8 7 (.mv (.v 0)) [0],jt 9 7 (.loadN 3 (.v 3)) [3],jt 10 7 (.call 102 [.v 8,.v 9]) [8,9],jn 11 (.pick (.v 7) (.v 10) (.c (.bool false))) [7,10],jm 4 11 [11]] [4] .ret)) }
theorem QeV : QY Go.Proofs.Tryz.prog 72 WE = true := by kernel_rfl
end Go.Ve

namespace Go.Ve
open Go.Proofs
set_option maxRecDepth 100000
/-- laws.szHandOwn: function 74 -/
def Qan : SFun := { n := 38,res := [.t 4],body := (jq [jn 2 (.box 102 (.v 0)) [0],jI 4 0 [4]] [1,2] (jq [jm 5 1 [1],jf 6 0 2 [],jl 7 6 [6],jn 8 (.lenS (.v 7)) [7],jn 9 (.binN .sub (.v 5) (.v 8)) [5,8],jm 1 9 [9]] [1,2] (.seq (jq [jm 10 1 [],jc 11 .lss 10 0 [10]] [1,2,11] (.cond (.v 11) (jq [jn 4 (.mv (.c (.int .i64 (-1)))) []] [4] .ret) .skip)) (jq [jm 12 1 [1],jf 13 3 2 [],jl 14 13 [13],jn 15 (.lenS (.v 14)) [14],jn 16 (.binN .sub (.v 12) (.v 15)) [12,15],jm 1 16 [16]] [1,2] (.seq (jq [jm 17 1 [],jc 18 .lss 17 0 [17]] [1,2,18] (.cond (.v 18) (jq [jn 4 (.mv (.c (.int .i64 (-1)))) []] [4] .ret) .skip)) (jq [jf 19 6 2 [],jl 20 19 [19],jm 21 1 [1],jn 22 (.call 23 [.v 20,.v 21]) [20,21],jm 1 22 [22]] [1,2] (.seq (jq [jm 23 1 [],jc 24 .lss 23 0 [23]] [1,2,24] (.cond (.v 24) (jq [jn 4 (.mv (.c (.int .i64 (-1)))) []] [4] .ret) .skip)) (jq [jf 25 8 2 [],jl 26 25 [25],jm 27 1 [1],jn 28 (.call 23 [.v 26,.v 27]) [26,27],jm 1 28 [28]] [1,2] (.seq (jq [jm 29 1 [],jc 30 .lss 29 0 [29]] [1,2,30] (.cond (.v 30) (jq [jn 4 (.mv (.c (.int .i64 (-1)))) []] [4] .ret) .skip)) (jq [jf 31 9 2 [2],jl 32 31 [31],jm 33 1 [1],jn 34 (.call 105 [.v 32,.v 33]) [32,33],jm 1 34 [34]] [1] (.seq (jq [jm 35 1 [],jc 36 .lss 35 0 [35]] [1,36] (.cond (.v 36) (jq [jn 4 (.mv (.c (.int .i64 (-1)))) []] [4] .ret) .skip)) (jq [jm 37 1 [1],jm 4 37 [37]] [4] .ret)))))))))))) }
theorem QfN : QY Go.Proofs.Tryz.prog 74 Qan = true := by kernel_rfl
/-- laws.szHandPart: function 75 -/
def WF : SFun := { n := 19,res := [.t 4],body := (jq [jn 2 (.box 102 (.v 0)) [0],jI 4 0 [4]] [1,2] (jq [jm 5 1 [1],jf 6 0 2 [],jl 7 6 [6],jn 8 (.lenS (.v 7)) [7],jn 9 (.binN .sub (.v 5) (.v 8)) [5,8],jm 1 9 [9]] [1,2] (.seq (jq [jm 10 1 [],jc 11 .lss 10 0 [10]] [1,2,11] (.cond (.v 11) (jq [jn 4 (.mv (.c (.int .i64 (-1)))) []] [4] .ret) .skip)) (jq [jf 12 2 2 [2],jl 13 12 [12],jm 14 1 [1],jn 15 (.call 23 [.v 13,.v 14]) [13,14],jm 1 15 [15]] [1] (.seq (jq [jm 16 1 [],jc 17 .lss 16 0 [16]] [1,17] (.cond (.v 17) (jq [jn 4 (.mv (.c (.int .i64 (-1)))) []] [4] .ret) .skip)) (jq [jm 18 1 [1],jm 4 18 [18]] [4] .ret)))))) }
theorem QeW : QY Go.Proofs.Tryz.prog 75 WF = true := by kernel_rfl
/-- laws.szHandSeen: function 76 -/
def WG : SFun := { n := 13,res := [.t 4],body := (jq [jn 2 (.box 102 (.v 0)) [0],jI 4 0 [4]] [1,2] (jq [jm 5 1 [1],jf 6 0 2 [2],jl 7 6 [6],jn 8 (.lenS (.v 7)) [7],jn 9 (.binN .sub (.v 5) (.v 8)) [5,8],jm 1 9 [9]] [1] (.seq (jq [jm 10 1 [],jc 11 .lss 10 0 [10]] [1,11] (.cond (.v 11) (jq [jn 4 (.mv (.c (.int .i64 (-1)))) []] [4] .ret) .skip)) (jq [jm 12 1 [1],jm 4 12 [12]] [4] .ret)))) }
theorem QeX : QY Go.Proofs.Tryz.prog 76 WG = true := by kernel_rfl
def Zu : SCode := (.seq (jq [jm 66 5 [],jm 67 3 [],jb 68 .lss 66 67 [66,67]] [0,3,4,5,68] (.cond (.v 68) .skip (.exit 2))) (.seq (.block 3 (jq [jm 71 0 [],jm 72 5 [],ja 73 5 71 72 [71,72],jL 74 5 73 [73],jn 6 (.alloc 106 [.str ⟨#[]⟩,.int .i64 0,.int .i64 0,.int .i64 0,.int .i64 0]) [],⟨none,.store 5 (.v 6) (.v 74),none,[74]⟩] [0,3,4,5,6] (jq [jf 75 1 6 [],jl 76 75 [75],jf 77 3 4 [],jl 78 77 [77],jb 79 .leq 76 78 [76,78],jm 80 79 [79],jt 81 80 (.faddr 1 (.v 4)) [],jt 82 80 (.load1 (.v 81)) [81],jt 83 80 (.faddr 3 (.v 6)) [],jt 84 80 (.load1 (.v 83)) [83],jt 85 80 (.bin .leq (.v 82) (.v 84)) [82,84],jn 86 (.pick (.v 80) (.v 85) (.c (.bool false))) [80,85],jm 87 86 [86],jt 88 87 (.faddr 2 (.v 6)) [],jt 89 87 (.load1 (.v 88)) [88],jt 90 87 (.faddr 4 (.v 4)) [],jt 91 87 (.load1 (.v 90)) [90],jt 92 87 (.bin .leq (.v 89) (.v 91)) [89,91],jn 93 (.pick (.v 87) (.v 92) (.c (.bool false))) [87,92],jm 94 93 [93],jt 95 94 (.faddr 2 (.v 4)) [],jt 96 94 (.load1 (.v 95)) [95],jt 97 94 (.faddr 4 (.v 6)) [6],jt 98 94 (.load1 (.v 97)) [97],jt 99 94 (.bin .leq (.v 96) (.v 98)) [96,98],jn 100 (.pick (.v 94) (.v 99) (.c (.bool false))) [94,99]] [0,3,4,5,100] (.cond (.v 100) (jq [jn 2 (.mv (.c (.bool false))) []] [2] .ret) .skip)))) (.rg [jm 69 5 [5],jn 70 (.binN .add (.v 69) (ci 1)) [69],jm 5 70 [70]] [0,3,4,5])))
def Zv : SCode := (.seq (jq [jm 11 3 [],jm 12 0 [],jn 13 (.lenL (.v 12)) [12],jb 14 .lss 11 13 [11,13]] [0,3,14] (.cond (.v 14) .skip (.exit 0))) (.seq (.block 1 (jq [jm 17 0 [],jm 18 3 [],ja 19 5 17 18 [17,18],jL 20 5 19 [19],jn 4 (.alloc 104 [.str ⟨#[]⟩,.int .i64 0,.int .i64 0,.int .i64 0,.int .i64 0]) [],⟨none,.store 5 (.v 4) (.v 20),none,[20]⟩] [0,3,4] (.seq (.seq (.rgd [jf 21 0 4 [],jl 22 21 [],jn 23 (.call 70 [.v 22]) [],jn 24 (.not (.v 23)) [],jm 25 24 [],jM 26 25 3 [],jh 27 25 (.bin .gtr (.v 26) (ci 0)) [],jM 28 25 27 [],jt 29 28 (.mv (.v 0)) [],jt 30 28 (.mv (.v 3)) [],jt 31 28 (.binN .sub (.v 30) (ci 1)) [],jt 32 28 (.iaddr 5 (.v 29) (.v 31)) [],jt 33 28 (.faddr 0 (.v 32)) [],jt 34 28 (.load1 (.v 33)) [],jt 35 28 (.faddr 0 (.v 4)) [],jt 36 28 (.load1 (.v 35)) [],jt 37 28 (.bin .geq (.v 34) (.v 36)) [],jh 38 25 (.pick (.v 28) (.v 37) (.c (.bool false))) [],jp 39 25 38 [],jm 40 39 [],jh 41 40 (.faddr 1 (.v 4)) [],jh 42 40 (.load1 (.v 41)) [],jh 43 40 (.faddr 3 (.v 4)) [],jh 44 40 (.load1 (.v 43)) [],jh 45 40 (.call 80 [.v 42,.c (.int .i64 0),.v 44]) [],jh 46 40 (.not (.v 45)) [],jp 47 40 46 [],jm 48 47 [],jh 49 48 (.faddr 3 (.v 4)) [],jh 50 48 (.load1 (.v 49)) [],jh 51 48 (.bin .geq (.v 50) (ci 16)) [],jp 52 48 51 [],jm 53 52 [],jh 54 53 (.faddr 2 (.v 4)) [],jh 55 53 (.load1 (.v 54)) [],jh 56 53 (.faddr 4 (.v 4)) [],jh 57 53 (.load1 (.v 56)) [],jh 58 53 (.call 80 [.v 55,.c (.int .i64 0),.v 57]) [],jh 59 53 (.not (.v 58)) [],jp 60 53 59 [],jm 61 60 [],jh 62 61 (.faddr 4 (.v 4)) [],jh 63 61 (.load1 (.v 62)) [],jh 64 61 (.bin .geq (.v 63) (ci 16)) [],jp 65 61 64 []] [0,3,4,65] [none,none,none,none,none,none,none,none,none,none,none,none,none,none,none,none,none,none,none,none,none,none,none,none,none,none,none,none,none,none,none,none,none,none,none,none,none,none,none,none,none,none,none,none,none]) (.cond (.v 65) (jq [jn 2 (.mv (.c (.bool false))) []] [2] .ret) .skip)) (jq [jI 5 0 []] [0,3,4,5] (.block 2 (.loop Zu)))))) (.rg [jm 15 3 [3],jn 16 (.binN .add (.v 15) (ci 1)) [15],jm 3 16 [16]] [0,3])))
/-- spec.HandZonesOk: function 77 -/
def U4 : SFun := { n := 101,res := [.t 2],body := (jq [jn 2 (.mv (.c (.bool false))) [2]] [0] (.seq (jq [jm 7 0 [],jn 8 (.lenL (.v 7)) [7],jn 9 (.call 80 [.v 8,.c (.int .i64 1),.c (.int .i64 4)]) [8],jn 10 (.not (.v 9)) [9]] [0,10] (.cond (.v 10) (jq [jn 2 (.mv (.c (.bool false))) []] [2] .ret) .skip)) (.seq (jq [jI 3 0 []] [0,3] (.block 0 (.loop Zv))) (jq [jn 2 (.mv (.c (.bool true))) []] [2] .ret)))) }
theorem Qc8 : QY Go.Proofs.Tryz.prog 77 U4 = true := by kernel_rfl
def U5 : SCode := (.seq (jq [jm 10 5 [],jf 11 0 3 [],jl 12 11 [11],jn 13 (.lenL (.v 12)) [12],jb 14 .lss 10 13 [10,13]] [0,3,5,14] (.cond (.v 14) .skip (.exit 0))) (.seq (.block 1 (.seq (.rgd [jm 17 0 [],jf 18 0 3 [],jl 19 18 [],jm 20 5 [],ja 21 11 19 20 [],jL 22 11 21 [],jn 23 (.call 106 [.v 17,.v 22]) [],jn 24 (.not (.v 23)) [],jm 25 24 [],jM 26 25 5 [],jh 27 25 (.bin .gtr (.v 26) (ci 0)) [],jM 28 25 27 [],jt 29 28 (.faddr 0 (.v 3)) [],jt 30 28 (.load1 (.v 29)) [],jt 31 28 (.mv (.v 5)) [],jt 32 28 (.binN .sub (.v 31) (ci 1)) [],jt 33 28 (.iaddr 11 (.v 30) (.v 32)) [],jt 34 28 (.faddr 0 (.v 33)) [],jt 35 28 (.load1 (.v 34)) [],jt 36 28 (.faddr 0 (.v 3)) [],jt 37 28 (.load1 (.v 36)) [],jt 38 28 (.mv (.v 5)) [],jt 39 28 (.iaddr 11 (.v 37) (.v 38)) [],jt 40 28 (.faddr 0 (.v 39)) [],jt 41 28 (.load1 (.v 40)) [],jt 42 28 (.bin .geq (.v 35) (.v 41)) [],jh 43 25 (.pick (.v 28) (.v 42) (.c (.bool false))) [],jp 44 25 43 []] [0,3,5,44] [none,none,none,none,none,none,none,none,none,none,none,none,none,none,none,none,none,none,none,none,none,none,none,none,none,none,none,none]) (.cond (.v 44) (jq [jn 4 (.mv (.c (.bool false))) []] [4] .ret) .skip))) (.rg [jm 15 5 [5],jn 16 (.binN .add (.v 15) (ci 1)) [15],jm 5 16 [16]] [0,3,5])))
/-- spec.l33OwnsOk: function 78 -/
def Qao : SFun := { n := 45,res := [.t 4],body := (jq [jn 3 (.box 103 (.v 1)) [1],jn 4 (.mv (.c (.bool false))) [4]] [0,3] (.seq (jq [jf 6 0 3 [],jl 7 6 [6],jn 8 (.lenL (.v 7)) [7],jc 9 .gtr 8 6 [8]] [0,3,9] (.cond (.v 9) (jq [jn 4 (.mv (.c (.bool false))) []] [4] .ret) .skip)) (.seq (jq [jI 5 0 []] [0,3,5] (.block 0 (.loop U5))) (jq [jn 4 (.mv (.c (.bool true))) []] [4] .ret)))) }
theorem QfO : QY Go.Proofs.Tryz.prog 78 Qao = true := by kernel_rfl
def Gp : SCode := (.rgd [jf 24 0 6 [],jl 25 24 [],jn 26 (.call 70 [.v 25]) [],jn 27 (.not (.v 26)) [],jm 28 27 [],jh 29 28 (.faddr 1 (.v 6)) [],jh 30 28 (.load1 (.v 29)) [],jh 31 28 (.loadN 3 (.v 3)) [],jh 32 28 (.faddr 0 (.v 6)) [],jh 33 28 (.load1 (.v 32)) [],jh 34 28 (.call 107 [.v 31,.v 33]) [],jh 35 28 (.call 80 [.v 30,.c (.int .i64 1),.v 34]) [],jh 36 28 (.not (.v 35)) [],jp 37 28 36 [],jm 38 37 [],jM 39 38 0 [],jh 40 38 (.faddr 2 (.v 6)) [],jh 41 38 (.load1 (.v 40)) [],jh 42 38 (.call 65 [.v 39,.v 41]) [],jh 43 38 (.not (.v 42)) [],jp 44 38 43 [],jm 45 44 [],jM 46 45 5 [],jh 47 45 (.bin .gtr (.v 46) (ci 0)) [],jM 48 45 47 [],jt 49 48 (.faddr 1 (.v 3)) [],jt 50 48 (.load1 (.v 49)) [],jt 51 48 (.mv (.v 5)) [],jt 52 48 (.binN .sub (.v 51) (ci 1)) [],jt 53 48 (.iaddr 3 (.v 50) (.v 52)) [],jt 54 48 (.loadN 3 (.v 53)) [],jt 55 48 (.loadN 3 (.v 6)) [],jt 56 48 (.call 108 [.v 54,.v 55]) [],jt 57 48 (.not (.v 56)) [],jh 58 45 (.pick (.v 48) (.v 57) (.c (.bool false))) [],jp 59 45 58 []] [0,3,5,6,59] [none,none,none,none,none,some [],some [],none,none,none,some [4,3],none,none,none,none,none,none,none,none,none,none,none,none,none,none,none,none,none,none,none,none,none,none,none,none,none])
def Gq : SCode := (.rgd [jf 65 1 3 [],jl 66 65 [],jm 67 7 [],ja 68 3 66 67 [],jf 69 0 68 [],jl 70 69 [],jf 71 0 6 [],jl 72 71 [],jb 73 .neq 70 72 [],jm 74 73 [],jt 75 74 (.faddr 1 (.v 3)) [],jt 76 74 (.load1 (.v 75)) [],jt 77 74 (.mv (.v 7)) [],jt 78 74 (.iaddr 3 (.v 76) (.v 77)) [],jt 79 74 (.faddr 2 (.v 78)) [],jt 80 74 (.load1 (.v 79)) [],jt 81 74 (.faddr 2 (.v 6)) [],jt 82 74 (.load1 (.v 81)) [],jt 83 74 (.call 109 [.v 80,.v 82]) [],jn 84 (.pick (.v 74) (.v 83) (.c (.bool false))) []] [0,3,5,6,7,84] [none,none,none,none,none,none,none,none,none,none,none,none,none,none,none,none,none,none,none,none])
def Ud : SCode := (.seq (jq [jm 60 7 [],jm 61 5 [],jb 62 .lss 60 61 [60,61]] [0,3,5,6,7,62] (.cond (.v 62) .skip (.exit 2))) (.seq (.block 3 (.seq Gq (.cond (.v 84) (jq [jn 4 (.mv (.c (.bool false))) []] [4] .ret) .skip))) (.rg [jm 63 7 [7],jn 64 (.binN .add (.v 63) (ci 1)) [63],jm 7 64 [64]] [0,3,5,6,7])))
def Ue : SCode := (.seq (jq [jm 12 5 [],jf 13 1 3 [],jl 14 13 [13],jn 15 (.lenL (.v 14)) [14],jb 16 .lss 12 15 [12,15]] [0,3,5,16] (.cond (.v 16) .skip (.exit 0))) (.seq (.block 1 (jq [jf 19 1 3 [],jl 20 19 [19],jm 21 5 [],ja 22 3 20 21 [20,21],jL 23 3 22 [22],jn 6 (.alloc 106 [.str ⟨#[]⟩,.int .i64 0,.sl 0 6 []]) [],⟨none,.store 3 (.v 6) (.v 23),none,[23]⟩] [0,3,5,6] (.seq (.seq Gp (.cond (.v 59) (jq [jn 4 (.mv (.c (.bool false))) []] [4] .ret) .skip)) (jq [jI 7 0 []] [0,3,5,6,7] (.block 2 (.loop Ud)))))) (.rg [jm 17 5 [5],jn 18 (.binN .add (.v 17) (ci 1)) [17],jm 5 18 [18]] [0,3,5])))
/-- spec.l33PartsOk: function 79 -/
def WH : SFun := { n := 85,res := [.t 4],body := (jq [jn 3 (.box 103 (.v 1)) [1],jn 4 (.mv (.c (.bool false))) [4]] [0,3] (.seq (jq [jf 8 1 3 [],jl 9 8 [8],jn 10 (.lenL (.v 9)) [9],jc 11 .gtr 10 16 [10]] [0,3,11] (.cond (.v 11) (jq [jn 4 (.mv (.c (.bool false))) []] [4] .ret) .skip)) (.seq (jq [jI 5 0 []] [0,3,5] (.block 0 (.loop Ue))) (jq [jn 4 (.mv (.c (.bool true))) []] [4] .ret)))) }
theorem QeY : QY Go.Proofs.Tryz.prog 79 WH = true := by kernel_rfl
/-- spec.l31In: function 80 -/
def QfB : SFun := { n := 15,res := [.t 6],body := (jq [jn 6 (.mv (.c (.bool false))) [6]] [0,1,2] (jq [jm 7 0 [],jm 8 1 [1],jb 9 .geq 7 8 [7,8],jm 10 9 [9],jt 11 10 (.mv (.v 0)) [0],jt 12 10 (.mv (.v 2)) [2],jt 13 10 (.bin .leq (.v 11) (.v 12)) [11,12],jn 14 (.pick (.v 10) (.v 13) (.c (.bool false))) [10,13],jm 6 14 [14]] [6] .ret)) }
theorem Qkq : QY Go.Proofs.Tryz.prog 80 QfB = true := by kernel_rfl
def Qap : SCode := (.seq (jq [jm 8 6 [],jm 9 0 [],jn 10 (.lenL (.v 9)) [9],jb 11 .lss 8 10 [8,10]] [0,1,5,6,11] (.cond (.v 11) .skip (.exit 0))) (.seq (.block 1 (jq [jm 14 0 [],jm 15 6 [],ja 16 5 14 15 [14,15],jL 17 5 16 [16],jm 18 1 [],jn 19 (.call 82 [.v 17,.v 18]) [17,18],jn 20 (.lenL (.v 19)) [19],jc 21 .gtr 20 0 [20]] [0,1,5,6,21] (.cond (.v 21) (.rg [jm 22 5 [5],jm 23 0 [],jm 24 6 [],ja 25 5 23 24 [23,24],jf 26 0 25 [25],jl 27 26 [26],jn 28 (.lit 9 1 [.v 27]) [27],jn 29 (.app 107 9 1 (.v 22) (.v 28)) [22,28],jm 5 29 [29]] [0,1,5,6]) .skip))) (.rg [jm 12 6 [6],jn 13 (.binN .add (.v 12) (ci 1)) [12],jm 6 13 [13]] [0,1,5,6])))
/-- spec.HandWho: function 81 -/
def Qcb : SFun := { n := 31,res := [.t 4],body := (jq [jn 4 (.mv (.c (.sl 0 1 []))) [4]] [0,1] (jq [jn 7 (.litOwn 107 9 1 []) [],jm 5 7 [7]] [0,1,5] (.seq (jq [jI 6 0 []] [0,1,5,6] (.block 0 (.loop Qap))) (jq [jm 30 5 [5],jm 4 30 [30]] [4] (.gh (.frzE 4) .ret))))) }
theorem Qh9 : QY Go.Proofs.Tryz.prog 81 Qcb = true := by kernel_rfl
def Uf : SCode := (.seq (jq [jm 8 6 [],jm 9 1 [],jn 10 (.lenL (.v 9)) [9],jb 11 .lss 8 10 [8,10],jm 12 11 [11],jt 13 12 (.loadN 5 (.v 2)) [],jt 14 12 (.call 110 [.v 13]) [13],jn 15 (.pick (.v 12) (.v 14) (.c (.bool false))) [12,14]] [1,2,5,6,15] (.cond (.v 15) .skip (.exit 0))) (.seq (.block 1 (.seq (.rgd [jL 18 5 2 [],jm 19 1 [],jm 20 6 [],ja 21 6 19 20 [],jL 22 6 21 [],jn 23 (.call 111 [.v 18,.v 22]) []] [1,2,5,6,23] [none,none,none,none,none,none]) (.cond (.v 23) (.rg [jm 24 5 [5],jm 25 1 [],jm 26 6 [],ja 27 6 25 26 [25,26],jL 28 6 27 [27],jn 29 (.lit 100 6 [.v 28]) [28],jn 30 (.app 107 100 6 (.v 24) (.v 29)) [24,29],jm 5 30 [30]] [1,2,5,6]) .skip))) (.rg [jm 16 6 [6],jn 17 (.binN .add (.v 16) (ci 1)) [16],jm 6 17 [17]] [1,2,5,6])))
/-- spec.HandPartOf: function 82 -/
def WI : SFun := { n := 32,res := [.t 4],body := (jq [jn 2 (.box 102 (.v 0)) [0],jn 4 (.mv (.c (.sl 0 6 []))) [4]] [1,2] (jq [jn 7 (.litOwn 107 100 6 []) [],jm 5 7 [7]] [1,2,5] (.seq (jq [jI 6 0 []] [1,2,5,6] (.block 0 (.loop Uf))) (jq [jm 31 5 [5],jm 4 31 [31]] [4] (.gh (.frzE 4) .ret))))) }
theorem QeZ : QY Go.Proofs.Tryz.prog 82 WI = true := by kernel_rfl
/-- laws.toHandOwn: function 83 -/
def X7 : SFun := { n := 41,res := [.cN 2 11],body := (jq [jn 1 (.box 101 (.v 0)) [0],jn 2 (.alloc 102 [.str ⟨#[]⟩,.int .i64 0,.int .i64 0,.str ⟨#[]⟩,.int .i64 0,.int .i64 0,.sl 0 6 [],.int .i64 0,.sl 0 6 [],.sl 0 1 [],.bool false]) []] [1,2] (jq [jn 3 (.alloc 103 [.str ⟨#[]⟩,.int .i64 0,.int .i64 0,.str ⟨#[]⟩,.int .i64 0,.int .i64 0,.sl 0 6 [],.int .i64 0,.sl 0 6 [],.sl 0 1 [],.bool false]) []] [1,2,3] (jq [jf 4 0 1 [],jl 5 4 [4],jf 6 0 3 [],⟨none,.store 1 (.v 6) (.v 5),none,[5,6]⟩] [1,2,3] (jq [jf 7 1 1 [],jl 8 7 [7],jf 9 1 3 [],⟨none,.store 1 (.v 9) (.v 8),none,[8,9]⟩] [1,2,3] (jq [jf 10 2 1 [],jl 11 10 [10],jf 12 2 3 [],⟨none,.store 1 (.v 12) (.v 11),none,[11,12]⟩] [1,2,3] (jq [jf 13 3 1 [],jl 14 13 [13],jf 15 3 3 [],⟨none,.store 1 (.v 15) (.v 14),none,[14,15]⟩] [1,2,3] (jq [jf 16 4 1 [],jl 17 16 [16],jf 18 4 3 [],⟨none,.store 1 (.v 18) (.v 17),none,[17,18]⟩] [1,2,3] (jq [jf 19 5 1 [],jl 20 19 [19],jf 21 5 3 [],⟨none,.store 1 (.v 21) (.v 20),none,[20,21]⟩] [1,2,3] (jq [jf 22 6 1 [],jl 23 22 [22],jn 24 (.call 25 [.v 23]) [23],jf 25 6 3 [],⟨none,.store 1 (.v 25) (.v 24),none,[24,25]⟩] [1,2,3] (jq [jf 26 7 1 [],jl 27 26 [26],jf 28 7 3 [],⟨none,.store 1 (.v 28) (.v 27),none,[27,28]⟩] [1,2,3] (jq [jf 29 8 1 [],jl 30 29 [29],jn 31 (.call 25 [.v 30]) [30],jf 32 8 3 [],⟨none,.store 1 (.v 32) (.v 31),none,[31,32]⟩] [1,2,3] (jq [jf 33 9 1 [],jl 34 33 [33],jn 35 (.call 112 [.v 34]) [34],jf 36 9 3 [],⟨none,.store 1 (.v 36) (.v 35),none,[35,36]⟩] [1,2,3] (jq [jf 37 10 1 [1],jl 38 37 [37],jf 39 10 3 [],⟨none,.store 1 (.v 39) (.v 38),none,[38,39]⟩] [2,3] (jq [jL 40 11 3 [3],⟨none,.store 11 (.v 2) (.v 40),none,[40]⟩] [2] .ret)))))))))))))) }
theorem Qaq : QY Go.Proofs.Tryz.prog 83 X7 = true := by kernel_rfl
/-- laws.toHandPart: function 84 -/
def Xz : SFun := { n := 15,res := [.cN 2 3],body := (jq [jn 1 (.box 101 (.v 0)) [0],jn 2 (.alloc 102 [.str ⟨#[]⟩,.int .i64 0,.sl 0 6 []]) []] [1,2] (jq [jn 3 (.alloc 103 [.str ⟨#[]⟩,.int .i64 0,.sl 0 6 []]) []] [1,2,3] (jq [jf 4 0 1 [],jl 5 4 [4],jf 6 0 3 [],⟨none,.store 1 (.v 6) (.v 5),none,[5,6]⟩] [1,2,3] (jq [jf 7 1 1 [],jl 8 7 [7],jf 9 1 3 [],⟨none,.store 1 (.v 9) (.v 8),none,[8,9]⟩] [1,2,3] (jq [jf 10 2 1 [1],jl 11 10 [10],jn 12 (.call 25 [.v 11]) [11],jf 13 2 3 [],⟨none,.store 1 (.v 13) (.v 12),none,[12,13]⟩] [2,3] (jq [jL 14 3 3 [3],⟨none,.store 3 (.v 2) (.v 14),none,[14]⟩] [2] .ret)))))) }
theorem WJ : QY Go.Proofs.Tryz.prog 84 Xz = true := by kernel_rfl
/-- laws.toHandSeen: function 85 -/
def WK : SFun := { n := 11,res := [.cN 2 2],body := (jq [jn 1 (.box 101 (.v 0)) [0],jn 2 (.alloc 102 [.str ⟨#[]⟩,.int .i64 0]) []] [1,2] (jq [jn 3 (.alloc 103 [.str ⟨#[]⟩,.int .i64 0]) []] [1,2,3] (jq [jf 4 0 1 [],jl 5 4 [4],jf 6 0 3 [],⟨none,.store 1 (.v 6) (.v 5),none,[5,6]⟩] [1,2,3] (jq [jf 7 1 1 [1],jl 8 7 [7],jf 9 1 3 [],⟨none,.store 1 (.v 9) (.v 8),none,[8,9]⟩] [2,3] (jq [jL 10 2 3 [3],⟨none,.store 2 (.v 2) (.v 10),none,[10]⟩] [2] .ret))))) }
theorem Qe0 : QY Go.Proofs.Tryz.prog 85 WK = true := by kernel_rfl
/-- impl.zoneAt: function 86 -/
def Qc9 : SFun := { n := 8,res := [.t 4],body := (jq [jn 3 (.box 103 (.v 1)) [1],jI 4 0 [4]] [0,3] (jq [jm 5 0 [0],jn 6 (.clos 114 [.v 3]) [3],jn 7 (.call 113 [.v 5,.v 6]) [5,6],jm 4 7 [7]] [4] .ret)) }
theorem Qi9 : QY Go.Proofs.Tryz.prog 86 Qc9 = true := by kernel_rfl
/-- laws.eqHandOwn: function 91 -/
def Qar : SFun := { n := 63,res := [.t 4],body := (jq [jn 2 (.box 102 (.v 0)) [0],jn 3 (.box 103 (.v 1)) [1],jn 4 (.mv (.c (.bool false))) [4]] [2,3] (.seq (jq [jf 5 0 2 [],jl 6 5 [5],jf 7 0 3 [],jl 8 7 [7],jb 9 .neq 6 8 [6,8]] [2,3,9] (.cond (.v 9) (jq [jn 4 (.mv (.c (.bool false))) []] [4] .ret) .skip)) (.seq (jq [jf 10 1 2 [],jl 11 10 [10],jf 12 1 3 [],jl 13 12 [12],jb 14 .neq 11 13 [11,13]] [2,3,14] (.cond (.v 14) (jq [jn 4 (.mv (.c (.bool false))) []] [4] .ret) .skip)) (.seq (jq [jf 15 2 2 [],jl 16 15 [15],jf 17 2 3 [],jl 18 17 [17],jb 19 .neq 16 18 [16,18]] [2,3,19] (.cond (.v 19) (jq [jn 4 (.mv (.c (.bool false))) []] [4] .ret) .skip)) (.seq (jq [jf 20 3 2 [],jl 21 20 [20],jf 22 3 3 [],jl 23 22 [22],jb 24 .neq 21 23 [21,23]] [2,3,24] (.cond (.v 24) (jq [jn 4 (.mv (.c (.bool false))) []] [4] .ret) .skip)) (.seq (jq [jf 25 4 2 [],jl 26 25 [25],jf 27 4 3 [],jl 28 27 [27],jb 29 .neq 26 28 [26,28]] [2,3,29] (.cond (.v 29) (jq [jn 4 (.mv (.c (.bool false))) []] [4] .ret) .skip)) (.seq (jq [jf 30 5 2 [],jl 31 30 [30],jf 32 5 3 [],jl 33 32 [32],jb 34 .neq 31 33 [31,33]] [2,3,34] (.cond (.v 34) (jq [jn 4 (.mv (.c (.bool false))) []] [4] .ret) .skip)) (.seq (jq [jf 35 6 2 [],jl 36 35 [35],jf 37 6 3 [],jl 38 37 [37],jn 39 (.call 27 [.v 36,.v 38]) [36,38],jn 40 (.not (.v 39)) [39]] [2,3,40] (.cond (.v 40) (jq [jn 4 (.mv (.c (.bool false))) []] [4] .ret) .skip)) (.seq (jq [jf 41 7 2 [],jl 42 41 [41],jf 43 7 3 [],jl 44 43 [43],jb 45 .neq 42 44 [42,44]] [2,3,45] (.cond (.v 45) (jq [jn 4 (.mv (.c (.bool false))) []] [4] .ret) .skip)) (.seq (jq [jf 46 8 2 [],jl 47 46 [46],jf 48 8 3 [],jl 49 48 [48],jn 50 (.call 27 [.v 47,.v 49]) [47,49],jn 51 (.not (.v 50)) [50]] [2,3,51] (.cond (.v 51) (jq [jn 4 (.mv (.c (.bool false))) []] [4] .ret) .skip)) (.seq (jq [jf 52 9 2 [],jl 53 52 [52],jf 54 9 3 [],jl 55 54 [54],jn 56 (.call 117 [.v 53,.v 55]) [53,55],jn 57 (.not (.v 56)) [56]] [2,3,57] (.cond (.v 57) (jq [jn 4 (.mv (.c (.bool false))) []] [4] .ret) .skip)) (.seq (jq [jf 58 10 2 [2],jl 59 58 [58],jf 60 10 3 [3],jl 61 60 [60],jn 62 (.eqB true (.v 59) (.v 61)) [59,61]] [62] (.cond (.v 62) (jq [jn 4 (.mv (.c (.bool false))) []] [4] .ret) .skip)) (jq [jn 4 (.mv (.c (.bool true))) []] [4] .ret))))))))))))) }
theorem QfP : QY Go.Proofs.Tryz.prog 91 Qar = true := by kernel_rfl
/-- laws.eqHandPart: function 92 -/
def WL : SFun := { n := 21,res := [.t 4],body := (jq [jn 2 (.box 102 (.v 0)) [0],jn 3 (.box 103 (.v 1)) [1],jn 4 (.mv (.c (.bool false))) [4]] [2,3] (.seq (jq [jf 5 0 2 [],jl 6 5 [5],jf 7 0 3 [],jl 8 7 [7],jb 9 .neq 6 8 [6,8]] [2,3,9] (.cond (.v 9) (jq [jn 4 (.mv (.c (.bool false))) []] [4] .ret) .skip)) (.seq (jq [jf 10 1 2 [],jl 11 10 [10],jf 12 1 3 [],jl 13 12 [12],jb 14 .neq 11 13 [11,13]] [2,3,14] (.cond (.v 14) (jq [jn 4 (.mv (.c (.bool false))) []] [4] .ret) .skip)) (.seq (jq [jf 15 2 2 [2],jl 16 15 [15],jf 17 2 3 [3],jl 18 17 [17],jn 19 (.call 27 [.v 16,.v 18]) [16,18],jn 20 (.not (.v 19)) [19]] [20] (.cond (.v 20) (jq [jn 4 (.mv (.c (.bool false))) []] [4] .ret) .skip)) (jq [jn 4 (.mv (.c (.bool true))) []] [4] .ret))))) }
theorem Qe1 : QY Go.Proofs.Tryz.prog 92 WL = true := by kernel_rfl
/-- laws.eqHandSeen: function 93 -/
def WM : SFun := { n := 15,res := [.t 4],body := (jq [jn 2 (.box 102 (.v 0)) [0],jn 3 (.box 103 (.v 1)) [1],jn 4 (.mv (.c (.bool false))) [4]] [2,3] (.seq (jq [jf 5 0 2 [],jl 6 5 [5],jf 7 0 3 [],jl 8 7 [7],jb 9 .neq 6 8 [6,8]] [2,3,9] (.cond (.v 9) (jq [jn 4 (.mv (.c (.bool false))) []] [4] .ret) .skip)) (.seq (jq [jf 10 1 2 [2],jl 11 10 [10],jf 12 1 3 [3],jl 13 12 [12],jb 14 .neq 11 13 [11,13]] [14] (.cond (.v 14) (jq [jn 4 (.mv (.c (.bool false))) []] [4] .ret) .skip)) (jq [jn 4 (.mv (.c (.bool true))) []] [4] .ret)))) }
theorem Qe2 : QY Go.Proofs.Tryz.prog 93 WM = true := by kernel_rfl
def Y4 : SCode := (.seq (jq [jm 6 5 [],jm 7 0 [],jn 8 (.lenL (.v 7)) [7],jb 9 .lss 6 8 [6,8]] [0,1,5,9] (.cond (.v 9) .skip (.exit 0))) (.seq (.block 1 (jq [jm 12 0 [],jm 13 5 [],jm 14 1 [],jn 15 (.call 52 [.v 14]) [14],ja 16 1 12 13 [12,13],⟨none,.store 1 (.v 16) (.v 15),none,[15,16]⟩] [0,1,5] (.rg [jm 17 1 [1],jn 18 (.binN .add (.v 17) (ci 1)) [17],jm 1 18 [18]] [0,1,5]))) (.rg [jm 10 5 [5],jn 11 (.binN .add (.v 10) (ci 1)) [10],jm 5 11 [11]] [0,1,5])))
/-- laws.markStringS: function 94 -/
def U6 : SFun := { n := 20,res := [.t 4],body := (jq [jI 4 0 [4]] [0,1] (.seq (jq [jI 5 0 []] [0,1,5] (.block 0 (.loop Y4))) (jq [jm 19 1 [1],jm 4 19 [19]] [4] .ret))) }
theorem Qda : QY Go.Proofs.Tryz.prog 94 U6 = true := by kernel_rfl
/-- impl.HandBook).own: function 96 -/
def Ug : SFun := { n := 9,res := [.t 4],body := (jq [jn 2 (.box 102 (.v 0)) [0],jn 3 (.box 103 (.v 1)) [1],jI 4 0 [4]] [2,3] (jq [jf 5 0 2 [2],jl 6 5 [5],jn 7 (.clos 119 [.v 3]) [3],jn 8 (.call 118 [.v 6,.v 7]) [6,7],jm 4 8 [8]] [4] .ret)) }
theorem Qcw : QY Go.Proofs.Tryz.prog 96 Ug = true := by kernel_rfl
def Y5 : SCode := (.seq (jq [jm 6 5 [],jm 7 0 [],jn 8 (.lenL (.v 7)) [7],jb 9 .lss 6 8 [6,8]] [0,1,5,9] (.cond (.v 9) .skip (.exit 0))) (.seq (.block 1 (.seq (.seq (.rgd [jm 12 0 [],jm 13 5 [],ja 14 1 12 13 [],jl 15 14 [],jm 16 1 [],jn 17 (.call 52 [.v 16]) [],jb 18 .neq 15 17 []] [0,1,5,18] [none,none,some [],some [],none,some [2,1],none]) (.cond (.v 18) (jq [jn 4 (.mv (.c (.int .i64 (-1)))) []] [4] .ret) .skip)) (.rg [jm 19 1 [1],jn 20 (.binN .add (.v 19) (ci 1)) [19],jm 1 20 [20]] [0,1,5]))) (.rg [jm 10 5 [5],jn 11 (.binN .add (.v 10) (ci 1)) [10],jm 5 11 [11]] [0,1,5])))
/-- laws.heldStringS: function 97 -/
def U7 : SFun := { n := 22,res := [.t 4],body := (jq [jI 4 0 [4]] [0,1] (.seq (jq [jI 5 0 []] [0,1,5] (.block 0 (.loop Y5))) (jq [jm 21 1 [1],jm 4 21 [21]] [4] .ret))) }
theorem Qdb : QY Go.Proofs.Tryz.prog 97 U7 = true := by kernel_rfl
/-- spec.l31Over: function 98 -/
def Qcc : SFun := { n := 21,res := [.t 4],body := (jq [jn 2 (.box 102 (.v 0)) [0],jn 3 (.box 103 (.v 1)) [1],jn 4 (.mv (.c (.bool false))) [4]] [2,3] (jq [jf 5 0 3 [],jl 6 5 [5],jf 7 1 2 [],jl 8 7 [7],jf 9 3 2 [],jl 10 9 [9],jn 11 (.call 80 [.v 6,.v 8,.v 10]) [6,8,10],jm 12 11 [11],jt 13 12 (.faddr 1 (.v 3)) [3],jt 14 12 (.load1 (.v 13)) [13],jt 15 12 (.faddr 2 (.v 2)) [],jt 16 12 (.load1 (.v 15)) [15],jt 17 12 (.faddr 4 (.v 2)) [2],jt 18 12 (.load1 (.v 17)) [17],jt 19 12 (.call 80 [.v 14,.v 16,.v 18]) [14,16,18],jn 20 (.pick (.v 12) (.v 19) (.c (.bool false))) [12,19],jm 4 20 [20]] [4] .ret)) }
theorem Qia : QY Go.Proofs.Tryz.prog 98 Qcc = true := by kernel_rfl
/-- spec.l31BoxOk: function 99 -/
def Qa1 : SFun := { n := 35,res := [.t 2],body := (jq [jn 1 (.box 101 (.v 0)) [0],jn 2 (.mv (.c (.bool false))) [2]] [1] (jq [jf 3 0 1 [],jl 4 3 [3],jn 5 (.call 80 [.v 4,.c (.int .i64 0),.c (.int .i64 15)]) [4],jm 6 5 [5],jt 7 6 (.faddr 1 (.v 1)) [],jt 8 6 (.load1 (.v 7)) [7],jt 9 6 (.call 80 [.v 8,.c (.int .i64 0),.c (.int .i64 15)]) [8],jn 10 (.pick (.v 6) (.v 9) (.c (.bool false))) [6,9],jm 11 10 [10],jt 12 11 (.faddr 2 (.v 1)) [],jt 13 11 (.load1 (.v 12)) [12],jt 14 11 (.faddr 3 (.v 1)) [],jt 15 11 (.load1 (.v 14)) [14],jt 16 11 (.call 80 [.v 13,.c (.int .i64 0),.v 15]) [13,15],jn 17 (.pick (.v 11) (.v 16) (.c (.bool false))) [11,16],jm 18 17 [17],jt 19 18 (.faddr 3 (.v 1)) [],jt 20 18 (.load1 (.v 19)) [19],jt 21 18 (.bin .leq (.v 20) (ci 6)) [20],jn 22 (.pick (.v 18) (.v 21) (.c (.bool false))) [18,21],jm 23 22 [22],jt 24 23 (.faddr 4 (.v 1)) [],jt 25 23 (.load1 (.v 24)) [24],jt 26 23 (.faddr 5 (.v 1)) [],jt 27 23 (.load1 (.v 26)) [26],jt 28 23 (.call 80 [.v 25,.c (.int .i64 0),.v 27]) [25,27],jn 29 (.pick (.v 23) (.v 28) (.c (.bool false))) [23,28],jm 30 29 [29],jt 31 30 (.faddr 5 (.v 1)) [1],jt 32 30 (.load1 (.v 31)) [31],jt 33 30 (.bin .leq (.v 32) (ci 10000)) [32],jn 34 (.pick (.v 30) (.v 33) (.c (.bool false))) [30,33],jm 2 34 [34]] [2] .ret)) }
theorem Qg1 : QY Go.Proofs.Tryz.prog 99 Qa1 = true := by kernel_rfl
def Qa2 : SCode := (jq [jb 14 .lss 13 12 []] [0,11,12,13,14] (.seq (.cond (.v 14) .skip (.exit 0)) (.seq (.block 1 (jq [ja 15 6 11 13 [],jL 16 6 15 [15],jn 6 (.alloc 106 [.int .i64 0,.int .i64 0,.int .i64 0,.int .i64 0,.int .i64 0,.int .i64 0]) [],⟨none,.store 6 (.v 6) (.v 16),none,[16]⟩] [0,6,11,12,13] (jq [jL 17 6 6 [],jn 18 (.call 121 [.v 17]) [17],jn 19 (.not (.v 18)) [18],jm 20 19 [19],jM 21 20 0 [],jh 22 20 (.clos 123 [.v 6]) [6],jh 23 20 (.call 122 [.v 21,.v 22]) [21,22],jh 24 20 (.not (.v 23)) [23],jp 25 20 24 [20,24]] [0,11,12,13,25] (.cond (.v 25) (jq [jn 4 (.mv (.c (.bool false))) []] [4] .ret) .skip)))) (.rg [jn 26 (.binN .add (.v 13) (ci 1)) [13],jm 13 26 [26]] [0,11,12,13]))))
/-- impl.tubeOk: function 100 -/
def Qdc : SFun := { n := 27,res := [.t 4],body := (jq [jn 4 (.mv (.c (.bool false))) [4]] [0,1] (.seq (jq [jm 7 1 [],jn 8 (.lenL (.v 7)) [7],jn 9 (.call 120 [.v 8,.c (.int .i64 1),.c (.int .i64 20)]) [8],jn 10 (.not (.v 9)) [9]] [0,1,10] (.cond (.v 10) (jq [jn 4 (.mv (.c (.bool false))) []] [4] .ret) .skip)) (.seq (jq [jm 11 1 [1],jn 12 (.lenL (.v 11)) [],jI 13 0 []] [0,11,12,13] (.block 0 (.loop Qa2))) (jq [jn 4 (.mv (.c (.bool true))) []] [4] .ret)))) }
theorem Qja : QY Go.Proofs.Tryz.prog 100 Qdc = true := by kernel_rfl
def Zw : SCode := (jq [jb 78 .lss 77 76 []] [0,4,11,12,13,75,76,77,78] (.seq (.cond (.v 78) .skip (.exit 2)) (.seq (.block 3 (jq [ja 79 5 75 77 [],jL 80 5 79 [79],jn 6 (.alloc 106 [.str ⟨#[]⟩,.int .i64 0,.int .i64 0,.int .i64 0,.int .i64 0]) [],⟨none,.store 5 (.v 6) (.v 80),none,[80]⟩] [0,4,6,11,12,13,75,76,77] (jq [jf 81 1 6 [],jl 82 81 [81],jf 83 3 4 [],jl 84 83 [83],jb 85 .leq 82 84 [82,84],jm 86 85 [85],jt 87 86 (.faddr 1 (.v 4)) [],jt 88 86 (.load1 (.v 87)) [87],jt 89 86 (.faddr 3 (.v 6)) [],jt 90 86 (.load1 (.v 89)) [89],jt 91 86 (.bin .leq (.v 88) (.v 90)) [88,90],jn 92 (.pick (.v 86) (.v 91) (.c (.bool false))) [86,91],jm 93 92 [92],jt 94 93 (.faddr 2 (.v 6)) [],jt 95 93 (.load1 (.v 94)) [94],jt 96 93 (.faddr 4 (.v 4)) [],jt 97 93 (.load1 (.v 96)) [96],jt 98 93 (.bin .leq (.v 95) (.v 97)) [95,97],jn 99 (.pick (.v 93) (.v 98) (.c (.bool false))) [93,98],jm 100 99 [99],jt 101 100 (.faddr 2 (.v 4)) [],jt 102 100 (.load1 (.v 101)) [101],jt 103 100 (.faddr 4 (.v 6)) [6],jt 104 100 (.load1 (.v 103)) [103],jt 105 100 (.bin .leq (.v 102) (.v 104)) [102,104],jn 106 (.pick (.v 100) (.v 105) (.c (.bool false))) [100,105]] [0,4,11,12,13,75,76,77,106] (.cond (.v 106) (jq [jn 2 (.mv (.c (.bool false))) []] [2] .ret) .skip)))) (.rg [jn 107 (.binN .add (.v 77) (ci 1)) [77],jm 77 107 [107]] [0,4,11,12,13,75,76,77]))))
def Zx : SCode := (jq [jb 14 .lss 13 12 []] [0,11,12,13,14] (.seq (.cond (.v 14) .skip (.exit 0)) (.seq (.block 1 (jq [jm 15 13 [],ja 16 5 11 13 [],jL 17 5 16 [16],jn 4 (.alloc 104 [.str ⟨#[]⟩,.int .i64 0,.int .i64 0,.int .i64 0,.int .i64 0]) [],jm 3 15 [15],⟨none,.store 5 (.v 4) (.v 17),none,[17]⟩] [0,3,4,11,12,13] (.seq (.seq (.rgd [jf 18 0 4 [],jl 19 18 [],jn 20 (.call 103 [.v 19]) [],jn 21 (.not (.v 20)) [],jm 22 21 [],jh 23 22 (.faddr 1 (.v 4)) [],jh 24 22 (.load1 (.v 23)) [],jh 25 22 (.bin .leq (ci 0) (.v 24)) [],jM 26 22 25 [],jt 27 26 (.faddr 1 (.v 4)) [],jt 28 26 (.load1 (.v 27)) [],jt 29 26 (.faddr 3 (.v 4)) [],jt 30 26 (.load1 (.v 29)) [],jt 31 26 (.bin .leq (.v 28) (.v 30)) [],jh 32 22 (.pick (.v 26) (.v 31) (.c (.bool false))) [],jM 33 22 32 [],jt 34 33 (.faddr 3 (.v 4)) [],jt 35 33 (.load1 (.v 34)) [],jt 36 33 (.bin .lss (.v 35) (ci 16)) [],jh 37 22 (.pick (.v 33) (.v 36) (.c (.bool false))) [],jh 38 22 (.not (.v 37)) [],jp 39 22 38 [],jm 40 39 [],jh 41 40 (.faddr 2 (.v 4)) [],jh 42 40 (.load1 (.v 41)) [],jh 43 40 (.bin .leq (ci 0) (.v 42)) [],jM 44 40 43 [],jt 45 44 (.faddr 2 (.v 4)) [],jt 46 44 (.load1 (.v 45)) [],jt 47 44 (.faddr 4 (.v 4)) [],jt 48 44 (.load1 (.v 47)) [],jt 49 44 (.bin .leq (.v 46) (.v 48)) [],jh 50 40 (.pick (.v 44) (.v 49) (.c (.bool false))) [],jM 51 40 50 [],jt 52 51 (.faddr 4 (.v 4)) [],jt 53 51 (.load1 (.v 52)) [],jt 54 51 (.bin .lss (.v 53) (ci 16)) [],jh 55 40 (.pick (.v 51) (.v 54) (.c (.bool false))) [],jh 56 40 (.not (.v 55)) [],jp 57 40 56 [],jm 58 57 [],jM 59 58 3 [],jh 60 58 (.bin .gtr (.v 59) (ci 0)) [],jM 61 58 60 [],jt 62 61 (.faddr 0 (.v 4)) [],jt 63 61 (.load1 (.v 62)) [],jt 64 61 (.mv (.v 0)) [],jt 65 61 (.mv (.v 3)) [],jt 66 61 (.binN .sub (.v 65) (ci 1)) [],jt 67 61 (.iaddr 5 (.v 64) (.v 66)) [],jt 68 61 (.faddr 0 (.v 67)) [],jt 69 61 (.load1 (.v 68)) [],jt 70 61 (.bin .leq (.v 63) (.v 69)) [],jh 71 58 (.pick (.v 61) (.v 70) (.c (.bool false))) [],jp 72 58 71 []] [0,3,4,11,12,13,72] [none,none,none,none,none,none,none,none,none,none,none,none,none,none,none,none,none,none,none,none,none,none,none,none,none,none,none,none,none,none,none,none,none,none,none,none,none,none,none,none,none,none,none,none,none,none,none,none,none,none,none,none,none,none,none]) (.cond (.v 72) (jq [jn 2 (.mv (.c (.bool false))) []] [2] .ret) .skip)) (jq [jm 73 0 [],jm 74 3 [3],jn 75 (.slSl 5 (.v 73) none (some (.v 74))) [73,74],jn 76 (.lenL (.v 75)) [],jI 77 0 []] [0,4,11,12,13,75,76,77] (.block 2 (.loop Zw)))))) (.rg [jn 108 (.binN .add (.v 13) (ci 1)) [13],jm 13 108 [108]] [0,11,12,13]))))
/-- impl.HandZonesOk: function 101 -/
def U8 : SFun := { n := 109,res := [.t 2],body := (jq [jn 2 (.mv (.c (.bool false))) [2]] [0] (.seq (jq [jm 7 0 [],jn 8 (.lenL (.v 7)) [7],jn 9 (.call 120 [.v 8,.c (.int .i64 1),.c (.int .i64 4)]) [8],jn 10 (.not (.v 9)) [9]] [0,10] (.cond (.v 10) (jq [jn 2 (.mv (.c (.bool false))) []] [2] .ret) .skip)) (.seq (jq [jm 11 0 [],jn 12 (.lenL (.v 11)) [],jI 13 0 []] [0,11,12,13] (.block 0 (.loop Zx))) (jq [jn 2 (.mv (.c (.bool true))) []] [2] .ret)))) }
theorem Qdd : QY Go.Proofs.Tryz.prog 101 U8 = true := by kernel_rfl
def Uh : SCode := (.rg [jf 19 0 3 [],jl 20 19 [19],jn 21 (.lenL (.v 20)) [20],jc 22 .gtr 21 6 [21],jm 23 22 [22],jh 24 23 (.faddr 1 (.v 3)) [],jh 25 23 (.load1 (.v 24)) [24],jh 26 23 (.lenL (.v 25)) [25],jh 27 23 (.bin .gtr (.v 26) (ci 16)) [26],jp 28 23 27 [23,27],jm 29 28 [28],jh 30 29 (.faddr 2 (.v 3)) [],jh 31 29 (.load1 (.v 30)) [30],jh 32 29 (.lenL (.v 31)) [31],jh 33 29 (.bin .gtr (.v 32) (ci 6)) [32],jp 34 29 33 [29,33]] [2,3,34])
def Ui : SCode := (.rgd [jf 43 0 6 [],jl 44 43 [],jn 45 (.call 103 [.v 44]) [],jn 46 (.not (.v 45)) [],jm 47 46 [],jM 48 47 5 [],jh 49 47 (.bin .gtr (.v 48) (ci 0)) [],jM 50 47 49 [],jt 51 50 (.faddr 0 (.v 6)) [],jt 52 50 (.load1 (.v 51)) [],jt 53 50 (.faddr 0 (.v 3)) [],jt 54 50 (.load1 (.v 53)) [],jt 55 50 (.mv (.v 5)) [],jt 56 50 (.binN .sub (.v 55) (ci 1)) [],jt 57 50 (.iaddr 11 (.v 54) (.v 56)) [],jt 58 50 (.faddr 0 (.v 57)) [],jt 59 50 (.load1 (.v 58)) [],jt 60 50 (.bin .leq (.v 52) (.v 59)) [],jh 61 47 (.pick (.v 50) (.v 60) (.c (.bool false))) [],jp 62 47 61 [],jm 63 62 [],jh 64 63 (.faddr 1 (.v 6)) [],jh 65 63 (.load1 (.v 64)) [],jh 66 63 (.call 120 [.v 65,.c (.int .i64 1),.c (.int .i64 3)]) [],jh 67 63 (.not (.v 66)) [],jp 68 63 67 [],jm 69 68 [],jh 70 69 (.faddr 2 (.v 6)) [],jh 71 69 (.load1 (.v 70)) [],jh 72 69 (.call 125 [.v 71]) [],jh 73 69 (.not (.v 72)) [],jp 74 69 73 [],jm 75 74 [],jh 76 75 (.faddr 4 (.v 6)) [],jh 77 75 (.load1 (.v 76)) [],jh 78 75 (.call 120 [.v 77,.c (.int .i64 0),.c (.int .i64 1000000)]) [],jh 79 75 (.not (.v 78)) [],jp 80 75 79 [],jm 81 80 [],jh 82 81 (.faddr 5 (.v 6)) [],jh 83 81 (.load1 (.v 82)) [],jh 84 81 (.faddr 4 (.v 6)) [],jh 85 81 (.load1 (.v 84)) [],jh 86 81 (.call 120 [.v 83,.c (.int .i64 0),.v 85]) [],jh 87 81 (.not (.v 86)) [],jp 88 81 87 [],jm 89 88 [],jh 90 89 (.faddr 7 (.v 6)) [],jh 91 89 (.load1 (.v 90)) [],jh 92 89 (.faddr 4 (.v 6)) [],jh 93 89 (.load1 (.v 92)) [],jh 94 89 (.call 120 [.v 91,.c (.int .i64 0),.v 93]) [],jh 95 89 (.not (.v 94)) [],jp 96 89 95 [],jm 97 96 [],jh 98 97 (.faddr 7 (.v 6)) [],jh 99 97 (.load1 (.v 98)) [],jh 100 97 (.bin .neq (.v 99) (ci 0)) [],jM 101 97 100 [],jt 102 101 (.faddr 7 (.v 6)) [],jt 103 101 (.load1 (.v 102)) [],jt 104 101 (.faddr 5 (.v 6)) [],jt 105 101 (.load1 (.v 104)) [],jt 106 101 (.bin .leq (.v 103) (.v 105)) [],jh 107 97 (.pick (.v 101) (.v 106) (.c (.bool false))) [],jp 108 97 107 []] [2,3,6,36,37,38,108] [none,none,none,none,none,none,none,none,none,none,none,none,none,none,none,none,none,none,none,none,none,none,none,none,none,none,none,none,none,none,none,none,none,none,none,none,none,none,none,none,none,none,none,none,none,none,none,none,none,none,none,none,none,none,none,none,none,none,none,none,none,none,none,none,none,none])
def Uj : SCode := (.rg [jm 112 7 [],jf 113 3 6 [],jl 114 113 [113],⟨some 115,.bin .eql (.v 114) (.c (.str ⟨#[]⟩)),none,[114]⟩,jn 116 (.eqB true (.v 112) (.v 115)) [112,115],jm 117 116 [116],jM 118 117 7 [],jh 119 117 (.not (.v 118)) [118],jM 120 117 119 [119],jt 121 120 (.load1 (.v 2)) [],jt 122 120 (.faddr 3 (.v 6)) [],jt 123 120 (.load1 (.v 122)) [122],jt 124 120 (.call 86 [.v 121,.v 123]) [121,123],jt 125 120 (.bin .lss (.v 124) (ci 0)) [124],jh 126 117 (.pick (.v 120) (.v 125) (.c (.bool false))) [120,125],jp 127 117 126 [117,126],jm 128 127 [127],jM 129 128 7 [7],jh 130 128 (.not (.v 129)) [129],jM 131 128 130 [130],jt 132 131 (.faddr 7 (.v 6)) [],jt 133 131 (.load1 (.v 132)) [132],jt 134 131 (.bin .neq (.v 133) (ci 0)) [133],jh 135 128 (.pick (.v 131) (.v 134) (.c (.bool false))) [131,134],jp 136 128 135 [128,135]] [2,3,6,36,37,38,136])
def Uk : SCode := (.rg [jf 138 1 6 [],jl 139 138 [138],jc 140 .eql 139 2 [139],jm 141 140 [140],jt 142 141 (.faddr 5 (.v 6)) [],jt 143 141 (.load1 (.v 142)) [142],jt 144 141 (.bin .eql (.v 143) (ci 0)) [143],jn 145 (.pick (.v 141) (.v 144) (.c (.bool false))) [141,144],jm 146 145 [145],jM 147 146 8 [],jh 148 146 (.faddr 5 (.v 6)) [],jh 149 146 (.load1 (.v 148)) [148],jh 150 146 (.faddr 6 (.v 6)) [],jh 151 146 (.load1 (.v 150)) [150],jh 152 146 (.callV (.v 147) [.v 149,.v 151]) [147,149,151],jh 153 146 (.not (.v 152)) [152],jp 154 146 153 [146,153],jm 155 154 [154],jM 156 155 8 [8],jh 157 155 (.faddr 7 (.v 6)) [],jh 158 155 (.load1 (.v 157)) [157],jh 159 155 (.faddr 8 (.v 6)) [],jh 160 155 (.load1 (.v 159)) [159],jh 161 155 (.callV (.v 156) [.v 158,.v 160]) [156,158,160],jh 162 155 (.not (.v 161)) [161],jp 163 155 162 [155,162]] [2,3,6,36,37,38,163])
def Ul : SCode := (.rg [jm 176 10 [],jc 177 .gtr 176 0 [176],jm 178 177 [177],jt 179 178 (.mv (.v 11)) [],jt 180 178 (.faddr 9 (.v 6)) [],jt 181 178 (.load1 (.v 180)) [180],jt 182 178 (.mv (.v 10)) [10],jt 183 178 (.binN .sub (.v 182) (ci 1)) [182],jt 184 178 (.iaddr 1 (.v 181) (.v 183)) [181,183],jt 185 178 (.load1 (.v 184)) [184],jt 186 178 (.bin .leq (.v 179) (.v 185)) [179,185],jn 187 (.pick (.v 178) (.v 186) (.c (.bool false))) [178,186],jm 188 187 [187],jM 189 188 9 [],jM 190 188 11 [11],jh 191 188 (.call 116 [.v 189,.v 190]) [189,190],jh 192 188 (.not (.v 191)) [191],jp 193 188 192 [188,192]] [2,3,6,9,36,37,38,169,170,171,193])
def Qa3 : SCode := (jq [jb 172 .lss 171 170 []] [2,3,6,9,36,37,38,169,170,171,172] (.seq (.cond (.v 172) .skip (.exit 2)) (.seq (.block 3 (jq [jm 173 171 [],ja 174 1 169 171 [],jl 175 174 [174],jm 10 173 [173],jm 11 175 [175]] [2,3,6,9,10,11,36,37,38,169,170,171] (.seq Ul (.cond (.v 193) (jq [jn 4 (.mv (.c (.bool false))) []] [4] .ret) .skip)))) (.rg [jn 194 (.binN .add (.v 171) (ci 1)) [171],jm 171 194 [194]] [2,3,6,9,36,37,38,169,170,171]))))
def Um : SCode := (.rgd [jf 195 10 6 [],jl 196 195 [],jf 197 7 6 [],jl 198 197 [],jc 199 .gtr 198 0 [],jm 200 199 [],jt 201 200 (.faddr 9 (.v 6)) [],jt 202 200 (.load1 (.v 201)) [],jt 203 200 (.mv (.v 9)) [],jt 204 200 (.call 128 [.v 202,.v 203]) [],jn 205 (.pick (.v 200) (.v 204) (.c (.bool false))) [],jn 206 (.eqB true (.v 196) (.v 205)) []] [2,3,36,37,38,206] [some [],some [],none,none,none,none,none,none,none,some [8,7],none,none])
def Qa4 : SCode := (jq [jb 39 .lss 38 37 []] [2,3,36,37,38,39] (.seq (.cond (.v 39) .skip (.exit 0)) (.seq (.block 1 (jq [jm 40 38 [],ja 41 11 36 38 [],jL 42 11 41 [41],jn 6 (.alloc 106 [.str ⟨#[]⟩,.int .i64 0,.int .i64 0,.str ⟨#[]⟩,.int .i64 0,.int .i64 0,.sl 0 6 [],.int .i64 0,.sl 0 6 [],.sl 0 1 [],.bool false]) [],jm 5 40 [40],⟨none,.store 11 (.v 6) (.v 42),none,[42]⟩] [2,3,5,6,36,37,38] (.seq (.seq Ui (.cond (.v 108) (jq [jn 4 (.mv (.c (.bool false))) []] [4] .ret) .skip)) (jq [jf 109 1 6 [],jl 110 109 [109],jc 111 .eql 110 1 [110],jm 7 111 [111]] [2,3,6,7,36,37,38] (.seq (.seq Uj (.cond (.v 136) (jq [jn 4 (.mv (.c (.bool false))) []] [4] .ret) .skip)) (jq [jn 137 (.clos 126 [.v 2]) [],jm 8 137 [137]] [2,3,6,8,36,37,38] (.seq (.seq Uk (.cond (.v 163) (jq [jn 4 (.mv (.c (.bool false))) []] [4] .ret) .skip)) (jq [jl 164 2 [],jf 165 8 6 [],jl 166 165 [165],jn 167 (.call 127 [.v 164,.v 166]) [164,166],jm 9 167 [167]] [2,3,6,9,36,37,38] (.seq (jq [jf 168 9 6 [],jl 169 168 [168],jn 170 (.lenL (.v 169)) [],jI 171 0 []] [2,3,6,9,36,37,38,169,170,171] (.block 2 (.loop Qa3))) (.seq Um (.cond (.v 206) (jq [jn 4 (.mv (.c (.bool false))) []] [4] .ret) .skip))))))))))) (.rg [jn 207 (.binN .add (.v 38) (ci 1)) [38],jm 38 207 [207]] [2,3,36,37,38]))))
def Un : SCode := (.rgd [jf 216 0 13 [],jl 217 216 [],jn 218 (.call 103 [.v 217]) [],jn 219 (.not (.v 218)) [],jm 220 219 [],jh 221 220 (.faddr 1 (.v 13)) [],jh 222 220 (.load1 (.v 221)) [],jh 223 220 (.call 125 [.v 222]) [],jh 224 220 (.not (.v 223)) [],jp 225 220 224 [],jm 226 225 [],jM 227 226 12 [],jh 228 226 (.bin .gtr (.v 227) (ci 0)) [],jM 229 226 228 [],jt 230 229 (.faddr 0 (.v 13)) [],jt 231 229 (.load1 (.v 230)) [],jt 232 229 (.faddr 2 (.v 3)) [],jt 233 229 (.load1 (.v 232)) [],jt 234 229 (.mv (.v 12)) [],jt 235 229 (.binN .sub (.v 234) (ci 1)) [],jt 236 229 (.iaddr 2 (.v 233) (.v 235)) [],jt 237 229 (.faddr 0 (.v 236)) [],jt 238 229 (.load1 (.v 237)) [],jt 239 229 (.bin .leq (.v 231) (.v 238)) [],jh 240 226 (.pick (.v 229) (.v 239) (.c (.bool false))) [],jp 241 226 240 []] [2,3,209,210,211,241] [none,none,none,none,none,none,none,none,none,none,none,none,none,none,none,none,none,none,none,none,none,none,none,none,none,none])
def Qa5 : SCode := (jq [jb 212 .lss 211 210 []] [2,3,209,210,211,212] (.seq (.cond (.v 212) .skip (.exit 4)) (.seq (.block 5 (jq [jm 213 211 [],ja 214 2 209 211 [],jL 215 2 214 [214],jn 13 (.alloc 113 [.str ⟨#[]⟩,.int .i64 0]) [],jm 12 213 [213],⟨none,.store 2 (.v 13) (.v 215),none,[215]⟩] [2,3,12,13,209,210,211] (.seq Un (.cond (.v 241) (jq [jn 4 (.mv (.c (.bool false))) []] [4] .ret) .skip)))) (.rg [jn 242 (.binN .add (.v 211) (ci 1)) [211],jm 211 242 [242]] [2,3,209,210,211]))))
def Uo : SCode := (.rgd [jf 251 0 15 [],jl 252 251 [],jn 253 (.call 103 [.v 252]) [],jn 254 (.not (.v 253)) [],jm 255 254 [],jh 256 255 (.faddr 1 (.v 15)) [],jh 257 255 (.load1 (.v 256)) [],jh 258 255 (.loadN 3 (.v 3)) [],jh 259 255 (.faddr 0 (.v 15)) [],jh 260 255 (.load1 (.v 259)) [],jh 261 255 (.call 129 [.v 258,.v 260]) [],jh 262 255 (.call 120 [.v 257,.c (.int .i64 1),.v 261]) [],jh 263 255 (.not (.v 262)) [],jp 264 255 263 [],jm 265 264 [],jh 266 265 (.load1 (.v 2)) [],jh 267 265 (.faddr 2 (.v 15)) [],jh 268 265 (.load1 (.v 267)) [],jh 269 265 (.call 100 [.v 266,.v 268]) [],jh 270 265 (.not (.v 269)) [],jp 271 265 270 []] [2,3,14,15,244,245,246,271] [none,none,none,none,none,some [],some [],none,none,none,some [4,3],none,none,none,none,none,none,none,none,none,none])
def Up : SCode := (.rg [jf 280 0 15 [],jl 281 280 [280],jf 282 0 16 [],jl 283 282 [282],jb 284 .lss 281 283 [281,283],jm 285 284 [284],jh 286 285 (.faddr 0 (.v 15)) [],jh 287 285 (.load1 (.v 286)) [286],jh 288 285 (.faddr 0 (.v 16)) [],jh 289 285 (.load1 (.v 288)) [288],jh 290 285 (.bin .eql (.v 287) (.v 289)) [287,289],jM 291 285 290 [290],jt 292 291 (.faddr 1 (.v 15)) [],jt 293 291 (.load1 (.v 292)) [292],jt 294 291 (.faddr 1 (.v 16)) [16],jt 295 291 (.load1 (.v 294)) [294],jt 296 291 (.bin .leq (.v 293) (.v 295)) [293,295],jh 297 285 (.pick (.v 291) (.v 296) (.c (.bool false))) [291,296],jp 298 285 297 [285,297]] [2,3,14,15,244,245,246,298])
def Uq : SCode := (.rg [jf 308 0 18 [],jl 309 308 [308],jf 310 0 15 [],jl 311 310 [310],jb 312 .neq 309 311 [309,311],jm 313 312 [312],jt 314 313 (.faddr 2 (.v 18)) [18],jt 315 313 (.load1 (.v 314)) [314],jt 316 313 (.faddr 2 (.v 15)) [],jt 317 313 (.load1 (.v 316)) [316],jt 318 313 (.call 130 [.v 315,.v 317]) [315,317],jn 319 (.pick (.v 313) (.v 318) (.c (.bool false))) [313,318]] [2,3,15,244,245,246,302,303,304,319])
def Ur : SCode := (jq [jb 305 .lss 304 303 []] [2,3,15,244,245,246,302,303,304,305] (.seq (.cond (.v 305) .skip (.exit 8)) (.seq (.block 9 (jq [ja 306 3 302 304 [],jL 307 3 306 [306],jn 18 (.alloc 118 [.str ⟨#[]⟩,.int .i64 0,.sl 0 6 []]) [],⟨none,.store 3 (.v 18) (.v 307),none,[307]⟩] [2,3,15,18,244,245,246,302,303,304] (.seq Uq (.cond (.v 319) (jq [jn 4 (.mv (.c (.bool false))) []] [4] .ret) .skip)))) (.rg [jn 320 (.binN .add (.v 304) (ci 1)) [304],jm 304 320 [320]] [2,3,15,244,245,246,302,303,304]))))
def Qa6 : SCode := (jq [jb 247 .lss 246 245 []] [2,3,244,245,246,247] (.seq (.cond (.v 247) .skip (.exit 6)) (.seq (.block 7 (jq [jm 248 246 [],ja 249 3 244 246 [],jL 250 3 249 [249],jn 15 (.alloc 115 [.str ⟨#[]⟩,.int .i64 0,.sl 0 6 []]) [],jm 14 248 [248],⟨none,.store 3 (.v 15) (.v 250),none,[250]⟩] [2,3,14,15,244,245,246] (.seq (.seq Uo (.cond (.v 271) (jq [jn 4 (.mv (.c (.bool false))) []] [4] .ret) .skip)) (.seq (jq [jm 272 14 [],jc 273 .gtr 272 0 [272]] [2,3,14,15,244,245,246,273] (.cond (.v 273) (jq [jf 274 1 3 [],jl 275 274 [274],jm 276 14 [],jn 277 (.binN .sub (.v 276) (ci 1)) [276],ja 278 3 275 277 [275,277],jL 279 3 278 [278],jn 16 (.alloc 116 [.str ⟨#[]⟩,.int .i64 0,.sl 0 6 []]) [],⟨none,.store 3 (.v 16) (.v 279),none,[279]⟩] [2,3,14,15,16,244,245,246] (.seq Up (.cond (.v 298) (jq [jn 4 (.mv (.c (.bool false))) []] [4] .ret) .skip))) .skip)) (jq [jf 299 1 3 [],jl 300 299 [299],jm 301 14 [14],jn 302 (.slSl 3 (.v 300) none (some (.v 301))) [300,301],jn 303 (.lenL (.v 302)) [],jI 304 0 []] [2,3,15,244,245,246,302,303,304] (.block 8 (.loop Ur))))))) (.rg [jn 321 (.binN .add (.v 246) (ci 1)) [246],jm 246 321 [321]] [2,3,244,245,246]))))
/-- impl.bookOk: function 102 -/
def Qde : SFun := { n := 322,res := [.t 4],body := (jq [jn 2 (.box 102 (.v 0)) [0],jn 3 (.box 103 (.v 1)) [1],jn 4 (.mv (.c (.bool false))) [4]] [2,3] (.seq (.seq Uh (.cond (.v 34) (jq [jn 4 (.mv (.c (.bool false))) []] [4] .ret) .skip)) (.seq (jq [jf 35 0 3 [],jl 36 35 [35],jn 37 (.lenL (.v 36)) [],jI 38 0 []] [2,3,36,37,38] (.block 0 (.loop Qa4))) (.seq (jq [jf 208 2 3 [],jl 209 208 [208],jn 210 (.lenL (.v 209)) [],jI 211 0 []] [2,3,209,210,211] (.block 4 (.loop Qa5))) (.seq (jq [jf 243 1 3 [],jl 244 243 [243],jn 245 (.lenL (.v 244)) [],jI 246 0 []] [2,3,244,245,246] (.block 6 (.loop Qa6))) (jq [jn 4 (.mv (.c (.bool true))) []] [4] .ret)))))) }
theorem Qjb : QY Go.Proofs.Tryz.prog 102 Qde = true := by kernel_rfl
def Qa7 : SCode := (.seq (jq [jm 13 3 [],jm 14 0 [],jn 15 (.lenS (.v 14)) [14],jb 16 .lss 13 15 [13,15]] [0,3,16] (.cond (.v 16) .skip (.exit 0))) (.seq (.block 1 (jq [jm 19 0 [],jm 20 3 [],jn 21 (.istr (.v 19) (.v 20)) [19,20],jm 4 21 [21]] [0,3,4] (jq [jm 22 4 [],jn 23 (.bin .geq (.v 22) (.c (.int .u8 97))) [22],jm 24 23 [23],jt 25 24 (.mv (.v 4)) [],jt 26 24 (.bin .leq (.v 25) (.c (.int .u8 122))) [25],jn 27 (.pick (.v 24) (.v 26) (.c (.bool false))) [24,26],jm 28 27 [27],jM 29 28 4 [],jh 30 28 (.bin .geq (.v 29) (.c (.int .u8 48))) [29],jM 31 28 30 [30],jt 32 31 (.mv (.v 4)) [],jt 33 31 (.bin .leq (.v 32) (.c (.int .u8 57))) [32],jh 34 28 (.pick (.v 31) (.v 33) (.c (.bool false))) [31,33],jp 35 28 34 [28,34],jm 36 35 [35],jM 37 36 4 [4],jh 38 36 (.bin .eql (.v 37) (.c (.int .u8 45))) [37],jp 39 36 38 [36,38],jn 40 (.not (.v 39)) [39]] [0,3,40] (.cond (.v 40) (jq [jn 2 (.mv (.c (.bool false))) []] [2] .ret) .skip)))) (.rg [jm 17 3 [3],jn 18 (.binN .add (.v 17) (ci 1)) [17],jm 3 18 [18]] [0,3])))
/-- impl.isName: function 103 -/
def Qdf : SFun := { n := 41,res := [.t 2],body := (jq [jn 2 (.mv (.c (.bool false))) [2]] [0] (.seq (jq [jm 5 0 [],jn 6 (.lenS (.v 5)) [5],jc 7 .lss 6 1 [6],jm 8 7 [7],jM 9 8 0 [],jh 10 8 (.lenS (.v 9)) [9],jh 11 8 (.bin .gtr (.v 10) (ci 8)) [10],jp 12 8 11 [8,11]] [0,12] (.cond (.v 12) (jq [jn 2 (.mv (.c (.bool false))) []] [2] .ret) .skip)) (.seq (jq [jI 3 0 []] [0,3] (.block 0 (.loop Qa7))) (jq [jn 2 (.mv (.c (.bool true))) []] [2] .ret)))) }
theorem Qjc : QY Go.Proofs.Tryz.prog 103 Qdf = true := by kernel_rfl
def U9 : SCode := (.seq (jq [jm 12 5 [],jm 13 0 [],jn 14 (.lenL (.v 13)) [13],jb 15 .lss 12 14 [12,14]] [0,1,5,15] (.cond (.v 15) .skip (.exit 0))) (.seq (.block 1 (jq [jm 18 1 [1],jm 19 0 [],jm 20 5 [],ja 21 1 19 20 [19,20],jl 22 21 [21],jn 23 (.lenS (.v 22)) [22],jn 24 (.binN .sub (.v 18) (.v 23)) [18,23],jm 1 24 [24]] [0,1,5] (jq [jm 25 1 [],jc 26 .lss 25 0 [25]] [0,1,5,26] (.cond (.v 26) (jq [jn 4 (.mv (.c (.int .i64 (-1)))) []] [4] .ret) .skip)))) (.rg [jm 16 5 [5],jn 17 (.binN .add (.v 16) (ci 1)) [16],jm 5 17 [17]] [0,1,5])))
/-- laws.szStringS: function 105 -/
def Qas : SFun := { n := 28,res := [.t 4],body := (jq [jI 4 0 [4]] [0,1] (jq [jm 6 1 [1],jm 7 0 [],jn 8 (.lenL (.v 7)) [7],jn 9 (.binN .sub (.v 6) (.v 8)) [6,8],jm 1 9 [9]] [0,1] (.seq (jq [jm 10 1 [],jc 11 .lss 10 0 [10]] [0,1,11] (.cond (.v 11) (jq [jn 4 (.mv (.c (.int .i64 (-1)))) []] [4] .ret) .skip)) (.seq (jq [jI 5 0 []] [0,1,5] (.block 0 (.loop U9))) (jq [jm 27 1 [1],jm 4 27 [27]] [4] .ret))))) }
theorem QfQ : QY Go.Proofs.Tryz.prog 105 Qas = true := by kernel_rfl
def XA : SCode := (.rg [jf 5 0 3 [],jl 6 5 [5],jn 7 (.call 70 [.v 6]) [6],jn 8 (.not (.v 7)) [7],jm 9 8 [8],jh 10 9 (.faddr 1 (.v 3)) [],jh 11 9 (.load1 (.v 10)) [10],jh 12 9 (.call 80 [.v 11,.c (.int .i64 1),.c (.int .i64 3)]) [11],jh 13 9 (.not (.v 12)) [12],jp 14 9 13 [9,13],jm 15 14 [14],jh 16 15 (.faddr 2 (.v 3)) [],jh 17 15 (.load1 (.v 16)) [16],jh 18 15 (.call 80 [.v 17,.c (.int .i64 1),.c (.int .i64 1000000)]) [17],jh 19 15 (.not (.v 18)) [18],jp 20 15 19 [15,19],jm 21 20 [20],jh 22 21 (.faddr 4 (.v 3)) [],jh 23 21 (.load1 (.v 22)) [22],jh 24 21 (.call 80 [.v 23,.c (.int .i64 0),.c (.int .i64 1000000)]) [23],jh 25 21 (.not (.v 24)) [24],jp 26 21 25 [21,25],jm 27 26 [26],jh 28 27 (.faddr 5 (.v 3)) [],jh 29 27 (.load1 (.v 28)) [28],jh 30 27 (.faddr 4 (.v 3)) [],jh 31 27 (.load1 (.v 30)) [30],jh 32 27 (.call 80 [.v 29,.c (.int .i64 0),.v 31]) [29,31],jh 33 27 (.not (.v 32)) [32],jp 34 27 33 [27,33],jm 35 34 [34],jh 36 35 (.faddr 7 (.v 3)) [],jh 37 35 (.load1 (.v 36)) [36],jh 38 35 (.faddr 4 (.v 3)) [],jh 39 35 (.load1 (.v 38)) [38],jh 40 35 (.call 80 [.v 37,.c (.int .i64 0),.v 39]) [37,39],jh 41 35 (.not (.v 40)) [40],jp 42 35 41 [35,41],jm 43 42 [42],jh 44 43 (.faddr 7 (.v 3)) [],jh 45 43 (.load1 (.v 44)) [44],jh 46 43 (.bin .gtr (.v 45) (ci 0)) [45],jM 47 43 46 [46],jt 48 47 (.faddr 7 (.v 3)) [],jt 49 47 (.load1 (.v 48)) [48],jt 50 47 (.faddr 5 (.v 3)) [],jt 51 47 (.load1 (.v 50)) [50],jt 52 47 (.bin .leq (.v 49) (.v 51)) [49,51],jh 53 43 (.pick (.v 47) (.v 52) (.c (.bool false))) [47,52],jp 54 43 53 [43,53]] [0,3,54])
def XB : SCode := (.rg [jf 55 1 3 [],jl 56 55 [55],jc 57 .eql 56 1 [56],jf 58 3 3 [],jl 59 58 [58],⟨some 60,.bin .eql (.v 59) (.c (.str ⟨#[]⟩)),none,[59]⟩,jn 61 (.eqB true (.v 57) (.v 60)) [57,60],jm 62 61 [61],jh 63 62 (.faddr 3 (.v 3)) [],jh 64 62 (.load1 (.v 63)) [63],⟨some 65,.bin .neq (.v 64) (.c (.str ⟨#[]⟩)),some (62,false),[64]⟩,jM 66 62 65 [65],jt 67 66 (.mv (.v 0)) [],jt 68 66 (.faddr 3 (.v 3)) [],jt 69 66 (.load1 (.v 68)) [68],jt 70 66 (.call 36 [.v 67,.v 69]) [67,69],jt 71 66 (.bin .lss (.v 70) (ci 0)) [70],jh 72 62 (.pick (.v 66) (.v 71) (.c (.bool false))) [66,71],jp 73 62 72 [62,72],jm 74 73 [73],jh 75 74 (.faddr 1 (.v 3)) [],jh 76 74 (.load1 (.v 75)) [75],jh 77 74 (.bin .neq (.v 76) (ci 1)) [76],jM 78 74 77 [77],jt 79 78 (.faddr 7 (.v 3)) [],jt 80 78 (.load1 (.v 79)) [79],jt 81 78 (.bin .gtr (.v 80) (ci 0)) [80],jh 82 74 (.pick (.v 78) (.v 81) (.c (.bool false))) [78,81],jp 83 74 82 [74,82],jm 84 83 [83],jh 85 84 (.faddr 1 (.v 3)) [],jh 86 84 (.load1 (.v 85)) [85],jh 87 84 (.bin .eql (.v 86) (ci 2)) [86],jM 88 84 87 [87],jt 89 88 (.faddr 5 (.v 3)) [],jt 90 88 (.load1 (.v 89)) [89],jt 91 88 (.bin .eql (.v 90) (ci 0)) [90],jh 92 84 (.pick (.v 88) (.v 91) (.c (.bool false))) [88,91],jp 93 84 92 [84,92]] [0,3,93])
def XC : SCode := (.rg [jm 94 0 [],jf 95 5 3 [],jl 96 95 [95],jf 97 6 3 [],jl 98 97 [97],jn 99 (.call 134 [.v 94,.v 96,.v 98]) [94,96,98],jm 100 99 [99],jt 101 100 (.mv (.v 0)) [],jt 102 100 (.faddr 7 (.v 3)) [],jt 103 100 (.load1 (.v 102)) [102],jt 104 100 (.faddr 8 (.v 3)) [],jt 105 100 (.load1 (.v 104)) [104],jt 106 100 (.call 134 [.v 101,.v 103,.v 105]) [101,103,105],jn 107 (.pick (.v 100) (.v 106) (.c (.bool false))) [100,106],jm 108 107 [107],jt 109 108 (.mv (.v 0)) [0],jt 110 108 (.loadN 11 (.v 3)) [3],jt 111 108 (.call 135 [.v 109,.v 110]) [109,110],jn 112 (.pick (.v 108) (.v 111) (.c (.bool false))) [108,111],jm 4 112 [112]] [4])
/-- spec.l33OwnOk: function 106 -/
def Qa8 : SFun := { n := 113,res := [.t 4],body := (jq [jn 3 (.box 103 (.v 1)) [1],jn 4 (.mv (.c (.bool false))) [4]] [0,3] (.seq (.seq XA (.cond (.v 54) (jq [jn 4 (.mv (.c (.bool false))) []] [4] .ret) .skip)) (.seq (.seq XB (.cond (.v 93) (jq [jn 4 (.mv (.c (.bool false))) []] [4] .ret) .skip)) (.seq XC .ret)))) }
theorem Qg2 : QY Go.Proofs.Tryz.prog 106 Qa8 = true := by kernel_rfl
def Qat : SCode := (.seq (jq [jm 6 5 [],jf 7 2 2 [],jl 8 7 [7],jn 9 (.lenL (.v 8)) [8],jb 10 .lss 6 9 [6,9]] [1,2,5,10] (.cond (.v 10) .skip (.exit 0))) (.seq (.block 1 (jq [jf 13 2 2 [],jl 14 13 [13],jm 15 5 [],ja 16 2 14 15 [14,15],jf 17 0 16 [16],jl 18 17 [17],jm 19 1 [],jb 20 .eql 18 19 [18,19]] [1,2,5,20] (.cond (.v 20) (jq [jf 21 2 2 [2],jl 22 21 [21],jm 23 5 [5],ja 24 2 22 23 [22,23],jf 25 1 24 [24],jl 26 25 [25],jm 4 26 [26]] [4] .ret) .skip))) (.rg [jm 11 5 [5],jn 12 (.binN .add (.v 11) (ci 1)) [11],jm 5 12 [12]] [1,2,5])))
/-- spec.l33Seen: function 107 -/
def Qcd : SFun := { n := 27,res := [.t 4],body := (jq [jn 2 (.box 102 (.v 0)) [0],jI 4 0 [4]] [1,2] (.seq (jq [jI 5 0 []] [1,2,5] (.block 0 (.loop Qat))) (jq [jI 4 0 []] [4] .ret))) }
theorem Qib : QY Go.Proofs.Tryz.prog 107 Qcd = true := by kernel_rfl
/-- spec.l33Before: function 108 -/
def Qau : SFun := { n := 24,res := [.t 4],body := (jq [jn 2 (.box 102 (.v 0)) [0],jn 3 (.box 103 (.v 1)) [1],jn 4 (.mv (.c (.bool false))) [4]] [2,3] (jq [jf 5 0 2 [],jl 6 5 [5],jf 7 0 3 [],jl 8 7 [7],jb 9 .lss 6 8 [6,8],jm 10 9 [9],jh 11 10 (.faddr 0 (.v 2)) [],jh 12 10 (.load1 (.v 11)) [11],jh 13 10 (.faddr 0 (.v 3)) [],jh 14 10 (.load1 (.v 13)) [13],jh 15 10 (.bin .eql (.v 12) (.v 14)) [12,14],jM 16 10 15 [15],jt 17 16 (.faddr 1 (.v 2)) [2],jt 18 16 (.load1 (.v 17)) [17],jt 19 16 (.faddr 1 (.v 3)) [3],jt 20 16 (.load1 (.v 19)) [19],jt 21 16 (.bin .lss (.v 18) (.v 20)) [18,20],jh 22 10 (.pick (.v 16) (.v 21) (.c (.bool false))) [16,21],jp 23 10 22 [10,22],jm 4 23 [23]] [4] .ret)) }
theorem QfR : QY Go.Proofs.Tryz.prog 108 Qau = true := by kernel_rfl
def WN : SCode := (.seq (jq [jm 13 6 [],jm 14 1 [],jn 15 (.lenL (.v 14)) [14],jb 16 .lss 13 15 [13,15]] [0,1,5,6,16] (.cond (.v 16) .skip (.exit 2))) (.seq (.block 3 (.seq (.rgd [jm 19 0 [],jm 20 5 [],ja 21 6 19 20 [],jL 22 6 21 [],jm 23 1 [],jm 24 6 [],ja 25 6 23 24 [],jL 26 6 25 [],jn 27 (.call 136 [.v 22,.v 26]) []] [0,1,5,6,27] [none,none,none,none,none,none,none,none,none]) (.cond (.v 27) (jq [jn 4 (.mv (.c (.bool true))) []] [4] .ret) .skip))) (.rg [jm 17 6 [6],jn 18 (.binN .add (.v 17) (ci 1)) [17],jm 6 18 [18]] [0,1,5,6])))
def WO : SCode := (.seq (jq [jm 7 5 [],jm 8 0 [],jn 9 (.lenL (.v 8)) [8],jb 10 .lss 7 9 [7,9]] [0,1,5,10] (.cond (.v 10) .skip (.exit 0))) (.seq (.block 1 (jq [jI 6 0 []] [0,1,5,6] (.block 2 (.loop WN)))) (.rg [jm 11 5 [5],jn 12 (.binN .add (.v 11) (ci 1)) [11],jm 5 12 [12]] [0,1,5])))
/-- spec.HandNear: function 109 -/
def Qa9 : SFun := { n := 28,res := [.t 4],body := (jq [jn 4 (.mv (.c (.bool false))) [4]] [0,1] (.seq (jq [jI 5 0 []] [0,1,5] (.block 0 (.loop WO))) (jq [jn 4 (.mv (.c (.bool false))) []] [4] .ret))) }
theorem Qg3 : QY Go.Proofs.Tryz.prog 109 Qa9 = true := by kernel_rfl
/-- spec.l31ZoneOk: function 110 -/
def Qav : SFun := { n := 6,res := [.t 2],body := (jq [jn 1 (.box 101 (.v 0)) [0],jn 2 (.mv (.c (.bool false))) [2]] [1] (jq [jL 3 5 1 [1],jn 4 (.lit 76 5 [.v 3]) [3],jn 5 (.call 77 [.v 4]) [4],jm 2 5 [5]] [2] .ret)) }
theorem QfS : QY Go.Proofs.Tryz.prog 110 Qav = true := by kernel_rfl
/-- spec.l31Sees: function 111 -/
def Qce : SFun := { n := 33,res := [.t 4],body := (jq [jn 2 (.box 102 (.v 0)) [0],jn 3 (.box 103 (.v 1)) [1],jn 4 (.mv (.c (.bool false))) [4]] [2,3] (jq [jL 5 6 3 [],jn 6 (.call 99 [.v 5]) [5],jm 7 6 [6],jt 8 7 (.faddr 0 (.v 3)) [],jt 9 7 (.load1 (.v 8)) [8],jt 10 7 (.faddr 1 (.v 2)) [],jt 11 7 (.load1 (.v 10)) [10],jt 12 7 (.binN .sub (.v 11) (ci 2)) [11],jt 13 7 (.binN .add (.v 12) (ci 1)) [12],jt 14 7 (.faddr 3 (.v 2)) [],jt 15 7 (.load1 (.v 14)) [14],jt 16 7 (.binN .add (.v 15) (ci 2)) [15],jt 17 7 (.binN .sub (.v 16) (ci 1)) [16],jt 18 7 (.call 80 [.v 9,.v 13,.v 17]) [9,13,17],jn 19 (.pick (.v 7) (.v 18) (.c (.bool false))) [7,18],jm 20 19 [19],jt 21 20 (.faddr 1 (.v 3)) [3],jt 22 20 (.load1 (.v 21)) [21],jt 23 20 (.faddr 2 (.v 2)) [],jt 24 20 (.load1 (.v 23)) [23],jt 25 20 (.binN .sub (.v 24) (ci 2)) [24],jt 26 20 (.binN .add (.v 25) (ci 1)) [25],jt 27 20 (.faddr 4 (.v 2)) [2],jt 28 20 (.load1 (.v 27)) [27],jt 29 20 (.binN .add (.v 28) (ci 2)) [28],jt 30 20 (.binN .sub (.v 29) (ci 1)) [29],jt 31 20 (.call 80 [.v 22,.v 26,.v 30]) [22,26,30],jn 32 (.pick (.v 20) (.v 31) (.c (.bool false))) [20,31],jm 4 32 [32]] [4] .ret)) }
theorem Qic : QY Go.Proofs.Tryz.prog 111 Qce = true := by kernel_rfl
def Va : SCode := (.seq (jq [jm 8 4 [],jm 9 0 [],jn 10 (.lenL (.v 9)) [9],jb 11 .lss 8 10 [8,10]] [0,3,4,11] (.cond (.v 11) .skip (.exit 0))) (.seq (.block 1 (.rg [jm 14 3 [],jm 15 4 [],jm 16 0 [],jm 17 4 [],ja 18 1 16 17 [16,17],jl 19 18 [18],ja 20 1 14 15 [14,15],⟨none,.store 1 (.v 20) (.v 19),none,[19,20]⟩] [0,3,4])) (.rg [jm 12 4 [4],jn 13 (.binN .add (.v 12) (ci 1)) [12],jm 4 13 [13]] [0,3,4])))
/-- laws.toStringS: function 112 -/
def Qaw : SFun := { n := 22,res := [.t 2],body := (jq [jn 2 (.mv (.c (.sl 0 1 []))) [2]] [0] (jq [jm 5 0 [],jn 6 (.lenL (.v 5)) [5],⟨some 7,.mk 107 9 1 [.str ⟨#[]⟩] (.v 6),none,[6]⟩,jm 3 7 [7]] [0,3] (.seq (jq [jI 4 0 []] [0,3,4] (.block 0 (.loop Va))) (jq [jm 21 3 [3],jm 2 21 [21]] [2] (.gh (.frzE 2) .ret))))) }
theorem QfT : QY Go.Proofs.Tryz.prog 112 Qaw = true := by kernel_rfl
def Yd : SCode := (jq [jb 9 .lss 8 7 []] [0,1,7,8,9] (.seq (.cond (.v 9) .skip (.exit 0)) (.seq (.block 1 (jq [jm 10 8 [],jm 5 10 [10]] [0,1,5,7,8] (jq [jm 11 1 [],jm 12 0 [],jm 13 5 [],ja 14 5 12 13 [12,13],jL 15 5 14 [14],jn 16 (.callV (.v 11) [.v 15]) [11,15]] [0,1,5,7,8,16] (.cond (.v 16) (jq [jm 17 5 [5],jm 4 17 [17]] [4] .ret) .skip)))) (.rg [jn 18 (.binN .add (.v 8) (ci 1)) [8],jm 8 18 [18]] [0,1,7,8]))))
/-- impl.HandZone]: function 113 -/
def YC : SFun := { n := 19,res := [.t 4],body := (jq [jI 4 0 [4]] [0,1] (.seq (jq [jm 6 0 [],jn 7 (.lenL (.v 6)) [6],jI 8 0 []] [0,1,7,8] (.block 0 (.loop Yd))) (jq [jn 4 (.mv (.c (.int .i64 (-1)))) []] [4] .ret))) }
theorem Us : QY Go.Proofs.Tryz.prog 113 YC = true := by kernel_rfl
end Go.Ve

namespace Go.Ve
open Go.Proofs
set_option maxRecDepth 100000
/-- impl.zoneAt$1: function 114 -/
def Qba : SFun := { n := 8,res := [.t 3],body := (jq [jn 2 (.box 102 (.v 0)) [0],jn 3 (.mv (.c (.bool false))) [3]] [1,2] (jq [jf 4 0 2 [2],jl 5 4 [4],jl 6 1 [1],jb 7 .eql 5 6 [5,6],jm 3 7 [7]] [3] .ret)) }
theorem Qg4 : QY Go.Proofs.Tryz.prog 114 Qba = true := by kernel_rfl
def Ut : SCode := (jq [jb 15 .lss 14 13 []] [2,5,12,13,14,15] (.seq (.cond (.v 15) .skip (.exit 0)) (.seq (.block 1 (jq [ja 16 6 12 14 [],jL 17 6 16 [16],jn 7 (.alloc 107 [.int .i64 0,.int .i64 0,.int .i64 0,.int .i64 0,.int .i64 0,.int .i64 0]) [],⟨none,.store 6 (.v 7) (.v 17),none,[17]⟩] [2,5,7,12,13,14] (jq [jL 18 6 7 [],jn 19 (.call 121 [.v 18]) [18],jm 20 19 [19],jt 21 20 (.faddr 0 (.v 7)) [],jt 22 20 (.load1 (.v 21)) [21],jt 23 20 (.faddr 1 (.v 2)) [],jt 24 20 (.load1 (.v 23)) [23],jt 25 20 (.binN .sub (.v 24) (ci 1)) [24],jt 26 20 (.faddr 3 (.v 2)) [],jt 27 20 (.load1 (.v 26)) [26],jt 28 20 (.binN .add (.v 27) (ci 1)) [27],jt 29 20 (.call 120 [.v 22,.v 25,.v 28]) [22,25,28],jn 30 (.pick (.v 20) (.v 29) (.c (.bool false))) [20,29],jm 31 30 [30],jt 32 31 (.faddr 1 (.v 7)) [],jt 33 31 (.load1 (.v 32)) [32],jt 34 31 (.faddr 2 (.v 2)) [],jt 35 31 (.load1 (.v 34)) [34],jt 36 31 (.binN .sub (.v 35) (ci 1)) [35],jt 37 31 (.faddr 4 (.v 2)) [],jt 38 31 (.load1 (.v 37)) [37],jt 39 31 (.binN .add (.v 38) (ci 1)) [38],jt 40 31 (.call 120 [.v 33,.v 36,.v 39]) [33,36,39],jn 41 (.pick (.v 31) (.v 40) (.c (.bool false))) [31,40]] [2,5,7,12,13,14,41] (.cond (.v 41) (.rg [jm 42 5 [5],jL 43 6 7 [7],jn 44 (.lit 100 6 [.v 43]) [43],jn 45 (.app 105 100 6 (.v 42) (.v 44)) [42,44],jm 5 45 [45]] [2,5,12,13,14]) .skip)))) (.rg [jn 46 (.binN .add (.v 14) (ci 1)) [14],jm 14 46 [46]] [2,5,12,13,14]))))
/-- impl.HandPartOf: function 115 -/
def WP : SFun := { n := 48,res := [.t 4],body := (jq [jn 2 (.box 102 (.v 0)) [0],jn 4 (.mv (.c (.sl 0 6 []))) [4]] [1,2] (.seq (jq [jL 8 5 2 [],jn 9 (.lit 76 5 [.v 8]) [8],jn 10 (.call 101 [.v 9]) [9],jn 11 (.not (.v 10)) [10]] [1,2,11] (.cond (.v 11) (jq [jn 4 (.mv (.c (.sl 0 6 []))) []] [4] (.gh (.frzE 4) .ret)) .skip)) (jq [jn 5 (.newnil 105 100 6) []] [1,2,5] (.seq (jq [jm 12 1 [1],jn 13 (.lenL (.v 12)) [],jI 14 0 []] [2,5,12,13,14] (.block 0 (.loop Ut))) (jq [jm 47 5 [5],jm 4 47 [47]] [4] (.gh (.frzE 4) .ret)))))) }
theorem Qe3 : QY Go.Proofs.Tryz.prog 115 WP = true := by kernel_rfl
/-- slices.Contains[[]string,string]: function 116 -/
def Gy : SFun := { n := 9,res := [.t 4],body := (jq [jn 4 (.mv (.c (.bool false))) [4]] [0,1] (jq [jm 5 0 [0],jm 6 1 [1],jn 7 (.call 137 [.v 5,.v 6]) [5,6],jc 8 .geq 7 0 [7],jm 4 8 [8]] [4] .ret)) }
theorem WQ : QY Go.Proofs.Tryz.prog 116 Gy = true := by kernel_rfl
def Vb : SCode := (.seq (jq [jm 11 5 [],jm 12 0 [],jn 13 (.lenL (.v 12)) [12],jb 14 .lss 11 13 [11,13]] [0,1,5,14] (.cond (.v 14) .skip (.exit 0))) (.seq (.block 1 (.seq (.rgd [jm 17 0 [],jm 18 5 [],ja 19 1 17 18 [],jl 20 19 [],jm 21 1 [],jm 22 5 [],ja 23 1 21 22 [],jl 24 23 [],jb 25 .neq 20 24 []] [0,1,5,25] [none,none,none,none,none,none,none,none,none]) (.cond (.v 25) (jq [jn 4 (.mv (.c (.bool false))) []] [4] .ret) .skip))) (.rg [jm 15 5 [5],jn 16 (.binN .add (.v 15) (ci 1)) [15],jm 5 16 [16]] [0,1,5])))
/-- laws.eqStringS: function 117 -/
def Qax : SFun := { n := 26,res := [.t 4],body := (jq [jn 4 (.mv (.c (.bool false))) [4]] [0,1] (.seq (jq [jm 6 0 [],jn 7 (.lenL (.v 6)) [6],jm 8 1 [],jn 9 (.lenL (.v 8)) [8],jb 10 .neq 7 9 [7,9]] [0,1,10] (.cond (.v 10) (jq [jn 4 (.mv (.c (.bool false))) []] [4] .ret) .skip)) (.seq (jq [jI 5 0 []] [0,1,5] (.block 0 (.loop Vb))) (jq [jn 4 (.mv (.c (.bool true))) []] [4] .ret)))) }
theorem QfU : QY Go.Proofs.Tryz.prog 117 Qax = true := by kernel_rfl
def Ys : SCode := (jq [jb 9 .lss 8 7 []] [0,1,7,8,9] (.seq (.cond (.v 9) .skip (.exit 0)) (.seq (.block 1 (jq [jm 10 8 [],jm 5 10 [10]] [0,1,5,7,8] (jq [jm 11 1 [],jm 12 0 [],jm 13 5 [],ja 14 11 12 13 [12,13],jL 15 11 14 [14],jn 16 (.callV (.v 11) [.v 15]) [11,15]] [0,1,5,7,8,16] (.cond (.v 16) (jq [jm 17 5 [5],jm 4 17 [17]] [4] .ret) .skip)))) (.rg [jn 18 (.binN .add (.v 8) (ci 1)) [8],jm 8 18 [18]] [0,1,7,8]))))
/-- impl.HandOwn]: function 118 -/
def YZ : SFun := { n := 19,res := [.t 4],body := (jq [jI 4 0 [4]] [0,1] (.seq (jq [jm 6 0 [],jn 7 (.lenL (.v 6)) [6],jI 8 0 []] [0,1,7,8] (.block 0 (.loop Ys))) (jq [jn 4 (.mv (.c (.int .i64 (-1)))) []] [4] .ret))) }
theorem UO : QY Go.Proofs.Tryz.prog 118 YZ = true := by kernel_rfl
/-- impl.HandBook).own$1: function 119 -/
def XR : SFun := { n := 8,res := [.t 3],body := (jq [jn 2 (.box 102 (.v 0)) [0],jn 3 (.mv (.c (.bool false))) [3]] [1,2] (jq [jf 4 0 2 [2],jl 5 4 [4],jl 6 1 [1],jb 7 .eql 5 6 [5,6],jm 3 7 [7]] [3] .ret)) }
theorem Qbb : QY Go.Proofs.Tryz.prog 119 XR = true := by kernel_rfl
/-- impl.within: function 120 -/
def Qdg : SFun := { n := 15,res := [.t 6],body := (jq [jn 6 (.mv (.c (.bool false))) [6]] [0,1,2] (jq [jm 7 0 [],jm 8 1 [1],jb 9 .geq 7 8 [7,8],jm 10 9 [9],jt 11 10 (.mv (.v 0)) [0],jt 12 10 (.mv (.v 2)) [2],jt 13 10 (.bin .leq (.v 11) (.v 12)) [11,12],jn 14 (.pick (.v 10) (.v 13) (.c (.bool false))) [10,13],jm 6 14 [14]] [6] .ret)) }
theorem Qjd : QY Go.Proofs.Tryz.prog 120 Qdg = true := by kernel_rfl
/-- impl.handBox: function 121 -/
def Qcf : SFun := { n := 45,res := [.t 2],body := (jq [jn 1 (.box 101 (.v 0)) [0],jn 2 (.mv (.c (.bool false))) [2]] [1] (jq [jf 3 0 1 [],jl 4 3 [3],jn 5 (.call 120 [.v 4,.c (.int .i64 0),.c (.int .i64 15)]) [4],jm 6 5 [5],jt 7 6 (.faddr 1 (.v 1)) [],jt 8 6 (.load1 (.v 7)) [7],jt 9 6 (.call 120 [.v 8,.c (.int .i64 0),.c (.int .i64 15)]) [8],jn 10 (.pick (.v 6) (.v 9) (.c (.bool false))) [6,9],jm 11 10 [10],jt 12 11 (.faddr 2 (.v 1)) [],jt 13 11 (.load1 (.v 12)) [12],jt 14 11 (.bin .leq (ci 0) (.v 13)) [13],jn 15 (.pick (.v 11) (.v 14) (.c (.bool false))) [11,14],jm 16 15 [15],jt 17 16 (.faddr 2 (.v 1)) [],jt 18 16 (.load1 (.v 17)) [17],jt 19 16 (.faddr 3 (.v 1)) [],jt 20 16 (.load1 (.v 19)) [19],jt 21 16 (.bin .leq (.v 18) (.v 20)) [18,20],jn 22 (.pick (.v 16) (.v 21) (.c (.bool false))) [16,21],jm 23 22 [22],jt 24 23 (.faddr 3 (.v 1)) [],jt 25 23 (.load1 (.v 24)) [24],jt 26 23 (.bin .leq (.v 25) (ci 6)) [25],jn 27 (.pick (.v 23) (.v 26) (.c (.bool false))) [23,26],jm 28 27 [27],jt 29 28 (.faddr 4 (.v 1)) [],jt 30 28 (.load1 (.v 29)) [29],jt 31 28 (.bin .leq (ci 0) (.v 30)) [30],jn 32 (.pick (.v 28) (.v 31) (.c (.bool false))) [28,31],jm 33 32 [32],jt 34 33 (.faddr 4 (.v 1)) [],jt 35 33 (.load1 (.v 34)) [34],jt 36 33 (.faddr 5 (.v 1)) [],jt 37 33 (.load1 (.v 36)) [36],jt 38 33 (.bin .leq (.v 35) (.v 37)) [35,37],jn 39 (.pick (.v 33) (.v 38) (.c (.bool false))) [33,38],jm 40 39 [39],jt 41 40 (.faddr 5 (.v 1)) [1],jt 42 40 (.load1 (.v 41)) [41],jt 43 40 (.bin .leq (.v 42) (ci 10000)) [42],jn 44 (.pick (.v 40) (.v 43) (.c (.bool false))) [40,43],jm 2 44 [44]] [2] .ret)) }
theorem Qid : QY Go.Proofs.Tryz.prog 121 Qcf = true := by kernel_rfl
/-- impl.HandZone]: function 122 -/
def K5 : SFun := { n := 9,res := [.t 4],body := (jq [jn 4 (.mv (.c (.bool false))) [4]] [0,1] (jq [jm 5 0 [0],jm 6 1 [1],jn 7 (.call 113 [.v 5,.v 6]) [5,6],jc 8 .geq 7 0 [7],jm 4 8 [8]] [4] .ret)) }
theorem XS : QY Go.Proofs.Tryz.prog 122 K5 = true := by kernel_rfl
/-- impl.tubeOk$1: function 123 -/
def Qbc : SFun := { n := 10,res := [.t 3],body := (jq [jn 2 (.box 102 (.v 0)) [0],jn 3 (.mv (.c (.bool false))) [3]] [1,2] (jq [jL 4 5 2 [2],jf 5 0 1 [],jl 6 5 [5],jf 7 1 1 [1],jl 8 7 [7],jn 9 (.call 124 [.v 4,.v 6,.v 8]) [4,6,8],jm 3 9 [9]] [3] .ret)) }
theorem Qg5 : QY Go.Proofs.Tryz.prog 123 Qbc = true := by kernel_rfl
/-- impl.HandZone).over: function 124 -/
def Zy : SFun := { n := 21,res := [.t 6],body := (jq [jn 3 (.box 103 (.v 0)) [0],jn 6 (.mv (.c (.bool false))) [6]] [1,2,3] (jq [jm 7 1 [1],jf 8 1 3 [],jl 9 8 [8],jf 10 3 3 [],jl 11 10 [10],jn 12 (.call 120 [.v 7,.v 9,.v 11]) [7,9,11],jm 13 12 [12],jt 14 13 (.mv (.v 2)) [2],jt 15 13 (.faddr 2 (.v 3)) [],jt 16 13 (.load1 (.v 15)) [15],jt 17 13 (.faddr 4 (.v 3)) [3],jt 18 13 (.load1 (.v 17)) [17],jt 19 13 (.call 120 [.v 14,.v 16,.v 18]) [14,16,18],jn 20 (.pick (.v 13) (.v 19) (.c (.bool false))) [13,19],jm 6 20 [20]] [6] .ret)) }
theorem QbZ : QY Go.Proofs.Tryz.prog 124 Zy = true := by kernel_rfl
/-- impl.number: function 125 -/
def Qdh : SFun := { n := 5,res := [.t 2],body := (jq [jn 2 (.mv (.c (.bool false))) [2]] [0] (jq [jm 3 0 [0],jn 4 (.call 120 [.v 3,.c (.int .i64 1),.c (.int .i64 1000000)]) [3],jm 2 4 [4]] [2] .ret)) }
theorem Qje : QY Go.Proofs.Tryz.prog 125 Qdh = true := by kernel_rfl
/-- impl.bookOk$1: function 126 -/
def Qbd : SFun := { n := 14,res := [.t 5],body := (jq [jn 5 (.mv (.c (.bool false))) [5]] [0,1,2] (.seq (jq [jm 6 0 [0],jc 7 .eql 6 0 [6]] [1,2,7] (.cond (.v 7) (jq [jm 8 1 [1],jn 9 (.lenL (.v 8)) [8],jc 10 .eql 9 0 [9],jm 5 10 [10]] [5] .ret) .skip)) (jq [jl 11 2 [2],jm 12 1 [1],jn 13 (.call 100 [.v 11,.v 12]) [11,12],jm 5 13 [13]] [5] .ret))) }
theorem Qg6 : QY Go.Proofs.Tryz.prog 126 Qbd = true := by kernel_rfl
def Qay : SCode := (jq [jb 11 .lss 10 9 []] [1,5,8,9,10,11] (.seq (.cond (.v 11) .skip (.exit 0)) (.seq (.block 1 (jq [ja 12 5 8 10 [],jL 13 5 12 [12],jn 7 (.alloc 107 [.str ⟨#[]⟩,.int .i64 0,.int .i64 0,.int .i64 0,.int .i64 0]) [],⟨none,.store 5 (.v 7) (.v 13),none,[13]⟩] [1,5,7,8,9,10] (jq [jL 14 5 7 [],jm 15 1 [],jn 16 (.call 115 [.v 14,.v 15]) [14,15],jn 17 (.lenL (.v 16)) [16],jc 18 .gtr 17 0 [17]] [1,5,7,8,9,10,18] (.cond (.v 18) (.rg [jm 19 5 [5],jf 20 0 7 [7],jl 21 20 [20],jn 22 (.lit 9 1 [.v 21]) [21],jn 23 (.app 105 9 1 (.v 19) (.v 22)) [19,22],jm 5 23 [23]] [1,5,8,9,10]) .skip)))) (.rg [jn 24 (.binN .add (.v 10) (ci 1)) [10],jm 10 24 [24]] [1,5,8,9,10]))))
/-- impl.HandWho: function 127 -/
def Qcg : SFun := { n := 26,res := [.t 4],body := (jq [jn 4 (.mv (.c (.sl 0 1 []))) [4]] [0,1] (jq [jn 5 (.newnil 105 9 1) []] [0,1,5] (.seq (jq [jm 8 0 [0],jn 9 (.lenL (.v 8)) [],jI 10 0 []] [1,5,8,9,10] (.block 0 (.loop Qay))) (jq [jm 25 5 [5],jm 4 25 [25]] [4] (.gh (.frzE 4) .ret))))) }
theorem Qie : QY Go.Proofs.Tryz.prog 127 Qcg = true := by kernel_rfl
def QfC : SCode := (jq [jb 10 .lss 9 8 []] [0,7,8,9,10] (.seq (.cond (.v 10) .skip (.exit 0)) (.seq (.block 1 (jq [ja 11 1 7 9 [],jl 12 11 [11],jm 6 12 [12]] [0,6,7,8,9] (jq [jm 13 0 [],jm 14 6 [6],jn 15 (.call 116 [.v 13,.v 14]) [13,14],jn 16 (.not (.v 15)) [15]] [0,7,8,9,16] (.cond (.v 16) (jq [jn 4 (.mv (.c (.bool false))) []] [4] .ret) .skip)))) (.rg [jn 17 (.binN .add (.v 9) (ci 1)) [9],jm 9 17 [17]] [0,7,8,9]))))
/-- impl.all: function 128 -/
def QiF : SFun := { n := 18,res := [.t 4],body := (jq [jn 4 (.mv (.c (.bool false))) [4]] [0,1] (.seq (jq [jm 7 1 [1],jn 8 (.lenL (.v 7)) [],jI 9 0 []] [0,7,8,9] (.block 0 (.loop QfC))) (jq [jn 4 (.mv (.c (.bool true))) []] [4] .ret))) }
theorem Qno : QY Go.Proofs.Tryz.prog 128 QiF = true := by kernel_rfl
def GS : SCode := (jq [jb 11 .lss 10 9 []] [1,8,9,10,11] (.seq (.cond (.v 11) .skip (.exit 0)) (.seq (.block 1 (jq [ja 12 2 8 10 [],jL 13 2 12 [12],jn 6 (.alloc 106 [.str ⟨#[]⟩,.int .i64 0]) [],⟨none,.store 2 (.v 6) (.v 13),none,[13]⟩] [1,6,8,9,10] (jq [jf 14 0 6 [],jl 15 14 [14],jm 16 1 [],jb 17 .eql 15 16 [15,16]] [1,6,8,9,10,17] (.cond (.v 17) (jq [jf 18 1 6 [6],jl 19 18 [18],jm 4 19 [19]] [4] .ret) .skip)))) (.rg [jn 20 (.binN .add (.v 10) (ci 1)) [10],jm 10 20 [20]] [1,8,9,10]))))
/-- impl.HandBook).seen: function 129 -/
def Zz : SFun := { n := 21,res := [.t 4],body := (jq [jn 2 (.box 102 (.v 0)) [0],jI 4 0 [4]] [1,2] (.seq (jq [jf 7 2 2 [2],jl 8 7 [7],jn 9 (.lenL (.v 8)) [],jI 10 0 []] [1,8,9,10] (.block 0 (.loop GS))) (jq [jI 4 0 []] [4] .ret))) }
theorem Qb0 : QY Go.Proofs.Tryz.prog 129 Zz = true := by kernel_rfl
def WR : SCode := (jq [jb 21 .lss 20 19 []] [1,6,9,10,11,18,19,20,21] (.seq (.cond (.v 21) .skip (.exit 2)) (.seq (.block 3 (jq [ja 22 6 18 20 [],jL 23 6 22 [22],jn 8 (.alloc 108 [.int .i64 0,.int .i64 0,.int .i64 0,.int .i64 0,.int .i64 0,.int .i64 0]) [],⟨none,.store 6 (.v 8) (.v 23),none,[23]⟩] [1,6,8,9,10,11,18,19,20] (jq [jL 24 6 8 [],jn 25 (.call 121 [.v 24]) [24],jm 26 25 [25],jt 27 26 (.faddr 4 (.v 6)) [],jt 28 26 (.load1 (.v 27)) [27],jt 29 26 (.faddr 5 (.v 8)) [],jt 30 26 (.load1 (.v 29)) [29],jt 31 26 (.bin .leq (.v 28) (.v 30)) [28,30],jn 32 (.pick (.v 26) (.v 31) (.c (.bool false))) [26,31],jm 33 32 [32],jt 34 33 (.faddr 4 (.v 8)) [],jt 35 33 (.load1 (.v 34)) [34],jt 36 33 (.faddr 5 (.v 6)) [],jt 37 33 (.load1 (.v 36)) [36],jt 38 33 (.bin .leq (.v 35) (.v 37)) [35,37],jn 39 (.pick (.v 33) (.v 38) (.c (.bool false))) [33,38],jm 40 39 [39],jt 41 40 (.faddr 2 (.v 6)) [],jt 42 40 (.load1 (.v 41)) [41],jt 43 40 (.faddr 3 (.v 8)) [],jt 44 40 (.load1 (.v 43)) [43],jt 45 40 (.bin .leq (.v 42) (.v 44)) [42,44],jn 46 (.pick (.v 40) (.v 45) (.c (.bool false))) [40,45],jm 47 46 [46],jt 48 47 (.faddr 2 (.v 8)) [],jt 49 47 (.load1 (.v 48)) [48],jt 50 47 (.faddr 3 (.v 6)) [],jt 51 47 (.load1 (.v 50)) [50],jt 52 47 (.bin .leq (.v 49) (.v 51)) [49,51],jn 53 (.pick (.v 47) (.v 52) (.c (.bool false))) [47,52],jm 54 53 [53],jt 55 54 (.faddr 0 (.v 6)) [],jt 56 54 (.load1 (.v 55)) [55],jt 57 54 (.faddr 0 (.v 8)) [],jt 58 54 (.load1 (.v 57)) [57],jt 59 54 (.call 138 [.v 56,.v 58]) [56,58],jt 60 54 (.bin .lss (.v 59) (ci 2)) [59],jn 61 (.pick (.v 54) (.v 60) (.c (.bool false))) [54,60],jm 62 61 [61],jt 63 62 (.faddr 1 (.v 6)) [],jt 64 62 (.load1 (.v 63)) [63],jt 65 62 (.faddr 1 (.v 8)) [8],jt 66 62 (.load1 (.v 65)) [65],jt 67 62 (.call 138 [.v 64,.v 66]) [64,66],jt 68 62 (.bin .lss (.v 67) (ci 2)) [67],jn 69 (.pick (.v 62) (.v 68) (.c (.bool false))) [62,68]] [1,6,9,10,11,18,19,20,69] (.cond (.v 69) (jq [jn 4 (.mv (.c (.bool true))) []] [4] .ret) .skip)))) (.rg [jn 70 (.binN .add (.v 20) (ci 1)) [20],jm 20 70 [70]] [1,6,9,10,11,18,19,20]))))
def WS : SCode := (jq [jb 12 .lss 11 10 []] [1,9,10,11,12] (.seq (.cond (.v 12) .skip (.exit 0)) (.seq (.block 1 (jq [ja 13 6 9 11 [],jL 14 6 13 [13],jn 6 (.alloc 106 [.int .i64 0,.int .i64 0,.int .i64 0,.int .i64 0,.int .i64 0,.int .i64 0]) [],⟨none,.store 6 (.v 6) (.v 14),none,[14]⟩] [1,6,9,10,11] (.seq (jq [jL 15 6 6 [],jn 16 (.call 121 [.v 15]) [15],jn 17 (.not (.v 16)) [16]] [1,6,9,10,11,17] (.cond (.v 17) (.exit 1) .skip)) (jq [jm 18 1 [],jn 19 (.lenL (.v 18)) [],jI 20 0 []] [1,6,9,10,11,18,19,20] (.block 2 (.loop WR)))))) (.rg [jn 71 (.binN .add (.v 11) (ci 1)) [11],jm 11 71 [71]] [1,9,10,11]))))
/-- impl.HandNear: function 130 -/
def Qbe : SFun := { n := 72,res := [.t 4],body := (jq [jn 4 (.mv (.c (.bool false))) [4]] [0,1] (.seq (jq [jm 9 0 [0],jn 10 (.lenL (.v 9)) [],jI 11 0 []] [1,9,10,11] (.block 0 (.loop WS))) (jq [jn 4 (.mv (.c (.bool false))) []] [4] .ret))) }
theorem Qg7 : QY Go.Proofs.Tryz.prog 130 Qbe = true := by kernel_rfl
/-- spec.l33TubeOk: function 134 -/
def Qaz : SFun := { n := 15,res := [.t 6],body := (jq [jn 6 (.mv (.c (.bool false))) [6]] [0,1,2] (.seq (jq [jm 7 1 [1],jc 8 .eql 7 0 [7]] [0,2,8] (.cond (.v 8) (jq [jm 9 2 [2],jn 10 (.lenL (.v 9)) [9],jc 11 .eql 10 0 [10],jm 6 11 [11]] [6] .ret) .skip)) (jq [jm 12 0 [0],jm 13 2 [2],jn 14 (.call 65 [.v 12,.v 13]) [12,13],jm 6 14 [14]] [6] .ret))) }
theorem QfV : QY Go.Proofs.Tryz.prog 134 Qaz = true := by kernel_rfl
def YD : SCode := (.rgd [jm 26 7 [],jm 27 26 [],jM 28 27 5 [],jM 29 27 8 [],jh 30 27 (.iaddr 1 (.v 28) (.v 29)) [],jh 31 27 (.load1 (.v 30)) [],jh 32 27 (.faddr 9 (.v 3)) [],jh 33 27 (.load1 (.v 32)) [],jM 34 27 6 [],jh 35 27 (.iaddr 1 (.v 33) (.v 34)) [],jh 36 27 (.load1 (.v 35)) [],jh 37 27 (.bin .eql (.v 31) (.v 36)) [],jp 38 27 37 [],jm 7 38 []] [3,5,6,7,8] [none,none,none,none,none,none,none,none,none,none,none,none,none,none])
def XU : SCode := (.seq (jq [jm 20 8 [],jm 21 5 [],jn 22 (.lenL (.v 21)) [21],jb 23 .lss 20 22 [20,22]] [3,5,6,7,8,23] (.cond (.v 23) .skip (.exit 2))) (.seq (.block 3 YD) (.rg [jm 24 8 [8],jn 25 (.binN .add (.v 24) (ci 1)) [24],jm 8 25 [25]] [3,5,6,7,8])))
def YE : SCode := (.rgd [jm 39 7 [],jn 40 (.not (.v 39)) [],jm 41 40 [],jM 42 41 6 [],jh 43 41 (.bin .gtr (.v 42) (ci 0)) [],jM 44 41 43 [],jt 45 44 (.faddr 9 (.v 3)) [],jt 46 44 (.load1 (.v 45)) [],jt 47 44 (.mv (.v 6)) [],jt 48 44 (.binN .sub (.v 47) (ci 1)) [],jt 49 44 (.iaddr 1 (.v 46) (.v 48)) [],jt 50 44 (.load1 (.v 49)) [],jt 51 44 (.faddr 9 (.v 3)) [],jt 52 44 (.load1 (.v 51)) [],jt 53 44 (.mv (.v 6)) [],jt 54 44 (.iaddr 1 (.v 52) (.v 53)) [],jt 55 44 (.load1 (.v 54)) [],jt 56 44 (.bin .geq (.v 50) (.v 55)) [],jh 57 41 (.pick (.v 44) (.v 56) (.c (.bool false))) [],jp 58 41 57 []] [3,5,6,58] [none,none,none,none,none,none,none,none,none,none,none,none,none,none,none,none,none,none,none,none])
def XV : SCode := (.seq (jq [jm 13 6 [],jf 14 9 3 [],jl 15 14 [14],jn 16 (.lenL (.v 15)) [15],jb 17 .lss 13 16 [13,16]] [3,5,6,17] (.cond (.v 17) .skip (.exit 0))) (.seq (.block 1 (jq [jn 7 (.mv (.c (.bool false))) []] [3,5,6,7] (.seq (jq [jI 8 0 []] [3,5,6,7,8] (.block 2 (.loop XU))) (.seq YE (.cond (.v 58) (jq [jn 4 (.mv (.c (.bool false))) []] [4] .ret) .skip))))) (.rg [jm 18 6 [6],jn 19 (.binN .add (.v 18) (ci 1)) [18],jm 6 19 [19]] [3,5,6])))
def YF : SCode := (.rg [jf 59 10 3 [],jl 60 59 [59],jf 61 7 3 [],jl 62 61 [61],jc 63 .gtr 62 0 [62],jm 64 63 [63],jt 65 64 (.faddr 9 (.v 3)) [3],jt 66 64 (.load1 (.v 65)) [65],jt 67 64 (.lenL (.v 66)) [66],jt 68 64 (.mv (.v 5)) [5],jt 69 64 (.lenL (.v 68)) [68],jt 70 64 (.bin .eql (.v 67) (.v 69)) [67,69],jn 71 (.pick (.v 64) (.v 70) (.c (.bool false))) [64,70],jn 72 (.eqB false (.v 60) (.v 71)) [60,71],jm 4 72 [72]] [4])
/-- spec.l33GrantedOk: function 135 -/
def Uu : SFun := { n := 73,res := [.t 4],body := (jq [jn 3 (.box 103 (.v 1)) [1],jn 4 (.mv (.c (.bool false))) [4]] [0,3] (jq [jm 9 0 [0],jf 10 8 3 [],jl 11 10 [10],jn 12 (.call 81 [.v 9,.v 11]) [9,11],jm 5 12 [12]] [3,5] (.seq (jq [jI 6 0 []] [3,5,6] (.block 0 (.loop XV))) (.seq YF .ret)))) }
theorem Qcx : QY Go.Proofs.Tryz.prog 135 Uu = true := by kernel_rfl
/-- spec.l31Close: function 136 -/
def Qbf : SFun := { n := 55,res := [.t 4],body := (jq [jn 2 (.box 102 (.v 0)) [0],jn 3 (.box 103 (.v 1)) [1],jn 4 (.mv (.c (.bool false))) [4]] [2,3] (jq [jL 5 6 2 [],jn 6 (.call 99 [.v 5]) [5],jm 7 6 [6],jt 8 7 (.loadN 6 (.v 3)) [],jt 9 7 (.call 99 [.v 8]) [8],jn 10 (.pick (.v 7) (.v 9) (.c (.bool false))) [7,9],jm 11 10 [10],jt 12 11 (.faddr 0 (.v 2)) [],jt 13 11 (.load1 (.v 12)) [12],jt 14 11 (.faddr 0 (.v 3)) [],jt 15 11 (.load1 (.v 14)) [14],jt 16 11 (.binN .sub (.v 13) (.v 15)) [13,15],jt 17 11 (.call 80 [.v 16,.c (.int .i64 (-1)),.c (.int .i64 1)]) [16],jn 18 (.pick (.v 11) (.v 17) (.c (.bool false))) [11,17],jm 19 18 [18],jt 20 19 (.faddr 1 (.v 2)) [],jt 21 19 (.load1 (.v 20)) [20],jt 22 19 (.faddr 1 (.v 3)) [],jt 23 19 (.load1 (.v 22)) [22],jt 24 19 (.binN .sub (.v 21) (.v 23)) [21,23],jt 25 19 (.call 80 [.v 24,.c (.int .i64 (-1)),.c (.int .i64 1)]) [24],jn 26 (.pick (.v 19) (.v 25) (.c (.bool false))) [19,25],jm 27 26 [26],jt 28 27 (.faddr 2 (.v 2)) [],jt 29 27 (.load1 (.v 28)) [28],jt 30 27 (.faddr 3 (.v 3)) [],jt 31 27 (.load1 (.v 30)) [30],jt 32 27 (.bin .leq (.v 29) (.v 31)) [29,31],jn 33 (.pick (.v 27) (.v 32) (.c (.bool false))) [27,32],jm 34 33 [33],jt 35 34 (.faddr 2 (.v 3)) [],jt 36 34 (.load1 (.v 35)) [35],jt 37 34 (.faddr 3 (.v 2)) [],jt 38 34 (.load1 (.v 37)) [37],jt 39 34 (.bin .leq (.v 36) (.v 38)) [36,38],jn 40 (.pick (.v 34) (.v 39) (.c (.bool false))) [34,39],jm 41 40 [40],jt 42 41 (.faddr 4 (.v 2)) [],jt 43 41 (.load1 (.v 42)) [42],jt 44 41 (.faddr 5 (.v 3)) [],jt 45 41 (.load1 (.v 44)) [44],jt 46 41 (.bin .leq (.v 43) (.v 45)) [43,45],jn 47 (.pick (.v 41) (.v 46) (.c (.bool false))) [41,46],jm 48 47 [47],jt 49 48 (.faddr 4 (.v 3)) [3],jt 50 48 (.load1 (.v 49)) [49],jt 51 48 (.faddr 5 (.v 2)) [2],jt 52 48 (.load1 (.v 51)) [51],jt 53 48 (.bin .leq (.v 50) (.v 52)) [50,52],jn 54 (.pick (.v 48) (.v 53) (.c (.bool false))) [48,53],jm 4 54 [54]] [4] .ret)) }
theorem Qg8 : QY Go.Proofs.Tryz.prog 136 Qbf = true := by kernel_rfl
def GK : SCode := (jq [jb 9 .lss 8 7 []] [0,1,7,8,9] (.seq (.cond (.v 9) .skip (.exit 0)) (.seq (.block 1 (jq [jm 10 8 [],jm 5 10 [10]] [0,1,5,7,8] (jq [jm 11 1 [],jm 12 0 [],jm 13 5 [],ja 14 1 12 13 [12,13],jl 15 14 [14],jb 16 .eql 11 15 [11,15]] [0,1,5,7,8,16] (.cond (.v 16) (jq [jm 17 5 [5],jm 4 17 [17]] [4] .ret) .skip)))) (.rg [jn 18 (.binN .add (.v 8) (ci 1)) [8],jm 8 18 [18]] [0,1,7,8]))))
/-- slices.Index[[]string,string]: function 137 -/
def XW : SFun := { n := 19,res := [.t 4],body := (jq [jI 4 0 [4]] [0,1] (.seq (jq [jm 6 0 [],jn 7 (.lenL (.v 6)) [6],jI 8 0 []] [0,1,7,8] (.block 0 (.loop GK))) (jq [jn 4 (.mv (.c (.int .i64 (-1)))) []] [4] .ret))) }
theorem Qbg : QY Go.Proofs.Tryz.prog 137 XW = true := by kernel_rfl
/-- impl.dist: function 138 -/
def Qg9 : SFun := { n := 14,res := [.t 4],body := (jq [jI 4 0 [4]] [0,1] (.seq (jq [jm 5 0 [],jm 6 1 [],jb 7 .gtr 5 6 [5,6]] [0,1,7] (.cond (.v 7) (jq [jm 8 0 [0],jm 9 1 [1],jn 10 (.binN .sub (.v 8) (.v 9)) [8,9],jm 4 10 [10]] [4] .ret) .skip)) (jq [jm 11 1 [1],jm 12 0 [0],jn 13 (.binN .sub (.v 11) (.v 12)) [11,12],jm 4 13 [13]] [4] .ret))) }
theorem Qli : QY Go.Proofs.Tryz.prog 138 Qg9 = true := by kernel_rfl
end Go.Ve

namespace Go.Ve
open Go.Proofs
set_option maxRecDepth 100000
noncomputable abbrev P := Go.Proofs.Tryz.prog
theorem hm : P.follows .mixedOrders = true := by kernel_rfl
theorem Qqe (n lo hi : Int) (hp : True) : Contract P 120 [.int .i64 n, .int .i64 lo, .int .i64 hi] [] (.bool (decide (lo ≤ n ∧ n ≤ hi))) [] := by
  refine Qh (Env.nil P) hm Qjd (Nat.le_of_ble_eq_true rfl) rfl ?_
  unfold Qdg
  simp only [VE, QmQ, QdY, QdZ, VF, G1, VG, VH, Qd0, QmR, Qd1, Qd2, Qd3, Qd4, Qd5, Qd6, Qd7, Qd8, Qd9, Qea, Qeb, G2, G3, G4, VI, VJ, VK, G5, G6, G7, G8, G9, Xa, VL, VM, VN, VO, VP, YL, KX, QdX, GY, GZ, VB, G0, VC, VD, GX, YK, Vy, Vz, QdU, VA, QdV, QdW, Xd, Xe, Qi, Qj, YP, YQ, Xh, Xi, Xf, Xg, Qk, Ql, Qm2, Qm3, VT, VU, Qec, VQ, VR, VS, V6, V7, V8, YM, YN, YO, QmS, QmT, QmU, QmV, Xb, Xc, QmX, QmW, QmY, YR, VV, Qed, VX, Qee, Qef, Qeg, Qeh, VY, Xj, Qei, Xk, Xl, Xm, Xn, Xo, YS, YT, Xp, VZ, Xq, V0, V1, V2, QmZ, Qm0, Qej, Xr, Qek, YU, Qel, V3, GE, Qm1, Xs, Qem, V4, Qen, Qeo, Qm4, Qep, Qeq, Qm5, Qer, V5, Qes, Qm6, Qet, Qeu, Qm7, Qm8, Qm9, Qev, eff, KS, Kl, V9, Qew, Wa, Wb, Wc, Qna, Qnb, KV, KW, Xt, Qnc, Qnd, Qne, QaJ, pur, List.map, List.drop, List.take, List.length, List.foldl, List.append_eq, List.nil_append, List.cons_append, List.getD_cons_zero, List.getD_cons_succ, reduceIte, Nat.reduceEqDiff, Nat.reduceAdd, Nat.reduceLeDiff, true_and, and_true, Bool.not_true, Bool.not_false, Bool.and_true, Bool.true_and, Bool.and_self, reduceCtorEq, true_implies, false_implies, implies_true, decide_eq_true_eq, Option.map_some, QhT, fpX, SOp.xs, oX, refs, Yx, dom, QfJ, List.all_nil, List.all_cons, List.contains_cons, List.contains_nil, Nat.reduceBEq, Bool.or_false, Bool.false_or, List.append_nil, Bool.not_false, Bool.not_true, List.forall_mem_cons, fm0, List.set, Nat.reduceLT, Nat.reduceMod, ne_eq, not_false_eq_true, not_true_eq_false
, Qnf, Qex, Qey, Qez, Wd, Xu, We, QeA, Wf, Wg, Qng, Qnh, Qni, QeB, QeC, QeD, Xv, Xw, decide_true, AV.bool.injEq, AV.int.injEq, Nat.reduceLeDiff, Bool.true_eq, Bool.false_eq, decide_eq_true_eq, decide_eq_false_iff_not]
  repeat' (first | apply And.intro | intro _)
  all_goals (first | trivial | omega | (simp_all; done) | (simp_all; omega))
def QA : List AV → Option (Prop × AV)
  | [.int .i64 n, .int .i64 lo, .int .i64 hi] => some (True, .bool (decide (lo ≤ n ∧ n ≤ hi)))
  | _ => none
theorem KG : ∀ args p v, QA args = some (p, v) → p → Contract P 120 args [] v [] ∧ noref v = true ∧ No99 v := by
  intro args p v h1 h2
  unfold QA at h1
  split at h1
  · cases h1; exact ⟨Qqe _ _ _ h2, rfl, trivial⟩
  · cases h1
theorem Qsg (n lo hi : Int) (hp : True) : Contract P 80 [.int .i64 n, .int .i64 lo, .int .i64 hi] [] (.bool (decide (lo ≤ n ∧ n ≤ hi))) [] := by
  refine Qh (Env.nil P) hm Qkq (Nat.le_of_ble_eq_true rfl) rfl ?_
  unfold QfB
  simp only [VE, QmQ, QdY, QdZ, VF, G1, VG, VH, Qd0, QmR, Qd1, Qd2, Qd3, Qd4, Qd5, Qd6, Qd7, Qd8, Qd9, Qea, Qeb, G2, G3, G4, VI, VJ, VK, G5, G6, G7, G8, G9, Xa, VL, VM, VN, VO, VP, YL, KX, QdX, GY, GZ, VB, G0, VC, VD, GX, YK, Vy, Vz, QdU, VA, QdV, QdW, Xd, Xe, Qi, Qj, YP, YQ, Xh, Xi, Xf, Xg, Qk, Ql, Qm2, Qm3, VT, VU, Qec, VQ, VR, VS, V6, V7, V8, YM, YN, YO, QmS, QmT, QmU, QmV, Xb, Xc, QmX, QmW, QmY, YR, VV, Qed, VX, Qee, Qef, Qeg, Qeh, VY, Xj, Qei, Xk, Xl, Xm, Xn, Xo, YS, YT, Xp, VZ, Xq, V0, V1, V2, QmZ, Qm0, Qej, Xr, Qek, YU, Qel, V3, GE, Qm1, Xs, Qem, V4, Qen, Qeo, Qm4, Qep, Qeq, Qm5, Qer, V5, Qes, Qm6, Qet, Qeu, Qm7, Qm8, Qm9, Qev, eff, KS, Kl, V9, Qew, Wa, Wb, Wc, Qna, Qnb, KV, KW, Xt, Qnc, Qnd, Qne, QaJ, pur, List.map, List.drop, List.take, List.length, List.foldl, List.append_eq, List.nil_append, List.cons_append, List.getD_cons_zero, List.getD_cons_succ, reduceIte, Nat.reduceEqDiff, Nat.reduceAdd, Nat.reduceLeDiff, true_and, and_true, Bool.not_true, Bool.not_false, Bool.and_true, Bool.true_and, Bool.and_self, reduceCtorEq, true_implies, false_implies, implies_true, decide_eq_true_eq, Option.map_some, QhT, fpX, SOp.xs, oX, refs, Yx, dom, QfJ, List.all_nil, List.all_cons, List.contains_cons, List.contains_nil, Nat.reduceBEq, Bool.or_false, Bool.false_or, List.append_nil, Bool.not_false, Bool.not_true, List.forall_mem_cons, fm0, List.set, Nat.reduceLT, Nat.reduceMod, ne_eq, not_false_eq_true, not_true_eq_false
, Qnf, Qex, Qey, Qez, Wd, Xu, We, QeA, Wf, Wg, Qng, Qnh, Qni, QeB, QeC, QeD, Xv, Xw, decide_true, AV.bool.injEq, AV.int.injEq, Nat.reduceLeDiff, Bool.true_eq, Bool.false_eq, decide_eq_true_eq, decide_eq_false_iff_not]
  repeat' (first | apply And.intro | intro _)
  all_goals (first | trivial | omega | (simp_all; done) | (simp_all; omega))
def Je : List AV → Option (Prop × AV)
  | [.int .i64 n, .int .i64 lo, .int .i64 hi] => some (True, .bool (decide (lo ≤ n ∧ n ≤ hi)))
  | _ => none
theorem Gr : ∀ args p v, Je args = some (p, v) → p → Contract P 80 args [] v [] ∧ noref v = true ∧ No99 v := by
  intro args p v h1 h2
  unfold Je at h1
  split at h1
  · cases h1; exact ⟨Qsg _ _ _ h2, rfl, trivial⟩
  · cases h1
theorem Qtk (a b : Int) (hp : -9223372036854775808 ≤ a - b ∧ a - b ≤ 9223372036854775807 ∧ -9223372036854775808 ≤ b - a ∧ b - a ≤ 9223372036854775807) : Contract P 138 [.int .i64 a, .int .i64 b] [] (.int .i64 (max (a - b) (b - a))) [] := by
  refine Qh (Env.nil P) hm Qli (Nat.le_of_ble_eq_true rfl) rfl ?_
  unfold Qg9
  simp only [VE, QmQ, QdY, QdZ, VF, G1, VG, VH, Qd0, QmR, Qd1, Qd2, Qd3, Qd4, Qd5, Qd6, Qd7, Qd8, Qd9, Qea, Qeb, G2, G3, G4, VI, VJ, VK, G5, G6, G7, G8, G9, Xa, VL, VM, VN, VO, VP, YL, KX, QdX, GY, GZ, VB, G0, VC, VD, GX, YK, Vy, Vz, QdU, VA, QdV, QdW, Xd, Xe, Qi, Qj, YP, YQ, Xh, Xi, Xf, Xg, Qk, Ql, Qm2, Qm3, VT, VU, Qec, VQ, VR, VS, V6, V7, V8, YM, YN, YO, QmS, QmT, QmU, QmV, Xb, Xc, QmX, QmW, QmY, YR, VV, Qed, VX, Qee, Qef, Qeg, Qeh, VY, Xj, Qei, Xk, Xl, Xm, Xn, Xo, YS, YT, Xp, VZ, Xq, V0, V1, V2, QmZ, Qm0, Qej, Xr, Qek, YU, Qel, V3, GE, Qm1, Xs, Qem, V4, Qen, Qeo, Qm4, Qep, Qeq, Qm5, Qer, V5, Qes, Qm6, Qet, Qeu, Qm7, Qm8, Qm9, Qev, eff, KS, Kl, V9, Qew, Wa, Wb, Wc, Qna, Qnb, KV, KW, Xt, Qnc, Qnd, Qne, QaJ, pur, List.map, List.drop, List.take, List.length, List.foldl, List.append_eq, List.nil_append, List.cons_append, List.getD_cons_zero, List.getD_cons_succ, reduceIte, Nat.reduceEqDiff, Nat.reduceAdd, Nat.reduceLeDiff, true_and, and_true, Bool.not_true, Bool.not_false, Bool.and_true, Bool.true_and, Bool.and_self, reduceCtorEq, true_implies, false_implies, implies_true, decide_eq_true_eq, Option.map_some, QhT, fpX, SOp.xs, oX, refs, Yx, dom, QfJ, List.all_nil, List.all_cons, List.contains_cons, List.contains_nil, Nat.reduceBEq, Bool.or_false, Bool.false_or, List.append_nil, Bool.not_false, Bool.not_true, List.forall_mem_cons, fm0, List.set, Nat.reduceLT, Nat.reduceMod, ne_eq, not_false_eq_true, not_true_eq_false
, Qnf, Qex, Qey, Qez, Wd, Xu, We, QeA, Wf, Wg, Qng, Qnh, Qni, QeB, QeC, QeD, Xv, Xw, decide_true, AV.bool.injEq, AV.int.injEq, Nat.reduceLeDiff, Bool.true_eq, Bool.false_eq, decide_eq_true_eq, decide_eq_false_iff_not]
  repeat' (first | apply And.intro | intro _)
  all_goals (first | trivial | omega | (simp_all; done) | (simp_all; omega))
def QiG : List AV → Option (Prop × AV)
  | [.int .i64 a, .int .i64 b] => some (-9223372036854775808 ≤ a - b ∧ a - b ≤ 9223372036854775807 ∧ -9223372036854775808 ≤ b - a ∧ b - a ≤ 9223372036854775807, .int .i64 (max (a - b) (b - a)))
  | _ => none
theorem Qtl : ∀ args p v, QiG args = some (p, v) → p → Contract P 138 args [] v [] ∧ noref v = true ∧ No99 v := by
  intro args p v h1 h2
  unfold QiG at h1
  split at h1
  · cases h1; exact ⟨Qtk _ _ h2, rfl, trivial⟩
  · cases h1
structure Box6 where
  x : Int
  y : Int
  l : Int
  h : Int
  i : Int
  o : Int
  deriving Inhabited
def Box6.row (b : Box6) : List AV := [.int .i64 b.x, .int .i64 b.y, .int .i64 b.l, .int .i64 b.h, .int .i64 b.i, .int .i64 b.o]
def Box6.ok (b : Box6) : Prop := (0 ≤ b.x ∧ b.x ≤ 15) ∧ (0 ≤ b.y ∧ b.y ≤ 15) ∧ 0 ≤ b.l ∧ b.l ≤ b.h ∧ b.h ≤ 6 ∧ 0 ≤ b.i ∧ b.i ≤ b.o ∧ b.o ≤ 10000
instance (b : Box6) : Decidable b.ok := by unfold Box6.ok; infer_instance
structure Stp7 where
  x : Int
  y : Int
  l : Int
  h : Int
  f : Int
  b : Int
  hold : Bool
  deriving Inhabited
def Stp7.row (s : Stp7) : List AV := [.int .i64 s.x, .int .i64 s.y, .int .i64 s.l, .int .i64 s.h, .int .i64 s.f, .int .i64 s.b, .bool s.hold]
def Stp7.ok (s : Stp7) : Prop := (0 ≤ s.x ∧ s.x ≤ 15) ∧ (0 ≤ s.y ∧ s.y ≤ 15) ∧ 0 ≤ s.l ∧ s.l ≤ s.h ∧ s.h ≤ 6 ∧ 0 ≤ s.f ∧ s.f ≤ s.b ∧ s.b ≤ 10000
instance (s : Stp7) : Decidable s.ok := by unfold Stp7.ok; infer_instance
def Stp7.nb (a s : Stp7) : Prop := (-1 ≤ a.x - s.x ∧ a.x - s.x ≤ 1) ∧ (-1 ≤ a.y - s.y ∧ a.y - s.y ≤ 1) ∧ ¬ (a.x = s.x ∧ a.y = s.y) ∧ a.l ≤ s.h ∧ s.l ≤ a.h
instance (a s : Stp7) : Decidable (a.nb s) := by unfold Stp7.nb; infer_instance
theorem QoF (x y l h i o : Int) (hp : True) : Contract P 121 [.agg [.int .i64 x, .int .i64 y, .int .i64 l, .int .i64 h, .int .i64 i, .int .i64 o]] [] (.bool (decide (Box6.ok ⟨x, y, l, h, i, o⟩))) [] := by
  refine Qh ((Env.nil P).add 120 QA KG) hm Qid (Nat.le_of_ble_eq_true rfl) rfl ?_
  unfold Qcf
  simp only [VE, QmQ, QdY, QdZ, VF, G1, VG, VH, Qd0, QmR, Qd1, Qd2, Qd3, Qd4, Qd5, Qd6, Qd7, Qd8, Qd9, Qea, Qeb, G2, G3, G4, VI, VJ, VK, G5, G6, G7, G8, G9, Xa, VL, VM, VN, VO, VP, YL, KX, QdX, GY, GZ, VB, G0, VC, VD, GX, YK, Vy, Vz, QdU, VA, QdV, QdW, Xd, Xe, Qi, Qj, YP, YQ, Xh, Xi, Xf, Xg, Qk, Ql, Qm2, Qm3, VT, VU, Qec, VQ, VR, VS, V6, V7, V8, YM, YN, YO, QmS, QmT, QmU, QmV, Xb, Xc, QmX, QmW, QmY, YR, VV, Qed, VX, Qee, Qef, Qeg, Qeh, VY, Xj, Qei, Xk, Xl, Xm, Xn, Xo, YS, YT, Xp, VZ, Xq, V0, V1, V2, QmZ, Qm0, Qej, Xr, Qek, YU, Qel, V3, GE, Qm1, Xs, Qem, V4, Qen, Qeo, Qm4, Qep, Qeq, Qm5, Qer, V5, Qes, Qm6, Qet, Qeu, Qm7, Qm8, Qm9, Qev, eff, KS, Kl, V9, Qew, Wa, Wb, Wc, Qna, Qnb, KV, KW, Xt, Qnc, Qnd, Qne, QaJ, pur, List.map, List.drop, List.take, List.length, List.foldl, List.append_eq, List.nil_append, List.cons_append, List.getD_cons_zero, List.getD_cons_succ, reduceIte, Nat.reduceEqDiff, Nat.reduceAdd, Nat.reduceLeDiff, true_and, and_true, Bool.not_true, Bool.not_false, Bool.and_true, Bool.true_and, Bool.and_self, reduceCtorEq, true_implies, false_implies, implies_true, decide_eq_true_eq, Option.map_some, QhT, fpX, SOp.xs, oX, refs, Yx, dom, QfJ, List.all_nil, List.all_cons, List.contains_cons, List.contains_nil, Nat.reduceBEq, Bool.or_false, Bool.false_or, List.append_nil, Bool.not_false, Bool.not_true, List.forall_mem_cons, fm0, List.set, Nat.reduceLT, Nat.reduceMod, ne_eq, not_false_eq_true, not_true_eq_false
, Qnf, Qex, Qey, Qez, Wd, Xu, We, QeA, Wf, Wg, Qng, Qnh, Qni, QeB, QeC, QeD, Xv, Xw, decide_true, AV.bool.injEq, AV.int.injEq, Nat.reduceLeDiff, Bool.true_eq, Bool.false_eq, decide_eq_true_eq, decide_eq_false_iff_not, QA]
  simp only [Box6.ok]
  repeat' (first | apply And.intro | intro _)
  all_goals (first | trivial | omega | (simp_all; done) | (simp_all; omega))
def Kx : List AV → Option (Prop × AV)
  | [.agg [.int .i64 x, .int .i64 y, .int .i64 l, .int .i64 h, .int .i64 i, .int .i64 o]] => some (True, .bool (decide (Box6.ok ⟨x, y, l, h, i, o⟩)))
  | _ => none
theorem Qdi : ∀ args p v, Kx args = some (p, v) → p → Contract P 121 args [] v [] ∧ noref v = true ∧ No99 v := by
  intro args p v h1 h2
  unfold Kx at h1
  split at h1
  · cases h1; exact ⟨QoF _ _ _ _ _ _ h2, rfl, trivial⟩
  · cases h1
theorem Qnp (x y l h i o : Int) (hp : True) : Contract P 99 [.agg [.int .i64 x, .int .i64 y, .int .i64 l, .int .i64 h, .int .i64 i, .int .i64 o]] [] (.bool (decide (Box6.ok ⟨x, y, l, h, i, o⟩))) [] := by
  refine Qh ((Env.nil P).add 80 Je Gr) hm Qg1 (Nat.le_of_ble_eq_true rfl) rfl ?_
  unfold Qa1
  simp only [VE, QmQ, QdY, QdZ, VF, G1, VG, VH, Qd0, QmR, Qd1, Qd2, Qd3, Qd4, Qd5, Qd6, Qd7, Qd8, Qd9, Qea, Qeb, G2, G3, G4, VI, VJ, VK, G5, G6, G7, G8, G9, Xa, VL, VM, VN, VO, VP, YL, KX, QdX, GY, GZ, VB, G0, VC, VD, GX, YK, Vy, Vz, QdU, VA, QdV, QdW, Xd, Xe, Qi, Qj, YP, YQ, Xh, Xi, Xf, Xg, Qk, Ql, Qm2, Qm3, VT, VU, Qec, VQ, VR, VS, V6, V7, V8, YM, YN, YO, QmS, QmT, QmU, QmV, Xb, Xc, QmX, QmW, QmY, YR, VV, Qed, VX, Qee, Qef, Qeg, Qeh, VY, Xj, Qei, Xk, Xl, Xm, Xn, Xo, YS, YT, Xp, VZ, Xq, V0, V1, V2, QmZ, Qm0, Qej, Xr, Qek, YU, Qel, V3, GE, Qm1, Xs, Qem, V4, Qen, Qeo, Qm4, Qep, Qeq, Qm5, Qer, V5, Qes, Qm6, Qet, Qeu, Qm7, Qm8, Qm9, Qev, eff, KS, Kl, V9, Qew, Wa, Wb, Wc, Qna, Qnb, KV, KW, Xt, Qnc, Qnd, Qne, QaJ, pur, List.map, List.drop, List.take, List.length, List.foldl, List.append_eq, List.nil_append, List.cons_append, List.getD_cons_zero, List.getD_cons_succ, reduceIte, Nat.reduceEqDiff, Nat.reduceAdd, Nat.reduceLeDiff, true_and, and_true, Bool.not_true, Bool.not_false, Bool.and_true, Bool.true_and, Bool.and_self, reduceCtorEq, true_implies, false_implies, implies_true, decide_eq_true_eq, Option.map_some, QhT, fpX, SOp.xs, oX, refs, Yx, dom, QfJ, List.all_nil, List.all_cons, List.contains_cons, List.contains_nil, Nat.reduceBEq, Bool.or_false, Bool.false_or, List.append_nil, Bool.not_false, Bool.not_true, List.forall_mem_cons, fm0, List.set, Nat.reduceLT, Nat.reduceMod, ne_eq, not_false_eq_true, not_true_eq_false
, Qnf, Qex, Qey, Qez, Wd, Xu, We, QeA, Wf, Wg, Qng, Qnh, Qni, QeB, QeC, QeD, Xv, Xw, decide_true, AV.bool.injEq, AV.int.injEq, Nat.reduceLeDiff, Bool.true_eq, Bool.false_eq, decide_eq_true_eq, decide_eq_false_iff_not, Je]
  simp only [Box6.ok]
  repeat' (first | apply And.intro | intro _)
  all_goals (first | trivial | omega | (simp_all; done) | (simp_all; omega))
def KI : List AV → Option (Prop × AV)
  | [.agg [.int .i64 x, .int .i64 y, .int .i64 l, .int .i64 h, .int .i64 i, .int .i64 o]] => some (True, .bool (decide (Box6.ok ⟨x, y, l, h, i, o⟩)))
  | _ => none
theorem Qe4 : ∀ args p v, KI args = some (p, v) → p → Contract P 99 args [] v [] ∧ noref v = true ∧ No99 v := by
  intro args p v h1 h2
  unfold KI at h1
  split at h1
  · cases h1; exact ⟨Qnp _ _ _ _ _ _ h2, rfl, trivial⟩
  · cases h1
end Go.Ve

namespace Go.Ve
open Go.Proofs
set_option maxRecDepth 100000
theorem K1 (i : Nat) : ((i : Int) - 1).toNat = i - 1 := by omega
def Qha (q s : Int) (l : List Stp7) (f b : Int) : Prop :=
  (1 ≤ q ∧ q ≤ s ∧ s ≤ 50) ∧ (1 ≤ l.length ∧ l.length ≤ 40) ∧ (0 ≤ f ∧ f ≤ b ∧ b ≤ 10000) ∧ ∀ i, i < l.length → (l.getD i default).ok ∧ (0 < i → Stp7.nb (l.getD (i - 1) default) (l.getD i default))
instance (q s : Int) (l : List Stp7) (f b : Int) : Decidable (Qha q s l f b) := by unfold Qha; infer_instance
end Go.Ve

namespace Go.Ve
open Go.Proofs
set_option maxRecDepth 100000
end Go.Ve

namespace Go.Ve
open Go.Proofs
set_option maxRecDepth 100000
structure Path5 where
  q : Int
  s : Int
  l : List Stp7
  f : Int
  b : Int
  deriving Inhabited
def Qsh (l : List Box6) (i : Nat) : Stp7 := ⟨(l.getD i default).x, (l.getD i default).y, (l.getD i default).l, (l.getD i default).h, (l.getD i default).i, if 0 < i then min (l.getD i default).o ((l.getD (i - 1) default).o + 1) else (l.getD i default).o, false⟩
def Qun (l : List Box6) (i : Nat) : Int := if 0 < i then (l.getD (i - 1) default).i else 0
def Quo (l : List Box6) (i : Nat) : Int := if 0 < i then (l.getD (i - 1) default).o + 1 else 0
def Qt3 (q s : Int) (l : List Box6) (i : Nat) : Path5 := ⟨q, s, (List.range i).map (Qsh l), Qun l i, Quo l i⟩
def Qtm (q s : Int) (l : List Box6) : Prop := (∀ i, i < l.length → (l.getD i default).ok) ∧ Qha q s (Qt3 q s l l.length).l (Qun l l.length) (Quo l l.length)
instance (q s : Int) (l : List Box6) : Decidable (Qtm q s l) := by unfold Qtm; infer_instance
end Go.Ve

namespace Go.Ve
open Go.Proofs
set_option maxRecDepth 100000
def Path5.low (p : Path5) (k : Nat) : Int := if k < p.l.length then (p.l.getD k default).f else p.f
def Path5.high (p : Path5) (k : Nat) : Int := if k < p.l.length then (p.l.getD k default).b else p.b
def Path5.most (p : Path5) (k : Nat) : Int := if (p.l.getD k default).hold then 10000 else p.s
structure Span2 where
  lo : Int
  hi : Int
  deriving Inhabited
def Span2.row (s : Span2) : List AV := [.int .i64 s.lo, .int .i64 s.hi]
/-- Ahead: the earliest and the latest, from the first step on. -/
def Path5.fwd (p : Path5) : Nat → Span2
  | 0 => ⟨p.low 0, p.high 0⟩
  | k + 1 => ⟨max (p.low (k + 1)) ((p.fwd k).lo + p.q), min (p.high (k + 1)) ((p.fwd k).hi + p.most k)⟩
/-- Back again, from the last one. -/
def Path5.bwd (p : Path5) : Nat → Span2
  | 0 => p.fwd p.l.length
  | d + 1 => ⟨max (p.fwd (p.l.length - (d + 1))).lo ((p.bwd d).lo - p.most (p.l.length - (d + 1))), min (p.fwd (p.l.length - (d + 1))).hi ((p.bwd d).hi - p.q)⟩
def Path5.span (p : Path5) (k : Nat) : Span2 := p.bwd (p.l.length - k)
def Path5.can (p : Path5) : Prop := ∀ k, k < p.l.length + 1 → (p.span k).lo ≤ (p.span k).hi
instance (p : Path5) : Decidable p.can := by unfold Path5.can; infer_instance
def Path5.spans (p : Path5) : List Span2 := if p.can then (List.range (p.l.length + 1)).map p.span else []
/-- What the passes ask of the numbers. -/
structure Path5.calm (p : Path5) : Prop where
  q : 0 ≤ p.q ∧ p.q ≤ 50
  s : 0 ≤ p.s ∧ p.s ≤ 50
  n : p.l.length ≤ 1048576
  lo : ∀ k, k ≤ p.l.length → 0 ≤ p.low k
  hi : ∀ k, k ≤ p.l.length → p.high k ≤ 10000
theorem Path5.calm.most {p : Path5} (h : p.calm) (k : Nat) : 0 ≤ p.most k ∧ p.most k ≤ 10000 := by
  unfold Path5.most
  have := h.s
  split <;> omega
end Go.Ve

namespace Go.Ve
open Go.Proofs
set_option maxRecDepth 100000
def Qgg (n : Int) : List AV := [.int .i64 n]
def unI : List AV → Int
  | [.int _ n] => n
  | _ => 0
theorem Qus (l : List Int) : (l.map Qgg).map unI = l := by
  rw [List.map_map]; exact List.map_id'' (fun s => rfl) l
/-- What the program starts from. -/
def Path5.ini (p : Path5) (bg : List Int) (k : Nat) : Span2 := if k < bg.length then ⟨max (p.low k) (bg.getD k default), min (p.high k) (bg.getD k default)⟩ else ⟨p.low k, p.high k⟩
/-- Ahead, as the program does it. -/
def Path5.wf (p : Path5) (bg : List Int) : Nat → Span2
  | 0 => p.ini bg 0
  | k + 1 => ⟨max (p.ini bg (k + 1)).lo (IntKind.i64.wrap ((p.wf bg k).lo + p.q)), if (p.l.getD k default).hold then (p.ini bg (k + 1)).hi else min (p.ini bg (k + 1)).hi (IntKind.i64.wrap ((p.wf bg k).hi + p.s))⟩
/-- Back again, as the program does it. -/
def Path5.wb (p : Path5) (bg : List Int) : Nat → Span2
  | 0 => p.wf bg p.l.length
  | d + 1 => ⟨if (p.l.getD (p.l.length - (d + 1)) default).hold then (p.wf bg (p.l.length - (d + 1))).lo else max (p.wf bg (p.l.length - (d + 1))).lo (IntKind.i64.wrap ((p.wb bg d).lo - p.s)), min (p.wf bg (p.l.length - (d + 1))).hi (IntKind.i64.wrap ((p.wb bg d).hi - p.q))⟩
def Path5.wsp (p : Path5) (bg : List Int) (j : Nat) : Span2 := p.wb bg (p.l.length - j)
def Path5.wcan (p : Path5) (bg : List Int) : Prop := ∀ k, k < p.l.length + 1 → (p.wsp bg k).lo ≤ (p.wsp bg k).hi
instance (p : Path5) (bg : List Int) : Decidable (p.wcan bg) := by unfold Path5.wcan; infer_instance
end Go.Ve

namespace Go.Ve
open Go.Proofs
set_option maxRecDepth 100000
def Qqf (p : Path5) (bg : List Int) (k j : Nat) : Stp7 := if j < k then { p.l.getD j default with f := max (p.l.getD j default).f (bg.getD j default), b := min (p.l.getD j default).b (bg.getD j default) } else p.l.getD j default
def Path5.held (p : Path5) (bg : List Int) : Path5 := ⟨p.q, p.s, (List.range p.l.length).map (Qqf p bg bg.length), p.f, p.b⟩
end Go.Ve

namespace Go.Ve
open Go.Proofs
set_option maxRecDepth 100000
def Path5.begun (p : Path5) (bg : List Int) : Prop := Qha p.q p.s p.l p.f p.b ∧ bg.length ≤ p.l.length ∧ (p.held bg).can
instance (p : Path5) (bg : List Int) : Decidable (p.begun bg) := by unfold Path5.begun; infer_instance
def Path5.next (p : Path5) (bg : List Int) : Span2 := if p.begun bg then (p.held bg).span bg.length else ⟨0, 0⟩
end Go.Ve

namespace Go.Ve
/-! The program's passes and the reference's come to the same. -/
section
variable {p : Path5} {bg : List Int}
end
end Go.Ve

namespace Go.Ve
open Go.Proofs
set_option maxRecDepth 100000
end Go.Ve

namespace Go.Ve
open Go.Proofs
set_option maxRecDepth 100000
def Path5.fit (p : Path5) : Prop := Qha p.q p.s p.l p.f p.b ∧ p.can
instance (p : Path5) : Decidable p.fit := by unfold Path5.fit; infer_instance
end Go.Ve

namespace Go.Ve
open Go.Proofs
set_option maxRecDepth 100000
def QD : List AV → Box6
  | [.int _ x, .int _ y, .int _ l, .int _ h, .int _ i, .int _ o] => ⟨x, y, l, h, i, o⟩
  | _ => default
theorem QiH (l : List Box6) : (l.map Box6.row).map QD = l := by
  rw [List.map_map]; exact List.map_id'' (fun s => rfl) l
end Go.Ve

namespace Go.Ve
open Go.Proofs
set_option maxRecDepth 100000
theorem Vc {α : Type} [Inhabited α] {a b : List α} (hl : a.length = b.length) (h : ∀ j, j < a.length → a.getD j default = b.getD j default) : a = b := by
  refine List.ext_getElem hl fun j h1 h2 => ?_
  have := h j h1
  simpa [h1, h2] using this
end Go.Ve

namespace Go.Ve
open Go.Proofs
set_option maxRecDepth 100000
end Go.Ve

namespace Go.Ve
open Go.Proofs
set_option maxRecDepth 100000
def Path5.tail (p : Path5) (k : Nat) : Path5 := { p with l := p.l.drop k }
def Path5.after (p : Path5) (now : Int) : Path5 := if 1 < p.l.length then { p with l := p.l.set 1 { p.l.getD 1 default with f := max (p.l.getD 1 default).f (now + 1) } } else { p with f := max p.f (now + 1) }
end Go.Ve

namespace Go.Ve
/-! The spans are those of flights. -/
section
variable {p : Path5}
end

/-! A path begun later, or at a later step. -/
/-- The first step's ticks set anew. -/
def Path5.first (p : Path5) (f b : Int) : Path5 := { p with l := p.l.set 0 { p.l.getD 0 default with f := f, b := b } }
def Path5.rest (p : Path5) (k : Nat) (f b now : Int) : Path5 := ((p.tail k).first f b).after now
section
variable {p : Path5} {k : Nat} {f b now : Int}
end
/-! Waiting ahead of the first step. -/
def Path5.wait (p : Path5) (now : Int) : Path5 := { p with l := p.l.set 0 { p.l.getD 0 default with f := max (p.l.getD 0 default).f (now + 1) } }
end Go.Ve

namespace Go.Ve
open Go.Proofs
set_option maxRecDepth 100000
def Path5.restAt (p : Path5) (k e now : Int) : Path5 := p.rest k.toNat (max (p.l.getD k.toNat default).f e) (min (p.l.getD k.toNat default).b e) now
def Path5.goes (p : Path5) (k e now : Int) : Prop := Qha p.q p.s p.l p.f p.b ∧ (0 ≤ k ∧ k < p.l.length) ∧ (0 ≤ e ∧ e ≤ now ∧ now ≤ 10000) ∧ (p.restAt k e now).can
instance (p : Path5) (k e now : Int) : Decidable (p.goes k e now) := by unfold Path5.goes; infer_instance
end Go.Ve

namespace Go.Ve
open Go.Proofs
set_option maxRecDepth 100000
end Go.Ve

namespace Go.Ve
open Go.Proofs
set_option maxRecDepth 100000
/-- The aircraft can stay where it is behind now. -/
def Path5.stays (p : Path5) (bg : List Int) (now : Int) : Prop := if bg.length = 0 then Qha p.q p.s p.l p.f p.b ∧ (p.wait now).can else p.goes ((bg.length : Int) - 1) (bg.getD (bg.length - 1) default) now
instance (p : Path5) (bg : List Int) (now : Int) : Decidable (p.stays bg now) := by unfold Path5.stays; infer_instance
end Go.Ve

namespace Go.Ve
open Go.Proofs
set_option maxRecDepth 100000
def Path5.must (p : Path5) (bg : List Int) (now : Int) : Prop := p.begun bg ∧ ((p.next bg).lo ≤ now ∧ now ≤ (p.next bg).hi) ∧ ¬ p.stays bg now
instance (p : Path5) (bg : List Int) (now : Int) : Decidable (p.must bg now) := by unfold Path5.must; infer_instance
end Go.Ve

namespace Go.Ve
open Go.Proofs
set_option maxRecDepth 100000
def GG (a : Int) (n : Nat) : Int := if a - n < 0 then -1 else a - n
theorem Box6.eq_iff (a b : Box6) : a = b ↔ a.x = b.x ∧ a.y = b.y ∧ a.l = b.l ∧ a.h = b.h ∧ a.i = b.i ∧ a.o = b.o := ⟨fun h => by subst h; exact ⟨rfl, rfl, rfl, rfl, rfl, rfl⟩, fun h => by
  cases a; cases b; simp only at h; simp only [Box6.mk.injEq]; exact h⟩
instance : DecidableEq Box6 := fun a b => decidable_of_iff _ (Box6.eq_iff a b).symm
theorem Qqg (t sz : Nat) (xs : List (List AV)) (a : Int) (hp : (0 ≤ a ∧ a ≤ 1048576) ∧ xs.length ≤ 9223372036854775807) : Contract P 23 [.sl t sz xs, .int .i64 a] [] (.int .i64 (GG a xs.length)) [] := by
  refine Qh (Env.nil P) hm QeJ (Nat.le_of_ble_eq_true rfl) rfl ?_
  unfold Wr
  simp only [VE, QmQ, QdY, QdZ, VF, G1, VG, VH, Qd0, QmR, Qd1, Qd2, Qd3, Qd4, Qd5, Qd6, Qd7, Qd8, Qd9, Qea, Qeb, G2, G3, G4, VI, VJ, VK, G5, G6, G7, G8, G9, Xa, VL, VM, VN, VO, VP, YL, KX, QdX, GY, GZ, VB, G0, VC, VD, GX, YK, Vy, Vz, QdU, VA, QdV, QdW, Xd, Xe, Qi, Qj, YP, YQ, Xh, Xi, Xf, Xg, Qk, Ql, Qm2, Qm3, VT, VU, Qec, VQ, VR, VS, V6, V7, V8, YM, YN, YO, QmS, QmT, QmU, QmV, Xb, Xc, QmX, QmW, QmY, YR, VV, Qed, VX, Qee, Qef, Qeg, Qeh, VY, Xj, Qei, Xk, Xl, Xm, Xn, Xo, YS, YT, Xp, VZ, Xq, V0, V1, V2, QmZ, Qm0, Qej, Xr, Qek, YU, Qel, V3, GE, Qm1, Xs, Qem, V4, Qen, Qeo, Qm4, Qep, Qeq, Qm5, Qer, V5, Qes, Qm6, Qet, Qeu, Qm7, Qm8, Qm9, Qev, eff, KS, Kl, V9, Qew, Wa, Wb, Wc, Qna, Qnb, KV, KW, Xt, Qnc, Qnd, Qne, QaJ, pur, List.map, List.drop, List.take, List.length, List.foldl, List.append_eq, List.nil_append, List.cons_append, List.getD_cons_zero, List.getD_cons_succ, reduceIte, Nat.reduceEqDiff, Nat.reduceAdd, Nat.reduceLeDiff, true_and, and_true, Bool.not_true, Bool.not_false, Bool.and_true, Bool.true_and, Bool.and_self, reduceCtorEq, true_implies, false_implies, implies_true, decide_eq_true_eq, Option.map_some, QhT, fpX, SOp.xs, oX, refs, Yx, dom, QfJ, List.all_nil, List.all_cons, List.contains_cons, List.contains_nil, Nat.reduceBEq, Bool.or_false, Bool.false_or, List.append_nil, Bool.not_false, Bool.not_true, List.forall_mem_cons, fm0, List.set, Nat.reduceLT, Nat.reduceMod, ne_eq, not_false_eq_true, not_true_eq_false
, Qnf, Qex, Qey, Qez, Wd, Xu, We, QeA, Wf, Wg, Qng, Qnh, Qni, QeB, QeC, QeD, Xv, Xw, decide_true, AV.bool.injEq, AV.int.injEq, Nat.reduceLeDiff, Bool.true_eq, Bool.false_eq, decide_eq_true_eq, decide_eq_false_iff_not]
  unfold GG
  exact ⟨by omega, fun h => by rw [if_pos (by omega)], fun h => by rw [if_neg (by omega)]⟩
def Qs : List AV → Option (Prop × AV)
  | [.sl t sz xs, .int .i64 a] => some ((0 ≤ a ∧ a ≤ 1048576) ∧ xs.length ≤ 9223372036854775807, .int .i64 (GG a xs.length))
  | _ => none
theorem Qdj : ∀ args p v, Qs args = some (p, v) → p → Contract P 23 args [] v [] ∧ noref v = true ∧ No99 v := by
  intro args p v h1 h2
  unfold Qs at h1
  split at h1
  · cases h1; exact ⟨Qqg _ _ _ _ h2, rfl, trivial⟩
  · cases h1
theorem Qsi (x : Int) (y : Int) (l : Int) (h : Int) (i : Int) (o : Int) (hp : True) : Contract P 67 [.agg [.int .i64 x, .int .i64 y, .int .i64 l, .int .i64 h, .int .i64 i, .int .i64 o]] [] (.agg [.int .i64 x, .int .i64 y, .int .i64 l, .int .i64 h, .int .i64 i, .int .i64 o]) [] := by
  refine Qh (Env.nil P) hm QfK (Nat.le_of_ble_eq_true rfl) rfl ?_
  unfold Qak
  simp only [VE, QmQ, QdY, QdZ, VF, G1, VG, VH, Qd0, QmR, Qd1, Qd2, Qd3, Qd4, Qd5, Qd6, Qd7, Qd8, Qd9, Qea, Qeb, G2, G3, G4, VI, VJ, VK, G5, G6, G7, G8, G9, Xa, VL, VM, VN, VO, VP, YL, KX, QdX, GY, GZ, VB, G0, VC, VD, GX, YK, Vy, Vz, QdU, VA, QdV, QdW, Xd, Xe, Qi, Qj, YP, YQ, Xh, Xi, Xf, Xg, Qk, Ql, Qm2, Qm3, VT, VU, Qec, VQ, VR, VS, V6, V7, V8, YM, YN, YO, QmS, QmT, QmU, QmV, Xb, Xc, QmX, QmW, QmY, YR, VV, Qed, VX, Qee, Qef, Qeg, Qeh, VY, Xj, Qei, Xk, Xl, Xm, Xn, Xo, YS, YT, Xp, VZ, Xq, V0, V1, V2, QmZ, Qm0, Qej, Xr, Qek, YU, Qel, V3, GE, Qm1, Xs, Qem, V4, Qen, Qeo, Qm4, Qep, Qeq, Qm5, Qer, V5, Qes, Qm6, Qet, Qeu, Qm7, Qm8, Qm9, Qev, eff, KS, Kl, V9, Qew, Wa, Wb, Wc, Qna, Qnb, KV, KW, Xt, Qnc, Qnd, Qne, QaJ, pur, List.map, List.drop, List.take, List.length, List.foldl, List.append_eq, List.nil_append, List.cons_append, List.getD_cons_zero, List.getD_cons_succ, reduceIte, Nat.reduceEqDiff, Nat.reduceAdd, Nat.reduceLeDiff, true_and, and_true, Bool.not_true, Bool.not_false, Bool.and_true, Bool.true_and, Bool.and_self, reduceCtorEq, true_implies, false_implies, implies_true, decide_eq_true_eq, Option.map_some, QhT, fpX, SOp.xs, oX, refs, Yx, dom, QfJ, List.all_nil, List.all_cons, List.contains_cons, List.contains_nil, Nat.reduceBEq, Bool.or_false, Bool.false_or, List.append_nil, Bool.not_false, Bool.not_true, List.forall_mem_cons, fm0, List.set, Nat.reduceLT, Nat.reduceMod, ne_eq, not_false_eq_true, not_true_eq_false
, Qnf, Qex, Qey, Qez, Wd, Xu, We, QeA, Wf, Wg, Qng, Qnh, Qni, QeB, QeC, QeD, Xv, Xw, decide_true, AV.bool.injEq, AV.int.injEq, Nat.reduceLeDiff, Bool.true_eq, Bool.false_eq, decide_eq_true_eq, decide_eq_false_iff_not]

def Qbh : List AV → Option (Prop × AV)
  | [.agg [.int .i64 x, .int .i64 y, .int .i64 l, .int .i64 h, .int .i64 i, .int .i64 o]] => some (True, .agg [.int .i64 x, .int .i64 y, .int .i64 l, .int .i64 h, .int .i64 i, .int .i64 o])
  | _ => none
theorem QoG : ∀ args p v, Qbh args = some (p, v) → p → Contract P 67 args [] v [] ∧ noref v = true ∧ No99 v := by
  intro args p v h1 h2
  unfold Qbh at h1
  split at h1
  · cases h1; exact ⟨Qsi _ _ _ _ _ _ h2, rfl, by simp [No99, JT]⟩
  · cases h1
theorem Qsj (x : Int) (y : Int) (l : Int) (h : Int) (i : Int) (o : Int) (ox : Int) (oy : Int) (ol : Int) (oh : Int) (oi : Int) (oo : Int) : Contract P 69 [.agg [.int .i64 x, .int .i64 y, .int .i64 l, .int .i64 h, .int .i64 i, .int .i64 o], .agg [.int .i64 ox, .int .i64 oy, .int .i64 ol, .int .i64 oh, .int .i64 oi, .int .i64 oo]] [] (.bool (decide ((⟨x, y, l, h, i, o⟩ : Box6) = ⟨ox, oy, ol, oh, oi, oo⟩))) [] := by
  refine Qh (Env.nil P) hm QfL (Nat.le_of_ble_eq_true rfl) rfl ?_
  unfold Qal
  simp only [VE, QmQ, QdY, QdZ, VF, G1, VG, VH, Qd0, QmR, Qd1, Qd2, Qd3, Qd4, Qd5, Qd6, Qd7, Qd8, Qd9, Qea, Qeb, G2, G3, G4, VI, VJ, VK, G5, G6, G7, G8, G9, Xa, VL, VM, VN, VO, VP, YL, KX, QdX, GY, GZ, VB, G0, VC, VD, GX, YK, Vy, Vz, QdU, VA, QdV, QdW, Xd, Xe, Qi, Qj, YP, YQ, Xh, Xi, Xf, Xg, Qk, Ql, Qm2, Qm3, VT, VU, Qec, VQ, VR, VS, V6, V7, V8, YM, YN, YO, QmS, QmT, QmU, QmV, Xb, Xc, QmX, QmW, QmY, YR, VV, Qed, VX, Qee, Qef, Qeg, Qeh, VY, Xj, Qei, Xk, Xl, Xm, Xn, Xo, YS, YT, Xp, VZ, Xq, V0, V1, V2, QmZ, Qm0, Qej, Xr, Qek, YU, Qel, V3, GE, Qm1, Xs, Qem, V4, Qen, Qeo, Qm4, Qep, Qeq, Qm5, Qer, V5, Qes, Qm6, Qet, Qeu, Qm7, Qm8, Qm9, Qev, eff, KS, Kl, V9, Qew, Wa, Wb, Wc, Qna, Qnb, KV, KW, Xt, Qnc, Qnd, Qne, QaJ, pur, List.map, List.drop, List.take, List.length, List.foldl, List.append_eq, List.nil_append, List.cons_append, List.getD_cons_zero, List.getD_cons_succ, reduceIte, Nat.reduceEqDiff, Nat.reduceAdd, Nat.reduceLeDiff, true_and, and_true, Bool.not_true, Bool.not_false, Bool.and_true, Bool.true_and, Bool.and_self, reduceCtorEq, true_implies, false_implies, implies_true, decide_eq_true_eq, Option.map_some, QhT, fpX, SOp.xs, oX, refs, Yx, dom, QfJ, List.all_nil, List.all_cons, List.contains_cons, List.contains_nil, Nat.reduceBEq, Bool.or_false, Bool.false_or, List.append_nil, Bool.not_false, Bool.not_true, List.forall_mem_cons, fm0, List.set, Nat.reduceLT, Nat.reduceMod, ne_eq, not_false_eq_true, not_true_eq_false
, Qnf, Qex, Qey, Qez, Wd, Xu, We, QeA, Wf, Wg, Qng, Qnh, Qni, QeB, QeC, QeD, Xv, Xw, decide_true, AV.bool.injEq, AV.int.injEq, Nat.reduceLeDiff, Bool.true_eq, Bool.false_eq, decide_eq_true_eq, decide_eq_false_iff_not]
  simp only [Box6.mk.injEq]
  repeat' (first | apply And.intro | intro _)
  all_goals (first | trivial | (simp_all; done))
def Qhb : List AV → Option (Prop × AV)
  | [.agg [.int .i64 x, .int .i64 y, .int .i64 l, .int .i64 h, .int .i64 i, .int .i64 o], .agg [.int .i64 ox, .int .i64 oy, .int .i64 ol, .int .i64 oh, .int .i64 oi, .int .i64 oo]] => some (True, .bool (decide ((⟨x, y, l, h, i, o⟩ : Box6) = ⟨ox, oy, ol, oh, oi, oo⟩)))
  | _ => none
theorem Qsk : ∀ args p v, Qhb args = some (p, v) → p → Contract P 69 args [] v [] ∧ noref v = true ∧ No99 v := by
  intro args p v h1 h2
  unfold Qhb at h1
  split at h1
  · cases h1; exact ⟨Qsj _ _ _ _ _ _ _ _ _ _ _ _, rfl, trivial⟩
  · cases h1
def Qmd (t t' : Nat) (a b : List Box6) (i : Nat) : St := ⟨[(0, .sl t 6 (a.map Box6.row)), (1, .sl t' 6 (b.map Box6.row)), (5, .int .i64 i)], []⟩
theorem Qqh (t t' : Nat) (a b : List Box6) (ha : a.length ≤ 4611686018427387904) : Contract P 27 [.sl t 6 (a.map Box6.row), .sl t' 6 (b.map Box6.row)] [] (.bool (decide (a = b))) [] := by
  refine Qh ((Env.nil P).add 69 Qhb Qsk) hm QeL (Nat.le_of_ble_eq_true rfl) rfl ?_
  unfold Wt
  simp only [VE, QmQ, QdY, QdZ, VF, G1, VG, VH, Qd0, QmR, Qd1, Qd2, Qd3, Qd4, Qd5, Qd6, Qd7, Qd8, Qd9, Qea, Qeb, G2, G3, G4, VI, VJ, VK, G5, G6, G7, G8, G9, Xa, VL, VM, VN, VO, VP, YL, KX, QdX, GY, GZ, VB, G0, VC, VD, GX, YK, Vy, Vz, QdU, VA, QdV, QdW, Xd, Xe, Qi, Qj, YP, YQ, Xh, Xi, Xf, Xg, Qk, Ql, Qm2, Qm3, VT, VU, Qec, VQ, VR, VS, V6, V7, V8, YM, YN, YO, QmS, QmT, QmU, QmV, Xb, Xc, QmX, QmW, QmY, YR, VV, Qed, VX, Qee, Qef, Qeg, Qeh, VY, Xj, Qei, Xk, Xl, Xm, Xn, Xo, YS, YT, Xp, VZ, Xq, V0, V1, V2, QmZ, Qm0, Qej, Xr, Qek, YU, Qel, V3, GE, Qm1, Xs, Qem, V4, Qen, Qeo, Qm4, Qep, Qeq, Qm5, Qer, V5, Qes, Qm6, Qet, Qeu, Qm7, Qm8, Qm9, Qev, eff, KS, Kl, V9, Qew, Wa, Wb, Wc, Qna, Qnb, KV, KW, Xt, Qnc, Qnd, Qne, QaJ, pur, List.map, List.drop, List.take, List.length, List.foldl, List.append_eq, List.nil_append, List.cons_append, List.getD_cons_zero, List.getD_cons_succ, reduceIte, Nat.reduceEqDiff, Nat.reduceAdd, Nat.reduceLeDiff, true_and, and_true, Bool.not_true, Bool.not_false, Bool.and_true, Bool.true_and, Bool.and_self, reduceCtorEq, true_implies, false_implies, implies_true, decide_eq_true_eq, Option.map_some, QhT, fpX, SOp.xs, oX, refs, Yx, dom, QfJ, List.all_nil, List.all_cons, List.contains_cons, List.contains_nil, Nat.reduceBEq, Bool.or_false, Bool.false_or, List.append_nil, Bool.not_false, Bool.not_true, List.forall_mem_cons, fm0, List.set, Nat.reduceLT, Nat.reduceMod, ne_eq, not_false_eq_true, not_true_eq_false
, Qnf, Qex, Qey, Qez, Wd, Xu, We, QeA, Wf, Wg, Qng, Qnh, Qni, QeB, QeC, QeD, Xv, Xw, decide_true, AV.bool.injEq, AV.int.injEq, Nat.reduceLeDiff, Bool.true_eq, Bool.false_eq, decide_eq_true_eq, decide_eq_false_iff_not, Qhb, List.length_map, Box6.row, Int.toNat_natCast, Int.natCast_inj]
  refine ⟨fun h1 h => h1 (by rw [h]), fun h1 => ?_⟩
  refine Qi3 (Qmd t t' a b) (fun i => i ≤ a.length ∧ ∀ j, j < i → a.getD j default = b.getD j default) (fun i => a.length - i) 0 ⟨⟨.inr rfl, .inr rfl, .inr rfl, trivial⟩, trivial, rfl, rfl⟩ ⟨Nat.zero_le _, fun j hj => by omega⟩ ?_
  intro i hi
  unfold Z2 Qmd
  simp only [VE, QmQ, QdY, QdZ, VF, G1, VG, VH, Qd0, QmR, Qd1, Qd2, Qd3, Qd4, Qd5, Qd6, Qd7, Qd8, Qd9, Qea, Qeb, G2, G3, G4, VI, VJ, VK, G5, G6, G7, G8, G9, Xa, VL, VM, VN, VO, VP, YL, KX, QdX, GY, GZ, VB, G0, VC, VD, GX, YK, Vy, Vz, QdU, VA, QdV, QdW, Xd, Xe, Qi, Qj, YP, YQ, Xh, Xi, Xf, Xg, Qk, Ql, Qm2, Qm3, VT, VU, Qec, VQ, VR, VS, V6, V7, V8, YM, YN, YO, QmS, QmT, QmU, QmV, Xb, Xc, QmX, QmW, QmY, YR, VV, Qed, VX, Qee, Qef, Qeg, Qeh, VY, Xj, Qei, Xk, Xl, Xm, Xn, Xo, YS, YT, Xp, VZ, Xq, V0, V1, V2, QmZ, Qm0, Qej, Xr, Qek, YU, Qel, V3, GE, Qm1, Xs, Qem, V4, Qen, Qeo, Qm4, Qep, Qeq, Qm5, Qer, V5, Qes, Qm6, Qet, Qeu, Qm7, Qm8, Qm9, Qev, eff, KS, Kl, V9, Qew, Wa, Wb, Wc, Qna, Qnb, KV, KW, Xt, Qnc, Qnd, Qne, QaJ, pur, List.map, List.drop, List.take, List.length, List.foldl, List.append_eq, List.nil_append, List.cons_append, List.getD_cons_zero, List.getD_cons_succ, reduceIte, Nat.reduceEqDiff, Nat.reduceAdd, Nat.reduceLeDiff, true_and, and_true, Bool.not_true, Bool.not_false, Bool.and_true, Bool.true_and, Bool.and_self, reduceCtorEq, true_implies, false_implies, implies_true, decide_eq_true_eq, Option.map_some, QhT, fpX, SOp.xs, oX, refs, Yx, dom, QfJ, List.all_nil, List.all_cons, List.contains_cons, List.contains_nil, Nat.reduceBEq, Bool.or_false, Bool.false_or, List.append_nil, Bool.not_false, Bool.not_true, List.forall_mem_cons, fm0, List.set, Nat.reduceLT, Nat.reduceMod, ne_eq, not_false_eq_true, not_true_eq_false
, Qnf, Qex, Qey, Qez, Wd, Xu, We, QeA, Wf, Wg, Qng, Qnh, Qni, QeB, QeC, QeD, Xv, Xw, decide_true, AV.bool.injEq, AV.int.injEq, Nat.reduceLeDiff, Bool.true_eq, Bool.false_eq, decide_eq_true_eq, decide_eq_false_iff_not, Qhb, List.length_map, Box6.row, Int.toNat_natCast, Int.natCast_inj]
  refine ⟨fun h2 => ⟨by omega, by omega, by omega, by omega, fun h3 => ⟨by omega, Ql4 (i + 1) ⟨⟨.inr rfl, .inr rfl, .inr rfl, trivial⟩, trivial, rfl, rfl⟩ ⟨by omega, fun j hj => ?_⟩ (by omega)⟩, fun h3 h => h3 (by rw [h])⟩, fun h2 => Vc (by omega) fun j hj => hi.2 j (by have := hi.1; omega)⟩
  by_cases e : j = i
  · subst e; exact h3
  · exact hi.2 j (by omega)
theorem Qgh {lst : List Box6} {idx : Nat} {vx : Int} {vy : Int} {vl : Int} {vh : Int} {vi : Int} {vo : Int} : (lst.map Box6.row).set idx (Q7 ((lst.map Box6.row).getD idx []) 0 [.int .i64 vx, .int .i64 vy, .int .i64 vl, .int .i64 vh, .int .i64 vi, .int .i64 vo]) = (lst.set idx ⟨vx, vy, vl, vh, vi, vo⟩).map Box6.row :=
  Kg (α := Box6) (f := Box6.row) (fun s => ⟨vx, vy, vl, vh, vi, vo⟩) fun x => by simp [Box6.row, Q7]
def Yn (a : List Box6) (i : Nat) : List Box6 := a.take i ++ List.replicate (a.length - i) ⟨0, 0, 0, 0, 0, 0⟩
def Qme (t : Nat) (a : List Box6) (i : Nat) : St := ⟨[(0, .sl t 6 (a.map Box6.row)), (3, .own 107 0 0 a.length), (4, .int .i64 i)], [(107, .arr 100 0 6 ((Yn a i).map Box6.row))]⟩
theorem Qgi (t : Nat) (a : List Box6) (ha : a.length ≤ 1048576) : Contract P 25 [.sl t 6 (a.map Box6.row)] [] (.sl 0 6 (a.map Box6.row)) [] := by
  refine Qh ((Env.nil P).add 67 Qbh QoG) hm QeK (Nat.le_of_ble_eq_true rfl) rfl ?_
  unfold Ws
  simp only [VE, QmQ, QdY, QdZ, VF, G1, VG, VH, Qd0, QmR, Qd1, Qd2, Qd3, Qd4, Qd5, Qd6, Qd7, Qd8, Qd9, Qea, Qeb, G2, G3, G4, VI, VJ, VK, G5, G6, G7, G8, G9, Xa, VL, VM, VN, VO, VP, YL, KX, QdX, GY, GZ, VB, G0, VC, VD, GX, YK, Vy, Vz, QdU, VA, QdV, QdW, Xd, Xe, Qi, Qj, YP, YQ, Xh, Xi, Xf, Xg, Qk, Ql, Qm2, Qm3, VT, VU, Qec, VQ, VR, VS, V6, V7, V8, YM, YN, YO, QmS, QmT, QmU, QmV, Xb, Xc, QmX, QmW, QmY, YR, VV, Qed, VX, Qee, Qef, Qeg, Qeh, VY, Xj, Qei, Xk, Xl, Xm, Xn, Xo, YS, YT, Xp, VZ, Xq, V0, V1, V2, QmZ, Qm0, Qej, Xr, Qek, YU, Qel, V3, GE, Qm1, Xs, Qem, V4, Qen, Qeo, Qm4, Qep, Qeq, Qm5, Qer, V5, Qes, Qm6, Qet, Qeu, Qm7, Qm8, Qm9, Qev, eff, KS, Kl, V9, Qew, Wa, Wb, Wc, Qna, Qnb, KV, KW, Xt, Qnc, Qnd, Qne, QaJ, pur, List.map, List.drop, List.take, List.length, List.foldl, List.append_eq, List.nil_append, List.cons_append, List.getD_cons_zero, List.getD_cons_succ, reduceIte, Nat.reduceEqDiff, Nat.reduceAdd, Nat.reduceLeDiff, true_and, and_true, Bool.not_true, Bool.not_false, Bool.and_true, Bool.true_and, Bool.and_self, reduceCtorEq, true_implies, false_implies, implies_true, decide_eq_true_eq, Option.map_some, QhT, fpX, SOp.xs, oX, refs, Yx, dom, QfJ, List.all_nil, List.all_cons, List.contains_cons, List.contains_nil, Nat.reduceBEq, Bool.or_false, Bool.false_or, List.append_nil, Bool.not_false, Bool.not_true, List.forall_mem_cons, fm0, List.set, Nat.reduceLT, Nat.reduceMod, ne_eq, not_false_eq_true, not_true_eq_false
, Qnf, Qex, Qey, Qez, Wd, Xu, We, QeA, Wf, Wg, Qng, Qnh, Qni, QeB, QeC, QeD, Xv, Xw, decide_true, AV.bool.injEq, AV.int.injEq, Nat.reduceLeDiff, Bool.true_eq, Bool.false_eq, decide_eq_true_eq, decide_eq_false_iff_not, Qbh, List.length_map, Box6.row, Int.toNat_natCast, Qk6, Qgh, Nat.zero_add, Nat.sub_zero]
  have m0 : List.replicate a.length [.int .i64 0, .int .i64 0, .int .i64 0, .int .i64 0, .int .i64 0, .int .i64 0] = (Yn a 0).map Box6.row := by simp [Yn, Box6.row]
  refine ⟨by omega, Qi3 (Qme t a) (fun i => i ≤ a.length) (fun i => a.length - i) 0 ⟨⟨.inr rfl, .inr rfl, .inr rfl, trivial⟩, ⟨congrArg (fun g => some (AObj.arr 100 0 6 g)) m0, trivial⟩, rfl, rfl⟩ (Nat.zero_le _) ?_⟩
  intro i hi
  unfold Z1 Qme
  simp only [VE, QmQ, QdY, QdZ, VF, G1, VG, VH, Qd0, QmR, Qd1, Qd2, Qd3, Qd4, Qd5, Qd6, Qd7, Qd8, Qd9, Qea, Qeb, G2, G3, G4, VI, VJ, VK, G5, G6, G7, G8, G9, Xa, VL, VM, VN, VO, VP, YL, KX, QdX, GY, GZ, VB, G0, VC, VD, GX, YK, Vy, Vz, QdU, VA, QdV, QdW, Xd, Xe, Qi, Qj, YP, YQ, Xh, Xi, Xf, Xg, Qk, Ql, Qm2, Qm3, VT, VU, Qec, VQ, VR, VS, V6, V7, V8, YM, YN, YO, QmS, QmT, QmU, QmV, Xb, Xc, QmX, QmW, QmY, YR, VV, Qed, VX, Qee, Qef, Qeg, Qeh, VY, Xj, Qei, Xk, Xl, Xm, Xn, Xo, YS, YT, Xp, VZ, Xq, V0, V1, V2, QmZ, Qm0, Qej, Xr, Qek, YU, Qel, V3, GE, Qm1, Xs, Qem, V4, Qen, Qeo, Qm4, Qep, Qeq, Qm5, Qer, V5, Qes, Qm6, Qet, Qeu, Qm7, Qm8, Qm9, Qev, eff, KS, Kl, V9, Qew, Wa, Wb, Wc, Qna, Qnb, KV, KW, Xt, Qnc, Qnd, Qne, QaJ, pur, List.map, List.drop, List.take, List.length, List.foldl, List.append_eq, List.nil_append, List.cons_append, List.getD_cons_zero, List.getD_cons_succ, reduceIte, Nat.reduceEqDiff, Nat.reduceAdd, Nat.reduceLeDiff, true_and, and_true, Bool.not_true, Bool.not_false, Bool.and_true, Bool.true_and, Bool.and_self, reduceCtorEq, true_implies, false_implies, implies_true, decide_eq_true_eq, Option.map_some, QhT, fpX, SOp.xs, oX, refs, Yx, dom, QfJ, List.all_nil, List.all_cons, List.contains_cons, List.contains_nil, Nat.reduceBEq, Bool.or_false, Bool.false_or, List.append_nil, Bool.not_false, Bool.not_true, List.forall_mem_cons, fm0, List.set, Nat.reduceLT, Nat.reduceMod, ne_eq, not_false_eq_true, not_true_eq_false
, Qnf, Qex, Qey, Qez, Wd, Xu, We, QeA, Wf, Wg, Qng, Qnh, Qni, QeB, QeC, QeD, Xv, Xw, decide_true, AV.bool.injEq, AV.int.injEq, Nat.reduceLeDiff, Bool.true_eq, Bool.false_eq, decide_eq_true_eq, decide_eq_false_iff_not, Qbh, List.length_map, Box6.row, Int.toNat_natCast, Qk6, Qgh, Nat.zero_add, Nat.sub_zero]
  have st : i < a.length → (Yn a i).set i (a.getD i default) = Yn a (i + 1) := fun h => by
    refine List.ext_getElem (by simp [Yn]; omega) fun j h1 h2 => ?_
    by_cases e : j = i
    · subst e
      simp [Yn, List.getElem_append, h]
      intro h9; omega
    · simp only [List.getElem_set_ne (Ne.symm e)]
      simp only [Yn, List.getElem_append, List.length_take, List.getElem_take, List.getElem_replicate]
      split <;> split <;> first | rfl | omega
  refine ⟨fun h => ⟨by omega, by omega, by omega, rfl, by omega, Ql4 (i + 1) ⟨⟨.inr rfl, .inr rfl, .inr rfl, trivial⟩, ⟨congrArg (fun g => some (AObj.arr 100 0 6 (List.map Box6.row g))) (st (by omega)), trivial⟩, rfl, rfl⟩ (by omega) (by omega)⟩, fun h => ?_⟩
  have e : i = a.length := by omega
  subst e
  simp only [Yn, List.take_length, Nat.sub_self, List.replicate_zero, List.append_nil]
  rw [List.take_of_length_le (by simp)]
end Go.Ve

namespace Go.Ve
open Go.Proofs
set_option maxRecDepth 100000
structure Kind2 where
  q : Int
  s : Int
  deriving Inhabited
theorem QfD (l : List Int) : Jo (l.map Qgg) := by
  induction l with
  | nil => trivial
  | cons x l ih => exact ⟨⟨trivial, trivial⟩, ih⟩
theorem Jj (l : List Box6) : Jo (l.map Box6.row) := by
  induction l with
  | nil => trivial
  | cons x l ih => exact ⟨⟨trivial, trivial, trivial, trivial, trivial, trivial, trivial⟩, ih⟩
def Qr : List AV → Option (Prop × AV)
  | [.sl _ 6 xs, .sl _ 6 ys] => some (((xs.map QD).map Box6.row = xs ∧ (ys.map QD).map Box6.row = ys) ∧ (xs.map QD).length ≤ 4611686018427387904, .bool (decide (xs.map QD = ys.map QD)))
  | _ => none
theorem QbN : ∀ args p v, Qr args = some (p, v) → p → Contract P 27 args [] v [] ∧ noref v = true ∧ No99 v := by
  intro args p v h1 h2
  unfold Qr at h1
  split at h1
  · rename_i t xs t' ys
    cases h1
    have := Qqh t t' (xs.map QD) (ys.map QD) h2.2
    simp only [h2.1.1, h2.1.2] at this
    exact ⟨this, rfl, trivial⟩
  · cases h1
def QbO : List AV → Option (Prop × AV)
  | [.sl _ 6 xs] => some ((xs.map QD).map Box6.row = xs ∧ (xs.map QD).length ≤ 1048576, .sl 0 6 ((xs.map QD).map Box6.row))
  | _ => none
theorem Qmf : ∀ args p v, QbO args = some (p, v) → p → Contract P 25 args [] v [] ∧ noref v = true ∧ No99 v := by
  intro args p v h1 h2
  unfold QbO at h1
  split at h1
  · rename_i t xs
    cases h1
    have := Qgi t (xs.map QD) h2.2
    rw [h2.1] at this ⊢
    exact ⟨this, rfl, by omega, by rw [← h2.1]; exact Jj _⟩
  · cases h1
theorem Kind2.eq_iff (a b : Kind2) : a = b ↔ a.q = b.q ∧ a.s = b.s := ⟨fun h => by subst h; exact ⟨rfl, rfl⟩, fun h => by
  cases a; cases b; simp only at h; simp only [Kind2.mk.injEq]; exact h⟩
instance : DecidableEq Kind2 := fun a b => decidable_of_iff _ (Kind2.eq_iff a b).symm
end Go.Ve

namespace Go.Ve
noncomputable section
open Go.Proofs
set_option maxRecDepth 100000
structure Zone where
  nm : ByteArray
  x0 : Int
  y0 : Int
  x1 : Int
  y1 : Int
  deriving Inhabited, DecidableEq
def Zone.row (s : Zone) : List AV := [.str s.nm, .int .i64 s.x0, .int .i64 s.y0, .int .i64 s.x1, .int .i64 s.y1]
def QB : List AV → Zone
  | [.str vnm, .int .i64 vx0, .int .i64 vy0, .int .i64 vx1, .int .i64 vy1] => (Zone.mk vnm vx0 vy0 vx1 vy1)
  | _ => default
theorem Qnq (s : Zone) : QB (Zone.row s) = s := by
  cases s; simp only [Zone.row, QB]
theorem Vs (l : List Zone) : (l.map Zone.row).map QB = l := by
  rw [List.map_map]; exact List.map_id'' (fun s => Qnq s) l
theorem Yt (s : Zone) : (Zone.mk s.nm s.x0 s.y0 s.x1 s.y1) = s := (rfl)
theorem Qqi (s : Zone) : (Zone.row s).length = 5 := (rfl)
theorem Qsl (s : Zone) : Jy (Zone.row s) = true := (rfl)
theorem Ky (l : List Zone) : Jo (l.map Zone.row) := by
  induction l with
  | nil => simp [Jo]
  | cons x l ih => simp only [List.map_cons, Jo]; exact ⟨by simp [Zone.row, JT, No99], ih⟩
theorem QoH (s : Zone) : List.take 5 (Zone.row s) = Zone.row s := (rfl)
structure Word where
  kd : Int
  fr : ByteArray
  dst : ByteArray
  fl : ByteArray
  nr : Int
  la : Int
  tn : Int
  tu : List Box6
  deriving Inhabited, DecidableEq
def Word.row (t : Nat) (s : Word) : List AV := [.int .i64 s.kd, .str s.fr, .str s.dst, .str s.fl, .int .i64 s.nr, .int .i64 s.la, .int .i64 s.tn, .sl t 6 (s.tu.map Box6.row)]
def Qkr : List AV → Word
  | [.int .i64 vkd, .str vfr, .str vdst, .str vfl, .int .i64 vnr, .int .i64 vla, .int .i64 vtn, .sl _ 6 vtu] => (Word.mk vkd vfr vdst vfl vnr vla vtn (vtu.map QD))
  | _ => default
theorem Qnr (t : Nat) (s : Word) : Qkr (Word.row t s) = s := by
  cases s; simp only [Word.row, Qkr, QiH]
theorem Qjf (t : Nat) (l : List Word) : (l.map (Word.row t)).map Qkr = l := by
  rw [List.map_map]; exact List.map_id'' (fun s => Qnr t s) l
theorem Qqj (s : Word) : (Word.mk s.kd s.fr s.dst s.fl s.nr s.la s.tn s.tu) = s := (rfl)
theorem Ye (l : List Word) : Jo (l.map (Word.row 0)) := by
  induction l with
  | nil => simp [Jo]
  | cons x l ih => simp only [List.map_cons, Jo]; exact ⟨by simp [Word.row, JT, No99, Jj], ih⟩
structure Own where
  fl : ByteArray
  st : Int
  tn : Int
  dst : ByteArray
  la : Int
  nr : Int
  tu : List Box6
  wi : Int
  nx : List Box6
  gr : List ByteArray
  sent : Bool
  deriving Inhabited, DecidableEq
def Own.row (t : Nat) (s : Own) : List AV := [.str s.fl, .int .i64 s.st, .int .i64 s.tn, .str s.dst, .int .i64 s.la, .int .i64 s.nr, .sl t 6 (s.tu.map Box6.row), .int .i64 s.wi, .sl t 6 (s.nx.map Box6.row), .sl t 1 (s.gr.map JJ), .bool s.sent]
def JC : List AV → Own
  | [.str vfl, .int .i64 vst, .int .i64 vtn, .str vdst, .int .i64 vla, .int .i64 vnr, .sl _ 6 vtu, .int .i64 vwi, .sl _ 6 vnx, .sl _ 1 vgr, .bool vsent] => (Own.mk vfl vst vtn vdst vla vnr (vtu.map QD) vwi (vnx.map QD) (vgr.map unS) vsent)
  | _ => default
theorem QoI (t : Nat) (s : Own) : JC (Own.row t s) = s := by
  cases s; simp only [Own.row, JC, QiH, QiH, Qs0]
theorem QfE (t : Nat) (l : List Own) : (l.map (Own.row t)).map JC = l := by
  rw [List.map_map]; exact List.map_id'' (fun s => QoI t s) l
theorem QK (s : Own) : (Own.mk s.fl s.st s.tn s.dst s.la s.nr s.tu s.wi s.nx s.gr s.sent) = s := (rfl)
theorem Qsm (t : Nat) (s : Own) : (Own.row t s).length = 11 := (rfl)
theorem Qtn (t : Nat) (s : Own) : Jy (Own.row t s) = true := (rfl)
theorem KM (l : List Own) : Jo (l.map (Own.row 0)) := by
  induction l with
  | nil => simp [Jo]
  | cons x l ih => simp only [List.map_cons, Jo]; exact ⟨by simp [Own.row, JT, No99, Jj, Jj, Kz], ih⟩
theorem Qqk (t : Nat) (s : Own) : List.take 11 (Own.row t s) = Own.row t s := (rfl)
structure Part where
  fl : ByteArray
  nr : Int
  bx : List Box6
  deriving Inhabited, DecidableEq
def Part.row (t : Nat) (s : Part) : List AV := [.str s.fl, .int .i64 s.nr, .sl t 6 (s.bx.map Box6.row)]
def Q9 : List AV → Part
  | [.str vfl, .int .i64 vnr, .sl _ 6 vbx] => (Part.mk vfl vnr (vbx.map QD))
  | _ => default
theorem Qns (t : Nat) (s : Part) : Q9 (Part.row t s) = s := by
  cases s; simp only [Part.row, Q9, QiH]
theorem Qcy (t : Nat) (l : List Part) : (l.map (Part.row t)).map Q9 = l := by
  rw [List.map_map]; exact List.map_id'' (fun s => Qns t s) l
theorem Qz (s : Part) : (Part.mk s.fl s.nr s.bx) = s := (rfl)
theorem Kc (l : List Part) : Jo (l.map (Part.row 0)) := by
  induction l with
  | nil => simp [Jo]
  | cons x l ih => simp only [List.map_cons, Jo]; exact ⟨by simp [Part.row, JT, No99, Jj], ih⟩
structure Seen where
  fl : ByteArray
  nr : Int
  deriving Inhabited, DecidableEq
def Seen.row (s : Seen) : List AV := [.str s.fl, .int .i64 s.nr]
def Jc : List AV → Seen
  | [.str vfl, .int .i64 vnr] => (Seen.mk vfl vnr)
  | _ => default
theorem Qnt (s : Seen) : Jc (Seen.row s) = s := by
  cases s; simp only [Seen.row, Jc]
theorem Qcz (l : List Seen) : (l.map Seen.row).map Jc = l := by
  rw [List.map_map]; exact List.map_id'' (fun s => Qnt s) l
theorem Qy (s : Seen) : (Seen.mk s.fl s.nr) = s := (rfl)
theorem JY (l : List Seen) : Jo (l.map Seen.row) := by
  induction l with
  | nil => simp [Jo]
  | cons x l ih => simp only [List.map_cons, Jo]; exact ⟨by simp [Seen.row, JT, No99], ih⟩
structure Book where
  own : List Own
  parts : List Part
  seen : List Seen
  deriving Inhabited, DecidableEq
def Book.row (t : Nat) (s : Book) : List AV := [.sl t 11 (s.own.map (Own.row t)), .sl t 3 (s.parts.map (Part.row t)), .sl t 2 (s.seen.map Seen.row)]
def QoJ : List AV → Book
  | [.sl _ 11 vown, .sl _ 3 vparts, .sl _ 2 vseen] => (Book.mk (vown.map JC) (vparts.map Q9) (vseen.map Jc))
  | _ => default
theorem Qnu (t : Nat) (s : Book) : QoJ (Book.row t s) = s := by
  cases s; simp only [Book.row, QoJ, QfE, Qcy, Qcz]
theorem Qlj (t : Nat) (l : List Book) : (l.map (Book.row t)).map QoJ = l := by
  rw [List.map_map]; exact List.map_id'' (fun s => Qnu t s) l
theorem Qjg (s : Book) : (Book.mk s.own s.parts s.seen) = s := (rfl)
theorem XX (l : List Book) : Jo (l.map (Book.row 0)) := by
  induction l with
  | nil => simp [Jo]
  | cons x l ih => simp only [List.map_cons, Jo]; exact ⟨by simp [Book.row, JT, No99, KM, Kc, JY], ih⟩
structure Sector where
  up : Bool
  mo : List Own
  mp : List Part
  ms : List Seen
  dn : List Own
  dp : List Part
  ds : List Seen
  ot : List Word
  deriving Inhabited, DecidableEq
def Sector.row (t : Nat) (s : Sector) : List AV := [.bool s.up, .sl t 11 (s.mo.map (Own.row t)), .sl t 3 (s.mp.map (Part.row t)), .sl t 2 (s.ms.map Seen.row), .sl t 11 (s.dn.map (Own.row t)), .sl t 3 (s.dp.map (Part.row t)), .sl t 2 (s.ds.map Seen.row), .sl t 8 (s.ot.map (Word.row t))]
def Qgj : List AV → Sector
  | [.bool vup, .sl _ 11 vmo, .sl _ 3 vmp, .sl _ 2 vms, .sl _ 11 vdn, .sl _ 3 vdp, .sl _ 2 vds, .sl _ 8 vot] => (Sector.mk vup (vmo.map JC) (vmp.map Q9) (vms.map Jc) (vdn.map JC) (vdp.map Q9) (vds.map Jc) (vot.map Qkr))
  | _ => default
theorem Qks (t : Nat) (s : Sector) : Qgj (Sector.row t s) = s := by
  cases s; simp only [Sector.row, Qgj, QfE, Qcy, Qcz, QfE, Qcy, Qcz, Qjf]
theorem Qkt (t : Nat) (l : List Sector) : (l.map (Sector.row t)).map Qgj = l := by
  rw [List.map_map]; exact List.map_id'' (fun s => Qks t s) l
theorem Qnv (s : Sector) : (Sector.mk s.up s.mo s.mp s.ms s.dn s.dp s.ds s.ot) = s := (rfl)
theorem K8 (l : List Sector) : Jo (l.map (Sector.row 0)) := by
  induction l with
  | nil => simp [Jo]
  | cons x l ih => simp only [List.map_cons, Jo]; exact ⟨by simp [Sector.row, JT, No99, KM, Kc, JY, KM, Kc, JY, Ye], ih⟩
structure HCraft where
  nm : ByteArray
  nr : Int
  no : Int
  tu : List Box6
  deriving Inhabited, DecidableEq
def HCraft.row (t : Nat) (s : HCraft) : List AV := [.str s.nm, .int .i64 s.nr, .int .i64 s.no, .sl t 6 (s.tu.map Box6.row)]
def Qgk : List AV → HCraft
  | [.str vnm, .int .i64 vnr, .int .i64 vno, .sl _ 6 vtu] => (HCraft.mk vnm vnr vno (vtu.map QD))
  | _ => default
theorem Qku (t : Nat) (s : HCraft) : Qgk (HCraft.row t s) = s := by
  cases s; simp only [HCraft.row, Qgk, QiH]
theorem Qkv (t : Nat) (l : List HCraft) : (l.map (HCraft.row t)).map Qgk = l := by
  rw [List.map_map]; exact List.map_id'' (fun s => Qku t s) l
theorem Qnw (s : HCraft) : (HCraft.mk s.nm s.nr s.no s.tu) = s := (rfl)
theorem K9 (l : List HCraft) : Jo (l.map (HCraft.row 0)) := by
  induction l with
  | nil => simp [Jo]
  | cons x l ih => simp only [List.map_cons, Jo]; exact ⟨by simp [HCraft.row, JT, No99, Jj], ih⟩
structure World where
  zones : List Zone
  secs : List Sector
  crafts : List HCraft
  radio : List Word
  deriving Inhabited, DecidableEq
def World.row (t : Nat) (s : World) : List AV := [.sl t 5 (s.zones.map Zone.row), .sl t 8 (s.secs.map (Sector.row t)), .sl t 4 (s.crafts.map (HCraft.row t)), .sl t 8 (s.radio.map (Word.row t))]
def Qlk : List AV → World
  | [.sl _ 5 vzones, .sl _ 8 vsecs, .sl _ 4 vcrafts, .sl _ 8 vradio] => (World.mk (vzones.map QB) (vsecs.map Qgj) (vcrafts.map Qgk) (vradio.map Qkr))
  | _ => default
theorem Qll (t : Nat) (s : World) : Qlk (World.row t s) = s := by
  cases s; simp only [World.row, Qlk, Vs, Qkt, Qkv, Qjf]
theorem Qql (t : Nat) (l : List World) : (l.map (World.row t)).map Qlk = l := by
  rw [List.map_map]; exact List.map_id'' (fun s => Qll t s) l
theorem QoK (s : World) : (World.mk s.zones s.secs s.crafts s.radio) = s := (rfl)
theorem Gz (l : List World) : Jo (l.map (World.row 0)) := by
  induction l with
  | nil => simp [Jo]
  | cons x l ih => simp only [List.map_cons, Jo]; exact ⟨by simp [World.row, JT, No99, Ky, K8, K9, Ye], ih⟩
theorem Vd (s : Box6) : (Box6.mk s.x s.y s.l s.h s.i s.o) = s := (rfl)
theorem Qqm (s : ByteArray) : Contract P 103 [.str s] [] (.bool (decide (XQ s))) [] := by
  refine Qh (Env.nil P) hm Qjc (nlb rfl) rfl ?_; unfold Qdf; simp (maxSteps := 2000000) only [bitvec_to_nat, reduceIte, Nat.reduceEqDiff, Nat.reduceAdd, Nat.reduceLeDiff, reduceCtorEq, Nat.reduceBEq, Nat.reduceLT, Nat.reduceMod, fmc]
  refine ⟨fun h1 => ?_, fun h1 => ⟨fun h2 => ?_, fun h2 => ?_⟩⟩
  · grind [XQ]
  · grind [XQ]
  · refine QH (fun i : Nat => [(3, .int .i64 i)]) (fun _ => []) (fun i => i ≤ s.toList.length ∧ ∀ j, j < i → QgS (s.toList.getD j 0)) (fun i => s.toList.length - i) (0) (by simp only [Ju, Jv, Jw, Jx, Qi, Qj, Qk, Ql, reduceIte, Nat.reduceEqDiff]; exact ⟨by repeat' (first | exact trivial | refine ⟨.inr rfl, ?_⟩), by repeat' (first | exact trivial | refine ⟨rfl, ?_⟩), by first | rfl | simp [closedB, Qc, Qb, Qd, dom, Qa, *], by first | rfl | simp [keepB, dom]⟩) ?_ ?_
    · exact ⟨Nat.zero_le _, by intro j hj; omega⟩
    intro i hi NX hN
    unfold Qa7; simp (maxSteps := 2000000) only [bitvec_to_nat, reduceIte, Nat.reduceEqDiff, Nat.reduceAdd, Nat.reduceLeDiff, reduceCtorEq, Nat.reduceBEq, Nat.reduceLT, Nat.reduceMod, fmc]
    repeat' (first | apply And.intro | intro _)
    all_goals first
      | omega
      | (refine hN (i + 1) _ (by simp only [Ju, Jv, Jw, Jx, Qi, Qj, Qk, Ql, reduceIte, Nat.reduceEqDiff]; exact ⟨by repeat' (first | exact trivial | refine ⟨.inr rfl, ?_⟩), by repeat' (first | exact trivial | refine ⟨rfl, ?_⟩), by first | rfl | simp [closedB, Qc, Qb, Qd, dom, Qa, *], by first | rfl | simp [keepB, dom]⟩) ?_ ?_
         · exact ⟨by omega, Jf hi.2 (by grind [QgS])⟩
         · omega)
      | grind [XQ, QgS]
end
end Go.Ve

namespace Go.Ve
noncomputable section
open Go.Proofs
set_option maxRecDepth 100000
theorem Qbi {α : Type} {f : α → List AV} {l : List α} {n : Nat} : List.take n (List.map f l) = List.map f (List.take n l) := (List.map_take).symm
theorem Qbj {α : Type} {f : α → List AV} {l : List α} {n : Nat} : List.drop n (List.map f l) = List.map f (List.drop n l) := (List.map_drop).symm
theorem Qdk {α : Type} [Inhabited α] {l : List α} {n j : Nat} (h : j < n) : (l.take n).getD j default = l.getD j default := by
  simp [List.getD_eq_getElem?_getD, List.getElem?_take, h]
def QP : List AV → Option (Prop × AV)
  | [.str s] => some ((True) ∧ (True), .bool (decide (XQ s)))
  | _ => none
theorem Gf : ∀ args p v, QP args = some (p, v) → p → Contract P 103 args [] v [] ∧ noref v = true ∧ No99 v := by
  intro args p v h1 h2
  unfold QP at h1
  split at h1
  · rename_i s
    cases h1
    obtain ⟨_, HP⟩ := h2
    have := Qqm s
    exact ⟨this, rfl, trivial⟩
  · cases h1
theorem Qlm (s : ByteArray) (hp : True) : Contract P 70 [.str s] [] (.bool (decide (XQ s))) [] := by
  refine Qh ((Env.nil P).add 80 Je Gr) hm QfM (nlb rfl) rfl ?_; unfold Qam; simp (maxSteps := 2000000) only [bitvec_to_nat, reduceIte, Nat.reduceEqDiff, Nat.reduceAdd, Nat.reduceLeDiff, reduceCtorEq, Nat.reduceBEq, Nat.reduceLT, Nat.reduceMod, fmc, Je]
  refine ⟨fun h1 => ?_, fun h1 => ?_⟩
  · refine QH (fun i : Nat => [(3, .int .i64 i)]) (fun _ => []) (fun i => i ≤ s.toList.length ∧ ∀ j, j < i → QgS (s.toList.getD j 0)) (fun i => s.toList.length - i) (0) (by simp only [Ju, Jv, Jw, Jx, Qi, Qj, Qk, Ql, reduceIte, Nat.reduceEqDiff]; exact ⟨by repeat' (first | exact trivial | refine ⟨.inr rfl, ?_⟩), by repeat' (first | exact trivial | refine ⟨rfl, ?_⟩), by first | rfl | simp [closedB, Qc, Qb, Qd, dom, Qa, *], by first | rfl | simp [keepB, dom]⟩) ?_ ?_
    · exact ⟨Nat.zero_le _, by intro j hj; omega⟩
    intro i hi NX hN
    unfold U3; simp (maxSteps := 2000000) only [bitvec_to_nat, reduceIte, Nat.reduceEqDiff, Nat.reduceAdd, Nat.reduceLeDiff, reduceCtorEq, Nat.reduceBEq, Nat.reduceLT, Nat.reduceMod, fmc]
    repeat' (first | with_reducible apply And.intro | with_reducible intro _)
    all_goals first
      | exact trivial
      | omega
      | (refine hN (i + 1) _ (by simp only [Ju, Jv, Jw, Jx, Qi, Qj, Qk, Ql, reduceIte, Nat.reduceEqDiff]; exact ⟨by repeat' (first | exact trivial | refine ⟨.inr rfl, ?_⟩), by repeat' (first | exact trivial | refine ⟨rfl, ?_⟩), by first | rfl | simp [closedB, Qc, Qb, Qd, dom, Qa, *], by first | rfl | simp [keepB, dom]⟩) ?_ ?_
         · exact ⟨by omega, Jf hi.2 (by grind [XQ, QgS])⟩
         · omega)
      | grind [XQ, QgS]
  · grind [XQ]
def QQ : List AV → Option (Prop × AV)
  | [.str s] => some ((True) ∧ (True), .bool (decide (XQ s)))
  | _ => none
theorem Ya : ∀ args p v, QQ args = some (p, v) → p → Contract P 70 args [] v [] ∧ noref v = true ∧ No99 v := by
  intro args p v h1 h2
  unfold QQ at h1
  split at h1
  · rename_i s
    cases h1
    obtain ⟨_, HP⟩ := h2
    have := Qlm s HP
    exact ⟨this, rfl, trivial⟩
  · cases h1
theorem Qqn (n : Int) (hp : True) : Contract P 125 [.int .i64 n] [] (.bool (decide (1 ≤ n ∧ n ≤ 1000000))) [] := by
  refine Qh ((Env.nil P).add 120 QA KG) hm Qje (nlb rfl) rfl ?_; unfold Qdh; simp (maxSteps := 2000000) only [bitvec_to_nat, reduceIte, Nat.reduceEqDiff, Nat.reduceAdd, Nat.reduceLeDiff, reduceCtorEq, Nat.reduceBEq, Nat.reduceLT, Nat.reduceMod, fmc, QA]
  repeat' (first | with_reducible apply And.intro | with_reducible intro _)
  all_goals (first | trivial | omega | (simp_all; done) | (simp_all; omega) | grind)
def QU : List AV → Option (Prop × AV)
  | [.int .i64 n] => some ((True) ∧ (True), .bool (decide (1 ≤ n ∧ n ≤ 1000000)))
  | _ => none
theorem GL : ∀ args p v, QU args = some (p, v) → p → Contract P 125 args [] v [] ∧ noref v = true ∧ No99 v := by
  intro args p v h1 h2
  unfold QU at h1
  split at h1
  · rename_i n
    cases h1
    obtain ⟨_, HP⟩ := h2
    have := Qqn n HP
    exact ⟨this, rfl, trivial⟩
  · cases h1
def Zone.ok (z : Zone) : Prop := XQ z.nm ∧ (0 ≤ z.x0 ∧ z.x0 ≤ z.x1 ∧ z.x1 < 16) ∧ (0 ≤ z.y0 ∧ z.y0 ≤ z.y1 ∧ z.y1 < 16)
def Zone.meet (o z : Zone) : Prop := o.x0 ≤ z.x1 ∧ z.x0 ≤ o.x1 ∧ o.y0 ≤ z.y1 ∧ z.y0 ≤ o.y1
def zoneAt (zs : List Zone) (i : Nat) : Prop := (zs.getD i default).ok ∧ (0 < i → slt (zs.getD (i - 1) default).nm (zs.getD i default).nm) ∧ ∀ k, k < i → ¬ (zs.getD k default).meet (zs.getD i default)
def Q5 (zs : List Zone) : Prop := (1 ≤ zs.length ∧ zs.length ≤ 4) ∧ ∀ i, i < zs.length → zoneAt zs i
noncomputable instance (zs : List Zone) : Decidable (Q5 zs) := Classical.propDecidable _
set_option maxHeartbeats 1000000 in
theorem QoL (t : Nat) (zs : List Zone) (hl : zs.length ≤ 4611686018427387904) : Contract P 101 [.sl t 5 (zs.map Zone.row)] [] (.bool (decide (Q5 zs))) [] := by
  refine Qh (((Env.nil P).add 120 QA KG).add 103 QP Gf) hm Qdd (nlb rfl) rfl ?_; unfold U8; simp (maxSteps := 2000000) only [bitvec_to_nat, reduceIte, Nat.reduceEqDiff, Nat.reduceAdd, Nat.reduceLeDiff, reduceCtorEq, Nat.reduceBEq, Nat.reduceLT, Nat.reduceMod, fmc, QA, QP, Zone.row, Yt, Qbi, Qbj, List.drop_zero, K1]
  refine ⟨fun h1 => ?_, fun h1 => by grind [Q5]⟩
  · refine QH (fun i : Nat => [(13, .int .i64 i)]) (fun _ => []) (fun i => i ≤ zs.length ∧ ∀ j, j < i → zoneAt zs j) (fun i => zs.length - i) (0) (by simp only [Ju, Jv, Jw, Jx, Qi, Qj, Qk, Ql, reduceIte, Nat.reduceEqDiff]; exact ⟨by repeat' (first | exact trivial | refine ⟨.inr rfl, ?_⟩), by repeat' (first | exact trivial | refine ⟨rfl, ?_⟩), by first | rfl | simp [closedB, Qc, Qb, Qd, dom, Qa, *], by first | rfl | simp [keepB, dom]⟩) ?_ ?_
    · exact ⟨Nat.zero_le _, by intro j hj; omega⟩
    intro i hi NX hN
    unfold Zx; simp (maxSteps := 2000000) only [bitvec_to_nat, reduceIte, Nat.reduceEqDiff, Nat.reduceAdd, Nat.reduceLeDiff, reduceCtorEq, Nat.reduceBEq, Nat.reduceLT, Nat.reduceMod, fmc, QA, QP, Zone.row, Yt, Qbi, Qbj, List.drop_zero, K1]
    have bad : ∀ P : Prop, (Q5 zs → i < zs.length → P) → i < zs.length → ¬ P → ¬ Q5 zs := fun P h h1 h2 h3 => h2 (h h3 h1)
    repeat' (first | with_reducible apply And.intro | with_reducible intro _)
    all_goals first
      | omega
      | (intro hq; have := hq.2 i (by omega); unfold zoneAt Zone.ok at this; grind)
      | (refine QH (fun k : Nat => [(77, .int .i64 k)]) (fun _ => []) (fun k => k ≤ i ∧ ∀ j, j < k → ¬ (zs.getD j default).meet (zs.getD i default)) (fun k => i - k) (0) (by simp only [Ju, Jv, Jw, Jx, Qi, Qj, Qk, Ql, reduceIte, Nat.reduceEqDiff]; exact ⟨by repeat' (first | exact trivial | refine ⟨.inr rfl, ?_⟩), by repeat' (first | exact trivial | refine ⟨rfl, ?_⟩), by first | rfl | simp [closedB, Qc, Qb, Qd, dom, Qa, *], by first | rfl | simp [keepB, dom]⟩) ?_ ?_
         · exact ⟨Nat.zero_le _, by intro j hj; omega⟩
         intro k hk NX2 hN2
         unfold Zw; simp (maxSteps := 2000000) only [bitvec_to_nat, reduceIte, Nat.reduceEqDiff, Nat.reduceAdd, Nat.reduceLeDiff, reduceCtorEq, Nat.reduceBEq, Nat.reduceLT, Nat.reduceMod, fmc, QA, QP, Zone.row, Yt, Qbi, Qbj, List.drop_zero, K1]
         repeat' (first | with_reducible apply And.intro | with_reducible intro _)
         all_goals first
           | omega
           | (refine hN2 (k + 1) _ (by simp only [Ju, Jv, Jw, Jx, Qi, Qj, Qk, Ql, reduceIte, Nat.reduceEqDiff]; exact ⟨by repeat' (first | exact trivial | refine ⟨.inr rfl, ?_⟩), by repeat' (first | exact trivial | refine ⟨rfl, ?_⟩), by first | rfl | simp [closedB, Qc, Qb, Qd, dom, Qa, *], by first | rfl | simp [keepB, dom]⟩) ?_ ?_
              · refine ⟨by omega, Jf hk.2 ?_⟩
                rw [Qdk (by omega)] at *
                grind [Zone.meet]
              · omega)
           | (refine hN (i + 1) _ (by simp only [Ju, Jv, Jw, Jx, Qi, Qj, Qk, Ql, reduceIte, Nat.reduceEqDiff]; exact ⟨by repeat' (first | exact trivial | refine ⟨.inr rfl, ?_⟩), by repeat' (first | exact trivial | refine ⟨rfl, ?_⟩), by first | rfl | simp [closedB, Qc, Qb, Qd, dom, Qa, *], by first | rfl | simp [keepB, dom]⟩) ?_ ?_
              · refine ⟨by omega, Jf hi.2 ⟨?_, ?_, fun k hk2 => hk.2 k (by omega)⟩⟩
                · grind [Zone.ok]
                · grind
              · omega)
           | (intro hq
              have := (hq.2 i (by omega)).2.2 k (by omega)
              rw [Qdk (by omega)] at *
              grind [Zone.meet]))
      | (refine ⟨by omega, fun j hj => hi.2 j (by omega)⟩)
    all_goals trace_state
end
end Go.Ve

namespace Go.Ve
noncomputable section
open Go.Proofs
set_option maxRecDepth 100000
def Y9 : List AV → Option (Prop × AV)
  | [.sl zst 5 zsx] => some ((((zsx.map QB).map Zone.row = zsx)) ∧ ((zsx.map QB).length ≤ 4611686018427387904), .bool (decide (Q5 (zsx.map QB))))
  | _ => none
theorem Qhc : ∀ args p v, Y9 args = some (p, v) → p → Contract P 101 args [] v [] ∧ noref v = true ∧ No99 v := by
  intro args p v h1 h2
  unfold Y9 at h1
  split at h1
  · rename_i zst zsx
    cases h1
    obtain ⟨e0, HP⟩ := h2
    have := QoL zst (zsx.map QB) HP
    exact ⟨by simpa only [e0] using this, rfl, trivial⟩
  · cases h1
set_option maxHeartbeats 1000000 in
theorem Qnx (t : Nat) (zs : List Zone) (hl : zs.length ≤ 4611686018427387904) : Contract P 77 [.sl t 5 (zs.map Zone.row)] [] (.bool (decide (Q5 zs))) [] := by
  refine Qh (((Env.nil P).add 80 Je Gr).add 70 QQ Ya) hm Qc8 (nlb rfl) rfl ?_; unfold U4; simp (maxSteps := 2000000) only [bitvec_to_nat, reduceIte, Nat.reduceEqDiff, Nat.reduceAdd, Nat.reduceLeDiff, reduceCtorEq, Nat.reduceBEq, Nat.reduceLT, Nat.reduceMod, fmc, Je, QQ, Zone.row, Yt, Box6.row, Vd, Qbi, Qbj, K1]
  refine ⟨fun h1 => ?_, fun h1 => by grind [Q5]⟩
  · refine QH (fun i : Nat => [(3, .int .i64 i)]) (fun _ => []) (fun i => i ≤ zs.length ∧ ∀ j, j < i → zoneAt zs j) (fun i => zs.length - i) (0) (by simp only [Ju, Jv, Jw, Jx, Qi, Qj, Qk, Ql, reduceIte, Nat.reduceEqDiff]; exact ⟨by repeat' (first | exact trivial | refine ⟨.inr rfl, ?_⟩), by repeat' (first | exact trivial | refine ⟨rfl, ?_⟩), by first | rfl | simp [closedB, Qc, Qb, Qd, dom, Qa, *], by first | rfl | simp [keepB, dom]⟩) ?_ ?_
    · exact ⟨Nat.zero_le _, by intro j hj; omega⟩
    intro i hi NX hN
    unfold Zv; simp (maxSteps := 2000000) only [bitvec_to_nat, reduceIte, Nat.reduceEqDiff, Nat.reduceAdd, Nat.reduceLeDiff, reduceCtorEq, Nat.reduceBEq, Nat.reduceLT, Nat.reduceMod, fmc, Je, QQ, Zone.row, Yt, Box6.row, Vd, Qbi, Qbj, K1]
    repeat' (first | with_reducible apply And.intro | with_reducible intro _)
    all_goals first
      | omega
      | (intro hq; have := hq.2 i (by omega); unfold zoneAt Zone.ok at this; grind)
      | (refine QH (fun k : Nat => [(5, .int .i64 k)]) (fun _ => []) (fun k => k ≤ i ∧ ∀ j, j < k → ¬ (zs.getD j default).meet (zs.getD i default)) (fun k => i - k) (0) (by simp only [Ju, Jv, Jw, Jx, Qi, Qj, Qk, Ql, reduceIte, Nat.reduceEqDiff]; exact ⟨by repeat' (first | exact trivial | refine ⟨.inr rfl, ?_⟩), by repeat' (first | exact trivial | refine ⟨rfl, ?_⟩), by first | rfl | simp [closedB, Qc, Qb, Qd, dom, Qa, *], by first | rfl | simp [keepB, dom]⟩) ?_ ?_
         · exact ⟨Nat.zero_le _, by intro j hj; omega⟩
         intro k hk NX2 hN2
         unfold Zu; simp (maxSteps := 2000000) only [bitvec_to_nat, reduceIte, Nat.reduceEqDiff, Nat.reduceAdd, Nat.reduceLeDiff, reduceCtorEq, Nat.reduceBEq, Nat.reduceLT, Nat.reduceMod, fmc, Je, QQ, Zone.row, Yt, Box6.row, Vd, Qbi, Qbj, K1]
         repeat' (first | with_reducible apply And.intro | with_reducible intro _)
         all_goals first
           | omega
           | (refine hN2 (k + 1) _ (by simp only [Ju, Jv, Jw, Jx, Qi, Qj, Qk, Ql, reduceIte, Nat.reduceEqDiff]; exact ⟨by repeat' (first | exact trivial | refine ⟨.inr rfl, ?_⟩), by repeat' (first | exact trivial | refine ⟨rfl, ?_⟩), by first | rfl | simp [closedB, Qc, Qb, Qd, dom, Qa, *], by first | rfl | simp [keepB, dom]⟩) ?_ ?_
              · refine ⟨by omega, Jf hk.2 ?_⟩
                grind [Zone.meet]
              · omega)
           | (refine hN (i + 1) _ (by simp only [Ju, Jv, Jw, Jx, Qi, Qj, Qk, Ql, reduceIte, Nat.reduceEqDiff]; exact ⟨by repeat' (first | exact trivial | refine ⟨.inr rfl, ?_⟩), by repeat' (first | exact trivial | refine ⟨rfl, ?_⟩), by first | rfl | simp [closedB, Qc, Qb, Qd, dom, Qa, *], by first | rfl | simp [keepB, dom]⟩) ?_ ?_
              · refine ⟨by omega, Jf hi.2 ⟨?_, ?_, fun k hk2 => hk.2 k (by omega)⟩⟩
                · grind [Zone.ok]
                · grind
              · omega)
           | (intro hq
              have := (hq.2 i (by omega)).2.2 k (by omega)
              grind [Zone.meet]))
      | (refine ⟨by omega, fun j hj => hi.2 j (by omega)⟩)
def Ks : List AV → Option (Prop × AV)
  | [.sl zst 5 zsx] => some ((((zsx.map QB).map Zone.row = zsx)) ∧ ((zsx.map QB).length ≤ 4611686018427387904), .bool (decide (Q5 (zsx.map QB))))
  | _ => none
theorem Qe5 : ∀ args p v, Ks args = some (p, v) → p → Contract P 77 args [] v [] ∧ noref v = true ∧ No99 v := by
  intro args p v h1 h2
  unfold Ks at h1
  split at h1
  · rename_i zst zsx
    cases h1
    obtain ⟨e0, HP⟩ := h2
    have := Qnx zst (zsx.map QB) HP
    exact ⟨by simpa only [e0] using this, rfl, trivial⟩
  · cases h1
def Zone.over (z : Zone) (x y : Int) : Prop := (z.x0 ≤ x ∧ x ≤ z.x1) ∧ (z.y0 ≤ y ∧ y ≤ z.y1)
noncomputable instance (z : Zone) (x y : Int) : Decidable (z.over x y) := Classical.propDecidable _
theorem Qto (nm : ByteArray) (x0 y0 x1 y1 x y : Int) (hp : True) : Contract P 124 [.agg [.str nm, .int .i64 x0, .int .i64 y0, .int .i64 x1, .int .i64 y1], .int .i64 x, .int .i64 y] [] (.bool (decide (Zone.over ⟨nm, x0, y0, x1, y1⟩ x y))) [] := by
  refine Qh ((Env.nil P).add 120 QA KG) hm QbZ (nlb rfl) rfl ?_; unfold Zy; simp (maxSteps := 2000000) only [bitvec_to_nat, reduceIte, Nat.reduceEqDiff, Nat.reduceAdd, Nat.reduceLeDiff, reduceCtorEq, Nat.reduceBEq, Nat.reduceLT, Nat.reduceMod, fmc, QA]
  simp only [Zone.over]
  repeat' (first | with_reducible apply And.intro | with_reducible intro _)
  all_goals (first | trivial | omega | (simp_all; done) | (simp_all; omega) | grind)
def Qmg : List AV → Option (Prop × AV)
  | [.agg [.str z_nm, .int .i64 z_x0, .int .i64 z_y0, .int .i64 z_x1, .int .i64 z_y1], .int .i64 x, .int .i64 y] => some ((True) ∧ (True), .bool (decide ((Zone.mk z_nm z_x0 z_y0 z_x1 z_y1).over x y)))
  | _ => none
theorem Qtp : ∀ args p v, Qmg args = some (p, v) → p → Contract P 124 args [] v [] ∧ noref v = true ∧ No99 v := by
  intro args p v h1 h2
  unfold Qmg at h1
  split at h1
  · rename_i z_nm z_x0 z_y0 z_x1 z_y1 x y
    cases h1
    obtain ⟨_, HP⟩ := h2
    have := Qto z_nm z_x0 z_y0 z_x1 z_y1 x y HP
    exact ⟨by simpa only [Zone.row] using this, rfl, trivial⟩
  · cases h1
theorem Qsn (nm : ByteArray) (x0 y0 x1 y1 x y l h i o : Int) (hp : True) : Contract P 98 [.agg [.str nm, .int .i64 x0, .int .i64 y0, .int .i64 x1, .int .i64 y1], .agg [.int .i64 x, .int .i64 y, .int .i64 l, .int .i64 h, .int .i64 i, .int .i64 o]] [] (.bool (decide (Zone.over ⟨nm, x0, y0, x1, y1⟩ x y))) [] := by
  refine Qh ((Env.nil P).add 80 Je Gr) hm Qia (nlb rfl) rfl ?_; unfold Qcc; simp (maxSteps := 2000000) only [bitvec_to_nat, reduceIte, Nat.reduceEqDiff, Nat.reduceAdd, Nat.reduceLeDiff, reduceCtorEq, Nat.reduceBEq, Nat.reduceLT, Nat.reduceMod, fmc, Je]
  simp only [Zone.over]
  repeat' (first | with_reducible apply And.intro | with_reducible intro _)
  all_goals (first | trivial | omega | (simp_all; done) | (simp_all; omega) | grind)
def Qbk : List AV → Option (Prop × AV)
  | [.agg [.str z_nm, .int .i64 z_x0, .int .i64 z_y0, .int .i64 z_x1, .int .i64 z_y1], .agg [.int .i64 b_x, .int .i64 b_y, .int .i64 b_l, .int .i64 b_h, .int .i64 b_i, .int .i64 b_o]] => some ((True) ∧ (True), .bool (decide ((Zone.mk z_nm z_x0 z_y0 z_x1 z_y1).over (Box6.mk b_x b_y b_l b_h b_i b_o).x (Box6.mk b_x b_y b_l b_h b_i b_o).y)))
  | _ => none
theorem Qso : ∀ args p v, Qbk args = some (p, v) → p → Contract P 98 args [] v [] ∧ noref v = true ∧ No99 v := by
  intro args p v h1 h2
  unfold Qbk at h1
  split at h1
  · rename_i z_nm z_x0 z_y0 z_x1 z_y1 b_x b_y b_l b_h b_i b_o
    cases h1
    obtain ⟨_, HP⟩ := h2
    have := Qsn z_nm z_x0 z_y0 z_x1 z_y1 b_x b_y b_l b_h b_i b_o HP
    exact ⟨by simpa only [Zone.row, Box6.row] using this, rfl, trivial⟩
  · cases h1
end
end Go.Ve

namespace Go.Ve
noncomputable section
open Go.Proofs
set_option maxRecDepth 100000
theorem QaA (g : FuncId) (hg : W3 P g = true) (ls : List AV) (hls : Jy ls = true) (p : Zone → Bool) (t : Nat) (zs : List Zone) (hl : zs.length ≤ 4611686018427387904)
    (hC : ∀ z, Contract P g (.agg (Zone.row z) :: [.ptr 3 0]) [(3, .box ls)] (.bool (p z)) [(3, .box ls)]) : Contract P 113 [.sl t 5 (zs.map Zone.row), .fn g [] [.ptr 3 0]] [(3, .box ls)] (.int .i64 (Qiw p zs)) [(3, .box ls)] := by
  refine Qh (Env.nil P) hm Us (nlb rfl) rfl ?_; unfold YC; simp (maxSteps := 2000000) only [bitvec_to_nat, reduceIte, Nat.reduceEqDiff, Nat.reduceAdd, Nat.reduceLeDiff, reduceCtorEq, Nat.reduceBEq, Nat.reduceLT, Nat.reduceMod, fmc, Qf, Qm, Qe, QE, keepB, Qn, QJ, Yc]
  refine QH (fun i : Nat => [(8, .int .i64 i)]) (fun _ => []) (fun i => i ≤ zs.length ∧ ∀ j, j < i → p (zs.getD j default) = false) (fun i => zs.length - i) (0) (by simp only [Ju, Jv, Jw, Jx, Qi, Qj, Qk, Ql, reduceIte, Nat.reduceEqDiff]; exact ⟨by repeat' (first | exact trivial | refine ⟨.inr rfl, ?_⟩), by repeat' (first | exact trivial | refine ⟨rfl, ?_⟩), by first | rfl | simp [closedB, Qc, Qb, Qd, dom, Qa, *], by first | rfl | simp [keepB, dom]⟩) ?_ ?_
  · exact ⟨Nat.zero_le _, by intro j hj; omega⟩
  intro i hi NX hN
  unfold Yd; simp (maxSteps := 2000000) only [bitvec_to_nat, reduceIte, Nat.reduceEqDiff, Nat.reduceAdd, Nat.reduceLeDiff, reduceCtorEq, Nat.reduceBEq, Nat.reduceLT, Nat.reduceMod, fmc, Qf, Qm, Qe, QE, keepB, Qn, QJ, Yc, Qqi, QoH]
  refine ⟨fun h1 => ⟨by omega, by omega, hg, _, _, .inl ⟨[(3, .box ls)], hC (zs.getD i default), ?_, ?_, ?_, ?_, ?_, rfl, ?_⟩, ?_⟩, fun h1 => ?_⟩
  · simp [getM]
  · intro q hq; left; revert q; simp [dom]
  · simp [dom]
  · simp [Qb, Qc, dom, Qa, Qsl]
  · simp [Qd, Qa, *]
  · simp [Qd, Qa, *]
  · simp (maxSteps := 2000000) only [bitvec_to_nat, reduceIte, Nat.reduceEqDiff, Nat.reduceAdd, Nat.reduceLeDiff, reduceCtorEq, Nat.reduceBEq, Nat.reduceLT, Nat.reduceMod, fmc, Qf, Qm, Qe, QE, keepB, Qn, QJ, Yc]
    refine ⟨fun h2 => ?_, fun h2 => ?_⟩
    · simp (maxSteps := 2000000) only [bitvec_to_nat, reduceIte, Nat.reduceEqDiff, Nat.reduceAdd, Nat.reduceLeDiff, reduceCtorEq, Nat.reduceBEq, Nat.reduceLT, Nat.reduceMod, fmc, Qf, Qm, Qe, QE, keepB, Qn, QJ, Yc]
      rw [Qcr (by omega) h2 hi.2]
      simp [dom, Qa, *]
    · simp (maxSteps := 2000000) only [bitvec_to_nat, reduceIte, Nat.reduceEqDiff, Nat.reduceAdd, Nat.reduceLeDiff, reduceCtorEq, Nat.reduceBEq, Nat.reduceLT, Nat.reduceMod, fmc, Qf, Qm, Qe, QE, keepB, Qn, QJ, Yc]
      refine ⟨by omega, ?_⟩
      refine hN (i + 1) _ (by simp only [Ju, Jv, Jw, Jx, Qi, Qj, Qk, Ql, reduceIte, Nat.reduceEqDiff]; exact ⟨by repeat' (first | exact trivial | refine ⟨.inr rfl, ?_⟩), by repeat' (first | exact trivial | refine ⟨rfl, ?_⟩), by first | rfl | simp [closedB, Qc, Qb, Qd, dom, Qa, *], by first | rfl | simp [keepB, dom]⟩) ?_ ?_
      · exact ⟨by omega, Jf hi.2 h2⟩
      · omega
  · rw [Wh fun j hj => hi.2 j (by omega)]
    simp [dom, Qa, *]
theorem QcA (g : FuncId) (hg : W3 P g = true) (ls : List AV) (hls : Jy ls = true) (p : Zone → Bool) (t : Nat) (zs : List Zone) (hl : zs.length ≤ 4611686018427387904)
    (hC : ∀ z, Contract P g (.agg (Zone.row z) :: [.ptr 3 0]) [(3, .box ls)] (.bool (p z)) [(3, .box ls)]) : Contract P 122 [.sl t 5 (zs.map Zone.row), .fn g [] [.ptr 3 0]] [(3, .box ls)] (.bool (decide (∃ i, i < zs.length ∧ p (zs.getD i default) = true))) [(3, .box ls)] := by
  refine Qh (Env.nil P) hm XS (nlb rfl) rfl ?_; unfold K5; simp (maxSteps := 2000000) only [bitvec_to_nat, reduceIte, Nat.reduceEqDiff, Nat.reduceAdd, Nat.reduceLeDiff, reduceCtorEq, Nat.reduceBEq, Nat.reduceLT, Nat.reduceMod, fmc, Qf, Qm, Qe, QE, keepB, Qn, QJ, Yc]
  refine ⟨_, _, .inl ⟨[(3, .box ls)], QaA g hg ls hls p t zs hl hC, ?_, ?_, ?_, ?_, ?_, rfl, ?_⟩, ?_⟩
  · simp [getM]
  · intro q hq; left; revert q; simp [dom]
  · simp [dom]
  · simp [Qb, Qc, dom, Qa, *]
  · simp [Qd, Qa, *]
  · simp [Qd, Qa, *]
  · simp (maxSteps := 2000000) only [bitvec_to_nat, reduceIte, Nat.reduceEqDiff, Nat.reduceAdd, Nat.reduceLeDiff, reduceCtorEq, Nat.reduceBEq, Nat.reduceLT, Nat.reduceMod, fmc, Qf, Qm, Qe, QE, keepB, Qn, QJ, Yc]
    simp [Qom, dom, Qa, *]
theorem QoM (z : Zone) (b : Box6) : Contract P 123 [.agg z.row, .ptr 3 0] [(3, .box b.row)] (.bool (decide (z.over b.x b.y))) [(3, .box b.row)] := by
  simp only [Zone.row, Box6.row]
  refine Qh ((Env.nil P).add 124 Qmg Qtp) hm Qg5 (nlb rfl) rfl ?_; unfold Qbc; simp (maxSteps := 2000000) only [bitvec_to_nat, reduceIte, Nat.reduceEqDiff, Nat.reduceAdd, Nat.reduceLeDiff, reduceCtorEq, Nat.reduceBEq, Nat.reduceLT, Nat.reduceMod, fmc, Qf, Qm, Qe, QE, keepB, Qn, QJ, Qmg, Yt]
  all_goals simp [dom]
theorem QoN (z : Zone) (s : ByteArray) : Contract P 114 [.agg z.row, .ptr 3 0] [(3, .box [.str s])] (.bool (decide (z.nm = s))) [(3, .box [.str s])] := by
  simp only [Zone.row]
  refine Qh (Env.nil P) hm Qg4 (nlb rfl) rfl ?_; unfold Qba; simp (maxSteps := 2000000) only [bitvec_to_nat, reduceIte, Nat.reduceEqDiff, Nat.reduceAdd, Nat.reduceLeDiff, reduceCtorEq, Nat.reduceBEq, Nat.reduceLT, Nat.reduceMod, fmc, Qf, Qm, Qe, QE, keepB, Qn, QJ, Yt]
  all_goals simp [dom]
def Qhd : RTab
  | [.sl zt 5 zx, .fn 123 [] [.ptr ob off]], M => match M ob with
    | some (.box [.int .i64 b_x, .int .i64 b_y, .int .i64 b_l, .int .i64 b_h, .int .i64 b_i, .int .i64 b_o]) => some ⟨off = 0 ∧ (zx.map QB).map Zone.row = zx ∧ (zx.map QB).length ≤ 4611686018427387904, fun _ : Unit => True, fun _ => .bool (decide (∃ i, i < (zx.map QB).length ∧ ((zx.map QB).getD i default).over b_x b_y)), fun _ => [(ob, .box [.int .i64 b_x, .int .i64 b_y, .int .i64 b_l, .int .i64 b_h, .int .i64 b_i, .int .i64 b_o])]⟩
    | _ => none
  | _, _ => none
theorem Qsp : okTab P 122 Qhd := by
  intro args M o h hp
  unfold Qhd at h
  split at h
  · rename_i zt zx ob off
    split at h
    · rename_i b_x b_y b_l b_h b_i b_o hM
      cases h
      obtain ⟨rfl, e0, HP⟩ := hp
      have hC := QcA 123 (by kernel_rfl) _ rfl (fun z => decide (z.over b_x b_y)) zt (zx.map QB) HP fun z => QoM z ⟨b_x, b_y, b_l, b_h, b_i, b_o⟩
      simp only [e0, decide_eq_true_eq, Box6.row] at hC
      exact ⟨(), trivial, QcR _ hC (by simp [Jy, noref]) rfl (by assumption) (by simp [K4, ren, swp]) (by simp [Qb, Qc, noref])⟩
    · cases h
  · cases h
def Qdl : RTab
  | [.sl zt 5 zx, .fn 114 [] [.ptr ob off]], M => match M ob with
    | some (.box [.str s]) => some ⟨off = 0 ∧ (zx.map QB).map Zone.row = zx ∧ (zx.map QB).length ≤ 4611686018427387904, fun _ : Unit => True, fun _ => .int .i64 (Qiw (fun z => decide (z.nm = s)) (zx.map QB)), fun _ => [(ob, .box [.str s])]⟩
    | _ => none
  | _, _ => none
theorem QoO : okTab P 113 Qdl := by
  intro args M o h hp
  unfold Qdl at h
  split at h
  · rename_i zt zx ob off
    split at h
    · rename_i s hM
      cases h
      obtain ⟨rfl, e0, HP⟩ := hp
      have hC := QaA 114 (by kernel_rfl) _ rfl (fun z => decide (z.nm = s)) zt (zx.map QB) HP fun z => QoN z s
      simp only [e0, decide_eq_true_eq] at hC
      exact ⟨(), trivial, QcR _ hC (by simp [Jy, noref]) rfl (by assumption) (by simp [K4, ren, swp]) (by simp [Qb, Qc, noref])⟩
    · cases h
  · cases h
def zAt (zs : List Zone) (s : ByteArray) : Int := Qiw (fun z => decide (z.nm = s)) zs
theorem Qqo (t : Nat) (zs : List Zone) (s : ByteArray) (hl : zs.length ≤ 4611686018427387904) : Contract P 86 [.sl t 5 (zs.map Zone.row), .str s] [] (.int .i64 (zAt zs s)) [] := by
  refine Qh ((Env.nil P).addR 113 Qdl QoO) hm Qi9 (nlb rfl) rfl ?_; unfold Qc9; simp (maxSteps := 2000000) only [bitvec_to_nat, reduceIte, Nat.reduceEqDiff, Nat.reduceAdd, Nat.reduceLeDiff, reduceCtorEq, Nat.reduceBEq, Nat.reduceLT, Nat.reduceMod, fmc, Qf, Qm, Qe, QE, keepB, Qn, QJ, Qdl, Vs]
  exact ⟨hl, fun _ => rfl⟩
theorem QoP (t : Nat) (zs : List Zone) (s : ByteArray) (hl : zs.length ≤ 4611686018427387904) : Contract P 36 [.sl t 5 (zs.map Zone.row), .str s] [] (.int .i64 (zAt zs s)) [] := by
  refine Qh (Env.nil P) hm Qh5 (nlb rfl) rfl ?_; unfold Qb6; simp (maxSteps := 2000000) only [bitvec_to_nat, reduceIte, Nat.reduceEqDiff, Nat.reduceAdd, Nat.reduceLeDiff, reduceCtorEq, Nat.reduceBEq, Nat.reduceLT, Nat.reduceMod, fmc, Zone.row, Yt, Box6.row, Vd, Qbi, Qbj, K1]
  refine QH (fun i : Nat => [(5, .int .i64 i)]) (fun _ => []) (fun i => i ≤ zs.length ∧ ∀ j, j < i → decide ((zs.getD j default).nm = s) = false) (fun i => zs.length - i) (0) (by simp only [Ju, Jv, Jw, Jx, Qi, Qj, Qk, Ql, reduceIte, Nat.reduceEqDiff]; exact ⟨by repeat' (first | exact trivial | refine ⟨.inr rfl, ?_⟩), by repeat' (first | exact trivial | refine ⟨rfl, ?_⟩), by first | rfl | simp [closedB, Qc, Qb, Qd, dom, Qa, *], by first | rfl | simp [keepB, dom]⟩) ?_ ?_
  · exact ⟨Nat.zero_le _, by intro j hj; omega⟩
  intro i hi NX hN
  unfold Qai; simp (maxSteps := 2000000) only [bitvec_to_nat, reduceIte, Nat.reduceEqDiff, Nat.reduceAdd, Nat.reduceLeDiff, reduceCtorEq, Nat.reduceBEq, Nat.reduceLT, Nat.reduceMod, fmc, Zone.row, Yt, Box6.row, Vd, Qbi, Qbj, K1]
  
  repeat' (first | with_reducible apply And.intro | with_reducible intro _)
  all_goals first
    | omega
    | (refine hN (i + 1) _ (by simp only [Ju, Jv, Jw, Jx, Qi, Qj, Qk, Ql, reduceIte, Nat.reduceEqDiff]; exact ⟨by repeat' (first | exact trivial | refine ⟨.inr rfl, ?_⟩), by repeat' (first | exact trivial | refine ⟨rfl, ?_⟩), by first | rfl | simp [closedB, Qc, Qb, Qd, dom, Qa, *], by first | rfl | simp [keepB, dom]⟩) ?_ ?_
       · exact ⟨by omega, Jf hi.2 (by simpa using ‹¬ _›)⟩
       · omega)
    | (unfold zAt; rw [Qcr (i := i) (by omega) (by simpa using ‹_›) hi.2])
    | (unfold zAt; rw [Wh fun j hj => hi.2 j (by omega)])
def QS : List AV → Option (Prop × AV)
  | [.sl zst 5 zsx, .str s] => some ((((zsx.map QB).map Zone.row = zsx)) ∧ ((zsx.map QB).length ≤ 4611686018427387904), .int .i64 (zAt (zsx.map QB) s))
  | _ => none
theorem Gg : ∀ args p v, QS args = some (p, v) → p → Contract P 86 args [] v [] ∧ noref v = true ∧ No99 v := by
  intro args p v h1 h2
  unfold QS at h1
  split at h1
  · rename_i zst zsx s
    cases h1
    obtain ⟨e0, HP⟩ := h2
    have := Qqo zst (zsx.map QB) s HP
    exact ⟨by simpa only [e0] using this, rfl, trivial⟩
  · cases h1
def Jp : List AV → Option (Prop × AV)
  | [.sl zst 5 zsx, .str s] => some ((((zsx.map QB).map Zone.row = zsx)) ∧ ((zsx.map QB).length ≤ 4611686018427387904), .int .i64 (zAt (zsx.map QB) s))
  | _ => none
theorem Uv : ∀ args p v, Jp args = some (p, v) → p → Contract P 36 args [] v [] ∧ noref v = true ∧ No99 v := by
  intro args p v h1 h2
  unfold Jp at h1
  split at h1
  · rename_i zst zsx s
    cases h1
    obtain ⟨e0, HP⟩ := h2
    have := QoP zst (zsx.map QB) s HP
    exact ⟨by simpa only [e0] using this, rfl, trivial⟩
  · cases h1
def Qhe (zs : List Zone) (b : Box6) : Prop := b.ok ∧ ∃ i, i < zs.length ∧ (zs.getD i default).over b.x b.y
def tubeOk (zs : List Zone) (tu : List Box6) : Prop := (1 ≤ tu.length ∧ tu.length ≤ 20) ∧ ∀ i, i < tu.length → Qhe zs (tu.getD i default)
noncomputable instance (zs : List Zone) (tu : List Box6) : Decidable (tubeOk zs tu) := Classical.propDecidable _
theorem Qqp (t t' : Nat) (zs : List Zone) (tu : List Box6) (hz : zs.length ≤ 4611686018427387904) (hl : tu.length ≤ 4611686018427387904) : Contract P 100 [.sl t 5 (zs.map Zone.row), .sl t' 6 (tu.map Box6.row)] [] (.bool (decide (tubeOk zs tu))) [] := by
  refine Qh ((((Env.nil P).addR 122 Qhd Qsp).add 120 QA KG).add 121 Kx Qdi) hm Qja (nlb rfl) rfl ?_; unfold Qdc; simp (maxSteps := 2000000) only [bitvec_to_nat, reduceIte, Nat.reduceEqDiff, Nat.reduceAdd, Nat.reduceLeDiff, reduceCtorEq, Nat.reduceBEq, Nat.reduceLT, Nat.reduceMod, fmc, Qf, Qm, Qe, QE, keepB, Qn, QJ, QA, Kx, Qhd, Zone.row, Yt, Box6.row, Vd, Qbi, Qbj, K1, Vs]
  refine ⟨fun h1 => ?_, fun h1 => by grind [tubeOk]⟩
  · refine QH (fun i : Nat => [(13, .int .i64 i)]) (fun _ => []) (fun i => i ≤ tu.length ∧ ∀ j, j < i → Qhe zs (tu.getD j default)) (fun i => tu.length - i) (0) (by simp only [Ju, Jv, Jw, Jx, Qi, Qj, Qk, Ql, reduceIte, Nat.reduceEqDiff]; exact ⟨by repeat' (first | exact trivial | refine ⟨.inr rfl, ?_⟩), by repeat' (first | exact trivial | refine ⟨rfl, ?_⟩), by first | rfl | simp [closedB, Qc, Qb, Qd, dom, Qa, *], by first | rfl | simp [keepB, dom]⟩) ?_ ?_
    · exact ⟨Nat.zero_le _, by intro j hj; omega⟩
    intro i hi NX hN
    unfold Qa2; simp (maxSteps := 2000000) only [bitvec_to_nat, reduceIte, Nat.reduceEqDiff, Nat.reduceAdd, Nat.reduceLeDiff, reduceCtorEq, Nat.reduceBEq, Nat.reduceLT, Nat.reduceMod, fmc, Qf, Qm, Qe, QE, keepB, Qn, QJ, QA, Kx, Qhd, Zone.row, Yt, Box6.row, Vd, Qbi, Qbj, K1, Vs]
    repeat' (first | with_reducible apply And.intro | with_reducible intro _)
    all_goals first
      | exact trivial
      | omega
      | (refine hN (i + 1) _ (by simp only [Ju, Jv, Jw, Jx, Qi, Qj, Qk, Ql, reduceIte, Nat.reduceEqDiff]; exact ⟨by repeat' (first | exact trivial | refine ⟨.inr rfl, ?_⟩), by repeat' (first | exact trivial | refine ⟨rfl, ?_⟩), by first | rfl | simp [closedB, Qc, Qb, Qd, dom, Qa, *], by first | rfl | simp [keepB, dom]⟩) ?_ ?_
         · exact ⟨by omega, Jf hi.2 (by grind [tubeOk, Qhe])⟩
         · omega)
      | grind [tubeOk, Qhe]
end
end Go.Ve

namespace Go.Ve
noncomputable section
open Go.Proofs
set_option maxRecDepth 100000
theorem QoQ {a : ByteArray} {b c d e : Int} : QB [.str a, .int .i64 b, .int .i64 c, .int .i64 d, .int .i64 e] = ⟨a, b, c, d, e⟩ := rfl
attribute [method_specs_simp] Qqj QK Qz Qy Qjg Qnv Qnw QoK Qjf QfE Qcy Qcz Qlj Qkt Qkv Qql Word.row Own.row Part.row Seen.row Book.row Sector.row HCraft.row World.row
attribute [int_toBitVec_meta] Yt Vd Qbi Qbj K1 QoQ List.take_length List.length_cons List.length_nil Nat.zero_add Qs0 Qus QiH Vs QfE Qcy Qcz Qjf Zone.row Box6.row QdO Gv JJ Qgg
theorem Qmh {α : Type} [Inhabited α] {p : α → Bool} {l : List α} {i : Nat} (hi : i < l.length) (h : p (l.getD i default) = true) : (l.take (i + 1)).filter p = (l.take i).filter p ++ [l.getD i default] := by
  have e : l.getD i default = l[i] := by simp [hi]
  rw [e] at h ⊢
  rw [List.take_succ_eq_append_getElem hi, List.filter_append]; simp [h]
theorem Qjh {α : Type} [Inhabited α] {p : α → Bool} {l : List α} {i : Nat} (hi : i < l.length) (h : p (l.getD i default) = false) : (l.take (i + 1)).filter p = (l.take i).filter p := by
  have e : l.getD i default = l[i] := by simp [hi]
  rw [e] at h
  rw [List.take_succ_eq_append_getElem hi, List.filter_append]; simp [h]
theorem Qmi {z : Zone} : Q5 [z] ↔ z.ok := by
  unfold Q5 zoneAt
  constructor
  · intro h; exact (h.2 0 (by simp)).1
  · intro h
    refine ⟨by simp, fun i hi => ?_⟩
    have : i = 0 := by simp at hi; omega
    subst this
    exact ⟨h, fun h => absurd h (by omega), fun k hk => absurd hk (by omega)⟩
def Zone.sees (z : Zone) (b : Box6) : Prop := b.ok ∧ (z.x0 - 1 ≤ b.x ∧ b.x ≤ z.x1 + 1) ∧ (z.y0 - 1 ≤ b.y ∧ b.y ≤ z.y1 + 1)
instance (z : Zone) (b : Box6) : Decidable (z.sees b) := Classical.propDecidable _
def Yf (z : Zone) (tu : List Box6) : List Box6 := if Q5 [z] then tu.filter (fun b => decide (z.sees b)) else []
def QG : List AV → Option (Prop × AV)
  | [.sl zst 5 zsx, .sl tut 6 tux] => some ((((zsx.map QB).map Zone.row = zsx) ∧ ((tux.map QD).map Box6.row = tux)) ∧ ((zsx.map QB).length ≤ 4611686018427387904 ∧ (tux.map QD).length ≤ 4611686018427387904), .bool (decide (tubeOk (zsx.map QB) (tux.map QD))))
  | _ => none
theorem Yu : ∀ args p v, QG args = some (p, v) → p → Contract P 100 args [] v [] ∧ noref v = true ∧ No99 v := by
  intro args p v h1 h2
  unfold QG at h1
  split at h1
  · rename_i zst zsx tut tux
    cases h1
    obtain ⟨⟨e0, e1⟩, HP⟩ := h2
    have := Qqp zst tut (zsx.map QB) (tux.map QD) HP.1 HP.2
    exact ⟨by simpa only [e0, e1] using this, rfl, trivial⟩
  · cases h1
theorem QoR (t t' : Nat) (zs : List Zone) (tu : List Box6) (hz : zs.length ≤ 4611686018427387904) (hl : tu.length ≤ 4611686018427387904) : Contract P 65 [.sl t 5 (zs.map Zone.row), .sl t' 6 (tu.map Box6.row)] [] (.bool (decide (Q5 zs ∧ tubeOk zs tu))) [] := by
  refine Qh (((((Env.nil P).add 77 Ks Qe5).add 80 Je Gr).add 98 Qbk Qso).add 99 KI Qe4) hm QeU (nlb rfl) rfl ?_; unfold WD; simp (maxSteps := 2000000) only [bitvec_to_nat, reduceIte, Nat.reduceEqDiff, Nat.reduceAdd, Nat.reduceLeDiff, reduceCtorEq, Nat.reduceBEq, Nat.reduceLT, Nat.reduceMod, fmc, Ks, Je, Qbk, KI, int_toBitVec_meta, Vs]
  refine ⟨hz, fun h1 => ⟨fun h2 => ?_, fun h2 h => by grind [tubeOk]⟩, fun h1 h => h1 h.1⟩
  · refine QH (fun i : Nat => [(5, .int .i64 i)]) (fun _ => []) (fun i => i ≤ tu.length ∧ ∀ j, j < i → Qhe zs (tu.getD j default)) (fun i => tu.length - i) (0) (by simp only [Ju, Jv, Jw, Jx, Qi, Qj, Qk, Ql, reduceIte, Nat.reduceEqDiff]; exact ⟨by repeat' (first | exact trivial | refine ⟨.inr rfl, ?_⟩), by repeat' (first | exact trivial | refine ⟨rfl, ?_⟩), by first | rfl | simp [closedB, Qc, Qb, Qd, dom, Qa, *], by first | rfl | simp [keepB, dom]⟩) ?_ ?_
    · exact ⟨Nat.zero_le _, by intro j hj; omega⟩
    intro i hi NX hN
    unfold Uc; simp (maxSteps := 2000000) only [bitvec_to_nat, reduceIte, Nat.reduceEqDiff, Nat.reduceAdd, Nat.reduceLeDiff, reduceCtorEq, Nat.reduceBEq, Nat.reduceLT, Nat.reduceMod, fmc, Ks, Je, Qbk, KI, int_toBitVec_meta, Vs]
    repeat' (first | with_reducible apply And.intro | with_reducible intro _)
    · refine QH (fun a : Nat × Bool => [(6, .bool a.2), (7, .int .i64 a.1)]) (fun _ => []) (fun a => a.1 ≤ zs.length ∧ (a.2 = true ↔ ∃ k, k < a.1 ∧ (zs.getD k default).over (tu.getD i default).x (tu.getD i default).y)) (fun a => zs.length - a.1) ((0, false)) (by simp only [Ju, Jv, Jw, Jx, Qi, Qj, Qk, Ql, reduceIte, Nat.reduceEqDiff]; exact ⟨by repeat' (first | exact trivial | refine ⟨.inr rfl, ?_⟩), by repeat' (first | exact trivial | refine ⟨rfl, ?_⟩), by first | rfl | simp [closedB, Qc, Qb, Qd, dom, Qa, *], by first | rfl | simp [keepB, dom]⟩) ?_ ?_
      · exact ⟨Nat.zero_le _, by simp⟩
      rintro ⟨k, b⟩ hk NX2 hN2
      unfold Ub; simp (maxSteps := 2000000) only [bitvec_to_nat, reduceIte, Nat.reduceEqDiff, Nat.reduceAdd, Nat.reduceLeDiff, reduceCtorEq, Nat.reduceBEq, Nat.reduceLT, Nat.reduceMod, fmc, Ks, Je, Qbk, KI, int_toBitVec_meta, Vs]
      simp only at hk
      have sn : ∀ b' : Bool, (b' = true ↔ b = true ∨ (zs.getD k default).over (tu.getD i default).x (tu.getD i default).y) → (b' = true ↔ ∃ j, j < k + 1 ∧ (zs.getD j default).over (tu.getD i default).x (tu.getD i default).y) := by
        intro b' hb'
        rw [hb', hk.2]
        constructor
        · rintro (⟨j, h1, h2⟩ | h)
          · exact ⟨j, by omega, h2⟩
          · exact ⟨k, by omega, h⟩
        · rintro ⟨j, h1, h2⟩
          by_cases e : j = k
          · subst e; exact .inr h2
          · exact .inl ⟨j, by omega, h2⟩
      have fin : k = zs.length → (b = true ↔ ∃ k, k < zs.length ∧ (zs.getD k default).over (tu.getD i default).x (tu.getD i default).y) := fun e => e ▸ hk.2
      refine ⟨fun h3 => ?_, fun h3 => ?_⟩
      · cases b <;> (simp (maxSteps := 2000000) only [bitvec_to_nat, reduceIte, Nat.reduceEqDiff, Nat.reduceAdd, Nat.reduceLeDiff, reduceCtorEq, Nat.reduceBEq, Nat.reduceLT, Nat.reduceMod, fmc, Ks, Je, Qbk, KI, int_toBitVec_meta, Vs])
        · refine ⟨by omega, by omega, by omega, by omega, by omega, ?_⟩
          refine hN2 ((k + 1, _)) _ (by simp only [Ju, Jv, Jw, Jx, Qi, Qj, Qk, Ql, reduceIte, Nat.reduceEqDiff]; exact ⟨by repeat' (first | exact trivial | refine ⟨.inr rfl, ?_⟩), by repeat' (first | exact trivial | refine ⟨rfl, ?_⟩), by first | rfl | simp [closedB, Qc, Qb, Qd, dom, Qa, *], by first | rfl | simp [keepB, dom]⟩) ?_ ?_
          · exact ⟨by simp only; omega, sn _ (by simp)⟩
          · simp only; omega
        · refine ⟨by omega, ?_⟩
          refine hN2 ((k + 1, _)) _ (by simp only [Ju, Jv, Jw, Jx, Qi, Qj, Qk, Ql, reduceIte, Nat.reduceEqDiff]; exact ⟨by repeat' (first | exact trivial | refine ⟨.inr rfl, ?_⟩), by repeat' (first | exact trivial | refine ⟨rfl, ?_⟩), by first | rfl | simp [closedB, Qc, Qb, Qd, dom, Qa, *], by first | rfl | simp [keepB, dom]⟩) ?_ ?_
          · exact ⟨by simp only; omega, sn _ (by simp)⟩
          · simp only; omega
      · have hf := fin (by omega)
        cases b <;> (simp (maxSteps := 2000000) only [bitvec_to_nat, reduceIte, Nat.reduceEqDiff, Nat.reduceAdd, Nat.reduceLeDiff, reduceCtorEq, Nat.reduceBEq, Nat.reduceLT, Nat.reduceMod, fmc, Ks, Je, Qbk, KI, int_toBitVec_meta, Vs])
        · intro h; have := (h.2.2 i (by omega)).2; grind
        · refine ⟨by omega, by omega, fun h4 => ⟨by omega, ?_⟩, fun h4 h => h4 (h.2.2 i (by omega)).1⟩
          refine hN (i + 1) _ (by simp only [Ju, Jv, Jw, Jx, Qi, Qj, Qk, Ql, reduceIte, Nat.reduceEqDiff]; exact ⟨by repeat' (first | exact trivial | refine ⟨.inr rfl, ?_⟩), by repeat' (first | exact trivial | refine ⟨rfl, ?_⟩), by first | rfl | simp [closedB, Qc, Qb, Qd, dom, Qa, *], by first | rfl | simp [keepB, dom]⟩) ?_ ?_
          · exact ⟨by omega, Jf hi.2 ⟨h4, hf.1 rfl⟩⟩
          · omega
    · exact h1
    · exact ⟨by omega, fun j hj => hi.2 j (by omega)⟩
def JK : List AV → Option (Prop × AV)
  | [.sl zst 5 zsx, .sl tut 6 tux] => some ((((zsx.map QB).map Zone.row = zsx) ∧ ((tux.map QD).map Box6.row = tux)) ∧ ((zsx.map QB).length ≤ 4611686018427387904 ∧ (tux.map QD).length ≤ 4611686018427387904), .bool (decide (Q5 (zsx.map QB) ∧ tubeOk (zsx.map QB) (tux.map QD))))
  | _ => none
theorem WT : ∀ args p v, JK args = some (p, v) → p → Contract P 65 args [] v [] ∧ noref v = true ∧ No99 v := by
  intro args p v h1 h2
  unfold JK at h1
  split at h1
  · rename_i zst zsx tut tux
    cases h1
    obtain ⟨⟨e0, e1⟩, HP⟩ := h2
    have := QoR zst tut (zsx.map QB) (tux.map QD) HP.1 HP.2
    exact ⟨by simpa only [e0, e1] using this, rfl, trivial⟩
  · cases h1
theorem Qln (nm : ByteArray) (x0 y0 x1 y1 : Int) (hp : True) : Contract P 110 [.agg [.str nm, .int .i64 x0, .int .i64 y0, .int .i64 x1, .int .i64 y1]] [] (.bool (decide (Q5 [⟨nm, x0, y0, x1, y1⟩]))) [] := by
  refine Qh ((Env.nil P).add 77 Ks Qe5) hm QfS (nlb rfl) rfl ?_; unfold Qav; simp (maxSteps := 2000000) only [bitvec_to_nat, reduceIte, Nat.reduceEqDiff, Nat.reduceAdd, Nat.reduceLeDiff, reduceCtorEq, Nat.reduceBEq, Nat.reduceLT, Nat.reduceMod, fmc, Ks, int_toBitVec_meta]
  all_goals rfl
def Uw : List AV → Option (Prop × AV)
  | [.agg [.str z_nm, .int .i64 z_x0, .int .i64 z_y0, .int .i64 z_x1, .int .i64 z_y1]] => some ((True) ∧ (True), .bool (decide (Q5 [(Zone.mk z_nm z_x0 z_y0 z_x1 z_y1)])))
  | _ => none
theorem Qlo : ∀ args p v, Uw args = some (p, v) → p → Contract P 110 args [] v [] ∧ noref v = true ∧ No99 v := by
  intro args p v h1 h2
  unfold Uw at h1
  split at h1
  · rename_i z_nm z_x0 z_y0 z_x1 z_y1
    cases h1
    obtain ⟨_, HP⟩ := h2
    have := Qln z_nm z_x0 z_y0 z_x1 z_y1 HP
    exact ⟨by simpa only [Zone.row] using this, rfl, trivial⟩
  · cases h1
theorem QoS (nm : ByteArray) (x0 y0 x1 y1 x y l h i o : Int) (hp : Q5 [⟨nm, x0, y0, x1, y1⟩]) : Contract P 111 [.agg [.str nm, .int .i64 x0, .int .i64 y0, .int .i64 x1, .int .i64 y1], .agg [.int .i64 x, .int .i64 y, .int .i64 l, .int .i64 h, .int .i64 i, .int .i64 o]] [] (.bool (decide (Zone.sees ⟨nm, x0, y0, x1, y1⟩ ⟨x, y, l, h, i, o⟩))) [] := by
  refine Qh (((Env.nil P).add 80 Je Gr).add 99 KI Qe4) hm Qic (nlb rfl) rfl ?_; unfold Qce; simp (maxSteps := 2000000) only [bitvec_to_nat, reduceIte, Nat.reduceEqDiff, Nat.reduceAdd, Nat.reduceLeDiff, reduceCtorEq, Nat.reduceBEq, Nat.reduceLT, Nat.reduceMod, fmc, Je, KI, int_toBitVec_meta]
  rw [Qmi] at hp; unfold Zone.ok at hp; simp only [Zone.sees]
  repeat' (first | with_reducible apply And.intro | with_reducible intro _)
  all_goals first | omega | grind
def Qbl : List AV → Option (Prop × AV)
  | [.agg [.str z_nm, .int .i64 z_x0, .int .i64 z_y0, .int .i64 z_x1, .int .i64 z_y1], .agg [.int .i64 b_x, .int .i64 b_y, .int .i64 b_l, .int .i64 b_h, .int .i64 b_i, .int .i64 b_o]] => some ((True) ∧ (Q5 [(Zone.mk z_nm z_x0 z_y0 z_x1 z_y1)]), .bool (decide ((Zone.mk z_nm z_x0 z_y0 z_x1 z_y1).sees (Box6.mk b_x b_y b_l b_h b_i b_o))))
  | _ => none
theorem QoT : ∀ args p v, Qbl args = some (p, v) → p → Contract P 111 args [] v [] ∧ noref v = true ∧ No99 v := by
  intro args p v h1 h2
  unfold Qbl at h1
  split at h1
  · rename_i z_nm z_x0 z_y0 z_x1 z_y1 b_x b_y b_l b_h b_i b_o
    cases h1
    obtain ⟨_, HP⟩ := h2
    have := QoS z_nm z_x0 z_y0 z_x1 z_y1 b_x b_y b_l b_h b_i b_o HP
    exact ⟨by simpa only [Zone.row, Box6.row] using this, rfl, trivial⟩
  · cases h1
def kp (z : Zone) (tu : List Box6) (i : Nat) : List Box6 := (tu.take i).filter (fun b => decide (z.sees b))
theorem Qsq {z : Zone} {tu : List Box6} {i : Nat} (hi : i < tu.length) (h : z.sees (tu.getD i default)) : kp z tu (i + 1) = kp z tu i ++ [tu.getD i default] := Qmh hi (by simpa using h)
theorem QoU {z : Zone} {tu : List Box6} {i : Nat} (hi : i < tu.length) (h : ¬ z.sees (tu.getD i default)) : kp z tu (i + 1) = kp z tu i := Qjh hi (by simpa using h)
theorem QoV (z : Zone) (tu : List Box6) (i : Nat) : (kp z tu i).length ≤ i := Nat.le_trans (List.length_filter_le _ _) (by simp; omega)
theorem QoW {z : Zone} {tu : List Box6} (h : Q5 [z]) : kp z tu tu.length = Yf z tu := by unfold kp Yf; rw [if_pos h, List.take_length]
theorem Qsr {z : Zone} {tu : List Box6} (h : ¬ Q5 [z]) : Yf z tu = [] := if_neg h
theorem QoX (z : Zone) (tu : List Box6) : kp z tu 0 = [] := by simp [kp]
theorem QoY (z : Zone) (t : Nat) (tu : List Box6) (hl : tu.length ≤ 4294967295) : Contract P 82 [.agg z.row, .sl t 6 (tu.map Box6.row)] [] (.sl 0 6 ((Yf z tu).map Box6.row)) [] := by
  simp only [Zone.row]
  refine Qh (((Env.nil P).add 110 Uw Qlo).add 111 Qbl QoT) hm QeZ (nlb rfl) rfl ?_; unfold WI; simp (maxSteps := 2000000) only [bitvec_to_nat, reduceIte, Nat.reduceEqDiff, Nat.reduceAdd, Nat.reduceLeDiff, reduceCtorEq, Nat.reduceBEq, Nat.reduceLT, Nat.reduceMod, fmc, Uw, Qbl, int_toBitVec_meta]
  refine QH (fun i : Nat => [(5, .own 107 (kp z tu i).length 0 (kp z tu i).length), (6, .int .i64 i)]) (fun i => [(107, .arr 100 (kp z tu i).length 6 ((kp z tu i).map Box6.row))]) (fun i => i ≤ tu.length ∧ (0 < i → Q5 [z])) (fun i => tu.length - i) (0) (by simp only [Ju, Jv, Jw, Jx, Qi, Qj, Qk, Ql, reduceIte, Nat.reduceEqDiff]; exact ⟨by repeat' (first | exact trivial | refine ⟨.inr rfl, ?_⟩), by repeat' (first | exact trivial | refine ⟨rfl, ?_⟩), by first | rfl | simp [closedB, Qc, Qb, Qd, dom, Qa, *], by first | rfl | simp [keepB, dom]⟩) ?_ ?_
  · exact ⟨Nat.zero_le _, by omega⟩
  intro i hi NX hN
  unfold Uf; simp (maxSteps := 2000000) only [bitvec_to_nat, reduceIte, Nat.reduceEqDiff, Nat.reduceAdd, Nat.reduceLeDiff, reduceCtorEq, Nat.reduceBEq, Nat.reduceLT, Nat.reduceMod, fmc, Uw, Qbl, int_toBitVec_meta]
  have hk := QoV z tu i
  refine ⟨fun h1 => ⟨fun h2 => ⟨by omega, by omega, h2, fun h3 => ⟨by omega, by omega, by omega, by omega, ?_⟩, fun h3 => ⟨by omega, ?_⟩⟩, fun h2 => ?_⟩, fun h1 => ?_⟩
  · have e := Qsq (z := z) (show i < tu.length by omega) h3
    refine hN (i + 1) _ (by simp only [e, List.length_append, List.length_cons, List.length_nil, Nat.zero_add, List.map_append, List.map_cons, List.map_nil, Ju, Jv, Jw, Jx, Qi, Qj, Qk, Ql, reduceIte, Nat.reduceEqDiff]; exact ⟨by repeat' (first | exact trivial | refine ⟨.inr rfl, ?_⟩), by repeat' (first | exact trivial | refine ⟨rfl, ?_⟩), by first | rfl | simp [closedB, Qc, Qb, Qd, dom, Qa, *], by first | rfl | simp [keepB, dom]⟩) ?_ ?_
    · exact ⟨by omega, fun _ => h2⟩
    · omega
  · have e := QoU (z := z) (show i < tu.length by omega) h3
    refine hN (i + 1) _ (by simp only [e, List.length_append, List.length_cons, List.length_nil, Nat.zero_add, List.map_append, List.map_cons, List.map_nil, Ju, Jv, Jw, Jx, Qi, Qj, Qk, Ql, reduceIte, Nat.reduceEqDiff]; exact ⟨by repeat' (first | exact trivial | refine ⟨.inr rfl, ?_⟩), by repeat' (first | exact trivial | refine ⟨rfl, ?_⟩), by first | rfl | simp [closedB, Qc, Qb, Qd, dom, Qa, *], by first | rfl | simp [keepB, dom]⟩) ?_ ?_
    · exact ⟨by omega, fun _ => h2⟩
    · omega
  · have : i = 0 := Nat.eq_zero_of_not_pos fun h => h2 (hi.2 h)
    subst this
    rw [QoX, Qsr h2]
  · have e : i = tu.length := by omega
    subst e
    by_cases hz : Q5 [z]
    · rw [QoW hz]
    · have : tu.length = 0 := Nat.eq_zero_of_not_pos fun h => hz (hi.2 h)
      rw [this, QoX, Qsr hz]
theorem Qqq (z : Zone) (t : Nat) (tu : List Box6) (hl : tu.length ≤ 4294967295) : Contract P 115 [.agg z.row, .sl t 6 (tu.map Box6.row)] [] (.sl 0 6 ((Yf z tu).map Box6.row)) [] := by
  simp only [Zone.row]
  refine Qh ((((Env.nil P).add 101 Y9 Qhc).add 121 Kx Qdi).add 120 QA KG) hm Qe3 (nlb rfl) rfl ?_; unfold WP; simp (maxSteps := 2000000) only [bitvec_to_nat, reduceIte, Nat.reduceEqDiff, Nat.reduceAdd, Nat.reduceLeDiff, reduceCtorEq, Nat.reduceBEq, Nat.reduceLT, Nat.reduceMod, fmc, Y9, Kx, QA, int_toBitVec_meta]
  refine ⟨fun h1 => ?_, fun h1 => by rw [Qsr h1]; rfl⟩
  refine QH (fun i : Nat => [(5, .own 105 (kp z tu i).length 0 (kp z tu i).length), (14, .int .i64 i)]) (fun i => [(105, .arr 100 (kp z tu i).length 6 ((kp z tu i).map Box6.row))]) (fun i => i ≤ tu.length ∧ (0 < i → Q5 [z])) (fun i => tu.length - i) (0) (by simp only [Ju, Jv, Jw, Jx, Qi, Qj, Qk, Ql, reduceIte, Nat.reduceEqDiff]; exact ⟨by repeat' (first | exact trivial | refine ⟨.inr rfl, ?_⟩), by repeat' (first | exact trivial | refine ⟨rfl, ?_⟩), by first | rfl | simp [closedB, Qc, Qb, Qd, dom, Qa, *], by first | rfl | simp [keepB, dom]⟩) ?_ ?_
  · exact ⟨Nat.zero_le _, by omega⟩
  intro i hi NX hN
  unfold Ut; simp (maxSteps := 2000000) only [bitvec_to_nat, reduceIte, Nat.reduceEqDiff, Nat.reduceAdd, Nat.reduceLeDiff, reduceCtorEq, Nat.reduceBEq, Nat.reduceLT, Nat.reduceMod, fmc, Y9, Kx, QA, int_toBitVec_meta]
  have hk := QoV z tu i
  have hz := h1
  rw [Qmi] at hz
  unfold Zone.ok at hz
  repeat' (first | with_reducible apply And.intro | with_reducible intro _)
  all_goals first
    | omega
    | (have e := Qsq (z := z) (show i < tu.length by omega) (by unfold Zone.sees; grind)
       refine hN (i + 1) _ (by simp only [e, List.length_append, List.length_cons, List.length_nil, Nat.zero_add, List.map_append, List.map_cons, List.map_nil, Ju, Jv, Jw, Jx, Qi, Qj, Qk, Ql, reduceIte, Nat.reduceEqDiff]; exact ⟨by repeat' (first | exact trivial | refine ⟨.inr rfl, ?_⟩), by repeat' (first | exact trivial | refine ⟨rfl, ?_⟩), by first | rfl | simp [closedB, Qc, Qb, Qd, dom, Qa, *], by first | rfl | simp [keepB, dom]⟩) ?_ ?_
       · exact ⟨by omega, fun _ => h1⟩
       · omega)
    | (have e := QoU (z := z) (show i < tu.length by omega) (by unfold Zone.sees; grind)
       refine hN (i + 1) _ (by simp only [e, List.length_append, List.length_cons, List.length_nil, Nat.zero_add, List.map_append, List.map_cons, List.map_nil, Ju, Jv, Jw, Jx, Qi, Qj, Qk, Ql, reduceIte, Nat.reduceEqDiff]; exact ⟨by repeat' (first | exact trivial | refine ⟨.inr rfl, ?_⟩), by repeat' (first | exact trivial | refine ⟨rfl, ?_⟩), by first | rfl | simp [closedB, Qc, Qb, Qd, dom, Qa, *], by first | rfl | simp [keepB, dom]⟩) ?_ ?_
       · exact ⟨by omega, fun _ => h1⟩
       · omega)
    | (have e : i = tu.length := by omega
       subst e
       rw [QoW h1])
def Ga : List AV → Option (Prop × AV)
  | [.agg [.str z_nm, .int .i64 z_x0, .int .i64 z_y0, .int .i64 z_x1, .int .i64 z_y1], .sl tut 6 tux] => some ((((tux.map QD).map Box6.row = tux)) ∧ ((tux.map QD).length ≤ 4294967295), .sl 0 6 ((Yf (Zone.mk z_nm z_x0 z_y0 z_x1 z_y1) (tux.map QD)).map Box6.row))
  | _ => none
theorem Qkw : ∀ args p v, Ga args = some (p, v) → p → Contract P 82 args [] v [] ∧ noref v = true ∧ No99 v := by
  intro args p v h1 h2
  unfold Ga at h1
  split at h1
  · rename_i z_nm z_x0 z_y0 z_x1 z_y1 tut tux
    cases h1
    obtain ⟨e0, HP⟩ := h2
    have := QoY (Zone.mk z_nm z_x0 z_y0 z_x1 z_y1) tut (tux.map QD) HP
    exact ⟨by simpa only [e0, Zone.row] using this, rfl, by simp [No99, Jj]⟩
  · cases h1
def Qdm : List AV → Option (Prop × AV)
  | [.agg [.str z_nm, .int .i64 z_x0, .int .i64 z_y0, .int .i64 z_x1, .int .i64 z_y1], .sl tut 6 tux] => some ((((tux.map QD).map Box6.row = tux)) ∧ ((tux.map QD).length ≤ 4294967295), .sl 0 6 ((Yf (Zone.mk z_nm z_x0 z_y0 z_x1 z_y1) (tux.map QD)).map Box6.row))
  | _ => none
theorem Qqr : ∀ args p v, Qdm args = some (p, v) → p → Contract P 115 args [] v [] ∧ noref v = true ∧ No99 v := by
  intro args p v h1 h2
  unfold Qdm at h1
  split at h1
  · rename_i z_nm z_x0 z_y0 z_x1 z_y1 tut tux
    cases h1
    obtain ⟨e0, HP⟩ := h2
    have := Qqq (Zone.mk z_nm z_x0 z_y0 z_x1 z_y1) tut (tux.map QD) HP
    exact ⟨by simpa only [e0, Zone.row] using this, rfl, by simp [No99, Jj]⟩
  · cases h1
def Kd (zs : List Zone) (tu : List Box6) : List ByteArray := (zs.filter (fun z => decide (0 < (Yf z tu).length))).map (·.nm)
def wk (zs : List Zone) (tu : List Box6) (i : Nat) : List ByteArray := ((zs.take i).filter (fun z => decide (0 < (Yf z tu).length))).map (·.nm)
theorem Qtq {zs : List Zone} {tu : List Box6} {i : Nat} (hi : i < zs.length) (h : 0 < (Yf (zs.getD i default) tu).length) : wk zs tu (i + 1) = wk zs tu i ++ [(zs.getD i default).nm] := by
  unfold wk; rw [Qmh hi (by simpa using h)]; simp
theorem Qry {zs : List Zone} {tu : List Box6} {i : Nat} (hi : i < zs.length) (h : ¬ 0 < (Yf (zs.getD i default) tu).length) : wk zs tu (i + 1) = wk zs tu i := by
  unfold wk; rw [Qjh hi (by simpa using h)]
theorem Qmj (zs : List Zone) (tu : List Box6) (i : Nat) : (wk zs tu i).length ≤ i := by
  unfold wk; rw [List.length_map]; exact Nat.le_trans (List.length_filter_le _ _) (by simp; omega)
theorem Qmk (zs : List Zone) (tu : List Box6) : wk zs tu zs.length = Kd zs tu := by unfold wk Kd; rw [List.take_length]
theorem Qdn (z : Zone) (tu : List Box6) : (Yf z tu).length ≤ tu.length := by
  unfold Yf; split
  · exact List.length_filter_le _ _
  · simp
theorem Qt4 (t t' : Nat) (zs : List Zone) (tu : List Box6) (hz : zs.length ≤ 4294967295) (hl : tu.length ≤ 4294967295) : Contract P 127 [.sl t 5 (zs.map Zone.row), .sl t' 6 (tu.map Box6.row)] [] (.sl 0 1 ((Kd zs tu).map JJ)) [] := by
  refine Qh ((Env.nil P).add 115 Qdm Qqr) hm Qie (nlb rfl) rfl ?_; unfold Qcg; simp (maxSteps := 2000000) only [bitvec_to_nat, reduceIte, Nat.reduceEqDiff, Nat.reduceAdd, Nat.reduceLeDiff, reduceCtorEq, Nat.reduceBEq, Nat.reduceLT, Nat.reduceMod, fmc, Qdm, int_toBitVec_meta]
  refine QH (fun i : Nat => [(5, .own 105 (wk zs tu i).length 0 (wk zs tu i).length), (10, .int .i64 i)]) (fun i => [(105, .arr 9 (wk zs tu i).length 1 ((wk zs tu i).map JJ))]) (fun i => i ≤ zs.length) (fun i => zs.length - i) (0) (by simp only [Ju, Jv, Jw, Jx, Qi, Qj, Qk, Ql, reduceIte, Nat.reduceEqDiff]; exact ⟨by repeat' (first | exact trivial | refine ⟨.inr rfl, ?_⟩), by repeat' (first | exact trivial | refine ⟨rfl, ?_⟩), by first | rfl | simp [closedB, Qc, Qb, Qd, dom, Qa, *], by first | rfl | simp [keepB, dom]⟩) ?_ ?_
  · exact Nat.zero_le _
  intro i hi NX hN
  unfold Qay; simp (maxSteps := 2000000) only [bitvec_to_nat, reduceIte, Nat.reduceEqDiff, Nat.reduceAdd, Nat.reduceLeDiff, reduceCtorEq, Nat.reduceBEq, Nat.reduceLT, Nat.reduceMod, fmc, Qdm, int_toBitVec_meta]
  have hk := Qmj zs tu i
  have hpl := Qdn (zs.getD i default) tu
  repeat' (first | with_reducible apply And.intro | with_reducible intro _)
  all_goals first
    | omega
    | (have e := Qtq (zs := zs) (tu := tu) (show i < zs.length by omega) (by omega)
       refine hN (i + 1) _ (by simp only [e, List.length_append, List.length_cons, List.length_nil, Nat.zero_add, List.map_append, List.map_cons, List.map_nil, Ju, Jv, Jw, Jx, Qi, Qj, Qk, Ql, reduceIte, Nat.reduceEqDiff]; exact ⟨by repeat' (first | exact trivial | refine ⟨.inr rfl, ?_⟩), by repeat' (first | exact trivial | refine ⟨rfl, ?_⟩), by first | rfl | simp [closedB, Qc, Qb, Qd, dom, Qa, *], by first | rfl | simp [keepB, dom]⟩) ?_ ?_
       · omega
       · omega)
    | (have e := Qry (zs := zs) (tu := tu) (show i < zs.length by omega) (by omega)
       refine hN (i + 1) _ (by simp only [e, List.length_append, List.length_cons, List.length_nil, Nat.zero_add, List.map_append, List.map_cons, List.map_nil, Ju, Jv, Jw, Jx, Qi, Qj, Qk, Ql, reduceIte, Nat.reduceEqDiff]; exact ⟨by repeat' (first | exact trivial | refine ⟨.inr rfl, ?_⟩), by repeat' (first | exact trivial | refine ⟨rfl, ?_⟩), by first | rfl | simp [closedB, Qc, Qb, Qd, dom, Qa, *], by first | rfl | simp [keepB, dom]⟩) ?_ ?_
       · omega
       · omega)
    | (have e : i = zs.length := by omega
       subst e
       rw [Qmk])
def Ke : List AV → Option (Prop × AV)
  | [.sl zst 5 zsx, .sl tut 6 tux] => some ((((zsx.map QB).map Zone.row = zsx) ∧ ((tux.map QD).map Box6.row = tux)) ∧ ((zsx.map QB).length ≤ 4294967295 ∧ (tux.map QD).length ≤ 4294967295), .sl 0 1 ((Kd (zsx.map QB) (tux.map QD)).map JJ))
  | _ => none
theorem Qhf : ∀ args p v, Ke args = some (p, v) → p → Contract P 127 args [] v [] ∧ noref v = true ∧ No99 v := by
  intro args p v h1 h2
  unfold Ke at h1
  split at h1
  · rename_i zst zsx tut tux
    cases h1
    obtain ⟨⟨e0, e1⟩, HP⟩ := h2
    have := Qt4 zst tut (zsx.map QB) (tux.map QD) HP.1 HP.2
    exact ⟨by simpa only [e0, e1] using this, rfl, by simp [No99, Kz]⟩
  · cases h1
theorem Qtr (t t' : Nat) (zs : List Zone) (tu : List Box6) (hz : zs.length ≤ 4294967295) (hl : tu.length ≤ 4294967295) : Contract P 81 [.sl t 5 (zs.map Zone.row), .sl t' 6 (tu.map Box6.row)] [] (.sl 0 1 ((Kd zs tu).map JJ)) [] := by
  refine Qh ((Env.nil P).add 82 Ga Qkw) hm Qh9 (nlb rfl) rfl ?_; unfold Qcb; simp (maxSteps := 2000000) only [bitvec_to_nat, reduceIte, Nat.reduceEqDiff, Nat.reduceAdd, Nat.reduceLeDiff, reduceCtorEq, Nat.reduceBEq, Nat.reduceLT, Nat.reduceMod, fmc, Ga, int_toBitVec_meta]
  refine QH (fun i : Nat => [(5, .own 107 (wk zs tu i).length 0 (wk zs tu i).length), (6, .int .i64 i)]) (fun i => [(107, .arr 9 (wk zs tu i).length 1 ((wk zs tu i).map JJ))]) (fun i => i ≤ zs.length) (fun i => zs.length - i) (0) (by simp only [Ju, Jv, Jw, Jx, Qi, Qj, Qk, Ql, reduceIte, Nat.reduceEqDiff]; exact ⟨by repeat' (first | exact trivial | refine ⟨.inr rfl, ?_⟩), by repeat' (first | exact trivial | refine ⟨rfl, ?_⟩), by first | rfl | simp [closedB, Qc, Qb, Qd, dom, Qa, *], by first | rfl | simp [keepB, dom]⟩) ?_ ?_
  · exact Nat.zero_le _
  intro i hi NX hN
  unfold Qap; simp (maxSteps := 2000000) only [bitvec_to_nat, reduceIte, Nat.reduceEqDiff, Nat.reduceAdd, Nat.reduceLeDiff, reduceCtorEq, Nat.reduceBEq, Nat.reduceLT, Nat.reduceMod, fmc, Ga, int_toBitVec_meta]
  have hk := Qmj zs tu i
  have hpl := Qdn (zs.getD i default) tu
  repeat' (first | with_reducible apply And.intro | with_reducible intro _)
  all_goals first
    | omega
    | (have e := Qtq (zs := zs) (tu := tu) (show i < zs.length by omega) (by omega)
       refine hN (i + 1) _ (by simp only [e, List.length_append, List.length_cons, List.length_nil, Nat.zero_add, List.map_append, List.map_cons, List.map_nil, Ju, Jv, Jw, Jx, Qi, Qj, Qk, Ql, reduceIte, Nat.reduceEqDiff]; exact ⟨by repeat' (first | exact trivial | refine ⟨.inr rfl, ?_⟩), by repeat' (first | exact trivial | refine ⟨rfl, ?_⟩), by first | rfl | simp [closedB, Qc, Qb, Qd, dom, Qa, *], by first | rfl | simp [keepB, dom]⟩) ?_ ?_
       · omega
       · omega)
    | (have e := Qry (zs := zs) (tu := tu) (show i < zs.length by omega) (by omega)
       refine hN (i + 1) _ (by simp only [e, List.length_append, List.length_cons, List.length_nil, Nat.zero_add, List.map_append, List.map_cons, List.map_nil, Ju, Jv, Jw, Jx, Qi, Qj, Qk, Ql, reduceIte, Nat.reduceEqDiff]; exact ⟨by repeat' (first | exact trivial | refine ⟨.inr rfl, ?_⟩), by repeat' (first | exact trivial | refine ⟨rfl, ?_⟩), by first | rfl | simp [closedB, Qc, Qb, Qd, dom, Qa, *], by first | rfl | simp [keepB, dom]⟩) ?_ ?_
       · omega
       · omega)
    | (have e : i = zs.length := by omega
       subst e
       rw [Qmk])
def Gb : List AV → Option (Prop × AV)
  | [.sl zst 5 zsx, .sl tut 6 tux] => some ((((zsx.map QB).map Zone.row = zsx) ∧ ((tux.map QD).map Box6.row = tux)) ∧ ((zsx.map QB).length ≤ 4294967295 ∧ (tux.map QD).length ≤ 4294967295), .sl 0 1 ((Kd (zsx.map QB) (tux.map QD)).map JJ))
  | _ => none
theorem Qkx : ∀ args p v, Gb args = some (p, v) → p → Contract P 81 args [] v [] ∧ noref v = true ∧ No99 v := by
  intro args p v h1 h2
  unfold Gb at h1
  split at h1
  · rename_i zst zsx tut tux
    cases h1
    obtain ⟨⟨e0, e1⟩, HP⟩ := h2
    have := Qtr zst tut (zsx.map QB) (tux.map QD) HP.1 HP.2
    exact ⟨by simpa only [e0, e1] using this, rfl, by simp [No99, Kz]⟩
  · cases h1
end
end Go.Ve

