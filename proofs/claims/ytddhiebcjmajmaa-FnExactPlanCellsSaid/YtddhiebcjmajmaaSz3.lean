/- Part 3 of the proof: laws and contracts of functions, each proved; they are joined in the last part. No conditions beyond those that the theorems state. -/
import Derived.Test.YtddhiebcjmajmaaProg
import Derived.Test.YtddhiebcjmajmaaSz2
set_option linter.all false
namespace Go.Ve
open Go.Proofs
set_option maxRecDepth 100000
/-- laws.FnExactPlanCells: function 3 -/
def s_laws_FnExactPlanCells : SFun := { n := 119, res := [.t 4], body := (.seq (.rg [⟨some 2, .box 102 (.v 0), none, [0]⟩, ⟨some 4, .mv (.c (.bool false)), none, [4]⟩] [1, 2]) (.seq (.rg [⟨some 5, .mv (.c (.int .i64 1048576)), none, []⟩] [1, 2, 5]) (.seq (.rg [⟨some 17, .loadN 2 (.v 2), none, []⟩, ⟨some 18, .mv (.v 5), none, [5]⟩, ⟨some 19, .call 4 [.v 17, .v 18], none, [17, 18]⟩, ⟨some 5, .mv (.v 19), none, [19]⟩] [1, 2, 5]) (.seq (.seq (.rg [⟨some 20, .mv (.v 5), none, []⟩, ⟨some 21, .bin .lss (.v 20) (.c (.int .i64 0)), none, [20]⟩] [1, 2, 5, 21]) (.cond (.v 21) (.seq (.rg [⟨some 4, .mv (.c (.bool true)), none, []⟩] [4]) .ret) .skip)) (.seq (.rg [⟨some 22, .mv (.v 1), none, []⟩, ⟨some 23, .mv (.v 5), none, [5]⟩, ⟨some 24, .call 5 [.v 22, .v 23], none, [22, 23]⟩, ⟨some 5, .mv (.v 24), none, [24]⟩] [1, 2, 5]) (.seq (.seq (.rg [⟨some 25, .mv (.v 5), none, [5]⟩, ⟨some 26, .bin .lss (.v 25) (.c (.int .i64 0)), none, [25]⟩] [1, 2, 26]) (.cond (.v 26) (.seq (.rg [⟨some 4, .mv (.c (.bool true)), none, []⟩] [4]) .ret) .skip)) (.seq (.rg [⟨some 28, .loadN 2 (.v 2), none, []⟩, ⟨some 29, .call 7 [.v 28], none, [28]⟩, ⟨some 30, .mv (.v 1), none, []⟩, ⟨some 31, .call 8 [.v 30], none, [30]⟩, ⟨some 32, .call 6 [.v 29, .v 31], none, [29, 31]⟩, ⟨some 27, .mv (.v 32), none, [32]⟩, ⟨some 33, .ext 0 (.v 27), none, []⟩, ⟨some 34, .ext 1 (.v 27), none, [27]⟩, ⟨some 6, .mv (.v 33), none, [33]⟩, ⟨some 7, .mv (.v 34), none, [34]⟩] [1, 2, 6, 7]) (.seq (.rg [⟨some 35, .loadN 2 (.v 2), none, []⟩, ⟨some 36, .call 7 [.v 35], none, [35]⟩, ⟨some 8, .alloc 108 [.sl 0 3 [], .sl 0 3 []], none, []⟩, ⟨none, .store 2 (.v 8) (.v 36), none, [36]⟩] [1, 2, 6, 7, 8]) (.seq (.rg [⟨some 37, .mv (.v 1), none, []⟩, ⟨some 38, .call 8 [.v 37], none, [37]⟩, ⟨some 9, .mv (.v 38), none, [38]⟩] [1, 2, 6, 7, 8, 9]) (.seq (.rg [⟨some 40, .loadN 2 (.v 8), none, []⟩, ⟨some 41, .mv (.v 9), none, []⟩, ⟨some 42, .call 9 [.v 40, .v 41], none, [40, 41]⟩, ⟨some 39, .mv (.v 42), none, [42]⟩, ⟨some 43, .ext 0 (.v 39), none, []⟩, ⟨some 44, .ext 1 (.v 39), none, [39]⟩, ⟨some 10, .mv (.v 43), none, [43]⟩, ⟨some 11, .mv (.v 44), none, [44]⟩] [1, 2, 6, 7, 8, 9, 10, 11]) (.seq (.seq (.rg [⟨some 45, .mv (.v 10), none, []⟩, ⟨some 46, .mv (.v 6), none, []⟩, ⟨some 47, .call 10 [.v 45, .v 46], none, [45, 46]⟩, ⟨some 48, .not (.v 47), none, [47]⟩, ⟨some 49, .mv (.v 48), none, [48]⟩, ⟨some 50, .mv (.v 11), some (49, false), []⟩, ⟨some 51, .mv (.v 7), some (49, false), []⟩, ⟨some 52, .eqB true (.v 50) (.v 51), some (49, false), [50, 51]⟩, ⟨some 53, .pick (.v 49) (.c (.bool true)) (.v 52), none, [49, 52]⟩] [1, 2, 6, 7, 8, 9, 10, 11, 53]) (.cond (.v 53) (.seq (.rg [⟨some 4, .mv (.c (.bool false)), none, []⟩] [4]) .ret) .skip)) (.seq (.seq (.rgd [⟨some 54, .loadN 2 (.v 8), none, []⟩, ⟨some 55, .loadN 2 (.v 2), none, []⟩, ⟨some 56, .call 7 [.v 55], none, []⟩, ⟨some 57, .call 11 [.v 54, .v 56], none, []⟩, ⟨some 58, .not (.v 57), none, []⟩] [1, 2, 6, 7, 8, 9, 10, 11, 58] [some [], none, some [1], none, none]) (.cond (.v 58) (.seq (.rg [⟨some 4, .mv (.c (.bool false)), none, []⟩] [4]) .ret) .skip)) (.seq (.seq (.rg [⟨some 59, .mv (.v 9), none, []⟩, ⟨some 60, .mv (.v 1), none, []⟩, ⟨some 61, .call 8 [.v 60], none, [60]⟩, ⟨some 62, .call 12 [.v 59, .v 61], none, [59, 61]⟩, ⟨some 63, .not (.v 62), none, [62]⟩] [1, 2, 6, 7, 8, 9, 10, 11, 63]) (.cond (.v 63) (.seq (.rg [⟨some 4, .mv (.c (.bool false)), none, []⟩] [4]) .ret) .skip)) (.seq (.rg [⟨some 12, .mv (.c (.int .i64 1)), none, []⟩] [1, 2, 6, 7, 8, 9, 10, 11, 12]) (.seq (.rg [⟨some 64, .loadN 2 (.v 8), none, [8]⟩, ⟨some 65, .mv (.v 12), none, [12]⟩, ⟨some 66, .call 13 [.v 64, .v 65], none, [64, 65]⟩, ⟨some 12, .mv (.v 66), none, [66]⟩] [1, 2, 6, 7, 9, 10, 11, 12]) (.seq (.rg [⟨some 67, .mv (.v 9), none, [9]⟩, ⟨some 68, .mv (.v 12), none, [12]⟩, ⟨some 69, .call 14 [.v 67, .v 68], none, [67, 68]⟩, ⟨some 12, .mv (.v 69), none, [69]⟩] [1, 2, 6, 7, 10, 11, 12]) (.seq (.seq (.rg [⟨some 70, .mv (.v 12), none, [12]⟩, ⟨some 71, .bin .lss (.v 70) (.c (.int .i64 0)), none, [70]⟩, ⟨some 72, .mv (.v 71), none, [71]⟩, ⟨some 73, .mv (.v 10), some (72, false), []⟩, ⟨some 74, .mv (.v 6), some (72, false), []⟩, ⟨some 75, .call 10 [.v 73, .v 74], some (72, false), [73, 74]⟩, ⟨some 76, .not (.v 75), some (72, false), [75]⟩, ⟨some 77, .pick (.v 72) (.c (.bool true)) (.v 76), none, [72, 76]⟩, ⟨some 78, .mv (.v 77), none, [77]⟩, ⟨some 79, .mv (.v 11), some (78, false), [11]⟩, ⟨some 80, .mv (.v 7), some (78, false), []⟩, ⟨some 81, .eqB true (.v 79) (.v 80), some (78, false), [79, 80]⟩, ⟨some 82, .pick (.v 78) (.c (.bool true)) (.v 81), none, [78, 81]⟩] [1, 2, 6, 7, 10, 82]) (.cond (.v 82) (.seq (.rg [⟨some 4, .mv (.c (.bool false)), none, []⟩] [4]) .ret) .skip)) (.seq (.rg [⟨some 13, .mv (.c (.int .i64 1)), none, []⟩] [1, 2, 6, 7, 10, 13]) (.seq (.rg [⟨some 83, .mv (.v 10), none, []⟩, ⟨some 84, .mv (.v 13), none, [13]⟩, ⟨some 85, .call 15 [.v 83, .v 84], none, [83, 84]⟩, ⟨some 13, .mv (.v 85), none, [85]⟩] [1, 2, 6, 7, 10, 13]) (.seq (.rg [⟨some 14, .mv (.c (.int .i64 1)), none, []⟩] [1, 2, 6, 7, 10, 13, 14]) (.seq (.rg [⟨some 86, .mv (.v 10), none, []⟩, ⟨some 87, .mv (.v 14), none, [14]⟩, ⟨some 88, .call 16 [.v 86, .v 87], none, [86, 87]⟩, ⟨some 14, .mv (.v 88), none, [88]⟩] [1, 2, 6, 7, 10, 13, 14]) (.seq (.seq (.rg [⟨some 89, .mv (.v 14), none, []⟩, ⟨some 90, .bin .lss (.v 89) (.c (.int .i64 0)), none, [89]⟩] [1, 2, 6, 7, 10, 13, 14, 90]) (.cond (.v 90) (.seq (.rg [⟨some 4, .mv (.c (.bool false)), none, []⟩] [4]) .ret) .skip)) (.seq (.seq (.rg [⟨some 91, .mv (.v 14), none, [14]⟩, ⟨some 92, .mv (.v 13), none, []⟩, ⟨some 93, .bin .neq (.v 91) (.v 92), none, [91, 92]⟩] [1, 2, 6, 7, 10, 13, 93]) (.cond (.v 93) (.seq (.rg [⟨some 4, .mv (.c (.bool false)), none, []⟩] [4]) .ret) .skip)) (.seq (.rg [⟨some 95, .loadN 2 (.v 2), none, [2]⟩, ⟨some 96, .call 7 [.v 95], none, [95]⟩, ⟨some 97, .mv (.v 1), none, [1]⟩, ⟨some 98, .call 8 [.v 97], none, [97]⟩, ⟨some 99, .call 9 [.v 96, .v 98], none, [96, 98]⟩, ⟨some 94, .mv (.v 99), none, [99]⟩, ⟨some 100, .ext 0 (.v 94), none, []⟩, ⟨some 101, .ext 1 (.v 94), none, [94]⟩, ⟨some 15, .mv (.v 100), none, [100]⟩, ⟨some 16, .mv (.v 101), none, [101]⟩] [6, 7, 10, 13, 15, 16]) (.seq (.seq (.rg [⟨some 102, .mv (.v 15), none, [15]⟩, ⟨some 103, .mv (.v 6), none, [6]⟩, ⟨some 104, .call 10 [.v 102, .v 103], none, [102, 103]⟩, ⟨some 105, .not (.v 104), none, [104]⟩, ⟨some 106, .mv (.v 105), none, [105]⟩, ⟨some 107, .mv (.v 16), some (106, false), [16]⟩, ⟨some 108, .mv (.v 7), some (106, false), [7]⟩, ⟨some 109, .eqB true (.v 107) (.v 108), some (106, false), [107, 108]⟩, ⟨some 110, .pick (.v 106) (.c (.bool true)) (.v 109), none, [106, 109]⟩] [10, 13, 110]) (.cond (.v 110) (.seq (.rg [⟨some 4, .mv (.c (.bool false)), none, []⟩] [4]) .ret) .skip)) (.seq (.rg [⟨some 14, .mv (.c (.int .i64 1)), none, []⟩] [10, 13, 14]) (.seq (.rg [⟨some 111, .mv (.v 10), none, [10]⟩, ⟨some 112, .mv (.v 14), none, [14]⟩, ⟨some 113, .call 16 [.v 111, .v 112], none, [111, 112]⟩, ⟨some 14, .mv (.v 113), none, [113]⟩] [13, 14]) (.seq (.seq (.rg [⟨some 114, .mv (.v 14), none, []⟩, ⟨some 115, .bin .lss (.v 114) (.c (.int .i64 0)), none, [114]⟩] [13, 14, 115]) (.cond (.v 115) (.seq (.rg [⟨some 4, .mv (.c (.bool false)), none, []⟩] [4]) .ret) .skip)) (.seq (.seq (.rg [⟨some 116, .mv (.v 14), none, [14]⟩, ⟨some 117, .mv (.v 13), none, [13]⟩, ⟨some 118, .bin .neq (.v 116) (.v 117), none, [116, 117]⟩] [118]) (.cond (.v 118) (.seq (.rg [⟨some 4, .mv (.c (.bool false)), none, []⟩] [4]) .ret) .skip)) (.seq (.rg [⟨some 4, .mv (.c (.bool true)), none, []⟩] [4]) .ret)))))))))))))))))))))))))))))) }
theorem k_laws_FnExactPlanCells : okFun Go.Proofs.Try.prog 3 s_laws_FnExactPlanCells = true := by kernel_rfl
/-- laws.szPlanBase: function 4 -/
def s_laws_szPlanBase : SFun := { n := 18, res := [.t 4], body := (.seq (.rg [⟨some 2, .box 102 (.v 0), none, [0]⟩, ⟨some 4, .mv (.c (.int .i64 0)), none, [4]⟩] [1, 2]) (.seq (.rg [⟨some 5, .faddr 0 (.v 2), none, []⟩, ⟨some 6, .load1 (.v 5), none, [5]⟩, ⟨some 7, .mv (.v 1), none, [1]⟩, ⟨some 8, .call 17 [.v 6, .v 7], none, [6, 7]⟩, ⟨some 1, .mv (.v 8), none, [8]⟩] [1, 2]) (.seq (.seq (.rg [⟨some 9, .mv (.v 1), none, []⟩, ⟨some 10, .bin .lss (.v 9) (.c (.int .i64 0)), none, [9]⟩] [1, 2, 10]) (.cond (.v 10) (.seq (.rg [⟨some 4, .mv (.c (.int .i64 (-1))), none, []⟩] [4]) .ret) .skip)) (.seq (.rg [⟨some 11, .faddr 1 (.v 2), none, [2]⟩, ⟨some 12, .load1 (.v 11), none, [11]⟩, ⟨some 13, .mv (.v 1), none, [1]⟩, ⟨some 14, .call 18 [.v 12, .v 13], none, [12, 13]⟩, ⟨some 1, .mv (.v 14), none, [14]⟩] [1]) (.seq (.seq (.rg [⟨some 15, .mv (.v 1), none, []⟩, ⟨some 16, .bin .lss (.v 15) (.c (.int .i64 0)), none, [15]⟩] [1, 16]) (.cond (.v 16) (.seq (.rg [⟨some 4, .mv (.c (.int .i64 (-1))), none, []⟩] [4]) .ret) .skip)) (.seq (.rg [⟨some 17, .mv (.v 1), none, [1]⟩, ⟨some 4, .mv (.v 17), none, [17]⟩] [4]) .ret)))))) }
theorem k_laws_szPlanBase : okFun Go.Proofs.Try.prog 4 s_laws_szPlanBase = true := by kernel_rfl
def l_laws_szStringS_0 : SCode := (.seq (.seq (.rg [⟨some 12, .mv (.v 5), none, []⟩, ⟨some 13, .mv (.v 0), none, []⟩, ⟨some 14, .lenL (.v 13), none, [13]⟩, ⟨some 15, .bin .lss (.v 12) (.v 14), none, [12, 14]⟩] [0, 1, 5, 15]) (.cond (.v 15) .skip (.exit 0))) (.seq (.block 1 (.seq (.rg [⟨some 18, .mv (.v 1), none, [1]⟩, ⟨some 19, .mv (.v 0), none, []⟩, ⟨some 20, .mv (.v 5), none, []⟩, ⟨some 21, .iaddr 1 (.v 19) (.v 20), none, [19, 20]⟩, ⟨some 22, .load1 (.v 21), none, [21]⟩, ⟨some 23, .lenS (.v 22), none, [22]⟩, ⟨some 24, .binN .sub (.v 18) (.v 23), none, [18, 23]⟩, ⟨some 1, .mv (.v 24), none, [24]⟩] [0, 1, 5]) (.seq (.rg [⟨some 25, .mv (.v 1), none, []⟩, ⟨some 26, .bin .lss (.v 25) (.c (.int .i64 0)), none, [25]⟩] [0, 1, 5, 26]) (.cond (.v 26) (.seq (.rg [⟨some 4, .mv (.c (.int .i64 (-1))), none, []⟩] [4]) .ret) .skip)))) (.rg [⟨some 16, .mv (.v 5), none, [5]⟩, ⟨some 17, .binN .add (.v 16) (.c (.int .i64 1)), none, [16]⟩, ⟨some 5, .mv (.v 17), none, [17]⟩] [0, 1, 5])))
/-- laws.szStringS: function 5 -/
def s_laws_szStringS : SFun := { n := 28, res := [.t 4], body := (.seq (.rg [⟨some 4, .mv (.c (.int .i64 0)), none, [4]⟩] [0, 1]) (.seq (.rg [⟨some 6, .mv (.v 1), none, [1]⟩, ⟨some 7, .mv (.v 0), none, []⟩, ⟨some 8, .lenL (.v 7), none, [7]⟩, ⟨some 9, .binN .sub (.v 6) (.v 8), none, [6, 8]⟩, ⟨some 1, .mv (.v 9), none, [9]⟩] [0, 1]) (.seq (.seq (.rg [⟨some 10, .mv (.v 1), none, []⟩, ⟨some 11, .bin .lss (.v 10) (.c (.int .i64 0)), none, [10]⟩] [0, 1, 11]) (.cond (.v 11) (.seq (.rg [⟨some 4, .mv (.c (.int .i64 (-1))), none, []⟩] [4]) .ret) .skip)) (.seq (.seq (.rg [⟨some 5, .mv (.c (.int .i64 0)), none, []⟩] [0, 1, 5]) (.block 0 (.loop l_laws_szStringS_0))) (.seq (.rg [⟨some 27, .mv (.v 1), none, [1]⟩, ⟨some 4, .mv (.v 27), none, [27]⟩] [4]) .ret))))) }
theorem k_laws_szStringS : okFun Go.Proofs.Try.prog 5 s_laws_szStringS = true := by kernel_rfl
def l_spec_PlanCells_0 : SCode := (.seq (.seq (.rg [⟨some 27, .mv (.v 7), none, []⟩, ⟨some 28, .mv (.v 1), none, []⟩, ⟨some 29, .lenL (.v 28), none, [28]⟩, ⟨some 30, .bin .lss (.v 27) (.v 29), none, [27, 29]⟩] [1, 2, 6, 7, 30]) (.cond (.v 30) .skip (.exit 0))) (.seq (.block 1 (.rgd [⟨some 33, .mv (.v 6), none, []⟩, ⟨some 34, .loadN 2 (.v 2), none, []⟩, ⟨some 35, .mv (.v 1), none, []⟩, ⟨some 36, .mv (.v 7), none, []⟩, ⟨some 37, .binN .sub (.v 36) (.c (.int .i64 1)), none, []⟩, ⟨some 38, .iaddr 1 (.v 35) (.v 37), none, []⟩, ⟨some 39, .load1 (.v 38), none, []⟩, ⟨some 40, .call 21 [.v 34, .v 39], none, []⟩, ⟨some 41, .loadN 2 (.v 2), none, []⟩, ⟨some 42, .mv (.v 1), none, []⟩, ⟨some 43, .mv (.v 7), none, []⟩, ⟨some 44, .iaddr 1 (.v 42) (.v 43), none, []⟩, ⟨some 45, .load1 (.v 44), none, []⟩, ⟨some 46, .call 21 [.v 41, .v 45], none, []⟩, ⟨some 47, .call 22 [.v 40, .v 46], none, []⟩, ⟨some 48, .slSl 2 (.v 47) (some (.c (.int .i64 1))) none, none, []⟩, ⟨some 49, .app 108 49 2 (.v 33) (.v 48), none, []⟩, ⟨some 6, .mv (.v 49), none, []⟩] [1, 2, 6, 7] [none, none, none, none, none, none, none, some [], some [0], none, none, some [3], some [4], none, none, none, none, none])) (.rg [⟨some 31, .mv (.v 7), none, [7]⟩, ⟨some 32, .binN .add (.v 31) (.c (.int .i64 1)), none, [31]⟩, ⟨some 7, .mv (.v 32), none, [32]⟩] [1, 2, 6, 7])))
/-- spec.PlanCells: function 6 -/
def s_spec_PlanCells : SFun := { n := 55, res := [.t 4, .t 5], body := (.seq (.rg [⟨some 2, .box 102 (.v 0), none, [0]⟩, ⟨some 4, .mv (.c (.sl 0 2 [])), none, [4]⟩, ⟨some 5, .mv (.c (.bool false)), none, [5]⟩] [1, 2]) (.seq (.rg [⟨some 8, .litOwn 108 49 2 [], none, []⟩, ⟨some 6, .mv (.v 8), none, [8]⟩] [1, 2, 6]) (.seq (.seq (.rg [⟨some 9, .loadN 2 (.v 2), none, []⟩, ⟨some 10, .call 19 [.v 9], none, [9]⟩, ⟨some 11, .not (.v 10), none, [10]⟩, ⟨some 12, .mv (.v 11), none, [11]⟩, ⟨some 13, .loadN 2 (.v 2), some (12, false), []⟩, ⟨some 14, .mv (.v 1), some (12, false), []⟩, ⟨some 15, .call 20 [.v 13, .v 14], some (12, false), [13, 14]⟩, ⟨some 16, .not (.v 15), some (12, false), [15]⟩, ⟨some 17, .pick (.v 12) (.c (.bool true)) (.v 16), none, [12, 16]⟩] [1, 2, 6, 17]) (.cond (.v 17) (.seq (.rg [⟨some 18, .mv (.v 6), none, [6]⟩, ⟨some 4, .mv (.v 18), none, [18]⟩, ⟨some 5, .mv (.c (.bool false)), none, []⟩] [4, 5]) (.gh (.frzE 4) .ret)) .skip)) (.seq (.rgd [⟨some 19, .mv (.v 6), none, []⟩, ⟨some 20, .loadN 2 (.v 2), none, []⟩, ⟨some 21, .mv (.v 1), none, []⟩, ⟨some 22, .iaddr 1 (.v 21) (.c (.int .i64 0)), none, []⟩, ⟨some 23, .load1 (.v 22), none, []⟩, ⟨some 24, .call 21 [.v 20, .v 23], none, []⟩, ⟨some 25, .lit 49 2 [.v 24], none, []⟩, ⟨some 26, .app 108 49 2 (.v 19) (.v 25), none, []⟩, ⟨some 6, .mv (.v 26), none, []⟩] [1, 2, 6] [none, none, none, none, none, none, none, none, none]) (.seq (.seq (.rg [⟨some 7, .mv (.c (.int .i64 1)), none, []⟩] [1, 2, 6, 7]) (.block 0 (.loop l_spec_PlanCells_0))) (.seq (.seq (.rg [⟨some 50, .mv (.v 6), none, []⟩, ⟨some 51, .lenL (.v 50), none, [50]⟩, ⟨some 52, .bin .gtr (.v 51) (.c (.int .i64 40)), none, [51]⟩] [6, 52]) (.cond (.v 52) (.seq (.rg [⟨some 53, .lit 49 2 [], none, []⟩, ⟨some 4, .mv (.v 53), none, [53]⟩, ⟨some 5, .mv (.c (.bool false)), none, []⟩] [4, 5]) (.gh (.frzE 4) .ret)) .skip)) (.seq (.rg [⟨some 54, .mv (.v 6), none, [6]⟩, ⟨some 4, .mv (.v 54), none, [54]⟩, ⟨some 5, .mv (.c (.bool true)), none, []⟩] [4, 5]) (.gh (.frzE 4) .ret)))))))) }
theorem k_spec_PlanCells : okFun Go.Proofs.Try.prog 6 s_spec_PlanCells = true := by kernel_rfl
/-- laws.toPlanBase: function 7 -/
def s_laws_toPlanBase : SFun := { n := 13, res := [.cN 2 2], body := (.seq (.rg [⟨some 1, .box 101 (.v 0), none, [0]⟩, ⟨some 2, .alloc 102 [.sl 0 3 [], .sl 0 3 []], none, []⟩] [1, 2]) (.seq (.rg [⟨some 3, .alloc 103 [.sl 0 3 [], .sl 0 3 []], none, []⟩] [1, 2, 3]) (.seq (.rg [⟨some 4, .faddr 0 (.v 1), none, []⟩, ⟨some 5, .load1 (.v 4), none, [4]⟩, ⟨some 6, .call 23 [.v 5], none, [5]⟩, ⟨some 7, .faddr 0 (.v 3), none, []⟩, ⟨none, .store 1 (.v 7) (.v 6), none, [6, 7]⟩] [1, 2, 3]) (.seq (.rg [⟨some 8, .faddr 1 (.v 1), none, [1]⟩, ⟨some 9, .load1 (.v 8), none, [8]⟩, ⟨some 10, .call 24 [.v 9], none, [9]⟩, ⟨some 11, .faddr 1 (.v 3), none, []⟩, ⟨none, .store 1 (.v 11) (.v 10), none, [10, 11]⟩] [2, 3]) (.seq (.rg [⟨some 12, .loadN 2 (.v 3), none, [3]⟩, ⟨none, .store 2 (.v 2) (.v 12), none, [12]⟩] [2]) .ret))))) }
theorem k_laws_toPlanBase : okFun Go.Proofs.Try.prog 7 s_laws_toPlanBase = true := by kernel_rfl
def l_laws_toStringS_0 : SCode := (.seq (.seq (.rg [⟨some 8, .mv (.v 4), none, []⟩, ⟨some 9, .mv (.v 0), none, []⟩, ⟨some 10, .lenL (.v 9), none, [9]⟩, ⟨some 11, .bin .lss (.v 8) (.v 10), none, [8, 10]⟩] [0, 3, 4, 11]) (.cond (.v 11) .skip (.exit 0))) (.seq (.block 1 (.rg [⟨some 14, .mv (.v 3), none, []⟩, ⟨some 15, .mv (.v 4), none, []⟩, ⟨some 16, .mv (.v 0), none, []⟩, ⟨some 17, .mv (.v 4), none, []⟩, ⟨some 18, .iaddr 1 (.v 16) (.v 17), none, [16, 17]⟩, ⟨some 19, .load1 (.v 18), none, [18]⟩, ⟨some 20, .iaddr 1 (.v 14) (.v 15), none, [14, 15]⟩, ⟨none, .store 1 (.v 20) (.v 19), none, [19, 20]⟩] [0, 3, 4])) (.rg [⟨some 12, .mv (.v 4), none, [4]⟩, ⟨some 13, .binN .add (.v 12) (.c (.int .i64 1)), none, [12]⟩, ⟨some 4, .mv (.v 13), none, [13]⟩] [0, 3, 4])))
/-- laws.toStringS: function 8 -/
def s_laws_toStringS : SFun := { n := 22, res := [.t 2], body := (.seq (.rg [⟨some 2, .mv (.c (.sl 0 1 [])), none, [2]⟩] [0]) (.seq (.rg [⟨some 5, .mv (.v 0), none, []⟩, ⟨some 6, .lenL (.v 5), none, [5]⟩, ⟨some 7, .mk 107 9 1 [.str ⟨#[]⟩] (.v 6), none, [6]⟩, ⟨some 3, .mv (.v 7), none, [7]⟩] [0, 3]) (.seq (.seq (.rg [⟨some 4, .mv (.c (.int .i64 0)), none, []⟩] [0, 3, 4]) (.block 0 (.loop l_laws_toStringS_0))) (.seq (.rg [⟨some 21, .mv (.v 3), none, [3]⟩, ⟨some 2, .mv (.v 21), none, [21]⟩] [2]) (.gh (.frzE 2) .ret))))) }
theorem k_laws_toStringS : okFun Go.Proofs.Try.prog 8 s_laws_toStringS = true := by kernel_rfl
def l_laws_eqPlanCellS_0 : SCode := (.seq (.seq (.rg [⟨some 11, .mv (.v 5), none, []⟩, ⟨some 12, .mv (.v 0), none, []⟩, ⟨some 13, .lenL (.v 12), none, [12]⟩, ⟨some 14, .bin .lss (.v 11) (.v 13), none, [11, 13]⟩] [0, 1, 5, 14]) (.cond (.v 14) .skip (.exit 0))) (.seq (.block 1 (.seq (.rgd [⟨some 17, .mv (.v 0), none, []⟩, ⟨some 18, .mv (.v 5), none, []⟩, ⟨some 19, .iaddr 2 (.v 17) (.v 18), none, []⟩, ⟨some 20, .loadN 2 (.v 19), none, []⟩, ⟨some 21, .mv (.v 1), none, []⟩, ⟨some 22, .mv (.v 5), none, []⟩, ⟨some 23, .iaddr 2 (.v 21) (.v 22), none, []⟩, ⟨some 24, .loadN 2 (.v 23), none, []⟩, ⟨some 25, .call 28 [.v 20, .v 24], none, []⟩, ⟨some 26, .not (.v 25), none, []⟩] [0, 1, 5, 26] [none, none, none, none, none, none, none, none, none, none]) (.cond (.v 26) (.seq (.rg [⟨some 4, .mv (.c (.bool false)), none, []⟩] [4]) .ret) .skip))) (.rg [⟨some 15, .mv (.v 5), none, [5]⟩, ⟨some 16, .binN .add (.v 15) (.c (.int .i64 1)), none, [15]⟩, ⟨some 5, .mv (.v 16), none, [16]⟩] [0, 1, 5])))
/-- laws.eqPlanCellS: function 10 -/
def s_laws_eqPlanCellS : SFun := { n := 27, res := [.t 4], body := (.seq (.rg [⟨some 4, .mv (.c (.bool false)), none, [4]⟩] [0, 1]) (.seq (.seq (.rg [⟨some 6, .mv (.v 0), none, []⟩, ⟨some 7, .lenL (.v 6), none, [6]⟩, ⟨some 8, .mv (.v 1), none, []⟩, ⟨some 9, .lenL (.v 8), none, [8]⟩, ⟨some 10, .bin .neq (.v 7) (.v 9), none, [7, 9]⟩] [0, 1, 10]) (.cond (.v 10) (.seq (.rg [⟨some 4, .mv (.c (.bool false)), none, []⟩] [4]) .ret) .skip)) (.seq (.seq (.rg [⟨some 5, .mv (.c (.int .i64 0)), none, []⟩] [0, 1, 5]) (.block 0 (.loop l_laws_eqPlanCellS_0))) (.seq (.rg [⟨some 4, .mv (.c (.bool true)), none, []⟩] [4]) .ret)))) }
theorem k_laws_eqPlanCellS : okFun Go.Proofs.Try.prog 10 s_laws_eqPlanCellS = true := by kernel_rfl
/-- laws.eqPlanBase: function 11 -/
def s_laws_eqPlanBase : SFun := { n := 17, res := [.t 4], body := (.seq (.rg [⟨some 2, .box 102 (.v 0), none, [0]⟩, ⟨some 3, .box 103 (.v 1), none, [1]⟩, ⟨some 4, .mv (.c (.bool false)), none, [4]⟩] [2, 3]) (.seq (.seq (.rg [⟨some 5, .faddr 0 (.v 2), none, []⟩, ⟨some 6, .load1 (.v 5), none, [5]⟩, ⟨some 7, .faddr 0 (.v 3), none, []⟩, ⟨some 8, .load1 (.v 7), none, [7]⟩, ⟨some 9, .call 29 [.v 6, .v 8], none, [6, 8]⟩, ⟨some 10, .not (.v 9), none, [9]⟩] [2, 3, 10]) (.cond (.v 10) (.seq (.rg [⟨some 4, .mv (.c (.bool false)), none, []⟩] [4]) .ret) .skip)) (.seq (.seq (.rg [⟨some 11, .faddr 1 (.v 2), none, [2]⟩, ⟨some 12, .load1 (.v 11), none, [11]⟩, ⟨some 13, .faddr 1 (.v 3), none, [3]⟩, ⟨some 14, .load1 (.v 13), none, [13]⟩, ⟨some 15, .call 30 [.v 12, .v 14], none, [12, 14]⟩, ⟨some 16, .not (.v 15), none, [15]⟩] [16]) (.cond (.v 16) (.seq (.rg [⟨some 4, .mv (.c (.bool false)), none, []⟩] [4]) .ret) .skip)) (.seq (.rg [⟨some 4, .mv (.c (.bool true)), none, []⟩] [4]) .ret)))) }
theorem k_laws_eqPlanBase : okFun Go.Proofs.Try.prog 11 s_laws_eqPlanBase = true := by kernel_rfl
def l_laws_eqStringS_0 : SCode := (.seq (.seq (.rg [⟨some 11, .mv (.v 5), none, []⟩, ⟨some 12, .mv (.v 0), none, []⟩, ⟨some 13, .lenL (.v 12), none, [12]⟩, ⟨some 14, .bin .lss (.v 11) (.v 13), none, [11, 13]⟩] [0, 1, 5, 14]) (.cond (.v 14) .skip (.exit 0))) (.seq (.block 1 (.seq (.rgd [⟨some 17, .mv (.v 0), none, []⟩, ⟨some 18, .mv (.v 5), none, []⟩, ⟨some 19, .iaddr 1 (.v 17) (.v 18), none, []⟩, ⟨some 20, .load1 (.v 19), none, []⟩, ⟨some 21, .mv (.v 1), none, []⟩, ⟨some 22, .mv (.v 5), none, []⟩, ⟨some 23, .iaddr 1 (.v 21) (.v 22), none, []⟩, ⟨some 24, .load1 (.v 23), none, []⟩, ⟨some 25, .bin .neq (.v 20) (.v 24), none, []⟩] [0, 1, 5, 25] [none, none, none, none, none, none, none, none, none]) (.cond (.v 25) (.seq (.rg [⟨some 4, .mv (.c (.bool false)), none, []⟩] [4]) .ret) .skip))) (.rg [⟨some 15, .mv (.v 5), none, [5]⟩, ⟨some 16, .binN .add (.v 15) (.c (.int .i64 1)), none, [15]⟩, ⟨some 5, .mv (.v 16), none, [16]⟩] [0, 1, 5])))
/-- laws.eqStringS: function 12 -/
def s_laws_eqStringS : SFun := { n := 26, res := [.t 4], body := (.seq (.rg [⟨some 4, .mv (.c (.bool false)), none, [4]⟩] [0, 1]) (.seq (.seq (.rg [⟨some 6, .mv (.v 0), none, []⟩, ⟨some 7, .lenL (.v 6), none, [6]⟩, ⟨some 8, .mv (.v 1), none, []⟩, ⟨some 9, .lenL (.v 8), none, [8]⟩, ⟨some 10, .bin .neq (.v 7) (.v 9), none, [7, 9]⟩] [0, 1, 10]) (.cond (.v 10) (.seq (.rg [⟨some 4, .mv (.c (.bool false)), none, []⟩] [4]) .ret) .skip)) (.seq (.seq (.rg [⟨some 5, .mv (.c (.int .i64 0)), none, []⟩] [0, 1, 5]) (.block 0 (.loop l_laws_eqStringS_0))) (.seq (.rg [⟨some 4, .mv (.c (.bool true)), none, []⟩] [4]) .ret)))) }
theorem k_laws_eqStringS : okFun Go.Proofs.Try.prog 12 s_laws_eqStringS = true := by kernel_rfl
/-- laws.markPlanBase: function 13 -/
def s_laws_markPlanBase : SFun := { n := 14, res := [.t 4], body := (.seq (.rg [⟨some 2, .box 102 (.v 0), none, [0]⟩, ⟨some 4, .mv (.c (.int .i64 0)), none, [4]⟩] [1, 2]) (.seq (.rg [⟨some 5, .faddr 0 (.v 2), none, []⟩, ⟨some 6, .load1 (.v 5), none, [5]⟩, ⟨some 7, .mv (.v 1), none, [1]⟩, ⟨some 8, .call 31 [.v 6, .v 7], none, [6, 7]⟩, ⟨some 1, .mv (.v 8), none, [8]⟩] [1, 2]) (.seq (.rg [⟨some 9, .faddr 1 (.v 2), none, [2]⟩, ⟨some 10, .load1 (.v 9), none, [9]⟩, ⟨some 11, .mv (.v 1), none, [1]⟩, ⟨some 12, .call 32 [.v 10, .v 11], none, [10, 11]⟩, ⟨some 1, .mv (.v 12), none, [12]⟩] [1]) (.seq (.rg [⟨some 13, .mv (.v 1), none, [1]⟩, ⟨some 4, .mv (.v 13), none, [13]⟩] [4]) .ret)))) }
theorem k_laws_markPlanBase : okFun Go.Proofs.Try.prog 13 s_laws_markPlanBase = true := by kernel_rfl
def l_laws_markStringS_0 : SCode := (.seq (.seq (.rg [⟨some 6, .mv (.v 5), none, []⟩, ⟨some 7, .mv (.v 0), none, []⟩, ⟨some 8, .lenL (.v 7), none, [7]⟩, ⟨some 9, .bin .lss (.v 6) (.v 8), none, [6, 8]⟩] [0, 1, 5, 9]) (.cond (.v 9) .skip (.exit 0))) (.seq (.block 1 (.seq (.rg [⟨some 12, .mv (.v 0), none, []⟩, ⟨some 13, .mv (.v 5), none, []⟩, ⟨some 14, .mv (.v 1), none, []⟩, ⟨some 15, .call 33 [.v 14], none, [14]⟩, ⟨some 16, .iaddr 1 (.v 12) (.v 13), none, [12, 13]⟩, ⟨none, .store 1 (.v 16) (.v 15), none, [15, 16]⟩] [0, 1, 5]) (.rg [⟨some 17, .mv (.v 1), none, [1]⟩, ⟨some 18, .binN .add (.v 17) (.c (.int .i64 1)), none, [17]⟩, ⟨some 1, .mv (.v 18), none, [18]⟩] [0, 1, 5]))) (.rg [⟨some 10, .mv (.v 5), none, [5]⟩, ⟨some 11, .binN .add (.v 10) (.c (.int .i64 1)), none, [10]⟩, ⟨some 5, .mv (.v 11), none, [11]⟩] [0, 1, 5])))
/-- laws.markStringS: function 14 -/
def s_laws_markStringS : SFun := { n := 20, res := [.t 4], body := (.seq (.rg [⟨some 4, .mv (.c (.int .i64 0)), none, [4]⟩] [0, 1]) (.seq (.seq (.rg [⟨some 5, .mv (.c (.int .i64 0)), none, []⟩] [0, 1, 5]) (.block 0 (.loop l_laws_markStringS_0))) (.seq (.rg [⟨some 19, .mv (.v 1), none, [1]⟩, ⟨some 4, .mv (.v 19), none, [19]⟩] [4]) .ret))) }
theorem k_laws_markStringS : okFun Go.Proofs.Try.prog 14 s_laws_markStringS = true := by kernel_rfl
def l_laws_markPlanCellS_0 : SCode := (.seq (.seq (.rg [⟨some 6, .mv (.v 5), none, []⟩, ⟨some 7, .mv (.v 0), none, []⟩, ⟨some 8, .lenL (.v 7), none, [7]⟩, ⟨some 9, .bin .lss (.v 6) (.v 8), none, [6, 8]⟩] [0, 1, 5, 9]) (.cond (.v 9) .skip (.exit 0))) (.seq (.block 1 (.seq (.rg [⟨some 12, .mv (.v 0), none, []⟩, ⟨some 13, .mv (.v 5), none, []⟩, ⟨some 14, .mv (.v 1), none, []⟩, ⟨some 15, .iaddr 2 (.v 12) (.v 13), none, [12, 13]⟩, ⟨some 16, .faddr 0 (.v 15), none, [15]⟩, ⟨none, .store 1 (.v 16) (.v 14), none, [14, 16]⟩] [0, 1, 5]) (.seq (.rg [⟨some 17, .mv (.v 1), none, [1]⟩, ⟨some 18, .binN .add (.v 17) (.c (.int .i64 1)), none, [17]⟩, ⟨some 1, .mv (.v 18), none, [18]⟩] [0, 1, 5]) (.seq (.rg [⟨some 19, .mv (.v 0), none, []⟩, ⟨some 20, .mv (.v 5), none, []⟩, ⟨some 21, .mv (.v 1), none, []⟩, ⟨some 22, .iaddr 2 (.v 19) (.v 20), none, [19, 20]⟩, ⟨some 23, .faddr 1 (.v 22), none, [22]⟩, ⟨none, .store 1 (.v 23) (.v 21), none, [21, 23]⟩] [0, 1, 5]) (.rg [⟨some 24, .mv (.v 1), none, [1]⟩, ⟨some 25, .binN .add (.v 24) (.c (.int .i64 1)), none, [24]⟩, ⟨some 1, .mv (.v 25), none, [25]⟩] [0, 1, 5]))))) (.rg [⟨some 10, .mv (.v 5), none, [5]⟩, ⟨some 11, .binN .add (.v 10) (.c (.int .i64 1)), none, [10]⟩, ⟨some 5, .mv (.v 11), none, [11]⟩] [0, 1, 5])))
/-- laws.markPlanCellS: function 15 -/
def s_laws_markPlanCellS : SFun := { n := 27, res := [.t 4], body := (.seq (.rg [⟨some 4, .mv (.c (.int .i64 0)), none, [4]⟩] [0, 1]) (.seq (.seq (.rg [⟨some 5, .mv (.c (.int .i64 0)), none, []⟩] [0, 1, 5]) (.block 0 (.loop l_laws_markPlanCellS_0))) (.seq (.rg [⟨some 26, .mv (.v 1), none, [1]⟩, ⟨some 4, .mv (.v 26), none, [26]⟩] [4]) .ret))) }
theorem k_laws_markPlanCellS : okFun Go.Proofs.Try.prog 15 s_laws_markPlanCellS = true := by kernel_rfl
def l_laws_heldPlanCellS_0 : SCode := (.seq (.seq (.rg [⟨some 6, .mv (.v 5), none, []⟩, ⟨some 7, .mv (.v 0), none, []⟩, ⟨some 8, .lenL (.v 7), none, [7]⟩, ⟨some 9, .bin .lss (.v 6) (.v 8), none, [6, 8]⟩] [0, 1, 5, 9]) (.cond (.v 9) .skip (.exit 0))) (.seq (.block 1 (.seq (.seq (.rg [⟨some 12, .mv (.v 0), none, []⟩, ⟨some 13, .mv (.v 5), none, []⟩, ⟨some 14, .iaddr 2 (.v 12) (.v 13), none, [12, 13]⟩, ⟨some 15, .faddr 0 (.v 14), none, [14]⟩, ⟨some 16, .load1 (.v 15), none, [15]⟩, ⟨some 17, .mv (.v 1), none, []⟩, ⟨some 18, .bin .neq (.v 16) (.v 17), none, [16, 17]⟩] [0, 1, 5, 18]) (.cond (.v 18) (.seq (.rg [⟨some 4, .mv (.c (.int .i64 (-1))), none, []⟩] [4]) .ret) .skip)) (.seq (.rg [⟨some 19, .mv (.v 1), none, [1]⟩, ⟨some 20, .binN .add (.v 19) (.c (.int .i64 1)), none, [19]⟩, ⟨some 1, .mv (.v 20), none, [20]⟩] [0, 1, 5]) (.seq (.seq (.rg [⟨some 21, .mv (.v 0), none, []⟩, ⟨some 22, .mv (.v 5), none, []⟩, ⟨some 23, .iaddr 2 (.v 21) (.v 22), none, [21, 22]⟩, ⟨some 24, .faddr 1 (.v 23), none, [23]⟩, ⟨some 25, .load1 (.v 24), none, [24]⟩, ⟨some 26, .mv (.v 1), none, []⟩, ⟨some 27, .bin .neq (.v 25) (.v 26), none, [25, 26]⟩] [0, 1, 5, 27]) (.cond (.v 27) (.seq (.rg [⟨some 4, .mv (.c (.int .i64 (-1))), none, []⟩] [4]) .ret) .skip)) (.rg [⟨some 28, .mv (.v 1), none, [1]⟩, ⟨some 29, .binN .add (.v 28) (.c (.int .i64 1)), none, [28]⟩, ⟨some 1, .mv (.v 29), none, [29]⟩] [0, 1, 5]))))) (.rg [⟨some 10, .mv (.v 5), none, [5]⟩, ⟨some 11, .binN .add (.v 10) (.c (.int .i64 1)), none, [10]⟩, ⟨some 5, .mv (.v 11), none, [11]⟩] [0, 1, 5])))
/-- laws.heldPlanCellS: function 16 -/
def s_laws_heldPlanCellS : SFun := { n := 31, res := [.t 4], body := (.seq (.rg [⟨some 4, .mv (.c (.int .i64 0)), none, [4]⟩] [0, 1]) (.seq (.seq (.rg [⟨some 5, .mv (.c (.int .i64 0)), none, []⟩] [0, 1, 5]) (.block 0 (.loop l_laws_heldPlanCellS_0))) (.seq (.rg [⟨some 30, .mv (.v 1), none, [1]⟩, ⟨some 4, .mv (.v 30), none, [30]⟩] [4]) .ret))) }
theorem k_laws_heldPlanCellS : okFun Go.Proofs.Try.prog 16 s_laws_heldPlanCellS = true := by kernel_rfl
def l_laws_szPlanKindS_0 : SCode := (.seq (.seq (.rg [⟨some 12, .mv (.v 5), none, []⟩, ⟨some 13, .mv (.v 0), none, []⟩, ⟨some 14, .lenL (.v 13), none, [13]⟩, ⟨some 15, .bin .lss (.v 12) (.v 14), none, [12, 14]⟩] [0, 1, 5, 15]) (.cond (.v 15) .skip (.exit 0))) (.seq (.block 1 (.seq (.rg [⟨some 18, .mv (.v 0), none, []⟩, ⟨some 19, .mv (.v 5), none, []⟩, ⟨some 20, .iaddr 3 (.v 18) (.v 19), none, [18, 19]⟩, ⟨some 21, .loadN 3 (.v 20), none, [20]⟩, ⟨some 22, .mv (.v 1), none, [1]⟩, ⟨some 23, .call 34 [.v 21, .v 22], none, [21, 22]⟩, ⟨some 1, .mv (.v 23), none, [23]⟩] [0, 1, 5]) (.seq (.rg [⟨some 24, .mv (.v 1), none, []⟩, ⟨some 25, .bin .lss (.v 24) (.c (.int .i64 0)), none, [24]⟩] [0, 1, 5, 25]) (.cond (.v 25) (.seq (.rg [⟨some 4, .mv (.c (.int .i64 (-1))), none, []⟩] [4]) .ret) .skip)))) (.rg [⟨some 16, .mv (.v 5), none, [5]⟩, ⟨some 17, .binN .add (.v 16) (.c (.int .i64 1)), none, [16]⟩, ⟨some 5, .mv (.v 17), none, [17]⟩] [0, 1, 5])))
/-- laws.szPlanKindS: function 17 -/
def s_laws_szPlanKindS : SFun := { n := 27, res := [.t 4], body := (.seq (.rg [⟨some 4, .mv (.c (.int .i64 0)), none, [4]⟩] [0, 1]) (.seq (.rg [⟨some 6, .mv (.v 1), none, [1]⟩, ⟨some 7, .mv (.v 0), none, []⟩, ⟨some 8, .lenL (.v 7), none, [7]⟩, ⟨some 9, .binN .sub (.v 6) (.v 8), none, [6, 8]⟩, ⟨some 1, .mv (.v 9), none, [9]⟩] [0, 1]) (.seq (.seq (.rg [⟨some 10, .mv (.v 1), none, []⟩, ⟨some 11, .bin .lss (.v 10) (.c (.int .i64 0)), none, [10]⟩] [0, 1, 11]) (.cond (.v 11) (.seq (.rg [⟨some 4, .mv (.c (.int .i64 (-1))), none, []⟩] [4]) .ret) .skip)) (.seq (.seq (.rg [⟨some 5, .mv (.c (.int .i64 0)), none, []⟩] [0, 1, 5]) (.block 0 (.loop l_laws_szPlanKindS_0))) (.seq (.rg [⟨some 26, .mv (.v 1), none, [1]⟩, ⟨some 4, .mv (.v 26), none, [26]⟩] [4]) .ret))))) }
theorem k_laws_szPlanKindS : okFun Go.Proofs.Try.prog 17 s_laws_szPlanKindS = true := by kernel_rfl
def l_laws_szPlanPointS_0 : SCode := (.seq (.seq (.rg [⟨some 12, .mv (.v 5), none, []⟩, ⟨some 13, .mv (.v 0), none, []⟩, ⟨some 14, .lenL (.v 13), none, [13]⟩, ⟨some 15, .bin .lss (.v 12) (.v 14), none, [12, 14]⟩] [0, 1, 5, 15]) (.cond (.v 15) .skip (.exit 0))) (.seq (.block 1 (.seq (.rg [⟨some 18, .mv (.v 0), none, []⟩, ⟨some 19, .mv (.v 5), none, []⟩, ⟨some 20, .iaddr 3 (.v 18) (.v 19), none, [18, 19]⟩, ⟨some 21, .loadN 3 (.v 20), none, [20]⟩, ⟨some 22, .mv (.v 1), none, [1]⟩, ⟨some 23, .call 35 [.v 21, .v 22], none, [21, 22]⟩, ⟨some 1, .mv (.v 23), none, [23]⟩] [0, 1, 5]) (.seq (.rg [⟨some 24, .mv (.v 1), none, []⟩, ⟨some 25, .bin .lss (.v 24) (.c (.int .i64 0)), none, [24]⟩] [0, 1, 5, 25]) (.cond (.v 25) (.seq (.rg [⟨some 4, .mv (.c (.int .i64 (-1))), none, []⟩] [4]) .ret) .skip)))) (.rg [⟨some 16, .mv (.v 5), none, [5]⟩, ⟨some 17, .binN .add (.v 16) (.c (.int .i64 1)), none, [16]⟩, ⟨some 5, .mv (.v 17), none, [17]⟩] [0, 1, 5])))
/-- laws.szPlanPointS: function 18 -/
def s_laws_szPlanPointS : SFun := { n := 27, res := [.t 4], body := (.seq (.rg [⟨some 4, .mv (.c (.int .i64 0)), none, [4]⟩] [0, 1]) (.seq (.rg [⟨some 6, .mv (.v 1), none, [1]⟩, ⟨some 7, .mv (.v 0), none, []⟩, ⟨some 8, .lenL (.v 7), none, [7]⟩, ⟨some 9, .binN .sub (.v 6) (.v 8), none, [6, 8]⟩, ⟨some 1, .mv (.v 9), none, [9]⟩] [0, 1]) (.seq (.seq (.rg [⟨some 10, .mv (.v 1), none, []⟩, ⟨some 11, .bin .lss (.v 10) (.c (.int .i64 0)), none, [10]⟩] [0, 1, 11]) (.cond (.v 11) (.seq (.rg [⟨some 4, .mv (.c (.int .i64 (-1))), none, []⟩] [4]) .ret) .skip)) (.seq (.seq (.rg [⟨some 5, .mv (.c (.int .i64 0)), none, []⟩] [0, 1, 5]) (.block 0 (.loop l_laws_szPlanPointS_0))) (.seq (.rg [⟨some 26, .mv (.v 1), none, [1]⟩, ⟨some 4, .mv (.v 26), none, [26]⟩] [4]) .ret))))) }
theorem k_laws_szPlanPointS : okFun Go.Proofs.Try.prog 18 s_laws_szPlanPointS = true := by kernel_rfl
def l_spec_PlanBaseOk_0 : SCode := (.seq (.seq (.rg [⟨some 16, .mv (.v 3), none, []⟩, ⟨some 17, .faddr 0 (.v 1), none, []⟩, ⟨some 18, .load1 (.v 17), none, [17]⟩, ⟨some 19, .lenL (.v 18), none, [18]⟩, ⟨some 20, .bin .lss (.v 16) (.v 19), none, [16, 19]⟩] [1, 3, 20]) (.cond (.v 20) .skip (.exit 0))) (.seq (.block 1 (.seq (.rgd [⟨some 23, .faddr 0 (.v 1), none, []⟩, ⟨some 24, .load1 (.v 23), none, []⟩, ⟨some 25, .mv (.v 3), none, []⟩, ⟨some 26, .iaddr 3 (.v 24) (.v 25), none, []⟩, ⟨some 27, .loadN 3 (.v 26), none, []⟩, ⟨some 28, .call 36 [.v 27], none, []⟩, ⟨some 29, .not (.v 28), none, []⟩, ⟨some 30, .mv (.v 29), none, []⟩, ⟨some 31, .mv (.v 3), some (30, false), []⟩, ⟨some 32, .bin .gtr (.v 31) (.c (.int .i64 0)), some (30, false), []⟩, ⟨some 33, .mv (.v 32), some (30, false), []⟩, ⟨some 34, .faddr 0 (.v 1), some (33, true), []⟩, ⟨some 35, .load1 (.v 34), some (33, true), []⟩, ⟨some 36, .mv (.v 3), some (33, true), []⟩, ⟨some 37, .binN .sub (.v 36) (.c (.int .i64 1)), some (33, true), []⟩, ⟨some 38, .iaddr 3 (.v 35) (.v 37), some (33, true), []⟩, ⟨some 39, .faddr 0 (.v 38), some (33, true), []⟩, ⟨some 40, .load1 (.v 39), some (33, true), []⟩, ⟨some 41, .faddr 0 (.v 1), some (33, true), []⟩, ⟨some 42, .load1 (.v 41), some (33, true), []⟩, ⟨some 43, .mv (.v 3), some (33, true), []⟩, ⟨some 44, .iaddr 3 (.v 42) (.v 43), some (33, true), []⟩, ⟨some 45, .faddr 0 (.v 44), some (33, true), []⟩, ⟨some 46, .load1 (.v 45), some (33, true), []⟩, ⟨some 47, .bin .geq (.v 40) (.v 46), some (33, true), []⟩, ⟨some 48, .pick (.v 33) (.v 47) (.c (.bool false)), some (30, false), []⟩, ⟨some 49, .pick (.v 30) (.c (.bool true)) (.v 48), none, []⟩] [1, 3, 49] [none, none, none, none, none, none, none, none, none, none, none, none, none, none, none, none, none, none, none, none, none, none, none, none, none, none, none]) (.cond (.v 49) (.seq (.rg [⟨some 2, .mv (.c (.bool false)), none, []⟩] [2]) .ret) .skip))) (.rg [⟨some 21, .mv (.v 3), none, [3]⟩, ⟨some 22, .binN .add (.v 21) (.c (.int .i64 1)), none, [21]⟩, ⟨some 3, .mv (.v 22), none, [22]⟩] [1, 3])))
def l_spec_PlanBaseOk_1 : SCode := (.seq (.seq (.rg [⟨some 84, .mv (.v 5), none, []⟩, ⟨some 85, .mv (.v 4), none, []⟩, ⟨some 86, .bin .lss (.v 84) (.v 85), none, [84, 85]⟩] [1, 4, 5, 86]) (.cond (.v 86) .skip (.exit 4))) (.seq (.block 5 (.seq (.rgd [⟨some 89, .faddr 1 (.v 1), none, []⟩, ⟨some 90, .load1 (.v 89), none, []⟩, ⟨some 91, .mv (.v 5), none, []⟩, ⟨some 92, .iaddr 3 (.v 90) (.v 91), none, []⟩, ⟨some 93, .faddr 1 (.v 92), none, []⟩, ⟨some 94, .load1 (.v 93), none, []⟩, ⟨some 95, .faddr 1 (.v 1), none, []⟩, ⟨some 96, .load1 (.v 95), none, []⟩, ⟨some 97, .mv (.v 4), none, []⟩, ⟨some 98, .iaddr 3 (.v 96) (.v 97), none, []⟩, ⟨some 99, .faddr 1 (.v 98), none, []⟩, ⟨some 100, .load1 (.v 99), none, []⟩, ⟨some 101, .bin .eql (.v 94) (.v 100), none, []⟩, ⟨some 102, .mv (.v 101), none, []⟩, ⟨some 103, .faddr 1 (.v 1), some (102, true), []⟩, ⟨some 104, .load1 (.v 103), some (102, true), []⟩, ⟨some 105, .mv (.v 5), some (102, true), []⟩, ⟨some 106, .iaddr 3 (.v 104) (.v 105), some (102, true), []⟩, ⟨some 107, .faddr 2 (.v 106), some (102, true), []⟩, ⟨some 108, .load1 (.v 107), some (102, true), []⟩, ⟨some 109, .faddr 1 (.v 1), some (102, true), []⟩, ⟨some 110, .load1 (.v 109), some (102, true), []⟩, ⟨some 111, .mv (.v 4), some (102, true), []⟩, ⟨some 112, .iaddr 3 (.v 110) (.v 111), some (102, true), []⟩, ⟨some 113, .faddr 2 (.v 112), some (102, true), []⟩, ⟨some 114, .load1 (.v 113), some (102, true), []⟩, ⟨some 115, .bin .eql (.v 108) (.v 114), some (102, true), []⟩, ⟨some 116, .pick (.v 102) (.v 115) (.c (.bool false)), none, []⟩] [1, 4, 5, 116] [none, none, none, none, none, none, none, none, none, none, none, none, none, none, none, none, none, none, none, none, none, none, none, none, none, none, none, none]) (.cond (.v 116) (.seq (.rg [⟨some 2, .mv (.c (.bool false)), none, []⟩] [2]) .ret) .skip))) (.rg [⟨some 87, .mv (.v 5), none, [5]⟩, ⟨some 88, .binN .add (.v 87) (.c (.int .i64 1)), none, [87]⟩, ⟨some 5, .mv (.v 88), none, [88]⟩] [1, 4, 5])))
def l_spec_PlanBaseOk_2 : SCode := (.seq (.seq (.rg [⟨some 50, .mv (.v 4), none, []⟩, ⟨some 51, .faddr 1 (.v 1), none, []⟩, ⟨some 52, .load1 (.v 51), none, [51]⟩, ⟨some 53, .lenL (.v 52), none, [52]⟩, ⟨some 54, .bin .lss (.v 50) (.v 53), none, [50, 53]⟩] [1, 4, 54]) (.cond (.v 54) .skip (.exit 2))) (.seq (.block 3 (.seq (.seq (.rgd [⟨some 57, .faddr 1 (.v 1), none, []⟩, ⟨some 58, .load1 (.v 57), none, []⟩, ⟨some 59, .mv (.v 4), none, []⟩, ⟨some 60, .iaddr 3 (.v 58) (.v 59), none, []⟩, ⟨some 61, .loadN 3 (.v 60), none, []⟩, ⟨some 62, .call 37 [.v 61], none, []⟩, ⟨some 63, .not (.v 62), none, []⟩, ⟨some 64, .mv (.v 63), none, []⟩, ⟨some 65, .mv (.v 4), some (64, false), []⟩, ⟨some 66, .bin .gtr (.v 65) (.c (.int .i64 0)), some (64, false), []⟩, ⟨some 67, .mv (.v 66), some (64, false), []⟩, ⟨some 68, .faddr 1 (.v 1), some (67, true), []⟩, ⟨some 69, .load1 (.v 68), some (67, true), []⟩, ⟨some 70, .mv (.v 4), some (67, true), []⟩, ⟨some 71, .binN .sub (.v 70) (.c (.int .i64 1)), some (67, true), []⟩, ⟨some 72, .iaddr 3 (.v 69) (.v 71), some (67, true), []⟩, ⟨some 73, .faddr 0 (.v 72), some (67, true), []⟩, ⟨some 74, .load1 (.v 73), some (67, true), []⟩, ⟨some 75, .faddr 1 (.v 1), some (67, true), []⟩, ⟨some 76, .load1 (.v 75), some (67, true), []⟩, ⟨some 77, .mv (.v 4), some (67, true), []⟩, ⟨some 78, .iaddr 3 (.v 76) (.v 77), some (67, true), []⟩, ⟨some 79, .faddr 0 (.v 78), some (67, true), []⟩, ⟨some 80, .load1 (.v 79), some (67, true), []⟩, ⟨some 81, .bin .geq (.v 74) (.v 80), some (67, true), []⟩, ⟨some 82, .pick (.v 67) (.v 81) (.c (.bool false)), some (64, false), []⟩, ⟨some 83, .pick (.v 64) (.c (.bool true)) (.v 82), none, []⟩] [1, 4, 83] [none, none, none, none, none, none, none, none, none, none, none, none, none, none, none, none, none, none, none, none, none, none, none, none, none, none, none]) (.cond (.v 83) (.seq (.rg [⟨some 2, .mv (.c (.bool false)), none, []⟩] [2]) .ret) .skip)) (.seq (.rg [⟨some 5, .mv (.c (.int .i64 0)), none, []⟩] [1, 4, 5]) (.block 4 (.loop l_spec_PlanBaseOk_1))))) (.rg [⟨some 55, .mv (.v 4), none, [4]⟩, ⟨some 56, .binN .add (.v 55) (.c (.int .i64 1)), none, [55]⟩, ⟨some 4, .mv (.v 56), none, [56]⟩] [1, 4])))
/-- spec.PlanBaseOk: function 19 -/
def s_spec_PlanBaseOk : SFun := { n := 117, res := [.t 2], body := (.seq (.rg [⟨some 1, .box 101 (.v 0), none, [0]⟩, ⟨some 2, .mv (.c (.bool false)), none, [2]⟩] [1]) (.seq (.seq (.rg [⟨some 6, .faddr 0 (.v 1), none, []⟩, ⟨some 7, .load1 (.v 6), none, [6]⟩, ⟨some 8, .lenL (.v 7), none, [7]⟩, ⟨some 9, .bin .gtr (.v 8) (.c (.int .i64 6)), none, [8]⟩, ⟨some 10, .mv (.v 9), none, [9]⟩, ⟨some 11, .faddr 1 (.v 1), some (10, false), []⟩, ⟨some 12, .load1 (.v 11), some (10, false), [11]⟩, ⟨some 13, .lenL (.v 12), some (10, false), [12]⟩, ⟨some 14, .bin .gtr (.v 13) (.c (.int .i64 16)), some (10, false), [13]⟩, ⟨some 15, .pick (.v 10) (.c (.bool true)) (.v 14), none, [10, 14]⟩] [1, 15]) (.cond (.v 15) (.seq (.rg [⟨some 2, .mv (.c (.bool false)), none, []⟩] [2]) .ret) .skip)) (.seq (.seq (.rg [⟨some 3, .mv (.c (.int .i64 0)), none, []⟩] [1, 3]) (.block 0 (.loop l_spec_PlanBaseOk_0))) (.seq (.seq (.rg [⟨some 4, .mv (.c (.int .i64 0)), none, []⟩] [1, 4]) (.block 2 (.loop l_spec_PlanBaseOk_2))) (.seq (.rg [⟨some 2, .mv (.c (.bool true)), none, []⟩] [2]) .ret))))) }
theorem k_spec_PlanBaseOk : okFun Go.Proofs.Try.prog 19 s_spec_PlanBaseOk = true := by kernel_rfl
def l_spec_l12RouteOk_0 : SCode := (.seq (.seq (.rg [⟨some 10, .mv (.v 5), none, []⟩, ⟨some 11, .mv (.v 1), none, []⟩, ⟨some 12, .lenL (.v 11), none, [11]⟩, ⟨some 13, .bin .lss (.v 10) (.v 12), none, [10, 12]⟩] [1, 2, 5, 13]) (.cond (.v 13) .skip (.exit 0))) (.seq (.block 1 (.seq (.rgd [⟨some 16, .loadN 2 (.v 2), none, []⟩, ⟨some 17, .mv (.v 1), none, []⟩, ⟨some 18, .mv (.v 5), none, []⟩, ⟨some 19, .iaddr 1 (.v 17) (.v 18), none, []⟩, ⟨some 20, .load1 (.v 19), none, []⟩, ⟨some 21, .call 39 [.v 16, .v 20], none, []⟩, ⟨some 22, .bin .lss (.v 21) (.c (.int .i64 0)), none, []⟩, ⟨some 23, .mv (.v 22), none, []⟩, ⟨some 24, .mv (.v 5), some (23, false), []⟩, ⟨some 25, .bin .gtr (.v 24) (.c (.int .i64 0)), some (23, false), []⟩, ⟨some 26, .mv (.v 25), some (23, false), []⟩, ⟨some 27, .mv (.v 1), some (26, true), []⟩, ⟨some 28, .mv (.v 5), some (26, true), []⟩, ⟨some 29, .binN .sub (.v 28) (.c (.int .i64 1)), some (26, true), []⟩, ⟨some 30, .iaddr 1 (.v 27) (.v 29), some (26, true), []⟩, ⟨some 31, .load1 (.v 30), some (26, true), []⟩, ⟨some 32, .mv (.v 1), some (26, true), []⟩, ⟨some 33, .mv (.v 5), some (26, true), []⟩, ⟨some 34, .iaddr 1 (.v 32) (.v 33), some (26, true), []⟩, ⟨some 35, .load1 (.v 34), some (26, true), []⟩, ⟨some 36, .bin .eql (.v 31) (.v 35), some (26, true), []⟩, ⟨some 37, .pick (.v 26) (.v 36) (.c (.bool false)), some (23, false), []⟩, ⟨some 38, .pick (.v 23) (.c (.bool true)) (.v 37), none, []⟩] [1, 2, 5, 38] [none, none, none, none, none, none, none, none, none, none, none, none, none, none, none, none, none, none, none, none, none, none, none]) (.cond (.v 38) (.seq (.rg [⟨some 4, .mv (.c (.bool false)), none, []⟩] [4]) .ret) .skip))) (.rg [⟨some 14, .mv (.v 5), none, [5]⟩, ⟨some 15, .binN .add (.v 14) (.c (.int .i64 1)), none, [14]⟩, ⟨some 5, .mv (.v 15), none, [15]⟩] [1, 2, 5])))
/-- spec.l12RouteOk: function 20 -/
def s_spec_l12RouteOk : SFun := { n := 39, res := [.t 4], body := (.seq (.rg [⟨some 2, .box 102 (.v 0), none, [0]⟩, ⟨some 4, .mv (.c (.bool false)), none, [4]⟩] [1, 2]) (.seq (.seq (.rg [⟨some 6, .mv (.v 1), none, []⟩, ⟨some 7, .lenL (.v 6), none, [6]⟩, ⟨some 8, .call 38 [.v 7, .c (.int .i64 2), .c (.int .i64 8)], none, [7]⟩, ⟨some 9, .not (.v 8), none, [8]⟩] [1, 2, 9]) (.cond (.v 9) (.seq (.rg [⟨some 4, .mv (.c (.bool false)), none, []⟩] [4]) .ret) .skip)) (.seq (.seq (.rg [⟨some 5, .mv (.c (.int .i64 0)), none, []⟩] [1, 2, 5]) (.block 0 (.loop l_spec_l12RouteOk_0))) (.seq (.rg [⟨some 4, .mv (.c (.bool true)), none, []⟩] [4]) .ret)))) }
theorem k_spec_l12RouteOk : okFun Go.Proofs.Try.prog 20 s_spec_l12RouteOk = true := by kernel_rfl
/-- spec.l17At: function 21 -/
def s_spec_l17At : SFun := { n := 18, res := [.cN 4 2], body := (.seq (.rg [⟨some 2, .box 102 (.v 0), none, [0]⟩, ⟨some 4, .alloc 104 [.int .i64 0, .int .i64 0], none, []⟩] [1, 2, 4]) (.seq (.rgd [⟨some 6, .faddr 1 (.v 2), none, []⟩, ⟨some 7, .load1 (.v 6), none, []⟩, ⟨some 8, .loadN 2 (.v 2), none, []⟩, ⟨some 9, .mv (.v 1), none, []⟩, ⟨some 10, .call 39 [.v 8, .v 9], none, []⟩, ⟨some 11, .iaddr 3 (.v 7) (.v 10), none, []⟩, ⟨some 12, .loadN 3 (.v 11), none, []⟩, ⟨some 5, .alloc 105 [.str ⟨#[]⟩, .int .i64 0, .int .i64 0], none, []⟩, ⟨none, .store 3 (.v 5) (.v 12), none, []⟩] [4, 5] [some [], some [], some [], none, some [3, 2], some [], some [], some [6, 5, 4, 2, 1, 0], none]) (.seq (.rg [⟨some 13, .faddr 1 (.v 5), none, []⟩, ⟨some 14, .load1 (.v 13), none, [13]⟩, ⟨some 15, .faddr 2 (.v 5), none, [5]⟩, ⟨some 16, .load1 (.v 15), none, [15]⟩, ⟨some 17, .build [.int .i64 0, .int .i64 0] [(0, 1, .v 14), (1, 1, .v 16)], none, [14, 16]⟩, ⟨none, .store 2 (.v 4) (.v 17), none, [17]⟩] [4]) .ret))) }
theorem k_spec_l17At : okFun Go.Proofs.Try.prog 21 s_spec_l17At = true := by kernel_rfl
def l_spec_l17Leg_0 : SCode := (.seq (.seq (.rg [⟨some 36, .mv (.v 7), none, []⟩, ⟨some 37, .bin .geq (.v 36) (.c (.int .i64 0)), none, [36]⟩] [5, 6, 7, 37]) (.cond (.v 37) .skip (.exit 0))) (.seq (.block 1 (.rg [⟨some 40, .mv (.v 5), none, [5]⟩, ⟨some 41, .mv (.v 6), none, []⟩, ⟨some 42, .mv (.v 7), none, []⟩, ⟨some 43, .iaddr 2 (.v 41) (.v 42), none, [41, 42]⟩, ⟨some 44, .loadN 2 (.v 43), none, [43]⟩, ⟨some 45, .lit 49 2 [.v 44], none, [44]⟩, ⟨some 46, .app 110 49 2 (.v 40) (.v 45), none, [40, 45]⟩, ⟨some 5, .mv (.v 46), none, [46]⟩] [5, 6, 7])) (.rg [⟨some 38, .mv (.v 7), none, [7]⟩, ⟨some 39, .binN .sub (.v 38) (.c (.int .i64 1)), none, [38]⟩, ⟨some 7, .mv (.v 39), none, [39]⟩] [5, 6, 7])))
def l_spec_l17Leg_1 : SCode := (.seq (.seq (.rg [⟨some 65, .mv (.v 9), none, []⟩, ⟨some 66, .mv (.v 8), none, []⟩, ⟨some 67, .bin .leq (.v 65) (.v 66), none, [65, 66]⟩] [2, 3, 5, 8, 9, 67]) (.cond (.v 67) .skip (.exit 2))) (.seq (.block 3 (.rgd [⟨some 70, .mv (.v 5), none, []⟩, ⟨some 71, .faddr 0 (.v 2), none, []⟩, ⟨some 72, .load1 (.v 71), none, []⟩, ⟨some 73, .faddr 0 (.v 3), none, []⟩, ⟨some 74, .load1 (.v 73), none, []⟩, ⟨some 75, .faddr 0 (.v 2), none, []⟩, ⟨some 76, .load1 (.v 75), none, []⟩, ⟨some 77, .binN .sub (.v 74) (.v 76), none, []⟩, ⟨some 78, .mv (.v 9), none, []⟩, ⟨some 79, .mv (.v 8), none, []⟩, ⟨some 80, .call 42 [.v 77, .v 78, .v 79], none, []⟩, ⟨some 81, .binN .add (.v 72) (.v 80), none, []⟩, ⟨some 82, .faddr 1 (.v 2), none, []⟩, ⟨some 83, .load1 (.v 82), none, []⟩, ⟨some 84, .faddr 1 (.v 3), none, []⟩, ⟨some 85, .load1 (.v 84), none, []⟩, ⟨some 86, .faddr 1 (.v 2), none, []⟩, ⟨some 87, .load1 (.v 86), none, []⟩, ⟨some 88, .binN .sub (.v 85) (.v 87), none, []⟩, ⟨some 89, .mv (.v 9), none, []⟩, ⟨some 90, .mv (.v 8), none, []⟩, ⟨some 91, .call 42 [.v 88, .v 89, .v 90], none, []⟩, ⟨some 92, .binN .add (.v 83) (.v 91), none, []⟩, ⟨some 93, .build [.int .i64 0, .int .i64 0] [(0, 1, .v 81), (1, 1, .v 92)], none, []⟩, ⟨some 94, .lit 49 2 [.v 93], none, []⟩, ⟨some 95, .app 110 49 2 (.v 70) (.v 94), none, []⟩, ⟨some 5, .mv (.v 95), none, []⟩] [2, 3, 5, 8, 9] [none, some [], some [], none, none, none, none, none, none, none, some [8, 7], none, some [1], some [2], some [3], some [4], some [5], some [6], none, none, none, some [19, 18, 8, 7], none, none, none, none, none])) (.rg [⟨some 68, .mv (.v 9), none, [9]⟩, ⟨some 69, .binN .add (.v 68) (.c (.int .i64 1)), none, [68]⟩, ⟨some 9, .mv (.v 69), none, [69]⟩] [2, 3, 5, 8, 9])))
/-- spec.l17Leg: function 22 -/
def s_spec_l17Leg : SFun := { n := 97, res := [.t 4], body := (.seq (.rg [⟨some 2, .box 102 (.v 0), none, [0]⟩, ⟨some 3, .box 103 (.v 1), none, [1]⟩, ⟨some 4, .mv (.c (.sl 0 2 [])), none, [4]⟩] [2, 3]) (.seq (.rg [⟨some 10, .litOwn 110 49 2 [], none, []⟩, ⟨some 5, .mv (.v 10), none, [10]⟩] [2, 3, 5]) (.seq (.seq (.rg [⟨some 11, .faddr 0 (.v 3), none, []⟩, ⟨some 12, .load1 (.v 11), none, [11]⟩, ⟨some 13, .faddr 0 (.v 2), none, []⟩, ⟨some 14, .load1 (.v 13), none, [13]⟩, ⟨some 15, .bin .lss (.v 12) (.v 14), none, [12, 14]⟩, ⟨some 16, .mv (.v 15), none, [15]⟩, ⟨some 17, .faddr 0 (.v 3), some (16, false), []⟩, ⟨some 18, .load1 (.v 17), some (16, false), [17]⟩, ⟨some 19, .faddr 0 (.v 2), some (16, false), []⟩, ⟨some 20, .load1 (.v 19), some (16, false), [19]⟩, ⟨some 21, .bin .eql (.v 18) (.v 20), some (16, false), [18, 20]⟩, ⟨some 22, .mv (.v 21), some (16, false), [21]⟩, ⟨some 23, .faddr 1 (.v 3), some (22, true), []⟩, ⟨some 24, .load1 (.v 23), some (22, true), [23]⟩, ⟨some 25, .faddr 1 (.v 2), some (22, true), []⟩, ⟨some 26, .load1 (.v 25), some (22, true), [25]⟩, ⟨some 27, .bin .lss (.v 24) (.v 26), some (22, true), [24, 26]⟩, ⟨some 28, .pick (.v 22) (.v 27) (.c (.bool false)), some (16, false), [22, 27]⟩, ⟨some 29, .pick (.v 16) (.c (.bool true)) (.v 28), none, [16, 28]⟩] [2, 3, 5, 29]) (.cond (.v 29) (.seq (.rg [⟨some 30, .loadN 2 (.v 3), none, [3]⟩, ⟨some 31, .loadN 2 (.v 2), none, [2]⟩, ⟨some 32, .call 22 [.v 30, .v 31], none, [30, 31]⟩, ⟨some 6, .mv (.v 32), none, [32]⟩] [5, 6]) (.seq (.seq (.rg [⟨some 33, .mv (.v 6), none, []⟩, ⟨some 34, .lenL (.v 33), none, [33]⟩, ⟨some 35, .binN .sub (.v 34) (.c (.int .i64 1)), none, [34]⟩, ⟨some 7, .mv (.v 35), none, [35]⟩] [5, 6, 7]) (.block 0 (.loop l_spec_l17Leg_0))) (.seq (.rg [⟨some 47, .mv (.v 5), none, [5]⟩, ⟨some 4, .mv (.v 47), none, [47]⟩] [4]) (.gh (.frzE 4) .ret)))) .skip)) (.seq (.rgd [⟨some 48, .faddr 0 (.v 2), none, []⟩, ⟨some 49, .load1 (.v 48), none, []⟩, ⟨some 50, .faddr 0 (.v 3), none, []⟩, ⟨some 51, .load1 (.v 50), none, []⟩, ⟨some 52, .binN .sub (.v 49) (.v 51), none, []⟩, ⟨some 53, .call 41 [.v 52], none, []⟩, ⟨some 54, .faddr 1 (.v 2), none, []⟩, ⟨some 55, .load1 (.v 54), none, []⟩, ⟨some 56, .faddr 1 (.v 3), none, []⟩, ⟨some 57, .load1 (.v 56), none, []⟩, ⟨some 58, .binN .sub (.v 55) (.v 57), none, []⟩, ⟨some 59, .call 41 [.v 58], none, []⟩, ⟨some 60, .call 40 [.v 53, .v 59], none, []⟩, ⟨some 8, .mv (.v 60), none, []⟩] [2, 3, 5, 8] [none, none, none, none, none, some [], some [0], some [1], some [2], some [3], none, none, none, none]) (.seq (.rg [⟨some 61, .mv (.v 5), none, [5]⟩, ⟨some 62, .loadN 2 (.v 2), none, []⟩, ⟨some 63, .lit 49 2 [.v 62], none, [62]⟩, ⟨some 64, .app 110 49 2 (.v 61) (.v 63), none, [61, 63]⟩, ⟨some 5, .mv (.v 64), none, [64]⟩] [2, 3, 5, 8]) (.seq (.seq (.rg [⟨some 9, .mv (.c (.int .i64 1)), none, []⟩] [2, 3, 5, 8, 9]) (.block 2 (.loop l_spec_l17Leg_1))) (.seq (.rg [⟨some 96, .mv (.v 5), none, [5]⟩, ⟨some 4, .mv (.v 96), none, [96]⟩] [4]) (.gh (.frzE 4) .ret)))))))) }
theorem k_spec_l17Leg : okFun Go.Proofs.Try.prog 22 s_spec_l17Leg = true := by kernel_rfl
def l_laws_toPlanKindS_0 : SCode := (.seq (.seq (.rg [⟨some 8, .mv (.v 4), none, []⟩, ⟨some 9, .mv (.v 0), none, []⟩, ⟨some 10, .lenL (.v 9), none, [9]⟩, ⟨some 11, .bin .lss (.v 8) (.v 10), none, [8, 10]⟩] [0, 3, 4, 11]) (.cond (.v 11) .skip (.exit 0))) (.seq (.block 1 (.rg [⟨some 14, .mv (.v 3), none, []⟩, ⟨some 15, .mv (.v 4), none, []⟩, ⟨some 16, .mv (.v 0), none, []⟩, ⟨some 17, .mv (.v 4), none, []⟩, ⟨some 18, .iaddr 3 (.v 16) (.v 17), none, [16, 17]⟩, ⟨some 19, .loadN 3 (.v 18), none, [18]⟩, ⟨some 20, .call 43 [.v 19], none, [19]⟩, ⟨some 21, .iaddr 3 (.v 14) (.v 15), none, [14, 15]⟩, ⟨none, .store 3 (.v 21) (.v 20), none, [20, 21]⟩] [0, 3, 4])) (.rg [⟨some 12, .mv (.v 4), none, [4]⟩, ⟨some 13, .binN .add (.v 12) (.c (.int .i64 1)), none, [12]⟩, ⟨some 4, .mv (.v 13), none, [13]⟩] [0, 3, 4])))
/-- laws.toPlanKindS: function 23 -/
def s_laws_toPlanKindS : SFun := { n := 23, res := [.t 2], body := (.seq (.rg [⟨some 2, .mv (.c (.sl 0 3 [])), none, [2]⟩] [0]) (.seq (.rg [⟨some 5, .mv (.v 0), none, []⟩, ⟨some 6, .lenL (.v 5), none, [5]⟩, ⟨some 7, .mk 107 73 3 [.str ⟨#[]⟩, .int .i64 0, .int .i64 0] (.v 6), none, [6]⟩, ⟨some 3, .mv (.v 7), none, [7]⟩] [0, 3]) (.seq (.seq (.rg [⟨some 4, .mv (.c (.int .i64 0)), none, []⟩] [0, 3, 4]) (.block 0 (.loop l_laws_toPlanKindS_0))) (.seq (.rg [⟨some 22, .mv (.v 3), none, [3]⟩, ⟨some 2, .mv (.v 22), none, [22]⟩] [2]) (.gh (.frzE 2) .ret))))) }
theorem k_laws_toPlanKindS : okFun Go.Proofs.Try.prog 23 s_laws_toPlanKindS = true := by kernel_rfl
end Go.Ve

namespace Go.Ve
open Go.Proofs
set_option maxRecDepth 100000
def l_laws_toPlanPointS_0 : SCode := (.seq (.seq (.rg [⟨some 8, .mv (.v 4), none, []⟩, ⟨some 9, .mv (.v 0), none, []⟩, ⟨some 10, .lenL (.v 9), none, [9]⟩, ⟨some 11, .bin .lss (.v 8) (.v 10), none, [8, 10]⟩] [0, 3, 4, 11]) (.cond (.v 11) .skip (.exit 0))) (.seq (.block 1 (.rg [⟨some 14, .mv (.v 3), none, []⟩, ⟨some 15, .mv (.v 4), none, []⟩, ⟨some 16, .mv (.v 0), none, []⟩, ⟨some 17, .mv (.v 4), none, []⟩, ⟨some 18, .iaddr 3 (.v 16) (.v 17), none, [16, 17]⟩, ⟨some 19, .loadN 3 (.v 18), none, [18]⟩, ⟨some 20, .call 44 [.v 19], none, [19]⟩, ⟨some 21, .iaddr 3 (.v 14) (.v 15), none, [14, 15]⟩, ⟨none, .store 3 (.v 21) (.v 20), none, [20, 21]⟩] [0, 3, 4])) (.rg [⟨some 12, .mv (.v 4), none, [4]⟩, ⟨some 13, .binN .add (.v 12) (.c (.int .i64 1)), none, [12]⟩, ⟨some 4, .mv (.v 13), none, [13]⟩] [0, 3, 4])))
/-- laws.toPlanPointS: function 24 -/
def s_laws_toPlanPointS : SFun := { n := 23, res := [.t 2], body := (.seq (.rg [⟨some 2, .mv (.c (.sl 0 3 [])), none, [2]⟩] [0]) (.seq (.rg [⟨some 5, .mv (.v 0), none, []⟩, ⟨some 6, .lenL (.v 5), none, [5]⟩, ⟨some 7, .mk 107 57 3 [.str ⟨#[]⟩, .int .i64 0, .int .i64 0] (.v 6), none, [6]⟩, ⟨some 3, .mv (.v 7), none, [7]⟩] [0, 3]) (.seq (.seq (.rg [⟨some 4, .mv (.c (.int .i64 0)), none, []⟩] [0, 3, 4]) (.block 0 (.loop l_laws_toPlanPointS_0))) (.seq (.rg [⟨some 22, .mv (.v 3), none, [3]⟩, ⟨some 2, .mv (.v 22), none, [22]⟩] [2]) (.gh (.frzE 2) .ret))))) }
theorem k_laws_toPlanPointS : okFun Go.Proofs.Try.prog 24 s_laws_toPlanPointS = true := by kernel_rfl
def l_impl_PlanBaseOk_0 : SCode := (.seq (.rg [⟨some 23, .bin .lss (.v 22) (.v 21), none, []⟩] [1, 20, 21, 22, 23]) (.seq (.cond (.v 23) .skip (.exit 0)) (.seq (.block 1 (.seq (.rg [⟨some 24, .mv (.v 22), none, []⟩, ⟨some 25, .iaddr 3 (.v 20) (.v 22), none, []⟩, ⟨some 26, .loadN 3 (.v 25), none, [25]⟩, ⟨some 4, .alloc 104 [.str ⟨#[]⟩, .int .i64 0, .int .i64 0], none, []⟩, ⟨some 3, .mv (.v 24), none, [24]⟩, ⟨none, .store 3 (.v 4) (.v 26), none, [26]⟩] [1, 3, 4, 20, 21, 22]) (.seq (.rgd [⟨some 27, .loadN 3 (.v 4), none, []⟩, ⟨some 28, .call 45 [.v 27], none, []⟩, ⟨some 29, .not (.v 28), none, []⟩, ⟨some 30, .mv (.v 29), none, []⟩, ⟨some 31, .mv (.v 3), some (30, false), []⟩, ⟨some 32, .bin .gtr (.v 31) (.c (.int .i64 0)), some (30, false), []⟩, ⟨some 33, .mv (.v 32), some (30, false), []⟩, ⟨some 34, .faddr 0 (.v 4), some (33, true), []⟩, ⟨some 35, .load1 (.v 34), some (33, true), []⟩, ⟨some 36, .faddr 0 (.v 1), some (33, true), []⟩, ⟨some 37, .load1 (.v 36), some (33, true), []⟩, ⟨some 38, .mv (.v 3), some (33, true), []⟩, ⟨some 39, .binN .sub (.v 38) (.c (.int .i64 1)), some (33, true), []⟩, ⟨some 40, .iaddr 3 (.v 37) (.v 39), some (33, true), []⟩, ⟨some 41, .faddr 0 (.v 40), some (33, true), []⟩, ⟨some 42, .load1 (.v 41), some (33, true), []⟩, ⟨some 43, .bin .leq (.v 35) (.v 42), some (33, true), []⟩, ⟨some 44, .pick (.v 33) (.v 43) (.c (.bool false)), some (30, false), []⟩, ⟨some 45, .pick (.v 30) (.c (.bool true)) (.v 44), none, []⟩] [1, 20, 21, 22, 45] [none, none, none, none, none, none, none, none, none, none, none, none, none, none, none, none, none, none, none]) (.cond (.v 45) (.seq (.rg [⟨some 2, .mv (.c (.bool false)), none, []⟩] [2]) .ret) .skip)))) (.rg [⟨some 46, .binN .add (.v 22) (.c (.int .i64 1)), none, [22]⟩, ⟨some 22, .mv (.v 46), none, [46]⟩] [1, 20, 21, 22]))))
def l_impl_PlanBaseOk_1 : SCode := (.seq (.rg [⟨some 52, .bin .lss (.v 51) (.v 50), none, []⟩] [1, 5, 49, 50, 51, 52]) (.seq (.cond (.v 52) .skip (.exit 2)) (.seq (.block 3 (.seq (.rg [⟨some 53, .mv (.v 51), none, []⟩, ⟨some 54, .iaddr 3 (.v 49) (.v 51), none, []⟩, ⟨some 55, .loadN 3 (.v 54), none, [54]⟩, ⟨some 7, .alloc 107 [.str ⟨#[]⟩, .int .i64 0, .int .i64 0], none, []⟩, ⟨some 6, .mv (.v 53), none, [53]⟩, ⟨none, .store 3 (.v 7) (.v 55), none, [55]⟩] [1, 5, 6, 7, 49, 50, 51]) (.seq (.rg [⟨some 56, .faddr 1 (.v 7), none, []⟩, ⟨some 57, .load1 (.v 56), none, [56]⟩, ⟨some 58, .faddr 2 (.v 7), none, []⟩, ⟨some 59, .load1 (.v 58), none, [58]⟩, ⟨some 60, .build [.int .i64 0, .int .i64 0] [(0, 1, .v 57), (1, 1, .v 59)], none, [57, 59]⟩, ⟨some 8, .alloc 108 [.int .i64 0, .int .i64 0], none, []⟩, ⟨none, .store 2 (.v 8) (.v 60), none, [60]⟩] [1, 5, 6, 7, 8, 49, 50, 51]) (.seq (.seq (.rgd [⟨some 61, .loadN 3 (.v 7), none, []⟩, ⟨some 62, .call 46 [.v 61], none, []⟩, ⟨some 63, .not (.v 62), none, []⟩, ⟨some 64, .mv (.v 63), none, []⟩, ⟨some 65, .mv (.v 5), some (64, false), []⟩, ⟨some 66, .loadN 2 (.v 8), some (64, false), []⟩, ⟨some 67, .look false 2 (.bool false) (.v 65) (.v 66), some (64, false), []⟩, ⟨some 68, .pick (.v 64) (.c (.bool true)) (.v 67), none, []⟩, ⟨some 69, .mv (.v 68), none, []⟩, ⟨some 70, .mv (.v 6), some (69, false), []⟩, ⟨some 71, .bin .gtr (.v 70) (.c (.int .i64 0)), some (69, false), []⟩, ⟨some 72, .mv (.v 71), some (69, false), []⟩, ⟨some 73, .faddr 0 (.v 7), some (72, true), []⟩, ⟨some 74, .load1 (.v 73), some (72, true), []⟩, ⟨some 75, .faddr 1 (.v 1), some (72, true), []⟩, ⟨some 76, .load1 (.v 75), some (72, true), []⟩, ⟨some 77, .mv (.v 6), some (72, true), []⟩, ⟨some 78, .binN .sub (.v 77) (.c (.int .i64 1)), some (72, true), []⟩, ⟨some 79, .iaddr 3 (.v 76) (.v 78), some (72, true), []⟩, ⟨some 80, .faddr 0 (.v 79), some (72, true), []⟩, ⟨some 81, .load1 (.v 80), some (72, true), []⟩, ⟨some 82, .bin .leq (.v 74) (.v 81), some (72, true), []⟩, ⟨some 83, .pick (.v 72) (.v 82) (.c (.bool false)), some (69, false), []⟩, ⟨some 84, .pick (.v 69) (.c (.bool true)) (.v 83), none, []⟩] [1, 5, 8, 49, 50, 51, 84] [none, none, none, none, none, none, none, none, none, none, none, none, none, none, none, none, none, none, none, none, none, none, none, none]) (.cond (.v 84) (.seq (.rg [⟨some 2, .mv (.c (.bool false)), none, []⟩] [2]) .ret) .skip)) (.rg [⟨some 85, .mv (.v 5), none, []⟩, ⟨some 86, .loadN 2 (.v 8), none, [8]⟩, ⟨none, .mset 2 (.v 85) (.v 86) (.c (.bool true)), none, [85, 86]⟩] [1, 5, 49, 50, 51]))))) (.rg [⟨some 87, .binN .add (.v 51) (.c (.int .i64 1)), none, [51]⟩, ⟨some 51, .mv (.v 87), none, [87]⟩] [1, 5, 49, 50, 51]))))
/-- impl.PlanBaseOk: function 25 -/
def s_impl_PlanBaseOk : SFun := { n := 88, res := [.t 2], body := (.seq (.rg [⟨some 1, .box 101 (.v 0), none, [0]⟩, ⟨some 2, .mv (.c (.bool false)), none, [2]⟩] [1]) (.seq (.seq (.rg [⟨some 9, .faddr 0 (.v 1), none, []⟩, ⟨some 10, .load1 (.v 9), none, [9]⟩, ⟨some 11, .lenL (.v 10), none, [10]⟩, ⟨some 12, .bin .gtr (.v 11) (.c (.int .i64 6)), none, [11]⟩, ⟨some 13, .mv (.v 12), none, [12]⟩, ⟨some 14, .faddr 1 (.v 1), some (13, false), []⟩, ⟨some 15, .load1 (.v 14), some (13, false), [14]⟩, ⟨some 16, .lenL (.v 15), some (13, false), [15]⟩, ⟨some 17, .bin .gtr (.v 16) (.c (.int .i64 16)), some (13, false), [16]⟩, ⟨some 18, .pick (.v 13) (.c (.bool true)) (.v 17), none, [13, 17]⟩] [1, 18]) (.cond (.v 18) (.seq (.rg [⟨some 2, .mv (.c (.bool false)), none, []⟩] [2]) .ret) .skip)) (.seq (.seq (.rg [⟨some 19, .faddr 0 (.v 1), none, []⟩, ⟨some 20, .load1 (.v 19), none, [19]⟩, ⟨some 21, .lenL (.v 20), none, []⟩, ⟨some 22, .mv (.c (.int .i64 0)), none, []⟩] [1, 20, 21, 22]) (.block 0 (.loop l_impl_PlanBaseOk_0))) (.seq (.rg [⟨some 47, .mkmap 147 2, none, []⟩, ⟨some 5, .mv (.v 47), none, [47]⟩] [1, 5]) (.seq (.seq (.rg [⟨some 48, .faddr 1 (.v 1), none, []⟩, ⟨some 49, .load1 (.v 48), none, [48]⟩, ⟨some 50, .lenL (.v 49), none, []⟩, ⟨some 51, .mv (.c (.int .i64 0)), none, []⟩] [1, 5, 49, 50, 51]) (.block 2 (.loop l_impl_PlanBaseOk_1))) (.seq (.rg [⟨some 2, .mv (.c (.bool true)), none, []⟩] [2]) .ret)))))) }
theorem k_impl_PlanBaseOk : okFun Go.Proofs.Try.prog 25 s_impl_PlanBaseOk = true := by kernel_rfl
def l_impl_PlanBase_route_0 : SCode := (.seq (.rg [⟨some 17, .bin .lss (.v 16) (.v 15), none, []⟩] [1, 2, 6, 14, 15, 16, 17]) (.seq (.cond (.v 17) .skip (.exit 0)) (.seq (.block 1 (.seq (.rg [⟨some 18, .mv (.v 16), none, []⟩, ⟨some 19, .iaddr 1 (.v 14) (.v 16), none, []⟩, ⟨some 20, .load1 (.v 19), none, [19]⟩, ⟨some 7, .mv (.v 18), none, [18]⟩, ⟨some 8, .mv (.v 20), none, [20]⟩] [1, 2, 6, 7, 8, 14, 15, 16]) (.seq (.rg [⟨some 21, .loadN 2 (.v 2), none, []⟩, ⟨some 22, .mv (.v 8), none, []⟩, ⟨some 23, .call 48 [.v 21, .v 22], none, [21, 22]⟩, ⟨some 9, .mv (.v 23), none, [23]⟩] [1, 2, 6, 7, 8, 9, 14, 15, 16]) (.seq (.seq (.rg [⟨some 24, .mv (.v 9), none, []⟩, ⟨some 25, .bin .lss (.v 24) (.c (.int .i64 0)), none, [24]⟩, ⟨some 26, .mv (.v 25), none, [25]⟩, ⟨some 27, .mv (.v 7), some (26, false), []⟩, ⟨some 28, .bin .gtr (.v 27) (.c (.int .i64 0)), some (26, false), [27]⟩, ⟨some 29, .mv (.v 28), some (26, false), [28]⟩, ⟨some 30, .mv (.v 8), some (29, true), [8]⟩, ⟨some 31, .mv (.v 1), some (29, true), []⟩, ⟨some 32, .mv (.v 7), some (29, true), [7]⟩, ⟨some 33, .binN .sub (.v 32) (.c (.int .i64 1)), some (29, true), [32]⟩, ⟨some 34, .iaddr 1 (.v 31) (.v 33), some (29, true), [31, 33]⟩, ⟨some 35, .load1 (.v 34), some (29, true), [34]⟩, ⟨some 36, .bin .eql (.v 30) (.v 35), some (29, true), [30, 35]⟩, ⟨some 37, .pick (.v 29) (.v 36) (.c (.bool false)), some (26, false), [29, 36]⟩, ⟨some 38, .pick (.v 26) (.c (.bool true)) (.v 37), none, [26, 37]⟩] [1, 2, 6, 9, 14, 15, 16, 38]) (.cond (.v 38) (.seq (.rg [⟨some 4, .mv (.c (.sl 0 3 [])), none, []⟩, ⟨some 5, .mv (.c (.bool false)), none, []⟩] [4, 5]) (.gh (.frzE 4) .ret)) .skip)) (.rg [⟨some 39, .mv (.v 6), none, [6]⟩, ⟨some 40, .faddr 1 (.v 2), none, []⟩, ⟨some 41, .load1 (.v 40), none, [40]⟩, ⟨some 42, .mv (.v 9), none, [9]⟩, ⟨some 43, .iaddr 3 (.v 41) (.v 42), none, [41, 42]⟩, ⟨some 44, .loadN 3 (.v 43), none, [43]⟩, ⟨some 45, .lit 57 3 [.v 44], none, [44]⟩, ⟨some 46, .app 106 57 3 (.v 39) (.v 45), none, [39, 45]⟩, ⟨some 6, .mv (.v 46), none, [46]⟩] [1, 2, 6, 14, 15, 16]))))) (.rg [⟨some 47, .binN .add (.v 16) (.c (.int .i64 1)), none, [16]⟩, ⟨some 16, .mv (.v 47), none, [47]⟩] [1, 2, 6, 14, 15, 16]))))
/-- impl.PlanBase).route: function 26 -/
def s_impl_PlanBase_route : SFun := { n := 49, res := [.t 4, .t 5], body := (.seq (.rg [⟨some 2, .box 102 (.v 0), none, [0]⟩, ⟨some 4, .mv (.c (.sl 0 3 [])), none, [4]⟩, ⟨some 5, .mv (.c (.bool false)), none, [5]⟩] [1, 2]) (.seq (.seq (.rg [⟨some 10, .mv (.v 1), none, []⟩, ⟨some 11, .lenL (.v 10), none, [10]⟩, ⟨some 12, .call 47 [.v 11, .c (.int .i64 2), .c (.int .i64 8)], none, [11]⟩, ⟨some 13, .not (.v 12), none, [12]⟩] [1, 2, 13]) (.cond (.v 13) (.seq (.rg [⟨some 4, .mv (.c (.sl 0 3 [])), none, []⟩, ⟨some 5, .mv (.c (.bool false)), none, []⟩] [4, 5]) (.gh (.frzE 4) .ret)) .skip)) (.seq (.rg [⟨some 6, .newnil 106 57 3, none, []⟩] [1, 2, 6]) (.seq (.seq (.rg [⟨some 14, .mv (.v 1), none, []⟩, ⟨some 15, .lenL (.v 14), none, []⟩, ⟨some 16, .mv (.c (.int .i64 0)), none, []⟩] [1, 2, 6, 14, 15, 16]) (.block 0 (.loop l_impl_PlanBase_route_0))) (.seq (.rg [⟨some 48, .mv (.v 6), none, [6]⟩, ⟨some 4, .mv (.v 48), none, [48]⟩, ⟨some 5, .mv (.c (.bool true)), none, []⟩] [4, 5]) (.gh (.frzE 4) .ret)))))) }
theorem k_impl_PlanBase_route : okFun Go.Proofs.Try.prog 26 s_impl_PlanBase_route = true := by kernel_rfl
def l_impl_leg_0 : SCode := (.seq (.seq (.rg [⟨some 38, .mv (.v 12), none, []⟩, ⟨some 39, .mv (.v 10), none, []⟩, ⟨some 40, .bin .leq (.v 38) (.v 39), none, [38, 39]⟩] [0, 1, 2, 3, 9, 10, 11, 12, 40]) (.cond (.v 40) .skip (.exit 0))) (.seq (.block 1 (.seq (.seq (.rg [⟨some 43, .mv (.v 10), none, []⟩, ⟨some 44, .bin .eql (.v 43) (.c (.int .i64 0)), none, [43]⟩] [0, 1, 2, 3, 9, 10, 11, 12, 44]) (.cond (.v 44) (.seq (.rg [⟨some 45, .mv (.v 11), none, [11]⟩, ⟨some 46, .mv (.v 0), none, [0]⟩, ⟨some 47, .mv (.v 1), none, [1]⟩, ⟨some 48, .build [.int .i64 0, .int .i64 0] [(0, 1, .v 46), (1, 1, .v 47)], none, [46, 47]⟩, ⟨some 49, .lit 60 2 [.v 48], none, [48]⟩, ⟨some 50, .app 111 60 2 (.v 45) (.v 49), none, [45, 49]⟩, ⟨some 11, .mv (.v 50), none, [50]⟩] [9, 11]) (.exit 0)) .skip)) (.rg [⟨some 51, .mv (.v 11), none, [11]⟩, ⟨some 52, .mv (.v 0), none, []⟩, ⟨some 53, .mv (.v 12), none, []⟩, ⟨some 54, .binN .mul (.c (.int .i64 2)) (.v 53), none, [53]⟩, ⟨some 55, .mv (.v 2), none, []⟩, ⟨some 56, .mv (.v 0), none, []⟩, ⟨some 57, .binN .sub (.v 55) (.v 56), none, [55, 56]⟩, ⟨some 58, .binN .mul (.v 54) (.v 57), none, [54, 57]⟩, ⟨some 59, .mv (.v 10), none, []⟩, ⟨some 60, .binN .add (.v 58) (.v 59), none, [58, 59]⟩, ⟨some 61, .mv (.v 10), none, []⟩, ⟨some 62, .binN .mul (.c (.int .i64 2)) (.v 61), none, [61]⟩, ⟨some 63, .call 50 [.v 60, .v 62], none, [60, 62]⟩, ⟨some 64, .binN .add (.v 52) (.v 63), none, [52, 63]⟩, ⟨some 65, .mv (.v 1), none, []⟩, ⟨some 66, .mv (.v 12), none, []⟩, ⟨some 67, .binN .mul (.c (.int .i64 2)) (.v 66), none, [66]⟩, ⟨some 68, .mv (.v 3), none, []⟩, ⟨some 69, .mv (.v 1), none, []⟩, ⟨some 70, .binN .sub (.v 68) (.v 69), none, [68, 69]⟩, ⟨some 71, .binN .mul (.v 67) (.v 70), none, [67, 70]⟩, ⟨some 72, .mv (.v 10), none, []⟩, ⟨some 73, .binN .add (.v 71) (.v 72), none, [71, 72]⟩, ⟨some 74, .mv (.v 10), none, []⟩, ⟨some 75, .binN .mul (.c (.int .i64 2)) (.v 74), none, [74]⟩, ⟨some 76, .call 50 [.v 73, .v 75], none, [73, 75]⟩, ⟨some 77, .binN .add (.v 65) (.v 76), none, [65, 76]⟩, ⟨some 78, .build [.int .i64 0, .int .i64 0] [(0, 1, .v 64), (1, 1, .v 77)], none, [64, 77]⟩, ⟨some 79, .lit 60 2 [.v 78], none, [78]⟩, ⟨some 80, .app 111 60 2 (.v 51) (.v 79), none, [51, 79]⟩, ⟨some 11, .mv (.v 80), none, [80]⟩] [0, 1, 2, 3, 9, 10, 11, 12]))) (.rg [⟨some 41, .mv (.v 12), none, [12]⟩, ⟨some 42, .binN .add (.v 41) (.c (.int .i64 1)), none, [41]⟩, ⟨some 12, .mv (.v 42), none, [42]⟩] [0, 1, 2, 3, 9, 10, 11, 12])))
/-- impl.leg: function 27 -/
def s_impl_leg : SFun := { n := 85, res := [.t 8], body := (.seq (.rg [⟨some 8, .mv (.c (.sl 0 2 [])), none, [8]⟩] [0, 1, 2, 3]) (.seq (.rg [⟨some 13, .mv (.v 0), none, []⟩, ⟨some 14, .mv (.v 2), none, []⟩, ⟨some 15, .bin .gtr (.v 13) (.v 14), none, [13, 14]⟩, ⟨some 16, .mv (.v 15), none, [15]⟩, ⟨some 17, .mv (.v 0), some (16, false), []⟩, ⟨some 18, .mv (.v 2), some (16, false), []⟩, ⟨some 19, .bin .eql (.v 17) (.v 18), some (16, false), [17, 18]⟩, ⟨some 20, .mv (.v 19), some (16, false), [19]⟩, ⟨some 21, .mv (.v 1), some (20, true), []⟩, ⟨some 22, .mv (.v 3), some (20, true), []⟩, ⟨some 23, .bin .gtr (.v 21) (.v 22), some (20, true), [21, 22]⟩, ⟨some 24, .pick (.v 20) (.v 23) (.c (.bool false)), some (16, false), [20, 23]⟩, ⟨some 25, .pick (.v 16) (.c (.bool true)) (.v 24), none, [16, 24]⟩, ⟨some 9, .mv (.v 25), none, [25]⟩] [0, 1, 2, 3, 9]) (.seq (.seq (.rg [⟨some 26, .mv (.v 9), none, []⟩] [0, 1, 2, 3, 9, 26]) (.cond (.v 26) (.rg [⟨some 27, .mv (.v 2), none, [2]⟩, ⟨some 28, .mv (.v 3), none, [3]⟩, ⟨some 29, .mv (.v 0), none, [0]⟩, ⟨some 30, .mv (.v 1), none, [1]⟩, ⟨some 0, .mv (.v 27), none, [27]⟩, ⟨some 1, .mv (.v 28), none, [28]⟩, ⟨some 2, .mv (.v 29), none, [29]⟩, ⟨some 3, .mv (.v 30), none, [30]⟩] [0, 1, 2, 3, 9]) .skip)) (.seq (.rg [⟨some 31, .mv (.v 0), none, []⟩, ⟨some 32, .mv (.v 2), none, []⟩, ⟨some 33, .call 49 [.v 31, .v 32], none, [31, 32]⟩, ⟨some 34, .mv (.v 1), none, []⟩, ⟨some 35, .mv (.v 3), none, []⟩, ⟨some 36, .call 49 [.v 34, .v 35], none, [34, 35]⟩, ⟨some 37, .mx (.v 33) (.v 36), none, [33, 36]⟩, ⟨some 10, .mv (.v 37), none, [37]⟩] [0, 1, 2, 3, 9, 10]) (.seq (.rg [⟨some 11, .newnil 111 60 2, none, []⟩] [0, 1, 2, 3, 9, 10, 11]) (.seq (.seq (.rg [⟨some 12, .mv (.c (.int .i64 0)), none, []⟩] [0, 1, 2, 3, 9, 10, 11, 12]) (.block 0 (.loop l_impl_leg_0))) (.seq (.seq (.rg [⟨some 81, .mv (.v 9), none, [9]⟩] [11, 81]) (.cond (.v 81) (.rg [⟨some 82, .mv (.v 11), none, []⟩, ⟨some 83, .call 51 [.v 82], none, [82, 83]⟩] [11]) .skip)) (.seq (.rg [⟨some 84, .mv (.v 11), none, [11]⟩, ⟨some 8, .mv (.v 84), none, [84]⟩] [8]) (.gh (.frzE 8) .ret))))))))) }
theorem k_impl_leg : okFun Go.Proofs.Try.prog 27 s_impl_leg = true := by kernel_rfl
/-- laws.eqPlanCell: function 28 -/
def s_laws_eqPlanCell : SFun := { n := 15, res := [.t 4], body := (.seq (.rg [⟨some 2, .box 102 (.v 0), none, [0]⟩, ⟨some 3, .box 103 (.v 1), none, [1]⟩, ⟨some 4, .mv (.c (.bool false)), none, [4]⟩] [2, 3]) (.seq (.seq (.rg [⟨some 5, .faddr 0 (.v 2), none, []⟩, ⟨some 6, .load1 (.v 5), none, [5]⟩, ⟨some 7, .faddr 0 (.v 3), none, []⟩, ⟨some 8, .load1 (.v 7), none, [7]⟩, ⟨some 9, .bin .neq (.v 6) (.v 8), none, [6, 8]⟩] [2, 3, 9]) (.cond (.v 9) (.seq (.rg [⟨some 4, .mv (.c (.bool false)), none, []⟩] [4]) .ret) .skip)) (.seq (.seq (.rg [⟨some 10, .faddr 1 (.v 2), none, [2]⟩, ⟨some 11, .load1 (.v 10), none, [10]⟩, ⟨some 12, .faddr 1 (.v 3), none, [3]⟩, ⟨some 13, .load1 (.v 12), none, [12]⟩, ⟨some 14, .bin .neq (.v 11) (.v 13), none, [11, 13]⟩] [14]) (.cond (.v 14) (.seq (.rg [⟨some 4, .mv (.c (.bool false)), none, []⟩] [4]) .ret) .skip)) (.seq (.rg [⟨some 4, .mv (.c (.bool true)), none, []⟩] [4]) .ret)))) }
theorem k_laws_eqPlanCell : okFun Go.Proofs.Try.prog 28 s_laws_eqPlanCell = true := by kernel_rfl
def l_laws_eqPlanKindS_0 : SCode := (.seq (.seq (.rg [⟨some 11, .mv (.v 5), none, []⟩, ⟨some 12, .mv (.v 0), none, []⟩, ⟨some 13, .lenL (.v 12), none, [12]⟩, ⟨some 14, .bin .lss (.v 11) (.v 13), none, [11, 13]⟩] [0, 1, 5, 14]) (.cond (.v 14) .skip (.exit 0))) (.seq (.block 1 (.seq (.rgd [⟨some 17, .mv (.v 0), none, []⟩, ⟨some 18, .mv (.v 5), none, []⟩, ⟨some 19, .iaddr 3 (.v 17) (.v 18), none, []⟩, ⟨some 20, .loadN 3 (.v 19), none, []⟩, ⟨some 21, .mv (.v 1), none, []⟩, ⟨some 22, .mv (.v 5), none, []⟩, ⟨some 23, .iaddr 3 (.v 21) (.v 22), none, []⟩, ⟨some 24, .loadN 3 (.v 23), none, []⟩, ⟨some 25, .call 52 [.v 20, .v 24], none, []⟩, ⟨some 26, .not (.v 25), none, []⟩] [0, 1, 5, 26] [none, none, none, none, none, none, none, none, none, none]) (.cond (.v 26) (.seq (.rg [⟨some 4, .mv (.c (.bool false)), none, []⟩] [4]) .ret) .skip))) (.rg [⟨some 15, .mv (.v 5), none, [5]⟩, ⟨some 16, .binN .add (.v 15) (.c (.int .i64 1)), none, [15]⟩, ⟨some 5, .mv (.v 16), none, [16]⟩] [0, 1, 5])))
/-- laws.eqPlanKindS: function 29 -/
def s_laws_eqPlanKindS : SFun := { n := 27, res := [.t 4], body := (.seq (.rg [⟨some 4, .mv (.c (.bool false)), none, [4]⟩] [0, 1]) (.seq (.seq (.rg [⟨some 6, .mv (.v 0), none, []⟩, ⟨some 7, .lenL (.v 6), none, [6]⟩, ⟨some 8, .mv (.v 1), none, []⟩, ⟨some 9, .lenL (.v 8), none, [8]⟩, ⟨some 10, .bin .neq (.v 7) (.v 9), none, [7, 9]⟩] [0, 1, 10]) (.cond (.v 10) (.seq (.rg [⟨some 4, .mv (.c (.bool false)), none, []⟩] [4]) .ret) .skip)) (.seq (.seq (.rg [⟨some 5, .mv (.c (.int .i64 0)), none, []⟩] [0, 1, 5]) (.block 0 (.loop l_laws_eqPlanKindS_0))) (.seq (.rg [⟨some 4, .mv (.c (.bool true)), none, []⟩] [4]) .ret)))) }
theorem k_laws_eqPlanKindS : okFun Go.Proofs.Try.prog 29 s_laws_eqPlanKindS = true := by kernel_rfl
def l_laws_eqPlanPointS_0 : SCode := (.seq (.seq (.rg [⟨some 11, .mv (.v 5), none, []⟩, ⟨some 12, .mv (.v 0), none, []⟩, ⟨some 13, .lenL (.v 12), none, [12]⟩, ⟨some 14, .bin .lss (.v 11) (.v 13), none, [11, 13]⟩] [0, 1, 5, 14]) (.cond (.v 14) .skip (.exit 0))) (.seq (.block 1 (.seq (.rgd [⟨some 17, .mv (.v 0), none, []⟩, ⟨some 18, .mv (.v 5), none, []⟩, ⟨some 19, .iaddr 3 (.v 17) (.v 18), none, []⟩, ⟨some 20, .loadN 3 (.v 19), none, []⟩, ⟨some 21, .mv (.v 1), none, []⟩, ⟨some 22, .mv (.v 5), none, []⟩, ⟨some 23, .iaddr 3 (.v 21) (.v 22), none, []⟩, ⟨some 24, .loadN 3 (.v 23), none, []⟩, ⟨some 25, .call 53 [.v 20, .v 24], none, []⟩, ⟨some 26, .not (.v 25), none, []⟩] [0, 1, 5, 26] [none, none, none, none, none, none, none, none, none, none]) (.cond (.v 26) (.seq (.rg [⟨some 4, .mv (.c (.bool false)), none, []⟩] [4]) .ret) .skip))) (.rg [⟨some 15, .mv (.v 5), none, [5]⟩, ⟨some 16, .binN .add (.v 15) (.c (.int .i64 1)), none, [15]⟩, ⟨some 5, .mv (.v 16), none, [16]⟩] [0, 1, 5])))
/-- laws.eqPlanPointS: function 30 -/
def s_laws_eqPlanPointS : SFun := { n := 27, res := [.t 4], body := (.seq (.rg [⟨some 4, .mv (.c (.bool false)), none, [4]⟩] [0, 1]) (.seq (.seq (.rg [⟨some 6, .mv (.v 0), none, []⟩, ⟨some 7, .lenL (.v 6), none, [6]⟩, ⟨some 8, .mv (.v 1), none, []⟩, ⟨some 9, .lenL (.v 8), none, [8]⟩, ⟨some 10, .bin .neq (.v 7) (.v 9), none, [7, 9]⟩] [0, 1, 10]) (.cond (.v 10) (.seq (.rg [⟨some 4, .mv (.c (.bool false)), none, []⟩] [4]) .ret) .skip)) (.seq (.seq (.rg [⟨some 5, .mv (.c (.int .i64 0)), none, []⟩] [0, 1, 5]) (.block 0 (.loop l_laws_eqPlanPointS_0))) (.seq (.rg [⟨some 4, .mv (.c (.bool true)), none, []⟩] [4]) .ret)))) }
theorem k_laws_eqPlanPointS : okFun Go.Proofs.Try.prog 30 s_laws_eqPlanPointS = true := by kernel_rfl
def l_laws_markPlanKindS_0 : SCode := (.seq (.seq (.rg [⟨some 6, .mv (.v 5), none, []⟩, ⟨some 7, .mv (.v 0), none, []⟩, ⟨some 8, .lenL (.v 7), none, [7]⟩, ⟨some 9, .bin .lss (.v 6) (.v 8), none, [6, 8]⟩] [0, 1, 5, 9]) (.cond (.v 9) .skip (.exit 0))) (.seq (.block 1 (.seq (.rg [⟨some 12, .mv (.v 0), none, []⟩, ⟨some 13, .mv (.v 5), none, []⟩, ⟨some 14, .mv (.v 1), none, []⟩, ⟨some 15, .call 33 [.v 14], none, [14]⟩, ⟨some 16, .iaddr 3 (.v 12) (.v 13), none, [12, 13]⟩, ⟨some 17, .faddr 0 (.v 16), none, [16]⟩, ⟨none, .store 1 (.v 17) (.v 15), none, [15, 17]⟩] [0, 1, 5]) (.seq (.rg [⟨some 18, .mv (.v 1), none, [1]⟩, ⟨some 19, .binN .add (.v 18) (.c (.int .i64 1)), none, [18]⟩, ⟨some 1, .mv (.v 19), none, [19]⟩] [0, 1, 5]) (.seq (.rg [⟨some 20, .mv (.v 0), none, []⟩, ⟨some 21, .mv (.v 5), none, []⟩, ⟨some 22, .mv (.v 1), none, []⟩, ⟨some 23, .iaddr 3 (.v 20) (.v 21), none, [20, 21]⟩, ⟨some 24, .faddr 1 (.v 23), none, [23]⟩, ⟨none, .store 1 (.v 24) (.v 22), none, [22, 24]⟩] [0, 1, 5]) (.seq (.rg [⟨some 25, .mv (.v 1), none, [1]⟩, ⟨some 26, .binN .add (.v 25) (.c (.int .i64 1)), none, [25]⟩, ⟨some 1, .mv (.v 26), none, [26]⟩] [0, 1, 5]) (.seq (.rg [⟨some 27, .mv (.v 0), none, []⟩, ⟨some 28, .mv (.v 5), none, []⟩, ⟨some 29, .mv (.v 1), none, []⟩, ⟨some 30, .iaddr 3 (.v 27) (.v 28), none, [27, 28]⟩, ⟨some 31, .faddr 2 (.v 30), none, [30]⟩, ⟨none, .store 1 (.v 31) (.v 29), none, [29, 31]⟩] [0, 1, 5]) (.rg [⟨some 32, .mv (.v 1), none, [1]⟩, ⟨some 33, .binN .add (.v 32) (.c (.int .i64 1)), none, [32]⟩, ⟨some 1, .mv (.v 33), none, [33]⟩] [0, 1, 5]))))))) (.rg [⟨some 10, .mv (.v 5), none, [5]⟩, ⟨some 11, .binN .add (.v 10) (.c (.int .i64 1)), none, [10]⟩, ⟨some 5, .mv (.v 11), none, [11]⟩] [0, 1, 5])))
/-- laws.markPlanKindS: function 31 -/
def s_laws_markPlanKindS : SFun := { n := 35, res := [.t 4], body := (.seq (.rg [⟨some 4, .mv (.c (.int .i64 0)), none, [4]⟩] [0, 1]) (.seq (.seq (.rg [⟨some 5, .mv (.c (.int .i64 0)), none, []⟩] [0, 1, 5]) (.block 0 (.loop l_laws_markPlanKindS_0))) (.seq (.rg [⟨some 34, .mv (.v 1), none, [1]⟩, ⟨some 4, .mv (.v 34), none, [34]⟩] [4]) .ret))) }
theorem k_laws_markPlanKindS : okFun Go.Proofs.Try.prog 31 s_laws_markPlanKindS = true := by kernel_rfl
def l_laws_markPlanPointS_0 : SCode := (.seq (.seq (.rg [⟨some 6, .mv (.v 5), none, []⟩, ⟨some 7, .mv (.v 0), none, []⟩, ⟨some 8, .lenL (.v 7), none, [7]⟩, ⟨some 9, .bin .lss (.v 6) (.v 8), none, [6, 8]⟩] [0, 1, 5, 9]) (.cond (.v 9) .skip (.exit 0))) (.seq (.block 1 (.seq (.rg [⟨some 12, .mv (.v 0), none, []⟩, ⟨some 13, .mv (.v 5), none, []⟩, ⟨some 14, .mv (.v 1), none, []⟩, ⟨some 15, .call 33 [.v 14], none, [14]⟩, ⟨some 16, .iaddr 3 (.v 12) (.v 13), none, [12, 13]⟩, ⟨some 17, .faddr 0 (.v 16), none, [16]⟩, ⟨none, .store 1 (.v 17) (.v 15), none, [15, 17]⟩] [0, 1, 5]) (.seq (.rg [⟨some 18, .mv (.v 1), none, [1]⟩, ⟨some 19, .binN .add (.v 18) (.c (.int .i64 1)), none, [18]⟩, ⟨some 1, .mv (.v 19), none, [19]⟩] [0, 1, 5]) (.seq (.rg [⟨some 20, .mv (.v 0), none, []⟩, ⟨some 21, .mv (.v 5), none, []⟩, ⟨some 22, .mv (.v 1), none, []⟩, ⟨some 23, .iaddr 3 (.v 20) (.v 21), none, [20, 21]⟩, ⟨some 24, .faddr 1 (.v 23), none, [23]⟩, ⟨none, .store 1 (.v 24) (.v 22), none, [22, 24]⟩] [0, 1, 5]) (.seq (.rg [⟨some 25, .mv (.v 1), none, [1]⟩, ⟨some 26, .binN .add (.v 25) (.c (.int .i64 1)), none, [25]⟩, ⟨some 1, .mv (.v 26), none, [26]⟩] [0, 1, 5]) (.seq (.rg [⟨some 27, .mv (.v 0), none, []⟩, ⟨some 28, .mv (.v 5), none, []⟩, ⟨some 29, .mv (.v 1), none, []⟩, ⟨some 30, .iaddr 3 (.v 27) (.v 28), none, [27, 28]⟩, ⟨some 31, .faddr 2 (.v 30), none, [30]⟩, ⟨none, .store 1 (.v 31) (.v 29), none, [29, 31]⟩] [0, 1, 5]) (.rg [⟨some 32, .mv (.v 1), none, [1]⟩, ⟨some 33, .binN .add (.v 32) (.c (.int .i64 1)), none, [32]⟩, ⟨some 1, .mv (.v 33), none, [33]⟩] [0, 1, 5]))))))) (.rg [⟨some 10, .mv (.v 5), none, [5]⟩, ⟨some 11, .binN .add (.v 10) (.c (.int .i64 1)), none, [10]⟩, ⟨some 5, .mv (.v 11), none, [11]⟩] [0, 1, 5])))
/-- laws.markPlanPointS: function 32 -/
def s_laws_markPlanPointS : SFun := { n := 35, res := [.t 4], body := (.seq (.rg [⟨some 4, .mv (.c (.int .i64 0)), none, [4]⟩] [0, 1]) (.seq (.seq (.rg [⟨some 5, .mv (.c (.int .i64 0)), none, []⟩] [0, 1, 5]) (.block 0 (.loop l_laws_markPlanPointS_0))) (.seq (.rg [⟨some 34, .mv (.v 1), none, [1]⟩, ⟨some 4, .mv (.v 34), none, [34]⟩] [4]) .ret))) }
theorem k_laws_markPlanPointS : okFun Go.Proofs.Try.prog 32 s_laws_markPlanPointS = true := by kernel_rfl
def l_laws_markText_0 : SCode := (.seq (.seq (.rg [⟨some 6, .mv (.v 0), none, []⟩, ⟨some 7, .bin .gtr (.v 6) (.c (.int .i64 0)), none, [6]⟩] [0, 3, 7]) (.cond (.v 7) .skip (.exit 0))) (.block 1 (.seq (.rg [⟨some 8, .mv (.v 0), none, []⟩, ⟨some 9, .binN .rem (.v 8) (.c (.int .i64 10)), none, [8]⟩, ⟨some 10, .binN .add (.c (.int .i64 48)) (.v 9), none, [9]⟩, ⟨some 11, .conv .u8 (.v 10), none, [10]⟩, ⟨some 12, .lit 5 1 [.v 11], none, [11]⟩, ⟨some 13, .b2s (.v 12), none, [12]⟩, ⟨some 14, .mv (.v 3), none, [3]⟩, ⟨some 15, .bin .add (.v 13) (.v 14), none, [13, 14]⟩, ⟨some 3, .mv (.v 15), none, [15]⟩] [0, 3]) (.rg [⟨some 16, .mv (.v 0), none, [0]⟩, ⟨some 17, .binN .quo (.v 16) (.c (.int .i64 10)), none, [16]⟩, ⟨some 0, .mv (.v 17), none, [17]⟩] [0, 3]))))
/-- laws.markText: function 33 -/
def s_laws_markText : SFun := { n := 20, res := [.t 2], body := (.seq (.rg [⟨some 2, .mv (.c (.str ⟨#[]⟩)), none, [2]⟩] [0]) (.seq (.seq (.rg [⟨some 4, .mv (.v 0), none, []⟩, ⟨some 5, .bin .leq (.v 4) (.c (.int .i64 0)), none, [4]⟩] [0, 5]) (.cond (.v 5) (.seq (.rg [⟨some 2, .mv (.c (.str ⟨#[109, 48]⟩)), none, []⟩] [2]) .ret) .skip)) (.seq (.rg [⟨some 3, .mv (.c (.str ⟨#[]⟩)), none, []⟩] [0, 3]) (.seq (.block 0 (.loop l_laws_markText_0)) (.seq (.rg [⟨some 18, .mv (.v 3), none, [3]⟩, ⟨some 19, .bin .add (.c (.str ⟨#[109]⟩)) (.v 18), none, [18]⟩, ⟨some 2, .mv (.v 19), none, [19]⟩] [2]) .ret))))) }
theorem k_laws_markText : okFun Go.Proofs.Try.prog 33 s_laws_markText = true := by kernel_rfl
/-- laws.szPlanKind: function 34 -/
def s_laws_szPlanKind : SFun := { n := 13, res := [.t 4], body := (.seq (.rg [⟨some 2, .box 102 (.v 0), none, [0]⟩, ⟨some 4, .mv (.c (.int .i64 0)), none, [4]⟩] [1, 2]) (.seq (.rg [⟨some 5, .mv (.v 1), none, [1]⟩, ⟨some 6, .faddr 0 (.v 2), none, [2]⟩, ⟨some 7, .load1 (.v 6), none, [6]⟩, ⟨some 8, .lenS (.v 7), none, [7]⟩, ⟨some 9, .binN .sub (.v 5) (.v 8), none, [5, 8]⟩, ⟨some 1, .mv (.v 9), none, [9]⟩] [1]) (.seq (.seq (.rg [⟨some 10, .mv (.v 1), none, []⟩, ⟨some 11, .bin .lss (.v 10) (.c (.int .i64 0)), none, [10]⟩] [1, 11]) (.cond (.v 11) (.seq (.rg [⟨some 4, .mv (.c (.int .i64 (-1))), none, []⟩] [4]) .ret) .skip)) (.seq (.rg [⟨some 12, .mv (.v 1), none, [1]⟩, ⟨some 4, .mv (.v 12), none, [12]⟩] [4]) .ret)))) }
theorem k_laws_szPlanKind : okFun Go.Proofs.Try.prog 34 s_laws_szPlanKind = true := by kernel_rfl
/-- laws.szPlanPoint: function 35 -/
def s_laws_szPlanPoint : SFun := { n := 13, res := [.t 4], body := (.seq (.rg [⟨some 2, .box 102 (.v 0), none, [0]⟩, ⟨some 4, .mv (.c (.int .i64 0)), none, [4]⟩] [1, 2]) (.seq (.rg [⟨some 5, .mv (.v 1), none, [1]⟩, ⟨some 6, .faddr 0 (.v 2), none, [2]⟩, ⟨some 7, .load1 (.v 6), none, [6]⟩, ⟨some 8, .lenS (.v 7), none, [7]⟩, ⟨some 9, .binN .sub (.v 5) (.v 8), none, [5, 8]⟩, ⟨some 1, .mv (.v 9), none, [9]⟩] [1]) (.seq (.seq (.rg [⟨some 10, .mv (.v 1), none, []⟩, ⟨some 11, .bin .lss (.v 10) (.c (.int .i64 0)), none, [10]⟩] [1, 11]) (.cond (.v 11) (.seq (.rg [⟨some 4, .mv (.c (.int .i64 (-1))), none, []⟩] [4]) .ret) .skip)) (.seq (.rg [⟨some 12, .mv (.v 1), none, [1]⟩, ⟨some 4, .mv (.v 12), none, [12]⟩] [4]) .ret)))) }
theorem k_laws_szPlanPoint : okFun Go.Proofs.Try.prog 35 s_laws_szPlanPoint = true := by kernel_rfl
/-- spec.l11KindOk: function 36 -/
def s_spec_l11KindOk : SFun := { n := 18, res := [.t 2], body := (.seq (.rg [⟨some 1, .box 101 (.v 0), none, [0]⟩, ⟨some 2, .mv (.c (.bool false)), none, [2]⟩] [1]) (.seq (.rg [⟨some 3, .faddr 0 (.v 1), none, []⟩, ⟨some 4, .load1 (.v 3), none, [3]⟩, ⟨some 5, .call 54 [.v 4], none, [4]⟩, ⟨some 6, .mv (.v 5), none, [5]⟩, ⟨some 7, .faddr 1 (.v 1), some (6, true), []⟩, ⟨some 8, .load1 (.v 7), some (6, true), [7]⟩, ⟨some 9, .faddr 2 (.v 1), some (6, true), []⟩, ⟨some 10, .load1 (.v 9), some (6, true), [9]⟩, ⟨some 11, .call 38 [.v 8, .c (.int .i64 1), .v 10], some (6, true), [8, 10]⟩, ⟨some 12, .pick (.v 6) (.v 11) (.c (.bool false)), none, [6, 11]⟩, ⟨some 13, .mv (.v 12), none, [12]⟩, ⟨some 14, .faddr 2 (.v 1), some (13, true), [1]⟩, ⟨some 15, .load1 (.v 14), some (13, true), [14]⟩, ⟨some 16, .bin .leq (.v 15) (.c (.int .i64 50)), some (13, true), [15]⟩, ⟨some 17, .pick (.v 13) (.v 16) (.c (.bool false)), none, [13, 16]⟩, ⟨some 2, .mv (.v 17), none, [17]⟩] [2]) .ret)) }
theorem k_spec_l11KindOk : okFun Go.Proofs.Try.prog 36 s_spec_l11KindOk = true := by kernel_rfl
/-- spec.l11PointOk: function 37 -/
def s_spec_l11PointOk : SFun := { n := 16, res := [.t 2], body := (.seq (.rg [⟨some 1, .box 101 (.v 0), none, [0]⟩, ⟨some 2, .mv (.c (.bool false)), none, [2]⟩] [1]) (.seq (.rg [⟨some 3, .faddr 0 (.v 1), none, []⟩, ⟨some 4, .load1 (.v 3), none, [3]⟩, ⟨some 5, .call 54 [.v 4], none, [4]⟩, ⟨some 6, .mv (.v 5), none, [5]⟩, ⟨some 7, .faddr 1 (.v 1), some (6, true), []⟩, ⟨some 8, .load1 (.v 7), some (6, true), [7]⟩, ⟨some 9, .call 38 [.v 8, .c (.int .i64 0), .c (.int .i64 15)], some (6, true), [8]⟩, ⟨some 10, .pick (.v 6) (.v 9) (.c (.bool false)), none, [6, 9]⟩, ⟨some 11, .mv (.v 10), none, [10]⟩, ⟨some 12, .faddr 2 (.v 1), some (11, true), [1]⟩, ⟨some 13, .load1 (.v 12), some (11, true), [12]⟩, ⟨some 14, .call 38 [.v 13, .c (.int .i64 0), .c (.int .i64 15)], some (11, true), [13]⟩, ⟨some 15, .pick (.v 11) (.v 14) (.c (.bool false)), none, [11, 14]⟩, ⟨some 2, .mv (.v 15), none, [15]⟩] [2]) .ret)) }
theorem k_spec_l11PointOk : okFun Go.Proofs.Try.prog 37 s_spec_l11PointOk = true := by kernel_rfl
/-- spec.l11In: function 38 -/
def s_spec_l11In : SFun := { n := 15, res := [.t 6], body := (.seq (.rg [⟨some 6, .mv (.c (.bool false)), none, [6]⟩] [0, 1, 2]) (.seq (.rg [⟨some 7, .mv (.v 0), none, []⟩, ⟨some 8, .mv (.v 1), none, [1]⟩, ⟨some 9, .bin .geq (.v 7) (.v 8), none, [7, 8]⟩, ⟨some 10, .mv (.v 9), none, [9]⟩, ⟨some 11, .mv (.v 0), some (10, true), [0]⟩, ⟨some 12, .mv (.v 2), some (10, true), [2]⟩, ⟨some 13, .bin .leq (.v 11) (.v 12), some (10, true), [11, 12]⟩, ⟨some 14, .pick (.v 10) (.v 13) (.c (.bool false)), none, [10, 13]⟩, ⟨some 6, .mv (.v 14), none, [14]⟩] [6]) .ret)) }
theorem k_spec_l11In : okFun Go.Proofs.Try.prog 38 s_spec_l11In = true := by kernel_rfl
def l_spec_l11Point_0 : SCode := (.seq (.seq (.rg [⟨some 6, .mv (.v 5), none, []⟩, ⟨some 7, .faddr 1 (.v 2), none, []⟩, ⟨some 8, .load1 (.v 7), none, [7]⟩, ⟨some 9, .lenL (.v 8), none, [8]⟩, ⟨some 10, .bin .lss (.v 6) (.v 9), none, [6, 9]⟩] [1, 2, 5, 10]) (.cond (.v 10) .skip (.exit 0))) (.seq (.block 1 (.seq (.rg [⟨some 13, .faddr 1 (.v 2), none, []⟩, ⟨some 14, .load1 (.v 13), none, [13]⟩, ⟨some 15, .mv (.v 5), none, []⟩, ⟨some 16, .iaddr 3 (.v 14) (.v 15), none, [14, 15]⟩, ⟨some 17, .faddr 0 (.v 16), none, [16]⟩, ⟨some 18, .load1 (.v 17), none, [17]⟩, ⟨some 19, .mv (.v 1), none, []⟩, ⟨some 20, .bin .eql (.v 18) (.v 19), none, [18, 19]⟩] [1, 2, 5, 20]) (.cond (.v 20) (.seq (.rg [⟨some 21, .mv (.v 5), none, [5]⟩, ⟨some 4, .mv (.v 21), none, [21]⟩] [4]) .ret) .skip))) (.rg [⟨some 11, .mv (.v 5), none, [5]⟩, ⟨some 12, .binN .add (.v 11) (.c (.int .i64 1)), none, [11]⟩, ⟨some 5, .mv (.v 12), none, [12]⟩] [1, 2, 5])))
/-- spec.l11Point: function 39 -/
def s_spec_l11Point : SFun := { n := 22, res := [.t 4], body := (.seq (.rg [⟨some 2, .box 102 (.v 0), none, [0]⟩, ⟨some 4, .mv (.c (.int .i64 0)), none, [4]⟩] [1, 2]) (.seq (.seq (.rg [⟨some 5, .mv (.c (.int .i64 0)), none, []⟩] [1, 2, 5]) (.block 0 (.loop l_spec_l11Point_0))) (.seq (.rg [⟨some 4, .mv (.c (.int .i64 (-1))), none, []⟩] [4]) .ret))) }
theorem k_spec_l11Point : okFun Go.Proofs.Try.prog 39 s_spec_l11Point = true := by kernel_rfl
/-- spec.l17Max: function 40 -/
def s_spec_l17Max : SFun := { n := 10, res := [.t 4], body := (.seq (.rg [⟨some 4, .mv (.c (.int .i64 0)), none, [4]⟩] [0, 1]) (.seq (.seq (.rg [⟨some 5, .mv (.v 0), none, []⟩, ⟨some 6, .mv (.v 1), none, []⟩, ⟨some 7, .bin .gtr (.v 5) (.v 6), none, [5, 6]⟩] [0, 1, 7]) (.cond (.v 7) (.seq (.rg [⟨some 8, .mv (.v 0), none, [0]⟩, ⟨some 4, .mv (.v 8), none, [8]⟩] [4]) .ret) .skip)) (.seq (.rg [⟨some 9, .mv (.v 1), none, [1]⟩, ⟨some 4, .mv (.v 9), none, [9]⟩] [4]) .ret))) }
theorem k_spec_l17Max : okFun Go.Proofs.Try.prog 40 s_spec_l17Max = true := by kernel_rfl
/-- spec.l17Abs: function 41 -/
def s_spec_l17Abs : SFun := { n := 8, res := [.t 2], body := (.seq (.rg [⟨some 2, .mv (.c (.int .i64 0)), none, [2]⟩] [0]) (.seq (.seq (.rg [⟨some 3, .mv (.v 0), none, []⟩, ⟨some 4, .bin .lss (.v 3) (.c (.int .i64 0)), none, [3]⟩] [0, 4]) (.cond (.v 4) (.seq (.rg [⟨some 5, .mv (.v 0), none, [0]⟩, ⟨some 6, .neg (.v 5), none, [5]⟩, ⟨some 2, .mv (.v 6), none, [6]⟩] [2]) .ret) .skip)) (.seq (.rg [⟨some 7, .mv (.v 0), none, [0]⟩, ⟨some 2, .mv (.v 7), none, [7]⟩] [2]) .ret))) }
theorem k_spec_l17Abs : okFun Go.Proofs.Try.prog 41 s_spec_l17Abs = true := by kernel_rfl
/-- laws.toPlanKind: function 43 -/
def s_laws_toPlanKind : SFun := { n := 14, res := [.cN 2 3], body := (.seq (.rg [⟨some 1, .box 101 (.v 0), none, [0]⟩, ⟨some 2, .alloc 102 [.str ⟨#[]⟩, .int .i64 0, .int .i64 0], none, []⟩] [1, 2]) (.seq (.rg [⟨some 3, .alloc 103 [.str ⟨#[]⟩, .int .i64 0, .int .i64 0], none, []⟩] [1, 2, 3]) (.seq (.rg [⟨some 4, .faddr 0 (.v 1), none, []⟩, ⟨some 5, .load1 (.v 4), none, [4]⟩, ⟨some 6, .faddr 0 (.v 3), none, []⟩, ⟨none, .store 1 (.v 6) (.v 5), none, [5, 6]⟩] [1, 2, 3]) (.seq (.rg [⟨some 7, .faddr 1 (.v 1), none, []⟩, ⟨some 8, .load1 (.v 7), none, [7]⟩, ⟨some 9, .faddr 1 (.v 3), none, []⟩, ⟨none, .store 1 (.v 9) (.v 8), none, [8, 9]⟩] [1, 2, 3]) (.seq (.rg [⟨some 10, .faddr 2 (.v 1), none, [1]⟩, ⟨some 11, .load1 (.v 10), none, [10]⟩, ⟨some 12, .faddr 2 (.v 3), none, []⟩, ⟨none, .store 1 (.v 12) (.v 11), none, [11, 12]⟩] [2, 3]) (.seq (.rg [⟨some 13, .loadN 3 (.v 3), none, [3]⟩, ⟨none, .store 3 (.v 2) (.v 13), none, [13]⟩] [2]) .ret)))))) }
theorem k_laws_toPlanKind : okFun Go.Proofs.Try.prog 43 s_laws_toPlanKind = true := by kernel_rfl
/-- laws.toPlanPoint: function 44 -/
def s_laws_toPlanPoint : SFun := { n := 14, res := [.cN 2 3], body := (.seq (.rg [⟨some 1, .box 101 (.v 0), none, [0]⟩, ⟨some 2, .alloc 102 [.str ⟨#[]⟩, .int .i64 0, .int .i64 0], none, []⟩] [1, 2]) (.seq (.rg [⟨some 3, .alloc 103 [.str ⟨#[]⟩, .int .i64 0, .int .i64 0], none, []⟩] [1, 2, 3]) (.seq (.rg [⟨some 4, .faddr 0 (.v 1), none, []⟩, ⟨some 5, .load1 (.v 4), none, [4]⟩, ⟨some 6, .faddr 0 (.v 3), none, []⟩, ⟨none, .store 1 (.v 6) (.v 5), none, [5, 6]⟩] [1, 2, 3]) (.seq (.rg [⟨some 7, .faddr 1 (.v 1), none, []⟩, ⟨some 8, .load1 (.v 7), none, [7]⟩, ⟨some 9, .faddr 1 (.v 3), none, []⟩, ⟨none, .store 1 (.v 9) (.v 8), none, [8, 9]⟩] [1, 2, 3]) (.seq (.rg [⟨some 10, .faddr 2 (.v 1), none, [1]⟩, ⟨some 11, .load1 (.v 10), none, [10]⟩, ⟨some 12, .faddr 2 (.v 3), none, []⟩, ⟨none, .store 1 (.v 12) (.v 11), none, [11, 12]⟩] [2, 3]) (.seq (.rg [⟨some 13, .loadN 3 (.v 3), none, [3]⟩, ⟨none, .store 3 (.v 2) (.v 13), none, [13]⟩] [2]) .ret)))))) }
theorem k_laws_toPlanPoint : okFun Go.Proofs.Try.prog 44 s_laws_toPlanPoint = true := by kernel_rfl
/-- impl.kindOk: function 45 -/
def s_impl_kindOk : SFun := { n := 23, res := [.t 2], body := (.seq (.rg [⟨some 1, .box 101 (.v 0), none, [0]⟩, ⟨some 2, .mv (.c (.bool false)), none, [2]⟩] [1]) (.seq (.rg [⟨some 3, .faddr 0 (.v 1), none, []⟩, ⟨some 4, .load1 (.v 3), none, [3]⟩, ⟨some 5, .call 55 [.v 4], none, [4]⟩, ⟨some 6, .mv (.v 5), none, [5]⟩, ⟨some 7, .faddr 1 (.v 1), some (6, true), []⟩, ⟨some 8, .load1 (.v 7), some (6, true), [7]⟩, ⟨some 9, .bin .leq (.c (.int .i64 1)) (.v 8), some (6, true), [8]⟩, ⟨some 10, .pick (.v 6) (.v 9) (.c (.bool false)), none, [6, 9]⟩, ⟨some 11, .mv (.v 10), none, [10]⟩, ⟨some 12, .faddr 1 (.v 1), some (11, true), []⟩, ⟨some 13, .load1 (.v 12), some (11, true), [12]⟩, ⟨some 14, .faddr 2 (.v 1), some (11, true), []⟩, ⟨some 15, .load1 (.v 14), some (11, true), [14]⟩, ⟨some 16, .bin .leq (.v 13) (.v 15), some (11, true), [13, 15]⟩, ⟨some 17, .pick (.v 11) (.v 16) (.c (.bool false)), none, [11, 16]⟩, ⟨some 18, .mv (.v 17), none, [17]⟩, ⟨some 19, .faddr 2 (.v 1), some (18, true), [1]⟩, ⟨some 20, .load1 (.v 19), some (18, true), [19]⟩, ⟨some 21, .bin .leq (.v 20) (.c (.int .i64 50)), some (18, true), [20]⟩, ⟨some 22, .pick (.v 18) (.v 21) (.c (.bool false)), none, [18, 21]⟩, ⟨some 2, .mv (.v 22), none, [22]⟩] [2]) .ret)) }
theorem k_impl_kindOk : okFun Go.Proofs.Try.prog 45 s_impl_kindOk = true := by kernel_rfl
/-- impl.pointOk: function 46 -/
def s_impl_pointOk : SFun := { n := 16, res := [.t 2], body := (.seq (.rg [⟨some 1, .box 101 (.v 0), none, [0]⟩, ⟨some 2, .mv (.c (.bool false)), none, [2]⟩] [1]) (.seq (.rg [⟨some 3, .faddr 0 (.v 1), none, []⟩, ⟨some 4, .load1 (.v 3), none, [3]⟩, ⟨some 5, .call 55 [.v 4], none, [4]⟩, ⟨some 6, .mv (.v 5), none, [5]⟩, ⟨some 7, .faddr 1 (.v 1), some (6, true), []⟩, ⟨some 8, .load1 (.v 7), some (6, true), [7]⟩, ⟨some 9, .call 47 [.v 8, .c (.int .i64 0), .c (.int .i64 15)], some (6, true), [8]⟩, ⟨some 10, .pick (.v 6) (.v 9) (.c (.bool false)), none, [6, 9]⟩, ⟨some 11, .mv (.v 10), none, [10]⟩, ⟨some 12, .faddr 2 (.v 1), some (11, true), [1]⟩, ⟨some 13, .load1 (.v 12), some (11, true), [12]⟩, ⟨some 14, .call 47 [.v 13, .c (.int .i64 0), .c (.int .i64 15)], some (11, true), [13]⟩, ⟨some 15, .pick (.v 11) (.v 14) (.c (.bool false)), none, [11, 14]⟩, ⟨some 2, .mv (.v 15), none, [15]⟩] [2]) .ret)) }
theorem k_impl_pointOk : okFun Go.Proofs.Try.prog 46 s_impl_pointOk = true := by kernel_rfl
/-- impl.within: function 47 -/
def s_impl_within : SFun := { n := 15, res := [.t 6], body := (.seq (.rg [⟨some 6, .mv (.c (.bool false)), none, [6]⟩] [0, 1, 2]) (.seq (.rg [⟨some 7, .mv (.v 0), none, []⟩, ⟨some 8, .mv (.v 1), none, [1]⟩, ⟨some 9, .bin .geq (.v 7) (.v 8), none, [7, 8]⟩, ⟨some 10, .mv (.v 9), none, [9]⟩, ⟨some 11, .mv (.v 0), some (10, true), [0]⟩, ⟨some 12, .mv (.v 2), some (10, true), [2]⟩, ⟨some 13, .bin .leq (.v 11) (.v 12), some (10, true), [11, 12]⟩, ⟨some 14, .pick (.v 10) (.v 13) (.c (.bool false)), none, [10, 13]⟩, ⟨some 6, .mv (.v 14), none, [14]⟩] [6]) .ret)) }
theorem k_impl_within : okFun Go.Proofs.Try.prog 47 s_impl_within = true := by kernel_rfl
/-- impl.PlanBase).point: function 48 -/
def s_impl_PlanBase_point : SFun := { n := 9, res := [.t 4], body := (.seq (.rg [⟨some 2, .box 102 (.v 0), none, [0]⟩, ⟨some 3, .box 103 (.v 1), none, [1]⟩, ⟨some 4, .mv (.c (.int .i64 0)), none, [4]⟩] [2, 3]) (.seq (.rg [⟨some 5, .faddr 1 (.v 2), none, [2]⟩, ⟨some 6, .load1 (.v 5), none, [5]⟩, ⟨some 7, .clos 57 [.v 3], none, [3]⟩, ⟨some 8, .call 56 [.v 6, .v 7], none, [6, 7]⟩, ⟨some 4, .mv (.v 8), none, [8]⟩] [4]) .ret)) }
theorem k_impl_PlanBase_point : okFun Go.Proofs.Try.prog 48 s_impl_PlanBase_point = true := by kernel_rfl
/-- impl.dist: function 49 -/
def s_impl_dist : SFun := { n := 14, res := [.t 4], body := (.seq (.rg [⟨some 4, .mv (.c (.int .i64 0)), none, [4]⟩] [0, 1]) (.seq (.seq (.rg [⟨some 5, .mv (.v 0), none, []⟩, ⟨some 6, .mv (.v 1), none, []⟩, ⟨some 7, .bin .gtr (.v 5) (.v 6), none, [5, 6]⟩] [0, 1, 7]) (.cond (.v 7) (.seq (.rg [⟨some 8, .mv (.v 0), none, [0]⟩, ⟨some 9, .mv (.v 1), none, [1]⟩, ⟨some 10, .binN .sub (.v 8) (.v 9), none, [8, 9]⟩, ⟨some 4, .mv (.v 10), none, [10]⟩] [4]) .ret) .skip)) (.seq (.rg [⟨some 11, .mv (.v 1), none, [1]⟩, ⟨some 12, .mv (.v 0), none, [0]⟩, ⟨some 13, .binN .sub (.v 11) (.v 12), none, [11, 12]⟩, ⟨some 4, .mv (.v 13), none, [13]⟩] [4]) .ret))) }
theorem k_impl_dist : okFun Go.Proofs.Try.prog 49 s_impl_dist = true := by kernel_rfl
def l_slices_Reverse__2_int_0 : SCode := (.seq (.seq (.rg [⟨some 7, .mv (.v 2), none, []⟩, ⟨some 8, .mv (.v 3), none, []⟩, ⟨some 9, .bin .lss (.v 7) (.v 8), none, [7, 8]⟩] [0, 2, 3, 9]) (.cond (.v 9) .skip (.exit 0))) (.seq (.block 1 (.rgd [⟨some 14, .mv (.v 0), none, []⟩, ⟨some 15, .mv (.v 2), none, []⟩, ⟨some 16, .mv (.v 0), none, []⟩, ⟨some 17, .mv (.v 3), none, []⟩, ⟨some 18, .mv (.v 0), none, []⟩, ⟨some 19, .mv (.v 3), none, []⟩, ⟨some 20, .iaddr 2 (.v 18) (.v 19), none, []⟩, ⟨some 21, .loadN 2 (.v 20), none, []⟩, ⟨some 22, .mv (.v 0), none, []⟩, ⟨some 23, .mv (.v 2), none, []⟩, ⟨some 24, .iaddr 2 (.v 22) (.v 23), none, []⟩, ⟨some 25, .loadN 2 (.v 24), none, []⟩, ⟨some 26, .iaddr 2 (.v 14) (.v 15), none, []⟩, ⟨none, .store 2 (.v 26) (.v 21), none, []⟩, ⟨some 27, .iaddr 2 (.v 16) (.v 17), none, []⟩, ⟨none, .store 2 (.v 27) (.v 25), none, []⟩] [0, 2, 3] [none, none, none, none, none, none, none, none, none, none, none, none, none, none, none, none])) (.rg [⟨some 10, .mv (.v 2), none, [2]⟩, ⟨some 11, .binN .add (.v 10) (.c (.int .i64 1)), none, [10]⟩, ⟨some 12, .mv (.v 3), none, [3]⟩, ⟨some 13, .binN .sub (.v 12) (.c (.int .i64 1)), none, [12]⟩, ⟨some 2, .mv (.v 11), none, [11]⟩, ⟨some 3, .mv (.v 13), none, [13]⟩] [0, 2, 3])))
/-- slices.Reverse[[][2]int,[2]int]: function 51 -/
def s_slices_Reverse__2_int : SFun := { n := 28, res := [], body := (.seq (.rg [⟨some 4, .mv (.v 0), none, []⟩, ⟨some 5, .lenL (.v 4), none, [4]⟩, ⟨some 6, .binN .sub (.v 5) (.c (.int .i64 1)), none, [5]⟩, ⟨some 2, .mv (.c (.int .i64 0)), none, []⟩, ⟨some 3, .mv (.v 6), none, [6]⟩] [0, 2, 3]) (.block 0 (.loop l_slices_Reverse__2_int_0))) }
theorem k_slices_Reverse__2_int : okFun Go.Proofs.Try.prog 51 s_slices_Reverse__2_int = true := by kernel_rfl
/-- laws.eqPlanKind: function 52 -/
def s_laws_eqPlanKind : SFun := { n := 20, res := [.t 4], body := (.seq (.rg [⟨some 2, .box 102 (.v 0), none, [0]⟩, ⟨some 3, .box 103 (.v 1), none, [1]⟩, ⟨some 4, .mv (.c (.bool false)), none, [4]⟩] [2, 3]) (.seq (.seq (.rg [⟨some 5, .faddr 0 (.v 2), none, []⟩, ⟨some 6, .load1 (.v 5), none, [5]⟩, ⟨some 7, .faddr 0 (.v 3), none, []⟩, ⟨some 8, .load1 (.v 7), none, [7]⟩, ⟨some 9, .bin .neq (.v 6) (.v 8), none, [6, 8]⟩] [2, 3, 9]) (.cond (.v 9) (.seq (.rg [⟨some 4, .mv (.c (.bool false)), none, []⟩] [4]) .ret) .skip)) (.seq (.seq (.rg [⟨some 10, .faddr 1 (.v 2), none, []⟩, ⟨some 11, .load1 (.v 10), none, [10]⟩, ⟨some 12, .faddr 1 (.v 3), none, []⟩, ⟨some 13, .load1 (.v 12), none, [12]⟩, ⟨some 14, .bin .neq (.v 11) (.v 13), none, [11, 13]⟩] [2, 3, 14]) (.cond (.v 14) (.seq (.rg [⟨some 4, .mv (.c (.bool false)), none, []⟩] [4]) .ret) .skip)) (.seq (.seq (.rg [⟨some 15, .faddr 2 (.v 2), none, [2]⟩, ⟨some 16, .load1 (.v 15), none, [15]⟩, ⟨some 17, .faddr 2 (.v 3), none, [3]⟩, ⟨some 18, .load1 (.v 17), none, [17]⟩, ⟨some 19, .bin .neq (.v 16) (.v 18), none, [16, 18]⟩] [19]) (.cond (.v 19) (.seq (.rg [⟨some 4, .mv (.c (.bool false)), none, []⟩] [4]) .ret) .skip)) (.seq (.rg [⟨some 4, .mv (.c (.bool true)), none, []⟩] [4]) .ret))))) }
theorem k_laws_eqPlanKind : okFun Go.Proofs.Try.prog 52 s_laws_eqPlanKind = true := by kernel_rfl
/-- laws.eqPlanPoint: function 53 -/
def s_laws_eqPlanPoint : SFun := { n := 20, res := [.t 4], body := (.seq (.rg [⟨some 2, .box 102 (.v 0), none, [0]⟩, ⟨some 3, .box 103 (.v 1), none, [1]⟩, ⟨some 4, .mv (.c (.bool false)), none, [4]⟩] [2, 3]) (.seq (.seq (.rg [⟨some 5, .faddr 0 (.v 2), none, []⟩, ⟨some 6, .load1 (.v 5), none, [5]⟩, ⟨some 7, .faddr 0 (.v 3), none, []⟩, ⟨some 8, .load1 (.v 7), none, [7]⟩, ⟨some 9, .bin .neq (.v 6) (.v 8), none, [6, 8]⟩] [2, 3, 9]) (.cond (.v 9) (.seq (.rg [⟨some 4, .mv (.c (.bool false)), none, []⟩] [4]) .ret) .skip)) (.seq (.seq (.rg [⟨some 10, .faddr 1 (.v 2), none, []⟩, ⟨some 11, .load1 (.v 10), none, [10]⟩, ⟨some 12, .faddr 1 (.v 3), none, []⟩, ⟨some 13, .load1 (.v 12), none, [12]⟩, ⟨some 14, .bin .neq (.v 11) (.v 13), none, [11, 13]⟩] [2, 3, 14]) (.cond (.v 14) (.seq (.rg [⟨some 4, .mv (.c (.bool false)), none, []⟩] [4]) .ret) .skip)) (.seq (.seq (.rg [⟨some 15, .faddr 2 (.v 2), none, [2]⟩, ⟨some 16, .load1 (.v 15), none, [15]⟩, ⟨some 17, .faddr 2 (.v 3), none, [3]⟩, ⟨some 18, .load1 (.v 17), none, [17]⟩, ⟨some 19, .bin .neq (.v 16) (.v 18), none, [16, 18]⟩] [19]) (.cond (.v 19) (.seq (.rg [⟨some 4, .mv (.c (.bool false)), none, []⟩] [4]) .ret) .skip)) (.seq (.rg [⟨some 4, .mv (.c (.bool true)), none, []⟩] [4]) .ret))))) }
theorem k_laws_eqPlanPoint : okFun Go.Proofs.Try.prog 53 s_laws_eqPlanPoint = true := by kernel_rfl
def l_spec_l11NameOk_0 : SCode := (.seq (.seq (.rg [⟨some 9, .mv (.v 3), none, []⟩, ⟨some 10, .mv (.v 0), none, []⟩, ⟨some 11, .lenS (.v 10), none, [10]⟩, ⟨some 12, .bin .lss (.v 9) (.v 11), none, [9, 11]⟩] [0, 3, 12]) (.cond (.v 12) .skip (.exit 0))) (.seq (.block 1 (.seq (.rg [⟨some 15, .mv (.v 0), none, []⟩, ⟨some 16, .mv (.v 3), none, []⟩, ⟨some 17, .istr (.v 15) (.v 16), none, [15, 16]⟩, ⟨some 4, .mv (.v 17), none, [17]⟩] [0, 3, 4]) (.seq (.rg [⟨some 18, .mv (.v 4), none, []⟩, ⟨some 19, .bin .geq (.v 18) (.c (.int .u8 97)), none, [18]⟩, ⟨some 20, .mv (.v 19), none, [19]⟩, ⟨some 21, .mv (.v 4), some (20, true), []⟩, ⟨some 22, .bin .leq (.v 21) (.c (.int .u8 122)), some (20, true), [21]⟩, ⟨some 23, .pick (.v 20) (.v 22) (.c (.bool false)), none, [20, 22]⟩, ⟨some 24, .mv (.v 23), none, [23]⟩, ⟨some 25, .mv (.v 4), some (24, false), []⟩, ⟨some 26, .bin .geq (.v 25) (.c (.int .u8 48)), some (24, false), [25]⟩, ⟨some 27, .mv (.v 26), some (24, false), [26]⟩, ⟨some 28, .mv (.v 4), some (27, true), []⟩, ⟨some 29, .bin .leq (.v 28) (.c (.int .u8 57)), some (27, true), [28]⟩, ⟨some 30, .pick (.v 27) (.v 29) (.c (.bool false)), some (24, false), [27, 29]⟩, ⟨some 31, .pick (.v 24) (.c (.bool true)) (.v 30), none, [24, 30]⟩, ⟨some 32, .mv (.v 31), none, [31]⟩, ⟨some 33, .mv (.v 4), some (32, false), [4]⟩, ⟨some 34, .bin .eql (.v 33) (.c (.int .u8 45)), some (32, false), [33]⟩, ⟨some 35, .pick (.v 32) (.c (.bool true)) (.v 34), none, [32, 34]⟩, ⟨some 36, .not (.v 35), none, [35]⟩] [0, 3, 36]) (.cond (.v 36) (.seq (.rg [⟨some 2, .mv (.c (.bool false)), none, []⟩] [2]) .ret) .skip)))) (.rg [⟨some 13, .mv (.v 3), none, [3]⟩, ⟨some 14, .binN .add (.v 13) (.c (.int .i64 1)), none, [13]⟩, ⟨some 3, .mv (.v 14), none, [14]⟩] [0, 3])))
/-- spec.l11NameOk: function 54 -/
def s_spec_l11NameOk : SFun := { n := 37, res := [.t 2], body := (.seq (.rg [⟨some 2, .mv (.c (.bool false)), none, [2]⟩] [0]) (.seq (.seq (.rg [⟨some 5, .mv (.v 0), none, []⟩, ⟨some 6, .lenS (.v 5), none, [5]⟩, ⟨some 7, .call 38 [.v 6, .c (.int .i64 1), .c (.int .i64 8)], none, [6]⟩, ⟨some 8, .not (.v 7), none, [7]⟩] [0, 8]) (.cond (.v 8) (.seq (.rg [⟨some 2, .mv (.c (.bool false)), none, []⟩] [2]) .ret) .skip)) (.seq (.seq (.rg [⟨some 3, .mv (.c (.int .i64 0)), none, []⟩] [0, 3]) (.block 0 (.loop l_spec_l11NameOk_0))) (.seq (.rg [⟨some 2, .mv (.c (.bool true)), none, []⟩] [2]) .ret)))) }
theorem k_spec_l11NameOk : okFun Go.Proofs.Try.prog 54 s_spec_l11NameOk = true := by kernel_rfl
def l_impl_isName_0 : SCode := (.seq (.seq (.rg [⟨some 13, .mv (.v 3), none, []⟩, ⟨some 14, .mv (.v 0), none, []⟩, ⟨some 15, .lenS (.v 14), none, [14]⟩, ⟨some 16, .bin .lss (.v 13) (.v 15), none, [13, 15]⟩] [0, 3, 16]) (.cond (.v 16) .skip (.exit 0))) (.seq (.block 1 (.seq (.rg [⟨some 19, .mv (.v 0), none, []⟩, ⟨some 20, .mv (.v 3), none, []⟩, ⟨some 21, .istr (.v 19) (.v 20), none, [19, 20]⟩, ⟨some 4, .mv (.v 21), none, [21]⟩] [0, 3, 4]) (.seq (.rg [⟨some 22, .mv (.v 4), none, []⟩, ⟨some 23, .bin .geq (.v 22) (.c (.int .u8 97)), none, [22]⟩, ⟨some 24, .mv (.v 23), none, [23]⟩, ⟨some 25, .mv (.v 4), some (24, true), []⟩, ⟨some 26, .bin .leq (.v 25) (.c (.int .u8 122)), some (24, true), [25]⟩, ⟨some 27, .pick (.v 24) (.v 26) (.c (.bool false)), none, [24, 26]⟩, ⟨some 28, .mv (.v 27), none, [27]⟩, ⟨some 29, .mv (.v 4), some (28, false), []⟩, ⟨some 30, .bin .geq (.v 29) (.c (.int .u8 48)), some (28, false), [29]⟩, ⟨some 31, .mv (.v 30), some (28, false), [30]⟩, ⟨some 32, .mv (.v 4), some (31, true), []⟩, ⟨some 33, .bin .leq (.v 32) (.c (.int .u8 57)), some (31, true), [32]⟩, ⟨some 34, .pick (.v 31) (.v 33) (.c (.bool false)), some (28, false), [31, 33]⟩, ⟨some 35, .pick (.v 28) (.c (.bool true)) (.v 34), none, [28, 34]⟩, ⟨some 36, .mv (.v 35), none, [35]⟩, ⟨some 37, .mv (.v 4), some (36, false), [4]⟩, ⟨some 38, .bin .eql (.v 37) (.c (.int .u8 45)), some (36, false), [37]⟩, ⟨some 39, .pick (.v 36) (.c (.bool true)) (.v 38), none, [36, 38]⟩, ⟨some 40, .not (.v 39), none, [39]⟩] [0, 3, 40]) (.cond (.v 40) (.seq (.rg [⟨some 2, .mv (.c (.bool false)), none, []⟩] [2]) .ret) .skip)))) (.rg [⟨some 17, .mv (.v 3), none, [3]⟩, ⟨some 18, .binN .add (.v 17) (.c (.int .i64 1)), none, [17]⟩, ⟨some 3, .mv (.v 18), none, [18]⟩] [0, 3])))
/-- impl.isName: function 55 -/
def s_impl_isName : SFun := { n := 41, res := [.t 2], body := (.seq (.rg [⟨some 2, .mv (.c (.bool false)), none, [2]⟩] [0]) (.seq (.seq (.rg [⟨some 5, .mv (.v 0), none, []⟩, ⟨some 6, .lenS (.v 5), none, [5]⟩, ⟨some 7, .bin .lss (.v 6) (.c (.int .i64 1)), none, [6]⟩, ⟨some 8, .mv (.v 7), none, [7]⟩, ⟨some 9, .mv (.v 0), some (8, false), []⟩, ⟨some 10, .lenS (.v 9), some (8, false), [9]⟩, ⟨some 11, .bin .gtr (.v 10) (.c (.int .i64 8)), some (8, false), [10]⟩, ⟨some 12, .pick (.v 8) (.c (.bool true)) (.v 11), none, [8, 11]⟩] [0, 12]) (.cond (.v 12) (.seq (.rg [⟨some 2, .mv (.c (.bool false)), none, []⟩] [2]) .ret) .skip)) (.seq (.seq (.rg [⟨some 3, .mv (.c (.int .i64 0)), none, []⟩] [0, 3]) (.block 0 (.loop l_impl_isName_0))) (.seq (.rg [⟨some 2, .mv (.c (.bool true)), none, []⟩] [2]) .ret)))) }
theorem k_impl_isName : okFun Go.Proofs.Try.prog 55 s_impl_isName = true := by kernel_rfl
def l_slices_IndexFunc_PlanPoint_0 : SCode := (.seq (.rg [⟨some 9, .bin .lss (.v 8) (.v 7), none, []⟩] [0, 1, 7, 8, 9]) (.seq (.cond (.v 9) .skip (.exit 0)) (.seq (.block 1 (.seq (.rg [⟨some 10, .mv (.v 8), none, []⟩, ⟨some 5, .mv (.v 10), none, [10]⟩] [0, 1, 5, 7, 8]) (.seq (.rg [⟨some 11, .mv (.v 1), none, []⟩, ⟨some 12, .mv (.v 0), none, []⟩, ⟨some 13, .mv (.v 5), none, []⟩, ⟨some 14, .iaddr 3 (.v 12) (.v 13), none, [12, 13]⟩, ⟨some 15, .loadN 3 (.v 14), none, [14]⟩, ⟨some 16, .callV (.v 11) [.v 15], none, [11, 15]⟩] [0, 1, 5, 7, 8, 16]) (.cond (.v 16) (.seq (.rg [⟨some 17, .mv (.v 5), none, [5]⟩, ⟨some 4, .mv (.v 17), none, [17]⟩] [4]) .ret) .skip)))) (.rg [⟨some 18, .binN .add (.v 8) (.c (.int .i64 1)), none, [8]⟩, ⟨some 8, .mv (.v 18), none, [18]⟩] [0, 1, 7, 8]))))
/-- impl.PlanPoint]: function 56 -/
def s_slices_IndexFunc_PlanPoint : SFun := { n := 19, res := [.t 4], body := (.seq (.rg [⟨some 4, .mv (.c (.int .i64 0)), none, [4]⟩] [0, 1]) (.seq (.seq (.rg [⟨some 6, .mv (.v 0), none, []⟩, ⟨some 7, .lenL (.v 6), none, [6]⟩, ⟨some 8, .mv (.c (.int .i64 0)), none, []⟩] [0, 1, 7, 8]) (.block 0 (.loop l_slices_IndexFunc_PlanPoint_0))) (.seq (.rg [⟨some 4, .mv (.c (.int .i64 (-1))), none, []⟩] [4]) .ret))) }
theorem k_slices_IndexFunc_PlanPoint : okFun Go.Proofs.Try.prog 56 s_slices_IndexFunc_PlanPoint = true := by kernel_rfl
/-- impl.PlanBase).point$1: function 57 -/
def s_impl_PlanBase_point_1 : SFun := { n := 8, res := [.t 3], body := (.seq (.rg [⟨some 2, .box 102 (.v 0), none, [0]⟩, ⟨some 3, .mv (.c (.bool false)), none, [3]⟩] [1, 2]) (.seq (.rg [⟨some 4, .faddr 0 (.v 2), none, [2]⟩, ⟨some 5, .load1 (.v 4), none, [4]⟩, ⟨some 6, .load1 (.v 1), none, [1]⟩, ⟨some 7, .bin .eql (.v 5) (.v 6), none, [5, 6]⟩, ⟨some 3, .mv (.v 7), none, [7]⟩] [3]) .ret)) }
theorem k_impl_PlanBase_point_1 : okFun Go.Proofs.Try.prog 57 s_impl_PlanBase_point_1 = true := by kernel_rfl
end Go.Ve

namespace Go.Ve
open Go.Proofs
set_option linter.unusedSimpArgs false
set_option linter.unusedVariables false
set_option maxRecDepth 100000
noncomputable abbrev P := Go.Proofs.Try.prog
theorem hm : P.follows .mixedOrders = true := by kernel_rfl
theorem c_within (n lo hi : Int) (hp : True) : Contract P 47 [.int .i64 n, .int .i64 lo, .int .i64 hi] [] (.bool (decide (lo ≤ n ∧ n ≤ hi))) [] := by
  refine fn_sound (Env.nil P) hm k_impl_within (Nat.le_of_ble_eq_true rfl) rfl ?_
  unfold s_impl_within
  simp only [w_skip, w_rg, w_rgd, w_seq, w_cond, w_block, w_loop, w_exit, w_ret, w_gh, w_rg0, w_rg1, w_rgT, w_rgF, w_run, w_psd, w_und, w_dr0, w_dr1, w_drT, w_drF, w_drRun, w_drPsd, w_drUnd, w_drKn, w_drKs, w_putK, w_trimK, w_thenN, w_thenE, w_thenR, w_scope, w_label, w_blkN, w_blkE, w_blkR, w_call, w_effK, brU_true, brU_false, brU_u, brU_not, brU_and, brU_or, brU_dec, brU_eq, brU_ne, br_true, br_false, br_not, br_and, br_or, br_dec, br_eq, br_ne, w_getE0, w_getE1, w_setE0, w_setE1, w_dropE0, w_dropE1, w_drop0, w_drop1, w_getM0, w_getM1, w_setM0, w_setM1, ev_v, ev_c, w_putS, w_putN, w_lit, w_apU0, w_apU1, w_apU2, w_trim, enumE0, enumE1, w_callWp, w_callA0, w_callA1, w_R0, w_R1, w_R2, w_T2, w_callL, w_callT, w_T1, w_T0, o_mv, o_newnil, o_pick, o_bin, o_binN, o_neg, o_not, o_eqB, o_eqS, o_conv, o_alloc, o_box, o_load1, o_loadN, o_store, o_nilck, o_faddr, o_field1, o_fieldN, o_iaddr, o_istr, o_slStr, o_slSl, o_lenS, o_lenL, o_mx, o_mn, o_ext, o_build, o_lit, o_litOwn, o_app, o_appN, rowsN, o_mk, o_mvfrz, l_int, l_bool, l_str, l_agg, l_sl, l_own, l_ptr, l_pp, i_int, i_bool, i_str, i_sl, i_own, i_ptr, i_pp, all0, all1, e_ok1, eff, effBin, effBinN, ld_ptr, ld_pp, ld_elt, ia_own, ia_arr, el_1, el_N, load1K, faddrE, r_iaddr, sg_S, sg_c, sg_n, purL, pur, List.map, List.drop, List.take, List.length, List.foldl, List.append_eq, List.nil_append, List.cons_append, List.getD_cons_zero, List.getD_cons_succ, reduceIte, Nat.reduceEqDiff, Nat.reduceAdd, Nat.reduceLeDiff, true_and, and_true, Bool.not_true, Bool.not_false, Bool.and_true, Bool.true_and, Bool.and_self, reduceCtorEq, true_implies, false_implies, implies_true, decide_eq_true_eq, Option.map_some, fpOf, fpX, SOp.xs, oX, refs, refsL, dom, disj, List.all_nil, List.all_cons, List.contains_cons, List.contains_nil, Nat.reduceBEq, Bool.or_false, Bool.false_or, List.append_nil, Bool.not_false, Bool.not_true, List.forall_mem_cons, fm0, List.set, Nat.reduceLT, Nat.reduceMod, ne_eq, not_false_eq_true, not_true_eq_false
, ret1, ret1N, keep0, keep1, rf_int, rf_bool, rf_str, rf_sl, rf_agg, rf_tup, rfL0, rfL1, re_t, re_cN, re_L0, re_L1, ret_tup, ret_one, decide_true, AV.bool.injEq, AV.int.injEq, Nat.reduceLeDiff, Bool.true_eq, Bool.false_eq, decide_eq_true_eq, decide_eq_false_iff_not]
  repeat' (first | apply And.intro | intro _)
  all_goals (first | trivial | omega | (simp_all; done) | (simp_all; omega))
def t_within : List AV → Option (Prop × AV)
  | [.int .i64 n, .int .i64 lo, .int .i64 hi] => some (True, .bool (decide (lo ≤ n ∧ n ≤ hi)))
  | _ => none
theorem h_within : ∀ args p v, t_within args = some (p, v) → p → Contract P 47 args [] v [] ∧ noref v = true ∧ No99 v := by
  intro args p v h1 h2
  unfold t_within at h1
  split at h1
  · cases h1; exact ⟨c_within _ _ _ h2, rfl, trivial⟩
  · cases h1
theorem c_dist (a b : Int) (hp : -9223372036854775808 ≤ a - b ∧ a - b ≤ 9223372036854775807 ∧ -9223372036854775808 ≤ b - a ∧ b - a ≤ 9223372036854775807) : Contract P 49 [.int .i64 a, .int .i64 b] [] (.int .i64 (max (a - b) (b - a))) [] := by
  refine fn_sound (Env.nil P) hm k_impl_dist (Nat.le_of_ble_eq_true rfl) rfl ?_
  unfold s_impl_dist
  simp only [w_skip, w_rg, w_rgd, w_seq, w_cond, w_block, w_loop, w_exit, w_ret, w_gh, w_rg0, w_rg1, w_rgT, w_rgF, w_run, w_psd, w_und, w_dr0, w_dr1, w_drT, w_drF, w_drRun, w_drPsd, w_drUnd, w_drKn, w_drKs, w_putK, w_trimK, w_thenN, w_thenE, w_thenR, w_scope, w_label, w_blkN, w_blkE, w_blkR, w_call, w_effK, brU_true, brU_false, brU_u, brU_not, brU_and, brU_or, brU_dec, brU_eq, brU_ne, br_true, br_false, br_not, br_and, br_or, br_dec, br_eq, br_ne, w_getE0, w_getE1, w_setE0, w_setE1, w_dropE0, w_dropE1, w_drop0, w_drop1, w_getM0, w_getM1, w_setM0, w_setM1, ev_v, ev_c, w_putS, w_putN, w_lit, w_apU0, w_apU1, w_apU2, w_trim, enumE0, enumE1, w_callWp, w_callA0, w_callA1, w_R0, w_R1, w_R2, w_T2, w_callL, w_callT, w_T1, w_T0, o_mv, o_newnil, o_pick, o_bin, o_binN, o_neg, o_not, o_eqB, o_eqS, o_conv, o_alloc, o_box, o_load1, o_loadN, o_store, o_nilck, o_faddr, o_field1, o_fieldN, o_iaddr, o_istr, o_slStr, o_slSl, o_lenS, o_lenL, o_mx, o_mn, o_ext, o_build, o_lit, o_litOwn, o_app, o_appN, rowsN, o_mk, o_mvfrz, l_int, l_bool, l_str, l_agg, l_sl, l_own, l_ptr, l_pp, i_int, i_bool, i_str, i_sl, i_own, i_ptr, i_pp, all0, all1, e_ok1, eff, effBin, effBinN, ld_ptr, ld_pp, ld_elt, ia_own, ia_arr, el_1, el_N, load1K, faddrE, r_iaddr, sg_S, sg_c, sg_n, purL, pur, List.map, List.drop, List.take, List.length, List.foldl, List.append_eq, List.nil_append, List.cons_append, List.getD_cons_zero, List.getD_cons_succ, reduceIte, Nat.reduceEqDiff, Nat.reduceAdd, Nat.reduceLeDiff, true_and, and_true, Bool.not_true, Bool.not_false, Bool.and_true, Bool.true_and, Bool.and_self, reduceCtorEq, true_implies, false_implies, implies_true, decide_eq_true_eq, Option.map_some, fpOf, fpX, SOp.xs, oX, refs, refsL, dom, disj, List.all_nil, List.all_cons, List.contains_cons, List.contains_nil, Nat.reduceBEq, Bool.or_false, Bool.false_or, List.append_nil, Bool.not_false, Bool.not_true, List.forall_mem_cons, fm0, List.set, Nat.reduceLT, Nat.reduceMod, ne_eq, not_false_eq_true, not_true_eq_false
, ret1, ret1N, keep0, keep1, rf_int, rf_bool, rf_str, rf_sl, rf_agg, rf_tup, rfL0, rfL1, re_t, re_cN, re_L0, re_L1, ret_tup, ret_one, decide_true, AV.bool.injEq, AV.int.injEq, Nat.reduceLeDiff, Bool.true_eq, Bool.false_eq, decide_eq_true_eq, decide_eq_false_iff_not]
  repeat' (first | apply And.intro | intro _)
  all_goals (first | trivial | omega | (simp_all; done) | (simp_all; omega))
def t_dist : List AV → Option (Prop × AV)
  | [.int .i64 a, .int .i64 b] => some (-9223372036854775808 ≤ a - b ∧ a - b ≤ 9223372036854775807 ∧ -9223372036854775808 ≤ b - a ∧ b - a ≤ 9223372036854775807, .int .i64 (max (a - b) (b - a)))
  | _ => none
theorem h_dist : ∀ args p v, t_dist args = some (p, v) → p → Contract P 49 args [] v [] ∧ noref v = true ∧ No99 v := by
  intro args p v h1 h2
  unfold t_dist at h1
  split at h1
  · cases h1; exact ⟨c_dist _ _ h2, rfl, trivial⟩
  · cases h1
structure Box6 where
  x : Int
  y : Int
  l : Int
  h : Int
  i : Int
  o : Int
  deriving Inhabited
def Box6.row (b : Box6) : List AV := [.int .i64 b.x, .int .i64 b.y, .int .i64 b.l, .int .i64 b.h, .int .i64 b.i, .int .i64 b.o]
def Box6.ok (b : Box6) : Prop := (0 ≤ b.x ∧ b.x ≤ 15) ∧ (0 ≤ b.y ∧ b.y ≤ 15) ∧ 0 ≤ b.l ∧ b.l ≤ b.h ∧ b.h ≤ 6 ∧ 0 ≤ b.i ∧ b.i ≤ b.o ∧ b.o ≤ 10000
instance (b : Box6) : Decidable b.ok := by unfold Box6.ok; infer_instance
structure Stp7 where
  x : Int
  y : Int
  l : Int
  h : Int
  f : Int
  b : Int
  hold : Bool
  deriving Inhabited
def Stp7.row (s : Stp7) : List AV := [.int .i64 s.x, .int .i64 s.y, .int .i64 s.l, .int .i64 s.h, .int .i64 s.f, .int .i64 s.b, .bool s.hold]
def Stp7.ok (s : Stp7) : Prop := (0 ≤ s.x ∧ s.x ≤ 15) ∧ (0 ≤ s.y ∧ s.y ≤ 15) ∧ 0 ≤ s.l ∧ s.l ≤ s.h ∧ s.h ≤ 6 ∧ 0 ≤ s.f ∧ s.f ≤ s.b ∧ s.b ≤ 10000
instance (s : Stp7) : Decidable s.ok := by unfold Stp7.ok; infer_instance
def Stp7.nb (a s : Stp7) : Prop := (-1 ≤ a.x - s.x ∧ a.x - s.x ≤ 1) ∧ (-1 ≤ a.y - s.y ∧ a.y - s.y ≤ 1) ∧ ¬ (a.x = s.x ∧ a.y = s.y) ∧ a.l ≤ s.h ∧ s.l ≤ a.h
instance (a s : Stp7) : Decidable (a.nb s) := by unfold Stp7.nb; infer_instance
end Go.Ve

namespace Go.Ve
open Go.Proofs
set_option linter.unusedSimpArgs false
set_option linter.unusedVariables false
set_option maxRecDepth 100000
theorem toNat_pred (i : Nat) : ((i : Int) - 1).toNat = i - 1 := by omega
def pathOk (q s : Int) (l : List Stp7) (f b : Int) : Prop :=
  (1 ≤ q ∧ q ≤ s ∧ s ≤ 50) ∧ (1 ≤ l.length ∧ l.length ≤ 40) ∧ (0 ≤ f ∧ f ≤ b ∧ b ≤ 10000) ∧ ∀ i, i < l.length → (l.getD i default).ok ∧ (0 < i → Stp7.nb (l.getD (i - 1) default) (l.getD i default))
instance (q s : Int) (l : List Stp7) (f b : Int) : Decidable (pathOk q s l f b) := by unfold pathOk; infer_instance
end Go.Ve

namespace Go.Ve
open Go.Proofs
set_option linter.unusedSimpArgs false
set_option linter.unusedVariables false
set_option maxRecDepth 100000
end Go.Ve

namespace Go.Ve
open Go.Proofs
set_option linter.unusedSimpArgs false
set_option linter.unusedVariables false
set_option maxRecDepth 100000
structure Path5 where
  q : Int
  s : Int
  l : List Stp7
  f : Int
  b : Int
  deriving Inhabited
def lapStep (l : List Box6) (i : Nat) : Stp7 := ⟨(l.getD i default).x, (l.getD i default).y, (l.getD i default).l, (l.getD i default).h, (l.getD i default).i, if 0 < i then min (l.getD i default).o ((l.getD (i - 1) default).o + 1) else (l.getD i default).o, false⟩
def lapF (l : List Box6) (i : Nat) : Int := if 0 < i then (l.getD (i - 1) default).i else 0
def lapB (l : List Box6) (i : Nat) : Int := if 0 < i then (l.getD (i - 1) default).o + 1 else 0
def lapTo (q s : Int) (l : List Box6) (i : Nat) : Path5 := ⟨q, s, (List.range i).map (lapStep l), lapF l i, lapB l i⟩
def lapOk (q s : Int) (l : List Box6) : Prop := (∀ i, i < l.length → (l.getD i default).ok) ∧ pathOk q s (lapTo q s l l.length).l (lapF l l.length) (lapB l l.length)
instance (q s : Int) (l : List Box6) : Decidable (lapOk q s l) := by unfold lapOk; infer_instance
end Go.Ve

namespace Go.Ve
open Go.Proofs
set_option linter.unusedSimpArgs false
set_option linter.unusedVariables false
set_option maxRecDepth 100000
def Path5.low (p : Path5) (k : Nat) : Int := if k < p.l.length then (p.l.getD k default).f else p.f
def Path5.high (p : Path5) (k : Nat) : Int := if k < p.l.length then (p.l.getD k default).b else p.b
def Path5.most (p : Path5) (k : Nat) : Int := if (p.l.getD k default).hold then 10000 else p.s
structure Span2 where
  lo : Int
  hi : Int
  deriving Inhabited
def Span2.row (s : Span2) : List AV := [.int .i64 s.lo, .int .i64 s.hi]
/-- Ahead: the earliest and the latest, from the first step on. -/
def Path5.fwd (p : Path5) : Nat → Span2
  | 0 => ⟨p.low 0, p.high 0⟩
  | k + 1 => ⟨max (p.low (k + 1)) ((p.fwd k).lo + p.q), min (p.high (k + 1)) ((p.fwd k).hi + p.most k)⟩
/-- Back again, from the last one. -/
def Path5.bwd (p : Path5) : Nat → Span2
  | 0 => p.fwd p.l.length
  | d + 1 => ⟨max (p.fwd (p.l.length - (d + 1))).lo ((p.bwd d).lo - p.most (p.l.length - (d + 1))), min (p.fwd (p.l.length - (d + 1))).hi ((p.bwd d).hi - p.q)⟩
def Path5.span (p : Path5) (k : Nat) : Span2 := p.bwd (p.l.length - k)
def Path5.can (p : Path5) : Prop := ∀ k, k < p.l.length + 1 → (p.span k).lo ≤ (p.span k).hi
instance (p : Path5) : Decidable p.can := by unfold Path5.can; infer_instance
def Path5.spans (p : Path5) : List Span2 := if p.can then (List.range (p.l.length + 1)).map p.span else []
/-- What the passes ask of the numbers. -/
structure Path5.calm (p : Path5) : Prop where
  q : 0 ≤ p.q ∧ p.q ≤ 50
  s : 0 ≤ p.s ∧ p.s ≤ 50
  n : p.l.length ≤ 1048576
  lo : ∀ k, k ≤ p.l.length → 0 ≤ p.low k
  hi : ∀ k, k ≤ p.l.length → p.high k ≤ 10000
theorem Path5.calm.most {p : Path5} (h : p.calm) (k : Nat) : 0 ≤ p.most k ∧ p.most k ≤ 10000 := by
  unfold Path5.most
  have := h.s
  split <;> omega
end Go.Ve

namespace Go.Ve
open Go.Proofs
set_option linter.unusedSimpArgs false
set_option linter.unusedVariables false
set_option maxRecDepth 100000
def irow (n : Int) : List AV := [.int .i64 n]
def unI : List AV → Int
  | [.int _ n] => n
  | _ => 0
theorem un_i (l : List Int) : (l.map irow).map unI = l := by
  rw [List.map_map]; exact List.map_id'' (fun s => rfl) l
/-- What the program starts from. -/
def Path5.ini (p : Path5) (bg : List Int) (k : Nat) : Span2 := if k < bg.length then ⟨max (p.low k) (bg.getD k default), min (p.high k) (bg.getD k default)⟩ else ⟨p.low k, p.high k⟩
/-- Ahead, as the program does it. -/
def Path5.wf (p : Path5) (bg : List Int) : Nat → Span2
  | 0 => p.ini bg 0
  | k + 1 => ⟨max (p.ini bg (k + 1)).lo (IntKind.i64.wrap ((p.wf bg k).lo + p.q)), if (p.l.getD k default).hold then (p.ini bg (k + 1)).hi else min (p.ini bg (k + 1)).hi (IntKind.i64.wrap ((p.wf bg k).hi + p.s))⟩
/-- Back again, as the program does it. -/
def Path5.wb (p : Path5) (bg : List Int) : Nat → Span2
  | 0 => p.wf bg p.l.length
  | d + 1 => ⟨if (p.l.getD (p.l.length - (d + 1)) default).hold then (p.wf bg (p.l.length - (d + 1))).lo else max (p.wf bg (p.l.length - (d + 1))).lo (IntKind.i64.wrap ((p.wb bg d).lo - p.s)), min (p.wf bg (p.l.length - (d + 1))).hi (IntKind.i64.wrap ((p.wb bg d).hi - p.q))⟩
def Path5.wsp (p : Path5) (bg : List Int) (j : Nat) : Span2 := p.wb bg (p.l.length - j)
def Path5.wcan (p : Path5) (bg : List Int) : Prop := ∀ k, k < p.l.length + 1 → (p.wsp bg k).lo ≤ (p.wsp bg k).hi
instance (p : Path5) (bg : List Int) : Decidable (p.wcan bg) := by unfold Path5.wcan; infer_instance
end Go.Ve

namespace Go.Ve
open Go.Proofs
set_option linter.unusedSimpArgs false
set_option linter.unusedVariables false
set_option maxRecDepth 100000
def heldStep (p : Path5) (bg : List Int) (k j : Nat) : Stp7 := if j < k then { p.l.getD j default with f := max (p.l.getD j default).f (bg.getD j default), b := min (p.l.getD j default).b (bg.getD j default) } else p.l.getD j default
def Path5.held (p : Path5) (bg : List Int) : Path5 := ⟨p.q, p.s, (List.range p.l.length).map (heldStep p bg bg.length), p.f, p.b⟩
end Go.Ve

namespace Go.Ve
open Go.Proofs
set_option linter.unusedSimpArgs false
set_option linter.unusedVariables false
set_option maxRecDepth 100000
def Path5.begun (p : Path5) (bg : List Int) : Prop := pathOk p.q p.s p.l p.f p.b ∧ bg.length ≤ p.l.length ∧ (p.held bg).can
instance (p : Path5) (bg : List Int) : Decidable (p.begun bg) := by unfold Path5.begun; infer_instance
def Path5.next (p : Path5) (bg : List Int) : Span2 := if p.begun bg then (p.held bg).span bg.length else ⟨0, 0⟩
end Go.Ve

namespace Go.Ve
set_option linter.unusedSimpArgs false
set_option linter.unusedVariables false
/-! The program's passes and the reference's come to the same. -/
section
variable {p : Path5} {bg : List Int}
end
end Go.Ve

namespace Go.Ve
open Go.Proofs
set_option linter.unusedSimpArgs false
set_option linter.unusedVariables false
set_option maxRecDepth 100000
end Go.Ve

namespace Go.Ve
open Go.Proofs
set_option linter.unusedSimpArgs false
set_option linter.unusedVariables false
set_option maxRecDepth 100000
def Path5.fit (p : Path5) : Prop := pathOk p.q p.s p.l p.f p.b ∧ p.can
instance (p : Path5) : Decidable p.fit := by unfold Path5.fit; infer_instance
end Go.Ve

namespace Go.Ve
open Go.Proofs
set_option linter.unusedSimpArgs false
set_option linter.unusedVariables false
set_option maxRecDepth 100000
def unBox : List AV → Box6
  | [.int _ x, .int _ y, .int _ l, .int _ h, .int _ i, .int _ o] => ⟨x, y, l, h, i, o⟩
  | _ => default
theorem un_box (l : List Box6) : (l.map Box6.row).map unBox = l := by
  rw [List.map_map]; exact List.map_id'' (fun s => rfl) l
end Go.Ve

namespace Go.Ve
open Go.Proofs
set_option linter.unusedSimpArgs false
set_option linter.unusedVariables false
set_option maxRecDepth 100000
theorem ext_of {α : Type} [Inhabited α] {a b : List α} (hl : a.length = b.length) (h : ∀ j, j < a.length → a.getD j default = b.getD j default) : a = b := by
  refine List.ext_getElem hl fun j h1 h2 => ?_
  have := h j h1
  simpa [h1, h2] using this
end Go.Ve

namespace Go.Ve
open Go.Proofs
set_option linter.unusedSimpArgs false
set_option linter.unusedVariables false
set_option maxRecDepth 100000
end Go.Ve

namespace Go.Ve
open Go.Proofs
set_option linter.unusedSimpArgs false
set_option linter.unusedVariables false
set_option maxRecDepth 100000
theorem take_all {α : Type} {f : α → List AV} {l : List α} : List.take l.length (List.map f l) = List.map f l := List.take_of_length_le (by simp)
def Path5.tail (p : Path5) (k : Nat) : Path5 := { p with l := p.l.drop k }
def Path5.after (p : Path5) (now : Int) : Path5 := if 1 < p.l.length then { p with l := p.l.set 1 { p.l.getD 1 default with f := max (p.l.getD 1 default).f (now + 1) } } else { p with f := max p.f (now + 1) }
end Go.Ve

namespace Go.Ve
set_option linter.unusedSimpArgs false
set_option linter.unusedVariables false
/-! The spans are those of flights. -/
section
variable {p : Path5}
end

/-! A path begun later, or at a later step. -/
/-- The first step's ticks set anew. -/
def Path5.first (p : Path5) (f b : Int) : Path5 := { p with l := p.l.set 0 { p.l.getD 0 default with f := f, b := b } }
def Path5.rest (p : Path5) (k : Nat) (f b now : Int) : Path5 := ((p.tail k).first f b).after now
section
variable {p : Path5} {k : Nat} {f b now : Int}
end
/-! Waiting ahead of the first step. -/
def Path5.wait (p : Path5) (now : Int) : Path5 := { p with l := p.l.set 0 { p.l.getD 0 default with f := max (p.l.getD 0 default).f (now + 1) } }
end Go.Ve

namespace Go.Ve
open Go.Proofs
set_option linter.unusedSimpArgs false
set_option linter.unusedVariables false
set_option maxRecDepth 100000
def Path5.restAt (p : Path5) (k e now : Int) : Path5 := p.rest k.toNat (max (p.l.getD k.toNat default).f e) (min (p.l.getD k.toNat default).b e) now
def Path5.goes (p : Path5) (k e now : Int) : Prop := pathOk p.q p.s p.l p.f p.b ∧ (0 ≤ k ∧ k < p.l.length) ∧ (0 ≤ e ∧ e ≤ now ∧ now ≤ 10000) ∧ (p.restAt k e now).can
instance (p : Path5) (k e now : Int) : Decidable (p.goes k e now) := by unfold Path5.goes; infer_instance
end Go.Ve

namespace Go.Ve
open Go.Proofs
set_option linter.unusedSimpArgs false
set_option linter.unusedVariables false
set_option maxRecDepth 100000
end Go.Ve

namespace Go.Ve
open Go.Proofs
set_option linter.unusedSimpArgs false
set_option linter.unusedVariables false
set_option maxRecDepth 100000
/-- The aircraft can stay where it is behind now. -/
def Path5.stays (p : Path5) (bg : List Int) (now : Int) : Prop := if bg.length = 0 then pathOk p.q p.s p.l p.f p.b ∧ (p.wait now).can else p.goes ((bg.length : Int) - 1) (bg.getD (bg.length - 1) default) now
instance (p : Path5) (bg : List Int) (now : Int) : Decidable (p.stays bg now) := by unfold Path5.stays; infer_instance
end Go.Ve

namespace Go.Ve
open Go.Proofs
set_option linter.unusedSimpArgs false
set_option linter.unusedVariables false
set_option maxRecDepth 100000
def Path5.must (p : Path5) (bg : List Int) (now : Int) : Prop := p.begun bg ∧ ((p.next bg).lo ≤ now ∧ now ≤ (p.next bg).hi) ∧ ¬ p.stays bg now
instance (p : Path5) (bg : List Int) (now : Int) : Decidable (p.must bg now) := by unfold Path5.must; infer_instance
end Go.Ve

namespace Go.Ve
open Go.Proofs
set_option linter.unusedSimpArgs false
set_option linter.unusedVariables false
set_option maxRecDepth 100000
def szOf (a : Int) (n : Nat) : Int := if a - n < 0 then -1 else a - n
theorem Box6.eq_iff (a b : Box6) : a = b ↔ a.x = b.x ∧ a.y = b.y ∧ a.l = b.l ∧ a.h = b.h ∧ a.i = b.i ∧ a.o = b.o := ⟨fun h => by subst h; exact ⟨rfl, rfl, rfl, rfl, rfl, rfl⟩, fun h => by
  cases a; cases b; simp only at h; simp only [Box6.mk.injEq]; exact h⟩
instance : DecidableEq Box6 := fun a b => decidable_of_iff _ (Box6.eq_iff a b).symm
end Go.Ve

namespace Go.Ve
open Go.Proofs
set_option linter.unusedSimpArgs false
set_option linter.unusedVariables false
set_option maxRecDepth 100000
structure Kind2 where
  q : Int
  s : Int
  deriving Inhabited
theorem no99_i (l : List Int) : No99LL (l.map irow) := by
  induction l with
  | nil => trivial
  | cons x l ih => exact ⟨⟨trivial, trivial⟩, ih⟩
theorem no99_box (l : List Box6) : No99LL (l.map Box6.row) := by
  induction l with
  | nil => trivial
  | cons x l ih => exact ⟨⟨trivial, trivial, trivial, trivial, trivial, trivial, trivial⟩, ih⟩
theorem Kind2.eq_iff (a b : Kind2) : a = b ↔ a.q = b.q ∧ a.s = b.s := ⟨fun h => by subst h; exact ⟨rfl, rfl⟩, fun h => by
  cases a; cases b; simp only at h; simp only [Kind2.mk.injEq]; exact h⟩
instance : DecidableEq Kind2 := fun a b => decidable_of_iff _ (Kind2.eq_iff a b).symm
end Go.Ve

namespace Go.Ve
noncomputable section
open Go.Proofs
set_option linter.unusedSimpArgs false
set_option linter.unusedVariables false
set_option maxRecDepth 100000
structure Zone where
  nm : ByteArray
  x0 : Int
  y0 : Int
  x1 : Int
  y1 : Int
  deriving Inhabited, DecidableEq
def Zone.row (s : Zone) : List AV := [.str s.nm, .int .i64 s.x0, .int .i64 s.y0, .int .i64 s.x1, .int .i64 s.y1]
def unZone : List AV → Zone
  | [.str vnm, .int .i64 vx0, .int .i64 vy0, .int .i64 vx1, .int .i64 vy1] => (Zone.mk vnm vx0 vy0 vx1 vy1)
  | _ => default
theorem unZone_row (s : Zone) : unZone (Zone.row s) = s := by
  cases s; simp only [Zone.row, unZone]
theorem un_Zone (l : List Zone) : (l.map Zone.row).map unZone = l := by
  rw [List.map_map]; exact List.map_id'' (fun s => unZone_row s) l
theorem Zone_eta (s : Zone) : (Zone.mk s.nm s.x0 s.y0 s.x1 s.y1) = s := (rfl)
theorem no99_Zone (l : List Zone) : No99LL (l.map Zone.row) := by
  induction l with
  | nil => simp [No99LL]
  | cons x l ih => simp only [List.map_cons, No99LL]; exact ⟨by simp [Zone.row, No99L, No99], ih⟩
structure Word where
  kd : Int
  fr : ByteArray
  dst : ByteArray
  fl : ByteArray
  nr : Int
  la : Int
  tn : Int
  tu : List Box6
  deriving Inhabited, DecidableEq
def Word.row (t : Nat) (s : Word) : List AV := [.int .i64 s.kd, .str s.fr, .str s.dst, .str s.fl, .int .i64 s.nr, .int .i64 s.la, .int .i64 s.tn, .sl t 6 (s.tu.map Box6.row)]
def unWord : List AV → Word
  | [.int .i64 vkd, .str vfr, .str vdst, .str vfl, .int .i64 vnr, .int .i64 vla, .int .i64 vtn, .sl _ 6 vtu] => (Word.mk vkd vfr vdst vfl vnr vla vtn (vtu.map unBox))
  | _ => default
theorem unWord_row (t : Nat) (s : Word) : unWord (Word.row t s) = s := by
  cases s; simp only [Word.row, unWord, un_box]
theorem un_Word (t : Nat) (l : List Word) : (l.map (Word.row t)).map unWord = l := by
  rw [List.map_map]; exact List.map_id'' (fun s => unWord_row t s) l
theorem Word_eta (s : Word) : (Word.mk s.kd s.fr s.dst s.fl s.nr s.la s.tn s.tu) = s := (rfl)
theorem no99_Word (l : List Word) : No99LL (l.map (Word.row 0)) := by
  induction l with
  | nil => simp [No99LL]
  | cons x l ih => simp only [List.map_cons, No99LL]; exact ⟨by simp [Word.row, No99L, No99, no99_box], ih⟩
structure Own where
  fl : ByteArray
  st : Int
  tn : Int
  dst : ByteArray
  la : Int
  nr : Int
  tu : List Box6
  wi : Int
  nx : List Box6
  gr : List ByteArray
  sent : Bool
  deriving Inhabited, DecidableEq
def Own.row (t : Nat) (s : Own) : List AV := [.str s.fl, .int .i64 s.st, .int .i64 s.tn, .str s.dst, .int .i64 s.la, .int .i64 s.nr, .sl t 6 (s.tu.map Box6.row), .int .i64 s.wi, .sl t 6 (s.nx.map Box6.row), .sl t 1 (s.gr.map srow), .bool s.sent]
def unOwn : List AV → Own
  | [.str vfl, .int .i64 vst, .int .i64 vtn, .str vdst, .int .i64 vla, .int .i64 vnr, .sl _ 6 vtu, .int .i64 vwi, .sl _ 6 vnx, .sl _ 1 vgr, .bool vsent] => (Own.mk vfl vst vtn vdst vla vnr (vtu.map unBox) vwi (vnx.map unBox) (vgr.map unS) vsent)
  | _ => default
theorem unOwn_row (t : Nat) (s : Own) : unOwn (Own.row t s) = s := by
  cases s; simp only [Own.row, unOwn, un_box, un_box, un_s]
theorem un_Own (t : Nat) (l : List Own) : (l.map (Own.row t)).map unOwn = l := by
  rw [List.map_map]; exact List.map_id'' (fun s => unOwn_row t s) l
theorem Own_eta (s : Own) : (Own.mk s.fl s.st s.tn s.dst s.la s.nr s.tu s.wi s.nx s.gr s.sent) = s := (rfl)
theorem no99_Own (l : List Own) : No99LL (l.map (Own.row 0)) := by
  induction l with
  | nil => simp [No99LL]
  | cons x l ih => simp only [List.map_cons, No99LL]; exact ⟨by simp [Own.row, No99L, No99, no99_box, no99_box, no99_str], ih⟩
structure Part where
  fl : ByteArray
  nr : Int
  bx : List Box6
  deriving Inhabited, DecidableEq
def Part.row (t : Nat) (s : Part) : List AV := [.str s.fl, .int .i64 s.nr, .sl t 6 (s.bx.map Box6.row)]
def unPart : List AV → Part
  | [.str vfl, .int .i64 vnr, .sl _ 6 vbx] => (Part.mk vfl vnr (vbx.map unBox))
  | _ => default
theorem unPart_row (t : Nat) (s : Part) : unPart (Part.row t s) = s := by
  cases s; simp only [Part.row, unPart, un_box]
theorem un_Part (t : Nat) (l : List Part) : (l.map (Part.row t)).map unPart = l := by
  rw [List.map_map]; exact List.map_id'' (fun s => unPart_row t s) l
theorem Part_eta (s : Part) : (Part.mk s.fl s.nr s.bx) = s := (rfl)
theorem no99_Part (l : List Part) : No99LL (l.map (Part.row 0)) := by
  induction l with
  | nil => simp [No99LL]
  | cons x l ih => simp only [List.map_cons, No99LL]; exact ⟨by simp [Part.row, No99L, No99, no99_box], ih⟩
structure Seen where
  fl : ByteArray
  nr : Int
  deriving Inhabited, DecidableEq
def Seen.row (s : Seen) : List AV := [.str s.fl, .int .i64 s.nr]
def unSeen : List AV → Seen
  | [.str vfl, .int .i64 vnr] => (Seen.mk vfl vnr)
  | _ => default
theorem unSeen_row (s : Seen) : unSeen (Seen.row s) = s := by
  cases s; simp only [Seen.row, unSeen]
theorem un_Seen (l : List Seen) : (l.map Seen.row).map unSeen = l := by
  rw [List.map_map]; exact List.map_id'' (fun s => unSeen_row s) l
theorem Seen_eta (s : Seen) : (Seen.mk s.fl s.nr) = s := (rfl)
theorem no99_Seen (l : List Seen) : No99LL (l.map Seen.row) := by
  induction l with
  | nil => simp [No99LL]
  | cons x l ih => simp only [List.map_cons, No99LL]; exact ⟨by simp [Seen.row, No99L, No99], ih⟩
structure Book where
  own : List Own
  parts : List Part
  seen : List Seen
  deriving Inhabited, DecidableEq
def Book.row (t : Nat) (s : Book) : List AV := [.sl t 11 (s.own.map (Own.row t)), .sl t 3 (s.parts.map (Part.row t)), .sl t 2 (s.seen.map Seen.row)]
def unBook : List AV → Book
  | [.sl _ 11 vown, .sl _ 3 vparts, .sl _ 2 vseen] => (Book.mk (vown.map unOwn) (vparts.map unPart) (vseen.map unSeen))
  | _ => default
theorem unBook_row (t : Nat) (s : Book) : unBook (Book.row t s) = s := by
  cases s; simp only [Book.row, unBook, un_Own, un_Part, un_Seen]
theorem un_Book (t : Nat) (l : List Book) : (l.map (Book.row t)).map unBook = l := by
  rw [List.map_map]; exact List.map_id'' (fun s => unBook_row t s) l
theorem Book_eta (s : Book) : (Book.mk s.own s.parts s.seen) = s := (rfl)
theorem no99_Book (l : List Book) : No99LL (l.map (Book.row 0)) := by
  induction l with
  | nil => simp [No99LL]
  | cons x l ih => simp only [List.map_cons, No99LL]; exact ⟨by simp [Book.row, No99L, No99, no99_Own, no99_Part, no99_Seen], ih⟩
structure Sector where
  up : Bool
  mo : List Own
  mp : List Part
  ms : List Seen
  dn : List Own
  dp : List Part
  ds : List Seen
  ot : List Word
  deriving Inhabited, DecidableEq
def Sector.row (t : Nat) (s : Sector) : List AV := [.bool s.up, .sl t 11 (s.mo.map (Own.row t)), .sl t 3 (s.mp.map (Part.row t)), .sl t 2 (s.ms.map Seen.row), .sl t 11 (s.dn.map (Own.row t)), .sl t 3 (s.dp.map (Part.row t)), .sl t 2 (s.ds.map Seen.row), .sl t 8 (s.ot.map (Word.row t))]
def unSector : List AV → Sector
  | [.bool vup, .sl _ 11 vmo, .sl _ 3 vmp, .sl _ 2 vms, .sl _ 11 vdn, .sl _ 3 vdp, .sl _ 2 vds, .sl _ 8 vot] => (Sector.mk vup (vmo.map unOwn) (vmp.map unPart) (vms.map unSeen) (vdn.map unOwn) (vdp.map unPart) (vds.map unSeen) (vot.map unWord))
  | _ => default
theorem unSector_row (t : Nat) (s : Sector) : unSector (Sector.row t s) = s := by
  cases s; simp only [Sector.row, unSector, un_Own, un_Part, un_Seen, un_Own, un_Part, un_Seen, un_Word]
theorem un_Sector (t : Nat) (l : List Sector) : (l.map (Sector.row t)).map unSector = l := by
  rw [List.map_map]; exact List.map_id'' (fun s => unSector_row t s) l
theorem Sector_eta (s : Sector) : (Sector.mk s.up s.mo s.mp s.ms s.dn s.dp s.ds s.ot) = s := (rfl)
theorem no99_Sector (l : List Sector) : No99LL (l.map (Sector.row 0)) := by
  induction l with
  | nil => simp [No99LL]
  | cons x l ih => simp only [List.map_cons, No99LL]; exact ⟨by simp [Sector.row, No99L, No99, no99_Own, no99_Part, no99_Seen, no99_Own, no99_Part, no99_Seen, no99_Word], ih⟩
structure HCraft where
  nm : ByteArray
  nr : Int
  no : Int
  tu : List Box6
  deriving Inhabited, DecidableEq
def HCraft.row (t : Nat) (s : HCraft) : List AV := [.str s.nm, .int .i64 s.nr, .int .i64 s.no, .sl t 6 (s.tu.map Box6.row)]
def unHCraft : List AV → HCraft
  | [.str vnm, .int .i64 vnr, .int .i64 vno, .sl _ 6 vtu] => (HCraft.mk vnm vnr vno (vtu.map unBox))
  | _ => default
theorem unHCraft_row (t : Nat) (s : HCraft) : unHCraft (HCraft.row t s) = s := by
  cases s; simp only [HCraft.row, unHCraft, un_box]
theorem un_HCraft (t : Nat) (l : List HCraft) : (l.map (HCraft.row t)).map unHCraft = l := by
  rw [List.map_map]; exact List.map_id'' (fun s => unHCraft_row t s) l
theorem HCraft_eta (s : HCraft) : (HCraft.mk s.nm s.nr s.no s.tu) = s := (rfl)
theorem no99_HCraft (l : List HCraft) : No99LL (l.map (HCraft.row 0)) := by
  induction l with
  | nil => simp [No99LL]
  | cons x l ih => simp only [List.map_cons, No99LL]; exact ⟨by simp [HCraft.row, No99L, No99, no99_box], ih⟩
structure World where
  zones : List Zone
  secs : List Sector
  crafts : List HCraft
  radio : List Word
  deriving Inhabited, DecidableEq
def World.row (t : Nat) (s : World) : List AV := [.sl t 5 (s.zones.map Zone.row), .sl t 8 (s.secs.map (Sector.row t)), .sl t 4 (s.crafts.map (HCraft.row t)), .sl t 8 (s.radio.map (Word.row t))]
def unWorld : List AV → World
  | [.sl _ 5 vzones, .sl _ 8 vsecs, .sl _ 4 vcrafts, .sl _ 8 vradio] => (World.mk (vzones.map unZone) (vsecs.map unSector) (vcrafts.map unHCraft) (vradio.map unWord))
  | _ => default
theorem unWorld_row (t : Nat) (s : World) : unWorld (World.row t s) = s := by
  cases s; simp only [World.row, unWorld, un_Zone, un_Sector, un_HCraft, un_Word]
theorem un_World (t : Nat) (l : List World) : (l.map (World.row t)).map unWorld = l := by
  rw [List.map_map]; exact List.map_id'' (fun s => unWorld_row t s) l
theorem World_eta (s : World) : (World.mk s.zones s.secs s.crafts s.radio) = s := (rfl)
theorem no99_World (l : List World) : No99LL (l.map (World.row 0)) := by
  induction l with
  | nil => simp [No99LL]
  | cons x l ih => simp only [List.map_cons, No99LL]; exact ⟨by simp [World.row, No99L, No99, no99_Zone, no99_Sector, no99_HCraft, no99_Word], ih⟩
theorem c_isName (s : ByteArray) : Contract P 55 [.str s] [] (.bool (decide (nameOk s))) [] := by
  refine fn_sound (Env.nil P) hm k_impl_isName (Nat.le_of_ble_eq_true rfl) rfl ?_; unfold s_impl_isName; simp (config := { maxSteps := 2000000 }) only [bitvec_to_nat, reduceIte, Nat.reduceEqDiff, Nat.reduceAdd, Nat.reduceLeDiff, reduceCtorEq, Nat.reduceBEq, Nat.reduceLT, Nat.reduceMod, List.forall_mem_cons]
  refine ⟨fun h1 => ?_, fun h1 => ⟨fun h2 => ?_, fun h2 => ?_⟩⟩
  · grind [nameOk]
  · grind [nameOk]
  · refine loop_st (fun i : Nat => [(3, .int .i64 i)]) (fun _ => []) (fun i => i ≤ s.toList.length ∧ ∀ j, j < i → charOk (s.toList.getD j 0)) (fun i => s.toList.length - i) (0) (by simp only [u_E0, u_E1, u_M0, u_M1, w_setE0, w_setE1, w_setM0, w_setM1, reduceIte, Nat.reduceEqDiff]; exact ⟨by repeat' (first | exact trivial | refine ⟨.inr rfl, ?_⟩), by repeat' (first | exact trivial | refine ⟨rfl, ?_⟩), by first | rfl | simp [closedB, refsIn, refsInL, refsInO, dom, refsInL_nr, *], by first | rfl | simp [keepB, dom]⟩) ?_ ?_
    · exact ⟨Nat.zero_le _, by intro j hj; omega⟩
    intro i hi NX hN
    unfold l_impl_isName_0; simp (config := { maxSteps := 2000000 }) only [bitvec_to_nat, reduceIte, Nat.reduceEqDiff, Nat.reduceAdd, Nat.reduceLeDiff, reduceCtorEq, Nat.reduceBEq, Nat.reduceLT, Nat.reduceMod, List.forall_mem_cons]
    repeat' (first | apply And.intro | intro _)
    all_goals first
      | omega
      | (refine hN (i + 1) _ (by simp only [u_E0, u_E1, u_M0, u_M1, w_setE0, w_setE1, w_setM0, w_setM1, reduceIte, Nat.reduceEqDiff]; exact ⟨by repeat' (first | exact trivial | refine ⟨.inr rfl, ?_⟩), by repeat' (first | exact trivial | refine ⟨rfl, ?_⟩), by first | rfl | simp [closedB, refsIn, refsInL, refsInO, dom, refsInL_nr, *], by first | rfl | simp [keepB, dom]⟩) ?_ ?_
         · exact ⟨by omega, all_snoc hi.2 (by grind [charOk])⟩
         · omega)
      | grind [nameOk, charOk]
end
end Go.Ve

namespace Go.Ve
noncomputable section
open Go.Proofs
set_option linter.unusedSimpArgs false
set_option linter.unusedVariables false
set_option maxRecDepth 100000
theorem tk_map {α : Type} {f : α → List AV} {l : List α} {n : Nat} : List.take n (List.map f l) = List.map f (List.take n l) := (List.map_take).symm
theorem dp_map {α : Type} {f : α → List AV} {l : List α} {n : Nat} : List.drop n (List.map f l) = List.map f (List.drop n l) := (List.map_drop).symm
def t_isName : List AV → Option (Prop × AV)
  | [.str s] => some ((True) ∧ (True), .bool (decide (nameOk s)))
  | _ => none
theorem h_isName : ∀ args p v, t_isName args = some (p, v) → p → Contract P 55 args [] v [] ∧ noref v = true ∧ No99 v := by
  intro args p v h1 h2
  unfold t_isName at h1
  split at h1
  · rename_i s
    cases h1
    obtain ⟨_, HP⟩ := h2
    have := c_isName s
    exact ⟨this, rfl, trivial⟩
  · cases h1
def Zone.ok (z : Zone) : Prop := nameOk z.nm ∧ (0 ≤ z.x0 ∧ z.x0 ≤ z.x1 ∧ z.x1 < 16) ∧ (0 ≤ z.y0 ∧ z.y0 ≤ z.y1 ∧ z.y1 < 16)
def Zone.meet (o z : Zone) : Prop := o.x0 ≤ z.x1 ∧ z.x0 ≤ o.x1 ∧ o.y0 ≤ z.y1 ∧ z.y0 ≤ o.y1
def zoneAt (zs : List Zone) (i : Nat) : Prop := (zs.getD i default).ok ∧ (0 < i → slt (zs.getD (i - 1) default).nm (zs.getD i default).nm) ∧ ∀ k, k < i → ¬ (zs.getD k default).meet (zs.getD i default)
def zonesOk (zs : List Zone) : Prop := (1 ≤ zs.length ∧ zs.length ≤ 4) ∧ ∀ i, i < zs.length → zoneAt zs i
noncomputable instance (zs : List Zone) : Decidable (zonesOk zs) := Classical.propDecidable _
end
end Go.Ve

namespace Go.Ve
noncomputable section
open Go.Proofs
set_option linter.unusedSimpArgs false
set_option linter.unusedVariables false
set_option maxRecDepth 100000
structure PKind where
  nm : ByteArray
  q : Int
  sl : Int
  deriving Inhabited, DecidableEq
def PKind.row (s : PKind) : List AV := [.str s.nm, .int .i64 s.q, .int .i64 s.sl]
def unPKind : List AV → PKind
  | [.str vnm, .int .i64 vq, .int .i64 vsl] => (PKind.mk vnm vq vsl)
  | _ => default
theorem unPKind_row (s : PKind) : unPKind (PKind.row s) = s := by
  cases s; simp only [PKind.row, unPKind]
theorem un_PKind (l : List PKind) : (l.map PKind.row).map unPKind = l := by
  rw [List.map_map]; exact List.map_id'' (fun s => unPKind_row s) l
theorem PKind_eta (s : PKind) : (PKind.mk s.nm s.q s.sl) = s := (rfl)
theorem no99_PKind (l : List PKind) : No99LL (l.map PKind.row) := by
  induction l with
  | nil => simp [No99LL]
  | cons x l ih => simp only [List.map_cons, No99LL]; exact ⟨by simp [PKind.row, No99L, No99], ih⟩
structure PPt where
  nm : ByteArray
  x : Int
  y : Int
  deriving Inhabited, DecidableEq
def PPt.row (s : PPt) : List AV := [.str s.nm, .int .i64 s.x, .int .i64 s.y]
def unPPt : List AV → PPt
  | [.str vnm, .int .i64 vx, .int .i64 vy] => (PPt.mk vnm vx vy)
  | _ => default
theorem unPPt_row (s : PPt) : unPPt (PPt.row s) = s := by
  cases s; simp only [PPt.row, unPPt]
theorem un_PPt (l : List PPt) : (l.map PPt.row).map unPPt = l := by
  rw [List.map_map]; exact List.map_id'' (fun s => unPPt_row s) l
theorem PPt_eta (s : PPt) : (PPt.mk s.nm s.x s.y) = s := (rfl)
theorem PPt_len (s : PPt) : (PPt.row s).length = 3 := (rfl)
theorem PPt_nr (s : PPt) : norefL (PPt.row s) = true := (rfl)
theorem no99_PPt (l : List PPt) : No99LL (l.map PPt.row) := by
  induction l with
  | nil => simp [No99LL]
  | cons x l ih => simp only [List.map_cons, No99LL]; exact ⟨by simp [PPt.row, No99L, No99], ih⟩
theorem PPt_take (s : PPt) : List.take 3 (PPt.row s) = PPt.row s := (rfl)
structure Cell where
  x : Int
  y : Int
  deriving Inhabited, DecidableEq
def Cell.row (s : Cell) : List AV := [.int .i64 s.x, .int .i64 s.y]
def unCell : List AV → Cell
  | [.int .i64 vx, .int .i64 vy] => (Cell.mk vx vy)
  | _ => default
theorem unCell_row (s : Cell) : unCell (Cell.row s) = s := by
  cases s; simp only [Cell.row, unCell]
theorem un_Cell (l : List Cell) : (l.map Cell.row).map unCell = l := by
  rw [List.map_map]; exact List.map_id'' (fun s => unCell_row s) l
theorem Cell_eta (s : Cell) : (Cell.mk s.x s.y) = s := (rfl)
theorem no99_Cell (l : List Cell) : No99LL (l.map Cell.row) := by
  induction l with
  | nil => simp [No99LL]
  | cons x l ih => simp only [List.map_cons, No99LL]; exact ⟨by simp [Cell.row, No99L, No99], ih⟩
open Go.ChangeShapes Go.WideShapes
/-- What is left when a list is counted, and each of its parts. -/
def szS {α : Type} (f : α → Int → Int) (l : List α) (a : Int) : Int := l.foldl (fun a x => f x a) (szOf a l.length)
def szStr (s : ByteArray) (a : Int) : Int := szOf a s.toList.length
def Meas {α : Type} (f : α → Int → Int) : Prop := ∀ x a, a ≤ 1048576 → (f x a = -1 ∨ 0 ≤ f x a) ∧ (a < 0 → f x a = -1) ∧ f x a ≤ max a (-1)
def chk (x : Int) (k : Int → Int) : Int := if x < 0 then -1 else k x
def Meas1 (g : Int → Int) : Prop := ∀ a, a ≤ 1048576 → (g a = -1 ∨ 0 ≤ g a) ∧ (a < 0 → g a = -1) ∧ g a ≤ max a (-1)
def MeasP (g : Int → Int) : Prop := ∀ a, 0 ≤ a → a ≤ 1048576 → (g a = -1 ∨ 0 ≤ g a) ∧ g a ≤ a
theorem Meas1.p {g : Int → Int} (h : Meas1 g) : MeasP g := fun a h0 h1 => ⟨(h a h1).1, by have := (h a h1).2.2; omega⟩
theorem measP_id : MeasP fun z => z := fun a h0 h1 => ⟨.inr h0, Int.le_refl a⟩
theorem chk_sub {k : Int → Int} (n : Nat) (h : MeasP k) : Meas1 fun a => chk (a - n) k := fun a ha => by
  simp only [chk]
  split
  · exact ⟨.inl rfl, fun _ => rfl, by omega⟩
  · rename_i h1
    have := h (a - n) (by omega) (by omega)
    exact ⟨this.1, fun _ => by omega, by omega⟩
theorem chk_g {g k : Int → Int} (hg : Meas1 g) (h : MeasP k) : Meas1 fun a => chk (g a) k := fun a ha => by
  have m := hg a ha
  simp only [chk]
  split
  · exact ⟨.inl rfl, fun _ => rfl, by omega⟩
  · rename_i h1
    have := h (g a) (by omega) (by omega)
    exact ⟨this.1, fun h2 => by have := m.2.1 h2; omega, by omega⟩
theorem chk_ok {x : Int} {k : Int → Int} (h : 0 ≤ chk x k) : 0 ≤ x ∧ 0 ≤ k x := by
  unfold chk at h; split at h
  · omega
  · exact ⟨by omega, h⟩
theorem meas_str : Meas szStr := fun x a _ => by unfold szStr szOf; split <;> omega
theorem fold_meas {α : Type} {f : α → Int → Int} (h : Meas f) : ∀ (l : List α) (a : Int), a ≤ 1048576 → (a = -1 ∨ 0 ≤ a) → (l.foldl (fun a x => f x a) a = -1 ∨ 0 ≤ l.foldl (fun a x => f x a) a) ∧ (a < 0 → l.foldl (fun a x => f x a) a = -1) ∧ l.foldl (fun a x => f x a) a ≤ max a (-1)
  | [], a, h1, h2 => ⟨h2, fun h3 => by simp only [List.foldl_nil]; omega, by simp only [List.foldl_nil]; omega⟩
  | x :: l, a, h1, h2 => by
    obtain ⟨k1, k2, k3⟩ := h x a h1
    obtain ⟨i1, i2, i3⟩ := fold_meas h l (f x a) (by omega) k1
    simp only [List.foldl_cons]
    exact ⟨i1, fun h3 => i2 (by have := k2 h3; omega), by omega⟩
theorem meas_szS {α : Type} {f : α → Int → Int} (h : Meas f) : Meas (szS f) := fun l a ha => by
  unfold szS
  have h0 : (szOf a l.length = -1 ∨ 0 ≤ szOf a l.length) ∧ (a < 0 → szOf a l.length = -1) ∧ szOf a l.length ≤ max a (-1) := by unfold szOf; split <;> omega
  obtain ⟨i1, i2, i3⟩ := fold_meas h l (szOf a l.length) (by omega) h0.1
  exact ⟨i1, fun h3 => i2 (by have := h0.2.1 h3; omega), by omega⟩
/-- A list that was counted is small, and so are its parts. -/
theorem fold_ok {α : Type} {f : α → Int → Int} {p : α → Prop} (h : Meas f) (hp : ∀ x a, a ≤ 1048576 → 0 ≤ f x a → p x) : ∀ (l : List α) (a : Int), a ≤ 1048576 → (a = -1 ∨ 0 ≤ a) → 0 ≤ l.foldl (fun a x => f x a) a → ∀ x ∈ l, p x
  | [], _, _, _, _, x, hx => by simp at hx
  | y :: l, a, h1, h2, h3, x, hx => by
    simp only [List.foldl_cons] at h3
    obtain ⟨k1, k2, k3⟩ := h y a h1
    have hy : 0 ≤ f y a := by
      rcases k1 with k1 | k1
      · have := (fold_meas h l (f y a) (by omega) (.inl k1)).2.1 (by omega); omega
      · exact k1
    rcases List.mem_cons.1 hx with rfl | hx
    · exact hp _ a h1 hy
    · exact fold_ok h hp l (f y a) (by omega) (.inr hy) h3 x hx
theorem szS_ok {α : Type} {f : α → Int → Int} {p : α → Prop} (h : Meas f) (hp : ∀ x a, a ≤ 1048576 → 0 ≤ f x a → p x) {l : List α} {a : Int} (ha : a ≤ 1048576) (h0 : 0 ≤ szS f l a) : l.length ≤ 1048576 ∧ ∀ x ∈ l, p x := by
  unfold szS at h0
  have hs : (szOf a l.length = -1 ∨ 0 ≤ szOf a l.length) ∧ szOf a l.length ≤ 1048576 := by unfold szOf; split <;> omega
  refine ⟨?_, fold_ok h hp l _ hs.2 hs.1 h0⟩
  rcases hs.1 with e | e
  · have := (fold_meas h l _ hs.2 (.inl e)).2.1 (by omega); omega
  · unfold szOf at e; split at e <;> omega
/-- One more part of a list. -/
theorem fold_take {α : Type} [Inhabited α] {f : α → Int → Int} {l : List α} {i : Nat} {a : Int} (hi : i < l.length) : (l.take (i + 1)).foldl (fun a x => f x a) a = f (l.getD i default) ((l.take i).foldl (fun a x => f x a) a) := by
  have e : l.getD i default = l[i] := by simp [hi]
  rw [e, List.take_succ_eq_append_getElem hi, List.foldl_append]; rfl
theorem fold_stop {α : Type} [Inhabited α] {f : α → Int → Int} (h : Meas f) {l : List α} {i : Nat} {a : Int} (hi : i < l.length) (ha : a ≤ 1048576) (h0 : a = -1 ∨ 0 ≤ a) (hn : f (l.getD i default) ((l.take i).foldl (fun a x => f x a) a) < 0) : l.foldl (fun a x => f x a) a = -1 := by
  rw [← fold_take (f := f) hi] at hn
  have e : l.foldl (fun a x => f x a) a = (l.drop (i + 1)).foldl (fun a x => f x a) ((l.take (i + 1)).foldl (fun a x => f x a) a) := by
    rw [← List.foldl_append, List.take_append_drop]
  rw [e]
  have k := fold_meas h (l.take (i + 1)) a ha h0
  exact (fold_meas h _ _ (by omega) k.1).2.1 hn
theorem fit_rows2 {α : Type} {f : α → List AV} {p : α → Prop} {rs : List LSh} (h : ∀ r, fitsL rs r → ∃ x : α, r = f x ∧ p x) : ∀ {rows : List (List AV)}, (∀ r ∈ rows, fitsL rs r) → ∃ l : List α, rows = l.map f ∧ ∀ x ∈ l, p x
  | [], _ => ⟨[], rfl, by simp⟩
  | r :: rows, k => by
    obtain ⟨x, rfl, hx⟩ := h r (k r (by simp))
    obtain ⟨l, rfl, hl⟩ := fit_rows2 h (rows := rows) fun r' h' => k r' (by simp [h'])
    exact ⟨x :: l, rfl, by simpa using ⟨hx, hl⟩⟩
theorem getD_mem' {α : Type} [Inhabited α] {l : List α} {i : Nat} (h : i < l.length) : l.getD i default ∈ l := by simp [h]
theorem getD_seti' {α : Type} {l : List α} {i : Nat} {x d : α} (h : i < l.length) : (l.set i x).getD i d = x := by simp [h]
theorem getD_setn' {α : Type} {l : List α} {i j : Nat} {x d : α} (h : i ≠ j) : (l.set i x).getD j d = l.getD j d := by simp [List.getElem?_set_ne h]
theorem keyEq_str {a b : ByteArray} : keyEq (.str a) (.str b) = decide (a = b) := str_eq
def cellKey (c : Int × Int) : AV := .agg [.int .i64 c.1, .int .i64 c.2]
theorem keyEq_cell {a b : Int × Int} : keyEq (cellKey a) (cellKey b) = decide (a = b) := by
  obtain ⟨a1, a2⟩ := a
  obtain ⟨b1, b2⟩ := b
  by_cases h : a1 = b1 <;> by_cases k : a2 = b2 <;> simp [keyEq, cellKey, intsEq, h, k]
theorem keyP_str {s : ByteArray} : keyP 0 (.str s) = (s.toList.length ≤ 9223372036854775807) := by
  rw [← toList_size]
  exact propext ⟨fun ⟨_, h, h2⟩ => by cases h; exact h2, fun h => ⟨s, rfl, h⟩⟩
theorem wf64 {m : Int} : (Lit.int .i64 m).wf = decide (-9223372036854775808 ≤ m ∧ m ≤ 9223372036854775807) := by
  have h1 : IntKind.i64.min = -9223372036854775808 := by decide
  have h2 : IntKind.i64.max = 9223372036854775807 := by decide
  simp [Lit.wf, h1, h2, Bool.decide_and]
theorem keyP_cell {a b : Int} : keyP 2 (.agg [.int .i64 a, .int .i64 b]) = ((-9223372036854775808 ≤ a ∧ a ≤ 9223372036854775807) ∧ -9223372036854775808 ≤ b ∧ b ≤ 9223372036854775807) := by
  refine propext ⟨fun ⟨ls, h, _, h2⟩ => ?_, fun ⟨h1, h2⟩ => ⟨_, rfl, rfl, fun y hy => ?_⟩⟩
  · cases h
    obtain ⟨m, h3, h4⟩ := h2 (.int .i64 a) (by simp)
    obtain ⟨m', h5, h6⟩ := h2 (.int .i64 b) (by simp)
    cases h3; cases h5
    rw [wf64] at h4 h6
    exact ⟨of_decide_eq_true h4, of_decide_eq_true h6⟩
  · rcases List.mem_cons.1 hy with rfl | hy
    · exact ⟨a, rfl, by rw [wf64]; exact decide_eq_true h1⟩
    · rcases List.mem_cons.1 hy with rfl | hy
      · exact ⟨b, rfl, by rw [wf64]; exact decide_eq_true h2⟩
      · cases hy
/-- A map that is a set. -/
def setOf {κ : Type} (f : κ → AV) (l : List κ) : List (AV × AV) := l.foldl (fun es a => putV es (f a) (.bool true)) []
def isIn {κ : Type} (q : κ) (l : List κ) : Prop := q ∈ l
noncomputable instance {κ : Type} (q : κ) (l : List κ) : Decidable (isIn q l) := Classical.propDecidable _
section
variable {κ : Type} {f : κ → AV} (inj : ∀ {a b}, keyEq (f a) (f b) = true ↔ a = b)
include inj
theorem put_map (a : κ) : ∀ ks : List κ, ∃ ks' : List κ, putV (ks.map fun k => (f k, .bool true)) (f a) (.bool true) = (ks'.map fun k => (f k, AV.bool true)) ∧ ∀ q, q ∈ ks' ↔ q ∈ ks ∨ q = a
  | [] => ⟨[a], rfl, by simp⟩
  | k :: ks => by
    by_cases h : k = a
    · subst h
      refine ⟨k :: ks, by simp only [List.map_cons, putV, inj.2 rfl, if_true], fun q => ?_⟩
      simp only [List.mem_cons]
      constructor
      · exact fun h => .inl h
      · rintro (h | rfl)
        · exact h
        · exact .inl rfl
    · obtain ⟨ks', h1, h2⟩ := put_map a ks
      have hn : ¬ keyEq (f k) (f a) = true := fun e => h (inj.1 e)
      refine ⟨k :: ks', by simp only [List.map_cons, putV, h1, hn]; rfl, fun q => ?_⟩
      simp only [List.mem_cons, h2, or_assoc]
theorem find_map (q : κ) : ∀ ks : List κ, findV (ks.map fun k => (f k, AV.bool true)) (f q) (.bool false) = .bool (decide (isIn q ks))
  | [] => by simp [findV, isIn]
  | k :: ks => by
    simp only [List.map_cons, findV, find_map q ks]
    by_cases h : k = q
    · subst h; simp [inj.2 rfl, isIn]
    · have hn : ¬ keyEq (f k) (f q) = true := fun e => h (inj.1 e)
      simp only [hn, Bool.false_eq_true, if_false, AV.bool.injEq, decide_eq_decide]
      simp only [isIn, List.mem_cons, Ne.symm h, false_or]
theorem setOf_keys (l : List κ) : ∃ ks : List κ, setOf f l = (ks.map fun k => (f k, AV.bool true)) ∧ ∀ q, q ∈ ks ↔ q ∈ l := by
  have key : ∀ (l ks : List κ), ∃ ks' : List κ, l.foldl (fun es a => putV es (f a) (.bool true)) (ks.map fun k => (f k, AV.bool true)) = (ks'.map fun k => (f k, AV.bool true)) ∧ ∀ q, q ∈ ks' ↔ q ∈ ks ∨ q ∈ l := by
    intro l
    induction l with
    | nil => intro ks; exact ⟨ks, rfl, by simp⟩
    | cons a l ih =>
      intro ks
      simp only [List.foldl_cons]
      obtain ⟨k1, h1, h2⟩ := put_map inj a ks
      rw [h1]
      obtain ⟨ks', h3, h4⟩ := ih k1
      exact ⟨ks', h3, fun q => by rw [h4, h2, List.mem_cons, or_assoc]⟩
  obtain ⟨ks, h1, h2⟩ := key l []
  exact ⟨ks, h1, by simpa using h2⟩
theorem setOf_find (l : List κ) (q : κ) : findV (setOf f l) (f q) (.bool false) = .bool (decide (isIn q l)) := by
  obtain ⟨ks, h1, h2⟩ := setOf_keys inj l
  rw [h1, find_map inj]
  simp only [AV.bool.injEq, decide_eq_decide]
  exact h2 q
end
theorem find_str {l : List ByteArray} {q : ByteArray} : findV (setOf AV.str l) (.str q) (.bool false) = .bool (decide (isIn q l)) := setOf_find (f := AV.str) (by intro a b; rw [keyEq_str]; simp) l q
theorem find_cell {l : List (Int × Int)} {a b : Int} : findV (setOf cellKey l) (.agg [.int .i64 a, .int .i64 b]) (.bool false) = .bool (decide (isIn (a, b) l)) := setOf_find (f := cellKey) (by intro a b; rw [keyEq_cell]; simp) l (a, b)
theorem put_str {l : List ByteArray} {q : ByteArray} : putV (setOf AV.str l) (.str q) (.bool true) = setOf AV.str (l ++ [q]) := by simp [setOf]
theorem put_cell {l : List (Int × Int)} {a b : Int} : putV (setOf cellKey l) (.agg [.int .i64 a, .int .i64 b]) (.bool true) = setOf cellKey (l ++ [(a, b)]) := by simp [setOf, cellKey]
theorem take_map_snoc {α β : Type} [Inhabited α] {f : α → β} {l : List α} {i : Nat} (hi : i < l.length) : (l.take (i + 1)).map f = (l.take i).map f ++ [f (l.getD i default)] := by
  have e : l.getD i default = l[i] := by simp [hi]
  rw [e, List.take_succ_eq_append_getElem hi, List.map_append]; rfl
theorem mem_take_map {α β : Type} [Inhabited α] {f : α → β} {l : List α} {i : Nat} (hi : i ≤ l.length) {q : β} : q ∈ (l.take i).map f ↔ ∃ k, k < i ∧ f (l.getD k default) = q := by
  simp only [List.mem_map]
  constructor
  · rintro ⟨x, hx, rfl⟩
    obtain ⟨k, hk, rfl⟩ := List.mem_iff_getElem.1 hx
    rw [List.length_take] at hk
    exact ⟨k, by omega, by rw [List.getElem_take]; simp [show k < l.length by omega]⟩
  · rintro ⟨k, hk, rfl⟩
    exact ⟨_, List.mem_iff_getElem.2 ⟨k, by rw [List.length_take]; omega, rfl⟩, by rw [List.getElem_take]; simp [show k < l.length by omega]⟩
theorem isIn_cell {α : Type} [Inhabited α] {f : α → Int × Int} {l : List α} {i : Nat} (hi : i ≤ l.length) {q : Int × Int} : isIn q ((l.take i).map f) ↔ ∃ k, k < i ∧ f (l.getD k default) = q := mem_take_map hi
theorem c_l11In (n a b : Int) : Contract P 38 [.int .i64 n, .int .i64 a, .int .i64 b] [] (.bool (decide (a ≤ n ∧ n ≤ b))) [] := by
  refine fn_sound (Env.nil P) hm k_spec_l11In (Nat.le_of_ble_eq_true rfl) rfl ?_; unfold s_spec_l11In; simp (config := { maxSteps := 2000000 }) only [bitvec_to_nat, reduceIte, Nat.reduceEqDiff, Nat.reduceAdd, Nat.reduceLeDiff, reduceCtorEq, Nat.reduceBEq, Nat.reduceLT, Nat.reduceMod, List.forall_mem_cons]
  repeat' (first | with_reducible apply And.intro | with_reducible intro _)
  all_goals first | omega | grind
def t_l11In : List AV → Option (Prop × AV)
  | [.int .i64 n, .int .i64 a, .int .i64 b] => some ((True) ∧ (True), .bool (decide (a ≤ n ∧ n ≤ b)))
  | _ => none
theorem h_l11In : ∀ args p v, t_l11In args = some (p, v) → p → Contract P 38 args [] v [] ∧ noref v = true ∧ No99 v := by
  intro args p v h1 h2
  unfold t_l11In at h1
  split at h1
  · rename_i n a b
    cases h1
    obtain ⟨_, HP⟩ := h2
    have := c_l11In n a b
    exact ⟨this, rfl, trivial⟩
  · cases h1
theorem c_l11NameOk (s : ByteArray) (hp : True) : Contract P 54 [.str s] [] (.bool (decide (nameOk s))) [] := by
  refine fn_sound ((Env.nil P).add 38 t_l11In h_l11In) hm k_spec_l11NameOk (Nat.le_of_ble_eq_true rfl) rfl ?_; unfold s_spec_l11NameOk; simp (config := { maxSteps := 2000000 }) only [bitvec_to_nat, reduceIte, Nat.reduceEqDiff, Nat.reduceAdd, Nat.reduceLeDiff, reduceCtorEq, Nat.reduceBEq, Nat.reduceLT, Nat.reduceMod, List.forall_mem_cons, t_l11In]
  refine ⟨fun h1 => ?_, fun h1 => ?_⟩
  · refine loop_st (fun i : Nat => [(3, .int .i64 i)]) (fun _ => []) (fun i => i ≤ s.toList.length ∧ ∀ j, j < i → charOk (s.toList.getD j 0)) (fun i => s.toList.length - i) (0) (by simp only [u_E0, u_E1, u_M0, u_M1, w_setE0, w_setE1, w_setM0, w_setM1, reduceIte, Nat.reduceEqDiff]; exact ⟨by repeat' (first | exact trivial | refine ⟨.inr rfl, ?_⟩), by repeat' (first | exact trivial | refine ⟨rfl, ?_⟩), by first | rfl | simp [closedB, refsIn, refsInL, refsInO, dom, refsInL_nr, *], by first | rfl | simp [keepB, dom]⟩) ?_ ?_
    · exact ⟨Nat.zero_le _, by intro j hj; omega⟩
    intro i hi NX hN
    unfold l_spec_l11NameOk_0; simp (config := { maxSteps := 2000000 }) only [bitvec_to_nat, reduceIte, Nat.reduceEqDiff, Nat.reduceAdd, Nat.reduceLeDiff, reduceCtorEq, Nat.reduceBEq, Nat.reduceLT, Nat.reduceMod, List.forall_mem_cons]
    repeat' (first | with_reducible apply And.intro | with_reducible intro _)
    all_goals first
      | exact trivial
      | omega
      | (refine hN (i + 1) _ (by simp only [u_E0, u_E1, u_M0, u_M1, w_setE0, w_setE1, w_setM0, w_setM1, reduceIte, Nat.reduceEqDiff]; exact ⟨by repeat' (first | exact trivial | refine ⟨.inr rfl, ?_⟩), by repeat' (first | exact trivial | refine ⟨rfl, ?_⟩), by first | rfl | simp [closedB, refsIn, refsInL, refsInO, dom, refsInL_nr, *], by first | rfl | simp [keepB, dom]⟩) ?_ ?_
         · exact ⟨by omega, all_snoc hi.2 (by grind [nameOk, charOk])⟩
         · omega)
      | grind [nameOk, charOk]
  · grind [nameOk]
def t_l11NameOk : List AV → Option (Prop × AV)
  | [.str s] => some ((True) ∧ (True), .bool (decide (nameOk s)))
  | _ => none
theorem h_l11NameOk : ∀ args p v, t_l11NameOk args = some (p, v) → p → Contract P 54 args [] v [] ∧ noref v = true ∧ No99 v := by
  intro args p v h1 h2
  unfold t_l11NameOk at h1
  split at h1
  · rename_i s
    cases h1
    obtain ⟨_, HP⟩ := h2
    have := c_l11NameOk s HP
    exact ⟨this, rfl, trivial⟩
  · cases h1
def PKind.ok (k : PKind) : Prop := nameOk k.nm ∧ (1 ≤ k.q ∧ k.q ≤ k.sl) ∧ k.sl ≤ 50
def PPt.ok (k : PPt) : Prop := nameOk k.nm ∧ (0 ≤ k.x ∧ k.x ≤ 15) ∧ (0 ≤ k.y ∧ k.y ≤ 15)
instance (k : PKind) : Decidable k.ok := by unfold PKind.ok; infer_instance
instance (k : PPt) : Decidable k.ok := by unfold PPt.ok; infer_instance
def kAt (l : List PKind) (i : Nat) : Prop := (l.getD i default).ok ∧ (0 < i → slt (l.getD (i - 1) default).nm (l.getD i default).nm)
def pAt (l : List PPt) (i : Nat) : Prop := (l.getD i default).ok ∧ (0 < i → slt (l.getD (i - 1) default).nm (l.getD i default).nm) ∧ ∀ k, k < i → ¬ ((l.getD k default).x = (l.getD i default).x ∧ (l.getD k default).y = (l.getD i default).y)
def baseOk (ks : List PKind) (ps : List PPt) : Prop := (ks.length ≤ 6 ∧ ps.length ≤ 16) ∧ (∀ i, i < ks.length → kAt ks i) ∧ ∀ i, i < ps.length → pAt ps i
noncomputable instance (ks : List PKind) (ps : List PPt) : Decidable (baseOk ks ps) := Classical.propDecidable _
theorem c_l11KindOk (k : PKind) : Contract P 36 [.agg k.row] [] (.bool (decide k.ok)) [] := by
  simp only [PKind.row, PPt.row]
  refine fn_sound (((Env.nil P).add 38 t_l11In h_l11In).add 54 t_l11NameOk h_l11NameOk) hm k_spec_l11KindOk (Nat.le_of_ble_eq_true rfl) rfl ?_; unfold s_spec_l11KindOk; simp (config := { maxSteps := 2000000 }) only [bitvec_to_nat, reduceIte, Nat.reduceEqDiff, Nat.reduceAdd, Nat.reduceLeDiff, reduceCtorEq, Nat.reduceBEq, Nat.reduceLT, Nat.reduceMod, List.forall_mem_cons, t_l11In, t_l11NameOk, PKind.row, PPt.row]
  repeat' (first | with_reducible apply And.intro | with_reducible intro _)
  all_goals first | omega | grind [PKind.ok, PPt.ok]
def t_l11KindOk : List AV → Option (Prop × AV)
  | [.agg [.str k_nm, .int .i64 k_q, .int .i64 k_sl]] => some ((True) ∧ (True), .bool (decide (PKind.ok (PKind.mk k_nm k_q k_sl))))
  | _ => none
theorem h_l11KindOk : ∀ args p v, t_l11KindOk args = some (p, v) → p → Contract P 36 args [] v [] ∧ noref v = true ∧ No99 v := by
  intro args p v h1 h2
  unfold t_l11KindOk at h1
  split at h1
  · rename_i k_nm k_q k_sl
    cases h1
    obtain ⟨_, HP⟩ := h2
    have := c_l11KindOk (PKind.mk k_nm k_q k_sl)
    exact ⟨by simpa only [PKind.row] using this, rfl, trivial⟩
  · cases h1
theorem c_l11PointOk (k : PPt) : Contract P 37 [.agg k.row] [] (.bool (decide k.ok)) [] := by
  simp only [PKind.row, PPt.row]
  refine fn_sound (((Env.nil P).add 38 t_l11In h_l11In).add 54 t_l11NameOk h_l11NameOk) hm k_spec_l11PointOk (Nat.le_of_ble_eq_true rfl) rfl ?_; unfold s_spec_l11PointOk; simp (config := { maxSteps := 2000000 }) only [bitvec_to_nat, reduceIte, Nat.reduceEqDiff, Nat.reduceAdd, Nat.reduceLeDiff, reduceCtorEq, Nat.reduceBEq, Nat.reduceLT, Nat.reduceMod, List.forall_mem_cons, t_l11In, t_l11NameOk, PKind.row, PPt.row]
  repeat' (first | with_reducible apply And.intro | with_reducible intro _)
  all_goals first | omega | grind [PKind.ok, PPt.ok]
def t_l11PointOk : List AV → Option (Prop × AV)
  | [.agg [.str k_nm, .int .i64 k_x, .int .i64 k_y]] => some ((True) ∧ (True), .bool (decide (PPt.ok (PPt.mk k_nm k_x k_y))))
  | _ => none
theorem h_l11PointOk : ∀ args p v, t_l11PointOk args = some (p, v) → p → Contract P 37 args [] v [] ∧ noref v = true ∧ No99 v := by
  intro args p v h1 h2
  unfold t_l11PointOk at h1
  split at h1
  · rename_i k_nm k_x k_y
    cases h1
    obtain ⟨_, HP⟩ := h2
    have := c_l11PointOk (PPt.mk k_nm k_x k_y)
    exact ⟨by simpa only [PPt.row] using this, rfl, trivial⟩
  · cases h1
theorem c_kindOk (k : PKind) (hn : k.nm.toList.length ≤ 9223372036854775807) : Contract P 45 [.agg k.row] [] (.bool (decide k.ok)) [] := by
  simp only [PKind.row, PPt.row]
  refine fn_sound (((Env.nil P).add 47 t_within h_within).add 55 t_isName h_isName) hm k_impl_kindOk (Nat.le_of_ble_eq_true rfl) rfl ?_; unfold s_impl_kindOk; simp (config := { maxSteps := 2000000 }) only [bitvec_to_nat, reduceIte, Nat.reduceEqDiff, Nat.reduceAdd, Nat.reduceLeDiff, reduceCtorEq, Nat.reduceBEq, Nat.reduceLT, Nat.reduceMod, List.forall_mem_cons, t_within, t_isName, PKind.row, PPt.row]
  repeat' (first | with_reducible apply And.intro | with_reducible intro _)
  all_goals first | omega | grind [PKind.ok, PPt.ok]
def t_kindOk : List AV → Option (Prop × AV)
  | [.agg [.str k_nm, .int .i64 k_q, .int .i64 k_sl]] => some ((True) ∧ ((PKind.mk k_nm k_q k_sl).nm.toList.length ≤ 9223372036854775807), .bool (decide (PKind.ok (PKind.mk k_nm k_q k_sl))))
  | _ => none
theorem h_kindOk : ∀ args p v, t_kindOk args = some (p, v) → p → Contract P 45 args [] v [] ∧ noref v = true ∧ No99 v := by
  intro args p v h1 h2
  unfold t_kindOk at h1
  split at h1
  · rename_i k_nm k_q k_sl
    cases h1
    obtain ⟨_, HP⟩ := h2
    have := c_kindOk (PKind.mk k_nm k_q k_sl) HP
    exact ⟨by simpa only [PKind.row] using this, rfl, trivial⟩
  · cases h1
theorem c_pointOk (k : PPt) (hn : k.nm.toList.length ≤ 9223372036854775807) : Contract P 46 [.agg k.row] [] (.bool (decide k.ok)) [] := by
  simp only [PKind.row, PPt.row]
  refine fn_sound (((Env.nil P).add 47 t_within h_within).add 55 t_isName h_isName) hm k_impl_pointOk (Nat.le_of_ble_eq_true rfl) rfl ?_; unfold s_impl_pointOk; simp (config := { maxSteps := 2000000 }) only [bitvec_to_nat, reduceIte, Nat.reduceEqDiff, Nat.reduceAdd, Nat.reduceLeDiff, reduceCtorEq, Nat.reduceBEq, Nat.reduceLT, Nat.reduceMod, List.forall_mem_cons, t_within, t_isName, PKind.row, PPt.row]
  repeat' (first | with_reducible apply And.intro | with_reducible intro _)
  all_goals first | omega | grind [PKind.ok, PPt.ok]
def t_pointOk : List AV → Option (Prop × AV)
  | [.agg [.str k_nm, .int .i64 k_x, .int .i64 k_y]] => some ((True) ∧ ((PPt.mk k_nm k_x k_y).nm.toList.length ≤ 9223372036854775807), .bool (decide (PPt.ok (PPt.mk k_nm k_x k_y))))
  | _ => none
theorem h_pointOk : ∀ args p v, t_pointOk args = some (p, v) → p → Contract P 46 args [] v [] ∧ noref v = true ∧ No99 v := by
  intro args p v h1 h2
  unfold t_pointOk at h1
  split at h1
  · rename_i k_nm k_x k_y
    cases h1
    obtain ⟨_, HP⟩ := h2
    have := c_pointOk (PPt.mk k_nm k_x k_y) HP
    exact ⟨by simpa only [PPt.row] using this, rfl, trivial⟩
  · cases h1
end
end Go.Ve

namespace Go.Ve
noncomputable section
open Go.Proofs
set_option linter.unusedSimpArgs false
set_option linter.unusedVariables false
set_option maxRecDepth 100000
set_option maxHeartbeats 1000000 in
theorem c_sBaseOk (t t' : Nat) (ks : List PKind) (ps : List PPt) (hk : ks.length ≤ 1048576) (hp : ps.length ≤ 1048576) : Contract P 19 [.agg [.sl t 3 (ks.map PKind.row), .sl t' 3 (ps.map PPt.row)]] [] (.bool (decide (baseOk ks ps))) [] := by
  refine fn_sound (((Env.nil P).add 36 t_l11KindOk h_l11KindOk).add 37 t_l11PointOk h_l11PointOk) hm k_spec_PlanBaseOk (Nat.le_of_ble_eq_true rfl) rfl ?_; unfold s_spec_PlanBaseOk; simp (config := { maxSteps := 2000000 }) only [bitvec_to_nat, reduceIte, Nat.reduceEqDiff, Nat.reduceAdd, Nat.reduceLeDiff, reduceCtorEq, Nat.reduceBEq, Nat.reduceLT, Nat.reduceMod, List.forall_mem_cons, t_l11KindOk, t_l11PointOk, tk_map, dp_map, toNat_pred, appE, rowsOf, List.take_length, List.length_cons, List.length_nil, Nat.zero_add, srow, irow, un_s, un_i, Zone.row, Zone_eta, un_Zone, Word.row, Word_eta, Own.row, Own_eta, Part.row, Part_eta, Seen.row, Seen_eta, Book.row, Book_eta, Sector.row, Sector_eta, HCraft.row, HCraft_eta, World.row, World_eta, PKind.row, PKind_eta, PPt.row, PPt_eta, Cell.row, Cell_eta, un_Word, un_Own, un_Part, un_Seen, un_Book, un_Sector, un_HCraft, un_World, un_PKind, un_PPt, un_Cell, Nat.sub_zero]
  repeat' (first | with_reducible apply And.intro | with_reducible intro _)
  all_goals first
    | omega
    | (intro h; have := h.1; omega)
    | skip
  refine loop_st (fun i : Nat => [(3, .int .i64 i)]) (fun _ => []) (fun i => i ≤ ks.length ∧ ∀ j, j < i → kAt ks j) (fun i => ks.length - i) (0) (by simp only [u_E0, u_E1, u_M0, u_M1, w_setE0, w_setE1, w_setM0, w_setM1, reduceIte, Nat.reduceEqDiff]; exact ⟨by repeat' (first | exact trivial | refine ⟨.inr rfl, ?_⟩), by repeat' (first | exact trivial | refine ⟨rfl, ?_⟩), by first | rfl | simp [closedB, refsIn, refsInL, refsInO, dom, refsInL_nr, *], by first | rfl | simp [keepB, dom]⟩) ?_ ?_
  · exact ⟨Nat.zero_le _, by intro j hj; omega⟩
  intro i hi NX hN
  unfold l_spec_PlanBaseOk_0; simp (config := { maxSteps := 2000000 }) only [bitvec_to_nat, reduceIte, Nat.reduceEqDiff, Nat.reduceAdd, Nat.reduceLeDiff, reduceCtorEq, Nat.reduceBEq, Nat.reduceLT, Nat.reduceMod, List.forall_mem_cons, t_l11KindOk, t_l11PointOk, tk_map, dp_map, toNat_pred, appE, rowsOf, List.take_length, List.length_cons, List.length_nil, Nat.zero_add, srow, irow, un_s, un_i, Zone.row, Zone_eta, un_Zone, Word.row, Word_eta, Own.row, Own_eta, Part.row, Part_eta, Seen.row, Seen_eta, Book.row, Book_eta, Sector.row, Sector_eta, HCraft.row, HCraft_eta, World.row, World_eta, PKind.row, PKind_eta, PPt.row, PPt_eta, Cell.row, Cell_eta, un_Word, un_Own, un_Part, un_Seen, un_Book, un_Sector, un_HCraft, un_World, un_PKind, un_PPt, un_Cell, Nat.sub_zero]
  have A : baseOk ks ps → i < ks.length → kAt ks i := fun h g => h.2.1 i g
  unfold kAt at A
  by_cases hlt : i < ks.length
  · refine ⟨fun g1 => ?_, fun g1 => absurd (by omega) g1⟩
    repeat' (first | with_reducible apply And.intro | with_reducible intro _)
    all_goals first
      | omega
      | (refine hN (i + 1) _ (by simp only [u_E0, u_E1, u_M0, u_M1, w_setE0, w_setE1, w_setM0, w_setM1, reduceIte, Nat.reduceEqDiff]; exact ⟨by repeat' (first | exact trivial | refine ⟨.inr rfl, ?_⟩), by repeat' (first | exact trivial | refine ⟨rfl, ?_⟩), by first | rfl | simp [closedB, refsIn, refsInL, refsInO, dom, refsInL_nr, *], by first | rfl | simp [keepB, dom]⟩) ?_ ?_
         · exact ⟨by omega, all_snoc hi.2 ⟨by assumption, by grind⟩⟩
         · omega)
      | (intro hq; have := A hq hlt; grind)
      | trace_state
  · have e : i = ks.length := by omega
    subst e
    refine ⟨fun g1 => absurd g1 (by omega), fun g1 => ?_⟩
    have hks := hi.2
    clear hi hN NX
    refine loop_st (fun i : Nat => [(4, .int .i64 i)]) (fun _ => []) (fun i => i ≤ ps.length ∧ ∀ j, j < i → pAt ps j) (fun i => ps.length - i) (0) (by simp only [u_E0, u_E1, u_M0, u_M1, w_setE0, w_setE1, w_setM0, w_setM1, reduceIte, Nat.reduceEqDiff]; exact ⟨by repeat' (first | exact trivial | refine ⟨.inr rfl, ?_⟩), by repeat' (first | exact trivial | refine ⟨rfl, ?_⟩), by first | rfl | simp [closedB, refsIn, refsInL, refsInO, dom, refsInL_nr, *], by first | rfl | simp [keepB, dom]⟩) ?_ ?_
    · exact ⟨Nat.zero_le _, by intro j hj; omega⟩
    intro i hi NX hN
    have A : baseOk ks ps → i < ps.length → pAt ps i := fun h g => h.2.2 i g
    unfold pAt at A
    by_cases hlt : i < ps.length
    · unfold l_spec_PlanBaseOk_2; simp (config := { maxSteps := 2000000 }) only [bitvec_to_nat, reduceIte, Nat.reduceEqDiff, Nat.reduceAdd, Nat.reduceLeDiff, reduceCtorEq, Nat.reduceBEq, Nat.reduceLT, Nat.reduceMod, List.forall_mem_cons, t_l11KindOk, t_l11PointOk, tk_map, dp_map, toNat_pred, appE, rowsOf, List.take_length, List.length_cons, List.length_nil, Nat.zero_add, srow, irow, un_s, un_i, Zone.row, Zone_eta, un_Zone, Word.row, Word_eta, Own.row, Own_eta, Part.row, Part_eta, Seen.row, Seen_eta, Book.row, Book_eta, Sector.row, Sector_eta, HCraft.row, HCraft_eta, World.row, World_eta, PKind.row, PKind_eta, PPt.row, PPt_eta, Cell.row, Cell_eta, un_Word, un_Own, un_Part, un_Seen, un_Book, un_Sector, un_HCraft, un_World, un_PKind, un_PPt, un_Cell, Nat.sub_zero]
      refine ⟨fun g1 => ?_, fun g1 => absurd (by omega) g1⟩
      repeat' (first | with_reducible apply And.intro | with_reducible intro _)
      all_goals first
        | omega
        | (intro hq; have := A hq hlt; grind)
        | skip
      all_goals
        refine loop_st (fun k : Nat => [(5, .int .i64 k)]) (fun _ => []) (fun k => k ≤ i ∧ ∀ j, j < k → ¬ ((ps.getD j default).x = (ps.getD i default).x ∧ (ps.getD j default).y = (ps.getD i default).y)) (fun k => i - k) (0) (by simp only [u_E0, u_E1, u_M0, u_M1, w_setE0, w_setE1, w_setM0, w_setM1, reduceIte, Nat.reduceEqDiff]; exact ⟨by repeat' (first | exact trivial | refine ⟨.inr rfl, ?_⟩), by repeat' (first | exact trivial | refine ⟨rfl, ?_⟩), by first | rfl | simp [closedB, refsIn, refsInL, refsInO, dom, refsInL_nr, *], by first | rfl | simp [keepB, dom]⟩) ?_ ?_
        · exact ⟨Nat.zero_le _, by intro j hj; omega⟩
        intro k hk NX2 hN2
        unfold l_spec_PlanBaseOk_1; simp (config := { maxSteps := 2000000 }) only [bitvec_to_nat, reduceIte, Nat.reduceEqDiff, Nat.reduceAdd, Nat.reduceLeDiff, reduceCtorEq, Nat.reduceBEq, Nat.reduceLT, Nat.reduceMod, List.forall_mem_cons, t_l11KindOk, t_l11PointOk, tk_map, dp_map, toNat_pred, appE, rowsOf, List.take_length, List.length_cons, List.length_nil, Nat.zero_add, srow, irow, un_s, un_i, Zone.row, Zone_eta, un_Zone, Word.row, Word_eta, Own.row, Own_eta, Part.row, Part_eta, Seen.row, Seen_eta, Book.row, Book_eta, Sector.row, Sector_eta, HCraft.row, HCraft_eta, World.row, World_eta, PKind.row, PKind_eta, PPt.row, PPt_eta, Cell.row, Cell_eta, un_Word, un_Own, un_Part, un_Seen, un_Book, un_Sector, un_HCraft, un_World, un_PKind, un_PPt, un_Cell, Nat.sub_zero]
        repeat' (first | with_reducible apply And.intro | with_reducible intro _)
        all_goals first
          | omega
          | (refine hN2 (k + 1) _ (by simp only [u_E0, u_E1, u_M0, u_M1, w_setE0, w_setE1, w_setM0, w_setM1, reduceIte, Nat.reduceEqDiff]; exact ⟨by repeat' (first | exact trivial | refine ⟨.inr rfl, ?_⟩), by repeat' (first | exact trivial | refine ⟨rfl, ?_⟩), by first | rfl | simp [closedB, refsIn, refsInL, refsInO, dom, refsInL_nr, *], by first | rfl | simp [keepB, dom]⟩) ⟨by omega, all_snoc hk.2 (by grind)⟩ (by omega))
          | (intro hq; have := (A hq hlt).2.2 k (by omega); grind)
          | (refine hN (i + 1) _ (by simp only [u_E0, u_E1, u_M0, u_M1, w_setE0, w_setE1, w_setM0, w_setM1, reduceIte, Nat.reduceEqDiff]; exact ⟨by repeat' (first | exact trivial | refine ⟨.inr rfl, ?_⟩), by repeat' (first | exact trivial | refine ⟨rfl, ?_⟩), by first | rfl | simp [closedB, refsIn, refsInL, refsInO, dom, refsInL_nr, *], by first | rfl | simp [keepB, dom]⟩) ⟨by omega, all_snoc hi.2 ⟨by assumption, by grind, fun j hj => hk.2 j (by omega)⟩⟩ (by omega))
          | trace_state
    · have e : i = ps.length := by omega
      subst e
      unfold l_spec_PlanBaseOk_2; simp (config := { maxSteps := 2000000 }) only [bitvec_to_nat, reduceIte, Nat.reduceEqDiff, Nat.reduceAdd, Nat.reduceLeDiff, reduceCtorEq, Nat.reduceBEq, Nat.reduceLT, Nat.reduceMod, List.forall_mem_cons, t_l11KindOk, t_l11PointOk, tk_map, dp_map, toNat_pred, appE, rowsOf, List.take_length, List.length_cons, List.length_nil, Nat.zero_add, srow, irow, un_s, un_i, Zone.row, Zone_eta, un_Zone, Word.row, Word_eta, Own.row, Own_eta, Part.row, Part_eta, Seen.row, Seen_eta, Book.row, Book_eta, Sector.row, Sector_eta, HCraft.row, HCraft_eta, World.row, World_eta, PKind.row, PKind_eta, PPt.row, PPt_eta, Cell.row, Cell_eta, un_Word, un_Own, un_Part, un_Seen, un_Book, un_Sector, un_HCraft, un_World, un_PKind, un_PPt, un_Cell, Nat.sub_zero]
      refine ⟨fun g1 => absurd g1 (by omega), fun g1 => ?_⟩
      exact ⟨⟨by omega, by omega⟩, hks, hi.2⟩
set_option maxHeartbeats 1000000 in
theorem c_iBaseOk (t t' : Nat) (ks : List PKind) (ps : List PPt) (hk : ks.length ≤ 1048576) (hp : ps.length ≤ 1048576) (hnk : ∀ x ∈ ks, x.nm.toList.length ≤ 9223372036854775807) (hnp : ∀ x ∈ ps, x.nm.toList.length ≤ 9223372036854775807) : Contract P 25 [.agg [.sl t 3 (ks.map PKind.row), .sl t' 3 (ps.map PPt.row)]] [] (.bool (decide (baseOk ks ps))) [] := by
  have he : True := trivial
  refine fn_sound (((Env.nil P).add 45 t_kindOk h_kindOk).add 46 t_pointOk h_pointOk) hm k_impl_PlanBaseOk (Nat.le_of_ble_eq_true rfl) rfl ?_; unfold s_impl_PlanBaseOk; simp (config := { maxSteps := 2000000 }) only [bitvec_to_nat, reduceIte, Nat.reduceEqDiff, Nat.reduceAdd, Nat.reduceLeDiff, reduceCtorEq, Nat.reduceBEq, Nat.reduceLT, Nat.reduceMod, List.forall_mem_cons, t_kindOk, t_pointOk, tk_map, dp_map, toNat_pred, appE, rowsOf, List.take_length, List.length_cons, List.length_nil, Nat.zero_add, srow, irow, un_s, un_i, Zone.row, Zone_eta, un_Zone, Word.row, Word_eta, Own.row, Own_eta, Part.row, Part_eta, Seen.row, Seen_eta, Book.row, Book_eta, Sector.row, Sector_eta, HCraft.row, HCraft_eta, World.row, World_eta, PKind.row, PKind_eta, PPt.row, PPt_eta, Cell.row, Cell_eta, un_Word, un_Own, un_Part, un_Seen, un_Book, un_Sector, un_HCraft, un_World, un_PKind, un_PPt, un_Cell, Nat.sub_zero, lookE, msetE, find_str, find_cell, keyP_str, keyP_cell, put_str, put_cell, he]
  repeat' (first | with_reducible apply And.intro | with_reducible intro _)
  all_goals first
    | omega
    | (intro h; have := h.1; omega)
    | skip
  refine loop_st (fun i : Nat => [(22, .int .i64 i)]) (fun _ => []) (fun i => i ≤ ks.length ∧ ∀ j, j < i → kAt ks j) (fun i => ks.length - i) (0) (by simp only [u_E0, u_E1, u_M0, u_M1, w_setE0, w_setE1, w_setM0, w_setM1, reduceIte, Nat.reduceEqDiff]; exact ⟨by repeat' (first | exact trivial | refine ⟨.inr rfl, ?_⟩), by repeat' (first | exact trivial | refine ⟨rfl, ?_⟩), by first | rfl | simp [closedB, refsIn, refsInL, refsInO, dom, refsInL_nr, *], by first | rfl | simp [keepB, dom]⟩) ?_ ?_
  · exact ⟨Nat.zero_le _, by intro j hj; omega⟩
  intro i hi NX hN
  unfold l_impl_PlanBaseOk_0; simp (config := { maxSteps := 2000000 }) only [bitvec_to_nat, reduceIte, Nat.reduceEqDiff, Nat.reduceAdd, Nat.reduceLeDiff, reduceCtorEq, Nat.reduceBEq, Nat.reduceLT, Nat.reduceMod, List.forall_mem_cons, t_kindOk, t_pointOk, tk_map, dp_map, toNat_pred, appE, rowsOf, List.take_length, List.length_cons, List.length_nil, Nat.zero_add, srow, irow, un_s, un_i, Zone.row, Zone_eta, un_Zone, Word.row, Word_eta, Own.row, Own_eta, Part.row, Part_eta, Seen.row, Seen_eta, Book.row, Book_eta, Sector.row, Sector_eta, HCraft.row, HCraft_eta, World.row, World_eta, PKind.row, PKind_eta, PPt.row, PPt_eta, Cell.row, Cell_eta, un_Word, un_Own, un_Part, un_Seen, un_Book, un_Sector, un_HCraft, un_World, un_PKind, un_PPt, un_Cell, Nat.sub_zero, lookE, msetE, find_str, find_cell, keyP_str, keyP_cell, put_str, put_cell, he]
  have A : baseOk ks ps → i < ks.length → kAt ks i := fun h g => h.2.1 i g
  unfold kAt at A
  by_cases hlt : i < ks.length
  · have hn9 := hnk _ (getD_mem' hlt)
    refine ⟨fun g1 => ?_, fun g1 => absurd (by omega) g1⟩
    repeat' (first | with_reducible apply And.intro | with_reducible intro _)
    all_goals first
      | omega
      | (refine hN (i + 1) _ (by simp only [u_E0, u_E1, u_M0, u_M1, w_setE0, w_setE1, w_setM0, w_setM1, reduceIte, Nat.reduceEqDiff]; exact ⟨by repeat' (first | exact trivial | refine ⟨.inr rfl, ?_⟩), by repeat' (first | exact trivial | refine ⟨rfl, ?_⟩), by first | rfl | simp [closedB, refsIn, refsInL, refsInO, dom, refsInL_nr, *], by first | rfl | simp [keepB, dom]⟩) ?_ ?_
         · exact ⟨by omega, all_snoc hi.2 ⟨by assumption, by grind⟩⟩
         · omega)
      | (intro hq; have := A hq hlt; grind)
      | trace_state
  · have e : i = ks.length := by omega
    subst e
    refine ⟨fun g1 => absurd g1 (by omega), fun g1 => ?_⟩
    have hks := hi.2
    clear hi hN NX
    refine loop_st (fun i : Nat => [(51, .int .i64 i)]) (fun i => [(147, .mp 2 (setOf cellKey ((ps.take i).map fun p => (p.x, p.y))))]) (fun i => i ≤ ps.length ∧ ∀ j, j < i → pAt ps j) (fun i => ps.length - i) (0) (by simp only [u_E0, u_E1, u_M0, u_M1, w_setE0, w_setE1, w_setM0, w_setM1, reduceIte, Nat.reduceEqDiff]; exact ⟨by repeat' (first | exact trivial | refine ⟨.inr rfl, ?_⟩), by repeat' (first | exact trivial | refine ⟨rfl, ?_⟩), by first | rfl | simp [closedB, refsIn, refsInL, refsInO, dom, refsInL_nr, *], by first | rfl | simp [keepB, dom]⟩) ?_ ?_
    · exact ⟨Nat.zero_le _, by intro j hj; omega⟩
    intro i hi NX hN
    have A : baseOk ks ps → i < ps.length → pAt ps i := fun h g => h.2.2 i g
    unfold pAt at A
    by_cases hlt : i < ps.length
    · have hn9 := hnp _ (getD_mem' hlt)
      have hc := isIn_cell (f := fun p : PPt => (p.x, p.y)) (l := ps) (i := i) (by omega) (q := ((ps.getD i default).x, (ps.getD i default).y))
      have e2 := take_map_snoc (f := fun p : PPt => (p.x, p.y)) (l := ps) (i := i) (by omega)
      have hb : (ps.getD i default).ok → (0 ≤ (ps.getD i default).x ∧ (ps.getD i default).x ≤ 15) ∧ (0 ≤ (ps.getD i default).y ∧ (ps.getD i default).y ≤ 15) := fun h => h.2
      have hno1 : isIn ((ps.getD i default).x, (ps.getD i default).y) ((ps.take i).map fun p => (p.x, p.y)) → ¬ baseOk ks ps := fun h hq => by
        obtain ⟨k, hk, e⟩ := hc.1 h
        simp only [Prod.mk.injEq] at e
        exact (A hq hlt).2.2 k hk e
      have hno2 : ¬ isIn ((ps.getD i default).x, (ps.getD i default).y) ((ps.take i).map fun p => (p.x, p.y)) → ∀ k, k < i → ¬ ((ps.getD k default).x = (ps.getD i default).x ∧ (ps.getD k default).y = (ps.getD i default).y) := fun h k hk e => h (hc.2 ⟨k, hk, by rw [e.1, e.2]⟩)
      unfold l_impl_PlanBaseOk_1; simp (config := { maxSteps := 2000000 }) only [bitvec_to_nat, reduceIte, Nat.reduceEqDiff, Nat.reduceAdd, Nat.reduceLeDiff, reduceCtorEq, Nat.reduceBEq, Nat.reduceLT, Nat.reduceMod, List.forall_mem_cons, t_kindOk, t_pointOk, tk_map, dp_map, toNat_pred, appE, rowsOf, List.take_length, List.length_cons, List.length_nil, Nat.zero_add, srow, irow, un_s, un_i, Zone.row, Zone_eta, un_Zone, Word.row, Word_eta, Own.row, Own_eta, Part.row, Part_eta, Seen.row, Seen_eta, Book.row, Book_eta, Sector.row, Sector_eta, HCraft.row, HCraft_eta, World.row, World_eta, PKind.row, PKind_eta, PPt.row, PPt_eta, Cell.row, Cell_eta, un_Word, un_Own, un_Part, un_Seen, un_Book, un_Sector, un_HCraft, un_World, un_PKind, un_PPt, un_Cell, Nat.sub_zero, lookE, msetE, find_str, find_cell, keyP_str, keyP_cell, put_str, put_cell, he]
      refine ⟨fun g1 => ?_, fun g1 => absurd (by omega) g1⟩
      repeat' (first | with_reducible apply And.intro | with_reducible intro _)
      all_goals first
        | omega
        | (have := hb (by assumption); omega)
        | exact hno1 (by assumption)
        | (intro hq; have := A hq hlt; grind)
        | (refine hN (i + 1) _ (by simp only [e2, List.length_append, List.length_cons, List.length_nil, Nat.zero_add, List.map_append, List.map_cons, List.map_nil, u_E0, u_E1, u_M0, u_M1, w_setE0, w_setE1, w_setM0, w_setM1, reduceIte, Nat.reduceEqDiff]; exact ⟨by repeat' (first | exact trivial | refine ⟨.inr rfl, ?_⟩), by repeat' (first | exact trivial | refine ⟨rfl, ?_⟩), by first | rfl | simp [closedB, refsIn, refsInL, refsInO, dom, refsInL_nr, *], by first | rfl | simp [keepB, dom]⟩) ?_ ?_
           · exact ⟨by omega, all_snoc hi.2 ⟨by assumption, by grind, hno2 (by assumption)⟩⟩
           · omega)
        | trace_state
    · have e : i = ps.length := by omega
      subst e
      unfold l_impl_PlanBaseOk_1; simp (config := { maxSteps := 2000000 }) only [bitvec_to_nat, reduceIte, Nat.reduceEqDiff, Nat.reduceAdd, Nat.reduceLeDiff, reduceCtorEq, Nat.reduceBEq, Nat.reduceLT, Nat.reduceMod, List.forall_mem_cons, t_kindOk, t_pointOk, tk_map, dp_map, toNat_pred, appE, rowsOf, List.take_length, List.length_cons, List.length_nil, Nat.zero_add, srow, irow, un_s, un_i, Zone.row, Zone_eta, un_Zone, Word.row, Word_eta, Own.row, Own_eta, Part.row, Part_eta, Seen.row, Seen_eta, Book.row, Book_eta, Sector.row, Sector_eta, HCraft.row, HCraft_eta, World.row, World_eta, PKind.row, PKind_eta, PPt.row, PPt_eta, Cell.row, Cell_eta, un_Word, un_Own, un_Part, un_Seen, un_Book, un_Sector, un_HCraft, un_World, un_PKind, un_PPt, un_Cell, Nat.sub_zero, lookE, msetE, find_str, find_cell, keyP_str, keyP_cell, put_str, put_cell, he]
      refine ⟨fun g1 => absurd g1 (by omega), fun g1 => ?_⟩
      exact ⟨⟨by omega, by omega⟩, hks, hi.2⟩
def t_sBaseOk : List AV → Option (Prop × AV)
  | [.agg [.sl _ 3 kx, .sl _ 3 px]] => some (((kx.map unPKind).map PKind.row = kx ∧ (px.map unPPt).map PPt.row = px) ∧ ((kx.map unPKind).length ≤ 1048576 ∧ (px.map unPPt).length ≤ 1048576), .bool (decide (baseOk (kx.map unPKind) (px.map unPPt))))
  | _ => none
theorem h_sBaseOk : ∀ args p v, t_sBaseOk args = some (p, v) → p → Contract P 19 args [] v [] ∧ noref v = true ∧ No99 v := by
  intro args p v h1 h2
  unfold t_sBaseOk at h1
  split at h1
  · rename_i t kx t' px
    cases h1
    obtain ⟨⟨e1, e2⟩, h3⟩ := h2
    have := c_sBaseOk t t' (kx.map unPKind) (px.map unPPt) h3.1 h3.2
    simp only [e1, e2] at this
    exact ⟨this, rfl, trivial⟩
  · cases h1
def t_iBaseOk : List AV → Option (Prop × AV)
  | [.agg [.sl _ 3 kx, .sl _ 3 px]] => some (((kx.map unPKind).map PKind.row = kx ∧ (px.map unPPt).map PPt.row = px) ∧ ((kx.map unPKind).length ≤ 1048576 ∧ (px.map unPPt).length ≤ 1048576) ∧ (∀ x ∈ kx.map unPKind, x.nm.toList.length ≤ 9223372036854775807) ∧ (∀ x ∈ px.map unPPt, x.nm.toList.length ≤ 9223372036854775807), .bool (decide (baseOk (kx.map unPKind) (px.map unPPt))))
  | _ => none
theorem h_iBaseOk : ∀ args p v, t_iBaseOk args = some (p, v) → p → Contract P 25 args [] v [] ∧ noref v = true ∧ No99 v := by
  intro args p v h1 h2
  unfold t_iBaseOk at h1
  split at h1
  · rename_i t kx t' px
    cases h1
    obtain ⟨⟨e1, e2⟩, h3⟩ := h2
    have := c_iBaseOk t t' (kx.map unPKind) (px.map unPPt) h3.1.1 h3.1.2 h3.2.1 h3.2.2
    simp only [e1, e2] at this
    exact ⟨this, rfl, trivial⟩
  · cases h1
end
end Go.Ve

namespace Go.Ve
open Go.Proofs
set_option maxRecDepth 100000
/-- spec.l17Part: function 42 -/
def sO_spec_l17Part : SFun := { n := 32, res := [.t 6], body := (.seq (.rg [⟨some 6, .mv (.c (.int .i64 0)), none, [6]⟩] [0, 1, 2]) (.seq (.rg [⟨some 9, .mv (.v 1), none, [1]⟩, ⟨some 10, .binN .mul (.c (.int .i64 2)) (.v 9), none, [9]⟩, ⟨some 11, .mv (.v 0), none, [0]⟩, ⟨some 12, .binN .mul (.v 10) (.v 11), none, [10, 11]⟩, ⟨some 13, .mv (.v 2), none, []⟩, ⟨some 14, .binN .add (.v 12) (.v 13), none, [12, 13]⟩, ⟨some 7, .mv (.v 14), none, [14]⟩] [2, 7]) (.seq (.rg [⟨some 15, .mv (.v 7), none, []⟩, ⟨some 16, .mv (.v 2), none, []⟩, ⟨some 17, .binN .mul (.c (.int .i64 2)) (.v 16), none, [16]⟩, ⟨some 18, .bin .quo (.v 15) (.v 17), none, [15, 17]⟩, ⟨some 8, .mv (.v 18), none, [18]⟩] [2, 7, 8]) (.seq (.seq (.rg [⟨some 19, .mv (.v 7), none, []⟩, ⟨some 20, .bin .lss (.v 19) (.c (.int .i64 0)), none, [19]⟩, ⟨some 21, .mv (.v 20), none, [20]⟩, ⟨some 22, .mv (.v 8), some (21, true), []⟩, ⟨some 23, .binN .mul (.v 22) (.c (.int .i64 2)), some (21, true), [22]⟩, ⟨some 24, .mv (.v 2), some (21, true), [2]⟩, ⟨some 25, .binN .mul (.v 23) (.v 24), some (21, true), [23, 24]⟩, ⟨some 26, .mv (.v 7), some (21, true), [7]⟩, ⟨some 27, .bin .neq (.v 25) (.v 26), some (21, true), [25, 26]⟩, ⟨some 28, .pick (.v 21) (.v 27) (.c (.bool false)), none, [21, 27]⟩] [8, 28]) (.cond (.v 28) (.rg [⟨some 29, .mv (.v 8), none, [8]⟩, ⟨some 30, .binN .sub (.v 29) (.c (.int .i64 1)), none, [29]⟩, ⟨some 8, .mv (.v 30), none, [30]⟩] [8]) .skip)) (.seq (.rg [⟨some 31, .mv (.v 8), none, [8]⟩, ⟨some 6, .mv (.v 31), none, [31]⟩] [6]) .ret))))) }
theorem kO_spec_l17Part : okFun Go.Proofs.Try.prog 42 sO_spec_l17Part = true := by kernel_rfl
/-- impl.floorDiv: function 50 -/
def sO_impl_floorDiv : SFun := { n := 23, res := [.t 4], body := (.seq (.rg [⟨some 4, .mv (.c (.int .i64 0)), none, [4]⟩] [0, 1]) (.seq (.rg [⟨some 6, .mv (.v 0), none, []⟩, ⟨some 7, .mv (.v 1), none, []⟩, ⟨some 8, .bin .quo (.v 6) (.v 7), none, [6, 7]⟩, ⟨some 5, .mv (.v 8), none, [8]⟩] [0, 1, 5]) (.seq (.seq (.rg [⟨some 9, .mv (.v 0), none, []⟩, ⟨some 10, .mv (.v 1), none, []⟩, ⟨some 11, .bin .rem (.v 9) (.v 10), none, [9, 10]⟩, ⟨some 12, .bin .neq (.v 11) (.c (.int .i64 0)), none, [11]⟩, ⟨some 13, .mv (.v 12), none, [12]⟩, ⟨some 14, .mv (.v 0), some (13, true), [0]⟩, ⟨some 15, .bin .lss (.v 14) (.c (.int .i64 0)), some (13, true), [14]⟩, ⟨some 16, .mv (.v 1), some (13, true), [1]⟩, ⟨some 17, .bin .lss (.v 16) (.c (.int .i64 0)), some (13, true), [16]⟩, ⟨some 18, .eqB true (.v 15) (.v 17), some (13, true), [15, 17]⟩, ⟨some 19, .pick (.v 13) (.v 18) (.c (.bool false)), none, [13, 18]⟩] [5, 19]) (.cond (.v 19) (.rg [⟨some 20, .mv (.v 5), none, [5]⟩, ⟨some 21, .binN .sub (.v 20) (.c (.int .i64 1)), none, [20]⟩, ⟨some 5, .mv (.v 21), none, [21]⟩] [5]) .skip)) (.seq (.rg [⟨some 22, .mv (.v 5), none, [5]⟩, ⟨some 4, .mv (.v 22), none, [22]⟩] [4]) .ret)))) }
theorem kO_impl_floorDiv : okFun Go.Proofs.Try.prog 50 sO_impl_floorDiv = true := by kernel_rfl
end Go.Ve

namespace Go.Ve
noncomputable section
open Go.Proofs
set_option linter.unusedSimpArgs false
set_option linter.unusedVariables false
set_option maxRecDepth 100000
theorem mulB {a b A B : Int} (ha : -A ≤ a ∧ a ≤ A) (hb : -B ≤ b ∧ b ≤ B) (hA : 0 ≤ A) (hB : 0 ≤ B) : -(A * B) ≤ a * b ∧ a * b ≤ A * B := by
  have h1 : (a * b).natAbs ≤ (A * B).natAbs := by
    rw [Int.natAbs_mul, Int.natAbs_mul]
    exact Nat.mul_le_mul (by omega) (by omega)
  have h2 : 0 ≤ A * B := Int.mul_nonneg hA hB
  generalize a * b = t at *
  generalize A * B = u at *
  omega
theorem i64_in' {n : Int} (h : -9223372036854775808 ≤ n ∧ n ≤ 9223372036854775807) : IntKind.i64.wrap n = n := by rw [IntKind.wrap_i64]; omega
/-- The quotient, downward. -/
theorem flDiv {v m : Int} (hm : 0 < m) : v / m = if v.tmod m ≠ 0 ∧ v < 0 then v.tdiv m - 1 else v.tdiv m := by
  have h := Int.tdiv_eq_ediv (a := v) (b := m)
  have h2 := Int.tmod_eq_emod (a := v) (b := m)
  have h3 : (m ∣ v) ↔ v % m = 0 := Int.dvd_iff_emod_eq_zero
  have h4 := Int.emod_nonneg v (show m ≠ 0 by omega)
  have h5 := Int.emod_lt_of_pos v hm
  rw [Int.sign_eq_one_of_pos hm] at h
  by_cases hv : 0 ≤ v
  · rw [if_pos (.inl hv)] at h; rw [if_neg (by omega)]; omega
  · by_cases hd : m ∣ v
    · rw [if_pos (.inr hd)] at h h2
      rw [if_neg (fun k => k.1 (by rw [h2]; simp [h3.1 hd]))]; omega
    · rw [if_neg (by rintro (k | k); exact hv k; exact hd k)] at h h2
      have h6 : v % m ≠ 0 := fun k => hd (h3.2 k)
      rw [if_pos ⟨by rw [h2]; omega, by omega⟩]; omega
theorem tdivB {v m : Int} : -(v.natAbs : Int) ≤ v.tdiv m ∧ v.tdiv m ≤ v.natAbs := by
  have := Int.natAbs_tdiv_le_natAbs v m
  omega
def part (d k n : Int) : Int := (2 * k * d + n) / (2 * n)

theorem c_l17Part (d k n : Int) (hd : -15 ≤ d ∧ d ≤ 15) (hk : 0 ≤ k ∧ k ≤ 15) (hn : 1 ≤ n ∧ n ≤ 15) : Contract P 42 [.int .i64 d, .int .i64 k, .int .i64 n] [] (.int .i64 (part d k n)) [] := by
  have h1 := mulB (a := 2 * k) (b := d) (A := 30) (B := 15) (by omega) (by omega) (by omega) (by omega)
  refine fn_sound (Env.nil P) hm kO_spec_l17Part (Nat.le_of_ble_eq_true rfl) rfl ?_; unfold sO_spec_l17Part; simp (config := { maxSteps := 2000000 }) only [bitvec_to_nat, reduceIte, Nat.reduceEqDiff, Nat.reduceAdd, Nat.reduceLeDiff, reduceCtorEq, Nat.reduceBEq, Nat.reduceLT, Nat.reduceMod, List.forall_mem_cons]
  have h2 := flDiv (v := 2 * k * d + n) (m := 2 * n) (by omega)
  have h3 := tdivB (v := 2 * k * d + n) (m := 2 * n)
  have h4 := Int.mul_tdiv_add_tmod (2 * k * d + n) (2 * n)
  have hp : part d k n = (2 * k * d + n) / (2 * n) := rfl
  generalize 2 * k * d = w at *
  generalize hq : (w + n).tdiv (2 * n) = q at *
  generalize (w + n).tmod (2 * n) = r at *
  have hw : IntKind.i64.wrap q = q := i64_in' (by omega)
  have h5 := mulB (a := q * 2) (b := n) (A := 930) (B := 15) (by omega) (by omega) (by omega) (by omega)
  have h6 : q * 2 * n = 2 * n * q := by rw [Int.mul_assoc, Int.mul_comm]
  simp only [hw]
  rw [hp, h2]
  generalize q * 2 * n = t at *
  generalize 2 * n * q = u at *
  refine ⟨by omega, by omega, by omega, by omega, by omega, fun h => ⟨by omega, by omega, fun h' => ⟨by omega, ?_⟩, fun h' => ?_⟩, fun h => ?_⟩
  · rw [if_pos ⟨by omega, by omega⟩]
  · rw [if_neg (by omega)]
  · rw [if_neg (by omega)]
theorem c_floorDiv (a b : Int) (ha : -1000000 ≤ a ∧ a ≤ 1000000) (hb : 0 < b) : Contract P 50 [.int .i64 a, .int .i64 b] [] (.int .i64 (a / b)) [] := by
  have h1 := tdivB (v := a) (m := b)
  have h2 := flDiv (v := a) hb
  refine fn_sound (Env.nil P) hm kO_impl_floorDiv (Nat.le_of_ble_eq_true rfl) rfl ?_; unfold sO_impl_floorDiv; simp (config := { maxSteps := 2000000 }) only [bitvec_to_nat, reduceIte, Nat.reduceEqDiff, Nat.reduceAdd, Nat.reduceLeDiff, reduceCtorEq, Nat.reduceBEq, Nat.reduceLT, Nat.reduceMod, List.forall_mem_cons]
  have h0 : a.tdiv b = a.tdiv b := rfl
  have hz : 0 ≤ a → 0 ≤ a.tdiv b := fun h => Int.tdiv_nonneg h (by omega)
  generalize a.tdiv b = q at *
  generalize a.tmod b = r at *
  have hw : IntKind.i64.wrap q = q := i64_in' (by omega)
  simp only [hw]
  rw [h2]
  refine ⟨by omega, by omega, fun h => ⟨fun h' => ?_, fun h' => ⟨by omega, ?_⟩⟩, fun h => ?_⟩
  · rw [if_neg (by omega)]
  · rw [if_pos ⟨by omega, by omega⟩]
  · rw [if_neg (by omega)]
def t_l17Part : List AV → Option (Prop × AV)
  | [.int .i64 d, .int .i64 k, .int .i64 n] => some (((-15 ≤ d ∧ d ≤ 15) ∧ (0 ≤ k ∧ k ≤ 15) ∧ (1 ≤ n ∧ n ≤ 15)), .int .i64 (part d k n))
  | _ => none
theorem h_l17Part : ∀ args p v, t_l17Part args = some (p, v) → p → Contract P 42 args [] v [] ∧ noref v = true ∧ No99 v := by
  intro args p v h1 h2
  unfold t_l17Part at h1
  split at h1
  · rename_i d k n
    cases h1
    exact ⟨c_l17Part d k n h2.1 h2.2.1 h2.2.2, rfl, trivial⟩
  · cases h1
def t_floorDiv : List AV → Option (Prop × AV)
  | [.int .i64 a, .int .i64 b] => some (((-1000000 ≤ a ∧ a ≤ 1000000) ∧ 0 < b), .int .i64 (a / b))
  | _ => none
theorem h_floorDiv : ∀ args p v, t_floorDiv args = some (p, v) → p → Contract P 50 args [] v [] ∧ noref v = true ∧ No99 v := by
  intro args p v h1 h2
  unfold t_floorDiv at h1
  split at h1
  · rename_i a b
    cases h1
    exact ⟨c_floorDiv a b h2.1 h2.2, rfl, trivial⟩
  · cases h1
def iabs (a : Int) : Int := if a < 0 then -a else a
theorem c_l17Abs (a : Int) (ha : -1000000 ≤ a ∧ a ≤ 1000000) : Contract P 41 [.int .i64 a] [] (.int .i64 (iabs a)) [] := by
  refine fn_sound (Env.nil P) hm k_spec_l17Abs (Nat.le_of_ble_eq_true rfl) rfl ?_; unfold s_spec_l17Abs; simp (config := { maxSteps := 2000000 }) only [bitvec_to_nat, reduceIte, Nat.reduceEqDiff, Nat.reduceAdd, Nat.reduceLeDiff, reduceCtorEq, Nat.reduceBEq, Nat.reduceLT, Nat.reduceMod, List.forall_mem_cons]
  rw [i64_in' (by omega)]
  unfold iabs
  exact ⟨fun h => by rw [if_pos h]; omega, fun h => by rw [if_neg h]⟩
def t_l17Abs : List AV → Option (Prop × AV)
  | [.int .i64 a] => some ((-1000000 ≤ a ∧ a ≤ 1000000), .int .i64 (iabs a))
  | _ => none
theorem h_l17Abs : ∀ args p v, t_l17Abs args = some (p, v) → p → Contract P 41 args [] v [] ∧ noref v = true ∧ No99 v := by
  intro args p v h1 h2
  unfold t_l17Abs at h1
  split at h1
  · rename_i a
    cases h1
    exact ⟨c_l17Abs a h2, rfl, trivial⟩
  · cases h1
theorem c_l17Max (a b : Int) : Contract P 40 [.int .i64 a, .int .i64 b] [] (.int .i64 (max a b)) [] := by
  refine fn_sound (Env.nil P) hm k_spec_l17Max (Nat.le_of_ble_eq_true rfl) rfl ?_; unfold s_spec_l17Max; simp (config := { maxSteps := 2000000 }) only [bitvec_to_nat, reduceIte, Nat.reduceEqDiff, Nat.reduceAdd, Nat.reduceLeDiff, reduceCtorEq, Nat.reduceBEq, Nat.reduceLT, Nat.reduceMod, List.forall_mem_cons]
  exact ⟨fun h => by omega, fun h => by omega⟩
def t_l17Max : List AV → Option (Prop × AV)
  | [.int .i64 a, .int .i64 b] => some (True, .int .i64 (max a b))
  | _ => none
theorem h_l17Max : ∀ args p v, t_l17Max args = some (p, v) → p → Contract P 40 args [] v [] ∧ noref v = true ∧ No99 v := by
  intro args p v h1 h2
  unfold t_l17Max at h1
  split at h1
  · rename_i a b
    cases h1
    exact ⟨c_l17Max a b, rfl, trivial⟩
  · cases h1
def steps (a b : Cell) : Int := max (iabs (a.x - b.x)) (iabs (a.y - b.y))
def Cell.inn (a : Cell) : Prop := (0 ≤ a.x ∧ a.x ≤ 15) ∧ (0 ≤ a.y ∧ a.y ≤ 15)
instance (a : Cell) : Decidable a.inn := by unfold Cell.inn; infer_instance
theorem steps_eq {a b : Cell} : max (iabs (a.x - b.x)) (iabs (a.y - b.y)) = steps a b := rfl
theorem steps_le {a b : Cell} (ha : a.inn) (hb : b.inn) : 0 ≤ steps a b ∧ steps a b ≤ 15 ∧ -15 ≤ b.x - a.x ∧ b.x - a.x ≤ 15 ∧ -15 ≤ b.y - a.y ∧ b.y - a.y ≤ 15 := by
  unfold Cell.inn at ha hb
  unfold steps iabs
  split <;> split <;> omega
def lgC (a b : Cell) (k : Int) : Cell := ⟨a.x + part (b.x - a.x) k (steps a b), a.y + part (b.y - a.y) k (steps a b)⟩
def lgK (a b : Cell) (m : Nat) : List Cell := (List.range m).map fun k : Nat => lgC a b k
def legU (a b : Cell) : List Cell := lgK a b ((steps a b).toNat + 1)
def sw (a b : Cell) : Prop := b.x < a.x ∨ (b.x = a.x ∧ b.y < a.y)
instance (a b : Cell) : Decidable (sw a b) := by unfold sw; infer_instance
def legOf (a b : Cell) : List Cell := if sw a b then (legU b a).reverse else legU a b
theorem lgK_len {a b : Cell} {m : Nat} : (lgK a b m).length = m := by simp [lgK]
theorem lgK_succ {a b : Cell} {m : Nat} : (lgK a b m).map Cell.row ++ [Cell.row (lgC a b m)] = (lgK a b (m + 1)).map Cell.row := by
  simp [lgK, List.range_succ]
theorem lgC_0 {a b : Cell} : lgC a b 0 = a := by
  have h : ∀ d n : Int, 0 ≤ n → part d 0 n = 0 := fun d n hn => by
    unfold part
    rw [show 2 * (0 : Int) * d + n = n by omega]
    by_cases h : n = 0
    · subst h; rfl
    · exact Int.ediv_eq_zero_of_lt hn (by omega)
  have hs : 0 ≤ steps a b := by unfold steps iabs; split <;> split <;> omega
  unfold lgC
  rw [h _ _ hs, h _ _ hs]; simp
theorem legU_len {a b : Cell} (ha : a.inn) (hb : b.inn) : (legU a b).length ≤ 16 := by
  have := steps_le ha hb
  rw [legU, lgK_len]; omega
theorem sw_asym {a b : Cell} (h : sw a b) : ¬ sw b a := by unfold sw at *; omega
theorem part_b {d k n : Int} (hd : -15 ≤ d ∧ d ≤ 15) (hk : 0 ≤ k ∧ k ≤ 15) (hn : 1 ≤ n ∧ n ≤ 15) : -1000 ≤ part d k n ∧ part d k n ≤ 1000 := by
  have h1 := mulB (a := 2 * k) (b := d) (A := 30) (B := 15) (by omega) (by omega) (by omega) (by omega)
  have h2 := flDiv (v := 2 * k * d + n) (m := 2 * n) (by omega)
  have h3 := tdivB (v := 2 * k * d + n) (m := 2 * n)
  unfold part
  rw [h2]
  generalize 2 * k * d = w at *
  split <;> omega
theorem lgK_1 {a b : Cell} : (lgK a b 1).map Cell.row = [a.row] := by
  simp [lgK, lgC_0]
theorem c_legU0 (a b : Cell) (ha : a.inn) (hb : b.inn) (hs1 : ¬ b.x < a.x) (hs2 : b.x = a.x → ¬ b.y < a.y) : Contract P 22 [.agg a.row, .agg b.row] [] (.sl 0 2 ((legU a b).map Cell.row)) [] := by
  have hni : decide a.inn = true := by simp [ha]
  have hnj : decide b.inn = true := by simp [hb]
  have hst := steps_le ha hb
  have tkl : True := trivial
  have hs3 : b.x = a.x → (b.y < a.y) = False := fun h => eq_false (hs2 h)
  have run : ∀ (hx' : (b.x = a.x) = True ∨ (b.x = a.x) = False), Contract P 22 [.agg a.row, .agg b.row] [] (.sl 0 2 ((legU a b).map Cell.row)) [] := by
    intro hx'
    rcases hx' with hx' | hx'
    all_goals
      refine fn_sound ((((Env.nil P).add 41 t_l17Abs h_l17Abs).add 40 t_l17Max h_l17Max).add 42 t_l17Part h_l17Part) hm k_spec_l17Leg (Nat.le_of_ble_eq_true rfl) rfl ?_; unfold s_spec_l17Leg; simp (config := { maxSteps := 2000000 }) only [bitvec_to_nat, reduceIte, Nat.reduceEqDiff, Nat.reduceAdd, Nat.reduceLeDiff, reduceCtorEq, Nat.reduceBEq, Nat.reduceLT, Nat.reduceMod, List.forall_mem_cons, t_l17Abs, t_l17Max, t_l17Part, tk_map, dp_map, toNat_pred, appE, rowsOf, List.take_length, List.length_cons, List.length_nil, Nat.zero_add, srow, irow, un_s, un_i, Zone.row, Zone_eta, un_Zone, Word.row, Word_eta, Own.row, Own_eta, Part.row, Part_eta, Seen.row, Seen_eta, Book.row, Book_eta, Sector.row, Sector_eta, HCraft.row, HCraft_eta, World.row, World_eta, PKind.row, PKind_eta, PPt.row, PPt_eta, Cell.row, Cell_eta, un_Word, un_Own, un_Part, un_Seen, un_Book, un_Sector, un_HCraft, un_World, un_PKind, un_PPt, un_Cell, Nat.sub_zero, List.nil_append, tkl, ghost, hni, hnj, hs1, hx', hs3, steps_eq, not_true_eq_false, not_false_eq_true, true_or, or_true, or_false, false_or]
      refine ⟨by unfold Cell.inn at ha hb; omega, by unfold Cell.inn at ha hb; omega, by unfold Cell.inn at ha hb; omega, by unfold Cell.inn at ha hb; omega, ?_⟩
      refine loop_st (fun m : Nat => [(5, .own 110 m 0 m), (9, .int .i64 m)]) (fun m => [(110, .arr 49 m 2 ((lgK a b m).map Cell.row))]) (fun m => 1 ≤ m ∧ (m : Int) ≤ steps a b + 1) (fun m => ((steps a b).toNat + 1) - m) 1 (by rw [lgK_1]; simp only [u_E0, u_E1, u_M0, u_M1, w_setE0, w_setE1, w_setM0, w_setM1, reduceIte, Nat.reduceEqDiff]; exact ⟨by repeat' (first | exact trivial | refine ⟨.inr rfl, ?_⟩), by repeat' (first | exact trivial | refine ⟨rfl, ?_⟩), by first | rfl | simp [closedB, refsIn, refsInL, refsInO, dom, refsInL_nr, *], by first | rfl | simp [keepB, dom]⟩) ⟨Nat.le_refl _, by omega⟩ ?_
      rintro m ⟨h1, h2⟩ NX hN
      have hll := lgK_len (a := a) (b := b) (m := m)
      have hsu := lgK_succ (a := a) (b := b) (m := m)
      have tkl : List.take m ((lgK a b m).map Cell.row) = (lgK a b m).map Cell.row := List.take_of_length_le (by simp [lgK_len])
      by_cases h : (m : Int) ≤ steps a b
      · have hp1 := part_b (d := b.x - a.x) (k := m) (n := steps a b) (by omega) (by omega) (by omega)
        have hp2 := part_b (d := b.y - a.y) (k := m) (n := steps a b) (by omega) (by omega) (by omega)
        unfold Cell.inn at ha hb
        unfold l_spec_l17Leg_1; simp (config := { maxSteps := 2000000 }) only [bitvec_to_nat, reduceIte, Nat.reduceEqDiff, Nat.reduceAdd, Nat.reduceLeDiff, reduceCtorEq, Nat.reduceBEq, Nat.reduceLT, Nat.reduceMod, List.forall_mem_cons, t_l17Abs, t_l17Max, t_l17Part, tk_map, dp_map, toNat_pred, appE, rowsOf, List.take_length, List.length_cons, List.length_nil, Nat.zero_add, srow, irow, un_s, un_i, Zone.row, Zone_eta, un_Zone, Word.row, Word_eta, Own.row, Own_eta, Part.row, Part_eta, Seen.row, Seen_eta, Book.row, Book_eta, Sector.row, Sector_eta, HCraft.row, HCraft_eta, World.row, World_eta, PKind.row, PKind_eta, PPt.row, PPt_eta, Cell.row, Cell_eta, un_Word, un_Own, un_Part, un_Seen, un_Book, un_Sector, un_HCraft, un_World, un_PKind, un_PPt, un_Cell, Nat.sub_zero, List.nil_append, tkl, ghost, hni, hnj, hs1, hx', hs3, steps_eq, not_true_eq_false, not_false_eq_true, true_or, or_true, or_false, false_or]
        repeat' (first | with_reducible apply And.intro | with_reducible intro _)
        all_goals first
          | omega
          | (refine hN (m + 1) _ ⟨by repeat' (first | exact trivial | refine ⟨.inr rfl, ?_⟩), ⟨rfl, rfl, congrArg (fun g => some (AObj.arr 49 (m + 1) 2 g)) hsu, trivial⟩, rfl, rfl⟩ ⟨by omega, by omega⟩ (by omega))
          | trace_state
      · have e : m = (steps a b).toNat + 1 := by omega
        unfold l_spec_l17Leg_1; simp (config := { maxSteps := 2000000 }) only [bitvec_to_nat, reduceIte, Nat.reduceEqDiff, Nat.reduceAdd, Nat.reduceLeDiff, reduceCtorEq, Nat.reduceBEq, Nat.reduceLT, Nat.reduceMod, List.forall_mem_cons, t_l17Abs, t_l17Max, t_l17Part, tk_map, dp_map, toNat_pred, appE, rowsOf, List.take_length, List.length_cons, List.length_nil, Nat.zero_add, srow, irow, un_s, un_i, Zone.row, Zone_eta, un_Zone, Word.row, Word_eta, Own.row, Own_eta, Part.row, Part_eta, Seen.row, Seen_eta, Book.row, Book_eta, Sector.row, Sector_eta, HCraft.row, HCraft_eta, World.row, World_eta, PKind.row, PKind_eta, PPt.row, PPt_eta, Cell.row, Cell_eta, un_Word, un_Own, un_Part, un_Seen, un_Book, un_Sector, un_HCraft, un_World, un_PKind, un_PPt, un_Cell, Nat.sub_zero, List.nil_append, tkl, ghost, hni, hnj, hs1, hx', hs3, steps_eq, not_true_eq_false, not_false_eq_true, true_or, or_true, or_false, false_or]
        subst e
        refine ⟨fun h' => absurd h' h, fun _ => ?_⟩
        first | trivial | rfl
  exact run (Classical.propComplete _)
end
end Go.Ve

namespace Go.Ve
noncomputable section
open Go.Proofs
set_option linter.unusedSimpArgs false
set_option linter.unusedVariables false
set_option maxRecDepth 100000
theorem rev_snoc {l : List Cell} {t : Nat} (h : t < l.length) : (l.reverse.take t).map Cell.row ++ [Cell.row (l.getD (l.length - 1 - t) default)] = (l.reverse.take (t + 1)).map Cell.row := by
  rw [List.take_succ_eq_append_getElem (by simpa using h), List.map_append]
  have h2 : l.length - 1 - t < l.length := by omega
  simp [List.getElem_reverse, h2]
theorem c_legSw (a b : Cell) (ha : a.inn) (hb : b.inn) (hs : sw a b) : Contract P 22 [.agg a.row, .agg b.row] [] (.sl 0 2 ((legU b a).reverse.map Cell.row)) [] := by
  have hni : decide a.inn = true := by simp [ha]
  have hnj : decide b.inn = true := by simp [hb]
  have tkl : True := trivial
  have hsb := sw_asym hs
  have hC := c_legU0 b a hb ha (fun h => hsb (.inl h)) (fun h h' => hsb (.inr ⟨h, h'⟩))
  have n9 : No99 (.sl 0 2 ((legU b a).map Cell.row)) := by simp only [No99]; exact ⟨by omega, no99_Cell _⟩
  have hl16 := legU_len hb ha
  have e00 : ((legU b a).length : Int) - 1 - ((0 : Nat) : Int) = ((legU b a).length : Int) - 1 := by omega
  have run : ∀ (hs1 : (b.x < a.x) = True ∨ ((b.x < a.x) = False ∧ (b.x = a.x) = True ∧ (b.y < a.y) = True)), Contract P 22 [.agg a.row, .agg b.row] [] (.sl 0 2 ((legU b a).reverse.map Cell.row)) [] := by
    intro hs1
    have hx' : True := trivial
    have hs3 : True := trivial
    rcases hs1 with hs1 | ⟨hs1, hx', hs3⟩
    all_goals
      refine fn_sound ((((Env.nil P).add 41 t_l17Abs h_l17Abs).add 40 t_l17Max h_l17Max).add 42 t_l17Part h_l17Part) hm k_spec_l17Leg (Nat.le_of_ble_eq_true rfl) rfl ?_; unfold s_spec_l17Leg; simp (config := { maxSteps := 2000000 }) only [bitvec_to_nat, reduceIte, Nat.reduceEqDiff, Nat.reduceAdd, Nat.reduceLeDiff, reduceCtorEq, Nat.reduceBEq, Nat.reduceLT, Nat.reduceMod, List.forall_mem_cons, t_l17Abs, t_l17Max, t_l17Part, tk_map, dp_map, toNat_pred, appE, rowsOf, List.take_length, List.length_cons, List.length_nil, Nat.zero_add, srow, irow, un_s, un_i, Zone.row, Zone_eta, un_Zone, Word.row, Word_eta, Own.row, Own_eta, Part.row, Part_eta, Seen.row, Seen_eta, Book.row, Book_eta, Sector.row, Sector_eta, HCraft.row, HCraft_eta, World.row, World_eta, PKind.row, PKind_eta, PPt.row, PPt_eta, Cell.row, Cell_eta, un_Word, un_Own, un_Part, un_Seen, un_Book, un_Sector, un_HCraft, un_World, un_PKind, un_PPt, un_Cell, Nat.sub_zero, List.nil_append, tkl, ghost, hni, hnj, hs1, hx', hs3, not_true_eq_false, not_false_eq_true, true_or, or_true, or_false, false_or]
      refine ⟨_, _, .inr (.inl ⟨rfl, _, rfl, hC, rfl, n9⟩), ?_⟩
      simp (config := { maxSteps := 2000000 }) only [bitvec_to_nat, reduceIte, Nat.reduceEqDiff, Nat.reduceAdd, Nat.reduceLeDiff, reduceCtorEq, Nat.reduceBEq, Nat.reduceLT, Nat.reduceMod, List.forall_mem_cons, t_l17Abs, t_l17Max, t_l17Part, tk_map, dp_map, toNat_pred, appE, rowsOf, List.take_length, List.length_cons, List.length_nil, Nat.zero_add, srow, irow, un_s, un_i, Zone.row, Zone_eta, un_Zone, Word.row, Word_eta, Own.row, Own_eta, Part.row, Part_eta, Seen.row, Seen_eta, Book.row, Book_eta, Sector.row, Sector_eta, HCraft.row, HCraft_eta, World.row, World_eta, PKind.row, PKind_eta, PPt.row, PPt_eta, Cell.row, Cell_eta, un_Word, un_Own, un_Part, un_Seen, un_Book, un_Sector, un_HCraft, un_World, un_PKind, un_PPt, un_Cell, Nat.sub_zero, List.nil_append, tkl, ghost, hni, hnj, hs1, hx', hs3, not_true_eq_false, not_false_eq_true, true_or, or_true, or_false, false_or]
      generalize legU b a = l at *
      refine ⟨by omega, ?_⟩
      refine loop_st (fun t : Nat => [(5, .own 110 t 0 t), (7, .int .i64 ((l.length : Int) - 1 - (t : Nat)))]) (fun t => [(110, .arr 49 t 2 ((l.reverse.take t).map Cell.row))]) (fun t => t ≤ l.length) (fun t => l.length - t) 0 (by simp only [List.take_zero, List.map_nil, e00]; simp only [u_E0, u_E1, u_M0, u_M1, w_setE0, w_setE1, w_setM0, w_setM1, reduceIte, Nat.reduceEqDiff]; exact ⟨by repeat' (first | exact trivial | refine ⟨.inr rfl, ?_⟩), by repeat' (first | exact trivial | refine ⟨rfl, ?_⟩), by first | rfl | simp [closedB, refsIn, refsInL, refsInO, dom, refsInL_nr, *], by first | rfl | simp [keepB, dom]⟩) (Nat.zero_le _) ?_
      intro t ht NX hN
      have hsu : t < l.length → _ := fun h => rev_snoc (l := l) h
      have tkl : List.take t ((l.reverse.take t).map Cell.row) = (l.reverse.take t).map Cell.row := List.take_of_length_le (by simp; omega)
      have e5 : (l.length : Int) - 1 - ((t + 1 : Nat) : Int) = (l.length : Int) - 1 - (t : Nat) - 1 := by omega
      have e6 : ((l.length : Int) - 1 - (t : Nat)).toNat = l.length - 1 - t := by omega
      by_cases h : t < l.length
      · have hsu := hsu h
        unfold l_spec_l17Leg_0; simp (config := { maxSteps := 2000000 }) only [bitvec_to_nat, reduceIte, Nat.reduceEqDiff, Nat.reduceAdd, Nat.reduceLeDiff, reduceCtorEq, Nat.reduceBEq, Nat.reduceLT, Nat.reduceMod, List.forall_mem_cons, t_l17Abs, t_l17Max, t_l17Part, tk_map, dp_map, toNat_pred, appE, rowsOf, List.take_length, List.length_cons, List.length_nil, Nat.zero_add, srow, irow, un_s, un_i, Zone.row, Zone_eta, un_Zone, Word.row, Word_eta, Own.row, Own_eta, Part.row, Part_eta, Seen.row, Seen_eta, Book.row, Book_eta, Sector.row, Sector_eta, HCraft.row, HCraft_eta, World.row, World_eta, PKind.row, PKind_eta, PPt.row, PPt_eta, Cell.row, Cell_eta, un_Word, un_Own, un_Part, un_Seen, un_Book, un_Sector, un_HCraft, un_World, un_PKind, un_PPt, un_Cell, Nat.sub_zero, List.nil_append, tkl, ghost, hni, hnj, hs1, hx', hs3, not_true_eq_false, not_false_eq_true, true_or, or_true, or_false, false_or, e6]
        repeat' (first | with_reducible apply And.intro | with_reducible intro _)
        all_goals first
          | omega
          | (refine hN (t + 1) _ ⟨by simp only [e5]; repeat' (first | exact trivial | refine ⟨.inr rfl, ?_⟩), ⟨rfl, rfl, congrArg (fun g => some (AObj.arr 49 (t + 1) 2 g)) hsu, trivial⟩, rfl, rfl⟩ h (by omega))
          | trace_state
      · have e : t = l.length := by omega
        subst e
        unfold l_spec_l17Leg_0; simp (config := { maxSteps := 2000000 }) only [bitvec_to_nat, reduceIte, Nat.reduceEqDiff, Nat.reduceAdd, Nat.reduceLeDiff, reduceCtorEq, Nat.reduceBEq, Nat.reduceLT, Nat.reduceMod, List.forall_mem_cons, t_l17Abs, t_l17Max, t_l17Part, tk_map, dp_map, toNat_pred, appE, rowsOf, List.take_length, List.length_cons, List.length_nil, Nat.zero_add, srow, irow, un_s, un_i, Zone.row, Zone_eta, un_Zone, Word.row, Word_eta, Own.row, Own_eta, Part.row, Part_eta, Seen.row, Seen_eta, Book.row, Book_eta, Sector.row, Sector_eta, HCraft.row, HCraft_eta, World.row, World_eta, PKind.row, PKind_eta, PPt.row, PPt_eta, Cell.row, Cell_eta, un_Word, un_Own, un_Part, un_Seen, un_Book, un_Sector, un_HCraft, un_World, un_PKind, un_PPt, un_Cell, Nat.sub_zero, List.nil_append, tkl, ghost, hni, hnj, hs1, hx', hs3, not_true_eq_false, not_false_eq_true, true_or, or_true, or_false, false_or]
        refine ⟨fun h' => absurd h' (by omega), fun _ => ?_⟩
        rw [List.take_of_length_le (by simp)]
  by_cases h : b.x < a.x
  · exact run (.inl (eq_true h))
  · exact run (.inr ⟨eq_false h, eq_true (hs.elim (fun k => absurd k h) fun k => k.1), eq_true (hs.elim (fun k => absurd k h) fun k => k.2)⟩)
theorem c_l17Leg (a b : Cell) (ha : a.inn) (hb : b.inn) : Contract P 22 [.agg a.row, .agg b.row] [] (.sl 0 2 ((legOf a b).map Cell.row)) [] := by
  by_cases h : sw a b
  · rw [legOf, if_pos h]; exact c_legSw a b ha hb h
  · rw [legOf, if_neg h]; exact c_legU0 a b ha hb (fun k => h (.inl k)) fun k k' => h (.inr ⟨k, k'⟩)
def t_l17Leg : List AV → Option (Prop × AV)
  | [.agg [.int .i64 a_x, .int .i64 a_y], .agg [.int .i64 b_x, .int .i64 b_y]] => some ((True) ∧ (Cell.inn (Cell.mk a_x a_y) ∧ Cell.inn (Cell.mk b_x b_y)), .sl 0 2 ((legOf (Cell.mk a_x a_y) (Cell.mk b_x b_y)).map Cell.row))
  | _ => none
theorem h_l17Leg : ∀ args p v, t_l17Leg args = some (p, v) → p → Contract P 22 args [] v [] ∧ noref v = true ∧ No99 v := by
  intro args p v h1 h2
  unfold t_l17Leg at h1
  split at h1
  · rename_i a_x a_y b_x b_y
    cases h1
    obtain ⟨_, HP⟩ := h2
    have := c_l17Leg (Cell.mk a_x a_y) (Cell.mk b_x b_y) HP.1 HP.2
    exact ⟨by simpa only [Cell.row, Cell.row] using this, rfl, by simp only [No99]; exact ⟨by omega, no99_Cell _⟩⟩
  · cases h1
def rvAt (l0 l : List Cell) (i : Nat) : Prop := l.length = l0.length ∧ ∀ t, t < l0.length → l.getD t default = if t < i ∨ l0.length - 1 - i < t then l0.getD (l0.length - 1 - t) default else l0.getD t default
theorem setm_Cell {l : List Cell} {i : Nat} {x y : Int} : (l.map Cell.row).set i (setSeg ((l.map Cell.row).getD i []) 0 [.int .i64 x, .int .i64 y]) = (l.set i ⟨x, y⟩).map Cell.row :=
  set_rows (α := Cell) (f := Cell.row) (fun _ => ⟨x, y⟩) fun c => by simp [Cell.row, setSeg]
set_option maxHeartbeats 1000000 in
theorem c_reverse (v : Nat) (l0 : List Cell) (hl : l0.length ≤ 1048576) : Contract P 51 [.own 3 v 0 l0.length] [(3, .arr 60 v 2 (l0.map Cell.row))] (.tup []) [(3, .arr 60 v 2 (l0.reverse.map Cell.row))] := by
  have tkl : True := trivial
  have hgi : True := trivial
  have hgj : True := trivial
  have e00 : (l0.length : Int) - 1 - ((0 : Nat) : Int) = (l0.length : Int) - 1 := by omega
  refine fn_sound (Env.nil P) hm k_slices_Reverse__2_int (Nat.le_of_ble_eq_true rfl) rfl ?_; unfold s_slices_Reverse__2_int; simp (config := { maxSteps := 2000000 }) only [bitvec_to_nat, reduceIte, Nat.reduceEqDiff, Nat.reduceAdd, Nat.reduceLeDiff, reduceCtorEq, Nat.reduceBEq, Nat.reduceLT, Nat.reduceMod, List.forall_mem_cons, retG_ret, retQ_eq, retQ_eqN, retOk, keepB, re_tupl, orr_t, tk_map, dp_map, toNat_pred, appE, rowsOf, List.take_length, List.length_cons, List.length_nil, Nat.zero_add, srow, irow, un_s, un_i, Zone.row, Zone_eta, un_Zone, Word.row, Word_eta, Own.row, Own_eta, Part.row, Part_eta, Seen.row, Seen_eta, Book.row, Book_eta, Sector.row, Sector_eta, HCraft.row, HCraft_eta, World.row, World_eta, PKind.row, PKind_eta, PPt.row, PPt_eta, Cell.row, Cell_eta, un_Word, un_Own, un_Part, un_Seen, un_Book, un_Sector, un_HCraft, un_World, un_PKind, un_PPt, un_Cell, Nat.sub_zero, List.nil_append, tkl, hgi, setm_Cell, Cell_eta, Int.toNat_natCast, List.length_set, List.length_map]
  refine ⟨by omega, ?_⟩
  refine loop_st (fun b : Nat × List Cell => [(2, .int .i64 b.1), (3, .int .i64 ((l0.length : Int) - 1 - (b.1 : Nat)))]) (fun b => [(3, .arr 60 v 2 (b.2.map Cell.row))]) (fun b => rvAt l0 b.2 b.1 ∧ 2 * b.1 ≤ l0.length + 1) (fun b => l0.length + 1 - b.1) (0, l0) (by simp only [e00]; simp only [u_E0, u_E1, u_M0, u_M1, w_setE0, w_setE1, w_setM0, w_setM1, reduceIte, Nat.reduceEqDiff]; exact ⟨by repeat' (first | exact trivial | refine ⟨.inr rfl, ?_⟩), by repeat' (first | exact trivial | refine ⟨rfl, ?_⟩), by first | rfl | simp [closedB, refsIn, refsInL, refsInO, dom, refsInL_nr, *], by first | rfl | simp [keepB, dom]⟩) ⟨⟨rfl, fun t ht => by rw [if_neg (by omega)]⟩, by omega⟩ ?_
  rintro ⟨i, l⟩ ⟨⟨h1, h2⟩, h3⟩ NX hN
  simp only at h1 h2 h3
  have e5 : (l0.length : Int) - 1 - ((i + 1 : Nat) : Int) = (l0.length : Int) - 1 - (i : Nat) - 1 := by omega
  have hgi : ((l0.length : Int) - 1 - (i : Nat)).toNat = l0.length - 1 - i := by omega
  by_cases h : (i : Int) < (l0.length : Int) - 1 - (i : Nat)
  · unfold l_slices_Reverse__2_int_0; simp (config := { maxSteps := 2000000 }) only [bitvec_to_nat, reduceIte, Nat.reduceEqDiff, Nat.reduceAdd, Nat.reduceLeDiff, reduceCtorEq, Nat.reduceBEq, Nat.reduceLT, Nat.reduceMod, List.forall_mem_cons, retG_ret, retQ_eq, retQ_eqN, retOk, keepB, re_tupl, orr_t, tk_map, dp_map, toNat_pred, appE, rowsOf, List.take_length, List.length_cons, List.length_nil, Nat.zero_add, srow, irow, un_s, un_i, Zone.row, Zone_eta, un_Zone, Word.row, Word_eta, Own.row, Own_eta, Part.row, Part_eta, Seen.row, Seen_eta, Book.row, Book_eta, Sector.row, Sector_eta, HCraft.row, HCraft_eta, World.row, World_eta, PKind.row, PKind_eta, PPt.row, PPt_eta, Cell.row, Cell_eta, un_Word, un_Own, un_Part, un_Seen, un_Book, un_Sector, un_HCraft, un_World, un_PKind, un_PPt, un_Cell, Nat.sub_zero, List.nil_append, tkl, hgi, setm_Cell, Cell_eta, Int.toNat_natCast, List.length_set, List.length_map]
    have a1 := h2 i (by omega)
    have a2 := h2 (l0.length - 1 - i) (by omega)
    rw [if_neg (by omega)] at a1 a2
    repeat' (first | with_reducible apply And.intro | with_reducible intro _)
    all_goals first
      | omega
      | (refine hN (i + 1, (l.set i (l.getD (l0.length - 1 - i) default)).set (l0.length - 1 - i) (l.getD i default)) _ (by simp only [e5]; simp only [u_E0, u_E1, u_M0, u_M1, w_setE0, w_setE1, w_setM0, w_setM1, reduceIte, Nat.reduceEqDiff]; exact ⟨by repeat' (first | exact trivial | refine ⟨.inr rfl, ?_⟩), by repeat' (first | exact trivial | refine ⟨rfl, ?_⟩), by first | rfl | simp [closedB, refsIn, refsInL, refsInO, dom, refsInL_nr, *], by first | rfl | simp [keepB, dom]⟩) ⟨⟨by simp [h1], fun t ht => ?_⟩, by simp only; omega⟩ (by simp only; omega)
         simp only
         by_cases q1 : t = l0.length - 1 - i
         · subst q1
           rw [getD_seti' (by rw [List.length_set]; omega), if_pos (by omega), a1]; congr 1; omega
         · rw [getD_setn' (Ne.symm q1)]
           by_cases q2 : t = i
           · subst q2; rw [getD_seti' (by omega), if_pos (by omega), a2]
           · rw [getD_setn' (Ne.symm q2), h2 t ht]
             by_cases q3 : t < i ∨ l0.length - 1 - i < t
             · rw [if_pos q3, if_pos (by omega)]
             · rw [if_neg q3, if_neg (by omega)])
      | trace_state
  · unfold l_slices_Reverse__2_int_0; simp (config := { maxSteps := 2000000 }) only [bitvec_to_nat, reduceIte, Nat.reduceEqDiff, Nat.reduceAdd, Nat.reduceLeDiff, reduceCtorEq, Nat.reduceBEq, Nat.reduceLT, Nat.reduceMod, List.forall_mem_cons, retG_ret, retQ_eq, retQ_eqN, retOk, keepB, re_tupl, orr_t, tk_map, dp_map, toNat_pred, appE, rowsOf, List.take_length, List.length_cons, List.length_nil, Nat.zero_add, srow, irow, un_s, un_i, Zone.row, Zone_eta, un_Zone, Word.row, Word_eta, Own.row, Own_eta, Part.row, Part_eta, Seen.row, Seen_eta, Book.row, Book_eta, Sector.row, Sector_eta, HCraft.row, HCraft_eta, World.row, World_eta, PKind.row, PKind_eta, PPt.row, PPt_eta, Cell.row, Cell_eta, un_Word, un_Own, un_Part, un_Seen, un_Book, un_Sector, un_HCraft, un_World, un_PKind, un_PPt, un_Cell, Nat.sub_zero, List.nil_append, tkl, hgi, setm_Cell, Cell_eta, Int.toNat_natCast, List.length_set, List.length_map]
    have e : l = l0.reverse := ext_of (by simp [h1]) fun t ht => by
      have ht' : t < l0.length := by omega
      rw [h2 t ht']
      have e9 : l0.reverse.getD t default = l0.getD (l0.length - 1 - t) default := by
        have : l0.length - 1 - t < l0.length := by omega
        simp [List.getElem?_reverse, ht', this]
      rw [e9]
      split
      · rfl
      · congr 1; omega
    refine ⟨fun h' => absurd h' h, fun _ => ?_⟩
    subst e
    exact ⟨⟨[], rfl, rfl⟩, rfl⟩
end
end Go.Ve

namespace Go.Ve
noncomputable section
open Go.Proofs
set_option linter.unusedSimpArgs false
set_option linter.unusedVariables false
set_option maxRecDepth 100000
set_option maxHeartbeats 2000000 in
theorem c_legU (a b : Cell) (ha : a.inn) (hb : b.inn) (hs : ¬ sw a b) : Contract P 27 [.int .i64 a.x, .int .i64 a.y, .int .i64 b.x, .int .i64 b.y] [] (.sl 0 2 ((legOf a b).map Cell.row)) [] := by
  have tkl : True := trivial
  have hlo : legOf a b = legU a b := if_neg hs
  rw [hlo]
  have hst := steps_le ha hb
  have hmx : (if max (a.y - b.y) (b.y - a.y) > max (a.x - b.x) (b.x - a.x) then max (a.y - b.y) (b.y - a.y) else max (a.x - b.x) (b.x - a.x)) = steps a b := by unfold steps iabs; split <;> split <;> split <;> omega
  unfold Cell.inn at ha hb
  unfold sw at hs
  have run : ∀ (hs1 : ((b.x < a.x) = False ∧ (a.x = b.x) = False ∧ True) ∨ ((b.x < a.x) = False ∧ (a.x = b.x) = True ∧ (b.y < a.y) = False)), Contract P 27 [.int .i64 a.x, .int .i64 a.y, .int .i64 b.x, .int .i64 b.y] [] (.sl 0 2 ((legU a b).map Cell.row)) [] := by
    intro hs1
    rcases hs1 with ⟨hs1, hx', hs3⟩ | ⟨hs1, hx', hs3⟩
    all_goals
      refine fn_sound (((Env.nil P).add 49 t_dist h_dist).add 50 t_floorDiv h_floorDiv) hm k_impl_leg (Nat.le_of_ble_eq_true rfl) rfl ?_; unfold s_impl_leg; simp (config := { maxSteps := 2000000 }) only [bitvec_to_nat, reduceIte, Nat.reduceEqDiff, Nat.reduceAdd, Nat.reduceLeDiff, reduceCtorEq, Nat.reduceBEq, Nat.reduceLT, Nat.reduceMod, List.forall_mem_cons, retG_ret, retQ_eq, retQ_eqN, retOk, keepB, re_tupl, orr_t, t_dist, t_floorDiv, tk_map, dp_map, toNat_pred, appE, rowsOf, List.take_length, List.length_cons, List.length_nil, Nat.zero_add, srow, irow, un_s, un_i, Zone.row, Zone_eta, un_Zone, Word.row, Word_eta, Own.row, Own_eta, Part.row, Part_eta, Seen.row, Seen_eta, Book.row, Book_eta, Sector.row, Sector_eta, HCraft.row, HCraft_eta, World.row, World_eta, PKind.row, PKind_eta, PPt.row, PPt_eta, Cell.row, Cell_eta, un_Word, un_Own, un_Part, un_Seen, un_Book, un_Sector, un_HCraft, un_World, un_PKind, un_PPt, un_Cell, Nat.sub_zero, List.nil_append, tkl, ghost, hs1, hx', hs3, hmx, not_true_eq_false, not_false_eq_true, true_or, or_true, or_false, false_or]
      refine ⟨by omega, by omega, ?_⟩
      refine loop_st (fun m : Nat => [(11, .own 111 m 0 m), (12, .int .i64 m)]) (fun m => [(111, .arr 60 m 2 ((lgK a b m).map Cell.row))]) (fun m => (m : Int) ≤ steps a b + 1) (fun m => ((steps a b).toNat + 1) - m) 0 (by rw [show (lgK a b 0).map Cell.row = [] from rfl]; simp only [u_E0, u_E1, u_M0, u_M1, w_setE0, w_setE1, w_setM0, w_setM1, reduceIte, Nat.reduceEqDiff]; exact ⟨by repeat' (first | exact trivial | refine ⟨.inr rfl, ?_⟩), by repeat' (first | exact trivial | refine ⟨rfl, ?_⟩), by first | rfl | simp [closedB, refsIn, refsInL, refsInO, dom, refsInL_nr, *], by first | rfl | simp [keepB, dom]⟩) (by omega) ?_
      intro m h2 NX hN
      have hsu := lgK_succ (a := a) (b := b) (m := m)
      have tkl : List.take m ((lgK a b m).map Cell.row) = (lgK a b m).map Cell.row := List.take_of_length_le (by simp [lgK_len])
      by_cases h : (m : Int) ≤ steps a b
      · have hp1 : steps a b ≠ 0 → _ := fun hne => part_b (d := b.x - a.x) (k := m) (n := steps a b) (by omega) (by omega) (by omega)
        have hp2 : steps a b ≠ 0 → _ := fun hne => part_b (d := b.y - a.y) (k := m) (n := steps a b) (by omega) (by omega) (by omega)
        have hm1 := mulB (a := 2 * (m : Int)) (b := b.x - a.x) (A := 30) (B := 15) (by omega) (by omega) (by omega) (by omega)
        have hm2 := mulB (a := 2 * (m : Int)) (b := b.y - a.y) (A := 30) (B := 15) (by omega) (by omega) (by omega) (by omega)
        unfold part at hp1 hp2
        unfold l_impl_leg_0; simp (config := { maxSteps := 2000000 }) only [bitvec_to_nat, reduceIte, Nat.reduceEqDiff, Nat.reduceAdd, Nat.reduceLeDiff, reduceCtorEq, Nat.reduceBEq, Nat.reduceLT, Nat.reduceMod, List.forall_mem_cons, retG_ret, retQ_eq, retQ_eqN, retOk, keepB, re_tupl, orr_t, t_dist, t_floorDiv, tk_map, dp_map, toNat_pred, appE, rowsOf, List.take_length, List.length_cons, List.length_nil, Nat.zero_add, srow, irow, un_s, un_i, Zone.row, Zone_eta, un_Zone, Word.row, Word_eta, Own.row, Own_eta, Part.row, Part_eta, Seen.row, Seen_eta, Book.row, Book_eta, Sector.row, Sector_eta, HCraft.row, HCraft_eta, World.row, World_eta, PKind.row, PKind_eta, PPt.row, PPt_eta, Cell.row, Cell_eta, un_Word, un_Own, un_Part, un_Seen, un_Book, un_Sector, un_HCraft, un_World, un_PKind, un_PPt, un_Cell, Nat.sub_zero, List.nil_append, tkl, ghost, hs1, hx', hs3, hmx, not_true_eq_false, not_false_eq_true, true_or, or_true, or_false, false_or]
        refine ⟨fun _ => ⟨fun h0 => ?_, fun h0 => ?_⟩, fun hc => absurd h hc⟩
        · have e1 : legU a b = lgK a b 1 := by rw [legU, h0]; rfl
          obtain rfl : m = 0 := by omega
          exact ⟨by omega, by rw [e1, lgK_1]; rfl⟩
        · have hp1 := hp1 h0
          have hp2 := hp2 h0
          repeat' (first | with_reducible apply And.intro | with_reducible intro _)
          all_goals first
            | omega
            | (refine hN (m + 1) _ ⟨by repeat' (first | exact trivial | refine ⟨.inr rfl, ?_⟩), ⟨congrArg (fun g => some (AObj.arr 60 (m + 1) 2 g)) hsu, trivial⟩, rfl, rfl⟩ (by omega) (by omega))
            | trace_state
      · have e : m = (steps a b).toNat + 1 := by omega
        unfold l_impl_leg_0; simp (config := { maxSteps := 2000000 }) only [bitvec_to_nat, reduceIte, Nat.reduceEqDiff, Nat.reduceAdd, Nat.reduceLeDiff, reduceCtorEq, Nat.reduceBEq, Nat.reduceLT, Nat.reduceMod, List.forall_mem_cons, retG_ret, retQ_eq, retQ_eqN, retOk, keepB, re_tupl, orr_t, t_dist, t_floorDiv, tk_map, dp_map, toNat_pred, appE, rowsOf, List.take_length, List.length_cons, List.length_nil, Nat.zero_add, srow, irow, un_s, un_i, Zone.row, Zone_eta, un_Zone, Word.row, Word_eta, Own.row, Own_eta, Part.row, Part_eta, Seen.row, Seen_eta, Book.row, Book_eta, Sector.row, Sector_eta, HCraft.row, HCraft_eta, World.row, World_eta, PKind.row, PKind_eta, PPt.row, PPt_eta, Cell.row, Cell_eta, un_Word, un_Own, un_Part, un_Seen, un_Book, un_Sector, un_HCraft, un_World, un_PKind, un_PPt, un_Cell, Nat.sub_zero, List.nil_append, tkl, ghost, hs1, hx', hs3, hmx, not_true_eq_false, not_false_eq_true, true_or, or_true, or_false, false_or]
        refine ⟨fun h' => absurd h' h, fun _ => ?_⟩
        rw [e]; rfl
  exact run (by by_cases h : a.x = b.x; exact .inr ⟨eq_false (by omega), eq_true h, eq_false (by omega)⟩; exact .inl ⟨eq_false (by omega), eq_false h, trivial⟩)
set_option maxHeartbeats 2000000 in
theorem c_legS (a b : Cell) (ha : a.inn) (hb : b.inn) (hs : sw a b) : Contract P 27 [.int .i64 a.x, .int .i64 a.y, .int .i64 b.x, .int .i64 b.y] [] (.sl 0 2 ((legOf a b).map Cell.row)) [] := by
  have tkl : True := trivial
  have hlo : legOf a b = (legU b a).reverse := if_pos hs
  rw [hlo]
  have hst := steps_le hb ha
  have hmx : (if max (b.y - a.y) (a.y - b.y) > max (b.x - a.x) (a.x - b.x) then max (b.y - a.y) (a.y - b.y) else max (b.x - a.x) (a.x - b.x)) = steps b a := by unfold steps iabs; split <;> split <;> split <;> omega
  unfold Cell.inn at ha hb
  unfold sw at hs
  have run : ∀ (hs1 : ((b.x < a.x) = True ∧ True ∧ True) ∨ ((b.x < a.x) = False ∧ (a.x = b.x) = True ∧ (b.y < a.y) = True)), Contract P 27 [.int .i64 a.x, .int .i64 a.y, .int .i64 b.x, .int .i64 b.y] [] (.sl 0 2 (((legU b a).reverse).map Cell.row)) [] := by
    intro hs1
    rcases hs1 with ⟨hs1, hx', hs3⟩ | ⟨hs1, hx', hs3⟩
    all_goals
      refine fn_sound (((Env.nil P).add 49 t_dist h_dist).add 50 t_floorDiv h_floorDiv) hm k_impl_leg (Nat.le_of_ble_eq_true rfl) rfl ?_; unfold s_impl_leg; simp (config := { maxSteps := 2000000 }) only [bitvec_to_nat, reduceIte, Nat.reduceEqDiff, Nat.reduceAdd, Nat.reduceLeDiff, reduceCtorEq, Nat.reduceBEq, Nat.reduceLT, Nat.reduceMod, List.forall_mem_cons, retG_ret, retQ_eq, retQ_eqN, retOk, keepB, re_tupl, orr_t, t_dist, t_floorDiv, tk_map, dp_map, toNat_pred, appE, rowsOf, List.take_length, List.length_cons, List.length_nil, Nat.zero_add, srow, irow, un_s, un_i, Zone.row, Zone_eta, un_Zone, Word.row, Word_eta, Own.row, Own_eta, Part.row, Part_eta, Seen.row, Seen_eta, Book.row, Book_eta, Sector.row, Sector_eta, HCraft.row, HCraft_eta, World.row, World_eta, PKind.row, PKind_eta, PPt.row, PPt_eta, Cell.row, Cell_eta, un_Word, un_Own, un_Part, un_Seen, un_Book, un_Sector, un_HCraft, un_World, un_PKind, un_PPt, un_Cell, Nat.sub_zero, List.nil_append, tkl, ghost, hs1, hx', hs3, hmx, not_true_eq_false, not_false_eq_true, true_or, or_true, or_false, false_or]
      refine ⟨by omega, by omega, ?_⟩
      refine loop_st (fun m : Nat => [(11, .own 111 m 0 m), (12, .int .i64 m)]) (fun m => [(111, .arr 60 m 2 ((lgK b a m).map Cell.row))]) (fun m => (m : Int) ≤ steps b a + 1) (fun m => ((steps b a).toNat + 1) - m) 0 (by rw [show (lgK b a 0).map Cell.row = [] from rfl]; simp only [u_E0, u_E1, u_M0, u_M1, w_setE0, w_setE1, w_setM0, w_setM1, reduceIte, Nat.reduceEqDiff]; exact ⟨by repeat' (first | exact trivial | refine ⟨.inr rfl, ?_⟩), by repeat' (first | exact trivial | refine ⟨rfl, ?_⟩), by first | rfl | simp [closedB, refsIn, refsInL, refsInO, dom, refsInL_nr, *], by first | rfl | simp [keepB, dom]⟩) (by omega) ?_
      intro m h2 NX hN
      have hsu := lgK_succ (a := b) (b := a) (m := m)
      have tkl : List.take m ((lgK b a m).map Cell.row) = (lgK b a m).map Cell.row := List.take_of_length_le (by simp [lgK_len])
      by_cases h : (m : Int) ≤ steps b a
      · have hp1 : steps b a ≠ 0 → _ := fun hne => part_b (d := a.x - b.x) (k := m) (n := steps b a) (by omega) (by omega) (by omega)
        have hp2 : steps b a ≠ 0 → _ := fun hne => part_b (d := a.y - b.y) (k := m) (n := steps b a) (by omega) (by omega) (by omega)
        have hm1 := mulB (a := 2 * (m : Int)) (b := a.x - b.x) (A := 30) (B := 15) (by omega) (by omega) (by omega) (by omega)
        have hm2 := mulB (a := 2 * (m : Int)) (b := a.y - b.y) (A := 30) (B := 15) (by omega) (by omega) (by omega) (by omega)
        unfold part at hp1 hp2
        unfold l_impl_leg_0; simp (config := { maxSteps := 2000000 }) only [bitvec_to_nat, reduceIte, Nat.reduceEqDiff, Nat.reduceAdd, Nat.reduceLeDiff, reduceCtorEq, Nat.reduceBEq, Nat.reduceLT, Nat.reduceMod, List.forall_mem_cons, retG_ret, retQ_eq, retQ_eqN, retOk, keepB, re_tupl, orr_t, t_dist, t_floorDiv, tk_map, dp_map, toNat_pred, appE, rowsOf, List.take_length, List.length_cons, List.length_nil, Nat.zero_add, srow, irow, un_s, un_i, Zone.row, Zone_eta, un_Zone, Word.row, Word_eta, Own.row, Own_eta, Part.row, Part_eta, Seen.row, Seen_eta, Book.row, Book_eta, Sector.row, Sector_eta, HCraft.row, HCraft_eta, World.row, World_eta, PKind.row, PKind_eta, PPt.row, PPt_eta, Cell.row, Cell_eta, un_Word, un_Own, un_Part, un_Seen, un_Book, un_Sector, un_HCraft, un_World, un_PKind, un_PPt, un_Cell, Nat.sub_zero, List.nil_append, tkl, ghost, hs1, hx', hs3, hmx, not_true_eq_false, not_false_eq_true, true_or, or_true, or_false, false_or]
        refine ⟨fun _ => ⟨fun h0 => ?_, fun h0 => ?_⟩, fun hc => absurd h hc⟩
        · have e1 : legU b a = lgK b a 1 := by rw [legU, h0]; rfl
          obtain rfl : m = 0 := by omega
          refine ⟨by omega, ?_⟩
          have e2 : (lgK b a 0).map Cell.row ++ [[.int .i64 b.x, .int .i64 b.y]] = (lgK b a 1).map Cell.row := by rw [lgK_1]; rfl
          rw [e2]
          have hR := (c_reverse (0 + 1) (lgK b a 1) (by rw [lgK_len]; omega)).ren (swp 3 111) (swp_swp _ _)
          simp only [renL, ren, renM, renO, swp, reduceIte, Nat.reduceLT, lgK_len] at hR
          refine ⟨_, _, .inl ⟨_, hR, by simp [getM], by simp [dom], rfl, rfl, rfl, rfl, rfl⟩, ?_⟩
          simp (config := { maxSteps := 2000000 }) only [bitvec_to_nat, reduceIte, Nat.reduceEqDiff, Nat.reduceAdd, Nat.reduceLeDiff, reduceCtorEq, Nat.reduceBEq, Nat.reduceLT, Nat.reduceMod, List.forall_mem_cons, retG_ret, retQ_eq, retQ_eqN, retOk, keepB, re_tupl, orr_t, t_dist, t_floorDiv, tk_map, dp_map, toNat_pred, appE, rowsOf, List.take_length, List.length_cons, List.length_nil, Nat.zero_add, srow, irow, un_s, un_i, Zone.row, Zone_eta, un_Zone, Word.row, Word_eta, Own.row, Own_eta, Part.row, Part_eta, Seen.row, Seen_eta, Book.row, Book_eta, Sector.row, Sector_eta, HCraft.row, HCraft_eta, World.row, World_eta, PKind.row, PKind_eta, PPt.row, PPt_eta, Cell.row, Cell_eta, un_Word, un_Own, un_Part, un_Seen, un_Book, un_Sector, un_HCraft, un_World, un_PKind, un_PPt, un_Cell, Nat.sub_zero, List.nil_append, tkl, ghost, hs1, hx', hs3, hmx, not_true_eq_false, not_false_eq_true, true_or, or_true, or_false, false_or]
          rw [e1, List.take_of_length_le (by simp [lgK_len])]
        · have hp1 := hp1 h0
          have hp2 := hp2 h0
          repeat' (first | with_reducible apply And.intro | with_reducible intro _)
          all_goals first
            | omega
            | (refine hN (m + 1) _ ⟨by repeat' (first | exact trivial | refine ⟨.inr rfl, ?_⟩), ⟨congrArg (fun g => some (AObj.arr 60 (m + 1) 2 g)) hsu, trivial⟩, rfl, rfl⟩ (by omega) (by omega))
            | trace_state
      · have e : m = (steps b a).toNat + 1 := by omega
        unfold l_impl_leg_0; simp (config := { maxSteps := 2000000 }) only [bitvec_to_nat, reduceIte, Nat.reduceEqDiff, Nat.reduceAdd, Nat.reduceLeDiff, reduceCtorEq, Nat.reduceBEq, Nat.reduceLT, Nat.reduceMod, List.forall_mem_cons, retG_ret, retQ_eq, retQ_eqN, retOk, keepB, re_tupl, orr_t, t_dist, t_floorDiv, tk_map, dp_map, toNat_pred, appE, rowsOf, List.take_length, List.length_cons, List.length_nil, Nat.zero_add, srow, irow, un_s, un_i, Zone.row, Zone_eta, un_Zone, Word.row, Word_eta, Own.row, Own_eta, Part.row, Part_eta, Seen.row, Seen_eta, Book.row, Book_eta, Sector.row, Sector_eta, HCraft.row, HCraft_eta, World.row, World_eta, PKind.row, PKind_eta, PPt.row, PPt_eta, Cell.row, Cell_eta, un_Word, un_Own, un_Part, un_Seen, un_Book, un_Sector, un_HCraft, un_World, un_PKind, un_PPt, un_Cell, Nat.sub_zero, List.nil_append, tkl, ghost, hs1, hx', hs3, hmx, not_true_eq_false, not_false_eq_true, true_or, or_true, or_false, false_or]
        refine ⟨fun h' => absurd h' h, fun _ => ?_⟩
        have hR := (c_reverse m (lgK b a m) (by rw [lgK_len]; omega)).ren (swp 3 111) (swp_swp _ _)
        simp only [renL, ren, renM, renO, swp, reduceIte, Nat.reduceLT, lgK_len] at hR
        refine ⟨_, _, .inl ⟨_, hR, by simp [getM], by simp [dom], rfl, rfl, rfl, rfl, rfl⟩, ?_⟩
        simp (config := { maxSteps := 2000000 }) only [bitvec_to_nat, reduceIte, Nat.reduceEqDiff, Nat.reduceAdd, Nat.reduceLeDiff, reduceCtorEq, Nat.reduceBEq, Nat.reduceLT, Nat.reduceMod, List.forall_mem_cons, retG_ret, retQ_eq, retQ_eqN, retOk, keepB, re_tupl, orr_t, t_dist, t_floorDiv, tk_map, dp_map, toNat_pred, appE, rowsOf, List.take_length, List.length_cons, List.length_nil, Nat.zero_add, srow, irow, un_s, un_i, Zone.row, Zone_eta, un_Zone, Word.row, Word_eta, Own.row, Own_eta, Part.row, Part_eta, Seen.row, Seen_eta, Book.row, Book_eta, Sector.row, Sector_eta, HCraft.row, HCraft_eta, World.row, World_eta, PKind.row, PKind_eta, PPt.row, PPt_eta, Cell.row, Cell_eta, un_Word, un_Own, un_Part, un_Seen, un_Book, un_Sector, un_HCraft, un_World, un_PKind, un_PPt, un_Cell, Nat.sub_zero, List.nil_append, tkl, ghost, hs1, hx', hs3, hmx, not_true_eq_false, not_false_eq_true, true_or, or_true, or_false, false_or]
        rw [List.take_of_length_le (by simp [lgK_len]), e]; rfl
  exact run (by by_cases h : b.x < a.x; exact .inl ⟨eq_true h, trivial, trivial⟩; exact .inr ⟨eq_false h, eq_true (by omega), eq_true (by omega)⟩)
theorem c_leg (a b : Cell) (ha : a.inn) (hb : b.inn) : Contract P 27 [.int .i64 a.x, .int .i64 a.y, .int .i64 b.x, .int .i64 b.y] [] (.sl 0 2 ((legOf a b).map Cell.row)) [] := by
  by_cases h : sw a b
  · exact c_legS a b ha hb h
  · exact c_legU a b ha hb h
def t_leg : List AV → Option (Prop × AV)
  | [.int .i64 a, .int .i64 b, .int .i64 c, .int .i64 d] => some (Cell.inn ⟨a, b⟩ ∧ Cell.inn ⟨c, d⟩, .sl 0 2 ((legOf ⟨a, b⟩ ⟨c, d⟩).map Cell.row))
  | _ => none
theorem h_leg : ∀ args p v, t_leg args = some (p, v) → p → Contract P 27 args [] v [] ∧ noref v = true ∧ No99 v := by
  intro args p v h1 h2
  unfold t_leg at h1
  split at h1
  · rename_i a b c d
    cases h1
    exact ⟨c_leg ⟨a, b⟩ ⟨c, d⟩ h2.1 h2.2, rfl, by simp only [No99]; exact ⟨by omega, no99_Cell _⟩⟩
  · cases h1
end
end Go.Ve

namespace Go.Ve
noncomputable section
open Go.Proofs
set_option linter.unusedSimpArgs false
set_option linter.unusedVariables false
set_option maxRecDepth 100000
theorem c_IndexFunc_PPt (g : FuncId) (hg : calleeB P g = true) (ls : List AV) (hls : norefL ls = true) (p : PPt → Bool) (t : Nat) (zs : List PPt) (hl : zs.length ≤ 4611686018427387904)
    (hC : ∀ z, Contract P g (.agg (PPt.row z) :: [.ptr 3 0]) [(3, .box ls)] (.bool (p z)) [(3, .box ls)]) : Contract P 56 [.sl t 3 (zs.map PPt.row), .fn g [] [.ptr 3 0]] [(3, .box ls)] (.int .i64 (fIdx p zs)) [(3, .box ls)] := by
  refine fn_sound (Env.nil P) hm k_slices_IndexFunc_PlanPoint (Nat.le_of_ble_eq_true rfl) rfl ?_; unfold s_slices_IndexFunc_PlanPoint; simp (config := { maxSteps := 2000000 }) only [bitvec_to_nat, reduceIte, Nat.reduceEqDiff, Nat.reduceAdd, Nat.reduceLeDiff, reduceCtorEq, Nat.reduceBEq, Nat.reduceLT, Nat.reduceMod, List.forall_mem_cons, retG_ret, retQ_eq, retQ_eqN, retOk, keepB, re_tupl, orr_t, callL_nil]
  refine loop_st (fun i : Nat => [(8, .int .i64 i)]) (fun _ => []) (fun i => i ≤ zs.length ∧ ∀ j, j < i → p (zs.getD j default) = false) (fun i => zs.length - i) (0) (by simp only [u_E0, u_E1, u_M0, u_M1, w_setE0, w_setE1, w_setM0, w_setM1, reduceIte, Nat.reduceEqDiff]; exact ⟨by repeat' (first | exact trivial | refine ⟨.inr rfl, ?_⟩), by repeat' (first | exact trivial | refine ⟨rfl, ?_⟩), by first | rfl | simp [closedB, refsIn, refsInL, refsInO, dom, refsInL_nr, *], by first | rfl | simp [keepB, dom]⟩) ?_ ?_
  · exact ⟨Nat.zero_le _, by intro j hj; omega⟩
  intro i hi NX hN
  unfold l_slices_IndexFunc_PlanPoint_0; simp (config := { maxSteps := 2000000 }) only [bitvec_to_nat, reduceIte, Nat.reduceEqDiff, Nat.reduceAdd, Nat.reduceLeDiff, reduceCtorEq, Nat.reduceBEq, Nat.reduceLT, Nat.reduceMod, List.forall_mem_cons, retG_ret, retQ_eq, retQ_eqN, retOk, keepB, re_tupl, orr_t, callL_nil, PPt_len, PPt_take]
  refine ⟨fun h1 => ⟨by omega, by omega, hg, _, _, .inl ⟨[(3, .box ls)], hC (zs.getD i default), ?_, ?_, ?_, ?_, ?_, rfl, ?_⟩, ?_⟩, fun h1 => ?_⟩
  · simp [getM]
  · intro q hq; left; revert q; simp [dom]
  · simp [dom]
  · simp [refsInL, refsIn, dom, refsInL_nr, PPt_nr]
  · simp [refsInO, refsInL_nr, *]
  · simp [refsInO, refsInL_nr, *]
  · simp (config := { maxSteps := 2000000 }) only [bitvec_to_nat, reduceIte, Nat.reduceEqDiff, Nat.reduceAdd, Nat.reduceLeDiff, reduceCtorEq, Nat.reduceBEq, Nat.reduceLT, Nat.reduceMod, List.forall_mem_cons, retG_ret, retQ_eq, retQ_eqN, retOk, keepB, re_tupl, orr_t, callL_nil]
    refine ⟨fun h2 => ?_, fun h2 => ?_⟩
    · simp (config := { maxSteps := 2000000 }) only [bitvec_to_nat, reduceIte, Nat.reduceEqDiff, Nat.reduceAdd, Nat.reduceLeDiff, reduceCtorEq, Nat.reduceBEq, Nat.reduceLT, Nat.reduceMod, List.forall_mem_cons, retG_ret, retQ_eq, retQ_eqN, retOk, keepB, re_tupl, orr_t, callL_nil]
      rw [fIdx_at (by omega) h2 hi.2]
      simp [dom, refsInL_nr, *]
    · simp (config := { maxSteps := 2000000 }) only [bitvec_to_nat, reduceIte, Nat.reduceEqDiff, Nat.reduceAdd, Nat.reduceLeDiff, reduceCtorEq, Nat.reduceBEq, Nat.reduceLT, Nat.reduceMod, List.forall_mem_cons, retG_ret, retQ_eq, retQ_eqN, retOk, keepB, re_tupl, orr_t, callL_nil]
      refine ⟨by omega, ?_⟩
      refine hN (i + 1) _ (by simp only [u_E0, u_E1, u_M0, u_M1, w_setE0, w_setE1, w_setM0, w_setM1, reduceIte, Nat.reduceEqDiff]; exact ⟨by repeat' (first | exact trivial | refine ⟨.inr rfl, ?_⟩), by repeat' (first | exact trivial | refine ⟨rfl, ?_⟩), by first | rfl | simp [closedB, refsIn, refsInL, refsInO, dom, refsInL_nr, *], by first | rfl | simp [keepB, dom]⟩) ?_ ?_
      · exact ⟨by omega, all_snoc hi.2 h2⟩
      · omega
  · rw [fIdx_none fun j hj => hi.2 j (by omega)]
    simp [dom, refsInL_nr, *]
def pIdx (l : List PPt) (s : ByteArray) : Int := fIdx (fun p => decide (p.nm = s)) l
theorem c_point1 (z : PPt) (s : ByteArray) : Contract P 57 [.agg z.row, .ptr 3 0] [(3, .box [.str s])] (.bool (decide (z.nm = s))) [(3, .box [.str s])] := by
  simp only [PPt.row]
  refine fn_sound (Env.nil P) hm k_impl_PlanBase_point_1 (Nat.le_of_ble_eq_true rfl) rfl ?_; unfold s_impl_PlanBase_point_1; simp (config := { maxSteps := 2000000 }) only [bitvec_to_nat, reduceIte, Nat.reduceEqDiff, Nat.reduceAdd, Nat.reduceLeDiff, reduceCtorEq, Nat.reduceBEq, Nat.reduceLT, Nat.reduceMod, List.forall_mem_cons, retG_ret, retQ_eq, retQ_eqN, retOk, keepB, re_tupl, orr_t, PPt_eta]
  all_goals simp [dom]
def r_pointI : RTab
  | [.sl zt 3 zx, .fn 57 [] [.ptr ob off]], M => match M ob with
    | some (.box [.str s]) => some ⟨off = 0 ∧ (zx.map unPPt).map PPt.row = zx ∧ (zx.map unPPt).length ≤ 4611686018427387904, fun _ : Unit => True, fun _ => .int .i64 (fIdx (fun z => decide (z.nm = s)) (zx.map unPPt)), fun _ => [(ob, .box [.str s])]⟩
    | _ => none
  | _, _ => none
theorem h_pointI : okTab P 56 r_pointI := by
  intro args M o h hp
  unfold r_pointI at h
  split at h
  · rename_i zt zx ob off
    split at h
    · rename_i s hM
      cases h
      obtain ⟨rfl, e0, HP⟩ := hp
      have hC := c_IndexFunc_PPt 57 (by kernel_rfl) _ rfl (fun z => decide (z.nm = s)) zt (zx.map unPPt) HP fun z => c_point1 z s
      simp only [e0, decide_eq_true_eq] at hC
      exact ⟨(), trivial, callR_box _ hC (by simp [norefL, noref]) rfl (by assumption) (by simp [renL, ren, swp]) (by simp [refsInL, refsIn, noref])⟩
    · cases h
  · cases h
theorem c_iPoint (t t' : Nat) (ks : List PKind) (ps : List PPt) (nm : ByteArray) (hp : ps.length ≤ 1048576) : Contract P 48 [.agg [.sl t 3 (ks.map PKind.row), .sl t' 3 (ps.map PPt.row)], .str nm] [] (.int .i64 (pIdx ps nm)) [] := by
  refine fn_sound ((Env.nil P).addR 56 r_pointI h_pointI) hm k_impl_PlanBase_point (Nat.le_of_ble_eq_true rfl) rfl ?_; unfold s_impl_PlanBase_point; simp (config := { maxSteps := 2000000 }) only [bitvec_to_nat, reduceIte, Nat.reduceEqDiff, Nat.reduceAdd, Nat.reduceLeDiff, reduceCtorEq, Nat.reduceBEq, Nat.reduceLT, Nat.reduceMod, List.forall_mem_cons, retG_ret, retQ_eq, retQ_eqN, retOk, keepB, re_tupl, orr_t, r_pointI, un_PPt]
  exact ⟨by omega, fun _ => rfl⟩
theorem pIdx_at {l : List PPt} {nm : ByteArray} (h : 0 ≤ pIdx l nm) : (pIdx l nm).toNat < l.length ∧ (l.getD (pIdx l nm).toNat default).nm = nm ∧ pIdx l nm < l.length := by
  unfold pIdx at *
  rcases fIdx_spec (fun p : PPt => decide (p.nm = nm)) l with ⟨h1, h2⟩ | ⟨i, h1, h2, h3, _⟩
  · omega
  · rw [h1]; exact ⟨by simpa using h2, by simpa using h3, by omega⟩
def t_iPoint : List AV → Option (Prop × AV)
  | [.agg [.sl t 3 kx, .sl t' 3 px], .str nm] => some (((kx.map unPKind).map PKind.row = kx ∧ (px.map unPPt).map PPt.row = px) ∧ ((px.map unPPt).length ≤ 1048576), .int .i64 (pIdx (px.map unPPt) nm))
  | _ => none
theorem h_iPoint : ∀ args p v, t_iPoint args = some (p, v) → p → Contract P 48 args [] v [] ∧ noref v = true ∧ No99 v := by
  intro args p v h1 h2
  unfold t_iPoint at h1
  split at h1
  · rename_i t kx t' px nm
    cases h1
    obtain ⟨⟨e1, e2⟩, h3⟩ := h2
    have := c_iPoint t t' (kx.map unPKind) (px.map unPPt) nm h3
    simp only [e1, e2] at this
    exact ⟨this, rfl, trivial⟩
  · cases h1
theorem c_l11Point (t t' : Nat) (ks : List PKind) (ps : List PPt) (nm : ByteArray) (hp : ps.length ≤ 1048576) : Contract P 39 [.agg [.sl t 3 (ks.map PKind.row), .sl t' 3 (ps.map PPt.row)], .str nm] [] (.int .i64 (pIdx ps nm)) [] := by
  refine fn_sound (Env.nil P) hm k_spec_l11Point (Nat.le_of_ble_eq_true rfl) rfl ?_; unfold s_spec_l11Point; simp (config := { maxSteps := 2000000 }) only [bitvec_to_nat, reduceIte, Nat.reduceEqDiff, Nat.reduceAdd, Nat.reduceLeDiff, reduceCtorEq, Nat.reduceBEq, Nat.reduceLT, Nat.reduceMod, List.forall_mem_cons, PPt.row, PPt_eta, un_PPt, un_PKind, tk_map, dp_map, toNat_pred, Int.toNat_natCast, Nat.sub_zero, Nat.zero_add, List.length_map]
  refine loop_st (fun i : Nat => [(5, .int .i64 i)]) (fun _ => []) (fun i => i ≤ ps.length ∧ ∀ j, j < i → decide ((ps.getD j default).nm = nm) = false) (fun i => ps.length - i) (0) (by simp only [u_E0, u_E1, u_M0, u_M1, w_setE0, w_setE1, w_setM0, w_setM1, reduceIte, Nat.reduceEqDiff]; exact ⟨by repeat' (first | exact trivial | refine ⟨.inr rfl, ?_⟩), by repeat' (first | exact trivial | refine ⟨rfl, ?_⟩), by first | rfl | simp [closedB, refsIn, refsInL, refsInO, dom, refsInL_nr, *], by first | rfl | simp [keepB, dom]⟩) ?_ ?_
  · exact ⟨Nat.zero_le _, by intro j hj; omega⟩
  intro i hi NX hN
  unfold l_spec_l11Point_0; simp (config := { maxSteps := 2000000 }) only [bitvec_to_nat, reduceIte, Nat.reduceEqDiff, Nat.reduceAdd, Nat.reduceLeDiff, reduceCtorEq, Nat.reduceBEq, Nat.reduceLT, Nat.reduceMod, List.forall_mem_cons, PPt.row, PPt_eta, un_PPt, un_PKind, tk_map, dp_map, toNat_pred, Int.toNat_natCast, Nat.sub_zero, Nat.zero_add, List.length_map]
  
  repeat' (first | with_reducible apply And.intro | with_reducible intro _)
  all_goals first
    | omega
    | (refine hN (i + 1) _ (by simp only [u_E0, u_E1, u_M0, u_M1, w_setE0, w_setE1, w_setM0, w_setM1, reduceIte, Nat.reduceEqDiff]; exact ⟨by repeat' (first | exact trivial | refine ⟨.inr rfl, ?_⟩), by repeat' (first | exact trivial | refine ⟨rfl, ?_⟩), by first | rfl | simp [closedB, refsIn, refsInL, refsInO, dom, refsInL_nr, *], by first | rfl | simp [keepB, dom]⟩) ?_ ?_
       · exact ⟨by omega, all_snoc hi.2 (by simpa using ‹¬ _›)⟩
       · omega)
    | (unfold pIdx; rw [fIdx_at (i := i) (by omega) (by simpa using ‹_›) hi.2])
    | (unfold pIdx; rw [fIdx_none fun j hj => hi.2 j (by omega)])
def t_l11Point : List AV → Option (Prop × AV)
  | [.agg [.sl t 3 kx, .sl t' 3 px], .str nm] => some (((kx.map unPKind).map PKind.row = kx ∧ (px.map unPPt).map PPt.row = px) ∧ ((px.map unPPt).length ≤ 1048576), .int .i64 (pIdx (px.map unPPt) nm))
  | _ => none
theorem h_l11Point : ∀ args p v, t_l11Point args = some (p, v) → p → Contract P 39 args [] v [] ∧ noref v = true ∧ No99 v := by
  intro args p v h1 h2
  unfold t_l11Point at h1
  split at h1
  · rename_i t kx t' px nm
    cases h1
    obtain ⟨⟨e1, e2⟩, h3⟩ := h2
    have := c_l11Point t t' (kx.map unPKind) (px.map unPPt) nm h3
    simp only [e1, e2] at this
    exact ⟨this, rfl, trivial⟩
  · cases h1
def ptAt' (ps : List PPt) (nm : ByteArray) : PPt := ps.getD (pIdx ps nm).toNat default
def ptC (ps : List PPt) (nm : ByteArray) : Cell := ⟨(ptAt' ps nm).x, (ptAt' ps nm).y⟩
theorem ptC_inn {ks : List PKind} {ps : List PPt} (hv : baseOk ks ps) {nm : ByteArray} (h : 0 ≤ pIdx ps nm) : (ptC ps nm).inn := by
  obtain ⟨h1, _, _⟩ := pIdx_at h
  have h2 := (hv.2.2 _ h1).1.2
  unfold Cell.inn ptC ptAt'
  exact h2
def rtAt (ps : List PPt) (ws : List ByteArray) (i : Nat) : Prop := 0 ≤ pIdx ps (ws.getD i default) ∧ (0 < i → ws.getD (i - 1) default ≠ ws.getD i default)
def rtOk (ps : List PPt) (ws : List ByteArray) : Prop := (2 ≤ ws.length ∧ ws.length ≤ 8) ∧ ∀ i, i < ws.length → rtAt ps ws i
noncomputable instance (ps : List PPt) (ws : List ByteArray) : Decidable (rtOk ps ws) := Classical.propDecidable _
theorem c_l17At (t t' : Nat) (ks : List PKind) (ps : List PPt) (nm : ByteArray) (hp : ps.length ≤ 1048576) (h : 0 ≤ pIdx ps nm) : Contract P 21 [.agg [.sl t 3 (ks.map PKind.row), .sl t' 3 (ps.map PPt.row)], .str nm] [] (.agg (ptC ps nm).row) [] := by
  obtain ⟨h1, h2, h3⟩ := pIdx_at h
  refine fn_sound ((Env.nil P).add 39 t_l11Point h_l11Point) hm k_spec_l17At (Nat.le_of_ble_eq_true rfl) rfl ?_; unfold s_spec_l17At; simp (config := { maxSteps := 2000000 }) only [bitvec_to_nat, reduceIte, Nat.reduceEqDiff, Nat.reduceAdd, Nat.reduceLeDiff, reduceCtorEq, Nat.reduceBEq, Nat.reduceLT, Nat.reduceMod, List.forall_mem_cons, t_l11Point, PPt.row, PPt_eta, un_PPt, un_PKind, tk_map, dp_map, toNat_pred, Int.toNat_natCast, Nat.sub_zero, Nat.zero_add, List.length_map]
  repeat' (first | with_reducible apply And.intro | with_reducible intro _)
  all_goals first | omega | exact h3 | rfl | trace_state
def t_l17At : List AV → Option (Prop × AV)
  | [.agg [.sl t 3 kx, .sl t' 3 px], .str nm] => some (((kx.map unPKind).map PKind.row = kx ∧ (px.map unPPt).map PPt.row = px) ∧ ((px.map unPPt).length ≤ 1048576 ∧ 0 ≤ pIdx (px.map unPPt) nm), .agg (ptC (px.map unPPt) nm).row)
  | _ => none
theorem h_l17At : ∀ args p v, t_l17At args = some (p, v) → p → Contract P 21 args [] v [] ∧ noref v = true ∧ No99 v := by
  intro args p v h1 h2
  unfold t_l17At at h1
  split at h1
  · rename_i t kx t' px nm
    cases h1
    obtain ⟨⟨e1, e2⟩, h3⟩ := h2
    have := c_l17At t t' (kx.map unPKind) (px.map unPPt) nm h3.1 h3.2
    simp only [e1, e2] at this
    exact ⟨this, rfl, by simp [Cell.row, No99, No99L]⟩
  · cases h1
theorem c_l12RouteOk (t t' : Nat) (ks : List PKind) (ps : List PPt) (t2 : Nat) (ws : List ByteArray) (hp : ps.length ≤ 1048576) (hw : ws.length ≤ 4611686018427387904) : Contract P 20 [.agg [.sl t 3 (ks.map PKind.row), .sl t' 3 (ps.map PPt.row)], .sl t2 1 (ws.map srow)] [] (.bool (decide (rtOk ps ws))) [] := by
  refine fn_sound (((Env.nil P).add 38 t_l11In h_l11In).add 39 t_l11Point h_l11Point) hm k_spec_l12RouteOk (Nat.le_of_ble_eq_true rfl) rfl ?_; unfold s_spec_l12RouteOk; simp (config := { maxSteps := 2000000 }) only [bitvec_to_nat, reduceIte, Nat.reduceEqDiff, Nat.reduceAdd, Nat.reduceLeDiff, reduceCtorEq, Nat.reduceBEq, Nat.reduceLT, Nat.reduceMod, List.forall_mem_cons, t_l11In, t_l11Point, tk_map, dp_map, toNat_pred, appE, rowsOf, List.take_length, List.length_cons, List.length_nil, Nat.zero_add, srow, irow, un_s, un_i, Zone.row, Zone_eta, un_Zone, Word.row, Word_eta, Own.row, Own_eta, Part.row, Part_eta, Seen.row, Seen_eta, Book.row, Book_eta, Sector.row, Sector_eta, HCraft.row, HCraft_eta, World.row, World_eta, PKind.row, PKind_eta, PPt.row, PPt_eta, Cell.row, Cell_eta, un_Word, un_Own, un_Part, un_Seen, un_Book, un_Sector, un_HCraft, un_World, un_PKind, un_PPt, un_Cell, Nat.sub_zero, List.nil_append, un_PPt, un_PKind, srow, un_s]
  refine ⟨fun h1 => ?_, fun h1 => by intro h; have := h.1; omega⟩
  refine loop_st (fun i : Nat => [(5, .int .i64 i)]) (fun _ => []) (fun i => i ≤ ws.length ∧ ∀ j, j < i → rtAt ps ws j) (fun i => ws.length - i) (0) (by simp only [u_E0, u_E1, u_M0, u_M1, w_setE0, w_setE1, w_setM0, w_setM1, reduceIte, Nat.reduceEqDiff]; exact ⟨by repeat' (first | exact trivial | refine ⟨.inr rfl, ?_⟩), by repeat' (first | exact trivial | refine ⟨rfl, ?_⟩), by first | rfl | simp [closedB, refsIn, refsInL, refsInO, dom, refsInL_nr, *], by first | rfl | simp [keepB, dom]⟩) ?_ ?_
  · exact ⟨Nat.zero_le _, by intro j hj; omega⟩
  intro i hi NX hN
  unfold l_spec_l12RouteOk_0; simp (config := { maxSteps := 2000000 }) only [bitvec_to_nat, reduceIte, Nat.reduceEqDiff, Nat.reduceAdd, Nat.reduceLeDiff, reduceCtorEq, Nat.reduceBEq, Nat.reduceLT, Nat.reduceMod, List.forall_mem_cons, t_l11In, t_l11Point, tk_map, dp_map, toNat_pred, appE, rowsOf, List.take_length, List.length_cons, List.length_nil, Nat.zero_add, srow, irow, un_s, un_i, Zone.row, Zone_eta, un_Zone, Word.row, Word_eta, Own.row, Own_eta, Part.row, Part_eta, Seen.row, Seen_eta, Book.row, Book_eta, Sector.row, Sector_eta, HCraft.row, HCraft_eta, World.row, World_eta, PKind.row, PKind_eta, PPt.row, PPt_eta, Cell.row, Cell_eta, un_Word, un_Own, un_Part, un_Seen, un_Book, un_Sector, un_HCraft, un_World, un_PKind, un_PPt, un_Cell, Nat.sub_zero, List.nil_append, un_PPt, un_PKind, srow, un_s]
  
  have A : rtOk ps ws → i < ws.length → rtAt ps ws i := fun h g => h.2 i g
  unfold rtAt at A
  repeat' (first | with_reducible apply And.intro | with_reducible intro _)
  all_goals first
    | omega
    | (refine hN (i + 1) _ (by simp only [u_E0, u_E1, u_M0, u_M1, w_setE0, w_setE1, w_setM0, w_setM1, reduceIte, Nat.reduceEqDiff]; exact ⟨by repeat' (first | exact trivial | refine ⟨.inr rfl, ?_⟩), by repeat' (first | exact trivial | refine ⟨rfl, ?_⟩), by first | rfl | simp [closedB, refsIn, refsInL, refsInO, dom, refsInL_nr, *], by first | rfl | simp [keepB, dom]⟩) ?_ ?_
       · exact ⟨by omega, all_snoc hi.2 ⟨by omega, by grind⟩⟩
       · omega)
    | (intro hq; have := A hq (by omega); grind)
    | (exact ⟨by omega, fun j hj => hi.2 j (by omega)⟩)
    | trace_state
def t_l12RouteOk : List AV → Option (Prop × AV)
  | [.agg [.sl t 3 kx, .sl t' 3 px], .sl t2 1 wx] => some (((kx.map unPKind).map PKind.row = kx ∧ (px.map unPPt).map PPt.row = px) ∧ ((wx.map unS).map srow = wx ∧ (px.map unPPt).length ≤ 1048576 ∧ (wx.map unS).length ≤ 4611686018427387904), .bool (decide (rtOk (px.map unPPt) (wx.map unS))))
  | _ => none
theorem h_l12RouteOk : ∀ args p v, t_l12RouteOk args = some (p, v) → p → Contract P 20 args [] v [] ∧ noref v = true ∧ No99 v := by
  intro args p v h1 h2
  unfold t_l12RouteOk at h1
  split at h1
  · rename_i t kx t' px t2 wx
    cases h1
    obtain ⟨⟨e1, e2⟩, h3⟩ := h2
    have := c_l12RouteOk t t' (kx.map unPKind) (px.map unPPt) t2 (wx.map unS) h3.2.1 h3.2.2
    simp only [e1, e2, h3.1] at this
    exact ⟨this, rfl, trivial⟩
  · cases h1
def rtL (ps : List PPt) (ws : List ByteArray) (i : Nat) : List PPt := (ws.take i).map (ptAt' ps)
theorem rtL_len {ps : List PPt} {ws : List ByteArray} {i : Nat} (h : i ≤ ws.length) : (rtL ps ws i).length = i := by simp [rtL]; omega
theorem rtL_succ {ps : List PPt} {ws : List ByteArray} {i : Nat} (h : i < ws.length) : (rtL ps ws i).map PPt.row ++ [PPt.row (ptAt' ps (ws.getD i default))] = (rtL ps ws (i + 1)).map PPt.row := by
  rw [rtL, rtL, List.take_succ_eq_append_getElem h, List.map_append, List.map_append]; simp [h, -List.map_map]
theorem rtL_get {ps : List PPt} {ws : List ByteArray} {i j : Nat} (h : j < i) (hi : i ≤ ws.length) : (rtL ps ws i).getD j default = ptAt' ps (ws.getD j default) := by
  have : j < ws.length := by omega
  simp [rtL, this, h]
def rtR (ps : List PPt) (ws : List ByteArray) : List PPt := if rtOk ps ws then rtL ps ws ws.length else []
set_option maxHeartbeats 1000000 in
theorem c_route (t t' : Nat) (ks : List PKind) (ps : List PPt) (t2 : Nat) (ws : List ByteArray) (hp : ps.length ≤ 1048576) (hw : ws.length ≤ 4611686018427387904) : Contract P 26 [.agg [.sl t 3 (ks.map PKind.row), .sl t' 3 (ps.map PPt.row)], .sl t2 1 (ws.map srow)] [] (.tup [.sl 0 3 ((rtR ps ws).map PPt.row), .bool (decide (rtOk ps ws))]) [] := by
  have tkl : True := trivial
  refine fn_sound (((Env.nil P).add 47 t_within h_within).add 48 t_iPoint h_iPoint) hm k_impl_PlanBase_route (Nat.le_of_ble_eq_true rfl) rfl ?_; unfold s_impl_PlanBase_route; simp (config := { maxSteps := 2000000 }) only [bitvec_to_nat, reduceIte, Nat.reduceEqDiff, Nat.reduceAdd, Nat.reduceLeDiff, reduceCtorEq, Nat.reduceBEq, Nat.reduceLT, Nat.reduceMod, List.forall_mem_cons, t_within, t_iPoint, tk_map, dp_map, toNat_pred, appE, rowsOf, List.take_length, List.length_cons, List.length_nil, Nat.zero_add, srow, irow, un_s, un_i, Zone.row, Zone_eta, un_Zone, Word.row, Word_eta, Own.row, Own_eta, Part.row, Part_eta, Seen.row, Seen_eta, Book.row, Book_eta, Sector.row, Sector_eta, HCraft.row, HCraft_eta, World.row, World_eta, PKind.row, PKind_eta, PPt.row, PPt_eta, Cell.row, Cell_eta, un_Word, un_Own, un_Part, un_Seen, un_Book, un_Sector, un_HCraft, un_World, un_PKind, un_PPt, un_Cell, Nat.sub_zero, List.nil_append, un_PPt, un_PKind, srow, un_s, tkl, ghost, un_PPt, getD_rows]
  refine ⟨fun h1 => ?_, fun h1 => ?_⟩
  rotate_left
  · have hno : ¬ rtOk ps ws := fun h => by have := h.1; omega
    simp [rtR, hno]
  refine loop_st (fun i : Nat => [(6, .own 106 i 0 i), (16, .int .i64 i)]) (fun i => [(106, .arr 57 i 3 ((rtL ps ws i).map PPt.row))]) (fun i => i ≤ ws.length ∧ ∀ j, j < i → rtAt ps ws j) (fun i => ws.length - i) 0 (by simp only [u_E0, u_E1, u_M0, u_M1, w_setE0, w_setE1, w_setM0, w_setM1, reduceIte, Nat.reduceEqDiff]; exact ⟨by repeat' (first | exact trivial | refine ⟨.inr rfl, ?_⟩), by repeat' (first | exact trivial | refine ⟨rfl, ?_⟩), by first | rfl | simp [closedB, refsIn, refsInL, refsInO, dom, refsInL_nr, *], by first | rfl | simp [keepB, dom]⟩) ⟨Nat.zero_le _, fun j hj => absurd hj (Nat.not_lt_zero _)⟩ ?_
  rintro i ⟨hi, h2⟩ NX hN
  have hll := rtL_len (ps := ps) hi
  have tkl : List.take i ((rtL ps ws i).map PPt.row) = (rtL ps ws i).map PPt.row := List.take_of_length_le (by simp [hll])
  have A : rtOk ps ws → i < ws.length → rtAt ps ws i := fun h g => h.2 i g
  unfold rtAt at A
  by_cases hlt : i < ws.length
  · have hsu := rtL_succ (ps := ps) hlt
    unfold l_impl_PlanBase_route_0; simp (config := { maxSteps := 2000000 }) only [bitvec_to_nat, reduceIte, Nat.reduceEqDiff, Nat.reduceAdd, Nat.reduceLeDiff, reduceCtorEq, Nat.reduceBEq, Nat.reduceLT, Nat.reduceMod, List.forall_mem_cons, t_within, t_iPoint, tk_map, dp_map, toNat_pred, appE, rowsOf, List.take_length, List.length_cons, List.length_nil, Nat.zero_add, srow, irow, un_s, un_i, Zone.row, Zone_eta, un_Zone, Word.row, Word_eta, Own.row, Own_eta, Part.row, Part_eta, Seen.row, Seen_eta, Book.row, Book_eta, Sector.row, Sector_eta, HCraft.row, HCraft_eta, World.row, World_eta, PKind.row, PKind_eta, PPt.row, PPt_eta, Cell.row, Cell_eta, un_Word, un_Own, un_Part, un_Seen, un_Book, un_Sector, un_HCraft, un_World, un_PKind, un_PPt, un_Cell, Nat.sub_zero, List.nil_append, un_PPt, un_PKind, srow, un_s, tkl, ghost, un_PPt, getD_rows]
    repeat' (first | with_reducible apply And.intro | with_reducible intro _)
    all_goals first
      | omega
      | exact (pIdx_at (by omega)).2.2
      | (refine hN (i + 1) _ ⟨by repeat' (first | exact trivial | refine ⟨.inr rfl, ?_⟩), ⟨rfl, congrArg (fun g => some (AObj.arr 57 (i + 1) 3 g)) hsu, trivial⟩, rfl, rfl⟩ ⟨hlt, all_snoc h2 ⟨by omega, by grind⟩⟩ (by omega))
      | (have hno : ¬ rtOk ps ws := fun hq => by have := A hq hlt; grind
         simp [rtR, hno]; done)
      | (exfalso; omega)
      | trace_state
  · have e : i = ws.length := by omega
    subst e
    unfold l_impl_PlanBase_route_0; simp (config := { maxSteps := 2000000 }) only [bitvec_to_nat, reduceIte, Nat.reduceEqDiff, Nat.reduceAdd, Nat.reduceLeDiff, reduceCtorEq, Nat.reduceBEq, Nat.reduceLT, Nat.reduceMod, List.forall_mem_cons, t_within, t_iPoint, tk_map, dp_map, toNat_pred, appE, rowsOf, List.take_length, List.length_cons, List.length_nil, Nat.zero_add, srow, irow, un_s, un_i, Zone.row, Zone_eta, un_Zone, Word.row, Word_eta, Own.row, Own_eta, Part.row, Part_eta, Seen.row, Seen_eta, Book.row, Book_eta, Sector.row, Sector_eta, HCraft.row, HCraft_eta, World.row, World_eta, PKind.row, PKind_eta, PPt.row, PPt_eta, Cell.row, Cell_eta, un_Word, un_Own, un_Part, un_Seen, un_Book, un_Sector, un_HCraft, un_World, un_PKind, un_PPt, un_Cell, Nat.sub_zero, List.nil_append, un_PPt, un_PKind, srow, un_s, tkl, ghost, un_PPt, getD_rows]
    have hok : rtOk ps ws := ⟨by omega, h2⟩
    refine ⟨fun h' => absurd h' (by omega), fun _ => ?_⟩
    simp [rtR, hok]
def t_route : List AV → Option (Prop × AV)
  | [.agg [.sl t 3 kx, .sl t' 3 px], .sl t2 1 wx] => some (((kx.map unPKind).map PKind.row = kx ∧ (px.map unPPt).map PPt.row = px) ∧ ((wx.map unS).map srow = wx ∧ (px.map unPPt).length ≤ 1048576 ∧ (wx.map unS).length ≤ 4611686018427387904), .tup [.sl 0 3 ((rtR (px.map unPPt) (wx.map unS)).map PPt.row), .bool (decide (rtOk (px.map unPPt) (wx.map unS)))])
  | _ => none
theorem h_route : ∀ args p v, t_route args = some (p, v) → p → Contract P 26 args [] v [] ∧ noref v = true ∧ No99 v := by
  intro args p v h1 h2
  unfold t_route at h1
  split at h1
  · rename_i t kx t' px t2 wx
    cases h1
    obtain ⟨⟨e1, e2⟩, h3⟩ := h2
    have := c_route t t' (kx.map unPKind) (px.map unPPt) t2 (wx.map unS) h3.2.1 h3.2.2
    simp only [e1, e2, h3.1] at this
    exact ⟨this, rfl, by simp [No99, No99L, no99_PPt]⟩
  · cases h1
end
end Go.Ve

namespace Go.Ve
open Go.Proofs
set_option maxRecDepth 100000
def lO_laws_toStringS_0 : SCode := (.seq (.seq (.rg [⟨some 8, .mv (.v 4), none, []⟩, ⟨some 9, .mv (.v 0), none, []⟩, ⟨some 10, .lenL (.v 9), none, [9]⟩, ⟨some 11, .bin .lss (.v 8) (.v 10), none, [8, 10]⟩] [0, 3, 4, 11]) (.cond (.v 11) .skip (.exit 0))) (.seq (.block 1 (.rg [⟨some 14, .mv (.v 3), none, []⟩, ⟨some 15, .mv (.v 4), none, []⟩, ⟨some 16, .mv (.v 0), none, []⟩, ⟨some 17, .mv (.v 4), none, []⟩, ⟨some 18, .iaddr 1 (.v 16) (.v 17), none, [16, 17]⟩, ⟨some 19, .load1 (.v 18), none, [18]⟩, ⟨some 20, .iaddr 1 (.v 14) (.v 15), none, [14, 15]⟩, ⟨none, .store 1 (.v 20) (.v 19), none, [19, 20]⟩] [0, 3, 4])) (.rg [⟨some 12, .mv (.v 4), none, [4]⟩, ⟨some 13, .binN .add (.v 12) (.c (.int .i64 1)), none, [12]⟩, ⟨some 4, .mv (.v 13), none, [13]⟩] [0, 3, 4])))
/-- laws.toStringS: function 8 -/
def sO_laws_toStringS : SFun := { n := 22, res := [.t 2], body := (.seq (.rg [⟨some 2, .mv (.c (.sl 0 1 [])), none, [2]⟩] [0]) (.seq (.rg [⟨some 5, .mv (.v 0), none, []⟩, ⟨some 6, .lenL (.v 5), none, [5]⟩, ⟨some 7, .mk 107 9 1 [.str ⟨#[]⟩] (.v 6), none, [6]⟩, ⟨some 3, .mv (.v 7), none, [7]⟩] [0, 3]) (.seq (.seq (.rg [⟨some 4, .mv (.c (.int .i64 0)), none, []⟩] [0, 3, 4]) (.block 0 (.loop lO_laws_toStringS_0))) (.seq (.rg [⟨some 21, .mv (.v 3), none, [3]⟩, ⟨some 2, .mv (.v 21), none, [21]⟩] [2]) .ret)))) }
theorem kO_laws_toStringS : okFun Go.Proofs.Try.prog 8 sO_laws_toStringS = true := by kernel_rfl
def lO_laws_toPlanKindS_0 : SCode := (.seq (.seq (.rg [⟨some 8, .mv (.v 4), none, []⟩, ⟨some 9, .mv (.v 0), none, []⟩, ⟨some 10, .lenL (.v 9), none, [9]⟩, ⟨some 11, .bin .lss (.v 8) (.v 10), none, [8, 10]⟩] [0, 3, 4, 11]) (.cond (.v 11) .skip (.exit 0))) (.seq (.block 1 (.rg [⟨some 14, .mv (.v 3), none, []⟩, ⟨some 15, .mv (.v 4), none, []⟩, ⟨some 16, .mv (.v 0), none, []⟩, ⟨some 17, .mv (.v 4), none, []⟩, ⟨some 18, .iaddr 3 (.v 16) (.v 17), none, [16, 17]⟩, ⟨some 19, .loadN 3 (.v 18), none, [18]⟩, ⟨some 20, .call 43 [.v 19], none, [19]⟩, ⟨some 21, .iaddr 3 (.v 14) (.v 15), none, [14, 15]⟩, ⟨none, .store 3 (.v 21) (.v 20), none, [20, 21]⟩] [0, 3, 4])) (.rg [⟨some 12, .mv (.v 4), none, [4]⟩, ⟨some 13, .binN .add (.v 12) (.c (.int .i64 1)), none, [12]⟩, ⟨some 4, .mv (.v 13), none, [13]⟩] [0, 3, 4])))
/-- laws.toPlanKindS: function 23 -/
def sO_laws_toPlanKindS : SFun := { n := 23, res := [.t 2], body := (.seq (.rg [⟨some 2, .mv (.c (.sl 0 3 [])), none, [2]⟩] [0]) (.seq (.rg [⟨some 5, .mv (.v 0), none, []⟩, ⟨some 6, .lenL (.v 5), none, [5]⟩, ⟨some 7, .mk 107 73 3 [.str ⟨#[]⟩, .int .i64 0, .int .i64 0] (.v 6), none, [6]⟩, ⟨some 3, .mv (.v 7), none, [7]⟩] [0, 3]) (.seq (.seq (.rg [⟨some 4, .mv (.c (.int .i64 0)), none, []⟩] [0, 3, 4]) (.block 0 (.loop lO_laws_toPlanKindS_0))) (.seq (.rg [⟨some 22, .mv (.v 3), none, [3]⟩, ⟨some 2, .mv (.v 22), none, [22]⟩] [2]) .ret)))) }
theorem kO_laws_toPlanKindS : okFun Go.Proofs.Try.prog 23 sO_laws_toPlanKindS = true := by kernel_rfl
def lO_laws_toPlanPointS_0 : SCode := (.seq (.seq (.rg [⟨some 8, .mv (.v 4), none, []⟩, ⟨some 9, .mv (.v 0), none, []⟩, ⟨some 10, .lenL (.v 9), none, [9]⟩, ⟨some 11, .bin .lss (.v 8) (.v 10), none, [8, 10]⟩] [0, 3, 4, 11]) (.cond (.v 11) .skip (.exit 0))) (.seq (.block 1 (.rg [⟨some 14, .mv (.v 3), none, []⟩, ⟨some 15, .mv (.v 4), none, []⟩, ⟨some 16, .mv (.v 0), none, []⟩, ⟨some 17, .mv (.v 4), none, []⟩, ⟨some 18, .iaddr 3 (.v 16) (.v 17), none, [16, 17]⟩, ⟨some 19, .loadN 3 (.v 18), none, [18]⟩, ⟨some 20, .call 44 [.v 19], none, [19]⟩, ⟨some 21, .iaddr 3 (.v 14) (.v 15), none, [14, 15]⟩, ⟨none, .store 3 (.v 21) (.v 20), none, [20, 21]⟩] [0, 3, 4])) (.rg [⟨some 12, .mv (.v 4), none, [4]⟩, ⟨some 13, .binN .add (.v 12) (.c (.int .i64 1)), none, [12]⟩, ⟨some 4, .mv (.v 13), none, [13]⟩] [0, 3, 4])))
/-- laws.toPlanPointS: function 24 -/
def sO_laws_toPlanPointS : SFun := { n := 23, res := [.t 2], body := (.seq (.rg [⟨some 2, .mv (.c (.sl 0 3 [])), none, [2]⟩] [0]) (.seq (.rg [⟨some 5, .mv (.v 0), none, []⟩, ⟨some 6, .lenL (.v 5), none, [5]⟩, ⟨some 7, .mk 107 57 3 [.str ⟨#[]⟩, .int .i64 0, .int .i64 0] (.v 6), none, [6]⟩, ⟨some 3, .mv (.v 7), none, [7]⟩] [0, 3]) (.seq (.seq (.rg [⟨some 4, .mv (.c (.int .i64 0)), none, []⟩] [0, 3, 4]) (.block 0 (.loop lO_laws_toPlanPointS_0))) (.seq (.rg [⟨some 22, .mv (.v 3), none, [3]⟩, ⟨some 2, .mv (.v 22), none, [22]⟩] [2]) .ret)))) }
theorem kO_laws_toPlanPointS : okFun Go.Proofs.Try.prog 24 sO_laws_toPlanPointS = true := by kernel_rfl
def lO_impl_PlanCells_0 : SCode := (.seq (.rg [⟨some 65, .bin .lss (.v 64) (.v 63), none, []⟩] [6, 8, 9, 62, 63, 64, 65]) (.seq (.cond (.v 65) .skip (.exit 2)) (.seq (.block 3 (.seq (.rg [⟨some 66, .iaddr 2 (.v 62) (.v 64), none, []⟩, ⟨some 67, .loadN 2 (.v 66), none, [66]⟩, ⟨some 11, .alloc 111 [.int .i64 0, .int .i64 0], none, []⟩, ⟨none, .store 2 (.v 11) (.v 67), none, [67]⟩] [6, 8, 9, 11, 62, 63, 64]) (.rg [⟨some 68, .mv (.v 8), none, [8]⟩, ⟨some 69, .iaddrA 2 1 (.v 11) (.c (.int .i64 0)), none, []⟩, ⟨some 70, .load1 (.v 69), none, [69]⟩, ⟨some 71, .iaddrA 2 1 (.v 11) (.c (.int .i64 1)), none, [11]⟩, ⟨some 72, .load1 (.v 71), none, [71]⟩, ⟨some 73, .build [.int .i64 0, .int .i64 0] [(0, 1, .v 70), (1, 1, .v 72)], none, [70, 72]⟩, ⟨some 74, .lit 49 2 [.v 73], none, [73]⟩, ⟨some 75, .app 132 49 2 (.v 68) (.v 74), none, [68, 74]⟩, ⟨some 8, .mv (.v 75), none, [75]⟩] [6, 8, 9, 62, 63, 64]))) (.rg [⟨some 76, .binN .add (.v 64) (.c (.int .i64 1)), none, [64]⟩, ⟨some 64, .mv (.v 76), none, [76]⟩] [6, 8, 9, 62, 63, 64]))))
def lO_impl_PlanCells_1 : SCode := (.seq (.seq (.rg [⟨some 33, .mv (.v 9), none, []⟩, ⟨some 34, .mv (.v 6), none, []⟩, ⟨some 35, .lenL (.v 34), none, [34]⟩, ⟨some 36, .bin .lss (.v 33) (.v 35), none, [33, 35]⟩] [6, 8, 9, 36]) (.cond (.v 36) .skip (.exit 0))) (.seq (.block 1 (.seq (.rgd [⟨some 39, .mv (.v 6), none, []⟩, ⟨some 40, .mv (.v 9), none, []⟩, ⟨some 41, .binN .sub (.v 40) (.c (.int .i64 1)), none, []⟩, ⟨some 42, .iaddr 3 (.v 39) (.v 41), none, []⟩, ⟨some 43, .faddr 1 (.v 42), none, []⟩, ⟨some 44, .load1 (.v 43), none, []⟩, ⟨some 45, .mv (.v 6), none, []⟩, ⟨some 46, .mv (.v 9), none, []⟩, ⟨some 47, .binN .sub (.v 46) (.c (.int .i64 1)), none, []⟩, ⟨some 48, .iaddr 3 (.v 45) (.v 47), none, []⟩, ⟨some 49, .faddr 2 (.v 48), none, []⟩, ⟨some 50, .load1 (.v 49), none, []⟩, ⟨some 51, .mv (.v 6), none, []⟩, ⟨some 52, .mv (.v 9), none, []⟩, ⟨some 53, .iaddr 3 (.v 51) (.v 52), none, []⟩, ⟨some 54, .faddr 1 (.v 53), none, []⟩, ⟨some 55, .load1 (.v 54), none, []⟩, ⟨some 56, .mv (.v 6), none, []⟩, ⟨some 57, .mv (.v 9), none, []⟩, ⟨some 58, .iaddr 3 (.v 56) (.v 57), none, []⟩, ⟨some 59, .faddr 2 (.v 58), none, []⟩, ⟨some 60, .load1 (.v 59), none, []⟩, ⟨some 61, .call 27 [.v 44, .v 50, .v 55, .v 60], none, []⟩, ⟨some 62, .slSl 2 (.v 61) (some (.c (.int .i64 1))) none, none, []⟩, ⟨some 63, .lenL (.v 62), none, []⟩, ⟨some 64, .mv (.c (.int .i64 0)), none, []⟩] [6, 8, 9, 62, 63, 64] [none, none, none, none, none, none, none, none, none, none, none, none, none, none, none, none, none, none, none, none, none, none, none, none, none, none]) (.block 2 (.loop lO_impl_PlanCells_0)))) (.rg [⟨some 37, .mv (.v 9), none, [9]⟩, ⟨some 38, .binN .add (.v 37) (.c (.int .i64 1)), none, [37]⟩, ⟨some 9, .mv (.v 38), none, [38]⟩] [6, 8, 9])))
/-- impl.PlanCells: function 9 -/
def sO_impl_PlanCells : SFun := { n := 81, res := [.t 4, .t 5], body := (.seq (.rg [⟨some 2, .box 102 (.v 0), none, [0]⟩, ⟨some 4, .mv (.c (.sl 98 2 [])), none, [4]⟩, ⟨some 5, .mv (.c (.bool false)), none, [5]⟩] [1, 2]) (.seq (.seq (.rg [⟨some 12, .loadN 2 (.v 2), none, []⟩, ⟨some 13, .call 25 [.v 12], none, [12]⟩, ⟨some 14, .not (.v 13), none, [13]⟩] [1, 2, 14]) (.cond (.v 14) (.seq (.rg [⟨some 4, .mv (.c (.sl 98 2 [])), none, []⟩, ⟨some 5, .mv (.c (.bool false)), none, []⟩] [4, 5]) .ret) .skip)) (.seq (.rg [⟨some 16, .loadN 2 (.v 2), none, [2]⟩, ⟨some 17, .mv (.v 1), none, [1]⟩, ⟨some 18, .call 26 [.v 16, .v 17], none, [16, 17]⟩, ⟨some 15, .mv (.v 18), none, [18]⟩, ⟨some 19, .ext 0 (.v 15), none, []⟩, ⟨some 20, .ext 1 (.v 15), none, [15]⟩, ⟨some 6, .mv (.v 19), none, [19]⟩, ⟨some 7, .mv (.v 20), none, [20]⟩] [6, 7]) (.seq (.seq (.rg [⟨some 21, .mv (.v 7), none, [7]⟩, ⟨some 22, .not (.v 21), none, [21]⟩] [6, 22]) (.cond (.v 22) (.seq (.rg [⟨some 4, .mv (.c (.sl 98 2 [])), none, []⟩, ⟨some 5, .mv (.c (.bool false)), none, []⟩] [4, 5]) .ret) .skip)) (.seq (.rgd [⟨some 23, .mv (.v 6), none, []⟩, ⟨some 24, .iaddr 3 (.v 23) (.c (.int .i64 0)), none, []⟩, ⟨some 25, .faddr 1 (.v 24), none, []⟩, ⟨some 26, .load1 (.v 25), none, []⟩, ⟨some 27, .mv (.v 6), none, []⟩, ⟨some 28, .iaddr 3 (.v 27) (.c (.int .i64 0)), none, []⟩, ⟨some 29, .faddr 2 (.v 28), none, []⟩, ⟨some 30, .load1 (.v 29), none, []⟩, ⟨some 31, .build [.int .i64 0, .int .i64 0] [(0, 1, .v 26), (1, 1, .v 30)], none, []⟩, ⟨some 32, .litOwn 132 49 2 [.v 31], none, []⟩, ⟨some 8, .mv (.v 32), none, []⟩] [6, 8] [none, none, none, none, none, none, none, none, none, none, none]) (.seq (.seq (.rg [⟨some 9, .mv (.c (.int .i64 1)), none, []⟩] [6, 8, 9]) (.block 0 (.loop lO_impl_PlanCells_1))) (.seq (.seq (.rg [⟨some 77, .mv (.v 8), none, []⟩, ⟨some 78, .lenL (.v 77), none, [77]⟩, ⟨some 79, .bin .gtr (.v 78) (.c (.int .i64 40)), none, [78]⟩] [8, 79]) (.cond (.v 79) (.seq (.rg [⟨some 4, .mv (.c (.sl 98 2 [])), none, []⟩, ⟨some 5, .mv (.c (.bool false)), none, []⟩] [4, 5]) .ret) .skip)) (.seq (.rg [⟨some 80, .mv (.v 8), none, [8]⟩, ⟨some 4, .mv (.v 80), none, [80]⟩, ⟨some 5, .mv (.c (.bool true)), none, []⟩] [4, 5]) .ret)))))))) }
theorem kO_impl_PlanCells : okFun Go.Proofs.Try.prog 9 sO_impl_PlanCells = true := by kernel_rfl
end Go.Ve

