/- Part 2 of the proof: laws and contracts of functions, each proved; they are joined in the last part. No conditions beyond those that the theorems state. -/
import Derived.Test.YtbghmmeeghdleaaProg
import Derived.Test.YtbghmmeeghdleaaHn1
set_option linter.all false
namespace Go.Ve
open Go.Proofs
/-- laws.FnExactHandNew: function 5 -/
def s_laws_FnExactHandNew : SFun := { n := 69, res := [.t 2], body := (.seq (.rg [⟨some 2, .mv (.c (.bool false)), none, [2]⟩] [0]) (.seq (.rg [⟨some 3, .mv (.c (.int .i64 1048576)), none, []⟩] [0, 3]) (.seq (.rg [⟨some 11, .mv (.v 0), none, []⟩, ⟨some 12, .mv (.v 3), none, [3]⟩, ⟨some 13, .call 6 [.v 11, .v 12], none, [11, 12]⟩, ⟨some 3, .mv (.v 13), none, [13]⟩] [0, 3]) (.seq (.seq (.rg [⟨some 14, .mv (.v 3), none, [3]⟩, ⟨some 15, .bin .lss (.v 14) (.c (.int .i64 0)), none, [14]⟩] [0, 15]) (.cond (.v 15) (.seq (.rg [⟨some 2, .mv (.c (.bool true)), none, []⟩] [2]) .ret) .skip)) (.seq (.rg [⟨some 16, .mv (.v 0), none, []⟩, ⟨some 17, .call 9 [.v 16], none, [16]⟩, ⟨some 18, .call 19 [.v 17], none, [17]⟩, ⟨some 4, .alloc 104 [.sl 0 5 [], .sl 0 8 [], .sl 0 4 [], .sl 0 8 []], none, []⟩, ⟨none, .store 4 (.v 4) (.v 18), none, [18]⟩] [0, 4]) (.seq (.rg [⟨some 19, .mv (.v 0), none, []⟩, ⟨some 20, .call 9 [.v 19], none, [19]⟩, ⟨some 5, .mv (.v 20), none, [20]⟩] [0, 4, 5]) (.seq (.rg [⟨some 21, .mv (.v 5), none, []⟩, ⟨some 22, .call 20 [.v 21], none, [21]⟩, ⟨some 6, .alloc 106 [.sl 0 5 [], .sl 0 8 [], .sl 0 4 [], .sl 0 8 []], none, []⟩, ⟨none, .store 4 (.v 6) (.v 22), none, [22]⟩] [0, 4, 5, 6]) (.seq (.seq (.rg [⟨some 23, .loadN 4 (.v 6), none, []⟩, ⟨some 24, .loadN 4 (.v 4), none, []⟩, ⟨some 25, .call 21 [.v 23, .v 24], none, [23, 24]⟩, ⟨some 26, .not (.v 25), none, [25]⟩] [0, 4, 5, 6, 26]) (.cond (.v 26) (.seq (.rg [⟨some 2, .mv (.c (.bool false)), none, []⟩] [2]) .ret) .skip)) (.seq (.seq (.rg [⟨some 27, .mv (.v 5), none, []⟩, ⟨some 28, .mv (.v 0), none, []⟩, ⟨some 29, .call 9 [.v 28], none, [28]⟩, ⟨some 30, .call 12 [.v 27, .v 29], none, [27, 29]⟩, ⟨some 31, .not (.v 30), none, [30]⟩] [0, 4, 5, 6, 31]) (.cond (.v 31) (.seq (.rg [⟨some 2, .mv (.c (.bool false)), none, []⟩] [2]) .ret) .skip)) (.seq (.rg [⟨some 7, .mv (.c (.int .i64 1)), none, []⟩] [0, 4, 5, 6, 7]) (.seq (.rg [⟨some 32, .mv (.v 5), none, [5]⟩, ⟨some 33, .mv (.v 7), none, [7]⟩, ⟨some 34, .call 22 [.v 32, .v 33], none, [32, 33]⟩, ⟨some 7, .mv (.v 34), none, [34]⟩] [0, 4, 6, 7]) (.seq (.seq (.rg [⟨some 35, .mv (.v 7), none, [7]⟩, ⟨some 36, .bin .lss (.v 35) (.c (.int .i64 0)), none, [35]⟩, ⟨some 37, .mv (.v 36), none, [36]⟩, ⟨some 38, .loadN 4 (.v 6), some (37, false), []⟩, ⟨some 39, .loadN 4 (.v 4), some (37, false), []⟩, ⟨some 40, .call 21 [.v 38, .v 39], some (37, false), [38, 39]⟩, ⟨some 41, .not (.v 40), some (37, false), [40]⟩, ⟨some 42, .pick (.v 37) (.c (.bool true)) (.v 41), none, [37, 41]⟩] [0, 4, 6, 42]) (.cond (.v 42) (.seq (.rg [⟨some 2, .mv (.c (.bool false)), none, []⟩] [2]) .ret) .skip)) (.seq (.rg [⟨some 8, .mv (.c (.int .i64 1)), none, []⟩] [0, 4, 6, 8]) (.seq (.rg [⟨some 43, .loadN 4 (.v 6), none, []⟩, ⟨some 44, .mv (.v 8), none, [8]⟩, ⟨some 45, .call 23 [.v 43, .v 44], none, [43, 44]⟩, ⟨some 8, .mv (.v 45), none, [45]⟩] [0, 4, 6, 8]) (.seq (.rg [⟨some 9, .mv (.c (.int .i64 1)), none, []⟩] [0, 4, 6, 8, 9]) (.seq (.rg [⟨some 46, .loadN 4 (.v 6), none, []⟩, ⟨some 47, .mv (.v 9), none, [9]⟩, ⟨some 48, .call 24 [.v 46, .v 47], none, [46, 47]⟩, ⟨some 9, .mv (.v 48), none, [48]⟩] [0, 4, 6, 8, 9]) (.seq (.seq (.rg [⟨some 49, .mv (.v 9), none, []⟩, ⟨some 50, .bin .lss (.v 49) (.c (.int .i64 0)), none, [49]⟩] [0, 4, 6, 8, 9, 50]) (.cond (.v 50) (.seq (.rg [⟨some 2, .mv (.c (.bool false)), none, []⟩] [2]) .ret) .skip)) (.seq (.seq (.rg [⟨some 51, .mv (.v 9), none, [9]⟩, ⟨some 52, .mv (.v 8), none, []⟩, ⟨some 53, .bin .neq (.v 51) (.v 52), none, [51, 52]⟩] [0, 4, 6, 8, 53]) (.cond (.v 53) (.seq (.rg [⟨some 2, .mv (.c (.bool false)), none, []⟩] [2]) .ret) .skip)) (.seq (.rg [⟨some 54, .mv (.v 0), none, [0]⟩, ⟨some 55, .call 9 [.v 54], none, [54]⟩, ⟨some 56, .call 20 [.v 55], none, [55]⟩, ⟨some 10, .alloc 110 [.sl 0 5 [], .sl 0 8 [], .sl 0 4 [], .sl 0 8 []], none, []⟩, ⟨none, .store 4 (.v 10) (.v 56), none, [56]⟩] [4, 6, 8, 10]) (.seq (.seq (.rg [⟨some 57, .loadN 4 (.v 10), none, [10]⟩, ⟨some 58, .loadN 4 (.v 4), none, [4]⟩, ⟨some 59, .call 21 [.v 57, .v 58], none, [57, 58]⟩, ⟨some 60, .not (.v 59), none, [59]⟩] [6, 8, 60]) (.cond (.v 60) (.seq (.rg [⟨some 2, .mv (.c (.bool false)), none, []⟩] [2]) .ret) .skip)) (.seq (.rg [⟨some 9, .mv (.c (.int .i64 1)), none, []⟩] [6, 8, 9]) (.seq (.rg [⟨some 61, .loadN 4 (.v 6), none, [6]⟩, ⟨some 62, .mv (.v 9), none, [9]⟩, ⟨some 63, .call 24 [.v 61, .v 62], none, [61, 62]⟩, ⟨some 9, .mv (.v 63), none, [63]⟩] [8, 9]) (.seq (.seq (.rg [⟨some 64, .mv (.v 9), none, []⟩, ⟨some 65, .bin .lss (.v 64) (.c (.int .i64 0)), none, [64]⟩] [8, 9, 65]) (.cond (.v 65) (.seq (.rg [⟨some 2, .mv (.c (.bool false)), none, []⟩] [2]) .ret) .skip)) (.seq (.seq (.rg [⟨some 66, .mv (.v 9), none, [9]⟩, ⟨some 67, .mv (.v 8), none, [8]⟩, ⟨some 68, .bin .neq (.v 66) (.v 67), none, [66, 67]⟩] [68]) (.cond (.v 68) (.seq (.rg [⟨some 2, .mv (.c (.bool false)), none, []⟩] [2]) .ret) .skip)) (.seq (.rg [⟨some 2, .mv (.c (.bool true)), none, []⟩] [2]) .ret))))))))))))))))))))))))) }
theorem k_laws_FnExactHandNew : okFun Go.Proofs.Try.prog 5 s_laws_FnExactHandNew = true := by kernel_rfl
def l_laws_szHandZoneS_0 : SCode := (.seq (.seq (.rg [⟨some 12, .mv (.v 5), none, []⟩, ⟨some 13, .mv (.v 0), none, []⟩, ⟨some 14, .lenL (.v 13), none, [13]⟩, ⟨some 15, .bin .lss (.v 12) (.v 14), none, [12, 14]⟩] [0, 1, 5, 15]) (.cond (.v 15) .skip (.exit 0))) (.seq (.block 1 (.seq (.rg [⟨some 18, .mv (.v 0), none, []⟩, ⟨some 19, .mv (.v 5), none, []⟩, ⟨some 20, .iaddr 5 (.v 18) (.v 19), none, [18, 19]⟩, ⟨some 21, .loadN 5 (.v 20), none, [20]⟩, ⟨some 22, .mv (.v 1), none, [1]⟩, ⟨some 23, .call 25 [.v 21, .v 22], none, [21, 22]⟩, ⟨some 1, .mv (.v 23), none, [23]⟩] [0, 1, 5]) (.seq (.rg [⟨some 24, .mv (.v 1), none, []⟩, ⟨some 25, .bin .lss (.v 24) (.c (.int .i64 0)), none, [24]⟩] [0, 1, 5, 25]) (.cond (.v 25) (.seq (.rg [⟨some 4, .mv (.c (.int .i64 (-1))), none, []⟩] [4]) .ret) .skip)))) (.rg [⟨some 16, .mv (.v 5), none, [5]⟩, ⟨some 17, .binN .add (.v 16) (.c (.int .i64 1)), none, [16]⟩, ⟨some 5, .mv (.v 17), none, [17]⟩] [0, 1, 5])))
/-- laws.szHandZoneS: function 6 -/
def s_laws_szHandZoneS : SFun := { n := 27, res := [.t 4], body := (.seq (.rg [⟨some 4, .mv (.c (.int .i64 0)), none, [4]⟩] [0, 1]) (.seq (.rg [⟨some 6, .mv (.v 1), none, [1]⟩, ⟨some 7, .mv (.v 0), none, []⟩, ⟨some 8, .lenL (.v 7), none, [7]⟩, ⟨some 9, .binN .sub (.v 6) (.v 8), none, [6, 8]⟩, ⟨some 1, .mv (.v 9), none, [9]⟩] [0, 1]) (.seq (.seq (.rg [⟨some 10, .mv (.v 1), none, []⟩, ⟨some 11, .bin .lss (.v 10) (.c (.int .i64 0)), none, [10]⟩] [0, 1, 11]) (.cond (.v 11) (.seq (.rg [⟨some 4, .mv (.c (.int .i64 (-1))), none, []⟩] [4]) .ret) .skip)) (.seq (.seq (.rg [⟨some 5, .mv (.c (.int .i64 0)), none, []⟩] [0, 1, 5]) (.block 0 (.loop l_laws_szHandZoneS_0))) (.seq (.rg [⟨some 26, .mv (.v 1), none, [1]⟩, ⟨some 4, .mv (.v 26), none, [26]⟩] [4]) .ret))))) }
theorem k_laws_szHandZoneS : okFun Go.Proofs.Try.prog 6 s_laws_szHandZoneS = true := by kernel_rfl
def l_laws_toHandZoneS_0 : SCode := (.seq (.seq (.rg [⟨some 8, .mv (.v 4), none, []⟩, ⟨some 9, .mv (.v 0), none, []⟩, ⟨some 10, .lenL (.v 9), none, [9]⟩, ⟨some 11, .bin .lss (.v 8) (.v 10), none, [8, 10]⟩] [0, 3, 4, 11]) (.cond (.v 11) .skip (.exit 0))) (.seq (.block 1 (.rg [⟨some 14, .mv (.v 3), none, []⟩, ⟨some 15, .mv (.v 4), none, []⟩, ⟨some 16, .mv (.v 0), none, []⟩, ⟨some 17, .mv (.v 4), none, []⟩, ⟨some 18, .iaddr 5 (.v 16) (.v 17), none, [16, 17]⟩, ⟨some 19, .loadN 5 (.v 18), none, [18]⟩, ⟨some 20, .call 32 [.v 19], none, [19]⟩, ⟨some 21, .iaddr 5 (.v 14) (.v 15), none, [14, 15]⟩, ⟨none, .store 5 (.v 21) (.v 20), none, [20, 21]⟩] [0, 3, 4])) (.rg [⟨some 12, .mv (.v 4), none, [4]⟩, ⟨some 13, .binN .add (.v 12) (.c (.int .i64 1)), none, [12]⟩, ⟨some 4, .mv (.v 13), none, [13]⟩] [0, 3, 4])))
/-- laws.toHandZoneS: function 9 -/
def s_laws_toHandZoneS : SFun := { n := 23, res := [.t 2], body := (.seq (.rg [⟨some 2, .mv (.c (.sl 0 5 [])), none, [2]⟩] [0]) (.seq (.rg [⟨some 5, .mv (.v 0), none, []⟩, ⟨some 6, .lenL (.v 5), none, [5]⟩, ⟨some 7, .mk 107 75 5 [.str ⟨#[]⟩, .int .i64 0, .int .i64 0, .int .i64 0, .int .i64 0] (.v 6), none, [6]⟩, ⟨some 3, .mv (.v 7), none, [7]⟩] [0, 3]) (.seq (.seq (.rg [⟨some 4, .mv (.c (.int .i64 0)), none, []⟩] [0, 3, 4]) (.block 0 (.loop l_laws_toHandZoneS_0))) (.seq (.rg [⟨some 22, .mv (.v 3), none, [3]⟩, ⟨some 2, .mv (.v 22), none, [22]⟩] [2]) (.gh (.frzE 2) .ret))))) }
theorem k_laws_toHandZoneS : okFun Go.Proofs.Try.prog 9 s_laws_toHandZoneS = true := by kernel_rfl
def l_laws_eqHandZoneS_0 : SCode := (.seq (.seq (.rg [⟨some 11, .mv (.v 5), none, []⟩, ⟨some 12, .mv (.v 0), none, []⟩, ⟨some 13, .lenL (.v 12), none, [12]⟩, ⟨some 14, .bin .lss (.v 11) (.v 13), none, [11, 13]⟩] [0, 1, 5, 14]) (.cond (.v 14) .skip (.exit 0))) (.seq (.block 1 (.seq (.rgd [⟨some 17, .mv (.v 0), none, []⟩, ⟨some 18, .mv (.v 5), none, []⟩, ⟨some 19, .iaddr 5 (.v 17) (.v 18), none, []⟩, ⟨some 20, .loadN 5 (.v 19), none, []⟩, ⟨some 21, .mv (.v 1), none, []⟩, ⟨some 22, .mv (.v 5), none, []⟩, ⟨some 23, .iaddr 5 (.v 21) (.v 22), none, []⟩, ⟨some 24, .loadN 5 (.v 23), none, []⟩, ⟨some 25, .call 38 [.v 20, .v 24], none, []⟩, ⟨some 26, .not (.v 25), none, []⟩] [0, 1, 5, 26] [none, none, none, none, none, none, none, none, none, none]) (.cond (.v 26) (.seq (.rg [⟨some 4, .mv (.c (.bool false)), none, []⟩] [4]) .ret) .skip))) (.rg [⟨some 15, .mv (.v 5), none, [5]⟩, ⟨some 16, .binN .add (.v 15) (.c (.int .i64 1)), none, [15]⟩, ⟨some 5, .mv (.v 16), none, [16]⟩] [0, 1, 5])))
/-- laws.eqHandZoneS: function 12 -/
def s_laws_eqHandZoneS : SFun := { n := 27, res := [.t 4], body := (.seq (.rg [⟨some 4, .mv (.c (.bool false)), none, [4]⟩] [0, 1]) (.seq (.seq (.rg [⟨some 6, .mv (.v 0), none, []⟩, ⟨some 7, .lenL (.v 6), none, [6]⟩, ⟨some 8, .mv (.v 1), none, []⟩, ⟨some 9, .lenL (.v 8), none, [8]⟩, ⟨some 10, .bin .neq (.v 7) (.v 9), none, [7, 9]⟩] [0, 1, 10]) (.cond (.v 10) (.seq (.rg [⟨some 4, .mv (.c (.bool false)), none, []⟩] [4]) .ret) .skip)) (.seq (.seq (.rg [⟨some 5, .mv (.c (.int .i64 0)), none, []⟩] [0, 1, 5]) (.block 0 (.loop l_laws_eqHandZoneS_0))) (.seq (.rg [⟨some 4, .mv (.c (.bool true)), none, []⟩] [4]) .ret)))) }
theorem k_laws_eqHandZoneS : okFun Go.Proofs.Try.prog 12 s_laws_eqHandZoneS = true := by kernel_rfl
/-- laws.eqHandBook: function 18 -/
def s_laws_eqHandBook : SFun := { n := 23, res := [.t 4], body := (.seq (.rg [⟨some 2, .box 102 (.v 0), none, [0]⟩, ⟨some 3, .box 103 (.v 1), none, [1]⟩, ⟨some 4, .mv (.c (.bool false)), none, [4]⟩] [2, 3]) (.seq (.seq (.rg [⟨some 5, .faddr 0 (.v 2), none, []⟩, ⟨some 6, .load1 (.v 5), none, [5]⟩, ⟨some 7, .faddr 0 (.v 3), none, []⟩, ⟨some 8, .load1 (.v 7), none, [7]⟩, ⟨some 9, .call 53 [.v 6, .v 8], none, [6, 8]⟩, ⟨some 10, .not (.v 9), none, [9]⟩] [2, 3, 10]) (.cond (.v 10) (.seq (.rg [⟨some 4, .mv (.c (.bool false)), none, []⟩] [4]) .ret) .skip)) (.seq (.seq (.rg [⟨some 11, .faddr 1 (.v 2), none, []⟩, ⟨some 12, .load1 (.v 11), none, [11]⟩, ⟨some 13, .faddr 1 (.v 3), none, []⟩, ⟨some 14, .load1 (.v 13), none, [13]⟩, ⟨some 15, .call 54 [.v 12, .v 14], none, [12, 14]⟩, ⟨some 16, .not (.v 15), none, [15]⟩] [2, 3, 16]) (.cond (.v 16) (.seq (.rg [⟨some 4, .mv (.c (.bool false)), none, []⟩] [4]) .ret) .skip)) (.seq (.seq (.rg [⟨some 17, .faddr 2 (.v 2), none, [2]⟩, ⟨some 18, .load1 (.v 17), none, [17]⟩, ⟨some 19, .faddr 2 (.v 3), none, [3]⟩, ⟨some 20, .load1 (.v 19), none, [19]⟩, ⟨some 21, .call 55 [.v 18, .v 20], none, [18, 20]⟩, ⟨some 22, .not (.v 21), none, [21]⟩] [22]) (.cond (.v 22) (.seq (.rg [⟨some 4, .mv (.c (.bool false)), none, []⟩] [4]) .ret) .skip)) (.seq (.rg [⟨some 4, .mv (.c (.bool true)), none, []⟩] [4]) .ret))))) }
theorem k_laws_eqHandBook : okFun Go.Proofs.Try.prog 18 s_laws_eqHandBook = true := by kernel_rfl
def l_spec_HandNew_0 : SCode := (.seq (.seq (.rg [⟨some 13, .mv (.v 4), none, []⟩, ⟨some 14, .mv (.v 0), none, []⟩, ⟨some 15, .lenL (.v 14), none, [14]⟩, ⟨some 16, .bin .lss (.v 13) (.v 15), none, [13, 15]⟩] [0, 2, 3, 4, 16]) (.cond (.v 16) .skip (.exit 0))) (.seq (.block 1 (.rg [⟨some 19, .faddr 1 (.v 3), none, []⟩, ⟨some 20, .load1 (.v 19), none, [19]⟩, ⟨some 21, .build [.bool false, .sl 0 11 [], .sl 0 3 [], .sl 0 2 [], .sl 0 11 [], .sl 0 3 [], .sl 0 2 [], .sl 0 8 []] [(0, 1, .c (.bool true))], none, []⟩, ⟨some 22, .lit 97 8 [.v 21], none, [21]⟩, ⟨some 23, .app 123 97 8 (.v 20) (.v 22), none, [20, 22]⟩, ⟨some 24, .faddr 1 (.v 3), none, []⟩, ⟨none, .store 1 (.v 24) (.v 23), none, [23, 24]⟩] [0, 2, 3, 4])) (.rg [⟨some 17, .mv (.v 4), none, [4]⟩, ⟨some 18, .binN .add (.v 17) (.c (.int .i64 1)), none, [17]⟩, ⟨some 4, .mv (.v 18), none, [18]⟩] [0, 2, 3, 4])))
/-- spec.HandNew: function 19 -/
def s_spec_HandNew : SFun := { n := 26, res := [.cN 2 4], body := (.seq (.rg [⟨some 2, .alloc 102 [.sl 0 5 [], .sl 0 8 [], .sl 0 4 [], .sl 0 8 []], none, []⟩] [0, 2]) (.seq (.seq (.rg [⟨some 5, .mv (.v 0), none, []⟩, ⟨some 6, .call 45 [.v 5], none, [5]⟩, ⟨some 7, .not (.v 6), none, [6]⟩] [0, 2, 7]) (.cond (.v 7) (.seq (.rg [⟨some 8, .build [.sl 0 5 [], .sl 0 8 [], .sl 0 4 [], .sl 0 8 []] [], none, []⟩, ⟨none, .store 4 (.v 2) (.v 8), none, [8]⟩] [2]) .ret) .skip)) (.seq (.rg [⟨some 9, .litOwn 109 75 5 [], none, []⟩, ⟨some 10, .mv (.v 0), none, []⟩, ⟨some 11, .app 109 75 5 (.v 9) (.v 10), none, [9, 10]⟩, ⟨some 12, .build [.sl 0 5 [], .sl 0 8 [], .sl 0 4 [], .sl 0 8 []] [(0, 1, .v 11)], none, [11]⟩, ⟨some 3, .alloc 103 [.sl 0 5 [], .sl 0 8 [], .sl 0 4 [], .sl 0 8 []], none, []⟩, ⟨none, .store 4 (.v 3) (.v 12), none, [12]⟩] [0, 2, 3]) (.seq (.seq (.rg [⟨some 4, .mv (.c (.int .i64 0)), none, []⟩] [0, 2, 3, 4]) (.block 0 (.loop l_spec_HandNew_0))) (.seq (.rg [⟨some 25, .loadN 4 (.v 3), none, [3]⟩, ⟨none, .store 4 (.v 2) (.v 25), none, [25]⟩] [2]) .ret))))) }
theorem k_spec_HandNew : okFun Go.Proofs.Try.prog 19 s_spec_HandNew = true := by kernel_rfl
def l_impl_HandNew_0 : SCode := (.seq (.rg [⟨some 14, .bin .lss (.v 13) (.v 12), none, []⟩] [2, 3, 12, 13, 14]) (.seq (.cond (.v 14) .skip (.exit 0)) (.seq (.block 1 (.rg [⟨some 15, .faddr 1 (.v 3), none, []⟩, ⟨some 16, .load1 (.v 15), none, [15]⟩, ⟨some 17, .build [.bool false, .sl 0 11 [], .sl 0 3 [], .sl 0 2 [], .sl 0 11 [], .sl 0 3 [], .sl 0 2 [], .sl 0 8 []] [(0, 1, .c (.bool true))], none, []⟩, ⟨some 18, .lit 97 8 [.v 17], none, [17]⟩, ⟨some 19, .app 119 97 8 (.v 16) (.v 18), none, [16, 18]⟩, ⟨some 20, .faddr 1 (.v 3), none, []⟩, ⟨none, .store 1 (.v 20) (.v 19), none, [19, 20]⟩] [2, 3, 12, 13])) (.rg [⟨some 21, .binN .add (.v 13) (.c (.int .i64 1)), none, [13]⟩, ⟨some 13, .mv (.v 21), none, [21]⟩] [2, 3, 12, 13]))))
/-- impl.HandNew: function 20 -/
def s_impl_HandNew : SFun := { n := 23, res := [.cN 2 4], body := (.seq (.rg [⟨some 2, .alloc 102 [.sl 0 5 [], .sl 0 8 [], .sl 0 4 [], .sl 0 8 []], none, []⟩] [0, 2]) (.seq (.seq (.rg [⟨some 4, .mv (.v 0), none, []⟩, ⟨some 5, .call 36 [.v 4], none, [4]⟩, ⟨some 6, .not (.v 5), none, [5]⟩] [0, 2, 6]) (.cond (.v 6) (.seq (.rg [⟨some 7, .build [.sl 0 5 [], .sl 0 8 [], .sl 0 4 [], .sl 0 8 []] [], none, []⟩, ⟨none, .store 4 (.v 2) (.v 7), none, [7]⟩] [2]) .ret) .skip)) (.seq (.rg [⟨some 8, .mv (.v 0), none, []⟩, ⟨some 9, .app 109 75 5 (.c (.sl 0 5 [])) (.v 8), none, [8]⟩, ⟨some 10, .build [.sl 0 5 [], .sl 0 8 [], .sl 0 4 [], .sl 0 8 []] [(0, 1, .v 9)], none, [9]⟩, ⟨some 3, .alloc 103 [.sl 0 5 [], .sl 0 8 [], .sl 0 4 [], .sl 0 8 []], none, []⟩, ⟨none, .store 4 (.v 3) (.v 10), none, [10]⟩] [0, 2, 3]) (.seq (.seq (.rg [⟨some 11, .mv (.v 0), none, [0]⟩, ⟨some 12, .lenL (.v 11), none, [11]⟩, ⟨some 13, .mv (.c (.int .i64 0)), none, []⟩] [2, 3, 12, 13]) (.block 0 (.loop l_impl_HandNew_0))) (.seq (.rg [⟨some 22, .loadN 4 (.v 3), none, [3]⟩, ⟨none, .store 4 (.v 2) (.v 22), none, [22]⟩] [2]) .ret))))) }
theorem k_impl_HandNew : okFun Go.Proofs.Try.prog 20 s_impl_HandNew = true := by kernel_rfl
/-- laws.eqHandWorld: function 21 -/
def s_laws_eqHandWorld : SFun := { n := 29, res := [.t 4], body := (.seq (.rg [⟨some 2, .box 102 (.v 0), none, [0]⟩, ⟨some 3, .box 103 (.v 1), none, [1]⟩, ⟨some 4, .mv (.c (.bool false)), none, [4]⟩] [2, 3]) (.seq (.seq (.rg [⟨some 5, .faddr 0 (.v 2), none, []⟩, ⟨some 6, .load1 (.v 5), none, [5]⟩, ⟨some 7, .faddr 0 (.v 3), none, []⟩, ⟨some 8, .load1 (.v 7), none, [7]⟩, ⟨some 9, .call 12 [.v 6, .v 8], none, [6, 8]⟩, ⟨some 10, .not (.v 9), none, [9]⟩] [2, 3, 10]) (.cond (.v 10) (.seq (.rg [⟨some 4, .mv (.c (.bool false)), none, []⟩] [4]) .ret) .skip)) (.seq (.seq (.rg [⟨some 11, .faddr 1 (.v 2), none, []⟩, ⟨some 12, .load1 (.v 11), none, [11]⟩, ⟨some 13, .faddr 1 (.v 3), none, []⟩, ⟨some 14, .load1 (.v 13), none, [13]⟩, ⟨some 15, .call 56 [.v 12, .v 14], none, [12, 14]⟩, ⟨some 16, .not (.v 15), none, [15]⟩] [2, 3, 16]) (.cond (.v 16) (.seq (.rg [⟨some 4, .mv (.c (.bool false)), none, []⟩] [4]) .ret) .skip)) (.seq (.seq (.rg [⟨some 17, .faddr 2 (.v 2), none, []⟩, ⟨some 18, .load1 (.v 17), none, [17]⟩, ⟨some 19, .faddr 2 (.v 3), none, []⟩, ⟨some 20, .load1 (.v 19), none, [19]⟩, ⟨some 21, .call 57 [.v 18, .v 20], none, [18, 20]⟩, ⟨some 22, .not (.v 21), none, [21]⟩] [2, 3, 22]) (.cond (.v 22) (.seq (.rg [⟨some 4, .mv (.c (.bool false)), none, []⟩] [4]) .ret) .skip)) (.seq (.seq (.rg [⟨some 23, .faddr 3 (.v 2), none, [2]⟩, ⟨some 24, .load1 (.v 23), none, [23]⟩, ⟨some 25, .faddr 3 (.v 3), none, [3]⟩, ⟨some 26, .load1 (.v 25), none, [25]⟩, ⟨some 27, .call 58 [.v 24, .v 26], none, [24, 26]⟩, ⟨some 28, .not (.v 27), none, [27]⟩] [28]) (.cond (.v 28) (.seq (.rg [⟨some 4, .mv (.c (.bool false)), none, []⟩] [4]) .ret) .skip)) (.seq (.rg [⟨some 4, .mv (.c (.bool true)), none, []⟩] [4]) .ret)))))) }
theorem k_laws_eqHandWorld : okFun Go.Proofs.Try.prog 21 s_laws_eqHandWorld = true := by kernel_rfl
def l_laws_markHandZoneS_0 : SCode := (.seq (.seq (.rg [⟨some 6, .mv (.v 5), none, []⟩, ⟨some 7, .mv (.v 0), none, []⟩, ⟨some 8, .lenL (.v 7), none, [7]⟩, ⟨some 9, .bin .lss (.v 6) (.v 8), none, [6, 8]⟩] [0, 1, 5, 9]) (.cond (.v 9) .skip (.exit 0))) (.seq (.block 1 (.seq (.rg [⟨some 12, .mv (.v 0), none, []⟩, ⟨some 13, .mv (.v 5), none, []⟩, ⟨some 14, .mv (.v 1), none, []⟩, ⟨some 15, .call 59 [.v 14], none, [14]⟩, ⟨some 16, .iaddr 5 (.v 12) (.v 13), none, [12, 13]⟩, ⟨some 17, .faddr 0 (.v 16), none, [16]⟩, ⟨none, .store 1 (.v 17) (.v 15), none, [15, 17]⟩] [0, 1, 5]) (.seq (.rg [⟨some 18, .mv (.v 1), none, [1]⟩, ⟨some 19, .binN .add (.v 18) (.c (.int .i64 1)), none, [18]⟩, ⟨some 1, .mv (.v 19), none, [19]⟩] [0, 1, 5]) (.seq (.rg [⟨some 20, .mv (.v 0), none, []⟩, ⟨some 21, .mv (.v 5), none, []⟩, ⟨some 22, .mv (.v 1), none, []⟩, ⟨some 23, .iaddr 5 (.v 20) (.v 21), none, [20, 21]⟩, ⟨some 24, .faddr 1 (.v 23), none, [23]⟩, ⟨none, .store 1 (.v 24) (.v 22), none, [22, 24]⟩] [0, 1, 5]) (.seq (.rg [⟨some 25, .mv (.v 1), none, [1]⟩, ⟨some 26, .binN .add (.v 25) (.c (.int .i64 1)), none, [25]⟩, ⟨some 1, .mv (.v 26), none, [26]⟩] [0, 1, 5]) (.seq (.rg [⟨some 27, .mv (.v 0), none, []⟩, ⟨some 28, .mv (.v 5), none, []⟩, ⟨some 29, .mv (.v 1), none, []⟩, ⟨some 30, .iaddr 5 (.v 27) (.v 28), none, [27, 28]⟩, ⟨some 31, .faddr 2 (.v 30), none, [30]⟩, ⟨none, .store 1 (.v 31) (.v 29), none, [29, 31]⟩] [0, 1, 5]) (.seq (.rg [⟨some 32, .mv (.v 1), none, [1]⟩, ⟨some 33, .binN .add (.v 32) (.c (.int .i64 1)), none, [32]⟩, ⟨some 1, .mv (.v 33), none, [33]⟩] [0, 1, 5]) (.seq (.rg [⟨some 34, .mv (.v 0), none, []⟩, ⟨some 35, .mv (.v 5), none, []⟩, ⟨some 36, .mv (.v 1), none, []⟩, ⟨some 37, .iaddr 5 (.v 34) (.v 35), none, [34, 35]⟩, ⟨some 38, .faddr 3 (.v 37), none, [37]⟩, ⟨none, .store 1 (.v 38) (.v 36), none, [36, 38]⟩] [0, 1, 5]) (.seq (.rg [⟨some 39, .mv (.v 1), none, [1]⟩, ⟨some 40, .binN .add (.v 39) (.c (.int .i64 1)), none, [39]⟩, ⟨some 1, .mv (.v 40), none, [40]⟩] [0, 1, 5]) (.seq (.rg [⟨some 41, .mv (.v 0), none, []⟩, ⟨some 42, .mv (.v 5), none, []⟩, ⟨some 43, .mv (.v 1), none, []⟩, ⟨some 44, .iaddr 5 (.v 41) (.v 42), none, [41, 42]⟩, ⟨some 45, .faddr 4 (.v 44), none, [44]⟩, ⟨none, .store 1 (.v 45) (.v 43), none, [43, 45]⟩] [0, 1, 5]) (.rg [⟨some 46, .mv (.v 1), none, [1]⟩, ⟨some 47, .binN .add (.v 46) (.c (.int .i64 1)), none, [46]⟩, ⟨some 1, .mv (.v 47), none, [47]⟩] [0, 1, 5]))))))))))) (.rg [⟨some 10, .mv (.v 5), none, [5]⟩, ⟨some 11, .binN .add (.v 10) (.c (.int .i64 1)), none, [10]⟩, ⟨some 5, .mv (.v 11), none, [11]⟩] [0, 1, 5])))
/-- laws.markHandZoneS: function 22 -/
def s_laws_markHandZoneS : SFun := { n := 49, res := [.t 4], body := (.seq (.rg [⟨some 4, .mv (.c (.int .i64 0)), none, [4]⟩] [0, 1]) (.seq (.seq (.rg [⟨some 5, .mv (.c (.int .i64 0)), none, []⟩] [0, 1, 5]) (.block 0 (.loop l_laws_markHandZoneS_0))) (.seq (.rg [⟨some 48, .mv (.v 1), none, [1]⟩, ⟨some 4, .mv (.v 48), none, [48]⟩] [4]) .ret))) }
theorem k_laws_markHandZoneS : okFun Go.Proofs.Try.prog 22 s_laws_markHandZoneS = true := by kernel_rfl
/-- laws.markHandWorld: function 23 -/
def s_laws_markHandWorld : SFun := { n := 22, res := [.t 4], body := (.seq (.rg [⟨some 2, .box 102 (.v 0), none, [0]⟩, ⟨some 4, .mv (.c (.int .i64 0)), none, [4]⟩] [1, 2]) (.seq (.rg [⟨some 5, .faddr 0 (.v 2), none, []⟩, ⟨some 6, .load1 (.v 5), none, [5]⟩, ⟨some 7, .mv (.v 1), none, [1]⟩, ⟨some 8, .call 22 [.v 6, .v 7], none, [6, 7]⟩, ⟨some 1, .mv (.v 8), none, [8]⟩] [1, 2]) (.seq (.rg [⟨some 9, .faddr 1 (.v 2), none, []⟩, ⟨some 10, .load1 (.v 9), none, [9]⟩, ⟨some 11, .mv (.v 1), none, [1]⟩, ⟨some 12, .call 60 [.v 10, .v 11], none, [10, 11]⟩, ⟨some 1, .mv (.v 12), none, [12]⟩] [1, 2]) (.seq (.rg [⟨some 13, .faddr 2 (.v 2), none, []⟩, ⟨some 14, .load1 (.v 13), none, [13]⟩, ⟨some 15, .mv (.v 1), none, [1]⟩, ⟨some 16, .call 61 [.v 14, .v 15], none, [14, 15]⟩, ⟨some 1, .mv (.v 16), none, [16]⟩] [1, 2]) (.seq (.rg [⟨some 17, .faddr 3 (.v 2), none, [2]⟩, ⟨some 18, .load1 (.v 17), none, [17]⟩, ⟨some 19, .mv (.v 1), none, [1]⟩, ⟨some 20, .call 62 [.v 18, .v 19], none, [18, 19]⟩, ⟨some 1, .mv (.v 20), none, [20]⟩] [1]) (.seq (.rg [⟨some 21, .mv (.v 1), none, [1]⟩, ⟨some 4, .mv (.v 21), none, [21]⟩] [4]) .ret)))))) }
theorem k_laws_markHandWorld : okFun Go.Proofs.Try.prog 23 s_laws_markHandWorld = true := by kernel_rfl
/-- laws.heldHandWorld: function 24 -/
def s_laws_heldHandWorld : SFun := { n := 30, res := [.t 4], body := (.seq (.rg [⟨some 2, .box 102 (.v 0), none, [0]⟩, ⟨some 4, .mv (.c (.int .i64 0)), none, [4]⟩] [1, 2]) (.seq (.rg [⟨some 5, .faddr 0 (.v 2), none, []⟩, ⟨some 6, .load1 (.v 5), none, [5]⟩, ⟨some 7, .mv (.v 1), none, [1]⟩, ⟨some 8, .call 63 [.v 6, .v 7], none, [6, 7]⟩, ⟨some 1, .mv (.v 8), none, [8]⟩] [1, 2]) (.seq (.seq (.rg [⟨some 9, .mv (.v 1), none, []⟩, ⟨some 10, .bin .lss (.v 9) (.c (.int .i64 0)), none, [9]⟩] [1, 2, 10]) (.cond (.v 10) (.seq (.rg [⟨some 4, .mv (.c (.int .i64 (-1))), none, []⟩] [4]) .ret) .skip)) (.seq (.rg [⟨some 11, .faddr 1 (.v 2), none, []⟩, ⟨some 12, .load1 (.v 11), none, [11]⟩, ⟨some 13, .mv (.v 1), none, [1]⟩, ⟨some 14, .call 64 [.v 12, .v 13], none, [12, 13]⟩, ⟨some 1, .mv (.v 14), none, [14]⟩] [1, 2]) (.seq (.seq (.rg [⟨some 15, .mv (.v 1), none, []⟩, ⟨some 16, .bin .lss (.v 15) (.c (.int .i64 0)), none, [15]⟩] [1, 2, 16]) (.cond (.v 16) (.seq (.rg [⟨some 4, .mv (.c (.int .i64 (-1))), none, []⟩] [4]) .ret) .skip)) (.seq (.rg [⟨some 17, .faddr 2 (.v 2), none, []⟩, ⟨some 18, .load1 (.v 17), none, [17]⟩, ⟨some 19, .mv (.v 1), none, [1]⟩, ⟨some 20, .call 65 [.v 18, .v 19], none, [18, 19]⟩, ⟨some 1, .mv (.v 20), none, [20]⟩] [1, 2]) (.seq (.seq (.rg [⟨some 21, .mv (.v 1), none, []⟩, ⟨some 22, .bin .lss (.v 21) (.c (.int .i64 0)), none, [21]⟩] [1, 2, 22]) (.cond (.v 22) (.seq (.rg [⟨some 4, .mv (.c (.int .i64 (-1))), none, []⟩] [4]) .ret) .skip)) (.seq (.rg [⟨some 23, .faddr 3 (.v 2), none, [2]⟩, ⟨some 24, .load1 (.v 23), none, [23]⟩, ⟨some 25, .mv (.v 1), none, [1]⟩, ⟨some 26, .call 66 [.v 24, .v 25], none, [24, 25]⟩, ⟨some 1, .mv (.v 26), none, [26]⟩] [1]) (.seq (.seq (.rg [⟨some 27, .mv (.v 1), none, []⟩, ⟨some 28, .bin .lss (.v 27) (.c (.int .i64 0)), none, [27]⟩] [1, 28]) (.cond (.v 28) (.seq (.rg [⟨some 4, .mv (.c (.int .i64 (-1))), none, []⟩] [4]) .ret) .skip)) (.seq (.rg [⟨some 29, .mv (.v 1), none, [1]⟩, ⟨some 4, .mv (.v 29), none, [29]⟩] [4]) .ret)))))))))) }
theorem k_laws_heldHandWorld : okFun Go.Proofs.Try.prog 24 s_laws_heldHandWorld = true := by kernel_rfl
/-- laws.szHandZone: function 25 -/
def s_laws_szHandZone : SFun := { n := 13, res := [.t 4], body := (.seq (.rg [⟨some 2, .box 102 (.v 0), none, [0]⟩, ⟨some 4, .mv (.c (.int .i64 0)), none, [4]⟩] [1, 2]) (.seq (.rg [⟨some 5, .mv (.v 1), none, [1]⟩, ⟨some 6, .faddr 0 (.v 2), none, [2]⟩, ⟨some 7, .load1 (.v 6), none, [6]⟩, ⟨some 8, .lenS (.v 7), none, [7]⟩, ⟨some 9, .binN .sub (.v 5) (.v 8), none, [5, 8]⟩, ⟨some 1, .mv (.v 9), none, [9]⟩] [1]) (.seq (.seq (.rg [⟨some 10, .mv (.v 1), none, []⟩, ⟨some 11, .bin .lss (.v 10) (.c (.int .i64 0)), none, [10]⟩] [1, 11]) (.cond (.v 11) (.seq (.rg [⟨some 4, .mv (.c (.int .i64 (-1))), none, []⟩] [4]) .ret) .skip)) (.seq (.rg [⟨some 12, .mv (.v 1), none, [1]⟩, ⟨some 4, .mv (.v 12), none, [12]⟩] [4]) .ret)))) }
theorem k_laws_szHandZone : okFun Go.Proofs.Try.prog 25 s_laws_szHandZone = true := by kernel_rfl
def l_spec_l31NameOk_0 : SCode := (.seq (.seq (.rg [⟨some 9, .mv (.v 3), none, []⟩, ⟨some 10, .mv (.v 0), none, []⟩, ⟨some 11, .lenS (.v 10), none, [10]⟩, ⟨some 12, .bin .lss (.v 9) (.v 11), none, [9, 11]⟩] [0, 3, 12]) (.cond (.v 12) .skip (.exit 0))) (.seq (.block 1 (.seq (.rg [⟨some 15, .mv (.v 0), none, []⟩, ⟨some 16, .mv (.v 3), none, []⟩, ⟨some 17, .istr (.v 15) (.v 16), none, [15, 16]⟩, ⟨some 4, .mv (.v 17), none, [17]⟩] [0, 3, 4]) (.seq (.rg [⟨some 18, .mv (.v 4), none, []⟩, ⟨some 19, .bin .geq (.v 18) (.c (.int .u8 97)), none, [18]⟩, ⟨some 20, .mv (.v 19), none, [19]⟩, ⟨some 21, .mv (.v 4), some (20, true), []⟩, ⟨some 22, .bin .leq (.v 21) (.c (.int .u8 122)), some (20, true), [21]⟩, ⟨some 23, .pick (.v 20) (.v 22) (.c (.bool false)), none, [20, 22]⟩, ⟨some 24, .mv (.v 23), none, [23]⟩, ⟨some 25, .mv (.v 4), some (24, false), []⟩, ⟨some 26, .bin .geq (.v 25) (.c (.int .u8 48)), some (24, false), [25]⟩, ⟨some 27, .mv (.v 26), some (24, false), [26]⟩, ⟨some 28, .mv (.v 4), some (27, true), []⟩, ⟨some 29, .bin .leq (.v 28) (.c (.int .u8 57)), some (27, true), [28]⟩, ⟨some 30, .pick (.v 27) (.v 29) (.c (.bool false)), some (24, false), [27, 29]⟩, ⟨some 31, .pick (.v 24) (.c (.bool true)) (.v 30), none, [24, 30]⟩, ⟨some 32, .mv (.v 31), none, [31]⟩, ⟨some 33, .mv (.v 4), some (32, false), [4]⟩, ⟨some 34, .bin .eql (.v 33) (.c (.int .u8 45)), some (32, false), [33]⟩, ⟨some 35, .pick (.v 32) (.c (.bool true)) (.v 34), none, [32, 34]⟩, ⟨some 36, .not (.v 35), none, [35]⟩] [0, 3, 36]) (.cond (.v 36) (.seq (.rg [⟨some 2, .mv (.c (.bool false)), none, []⟩] [2]) .ret) .skip)))) (.rg [⟨some 13, .mv (.v 3), none, [3]⟩, ⟨some 14, .binN .add (.v 13) (.c (.int .i64 1)), none, [13]⟩, ⟨some 3, .mv (.v 14), none, [14]⟩] [0, 3])))
/-- spec.l31NameOk: function 28 -/
def s_spec_l31NameOk : SFun := { n := 37, res := [.t 2], body := (.seq (.rg [⟨some 2, .mv (.c (.bool false)), none, [2]⟩] [0]) (.seq (.seq (.rg [⟨some 5, .mv (.v 0), none, []⟩, ⟨some 6, .lenS (.v 5), none, [5]⟩, ⟨some 7, .call 48 [.v 6, .c (.int .i64 1), .c (.int .i64 8)], none, [6]⟩, ⟨some 8, .not (.v 7), none, [7]⟩] [0, 8]) (.cond (.v 8) (.seq (.rg [⟨some 2, .mv (.c (.bool false)), none, []⟩] [2]) .ret) .skip)) (.seq (.seq (.rg [⟨some 3, .mv (.c (.int .i64 0)), none, []⟩] [0, 3]) (.block 0 (.loop l_spec_l31NameOk_0))) (.seq (.rg [⟨some 2, .mv (.c (.bool true)), none, []⟩] [2]) .ret)))) }
theorem k_spec_l31NameOk : okFun Go.Proofs.Try.prog 28 s_spec_l31NameOk = true := by kernel_rfl
/-- laws.toHandZone: function 32 -/
def s_laws_toHandZone : SFun := { n := 20, res := [.cN 2 5], body := (.seq (.rg [⟨some 1, .box 101 (.v 0), none, [0]⟩, ⟨some 2, .alloc 102 [.str ⟨#[]⟩, .int .i64 0, .int .i64 0, .int .i64 0, .int .i64 0], none, []⟩] [1, 2]) (.seq (.rg [⟨some 3, .alloc 103 [.str ⟨#[]⟩, .int .i64 0, .int .i64 0, .int .i64 0, .int .i64 0], none, []⟩] [1, 2, 3]) (.seq (.rg [⟨some 4, .faddr 0 (.v 1), none, []⟩, ⟨some 5, .load1 (.v 4), none, [4]⟩, ⟨some 6, .faddr 0 (.v 3), none, []⟩, ⟨none, .store 1 (.v 6) (.v 5), none, [5, 6]⟩] [1, 2, 3]) (.seq (.rg [⟨some 7, .faddr 1 (.v 1), none, []⟩, ⟨some 8, .load1 (.v 7), none, [7]⟩, ⟨some 9, .faddr 1 (.v 3), none, []⟩, ⟨none, .store 1 (.v 9) (.v 8), none, [8, 9]⟩] [1, 2, 3]) (.seq (.rg [⟨some 10, .faddr 2 (.v 1), none, []⟩, ⟨some 11, .load1 (.v 10), none, [10]⟩, ⟨some 12, .faddr 2 (.v 3), none, []⟩, ⟨none, .store 1 (.v 12) (.v 11), none, [11, 12]⟩] [1, 2, 3]) (.seq (.rg [⟨some 13, .faddr 3 (.v 1), none, []⟩, ⟨some 14, .load1 (.v 13), none, [13]⟩, ⟨some 15, .faddr 3 (.v 3), none, []⟩, ⟨none, .store 1 (.v 15) (.v 14), none, [14, 15]⟩] [1, 2, 3]) (.seq (.rg [⟨some 16, .faddr 4 (.v 1), none, [1]⟩, ⟨some 17, .load1 (.v 16), none, [16]⟩, ⟨some 18, .faddr 4 (.v 3), none, []⟩, ⟨none, .store 1 (.v 18) (.v 17), none, [17, 18]⟩] [2, 3]) (.seq (.rg [⟨some 19, .loadN 5 (.v 3), none, [3]⟩, ⟨none, .store 5 (.v 2) (.v 19), none, [19]⟩] [2]) .ret)))))))) }
theorem k_laws_toHandZone : okFun Go.Proofs.Try.prog 32 s_laws_toHandZone = true := by kernel_rfl
def l_impl_HandZonesOk_0 : SCode := (.seq (.rg [⟨some 78, .bin .lss (.v 77) (.v 76), none, []⟩] [0, 4, 11, 12, 13, 75, 76, 77, 78]) (.seq (.cond (.v 78) .skip (.exit 2)) (.seq (.block 3 (.seq (.rg [⟨some 79, .iaddr 5 (.v 75) (.v 77), none, []⟩, ⟨some 80, .loadN 5 (.v 79), none, [79]⟩, ⟨some 6, .alloc 106 [.str ⟨#[]⟩, .int .i64 0, .int .i64 0, .int .i64 0, .int .i64 0], none, []⟩, ⟨none, .store 5 (.v 6) (.v 80), none, [80]⟩] [0, 4, 6, 11, 12, 13, 75, 76, 77]) (.seq (.rg [⟨some 81, .faddr 1 (.v 6), none, []⟩, ⟨some 82, .load1 (.v 81), none, [81]⟩, ⟨some 83, .faddr 3 (.v 4), none, []⟩, ⟨some 84, .load1 (.v 83), none, [83]⟩, ⟨some 85, .bin .leq (.v 82) (.v 84), none, [82, 84]⟩, ⟨some 86, .mv (.v 85), none, [85]⟩, ⟨some 87, .faddr 1 (.v 4), some (86, true), []⟩, ⟨some 88, .load1 (.v 87), some (86, true), [87]⟩, ⟨some 89, .faddr 3 (.v 6), some (86, true), []⟩, ⟨some 90, .load1 (.v 89), some (86, true), [89]⟩, ⟨some 91, .bin .leq (.v 88) (.v 90), some (86, true), [88, 90]⟩, ⟨some 92, .pick (.v 86) (.v 91) (.c (.bool false)), none, [86, 91]⟩, ⟨some 93, .mv (.v 92), none, [92]⟩, ⟨some 94, .faddr 2 (.v 6), some (93, true), []⟩, ⟨some 95, .load1 (.v 94), some (93, true), [94]⟩, ⟨some 96, .faddr 4 (.v 4), some (93, true), []⟩, ⟨some 97, .load1 (.v 96), some (93, true), [96]⟩, ⟨some 98, .bin .leq (.v 95) (.v 97), some (93, true), [95, 97]⟩, ⟨some 99, .pick (.v 93) (.v 98) (.c (.bool false)), none, [93, 98]⟩, ⟨some 100, .mv (.v 99), none, [99]⟩, ⟨some 101, .faddr 2 (.v 4), some (100, true), []⟩, ⟨some 102, .load1 (.v 101), some (100, true), [101]⟩, ⟨some 103, .faddr 4 (.v 6), some (100, true), [6]⟩, ⟨some 104, .load1 (.v 103), some (100, true), [103]⟩, ⟨some 105, .bin .leq (.v 102) (.v 104), some (100, true), [102, 104]⟩, ⟨some 106, .pick (.v 100) (.v 105) (.c (.bool false)), none, [100, 105]⟩] [0, 4, 11, 12, 13, 75, 76, 77, 106]) (.cond (.v 106) (.seq (.rg [⟨some 2, .mv (.c (.bool false)), none, []⟩] [2]) .ret) .skip)))) (.rg [⟨some 107, .binN .add (.v 77) (.c (.int .i64 1)), none, [77]⟩, ⟨some 77, .mv (.v 107), none, [107]⟩] [0, 4, 11, 12, 13, 75, 76, 77]))))
def l_impl_HandZonesOk_1 : SCode := (.seq (.rg [⟨some 14, .bin .lss (.v 13) (.v 12), none, []⟩] [0, 11, 12, 13, 14]) (.seq (.cond (.v 14) .skip (.exit 0)) (.seq (.block 1 (.seq (.rg [⟨some 15, .mv (.v 13), none, []⟩, ⟨some 16, .iaddr 5 (.v 11) (.v 13), none, []⟩, ⟨some 17, .loadN 5 (.v 16), none, [16]⟩, ⟨some 4, .alloc 104 [.str ⟨#[]⟩, .int .i64 0, .int .i64 0, .int .i64 0, .int .i64 0], none, []⟩, ⟨some 3, .mv (.v 15), none, [15]⟩, ⟨none, .store 5 (.v 4) (.v 17), none, [17]⟩] [0, 3, 4, 11, 12, 13]) (.seq (.seq (.rgd [⟨some 18, .faddr 0 (.v 4), none, []⟩, ⟨some 19, .load1 (.v 18), none, []⟩, ⟨some 20, .call 76 [.v 19], none, []⟩, ⟨some 21, .not (.v 20), none, []⟩, ⟨some 22, .mv (.v 21), none, []⟩, ⟨some 23, .faddr 1 (.v 4), some (22, false), []⟩, ⟨some 24, .load1 (.v 23), some (22, false), []⟩, ⟨some 25, .bin .leq (.c (.int .i64 0)) (.v 24), some (22, false), []⟩, ⟨some 26, .mv (.v 25), some (22, false), []⟩, ⟨some 27, .faddr 1 (.v 4), some (26, true), []⟩, ⟨some 28, .load1 (.v 27), some (26, true), []⟩, ⟨some 29, .faddr 3 (.v 4), some (26, true), []⟩, ⟨some 30, .load1 (.v 29), some (26, true), []⟩, ⟨some 31, .bin .leq (.v 28) (.v 30), some (26, true), []⟩, ⟨some 32, .pick (.v 26) (.v 31) (.c (.bool false)), some (22, false), []⟩, ⟨some 33, .mv (.v 32), some (22, false), []⟩, ⟨some 34, .faddr 3 (.v 4), some (33, true), []⟩, ⟨some 35, .load1 (.v 34), some (33, true), []⟩, ⟨some 36, .bin .lss (.v 35) (.c (.int .i64 16)), some (33, true), []⟩, ⟨some 37, .pick (.v 33) (.v 36) (.c (.bool false)), some (22, false), []⟩, ⟨some 38, .not (.v 37), some (22, false), []⟩, ⟨some 39, .pick (.v 22) (.c (.bool true)) (.v 38), none, []⟩, ⟨some 40, .mv (.v 39), none, []⟩, ⟨some 41, .faddr 2 (.v 4), some (40, false), []⟩, ⟨some 42, .load1 (.v 41), some (40, false), []⟩, ⟨some 43, .bin .leq (.c (.int .i64 0)) (.v 42), some (40, false), []⟩, ⟨some 44, .mv (.v 43), some (40, false), []⟩, ⟨some 45, .faddr 2 (.v 4), some (44, true), []⟩, ⟨some 46, .load1 (.v 45), some (44, true), []⟩, ⟨some 47, .faddr 4 (.v 4), some (44, true), []⟩, ⟨some 48, .load1 (.v 47), some (44, true), []⟩, ⟨some 49, .bin .leq (.v 46) (.v 48), some (44, true), []⟩, ⟨some 50, .pick (.v 44) (.v 49) (.c (.bool false)), some (40, false), []⟩, ⟨some 51, .mv (.v 50), some (40, false), []⟩, ⟨some 52, .faddr 4 (.v 4), some (51, true), []⟩, ⟨some 53, .load1 (.v 52), some (51, true), []⟩, ⟨some 54, .bin .lss (.v 53) (.c (.int .i64 16)), some (51, true), []⟩, ⟨some 55, .pick (.v 51) (.v 54) (.c (.bool false)), some (40, false), []⟩, ⟨some 56, .not (.v 55), some (40, false), []⟩, ⟨some 57, .pick (.v 40) (.c (.bool true)) (.v 56), none, []⟩, ⟨some 58, .mv (.v 57), none, []⟩, ⟨some 59, .mv (.v 3), some (58, false), []⟩, ⟨some 60, .bin .gtr (.v 59) (.c (.int .i64 0)), some (58, false), []⟩, ⟨some 61, .mv (.v 60), some (58, false), []⟩, ⟨some 62, .faddr 0 (.v 4), some (61, true), []⟩, ⟨some 63, .load1 (.v 62), some (61, true), []⟩, ⟨some 64, .mv (.v 0), some (61, true), []⟩, ⟨some 65, .mv (.v 3), some (61, true), []⟩, ⟨some 66, .binN .sub (.v 65) (.c (.int .i64 1)), some (61, true), []⟩, ⟨some 67, .iaddr 5 (.v 64) (.v 66), some (61, true), []⟩, ⟨some 68, .faddr 0 (.v 67), some (61, true), []⟩, ⟨some 69, .load1 (.v 68), some (61, true), []⟩, ⟨some 70, .bin .leq (.v 63) (.v 69), some (61, true), []⟩, ⟨some 71, .pick (.v 61) (.v 70) (.c (.bool false)), some (58, false), []⟩, ⟨some 72, .pick (.v 58) (.c (.bool true)) (.v 71), none, []⟩] [0, 3, 4, 11, 12, 13, 72] [none, none, none, none, none, none, none, none, none, none, none, none, none, none, none, none, none, none, none, none, none, none, none, none, none, none, none, none, none, none, none, none, none, none, none, none, none, none, none, none, none, none, none, none, none, none, none, none, none, none, none, none, none, none, none]) (.cond (.v 72) (.seq (.rg [⟨some 2, .mv (.c (.bool false)), none, []⟩] [2]) .ret) .skip)) (.seq (.rg [⟨some 73, .mv (.v 0), none, []⟩, ⟨some 74, .mv (.v 3), none, [3]⟩, ⟨some 75, .slSl 5 (.v 73) none (some (.v 74)), none, [73, 74]⟩, ⟨some 76, .lenL (.v 75), none, []⟩, ⟨some 77, .mv (.c (.int .i64 0)), none, []⟩] [0, 4, 11, 12, 13, 75, 76, 77]) (.block 2 (.loop l_impl_HandZonesOk_0)))))) (.rg [⟨some 108, .binN .add (.v 13) (.c (.int .i64 1)), none, [13]⟩, ⟨some 13, .mv (.v 108), none, [108]⟩] [0, 11, 12, 13]))))
/-- impl.HandZonesOk: function 36 -/
def s_impl_HandZonesOk : SFun := { n := 109, res := [.t 2], body := (.seq (.rg [⟨some 2, .mv (.c (.bool false)), none, [2]⟩] [0]) (.seq (.seq (.rg [⟨some 7, .mv (.v 0), none, []⟩, ⟨some 8, .lenL (.v 7), none, [7]⟩, ⟨some 9, .call 75 [.v 8, .c (.int .i64 1), .c (.int .i64 4)], none, [8]⟩, ⟨some 10, .not (.v 9), none, [9]⟩] [0, 10]) (.cond (.v 10) (.seq (.rg [⟨some 2, .mv (.c (.bool false)), none, []⟩] [2]) .ret) .skip)) (.seq (.seq (.rg [⟨some 11, .mv (.v 0), none, []⟩, ⟨some 12, .lenL (.v 11), none, []⟩, ⟨some 13, .mv (.c (.int .i64 0)), none, []⟩] [0, 11, 12, 13]) (.block 0 (.loop l_impl_HandZonesOk_1))) (.seq (.rg [⟨some 2, .mv (.c (.bool true)), none, []⟩] [2]) .ret)))) }
theorem k_impl_HandZonesOk : okFun Go.Proofs.Try.prog 36 s_impl_HandZonesOk = true := by kernel_rfl
/-- laws.eqHandZone: function 38 -/
def s_laws_eqHandZone : SFun := { n := 30, res := [.t 4], body := (.seq (.rg [⟨some 2, .box 102 (.v 0), none, [0]⟩, ⟨some 3, .box 103 (.v 1), none, [1]⟩, ⟨some 4, .mv (.c (.bool false)), none, [4]⟩] [2, 3]) (.seq (.seq (.rg [⟨some 5, .faddr 0 (.v 2), none, []⟩, ⟨some 6, .load1 (.v 5), none, [5]⟩, ⟨some 7, .faddr 0 (.v 3), none, []⟩, ⟨some 8, .load1 (.v 7), none, [7]⟩, ⟨some 9, .bin .neq (.v 6) (.v 8), none, [6, 8]⟩] [2, 3, 9]) (.cond (.v 9) (.seq (.rg [⟨some 4, .mv (.c (.bool false)), none, []⟩] [4]) .ret) .skip)) (.seq (.seq (.rg [⟨some 10, .faddr 1 (.v 2), none, []⟩, ⟨some 11, .load1 (.v 10), none, [10]⟩, ⟨some 12, .faddr 1 (.v 3), none, []⟩, ⟨some 13, .load1 (.v 12), none, [12]⟩, ⟨some 14, .bin .neq (.v 11) (.v 13), none, [11, 13]⟩] [2, 3, 14]) (.cond (.v 14) (.seq (.rg [⟨some 4, .mv (.c (.bool false)), none, []⟩] [4]) .ret) .skip)) (.seq (.seq (.rg [⟨some 15, .faddr 2 (.v 2), none, []⟩, ⟨some 16, .load1 (.v 15), none, [15]⟩, ⟨some 17, .faddr 2 (.v 3), none, []⟩, ⟨some 18, .load1 (.v 17), none, [17]⟩, ⟨some 19, .bin .neq (.v 16) (.v 18), none, [16, 18]⟩] [2, 3, 19]) (.cond (.v 19) (.seq (.rg [⟨some 4, .mv (.c (.bool false)), none, []⟩] [4]) .ret) .skip)) (.seq (.seq (.rg [⟨some 20, .faddr 3 (.v 2), none, []⟩, ⟨some 21, .load1 (.v 20), none, [20]⟩, ⟨some 22, .faddr 3 (.v 3), none, []⟩, ⟨some 23, .load1 (.v 22), none, [22]⟩, ⟨some 24, .bin .neq (.v 21) (.v 23), none, [21, 23]⟩] [2, 3, 24]) (.cond (.v 24) (.seq (.rg [⟨some 4, .mv (.c (.bool false)), none, []⟩] [4]) .ret) .skip)) (.seq (.seq (.rg [⟨some 25, .faddr 4 (.v 2), none, [2]⟩, ⟨some 26, .load1 (.v 25), none, [25]⟩, ⟨some 27, .faddr 4 (.v 3), none, [3]⟩, ⟨some 28, .load1 (.v 27), none, [27]⟩, ⟨some 29, .bin .neq (.v 26) (.v 28), none, [26, 28]⟩] [29]) (.cond (.v 29) (.seq (.rg [⟨some 4, .mv (.c (.bool false)), none, []⟩] [4]) .ret) .skip)) (.seq (.rg [⟨some 4, .mv (.c (.bool true)), none, []⟩] [4]) .ret))))))) }
theorem k_laws_eqHandZone : okFun Go.Proofs.Try.prog 38 s_laws_eqHandZone = true := by kernel_rfl
def l_laws_eqHandBoxS_0 : SCode := (.seq (.seq (.rg [⟨some 11, .mv (.v 5), none, []⟩, ⟨some 12, .mv (.v 0), none, []⟩, ⟨some 13, .lenL (.v 12), none, [12]⟩, ⟨some 14, .bin .lss (.v 11) (.v 13), none, [11, 13]⟩] [0, 1, 5, 14]) (.cond (.v 14) .skip (.exit 0))) (.seq (.block 1 (.seq (.rgd [⟨some 17, .mv (.v 0), none, []⟩, ⟨some 18, .mv (.v 5), none, []⟩, ⟨some 19, .iaddr 6 (.v 17) (.v 18), none, []⟩, ⟨some 20, .loadN 6 (.v 19), none, []⟩, ⟨some 21, .mv (.v 1), none, []⟩, ⟨some 22, .mv (.v 5), none, []⟩, ⟨some 23, .iaddr 6 (.v 21) (.v 22), none, []⟩, ⟨some 24, .loadN 6 (.v 23), none, []⟩, ⟨some 25, .call 84 [.v 20, .v 24], none, []⟩, ⟨some 26, .not (.v 25), none, []⟩] [0, 1, 5, 26] [none, none, none, none, none, none, none, none, none, none]) (.cond (.v 26) (.seq (.rg [⟨some 4, .mv (.c (.bool false)), none, []⟩] [4]) .ret) .skip))) (.rg [⟨some 15, .mv (.v 5), none, [5]⟩, ⟨some 16, .binN .add (.v 15) (.c (.int .i64 1)), none, [15]⟩, ⟨some 5, .mv (.v 16), none, [16]⟩] [0, 1, 5])))
/-- laws.eqHandBoxS: function 40 -/
def s_laws_eqHandBoxS : SFun := { n := 27, res := [.t 4], body := (.seq (.rg [⟨some 4, .mv (.c (.bool false)), none, [4]⟩] [0, 1]) (.seq (.seq (.rg [⟨some 6, .mv (.v 0), none, []⟩, ⟨some 7, .lenL (.v 6), none, [6]⟩, ⟨some 8, .mv (.v 1), none, []⟩, ⟨some 9, .lenL (.v 8), none, [8]⟩, ⟨some 10, .bin .neq (.v 7) (.v 9), none, [7, 9]⟩] [0, 1, 10]) (.cond (.v 10) (.seq (.rg [⟨some 4, .mv (.c (.bool false)), none, []⟩] [4]) .ret) .skip)) (.seq (.seq (.rg [⟨some 5, .mv (.c (.int .i64 0)), none, []⟩] [0, 1, 5]) (.block 0 (.loop l_laws_eqHandBoxS_0))) (.seq (.rg [⟨some 4, .mv (.c (.bool true)), none, []⟩] [4]) .ret)))) }
theorem k_laws_eqHandBoxS : okFun Go.Proofs.Try.prog 40 s_laws_eqHandBoxS = true := by kernel_rfl
def l_spec_HandZonesOk_0 : SCode := (.seq (.seq (.rg [⟨some 66, .mv (.v 5), none, []⟩, ⟨some 67, .mv (.v 3), none, []⟩, ⟨some 68, .bin .lss (.v 66) (.v 67), none, [66, 67]⟩] [0, 3, 4, 5, 68]) (.cond (.v 68) .skip (.exit 2))) (.seq (.block 3 (.seq (.rg [⟨some 71, .mv (.v 0), none, []⟩, ⟨some 72, .mv (.v 5), none, []⟩, ⟨some 73, .iaddr 5 (.v 71) (.v 72), none, [71, 72]⟩, ⟨some 74, .loadN 5 (.v 73), none, [73]⟩, ⟨some 6, .alloc 106 [.str ⟨#[]⟩, .int .i64 0, .int .i64 0, .int .i64 0, .int .i64 0], none, []⟩, ⟨none, .store 5 (.v 6) (.v 74), none, [74]⟩] [0, 3, 4, 5, 6]) (.seq (.rg [⟨some 75, .faddr 1 (.v 6), none, []⟩, ⟨some 76, .load1 (.v 75), none, [75]⟩, ⟨some 77, .faddr 3 (.v 4), none, []⟩, ⟨some 78, .load1 (.v 77), none, [77]⟩, ⟨some 79, .bin .leq (.v 76) (.v 78), none, [76, 78]⟩, ⟨some 80, .mv (.v 79), none, [79]⟩, ⟨some 81, .faddr 1 (.v 4), some (80, true), []⟩, ⟨some 82, .load1 (.v 81), some (80, true), [81]⟩, ⟨some 83, .faddr 3 (.v 6), some (80, true), []⟩, ⟨some 84, .load1 (.v 83), some (80, true), [83]⟩, ⟨some 85, .bin .leq (.v 82) (.v 84), some (80, true), [82, 84]⟩, ⟨some 86, .pick (.v 80) (.v 85) (.c (.bool false)), none, [80, 85]⟩, ⟨some 87, .mv (.v 86), none, [86]⟩, ⟨some 88, .faddr 2 (.v 6), some (87, true), []⟩, ⟨some 89, .load1 (.v 88), some (87, true), [88]⟩, ⟨some 90, .faddr 4 (.v 4), some (87, true), []⟩, ⟨some 91, .load1 (.v 90), some (87, true), [90]⟩, ⟨some 92, .bin .leq (.v 89) (.v 91), some (87, true), [89, 91]⟩, ⟨some 93, .pick (.v 87) (.v 92) (.c (.bool false)), none, [87, 92]⟩, ⟨some 94, .mv (.v 93), none, [93]⟩, ⟨some 95, .faddr 2 (.v 4), some (94, true), []⟩, ⟨some 96, .load1 (.v 95), some (94, true), [95]⟩, ⟨some 97, .faddr 4 (.v 6), some (94, true), [6]⟩, ⟨some 98, .load1 (.v 97), some (94, true), [97]⟩, ⟨some 99, .bin .leq (.v 96) (.v 98), some (94, true), [96, 98]⟩, ⟨some 100, .pick (.v 94) (.v 99) (.c (.bool false)), none, [94, 99]⟩] [0, 3, 4, 5, 100]) (.cond (.v 100) (.seq (.rg [⟨some 2, .mv (.c (.bool false)), none, []⟩] [2]) .ret) .skip)))) (.rg [⟨some 69, .mv (.v 5), none, [5]⟩, ⟨some 70, .binN .add (.v 69) (.c (.int .i64 1)), none, [69]⟩, ⟨some 5, .mv (.v 70), none, [70]⟩] [0, 3, 4, 5])))
def l_spec_HandZonesOk_1 : SCode := (.seq (.seq (.rg [⟨some 11, .mv (.v 3), none, []⟩, ⟨some 12, .mv (.v 0), none, []⟩, ⟨some 13, .lenL (.v 12), none, [12]⟩, ⟨some 14, .bin .lss (.v 11) (.v 13), none, [11, 13]⟩] [0, 3, 14]) (.cond (.v 14) .skip (.exit 0))) (.seq (.block 1 (.seq (.rg [⟨some 17, .mv (.v 0), none, []⟩, ⟨some 18, .mv (.v 3), none, []⟩, ⟨some 19, .iaddr 5 (.v 17) (.v 18), none, [17, 18]⟩, ⟨some 20, .loadN 5 (.v 19), none, [19]⟩, ⟨some 4, .alloc 104 [.str ⟨#[]⟩, .int .i64 0, .int .i64 0, .int .i64 0, .int .i64 0], none, []⟩, ⟨none, .store 5 (.v 4) (.v 20), none, [20]⟩] [0, 3, 4]) (.seq (.seq (.rgd [⟨some 21, .faddr 0 (.v 4), none, []⟩, ⟨some 22, .load1 (.v 21), none, []⟩, ⟨some 23, .call 28 [.v 22], none, []⟩, ⟨some 24, .not (.v 23), none, []⟩, ⟨some 25, .mv (.v 24), none, []⟩, ⟨some 26, .mv (.v 3), some (25, false), []⟩, ⟨some 27, .bin .gtr (.v 26) (.c (.int .i64 0)), some (25, false), []⟩, ⟨some 28, .mv (.v 27), some (25, false), []⟩, ⟨some 29, .mv (.v 0), some (28, true), []⟩, ⟨some 30, .mv (.v 3), some (28, true), []⟩, ⟨some 31, .binN .sub (.v 30) (.c (.int .i64 1)), some (28, true), []⟩, ⟨some 32, .iaddr 5 (.v 29) (.v 31), some (28, true), []⟩, ⟨some 33, .faddr 0 (.v 32), some (28, true), []⟩, ⟨some 34, .load1 (.v 33), some (28, true), []⟩, ⟨some 35, .faddr 0 (.v 4), some (28, true), []⟩, ⟨some 36, .load1 (.v 35), some (28, true), []⟩, ⟨some 37, .bin .geq (.v 34) (.v 36), some (28, true), []⟩, ⟨some 38, .pick (.v 28) (.v 37) (.c (.bool false)), some (25, false), []⟩, ⟨some 39, .pick (.v 25) (.c (.bool true)) (.v 38), none, []⟩, ⟨some 40, .mv (.v 39), none, []⟩, ⟨some 41, .faddr 1 (.v 4), some (40, false), []⟩, ⟨some 42, .load1 (.v 41), some (40, false), []⟩, ⟨some 43, .faddr 3 (.v 4), some (40, false), []⟩, ⟨some 44, .load1 (.v 43), some (40, false), []⟩, ⟨some 45, .call 48 [.v 42, .c (.int .i64 0), .v 44], some (40, false), []⟩, ⟨some 46, .not (.v 45), some (40, false), []⟩, ⟨some 47, .pick (.v 40) (.c (.bool true)) (.v 46), none, []⟩, ⟨some 48, .mv (.v 47), none, []⟩, ⟨some 49, .faddr 3 (.v 4), some (48, false), []⟩, ⟨some 50, .load1 (.v 49), some (48, false), []⟩, ⟨some 51, .bin .geq (.v 50) (.c (.int .i64 16)), some (48, false), []⟩, ⟨some 52, .pick (.v 48) (.c (.bool true)) (.v 51), none, []⟩, ⟨some 53, .mv (.v 52), none, []⟩, ⟨some 54, .faddr 2 (.v 4), some (53, false), []⟩, ⟨some 55, .load1 (.v 54), some (53, false), []⟩, ⟨some 56, .faddr 4 (.v 4), some (53, false), []⟩, ⟨some 57, .load1 (.v 56), some (53, false), []⟩, ⟨some 58, .call 48 [.v 55, .c (.int .i64 0), .v 57], some (53, false), []⟩, ⟨some 59, .not (.v 58), some (53, false), []⟩, ⟨some 60, .pick (.v 53) (.c (.bool true)) (.v 59), none, []⟩, ⟨some 61, .mv (.v 60), none, []⟩, ⟨some 62, .faddr 4 (.v 4), some (61, false), []⟩, ⟨some 63, .load1 (.v 62), some (61, false), []⟩, ⟨some 64, .bin .geq (.v 63) (.c (.int .i64 16)), some (61, false), []⟩, ⟨some 65, .pick (.v 61) (.c (.bool true)) (.v 64), none, []⟩] [0, 3, 4, 65] [none, none, none, none, none, none, none, none, none, none, none, none, none, none, none, none, none, none, none, none, none, none, none, none, none, none, none, none, none, none, none, none, none, none, none, none, none, none, none, none, none, none, none, none, none]) (.cond (.v 65) (.seq (.rg [⟨some 2, .mv (.c (.bool false)), none, []⟩] [2]) .ret) .skip)) (.seq (.rg [⟨some 5, .mv (.c (.int .i64 0)), none, []⟩] [0, 3, 4, 5]) (.block 2 (.loop l_spec_HandZonesOk_0)))))) (.rg [⟨some 15, .mv (.v 3), none, [3]⟩, ⟨some 16, .binN .add (.v 15) (.c (.int .i64 1)), none, [15]⟩, ⟨some 3, .mv (.v 16), none, [16]⟩] [0, 3])))
/-- spec.HandZonesOk: function 45 -/
def s_spec_HandZonesOk : SFun := { n := 101, res := [.t 2], body := (.seq (.rg [⟨some 2, .mv (.c (.bool false)), none, [2]⟩] [0]) (.seq (.seq (.rg [⟨some 7, .mv (.v 0), none, []⟩, ⟨some 8, .lenL (.v 7), none, [7]⟩, ⟨some 9, .call 48 [.v 8, .c (.int .i64 1), .c (.int .i64 4)], none, [8]⟩, ⟨some 10, .not (.v 9), none, [9]⟩] [0, 10]) (.cond (.v 10) (.seq (.rg [⟨some 2, .mv (.c (.bool false)), none, []⟩] [2]) .ret) .skip)) (.seq (.seq (.rg [⟨some 3, .mv (.c (.int .i64 0)), none, []⟩] [0, 3]) (.block 0 (.loop l_spec_HandZonesOk_1))) (.seq (.rg [⟨some 2, .mv (.c (.bool true)), none, []⟩] [2]) .ret)))) }
theorem k_spec_HandZonesOk : okFun Go.Proofs.Try.prog 45 s_spec_HandZonesOk = true := by kernel_rfl
/-- spec.l31In: function 48 -/
def s_spec_l31In : SFun := { n := 15, res := [.t 6], body := (.seq (.rg [⟨some 6, .mv (.c (.bool false)), none, [6]⟩] [0, 1, 2]) (.seq (.rg [⟨some 7, .mv (.v 0), none, []⟩, ⟨some 8, .mv (.v 1), none, [1]⟩, ⟨some 9, .bin .geq (.v 7) (.v 8), none, [7, 8]⟩, ⟨some 10, .mv (.v 9), none, [9]⟩, ⟨some 11, .mv (.v 0), some (10, true), [0]⟩, ⟨some 12, .mv (.v 2), some (10, true), [2]⟩, ⟨some 13, .bin .leq (.v 11) (.v 12), some (10, true), [11, 12]⟩, ⟨some 14, .pick (.v 10) (.v 13) (.c (.bool false)), none, [10, 13]⟩, ⟨some 6, .mv (.v 14), none, [14]⟩] [6]) .ret)) }
theorem k_spec_l31In : okFun Go.Proofs.Try.prog 48 s_spec_l31In = true := by kernel_rfl
def l_laws_eqHandOwnS_0 : SCode := (.seq (.seq (.rg [⟨some 11, .mv (.v 5), none, []⟩, ⟨some 12, .mv (.v 0), none, []⟩, ⟨some 13, .lenL (.v 12), none, [12]⟩, ⟨some 14, .bin .lss (.v 11) (.v 13), none, [11, 13]⟩] [0, 1, 5, 14]) (.cond (.v 14) .skip (.exit 0))) (.seq (.block 1 (.seq (.rgd [⟨some 17, .mv (.v 0), none, []⟩, ⟨some 18, .mv (.v 5), none, []⟩, ⟨some 19, .iaddr 11 (.v 17) (.v 18), none, []⟩, ⟨some 20, .loadN 11 (.v 19), none, []⟩, ⟨some 21, .mv (.v 1), none, []⟩, ⟨some 22, .mv (.v 5), none, []⟩, ⟨some 23, .iaddr 11 (.v 21) (.v 22), none, []⟩, ⟨some 24, .loadN 11 (.v 23), none, []⟩, ⟨some 25, .call 103 [.v 20, .v 24], none, []⟩, ⟨some 26, .not (.v 25), none, []⟩] [0, 1, 5, 26] [none, none, none, none, none, none, none, none, none, none]) (.cond (.v 26) (.seq (.rg [⟨some 4, .mv (.c (.bool false)), none, []⟩] [4]) .ret) .skip))) (.rg [⟨some 15, .mv (.v 5), none, [5]⟩, ⟨some 16, .binN .add (.v 15) (.c (.int .i64 1)), none, [15]⟩, ⟨some 5, .mv (.v 16), none, [16]⟩] [0, 1, 5])))
/-- laws.eqHandOwnS: function 53 -/
def s_laws_eqHandOwnS : SFun := { n := 27, res := [.t 4], body := (.seq (.rg [⟨some 4, .mv (.c (.bool false)), none, [4]⟩] [0, 1]) (.seq (.seq (.rg [⟨some 6, .mv (.v 0), none, []⟩, ⟨some 7, .lenL (.v 6), none, [6]⟩, ⟨some 8, .mv (.v 1), none, []⟩, ⟨some 9, .lenL (.v 8), none, [8]⟩, ⟨some 10, .bin .neq (.v 7) (.v 9), none, [7, 9]⟩] [0, 1, 10]) (.cond (.v 10) (.seq (.rg [⟨some 4, .mv (.c (.bool false)), none, []⟩] [4]) .ret) .skip)) (.seq (.seq (.rg [⟨some 5, .mv (.c (.int .i64 0)), none, []⟩] [0, 1, 5]) (.block 0 (.loop l_laws_eqHandOwnS_0))) (.seq (.rg [⟨some 4, .mv (.c (.bool true)), none, []⟩] [4]) .ret)))) }
theorem k_laws_eqHandOwnS : okFun Go.Proofs.Try.prog 53 s_laws_eqHandOwnS = true := by kernel_rfl
end Go.Ve

namespace Go.Ve
open Go.Proofs
set_option maxRecDepth 100000
def l_laws_eqHandPartS_0 : SCode := (.seq (.seq (.rg [⟨some 11, .mv (.v 5), none, []⟩, ⟨some 12, .mv (.v 0), none, []⟩, ⟨some 13, .lenL (.v 12), none, [12]⟩, ⟨some 14, .bin .lss (.v 11) (.v 13), none, [11, 13]⟩] [0, 1, 5, 14]) (.cond (.v 14) .skip (.exit 0))) (.seq (.block 1 (.seq (.rgd [⟨some 17, .mv (.v 0), none, []⟩, ⟨some 18, .mv (.v 5), none, []⟩, ⟨some 19, .iaddr 3 (.v 17) (.v 18), none, []⟩, ⟨some 20, .loadN 3 (.v 19), none, []⟩, ⟨some 21, .mv (.v 1), none, []⟩, ⟨some 22, .mv (.v 5), none, []⟩, ⟨some 23, .iaddr 3 (.v 21) (.v 22), none, []⟩, ⟨some 24, .loadN 3 (.v 23), none, []⟩, ⟨some 25, .call 104 [.v 20, .v 24], none, []⟩, ⟨some 26, .not (.v 25), none, []⟩] [0, 1, 5, 26] [none, none, none, none, none, none, none, none, none, none]) (.cond (.v 26) (.seq (.rg [⟨some 4, .mv (.c (.bool false)), none, []⟩] [4]) .ret) .skip))) (.rg [⟨some 15, .mv (.v 5), none, [5]⟩, ⟨some 16, .binN .add (.v 15) (.c (.int .i64 1)), none, [15]⟩, ⟨some 5, .mv (.v 16), none, [16]⟩] [0, 1, 5])))
/-- laws.eqHandPartS: function 54 -/
def s_laws_eqHandPartS : SFun := { n := 27, res := [.t 4], body := (.seq (.rg [⟨some 4, .mv (.c (.bool false)), none, [4]⟩] [0, 1]) (.seq (.seq (.rg [⟨some 6, .mv (.v 0), none, []⟩, ⟨some 7, .lenL (.v 6), none, [6]⟩, ⟨some 8, .mv (.v 1), none, []⟩, ⟨some 9, .lenL (.v 8), none, [8]⟩, ⟨some 10, .bin .neq (.v 7) (.v 9), none, [7, 9]⟩] [0, 1, 10]) (.cond (.v 10) (.seq (.rg [⟨some 4, .mv (.c (.bool false)), none, []⟩] [4]) .ret) .skip)) (.seq (.seq (.rg [⟨some 5, .mv (.c (.int .i64 0)), none, []⟩] [0, 1, 5]) (.block 0 (.loop l_laws_eqHandPartS_0))) (.seq (.rg [⟨some 4, .mv (.c (.bool true)), none, []⟩] [4]) .ret)))) }
theorem k_laws_eqHandPartS : okFun Go.Proofs.Try.prog 54 s_laws_eqHandPartS = true := by kernel_rfl
def l_laws_eqHandSeenS_0 : SCode := (.seq (.seq (.rg [⟨some 11, .mv (.v 5), none, []⟩, ⟨some 12, .mv (.v 0), none, []⟩, ⟨some 13, .lenL (.v 12), none, [12]⟩, ⟨some 14, .bin .lss (.v 11) (.v 13), none, [11, 13]⟩] [0, 1, 5, 14]) (.cond (.v 14) .skip (.exit 0))) (.seq (.block 1 (.seq (.rgd [⟨some 17, .mv (.v 0), none, []⟩, ⟨some 18, .mv (.v 5), none, []⟩, ⟨some 19, .iaddr 2 (.v 17) (.v 18), none, []⟩, ⟨some 20, .loadN 2 (.v 19), none, []⟩, ⟨some 21, .mv (.v 1), none, []⟩, ⟨some 22, .mv (.v 5), none, []⟩, ⟨some 23, .iaddr 2 (.v 21) (.v 22), none, []⟩, ⟨some 24, .loadN 2 (.v 23), none, []⟩, ⟨some 25, .call 105 [.v 20, .v 24], none, []⟩, ⟨some 26, .not (.v 25), none, []⟩] [0, 1, 5, 26] [none, none, none, none, none, none, none, none, none, none]) (.cond (.v 26) (.seq (.rg [⟨some 4, .mv (.c (.bool false)), none, []⟩] [4]) .ret) .skip))) (.rg [⟨some 15, .mv (.v 5), none, [5]⟩, ⟨some 16, .binN .add (.v 15) (.c (.int .i64 1)), none, [15]⟩, ⟨some 5, .mv (.v 16), none, [16]⟩] [0, 1, 5])))
/-- laws.eqHandSeenS: function 55 -/
def s_laws_eqHandSeenS : SFun := { n := 27, res := [.t 4], body := (.seq (.rg [⟨some 4, .mv (.c (.bool false)), none, [4]⟩] [0, 1]) (.seq (.seq (.rg [⟨some 6, .mv (.v 0), none, []⟩, ⟨some 7, .lenL (.v 6), none, [6]⟩, ⟨some 8, .mv (.v 1), none, []⟩, ⟨some 9, .lenL (.v 8), none, [8]⟩, ⟨some 10, .bin .neq (.v 7) (.v 9), none, [7, 9]⟩] [0, 1, 10]) (.cond (.v 10) (.seq (.rg [⟨some 4, .mv (.c (.bool false)), none, []⟩] [4]) .ret) .skip)) (.seq (.seq (.rg [⟨some 5, .mv (.c (.int .i64 0)), none, []⟩] [0, 1, 5]) (.block 0 (.loop l_laws_eqHandSeenS_0))) (.seq (.rg [⟨some 4, .mv (.c (.bool true)), none, []⟩] [4]) .ret)))) }
theorem k_laws_eqHandSeenS : okFun Go.Proofs.Try.prog 55 s_laws_eqHandSeenS = true := by kernel_rfl
def l_laws_eqHandSectorS_0 : SCode := (.seq (.seq (.rg [⟨some 11, .mv (.v 5), none, []⟩, ⟨some 12, .mv (.v 0), none, []⟩, ⟨some 13, .lenL (.v 12), none, [12]⟩, ⟨some 14, .bin .lss (.v 11) (.v 13), none, [11, 13]⟩] [0, 1, 5, 14]) (.cond (.v 14) .skip (.exit 0))) (.seq (.block 1 (.seq (.rgd [⟨some 17, .mv (.v 0), none, []⟩, ⟨some 18, .mv (.v 5), none, []⟩, ⟨some 19, .iaddr 8 (.v 17) (.v 18), none, []⟩, ⟨some 20, .loadN 8 (.v 19), none, []⟩, ⟨some 21, .mv (.v 1), none, []⟩, ⟨some 22, .mv (.v 5), none, []⟩, ⟨some 23, .iaddr 8 (.v 21) (.v 22), none, []⟩, ⟨some 24, .loadN 8 (.v 23), none, []⟩, ⟨some 25, .call 106 [.v 20, .v 24], none, []⟩, ⟨some 26, .not (.v 25), none, []⟩] [0, 1, 5, 26] [none, none, none, none, none, none, none, none, none, none]) (.cond (.v 26) (.seq (.rg [⟨some 4, .mv (.c (.bool false)), none, []⟩] [4]) .ret) .skip))) (.rg [⟨some 15, .mv (.v 5), none, [5]⟩, ⟨some 16, .binN .add (.v 15) (.c (.int .i64 1)), none, [15]⟩, ⟨some 5, .mv (.v 16), none, [16]⟩] [0, 1, 5])))
/-- laws.eqHandSectorS: function 56 -/
def s_laws_eqHandSectorS : SFun := { n := 27, res := [.t 4], body := (.seq (.rg [⟨some 4, .mv (.c (.bool false)), none, [4]⟩] [0, 1]) (.seq (.seq (.rg [⟨some 6, .mv (.v 0), none, []⟩, ⟨some 7, .lenL (.v 6), none, [6]⟩, ⟨some 8, .mv (.v 1), none, []⟩, ⟨some 9, .lenL (.v 8), none, [8]⟩, ⟨some 10, .bin .neq (.v 7) (.v 9), none, [7, 9]⟩] [0, 1, 10]) (.cond (.v 10) (.seq (.rg [⟨some 4, .mv (.c (.bool false)), none, []⟩] [4]) .ret) .skip)) (.seq (.seq (.rg [⟨some 5, .mv (.c (.int .i64 0)), none, []⟩] [0, 1, 5]) (.block 0 (.loop l_laws_eqHandSectorS_0))) (.seq (.rg [⟨some 4, .mv (.c (.bool true)), none, []⟩] [4]) .ret)))) }
theorem k_laws_eqHandSectorS : okFun Go.Proofs.Try.prog 56 s_laws_eqHandSectorS = true := by kernel_rfl
def l_laws_eqHandCraftS_0 : SCode := (.seq (.seq (.rg [⟨some 11, .mv (.v 5), none, []⟩, ⟨some 12, .mv (.v 0), none, []⟩, ⟨some 13, .lenL (.v 12), none, [12]⟩, ⟨some 14, .bin .lss (.v 11) (.v 13), none, [11, 13]⟩] [0, 1, 5, 14]) (.cond (.v 14) .skip (.exit 0))) (.seq (.block 1 (.seq (.rgd [⟨some 17, .mv (.v 0), none, []⟩, ⟨some 18, .mv (.v 5), none, []⟩, ⟨some 19, .iaddr 4 (.v 17) (.v 18), none, []⟩, ⟨some 20, .loadN 4 (.v 19), none, []⟩, ⟨some 21, .mv (.v 1), none, []⟩, ⟨some 22, .mv (.v 5), none, []⟩, ⟨some 23, .iaddr 4 (.v 21) (.v 22), none, []⟩, ⟨some 24, .loadN 4 (.v 23), none, []⟩, ⟨some 25, .call 107 [.v 20, .v 24], none, []⟩, ⟨some 26, .not (.v 25), none, []⟩] [0, 1, 5, 26] [none, none, none, none, none, none, none, none, none, none]) (.cond (.v 26) (.seq (.rg [⟨some 4, .mv (.c (.bool false)), none, []⟩] [4]) .ret) .skip))) (.rg [⟨some 15, .mv (.v 5), none, [5]⟩, ⟨some 16, .binN .add (.v 15) (.c (.int .i64 1)), none, [15]⟩, ⟨some 5, .mv (.v 16), none, [16]⟩] [0, 1, 5])))
/-- laws.eqHandCraftS: function 57 -/
def s_laws_eqHandCraftS : SFun := { n := 27, res := [.t 4], body := (.seq (.rg [⟨some 4, .mv (.c (.bool false)), none, [4]⟩] [0, 1]) (.seq (.seq (.rg [⟨some 6, .mv (.v 0), none, []⟩, ⟨some 7, .lenL (.v 6), none, [6]⟩, ⟨some 8, .mv (.v 1), none, []⟩, ⟨some 9, .lenL (.v 8), none, [8]⟩, ⟨some 10, .bin .neq (.v 7) (.v 9), none, [7, 9]⟩] [0, 1, 10]) (.cond (.v 10) (.seq (.rg [⟨some 4, .mv (.c (.bool false)), none, []⟩] [4]) .ret) .skip)) (.seq (.seq (.rg [⟨some 5, .mv (.c (.int .i64 0)), none, []⟩] [0, 1, 5]) (.block 0 (.loop l_laws_eqHandCraftS_0))) (.seq (.rg [⟨some 4, .mv (.c (.bool true)), none, []⟩] [4]) .ret)))) }
theorem k_laws_eqHandCraftS : okFun Go.Proofs.Try.prog 57 s_laws_eqHandCraftS = true := by kernel_rfl
def l_laws_eqHandWordS_0 : SCode := (.seq (.seq (.rg [⟨some 11, .mv (.v 5), none, []⟩, ⟨some 12, .mv (.v 0), none, []⟩, ⟨some 13, .lenL (.v 12), none, [12]⟩, ⟨some 14, .bin .lss (.v 11) (.v 13), none, [11, 13]⟩] [0, 1, 5, 14]) (.cond (.v 14) .skip (.exit 0))) (.seq (.block 1 (.seq (.rgd [⟨some 17, .mv (.v 0), none, []⟩, ⟨some 18, .mv (.v 5), none, []⟩, ⟨some 19, .iaddr 8 (.v 17) (.v 18), none, []⟩, ⟨some 20, .loadN 8 (.v 19), none, []⟩, ⟨some 21, .mv (.v 1), none, []⟩, ⟨some 22, .mv (.v 5), none, []⟩, ⟨some 23, .iaddr 8 (.v 21) (.v 22), none, []⟩, ⟨some 24, .loadN 8 (.v 23), none, []⟩, ⟨some 25, .call 108 [.v 20, .v 24], none, []⟩, ⟨some 26, .not (.v 25), none, []⟩] [0, 1, 5, 26] [none, none, none, none, none, none, none, none, none, none]) (.cond (.v 26) (.seq (.rg [⟨some 4, .mv (.c (.bool false)), none, []⟩] [4]) .ret) .skip))) (.rg [⟨some 15, .mv (.v 5), none, [5]⟩, ⟨some 16, .binN .add (.v 15) (.c (.int .i64 1)), none, [15]⟩, ⟨some 5, .mv (.v 16), none, [16]⟩] [0, 1, 5])))
/-- laws.eqHandWordS: function 58 -/
def s_laws_eqHandWordS : SFun := { n := 27, res := [.t 4], body := (.seq (.rg [⟨some 4, .mv (.c (.bool false)), none, [4]⟩] [0, 1]) (.seq (.seq (.rg [⟨some 6, .mv (.v 0), none, []⟩, ⟨some 7, .lenL (.v 6), none, [6]⟩, ⟨some 8, .mv (.v 1), none, []⟩, ⟨some 9, .lenL (.v 8), none, [8]⟩, ⟨some 10, .bin .neq (.v 7) (.v 9), none, [7, 9]⟩] [0, 1, 10]) (.cond (.v 10) (.seq (.rg [⟨some 4, .mv (.c (.bool false)), none, []⟩] [4]) .ret) .skip)) (.seq (.seq (.rg [⟨some 5, .mv (.c (.int .i64 0)), none, []⟩] [0, 1, 5]) (.block 0 (.loop l_laws_eqHandWordS_0))) (.seq (.rg [⟨some 4, .mv (.c (.bool true)), none, []⟩] [4]) .ret)))) }
theorem k_laws_eqHandWordS : okFun Go.Proofs.Try.prog 58 s_laws_eqHandWordS = true := by kernel_rfl
def l_laws_markText_0 : SCode := (.seq (.seq (.rg [⟨some 6, .mv (.v 0), none, []⟩, ⟨some 7, .bin .gtr (.v 6) (.c (.int .i64 0)), none, [6]⟩] [0, 3, 7]) (.cond (.v 7) .skip (.exit 0))) (.block 1 (.seq (.rg [⟨some 8, .mv (.v 0), none, []⟩, ⟨some 9, .binN .rem (.v 8) (.c (.int .i64 10)), none, [8]⟩, ⟨some 10, .binN .add (.c (.int .i64 48)) (.v 9), none, [9]⟩, ⟨some 11, .conv .u8 (.v 10), none, [10]⟩, ⟨some 12, .lit 5 1 [.v 11], none, [11]⟩, ⟨some 13, .b2s (.v 12), none, [12]⟩, ⟨some 14, .mv (.v 3), none, [3]⟩, ⟨some 15, .bin .add (.v 13) (.v 14), none, [13, 14]⟩, ⟨some 3, .mv (.v 15), none, [15]⟩] [0, 3]) (.rg [⟨some 16, .mv (.v 0), none, [0]⟩, ⟨some 17, .binN .quo (.v 16) (.c (.int .i64 10)), none, [16]⟩, ⟨some 0, .mv (.v 17), none, [17]⟩] [0, 3]))))
/-- laws.markText: function 59 -/
def s_laws_markText : SFun := { n := 20, res := [.t 2], body := (.seq (.rg [⟨some 2, .mv (.c (.str ⟨#[]⟩)), none, [2]⟩] [0]) (.seq (.seq (.rg [⟨some 4, .mv (.v 0), none, []⟩, ⟨some 5, .bin .leq (.v 4) (.c (.int .i64 0)), none, [4]⟩] [0, 5]) (.cond (.v 5) (.seq (.rg [⟨some 2, .mv (.c (.str ⟨#[109, 48]⟩)), none, []⟩] [2]) .ret) .skip)) (.seq (.rg [⟨some 3, .mv (.c (.str ⟨#[]⟩)), none, []⟩] [0, 3]) (.seq (.block 0 (.loop l_laws_markText_0)) (.seq (.rg [⟨some 18, .mv (.v 3), none, [3]⟩, ⟨some 19, .bin .add (.c (.str ⟨#[109]⟩)) (.v 18), none, [18]⟩, ⟨some 2, .mv (.v 19), none, [19]⟩] [2]) .ret))))) }
theorem k_laws_markText : okFun Go.Proofs.Try.prog 59 s_laws_markText = true := by kernel_rfl
def l_laws_markHandSectorS_0 : SCode := (.seq (.seq (.rg [⟨some 6, .mv (.v 5), none, []⟩, ⟨some 7, .mv (.v 0), none, []⟩, ⟨some 8, .lenL (.v 7), none, [7]⟩, ⟨some 9, .bin .lss (.v 6) (.v 8), none, [6, 8]⟩] [0, 1, 5, 9]) (.cond (.v 9) .skip (.exit 0))) (.seq (.block 1 (.seq (.rg [⟨some 12, .mv (.v 0), none, []⟩, ⟨some 13, .mv (.v 5), none, []⟩, ⟨some 14, .mv (.v 1), none, []⟩, ⟨some 15, .binN .rem (.v 14) (.c (.int .i64 3)), none, [14]⟩, ⟨some 16, .bin .eql (.v 15) (.c (.int .i64 0)), none, [15]⟩, ⟨some 17, .iaddr 8 (.v 12) (.v 13), none, [12, 13]⟩, ⟨some 18, .faddr 0 (.v 17), none, [17]⟩, ⟨none, .store 1 (.v 18) (.v 16), none, [16, 18]⟩] [0, 1, 5]) (.seq (.rg [⟨some 19, .mv (.v 1), none, [1]⟩, ⟨some 20, .binN .add (.v 19) (.c (.int .i64 1)), none, [19]⟩, ⟨some 1, .mv (.v 20), none, [20]⟩] [0, 1, 5]) (.seq (.rg [⟨some 21, .mv (.v 0), none, []⟩, ⟨some 22, .mv (.v 5), none, []⟩, ⟨some 23, .iaddr 8 (.v 21) (.v 22), none, [21, 22]⟩, ⟨some 24, .faddr 1 (.v 23), none, [23]⟩, ⟨some 25, .faddr 0 (.v 24), none, [24]⟩, ⟨some 26, .load1 (.v 25), none, [25]⟩, ⟨some 27, .mv (.v 1), none, [1]⟩, ⟨some 28, .call 109 [.v 26, .v 27], none, [26, 27]⟩, ⟨some 1, .mv (.v 28), none, [28]⟩] [0, 1, 5]) (.seq (.rg [⟨some 29, .mv (.v 0), none, []⟩, ⟨some 30, .mv (.v 5), none, []⟩, ⟨some 31, .iaddr 8 (.v 29) (.v 30), none, [29, 30]⟩, ⟨some 32, .faddr 1 (.v 31), none, [31]⟩, ⟨some 33, .faddr 1 (.v 32), none, [32]⟩, ⟨some 34, .load1 (.v 33), none, [33]⟩, ⟨some 35, .mv (.v 1), none, [1]⟩, ⟨some 36, .call 110 [.v 34, .v 35], none, [34, 35]⟩, ⟨some 1, .mv (.v 36), none, [36]⟩] [0, 1, 5]) (.seq (.rg [⟨some 37, .mv (.v 0), none, []⟩, ⟨some 38, .mv (.v 5), none, []⟩, ⟨some 39, .iaddr 8 (.v 37) (.v 38), none, [37, 38]⟩, ⟨some 40, .faddr 1 (.v 39), none, [39]⟩, ⟨some 41, .faddr 2 (.v 40), none, [40]⟩, ⟨some 42, .load1 (.v 41), none, [41]⟩, ⟨some 43, .mv (.v 1), none, [1]⟩, ⟨some 44, .call 111 [.v 42, .v 43], none, [42, 43]⟩, ⟨some 1, .mv (.v 44), none, [44]⟩] [0, 1, 5]) (.seq (.rg [⟨some 45, .mv (.v 0), none, []⟩, ⟨some 46, .mv (.v 5), none, []⟩, ⟨some 47, .iaddr 8 (.v 45) (.v 46), none, [45, 46]⟩, ⟨some 48, .faddr 4 (.v 47), none, [47]⟩, ⟨some 49, .faddr 0 (.v 48), none, [48]⟩, ⟨some 50, .load1 (.v 49), none, [49]⟩, ⟨some 51, .mv (.v 1), none, [1]⟩, ⟨some 52, .call 109 [.v 50, .v 51], none, [50, 51]⟩, ⟨some 1, .mv (.v 52), none, [52]⟩] [0, 1, 5]) (.seq (.rg [⟨some 53, .mv (.v 0), none, []⟩, ⟨some 54, .mv (.v 5), none, []⟩, ⟨some 55, .iaddr 8 (.v 53) (.v 54), none, [53, 54]⟩, ⟨some 56, .faddr 4 (.v 55), none, [55]⟩, ⟨some 57, .faddr 1 (.v 56), none, [56]⟩, ⟨some 58, .load1 (.v 57), none, [57]⟩, ⟨some 59, .mv (.v 1), none, [1]⟩, ⟨some 60, .call 110 [.v 58, .v 59], none, [58, 59]⟩, ⟨some 1, .mv (.v 60), none, [60]⟩] [0, 1, 5]) (.seq (.rg [⟨some 61, .mv (.v 0), none, []⟩, ⟨some 62, .mv (.v 5), none, []⟩, ⟨some 63, .iaddr 8 (.v 61) (.v 62), none, [61, 62]⟩, ⟨some 64, .faddr 4 (.v 63), none, [63]⟩, ⟨some 65, .faddr 2 (.v 64), none, [64]⟩, ⟨some 66, .load1 (.v 65), none, [65]⟩, ⟨some 67, .mv (.v 1), none, [1]⟩, ⟨some 68, .call 111 [.v 66, .v 67], none, [66, 67]⟩, ⟨some 1, .mv (.v 68), none, [68]⟩] [0, 1, 5]) (.rg [⟨some 69, .mv (.v 0), none, []⟩, ⟨some 70, .mv (.v 5), none, []⟩, ⟨some 71, .iaddr 8 (.v 69) (.v 70), none, [69, 70]⟩, ⟨some 72, .faddr 7 (.v 71), none, [71]⟩, ⟨some 73, .load1 (.v 72), none, [72]⟩, ⟨some 74, .mv (.v 1), none, [1]⟩, ⟨some 75, .call 62 [.v 73, .v 74], none, [73, 74]⟩, ⟨some 1, .mv (.v 75), none, [75]⟩] [0, 1, 5])))))))))) (.rg [⟨some 10, .mv (.v 5), none, [5]⟩, ⟨some 11, .binN .add (.v 10) (.c (.int .i64 1)), none, [10]⟩, ⟨some 5, .mv (.v 11), none, [11]⟩] [0, 1, 5])))
/-- laws.markHandSectorS: function 60 -/
def s_laws_markHandSectorS : SFun := { n := 77, res := [.t 4], body := (.seq (.rg [⟨some 4, .mv (.c (.int .i64 0)), none, [4]⟩] [0, 1]) (.seq (.seq (.rg [⟨some 5, .mv (.c (.int .i64 0)), none, []⟩] [0, 1, 5]) (.block 0 (.loop l_laws_markHandSectorS_0))) (.seq (.rg [⟨some 76, .mv (.v 1), none, [1]⟩, ⟨some 4, .mv (.v 76), none, [76]⟩] [4]) .ret))) }
theorem k_laws_markHandSectorS : okFun Go.Proofs.Try.prog 60 s_laws_markHandSectorS = true := by kernel_rfl
def l_laws_markHandCraftS_0 : SCode := (.seq (.seq (.rg [⟨some 6, .mv (.v 5), none, []⟩, ⟨some 7, .mv (.v 0), none, []⟩, ⟨some 8, .lenL (.v 7), none, [7]⟩, ⟨some 9, .bin .lss (.v 6) (.v 8), none, [6, 8]⟩] [0, 1, 5, 9]) (.cond (.v 9) .skip (.exit 0))) (.seq (.block 1 (.seq (.rg [⟨some 12, .mv (.v 0), none, []⟩, ⟨some 13, .mv (.v 5), none, []⟩, ⟨some 14, .mv (.v 1), none, []⟩, ⟨some 15, .call 59 [.v 14], none, [14]⟩, ⟨some 16, .iaddr 4 (.v 12) (.v 13), none, [12, 13]⟩, ⟨some 17, .faddr 0 (.v 16), none, [16]⟩, ⟨none, .store 1 (.v 17) (.v 15), none, [15, 17]⟩] [0, 1, 5]) (.seq (.rg [⟨some 18, .mv (.v 1), none, [1]⟩, ⟨some 19, .binN .add (.v 18) (.c (.int .i64 1)), none, [18]⟩, ⟨some 1, .mv (.v 19), none, [19]⟩] [0, 1, 5]) (.seq (.rg [⟨some 20, .mv (.v 0), none, []⟩, ⟨some 21, .mv (.v 5), none, []⟩, ⟨some 22, .mv (.v 1), none, []⟩, ⟨some 23, .iaddr 4 (.v 20) (.v 21), none, [20, 21]⟩, ⟨some 24, .faddr 1 (.v 23), none, [23]⟩, ⟨none, .store 1 (.v 24) (.v 22), none, [22, 24]⟩] [0, 1, 5]) (.seq (.rg [⟨some 25, .mv (.v 1), none, [1]⟩, ⟨some 26, .binN .add (.v 25) (.c (.int .i64 1)), none, [25]⟩, ⟨some 1, .mv (.v 26), none, [26]⟩] [0, 1, 5]) (.seq (.rg [⟨some 27, .mv (.v 0), none, []⟩, ⟨some 28, .mv (.v 5), none, []⟩, ⟨some 29, .mv (.v 1), none, []⟩, ⟨some 30, .iaddr 4 (.v 27) (.v 28), none, [27, 28]⟩, ⟨some 31, .faddr 2 (.v 30), none, [30]⟩, ⟨none, .store 1 (.v 31) (.v 29), none, [29, 31]⟩] [0, 1, 5]) (.seq (.rg [⟨some 32, .mv (.v 1), none, [1]⟩, ⟨some 33, .binN .add (.v 32) (.c (.int .i64 1)), none, [32]⟩, ⟨some 1, .mv (.v 33), none, [33]⟩] [0, 1, 5]) (.rg [⟨some 34, .mv (.v 0), none, []⟩, ⟨some 35, .mv (.v 5), none, []⟩, ⟨some 36, .iaddr 4 (.v 34) (.v 35), none, [34, 35]⟩, ⟨some 37, .faddr 3 (.v 36), none, [36]⟩, ⟨some 38, .load1 (.v 37), none, [37]⟩, ⟨some 39, .mv (.v 1), none, [1]⟩, ⟨some 40, .call 112 [.v 38, .v 39], none, [38, 39]⟩, ⟨some 1, .mv (.v 40), none, [40]⟩] [0, 1, 5])))))))) (.rg [⟨some 10, .mv (.v 5), none, [5]⟩, ⟨some 11, .binN .add (.v 10) (.c (.int .i64 1)), none, [10]⟩, ⟨some 5, .mv (.v 11), none, [11]⟩] [0, 1, 5])))
/-- laws.markHandCraftS: function 61 -/
def s_laws_markHandCraftS : SFun := { n := 42, res := [.t 4], body := (.seq (.rg [⟨some 4, .mv (.c (.int .i64 0)), none, [4]⟩] [0, 1]) (.seq (.seq (.rg [⟨some 5, .mv (.c (.int .i64 0)), none, []⟩] [0, 1, 5]) (.block 0 (.loop l_laws_markHandCraftS_0))) (.seq (.rg [⟨some 41, .mv (.v 1), none, [1]⟩, ⟨some 4, .mv (.v 41), none, [41]⟩] [4]) .ret))) }
theorem k_laws_markHandCraftS : okFun Go.Proofs.Try.prog 61 s_laws_markHandCraftS = true := by kernel_rfl
def l_laws_markHandWordS_0 : SCode := (.seq (.seq (.rg [⟨some 6, .mv (.v 5), none, []⟩, ⟨some 7, .mv (.v 0), none, []⟩, ⟨some 8, .lenL (.v 7), none, [7]⟩, ⟨some 9, .bin .lss (.v 6) (.v 8), none, [6, 8]⟩] [0, 1, 5, 9]) (.cond (.v 9) .skip (.exit 0))) (.seq (.block 1 (.seq (.rg [⟨some 12, .mv (.v 0), none, []⟩, ⟨some 13, .mv (.v 5), none, []⟩, ⟨some 14, .mv (.v 1), none, []⟩, ⟨some 15, .iaddr 8 (.v 12) (.v 13), none, [12, 13]⟩, ⟨some 16, .faddr 0 (.v 15), none, [15]⟩, ⟨none, .store 1 (.v 16) (.v 14), none, [14, 16]⟩] [0, 1, 5]) (.seq (.rg [⟨some 17, .mv (.v 1), none, [1]⟩, ⟨some 18, .binN .add (.v 17) (.c (.int .i64 1)), none, [17]⟩, ⟨some 1, .mv (.v 18), none, [18]⟩] [0, 1, 5]) (.seq (.rg [⟨some 19, .mv (.v 0), none, []⟩, ⟨some 20, .mv (.v 5), none, []⟩, ⟨some 21, .mv (.v 1), none, []⟩, ⟨some 22, .call 59 [.v 21], none, [21]⟩, ⟨some 23, .iaddr 8 (.v 19) (.v 20), none, [19, 20]⟩, ⟨some 24, .faddr 1 (.v 23), none, [23]⟩, ⟨none, .store 1 (.v 24) (.v 22), none, [22, 24]⟩] [0, 1, 5]) (.seq (.rg [⟨some 25, .mv (.v 1), none, [1]⟩, ⟨some 26, .binN .add (.v 25) (.c (.int .i64 1)), none, [25]⟩, ⟨some 1, .mv (.v 26), none, [26]⟩] [0, 1, 5]) (.seq (.rg [⟨some 27, .mv (.v 0), none, []⟩, ⟨some 28, .mv (.v 5), none, []⟩, ⟨some 29, .mv (.v 1), none, []⟩, ⟨some 30, .call 59 [.v 29], none, [29]⟩, ⟨some 31, .iaddr 8 (.v 27) (.v 28), none, [27, 28]⟩, ⟨some 32, .faddr 2 (.v 31), none, [31]⟩, ⟨none, .store 1 (.v 32) (.v 30), none, [30, 32]⟩] [0, 1, 5]) (.seq (.rg [⟨some 33, .mv (.v 1), none, [1]⟩, ⟨some 34, .binN .add (.v 33) (.c (.int .i64 1)), none, [33]⟩, ⟨some 1, .mv (.v 34), none, [34]⟩] [0, 1, 5]) (.seq (.rg [⟨some 35, .mv (.v 0), none, []⟩, ⟨some 36, .mv (.v 5), none, []⟩, ⟨some 37, .mv (.v 1), none, []⟩, ⟨some 38, .call 59 [.v 37], none, [37]⟩, ⟨some 39, .iaddr 8 (.v 35) (.v 36), none, [35, 36]⟩, ⟨some 40, .faddr 3 (.v 39), none, [39]⟩, ⟨none, .store 1 (.v 40) (.v 38), none, [38, 40]⟩] [0, 1, 5]) (.seq (.rg [⟨some 41, .mv (.v 1), none, [1]⟩, ⟨some 42, .binN .add (.v 41) (.c (.int .i64 1)), none, [41]⟩, ⟨some 1, .mv (.v 42), none, [42]⟩] [0, 1, 5]) (.seq (.rg [⟨some 43, .mv (.v 0), none, []⟩, ⟨some 44, .mv (.v 5), none, []⟩, ⟨some 45, .mv (.v 1), none, []⟩, ⟨some 46, .iaddr 8 (.v 43) (.v 44), none, [43, 44]⟩, ⟨some 47, .faddr 4 (.v 46), none, [46]⟩, ⟨none, .store 1 (.v 47) (.v 45), none, [45, 47]⟩] [0, 1, 5]) (.seq (.rg [⟨some 48, .mv (.v 1), none, [1]⟩, ⟨some 49, .binN .add (.v 48) (.c (.int .i64 1)), none, [48]⟩, ⟨some 1, .mv (.v 49), none, [49]⟩] [0, 1, 5]) (.seq (.rg [⟨some 50, .mv (.v 0), none, []⟩, ⟨some 51, .mv (.v 5), none, []⟩, ⟨some 52, .mv (.v 1), none, []⟩, ⟨some 53, .iaddr 8 (.v 50) (.v 51), none, [50, 51]⟩, ⟨some 54, .faddr 5 (.v 53), none, [53]⟩, ⟨none, .store 1 (.v 54) (.v 52), none, [52, 54]⟩] [0, 1, 5]) (.seq (.rg [⟨some 55, .mv (.v 1), none, [1]⟩, ⟨some 56, .binN .add (.v 55) (.c (.int .i64 1)), none, [55]⟩, ⟨some 1, .mv (.v 56), none, [56]⟩] [0, 1, 5]) (.seq (.rg [⟨some 57, .mv (.v 0), none, []⟩, ⟨some 58, .mv (.v 5), none, []⟩, ⟨some 59, .mv (.v 1), none, []⟩, ⟨some 60, .iaddr 8 (.v 57) (.v 58), none, [57, 58]⟩, ⟨some 61, .faddr 6 (.v 60), none, [60]⟩, ⟨none, .store 1 (.v 61) (.v 59), none, [59, 61]⟩] [0, 1, 5]) (.seq (.rg [⟨some 62, .mv (.v 1), none, [1]⟩, ⟨some 63, .binN .add (.v 62) (.c (.int .i64 1)), none, [62]⟩, ⟨some 1, .mv (.v 63), none, [63]⟩] [0, 1, 5]) (.rg [⟨some 64, .mv (.v 0), none, []⟩, ⟨some 65, .mv (.v 5), none, []⟩, ⟨some 66, .iaddr 8 (.v 64) (.v 65), none, [64, 65]⟩, ⟨some 67, .faddr 7 (.v 66), none, [66]⟩, ⟨some 68, .load1 (.v 67), none, [67]⟩, ⟨some 69, .mv (.v 1), none, [1]⟩, ⟨some 70, .call 112 [.v 68, .v 69], none, [68, 69]⟩, ⟨some 1, .mv (.v 70), none, [70]⟩] [0, 1, 5])))))))))))))))) (.rg [⟨some 10, .mv (.v 5), none, [5]⟩, ⟨some 11, .binN .add (.v 10) (.c (.int .i64 1)), none, [10]⟩, ⟨some 5, .mv (.v 11), none, [11]⟩] [0, 1, 5])))
/-- laws.markHandWordS: function 62 -/
def s_laws_markHandWordS : SFun := { n := 72, res := [.t 4], body := (.seq (.rg [⟨some 4, .mv (.c (.int .i64 0)), none, [4]⟩] [0, 1]) (.seq (.seq (.rg [⟨some 5, .mv (.c (.int .i64 0)), none, []⟩] [0, 1, 5]) (.block 0 (.loop l_laws_markHandWordS_0))) (.seq (.rg [⟨some 71, .mv (.v 1), none, [1]⟩, ⟨some 4, .mv (.v 71), none, [71]⟩] [4]) .ret))) }
theorem k_laws_markHandWordS : okFun Go.Proofs.Try.prog 62 s_laws_markHandWordS = true := by kernel_rfl
def l_laws_heldHandZoneS_0 : SCode := (.seq (.seq (.rg [⟨some 6, .mv (.v 5), none, []⟩, ⟨some 7, .mv (.v 0), none, []⟩, ⟨some 8, .lenL (.v 7), none, [7]⟩, ⟨some 9, .bin .lss (.v 6) (.v 8), none, [6, 8]⟩] [0, 1, 5, 9]) (.cond (.v 9) .skip (.exit 0))) (.seq (.block 1 (.seq (.seq (.rgd [⟨some 12, .mv (.v 0), none, []⟩, ⟨some 13, .mv (.v 5), none, []⟩, ⟨some 14, .iaddr 5 (.v 12) (.v 13), none, []⟩, ⟨some 15, .faddr 0 (.v 14), none, []⟩, ⟨some 16, .load1 (.v 15), none, []⟩, ⟨some 17, .mv (.v 1), none, []⟩, ⟨some 18, .call 59 [.v 17], none, []⟩, ⟨some 19, .bin .neq (.v 16) (.v 18), none, []⟩] [0, 1, 5, 19] [none, none, some [], some [], some [], none, some [3, 2, 1], none]) (.cond (.v 19) (.seq (.rg [⟨some 4, .mv (.c (.int .i64 (-1))), none, []⟩] [4]) .ret) .skip)) (.seq (.rg [⟨some 20, .mv (.v 1), none, [1]⟩, ⟨some 21, .binN .add (.v 20) (.c (.int .i64 1)), none, [20]⟩, ⟨some 1, .mv (.v 21), none, [21]⟩] [0, 1, 5]) (.seq (.seq (.rg [⟨some 22, .mv (.v 0), none, []⟩, ⟨some 23, .mv (.v 5), none, []⟩, ⟨some 24, .iaddr 5 (.v 22) (.v 23), none, [22, 23]⟩, ⟨some 25, .faddr 1 (.v 24), none, [24]⟩, ⟨some 26, .load1 (.v 25), none, [25]⟩, ⟨some 27, .mv (.v 1), none, []⟩, ⟨some 28, .bin .neq (.v 26) (.v 27), none, [26, 27]⟩] [0, 1, 5, 28]) (.cond (.v 28) (.seq (.rg [⟨some 4, .mv (.c (.int .i64 (-1))), none, []⟩] [4]) .ret) .skip)) (.seq (.rg [⟨some 29, .mv (.v 1), none, [1]⟩, ⟨some 30, .binN .add (.v 29) (.c (.int .i64 1)), none, [29]⟩, ⟨some 1, .mv (.v 30), none, [30]⟩] [0, 1, 5]) (.seq (.seq (.rg [⟨some 31, .mv (.v 0), none, []⟩, ⟨some 32, .mv (.v 5), none, []⟩, ⟨some 33, .iaddr 5 (.v 31) (.v 32), none, [31, 32]⟩, ⟨some 34, .faddr 2 (.v 33), none, [33]⟩, ⟨some 35, .load1 (.v 34), none, [34]⟩, ⟨some 36, .mv (.v 1), none, []⟩, ⟨some 37, .bin .neq (.v 35) (.v 36), none, [35, 36]⟩] [0, 1, 5, 37]) (.cond (.v 37) (.seq (.rg [⟨some 4, .mv (.c (.int .i64 (-1))), none, []⟩] [4]) .ret) .skip)) (.seq (.rg [⟨some 38, .mv (.v 1), none, [1]⟩, ⟨some 39, .binN .add (.v 38) (.c (.int .i64 1)), none, [38]⟩, ⟨some 1, .mv (.v 39), none, [39]⟩] [0, 1, 5]) (.seq (.seq (.rg [⟨some 40, .mv (.v 0), none, []⟩, ⟨some 41, .mv (.v 5), none, []⟩, ⟨some 42, .iaddr 5 (.v 40) (.v 41), none, [40, 41]⟩, ⟨some 43, .faddr 3 (.v 42), none, [42]⟩, ⟨some 44, .load1 (.v 43), none, [43]⟩, ⟨some 45, .mv (.v 1), none, []⟩, ⟨some 46, .bin .neq (.v 44) (.v 45), none, [44, 45]⟩] [0, 1, 5, 46]) (.cond (.v 46) (.seq (.rg [⟨some 4, .mv (.c (.int .i64 (-1))), none, []⟩] [4]) .ret) .skip)) (.seq (.rg [⟨some 47, .mv (.v 1), none, [1]⟩, ⟨some 48, .binN .add (.v 47) (.c (.int .i64 1)), none, [47]⟩, ⟨some 1, .mv (.v 48), none, [48]⟩] [0, 1, 5]) (.seq (.seq (.rg [⟨some 49, .mv (.v 0), none, []⟩, ⟨some 50, .mv (.v 5), none, []⟩, ⟨some 51, .iaddr 5 (.v 49) (.v 50), none, [49, 50]⟩, ⟨some 52, .faddr 4 (.v 51), none, [51]⟩, ⟨some 53, .load1 (.v 52), none, [52]⟩, ⟨some 54, .mv (.v 1), none, []⟩, ⟨some 55, .bin .neq (.v 53) (.v 54), none, [53, 54]⟩] [0, 1, 5, 55]) (.cond (.v 55) (.seq (.rg [⟨some 4, .mv (.c (.int .i64 (-1))), none, []⟩] [4]) .ret) .skip)) (.rg [⟨some 56, .mv (.v 1), none, [1]⟩, ⟨some 57, .binN .add (.v 56) (.c (.int .i64 1)), none, [56]⟩, ⟨some 1, .mv (.v 57), none, [57]⟩] [0, 1, 5]))))))))))) (.rg [⟨some 10, .mv (.v 5), none, [5]⟩, ⟨some 11, .binN .add (.v 10) (.c (.int .i64 1)), none, [10]⟩, ⟨some 5, .mv (.v 11), none, [11]⟩] [0, 1, 5])))
/-- laws.heldHandZoneS: function 63 -/
def s_laws_heldHandZoneS : SFun := { n := 59, res := [.t 4], body := (.seq (.rg [⟨some 4, .mv (.c (.int .i64 0)), none, [4]⟩] [0, 1]) (.seq (.seq (.rg [⟨some 5, .mv (.c (.int .i64 0)), none, []⟩] [0, 1, 5]) (.block 0 (.loop l_laws_heldHandZoneS_0))) (.seq (.rg [⟨some 58, .mv (.v 1), none, [1]⟩, ⟨some 4, .mv (.v 58), none, [58]⟩] [4]) .ret))) }
theorem k_laws_heldHandZoneS : okFun Go.Proofs.Try.prog 63 s_laws_heldHandZoneS = true := by kernel_rfl
def l_laws_heldHandSectorS_0 : SCode := (.seq (.seq (.rg [⟨some 6, .mv (.v 5), none, []⟩, ⟨some 7, .mv (.v 0), none, []⟩, ⟨some 8, .lenL (.v 7), none, [7]⟩, ⟨some 9, .bin .lss (.v 6) (.v 8), none, [6, 8]⟩] [0, 1, 5, 9]) (.cond (.v 9) .skip (.exit 0))) (.seq (.block 1 (.seq (.seq (.rg [⟨some 12, .mv (.v 0), none, []⟩, ⟨some 13, .mv (.v 5), none, []⟩, ⟨some 14, .iaddr 8 (.v 12) (.v 13), none, [12, 13]⟩, ⟨some 15, .faddr 0 (.v 14), none, [14]⟩, ⟨some 16, .load1 (.v 15), none, [15]⟩, ⟨some 17, .mv (.v 1), none, []⟩, ⟨some 18, .binN .rem (.v 17) (.c (.int .i64 3)), none, [17]⟩, ⟨some 19, .bin .eql (.v 18) (.c (.int .i64 0)), none, [18]⟩, ⟨some 20, .eqB true (.v 16) (.v 19), none, [16, 19]⟩] [0, 1, 5, 20]) (.cond (.v 20) (.seq (.rg [⟨some 4, .mv (.c (.int .i64 (-1))), none, []⟩] [4]) .ret) .skip)) (.seq (.rg [⟨some 21, .mv (.v 1), none, [1]⟩, ⟨some 22, .binN .add (.v 21) (.c (.int .i64 1)), none, [21]⟩, ⟨some 1, .mv (.v 22), none, [22]⟩] [0, 1, 5]) (.seq (.rg [⟨some 23, .mv (.v 0), none, []⟩, ⟨some 24, .mv (.v 5), none, []⟩, ⟨some 25, .iaddr 8 (.v 23) (.v 24), none, [23, 24]⟩, ⟨some 26, .faddr 1 (.v 25), none, [25]⟩, ⟨some 27, .faddr 0 (.v 26), none, [26]⟩, ⟨some 28, .load1 (.v 27), none, [27]⟩, ⟨some 29, .mv (.v 1), none, [1]⟩, ⟨some 30, .call 113 [.v 28, .v 29], none, [28, 29]⟩, ⟨some 1, .mv (.v 30), none, [30]⟩] [0, 1, 5]) (.seq (.seq (.rg [⟨some 31, .mv (.v 1), none, []⟩, ⟨some 32, .bin .lss (.v 31) (.c (.int .i64 0)), none, [31]⟩] [0, 1, 5, 32]) (.cond (.v 32) (.seq (.rg [⟨some 4, .mv (.c (.int .i64 (-1))), none, []⟩] [4]) .ret) .skip)) (.seq (.rg [⟨some 33, .mv (.v 0), none, []⟩, ⟨some 34, .mv (.v 5), none, []⟩, ⟨some 35, .iaddr 8 (.v 33) (.v 34), none, [33, 34]⟩, ⟨some 36, .faddr 1 (.v 35), none, [35]⟩, ⟨some 37, .faddr 1 (.v 36), none, [36]⟩, ⟨some 38, .load1 (.v 37), none, [37]⟩, ⟨some 39, .mv (.v 1), none, [1]⟩, ⟨some 40, .call 114 [.v 38, .v 39], none, [38, 39]⟩, ⟨some 1, .mv (.v 40), none, [40]⟩] [0, 1, 5]) (.seq (.seq (.rg [⟨some 41, .mv (.v 1), none, []⟩, ⟨some 42, .bin .lss (.v 41) (.c (.int .i64 0)), none, [41]⟩] [0, 1, 5, 42]) (.cond (.v 42) (.seq (.rg [⟨some 4, .mv (.c (.int .i64 (-1))), none, []⟩] [4]) .ret) .skip)) (.seq (.rg [⟨some 43, .mv (.v 0), none, []⟩, ⟨some 44, .mv (.v 5), none, []⟩, ⟨some 45, .iaddr 8 (.v 43) (.v 44), none, [43, 44]⟩, ⟨some 46, .faddr 1 (.v 45), none, [45]⟩, ⟨some 47, .faddr 2 (.v 46), none, [46]⟩, ⟨some 48, .load1 (.v 47), none, [47]⟩, ⟨some 49, .mv (.v 1), none, [1]⟩, ⟨some 50, .call 115 [.v 48, .v 49], none, [48, 49]⟩, ⟨some 1, .mv (.v 50), none, [50]⟩] [0, 1, 5]) (.seq (.seq (.rg [⟨some 51, .mv (.v 1), none, []⟩, ⟨some 52, .bin .lss (.v 51) (.c (.int .i64 0)), none, [51]⟩] [0, 1, 5, 52]) (.cond (.v 52) (.seq (.rg [⟨some 4, .mv (.c (.int .i64 (-1))), none, []⟩] [4]) .ret) .skip)) (.seq (.rg [⟨some 53, .mv (.v 0), none, []⟩, ⟨some 54, .mv (.v 5), none, []⟩, ⟨some 55, .iaddr 8 (.v 53) (.v 54), none, [53, 54]⟩, ⟨some 56, .faddr 4 (.v 55), none, [55]⟩, ⟨some 57, .faddr 0 (.v 56), none, [56]⟩, ⟨some 58, .load1 (.v 57), none, [57]⟩, ⟨some 59, .mv (.v 1), none, [1]⟩, ⟨some 60, .call 113 [.v 58, .v 59], none, [58, 59]⟩, ⟨some 1, .mv (.v 60), none, [60]⟩] [0, 1, 5]) (.seq (.seq (.rg [⟨some 61, .mv (.v 1), none, []⟩, ⟨some 62, .bin .lss (.v 61) (.c (.int .i64 0)), none, [61]⟩] [0, 1, 5, 62]) (.cond (.v 62) (.seq (.rg [⟨some 4, .mv (.c (.int .i64 (-1))), none, []⟩] [4]) .ret) .skip)) (.seq (.rg [⟨some 63, .mv (.v 0), none, []⟩, ⟨some 64, .mv (.v 5), none, []⟩, ⟨some 65, .iaddr 8 (.v 63) (.v 64), none, [63, 64]⟩, ⟨some 66, .faddr 4 (.v 65), none, [65]⟩, ⟨some 67, .faddr 1 (.v 66), none, [66]⟩, ⟨some 68, .load1 (.v 67), none, [67]⟩, ⟨some 69, .mv (.v 1), none, [1]⟩, ⟨some 70, .call 114 [.v 68, .v 69], none, [68, 69]⟩, ⟨some 1, .mv (.v 70), none, [70]⟩] [0, 1, 5]) (.seq (.seq (.rg [⟨some 71, .mv (.v 1), none, []⟩, ⟨some 72, .bin .lss (.v 71) (.c (.int .i64 0)), none, [71]⟩] [0, 1, 5, 72]) (.cond (.v 72) (.seq (.rg [⟨some 4, .mv (.c (.int .i64 (-1))), none, []⟩] [4]) .ret) .skip)) (.seq (.rg [⟨some 73, .mv (.v 0), none, []⟩, ⟨some 74, .mv (.v 5), none, []⟩, ⟨some 75, .iaddr 8 (.v 73) (.v 74), none, [73, 74]⟩, ⟨some 76, .faddr 4 (.v 75), none, [75]⟩, ⟨some 77, .faddr 2 (.v 76), none, [76]⟩, ⟨some 78, .load1 (.v 77), none, [77]⟩, ⟨some 79, .mv (.v 1), none, [1]⟩, ⟨some 80, .call 115 [.v 78, .v 79], none, [78, 79]⟩, ⟨some 1, .mv (.v 80), none, [80]⟩] [0, 1, 5]) (.seq (.seq (.rg [⟨some 81, .mv (.v 1), none, []⟩, ⟨some 82, .bin .lss (.v 81) (.c (.int .i64 0)), none, [81]⟩] [0, 1, 5, 82]) (.cond (.v 82) (.seq (.rg [⟨some 4, .mv (.c (.int .i64 (-1))), none, []⟩] [4]) .ret) .skip)) (.seq (.rg [⟨some 83, .mv (.v 0), none, []⟩, ⟨some 84, .mv (.v 5), none, []⟩, ⟨some 85, .iaddr 8 (.v 83) (.v 84), none, [83, 84]⟩, ⟨some 86, .faddr 7 (.v 85), none, [85]⟩, ⟨some 87, .load1 (.v 86), none, [86]⟩, ⟨some 88, .mv (.v 1), none, [1]⟩, ⟨some 89, .call 66 [.v 87, .v 88], none, [87, 88]⟩, ⟨some 1, .mv (.v 89), none, [89]⟩] [0, 1, 5]) (.seq (.rg [⟨some 90, .mv (.v 1), none, []⟩, ⟨some 91, .bin .lss (.v 90) (.c (.int .i64 0)), none, [90]⟩] [0, 1, 5, 91]) (.cond (.v 91) (.seq (.rg [⟨some 4, .mv (.c (.int .i64 (-1))), none, []⟩] [4]) .ret) .skip)))))))))))))))))) (.rg [⟨some 10, .mv (.v 5), none, [5]⟩, ⟨some 11, .binN .add (.v 10) (.c (.int .i64 1)), none, [10]⟩, ⟨some 5, .mv (.v 11), none, [11]⟩] [0, 1, 5])))
/-- laws.heldHandSectorS: function 64 -/
def s_laws_heldHandSectorS : SFun := { n := 93, res := [.t 4], body := (.seq (.rg [⟨some 4, .mv (.c (.int .i64 0)), none, [4]⟩] [0, 1]) (.seq (.seq (.rg [⟨some 5, .mv (.c (.int .i64 0)), none, []⟩] [0, 1, 5]) (.block 0 (.loop l_laws_heldHandSectorS_0))) (.seq (.rg [⟨some 92, .mv (.v 1), none, [1]⟩, ⟨some 4, .mv (.v 92), none, [92]⟩] [4]) .ret))) }
theorem k_laws_heldHandSectorS : okFun Go.Proofs.Try.prog 64 s_laws_heldHandSectorS = true := by kernel_rfl
def l_laws_heldHandCraftS_0 : SCode := (.seq (.seq (.rg [⟨some 6, .mv (.v 5), none, []⟩, ⟨some 7, .mv (.v 0), none, []⟩, ⟨some 8, .lenL (.v 7), none, [7]⟩, ⟨some 9, .bin .lss (.v 6) (.v 8), none, [6, 8]⟩] [0, 1, 5, 9]) (.cond (.v 9) .skip (.exit 0))) (.seq (.block 1 (.seq (.seq (.rgd [⟨some 12, .mv (.v 0), none, []⟩, ⟨some 13, .mv (.v 5), none, []⟩, ⟨some 14, .iaddr 4 (.v 12) (.v 13), none, []⟩, ⟨some 15, .faddr 0 (.v 14), none, []⟩, ⟨some 16, .load1 (.v 15), none, []⟩, ⟨some 17, .mv (.v 1), none, []⟩, ⟨some 18, .call 59 [.v 17], none, []⟩, ⟨some 19, .bin .neq (.v 16) (.v 18), none, []⟩] [0, 1, 5, 19] [none, none, some [], some [], some [], none, some [3, 2, 1], none]) (.cond (.v 19) (.seq (.rg [⟨some 4, .mv (.c (.int .i64 (-1))), none, []⟩] [4]) .ret) .skip)) (.seq (.rg [⟨some 20, .mv (.v 1), none, [1]⟩, ⟨some 21, .binN .add (.v 20) (.c (.int .i64 1)), none, [20]⟩, ⟨some 1, .mv (.v 21), none, [21]⟩] [0, 1, 5]) (.seq (.seq (.rg [⟨some 22, .mv (.v 0), none, []⟩, ⟨some 23, .mv (.v 5), none, []⟩, ⟨some 24, .iaddr 4 (.v 22) (.v 23), none, [22, 23]⟩, ⟨some 25, .faddr 1 (.v 24), none, [24]⟩, ⟨some 26, .load1 (.v 25), none, [25]⟩, ⟨some 27, .mv (.v 1), none, []⟩, ⟨some 28, .bin .neq (.v 26) (.v 27), none, [26, 27]⟩] [0, 1, 5, 28]) (.cond (.v 28) (.seq (.rg [⟨some 4, .mv (.c (.int .i64 (-1))), none, []⟩] [4]) .ret) .skip)) (.seq (.rg [⟨some 29, .mv (.v 1), none, [1]⟩, ⟨some 30, .binN .add (.v 29) (.c (.int .i64 1)), none, [29]⟩, ⟨some 1, .mv (.v 30), none, [30]⟩] [0, 1, 5]) (.seq (.seq (.rg [⟨some 31, .mv (.v 0), none, []⟩, ⟨some 32, .mv (.v 5), none, []⟩, ⟨some 33, .iaddr 4 (.v 31) (.v 32), none, [31, 32]⟩, ⟨some 34, .faddr 2 (.v 33), none, [33]⟩, ⟨some 35, .load1 (.v 34), none, [34]⟩, ⟨some 36, .mv (.v 1), none, []⟩, ⟨some 37, .bin .neq (.v 35) (.v 36), none, [35, 36]⟩] [0, 1, 5, 37]) (.cond (.v 37) (.seq (.rg [⟨some 4, .mv (.c (.int .i64 (-1))), none, []⟩] [4]) .ret) .skip)) (.seq (.rg [⟨some 38, .mv (.v 1), none, [1]⟩, ⟨some 39, .binN .add (.v 38) (.c (.int .i64 1)), none, [38]⟩, ⟨some 1, .mv (.v 39), none, [39]⟩] [0, 1, 5]) (.seq (.rg [⟨some 40, .mv (.v 0), none, []⟩, ⟨some 41, .mv (.v 5), none, []⟩, ⟨some 42, .iaddr 4 (.v 40) (.v 41), none, [40, 41]⟩, ⟨some 43, .faddr 3 (.v 42), none, [42]⟩, ⟨some 44, .load1 (.v 43), none, [43]⟩, ⟨some 45, .mv (.v 1), none, [1]⟩, ⟨some 46, .call 116 [.v 44, .v 45], none, [44, 45]⟩, ⟨some 1, .mv (.v 46), none, [46]⟩] [0, 1, 5]) (.seq (.rg [⟨some 47, .mv (.v 1), none, []⟩, ⟨some 48, .bin .lss (.v 47) (.c (.int .i64 0)), none, [47]⟩] [0, 1, 5, 48]) (.cond (.v 48) (.seq (.rg [⟨some 4, .mv (.c (.int .i64 (-1))), none, []⟩] [4]) .ret) .skip)))))))))) (.rg [⟨some 10, .mv (.v 5), none, [5]⟩, ⟨some 11, .binN .add (.v 10) (.c (.int .i64 1)), none, [10]⟩, ⟨some 5, .mv (.v 11), none, [11]⟩] [0, 1, 5])))
/-- laws.heldHandCraftS: function 65 -/
def s_laws_heldHandCraftS : SFun := { n := 50, res := [.t 4], body := (.seq (.rg [⟨some 4, .mv (.c (.int .i64 0)), none, [4]⟩] [0, 1]) (.seq (.seq (.rg [⟨some 5, .mv (.c (.int .i64 0)), none, []⟩] [0, 1, 5]) (.block 0 (.loop l_laws_heldHandCraftS_0))) (.seq (.rg [⟨some 49, .mv (.v 1), none, [1]⟩, ⟨some 4, .mv (.v 49), none, [49]⟩] [4]) .ret))) }
theorem k_laws_heldHandCraftS : okFun Go.Proofs.Try.prog 65 s_laws_heldHandCraftS = true := by kernel_rfl
def l_laws_heldHandWordS_0 : SCode := (.seq (.seq (.rg [⟨some 6, .mv (.v 5), none, []⟩, ⟨some 7, .mv (.v 0), none, []⟩, ⟨some 8, .lenL (.v 7), none, [7]⟩, ⟨some 9, .bin .lss (.v 6) (.v 8), none, [6, 8]⟩] [0, 1, 5, 9]) (.cond (.v 9) .skip (.exit 0))) (.seq (.block 1 (.seq (.seq (.rg [⟨some 12, .mv (.v 0), none, []⟩, ⟨some 13, .mv (.v 5), none, []⟩, ⟨some 14, .iaddr 8 (.v 12) (.v 13), none, [12, 13]⟩, ⟨some 15, .faddr 0 (.v 14), none, [14]⟩, ⟨some 16, .load1 (.v 15), none, [15]⟩, ⟨some 17, .mv (.v 1), none, []⟩, ⟨some 18, .bin .neq (.v 16) (.v 17), none, [16, 17]⟩] [0, 1, 5, 18]) (.cond (.v 18) (.seq (.rg [⟨some 4, .mv (.c (.int .i64 (-1))), none, []⟩] [4]) .ret) .skip)) (.seq (.rg [⟨some 19, .mv (.v 1), none, [1]⟩, ⟨some 20, .binN .add (.v 19) (.c (.int .i64 1)), none, [19]⟩, ⟨some 1, .mv (.v 20), none, [20]⟩] [0, 1, 5]) (.seq (.seq (.rgd [⟨some 21, .mv (.v 0), none, []⟩, ⟨some 22, .mv (.v 5), none, []⟩, ⟨some 23, .iaddr 8 (.v 21) (.v 22), none, []⟩, ⟨some 24, .faddr 1 (.v 23), none, []⟩, ⟨some 25, .load1 (.v 24), none, []⟩, ⟨some 26, .mv (.v 1), none, []⟩, ⟨some 27, .call 59 [.v 26], none, []⟩, ⟨some 28, .bin .neq (.v 25) (.v 27), none, []⟩] [0, 1, 5, 28] [none, none, some [], some [], some [], none, some [3, 2, 1], none]) (.cond (.v 28) (.seq (.rg [⟨some 4, .mv (.c (.int .i64 (-1))), none, []⟩] [4]) .ret) .skip)) (.seq (.rg [⟨some 29, .mv (.v 1), none, [1]⟩, ⟨some 30, .binN .add (.v 29) (.c (.int .i64 1)), none, [29]⟩, ⟨some 1, .mv (.v 30), none, [30]⟩] [0, 1, 5]) (.seq (.seq (.rgd [⟨some 31, .mv (.v 0), none, []⟩, ⟨some 32, .mv (.v 5), none, []⟩, ⟨some 33, .iaddr 8 (.v 31) (.v 32), none, []⟩, ⟨some 34, .faddr 2 (.v 33), none, []⟩, ⟨some 35, .load1 (.v 34), none, []⟩, ⟨some 36, .mv (.v 1), none, []⟩, ⟨some 37, .call 59 [.v 36], none, []⟩, ⟨some 38, .bin .neq (.v 35) (.v 37), none, []⟩] [0, 1, 5, 38] [none, none, some [], some [], some [], none, some [3, 2, 1], none]) (.cond (.v 38) (.seq (.rg [⟨some 4, .mv (.c (.int .i64 (-1))), none, []⟩] [4]) .ret) .skip)) (.seq (.rg [⟨some 39, .mv (.v 1), none, [1]⟩, ⟨some 40, .binN .add (.v 39) (.c (.int .i64 1)), none, [39]⟩, ⟨some 1, .mv (.v 40), none, [40]⟩] [0, 1, 5]) (.seq (.seq (.rgd [⟨some 41, .mv (.v 0), none, []⟩, ⟨some 42, .mv (.v 5), none, []⟩, ⟨some 43, .iaddr 8 (.v 41) (.v 42), none, []⟩, ⟨some 44, .faddr 3 (.v 43), none, []⟩, ⟨some 45, .load1 (.v 44), none, []⟩, ⟨some 46, .mv (.v 1), none, []⟩, ⟨some 47, .call 59 [.v 46], none, []⟩, ⟨some 48, .bin .neq (.v 45) (.v 47), none, []⟩] [0, 1, 5, 48] [none, none, some [], some [], some [], none, some [3, 2, 1], none]) (.cond (.v 48) (.seq (.rg [⟨some 4, .mv (.c (.int .i64 (-1))), none, []⟩] [4]) .ret) .skip)) (.seq (.rg [⟨some 49, .mv (.v 1), none, [1]⟩, ⟨some 50, .binN .add (.v 49) (.c (.int .i64 1)), none, [49]⟩, ⟨some 1, .mv (.v 50), none, [50]⟩] [0, 1, 5]) (.seq (.seq (.rg [⟨some 51, .mv (.v 0), none, []⟩, ⟨some 52, .mv (.v 5), none, []⟩, ⟨some 53, .iaddr 8 (.v 51) (.v 52), none, [51, 52]⟩, ⟨some 54, .faddr 4 (.v 53), none, [53]⟩, ⟨some 55, .load1 (.v 54), none, [54]⟩, ⟨some 56, .mv (.v 1), none, []⟩, ⟨some 57, .bin .neq (.v 55) (.v 56), none, [55, 56]⟩] [0, 1, 5, 57]) (.cond (.v 57) (.seq (.rg [⟨some 4, .mv (.c (.int .i64 (-1))), none, []⟩] [4]) .ret) .skip)) (.seq (.rg [⟨some 58, .mv (.v 1), none, [1]⟩, ⟨some 59, .binN .add (.v 58) (.c (.int .i64 1)), none, [58]⟩, ⟨some 1, .mv (.v 59), none, [59]⟩] [0, 1, 5]) (.seq (.seq (.rg [⟨some 60, .mv (.v 0), none, []⟩, ⟨some 61, .mv (.v 5), none, []⟩, ⟨some 62, .iaddr 8 (.v 60) (.v 61), none, [60, 61]⟩, ⟨some 63, .faddr 5 (.v 62), none, [62]⟩, ⟨some 64, .load1 (.v 63), none, [63]⟩, ⟨some 65, .mv (.v 1), none, []⟩, ⟨some 66, .bin .neq (.v 64) (.v 65), none, [64, 65]⟩] [0, 1, 5, 66]) (.cond (.v 66) (.seq (.rg [⟨some 4, .mv (.c (.int .i64 (-1))), none, []⟩] [4]) .ret) .skip)) (.seq (.rg [⟨some 67, .mv (.v 1), none, [1]⟩, ⟨some 68, .binN .add (.v 67) (.c (.int .i64 1)), none, [67]⟩, ⟨some 1, .mv (.v 68), none, [68]⟩] [0, 1, 5]) (.seq (.seq (.rg [⟨some 69, .mv (.v 0), none, []⟩, ⟨some 70, .mv (.v 5), none, []⟩, ⟨some 71, .iaddr 8 (.v 69) (.v 70), none, [69, 70]⟩, ⟨some 72, .faddr 6 (.v 71), none, [71]⟩, ⟨some 73, .load1 (.v 72), none, [72]⟩, ⟨some 74, .mv (.v 1), none, []⟩, ⟨some 75, .bin .neq (.v 73) (.v 74), none, [73, 74]⟩] [0, 1, 5, 75]) (.cond (.v 75) (.seq (.rg [⟨some 4, .mv (.c (.int .i64 (-1))), none, []⟩] [4]) .ret) .skip)) (.seq (.rg [⟨some 76, .mv (.v 1), none, [1]⟩, ⟨some 77, .binN .add (.v 76) (.c (.int .i64 1)), none, [76]⟩, ⟨some 1, .mv (.v 77), none, [77]⟩] [0, 1, 5]) (.seq (.rg [⟨some 78, .mv (.v 0), none, []⟩, ⟨some 79, .mv (.v 5), none, []⟩, ⟨some 80, .iaddr 8 (.v 78) (.v 79), none, [78, 79]⟩, ⟨some 81, .faddr 7 (.v 80), none, [80]⟩, ⟨some 82, .load1 (.v 81), none, [81]⟩, ⟨some 83, .mv (.v 1), none, [1]⟩, ⟨some 84, .call 116 [.v 82, .v 83], none, [82, 83]⟩, ⟨some 1, .mv (.v 84), none, [84]⟩] [0, 1, 5]) (.seq (.rg [⟨some 85, .mv (.v 1), none, []⟩, ⟨some 86, .bin .lss (.v 85) (.c (.int .i64 0)), none, [85]⟩] [0, 1, 5, 86]) (.cond (.v 86) (.seq (.rg [⟨some 4, .mv (.c (.int .i64 (-1))), none, []⟩] [4]) .ret) .skip)))))))))))))))))) (.rg [⟨some 10, .mv (.v 5), none, [5]⟩, ⟨some 11, .binN .add (.v 10) (.c (.int .i64 1)), none, [10]⟩, ⟨some 5, .mv (.v 11), none, [11]⟩] [0, 1, 5])))
/-- laws.heldHandWordS: function 66 -/
def s_laws_heldHandWordS : SFun := { n := 88, res := [.t 4], body := (.seq (.rg [⟨some 4, .mv (.c (.int .i64 0)), none, [4]⟩] [0, 1]) (.seq (.seq (.rg [⟨some 5, .mv (.c (.int .i64 0)), none, []⟩] [0, 1, 5]) (.block 0 (.loop l_laws_heldHandWordS_0))) (.seq (.rg [⟨some 87, .mv (.v 1), none, [1]⟩, ⟨some 4, .mv (.v 87), none, [87]⟩] [4]) .ret))) }
theorem k_laws_heldHandWordS : okFun Go.Proofs.Try.prog 66 s_laws_heldHandWordS = true := by kernel_rfl
/-- impl.within: function 75 -/
def s_impl_within : SFun := { n := 15, res := [.t 6], body := (.seq (.rg [⟨some 6, .mv (.c (.bool false)), none, [6]⟩] [0, 1, 2]) (.seq (.rg [⟨some 7, .mv (.v 0), none, []⟩, ⟨some 8, .mv (.v 1), none, [1]⟩, ⟨some 9, .bin .geq (.v 7) (.v 8), none, [7, 8]⟩, ⟨some 10, .mv (.v 9), none, [9]⟩, ⟨some 11, .mv (.v 0), some (10, true), [0]⟩, ⟨some 12, .mv (.v 2), some (10, true), [2]⟩, ⟨some 13, .bin .leq (.v 11) (.v 12), some (10, true), [11, 12]⟩, ⟨some 14, .pick (.v 10) (.v 13) (.c (.bool false)), none, [10, 13]⟩, ⟨some 6, .mv (.v 14), none, [14]⟩] [6]) .ret)) }
theorem k_impl_within : okFun Go.Proofs.Try.prog 75 s_impl_within = true := by kernel_rfl
def l_impl_isName_0 : SCode := (.seq (.seq (.rg [⟨some 13, .mv (.v 3), none, []⟩, ⟨some 14, .mv (.v 0), none, []⟩, ⟨some 15, .lenS (.v 14), none, [14]⟩, ⟨some 16, .bin .lss (.v 13) (.v 15), none, [13, 15]⟩] [0, 3, 16]) (.cond (.v 16) .skip (.exit 0))) (.seq (.block 1 (.seq (.rg [⟨some 19, .mv (.v 0), none, []⟩, ⟨some 20, .mv (.v 3), none, []⟩, ⟨some 21, .istr (.v 19) (.v 20), none, [19, 20]⟩, ⟨some 4, .mv (.v 21), none, [21]⟩] [0, 3, 4]) (.seq (.rg [⟨some 22, .mv (.v 4), none, []⟩, ⟨some 23, .bin .geq (.v 22) (.c (.int .u8 97)), none, [22]⟩, ⟨some 24, .mv (.v 23), none, [23]⟩, ⟨some 25, .mv (.v 4), some (24, true), []⟩, ⟨some 26, .bin .leq (.v 25) (.c (.int .u8 122)), some (24, true), [25]⟩, ⟨some 27, .pick (.v 24) (.v 26) (.c (.bool false)), none, [24, 26]⟩, ⟨some 28, .mv (.v 27), none, [27]⟩, ⟨some 29, .mv (.v 4), some (28, false), []⟩, ⟨some 30, .bin .geq (.v 29) (.c (.int .u8 48)), some (28, false), [29]⟩, ⟨some 31, .mv (.v 30), some (28, false), [30]⟩, ⟨some 32, .mv (.v 4), some (31, true), []⟩, ⟨some 33, .bin .leq (.v 32) (.c (.int .u8 57)), some (31, true), [32]⟩, ⟨some 34, .pick (.v 31) (.v 33) (.c (.bool false)), some (28, false), [31, 33]⟩, ⟨some 35, .pick (.v 28) (.c (.bool true)) (.v 34), none, [28, 34]⟩, ⟨some 36, .mv (.v 35), none, [35]⟩, ⟨some 37, .mv (.v 4), some (36, false), [4]⟩, ⟨some 38, .bin .eql (.v 37) (.c (.int .u8 45)), some (36, false), [37]⟩, ⟨some 39, .pick (.v 36) (.c (.bool true)) (.v 38), none, [36, 38]⟩, ⟨some 40, .not (.v 39), none, [39]⟩] [0, 3, 40]) (.cond (.v 40) (.seq (.rg [⟨some 2, .mv (.c (.bool false)), none, []⟩] [2]) .ret) .skip)))) (.rg [⟨some 17, .mv (.v 3), none, [3]⟩, ⟨some 18, .binN .add (.v 17) (.c (.int .i64 1)), none, [17]⟩, ⟨some 3, .mv (.v 18), none, [18]⟩] [0, 3])))
/-- impl.isName: function 76 -/
def s_impl_isName : SFun := { n := 41, res := [.t 2], body := (.seq (.rg [⟨some 2, .mv (.c (.bool false)), none, [2]⟩] [0]) (.seq (.seq (.rg [⟨some 5, .mv (.v 0), none, []⟩, ⟨some 6, .lenS (.v 5), none, [5]⟩, ⟨some 7, .bin .lss (.v 6) (.c (.int .i64 1)), none, [6]⟩, ⟨some 8, .mv (.v 7), none, [7]⟩, ⟨some 9, .mv (.v 0), some (8, false), []⟩, ⟨some 10, .lenS (.v 9), some (8, false), [9]⟩, ⟨some 11, .bin .gtr (.v 10) (.c (.int .i64 8)), some (8, false), [10]⟩, ⟨some 12, .pick (.v 8) (.c (.bool true)) (.v 11), none, [8, 11]⟩] [0, 12]) (.cond (.v 12) (.seq (.rg [⟨some 2, .mv (.c (.bool false)), none, []⟩] [2]) .ret) .skip)) (.seq (.seq (.rg [⟨some 3, .mv (.c (.int .i64 0)), none, []⟩] [0, 3]) (.block 0 (.loop l_impl_isName_0))) (.seq (.rg [⟨some 2, .mv (.c (.bool true)), none, []⟩] [2]) .ret)))) }
theorem k_impl_isName : okFun Go.Proofs.Try.prog 76 s_impl_isName = true := by kernel_rfl
/-- laws.eqHandBox: function 84 -/
def s_laws_eqHandBox : SFun := { n := 35, res := [.t 4], body := (.seq (.rg [⟨some 2, .box 102 (.v 0), none, [0]⟩, ⟨some 3, .box 103 (.v 1), none, [1]⟩, ⟨some 4, .mv (.c (.bool false)), none, [4]⟩] [2, 3]) (.seq (.seq (.rg [⟨some 5, .faddr 0 (.v 2), none, []⟩, ⟨some 6, .load1 (.v 5), none, [5]⟩, ⟨some 7, .faddr 0 (.v 3), none, []⟩, ⟨some 8, .load1 (.v 7), none, [7]⟩, ⟨some 9, .bin .neq (.v 6) (.v 8), none, [6, 8]⟩] [2, 3, 9]) (.cond (.v 9) (.seq (.rg [⟨some 4, .mv (.c (.bool false)), none, []⟩] [4]) .ret) .skip)) (.seq (.seq (.rg [⟨some 10, .faddr 1 (.v 2), none, []⟩, ⟨some 11, .load1 (.v 10), none, [10]⟩, ⟨some 12, .faddr 1 (.v 3), none, []⟩, ⟨some 13, .load1 (.v 12), none, [12]⟩, ⟨some 14, .bin .neq (.v 11) (.v 13), none, [11, 13]⟩] [2, 3, 14]) (.cond (.v 14) (.seq (.rg [⟨some 4, .mv (.c (.bool false)), none, []⟩] [4]) .ret) .skip)) (.seq (.seq (.rg [⟨some 15, .faddr 2 (.v 2), none, []⟩, ⟨some 16, .load1 (.v 15), none, [15]⟩, ⟨some 17, .faddr 2 (.v 3), none, []⟩, ⟨some 18, .load1 (.v 17), none, [17]⟩, ⟨some 19, .bin .neq (.v 16) (.v 18), none, [16, 18]⟩] [2, 3, 19]) (.cond (.v 19) (.seq (.rg [⟨some 4, .mv (.c (.bool false)), none, []⟩] [4]) .ret) .skip)) (.seq (.seq (.rg [⟨some 20, .faddr 3 (.v 2), none, []⟩, ⟨some 21, .load1 (.v 20), none, [20]⟩, ⟨some 22, .faddr 3 (.v 3), none, []⟩, ⟨some 23, .load1 (.v 22), none, [22]⟩, ⟨some 24, .bin .neq (.v 21) (.v 23), none, [21, 23]⟩] [2, 3, 24]) (.cond (.v 24) (.seq (.rg [⟨some 4, .mv (.c (.bool false)), none, []⟩] [4]) .ret) .skip)) (.seq (.seq (.rg [⟨some 25, .faddr 4 (.v 2), none, []⟩, ⟨some 26, .load1 (.v 25), none, [25]⟩, ⟨some 27, .faddr 4 (.v 3), none, []⟩, ⟨some 28, .load1 (.v 27), none, [27]⟩, ⟨some 29, .bin .neq (.v 26) (.v 28), none, [26, 28]⟩] [2, 3, 29]) (.cond (.v 29) (.seq (.rg [⟨some 4, .mv (.c (.bool false)), none, []⟩] [4]) .ret) .skip)) (.seq (.seq (.rg [⟨some 30, .faddr 5 (.v 2), none, [2]⟩, ⟨some 31, .load1 (.v 30), none, [30]⟩, ⟨some 32, .faddr 5 (.v 3), none, [3]⟩, ⟨some 33, .load1 (.v 32), none, [32]⟩, ⟨some 34, .bin .neq (.v 31) (.v 33), none, [31, 33]⟩] [34]) (.cond (.v 34) (.seq (.rg [⟨some 4, .mv (.c (.bool false)), none, []⟩] [4]) .ret) .skip)) (.seq (.rg [⟨some 4, .mv (.c (.bool true)), none, []⟩] [4]) .ret)))))))) }
theorem k_laws_eqHandBox : okFun Go.Proofs.Try.prog 84 s_laws_eqHandBox = true := by kernel_rfl
def l_impl_HandBook_seen_0 : SCode := (.seq (.rg [⟨some 11, .bin .lss (.v 10) (.v 9), none, []⟩] [1, 8, 9, 10, 11]) (.seq (.cond (.v 11) .skip (.exit 0)) (.seq (.block 1 (.seq (.rg [⟨some 12, .iaddr 2 (.v 8) (.v 10), none, []⟩, ⟨some 13, .loadN 2 (.v 12), none, [12]⟩, ⟨some 6, .alloc 106 [.str ⟨#[]⟩, .int .i64 0], none, []⟩, ⟨none, .store 2 (.v 6) (.v 13), none, [13]⟩] [1, 6, 8, 9, 10]) (.seq (.rg [⟨some 14, .faddr 0 (.v 6), none, []⟩, ⟨some 15, .load1 (.v 14), none, [14]⟩, ⟨some 16, .mv (.v 1), none, []⟩, ⟨some 17, .bin .eql (.v 15) (.v 16), none, [15, 16]⟩] [1, 6, 8, 9, 10, 17]) (.cond (.v 17) (.seq (.rg [⟨some 18, .faddr 1 (.v 6), none, [6]⟩, ⟨some 19, .load1 (.v 18), none, [18]⟩, ⟨some 4, .mv (.v 19), none, [19]⟩] [4]) .ret) .skip)))) (.rg [⟨some 20, .binN .add (.v 10) (.c (.int .i64 1)), none, [10]⟩, ⟨some 10, .mv (.v 20), none, [20]⟩] [1, 8, 9, 10]))))
/-- impl.HandBook).seen: function 101 -/
def s_impl_HandBook_seen : SFun := { n := 21, res := [.t 4], body := (.seq (.rg [⟨some 2, .box 102 (.v 0), none, [0]⟩, ⟨some 4, .mv (.c (.int .i64 0)), none, [4]⟩] [1, 2]) (.seq (.seq (.rg [⟨some 7, .faddr 2 (.v 2), none, [2]⟩, ⟨some 8, .load1 (.v 7), none, [7]⟩, ⟨some 9, .lenL (.v 8), none, []⟩, ⟨some 10, .mv (.c (.int .i64 0)), none, []⟩] [1, 8, 9, 10]) (.block 0 (.loop l_impl_HandBook_seen_0))) (.seq (.rg [⟨some 4, .mv (.c (.int .i64 0)), none, []⟩] [4]) .ret))) }
theorem k_impl_HandBook_seen : okFun Go.Proofs.Try.prog 101 s_impl_HandBook_seen = true := by kernel_rfl
/-- laws.eqHandOwn: function 103 -/
def s_laws_eqHandOwn : SFun := { n := 63, res := [.t 4], body := (.seq (.rg [⟨some 2, .box 102 (.v 0), none, [0]⟩, ⟨some 3, .box 103 (.v 1), none, [1]⟩, ⟨some 4, .mv (.c (.bool false)), none, [4]⟩] [2, 3]) (.seq (.seq (.rg [⟨some 5, .faddr 0 (.v 2), none, []⟩, ⟨some 6, .load1 (.v 5), none, [5]⟩, ⟨some 7, .faddr 0 (.v 3), none, []⟩, ⟨some 8, .load1 (.v 7), none, [7]⟩, ⟨some 9, .bin .neq (.v 6) (.v 8), none, [6, 8]⟩] [2, 3, 9]) (.cond (.v 9) (.seq (.rg [⟨some 4, .mv (.c (.bool false)), none, []⟩] [4]) .ret) .skip)) (.seq (.seq (.rg [⟨some 10, .faddr 1 (.v 2), none, []⟩, ⟨some 11, .load1 (.v 10), none, [10]⟩, ⟨some 12, .faddr 1 (.v 3), none, []⟩, ⟨some 13, .load1 (.v 12), none, [12]⟩, ⟨some 14, .bin .neq (.v 11) (.v 13), none, [11, 13]⟩] [2, 3, 14]) (.cond (.v 14) (.seq (.rg [⟨some 4, .mv (.c (.bool false)), none, []⟩] [4]) .ret) .skip)) (.seq (.seq (.rg [⟨some 15, .faddr 2 (.v 2), none, []⟩, ⟨some 16, .load1 (.v 15), none, [15]⟩, ⟨some 17, .faddr 2 (.v 3), none, []⟩, ⟨some 18, .load1 (.v 17), none, [17]⟩, ⟨some 19, .bin .neq (.v 16) (.v 18), none, [16, 18]⟩] [2, 3, 19]) (.cond (.v 19) (.seq (.rg [⟨some 4, .mv (.c (.bool false)), none, []⟩] [4]) .ret) .skip)) (.seq (.seq (.rg [⟨some 20, .faddr 3 (.v 2), none, []⟩, ⟨some 21, .load1 (.v 20), none, [20]⟩, ⟨some 22, .faddr 3 (.v 3), none, []⟩, ⟨some 23, .load1 (.v 22), none, [22]⟩, ⟨some 24, .bin .neq (.v 21) (.v 23), none, [21, 23]⟩] [2, 3, 24]) (.cond (.v 24) (.seq (.rg [⟨some 4, .mv (.c (.bool false)), none, []⟩] [4]) .ret) .skip)) (.seq (.seq (.rg [⟨some 25, .faddr 4 (.v 2), none, []⟩, ⟨some 26, .load1 (.v 25), none, [25]⟩, ⟨some 27, .faddr 4 (.v 3), none, []⟩, ⟨some 28, .load1 (.v 27), none, [27]⟩, ⟨some 29, .bin .neq (.v 26) (.v 28), none, [26, 28]⟩] [2, 3, 29]) (.cond (.v 29) (.seq (.rg [⟨some 4, .mv (.c (.bool false)), none, []⟩] [4]) .ret) .skip)) (.seq (.seq (.rg [⟨some 30, .faddr 5 (.v 2), none, []⟩, ⟨some 31, .load1 (.v 30), none, [30]⟩, ⟨some 32, .faddr 5 (.v 3), none, []⟩, ⟨some 33, .load1 (.v 32), none, [32]⟩, ⟨some 34, .bin .neq (.v 31) (.v 33), none, [31, 33]⟩] [2, 3, 34]) (.cond (.v 34) (.seq (.rg [⟨some 4, .mv (.c (.bool false)), none, []⟩] [4]) .ret) .skip)) (.seq (.seq (.rg [⟨some 35, .faddr 6 (.v 2), none, []⟩, ⟨some 36, .load1 (.v 35), none, [35]⟩, ⟨some 37, .faddr 6 (.v 3), none, []⟩, ⟨some 38, .load1 (.v 37), none, [37]⟩, ⟨some 39, .call 40 [.v 36, .v 38], none, [36, 38]⟩, ⟨some 40, .not (.v 39), none, [39]⟩] [2, 3, 40]) (.cond (.v 40) (.seq (.rg [⟨some 4, .mv (.c (.bool false)), none, []⟩] [4]) .ret) .skip)) (.seq (.seq (.rg [⟨some 41, .faddr 7 (.v 2), none, []⟩, ⟨some 42, .load1 (.v 41), none, [41]⟩, ⟨some 43, .faddr 7 (.v 3), none, []⟩, ⟨some 44, .load1 (.v 43), none, [43]⟩, ⟨some 45, .bin .neq (.v 42) (.v 44), none, [42, 44]⟩] [2, 3, 45]) (.cond (.v 45) (.seq (.rg [⟨some 4, .mv (.c (.bool false)), none, []⟩] [4]) .ret) .skip)) (.seq (.seq (.rg [⟨some 46, .faddr 8 (.v 2), none, []⟩, ⟨some 47, .load1 (.v 46), none, [46]⟩, ⟨some 48, .faddr 8 (.v 3), none, []⟩, ⟨some 49, .load1 (.v 48), none, [48]⟩, ⟨some 50, .call 40 [.v 47, .v 49], none, [47, 49]⟩, ⟨some 51, .not (.v 50), none, [50]⟩] [2, 3, 51]) (.cond (.v 51) (.seq (.rg [⟨some 4, .mv (.c (.bool false)), none, []⟩] [4]) .ret) .skip)) (.seq (.seq (.rg [⟨some 52, .faddr 9 (.v 2), none, []⟩, ⟨some 53, .load1 (.v 52), none, [52]⟩, ⟨some 54, .faddr 9 (.v 3), none, []⟩, ⟨some 55, .load1 (.v 54), none, [54]⟩, ⟨some 56, .call 148 [.v 53, .v 55], none, [53, 55]⟩, ⟨some 57, .not (.v 56), none, [56]⟩] [2, 3, 57]) (.cond (.v 57) (.seq (.rg [⟨some 4, .mv (.c (.bool false)), none, []⟩] [4]) .ret) .skip)) (.seq (.seq (.rg [⟨some 58, .faddr 10 (.v 2), none, [2]⟩, ⟨some 59, .load1 (.v 58), none, [58]⟩, ⟨some 60, .faddr 10 (.v 3), none, [3]⟩, ⟨some 61, .load1 (.v 60), none, [60]⟩, ⟨some 62, .eqB true (.v 59) (.v 61), none, [59, 61]⟩] [62]) (.cond (.v 62) (.seq (.rg [⟨some 4, .mv (.c (.bool false)), none, []⟩] [4]) .ret) .skip)) (.seq (.rg [⟨some 4, .mv (.c (.bool true)), none, []⟩] [4]) .ret))))))))))))) }
theorem k_laws_eqHandOwn : okFun Go.Proofs.Try.prog 103 s_laws_eqHandOwn = true := by kernel_rfl
/-- laws.eqHandPart: function 104 -/
def s_laws_eqHandPart : SFun := { n := 21, res := [.t 4], body := (.seq (.rg [⟨some 2, .box 102 (.v 0), none, [0]⟩, ⟨some 3, .box 103 (.v 1), none, [1]⟩, ⟨some 4, .mv (.c (.bool false)), none, [4]⟩] [2, 3]) (.seq (.seq (.rg [⟨some 5, .faddr 0 (.v 2), none, []⟩, ⟨some 6, .load1 (.v 5), none, [5]⟩, ⟨some 7, .faddr 0 (.v 3), none, []⟩, ⟨some 8, .load1 (.v 7), none, [7]⟩, ⟨some 9, .bin .neq (.v 6) (.v 8), none, [6, 8]⟩] [2, 3, 9]) (.cond (.v 9) (.seq (.rg [⟨some 4, .mv (.c (.bool false)), none, []⟩] [4]) .ret) .skip)) (.seq (.seq (.rg [⟨some 10, .faddr 1 (.v 2), none, []⟩, ⟨some 11, .load1 (.v 10), none, [10]⟩, ⟨some 12, .faddr 1 (.v 3), none, []⟩, ⟨some 13, .load1 (.v 12), none, [12]⟩, ⟨some 14, .bin .neq (.v 11) (.v 13), none, [11, 13]⟩] [2, 3, 14]) (.cond (.v 14) (.seq (.rg [⟨some 4, .mv (.c (.bool false)), none, []⟩] [4]) .ret) .skip)) (.seq (.seq (.rg [⟨some 15, .faddr 2 (.v 2), none, [2]⟩, ⟨some 16, .load1 (.v 15), none, [15]⟩, ⟨some 17, .faddr 2 (.v 3), none, [3]⟩, ⟨some 18, .load1 (.v 17), none, [17]⟩, ⟨some 19, .call 40 [.v 16, .v 18], none, [16, 18]⟩, ⟨some 20, .not (.v 19), none, [19]⟩] [20]) (.cond (.v 20) (.seq (.rg [⟨some 4, .mv (.c (.bool false)), none, []⟩] [4]) .ret) .skip)) (.seq (.rg [⟨some 4, .mv (.c (.bool true)), none, []⟩] [4]) .ret))))) }
theorem k_laws_eqHandPart : okFun Go.Proofs.Try.prog 104 s_laws_eqHandPart = true := by kernel_rfl
/-- laws.eqHandSeen: function 105 -/
def s_laws_eqHandSeen : SFun := { n := 15, res := [.t 4], body := (.seq (.rg [⟨some 2, .box 102 (.v 0), none, [0]⟩, ⟨some 3, .box 103 (.v 1), none, [1]⟩, ⟨some 4, .mv (.c (.bool false)), none, [4]⟩] [2, 3]) (.seq (.seq (.rg [⟨some 5, .faddr 0 (.v 2), none, []⟩, ⟨some 6, .load1 (.v 5), none, [5]⟩, ⟨some 7, .faddr 0 (.v 3), none, []⟩, ⟨some 8, .load1 (.v 7), none, [7]⟩, ⟨some 9, .bin .neq (.v 6) (.v 8), none, [6, 8]⟩] [2, 3, 9]) (.cond (.v 9) (.seq (.rg [⟨some 4, .mv (.c (.bool false)), none, []⟩] [4]) .ret) .skip)) (.seq (.seq (.rg [⟨some 10, .faddr 1 (.v 2), none, [2]⟩, ⟨some 11, .load1 (.v 10), none, [10]⟩, ⟨some 12, .faddr 1 (.v 3), none, [3]⟩, ⟨some 13, .load1 (.v 12), none, [12]⟩, ⟨some 14, .bin .neq (.v 11) (.v 13), none, [11, 13]⟩] [14]) (.cond (.v 14) (.seq (.rg [⟨some 4, .mv (.c (.bool false)), none, []⟩] [4]) .ret) .skip)) (.seq (.rg [⟨some 4, .mv (.c (.bool true)), none, []⟩] [4]) .ret)))) }
theorem k_laws_eqHandSeen : okFun Go.Proofs.Try.prog 105 s_laws_eqHandSeen = true := by kernel_rfl
/-- laws.eqHandSector: function 106 -/
def s_laws_eqHandSector : SFun := { n := 28, res := [.t 4], body := (.seq (.rg [⟨some 2, .box 102 (.v 0), none, [0]⟩, ⟨some 3, .box 103 (.v 1), none, [1]⟩, ⟨some 4, .mv (.c (.bool false)), none, [4]⟩] [2, 3]) (.seq (.seq (.rg [⟨some 5, .faddr 0 (.v 2), none, []⟩, ⟨some 6, .load1 (.v 5), none, [5]⟩, ⟨some 7, .faddr 0 (.v 3), none, []⟩, ⟨some 8, .load1 (.v 7), none, [7]⟩, ⟨some 9, .eqB true (.v 6) (.v 8), none, [6, 8]⟩] [2, 3, 9]) (.cond (.v 9) (.seq (.rg [⟨some 4, .mv (.c (.bool false)), none, []⟩] [4]) .ret) .skip)) (.seq (.seq (.rg [⟨some 10, .faddr 1 (.v 2), none, []⟩, ⟨some 11, .loadN 3 (.v 10), none, [10]⟩, ⟨some 12, .faddr 1 (.v 3), none, []⟩, ⟨some 13, .loadN 3 (.v 12), none, [12]⟩, ⟨some 14, .call 18 [.v 11, .v 13], none, [11, 13]⟩, ⟨some 15, .not (.v 14), none, [14]⟩] [2, 3, 15]) (.cond (.v 15) (.seq (.rg [⟨some 4, .mv (.c (.bool false)), none, []⟩] [4]) .ret) .skip)) (.seq (.seq (.rg [⟨some 16, .faddr 4 (.v 2), none, []⟩, ⟨some 17, .loadN 3 (.v 16), none, [16]⟩, ⟨some 18, .faddr 4 (.v 3), none, []⟩, ⟨some 19, .loadN 3 (.v 18), none, [18]⟩, ⟨some 20, .call 18 [.v 17, .v 19], none, [17, 19]⟩, ⟨some 21, .not (.v 20), none, [20]⟩] [2, 3, 21]) (.cond (.v 21) (.seq (.rg [⟨some 4, .mv (.c (.bool false)), none, []⟩] [4]) .ret) .skip)) (.seq (.seq (.rg [⟨some 22, .faddr 7 (.v 2), none, [2]⟩, ⟨some 23, .load1 (.v 22), none, [22]⟩, ⟨some 24, .faddr 7 (.v 3), none, [3]⟩, ⟨some 25, .load1 (.v 24), none, [24]⟩, ⟨some 26, .call 58 [.v 23, .v 25], none, [23, 25]⟩, ⟨some 27, .not (.v 26), none, [26]⟩] [27]) (.cond (.v 27) (.seq (.rg [⟨some 4, .mv (.c (.bool false)), none, []⟩] [4]) .ret) .skip)) (.seq (.rg [⟨some 4, .mv (.c (.bool true)), none, []⟩] [4]) .ret)))))) }
theorem k_laws_eqHandSector : okFun Go.Proofs.Try.prog 106 s_laws_eqHandSector = true := by kernel_rfl
def l_laws_markHandOwnS_0 : SCode := (.seq (.seq (.rg [⟨some 6, .mv (.v 5), none, []⟩, ⟨some 7, .mv (.v 0), none, []⟩, ⟨some 8, .lenL (.v 7), none, [7]⟩, ⟨some 9, .bin .lss (.v 6) (.v 8), none, [6, 8]⟩] [0, 1, 5, 9]) (.cond (.v 9) .skip (.exit 0))) (.seq (.block 1 (.seq (.rg [⟨some 12, .mv (.v 0), none, []⟩, ⟨some 13, .mv (.v 5), none, []⟩, ⟨some 14, .mv (.v 1), none, []⟩, ⟨some 15, .call 59 [.v 14], none, [14]⟩, ⟨some 16, .iaddr 11 (.v 12) (.v 13), none, [12, 13]⟩, ⟨some 17, .faddr 0 (.v 16), none, [16]⟩, ⟨none, .store 1 (.v 17) (.v 15), none, [15, 17]⟩] [0, 1, 5]) (.seq (.rg [⟨some 18, .mv (.v 1), none, [1]⟩, ⟨some 19, .binN .add (.v 18) (.c (.int .i64 1)), none, [18]⟩, ⟨some 1, .mv (.v 19), none, [19]⟩] [0, 1, 5]) (.seq (.rg [⟨some 20, .mv (.v 0), none, []⟩, ⟨some 21, .mv (.v 5), none, []⟩, ⟨some 22, .mv (.v 1), none, []⟩, ⟨some 23, .iaddr 11 (.v 20) (.v 21), none, [20, 21]⟩, ⟨some 24, .faddr 1 (.v 23), none, [23]⟩, ⟨none, .store 1 (.v 24) (.v 22), none, [22, 24]⟩] [0, 1, 5]) (.seq (.rg [⟨some 25, .mv (.v 1), none, [1]⟩, ⟨some 26, .binN .add (.v 25) (.c (.int .i64 1)), none, [25]⟩, ⟨some 1, .mv (.v 26), none, [26]⟩] [0, 1, 5]) (.seq (.rg [⟨some 27, .mv (.v 0), none, []⟩, ⟨some 28, .mv (.v 5), none, []⟩, ⟨some 29, .mv (.v 1), none, []⟩, ⟨some 30, .iaddr 11 (.v 27) (.v 28), none, [27, 28]⟩, ⟨some 31, .faddr 2 (.v 30), none, [30]⟩, ⟨none, .store 1 (.v 31) (.v 29), none, [29, 31]⟩] [0, 1, 5]) (.seq (.rg [⟨some 32, .mv (.v 1), none, [1]⟩, ⟨some 33, .binN .add (.v 32) (.c (.int .i64 1)), none, [32]⟩, ⟨some 1, .mv (.v 33), none, [33]⟩] [0, 1, 5]) (.seq (.rg [⟨some 34, .mv (.v 0), none, []⟩, ⟨some 35, .mv (.v 5), none, []⟩, ⟨some 36, .mv (.v 1), none, []⟩, ⟨some 37, .call 59 [.v 36], none, [36]⟩, ⟨some 38, .iaddr 11 (.v 34) (.v 35), none, [34, 35]⟩, ⟨some 39, .faddr 3 (.v 38), none, [38]⟩, ⟨none, .store 1 (.v 39) (.v 37), none, [37, 39]⟩] [0, 1, 5]) (.seq (.rg [⟨some 40, .mv (.v 1), none, [1]⟩, ⟨some 41, .binN .add (.v 40) (.c (.int .i64 1)), none, [40]⟩, ⟨some 1, .mv (.v 41), none, [41]⟩] [0, 1, 5]) (.seq (.rg [⟨some 42, .mv (.v 0), none, []⟩, ⟨some 43, .mv (.v 5), none, []⟩, ⟨some 44, .mv (.v 1), none, []⟩, ⟨some 45, .iaddr 11 (.v 42) (.v 43), none, [42, 43]⟩, ⟨some 46, .faddr 4 (.v 45), none, [45]⟩, ⟨none, .store 1 (.v 46) (.v 44), none, [44, 46]⟩] [0, 1, 5]) (.seq (.rg [⟨some 47, .mv (.v 1), none, [1]⟩, ⟨some 48, .binN .add (.v 47) (.c (.int .i64 1)), none, [47]⟩, ⟨some 1, .mv (.v 48), none, [48]⟩] [0, 1, 5]) (.seq (.rg [⟨some 49, .mv (.v 0), none, []⟩, ⟨some 50, .mv (.v 5), none, []⟩, ⟨some 51, .mv (.v 1), none, []⟩, ⟨some 52, .iaddr 11 (.v 49) (.v 50), none, [49, 50]⟩, ⟨some 53, .faddr 5 (.v 52), none, [52]⟩, ⟨none, .store 1 (.v 53) (.v 51), none, [51, 53]⟩] [0, 1, 5]) (.seq (.rg [⟨some 54, .mv (.v 1), none, [1]⟩, ⟨some 55, .binN .add (.v 54) (.c (.int .i64 1)), none, [54]⟩, ⟨some 1, .mv (.v 55), none, [55]⟩] [0, 1, 5]) (.seq (.rg [⟨some 56, .mv (.v 0), none, []⟩, ⟨some 57, .mv (.v 5), none, []⟩, ⟨some 58, .iaddr 11 (.v 56) (.v 57), none, [56, 57]⟩, ⟨some 59, .faddr 6 (.v 58), none, [58]⟩, ⟨some 60, .load1 (.v 59), none, [59]⟩, ⟨some 61, .mv (.v 1), none, [1]⟩, ⟨some 62, .call 112 [.v 60, .v 61], none, [60, 61]⟩, ⟨some 1, .mv (.v 62), none, [62]⟩] [0, 1, 5]) (.seq (.rg [⟨some 63, .mv (.v 0), none, []⟩, ⟨some 64, .mv (.v 5), none, []⟩, ⟨some 65, .mv (.v 1), none, []⟩, ⟨some 66, .iaddr 11 (.v 63) (.v 64), none, [63, 64]⟩, ⟨some 67, .faddr 7 (.v 66), none, [66]⟩, ⟨none, .store 1 (.v 67) (.v 65), none, [65, 67]⟩] [0, 1, 5]) (.seq (.rg [⟨some 68, .mv (.v 1), none, [1]⟩, ⟨some 69, .binN .add (.v 68) (.c (.int .i64 1)), none, [68]⟩, ⟨some 1, .mv (.v 69), none, [69]⟩] [0, 1, 5]) (.seq (.rg [⟨some 70, .mv (.v 0), none, []⟩, ⟨some 71, .mv (.v 5), none, []⟩, ⟨some 72, .iaddr 11 (.v 70) (.v 71), none, [70, 71]⟩, ⟨some 73, .faddr 8 (.v 72), none, [72]⟩, ⟨some 74, .load1 (.v 73), none, [73]⟩, ⟨some 75, .mv (.v 1), none, [1]⟩, ⟨some 76, .call 112 [.v 74, .v 75], none, [74, 75]⟩, ⟨some 1, .mv (.v 76), none, [76]⟩] [0, 1, 5]) (.seq (.rg [⟨some 77, .mv (.v 0), none, []⟩, ⟨some 78, .mv (.v 5), none, []⟩, ⟨some 79, .iaddr 11 (.v 77) (.v 78), none, [77, 78]⟩, ⟨some 80, .faddr 9 (.v 79), none, [79]⟩, ⟨some 81, .load1 (.v 80), none, [80]⟩, ⟨some 82, .mv (.v 1), none, [1]⟩, ⟨some 83, .call 149 [.v 81, .v 82], none, [81, 82]⟩, ⟨some 1, .mv (.v 83), none, [83]⟩] [0, 1, 5]) (.seq (.rg [⟨some 84, .mv (.v 0), none, []⟩, ⟨some 85, .mv (.v 5), none, []⟩, ⟨some 86, .mv (.v 1), none, []⟩, ⟨some 87, .binN .rem (.v 86) (.c (.int .i64 3)), none, [86]⟩, ⟨some 88, .bin .eql (.v 87) (.c (.int .i64 0)), none, [87]⟩, ⟨some 89, .iaddr 11 (.v 84) (.v 85), none, [84, 85]⟩, ⟨some 90, .faddr 10 (.v 89), none, [89]⟩, ⟨none, .store 1 (.v 90) (.v 88), none, [88, 90]⟩] [0, 1, 5]) (.rg [⟨some 91, .mv (.v 1), none, [1]⟩, ⟨some 92, .binN .add (.v 91) (.c (.int .i64 1)), none, [91]⟩, ⟨some 1, .mv (.v 92), none, [92]⟩] [0, 1, 5])))))))))))))))))))) (.rg [⟨some 10, .mv (.v 5), none, [5]⟩, ⟨some 11, .binN .add (.v 10) (.c (.int .i64 1)), none, [10]⟩, ⟨some 5, .mv (.v 11), none, [11]⟩] [0, 1, 5])))
/-- laws.markHandOwnS: function 109 -/
def s_laws_markHandOwnS : SFun := { n := 94, res := [.t 4], body := (.seq (.rg [⟨some 4, .mv (.c (.int .i64 0)), none, [4]⟩] [0, 1]) (.seq (.seq (.rg [⟨some 5, .mv (.c (.int .i64 0)), none, []⟩] [0, 1, 5]) (.block 0 (.loop l_laws_markHandOwnS_0))) (.seq (.rg [⟨some 93, .mv (.v 1), none, [1]⟩, ⟨some 4, .mv (.v 93), none, [93]⟩] [4]) .ret))) }
theorem k_laws_markHandOwnS : okFun Go.Proofs.Try.prog 109 s_laws_markHandOwnS = true := by kernel_rfl
end Go.Ve

namespace Go.Ve
open Go.Proofs
set_option maxRecDepth 100000
def l_laws_markHandPartS_0 : SCode := (.seq (.seq (.rg [⟨some 6, .mv (.v 5), none, []⟩, ⟨some 7, .mv (.v 0), none, []⟩, ⟨some 8, .lenL (.v 7), none, [7]⟩, ⟨some 9, .bin .lss (.v 6) (.v 8), none, [6, 8]⟩] [0, 1, 5, 9]) (.cond (.v 9) .skip (.exit 0))) (.seq (.block 1 (.seq (.rg [⟨some 12, .mv (.v 0), none, []⟩, ⟨some 13, .mv (.v 5), none, []⟩, ⟨some 14, .mv (.v 1), none, []⟩, ⟨some 15, .call 59 [.v 14], none, [14]⟩, ⟨some 16, .iaddr 3 (.v 12) (.v 13), none, [12, 13]⟩, ⟨some 17, .faddr 0 (.v 16), none, [16]⟩, ⟨none, .store 1 (.v 17) (.v 15), none, [15, 17]⟩] [0, 1, 5]) (.seq (.rg [⟨some 18, .mv (.v 1), none, [1]⟩, ⟨some 19, .binN .add (.v 18) (.c (.int .i64 1)), none, [18]⟩, ⟨some 1, .mv (.v 19), none, [19]⟩] [0, 1, 5]) (.seq (.rg [⟨some 20, .mv (.v 0), none, []⟩, ⟨some 21, .mv (.v 5), none, []⟩, ⟨some 22, .mv (.v 1), none, []⟩, ⟨some 23, .iaddr 3 (.v 20) (.v 21), none, [20, 21]⟩, ⟨some 24, .faddr 1 (.v 23), none, [23]⟩, ⟨none, .store 1 (.v 24) (.v 22), none, [22, 24]⟩] [0, 1, 5]) (.seq (.rg [⟨some 25, .mv (.v 1), none, [1]⟩, ⟨some 26, .binN .add (.v 25) (.c (.int .i64 1)), none, [25]⟩, ⟨some 1, .mv (.v 26), none, [26]⟩] [0, 1, 5]) (.rg [⟨some 27, .mv (.v 0), none, []⟩, ⟨some 28, .mv (.v 5), none, []⟩, ⟨some 29, .iaddr 3 (.v 27) (.v 28), none, [27, 28]⟩, ⟨some 30, .faddr 2 (.v 29), none, [29]⟩, ⟨some 31, .load1 (.v 30), none, [30]⟩, ⟨some 32, .mv (.v 1), none, [1]⟩, ⟨some 33, .call 112 [.v 31, .v 32], none, [31, 32]⟩, ⟨some 1, .mv (.v 33), none, [33]⟩] [0, 1, 5])))))) (.rg [⟨some 10, .mv (.v 5), none, [5]⟩, ⟨some 11, .binN .add (.v 10) (.c (.int .i64 1)), none, [10]⟩, ⟨some 5, .mv (.v 11), none, [11]⟩] [0, 1, 5])))
/-- laws.markHandPartS: function 110 -/
def s_laws_markHandPartS : SFun := { n := 35, res := [.t 4], body := (.seq (.rg [⟨some 4, .mv (.c (.int .i64 0)), none, [4]⟩] [0, 1]) (.seq (.seq (.rg [⟨some 5, .mv (.c (.int .i64 0)), none, []⟩] [0, 1, 5]) (.block 0 (.loop l_laws_markHandPartS_0))) (.seq (.rg [⟨some 34, .mv (.v 1), none, [1]⟩, ⟨some 4, .mv (.v 34), none, [34]⟩] [4]) .ret))) }
theorem k_laws_markHandPartS : okFun Go.Proofs.Try.prog 110 s_laws_markHandPartS = true := by kernel_rfl
def l_laws_markHandSeenS_0 : SCode := (.seq (.seq (.rg [⟨some 6, .mv (.v 5), none, []⟩, ⟨some 7, .mv (.v 0), none, []⟩, ⟨some 8, .lenL (.v 7), none, [7]⟩, ⟨some 9, .bin .lss (.v 6) (.v 8), none, [6, 8]⟩] [0, 1, 5, 9]) (.cond (.v 9) .skip (.exit 0))) (.seq (.block 1 (.seq (.rg [⟨some 12, .mv (.v 0), none, []⟩, ⟨some 13, .mv (.v 5), none, []⟩, ⟨some 14, .mv (.v 1), none, []⟩, ⟨some 15, .call 59 [.v 14], none, [14]⟩, ⟨some 16, .iaddr 2 (.v 12) (.v 13), none, [12, 13]⟩, ⟨some 17, .faddr 0 (.v 16), none, [16]⟩, ⟨none, .store 1 (.v 17) (.v 15), none, [15, 17]⟩] [0, 1, 5]) (.seq (.rg [⟨some 18, .mv (.v 1), none, [1]⟩, ⟨some 19, .binN .add (.v 18) (.c (.int .i64 1)), none, [18]⟩, ⟨some 1, .mv (.v 19), none, [19]⟩] [0, 1, 5]) (.seq (.rg [⟨some 20, .mv (.v 0), none, []⟩, ⟨some 21, .mv (.v 5), none, []⟩, ⟨some 22, .mv (.v 1), none, []⟩, ⟨some 23, .iaddr 2 (.v 20) (.v 21), none, [20, 21]⟩, ⟨some 24, .faddr 1 (.v 23), none, [23]⟩, ⟨none, .store 1 (.v 24) (.v 22), none, [22, 24]⟩] [0, 1, 5]) (.rg [⟨some 25, .mv (.v 1), none, [1]⟩, ⟨some 26, .binN .add (.v 25) (.c (.int .i64 1)), none, [25]⟩, ⟨some 1, .mv (.v 26), none, [26]⟩] [0, 1, 5]))))) (.rg [⟨some 10, .mv (.v 5), none, [5]⟩, ⟨some 11, .binN .add (.v 10) (.c (.int .i64 1)), none, [10]⟩, ⟨some 5, .mv (.v 11), none, [11]⟩] [0, 1, 5])))
/-- laws.markHandSeenS: function 111 -/
def s_laws_markHandSeenS : SFun := { n := 28, res := [.t 4], body := (.seq (.rg [⟨some 4, .mv (.c (.int .i64 0)), none, [4]⟩] [0, 1]) (.seq (.seq (.rg [⟨some 5, .mv (.c (.int .i64 0)), none, []⟩] [0, 1, 5]) (.block 0 (.loop l_laws_markHandSeenS_0))) (.seq (.rg [⟨some 27, .mv (.v 1), none, [1]⟩, ⟨some 4, .mv (.v 27), none, [27]⟩] [4]) .ret))) }
theorem k_laws_markHandSeenS : okFun Go.Proofs.Try.prog 111 s_laws_markHandSeenS = true := by kernel_rfl
def l_laws_heldHandOwnS_0 : SCode := (.seq (.seq (.rg [⟨some 6, .mv (.v 5), none, []⟩, ⟨some 7, .mv (.v 0), none, []⟩, ⟨some 8, .lenL (.v 7), none, [7]⟩, ⟨some 9, .bin .lss (.v 6) (.v 8), none, [6, 8]⟩] [0, 1, 5, 9]) (.cond (.v 9) .skip (.exit 0))) (.seq (.block 1 (.seq (.seq (.rgd [⟨some 12, .mv (.v 0), none, []⟩, ⟨some 13, .mv (.v 5), none, []⟩, ⟨some 14, .iaddr 11 (.v 12) (.v 13), none, []⟩, ⟨some 15, .faddr 0 (.v 14), none, []⟩, ⟨some 16, .load1 (.v 15), none, []⟩, ⟨some 17, .mv (.v 1), none, []⟩, ⟨some 18, .call 59 [.v 17], none, []⟩, ⟨some 19, .bin .neq (.v 16) (.v 18), none, []⟩] [0, 1, 5, 19] [none, none, some [], some [], some [], none, some [3, 2, 1], none]) (.cond (.v 19) (.seq (.rg [⟨some 4, .mv (.c (.int .i64 (-1))), none, []⟩] [4]) .ret) .skip)) (.seq (.rg [⟨some 20, .mv (.v 1), none, [1]⟩, ⟨some 21, .binN .add (.v 20) (.c (.int .i64 1)), none, [20]⟩, ⟨some 1, .mv (.v 21), none, [21]⟩] [0, 1, 5]) (.seq (.seq (.rg [⟨some 22, .mv (.v 0), none, []⟩, ⟨some 23, .mv (.v 5), none, []⟩, ⟨some 24, .iaddr 11 (.v 22) (.v 23), none, [22, 23]⟩, ⟨some 25, .faddr 1 (.v 24), none, [24]⟩, ⟨some 26, .load1 (.v 25), none, [25]⟩, ⟨some 27, .mv (.v 1), none, []⟩, ⟨some 28, .bin .neq (.v 26) (.v 27), none, [26, 27]⟩] [0, 1, 5, 28]) (.cond (.v 28) (.seq (.rg [⟨some 4, .mv (.c (.int .i64 (-1))), none, []⟩] [4]) .ret) .skip)) (.seq (.rg [⟨some 29, .mv (.v 1), none, [1]⟩, ⟨some 30, .binN .add (.v 29) (.c (.int .i64 1)), none, [29]⟩, ⟨some 1, .mv (.v 30), none, [30]⟩] [0, 1, 5]) (.seq (.seq (.rg [⟨some 31, .mv (.v 0), none, []⟩, ⟨some 32, .mv (.v 5), none, []⟩, ⟨some 33, .iaddr 11 (.v 31) (.v 32), none, [31, 32]⟩, ⟨some 34, .faddr 2 (.v 33), none, [33]⟩, ⟨some 35, .load1 (.v 34), none, [34]⟩, ⟨some 36, .mv (.v 1), none, []⟩, ⟨some 37, .bin .neq (.v 35) (.v 36), none, [35, 36]⟩] [0, 1, 5, 37]) (.cond (.v 37) (.seq (.rg [⟨some 4, .mv (.c (.int .i64 (-1))), none, []⟩] [4]) .ret) .skip)) (.seq (.rg [⟨some 38, .mv (.v 1), none, [1]⟩, ⟨some 39, .binN .add (.v 38) (.c (.int .i64 1)), none, [38]⟩, ⟨some 1, .mv (.v 39), none, [39]⟩] [0, 1, 5]) (.seq (.seq (.rgd [⟨some 40, .mv (.v 0), none, []⟩, ⟨some 41, .mv (.v 5), none, []⟩, ⟨some 42, .iaddr 11 (.v 40) (.v 41), none, []⟩, ⟨some 43, .faddr 3 (.v 42), none, []⟩, ⟨some 44, .load1 (.v 43), none, []⟩, ⟨some 45, .mv (.v 1), none, []⟩, ⟨some 46, .call 59 [.v 45], none, []⟩, ⟨some 47, .bin .neq (.v 44) (.v 46), none, []⟩] [0, 1, 5, 47] [none, none, some [], some [], some [], none, some [3, 2, 1], none]) (.cond (.v 47) (.seq (.rg [⟨some 4, .mv (.c (.int .i64 (-1))), none, []⟩] [4]) .ret) .skip)) (.seq (.rg [⟨some 48, .mv (.v 1), none, [1]⟩, ⟨some 49, .binN .add (.v 48) (.c (.int .i64 1)), none, [48]⟩, ⟨some 1, .mv (.v 49), none, [49]⟩] [0, 1, 5]) (.seq (.seq (.rg [⟨some 50, .mv (.v 0), none, []⟩, ⟨some 51, .mv (.v 5), none, []⟩, ⟨some 52, .iaddr 11 (.v 50) (.v 51), none, [50, 51]⟩, ⟨some 53, .faddr 4 (.v 52), none, [52]⟩, ⟨some 54, .load1 (.v 53), none, [53]⟩, ⟨some 55, .mv (.v 1), none, []⟩, ⟨some 56, .bin .neq (.v 54) (.v 55), none, [54, 55]⟩] [0, 1, 5, 56]) (.cond (.v 56) (.seq (.rg [⟨some 4, .mv (.c (.int .i64 (-1))), none, []⟩] [4]) .ret) .skip)) (.seq (.rg [⟨some 57, .mv (.v 1), none, [1]⟩, ⟨some 58, .binN .add (.v 57) (.c (.int .i64 1)), none, [57]⟩, ⟨some 1, .mv (.v 58), none, [58]⟩] [0, 1, 5]) (.seq (.seq (.rg [⟨some 59, .mv (.v 0), none, []⟩, ⟨some 60, .mv (.v 5), none, []⟩, ⟨some 61, .iaddr 11 (.v 59) (.v 60), none, [59, 60]⟩, ⟨some 62, .faddr 5 (.v 61), none, [61]⟩, ⟨some 63, .load1 (.v 62), none, [62]⟩, ⟨some 64, .mv (.v 1), none, []⟩, ⟨some 65, .bin .neq (.v 63) (.v 64), none, [63, 64]⟩] [0, 1, 5, 65]) (.cond (.v 65) (.seq (.rg [⟨some 4, .mv (.c (.int .i64 (-1))), none, []⟩] [4]) .ret) .skip)) (.seq (.rg [⟨some 66, .mv (.v 1), none, [1]⟩, ⟨some 67, .binN .add (.v 66) (.c (.int .i64 1)), none, [66]⟩, ⟨some 1, .mv (.v 67), none, [67]⟩] [0, 1, 5]) (.seq (.rg [⟨some 68, .mv (.v 0), none, []⟩, ⟨some 69, .mv (.v 5), none, []⟩, ⟨some 70, .iaddr 11 (.v 68) (.v 69), none, [68, 69]⟩, ⟨some 71, .faddr 6 (.v 70), none, [70]⟩, ⟨some 72, .load1 (.v 71), none, [71]⟩, ⟨some 73, .mv (.v 1), none, [1]⟩, ⟨some 74, .call 116 [.v 72, .v 73], none, [72, 73]⟩, ⟨some 1, .mv (.v 74), none, [74]⟩] [0, 1, 5]) (.seq (.seq (.rg [⟨some 75, .mv (.v 1), none, []⟩, ⟨some 76, .bin .lss (.v 75) (.c (.int .i64 0)), none, [75]⟩] [0, 1, 5, 76]) (.cond (.v 76) (.seq (.rg [⟨some 4, .mv (.c (.int .i64 (-1))), none, []⟩] [4]) .ret) .skip)) (.seq (.seq (.rg [⟨some 77, .mv (.v 0), none, []⟩, ⟨some 78, .mv (.v 5), none, []⟩, ⟨some 79, .iaddr 11 (.v 77) (.v 78), none, [77, 78]⟩, ⟨some 80, .faddr 7 (.v 79), none, [79]⟩, ⟨some 81, .load1 (.v 80), none, [80]⟩, ⟨some 82, .mv (.v 1), none, []⟩, ⟨some 83, .bin .neq (.v 81) (.v 82), none, [81, 82]⟩] [0, 1, 5, 83]) (.cond (.v 83) (.seq (.rg [⟨some 4, .mv (.c (.int .i64 (-1))), none, []⟩] [4]) .ret) .skip)) (.seq (.rg [⟨some 84, .mv (.v 1), none, [1]⟩, ⟨some 85, .binN .add (.v 84) (.c (.int .i64 1)), none, [84]⟩, ⟨some 1, .mv (.v 85), none, [85]⟩] [0, 1, 5]) (.seq (.rg [⟨some 86, .mv (.v 0), none, []⟩, ⟨some 87, .mv (.v 5), none, []⟩, ⟨some 88, .iaddr 11 (.v 86) (.v 87), none, [86, 87]⟩, ⟨some 89, .faddr 8 (.v 88), none, [88]⟩, ⟨some 90, .load1 (.v 89), none, [89]⟩, ⟨some 91, .mv (.v 1), none, [1]⟩, ⟨some 92, .call 116 [.v 90, .v 91], none, [90, 91]⟩, ⟨some 1, .mv (.v 92), none, [92]⟩] [0, 1, 5]) (.seq (.seq (.rg [⟨some 93, .mv (.v 1), none, []⟩, ⟨some 94, .bin .lss (.v 93) (.c (.int .i64 0)), none, [93]⟩] [0, 1, 5, 94]) (.cond (.v 94) (.seq (.rg [⟨some 4, .mv (.c (.int .i64 (-1))), none, []⟩] [4]) .ret) .skip)) (.seq (.rg [⟨some 95, .mv (.v 0), none, []⟩, ⟨some 96, .mv (.v 5), none, []⟩, ⟨some 97, .iaddr 11 (.v 95) (.v 96), none, [95, 96]⟩, ⟨some 98, .faddr 9 (.v 97), none, [97]⟩, ⟨some 99, .load1 (.v 98), none, [98]⟩, ⟨some 100, .mv (.v 1), none, [1]⟩, ⟨some 101, .call 150 [.v 99, .v 100], none, [99, 100]⟩, ⟨some 1, .mv (.v 101), none, [101]⟩] [0, 1, 5]) (.seq (.seq (.rg [⟨some 102, .mv (.v 1), none, []⟩, ⟨some 103, .bin .lss (.v 102) (.c (.int .i64 0)), none, [102]⟩] [0, 1, 5, 103]) (.cond (.v 103) (.seq (.rg [⟨some 4, .mv (.c (.int .i64 (-1))), none, []⟩] [4]) .ret) .skip)) (.seq (.seq (.rg [⟨some 104, .mv (.v 0), none, []⟩, ⟨some 105, .mv (.v 5), none, []⟩, ⟨some 106, .iaddr 11 (.v 104) (.v 105), none, [104, 105]⟩, ⟨some 107, .faddr 10 (.v 106), none, [106]⟩, ⟨some 108, .load1 (.v 107), none, [107]⟩, ⟨some 109, .mv (.v 1), none, []⟩, ⟨some 110, .binN .rem (.v 109) (.c (.int .i64 3)), none, [109]⟩, ⟨some 111, .bin .eql (.v 110) (.c (.int .i64 0)), none, [110]⟩, ⟨some 112, .eqB true (.v 108) (.v 111), none, [108, 111]⟩] [0, 1, 5, 112]) (.cond (.v 112) (.seq (.rg [⟨some 4, .mv (.c (.int .i64 (-1))), none, []⟩] [4]) .ret) .skip)) (.rg [⟨some 113, .mv (.v 1), none, [1]⟩, ⟨some 114, .binN .add (.v 113) (.c (.int .i64 1)), none, [113]⟩, ⟨some 1, .mv (.v 114), none, [114]⟩] [0, 1, 5]))))))))))))))))))))))) (.rg [⟨some 10, .mv (.v 5), none, [5]⟩, ⟨some 11, .binN .add (.v 10) (.c (.int .i64 1)), none, [10]⟩, ⟨some 5, .mv (.v 11), none, [11]⟩] [0, 1, 5])))
/-- laws.heldHandOwnS: function 113 -/
def s_laws_heldHandOwnS : SFun := { n := 116, res := [.t 4], body := (.seq (.rg [⟨some 4, .mv (.c (.int .i64 0)), none, [4]⟩] [0, 1]) (.seq (.seq (.rg [⟨some 5, .mv (.c (.int .i64 0)), none, []⟩] [0, 1, 5]) (.block 0 (.loop l_laws_heldHandOwnS_0))) (.seq (.rg [⟨some 115, .mv (.v 1), none, [1]⟩, ⟨some 4, .mv (.v 115), none, [115]⟩] [4]) .ret))) }
theorem k_laws_heldHandOwnS : okFun Go.Proofs.Try.prog 113 s_laws_heldHandOwnS = true := by kernel_rfl
def l_laws_heldHandPartS_0 : SCode := (.seq (.seq (.rg [⟨some 6, .mv (.v 5), none, []⟩, ⟨some 7, .mv (.v 0), none, []⟩, ⟨some 8, .lenL (.v 7), none, [7]⟩, ⟨some 9, .bin .lss (.v 6) (.v 8), none, [6, 8]⟩] [0, 1, 5, 9]) (.cond (.v 9) .skip (.exit 0))) (.seq (.block 1 (.seq (.seq (.rgd [⟨some 12, .mv (.v 0), none, []⟩, ⟨some 13, .mv (.v 5), none, []⟩, ⟨some 14, .iaddr 3 (.v 12) (.v 13), none, []⟩, ⟨some 15, .faddr 0 (.v 14), none, []⟩, ⟨some 16, .load1 (.v 15), none, []⟩, ⟨some 17, .mv (.v 1), none, []⟩, ⟨some 18, .call 59 [.v 17], none, []⟩, ⟨some 19, .bin .neq (.v 16) (.v 18), none, []⟩] [0, 1, 5, 19] [none, none, some [], some [], some [], none, some [3, 2, 1], none]) (.cond (.v 19) (.seq (.rg [⟨some 4, .mv (.c (.int .i64 (-1))), none, []⟩] [4]) .ret) .skip)) (.seq (.rg [⟨some 20, .mv (.v 1), none, [1]⟩, ⟨some 21, .binN .add (.v 20) (.c (.int .i64 1)), none, [20]⟩, ⟨some 1, .mv (.v 21), none, [21]⟩] [0, 1, 5]) (.seq (.seq (.rg [⟨some 22, .mv (.v 0), none, []⟩, ⟨some 23, .mv (.v 5), none, []⟩, ⟨some 24, .iaddr 3 (.v 22) (.v 23), none, [22, 23]⟩, ⟨some 25, .faddr 1 (.v 24), none, [24]⟩, ⟨some 26, .load1 (.v 25), none, [25]⟩, ⟨some 27, .mv (.v 1), none, []⟩, ⟨some 28, .bin .neq (.v 26) (.v 27), none, [26, 27]⟩] [0, 1, 5, 28]) (.cond (.v 28) (.seq (.rg [⟨some 4, .mv (.c (.int .i64 (-1))), none, []⟩] [4]) .ret) .skip)) (.seq (.rg [⟨some 29, .mv (.v 1), none, [1]⟩, ⟨some 30, .binN .add (.v 29) (.c (.int .i64 1)), none, [29]⟩, ⟨some 1, .mv (.v 30), none, [30]⟩] [0, 1, 5]) (.seq (.rg [⟨some 31, .mv (.v 0), none, []⟩, ⟨some 32, .mv (.v 5), none, []⟩, ⟨some 33, .iaddr 3 (.v 31) (.v 32), none, [31, 32]⟩, ⟨some 34, .faddr 2 (.v 33), none, [33]⟩, ⟨some 35, .load1 (.v 34), none, [34]⟩, ⟨some 36, .mv (.v 1), none, [1]⟩, ⟨some 37, .call 116 [.v 35, .v 36], none, [35, 36]⟩, ⟨some 1, .mv (.v 37), none, [37]⟩] [0, 1, 5]) (.seq (.rg [⟨some 38, .mv (.v 1), none, []⟩, ⟨some 39, .bin .lss (.v 38) (.c (.int .i64 0)), none, [38]⟩] [0, 1, 5, 39]) (.cond (.v 39) (.seq (.rg [⟨some 4, .mv (.c (.int .i64 (-1))), none, []⟩] [4]) .ret) .skip)))))))) (.rg [⟨some 10, .mv (.v 5), none, [5]⟩, ⟨some 11, .binN .add (.v 10) (.c (.int .i64 1)), none, [10]⟩, ⟨some 5, .mv (.v 11), none, [11]⟩] [0, 1, 5])))
/-- laws.heldHandPartS: function 114 -/
def s_laws_heldHandPartS : SFun := { n := 41, res := [.t 4], body := (.seq (.rg [⟨some 4, .mv (.c (.int .i64 0)), none, [4]⟩] [0, 1]) (.seq (.seq (.rg [⟨some 5, .mv (.c (.int .i64 0)), none, []⟩] [0, 1, 5]) (.block 0 (.loop l_laws_heldHandPartS_0))) (.seq (.rg [⟨some 40, .mv (.v 1), none, [1]⟩, ⟨some 4, .mv (.v 40), none, [40]⟩] [4]) .ret))) }
theorem k_laws_heldHandPartS : okFun Go.Proofs.Try.prog 114 s_laws_heldHandPartS = true := by kernel_rfl
def l_laws_heldHandSeenS_0 : SCode := (.seq (.seq (.rg [⟨some 6, .mv (.v 5), none, []⟩, ⟨some 7, .mv (.v 0), none, []⟩, ⟨some 8, .lenL (.v 7), none, [7]⟩, ⟨some 9, .bin .lss (.v 6) (.v 8), none, [6, 8]⟩] [0, 1, 5, 9]) (.cond (.v 9) .skip (.exit 0))) (.seq (.block 1 (.seq (.seq (.rgd [⟨some 12, .mv (.v 0), none, []⟩, ⟨some 13, .mv (.v 5), none, []⟩, ⟨some 14, .iaddr 2 (.v 12) (.v 13), none, []⟩, ⟨some 15, .faddr 0 (.v 14), none, []⟩, ⟨some 16, .load1 (.v 15), none, []⟩, ⟨some 17, .mv (.v 1), none, []⟩, ⟨some 18, .call 59 [.v 17], none, []⟩, ⟨some 19, .bin .neq (.v 16) (.v 18), none, []⟩] [0, 1, 5, 19] [none, none, some [], some [], some [], none, some [3, 2, 1], none]) (.cond (.v 19) (.seq (.rg [⟨some 4, .mv (.c (.int .i64 (-1))), none, []⟩] [4]) .ret) .skip)) (.seq (.rg [⟨some 20, .mv (.v 1), none, [1]⟩, ⟨some 21, .binN .add (.v 20) (.c (.int .i64 1)), none, [20]⟩, ⟨some 1, .mv (.v 21), none, [21]⟩] [0, 1, 5]) (.seq (.seq (.rg [⟨some 22, .mv (.v 0), none, []⟩, ⟨some 23, .mv (.v 5), none, []⟩, ⟨some 24, .iaddr 2 (.v 22) (.v 23), none, [22, 23]⟩, ⟨some 25, .faddr 1 (.v 24), none, [24]⟩, ⟨some 26, .load1 (.v 25), none, [25]⟩, ⟨some 27, .mv (.v 1), none, []⟩, ⟨some 28, .bin .neq (.v 26) (.v 27), none, [26, 27]⟩] [0, 1, 5, 28]) (.cond (.v 28) (.seq (.rg [⟨some 4, .mv (.c (.int .i64 (-1))), none, []⟩] [4]) .ret) .skip)) (.rg [⟨some 29, .mv (.v 1), none, [1]⟩, ⟨some 30, .binN .add (.v 29) (.c (.int .i64 1)), none, [29]⟩, ⟨some 1, .mv (.v 30), none, [30]⟩] [0, 1, 5]))))) (.rg [⟨some 10, .mv (.v 5), none, [5]⟩, ⟨some 11, .binN .add (.v 10) (.c (.int .i64 1)), none, [10]⟩, ⟨some 5, .mv (.v 11), none, [11]⟩] [0, 1, 5])))
/-- laws.heldHandSeenS: function 115 -/
def s_laws_heldHandSeenS : SFun := { n := 32, res := [.t 4], body := (.seq (.rg [⟨some 4, .mv (.c (.int .i64 0)), none, [4]⟩] [0, 1]) (.seq (.seq (.rg [⟨some 5, .mv (.c (.int .i64 0)), none, []⟩] [0, 1, 5]) (.block 0 (.loop l_laws_heldHandSeenS_0))) (.seq (.rg [⟨some 31, .mv (.v 1), none, [1]⟩, ⟨some 4, .mv (.v 31), none, [31]⟩] [4]) .ret))) }
theorem k_laws_heldHandSeenS : okFun Go.Proofs.Try.prog 115 s_laws_heldHandSeenS = true := by kernel_rfl
def l_laws_eqStringS_0 : SCode := (.seq (.seq (.rg [⟨some 11, .mv (.v 5), none, []⟩, ⟨some 12, .mv (.v 0), none, []⟩, ⟨some 13, .lenL (.v 12), none, [12]⟩, ⟨some 14, .bin .lss (.v 11) (.v 13), none, [11, 13]⟩] [0, 1, 5, 14]) (.cond (.v 14) .skip (.exit 0))) (.seq (.block 1 (.seq (.rgd [⟨some 17, .mv (.v 0), none, []⟩, ⟨some 18, .mv (.v 5), none, []⟩, ⟨some 19, .iaddr 1 (.v 17) (.v 18), none, []⟩, ⟨some 20, .load1 (.v 19), none, []⟩, ⟨some 21, .mv (.v 1), none, []⟩, ⟨some 22, .mv (.v 5), none, []⟩, ⟨some 23, .iaddr 1 (.v 21) (.v 22), none, []⟩, ⟨some 24, .load1 (.v 23), none, []⟩, ⟨some 25, .bin .neq (.v 20) (.v 24), none, []⟩] [0, 1, 5, 25] [none, none, none, none, none, none, none, none, none]) (.cond (.v 25) (.seq (.rg [⟨some 4, .mv (.c (.bool false)), none, []⟩] [4]) .ret) .skip))) (.rg [⟨some 15, .mv (.v 5), none, [5]⟩, ⟨some 16, .binN .add (.v 15) (.c (.int .i64 1)), none, [15]⟩, ⟨some 5, .mv (.v 16), none, [16]⟩] [0, 1, 5])))
/-- laws.eqStringS: function 148 -/
def s_laws_eqStringS : SFun := { n := 26, res := [.t 4], body := (.seq (.rg [⟨some 4, .mv (.c (.bool false)), none, [4]⟩] [0, 1]) (.seq (.seq (.rg [⟨some 6, .mv (.v 0), none, []⟩, ⟨some 7, .lenL (.v 6), none, [6]⟩, ⟨some 8, .mv (.v 1), none, []⟩, ⟨some 9, .lenL (.v 8), none, [8]⟩, ⟨some 10, .bin .neq (.v 7) (.v 9), none, [7, 9]⟩] [0, 1, 10]) (.cond (.v 10) (.seq (.rg [⟨some 4, .mv (.c (.bool false)), none, []⟩] [4]) .ret) .skip)) (.seq (.seq (.rg [⟨some 5, .mv (.c (.int .i64 0)), none, []⟩] [0, 1, 5]) (.block 0 (.loop l_laws_eqStringS_0))) (.seq (.rg [⟨some 4, .mv (.c (.bool true)), none, []⟩] [4]) .ret)))) }
theorem k_laws_eqStringS : okFun Go.Proofs.Try.prog 148 s_laws_eqStringS = true := by kernel_rfl
end Go.Ve

namespace Go.Ve
open Go.Proofs
set_option linter.unusedSimpArgs false
set_option linter.unusedVariables false
set_option maxRecDepth 100000
noncomputable abbrev P := Go.Proofs.Try.prog
theorem hm : P.follows .mixedOrders = true := by kernel_rfl
theorem c_within (n lo hi : Int) (hp : True) : Contract P 75 [.int .i64 n, .int .i64 lo, .int .i64 hi] [] (.bool (decide (lo ≤ n ∧ n ≤ hi))) [] := by
  refine fn_sound (Env.nil P) hm k_impl_within (Nat.le_of_ble_eq_true rfl) rfl ?_
  unfold s_impl_within
  simp only [w_skip, w_rg, w_rgd, w_seq, w_cond, w_block, w_loop, w_exit, w_ret, w_gh, w_rg0, w_rg1, w_rgT, w_rgF, w_run, w_psd, w_und, w_dr0, w_dr1, w_drT, w_drF, w_drRun, w_drPsd, w_drUnd, w_drKn, w_drKs, w_putK, w_trimK, w_thenN, w_thenE, w_thenR, w_scope, w_label, w_blkN, w_blkE, w_blkR, w_call, w_effK, brU_true, brU_false, brU_u, brU_not, brU_and, brU_or, brU_dec, brU_eq, brU_ne, br_true, br_false, br_not, br_and, br_or, br_dec, br_eq, br_ne, w_getE0, w_getE1, w_setE0, w_setE1, w_dropE0, w_dropE1, w_drop0, w_drop1, w_getM0, w_getM1, w_setM0, w_setM1, ev_v, ev_c, w_putS, w_putN, w_lit, w_apU0, w_apU1, w_apU2, w_trim, enumE0, enumE1, w_callWp, w_callA0, w_callA1, w_R0, w_R1, w_R2, w_T2, w_callL, w_callT, w_T1, w_T0, o_mv, o_newnil, o_pick, o_bin, o_binN, o_neg, o_not, o_eqB, o_eqS, o_conv, o_alloc, o_box, o_load1, o_loadN, o_store, o_nilck, o_faddr, o_field1, o_fieldN, o_iaddr, o_istr, o_slStr, o_slSl, o_lenS, o_lenL, o_mx, o_mn, o_ext, o_build, o_lit, o_litOwn, o_app, o_mk, o_mvfrz, l_int, l_bool, l_str, l_agg, l_sl, l_own, l_ptr, l_pp, i_int, i_bool, i_str, i_sl, i_own, i_ptr, i_pp, all0, all1, e_ok1, eff, effBin, effBinN, ld_ptr, ld_pp, ld_elt, ia_own, ia_arr, el_1, el_N, load1K, faddrE, r_iaddr, sg_S, sg_c, sg_n, purL, pur, List.map, List.drop, List.take, List.length, List.foldl, List.append_eq, List.nil_append, List.cons_append, List.getD_cons_zero, List.getD_cons_succ, reduceIte, Nat.reduceEqDiff, Nat.reduceAdd, Nat.reduceLeDiff, true_and, and_true, Bool.not_true, Bool.not_false, Bool.and_true, Bool.true_and, Bool.and_self, reduceCtorEq, true_implies, false_implies, implies_true, decide_eq_true_eq, Option.map_some, fpOf, fpX, SOp.xs, oX, refs, refsL, dom, disj, List.all_nil, List.all_cons, List.contains_cons, List.contains_nil, Nat.reduceBEq, Bool.or_false, Bool.false_or, List.append_nil, Bool.not_false, Bool.not_true, List.forall_mem_cons, fm0, List.set, Nat.reduceLT, ne_eq, not_false_eq_true, not_true_eq_false
, ret1, ret1N, keep0, keep1, rf_int, rf_bool, rf_str, rf_sl, rf_agg, rf_tup, rfL0, rfL1, re_t, re_cN, re_L0, re_L1, ret_tup, ret_one, decide_true, AV.bool.injEq, AV.int.injEq, Nat.reduceLeDiff, Bool.true_eq, Bool.false_eq, decide_eq_true_eq, decide_eq_false_iff_not]
  repeat' (first | apply And.intro | intro _)
  all_goals (first | trivial | omega | (simp_all; done) | (simp_all; omega))
def t_within : List AV → Option (Prop × AV)
  | [.int .i64 n, .int .i64 lo, .int .i64 hi] => some (True, .bool (decide (lo ≤ n ∧ n ≤ hi)))
  | _ => none
theorem h_within : ∀ args p v, t_within args = some (p, v) → p → Contract P 75 args [] v [] ∧ noref v = true ∧ No99 v := by
  intro args p v h1 h2
  unfold t_within at h1
  split at h1
  · cases h1; exact ⟨c_within _ _ _ h2, rfl, trivial⟩
  · cases h1
theorem c_l31In (n lo hi : Int) (hp : True) : Contract P 48 [.int .i64 n, .int .i64 lo, .int .i64 hi] [] (.bool (decide (lo ≤ n ∧ n ≤ hi))) [] := by
  refine fn_sound (Env.nil P) hm k_spec_l31In (Nat.le_of_ble_eq_true rfl) rfl ?_
  unfold s_spec_l31In
  simp only [w_skip, w_rg, w_rgd, w_seq, w_cond, w_block, w_loop, w_exit, w_ret, w_gh, w_rg0, w_rg1, w_rgT, w_rgF, w_run, w_psd, w_und, w_dr0, w_dr1, w_drT, w_drF, w_drRun, w_drPsd, w_drUnd, w_drKn, w_drKs, w_putK, w_trimK, w_thenN, w_thenE, w_thenR, w_scope, w_label, w_blkN, w_blkE, w_blkR, w_call, w_effK, brU_true, brU_false, brU_u, brU_not, brU_and, brU_or, brU_dec, brU_eq, brU_ne, br_true, br_false, br_not, br_and, br_or, br_dec, br_eq, br_ne, w_getE0, w_getE1, w_setE0, w_setE1, w_dropE0, w_dropE1, w_drop0, w_drop1, w_getM0, w_getM1, w_setM0, w_setM1, ev_v, ev_c, w_putS, w_putN, w_lit, w_apU0, w_apU1, w_apU2, w_trim, enumE0, enumE1, w_callWp, w_callA0, w_callA1, w_R0, w_R1, w_R2, w_T2, w_callL, w_callT, w_T1, w_T0, o_mv, o_newnil, o_pick, o_bin, o_binN, o_neg, o_not, o_eqB, o_eqS, o_conv, o_alloc, o_box, o_load1, o_loadN, o_store, o_nilck, o_faddr, o_field1, o_fieldN, o_iaddr, o_istr, o_slStr, o_slSl, o_lenS, o_lenL, o_mx, o_mn, o_ext, o_build, o_lit, o_litOwn, o_app, o_mk, o_mvfrz, l_int, l_bool, l_str, l_agg, l_sl, l_own, l_ptr, l_pp, i_int, i_bool, i_str, i_sl, i_own, i_ptr, i_pp, all0, all1, e_ok1, eff, effBin, effBinN, ld_ptr, ld_pp, ld_elt, ia_own, ia_arr, el_1, el_N, load1K, faddrE, r_iaddr, sg_S, sg_c, sg_n, purL, pur, List.map, List.drop, List.take, List.length, List.foldl, List.append_eq, List.nil_append, List.cons_append, List.getD_cons_zero, List.getD_cons_succ, reduceIte, Nat.reduceEqDiff, Nat.reduceAdd, Nat.reduceLeDiff, true_and, and_true, Bool.not_true, Bool.not_false, Bool.and_true, Bool.true_and, Bool.and_self, reduceCtorEq, true_implies, false_implies, implies_true, decide_eq_true_eq, Option.map_some, fpOf, fpX, SOp.xs, oX, refs, refsL, dom, disj, List.all_nil, List.all_cons, List.contains_cons, List.contains_nil, Nat.reduceBEq, Bool.or_false, Bool.false_or, List.append_nil, Bool.not_false, Bool.not_true, List.forall_mem_cons, fm0, List.set, Nat.reduceLT, ne_eq, not_false_eq_true, not_true_eq_false
, ret1, ret1N, keep0, keep1, rf_int, rf_bool, rf_str, rf_sl, rf_agg, rf_tup, rfL0, rfL1, re_t, re_cN, re_L0, re_L1, ret_tup, ret_one, decide_true, AV.bool.injEq, AV.int.injEq, Nat.reduceLeDiff, Bool.true_eq, Bool.false_eq, decide_eq_true_eq, decide_eq_false_iff_not]
  repeat' (first | apply And.intro | intro _)
  all_goals (first | trivial | omega | (simp_all; done) | (simp_all; omega))
def t_l31In : List AV → Option (Prop × AV)
  | [.int .i64 n, .int .i64 lo, .int .i64 hi] => some (True, .bool (decide (lo ≤ n ∧ n ≤ hi)))
  | _ => none
theorem h_l31In : ∀ args p v, t_l31In args = some (p, v) → p → Contract P 48 args [] v [] ∧ noref v = true ∧ No99 v := by
  intro args p v h1 h2
  unfold t_l31In at h1
  split at h1
  · cases h1; exact ⟨c_l31In _ _ _ h2, rfl, trivial⟩
  · cases h1
structure Box6 where
  x : Int
  y : Int
  l : Int
  h : Int
  i : Int
  o : Int
  deriving Inhabited
def Box6.row (b : Box6) : List AV := [.int .i64 b.x, .int .i64 b.y, .int .i64 b.l, .int .i64 b.h, .int .i64 b.i, .int .i64 b.o]
def Box6.ok (b : Box6) : Prop := (0 ≤ b.x ∧ b.x ≤ 15) ∧ (0 ≤ b.y ∧ b.y ≤ 15) ∧ 0 ≤ b.l ∧ b.l ≤ b.h ∧ b.h ≤ 6 ∧ 0 ≤ b.i ∧ b.i ≤ b.o ∧ b.o ≤ 10000
instance (b : Box6) : Decidable b.ok := by unfold Box6.ok; infer_instance
structure Stp7 where
  x : Int
  y : Int
  l : Int
  h : Int
  f : Int
  b : Int
  hold : Bool
  deriving Inhabited
def Stp7.row (s : Stp7) : List AV := [.int .i64 s.x, .int .i64 s.y, .int .i64 s.l, .int .i64 s.h, .int .i64 s.f, .int .i64 s.b, .bool s.hold]
def Stp7.ok (s : Stp7) : Prop := (0 ≤ s.x ∧ s.x ≤ 15) ∧ (0 ≤ s.y ∧ s.y ≤ 15) ∧ 0 ≤ s.l ∧ s.l ≤ s.h ∧ s.h ≤ 6 ∧ 0 ≤ s.f ∧ s.f ≤ s.b ∧ s.b ≤ 10000
instance (s : Stp7) : Decidable s.ok := by unfold Stp7.ok; infer_instance
def Stp7.nb (a s : Stp7) : Prop := (-1 ≤ a.x - s.x ∧ a.x - s.x ≤ 1) ∧ (-1 ≤ a.y - s.y ∧ a.y - s.y ≤ 1) ∧ ¬ (a.x = s.x ∧ a.y = s.y) ∧ a.l ≤ s.h ∧ s.l ≤ a.h
instance (a s : Stp7) : Decidable (a.nb s) := by unfold Stp7.nb; infer_instance
end Go.Ve

namespace Go.Ve
open Go.Proofs
set_option linter.unusedSimpArgs false
set_option linter.unusedVariables false
set_option maxRecDepth 100000
theorem toNat_pred (i : Nat) : ((i : Int) - 1).toNat = i - 1 := by omega
def pathOk (q s : Int) (l : List Stp7) (f b : Int) : Prop :=
  (1 ≤ q ∧ q ≤ s ∧ s ≤ 50) ∧ (1 ≤ l.length ∧ l.length ≤ 40) ∧ (0 ≤ f ∧ f ≤ b ∧ b ≤ 10000) ∧ ∀ i, i < l.length → (l.getD i default).ok ∧ (0 < i → Stp7.nb (l.getD (i - 1) default) (l.getD i default))
instance (q s : Int) (l : List Stp7) (f b : Int) : Decidable (pathOk q s l f b) := by unfold pathOk; infer_instance
end Go.Ve

namespace Go.Ve
open Go.Proofs
set_option linter.unusedSimpArgs false
set_option linter.unusedVariables false
set_option maxRecDepth 100000
end Go.Ve

namespace Go.Ve
open Go.Proofs
set_option linter.unusedSimpArgs false
set_option linter.unusedVariables false
set_option maxRecDepth 100000
structure Path5 where
  q : Int
  s : Int
  l : List Stp7
  f : Int
  b : Int
  deriving Inhabited
def lapStep (l : List Box6) (i : Nat) : Stp7 := ⟨(l.getD i default).x, (l.getD i default).y, (l.getD i default).l, (l.getD i default).h, (l.getD i default).i, if 0 < i then min (l.getD i default).o ((l.getD (i - 1) default).o + 1) else (l.getD i default).o, false⟩
def lapF (l : List Box6) (i : Nat) : Int := if 0 < i then (l.getD (i - 1) default).i else 0
def lapB (l : List Box6) (i : Nat) : Int := if 0 < i then (l.getD (i - 1) default).o + 1 else 0
def lapTo (q s : Int) (l : List Box6) (i : Nat) : Path5 := ⟨q, s, (List.range i).map (lapStep l), lapF l i, lapB l i⟩
def lapOk (q s : Int) (l : List Box6) : Prop := (∀ i, i < l.length → (l.getD i default).ok) ∧ pathOk q s (lapTo q s l l.length).l (lapF l l.length) (lapB l l.length)
instance (q s : Int) (l : List Box6) : Decidable (lapOk q s l) := by unfold lapOk; infer_instance
end Go.Ve

namespace Go.Ve
open Go.Proofs
set_option linter.unusedSimpArgs false
set_option linter.unusedVariables false
set_option maxRecDepth 100000
def Path5.low (p : Path5) (k : Nat) : Int := if k < p.l.length then (p.l.getD k default).f else p.f
def Path5.high (p : Path5) (k : Nat) : Int := if k < p.l.length then (p.l.getD k default).b else p.b
def Path5.most (p : Path5) (k : Nat) : Int := if (p.l.getD k default).hold then 10000 else p.s
structure Span2 where
  lo : Int
  hi : Int
  deriving Inhabited
def Span2.row (s : Span2) : List AV := [.int .i64 s.lo, .int .i64 s.hi]
/-- Ahead: the earliest and the latest, from the first step on. -/
def Path5.fwd (p : Path5) : Nat → Span2
  | 0 => ⟨p.low 0, p.high 0⟩
  | k + 1 => ⟨max (p.low (k + 1)) ((p.fwd k).lo + p.q), min (p.high (k + 1)) ((p.fwd k).hi + p.most k)⟩
/-- Back again, from the last one. -/
def Path5.bwd (p : Path5) : Nat → Span2
  | 0 => p.fwd p.l.length
  | d + 1 => ⟨max (p.fwd (p.l.length - (d + 1))).lo ((p.bwd d).lo - p.most (p.l.length - (d + 1))), min (p.fwd (p.l.length - (d + 1))).hi ((p.bwd d).hi - p.q)⟩
def Path5.span (p : Path5) (k : Nat) : Span2 := p.bwd (p.l.length - k)
def Path5.can (p : Path5) : Prop := ∀ k, k < p.l.length + 1 → (p.span k).lo ≤ (p.span k).hi
instance (p : Path5) : Decidable p.can := by unfold Path5.can; infer_instance
def Path5.spans (p : Path5) : List Span2 := if p.can then (List.range (p.l.length + 1)).map p.span else []
/-- What the passes ask of the numbers. -/
structure Path5.calm (p : Path5) : Prop where
  q : 0 ≤ p.q ∧ p.q ≤ 50
  s : 0 ≤ p.s ∧ p.s ≤ 50
  n : p.l.length ≤ 1048576
  lo : ∀ k, k ≤ p.l.length → 0 ≤ p.low k
  hi : ∀ k, k ≤ p.l.length → p.high k ≤ 10000
theorem Path5.calm.most {p : Path5} (h : p.calm) (k : Nat) : 0 ≤ p.most k ∧ p.most k ≤ 10000 := by
  unfold Path5.most
  have := h.s
  split <;> omega
end Go.Ve

namespace Go.Ve
open Go.Proofs
set_option linter.unusedSimpArgs false
set_option linter.unusedVariables false
set_option maxRecDepth 100000
def irow (n : Int) : List AV := [.int .i64 n]
def unI : List AV → Int
  | [.int _ n] => n
  | _ => 0
theorem un_i (l : List Int) : (l.map irow).map unI = l := by
  rw [List.map_map]; exact List.map_id'' (fun s => rfl) l
/-- What the program starts from. -/
def Path5.ini (p : Path5) (bg : List Int) (k : Nat) : Span2 := if k < bg.length then ⟨max (p.low k) (bg.getD k default), min (p.high k) (bg.getD k default)⟩ else ⟨p.low k, p.high k⟩
/-- Ahead, as the program does it. -/
def Path5.wf (p : Path5) (bg : List Int) : Nat → Span2
  | 0 => p.ini bg 0
  | k + 1 => ⟨max (p.ini bg (k + 1)).lo (IntKind.i64.wrap ((p.wf bg k).lo + p.q)), if (p.l.getD k default).hold then (p.ini bg (k + 1)).hi else min (p.ini bg (k + 1)).hi (IntKind.i64.wrap ((p.wf bg k).hi + p.s))⟩
/-- Back again, as the program does it. -/
def Path5.wb (p : Path5) (bg : List Int) : Nat → Span2
  | 0 => p.wf bg p.l.length
  | d + 1 => ⟨if (p.l.getD (p.l.length - (d + 1)) default).hold then (p.wf bg (p.l.length - (d + 1))).lo else max (p.wf bg (p.l.length - (d + 1))).lo (IntKind.i64.wrap ((p.wb bg d).lo - p.s)), min (p.wf bg (p.l.length - (d + 1))).hi (IntKind.i64.wrap ((p.wb bg d).hi - p.q))⟩
def Path5.wsp (p : Path5) (bg : List Int) (j : Nat) : Span2 := p.wb bg (p.l.length - j)
def Path5.wcan (p : Path5) (bg : List Int) : Prop := ∀ k, k < p.l.length + 1 → (p.wsp bg k).lo ≤ (p.wsp bg k).hi
instance (p : Path5) (bg : List Int) : Decidable (p.wcan bg) := by unfold Path5.wcan; infer_instance
end Go.Ve

namespace Go.Ve
open Go.Proofs
set_option linter.unusedSimpArgs false
set_option linter.unusedVariables false
set_option maxRecDepth 100000
def heldStep (p : Path5) (bg : List Int) (k j : Nat) : Stp7 := if j < k then { p.l.getD j default with f := max (p.l.getD j default).f (bg.getD j default), b := min (p.l.getD j default).b (bg.getD j default) } else p.l.getD j default
def Path5.held (p : Path5) (bg : List Int) : Path5 := ⟨p.q, p.s, (List.range p.l.length).map (heldStep p bg bg.length), p.f, p.b⟩
end Go.Ve

namespace Go.Ve
open Go.Proofs
set_option linter.unusedSimpArgs false
set_option linter.unusedVariables false
set_option maxRecDepth 100000
def Path5.begun (p : Path5) (bg : List Int) : Prop := pathOk p.q p.s p.l p.f p.b ∧ bg.length ≤ p.l.length ∧ (p.held bg).can
instance (p : Path5) (bg : List Int) : Decidable (p.begun bg) := by unfold Path5.begun; infer_instance
def Path5.next (p : Path5) (bg : List Int) : Span2 := if p.begun bg then (p.held bg).span bg.length else ⟨0, 0⟩
end Go.Ve

namespace Go.Ve
set_option linter.unusedSimpArgs false
set_option linter.unusedVariables false
/-! The program's passes and the reference's come to the same. -/
section
variable {p : Path5} {bg : List Int}
end
end Go.Ve

namespace Go.Ve
open Go.Proofs
set_option linter.unusedSimpArgs false
set_option linter.unusedVariables false
set_option maxRecDepth 100000
end Go.Ve

namespace Go.Ve
open Go.Proofs
set_option linter.unusedSimpArgs false
set_option linter.unusedVariables false
set_option maxRecDepth 100000
def Path5.fit (p : Path5) : Prop := pathOk p.q p.s p.l p.f p.b ∧ p.can
instance (p : Path5) : Decidable p.fit := by unfold Path5.fit; infer_instance
end Go.Ve

namespace Go.Ve
open Go.Proofs
set_option linter.unusedSimpArgs false
set_option linter.unusedVariables false
set_option maxRecDepth 100000
def unBox : List AV → Box6
  | [.int _ x, .int _ y, .int _ l, .int _ h, .int _ i, .int _ o] => ⟨x, y, l, h, i, o⟩
  | _ => default
theorem un_box (l : List Box6) : (l.map Box6.row).map unBox = l := by
  rw [List.map_map]; exact List.map_id'' (fun s => rfl) l
end Go.Ve

namespace Go.Ve
open Go.Proofs
set_option linter.unusedSimpArgs false
set_option linter.unusedVariables false
set_option maxRecDepth 100000
theorem ext_of {α : Type} [Inhabited α] {a b : List α} (hl : a.length = b.length) (h : ∀ j, j < a.length → a.getD j default = b.getD j default) : a = b := by
  refine List.ext_getElem hl fun j h1 h2 => ?_
  have := h j h1
  simpa [h1, h2] using this
end Go.Ve

namespace Go.Ve
open Go.Proofs
set_option linter.unusedSimpArgs false
set_option linter.unusedVariables false
set_option maxRecDepth 100000
end Go.Ve

namespace Go.Ve
open Go.Proofs
set_option linter.unusedSimpArgs false
set_option linter.unusedVariables false
set_option maxRecDepth 100000
theorem take_all {α : Type} {f : α → List AV} {l : List α} : List.take l.length (List.map f l) = List.map f l := List.take_of_length_le (by simp)
def Path5.tail (p : Path5) (k : Nat) : Path5 := { p with l := p.l.drop k }
def Path5.after (p : Path5) (now : Int) : Path5 := if 1 < p.l.length then { p with l := p.l.set 1 { p.l.getD 1 default with f := max (p.l.getD 1 default).f (now + 1) } } else { p with f := max p.f (now + 1) }
end Go.Ve

namespace Go.Ve
set_option linter.unusedSimpArgs false
set_option linter.unusedVariables false
/-! The spans are those of flights. -/
section
variable {p : Path5}
end

/-! A path begun later, or at a later step. -/
/-- The first step's ticks set anew. -/
def Path5.first (p : Path5) (f b : Int) : Path5 := { p with l := p.l.set 0 { p.l.getD 0 default with f := f, b := b } }
def Path5.rest (p : Path5) (k : Nat) (f b now : Int) : Path5 := ((p.tail k).first f b).after now
section
variable {p : Path5} {k : Nat} {f b now : Int}
end
/-! Waiting ahead of the first step. -/
def Path5.wait (p : Path5) (now : Int) : Path5 := { p with l := p.l.set 0 { p.l.getD 0 default with f := max (p.l.getD 0 default).f (now + 1) } }
end Go.Ve

namespace Go.Ve
open Go.Proofs
set_option linter.unusedSimpArgs false
set_option linter.unusedVariables false
set_option maxRecDepth 100000
def Path5.restAt (p : Path5) (k e now : Int) : Path5 := p.rest k.toNat (max (p.l.getD k.toNat default).f e) (min (p.l.getD k.toNat default).b e) now
def Path5.goes (p : Path5) (k e now : Int) : Prop := pathOk p.q p.s p.l p.f p.b ∧ (0 ≤ k ∧ k < p.l.length) ∧ (0 ≤ e ∧ e ≤ now ∧ now ≤ 10000) ∧ (p.restAt k e now).can
instance (p : Path5) (k e now : Int) : Decidable (p.goes k e now) := by unfold Path5.goes; infer_instance
end Go.Ve

namespace Go.Ve
open Go.Proofs
set_option linter.unusedSimpArgs false
set_option linter.unusedVariables false
set_option maxRecDepth 100000
end Go.Ve

namespace Go.Ve
open Go.Proofs
set_option linter.unusedSimpArgs false
set_option linter.unusedVariables false
set_option maxRecDepth 100000
/-- The aircraft can stay where it is behind now. -/
def Path5.stays (p : Path5) (bg : List Int) (now : Int) : Prop := if bg.length = 0 then pathOk p.q p.s p.l p.f p.b ∧ (p.wait now).can else p.goes ((bg.length : Int) - 1) (bg.getD (bg.length - 1) default) now
instance (p : Path5) (bg : List Int) (now : Int) : Decidable (p.stays bg now) := by unfold Path5.stays; infer_instance
end Go.Ve

namespace Go.Ve
open Go.Proofs
set_option linter.unusedSimpArgs false
set_option linter.unusedVariables false
set_option maxRecDepth 100000
def Path5.must (p : Path5) (bg : List Int) (now : Int) : Prop := p.begun bg ∧ ((p.next bg).lo ≤ now ∧ now ≤ (p.next bg).hi) ∧ ¬ p.stays bg now
instance (p : Path5) (bg : List Int) (now : Int) : Decidable (p.must bg now) := by unfold Path5.must; infer_instance
end Go.Ve

namespace Go.Ve
open Go.Proofs
set_option linter.unusedSimpArgs false
set_option linter.unusedVariables false
set_option maxRecDepth 100000
def szOf (a : Int) (n : Nat) : Int := if a - n < 0 then -1 else a - n
theorem Box6.eq_iff (a b : Box6) : a = b ↔ a.x = b.x ∧ a.y = b.y ∧ a.l = b.l ∧ a.h = b.h ∧ a.i = b.i ∧ a.o = b.o := ⟨fun h => by subst h; exact ⟨rfl, rfl, rfl, rfl, rfl, rfl⟩, fun h => by
  cases a; cases b; simp only at h; simp only [Box6.mk.injEq]; exact h⟩
instance : DecidableEq Box6 := fun a b => decidable_of_iff _ (Box6.eq_iff a b).symm
theorem c_eqBox (x : Int) (y : Int) (l : Int) (h : Int) (i : Int) (o : Int) (ox : Int) (oy : Int) (ol : Int) (oh : Int) (oi : Int) (oo : Int) : Contract P 84 [.agg [.int .i64 x, .int .i64 y, .int .i64 l, .int .i64 h, .int .i64 i, .int .i64 o], .agg [.int .i64 ox, .int .i64 oy, .int .i64 ol, .int .i64 oh, .int .i64 oi, .int .i64 oo]] [] (.bool (decide ((⟨x, y, l, h, i, o⟩ : Box6) = ⟨ox, oy, ol, oh, oi, oo⟩))) [] := by
  refine fn_sound (Env.nil P) hm k_laws_eqHandBox (Nat.le_of_ble_eq_true rfl) rfl ?_
  unfold s_laws_eqHandBox
  simp only [w_skip, w_rg, w_rgd, w_seq, w_cond, w_block, w_loop, w_exit, w_ret, w_gh, w_rg0, w_rg1, w_rgT, w_rgF, w_run, w_psd, w_und, w_dr0, w_dr1, w_drT, w_drF, w_drRun, w_drPsd, w_drUnd, w_drKn, w_drKs, w_putK, w_trimK, w_thenN, w_thenE, w_thenR, w_scope, w_label, w_blkN, w_blkE, w_blkR, w_call, w_effK, brU_true, brU_false, brU_u, brU_not, brU_and, brU_or, brU_dec, brU_eq, brU_ne, br_true, br_false, br_not, br_and, br_or, br_dec, br_eq, br_ne, w_getE0, w_getE1, w_setE0, w_setE1, w_dropE0, w_dropE1, w_drop0, w_drop1, w_getM0, w_getM1, w_setM0, w_setM1, ev_v, ev_c, w_putS, w_putN, w_lit, w_apU0, w_apU1, w_apU2, w_trim, enumE0, enumE1, w_callWp, w_callA0, w_callA1, w_R0, w_R1, w_R2, w_T2, w_callL, w_callT, w_T1, w_T0, o_mv, o_newnil, o_pick, o_bin, o_binN, o_neg, o_not, o_eqB, o_eqS, o_conv, o_alloc, o_box, o_load1, o_loadN, o_store, o_nilck, o_faddr, o_field1, o_fieldN, o_iaddr, o_istr, o_slStr, o_slSl, o_lenS, o_lenL, o_mx, o_mn, o_ext, o_build, o_lit, o_litOwn, o_app, o_mk, o_mvfrz, l_int, l_bool, l_str, l_agg, l_sl, l_own, l_ptr, l_pp, i_int, i_bool, i_str, i_sl, i_own, i_ptr, i_pp, all0, all1, e_ok1, eff, effBin, effBinN, ld_ptr, ld_pp, ld_elt, ia_own, ia_arr, el_1, el_N, load1K, faddrE, r_iaddr, sg_S, sg_c, sg_n, purL, pur, List.map, List.drop, List.take, List.length, List.foldl, List.append_eq, List.nil_append, List.cons_append, List.getD_cons_zero, List.getD_cons_succ, reduceIte, Nat.reduceEqDiff, Nat.reduceAdd, Nat.reduceLeDiff, true_and, and_true, Bool.not_true, Bool.not_false, Bool.and_true, Bool.true_and, Bool.and_self, reduceCtorEq, true_implies, false_implies, implies_true, decide_eq_true_eq, Option.map_some, fpOf, fpX, SOp.xs, oX, refs, refsL, dom, disj, List.all_nil, List.all_cons, List.contains_cons, List.contains_nil, Nat.reduceBEq, Bool.or_false, Bool.false_or, List.append_nil, Bool.not_false, Bool.not_true, List.forall_mem_cons, fm0, List.set, Nat.reduceLT, ne_eq, not_false_eq_true, not_true_eq_false
, ret1, ret1N, keep0, keep1, rf_int, rf_bool, rf_str, rf_sl, rf_agg, rf_tup, rfL0, rfL1, re_t, re_cN, re_L0, re_L1, ret_tup, ret_one, decide_true, AV.bool.injEq, AV.int.injEq, Nat.reduceLeDiff, Bool.true_eq, Bool.false_eq, decide_eq_true_eq, decide_eq_false_iff_not]
  simp only [Box6.mk.injEq]
  repeat' (first | apply And.intro | intro _)
  all_goals (first | trivial | (simp_all; done))
def t_eqBox : List AV → Option (Prop × AV)
  | [.agg [.int .i64 x, .int .i64 y, .int .i64 l, .int .i64 h, .int .i64 i, .int .i64 o], .agg [.int .i64 ox, .int .i64 oy, .int .i64 ol, .int .i64 oh, .int .i64 oi, .int .i64 oo]] => some (True, .bool (decide ((⟨x, y, l, h, i, o⟩ : Box6) = ⟨ox, oy, ol, oh, oi, oo⟩)))
  | _ => none
theorem h_eqBox : ∀ args p v, t_eqBox args = some (p, v) → p → Contract P 84 args [] v [] ∧ noref v = true ∧ No99 v := by
  intro args p v h1 h2
  unfold t_eqBox at h1
  split at h1
  · cases h1; exact ⟨c_eqBox _ _ _ _ _ _ _ _ _ _ _ _, rfl, trivial⟩
  · cases h1
def F_eqBoxS (t t' : Nat) (a b : List Box6) (i : Nat) : St := ⟨[(0, .sl t 6 (a.map Box6.row)), (1, .sl t' 6 (b.map Box6.row)), (5, .int .i64 i)], []⟩
theorem c_eqBoxS (t t' : Nat) (a b : List Box6) (ha : a.length ≤ 4611686018427387904) : Contract P 40 [.sl t 6 (a.map Box6.row), .sl t' 6 (b.map Box6.row)] [] (.bool (decide (a = b))) [] := by
  refine fn_sound ((Env.nil P).add 84 t_eqBox h_eqBox) hm k_laws_eqHandBoxS (Nat.le_of_ble_eq_true rfl) rfl ?_
  unfold s_laws_eqHandBoxS
  simp only [w_skip, w_rg, w_rgd, w_seq, w_cond, w_block, w_loop, w_exit, w_ret, w_gh, w_rg0, w_rg1, w_rgT, w_rgF, w_run, w_psd, w_und, w_dr0, w_dr1, w_drT, w_drF, w_drRun, w_drPsd, w_drUnd, w_drKn, w_drKs, w_putK, w_trimK, w_thenN, w_thenE, w_thenR, w_scope, w_label, w_blkN, w_blkE, w_blkR, w_call, w_effK, brU_true, brU_false, brU_u, brU_not, brU_and, brU_or, brU_dec, brU_eq, brU_ne, br_true, br_false, br_not, br_and, br_or, br_dec, br_eq, br_ne, w_getE0, w_getE1, w_setE0, w_setE1, w_dropE0, w_dropE1, w_drop0, w_drop1, w_getM0, w_getM1, w_setM0, w_setM1, ev_v, ev_c, w_putS, w_putN, w_lit, w_apU0, w_apU1, w_apU2, w_trim, enumE0, enumE1, w_callWp, w_callA0, w_callA1, w_R0, w_R1, w_R2, w_T2, w_callL, w_callT, w_T1, w_T0, o_mv, o_newnil, o_pick, o_bin, o_binN, o_neg, o_not, o_eqB, o_eqS, o_conv, o_alloc, o_box, o_load1, o_loadN, o_store, o_nilck, o_faddr, o_field1, o_fieldN, o_iaddr, o_istr, o_slStr, o_slSl, o_lenS, o_lenL, o_mx, o_mn, o_ext, o_build, o_lit, o_litOwn, o_app, o_mk, o_mvfrz, l_int, l_bool, l_str, l_agg, l_sl, l_own, l_ptr, l_pp, i_int, i_bool, i_str, i_sl, i_own, i_ptr, i_pp, all0, all1, e_ok1, eff, effBin, effBinN, ld_ptr, ld_pp, ld_elt, ia_own, ia_arr, el_1, el_N, load1K, faddrE, r_iaddr, sg_S, sg_c, sg_n, purL, pur, List.map, List.drop, List.take, List.length, List.foldl, List.append_eq, List.nil_append, List.cons_append, List.getD_cons_zero, List.getD_cons_succ, reduceIte, Nat.reduceEqDiff, Nat.reduceAdd, Nat.reduceLeDiff, true_and, and_true, Bool.not_true, Bool.not_false, Bool.and_true, Bool.true_and, Bool.and_self, reduceCtorEq, true_implies, false_implies, implies_true, decide_eq_true_eq, Option.map_some, fpOf, fpX, SOp.xs, oX, refs, refsL, dom, disj, List.all_nil, List.all_cons, List.contains_cons, List.contains_nil, Nat.reduceBEq, Bool.or_false, Bool.false_or, List.append_nil, Bool.not_false, Bool.not_true, List.forall_mem_cons, fm0, List.set, Nat.reduceLT, ne_eq, not_false_eq_true, not_true_eq_false
, ret1, ret1N, keep0, keep1, rf_int, rf_bool, rf_str, rf_sl, rf_agg, rf_tup, rfL0, rfL1, re_t, re_cN, re_L0, re_L1, ret_tup, ret_one, decide_true, AV.bool.injEq, AV.int.injEq, Nat.reduceLeDiff, Bool.true_eq, Bool.false_eq, decide_eq_true_eq, decide_eq_false_iff_not, t_eqBox, List.length_map, Box6.row, Int.toNat_natCast, Int.natCast_inj]
  refine ⟨fun h1 h => h1 (by rw [h]), fun h1 => ?_⟩
  refine loop_of (F_eqBoxS t t' a b) (fun i => i ≤ a.length ∧ ∀ j, j < i → a.getD j default = b.getD j default) (fun i => a.length - i) 0 ⟨⟨.inr rfl, .inr rfl, .inr rfl, trivial⟩, trivial, rfl, rfl⟩ ⟨Nat.zero_le _, fun j hj => by omega⟩ ?_
  intro i hi
  unfold l_laws_eqHandBoxS_0 F_eqBoxS
  simp only [w_skip, w_rg, w_rgd, w_seq, w_cond, w_block, w_loop, w_exit, w_ret, w_gh, w_rg0, w_rg1, w_rgT, w_rgF, w_run, w_psd, w_und, w_dr0, w_dr1, w_drT, w_drF, w_drRun, w_drPsd, w_drUnd, w_drKn, w_drKs, w_putK, w_trimK, w_thenN, w_thenE, w_thenR, w_scope, w_label, w_blkN, w_blkE, w_blkR, w_call, w_effK, brU_true, brU_false, brU_u, brU_not, brU_and, brU_or, brU_dec, brU_eq, brU_ne, br_true, br_false, br_not, br_and, br_or, br_dec, br_eq, br_ne, w_getE0, w_getE1, w_setE0, w_setE1, w_dropE0, w_dropE1, w_drop0, w_drop1, w_getM0, w_getM1, w_setM0, w_setM1, ev_v, ev_c, w_putS, w_putN, w_lit, w_apU0, w_apU1, w_apU2, w_trim, enumE0, enumE1, w_callWp, w_callA0, w_callA1, w_R0, w_R1, w_R2, w_T2, w_callL, w_callT, w_T1, w_T0, o_mv, o_newnil, o_pick, o_bin, o_binN, o_neg, o_not, o_eqB, o_eqS, o_conv, o_alloc, o_box, o_load1, o_loadN, o_store, o_nilck, o_faddr, o_field1, o_fieldN, o_iaddr, o_istr, o_slStr, o_slSl, o_lenS, o_lenL, o_mx, o_mn, o_ext, o_build, o_lit, o_litOwn, o_app, o_mk, o_mvfrz, l_int, l_bool, l_str, l_agg, l_sl, l_own, l_ptr, l_pp, i_int, i_bool, i_str, i_sl, i_own, i_ptr, i_pp, all0, all1, e_ok1, eff, effBin, effBinN, ld_ptr, ld_pp, ld_elt, ia_own, ia_arr, el_1, el_N, load1K, faddrE, r_iaddr, sg_S, sg_c, sg_n, purL, pur, List.map, List.drop, List.take, List.length, List.foldl, List.append_eq, List.nil_append, List.cons_append, List.getD_cons_zero, List.getD_cons_succ, reduceIte, Nat.reduceEqDiff, Nat.reduceAdd, Nat.reduceLeDiff, true_and, and_true, Bool.not_true, Bool.not_false, Bool.and_true, Bool.true_and, Bool.and_self, reduceCtorEq, true_implies, false_implies, implies_true, decide_eq_true_eq, Option.map_some, fpOf, fpX, SOp.xs, oX, refs, refsL, dom, disj, List.all_nil, List.all_cons, List.contains_cons, List.contains_nil, Nat.reduceBEq, Bool.or_false, Bool.false_or, List.append_nil, Bool.not_false, Bool.not_true, List.forall_mem_cons, fm0, List.set, Nat.reduceLT, ne_eq, not_false_eq_true, not_true_eq_false
, ret1, ret1N, keep0, keep1, rf_int, rf_bool, rf_str, rf_sl, rf_agg, rf_tup, rfL0, rfL1, re_t, re_cN, re_L0, re_L1, ret_tup, ret_one, decide_true, AV.bool.injEq, AV.int.injEq, Nat.reduceLeDiff, Bool.true_eq, Bool.false_eq, decide_eq_true_eq, decide_eq_false_iff_not, t_eqBox, List.length_map, Box6.row, Int.toNat_natCast, Int.natCast_inj]
  refine ⟨fun h2 => ⟨by omega, by omega, by omega, by omega, fun h3 => ⟨by omega, loopK_of (i + 1) ⟨⟨.inr rfl, .inr rfl, .inr rfl, trivial⟩, trivial, rfl, rfl⟩ ⟨by omega, fun j hj => ?_⟩ (by omega)⟩, fun h3 h => h3 (by rw [h])⟩, fun h2 => ext_of (by omega) fun j hj => hi.2 j (by have := hi.1; omega)⟩
  by_cases e : j = i
  · subst e; exact h3
  · exact hi.2 j (by omega)
end Go.Ve

namespace Go.Ve
open Go.Proofs
set_option linter.unusedSimpArgs false
set_option linter.unusedVariables false
set_option maxRecDepth 100000
structure Kind2 where
  q : Int
  s : Int
  deriving Inhabited
theorem no99_i (l : List Int) : No99LL (l.map irow) := by
  induction l with
  | nil => trivial
  | cons x l ih => exact ⟨⟨trivial, trivial⟩, ih⟩
theorem no99_box (l : List Box6) : No99LL (l.map Box6.row) := by
  induction l with
  | nil => trivial
  | cons x l ih => exact ⟨⟨trivial, trivial, trivial, trivial, trivial, trivial, trivial⟩, ih⟩
def t_eqBoxS : List AV → Option (Prop × AV)
  | [.sl _ 6 xs, .sl _ 6 ys] => some (((xs.map unBox).map Box6.row = xs ∧ (ys.map unBox).map Box6.row = ys) ∧ (xs.map unBox).length ≤ 4611686018427387904, .bool (decide (xs.map unBox = ys.map unBox)))
  | _ => none
theorem h_eqBoxS : ∀ args p v, t_eqBoxS args = some (p, v) → p → Contract P 40 args [] v [] ∧ noref v = true ∧ No99 v := by
  intro args p v h1 h2
  unfold t_eqBoxS at h1
  split at h1
  · rename_i t xs t' ys
    cases h1
    have := c_eqBoxS t t' (xs.map unBox) (ys.map unBox) h2.2
    simp only [h2.1.1, h2.1.2] at this
    exact ⟨this, rfl, trivial⟩
  · cases h1
theorem Kind2.eq_iff (a b : Kind2) : a = b ↔ a.q = b.q ∧ a.s = b.s := ⟨fun h => by subst h; exact ⟨rfl, rfl⟩, fun h => by
  cases a; cases b; simp only at h; simp only [Kind2.mk.injEq]; exact h⟩
instance : DecidableEq Kind2 := fun a b => decidable_of_iff _ (Kind2.eq_iff a b).symm
end Go.Ve

namespace Go.Ve
noncomputable section
open Go.Proofs
set_option linter.unusedSimpArgs false
set_option linter.unusedVariables false
set_option maxRecDepth 100000
structure Zone where
  nm : ByteArray
  x0 : Int
  y0 : Int
  x1 : Int
  y1 : Int
  deriving Inhabited, DecidableEq
def Zone.row (s : Zone) : List AV := [.str s.nm, .int .i64 s.x0, .int .i64 s.y0, .int .i64 s.x1, .int .i64 s.y1]
def unZone : List AV → Zone
  | [.str vnm, .int .i64 vx0, .int .i64 vy0, .int .i64 vx1, .int .i64 vy1] => (Zone.mk vnm vx0 vy0 vx1 vy1)
  | _ => default
theorem unZone_row (s : Zone) : unZone (Zone.row s) = s := by
  cases s; simp only [Zone.row, unZone]
theorem un_Zone (l : List Zone) : (l.map Zone.row).map unZone = l := by
  rw [List.map_map]; exact List.map_id'' (fun s => unZone_row s) l
theorem Zone_eta (s : Zone) : (Zone.mk s.nm s.x0 s.y0 s.x1 s.y1) = s := (rfl)
theorem no99_Zone (l : List Zone) : No99LL (l.map Zone.row) := by
  induction l with
  | nil => simp [No99LL]
  | cons x l ih => simp only [List.map_cons, No99LL]; exact ⟨by simp [Zone.row, No99L, No99], ih⟩
structure Word where
  kd : Int
  fr : ByteArray
  dst : ByteArray
  fl : ByteArray
  nr : Int
  la : Int
  tn : Int
  tu : List Box6
  deriving Inhabited, DecidableEq
def Word.row (t : Nat) (s : Word) : List AV := [.int .i64 s.kd, .str s.fr, .str s.dst, .str s.fl, .int .i64 s.nr, .int .i64 s.la, .int .i64 s.tn, .sl t 6 (s.tu.map Box6.row)]
def unWord : List AV → Word
  | [.int .i64 vkd, .str vfr, .str vdst, .str vfl, .int .i64 vnr, .int .i64 vla, .int .i64 vtn, .sl _ 6 vtu] => (Word.mk vkd vfr vdst vfl vnr vla vtn (vtu.map unBox))
  | _ => default
theorem unWord_row (t : Nat) (s : Word) : unWord (Word.row t s) = s := by
  cases s; simp only [Word.row, unWord, un_box]
theorem un_Word (t : Nat) (l : List Word) : (l.map (Word.row t)).map unWord = l := by
  rw [List.map_map]; exact List.map_id'' (fun s => unWord_row t s) l
theorem Word_eta (s : Word) : (Word.mk s.kd s.fr s.dst s.fl s.nr s.la s.tn s.tu) = s := (rfl)
theorem no99_Word (l : List Word) : No99LL (l.map (Word.row 0)) := by
  induction l with
  | nil => simp [No99LL]
  | cons x l ih => simp only [List.map_cons, No99LL]; exact ⟨by simp [Word.row, No99L, No99, no99_box], ih⟩
structure Own where
  fl : ByteArray
  st : Int
  tn : Int
  dst : ByteArray
  la : Int
  nr : Int
  tu : List Box6
  wi : Int
  nx : List Box6
  gr : List ByteArray
  sent : Bool
  deriving Inhabited, DecidableEq
def Own.row (t : Nat) (s : Own) : List AV := [.str s.fl, .int .i64 s.st, .int .i64 s.tn, .str s.dst, .int .i64 s.la, .int .i64 s.nr, .sl t 6 (s.tu.map Box6.row), .int .i64 s.wi, .sl t 6 (s.nx.map Box6.row), .sl t 1 (s.gr.map srow), .bool s.sent]
def unOwn : List AV → Own
  | [.str vfl, .int .i64 vst, .int .i64 vtn, .str vdst, .int .i64 vla, .int .i64 vnr, .sl _ 6 vtu, .int .i64 vwi, .sl _ 6 vnx, .sl _ 1 vgr, .bool vsent] => (Own.mk vfl vst vtn vdst vla vnr (vtu.map unBox) vwi (vnx.map unBox) (vgr.map unS) vsent)
  | _ => default
theorem unOwn_row (t : Nat) (s : Own) : unOwn (Own.row t s) = s := by
  cases s; simp only [Own.row, unOwn, un_box, un_box, un_s]
theorem un_Own (t : Nat) (l : List Own) : (l.map (Own.row t)).map unOwn = l := by
  rw [List.map_map]; exact List.map_id'' (fun s => unOwn_row t s) l
theorem Own_eta (s : Own) : (Own.mk s.fl s.st s.tn s.dst s.la s.nr s.tu s.wi s.nx s.gr s.sent) = s := (rfl)
theorem no99_Own (l : List Own) : No99LL (l.map (Own.row 0)) := by
  induction l with
  | nil => simp [No99LL]
  | cons x l ih => simp only [List.map_cons, No99LL]; exact ⟨by simp [Own.row, No99L, No99, no99_box, no99_box, no99_str], ih⟩
structure Part where
  fl : ByteArray
  nr : Int
  bx : List Box6
  deriving Inhabited, DecidableEq
def Part.row (t : Nat) (s : Part) : List AV := [.str s.fl, .int .i64 s.nr, .sl t 6 (s.bx.map Box6.row)]
def unPart : List AV → Part
  | [.str vfl, .int .i64 vnr, .sl _ 6 vbx] => (Part.mk vfl vnr (vbx.map unBox))
  | _ => default
theorem unPart_row (t : Nat) (s : Part) : unPart (Part.row t s) = s := by
  cases s; simp only [Part.row, unPart, un_box]
theorem un_Part (t : Nat) (l : List Part) : (l.map (Part.row t)).map unPart = l := by
  rw [List.map_map]; exact List.map_id'' (fun s => unPart_row t s) l
theorem Part_eta (s : Part) : (Part.mk s.fl s.nr s.bx) = s := (rfl)
theorem no99_Part (l : List Part) : No99LL (l.map (Part.row 0)) := by
  induction l with
  | nil => simp [No99LL]
  | cons x l ih => simp only [List.map_cons, No99LL]; exact ⟨by simp [Part.row, No99L, No99, no99_box], ih⟩
structure Seen where
  fl : ByteArray
  nr : Int
  deriving Inhabited, DecidableEq
def Seen.row (s : Seen) : List AV := [.str s.fl, .int .i64 s.nr]
def unSeen : List AV → Seen
  | [.str vfl, .int .i64 vnr] => (Seen.mk vfl vnr)
  | _ => default
theorem unSeen_row (s : Seen) : unSeen (Seen.row s) = s := by
  cases s; simp only [Seen.row, unSeen]
theorem un_Seen (l : List Seen) : (l.map Seen.row).map unSeen = l := by
  rw [List.map_map]; exact List.map_id'' (fun s => unSeen_row s) l
theorem Seen_eta (s : Seen) : (Seen.mk s.fl s.nr) = s := (rfl)
theorem no99_Seen (l : List Seen) : No99LL (l.map Seen.row) := by
  induction l with
  | nil => simp [No99LL]
  | cons x l ih => simp only [List.map_cons, No99LL]; exact ⟨by simp [Seen.row, No99L, No99], ih⟩
structure Book where
  own : List Own
  parts : List Part
  seen : List Seen
  deriving Inhabited, DecidableEq
def Book.row (t : Nat) (s : Book) : List AV := [.sl t 11 (s.own.map (Own.row t)), .sl t 3 (s.parts.map (Part.row t)), .sl t 2 (s.seen.map Seen.row)]
def unBook : List AV → Book
  | [.sl _ 11 vown, .sl _ 3 vparts, .sl _ 2 vseen] => (Book.mk (vown.map unOwn) (vparts.map unPart) (vseen.map unSeen))
  | _ => default
theorem unBook_row (t : Nat) (s : Book) : unBook (Book.row t s) = s := by
  cases s; simp only [Book.row, unBook, un_Own, un_Part, un_Seen]
theorem un_Book (t : Nat) (l : List Book) : (l.map (Book.row t)).map unBook = l := by
  rw [List.map_map]; exact List.map_id'' (fun s => unBook_row t s) l
theorem Book_eta (s : Book) : (Book.mk s.own s.parts s.seen) = s := (rfl)
theorem no99_Book (l : List Book) : No99LL (l.map (Book.row 0)) := by
  induction l with
  | nil => simp [No99LL]
  | cons x l ih => simp only [List.map_cons, No99LL]; exact ⟨by simp [Book.row, No99L, No99, no99_Own, no99_Part, no99_Seen], ih⟩
structure Sector where
  up : Bool
  mo : List Own
  mp : List Part
  ms : List Seen
  dn : List Own
  dp : List Part
  ds : List Seen
  ot : List Word
  deriving Inhabited, DecidableEq
def Sector.row (t : Nat) (s : Sector) : List AV := [.bool s.up, .sl t 11 (s.mo.map (Own.row t)), .sl t 3 (s.mp.map (Part.row t)), .sl t 2 (s.ms.map Seen.row), .sl t 11 (s.dn.map (Own.row t)), .sl t 3 (s.dp.map (Part.row t)), .sl t 2 (s.ds.map Seen.row), .sl t 8 (s.ot.map (Word.row t))]
def unSector : List AV → Sector
  | [.bool vup, .sl _ 11 vmo, .sl _ 3 vmp, .sl _ 2 vms, .sl _ 11 vdn, .sl _ 3 vdp, .sl _ 2 vds, .sl _ 8 vot] => (Sector.mk vup (vmo.map unOwn) (vmp.map unPart) (vms.map unSeen) (vdn.map unOwn) (vdp.map unPart) (vds.map unSeen) (vot.map unWord))
  | _ => default
theorem unSector_row (t : Nat) (s : Sector) : unSector (Sector.row t s) = s := by
  cases s; simp only [Sector.row, unSector, un_Own, un_Part, un_Seen, un_Own, un_Part, un_Seen, un_Word]
theorem un_Sector (t : Nat) (l : List Sector) : (l.map (Sector.row t)).map unSector = l := by
  rw [List.map_map]; exact List.map_id'' (fun s => unSector_row t s) l
theorem Sector_eta (s : Sector) : (Sector.mk s.up s.mo s.mp s.ms s.dn s.dp s.ds s.ot) = s := (rfl)
theorem no99_Sector (l : List Sector) : No99LL (l.map (Sector.row 0)) := by
  induction l with
  | nil => simp [No99LL]
  | cons x l ih => simp only [List.map_cons, No99LL]; exact ⟨by simp [Sector.row, No99L, No99, no99_Own, no99_Part, no99_Seen, no99_Own, no99_Part, no99_Seen, no99_Word], ih⟩
structure HCraft where
  nm : ByteArray
  nr : Int
  no : Int
  tu : List Box6
  deriving Inhabited, DecidableEq
def HCraft.row (t : Nat) (s : HCraft) : List AV := [.str s.nm, .int .i64 s.nr, .int .i64 s.no, .sl t 6 (s.tu.map Box6.row)]
def unHCraft : List AV → HCraft
  | [.str vnm, .int .i64 vnr, .int .i64 vno, .sl _ 6 vtu] => (HCraft.mk vnm vnr vno (vtu.map unBox))
  | _ => default
theorem unHCraft_row (t : Nat) (s : HCraft) : unHCraft (HCraft.row t s) = s := by
  cases s; simp only [HCraft.row, unHCraft, un_box]
theorem un_HCraft (t : Nat) (l : List HCraft) : (l.map (HCraft.row t)).map unHCraft = l := by
  rw [List.map_map]; exact List.map_id'' (fun s => unHCraft_row t s) l
theorem HCraft_eta (s : HCraft) : (HCraft.mk s.nm s.nr s.no s.tu) = s := (rfl)
theorem no99_HCraft (l : List HCraft) : No99LL (l.map (HCraft.row 0)) := by
  induction l with
  | nil => simp [No99LL]
  | cons x l ih => simp only [List.map_cons, No99LL]; exact ⟨by simp [HCraft.row, No99L, No99, no99_box], ih⟩
structure World where
  zones : List Zone
  secs : List Sector
  crafts : List HCraft
  radio : List Word
  deriving Inhabited, DecidableEq
def World.row (t : Nat) (s : World) : List AV := [.sl t 5 (s.zones.map Zone.row), .sl t 8 (s.secs.map (Sector.row t)), .sl t 4 (s.crafts.map (HCraft.row t)), .sl t 8 (s.radio.map (Word.row t))]
def unWorld : List AV → World
  | [.sl _ 5 vzones, .sl _ 8 vsecs, .sl _ 4 vcrafts, .sl _ 8 vradio] => (World.mk (vzones.map unZone) (vsecs.map unSector) (vcrafts.map unHCraft) (vradio.map unWord))
  | _ => default
theorem unWorld_row (t : Nat) (s : World) : unWorld (World.row t s) = s := by
  cases s; simp only [World.row, unWorld, un_Zone, un_Sector, un_HCraft, un_Word]
theorem un_World (t : Nat) (l : List World) : (l.map (World.row t)).map unWorld = l := by
  rw [List.map_map]; exact List.map_id'' (fun s => unWorld_row t s) l
theorem World_eta (s : World) : (World.mk s.zones s.secs s.crafts s.radio) = s := (rfl)
theorem no99_World (l : List World) : No99LL (l.map (World.row 0)) := by
  induction l with
  | nil => simp [No99LL]
  | cons x l ih => simp only [List.map_cons, No99LL]; exact ⟨by simp [World.row, No99L, No99, no99_Zone, no99_Sector, no99_HCraft, no99_Word], ih⟩
theorem box_eta6 (s : Box6) : (Box6.mk s.x s.y s.l s.h s.i s.o) = s := (rfl)
theorem c_isName (s : ByteArray) : Contract P 76 [.str s] [] (.bool (decide (nameOk s))) [] := by
  refine fn_sound (Env.nil P) hm k_impl_isName (Nat.le_of_ble_eq_true rfl) rfl ?_; unfold s_impl_isName; simp (config := { maxSteps := 2000000 }) only [w_skip, w_rg, w_rgd, w_seq, w_cond, w_block, w_loop, w_exit, w_ret, w_gh, w_rg0, w_rg1, w_rgT, w_rgF, w_run, w_psd, w_und, w_dr0, w_dr1, w_drT, w_drF, w_drRun, w_drPsd, w_drUnd, w_drKn, w_drKs, w_putK, w_trimK, w_thenN, w_thenE, w_thenR, w_scope, w_label, w_blkN, w_blkE, w_blkR, w_call, w_callV, w_callF, o_clos, o_b2s, b2sE, w_effK, brU_true, brU_false, brU_u, brU_not, brU_and, brU_or, brU_dec, brU_eq, brU_ne, br_true, br_false, br_not, br_and, br_or, br_dec, br_eq, br_ne, w_getE0, w_getE1, w_setE0, w_setE1, w_dropE0, w_dropE1, w_drop0, w_drop1, w_getM0, w_getM1, w_setM0, w_setM1, ev_v, ev_c, w_putS, w_putN, w_lit, w_apU0, w_apU1, w_apU2, w_trim, enumE0, enumE1, w_callWp, w_callA0, w_callA1, w_R0, w_R1, w_R2, w_T2, w_callL, w_callT, w_T1, w_T0, o_mv, o_newnil, o_pick, o_bin, o_binN, o_neg, o_not, o_eqB, o_eqS, o_conv, o_alloc, o_box, o_load1, o_loadN, o_store, o_nilck, o_faddr, o_field1, o_fieldN, o_iaddr, o_istr, o_slStr, o_slSl, o_lenS, o_lenL, o_mx, o_mn, o_ext, o_build, o_lit, o_litOwn, o_app, o_mk, o_mvfrz, u_M1, u_M0, u_E1, optI, List.length_take, Int.toNat_zero, List.drop_zero, u_E0, o_idxN, o_idx, o_mset, o_look, o_mkmap, l_int, l_bool, l_str, l_agg, l_sl, l_own, l_ptr, l_pp, i_int, i_bool, i_str, i_sl, i_own, i_ptr, i_pp, all0, all1, e_ok1, eff, effBin, effBinN, ld_ptr, ld_pp, ld_elt, ia_own, ia_arr, el_1, el_N, load1K, faddrE, r_iaddr, sg_S, sg_c, sg_n, purL, pur, List.map, List.drop, List.take, List.length, List.foldl, List.append_eq, List.nil_append, List.cons_append, List.getD_cons_zero, List.getD_cons_succ, reduceIte, Nat.reduceEqDiff, Nat.reduceAdd, Nat.reduceLeDiff, true_and, and_true, Bool.not_true, Bool.not_false, Bool.and_true, Bool.true_and, Bool.and_self, reduceCtorEq, true_implies, false_implies, implies_true, decide_eq_true_eq, Option.map_some, fpOf, fpX, SOp.xs, oX, refs, refsL, dom, disj, List.all_nil, List.all_cons, List.contains_cons, List.contains_nil, Nat.reduceBEq, Bool.or_false, Bool.false_or, List.append_nil, Bool.not_false, Bool.not_true, List.forall_mem_cons, fm0, List.set, Nat.reduceLT, ne_eq, not_false_eq_true, not_true_eq_false, ret1, ret1N, keep0, keep1, rf_int, rf_bool, rf_str, rf_sl, rf_agg, rf_tup, rfL0, rfL1, re_t, re_cN, re_L0, re_L1, ret_tup, ret_one, decide_true, AV.bool.injEq, AV.int.injEq, Nat.reduceLeDiff, decide_eq_true_eq, decide_eq_false_iff_not, Int.toNat_natCast, List.length_map, decide_false, ghost, noref, flatOk, refsInO, wkM, str_eq, str_lt, str_le, false_dec, true_dec, Classical.not_not]
  refine ⟨fun h1 => ?_, fun h1 => ⟨fun h2 => ?_, fun h2 => ?_⟩⟩
  · grind [nameOk]
  · grind [nameOk]
  · refine loop_st (fun i : Nat => [(3, .int .i64 i)]) (fun _ => []) (fun i => i ≤ s.toList.length ∧ ∀ j, j < i → charOk (s.toList.getD j 0)) (fun i => s.toList.length - i) (0) (by simp only [u_E0, u_E1, u_M0, u_M1, w_setE0, w_setE1, w_setM0, w_setM1, reduceIte, Nat.reduceEqDiff]; exact ⟨by repeat' (first | exact trivial | refine ⟨.inr rfl, ?_⟩), by repeat' (first | exact trivial | refine ⟨rfl, ?_⟩), by first | rfl | simp [closedB, refsIn, refsInL, refsInO, dom, refsInL_nr, *], by first | rfl | simp [keepB, dom]⟩) ?_ ?_
    · exact ⟨Nat.zero_le _, by intro j hj; omega⟩
    intro i hi NX hN
    unfold l_impl_isName_0; simp (config := { maxSteps := 2000000 }) only [w_skip, w_rg, w_rgd, w_seq, w_cond, w_block, w_loop, w_exit, w_ret, w_gh, w_rg0, w_rg1, w_rgT, w_rgF, w_run, w_psd, w_und, w_dr0, w_dr1, w_drT, w_drF, w_drRun, w_drPsd, w_drUnd, w_drKn, w_drKs, w_putK, w_trimK, w_thenN, w_thenE, w_thenR, w_scope, w_label, w_blkN, w_blkE, w_blkR, w_call, w_callV, w_callF, o_clos, o_b2s, b2sE, w_effK, brU_true, brU_false, brU_u, brU_not, brU_and, brU_or, brU_dec, brU_eq, brU_ne, br_true, br_false, br_not, br_and, br_or, br_dec, br_eq, br_ne, w_getE0, w_getE1, w_setE0, w_setE1, w_dropE0, w_dropE1, w_drop0, w_drop1, w_getM0, w_getM1, w_setM0, w_setM1, ev_v, ev_c, w_putS, w_putN, w_lit, w_apU0, w_apU1, w_apU2, w_trim, enumE0, enumE1, w_callWp, w_callA0, w_callA1, w_R0, w_R1, w_R2, w_T2, w_callL, w_callT, w_T1, w_T0, o_mv, o_newnil, o_pick, o_bin, o_binN, o_neg, o_not, o_eqB, o_eqS, o_conv, o_alloc, o_box, o_load1, o_loadN, o_store, o_nilck, o_faddr, o_field1, o_fieldN, o_iaddr, o_istr, o_slStr, o_slSl, o_lenS, o_lenL, o_mx, o_mn, o_ext, o_build, o_lit, o_litOwn, o_app, o_mk, o_mvfrz, u_M1, u_M0, u_E1, optI, List.length_take, Int.toNat_zero, List.drop_zero, u_E0, o_idxN, o_idx, o_mset, o_look, o_mkmap, l_int, l_bool, l_str, l_agg, l_sl, l_own, l_ptr, l_pp, i_int, i_bool, i_str, i_sl, i_own, i_ptr, i_pp, all0, all1, e_ok1, eff, effBin, effBinN, ld_ptr, ld_pp, ld_elt, ia_own, ia_arr, el_1, el_N, load1K, faddrE, r_iaddr, sg_S, sg_c, sg_n, purL, pur, List.map, List.drop, List.take, List.length, List.foldl, List.append_eq, List.nil_append, List.cons_append, List.getD_cons_zero, List.getD_cons_succ, reduceIte, Nat.reduceEqDiff, Nat.reduceAdd, Nat.reduceLeDiff, true_and, and_true, Bool.not_true, Bool.not_false, Bool.and_true, Bool.true_and, Bool.and_self, reduceCtorEq, true_implies, false_implies, implies_true, decide_eq_true_eq, Option.map_some, fpOf, fpX, SOp.xs, oX, refs, refsL, dom, disj, List.all_nil, List.all_cons, List.contains_cons, List.contains_nil, Nat.reduceBEq, Bool.or_false, Bool.false_or, List.append_nil, Bool.not_false, Bool.not_true, List.forall_mem_cons, fm0, List.set, Nat.reduceLT, ne_eq, not_false_eq_true, not_true_eq_false, ret1, ret1N, keep0, keep1, rf_int, rf_bool, rf_str, rf_sl, rf_agg, rf_tup, rfL0, rfL1, re_t, re_cN, re_L0, re_L1, ret_tup, ret_one, decide_true, AV.bool.injEq, AV.int.injEq, Nat.reduceLeDiff, decide_eq_true_eq, decide_eq_false_iff_not, Int.toNat_natCast, List.length_map, decide_false, ghost, noref, flatOk, refsInO, wkM, str_eq, str_lt, str_le, false_dec, true_dec, Classical.not_not]
    repeat' (first | apply And.intro | intro _)
    all_goals first
      | omega
      | (refine hN (i + 1) _ (by simp only [u_E0, u_E1, u_M0, u_M1, w_setE0, w_setE1, w_setM0, w_setM1, reduceIte, Nat.reduceEqDiff]; exact ⟨by repeat' (first | exact trivial | refine ⟨.inr rfl, ?_⟩), by repeat' (first | exact trivial | refine ⟨rfl, ?_⟩), by first | rfl | simp [closedB, refsIn, refsInL, refsInO, dom, refsInL_nr, *], by first | rfl | simp [keepB, dom]⟩) ?_ ?_
         · exact ⟨by omega, all_snoc hi.2 (by grind [charOk])⟩
         · omega)
      | grind [nameOk, charOk]
end
end Go.Ve

namespace Go.Ve
noncomputable section
open Go.Proofs
set_option linter.unusedSimpArgs false
set_option linter.unusedVariables false
set_option maxRecDepth 100000
theorem tk_map {α : Type} {f : α → List AV} {l : List α} {n : Nat} : List.take n (List.map f l) = List.map f (List.take n l) := (List.map_take).symm
theorem dp_map {α : Type} {f : α → List AV} {l : List α} {n : Nat} : List.drop n (List.map f l) = List.map f (List.drop n l) := (List.map_drop).symm
theorem getD_take {α : Type} [Inhabited α] {l : List α} {n j : Nat} (h : j < n) : (l.take n).getD j default = l.getD j default := by
  simp [List.getD_eq_getElem?_getD, List.getElem?_take, h]
def t_isName : List AV → Option (Prop × AV)
  | [.str s] => some ((True) ∧ (True), .bool (decide (nameOk s)))
  | _ => none
theorem h_isName : ∀ args p v, t_isName args = some (p, v) → p → Contract P 76 args [] v [] ∧ noref v = true ∧ No99 v := by
  intro args p v h1 h2
  unfold t_isName at h1
  split at h1
  · rename_i s
    cases h1
    obtain ⟨_, HP⟩ := h2
    have := c_isName s
    exact ⟨this, rfl, trivial⟩
  · cases h1
theorem c_l31NameOk (s : ByteArray) (hp : True) : Contract P 28 [.str s] [] (.bool (decide (nameOk s))) [] := by
  refine fn_sound ((Env.nil P).add 48 t_l31In h_l31In) hm k_spec_l31NameOk (Nat.le_of_ble_eq_true rfl) rfl ?_; unfold s_spec_l31NameOk; simp (config := { maxSteps := 2000000 }) only [w_skip, w_rg, w_rgd, w_seq, w_cond, w_block, w_loop, w_exit, w_ret, w_gh, w_rg0, w_rg1, w_rgT, w_rgF, w_run, w_psd, w_und, w_dr0, w_dr1, w_drT, w_drF, w_drRun, w_drPsd, w_drUnd, w_drKn, w_drKs, w_putK, w_trimK, w_thenN, w_thenE, w_thenR, w_scope, w_label, w_blkN, w_blkE, w_blkR, w_call, w_callV, w_callF, o_clos, o_b2s, b2sE, w_effK, brU_true, brU_false, brU_u, brU_not, brU_and, brU_or, brU_dec, brU_eq, brU_ne, br_true, br_false, br_not, br_and, br_or, br_dec, br_eq, br_ne, w_getE0, w_getE1, w_setE0, w_setE1, w_dropE0, w_dropE1, w_drop0, w_drop1, w_getM0, w_getM1, w_setM0, w_setM1, ev_v, ev_c, w_putS, w_putN, w_lit, w_apU0, w_apU1, w_apU2, w_trim, enumE0, enumE1, w_callWp, w_callA0, w_callA1, w_R0, w_R1, w_R2, w_T2, w_callL, w_callT, w_T1, w_T0, o_mv, o_newnil, o_pick, o_bin, o_binN, o_neg, o_not, o_eqB, o_eqS, o_conv, o_alloc, o_box, o_load1, o_loadN, o_store, o_nilck, o_faddr, o_field1, o_fieldN, o_iaddr, o_istr, o_slStr, o_slSl, o_lenS, o_lenL, o_mx, o_mn, o_ext, o_build, o_lit, o_litOwn, o_app, o_mk, o_mvfrz, u_M1, u_M0, u_E1, optI, List.length_take, Int.toNat_zero, List.drop_zero, u_E0, o_idxN, o_idx, o_mset, o_look, o_mkmap, l_int, l_bool, l_str, l_agg, l_sl, l_own, l_ptr, l_pp, i_int, i_bool, i_str, i_sl, i_own, i_ptr, i_pp, all0, all1, e_ok1, eff, effBin, effBinN, ld_ptr, ld_pp, ld_elt, ia_own, ia_arr, el_1, el_N, load1K, faddrE, r_iaddr, sg_S, sg_c, sg_n, purL, pur, List.map, List.drop, List.take, List.length, List.foldl, List.append_eq, List.nil_append, List.cons_append, List.getD_cons_zero, List.getD_cons_succ, reduceIte, Nat.reduceEqDiff, Nat.reduceAdd, Nat.reduceLeDiff, true_and, and_true, Bool.not_true, Bool.not_false, Bool.and_true, Bool.true_and, Bool.and_self, reduceCtorEq, true_implies, false_implies, implies_true, decide_eq_true_eq, Option.map_some, fpOf, fpX, SOp.xs, oX, refs, refsL, dom, disj, List.all_nil, List.all_cons, List.contains_cons, List.contains_nil, Nat.reduceBEq, Bool.or_false, Bool.false_or, List.append_nil, Bool.not_false, Bool.not_true, List.forall_mem_cons, fm0, List.set, Nat.reduceLT, ne_eq, not_false_eq_true, not_true_eq_false, ret1, ret1N, keep0, keep1, rf_int, rf_bool, rf_str, rf_sl, rf_agg, rf_tup, rfL0, rfL1, re_t, re_cN, re_L0, re_L1, ret_tup, ret_one, decide_true, AV.bool.injEq, AV.int.injEq, Nat.reduceLeDiff, decide_eq_true_eq, decide_eq_false_iff_not, Int.toNat_natCast, List.length_map, decide_false, ghost, noref, flatOk, refsInO, wkM, str_eq, int_eq, int_ne, dec_beq, bool_beq, str_lt, str_le, false_dec, true_dec, Classical.not_not, t_l31In]
  refine ⟨fun h1 => ?_, fun h1 => ?_⟩
  · refine loop_st (fun i : Nat => [(3, .int .i64 i)]) (fun _ => []) (fun i => i ≤ s.toList.length ∧ ∀ j, j < i → charOk (s.toList.getD j 0)) (fun i => s.toList.length - i) (0) (by simp only [u_E0, u_E1, u_M0, u_M1, w_setE0, w_setE1, w_setM0, w_setM1, reduceIte, Nat.reduceEqDiff]; exact ⟨by repeat' (first | exact trivial | refine ⟨.inr rfl, ?_⟩), by repeat' (first | exact trivial | refine ⟨rfl, ?_⟩), by first | rfl | simp [closedB, refsIn, refsInL, refsInO, dom, refsInL_nr, *], by first | rfl | simp [keepB, dom]⟩) ?_ ?_
    · exact ⟨Nat.zero_le _, by intro j hj; omega⟩
    intro i hi NX hN
    unfold l_spec_l31NameOk_0; simp (config := { maxSteps := 2000000 }) only [w_skip, w_rg, w_rgd, w_seq, w_cond, w_block, w_loop, w_exit, w_ret, w_gh, w_rg0, w_rg1, w_rgT, w_rgF, w_run, w_psd, w_und, w_dr0, w_dr1, w_drT, w_drF, w_drRun, w_drPsd, w_drUnd, w_drKn, w_drKs, w_putK, w_trimK, w_thenN, w_thenE, w_thenR, w_scope, w_label, w_blkN, w_blkE, w_blkR, w_call, w_callV, w_callF, o_clos, o_b2s, b2sE, w_effK, brU_true, brU_false, brU_u, brU_not, brU_and, brU_or, brU_dec, brU_eq, brU_ne, br_true, br_false, br_not, br_and, br_or, br_dec, br_eq, br_ne, w_getE0, w_getE1, w_setE0, w_setE1, w_dropE0, w_dropE1, w_drop0, w_drop1, w_getM0, w_getM1, w_setM0, w_setM1, ev_v, ev_c, w_putS, w_putN, w_lit, w_apU0, w_apU1, w_apU2, w_trim, enumE0, enumE1, w_callWp, w_callA0, w_callA1, w_R0, w_R1, w_R2, w_T2, w_callL, w_callT, w_T1, w_T0, o_mv, o_newnil, o_pick, o_bin, o_binN, o_neg, o_not, o_eqB, o_eqS, o_conv, o_alloc, o_box, o_load1, o_loadN, o_store, o_nilck, o_faddr, o_field1, o_fieldN, o_iaddr, o_istr, o_slStr, o_slSl, o_lenS, o_lenL, o_mx, o_mn, o_ext, o_build, o_lit, o_litOwn, o_app, o_mk, o_mvfrz, u_M1, u_M0, u_E1, optI, List.length_take, Int.toNat_zero, List.drop_zero, u_E0, o_idxN, o_idx, o_mset, o_look, o_mkmap, l_int, l_bool, l_str, l_agg, l_sl, l_own, l_ptr, l_pp, i_int, i_bool, i_str, i_sl, i_own, i_ptr, i_pp, all0, all1, e_ok1, eff, effBin, effBinN, ld_ptr, ld_pp, ld_elt, ia_own, ia_arr, el_1, el_N, load1K, faddrE, r_iaddr, sg_S, sg_c, sg_n, purL, pur, List.map, List.drop, List.take, List.length, List.foldl, List.append_eq, List.nil_append, List.cons_append, List.getD_cons_zero, List.getD_cons_succ, reduceIte, Nat.reduceEqDiff, Nat.reduceAdd, Nat.reduceLeDiff, true_and, and_true, Bool.not_true, Bool.not_false, Bool.and_true, Bool.true_and, Bool.and_self, reduceCtorEq, true_implies, false_implies, implies_true, decide_eq_true_eq, Option.map_some, fpOf, fpX, SOp.xs, oX, refs, refsL, dom, disj, List.all_nil, List.all_cons, List.contains_cons, List.contains_nil, Nat.reduceBEq, Bool.or_false, Bool.false_or, List.append_nil, Bool.not_false, Bool.not_true, List.forall_mem_cons, fm0, List.set, Nat.reduceLT, ne_eq, not_false_eq_true, not_true_eq_false, ret1, ret1N, keep0, keep1, rf_int, rf_bool, rf_str, rf_sl, rf_agg, rf_tup, rfL0, rfL1, re_t, re_cN, re_L0, re_L1, ret_tup, ret_one, decide_true, AV.bool.injEq, AV.int.injEq, Nat.reduceLeDiff, decide_eq_true_eq, decide_eq_false_iff_not, Int.toNat_natCast, List.length_map, decide_false, ghost, noref, flatOk, refsInO, wkM, str_eq, int_eq, int_ne, dec_beq, bool_beq, str_lt, str_le, false_dec, true_dec, Classical.not_not]
    repeat' (first | with_reducible apply And.intro | with_reducible intro _)
    all_goals first
      | exact trivial
      | omega
      | (refine hN (i + 1) _ (by simp only [u_E0, u_E1, u_M0, u_M1, w_setE0, w_setE1, w_setM0, w_setM1, reduceIte, Nat.reduceEqDiff]; exact ⟨by repeat' (first | exact trivial | refine ⟨.inr rfl, ?_⟩), by repeat' (first | exact trivial | refine ⟨rfl, ?_⟩), by first | rfl | simp [closedB, refsIn, refsInL, refsInO, dom, refsInL_nr, *], by first | rfl | simp [keepB, dom]⟩) ?_ ?_
         · exact ⟨by omega, all_snoc hi.2 (by grind [nameOk, charOk])⟩
         · omega)
      | grind [nameOk, charOk]
  · grind [nameOk]
def t_l31NameOk : List AV → Option (Prop × AV)
  | [.str s] => some ((True) ∧ (True), .bool (decide (nameOk s)))
  | _ => none
theorem h_l31NameOk : ∀ args p v, t_l31NameOk args = some (p, v) → p → Contract P 28 args [] v [] ∧ noref v = true ∧ No99 v := by
  intro args p v h1 h2
  unfold t_l31NameOk at h1
  split at h1
  · rename_i s
    cases h1
    obtain ⟨_, HP⟩ := h2
    have := c_l31NameOk s HP
    exact ⟨this, rfl, trivial⟩
  · cases h1
def Zone.ok (z : Zone) : Prop := nameOk z.nm ∧ (0 ≤ z.x0 ∧ z.x0 ≤ z.x1 ∧ z.x1 < 16) ∧ (0 ≤ z.y0 ∧ z.y0 ≤ z.y1 ∧ z.y1 < 16)
def Zone.meet (o z : Zone) : Prop := o.x0 ≤ z.x1 ∧ z.x0 ≤ o.x1 ∧ o.y0 ≤ z.y1 ∧ z.y0 ≤ o.y1
def zoneAt (zs : List Zone) (i : Nat) : Prop := (zs.getD i default).ok ∧ (0 < i → slt (zs.getD (i - 1) default).nm (zs.getD i default).nm) ∧ ∀ k, k < i → ¬ (zs.getD k default).meet (zs.getD i default)
def zonesOk (zs : List Zone) : Prop := (1 ≤ zs.length ∧ zs.length ≤ 4) ∧ ∀ i, i < zs.length → zoneAt zs i
noncomputable instance (zs : List Zone) : Decidable (zonesOk zs) := Classical.propDecidable _
set_option maxHeartbeats 1000000 in
theorem c_zonesOk (t : Nat) (zs : List Zone) (hl : zs.length ≤ 4611686018427387904) : Contract P 36 [.sl t 5 (zs.map Zone.row)] [] (.bool (decide (zonesOk zs))) [] := by
  refine fn_sound (((Env.nil P).add 75 t_within h_within).add 76 t_isName h_isName) hm k_impl_HandZonesOk (Nat.le_of_ble_eq_true rfl) rfl ?_; unfold s_impl_HandZonesOk; simp (config := { maxSteps := 2000000 }) only [w_skip, w_rg, w_rgd, w_seq, w_cond, w_block, w_loop, w_exit, w_ret, w_gh, w_rg0, w_rg1, w_rgT, w_rgF, w_run, w_psd, w_und, w_dr0, w_dr1, w_drT, w_drF, w_drRun, w_drPsd, w_drUnd, w_drKn, w_drKs, w_putK, w_trimK, w_thenN, w_thenE, w_thenR, w_scope, w_label, w_blkN, w_blkE, w_blkR, w_call, w_callV, w_callF, o_clos, o_b2s, b2sE, w_effK, brU_true, brU_false, brU_u, brU_not, brU_and, brU_or, brU_dec, brU_eq, brU_ne, br_true, br_false, br_not, br_and, br_or, br_dec, br_eq, br_ne, w_getE0, w_getE1, w_setE0, w_setE1, w_dropE0, w_dropE1, w_drop0, w_drop1, w_getM0, w_getM1, w_setM0, w_setM1, ev_v, ev_c, w_putS, w_putN, w_lit, w_apU0, w_apU1, w_apU2, w_trim, enumE0, enumE1, w_callWp, w_callA0, w_callA1, w_R0, w_R1, w_R2, w_T2, w_callL, w_callT, w_T1, w_T0, o_mv, o_newnil, o_pick, o_bin, o_binN, o_neg, o_not, o_eqB, o_eqS, o_conv, o_alloc, o_box, o_load1, o_loadN, o_store, o_nilck, o_faddr, o_field1, o_fieldN, o_iaddr, o_istr, o_slStr, o_slSl, o_lenS, o_lenL, o_mx, o_mn, o_ext, o_build, o_lit, o_litOwn, o_app, o_mk, o_mvfrz, u_M1, u_M0, u_E1, optI, List.length_take, Int.toNat_zero, List.drop_zero, u_E0, o_idxN, o_idx, o_mset, o_look, o_mkmap, l_int, l_bool, l_str, l_agg, l_sl, l_own, l_ptr, l_pp, i_int, i_bool, i_str, i_sl, i_own, i_ptr, i_pp, all0, all1, e_ok1, eff, effBin, effBinN, ld_ptr, ld_pp, ld_elt, ia_own, ia_arr, el_1, el_N, load1K, faddrE, r_iaddr, sg_S, sg_c, sg_n, purL, pur, List.map, List.drop, List.take, List.length, List.foldl, List.append_eq, List.nil_append, List.cons_append, List.getD_cons_zero, List.getD_cons_succ, reduceIte, Nat.reduceEqDiff, Nat.reduceAdd, Nat.reduceLeDiff, true_and, and_true, Bool.not_true, Bool.not_false, Bool.and_true, Bool.true_and, Bool.and_self, reduceCtorEq, true_implies, false_implies, implies_true, decide_eq_true_eq, Option.map_some, fpOf, fpX, SOp.xs, oX, refs, refsL, dom, disj, List.all_nil, List.all_cons, List.contains_cons, List.contains_nil, Nat.reduceBEq, Bool.or_false, Bool.false_or, List.append_nil, Bool.not_false, Bool.not_true, List.forall_mem_cons, fm0, List.set, Nat.reduceLT, ne_eq, not_false_eq_true, not_true_eq_false, ret1, ret1N, keep0, keep1, rf_int, rf_bool, rf_str, rf_sl, rf_agg, rf_tup, rfL0, rfL1, re_t, re_cN, re_L0, re_L1, ret_tup, ret_one, decide_true, AV.bool.injEq, AV.int.injEq, Nat.reduceLeDiff, decide_eq_true_eq, decide_eq_false_iff_not, Int.toNat_natCast, List.length_map, decide_false, ghost, noref, flatOk, refsInO, wkM, str_eq, int_eq, int_ne, dec_beq, bool_beq, str_lt, str_le, false_dec, true_dec, Classical.not_not, t_within, t_isName, Zone.row, Zone_eta, tk_map, dp_map, List.drop_zero, toNat_pred]
  refine ⟨fun h1 => ?_, fun h1 => by grind [zonesOk]⟩
  · refine loop_st (fun i : Nat => [(13, .int .i64 i)]) (fun _ => []) (fun i => i ≤ zs.length ∧ ∀ j, j < i → zoneAt zs j) (fun i => zs.length - i) (0) (by simp only [u_E0, u_E1, u_M0, u_M1, w_setE0, w_setE1, w_setM0, w_setM1, reduceIte, Nat.reduceEqDiff]; exact ⟨by repeat' (first | exact trivial | refine ⟨.inr rfl, ?_⟩), by repeat' (first | exact trivial | refine ⟨rfl, ?_⟩), by first | rfl | simp [closedB, refsIn, refsInL, refsInO, dom, refsInL_nr, *], by first | rfl | simp [keepB, dom]⟩) ?_ ?_
    · exact ⟨Nat.zero_le _, by intro j hj; omega⟩
    intro i hi NX hN
    unfold l_impl_HandZonesOk_1; simp (config := { maxSteps := 2000000 }) only [w_skip, w_rg, w_rgd, w_seq, w_cond, w_block, w_loop, w_exit, w_ret, w_gh, w_rg0, w_rg1, w_rgT, w_rgF, w_run, w_psd, w_und, w_dr0, w_dr1, w_drT, w_drF, w_drRun, w_drPsd, w_drUnd, w_drKn, w_drKs, w_putK, w_trimK, w_thenN, w_thenE, w_thenR, w_scope, w_label, w_blkN, w_blkE, w_blkR, w_call, w_callV, w_callF, o_clos, o_b2s, b2sE, w_effK, brU_true, brU_false, brU_u, brU_not, brU_and, brU_or, brU_dec, brU_eq, brU_ne, br_true, br_false, br_not, br_and, br_or, br_dec, br_eq, br_ne, w_getE0, w_getE1, w_setE0, w_setE1, w_dropE0, w_dropE1, w_drop0, w_drop1, w_getM0, w_getM1, w_setM0, w_setM1, ev_v, ev_c, w_putS, w_putN, w_lit, w_apU0, w_apU1, w_apU2, w_trim, enumE0, enumE1, w_callWp, w_callA0, w_callA1, w_R0, w_R1, w_R2, w_T2, w_callL, w_callT, w_T1, w_T0, o_mv, o_newnil, o_pick, o_bin, o_binN, o_neg, o_not, o_eqB, o_eqS, o_conv, o_alloc, o_box, o_load1, o_loadN, o_store, o_nilck, o_faddr, o_field1, o_fieldN, o_iaddr, o_istr, o_slStr, o_slSl, o_lenS, o_lenL, o_mx, o_mn, o_ext, o_build, o_lit, o_litOwn, o_app, o_mk, o_mvfrz, u_M1, u_M0, u_E1, optI, List.length_take, Int.toNat_zero, List.drop_zero, u_E0, o_idxN, o_idx, o_mset, o_look, o_mkmap, l_int, l_bool, l_str, l_agg, l_sl, l_own, l_ptr, l_pp, i_int, i_bool, i_str, i_sl, i_own, i_ptr, i_pp, all0, all1, e_ok1, eff, effBin, effBinN, ld_ptr, ld_pp, ld_elt, ia_own, ia_arr, el_1, el_N, load1K, faddrE, r_iaddr, sg_S, sg_c, sg_n, purL, pur, List.map, List.drop, List.take, List.length, List.foldl, List.append_eq, List.nil_append, List.cons_append, List.getD_cons_zero, List.getD_cons_succ, reduceIte, Nat.reduceEqDiff, Nat.reduceAdd, Nat.reduceLeDiff, true_and, and_true, Bool.not_true, Bool.not_false, Bool.and_true, Bool.true_and, Bool.and_self, reduceCtorEq, true_implies, false_implies, implies_true, decide_eq_true_eq, Option.map_some, fpOf, fpX, SOp.xs, oX, refs, refsL, dom, disj, List.all_nil, List.all_cons, List.contains_cons, List.contains_nil, Nat.reduceBEq, Bool.or_false, Bool.false_or, List.append_nil, Bool.not_false, Bool.not_true, List.forall_mem_cons, fm0, List.set, Nat.reduceLT, ne_eq, not_false_eq_true, not_true_eq_false, ret1, ret1N, keep0, keep1, rf_int, rf_bool, rf_str, rf_sl, rf_agg, rf_tup, rfL0, rfL1, re_t, re_cN, re_L0, re_L1, ret_tup, ret_one, decide_true, AV.bool.injEq, AV.int.injEq, Nat.reduceLeDiff, decide_eq_true_eq, decide_eq_false_iff_not, Int.toNat_natCast, List.length_map, decide_false, ghost, noref, flatOk, refsInO, wkM, str_eq, int_eq, int_ne, dec_beq, bool_beq, str_lt, str_le, false_dec, true_dec, Classical.not_not, t_within, t_isName, Zone.row, Zone_eta, tk_map, dp_map, List.drop_zero, toNat_pred]
    have bad : ∀ P : Prop, (zonesOk zs → i < zs.length → P) → i < zs.length → ¬ P → ¬ zonesOk zs := fun P h h1 h2 h3 => h2 (h h3 h1)
    repeat' (first | with_reducible apply And.intro | with_reducible intro _)
    all_goals first
      | omega
      | (intro hq; have := hq.2 i (by omega); unfold zoneAt Zone.ok at this; grind)
      | (refine loop_st (fun k : Nat => [(77, .int .i64 k)]) (fun _ => []) (fun k => k ≤ i ∧ ∀ j, j < k → ¬ (zs.getD j default).meet (zs.getD i default)) (fun k => i - k) (0) (by simp only [u_E0, u_E1, u_M0, u_M1, w_setE0, w_setE1, w_setM0, w_setM1, reduceIte, Nat.reduceEqDiff]; exact ⟨by repeat' (first | exact trivial | refine ⟨.inr rfl, ?_⟩), by repeat' (first | exact trivial | refine ⟨rfl, ?_⟩), by first | rfl | simp [closedB, refsIn, refsInL, refsInO, dom, refsInL_nr, *], by first | rfl | simp [keepB, dom]⟩) ?_ ?_
         · exact ⟨Nat.zero_le _, by intro j hj; omega⟩
         intro k hk NX2 hN2
         unfold l_impl_HandZonesOk_0; simp (config := { maxSteps := 2000000 }) only [w_skip, w_rg, w_rgd, w_seq, w_cond, w_block, w_loop, w_exit, w_ret, w_gh, w_rg0, w_rg1, w_rgT, w_rgF, w_run, w_psd, w_und, w_dr0, w_dr1, w_drT, w_drF, w_drRun, w_drPsd, w_drUnd, w_drKn, w_drKs, w_putK, w_trimK, w_thenN, w_thenE, w_thenR, w_scope, w_label, w_blkN, w_blkE, w_blkR, w_call, w_callV, w_callF, o_clos, o_b2s, b2sE, w_effK, brU_true, brU_false, brU_u, brU_not, brU_and, brU_or, brU_dec, brU_eq, brU_ne, br_true, br_false, br_not, br_and, br_or, br_dec, br_eq, br_ne, w_getE0, w_getE1, w_setE0, w_setE1, w_dropE0, w_dropE1, w_drop0, w_drop1, w_getM0, w_getM1, w_setM0, w_setM1, ev_v, ev_c, w_putS, w_putN, w_lit, w_apU0, w_apU1, w_apU2, w_trim, enumE0, enumE1, w_callWp, w_callA0, w_callA1, w_R0, w_R1, w_R2, w_T2, w_callL, w_callT, w_T1, w_T0, o_mv, o_newnil, o_pick, o_bin, o_binN, o_neg, o_not, o_eqB, o_eqS, o_conv, o_alloc, o_box, o_load1, o_loadN, o_store, o_nilck, o_faddr, o_field1, o_fieldN, o_iaddr, o_istr, o_slStr, o_slSl, o_lenS, o_lenL, o_mx, o_mn, o_ext, o_build, o_lit, o_litOwn, o_app, o_mk, o_mvfrz, u_M1, u_M0, u_E1, optI, List.length_take, Int.toNat_zero, List.drop_zero, u_E0, o_idxN, o_idx, o_mset, o_look, o_mkmap, l_int, l_bool, l_str, l_agg, l_sl, l_own, l_ptr, l_pp, i_int, i_bool, i_str, i_sl, i_own, i_ptr, i_pp, all0, all1, e_ok1, eff, effBin, effBinN, ld_ptr, ld_pp, ld_elt, ia_own, ia_arr, el_1, el_N, load1K, faddrE, r_iaddr, sg_S, sg_c, sg_n, purL, pur, List.map, List.drop, List.take, List.length, List.foldl, List.append_eq, List.nil_append, List.cons_append, List.getD_cons_zero, List.getD_cons_succ, reduceIte, Nat.reduceEqDiff, Nat.reduceAdd, Nat.reduceLeDiff, true_and, and_true, Bool.not_true, Bool.not_false, Bool.and_true, Bool.true_and, Bool.and_self, reduceCtorEq, true_implies, false_implies, implies_true, decide_eq_true_eq, Option.map_some, fpOf, fpX, SOp.xs, oX, refs, refsL, dom, disj, List.all_nil, List.all_cons, List.contains_cons, List.contains_nil, Nat.reduceBEq, Bool.or_false, Bool.false_or, List.append_nil, Bool.not_false, Bool.not_true, List.forall_mem_cons, fm0, List.set, Nat.reduceLT, ne_eq, not_false_eq_true, not_true_eq_false, ret1, ret1N, keep0, keep1, rf_int, rf_bool, rf_str, rf_sl, rf_agg, rf_tup, rfL0, rfL1, re_t, re_cN, re_L0, re_L1, ret_tup, ret_one, decide_true, AV.bool.injEq, AV.int.injEq, Nat.reduceLeDiff, decide_eq_true_eq, decide_eq_false_iff_not, Int.toNat_natCast, List.length_map, decide_false, ghost, noref, flatOk, refsInO, wkM, str_eq, int_eq, int_ne, dec_beq, bool_beq, str_lt, str_le, false_dec, true_dec, Classical.not_not, t_within, t_isName, Zone.row, Zone_eta, tk_map, dp_map, List.drop_zero, toNat_pred]
         repeat' (first | with_reducible apply And.intro | with_reducible intro _)
         all_goals first
           | omega
           | (refine hN2 (k + 1) _ (by simp only [u_E0, u_E1, u_M0, u_M1, w_setE0, w_setE1, w_setM0, w_setM1, reduceIte, Nat.reduceEqDiff]; exact ⟨by repeat' (first | exact trivial | refine ⟨.inr rfl, ?_⟩), by repeat' (first | exact trivial | refine ⟨rfl, ?_⟩), by first | rfl | simp [closedB, refsIn, refsInL, refsInO, dom, refsInL_nr, *], by first | rfl | simp [keepB, dom]⟩) ?_ ?_
              · refine ⟨by omega, all_snoc hk.2 ?_⟩
                rw [getD_take (by omega)] at *
                grind [Zone.meet]
              · omega)
           | (refine hN (i + 1) _ (by simp only [u_E0, u_E1, u_M0, u_M1, w_setE0, w_setE1, w_setM0, w_setM1, reduceIte, Nat.reduceEqDiff]; exact ⟨by repeat' (first | exact trivial | refine ⟨.inr rfl, ?_⟩), by repeat' (first | exact trivial | refine ⟨rfl, ?_⟩), by first | rfl | simp [closedB, refsIn, refsInL, refsInO, dom, refsInL_nr, *], by first | rfl | simp [keepB, dom]⟩) ?_ ?_
              · refine ⟨by omega, all_snoc hi.2 ⟨?_, ?_, fun k hk2 => hk.2 k (by omega)⟩⟩
                · grind [Zone.ok]
                · grind
              · omega)
           | (intro hq
              have := (hq.2 i (by omega)).2.2 k (by omega)
              rw [getD_take (by omega)] at *
              grind [Zone.meet]))
      | (refine ⟨by omega, fun j hj => hi.2 j (by omega)⟩)
    all_goals trace_state
end
end Go.Ve

namespace Go.Ve
noncomputable section
open Go.Proofs
set_option linter.unusedSimpArgs false
set_option linter.unusedVariables false
set_option maxRecDepth 100000
def t_zonesOk : List AV → Option (Prop × AV)
  | [.sl zst 5 zsx] => some ((((zsx.map unZone).map Zone.row = zsx)) ∧ ((zsx.map unZone).length ≤ 4611686018427387904), .bool (decide (zonesOk (zsx.map unZone))))
  | _ => none
theorem h_zonesOk : ∀ args p v, t_zonesOk args = some (p, v) → p → Contract P 36 args [] v [] ∧ noref v = true ∧ No99 v := by
  intro args p v h1 h2
  unfold t_zonesOk at h1
  split at h1
  · rename_i zst zsx
    cases h1
    obtain ⟨e0, HP⟩ := h2
    have := c_zonesOk zst (zsx.map unZone) HP
    exact ⟨by simpa only [e0] using this, rfl, trivial⟩
  · cases h1
set_option maxHeartbeats 1000000 in
theorem c_sZonesOk (t : Nat) (zs : List Zone) (hl : zs.length ≤ 4611686018427387904) : Contract P 45 [.sl t 5 (zs.map Zone.row)] [] (.bool (decide (zonesOk zs))) [] := by
  refine fn_sound (((Env.nil P).add 48 t_l31In h_l31In).add 28 t_l31NameOk h_l31NameOk) hm k_spec_HandZonesOk (Nat.le_of_ble_eq_true rfl) rfl ?_; unfold s_spec_HandZonesOk; simp (config := { maxSteps := 2000000 }) only [w_skip, w_rg, w_rgd, w_seq, w_cond, w_block, w_loop, w_exit, w_ret, w_gh, w_rg0, w_rg1, w_rgT, w_rgF, w_run, w_psd, w_und, w_dr0, w_dr1, w_drT, w_drF, w_drRun, w_drPsd, w_drUnd, w_drKn, w_drKs, w_putK, w_trimK, w_thenN, w_thenE, w_thenR, w_scope, w_label, w_blkN, w_blkE, w_blkR, w_call, w_callV, w_callF, o_clos, o_b2s, b2sE, w_effK, brU_true, brU_false, brU_u, brU_not, brU_and, brU_or, brU_dec, brU_eq, brU_ne, br_true, br_false, br_not, br_and, br_or, br_dec, br_eq, br_ne, w_getE0, w_getE1, w_setE0, w_setE1, w_dropE0, w_dropE1, w_drop0, w_drop1, w_getM0, w_getM1, w_setM0, w_setM1, ev_v, ev_c, w_putS, w_putN, w_lit, w_apU0, w_apU1, w_apU2, w_trim, enumE0, enumE1, w_callWp, w_callA0, w_callA1, w_R0, w_R1, w_R2, w_T2, w_callL, w_callT, w_T1, w_T0, o_mv, o_newnil, o_pick, o_bin, o_binN, o_neg, o_not, o_eqB, o_eqS, o_conv, o_alloc, o_box, o_load1, o_loadN, o_store, o_nilck, o_faddr, o_field1, o_fieldN, o_iaddr, o_istr, o_slStr, o_slSl, o_lenS, o_lenL, o_mx, o_mn, o_ext, o_build, o_lit, o_litOwn, o_app, o_mk, o_mvfrz, u_M1, u_M0, u_E1, optI, List.length_take, Int.toNat_zero, List.drop_zero, u_E0, o_idxN, o_idx, o_mset, o_look, o_mkmap, l_int, l_bool, l_str, l_agg, l_sl, l_own, l_ptr, l_pp, i_int, i_bool, i_str, i_sl, i_own, i_ptr, i_pp, all0, all1, e_ok1, eff, effBin, effBinN, ld_ptr, ld_pp, ld_elt, ia_own, ia_arr, el_1, el_N, load1K, faddrE, r_iaddr, sg_S, sg_c, sg_n, purL, pur, List.map, List.drop, List.take, List.length, List.foldl, List.append_eq, List.nil_append, List.cons_append, List.getD_cons_zero, List.getD_cons_succ, reduceIte, Nat.reduceEqDiff, Nat.reduceAdd, Nat.reduceLeDiff, true_and, and_true, Bool.not_true, Bool.not_false, Bool.and_true, Bool.true_and, Bool.and_self, reduceCtorEq, true_implies, false_implies, implies_true, decide_eq_true_eq, Option.map_some, fpOf, fpX, SOp.xs, oX, refs, refsL, dom, disj, List.all_nil, List.all_cons, List.contains_cons, List.contains_nil, Nat.reduceBEq, Bool.or_false, Bool.false_or, List.append_nil, Bool.not_false, Bool.not_true, List.forall_mem_cons, fm0, List.set, Nat.reduceLT, ne_eq, not_false_eq_true, not_true_eq_false, ret1, ret1N, keep0, keep1, rf_int, rf_bool, rf_str, rf_sl, rf_agg, rf_tup, rfL0, rfL1, re_t, re_cN, re_L0, re_L1, ret_tup, ret_one, decide_true, AV.bool.injEq, AV.int.injEq, Nat.reduceLeDiff, decide_eq_true_eq, decide_eq_false_iff_not, Int.toNat_natCast, List.length_map, decide_false, ghost, noref, flatOk, refsInO, wkM, str_eq, int_eq, int_ne, dec_beq, bool_beq, str_lt, str_le, false_dec, true_dec, Classical.not_not, t_l31In, t_l31NameOk, Zone.row, Zone_eta, Box6.row, box_eta6, tk_map, dp_map, toNat_pred]
  refine ⟨fun h1 => ?_, fun h1 => by grind [zonesOk]⟩
  · refine loop_st (fun i : Nat => [(3, .int .i64 i)]) (fun _ => []) (fun i => i ≤ zs.length ∧ ∀ j, j < i → zoneAt zs j) (fun i => zs.length - i) (0) (by simp only [u_E0, u_E1, u_M0, u_M1, w_setE0, w_setE1, w_setM0, w_setM1, reduceIte, Nat.reduceEqDiff]; exact ⟨by repeat' (first | exact trivial | refine ⟨.inr rfl, ?_⟩), by repeat' (first | exact trivial | refine ⟨rfl, ?_⟩), by first | rfl | simp [closedB, refsIn, refsInL, refsInO, dom, refsInL_nr, *], by first | rfl | simp [keepB, dom]⟩) ?_ ?_
    · exact ⟨Nat.zero_le _, by intro j hj; omega⟩
    intro i hi NX hN
    unfold l_spec_HandZonesOk_1; simp (config := { maxSteps := 2000000 }) only [w_skip, w_rg, w_rgd, w_seq, w_cond, w_block, w_loop, w_exit, w_ret, w_gh, w_rg0, w_rg1, w_rgT, w_rgF, w_run, w_psd, w_und, w_dr0, w_dr1, w_drT, w_drF, w_drRun, w_drPsd, w_drUnd, w_drKn, w_drKs, w_putK, w_trimK, w_thenN, w_thenE, w_thenR, w_scope, w_label, w_blkN, w_blkE, w_blkR, w_call, w_callV, w_callF, o_clos, o_b2s, b2sE, w_effK, brU_true, brU_false, brU_u, brU_not, brU_and, brU_or, brU_dec, brU_eq, brU_ne, br_true, br_false, br_not, br_and, br_or, br_dec, br_eq, br_ne, w_getE0, w_getE1, w_setE0, w_setE1, w_dropE0, w_dropE1, w_drop0, w_drop1, w_getM0, w_getM1, w_setM0, w_setM1, ev_v, ev_c, w_putS, w_putN, w_lit, w_apU0, w_apU1, w_apU2, w_trim, enumE0, enumE1, w_callWp, w_callA0, w_callA1, w_R0, w_R1, w_R2, w_T2, w_callL, w_callT, w_T1, w_T0, o_mv, o_newnil, o_pick, o_bin, o_binN, o_neg, o_not, o_eqB, o_eqS, o_conv, o_alloc, o_box, o_load1, o_loadN, o_store, o_nilck, o_faddr, o_field1, o_fieldN, o_iaddr, o_istr, o_slStr, o_slSl, o_lenS, o_lenL, o_mx, o_mn, o_ext, o_build, o_lit, o_litOwn, o_app, o_mk, o_mvfrz, u_M1, u_M0, u_E1, optI, List.length_take, Int.toNat_zero, List.drop_zero, u_E0, o_idxN, o_idx, o_mset, o_look, o_mkmap, l_int, l_bool, l_str, l_agg, l_sl, l_own, l_ptr, l_pp, i_int, i_bool, i_str, i_sl, i_own, i_ptr, i_pp, all0, all1, e_ok1, eff, effBin, effBinN, ld_ptr, ld_pp, ld_elt, ia_own, ia_arr, el_1, el_N, load1K, faddrE, r_iaddr, sg_S, sg_c, sg_n, purL, pur, List.map, List.drop, List.take, List.length, List.foldl, List.append_eq, List.nil_append, List.cons_append, List.getD_cons_zero, List.getD_cons_succ, reduceIte, Nat.reduceEqDiff, Nat.reduceAdd, Nat.reduceLeDiff, true_and, and_true, Bool.not_true, Bool.not_false, Bool.and_true, Bool.true_and, Bool.and_self, reduceCtorEq, true_implies, false_implies, implies_true, decide_eq_true_eq, Option.map_some, fpOf, fpX, SOp.xs, oX, refs, refsL, dom, disj, List.all_nil, List.all_cons, List.contains_cons, List.contains_nil, Nat.reduceBEq, Bool.or_false, Bool.false_or, List.append_nil, Bool.not_false, Bool.not_true, List.forall_mem_cons, fm0, List.set, Nat.reduceLT, ne_eq, not_false_eq_true, not_true_eq_false, ret1, ret1N, keep0, keep1, rf_int, rf_bool, rf_str, rf_sl, rf_agg, rf_tup, rfL0, rfL1, re_t, re_cN, re_L0, re_L1, ret_tup, ret_one, decide_true, AV.bool.injEq, AV.int.injEq, Nat.reduceLeDiff, decide_eq_true_eq, decide_eq_false_iff_not, Int.toNat_natCast, List.length_map, decide_false, ghost, noref, flatOk, refsInO, wkM, str_eq, int_eq, int_ne, dec_beq, bool_beq, str_lt, str_le, false_dec, true_dec, Classical.not_not, t_l31In, t_l31NameOk, Zone.row, Zone_eta, Box6.row, box_eta6, tk_map, dp_map, toNat_pred]
    repeat' (first | with_reducible apply And.intro | with_reducible intro _)
    all_goals first
      | omega
      | (intro hq; have := hq.2 i (by omega); unfold zoneAt Zone.ok at this; grind)
      | (refine loop_st (fun k : Nat => [(5, .int .i64 k)]) (fun _ => []) (fun k => k ≤ i ∧ ∀ j, j < k → ¬ (zs.getD j default).meet (zs.getD i default)) (fun k => i - k) (0) (by simp only [u_E0, u_E1, u_M0, u_M1, w_setE0, w_setE1, w_setM0, w_setM1, reduceIte, Nat.reduceEqDiff]; exact ⟨by repeat' (first | exact trivial | refine ⟨.inr rfl, ?_⟩), by repeat' (first | exact trivial | refine ⟨rfl, ?_⟩), by first | rfl | simp [closedB, refsIn, refsInL, refsInO, dom, refsInL_nr, *], by first | rfl | simp [keepB, dom]⟩) ?_ ?_
         · exact ⟨Nat.zero_le _, by intro j hj; omega⟩
         intro k hk NX2 hN2
         unfold l_spec_HandZonesOk_0; simp (config := { maxSteps := 2000000 }) only [w_skip, w_rg, w_rgd, w_seq, w_cond, w_block, w_loop, w_exit, w_ret, w_gh, w_rg0, w_rg1, w_rgT, w_rgF, w_run, w_psd, w_und, w_dr0, w_dr1, w_drT, w_drF, w_drRun, w_drPsd, w_drUnd, w_drKn, w_drKs, w_putK, w_trimK, w_thenN, w_thenE, w_thenR, w_scope, w_label, w_blkN, w_blkE, w_blkR, w_call, w_callV, w_callF, o_clos, o_b2s, b2sE, w_effK, brU_true, brU_false, brU_u, brU_not, brU_and, brU_or, brU_dec, brU_eq, brU_ne, br_true, br_false, br_not, br_and, br_or, br_dec, br_eq, br_ne, w_getE0, w_getE1, w_setE0, w_setE1, w_dropE0, w_dropE1, w_drop0, w_drop1, w_getM0, w_getM1, w_setM0, w_setM1, ev_v, ev_c, w_putS, w_putN, w_lit, w_apU0, w_apU1, w_apU2, w_trim, enumE0, enumE1, w_callWp, w_callA0, w_callA1, w_R0, w_R1, w_R2, w_T2, w_callL, w_callT, w_T1, w_T0, o_mv, o_newnil, o_pick, o_bin, o_binN, o_neg, o_not, o_eqB, o_eqS, o_conv, o_alloc, o_box, o_load1, o_loadN, o_store, o_nilck, o_faddr, o_field1, o_fieldN, o_iaddr, o_istr, o_slStr, o_slSl, o_lenS, o_lenL, o_mx, o_mn, o_ext, o_build, o_lit, o_litOwn, o_app, o_mk, o_mvfrz, u_M1, u_M0, u_E1, optI, List.length_take, Int.toNat_zero, List.drop_zero, u_E0, o_idxN, o_idx, o_mset, o_look, o_mkmap, l_int, l_bool, l_str, l_agg, l_sl, l_own, l_ptr, l_pp, i_int, i_bool, i_str, i_sl, i_own, i_ptr, i_pp, all0, all1, e_ok1, eff, effBin, effBinN, ld_ptr, ld_pp, ld_elt, ia_own, ia_arr, el_1, el_N, load1K, faddrE, r_iaddr, sg_S, sg_c, sg_n, purL, pur, List.map, List.drop, List.take, List.length, List.foldl, List.append_eq, List.nil_append, List.cons_append, List.getD_cons_zero, List.getD_cons_succ, reduceIte, Nat.reduceEqDiff, Nat.reduceAdd, Nat.reduceLeDiff, true_and, and_true, Bool.not_true, Bool.not_false, Bool.and_true, Bool.true_and, Bool.and_self, reduceCtorEq, true_implies, false_implies, implies_true, decide_eq_true_eq, Option.map_some, fpOf, fpX, SOp.xs, oX, refs, refsL, dom, disj, List.all_nil, List.all_cons, List.contains_cons, List.contains_nil, Nat.reduceBEq, Bool.or_false, Bool.false_or, List.append_nil, Bool.not_false, Bool.not_true, List.forall_mem_cons, fm0, List.set, Nat.reduceLT, ne_eq, not_false_eq_true, not_true_eq_false, ret1, ret1N, keep0, keep1, rf_int, rf_bool, rf_str, rf_sl, rf_agg, rf_tup, rfL0, rfL1, re_t, re_cN, re_L0, re_L1, ret_tup, ret_one, decide_true, AV.bool.injEq, AV.int.injEq, Nat.reduceLeDiff, decide_eq_true_eq, decide_eq_false_iff_not, Int.toNat_natCast, List.length_map, decide_false, ghost, noref, flatOk, refsInO, wkM, str_eq, int_eq, int_ne, dec_beq, bool_beq, str_lt, str_le, false_dec, true_dec, Classical.not_not, t_l31In, t_l31NameOk, Zone.row, Zone_eta, Box6.row, box_eta6, tk_map, dp_map, toNat_pred]
         repeat' (first | with_reducible apply And.intro | with_reducible intro _)
         all_goals first
           | omega
           | (refine hN2 (k + 1) _ (by simp only [u_E0, u_E1, u_M0, u_M1, w_setE0, w_setE1, w_setM0, w_setM1, reduceIte, Nat.reduceEqDiff]; exact ⟨by repeat' (first | exact trivial | refine ⟨.inr rfl, ?_⟩), by repeat' (first | exact trivial | refine ⟨rfl, ?_⟩), by first | rfl | simp [closedB, refsIn, refsInL, refsInO, dom, refsInL_nr, *], by first | rfl | simp [keepB, dom]⟩) ?_ ?_
              · refine ⟨by omega, all_snoc hk.2 ?_⟩
                grind [Zone.meet]
              · omega)
           | (refine hN (i + 1) _ (by simp only [u_E0, u_E1, u_M0, u_M1, w_setE0, w_setE1, w_setM0, w_setM1, reduceIte, Nat.reduceEqDiff]; exact ⟨by repeat' (first | exact trivial | refine ⟨.inr rfl, ?_⟩), by repeat' (first | exact trivial | refine ⟨rfl, ?_⟩), by first | rfl | simp [closedB, refsIn, refsInL, refsInO, dom, refsInL_nr, *], by first | rfl | simp [keepB, dom]⟩) ?_ ?_
              · refine ⟨by omega, all_snoc hi.2 ⟨?_, ?_, fun k hk2 => hk.2 k (by omega)⟩⟩
                · grind [Zone.ok]
                · grind
              · omega)
           | (intro hq
              have := (hq.2 i (by omega)).2.2 k (by omega)
              grind [Zone.meet]))
      | (refine ⟨by omega, fun j hj => hi.2 j (by omega)⟩)
def t_sZonesOk : List AV → Option (Prop × AV)
  | [.sl zst 5 zsx] => some ((((zsx.map unZone).map Zone.row = zsx)) ∧ ((zsx.map unZone).length ≤ 4611686018427387904), .bool (decide (zonesOk (zsx.map unZone))))
  | _ => none
theorem h_sZonesOk : ∀ args p v, t_sZonesOk args = some (p, v) → p → Contract P 45 args [] v [] ∧ noref v = true ∧ No99 v := by
  intro args p v h1 h2
  unfold t_sZonesOk at h1
  split at h1
  · rename_i zst zsx
    cases h1
    obtain ⟨e0, HP⟩ := h2
    have := c_sZonesOk zst (zsx.map unZone) HP
    exact ⟨by simpa only [e0] using this, rfl, trivial⟩
  · cases h1
def Zone.over (z : Zone) (x y : Int) : Prop := (z.x0 ≤ x ∧ x ≤ z.x1) ∧ (z.y0 ≤ y ∧ y ≤ z.y1)
noncomputable instance (z : Zone) (x y : Int) : Decidable (z.over x y) := Classical.propDecidable _
end
end Go.Ve

namespace Go.Ve
noncomputable section
open Go.Proofs
set_option linter.unusedSimpArgs false
set_option linter.unusedVariables false
set_option maxRecDepth 100000
def zAt (zs : List Zone) (s : ByteArray) : Int := fIdx (fun z => decide (z.nm = s)) zs
def boxesIn (zs : List Zone) (b : Box6) : Prop := b.ok ∧ ∃ i, i < zs.length ∧ (zs.getD i default).over b.x b.y
def tubeOk (zs : List Zone) (tu : List Box6) : Prop := (1 ≤ tu.length ∧ tu.length ≤ 20) ∧ ∀ i, i < tu.length → boxesIn zs (tu.getD i default)
noncomputable instance (zs : List Zone) (tu : List Box6) : Decidable (tubeOk zs tu) := Classical.propDecidable _
end
end Go.Ve

namespace Go.Ve
noncomputable section
open Go.Proofs
set_option linter.unusedSimpArgs false
set_option linter.unusedVariables false
set_option maxRecDepth 100000
theorem unZone_mk {a : ByteArray} {b c d e : Int} : unZone [.str a, .int .i64 b, .int .i64 c, .int .i64 d, .int .i64 e] = ⟨a, b, c, d, e⟩ := rfl
def Zone.sees (z : Zone) (b : Box6) : Prop := b.ok ∧ (z.x0 - 1 ≤ b.x ∧ b.x ≤ z.x1 + 1) ∧ (z.y0 - 1 ≤ b.y ∧ b.y ≤ z.y1 + 1)
instance (z : Zone) (b : Box6) : Decidable (z.sees b) := Classical.propDecidable _
def partOf (z : Zone) (tu : List Box6) : List Box6 := if zonesOk [z] then tu.filter (fun b => decide (z.sees b)) else []
def kp (z : Zone) (tu : List Box6) (i : Nat) : List Box6 := (tu.take i).filter (fun b => decide (z.sees b))
def whoOf (zs : List Zone) (tu : List Box6) : List ByteArray := (zs.filter (fun z => decide (0 < (partOf z tu).length))).map (·.nm)
def wk (zs : List Zone) (tu : List Box6) (i : Nat) : List ByteArray := ((zs.take i).filter (fun z => decide (0 < (partOf z tu).length))).map (·.nm)
end
end Go.Ve

namespace Go.Ve
noncomputable section
open Go.Proofs
set_option linter.unusedSimpArgs false
set_option linter.unusedVariables false
set_option maxRecDepth 100000
def Box6.near (a b : Box6) : Prop := a.ok ∧ b.ok ∧ (a.i ≤ b.o ∧ b.i ≤ a.o) ∧ (a.l ≤ b.h ∧ b.l ≤ a.h) ∧ (-1 ≤ a.x - b.x ∧ a.x - b.x ≤ 1) ∧ (-1 ≤ a.y - b.y ∧ a.y - b.y ≤ 1)
instance (a b : Box6) : Decidable (a.near b) := Classical.propDecidable _
def nearT (a b : List Box6) : Prop := ∃ i, i < a.length ∧ ∃ k, k < b.length ∧ (a.getD i default).near (b.getD k default)
instance (a b : List Box6) : Decidable (nearT a b) := Classical.propDecidable _
instance (v : ByteArray) (l : List ByteArray) : Decidable (v ∈ l) := Classical.propDecidable _
def allIn (gr who : List ByteArray) : Prop := ∀ i, i < who.length → who.getD i default ∈ gr
instance (gr who : List ByteArray) : Decidable (allIn gr who) := Classical.propDecidable _
def seenOf (l : List Seen) (f : ByteArray) : Int := if 0 ≤ fIdx (fun s => decide (s.fl = f)) l then (l.getD (fIdx (fun s => decide (s.fl = f)) l).toNat default).nr else 0
theorem seenOf_at {l : List Seen} {f : ByteArray} {i : Nat} (hi : i < l.length) (h : (l.getD i default).fl = f) (k : ∀ j, j < i → (l.getD j default).fl ≠ f) : seenOf l f = (l.getD i default).nr := by
  unfold seenOf; rw [fIdx_at hi (by simpa using h) (fun j hj => by simpa using k j hj), if_pos (by omega)]; simp
theorem seenOf_none {l : List Seen} {f : ByteArray} (k : ∀ j, j < l.length → (l.getD j default).fl ≠ f) : seenOf l f = 0 := by
  unfold seenOf; rw [fIdx_none (fun j hj => by simpa using k j hj), if_neg (by omega)]
theorem c_seen (b : Book) (v : ByteArray) (hl : b.seen.length ≤ 4611686018427387904) : Contract P 101 [.agg (b.row 0), .str v] [] (.int .i64 (seenOf b.seen v)) [] := by
  simp only [Book.row]
  refine fn_sound (Env.nil P) hm k_impl_HandBook_seen (Nat.le_of_ble_eq_true rfl) rfl ?_; unfold s_impl_HandBook_seen; simp (config := { maxSteps := 2000000 }) only [w_skip, w_rg, w_rgd, w_seq, w_cond, w_block, w_loop, w_exit, w_ret, w_gh, w_rg0, w_rg1, w_rgT, w_rgF, w_run, w_psd, w_und, w_dr0, w_dr1, w_drT, w_drF, w_drRun, w_drPsd, w_drUnd, w_drKn, w_drKs, w_putK, w_trimK, w_thenN, w_thenE, w_thenR, w_scope, w_label, w_blkN, w_blkE, w_blkR, w_call, w_callV, w_callF, o_clos, o_b2s, b2sE, w_effK, brU_true, brU_false, brU_u, brU_not, brU_and, brU_or, brU_dec, brU_eq, brU_ne, br_true, br_false, br_not, br_and, br_or, br_dec, br_eq, br_ne, w_getE0, w_getE1, w_setE0, w_setE1, w_dropE0, w_dropE1, w_drop0, w_drop1, w_getM0, w_getM1, w_setM0, w_setM1, ev_v, ev_c, w_putS, w_putN, w_lit, w_apU0, w_apU1, w_apU2, w_trim, enumE0, enumE1, w_callWp, w_callA0, w_callA1, w_R0, w_R1, w_R2, w_T2, w_callL, w_callT, w_T1, w_T0, o_mv, o_newnil, o_pick, o_bin, o_binN, o_neg, o_not, o_eqB, o_eqS, o_conv, o_alloc, o_box, o_load1, o_loadN, o_store, o_nilck, o_faddr, o_field1, o_fieldN, o_iaddr, o_istr, o_slStr, o_slSl, o_lenS, o_lenL, o_mx, o_mn, o_ext, o_build, o_lit, o_litOwn, o_app, o_mk, o_mvfrz, u_M1, u_M0, u_E1, optI, List.length_take, Int.toNat_zero, List.drop_zero, u_E0, o_idxN, o_idx, o_mset, o_look, o_mkmap, l_int, l_bool, l_str, l_agg, l_sl, l_own, l_ptr, l_pp, i_int, i_bool, i_str, i_sl, i_own, i_ptr, i_pp, all0, all1, e_ok1, eff, effBin, effBinN, ld_ptr, ld_pp, ld_elt, ia_own, ia_arr, el_1, el_N, load1K, faddrE, r_iaddr, sg_S, sg_c, sg_n, purL, pur, List.map, List.drop, List.take, List.length, List.foldl, List.append_eq, List.nil_append, List.cons_append, List.getD_cons_zero, List.getD_cons_succ, reduceIte, Nat.reduceEqDiff, Nat.reduceAdd, Nat.reduceLeDiff, true_and, and_true, Bool.not_true, Bool.not_false, Bool.and_true, Bool.true_and, Bool.and_self, reduceCtorEq, true_implies, false_implies, implies_true, decide_eq_true_eq, Option.map_some, fpOf, fpX, SOp.xs, oX, refs, refsL, dom, disj, List.all_nil, List.all_cons, List.contains_cons, List.contains_nil, Nat.reduceBEq, Bool.or_false, Bool.false_or, List.append_nil, Bool.not_false, Bool.not_true, List.forall_mem_cons, fm0, List.set, Nat.reduceLT, ne_eq, not_false_eq_true, not_true_eq_false, ret1, ret1N, keep0, keep1, rf_int, rf_bool, rf_str, rf_sl, rf_agg, rf_tup, rfL0, rfL1, re_t, re_cN, re_L0, re_L1, ret_tup, ret_one, decide_true, AV.bool.injEq, AV.int.injEq, Nat.reduceLeDiff, decide_eq_true_eq, decide_eq_false_iff_not, Int.toNat_natCast, List.length_map, decide_false, ghost, noref, flatOk, refsInO, wkM, str_eq, int_eq, int_ne, dec_beq, bool_beq, str_lt, str_le, false_dec, true_dec, Classical.not_not, Zone.row, Zone_eta, Box6.row, box_eta6, tk_map, dp_map, toNat_pred, unZone_mk, appE, rowsOf, List.take_length, List.length_cons, List.length_nil, Nat.zero_add, srow, irow, un_s, un_i, un_box, un_Zone, un_Own, un_Part, un_Seen, un_Word, Seen.row, Seen_eta]
  refine loop_st (fun i : Nat => [(10, .int .i64 i)]) (fun _ => []) (fun i => i ≤ b.seen.length ∧ ∀ j, j < i → (b.seen.getD j default).fl ≠ v) (fun i => b.seen.length - i) (0) (by simp only [u_E0, u_E1, u_M0, u_M1, w_setE0, w_setE1, w_setM0, w_setM1, reduceIte, Nat.reduceEqDiff]; exact ⟨by repeat' (first | exact trivial | refine ⟨.inr rfl, ?_⟩), by repeat' (first | exact trivial | refine ⟨rfl, ?_⟩), by first | rfl | simp [closedB, refsIn, refsInL, refsInO, dom, refsInL_nr, *], by first | rfl | simp [keepB, dom]⟩) ?_ ?_
  · exact ⟨Nat.zero_le _, by intro j hj; omega⟩
  intro i hi NX hN
  unfold l_impl_HandBook_seen_0; simp (config := { maxSteps := 2000000 }) only [w_skip, w_rg, w_rgd, w_seq, w_cond, w_block, w_loop, w_exit, w_ret, w_gh, w_rg0, w_rg1, w_rgT, w_rgF, w_run, w_psd, w_und, w_dr0, w_dr1, w_drT, w_drF, w_drRun, w_drPsd, w_drUnd, w_drKn, w_drKs, w_putK, w_trimK, w_thenN, w_thenE, w_thenR, w_scope, w_label, w_blkN, w_blkE, w_blkR, w_call, w_callV, w_callF, o_clos, o_b2s, b2sE, w_effK, brU_true, brU_false, brU_u, brU_not, brU_and, brU_or, brU_dec, brU_eq, brU_ne, br_true, br_false, br_not, br_and, br_or, br_dec, br_eq, br_ne, w_getE0, w_getE1, w_setE0, w_setE1, w_dropE0, w_dropE1, w_drop0, w_drop1, w_getM0, w_getM1, w_setM0, w_setM1, ev_v, ev_c, w_putS, w_putN, w_lit, w_apU0, w_apU1, w_apU2, w_trim, enumE0, enumE1, w_callWp, w_callA0, w_callA1, w_R0, w_R1, w_R2, w_T2, w_callL, w_callT, w_T1, w_T0, o_mv, o_newnil, o_pick, o_bin, o_binN, o_neg, o_not, o_eqB, o_eqS, o_conv, o_alloc, o_box, o_load1, o_loadN, o_store, o_nilck, o_faddr, o_field1, o_fieldN, o_iaddr, o_istr, o_slStr, o_slSl, o_lenS, o_lenL, o_mx, o_mn, o_ext, o_build, o_lit, o_litOwn, o_app, o_mk, o_mvfrz, u_M1, u_M0, u_E1, optI, List.length_take, Int.toNat_zero, List.drop_zero, u_E0, o_idxN, o_idx, o_mset, o_look, o_mkmap, l_int, l_bool, l_str, l_agg, l_sl, l_own, l_ptr, l_pp, i_int, i_bool, i_str, i_sl, i_own, i_ptr, i_pp, all0, all1, e_ok1, eff, effBin, effBinN, ld_ptr, ld_pp, ld_elt, ia_own, ia_arr, el_1, el_N, load1K, faddrE, r_iaddr, sg_S, sg_c, sg_n, purL, pur, List.map, List.drop, List.take, List.length, List.foldl, List.append_eq, List.nil_append, List.cons_append, List.getD_cons_zero, List.getD_cons_succ, reduceIte, Nat.reduceEqDiff, Nat.reduceAdd, Nat.reduceLeDiff, true_and, and_true, Bool.not_true, Bool.not_false, Bool.and_true, Bool.true_and, Bool.and_self, reduceCtorEq, true_implies, false_implies, implies_true, decide_eq_true_eq, Option.map_some, fpOf, fpX, SOp.xs, oX, refs, refsL, dom, disj, List.all_nil, List.all_cons, List.contains_cons, List.contains_nil, Nat.reduceBEq, Bool.or_false, Bool.false_or, List.append_nil, Bool.not_false, Bool.not_true, List.forall_mem_cons, fm0, List.set, Nat.reduceLT, ne_eq, not_false_eq_true, not_true_eq_false, ret1, ret1N, keep0, keep1, rf_int, rf_bool, rf_str, rf_sl, rf_agg, rf_tup, rfL0, rfL1, re_t, re_cN, re_L0, re_L1, ret_tup, ret_one, decide_true, AV.bool.injEq, AV.int.injEq, Nat.reduceLeDiff, decide_eq_true_eq, decide_eq_false_iff_not, Int.toNat_natCast, List.length_map, decide_false, ghost, noref, flatOk, refsInO, wkM, str_eq, int_eq, int_ne, dec_beq, bool_beq, str_lt, str_le, false_dec, true_dec, Classical.not_not, Zone.row, Zone_eta, Box6.row, box_eta6, tk_map, dp_map, toNat_pred, unZone_mk, appE, rowsOf, List.take_length, List.length_cons, List.length_nil, Nat.zero_add, srow, irow, un_s, un_i, un_box, un_Zone, un_Own, un_Part, un_Seen, un_Word, Seen.row, Seen_eta]
  
  repeat' (first | with_reducible apply And.intro | with_reducible intro _)
  all_goals first
    | omega
    | (refine hN (i + 1) _ (by simp only [u_E0, u_E1, u_M0, u_M1, w_setE0, w_setE1, w_setM0, w_setM1, reduceIte, Nat.reduceEqDiff]; exact ⟨by repeat' (first | exact trivial | refine ⟨.inr rfl, ?_⟩), by repeat' (first | exact trivial | refine ⟨rfl, ?_⟩), by first | rfl | simp [closedB, refsIn, refsInL, refsInO, dom, refsInL_nr, *], by first | rfl | simp [keepB, dom]⟩) ?_ ?_
       · exact ⟨by omega, all_snoc hi.2 (by assumption)⟩
       · omega)
    | (rw [seenOf_at (i := i) (by omega) (by assumption) hi.2])
    | (rw [seenOf_none fun j hj => hi.2 j (by omega)])
end
end Go.Ve

namespace Go.Ve
noncomputable section
open Go.Proofs
set_option linter.unusedSimpArgs false
set_option linter.unusedVariables false
set_option maxRecDepth 100000
def heldOk (zs : List Zone) (n : Int) (tu : List Box6) : Prop := (n = 0 → tu.length = 0) ∧ (n ≠ 0 → tubeOk zs tu)
instance (zs : List Zone) (n : Int) (tu : List Box6) : Decidable (heldOk zs n tu) := Classical.propDecidable _
def grAt (wh gr : List ByteArray) (i : Nat) : Prop := gr.getD i default ∈ wh ∧ (0 < i → slt (gr.getD (i - 1) default) (gr.getD i default))
def ownOk1 (zs : List Zone) (o : Own) : Prop := nameOk o.fl ∧ (1 ≤ o.st ∧ o.st ≤ 3) ∧ (1 ≤ o.tn ∧ o.tn ≤ 1000000) ∧ (0 ≤ o.la ∧ o.la ≤ 1000000) ∧ (0 ≤ o.nr ∧ o.nr ≤ o.la) ∧ (0 ≤ o.wi ∧ o.wi ≤ o.la) ∧ (o.wi ≠ 0 → o.nr < o.wi)
def ownOk2 (zs : List Zone) (o : Own) : Prop := (o.st = 1 ↔ o.dst = ⟨#[]⟩) ∧ (o.st ≠ 1 → 0 ≤ zAt zs o.dst) ∧ (o.st ≠ 1 → o.wi = 0) ∧ (o.st = 2 → o.nr ≠ 0)
def ownOk3 (zs : List Zone) (o : Own) : Prop := heldOk zs o.nr o.tu ∧ heldOk zs o.wi o.nx
def ownOk4 (zs : List Zone) (o : Own) : Prop := (∀ i, i < o.gr.length → grAt (whoOf zs o.nx) o.gr i) ∧ (o.sent = true ↔ 0 < o.wi ∧ allIn o.gr (whoOf zs o.nx))
def ownOk (zs : List Zone) (o : Own) : Prop := ownOk1 zs o ∧ ownOk2 zs o ∧ ownOk3 zs o ∧ ownOk4 zs o
instance (zs : List Zone) (o : Own) : Decidable (ownOk zs o) := Classical.propDecidable _
def ownAt (zs : List Zone) (l : List Own) (i : Nat) : Prop := ownOk zs (l.getD i default) ∧ (0 < i → slt (l.getD (i - 1) default).fl (l.getD i default).fl)
def ownsOk (zs : List Zone) (l : List Own) : Prop := l.length ≤ 6 ∧ ∀ i, i < l.length → ownAt zs l i
instance (zs : List Zone) (l : List Own) : Decidable (ownsOk zs l) := Classical.propDecidable _
def Part.before (a p : Part) : Prop := slt a.fl p.fl ∨ (a.fl = p.fl ∧ a.nr < p.nr)
instance (a p : Part) : Decidable (a.before p) := Classical.propDecidable _
def partAt (zs : List Zone) (b : Book) (i : Nat) : Prop := nameOk (b.parts.getD i default).fl ∧ (1 ≤ (b.parts.getD i default).nr ∧ (b.parts.getD i default).nr ≤ seenOf b.seen (b.parts.getD i default).fl) ∧ tubeOk zs (b.parts.getD i default).bx ∧
  (0 < i → (b.parts.getD (i - 1) default).before (b.parts.getD i default)) ∧ ∀ k, k < i → (b.parts.getD k default).fl ≠ (b.parts.getD i default).fl → ¬ nearT (b.parts.getD k default).bx (b.parts.getD i default).bx
def partsOk (zs : List Zone) (b : Book) : Prop := b.parts.length ≤ 16 ∧ ∀ i, i < b.parts.length → partAt zs b i
instance (zs : List Zone) (b : Book) : Decidable (partsOk zs b) := Classical.propDecidable _
def seenAt (l : List Seen) (i : Nat) : Prop := nameOk (l.getD i default).fl ∧ (1 ≤ (l.getD i default).nr ∧ (l.getD i default).nr ≤ 1000000) ∧ (0 < i → slt (l.getD (i - 1) default).fl (l.getD i default).fl)
def seenOk (l : List Seen) : Prop := l.length ≤ 6 ∧ ∀ i, i < l.length → seenAt l i
def bookOk (zs : List Zone) (b : Book) : Prop := ownsOk zs b.own ∧ partsOk zs b ∧ seenOk b.seen
instance (zs : List Zone) (b : Book) : Decidable (bookOk zs b) := Classical.propDecidable _
/-- Lists that are not too long for a machine. -/
def Own.small (o : Own) : Prop := o.tu.length ≤ 1048576 ∧ o.nx.length ≤ 1048576 ∧ o.gr.length ≤ 1048576
def Book.small (b : Book) : Prop := (b.own.length ≤ 1048576 ∧ ∀ o ∈ b.own, o.small) ∧ (b.parts.length ≤ 1048576 ∧ ∀ p ∈ b.parts, p.bx.length ≤ 1048576) ∧ b.seen.length ≤ 1048576
end
end Go.Ve

namespace Go.Ve
noncomputable section
open Go.Proofs
set_option linter.unusedSimpArgs false
set_option linter.unusedVariables false
set_option maxRecDepth 100000
end
end Go.Ve

namespace Go.Ve
noncomputable section
open Go.Proofs
set_option linter.unusedSimpArgs false
set_option linter.unusedVariables false
set_option maxRecDepth 100000
instance (zs : List Zone) (o : Own) : Decidable (ownOk4 zs o) := Classical.propDecidable _
end
end Go.Ve

namespace Go.Ve
noncomputable section
open Go.Proofs
set_option linter.unusedSimpArgs false
set_option linter.unusedVariables false
set_option maxRecDepth 100000
end
end Go.Ve

namespace Go.Ve
noncomputable section
open Go.Proofs
set_option linter.unusedSimpArgs false
set_option linter.unusedVariables false
set_option maxRecDepth 100000
open Go.ChangeShapes Go.WideShapes
/-- What is left when a list is counted, and each of its parts. -/
def szS {α : Type} (f : α → Int → Int) (l : List α) (a : Int) : Int := l.foldl (fun a x => f x a) (szOf a l.length)
def szStr (s : ByteArray) (a : Int) : Int := szOf a s.toList.length
def Meas {α : Type} (f : α → Int → Int) : Prop := ∀ x a, a ≤ 1048576 → (f x a = -1 ∨ 0 ≤ f x a) ∧ (a < 0 → f x a = -1) ∧ f x a ≤ max a (-1)
def chk (x : Int) (k : Int → Int) : Int := if x < 0 then -1 else k x
def Meas1 (g : Int → Int) : Prop := ∀ a, a ≤ 1048576 → (g a = -1 ∨ 0 ≤ g a) ∧ (a < 0 → g a = -1) ∧ g a ≤ max a (-1)
def MeasP (g : Int → Int) : Prop := ∀ a, 0 ≤ a → a ≤ 1048576 → (g a = -1 ∨ 0 ≤ g a) ∧ g a ≤ a
theorem Meas1.p {g : Int → Int} (h : Meas1 g) : MeasP g := fun a h0 h1 => ⟨(h a h1).1, by have := (h a h1).2.2; omega⟩
theorem measP_id : MeasP fun z => z := fun a h0 h1 => ⟨.inr h0, Int.le_refl a⟩
theorem chk_sub {k : Int → Int} (n : Nat) (h : MeasP k) : Meas1 fun a => chk (a - n) k := fun a ha => by
  simp only [chk]
  split
  · exact ⟨.inl rfl, fun _ => rfl, by omega⟩
  · rename_i h1
    have := h (a - n) (by omega) (by omega)
    exact ⟨this.1, fun _ => by omega, by omega⟩
theorem fold_meas {α : Type} {f : α → Int → Int} (h : Meas f) : ∀ (l : List α) (a : Int), a ≤ 1048576 → (a = -1 ∨ 0 ≤ a) → (l.foldl (fun a x => f x a) a = -1 ∨ 0 ≤ l.foldl (fun a x => f x a) a) ∧ (a < 0 → l.foldl (fun a x => f x a) a = -1) ∧ l.foldl (fun a x => f x a) a ≤ max a (-1)
  | [], a, h1, h2 => ⟨h2, fun h3 => by simp only [List.foldl_nil]; omega, by simp only [List.foldl_nil]; omega⟩
  | x :: l, a, h1, h2 => by
    obtain ⟨k1, k2, k3⟩ := h x a h1
    obtain ⟨i1, i2, i3⟩ := fold_meas h l (f x a) (by omega) k1
    simp only [List.foldl_cons]
    exact ⟨i1, fun h3 => i2 (by have := k2 h3; omega), by omega⟩
/-- A list that was counted is small, and so are its parts. -/
theorem fold_ok {α : Type} {f : α → Int → Int} {p : α → Prop} (h : Meas f) (hp : ∀ x a, a ≤ 1048576 → 0 ≤ f x a → p x) : ∀ (l : List α) (a : Int), a ≤ 1048576 → (a = -1 ∨ 0 ≤ a) → 0 ≤ l.foldl (fun a x => f x a) a → ∀ x ∈ l, p x
  | [], _, _, _, _, x, hx => by simp at hx
  | y :: l, a, h1, h2, h3, x, hx => by
    simp only [List.foldl_cons] at h3
    obtain ⟨k1, k2, k3⟩ := h y a h1
    have hy : 0 ≤ f y a := by
      rcases k1 with k1 | k1
      · have := (fold_meas h l (f y a) (by omega) (.inl k1)).2.1 (by omega); omega
      · exact k1
    rcases List.mem_cons.1 hx with rfl | hx
    · exact hp _ a h1 hy
    · exact fold_ok h hp l (f y a) (by omega) (.inr hy) h3 x hx
theorem szS_ok {α : Type} {f : α → Int → Int} {p : α → Prop} (h : Meas f) (hp : ∀ x a, a ≤ 1048576 → 0 ≤ f x a → p x) {l : List α} {a : Int} (ha : a ≤ 1048576) (h0 : 0 ≤ szS f l a) : l.length ≤ 1048576 ∧ ∀ x ∈ l, p x := by
  unfold szS at h0
  have hs : (szOf a l.length = -1 ∨ 0 ≤ szOf a l.length) ∧ szOf a l.length ≤ 1048576 := by unfold szOf; split <;> omega
  refine ⟨?_, fold_ok h hp l _ hs.2 hs.1 h0⟩
  rcases hs.1 with e | e
  · have := (fold_meas h l _ hs.2 (.inl e)).2.1 (by omega); omega
  · unfold szOf at e; split at e <;> omega
/-- One more part of a list. -/
theorem fold_take {α : Type} [Inhabited α] {f : α → Int → Int} {l : List α} {i : Nat} {a : Int} (hi : i < l.length) : (l.take (i + 1)).foldl (fun a x => f x a) a = f (l.getD i default) ((l.take i).foldl (fun a x => f x a) a) := by
  have e : l.getD i default = l[i] := by simp [hi]
  rw [e, List.take_succ_eq_append_getElem hi, List.foldl_append]; rfl
theorem fold_stop {α : Type} [Inhabited α] {f : α → Int → Int} (h : Meas f) {l : List α} {i : Nat} {a : Int} (hi : i < l.length) (ha : a ≤ 1048576) (h0 : a = -1 ∨ 0 ≤ a) (hn : f (l.getD i default) ((l.take i).foldl (fun a x => f x a) a) < 0) : l.foldl (fun a x => f x a) a = -1 := by
  rw [← fold_take (f := f) hi] at hn
  have e : l.foldl (fun a x => f x a) a = (l.drop (i + 1)).foldl (fun a x => f x a) ((l.take (i + 1)).foldl (fun a x => f x a) a) := by
    rw [← List.foldl_append, List.take_append_drop]
  rw [e]
  have k := fold_meas h (l.take (i + 1)) a ha h0
  exact (fold_meas h _ _ (by omega) k.1).2.1 hn
theorem fit_rows2 {α : Type} {f : α → List AV} {p : α → Prop} {rs : List LSh} (h : ∀ r, fitsL rs r → ∃ x : α, r = f x ∧ p x) : ∀ {rows : List (List AV)}, (∀ r ∈ rows, fitsL rs r) → ∃ l : List α, rows = l.map f ∧ ∀ x ∈ l, p x
  | [], _ => ⟨[], rfl, by simp⟩
  | r :: rows, k => by
    obtain ⟨x, rfl, hx⟩ := h r (k r (by simp))
    obtain ⟨l, rfl, hl⟩ := fit_rows2 h (rows := rows) fun r' h' => k r' (by simp [h'])
    exact ⟨x :: l, rfl, by simpa using ⟨hx, hl⟩⟩
theorem getD_mem' {α : Type} [Inhabited α] {l : List α} {i : Nat} (h : i < l.length) : l.getD i default ∈ l := by simp [h]
def Zone.fitp (s : Zone) : Prop := s.nm.toList.length ≤ 9223372036854775807
def Zone.sz (s : Zone) (z0 : Int) : Int := chk (z0 - (s.nm.toList.length : Nat)) (fun z1 => z1)
theorem meas_Zone : Meas Zone.sz := fun s => chk_sub _ (measP_id)
def Seen.fitp (s : Seen) : Prop := s.fl.toList.length ≤ 9223372036854775807
def Seen.sz (s : Seen) (z0 : Int) : Int := chk (z0 - (s.fl.toList.length : Nat)) (fun z1 => z1)
def Own.fitp (s : Own) : Prop := s.fl.toList.length ≤ 9223372036854775807 ∧ s.dst.toList.length ≤ 9223372036854775807 ∧ s.tu.length ≤ 9223372036854775807 ∧ s.nx.length ≤ 9223372036854775807 ∧ (s.gr.length ≤ 9223372036854775807 ∧ ∀ y ∈ s.gr, y.toList.length ≤ 9223372036854775807)
def Own.sz (s : Own) (z0 : Int) : Int := chk (z0 - (s.fl.toList.length : Nat)) (fun z1 => chk (z1 - (s.dst.toList.length : Nat)) (fun z2 => chk (szOf z2 s.tu.length) (fun z3 => chk (szOf z3 s.nx.length) (fun z4 => chk (szS szStr s.gr z4) (fun z5 => z5)))))
def Part.fitp (s : Part) : Prop := s.fl.toList.length ≤ 9223372036854775807 ∧ s.bx.length ≤ 9223372036854775807
def Part.small (s : Part) : Prop := s.bx.length ≤ 1048576
def Part.sz (s : Part) (z0 : Int) : Int := chk (z0 - (s.fl.toList.length : Nat)) (fun z1 => chk (szOf z1 s.bx.length) (fun z2 => z2))
def Book.fitp (s : Book) : Prop := (s.own.length ≤ 9223372036854775807 ∧ ∀ y ∈ s.own, y.fitp) ∧ (s.parts.length ≤ 9223372036854775807 ∧ ∀ y ∈ s.parts, y.fitp) ∧ (s.seen.length ≤ 9223372036854775807 ∧ ∀ y ∈ s.seen, y.fitp)
def Book.sz (s : Book) (z0 : Int) : Int := chk (szS Own.sz s.own z0) (fun z1 => chk (szS Part.sz s.parts z1) (fun z2 => chk (szS Seen.sz s.seen z2) (fun z3 => z3)))
theorem c_szZone (s : Zone) (a : Int) (ha : 0 ≤ a ∧ a ≤ 1048576) (hs : s.fitp) : Contract P 25 [.agg s.row, .int .i64 a] [] (.int .i64 (s.sz a)) [] := by
  unfold Zone.fitp at hs
  simp only [Zone.row]
  refine fn_sound (Env.nil P) hm k_laws_szHandZone (Nat.le_of_ble_eq_true rfl) rfl ?_; unfold s_laws_szHandZone; simp (config := { maxSteps := 2000000 }) only [w_skip, w_rg, w_rgd, w_seq, w_cond, w_block, w_loop, w_exit, w_ret, w_gh, w_rg0, w_rg1, w_rgT, w_rgF, w_run, w_psd, w_und, w_dr0, w_dr1, w_drT, w_drF, w_drRun, w_drPsd, w_drUnd, w_drKn, w_drKs, w_putK, w_trimK, w_thenN, w_thenE, w_thenR, w_scope, w_label, w_blkN, w_blkE, w_blkR, w_call, w_callV, w_callF, o_clos, o_b2s, b2sE, w_effK, brU_true, brU_false, brU_u, brU_not, brU_and, brU_or, brU_dec, brU_eq, brU_ne, br_true, br_false, br_not, br_and, br_or, br_dec, br_eq, br_ne, w_getE0, w_getE1, w_setE0, w_setE1, w_dropE0, w_dropE1, w_drop0, w_drop1, w_getM0, w_getM1, w_setM0, w_setM1, ev_v, ev_c, w_putS, w_putN, w_lit, w_apU0, w_apU1, w_apU2, w_trim, enumE0, enumE1, w_callWp, w_callA0, w_callA1, w_R0, w_R1, w_R2, w_T2, w_callL, w_callT, w_T1, w_T0, o_mv, o_newnil, o_pick, o_bin, o_binN, o_neg, o_not, o_eqB, o_eqS, o_conv, o_alloc, o_box, o_load1, o_loadN, o_store, o_nilck, o_faddr, o_field1, o_fieldN, o_iaddr, o_istr, o_slStr, o_slSl, o_lenS, o_lenL, o_mx, o_mn, o_ext, o_build, o_lit, o_litOwn, o_app, o_mk, o_mvfrz, u_M1, u_M0, u_E1, optI, List.length_take, Int.toNat_zero, List.drop_zero, u_E0, o_idxN, o_idx, o_mset, o_look, o_mkmap, l_int, l_bool, l_str, l_agg, l_sl, l_own, l_ptr, l_pp, i_int, i_bool, i_str, i_sl, i_own, i_ptr, i_pp, all0, all1, e_ok1, eff, effBin, effBinN, ld_ptr, ld_pp, ld_elt, ia_own, ia_arr, el_1, el_N, load1K, faddrE, r_iaddr, sg_S, sg_c, sg_n, purL, pur, List.map, List.drop, List.take, List.length, List.foldl, List.append_eq, List.nil_append, List.cons_append, List.getD_cons_zero, List.getD_cons_succ, reduceIte, Nat.reduceEqDiff, Nat.reduceAdd, Nat.reduceLeDiff, true_and, and_true, Bool.not_true, Bool.not_false, Bool.and_true, Bool.true_and, Bool.and_self, reduceCtorEq, true_implies, false_implies, implies_true, decide_eq_true_eq, Option.map_some, fpOf, fpX, SOp.xs, oX, refs, refsL, dom, disj, List.all_nil, List.all_cons, List.contains_cons, List.contains_nil, Nat.reduceBEq, Bool.or_false, Bool.false_or, List.append_nil, Bool.not_false, Bool.not_true, List.forall_mem_cons, fm0, List.set, Nat.reduceLT, ne_eq, not_false_eq_true, not_true_eq_false, ret1, ret1N, keep0, keep1, rf_int, rf_bool, rf_str, rf_sl, rf_agg, rf_tup, rfL0, rfL1, re_t, re_cN, re_L0, re_L1, ret_tup, ret_one, decide_true, AV.bool.injEq, AV.int.injEq, Nat.reduceLeDiff, decide_eq_true_eq, decide_eq_false_iff_not, Int.toNat_natCast, List.length_map, decide_false, ghost, noref, flatOk, refsInO, wkM, str_eq, int_eq, int_ne, dec_beq, bool_beq, str_lt, str_le, false_dec, true_dec, Classical.not_not, Zone.row, Zone_eta, Box6.row, box_eta6, tk_map, dp_map, toNat_pred, unZone_mk, appE, rowsOf, List.take_length, List.length_cons, List.length_nil, Nat.zero_add, srow, irow, un_s, un_i, un_box, un_Zone, un_Own, un_Part, un_Seen, un_Word, Word.row, Word_eta, Own.row, Own_eta, Part.row, Part_eta, Seen.row, Seen_eta, Book.row, Book_eta, Sector.row, Sector_eta, HCraft.row, HCraft_eta, World.row, World_eta, un_Word, un_Own, un_Part, un_Seen, un_Book, un_Sector, un_HCraft, un_World]
  unfold Zone.sz
  repeat' (first | with_reducible apply And.intro | with_reducible intro _)
  all_goals first | omega | (exact hs) | (exact hs.1) | (exact hs.2.1) | (exact hs.2.2) | (exact hs.2.2.1) | (exact hs.2.2.2) | (exact hs.2.2.2.1) | (exact hs.2.2.2.2) | (exact hs.1.1) | (exact hs.1.2) | (exact hs.2.1.1) | (exact hs.2.1.2) | (unfold chk; grind) | grind
def t_szZone : List AV → Option (Prop × AV)
  | [.agg [.str s_nm, .int .i64 s_x0, .int .i64 s_y0, .int .i64 s_x1, .int .i64 s_y1], .int .i64 b] => some ((True) ∧ ((0 ≤ b ∧ b ≤ 1048576) ∧ (Zone.fitp (Zone.mk s_nm s_x0 s_y0 s_x1 s_y1))), .int .i64 (Zone.sz (Zone.mk s_nm s_x0 s_y0 s_x1 s_y1) b))
  | _ => none
theorem h_szZone : ∀ args p v, t_szZone args = some (p, v) → p → Contract P 25 args [] v [] ∧ noref v = true ∧ No99 v := by
  intro args p v h1 h2
  unfold t_szZone at h1
  split at h1
  · rename_i s_nm s_x0 s_y0 s_x1 s_y1 b
    cases h1
    obtain ⟨_, HP⟩ := h2
    have := c_szZone (Zone.mk s_nm s_x0 s_y0 s_x1 s_y1) b HP.1 HP.2
    exact ⟨by simpa only [Zone.row] using this, rfl, trivial⟩
  · cases h1
theorem c_szZoneS (t : Nat) (l : List Zone) (a : Int) (ha : 0 ≤ a ∧ a ≤ 1048576) (hl : l.length ≤ 9223372036854775807 ∧ ∀ y ∈ l, y.fitp) : Contract P 6 [.sl t 5 (l.map Zone.row), .int .i64 a] [] (.int .i64 (szS Zone.sz l a)) [] := by
  refine fn_sound ((Env.nil P).add 25 t_szZone h_szZone) hm k_laws_szHandZoneS (Nat.le_of_ble_eq_true rfl) rfl ?_; unfold s_laws_szHandZoneS; simp (config := { maxSteps := 2000000 }) only [w_skip, w_rg, w_rgd, w_seq, w_cond, w_block, w_loop, w_exit, w_ret, w_gh, w_rg0, w_rg1, w_rgT, w_rgF, w_run, w_psd, w_und, w_dr0, w_dr1, w_drT, w_drF, w_drRun, w_drPsd, w_drUnd, w_drKn, w_drKs, w_putK, w_trimK, w_thenN, w_thenE, w_thenR, w_scope, w_label, w_blkN, w_blkE, w_blkR, w_call, w_callV, w_callF, o_clos, o_b2s, b2sE, w_effK, brU_true, brU_false, brU_u, brU_not, brU_and, brU_or, brU_dec, brU_eq, brU_ne, br_true, br_false, br_not, br_and, br_or, br_dec, br_eq, br_ne, w_getE0, w_getE1, w_setE0, w_setE1, w_dropE0, w_dropE1, w_drop0, w_drop1, w_getM0, w_getM1, w_setM0, w_setM1, ev_v, ev_c, w_putS, w_putN, w_lit, w_apU0, w_apU1, w_apU2, w_trim, enumE0, enumE1, w_callWp, w_callA0, w_callA1, w_R0, w_R1, w_R2, w_T2, w_callL, w_callT, w_T1, w_T0, o_mv, o_newnil, o_pick, o_bin, o_binN, o_neg, o_not, o_eqB, o_eqS, o_conv, o_alloc, o_box, o_load1, o_loadN, o_store, o_nilck, o_faddr, o_field1, o_fieldN, o_iaddr, o_istr, o_slStr, o_slSl, o_lenS, o_lenL, o_mx, o_mn, o_ext, o_build, o_lit, o_litOwn, o_app, o_mk, o_mvfrz, u_M1, u_M0, u_E1, optI, List.length_take, Int.toNat_zero, List.drop_zero, u_E0, o_idxN, o_idx, o_mset, o_look, o_mkmap, l_int, l_bool, l_str, l_agg, l_sl, l_own, l_ptr, l_pp, i_int, i_bool, i_str, i_sl, i_own, i_ptr, i_pp, all0, all1, e_ok1, eff, effBin, effBinN, ld_ptr, ld_pp, ld_elt, ia_own, ia_arr, el_1, el_N, load1K, faddrE, r_iaddr, sg_S, sg_c, sg_n, purL, pur, List.map, List.drop, List.take, List.length, List.foldl, List.append_eq, List.nil_append, List.cons_append, List.getD_cons_zero, List.getD_cons_succ, reduceIte, Nat.reduceEqDiff, Nat.reduceAdd, Nat.reduceLeDiff, true_and, and_true, Bool.not_true, Bool.not_false, Bool.and_true, Bool.true_and, Bool.and_self, reduceCtorEq, true_implies, false_implies, implies_true, decide_eq_true_eq, Option.map_some, fpOf, fpX, SOp.xs, oX, refs, refsL, dom, disj, List.all_nil, List.all_cons, List.contains_cons, List.contains_nil, Nat.reduceBEq, Bool.or_false, Bool.false_or, List.append_nil, Bool.not_false, Bool.not_true, List.forall_mem_cons, fm0, List.set, Nat.reduceLT, ne_eq, not_false_eq_true, not_true_eq_false, ret1, ret1N, keep0, keep1, rf_int, rf_bool, rf_str, rf_sl, rf_agg, rf_tup, rfL0, rfL1, re_t, re_cN, re_L0, re_L1, ret_tup, ret_one, decide_true, AV.bool.injEq, AV.int.injEq, Nat.reduceLeDiff, decide_eq_true_eq, decide_eq_false_iff_not, Int.toNat_natCast, List.length_map, decide_false, ghost, noref, flatOk, refsInO, wkM, str_eq, int_eq, int_ne, dec_beq, bool_beq, str_lt, str_le, false_dec, true_dec, Classical.not_not, t_szZone, Zone.row, Zone_eta, Box6.row, box_eta6, tk_map, dp_map, toNat_pred, unZone_mk, appE, rowsOf, List.take_length, List.length_cons, List.length_nil, Nat.zero_add, srow, irow, un_s, un_i, un_box, un_Zone, un_Own, un_Part, un_Seen, un_Word, Word.row, Word_eta, Own.row, Own_eta, Part.row, Part_eta, Seen.row, Seen_eta, Book.row, Book_eta, Sector.row, Sector_eta, HCraft.row, HCraft_eta, World.row, World_eta, un_Word, un_Own, un_Part, un_Seen, un_Book, un_Sector, un_HCraft, un_World, List.take_zero, List.foldl_nil]
  have hz : szOf a l.length = if a - l.length < 0 then -1 else a - l.length := rfl
  refine ⟨by omega, fun h1 => ?_, fun h1 => ?_⟩
  · unfold szS
    rw [(fold_meas meas_Zone l _ (by omega) (by omega)).2.1 (by omega)]
  have e0 : szOf a l.length = a - l.length := if_neg h1
  refine loop_st (fun i : Nat => [(1, .int .i64 ((l.take i).foldl (fun a x => x.sz a) (a - l.length))), (5, .int .i64 i)]) (fun _ => []) (fun i => i ≤ l.length ∧ 0 ≤ (l.take i).foldl (fun a x => x.sz a) (a - l.length)) (fun i => l.length - i) (0) (by simp only [u_E0, u_E1, u_M0, u_M1, w_setE0, w_setE1, w_setM0, w_setM1, reduceIte, Nat.reduceEqDiff]; exact ⟨by repeat' (first | exact trivial | refine ⟨.inr rfl, ?_⟩), by repeat' (first | exact trivial | refine ⟨rfl, ?_⟩), by first | rfl | simp [closedB, refsIn, refsInL, refsInO, dom, refsInL_nr, *], by first | rfl | simp [keepB, dom]⟩) ?_ ?_
  · simp only [List.take_zero, List.foldl_nil]; omega
  intro i hi NX hN
  have hm := (fold_meas meas_Zone (l.take i) (a - l.length) (by omega) (by omega)).2.2
  have hg : i < l.length → (l.getD i default).fitp := fun h => hl.2 _ (getD_mem' h)
  have hn : i < l.length → (l.take (i + 1)).foldl (fun a x => x.sz a) (a - l.length) = (l.getD i default).sz ((l.take i).foldl (fun a x => x.sz a) (a - l.length)) := fun h => fold_take (f := Zone.sz) h
  have hs : i < l.length → (l.getD i default).sz ((l.take i).foldl (fun a x => x.sz a) (a - l.length)) < 0 → szS Zone.sz l a = -1 := fun h h2 => by unfold szS; rw [e0]; exact fold_stop meas_Zone h (by omega) (by omega) h2
  unfold l_laws_szHandZoneS_0; simp (config := { maxSteps := 2000000 }) only [w_skip, w_rg, w_rgd, w_seq, w_cond, w_block, w_loop, w_exit, w_ret, w_gh, w_rg0, w_rg1, w_rgT, w_rgF, w_run, w_psd, w_und, w_dr0, w_dr1, w_drT, w_drF, w_drRun, w_drPsd, w_drUnd, w_drKn, w_drKs, w_putK, w_trimK, w_thenN, w_thenE, w_thenR, w_scope, w_label, w_blkN, w_blkE, w_blkR, w_call, w_callV, w_callF, o_clos, o_b2s, b2sE, w_effK, brU_true, brU_false, brU_u, brU_not, brU_and, brU_or, brU_dec, brU_eq, brU_ne, br_true, br_false, br_not, br_and, br_or, br_dec, br_eq, br_ne, w_getE0, w_getE1, w_setE0, w_setE1, w_dropE0, w_dropE1, w_drop0, w_drop1, w_getM0, w_getM1, w_setM0, w_setM1, ev_v, ev_c, w_putS, w_putN, w_lit, w_apU0, w_apU1, w_apU2, w_trim, enumE0, enumE1, w_callWp, w_callA0, w_callA1, w_R0, w_R1, w_R2, w_T2, w_callL, w_callT, w_T1, w_T0, o_mv, o_newnil, o_pick, o_bin, o_binN, o_neg, o_not, o_eqB, o_eqS, o_conv, o_alloc, o_box, o_load1, o_loadN, o_store, o_nilck, o_faddr, o_field1, o_fieldN, o_iaddr, o_istr, o_slStr, o_slSl, o_lenS, o_lenL, o_mx, o_mn, o_ext, o_build, o_lit, o_litOwn, o_app, o_mk, o_mvfrz, u_M1, u_M0, u_E1, optI, List.length_take, Int.toNat_zero, List.drop_zero, u_E0, o_idxN, o_idx, o_mset, o_look, o_mkmap, l_int, l_bool, l_str, l_agg, l_sl, l_own, l_ptr, l_pp, i_int, i_bool, i_str, i_sl, i_own, i_ptr, i_pp, all0, all1, e_ok1, eff, effBin, effBinN, ld_ptr, ld_pp, ld_elt, ia_own, ia_arr, el_1, el_N, load1K, faddrE, r_iaddr, sg_S, sg_c, sg_n, purL, pur, List.map, List.drop, List.take, List.length, List.foldl, List.append_eq, List.nil_append, List.cons_append, List.getD_cons_zero, List.getD_cons_succ, reduceIte, Nat.reduceEqDiff, Nat.reduceAdd, Nat.reduceLeDiff, true_and, and_true, Bool.not_true, Bool.not_false, Bool.and_true, Bool.true_and, Bool.and_self, reduceCtorEq, true_implies, false_implies, implies_true, decide_eq_true_eq, Option.map_some, fpOf, fpX, SOp.xs, oX, refs, refsL, dom, disj, List.all_nil, List.all_cons, List.contains_cons, List.contains_nil, Nat.reduceBEq, Bool.or_false, Bool.false_or, List.append_nil, Bool.not_false, Bool.not_true, List.forall_mem_cons, fm0, List.set, Nat.reduceLT, ne_eq, not_false_eq_true, not_true_eq_false, ret1, ret1N, keep0, keep1, rf_int, rf_bool, rf_str, rf_sl, rf_agg, rf_tup, rfL0, rfL1, re_t, re_cN, re_L0, re_L1, ret_tup, ret_one, decide_true, AV.bool.injEq, AV.int.injEq, Nat.reduceLeDiff, decide_eq_true_eq, decide_eq_false_iff_not, Int.toNat_natCast, List.length_map, decide_false, ghost, noref, flatOk, refsInO, wkM, str_eq, int_eq, int_ne, dec_beq, bool_beq, str_lt, str_le, false_dec, true_dec, Classical.not_not, t_szZone, Zone.row, Zone_eta, Box6.row, box_eta6, tk_map, dp_map, toNat_pred, unZone_mk, appE, rowsOf, List.take_length, List.length_cons, List.length_nil, Nat.zero_add, srow, irow, un_s, un_i, un_box, un_Zone, un_Own, un_Part, un_Seen, un_Word, Word.row, Word_eta, Own.row, Own_eta, Part.row, Part_eta, Seen.row, Seen_eta, Book.row, Book_eta, Sector.row, Sector_eta, HCraft.row, HCraft_eta, World.row, World_eta, un_Word, un_Own, un_Part, un_Seen, un_Book, un_Sector, un_HCraft, un_World, List.take_zero, List.foldl_nil]
  refine ⟨fun h2 => ⟨by omega, by omega, ⟨⟨by omega, by omega⟩, hg (by omega)⟩, fun h3 => by rw [hs (by omega) h3], fun h3 => ⟨by omega, ?_⟩⟩, fun h2 => ?_⟩
  · have e := hn (by omega)
    refine hN (i + 1) _ (by simp only [e, List.length_append, List.length_cons, List.length_nil, Nat.zero_add, List.map_append, List.map_cons, List.map_nil, u_E0, u_E1, u_M0, u_M1, w_setE0, w_setE1, w_setM0, w_setM1, reduceIte, Nat.reduceEqDiff]; exact ⟨by repeat' (first | exact trivial | refine ⟨.inr rfl, ?_⟩), by repeat' (first | exact trivial | refine ⟨rfl, ?_⟩), by first | rfl | simp [closedB, refsIn, refsInL, refsInO, dom, refsInL_nr, *], by first | rfl | simp [keepB, dom]⟩) ?_ ?_
    · exact ⟨by omega, by rw [e]; omega⟩
    · omega
  · have e : i = l.length := by omega
    subst e
    simp only [List.take_length]; unfold szS; rw [e0]
def t_szZoneS : List AV → Option (Prop × AV)
  | [.sl lt 5 lx, .int .i64 b] => some ((((lx.map unZone).map Zone.row = lx)) ∧ ((0 ≤ b ∧ b ≤ 1048576) ∧ ((lx.map unZone).length ≤ 9223372036854775807 ∧ ∀ y ∈ (lx.map unZone), Zone.fitp y)), .int .i64 (szS Zone.sz (lx.map unZone) b))
  | _ => none
theorem h_szZoneS : ∀ args p v, t_szZoneS args = some (p, v) → p → Contract P 6 args [] v [] ∧ noref v = true ∧ No99 v := by
  intro args p v h1 h2
  unfold t_szZoneS at h1
  split at h1
  · rename_i lt lx b
    cases h1
    obtain ⟨e0, HP⟩ := h2
    have := c_szZoneS lt (lx.map unZone) b HP.1 HP.2
    exact ⟨by simpa only [e0] using this, rfl, trivial⟩
  · cases h1
end
end Go.Ve

